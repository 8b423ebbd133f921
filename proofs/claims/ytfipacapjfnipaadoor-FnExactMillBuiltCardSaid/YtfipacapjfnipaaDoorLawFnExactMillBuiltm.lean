import Derived.Test.YtfipacapjfnipaaDoorCards
import Derived.Test.YtfipacapjfnipaaDoorTie
import Derived.Test.YtfipacapjfnipaaDoorQmFnExactMillBuilt1
import Derived.LaidMore
import Derived.ChangeVars
import Derived.JoinedOf
import Derived.SevenTiedAt
import Derived.Handed
import Derived.Test.YtfipacapjfnipaaDoorRows
import Derived.Test.YtfipacapjfnipaaDoorQmFnExactMillBuilt6
import Derived.WalkKit
import Derived.ProofKit
import Derived.OpenShut
import Derived.ShutString
import Derived.ChangeOld
import Derived.Below
import Derived.SizedLaws
/- For every input the law FnExactMillBuilt returns true and its arguments read as before; the pure statement is proved in YtfipacapjfnipaaDoorPureFnExactMillBuilt. No condition. -/
namespace Go.Proofs.YtfipacapjfnipaaDoor.fnExactMillBuilt
open Go.ChangeShapes Go.WideShapes Go.ChangeAt Go.RowKit Go.Proofs.YtfipacapjfnipaaDoor.Q Go.Proofs.YtfipacapjfnipaaDoorW.PrintWords Go.Proofs.YtfipacapjfnipaaDoor.Opens Go.Proofs.YtfipacapjfnipaaDoor.PureFnExactMillBuilt
open Go.ChangeMaps (open_string shut_string)
set_option linter.unusedVariables false
theorem op34 : Opens Tryd.prog 34 k34 G34 := of_iso (fun x : S34 => (x.f0, x.f1, x.f2)) (fun a => ⟨a.1, a.2.1, a.2.2⟩) (fun _ => rfl) (of_struct Tryd.underlying34 (by kernel_rfl) (fields_cons rfl (by kernel_rfl) (of_int Tryd.underlying3) (fields_cons rfl (by kernel_rfl) (of_int Tryd.underlying2) (fields_one rfl (by kernel_rfl) (of_string Tryd.underlying9)))))
theorem own : ownKnob Tryd.prog.godebug = none := by kernel_rfl
theorem laidOut : laidOutB Tryd.prog = true := by kernel_rfl
theorem door_met (os : Os) (args : Array Value) : laidMetH Tryd.prog Rows.fnExactMillBuiltRow.laid ((World.doorLaid Tryd.prog 4000 os).forCall (fun _ _ => 0) ⟨#[], args, []⟩).memory :=
  laidMetH_of_parts3 (fuel := 8) (laidMet_of_run' 8 (by kernel_rfl) (by kernel_rfl)) (by kernel_rfl) (by kernel_rfl)
/-- The listed variable reads as it did. -/
theorem var_kept {H : Type} {enc : TypeId × Value → H} {W W' : World} {n : String} {t : TypeId} {cs : Array Value} {fuel : Nat} {d : DataW H} {p : List MemPlace}
    (hg : Tryd.prog.globalNamed n = some 0) (ht : (Tryd.prog.globals[0]?).map (·.type) = some t) (hv : W.var? Tryd.prog n = some cs) (hd : DataW.trod enc Tryd.prog W 0 (fun _ => true) true fuel t cs.toList = some (d, p)) (bel : Below W.heap.size W W') :
    DataW.TrodVars enc Tryd.prog W' (fun b => decide (b < W.heap.size)) [n] [d] (MemPlace.row ⟨0, 0, none⟩ cs.size ++ p) := by
  obtain rfl := Option.some.inj (ty0.symm.trans ht)
  have hcs : ∃ v, cs.toList = [v] ∧ v.cells.toList = [v] := by
    rcases DataW.trod_slice Tryd.underlying63 hd with ⟨e, _⟩ | ⟨a, len, cap, _, _, _, _, e, _⟩
    · exact ⟨_, e, rfl⟩
    · exact ⟨_, e, rfl⟩
  obtain ⟨v, e1, e2⟩ := hcs
  have hT : DataW.Trod enc Tryd.prog W 0 (fun _ => true) true 63 v d p := ⟨fuel, by rw [e2, ← e1]; exact hd⟩
  have lt : ∀ x ∈ p, x.block < W.heap.size := DataW.trod_lt fuel _ _ _ hd
  obtain ⟨fuel2, hd2⟩ := Below.trod laidOut (by kernel_rfl) (of_decide_eq_true (by kernel_rfl)) hT bel lt
  rw [e2, ← e1] at hd2
  have hv2 : W'.var? Tryd.prog n = some cs := by
    unfold World.var? at hv ⊢
    rw [hg] at hv ⊢
    simp only [Option.bind_some] at hv ⊢
    have hlt : 0 < W.heap.size := by
      rcases Nat.lt_or_ge 0 W.heap.size with h' | h'
      · exact h'
      · rw [Array.getElem?_eq_none h'] at hv; simp at hv
    rw [bel.block 0 hlt]
    exact hv
  exact trodVars_mk1 hg ty0 hv2 hd2
set_option maxHeartbeats 1000000 in
set_option maxRecDepth 100000 in
theorem lifted_at {H : Type} {enc : TypeId × Value → H} (W : World) (base : Nat) (args : Array Value) (ds gs : List (DataW H)) (before : List MemPlace)
    (hval0 : ∀ (j : Nat) t v, Tryd.f3.params[j]? = some t → args[j]? = some v → Value.okWide Tryd.prog W .any base t v)
    (hW : DataW.Whole enc Tryd.prog Tryd.f3.params.toList Rows.fnExactMillBuiltSpec.vars false W args.toList ds gs before)
    (hsz0 : (DataW.weightsEach Tryd.prog (Tryd.f3.params.toList ++ Rows.fnExactMillBuiltSpec.plain.varTypes Tryd.prog) (ds ++ gs)).all (· ≤ reachBytes) = true) (hG : Glob W) :
    Calls Tryd.prog 3 args W fun e W' => ∃ v, e = .returned v ∧ Rows.fnExactMillBuiltSpec.post enc Tryd.prog Tryd.f3 false true false false W args v W' := by
  have hsz : (DataW.weightsEach Tryd.prog (Tryd.f3.params.toList ++ Rows.fnExactMillBuiltSpec.plain.varTypes Tryd.prog) (ds ++ gs)).all (· ≤ reachBytes) = true := hsz0
  have hval : ∀ (j : Nat) t v, Tryd.f3.params[j]? = some t → args[j]? = some v → Value.okWide Tryd.prog W .any base t v := hval0
  have hW' := hW
  obtain ⟨p, q, hA0, hV, rfl, hfz, hnd⟩ := hW
  have hA : DataW.TrodAll enc Tryd.prog W 0 (fun _ => true) true Tryd.f3.params.toList args.toList ds p := hA0
  rw [Tryd.params3] at hA hval hsz
  obtain ⟨v0, vs0, d0, ds0, p0, q0, hargs, rfl, rfl, h0, r0⟩ := trodAll_cons hA
  obtain ⟨v1, vs1, d1, ds1, p1, q1, rfl, rfl, rfl, h1, r1⟩ := trodAll_cons r0
  obtain ⟨rfl, rfl, rfl⟩ := trodAll_nil r1
  obtain rfl : args = #[v0, v1] := by cases args; simp_all
  obtain ⟨gv, tv, cv, fv, dv, pv, rfl, hgv, htv, hvv, hdv, rfl⟩ := trodVars_one hV
  obtain rfl := Option.some.inj (g0.symm.trans hgv)
  obtain rfl := Option.some.inj (ty0.symm.trans htv)
  have k0 := h0
  have lt0 : ∀ x ∈ p0, x.block < W.heap.size := by obtain ⟨m, hm⟩ := k0; exact DataW.trod_lt m _ _ _ hm
  obtain ⟨x0, K0, g0⟩ := Opens.arg (of_int Tryd.underlying3) hsz (j := 0) (t := 3) rfl rfl h0
  obtain ⟨y0, rfl, _, _, _⟩ := open_int Tryd.underlying3 (hval 0 3 v0 rfl rfl) h0
  obtain rfl : x0 = y0 := by have e : [Value.int .i64 y0] = [.int .i64 x0] := K0; simpa using e.symm
  have k1 := h1
  have lt1 : ∀ x ∈ p1, x.block < W.heap.size := by obtain ⟨m, hm⟩ := k1; exact DataW.trod_lt m _ _ _ hm
  obtain ⟨x1, K1, g1⟩ := Opens.arg (of_slice (B := 32) (d := k34) (G := G34) Tryd.underlying22 (by kernel_rfl) (by kernel_rfl) op34) hsz (j := 1) (t := 22) rfl rfl h1
  obtain ⟨a1, len1, cap1, rfl⟩ := okWide_slice Tryd.underlying22 (hval 1 22 v1 rfl rfl)
  obtain ⟨A1_0, c1_0, e1, hc1_0, hr1_0⟩ := K1
  simp only [Value.cells, List.cons.injEq, Value.slice.injEq, and_true] at e1
  obtain ⟨ea1, eb1, ec1⟩ := e1; obtain rfl := ea1.symm; obtain rfl := eb1.symm; obtain rfl := ec1.symm
  clear hA0 hval0 hsz0 hsz
  obtain ⟨n, hP⟩ := PureFnExactMillBuilt.FnExactMillBuilt x0 x1 g0 g1
  refine (laws_FnExactMillBuilt.calls n x0 A1_0 c1_0 x1 true W hG hr1_0 hc1_0 hP).mono ?_
  rintro e W' ⟨rfl, bel⟩
  exact ⟨_, rfl, _, _, _, [], _, _, hW', trodAll_mk1 (shut_bool Tryd.underlying4 _), (trodAll_cons_mk (Below.trod laidOut (by kernel_rfl) (of_decide_eq_true (by kernel_rfl)) k0 bel lt0) (trodAll_cons_mk (Below.trod laidOut (by kernel_rfl) (of_decide_eq_true (by kernel_rfl)) k1 bel lt1) trodAll_mk0)), var_kept hgv htv hvv hdv bel, bel.frame _, fun h => by cases h⟩
set_option maxHeartbeats 1000000 in
set_option maxRecDepth 100000 in
theorem lifted (os : Os) (started : os.Started) (H : Type) (enc : TypeId × Value → H) :
    ReturnsInHanded {} Tryd.checked os 3 .any (fun w args => (Rows.fnExactMillBuiltSpec.pre enc Tryd.prog Tryd.f3 Rows.fnExactMillBuiltRow.domain false w args ∧ laidMetH Tryd.prog Rows.fnExactMillBuiltRow.laid w) ∧ sizedMet enc Tryd.prog Tryd.f3 (OpenSpec.ofChange Rows.fnExactMillBuiltSpec) false w args) (Rows.fnExactMillBuiltSpec.post enc Tryd.prog Tryd.f3 false true false false) := by
  refine returnsInHanded_of_calls (C := Tryd.checked) own started (by kernel_rfl)
    (ChangeSpec.witness_shaped (enc := enc) (C := Tryd.checked) (os := os) (X := fun w _ => laidMetH Tryd.prog Rows.fnExactMillBuiltRow.laid w) false (World.doorLaid Tryd.prog 4000 os) #[.int .i64 0, .slice none 0 0] 8 rfl (World.shaped_of_RefB (by kernel_rfl) (by kernel_rfl)) (by kernel_rfl) (by kernel_rfl) (by kernel_rfl) (door_met os _)) ?_
  intro w tape i _ hsh _ hok hpre hholds
  obtain ⟨_, _, _, fn', hfn', _, _, _, _, hval1⟩ := hok
  have efn : fn' = Tryd.f3 := Option.some.inj (hfn'.symm.trans Tryd.func3)
  subst efn
  obtain ⟨⟨⟨ds, gs, before, hw, hcnd⟩, hL0⟩, hz⟩ := hpre
  have hW1 := DataW.Whole.of_heap (w' := w.forCall tape i) (by rfl) hw
  have hsz1 := hz.weights hw
  have hL1 : laidMetH Tryd.prog Rows.fnExactMillBuiltRow.laid (w.forCall tape i) := hL0.of_heap (by rfl)
  refine Calls.mono (R := fun e W' => ∃ v, e = .returned v ∧ Rows.fnExactMillBuiltSpec.post enc Tryd.checked.prog Tryd.f3 false true false false (w.forCall tape i) i.args v W') ?_ (fun e W' ⟨v, he, hp⟩ => by subst he; exact ChangeSpec.post_blind hp)
  exact lifted_at (w.forCall tape i) w.heap.size i.args ds gs before hval1 hW1 hsz1 (glob_of hsh hL1)
theorem over : Rows.fnExactMillBuiltRow.holds Tryd.pinned (OpenSpec.ofChange Rows.fnExactMillBuiltSpec) :=
  OpenClaim.holds_of_wide 3 Tryd.f3 rfl rfl rfl rfl rfl rfl rfl ⟨rfl, rfl, rfl, rfl, rfl⟩ rfl rfl rfl rfl rfl (by kernel_rfl) Tryd.func3 (by kernel_rfl)
    (of_decide_eq_true (by kernel_rfl)) (by unfold Func.isWrapper; first | (rw [if_pos (by decide +kernel)]; kernel_rfl) | (rw [if_neg (by decide +kernel)]; exact ⟨rfl, rfl⟩))
    (fun os started H enc _ => lifted os started H enc)
theorem proved : Rows.FnExactMillBuiltSaid := over
#print axioms proved
end Go.Proofs.YtfipacapjfnipaaDoor.fnExactMillBuilt
namespace Go.Proofs.YtfipacapjfnipaaDoor
/-- The row, under a short name, for the claim. -/
theorem fnExactMillBuilt_holds : Rows.FnExactMillBuiltSaid := fnExactMillBuilt.proved
set_option maxRecDepth 100000 in
/-- THE TIED CARD. -/
theorem fnExactMillBuiltCard_holds : Rows.FnExactMillBuiltCardSaid :=
  Claim7.holds_tied_plain_at .later [] [.data, .data, .data, .sentinel, .sentinel, .widerDeep] true (true, "3a7cffc7bbdffca087e683ad4d549ac596c2020e29eb63432f4226fca89c379a") true
    fnExactMillBuilt_holds (fun _ h => by cases h) (by kernel_rfl) (fun _ h => by cases h) fnExactMillBuilt_row_tie rfl ⟨rfl, rfl⟩ (by kernel_rfl) rfl
    (fun f fn hf hfn => by
      obtain rfl : f = 3 := (Option.some.inj ((show Tryd.prog.funcNamed "loop.example/kilnyard/laws.FnExactMillBuilt" = some 3 by kernel_rfl).symm.trans hf)).symm
      obtain rfl : fn = Tryd.f3 := (Option.some.inj (Tryd.func3.symm.trans hfn)).symm
      exact ⟨by kernel_rfl, fun j t ht => by
        rw [Tryd.params3] at ht
        have h3 : Tryd.prog.wantsStandIn t = false := by
          rcases j with _ | _ | _ | j
          all_goals first | (simp at ht; done) | (simp at ht; subst ht; kernel_rfl)
        exact h3⟩)
    (by kernel_rfl)
#print axioms fnExactMillBuiltCard_holds
end Go.Proofs.YtfipacapjfnipaaDoor