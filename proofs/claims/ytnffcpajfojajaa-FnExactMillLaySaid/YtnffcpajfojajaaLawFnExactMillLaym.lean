import Derived.Test.YtnffcpajfojajaaRows
import Derived.Test.YtnffcpajfojajaaQmFnExactMillLay4
import Derived.WalkKit
import Derived.ProofKit
import Derived.OpenShut
import Derived.ShutString
import Derived.ChangeOld
import Derived.Below
import Derived.SizedLaws
/- For every input the law FnExactMillLay returns true and its arguments read as before; the pure statement is proved in YtnffcpajfojajaaPureFnExactMillLay. No condition. -/
namespace Go.Proofs.Ytnffcpajfojajaa.fnExactMillLay
open Go.ChangeShapes Go.WideShapes Go.ChangeAt Go.RowKit Go.Proofs.Ytnffcpajfojajaa.Q Go.Proofs.YtnffcpajfojajaaW.PrintWords Go.Proofs.Ytnffcpajfojajaa.Opens Go.Proofs.Ytnffcpajfojajaa.PureFnExactMillLay
open Go.ChangeMaps (open_string shut_string)
set_option linter.unusedVariables false
theorem op49 : Opens Try.prog 49 k49 G49 := of_iso (fun x : S49 => (x.f0, x.f1)) (fun a => ⟨a.1, a.2⟩) (fun _ => rfl) (of_struct Try.underlying49 (by kernel_rfl) (fields_cons rfl (by kernel_rfl) (of_string Try.underlying9) (fields_one rfl (by kernel_rfl) (of_string Try.underlying9))))
theorem own : ownKnob Try.prog.godebug = none := by kernel_rfl
theorem laidOut : laidOutB Try.prog = true := by kernel_rfl
set_option maxHeartbeats 1000000 in
set_option maxRecDepth 100000 in
theorem lifted (os : Os) (started : os.Started) (H : Type) (enc : TypeId × Value → H) :
    ReturnsInHanded {} Try.checked os 3 .any (Rows.fnExactMillLaySpec.pre6 enc Try.prog Try.f3 Rows.fnExactMillLayRow.domain false) (Rows.fnExactMillLaySpec.post enc Try.prog Try.f3 false true false false) := by
  refine returnsInHanded_of_change_sized (C := Try.checked) own started (by kernel_rfl) Try.func3
    (ChangeSpec.witness6 (enc := enc) (C := Try.checked) false ⟨#[], #[.agg #[.slice none 0 0], .slice none 0 0], []⟩ 8 (by kernel_rfl) (by kernel_rfl) (by kernel_rfl) (by kernel_rfl)) ?_
  intro W base args ds gs before hval0 hW hcnd hsz0 _
  have hsz : (DataW.weightsEach Try.prog (Try.f3.params.toList ++ Rows.fnExactMillLaySpec.plain.varTypes Try.prog) (ds ++ gs)).all (· ≤ reachBytes) = true := hsz0
  have hval : ∀ (j : Nat) t v, Try.f3.params[j]? = some t → args[j]? = some v → Value.okWide Try.prog W .any base t v := hval0
  have hW' := hW
  obtain ⟨p, q, hA0, hV, rfl, hfz, hnd⟩ := hW
  have hA : DataW.TrodAll enc Try.prog W 0 (fun _ => true) true Try.f3.params.toList args.toList ds p := hA0
  rw [Try.params3] at hA hval hsz
  obtain ⟨v0, vs0, d0, ds0, p0, q0, hargs, rfl, rfl, h0, r0⟩ := trodAll_cons hA
  obtain ⟨v1, vs1, d1, ds1, p1, q1, rfl, rfl, rfl, h1, r1⟩ := trodAll_cons r0
  obtain ⟨rfl, rfl, rfl⟩ := trodAll_nil r1
  obtain rfl : args = #[v0, v1] := by cases args; simp_all
  obtain ⟨rfl, rfl⟩ := trodVars_none hV
  have k0 := h0
  have lt0 : ∀ x ∈ p0, x.block < W.heap.size := by obtain ⟨m, hm⟩ := k0; exact DataW.trod_lt m _ _ _ hm
  obtain ⟨x0, K0, g0⟩ := Opens.arg (of_struct Try.underlying24 (by kernel_rfl) (fields_one rfl (by kernel_rfl) (of_slice (B := 32) (d := k49) (G := G49) Try.underlying22 (by kernel_rfl) (by kernel_rfl) op49))) hsz (j := 0) (t := 24) rfl rfl h0
  obtain ⟨cs0, rfl, hcs0⟩ := okWide_struct Try.underlying24 (hval 0 24 v0 rfl rfl)
  obtain ⟨A0_0, c0_0, e0, hc0_0, hr0_0⟩ := K0
  obtain rfl : cs0 = #[Value.slice A0_0 x0.length c0_0] := Array.ext' e0
  have k1 := h1
  have lt1 : ∀ x ∈ p1, x.block < W.heap.size := by obtain ⟨m, hm⟩ := k1; exact DataW.trod_lt m _ _ _ hm
  obtain ⟨x1, K1, g1⟩ := Opens.arg (of_slice (B := 32) (d := k49) (G := G49) Try.underlying22 (by kernel_rfl) (by kernel_rfl) op49) hsz (j := 1) (t := 22) rfl rfl h1
  obtain ⟨a1, len1, cap1, rfl⟩ := okWide_slice Try.underlying22 (hval 1 22 v1 rfl rfl)
  obtain ⟨A1_0, c1_0, e1, hc1_0, hr1_0⟩ := K1
  simp only [Value.cells, List.cons.injEq, Value.slice.injEq, and_true] at e1
  obtain ⟨ea1, eb1, ec1⟩ := e1; obtain rfl := ea1.symm; obtain rfl := eb1.symm; obtain rfl := ec1.symm
  clear hA0 hval0 hsz0 hsz
  obtain ⟨n, hP⟩ := PureFnExactMillLay.FnExactMillLay x0 x1 g0 g1
  refine (laws_FnExactMillLay.calls n A0_0 c0_0 x0 A1_0 c1_0 x1 true W hr0_0 hc0_0 hr1_0 hc1_0 hP).mono ?_
  rintro e W' ⟨rfl, bel⟩
  exact ⟨_, rfl, _, _, _, [], _, [], hW', trodAll_mk1 (shut_bool Try.underlying4 _), (trodAll_cons_mk (Below.trod laidOut (by kernel_rfl) (of_decide_eq_true (by kernel_rfl)) k0 bel lt0) (trodAll_cons_mk (Below.trod laidOut (by kernel_rfl) (of_decide_eq_true (by kernel_rfl)) k1 bel lt1) trodAll_mk0)), rfl, bel.frame _, fun h => by cases h⟩
theorem over : Rows.fnExactMillLayRow.holds Try.pinned (OpenSpec.ofChange Rows.fnExactMillLaySpec) :=
  OpenClaim.holds_of_wide 3 Try.f3 rfl rfl rfl rfl rfl rfl rfl ⟨rfl, rfl, rfl, rfl, rfl⟩ rfl rfl rfl rfl rfl (by kernel_rfl) Try.func3 (by kernel_rfl)
    (of_decide_eq_true (by kernel_rfl)) (by unfold Func.isWrapper; first | (rw [if_pos (by decide +kernel)]; kernel_rfl) | (rw [if_neg (by decide +kernel)]; exact ⟨rfl, rfl⟩))
    (fun os started H enc _ => lifted os started H enc)
theorem proved : Rows.FnExactMillLaySaid := over
#print axioms proved
end Go.Proofs.Ytnffcpajfojajaa.fnExactMillLay
namespace Go.Proofs.Ytnffcpajfojajaa
/-- The row, under a short name, for the claim. -/
theorem fnExactMillLay_holds : Rows.FnExactMillLaySaid := fnExactMillLay.proved
end Go.Proofs.Ytnffcpajfojajaa
