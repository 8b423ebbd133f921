import Derived.Test.YthbfalceldkibaaRows
import Derived.Test.YthbfalceldkibaaQmFnExactClayValidWorld4
import Derived.Test.YthbfalceldkibaaQmFnExactClayValidWorld5
import Derived.WalkKit
import Derived.ProofKit
import Derived.OpenShut
import Derived.ShutString
import Derived.ChangeOld
import Derived.Below
import Derived.SizedLaws
/- For every input the law FnExactClayValidWorld returns true and its arguments read as before; the pure statement is proved in YthbfalceldkibaaPureFnExactClayValidWorld. No condition. -/
namespace Go.Proofs.Ythbfalceldkibaa.fnExactClayValidWorld
open Go.ChangeShapes Go.WideShapes Go.ChangeAt Go.RowKit Go.Proofs.Ythbfalceldkibaa.Q Go.Proofs.YthbfalceldkibaaW.PrintWords Go.Proofs.Ythbfalceldkibaa.Opens Go.Proofs.Ythbfalceldkibaa.PureFnExactClayValidWorld
open Go.ChangeMaps (open_string shut_string)
set_option linter.unusedVariables false
theorem op161 : Opens Try.prog 161 k161 G161 := of_iso (fun x : S161 => (x.f0, x.f1)) (fun a => ⟨a.1, a.2⟩) (fun _ => rfl) (of_struct Try.underlying161 (by kernel_rfl) (fields_cons rfl (by kernel_rfl) (of_string Try.underlying9) (fields_one rfl (by kernel_rfl) (of_string Try.underlying9))))
theorem op9 : Opens Try.prog 9 Kd.string G9 := (of_string Try.underlying9)
theorem own : ownKnob Try.prog.godebug = none := by kernel_rfl
theorem laidOut : laidOutB Try.prog = true := by kernel_rfl
set_option maxHeartbeats 1000000 in
set_option maxRecDepth 100000 in
theorem lifted (os : Os) (started : os.Started) (H : Type) (enc : TypeId × Value → H) :
    ReturnsInHanded {} Try.checked os 5 .any (Rows.fnExactClayValidWorldSpec.pre6 enc Try.prog Try.f5 Rows.fnExactClayValidWorldRow.domain false) (Rows.fnExactClayValidWorldSpec.post enc Try.prog Try.f5 false true false false) := by
  refine returnsInHanded_of_change_sized (C := Try.checked) own started (by kernel_rfl) Try.func5
    (ChangeSpec.witness6 (enc := enc) (C := Try.checked) false ⟨#[], #[.agg #[.slice none 0 0, .slice none 0 0]], []⟩ 8 (by kernel_rfl) (by kernel_rfl) (by kernel_rfl) (by kernel_rfl)) ?_
  intro W base args ds gs before hval0 hW hcnd hsz0 _
  have hsz : (DataW.weightsEach Try.prog (Try.f5.params.toList ++ Rows.fnExactClayValidWorldSpec.plain.varTypes Try.prog) (ds ++ gs)).all (· ≤ reachBytes) = true := hsz0
  have hval : ∀ (j : Nat) t v, Try.f5.params[j]? = some t → args[j]? = some v → Value.okWide Try.prog W .any base t v := hval0
  have hW' := hW
  obtain ⟨p, q, hA0, hV, rfl, hfz, hnd⟩ := hW
  have hA : DataW.TrodAll enc Try.prog W 0 (fun _ => true) true Try.f5.params.toList args.toList ds p := hA0
  rw [Try.params5] at hA hval hsz
  obtain ⟨v0, vs0, d0, ds0, p0, q0, hargs, rfl, rfl, h0, r0⟩ := trodAll_cons hA
  obtain ⟨rfl, rfl, rfl⟩ := trodAll_nil r0
  obtain rfl : args = #[v0] := by cases args; simp_all
  obtain ⟨rfl, rfl⟩ := trodVars_none hV
  have k0 := h0
  have lt0 : ∀ x ∈ p0, x.block < W.heap.size := by obtain ⟨m, hm⟩ := k0; exact DataW.trod_lt m _ _ _ hm
  obtain ⟨x0, K0, g0⟩ := Opens.arg (of_struct Try.underlying43 (by kernel_rfl) (fields_cons rfl (by kernel_rfl) (of_slice (B := 32) (d := k161) (G := G161) Try.underlying40 (by kernel_rfl) (by kernel_rfl) op161) (fields_one rfl (by kernel_rfl) (of_slice (B := 16) (d := Kd.string) (G := G9) Try.underlying41 (by kernel_rfl) (by kernel_rfl) op9)))) hsz (j := 0) (t := 43) rfl rfl h0
  obtain ⟨cs0, rfl, hcs0⟩ := okWide_struct Try.underlying43 (hval 0 43 v0 rfl rfl)
  obtain ⟨_, _, e0, ⟨A0_0, c0_0, rfl, hc0_0, hr0_0⟩, ⟨A0_1, c0_1, rfl, hc0_1, hr0_1⟩⟩ := K0
  obtain rfl : cs0 = #[Value.slice A0_0 x0.1.length c0_0, Value.slice A0_1 x0.2.length c0_1] := Array.ext' e0
  clear hA0 hval0 hsz0 hsz
  obtain ⟨n, hP⟩ := PureFnExactClayValidWorld.FnExactClayValidWorld (x0.1) (x0.2) (g0.1) (g0.2)
  refine (laws_FnExactClayValidWorld.calls n A0_0 c0_0 (x0.1) A0_1 c0_1 (x0.2) true W hr0_0 hc0_0 hr0_1 hc0_1 hP).mono ?_
  rintro e W' ⟨rfl, bel⟩
  exact ⟨_, rfl, _, _, _, [], _, [], hW', trodAll_mk1 (shut_bool Try.underlying4 _), (trodAll_cons_mk (Below.trod laidOut (by kernel_rfl) (of_decide_eq_true (by kernel_rfl)) k0 bel lt0) trodAll_mk0), rfl, bel.frame _, fun h => by cases h⟩
theorem over : Rows.fnExactClayValidWorldRow.holds Try.pinned (OpenSpec.ofChange Rows.fnExactClayValidWorldSpec) :=
  OpenClaim.holds_of_wide 5 Try.f5 rfl rfl rfl rfl rfl rfl rfl ⟨rfl, rfl, rfl, rfl, rfl⟩ rfl rfl rfl rfl rfl (by kernel_rfl) Try.func5 (by kernel_rfl)
    (of_decide_eq_true (by kernel_rfl)) (by unfold Func.isWrapper; first | (rw [if_pos (by decide +kernel)]; kernel_rfl) | (rw [if_neg (by decide +kernel)]; exact ⟨rfl, rfl⟩))
    (fun os started H enc _ => lifted os started H enc)
theorem proved : Rows.FnExactClayValidWorldSaid := over
#print axioms proved
end Go.Proofs.Ythbfalceldkibaa.fnExactClayValidWorld
namespace Go.Proofs.Ythbfalceldkibaa
/-- The row, under a short name, for the claim. -/
theorem fnExactClayValidWorld_holds : Rows.FnExactClayValidWorldSaid := fnExactClayValidWorld.proved
end Go.Proofs.Ythbfalceldkibaa
