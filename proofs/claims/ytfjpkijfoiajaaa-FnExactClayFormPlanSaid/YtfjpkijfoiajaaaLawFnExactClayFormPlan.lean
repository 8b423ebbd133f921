/- For every input the law FnExactClayFormPlan returns true and its arguments read as before; the pure statement is proved in YtfjpkijfoiajaaaPureFnExactClayFormPlan. No condition. -/
import Derived.Test.YtfjpkijfoiajaaaRows
import Derived.Test.YtfjpkijfoiajaaaQf3
import Derived.Test.YtfjpkijfoiajaaaPureFnExactClayFormPlan
import Derived.Test.YtfjpkijfoiajaaaOpens
import Derived.WalkKit
import Derived.ProofKit
import Derived.OpenShut
import Derived.ShutString
import Derived.ChangeOld
import Derived.Below
import Derived.SizedLaws
namespace Go.Proofs.Ytfjpkijfoiajaaa.fnExactClayFormPlan
open Go.ChangeShapes Go.WideShapes Go.ChangeAt Go.RowKit Go.Proofs.Ytfjpkijfoiajaaa.Q Go.Proofs.YtfjpkijfoiajaaaW.PrintWords Go.Proofs.Ytfjpkijfoiajaaa.Opens Go.Proofs.Ytfjpkijfoiajaaa.PureFnExactClayFormPlan
open Go.ChangeMaps (open_string shut_string)
set_option linter.unusedVariables false
theorem op9 : Opens Try.prog 9 Kd.string G9 := (of_string Try.underlying9)
theorem op32 : Opens Try.prog 32 k32 G32 := of_iso (fun x : S32 => (x.f0, x.f1, x.f2, x.f3, x.f4)) (fun a => ⟨a.1, a.2.1, a.2.2.1, a.2.2.2.1, a.2.2.2.2⟩) (fun _ => rfl) (of_struct Try.underlying32 (by kernel_rfl) (fields_cons rfl (by kernel_rfl) (of_string Try.underlying9) (fields_cons rfl (by kernel_rfl) (of_string Try.underlying9) (fields_cons rfl (by kernel_rfl) (of_string Try.underlying9) (fields_cons rfl (by kernel_rfl) (of_slice (B := 16) (d := Kd.string) (G := G9) Try.underlying30 (by kernel_rfl) (by kernel_rfl) op9) (fields_one rfl (by kernel_rfl) (of_slice (B := 16) (d := Kd.string) (G := G9) Try.underlying30 (by kernel_rfl) (by kernel_rfl) op9)))))))
theorem own : ownKnob Try.prog.godebug = none := by kernel_rfl
theorem laidOut : laidOutB Try.prog = true := by kernel_rfl
set_option maxHeartbeats 1000000 in
set_option maxRecDepth 100000 in
theorem lifted (os : Os) (started : os.Started) (H : Type) (enc : TypeId × Value → H) :
    ReturnsInHanded {} Try.checked os 3 .any (Rows.fnExactClayFormPlanSpec.pre6 enc Try.prog Try.f3 Rows.fnExactClayFormPlanRow.domain false) (Rows.fnExactClayFormPlanSpec.post enc Try.prog Try.f3 false true false false) := by
  refine returnsInHanded_of_change_sized (C := Try.checked) own started (by kernel_rfl) Try.func3
    (ChangeSpec.witness6 (enc := enc) (C := Try.checked) false ⟨#[], #[.slice none 0 0], []⟩ 8 (by kernel_rfl) (by kernel_rfl) (by kernel_rfl) (by kernel_rfl)) ?_
  intro W base args ds gs before hval0 hW hcnd hsz0 _
  have hsz : (DataW.weightsEach Try.prog (Try.f3.params.toList ++ Rows.fnExactClayFormPlanSpec.plain.varTypes Try.prog) (ds ++ gs)).all (· ≤ reachBytes) = true := hsz0
  have hval : ∀ (j : Nat) t v, Try.f3.params[j]? = some t → args[j]? = some v → Value.okWide Try.prog W .any base t v := hval0
  have hW' := hW
  obtain ⟨p, q, hA0, hV, rfl, hfz, hnd⟩ := hW
  have hA : DataW.TrodAll enc Try.prog W 0 (fun _ => true) true Try.f3.params.toList args.toList ds p := hA0
  rw [Try.params3] at hA hval hsz
  obtain ⟨v0, vs0, d0, ds0, p0, q0, hargs, rfl, rfl, h0, r0⟩ := trodAll_cons hA
  obtain ⟨rfl, rfl, rfl⟩ := trodAll_nil r0
  obtain rfl : args = #[v0] := by cases args; simp_all
  obtain ⟨rfl, rfl⟩ := trodVars_none hV
  have k0 := h0
  have lt0 : ∀ x ∈ p0, x.block < W.heap.size := by obtain ⟨m, hm⟩ := k0; exact DataW.trod_lt m _ _ _ hm
  obtain ⟨x0, K0, g0⟩ := Opens.arg (of_slice (B := 96) (d := k32) (G := G32) Try.underlying22 (by kernel_rfl) (by kernel_rfl) op32) hsz (j := 0) (t := 22) rfl rfl h0
  obtain ⟨a0, len0, cap0, rfl⟩ := okWide_slice Try.underlying22 (hval 0 22 v0 rfl rfl)
  obtain ⟨A0_0, c0_0, e0, hc0_0, hr0_0⟩ := K0
  simp only [Value.cells, List.cons.injEq, Value.slice.injEq, and_true] at e0
  obtain ⟨ea0, eb0, ec0⟩ := e0; obtain rfl := ea0.symm; obtain rfl := eb0.symm; obtain rfl := ec0.symm
  clear hA0 hval0 hsz0 hsz
  obtain ⟨n, hP⟩ := PureFnExactClayFormPlan.FnExactClayFormPlan x0 g0
  refine (laws_FnExactClayFormPlan.calls n A0_0 c0_0 x0 true W hr0_0 hc0_0 hP).mono ?_
  rintro e W' ⟨rfl, bel⟩
  exact ⟨_, rfl, _, _, _, [], _, [], hW', trodAll_mk1 (shut_bool Try.underlying4 _), (trodAll_cons_mk (Below.trod laidOut (by kernel_rfl) (of_decide_eq_true (by kernel_rfl)) k0 bel lt0) trodAll_mk0), rfl, bel.frame _, fun h => by cases h⟩
theorem over : Rows.fnExactClayFormPlanRow.holds Try.pinned (OpenSpec.ofChange Rows.fnExactClayFormPlanSpec) :=
  OpenClaim.holds_of_wide 3 Try.f3 rfl rfl rfl rfl rfl rfl rfl ⟨rfl, rfl, rfl, rfl, rfl⟩ rfl rfl rfl rfl rfl (by kernel_rfl) Try.func3 (by kernel_rfl)
    (of_decide_eq_true (by kernel_rfl)) (by unfold Func.isWrapper; first | (rw [if_pos (by decide +kernel)]; kernel_rfl) | (rw [if_neg (by decide +kernel)]; exact ⟨rfl, rfl⟩))
    (fun os started H enc _ => lifted os started H enc)
theorem proved : Rows.FnExactClayFormPlanSaid := over
#print axioms proved
end Go.Proofs.Ytfjpkijfoiajaaa.fnExactClayFormPlan
namespace Go.Proofs.Ytfjpkijfoiajaaa
/-- The row, under a short name, for the claim. -/
theorem fnExactClayFormPlan_holds : Rows.FnExactClayFormPlanSaid := fnExactClayFormPlan.proved
end Go.Proofs.Ytfjpkijfoiajaaa
