import Derived.Test.YtnffcpajfojajaaRows
import Derived.Test.YtnffcpajfojajaaQmFnExactHouseClays6
import Derived.Test.YtnffcpajfojajaaQmFnExactHouseClays7
import Derived.WalkKit
import Derived.ProofKit
import Derived.OpenShut
import Derived.ShutString
import Derived.ChangeOld
import Derived.Below
import Derived.SizedLaws
/- For every input the law FnExactHouseClays returns true and its arguments read as before; the pure statement is proved in YtnffcpajfojajaaPureFnExactHouseClays. No condition. -/
namespace Go.Proofs.Ytnffcpajfojajaa.fnExactHouseClays
open Go.ChangeShapes Go.WideShapes Go.ChangeAt Go.RowKit Go.Proofs.Ytnffcpajfojajaa.Q Go.Proofs.YtnffcpajfojajaaW.PrintWords Go.Proofs.Ytnffcpajfojajaa.Opens Go.Proofs.Ytnffcpajfojajaa.PureFnExactHouseClays
open Go.ChangeMaps (open_string shut_string)
set_option linter.unusedVariables false
theorem op49 : Opens Try.prog 49 k49 G49 := of_iso (fun x : S49 => (x.f0, x.f1)) (fun a => ⟨a.1, a.2⟩) (fun _ => rfl) (of_struct Try.underlying49 (by kernel_rfl) (fields_cons rfl (by kernel_rfl) (of_string Try.underlying9) (fields_one rfl (by kernel_rfl) (of_string Try.underlying9))))
theorem own : ownKnob Try.prog.godebug = none := by kernel_rfl
theorem laidOut : laidOutB Try.prog = true := by kernel_rfl
set_option maxHeartbeats 1000000 in
set_option maxRecDepth 100000 in
theorem lifted (os : Os) (started : os.Started) (H : Type) (enc : TypeId × Value → H) :
    ReturnsInHanded {} Try.checked os 4 .any (Rows.fnExactHouseClaysSpec.pre6 enc Try.prog Try.f4 Rows.fnExactHouseClaysRow.domain false) (Rows.fnExactHouseClaysSpec.post enc Try.prog Try.f4 false true false false) := by
  refine returnsInHanded_of_change_sized (C := Try.checked) own started (by kernel_rfl) Try.func4
    (ChangeSpec.witness6 (enc := enc) (C := Try.checked) false ⟨#[], #[.agg #[.slice none 0 0]], []⟩ 8 (by kernel_rfl) (by kernel_rfl) (by kernel_rfl) (by kernel_rfl)) ?_
  intro W base args ds gs before hval0 hW hcnd hsz0 _
  have hsz : (DataW.weightsEach Try.prog (Try.f4.params.toList ++ Rows.fnExactHouseClaysSpec.plain.varTypes Try.prog) (ds ++ gs)).all (· ≤ reachBytes) = true := hsz0
  have hval : ∀ (j : Nat) t v, Try.f4.params[j]? = some t → args[j]? = some v → Value.okWide Try.prog W .any base t v := hval0
  have hW' := hW
  obtain ⟨p, q, hA0, hV, rfl, hfz, hnd⟩ := hW
  have hA : DataW.TrodAll enc Try.prog W 0 (fun _ => true) true Try.f4.params.toList args.toList ds p := hA0
  rw [Try.params4] at hA hval hsz
  obtain ⟨v0, vs0, d0, ds0, p0, q0, hargs, rfl, rfl, h0, r0⟩ := trodAll_cons hA
  obtain ⟨rfl, rfl, rfl⟩ := trodAll_nil r0
  obtain rfl : args = #[v0] := by cases args; simp_all
  obtain ⟨rfl, rfl⟩ := trodVars_none hV
  have k0 := h0
  have lt0 : ∀ x ∈ p0, x.block < W.heap.size := by obtain ⟨m, hm⟩ := k0; exact DataW.trod_lt m _ _ _ hm
  obtain ⟨x0, K0, g0⟩ := Opens.arg (of_struct Try.underlying24 (by kernel_rfl) (fields_one rfl (by kernel_rfl) (of_slice (B := 32) (d := k49) (G := G49) Try.underlying22 (by kernel_rfl) (by kernel_rfl) op49))) hsz (j := 0) (t := 24) rfl rfl h0
  obtain ⟨cs0, rfl, hcs0⟩ := okWide_struct Try.underlying24 (hval 0 24 v0 rfl rfl)
  obtain ⟨A0_0, c0_0, e0, hc0_0, hr0_0⟩ := K0
  obtain rfl : cs0 = #[Value.slice A0_0 x0.length c0_0] := Array.ext' e0
  clear hA0 hval0 hsz0 hsz
  obtain ⟨n, hP⟩ := PureFnExactHouseClays.FnExactHouseClays x0 g0
  refine (laws_FnExactHouseClays.calls n A0_0 c0_0 x0 true W hr0_0 hc0_0 hP).mono ?_
  rintro e W' ⟨rfl, bel⟩
  exact ⟨_, rfl, _, _, _, [], _, [], hW', trodAll_mk1 (shut_bool Try.underlying4 _), (trodAll_cons_mk (Below.trod laidOut (by kernel_rfl) (of_decide_eq_true (by kernel_rfl)) k0 bel lt0) trodAll_mk0), rfl, bel.frame _, fun h => by cases h⟩
theorem over : Rows.fnExactHouseClaysRow.holds Try.pinned (OpenSpec.ofChange Rows.fnExactHouseClaysSpec) :=
  OpenClaim.holds_of_wide 4 Try.f4 rfl rfl rfl rfl rfl rfl rfl ⟨rfl, rfl, rfl, rfl, rfl⟩ rfl rfl rfl rfl rfl (by kernel_rfl) Try.func4 (by kernel_rfl)
    (of_decide_eq_true (by kernel_rfl)) (by unfold Func.isWrapper; first | (rw [if_pos (by decide +kernel)]; kernel_rfl) | (rw [if_neg (by decide +kernel)]; exact ⟨rfl, rfl⟩))
    (fun os started H enc _ => lifted os started H enc)
theorem proved : Rows.FnExactHouseClaysSaid := over
#print axioms proved
end Go.Proofs.Ytnffcpajfojajaa.fnExactHouseClays
namespace Go.Proofs.Ytnffcpajfojajaa
/-- The row, under a short name, for the claim. -/
theorem fnExactHouseClays_holds : Rows.FnExactHouseClaysSaid := fnExactHouseClays.proved
end Go.Proofs.Ytnffcpajfojajaa
