import Derived.Test.YtdpdpigaegabbaaRows
import Derived.Test.YtdpdpigaegabbaaQmFnExactMillHolds4
import Derived.WalkKit
import Derived.ProofKit
import Derived.OpenShut
import Derived.ShutString
import Derived.ChangeOld
import Derived.Below
import Derived.SizedLaws
/- For every input the law FnExactMillHolds returns true and its arguments read as before; the pure statement is proved in YtdpdpigaegabbaaPureFnExactMillHolds. No condition. -/
namespace Go.Proofs.Ytdpdpigaegabbaa.fnExactMillHolds
open Go.ChangeShapes Go.WideShapes Go.ChangeAt Go.RowKit Go.Proofs.Ytdpdpigaegabbaa.Q Go.Proofs.YtdpdpigaegabbaaW.PrintWords Go.Proofs.Ytdpdpigaegabbaa.Opens Go.Proofs.Ytdpdpigaegabbaa.PureFnExactMillHolds
open Go.ChangeMaps (open_string shut_string)
set_option linter.unusedVariables false
theorem op130 : Opens Try.prog 130 k130 G130 := of_iso (fun x : S130 => (x.f0, x.f1)) (fun a => ⟨a.1, a.2⟩) (fun _ => rfl) (of_struct Try.underlying130 (by kernel_rfl) (fields_cons rfl (by kernel_rfl) (of_string Try.underlying9) (fields_one rfl (by kernel_rfl) (of_string Try.underlying9))))
theorem op24 : Opens Try.prog 24 k24 G24 := of_iso (fun x : S24 => (x.f0, x.f1)) (fun a => ⟨a.1, a.2⟩) (fun _ => rfl) (of_struct Try.underlying24 (by kernel_rfl) (fields_cons rfl (by kernel_rfl) (of_int Try.underlying3) (fields_one rfl (by kernel_rfl) (of_string Try.underlying9))))
theorem op106 : Opens Try.prog 106 k106 G106 := of_iso (fun x : S106 => (x.f0, x.f1, x.f2)) (fun a => ⟨a.1, a.2.1, a.2.2⟩) (fun _ => rfl) (of_struct Try.underlying106 (by kernel_rfl) (fields_cons rfl (by kernel_rfl) (of_int Try.underlying3) (fields_cons rfl (by kernel_rfl) (of_string Try.underlying9) (fields_one rfl (by kernel_rfl) op24))))
theorem own : ownKnob Try.prog.godebug = none := by kernel_rfl
theorem laidOut : laidOutB Try.prog = true := by kernel_rfl
set_option maxHeartbeats 1000000 in
set_option maxRecDepth 100000 in
theorem lifted (os : Os) (started : os.Started) (H : Type) (enc : TypeId × Value → H) :
    ReturnsInHanded {} Try.checked os 12 .any (Rows.fnExactMillHoldsSpec.pre6 enc Try.prog Try.f12 Rows.fnExactMillHoldsRow.domain false) (Rows.fnExactMillHoldsSpec.post enc Try.prog Try.f12 false true false false) := by
  refine returnsInHanded_of_change_sized (C := Try.checked) own started (by kernel_rfl) Try.func12
    (ChangeSpec.witness6 (enc := enc) (C := Try.checked) false ⟨#[], #[.agg #[.slice none 0 0], .slice none 0 0], []⟩ 8 (by kernel_rfl) (by kernel_rfl) (by kernel_rfl) (by kernel_rfl)) ?_
  intro W base args ds gs before hval0 hW hcnd hsz0 _
  have hsz : (DataW.weightsEach Try.prog (Try.f12.params.toList ++ Rows.fnExactMillHoldsSpec.plain.varTypes Try.prog) (ds ++ gs)).all (· ≤ reachBytes) = true := hsz0
  have hval : ∀ (j : Nat) t v, Try.f12.params[j]? = some t → args[j]? = some v → Value.okWide Try.prog W .any base t v := hval0
  have hW' := hW
  obtain ⟨p, q, hA0, hV, rfl, hfz, hnd⟩ := hW
  have hA : DataW.TrodAll enc Try.prog W 0 (fun _ => true) true Try.f12.params.toList args.toList ds p := hA0
  rw [Try.params12] at hA hval hsz
  obtain ⟨v0, vs0, d0, ds0, p0, q0, hargs, rfl, rfl, h0, r0⟩ := trodAll_cons hA
  obtain ⟨v1, vs1, d1, ds1, p1, q1, rfl, rfl, rfl, h1, r1⟩ := trodAll_cons r0
  obtain ⟨rfl, rfl, rfl⟩ := trodAll_nil r1
  obtain rfl : args = #[v0, v1] := by cases args; simp_all
  obtain ⟨rfl, rfl⟩ := trodVars_none hV
  have k0 := h0
  have lt0 : ∀ x ∈ p0, x.block < W.heap.size := by obtain ⟨m, hm⟩ := k0; exact DataW.trod_lt m _ _ _ hm
  obtain ⟨x0, K0, g0⟩ := Opens.arg (of_struct Try.underlying54 (by kernel_rfl) (fields_one rfl (by kernel_rfl) (of_slice (B := 32) (d := k130) (G := G130) Try.underlying52 (by kernel_rfl) (by kernel_rfl) op130))) hsz (j := 0) (t := 54) rfl rfl h0
  obtain ⟨cs0, rfl, hcs0⟩ := okWide_struct Try.underlying54 (hval 0 54 v0 rfl rfl)
  obtain ⟨A0_0, c0_0, e0, hc0_0, hr0_0⟩ := K0
  obtain rfl : cs0 = #[Value.slice A0_0 x0.length c0_0] := Array.ext' e0
  have k1 := h1
  have lt1 : ∀ x ∈ p1, x.block < W.heap.size := by obtain ⟨m, hm⟩ := k1; exact DataW.trod_lt m _ _ _ hm
  obtain ⟨x1, K1, g1⟩ := Opens.arg (of_slice (B := 48) (d := k106) (G := G106) Try.underlying68 (by kernel_rfl) (by kernel_rfl) op106) hsz (j := 1) (t := 68) rfl rfl h1
  obtain ⟨a1, len1, cap1, rfl⟩ := okWide_slice Try.underlying68 (hval 1 68 v1 rfl rfl)
  obtain ⟨A1_0, c1_0, e1, hc1_0, hr1_0⟩ := K1
  simp only [Value.cells, List.cons.injEq, Value.slice.injEq, and_true] at e1
  obtain ⟨ea1, eb1, ec1⟩ := e1; obtain rfl := ea1.symm; obtain rfl := eb1.symm; obtain rfl := ec1.symm
  clear hA0 hval0 hsz0 hsz
  obtain ⟨n, hP⟩ := PureFnExactMillHolds.FnExactMillHolds x0 x1 g0 g1
  refine (laws_FnExactMillHolds.calls n A0_0 c0_0 x0 A1_0 c1_0 x1 true W hr0_0 hc0_0 hr1_0 hc1_0 hP).mono ?_
  rintro e W' ⟨rfl, bel⟩
  exact ⟨_, rfl, _, _, _, [], _, [], hW', trodAll_mk1 (shut_bool Try.underlying4 _), (trodAll_cons_mk (Below.trod laidOut (by kernel_rfl) (of_decide_eq_true (by kernel_rfl)) k0 bel lt0) (trodAll_cons_mk (Below.trod laidOut (by kernel_rfl) (of_decide_eq_true (by kernel_rfl)) k1 bel lt1) trodAll_mk0)), rfl, bel.frame _, fun h => by cases h⟩
theorem over : Rows.fnExactMillHoldsRow.holds Try.pinned (OpenSpec.ofChange Rows.fnExactMillHoldsSpec) :=
  OpenClaim.holds_of_wide 12 Try.f12 rfl rfl rfl rfl rfl rfl rfl ⟨rfl, rfl, rfl, rfl, rfl⟩ rfl rfl rfl rfl rfl (by kernel_rfl) Try.func12 (by kernel_rfl)
    (of_decide_eq_true (by kernel_rfl)) (by unfold Func.isWrapper; first | (rw [if_pos (by decide +kernel)]; kernel_rfl) | (rw [if_neg (by decide +kernel)]; exact ⟨rfl, rfl⟩))
    (fun os started H enc _ => lifted os started H enc)
theorem proved : Rows.FnExactMillHoldsSaid := over
#print axioms proved
end Go.Proofs.Ytdpdpigaegabbaa.fnExactMillHolds
namespace Go.Proofs.Ytdpdpigaegabbaa
/-- The row, under a short name, for the claim. -/
theorem fnExactMillHolds_holds : Rows.FnExactMillHoldsSaid := fnExactMillHolds.proved
end Go.Proofs.Ytdpdpigaegabbaa
