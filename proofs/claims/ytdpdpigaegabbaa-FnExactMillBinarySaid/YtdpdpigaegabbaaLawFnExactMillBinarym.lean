import Derived.Test.YtdpdpigaegabbaaRows
import Derived.Test.YtdpdpigaegabbaaQmFnExactMillBinaryQf14
import Derived.Test.YtdpdpigaegabbaaQmFnExactMillBinary4
import Derived.WalkKit
import Derived.ProofKit
import Derived.OpenShut
import Derived.ShutString
import Derived.ChangeOld
import Derived.Below
import Derived.SizedLaws
/- For every input the law FnExactMillBinary returns true and its arguments read as before; the pure statement is proved in YtdpdpigaegabbaaPureFnExactMillBinary. No condition. -/
namespace Go.Proofs.Ytdpdpigaegabbaa.fnExactMillBinary
open Go.ChangeShapes Go.WideShapes Go.ChangeAt Go.RowKit Go.Proofs.Ytdpdpigaegabbaa.Q Go.Proofs.YtdpdpigaegabbaaW.PrintWords Go.Proofs.Ytdpdpigaegabbaa.Opens Go.Proofs.Ytdpdpigaegabbaa.PureFnExactMillBinary
open Go.ChangeMaps (open_string shut_string)
set_option linter.unusedVariables false
theorem own : ownKnob Try.prog.godebug = none := by kernel_rfl
theorem laidOut : laidOutB Try.prog = true := by kernel_rfl
set_option maxHeartbeats 1000000 in
set_option maxRecDepth 100000 in
theorem lifted (os : Os) (started : os.Started) (H : Type) (enc : TypeId × Value → H) :
    ReturnsInHanded {} Try.checked os 14 .any (Rows.fnExactMillBinarySpec.pre6 enc Try.prog Try.f14 Rows.fnExactMillBinaryRow.domain false) (Rows.fnExactMillBinarySpec.post enc Try.prog Try.f14 false true false false) := by
  refine returnsInHanded_of_change_sized (C := Try.checked) own started (by kernel_rfl) Try.func14
    (ChangeSpec.witness6 (enc := enc) (C := Try.checked) false ⟨#[], #[.int .i64 0, .agg #[.int .i64 0, .int .i64 0, .string ByteArray.empty], .agg #[.int .i64 0, .int .i64 0, .string ByteArray.empty]], []⟩ 8 (by kernel_rfl) (by kernel_rfl) (by kernel_rfl) (by kernel_rfl)) ?_
  intro W base args ds gs before hval0 hW hcnd hsz0 _
  have hsz : (DataW.weightsEach Try.prog (Try.f14.params.toList ++ Rows.fnExactMillBinarySpec.plain.varTypes Try.prog) (ds ++ gs)).all (· ≤ reachBytes) = true := hsz0
  have hval : ∀ (j : Nat) t v, Try.f14.params[j]? = some t → args[j]? = some v → Value.okWide Try.prog W .any base t v := hval0
  have hW' := hW
  obtain ⟨p, q, hA0, hV, rfl, hfz, hnd⟩ := hW
  have hA : DataW.TrodAll enc Try.prog W 0 (fun _ => true) true Try.f14.params.toList args.toList ds p := hA0
  rw [Try.params14] at hA hval hsz
  obtain ⟨v0, vs0, d0, ds0, p0, q0, hargs, rfl, rfl, h0, r0⟩ := trodAll_cons hA
  obtain ⟨v1, vs1, d1, ds1, p1, q1, rfl, rfl, rfl, h1, r1⟩ := trodAll_cons r0
  obtain ⟨v2, vs2, d2, ds2, p2, q2, rfl, rfl, rfl, h2, r2⟩ := trodAll_cons r1
  obtain ⟨rfl, rfl, rfl⟩ := trodAll_nil r2
  obtain rfl : args = #[v0, v1, v2] := by cases args; simp_all
  obtain ⟨rfl, rfl⟩ := trodVars_none hV
  have k0 := h0
  have lt0 : ∀ x ∈ p0, x.block < W.heap.size := by obtain ⟨m, hm⟩ := k0; exact DataW.trod_lt m _ _ _ hm
  obtain ⟨x0, K0, g0⟩ := Opens.arg (of_int Try.underlying3) hsz (j := 0) (t := 3) rfl rfl h0
  obtain ⟨y0, rfl, _, _, _⟩ := open_int Try.underlying3 (hval 0 3 v0 rfl rfl) h0
  obtain rfl : x0 = y0 := by have e : [Value.int .i64 y0] = [.int .i64 x0] := K0; simpa using e.symm
  have k1 := h1
  have lt1 : ∀ x ∈ p1, x.block < W.heap.size := by obtain ⟨m, hm⟩ := k1; exact DataW.trod_lt m _ _ _ hm
  obtain ⟨x1, K1, g1⟩ := Opens.arg (of_struct Try.underlying33 (by kernel_rfl) (fields_cons rfl (by kernel_rfl) (of_int Try.underlying3) (fields_cons rfl (by kernel_rfl) (of_int Try.underlying2) (fields_one rfl (by kernel_rfl) (of_string Try.underlying9))))) hsz (j := 1) (t := 33) rfl rfl h1
  obtain ⟨cs1, rfl, hcs1⟩ := okWide_struct Try.underlying33 (hval 1 33 v1 rfl rfl)
  obtain ⟨_, _, e1, rfl, ⟨_, _, rfl, rfl, rfl⟩⟩ := K1
  obtain rfl : cs1 = #[.int .i64 x1.1, .int .i64 x1.2.1, .string x1.2.2] := Array.ext' e1
  have k2 := h2
  have lt2 : ∀ x ∈ p2, x.block < W.heap.size := by obtain ⟨m, hm⟩ := k2; exact DataW.trod_lt m _ _ _ hm
  obtain ⟨x2, K2, g2⟩ := Opens.arg (of_struct Try.underlying33 (by kernel_rfl) (fields_cons rfl (by kernel_rfl) (of_int Try.underlying3) (fields_cons rfl (by kernel_rfl) (of_int Try.underlying2) (fields_one rfl (by kernel_rfl) (of_string Try.underlying9))))) hsz (j := 2) (t := 33) rfl rfl h2
  obtain ⟨cs2, rfl, hcs2⟩ := okWide_struct Try.underlying33 (hval 2 33 v2 rfl rfl)
  obtain ⟨_, _, e2, rfl, ⟨_, _, rfl, rfl, rfl⟩⟩ := K2
  obtain rfl : cs2 = #[.int .i64 x2.1, .int .i64 x2.2.1, .string x2.2.2] := Array.ext' e2
  clear hA0 hval0 hsz0 hsz
  obtain ⟨n, hP⟩ := PureFnExactMillBinary.FnExactMillBinary x0 (x1.1) (x1.2.1) (x1.2.2) (x2.1) (x2.2.1) (x2.2.2) g0 (g1.1) (g1.2.1) (g1.2.2) (g2.1) (g2.2.1) (g2.2.2)
  refine (laws_FnExactMillBinary.calls n x0 (x1.1) (x1.2.1) (x1.2.2) (x2.1) (x2.2.1) (x2.2.2) true W  hP).mono ?_
  rintro e W' ⟨rfl, bel⟩
  exact ⟨_, rfl, _, _, _, [], _, [], hW', trodAll_mk1 (shut_bool Try.underlying4 _), (trodAll_cons_mk (Below.trod laidOut (by kernel_rfl) (of_decide_eq_true (by kernel_rfl)) k0 bel lt0) (trodAll_cons_mk (Below.trod laidOut (by kernel_rfl) (of_decide_eq_true (by kernel_rfl)) k1 bel lt1) (trodAll_cons_mk (Below.trod laidOut (by kernel_rfl) (of_decide_eq_true (by kernel_rfl)) k2 bel lt2) trodAll_mk0))), rfl, bel.frame _, fun h => by cases h⟩
theorem over : Rows.fnExactMillBinaryRow.holds Try.pinned (OpenSpec.ofChange Rows.fnExactMillBinarySpec) :=
  OpenClaim.holds_of_wide 14 Try.f14 rfl rfl rfl rfl rfl rfl rfl ⟨rfl, rfl, rfl, rfl, rfl⟩ rfl rfl rfl rfl rfl (by kernel_rfl) Try.func14 (by kernel_rfl)
    (of_decide_eq_true (by kernel_rfl)) (by unfold Func.isWrapper; first | (rw [if_pos (by decide +kernel)]; kernel_rfl) | (rw [if_neg (by decide +kernel)]; exact ⟨rfl, rfl⟩))
    (fun os started H enc _ => lifted os started H enc)
theorem proved : Rows.FnExactMillBinarySaid := over
#print axioms proved
end Go.Proofs.Ytdpdpigaegabbaa.fnExactMillBinary
namespace Go.Proofs.Ytdpdpigaegabbaa
/-- The row, under a short name, for the claim. -/
theorem fnExactMillBinary_holds : Rows.FnExactMillBinarySaid := fnExactMillBinary.proved
end Go.Proofs.Ytdpdpigaegabbaa
