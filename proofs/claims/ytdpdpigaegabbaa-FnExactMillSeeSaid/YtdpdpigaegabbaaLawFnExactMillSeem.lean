import Derived.Test.YtdpdpigaegabbaaRows
import Derived.Test.YtdpdpigaegabbaaQmFnExactMillSee4
import Derived.Test.YtdpdpigaegabbaaPureFnExactMillSeem
import Derived.Test.YtdpdpigaegabbaaOpens
import Derived.WalkKit
import Derived.ProofKit
import Derived.OpenShut
import Derived.ShutString
import Derived.ChangeOld
import Derived.Below
import Derived.SizedLaws
/- For every input the law FnExactMillSee returns true and its arguments read as before; the pure statement is proved in YtdpdpigaegabbaaPureFnExactMillSee. No condition. -/
namespace Go.Proofs.Ytdpdpigaegabbaa.fnExactMillSee
open Go.ChangeShapes Go.WideShapes Go.ChangeAt Go.RowKit Go.Proofs.Ytdpdpigaegabbaa.Q Go.Proofs.YtdpdpigaegabbaaW.PrintWords Go.Proofs.Ytdpdpigaegabbaa.Opens Go.Proofs.Ytdpdpigaegabbaa.PureFnExactMillSee
open Go.ChangeMaps (open_string shut_string)
set_option linter.unusedVariables false
theorem op130 : Opens Try.prog 130 k130 G130 := of_iso (fun x : S130 => (x.f0, x.f1)) (fun a => ⟨a.1, a.2⟩) (fun _ => rfl) (of_struct Try.underlying130 (by kernel_rfl) (fields_cons rfl (by kernel_rfl) (of_string Try.underlying9) (fields_one rfl (by kernel_rfl) (of_string Try.underlying9))))
theorem own : ownKnob Try.prog.godebug = none := by kernel_rfl
theorem laidOut : laidOutB Try.prog = true := by kernel_rfl
set_option maxRecDepth 100000 in
theorem lifted (os : Os) (started : os.Started) (H : Type) (enc : TypeId × Value → H) :
    ReturnsInHanded {} Try.checked os 11 .any (Rows.fnExactMillSeeSpec.pre6 enc Try.prog Try.f11 Rows.fnExactMillSeeRow.domain false) (Rows.fnExactMillSeeSpec.post enc Try.prog Try.f11 false true false false) := by
  refine returnsInHanded_of_change_sized (C := Try.checked) own started (by kernel_rfl) Try.func11
    (ChangeSpec.witness6 (enc := enc) (C := Try.checked) false ⟨#[], #[.agg #[.slice none 0 0], .int .i64 0, .string ByteArray.empty], []⟩ 8 (by kernel_rfl) (by kernel_rfl) (by kernel_rfl) (by kernel_rfl)) ?_
  intro W base args ds gs before hval0 hW hcnd hsz0 _
  have hsz : (DataW.weightsEach Try.prog (Try.f11.params.toList ++ Rows.fnExactMillSeeSpec.plain.varTypes Try.prog) (ds ++ gs)).all (· ≤ reachBytes) = true := hsz0
  have hval : ∀ (j : Nat) t v, Try.f11.params[j]? = some t → args[j]? = some v → Value.okWide Try.prog W .any base t v := hval0
  have hW' := hW
  obtain ⟨p, q, hA0, hV, rfl, hfz, hnd⟩ := hW
  have hA : DataW.TrodAll enc Try.prog W 0 (fun _ => true) true Try.f11.params.toList args.toList ds p := hA0
  rw [Try.params11] at hA hval hsz
  obtain ⟨v0, vs0, d0, ds0, p0, q0, hargs, rfl, rfl, h0, r0⟩ := trodAll_cons hA
  obtain ⟨v1, vs1, d1, ds1, p1, q1, rfl, rfl, rfl, h1, r1⟩ := trodAll_cons r0
  obtain ⟨v2, vs2, d2, ds2, p2, q2, rfl, rfl, rfl, h2, r2⟩ := trodAll_cons r1
  obtain ⟨rfl, rfl, rfl⟩ := trodAll_nil r2
  obtain rfl : args = #[v0, v1, v2] := by cases args; simp_all
  obtain ⟨rfl, rfl⟩ := trodVars_none hV
  have k0 := h0
  have lt0 : ∀ x ∈ p0, x.block < W.heap.size := by obtain ⟨m, hm⟩ := k0; exact DataW.trod_lt m _ _ _ hm
  obtain ⟨x0, K0, g0⟩ := Opens.arg (of_struct Try.underlying54 (by kernel_rfl) (fields_one rfl (by kernel_rfl) (of_slice (B := 32) (d := k130) (G := G130) Try.underlying52 (by kernel_rfl) (by kernel_rfl) op130))) hsz (j := 0) (t := 54) rfl rfl h0
  obtain ⟨cs0, rfl, hcs0⟩ := okWide_struct Try.underlying54 (hval 0 54 v0 rfl rfl)
  obtain ⟨A0_0, c0_0, e0, hc0_0, hr0_0⟩ := K0
  obtain rfl : cs0 = #[Value.slice A0_0 x0.length c0_0] := Array.ext' e0
  have k1 := h1
  have lt1 : ∀ x ∈ p1, x.block < W.heap.size := by obtain ⟨m, hm⟩ := k1; exact DataW.trod_lt m _ _ _ hm
  obtain ⟨x1, K1, g1⟩ := Opens.arg (of_int Try.underlying3) hsz (j := 1) (t := 3) rfl rfl h1
  obtain ⟨y1, rfl, _, _, _⟩ := open_int Try.underlying3 (hval 1 3 v1 rfl rfl) h1
  obtain rfl : x1 = y1 := by have e : [Value.int .i64 y1] = [.int .i64 x1] := K1; simpa using e.symm
  have k2 := h2
  have lt2 : ∀ x ∈ p2, x.block < W.heap.size := by obtain ⟨m, hm⟩ := k2; exact DataW.trod_lt m _ _ _ hm
  obtain ⟨x2, K2, g2⟩ := Opens.arg (of_string Try.underlying9) hsz (j := 2) (t := 9) rfl rfl h2
  obtain ⟨y2, rfl, _, _, _⟩ := open_string Try.underlying9 (hval 2 9 v2 rfl rfl) h2
  obtain rfl : x2 = y2 := by have e : [Value.string y2] = [.string x2] := K2; simpa using e.symm
  clear hA0 hval0 hsz0 hsz
  obtain ⟨n, hP⟩ := PureFnExactMillSee.FnExactMillSee x0 x1 x2 g0 g1 g2
  refine (laws_FnExactMillSee.calls n A0_0 c0_0 x0 x1 x2 true W hr0_0 hc0_0 hP).mono ?_
  rintro e W' ⟨rfl, bel⟩
  exact ⟨_, rfl, _, _, _, [], _, [], hW', trodAll_mk1 (shut_bool Try.underlying4 _), (trodAll_cons_mk (Below.trod laidOut (by kernel_rfl) (of_decide_eq_true (by kernel_rfl)) k0 bel lt0) (trodAll_cons_mk (Below.trod laidOut (by kernel_rfl) (of_decide_eq_true (by kernel_rfl)) k1 bel lt1) (trodAll_cons_mk (Below.trod laidOut (by kernel_rfl) (of_decide_eq_true (by kernel_rfl)) k2 bel lt2) trodAll_mk0))), rfl, bel.frame _, fun h => by cases h⟩
theorem over : Rows.fnExactMillSeeRow.holds Try.pinned (OpenSpec.ofChange Rows.fnExactMillSeeSpec) :=
  OpenClaim.holds_of_wide 11 Try.f11 rfl rfl rfl rfl rfl rfl rfl ⟨rfl, rfl, rfl, rfl, rfl⟩ rfl rfl rfl rfl rfl (by kernel_rfl) Try.func11 (by kernel_rfl)
    (of_decide_eq_true (by kernel_rfl)) (by unfold Func.isWrapper; first | (rw [if_pos (by decide +kernel)]; kernel_rfl) | (rw [if_neg (by decide +kernel)]; exact ⟨rfl, rfl⟩))
    (fun os started H enc _ => lifted os started H enc)
theorem proved : Rows.FnExactMillSeeSaid := over
#print axioms proved
end Go.Proofs.Ytdpdpigaegabbaa.fnExactMillSee
namespace Go.Proofs.Ytdpdpigaegabbaa
/-- The row, under a short name, for the claim. -/
theorem fnExactMillSee_holds : Rows.FnExactMillSeeSaid := fnExactMillSee.proved
end Go.Proofs.Ytdpdpigaegabbaa
