/- The pure statement behind the law FnExactMillUnary: program and reference give the same value and word for every op and value. No condition. -/
import Derived.Test.YtdpdpigaegabbaaQf10
import Derived.Test.YtdpdpigaegabbaaOpens
import Derived.Test.YtdpdpigaegabbaaQPVal
namespace Go.Proofs.Ytdpdpigaegabbaa.PureFnExactMillUnary
open Go.RowKit Go.Proofs.Ytdpdpigaegabbaa.Q Go.Proofs.YtdpdpigaegabbaaW.PrintWords
set_option linter.unusedVariables false
set_option linter.unusedSimpArgs false

def Statement : Prop := ∀ (a0 : Int) (a1_0 : Int) (a1_1 : Int) (a1_2 : ByteArray), (Lit.int .i64 a0).wf = true → (Lit.int .i64 a1_0).wf = true → (Lit.int .i64 a1_1).wf = true → a1_2.size ≤ 140737488351232 → ∃ k, laws_FnExactMillUnary.f k a0 a1_0 a1_1 a1_2 = some true
theorem FnExactMillUnary : Statement := by
  intro op a b c _ _ _ _
  have hr := wrapU_range (-(IntKind.u64.wrap b))
  have hr2 : 0 ≤ Mine.not64 (IntKind.u64.wrap b) ∧ Mine.not64 (IntKind.u64.wrap b) < 18446744073709551616 := wrapU_range _
  have key : ∃ r, spec_MillUnary.f 1 op a b c = some r ∧ impl_MillUnary.f 1 op a b c = some r := by
    unfold spec_MillUnary.f impl_MillUnary.f
    simp only [spec_valid, impl_valid, Option.bind_some]
    by_cases hv : vval a b c = true
    · simp only [hv, if_true]
      by_cases h1 : op < 1
      · exact ⟨_, by rw [if_pos h1]; rfl, by rw [if_pos h1]; rfl⟩
      · by_cases h3 : op > 3
        · refine ⟨_, by rw [if_neg h1, if_pos h3]; rfl, ?_⟩
          rw [if_neg h1]
          simp only [impl_MillUnary.j0, h3, decide_true, if_true]
        · simp only [h1, h3, if_false, decide_false]
          by_cases h2 : op = 2
          · subst h2
            by_cases ha : a = 1
            · subst ha
              by_cases hb : b = 0 <;> simp [spec_l12Un.f, impl_unType.f, spec_MillUnary.j0, impl_MillUnary.j0, spec_l13Bool.f, impl_mBool.f, hb]
            · simp [spec_l12Un.f, impl_unType.f, spec_MillUnary.j0, impl_MillUnary.j0, ha]
          · by_cases i3 : a ≥ 3
            · by_cases i10 : a ≤ 10
              · have ha0 : ¬ a = 0 := by omega
                rcases (by omega : op = 1 ∨ op = 3) with rfl | rfl
                · simp [spec_l12Un.f, impl_unType.f, spec_l10Integer.f, impl_integerType.f, spec_MillUnary.j0, impl_MillUnary.j0, i3, i10, ha0, spec_l13Num.f, impl_mInt.f, into_eq hr.1 hr.2, wrapped_eq (show 3 ≤ a from i3) i10 hr.1 hr.2]
                · simp [spec_l12Un.f, impl_unType.f, spec_l10Integer.f, impl_integerType.f, spec_MillUnary.j0, impl_MillUnary.j0, i3, i10, ha0, spec_l13Num.f, impl_mInt.f, into_eq hr2.1 hr2.2, wrapped_eq (show 3 ≤ a from i3) i10 hr2.1 hr2.2]
              · simp [spec_l12Un.f, impl_unType.f, spec_l10Integer.f, impl_integerType.f, spec_MillUnary.j0, impl_MillUnary.j0, h2, i3, i10]
            · simp [spec_l12Un.f, impl_unType.f, spec_l10Integer.f, impl_integerType.f, spec_MillUnary.j0, impl_MillUnary.j0, h2, i3]
    · refine ⟨_, by rw [if_neg hv]; rfl, by rw [if_neg hv]; rfl⟩
  obtain ⟨r, h1, h2⟩ := key
  refine ⟨1, ?_⟩
  unfold laws_FnExactMillUnary.f laws_szMillValue.f laws_toMillValue.f
  simp only [h1, h2, Option.bind_some, laws_eqMillValue.f]
  split <;> simp
end Go.Proofs.Ytdpdpigaegabbaa.PureFnExactMillUnary
