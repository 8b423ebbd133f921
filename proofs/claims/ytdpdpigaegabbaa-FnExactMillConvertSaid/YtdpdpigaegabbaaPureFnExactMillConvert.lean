/- The pure statement behind the law FnExactMillConvert: program and reference convert every value alike. No condition. -/
import Derived.Test.YtdpdpigaegabbaaQf7
import Derived.Test.YtdpdpigaegabbaaOpens
import Derived.Test.YtdpdpigaegabbaaQPVal
namespace Go.Proofs.Ytdpdpigaegabbaa.PureFnExactMillConvert
open Go.RowKit Go.Proofs.Ytdpdpigaegabbaa.Q Go.Proofs.YtdpdpigaegabbaaW.PrintWords
set_option linter.unusedVariables false
set_option linter.unusedSimpArgs false
def Statement : Prop := ∀ (a0_0 : Int) (a0_1 : Int) (a0_2 : ByteArray) (a1 : Int), (Lit.int .i64 a0_0).wf = true → (Lit.int .i64 a0_1).wf = true → a0_2.size ≤ 140737488351232 → (Lit.int .i64 a1).wf = true → laws_FnExactMillConvert.f a0_0 a0_1 a0_2 a1 = some true
theorem FnExactMillConvert : Statement := by
  intro a b c d _ _ _ _
  have hr := wrapU_range b
  have key : spec_MillConvert.f a b c d = impl_MillConvert.f a b c d := by
    unfold spec_MillConvert.f impl_MillConvert.f spec_l13Num.f impl_mInt.f
    simp only [spec_valid, impl_valid, Option.bind_some]
    unfold spec_l10Integer.f impl_integerType.f
    by_cases hv : vval a b c = true
    · simp only [hv, if_true]
      by_cases h3 : d ≥ 3
      · by_cases h4 : d ≤ 10
        · rw [into_eq hr.1 hr.2, wrapped_eq (by omega) h4 hr.1 hr.2]
        · simp [h4]
      · simp [h3]
    · simp [hv]
  have some_ : ∃ r, impl_MillConvert.f a b c d = some r := by
    unfold impl_MillConvert.f impl_mInt.f
    simp only [impl_valid, Option.bind_some]
    unfold impl_integerType.f
    by_cases hv : vval a b c = true
    · simp only [hv, if_true]
      by_cases h1 : a ≥ 3 <;> by_cases h2 : a ≤ 10 <;> simp [h1, h2]
      by_cases h3 : d ≥ 3 <;> by_cases h4 : d ≤ 10 <;> simp [h3, h4]
      rw [wrapped_eq (by omega) h4 hr.1 hr.2]; simp
    · simp [hv]
  obtain ⟨r, h⟩ := some_
  unfold laws_FnExactMillConvert.f laws_szMillValue.f laws_toMillValue.f
  simp only [key, h, Option.bind_some, laws_eqMillValue.f]
  split <;> simp
end Go.Proofs.Ytdpdpigaegabbaa.PureFnExactMillConvert
