/- The pure statement behind the law FnExactMillValidValue: program and reference agree on which values are valid. No condition. -/
import Derived.Test.YtdpdpigaegabbaaQf6
import Derived.Test.YtdpdpigaegabbaaOpens
import Derived.Test.YtdpdpigaegabbaaQPVal
namespace Go.Proofs.Ytdpdpigaegabbaa.PureFnExactMillValidValue
open Go.RowKit Go.Proofs.Ytdpdpigaegabbaa.Q Go.Proofs.YtdpdpigaegabbaaW.PrintWords
set_option linter.unusedVariables false
set_option linter.unusedSimpArgs false
def Statement : Prop := ∀ (a0_0 : Int) (a0_1 : Int) (a0_2 : ByteArray), (Lit.int .i64 a0_0).wf = true → (Lit.int .i64 a0_1).wf = true → a0_2.size ≤ 140737488351232 → laws_FnExactMillValidValue.f a0_0 a0_1 a0_2 = some true
theorem FnExactMillValidValue : Statement := by
  intro a b c _ _ _
  unfold laws_FnExactMillValidValue.f laws_szMillValue.f laws_toMillValue.f
  by_cases h : wrap64 (1048576 - (c.size : Int)) < 0 <;> simp [h, spec_valid, impl_valid]
end Go.Proofs.Ytdpdpigaegabbaa.PureFnExactMillValidValue
