/- The pure statement behind the law FnExactConstants: true. No condition. -/
import Derived.Test.YtdpdpigaegabbaaQXConst
import Derived.Test.YtdpdpigaegabbaaOpens
namespace Go.Proofs.Ytdpdpigaegabbaa.PureFnExactConstants
open Go.RowKit Go.Proofs.Ytdpdpigaegabbaa.Q Go.Proofs.YtdpdpigaegabbaaW.PrintWords
set_option linter.unusedVariables false
set_option linter.unusedSimpArgs false

def Statement : Prop := laws_FnExactConstants.f = some true
theorem FnExactConstants : Statement := rfl
end Go.Proofs.Ytdpdpigaegabbaa.PureFnExactConstants
