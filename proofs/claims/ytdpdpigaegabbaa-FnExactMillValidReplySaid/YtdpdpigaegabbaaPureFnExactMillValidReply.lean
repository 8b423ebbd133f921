/- The pure statement behind the law FnExactMillValidReply: program and reference agree on every reply. No condition. -/
import Derived.Test.YtdpdpigaegabbaaPFnExactMillValidReplyx1
import Derived.Test.YtdpdpigaegabbaaOpens
namespace Go.Proofs.Ytdpdpigaegabbaa.PureFnExactMillValidReply
open Go.RowKit Go.Proofs.Ytdpdpigaegabbaa.PFnExactMillValidReply Go.Proofs.YtdpdpigaegabbaaW.PrintWords

def Statement : Prop := ∀ (a0_0 : Int) (a0_1 : ByteArray), (Lit.int .i64 a0_0).wf = true → a0_1.size ≤ 140737488351232 → laws_FnExactMillValidReply.f a0_0 a0_1 = some true
theorem FnExactMillValidReply : Statement := by
  intro a b _ _
  unfold laws_FnExactMillValidReply.f laws_szMillReply.f laws_toMillReply.f spec_MillValidReply.f impl_MillValidReply.f
  repeat' (first | rfl | split | simp_all | omega)

end Go.Proofs.Ytdpdpigaegabbaa.PureFnExactMillValidReply
