/- What laws.FnExactConstants returns: true. No condition. -/
import Derived.Test.YtdpdpigaegabbaaQ0
namespace Go.Proofs.Ytdpdpigaegabbaa.Q
open Go.RowKit Go.Proofs.YtdpdpigaegabbaaW.PrintWords Go.Proofs.YtdpdpigaegabbaaW.PrintLast Go.Proofs.YtdpdpigaegabbaaW.PrintMore
set_option linter.unusedVariables false
set_option linter.unusedSimpArgs false
def laws_FnExactConstants.f : Option Bool := some true
set_option maxHeartbeats 8000000 in
set_option maxRecDepth 1000000 in
theorem laws_FnExactConstants.calls (r : Bool) (w : World) (h : laws_FnExactConstants.f = some r) :
    Calls Try.prog 3 #[] w fun e w' => e = .returned (.bool r) ∧ Below w.heap.size w w' := by
  obtain rfl := Option.some.inj h
  clear h
  have HB := Aside0.mk (Below.refl w.heap.size w)
  go_enter Try.func3, Try.ntmps3
  go_wp2
  go_ret
  exact ⟨rfl, by first | exact HB.out | exact below_drew1 HB.out | (apply pw_below_drewN; exact HB.out)⟩
end Go.Proofs.Ytdpdpigaegabbaa.Q
