/- The pure statement behind the law FnExactYardTag: program and reference give the same tag to every body and key. No condition. -/
import Derived.Test.YtdpdpigaegabbaaQf5
import Derived.Test.YtdpdpigaegabbaaQPTag
namespace Go.Proofs.Ytdpdpigaegabbaa.Pure
open Go.RowKit Go.Proofs.Ytdpdpigaegabbaa.Q Go.Proofs.YtdpdpigaegabbaaW.PrintWords Go.Proofs.YtdpdpigaegabbaaW.PrintLast
set_option linter.unusedVariables false
set_option linter.unusedSimpArgs false
open Go.Proofs.Ytdpdpigaegabbaa.EvMore
theorem FnExactYardTag : laws_FnExactYardTag.Pure := by
  intro a0 a1 h0 h1
  obtain ⟨r, hr, hi⟩ := tag_spec a0 a1 h0 h1
  refine Ev.rounds ?_
  by_cases c0 : (a0.size : Int) > 1048576
  · exact ev_pos c0 (ev_now _)
  · by_cases c1 : (a1.size : Int) > 1048576
    · exact ev_neg c0 (ev_pos c1 (ev_now _))
    · exact ev_neg c0 (ev_neg c1 (ev_bind hr (ev_val hi (ev_pos rfl (ev_now _)))))
end Go.Proofs.Ytdpdpigaegabbaa.Pure
