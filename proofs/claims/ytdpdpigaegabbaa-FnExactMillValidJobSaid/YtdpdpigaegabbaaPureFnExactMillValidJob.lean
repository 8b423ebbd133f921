/- The pure statement behind the law FnExactMillValidJob: program and reference agree on which jobs are valid. No condition. -/
import Derived.Test.YtdpdpigaegabbaaQf8
import Derived.Test.YtdpdpigaegabbaaOpens
import Derived.Test.YtdpdpigaegabbaaQPJob
import Derived.Test.YtdpdpigaegabbaaQPStr
namespace Go.Proofs.Ytdpdpigaegabbaa.PureFnExactMillValidJob
open Go.RowKit Go.Proofs.Ytdpdpigaegabbaa.Q Go.Proofs.YtdpdpigaegabbaaW.PrintWords
set_option linter.unusedVariables false
set_option linter.unusedSimpArgs false
open Go.Proofs.Ytdpdpigaegabbaa.EvMore
def G9 (x : ByteArray) : Prop := x.size ≤ 140737488351232
def Statement : Prop := ∀ (a0_0 : ByteArray) (l0_1 : List (ByteArray)), a0_0.size ≤ 140737488351232 → ((l0_1.length * 16 ≤ 140737488351232 ∧ l0_1.length ≤ maxLen) ∧ ∀ y ∈ l0_1, G9 y) → ∃ k, laws_FnExactMillValidJob.f k a0_0 l0_1 = some true
theorem FnExactMillValidJob : Statement := by
  intro a l ha hl
  obtain ⟨⟨h1, h2⟩, h3⟩ := hl
  have hlen : l.length ≤ 8796093022208 := by omega
  obtain ⟨v, hv⟩ := szStrs_ev l hlen (wrap64 (1048576 - (a.size : Int)))
  obtain ⟨b, b1, b2⟩ := job_ev a l hlen h3
  have ht : Ev (fun k => laws_toMillJob.f k a l) (a, l) := ev_bind (toStrs_ev l hlen) (ev_now _)
  have he : Ev (fun k => laws_eqMillJob.f k a l a l) true := ev_pos rfl (ev_bind (eqStrs_ev l hlen) (ev_pos rfl (ev_now _)))
  refine Ev.rounds ?_
  have hz : ∃ v, Ev (fun k => laws_szMillJob.f k a l 1048576) v := by
    by_cases c : wrap64 (1048576 - (a.size : Int)) < 0
    · exact ⟨_, ev_pos c (ev_now _)⟩
    · by_cases c2 : v < 0
      · exact ⟨_, ev_neg c (ev_bind hv (ev_pos c2 (ev_now _)))⟩
      · exact ⟨_, ev_neg c (ev_bind hv (ev_neg c2 (ev_now _)))⟩
  obtain ⟨z, hz⟩ := hz
  by_cases c : z < 0
  · exact ev_bind hz (ev_pos c (ev_now _))
  · exact ev_bind hz (ev_neg c (ev_bind ht (ev_bind b1 (ev_bind ht (ev_bind b2 (ev_neg (by simp) (ev_bind ht (ev_bind he (ev_pos rfl (ev_now _))))))))))
end Go.Proofs.Ytdpdpigaegabbaa.PureFnExactMillValidJob
