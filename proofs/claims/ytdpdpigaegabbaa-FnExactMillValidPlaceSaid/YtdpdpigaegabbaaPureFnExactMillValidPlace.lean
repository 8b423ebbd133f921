/- The pure statement behind the law FnExactMillValidPlace: program and reference agree on which places are valid. No condition. -/
import Derived.Test.YtdpdpigaegabbaaQf9
import Derived.Test.YtdpdpigaegabbaaOpens
import Derived.Test.YtdpdpigaegabbaaQPFile
namespace Go.Proofs.Ytdpdpigaegabbaa.PureFnExactMillValidPlace
open Go.RowKit Go.Proofs.Ytdpdpigaegabbaa.Q Go.Proofs.YtdpdpigaegabbaaW.PrintWords
set_option linter.unusedVariables false
set_option linter.unusedSimpArgs false
open Go.Proofs.Ytdpdpigaegabbaa.EvMore
def G130 (x : S130) : Prop := x.f0.size ≤ 140737488351232 ∧ x.f1.size ≤ 140737488351232
def Statement : Prop := ∀ (l0_0 : List (S130)), ((l0_0.length * 32 ≤ 140737488351232 ∧ l0_0.length ≤ maxLen) ∧ ∀ y ∈ l0_0, G130 y) → ∃ k, laws_FnExactMillValidPlace.f k l0_0 = some true
theorem FnExactMillValidPlace : Statement := by
  intro l hl
  obtain ⟨⟨h1, h2⟩, h3⟩ := hl
  have hlen : l.length ≤ 4398046511104 := by omega
  have hlen2 : (l.map toFile).length ≤ 4398046511104 := by simpa using hlen
  obtain ⟨v, hv⟩ := szPlace_ev l hlen 1048576
  obtain ⟨b, b1, b2⟩ := place_ev (l.map toFile) hlen2 (by intro x hx; obtain ⟨y, hy, rfl⟩ := List.mem_map.1 hx; exact (h3 y hy).1)
  refine Ev.rounds ?_
  by_cases c : v < 0
  · exact ev_bind hv (ev_pos c (ev_now _))
  · exact ev_bind hv (ev_neg c (ev_bind (toPlace_ev l hlen) (ev_bind b1 (ev_bind (toPlace_ev l hlen) (ev_bind b2 (ev_neg (by simp) (ev_bind (toPlace_ev l hlen) (ev_bind (eqPlace_ev _ hlen2) (ev_pos rfl (ev_now _))))))))))
end Go.Proofs.Ytdpdpigaegabbaa.PureFnExactMillValidPlace
