import Derived.Test.YtdpdpigaegabbaaQmFnExactMillSee4
import Derived.Test.YtdpdpigaegabbaaOpens
/- The pure statement behind the law FnExactMillSee: program and reference see the same at every place. No condition. -/
namespace Go.Proofs.Ytdpdpigaegabbaa.PureFnExactMillSee
open Go.RowKit Go.Proofs.Ytdpdpigaegabbaa.Q Go.Proofs.YtdpdpigaegabbaaW.PrintWords
set_option linter.unusedVariables false
set_option linter.unusedSimpArgs false
open Go.Proofs.Ytdpdpigaegabbaa.EvMore
def G130 (x : S130) : Prop := x.f0.size ≤ 140737488351232 ∧ x.f1.size ≤ 140737488351232
def Statement : Prop := ∀ (l0_0 : List (S130)) (a1 : Int) (a2 : ByteArray), ((l0_0.length * 32 ≤ 140737488351232 ∧ l0_0.length ≤ maxLen) ∧ ∀ y ∈ l0_0, G130 y) → (Lit.int .i64 a1).wf = true → a2.size ≤ 140737488351232 → ∃ k, laws_FnExactMillSee.f k l0_0 a1 a2 = some true
theorem FnExactMillSee : Statement := by
  intro l kind t hl _ _
  obtain ⟨⟨h1, h2⟩, h3⟩ := hl
  have hlen : l.length ≤ 4398046511104 := by omega
  have hlen2 : (l.map toFile).length ≤ 4398046511104 := by simpa using hlen
  obtain ⟨v, hv⟩ := szPlace_ev l hlen 1048576
  obtain ⟨r, r1, r2⟩ := see_ev (l.map toFile) hlen2 (by intro x hx; obtain ⟨y, hy, rfl⟩ := List.mem_map.1 hx; exact (h3 y hy).1) kind t
  have he : laws_eqMillReply.f r.1 r.2 r.1 r.2 = some true := by simp [laws_eqMillReply.f]
  refine Ev.rounds ?_
  by_cases c0 : (t.size : Int) > 1048576
  · exact ev_pos c0 (ev_now _)
  · by_cases c : v < 0
    · exact ev_neg c0 (ev_bind hv (ev_pos c (ev_now _)))
    · exact ev_neg c0 (ev_bind hv (ev_neg c (ev_bind (toPlace_ev l hlen) (ev_bind r1 (ev_bind (toPlace_ev l hlen) (ev_bind r2 (ev_val he (ev_pos rfl (ev_bind (toPlace_ev l hlen) (ev_bind (eqPlace_ev _ hlen2) (ev_pos rfl (ev_now _))))))))))))
end Go.Proofs.Ytdpdpigaegabbaa.PureFnExactMillSee
