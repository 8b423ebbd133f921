/- The pure statement behind the law FnExactClayFormPlan: program and reference write the same text for the same targets. No condition. -/
import Derived.Test.YtfjpkijfoiajaaaQf3
import Derived.Test.YtfjpkijfoiajaaaOpens
import Derived.Test.YtfjpkijfoiajaaaQPPlan
namespace Go.Proofs.Ytfjpkijfoiajaaa.PureFnExactClayFormPlan
open Go.RowKit Go.Proofs.Ytfjpkijfoiajaaa.Q Go.Proofs.YtfjpkijfoiajaaaW.PrintWords
set_option linter.unusedVariables false
set_option linter.unusedSimpArgs false
open Go.Proofs.Ytfjpkijfoiajaaa.EvMore
def G9 (x : ByteArray) : Prop := x.size ≤ 140737488351232
def G32 (x : S32) : Prop := x.f0.size ≤ 140737488351232 ∧ x.f1.size ≤ 140737488351232 ∧ x.f2.size ≤ 140737488351232 ∧ ((x.f3.length * 16 ≤ 140737488351232 ∧ x.f3.length ≤ maxLen) ∧ ∀ y ∈ x.f3, G9 y) ∧ ((x.f4.length * 16 ≤ 140737488351232 ∧ x.f4.length ≤ maxLen) ∧ ∀ y ∈ x.f4, G9 y)
def Statement : Prop := ∀ (l0 : List (S32)), ((l0.length * 96 ≤ 140737488351232 ∧ l0.length ≤ maxLen) ∧ ∀ y ∈ l0, G32 y) → ∃ k, laws_FnExactClayFormPlan.f k l0 = some true
theorem FnExactClayFormPlan : Statement := by
  intro l hl
  obtain ⟨⟨h1, h2⟩, h3⟩ := hl
  have hlen : l.length ≤ 1466015503701 := by omega
  have hB : ∀ y ∈ l, BS32 y := fun y hy => by
    obtain ⟨_, _, _, ⟨⟨a, _⟩, _⟩, ⟨b, _⟩, _⟩ := h3 y hy
    exact ⟨by omega, by omega⟩
  have hG : ∀ y ∈ l, GT y := fun y hy => by
    obtain ⟨a0, a1, a2, ⟨⟨a, _⟩, a3⟩, ⟨b, _⟩, b3⟩ := h3 y hy
    exact ⟨a0, a1, a2, ⟨by omega, a3⟩, by omega, b3⟩
  obtain ⟨v, hv, hw⟩ := szTS l hlen hG
  have tp := to_ClayTargetS l ⟨hlen, hB⟩
  have B2 := to_ClayTargetS_B l ⟨hlen, hB⟩
  refine Ev.rounds (ev_bind hv ?_)
  by_cases e : v < 0
  · exact ev_pos e (ev_now _)
  · obtain ⟨q, q1, q2⟩ := plan_ev (l.map to_ClayTargetS_) (hw (by omega))
    exact ev_neg e (ev_bind tp (ev_bind q1 (ev_bind tp (ev_bind q2 (ev_pos rfl (ev_bind tp (ev_bind (eq_ClayTargetS _ B2) (ev_pos rfl (ev_now _)))))))))
end Go.Proofs.Ytfjpkijfoiajaaa.PureFnExactClayFormPlan
