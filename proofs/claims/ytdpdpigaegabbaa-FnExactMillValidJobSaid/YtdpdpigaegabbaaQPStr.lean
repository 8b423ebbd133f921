/- Lists of texts measured, copied and compared by the laws: that the copies are exact. The lists are shorter than 2^62. -/
import Derived.Test.YtdpdpigaegabbaaEvMore
import Derived.Test.YtdpdpigaegabbaaQf58
import Derived.Test.YtdpdpigaegabbaaQf60
import Derived.Test.YtdpdpigaegabbaaQf65
namespace Go.Proofs.Ytdpdpigaegabbaa.Q
open Go.RowKit Go.Proofs.YtdpdpigaegabbaaW.PrintWords Go.Proofs.YtdpdpigaegabbaaW.PrintLast Go.Proofs.YtdpdpigaegabbaaW.PrintMore Go.Proofs.Ytdpdpigaegabbaa.EvMore
set_option linter.unusedVariables false
set_option linter.unusedSimpArgs false
theorem szStrs_loop (l : List ByteArray) (hl : l.length ≤ 8796093022208) : ∀ d i : Nat, i + d = l.length → ∀ left : Int, ∃ v, Ev (fun k => laws_szStringS.l0 k l left (i : Int)) v
  | 0, i, h, left => ⟨left, ev_step (ev_neg (by omega) (ev_now _))⟩
  | d + 1, i, h, left => by
    have e := succ64 (i := i) (n := l.length) (by omega) (by omega)
    by_cases c : wrap64 (left - ((rdOf ByteArray.empty l (i : Int)).size : Int)) < 0
    · exact ⟨-1, ev_step (ev_pos (by omega) (ev_pos (by omega) (ev_pos c (ev_now _))))⟩
    · obtain ⟨v, hv⟩ := szStrs_loop l hl d (i + 1) (by omega) (wrap64 (left - ((rdOf ByteArray.empty l (i : Int)).size : Int)))
      refine ⟨v, ev_step (ev_pos (by omega) (ev_pos (by omega) (ev_neg c ?_)))⟩
      simp only [e]; exact hv
theorem szStrs_ev (l : List ByteArray) (hl : l.length ≤ 8796093022208) (left : Int) : ∃ v, Ev (fun k => laws_szStringS.f k l left) v := by
  by_cases c : wrap64 (left - (l.length : Int)) < 0
  · exact ⟨_, ev_pos c (ev_now _)⟩
  · obtain ⟨v, hv⟩ := szStrs_loop l hl l.length 0 (by omega) (wrap64 (left - (l.length : Int)))
    exact ⟨v, ev_neg c hv⟩
theorem toStrs_loop (l : List ByteArray) (hl : l.length ≤ 8796093022208) : ∀ d i : Nat, i + d = l.length →
    Ev (fun k => laws_toStringS.l0 k l ((l.take i).map id ++ List.replicate (l.length - i) (⟨#[]⟩ : ByteArray)) (i : Int)) (l.map id)
  | 0, i, h => by
    refine ev_step (ev_neg (by omega) (ev_eq (ev_now _) ?_))
    have : i = l.length := by omega
    subst this; simp
  | d + 1, i, h => by
    have e := succ64 (i := i) (n := l.length) (by omega) (by omega)
    have hi : i < l.length := by omega
    have hr : rdOf ByteArray.empty l (i : Int) = l[i] := by unfold rdOf; rw [Int.toNat_natCast, List.getD_eq_getElem?_getD, List.getElem?_eq_getElem hi]; rfl
    refine ev_step (ev_pos (by omega) (ev_pos (by omega) (ev_pos (by simp; omega) ?_)))
    have ih := toStrs_loop l hl d (i + 1) (by omega)
    rw [← set_map id l _ i hi] at ih
    simp only [e, hr, Int.toNat_natCast]; exact ih
theorem toStrs_ev (l : List ByteArray) (hl : l.length ≤ 8796093022208) : Ev (fun k => laws_toStringS.f k l) l := by
  refine ev_pos (by omega) (ev_pos (by omega) ?_)
  have h := toStrs_loop l hl l.length 0 (by omega)
  simpa using h
theorem eqStrs_loop (l : List ByteArray) (hl : l.length ≤ 8796093022208) : ∀ d i : Nat, i + d = l.length → Ev (fun k => laws_eqStringS.l0 k l l (i : Int)) true
  | 0, i, h => ev_step (ev_neg (by omega) (ev_now _))
  | d + 1, i, h => by
    have e := succ64 (i := i) (n := l.length) (by omega) (by omega)
    refine ev_step (ev_pos (by omega) (ev_pos (by omega) (ev_pos (by omega) (ev_pos rfl ?_))))
    simp only [e]; exact eqStrs_loop l hl d (i + 1) (by omega)
theorem eqStrs_ev (l : List ByteArray) (hl : l.length ≤ 8796093022208) : Ev (fun k => laws_eqStringS.f k l l) true := ev_pos rfl (eqStrs_loop l hl l.length 0 (by omega))
end Go.Proofs.Ytdpdpigaegabbaa.Q
