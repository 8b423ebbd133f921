/- Jobs: program and reference agree on which are valid. The outs are fewer than 2^43, each shorter than 2^47. -/
import Derived.Test.YtdpdpigaegabbaaQPPath
import Derived.Test.YtdpdpigaegabbaaQXJob
import Derived.Test.YtdpdpigaegabbaaQf29
namespace Go.Proofs.Ytdpdpigaegabbaa.Q
open Go.RowKit Go.Proofs.YtdpdpigaegabbaaW.PrintWords Go.Proofs.YtdpdpigaegabbaaW.PrintLast Go.Proofs.YtdpdpigaegabbaaW.PrintMore Go.Proofs.Ytdpdpigaegabbaa.EvMore
set_option linter.unusedVariables false
set_option linter.unusedSimpArgs false
theorem rdStr_mem (l : List ByteArray) (i : Nat) (h : i < l.length) : rdOf ByteArray.empty l (i : Int) ∈ l := by
  unfold rdOf; rw [Int.toNat_natCast, List.getD_eq_getElem?_getD, List.getElem?_eq_getElem h]; exact List.getElem_mem _
theorem rdStr_at (l : List ByteArray) (i : Nat) (h : i < l.length) : rdOf ByteArray.empty l (i : Int) = l[i] := by
  unfold rdOf; rw [Int.toNat_natCast, List.getD_eq_getElem?_getD, List.getElem?_eq_getElem h]; rfl
/-- The order alone, from place i on: does place i - 1 come before place i, and so on. -/
def ascFrom (l : List ByteArray) : Nat → Nat → Bool
  | 0, _ => true
  | d + 1, i => Op.bytesLess (rdOf ByteArray.empty l ((i - 1 : Nat) : Int)).toList (rdOf ByteArray.empty l (i : Int)).toList && ascFrom l d (i + 1)
theorem asc_ev (l : List ByteArray) (hl : l.length ≤ 8796093022208) : ∀ d i : Nat, 0 < i → i + d = l.length → Ev (fun k => impl_ascending.l0 k l (i : Int)) (ascFrom l d i)
  | 0, i, hi, h => ev_step (ev_neg (by omega) (ev_now _))
  | d + 1, i, hi, h => by
    have e := succ64 (i := i) (n := l.length) (by omega) (by omega)
    have ep := pred64 (i := i) (by omega) (by omega)
    by_cases c : Op.bytesLess (rdOf ByteArray.empty l (wrap64 ((i : Int) - 1))).toList (rdOf ByteArray.empty l (i : Int)).toList = true
    · refine ev_step (ev_pos (by omega) (ev_pos (by omega) (ev_pos (by omega) (ev_pos (by omega) (ev_pos c ?_)))))
      rw [ep] at c
      simp only [e, ascFrom, c, Bool.true_and]
      exact asc_ev l hl d (i + 1) (by omega) (by omega)
    · refine ev_step (ev_pos (by omega) (ev_pos (by omega) (ev_pos (by omega) (ev_pos (by omega) (ev_neg c (ev_eq (ev_now _) ?_))))))
      rw [ep] at c
      simp only [ascFrom]
      simp only [Bool.not_eq_true] at c
      rw [c, Bool.false_and]
/-- Bad names from place i on. -/
theorem bad_ev (l : List ByteArray) (hs : ∀ x ∈ l, x.size ≤ 140737488351232) : ∃ b : Bool, Ev (fun k => anyO (badName k) l) b := by
  induction l with
  | nil => exact ⟨false, ev_now _⟩
  | cons x r ih =>
    obtain ⟨b, hb⟩ := ih (fun y hy => hs y (List.mem_cons_of_mem _ hy))
    obtain ⟨p, _, p2⟩ := path_ev x (hs x List.mem_cons_self)
    have hx : Ev (fun k => badName k x) (!p) := ev_bind p2 (ev_now _)
    cases p with
    | false => exact ⟨true, ev_bind hx (ev_pos rfl (ev_now _))⟩
    | true => exact ⟨b, ev_bind hx (ev_neg (by simp) hb)⟩
/-- The reference's loop, from place i on: all names good and all in order. -/
theorem job_loop (a : ByteArray) (l : List ByteArray) (hl : l.length ≤ 8796093022208) (hs : ∀ x ∈ l, x.size ≤ 140737488351232) : ∀ d i : Nat, i + d = l.length →
    ∃ b c : Bool, Ev (fun k => anyO (badName k) (l.drop i)) b ∧ c = (if i = 0 then ascFrom l (d - 1) 1 else ascFrom l d i) ∧ Ev (fun k => spec_MillValidJob.l0 k (i : Int) a l) (c && !b)
  | 0, i, h => by
    refine ⟨false, true, ?_, ?_, ev_step (ev_neg (by omega) (ev_now _))⟩
    · rw [List.drop_eq_nil_of_le (by omega)]; exact ev_now _
    · split <;> rfl
  | d + 1, i, h => by
    have e := succ64 (i := i) (n := l.length) (by omega) (by omega)
    have hi : i < l.length := by omega
    obtain ⟨b, c, h1, h2, h3⟩ := job_loop a l hl hs d (i + 1) (by omega)
    rw [if_neg (by omega)] at h2
    obtain ⟨p, p1, p2⟩ := path_ev _ (hs _ (rdStr_mem l i hi))
    have hx : Ev (fun k => badName k (rdOf ByteArray.empty l (i : Int))) (!p) := ev_bind p2 (ev_now _)
    have hd : l.drop i = rdOf ByteArray.empty l (i : Int) :: l.drop (i + 1) := by rw [List.drop_eq_getElem_cons hi, rdStr_at l i hi]
    have lt : (i : Int) < (l.length : Int) := by omega
    have ge : (0 : Int) ≤ (i : Int) := by omega
    rw [hd]
    cases p with
    | false =>
      refine ⟨true, _, ev_bind hx (ev_pos rfl (ev_now _)), rfl, ev_step (ev_pos lt (ev_pos ge (ev_bind p1 (ev_neg (by simp) (ev_eq (ev_now _) ?_)))))⟩
      simp
    | true =>
      have hb : Ev (fun k => anyO (badName k) (rdOf ByteArray.empty l (i : Int) :: l.drop (i + 1))) b := ev_bind hx (ev_neg (by simp) h1)
      by_cases c2 : (i : Int) > 0
      · have ep := pred64 (i := i) (by omega) (by omega)
        have hz : ¬ i = 0 := by omega
        by_cases c3 : Op.bytesLess (rdOf ByteArray.empty l (wrap64 ((i : Int) - 1))).toList (rdOf ByteArray.empty l (i : Int)).toList = true
        · refine ⟨b, c, hb, ?_, ev_step (ev_pos lt (ev_pos ge (ev_bind p1 (ev_pos rfl (ev_pos c2 (ev_pos (by rw [ep]; omega) (ev_pos (by rw [ep]; omega) (ev_pos c3 ?_))))))))⟩
          · rw [if_neg hz]; rw [ep] at c3; simp only [ascFrom, c3, Bool.true_and]; exact h2
          · simp only [e]; exact h3
        · refine ⟨b, false, hb, ?_, ev_step (ev_pos lt (ev_pos ge (ev_bind p1 (ev_pos rfl (ev_pos c2 (ev_pos (by rw [ep]; omega) (ev_pos (by rw [ep]; omega) (ev_neg c3 (ev_eq (ev_now _) (by simp))))))))))⟩
          rw [if_neg hz]; rw [ep] at c3; simp only [Bool.not_eq_true] at c3; simp only [ascFrom, c3, Bool.false_and]
      · refine ⟨b, c, hb, ?_, ev_step (ev_pos lt (ev_pos ge (ev_bind p1 (ev_pos rfl (ev_neg c2 ?_)))))⟩
        · have hz : i = 0 := by omega
          subst hz
          rw [if_pos rfl]; simpa using h2
        · simp only [e]; exact h3
theorem job_ev (a : ByteArray) (l : List ByteArray) (hl : l.length ≤ 8796093022208) (hs : ∀ x ∈ l, x.size ≤ 140737488351232) :
    ∃ b : Bool, Ev (fun k => spec_MillValidJob.f k a l) b ∧ Ev (fun k => impl_MillValidJob.f k a l) b := by
  by_cases c1 : (a.size : Int) ≤ 3000
  · by_cases c2 : (l.length : Int) ≤ 20
    · obtain ⟨b, c, h1, h2, h3⟩ := job_loop a l hl hs l.length 0 (by omega)
      rw [if_pos rfl] at h2
      simp only [List.drop_zero] at h1
      have ha : Ev (fun k => impl_ascending.f k l) c := by
        rw [h2]
        rcases Nat.eq_zero_or_pos l.length with hz | hz
        · refine ev_step (ev_neg (by omega) (ev_eq (ev_now _) ?_))
          rw [hz]; rfl
        · exact asc_ev l hl (l.length - 1) 1 (by omega) (by omega)
      refine ⟨c && !b, ev_neg (by omega) (ev_step (ev_neg (by simp; omega) h3)), ev_pos c1 (ev_pos c2 (ev_bind ha ?_))⟩
      cases c with
      | false => exact ev_neg (by simp) (ev_eq (ev_now _) (by simp))
      | true => exact ev_pos rfl (ev_bind h1 (ev_eq (ev_now _) (by simp)))
    · exact ⟨false, ev_neg (by omega) (ev_step (ev_pos (by simp; omega) (ev_now _))), ev_pos c1 (ev_neg c2 (ev_now _))⟩
  · exact ⟨false, ev_pos (by omega) (ev_step (ev_pos (c := true = true) (f := fun _ => some false) (g := fun n => spec_MillValidJob.l0 n 0 a l) rfl (ev_now _))), ev_neg c1 (ev_now _)⟩
end Go.Proofs.Ytdpdpigaegabbaa.Q
