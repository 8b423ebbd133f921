/- Texts in quotes: program and reference write the same. The text is shorter than 2^22. -/
import Derived.Test.YtfjpkijfoiajaaaEvMore
import Derived.Test.YtfjpkijfoiajaaaQf10
import Derived.Test.YtfjpkijfoiajaaaQf13
namespace Go.Proofs.Ytfjpkijfoiajaaa.Q
open Go.RowKit Go.Proofs.YtfjpkijfoiajaaaW.PrintWords Go.Proofs.YtfjpkijfoiajaaaW.PrintLast Go.Proofs.YtfjpkijfoiajaaaW.PrintMore Go.Proofs.Ytfjpkijfoiajaaa.EvMore
set_option linter.unusedVariables false
set_option linter.unusedSimpArgs false
def hexA : ByteArray := ⟨#[48, 49, 50, 51, 52, 53, 54, 55, 56, 57, 97, 98, 99, 100, 101, 102]⟩
theorem bt_in (s : ByteArray) (i : Int) : 0 ≤ bt s i ∧ bt s i < 256 := by
  unfold bt
  split
  · exact ⟨by omega, by have := UInt8.toNat_lt (s[i.toNat]'(by assumption)); omega⟩
  · omega
theorem and15 (c : Int) (h0 : 0 ≤ c) (h1 : c < 256) : Go.bits .and .u8 c 15 = c % 16 := by
  obtain ⟨n, rfl⟩ := Int.eq_ofNat_of_zero_le h0
  have key : ∀ k : Fin 256, Go.bits .and .u8 ((k.1 : Nat) : Int) 15 = ((k.1 : Nat) : Int) % 16 := by decide +kernel
  exact key ⟨n, by omega⟩
theorem quote_loop (s : ByteArray) (hs : s.size ≤ 4194304) : ∀ (d i : Nat) (acc : List Int), i + d = s.size → acc.length + 3 * d ≤ 100000000 →
    ∃ q : List Int, q.length ≤ acc.length + 3 * d + 1 ∧ Ev (fun k => spec_l1Quote.l0 k s acc hexA (i : Int)) (strOfNums q) ∧ Ev (fun k => impl_quote.l0 k s acc (i : Int)) (strOfNums q)
  | 0, i, acc, h, hl => by
    refine ⟨acc ++ [34], by simp, ev_step (ev_neg (by omega) (ev_pos (by omega) (ev_now _))), ev_step (ev_neg (by omega) (ev_pos (by omega) (ev_now _)))⟩
  | d + 1, i, acc, h, hl => by
    have e := succ64 (i := i) (n := s.size) (by omega) (by omega)
    have hc := bt_in s (i : Int)
    have lt : (i : Int) < (s.size : Int) := by omega
    have ge : (0 : Int) ≤ (i : Int) := by omega
    obtain ⟨c, hcd⟩ : ∃ c, c = bt s (i : Int) := ⟨_, rfl⟩
    rw [← hcd] at hc
    have h1 : Int.tdiv c 16 % 256 = c / 16 := by rw [Int.tdiv_eq_ediv_of_nonneg hc.1]; omega
    have h2 : Int.tmod c 16 = c % 16 := Int.tmod_eq_emod_of_nonneg hc.1
    have h3 := and15 c hc.1 hc.2
    have hz : (hexA.size : Int) = 16 := rfl
    obtain ⟨y, hy⟩ : ∃ y : List Int, y = [92, bt hexA (c / 16), bt hexA (c % 16)] := ⟨_, rfl⟩
    obtain ⟨q1, l1, s1, p1⟩ := quote_loop s hs d (i + 1) (acc ++ y) (by omega) (by rw [hy]; simp; omega)
    obtain ⟨q2, l2, s2, p2⟩ := quote_loop s hs d (i + 1) (acc ++ [c]) (by omega) (by simp; omega)
    have hyl : y.length = 3 := by rw [hy]; rfl
    have escS : Ev (fun n => if 0 ≤ c / 16 then (if c / 16 < (hexA.size : Int) then (if 0 ≤ c % 16 then (if c % 16 < (hexA.size : Int) then ((some ([92, bt hexA (c / 16), bt hexA (c % 16)] : List Int)).bind fun y104 => (if acc.length + y104.length < 140737488355328 then spec_l1Quote.l0 n s (acc ++ y104) hexA ((i + 1 : Nat) : Int) else none)) else none) else none) else none) else none) (strOfNums q1) :=
      ev_pos (by omega) (ev_pos (by omega) (ev_pos (by omega) (ev_pos (by omega) (ev_val rfl (ev_pos (by simp; omega) (by rw [← hy]; exact s1))))))
    have escI : Ev (fun n => if 0 ≤ c / 16 then (if c / 16 < 16 then (if 0 ≤ c % 16 then (if c % 16 < 16 then ((some ([92, bt hexA (c / 16), bt hexA (c % 16)] : List Int)).bind fun y104 => (if acc.length + y104.length < 140737488355328 then impl_quote.l0 n s (acc ++ y104) ((i + 1 : Nat) : Int) else none)) else none) else none) else none) else none) (strOfNums q1) :=
      ev_pos (by omega) (ev_pos (by omega) (ev_pos (by omega) (ev_pos (by omega) (ev_val rfl (ev_pos (by simp; omega) (by rw [← hy]; exact p1))))))
    by_cases k1 : c < 32
    · refine ⟨q1, by simp only [List.length_append] at l1; omega, ev_step ?_, ev_step ?_⟩
      · simp only [spec_l1Quote.l0, ← hcd, h1, h2, e]
        exact ev_pos lt (ev_pos ge (ev_neg (by omega) escS))
      · simp only [impl_quote.l0, ← hcd, h3, e]
        exact ev_pos lt (ev_pos ge (ev_pos k1 escI))
    · by_cases k2 : c > 126
      · refine ⟨q1, by simp only [List.length_append] at l1; omega, ev_step ?_, ev_step ?_⟩
        · simp only [spec_l1Quote.l0, ← hcd, h1, h2, e]
          exact ev_pos lt (ev_pos ge (ev_pos (by omega) (ev_neg (by omega) escS)))
        · simp only [impl_quote.l0, ← hcd, h3, e]
          exact ev_pos lt (ev_pos ge (ev_neg k1 (ev_pos k2 escI)))
      · by_cases k3 : c = 34
        · refine ⟨q1, by simp only [List.length_append] at l1; omega, ev_step ?_, ev_step ?_⟩
          · simp only [spec_l1Quote.l0, ← hcd, h1, h2, e]
            exact ev_pos lt (ev_pos ge (ev_pos (by omega) (ev_pos (by omega) (ev_pos k3 escS))))
          · simp only [impl_quote.l0, ← hcd, h3, e]
            exact ev_pos lt (ev_pos ge (ev_neg k1 (ev_neg k2 (ev_pos k3 escI))))
        · by_cases k4 : c = 92
          · refine ⟨q1, by simp only [List.length_append] at l1; omega, ev_step ?_, ev_step ?_⟩
            · simp only [spec_l1Quote.l0, ← hcd, h1, h2, e]
              exact ev_pos lt (ev_pos ge (ev_pos (by omega) (ev_pos (by omega) (ev_neg k3 (ev_pos k4 escS)))))
            · simp only [impl_quote.l0, ← hcd, h3, e]
              exact ev_pos lt (ev_pos ge (ev_neg k1 (ev_neg k2 (ev_neg k3 (ev_pos k4 escI)))))
          · refine ⟨q2, by simp only [List.length_append, List.length_cons, List.length_nil] at l2; omega, ev_step ?_, ev_step ?_⟩
            · simp only [spec_l1Quote.l0, ← hcd, h1, h2, e]
              exact ev_pos lt (ev_pos ge (ev_pos (by omega) (ev_pos (by omega) (ev_neg k3 (ev_neg k4 (ev_pos (by omega) s2))))))
            · simp only [impl_quote.l0, ← hcd, h3, e]
              exact ev_pos lt (ev_pos ge (ev_neg k1 (ev_neg k2 (ev_neg k3 (ev_neg k4 (ev_pos (by omega) p2))))))
theorem quote_ev (s : ByteArray) (hs : s.size ≤ 4194304) : ∃ q : ByteArray, q.size ≤ 3 * s.size + 2 ∧ Ev (fun k => spec_l1Quote.f k s) q ∧ Ev (fun k => impl_quote.f k s) q := by
  obtain ⟨q, h0, h1, h2⟩ := quote_loop s hs s.size 0 [34] (by omega) (by simp; omega)
  refine ⟨strOfNums q, ?_, h1, h2⟩
  have : (strOfNums q).size = q.length := by simp [strOfNums, ByteArray.size]
  rw [this]
  simp only [List.length_cons, List.length_nil] at h0
  omega
end Go.Proofs.Ytfjpkijfoiajaaa.Q
