/- The reference's sum over one text is the program's over its three pieces. No condition beyond the texts' sizes. -/
import Derived.Test.YtdpdpigaegabbaaEvMore
import Derived.Test.YtdpdpigaegabbaaQXTag
import Derived.Test.YtdpdpigaegabbaaQf19
namespace Go.Proofs.Ytdpdpigaegabbaa.Q
open Go.RowKit Go.Proofs.YtdpdpigaegabbaaW.PrintWords Go.Proofs.YtdpdpigaegabbaaW.PrintLast Go.Proofs.YtdpdpigaegabbaaW.PrintMore Go.Proofs.Ytdpdpigaegabbaa.EvMore
set_option linter.unusedVariables false
set_option linter.unusedSimpArgs false
theorem bt_left (s t : ByteArray) (i : Nat) (h : i < s.size) : bt (s ++ t) (i : Int) = bt s (i : Int) := by
  unfold bt
  have h2 : (i : Int).toNat < (s ++ t).size := by rw [ByteArray.size_append]; omega
  have h3 : (i : Int).toNat < s.size := by omega
  rw [dif_pos h2, dif_pos h3]
  simp only [Int.toNat_natCast]
  rw [ByteArray.getElem_append_left h]
theorem bt_right (s t : ByteArray) (j : Nat) (h : j < t.size) : bt (s ++ t) ((s.size + j : Nat) : Int) = bt t (j : Int) := by
  unfold bt
  have h2 : ((s.size + j : Nat) : Int).toNat < (s ++ t).size := by rw [ByteArray.size_append]; omega
  have h3 : (j : Int).toNat < t.size := by omega
  rw [dif_pos h2, dif_pos h3]
  simp only [Int.toNat_natCast]
  rw [ByteArray.getElem_append_right (by omega)]
  simp
theorem tagRun_left (h : Int) (s t : ByteArray) : ∀ n, n ≤ s.size → tagRun h (s ++ t) n = tagRun h s n
  | 0, _ => rfl
  | n + 1, hn => by simp only [tagRun]; rw [tagRun_left h s t n (by omega), bt_left s t n (by omega)]
theorem tagRun_right (h : Int) (s t : ByteArray) : ∀ n, n ≤ t.size → tagRun h (s ++ t) (s.size + n) = tagRun (tagRun h s s.size) t n
  | 0, _ => tagRun_left h s t s.size (Nat.le_refl _)
  | n + 1, hn => by
    show tagStep (tagRun h (s ++ t) (s.size + n)) (bt (s ++ t) ((s.size + n : Nat) : Int)) = tagStep (tagRun (tagRun h s s.size) t n) (bt t (n : Int))
    rw [tagRun_right h s t n (by omega), bt_right s t n (by omega)]
theorem tagRun_append (h : Int) (s t : ByteArray) : tagRun h (s ++ t) (s ++ t).size = tagRun (tagRun h s s.size) t t.size := by
  rw [ByteArray.size_append]; exact tagRun_right h s t t.size (Nat.le_refl _)
theorem tag_l1 (h : Int) : Ev (fun k => spec_YardTag.l1 k h [] 7) (tagBytes h) := by
  have e7 : IntKind.u64.wrap (wrap64 (8 * 7)) = 56 := by decide +kernel
  have e6 : IntKind.u64.wrap (wrap64 (8 * 6)) = 48 := by decide +kernel
  have e5 : IntKind.u64.wrap (wrap64 (8 * 5)) = 40 := by decide +kernel
  have e4 : IntKind.u64.wrap (wrap64 (8 * 4)) = 32 := by decide +kernel
  have e3 : IntKind.u64.wrap (wrap64 (8 * 3)) = 24 := by decide +kernel
  have e2 : IntKind.u64.wrap (wrap64 (8 * 2)) = 16 := by decide +kernel
  have e1 : IntKind.u64.wrap (wrap64 (8 * 1)) = 8 := by decide +kernel
  have e0 : IntKind.u64.wrap (wrap64 (8 * 0)) = 0 := by decide +kernel
  have w7 : wrap64 (7 - 1) = 6 := by decide +kernel
  have w6 : wrap64 (6 - 1) = 5 := by decide +kernel
  have w5 : wrap64 (5 - 1) = 4 := by decide +kernel
  have w4 : wrap64 (4 - 1) = 3 := by decide +kernel
  have w3 : wrap64 (3 - 1) = 2 := by decide +kernel
  have w2 : wrap64 (2 - 1) = 1 := by decide +kernel
  have w1 : wrap64 (1 - 1) = 0 := by decide +kernel
  have w0 : wrap64 (0 - 1) = -1 := by decide +kernel
  refine ev_step (ev_pos (by omega) (ev_pos (by rw [e7]; omega) (ev_pos (by simp) ?_))); simp only [w7]
  refine ev_step (ev_pos (by omega) (ev_pos (by rw [e6]; omega) (ev_pos (by simp) ?_))); simp only [w6]
  refine ev_step (ev_pos (by omega) (ev_pos (by rw [e5]; omega) (ev_pos (by simp) ?_))); simp only [w5]
  refine ev_step (ev_pos (by omega) (ev_pos (by rw [e4]; omega) (ev_pos (by simp) ?_))); simp only [w4]
  refine ev_step (ev_pos (by omega) (ev_pos (by rw [e3]; omega) (ev_pos (by simp) ?_))); simp only [w3]
  refine ev_step (ev_pos (by omega) (ev_pos (by rw [e2]; omega) (ev_pos (by simp) ?_))); simp only [w2]
  refine ev_step (ev_pos (by omega) (ev_pos (by rw [e1]; omega) (ev_pos (by simp) ?_))); simp only [w1]
  refine ev_step (ev_pos (by omega) (ev_pos (by rw [e0]; omega) (ev_pos (by simp) ?_))); simp only [w0]
  refine ev_step (ev_neg (by omega) (ev_eq (ev_now _) ?_))
  simp only [e7, e6, e5, e4, e3, e2, e1, e0]
  rfl
theorem tag_l0 (S : ByteArray) (h0 : Int) (hS : S.size ≤ 9223372036854775807) : ∀ d i : Nat, i + d = S.size → Ev (fun k => spec_YardTag.l0 k S (tagRun h0 S i) (i : Int)) (tagBytes (tagRun h0 S S.size))
  | 0, i, h => by
    have : i = S.size := by omega
    subst this
    exact ev_step (ev_neg (by omega) (tag_l1 _))
  | d + 1, i, h => by
    have e := succ64 (i := i) (n := S.size) (by omega) (by omega)
    have hb := bt_range S (i : Int)
    have ew : IntKind.u64.wrap (bt S (i : Int)) = bt S (i : Int) := by rw [wrapU]; omega
    refine ev_step (ev_pos (by omega) (ev_pos (by omega) ?_))
    simp only [e, ew]
    exact tag_l0 S h0 hS d (i + 1) (by omega)
theorem tag_spec (a0 a1 : ByteArray) (h0 : a0.size ≤ 140737488351232) (h1 : a1.size ≤ 140737488351232) : ∃ r, Ev (fun k => spec_YardTag.f k a0 a1) r ∧ impl_YardTag.f a0 a1 = some r := by
  by_cases c : (a1.size : Int) > 30
  · exact ⟨_, ev_pos c (ev_now _), by unfold impl_YardTag.f; rw [if_neg (by omega)]⟩
  · have s1 : (⟨#[0]⟩ : ByteArray).size = 1 := rfl
    refine ⟨_, ev_neg c (ev_pos (by omega) (ev_pos (by rw [ByteArray.size_append, s1]; omega) (tag_l0 _ 14695981039346656037 (by rw [ByteArray.size_append, ByteArray.size_append, s1]; omega) (a1 ++ ⟨#[0]⟩ ++ a0).size 0 (by omega)))), ?_⟩
    unfold impl_YardTag.f
    rw [if_pos (by omega), if_pos h0, tagRun_append, tagRun_append]
    rfl
end Go.Proofs.Ytdpdpigaegabbaa.Q
