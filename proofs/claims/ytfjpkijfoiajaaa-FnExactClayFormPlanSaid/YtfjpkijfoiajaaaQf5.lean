-- Printed by this session's own program (pp.py, over a patched copy of the kit's print): the functions that the laws reach and their contracts.
import Derived.Test.YtfjpkijfoiajaaaShort
import Derived.Test.YtfjpkijfoiajaaaQ0
import Derived.Test.YtfjpkijfoiajaaaQf10
namespace Go.Proofs.Ytfjpkijfoiajaaa.Q
open Go.RowKit Go.Proofs.YtfjpkijfoiajaaaW.PrintWords Go.Proofs.YtfjpkijfoiajaaaW.PrintLast Go.Proofs.YtfjpkijfoiajaaaW.PrintMore Go.Proofs.Ytfjpkijfoiajaaa.Short
attribute [local go_sem] max2_int min2_int max_two min_two max_three min_three max_four min_four   -- for this text's walks alone
set_option linter.unusedVariables false
set_option linter.unusedSimpArgs false

/-! ### spec_ClayFormPlan: function 5 -/
mutual
def spec_ClayFormPlan.l0 : Nat → List (S34) → List Int → Int → Option (ByteArray)
  | 0, _, _, _ => none
  | k + 1, x0, x3, x4 => if x4 < (x0.length : Int) then (if 0 ≤ x4 then ((spec_l1Quote.f k ((rd_T34 x0 x4).f0)).bind fun t106 => (if t106.size + 2 ≤ 9223372036854775807 then ((spec_l1Quote.f k ((rd_T34 x0 x4).f1)).bind fun t107 => (if (t106 ++ (⟨#[58, 32]⟩ : ByteArray)).size + t107.size ≤ 9223372036854775807 then (if ((t106 ++ (⟨#[58, 32]⟩ : ByteArray)) ++ t107).size + 1 ≤ 9223372036854775807 then ((spec_l1Quote.f k ((rd_T34 x0 x4).f2)).bind fun t108 => (if (((t106 ++ (⟨#[58, 32]⟩ : ByteArray)) ++ t107) ++ (⟨#[32]⟩ : ByteArray)).size + t108.size ≤ 9223372036854775807 then (if ((((t106 ++ (⟨#[58, 32]⟩ : ByteArray)) ++ t107) ++ (⟨#[32]⟩ : ByteArray)) ++ t108).size + 1 ≤ 9223372036854775807 then (if x3.length + (((((t106 ++ (⟨#[58, 32]⟩ : ByteArray)) ++ t107) ++ (⟨#[32]⟩ : ByteArray)) ++ t108) ++ (⟨#[10]⟩ : ByteArray)).size < 140737488355328 then (spec_ClayFormPlan.l1 k x0 (x3 ++ bytesOf (((((t106 ++ (⟨#[58, 32]⟩ : ByteArray)) ++ t107) ++ (⟨#[32]⟩ : ByteArray)) ++ t108) ++ (⟨#[10]⟩ : ByteArray))) x4 0 ((rd_T34 x0 x4).f0) ((rd_T34 x0 x4).f1) ((rd_T34 x0 x4).f2) ((rd_T34 x0 x4).f3) ((rd_T34 x0 x4).f4)) else (none)) else (none)) else (none))) else (none)) else (none))) else (none))) else (none)) else (some (strOfNums x3))
def spec_ClayFormPlan.l1 : Nat → List (S34) → List Int → Int → Int → ByteArray → ByteArray → ByteArray → List ByteArray → List ByteArray → Option (ByteArray)
  | 0, _, _, _, _, _, _, _, _, _ => none
  | k + 1, x0, x3, x4, x6, x106000, x106001, x106002, x106003, x106004 => if x6 < (x106003.length : Int) then (if 0 ≤ x6 then ((spec_l1Quote.f k (rdOf ByteArray.empty x106003 x6)).bind fun t113 => (if 4 + t113.size ≤ 9223372036854775807 then (if ((⟨#[32, 32, 60, 32]⟩ : ByteArray) ++ t113).size + 1 ≤ 9223372036854775807 then (if x3.length + (((⟨#[32, 32, 60, 32]⟩ : ByteArray) ++ t113) ++ (⟨#[10]⟩ : ByteArray)).size < 140737488355328 then (spec_ClayFormPlan.l1 k x0 (x3 ++ bytesOf (((⟨#[32, 32, 60, 32]⟩ : ByteArray) ++ t113) ++ (⟨#[10]⟩ : ByteArray))) x4 (wrap64 (x6 + 1)) x106000 x106001 x106002 x106003 x106004) else (none)) else (none)) else (none))) else (none)) else (spec_ClayFormPlan.l2 k x0 x3 x4 0 x106000 x106001 x106002 x106003 x106004)
def spec_ClayFormPlan.l2 : Nat → List (S34) → List Int → Int → Int → ByteArray → ByteArray → ByteArray → List ByteArray → List ByteArray → Option (ByteArray)
  | 0, _, _, _, _, _, _, _, _, _ => none
  | k + 1, x0, x3, x4, x7, x106000, x106001, x106002, x106003, x106004 => if x7 < (x106004.length : Int) then (if 0 ≤ x7 then ((spec_l1Quote.f k (rdOf ByteArray.empty x106004 x7)).bind fun t118 => (if 4 + t118.size ≤ 9223372036854775807 then (if ((⟨#[32, 32, 62, 32]⟩ : ByteArray) ++ t118).size + 1 ≤ 9223372036854775807 then (if x3.length + (((⟨#[32, 32, 62, 32]⟩ : ByteArray) ++ t118) ++ (⟨#[10]⟩ : ByteArray)).size < 140737488355328 then (spec_ClayFormPlan.l2 k x0 (x3 ++ bytesOf (((⟨#[32, 32, 62, 32]⟩ : ByteArray) ++ t118) ++ (⟨#[10]⟩ : ByteArray))) x4 (wrap64 (x7 + 1)) x106000 x106001 x106002 x106003 x106004) else (none)) else (none)) else (none))) else (none)) else (spec_ClayFormPlan.l0 k x0 x3 (wrap64 (x4 + 1)))
end
def spec_ClayFormPlan.f (k : Nat) (l0 : List (S34)) : Option (ByteArray) := spec_ClayFormPlan.l0 k l0 (([] : List Int)) 0
theorem spec_ClayFormPlan.mono_l : ∀ k, (∀ y0 y1 y2, LeO (spec_ClayFormPlan.l0 k y0 y1 y2) (spec_ClayFormPlan.l0 (k + 1) y0 y1 y2)) ∧ (∀ y0 y1 y2 y3 y4 y5 y6 y7 y8, LeO (spec_ClayFormPlan.l1 k y0 y1 y2 y3 y4 y5 y6 y7 y8) (spec_ClayFormPlan.l1 (k + 1) y0 y1 y2 y3 y4 y5 y6 y7 y8)) ∧ (∀ y0 y1 y2 y3 y4 y5 y6 y7 y8, LeO (spec_ClayFormPlan.l2 k y0 y1 y2 y3 y4 y5 y6 y7 y8) (spec_ClayFormPlan.l2 (k + 1) y0 y1 y2 y3 y4 y5 y6 y7 y8))
  | 0 => ⟨fun _ _ _ r h => by simp [spec_ClayFormPlan.l0] at h, fun _ _ _ _ _ _ _ _ _ r h => by simp [spec_ClayFormPlan.l1] at h, fun _ _ _ _ _ _ _ _ _ r h => by simp [spec_ClayFormPlan.l2] at h⟩
  | k + 1 => by
    obtain ⟨ih0, ih1, ih2⟩ := spec_ClayFormPlan.mono_l k
    refine ⟨?_, ?_, ?_⟩
    · intro y0 y1 y2
      unfold spec_ClayFormPlan.l0
      repeat' first
      | (with_reducible exact ih0 _ _ _)
      | (with_reducible exact ih1 _ _ _ _ _ _ _ _ _)
      | (with_reducible exact ih2 _ _ _ _ _ _ _ _ _)
      | (with_reducible exact spec_l1Quote.mono _ _)
      | (with_reducible exact LeO.refl _)
      | (with_reducible exact LeO.none _)
      | (with_reducible refine LeO.ite ?_ ?_)
      | (with_reducible refine LeO.bind ?_ (fun _ => ?_))
      | exact ih0 _ _ _
      | exact ih1 _ _ _ _ _ _ _ _ _
      | exact ih2 _ _ _ _ _ _ _ _ _
      | exact spec_l1Quote.mono _ _
      | exact LeO.none _
      | refine LeO.ite ?_ ?_
      | refine LeO.bind ?_ (fun _ => ?_)
    · intro y0 y1 y2 y3 y4 y5 y6 y7 y8
      unfold spec_ClayFormPlan.l1
      repeat' first
      | (with_reducible exact ih0 _ _ _)
      | (with_reducible exact ih1 _ _ _ _ _ _ _ _ _)
      | (with_reducible exact ih2 _ _ _ _ _ _ _ _ _)
      | (with_reducible exact spec_l1Quote.mono _ _)
      | (with_reducible exact LeO.refl _)
      | (with_reducible exact LeO.none _)
      | (with_reducible refine LeO.ite ?_ ?_)
      | (with_reducible refine LeO.bind ?_ (fun _ => ?_))
      | exact ih0 _ _ _
      | exact ih1 _ _ _ _ _ _ _ _ _
      | exact ih2 _ _ _ _ _ _ _ _ _
      | exact spec_l1Quote.mono _ _
      | exact LeO.none _
      | refine LeO.ite ?_ ?_
      | refine LeO.bind ?_ (fun _ => ?_)
    · intro y0 y1 y2 y3 y4 y5 y6 y7 y8
      unfold spec_ClayFormPlan.l2
      repeat' first
      | (with_reducible exact ih0 _ _ _)
      | (with_reducible exact ih1 _ _ _ _ _ _ _ _ _)
      | (with_reducible exact ih2 _ _ _ _ _ _ _ _ _)
      | (with_reducible exact spec_l1Quote.mono _ _)
      | (with_reducible exact LeO.refl _)
      | (with_reducible exact LeO.none _)
      | (with_reducible refine LeO.ite ?_ ?_)
      | (with_reducible refine LeO.bind ?_ (fun _ => ?_))
      | exact ih0 _ _ _
      | exact ih1 _ _ _ _ _ _ _ _ _
      | exact ih2 _ _ _ _ _ _ _ _ _
      | exact spec_l1Quote.mono _ _
      | exact LeO.none _
      | refine LeO.ite ?_ ?_
      | refine LeO.bind ?_ (fun _ => ?_)
theorem spec_ClayFormPlan.mono : ∀ a0 k, LeO (spec_ClayFormPlan.f k a0) (spec_ClayFormPlan.f (k + 1) a0) := by
  intro a0 k
  obtain ⟨ih0, ih1, ih2⟩ := spec_ClayFormPlan.mono_l k
  unfold spec_ClayFormPlan.f
  repeat' first
      | (with_reducible exact ih0 _ _ _)
      | (with_reducible exact ih1 _ _ _ _ _ _ _ _ _)
      | (with_reducible exact ih2 _ _ _ _ _ _ _ _ _)
      | (with_reducible exact spec_l1Quote.mono _ _)
      | (with_reducible exact LeO.refl _)
      | (with_reducible exact LeO.none _)
      | (with_reducible refine LeO.ite ?_ ?_)
      | (with_reducible refine LeO.bind ?_ (fun _ => ?_))
      | exact ih0 _ _ _
      | exact ih1 _ _ _ _ _ _ _ _ _
      | exact ih2 _ _ _ _ _ _ _ _ _
      | exact spec_l1Quote.mono _ _
      | exact LeO.none _
      | refine LeO.ite ?_ ?_
      | refine LeO.bind ?_ (fun _ => ?_)
def spec_ClayFormPlan.T6 : Bool × List (List Nat × List Nat) := (true, [([], []), ([], []), ([1], [1]), ([2], [2]), ([3], [3]), ([], []), ([5], [5]), ([6, 3], [6]), ([4, 7], [4, 7]), ([8], [8]), ([], []), ([10], [10]), ([11, 7], [11]), ([9, 12], [9, 12]), ([13], [13]), ([0, 14, 12], [0, 14]), ([15, 15, 0, 1, 2, 3, 4, 5, 6, 7, 8, 9, 10, 11, 12, 13, 14, 15], [0, 15])])
def spec_ClayFormPlan.B6 : List Nat := [0, 0, 2, 6, 14, 0, 32, 110, 254, 510, 0, 1024, 3310, 8190, 16382, 32767, 65535]
theorem spec_ClayFormPlan.tab6 : rtab .any (opsOf Try.f5 6) = spec_ClayFormPlan.T6 := by kernel_rfl
theorem spec_ClayFormPlan.bits6 : waitsOk spec_ClayFormPlan.T6.2 spec_ClayFormPlan.B6 = true := by kernel_rfl
set_option maxHeartbeats 8000000 in
set_option maxRecDepth 100000 in
theorem spec_ClayFormPlan.calls (k : Nat) (A0 : Option Addr) (c0 : Nat) (l0 : List (S34)) (r : ByteArray) (w : World) (hr0 : Kd.C k34 w A0 l0.length l0) (hc0 : l0.length ≤ c0) (h : spec_ClayFormPlan.f k l0 = some r) :
    Calls Try.prog 5 #[.slice A0 l0.length c0] w fun e w' => e = .returned (.string r) ∧ Below w.heap.size w w' := by
  have hu34 := Try.underlying34
  have HR0 := Aside0.mk hr0
  have HC0 := Aside0.mk hc0
  clear hr0 hc0
  have HB := Aside0.mk (Below.refl w.heap.size w)
  have H : (spec_ClayFormPlan.l0 k l0 (([] : List Int)) 0) = some r := h
  clear h
  obtain ⟨y101, hy101⟩ : ∃ y_ : List Int, y_ = (([] : List Int)) := ⟨_, rfl⟩
  replace H : (spec_ClayFormPlan.l0 k l0 y101 0) = some r := by first | (rw [hy101]; with_reducible exact H) | (have H2_ := (Option.bind_some _ _).symm.trans H; rw [hy101]; with_reducible exact H2_) | (have H2_ := (Option.bind_some _ _).symm.trans H; with_reducible exact H2_) | with_reducible exact H | (rw [hy101]; exact H) | exact H
  have Ny101 := Aside0.mk hy101
  clear hy101
  have H' := Aside0.mk H
  clear H
  go_enter Try.func5, Try.ntmps5
  go_wp2_with (first | ((with_reducible refine gate_dst (N := 8) rfl ?_); refine Kd.R_lit (Kd.int .u8) _ 5 ?hg (N := 8) ?hd (xs := ([] : List Int)) (inner := []) (ok := fun _ => True) (okp := fun _ => True) ?hr ?hp (fun _ hk => hk) trivial (Below.refl _ _) (Nat.le_refl _) (by simp) ?_; (case hd => rfl); (case hg => rfl); (case hr => first | (go_simp; done) | (go_simp; rfl)); (case hp => exact (Reps.none _ _)); intro v102 w2 ho3 hb hg_ hnew_; clear hg_ hnew_; (first | rw [← Ny101.out] at ho3 | (simp only [Int.reduceToNat] at ho3; rw [← Ny101.out] at ho3)); have HO103 := Aside0.mk (Kd.R_lower ho3 (below_size (kb HB))); replace HB := kS HB hb; clear hb ho3))
  go_loopg [3, 4] k (fun kq v3 v4 w' => ∃ (x3_1 : List Int) (x4_1 : Int), v4 = .int .i64 x4_1 ∧ Aside0 (spec_ClayFormPlan.l0 kq l0 x3_1 x4_1 = some r) ∧ Aside0 (kq ≤ k) ∧ Aside0 (Kd.R (Kd.int .u8) 5 w' w.heap.size (fun _ => True) v3 x3_1) ∧ Aside0 (Below w.heap.size w w'))
  case atStart => exact ⟨(y101), (0), (by first | rfl | (simp; done) | (simp [*]; done)), H', ⟨Nat.le_refl _⟩, ⟨by (with_reducible repeat (first | apply Kd.R_alloc | apply Kd.R_drewN | apply Kd.R_drew)); exact HO103.out⟩, ⟨kb HB⟩⟩
  case round =>
    clear H'
    obtain ⟨x3_1, x4_1, rfl, HA, HK1, HO_3, HB⟩ := hrel
    cases gk with
    | zero => exact absurd HA.out (by simp [spec_ClayFormPlan.l0])
    | succ k1 =>
      have H := HA.out
      clear HA
      simp only [spec_ClayFormPlan.l0] at H
      by_cases c4 : x4_1 < (l0.length : Int)
      · rw [if_pos c4] at H
        have c4b0 : decide (x4_1 < (l0.length : Int)) = true := decide_eq_true c4
        clear c4
        by_cases c5 : 0 ≤ x4_1
        · rw [if_pos c5] at H
          have c5b0 : decide (0 ≤ x4_1) = true := decide_eq_true c5
          clear c5
          replace H := Option.bind_eq_some_iff.mp H
          obtain ⟨t106, A60, H⟩ := H
          replace H : (if t106.size + 2 ≤ 9223372036854775807 then ((spec_l1Quote.f k1 ((rd_T34 l0 x4_1).f1)).bind fun t107 => (if (t106 ++ (⟨#[58, 32]⟩ : ByteArray)).size + t107.size ≤ 9223372036854775807 then (if ((t106 ++ (⟨#[58, 32]⟩ : ByteArray)) ++ t107).size + 1 ≤ 9223372036854775807 then ((spec_l1Quote.f k1 ((rd_T34 l0 x4_1).f2)).bind fun t108 => (if (((t106 ++ (⟨#[58, 32]⟩ : ByteArray)) ++ t107) ++ (⟨#[32]⟩ : ByteArray)).size + t108.size ≤ 9223372036854775807 then (if ((((t106 ++ (⟨#[58, 32]⟩ : ByteArray)) ++ t107) ++ (⟨#[32]⟩ : ByteArray)) ++ t108).size + 1 ≤ 9223372036854775807 then (if x3_1.length + (((((t106 ++ (⟨#[58, 32]⟩ : ByteArray)) ++ t107) ++ (⟨#[32]⟩ : ByteArray)) ++ t108) ++ (⟨#[10]⟩ : ByteArray)).size < 140737488355328 then (spec_ClayFormPlan.l1 k1 l0 (x3_1 ++ bytesOf (((((t106 ++ (⟨#[58, 32]⟩ : ByteArray)) ++ t107) ++ (⟨#[32]⟩ : ByteArray)) ++ t108) ++ (⟨#[10]⟩ : ByteArray))) x4_1 0 ((rd_T34 l0 x4_1).f0) ((rd_T34 l0 x4_1).f1) ((rd_T34 l0 x4_1).f2) ((rd_T34 l0 x4_1).f3) ((rd_T34 l0 x4_1).f4)) else (none)) else (none)) else (none))) else (none)) else (none))) else (none)) = some r := H
          have A6 := Aside0.mk A60
          clear A60
          by_cases c7 : t106.size + 2 ≤ 9223372036854775807
          · rw [if_pos c7] at H
            have c7b0 := eq_true c7
            have c7b1 : decide (t106.size + 2 ≤ 9223372036854775807) = true := decide_eq_true c7
            try have c7b2 : (9223372036854775807 < t106.size + 2) = False := eq_false (Nat.not_lt.2 c7)
            replace H := Option.bind_eq_some_iff.mp H
            obtain ⟨t107, A80, H⟩ := H
            replace H : (if (t106 ++ (⟨#[58, 32]⟩ : ByteArray)).size + t107.size ≤ 9223372036854775807 then (if ((t106 ++ (⟨#[58, 32]⟩ : ByteArray)) ++ t107).size + 1 ≤ 9223372036854775807 then ((spec_l1Quote.f k1 ((rd_T34 l0 x4_1).f2)).bind fun t108 => (if (((t106 ++ (⟨#[58, 32]⟩ : ByteArray)) ++ t107) ++ (⟨#[32]⟩ : ByteArray)).size + t108.size ≤ 9223372036854775807 then (if ((((t106 ++ (⟨#[58, 32]⟩ : ByteArray)) ++ t107) ++ (⟨#[32]⟩ : ByteArray)) ++ t108).size + 1 ≤ 9223372036854775807 then (if x3_1.length + (((((t106 ++ (⟨#[58, 32]⟩ : ByteArray)) ++ t107) ++ (⟨#[32]⟩ : ByteArray)) ++ t108) ++ (⟨#[10]⟩ : ByteArray)).size < 140737488355328 then (spec_ClayFormPlan.l1 k1 l0 (x3_1 ++ bytesOf (((((t106 ++ (⟨#[58, 32]⟩ : ByteArray)) ++ t107) ++ (⟨#[32]⟩ : ByteArray)) ++ t108) ++ (⟨#[10]⟩ : ByteArray))) x4_1 0 ((rd_T34 l0 x4_1).f0) ((rd_T34 l0 x4_1).f1) ((rd_T34 l0 x4_1).f2) ((rd_T34 l0 x4_1).f3) ((rd_T34 l0 x4_1).f4)) else (none)) else (none)) else (none))) else (none)) else (none)) = some r := H
            have A8 := Aside0.mk A80
            clear A80
            by_cases c9 : (t106 ++ (⟨#[58, 32]⟩ : ByteArray)).size + t107.size ≤ 9223372036854775807
            · rw [if_pos c9] at H
              have c9b0 := eq_true c9
              have c9b1 : decide ((t106 ++ (⟨#[58, 32]⟩ : ByteArray)).size + t107.size ≤ 9223372036854775807) = true := decide_eq_true c9
              try have c9b2 : (9223372036854775807 < (t106 ++ (⟨#[58, 32]⟩ : ByteArray)).size + t107.size) = False := eq_false (Nat.not_lt.2 c9)
              (try (have c9n := c9; simp only [ByteArray.size_append, Go.Proofs.Ytfjpkijfoiajaaa.Mine.size_mk, List.size_toArray, List.length_cons, List.length_nil] at c9n; have c9m := eq_true c9n; have c9o := eq_false (Nat.not_lt.2 c9n)))
              by_cases c10 : ((t106 ++ (⟨#[58, 32]⟩ : ByteArray)) ++ t107).size + 1 ≤ 9223372036854775807
              · rw [if_pos c10] at H
                have c10b0 := eq_true c10
                have c10b1 : decide (((t106 ++ (⟨#[58, 32]⟩ : ByteArray)) ++ t107).size + 1 ≤ 9223372036854775807) = true := decide_eq_true c10
                try have c10b2 : (9223372036854775807 < ((t106 ++ (⟨#[58, 32]⟩ : ByteArray)) ++ t107).size + 1) = False := eq_false (Nat.not_lt.2 c10)
                (try (have c10n := c10; simp only [ByteArray.size_append, Go.Proofs.Ytfjpkijfoiajaaa.Mine.size_mk, List.size_toArray, List.length_cons, List.length_nil] at c10n; have c10m := eq_true c10n; have c10o := eq_false (Nat.not_lt.2 c10n)))
                replace H := Option.bind_eq_some_iff.mp H
                obtain ⟨t108, A110, H⟩ := H
                replace H : (if (((t106 ++ (⟨#[58, 32]⟩ : ByteArray)) ++ t107) ++ (⟨#[32]⟩ : ByteArray)).size + t108.size ≤ 9223372036854775807 then (if ((((t106 ++ (⟨#[58, 32]⟩ : ByteArray)) ++ t107) ++ (⟨#[32]⟩ : ByteArray)) ++ t108).size + 1 ≤ 9223372036854775807 then (if x3_1.length + (((((t106 ++ (⟨#[58, 32]⟩ : ByteArray)) ++ t107) ++ (⟨#[32]⟩ : ByteArray)) ++ t108) ++ (⟨#[10]⟩ : ByteArray)).size < 140737488355328 then (spec_ClayFormPlan.l1 k1 l0 (x3_1 ++ bytesOf (((((t106 ++ (⟨#[58, 32]⟩ : ByteArray)) ++ t107) ++ (⟨#[32]⟩ : ByteArray)) ++ t108) ++ (⟨#[10]⟩ : ByteArray))) x4_1 0 ((rd_T34 l0 x4_1).f0) ((rd_T34 l0 x4_1).f1) ((rd_T34 l0 x4_1).f2) ((rd_T34 l0 x4_1).f3) ((rd_T34 l0 x4_1).f4)) else (none)) else (none)) else (none)) = some r := H
                have A11 := Aside0.mk A110
                clear A110
                by_cases c12 : (((t106 ++ (⟨#[58, 32]⟩ : ByteArray)) ++ t107) ++ (⟨#[32]⟩ : ByteArray)).size + t108.size ≤ 9223372036854775807
                · rw [if_pos c12] at H
                  have c12b0 := eq_true c12
                  have c12b1 : decide ((((t106 ++ (⟨#[58, 32]⟩ : ByteArray)) ++ t107) ++ (⟨#[32]⟩ : ByteArray)).size + t108.size ≤ 9223372036854775807) = true := decide_eq_true c12
                  try have c12b2 : (9223372036854775807 < (((t106 ++ (⟨#[58, 32]⟩ : ByteArray)) ++ t107) ++ (⟨#[32]⟩ : ByteArray)).size + t108.size) = False := eq_false (Nat.not_lt.2 c12)
                  (try (have c12n := c12; simp only [ByteArray.size_append, Go.Proofs.Ytfjpkijfoiajaaa.Mine.size_mk, List.size_toArray, List.length_cons, List.length_nil] at c12n; have c12m := eq_true c12n; have c12o := eq_false (Nat.not_lt.2 c12n)))
                  by_cases c13 : ((((t106 ++ (⟨#[58, 32]⟩ : ByteArray)) ++ t107) ++ (⟨#[32]⟩ : ByteArray)) ++ t108).size + 1 ≤ 9223372036854775807
                  · rw [if_pos c13] at H
                    have c13b0 := eq_true c13
                    have c13b1 : decide (((((t106 ++ (⟨#[58, 32]⟩ : ByteArray)) ++ t107) ++ (⟨#[32]⟩ : ByteArray)) ++ t108).size + 1 ≤ 9223372036854775807) = true := decide_eq_true c13
                    try have c13b2 : (9223372036854775807 < ((((t106 ++ (⟨#[58, 32]⟩ : ByteArray)) ++ t107) ++ (⟨#[32]⟩ : ByteArray)) ++ t108).size + 1) = False := eq_false (Nat.not_lt.2 c13)
                    (try (have c13n := c13; simp only [ByteArray.size_append, Go.Proofs.Ytfjpkijfoiajaaa.Mine.size_mk, List.size_toArray, List.length_cons, List.length_nil] at c13n; have c13m := eq_true c13n; have c13o := eq_false (Nat.not_lt.2 c13n)))
                    by_cases c14 : x3_1.length + (((((t106 ++ (⟨#[58, 32]⟩ : ByteArray)) ++ t107) ++ (⟨#[32]⟩ : ByteArray)) ++ t108) ++ (⟨#[10]⟩ : ByteArray)).size < 140737488355328
                    · rw [if_pos c14] at H
                      have LMc14 := Aside0.mk c14
                      clear c14
                      obtain ⟨y109, hy109⟩ : ∃ y_ : List Int, y_ = (x3_1 ++ bytesOf (((((t106 ++ (⟨#[58, 32]⟩ : ByteArray)) ++ t107) ++ (⟨#[32]⟩ : ByteArray)) ++ t108) ++ (⟨#[10]⟩ : ByteArray))) := ⟨_, rfl⟩
                      replace H : (spec_ClayFormPlan.l1 k1 l0 y109 x4_1 0 ((rd_T34 l0 x4_1).f0) ((rd_T34 l0 x4_1).f1) ((rd_T34 l0 x4_1).f2) ((rd_T34 l0 x4_1).f3) ((rd_T34 l0 x4_1).f4)) = some r := by first | (rw [hy109]; with_reducible exact H) | (have H2_ := (Option.bind_some _ _).symm.trans H; rw [hy109]; with_reducible exact H2_) | (have H2_ := (Option.bind_some _ _).symm.trans H; with_reducible exact H2_) | with_reducible exact H | (rw [hy109]; exact H) | exact H
                      have Ny109 := Aside0.mk hy109
                      clear hy109
                      have H' := Aside0.mk H
                      clear H
                      have p104 : 0 ≤ (x4_1 : Int) := of_decide_eq_true (by first | (with_reducible assumption) | assumption)
                      have q104 : x4_1 < (l0.length : Int) := of_decide_eq_true (by first | (with_reducible assumption) | assumption)
                      obtain ⟨ad104, A104_3, c104_3, A104_4, c104_4, e104, hx104_0, hx104_1, hx104_2, hx104_3, hx104_4, hl104_3, hi104_3, hl104_4, hi104_4⟩ := at_T34 HR0.out x4_1 p104 q104
                      cases e104
                      replace hx104_0 := (HB.out.cell (World.block_lt_of_cell? w _ hx104_0)).trans hx104_0
                      replace hx104_1 := (HB.out.cell (World.block_lt_of_cell? w _ hx104_1)).trans hx104_1
                      replace hx104_2 := (HB.out.cell (World.block_lt_of_cell? w _ hx104_2)).trans hx104_2
                      replace hx104_3 := (HB.out.cell (World.block_lt_of_cell? w _ hx104_3)).trans hx104_3
                      replace hx104_4 := (HB.out.cell (World.block_lt_of_cell? w _ hx104_4)).trans hx104_4
                      have HR104_3 := Aside0.mk hi104_3
                      have HC104_3 := Aside0.mk hl104_3
                      clear hi104_3 hl104_3
                      have HR104_4 := Aside0.mk hi104_4
                      have HC104_4 := Aside0.mk hl104_4
                      clear hi104_4 hl104_4
                      replace p104 := eq_true p104
                      replace q104 := eq_true q104
                      try go_wp2_with (first | ((with_reducible refine gate_dst (N := 5) rfl ?_); refine gX 5 #[.string (⟨#[]⟩ : ByteArray), .string (⟨#[]⟩ : ByteArray), .string (⟨#[]⟩ : ByteArray), .slice none 0 0, .slice none 0 0] 34 ?_; intro gb105 hg w15 hbox hb; have BK105 := Aside0.mk (hbox); have GW105 := gw hg (kb HB); have GE105 := gw hg (kb HB); replace HO_3 := Aside0.mk (Kd.R_below (by (with_reducible repeat (first | apply Kd.R_alloc | apply Kd.R_drewN | apply Kd.R_drew)); exact HO_3.out) hb); replace HB := kS HB hb; clear hb hbox hg; obtain ⟨⟨hcz16_0, hcz16_1, hcz16_2, hcz16_3, hcz16_4⟩, hfz16_0, hfz16_1, hfz16_2, hfz16_3, hfz16_4⟩ := bf5 BK105))
                      have n0_ : Aside0 (Kd.R (Kd.int .u8) 5 (((((w15.setCell ⟨gb105, 0, none⟩ (.string ((rd_T34 l0 x4_1).f0))).setCell ⟨gb105, 1, none⟩ (.string ((rd_T34 l0 x4_1).f1))).setCell ⟨gb105, 2, none⟩ (.string ((rd_T34 l0 x4_1).f2))).setCell ⟨gb105, 3, none⟩ (.slice A104_3 ((rd_T34 l0 x4_1).f3).length c104_3)).setCell ⟨gb105, 4, none⟩ (.slice A104_4 ((rd_T34 l0 x4_1).f4).length c104_4)) w.heap.size (fun _ => True) u3 x3_1) := ⟨by (with_reducible repeat (first | apply Kd.R_alloc | apply Kd.R_drewN | apply Kd.R_drew)); exact Kd.R_mono (Kd.R_far (p := ⟨gb105, 4, none⟩) (Kd.R_far (p := ⟨gb105, 3, none⟩) (Kd.R_far (p := ⟨gb105, 2, none⟩) (Kd.R_far (p := ⟨gb105, 1, none⟩) (Kd.R_far (p := ⟨gb105, 0, none⟩) (Kd.R_types (by (with_reducible repeat (first | apply Kd.R_alloc | apply Kd.R_drewN | apply Kd.R_drew)); exact HO_3.out) (kp BK105) (by decide)) (fun _ hk => hk.2) (.string ((rd_T34 l0 x4_1).f0))) (fun _ hk => hk.2) (.string ((rd_T34 l0 x4_1).f1))) (fun _ hk => hk.2) (.string ((rd_T34 l0 x4_1).f2))) (fun _ hk => hk.2) (.slice A104_3 ((rd_T34 l0 x4_1).f3).length c104_3)) (fun _ hk => hk.2) (.slice A104_4 ((rd_T34 l0 x4_1).f4).length c104_4)) (fun _ hk => trivial)⟩
                      have n1_ : Aside0 ((((((w15.setCell ⟨gb105, 0, none⟩ (.string ((rd_T34 l0 x4_1).f0))).setCell ⟨gb105, 1, none⟩ (.string ((rd_T34 l0 x4_1).f1))).setCell ⟨gb105, 2, none⟩ (.string ((rd_T34 l0 x4_1).f2))).setCell ⟨gb105, 3, none⟩ (.slice A104_3 ((rd_T34 l0 x4_1).f3).length c104_3)).setCell ⟨gb105, 4, none⟩ (.slice A104_4 ((rd_T34 l0 x4_1).f4).length c104_4)).heap[gb105]? = some (.cells #[.string ((rd_T34 l0 x4_1).f0), .string ((rd_T34 l0 x4_1).f1), .string ((rd_T34 l0 x4_1).f2), .slice A104_3 ((rd_T34 l0 x4_1).f3).length c104_3, .slice A104_4 ((rd_T34 l0 x4_1).f4).length c104_4] 34 (0, 0))) := ⟨by (with_reducible repeat (first | refine blk_drewN ?_ _ | refine blk_drew ?_ | refine blk_alloc ?_ _)); refine blk_put (cs := #[.string ((rd_T34 l0 x4_1).f0), .string ((rd_T34 l0 x4_1).f1), .string ((rd_T34 l0 x4_1).f2), .slice A104_3 ((rd_T34 l0 x4_1).f3).length c104_3, .slice none 0 0]) ?_ 4 _ rfl; (with_reducible repeat (first | refine blk_drewN ?_ _ | refine blk_drew ?_ | refine blk_alloc ?_ _)); refine blk_put (cs := #[.string ((rd_T34 l0 x4_1).f0), .string ((rd_T34 l0 x4_1).f1), .string ((rd_T34 l0 x4_1).f2), .slice none 0 0, .slice none 0 0]) ?_ 3 _ rfl; (with_reducible repeat (first | refine blk_drewN ?_ _ | refine blk_drew ?_ | refine blk_alloc ?_ _)); refine blk_put (cs := #[.string ((rd_T34 l0 x4_1).f0), .string ((rd_T34 l0 x4_1).f1), .string (⟨#[]⟩ : ByteArray), .slice none 0 0, .slice none 0 0]) ?_ 2 _ rfl; (with_reducible repeat (first | refine blk_drewN ?_ _ | refine blk_drew ?_ | refine blk_alloc ?_ _)); refine blk_put (cs := #[.string ((rd_T34 l0 x4_1).f0), .string (⟨#[]⟩ : ByteArray), .string (⟨#[]⟩ : ByteArray), .slice none 0 0, .slice none 0 0]) ?_ 1 _ rfl; (with_reducible repeat (first | refine blk_drewN ?_ _ | refine blk_drew ?_ | refine blk_alloc ?_ _)); refine blk_put (cs := #[.string (⟨#[]⟩ : ByteArray), .string (⟨#[]⟩ : ByteArray), .string (⟨#[]⟩ : ByteArray), .slice none 0 0, .slice none 0 0]) ?_ 0 _ rfl; (with_reducible repeat (first | refine blk_drewN ?_ _ | refine blk_drew ?_ | refine blk_alloc ?_ _)); exact BK105.out⟩
                      have n2_ : Aside0 (Below w.heap.size w (((((w15.setCell ⟨gb105, 0, none⟩ (.string ((rd_T34 l0 x4_1).f0))).setCell ⟨gb105, 1, none⟩ (.string ((rd_T34 l0 x4_1).f1))).setCell ⟨gb105, 2, none⟩ (.string ((rd_T34 l0 x4_1).f2))).setCell ⟨gb105, 3, none⟩ (.slice A104_3 ((rd_T34 l0 x4_1).f3).length c104_3)).setCell ⟨gb105, 4, none⟩ (.slice A104_4 ((rd_T34 l0 x4_1).f4).length c104_4))) := ⟨kb HB⟩
                      (try clear HO_3)
                      (try clear BK105)
                      (try clear HB)
                      generalize (((((w15.setCell ⟨gb105, 0, none⟩ (.string ((rd_T34 l0 x4_1).f0))).setCell ⟨gb105, 1, none⟩ (.string ((rd_T34 l0 x4_1).f1))).setCell ⟨gb105, 2, none⟩ (.string ((rd_T34 l0 x4_1).f2))).setCell ⟨gb105, 3, none⟩ (.slice A104_3 ((rd_T34 l0 x4_1).f3).length c104_3)).setCell ⟨gb105, 4, none⟩ (.slice A104_4 ((rd_T34 l0 x4_1).f4).length c104_4)) = w17 at n0_ n1_ n2_ ⊢
                      have HO_3 := n0_
                      have BK105 := n1_
                      have HB := n2_
                      clear n0_ n1_ n2_
                      have n0_ := Aside0.mk (Kd.R_drew HO_3.out)
                      have n1_ := Aside0.mk (blk_drew BK105.out)
                      have n2_ := Aside0.mk (below_drew1 HB.out)
                      clear HO_3
                      clear BK105
                      clear HB
                      have HO_3 := n0_
                      have BK105 := n1_
                      have HB := n2_
                      clear n0_ n1_ n2_
                      refine start_ (n := 17) (S := fun w' => w'.cell? ⟨gb105, 0, none⟩ = some (.string ((rd_T34 l0 x4_1).f0)) ∧ w'.cell? ⟨gb105, 1, none⟩ = some (.string ((rd_T34 l0 x4_1).f1)) ∧ w'.cell? ⟨gb105, 2, none⟩ = some (.string ((rd_T34 l0 x4_1).f2)) ∧ w'.cell? ⟨gb105, 3, none⟩ = some (.slice A104_3 ((rd_T34 l0 x4_1).f3).length c104_3) ∧ w'.cell? ⟨gb105, 4, none⟩ = some (.slice A104_4 ((rd_T34 l0 x4_1).f4).length c104_4)) (ds := []) #[false, false, false, false, false, false, false, false, false, false, false, false, false, false, false, false, false] (by kernel_rfl) rfl rfl ⟨(blk_cell BK105.out 0).trans rfl, (blk_cell BK105.out 1).trans rfl, (blk_cell BK105.out 2).trans rfl, (blk_cell BK105.out 3).trans rfl, (blk_cell BK105.out 4).trans rfl⟩ (fun hHeld => ?_); refine with_tabW spec_ClayFormPlan.tab6 spec_ClayFormPlan.bits6 (fun HT_ HW_ => ?_)
                      generalize w17.drew = w18 at HO_3 BK105 HB hHeld ⊢
                      refine pure_ (i := 0) (N := some 19) (v := ?_) (a' := ?_) #[true, false, false, false, false, false, false, false, false, false, false, false, false, false, false, false, false] rfl rfl (any_of HT_.out (by kernel_rfl)) (fun _ _ _ h => h) (Or.inl ⟨by rfl, ?_⟩) ?_ ?_
                      rotate_left
                      · intro w'
                        go_simp
                        with_reducible rfl
                      rotate_left
                      · simp only [Act.put, List.setIfInBounds_toArray, List.set_cons_zero, List.set_cons_succ, i64_w, i32_w]
                        rfl
                      refine pure_ (i := 1) (N := some 20) (v := ?_) (a' := ?_) #[true, true, false, false, false, false, false, false, false, false, false, false, false, false, false, false, false] rfl rfl (any_of HT_.out (by kernel_rfl)) (fun _ _ _ h => h) (Or.inl ⟨by rfl, ?_⟩) ?_ ?_
                      rotate_left
                      · intro w'
                        go_simp
                        with_reducible rfl
                      rotate_left
                      · simp only [Act.put, List.setIfInBounds_toArray, List.set_cons_zero, List.set_cons_succ, i64_w, i32_w]
                        rfl
                      refine pure_ (i := 5) (N := some 24) (v := ?_) (a' := ?_) #[true, true, false, false, false, true, false, false, false, false, false, false, false, false, false, false, false] rfl rfl (any_of HT_.out (by kernel_rfl)) (fun _ _ _ h => h) (Or.inl ⟨by rfl, ?_⟩) ?_ ?_
                      rotate_left
                      · intro w'
                        go_simp
                        with_reducible rfl
                      rotate_left
                      · simp only [Act.put, List.setIfInBounds_toArray, List.set_cons_zero, List.set_cons_succ, i64_w, i32_w]
                        rfl
                      refine pure_ (i := 10) (N := some 29) (v := ?_) (a' := ?_) #[true, true, false, false, false, true, false, false, false, false, true, false, false, false, false, false, false] rfl rfl (any_of HT_.out (by kernel_rfl)) (fun _ _ _ h => h) (Or.inl ⟨by rfl, ?_⟩) ?_ ?_
                      rotate_left
                      · intro w'
                        go_simp
                        with_reducible rfl
                      rotate_left
                      · simp only [Act.put, List.setIfInBounds_toArray, List.set_cons_zero, List.set_cons_succ, i64_w, i32_w]
                        rfl
                      refine take_ (i := 2) (N := some 21) (v := ?_) (a' := ?_) #[true, true, true, false, false, true, false, false, false, false, true, false, false, false, false, false, false] rfl rfl (take_ofW HT_.out HW_.out (by kernel_rfl)) (fun _ _ _ h => h) (Or.inl ⟨by rfl, ?_⟩) hHeld ?_ ?_
                      rotate_left
                      · rintro w' ⟨s0, s1, s2, s3, s4⟩
                        go_simp
                        with_reducible rfl
                      rotate_left
                      · simp only [Act.put, List.setIfInBounds_toArray, List.set_cons_zero, List.set_cons_succ, i64_w, i32_w]
                        rfl
                      refine take_ (i := 6) (N := some 25) (v := ?_) (a' := ?_) #[true, true, true, false, false, true, true, false, false, false, true, false, false, false, false, false, false] rfl rfl (take_ofW HT_.out HW_.out (by kernel_rfl)) (fun _ _ _ h => h) (Or.inl ⟨by rfl, ?_⟩) hHeld ?_ ?_
                      rotate_left
                      · rintro w' ⟨s0, s1, s2, s3, s4⟩
                        go_simp
                        with_reducible rfl
                      rotate_left
                      · simp only [Act.put, List.setIfInBounds_toArray, List.set_cons_zero, List.set_cons_succ, i64_w, i32_w]
                        rfl
                      refine take_ (i := 11) (N := some 30) (v := ?_) (a' := ?_) #[true, true, true, false, false, true, true, false, false, false, true, true, false, false, false, false, false] rfl rfl (take_ofW HT_.out HW_.out (by kernel_rfl)) (fun _ _ _ h => h) (Or.inl ⟨by rfl, ?_⟩) hHeld ?_ ?_
                      rotate_left
                      · rintro w' ⟨s0, s1, s2, s3, s4⟩
                        go_simp
                        with_reducible rfl
                      rotate_left
                      · simp only [Act.put, List.setIfInBounds_toArray, List.set_cons_zero, List.set_cons_succ, i64_w, i32_w]
                        rfl
                      refine one_ (i := 3) (N := some 22) #[true, true, true, true, false, true, true, false, false, false, true, true, false, false, false, false, false] rfl rfl (one_of HT_.out (by kernel_rfl)) (by decide) (fun K hK => ?_)
                      refine goes_ Try.func10 (by kernel_rfl) rfl #[.string ((rd_T34 l0 x4_1).f0)] (by rfl) rfl rfl (by (try simp only [List.map_toArray, List.map_cons, List.map_nil]); first | done | rfl | (simp only [List.length_drop, List.length_take]; rfl)) ?_
                      with_reducible refine (spec_l1Quote.calls k1 ((rd_T34 l0 x4_1).f0) t106 _ A6.out).mono ?_
                      rintro e w19 ⟨rfl, hb⟩
                      refine ⟨_, rfl, ?_⟩
                      have n0_ := Aside0.mk (Kd.R_below (by (with_reducible repeat (first | apply Kd.R_alloc | apply Kd.R_drewN | apply Kd.R_drew)); exact HO_3.out) hb)
                      have n1_ := kB BK105 hb
                      have n2_ := kS HB hb
                      clear HO_3
                      clear BK105
                      clear HB
                      have HO_3 := n0_
                      have BK105 := n1_
                      have HB := n2_
                      clear n0_ n1_ n2_
                      (try clear hb)
                      (try clear hb2)
                      (try clear hk)
                      (try clear hi)
                      refine hK.out _ _ ⟨(blk_cell BK105.out 0).trans rfl, (blk_cell BK105.out 1).trans rfl, (blk_cell BK105.out 2).trans rfl, (blk_cell BK105.out 3).trans rfl, (blk_cell BK105.out 4).trans rfl⟩ (fun hHeld => ?_)
                      clear hK K
                      refine norm_ (a' := ?_) ?_ ?_
                      rotate_left
                      · show Act.put _ (some 22) _ = _
                        simp only [Act.put, List.setIfInBounds_toArray, List.set_cons_zero, List.set_cons_succ, i64_w, i32_w]
                        rfl
                      refine pure_ (i := 4) (N := some 23) (v := ?_) (a' := ?_) #[true, true, true, true, true, true, true, false, false, false, true, true, false, false, false, false, false] rfl rfl (any_of HT_.out (by kernel_rfl)) (fun _ _ _ h => h) (Or.inl ⟨by rfl, ?_⟩) ?_ ?_
                      rotate_left
                      · intro w'
                        go_simp
                        with_reducible rfl
                      rotate_left
                      · simp only [Act.put, List.setIfInBounds_toArray, List.set_cons_zero, List.set_cons_succ, i64_w, i32_w]
                        rfl
                      refine one_ (i := 7) (N := some 26) #[true, true, true, true, true, true, true, true, false, false, true, true, false, false, false, false, false] rfl rfl (one_of HT_.out (by kernel_rfl)) (by decide) (fun K hK => ?_)
                      refine goes_ Try.func10 (by kernel_rfl) rfl #[.string ((rd_T34 l0 x4_1).f1)] (by rfl) rfl rfl (by (try simp only [List.map_toArray, List.map_cons, List.map_nil]); first | done | rfl | (simp only [List.length_drop, List.length_take]; rfl)) ?_
                      with_reducible refine (spec_l1Quote.calls k1 ((rd_T34 l0 x4_1).f1) t107 _ A8.out).mono ?_
                      rintro e w20 ⟨rfl, hb⟩
                      refine ⟨_, rfl, ?_⟩
                      have n0_ := Aside0.mk (Kd.R_below (by (with_reducible repeat (first | apply Kd.R_alloc | apply Kd.R_drewN | apply Kd.R_drew)); exact HO_3.out) hb)
                      have n1_ := kB BK105 hb
                      have n2_ := kS HB hb
                      clear HO_3
                      clear BK105
                      clear HB
                      have HO_3 := n0_
                      have BK105 := n1_
                      have HB := n2_
                      clear n0_ n1_ n2_
                      (try clear hb)
                      (try clear hb2)
                      (try clear hk)
                      (try clear hi)
                      refine hK.out _ _ ⟨(blk_cell BK105.out 0).trans rfl, (blk_cell BK105.out 1).trans rfl, (blk_cell BK105.out 2).trans rfl, (blk_cell BK105.out 3).trans rfl, (blk_cell BK105.out 4).trans rfl⟩ (fun hHeld => ?_)
                      clear hK K
                      refine norm_ (a' := ?_) ?_ ?_
                      rotate_left
                      · show Act.put _ (some 26) _ = _
                        simp only [Act.put, List.setIfInBounds_toArray, List.set_cons_zero, List.set_cons_succ, i64_w, i32_w]
                        rfl
                      refine pure_ (i := 8) (N := some 27) (v := ?_) (a' := ?_) #[true, true, true, true, true, true, true, true, true, false, true, true, false, false, false, false, false] rfl rfl (any_of HT_.out (by kernel_rfl)) (fun _ _ _ h => h) (Or.inl ⟨by rfl, ?_⟩) ?_ ?_
                      rotate_left
                      · intro w'
                        go_simp
                        with_reducible rfl
                      rotate_left
                      · simp only [Act.put, List.setIfInBounds_toArray, List.set_cons_zero, List.set_cons_succ, i64_w, i32_w]
                        rfl
                      refine pure_ (i := 9) (N := some 28) (v := ?_) (a' := ?_) #[true, true, true, true, true, true, true, true, true, true, true, true, false, false, false, false, false] rfl rfl (any_of HT_.out (by kernel_rfl)) (fun _ _ _ h => h) (Or.inl ⟨by rfl, ?_⟩) ?_ ?_
                      rotate_left
                      · intro w'
                        go_simp
                        with_reducible rfl
                      rotate_left
                      · simp only [Act.put, List.setIfInBounds_toArray, List.set_cons_zero, List.set_cons_succ, i64_w, i32_w]
                        rfl
                      refine one_ (i := 12) (N := some 31) #[true, true, true, true, true, true, true, true, true, true, true, true, true, false, false, false, false] rfl rfl (one_of HT_.out (by kernel_rfl)) (by decide) (fun K hK => ?_)
                      refine goes_ Try.func10 (by kernel_rfl) rfl #[.string ((rd_T34 l0 x4_1).f2)] (by rfl) rfl rfl (by (try simp only [List.map_toArray, List.map_cons, List.map_nil]); first | done | rfl | (simp only [List.length_drop, List.length_take]; rfl)) ?_
                      with_reducible refine (spec_l1Quote.calls k1 ((rd_T34 l0 x4_1).f2) t108 _ A11.out).mono ?_
                      rintro e w21 ⟨rfl, hb⟩
                      refine ⟨_, rfl, ?_⟩
                      have n0_ := Aside0.mk (Kd.R_below (by (with_reducible repeat (first | apply Kd.R_alloc | apply Kd.R_drewN | apply Kd.R_drew)); exact HO_3.out) hb)
                      have n1_ := kB BK105 hb
                      have n2_ := kS HB hb
                      clear HO_3
                      clear BK105
                      clear HB
                      have HO_3 := n0_
                      have BK105 := n1_
                      have HB := n2_
                      clear n0_ n1_ n2_
                      (try clear hb)
                      (try clear hb2)
                      (try clear hk)
                      (try clear hi)
                      refine hK.out _ _ ⟨(blk_cell BK105.out 0).trans rfl, (blk_cell BK105.out 1).trans rfl, (blk_cell BK105.out 2).trans rfl, (blk_cell BK105.out 3).trans rfl, (blk_cell BK105.out 4).trans rfl⟩ (fun hHeld => ?_)
                      clear hK K
                      refine norm_ (a' := ?_) ?_ ?_
                      rotate_left
                      · show Act.put _ (some 31) _ = _
                        simp only [Act.put, List.setIfInBounds_toArray, List.set_cons_zero, List.set_cons_succ, i64_w, i32_w]
                        rfl
                      refine pure_ (i := 13) (N := some 32) (v := ?_) (a' := ?_) #[true, true, true, true, true, true, true, true, true, true, true, true, true, true, false, false, false] rfl rfl (any_of HT_.out (by kernel_rfl)) (fun _ _ _ h => h) (Or.inl ⟨by rfl, ?_⟩) ?_ ?_
                      rotate_left
                      · intro w'
                        go_simp
                        with_reducible rfl
                      rotate_left
                      · simp only [Act.put, List.setIfInBounds_toArray, List.set_cons_zero, List.set_cons_succ, i64_w, i32_w]
                        rfl
                      refine pure_ (i := 14) (N := some 33) (v := ?_) (a' := ?_) #[true, true, true, true, true, true, true, true, true, true, true, true, true, true, true, false, false] rfl rfl (any_of HT_.out (by kernel_rfl)) (fun _ _ _ h => h) (Or.inl ⟨by rfl, ?_⟩) ?_ ?_
                      rotate_left
                      · intro w'
                        go_simp
                        with_reducible rfl
                      rotate_left
                      · simp only [Act.put, List.setIfInBounds_toArray, List.set_cons_zero, List.set_cons_succ, i64_w, i32_w]
                        rfl
                      refine one_ (i := 15) (N := some 34) #[true, true, true, true, true, true, true, true, true, true, true, true, true, true, true, true, false] rfl rfl (one_of HT_.out (by kernel_rfl)) (by decide) (fun K hK => ?_)
                      refine sA (w0 := w) w.heap.size (by rfl) (.tmp 19) _ 33 9 5 rfl Try.underlying33 Try.underlying9 info5 u3 x3_1 (((((t106 ++ (⟨#[58, 32]⟩ : ByteArray)) ++ t107) ++ (⟨#[32]⟩ : ByteArray)) ++ t108) ++ (⟨#[10]⟩ : ByteArray)) rfl rfl ?aO ?aB ?aS ?aL ?_
                      (case aB => exact (kb HB))
                      (case aO => exact (Kd.own_of_R (by (with_reducible repeat (first | apply Kd.R_alloc | apply Kd.R_drewN | apply Kd.R_drew)); exact HO_3.out)))
                      (case aS => exact (below_size (kb HB)))
                      (case aL => have := LMc14.out; omega)
                      intro v110 w22 ho0 hb hg
                      have ho := Kd.R_of_own (h1 := fun _ => rfl) (ok := fun _ => True) ho0 (fun _ _ => trivial)
                      clear ho0
                      have hat := True.intro
                      rw [← Ny109.out] at ho
                      change Kd.R (Kd.int .u8) 5 w22 w.heap.size (fun _ => True) v110 y109 at ho
                      have n0_ := Aside0.mk (blk_grown (g := gb105) (o := .cells #[.string ((rd_T34 l0 x4_1).f0), .string ((rd_T34 l0 x4_1).f1), .string ((rd_T34 l0 x4_1).f2), .slice A104_3 ((rd_T34 l0 x4_1).f3).length c104_3, .slice A104_4 ((rd_T34 l0 x4_1).f4).length c104_4] 34 (0, 0)) (kp BK105) hg (Kd.R_ne HO_3.out BK105.out (by decide)))
                      have n1_ := Aside0.mk (hb)
                      have n2_ := Aside0.mk (ho)
                      clear BK105
                      clear HB
                      clear HO_3
                      have BK105 := n0_
                      have HB := n1_
                      have HO111 := n2_
                      clear n0_ n1_ n2_
                      clear ho hb hg hat
                      refine hK.out _ _ ⟨(blk_cell BK105.out 0).trans rfl, (blk_cell BK105.out 1).trans rfl, (blk_cell BK105.out 2).trans rfl, (blk_cell BK105.out 3).trans rfl, (blk_cell BK105.out 4).trans rfl⟩ (fun hHeld => ?_)
                      clear hK K
                      refine norm_ (a' := ?_) ?_ ?_
                      rotate_left
                      · show Act.put _ (some 34) _ = _
                        simp only [Act.put, List.setIfInBounds_toArray, List.set_cons_zero, List.set_cons_succ, i64_w, i32_w]
                        rfl
                      refine pure_ (i := 16) (N := some 3) (v := ?_) (a' := ?_) #[true, true, true, true, true, true, true, true, true, true, true, true, true, true, true, true, true] rfl rfl (any_of HT_.out (by kernel_rfl)) (fun _ _ _ h => h) (Or.inl ⟨by rfl, ?_⟩) ?_ ?_
                      rotate_left
                      · intro w'
                        go_simp
                        with_reducible rfl
                      rotate_left
                      · simp only [Act.put, List.setIfInBounds_toArray, List.set_cons_zero, List.set_cons_succ, i64_w, i32_w]
                        rfl
                      refine done_ (done_of HT_.out (by kernel_rfl)) ?_
                      try go_wp2
                      go_loopg [3, 6] k1 (fun kq v3 v6 w' => ∃ (x3_2 : List Int) (x6_2 : Int), v6 = .int .i64 x6_2 ∧ Aside0 (spec_ClayFormPlan.l1 kq l0 x3_2 x4_1 x6_2 ((rd_T34 l0 x4_1).f0) ((rd_T34 l0 x4_1).f1) ((rd_T34 l0 x4_1).f2) ((rd_T34 l0 x4_1).f3) ((rd_T34 l0 x4_1).f4) = some r) ∧ Aside0 (kq ≤ k1) ∧ Aside0 (Kd.R (Kd.int .u8) 5 w' w.heap.size (fun _ => True) v3 x3_2) ∧ Aside0 (w'.heap[gb105]? = some (.cells #[.string ((rd_T34 l0 x4_1).f0), .string ((rd_T34 l0 x4_1).f1), .string ((rd_T34 l0 x4_1).f2), (.slice A104_3 ((rd_T34 l0 x4_1).f3).length c104_3), (.slice A104_4 ((rd_T34 l0 x4_1).f4).length c104_4)] 34 (0, 0))) ∧ Aside0 (Below w.heap.size w w'))
                      case atStart => exact ⟨(y109), (0), (by first | rfl | (simp; done) | (simp [*]; done)), H', ⟨Nat.le_refl _⟩, ⟨by (with_reducible repeat (first | apply Kd.R_alloc | apply Kd.R_drewN | apply Kd.R_drew)); exact HO111.out⟩, ⟨kp BK105⟩, ⟨kb HB⟩⟩
                      case round =>
                        clear H'
                        obtain ⟨x3_2, x6_2, rfl, HA, HK2, HO_3, BK105, HB⟩ := hrel
                        cases gk with
                        | zero => exact absurd HA.out (by simp [spec_ClayFormPlan.l1])
                        | succ k2 =>
                          have H := HA.out
                          clear HA
                          simp only [spec_ClayFormPlan.l1] at H
                          by_cases c23 : x6_2 < (((rd_T34 l0 x4_1).f3).length : Int)
                          · rw [if_pos c23] at H
                            have c23b0 : decide (x6_2 < (((rd_T34 l0 x4_1).f3).length : Int)) = true := decide_eq_true c23
                            clear c23
                            by_cases c24 : 0 ≤ x6_2
                            · rw [if_pos c24] at H
                              have c24b0 : decide (0 ≤ x6_2) = true := decide_eq_true c24
                              clear c24
                              replace H := Option.bind_eq_some_iff.mp H
                              obtain ⟨t113, A250, H⟩ := H
                              replace H : (if 4 + t113.size ≤ 9223372036854775807 then (if ((⟨#[32, 32, 60, 32]⟩ : ByteArray) ++ t113).size + 1 ≤ 9223372036854775807 then (if x3_2.length + (((⟨#[32, 32, 60, 32]⟩ : ByteArray) ++ t113) ++ (⟨#[10]⟩ : ByteArray)).size < 140737488355328 then (spec_ClayFormPlan.l1 k2 l0 (x3_2 ++ bytesOf (((⟨#[32, 32, 60, 32]⟩ : ByteArray) ++ t113) ++ (⟨#[10]⟩ : ByteArray))) x4_1 (wrap64 (x6_2 + 1)) ((rd_T34 l0 x4_1).f0) ((rd_T34 l0 x4_1).f1) ((rd_T34 l0 x4_1).f2) ((rd_T34 l0 x4_1).f3) ((rd_T34 l0 x4_1).f4)) else (none)) else (none)) else (none)) = some r := H
                              have A25 := Aside0.mk A250
                              clear A250
                              by_cases c26 : 4 + t113.size ≤ 9223372036854775807
                              · rw [if_pos c26] at H
                                have c26b0 := eq_true c26
                                have c26b1 : decide (4 + t113.size ≤ 9223372036854775807) = true := decide_eq_true c26
                                try have c26b2 : (9223372036854775807 < 4 + t113.size) = False := eq_false (Nat.not_lt.2 c26)
                                by_cases c27 : ((⟨#[32, 32, 60, 32]⟩ : ByteArray) ++ t113).size + 1 ≤ 9223372036854775807
                                · rw [if_pos c27] at H
                                  have c27b0 := eq_true c27
                                  have c27b1 : decide (((⟨#[32, 32, 60, 32]⟩ : ByteArray) ++ t113).size + 1 ≤ 9223372036854775807) = true := decide_eq_true c27
                                  try have c27b2 : (9223372036854775807 < ((⟨#[32, 32, 60, 32]⟩ : ByteArray) ++ t113).size + 1) = False := eq_false (Nat.not_lt.2 c27)
                                  (try (have c27n := c27; simp only [ByteArray.size_append, Go.Proofs.Ytfjpkijfoiajaaa.Mine.size_mk, List.size_toArray, List.length_cons, List.length_nil] at c27n; have c27m := eq_true c27n; have c27o := eq_false (Nat.not_lt.2 c27n)))
                                  by_cases c28 : x3_2.length + (((⟨#[32, 32, 60, 32]⟩ : ByteArray) ++ t113) ++ (⟨#[10]⟩ : ByteArray)).size < 140737488355328
                                  · rw [if_pos c28] at H
                                    have LMc28 := Aside0.mk c28
                                    clear c28
                                    obtain ⟨y114, hy114⟩ : ∃ y_ : List Int, y_ = (x3_2 ++ bytesOf (((⟨#[32, 32, 60, 32]⟩ : ByteArray) ++ t113) ++ (⟨#[10]⟩ : ByteArray))) := ⟨_, rfl⟩
                                    replace H : (spec_ClayFormPlan.l1 k2 l0 y114 x4_1 (wrap64 (x6_2 + 1)) ((rd_T34 l0 x4_1).f0) ((rd_T34 l0 x4_1).f1) ((rd_T34 l0 x4_1).f2) ((rd_T34 l0 x4_1).f3) ((rd_T34 l0 x4_1).f4)) = some r := by first | (rw [hy114]; with_reducible exact H) | (have H2_ := (Option.bind_some _ _).symm.trans H; rw [hy114]; with_reducible exact H2_) | (have H2_ := (Option.bind_some _ _).symm.trans H; with_reducible exact H2_) | with_reducible exact H | (rw [hy114]; exact H) | exact H
                                    have Ny114 := Aside0.mk hy114
                                    clear hy114
                                    have H' := Aside0.mk H
                                    clear H
                                    obtain ⟨⟨hcz29_0, hcz29_1, hcz29_2, hcz29_3, hcz29_4⟩, hfz29_0, hfz29_1, hfz29_2, hfz29_3, hfz29_4⟩ := bf5 BK105
                                    have p112 : 0 ≤ (x6_2 : Int) := of_decide_eq_true (by first | (with_reducible assumption) | assumption)
                                    have q112 : x6_2 < (((rd_T34 l0 x4_1).f3).length : Int) := of_decide_eq_true (by first | (with_reducible assumption) | assumption)
                                    obtain ⟨ad112, e112, hx112_0⟩ := Kd.at_string HR104_3.out x6_2 p112 q112
                                    cases e112
                                    replace hx112_0 := (HB.out.cell (World.block_lt_of_cell? w _ hx112_0)).trans hx112_0
                                    replace p112 := eq_true p112
                                    replace q112 := eq_true q112
                                    go_wp2_with (first | ((with_reducible refine gate_callee (f := 10) rfl ?_); refine gL (some 48) Try.func10 #[.string (rdOf ByteArray.empty ((rd_T34 l0 x4_1).f3) x6_2)] (spec_l1Quote.calls k2 (rdOf ByteArray.empty ((rd_T34 l0 x4_1).f3) x6_2) t113 _ A25.out) ?_; intro w30 hb; replace HO_3 := Aside0.mk (Kd.R_below (by (with_reducible repeat (first | apply Kd.R_alloc | apply Kd.R_drewN | apply Kd.R_drew)); exact HO_3.out) hb); replace BK105 := kB BK105 hb; replace HB := kS HB hb) | (at_builtin; refine print_append_str (w0 := w) w.heap.size rfl (.tmp 42) _ 33 9 5 rfl Try.underlying33 Try.underlying9 info5 u3 x3_2 (((⟨#[32, 32, 60, 32]⟩ : ByteArray) ++ t113) ++ (⟨#[10]⟩ : ByteArray)) rfl rfl ?aO ?aB ?aS ?aL ?_; (case aB => exact (kb HB)); (case aO => exact (Kd.own_of_R (by (with_reducible repeat (first | apply Kd.R_alloc | apply Kd.R_drewN | apply Kd.R_drew)); exact HO_3.out))); (case aS => exact (below_size (kb HB))); (case aL => have := LMc28.out; omega); intro v115 w31 ho0 hb hg; have ho := Kd.R_of_own (h1 := fun _ => rfl) (ok := fun _ => True) ho0 (fun _ _ => trivial); clear ho0; have hat := True.intro; rw [← Ny114.out] at ho; change Kd.R (Kd.int .u8) 5 w31 w.heap.size (fun _ => True) v115 y114 at ho; have HO116 := Aside0.mk (ho); replace BK105 := Aside0.mk (blk_grown (g := gb105) (o := .cells #[.string ((rd_T34 l0 x4_1).f0), .string ((rd_T34 l0 x4_1).f1), .string ((rd_T34 l0 x4_1).f2), .slice (some ad112) ((rd_T34 l0 x4_1).f3).length c104_3, .slice A104_4 ((rd_T34 l0 x4_1).f4).length c104_4] 34 (0, 0)) (kp BK105) hg (Kd.R_ne HO_3.out BK105.out (by decide))); replace HB := Aside0.mk (hb); clear HO_3; clear ho hb hg hat))
                                    go_roundg k2
                                    case measure => have := HK1.out; have := HK2.out; omega
                                    case rel => exact ⟨(y114), (wrap64 (x6_2 + 1)), (by first | rfl | (simp; done) | (simp [*]; done)), H', ⟨by have := HK1.out; have := HK2.out; omega⟩, ⟨by (with_reducible repeat (first | apply Kd.R_alloc | apply Kd.R_drewN | apply Kd.R_drew)); exact HO116.out⟩, ⟨kp BK105⟩, ⟨kb HB⟩⟩
                                  · rw [if_neg c28] at H
                                    exact absurd H (by simp)
                                · rw [if_neg c27] at H
                                  exact absurd H (by simp)
                              · rw [if_neg c26] at H
                                exact absurd H (by simp)
                            · rw [if_neg c24] at H
                              exact absurd H (by simp)
                          · rw [if_neg c23] at H
                            have c23b0 : decide (x6_2 < (((rd_T34 l0 x4_1).f3).length : Int)) = false := decide_eq_false c23
                            clear c23
                            have H' := Aside0.mk H
                            clear H
                            obtain ⟨⟨hcz32_0, hcz32_1, hcz32_2, hcz32_3, hcz32_4⟩, hfz32_0, hfz32_1, hfz32_2, hfz32_3, hfz32_4⟩ := bf5 BK105
                            go_wp2
                            go_loopg [3, 7] k2 (fun kq v3 v7 w' => ∃ (x3_3 : List Int) (x7_3 : Int), v7 = .int .i64 x7_3 ∧ Aside0 (spec_ClayFormPlan.l2 kq l0 x3_3 x4_1 x7_3 ((rd_T34 l0 x4_1).f0) ((rd_T34 l0 x4_1).f1) ((rd_T34 l0 x4_1).f2) ((rd_T34 l0 x4_1).f3) ((rd_T34 l0 x4_1).f4) = some r) ∧ Aside0 (kq ≤ k2) ∧ Aside0 (Kd.R (Kd.int .u8) 5 w' w.heap.size (fun _ => True) v3 x3_3) ∧ Aside0 (w'.heap[gb105]? = some (.cells #[.string ((rd_T34 l0 x4_1).f0), .string ((rd_T34 l0 x4_1).f1), .string ((rd_T34 l0 x4_1).f2), (.slice A104_3 ((rd_T34 l0 x4_1).f3).length c104_3), (.slice A104_4 ((rd_T34 l0 x4_1).f4).length c104_4)] 34 (0, 0))) ∧ Aside0 (Below w.heap.size w w'))
                            case atStart => exact ⟨(x3_2), (0), (by first | rfl | (simp; done) | (simp [*]; done)), H', ⟨Nat.le_refl _⟩, ⟨by (with_reducible repeat (first | apply Kd.R_alloc | apply Kd.R_drewN | apply Kd.R_drew)); exact HO_3.out⟩, ⟨kp BK105⟩, ⟨kb HB⟩⟩
                            case round =>
                              clear H'
                              obtain ⟨x3_3, x7_3, rfl, HA, HK3, HO_3, BK105, HB⟩ := hrel
                              cases gk with
                              | zero => exact absurd HA.out (by simp [spec_ClayFormPlan.l2])
                              | succ k3 =>
                                have H := HA.out
                                clear HA
                                simp only [spec_ClayFormPlan.l2] at H
                                by_cases c33 : x7_3 < (((rd_T34 l0 x4_1).f4).length : Int)
                                · rw [if_pos c33] at H
                                  have c33b0 : decide (x7_3 < (((rd_T34 l0 x4_1).f4).length : Int)) = true := decide_eq_true c33
                                  clear c33
                                  by_cases c34 : 0 ≤ x7_3
                                  · rw [if_pos c34] at H
                                    have c34b0 : decide (0 ≤ x7_3) = true := decide_eq_true c34
                                    clear c34
                                    replace H := Option.bind_eq_some_iff.mp H
                                    obtain ⟨t118, A350, H⟩ := H
                                    replace H : (if 4 + t118.size ≤ 9223372036854775807 then (if ((⟨#[32, 32, 62, 32]⟩ : ByteArray) ++ t118).size + 1 ≤ 9223372036854775807 then (if x3_3.length + (((⟨#[32, 32, 62, 32]⟩ : ByteArray) ++ t118) ++ (⟨#[10]⟩ : ByteArray)).size < 140737488355328 then (spec_ClayFormPlan.l2 k3 l0 (x3_3 ++ bytesOf (((⟨#[32, 32, 62, 32]⟩ : ByteArray) ++ t118) ++ (⟨#[10]⟩ : ByteArray))) x4_1 (wrap64 (x7_3 + 1)) ((rd_T34 l0 x4_1).f0) ((rd_T34 l0 x4_1).f1) ((rd_T34 l0 x4_1).f2) ((rd_T34 l0 x4_1).f3) ((rd_T34 l0 x4_1).f4)) else (none)) else (none)) else (none)) = some r := H
                                    have A35 := Aside0.mk A350
                                    clear A350
                                    by_cases c36 : 4 + t118.size ≤ 9223372036854775807
                                    · rw [if_pos c36] at H
                                      have c36b0 := eq_true c36
                                      have c36b1 : decide (4 + t118.size ≤ 9223372036854775807) = true := decide_eq_true c36
                                      try have c36b2 : (9223372036854775807 < 4 + t118.size) = False := eq_false (Nat.not_lt.2 c36)
                                      by_cases c37 : ((⟨#[32, 32, 62, 32]⟩ : ByteArray) ++ t118).size + 1 ≤ 9223372036854775807
                                      · rw [if_pos c37] at H
                                        have c37b0 := eq_true c37
                                        have c37b1 : decide (((⟨#[32, 32, 62, 32]⟩ : ByteArray) ++ t118).size + 1 ≤ 9223372036854775807) = true := decide_eq_true c37
                                        try have c37b2 : (9223372036854775807 < ((⟨#[32, 32, 62, 32]⟩ : ByteArray) ++ t118).size + 1) = False := eq_false (Nat.not_lt.2 c37)
                                        (try (have c37n := c37; simp only [ByteArray.size_append, Go.Proofs.Ytfjpkijfoiajaaa.Mine.size_mk, List.size_toArray, List.length_cons, List.length_nil] at c37n; have c37m := eq_true c37n; have c37o := eq_false (Nat.not_lt.2 c37n)))
                                        by_cases c38 : x3_3.length + (((⟨#[32, 32, 62, 32]⟩ : ByteArray) ++ t118) ++ (⟨#[10]⟩ : ByteArray)).size < 140737488355328
                                        · rw [if_pos c38] at H
                                          have LMc38 := Aside0.mk c38
                                          clear c38
                                          obtain ⟨y119, hy119⟩ : ∃ y_ : List Int, y_ = (x3_3 ++ bytesOf (((⟨#[32, 32, 62, 32]⟩ : ByteArray) ++ t118) ++ (⟨#[10]⟩ : ByteArray))) := ⟨_, rfl⟩
                                          replace H : (spec_ClayFormPlan.l2 k3 l0 y119 x4_1 (wrap64 (x7_3 + 1)) ((rd_T34 l0 x4_1).f0) ((rd_T34 l0 x4_1).f1) ((rd_T34 l0 x4_1).f2) ((rd_T34 l0 x4_1).f3) ((rd_T34 l0 x4_1).f4)) = some r := by first | (rw [hy119]; with_reducible exact H) | (have H2_ := (Option.bind_some _ _).symm.trans H; rw [hy119]; with_reducible exact H2_) | (have H2_ := (Option.bind_some _ _).symm.trans H; with_reducible exact H2_) | with_reducible exact H | (rw [hy119]; exact H) | exact H
                                          have Ny119 := Aside0.mk hy119
                                          clear hy119
                                          have H' := Aside0.mk H
                                          clear H
                                          obtain ⟨⟨hcz39_0, hcz39_1, hcz39_2, hcz39_3, hcz39_4⟩, hfz39_0, hfz39_1, hfz39_2, hfz39_3, hfz39_4⟩ := bf5 BK105
                                          have p117 : 0 ≤ (x7_3 : Int) := of_decide_eq_true (by first | (with_reducible assumption) | assumption)
                                          have q117 : x7_3 < (((rd_T34 l0 x4_1).f4).length : Int) := of_decide_eq_true (by first | (with_reducible assumption) | assumption)
                                          obtain ⟨ad117, e117, hx117_0⟩ := Kd.at_string HR104_4.out x7_3 p117 q117
                                          cases e117
                                          replace hx117_0 := (HB.out.cell (World.block_lt_of_cell? w _ hx117_0)).trans hx117_0
                                          replace p117 := eq_true p117
                                          replace q117 := eq_true q117
                                          go_wp2_with (first | ((with_reducible refine gate_callee (f := 10) rfl ?_); refine gL (some 65) Try.func10 #[.string (rdOf ByteArray.empty ((rd_T34 l0 x4_1).f4) x7_3)] (spec_l1Quote.calls k3 (rdOf ByteArray.empty ((rd_T34 l0 x4_1).f4) x7_3) t118 _ A35.out) ?_; intro w40 hb; replace HO_3 := Aside0.mk (Kd.R_below (by (with_reducible repeat (first | apply Kd.R_alloc | apply Kd.R_drewN | apply Kd.R_drew)); exact HO_3.out) hb); replace BK105 := kB BK105 hb; replace HB := kS HB hb) | (at_builtin; refine print_append_str (w0 := w) w.heap.size rfl (.tmp 59) _ 33 9 5 rfl Try.underlying33 Try.underlying9 info5 u3 x3_3 (((⟨#[32, 32, 62, 32]⟩ : ByteArray) ++ t118) ++ (⟨#[10]⟩ : ByteArray)) rfl rfl ?aO ?aB ?aS ?aL ?_; (case aB => exact (kb HB)); (case aO => exact (Kd.own_of_R (by (with_reducible repeat (first | apply Kd.R_alloc | apply Kd.R_drewN | apply Kd.R_drew)); exact HO_3.out))); (case aS => exact (below_size (kb HB))); (case aL => have := LMc38.out; omega); intro v120 w41 ho0 hb hg; have ho := Kd.R_of_own (h1 := fun _ => rfl) (ok := fun _ => True) ho0 (fun _ _ => trivial); clear ho0; have hat := True.intro; rw [← Ny119.out] at ho; change Kd.R (Kd.int .u8) 5 w41 w.heap.size (fun _ => True) v120 y119 at ho; have HO121 := Aside0.mk (ho); replace BK105 := Aside0.mk (blk_grown (g := gb105) (o := .cells #[.string ((rd_T34 l0 x4_1).f0), .string ((rd_T34 l0 x4_1).f1), .string ((rd_T34 l0 x4_1).f2), .slice A104_3 ((rd_T34 l0 x4_1).f3).length c104_3, .slice (some ad117) ((rd_T34 l0 x4_1).f4).length c104_4] 34 (0, 0)) (kp BK105) hg (Kd.R_ne HO_3.out BK105.out (by decide))); replace HB := Aside0.mk (hb); clear HO_3; clear ho hb hg hat))
                                          go_roundg k3
                                          case measure => have := HK1.out; have := HK2.out; have := HK3.out; omega
                                          case rel => exact ⟨(y119), (wrap64 (x7_3 + 1)), (by first | rfl | (simp; done) | (simp [*]; done)), H', ⟨by have := HK1.out; have := HK2.out; have := HK3.out; omega⟩, ⟨by (with_reducible repeat (first | apply Kd.R_alloc | apply Kd.R_drewN | apply Kd.R_drew)); exact HO121.out⟩, ⟨kp BK105⟩, ⟨kb HB⟩⟩
                                        · rw [if_neg c38] at H
                                          exact absurd H (by simp)
                                      · rw [if_neg c37] at H
                                        exact absurd H (by simp)
                                    · rw [if_neg c36] at H
                                      exact absurd H (by simp)
                                  · rw [if_neg c34] at H
                                    exact absurd H (by simp)
                                · rw [if_neg c33] at H
                                  have c33b0 : decide (x7_3 < (((rd_T34 l0 x4_1).f4).length : Int)) = false := decide_eq_false c33
                                  clear c33
                                  have H' := Aside0.mk H
                                  clear H
                                  obtain ⟨⟨hcz42_0, hcz42_1, hcz42_2, hcz42_3, hcz42_4⟩, hfz42_0, hfz42_1, hfz42_2, hfz42_3, hfz42_4⟩ := bf5 BK105
                                  go_wp2
                                  go_roundg k3
                                  case measure => have := HK1.out; have := HK2.out; have := HK3.out; omega
                                  case rel => exact ⟨(x3_3), (wrap64 (x4_1 + 1)), (by first | rfl | (simp; done) | (simp [*]; done)), H', ⟨by have := HK1.out; have := HK2.out; have := HK3.out; omega⟩, ⟨by (with_reducible repeat (first | apply Kd.R_alloc | apply Kd.R_drewN | apply Kd.R_drew)); exact HO_3.out⟩, ⟨kb HB⟩⟩
                    · rw [if_neg c14] at H
                      exact absurd H (by simp)
                  · rw [if_neg c13] at H
                    exact absurd H (by simp)
                · rw [if_neg c12] at H
                  exact absurd H (by simp)
              · rw [if_neg c10] at H
                exact absurd H (by simp)
            · rw [if_neg c9] at H
              exact absurd H (by simp)
          · rw [if_neg c7] at H
            exact absurd H (by simp)
        · rw [if_neg c5] at H
          exact absurd H (by simp)
      · rw [if_neg c4] at H
        have c4b0 : decide (x4_1 < (l0.length : Int)) = false := decide_eq_false c4
        clear c4
        obtain rfl := Option.some.inj H
        have hcv43 := own_string (P := Try.prog) Try.underlying33 Try.underlying5 Try.underlying9 (Kd.own_of_R HO_3.out)
        go_wp2
        go_ret
        exact ⟨by first | rfl | (simp [errW_none, errW_some] <;> rfl) | (simp [*, errW_none, errW_some] <;> rfl), kb HB⟩

end Go.Proofs.Ytfjpkijfoiajaaa.Q
