/- Several texts of this seat put together by merge.py, without what this claim does not use. -/
import Derived.Test.YtnffcpajfojajaaQmFnExactMillLay1
import Derived.Test.YtnffcpajfojajaaQmFnExactMillLay2
import Derived.Shelf.Abstract
import Derived.Lib.Strings
import Derived.Lib.Bytealg
import Derived.MapViews
import Derived.Maps.Views
import Derived.Sort.KeysCollected
import Derived.Shelf.SlGeneric
import Derived.Shelf.SlIter.Nil
import Derived.Shelf.SortM.Plain
import Derived.Shelf.SortM.SortNone
import Derived.Ground.GgzProg
import Derived.Ground.SlgmProg
import Derived.Shelf.Small.Utf8
import Derived.Shelf.Small.Bits
import Derived.Shelf.Small.Strs
import Derived.Shelf.Small.Wraps
import Derived.Shelf.Strconv.Itoa0
import Derived.Shelf.Strings.Search1
import Derived.Shelf.Sort.Plain
import Derived.Shelf.Strings.Prefix
import Derived.Shelf.Strings.Runes
import Derived.Shelf.Slices.In.SortNone
import Derived.Test.YtnffcpajfojajaaProg
import Derived.Maps.OwnSet
import Derived.Maps.StringElems
import Derived.Sort.Walk0
import Derived.Carry
section
namespace Go.Proofs.Ytnffcpajfojajaa.Q
open Go.RowKit Go.Proofs.YtnffcpajfojajaaW.PrintWords Go.Proofs.YtnffcpajfojajaaW.PrintLast Go.Proofs.YtnffcpajfojajaaW.PrintMore Go.Proofs.Ytnffcpajfojajaa.Short
attribute [local go_sem] max2_int min2_int max_two min_two max_three min_three max_four min_four   
set_option linter.unusedVariables false
set_option linter.unusedSimpArgs false
def impl_short.f (a0 : ByteArray) : Option (Bool) := some (decide ((a0.size : Int) ≤ 3000))
set_option maxHeartbeats 8000000 in
set_option maxRecDepth 100000 in
theorem impl_short.calls (a0 : ByteArray) (r : Bool) (w : World) (h : impl_short.f a0 = some r) :
    Calls Try.prog 30 #[.string a0] w fun e w' => e = .returned (.bool r) ∧ Drawn0 w w' := by
  have H : (some (decide ((a0.size : Int) ≤ 3000))) = some r := h
  clear h
  obtain rfl := Option.some.inj H
  go_enter Try.func30, Try.ntmps30
  go_wp2
  go_ret
  exact ⟨by first | rfl | (simp; done) | (simp [*]; done), by repeat (first | exact Drawn0.refl _ | apply Drawn0.step)⟩
end Go.Proofs.Ytnffcpajfojajaa.Q
end
section
namespace Go.Proofs.Ytnffcpajfojajaa.Q
open Go.RowKit Go.Proofs.YtnffcpajfojajaaW.PrintWords Go.Proofs.YtnffcpajfojajaaW.PrintLast Go.Proofs.YtnffcpajfojajaaW.PrintMore Go.Proofs.Ytnffcpajfojajaa.Short
attribute [local go_sem] max2_int min2_int max_two min_two max_three min_three max_four min_four   
set_option linter.unusedVariables false
set_option linter.unusedSimpArgs false
def impl_filesOK.l0 : Nat → List (S52) → Int → List (S52) → Int → Int → Option (Bool)
  | 0, _, _, _, _, _ => none
  | k + 1, x0, x1, x7, x8, x9 => if x9 < x8 then (if 0 ≤ x9 then (if x9 < (x7.length : Int) then ((impl_fileName.f k ((rd_T52 x7 x9).f0)).bind fun t103 => (if t103 = true then ((impl_short.f ((rd_T52 x7 x9).f1)).bind fun t104 => (if t104 = true then (if x9 > 0 then (if 0 ≤ (wrap64 (x9 - 1)) then (if (wrap64 (x9 - 1)) < (x0.length : Int) then (if ((Op.bytesLess (((rd_T52 x0 (wrap64 (x9 - 1))).f0).toList) (((rd_T52 x7 x9).f0).toList)) = true) then (impl_filesOK.l0 k x0 x1 x7 x8 (wrap64 (x9 + 1))) else (some false)) else (none)) else (none)) else (impl_filesOK.l0 k x0 x1 x7 x8 (wrap64 (x9 + 1)))) else (some false))) else (some false))) else (none)) else (none)) else (some (decide ((x0.length : Int) ≤ x1)))
def impl_filesOK.f (k : Nat) (l0 : List (S52)) (a1 : Int) : Option (Bool) := impl_filesOK.l0 k l0 a1 l0 (l0.length : Int) 0
theorem impl_filesOK.mono_l : ∀ k, (∀ y0 y1 y2 y3 y4, LeO (impl_filesOK.l0 k y0 y1 y2 y3 y4) (impl_filesOK.l0 (k + 1) y0 y1 y2 y3 y4))
  | 0 => fun _ _ _ _ _ r h => by simp [impl_filesOK.l0] at h
  | k + 1 => by
    have ih0 := impl_filesOK.mono_l k
    · intro y0 y1 y2 y3 y4
      unfold impl_filesOK.l0
      repeat' first
      | (with_reducible exact ih0 _ _ _ _ _)
      | (with_reducible exact impl_fileName.mono _ _)
      | (with_reducible exact LeO.refl _)
      | (with_reducible exact LeO.none _)
      | (with_reducible refine LeO.ite ?_ ?_)
      | (with_reducible refine LeO.bind ?_ (fun _ => ?_))
      | exact ih0 _ _ _ _ _
      | exact impl_fileName.mono _ _
      | exact LeO.none _
      | refine LeO.ite ?_ ?_
      | refine LeO.bind ?_ (fun _ => ?_)
theorem impl_filesOK.mono : ∀ a0 a1 k, LeO (impl_filesOK.f k a0 a1) (impl_filesOK.f (k + 1) a0 a1) := by
  intro a0 a1 k
  have ih0 := impl_filesOK.mono_l k
  unfold impl_filesOK.f
  repeat' first
      | (with_reducible exact ih0 _ _ _ _ _)
      | (with_reducible exact impl_fileName.mono _ _)
      | (with_reducible exact LeO.refl _)
      | (with_reducible exact LeO.none _)
      | (with_reducible refine LeO.ite ?_ ?_)
      | (with_reducible refine LeO.bind ?_ (fun _ => ?_))
      | exact ih0 _ _ _ _ _
      | exact impl_fileName.mono _ _
      | exact LeO.none _
      | refine LeO.ite ?_ ?_
      | refine LeO.bind ?_ (fun _ => ?_)
set_option maxHeartbeats 8000000 in
set_option maxRecDepth 100000 in
theorem impl_filesOK.calls (k : Nat) (A0 : Option Addr) (c0 : Nat) (l0 : List (S52)) (a1 : Int) (r : Bool) (w : World) (hr0 : Kd.C k52 w A0 l0.length l0) (hc0 : l0.length ≤ c0) (h : impl_filesOK.f k l0 a1 = some r) :
    Calls Try.prog 49 #[.slice A0 l0.length c0, .int .i64 a1] w fun e w' => e = .returned (.bool r) ∧ Below w.heap.size w w' := by
  have hu52 := Try.underlying52
  have HR0 := Aside0.mk hr0
  have HC0 := Aside0.mk hc0
  clear hr0 hc0
  have HB := Aside0.mk (Below.refl w.heap.size w)
  have H : (impl_filesOK.l0 k l0 a1 l0 (l0.length : Int) 0) = some r := h
  clear h
  have H' := Aside0.mk H
  clear H
  go_enter Try.func49, Try.ntmps49
  go_wp2
  repeat (go_quiet (fail); try go_wp2)
  go_loopg [9] k (fun kq v9 w' => ∃ (x9_1 : Int), v9 = .int .i64 x9_1 ∧ Aside0 (impl_filesOK.l0 kq l0 a1 l0 (l0.length : Int) x9_1 = some r) ∧ Aside0 (kq ≤ k) ∧ Aside0 (Below w.heap.size w w'))
  case atStart => exact ⟨(0), (by first | rfl | (simp; done) | (simp [*]; done)), H', ⟨Nat.le_refl _⟩, ⟨kb HB⟩⟩
  case round =>
    clear H'
    obtain ⟨x9_1, rfl, HA, HK1, HB⟩ := hrel
    cases gk with
    | zero => exact absurd HA.out (by simp [impl_filesOK.l0])
    | succ k1 =>
      have H := HA.out
      clear HA
      simp only [impl_filesOK.l0] at H
      by_cases c3 : x9_1 < (l0.length : Int)
      · rw [if_pos c3] at H
        have c3b0 : decide (x9_1 < (l0.length : Int)) = true := decide_eq_true c3
        clear c3
        by_cases c4 : 0 ≤ x9_1
        · rw [if_pos c4] at H
          have c4b0 : decide (0 ≤ x9_1) = true := decide_eq_true c4
          clear c4
          by_cases c5 : x9_1 < (l0.length : Int)
          · rw [if_pos c5] at H
            have c5b0 : decide (x9_1 < (l0.length : Int)) = true := decide_eq_true c5
            clear c5
            replace H := Option.bind_eq_some_iff.mp H
            obtain ⟨t103, A60, H⟩ := H
            replace H : (if t103 = true then ((impl_short.f ((rd_T52 l0 x9_1).f1)).bind fun t104 => (if t104 = true then (if x9_1 > 0 then (if 0 ≤ (wrap64 (x9_1 - 1)) then (if (wrap64 (x9_1 - 1)) < (l0.length : Int) then (if ((Op.bytesLess (((rd_T52 l0 (wrap64 (x9_1 - 1))).f0).toList) (((rd_T52 l0 x9_1).f0).toList)) = true) then (impl_filesOK.l0 k1 l0 a1 l0 (l0.length : Int) (wrap64 (x9_1 + 1))) else (some false)) else (none)) else (none)) else (impl_filesOK.l0 k1 l0 a1 l0 (l0.length : Int) (wrap64 (x9_1 + 1)))) else (some false))) else (some false)) = some r := H
            have A6 := Aside0.mk A60
            clear A60
            by_cases c7 : t103 = true
            · subst c7
              have H1 : ((impl_short.f ((rd_T52 l0 x9_1).f1)).bind fun t104 => (if t104 = true then (if x9_1 > 0 then (if 0 ≤ (wrap64 (x9_1 - 1)) then (if (wrap64 (x9_1 - 1)) < (l0.length : Int) then (if ((Op.bytesLess (((rd_T52 l0 (wrap64 (x9_1 - 1))).f0).toList) (((rd_T52 l0 x9_1).f0).toList)) = true) then (impl_filesOK.l0 k1 l0 a1 l0 (l0.length : Int) (wrap64 (x9_1 + 1))) else (some false)) else (none)) else (none)) else (impl_filesOK.l0 k1 l0 a1 l0 (l0.length : Int) (wrap64 (x9_1 + 1)))) else (some false))) = some r := by rw [if_pos rfl] at H; exact H
              clear H
              have H := H1
              clear H1
              replace H := Option.bind_eq_some_iff.mp H
              obtain ⟨t104, A80, H⟩ := H
              replace H : (if t104 = true then (if x9_1 > 0 then (if 0 ≤ (wrap64 (x9_1 - 1)) then (if (wrap64 (x9_1 - 1)) < (l0.length : Int) then (if ((Op.bytesLess (((rd_T52 l0 (wrap64 (x9_1 - 1))).f0).toList) (((rd_T52 l0 x9_1).f0).toList)) = true) then (impl_filesOK.l0 k1 l0 a1 l0 (l0.length : Int) (wrap64 (x9_1 + 1))) else (some false)) else (none)) else (none)) else (impl_filesOK.l0 k1 l0 a1 l0 (l0.length : Int) (wrap64 (x9_1 + 1)))) else (some false)) = some r := H
              have A8 := Aside0.mk A80
              clear A80
              by_cases c9 : t104 = true
              · subst c9
                have H1 : (if x9_1 > 0 then (if 0 ≤ (wrap64 (x9_1 - 1)) then (if (wrap64 (x9_1 - 1)) < (l0.length : Int) then (if ((Op.bytesLess (((rd_T52 l0 (wrap64 (x9_1 - 1))).f0).toList) (((rd_T52 l0 x9_1).f0).toList)) = true) then (impl_filesOK.l0 k1 l0 a1 l0 (l0.length : Int) (wrap64 (x9_1 + 1))) else (some false)) else (none)) else (none)) else (impl_filesOK.l0 k1 l0 a1 l0 (l0.length : Int) (wrap64 (x9_1 + 1)))) = some r := by rw [if_pos rfl] at H; exact H
                clear H
                have H := H1
                clear H1
                by_cases c10 : x9_1 > 0
                · rw [if_pos c10] at H
                  have c10b0 : decide (0 < x9_1) = true := decide_eq_true c10
                  clear c10
                  obtain ⟨ji11, hji11⟩ : ∃ j_ : Int, (wrap64 (x9_1 - 1)) = j_ := ⟨_, rfl⟩
                  replace H : (if 0 ≤ (ji11) then (if (ji11) < (l0.length : Int) then (if ((Op.bytesLess (((rd_T52 l0 (ji11)).f0).toList) (((rd_T52 l0 x9_1).f0).toList)) = true) then (impl_filesOK.l0 k1 l0 a1 l0 (l0.length : Int) (wrap64 (x9_1 + 1))) else (some false)) else (none)) else (none)) = some r := by first | (rw [hji11] at H; exact H) | (simp only [hji11] at H ⊢; exact H)
                  (try rw [hji11] at A6)
                  (try rw [hji11] at A8)
                  have hji11w : (IntKind.i64.wrap (x9_1 - 1)) = ji11 := (i64_w _).trans hji11
                  by_cases c12 : 0 ≤ (ji11)
                  · rw [if_pos c12] at H
                    have c12b0 : decide (0 ≤ (ji11)) = true := decide_eq_true c12
                    clear c12
                    by_cases c13 : (ji11) < (l0.length : Int)
                    · rw [if_pos c13] at H
                      have c13b0 : decide ((ji11) < (l0.length : Int)) = true := decide_eq_true c13
                      clear c13
                      by_cases c14 : ((Op.bytesLess (((rd_T52 l0 (ji11)).f0).toList) (((rd_T52 l0 x9_1).f0).toList)) = true)
                      · rw [if_pos c14] at H
                        have c14b0 : (Op.bytesLess (((rd_T52 l0 (ji11)).f0).toList) (((rd_T52 l0 x9_1).f0).toList)) = true := c14
                        clear c14
                        have H' := Aside0.mk H
                        clear H
                        have p101 : 0 ≤ (x9_1 : Int) := of_decide_eq_true (by first | (with_reducible assumption) | assumption)
                        have q101 : x9_1 < (l0.length : Int) := of_decide_eq_true (by first | (with_reducible assumption) | assumption)
                        obtain ⟨ad101, e101, hx101_0, hx101_1⟩ := at_T52 HR0.out x9_1 p101 q101
                        cases e101
                        replace hx101_0 := (HB.out.cell (World.block_lt_of_cell? w _ hx101_0)).trans hx101_0
                        replace hx101_1 := (HB.out.cell (World.block_lt_of_cell? w _ hx101_1)).trans hx101_1
                        replace p101 := eq_true p101
                        replace q101 := eq_true q101
                        go_wp2_with (first | ((with_reducible refine gate_dst (N := 6) rfl ?_); refine gX 6 #[.string (⟨#[]⟩ : ByteArray), .string (⟨#[]⟩ : ByteArray)] 52 ?_; intro gb102 hg w15 hbox hb; have BK102 := Aside0.mk (hbox); have GW102 := gw hg (kb HB); have GE102 := gw hg (kb HB); replace HB := kS HB hb; clear hb hbox hg; obtain ⟨⟨hcz16_0, hcz16_1⟩, hfz16_0, hfz16_1⟩ := bf2 BK102) | (go_at_call 29; (with_reducible refine (impl_fileName.calls k1 ((rd_T52 l0 x9_1).f0) true _ A6.out).mono ?_); rintro e w' ⟨rfl, ⟨nd, rfl⟩⟩; (try first | exact ⟨rfl, _, World.drewN_drewN _ _ _⟩ | exact ⟨rfl, _, Eq.trans (World.drewN_drewN _ _ _) (congrArg (World.drewN _) (Nat.add_assoc _ _ _))⟩)) | (go_at_call 30; (with_reducible refine (impl_short.calls ((rd_T52 l0 x9_1).f1) true _ A8.out).mono ?_); rintro e w' ⟨rfl, ⟨nd, rfl⟩⟩; (try first | exact ⟨rfl, _, World.drewN_drewN _ _ _⟩ | exact ⟨rfl, _, Eq.trans (World.drewN_drewN _ _ _) (congrArg (World.drewN _) (Nat.add_assoc _ _ _))⟩); have p105 : 0 ≤ ((ji11) : Int) := of_decide_eq_true (by first | (with_reducible assumption) | assumption); have q105 : (ji11) < (l0.length : Int) := of_decide_eq_true (by first | (with_reducible assumption) | assumption); obtain ⟨ad105, e105, hx105_0, hx105_1⟩ := at_T52 HR0.out (ji11) p105 q105; obtain rfl : ad101 = ad105 := (by injection e105); have hn105_0 : ad101.block ≠ gb102 := Nat.ne_of_lt (Nat.lt_of_lt_of_le (by have := World.block_lt_of_cell? _ _ hx105_0; first | rwa [add_block] at this | exact this) GW102.out); have hn105_1 : ad101.block ≠ gb102 := Nat.ne_of_lt (Nat.lt_of_lt_of_le (by have := World.block_lt_of_cell? _ _ hx105_0; first | rwa [add_block] at this | exact this) GW102.out); replace hx105_0 := (HB.out.cell (World.block_lt_of_cell? w _ hx105_0)).trans hx105_0; replace hx105_1 := (HB.out.cell (World.block_lt_of_cell? w _ hx105_1)).trans hx105_1; replace hx105_0 := (cell_far (p := ⟨gb102, 0, none⟩) (by first | (rw [add_block]; exact hn105_0) | (show (Addr.add _ _).block ≠ _; rw [add_block]; exact hn105_0) | exact hn105_0) (.string ((rd_T52 l0 x9_1).f0))).trans hx105_0; replace hx105_1 := (cell_far (p := ⟨gb102, 0, none⟩) (by first | (rw [add_block]; exact hn105_0) | (show (Addr.add _ _).block ≠ _; rw [add_block]; exact hn105_0) | exact hn105_0) (.string ((rd_T52 l0 x9_1).f0))).trans hx105_1; replace hx105_0 := (cell_far (p := ⟨gb102, 1, none⟩) (by first | (rw [add_block]; exact hn105_1) | (show (Addr.add _ _).block ≠ _; rw [add_block]; exact hn105_1) | exact hn105_1) (.string ((rd_T52 l0 x9_1).f1))).trans hx105_0; replace hx105_1 := (cell_far (p := ⟨gb102, 1, none⟩) (by first | (rw [add_block]; exact hn105_1) | (show (Addr.add _ _).block ≠ _; rw [add_block]; exact hn105_1) | exact hn105_1) (.string ((rd_T52 l0 x9_1).f1))).trans hx105_1; (try have hy105_0 := fun (n_ : Nat) => (show ((((w15.drewN n_).setCell ⟨gb102, 0, none⟩ (.string ((rd_T52 l0 x9_1).f0))).setCell ⟨gb102, 1, none⟩ (.string ((rd_T52 l0 x9_1).f1)))).cell? _ = some _ from hx105_0)); (try have hy105_1 := fun (n_ : Nat) => (show ((((w15.drewN n_).setCell ⟨gb102, 0, none⟩ (.string ((rd_T52 l0 x9_1).f0))).setCell ⟨gb102, 1, none⟩ (.string ((rd_T52 l0 x9_1).f1)))).cell? _ = some _ from hx105_1)); clear hn105_0; clear hn105_1; replace p105 := eq_true p105; replace q105 := eq_true q105))
                        repeat (go_quiet (first | ((with_reducible refine gate_dst (N := 6) rfl ?_); refine gX 6 #[.string (⟨#[]⟩ : ByteArray), .string (⟨#[]⟩ : ByteArray)] 52 ?_; intro gb102 hg w15 hbox hb; have BK102 := Aside0.mk (hbox); have GW102 := gw hg (kb HB); have GE102 := gw hg (kb HB); replace HB := kS HB hb; clear hb hbox hg; obtain ⟨⟨hcz16_0, hcz16_1⟩, hfz16_0, hfz16_1⟩ := bf2 BK102) | (go_at_call 29; (with_reducible refine (impl_fileName.calls k1 ((rd_T52 l0 x9_1).f0) true _ A6.out).mono ?_); rintro e w' ⟨rfl, ⟨nd, rfl⟩⟩; (try first | exact ⟨rfl, _, World.drewN_drewN _ _ _⟩ | exact ⟨rfl, _, Eq.trans (World.drewN_drewN _ _ _) (congrArg (World.drewN _) (Nat.add_assoc _ _ _))⟩)) | (go_at_call 30; (with_reducible refine (impl_short.calls ((rd_T52 l0 x9_1).f1) true _ A8.out).mono ?_); rintro e w' ⟨rfl, ⟨nd, rfl⟩⟩; (try first | exact ⟨rfl, _, World.drewN_drewN _ _ _⟩ | exact ⟨rfl, _, Eq.trans (World.drewN_drewN _ _ _) (congrArg (World.drewN _) (Nat.add_assoc _ _ _))⟩); have p105 : 0 ≤ ((ji11) : Int) := of_decide_eq_true (by first | (with_reducible assumption) | assumption); have q105 : (ji11) < (l0.length : Int) := of_decide_eq_true (by first | (with_reducible assumption) | assumption); obtain ⟨ad105, e105, hx105_0, hx105_1⟩ := at_T52 HR0.out (ji11) p105 q105; obtain rfl : ad101 = ad105 := (by injection e105); have hn105_0 : ad101.block ≠ gb102 := Nat.ne_of_lt (Nat.lt_of_lt_of_le (by have := World.block_lt_of_cell? _ _ hx105_0; first | rwa [add_block] at this | exact this) GW102.out); have hn105_1 : ad101.block ≠ gb102 := Nat.ne_of_lt (Nat.lt_of_lt_of_le (by have := World.block_lt_of_cell? _ _ hx105_0; first | rwa [add_block] at this | exact this) GW102.out); replace hx105_0 := (HB.out.cell (World.block_lt_of_cell? w _ hx105_0)).trans hx105_0; replace hx105_1 := (HB.out.cell (World.block_lt_of_cell? w _ hx105_1)).trans hx105_1; replace hx105_0 := (cell_far (p := ⟨gb102, 0, none⟩) (by first | (rw [add_block]; exact hn105_0) | (show (Addr.add _ _).block ≠ _; rw [add_block]; exact hn105_0) | exact hn105_0) (.string ((rd_T52 l0 x9_1).f0))).trans hx105_0; replace hx105_1 := (cell_far (p := ⟨gb102, 0, none⟩) (by first | (rw [add_block]; exact hn105_0) | (show (Addr.add _ _).block ≠ _; rw [add_block]; exact hn105_0) | exact hn105_0) (.string ((rd_T52 l0 x9_1).f0))).trans hx105_1; replace hx105_0 := (cell_far (p := ⟨gb102, 1, none⟩) (by first | (rw [add_block]; exact hn105_1) | (show (Addr.add _ _).block ≠ _; rw [add_block]; exact hn105_1) | exact hn105_1) (.string ((rd_T52 l0 x9_1).f1))).trans hx105_0; replace hx105_1 := (cell_far (p := ⟨gb102, 1, none⟩) (by first | (rw [add_block]; exact hn105_1) | (show (Addr.add _ _).block ≠ _; rw [add_block]; exact hn105_1) | exact hn105_1) (.string ((rd_T52 l0 x9_1).f1))).trans hx105_1; (try have hy105_0 := fun (n_ : Nat) => (show ((((w15.drewN n_).setCell ⟨gb102, 0, none⟩ (.string ((rd_T52 l0 x9_1).f0))).setCell ⟨gb102, 1, none⟩ (.string ((rd_T52 l0 x9_1).f1)))).cell? _ = some _ from hx105_0)); (try have hy105_1 := fun (n_ : Nat) => (show ((((w15.drewN n_).setCell ⟨gb102, 0, none⟩ (.string ((rd_T52 l0 x9_1).f0))).setCell ⟨gb102, 1, none⟩ (.string ((rd_T52 l0 x9_1).f1)))).cell? _ = some _ from hx105_1)); clear hn105_0; clear hn105_1; replace p105 := eq_true p105; replace q105 := eq_true q105)); try go_wp2_with (first | ((with_reducible refine gate_dst (N := 6) rfl ?_); refine gX 6 #[.string (⟨#[]⟩ : ByteArray), .string (⟨#[]⟩ : ByteArray)] 52 ?_; intro gb102 hg w15 hbox hb; have BK102 := Aside0.mk (hbox); have GW102 := gw hg (kb HB); have GE102 := gw hg (kb HB); replace HB := kS HB hb; clear hb hbox hg; obtain ⟨⟨hcz16_0, hcz16_1⟩, hfz16_0, hfz16_1⟩ := bf2 BK102) | (go_at_call 29; (with_reducible refine (impl_fileName.calls k1 ((rd_T52 l0 x9_1).f0) true _ A6.out).mono ?_); rintro e w' ⟨rfl, ⟨nd, rfl⟩⟩; (try first | exact ⟨rfl, _, World.drewN_drewN _ _ _⟩ | exact ⟨rfl, _, Eq.trans (World.drewN_drewN _ _ _) (congrArg (World.drewN _) (Nat.add_assoc _ _ _))⟩)) | (go_at_call 30; (with_reducible refine (impl_short.calls ((rd_T52 l0 x9_1).f1) true _ A8.out).mono ?_); rintro e w' ⟨rfl, ⟨nd, rfl⟩⟩; (try first | exact ⟨rfl, _, World.drewN_drewN _ _ _⟩ | exact ⟨rfl, _, Eq.trans (World.drewN_drewN _ _ _) (congrArg (World.drewN _) (Nat.add_assoc _ _ _))⟩); have p105 : 0 ≤ ((ji11) : Int) := of_decide_eq_true (by first | (with_reducible assumption) | assumption); have q105 : (ji11) < (l0.length : Int) := of_decide_eq_true (by first | (with_reducible assumption) | assumption); obtain ⟨ad105, e105, hx105_0, hx105_1⟩ := at_T52 HR0.out (ji11) p105 q105; obtain rfl : ad101 = ad105 := (by injection e105); have hn105_0 : ad101.block ≠ gb102 := Nat.ne_of_lt (Nat.lt_of_lt_of_le (by have := World.block_lt_of_cell? _ _ hx105_0; first | rwa [add_block] at this | exact this) GW102.out); have hn105_1 : ad101.block ≠ gb102 := Nat.ne_of_lt (Nat.lt_of_lt_of_le (by have := World.block_lt_of_cell? _ _ hx105_0; first | rwa [add_block] at this | exact this) GW102.out); replace hx105_0 := (HB.out.cell (World.block_lt_of_cell? w _ hx105_0)).trans hx105_0; replace hx105_1 := (HB.out.cell (World.block_lt_of_cell? w _ hx105_1)).trans hx105_1; replace hx105_0 := (cell_far (p := ⟨gb102, 0, none⟩) (by first | (rw [add_block]; exact hn105_0) | (show (Addr.add _ _).block ≠ _; rw [add_block]; exact hn105_0) | exact hn105_0) (.string ((rd_T52 l0 x9_1).f0))).trans hx105_0; replace hx105_1 := (cell_far (p := ⟨gb102, 0, none⟩) (by first | (rw [add_block]; exact hn105_0) | (show (Addr.add _ _).block ≠ _; rw [add_block]; exact hn105_0) | exact hn105_0) (.string ((rd_T52 l0 x9_1).f0))).trans hx105_1; replace hx105_0 := (cell_far (p := ⟨gb102, 1, none⟩) (by first | (rw [add_block]; exact hn105_1) | (show (Addr.add _ _).block ≠ _; rw [add_block]; exact hn105_1) | exact hn105_1) (.string ((rd_T52 l0 x9_1).f1))).trans hx105_0; replace hx105_1 := (cell_far (p := ⟨gb102, 1, none⟩) (by first | (rw [add_block]; exact hn105_1) | (show (Addr.add _ _).block ≠ _; rw [add_block]; exact hn105_1) | exact hn105_1) (.string ((rd_T52 l0 x9_1).f1))).trans hx105_1; (try have hy105_0 := fun (n_ : Nat) => (show ((((w15.drewN n_).setCell ⟨gb102, 0, none⟩ (.string ((rd_T52 l0 x9_1).f0))).setCell ⟨gb102, 1, none⟩ (.string ((rd_T52 l0 x9_1).f1)))).cell? _ = some _ from hx105_0)); (try have hy105_1 := fun (n_ : Nat) => (show ((((w15.drewN n_).setCell ⟨gb102, 0, none⟩ (.string ((rd_T52 l0 x9_1).f0))).setCell ⟨gb102, 1, none⟩ (.string ((rd_T52 l0 x9_1).f1)))).cell? _ = some _ from hx105_1)); clear hn105_0; clear hn105_1; replace p105 := eq_true p105; replace q105 := eq_true q105)))
                        go_roundg k1
                        case measure => have := HK1.out; omega
                        case rel => exact ⟨(wrap64 (x9_1 + 1)), (by first | rfl | (simp; done) | (simp [*]; done)), H', ⟨by have := HK1.out; omega⟩, ⟨kb HB⟩⟩
                      · rw [if_neg c14] at H
                        have c14b0 : (Op.bytesLess (((rd_T52 l0 (ji11)).f0).toList) (((rd_T52 l0 x9_1).f0).toList)) = false := by simpa using c14
                        clear c14
                        obtain rfl := Option.some.inj H
                        have p101 : 0 ≤ (x9_1 : Int) := of_decide_eq_true (by first | (with_reducible assumption) | assumption)
                        have q101 : x9_1 < (l0.length : Int) := of_decide_eq_true (by first | (with_reducible assumption) | assumption)
                        obtain ⟨ad101, e101, hx101_0, hx101_1⟩ := at_T52 HR0.out x9_1 p101 q101
                        cases e101
                        replace hx101_0 := (HB.out.cell (World.block_lt_of_cell? w _ hx101_0)).trans hx101_0
                        replace hx101_1 := (HB.out.cell (World.block_lt_of_cell? w _ hx101_1)).trans hx101_1
                        replace p101 := eq_true p101
                        replace q101 := eq_true q101
                        go_wp2_with (first | ((with_reducible refine gate_dst (N := 6) rfl ?_); refine gX 6 #[.string (⟨#[]⟩ : ByteArray), .string (⟨#[]⟩ : ByteArray)] 52 ?_; intro gb102 hg w17 hbox hb; have BK102 := Aside0.mk (hbox); have GW102 := gw hg (kb HB); have GE102 := gw hg (kb HB); replace HB := kS HB hb; clear hb hbox hg; obtain ⟨⟨hcz18_0, hcz18_1⟩, hfz18_0, hfz18_1⟩ := bf2 BK102) | (go_at_call 29; (with_reducible refine (impl_fileName.calls k1 ((rd_T52 l0 x9_1).f0) true _ A6.out).mono ?_); rintro e w' ⟨rfl, ⟨nd, rfl⟩⟩; (try first | exact ⟨rfl, _, World.drewN_drewN _ _ _⟩ | exact ⟨rfl, _, Eq.trans (World.drewN_drewN _ _ _) (congrArg (World.drewN _) (Nat.add_assoc _ _ _))⟩)) | (go_at_call 30; (with_reducible refine (impl_short.calls ((rd_T52 l0 x9_1).f1) true _ A8.out).mono ?_); rintro e w' ⟨rfl, ⟨nd, rfl⟩⟩; (try first | exact ⟨rfl, _, World.drewN_drewN _ _ _⟩ | exact ⟨rfl, _, Eq.trans (World.drewN_drewN _ _ _) (congrArg (World.drewN _) (Nat.add_assoc _ _ _))⟩); have p105 : 0 ≤ ((ji11) : Int) := of_decide_eq_true (by first | (with_reducible assumption) | assumption); have q105 : (ji11) < (l0.length : Int) := of_decide_eq_true (by first | (with_reducible assumption) | assumption); obtain ⟨ad105, e105, hx105_0, hx105_1⟩ := at_T52 HR0.out (ji11) p105 q105; obtain rfl : ad101 = ad105 := (by injection e105); have hn105_0 : ad101.block ≠ gb102 := Nat.ne_of_lt (Nat.lt_of_lt_of_le (by have := World.block_lt_of_cell? _ _ hx105_0; first | rwa [add_block] at this | exact this) GW102.out); have hn105_1 : ad101.block ≠ gb102 := Nat.ne_of_lt (Nat.lt_of_lt_of_le (by have := World.block_lt_of_cell? _ _ hx105_0; first | rwa [add_block] at this | exact this) GW102.out); replace hx105_0 := (HB.out.cell (World.block_lt_of_cell? w _ hx105_0)).trans hx105_0; replace hx105_1 := (HB.out.cell (World.block_lt_of_cell? w _ hx105_1)).trans hx105_1; replace hx105_0 := (cell_far (p := ⟨gb102, 0, none⟩) (by first | (rw [add_block]; exact hn105_0) | (show (Addr.add _ _).block ≠ _; rw [add_block]; exact hn105_0) | exact hn105_0) (.string ((rd_T52 l0 x9_1).f0))).trans hx105_0; replace hx105_1 := (cell_far (p := ⟨gb102, 0, none⟩) (by first | (rw [add_block]; exact hn105_0) | (show (Addr.add _ _).block ≠ _; rw [add_block]; exact hn105_0) | exact hn105_0) (.string ((rd_T52 l0 x9_1).f0))).trans hx105_1; replace hx105_0 := (cell_far (p := ⟨gb102, 1, none⟩) (by first | (rw [add_block]; exact hn105_1) | (show (Addr.add _ _).block ≠ _; rw [add_block]; exact hn105_1) | exact hn105_1) (.string ((rd_T52 l0 x9_1).f1))).trans hx105_0; replace hx105_1 := (cell_far (p := ⟨gb102, 1, none⟩) (by first | (rw [add_block]; exact hn105_1) | (show (Addr.add _ _).block ≠ _; rw [add_block]; exact hn105_1) | exact hn105_1) (.string ((rd_T52 l0 x9_1).f1))).trans hx105_1; (try have hy105_0 := fun (n_ : Nat) => (show ((((w17.drewN n_).setCell ⟨gb102, 0, none⟩ (.string ((rd_T52 l0 x9_1).f0))).setCell ⟨gb102, 1, none⟩ (.string ((rd_T52 l0 x9_1).f1)))).cell? _ = some _ from hx105_0)); (try have hy105_1 := fun (n_ : Nat) => (show ((((w17.drewN n_).setCell ⟨gb102, 0, none⟩ (.string ((rd_T52 l0 x9_1).f0))).setCell ⟨gb102, 1, none⟩ (.string ((rd_T52 l0 x9_1).f1)))).cell? _ = some _ from hx105_1)); clear hn105_0; clear hn105_1; replace p105 := eq_true p105; replace q105 := eq_true q105))
                        repeat (go_quiet (first | ((with_reducible refine gate_dst (N := 6) rfl ?_); refine gX 6 #[.string (⟨#[]⟩ : ByteArray), .string (⟨#[]⟩ : ByteArray)] 52 ?_; intro gb102 hg w17 hbox hb; have BK102 := Aside0.mk (hbox); have GW102 := gw hg (kb HB); have GE102 := gw hg (kb HB); replace HB := kS HB hb; clear hb hbox hg; obtain ⟨⟨hcz18_0, hcz18_1⟩, hfz18_0, hfz18_1⟩ := bf2 BK102) | (go_at_call 29; (with_reducible refine (impl_fileName.calls k1 ((rd_T52 l0 x9_1).f0) true _ A6.out).mono ?_); rintro e w' ⟨rfl, ⟨nd, rfl⟩⟩; (try first | exact ⟨rfl, _, World.drewN_drewN _ _ _⟩ | exact ⟨rfl, _, Eq.trans (World.drewN_drewN _ _ _) (congrArg (World.drewN _) (Nat.add_assoc _ _ _))⟩)) | (go_at_call 30; (with_reducible refine (impl_short.calls ((rd_T52 l0 x9_1).f1) true _ A8.out).mono ?_); rintro e w' ⟨rfl, ⟨nd, rfl⟩⟩; (try first | exact ⟨rfl, _, World.drewN_drewN _ _ _⟩ | exact ⟨rfl, _, Eq.trans (World.drewN_drewN _ _ _) (congrArg (World.drewN _) (Nat.add_assoc _ _ _))⟩); have p105 : 0 ≤ ((ji11) : Int) := of_decide_eq_true (by first | (with_reducible assumption) | assumption); have q105 : (ji11) < (l0.length : Int) := of_decide_eq_true (by first | (with_reducible assumption) | assumption); obtain ⟨ad105, e105, hx105_0, hx105_1⟩ := at_T52 HR0.out (ji11) p105 q105; obtain rfl : ad101 = ad105 := (by injection e105); have hn105_0 : ad101.block ≠ gb102 := Nat.ne_of_lt (Nat.lt_of_lt_of_le (by have := World.block_lt_of_cell? _ _ hx105_0; first | rwa [add_block] at this | exact this) GW102.out); have hn105_1 : ad101.block ≠ gb102 := Nat.ne_of_lt (Nat.lt_of_lt_of_le (by have := World.block_lt_of_cell? _ _ hx105_0; first | rwa [add_block] at this | exact this) GW102.out); replace hx105_0 := (HB.out.cell (World.block_lt_of_cell? w _ hx105_0)).trans hx105_0; replace hx105_1 := (HB.out.cell (World.block_lt_of_cell? w _ hx105_1)).trans hx105_1; replace hx105_0 := (cell_far (p := ⟨gb102, 0, none⟩) (by first | (rw [add_block]; exact hn105_0) | (show (Addr.add _ _).block ≠ _; rw [add_block]; exact hn105_0) | exact hn105_0) (.string ((rd_T52 l0 x9_1).f0))).trans hx105_0; replace hx105_1 := (cell_far (p := ⟨gb102, 0, none⟩) (by first | (rw [add_block]; exact hn105_0) | (show (Addr.add _ _).block ≠ _; rw [add_block]; exact hn105_0) | exact hn105_0) (.string ((rd_T52 l0 x9_1).f0))).trans hx105_1; replace hx105_0 := (cell_far (p := ⟨gb102, 1, none⟩) (by first | (rw [add_block]; exact hn105_1) | (show (Addr.add _ _).block ≠ _; rw [add_block]; exact hn105_1) | exact hn105_1) (.string ((rd_T52 l0 x9_1).f1))).trans hx105_0; replace hx105_1 := (cell_far (p := ⟨gb102, 1, none⟩) (by first | (rw [add_block]; exact hn105_1) | (show (Addr.add _ _).block ≠ _; rw [add_block]; exact hn105_1) | exact hn105_1) (.string ((rd_T52 l0 x9_1).f1))).trans hx105_1; (try have hy105_0 := fun (n_ : Nat) => (show ((((w17.drewN n_).setCell ⟨gb102, 0, none⟩ (.string ((rd_T52 l0 x9_1).f0))).setCell ⟨gb102, 1, none⟩ (.string ((rd_T52 l0 x9_1).f1)))).cell? _ = some _ from hx105_0)); (try have hy105_1 := fun (n_ : Nat) => (show ((((w17.drewN n_).setCell ⟨gb102, 0, none⟩ (.string ((rd_T52 l0 x9_1).f0))).setCell ⟨gb102, 1, none⟩ (.string ((rd_T52 l0 x9_1).f1)))).cell? _ = some _ from hx105_1)); clear hn105_0; clear hn105_1; replace p105 := eq_true p105; replace q105 := eq_true q105)); try go_wp2_with (first | ((with_reducible refine gate_dst (N := 6) rfl ?_); refine gX 6 #[.string (⟨#[]⟩ : ByteArray), .string (⟨#[]⟩ : ByteArray)] 52 ?_; intro gb102 hg w17 hbox hb; have BK102 := Aside0.mk (hbox); have GW102 := gw hg (kb HB); have GE102 := gw hg (kb HB); replace HB := kS HB hb; clear hb hbox hg; obtain ⟨⟨hcz18_0, hcz18_1⟩, hfz18_0, hfz18_1⟩ := bf2 BK102) | (go_at_call 29; (with_reducible refine (impl_fileName.calls k1 ((rd_T52 l0 x9_1).f0) true _ A6.out).mono ?_); rintro e w' ⟨rfl, ⟨nd, rfl⟩⟩; (try first | exact ⟨rfl, _, World.drewN_drewN _ _ _⟩ | exact ⟨rfl, _, Eq.trans (World.drewN_drewN _ _ _) (congrArg (World.drewN _) (Nat.add_assoc _ _ _))⟩)) | (go_at_call 30; (with_reducible refine (impl_short.calls ((rd_T52 l0 x9_1).f1) true _ A8.out).mono ?_); rintro e w' ⟨rfl, ⟨nd, rfl⟩⟩; (try first | exact ⟨rfl, _, World.drewN_drewN _ _ _⟩ | exact ⟨rfl, _, Eq.trans (World.drewN_drewN _ _ _) (congrArg (World.drewN _) (Nat.add_assoc _ _ _))⟩); have p105 : 0 ≤ ((ji11) : Int) := of_decide_eq_true (by first | (with_reducible assumption) | assumption); have q105 : (ji11) < (l0.length : Int) := of_decide_eq_true (by first | (with_reducible assumption) | assumption); obtain ⟨ad105, e105, hx105_0, hx105_1⟩ := at_T52 HR0.out (ji11) p105 q105; obtain rfl : ad101 = ad105 := (by injection e105); have hn105_0 : ad101.block ≠ gb102 := Nat.ne_of_lt (Nat.lt_of_lt_of_le (by have := World.block_lt_of_cell? _ _ hx105_0; first | rwa [add_block] at this | exact this) GW102.out); have hn105_1 : ad101.block ≠ gb102 := Nat.ne_of_lt (Nat.lt_of_lt_of_le (by have := World.block_lt_of_cell? _ _ hx105_0; first | rwa [add_block] at this | exact this) GW102.out); replace hx105_0 := (HB.out.cell (World.block_lt_of_cell? w _ hx105_0)).trans hx105_0; replace hx105_1 := (HB.out.cell (World.block_lt_of_cell? w _ hx105_1)).trans hx105_1; replace hx105_0 := (cell_far (p := ⟨gb102, 0, none⟩) (by first | (rw [add_block]; exact hn105_0) | (show (Addr.add _ _).block ≠ _; rw [add_block]; exact hn105_0) | exact hn105_0) (.string ((rd_T52 l0 x9_1).f0))).trans hx105_0; replace hx105_1 := (cell_far (p := ⟨gb102, 0, none⟩) (by first | (rw [add_block]; exact hn105_0) | (show (Addr.add _ _).block ≠ _; rw [add_block]; exact hn105_0) | exact hn105_0) (.string ((rd_T52 l0 x9_1).f0))).trans hx105_1; replace hx105_0 := (cell_far (p := ⟨gb102, 1, none⟩) (by first | (rw [add_block]; exact hn105_1) | (show (Addr.add _ _).block ≠ _; rw [add_block]; exact hn105_1) | exact hn105_1) (.string ((rd_T52 l0 x9_1).f1))).trans hx105_0; replace hx105_1 := (cell_far (p := ⟨gb102, 1, none⟩) (by first | (rw [add_block]; exact hn105_1) | (show (Addr.add _ _).block ≠ _; rw [add_block]; exact hn105_1) | exact hn105_1) (.string ((rd_T52 l0 x9_1).f1))).trans hx105_1; (try have hy105_0 := fun (n_ : Nat) => (show ((((w17.drewN n_).setCell ⟨gb102, 0, none⟩ (.string ((rd_T52 l0 x9_1).f0))).setCell ⟨gb102, 1, none⟩ (.string ((rd_T52 l0 x9_1).f1)))).cell? _ = some _ from hx105_0)); (try have hy105_1 := fun (n_ : Nat) => (show ((((w17.drewN n_).setCell ⟨gb102, 0, none⟩ (.string ((rd_T52 l0 x9_1).f0))).setCell ⟨gb102, 1, none⟩ (.string ((rd_T52 l0 x9_1).f1)))).cell? _ = some _ from hx105_1)); clear hn105_0; clear hn105_1; replace p105 := eq_true p105; replace q105 := eq_true q105)))
                        go_ret
                        exact ⟨by first | rfl | (simp [errW_none, errW_some] <;> rfl) | (simp only [← hji11]; first | rfl | (simp [errW_none, errW_some] <;> rfl)) | (simp [*, errW_none, errW_some] <;> rfl), kb HB⟩
                    · rw [if_neg c13] at H
                      exact absurd H (by simp)
                  · rw [if_neg c12] at H
                    exact absurd H (by simp)
                · rw [if_neg c10] at H
                  have c10b0 : decide (0 < x9_1) = false := decide_eq_false c10
                  clear c10
                  have H' := Aside0.mk H
                  clear H
                  have p101 : 0 ≤ (x9_1 : Int) := of_decide_eq_true (by first | (with_reducible assumption) | assumption)
                  have q101 : x9_1 < (l0.length : Int) := of_decide_eq_true (by first | (with_reducible assumption) | assumption)
                  obtain ⟨ad101, e101, hx101_0, hx101_1⟩ := at_T52 HR0.out x9_1 p101 q101
                  cases e101
                  replace hx101_0 := (HB.out.cell (World.block_lt_of_cell? w _ hx101_0)).trans hx101_0
                  replace hx101_1 := (HB.out.cell (World.block_lt_of_cell? w _ hx101_1)).trans hx101_1
                  replace p101 := eq_true p101
                  replace q101 := eq_true q101
                  go_wp2_with (first | ((with_reducible refine gate_dst (N := 6) rfl ?_); refine gX 6 #[.string (⟨#[]⟩ : ByteArray), .string (⟨#[]⟩ : ByteArray)] 52 ?_; intro gb102 hg w19 hbox hb; have BK102 := Aside0.mk (hbox); have GW102 := gw hg (kb HB); have GE102 := gw hg (kb HB); replace HB := kS HB hb; clear hb hbox hg; obtain ⟨⟨hcz20_0, hcz20_1⟩, hfz20_0, hfz20_1⟩ := bf2 BK102) | (go_at_call 29; (with_reducible refine (impl_fileName.calls k1 ((rd_T52 l0 x9_1).f0) true _ A6.out).mono ?_); rintro e w' ⟨rfl, ⟨nd, rfl⟩⟩; (try first | exact ⟨rfl, _, World.drewN_drewN _ _ _⟩ | exact ⟨rfl, _, Eq.trans (World.drewN_drewN _ _ _) (congrArg (World.drewN _) (Nat.add_assoc _ _ _))⟩)) | (go_at_call 30; (with_reducible refine (impl_short.calls ((rd_T52 l0 x9_1).f1) true _ A8.out).mono ?_); rintro e w' ⟨rfl, ⟨nd, rfl⟩⟩; (try first | exact ⟨rfl, _, World.drewN_drewN _ _ _⟩ | exact ⟨rfl, _, Eq.trans (World.drewN_drewN _ _ _) (congrArg (World.drewN _) (Nat.add_assoc _ _ _))⟩)))
                  repeat (go_quiet (first | ((with_reducible refine gate_dst (N := 6) rfl ?_); refine gX 6 #[.string (⟨#[]⟩ : ByteArray), .string (⟨#[]⟩ : ByteArray)] 52 ?_; intro gb102 hg w19 hbox hb; have BK102 := Aside0.mk (hbox); have GW102 := gw hg (kb HB); have GE102 := gw hg (kb HB); replace HB := kS HB hb; clear hb hbox hg; obtain ⟨⟨hcz20_0, hcz20_1⟩, hfz20_0, hfz20_1⟩ := bf2 BK102) | (go_at_call 29; (with_reducible refine (impl_fileName.calls k1 ((rd_T52 l0 x9_1).f0) true _ A6.out).mono ?_); rintro e w' ⟨rfl, ⟨nd, rfl⟩⟩; (try first | exact ⟨rfl, _, World.drewN_drewN _ _ _⟩ | exact ⟨rfl, _, Eq.trans (World.drewN_drewN _ _ _) (congrArg (World.drewN _) (Nat.add_assoc _ _ _))⟩)) | (go_at_call 30; (with_reducible refine (impl_short.calls ((rd_T52 l0 x9_1).f1) true _ A8.out).mono ?_); rintro e w' ⟨rfl, ⟨nd, rfl⟩⟩; (try first | exact ⟨rfl, _, World.drewN_drewN _ _ _⟩ | exact ⟨rfl, _, Eq.trans (World.drewN_drewN _ _ _) (congrArg (World.drewN _) (Nat.add_assoc _ _ _))⟩))); try go_wp2_with (first | ((with_reducible refine gate_dst (N := 6) rfl ?_); refine gX 6 #[.string (⟨#[]⟩ : ByteArray), .string (⟨#[]⟩ : ByteArray)] 52 ?_; intro gb102 hg w19 hbox hb; have BK102 := Aside0.mk (hbox); have GW102 := gw hg (kb HB); have GE102 := gw hg (kb HB); replace HB := kS HB hb; clear hb hbox hg; obtain ⟨⟨hcz20_0, hcz20_1⟩, hfz20_0, hfz20_1⟩ := bf2 BK102) | (go_at_call 29; (with_reducible refine (impl_fileName.calls k1 ((rd_T52 l0 x9_1).f0) true _ A6.out).mono ?_); rintro e w' ⟨rfl, ⟨nd, rfl⟩⟩; (try first | exact ⟨rfl, _, World.drewN_drewN _ _ _⟩ | exact ⟨rfl, _, Eq.trans (World.drewN_drewN _ _ _) (congrArg (World.drewN _) (Nat.add_assoc _ _ _))⟩)) | (go_at_call 30; (with_reducible refine (impl_short.calls ((rd_T52 l0 x9_1).f1) true _ A8.out).mono ?_); rintro e w' ⟨rfl, ⟨nd, rfl⟩⟩; (try first | exact ⟨rfl, _, World.drewN_drewN _ _ _⟩ | exact ⟨rfl, _, Eq.trans (World.drewN_drewN _ _ _) (congrArg (World.drewN _) (Nat.add_assoc _ _ _))⟩))))
                  go_roundg k1
                  case measure => have := HK1.out; omega
                  case rel => exact ⟨(wrap64 (x9_1 + 1)), (by first | rfl | (simp; done) | (simp [*]; done)), H', ⟨by have := HK1.out; omega⟩, ⟨kb HB⟩⟩
              · replace c9 := Bool.eq_false_iff.mpr c9
                subst c9
                have H1 : (some false) = some r := by rw [if_neg (show ¬ (false = true) by decide)] at H; exact H
                clear H
                have H := H1
                clear H1
                obtain rfl := Option.some.inj H
                have p101 : 0 ≤ (x9_1 : Int) := of_decide_eq_true (by first | (with_reducible assumption) | assumption)
                have q101 : x9_1 < (l0.length : Int) := of_decide_eq_true (by first | (with_reducible assumption) | assumption)
                obtain ⟨ad101, e101, hx101_0, hx101_1⟩ := at_T52 HR0.out x9_1 p101 q101
                cases e101
                replace hx101_0 := (HB.out.cell (World.block_lt_of_cell? w _ hx101_0)).trans hx101_0
                replace hx101_1 := (HB.out.cell (World.block_lt_of_cell? w _ hx101_1)).trans hx101_1
                replace p101 := eq_true p101
                replace q101 := eq_true q101
                go_wp2_with (first | ((with_reducible refine gate_dst (N := 6) rfl ?_); refine gX 6 #[.string (⟨#[]⟩ : ByteArray), .string (⟨#[]⟩ : ByteArray)] 52 ?_; intro gb102 hg w21 hbox hb; have BK102 := Aside0.mk (hbox); have GW102 := gw hg (kb HB); have GE102 := gw hg (kb HB); replace HB := kS HB hb; clear hb hbox hg; obtain ⟨⟨hcz22_0, hcz22_1⟩, hfz22_0, hfz22_1⟩ := bf2 BK102) | (go_at_call 29; (with_reducible refine (impl_fileName.calls k1 ((rd_T52 l0 x9_1).f0) true _ A6.out).mono ?_); rintro e w' ⟨rfl, ⟨nd, rfl⟩⟩; (try first | exact ⟨rfl, _, World.drewN_drewN _ _ _⟩ | exact ⟨rfl, _, Eq.trans (World.drewN_drewN _ _ _) (congrArg (World.drewN _) (Nat.add_assoc _ _ _))⟩)) | (go_at_call 30; (with_reducible refine (impl_short.calls ((rd_T52 l0 x9_1).f1) false _ A8.out).mono ?_); rintro e w' ⟨rfl, ⟨nd, rfl⟩⟩; (try first | exact ⟨rfl, _, World.drewN_drewN _ _ _⟩ | exact ⟨rfl, _, Eq.trans (World.drewN_drewN _ _ _) (congrArg (World.drewN _) (Nat.add_assoc _ _ _))⟩)))
                repeat (go_quiet (first | ((with_reducible refine gate_dst (N := 6) rfl ?_); refine gX 6 #[.string (⟨#[]⟩ : ByteArray), .string (⟨#[]⟩ : ByteArray)] 52 ?_; intro gb102 hg w21 hbox hb; have BK102 := Aside0.mk (hbox); have GW102 := gw hg (kb HB); have GE102 := gw hg (kb HB); replace HB := kS HB hb; clear hb hbox hg; obtain ⟨⟨hcz22_0, hcz22_1⟩, hfz22_0, hfz22_1⟩ := bf2 BK102) | (go_at_call 29; (with_reducible refine (impl_fileName.calls k1 ((rd_T52 l0 x9_1).f0) true _ A6.out).mono ?_); rintro e w' ⟨rfl, ⟨nd, rfl⟩⟩; (try first | exact ⟨rfl, _, World.drewN_drewN _ _ _⟩ | exact ⟨rfl, _, Eq.trans (World.drewN_drewN _ _ _) (congrArg (World.drewN _) (Nat.add_assoc _ _ _))⟩)) | (go_at_call 30; (with_reducible refine (impl_short.calls ((rd_T52 l0 x9_1).f1) false _ A8.out).mono ?_); rintro e w' ⟨rfl, ⟨nd, rfl⟩⟩; (try first | exact ⟨rfl, _, World.drewN_drewN _ _ _⟩ | exact ⟨rfl, _, Eq.trans (World.drewN_drewN _ _ _) (congrArg (World.drewN _) (Nat.add_assoc _ _ _))⟩))); try go_wp2_with (first | ((with_reducible refine gate_dst (N := 6) rfl ?_); refine gX 6 #[.string (⟨#[]⟩ : ByteArray), .string (⟨#[]⟩ : ByteArray)] 52 ?_; intro gb102 hg w21 hbox hb; have BK102 := Aside0.mk (hbox); have GW102 := gw hg (kb HB); have GE102 := gw hg (kb HB); replace HB := kS HB hb; clear hb hbox hg; obtain ⟨⟨hcz22_0, hcz22_1⟩, hfz22_0, hfz22_1⟩ := bf2 BK102) | (go_at_call 29; (with_reducible refine (impl_fileName.calls k1 ((rd_T52 l0 x9_1).f0) true _ A6.out).mono ?_); rintro e w' ⟨rfl, ⟨nd, rfl⟩⟩; (try first | exact ⟨rfl, _, World.drewN_drewN _ _ _⟩ | exact ⟨rfl, _, Eq.trans (World.drewN_drewN _ _ _) (congrArg (World.drewN _) (Nat.add_assoc _ _ _))⟩)) | (go_at_call 30; (with_reducible refine (impl_short.calls ((rd_T52 l0 x9_1).f1) false _ A8.out).mono ?_); rintro e w' ⟨rfl, ⟨nd, rfl⟩⟩; (try first | exact ⟨rfl, _, World.drewN_drewN _ _ _⟩ | exact ⟨rfl, _, Eq.trans (World.drewN_drewN _ _ _) (congrArg (World.drewN _) (Nat.add_assoc _ _ _))⟩))))
                go_ret
                exact ⟨by first | rfl | (simp [errW_none, errW_some] <;> rfl) | (simp [*, errW_none, errW_some] <;> rfl), kb HB⟩
            · replace c7 := Bool.eq_false_iff.mpr c7
              subst c7
              have H1 : (some false) = some r := by rw [if_neg (show ¬ (false = true) by decide)] at H; exact H
              clear H
              have H := H1
              clear H1
              obtain rfl := Option.some.inj H
              have p101 : 0 ≤ (x9_1 : Int) := of_decide_eq_true (by first | (with_reducible assumption) | assumption)
              have q101 : x9_1 < (l0.length : Int) := of_decide_eq_true (by first | (with_reducible assumption) | assumption)
              obtain ⟨ad101, e101, hx101_0, hx101_1⟩ := at_T52 HR0.out x9_1 p101 q101
              cases e101
              replace hx101_0 := (HB.out.cell (World.block_lt_of_cell? w _ hx101_0)).trans hx101_0
              replace hx101_1 := (HB.out.cell (World.block_lt_of_cell? w _ hx101_1)).trans hx101_1
              replace p101 := eq_true p101
              replace q101 := eq_true q101
              go_wp2_with (first | ((with_reducible refine gate_dst (N := 6) rfl ?_); refine gX 6 #[.string (⟨#[]⟩ : ByteArray), .string (⟨#[]⟩ : ByteArray)] 52 ?_; intro gb102 hg w23 hbox hb; have BK102 := Aside0.mk (hbox); have GW102 := gw hg (kb HB); have GE102 := gw hg (kb HB); replace HB := kS HB hb; clear hb hbox hg; obtain ⟨⟨hcz24_0, hcz24_1⟩, hfz24_0, hfz24_1⟩ := bf2 BK102) | (go_at_call 29; (with_reducible refine (impl_fileName.calls k1 ((rd_T52 l0 x9_1).f0) false _ A6.out).mono ?_); rintro e w' ⟨rfl, ⟨nd, rfl⟩⟩; (try first | exact ⟨rfl, _, World.drewN_drewN _ _ _⟩ | exact ⟨rfl, _, Eq.trans (World.drewN_drewN _ _ _) (congrArg (World.drewN _) (Nat.add_assoc _ _ _))⟩)))
              repeat (go_quiet (first | ((with_reducible refine gate_dst (N := 6) rfl ?_); refine gX 6 #[.string (⟨#[]⟩ : ByteArray), .string (⟨#[]⟩ : ByteArray)] 52 ?_; intro gb102 hg w23 hbox hb; have BK102 := Aside0.mk (hbox); have GW102 := gw hg (kb HB); have GE102 := gw hg (kb HB); replace HB := kS HB hb; clear hb hbox hg; obtain ⟨⟨hcz24_0, hcz24_1⟩, hfz24_0, hfz24_1⟩ := bf2 BK102) | (go_at_call 29; (with_reducible refine (impl_fileName.calls k1 ((rd_T52 l0 x9_1).f0) false _ A6.out).mono ?_); rintro e w' ⟨rfl, ⟨nd, rfl⟩⟩; (try first | exact ⟨rfl, _, World.drewN_drewN _ _ _⟩ | exact ⟨rfl, _, Eq.trans (World.drewN_drewN _ _ _) (congrArg (World.drewN _) (Nat.add_assoc _ _ _))⟩))); try go_wp2_with (first | ((with_reducible refine gate_dst (N := 6) rfl ?_); refine gX 6 #[.string (⟨#[]⟩ : ByteArray), .string (⟨#[]⟩ : ByteArray)] 52 ?_; intro gb102 hg w23 hbox hb; have BK102 := Aside0.mk (hbox); have GW102 := gw hg (kb HB); have GE102 := gw hg (kb HB); replace HB := kS HB hb; clear hb hbox hg; obtain ⟨⟨hcz24_0, hcz24_1⟩, hfz24_0, hfz24_1⟩ := bf2 BK102) | (go_at_call 29; (with_reducible refine (impl_fileName.calls k1 ((rd_T52 l0 x9_1).f0) false _ A6.out).mono ?_); rintro e w' ⟨rfl, ⟨nd, rfl⟩⟩; (try first | exact ⟨rfl, _, World.drewN_drewN _ _ _⟩ | exact ⟨rfl, _, Eq.trans (World.drewN_drewN _ _ _) (congrArg (World.drewN _) (Nat.add_assoc _ _ _))⟩))))
              go_ret
              exact ⟨by first | rfl | (simp [errW_none, errW_some] <;> rfl) | (simp [*, errW_none, errW_some] <;> rfl), kb HB⟩
          · rw [if_neg c5] at H
            exact absurd H (by simp)
        · rw [if_neg c4] at H
          exact absurd H (by simp)
      · rw [if_neg c3] at H
        have c3b0 : decide (x9_1 < (l0.length : Int)) = false := decide_eq_false c3
        clear c3
        obtain rfl := Option.some.inj H
        go_wp2
        repeat (go_quiet (fail); try go_wp2)
        go_ret
        exact ⟨by first | rfl | (simp [errW_none, errW_some] <;> rfl) | (simp [*, errW_none, errW_some] <;> rfl), kb HB⟩
end Go.Proofs.Ytnffcpajfojajaa.Q
end
section
namespace Go.Proofs.Ytnffcpajfojajaa.Q
open Go.RowKit Go.Proofs.YtnffcpajfojajaaW.PrintWords Go.Proofs.YtnffcpajfojajaaW.PrintLast Go.Proofs.YtnffcpajfojajaaW.PrintMore Go.Proofs.Ytnffcpajfojajaa.Short
attribute [local go_sem] max2_int min2_int max_two min_two max_three min_three max_four min_four   
set_option linter.unusedVariables false
set_option linter.unusedSimpArgs false
def impl_MillValidPlace.f (k : Nat) (l0_0 : List (S52)) : Option (Bool) := (impl_filesOK.f k l0_0 40).bind fun t102 => (some t102)
theorem impl_MillValidPlace.mono : ∀ a0 k, LeO (impl_MillValidPlace.f k a0) (impl_MillValidPlace.f (k + 1) a0) := by
  intro a0 k
  unfold impl_MillValidPlace.f
  repeat' first
      | (with_reducible exact impl_filesOK.mono _ _ _)
      | (with_reducible exact LeO.refl _)
      | (with_reducible exact LeO.none _)
      | (with_reducible refine LeO.ite ?_ ?_)
      | (with_reducible refine LeO.bind ?_ (fun _ => ?_))
      | exact impl_filesOK.mono _ _ _
      | exact LeO.none _
      | refine LeO.ite ?_ ?_
      | refine LeO.bind ?_ (fun _ => ?_)
set_option maxHeartbeats 8000000 in
set_option maxRecDepth 100000 in
theorem impl_MillValidPlace.calls (k : Nat) (A0_0 : Option Addr) (c0_0 : Nat) (l0_0 : List (S52)) (r : Bool) (w : World) (hr0_0 : Kd.C k52 w A0_0 l0_0.length l0_0) (hc0_0 : l0_0.length ≤ c0_0) (h : impl_MillValidPlace.f k l0_0 = some r) :
    Calls Try.prog 26 #[.agg #[.slice A0_0 l0_0.length c0_0]] w fun e w' => e = .returned (.bool r) ∧ Below w.heap.size w w' := by
  have hu29 := Try.underlying29
  have HR0_0 := Aside0.mk hr0_0
  have HC0_0 := Aside0.mk hc0_0
  clear hr0_0 hc0_0
  have HB := Aside0.mk (Below.refl w.heap.size w)
  have H : ((impl_filesOK.f k l0_0 40).bind fun t102 => (some t102)) = some r := h
  clear h
  replace H := Option.bind_eq_some_iff.mp H
  obtain ⟨t102, A20, H⟩ := H
  replace H : (some t102) = some r := H
  have A2 := Aside0.mk A20
  clear A20
  obtain rfl := Option.some.inj H
  go_enter Try.func26, Try.ntmps26
  go_wp2_with (first | ((with_reducible refine gate_dst (N := 1) rfl ?_); refine gX 1 #[.slice A0_0 l0_0.length c0_0] 29 ?_; intro gb101 hg w3 hbox hb; have BK101 := Aside0.mk (hbox); have GW101 := gw hg (kb HB); have GE101 := gw hg (kb HB); replace HB := kS HB hb; clear hb hbox hg; obtain ⟨hcz4_0, hfz4_0⟩ := bf1 BK101) | ((with_reducible refine gate_callee (f := 49) rfl ?_); refine gL (some 5) Try.func49 #[.slice A0_0 l0_0.length c0_0, .int .i64 40] (impl_filesOK.calls k _ _ l0_0 40 t102 _ ?side1 ?side2 A2.out) ?_; (case side1 => repeat (first | exact (Kd.C_below HR0_0.out HB.out) | (with_reducible refine Kd.C_alloc ?_ _) | (with_reducible refine Kd.C_drewN ?_ _) | (with_reducible refine Kd.C_drew ?_))); (case side2 => exact HC0_0.out); intro w5 hb; replace BK101 := kB BK101 hb; replace HB := kS HB hb))
  go_ret
  exact ⟨by first | rfl | (simp [errW_none, errW_some] <;> rfl) | (simp [*, errW_none, errW_some] <;> rfl), kb HB⟩
end Go.Proofs.Ytnffcpajfojajaa.Q
end
section
namespace Go.Proofs.Ytnffcpajfojajaa.Q
open Go.RowKit Go.Proofs.YtnffcpajfojajaaW.PrintWords Go.Proofs.YtnffcpajfojajaaW.PrintLast Go.Proofs.YtnffcpajfojajaaW.PrintMore Go.Proofs.Ytnffcpajfojajaa.Short
set_option linter.unusedVariables false
set_option linter.unusedSimpArgs false
def IdxPost (r : Bool) (w : World) (e : Ending) (w' : World) : Prop := ∃ n : Int, e = .returned (.int .i64 n) ∧ decide (0 ≤ n) = r ∧ Below w.heap.size w w'
def layBad (k : Nat) (x : S52) : Option Bool := (impl_fileName.f k x.f0).bind fun t => some (!t || !(decide ((x.f1.size : Int) ≤ 3000)))
theorem layBad_mono (k : Nat) (x : S52) : LeO (layBad k x) (layBad (k + 1) x) := LeO.bind (impl_fileName.mono x.f0 k) (fun _ => LeO.refl _)
set_option maxHeartbeats 4000000 in
set_option maxRecDepth 100000 in
theorem layBad_calls (k : Nat) (x : S52) (b : Bool) (W : World) (h : layBad k x = some b) :
    Calls Try.prog 28 #[.agg #[.string x.f0, .string x.f1]] W fun e w' => e = .returned (.bool b) ∧ Below W.heap.size W w' := by
  unfold layBad at h
  obtain ⟨t, ht, h2⟩ := Option.bind_eq_some_iff.mp h
  clear h
  obtain rfl := Option.some.inj h2
  have A1 := Aside0.mk ht
  have A2 : Aside0 (impl_short.f x.f1 = some (decide ((x.f1.size : Int) ≤ 3000))) := ⟨rfl⟩
  have HB := Aside0.mk (Below.refl W.heap.size W)
  clear ht h2
  obtain ⟨x0, x1⟩ := x
  simp only at A1 A2 ⊢
  go_enter Try.func28, Try.ntmps28
  cases t with
  | false =>
    go_wp2_with (first | ((with_reducible refine gate_dst (N := 1) rfl ?_); refine gX 1 #[.string x0, .string x1] 52 ?_; intro gb101 hg w3 hbox hb; have BK101 := Aside0.mk (hbox); replace HB := kS HB hb; clear hb hbox hg; obtain ⟨⟨hcz_0, hcz_1⟩, hfz_0, hfz_1⟩ := bf2 BK101) | (go_at_call 29; (with_reducible refine (impl_fileName.calls k x0 false _ A1.out).mono ?_); rintro e w' ⟨rfl, ⟨nd, rfl⟩⟩))
    go_ret
    exact ⟨by simp, kb HB⟩
  | true =>
    go_wp2_with (first | ((with_reducible refine gate_dst (N := 1) rfl ?_); refine gX 1 #[.string x0, .string x1] 52 ?_; intro gb101 hg w3 hbox hb; have BK101 := Aside0.mk (hbox); replace HB := kS HB hb; clear hb hbox hg; obtain ⟨⟨hcz_0, hcz_1⟩, hfz_0, hfz_1⟩ := bf2 BK101) | (go_at_call 29; (with_reducible refine (impl_fileName.calls k x0 true _ A1.out).mono ?_); rintro e w' ⟨rfl, ⟨nd, rfl⟩⟩) | (go_at_call 30; (with_reducible refine (impl_short.calls x1 _ _ A2.out).mono ?_); rintro e w' ⟨rfl, ⟨nd, rfl⟩⟩))
    go_ret
    exact ⟨by simp, kb HB⟩
set_option maxHeartbeats 2000000 in
set_option maxRecDepth 100000 in
theorem IndexFunc_file (G : Nat) (lb : Array Value) (eg : ∀ args w, (callFunc G args).run Try.prog w = .ok (.enter G args) w) (p : S52 → Option Bool) (A : Option Addr) (c : Nat) (l : List S52) (r : Bool) (w : World) (hr : Kd.C k52 w A l.length l) (hc : l.length ≤ c)
    (hp : ∀ (x : S52) b W, p x = some b → Below w.heap.size w W → Calls Try.prog G (#[.agg #[.string x.f0, .string x.f1]] ++ lb) W fun e w' => e = .returned (.bool b) ∧ Below W.heap.size W w') (h : anyO p l = some r) :
    Calls Try.prog 50 #[.slice A l.length c, .func (.func G) #[] lb] w (IdxPost r w) := by
  have HP := Aside0.mk hp
  have HR := Aside0.mk hr
  have HO := Aside0.mk h
  have hmax : Aside0 (l.length ≤ 9223372036854775807) := ⟨hr.2.1⟩
  have HB := Aside0.mk (Below.refl w.heap.size w)
  clear hp hr h
  go_enter Try.func50, Try.ntmps50
  go_wp2
  go_loopg [5, 8] l.length (fun gg _ s8 wr => ∃ kk : Nat, kk ≤ l.length ∧ l.length - kk ≤ gg ∧ s8 = .int .i64 kk ∧ Aside0 (Below w.heap.size w wr) ∧ Aside0 (anyO p (l.drop kk) = some r))
  case atStart => exact ⟨0, Nat.zero_le _, by omega, rfl, HB, ⟨by simpa using HO.out⟩⟩
  case round =>
    obtain ⟨kk, hkk, hg, rfl, BW, HA⟩ := hrel
    have hm := hmax.out
    by_cases hlt : kk < l.length
    · have hltz : (kk : Int) < (l.length : Int) := by omega
      obtain ⟨ad, e, hx0, hx1⟩ := at_T52 (Kd.C_below HR.out BW.out) (kk : Int) (by omega) hltz
      subst e
      have hd : l.drop kk = rd_T52 l (kk : Int) :: l.drop (kk + 1) := by
        rw [List.drop_eq_getElem_cons hlt]
        congr 1
        unfold rd_T52
        rw [Int.toNat_natCast, List.getD_eq_getElem?_getD, List.getElem?_eq_getElem hlt]; rfl
      have H := HA.out
      rw [hd] at H
      simp only [anyO] at H
      obtain ⟨t, ht, H⟩ := Option.bind_eq_some_iff.mp H
      generalize rd_T52 l (kk : Int) = y at hx0 hx1 ht hd
      have hcall := HP.out y t wr ht BW.out
      clear HA hd ht
      simp only [Int.toNat_natCast] at hx0 hx1
      cases t with
      | true =>
        have hr : r = true := by simpa using H.symm
        have HRR := Aside0.mk hr
        clear H hr
        go_wp2_with (go_at_fn G; refine hcall.mono ?_; rintro e w' ⟨rfl, hb'⟩)
        go_ret
        exact ⟨(kk : Int), rfl, by rw [HRR.out]; simp, below_step BW.out hb'⟩
      | false =>
        have H2 := Aside0.mk H
        clear H
        go_wp2_with (go_at_fn G; refine hcall.mono ?_; rintro e w' ⟨rfl, hb'⟩)
        go_roundg (l.length - (kk + 1))
        case measure => omega
        case rel => exact ⟨kk + 1, by omega, by omega, by go_num, ⟨below_step BW.out hb'⟩, ⟨by simpa using H2.out⟩⟩
    · have hltz : ¬ (kk : Int) < (l.length : Int) := by omega
      have H := HA.out
      rw [List.drop_eq_nil_of_le (by omega)] at H
      have HRR : Aside0 (r = false) := ⟨by simpa [anyO] using H.symm⟩
      clear H HA
      go_wp2
      go_ret
      exact ⟨-1, rfl, by rw [HRR.out]; decide, BW.out⟩
set_option maxHeartbeats 2000000 in
theorem contains_layBad (k : Nat) (A : Option Addr) (c : Nat) (l : List S52) (r : Bool) (w : World) (hr : Kd.C k52 w A l.length l) (hc : l.length ≤ c) (h : anyO (layBad k) l = some r) :
    Calls Try.prog 27 #[.slice A l.length c, .func (.func 28) #[] #[]] w fun e w' => e = .returned (.bool r) ∧ Below w.heap.size w w' := by
  have HI := Aside0.mk (IndexFunc_file 28 #[] (enters_of Try.func28 (by kernel_rfl) rfl) (layBad k) A c l r w hr hc (fun x b W hx _ => layBad_calls k x b W hx) h)
  clear hr h hc
  go_enter Try.func27, Try.ntmps27
  go_wp2_with (go_at_call 50; refine HI.out.mono ?_; rintro e w' ⟨n, rfl, hn, hb⟩)
  go_ret
  exact ⟨by first | rfl | rw [hn], hb⟩
end Go.Proofs.Ytnffcpajfojajaa.Q
end
section
namespace Go.Proofs.Ytnffcpajfojajaa.Ord
open Go.RowKit Go.Proofs.Ytnffcpajfojajaa.Mine
theorem less_trans : ∀ a b c : List UInt8, Op.bytesLess a b = true → Op.bytesLess b c = true → Op.bytesLess a c = true
  | _, [], _, h, _ => by simp [Op.bytesLess] at h
  | _, _ :: _, [], _, h => by simp [Op.bytesLess] at h
  | [], _ :: _, _ :: _, _, _ => by simp [Op.bytesLess]
  | a :: x, b :: y, c :: z, h, k => by
    simp only [Op.bytesLess, Bool.or_eq_true, Bool.and_eq_true, decide_eq_true_eq, beq_iff_eq] at h k ⊢
    rcases h with h | ⟨rfl, h⟩
    · rcases k with k | ⟨rfl, k⟩
      · exact .inl (UInt8.lt_trans h k)
      · exact .inl h
    · rcases k with k | ⟨rfl, k⟩
      · exact .inl k
      · exact .inr ⟨rfl, less_trans x y z h k⟩
end Go.Proofs.Ytnffcpajfojajaa.Ord
end
section
namespace Go.Proofs.Ytnffcpajfojajaa.Q
open Go.RowKit Go.Proofs.YtnffcpajfojajaaW.PrintWords
set_option linter.unusedVariables false
set_option linter.unusedSimpArgs false
theorem before_less : ∀ a b : List UInt8, bytesBefore a b = Op.bytesLess a b
  | [], [] => rfl
  | [], _ :: _ => rfl
  | _ :: _, [] => rfl
  | a :: r, b :: s => by simp only [bytesBefore, Op.bytesLess, before_less r s]
abbrev nameLt (a b : S52) : Prop := Op.bytesLess a.f0.toList b.f0.toList = true
def AscF (l : List S52) : Prop := l.Pairwise nameLt
def insF (x : S52) : List S52 → List S52
  | [] => [x]
  | y :: r => if y.f0.toList = x.f0.toList then x :: r else if Op.bytesLess x.f0.toList y.f0.toList = true then x :: y :: r else y :: insF x r
theorem less_tri (a b : List UInt8) (h : ¬ a = b) (k : ¬ Op.bytesLess b a = true) : Op.bytesLess a b = true := by
  have h1 := Mine.less_leq a b
  cases hb : Op.bytesLess b a with
  | true => exact absurd hb k
  | false =>
    rw [hb] at h1
    simp only [Bool.not_false, Bool.or_eq_true, beq_iff_eq] at h1
    exact h1.resolve_right h
theorem less_irr (a : List UInt8) : ¬ Op.bytesLess a a = true := by rw [Mine.less_irrefl]; simp
theorem insF_mem (x : S52) : ∀ (l : List S52) (z : S52), z ∈ insF x l → z = x ∨ z ∈ l
  | [], z, h => by simpa [insF] using h
  | y :: r, z, h => by
    simp only [insF] at h
    split at h
    · rcases List.mem_cons.1 h with h | h
      · exact .inl h
      · exact .inr (List.mem_cons_of_mem _ h)
    · split at h
      · rcases List.mem_cons.1 h with h | h
        · exact .inl h
        · exact .inr h
      · rcases List.mem_cons.1 h with h | h
        · exact .inr (h ▸ List.mem_cons_self)
        · rcases insF_mem x r z h with h | h
          · exact .inl h
          · exact .inr (List.mem_cons_of_mem _ h)
theorem insF_asc (x : S52) : ∀ l : List S52, AscF l → AscF (insF x l)
  | [], _ => by simp [insF, AscF]
  | y :: r, h => by
    obtain ⟨h1, h2⟩ := List.pairwise_cons.1 h
    simp only [insF]
    split
    · rename_i e
      refine List.pairwise_cons.2 ⟨fun z hz => ?_, h2⟩
      have := h1 z hz
      unfold nameLt at this ⊢
      rw [← e]; exact this
    · rename_i e
      split
      · rename_i lt
        refine List.pairwise_cons.2 ⟨fun z hz => ?_, h⟩
        rcases List.mem_cons.1 hz with rfl | hz
        · exact lt
        · exact Ord.less_trans _ _ _ lt (h1 z hz)
      · rename_i lt
        refine List.pairwise_cons.2 ⟨fun z hz => ?_, insF_asc x r h2⟩
        rcases insF_mem x r z hz with rfl | hz
        · exact less_tri _ _ e lt
        · exact h1 z hz
variable {H : Type}
def ent (x : S52) : Lit × DataW H := (.string x.f0.data.toList, .lit (.string x.f1.data.toList))
def mapOf (l : List S52) : DataW H := .map (l.map ent)
theorem keep_less (x : S52) (l : List S52) (h : ∀ y ∈ l, nameLt x y) : (l.map (ent (H := H))).filter (ChangeMaps.notKey (.string x.f0.data.toList)) = l.map ent := by
  rw [List.filter_eq_self]
  intro p hp
  obtain ⟨y, hy, rfl⟩ := List.mem_map.1 hp
  have := h y hy
  unfold ChangeMaps.notKey ent Lit.sameKey
  simp only [Bool.not_eq_true', beq_eq_false_iff_ne]
  intro e
  unfold nameLt at this
  rw [ByteArray.toList_eq, ByteArray.toList_eq, e] at this
  exact less_irr _ this
theorem put_map (x : S52) : ∀ l : List S52, AscF l → (mapOf (H := H) l).put (.string x.f0.data.toList) (.lit (.string x.f1.data.toList)) = mapOf (insF x l) := by
  intro l h
  unfold mapOf
  rw [DataW.put_eq]
  congr 1
  unfold ChangeMaps.putKey
  induction l with
  | nil => rfl
  | cons y r ih =>
    obtain ⟨h1, h2⟩ := List.pairwise_cons.1 h
    simp only [insF, List.map_cons]
    by_cases e : y.f0.toList = x.f0.toList
    · rw [if_pos e]
      have hx : ∀ z ∈ r, nameLt x z := fun z hz => by have := h1 z hz; unfold nameLt at this ⊢; rw [← e]; exact this
      have hk : ChangeMaps.notKey (.string x.f0.data.toList) (ent (H := H) y) = false := by
        unfold ChangeMaps.notKey ent Lit.sameKey
        rw [ByteArray.toList_eq, ByteArray.toList_eq] at e
        simp [e]
      rw [List.filter_cons_of_neg (by rw [hk]; simp), keep_less x r hx]
      cases r with
      | nil => rfl
      | cons z q =>
        have hz := hx z List.mem_cons_self
        unfold nameLt at hz
        rw [ByteArray.toList_eq, ByteArray.toList_eq] at hz
        simp only [List.map_cons, DataW.insert]
        rw [if_pos (by show bytesBefore _ _ = true; rw [before_less]; exact hz)]
        rfl
    · rw [if_neg e]
      have hk : ChangeMaps.notKey (.string x.f0.data.toList) (ent (H := H) y) = true := by
        unfold ChangeMaps.notKey ent Lit.sameKey
        rw [ByteArray.toList_eq, ByteArray.toList_eq] at e
        simp only [Bool.not_eq_true', beq_eq_false_iff_ne]
        exact e
      rw [List.filter_cons_of_pos hk]
      by_cases lt : Op.bytesLess x.f0.toList y.f0.toList = true
      · rw [if_pos lt]
        have hx : ∀ z ∈ r, nameLt x z := fun z hz => Ord.less_trans _ _ _ lt (h1 z hz)
        rw [keep_less x r hx]
        rw [ByteArray.toList_eq, ByteArray.toList_eq] at lt
        simp only [DataW.insert]
        rw [if_pos (by show bytesBefore _ _ = true; rw [before_less]; exact lt)]
        rfl
      · rw [if_neg lt]
        rw [ByteArray.toList_eq, ByteArray.toList_eq] at lt
        simp only [DataW.insert]
        rw [if_neg (by show ¬ bytesBefore _ _ = true; rw [before_less]; exact lt), ih h2]
        rfl
theorem size_map (l : List S52) : Maps.size (mapOf (H := H) l) = l.length := by
  unfold mapOf; rw [Maps.size_eq, List.length_map]
theorem keys_map (l : List S52) : strKeys (mapOf (H := H) l) = l.map fun x => x.f0.data.toList := by
  unfold mapOf strKeys
  simp only [List.map_map]
  rfl
theorem at_map (x : S52) (z : DataW H) : ∀ l : List S52, AscF l → x ∈ l → (mapOf (H := H) l).atKey (.string x.f0.data.toList) z = .lit (.string x.f1.data.toList)
  | [], _, h => by simp at h
  | y :: r, h, hx => by
    obtain ⟨h1, h2⟩ := List.pairwise_cons.1 h
    have ih := at_map x z r h2
    unfold mapOf DataW.atKey at ih ⊢
    simp only [List.map_cons, List.find?_cons] at ih ⊢
    rcases List.mem_cons.1 hx with rfl | hx
    · simp [ent, Lit.sameKey]
    · have hk : ((ent (H := H) y).1.sameKey (.string x.f0.data.toList)) = false := by
        have := h1 x hx
        unfold nameLt at this
        unfold ent Lit.sameKey
        simp only [beq_eq_false_iff_ne]
        intro e
        rw [ByteArray.toList_eq, ByteArray.toList_eq, e] at this
        exact less_irr _ this
      rw [hk]
      exact ih hx
def layF (l : List S52) (fs : List S52) : List S52 := fs.foldl (fun acc x => insF x acc) l
theorem layF_asc : ∀ (fs l : List S52), AscF l → AscF (layF l fs)
  | [], _, h => h
  | x :: r, l, h => layF_asc r _ (insF_asc x l h)
theorem insF_len (x : S52) : ∀ l : List S52, l.length ≤ (insF x l).length ∧ (insF x l).length ≤ l.length + 1
  | [] => by simp [insF]
  | y :: r => by
    have := insF_len x r
    simp only [insF]
    split
    · simp
    · split <;> simp <;> omega
theorem insF_last (x : S52) : ∀ l : List S52, (∀ y ∈ l, nameLt y x) → insF x l = l ++ [x]
  | [], _ => rfl
  | y :: r, h => by
    have hy := h y List.mem_cons_self
    unfold nameLt at hy
    simp only [insF]
    rw [if_neg (fun e => by rw [e] at hy; exact less_irr _ hy), if_neg (fun e => less_irr _ (Ord.less_trans _ _ _ e hy)), insF_last x r (fun z hz => h z (List.mem_cons_of_mem _ hz))]
    rfl
theorem layF_self : ∀ (fs l : List S52), AscF (l ++ fs) → layF l fs = l ++ fs
  | [], l, _ => by simp [layF]
  | x :: r, l, h => by
    have h2 : AscF ((l ++ [x]) ++ r) := by simpa using h
    have hl : ∀ y ∈ l, nameLt y x := fun y hy => (List.pairwise_append.1 h).2.2 y hy x List.mem_cons_self
    have e : layF l (x :: r) = layF (insF x l) r := rfl
    rw [e, insF_last x l hl, layF_self r _ h2]
    simp
theorem layF_append (l fs gs : List S52) : layF l (fs ++ gs) = layF (layF l fs) gs := by simp [layF, List.foldl_append]
end Go.Proofs.Ytnffcpajfojajaa.Q
end
section
namespace Go.Proofs
open Go.Shelf
def Try.lays119_ren : Go.Shelf.Ren := ⟨fun | 119 => 100 | n => n, fun | 21 => 21 | 4 => 4 | n => n, fun | n => n⟩
def Try.lays128_ren : Go.Shelf.Ren := ⟨fun | 128 => 78 | n => n, fun | 51 => 98 | 3 => 3 | 4 => 4 | 46 => 83 | 5 => 5 | 9 => 9 | n => n, fun | n => n⟩
def Try.lays125_ren : Go.Shelf.Ren := ⟨fun | 125 => 58 | 128 => 78 | 129 => 79 | n => n, fun | 46 => 83 | 3 => 3 | 51 => 98 | 53 => 100 | 4 => 4 | 5 => 5 | 9 => 9 | n => n, fun | n => n⟩
def Try.lays213_ren : Go.Shelf.Ren := ⟨fun | 213 => 59 | 265 => 80 | n => n, fun | 9 => 9 | 3 => 3 | n => n, fun | n => n⟩
open Go.RowKit in
def Try.lays106_ren : Go.Shelf.Ren := ⟨fun | 106 => 40 | 213 => 59 | 265 => 80 | n => n, fun | 9 => 9 | 3 => 3 | n => n, fun | n => n⟩
open Go.RowKit in
def Try.lays137_ren : Go.Shelf.Ren := ⟨fun | 137 => 99 | 217 => 108 | 266 => 110 | n => n, fun | 9 => 9 | 5 => 5 | 3 => 3 | n => n, fun | n => n⟩
open Go.RowKit in
def Try.lays211_ren : Go.Shelf.Ren := ⟨fun | 211 => 66 | 207 => 83 | n => n, fun | 9 => 9 | 4 => 4 | 3 => 3 | n => n, fun | n => n⟩
open Go.RowKit in
def Try.lays104_ren : Go.Shelf.Ren := ⟨fun | 104 => 55 | 211 => 66 | 207 => 83 | n => n, fun | 9 => 9 | 4 => 4 | 24 => 62 | 3 => 3 | n => n, fun | n => n⟩
open Go.RowKit in
def Try.lays129_ren : Go.Shelf.Ren := ⟨fun | 129 => 79 | n => n, fun | 53 => 100 | 3 => 3 | 4 => 4 | 46 => 83 | 5 => 5 | 9 => 9 | n => n, fun | n => n⟩
def Try.lays217_ren : Go.Shelf.Ren := ⟨fun | 217 => 108 | 266 => 110 | n => n, fun | 9 => 9 | 5 => 5 | 3 => 3 | n => n, fun | n => n⟩
open Go.RowKit Go.Lib in
def Try.lays224_ren : Go.Shelf.Ren := ⟨fun | 224 => 101 | n => n, fun | 3 => 3 | n => n, fun | n => n⟩
open Go.RowKit Go.Lib in
def Try.lays190_ren : Go.Shelf.Ren := ⟨fun | 190 => 62 | 125 => 58 | 258 => 82 | 128 => 78 | 129 => 79 | 302 => 90 | 303 => 91 | 304 => 92 | 305 => 93 | 306 => 94 | 307 => 95 | 308 => 96 | 309 => 97 | 310 => 98 | 333 => 104 | 329 => 86 | 330 => 87 | 334 => 105 | 335 => 106 | 336 => 107 | 344 => 109 | n => n, fun | 31 => 40 | 9 => 9 | 3 => 3 | 46 => 83 | 0 => 0 | 51 => 98 | 53 => 100 | 4 => 4 | 183 => 91 | 182 => 90 | 131 => 95 | 5 => 5 | 218 => 105 | 222 => 109 | 228 => 119 | 229 => 120 | n => n, fun | n => n⟩
theorem Try.lays190 : Go.Proofs.Lays.n190 Try.prog Try.lays190_ren := {
  mixed := by kernel_rfl
  f125 := Try.func58.trans (congrArg some (by kernel_rfl))
  f128 := Try.func78.trans (congrArg some (by kernel_rfl))
  f129 := Try.func79.trans (congrArg some (by kernel_rfl))
  f190 := Try.func62.trans (congrArg some (by kernel_rfl))
  f258 := Try.func82.trans (congrArg some (by kernel_rfl))
  f302 := Try.func90.trans (congrArg some (by kernel_rfl))
  f303 := Try.func91.trans (congrArg some (by kernel_rfl))
  f304 := Try.func92.trans (congrArg some (by kernel_rfl))
  f305 := Try.func93.trans (congrArg some (by kernel_rfl))
  f306 := Try.func94.trans (congrArg some (by kernel_rfl))
  f307 := Try.func95.trans (congrArg some (by kernel_rfl))
  f308 := Try.func96.trans (congrArg some (by kernel_rfl))
  f309 := Try.func97.trans (congrArg some (by kernel_rfl))
  f310 := Try.func98.trans (congrArg some (by kernel_rfl))
  f329 := Try.func86.trans (congrArg some (by kernel_rfl))
  f330 := Try.func87.trans (congrArg some (by kernel_rfl))
  f333 := Try.func104.trans (congrArg some (by kernel_rfl))
  f334 := Try.func105.trans (congrArg some (by kernel_rfl))
  f335 := Try.func106.trans (congrArg some (by kernel_rfl))
  f336 := Try.func107.trans (congrArg some (by kernel_rfl))
  f344 := Try.func109.trans (congrArg some (by kernel_rfl))
  t0 := Try.underlying0
  a0 := Try.isAgg0
  z0 := Try.sizeOf0
  v0 := Try.zeroValue0
  t3 := Try.underlying3
  a3 := Try.isAgg3
  z3 := Try.sizeOf3
  v3 := Try.zeroValue3
  t4 := Try.underlying4
  a4 := Try.isAgg4
  z4 := Try.sizeOf4
  v4 := Try.zeroValue4
  t5 := Try.underlying5
  a5 := Try.isAgg5
  z5 := Try.sizeOf5
  v5 := Try.zeroValue5
  t9 := Try.underlying9
  a9 := Try.isAgg9
  z9 := Try.sizeOf9
  v9 := Try.zeroValue9
  t31 := Try.underlying40
  a31 := Try.isAgg40
  z31 := Try.sizeOf40
  v31 := Try.zeroValue40
  t46 := Try.underlying83
  a46 := Try.isAgg83
  z46 := Try.sizeOf83
  v46 := Try.zeroValue83
  t51 := Try.underlying98
  a51 := Try.isAgg98
  z51 := Try.sizeOf98
  v51 := Try.zeroValue98
  t53 := Try.underlying100
  a53 := Try.isAgg100
  z53 := Try.sizeOf100
  v53 := Try.zeroValue100
  t131 := Try.underlying95
  a131 := Try.isAgg95
  z131 := Try.sizeOf95
  v131 := Try.zeroValue95
  t182 := Try.underlying90
  a182 := Try.isAgg90
  z182 := Try.sizeOf90
  v182 := Try.zeroValue90
  t183 := Try.underlying91
  a183 := Try.isAgg91
  z183 := Try.sizeOf91
  v183 := Try.zeroValue91
  t218 := Try.underlying105
  a218 := Try.isAgg105
  z218 := Try.sizeOf105
  v218 := Try.zeroValue105
  t222 := Try.underlying109
  a222 := Try.isAgg109
  z222 := Try.sizeOf109
  v222 := Try.zeroValue109
  t228 := Try.underlying119
  a228 := Try.isAgg119
  z228 := Try.sizeOf119
  v228 := Try.zeroValue119
  t229 := Try.underlying120
  a229 := Try.isAgg120
  z229 := Try.sizeOf120
  v229 := Try.zeroValue120 }
open Go.Sort Go.RowKit in
theorem Try.slices_Sort_string (blk off cap : Nat) (ss : List (List UInt8)) (w : World) (hH : Holds encStr w blk off ss.toArray) (hblk : blk < w.heap.size) (hsz : ss.length < 4611686018427387904) :
    Calls Try.prog 62 #[.slice (some ⟨blk, off, none⟩) ss.length cap] w fun e w' =>
      e = .returned (.tuple #[]) ∧ ∃ n os, w' = grow (putRow encStr (Sort.ahead w n) blk off (ss.mergeSort fun x y => decide (x ≤ y)).toArray) os := Any.slices_Sort_string Try.lays190 blk off cap ss w hH hblk hsz
def Try.lays207_ren : Go.Shelf.Ren := ⟨fun | 207 => 83 | n => n, fun | 9 => 9 | 4 => 4 | 3 => 3 | n => n, fun | n => n⟩
open Go.RowKit Go.Lib in
def Try.lays152_ren : Go.Shelf.Ren := ⟨fun | 152 => 84 | 137 => 99 | 119 => 100 | 224 => 101 | 225 => 102 | 217 => 108 | 266 => 110 | n => n, fun | 9 => 9 | 21 => 21 | 3 => 3 | 4 => 4 | 5 => 5 | 0 => 0 | 46 => 83 | n => n, fun | n => n⟩
def Try.lays151_ren : Go.Shelf.Ren := ⟨fun | 151 => 69 | 152 => 84 | 137 => 99 | 119 => 100 | 224 => 101 | 225 => 102 | 217 => 108 | 266 => 110 | n => n, fun | 9 => 9 | 21 => 21 | 4 => 4 | 3 => 3 | 5 => 5 | 0 => 0 | 46 => 83 | n => n, fun | n => n⟩
open Go.RowKit Go.Sort in
theorem Try.slices_Sort_string_none (p : Option Addr) (cap : Nat) (w : World) :
    Calls Try.prog 62 #[.slice p 0 cap] w fun e w' => e = .returned (.tuple #[]) ∧ w' = w := Any.slices_Sort_string_none Try.lays190 p cap w
def Try.keysA_ren : Go.Shelf.Ren := ⟨fun | 7 => 53 | 10 => 63 | n => n, fun | 23 => 57 | 26 => 9 | 3 => 9 | 28 => 77 | 0 => 0 | 27 => 76 | 33 => 51 | 4 => 4 | n => n, fun | n => n⟩
theorem Try.keysA : Go.Proofs.SlLaysZ.n7 Try.prog Try.keysA_ren := {
  mixed := by kernel_rfl
  f7 := ⟨Try.f53.name, by decide, Try.func53.trans (congrArg some (by kernel_rfl))⟩
  f10 := ⟨Try.f63.name, by decide, Try.func63.trans (congrArg some (by kernel_rfl))⟩
  t0 := Try.underlying0
  a0 := Try.isAgg0
  z0 := Try.sizeOf0
  v0 := Try.zeroValue0
  t4 := Try.underlying4
  a4 := Try.isAgg4
  z4 := Try.sizeOf4
  v4 := Try.zeroValue4
  t23 := Try.underlying57
  a23 := Try.isAgg57
  z23 := Try.sizeOf57
  v23 := Try.zeroValue57
  t26 := Try.underlying9
  a26 := Try.isAgg9
  z26 := Try.sizeOf9
  v26 := Try.zeroValue9
  t27 := Try.underlying76
  a27 := Try.isAgg76
  z27 := Try.sizeOf76
  v27 := Try.zeroValue76
  t28 := Try.underlying77
  a28 := Try.isAgg77
  z28 := Try.sizeOf77
  v28 := Try.zeroValue77
  t33 := Try.underlying51
  a33 := Try.isAgg51
  z33 := Try.sizeOf51
  v33 := Try.zeroValue51 }
def Try.sortedA_ren : Go.Shelf.Ren := ⟨fun | 6 => 52 | 8 => 61 | 9 => 62 | 11 => 81 | 13 => 58 | 12 => 82 | 23 => 78 | 24 => 79 | 14 => 90 | 15 => 91 | 16 => 92 | 17 => 93 | 18 => 94 | 19 => 95 | 20 => 96 | 21 => 97 | 22 => 98 | 25 => 104 | 26 => 86 | 27 => 87 | 28 => 105 | 29 => 106 | 30 => 107 | 31 => 109 | n => n, fun | 26 => 9 | 28 => 77 | 24 => 40 | 0 => 0 | 3 => 3 | 37 => 83 | 48 => 98 | 50 => 100 | 4 => 4 | 40 => 91 | 39 => 90 | 45 => 95 | 5 => 5 | 9 => 9 | 51 => 105 | 55 => 109 | 57 => 119 | 58 => 120 | 33 => 51 | n => n, fun | n => n⟩
theorem Try.sortedA : Go.Proofs.SlLaysZ.n6 Try.prog Try.sortedA_ren := {
  mixed := by kernel_rfl
  f6 := ⟨Try.f52.name, by decide, Try.func52.trans (congrArg some (by kernel_rfl))⟩
  f8 := ⟨Try.f61.name, by decide, Try.func61.trans (congrArg some (by kernel_rfl))⟩
  f11 := ⟨Try.f81.name, by decide, Try.func81.trans (congrArg some (by kernel_rfl))⟩
  t0 := Try.underlying0
  a0 := Try.isAgg0
  z0 := Try.sizeOf0
  v0 := Try.zeroValue0
  t24 := Try.underlying40
  a24 := Try.isAgg40
  z24 := Try.sizeOf40
  v24 := Try.zeroValue40
  t26 := Try.underlying9
  a26 := Try.isAgg9
  z26 := Try.sizeOf9
  v26 := Try.zeroValue9
  t28 := Try.underlying77
  a28 := Try.isAgg77
  z28 := Try.sizeOf77
  v28 := Try.zeroValue77
  i26 := by kernel_rfl }
def Try.sortA_ren : Go.Shelf.Ren := ⟨fun | 6 => 62 | 8 => 58 | 9 => 82 | 19 => 78 | 20 => 79 | 21 => 90 | 22 => 91 | 23 => 92 | 24 => 93 | 25 => 94 | 26 => 95 | 27 => 96 | 28 => 97 | 29 => 98 | 36 => 104 | 31 => 86 | 32 => 87 | 37 => 105 | 38 => 106 | 39 => 107 | 41 => 109 | n => n, fun | 27 => 40 | 29 => 9 | 3 => 3 | 32 => 83 | 26 => 40 | 0 => 0 | 44 => 98 | 46 => 100 | 4 => 4 | 36 => 91 | 35 => 90 | 41 => 95 | 5 => 5 | 9 => 9 | 53 => 105 | 57 => 109 | 63 => 119 | 64 => 120 | n => n, fun | n => n⟩
theorem Try.sortA : Go.Proofs.SlLaysM.n6 Try.prog Try.sortA_ren := {
  mixed := by kernel_rfl
  f6 := ⟨Try.f62.name, by decide, Try.func62.trans (congrArg some (by kernel_rfl))⟩
  f8 := Try.func58.trans (congrArg some (by kernel_rfl))
  f9 := ⟨Try.f82.name, by decide, Try.func82.trans (congrArg some (by kernel_rfl))⟩
  f19 := Try.func78.trans (congrArg some (by kernel_rfl))
  f20 := Try.func79.trans (congrArg some (by kernel_rfl))
  f21 := ⟨Try.f90.name, by decide, Try.func90.trans (congrArg some (by kernel_rfl))⟩
  f22 := ⟨Try.f91.name, by decide, Try.func91.trans (congrArg some (by kernel_rfl))⟩
  f23 := ⟨Try.f92.name, by decide, Try.func92.trans (congrArg some (by kernel_rfl))⟩
  f24 := ⟨Try.f93.name, by decide, Try.func93.trans (congrArg some (by kernel_rfl))⟩
  f25 := ⟨Try.f94.name, by decide, Try.func94.trans (congrArg some (by kernel_rfl))⟩
  f26 := ⟨Try.f95.name, by decide, Try.func95.trans (congrArg some (by kernel_rfl))⟩
  f27 := ⟨Try.f96.name, by decide, Try.func96.trans (congrArg some (by kernel_rfl))⟩
  f28 := ⟨Try.f97.name, by decide, Try.func97.trans (congrArg some (by kernel_rfl))⟩
  f29 := ⟨Try.f98.name, by decide, Try.func98.trans (congrArg some (by kernel_rfl))⟩
  f31 := Try.func86.trans (congrArg some (by kernel_rfl))
  f32 := Try.func87.trans (congrArg some (by kernel_rfl))
  f36 := ⟨Try.f104.name, by decide, Try.func104.trans (congrArg some (by kernel_rfl))⟩
  f37 := ⟨Try.f105.name, by decide, Try.func105.trans (congrArg some (by kernel_rfl))⟩
  f38 := ⟨Try.f106.name, by decide, Try.func106.trans (congrArg some (by kernel_rfl))⟩
  f39 := ⟨Try.f107.name, by decide, Try.func107.trans (congrArg some (by kernel_rfl))⟩
  f41 := ⟨Try.f109.name, by decide, Try.func109.trans (congrArg some (by kernel_rfl))⟩
  t0 := Try.underlying0
  a0 := Try.isAgg0
  z0 := Try.sizeOf0
  v0 := Try.zeroValue0
  t3 := Try.underlying3
  a3 := Try.isAgg3
  z3 := Try.sizeOf3
  v3 := Try.zeroValue3
  t4 := Try.underlying4
  a4 := Try.isAgg4
  z4 := Try.sizeOf4
  v4 := Try.zeroValue4
  t5 := Try.underlying5
  a5 := Try.isAgg5
  z5 := Try.sizeOf5
  v5 := Try.zeroValue5
  t9 := Try.underlying9
  a9 := Try.isAgg9
  z9 := Try.sizeOf9
  v9 := Try.zeroValue9
  t26 := Try.underlying40
  a26 := Try.isAgg40
  z26 := Try.sizeOf40
  v26 := Try.zeroValue40
  t27 := Try.underlying40
  a27 := Try.isAgg40
  z27 := Try.sizeOf40
  v27 := Try.zeroValue40
  t29 := Try.underlying9
  a29 := Try.isAgg9
  z29 := Try.sizeOf9
  v29 := Try.zeroValue9
  t32 := Try.underlying83
  a32 := Try.isAgg83
  z32 := Try.sizeOf83
  v32 := Try.zeroValue83
  t35 := Try.underlying90
  a35 := Try.isAgg90
  z35 := Try.sizeOf90
  v35 := Try.zeroValue90
  t36 := Try.underlying91
  a36 := Try.isAgg91
  z36 := Try.sizeOf91
  v36 := Try.zeroValue91
  t41 := Try.underlying95
  a41 := Try.isAgg95
  z41 := Try.sizeOf95
  v41 := Try.zeroValue95
  t44 := Try.underlying98
  a44 := Try.isAgg98
  z44 := Try.sizeOf98
  v44 := Try.zeroValue98
  t46 := Try.underlying100
  a46 := Try.isAgg100
  z46 := Try.sizeOf100
  v46 := Try.zeroValue100
  t53 := Try.underlying105
  a53 := Try.isAgg105
  z53 := Try.sizeOf105
  v53 := Try.zeroValue105
  t57 := Try.underlying109
  a57 := Try.isAgg109
  z57 := Try.sizeOf109
  v57 := Try.zeroValue109
  t63 := Try.underlying119
  a63 := Try.isAgg119
  z63 := Try.sizeOf119
  v63 := Try.zeroValue119
  t64 := Try.underlying120
  a64 := Try.isAgg120
  z64 := Try.sizeOf120
  v64 := Try.zeroValue120 }
end Go.Proofs
end
section
namespace Go.Proofs.Ytnffcpajfojajaa.Q
open Go.RowKit Go.WideMaps Go.Maps Go.Sort Go.Shelf Go.Proofs.YtnffcpajfojajaaW.PrintWords Go.Proofs.YtnffcpajfojajaaW.PrintLast Go.Proofs.YtnffcpajfojajaaW.PrintMore Go.Proofs.Ytnffcpajfojajaa.Short
set_option linter.unusedVariables false
set_option linter.unusedSimpArgs false
theorem sortsA (m : Nat) : AnyZ.SortsIn Try.prog Try.sortedA_ren Fence.wide m :=
  ⟨fun blk off cap ss W hH hblk hsz => callsIn_wide.2 (AnyM.slices_Sort_string Try.sortA blk off cap ss W hH hblk hsz),
   fun p cap W => callsIn_wide.2 (AnyM.slices_Sort_string_none Try.sortA p cap W)⟩
theorem keys_call (mb : Option Nat) (W : World) : Calls Try.prog 53 #[.map mb] W fun e w' => e = .returned (.func (.func 63) #[] #[.pointer (some ⟨W.heap.size, 0, none⟩)]) ∧ w' = W.alloc (.cells #[.map mb] 57) :=
  (callsIn_wide (n := 5)).1 (AnyZ.keys_in Try.keysA Fence.wide 5 trivial rfl mb W)
theorem sorted_self (L : List S52) (hasc : AscF L) {ss : List (List UInt8)} (h : ss.Perm (strKeys (mapOf (H := Unit) L))) : ss.mergeSort (fun x y => decide (x ≤ y)) = L.map fun x => x.f0.data.toList := by
  have h1 := mergeSort_of_perm h
  rw [keys_map] at h1
  refine h1.trans (List.mergeSort_of_pairwise ?_)
  rw [List.pairwise_map]
  refine hasc.imp ?_
  intro a b hab
  unfold nameLt at hab
  rw [ByteArray.toList_eq, ByteArray.toList_eq, bytesLess_eq, decide_eq_true_eq] at hab
  simp only [leB, decide_eq_true_eq]
  exact List.le_of_lt hab
set_option maxHeartbeats 1000000 in
theorem names_call (L : List S52) (hasc : AscF L) (hlen : L.length ≤ 40) (b nn : Nat) (w : World) (hown : w.ownsMap Try.prog 9 (plainElem (H := Unit) Try.prog 9) b nn (mapOf L)) :
    Calls Try.prog 52 #[.func (.func 63) #[] #[.pointer (some ⟨w.heap.size, 0, none⟩)]] (w.alloc (.cells #[.map (some b)] 57)) fun e w' => ∃ (A : Option Addr) (c : Nat), e = .returned (.slice A L.length c) ∧ L.length ≤ c ∧ Kd.C Kd.string w' A L.length (L.map fun x => x.f0) ∧ Below w.heap.size w w' := by
  have hbl := hown.lt
  have hseq : SeqGives Fence.wide 2 Try.prog 63 #[.pointer (some ⟨w.heap.size, 0, none⟩)] encStr (fun ss => ss.Perm (strKeys (mapOf (H := Unit) L))) (Maps.size (mapOf (H := Unit) L)) (w.alloc (.cells #[.map (some b)] 57)) :=
    AnyZ.keys_gives (ρ := Try.keysA_ren) { Try.keysA with } Fence.wide _ trivial rfl (by omega) w.heap.size b nn _ _ (by simp) (by simp) (by
      obtain ⟨es, clock, hb, Ft, hs, hD⟩ := hown
      exact ⟨es, clock, (Below.heap_alloc _ _ b hbl).trans hb, Ft, hs, hD⟩)
  have cS := AnyZ.sorted_in Try.sortedA Fence.wide 5 trivial trivial trivial trivial rfl (by omega) (sortsA _) (enters_of Try.func62 (by kernel_rfl) rfl) 63 #[.pointer (some ⟨w.heap.size, 0, none⟩)] trivial (enters_of Try.func63 (by kernel_rfl) rfl) _ _ (by rw [size_map]; unfold maxLen; omega) (by rw [size_map]; omega) _ hseq
  change CallsIn _ _ Try.prog 52 _ _ _ at cS
  refine ((callsIn_wide (n := 5)).1 cS).mono ?_
  rintro e w' ⟨v, ss, rfl, hS, hrow, hnil, hb⟩
  rw [sorted_self L hasc hS] at hrow
  have hl : ss.length = L.length := by rw [hS.length_eq, keys_map, List.length_map]
  have he : (L.map fun x => x.f0.data.toList).map encStr = encs Value.string (L.map fun x => x.f0) := by
    unfold encs
    rw [List.map_map, List.map_map]
    rfl
  rw [he, hl] at hrow
  have hR : Kd.string.R 9 w' (w.alloc (.cells #[.map (some b)] 57)).heap.size (fun _ => True) v (L.map fun x => x.f0) := Kd.R_of_own (by rw [List.length_map]; exact hrow) (fun _ _ => trivial)
  obtain ⟨A, c, rfl, hc, hC⟩ := Kd.R_reads hR
  rw [List.length_map] at hc hC
  refine ⟨A, c, by rw [List.length_map], hc, hC, ((Below.refl _ w).alloc (Nat.le_refl _) _).trans (hb.mono (by simp))⟩
theorem zero9 (w : World) : (zeroValue 9).run Try.prog w = .ok (.string ⟨#[]⟩) w := by kernel_rfl
set_option maxHeartbeats 4000000 in
set_option maxRecDepth 100000 in
theorem sortedFiles_calls (L : List S52) (hasc : AscF L) (hlen : L.length ≤ 40) (hs : ∀ x ∈ L, x.f0.size ≤ maxLen) (b nn : Nat) (w : World) (hown : w.ownsMap Try.prog 9 (plainElem (H := Unit) Try.prog 9) b nn (mapOf L)) :
    Calls Try.prog 31 #[.map (some b)] w fun e w' => ∃ v : Value, e = .returned v ∧ Kd.R k52 52 w' w.heap.size (fun _ => True) v L ∧ Below w.heap.size w w' := by
  have hbl := hown.lt
  have HN := Aside0.mk (names_call L hasc hlen b nn w hown)
  have HO := Aside0.mk hown
  have HA := Aside0.mk hasc
  have HS := Aside0.mk hs
  clear hown hasc hs
  go_enter Try.func31, Try.ntmps31
  go_wp2_with (first
    | (go_at_call 53; refine (keys_call _ _).mono ?_; rintro e w1 ⟨rfl, rfl⟩)
    | (go_at_call 52; refine HN.out.mono ?_; rintro e w2 ⟨A, c, rfl, hc, hC, hb⟩; have HC := Aside0.mk hC; have HB0 := Aside0.mk hb; clear hC hb))
  go_loopg [2, 9] L.length (fun gg s2 s9 wr => ∃ kk : Nat, kk ≤ L.length ∧ L.length - kk ≤ gg ∧ s9 = .int .i64 kk ∧ Aside0 (Below w2.heap.size w2 wr) ∧ Aside0 (Kd.R k52 52 wr w2.heap.size (fun _ => True) s2 (L.take kk)))
  case atStart => exact ⟨0, Nat.zero_le _, by omega, rfl, ⟨Below.refl _ _⟩, ⟨by rw [List.take_zero]; exact Kd.R_nil _ _ _ _ _⟩⟩
  case round =>
    obtain ⟨kk, hkk, hg, rfl, BW, HR⟩ := hrel
    by_cases hlt : kk < L.length
    · have hltz : (kk : Int) < (L.length : Int) := by omega
      obtain ⟨ad, e, hx⟩ := Kd.at_string (Kd.C_below HC.out BW.out) (kk : Int) (by omega) hltz
      subst e
      obtain ⟨x, hxe⟩ : ∃ x, x = L[kk] := ⟨_, rfl⟩
      have hxm : x ∈ L := by rw [hxe]; exact List.getElem_mem hlt
      have hrd : rdOf ByteArray.empty (L.map fun x => x.f0) (kk : Int) = x.f0 := by
        unfold rdOf
        rw [Int.toNat_natCast, List.getD_eq_getElem?_getD, List.getElem?_map, List.getElem?_eq_getElem hlt, hxe]; rfl
      rw [hrd] at hx
      have htk : L.take (kk + 1) = L.take kk ++ [x] := by rw [hxe]; exact (List.take_append_getElem hlt).symm
      have hrun : (Instr.lookup 57 (.map (some b)) (.string x.f0) false).run Try.prog wr = .ok (.string x.f1) wr := by
        have hB2 : Below w.heap.size w wr := HB0.out.trans (BW.out.mono (below_size HB0.out))
        have hown : wr.ownsMap Try.prog 9 (plainElem (H := Unit) Try.prog 9) b nn (mapOf L) := by
          obtain ⟨es, clock, hb, Ft, hs, hD⟩ := HO.out
          exact ⟨es, clock, (hB2.block b hbl).trans hb, Ft, hs, hD⟩
        obtain ⟨v, ps, hr, hv⟩ := hown.lookup (string_keyed Try.underlying9) Try.underlying57 (z := .string ⟨#[]⟩) (zero9 _) (plainElem_string Try.underlying9 (Nat.zero_le _)) (keyOf_string_mk Try.underlying9 (HS.out x hxm))
        rw [at_map x _ L HA.out hxm] at hv
        obtain ⟨s, rfl, hz, _⟩ := plainElem_string_inv Try.underlying9 hv
        injection hz with h1 h2
        injection h1 with h1
        injection h1 with h1
        have : s = x.f1 := by
          exact ByteArray.ext (Array.toList_inj.mp h1.symm)
        rw [← this]
        exact hr
      clear hrd hxe
      simp only [Int.toNat_natCast] at hx
      go_wp2_with (first | ((with_reducible refine gate_builtin (b := .append) (xs := #[.tmp 13, .tmp 19]) rfl ?_); at_builtin; refine Kd.R_append k52 (w0 := w2) w2.heap.size rfl (.tmp 13) (.tmp 19) 27 52 (.agg #[(.string ⟨#[]⟩), (.string ⟨#[]⟩)]) 32 rfl Try.underlying27 info52 rfl (by decide) (by omega) u2 (L.take kk) x [.string x.f0, .string x.f1] (fun _ => True) (fun _ => False) rfl rfl ?aP (fun _ hk => hk.elim) ?aF ?aO ?aB ?aS ?aL ?_; (case aP => exact k52_mkM _ _ _ x); (case aB => exact (kb BW)); (case aF => exact (fun _ _ => trivial)); (case aO => exact (by (with_reducible repeat (first | apply Kd.R_alloc | apply Kd.R_drewN | apply Kd.R_drew)); exact HR.out)); (case aS => exact (below_size (kb BW))); (case aL => rw [List.length_take]; omega); intro v109 w15 ho hb hg hat; rw [← htk] at ho; have HO2 := Aside0.mk ho; have BW2 := Aside0.mk hb; clear ho hb hg hat))
      go_roundg (L.length - (kk + 1))
      case measure => omega
      case rel => exact ⟨kk + 1, by omega, by omega, by go_num, ⟨kb BW2⟩, ⟨by (with_reducible repeat (first | apply Kd.R_alloc | apply Kd.R_drewN | apply Kd.R_drew)); exact HO2.out⟩⟩
    · have hltz : ¬ (kk : Int) < (L.length : Int) := by omega
      have htk : L.take kk = L := List.take_of_length_le (by omega)
      rw [htk] at HR
      go_wp2
      go_ret
      exact ⟨_, rfl, Kd.R_lower (by (with_reducible repeat (first | apply Kd.R_alloc | apply Kd.R_drewN | apply Kd.R_drew)); exact HR.out) (below_size HB0.out), HB0.out.trans ((kb BW).mono (below_size HB0.out))⟩
end Go.Proofs.Ytnffcpajfojajaa.Q
end
section
namespace Go.Proofs.Ytnffcpajfojajaa.Q
open Go.RowKit Go.WideMaps Go.Maps Go.Proofs.YtnffcpajfojajaaW.PrintWords Go.Proofs.YtnffcpajfojajaaW.PrintLast Go.Proofs.YtnffcpajfojajaaW.PrintMore Go.Proofs.Ytnffcpajfojajaa.Short
set_option linter.unusedVariables false
set_option linter.unusedSimpArgs false
def laySz (fs : List S52) : Prop := fs.length ≤ 1000 ∧ ∀ x ∈ fs, x.f0.size ≤ maxLen ∧ x.f1.size ≤ maxLen
instance (fs : List S52) : Decidable (laySz fs) := by unfold laySz; exact inferInstance
def layRest (fs : List S52) : Option (List S52 × Int) :=
  if laySz fs then (if ((layF [] fs).length : Int) > 40 then some ([], 2) else some (layF [] fs, 0)) else none
def impl_MillLay.f (k : Nat) (l0_0 : List S52) (l1 : List S52) : Option (List S52 × Int) :=
  (impl_MillValidPlace.f k l0_0).bind fun t => if t = true then (if (l1.length : Int) > 40 then some ([], 1) else (anyO (layBad k) l1).bind fun b => if b = true then some ([], 1) else layRest (l0_0 ++ l1)) else some ([], 1)
theorem impl_MillLay.mono : ∀ l0_0 l1 k, LeO (impl_MillLay.f k l0_0 l1) (impl_MillLay.f (k + 1) l0_0 l1) := by
  intro a0 a1 k
  unfold impl_MillLay.f
  exact LeO.bind (impl_MillValidPlace.mono a0 k) (fun _ => LeO.ite (LeO.ite (LeO.refl _) (LeO.bind (anyO_mono (layBad_mono k) a1) (fun _ => LeO.refl _))) (LeO.refl _))
def doneF (l0 l1 : List S52) : Nat → List S52
  | 0 => []
  | 1 => l0
  | _ => l0 ++ l1
def LayInv (w : World) (gb gm gs : Nat) (A0 : Option Addr) (c0 : Nat) (l0 : List S52) (A1 : Option Addr) (c1 : Nat) (l1 fs : List S52) (wr : World) : Prop :=
  Below w.heap.size w wr ∧ wr.heap[gb]? = some (.cells #[.slice none 0 0] 29 (0, 0)) ∧ wr.heap[gs]? = some (.cells #[.slice A0 l0.length c0, .slice A1 l1.length c1] 27 (0, 0)) ∧ wr.ownsMap Try.prog 9 (plainElem (H := Unit) Try.prog 9) gm fs.length (mapOf (layF [] fs))
theorem LayInv.below {w wr w2 : World} {gb gm gs : Nat} {A0 : Option Addr} {c0 : Nat} {l0 : List S52} {A1 : Option Addr} {c1 : Nat} {l1 fs : List S52} (h : LayInv w gb gm gs A0 c0 l0 A1 c1 l1 fs wr) (hb : Below wr.heap.size wr w2) : LayInv w gb gm gs A0 c0 l0 A1 c1 l1 fs w2 := by
  obtain ⟨h1, h2, h3, h4⟩ := h
  have hm := h4.lt
  refine ⟨h1.trans (hb.mono (below_size h1)), blk_below h2 hb, blk_below h3 hb, ?_⟩
  obtain ⟨es, clock, hbk, Ft, hs, hD⟩ := h4
  exact ⟨es, clock, (hb.block gm hm).trans hbk, Ft, hs, hD⟩
theorem LayInv.put {w wr w2 : World} {gb gm gs : Nat} {A0 : Option Addr} {c0 : Nat} {l0 : List S52} {A1 : Option Addr} {c1 : Nat} {l1 fs : List S52} (x : S52) (h : LayInv w gb gm gs A0 c0 l0 A1 c1 l1 fs wr) (n1 : gb ≠ gm) (n2 : gs ≠ gm) (n3 : w.heap.size ≤ gm)
    (ho : w2.ownsMap Try.prog 9 (plainElem (H := Unit) Try.prog 9) gm (fs.length + 1) ((mapOf (layF [] fs)).put (.string x.f0.data.toList) (.lit (.string x.f1.data.toList)))) (hg : wr.grownBy w2 (some gm)) : LayInv w gb gm gs A0 c0 l0 A1 c1 l1 (fs ++ [x]) w2 := by
  obtain ⟨h1, h2, h3, h4⟩ := h
  refine ⟨h1.grown hg (below_size h1) (fun j hj => by cases hj; exact n3), (hg.block gb (blk_lt h2) (fun e => n1 (Option.some.inj e))).trans h2, (hg.block gs (blk_lt h3) (fun e => n2 (Option.some.inj e))).trans h3, ?_⟩
  rw [put_map x _ (layF_asc fs [] List.Pairwise.nil)] at ho
  rw [List.length_append, layF_append]
  exact ho
theorem layF_mem : ∀ (fs l : List S52) (z : S52), z ∈ layF l fs → z ∈ l ∨ z ∈ fs
  | [], l, z, h => .inl h
  | x :: r, l, z, h => by
    rcases layF_mem r (insF x l) z h with h | h
    · rcases insF_mem x l z h with h | h
      · exact .inr (h ▸ List.mem_cons_self)
      · exact .inl h
    · exact .inr (List.mem_cons_of_mem _ h)
set_option maxHeartbeats 8000000 in
set_option maxRecDepth 100000 in
theorem impl_MillLay.calls (k : Nat) (A0_0 : Option Addr) (c0_0 : Nat) (l0_0 : List S52) (A1 : Option Addr) (c1 : Nat) (l1 : List S52) (r1 : List S52) (r2 : Int) (w : World) (hr0_0 : Kd.C k52 w A0_0 l0_0.length l0_0) (hc0_0 : l0_0.length ≤ c0_0) (hr1 : Kd.C k52 w A1 l1.length l1) (hc1 : l1.length ≤ c1) (h : impl_MillLay.f k l0_0 l1 = some (r1, r2)) :
    Calls Try.prog 10 #[.agg #[.slice A0_0 l0_0.length c0_0], .slice A1 l1.length c1] w fun e w' => ∃ v0_ : Value, e = .returned (.tuple #[.agg #[v0_], .int .i64 r2]) ∧ Kd.R k52 52 w' w.heap.size (fun _ => True) v0_ r1 ∧ Below w.heap.size w w' := by
  have hu29 := Try.underlying29
  have HR0_0 := Aside0.mk hr0_0
  have HC0_0 := Aside0.mk hc0_0
  clear hr0_0 hc0_0
  have HR1 := Aside0.mk hr1
  have HC1 := Aside0.mk hc1
  clear hr1 hc1
  have HB := Aside0.mk (Below.refl w.heap.size w)
  unfold impl_MillLay.f at h
  obtain ⟨t, ht, H⟩ := Option.bind_eq_some_iff.mp h
  clear h
  have A6 := Aside0.mk ht
  clear ht
  cases t with
  | false =>
    rw [if_neg (show ¬ (false = true) by decide)] at H
    simp only [Option.some.injEq, Prod.mk.injEq] at H
    obtain ⟨rfl, rfl⟩ := H
    go_enter Try.func10, Try.ntmps10
    go_wp2_with (first | ((with_reducible refine gate_dst (N := 2) rfl ?_); refine gX 2 #[.slice A0_0 l0_0.length c0_0] 29 ?_; intro gb101 hg w4 hbox hb; have BK101 := Aside0.mk (hbox); replace HB := kS HB hb; clear hb hbox hg) | ((with_reducible refine gate_dst (N := 4) rfl ?_); refine gX 4 #[.slice none 0 0] 29 ?_; intro gb102 hg w5 hbox hb; have BK102 := Aside0.mk (hbox); have GW102 := gw hg (kb HB); have NB101_102 := nl hg (kp BK101); have NB102_101 := ng hg (kp BK101); replace BK101 := kB BK101 hb; replace HB := kS HB hb; clear hb hbox hg; have hnb8 := NB101_102.out; have hnc8 := NB102_101.out; obtain ⟨hcz9_0, hfz9_0⟩ := bf1 BK101) | ((with_reducible refine gate_callee (f := 26) rfl ?_); refine gL (some 12) Try.func26 #[.agg #[.slice A0_0 l0_0.length c0_0]] (impl_MillValidPlace.calls k _ _ l0_0 false _ ?side1 ?side2 A6.out) ?_; (case side1 => repeat (first | exact (Kd.C_below HR0_0.out HB.out) | (with_reducible refine Kd.C_alloc ?_ _) | (with_reducible refine Kd.C_drewN ?_ _) | (with_reducible refine Kd.C_drew ?_))); (case side2 => exact HC0_0.out); intro w10 hb; replace BK101 := kB BK101 hb; replace BK102 := kB BK102 hb; replace HB := kS HB hb; obtain ⟨hcy_0, hfy_0⟩ := bf1 BK102))
    refine bodyPost_ret (results_ct rfl _ _ gb102 29 #[.slice none 0 0] (0, 0) _ rfl (by (with_reducible repeat (first | refine blk_drewN ?_ _ | refine blk_drew ?_ | refine blk_alloc ?_ _)); refine blk_put (cs := #[.slice none 0 0]) ?_ 0 _ rfl; (with_reducible repeat (first | refine blk_drewN ?_ _ | refine blk_drew ?_ | refine blk_alloc ?_ _)); exact BK102.out) Try.underlying29 rfl (by kernel_rfl)) rfl ?_
    exact ⟨_, rfl, Kd.R_nil _ _ _ _ _, kb HB⟩
  | true =>
    rw [if_pos rfl] at H
    by_cases c : (l1.length : Int) > 40
    · rw [if_pos c] at H
      have cb0 : decide (40 < (l1.length : Int)) = true := decide_eq_true c
      have cb1 : decide (40 < l1.length) = true := decide_eq_true (by omega)
      clear c
      simp only [Option.some.injEq, Prod.mk.injEq] at H
      obtain ⟨rfl, rfl⟩ := H
      go_enter Try.func10, Try.ntmps10
      go_wp2_with (first | ((with_reducible refine gate_dst (N := 2) rfl ?_); refine gX 2 #[.slice A0_0 l0_0.length c0_0] 29 ?_; intro gb101 hg w4 hbox hb; have BK101 := Aside0.mk (hbox); replace HB := kS HB hb; clear hb hbox hg) | ((with_reducible refine gate_dst (N := 4) rfl ?_); refine gX 4 #[.slice none 0 0] 29 ?_; intro gb102 hg w5 hbox hb; have BK102 := Aside0.mk (hbox); have GW102 := gw hg (kb HB); have NB101_102 := nl hg (kp BK101); have NB102_101 := ng hg (kp BK101); replace BK101 := kB BK101 hb; replace HB := kS HB hb; clear hb hbox hg; have hnb8 := NB101_102.out; have hnc8 := NB102_101.out; obtain ⟨hcz9_0, hfz9_0⟩ := bf1 BK101) | ((with_reducible refine gate_callee (f := 26) rfl ?_); refine gL (some 12) Try.func26 #[.agg #[.slice A0_0 l0_0.length c0_0]] (impl_MillValidPlace.calls k _ _ l0_0 true _ ?side1 ?side2 A6.out) ?_; (case side1 => repeat (first | exact (Kd.C_below HR0_0.out HB.out) | (with_reducible refine Kd.C_alloc ?_ _) | (with_reducible refine Kd.C_drewN ?_ _) | (with_reducible refine Kd.C_drew ?_))); (case side2 => exact HC0_0.out); intro w10 hb; replace BK101 := kB BK101 hb; replace BK102 := kB BK102 hb; replace HB := kS HB hb; obtain ⟨hcy_0, hfy_0⟩ := bf1 BK102))
      refine bodyPost_ret (results_ct rfl _ _ gb102 29 #[.slice none 0 0] (0, 0) _ rfl (by (with_reducible repeat (first | refine blk_drewN ?_ _ | refine blk_drew ?_ | refine blk_alloc ?_ _)); refine blk_put (cs := #[.slice none 0 0]) ?_ 0 _ rfl; (with_reducible repeat (first | refine blk_drewN ?_ _ | refine blk_drew ?_ | refine blk_alloc ?_ _)); exact BK102.out) Try.underlying29 rfl (by kernel_rfl)) rfl ?_
      exact ⟨_, rfl, Kd.R_nil _ _ _ _ _, kb HB⟩
    · rw [if_neg c] at H
      have cb0 : decide (40 < (l1.length : Int)) = false := decide_eq_false c
      have cb1 : decide (40 < l1.length) = false := decide_eq_false (by omega)
      clear c
      obtain ⟨bd, hbd, H⟩ := Option.bind_eq_some_iff.mp H
      have A7 := Aside0.mk hbd
      clear hbd
      cases bd with
      | true =>
        rw [if_pos rfl] at H
        simp only [Option.some.injEq, Prod.mk.injEq] at H
        obtain ⟨rfl, rfl⟩ := H
        go_enter Try.func10, Try.ntmps10
        go_wp2_with (first | ((with_reducible refine gate_dst (N := 2) rfl ?_); refine gX 2 #[.slice A0_0 l0_0.length c0_0] 29 ?_; intro gb101 hg w4 hbox hb; have BK101 := Aside0.mk (hbox); replace HB := kS HB hb; clear hb hbox hg) | ((with_reducible refine gate_dst (N := 4) rfl ?_); refine gX 4 #[.slice none 0 0] 29 ?_; intro gb102 hg w5 hbox hb; have BK102 := Aside0.mk (hbox); have GW102 := gw hg (kb HB); have NB101_102 := nl hg (kp BK101); have NB102_101 := ng hg (kp BK101); replace BK101 := kB BK101 hb; replace HB := kS HB hb; clear hb hbox hg; have hnb8 := NB101_102.out; have hnc8 := NB102_101.out; obtain ⟨hcz9_0, hfz9_0⟩ := bf1 BK101) | ((with_reducible refine gate_callee (f := 26) rfl ?_); refine gL (some 12) Try.func26 #[.agg #[.slice A0_0 l0_0.length c0_0]] (impl_MillValidPlace.calls k _ _ l0_0 true _ ?side1 ?side2 A6.out) ?_; (case side1 => repeat (first | exact (Kd.C_below HR0_0.out HB.out) | (with_reducible refine Kd.C_alloc ?_ _) | (with_reducible refine Kd.C_drewN ?_ _) | (with_reducible refine Kd.C_drew ?_))); (case side2 => exact HC0_0.out); intro w10 hb; replace BK101 := kB BK101 hb; replace BK102 := kB BK102 hb; replace HB := kS HB hb) | (go_at_call 27; refine (contains_layBad k A1 c1 l1 true _ ?side1 HC1.out A7.out).mono ?_; (case side1 => repeat (first | exact (Kd.C_below HR1.out HB.out) | (with_reducible refine Kd.C_alloc ?_ _) | (with_reducible refine Kd.C_drewN ?_ _) | (with_reducible refine Kd.C_drew ?_))); rintro e w11 ⟨rfl, hb⟩; replace BK101 := kB BK101 hb; replace BK102 := kB BK102 hb; replace HB := kS HB hb; obtain ⟨hcy_0, hfy_0⟩ := bf1 BK102))
        refine bodyPost_ret (results_ct rfl _ _ gb102 29 #[.slice none 0 0] (0, 0) _ rfl (by (with_reducible repeat (first | refine blk_drewN ?_ _ | refine blk_drew ?_ | refine blk_alloc ?_ _)); refine blk_put (cs := #[.slice none 0 0]) ?_ 0 _ rfl; (with_reducible repeat (first | refine blk_drewN ?_ _ | refine blk_drew ?_ | refine blk_alloc ?_ _)); exact BK102.out) Try.underlying29 rfl (by kernel_rfl)) rfl ?_
        exact ⟨_, rfl, Kd.R_nil _ _ _ _ _, kb HB⟩
      | false =>
        rw [if_neg (show ¬ (false = true) by decide)] at H
        have hmm := @run_makeMap Try.prog
        have HF := Aside0.mk H
        clear H
        go_enter Try.func10, Try.ntmps10
        go_wp2_with (first | ((with_reducible refine gate_dst (N := 2) rfl ?_); refine gX 2 #[.slice A0_0 l0_0.length c0_0] 29 ?_; intro gb101 hg w4 hbox hb; have BK101 := Aside0.mk (hbox); replace HB := kS HB hb; clear hb hbox hg) | ((with_reducible refine gate_dst (N := 4) rfl ?_); refine gX 4 #[.slice none 0 0] 29 ?_; intro gb102 hg w5 hbox hb; have BK102 := Aside0.mk (hbox); have GW102 := gw hg (kb HB); have NB101_102 := nl hg (kp BK101); have NB102_101 := ng hg (kp BK101); replace BK101 := kB BK101 hb; replace HB := kS HB hb; clear hb hbox hg; have hnb8 := NB101_102.out; have hnc8 := NB102_101.out; obtain ⟨hcz9_0, hfz9_0⟩ := bf1 BK101) | ((with_reducible refine gate_callee (f := 26) rfl ?_); refine gL (some 12) Try.func26 #[.agg #[.slice A0_0 l0_0.length c0_0]] (impl_MillValidPlace.calls k _ _ l0_0 true _ ?side1 ?side2 A6.out) ?_; (case side1 => repeat (first | exact (Kd.C_below HR0_0.out HB.out) | (with_reducible refine Kd.C_alloc ?_ _) | (with_reducible refine Kd.C_drewN ?_ _) | (with_reducible refine Kd.C_drew ?_))); (case side2 => exact HC0_0.out); intro w10 hb; replace BK101 := kB BK101 hb; replace BK102 := kB BK102 hb; replace HB := kS HB hb) | (go_at_call 27; refine (contains_layBad k A1 c1 l1 false _ ?side1 HC1.out A7.out).mono ?_; (case side1 => repeat (first | exact (Kd.C_below HR1.out HB.out) | (with_reducible refine Kd.C_alloc ?_ _) | (with_reducible refine Kd.C_drewN ?_ _) | (with_reducible refine Kd.C_drew ?_))); rintro e w11 ⟨rfl, hb⟩; replace BK101 := kB BK101 hb; replace BK102 := kB BK102 hb; replace HB := kS HB hb; have hcx : ∀ o, (w11.alloc o).cell? ⟨gb101, 0, none⟩ = some (.slice A0_0 l0_0.length c0_0) := fun o => (blk_cell (blk_alloc BK101.out o) 0).trans rfl))
        obtain ⟨gm, hgm⟩ : ∃ gm, gm = w11.heap.size := ⟨_, rfl⟩
        obtain ⟨gs, hgs⟩ : ∃ gs, gs = w11.heap.size + 1 := ⟨_, rfl⟩
        have hsz0 : (w11.alloc (.map #[] 0)).heap.size = w11.heap.size + 1 := by simp
        try rw [hsz0]
        rw [← hgs, ← hgm]
        obtain ⟨w12, hw12⟩ : ∃ w12, w12 = (w11.alloc (.map #[] 0)).alloc (.cells #[.slice A0_0 l0_0.length c0_0, .slice A1 l1.length c1] 27 (0, 0)) := ⟨_, rfl⟩
        rw [← hw12]
        have hsw : w.heap.size ≤ w11.heap.size := below_size HB.out
        have BKS : Aside0 (w12.heap[gs]? = some (.cells #[.slice A0_0 l0_0.length c0_0, .slice A1 l1.length c1] 27 (0, 0))) := ⟨by rw [hw12, hgs, ← hsz0]; exact (MapKept.heap_alloc _ _).1⟩
        have HI0 : Aside0 (LayInv w gb102 gm gs A0_0 c0_0 l0_0 A1 c1 l1 [] w12) := ⟨by
          refine ⟨?_, ?_, BKS.out, ?_⟩
          · rw [hw12]; exact kb HB
          · rw [hw12]; exact kp BK102
          · rw [hw12, hgm]; exact (World.ownsMap_made w11 _ _ _).alloc _⟩
        have HN : Aside0 (gb102 ≠ gm ∧ gs ≠ gm ∧ w.heap.size ≤ gm) := ⟨⟨by rw [hgm]; exact Nat.ne_of_lt (blk_lt BK102.out), by omega, by omega⟩⟩
        have HL : Aside0 (laySz (l0_0 ++ l1)) := ⟨by
          have := HF.out
          unfold layRest at this
          by_cases c : laySz (l0_0 ++ l1)
          · exact c
          · rw [if_neg c] at this; exact absurd this (by simp)⟩
        have HF2 : Aside0 ((if ((layF [] (l0_0 ++ l1)).length : Int) > 40 then some ([], 2) else some (layF [] (l0_0 ++ l1), 0)) = some (r1, r2)) := ⟨by
          have := HF.out
          unfold layRest at this
          rw [if_pos HL.out] at this
          exact this⟩
        clear hw12 hsz0 hgs hgm hsw BKS HF hcx BK101 BK102 HB hb hcz9_0 hfz9_0
        go_loopg [30] 2 (fun gg s30 wr => ∃ i : Nat, i ≤ 2 ∧ 2 - i ≤ gg ∧ s30 = .int .i64 i ∧ Aside0 (LayInv w gb102 gm gs A0_0 c0_0 l0_0 A1 c1 l1 (doneF l0_0 l1 i) wr))
        case atStart => exact ⟨0, by omega, by omega, rfl, HI0⟩
        case round =>
          obtain ⟨i, hi, hg, rfl, HI⟩ := hrel
          clear HI0
          by_cases hlt : i < 2
          · have hltz : (i : Int) < 2 := by omega
            obtain ⟨Ai, ci, li, hcell, hC, hci, hdone, hsub⟩ : ∃ (Ai : Option Addr) (ci : Nat) (li : List S52), wr.cell? ⟨gs, i, none⟩ = some (.slice Ai li.length ci) ∧ Aside0 (Kd.C k52 w Ai li.length li) ∧ Aside0 (li.length ≤ ci) ∧ Aside0 (doneF l0_0 l1 (i + 1) = doneF l0_0 l1 i ++ li) ∧ Aside0 (∀ x ∈ li, x ∈ l0_0 ++ l1) := by
              rcases (by omega : i = 0 ∨ i = 1) with rfl | rfl
              · exact ⟨A0_0, c0_0, l0_0, (blk_cell HI.out.2.2.1 0).trans rfl, HR0_0, HC0_0, ⟨rfl⟩, ⟨fun x hx => List.mem_append_left _ hx⟩⟩
              · exact ⟨A1, c1, l1, (blk_cell HI.out.2.2.1 1).trans rfl, HR1, HC1, ⟨rfl⟩, ⟨fun x hx => List.mem_append_right _ hx⟩⟩
            have hlimax : Aside0 (li.length ≤ 9223372036854775807) := ⟨hC.out.2.1⟩
            have hln : Aside0 ((doneF l0_0 l1 i).length + li.length ≤ 1000) := ⟨by
              have h1 := HL.out.1
              have h2 : (doneF l0_0 l1 (i + 1)).length ≤ (l0_0 ++ l1).length := by
                rcases (by omega : i = 0 ∨ i = 1) with rfl | rfl <;> simp [doneF]
              rw [hdone.out, List.length_append] at h2
              omega⟩
            go_wp2
            go_loopg [36] li.length (fun gg s36 w2 => ∃ j : Nat, j ≤ li.length ∧ li.length - j ≤ gg ∧ s36 = .int .i64 j ∧ Aside0 (LayInv w gb102 gm gs A0_0 c0_0 l0_0 A1 c1 l1 (doneF l0_0 l1 i ++ li.take j) w2))
            case atStart => exact ⟨0, by omega, by omega, rfl, ⟨by rw [List.take_zero, List.append_nil]; exact HI.out⟩⟩
            case round =>
              obtain ⟨j, hj, hg2, rfl, HI2⟩ := hrel
              clear HI
              have hm := hlimax.out
              by_cases hlt2 : j < li.length
              · have hltz2 : (j : Int) < (li.length : Int) := by omega
                obtain ⟨ad, e, hx0, hx1⟩ := at_T52 (Kd.C_below hC.out HI2.out.1) (j : Int) (by omega) hltz2
                subst e
                obtain ⟨x, hxe⟩ : ∃ x, x = li[j] := ⟨_, rfl⟩
                have hrd : rd_T52 li (j : Int) = x := by
                  unfold rd_T52
                  rw [Int.toNat_natCast, List.getD_eq_getElem?_getD, List.getElem?_eq_getElem hlt2, hxe]; rfl
                rw [hrd] at hx0 hx1
                have HX : Aside0 (x ∈ l0_0 ++ l1) := ⟨hsub.out x (by rw [hxe]; exact List.getElem_mem hlt2)⟩
                have HT : Aside0 (doneF l0_0 l1 i ++ li.take (j + 1) = (doneF l0_0 l1 i ++ li.take j) ++ [x]) := ⟨by rw [List.append_assoc, hxe, List.take_append_getElem hlt2]⟩
                have HK : Aside0 ((doneF l0_0 l1 i ++ li.take j).length < maxLen) := ⟨by
                  have := hln.out
                  rw [List.length_append, List.length_take]
                  unfold maxLen
                  omega⟩
                clear hrd hxe hcell
                obtain ⟨x0, x1⟩ := x
                simp only [Int.toNat_natCast] at hx0 hx1
                have HBI := Aside0.mk (Below.refl wr.heap.size wr)
                go_wp2_with (first
                  | ((with_reducible refine gate_dst (N := 10) rfl ?_); refine gX 10 #[.string (⟨#[]⟩ : ByteArray), .string (⟨#[]⟩ : ByteArray)] 52 ?_; intro gbx hg w15 hbox hb; have BKX := Aside0.mk (hbox); have GWX := gw hg (kb HBI); replace HBI := kS HBI hb; clear hb hbox hg; obtain ⟨⟨hcz16_0, hcz16_1⟩, hfz16_0, hfz16_1⟩ := bf2 BKX)
                  | (at_mapUpdate; refine wpList_mapUpdate_own _ rfl _ _ _ 57 rfl 9 9 (string_keyed Try.underlying9) Try.underlying57 (plainElem (H := Unit) Try.prog 9) gm (doneF l0_0 l1 i ++ li.take j).length (mapOf (layF [] (doneF l0_0 l1 i ++ li.take j))) rfl ?own HK.out (.string x0) (.string x1) (.string x0.data.toList) rfl rfl (keyOf_string_mk Try.underlying9 (HL.out.2 _ HX.out).1) (.lit (.string x1.data.toList)) [] (plainElem_string Try.underlying9 (HL.out.2 _ HX.out).2) ?_; (case own => exact (LayInv.below HI2.out (kb HBI)).2.2.2); intro w20 hown20 hg20; have HI3 := Aside0.mk (LayInv.put (⟨x0, x1⟩ : S52) (LayInv.below HI2.out (kb HBI)) HN.out.1 HN.out.2.1 HN.out.2.2 hown20 hg20); clear hown20 hg20))
                go_roundg (li.length - (j + 1))
                case measure => omega
                case rel => exact ⟨j + 1, by omega, by omega, by go_num, ⟨by rw [HT.out]; exact HI3.out⟩⟩
              · have hltz2 : ¬ (j : Int) < (li.length : Int) := by omega
                have HI3 : Aside0 (LayInv w gb102 gm gs A0_0 c0_0 l0_0 A1 c1 l1 (doneF l0_0 l1 (i + 1)) wr) := ⟨by
                  have := HI2.out
                  rw [List.take_of_length_le (by omega), ← hdone.out] at this
                  exact this⟩
                go_wp2
                go_roundg (2 - (i + 1))
                case measure => omega
                case rel => exact ⟨i + 1, by omega, by omega, by go_num, HI3⟩
          · have hi2 : i = 2 := by omega
            subst hi2
            have HOM : Aside0 (wr.ownsMap Try.prog 9 (plainElem (H := Unit) Try.prog 9) gm (l0_0 ++ l1).length (mapOf (layF [] (l0_0 ++ l1)))) := ⟨HI.out.2.2.2⟩
            have BK102 := Aside0.mk HI.out.2.1
            have HB := Aside0.mk HI.out.1
            have hsize := size_map (H := Unit) (layF [] (l0_0 ++ l1))
            have H := HF2.out
            clear HF2 HI
            by_cases c40 : ((layF [] (l0_0 ++ l1)).length : Int) > 40
            · rw [if_pos c40] at H
              have cc0 : decide (40 < ((layF [] (l0_0 ++ l1)).length : Int)) = true := decide_eq_true c40
              have cc1 : decide (40 < (layF [] (l0_0 ++ l1)).length) = true := decide_eq_true (by omega)
              clear c40
              simp only [Option.some.injEq, Prod.mk.injEq] at H
              obtain ⟨rfl, rfl⟩ := H
              obtain ⟨hcy_0, hfy_0⟩ := bf1 BK102
              go_wp2_with (first | (at_len; refine wpList_len_own _ rfl _ 57 rfl 9 9 Try.underlying57 _ gm _ _ rfl HOM.out ?_; rw [hsize]))
              refine bodyPost_ret (results_ct rfl _ _ gb102 29 #[.slice none 0 0] (0, 0) _ rfl (by (with_reducible repeat (first | refine blk_drewN ?_ _ | refine blk_drew ?_ | refine blk_alloc ?_ _)); refine blk_put (cs := #[.slice none 0 0]) ?_ 0 _ rfl; (with_reducible repeat (first | refine blk_drewN ?_ _ | refine blk_drew ?_ | refine blk_alloc ?_ _)); exact BK102.out) Try.underlying29 rfl (by kernel_rfl)) rfl ?_
              exact ⟨_, rfl, Kd.R_nil _ _ _ _ _, kb HB⟩
            · rw [if_neg c40] at H
              have hle : Aside0 ((layF [] (l0_0 ++ l1)).length ≤ 40) := ⟨by omega⟩
              have cc0 : decide (40 < ((layF [] (l0_0 ++ l1)).length : Int)) = false := decide_eq_false c40
              have cc1 : decide (40 < (layF [] (l0_0 ++ l1)).length) = false := decide_eq_false (by omega)
              clear c40
              simp only [Option.some.injEq, Prod.mk.injEq] at H
              obtain ⟨rfl, rfl⟩ := H
              have HMM : Aside0 (∀ x ∈ layF [] (l0_0 ++ l1), x.f0.size ≤ maxLen) := ⟨fun x hx => (HL.out.2 x ((layF_mem _ _ x hx).resolve_left (by simp))).1⟩
              go_wp2_with (first | (at_len; refine wpList_len_own _ rfl _ 57 rfl 9 9 Try.underlying57 _ gm _ _ rfl HOM.out ?_; rw [hsize]) | (go_at_call 31; refine (sortedFiles_calls (layF [] (l0_0 ++ l1)) (layF_asc _ [] List.Pairwise.nil) hle.out HMM.out gm (l0_0 ++ l1).length _ ?own).mono ?_; (case own => exact HOM.out); rintro e w30 ⟨v, rfl, hR, hb⟩; obtain ⟨Ao, co, eo⟩ := Kd.R_slice hR; subst eo; have HO6 := Aside0.mk (Kd.R_lower hR (below_size (kb HB))); replace BK102 := kB BK102 hb; replace HB := kS HB hb; clear hR hb; obtain ⟨hcy_0, hfy_0⟩ := bf1 BK102))
              refine bodyPost_ret (results_ct rfl _ _ gb102 29 #[.slice Ao (layF [] (l0_0 ++ l1)).length co] (0, 0) _ rfl (by (with_reducible repeat (first | refine blk_drewN ?_ _ | refine blk_drew ?_ | refine blk_alloc ?_ _)); refine blk_put (cs := #[.slice none 0 0]) ?_ 0 _ rfl; (with_reducible repeat (first | refine blk_drewN ?_ _ | refine blk_drew ?_ | refine blk_alloc ?_ _)); exact BK102.out) Try.underlying29 rfl (by kernel_rfl)) rfl ?_
              exact ⟨_, rfl, by (with_reducible repeat (first | apply Kd.R_alloc | apply Kd.R_drewN | apply Kd.R_drew)); exact Kd.R_mono (Kd.R_far (p := ⟨gb102, 0, none⟩) (Kd.R_types (by (with_reducible repeat (first | apply Kd.R_alloc | apply Kd.R_drewN | apply Kd.R_drew)); exact HO6.out) (kp BK102) (by decide)) (fun _ hk => hk.2) (.slice Ao (layF [] (l0_0 ++ l1)).length co)) (fun _ hk => trivial), kb HB⟩
end Go.Proofs.Ytnffcpajfojajaa.Q
end
