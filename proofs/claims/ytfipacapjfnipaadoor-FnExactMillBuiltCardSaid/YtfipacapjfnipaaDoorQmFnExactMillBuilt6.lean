/- Several texts of this seat put together by merge.py, without what this claim does not use. -/
import Derived.Test.YtfipacapjfnipaaDoorQmFnExactMillBuilt1
import Derived.Test.YtfipacapjfnipaaDoorQmFnExactMillBuilt5
import Derived.Test.YtfipacapjfnipaaDoorQmFnExactMillBuilt3
import Derived.Test.YtfipacapjfnipaaDoorQmFnExactMillBuilt2
import Derived.Test.YtfipacapjfnipaaDoorQmFnExactMillBuilt4
import Derived.Test.YtfipacapjfnipaaDoorQmFnExactMillBuiltWWords
import Derived.Test.YtfipacapjfnipaaDoorQmFnExactMillBuiltQf14
import Derived.Lib.ItoaLen
import Derived.Lib.ParseIntBTie
import Derived.Lib.ParseIntBCases
section
namespace Go.Proofs.YtfipacapjfnipaaDoor.Q
open Go.RowKit Go.Proofs.YtfipacapjfnipaaDoorW.PrintWords Go.Proofs.YtfipacapjfnipaaDoorW.PrintLast Go.Proofs.YtfipacapjfnipaaDoorW.PrintMore Go.Proofs.YtfipacapjfnipaaDoor.Short
attribute [local go_sem] max2_int min2_int max_two min_two max_three min_three max_four min_four   
set_option linter.unusedVariables false
set_option linter.unusedSimpArgs false
def laws_eqMillValueS.l0 : Nat → List (S25) → List (S25) → Int → Option (Bool)
  | 0, _, _, _ => none
  | k + 1, x0, x1, x5 => if x5 < (x0.length : Int) then (if 0 ≤ x5 then (if x5 < (x1.length : Int) then ((laws_eqMillValue.f ((rd_T25 x0 x5).f0) ((rd_T25 x0 x5).f1) ((rd_T25 x0 x5).f2) ((rd_T25 x1 x5).f0) ((rd_T25 x1 x5).f1) ((rd_T25 x1 x5).f2)).bind fun t103 => (if t103 = true then (laws_eqMillValueS.l0 k x0 x1 (wrap64 (x5 + 1))) else (some false))) else (none)) else (none)) else (some true)
def laws_eqMillValueS.f (k : Nat) (l0 : List (S25)) (l1 : List (S25)) : Option (Bool) := if (l0.length : Int) = (l1.length : Int) then (laws_eqMillValueS.l0 k l0 l1 0) else (some false)
def laws_eqMillValueS.T6 : Bool × List (List Nat × List Nat) := (true, [([], []), ([], []), ([0, 1], [0, 1]), ([2], [2]), ([], []), ([], []), ([4, 5], [4, 5]), ([6], [6]), ([3, 7], [3, 7]), ([8], [8])])
def laws_eqMillValueS.B6 : List Nat := [0, 0, 3, 7, 0, 0, 48, 112, 255, 511]
theorem laws_eqMillValueS.tab6 : rtab .any (opsOf Tryd.f9 6) = laws_eqMillValueS.T6 := by kernel_rfl
theorem laws_eqMillValueS.bits6 : waitsOk laws_eqMillValueS.T6.2 laws_eqMillValueS.B6 = true := by kernel_rfl
set_option maxHeartbeats 8000000 in
set_option maxRecDepth 100000 in
theorem laws_eqMillValueS.calls (k : Nat) (A0 : Option Addr) (c0 : Nat) (l0 : List (S25)) (A1 : Option Addr) (c1 : Nat) (l1 : List (S25)) (r : Bool) (w : World) (hr0 : Kd.C k25 w A0 l0.length l0) (hc0 : l0.length ≤ c0) (hr1 : Kd.C k25 w A1 l1.length l1) (hc1 : l1.length ≤ c1) (h : laws_eqMillValueS.f k l0 l1 = some r) :
    Calls Tryd.prog 9 #[.slice A0 l0.length c0, .slice A1 l1.length c1] w fun e w' => e = .returned (.bool r) ∧ Below w.heap.size w w' := by
  have hu25 := Tryd.underlying25
  have HR0 := Aside0.mk hr0
  have HC0 := Aside0.mk hc0
  clear hr0 hc0
  have HR1 := Aside0.mk hr1
  have HC1 := Aside0.mk hc1
  clear hr1 hc1
  have HB := Aside0.mk (Below.refl w.heap.size w)
  have H : (if (l0.length : Int) = (l1.length : Int) then (laws_eqMillValueS.l0 k l0 l1 0) else (some false)) = some r := h
  clear h
  by_cases c3 : (l0.length : Int) = (l1.length : Int)
  · rw [if_pos c3] at H
    have c3b0 : ((l0.length : Int) == (l1.length : Int)) = true := beq_iff_eq.mpr c3
    have c3b1 : ((l0.length : Int) != (l1.length : Int)) = false := bne_eq_false_iff_eq.mpr c3
    have c3b2 : (l0.length == l1.length) = true := by first | simpa using c3 | (simp at c3 ⊢; omega)
    clear c3
    have H' := Aside0.mk H
    clear H
    go_enter Tryd.func9, Tryd.ntmps9
    go_wp2
    go_loopg [5] k (fun kq v5 w' => ∃ (x5_1 : Int), v5 = .int .i64 x5_1 ∧ Aside0 (laws_eqMillValueS.l0 kq l0 l1 x5_1 = some r) ∧ Aside0 (kq ≤ k) ∧ Aside0 (Below w.heap.size w w'))
    case atStart => exact ⟨(0), (by first | rfl | (simp; done) | (simp [*]; done)), H', ⟨Nat.le_refl _⟩, ⟨kb HB⟩⟩
    case round =>
      clear H'
      obtain ⟨x5_1, rfl, HA, HK1, HB⟩ := hrel
      cases gk with
      | zero => exact absurd HA.out (by simp [laws_eqMillValueS.l0])
      | succ k1 =>
        have H := HA.out
        clear HA
        simp only [laws_eqMillValueS.l0] at H
        by_cases c4 : x5_1 < (l0.length : Int)
        · rw [if_pos c4] at H
          have c4b0 : decide (x5_1 < (l0.length : Int)) = true := decide_eq_true c4
          clear c4
          by_cases c5 : 0 ≤ x5_1
          · rw [if_pos c5] at H
            have c5b0 : decide (0 ≤ x5_1) = true := decide_eq_true c5
            clear c5
            by_cases c6 : x5_1 < (l1.length : Int)
            · rw [if_pos c6] at H
              have c6b0 : decide (x5_1 < (l1.length : Int)) = true := decide_eq_true c6
              clear c6
              replace H := Option.bind_eq_some_iff.mp H
              obtain ⟨t103, A70, H⟩ := H
              replace H : (if t103 = true then (laws_eqMillValueS.l0 k1 l0 l1 (wrap64 (x5_1 + 1))) else (some false)) = some r := H
              have A7 := Aside0.mk A70
              clear A70
              by_cases c8 : t103 = true
              · subst c8
                have H1 : (laws_eqMillValueS.l0 k1 l0 l1 (wrap64 (x5_1 + 1))) = some r := by rw [if_pos rfl] at H; exact H
                clear H
                have H := H1
                clear H1
                have H' := Aside0.mk H
                clear H
                try go_wp2
                have n0_ := Aside0.mk (below_drew1 HB.out)
                clear HB
                have HB := n0_
                clear n0_
                have p101 : 0 ≤ (x5_1 : Int) := of_decide_eq_true (by first | (with_reducible assumption) | assumption)
                have q101 : x5_1 < (l0.length : Int) := of_decide_eq_true (by first | (with_reducible assumption) | assumption)
                obtain ⟨ad101, e101, hx101_0, hx101_1, hx101_2⟩ := at_T25 HR0.out x5_1 p101 q101
                have hw101_2 := hx101_2
                have hw101_1 := hx101_1
                have hw101_0 := hx101_0
                cases e101
                replace hx101_0 := (HB.out.cell (World.block_lt_of_cell? w _ hx101_0)).trans hx101_0
                replace hx101_1 := (HB.out.cell (World.block_lt_of_cell? w _ hx101_1)).trans hx101_1
                replace hx101_2 := (HB.out.cell (World.block_lt_of_cell? w _ hx101_2)).trans hx101_2
                replace p101 := eq_true p101
                replace q101 := eq_true q101
                have p102 : 0 ≤ (x5_1 : Int) := of_decide_eq_true (by first | (with_reducible assumption) | assumption)
                have q102 : x5_1 < (l1.length : Int) := of_decide_eq_true (by first | (with_reducible assumption) | assumption)
                obtain ⟨ad102, e102, hx102_0, hx102_1, hx102_2⟩ := at_T25 HR1.out x5_1 p102 q102
                have hw102_2 := hx102_2
                have hw102_1 := hx102_1
                have hw102_0 := hx102_0
                cases e102
                replace hx102_0 := (HB.out.cell (World.block_lt_of_cell? w _ hx102_0)).trans hx102_0
                replace hx102_1 := (HB.out.cell (World.block_lt_of_cell? w _ hx102_1)).trans hx102_1
                replace hx102_2 := (HB.out.cell (World.block_lt_of_cell? w _ hx102_2)).trans hx102_2
                replace p102 := eq_true p102
                replace q102 := eq_true q102
                refine start_ (n := 10) (S := fun w' => w'.cell? (ad101.add ((x5_1).toNat * 3)) = some (.int .i64 ((rd_T25 l0 x5_1).f0)) ∧ w'.cell? ⟨(ad101.add ((x5_1).toNat * 3)).block, (ad101.add ((x5_1).toNat * 3)).off + 1, none⟩ = some (.int .i64 ((rd_T25 l0 x5_1).f1)) ∧ w'.cell? ⟨(ad101.add ((x5_1).toNat * 3)).block, (ad101.add ((x5_1).toNat * 3)).off + 2, none⟩ = some (.string ((rd_T25 l0 x5_1).f2)) ∧ w'.cell? (ad102.add ((x5_1).toNat * 3)) = some (.int .i64 ((rd_T25 l1 x5_1).f0)) ∧ w'.cell? ⟨(ad102.add ((x5_1).toNat * 3)).block, (ad102.add ((x5_1).toNat * 3)).off + 1, none⟩ = some (.int .i64 ((rd_T25 l1 x5_1).f1)) ∧ w'.cell? ⟨(ad102.add ((x5_1).toNat * 3)).block, (ad102.add ((x5_1).toNat * 3)).off + 2, none⟩ = some (.string ((rd_T25 l1 x5_1).f2))) (ds := []) #[false, false, false, false, false, false, false, false, false, false] (by kernel_rfl) rfl rfl ⟨((HB.out.cell (World.block_lt_of_cell? w _ hw101_0)).trans hw101_0), ((HB.out.cell (World.block_lt_of_cell? w _ hw101_1)).trans hw101_1), ((HB.out.cell (World.block_lt_of_cell? w _ hw101_2)).trans hw101_2), ((HB.out.cell (World.block_lt_of_cell? w _ hw102_0)).trans hw102_0), ((HB.out.cell (World.block_lt_of_cell? w _ hw102_1)).trans hw102_1), ((HB.out.cell (World.block_lt_of_cell? w _ hw102_2)).trans hw102_2)⟩ (fun hHeld => ?_); refine with_tabW laws_eqMillValueS.tab6 laws_eqMillValueS.bits6 (fun HT_ HW_ => ?_)
                generalize wr.drew = w9 at HB hx101_0 hx101_1 hx101_2 hx102_0 hx102_1 hx102_2 hHeld ⊢
                refine pure_ (i := 0) (N := some 17) (v := ?_) (a' := ?_) #[true, false, false, false, false, false, false, false, false, false] rfl rfl (any_of HT_.out (by kernel_rfl)) (fun _ _ _ h => h) (Or.inl ⟨by rfl, ?_⟩) ?_ ?_
                rotate_left
                · intro w'
                  go_simp
                  with_reducible rfl
                rotate_left
                · simp only [Act.put, List.setIfInBounds_toArray, List.set_cons_zero, List.set_cons_succ, i64_w, i32_w]
                  rfl
                refine pure_ (i := 1) (N := some 18) (v := ?_) (a' := ?_) #[true, true, false, false, false, false, false, false, false, false] rfl rfl (any_of HT_.out (by kernel_rfl)) (fun _ _ _ h => h) (Or.inl ⟨by rfl, ?_⟩) ?_ ?_
                rotate_left
                · intro w'
                  go_simp
                  with_reducible rfl
                rotate_left
                · simp only [Act.put, List.setIfInBounds_toArray, List.set_cons_zero, List.set_cons_succ, i64_w, i32_w]
                  rfl
                refine pure_ (i := 2) (N := some 19) (v := ?_) (a' := ?_) #[true, true, true, false, false, false, false, false, false, false] rfl rfl (any_of HT_.out (by kernel_rfl)) (fun _ _ _ h => h) (Or.inl ⟨by rfl, ?_⟩) ?_ ?_
                rotate_left
                · intro w'
                  go_simp
                  with_reducible rfl
                rotate_left
                · simp only [Act.put, List.setIfInBounds_toArray, List.set_cons_zero, List.set_cons_succ, i64_w, i32_w]
                  rfl
                refine pure_ (i := 4) (N := some 21) (v := ?_) (a' := ?_) #[true, true, true, false, true, false, false, false, false, false] rfl rfl (any_of HT_.out (by kernel_rfl)) (fun _ _ _ h => h) (Or.inl ⟨by rfl, ?_⟩) ?_ ?_
                rotate_left
                · intro w'
                  go_simp
                  with_reducible rfl
                rotate_left
                · simp only [Act.put, List.setIfInBounds_toArray, List.set_cons_zero, List.set_cons_succ, i64_w, i32_w]
                  rfl
                refine pure_ (i := 5) (N := some 22) (v := ?_) (a' := ?_) #[true, true, true, false, true, true, false, false, false, false] rfl rfl (any_of HT_.out (by kernel_rfl)) (fun _ _ _ h => h) (Or.inl ⟨by rfl, ?_⟩) ?_ ?_
                rotate_left
                · intro w'
                  go_simp
                  with_reducible rfl
                rotate_left
                · simp only [Act.put, List.setIfInBounds_toArray, List.set_cons_zero, List.set_cons_succ, i64_w, i32_w]
                  rfl
                refine pure_ (i := 6) (N := some 23) (v := ?_) (a' := ?_) #[true, true, true, false, true, true, true, false, false, false] rfl rfl (any_of HT_.out (by kernel_rfl)) (fun _ _ _ h => h) (Or.inl ⟨by rfl, ?_⟩) ?_ ?_
                rotate_left
                · intro w'
                  go_simp
                  with_reducible rfl
                rotate_left
                · simp only [Act.put, List.setIfInBounds_toArray, List.set_cons_zero, List.set_cons_succ, i64_w, i32_w]
                  rfl
                refine take_ (i := 3) (N := some 20) (v := ?_) (a' := ?_) #[true, true, true, true, true, true, true, false, false, false] rfl rfl (take_ofW HT_.out HW_.out (by kernel_rfl)) (fun _ _ _ h => h) (Or.inl ⟨by rfl, ?_⟩) hHeld ?_ ?_
                rotate_left
                · rintro w' ⟨s0, s1, s2, s3, s4, s5⟩
                  go_simp
                  with_reducible rfl
                rotate_left
                · simp only [Act.put, List.setIfInBounds_toArray, List.set_cons_zero, List.set_cons_succ, i64_w, i32_w]
                  rfl
                refine take_ (i := 7) (N := some 24) (v := ?_) (a' := ?_) #[true, true, true, true, true, true, true, true, false, false] rfl rfl (take_ofW HT_.out HW_.out (by kernel_rfl)) (fun _ _ _ h => h) (Or.inl ⟨by rfl, ?_⟩) hHeld ?_ ?_
                rotate_left
                · rintro w' ⟨s0, s1, s2, s3, s4, s5⟩
                  go_simp
                  with_reducible rfl
                rotate_left
                · simp only [Act.put, List.setIfInBounds_toArray, List.set_cons_zero, List.set_cons_succ, i64_w, i32_w]
                  rfl
                refine one_ (i := 8) (N := some 25) #[true, true, true, true, true, true, true, true, true, false] rfl rfl (one_of HT_.out (by kernel_rfl)) (by decide) (fun K hK => ?_)
                refine goes_ Tryd.func8 (by kernel_rfl) rfl #[.agg #[.int .i64 ((rd_T25 l0 x5_1).f0), .int .i64 ((rd_T25 l0 x5_1).f1), .string ((rd_T25 l0 x5_1).f2)], .agg #[.int .i64 ((rd_T25 l1 x5_1).f0), .int .i64 ((rd_T25 l1 x5_1).f1), .string ((rd_T25 l1 x5_1).f2)]] (by rfl) rfl rfl (by (try simp only [List.map_toArray, List.map_cons, List.map_nil]); first | done | rfl | (simp only [List.length_drop, List.length_take]; rfl)) ?_
                with_reducible refine (laws_eqMillValue.calls ((rd_T25 l0 x5_1).f0) ((rd_T25 l0 x5_1).f1) ((rd_T25 l0 x5_1).f2) ((rd_T25 l1 x5_1).f0) ((rd_T25 l1 x5_1).f1) ((rd_T25 l1 x5_1).f2) true _ A7.out).mono ?_
                rintro e w10 ⟨rfl, hb⟩
                refine ⟨_, rfl, ?_⟩
                have n0_ := kS HB hb
                clear HB
                have HB := n0_
                clear n0_
                (try clear hb)
                (try clear hb2)
                (try clear hk)
                (try clear hi)
                refine hK.out _ _ ⟨((HB.out.cell (World.block_lt_of_cell? w _ hw101_0)).trans hw101_0), ((HB.out.cell (World.block_lt_of_cell? w _ hw101_1)).trans hw101_1), ((HB.out.cell (World.block_lt_of_cell? w _ hw101_2)).trans hw101_2), ((HB.out.cell (World.block_lt_of_cell? w _ hw102_0)).trans hw102_0), ((HB.out.cell (World.block_lt_of_cell? w _ hw102_1)).trans hw102_1), ((HB.out.cell (World.block_lt_of_cell? w _ hw102_2)).trans hw102_2)⟩ (fun hHeld => ?_)
                clear hK K
                refine norm_ (a' := ?_) ?_ ?_
                rotate_left
                · show Act.put _ (some 25) _ = _
                  simp only [Act.put, List.setIfInBounds_toArray, List.set_cons_zero, List.set_cons_succ, i64_w, i32_w]
                  rfl
                refine pure_ (i := 9) (N := some 26) (v := ?_) (a' := ?_) #[true, true, true, true, true, true, true, true, true, true] rfl rfl (any_of HT_.out (by kernel_rfl)) (fun _ _ _ h => h) (Or.inl ⟨by rfl, ?_⟩) ?_ ?_
                rotate_left
                · intro w'
                  go_simp
                  with_reducible rfl
                rotate_left
                · simp only [Act.put, List.setIfInBounds_toArray, List.set_cons_zero, List.set_cons_succ, i64_w, i32_w]
                  rfl
                refine done_ (done_of HT_.out (by kernel_rfl)) ?_
                try go_wp2
                go_roundg k1
                case measure => have := HK1.out; omega
                case rel => exact ⟨(wrap64 (x5_1 + 1)), (by first | rfl | (simp; done) | (simp [*]; done)), H', ⟨by have := HK1.out; omega⟩, ⟨kb HB⟩⟩
              · replace c8 := Bool.eq_false_iff.mpr c8
                subst c8
                have H1 : (some false) = some r := by rw [if_neg (show ¬ (false = true) by decide)] at H; exact H
                clear H
                have H := H1
                clear H1
                obtain rfl := Option.some.inj H
                try go_wp2
                have n0_ := Aside0.mk (below_drew1 HB.out)
                clear HB
                have HB := n0_
                clear n0_
                have p101 : 0 ≤ (x5_1 : Int) := of_decide_eq_true (by first | (with_reducible assumption) | assumption)
                have q101 : x5_1 < (l0.length : Int) := of_decide_eq_true (by first | (with_reducible assumption) | assumption)
                obtain ⟨ad101, e101, hx101_0, hx101_1, hx101_2⟩ := at_T25 HR0.out x5_1 p101 q101
                have hw101_2 := hx101_2
                have hw101_1 := hx101_1
                have hw101_0 := hx101_0
                cases e101
                replace hx101_0 := (HB.out.cell (World.block_lt_of_cell? w _ hx101_0)).trans hx101_0
                replace hx101_1 := (HB.out.cell (World.block_lt_of_cell? w _ hx101_1)).trans hx101_1
                replace hx101_2 := (HB.out.cell (World.block_lt_of_cell? w _ hx101_2)).trans hx101_2
                replace p101 := eq_true p101
                replace q101 := eq_true q101
                have p102 : 0 ≤ (x5_1 : Int) := of_decide_eq_true (by first | (with_reducible assumption) | assumption)
                have q102 : x5_1 < (l1.length : Int) := of_decide_eq_true (by first | (with_reducible assumption) | assumption)
                obtain ⟨ad102, e102, hx102_0, hx102_1, hx102_2⟩ := at_T25 HR1.out x5_1 p102 q102
                have hw102_2 := hx102_2
                have hw102_1 := hx102_1
                have hw102_0 := hx102_0
                cases e102
                replace hx102_0 := (HB.out.cell (World.block_lt_of_cell? w _ hx102_0)).trans hx102_0
                replace hx102_1 := (HB.out.cell (World.block_lt_of_cell? w _ hx102_1)).trans hx102_1
                replace hx102_2 := (HB.out.cell (World.block_lt_of_cell? w _ hx102_2)).trans hx102_2
                replace p102 := eq_true p102
                replace q102 := eq_true q102
                refine start_ (n := 10) (S := fun w' => w'.cell? (ad101.add ((x5_1).toNat * 3)) = some (.int .i64 ((rd_T25 l0 x5_1).f0)) ∧ w'.cell? ⟨(ad101.add ((x5_1).toNat * 3)).block, (ad101.add ((x5_1).toNat * 3)).off + 1, none⟩ = some (.int .i64 ((rd_T25 l0 x5_1).f1)) ∧ w'.cell? ⟨(ad101.add ((x5_1).toNat * 3)).block, (ad101.add ((x5_1).toNat * 3)).off + 2, none⟩ = some (.string ((rd_T25 l0 x5_1).f2)) ∧ w'.cell? (ad102.add ((x5_1).toNat * 3)) = some (.int .i64 ((rd_T25 l1 x5_1).f0)) ∧ w'.cell? ⟨(ad102.add ((x5_1).toNat * 3)).block, (ad102.add ((x5_1).toNat * 3)).off + 1, none⟩ = some (.int .i64 ((rd_T25 l1 x5_1).f1)) ∧ w'.cell? ⟨(ad102.add ((x5_1).toNat * 3)).block, (ad102.add ((x5_1).toNat * 3)).off + 2, none⟩ = some (.string ((rd_T25 l1 x5_1).f2))) (ds := []) #[false, false, false, false, false, false, false, false, false, false] (by kernel_rfl) rfl rfl ⟨((HB.out.cell (World.block_lt_of_cell? w _ hw101_0)).trans hw101_0), ((HB.out.cell (World.block_lt_of_cell? w _ hw101_1)).trans hw101_1), ((HB.out.cell (World.block_lt_of_cell? w _ hw101_2)).trans hw101_2), ((HB.out.cell (World.block_lt_of_cell? w _ hw102_0)).trans hw102_0), ((HB.out.cell (World.block_lt_of_cell? w _ hw102_1)).trans hw102_1), ((HB.out.cell (World.block_lt_of_cell? w _ hw102_2)).trans hw102_2)⟩ (fun hHeld => ?_); refine with_tabW laws_eqMillValueS.tab6 laws_eqMillValueS.bits6 (fun HT_ HW_ => ?_)
                generalize wr.drew = w11 at HB hx101_0 hx101_1 hx101_2 hx102_0 hx102_1 hx102_2 hHeld ⊢
                refine pure_ (i := 0) (N := some 17) (v := ?_) (a' := ?_) #[true, false, false, false, false, false, false, false, false, false] rfl rfl (any_of HT_.out (by kernel_rfl)) (fun _ _ _ h => h) (Or.inl ⟨by rfl, ?_⟩) ?_ ?_
                rotate_left
                · intro w'
                  go_simp
                  with_reducible rfl
                rotate_left
                · simp only [Act.put, List.setIfInBounds_toArray, List.set_cons_zero, List.set_cons_succ, i64_w, i32_w]
                  rfl
                refine pure_ (i := 1) (N := some 18) (v := ?_) (a' := ?_) #[true, true, false, false, false, false, false, false, false, false] rfl rfl (any_of HT_.out (by kernel_rfl)) (fun _ _ _ h => h) (Or.inl ⟨by rfl, ?_⟩) ?_ ?_
                rotate_left
                · intro w'
                  go_simp
                  with_reducible rfl
                rotate_left
                · simp only [Act.put, List.setIfInBounds_toArray, List.set_cons_zero, List.set_cons_succ, i64_w, i32_w]
                  rfl
                refine pure_ (i := 2) (N := some 19) (v := ?_) (a' := ?_) #[true, true, true, false, false, false, false, false, false, false] rfl rfl (any_of HT_.out (by kernel_rfl)) (fun _ _ _ h => h) (Or.inl ⟨by rfl, ?_⟩) ?_ ?_
                rotate_left
                · intro w'
                  go_simp
                  with_reducible rfl
                rotate_left
                · simp only [Act.put, List.setIfInBounds_toArray, List.set_cons_zero, List.set_cons_succ, i64_w, i32_w]
                  rfl
                refine pure_ (i := 4) (N := some 21) (v := ?_) (a' := ?_) #[true, true, true, false, true, false, false, false, false, false] rfl rfl (any_of HT_.out (by kernel_rfl)) (fun _ _ _ h => h) (Or.inl ⟨by rfl, ?_⟩) ?_ ?_
                rotate_left
                · intro w'
                  go_simp
                  with_reducible rfl
                rotate_left
                · simp only [Act.put, List.setIfInBounds_toArray, List.set_cons_zero, List.set_cons_succ, i64_w, i32_w]
                  rfl
                refine pure_ (i := 5) (N := some 22) (v := ?_) (a' := ?_) #[true, true, true, false, true, true, false, false, false, false] rfl rfl (any_of HT_.out (by kernel_rfl)) (fun _ _ _ h => h) (Or.inl ⟨by rfl, ?_⟩) ?_ ?_
                rotate_left
                · intro w'
                  go_simp
                  with_reducible rfl
                rotate_left
                · simp only [Act.put, List.setIfInBounds_toArray, List.set_cons_zero, List.set_cons_succ, i64_w, i32_w]
                  rfl
                refine pure_ (i := 6) (N := some 23) (v := ?_) (a' := ?_) #[true, true, true, false, true, true, true, false, false, false] rfl rfl (any_of HT_.out (by kernel_rfl)) (fun _ _ _ h => h) (Or.inl ⟨by rfl, ?_⟩) ?_ ?_
                rotate_left
                · intro w'
                  go_simp
                  with_reducible rfl
                rotate_left
                · simp only [Act.put, List.setIfInBounds_toArray, List.set_cons_zero, List.set_cons_succ, i64_w, i32_w]
                  rfl
                refine take_ (i := 3) (N := some 20) (v := ?_) (a' := ?_) #[true, true, true, true, true, true, true, false, false, false] rfl rfl (take_ofW HT_.out HW_.out (by kernel_rfl)) (fun _ _ _ h => h) (Or.inl ⟨by rfl, ?_⟩) hHeld ?_ ?_
                rotate_left
                · rintro w' ⟨s0, s1, s2, s3, s4, s5⟩
                  go_simp
                  with_reducible rfl
                rotate_left
                · simp only [Act.put, List.setIfInBounds_toArray, List.set_cons_zero, List.set_cons_succ, i64_w, i32_w]
                  rfl
                refine take_ (i := 7) (N := some 24) (v := ?_) (a' := ?_) #[true, true, true, true, true, true, true, true, false, false] rfl rfl (take_ofW HT_.out HW_.out (by kernel_rfl)) (fun _ _ _ h => h) (Or.inl ⟨by rfl, ?_⟩) hHeld ?_ ?_
                rotate_left
                · rintro w' ⟨s0, s1, s2, s3, s4, s5⟩
                  go_simp
                  with_reducible rfl
                rotate_left
                · simp only [Act.put, List.setIfInBounds_toArray, List.set_cons_zero, List.set_cons_succ, i64_w, i32_w]
                  rfl
                refine one_ (i := 8) (N := some 25) #[true, true, true, true, true, true, true, true, true, false] rfl rfl (one_of HT_.out (by kernel_rfl)) (by decide) (fun K hK => ?_)
                refine goes_ Tryd.func8 (by kernel_rfl) rfl #[.agg #[.int .i64 ((rd_T25 l0 x5_1).f0), .int .i64 ((rd_T25 l0 x5_1).f1), .string ((rd_T25 l0 x5_1).f2)], .agg #[.int .i64 ((rd_T25 l1 x5_1).f0), .int .i64 ((rd_T25 l1 x5_1).f1), .string ((rd_T25 l1 x5_1).f2)]] (by rfl) rfl rfl (by (try simp only [List.map_toArray, List.map_cons, List.map_nil]); first | done | rfl | (simp only [List.length_drop, List.length_take]; rfl)) ?_
                with_reducible refine (laws_eqMillValue.calls ((rd_T25 l0 x5_1).f0) ((rd_T25 l0 x5_1).f1) ((rd_T25 l0 x5_1).f2) ((rd_T25 l1 x5_1).f0) ((rd_T25 l1 x5_1).f1) ((rd_T25 l1 x5_1).f2) false _ A7.out).mono ?_
                rintro e w12 ⟨rfl, hb⟩
                refine ⟨_, rfl, ?_⟩
                have n0_ := kS HB hb
                clear HB
                have HB := n0_
                clear n0_
                (try clear hb)
                (try clear hb2)
                (try clear hk)
                (try clear hi)
                refine hK.out _ _ ⟨((HB.out.cell (World.block_lt_of_cell? w _ hw101_0)).trans hw101_0), ((HB.out.cell (World.block_lt_of_cell? w _ hw101_1)).trans hw101_1), ((HB.out.cell (World.block_lt_of_cell? w _ hw101_2)).trans hw101_2), ((HB.out.cell (World.block_lt_of_cell? w _ hw102_0)).trans hw102_0), ((HB.out.cell (World.block_lt_of_cell? w _ hw102_1)).trans hw102_1), ((HB.out.cell (World.block_lt_of_cell? w _ hw102_2)).trans hw102_2)⟩ (fun hHeld => ?_)
                clear hK K
                refine norm_ (a' := ?_) ?_ ?_
                rotate_left
                · show Act.put _ (some 25) _ = _
                  simp only [Act.put, List.setIfInBounds_toArray, List.set_cons_zero, List.set_cons_succ, i64_w, i32_w]
                  rfl
                refine pure_ (i := 9) (N := some 26) (v := ?_) (a' := ?_) #[true, true, true, true, true, true, true, true, true, true] rfl rfl (any_of HT_.out (by kernel_rfl)) (fun _ _ _ h => h) (Or.inl ⟨by rfl, ?_⟩) ?_ ?_
                rotate_left
                · intro w'
                  go_simp
                  with_reducible rfl
                rotate_left
                · simp only [Act.put, List.setIfInBounds_toArray, List.set_cons_zero, List.set_cons_succ, i64_w, i32_w]
                  rfl
                refine done_ (done_of HT_.out (by kernel_rfl)) ?_
                try go_wp2
                go_ret
                exact ⟨by first | rfl | (simp [errW_none, errW_some] <;> rfl) | (simp [*, errW_none, errW_some] <;> rfl), kb HB⟩
            · rw [if_neg c6] at H
              exact absurd H (by simp)
          · rw [if_neg c5] at H
            exact absurd H (by simp)
        · rw [if_neg c4] at H
          have c4b0 : decide (x5_1 < (l0.length : Int)) = false := decide_eq_false c4
          clear c4
          obtain rfl := Option.some.inj H
          go_wp2
          go_ret
          exact ⟨by first | rfl | (simp [errW_none, errW_some] <;> rfl) | (simp [*, errW_none, errW_some] <;> rfl), kb HB⟩
  · rw [if_neg c3] at H
    have c3b0 : ((l0.length : Int) == (l1.length : Int)) = false := beq_eq_false_iff_ne.mpr c3
    have c3b1 : ((l0.length : Int) != (l1.length : Int)) = true := bne_iff_ne.mpr c3
    have c3b2 : (l0.length == l1.length) = false := by first | simpa using c3 | (simp at c3 ⊢; omega)
    obtain rfl := Option.some.inj H
    go_enter Tryd.func9, Tryd.ntmps9
    go_wp2
    go_ret
    exact ⟨by first | rfl | (simp [errW_none, errW_some] <;> rfl) | (simp [*, errW_none, errW_some] <;> rfl), kb HB⟩
end Go.Proofs.YtfipacapjfnipaaDoor.Q
end
section
namespace Go.Proofs.YtfipacapjfnipaaDoor.Q
open Go.RowKit Go.Proofs.YtfipacapjfnipaaDoorW.PrintWords Go.Proofs.YtfipacapjfnipaaDoorW.PrintLast Go.Proofs.YtfipacapjfnipaaDoorW.PrintMore Go.Proofs.YtfipacapjfnipaaDoor.Short
attribute [local go_sem] max2_int min2_int max_two min_two max_three min_three max_four min_four   
set_option linter.unusedVariables false
set_option linter.unusedSimpArgs false
def laws_FnExactMillBuilt.j0 : Nat → List (S34) → List (S25) → Bool → Option (Bool)
  | 0, _, _, _ => none
  | k + 1, x1, x8, x39 => if x39 = true then (some false) else ((laws_toMillValueS.f k x1).bind fun t119 => ((laws_eqMillValueS.f k x8 t119).bind fun t122 => (if t122 = true then (some true) else (some false))))
def laws_FnExactMillBuilt.f (k : Nat) (a0 : Int) (l1 : List (S34)) : Option (Bool) := (laws_szMillValueS.f k l1 1048576).bind fun t101 => (if t101 < 0 then (some true) else ((laws_toMillValueS.f k l1).bind fun t102 => ((spec_MillBuilt.f k a0 t102).bind fun bt105 => ((laws_toMillValueS.f k l1).bind fun t110 => ((impl_MillBuilt.f k a0 t110).bind fun bt113 => ((laws_eqMillValue.f bt113.1 bt113.2.1 bt113.2.2.1 bt105.1 bt105.2.1 bt105.2.2.1).bind fun t118 => (if t118 = true then (laws_FnExactMillBuilt.j0 k l1 t110 (bt113.2.2.2.toList != bt105.2.2.2.toList)) else (laws_FnExactMillBuilt.j0 k l1 t110 true))))))))
set_option maxHeartbeats 8000000 in
set_option maxRecDepth 100000 in
theorem laws_FnExactMillBuilt.calls (k : Nat) (a0 : Int) (A1 : Option Addr) (c1 : Nat) (l1 : List (S34)) (r : Bool) (w : World) (hG : Glob w) (hr1 : Kd.C k34 w A1 l1.length l1) (hc1 : l1.length ≤ c1) (h : laws_FnExactMillBuilt.f k a0 l1 = some r) :
    Calls Tryd.prog 3 #[.int .i64 a0, .slice A1 l1.length c1] w fun e w' => e = .returned (.bool r) ∧ Below w.heap.size w w' := by
  have hu25 := Tryd.underlying25
  have HR1 := Aside0.mk hr1
  have HC1 := Aside0.mk hc1
  clear hr1 hc1
  have HB := Aside0.mk (Below.refl w.heap.size w)
  have HG := Aside0.mk hG
  clear hG
  have H : ((laws_szMillValueS.f k l1 1048576).bind fun t101 => (if t101 < 0 then (some true) else ((laws_toMillValueS.f k l1).bind fun t102 => ((spec_MillBuilt.f k a0 t102).bind fun bt105 => ((laws_toMillValueS.f k l1).bind fun t110 => ((impl_MillBuilt.f k a0 t110).bind fun bt113 => ((laws_eqMillValue.f bt113.1 bt113.2.1 bt113.2.2.1 bt105.1 bt105.2.1 bt105.2.2.1).bind fun t118 => (if t118 = true then (laws_FnExactMillBuilt.j0 k l1 t110 (bt113.2.2.2.toList != bt105.2.2.2.toList)) else (laws_FnExactMillBuilt.j0 k l1 t110 true))))))))) = some r := h
  clear h
  replace H := Option.bind_eq_some_iff.mp H
  obtain ⟨t101, A30, H⟩ := H
  replace H : (if t101 < 0 then (some true) else ((laws_toMillValueS.f k l1).bind fun t102 => ((spec_MillBuilt.f k a0 t102).bind fun bt105 => ((laws_toMillValueS.f k l1).bind fun t110 => ((impl_MillBuilt.f k a0 t110).bind fun bt113 => ((laws_eqMillValue.f bt113.1 bt113.2.1 bt113.2.2.1 bt105.1 bt105.2.1 bt105.2.2.1).bind fun t118 => (if t118 = true then (laws_FnExactMillBuilt.j0 k l1 t110 (bt113.2.2.2.toList != bt105.2.2.2.toList)) else (laws_FnExactMillBuilt.j0 k l1 t110 true)))))))) = some r := H
  have A3 := Aside0.mk A30
  clear A30
  by_cases c4 : t101 < 0
  · rw [if_pos c4] at H
    have c4b0 : decide (t101 < 0) = true := decide_eq_true c4
    clear c4
    obtain rfl := Option.some.inj H
    go_enter Tryd.func3, Tryd.ntmps3
    go_wp2_with (first | ((with_reducible refine gate_callee (f := 4) rfl ?_); refine gL (some 13) Tryd.func4 #[.slice A1 l1.length c1, .int .i64 1048576] (laws_szMillValueS.calls k _ _ l1 1048576 t101 _ ?side1 ?side2 A3.out) ?_; (case side1 => repeat (first | exact HR1.out | (with_reducible refine Kd.C_alloc ?_ _) | (with_reducible refine Kd.C_drewN ?_ _) | (with_reducible refine Kd.C_drew ?_))); (case side2 => exact HC1.out); intro w5 hb; replace HB := kS HB hb))
    go_ret
    exact ⟨by first | rfl | (simp [errW_none, errW_some] <;> rfl) | (simp [*, errW_none, errW_some] <;> rfl), kb HB⟩
  · rw [if_neg c4] at H
    have c4b0 : decide (t101 < 0) = false := decide_eq_false c4
    clear c4
    replace H := Option.bind_eq_some_iff.mp H
    obtain ⟨t102, A60, H⟩ := H
    replace H : ((spec_MillBuilt.f k a0 t102).bind fun bt105 => ((laws_toMillValueS.f k l1).bind fun t110 => ((impl_MillBuilt.f k a0 t110).bind fun bt113 => ((laws_eqMillValue.f bt113.1 bt113.2.1 bt113.2.2.1 bt105.1 bt105.2.1 bt105.2.2.1).bind fun t118 => (if t118 = true then (laws_FnExactMillBuilt.j0 k l1 t110 (bt113.2.2.2.toList != bt105.2.2.2.toList)) else (laws_FnExactMillBuilt.j0 k l1 t110 true)))))) = some r := H
    have A6 := Aside0.mk A60
    clear A60
    replace H := Option.bind_eq_some_iff.mp H
    obtain ⟨⟨t105, t106, t107, t108⟩, A70, H⟩ := H
    replace H : ((laws_toMillValueS.f k l1).bind fun t110 => ((impl_MillBuilt.f k a0 t110).bind fun bt113 => ((laws_eqMillValue.f bt113.1 bt113.2.1 bt113.2.2.1 t105 t106 t107).bind fun t118 => (if t118 = true then (laws_FnExactMillBuilt.j0 k l1 t110 (bt113.2.2.2.toList != t108.toList)) else (laws_FnExactMillBuilt.j0 k l1 t110 true))))) = some r := H
    have A7 := Aside0.mk A70
    clear A70
    replace H := Option.bind_eq_some_iff.mp H
    obtain ⟨t110, A80, H⟩ := H
    replace H : ((impl_MillBuilt.f k a0 t110).bind fun bt113 => ((laws_eqMillValue.f bt113.1 bt113.2.1 bt113.2.2.1 t105 t106 t107).bind fun t118 => (if t118 = true then (laws_FnExactMillBuilt.j0 k l1 t110 (bt113.2.2.2.toList != t108.toList)) else (laws_FnExactMillBuilt.j0 k l1 t110 true)))) = some r := H
    have A8 := Aside0.mk A80
    clear A80
    replace H := Option.bind_eq_some_iff.mp H
    obtain ⟨⟨t113, t114, t115, t116⟩, A90, H⟩ := H
    replace H : ((laws_eqMillValue.f t113 t114 t115 t105 t106 t107).bind fun t118 => (if t118 = true then (laws_FnExactMillBuilt.j0 k l1 t110 (t116.toList != t108.toList)) else (laws_FnExactMillBuilt.j0 k l1 t110 true))) = some r := H
    have A9 := Aside0.mk A90
    clear A90
    have HC10 := Aside0.mk H
    clear H
    go_enter Tryd.func3, Tryd.ntmps3
    go_upto_region 8 with (first | ((with_reducible refine gate_callee (f := 4) rfl ?_); refine gL (some 13) Tryd.func4 #[.slice A1 l1.length c1, .int .i64 1048576] (laws_szMillValueS.calls k _ _ l1 1048576 t101 _ ?side1 ?side2 A3.out) ?_; (case side1 => repeat (first | exact HR1.out | (with_reducible refine Kd.C_alloc ?_ _) | (with_reducible refine Kd.C_drewN ?_ _) | (with_reducible refine Kd.C_drew ?_))); (case side2 => exact HC1.out); intro w11 hb; replace HB := kS HB hb) | ((with_reducible refine gate_callee (f := 6) rfl ?_); refine goesL_ (some 19) rfl rfl Tryd.func6 (by kernel_rfl) rfl #[.slice A1 l1.length c1] rfl (by (try simp only [List.map_toArray, List.map_cons, List.map_nil]); first | done | rfl | (simp only [List.length_drop, List.length_take]; rfl)) ?_; (with_reducible refine (laws_toMillValueS.calls k _ _ l1 t102 _ ?side1 ?side2 A6.out).mono ?_); (case side1 => repeat (first | exact (Kd.C_below HR1.out HB.out) | (with_reducible refine Kd.C_alloc ?_ _) | (with_reducible refine Kd.C_drewN ?_ _) | (with_reducible refine Kd.C_drew ?_))); (case side2 => exact HC1.out); rintro e w12 ⟨v103, rfl, ho0, hb⟩; refine ⟨_, rfl, ?_⟩; have HO104 := Aside0.mk (Kd.R_lower ho0 (below_size (kb HB))); replace HB := kS HB hb; (try clear ho0); obtain ⟨Ao13, co13, eo13⟩ := Kd.R_slice HO104.out; subst eo13) | ((with_reducible refine gate_callee (f := 5) rfl ?_); refine gL (some 20) Tryd.func5 #[.int .i64 a0, .slice Ao13 t102.length co13] (spec_MillBuilt.calls k a0 _ _ t102 t105 t106 t107 t108 _ ?side1 ?side2 A7.out) ?_; (case side1 => repeat (first | exact (Kd.R_reads' HO104.out).2.2 | (with_reducible refine Kd.C_alloc ?_ _) | (with_reducible refine Kd.C_drewN ?_ _) | (with_reducible refine Kd.C_drew ?_))); (case side2 => exact (Kd.R_reads' HO104.out).2.1); intro w14 hb; replace HO104 := Aside0.mk (Kd.R_below (by (with_reducible repeat (first | apply Kd.R_alloc | apply Kd.R_drewN | apply Kd.R_drew)); exact HO104.out) hb); replace HB := kS HB hb) | ((with_reducible refine gate_dst (N := 6) rfl ?_); refine gX 6 #[.int .i64 0, .int .i64 0, .string (⟨#[]⟩ : ByteArray)] 25 ?_; intro gb109 hg w15 hbox hb; have BK109 := Aside0.mk (hbox); have GW109 := gw hg (kb HB); have GE109 := gw hg (kb HB); replace HO104 := Aside0.mk (Kd.R_below (Kd.R_elderB (by (with_reducible repeat (first | apply Kd.R_alloc | apply Kd.R_drewN | apply Kd.R_drew)); exact HO104.out) gb109 (Nat.le_of_eq hg.symm)) hb); replace HB := kS HB hb; clear hb hbox hg; obtain ⟨⟨hcz16_0, hcz16_1, hcz16_2⟩, hfz16_0, hfz16_1, hfz16_2⟩ := bf3 BK109) | ((with_reducible refine gate_callee (f := 6) rfl ?_); refine goesL_ (some 24) rfl rfl Tryd.func6 (by kernel_rfl) rfl #[.slice A1 l1.length c1] rfl (by (try simp only [List.map_toArray, List.map_cons, List.map_nil]); first | done | rfl | (simp only [List.length_drop, List.length_take]; rfl)) ?_; (with_reducible refine (laws_toMillValueS.calls k _ _ l1 t110 _ ?side1 ?side2 A8.out).mono ?_); (case side1 => exact Kd.C_below HR1.out (kb HB)); (case side2 => exact HC1.out); rintro e w17 ⟨v111, rfl, ho0, hb⟩; refine ⟨_, rfl, ?_⟩; have HO112 := Aside0.mk (Kd.R_lower (Kd.R_newB (Kd.R_new' ho0 (Kd.R_lt (by (with_reducible repeat (first | apply Kd.R_alloc | apply Kd.R_drewN | apply Kd.R_drew)); exact (Kd.R_mono (Kd.R_far (p := ⟨gb109, 2, none⟩) (Kd.R_far (p := ⟨gb109, 1, none⟩) (Kd.R_far (p := ⟨gb109, 0, none⟩) (Kd.R_mono HO104.out (fun k_ hk => (⟨hk, hk.2⟩ : _ ∧ k_ ≠ gb109))) (fun _ hk => hk.2) (.int .i64 t105)) (fun _ hk => hk.2) (.int .i64 t106)) (fun _ hk => hk.2) (.string t107)) (fun _ h_ => h_.1))))) (g := gb109) (o := .cells #[.int .i64 t105, .int .i64 t106, .string t107] 25 (0, 0)) (by (with_reducible repeat (first | refine blk_drewN ?_ _ | refine blk_drew ?_ | refine blk_alloc ?_ _)); refine blk_put (cs := #[.int .i64 t105, .int .i64 t106, .string (⟨#[]⟩ : ByteArray)]) ?_ 2 _ rfl; (with_reducible repeat (first | refine blk_drewN ?_ _ | refine blk_drew ?_ | refine blk_alloc ?_ _)); refine blk_put (cs := #[.int .i64 t105, .int .i64 0, .string (⟨#[]⟩ : ByteArray)]) ?_ 1 _ rfl; (with_reducible repeat (first | refine blk_drewN ?_ _ | refine blk_drew ?_ | refine blk_alloc ?_ _)); refine blk_put (cs := #[.int .i64 0, .int .i64 0, .string (⟨#[]⟩ : ByteArray)]) ?_ 0 _ rfl; (with_reducible repeat (first | refine blk_drewN ?_ _ | refine blk_drew ?_ | refine blk_alloc ?_ _)); exact BK109.out)) (below_size (kb HB))); replace HO104 := Aside0.mk (Kd.R_elder' (by (with_reducible repeat (first | apply Kd.R_alloc | apply Kd.R_drewN | apply Kd.R_drew)); exact (Kd.R_mono (Kd.R_far (p := ⟨gb109, 2, none⟩) (Kd.R_far (p := ⟨gb109, 1, none⟩) (Kd.R_far (p := ⟨gb109, 0, none⟩) (Kd.R_mono HO104.out (fun k_ hk => (⟨hk, hk.2⟩ : _ ∧ k_ ≠ gb109))) (fun _ hk => hk.2) (.int .i64 t105)) (fun _ hk => hk.2) (.int .i64 t106)) (fun _ hk => hk.2) (.string t107)) (fun _ h_ => h_.1))) (Kd.R_base ho0) hb); replace BK109 := Aside0.mk (blk_below (g := gb109) (o := .cells #[.int .i64 t105, .int .i64 t106, .string t107] 25 (0, 0)) (by (with_reducible repeat (first | refine blk_drewN ?_ _ | refine blk_drew ?_ | refine blk_alloc ?_ _)); refine blk_put (cs := #[.int .i64 t105, .int .i64 t106, .string (⟨#[]⟩ : ByteArray)]) ?_ 2 _ rfl; (with_reducible repeat (first | refine blk_drewN ?_ _ | refine blk_drew ?_ | refine blk_alloc ?_ _)); refine blk_put (cs := #[.int .i64 t105, .int .i64 0, .string (⟨#[]⟩ : ByteArray)]) ?_ 1 _ rfl; (with_reducible repeat (first | refine blk_drewN ?_ _ | refine blk_drew ?_ | refine blk_alloc ?_ _)); refine blk_put (cs := #[.int .i64 0, .int .i64 0, .string (⟨#[]⟩ : ByteArray)]) ?_ 0 _ rfl; (with_reducible repeat (first | refine blk_drewN ?_ _ | refine blk_drew ?_ | refine blk_alloc ?_ _)); exact BK109.out) hb); replace HB := kS HB hb; (try clear ho0); obtain ⟨Ao18, co18, eo18⟩ := Kd.R_slice HO112.out; subst eo18) | ((with_reducible refine gate_callee (f := 7) rfl ?_); refine gL (some 28) Tryd.func7 #[.int .i64 a0, .slice Ao18 t110.length co18] (impl_MillBuilt.calls k a0 _ _ t110 t113 t114 t115 t116 _ (HG.out.below (kb HB)) ?side1 ?side2 A9.out) ?_; (case side1 => repeat (first | exact (Kd.R_reads' HO112.out).2.2 | (with_reducible refine Kd.C_alloc ?_ _) | (with_reducible refine Kd.C_drewN ?_ _) | (with_reducible refine Kd.C_drew ?_))); (case side2 => exact (Kd.R_reads' HO112.out).2.1); intro w19 hb; replace HO104 := Aside0.mk (Kd.R_below (by (with_reducible repeat (first | apply Kd.R_alloc | apply Kd.R_drewN | apply Kd.R_drew)); exact HO104.out) hb); replace HO112 := Aside0.mk (Kd.R_below (by (with_reducible repeat (first | apply Kd.R_alloc | apply Kd.R_drewN | apply Kd.R_drew)); exact HO112.out) hb); replace BK109 := kB BK109 hb; replace HB := kS HB hb) | ((with_reducible refine gate_dst (N := 9) rfl ?_); refine gX 9 #[.int .i64 0, .int .i64 0, .string (⟨#[]⟩ : ByteArray)] 25 ?_; intro gb117 hg w20 hbox hb; have BK117 := Aside0.mk (hbox); have GW117 := gw hg (kb HB); have GE117 := gw hg (kb HB); have NB109_117 := nl hg (kp BK109); have NB117_109 := ng hg (kp BK109); replace HO104 := Aside0.mk (Kd.R_below (Kd.R_elderB (by (with_reducible repeat (first | apply Kd.R_alloc | apply Kd.R_drewN | apply Kd.R_drew)); exact HO104.out) gb117 (Nat.le_of_eq hg.symm)) hb); replace HO112 := Aside0.mk (Kd.R_below (Kd.R_elderB (by (with_reducible repeat (first | apply Kd.R_alloc | apply Kd.R_drewN | apply Kd.R_drew)); exact HO112.out) gb117 (Nat.le_of_eq hg.symm)) hb); replace BK109 := kB BK109 hb; replace HB := kS HB hb; clear hb hbox hg; have hnb21 := NB117_109.out; have hnc21 := NB109_117.out; obtain ⟨⟨hcz22_0, hcz22_1, hcz22_2⟩, hfz22_0, hfz22_1, hfz22_2⟩ := bf3 BK117))
    (try simp only [Act.put, List.setIfInBounds_toArray, List.set_cons_zero, List.set_cons_succ])
    go_cut [39] (fun v39 wc => ∃ (kq : Nat) (x39_9 : Bool), v39 = .bool x39_9 ∧ Aside0 (laws_FnExactMillBuilt.j0 kq l1 t110 x39_9 = some r) ∧ Aside0 (kq ≤ k) ∧ Aside0 (Kd.R k25 25 wc w.heap.size (fun k_ => k_ ≠ gb109 ∧ k_ ≠ gb117) (.slice Ao18 t110.length co18) t110) ∧ Aside0 (wc.heap[gb109]? = some (.cells #[.int .i64 t105, .int .i64 t106, .string t107] 25 (0, 0))) ∧ Aside0 (wc.heap[gb117]? = some (.cells #[.int .i64 t113, .int .i64 t114, .string t115] 25 (0, 0))) ∧ Aside0 (Below w.heap.size w wc))
    case first =>
      have H := HC10.out
      clear HC10
      replace H := Option.bind_eq_some_iff.mp H
      obtain ⟨t118, A230, H⟩ := H
      replace H : (if t118 = true then (laws_FnExactMillBuilt.j0 k l1 t110 (t116.toList != t108.toList)) else (laws_FnExactMillBuilt.j0 k l1 t110 true)) = some r := H
      have A23 := Aside0.mk A230
      clear A230
      by_cases c24 : t118 = true
      · subst c24
        have H1 : (laws_FnExactMillBuilt.j0 k l1 t110 (t116.toList != t108.toList)) = some r := by rw [if_pos rfl] at H; exact H
        clear H
        have H := H1
        clear H1
        have H' := Aside0.mk H
        clear H
        have hnb25 := NB117_109.out
        have hnc25 := NB109_117.out
        obtain ⟨⟨hcz26_0, hcz26_1, hcz26_2⟩, hfz26_0, hfz26_1, hfz26_2⟩ := bf3 BK117
        obtain ⟨⟨hcz27_0, hcz27_1, hcz27_2⟩, hfz27_0, hfz27_1, hfz27_2⟩ := bf3 BK109
        go_wp2_with (first | ((with_reducible refine gate_callee (f := 8) rfl ?_); refine gL (some 33) Tryd.func8 #[.agg #[.int .i64 t113, .int .i64 t114, .string t115], .agg #[.int .i64 t105, .int .i64 t106, .string t107]] (laws_eqMillValue.calls t113 t114 t115 t105 t106 t107 true _ A23.out) ?_; intro w28 hb; replace HO104 := Aside0.mk (Kd.R_below (by (with_reducible repeat (first | apply Kd.R_alloc | apply Kd.R_drewN | apply Kd.R_drew)); exact (Kd.R_mono (Kd.R_far (p := ⟨gb117, 2, none⟩) (Kd.R_far (p := ⟨gb117, 1, none⟩) (Kd.R_far (p := ⟨gb117, 0, none⟩) (Kd.R_mono HO104.out (fun k_ hk => (⟨hk, hk.2⟩ : _ ∧ k_ ≠ gb117))) (fun _ hk => hk.2) (.int .i64 t113)) (fun _ hk => hk.2) (.int .i64 t114)) (fun _ hk => hk.2) (.string t115)) (fun _ h_ => h_.1))) hb); replace HO112 := Aside0.mk (Kd.R_below (by (with_reducible repeat (first | apply Kd.R_alloc | apply Kd.R_drewN | apply Kd.R_drew)); exact (Kd.R_mono (Kd.R_far (p := ⟨gb117, 2, none⟩) (Kd.R_far (p := ⟨gb117, 1, none⟩) (Kd.R_far (p := ⟨gb117, 0, none⟩) (Kd.R_mono HO112.out (fun k_ hk => (⟨hk, hk.2⟩ : _ ∧ k_ ≠ gb117))) (fun _ hk => hk.2) (.int .i64 t113)) (fun _ hk => hk.2) (.int .i64 t114)) (fun _ hk => hk.2) (.string t115)) (fun _ h_ => h_.1))) hb); replace BK109 := Aside0.mk (blk_below (g := gb109) (o := .cells #[.int .i64 t105, .int .i64 t106, .string t107] 25 (0, 0)) (by (with_reducible repeat (first | refine blk_drewN ?_ _ | refine blk_drew ?_ | refine blk_alloc ?_ _)); refine blk_far ?_ NB109_117.out _; (with_reducible repeat (first | refine blk_drewN ?_ _ | refine blk_drew ?_ | refine blk_alloc ?_ _)); refine blk_far ?_ NB109_117.out _; (with_reducible repeat (first | refine blk_drewN ?_ _ | refine blk_drew ?_ | refine blk_alloc ?_ _)); refine blk_far ?_ NB109_117.out _; (with_reducible repeat (first | refine blk_drewN ?_ _ | refine blk_drew ?_ | refine blk_alloc ?_ _)); exact BK109.out) hb); replace BK117 := Aside0.mk (blk_below (g := gb117) (o := .cells #[.int .i64 t113, .int .i64 t114, .string t115] 25 (0, 0)) (by (with_reducible repeat (first | refine blk_drewN ?_ _ | refine blk_drew ?_ | refine blk_alloc ?_ _)); refine blk_put (cs := #[.int .i64 t113, .int .i64 t114, .string (⟨#[]⟩ : ByteArray)]) ?_ 2 _ rfl; (with_reducible repeat (first | refine blk_drewN ?_ _ | refine blk_drew ?_ | refine blk_alloc ?_ _)); refine blk_put (cs := #[.int .i64 t113, .int .i64 0, .string (⟨#[]⟩ : ByteArray)]) ?_ 1 _ rfl; (with_reducible repeat (first | refine blk_drewN ?_ _ | refine blk_drew ?_ | refine blk_alloc ?_ _)); refine blk_put (cs := #[.int .i64 0, .int .i64 0, .string (⟨#[]⟩ : ByteArray)]) ?_ 0 _ rfl; (with_reducible repeat (first | refine blk_drewN ?_ _ | refine blk_drew ?_ | refine blk_alloc ?_ _)); exact BK117.out) hb); replace HB := kS HB hb))
        go_meet
        case rel => exact ⟨_, ((t116.toList != t108.toList)), (by first | rfl | (simp; done) | (simp [*]; done)), H', ⟨by first | omega | exact Nat.le_refl _⟩, ⟨by (with_reducible repeat (first | apply Kd.R_alloc | apply Kd.R_drewN | apply Kd.R_drew)); exact Kd.R_mono HO112.out (fun _ hk => ⟨hk.1.2, hk.2⟩)⟩, ⟨kp BK109⟩, ⟨kp BK117⟩, ⟨kb HB⟩⟩
      · replace c24 := Bool.eq_false_iff.mpr c24
        subst c24
        have H1 : (laws_FnExactMillBuilt.j0 k l1 t110 true) = some r := by rw [if_neg (show ¬ (false = true) by decide)] at H; exact H
        clear H
        have H := H1
        clear H1
        have H' := Aside0.mk H
        clear H
        have hnb29 := NB117_109.out
        have hnc29 := NB109_117.out
        obtain ⟨⟨hcz30_0, hcz30_1, hcz30_2⟩, hfz30_0, hfz30_1, hfz30_2⟩ := bf3 BK117
        obtain ⟨⟨hcz31_0, hcz31_1, hcz31_2⟩, hfz31_0, hfz31_1, hfz31_2⟩ := bf3 BK109
        go_wp2_with (first | ((with_reducible refine gate_callee (f := 8) rfl ?_); refine gL (some 33) Tryd.func8 #[.agg #[.int .i64 t113, .int .i64 t114, .string t115], .agg #[.int .i64 t105, .int .i64 t106, .string t107]] (laws_eqMillValue.calls t113 t114 t115 t105 t106 t107 false _ A23.out) ?_; intro w32 hb; replace HO104 := Aside0.mk (Kd.R_below (by (with_reducible repeat (first | apply Kd.R_alloc | apply Kd.R_drewN | apply Kd.R_drew)); exact (Kd.R_mono (Kd.R_far (p := ⟨gb117, 2, none⟩) (Kd.R_far (p := ⟨gb117, 1, none⟩) (Kd.R_far (p := ⟨gb117, 0, none⟩) (Kd.R_mono HO104.out (fun k_ hk => (⟨hk, hk.2⟩ : _ ∧ k_ ≠ gb117))) (fun _ hk => hk.2) (.int .i64 t113)) (fun _ hk => hk.2) (.int .i64 t114)) (fun _ hk => hk.2) (.string t115)) (fun _ h_ => h_.1))) hb); replace HO112 := Aside0.mk (Kd.R_below (by (with_reducible repeat (first | apply Kd.R_alloc | apply Kd.R_drewN | apply Kd.R_drew)); exact (Kd.R_mono (Kd.R_far (p := ⟨gb117, 2, none⟩) (Kd.R_far (p := ⟨gb117, 1, none⟩) (Kd.R_far (p := ⟨gb117, 0, none⟩) (Kd.R_mono HO112.out (fun k_ hk => (⟨hk, hk.2⟩ : _ ∧ k_ ≠ gb117))) (fun _ hk => hk.2) (.int .i64 t113)) (fun _ hk => hk.2) (.int .i64 t114)) (fun _ hk => hk.2) (.string t115)) (fun _ h_ => h_.1))) hb); replace BK109 := Aside0.mk (blk_below (g := gb109) (o := .cells #[.int .i64 t105, .int .i64 t106, .string t107] 25 (0, 0)) (by (with_reducible repeat (first | refine blk_drewN ?_ _ | refine blk_drew ?_ | refine blk_alloc ?_ _)); refine blk_far ?_ NB109_117.out _; (with_reducible repeat (first | refine blk_drewN ?_ _ | refine blk_drew ?_ | refine blk_alloc ?_ _)); refine blk_far ?_ NB109_117.out _; (with_reducible repeat (first | refine blk_drewN ?_ _ | refine blk_drew ?_ | refine blk_alloc ?_ _)); refine blk_far ?_ NB109_117.out _; (with_reducible repeat (first | refine blk_drewN ?_ _ | refine blk_drew ?_ | refine blk_alloc ?_ _)); exact BK109.out) hb); replace BK117 := Aside0.mk (blk_below (g := gb117) (o := .cells #[.int .i64 t113, .int .i64 t114, .string t115] 25 (0, 0)) (by (with_reducible repeat (first | refine blk_drewN ?_ _ | refine blk_drew ?_ | refine blk_alloc ?_ _)); refine blk_put (cs := #[.int .i64 t113, .int .i64 t114, .string (⟨#[]⟩ : ByteArray)]) ?_ 2 _ rfl; (with_reducible repeat (first | refine blk_drewN ?_ _ | refine blk_drew ?_ | refine blk_alloc ?_ _)); refine blk_put (cs := #[.int .i64 t113, .int .i64 0, .string (⟨#[]⟩ : ByteArray)]) ?_ 1 _ rfl; (with_reducible repeat (first | refine blk_drewN ?_ _ | refine blk_drew ?_ | refine blk_alloc ?_ _)); refine blk_put (cs := #[.int .i64 0, .int .i64 0, .string (⟨#[]⟩ : ByteArray)]) ?_ 0 _ rfl; (with_reducible repeat (first | refine blk_drewN ?_ _ | refine blk_drew ?_ | refine blk_alloc ?_ _)); exact BK117.out) hb); replace HB := kS HB hb))
        go_meet
        case rel => exact ⟨_, (true), (by first | rfl | (simp; done) | (simp [*]; done)), H', ⟨by first | omega | exact Nat.le_refl _⟩, ⟨by (with_reducible repeat (first | apply Kd.R_alloc | apply Kd.R_drewN | apply Kd.R_drew)); exact Kd.R_mono HO112.out (fun _ hk => ⟨hk.1.2, hk.2⟩)⟩, ⟨kp BK109⟩, ⟨kp BK117⟩, ⟨kb HB⟩⟩
    case rest =>
      clear HC10
      obtain ⟨kq, x39_9, rfl, HA, HJ9, HO_8, BK109, BK117, HB⟩ := hcut
      cases kq with
      | zero => exact absurd HA.out (by simp [laws_FnExactMillBuilt.j0])
      | succ kj9 =>
        have H := HA.out
        clear HA
        simp only [laws_FnExactMillBuilt.j0] at H
        by_cases c33 : x39_9 = true
        · subst c33
          have H1 : (some false) = some r := by rw [if_pos rfl] at H; exact H
          clear H
          have H := H1
          clear H1
          obtain rfl := Option.some.inj H
          go_wp2
          go_ret
          exact ⟨by first | rfl | (simp [errW_none, errW_some] <;> rfl) | (simp [*, errW_none, errW_some] <;> rfl), kb HB⟩
        · replace c33 := Bool.eq_false_iff.mpr c33
          subst c33
          have H1 : ((laws_toMillValueS.f kj9 l1).bind fun t119 => ((laws_eqMillValueS.f kj9 t110 t119).bind fun t122 => (if t122 = true then (some true) else (some false)))) = some r := by rw [if_neg (show ¬ (false = true) by decide)] at H; exact H
          clear H
          have H := H1
          clear H1
          replace H := Option.bind_eq_some_iff.mp H
          obtain ⟨t119, A340, H⟩ := H
          replace H : ((laws_eqMillValueS.f kj9 t110 t119).bind fun t122 => (if t122 = true then (some true) else (some false))) = some r := H
          have A34 := Aside0.mk A340
          clear A340
          replace H := Option.bind_eq_some_iff.mp H
          obtain ⟨t122, A350, H⟩ := H
          replace H : (if t122 = true then (some true) else (some false)) = some r := H
          have A35 := Aside0.mk A350
          clear A350
          by_cases c36 : t122 = true
          · subst c36
            have H1 : (some true) = some r := by rw [if_pos rfl] at H; exact H
            clear H
            have H := H1
            clear H1
            obtain rfl := Option.some.inj H
            go_wp2_with (first | ((with_reducible refine gate_callee (f := 6) rfl ?_); refine goesL_ (some 42) rfl rfl Tryd.func6 (by kernel_rfl) rfl #[.slice A1 l1.length c1] rfl (by (try simp only [List.map_toArray, List.map_cons, List.map_nil]); first | done | rfl | (simp only [List.length_drop, List.length_take]; rfl)) ?_; (with_reducible refine (laws_toMillValueS.calls kj9 _ _ l1 t119 _ ?side1 ?side2 A34.out).mono ?_); (case side1 => repeat (first | exact (Kd.C_below HR1.out HB.out) | (with_reducible refine Kd.C_alloc ?_ _) | (with_reducible refine Kd.C_drewN ?_ _) | (with_reducible refine Kd.C_drew ?_))); (case side2 => exact HC1.out); rintro e w37 ⟨v120, rfl, ho0, hb⟩; refine ⟨_, rfl, ?_⟩; have HO121 := Aside0.mk (Kd.R_lower (Kd.R_newB (Kd.R_newB (Kd.R_new' ho0 (Kd.R_lt (by (with_reducible repeat (first | apply Kd.R_alloc | apply Kd.R_drewN | apply Kd.R_drew)); exact HO_8.out))) (g := gb109) (o := .cells #[.int .i64 t105, .int .i64 t106, .string t107] 25 (0, 0)) (kp BK109)) (g := gb117) (o := .cells #[.int .i64 t113, .int .i64 t114, .string t115] 25 (0, 0)) (kp BK117)) (below_size (kb HB))); replace HO_8 := Aside0.mk (Kd.R_elder' (by (with_reducible repeat (first | apply Kd.R_alloc | apply Kd.R_drewN | apply Kd.R_drew)); exact HO_8.out) (Kd.R_base ho0) hb); replace BK109 := kB BK109 hb; replace BK117 := kB BK117 hb; replace HB := kS HB hb; (try clear ho0); obtain ⟨Ao38, co38, eo38⟩ := Kd.R_slice HO121.out; subst eo38) | ((with_reducible refine gate_callee (f := 9) rfl ?_); refine gL (some 43) Tryd.func9 #[.slice Ao18 t110.length co18, .slice Ao38 t119.length co38] (laws_eqMillValueS.calls kj9 _ _ t110 _ _ t119 true _ ?side1 ?side2 ?side3 ?side4 A35.out) ?_; (case side1 => repeat (first | exact (Kd.R_reads' HO_8.out).2.2 | (with_reducible refine Kd.C_alloc ?_ _) | (with_reducible refine Kd.C_drewN ?_ _) | (with_reducible refine Kd.C_drew ?_))); (case side2 => exact (Kd.R_reads' HO_8.out).2.1); (case side3 => repeat (first | exact (Kd.R_reads' HO121.out).2.2 | (with_reducible refine Kd.C_alloc ?_ _) | (with_reducible refine Kd.C_drewN ?_ _) | (with_reducible refine Kd.C_drew ?_))); (case side4 => exact (Kd.R_reads' HO121.out).2.1); intro w39 hb; replace HO_8 := Aside0.mk (Kd.R_below (by (with_reducible repeat (first | apply Kd.R_alloc | apply Kd.R_drewN | apply Kd.R_drew)); exact HO_8.out) hb); replace HO121 := Aside0.mk (Kd.R_below (by (with_reducible repeat (first | apply Kd.R_alloc | apply Kd.R_drewN | apply Kd.R_drew)); exact HO121.out) hb); replace BK109 := kB BK109 hb; replace BK117 := kB BK117 hb; replace HB := kS HB hb))
            go_ret
            exact ⟨by first | rfl | (simp [errW_none, errW_some] <;> rfl) | (simp [*, errW_none, errW_some] <;> rfl), kb HB⟩
          · replace c36 := Bool.eq_false_iff.mpr c36
            subst c36
            have H1 : (some false) = some r := by rw [if_neg (show ¬ (false = true) by decide)] at H; exact H
            clear H
            have H := H1
            clear H1
            obtain rfl := Option.some.inj H
            go_wp2_with (first | ((with_reducible refine gate_callee (f := 6) rfl ?_); refine goesL_ (some 42) rfl rfl Tryd.func6 (by kernel_rfl) rfl #[.slice A1 l1.length c1] rfl (by (try simp only [List.map_toArray, List.map_cons, List.map_nil]); first | done | rfl | (simp only [List.length_drop, List.length_take]; rfl)) ?_; (with_reducible refine (laws_toMillValueS.calls kj9 _ _ l1 t119 _ ?side1 ?side2 A34.out).mono ?_); (case side1 => repeat (first | exact (Kd.C_below HR1.out HB.out) | (with_reducible refine Kd.C_alloc ?_ _) | (with_reducible refine Kd.C_drewN ?_ _) | (with_reducible refine Kd.C_drew ?_))); (case side2 => exact HC1.out); rintro e w40 ⟨v120, rfl, ho0, hb⟩; refine ⟨_, rfl, ?_⟩; have HO121 := Aside0.mk (Kd.R_lower (Kd.R_newB (Kd.R_newB (Kd.R_new' ho0 (Kd.R_lt (by (with_reducible repeat (first | apply Kd.R_alloc | apply Kd.R_drewN | apply Kd.R_drew)); exact HO_8.out))) (g := gb109) (o := .cells #[.int .i64 t105, .int .i64 t106, .string t107] 25 (0, 0)) (kp BK109)) (g := gb117) (o := .cells #[.int .i64 t113, .int .i64 t114, .string t115] 25 (0, 0)) (kp BK117)) (below_size (kb HB))); replace HO_8 := Aside0.mk (Kd.R_elder' (by (with_reducible repeat (first | apply Kd.R_alloc | apply Kd.R_drewN | apply Kd.R_drew)); exact HO_8.out) (Kd.R_base ho0) hb); replace BK109 := kB BK109 hb; replace BK117 := kB BK117 hb; replace HB := kS HB hb; (try clear ho0); obtain ⟨Ao41, co41, eo41⟩ := Kd.R_slice HO121.out; subst eo41) | ((with_reducible refine gate_callee (f := 9) rfl ?_); refine gL (some 43) Tryd.func9 #[.slice Ao18 t110.length co18, .slice Ao41 t119.length co41] (laws_eqMillValueS.calls kj9 _ _ t110 _ _ t119 false _ ?side1 ?side2 ?side3 ?side4 A35.out) ?_; (case side1 => repeat (first | exact (Kd.R_reads' HO_8.out).2.2 | (with_reducible refine Kd.C_alloc ?_ _) | (with_reducible refine Kd.C_drewN ?_ _) | (with_reducible refine Kd.C_drew ?_))); (case side2 => exact (Kd.R_reads' HO_8.out).2.1); (case side3 => repeat (first | exact (Kd.R_reads' HO121.out).2.2 | (with_reducible refine Kd.C_alloc ?_ _) | (with_reducible refine Kd.C_drewN ?_ _) | (with_reducible refine Kd.C_drew ?_))); (case side4 => exact (Kd.R_reads' HO121.out).2.1); intro w42 hb; replace HO_8 := Aside0.mk (Kd.R_below (by (with_reducible repeat (first | apply Kd.R_alloc | apply Kd.R_drewN | apply Kd.R_drew)); exact HO_8.out) hb); replace HO121 := Aside0.mk (Kd.R_below (by (with_reducible repeat (first | apply Kd.R_alloc | apply Kd.R_drewN | apply Kd.R_drew)); exact HO121.out) hb); replace BK109 := kB BK109 hb; replace BK117 := kB BK117 hb; replace HB := kS HB hb))
            go_ret
            exact ⟨by first | rfl | (simp [errW_none, errW_some] <;> rfl) | (simp [*, errW_none, errW_some] <;> rfl), kb HB⟩
end Go.Proofs.YtfipacapjfnipaaDoor.Q
end
section
namespace Go.Proofs.YtfipacapjfnipaaDoor.Q
open Go.RowKit Go.Proofs.YtfipacapjfnipaaDoorW.PrintWords Go.Proofs.YtfipacapjfnipaaDoorW.PrintLast Go.Proofs.YtfipacapjfnipaaDoorW.PrintMore
set_option linter.unusedVariables false
set_option linter.unusedSimpArgs false
theorem u8_ (t : Int) (h : t = 3 ∨ t = 7) : impl_bitsOf.f t = some 8 := by rcases h with rfl | rfl <;> decide +kernel
theorem u16_ (t : Int) (h : t = 4 ∨ t = 8) : impl_bitsOf.f t = some 16 := by rcases h with rfl | rfl <;> decide +kernel
theorem u32_ (t : Int) (h : t = 5 ∨ t = 9) : impl_bitsOf.f t = some 32 := by rcases h with rfl | rfl <;> decide +kernel
theorem u64_ (t : Int) (h : t = 6 ∨ t = 10) : impl_bitsOf.f t = some 64 := by rcases h with rfl | rfl <;> decide +kernel
theorem shlU (x : Int) (j : Nat) (h : j ≤ 64) : shl .u64 x (j : Int) = (x * 2 ^ j) % 18446744073709551616 := by
  unfold shl; rw [wrapU, Int.toNat_natCast, Nat.min_eq_left (by simpa [IntKind.bits] using h)]
theorem shlI (x : Int) (j : Nat) (h : j ≤ 64) : shl .i64 x (j : Int) = wrap64 (x * 2 ^ j) := by
  unfold shl; rw [wrapI, Int.toNat_natCast, Nat.min_eq_left (by simpa [IntKind.bits] using h)]
theorem shrK (k : IntKind) (hk : k.bits = 64) (x : Int) (j : Nat) (h : j ≤ 64) : shr k x (j : Int) = x / 2 ^ j := by
  unfold shr; rw [Int.toNat_natCast, Nat.min_eq_left (by rw [hk]; exact h)]
theorem wrapped_eq {t n : Int} (h0 : 3 ≤ t) (h1 : t ≤ 10) (hn0 : 0 ≤ n) (hn1 : n < 18446744073709551616) : impl_wrapped.f t n = some (conv t n) := by
  have e56 : wrap64 (64 - 8) = 56 := by decide +kernel
  have e48 : wrap64 (64 - 16) = 48 := by decide +kernel
  have e32 : wrap64 (64 - 32) = 32 := by decide +kernel
  have e0 : wrap64 (64 - 64) = 0 := by decide +kernel
  have a56 : ∀ x, shl .u64 x 56 = (x * 2 ^ 56) % 18446744073709551616 := fun x => shlU x 56 (by omega)
  have a48 : ∀ x, shl .u64 x 48 = (x * 2 ^ 48) % 18446744073709551616 := fun x => shlU x 48 (by omega)
  have a32 : ∀ x, shl .u64 x 32 = (x * 2 ^ 32) % 18446744073709551616 := fun x => shlU x 32 (by omega)
  have a0 : ∀ x, shl .u64 x 0 = (x * 2 ^ 0) % 18446744073709551616 := fun x => shlU x 0 (by omega)
  have b56 : ∀ x, shl .i64 x 56 = wrap64 (x * 2 ^ 56) := fun x => shlI x 56 (by omega)
  have b48 : ∀ x, shl .i64 x 48 = wrap64 (x * 2 ^ 48) := fun x => shlI x 48 (by omega)
  have b32 : ∀ x, shl .i64 x 32 = wrap64 (x * 2 ^ 32) := fun x => shlI x 32 (by omega)
  have b0 : ∀ x, shl .i64 x 0 = wrap64 (x * 2 ^ 0) := fun x => shlI x 0 (by omega)
  have c56 : ∀ x, shr .u64 x 56 = x / 2 ^ 56 := fun x => shrK _ rfl x 56 (by omega)
  have c48 : ∀ x, shr .u64 x 48 = x / 2 ^ 48 := fun x => shrK _ rfl x 48 (by omega)
  have c32 : ∀ x, shr .u64 x 32 = x / 2 ^ 32 := fun x => shrK _ rfl x 32 (by omega)
  have c0 : ∀ x, shr .u64 x 0 = x / 2 ^ 0 := fun x => shrK _ rfl x 0 (by omega)
  have d56 : ∀ x, shr .i64 x 56 = x / 2 ^ 56 := fun x => shrK _ rfl x 56 (by omega)
  have d48 : ∀ x, shr .i64 x 48 = x / 2 ^ 48 := fun x => shrK _ rfl x 48 (by omega)
  have d32 : ∀ x, shr .i64 x 32 = x / 2 ^ 32 := fun x => shrK _ rfl x 32 (by omega)
  have d0 : ∀ x, shr .i64 x 0 = x / 2 ^ 0 := fun x => shrK _ rfl x 0 (by omega)
  unfold impl_wrapped.f
  rcases types_cases h0 h1 with rfl | rfl | rfl | rfl | rfl | rfl | rfl | rfl
  · rw [u8_ _ (by simp)]; simp only [Option.bind_some, impl_unsignedType.f, e56, a56, c56]; simp [conv, wrap64] <;> omega
  · rw [u16_ _ (by simp)]; simp only [Option.bind_some, impl_unsignedType.f, e48, a48, c48]; simp [conv, wrap64] <;> omega
  · rw [u32_ _ (by simp)]; simp only [Option.bind_some, impl_unsignedType.f, e32, a32, c32]; simp [conv, wrap64] <;> omega
  · rw [u64_ _ (by simp)]; simp only [Option.bind_some, impl_unsignedType.f, e0, a0, c0]; simp [conv, wrap64] <;> omega
  · rw [u8_ _ (by simp)]; simp only [Option.bind_some, impl_unsignedType.f, e56, b56, d56]; simp [conv, wrap64] <;> omega
  · rw [u16_ _ (by simp)]; simp only [Option.bind_some, impl_unsignedType.f, e48, b48, d48]; simp [conv, wrap64] <;> omega
  · rw [u32_ _ (by simp)]; simp only [Option.bind_some, impl_unsignedType.f, e32, b32, d32]; simp [conv, wrap64] <;> omega
  · rw [u64_ _ (by simp)]; simp only [Option.bind_some, impl_unsignedType.f, e0, b0, d0]; simp [conv, wrap64] <;> omega
theorem into_eq {t n : Int} (hn0 : 0 ≤ n) (hn1 : n < 18446744073709551616) : spec_l13Into.f t n = some (conv t n) := by
  unfold spec_l13Into.f; rw [if_pos ⟨hn0, hn1⟩]
def vval (t n : Int) (s : ByteArray) : Bool :=
  if t = 1 then (n == 0 || n == 1) && s.toList == ([] : List UInt8) else if t = 2 then n == 0 && decide ((s.size : Int) ≤ 3000) else
  if 3 ≤ t ∧ t ≤ 10 then s.toList == ([] : List UInt8) && n == conv t (IntKind.u64.wrap n) else false
theorem spec_valid (t n : Int) (s : ByteArray) : spec_MillValidValue.f t n s = some (vval t n s) := by
  have hr := wrapU_range n
  unfold spec_MillValidValue.f spec_l10Integer.f vval
  by_cases h1 : t = 1
  · simp only [h1]; by_cases a : n = 0 <;> by_cases b : n = 1 <;> simp [a, b]
  · by_cases h2 : t = 2
    · simp only [h2]; by_cases a : n = 0 <;> simp [a]
    · by_cases h3 : 3 ≤ t
      · by_cases h4 : t ≤ 10
        · rw [if_neg h1, if_neg h2, if_pos h3, if_neg h1, if_neg h2, if_pos (show 3 ≤ t ∧ t ≤ 10 from ⟨h3, h4⟩)]
          simp only [Option.bind_some, h4, decide_true, if_true]
          by_cases hs : s.toList = []
          · rw [if_pos hs, into_eq hr.1 hr.2]; simp [hs]
          · rw [if_neg hs]; simp [hs]
        · simp [h1, h2, h3, h4]
      · simp [h1, h2, h3]
theorem impl_valid (t n : Int) (s : ByteArray) : impl_MillValidValue.f t n s = some (vval t n s) := by
  have hr := wrapU_range n
  unfold impl_MillValidValue.f impl_integerType.f vval
  by_cases h1 : t = 1
  · simp only [h1]; by_cases hs : s.toList = [] <;> by_cases a : n = 0 <;> simp [a, hs]
  · by_cases h2 : t = 2
    · simp only [h2]; by_cases a : n = 0 <;> simp [a]
    · by_cases h3 : 3 ≤ t
      · by_cases h4 : t ≤ 10
        · rw [if_neg h1, if_neg h2, if_pos h3, if_neg h1, if_neg h2, if_pos (show 3 ≤ t ∧ t ≤ 10 from ⟨h3, h4⟩)]
          simp only [Option.bind_some, h4, decide_true, if_true]
          by_cases hs : s.toList = []
          · rw [if_pos hs, wrapped_eq h3 h4 hr.1 hr.2]; simp [hs]; rw [Bool.eq_iff_iff, beq_iff_eq, beq_iff_eq]; exact ⟨Eq.symm, Eq.symm⟩
          · rw [if_neg hs]; simp [hs]
        · simp [h1, h2, h3, h4]
      · simp [h1, h2, h3]
end Go.Proofs.YtfipacapjfnipaaDoor.Q
end
section
namespace Go.Proofs.YtfipacapjfnipaaDoor.EvMore
open Go.RowKit Go.Proofs.YtfipacapjfnipaaDoorW.PrintWords
theorem ev_pos {α : Type} {c : Prop} [Decidable c] {f g : Nat → Option α} {r : α} (h : c) (k : Ev f r) : Ev (fun n => if c then f n else g n) r := by
  simp only [if_pos h]; exact k
theorem ev_neg {α : Type} {c : Prop} [Decidable c] {f g : Nat → Option α} {r : α} (h : ¬ c) (k : Ev g r) : Ev (fun n => if c then f n else g n) r := by
  simp only [if_neg h]; exact k
theorem ev_val {α β : Type} {o : Option α} {a : α} {f : Nat → α → Option β} {r : β} (h : o = some a) (k : Ev (fun n => f n a) r) : Ev (fun n => o.bind (f n)) r := by
  subst h; simpa using k
theorem ev_bind {α β : Type} {g : Nat → Option α} {f : Nat → α → Option β} {a : α} {r : β} (h : Ev g a) (k : Ev (fun n => f n a) r) : Ev (fun n => (g n).bind (f n)) r := Ev.bind h k
theorem ev_now {α : Type} (r : α) : Ev (fun _ => some r) r := Ev.now r
theorem ev_eq {α : Type} {f : Nat → Option α} {r q : α} (h : Ev f r) (e : r = q) : Ev f q := e ▸ h
theorem ev_step {α : Type} {g : Nat → Option α} {r : α} (k : Ev (fun n => g (n + 1)) r) : Ev g r := Ev.step (f := fun n => g (n + 1)) (fun _ => rfl) k
theorem succ64 {i n : Nat} (h : i < n) (hn : n ≤ 9223372036854775807) : wrap64 ((i : Int) + 1) = ((i + 1 : Nat) : Int) := by
  unfold wrap64; omega
theorem id64 {n : Int} (h : -9223372036854775808 ≤ n) (h2 : n ≤ 9223372036854775807) : wrap64 n = n := by
  unfold wrap64; omega
theorem set_map {α β : Type} (f : α → β) (l : List α) (z : β) (i : Nat) (h : i < l.length) :
    ((l.take i).map f ++ List.replicate (l.length - i) z).set i (f l[i]) = (l.take (i + 1)).map f ++ List.replicate (l.length - (i + 1)) z := by
  have e : l.length - i = (l.length - (i + 1)) + 1 := by omega
  rw [List.set_append_right _ _ (by simp; omega), e, List.replicate_succ]
  have hl : i - ((l.take i).map f).length = 0 := by simp; omega
  rw [hl, List.set_cons_zero, List.take_succ_eq_append_getElem h, List.map_append, List.append_assoc]
  rfl
end Go.Proofs.YtfipacapjfnipaaDoor.EvMore
end
section
namespace Go.Proofs.YtfipacapjfnipaaDoor.Q
open Go.RowKit Go.Proofs.YtfipacapjfnipaaDoorW.PrintWords Go.Proofs.YtfipacapjfnipaaDoorW.PrintLast Go.Proofs.YtfipacapjfnipaaDoorW.PrintMore Go.Proofs.YtfipacapjfnipaaDoor.EvMore
set_option linter.unusedVariables false
set_option linter.unusedSimpArgs false
theorem digits_small {u : Nat} (h : u < 10) : Lib.decDigits u = [UInt8.ofNat (48 + u)] := by rw [Lib.decDigits, dif_pos h]
theorem digits_big {u : Nat} (h : ¬ u < 10) : Lib.decDigits u = Lib.decDigits (u / 10) ++ [UInt8.ofNat (48 + u % 10)] := by rw [Lib.decDigits, dif_neg h]
theorem digits_len {u : Nat} (h : u ≤ 9223372036854775807) : (Lib.decDigits u).length ≤ 21 := by
  have := Lib.itoa_length_le (u : Int) (by omega) (by omega)
  rwa [Lib.itoa_nonneg] at this
theorem dig_text (d : Nat) (h : d < 10) : strOfNums [(IntKind.u64.wrap (48 + (d : Int))) % 256] = ⟨[UInt8.ofNat (48 + d)].toArray⟩ := by
  have e : (IntKind.u64.wrap (48 + (d : Int))) % 256 = ((48 + d : Nat) : Int) := by rw [wrapU]; omega
  rw [e]
  unfold strOfNums
  simp only [List.map_cons, List.map_nil, Int.toNat_natCast]
theorem ba_app (a b : List UInt8) : (⟨a.toArray⟩ : ByteArray) ++ ⟨b.toArray⟩ = ⟨(a ++ b).toArray⟩ := by
  apply ByteArray.ext
  rw [ByteArray.data_append]
  simp
theorem dec_ev : ∀ (n u : Nat), u ≤ n → u < 18446744073709551616 → Ev (fun k => spec_l10Decimal.f k (u : Int)) ⟨(Lib.decDigits u).toArray⟩
  | 0, u, h, hu => by
    obtain rfl : u = 0 := by omega
    refine ev_step (ev_pos (by omega) (ev_eq (ev_now _) ?_))
    rw [digits_small (by omega)]
    exact dig_text 0 (by omega)
  | n + 1, u, h, hu => by
    by_cases c : u < 10
    · refine ev_step (ev_pos (by omega) (ev_eq (ev_now _) ?_))
      rw [digits_small c]
      exact dig_text u c
    · have e1 : IntKind.u64.wrap (Int.tdiv (u : Int) 10) = ((u / 10 : Nat) : Int) := by
        rw [Int.tdiv_eq_ediv_of_nonneg (by omega), wrapU]; omega
      have e2 : Int.tmod (u : Int) 10 = ((u % 10 : Nat) : Int) := by
        rw [Int.tmod_eq_emod_of_nonneg (by omega)]; omega
      have ih := dec_ev n (u / 10) (by omega) (by omega)
      have hl := digits_len (u := u / 10) (by omega)
      have hs : (⟨(Lib.decDigits (u / 10)).toArray⟩ : ByteArray).size = (Lib.decDigits (u / 10)).length := by simp [ByteArray.size]
      refine ev_step (ev_neg (by omega) (ev_bind (by rw [e1]; exact ih) (ev_val rfl (ev_pos ?_ (ev_eq (ev_now _) ?_)))))
      · rw [e2, dig_text _ (by omega), hs]
        have : (⟨[UInt8.ofNat (48 + u % 10)].toArray⟩ : ByteArray).size = 1 := rfl
        omega
      · rw [e2, dig_text _ (by omega), ba_app, ← digits_big c]
def decB (t n : Int) : ByteArray := if 7 ≤ t then ⟨(Lib.itoa n).toArray⟩ else ⟨(Lib.decDigits (IntKind.u64.wrap n).toNat).toArray⟩
theorem spec_dec {t : Int} (n : Int) (h1 : t ≤ 10) (n0 : -9223372036854775808 ≤ n) (n1 : n ≤ 9223372036854775807) : Ev (fun k => spec_l13Dec.f k t n) (decB t n) := by
  have hr := wrapU_range n
  have hsg : spec_l10Signed.f t = some (decide (7 ≤ t ∧ t ≤ 10)) := by unfold spec_l10Signed.f; by_cases h : t ≥ 7 <;> simp [h]
  by_cases c : 7 ≤ t
  · by_cases cn : n < 0
    · have hab : spec_l13Abs.f t n = some (((n.natAbs : Nat) : Int), true) := by
        unfold spec_l13Abs.f
        rw [hsg]
        simp only [Option.bind_some]
        rw [if_pos (by simp; omega), if_pos cn]
        congr 2
        rw [wrapU, wrapU]; omega
      have hd := dec_ev n.natAbs n.natAbs (Nat.le_refl _) (by omega)
      have hl : (Lib.decDigits n.natAbs).length ≤ 21 := by
        have := Lib.itoa_length_le n n0 n1
        unfold Lib.itoa at this
        rw [if_pos cn] at this
        simp only [List.length_cons] at this
        omega
      have hs : (⟨(Lib.decDigits n.natAbs).toArray⟩ : ByteArray).size = (Lib.decDigits n.natAbs).length := by simp [ByteArray.size]
      refine ev_val hab (ev_pos rfl (ev_bind hd (ev_pos (by rw [hs]; omega) (ev_eq (ev_now _) ?_))))
      unfold decB Lib.itoa
      rw [if_pos c, if_pos cn]
      exact ba_app [45] _
    · have hab : spec_l13Abs.f t n = some (((n.toNat : Nat) : Int), false) := by
        unfold spec_l13Abs.f
        rw [hsg]
        simp only [Option.bind_some]
        rw [if_pos (by simp; omega), if_neg cn]
        congr 2
        rw [wrapU]; omega
      refine ev_val hab (ev_neg (by simp) (ev_bind (dec_ev n.toNat n.toNat (Nat.le_refl _) (by omega)) (ev_eq (ev_now _) ?_)))
      unfold decB Lib.itoa
      rw [if_pos c, if_neg cn]
  · have hab : spec_l13Abs.f t n = some ((((IntKind.u64.wrap n).toNat : Nat) : Int), false) := by
      unfold spec_l13Abs.f
      rw [hsg]
      simp only [Option.bind_some]
      rw [if_neg (by simp; omega)]
      congr 2
      omega
    refine ev_val hab (ev_neg (by simp) (ev_bind (dec_ev _ _ (Nat.le_refl _) (by omega)) (ev_eq (ev_now _) ?_)))
    unfold decB
    rw [if_neg c]
theorem impl_dec {t : Int} (n : Int) (h0 : 3 ≤ t) (h1 : t ≤ 10) (n0 : -9223372036854775808 ≤ n) (n1 : n ≤ 9223372036854775807) : impl_decimal.f t n = some (decB t n) := by
  have hr := wrapU_range n
  have hu : impl_unsignedType.f t = some (decide (t ≤ 6)) := by unfold impl_unsignedType.f; rw [if_pos h0]
  unfold impl_decimal.f decB
  rw [hu]
  simp only [Option.bind_some]
  by_cases c : 7 ≤ t
  · rw [if_neg (by simp; omega), if_pos c]
    unfold strconv_FormatInt.f
    rw [if_pos ⟨rfl, n0, n1⟩]
    rfl
  · rw [if_pos (by simp; omega), if_neg c]
    unfold strconv_FormatUint.f
    rw [if_pos ⟨rfl, hr.1, hr.2⟩]
    rfl
def stepW (a : Int) (c : UInt8) : Int := IntKind.u64.wrap (IntKind.u64.wrap (IntKind.u64.wrap (a * 10) + IntKind.u64.wrap (c.toNat : Int)) - 48)
def foldW (l : List UInt8) (x : Int) : Int := l.foldl stepW x
theorem bt_at (s : ByteArray) (i : Nat) (h : i < s.data.toList.length) : bt s (i : Int) = ((s.data.toList[i]).toNat : Int) := by
  have h2 : i < s.size := by rw [Array.length_toList] at h; exact h
  unfold bt
  rw [Int.toNat_natCast, dif_pos h2]
  rfl
theorem size_list (s : ByteArray) : s.data.toList.length = s.size := by rw [Array.length_toList]; rfl
theorem foldW_digits : ∀ (n u : Nat), u ≤ n → u < 18446744073709551616 → foldW (Lib.decDigits u) 0 = (u : Int)
  | 0, u, h, hu => by
    obtain rfl : u = 0 := by omega
    rw [digits_small (by omega)]
    decide +kernel
  | n + 1, u, h, hu => by
    have one : ∀ (a d : Nat), d < 10 → a * 10 + d < 18446744073709551616 → stepW (a : Int) (UInt8.ofNat (48 + d)) = ((a * 10 + d : Nat) : Int) := by
      intro a d hd ha
      have e : ((UInt8.ofNat (48 + d)).toNat : Int) = ((48 + d : Nat) : Int) := by
        have : (UInt8.ofNat (48 + d)).toNat = 48 + d := by simp; omega
        rw [this]
      unfold stepW
      rw [e, wrapU, wrapU, wrapU, wrapU]
      omega
    by_cases c : u < 10
    · rw [digits_small c]
      have := one 0 u c (by omega)
      simpa [foldW] using this
    · rw [digits_big c]
      unfold foldW
      rw [List.foldl_append]
      have ih := foldW_digits n (u / 10) (by omega) (by omega)
      unfold foldW at ih
      rw [ih]
      have := one (u / 10) (u % 10) (by omega) (by omega)
      simp only [List.foldl_cons, List.foldl_nil]
      rw [this]
      congr 1
      omega
theorem digits_head : ∀ (n u : Nat), u ≤ n → ∃ c r, Lib.decDigits u = c :: r ∧ 48 ≤ c.toNat ∧ c.toNat ≤ 57
  | 0, u, h => by
    obtain rfl : u = 0 := by omega
    exact ⟨_, _, digits_small (by omega), by decide, by decide⟩
  | n + 1, u, h => by
    by_cases c : u < 10
    · refine ⟨_, _, digits_small c, ?_, ?_⟩
      · have : (UInt8.ofNat (48 + u)).toNat = 48 + u := by simp; omega
        omega
      · have : (UInt8.ofNat (48 + u)).toNat = 48 + u := by simp; omega
        omega
    · obtain ⟨x, r, e, h1, h2⟩ := digits_head n (u / 10) (by omega)
      rw [digits_big c, e]
      exact ⟨x, _, rfl, h1, h2⟩
def readV (l : List UInt8) : Int := if l.head? = some 45 then wrap64 (IntKind.u64.wrap (-(foldW l.tail 0))) else wrap64 (foldW l 0)
theorem readV_range (l : List UInt8) : -9223372036854775808 ≤ readV l ∧ readV l ≤ 9223372036854775807 := by
  unfold readV
  split <;> (unfold wrap64; omega)
theorem readV_itoa (v : Int) (n0 : -9223372036854775808 ≤ v) (n1 : v ≤ 9223372036854775807) : readV (Lib.itoa v) = v := by
  by_cases c : v < 0
  · have e : Lib.itoa v = 45 :: Lib.decDigits v.natAbs := by unfold Lib.itoa; rw [if_pos c]
    have hh : ((45 : UInt8) :: Lib.decDigits v.natAbs).head? = some 45 := rfl
    rw [e]
    unfold readV
    rw [if_pos hh, List.tail_cons, foldW_digits _ _ (Nat.le_refl _) (by omega), wrapU]
    unfold wrap64
    omega
  · have e : Lib.itoa v = Lib.decDigits v.toNat := by unfold Lib.itoa; rw [if_neg c]
    obtain ⟨x, r, e2, h1, _⟩ := digits_head v.toNat v.toNat (Nat.le_refl _)
    rw [e]
    unfold readV
    rw [if_neg ?_, foldW_digits _ _ (Nat.le_refl _) (by omega)]
    · unfold wrap64; omega
    · rw [e2]
      intro h
      have : x = 45 := by simpa using h
      rw [this] at h1
      exact absurd h1 (by decide)
theorem toList_ba (l : List UInt8) : (⟨l.toArray⟩ : ByteArray).toList = l := by rw [ByteArray.toList_eq]
theorem decB10 (m : Int) : decB 10 m = ⟨(Lib.itoa m).toArray⟩ := by unfold decB; rw [if_pos (by omega)]
theorem parse_tail (s : ByteArray) (hs : s.size ≤ 20) : ∀ (suf pre : List UInt8) (x : Int), s.data.toList = pre ++ suf →
    Ev (fun k => spec_l13Parse.l1 k s x (pre.length : Int)) (wrap64 (IntKind.u64.wrap (-(foldW suf x))), (Lib.itoa (wrap64 (IntKind.u64.wrap (-(foldW suf x)))) == s.toList))
  | [], pre, x, ha => by
    have hl : pre.length = s.size := by rw [← size_list, ha]; simp
    have hw : -9223372036854775808 ≤ wrap64 (IntKind.u64.wrap (-x)) ∧ wrap64 (IntKind.u64.wrap (-x)) ≤ 9223372036854775807 := by unfold wrap64; omega
    refine ev_step (ev_neg (by omega) (ev_bind (spec_dec _ (by omega) hw.1 hw.2) (ev_eq (ev_now _) ?_)))
    rw [decB10, toList_ba]
    rfl
  | c :: r, pre, x, ha => by
    have hl : s.size = pre.length + (r.length + 1) := by rw [← size_list, ha]; simp
    have e := succ64 (i := pre.length) (n := s.size) (by omega) (by omega)
    have hb : bt s (pre.length : Int) = (c.toNat : Int) := by
      rw [bt_at s pre.length (by rw [ha]; simp)]
      simp [ha]
    have ih := parse_tail s hs r (pre ++ [c]) (stepW x c) (by rw [ha]; simp)
    simp only [List.length_append, List.length_cons, List.length_nil] at ih
    refine ev_step (ev_pos (by omega) (ev_pos (by omega) ?_))
    simp only [hb, e]
    exact ih
theorem parse_loop (s : ByteArray) (hs : s.size ≤ 20) (h0 : 0 < s.size) : ∀ (suf pre : List UInt8) (x : Int), s.data.toList = pre ++ suf → (s.data.toList.head? ≠ some 45 → foldW suf x = foldW s.data.toList 0) →
    Ev (fun k => spec_l13Parse.l0 k s x (pre.length : Int)) (readV s.data.toList, (Lib.itoa (readV s.data.toList) == s.toList))
  | [], pre, x, ha, hx => by
    have hl : pre.length = s.size := by rw [← size_list, ha]; simp
    obtain ⟨c, r, hcr⟩ : ∃ c r, s.data.toList = c :: r := by
      cases h : s.data.toList with
      | nil => have := size_list s; rw [h] at this; simp at this; omega
      | cons c r => exact ⟨c, r, rfl⟩
    have hb : bt s 0 = (c.toNat : Int) := by
      have := bt_at s 0 (by rw [size_list]; exact h0)
      simp only [hcr, List.getElem_cons_zero] at this
      exact this
    refine ev_step (ev_neg (by omega) (ev_pos (by omega) ?_))
    by_cases c45 : c = 45
    · subst c45
      have ht := parse_tail s hs r [45] 0 (by rw [hcr]; rfl)
      have e : readV s.data.toList = wrap64 (IntKind.u64.wrap (-(foldW r 0))) := by
        have hh : ((45 : UInt8) :: r).head? = some 45 := rfl
        unfold readV
        rw [hcr, if_pos hh]
        rfl
      rw [e]
      exact ev_pos (by rw [hb]; decide) ht
    · have hne : ¬ (c.toNat : Int) = 45 := fun h => c45 (UInt8.toNat_inj.1 (show c.toNat = 45 by omega))
      have hh : s.data.toList.head? ≠ some 45 := by rw [hcr]; intro h; exact c45 (by simpa using h)
      have e : readV s.data.toList = wrap64 x := by
        unfold readV
        rw [if_neg hh, ← hx hh]
        rfl
      have hw : -9223372036854775808 ≤ wrap64 x ∧ wrap64 x ≤ 9223372036854775807 := by unfold wrap64; omega
      refine ev_neg (by rw [hb]; exact hne) (ev_bind (spec_dec _ (by omega) hw.1 hw.2) (ev_eq (ev_now _) ?_))
      rw [e, decB10, toList_ba]
  | c :: r, pre, x, ha, hx => by
    have hl : s.size = pre.length + (r.length + 1) := by rw [← size_list, ha]; simp
    have e := succ64 (i := pre.length) (n := s.size) (by omega) (by omega)
    have hb : bt s (pre.length : Int) = (c.toNat : Int) := by
      rw [bt_at s pre.length (by rw [ha]; simp)]
      simp [ha]
    have ih := parse_loop s hs h0 r (pre ++ [c]) (stepW x c) (by rw [ha]; simp) (fun h => by rw [← hx h]; rfl)
    simp only [List.length_append, List.length_cons, List.length_nil] at ih
    refine ev_step (ev_pos (by omega) (ev_pos (by omega) ?_))
    simp only [hb, e]
    exact ih
theorem parse_spec (s : ByteArray) : Ev (fun k => spec_l13Parse.f k s) (if 1 ≤ s.size ∧ s.size ≤ 20 then (readV s.data.toList, (Lib.itoa (readV s.data.toList) == s.toList)) else (0, false)) := by
  by_cases c1 : (s.size : Int) < 1
  · rw [if_neg (by omega)]
    refine ev_pos c1 (ev_step ?_)
    simp only [spec_l13Parse.j0, if_true]
    exact ev_now _
  · by_cases c2 : (s.size : Int) > 20
    · rw [if_neg (by omega)]
      refine ev_neg c1 (ev_step ?_)
      simp only [spec_l13Parse.j0, c2, decide_true, if_true]
      exact ev_now _
    · rw [if_pos (by omega)]
      refine ev_neg c1 (ev_step ?_)
      simp only [spec_l13Parse.j0, c2, decide_false, Bool.false_eq_true, if_false]
      exact parse_loop s (by omega) (by omega) s.data.toList [] 0 rfl (fun _ => rfl)
theorem parse_app (M : Nat) : ∀ (l r : List UInt8) (a b : Nat), Lib.parseUintM M a l = .ok b → Lib.parseUintM M a (l ++ r) = Lib.parseUintM M b r
  | [], r, a, b, h => by
    simp only [Lib.parseUintM] at h
    injection h with h
    rw [h]; rfl
  | c :: l, r, a, b, h => by
    simp only [Lib.parseUintM, List.cons_append] at h ⊢
    split at h
    · rename_i h1
      rw [if_pos h1]
      split at h
      · cases h
      · rename_i h2
        rw [if_neg h2]
        split at h
        · cases h
        · rename_i h3
          rw [if_neg h3]
          exact parse_app M l r _ b h
    · cases h
theorem parse_digits : ∀ (n u : Nat), u ≤ n → u ≤ 9223372036854775808 → Lib.parseUintM (2 ^ 64 - 1) 0 (Lib.decDigits u) = .ok u
  | 0, u, h, hu => by
    obtain rfl : u = 0 := by omega
    rw [digits_small (by omega)]
    decide
  | n + 1, u, h, hu => by
    have one : ∀ a d : Nat, d < 10 → a < 1844674407370955162 → a * 10 + d ≤ 2 ^ 64 - 1 → Lib.parseUintM (2 ^ 64 - 1) a [UInt8.ofNat (48 + d)] = .ok (a * 10 + d) := by
      intro a d hd ha hm
      have e : (UInt8.ofNat (48 + d)).toNat = 48 + d := by simp; omega
      simp only [Lib.parseUintM, e]
      rw [if_pos (by omega), if_neg (by omega), if_neg (by omega)]
      congr 1
      omega
    by_cases c : u < 10
    · rw [digits_small c]
      have := one 0 u c (by omega) (by omega)
      simpa using this
    · rw [digits_big c, parse_app _ _ _ _ _ (parse_digits n (u / 10) (by omega) (by omega)), one _ _ (by omega) (by omega) (by omega)]
      congr 1
      omega
theorem parse_itoa (v : Int) (n0 : -9223372036854775808 ≤ v) (n1 : v ≤ 9223372036854775807) : Lib.parseIntB 64 (Lib.itoa v) = .ok v := by
  by_cases c : v < 0
  · have e : Lib.itoa v = 45 :: Lib.decDigits v.natAbs := by unfold Lib.itoa; rw [if_pos c]
    obtain ⟨x, r, e2, _, _⟩ := digits_head v.natAbs v.natAbs (Nat.le_refl _)
    have hp := parse_digits v.natAbs v.natAbs (Nat.le_refl _) (by omega)
    rw [e]
    unfold Lib.parseIntB Lib.parseUintB
    have h45 : ((45 : UInt8).toNat = 43 ∨ (45 : UInt8).toNat = 45) := by decide
    simp only [if_pos h45]
    rw [if_neg (by rw [e2]; simp), hp]
    simp only
    rw [if_neg (fun h => h.1 (by decide)), if_neg (by intro h; have := h.2; omega), if_pos (show (45 : UInt8).toNat = 45 by decide)]
    congr 1
    omega
  · have e : Lib.itoa v = Lib.decDigits v.toNat := by unfold Lib.itoa; rw [if_neg c]
    obtain ⟨x, r, e2, h1, h2⟩ := digits_head v.toNat v.toNat (Nat.le_refl _)
    have hp := parse_digits v.toNat v.toNat (Nat.le_refl _) (by omega)
    rw [e, e2]
    rw [e2] at hp
    unfold Lib.parseIntB Lib.parseUintB
    have h43 : ¬ (x.toNat = 43 ∨ x.toNat = 45) := by omega
    have h45 : ¬ x.toNat = 45 := by omega
    simp only [if_neg h43]
    rw [if_neg (by simp), hp]
    simp only
    rw [if_neg (by omega), if_neg (by omega), if_neg h45]
    congr 1
    omega
theorem occ_iff (s x : ByteArray) (i : Nat) (h : i + x.size ≤ s.size) : (s.extract i (i + x.size)).toList = x.toList ↔ Lib.occAt s.data.toList x.data.toList i = true := by
  unfold Lib.occAt
  rw [List.isPrefixOf_iff_prefix, List.prefix_iff_eq_take, ByteArray.toList_eq, ByteArray.toList_eq]
  simp only [ByteArray.data_extract, Array.toList_extract, List.extract_eq_take_drop]
  rw [size_list, show i + x.size - i = x.size by omega]
  exact ⟨fun h => h.symm, fun h => h.symm⟩
theorem occ_far (s x : ByteArray) (i : Nat) (h : ¬ i + x.size ≤ s.size) (h2 : 0 < x.size) : Lib.occAt s.data.toList x.data.toList i = false := by
  cases hc : Lib.occAt s.data.toList x.data.toList i with
  | false => rfl
  | true =>
    exfalso
    unfold Lib.occAt at hc
    rw [List.isPrefixOf_iff_prefix] at hc
    have := hc.length_le
    rw [List.length_drop, size_list, size_list] at this
    omega
theorem find_loop (s x : ByteArray) (hs : s.size ≤ 4000000000) (hx : x.size ≤ 4000000000) : ∀ d i : Nat, i + d = s.size + 1 → (∀ j, j < i → Lib.occAt s.data.toList x.data.toList j = false) → Ev (fun k => spec_l13Find.l0 k s x (i : Int)) (Lib.index s.data.toList x.data.toList)
  | 0, i, h, hj => by
    have e : wrap64 ((i : Int) + (x.size : Int)) = ((i + x.size : Nat) : Int) := by unfold wrap64; omega
    refine ev_step (ev_neg (by rw [e]; omega) (ev_eq (ev_now _) ?_))
    exact (Lib.index_none (fun j hjl => hj j (by rw [size_list] at hjl; omega))).symm
  | d + 1, i, h, hj => by
    have e : wrap64 ((i : Int) + (x.size : Int)) = ((i + x.size : Nat) : Int) := by unfold wrap64; omega
    have e1 := succ64 (i := i) (n := s.size + 1) (by omega) (by omega)
    by_cases c : i + x.size ≤ s.size
    · by_cases c2 : (s.extract i (i + x.size)).toList = x.toList
      · refine ev_step (ev_pos (by rw [e]; omega) (ev_pos (by omega) (ev_pos (by rw [e]; omega) (ev_pos (by rw [e, Int.toNat_natCast, Int.toNat_natCast]; exact c2) (ev_eq (ev_now _) ?_)))))
        exact (Lib.index_first (by rw [size_list]; omega) ((occ_iff s x i c).1 c2) hj).symm
      · have hno : Lib.occAt s.data.toList x.data.toList i = false := by
          cases hc : Lib.occAt s.data.toList x.data.toList i with
          | false => rfl
          | true => exact absurd ((occ_iff s x i c).2 hc) c2
        have ih := find_loop s x hs hx d (i + 1) (by omega) (fun j hj2 => by
          rcases Nat.lt_or_ge j i with q | q
          · exact hj j q
          · obtain rfl : j = i := by omega
            exact hno)
        refine ev_step (ev_pos (by rw [e]; omega) (ev_pos (by omega) (ev_pos (by rw [e]; omega) (ev_neg (by rw [e, Int.toNat_natCast, Int.toNat_natCast]; exact c2) ?_))))
        simp only [e1]
        exact ih
    · have hx0 : 0 < x.size := by omega
      refine ev_step (ev_neg (by rw [e]; omega) (ev_eq (ev_now _) ?_))
      refine (Lib.index_none (fun j hjl => ?_)).symm
      rcases Nat.lt_or_ge j i with q | q
      · exact hj j q
      · exact occ_far s x j (by omega) hx0
theorem find_ev (s x : ByteArray) (hs : s.size ≤ 4000000000) (hx : x.size ≤ 4000000000) : Ev (fun k => spec_l13Find.f k s x) (Lib.index s.data.toList x.data.toList) := find_loop s x hs hx (s.size + 1) 0 (by omega) (fun j hj => absurd hj (Nat.not_lt_zero _))
theorem index_le : ∀ (s x : List UInt8), Lib.index s x ≤ s.length
  | [], x => by unfold Lib.index; split <;> simp
  | b :: l, x => by
    have ih := index_le l x
    unfold Lib.index
    split
    · simp only [List.length_cons]; omega
    · split
      · simp only [List.length_cons]; omega
      · simp only [List.length_cons]; omega
end Go.Proofs.YtfipacapjfnipaaDoor.Q
end
section
namespace Go.Proofs.YtfipacapjfnipaaDoor.Q
open Go.RowKit Go.Proofs.YtfipacapjfnipaaDoorW.PrintWords Go.Proofs.YtfipacapjfnipaaDoorW.PrintLast Go.Proofs.YtfipacapjfnipaaDoorW.PrintMore Go.Proofs.YtfipacapjfnipaaDoor.EvMore
set_option linter.unusedVariables false
set_option linter.unusedSimpArgs false
def Tot {α : Type} (g : Nat → Option α) : Prop := ∃ v, Ev g v
theorem tot_now {α : Type} (r : α) : Tot (fun _ => some r) := ⟨r, ev_now r⟩
theorem tot_pos {α : Type} {c : Prop} [Decidable c] {f g : Nat → Option α} (h : c) (k : Tot f) : Tot (fun n => if c then f n else g n) := k.imp fun _ h2 => ev_pos h h2
theorem tot_neg {α : Type} {c : Prop} [Decidable c] {f g : Nat → Option α} (h : ¬ c) (k : Tot g) : Tot (fun n => if c then f n else g n) := k.imp fun _ h2 => ev_neg h h2
theorem tot_ite {α : Type} {c : Prop} [Decidable c] {f g : Nat → Option α} (h : Tot f) (k : Tot g) : Tot (fun n => if c then f n else g n) := by
  by_cases h2 : c
  · exact tot_pos h2 h
  · exact tot_neg h2 k
theorem tot_bind {α β : Type} {g : Nat → Option α} {f : Nat → α → Option β} (h : Tot g) (k : ∀ a, Tot (fun n => f n a)) : Tot (fun n => (g n).bind (f n)) := by
  obtain ⟨a, ha⟩ := h
  obtain ⟨r, hr⟩ := k a
  exact ⟨r, ev_bind ha hr⟩
theorem tot_step {α : Type} {g : Nat → Option α} (k : Tot (fun n => g (n + 1))) : Tot g := k.imp fun _ h => ev_step h
theorem sz_MillValue (a0_0 : Int) (a0_1 : Int) (a0_2 : ByteArray) (a1 : Int)  : Tot (fun k => laws_szMillValue.f a0_0 a0_1 a0_2 a1) := tot_ite (tot_now _) (tot_now _)
theorem to_MillValue (a0_0 : Int) (a0_1 : Int) (a0_2 : ByteArray)  : Ev (fun k => laws_toMillValue.f a0_0 a0_1 a0_2) (a0_0, a0_1, a0_2) := ev_now _
theorem eq_MillValue (a0_0 : Int) (a0_1 : Int) (a0_2 : ByteArray)  : Ev (fun k => laws_eqMillValue.f a0_0 a0_1 a0_2 a0_0 a0_1 a0_2) true := ev_pos (by first | rfl | omega) (ev_pos (by first | rfl | omega) (ev_pos (by first | rfl | omega) (ev_now _)))
theorem rdS34_at (l : List S34) (i : Nat) (h : i < l.length) : rd_T34 l (i : Int) = l[i] := by
  unfold rd_T34; rw [Int.toNat_natCast, List.getD_eq_getElem?_getD, List.getElem?_eq_getElem h]; rfl
theorem sz_MillValueS_l0 (l : List S34) (hl : l.length ≤ 4398046511104) : ∀ d i : Nat, i + d = l.length → ∀ left : Int, Tot (fun k => laws_szMillValueS.l0 k l left (i : Int))
  | 0, i, h, left => tot_step (tot_neg (by omega) (tot_now _))
  | d + 1, i, h, left => by
    have hn : l.length ≤ 4398046511104 := hl
    have e := succ64 (i := i) (n := l.length) (by omega) (by omega)
    exact tot_step (tot_pos (by omega) (tot_pos (by omega) (tot_bind (sz_MillValue _ _ _ _) (fun t102 => tot_ite (tot_now _) ((by simp only [e]; exact sz_MillValueS_l0 l hl d (i + 1) (by omega) _))))))
theorem sz_MillValueS (l : List S34) (left : Int) (hl : l.length ≤ 4398046511104) : Tot (fun k => laws_szMillValueS.f k l left) := tot_ite (tot_now _) (sz_MillValueS_l0 l hl l.length 0 (by omega) _)
def to_MillValueS_ (x : S34) : S25 := ⟨x.f0, x.f1, x.f2⟩
theorem to_MillValueS_l0 (l : List S34) (hl : l.length ≤ 4398046511104) : ∀ d i : Nat, i + d = l.length →
    Ev (fun k => laws_toMillValueS.l0 k l ((l.take i).map to_MillValueS_ ++ List.replicate (l.length - i) z25) (i : Int)) (l.map to_MillValueS_)
  | 0, i, h => by
    refine ev_step (ev_neg (by omega) (ev_eq (ev_now _) ?_))
    have : i = l.length := by omega
    subst this; simp
  | d + 1, i, h => by
    have hn : l.length ≤ 4398046511104 := hl
    have e := succ64 (i := i) (n := l.length) (by omega) (by omega)
    have hi : i < l.length := by omega
    have hr : rd_T34 l (i : Int) = l[i] := rdS34_at l i hi
    refine ev_step (ev_pos (by omega) (ev_pos (by first | omega | (simp; omega)) (ev_bind (to_MillValue _ _ _) (ev_pos (by first | omega | (simp; omega)) (?_)))))
    have ih := to_MillValueS_l0 l hl d (i + 1) (by omega)
    rw [← set_map to_MillValueS_ l _ i hi] at ih
    simp only [e, hr, Int.toNat_natCast]; exact ih
theorem to_MillValueS (l : List S34) (hl : l.length ≤ 4398046511104) : Ev (fun k => laws_toMillValueS.f k l) (l.map to_MillValueS_) := by
  have hn : l.length ≤ 4398046511104 := hl
  refine ev_pos (by omega) (ev_pos (by omega) ?_)
  have h := to_MillValueS_l0 l hl l.length 0 (by omega)
  simpa using h
theorem rdS25_at (l : List S25) (i : Nat) (h : i < l.length) : rd_T25 l (i : Int) = l[i] := by
  unfold rd_T25; rw [Int.toNat_natCast, List.getD_eq_getElem?_getD, List.getElem?_eq_getElem h]; rfl
theorem eq_MillValueS_l0 (l : List S25) (hl : l.length ≤ 4398046511104) : ∀ d i : Nat, i + d = l.length → Ev (fun k => laws_eqMillValueS.l0 k l l (i : Int)) true
  | 0, i, h => ev_step (ev_neg (by omega) (ev_now _))
  | d + 1, i, h => by
    have hn : l.length ≤ 4398046511104 := hl
    have e := succ64 (i := i) (n := l.length) (by omega) (by omega)
    exact ev_step (ev_pos (by omega) (ev_pos (by first | rfl | omega) (ev_pos (by first | rfl | omega) (ev_bind (eq_MillValue _ _ _) (ev_pos (by first | rfl | omega) ((by simp only [e]; exact eq_MillValueS_l0 l hl d (i + 1) (by omega))))))))
theorem eq_MillValueS (l : List S25) (hl : l.length ≤ 4398046511104) : Ev (fun k => laws_eqMillValueS.f k l l) true := ev_pos (by first | rfl | omega) (eq_MillValueS_l0 l hl l.length 0 (by omega))
end Go.Proofs.YtfipacapjfnipaaDoor.Q
end
section
namespace Go.Proofs.YtfipacapjfnipaaDoor.Q
open Go.RowKit Go.Proofs.YtfipacapjfnipaaDoorW.PrintWords Go.Proofs.YtfipacapjfnipaaDoorW.PrintLast Go.Proofs.YtfipacapjfnipaaDoorW.PrintMore Go.Proofs.YtfipacapjfnipaaDoor.EvMore
set_option linter.unusedVariables false
set_option linter.unusedSimpArgs false
abbrev MV := S25
def btB (op : Int) (l : List Int) : Bool := match spec_l12Built.f 8 op l, impl_builtType.f op l with
  | some r, some (q, b) => b == decide (¬ r = 0)
  | _, _ => false
set_option maxRecDepth 100000 in
theorem bt0 : ∀ o : Fin 7, btB ((o.val : Int) + 6) [] = true := by decide +kernel
set_option maxRecDepth 100000 in
theorem bt1 : ∀ o : Fin 7, ∀ a : Fin 10, btB ((o.val : Int) + 6) [(a.val : Int) + 1] = true := by decide +kernel
set_option maxRecDepth 100000 in
theorem bt2 : ∀ o : Fin 7, ∀ a b : Fin 10, btB ((o.val : Int) + 6) [(a.val : Int) + 1, (b.val : Int) + 1] = true := by decide +kernel
set_option maxRecDepth 100000 in
theorem bt3 : ∀ o : Fin 7, ∀ a b c : Fin 10, btB ((o.val : Int) + 6) [(a.val : Int) + 1, (b.val : Int) + 1, (c.val : Int) + 1] = true := by decide +kernel
theorem bt_use {op : Int} {l : List Int} (h : btB op l = true) : ∃ r q : Int, Ev (fun k => spec_l12Built.f k op l) r ∧ impl_builtType.f op l = some (q, decide (¬ r = 0)) := by
  unfold btB at h
  cases h1 : spec_l12Built.f 8 op l with
  | none => rw [h1] at h; simp at h
  | some r =>
    cases h2 : impl_builtType.f op l with
    | none => rw [h1, h2] at h; simp at h
    | some q =>
      obtain ⟨q, b⟩ := q
      rw [h1, h2] at h
      simp only [beq_iff_eq] at h
      subst h
      exact ⟨r, q, Ev.of (fun k => spec_l12Built.mono op l k) h1, rfl⟩
theorem bt_same (op : Int) (h6 : 6 ≤ op) (h12 : op ≤ 12) (l : List Int) (hl : l.length ≤ 3) (ht : ∀ t ∈ l, 1 ≤ t ∧ t ≤ 10) : ∃ r q : Int, Ev (fun k => spec_l12Built.f k op l) r ∧ impl_builtType.f op l = some (q, decide (¬ r = 0)) := by
  apply bt_use
  have ho : (((op - 6).toNat : Nat) : Int) + 6 = op := by omega
  have hf : ∀ t, t ∈ l → (t - 1).toNat < 10 ∧ (((t - 1).toNat : Nat) : Int) + 1 = t := fun t h => by have := ht t h; omega
  rcases l with _ | ⟨a, _ | ⟨b, _ | ⟨c, _ | ⟨d, r⟩⟩⟩⟩
  · have := bt0 ⟨(op - 6).toNat, by omega⟩
    simp only [ho] at this
    exact this
  · have ha := hf a (by simp)
    have := bt1 ⟨(op - 6).toNat, by omega⟩ ⟨(a - 1).toNat, ha.1⟩
    simp only [ho, ha.2] at this
    exact this
  · have ha := hf a (by simp)
    have hb := hf b (by simp)
    have := bt2 ⟨(op - 6).toNat, by omega⟩ ⟨(a - 1).toNat, ha.1⟩ ⟨(b - 1).toNat, hb.1⟩
    simp only [ho, ha.2, hb.2] at this
    exact this
  · have ha := hf a (by simp)
    have hb := hf b (by simp)
    have hc := hf c (by simp)
    have := bt3 ⟨(op - 6).toNat, by omega⟩ ⟨(a - 1).toNat, ha.1⟩ ⟨(b - 1).toNat, hb.1⟩ ⟨(c - 1).toNat, hc.1⟩
    simp only [ho, ha.2, hb.2, hc.2] at this
    exact this
  · simp only [List.length_cons] at hl; omega
theorem bt_fit {op : Int} {l : List Int} {q : Int} (h : impl_builtType.f op l = some (q, true)) : l.length + 1 = (rdT op).length ∧ ∀ j, j < l.length → fits1 (rd l (j : Int)) (rd (rdT op) (j : Int)) = true := by
  unfold impl_builtType.f at h
  split at h
  · split at h
    · rename_i h2
      split at h
      · rename_i h3
        rw [List.all_eq_true] at h3
        exact ⟨h2, fun j hj => h3 j (List.mem_range.2 hj)⟩
      · simp at h
    · simp at h
  · simp at h
theorem vval_facts {x : MV} (h : vval x.f0 x.f1 x.f2 = true) : 1 ≤ x.f0 ∧ x.f0 ≤ 10 ∧ x.f2.size ≤ 3000 ∧ (3 ≤ x.f0 → x.f1 = conv x.f0 (IntKind.u64.wrap x.f1)) := by
  have hz : ∀ s : ByteArray, s.toList = [] → s.size = 0 := fun s h => by
    have := size_list s
    rw [ByteArray.toList_eq] at h
    rw [h] at this
    simpa using this.symm
  unfold vval at h
  split at h
  · rename_i h1
    simp only [Bool.and_eq_true, beq_iff_eq] at h
    exact ⟨by omega, by omega, by rw [hz _ h.2]; omega, fun q => by omega⟩
  · split at h
    · rename_i h1
      simp only [Bool.and_eq_true, decide_eq_true_eq] at h
      exact ⟨by omega, by omega, by omega, fun q => by omega⟩
    · split at h
      · rename_i h1
        simp only [Bool.and_eq_true, beq_iff_eq] at h
        exact ⟨by omega, by omega, by rw [hz _ h.1]; omega, fun _ => h.2⟩
      · simp at h
theorem conv10 {n : Int} (h0 : -9223372036854775808 ≤ n) (h1 : n ≤ 9223372036854775807) : conv 10 (IntKind.u64.wrap n) = n := by
  rw [wrapU]; simp [conv, wrap64]; omega
theorem conv3 {n : Int} (h0 : 0 ≤ n) (h1 : n < 256) : conv 3 (IntKind.u64.wrap n) = n := by
  rw [wrapU]; simp [conv]; omega
theorem conv_i64 {t n : Int} (h0 : 3 ≤ t) (h1 : t ≤ 10) (h : n = conv t (IntKind.u64.wrap n)) : -9223372036854775808 ≤ n ∧ n ≤ 9223372036854775807 := by
  have hr := wrapU_range n
  rw [h]
  rcases types_cases h0 h1 with rfl | rfl | rfl | rfl | rfl | rfl | rfl | rfl <;> (simp [conv, wrap64]; omega)
theorem mInt_eq {t n : Int} (h0 : 3 ≤ t) (h1 : t ≤ 10) : impl_mInt.f t (IntKind.u64.wrap n) = some (t, conv t (IntKind.u64.wrap n), ⟨#[]⟩) := by
  have hr := wrapU_range n
  unfold impl_mInt.f
  rw [wrapped_eq h0 h1 hr.1 hr.2]
  rfl
theorem bt_range2 (s : ByteArray) (i : Int) : 0 ≤ bt s i ∧ bt s i < 256 := by
  unfold bt
  split
  · exact ⟨by omega, by have := UInt8.toNat_lt (s[i.toNat]'(by assumption)); omega⟩
  · omega
theorem pow10_dig : ∀ (n u : Nat), u < 10 ^ (n + 1) → (Lib.decDigits u).length ≤ n + 1
  | 0, u, h => by rw [digits_small (by simpa using h)]; simp
  | n + 1, u, h => by
    by_cases c : u < 10
    · rw [digits_small c]; simp
    · rw [digits_big c, List.length_append]
      have := pow10_dig n (u / 10) (by rw [Nat.pow_succ] at h; omega)
      simp only [List.length_cons, List.length_nil]
      omega
theorem itoa_len (v : Int) (n0 : -9223372036854775808 ≤ v) (n1 : v ≤ 9223372036854775807) : 1 ≤ (Lib.itoa v).length ∧ (Lib.itoa v).length ≤ 20 := by
  by_cases c : v < 0
  · have := pow10_dig 18 v.natAbs (by omega)
    unfold Lib.itoa
    rw [if_pos c]
    simp only [List.length_cons]
    omega
  · have := pow10_dig 18 v.toNat (by omega)
    obtain ⟨x, r, e, _, _⟩ := digits_head v.toNat v.toNat (Nat.le_refl _)
    unfold Lib.itoa
    rw [if_neg c]
    rw [e] at this ⊢
    simp only [List.length_cons] at this ⊢
    omega
theorem intSat_range (l : List UInt8) : -9223372036854775808 ≤ Lib.intSat 64 l ∧ Lib.intSat 64 l ≤ 9223372036854775807 := by
  unfold Lib.intSat
  split <;> simp
def rT : Int × Int × ByteArray × ByteArray := (0, 0, ⟨#[]⟩, ⟨#[116, 121, 112, 101]⟩)
theorem val_loops (op : Int) (l : List MV) (hl : l.length ≤ 4398046511104) : ∀ suf pre : List MV, l = pre ++ suf →
    ((∀ y ∈ suf, vval y.f0 y.f1 y.f2 = true) ∧ ∀ r, (Ev (fun k => spec_MillBuilt.l0 k op l (l.map fun x => x.f0) (l.length : Int)) r → Ev (fun k => spec_MillBuilt.l0 k op l (pre.map fun x => x.f0) (pre.length : Int)) r) ∧
      (Ev (fun k => impl_MillBuilt.l0 k op l (l.map fun x => x.f0) l (l.length : Int) (l.length : Int) 0 0 ⟨#[]⟩) r → Ev (fun k => impl_MillBuilt.l0 k op l (pre.map fun x => x.f0) l (l.length : Int) (pre.length : Int) 0 0 ⟨#[]⟩) r)) ∨
    (Ev (fun k => spec_MillBuilt.l0 k op l (pre.map fun x => x.f0) (pre.length : Int)) rT ∧ Ev (fun k => impl_MillBuilt.l0 k op l (pre.map fun x => x.f0) l (l.length : Int) (pre.length : Int) 0 0 ⟨#[]⟩) rT)
  | [], pre, ha => by
    have e : pre = l := by rw [ha]; simp
    subst e
    exact .inl ⟨by simp, fun r => ⟨id, id⟩⟩
  | y :: t, pre, ha => by
    have hlen : l.length = pre.length + (t.length + 1) := by rw [ha]; simp
    have e := succ64 (i := pre.length) (n := l.length) (by omega) (by omega)
    have hr : rd_T25 l (pre.length : Int) = y := by rw [rdS25_at l pre.length (by omega)]; simp [ha]
    have hml : (pre.map fun x => x.f0).length = pre.length := by simp
    have vs := spec_valid y.f0 y.f1 y.f2
    have vi := impl_valid y.f0 y.f1 y.f2
    cases hv : vval y.f0 y.f1 y.f2 with
    | false =>
      rw [hv] at vs vi
      exact .inr ⟨ev_step (ev_pos (by omega) (ev_pos (by omega) (ev_val (by rw [hr]; exact vs) (ev_neg (by simp) (ev_now _))))), ev_step (ev_pos (by omega) (ev_pos (by omega) (ev_pos (by omega) (ev_val (by rw [hr]; exact vi) (ev_neg (by simp) (ev_now _))))))⟩
    | true =>
      rw [hv] at vs vi
      have em : (pre.map fun x => x.f0) ++ [y.f0] = (pre ++ [y]).map fun x => x.f0 := by simp
      have el : (((pre ++ [y]).length : Nat) : Int) = ((pre.length + 1 : Nat) : Int) := by simp
      have goS : ∀ r, Ev (fun k => spec_MillBuilt.l0 k op l ((pre ++ [y]).map fun x => x.f0) ((pre ++ [y]).length : Int)) r → Ev (fun k => spec_MillBuilt.l0 k op l (pre.map fun x => x.f0) (pre.length : Int)) r := fun r h => by
        refine ev_step (ev_pos (by omega) (ev_pos (by omega) (ev_val (by rw [hr]; exact vs) (ev_pos rfl (ev_pos (by rw [hml]; omega) ?_)))))
        simp only [e, hr, em]
        rw [el] at h
        exact h
      have goI : ∀ r, Ev (fun k => impl_MillBuilt.l0 k op l ((pre ++ [y]).map fun x => x.f0) l (l.length : Int) ((pre ++ [y]).length : Int) 0 0 ⟨#[]⟩) r → Ev (fun k => impl_MillBuilt.l0 k op l (pre.map fun x => x.f0) l (l.length : Int) (pre.length : Int) 0 0 ⟨#[]⟩) r := fun r h => by
        refine ev_step (ev_pos (by omega) (ev_pos (by omega) (ev_pos (by omega) (ev_val (by rw [hr]; exact vi) (ev_pos rfl (ev_pos (by rw [hml]; omega) ?_))))))
        simp only [e, hr, em]
        rw [el] at h
        exact h
      rcases val_loops op l hl t (pre ++ [y]) (by rw [ha]; simp) with ⟨h1, h2⟩ | ⟨h1, h2⟩
      · refine .inl ⟨fun z hz => ?_, fun r => ⟨fun h => goS r ((h2 r).1 h), fun h => goI r ((h2 r).2 h)⟩⟩
        rcases List.mem_cons.1 hz with rfl | hz
        · exact hv
        · exact h1 z hz
      · exact .inr ⟨goS _ h1, goI _ h2⟩
theorem one_of {l : List MV} (h : l.length = 1) : ∃ a, l = [a] := List.length_eq_one_iff.1 h
theorem two_of {l : List MV} (h : l.length = 2) : ∃ a b, l = [a, b] := by
  rcases l with _ | ⟨a, _ | ⟨b, _ | ⟨c, r⟩⟩⟩
  · simp at h
  · simp at h
  · exact ⟨a, b, rfl⟩
  · simp at h
theorem three_of {l : List MV} (h : l.length = 3) : ∃ a b c, l = [a, b, c] := by
  rcases l with _ | ⟨a, _ | ⟨b, _ | ⟨c, _ | ⟨d, r⟩⟩⟩⟩
  · simp at h
  · simp at h
  · simp at h
  · exact ⟨a, b, c, rfl⟩
  · simp at h
theorem fin_ops (op : Int) (h6 : 6 ≤ op) (h12 : op ≤ 12) (l : List MV) (hv : ∀ y ∈ l, vval y.f0 y.f1 y.f2 = true) (r q : Int) (hr : ¬ r = 0) (hb : Ev (fun k => spec_l12Built.f k op (l.map fun x => x.f0)) r) (hbt : impl_builtType.f op (l.map fun x => x.f0) = some (q, true)) :
    ∃ R, Ev (fun k => spec_MillBuilt.l0 k op l (l.map fun x => x.f0) (l.length : Int)) R ∧ Ev (fun k => impl_MillBuilt.l0 k op l (l.map fun x => x.f0) l (l.length : Int) (l.length : Int) 0 0 ⟨#[]⟩) R := by
  obtain ⟨hlen, hfit⟩ := bt_fit hbt
  rw [List.length_map] at hlen hfit
  rcases (by omega : op = 6 ∨ op = 7 ∨ op = 8 ∨ op = 9 ∨ op = 10 ∨ op = 11 ∨ op = 12) with rfl | rfl | rfl | rfl | rfl | rfl | rfl
  · have hlen1 : l.length + 1 = 2 := hlen
    obtain ⟨a, rfl⟩ : ∃ a, l = [a] := one_of (by omega)
    have va := vval_facts (hv a (by simp))
    refine ⟨(10, (a.f2.size : Int), ⟨#[]⟩, ⟨#[]⟩), ev_step (ev_neg (by simp) (ev_bind hb (ev_neg hr (ev_pos (by simp) (ev_pos rfl (ev_now _)))))), ev_step (ev_neg (by simp) (ev_val hbt (ev_pos rfl (ev_pos (by simp) (ev_pos rfl (ev_val (mInt_eq (by omega) (by omega)) (ev_eq (ev_now _) ?_)))))))⟩
    show (10, conv 10 (IntKind.u64.wrap (a.f2.size : Int)), _, _) = _
    rw [conv10 (by omega) (by have := va.2.2.1; omega)]
  · have hlen1 : l.length + 1 = 3 := hlen
    obtain ⟨a, b, rfl⟩ : ∃ a b, l = [a, b] := two_of (by omega)
    have va := vval_facts (hv a (by simp))
    have gb := bt_range2 a.f2 b.f1
    by_cases c1 : b.f1 < 0
    · refine ⟨(0, 0, ⟨#[]⟩, ⟨#[114, 97, 110, 103, 101]⟩), ev_step (ev_neg (by simp) (ev_bind hb (ev_neg hr (ev_pos (by simp) (ev_neg (by omega) (ev_pos rfl (ev_pos (by simp) (ev_pos c1 (ev_step ?_))))))))), ev_step (ev_neg (by simp) (ev_val hbt (ev_pos rfl (ev_pos (by simp) (ev_neg (by omega) (ev_pos rfl (ev_pos (by simp) (ev_pos c1 (ev_now _)))))))))⟩
      simp only [spec_MillBuilt.j2, if_true]
      exact ev_now _
    · by_cases c2 : b.f1 ≥ (a.f2.size : Int)
      · refine ⟨(0, 0, ⟨#[]⟩, ⟨#[114, 97, 110, 103, 101]⟩), ev_step (ev_neg (by simp) (ev_bind hb (ev_neg hr (ev_pos (by simp) (ev_neg (by omega) (ev_pos rfl (ev_pos (by simp) (ev_neg c1 (ev_step ?_))))))))), ev_step (ev_neg (by simp) (ev_val hbt (ev_pos rfl (ev_pos (by simp) (ev_neg (by omega) (ev_pos rfl (ev_pos (by simp) (ev_neg c1 (ev_pos c2 (ev_now _))))))))))⟩
        have hd : decide ((rd_T25 [a, b] 1).f1 ≥ ((rd_T25 [a, b] 0).f2.size : Int)) = true := decide_eq_true c2
        simp only [spec_MillBuilt.j2, hd, if_true]
        exact ev_now _
      · have k1 : (0 : Int) ≤ b.f1 := by omega
        have k2 : b.f1 < (a.f2.size : Int) := by omega
        refine ⟨(3, bt a.f2 b.f1, ⟨#[]⟩, ⟨#[]⟩), ev_step (ev_neg (by simp) (ev_bind hb (ev_neg hr (ev_pos (by simp) (ev_neg (by omega) (ev_pos rfl (ev_pos (by simp) (ev_neg c1 (ev_step ?_))))))))), ev_step (ev_neg (by simp) (ev_val hbt (ev_pos rfl (ev_pos (by simp) (ev_neg (by omega) (ev_pos rfl (ev_pos (by simp) (ev_neg c1 (ev_neg c2 (ev_pos k1 (ev_pos k2 (ev_val (mInt_eq (by omega) (by omega)) (ev_eq (ev_now _) ?_)))))))))))))⟩
        · have hd : decide ((rd_T25 [a, b] 1).f1 ≥ ((rd_T25 [a, b] 0).f2.size : Int)) = false := decide_eq_false c2
          simp only [spec_MillBuilt.j2, hd, Bool.false_eq_true, if_false]
          refine ev_pos (by simp) (ev_pos k1 (ev_pos k2 (ev_eq (ev_now _) ?_)))
          show (3, wrap64 (bt a.f2 b.f1), _, _) = _
          rw [show wrap64 (bt a.f2 b.f1) = bt a.f2 b.f1 from id64 (by omega) (by omega)]
        · show (3, conv 3 (IntKind.u64.wrap (bt a.f2 b.f1)), _, _) = _
          rw [conv3 gb.1 gb.2]
  · have hlen1 : l.length + 1 = 4 := hlen
    obtain ⟨a, b, c, rfl⟩ : ∃ a b c, l = [a, b, c] := three_of (by omega)
    by_cases c1 : b.f1 < 0
    · skip
      exact ⟨(0, 0, ⟨#[]⟩, ⟨#[114, 97, 110, 103, 101]⟩), ev_step (ev_neg (by simp) (ev_bind hb (ev_neg hr (ev_pos (by simp) (ev_neg (by omega) (ev_neg (by omega) (ev_pos rfl (ev_pos (by simp) (ev_pos (by simp) (ev_val (a := (0, 0, ⟨#[]⟩, ⟨#[114, 97, 110, 103, 101]⟩)) (by unfold spec_l13Cut.f; exact if_pos c1) (ev_now _))))))))))), ev_step (ev_neg (by simp) (ev_val hbt (ev_pos rfl (ev_pos (by simp) (ev_neg (by omega) (ev_neg (by omega) (ev_pos rfl (ev_pos (by simp) (ev_pos (by simp) (ev_pos c1 (ev_now _)))))))))))⟩
    · by_cases c2 : b.f1 > c.f1
      · skip
        exact ⟨(0, 0, ⟨#[]⟩, ⟨#[114, 97, 110, 103, 101]⟩), ev_step (ev_neg (by simp) (ev_bind hb (ev_neg hr (ev_pos (by simp) (ev_neg (by omega) (ev_neg (by omega) (ev_pos rfl (ev_pos (by simp) (ev_pos (by simp) (ev_val (a := (0, 0, ⟨#[]⟩, ⟨#[114, 97, 110, 103, 101]⟩)) (by unfold spec_l13Cut.f; exact (if_neg c1).trans (if_pos c2)) (ev_now _))))))))))), ev_step (ev_neg (by simp) (ev_val hbt (ev_pos rfl (ev_pos (by simp) (ev_neg (by omega) (ev_neg (by omega) (ev_pos rfl (ev_pos (by simp) (ev_pos (by simp) (ev_neg c1 (ev_pos c2 (ev_now _))))))))))))⟩
      · by_cases c3 : c.f1 > (a.f2.size : Int)
        · skip
          exact ⟨(0, 0, ⟨#[]⟩, ⟨#[114, 97, 110, 103, 101]⟩), ev_step (ev_neg (by simp) (ev_bind hb (ev_neg hr (ev_pos (by simp) (ev_neg (by omega) (ev_neg (by omega) (ev_pos rfl (ev_pos (by simp) (ev_pos (by simp) (ev_val (a := (0, 0, ⟨#[]⟩, ⟨#[114, 97, 110, 103, 101]⟩)) (by unfold spec_l13Cut.f; exact (if_neg c1).trans ((if_neg c2).trans (if_pos c3))) (ev_now _))))))))))), ev_step (ev_neg (by simp) (ev_val hbt (ev_pos rfl (ev_pos (by simp) (ev_neg (by omega) (ev_neg (by omega) (ev_pos rfl (ev_pos (by simp) (ev_pos (by simp) (ev_neg c1 (ev_neg c2 (ev_pos c3 (ev_now _)))))))))))))⟩
        · have k1 : (0 : Int) ≤ b.f1 := by omega
          have k2 : b.f1 ≤ c.f1 := by omega
          have k3 : c.f1 ≤ (a.f2.size : Int) := by omega
          exact ⟨(2, 0, a.f2.extract b.f1.toNat c.f1.toNat, ⟨#[]⟩), ev_step (ev_neg (by simp) (ev_bind hb (ev_neg hr (ev_pos (by simp) (ev_neg (by omega) (ev_neg (by omega) (ev_pos rfl (ev_pos (by simp) (ev_pos (by simp) (ev_val (a := (2, 0, a.f2.extract b.f1.toNat c.f1.toNat, ⟨#[]⟩)) (by unfold spec_l13Cut.f; exact (if_neg c1).trans ((if_neg c2).trans ((if_neg c3).trans ((if_pos k1).trans ((if_pos k2).trans ((if_pos k3).trans rfl)))))) (ev_now _))))))))))), ev_step (ev_neg (by simp) (ev_val hbt (ev_pos rfl (ev_pos (by simp) (ev_neg (by omega) (ev_neg (by omega) (ev_pos rfl (ev_pos (by simp) (ev_pos (by simp) (ev_neg c1 (ev_neg c2 (ev_neg c3 (ev_pos k1 (ev_pos k2 (ev_pos k3 (ev_val rfl (ev_now _)))))))))))))))))⟩
  · have hlen1 : l.length + 1 = 3 := hlen
    obtain ⟨a, b, rfl⟩ : ∃ a b, l = [a, b] := two_of (by omega)
    have va := (vval_facts (hv a (by simp))).2.2.1
    have vb := (vval_facts (hv b (by simp))).2.2.1
    have g0 := Lib.index_ge a.f2.data.toList b.f2.data.toList
    have g1 := index_le a.f2.data.toList b.f2.data.toList
    rw [size_list] at g1
    have hix : strings_Index.f a.f2 b.f2 = some (Lib.index a.f2.data.toList b.f2.data.toList) := by unfold strings_Index.f; rw [if_pos (by omega)]
    refine ⟨(10, Lib.index a.f2.data.toList b.f2.data.toList, ⟨#[]⟩, ⟨#[]⟩), ev_step (ev_neg (by simp) (ev_bind hb (ev_neg hr (ev_pos (by simp) (ev_neg (by omega) (ev_neg (by omega) (ev_neg (by omega) (ev_pos rfl (ev_pos (by simp) (ev_bind (find_ev a.f2 b.f2 (by omega) (by omega)) (ev_now _))))))))))), ev_step (ev_neg (by simp) (ev_val hbt (ev_pos rfl (ev_pos (by simp) (ev_neg (by omega) (ev_neg (by omega) (ev_neg (by omega) (ev_pos rfl (ev_pos (by simp) (ev_val hix (ev_val (mInt_eq (by omega) (by omega)) (ev_eq (ev_now _) ?_))))))))))))⟩
    show (10, conv 10 (IntKind.u64.wrap (Lib.index a.f2.data.toList b.f2.data.toList)), _, _) = _
    rw [conv10 (by omega) (by omega)]
  · have hlen1 : l.length + 1 = 2 := hlen
    obtain ⟨a, rfl⟩ : ∃ a, l = [a] := one_of (by omega)
    exact ⟨(2, 0, strOfNums [a.f1 % 256], ⟨#[]⟩), ev_step (ev_neg (by simp) (ev_bind hb (ev_neg hr (ev_pos (by simp) (ev_neg (by omega) (ev_neg (by omega) (ev_neg (by omega) (ev_neg (by omega) (ev_pos rfl (ev_val rfl (ev_now _))))))))))), ev_step (ev_neg (by simp) (ev_val hbt (ev_pos rfl (ev_pos (by simp) (ev_neg (by omega) (ev_neg (by omega) (ev_neg (by omega) (ev_neg (by omega) (ev_pos rfl (ev_val rfl (ev_now _)))))))))))⟩
  · have hlen1 : l.length + 1 = 2 := hlen
    obtain ⟨a, rfl⟩ : ∃ a, l = [a] := one_of (by omega)
    have va := vval_facts (hv a (by simp))
    have f0 : fits1 a.f0 (-1) = true := hfit 0 (by simp)
    have t3 : 3 ≤ a.f0 := by
      unfold fits1 intT at f0
      have := va.1
      simp at f0
      omega
    have rg := conv_i64 t3 va.2.1 (va.2.2.2 t3)
    exact ⟨(2, 0, decB a.f0 a.f1, ⟨#[]⟩), ev_step (ev_neg (by simp) (ev_bind hb (ev_neg hr (ev_pos (by simp) (ev_neg (by omega) (ev_neg (by omega) (ev_neg (by omega) (ev_neg (by omega) (ev_neg (by omega) (ev_pos rfl (ev_bind (spec_dec a.f1 va.2.1 rg.1 rg.2) (ev_val rfl (ev_now _))))))))))))), ev_step (ev_neg (by simp) (ev_val hbt (ev_pos rfl (ev_pos (by simp) (ev_neg (by omega) (ev_neg (by omega) (ev_neg (by omega) (ev_neg (by omega) (ev_neg (by omega) (ev_pos rfl (ev_val (impl_dec a.f1 t3 va.2.1 rg.1 rg.2) (ev_val rfl (ev_now _)))))))))))))⟩
  · have hlen1 : l.length + 1 = 2 := hlen
    obtain ⟨a, rfl⟩ : ∃ a, l = [a] := one_of (by omega)
    have va := (vval_facts (hv a (by simp))).2.2.1
    have ps := parse_spec a.f2
    have rr := readV_range a.f2.data.toList
    have hS : ∀ p : Int × Bool, Ev (fun k => spec_l13Parse.f k a.f2) p → Ev (fun k => spec_MillBuilt.l0 k 12 [a] ([a].map fun x => x.f0) (([a].length : Nat) : Int)) (if p.2 = true then (10, p.1, ⟨#[]⟩, ⟨#[]⟩) else (0, 0, ⟨#[]⟩, ⟨#[110, 117, 109, 98, 101, 114]⟩)) := fun p hp => by
      refine ev_step (ev_neg (by simp) (ev_bind hb (ev_neg hr (ev_pos (by simp) (ev_neg (by omega) (ev_neg (by omega) (ev_neg (by omega) (ev_neg (by omega) (ev_neg (by omega) (ev_neg (by omega) (ev_bind hp ?_)))))))))))
      by_cases c : p.2 = true
      · exact ev_pos c (ev_eq (ev_now _) (by rw [if_pos c]))
      · exact ev_neg c (ev_eq (ev_now _) (by rw [if_neg c]))
    have hI : ∀ (v : Int) (o : Option Int), strconv_ParseInt.f a.f2 10 64 = some (v, o) → -9223372036854775808 ≤ v → v ≤ 9223372036854775807 →
        Ev (fun k => impl_MillBuilt.l0 k 12 [a] ([a].map fun x => x.f0) [a] (([a].length : Nat) : Int) (([a].length : Nat) : Int) 0 0 ⟨#[]⟩) (if o.isNone = true ∧ Lib.itoa v = a.f2.toList then (10, v, ⟨#[]⟩, ⟨#[]⟩) else (0, 0, ⟨#[]⟩, ⟨#[110, 117, 109, 98, 101, 114]⟩)) := fun v o hp n0 n1 => by
      have hfi : strconv_FormatInt.f v 10 = some ⟨(Lib.itoa v).toArray⟩ := by unfold strconv_FormatInt.f; rw [if_pos ⟨rfl, n0, n1⟩]
      refine ev_step (ev_neg (by simp) (ev_val hbt (ev_pos rfl (ev_pos (by simp) (ev_neg (by omega) (ev_neg (by omega) (ev_neg (by omega) (ev_neg (by omega) (ev_neg (by omega) (ev_neg (by omega) (ev_val hp ?_)))))))))))
      by_cases c : o.isNone = true
      · refine ev_pos c (ev_val hfi ?_)
        by_cases c2 : Lib.itoa v = a.f2.toList
        · refine ev_pos (by rw [toList_ba]; exact c2) (ev_val (mInt_eq (by omega) (by omega)) (ev_eq (ev_now _) ?_))
          rw [if_pos ⟨c, c2⟩, conv10 n0 n1]
        · exact ev_neg (by rw [toList_ba]; exact c2) (ev_eq (ev_now _) (by rw [if_neg (fun h => c2 h.2)]))
      · exact ev_neg c (ev_eq (ev_now _) (by rw [if_neg (fun h => c h.1)]))
    by_cases hex : ∃ v : Int, -9223372036854775808 ≤ v ∧ v ≤ 9223372036854775807 ∧ Lib.itoa v = a.f2.toList
    · obtain ⟨v, n0, n1, hva⟩ := hex
      have hl : a.f2.data.toList = Lib.itoa v := by rw [hva, ByteArray.toList_eq]
      have hll := Lib.itoa_length_le v n0 n1
      have hpi : strconv_ParseInt.f a.f2 10 64 = some (v, none) := by
        unfold strconv_ParseInt.f
        rw [if_pos ⟨rfl, rfl, by omega⟩, hl, parse_itoa v n0 n1]
      have h20 : 1 ≤ a.f2.size ∧ a.f2.size ≤ 20 := by
        rw [← size_list, hl]
        exact itoa_len v n0 n1
      have hs := hS _ ps
      rw [if_pos h20, hl, readV_itoa v n0 n1, if_pos (show (v, Lib.itoa v == a.f2.toList).2 = true by simpa using hva)] at hs
      have hi := hI v none hpi n0 n1
      rw [if_pos ⟨rfl, hva⟩] at hi
      exact ⟨_, hs, hi⟩
    · have hs := hS _ ps
      have hno : ∀ v : Int, -9223372036854775808 ≤ v → v ≤ 9223372036854775807 → ¬ Lib.itoa v = a.f2.toList := fun v n0 n1 h => hex ⟨v, n0, n1, h⟩
      rw [if_neg ?_] at hs
      · refine ⟨_, hs, ?_⟩
        cases hp : Lib.parseIntB 64 a.f2.data.toList with
        | ok v =>
          have hb2 := Lib.parseIntB_bounds hp
          have n0 : -9223372036854775808 ≤ v := by have := hb2.1; simp at this; omega
          have n1 : v ≤ 9223372036854775807 := by have := hb2.2; simp at this; omega
          have hi := hI v none (by unfold strconv_ParseInt.f; rw [if_pos ⟨rfl, rfl, by omega⟩, hp]) n0 n1
          rw [if_neg (fun h => hno v n0 n1 h.2)] at hi
          exact hi
        | range =>
          have hb3 := intSat_range a.f2.data.toList
          have hi := hI (Lib.intSat 64 a.f2.data.toList) (some 0) (by unfold strconv_ParseInt.f; rw [if_pos ⟨rfl, rfl, by omega⟩, hp]) hb3.1 hb3.2
          rw [if_neg (fun h => by simp at h)] at hi
          exact hi
        | _ =>
          have hi := hI 0 (some 0) (by unfold strconv_ParseInt.f; rw [if_pos ⟨rfl, rfl, by omega⟩, hp]) (by omega) (by omega)
          rw [if_neg (fun h => by simp at h)] at hi
          exact hi
      · split
        · simp only [beq_iff_eq]; exact hno _ rr.1 rr.2
        · simp
theorem built_ev (op : Int) (l : List MV) (hl : l.length ≤ 4398046511104) : ∃ R, Ev (fun k => spec_MillBuilt.f k op l) R ∧ Ev (fun k => impl_MillBuilt.f k op l) R := by
  have badS : Ev (fun k => spec_MillBuilt.j0 k op l true) rT := by
    refine ev_step ?_
    simp only [spec_MillBuilt.j0, if_true]
    exact ev_now _
  have badI : Ev (fun k => impl_MillBuilt.j0 k op l true 0 0 ⟨#[]⟩) rT := by
    refine ev_step ?_
    simp only [impl_MillBuilt.j0, if_true]
    exact ev_now _
  by_cases c1 : op < 6
  · exact ⟨rT, ev_pos c1 badS, ev_pos c1 badI⟩
  by_cases c2 : op > 12
  · exact ⟨rT, ev_neg c1 (ev_pos c2 badS), ev_neg c1 (by simp only [c2, decide_true]; exact badI)⟩
  have goI : ∀ R, Ev (fun k => impl_MillBuilt.l0 k op l [] l (l.length : Int) 0 0 0 ⟨#[]⟩) R → Ev (fun k => impl_MillBuilt.f k op l) R := fun R h => by
    refine ev_neg c1 ?_
    simp only [c2, decide_false]
    refine ev_step ?_
    simp only [impl_MillBuilt.j0, Bool.false_eq_true, if_false]
    exact h
  have lp := val_loops op l hl l [] rfl
  simp only [List.map_nil, List.length_nil] at lp
  by_cases c3 : (l.length : Int) > 3
  · refine ⟨rT, ev_neg c1 (ev_neg c2 (by simp only [c3, decide_true]; exact badS)), goI rT ?_⟩
    rcases lp with ⟨h1, h2⟩ | ⟨_, h2⟩
    · refine (h2 rT).2 (ev_step (ev_neg (by omega) (ev_val (a := (0, false)) ?_ (ev_neg (by simp) (ev_now _)))))
      have := rdT_len op
      unfold impl_builtType.f
      rw [if_pos ⟨by omega, by omega⟩, if_neg (by rw [List.length_map]; omega)]
    · exact h2
  · have goS : ∀ R, Ev (fun k => spec_MillBuilt.l0 k op l [] 0) R → Ev (fun k => spec_MillBuilt.f k op l) R := fun R h => by
      refine ev_neg c1 (ev_neg c2 ?_)
      simp only [c3, decide_false]
      refine ev_step ?_
      simp only [spec_MillBuilt.j0, Bool.false_eq_true, if_false]
      exact h
    rcases lp with ⟨hv, h2⟩ | ⟨h1, h2⟩
    · obtain ⟨r, q, hb, hbt⟩ := bt_same op (by omega) (by omega) (l.map fun x => x.f0) (by rw [List.length_map]; omega) (fun t ht => by
        obtain ⟨y, hy, rfl⟩ := List.mem_map.1 ht
        have := vval_facts (hv y hy)
        exact ⟨this.1, this.2.1⟩)
      by_cases hr : r = 0
      · rw [hr] at hbt hb
        exact ⟨rT, goS rT ((h2 rT).1 (ev_step (ev_neg (by omega) (ev_bind hb (ev_pos rfl (ev_now _)))))), goI rT ((h2 rT).2 (ev_step (ev_neg (by omega) (ev_val hbt (ev_neg (by simp) (ev_now _))))))⟩
      · rw [decide_eq_true hr] at hbt
        obtain ⟨R, h3, h4⟩ := fin_ops op (by omega) (by omega) l hv r q hr hb hbt
        exact ⟨R, goS R ((h2 R).1 h3), goI R ((h2 R).2 h4)⟩
    · exact ⟨rT, goS rT h1, goI rT h2⟩
end Go.Proofs.YtfipacapjfnipaaDoor.Q
end
section
namespace Go.Proofs.YtfipacapjfnipaaDoor.PureFnExactMillBuilt
open Go.RowKit Go.Proofs.YtfipacapjfnipaaDoor.Q Go.Proofs.YtfipacapjfnipaaDoorW.PrintWords
set_option linter.unusedVariables false
set_option linter.unusedSimpArgs false
open Go.Proofs.YtfipacapjfnipaaDoor.EvMore
def G34 (x : S34) : Prop := (Lit.int .i64 x.f0).wf = true ∧ (Lit.int .i64 x.f1).wf = true ∧ x.f2.size ≤ 140737488351232
def Statement : Prop := ∀ (a0 : Int) (l1 : List (S34)), (Lit.int .i64 a0).wf = true → ((l1.length * 32 ≤ 140737488351232 ∧ l1.length ≤ maxLen) ∧ ∀ y ∈ l1, G34 y) → ∃ k, laws_FnExactMillBuilt.f k a0 l1 = some true
theorem FnExactMillBuilt : Statement := by
  intro op l _ hl
  obtain ⟨⟨h1, h2⟩, h3⟩ := hl
  have hlen : l.length ≤ 4398046511104 := by omega
  obtain ⟨v, hv⟩ := sz_MillValueS l 1048576 hlen
  have tp := to_MillValueS l hlen
  obtain ⟨⟨t, n, s, w⟩, r1, r2⟩ := built_ev op (l.map to_MillValueS_) (by simpa using hlen)
  refine Ev.rounds (ev_bind hv ?_)
  by_cases e : v < 0
  · exact ev_pos e (ev_now _)
  · refine ev_neg e (ev_bind tp (ev_bind r1 (ev_bind tp (ev_bind r2 (ev_bind (eq_MillValue t n s) (ev_pos rfl ?_))))))
    simp only [bne_self_eq_false]
    refine ev_step ?_
    simp only [laws_FnExactMillBuilt.j0, Bool.false_eq_true, if_false]
    exact ev_bind tp (ev_bind (eq_MillValueS _ (by simpa using hlen)) (ev_pos rfl (ev_now _)))
end Go.Proofs.YtfipacapjfnipaaDoor.PureFnExactMillBuilt
end
