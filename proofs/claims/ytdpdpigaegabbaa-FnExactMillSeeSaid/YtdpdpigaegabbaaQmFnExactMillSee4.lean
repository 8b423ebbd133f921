/- Several texts of this seat put together by merge.py (a claim has at most 60 files). -/
import Derived.Test.YtdpdpigaegabbaaQ0
import Derived.Test.YtdpdpigaegabbaaQmFnExactMillSee1
import Derived.Test.YtdpdpigaegabbaaQmFnExactMillSee2
import Derived.Test.YtdpdpigaegabbaaQmFnExactMillSee3
import Derived.Test.YtdpdpigaegabbaaEvMore
import Derived.Test.YtdpdpigaegabbaaOrd
-- Printed by this session's own program (pp.py, over a patched copy of the kit's print): the functions that the laws reach and their contracts.
namespace Go.Proofs.Ytdpdpigaegabbaa.Q
open Go.RowKit Go.Proofs.YtdpdpigaegabbaaW.PrintWords Go.Proofs.YtdpdpigaegabbaaW.PrintLast Go.Proofs.YtdpdpigaegabbaaW.PrintMore
attribute [local go_sem] max2_int min2_int max_two min_two max_three min_three max_four min_four   -- for this text's walks alone
set_option linter.unusedVariables false
set_option linter.unusedSimpArgs false

/-! ### laws_FnExactMillSee: function 11 -/
def laws_FnExactMillSee.f (k : Nat) (l0_0 : List (S130)) (a1 : Int) (a2 : ByteArray) : Option (Bool) := if (a2.size : Int) > 1048576 then (some true) else ((laws_szMillPlace.f k l0_0 1048576).bind fun t102 => (if t102 < 0 then (some true) else ((laws_toMillPlace.f k l0_0).bind fun t103 => ((spec_MillSee.f k t103 a1 a2).bind fun bt106 => ((laws_toMillPlace.f k l0_0).bind fun t109 => ((impl_MillSee.f k t109 a1 a2).bind fun bt113 => ((laws_eqMillReply.f bt113.1 bt113.2 bt106.1 bt106.2).bind fun t116 => (if t116 = true then ((laws_toMillPlace.f k l0_0).bind fun t117 => ((laws_eqMillPlace.f k t109 t117).bind fun t120 => (if t120 = true then (some true) else (some false)))) else (some false)))))))))
theorem laws_FnExactMillSee.mono : ∀ a0 a1 a2 k, LeO (laws_FnExactMillSee.f k a0 a1 a2) (laws_FnExactMillSee.f (k + 1) a0 a1 a2) := by
  intro a0 a1 a2 k
  unfold laws_FnExactMillSee.f
  repeat' first
      | (with_reducible exact impl_MillSee.mono _ _ _ _)
      | (with_reducible exact laws_eqMillPlace.mono _ _ _)
      | (with_reducible exact laws_szMillPlace.mono _ _ _)
      | (with_reducible exact laws_toMillPlace.mono _ _)
      | (with_reducible exact spec_MillSee.mono _ _ _ _)
      | (with_reducible exact LeO.refl _)
      | (with_reducible exact LeO.none _)
      | (with_reducible refine LeO.ite ?_ ?_)
      | (with_reducible refine LeO.bind ?_ (fun _ => ?_))
      | exact impl_MillSee.mono _ _ _ _
      | exact laws_eqMillPlace.mono _ _ _
      | exact laws_szMillPlace.mono _ _ _
      | exact laws_toMillPlace.mono _ _
      | exact spec_MillSee.mono _ _ _ _
      | exact LeO.none _
      | refine LeO.ite ?_ ?_
      | refine LeO.bind ?_ (fun _ => ?_)
set_option maxHeartbeats 8000000 in
set_option maxRecDepth 100000 in
theorem laws_FnExactMillSee.calls (k : Nat) (A0_0 : Option Addr) (c0_0 : Nat) (l0_0 : List (S130)) (a1 : Int) (a2 : ByteArray) (r : Bool) (w : World) (hr0_0 : Kd.C k130 w A0_0 l0_0.length l0_0) (hc0_0 : l0_0.length ≤ c0_0) (h : laws_FnExactMillSee.f k l0_0 a1 a2 = some r) :
    Calls Try.prog 11 #[.agg #[.slice A0_0 l0_0.length c0_0], .int .i64 a1, .string a2] w fun e w' => e = .returned (.bool r) ∧ Below w.heap.size w w' := by
  have hu54 := Try.underlying54
  have hu27 := Try.underlying27
  have hu59 := Try.underlying59
  have HR0_0 := Aside0.mk hr0_0
  have HC0_0 := Aside0.mk hc0_0
  clear hr0_0 hc0_0
  have HB := Aside0.mk (Below.refl w.heap.size w)
  have H : (if (a2.size : Int) > 1048576 then (some true) else ((laws_szMillPlace.f k l0_0 1048576).bind fun t102 => (if t102 < 0 then (some true) else ((laws_toMillPlace.f k l0_0).bind fun t103 => ((spec_MillSee.f k t103 a1 a2).bind fun bt106 => ((laws_toMillPlace.f k l0_0).bind fun t109 => ((impl_MillSee.f k t109 a1 a2).bind fun bt113 => ((laws_eqMillReply.f bt113.1 bt113.2 bt106.1 bt106.2).bind fun t116 => (if t116 = true then ((laws_toMillPlace.f k l0_0).bind fun t117 => ((laws_eqMillPlace.f k t109 t117).bind fun t120 => (if t120 = true then (some true) else (some false)))) else (some false)))))))))) = some r := h
  clear h
  by_cases c4 : (a2.size : Int) > 1048576
  · rw [if_pos c4] at H
    have c4b0 : decide (1048576 < (a2.size : Int)) = true := decide_eq_true c4
    have c4b1 : decide (1048576 < a2.size) = true := decide_eq_true (by omega)
    clear c4
    obtain rfl := Option.some.inj H
    go_enter Try.func11, Try.ntmps11
    go_wp2_with (first | ((with_reducible refine gate_dst (N := 3) rfl ?_); refine box_event ?hg (N := 3) ?hd (cs := #[.slice A0_0 l0_0.length c0_0]) (t := 54) ?hr ?_; (case hd => rfl); (case hg => rfl); (case hr => first | (go_simp; done) | (go_simp; rfl)); intro gb101 hg w5 hbox hb; have n0_ := Aside0.mk (below_step (by repeat (first | (with_reducible first | exact HB.out | apply below_alloc | apply pw_below_drewN | apply below_drew1) | exact HB.out)) hb); have n1_ := Aside0.mk (hbox); have n2_ := Aside0.mk ((by rw [hg]; exact (below_size (by repeat (first | (with_reducible first | exact HB.out | apply below_alloc | apply pw_below_drewN | apply below_drew1) | exact HB.out))) : w.heap.size ≤ gb101)); have n3_ := Aside0.mk ((by rw [hg]; exact (below_size (by repeat (first | (with_reducible first | exact HB.out | apply below_alloc | apply pw_below_drewN | apply below_drew1) | exact HB.out))) : w.heap.size ≤ gb101)); clear HB; have HB := n0_; have BK101 := n1_; have GW101 := n2_; have GE101 := n3_; clear n0_ n1_ n2_ n3_; clear hb hbox hg))
    go_ret
    exact ⟨by first | rfl | (simp [errW_none, errW_some] <;> rfl) | (simp [*, errW_none, errW_some] <;> rfl), by repeat (first | (with_reducible first | exact HB.out | apply below_alloc | apply pw_below_drewN | apply below_drew1 | refine below_set ?_ GE101.out) | exact HB.out)⟩
  · rw [if_neg c4] at H
    have c4b0 : decide (1048576 < (a2.size : Int)) = false := decide_eq_false c4
    have c4b1 : decide (1048576 < a2.size) = false := decide_eq_false (by omega)
    clear c4
    replace H := Option.bind_eq_some_iff.mp H
    obtain ⟨t102, A60, H⟩ := H
    replace H : (if t102 < 0 then (some true) else ((laws_toMillPlace.f k l0_0).bind fun t103 => ((spec_MillSee.f k t103 a1 a2).bind fun bt106 => ((laws_toMillPlace.f k l0_0).bind fun t109 => ((impl_MillSee.f k t109 a1 a2).bind fun bt113 => ((laws_eqMillReply.f bt113.1 bt113.2 bt106.1 bt106.2).bind fun t116 => (if t116 = true then ((laws_toMillPlace.f k l0_0).bind fun t117 => ((laws_eqMillPlace.f k t109 t117).bind fun t120 => (if t120 = true then (some true) else (some false)))) else (some false)))))))) = some r := H
    have A6 := Aside0.mk A60
    clear A60
    by_cases c7 : t102 < 0
    · rw [if_pos c7] at H
      have c7b0 : decide (t102 < 0) = true := decide_eq_true c7
      clear c7
      obtain rfl := Option.some.inj H
      go_enter Try.func11, Try.ntmps11
      go_wp2_with (first | ((with_reducible refine gate_dst (N := 3) rfl ?_); refine box_event ?hg (N := 3) ?hd (cs := #[.slice A0_0 l0_0.length c0_0]) (t := 54) ?hr ?_; (case hd => rfl); (case hg => rfl); (case hr => first | (go_simp; done) | (go_simp; rfl)); intro gb101 hg w8 hbox hb; have n0_ := Aside0.mk (below_step (by repeat (first | (with_reducible first | exact HB.out | apply below_alloc | apply pw_below_drewN | apply below_drew1) | exact HB.out)) hb); have n1_ := Aside0.mk (hbox); have n2_ := Aside0.mk ((by rw [hg]; exact (below_size (by repeat (first | (with_reducible first | exact HB.out | apply below_alloc | apply pw_below_drewN | apply below_drew1) | exact HB.out))) : w.heap.size ≤ gb101)); have n3_ := Aside0.mk ((by rw [hg]; exact (below_size (by repeat (first | (with_reducible first | exact HB.out | apply below_alloc | apply pw_below_drewN | apply below_drew1) | exact HB.out))) : w.heap.size ≤ gb101)); clear HB; have HB := n0_; have BK101 := n1_; have GW101 := n2_; have GE101 := n3_; clear n0_ n1_ n2_ n3_; clear hb hbox hg; have hcz9_0 : w8.cell? ⟨gb101, 0, none⟩ = some (.slice A0_0 l0_0.length c0_0) := (blk_cell BK101.out 0).trans rfl; have hfz9_0 := blk_frozen BK101.out 0) | ((with_reducible refine gate_callee (f := 33) rfl ?_); refine goesL_ (some 16) rfl rfl Try.func33 (by kernel_rfl) rfl #[.agg #[.slice A0_0 l0_0.length c0_0], .int .i64 1048576] rfl (by (try simp only [List.map_toArray, List.map_cons, List.map_nil]); first | done | rfl | (simp only [List.length_drop, List.length_take]; rfl)) ?_; (with_reducible refine (laws_szMillPlace.calls k _ _ l0_0 1048576 t102 _ ?side1 ?side2 A6.out).mono ?_); (case side1 => repeat (first | exact (Kd.C_below HR0_0.out HB.out) | (with_reducible refine Kd.C_alloc ?_ _) | (with_reducible refine Kd.C_drewN ?_ _) | (with_reducible refine Kd.C_drew ?_))); (case side2 => exact HC0_0.out); rintro e w10 ⟨rfl, hb⟩; refine ⟨_, rfl, ?_⟩; have n0_ := Aside0.mk (blk_below (g := gb101) (o := .cells #[.slice A0_0 l0_0.length c0_0] 54 (0, 0)) (by (with_reducible repeat (first | refine blk_drewN ?_ _ | refine blk_drew ?_ | refine blk_alloc ?_ _)); exact BK101.out) hb); have n1_ := Aside0.mk (below_step (by repeat (first | (with_reducible first | exact HB.out | apply below_alloc | apply pw_below_drewN | apply below_drew1 | refine below_set ?_ GE101.out) | exact HB.out)) hb); clear BK101; clear HB; have BK101 := n0_; have HB := n1_; clear n0_ n1_; (try clear hb); (try clear hb2); (try clear hk); (try clear hi)))
      go_ret
      exact ⟨by first | rfl | (simp [errW_none, errW_some] <;> rfl) | (simp [*, errW_none, errW_some] <;> rfl), by repeat (first | (with_reducible first | exact HB.out | apply below_alloc | apply pw_below_drewN | apply below_drew1 | refine below_set ?_ GE101.out) | exact HB.out)⟩
    · rw [if_neg c7] at H
      have c7b0 : decide (t102 < 0) = false := decide_eq_false c7
      clear c7
      replace H := Option.bind_eq_some_iff.mp H
      obtain ⟨t103, A110, H⟩ := H
      replace H : ((spec_MillSee.f k t103 a1 a2).bind fun bt106 => ((laws_toMillPlace.f k l0_0).bind fun t109 => ((impl_MillSee.f k t109 a1 a2).bind fun bt113 => ((laws_eqMillReply.f bt113.1 bt113.2 bt106.1 bt106.2).bind fun t116 => (if t116 = true then ((laws_toMillPlace.f k l0_0).bind fun t117 => ((laws_eqMillPlace.f k t109 t117).bind fun t120 => (if t120 = true then (some true) else (some false)))) else (some false)))))) = some r := H
      have A11 := Aside0.mk A110
      clear A110
      replace H := Option.bind_eq_some_iff.mp H
      obtain ⟨⟨t106, t107⟩, A120, H⟩ := H
      replace H : ((laws_toMillPlace.f k l0_0).bind fun t109 => ((impl_MillSee.f k t109 a1 a2).bind fun bt113 => ((laws_eqMillReply.f bt113.1 bt113.2 t106 t107).bind fun t116 => (if t116 = true then ((laws_toMillPlace.f k l0_0).bind fun t117 => ((laws_eqMillPlace.f k t109 t117).bind fun t120 => (if t120 = true then (some true) else (some false)))) else (some false))))) = some r := H
      have A12 := Aside0.mk A120
      clear A120
      replace H := Option.bind_eq_some_iff.mp H
      obtain ⟨t109, A130, H⟩ := H
      replace H : ((impl_MillSee.f k t109 a1 a2).bind fun bt113 => ((laws_eqMillReply.f bt113.1 bt113.2 t106 t107).bind fun t116 => (if t116 = true then ((laws_toMillPlace.f k l0_0).bind fun t117 => ((laws_eqMillPlace.f k t109 t117).bind fun t120 => (if t120 = true then (some true) else (some false)))) else (some false)))) = some r := H
      have A13 := Aside0.mk A130
      clear A130
      replace H := Option.bind_eq_some_iff.mp H
      obtain ⟨⟨t113, t114⟩, A140, H⟩ := H
      replace H : ((laws_eqMillReply.f t113 t114 t106 t107).bind fun t116 => (if t116 = true then ((laws_toMillPlace.f k l0_0).bind fun t117 => ((laws_eqMillPlace.f k t109 t117).bind fun t120 => (if t120 = true then (some true) else (some false)))) else (some false))) = some r := H
      have A14 := Aside0.mk A140
      clear A140
      replace H := Option.bind_eq_some_iff.mp H
      obtain ⟨t116, A150, H⟩ := H
      replace H : (if t116 = true then ((laws_toMillPlace.f k l0_0).bind fun t117 => ((laws_eqMillPlace.f k t109 t117).bind fun t120 => (if t120 = true then (some true) else (some false)))) else (some false)) = some r := H
      have A15 := Aside0.mk A150
      clear A150
      by_cases c16 : t116 = true
      · subst c16
        have H1 : ((laws_toMillPlace.f k l0_0).bind fun t117 => ((laws_eqMillPlace.f k t109 t117).bind fun t120 => (if t120 = true then (some true) else (some false)))) = some r := by rw [if_pos rfl] at H; exact H
        clear H
        have H := H1
        clear H1
        replace H := Option.bind_eq_some_iff.mp H
        obtain ⟨t117, A170, H⟩ := H
        replace H : ((laws_eqMillPlace.f k t109 t117).bind fun t120 => (if t120 = true then (some true) else (some false))) = some r := H
        have A17 := Aside0.mk A170
        clear A170
        replace H := Option.bind_eq_some_iff.mp H
        obtain ⟨t120, A180, H⟩ := H
        replace H : (if t120 = true then (some true) else (some false)) = some r := H
        have A18 := Aside0.mk A180
        clear A180
        by_cases c19 : t120 = true
        · subst c19
          have H1 : (some true) = some r := by rw [if_pos rfl] at H; exact H
          clear H
          have H := H1
          clear H1
          obtain rfl := Option.some.inj H
          go_enter Try.func11, Try.ntmps11
          try go_wp2_with (first | ((with_reducible refine gate_dst (N := 3) rfl ?_); refine box_event ?hg (N := 3) ?hd (cs := #[.slice A0_0 l0_0.length c0_0]) (t := 54) ?hr ?_; (case hd => rfl); (case hg => rfl); (case hr => first | (go_simp; done) | (go_simp; rfl)); intro gb101 hg w20 hbox hb; have n0_ := Aside0.mk (below_step (by repeat (first | (with_reducible first | exact HB.out | apply below_alloc | apply pw_below_drewN | apply below_drew1) | exact HB.out)) hb); have n1_ := Aside0.mk (hbox); have n2_ := Aside0.mk ((by rw [hg]; exact (below_size (by repeat (first | (with_reducible first | exact HB.out | apply below_alloc | apply pw_below_drewN | apply below_drew1) | exact HB.out))) : w.heap.size ≤ gb101)); have n3_ := Aside0.mk ((by rw [hg]; exact (below_size (by repeat (first | (with_reducible first | exact HB.out | apply below_alloc | apply pw_below_drewN | apply below_drew1) | exact HB.out))) : w.heap.size ≤ gb101)); clear HB; have HB := n0_; have BK101 := n1_; have GW101 := n2_; have GE101 := n3_; clear n0_ n1_ n2_ n3_; clear hb hbox hg; have hcz21_0 : w20.cell? ⟨gb101, 0, none⟩ = some (.slice A0_0 l0_0.length c0_0) := (blk_cell BK101.out 0).trans rfl; have hfz21_0 := blk_frozen BK101.out 0) | ((with_reducible refine gate_callee (f := 33) rfl ?_); refine goesL_ (some 16) rfl rfl Try.func33 (by kernel_rfl) rfl #[.agg #[.slice A0_0 l0_0.length c0_0], .int .i64 1048576] rfl (by (try simp only [List.map_toArray, List.map_cons, List.map_nil]); first | done | rfl | (simp only [List.length_drop, List.length_take]; rfl)) ?_; (with_reducible refine (laws_szMillPlace.calls k _ _ l0_0 1048576 t102 _ ?side1 ?side2 A6.out).mono ?_); (case side1 => repeat (first | exact (Kd.C_below HR0_0.out HB.out) | (with_reducible refine Kd.C_alloc ?_ _) | (with_reducible refine Kd.C_drewN ?_ _) | (with_reducible refine Kd.C_drew ?_))); (case side2 => exact HC0_0.out); rintro e w22 ⟨rfl, hb⟩; refine ⟨_, rfl, ?_⟩; have n0_ := Aside0.mk (blk_below (g := gb101) (o := .cells #[.slice A0_0 l0_0.length c0_0] 54 (0, 0)) (by (with_reducible repeat (first | refine blk_drewN ?_ _ | refine blk_drew ?_ | refine blk_alloc ?_ _)); exact BK101.out) hb); have n1_ := Aside0.mk (below_step (by repeat (first | (with_reducible first | exact HB.out | apply below_alloc | apply pw_below_drewN | apply below_drew1 | refine below_set ?_ GE101.out) | exact HB.out)) hb); clear BK101; clear HB; have BK101 := n0_; have HB := n1_; clear n0_ n1_; (try clear hb); (try clear hb2); (try clear hk); (try clear hi); have hcz23_0 : w22.cell? ⟨gb101, 0, none⟩ = some (.slice A0_0 l0_0.length c0_0) := (blk_cell BK101.out 0).trans rfl; have hfz23_0 := blk_frozen BK101.out 0) | ((with_reducible refine gate_callee (f := 35) rfl ?_); refine goesL_ (some 20) rfl rfl Try.func35 (by kernel_rfl) rfl #[.agg #[.slice A0_0 l0_0.length c0_0]] rfl (by (try simp only [List.map_toArray, List.map_cons, List.map_nil]); first | done | rfl | (simp only [List.length_drop, List.length_take]; rfl)) ?_; (with_reducible refine (laws_toMillPlace.calls k _ _ l0_0 t103 _ ?side1 ?side2 A11.out).mono ?_); (case side1 => repeat (first | exact (Kd.C_below HR0_0.out HB.out) | (with_reducible refine Kd.C_alloc ?_ _) | (with_reducible refine Kd.C_drewN ?_ _) | (with_reducible refine Kd.C_drew ?_))); (case side2 => exact HC0_0.out); rintro e w24 ⟨v104, rfl, ho0, hb⟩; refine ⟨_, rfl, ?_⟩; have n0_ := Aside0.mk (Kd.R_lower ho0 (below_size (by repeat (first | (with_reducible first | exact HB.out | apply below_alloc | apply pw_below_drewN | apply below_drew1 | refine below_set ?_ GE101.out) | exact HB.out)))); have n1_ := Aside0.mk (blk_below (g := gb101) (o := .cells #[.slice A0_0 l0_0.length c0_0] 54 (0, 0)) (by (with_reducible repeat (first | refine blk_drewN ?_ _ | refine blk_drew ?_ | refine blk_alloc ?_ _)); exact BK101.out) hb); have n2_ := Aside0.mk (below_step (by repeat (first | (with_reducible first | exact HB.out | apply below_alloc | apply pw_below_drewN | apply below_drew1 | refine below_set ?_ GE101.out) | exact HB.out)) hb); clear BK101; clear HB; have HO105 := n0_; have BK101 := n1_; have HB := n2_; clear n0_ n1_ n2_; (try clear hb); (try clear hb2); (try clear hk); (try clear hi); (try clear ho0); obtain ⟨Ao25, co25, eo25⟩ := Kd.R_slice HO105.out; subst eo25) | ((with_reducible refine gate_callee (f := 40) rfl ?_); refine goesL_ (some 23) rfl rfl Try.func40 (by kernel_rfl) rfl #[.agg #[.slice Ao25 t103.length co25], .int .i64 a1, .string a2] rfl (by (try simp only [List.map_toArray, List.map_cons, List.map_nil]); first | done | rfl | (simp only [List.length_drop, List.length_take]; rfl)) ?_; (with_reducible refine (spec_MillSee.calls k _ _ t103 a1 a2 t106 t107 _ ?side1 ?side2 A12.out).mono ?_); (case side1 => repeat (first | exact (Kd.R_reads' HO105.out).2.2 | (with_reducible refine Kd.C_alloc ?_ _) | (with_reducible refine Kd.C_drewN ?_ _) | (with_reducible refine Kd.C_drew ?_))); (case side2 => exact (Kd.R_reads' HO105.out).2.1); rintro e w26 ⟨rfl, hb⟩; refine ⟨_, rfl, ?_⟩; have n0_ := Aside0.mk (Kd.R_below (by (with_reducible repeat (first | apply Kd.R_alloc | apply Kd.R_drewN | apply Kd.R_drew)); exact HO105.out) hb); have n1_ := Aside0.mk (blk_below (g := gb101) (o := .cells #[.slice A0_0 l0_0.length c0_0] 54 (0, 0)) (by (with_reducible repeat (first | refine blk_drewN ?_ _ | refine blk_drew ?_ | refine blk_alloc ?_ _)); exact BK101.out) hb); have n2_ := Aside0.mk (below_step (by repeat (first | (with_reducible first | exact HB.out | apply below_alloc | apply pw_below_drewN | apply below_drew1 | refine below_set ?_ GE101.out) | exact HB.out)) hb); clear HO105; clear BK101; clear HB; have HO105 := n0_; have BK101 := n1_; have HB := n2_; clear n0_ n1_ n2_; (try clear hb); (try clear hb2); (try clear hk); (try clear hi)) | ((with_reducible refine gate_dst (N := 8) rfl ?_); refine box_event ?hg (N := 8) ?hd (cs := #[.int .i64 0, .string (⟨#[]⟩ : ByteArray)]) (t := 27) ?hr ?_; (case hd => rfl); (case hg => rfl); (case hr => first | (go_simp; done) | (go_simp; rfl)); intro gb108 hg w27 hbox hb; have n0_ := Aside0.mk (Kd.R_below (by (with_reducible repeat (first | apply Kd.R_alloc | apply Kd.R_drewN | apply Kd.R_drew)); exact HO105.out) hb); have n1_ := Aside0.mk (blk_below (g := gb101) (o := .cells #[.slice A0_0 l0_0.length c0_0] 54 (0, 0)) (by (with_reducible repeat (first | refine blk_drewN ?_ _ | refine blk_drew ?_ | refine blk_alloc ?_ _)); exact BK101.out) hb); have n2_ := Aside0.mk (below_step (by repeat (first | (with_reducible first | exact HB.out | apply below_alloc | apply pw_below_drewN | apply below_drew1 | refine below_set ?_ GE101.out) | exact HB.out)) hb); have n3_ := Aside0.mk (hbox); have n4_ := Aside0.mk ((by rw [hg]; exact (below_size (by repeat (first | (with_reducible first | exact HB.out | apply below_alloc | apply pw_below_drewN | apply below_drew1 | refine below_set ?_ GE101.out) | exact HB.out))) : w.heap.size ≤ gb108)); have n5_ := Aside0.mk ((by rw [hg]; exact (below_size (by repeat (first | (with_reducible first | exact HB.out | apply below_alloc | apply pw_below_drewN | apply below_drew1 | refine below_set ?_ GE101.out) | exact HB.out))) : w.heap.size ≤ gb108)); have n6_ := Aside0.mk ((by rw [hg]; exact Nat.ne_of_lt (blk_lt (g := gb101) (o := .cells #[.slice A0_0 l0_0.length c0_0] 54 (0, 0)) (by (with_reducible repeat (first | refine blk_drewN ?_ _ | refine blk_drew ?_ | refine blk_alloc ?_ _)); exact BK101.out)) : gb101 ≠ gb108)); have n7_ := Aside0.mk ((by rw [hg]; exact Nat.ne_of_gt (blk_lt (g := gb101) (o := .cells #[.slice A0_0 l0_0.length c0_0] 54 (0, 0)) (by (with_reducible repeat (first | refine blk_drewN ?_ _ | refine blk_drew ?_ | refine blk_alloc ?_ _)); exact BK101.out)) : gb108 ≠ gb101)); clear HO105; clear BK101; clear HB; have HO105 := n0_; have BK101 := n1_; have HB := n2_; have BK108 := n3_; have GW108 := n4_; have GE108 := n5_; have NB101_108 := n6_; have NB108_101 := n7_; clear n0_ n1_ n2_ n3_ n4_ n5_ n6_ n7_; clear hb hbox hg; have hnb28 := NB108_101.out; have hnc28 := NB101_108.out; have hcz29_0 : w27.cell? ⟨gb108, 0, none⟩ = some (.int .i64 0) := (blk_cell BK108.out 0).trans rfl; have hcz29_1 : w27.cell? ⟨gb108, 1, none⟩ = some (.string (⟨#[]⟩ : ByteArray)) := (blk_cell BK108.out 1).trans rfl; have hfz29_0 := blk_frozen BK108.out 0; have hfz29_1 := blk_frozen BK108.out 1; have hcz30_0 : w27.cell? ⟨gb101, 0, none⟩ = some (.slice A0_0 l0_0.length c0_0) := (blk_cell BK101.out 0).trans rfl; have hfz30_0 := blk_frozen BK101.out 0) | ((with_reducible refine gate_callee (f := 35) rfl ?_); refine goesL_ (some 25) rfl rfl Try.func35 (by kernel_rfl) rfl #[.agg #[.slice A0_0 l0_0.length c0_0]] rfl (by (try simp only [List.map_toArray, List.map_cons, List.map_nil]); first | done | rfl | (simp only [List.length_drop, List.length_take]; rfl)) ?_; (with_reducible refine (laws_toMillPlace.calls k _ _ l0_0 t109 _ ?side1 ?side2 A13.out).mono ?_); (case side1 => exact Kd.C_below HR0_0.out (by repeat (first | (with_reducible first | exact HB.out | apply below_alloc | apply pw_below_drewN | apply below_drew1 | refine below_set ?_ GE101.out | refine below_set ?_ GE108.out) | exact HB.out))); (case side2 => exact HC0_0.out); rintro e w31 ⟨v110, rfl, ho0, hb⟩; refine ⟨_, rfl, ?_⟩; have n0_ := Aside0.mk (Kd.R_elder' (by (with_reducible repeat (first | apply Kd.R_alloc | apply Kd.R_drewN | apply Kd.R_drew)); exact (Kd.R_mono (Kd.R_far (p := ⟨gb108, 1, none⟩) (Kd.R_far (p := ⟨gb108, 0, none⟩) (Kd.R_types HO105.out BK108.out (by decide)) (fun _ hk => hk.2) (.int .i64 t106)) (fun _ hk => hk.2) (.string t107)) (fun _ h_ => h_.1))) (Kd.R_base ho0) hb); have n1_ := Aside0.mk (Kd.R_lower (Kd.R_new' ho0 (Kd.R_lt (by (with_reducible repeat (first | apply Kd.R_alloc | apply Kd.R_drewN | apply Kd.R_drew)); exact (Kd.R_mono (Kd.R_far (p := ⟨gb108, 1, none⟩) (Kd.R_far (p := ⟨gb108, 0, none⟩) (Kd.R_types HO105.out BK108.out (by decide)) (fun _ hk => hk.2) (.int .i64 t106)) (fun _ hk => hk.2) (.string t107)) (fun _ h_ => h_.1))))) (below_size (by repeat (first | (with_reducible first | exact HB.out | apply below_alloc | apply pw_below_drewN | apply below_drew1 | refine below_set ?_ GE101.out | refine below_set ?_ GE108.out) | exact HB.out)))); have n2_ := Aside0.mk (blk_below (g := gb101) (o := .cells #[.slice A0_0 l0_0.length c0_0] 54 (0, 0)) (by (with_reducible repeat (first | refine blk_drewN ?_ _ | refine blk_drew ?_ | refine blk_alloc ?_ _)); refine blk_far ?_ NB101_108.out _; (with_reducible repeat (first | refine blk_drewN ?_ _ | refine blk_drew ?_ | refine blk_alloc ?_ _)); refine blk_far ?_ NB101_108.out _; (with_reducible repeat (first | refine blk_drewN ?_ _ | refine blk_drew ?_ | refine blk_alloc ?_ _)); exact BK101.out) hb); have n3_ := Aside0.mk (blk_below (g := gb108) (o := .cells #[.int .i64 t106, .string t107] 27 (0, 0)) (by (with_reducible repeat (first | refine blk_drewN ?_ _ | refine blk_drew ?_ | refine blk_alloc ?_ _)); refine blk_put (cs := #[.int .i64 t106, .string (⟨#[]⟩ : ByteArray)]) ?_ 1 _ rfl; (with_reducible repeat (first | refine blk_drewN ?_ _ | refine blk_drew ?_ | refine blk_alloc ?_ _)); refine blk_put (cs := #[.int .i64 0, .string (⟨#[]⟩ : ByteArray)]) ?_ 0 _ rfl; (with_reducible repeat (first | refine blk_drewN ?_ _ | refine blk_drew ?_ | refine blk_alloc ?_ _)); exact BK108.out) hb); have n4_ := Aside0.mk (below_step (by repeat (first | (with_reducible first | exact HB.out | apply below_alloc | apply pw_below_drewN | apply below_drew1 | refine below_set ?_ GE101.out | refine below_set ?_ GE108.out) | exact HB.out)) hb); clear HO105; clear BK101; clear BK108; clear HB; have HO105 := n0_; have HO111 := n1_; have BK101 := n2_; have BK108 := n3_; have HB := n4_; clear n0_ n1_ n2_ n3_ n4_; (try clear hb); (try clear hb2); (try clear hk); (try clear hi); (try clear ho0)) | ((with_reducible refine gate_dst (N := 9) rfl ?_); refine box_event ?hg (N := 9) ?hd (cs := #[.slice none 0 0]) (t := 59) ?hr ?_; (case hd => rfl); (case hg => rfl); (case hr => first | (go_simp; done) | (go_simp; rfl)); intro gb112 hg w32 hbox hb; have n0_ := Aside0.mk (Kd.R_below (by (with_reducible repeat (first | apply Kd.R_alloc | apply Kd.R_drewN | apply Kd.R_drew)); exact HO105.out) hb); have n1_ := Aside0.mk (Kd.R_below (by (with_reducible repeat (first | apply Kd.R_alloc | apply Kd.R_drewN | apply Kd.R_drew)); exact HO111.out) hb); have n2_ := Aside0.mk (blk_below (g := gb101) (o := .cells #[.slice A0_0 l0_0.length c0_0] 54 (0, 0)) (by (with_reducible repeat (first | refine blk_drewN ?_ _ | refine blk_drew ?_ | refine blk_alloc ?_ _)); exact BK101.out) hb); have n3_ := Aside0.mk (blk_below (g := gb108) (o := .cells #[.int .i64 t106, .string t107] 27 (0, 0)) (by (with_reducible repeat (first | refine blk_drewN ?_ _ | refine blk_drew ?_ | refine blk_alloc ?_ _)); exact BK108.out) hb); have n4_ := Aside0.mk (below_step (by repeat (first | (with_reducible first | exact HB.out | apply below_alloc | apply pw_below_drewN | apply below_drew1 | refine below_set ?_ GE101.out | refine below_set ?_ GE108.out) | exact HB.out)) hb); have n5_ := Aside0.mk (hbox); have n6_ := Aside0.mk ((by rw [hg]; exact (below_size (by repeat (first | (with_reducible first | exact HB.out | apply below_alloc | apply pw_below_drewN | apply below_drew1 | refine below_set ?_ GE101.out | refine below_set ?_ GE108.out) | exact HB.out))) : w.heap.size ≤ gb112)); have n7_ := Aside0.mk ((by rw [hg]; exact (below_size (by repeat (first | (with_reducible first | exact HB.out | apply below_alloc | apply pw_below_drewN | apply below_drew1 | refine below_set ?_ GE101.out | refine below_set ?_ GE108.out) | exact HB.out))) : w.heap.size ≤ gb112)); have n8_ := Aside0.mk ((by rw [hg]; exact Nat.ne_of_lt (blk_lt (g := gb101) (o := .cells #[.slice A0_0 l0_0.length c0_0] 54 (0, 0)) (by (with_reducible repeat (first | refine blk_drewN ?_ _ | refine blk_drew ?_ | refine blk_alloc ?_ _)); exact BK101.out)) : gb101 ≠ gb112)); have n9_ := Aside0.mk ((by rw [hg]; exact Nat.ne_of_gt (blk_lt (g := gb101) (o := .cells #[.slice A0_0 l0_0.length c0_0] 54 (0, 0)) (by (with_reducible repeat (first | refine blk_drewN ?_ _ | refine blk_drew ?_ | refine blk_alloc ?_ _)); exact BK101.out)) : gb112 ≠ gb101)); have n10_ := Aside0.mk ((by rw [hg]; exact Nat.ne_of_lt (blk_lt (g := gb108) (o := .cells #[.int .i64 t106, .string t107] 27 (0, 0)) (by (with_reducible repeat (first | refine blk_drewN ?_ _ | refine blk_drew ?_ | refine blk_alloc ?_ _)); exact BK108.out)) : gb108 ≠ gb112)); have n11_ := Aside0.mk ((by rw [hg]; exact Nat.ne_of_gt (blk_lt (g := gb108) (o := .cells #[.int .i64 t106, .string t107] 27 (0, 0)) (by (with_reducible repeat (first | refine blk_drewN ?_ _ | refine blk_drew ?_ | refine blk_alloc ?_ _)); exact BK108.out)) : gb112 ≠ gb108)); clear HO105; clear HO111; clear BK101; clear BK108; clear HB; have HO105 := n0_; have HO111 := n1_; have BK101 := n2_; have BK108 := n3_; have HB := n4_; have BK112 := n5_; have GW112 := n6_; have GE112 := n7_; have NB101_112 := n8_; have NB112_101 := n9_; have NB108_112 := n10_; have NB112_108 := n11_; clear n0_ n1_ n2_ n3_ n4_ n5_ n6_ n7_ n8_ n9_ n10_ n11_; clear hb hbox hg; obtain ⟨Ao33, co33, eo33⟩ := Kd.R_slice HO111.out; subst eo33; have hnb34 := NB112_101.out; have hnc34 := NB101_112.out; have hnb35 := NB112_108.out; have hnc35 := NB108_112.out; have hcz36_0 : w32.cell? ⟨gb112, 0, none⟩ = some (.slice none 0 0) := (blk_cell BK112.out 0).trans rfl; have hfz36_0 := blk_frozen BK112.out 0) | ((with_reducible refine gate_callee (f := 41) rfl ?_); refine goesL_ (some 29) rfl rfl Try.func41 (by kernel_rfl) rfl #[.agg #[.slice Ao33 t109.length co33], .int .i64 a1, .string a2] rfl (by (try simp only [List.map_toArray, List.map_cons, List.map_nil]); first | done | rfl | (simp only [List.length_drop, List.length_take]; rfl)) ?_; (with_reducible refine (impl_MillSee.calls k _ _ t109 a1 a2 t113 t114 _ ?side1 ?side2 A14.out).mono ?_); (case side1 => refine (Kd.R_reads' (e := 102) (base := w.heap.size) (ok := fun k_ => (True ∧ some k_ ≠ (.slice Ao25 t103.length co25 : Value).ownBlock)) (n := t109.length) (c := co33) ?_).2.2; exact (by (with_reducible repeat (first | apply Kd.R_alloc | apply Kd.R_drewN | apply Kd.R_drew)); exact (Kd.R_mono (Kd.R_far (p := ⟨gb112, 0, none⟩) (Kd.R_types HO111.out BK112.out (by decide)) (fun _ hk => hk.2) (.slice Ao33 t109.length co33)) (fun _ h_ => h_.1)))); (case side2 => exact (Kd.R_reads' HO111.out).2.1); rintro e w37 ⟨rfl, hb⟩; refine ⟨_, rfl, ?_⟩; have n0_ := Aside0.mk (Kd.R_below (by (with_reducible repeat (first | apply Kd.R_alloc | apply Kd.R_drewN | apply Kd.R_drew)); exact (Kd.R_mono (Kd.R_far (p := ⟨gb112, 0, none⟩) (Kd.R_types HO105.out BK112.out (by decide)) (fun _ hk => hk.2) (.slice Ao33 t109.length co33)) (fun _ h_ => h_.1))) hb); have n1_ := Aside0.mk (Kd.R_below (by (with_reducible repeat (first | apply Kd.R_alloc | apply Kd.R_drewN | apply Kd.R_drew)); exact (Kd.R_mono (Kd.R_far (p := ⟨gb112, 0, none⟩) (Kd.R_types HO111.out BK112.out (by decide)) (fun _ hk => hk.2) (.slice Ao33 t109.length co33)) (fun _ h_ => h_.1))) hb); have n2_ := Aside0.mk (blk_below (g := gb101) (o := .cells #[.slice A0_0 l0_0.length c0_0] 54 (0, 0)) (by (with_reducible repeat (first | refine blk_drewN ?_ _ | refine blk_drew ?_ | refine blk_alloc ?_ _)); refine blk_far ?_ NB101_112.out _; (with_reducible repeat (first | refine blk_drewN ?_ _ | refine blk_drew ?_ | refine blk_alloc ?_ _)); exact BK101.out) hb); have n3_ := Aside0.mk (blk_below (g := gb108) (o := .cells #[.int .i64 t106, .string t107] 27 (0, 0)) (by (with_reducible repeat (first | refine blk_drewN ?_ _ | refine blk_drew ?_ | refine blk_alloc ?_ _)); refine blk_far ?_ NB108_112.out _; (with_reducible repeat (first | refine blk_drewN ?_ _ | refine blk_drew ?_ | refine blk_alloc ?_ _)); exact BK108.out) hb); have n4_ := Aside0.mk (blk_below (g := gb112) (o := .cells #[.slice Ao33 t109.length co33] 59 (0, 0)) (by (with_reducible repeat (first | refine blk_drewN ?_ _ | refine blk_drew ?_ | refine blk_alloc ?_ _)); refine blk_put (cs := #[.slice none 0 0]) ?_ 0 _ rfl; (with_reducible repeat (first | refine blk_drewN ?_ _ | refine blk_drew ?_ | refine blk_alloc ?_ _)); exact BK112.out) hb); have n5_ := Aside0.mk (below_step (by repeat (first | (with_reducible first | exact HB.out | apply below_alloc | apply pw_below_drewN | apply below_drew1 | refine below_set ?_ GE101.out | refine below_set ?_ GE108.out | refine below_set ?_ GE112.out) | exact HB.out)) hb); clear HO105; clear HO111; clear BK101; clear BK108; clear BK112; clear HB; have HO105 := n0_; have HO111 := n1_; have BK101 := n2_; have BK108 := n3_; have BK112 := n4_; have HB := n5_; clear n0_ n1_ n2_ n3_ n4_ n5_; (try clear hb); (try clear hb2); (try clear hk); (try clear hi)) | ((with_reducible refine gate_dst (N := 10) rfl ?_); refine box_event ?hg (N := 10) ?hd (cs := #[.int .i64 0, .string (⟨#[]⟩ : ByteArray)]) (t := 27) ?hr ?_; (case hd => rfl); (case hg => rfl); (case hr => first | (go_simp; done) | (go_simp; rfl)); intro gb115 hg w38 hbox hb; have n0_ := Aside0.mk (Kd.R_below (by (with_reducible repeat (first | apply Kd.R_alloc | apply Kd.R_drewN | apply Kd.R_drew)); exact HO105.out) hb); have n1_ := Aside0.mk (Kd.R_below (by (with_reducible repeat (first | apply Kd.R_alloc | apply Kd.R_drewN | apply Kd.R_drew)); exact HO111.out) hb); have n2_ := Aside0.mk (blk_below (g := gb101) (o := .cells #[.slice A0_0 l0_0.length c0_0] 54 (0, 0)) (by (with_reducible repeat (first | refine blk_drewN ?_ _ | refine blk_drew ?_ | refine blk_alloc ?_ _)); exact BK101.out) hb); have n3_ := Aside0.mk (blk_below (g := gb108) (o := .cells #[.int .i64 t106, .string t107] 27 (0, 0)) (by (with_reducible repeat (first | refine blk_drewN ?_ _ | refine blk_drew ?_ | refine blk_alloc ?_ _)); exact BK108.out) hb); have n4_ := Aside0.mk (blk_below (g := gb112) (o := .cells #[.slice Ao33 t109.length co33] 59 (0, 0)) (by (with_reducible repeat (first | refine blk_drewN ?_ _ | refine blk_drew ?_ | refine blk_alloc ?_ _)); exact BK112.out) hb); have n5_ := Aside0.mk (below_step (by repeat (first | (with_reducible first | exact HB.out | apply below_alloc | apply pw_below_drewN | apply below_drew1 | refine below_set ?_ GE101.out | refine below_set ?_ GE108.out | refine below_set ?_ GE112.out) | exact HB.out)) hb); have n6_ := Aside0.mk (hbox); have n7_ := Aside0.mk ((by rw [hg]; exact (below_size (by repeat (first | (with_reducible first | exact HB.out | apply below_alloc | apply pw_below_drewN | apply below_drew1 | refine below_set ?_ GE101.out | refine below_set ?_ GE108.out | refine below_set ?_ GE112.out) | exact HB.out))) : w.heap.size ≤ gb115)); have n8_ := Aside0.mk ((by rw [hg]; exact (below_size (by repeat (first | (with_reducible first | exact HB.out | apply below_alloc | apply pw_below_drewN | apply below_drew1 | refine below_set ?_ GE101.out | refine below_set ?_ GE108.out | refine below_set ?_ GE112.out) | exact HB.out))) : w.heap.size ≤ gb115)); have n9_ := Aside0.mk ((by rw [hg]; exact Nat.ne_of_lt (blk_lt (g := gb101) (o := .cells #[.slice A0_0 l0_0.length c0_0] 54 (0, 0)) (by (with_reducible repeat (first | refine blk_drewN ?_ _ | refine blk_drew ?_ | refine blk_alloc ?_ _)); exact BK101.out)) : gb101 ≠ gb115)); have n10_ := Aside0.mk ((by rw [hg]; exact Nat.ne_of_gt (blk_lt (g := gb101) (o := .cells #[.slice A0_0 l0_0.length c0_0] 54 (0, 0)) (by (with_reducible repeat (first | refine blk_drewN ?_ _ | refine blk_drew ?_ | refine blk_alloc ?_ _)); exact BK101.out)) : gb115 ≠ gb101)); have n11_ := Aside0.mk ((by rw [hg]; exact Nat.ne_of_lt (blk_lt (g := gb108) (o := .cells #[.int .i64 t106, .string t107] 27 (0, 0)) (by (with_reducible repeat (first | refine blk_drewN ?_ _ | refine blk_drew ?_ | refine blk_alloc ?_ _)); exact BK108.out)) : gb108 ≠ gb115)); have n12_ := Aside0.mk ((by rw [hg]; exact Nat.ne_of_gt (blk_lt (g := gb108) (o := .cells #[.int .i64 t106, .string t107] 27 (0, 0)) (by (with_reducible repeat (first | refine blk_drewN ?_ _ | refine blk_drew ?_ | refine blk_alloc ?_ _)); exact BK108.out)) : gb115 ≠ gb108)); have n13_ := Aside0.mk ((by rw [hg]; exact Nat.ne_of_lt (blk_lt (g := gb112) (o := .cells #[.slice Ao33 t109.length co33] 59 (0, 0)) (by (with_reducible repeat (first | refine blk_drewN ?_ _ | refine blk_drew ?_ | refine blk_alloc ?_ _)); exact BK112.out)) : gb112 ≠ gb115)); have n14_ := Aside0.mk ((by rw [hg]; exact Nat.ne_of_gt (blk_lt (g := gb112) (o := .cells #[.slice Ao33 t109.length co33] 59 (0, 0)) (by (with_reducible repeat (first | refine blk_drewN ?_ _ | refine blk_drew ?_ | refine blk_alloc ?_ _)); exact BK112.out)) : gb115 ≠ gb112)); clear HO105; clear HO111; clear BK101; clear BK108; clear BK112; clear HB; have HO105 := n0_; have HO111 := n1_; have BK101 := n2_; have BK108 := n3_; have BK112 := n4_; have HB := n5_; have BK115 := n6_; have GW115 := n7_; have GE115 := n8_; have NB101_115 := n9_; have NB115_101 := n10_; have NB108_115 := n11_; have NB115_108 := n12_; have NB112_115 := n13_; have NB115_112 := n14_; clear n0_ n1_ n2_ n3_ n4_ n5_ n6_ n7_ n8_ n9_ n10_ n11_ n12_ n13_ n14_; clear hb hbox hg; have hnb39 := NB115_101.out; have hnc39 := NB101_115.out; have hnb40 := NB115_108.out; have hnc40 := NB108_115.out; have hnb41 := NB115_112.out; have hnc41 := NB112_115.out; have hcz42_0 : w38.cell? ⟨gb115, 0, none⟩ = some (.int .i64 0) := (blk_cell BK115.out 0).trans rfl; have hcz42_1 : w38.cell? ⟨gb115, 1, none⟩ = some (.string (⟨#[]⟩ : ByteArray)) := (blk_cell BK115.out 1).trans rfl; have hfz42_0 := blk_frozen BK115.out 0; have hfz42_1 := blk_frozen BK115.out 1; have hcz43_0 : w38.cell? ⟨gb108, 0, none⟩ = some (.int .i64 t106) := (blk_cell BK108.out 0).trans rfl; have hcz43_1 : w38.cell? ⟨gb108, 1, none⟩ = some (.string t107) := (blk_cell BK108.out 1).trans rfl; have hfz43_0 := blk_frozen BK108.out 0; have hfz43_1 := blk_frozen BK108.out 1) | ((with_reducible refine gate_callee (f := 42) rfl ?_); refine goesL_ (some 32) rfl rfl Try.func42 (by kernel_rfl) rfl #[.agg #[.int .i64 t113, .string t114], .agg #[.int .i64 t106, .string t107]] rfl (by (try simp only [List.map_toArray, List.map_cons, List.map_nil]); first | done | rfl | (simp only [List.length_drop, List.length_take]; rfl)) ?_; (with_reducible refine (laws_eqMillReply.calls t113 t114 t106 t107 true _ A15.out).mono ?_); rintro e w44 ⟨rfl, hb⟩; refine ⟨_, rfl, ?_⟩; have n0_ := Aside0.mk (Kd.R_below (by (with_reducible repeat (first | apply Kd.R_alloc | apply Kd.R_drewN | apply Kd.R_drew)); exact (Kd.R_mono (Kd.R_far (p := ⟨gb115, 1, none⟩) (Kd.R_far (p := ⟨gb115, 0, none⟩) (Kd.R_types HO105.out BK115.out (by decide)) (fun _ hk => hk.2) (.int .i64 t113)) (fun _ hk => hk.2) (.string t114)) (fun _ h_ => h_.1))) hb); have n1_ := Aside0.mk (Kd.R_below (by (with_reducible repeat (first | apply Kd.R_alloc | apply Kd.R_drewN | apply Kd.R_drew)); exact (Kd.R_mono (Kd.R_far (p := ⟨gb115, 1, none⟩) (Kd.R_far (p := ⟨gb115, 0, none⟩) (Kd.R_types HO111.out BK115.out (by decide)) (fun _ hk => hk.2) (.int .i64 t113)) (fun _ hk => hk.2) (.string t114)) (fun _ h_ => h_.1))) hb); have n2_ := Aside0.mk (blk_below (g := gb101) (o := .cells #[.slice A0_0 l0_0.length c0_0] 54 (0, 0)) (by (with_reducible repeat (first | refine blk_drewN ?_ _ | refine blk_drew ?_ | refine blk_alloc ?_ _)); refine blk_far ?_ NB101_115.out _; (with_reducible repeat (first | refine blk_drewN ?_ _ | refine blk_drew ?_ | refine blk_alloc ?_ _)); refine blk_far ?_ NB101_115.out _; (with_reducible repeat (first | refine blk_drewN ?_ _ | refine blk_drew ?_ | refine blk_alloc ?_ _)); exact BK101.out) hb); have n3_ := Aside0.mk (blk_below (g := gb108) (o := .cells #[.int .i64 t106, .string t107] 27 (0, 0)) (by (with_reducible repeat (first | refine blk_drewN ?_ _ | refine blk_drew ?_ | refine blk_alloc ?_ _)); refine blk_far ?_ NB108_115.out _; (with_reducible repeat (first | refine blk_drewN ?_ _ | refine blk_drew ?_ | refine blk_alloc ?_ _)); refine blk_far ?_ NB108_115.out _; (with_reducible repeat (first | refine blk_drewN ?_ _ | refine blk_drew ?_ | refine blk_alloc ?_ _)); exact BK108.out) hb); have n4_ := Aside0.mk (blk_below (g := gb112) (o := .cells #[.slice Ao33 t109.length co33] 59 (0, 0)) (by (with_reducible repeat (first | refine blk_drewN ?_ _ | refine blk_drew ?_ | refine blk_alloc ?_ _)); refine blk_far ?_ NB112_115.out _; (with_reducible repeat (first | refine blk_drewN ?_ _ | refine blk_drew ?_ | refine blk_alloc ?_ _)); refine blk_far ?_ NB112_115.out _; (with_reducible repeat (first | refine blk_drewN ?_ _ | refine blk_drew ?_ | refine blk_alloc ?_ _)); exact BK112.out) hb); have n5_ := Aside0.mk (blk_below (g := gb115) (o := .cells #[.int .i64 t113, .string t114] 27 (0, 0)) (by (with_reducible repeat (first | refine blk_drewN ?_ _ | refine blk_drew ?_ | refine blk_alloc ?_ _)); refine blk_put (cs := #[.int .i64 t113, .string (⟨#[]⟩ : ByteArray)]) ?_ 1 _ rfl; (with_reducible repeat (first | refine blk_drewN ?_ _ | refine blk_drew ?_ | refine blk_alloc ?_ _)); refine blk_put (cs := #[.int .i64 0, .string (⟨#[]⟩ : ByteArray)]) ?_ 0 _ rfl; (with_reducible repeat (first | refine blk_drewN ?_ _ | refine blk_drew ?_ | refine blk_alloc ?_ _)); exact BK115.out) hb); have n6_ := Aside0.mk (below_step (by repeat (first | (with_reducible first | exact HB.out | apply below_alloc | apply pw_below_drewN | apply below_drew1 | refine below_set ?_ GE101.out | refine below_set ?_ GE108.out | refine below_set ?_ GE112.out | refine below_set ?_ GE115.out) | exact HB.out)) hb); clear HO105; clear HO111; clear BK101; clear BK108; clear BK112; clear BK115; clear HB; have HO105 := n0_; have HO111 := n1_; have BK101 := n2_; have BK108 := n3_; have BK112 := n4_; have BK115 := n5_; have HB := n6_; clear n0_ n1_ n2_ n3_ n4_ n5_ n6_; (try clear hb); (try clear hb2); (try clear hk); (try clear hi)))
          have n0_ := Aside0.mk (Kd.R_drew HO105.out)
          have n1_ := Aside0.mk (Kd.R_drew HO111.out)
          have n2_ := Aside0.mk (blk_drew BK101.out)
          have n3_ := Aside0.mk (blk_drew BK108.out)
          have n4_ := Aside0.mk (blk_drew BK112.out)
          have n5_ := Aside0.mk (blk_drew BK115.out)
          have n6_ := Aside0.mk (below_drew1 HB.out)
          clear HO105
          clear HO111
          clear BK101
          clear BK108
          clear BK112
          clear BK115
          clear HB
          have HO105 := n0_
          have HO111 := n1_
          have BK101 := n2_
          have BK108 := n3_
          have BK112 := n4_
          have BK115 := n5_
          have HB := n6_
          clear n0_ n1_ n2_ n3_ n4_ n5_ n6_
          refine start_ (n := 5) (S := fun w' => w'.cell? ⟨gb112, 0, none⟩ = some (.slice Ao33 t109.length co33) ∧ w'.cell? ⟨gb101, 0, none⟩ = some (.slice A0_0 l0_0.length c0_0)) (ds := []) #[false, false, false, false, false] (by kernel_rfl) rfl rfl ⟨(blk_cell BK112.out 0).trans rfl, (blk_cell BK101.out 0).trans rfl⟩ (fun hHeld => ?_)
          generalize w44.drew = w45 at HO105 HO111 BK101 BK108 BK112 BK115 HB hHeld ⊢
          refine take_ (i := 0) (N := some 34) (v := ?_) (a' := ?_) #[true, false, false, false, false] rfl rfl (by kernel_rfl) (fun _ _ _ h => h) (Or.inl ⟨by rfl, ?_⟩) hHeld ?_ ?_
          rotate_left
          · rintro w' ⟨s0, s1⟩
            go_simp
            with_reducible rfl
          rotate_left
          · simp only [Act.put, List.setIfInBounds_toArray, List.set_cons_zero, List.set_cons_succ, i64_w, i32_w]
            rfl
          refine take_ (i := 1) (N := some 35) (v := ?_) (a' := ?_) #[true, true, false, false, false] rfl rfl (by kernel_rfl) (fun _ _ _ h => h) (Or.inl ⟨by rfl, ?_⟩) hHeld ?_ ?_
          rotate_left
          · rintro w' ⟨s0, s1⟩
            go_simp
            with_reducible rfl
          rotate_left
          · simp only [Act.put, List.setIfInBounds_toArray, List.set_cons_zero, List.set_cons_succ, i64_w, i32_w]
            rfl
          refine one_ (i := 2) (N := some 36) #[true, true, true, false, false] rfl rfl (by kernel_rfl) (by decide) (fun K hK => ?_)
          refine goes_ Try.func35 (by kernel_rfl) rfl #[.agg #[.slice A0_0 l0_0.length c0_0]] (by rfl) rfl rfl (by (try simp only [List.map_toArray, List.map_cons, List.map_nil]); first | done | rfl | (simp only [List.length_drop, List.length_take]; rfl)) ?_
          with_reducible refine (laws_toMillPlace.calls k _ _ l0_0 t117 _ ?side1 ?side2 A17.out).mono ?_
          (case side1 => repeat (first | exact (Kd.C_below HR0_0.out HB.out) | (with_reducible refine Kd.C_alloc ?_ _) | (with_reducible refine Kd.C_drewN ?_ _) | (with_reducible refine Kd.C_drew ?_)))
          (case side2 => exact HC0_0.out)
          rintro e w46 ⟨v118, rfl, ho0, hb⟩
          refine ⟨_, rfl, ?_⟩
          have n0_ := Aside0.mk (Kd.R_elder' (by (with_reducible repeat (first | apply Kd.R_alloc | apply Kd.R_drewN | apply Kd.R_drew)); exact HO105.out) (Kd.R_base ho0) hb)
          have n1_ := Aside0.mk (Kd.R_elder' (by (with_reducible repeat (first | apply Kd.R_alloc | apply Kd.R_drewN | apply Kd.R_drew)); exact HO111.out) (Kd.R_base ho0) hb)
          have n2_ := Aside0.mk (Kd.R_lower (Kd.R_new' (Kd.R_new' ho0 (Kd.R_lt (by (with_reducible repeat (first | apply Kd.R_alloc | apply Kd.R_drewN | apply Kd.R_drew)); exact HO105.out))) (Kd.R_lt (by (with_reducible repeat (first | apply Kd.R_alloc | apply Kd.R_drewN | apply Kd.R_drew)); exact HO111.out))) (below_size (by repeat (first | (with_reducible first | exact HB.out | apply below_alloc | apply pw_below_drewN | apply below_drew1 | refine below_set ?_ GE101.out | refine below_set ?_ GE108.out | refine below_set ?_ GE112.out | refine below_set ?_ GE115.out) | exact HB.out))))
          have n3_ := Aside0.mk (blk_below (g := gb101) (o := .cells #[.slice A0_0 l0_0.length c0_0] 54 (0, 0)) (by (with_reducible repeat (first | refine blk_drewN ?_ _ | refine blk_drew ?_ | refine blk_alloc ?_ _)); exact BK101.out) hb)
          have n4_ := Aside0.mk (blk_below (g := gb108) (o := .cells #[.int .i64 t106, .string t107] 27 (0, 0)) (by (with_reducible repeat (first | refine blk_drewN ?_ _ | refine blk_drew ?_ | refine blk_alloc ?_ _)); exact BK108.out) hb)
          have n5_ := Aside0.mk (blk_below (g := gb112) (o := .cells #[.slice Ao33 t109.length co33] 59 (0, 0)) (by (with_reducible repeat (first | refine blk_drewN ?_ _ | refine blk_drew ?_ | refine blk_alloc ?_ _)); exact BK112.out) hb)
          have n6_ := Aside0.mk (blk_below (g := gb115) (o := .cells #[.int .i64 t113, .string t114] 27 (0, 0)) (by (with_reducible repeat (first | refine blk_drewN ?_ _ | refine blk_drew ?_ | refine blk_alloc ?_ _)); exact BK115.out) hb)
          have n7_ := Aside0.mk (below_step (by repeat (first | (with_reducible first | exact HB.out | apply below_alloc | apply pw_below_drewN | apply below_drew1 | refine below_set ?_ GE101.out | refine below_set ?_ GE108.out | refine below_set ?_ GE112.out | refine below_set ?_ GE115.out) | exact HB.out)) hb)
          clear HO105
          clear HO111
          clear BK101
          clear BK108
          clear BK112
          clear BK115
          clear HB
          have HO105 := n0_
          have HO111 := n1_
          have HO119 := n2_
          have BK101 := n3_
          have BK108 := n4_
          have BK112 := n5_
          have BK115 := n6_
          have HB := n7_
          clear n0_ n1_ n2_ n3_ n4_ n5_ n6_ n7_
          (try clear hb)
          (try clear hb2)
          (try clear hk)
          (try clear hi)
          (try clear ho0)
          obtain ⟨Ao47, co47, eo47⟩ := Kd.R_slice HO119.out
          (first | subst eo47 | (injection eo47 with f1_ f2_ f3_; have f4_ := f1_.symm; have f5_ := f3_.symm; clear f1_ f2_ f3_; subst f4_; subst f5_))
          refine hK.out _ _ ⟨(blk_cell BK112.out 0).trans rfl, (blk_cell BK101.out 0).trans rfl⟩ (fun hHeld => ?_)
          clear hK K
          refine norm_ (a' := ?_) ?_ ?_
          rotate_left
          · show Act.put _ (some 36) _ = _
            simp only [Act.put, List.setIfInBounds_toArray, List.set_cons_zero, List.set_cons_succ, i64_w, i32_w]
            rfl
          refine one_ (i := 3) (N := some 37) #[true, true, true, true, false] rfl rfl (by kernel_rfl) (by decide) (fun K hK => ?_)
          refine goes_ Try.func37 (by kernel_rfl) rfl #[.agg #[.slice Ao33 t109.length co33], .agg #[.slice Ao47 t117.length co47]] (by rfl) rfl rfl (by (try simp only [List.map_toArray, List.map_cons, List.map_nil]); first | done | rfl | (simp only [List.length_drop, List.length_take]; rfl)) ?_
          with_reducible refine (laws_eqMillPlace.calls k _ _ t109 _ _ t117 true _ ?side1 ?side2 ?side3 ?side4 A18.out).mono ?_
          (case side1 => repeat (first | exact (Kd.R_reads' HO111.out).2.2 | (with_reducible refine Kd.C_alloc ?_ _) | (with_reducible refine Kd.C_drewN ?_ _) | (with_reducible refine Kd.C_drew ?_)))
          (case side2 => exact (Kd.R_reads' HO111.out).2.1)
          (case side3 => repeat (first | exact (Kd.R_reads' HO119.out).2.2 | (with_reducible refine Kd.C_alloc ?_ _) | (with_reducible refine Kd.C_drewN ?_ _) | (with_reducible refine Kd.C_drew ?_)))
          (case side4 => exact (Kd.R_reads' HO119.out).2.1)
          rintro e w48 ⟨rfl, hb⟩
          refine ⟨_, rfl, ?_⟩
          have n0_ := Aside0.mk (Kd.R_below (by (with_reducible repeat (first | apply Kd.R_alloc | apply Kd.R_drewN | apply Kd.R_drew)); exact HO105.out) hb)
          have n1_ := Aside0.mk (Kd.R_below (by (with_reducible repeat (first | apply Kd.R_alloc | apply Kd.R_drewN | apply Kd.R_drew)); exact HO111.out) hb)
          have n2_ := Aside0.mk (Kd.R_below (by (with_reducible repeat (first | apply Kd.R_alloc | apply Kd.R_drewN | apply Kd.R_drew)); exact HO119.out) hb)
          have n3_ := Aside0.mk (blk_below (g := gb101) (o := .cells #[.slice A0_0 l0_0.length c0_0] 54 (0, 0)) (by (with_reducible repeat (first | refine blk_drewN ?_ _ | refine blk_drew ?_ | refine blk_alloc ?_ _)); exact BK101.out) hb)
          have n4_ := Aside0.mk (blk_below (g := gb108) (o := .cells #[.int .i64 t106, .string t107] 27 (0, 0)) (by (with_reducible repeat (first | refine blk_drewN ?_ _ | refine blk_drew ?_ | refine blk_alloc ?_ _)); exact BK108.out) hb)
          have n5_ := Aside0.mk (blk_below (g := gb112) (o := .cells #[.slice Ao33 t109.length co33] 59 (0, 0)) (by (with_reducible repeat (first | refine blk_drewN ?_ _ | refine blk_drew ?_ | refine blk_alloc ?_ _)); exact BK112.out) hb)
          have n6_ := Aside0.mk (blk_below (g := gb115) (o := .cells #[.int .i64 t113, .string t114] 27 (0, 0)) (by (with_reducible repeat (first | refine blk_drewN ?_ _ | refine blk_drew ?_ | refine blk_alloc ?_ _)); exact BK115.out) hb)
          have n7_ := Aside0.mk (below_step (by repeat (first | (with_reducible first | exact HB.out | apply below_alloc | apply pw_below_drewN | apply below_drew1 | refine below_set ?_ GE101.out | refine below_set ?_ GE108.out | refine below_set ?_ GE112.out | refine below_set ?_ GE115.out) | exact HB.out)) hb)
          clear HO105
          clear HO111
          clear HO119
          clear BK101
          clear BK108
          clear BK112
          clear BK115
          clear HB
          have HO105 := n0_
          have HO111 := n1_
          have HO119 := n2_
          have BK101 := n3_
          have BK108 := n4_
          have BK112 := n5_
          have BK115 := n6_
          have HB := n7_
          clear n0_ n1_ n2_ n3_ n4_ n5_ n6_ n7_
          (try clear hb)
          (try clear hb2)
          (try clear hk)
          (try clear hi)
          refine hK.out _ _ ⟨(blk_cell BK112.out 0).trans rfl, (blk_cell BK101.out 0).trans rfl⟩ (fun hHeld => ?_)
          clear hK K
          refine norm_ (a' := ?_) ?_ ?_
          rotate_left
          · show Act.put _ (some 37) _ = _
            simp only [Act.put, List.setIfInBounds_toArray, List.set_cons_zero, List.set_cons_succ, i64_w, i32_w]
            rfl
          refine pure_ (i := 4) (N := some 38) (v := ?_) (a' := ?_) #[true, true, true, true, true] rfl rfl (by kernel_rfl) (fun _ _ _ h => h) (Or.inl ⟨by rfl, ?_⟩) ?_ ?_
          rotate_left
          · intro w'
            go_simp
            with_reducible rfl
          rotate_left
          · simp only [Act.put, List.setIfInBounds_toArray, List.set_cons_zero, List.set_cons_succ, i64_w, i32_w]
            rfl
          refine done_ (by kernel_rfl) ?_
          try go_wp2
          go_ret
          exact ⟨by first | rfl | (simp [errW_none, errW_some] <;> rfl) | (simp [*, errW_none, errW_some] <;> rfl), by repeat (first | (with_reducible first | exact HB.out | apply below_alloc | apply pw_below_drewN | apply below_drew1 | refine below_set ?_ GE101.out | refine below_set ?_ GE108.out | refine below_set ?_ GE112.out | refine below_set ?_ GE115.out) | exact HB.out)⟩
        · replace c19 := Bool.eq_false_iff.mpr c19
          subst c19
          have H1 : (some false) = some r := by rw [if_neg (show ¬ (false = true) by decide)] at H; exact H
          clear H
          have H := H1
          clear H1
          obtain rfl := Option.some.inj H
          go_enter Try.func11, Try.ntmps11
          try go_wp2_with (first | ((with_reducible refine gate_dst (N := 3) rfl ?_); refine box_event ?hg (N := 3) ?hd (cs := #[.slice A0_0 l0_0.length c0_0]) (t := 54) ?hr ?_; (case hd => rfl); (case hg => rfl); (case hr => first | (go_simp; done) | (go_simp; rfl)); intro gb101 hg w49 hbox hb; have n0_ := Aside0.mk (below_step (by repeat (first | (with_reducible first | exact HB.out | apply below_alloc | apply pw_below_drewN | apply below_drew1) | exact HB.out)) hb); have n1_ := Aside0.mk (hbox); have n2_ := Aside0.mk ((by rw [hg]; exact (below_size (by repeat (first | (with_reducible first | exact HB.out | apply below_alloc | apply pw_below_drewN | apply below_drew1) | exact HB.out))) : w.heap.size ≤ gb101)); have n3_ := Aside0.mk ((by rw [hg]; exact (below_size (by repeat (first | (with_reducible first | exact HB.out | apply below_alloc | apply pw_below_drewN | apply below_drew1) | exact HB.out))) : w.heap.size ≤ gb101)); clear HB; have HB := n0_; have BK101 := n1_; have GW101 := n2_; have GE101 := n3_; clear n0_ n1_ n2_ n3_; clear hb hbox hg; have hcz50_0 : w49.cell? ⟨gb101, 0, none⟩ = some (.slice A0_0 l0_0.length c0_0) := (blk_cell BK101.out 0).trans rfl; have hfz50_0 := blk_frozen BK101.out 0) | ((with_reducible refine gate_callee (f := 33) rfl ?_); refine goesL_ (some 16) rfl rfl Try.func33 (by kernel_rfl) rfl #[.agg #[.slice A0_0 l0_0.length c0_0], .int .i64 1048576] rfl (by (try simp only [List.map_toArray, List.map_cons, List.map_nil]); first | done | rfl | (simp only [List.length_drop, List.length_take]; rfl)) ?_; (with_reducible refine (laws_szMillPlace.calls k _ _ l0_0 1048576 t102 _ ?side1 ?side2 A6.out).mono ?_); (case side1 => repeat (first | exact (Kd.C_below HR0_0.out HB.out) | (with_reducible refine Kd.C_alloc ?_ _) | (with_reducible refine Kd.C_drewN ?_ _) | (with_reducible refine Kd.C_drew ?_))); (case side2 => exact HC0_0.out); rintro e w51 ⟨rfl, hb⟩; refine ⟨_, rfl, ?_⟩; have n0_ := Aside0.mk (blk_below (g := gb101) (o := .cells #[.slice A0_0 l0_0.length c0_0] 54 (0, 0)) (by (with_reducible repeat (first | refine blk_drewN ?_ _ | refine blk_drew ?_ | refine blk_alloc ?_ _)); exact BK101.out) hb); have n1_ := Aside0.mk (below_step (by repeat (first | (with_reducible first | exact HB.out | apply below_alloc | apply pw_below_drewN | apply below_drew1 | refine below_set ?_ GE101.out) | exact HB.out)) hb); clear BK101; clear HB; have BK101 := n0_; have HB := n1_; clear n0_ n1_; (try clear hb); (try clear hb2); (try clear hk); (try clear hi); have hcz52_0 : w51.cell? ⟨gb101, 0, none⟩ = some (.slice A0_0 l0_0.length c0_0) := (blk_cell BK101.out 0).trans rfl; have hfz52_0 := blk_frozen BK101.out 0) | ((with_reducible refine gate_callee (f := 35) rfl ?_); refine goesL_ (some 20) rfl rfl Try.func35 (by kernel_rfl) rfl #[.agg #[.slice A0_0 l0_0.length c0_0]] rfl (by (try simp only [List.map_toArray, List.map_cons, List.map_nil]); first | done | rfl | (simp only [List.length_drop, List.length_take]; rfl)) ?_; (with_reducible refine (laws_toMillPlace.calls k _ _ l0_0 t103 _ ?side1 ?side2 A11.out).mono ?_); (case side1 => repeat (first | exact (Kd.C_below HR0_0.out HB.out) | (with_reducible refine Kd.C_alloc ?_ _) | (with_reducible refine Kd.C_drewN ?_ _) | (with_reducible refine Kd.C_drew ?_))); (case side2 => exact HC0_0.out); rintro e w53 ⟨v104, rfl, ho0, hb⟩; refine ⟨_, rfl, ?_⟩; have n0_ := Aside0.mk (Kd.R_lower ho0 (below_size (by repeat (first | (with_reducible first | exact HB.out | apply below_alloc | apply pw_below_drewN | apply below_drew1 | refine below_set ?_ GE101.out) | exact HB.out)))); have n1_ := Aside0.mk (blk_below (g := gb101) (o := .cells #[.slice A0_0 l0_0.length c0_0] 54 (0, 0)) (by (with_reducible repeat (first | refine blk_drewN ?_ _ | refine blk_drew ?_ | refine blk_alloc ?_ _)); exact BK101.out) hb); have n2_ := Aside0.mk (below_step (by repeat (first | (with_reducible first | exact HB.out | apply below_alloc | apply pw_below_drewN | apply below_drew1 | refine below_set ?_ GE101.out) | exact HB.out)) hb); clear BK101; clear HB; have HO105 := n0_; have BK101 := n1_; have HB := n2_; clear n0_ n1_ n2_; (try clear hb); (try clear hb2); (try clear hk); (try clear hi); (try clear ho0); obtain ⟨Ao54, co54, eo54⟩ := Kd.R_slice HO105.out; subst eo54) | ((with_reducible refine gate_callee (f := 40) rfl ?_); refine goesL_ (some 23) rfl rfl Try.func40 (by kernel_rfl) rfl #[.agg #[.slice Ao54 t103.length co54], .int .i64 a1, .string a2] rfl (by (try simp only [List.map_toArray, List.map_cons, List.map_nil]); first | done | rfl | (simp only [List.length_drop, List.length_take]; rfl)) ?_; (with_reducible refine (spec_MillSee.calls k _ _ t103 a1 a2 t106 t107 _ ?side1 ?side2 A12.out).mono ?_); (case side1 => repeat (first | exact (Kd.R_reads' HO105.out).2.2 | (with_reducible refine Kd.C_alloc ?_ _) | (with_reducible refine Kd.C_drewN ?_ _) | (with_reducible refine Kd.C_drew ?_))); (case side2 => exact (Kd.R_reads' HO105.out).2.1); rintro e w55 ⟨rfl, hb⟩; refine ⟨_, rfl, ?_⟩; have n0_ := Aside0.mk (Kd.R_below (by (with_reducible repeat (first | apply Kd.R_alloc | apply Kd.R_drewN | apply Kd.R_drew)); exact HO105.out) hb); have n1_ := Aside0.mk (blk_below (g := gb101) (o := .cells #[.slice A0_0 l0_0.length c0_0] 54 (0, 0)) (by (with_reducible repeat (first | refine blk_drewN ?_ _ | refine blk_drew ?_ | refine blk_alloc ?_ _)); exact BK101.out) hb); have n2_ := Aside0.mk (below_step (by repeat (first | (with_reducible first | exact HB.out | apply below_alloc | apply pw_below_drewN | apply below_drew1 | refine below_set ?_ GE101.out) | exact HB.out)) hb); clear HO105; clear BK101; clear HB; have HO105 := n0_; have BK101 := n1_; have HB := n2_; clear n0_ n1_ n2_; (try clear hb); (try clear hb2); (try clear hk); (try clear hi)) | ((with_reducible refine gate_dst (N := 8) rfl ?_); refine box_event ?hg (N := 8) ?hd (cs := #[.int .i64 0, .string (⟨#[]⟩ : ByteArray)]) (t := 27) ?hr ?_; (case hd => rfl); (case hg => rfl); (case hr => first | (go_simp; done) | (go_simp; rfl)); intro gb108 hg w56 hbox hb; have n0_ := Aside0.mk (Kd.R_below (by (with_reducible repeat (first | apply Kd.R_alloc | apply Kd.R_drewN | apply Kd.R_drew)); exact HO105.out) hb); have n1_ := Aside0.mk (blk_below (g := gb101) (o := .cells #[.slice A0_0 l0_0.length c0_0] 54 (0, 0)) (by (with_reducible repeat (first | refine blk_drewN ?_ _ | refine blk_drew ?_ | refine blk_alloc ?_ _)); exact BK101.out) hb); have n2_ := Aside0.mk (below_step (by repeat (first | (with_reducible first | exact HB.out | apply below_alloc | apply pw_below_drewN | apply below_drew1 | refine below_set ?_ GE101.out) | exact HB.out)) hb); have n3_ := Aside0.mk (hbox); have n4_ := Aside0.mk ((by rw [hg]; exact (below_size (by repeat (first | (with_reducible first | exact HB.out | apply below_alloc | apply pw_below_drewN | apply below_drew1 | refine below_set ?_ GE101.out) | exact HB.out))) : w.heap.size ≤ gb108)); have n5_ := Aside0.mk ((by rw [hg]; exact (below_size (by repeat (first | (with_reducible first | exact HB.out | apply below_alloc | apply pw_below_drewN | apply below_drew1 | refine below_set ?_ GE101.out) | exact HB.out))) : w.heap.size ≤ gb108)); have n6_ := Aside0.mk ((by rw [hg]; exact Nat.ne_of_lt (blk_lt (g := gb101) (o := .cells #[.slice A0_0 l0_0.length c0_0] 54 (0, 0)) (by (with_reducible repeat (first | refine blk_drewN ?_ _ | refine blk_drew ?_ | refine blk_alloc ?_ _)); exact BK101.out)) : gb101 ≠ gb108)); have n7_ := Aside0.mk ((by rw [hg]; exact Nat.ne_of_gt (blk_lt (g := gb101) (o := .cells #[.slice A0_0 l0_0.length c0_0] 54 (0, 0)) (by (with_reducible repeat (first | refine blk_drewN ?_ _ | refine blk_drew ?_ | refine blk_alloc ?_ _)); exact BK101.out)) : gb108 ≠ gb101)); clear HO105; clear BK101; clear HB; have HO105 := n0_; have BK101 := n1_; have HB := n2_; have BK108 := n3_; have GW108 := n4_; have GE108 := n5_; have NB101_108 := n6_; have NB108_101 := n7_; clear n0_ n1_ n2_ n3_ n4_ n5_ n6_ n7_; clear hb hbox hg; have hnb57 := NB108_101.out; have hnc57 := NB101_108.out; have hcz58_0 : w56.cell? ⟨gb108, 0, none⟩ = some (.int .i64 0) := (blk_cell BK108.out 0).trans rfl; have hcz58_1 : w56.cell? ⟨gb108, 1, none⟩ = some (.string (⟨#[]⟩ : ByteArray)) := (blk_cell BK108.out 1).trans rfl; have hfz58_0 := blk_frozen BK108.out 0; have hfz58_1 := blk_frozen BK108.out 1; have hcz59_0 : w56.cell? ⟨gb101, 0, none⟩ = some (.slice A0_0 l0_0.length c0_0) := (blk_cell BK101.out 0).trans rfl; have hfz59_0 := blk_frozen BK101.out 0) | ((with_reducible refine gate_callee (f := 35) rfl ?_); refine goesL_ (some 25) rfl rfl Try.func35 (by kernel_rfl) rfl #[.agg #[.slice A0_0 l0_0.length c0_0]] rfl (by (try simp only [List.map_toArray, List.map_cons, List.map_nil]); first | done | rfl | (simp only [List.length_drop, List.length_take]; rfl)) ?_; (with_reducible refine (laws_toMillPlace.calls k _ _ l0_0 t109 _ ?side1 ?side2 A13.out).mono ?_); (case side1 => exact Kd.C_below HR0_0.out (by repeat (first | (with_reducible first | exact HB.out | apply below_alloc | apply pw_below_drewN | apply below_drew1 | refine below_set ?_ GE101.out | refine below_set ?_ GE108.out) | exact HB.out))); (case side2 => exact HC0_0.out); rintro e w60 ⟨v110, rfl, ho0, hb⟩; refine ⟨_, rfl, ?_⟩; have n0_ := Aside0.mk (Kd.R_elder' (by (with_reducible repeat (first | apply Kd.R_alloc | apply Kd.R_drewN | apply Kd.R_drew)); exact (Kd.R_mono (Kd.R_far (p := ⟨gb108, 1, none⟩) (Kd.R_far (p := ⟨gb108, 0, none⟩) (Kd.R_types HO105.out BK108.out (by decide)) (fun _ hk => hk.2) (.int .i64 t106)) (fun _ hk => hk.2) (.string t107)) (fun _ h_ => h_.1))) (Kd.R_base ho0) hb); have n1_ := Aside0.mk (Kd.R_lower (Kd.R_new' ho0 (Kd.R_lt (by (with_reducible repeat (first | apply Kd.R_alloc | apply Kd.R_drewN | apply Kd.R_drew)); exact (Kd.R_mono (Kd.R_far (p := ⟨gb108, 1, none⟩) (Kd.R_far (p := ⟨gb108, 0, none⟩) (Kd.R_types HO105.out BK108.out (by decide)) (fun _ hk => hk.2) (.int .i64 t106)) (fun _ hk => hk.2) (.string t107)) (fun _ h_ => h_.1))))) (below_size (by repeat (first | (with_reducible first | exact HB.out | apply below_alloc | apply pw_below_drewN | apply below_drew1 | refine below_set ?_ GE101.out | refine below_set ?_ GE108.out) | exact HB.out)))); have n2_ := Aside0.mk (blk_below (g := gb101) (o := .cells #[.slice A0_0 l0_0.length c0_0] 54 (0, 0)) (by (with_reducible repeat (first | refine blk_drewN ?_ _ | refine blk_drew ?_ | refine blk_alloc ?_ _)); refine blk_far ?_ NB101_108.out _; (with_reducible repeat (first | refine blk_drewN ?_ _ | refine blk_drew ?_ | refine blk_alloc ?_ _)); refine blk_far ?_ NB101_108.out _; (with_reducible repeat (first | refine blk_drewN ?_ _ | refine blk_drew ?_ | refine blk_alloc ?_ _)); exact BK101.out) hb); have n3_ := Aside0.mk (blk_below (g := gb108) (o := .cells #[.int .i64 t106, .string t107] 27 (0, 0)) (by (with_reducible repeat (first | refine blk_drewN ?_ _ | refine blk_drew ?_ | refine blk_alloc ?_ _)); refine blk_put (cs := #[.int .i64 t106, .string (⟨#[]⟩ : ByteArray)]) ?_ 1 _ rfl; (with_reducible repeat (first | refine blk_drewN ?_ _ | refine blk_drew ?_ | refine blk_alloc ?_ _)); refine blk_put (cs := #[.int .i64 0, .string (⟨#[]⟩ : ByteArray)]) ?_ 0 _ rfl; (with_reducible repeat (first | refine blk_drewN ?_ _ | refine blk_drew ?_ | refine blk_alloc ?_ _)); exact BK108.out) hb); have n4_ := Aside0.mk (below_step (by repeat (first | (with_reducible first | exact HB.out | apply below_alloc | apply pw_below_drewN | apply below_drew1 | refine below_set ?_ GE101.out | refine below_set ?_ GE108.out) | exact HB.out)) hb); clear HO105; clear BK101; clear BK108; clear HB; have HO105 := n0_; have HO111 := n1_; have BK101 := n2_; have BK108 := n3_; have HB := n4_; clear n0_ n1_ n2_ n3_ n4_; (try clear hb); (try clear hb2); (try clear hk); (try clear hi); (try clear ho0)) | ((with_reducible refine gate_dst (N := 9) rfl ?_); refine box_event ?hg (N := 9) ?hd (cs := #[.slice none 0 0]) (t := 59) ?hr ?_; (case hd => rfl); (case hg => rfl); (case hr => first | (go_simp; done) | (go_simp; rfl)); intro gb112 hg w61 hbox hb; have n0_ := Aside0.mk (Kd.R_below (by (with_reducible repeat (first | apply Kd.R_alloc | apply Kd.R_drewN | apply Kd.R_drew)); exact HO105.out) hb); have n1_ := Aside0.mk (Kd.R_below (by (with_reducible repeat (first | apply Kd.R_alloc | apply Kd.R_drewN | apply Kd.R_drew)); exact HO111.out) hb); have n2_ := Aside0.mk (blk_below (g := gb101) (o := .cells #[.slice A0_0 l0_0.length c0_0] 54 (0, 0)) (by (with_reducible repeat (first | refine blk_drewN ?_ _ | refine blk_drew ?_ | refine blk_alloc ?_ _)); exact BK101.out) hb); have n3_ := Aside0.mk (blk_below (g := gb108) (o := .cells #[.int .i64 t106, .string t107] 27 (0, 0)) (by (with_reducible repeat (first | refine blk_drewN ?_ _ | refine blk_drew ?_ | refine blk_alloc ?_ _)); exact BK108.out) hb); have n4_ := Aside0.mk (below_step (by repeat (first | (with_reducible first | exact HB.out | apply below_alloc | apply pw_below_drewN | apply below_drew1 | refine below_set ?_ GE101.out | refine below_set ?_ GE108.out) | exact HB.out)) hb); have n5_ := Aside0.mk (hbox); have n6_ := Aside0.mk ((by rw [hg]; exact (below_size (by repeat (first | (with_reducible first | exact HB.out | apply below_alloc | apply pw_below_drewN | apply below_drew1 | refine below_set ?_ GE101.out | refine below_set ?_ GE108.out) | exact HB.out))) : w.heap.size ≤ gb112)); have n7_ := Aside0.mk ((by rw [hg]; exact (below_size (by repeat (first | (with_reducible first | exact HB.out | apply below_alloc | apply pw_below_drewN | apply below_drew1 | refine below_set ?_ GE101.out | refine below_set ?_ GE108.out) | exact HB.out))) : w.heap.size ≤ gb112)); have n8_ := Aside0.mk ((by rw [hg]; exact Nat.ne_of_lt (blk_lt (g := gb101) (o := .cells #[.slice A0_0 l0_0.length c0_0] 54 (0, 0)) (by (with_reducible repeat (first | refine blk_drewN ?_ _ | refine blk_drew ?_ | refine blk_alloc ?_ _)); exact BK101.out)) : gb101 ≠ gb112)); have n9_ := Aside0.mk ((by rw [hg]; exact Nat.ne_of_gt (blk_lt (g := gb101) (o := .cells #[.slice A0_0 l0_0.length c0_0] 54 (0, 0)) (by (with_reducible repeat (first | refine blk_drewN ?_ _ | refine blk_drew ?_ | refine blk_alloc ?_ _)); exact BK101.out)) : gb112 ≠ gb101)); have n10_ := Aside0.mk ((by rw [hg]; exact Nat.ne_of_lt (blk_lt (g := gb108) (o := .cells #[.int .i64 t106, .string t107] 27 (0, 0)) (by (with_reducible repeat (first | refine blk_drewN ?_ _ | refine blk_drew ?_ | refine blk_alloc ?_ _)); exact BK108.out)) : gb108 ≠ gb112)); have n11_ := Aside0.mk ((by rw [hg]; exact Nat.ne_of_gt (blk_lt (g := gb108) (o := .cells #[.int .i64 t106, .string t107] 27 (0, 0)) (by (with_reducible repeat (first | refine blk_drewN ?_ _ | refine blk_drew ?_ | refine blk_alloc ?_ _)); exact BK108.out)) : gb112 ≠ gb108)); clear HO105; clear HO111; clear BK101; clear BK108; clear HB; have HO105 := n0_; have HO111 := n1_; have BK101 := n2_; have BK108 := n3_; have HB := n4_; have BK112 := n5_; have GW112 := n6_; have GE112 := n7_; have NB101_112 := n8_; have NB112_101 := n9_; have NB108_112 := n10_; have NB112_108 := n11_; clear n0_ n1_ n2_ n3_ n4_ n5_ n6_ n7_ n8_ n9_ n10_ n11_; clear hb hbox hg; obtain ⟨Ao62, co62, eo62⟩ := Kd.R_slice HO111.out; subst eo62; have hnb63 := NB112_101.out; have hnc63 := NB101_112.out; have hnb64 := NB112_108.out; have hnc64 := NB108_112.out; have hcz65_0 : w61.cell? ⟨gb112, 0, none⟩ = some (.slice none 0 0) := (blk_cell BK112.out 0).trans rfl; have hfz65_0 := blk_frozen BK112.out 0) | ((with_reducible refine gate_callee (f := 41) rfl ?_); refine goesL_ (some 29) rfl rfl Try.func41 (by kernel_rfl) rfl #[.agg #[.slice Ao62 t109.length co62], .int .i64 a1, .string a2] rfl (by (try simp only [List.map_toArray, List.map_cons, List.map_nil]); first | done | rfl | (simp only [List.length_drop, List.length_take]; rfl)) ?_; (with_reducible refine (impl_MillSee.calls k _ _ t109 a1 a2 t113 t114 _ ?side1 ?side2 A14.out).mono ?_); (case side1 => refine (Kd.R_reads' (e := 102) (base := w.heap.size) (ok := fun k_ => (True ∧ some k_ ≠ (.slice Ao54 t103.length co54 : Value).ownBlock)) (n := t109.length) (c := co62) ?_).2.2; exact (by (with_reducible repeat (first | apply Kd.R_alloc | apply Kd.R_drewN | apply Kd.R_drew)); exact (Kd.R_mono (Kd.R_far (p := ⟨gb112, 0, none⟩) (Kd.R_types HO111.out BK112.out (by decide)) (fun _ hk => hk.2) (.slice Ao62 t109.length co62)) (fun _ h_ => h_.1)))); (case side2 => exact (Kd.R_reads' HO111.out).2.1); rintro e w66 ⟨rfl, hb⟩; refine ⟨_, rfl, ?_⟩; have n0_ := Aside0.mk (Kd.R_below (by (with_reducible repeat (first | apply Kd.R_alloc | apply Kd.R_drewN | apply Kd.R_drew)); exact (Kd.R_mono (Kd.R_far (p := ⟨gb112, 0, none⟩) (Kd.R_types HO105.out BK112.out (by decide)) (fun _ hk => hk.2) (.slice Ao62 t109.length co62)) (fun _ h_ => h_.1))) hb); have n1_ := Aside0.mk (Kd.R_below (by (with_reducible repeat (first | apply Kd.R_alloc | apply Kd.R_drewN | apply Kd.R_drew)); exact (Kd.R_mono (Kd.R_far (p := ⟨gb112, 0, none⟩) (Kd.R_types HO111.out BK112.out (by decide)) (fun _ hk => hk.2) (.slice Ao62 t109.length co62)) (fun _ h_ => h_.1))) hb); have n2_ := Aside0.mk (blk_below (g := gb101) (o := .cells #[.slice A0_0 l0_0.length c0_0] 54 (0, 0)) (by (with_reducible repeat (first | refine blk_drewN ?_ _ | refine blk_drew ?_ | refine blk_alloc ?_ _)); refine blk_far ?_ NB101_112.out _; (with_reducible repeat (first | refine blk_drewN ?_ _ | refine blk_drew ?_ | refine blk_alloc ?_ _)); exact BK101.out) hb); have n3_ := Aside0.mk (blk_below (g := gb108) (o := .cells #[.int .i64 t106, .string t107] 27 (0, 0)) (by (with_reducible repeat (first | refine blk_drewN ?_ _ | refine blk_drew ?_ | refine blk_alloc ?_ _)); refine blk_far ?_ NB108_112.out _; (with_reducible repeat (first | refine blk_drewN ?_ _ | refine blk_drew ?_ | refine blk_alloc ?_ _)); exact BK108.out) hb); have n4_ := Aside0.mk (blk_below (g := gb112) (o := .cells #[.slice Ao62 t109.length co62] 59 (0, 0)) (by (with_reducible repeat (first | refine blk_drewN ?_ _ | refine blk_drew ?_ | refine blk_alloc ?_ _)); refine blk_put (cs := #[.slice none 0 0]) ?_ 0 _ rfl; (with_reducible repeat (first | refine blk_drewN ?_ _ | refine blk_drew ?_ | refine blk_alloc ?_ _)); exact BK112.out) hb); have n5_ := Aside0.mk (below_step (by repeat (first | (with_reducible first | exact HB.out | apply below_alloc | apply pw_below_drewN | apply below_drew1 | refine below_set ?_ GE101.out | refine below_set ?_ GE108.out | refine below_set ?_ GE112.out) | exact HB.out)) hb); clear HO105; clear HO111; clear BK101; clear BK108; clear BK112; clear HB; have HO105 := n0_; have HO111 := n1_; have BK101 := n2_; have BK108 := n3_; have BK112 := n4_; have HB := n5_; clear n0_ n1_ n2_ n3_ n4_ n5_; (try clear hb); (try clear hb2); (try clear hk); (try clear hi)) | ((with_reducible refine gate_dst (N := 10) rfl ?_); refine box_event ?hg (N := 10) ?hd (cs := #[.int .i64 0, .string (⟨#[]⟩ : ByteArray)]) (t := 27) ?hr ?_; (case hd => rfl); (case hg => rfl); (case hr => first | (go_simp; done) | (go_simp; rfl)); intro gb115 hg w67 hbox hb; have n0_ := Aside0.mk (Kd.R_below (by (with_reducible repeat (first | apply Kd.R_alloc | apply Kd.R_drewN | apply Kd.R_drew)); exact HO105.out) hb); have n1_ := Aside0.mk (Kd.R_below (by (with_reducible repeat (first | apply Kd.R_alloc | apply Kd.R_drewN | apply Kd.R_drew)); exact HO111.out) hb); have n2_ := Aside0.mk (blk_below (g := gb101) (o := .cells #[.slice A0_0 l0_0.length c0_0] 54 (0, 0)) (by (with_reducible repeat (first | refine blk_drewN ?_ _ | refine blk_drew ?_ | refine blk_alloc ?_ _)); exact BK101.out) hb); have n3_ := Aside0.mk (blk_below (g := gb108) (o := .cells #[.int .i64 t106, .string t107] 27 (0, 0)) (by (with_reducible repeat (first | refine blk_drewN ?_ _ | refine blk_drew ?_ | refine blk_alloc ?_ _)); exact BK108.out) hb); have n4_ := Aside0.mk (blk_below (g := gb112) (o := .cells #[.slice Ao62 t109.length co62] 59 (0, 0)) (by (with_reducible repeat (first | refine blk_drewN ?_ _ | refine blk_drew ?_ | refine blk_alloc ?_ _)); exact BK112.out) hb); have n5_ := Aside0.mk (below_step (by repeat (first | (with_reducible first | exact HB.out | apply below_alloc | apply pw_below_drewN | apply below_drew1 | refine below_set ?_ GE101.out | refine below_set ?_ GE108.out | refine below_set ?_ GE112.out) | exact HB.out)) hb); have n6_ := Aside0.mk (hbox); have n7_ := Aside0.mk ((by rw [hg]; exact (below_size (by repeat (first | (with_reducible first | exact HB.out | apply below_alloc | apply pw_below_drewN | apply below_drew1 | refine below_set ?_ GE101.out | refine below_set ?_ GE108.out | refine below_set ?_ GE112.out) | exact HB.out))) : w.heap.size ≤ gb115)); have n8_ := Aside0.mk ((by rw [hg]; exact (below_size (by repeat (first | (with_reducible first | exact HB.out | apply below_alloc | apply pw_below_drewN | apply below_drew1 | refine below_set ?_ GE101.out | refine below_set ?_ GE108.out | refine below_set ?_ GE112.out) | exact HB.out))) : w.heap.size ≤ gb115)); have n9_ := Aside0.mk ((by rw [hg]; exact Nat.ne_of_lt (blk_lt (g := gb101) (o := .cells #[.slice A0_0 l0_0.length c0_0] 54 (0, 0)) (by (with_reducible repeat (first | refine blk_drewN ?_ _ | refine blk_drew ?_ | refine blk_alloc ?_ _)); exact BK101.out)) : gb101 ≠ gb115)); have n10_ := Aside0.mk ((by rw [hg]; exact Nat.ne_of_gt (blk_lt (g := gb101) (o := .cells #[.slice A0_0 l0_0.length c0_0] 54 (0, 0)) (by (with_reducible repeat (first | refine blk_drewN ?_ _ | refine blk_drew ?_ | refine blk_alloc ?_ _)); exact BK101.out)) : gb115 ≠ gb101)); have n11_ := Aside0.mk ((by rw [hg]; exact Nat.ne_of_lt (blk_lt (g := gb108) (o := .cells #[.int .i64 t106, .string t107] 27 (0, 0)) (by (with_reducible repeat (first | refine blk_drewN ?_ _ | refine blk_drew ?_ | refine blk_alloc ?_ _)); exact BK108.out)) : gb108 ≠ gb115)); have n12_ := Aside0.mk ((by rw [hg]; exact Nat.ne_of_gt (blk_lt (g := gb108) (o := .cells #[.int .i64 t106, .string t107] 27 (0, 0)) (by (with_reducible repeat (first | refine blk_drewN ?_ _ | refine blk_drew ?_ | refine blk_alloc ?_ _)); exact BK108.out)) : gb115 ≠ gb108)); have n13_ := Aside0.mk ((by rw [hg]; exact Nat.ne_of_lt (blk_lt (g := gb112) (o := .cells #[.slice Ao62 t109.length co62] 59 (0, 0)) (by (with_reducible repeat (first | refine blk_drewN ?_ _ | refine blk_drew ?_ | refine blk_alloc ?_ _)); exact BK112.out)) : gb112 ≠ gb115)); have n14_ := Aside0.mk ((by rw [hg]; exact Nat.ne_of_gt (blk_lt (g := gb112) (o := .cells #[.slice Ao62 t109.length co62] 59 (0, 0)) (by (with_reducible repeat (first | refine blk_drewN ?_ _ | refine blk_drew ?_ | refine blk_alloc ?_ _)); exact BK112.out)) : gb115 ≠ gb112)); clear HO105; clear HO111; clear BK101; clear BK108; clear BK112; clear HB; have HO105 := n0_; have HO111 := n1_; have BK101 := n2_; have BK108 := n3_; have BK112 := n4_; have HB := n5_; have BK115 := n6_; have GW115 := n7_; have GE115 := n8_; have NB101_115 := n9_; have NB115_101 := n10_; have NB108_115 := n11_; have NB115_108 := n12_; have NB112_115 := n13_; have NB115_112 := n14_; clear n0_ n1_ n2_ n3_ n4_ n5_ n6_ n7_ n8_ n9_ n10_ n11_ n12_ n13_ n14_; clear hb hbox hg; have hnb68 := NB115_101.out; have hnc68 := NB101_115.out; have hnb69 := NB115_108.out; have hnc69 := NB108_115.out; have hnb70 := NB115_112.out; have hnc70 := NB112_115.out; have hcz71_0 : w67.cell? ⟨gb115, 0, none⟩ = some (.int .i64 0) := (blk_cell BK115.out 0).trans rfl; have hcz71_1 : w67.cell? ⟨gb115, 1, none⟩ = some (.string (⟨#[]⟩ : ByteArray)) := (blk_cell BK115.out 1).trans rfl; have hfz71_0 := blk_frozen BK115.out 0; have hfz71_1 := blk_frozen BK115.out 1; have hcz72_0 : w67.cell? ⟨gb108, 0, none⟩ = some (.int .i64 t106) := (blk_cell BK108.out 0).trans rfl; have hcz72_1 : w67.cell? ⟨gb108, 1, none⟩ = some (.string t107) := (blk_cell BK108.out 1).trans rfl; have hfz72_0 := blk_frozen BK108.out 0; have hfz72_1 := blk_frozen BK108.out 1) | ((with_reducible refine gate_callee (f := 42) rfl ?_); refine goesL_ (some 32) rfl rfl Try.func42 (by kernel_rfl) rfl #[.agg #[.int .i64 t113, .string t114], .agg #[.int .i64 t106, .string t107]] rfl (by (try simp only [List.map_toArray, List.map_cons, List.map_nil]); first | done | rfl | (simp only [List.length_drop, List.length_take]; rfl)) ?_; (with_reducible refine (laws_eqMillReply.calls t113 t114 t106 t107 true _ A15.out).mono ?_); rintro e w73 ⟨rfl, hb⟩; refine ⟨_, rfl, ?_⟩; have n0_ := Aside0.mk (Kd.R_below (by (with_reducible repeat (first | apply Kd.R_alloc | apply Kd.R_drewN | apply Kd.R_drew)); exact (Kd.R_mono (Kd.R_far (p := ⟨gb115, 1, none⟩) (Kd.R_far (p := ⟨gb115, 0, none⟩) (Kd.R_types HO105.out BK115.out (by decide)) (fun _ hk => hk.2) (.int .i64 t113)) (fun _ hk => hk.2) (.string t114)) (fun _ h_ => h_.1))) hb); have n1_ := Aside0.mk (Kd.R_below (by (with_reducible repeat (first | apply Kd.R_alloc | apply Kd.R_drewN | apply Kd.R_drew)); exact (Kd.R_mono (Kd.R_far (p := ⟨gb115, 1, none⟩) (Kd.R_far (p := ⟨gb115, 0, none⟩) (Kd.R_types HO111.out BK115.out (by decide)) (fun _ hk => hk.2) (.int .i64 t113)) (fun _ hk => hk.2) (.string t114)) (fun _ h_ => h_.1))) hb); have n2_ := Aside0.mk (blk_below (g := gb101) (o := .cells #[.slice A0_0 l0_0.length c0_0] 54 (0, 0)) (by (with_reducible repeat (first | refine blk_drewN ?_ _ | refine blk_drew ?_ | refine blk_alloc ?_ _)); refine blk_far ?_ NB101_115.out _; (with_reducible repeat (first | refine blk_drewN ?_ _ | refine blk_drew ?_ | refine blk_alloc ?_ _)); refine blk_far ?_ NB101_115.out _; (with_reducible repeat (first | refine blk_drewN ?_ _ | refine blk_drew ?_ | refine blk_alloc ?_ _)); exact BK101.out) hb); have n3_ := Aside0.mk (blk_below (g := gb108) (o := .cells #[.int .i64 t106, .string t107] 27 (0, 0)) (by (with_reducible repeat (first | refine blk_drewN ?_ _ | refine blk_drew ?_ | refine blk_alloc ?_ _)); refine blk_far ?_ NB108_115.out _; (with_reducible repeat (first | refine blk_drewN ?_ _ | refine blk_drew ?_ | refine blk_alloc ?_ _)); refine blk_far ?_ NB108_115.out _; (with_reducible repeat (first | refine blk_drewN ?_ _ | refine blk_drew ?_ | refine blk_alloc ?_ _)); exact BK108.out) hb); have n4_ := Aside0.mk (blk_below (g := gb112) (o := .cells #[.slice Ao62 t109.length co62] 59 (0, 0)) (by (with_reducible repeat (first | refine blk_drewN ?_ _ | refine blk_drew ?_ | refine blk_alloc ?_ _)); refine blk_far ?_ NB112_115.out _; (with_reducible repeat (first | refine blk_drewN ?_ _ | refine blk_drew ?_ | refine blk_alloc ?_ _)); refine blk_far ?_ NB112_115.out _; (with_reducible repeat (first | refine blk_drewN ?_ _ | refine blk_drew ?_ | refine blk_alloc ?_ _)); exact BK112.out) hb); have n5_ := Aside0.mk (blk_below (g := gb115) (o := .cells #[.int .i64 t113, .string t114] 27 (0, 0)) (by (with_reducible repeat (first | refine blk_drewN ?_ _ | refine blk_drew ?_ | refine blk_alloc ?_ _)); refine blk_put (cs := #[.int .i64 t113, .string (⟨#[]⟩ : ByteArray)]) ?_ 1 _ rfl; (with_reducible repeat (first | refine blk_drewN ?_ _ | refine blk_drew ?_ | refine blk_alloc ?_ _)); refine blk_put (cs := #[.int .i64 0, .string (⟨#[]⟩ : ByteArray)]) ?_ 0 _ rfl; (with_reducible repeat (first | refine blk_drewN ?_ _ | refine blk_drew ?_ | refine blk_alloc ?_ _)); exact BK115.out) hb); have n6_ := Aside0.mk (below_step (by repeat (first | (with_reducible first | exact HB.out | apply below_alloc | apply pw_below_drewN | apply below_drew1 | refine below_set ?_ GE101.out | refine below_set ?_ GE108.out | refine below_set ?_ GE112.out | refine below_set ?_ GE115.out) | exact HB.out)) hb); clear HO105; clear HO111; clear BK101; clear BK108; clear BK112; clear BK115; clear HB; have HO105 := n0_; have HO111 := n1_; have BK101 := n2_; have BK108 := n3_; have BK112 := n4_; have BK115 := n5_; have HB := n6_; clear n0_ n1_ n2_ n3_ n4_ n5_ n6_; (try clear hb); (try clear hb2); (try clear hk); (try clear hi)))
          have n0_ := Aside0.mk (Kd.R_drew HO105.out)
          have n1_ := Aside0.mk (Kd.R_drew HO111.out)
          have n2_ := Aside0.mk (blk_drew BK101.out)
          have n3_ := Aside0.mk (blk_drew BK108.out)
          have n4_ := Aside0.mk (blk_drew BK112.out)
          have n5_ := Aside0.mk (blk_drew BK115.out)
          have n6_ := Aside0.mk (below_drew1 HB.out)
          clear HO105
          clear HO111
          clear BK101
          clear BK108
          clear BK112
          clear BK115
          clear HB
          have HO105 := n0_
          have HO111 := n1_
          have BK101 := n2_
          have BK108 := n3_
          have BK112 := n4_
          have BK115 := n5_
          have HB := n6_
          clear n0_ n1_ n2_ n3_ n4_ n5_ n6_
          refine start_ (n := 5) (S := fun w' => w'.cell? ⟨gb112, 0, none⟩ = some (.slice Ao62 t109.length co62) ∧ w'.cell? ⟨gb101, 0, none⟩ = some (.slice A0_0 l0_0.length c0_0)) (ds := []) #[false, false, false, false, false] (by kernel_rfl) rfl rfl ⟨(blk_cell BK112.out 0).trans rfl, (blk_cell BK101.out 0).trans rfl⟩ (fun hHeld => ?_)
          generalize w73.drew = w74 at HO105 HO111 BK101 BK108 BK112 BK115 HB hHeld ⊢
          refine take_ (i := 0) (N := some 34) (v := ?_) (a' := ?_) #[true, false, false, false, false] rfl rfl (by kernel_rfl) (fun _ _ _ h => h) (Or.inl ⟨by rfl, ?_⟩) hHeld ?_ ?_
          rotate_left
          · rintro w' ⟨s0, s1⟩
            go_simp
            with_reducible rfl
          rotate_left
          · simp only [Act.put, List.setIfInBounds_toArray, List.set_cons_zero, List.set_cons_succ, i64_w, i32_w]
            rfl
          refine take_ (i := 1) (N := some 35) (v := ?_) (a' := ?_) #[true, true, false, false, false] rfl rfl (by kernel_rfl) (fun _ _ _ h => h) (Or.inl ⟨by rfl, ?_⟩) hHeld ?_ ?_
          rotate_left
          · rintro w' ⟨s0, s1⟩
            go_simp
            with_reducible rfl
          rotate_left
          · simp only [Act.put, List.setIfInBounds_toArray, List.set_cons_zero, List.set_cons_succ, i64_w, i32_w]
            rfl
          refine one_ (i := 2) (N := some 36) #[true, true, true, false, false] rfl rfl (by kernel_rfl) (by decide) (fun K hK => ?_)
          refine goes_ Try.func35 (by kernel_rfl) rfl #[.agg #[.slice A0_0 l0_0.length c0_0]] (by rfl) rfl rfl (by (try simp only [List.map_toArray, List.map_cons, List.map_nil]); first | done | rfl | (simp only [List.length_drop, List.length_take]; rfl)) ?_
          with_reducible refine (laws_toMillPlace.calls k _ _ l0_0 t117 _ ?side1 ?side2 A17.out).mono ?_
          (case side1 => repeat (first | exact (Kd.C_below HR0_0.out HB.out) | (with_reducible refine Kd.C_alloc ?_ _) | (with_reducible refine Kd.C_drewN ?_ _) | (with_reducible refine Kd.C_drew ?_)))
          (case side2 => exact HC0_0.out)
          rintro e w75 ⟨v118, rfl, ho0, hb⟩
          refine ⟨_, rfl, ?_⟩
          have n0_ := Aside0.mk (Kd.R_elder' (by (with_reducible repeat (first | apply Kd.R_alloc | apply Kd.R_drewN | apply Kd.R_drew)); exact HO105.out) (Kd.R_base ho0) hb)
          have n1_ := Aside0.mk (Kd.R_elder' (by (with_reducible repeat (first | apply Kd.R_alloc | apply Kd.R_drewN | apply Kd.R_drew)); exact HO111.out) (Kd.R_base ho0) hb)
          have n2_ := Aside0.mk (Kd.R_lower (Kd.R_new' (Kd.R_new' ho0 (Kd.R_lt (by (with_reducible repeat (first | apply Kd.R_alloc | apply Kd.R_drewN | apply Kd.R_drew)); exact HO105.out))) (Kd.R_lt (by (with_reducible repeat (first | apply Kd.R_alloc | apply Kd.R_drewN | apply Kd.R_drew)); exact HO111.out))) (below_size (by repeat (first | (with_reducible first | exact HB.out | apply below_alloc | apply pw_below_drewN | apply below_drew1 | refine below_set ?_ GE101.out | refine below_set ?_ GE108.out | refine below_set ?_ GE112.out | refine below_set ?_ GE115.out) | exact HB.out))))
          have n3_ := Aside0.mk (blk_below (g := gb101) (o := .cells #[.slice A0_0 l0_0.length c0_0] 54 (0, 0)) (by (with_reducible repeat (first | refine blk_drewN ?_ _ | refine blk_drew ?_ | refine blk_alloc ?_ _)); exact BK101.out) hb)
          have n4_ := Aside0.mk (blk_below (g := gb108) (o := .cells #[.int .i64 t106, .string t107] 27 (0, 0)) (by (with_reducible repeat (first | refine blk_drewN ?_ _ | refine blk_drew ?_ | refine blk_alloc ?_ _)); exact BK108.out) hb)
          have n5_ := Aside0.mk (blk_below (g := gb112) (o := .cells #[.slice Ao62 t109.length co62] 59 (0, 0)) (by (with_reducible repeat (first | refine blk_drewN ?_ _ | refine blk_drew ?_ | refine blk_alloc ?_ _)); exact BK112.out) hb)
          have n6_ := Aside0.mk (blk_below (g := gb115) (o := .cells #[.int .i64 t113, .string t114] 27 (0, 0)) (by (with_reducible repeat (first | refine blk_drewN ?_ _ | refine blk_drew ?_ | refine blk_alloc ?_ _)); exact BK115.out) hb)
          have n7_ := Aside0.mk (below_step (by repeat (first | (with_reducible first | exact HB.out | apply below_alloc | apply pw_below_drewN | apply below_drew1 | refine below_set ?_ GE101.out | refine below_set ?_ GE108.out | refine below_set ?_ GE112.out | refine below_set ?_ GE115.out) | exact HB.out)) hb)
          clear HO105
          clear HO111
          clear BK101
          clear BK108
          clear BK112
          clear BK115
          clear HB
          have HO105 := n0_
          have HO111 := n1_
          have HO119 := n2_
          have BK101 := n3_
          have BK108 := n4_
          have BK112 := n5_
          have BK115 := n6_
          have HB := n7_
          clear n0_ n1_ n2_ n3_ n4_ n5_ n6_ n7_
          (try clear hb)
          (try clear hb2)
          (try clear hk)
          (try clear hi)
          (try clear ho0)
          obtain ⟨Ao76, co76, eo76⟩ := Kd.R_slice HO119.out
          (first | subst eo76 | (injection eo76 with f1_ f2_ f3_; have f4_ := f1_.symm; have f5_ := f3_.symm; clear f1_ f2_ f3_; subst f4_; subst f5_))
          refine hK.out _ _ ⟨(blk_cell BK112.out 0).trans rfl, (blk_cell BK101.out 0).trans rfl⟩ (fun hHeld => ?_)
          clear hK K
          refine norm_ (a' := ?_) ?_ ?_
          rotate_left
          · show Act.put _ (some 36) _ = _
            simp only [Act.put, List.setIfInBounds_toArray, List.set_cons_zero, List.set_cons_succ, i64_w, i32_w]
            rfl
          refine one_ (i := 3) (N := some 37) #[true, true, true, true, false] rfl rfl (by kernel_rfl) (by decide) (fun K hK => ?_)
          refine goes_ Try.func37 (by kernel_rfl) rfl #[.agg #[.slice Ao62 t109.length co62], .agg #[.slice Ao76 t117.length co76]] (by rfl) rfl rfl (by (try simp only [List.map_toArray, List.map_cons, List.map_nil]); first | done | rfl | (simp only [List.length_drop, List.length_take]; rfl)) ?_
          with_reducible refine (laws_eqMillPlace.calls k _ _ t109 _ _ t117 false _ ?side1 ?side2 ?side3 ?side4 A18.out).mono ?_
          (case side1 => repeat (first | exact (Kd.R_reads' HO111.out).2.2 | (with_reducible refine Kd.C_alloc ?_ _) | (with_reducible refine Kd.C_drewN ?_ _) | (with_reducible refine Kd.C_drew ?_)))
          (case side2 => exact (Kd.R_reads' HO111.out).2.1)
          (case side3 => repeat (first | exact (Kd.R_reads' HO119.out).2.2 | (with_reducible refine Kd.C_alloc ?_ _) | (with_reducible refine Kd.C_drewN ?_ _) | (with_reducible refine Kd.C_drew ?_)))
          (case side4 => exact (Kd.R_reads' HO119.out).2.1)
          rintro e w77 ⟨rfl, hb⟩
          refine ⟨_, rfl, ?_⟩
          have n0_ := Aside0.mk (Kd.R_below (by (with_reducible repeat (first | apply Kd.R_alloc | apply Kd.R_drewN | apply Kd.R_drew)); exact HO105.out) hb)
          have n1_ := Aside0.mk (Kd.R_below (by (with_reducible repeat (first | apply Kd.R_alloc | apply Kd.R_drewN | apply Kd.R_drew)); exact HO111.out) hb)
          have n2_ := Aside0.mk (Kd.R_below (by (with_reducible repeat (first | apply Kd.R_alloc | apply Kd.R_drewN | apply Kd.R_drew)); exact HO119.out) hb)
          have n3_ := Aside0.mk (blk_below (g := gb101) (o := .cells #[.slice A0_0 l0_0.length c0_0] 54 (0, 0)) (by (with_reducible repeat (first | refine blk_drewN ?_ _ | refine blk_drew ?_ | refine blk_alloc ?_ _)); exact BK101.out) hb)
          have n4_ := Aside0.mk (blk_below (g := gb108) (o := .cells #[.int .i64 t106, .string t107] 27 (0, 0)) (by (with_reducible repeat (first | refine blk_drewN ?_ _ | refine blk_drew ?_ | refine blk_alloc ?_ _)); exact BK108.out) hb)
          have n5_ := Aside0.mk (blk_below (g := gb112) (o := .cells #[.slice Ao62 t109.length co62] 59 (0, 0)) (by (with_reducible repeat (first | refine blk_drewN ?_ _ | refine blk_drew ?_ | refine blk_alloc ?_ _)); exact BK112.out) hb)
          have n6_ := Aside0.mk (blk_below (g := gb115) (o := .cells #[.int .i64 t113, .string t114] 27 (0, 0)) (by (with_reducible repeat (first | refine blk_drewN ?_ _ | refine blk_drew ?_ | refine blk_alloc ?_ _)); exact BK115.out) hb)
          have n7_ := Aside0.mk (below_step (by repeat (first | (with_reducible first | exact HB.out | apply below_alloc | apply pw_below_drewN | apply below_drew1 | refine below_set ?_ GE101.out | refine below_set ?_ GE108.out | refine below_set ?_ GE112.out | refine below_set ?_ GE115.out) | exact HB.out)) hb)
          clear HO105
          clear HO111
          clear HO119
          clear BK101
          clear BK108
          clear BK112
          clear BK115
          clear HB
          have HO105 := n0_
          have HO111 := n1_
          have HO119 := n2_
          have BK101 := n3_
          have BK108 := n4_
          have BK112 := n5_
          have BK115 := n6_
          have HB := n7_
          clear n0_ n1_ n2_ n3_ n4_ n5_ n6_ n7_
          (try clear hb)
          (try clear hb2)
          (try clear hk)
          (try clear hi)
          refine hK.out _ _ ⟨(blk_cell BK112.out 0).trans rfl, (blk_cell BK101.out 0).trans rfl⟩ (fun hHeld => ?_)
          clear hK K
          refine norm_ (a' := ?_) ?_ ?_
          rotate_left
          · show Act.put _ (some 37) _ = _
            simp only [Act.put, List.setIfInBounds_toArray, List.set_cons_zero, List.set_cons_succ, i64_w, i32_w]
            rfl
          refine pure_ (i := 4) (N := some 38) (v := ?_) (a' := ?_) #[true, true, true, true, true] rfl rfl (by kernel_rfl) (fun _ _ _ h => h) (Or.inl ⟨by rfl, ?_⟩) ?_ ?_
          rotate_left
          · intro w'
            go_simp
            with_reducible rfl
          rotate_left
          · simp only [Act.put, List.setIfInBounds_toArray, List.set_cons_zero, List.set_cons_succ, i64_w, i32_w]
            rfl
          refine done_ (by kernel_rfl) ?_
          try go_wp2
          go_ret
          exact ⟨by first | rfl | (simp [errW_none, errW_some] <;> rfl) | (simp [*, errW_none, errW_some] <;> rfl), by repeat (first | (with_reducible first | exact HB.out | apply below_alloc | apply pw_below_drewN | apply below_drew1 | refine below_set ?_ GE101.out | refine below_set ?_ GE108.out | refine below_set ?_ GE112.out | refine below_set ?_ GE115.out) | exact HB.out)⟩
      · replace c16 := Bool.eq_false_iff.mpr c16
        subst c16
        have H1 : (some false) = some r := by rw [if_neg (show ¬ (false = true) by decide)] at H; exact H
        clear H
        have H := H1
        clear H1
        obtain rfl := Option.some.inj H
        go_enter Try.func11, Try.ntmps11
        go_wp2_with (first | ((with_reducible refine gate_dst (N := 3) rfl ?_); refine box_event ?hg (N := 3) ?hd (cs := #[.slice A0_0 l0_0.length c0_0]) (t := 54) ?hr ?_; (case hd => rfl); (case hg => rfl); (case hr => first | (go_simp; done) | (go_simp; rfl)); intro gb101 hg w78 hbox hb; have n0_ := Aside0.mk (below_step (by repeat (first | (with_reducible first | exact HB.out | apply below_alloc | apply pw_below_drewN | apply below_drew1) | exact HB.out)) hb); have n1_ := Aside0.mk (hbox); have n2_ := Aside0.mk ((by rw [hg]; exact (below_size (by repeat (first | (with_reducible first | exact HB.out | apply below_alloc | apply pw_below_drewN | apply below_drew1) | exact HB.out))) : w.heap.size ≤ gb101)); have n3_ := Aside0.mk ((by rw [hg]; exact (below_size (by repeat (first | (with_reducible first | exact HB.out | apply below_alloc | apply pw_below_drewN | apply below_drew1) | exact HB.out))) : w.heap.size ≤ gb101)); clear HB; have HB := n0_; have BK101 := n1_; have GW101 := n2_; have GE101 := n3_; clear n0_ n1_ n2_ n3_; clear hb hbox hg; have hcz79_0 : w78.cell? ⟨gb101, 0, none⟩ = some (.slice A0_0 l0_0.length c0_0) := (blk_cell BK101.out 0).trans rfl; have hfz79_0 := blk_frozen BK101.out 0) | ((with_reducible refine gate_callee (f := 33) rfl ?_); refine goesL_ (some 16) rfl rfl Try.func33 (by kernel_rfl) rfl #[.agg #[.slice A0_0 l0_0.length c0_0], .int .i64 1048576] rfl (by (try simp only [List.map_toArray, List.map_cons, List.map_nil]); first | done | rfl | (simp only [List.length_drop, List.length_take]; rfl)) ?_; (with_reducible refine (laws_szMillPlace.calls k _ _ l0_0 1048576 t102 _ ?side1 ?side2 A6.out).mono ?_); (case side1 => repeat (first | exact (Kd.C_below HR0_0.out HB.out) | (with_reducible refine Kd.C_alloc ?_ _) | (with_reducible refine Kd.C_drewN ?_ _) | (with_reducible refine Kd.C_drew ?_))); (case side2 => exact HC0_0.out); rintro e w80 ⟨rfl, hb⟩; refine ⟨_, rfl, ?_⟩; have n0_ := Aside0.mk (blk_below (g := gb101) (o := .cells #[.slice A0_0 l0_0.length c0_0] 54 (0, 0)) (by (with_reducible repeat (first | refine blk_drewN ?_ _ | refine blk_drew ?_ | refine blk_alloc ?_ _)); exact BK101.out) hb); have n1_ := Aside0.mk (below_step (by repeat (first | (with_reducible first | exact HB.out | apply below_alloc | apply pw_below_drewN | apply below_drew1 | refine below_set ?_ GE101.out) | exact HB.out)) hb); clear BK101; clear HB; have BK101 := n0_; have HB := n1_; clear n0_ n1_; (try clear hb); (try clear hb2); (try clear hk); (try clear hi); have hcz81_0 : w80.cell? ⟨gb101, 0, none⟩ = some (.slice A0_0 l0_0.length c0_0) := (blk_cell BK101.out 0).trans rfl; have hfz81_0 := blk_frozen BK101.out 0) | ((with_reducible refine gate_callee (f := 35) rfl ?_); refine goesL_ (some 20) rfl rfl Try.func35 (by kernel_rfl) rfl #[.agg #[.slice A0_0 l0_0.length c0_0]] rfl (by (try simp only [List.map_toArray, List.map_cons, List.map_nil]); first | done | rfl | (simp only [List.length_drop, List.length_take]; rfl)) ?_; (with_reducible refine (laws_toMillPlace.calls k _ _ l0_0 t103 _ ?side1 ?side2 A11.out).mono ?_); (case side1 => repeat (first | exact (Kd.C_below HR0_0.out HB.out) | (with_reducible refine Kd.C_alloc ?_ _) | (with_reducible refine Kd.C_drewN ?_ _) | (with_reducible refine Kd.C_drew ?_))); (case side2 => exact HC0_0.out); rintro e w82 ⟨v104, rfl, ho0, hb⟩; refine ⟨_, rfl, ?_⟩; have n0_ := Aside0.mk (Kd.R_lower ho0 (below_size (by repeat (first | (with_reducible first | exact HB.out | apply below_alloc | apply pw_below_drewN | apply below_drew1 | refine below_set ?_ GE101.out) | exact HB.out)))); have n1_ := Aside0.mk (blk_below (g := gb101) (o := .cells #[.slice A0_0 l0_0.length c0_0] 54 (0, 0)) (by (with_reducible repeat (first | refine blk_drewN ?_ _ | refine blk_drew ?_ | refine blk_alloc ?_ _)); exact BK101.out) hb); have n2_ := Aside0.mk (below_step (by repeat (first | (with_reducible first | exact HB.out | apply below_alloc | apply pw_below_drewN | apply below_drew1 | refine below_set ?_ GE101.out) | exact HB.out)) hb); clear BK101; clear HB; have HO105 := n0_; have BK101 := n1_; have HB := n2_; clear n0_ n1_ n2_; (try clear hb); (try clear hb2); (try clear hk); (try clear hi); (try clear ho0); obtain ⟨Ao83, co83, eo83⟩ := Kd.R_slice HO105.out; subst eo83) | ((with_reducible refine gate_callee (f := 40) rfl ?_); refine goesL_ (some 23) rfl rfl Try.func40 (by kernel_rfl) rfl #[.agg #[.slice Ao83 t103.length co83], .int .i64 a1, .string a2] rfl (by (try simp only [List.map_toArray, List.map_cons, List.map_nil]); first | done | rfl | (simp only [List.length_drop, List.length_take]; rfl)) ?_; (with_reducible refine (spec_MillSee.calls k _ _ t103 a1 a2 t106 t107 _ ?side1 ?side2 A12.out).mono ?_); (case side1 => repeat (first | exact (Kd.R_reads' HO105.out).2.2 | (with_reducible refine Kd.C_alloc ?_ _) | (with_reducible refine Kd.C_drewN ?_ _) | (with_reducible refine Kd.C_drew ?_))); (case side2 => exact (Kd.R_reads' HO105.out).2.1); rintro e w84 ⟨rfl, hb⟩; refine ⟨_, rfl, ?_⟩; have n0_ := Aside0.mk (Kd.R_below (by (with_reducible repeat (first | apply Kd.R_alloc | apply Kd.R_drewN | apply Kd.R_drew)); exact HO105.out) hb); have n1_ := Aside0.mk (blk_below (g := gb101) (o := .cells #[.slice A0_0 l0_0.length c0_0] 54 (0, 0)) (by (with_reducible repeat (first | refine blk_drewN ?_ _ | refine blk_drew ?_ | refine blk_alloc ?_ _)); exact BK101.out) hb); have n2_ := Aside0.mk (below_step (by repeat (first | (with_reducible first | exact HB.out | apply below_alloc | apply pw_below_drewN | apply below_drew1 | refine below_set ?_ GE101.out) | exact HB.out)) hb); clear HO105; clear BK101; clear HB; have HO105 := n0_; have BK101 := n1_; have HB := n2_; clear n0_ n1_ n2_; (try clear hb); (try clear hb2); (try clear hk); (try clear hi)) | ((with_reducible refine gate_dst (N := 8) rfl ?_); refine box_event ?hg (N := 8) ?hd (cs := #[.int .i64 0, .string (⟨#[]⟩ : ByteArray)]) (t := 27) ?hr ?_; (case hd => rfl); (case hg => rfl); (case hr => first | (go_simp; done) | (go_simp; rfl)); intro gb108 hg w85 hbox hb; have n0_ := Aside0.mk (Kd.R_below (by (with_reducible repeat (first | apply Kd.R_alloc | apply Kd.R_drewN | apply Kd.R_drew)); exact HO105.out) hb); have n1_ := Aside0.mk (blk_below (g := gb101) (o := .cells #[.slice A0_0 l0_0.length c0_0] 54 (0, 0)) (by (with_reducible repeat (first | refine blk_drewN ?_ _ | refine blk_drew ?_ | refine blk_alloc ?_ _)); exact BK101.out) hb); have n2_ := Aside0.mk (below_step (by repeat (first | (with_reducible first | exact HB.out | apply below_alloc | apply pw_below_drewN | apply below_drew1 | refine below_set ?_ GE101.out) | exact HB.out)) hb); have n3_ := Aside0.mk (hbox); have n4_ := Aside0.mk ((by rw [hg]; exact (below_size (by repeat (first | (with_reducible first | exact HB.out | apply below_alloc | apply pw_below_drewN | apply below_drew1 | refine below_set ?_ GE101.out) | exact HB.out))) : w.heap.size ≤ gb108)); have n5_ := Aside0.mk ((by rw [hg]; exact (below_size (by repeat (first | (with_reducible first | exact HB.out | apply below_alloc | apply pw_below_drewN | apply below_drew1 | refine below_set ?_ GE101.out) | exact HB.out))) : w.heap.size ≤ gb108)); have n6_ := Aside0.mk ((by rw [hg]; exact Nat.ne_of_lt (blk_lt (g := gb101) (o := .cells #[.slice A0_0 l0_0.length c0_0] 54 (0, 0)) (by (with_reducible repeat (first | refine blk_drewN ?_ _ | refine blk_drew ?_ | refine blk_alloc ?_ _)); exact BK101.out)) : gb101 ≠ gb108)); have n7_ := Aside0.mk ((by rw [hg]; exact Nat.ne_of_gt (blk_lt (g := gb101) (o := .cells #[.slice A0_0 l0_0.length c0_0] 54 (0, 0)) (by (with_reducible repeat (first | refine blk_drewN ?_ _ | refine blk_drew ?_ | refine blk_alloc ?_ _)); exact BK101.out)) : gb108 ≠ gb101)); clear HO105; clear BK101; clear HB; have HO105 := n0_; have BK101 := n1_; have HB := n2_; have BK108 := n3_; have GW108 := n4_; have GE108 := n5_; have NB101_108 := n6_; have NB108_101 := n7_; clear n0_ n1_ n2_ n3_ n4_ n5_ n6_ n7_; clear hb hbox hg; have hnb86 := NB108_101.out; have hnc86 := NB101_108.out; have hcz87_0 : w85.cell? ⟨gb108, 0, none⟩ = some (.int .i64 0) := (blk_cell BK108.out 0).trans rfl; have hcz87_1 : w85.cell? ⟨gb108, 1, none⟩ = some (.string (⟨#[]⟩ : ByteArray)) := (blk_cell BK108.out 1).trans rfl; have hfz87_0 := blk_frozen BK108.out 0; have hfz87_1 := blk_frozen BK108.out 1; have hcz88_0 : w85.cell? ⟨gb101, 0, none⟩ = some (.slice A0_0 l0_0.length c0_0) := (blk_cell BK101.out 0).trans rfl; have hfz88_0 := blk_frozen BK101.out 0) | ((with_reducible refine gate_callee (f := 35) rfl ?_); refine goesL_ (some 25) rfl rfl Try.func35 (by kernel_rfl) rfl #[.agg #[.slice A0_0 l0_0.length c0_0]] rfl (by (try simp only [List.map_toArray, List.map_cons, List.map_nil]); first | done | rfl | (simp only [List.length_drop, List.length_take]; rfl)) ?_; (with_reducible refine (laws_toMillPlace.calls k _ _ l0_0 t109 _ ?side1 ?side2 A13.out).mono ?_); (case side1 => exact Kd.C_below HR0_0.out (by repeat (first | (with_reducible first | exact HB.out | apply below_alloc | apply pw_below_drewN | apply below_drew1 | refine below_set ?_ GE101.out | refine below_set ?_ GE108.out) | exact HB.out))); (case side2 => exact HC0_0.out); rintro e w89 ⟨v110, rfl, ho0, hb⟩; refine ⟨_, rfl, ?_⟩; have n0_ := Aside0.mk (Kd.R_elder' (by (with_reducible repeat (first | apply Kd.R_alloc | apply Kd.R_drewN | apply Kd.R_drew)); exact (Kd.R_mono (Kd.R_far (p := ⟨gb108, 1, none⟩) (Kd.R_far (p := ⟨gb108, 0, none⟩) (Kd.R_types HO105.out BK108.out (by decide)) (fun _ hk => hk.2) (.int .i64 t106)) (fun _ hk => hk.2) (.string t107)) (fun _ h_ => h_.1))) (Kd.R_base ho0) hb); have n1_ := Aside0.mk (Kd.R_lower (Kd.R_new' ho0 (Kd.R_lt (by (with_reducible repeat (first | apply Kd.R_alloc | apply Kd.R_drewN | apply Kd.R_drew)); exact (Kd.R_mono (Kd.R_far (p := ⟨gb108, 1, none⟩) (Kd.R_far (p := ⟨gb108, 0, none⟩) (Kd.R_types HO105.out BK108.out (by decide)) (fun _ hk => hk.2) (.int .i64 t106)) (fun _ hk => hk.2) (.string t107)) (fun _ h_ => h_.1))))) (below_size (by repeat (first | (with_reducible first | exact HB.out | apply below_alloc | apply pw_below_drewN | apply below_drew1 | refine below_set ?_ GE101.out | refine below_set ?_ GE108.out) | exact HB.out)))); have n2_ := Aside0.mk (blk_below (g := gb101) (o := .cells #[.slice A0_0 l0_0.length c0_0] 54 (0, 0)) (by (with_reducible repeat (first | refine blk_drewN ?_ _ | refine blk_drew ?_ | refine blk_alloc ?_ _)); refine blk_far ?_ NB101_108.out _; (with_reducible repeat (first | refine blk_drewN ?_ _ | refine blk_drew ?_ | refine blk_alloc ?_ _)); refine blk_far ?_ NB101_108.out _; (with_reducible repeat (first | refine blk_drewN ?_ _ | refine blk_drew ?_ | refine blk_alloc ?_ _)); exact BK101.out) hb); have n3_ := Aside0.mk (blk_below (g := gb108) (o := .cells #[.int .i64 t106, .string t107] 27 (0, 0)) (by (with_reducible repeat (first | refine blk_drewN ?_ _ | refine blk_drew ?_ | refine blk_alloc ?_ _)); refine blk_put (cs := #[.int .i64 t106, .string (⟨#[]⟩ : ByteArray)]) ?_ 1 _ rfl; (with_reducible repeat (first | refine blk_drewN ?_ _ | refine blk_drew ?_ | refine blk_alloc ?_ _)); refine blk_put (cs := #[.int .i64 0, .string (⟨#[]⟩ : ByteArray)]) ?_ 0 _ rfl; (with_reducible repeat (first | refine blk_drewN ?_ _ | refine blk_drew ?_ | refine blk_alloc ?_ _)); exact BK108.out) hb); have n4_ := Aside0.mk (below_step (by repeat (first | (with_reducible first | exact HB.out | apply below_alloc | apply pw_below_drewN | apply below_drew1 | refine below_set ?_ GE101.out | refine below_set ?_ GE108.out) | exact HB.out)) hb); clear HO105; clear BK101; clear BK108; clear HB; have HO105 := n0_; have HO111 := n1_; have BK101 := n2_; have BK108 := n3_; have HB := n4_; clear n0_ n1_ n2_ n3_ n4_; (try clear hb); (try clear hb2); (try clear hk); (try clear hi); (try clear ho0)) | ((with_reducible refine gate_dst (N := 9) rfl ?_); refine box_event ?hg (N := 9) ?hd (cs := #[.slice none 0 0]) (t := 59) ?hr ?_; (case hd => rfl); (case hg => rfl); (case hr => first | (go_simp; done) | (go_simp; rfl)); intro gb112 hg w90 hbox hb; have n0_ := Aside0.mk (Kd.R_below (by (with_reducible repeat (first | apply Kd.R_alloc | apply Kd.R_drewN | apply Kd.R_drew)); exact HO105.out) hb); have n1_ := Aside0.mk (Kd.R_below (by (with_reducible repeat (first | apply Kd.R_alloc | apply Kd.R_drewN | apply Kd.R_drew)); exact HO111.out) hb); have n2_ := Aside0.mk (blk_below (g := gb101) (o := .cells #[.slice A0_0 l0_0.length c0_0] 54 (0, 0)) (by (with_reducible repeat (first | refine blk_drewN ?_ _ | refine blk_drew ?_ | refine blk_alloc ?_ _)); exact BK101.out) hb); have n3_ := Aside0.mk (blk_below (g := gb108) (o := .cells #[.int .i64 t106, .string t107] 27 (0, 0)) (by (with_reducible repeat (first | refine blk_drewN ?_ _ | refine blk_drew ?_ | refine blk_alloc ?_ _)); exact BK108.out) hb); have n4_ := Aside0.mk (below_step (by repeat (first | (with_reducible first | exact HB.out | apply below_alloc | apply pw_below_drewN | apply below_drew1 | refine below_set ?_ GE101.out | refine below_set ?_ GE108.out) | exact HB.out)) hb); have n5_ := Aside0.mk (hbox); have n6_ := Aside0.mk ((by rw [hg]; exact (below_size (by repeat (first | (with_reducible first | exact HB.out | apply below_alloc | apply pw_below_drewN | apply below_drew1 | refine below_set ?_ GE101.out | refine below_set ?_ GE108.out) | exact HB.out))) : w.heap.size ≤ gb112)); have n7_ := Aside0.mk ((by rw [hg]; exact (below_size (by repeat (first | (with_reducible first | exact HB.out | apply below_alloc | apply pw_below_drewN | apply below_drew1 | refine below_set ?_ GE101.out | refine below_set ?_ GE108.out) | exact HB.out))) : w.heap.size ≤ gb112)); have n8_ := Aside0.mk ((by rw [hg]; exact Nat.ne_of_lt (blk_lt (g := gb101) (o := .cells #[.slice A0_0 l0_0.length c0_0] 54 (0, 0)) (by (with_reducible repeat (first | refine blk_drewN ?_ _ | refine blk_drew ?_ | refine blk_alloc ?_ _)); exact BK101.out)) : gb101 ≠ gb112)); have n9_ := Aside0.mk ((by rw [hg]; exact Nat.ne_of_gt (blk_lt (g := gb101) (o := .cells #[.slice A0_0 l0_0.length c0_0] 54 (0, 0)) (by (with_reducible repeat (first | refine blk_drewN ?_ _ | refine blk_drew ?_ | refine blk_alloc ?_ _)); exact BK101.out)) : gb112 ≠ gb101)); have n10_ := Aside0.mk ((by rw [hg]; exact Nat.ne_of_lt (blk_lt (g := gb108) (o := .cells #[.int .i64 t106, .string t107] 27 (0, 0)) (by (with_reducible repeat (first | refine blk_drewN ?_ _ | refine blk_drew ?_ | refine blk_alloc ?_ _)); exact BK108.out)) : gb108 ≠ gb112)); have n11_ := Aside0.mk ((by rw [hg]; exact Nat.ne_of_gt (blk_lt (g := gb108) (o := .cells #[.int .i64 t106, .string t107] 27 (0, 0)) (by (with_reducible repeat (first | refine blk_drewN ?_ _ | refine blk_drew ?_ | refine blk_alloc ?_ _)); exact BK108.out)) : gb112 ≠ gb108)); clear HO105; clear HO111; clear BK101; clear BK108; clear HB; have HO105 := n0_; have HO111 := n1_; have BK101 := n2_; have BK108 := n3_; have HB := n4_; have BK112 := n5_; have GW112 := n6_; have GE112 := n7_; have NB101_112 := n8_; have NB112_101 := n9_; have NB108_112 := n10_; have NB112_108 := n11_; clear n0_ n1_ n2_ n3_ n4_ n5_ n6_ n7_ n8_ n9_ n10_ n11_; clear hb hbox hg; obtain ⟨Ao91, co91, eo91⟩ := Kd.R_slice HO111.out; subst eo91; have hnb92 := NB112_101.out; have hnc92 := NB101_112.out; have hnb93 := NB112_108.out; have hnc93 := NB108_112.out; have hcz94_0 : w90.cell? ⟨gb112, 0, none⟩ = some (.slice none 0 0) := (blk_cell BK112.out 0).trans rfl; have hfz94_0 := blk_frozen BK112.out 0) | ((with_reducible refine gate_callee (f := 41) rfl ?_); refine goesL_ (some 29) rfl rfl Try.func41 (by kernel_rfl) rfl #[.agg #[.slice Ao91 t109.length co91], .int .i64 a1, .string a2] rfl (by (try simp only [List.map_toArray, List.map_cons, List.map_nil]); first | done | rfl | (simp only [List.length_drop, List.length_take]; rfl)) ?_; (with_reducible refine (impl_MillSee.calls k _ _ t109 a1 a2 t113 t114 _ ?side1 ?side2 A14.out).mono ?_); (case side1 => refine (Kd.R_reads' (e := 102) (base := w.heap.size) (ok := fun k_ => (True ∧ some k_ ≠ (.slice Ao83 t103.length co83 : Value).ownBlock)) (n := t109.length) (c := co91) ?_).2.2; exact (by (with_reducible repeat (first | apply Kd.R_alloc | apply Kd.R_drewN | apply Kd.R_drew)); exact (Kd.R_mono (Kd.R_far (p := ⟨gb112, 0, none⟩) (Kd.R_types HO111.out BK112.out (by decide)) (fun _ hk => hk.2) (.slice Ao91 t109.length co91)) (fun _ h_ => h_.1)))); (case side2 => exact (Kd.R_reads' HO111.out).2.1); rintro e w95 ⟨rfl, hb⟩; refine ⟨_, rfl, ?_⟩; have n0_ := Aside0.mk (Kd.R_below (by (with_reducible repeat (first | apply Kd.R_alloc | apply Kd.R_drewN | apply Kd.R_drew)); exact (Kd.R_mono (Kd.R_far (p := ⟨gb112, 0, none⟩) (Kd.R_types HO105.out BK112.out (by decide)) (fun _ hk => hk.2) (.slice Ao91 t109.length co91)) (fun _ h_ => h_.1))) hb); have n1_ := Aside0.mk (Kd.R_below (by (with_reducible repeat (first | apply Kd.R_alloc | apply Kd.R_drewN | apply Kd.R_drew)); exact (Kd.R_mono (Kd.R_far (p := ⟨gb112, 0, none⟩) (Kd.R_types HO111.out BK112.out (by decide)) (fun _ hk => hk.2) (.slice Ao91 t109.length co91)) (fun _ h_ => h_.1))) hb); have n2_ := Aside0.mk (blk_below (g := gb101) (o := .cells #[.slice A0_0 l0_0.length c0_0] 54 (0, 0)) (by (with_reducible repeat (first | refine blk_drewN ?_ _ | refine blk_drew ?_ | refine blk_alloc ?_ _)); refine blk_far ?_ NB101_112.out _; (with_reducible repeat (first | refine blk_drewN ?_ _ | refine blk_drew ?_ | refine blk_alloc ?_ _)); exact BK101.out) hb); have n3_ := Aside0.mk (blk_below (g := gb108) (o := .cells #[.int .i64 t106, .string t107] 27 (0, 0)) (by (with_reducible repeat (first | refine blk_drewN ?_ _ | refine blk_drew ?_ | refine blk_alloc ?_ _)); refine blk_far ?_ NB108_112.out _; (with_reducible repeat (first | refine blk_drewN ?_ _ | refine blk_drew ?_ | refine blk_alloc ?_ _)); exact BK108.out) hb); have n4_ := Aside0.mk (blk_below (g := gb112) (o := .cells #[.slice Ao91 t109.length co91] 59 (0, 0)) (by (with_reducible repeat (first | refine blk_drewN ?_ _ | refine blk_drew ?_ | refine blk_alloc ?_ _)); refine blk_put (cs := #[.slice none 0 0]) ?_ 0 _ rfl; (with_reducible repeat (first | refine blk_drewN ?_ _ | refine blk_drew ?_ | refine blk_alloc ?_ _)); exact BK112.out) hb); have n5_ := Aside0.mk (below_step (by repeat (first | (with_reducible first | exact HB.out | apply below_alloc | apply pw_below_drewN | apply below_drew1 | refine below_set ?_ GE101.out | refine below_set ?_ GE108.out | refine below_set ?_ GE112.out) | exact HB.out)) hb); clear HO105; clear HO111; clear BK101; clear BK108; clear BK112; clear HB; have HO105 := n0_; have HO111 := n1_; have BK101 := n2_; have BK108 := n3_; have BK112 := n4_; have HB := n5_; clear n0_ n1_ n2_ n3_ n4_ n5_; (try clear hb); (try clear hb2); (try clear hk); (try clear hi)) | ((with_reducible refine gate_dst (N := 10) rfl ?_); refine box_event ?hg (N := 10) ?hd (cs := #[.int .i64 0, .string (⟨#[]⟩ : ByteArray)]) (t := 27) ?hr ?_; (case hd => rfl); (case hg => rfl); (case hr => first | (go_simp; done) | (go_simp; rfl)); intro gb115 hg w96 hbox hb; have n0_ := Aside0.mk (Kd.R_below (by (with_reducible repeat (first | apply Kd.R_alloc | apply Kd.R_drewN | apply Kd.R_drew)); exact HO105.out) hb); have n1_ := Aside0.mk (Kd.R_below (by (with_reducible repeat (first | apply Kd.R_alloc | apply Kd.R_drewN | apply Kd.R_drew)); exact HO111.out) hb); have n2_ := Aside0.mk (blk_below (g := gb101) (o := .cells #[.slice A0_0 l0_0.length c0_0] 54 (0, 0)) (by (with_reducible repeat (first | refine blk_drewN ?_ _ | refine blk_drew ?_ | refine blk_alloc ?_ _)); exact BK101.out) hb); have n3_ := Aside0.mk (blk_below (g := gb108) (o := .cells #[.int .i64 t106, .string t107] 27 (0, 0)) (by (with_reducible repeat (first | refine blk_drewN ?_ _ | refine blk_drew ?_ | refine blk_alloc ?_ _)); exact BK108.out) hb); have n4_ := Aside0.mk (blk_below (g := gb112) (o := .cells #[.slice Ao91 t109.length co91] 59 (0, 0)) (by (with_reducible repeat (first | refine blk_drewN ?_ _ | refine blk_drew ?_ | refine blk_alloc ?_ _)); exact BK112.out) hb); have n5_ := Aside0.mk (below_step (by repeat (first | (with_reducible first | exact HB.out | apply below_alloc | apply pw_below_drewN | apply below_drew1 | refine below_set ?_ GE101.out | refine below_set ?_ GE108.out | refine below_set ?_ GE112.out) | exact HB.out)) hb); have n6_ := Aside0.mk (hbox); have n7_ := Aside0.mk ((by rw [hg]; exact (below_size (by repeat (first | (with_reducible first | exact HB.out | apply below_alloc | apply pw_below_drewN | apply below_drew1 | refine below_set ?_ GE101.out | refine below_set ?_ GE108.out | refine below_set ?_ GE112.out) | exact HB.out))) : w.heap.size ≤ gb115)); have n8_ := Aside0.mk ((by rw [hg]; exact (below_size (by repeat (first | (with_reducible first | exact HB.out | apply below_alloc | apply pw_below_drewN | apply below_drew1 | refine below_set ?_ GE101.out | refine below_set ?_ GE108.out | refine below_set ?_ GE112.out) | exact HB.out))) : w.heap.size ≤ gb115)); have n9_ := Aside0.mk ((by rw [hg]; exact Nat.ne_of_lt (blk_lt (g := gb101) (o := .cells #[.slice A0_0 l0_0.length c0_0] 54 (0, 0)) (by (with_reducible repeat (first | refine blk_drewN ?_ _ | refine blk_drew ?_ | refine blk_alloc ?_ _)); exact BK101.out)) : gb101 ≠ gb115)); have n10_ := Aside0.mk ((by rw [hg]; exact Nat.ne_of_gt (blk_lt (g := gb101) (o := .cells #[.slice A0_0 l0_0.length c0_0] 54 (0, 0)) (by (with_reducible repeat (first | refine blk_drewN ?_ _ | refine blk_drew ?_ | refine blk_alloc ?_ _)); exact BK101.out)) : gb115 ≠ gb101)); have n11_ := Aside0.mk ((by rw [hg]; exact Nat.ne_of_lt (blk_lt (g := gb108) (o := .cells #[.int .i64 t106, .string t107] 27 (0, 0)) (by (with_reducible repeat (first | refine blk_drewN ?_ _ | refine blk_drew ?_ | refine blk_alloc ?_ _)); exact BK108.out)) : gb108 ≠ gb115)); have n12_ := Aside0.mk ((by rw [hg]; exact Nat.ne_of_gt (blk_lt (g := gb108) (o := .cells #[.int .i64 t106, .string t107] 27 (0, 0)) (by (with_reducible repeat (first | refine blk_drewN ?_ _ | refine blk_drew ?_ | refine blk_alloc ?_ _)); exact BK108.out)) : gb115 ≠ gb108)); have n13_ := Aside0.mk ((by rw [hg]; exact Nat.ne_of_lt (blk_lt (g := gb112) (o := .cells #[.slice Ao91 t109.length co91] 59 (0, 0)) (by (with_reducible repeat (first | refine blk_drewN ?_ _ | refine blk_drew ?_ | refine blk_alloc ?_ _)); exact BK112.out)) : gb112 ≠ gb115)); have n14_ := Aside0.mk ((by rw [hg]; exact Nat.ne_of_gt (blk_lt (g := gb112) (o := .cells #[.slice Ao91 t109.length co91] 59 (0, 0)) (by (with_reducible repeat (first | refine blk_drewN ?_ _ | refine blk_drew ?_ | refine blk_alloc ?_ _)); exact BK112.out)) : gb115 ≠ gb112)); clear HO105; clear HO111; clear BK101; clear BK108; clear BK112; clear HB; have HO105 := n0_; have HO111 := n1_; have BK101 := n2_; have BK108 := n3_; have BK112 := n4_; have HB := n5_; have BK115 := n6_; have GW115 := n7_; have GE115 := n8_; have NB101_115 := n9_; have NB115_101 := n10_; have NB108_115 := n11_; have NB115_108 := n12_; have NB112_115 := n13_; have NB115_112 := n14_; clear n0_ n1_ n2_ n3_ n4_ n5_ n6_ n7_ n8_ n9_ n10_ n11_ n12_ n13_ n14_; clear hb hbox hg; have hnb97 := NB115_101.out; have hnc97 := NB101_115.out; have hnb98 := NB115_108.out; have hnc98 := NB108_115.out; have hnb99 := NB115_112.out; have hnc99 := NB112_115.out; have hcz100_0 : w96.cell? ⟨gb115, 0, none⟩ = some (.int .i64 0) := (blk_cell BK115.out 0).trans rfl; have hcz100_1 : w96.cell? ⟨gb115, 1, none⟩ = some (.string (⟨#[]⟩ : ByteArray)) := (blk_cell BK115.out 1).trans rfl; have hfz100_0 := blk_frozen BK115.out 0; have hfz100_1 := blk_frozen BK115.out 1; have hcz101_0 : w96.cell? ⟨gb108, 0, none⟩ = some (.int .i64 t106) := (blk_cell BK108.out 0).trans rfl; have hcz101_1 : w96.cell? ⟨gb108, 1, none⟩ = some (.string t107) := (blk_cell BK108.out 1).trans rfl; have hfz101_0 := blk_frozen BK108.out 0; have hfz101_1 := blk_frozen BK108.out 1) | ((with_reducible refine gate_callee (f := 42) rfl ?_); refine goesL_ (some 32) rfl rfl Try.func42 (by kernel_rfl) rfl #[.agg #[.int .i64 t113, .string t114], .agg #[.int .i64 t106, .string t107]] rfl (by (try simp only [List.map_toArray, List.map_cons, List.map_nil]); first | done | rfl | (simp only [List.length_drop, List.length_take]; rfl)) ?_; (with_reducible refine (laws_eqMillReply.calls t113 t114 t106 t107 false _ A15.out).mono ?_); rintro e w102 ⟨rfl, hb⟩; refine ⟨_, rfl, ?_⟩; have n0_ := Aside0.mk (Kd.R_below (by (with_reducible repeat (first | apply Kd.R_alloc | apply Kd.R_drewN | apply Kd.R_drew)); exact (Kd.R_mono (Kd.R_far (p := ⟨gb115, 1, none⟩) (Kd.R_far (p := ⟨gb115, 0, none⟩) (Kd.R_types HO105.out BK115.out (by decide)) (fun _ hk => hk.2) (.int .i64 t113)) (fun _ hk => hk.2) (.string t114)) (fun _ h_ => h_.1))) hb); have n1_ := Aside0.mk (Kd.R_below (by (with_reducible repeat (first | apply Kd.R_alloc | apply Kd.R_drewN | apply Kd.R_drew)); exact (Kd.R_mono (Kd.R_far (p := ⟨gb115, 1, none⟩) (Kd.R_far (p := ⟨gb115, 0, none⟩) (Kd.R_types HO111.out BK115.out (by decide)) (fun _ hk => hk.2) (.int .i64 t113)) (fun _ hk => hk.2) (.string t114)) (fun _ h_ => h_.1))) hb); have n2_ := Aside0.mk (blk_below (g := gb101) (o := .cells #[.slice A0_0 l0_0.length c0_0] 54 (0, 0)) (by (with_reducible repeat (first | refine blk_drewN ?_ _ | refine blk_drew ?_ | refine blk_alloc ?_ _)); refine blk_far ?_ NB101_115.out _; (with_reducible repeat (first | refine blk_drewN ?_ _ | refine blk_drew ?_ | refine blk_alloc ?_ _)); refine blk_far ?_ NB101_115.out _; (with_reducible repeat (first | refine blk_drewN ?_ _ | refine blk_drew ?_ | refine blk_alloc ?_ _)); exact BK101.out) hb); have n3_ := Aside0.mk (blk_below (g := gb108) (o := .cells #[.int .i64 t106, .string t107] 27 (0, 0)) (by (with_reducible repeat (first | refine blk_drewN ?_ _ | refine blk_drew ?_ | refine blk_alloc ?_ _)); refine blk_far ?_ NB108_115.out _; (with_reducible repeat (first | refine blk_drewN ?_ _ | refine blk_drew ?_ | refine blk_alloc ?_ _)); refine blk_far ?_ NB108_115.out _; (with_reducible repeat (first | refine blk_drewN ?_ _ | refine blk_drew ?_ | refine blk_alloc ?_ _)); exact BK108.out) hb); have n4_ := Aside0.mk (blk_below (g := gb112) (o := .cells #[.slice Ao91 t109.length co91] 59 (0, 0)) (by (with_reducible repeat (first | refine blk_drewN ?_ _ | refine blk_drew ?_ | refine blk_alloc ?_ _)); refine blk_far ?_ NB112_115.out _; (with_reducible repeat (first | refine blk_drewN ?_ _ | refine blk_drew ?_ | refine blk_alloc ?_ _)); refine blk_far ?_ NB112_115.out _; (with_reducible repeat (first | refine blk_drewN ?_ _ | refine blk_drew ?_ | refine blk_alloc ?_ _)); exact BK112.out) hb); have n5_ := Aside0.mk (blk_below (g := gb115) (o := .cells #[.int .i64 t113, .string t114] 27 (0, 0)) (by (with_reducible repeat (first | refine blk_drewN ?_ _ | refine blk_drew ?_ | refine blk_alloc ?_ _)); refine blk_put (cs := #[.int .i64 t113, .string (⟨#[]⟩ : ByteArray)]) ?_ 1 _ rfl; (with_reducible repeat (first | refine blk_drewN ?_ _ | refine blk_drew ?_ | refine blk_alloc ?_ _)); refine blk_put (cs := #[.int .i64 0, .string (⟨#[]⟩ : ByteArray)]) ?_ 0 _ rfl; (with_reducible repeat (first | refine blk_drewN ?_ _ | refine blk_drew ?_ | refine blk_alloc ?_ _)); exact BK115.out) hb); have n6_ := Aside0.mk (below_step (by repeat (first | (with_reducible first | exact HB.out | apply below_alloc | apply pw_below_drewN | apply below_drew1 | refine below_set ?_ GE101.out | refine below_set ?_ GE108.out | refine below_set ?_ GE112.out | refine below_set ?_ GE115.out) | exact HB.out)) hb); clear HO105; clear HO111; clear BK101; clear BK108; clear BK112; clear BK115; clear HB; have HO105 := n0_; have HO111 := n1_; have BK101 := n2_; have BK108 := n3_; have BK112 := n4_; have BK115 := n5_; have HB := n6_; clear n0_ n1_ n2_ n3_ n4_ n5_ n6_; (try clear hb); (try clear hb2); (try clear hk); (try clear hi)))
        go_ret
        exact ⟨by first | rfl | (simp [errW_none, errW_some] <;> rfl) | (simp [*, errW_none, errW_some] <;> rfl), by repeat (first | (with_reducible first | exact HB.out | apply below_alloc | apply pw_below_drewN | apply below_drew1 | refine below_set ?_ GE101.out | refine below_set ?_ GE108.out | refine below_set ?_ GE112.out | refine below_set ?_ GE115.out) | exact HB.out)⟩

end Go.Proofs.Ytdpdpigaegabbaa.Q

/- Names of files: program and reference agree on them. -/
namespace Go.Proofs.Ytdpdpigaegabbaa.Q
open Go.RowKit Go.Proofs.YtdpdpigaegabbaaW.PrintWords Go.Proofs.YtdpdpigaegabbaaW.PrintLast Go.Proofs.YtdpdpigaegabbaaW.PrintMore Go.Proofs.Ytdpdpigaegabbaa.EvMore
set_option linter.unusedVariables false
set_option linter.unusedSimpArgs false
theorem path_loops (s : ByteArray) (hs : s.size ≤ 140737488351232) : ∀ d i : Nat, i + d = s.size →
    ∃ b : Bool, Ev (fun k => spec_l15PrefixOk.l0 k s (i : Int)) b ∧ Ev (fun k => impl_listName.l0 k s (i : Int)) (b && decide ((s.size : Int) ≤ 60))
  | 0, i, h => by
    refine ⟨true, ev_step ?_, ev_step ?_⟩
    · exact ev_neg (by omega) (ev_now _)
    · exact ev_neg (by omega) (ev_eq (ev_now _) (by simp))
  | d + 1, i, h => by
    obtain ⟨b, h1, h2⟩ := path_loops s hs d (i + 1) (by omega)
    have e := succ64 (i := i) (n := s.size) (by omega) (by omega)
    by_cases c1 : bt s (i : Int) < 33
    · exact ⟨false, ev_step (ev_pos (by omega) (ev_pos (by omega) (ev_pos c1 (ev_now _)))), ev_step (ev_pos (by omega) (ev_pos (by omega) (ev_pos c1 (ev_now _))))⟩
    · by_cases c2 : bt s (i : Int) > 126
      · exact ⟨false, ev_step (ev_pos (by omega) (ev_pos (by omega) (ev_neg c1 (ev_pos c2 (ev_now _))))), ev_step (ev_pos (by omega) (ev_pos (by omega) (ev_neg c1 (ev_pos c2 (ev_now _)))))⟩
      · refine ⟨b, ev_step (ev_pos (by omega) (ev_pos (by omega) (ev_neg c1 (ev_neg c2 ?_)))), ev_step (ev_pos (by omega) (ev_pos (by omega) (ev_neg c1 (ev_neg c2 ?_))))⟩
        · simp only [e]; exact h1
        · simp only [e]; exact h2
/-- What is a file's name: program and reference agree. -/
theorem path_ev (s : ByteArray) (hs : s.size ≤ 140737488351232) : ∃ b : Bool, Ev (fun k => spec_l15PathOk.f k s) b ∧ Ev (fun k => impl_fileName.f k s) b := by
  obtain ⟨b, h1, h2⟩ := path_loops s hs s.size 0 (by omega)
  by_cases c : (s.size : Int) ≥ 1
  · refine ⟨b && decide ((s.size : Int) ≤ 60), ev_pos c (ev_bind (a := b && decide ((s.size : Int) ≤ 60)) ?_ (ev_now _)), ev_pos c (ev_bind h2 (ev_now _))⟩
    by_cases c2 : (s.size : Int) > 60
    · exact ev_pos c2 (ev_eq (ev_now _) (by simp; omega))
    · exact ev_neg c2 (ev_eq h1 (by simp; omega))
  · exact ⟨false, ev_neg c (ev_now _), ev_neg c (ev_now _)⟩
end Go.Proofs.Ytdpdpigaegabbaa.Q

/- Names of files, files in order, files copied and compared: that program and reference agree on them, and that the laws' own copies are exact. The lists are shorter than 2^62. -/
namespace Go.Proofs.Ytdpdpigaegabbaa.Q
open Go.RowKit Go.Proofs.YtdpdpigaegabbaaW.PrintWords Go.Proofs.YtdpdpigaegabbaaW.PrintLast Go.Proofs.YtdpdpigaegabbaaW.PrintMore Go.Proofs.Ytdpdpigaegabbaa.EvMore
set_option linter.unusedVariables false
set_option linter.unusedSimpArgs false
theorem files_loops (l : List S102) (hl : l.length ≤ 4398046511104) (hs : ∀ x ∈ l, x.f0.size ≤ 140737488351232) (a1 : Int) : ∀ d i : Nat, i + d = l.length →
    ∃ b : Bool, Ev (fun k => spec_l18FilesOk.l0 k l (i : Int)) b ∧ Ev (fun k => impl_filesOK.l0 k l a1 l (l.length : Int) (i : Int)) (b && decide ((l.length : Int) ≤ a1))
  | 0, i, h => by
    refine ⟨true, ev_step ?_, ev_step ?_⟩
    · exact ev_neg (by omega) (ev_now _)
    · exact ev_neg (by omega) (ev_eq (ev_now _) (by simp))
  | d + 1, i, h => by
    obtain ⟨b, h1, h2⟩ := files_loops l hl hs a1 d (i + 1) (by omega)
    have e := succ64 (i := i) (n := l.length) (by omega) (by omega)
    have hm : rd_T102 l (i : Int) ∈ l := by unfold rd_T102; rw [Int.toNat_natCast, List.getD_eq_getElem?_getD, List.getElem?_eq_getElem (by omega)]; exact List.getElem_mem _
    obtain ⟨p, p1, p2⟩ := path_ev _ (hs _ hm)
    have lt : (i : Int) < (l.length : Int) := by omega
    have ge : (0 : Int) ≤ (i : Int) := by omega
    cases p with
    | false =>
      exact ⟨false, ev_step (ev_pos lt (ev_pos ge (ev_bind p1 (ev_neg (by simp) (ev_now _))))), ev_step (ev_pos lt (ev_pos ge (ev_pos lt (ev_bind p2 (ev_neg (by simp) (ev_now _))))))⟩
    | true =>
      by_cases c1 : ((rd_T102 l (i : Int)).f1.size : Int) > 3000
      · refine ⟨false, ev_step (ev_pos lt (ev_pos ge (ev_bind p1 (ev_pos rfl (ev_pos c1 (ev_now _)))))), ev_step (ev_pos lt (ev_pos ge (ev_pos lt (ev_bind p2 (ev_pos rfl (ev_val (a := false) ?_ (ev_neg (by simp) (ev_now _))))))))⟩
        simp [impl_short.f]; omega
      · have hsh : impl_short.f (rd_T102 l (i : Int)).f1 = some true := by simp [impl_short.f]; omega
        by_cases c2 : (i : Int) > 0
        · have ep := pred64 (i := i) (by omega) (by omega)
          by_cases c3 : Op.bytesLess (rd_T102 l (wrap64 ((i : Int) - 1))).f0.toList (rd_T102 l (i : Int)).f0.toList = true
          · refine ⟨b, ev_step (ev_pos lt (ev_pos ge (ev_bind p1 (ev_pos rfl (ev_neg c1 (ev_pos c2 (ev_pos (by rw [ep]; omega) (ev_pos (by rw [ep]; omega) (ev_pos c3 ?_))))))))), ev_step (ev_pos lt (ev_pos ge (ev_pos lt (ev_bind p2 (ev_pos rfl (ev_val hsh (ev_pos rfl (ev_pos c2 (ev_pos (by rw [ep]; omega) (ev_pos (by rw [ep]; omega) (ev_pos c3 ?_)))))))))))⟩
            · simp only [e]; exact h1
            · simp only [e]; exact h2
          · exact ⟨false, ev_step (ev_pos lt (ev_pos ge (ev_bind p1 (ev_pos rfl (ev_neg c1 (ev_pos c2 (ev_pos (by rw [ep]; omega) (ev_pos (by rw [ep]; omega) (ev_neg c3 (ev_now _)))))))))), ev_step (ev_pos lt (ev_pos ge (ev_pos lt (ev_bind p2 (ev_pos rfl (ev_val hsh (ev_pos rfl (ev_pos c2 (ev_pos (by rw [ep]; omega) (ev_pos (by rw [ep]; omega) (ev_neg c3 (ev_now _))))))))))))⟩
        · refine ⟨b, ev_step (ev_pos lt (ev_pos ge (ev_bind p1 (ev_pos rfl (ev_neg c1 (ev_neg c2 ?_)))))), ev_step (ev_pos lt (ev_pos ge (ev_pos lt (ev_bind p2 (ev_pos rfl (ev_val hsh (ev_pos rfl (ev_neg c2 ?_))))))))⟩
          · simp only [e]; exact h1
          · simp only [e]; exact h2
theorem files_ev (l : List S102) (hl : l.length ≤ 4398046511104) (hs : ∀ x ∈ l, x.f0.size ≤ 140737488351232) (a1 : Int) :
    ∃ b : Bool, Ev (fun k => spec_l18FilesOk.f k l a1) b ∧ Ev (fun k => impl_filesOK.f k l a1) b := by
  obtain ⟨b, h1, h2⟩ := files_loops l hl hs a1 l.length 0 (by omega)
  refine ⟨b && decide ((l.length : Int) ≤ a1), ?_, h2⟩
  by_cases c : (l.length : Int) > a1
  · exact ev_pos c (ev_eq (ev_now _) (by simp; omega))
  · exact ev_neg c (ev_eq h1 (by simp; omega))
theorem place_ev (l : List S102) (hl : l.length ≤ 4398046511104) (hs : ∀ x ∈ l, x.f0.size ≤ 140737488351232) :
    ∃ b : Bool, Ev (fun k => spec_MillValidPlace.f k l) b ∧ Ev (fun k => impl_MillValidPlace.f k l) b := by
  obtain ⟨b, h1, h2⟩ := files_ev l hl hs 40
  exact ⟨b, ev_bind h1 (ev_now _), ev_bind h2 (ev_now _)⟩
/-- The law's own measure ends. -/
theorem szFiles_loop (l : List S130) (hl : l.length ≤ 4398046511104) : ∀ d i : Nat, i + d = l.length → ∀ left : Int, ∃ v, Ev (fun k => laws_szMillFileS.l0 k l left (i : Int)) v
  | 0, i, h, left => ⟨left, ev_step (ev_neg (by omega) (ev_now _))⟩
  | d + 1, i, h, left => by
    have e := succ64 (i := i) (n := l.length) (by omega) (by omega)
    obtain ⟨a, ha⟩ : ∃ a, laws_szMillFile.f (rd_T130 l (i : Int)).f0 (rd_T130 l (i : Int)).f1 left = some a := by
      unfold laws_szMillFile.f; split
      · exact ⟨_, rfl⟩
      · split <;> exact ⟨_, rfl⟩
    by_cases c : a < 0
    · exact ⟨-1, ev_step (ev_pos (by omega) (ev_pos (by omega) (ev_val ha (ev_pos c (ev_now _)))))⟩
    · obtain ⟨v, hv⟩ := szFiles_loop l hl d (i + 1) (by omega) a
      refine ⟨v, ev_step (ev_pos (by omega) (ev_pos (by omega) (ev_val ha (ev_neg c ?_))))⟩
      simp only [e]; exact hv
theorem szFiles_ev (l : List S130) (hl : l.length ≤ 4398046511104) (left : Int) : ∃ v, Ev (fun k => laws_szMillFileS.f k l left) v := by
  by_cases c : wrap64 (left - (l.length : Int)) < 0
  · exact ⟨_, ev_pos c (ev_now _)⟩
  · obtain ⟨v, hv⟩ := szFiles_loop l hl l.length 0 (by omega) (wrap64 (left - (l.length : Int)))
    exact ⟨v, ev_neg c hv⟩
theorem szPlace_ev (l : List S130) (hl : l.length ≤ 4398046511104) (left : Int) : ∃ v, Ev (fun k => laws_szMillPlace.f k l left) v := by
  obtain ⟨v, hv⟩ := szFiles_ev l hl left
  by_cases c : v < 0
  · exact ⟨_, ev_bind hv (ev_pos c (ev_now _))⟩
  · exact ⟨_, ev_bind hv (ev_neg c (ev_now _))⟩
/-- The law's own copy. -/
def toFile (x : S130) : S102 := ⟨x.f0, x.f1⟩
theorem toFiles_loop (l : List S130) (hl : l.length ≤ 4398046511104) : ∀ d i : Nat, i + d = l.length →
    Ev (fun k => laws_toMillFileS.l0 k l ((l.take i).map toFile ++ List.replicate (l.length - i) z102) (i : Int)) (l.map toFile)
  | 0, i, h => by
    refine ev_step (ev_neg (by omega) (ev_eq (ev_now _) ?_))
    have : i = l.length := by omega
    subst this; simp
  | d + 1, i, h => by
    have e := succ64 (i := i) (n := l.length) (by omega) (by omega)
    have hi : i < l.length := by omega
    have hr : rd_T130 l (i : Int) = l[i] := by unfold rd_T130; rw [Int.toNat_natCast, List.getD_eq_getElem?_getD, List.getElem?_eq_getElem hi]; rfl
    refine ev_step (ev_pos (by omega) (ev_pos (by omega) (ev_val rfl (ev_pos (by simp; omega) ?_))))
    have ih := toFiles_loop l hl d (i + 1) (by omega)
    rw [← set_map toFile l _ i hi] at ih
    simp only [e, hr, Int.toNat_natCast]; exact ih
theorem toFiles_ev (l : List S130) (hl : l.length ≤ 4398046511104) : Ev (fun k => laws_toMillFileS.f k l) (l.map toFile) := by
  refine ev_pos (by omega) (ev_pos (by omega) ?_)
  have h := toFiles_loop l hl l.length 0 (by omega)
  simpa using h
theorem toPlace_ev (l : List S130) (hl : l.length ≤ 4398046511104) : Ev (fun k => laws_toMillPlace.f k l) (l.map toFile) := ev_bind (toFiles_ev l hl) (ev_now _)
/-- The law's own comparison of a list with itself. -/
theorem eqFiles_loop (l : List S102) (hl : l.length ≤ 4398046511104) : ∀ d i : Nat, i + d = l.length → Ev (fun k => laws_eqMillFileS.l0 k l l (i : Int)) true
  | 0, i, h => ev_step (ev_neg (by omega) (ev_now _))
  | d + 1, i, h => by
    have e := succ64 (i := i) (n := l.length) (by omega) (by omega)
    refine ev_step (ev_pos (by omega) (ev_pos (by omega) (ev_pos (by omega) (ev_val (a := true) (by simp [laws_eqMillFile.f]) (ev_pos rfl ?_)))))
    simp only [e]; exact eqFiles_loop l hl d (i + 1) (by omega)
theorem eqPlace_ev (l : List S102) (hl : l.length ≤ 4398046511104) : Ev (fun k => laws_eqMillPlace.f k l l) true :=
  ev_bind (ev_pos rfl (eqFiles_loop l hl l.length 0 (by omega))) (ev_pos rfl (ev_now _))
end Go.Proofs.Ytdpdpigaegabbaa.Q

/- What is seen at a valid place: the program's binary search finds what the reference's search finds; the lists of names are the same. -/
namespace Go.Proofs.Ytdpdpigaegabbaa.Q
open Go.RowKit Go.Proofs.YtdpdpigaegabbaaW.PrintWords Go.Proofs.YtdpdpigaegabbaaW.PrintLast Go.Proofs.YtdpdpigaegabbaaW.PrintMore Go.Proofs.Ytdpdpigaegabbaa.EvMore Go.Proofs.Ytdpdpigaegabbaa.Mine Go.Proofs.Ytdpdpigaegabbaa.Ord
set_option linter.unusedVariables false
set_option linter.unusedSimpArgs false
theorem toList_data (s : ByteArray) : s.toList = s.data.toList := by
  obtain ⟨⟨l⟩⟩ := s
  simp
theorem bytes_inj {a b : ByteArray} (h : a.toList = b.toList) : a = b := by
  rw [toList_data, toList_data] at h
  obtain ⟨⟨l⟩⟩ := a
  obtain ⟨⟨m⟩⟩ := b
  simpa using h
theorem cmpB_neg (a b : ByteArray) : cmpB a b < 0 ↔ Op.bytesLess a.toList b.toList = true := by
  unfold cmpB; rw [cmp_neg, toList_data, toList_data]
theorem cmpB_zero (a b : ByteArray) : cmpB a b = 0 ↔ a.toList = b.toList := by
  unfold cmpB; rw [cmp_zero, toList_data, toList_data]
theorem path_small (s : ByteArray) (h : Ev (fun k => spec_l15PathOk.f k s) true) : s.size ≤ 60 := by
  rcases Nat.lt_or_ge 60 s.size with h2 | h2
  · have : Ev (fun k => spec_l15PathOk.f k s) false := ev_pos (by omega) (ev_bind (ev_pos (by omega) (ev_now _)) (ev_now _))
    exact absurd (ev_uniq h this) (by simp)
  · exact h2
theorem path_some (s : ByteArray) (h : Ev (fun k => spec_l15PathOk.f k s) true) : 1 ≤ s.size := by
  rcases Nat.lt_or_ge s.size 1 with h2 | h2
  · have : Ev (fun k => spec_l15PathOk.f k s) false := ev_neg (by omega) (ev_now _)
    exact absurd (ev_uniq h this) (by simp)
  · exact h2
/-- A place's files in order: each name short, each before the next. -/
def Ordered (l : List S102) : Prop := ∀ j : Nat, j < l.length → ((rd_T102 l (j : Int)).f0.size ≤ 60 ∧ 1 ≤ (rd_T102 l (j : Int)).f0.size ∧ (rd_T102 l (j : Int)).f1.size ≤ 3000) ∧ (0 < j → Op.bytesLess (rd_T102 l ((j - 1 : Nat) : Int)).f0.toList (rd_T102 l (j : Int)).f0.toList = true)
theorem files_true (l : List S102) (hl : l.length ≤ 4398046511104) (hs : ∀ x ∈ l, x.f0.size ≤ 140737488351232) : ∀ d i : Nat, i + d = l.length → Ev (fun k => spec_l18FilesOk.l0 k l (i : Int)) true →
    ∀ j, i ≤ j → j < l.length → ((rd_T102 l (j : Int)).f0.size ≤ 60 ∧ 1 ≤ (rd_T102 l (j : Int)).f0.size ∧ (rd_T102 l (j : Int)).f1.size ≤ 3000) ∧ (0 < j → Op.bytesLess (rd_T102 l ((j - 1 : Nat) : Int)).f0.toList (rd_T102 l (j : Int)).f0.toList = true)
  | 0, i, h, _, j, h1, h2 => by omega
  | d + 1, i, h, hE, j, h1, h2 => by
    have e := succ64 (i := i) (n := l.length) (by omega) (by omega)
    have hm : rd_T102 l (i : Int) ∈ l := by unfold rd_T102; rw [Int.toNat_natCast, List.getD_eq_getElem?_getD, List.getElem?_eq_getElem (by omega)]; exact List.getElem_mem _
    obtain ⟨p, p1, p2⟩ := path_ev _ (hs _ hm)
    have lt : (i : Int) < (l.length : Int) := by omega
    have ge : (0 : Int) ≤ (i : Int) := by omega
    obtain ⟨b, hb, _⟩ := files_loops l hl hs 0 d (i + 1) (by omega)
    have no : ¬ Ev (fun k => spec_l18FilesOk.l0 k l (i : Int)) false := fun hF => absurd (ev_uniq hE hF) (by simp)
    cases p with
    | false => exact absurd (ev_step (ev_pos lt (ev_pos ge (ev_bind p1 (ev_neg (by simp) (ev_now _)))))) no
    | true =>
      by_cases c1 : ((rd_T102 l (i : Int)).f1.size : Int) > 3000
      · exact absurd (ev_step (ev_pos lt (ev_pos ge (ev_bind p1 (ev_pos rfl (ev_pos c1 (ev_now _))))))) no
      · have good : (rd_T102 l (i : Int)).f0.size ≤ 60 ∧ 1 ≤ (rd_T102 l (i : Int)).f0.size ∧ (rd_T102 l (i : Int)).f1.size ≤ 3000 := ⟨path_small _ p1, path_some _ p1, by omega⟩
        by_cases c2 : (i : Int) > 0
        · have ep := pred64 (i := i) (by omega) (by omega)
          by_cases c3 : Op.bytesLess (rd_T102 l (wrap64 ((i : Int) - 1))).f0.toList (rd_T102 l (i : Int)).f0.toList = true
          · have go : Ev (fun k => spec_l18FilesOk.l0 k l (i : Int)) b := ev_step (ev_pos lt (ev_pos ge (ev_bind p1 (ev_pos rfl (ev_neg c1 (ev_pos c2 (ev_pos (by rw [ep]; omega) (ev_pos (by rw [ep]; omega) (ev_pos c3 (by simp only [e]; exact hb))))))))))
            have hbt : b = true := ev_uniq go hE
            subst hbt
            rcases Nat.eq_or_lt_of_le h1 with h3 | h3
            · subst h3
              exact ⟨good, fun _ => by rw [ep] at c3; exact c3⟩
            · exact files_true l hl hs d (i + 1) (by omega) hb j h3 h2
          · exact absurd (ev_step (ev_pos lt (ev_pos ge (ev_bind p1 (ev_pos rfl (ev_neg c1 (ev_pos c2 (ev_pos (by rw [ep]; omega) (ev_pos (by rw [ep]; omega) (ev_neg c3 (ev_now _))))))))))) no
        · have go : Ev (fun k => spec_l18FilesOk.l0 k l (i : Int)) b := ev_step (ev_pos lt (ev_pos ge (ev_bind p1 (ev_pos rfl (ev_neg c1 (ev_neg c2 (by simp only [e]; exact hb)))))))
          have hbt : b = true := ev_uniq go hE
          subst hbt
          rcases Nat.eq_or_lt_of_le h1 with h3 | h3
          · subst h3
            exact ⟨good, fun h4 => by omega⟩
          · exact files_true l hl hs d (i + 1) (by omega) hb j h3 h2
theorem place_true (l : List S102) (hl : l.length ≤ 4398046511104) (hs : ∀ x ∈ l, x.f0.size ≤ 140737488351232) (h : Ev (fun k => spec_MillValidPlace.f k l) true) : l.length ≤ 40 ∧ Ordered l := by
  obtain ⟨b, h1, _⟩ := files_loops l hl hs 40 l.length 0 (by omega)
  by_cases c : (l.length : Int) > 40
  · have : Ev (fun k => spec_MillValidPlace.f k l) false := ev_bind (ev_pos c (ev_now _)) (ev_now _)
    exact absurd (ev_uniq h this) (by simp)
  · have : Ev (fun k => spec_MillValidPlace.f k l) b := ev_bind (ev_neg c h1) (ev_now _)
    have hb := ev_uniq this h
    subst hb
    exact ⟨by omega, fun j hj => files_true l hl hs l.length 0 (by omega) h1 j (by omega) hj⟩
theorem ordered_lt (l : List S102) (h : Ordered l) (i : Nat) : ∀ d, i + (d + 1) < l.length → Op.bytesLess (rd_T102 l (i : Int)).f0.toList (rd_T102 l ((i + (d + 1) : Nat) : Int)).f0.toList = true
  | 0, hd => by have := (h (i + 1) hd).2 (by omega); simpa using this
  | d + 1, hd => by
    have h1 := ordered_lt l h i d (by omega)
    have h2 := (h (i + (d + 1 + 1)) hd).2 (by omega)
    rw [show i + (d + 1 + 1) - 1 = i + (d + 1) from by omega] at h2
    exact less_trans _ _ _ h1 h2
theorem ordered_less (l : List S102) (h : Ordered l) {i j : Nat} (hij : i < j) (hj : j < l.length) : Op.bytesLess (rd_T102 l (i : Int)).f0.toList (rd_T102 l (j : Int)).f0.toList = true := by
  have := ordered_lt l h i (j - i - 1) (by omega)
  rwa [show i + (j - i - 1 + 1) = j from by omega] at this
theorem less_asymm {a b : List UInt8} (h : Op.bytesLess a b = true) : ¬ Op.bytesLess b a = true := fun k => by
  have := less_trans _ _ _ h k
  rw [less_irrefl] at this
  cases this
/-- Where the binary search ends: below it all names come before, from it on none does. -/
theorem bs_spec (l : List S102) (h : Ordered l) (t : ByteArray) : ∀ f i j : Nat, j - i ≤ f → i ≤ j → j ≤ l.length →
    (∀ m, m < i → cmpB (rd_T102 l (m : Int)).f0 t < 0) → (∀ m, j ≤ m → m < l.length → ¬ cmpB (rd_T102 l (m : Int)).f0 t < 0) →
    (∀ m, m < bsAt l t f i j → cmpB (rd_T102 l (m : Int)).f0 t < 0) ∧ (∀ m, bsAt l t f i j ≤ m → m < l.length → ¬ cmpB (rd_T102 l (m : Int)).f0 t < 0)
  | 0, i, j, hf, hij, hj, lo, hi => by
    have : j = i := by omega
    subst this
    exact ⟨lo, hi⟩
  | f + 1, i, j, hf, hij, hj, lo, hi => by
    rw [bsAt]
    by_cases c : i < j
    · rw [if_pos c]
      have hm : (i + j) / 2 < l.length := by omega
      by_cases d : cmpB (rd_T102 l (((i + j) / 2 : Nat) : Int)).f0 t < 0
      · rw [if_pos d]
        refine bs_spec l h t f ((i + j) / 2 + 1) j (by omega) (by omega) hj (fun m hm2 => ?_) hi
        rcases Nat.eq_or_lt_of_le (Nat.le_of_lt_succ hm2) with e | e
        · subst e; exact d
        · rw [cmpB_neg] at d ⊢
          exact less_trans _ _ _ (ordered_less l h e hm) d
      · rw [if_neg d]
        refine bs_spec l h t f i ((i + j) / 2) (by omega) (by omega) (by omega) lo (fun m hm2 hm3 hneg => d ?_)
        rcases Nat.eq_or_lt_of_le hm2 with e | e
        · subst e; exact hneg
        · rw [cmpB_neg] at hneg ⊢
          exact less_trans _ _ _ (ordered_less l h e hm3) hneg
    · rw [if_neg c]
      have : j = i := by omega
      subst this
      exact ⟨lo, hi⟩
theorem at_loop (l : List S102) (hl : l.length ≤ 4398046511104) (t : ByteArray) (r : Int) : ∀ d i : Nat, i + d = l.length →
    ((∀ m : Nat, i ≤ m → m < l.length → ¬ (rd_T102 l (m : Int)).f0.toList = t.toList) ∧ r = -1 ∨ ∃ m : Nat, i ≤ m ∧ m < l.length ∧ r = m ∧ (rd_T102 l (m : Int)).f0.toList = t.toList ∧ ∀ q : Nat, i ≤ q → q < m → ¬ (rd_T102 l (q : Int)).f0.toList = t.toList) →
    Ev (fun k => spec_l19At.l0 k l t (i : Int)) r
  | 0, i, h, hr => by
    rcases hr with ⟨_, rfl⟩ | ⟨m, h1, h2, _⟩
    · exact ev_step (ev_neg (by omega) (ev_now _))
    · omega
  | d + 1, i, h, hr => by
    have e := succ64 (i := i) (n := l.length) (by omega) (by omega)
    by_cases c : (rd_T102 l (i : Int)).f0.toList = t.toList
    · refine ev_step (ev_pos (by omega) (ev_pos (by omega) (ev_pos c (ev_eq (ev_now _) ?_))))
      rcases hr with ⟨h1, _⟩ | ⟨m, h1, h2, rfl, h4, h5⟩
      · exact absurd c (h1 i (Nat.le_refl _) (by omega))
      · rcases Nat.eq_or_lt_of_le h1 with e2 | e2
        · rw [e2]
        · exact absurd c (h5 i (Nat.le_refl _) e2)
    · refine ev_step (ev_pos (by omega) (ev_pos (by omega) (ev_neg c ?_)))
      simp only [e]
      refine at_loop l hl t r d (i + 1) (by omega) ?_
      rcases hr with ⟨h1, h2⟩ | ⟨m, h1, h2, h3, h4, h5⟩
      · exact .inl ⟨fun m hm => h1 m (by omega), h2⟩
      · refine .inr ⟨m, ?_, h2, h3, h4, fun q hq => h5 q (by omega)⟩
        rcases Nat.eq_or_lt_of_le h1 with e2 | e2
        · subst e2; exact absurd h4 c
        · exact e2
/-- The two searches. -/
theorem at_ev (l : List S102) (hl : l.length ≤ 4398046511104) (h : Ordered l) (t : ByteArray) :
    (bsHit l t = true ∧ bsIdx l t < l.length ∧ Ev (fun k => spec_l19At.f k l t) (bsIdx l t : Int)) ∨ (bsHit l t = false ∧ Ev (fun k => spec_l19At.f k l t) (-1)) := by
  obtain ⟨lo, hi⟩ := bs_spec l h t l.length 0 l.length (by omega) (by omega) (Nat.le_refl _) (fun m hm => by omega) (fun m h1 h2 => by omega)
  have lo' : ∀ m, m < bsIdx l t → cmpB (rd_T102 l (m : Int)).f0 t < 0 := lo
  have hi' : ∀ m, bsIdx l t ≤ m → m < l.length → ¬ cmpB (rd_T102 l (m : Int)).f0 t < 0 := hi
  have below : ∀ q : Nat, q < bsIdx l t → ¬ (rd_T102 l (q : Int)).f0.toList = t.toList := fun q hq e => by
    have h1 := lo' q hq
    rw [(cmpB_zero _ _).2 e] at h1
    exact absurd h1 (by omega)
  cases hb : bsHit l t with
  | true =>
    unfold bsHit at hb
    simp only [Bool.and_eq_true, decide_eq_true_eq] at hb
    exact .inl ⟨rfl, hb.1, at_loop l hl t _ l.length 0 (by omega) (.inr ⟨bsIdx l t, by omega, hb.1, rfl, (cmpB_zero _ _).1 hb.2, fun q _ hq => below q hq⟩)⟩
  | false =>
    unfold bsHit at hb
    refine .inr ⟨rfl, at_loop l hl t _ l.length 0 (by omega) (.inl ⟨fun m _ hm e => ?_, rfl⟩)⟩
    rcases Nat.lt_or_ge m (bsIdx l t) with h1 | h1
    · exact below m h1 e
    · have h2 : bsIdx l t < l.length := by omega
      have h3 : ¬ cmpB (rd_T102 l (bsIdx l t : Int)).f0 t = 0 := fun h4 => by simp [h2, h4] at hb
      rcases Nat.eq_or_lt_of_le h1 with e2 | e2
      · rw [e2] at h3; exact h3 ((cmpB_zero _ _).2 e)
      · have h5 := ordered_less l h e2 hm
        rw [e] at h5
        exact hi' _ (Nat.le_refl _) h2 ((cmpB_neg _ _).2 h5)
theorem prefix_some (a b : ByteArray) : strings_HasPrefix.f a b = some (if (a.size : Int) ≥ (b.size : Int) then (a.extract 0 b.size).toList == b.toList else false) := by
  unfold strings_HasPrefix.f stringslite_HasPrefix.f
  by_cases c : (a.size : Int) ≥ (b.size : Int)
  · simp [c] <;> omega
  · simp [c]
theorem list_loop (l : List S102) (hl : l.length ≤ 40) (h : Ordered l) (t : ByteArray) : ∀ d i : Nat, i + d = l.length → ∀ s : ByteArray, s.size ≤ i * 61 →
    ∃ r : ByteArray, Ev (fun k => spec_MillSee.l0 k t s (i : Int) l) (0, r) ∧ Ev (fun k => impl_see.l0 k t s l (l.length : Int) (i : Int)) (0, r)
  | 0, i, hd, s, hs => ⟨s, ev_step (ev_neg (by omega) (ev_now _)), ev_step (ev_neg (by omega) (ev_now _))⟩
  | d + 1, i, hd, s, hs => by
    have e := succ64 (i := i) (n := l.length) (by omega) (by omega)
    have hn := (h i (by omega)).1.1
    have one : (⟨#[10]⟩ : ByteArray).size = 1 := rfl
    have lt : (i : Int) < (l.length : Int) := by omega
    have ge : (0 : Int) ≤ (i : Int) := by omega
    have hp := prefix_some (rd_T102 l (i : Int)).f0 t
    by_cases c1 : ((rd_T102 l (i : Int)).f0.size : Int) ≥ (t.size : Int)
    · rw [if_pos c1] at hp
      by_cases c2 : ((rd_T102 l (i : Int)).f0.extract 0 t.size).toList = t.toList
      · rw [beq_iff_eq.2 c2] at hp
        obtain ⟨r, h1, h2⟩ := list_loop l hl h t d (i + 1) (by omega) (s ++ (rd_T102 l (i : Int)).f0 ++ ⟨#[10]⟩) (by rw [ByteArray.size_append, ByteArray.size_append, one]; omega)
        refine ⟨r, ev_step (ev_pos lt (ev_pos ge (ev_pos c1 (ev_pos (by omega) (ev_pos (by omega) (ev_pos (by simpa using c2) (ev_pos (by omega) (ev_pos (by rw [ByteArray.size_append]; omega) ?_)))))))), ev_step (ev_pos lt (ev_pos ge (ev_pos lt (ev_val hp (ev_pos rfl (ev_pos (by omega) (ev_pos (by rw [ByteArray.size_append, one]; omega) ?_)))))))⟩
        · simp only [e]; exact h1
        · simp only [e]
          have ea : s ++ ((rd_T102 l (i : Int)).f0 ++ ⟨#[10]⟩) = s ++ (rd_T102 l (i : Int)).f0 ++ ⟨#[10]⟩ := ByteArray.append_assoc.symm
          rw [ea]; exact h2
      · rw [beq_eq_false_iff_ne.2 c2] at hp
        obtain ⟨r, h1, h2⟩ := list_loop l hl h t d (i + 1) (by omega) s (by omega)
        refine ⟨r, ev_step (ev_pos lt (ev_pos ge (ev_pos c1 (ev_pos (by omega) (ev_pos (by omega) (ev_neg (by simpa using c2) ?_)))))), ev_step (ev_pos lt (ev_pos ge (ev_pos lt (ev_val hp (ev_neg (by simp) ?_)))))⟩
        · simp only [e]; exact h1
        · simp only [e]; exact h2
    · rw [if_neg c1] at hp
      obtain ⟨r, h1, h2⟩ := list_loop l hl h t d (i + 1) (by omega) s (by omega)
      refine ⟨r, ev_step (ev_pos lt (ev_pos ge (ev_neg c1 ?_))), ev_step (ev_pos lt (ev_pos ge (ev_pos lt (ev_val hp (ev_neg (by simp) ?_)))))⟩
      · simp only [e]; exact h1
      · simp only [e]; exact h2
theorem see_true (l : List S102) (kind : Int) (t : ByteArray) : Ev (fun k => spec_MillSee.j0 k kind t true l) (5, (⟨#[]⟩ : ByteArray)) := by
  refine ev_step ?_
  simp only [spec_MillSee.j0, if_true]
  exact ev_now _
/-- What is seen, whatever the place. -/
theorem see_ev (l : List S102) (hl : l.length ≤ 4398046511104) (hs : ∀ x ∈ l, x.f0.size ≤ 140737488351232) (kind : Int) (t : ByteArray) :
    ∃ r : Int × ByteArray, Ev (fun k => spec_MillSee.f k l kind t) r ∧ Ev (fun k => impl_MillSee.f k l kind t) r := by
  obtain ⟨b, b1, b2⟩ := place_ev l hl hs
  cases b with
  | false => exact ⟨(5, ⟨#[]⟩), ev_bind b1 (ev_neg (by simp) (see_true l kind t)), ev_bind b2 (ev_neg (by simp) (ev_now _))⟩
  | true =>
    obtain ⟨h40, ho⟩ := place_true l hl hs b1
    have hfile : impl_MillPlace_file.f l t = some (if bsHit l t = true then ((rd_T102 l (bsIdx l t : Int)).f1, true) else (⟨#[]⟩, false)) := by
      unfold impl_MillPlace_file.f; rw [if_pos (by omega)]; split <;> rfl
    by_cases c1 : kind < 1
    · exact ⟨(5, ⟨#[]⟩), ev_bind b1 (ev_pos rfl (ev_pos c1 (see_true l kind t))), ev_bind b2 (ev_pos rfl (ev_bind (ev_val hfile (ev_neg (by omega) (ev_neg (by omega) (ev_neg (by omega) (ev_now _))))) (ev_now _)))⟩
    · by_cases c3 : kind > 3
      · exact ⟨(5, ⟨#[]⟩), ev_bind b1 (ev_pos rfl (ev_neg c1 (ev_step (ev_pos (by simp [c3]) (ev_now _))))), ev_bind b2 (ev_pos rfl (ev_bind (ev_val hfile (ev_neg (by omega) (ev_neg (by omega) (ev_neg (by omega) (ev_now _))))) (ev_now _)))⟩
      · by_cases k3 : kind = 3
        · obtain ⟨r, h1, h2⟩ := list_loop l h40 ho t l.length 0 (by omega) ⟨#[]⟩ (by decide)
          exact ⟨(0, r), ev_bind b1 (ev_pos rfl (ev_neg c1 (ev_step (ev_neg (by simp; omega) (ev_pos k3 h1))))), ev_bind b2 (ev_pos rfl (ev_bind (ev_val hfile (ev_neg (by omega) (ev_neg (by omega) (ev_pos k3 h2)))) (ev_now _)))⟩
        · rcases at_ev l hl ho t with ⟨hb, hi, ha⟩ | ⟨hb, ha⟩
          · rw [hb, if_pos rfl] at hfile
            by_cases k2 : kind = 2
            · exact ⟨(0, ⟨#[]⟩), ev_bind b1 (ev_pos rfl (ev_neg c1 (ev_step (ev_neg (by simp; omega) (ev_neg k3 (ev_bind ha (ev_neg (by omega) (ev_pos k2 (ev_now _))))))))), ev_bind b2 (ev_pos rfl (ev_bind (ev_val hfile (ev_neg (by omega) (ev_pos k2 (ev_pos rfl (ev_now _))))) (ev_now _)))⟩
            · exact ⟨(0, (rd_T102 l (bsIdx l t : Int)).f1), ev_bind b1 (ev_pos rfl (ev_neg c1 (ev_step (ev_neg (by simp; omega) (ev_neg k3 (ev_bind ha (ev_neg (by omega) (ev_neg k2 (ev_pos (by omega) (ev_pos (by omega) (ev_now _))))))))))), ev_bind b2 (ev_pos rfl (ev_bind (ev_val hfile (ev_pos (by omega) (ev_pos rfl (ev_now _)))) (ev_now _)))⟩
          · rw [hb, if_neg (by simp)] at hfile
            by_cases k2 : kind = 2
            · exact ⟨(4, ⟨#[]⟩), ev_bind b1 (ev_pos rfl (ev_neg c1 (ev_step (ev_neg (by simp; omega) (ev_neg k3 (ev_bind ha (ev_pos (by omega) (ev_now _)))))))), ev_bind b2 (ev_pos rfl (ev_bind (ev_val hfile (ev_neg (by omega) (ev_pos k2 (ev_neg (by simp) (ev_now _))))) (ev_now _)))⟩
            · exact ⟨(4, ⟨#[]⟩), ev_bind b1 (ev_pos rfl (ev_neg c1 (ev_step (ev_neg (by simp; omega) (ev_neg k3 (ev_bind ha (ev_pos (by omega) (ev_now _)))))))), ev_bind b2 (ev_pos rfl (ev_bind (ev_val hfile (ev_pos (by omega) (ev_neg (by simp) (ev_now _)))) (ev_now _)))⟩
end Go.Proofs.Ytdpdpigaegabbaa.Q
