/- Several texts of this seat put together by merge.py, without what this claim does not use. -/
import Derived.Test.YtdpdpigaegabbaaQmFnMillBits1
import Derived.Test.YtdpdpigaegabbaaQmFnMillBitsQXBits
import Derived.Test.YtdpdpigaegabbaaQmFnMillBits2
import Derived.Test.YtdpdpigaegabbaaQmFnMillBitsQf48
section
namespace Go.Proofs.Ytdpdpigaegabbaa.Q
open Go.RowKit Go.Proofs.YtdpdpigaegabbaaW.PrintWords Go.Proofs.YtdpdpigaegabbaaW.PrintLast Go.Proofs.YtdpdpigaegabbaaW.PrintMore Go.Proofs.Ytdpdpigaegabbaa.Short
attribute [local go_sem] max2_int min2_int max_two min_two max_three min_three max_four min_four   
set_option linter.unusedVariables false
set_option linter.unusedSimpArgs false
attribute [local go_sem high] eqA36
mutual
def laws_FnMillBits.j0 : Nat → List Int → Bool → Int → Int → ByteArray → Int → Int → ByteArray → Option (Bool)
  | 0, _, _, _, _, _, _, _, _ => none
  | k + 1, x0, x50, x109000, x109001, x109002, x110000, x110001, x110002 => if x50 = true then ((impl_MillValidValue.f x109000 x109001 x109002).bind fun t112 => ((spec_MillValidValue.f x109000 x109001 x109002).bind fun t113 => (if (t112 == t113) = true then ((impl_MillValidValue.f x110000 x110001 x110002).bind fun t114 => ((spec_MillValidValue.f x110000 x110001 x110002).bind fun t115 => (some (t114 == t115)))) else (some false)))) else ((bits_MillBinary.f k 11 x109000 x109001 x109002 x110000 x110001 x110002).bind fun bt116 => ((bits_MillBinary.f k 16 x109000 x109001 x109002 x110000 x110001 x110002).bind fun bt121 => ((bits_MillBinary.f k 12 x109000 x109001 x109002 x110000 x110001 x110002).bind fun bt126 => ((bits_MillBinary.f k 9 bt121.1 bt121.2.1 bt121.2.2.1 bt126.1 bt126.2.1 bt126.2.2.1).bind fun bt131 => (if bt116.2.2.2.size + bt121.2.2.2.size ≤ 9223372036854775807 then (if (bt116.2.2.2 ++ bt121.2.2.2).size + bt126.2.2.2.size ≤ 9223372036854775807 then (if ((bt116.2.2.2 ++ bt121.2.2.2) ++ bt126.2.2.2).size + bt131.2.2.2.size ≤ 9223372036854775807 then (if (((bt116.2.2.2 ++ bt121.2.2.2) ++ bt126.2.2.2) ++ bt131.2.2.2).toList = ([] : List UInt8) then (laws_FnMillBits.j1 k x0 (!(bt131.1 == bt116.1) || (!(bt131.2.1 == bt116.2.1) || (!(bt131.2.2.1.toList == bt116.2.2.1.toList)))) x109000 x109001 x109002) else (laws_FnMillBits.j1 k x0 true x109000 x109001 x109002)) else (none)) else (none)) else (none))))))
def laws_FnMillBits.j1 : Nat → List Int → Bool → Int → Int → ByteArray → Option (Bool)
  | 0, _, _, _, _, _ => none
  | k + 1, x0, x99, x109000, x109001, x109002 => if x99 = true then (some false) else (laws_FnMillBits.l0 k ((x0.length : Int) % 70) 17 x109000 x109001 x109002)
def laws_FnMillBits.l0 : Nat → Int → Int → Int → Int → ByteArray → Option (Bool)
  | 0, _, _, _, _, _ => none
  | k + 1, x14, x15, x109000, x109001, x109002 => if x15 ≤ 18 then ((bits_MillBinary.f k x15 x109000 x109001 x109002 x109000 x14 (⟨#[]⟩ : ByteArray)).bind fun bt136 => ((bits_MillBinary.f k x15 bt136.1 bt136.2.1 bt136.2.2.1 x109000 1 (⟨#[]⟩ : ByteArray)).bind fun bt141 => ((bits_MillBinary.f k x15 x109000 x109001 x109002 x109000 (wrap64 (x14 + 1)) (⟨#[]⟩ : ByteArray)).bind fun bt146 => (if bt136.2.2.2.size + bt141.2.2.2.size ≤ 9223372036854775807 then (if (bt136.2.2.2 ++ bt141.2.2.2).size + bt146.2.2.2.size ≤ 9223372036854775807 then (if ((bt136.2.2.2 ++ bt141.2.2.2) ++ bt146.2.2.2).toList = ([] : List UInt8) then (if (!(bt141.1 == bt146.1) || (!(bt141.2.1 == bt146.2.1) || (!(bt141.2.2.1.toList == bt146.2.2.1.toList)))) = true then (some false) else (laws_FnMillBits.l0 k x14 (wrap64 (x15 + 1)) x109000 x109001 x109002)) else (some false)) else (none)) else (none))))) else (some true)
end
def laws_FnMillBits.f (k : Nat) (l0 : List Int) : Option (Bool) := if (l0.length : Int) > 1048576 then (some true) else ((spec_DrawMillBinary.f k l0).bind fun bt101 => ((spec_MillValidValue.f bt101.2.1 bt101.2.2.1 bt101.2.2.2.1).bind fun t110 => (if t110 = true then ((spec_MillValidValue.f bt101.2.2.2.2.1 bt101.2.2.2.2.2.1 bt101.2.2.2.2.2.2).bind fun t111 => (if t111 = true then (if bt101.2.1 = bt101.2.2.2.2.1 then (laws_FnMillBits.j0 k l0 (decide (bt101.2.1 < 3)) bt101.2.1 bt101.2.2.1 bt101.2.2.2.1 bt101.2.2.2.2.1 bt101.2.2.2.2.2.1 bt101.2.2.2.2.2.2) else (laws_FnMillBits.j0 k l0 true bt101.2.1 bt101.2.2.1 bt101.2.2.2.1 bt101.2.2.2.2.1 bt101.2.2.2.2.2.1 bt101.2.2.2.2.2.2)) else (laws_FnMillBits.j0 k l0 true bt101.2.1 bt101.2.2.1 bt101.2.2.2.1 bt101.2.2.2.2.1 bt101.2.2.2.2.2.1 bt101.2.2.2.2.2.2))) else (laws_FnMillBits.j0 k l0 true bt101.2.1 bt101.2.2.1 bt101.2.2.2.1 bt101.2.2.2.2.1 bt101.2.2.2.2.2.1 bt101.2.2.2.2.2.2))))
def laws_FnMillBits.T5 : Bool × List (List Nat × List Nat) := (true, [([], []), ([0], [0]), ([], []), ([2, 1], [2]), ([1, 3], [1, 3]), ([4, 3], [4]), ([5], [5]), ([6, 5, 5], [5, 6]), ([5], [5]), ([8, 7, 5], [5, 8]), ([7, 9, 5], [5, 7, 9]), ([5, 10], [5, 10]), ([11, 9, 0, 1, 2, 3, 4, 5, 6, 7, 8, 9, 10, 11], [11])])
def laws_FnMillBits.B5 : List Nat := [0, 1, 0, 7, 15, 31, 63, 127, 63, 511, 1023, 2047, 4095]
theorem laws_FnMillBits.tab5 : rtab .any (opsOf Try.f13 5) = laws_FnMillBits.T5 := by kernel_rfl
theorem laws_FnMillBits.bits5 : waitsOk laws_FnMillBits.T5.2 laws_FnMillBits.B5 = true := by kernel_rfl
set_option maxHeartbeats 8000000 in
set_option maxRecDepth 100000 in
theorem laws_FnMillBits.calls (k : Nat) (A0 : Option Addr) (c0 : Nat) (l0 : List Int) (r : Bool) (w : World) (hr0 : Kd.C (Kd.int .u8) w A0 l0.length l0) (hc0 : l0.length ≤ c0) (h : laws_FnMillBits.f k l0 = some r) :
    Calls Try.prog 13 #[.slice A0 l0.length c0] w fun e w' => e = .returned (.bool r) ∧ Below w.heap.size w w' := by
  have hu36 := Try.underlying36
  have HR0 := Aside0.mk hr0
  have HC0 := Aside0.mk hc0
  clear hr0 hc0
  have HB := Aside0.mk (Below.refl w.heap.size w)
  have H : (if (l0.length : Int) > 1048576 then (some true) else ((spec_DrawMillBinary.f k l0).bind fun bt101 => ((spec_MillValidValue.f bt101.2.1 bt101.2.2.1 bt101.2.2.2.1).bind fun t110 => (if t110 = true then ((spec_MillValidValue.f bt101.2.2.2.2.1 bt101.2.2.2.2.2.1 bt101.2.2.2.2.2.2).bind fun t111 => (if t111 = true then (if bt101.2.1 = bt101.2.2.2.2.1 then (laws_FnMillBits.j0 k l0 (decide (bt101.2.1 < 3)) bt101.2.1 bt101.2.2.1 bt101.2.2.2.1 bt101.2.2.2.2.1 bt101.2.2.2.2.2.1 bt101.2.2.2.2.2.2) else (laws_FnMillBits.j0 k l0 true bt101.2.1 bt101.2.2.1 bt101.2.2.2.1 bt101.2.2.2.2.1 bt101.2.2.2.2.2.1 bt101.2.2.2.2.2.2)) else (laws_FnMillBits.j0 k l0 true bt101.2.1 bt101.2.2.1 bt101.2.2.2.1 bt101.2.2.2.2.1 bt101.2.2.2.2.2.1 bt101.2.2.2.2.2.2))) else (laws_FnMillBits.j0 k l0 true bt101.2.1 bt101.2.2.1 bt101.2.2.2.1 bt101.2.2.2.2.1 bt101.2.2.2.2.2.1 bt101.2.2.2.2.2.2))))) = some r := h
  clear h
  by_cases c2 : (l0.length : Int) > 1048576
  · rw [if_pos c2] at H
    have c2b0 : decide (1048576 < (l0.length : Int)) = true := decide_eq_true c2
    have c2b1 : decide (1048576 < l0.length) = true := decide_eq_true (by omega)
    clear c2
    obtain rfl := Option.some.inj H
    go_enter Try.func13, Try.ntmps13
    go_wp2
    go_ret
    exact ⟨by first | rfl | (simp [errW_none, errW_some] <;> rfl) | (simp [*, errW_none, errW_some] <;> rfl), kb HB⟩
  · rw [if_neg c2] at H
    have c2b0 : decide (1048576 < (l0.length : Int)) = false := decide_eq_false c2
    have c2b1 : decide (1048576 < l0.length) = false := decide_eq_false (by omega)
    clear c2
    replace H := Option.bind_eq_some_iff.mp H
    obtain ⟨⟨t101, t102, t103, t104, t105, t106, t107⟩, A30, H⟩ := H
    replace H : ((spec_MillValidValue.f t102 t103 t104).bind fun t110 => (if t110 = true then ((spec_MillValidValue.f t105 t106 t107).bind fun t111 => (if t111 = true then (if t102 = t105 then (laws_FnMillBits.j0 k l0 (decide (t102 < 3)) t102 t103 t104 t105 t106 t107) else (laws_FnMillBits.j0 k l0 true t102 t103 t104 t105 t106 t107)) else (laws_FnMillBits.j0 k l0 true t102 t103 t104 t105 t106 t107))) else (laws_FnMillBits.j0 k l0 true t102 t103 t104 t105 t106 t107))) = some r := H
    have A3 := Aside0.mk A30
    clear A30
    have HC4 := Aside0.mk H
    clear H
    go_enter Try.func13, Try.ntmps13
    go_upto_region 4 with (first | ((with_reducible refine gate_callee (f := 48) rfl ?_); refine gL (some 27) Try.func48 #[.slice A0 l0.length c0] (spec_DrawMillBinary.calls k _ _ l0 t101 t102 t103 t104 t105 t106 t107 _ ?side1 ?side2 A3.out) ?_; (case side1 => repeat (first | exact HR0.out | (with_reducible refine Kd.C_alloc ?_ _) | (with_reducible refine Kd.C_drewN ?_ _) | (with_reducible refine Kd.C_drew ?_))); (case side2 => exact HC0.out); intro w5 hb; replace HB := kS HB hb) | ((with_reducible refine gate_dst (N := 4) rfl ?_); refine gX 4 #[.int .i64 0, .int .i64 0, .string (⟨#[]⟩ : ByteArray)] 36 ?_; intro gb108 hg w6 hbox hb; have BK108 := Aside0.mk (hbox); have GW108 := gw hg (kb HB); have GE108 := gw hg (kb HB); replace HB := kS HB hb; clear hb hbox hg) | ((with_reducible refine gate_dst (N := 5) rfl ?_); refine gX 5 #[.int .i64 0, .int .i64 0, .string (⟨#[]⟩ : ByteArray)] 36 ?_; intro gb109 hg w7 hbox hb; have BK109 := Aside0.mk (hbox); have GW109 := gw hg (kb HB); have GE109 := gw hg (kb HB); have NB108_109 := nl hg (kp BK108); have NB109_108 := ng hg (kp BK108); replace BK108 := kB BK108 hb; replace HB := kS HB hb; clear hb hbox hg; have hnb8 := NB108_109.out; have hnc8 := NB109_108.out; obtain ⟨⟨hcz9_0, hcz9_1, hcz9_2⟩, hfz9_0, hfz9_1, hfz9_2⟩ := bf3 BK108; obtain ⟨⟨hcz10_0, hcz10_1, hcz10_2⟩, hfz10_0, hfz10_1, hfz10_2⟩ := bf3 BK109))
    (try simp only [Act.put, List.setIfInBounds_toArray, List.set_cons_zero, List.set_cons_succ])
    go_cut [50] (fun v50 wc => ∃ (kq : Nat) (x50_3 : Bool), v50 = .bool x50_3 ∧ Aside0 (laws_FnMillBits.j0 kq l0 x50_3 t102 t103 t104 t105 t106 t107 = some r) ∧ Aside0 (kq ≤ k) ∧ Aside0 (wc.heap[gb108]? = some (.cells #[.int .i64 t102, .int .i64 t103, .string t104] 36 (0, 0))) ∧ Aside0 (wc.heap[gb109]? = some (.cells #[.int .i64 t105, .int .i64 t106, .string t107] 36 (0, 0))) ∧ Aside0 (Below w.heap.size w wc))
    case first =>
      have H := HC4.out
      clear HC4
      replace H := Option.bind_eq_some_iff.mp H
      obtain ⟨t110, A110, H⟩ := H
      replace H : (if t110 = true then ((spec_MillValidValue.f t105 t106 t107).bind fun t111 => (if t111 = true then (if t102 = t105 then (laws_FnMillBits.j0 k l0 (decide (t102 < 3)) t102 t103 t104 t105 t106 t107) else (laws_FnMillBits.j0 k l0 true t102 t103 t104 t105 t106 t107)) else (laws_FnMillBits.j0 k l0 true t102 t103 t104 t105 t106 t107))) else (laws_FnMillBits.j0 k l0 true t102 t103 t104 t105 t106 t107)) = some r := H
      have A11 := Aside0.mk A110
      clear A110
      by_cases c12 : t110 = true
      · subst c12
        have H1 : ((spec_MillValidValue.f t105 t106 t107).bind fun t111 => (if t111 = true then (if t102 = t105 then (laws_FnMillBits.j0 k l0 (decide (t102 < 3)) t102 t103 t104 t105 t106 t107) else (laws_FnMillBits.j0 k l0 true t102 t103 t104 t105 t106 t107)) else (laws_FnMillBits.j0 k l0 true t102 t103 t104 t105 t106 t107))) = some r := by rw [if_pos rfl] at H; exact H
        clear H
        have H := H1
        clear H1
        replace H := Option.bind_eq_some_iff.mp H
        obtain ⟨t111, A130, H⟩ := H
        replace H : (if t111 = true then (if t102 = t105 then (laws_FnMillBits.j0 k l0 (decide (t102 < 3)) t102 t103 t104 t105 t106 t107) else (laws_FnMillBits.j0 k l0 true t102 t103 t104 t105 t106 t107)) else (laws_FnMillBits.j0 k l0 true t102 t103 t104 t105 t106 t107)) = some r := H
        have A13 := Aside0.mk A130
        clear A130
        by_cases c14 : t111 = true
        · subst c14
          have H1 : (if t102 = t105 then (laws_FnMillBits.j0 k l0 (decide (t102 < 3)) t102 t103 t104 t105 t106 t107) else (laws_FnMillBits.j0 k l0 true t102 t103 t104 t105 t106 t107)) = some r := by rw [if_pos rfl] at H; exact H
          clear H
          have H := H1
          clear H1
          by_cases c15 : t102 = t105
          · rw [if_pos c15] at H
            have c15b0 : (t102 == t105) = true := beq_iff_eq.mpr c15
            have c15b1 : (t102 != t105) = false := bne_eq_false_iff_eq.mpr c15
            clear c15
            (first | rw [c15b0] | (simp only [i64_w, i32_w]; rw [c15b0]) | skip)
            have H' := Aside0.mk H
            clear H
            have hnb16 := NB108_109.out
            have hnc16 := NB109_108.out
            obtain ⟨⟨hcz17_0, hcz17_1, hcz17_2⟩, hfz17_0, hfz17_1, hfz17_2⟩ := bf3 BK108
            go_wp2_with (first | ((with_reducible refine gate_callee (f := 22) rfl ?_); refine gL (some 32) Try.func22 #[.agg #[.int .i64 t102, .int .i64 t103, .string t104]] (spec_MillValidValue.calls t102 t103 t104 true _ A11.out) ?_; intro w18 hb; replace BK108 := Aside0.mk (blk_below (g := gb108) (o := .cells #[.int .i64 t102, .int .i64 t103, .string t104] 36 (0, 0)) (by (with_reducible repeat (first | refine blk_drewN ?_ _ | refine blk_drew ?_ | refine blk_alloc ?_ _)); refine blk_far ?_ NB108_109.out _; (with_reducible repeat (first | refine blk_drewN ?_ _ | refine blk_drew ?_ | refine blk_alloc ?_ _)); refine blk_far ?_ NB108_109.out _; (with_reducible repeat (first | refine blk_drewN ?_ _ | refine blk_drew ?_ | refine blk_alloc ?_ _)); refine blk_far ?_ NB108_109.out _; (with_reducible repeat (first | refine blk_drewN ?_ _ | refine blk_drew ?_ | refine blk_alloc ?_ _)); refine blk_put (cs := #[.int .i64 t102, .int .i64 t103, .string (⟨#[]⟩ : ByteArray)]) ?_ 2 _ rfl; (with_reducible repeat (first | refine blk_drewN ?_ _ | refine blk_drew ?_ | refine blk_alloc ?_ _)); refine blk_put (cs := #[.int .i64 t102, .int .i64 0, .string (⟨#[]⟩ : ByteArray)]) ?_ 1 _ rfl; (with_reducible repeat (first | refine blk_drewN ?_ _ | refine blk_drew ?_ | refine blk_alloc ?_ _)); refine blk_put (cs := #[.int .i64 0, .int .i64 0, .string (⟨#[]⟩ : ByteArray)]) ?_ 0 _ rfl; (with_reducible repeat (first | refine blk_drewN ?_ _ | refine blk_drew ?_ | refine blk_alloc ?_ _)); exact BK108.out) hb); replace BK109 := Aside0.mk (blk_below (g := gb109) (o := .cells #[.int .i64 t105, .int .i64 t106, .string t107] 36 (0, 0)) (by (with_reducible repeat (first | refine blk_drewN ?_ _ | refine blk_drew ?_ | refine blk_alloc ?_ _)); refine blk_put (cs := #[.int .i64 t105, .int .i64 t106, .string (⟨#[]⟩ : ByteArray)]) ?_ 2 _ rfl; (with_reducible repeat (first | refine blk_drewN ?_ _ | refine blk_drew ?_ | refine blk_alloc ?_ _)); refine blk_put (cs := #[.int .i64 t105, .int .i64 0, .string (⟨#[]⟩ : ByteArray)]) ?_ 1 _ rfl; (with_reducible repeat (first | refine blk_drewN ?_ _ | refine blk_drew ?_ | refine blk_alloc ?_ _)); refine blk_put (cs := #[.int .i64 0, .int .i64 0, .string (⟨#[]⟩ : ByteArray)]) ?_ 0 _ rfl; (with_reducible repeat (first | refine blk_drewN ?_ _ | refine blk_drew ?_ | refine blk_alloc ?_ _)); refine blk_far ?_ NB109_108.out _; (with_reducible repeat (first | refine blk_drewN ?_ _ | refine blk_drew ?_ | refine blk_alloc ?_ _)); refine blk_far ?_ NB109_108.out _; (with_reducible repeat (first | refine blk_drewN ?_ _ | refine blk_drew ?_ | refine blk_alloc ?_ _)); refine blk_far ?_ NB109_108.out _; (with_reducible repeat (first | refine blk_drewN ?_ _ | refine blk_drew ?_ | refine blk_alloc ?_ _)); exact BK109.out) hb); replace HB := kS HB hb; obtain ⟨⟨hcz19_0, hcz19_1, hcz19_2⟩, hfz19_0, hfz19_1, hfz19_2⟩ := bf3 BK109) | (go_at_call 22; (with_reducible refine (spec_MillValidValue.calls t105 t106 t107 true _ A13.out).mono ?_); rintro e w20 ⟨rfl, hb⟩; replace BK108 := kB BK108 hb; replace BK109 := kB BK109 hb; replace HB := kS HB hb; obtain ⟨⟨hcz21_0, hcz21_1, hcz21_2⟩, hfz21_0, hfz21_1, hfz21_2⟩ := bf3 BK108; obtain ⟨⟨hcz22_0, hcz22_1, hcz22_2⟩, hfz22_0, hfz22_1, hfz22_2⟩ := bf3 BK109))
            go_meet
            case rel => exact ⟨_, (decide (t102 < 3)), (by first | rfl | (simp; done) | (simp [*]; done)), H', ⟨by first | omega | exact Nat.le_refl _⟩, ⟨kp BK108⟩, ⟨kp BK109⟩, ⟨kb HB⟩⟩
          · rw [if_neg c15] at H
            have c15b0 : (t102 == t105) = false := beq_eq_false_iff_ne.mpr c15
            have c15b1 : (t102 != t105) = true := bne_iff_ne.mpr c15
            (first | rw [c15b0] | (simp only [i64_w, i32_w]; rw [c15b0]) | skip)
            have H' := Aside0.mk H
            clear H
            have hnb23 := NB108_109.out
            have hnc23 := NB109_108.out
            obtain ⟨⟨hcz24_0, hcz24_1, hcz24_2⟩, hfz24_0, hfz24_1, hfz24_2⟩ := bf3 BK108
            go_wp2_with (first | ((with_reducible refine gate_callee (f := 22) rfl ?_); refine gL (some 32) Try.func22 #[.agg #[.int .i64 t102, .int .i64 t103, .string t104]] (spec_MillValidValue.calls t102 t103 t104 true _ A11.out) ?_; intro w25 hb; replace BK108 := Aside0.mk (blk_below (g := gb108) (o := .cells #[.int .i64 t102, .int .i64 t103, .string t104] 36 (0, 0)) (by (with_reducible repeat (first | refine blk_drewN ?_ _ | refine blk_drew ?_ | refine blk_alloc ?_ _)); refine blk_far ?_ NB108_109.out _; (with_reducible repeat (first | refine blk_drewN ?_ _ | refine blk_drew ?_ | refine blk_alloc ?_ _)); refine blk_far ?_ NB108_109.out _; (with_reducible repeat (first | refine blk_drewN ?_ _ | refine blk_drew ?_ | refine blk_alloc ?_ _)); refine blk_far ?_ NB108_109.out _; (with_reducible repeat (first | refine blk_drewN ?_ _ | refine blk_drew ?_ | refine blk_alloc ?_ _)); refine blk_put (cs := #[.int .i64 t102, .int .i64 t103, .string (⟨#[]⟩ : ByteArray)]) ?_ 2 _ rfl; (with_reducible repeat (first | refine blk_drewN ?_ _ | refine blk_drew ?_ | refine blk_alloc ?_ _)); refine blk_put (cs := #[.int .i64 t102, .int .i64 0, .string (⟨#[]⟩ : ByteArray)]) ?_ 1 _ rfl; (with_reducible repeat (first | refine blk_drewN ?_ _ | refine blk_drew ?_ | refine blk_alloc ?_ _)); refine blk_put (cs := #[.int .i64 0, .int .i64 0, .string (⟨#[]⟩ : ByteArray)]) ?_ 0 _ rfl; (with_reducible repeat (first | refine blk_drewN ?_ _ | refine blk_drew ?_ | refine blk_alloc ?_ _)); exact BK108.out) hb); replace BK109 := Aside0.mk (blk_below (g := gb109) (o := .cells #[.int .i64 t105, .int .i64 t106, .string t107] 36 (0, 0)) (by (with_reducible repeat (first | refine blk_drewN ?_ _ | refine blk_drew ?_ | refine blk_alloc ?_ _)); refine blk_put (cs := #[.int .i64 t105, .int .i64 t106, .string (⟨#[]⟩ : ByteArray)]) ?_ 2 _ rfl; (with_reducible repeat (first | refine blk_drewN ?_ _ | refine blk_drew ?_ | refine blk_alloc ?_ _)); refine blk_put (cs := #[.int .i64 t105, .int .i64 0, .string (⟨#[]⟩ : ByteArray)]) ?_ 1 _ rfl; (with_reducible repeat (first | refine blk_drewN ?_ _ | refine blk_drew ?_ | refine blk_alloc ?_ _)); refine blk_put (cs := #[.int .i64 0, .int .i64 0, .string (⟨#[]⟩ : ByteArray)]) ?_ 0 _ rfl; (with_reducible repeat (first | refine blk_drewN ?_ _ | refine blk_drew ?_ | refine blk_alloc ?_ _)); refine blk_far ?_ NB109_108.out _; (with_reducible repeat (first | refine blk_drewN ?_ _ | refine blk_drew ?_ | refine blk_alloc ?_ _)); refine blk_far ?_ NB109_108.out _; (with_reducible repeat (first | refine blk_drewN ?_ _ | refine blk_drew ?_ | refine blk_alloc ?_ _)); refine blk_far ?_ NB109_108.out _; (with_reducible repeat (first | refine blk_drewN ?_ _ | refine blk_drew ?_ | refine blk_alloc ?_ _)); exact BK109.out) hb); replace HB := kS HB hb; obtain ⟨⟨hcz26_0, hcz26_1, hcz26_2⟩, hfz26_0, hfz26_1, hfz26_2⟩ := bf3 BK109) | (go_at_call 22; (with_reducible refine (spec_MillValidValue.calls t105 t106 t107 true _ A13.out).mono ?_); rintro e w27 ⟨rfl, hb⟩; replace BK108 := kB BK108 hb; replace BK109 := kB BK109 hb; replace HB := kS HB hb; obtain ⟨⟨hcz28_0, hcz28_1, hcz28_2⟩, hfz28_0, hfz28_1, hfz28_2⟩ := bf3 BK108; obtain ⟨⟨hcz29_0, hcz29_1, hcz29_2⟩, hfz29_0, hfz29_1, hfz29_2⟩ := bf3 BK109))
            go_meet
            case rel => exact ⟨_, (true), (by first | rfl | (simp; done) | (simp [*]; done)), H', ⟨by first | omega | exact Nat.le_refl _⟩, ⟨kp BK108⟩, ⟨kp BK109⟩, ⟨kb HB⟩⟩
        · replace c14 := Bool.eq_false_iff.mpr c14
          subst c14
          have H1 : (laws_FnMillBits.j0 k l0 true t102 t103 t104 t105 t106 t107) = some r := by rw [if_neg (show ¬ (false = true) by decide)] at H; exact H
          clear H
          have H := H1
          clear H1
          have H' := Aside0.mk H
          clear H
          have hnb30 := NB108_109.out
          have hnc30 := NB109_108.out
          obtain ⟨⟨hcz31_0, hcz31_1, hcz31_2⟩, hfz31_0, hfz31_1, hfz31_2⟩ := bf3 BK108
          go_wp2_with (first | ((with_reducible refine gate_callee (f := 22) rfl ?_); refine gL (some 32) Try.func22 #[.agg #[.int .i64 t102, .int .i64 t103, .string t104]] (spec_MillValidValue.calls t102 t103 t104 true _ A11.out) ?_; intro w32 hb; replace BK108 := Aside0.mk (blk_below (g := gb108) (o := .cells #[.int .i64 t102, .int .i64 t103, .string t104] 36 (0, 0)) (by (with_reducible repeat (first | refine blk_drewN ?_ _ | refine blk_drew ?_ | refine blk_alloc ?_ _)); refine blk_far ?_ NB108_109.out _; (with_reducible repeat (first | refine blk_drewN ?_ _ | refine blk_drew ?_ | refine blk_alloc ?_ _)); refine blk_far ?_ NB108_109.out _; (with_reducible repeat (first | refine blk_drewN ?_ _ | refine blk_drew ?_ | refine blk_alloc ?_ _)); refine blk_far ?_ NB108_109.out _; (with_reducible repeat (first | refine blk_drewN ?_ _ | refine blk_drew ?_ | refine blk_alloc ?_ _)); refine blk_put (cs := #[.int .i64 t102, .int .i64 t103, .string (⟨#[]⟩ : ByteArray)]) ?_ 2 _ rfl; (with_reducible repeat (first | refine blk_drewN ?_ _ | refine blk_drew ?_ | refine blk_alloc ?_ _)); refine blk_put (cs := #[.int .i64 t102, .int .i64 0, .string (⟨#[]⟩ : ByteArray)]) ?_ 1 _ rfl; (with_reducible repeat (first | refine blk_drewN ?_ _ | refine blk_drew ?_ | refine blk_alloc ?_ _)); refine blk_put (cs := #[.int .i64 0, .int .i64 0, .string (⟨#[]⟩ : ByteArray)]) ?_ 0 _ rfl; (with_reducible repeat (first | refine blk_drewN ?_ _ | refine blk_drew ?_ | refine blk_alloc ?_ _)); exact BK108.out) hb); replace BK109 := Aside0.mk (blk_below (g := gb109) (o := .cells #[.int .i64 t105, .int .i64 t106, .string t107] 36 (0, 0)) (by (with_reducible repeat (first | refine blk_drewN ?_ _ | refine blk_drew ?_ | refine blk_alloc ?_ _)); refine blk_put (cs := #[.int .i64 t105, .int .i64 t106, .string (⟨#[]⟩ : ByteArray)]) ?_ 2 _ rfl; (with_reducible repeat (first | refine blk_drewN ?_ _ | refine blk_drew ?_ | refine blk_alloc ?_ _)); refine blk_put (cs := #[.int .i64 t105, .int .i64 0, .string (⟨#[]⟩ : ByteArray)]) ?_ 1 _ rfl; (with_reducible repeat (first | refine blk_drewN ?_ _ | refine blk_drew ?_ | refine blk_alloc ?_ _)); refine blk_put (cs := #[.int .i64 0, .int .i64 0, .string (⟨#[]⟩ : ByteArray)]) ?_ 0 _ rfl; (with_reducible repeat (first | refine blk_drewN ?_ _ | refine blk_drew ?_ | refine blk_alloc ?_ _)); refine blk_far ?_ NB109_108.out _; (with_reducible repeat (first | refine blk_drewN ?_ _ | refine blk_drew ?_ | refine blk_alloc ?_ _)); refine blk_far ?_ NB109_108.out _; (with_reducible repeat (first | refine blk_drewN ?_ _ | refine blk_drew ?_ | refine blk_alloc ?_ _)); refine blk_far ?_ NB109_108.out _; (with_reducible repeat (first | refine blk_drewN ?_ _ | refine blk_drew ?_ | refine blk_alloc ?_ _)); exact BK109.out) hb); replace HB := kS HB hb; obtain ⟨⟨hcz33_0, hcz33_1, hcz33_2⟩, hfz33_0, hfz33_1, hfz33_2⟩ := bf3 BK109) | (go_at_call 22; (with_reducible refine (spec_MillValidValue.calls t105 t106 t107 false _ A13.out).mono ?_); rintro e w34 ⟨rfl, hb⟩; replace BK108 := kB BK108 hb; replace BK109 := kB BK109 hb; replace HB := kS HB hb))
          go_meet
          case rel => exact ⟨_, (true), (by first | rfl | (simp; done) | (simp [*]; done)), H', ⟨by first | omega | exact Nat.le_refl _⟩, ⟨kp BK108⟩, ⟨kp BK109⟩, ⟨kb HB⟩⟩
      · replace c12 := Bool.eq_false_iff.mpr c12
        subst c12
        have H1 : (laws_FnMillBits.j0 k l0 true t102 t103 t104 t105 t106 t107) = some r := by rw [if_neg (show ¬ (false = true) by decide)] at H; exact H
        clear H
        have H := H1
        clear H1
        have H' := Aside0.mk H
        clear H
        have hnb35 := NB108_109.out
        have hnc35 := NB109_108.out
        obtain ⟨⟨hcz36_0, hcz36_1, hcz36_2⟩, hfz36_0, hfz36_1, hfz36_2⟩ := bf3 BK108
        go_wp2_with (first | ((with_reducible refine gate_callee (f := 22) rfl ?_); refine gL (some 32) Try.func22 #[.agg #[.int .i64 t102, .int .i64 t103, .string t104]] (spec_MillValidValue.calls t102 t103 t104 false _ A11.out) ?_; intro w37 hb; replace BK108 := Aside0.mk (blk_below (g := gb108) (o := .cells #[.int .i64 t102, .int .i64 t103, .string t104] 36 (0, 0)) (by (with_reducible repeat (first | refine blk_drewN ?_ _ | refine blk_drew ?_ | refine blk_alloc ?_ _)); refine blk_far ?_ NB108_109.out _; (with_reducible repeat (first | refine blk_drewN ?_ _ | refine blk_drew ?_ | refine blk_alloc ?_ _)); refine blk_far ?_ NB108_109.out _; (with_reducible repeat (first | refine blk_drewN ?_ _ | refine blk_drew ?_ | refine blk_alloc ?_ _)); refine blk_far ?_ NB108_109.out _; (with_reducible repeat (first | refine blk_drewN ?_ _ | refine blk_drew ?_ | refine blk_alloc ?_ _)); refine blk_put (cs := #[.int .i64 t102, .int .i64 t103, .string (⟨#[]⟩ : ByteArray)]) ?_ 2 _ rfl; (with_reducible repeat (first | refine blk_drewN ?_ _ | refine blk_drew ?_ | refine blk_alloc ?_ _)); refine blk_put (cs := #[.int .i64 t102, .int .i64 0, .string (⟨#[]⟩ : ByteArray)]) ?_ 1 _ rfl; (with_reducible repeat (first | refine blk_drewN ?_ _ | refine blk_drew ?_ | refine blk_alloc ?_ _)); refine blk_put (cs := #[.int .i64 0, .int .i64 0, .string (⟨#[]⟩ : ByteArray)]) ?_ 0 _ rfl; (with_reducible repeat (first | refine blk_drewN ?_ _ | refine blk_drew ?_ | refine blk_alloc ?_ _)); exact BK108.out) hb); replace BK109 := Aside0.mk (blk_below (g := gb109) (o := .cells #[.int .i64 t105, .int .i64 t106, .string t107] 36 (0, 0)) (by (with_reducible repeat (first | refine blk_drewN ?_ _ | refine blk_drew ?_ | refine blk_alloc ?_ _)); refine blk_put (cs := #[.int .i64 t105, .int .i64 t106, .string (⟨#[]⟩ : ByteArray)]) ?_ 2 _ rfl; (with_reducible repeat (first | refine blk_drewN ?_ _ | refine blk_drew ?_ | refine blk_alloc ?_ _)); refine blk_put (cs := #[.int .i64 t105, .int .i64 0, .string (⟨#[]⟩ : ByteArray)]) ?_ 1 _ rfl; (with_reducible repeat (first | refine blk_drewN ?_ _ | refine blk_drew ?_ | refine blk_alloc ?_ _)); refine blk_put (cs := #[.int .i64 0, .int .i64 0, .string (⟨#[]⟩ : ByteArray)]) ?_ 0 _ rfl; (with_reducible repeat (first | refine blk_drewN ?_ _ | refine blk_drew ?_ | refine blk_alloc ?_ _)); refine blk_far ?_ NB109_108.out _; (with_reducible repeat (first | refine blk_drewN ?_ _ | refine blk_drew ?_ | refine blk_alloc ?_ _)); refine blk_far ?_ NB109_108.out _; (with_reducible repeat (first | refine blk_drewN ?_ _ | refine blk_drew ?_ | refine blk_alloc ?_ _)); refine blk_far ?_ NB109_108.out _; (with_reducible repeat (first | refine blk_drewN ?_ _ | refine blk_drew ?_ | refine blk_alloc ?_ _)); exact BK109.out) hb); replace HB := kS HB hb))
        go_meet
        case rel => exact ⟨_, (true), (by first | rfl | (simp; done) | (simp [*]; done)), H', ⟨by first | omega | exact Nat.le_refl _⟩, ⟨kp BK108⟩, ⟨kp BK109⟩, ⟨kb HB⟩⟩
    case rest =>
      clear HC4
      obtain ⟨kq, x50_3, rfl, HA, HJ3, BK108, BK109, HB⟩ := hcut
      cases kq with
      | zero => exact absurd HA.out (by simp [laws_FnMillBits.j0])
      | succ kj3 =>
        have H := HA.out
        clear HA
        simp only [laws_FnMillBits.j0] at H
        by_cases c38 : x50_3 = true
        · subst c38
          have H1 : ((impl_MillValidValue.f t102 t103 t104).bind fun t112 => ((spec_MillValidValue.f t102 t103 t104).bind fun t113 => (if (t112 == t113) = true then ((impl_MillValidValue.f t105 t106 t107).bind fun t114 => ((spec_MillValidValue.f t105 t106 t107).bind fun t115 => (some (t114 == t115)))) else (some false)))) = some r := by rw [if_pos rfl] at H; exact H
          clear H
          have H := H1
          clear H1
          replace H := Option.bind_eq_some_iff.mp H
          obtain ⟨t112, A390, H⟩ := H
          replace H : ((spec_MillValidValue.f t102 t103 t104).bind fun t113 => (if (t112 == t113) = true then ((impl_MillValidValue.f t105 t106 t107).bind fun t114 => ((spec_MillValidValue.f t105 t106 t107).bind fun t115 => (some (t114 == t115)))) else (some false))) = some r := H
          have A39 := Aside0.mk A390
          clear A390
          replace H := Option.bind_eq_some_iff.mp H
          obtain ⟨t113, A400, H⟩ := H
          replace H : (if (t112 == t113) = true then ((impl_MillValidValue.f t105 t106 t107).bind fun t114 => ((spec_MillValidValue.f t105 t106 t107).bind fun t115 => (some (t114 == t115)))) else (some false)) = some r := H
          have A40 := Aside0.mk A400
          clear A400
          by_cases c41 : (t112 == t113) = true
          · rw [if_pos c41] at H
            have c41b0 : (t112 == t113) = true := c41
            (try (have c41b1 : decide (t112 = t113) = true := by simpa using c41))
            (try (have c41b2 : (t112 == t113) = true := by simpa using c41))
            clear c41
            replace H := Option.bind_eq_some_iff.mp H
            obtain ⟨t114, A420, H⟩ := H
            replace H : ((spec_MillValidValue.f t105 t106 t107).bind fun t115 => (some (t114 == t115))) = some r := H
            have A42 := Aside0.mk A420
            clear A420
            replace H := Option.bind_eq_some_iff.mp H
            obtain ⟨t115, A430, H⟩ := H
            replace H : (some (t114 == t115)) = some r := H
            have A43 := Aside0.mk A430
            clear A430
            obtain rfl := Option.some.inj H
            try go_wp2
            have n0_ := Aside0.mk (blk_drew BK108.out)
            have n1_ := Aside0.mk (blk_drew BK109.out)
            have n2_ := Aside0.mk (below_drew1 HB.out)
            clear BK108
            clear BK109
            clear HB
            have BK108 := n0_
            have BK109 := n1_
            have HB := n2_
            clear n0_ n1_ n2_
            refine start_ (n := 13) (S := fun w' => w'.cell? ⟨gb108, 0, none⟩ = some (.int .i64 t102) ∧ w'.cell? ⟨gb108, 1, none⟩ = some (.int .i64 t103) ∧ w'.cell? ⟨gb108, 2, none⟩ = some (.string t104) ∧ w'.cell? ⟨gb109, 0, none⟩ = some (.int .i64 t105) ∧ w'.cell? ⟨gb109, 1, none⟩ = some (.int .i64 t106) ∧ w'.cell? ⟨gb109, 2, none⟩ = some (.string t107)) (ds := []) #[false, false, false, false, false, false, false, false, false, false, false, false, false] (by kernel_rfl) rfl rfl ⟨(blk_cell BK108.out 0).trans rfl, (blk_cell BK108.out 1).trans rfl, (blk_cell BK108.out 2).trans rfl, (blk_cell BK109.out 0).trans rfl, (blk_cell BK109.out 1).trans rfl, (blk_cell BK109.out 2).trans rfl⟩ (fun hHeld => ?_); refine with_tabW laws_FnMillBits.tab5 laws_FnMillBits.bits5 (fun HT_ HW_ => ?_)
            generalize wc.drew = w44 at BK108 BK109 HB hHeld ⊢
            refine take_ (i := 0) (N := some 51) (v := ?_) (a' := ?_) #[true, false, false, false, false, false, false, false, false, false, false, false, false] rfl rfl (take_ofW HT_.out HW_.out (by kernel_rfl)) (fun _ _ _ h => h) (Or.inl ⟨by rfl, ?_⟩) hHeld ?_ ?_
            rotate_left
            · rintro w' ⟨s0, s1, s2, s3, s4, s5⟩
              go_simp
              with_reducible rfl
            rotate_left
            · simp only [Act.put, List.setIfInBounds_toArray, List.set_cons_zero, List.set_cons_succ, i64_w, i32_w]
              rfl
            refine take_ (i := 2) (N := some 53) (v := ?_) (a' := ?_) #[true, false, true, false, false, false, false, false, false, false, false, false, false] rfl rfl (take_ofW HT_.out HW_.out (by kernel_rfl)) (fun _ _ _ h => h) (Or.inl ⟨by rfl, ?_⟩) hHeld ?_ ?_
            rotate_left
            · rintro w' ⟨s0, s1, s2, s3, s4, s5⟩
              go_simp
              with_reducible rfl
            rotate_left
            · simp only [Act.put, List.setIfInBounds_toArray, List.set_cons_zero, List.set_cons_succ, i64_w, i32_w]
              rfl
            refine one_ (i := 1) (N := some 52) #[true, true, true, false, false, false, false, false, false, false, false, false, false] rfl rfl (one_of HT_.out (by kernel_rfl)) (by decide) (fun K hK => ?_)
            refine goes_ Try.func24 (by kernel_rfl) rfl #[.agg #[.int .i64 t102, .int .i64 t103, .string t104]] (by rfl) rfl rfl (by (try simp only [List.map_toArray, List.map_cons, List.map_nil]); first | done | rfl | (simp only [List.length_drop, List.length_take]; rfl)) ?_
            with_reducible refine (impl_MillValidValue.calls t102 t103 t104 t112 _ A39.out).mono ?_
            rintro e w45 ⟨rfl, hb⟩
            refine ⟨_, rfl, ?_⟩
            have n0_ := kB BK108 hb
            have n1_ := kB BK109 hb
            have n2_ := kS HB hb
            clear BK108
            clear BK109
            clear HB
            have BK108 := n0_
            have BK109 := n1_
            have HB := n2_
            clear n0_ n1_ n2_
            (try clear hb)
            (try clear hb2)
            (try clear hk)
            (try clear hi)
            refine hK.out _ _ ⟨(blk_cell BK108.out 0).trans rfl, (blk_cell BK108.out 1).trans rfl, (blk_cell BK108.out 2).trans rfl, (blk_cell BK109.out 0).trans rfl, (blk_cell BK109.out 1).trans rfl, (blk_cell BK109.out 2).trans rfl⟩ (fun hHeld => ?_)
            clear hK K
            refine norm_ (a' := ?_) ?_ ?_
            rotate_left
            · show Act.put _ (some 52) _ = _
              simp only [Act.put, List.setIfInBounds_toArray, List.set_cons_zero, List.set_cons_succ, i64_w, i32_w]
              rfl
            refine one_ (i := 3) (N := some 54) #[true, true, true, true, false, false, false, false, false, false, false, false, false] rfl rfl (one_of HT_.out (by kernel_rfl)) (by decide) (fun K hK => ?_)
            refine goes_ Try.func22 (by kernel_rfl) rfl #[.agg #[.int .i64 t102, .int .i64 t103, .string t104]] (by rfl) rfl rfl (by (try simp only [List.map_toArray, List.map_cons, List.map_nil]); first | done | rfl | (simp only [List.length_drop, List.length_take]; rfl)) ?_
            with_reducible refine (spec_MillValidValue.calls t102 t103 t104 t113 _ A40.out).mono ?_
            rintro e w46 ⟨rfl, hb⟩
            refine ⟨_, rfl, ?_⟩
            have n0_ := kB BK108 hb
            have n1_ := kB BK109 hb
            have n2_ := kS HB hb
            clear BK108
            clear BK109
            clear HB
            have BK108 := n0_
            have BK109 := n1_
            have HB := n2_
            clear n0_ n1_ n2_
            (try clear hb)
            (try clear hb2)
            (try clear hk)
            (try clear hi)
            refine hK.out _ _ ⟨(blk_cell BK108.out 0).trans rfl, (blk_cell BK108.out 1).trans rfl, (blk_cell BK108.out 2).trans rfl, (blk_cell BK109.out 0).trans rfl, (blk_cell BK109.out 1).trans rfl, (blk_cell BK109.out 2).trans rfl⟩ (fun hHeld => ?_)
            clear hK K
            refine norm_ (a' := ?_) ?_ ?_
            rotate_left
            · show Act.put _ (some 54) _ = _
              simp only [Act.put, List.setIfInBounds_toArray, List.set_cons_zero, List.set_cons_succ, i64_w, i32_w]
              rfl
            refine pure_ (i := 4) (N := some 55) (v := ?_) (a' := ?_) #[true, true, true, true, true, false, false, false, false, false, false, false, false] rfl rfl (any_of HT_.out (by kernel_rfl)) (fun _ _ _ h => h) (Or.inl ⟨by rfl, ?_⟩) ?_ ?_
            rotate_left
            · intro w'
              go_simp
              with_reducible rfl
            rotate_left
            · simp only [Act.put, List.setIfInBounds_toArray, List.set_cons_zero, List.set_cons_succ, i64_w, i32_w]
              rfl
            refine pure_ (i := 5) (N := some 56) (v := ?_) (a' := ?_) #[true, true, true, true, true, true, false, false, false, false, false, false, false] rfl rfl (any_of HT_.out (by kernel_rfl)) (fun _ _ _ h => h) (Or.inl ⟨by rfl, ?_⟩) ?_ ?_
            rotate_left
            · intro w'
              go_simp
              with_reducible rfl
            rotate_left
            · simp only [Act.put, List.setIfInBounds_toArray, List.set_cons_zero, List.set_cons_succ, i64_w, i32_w]
              rfl
            refine take_ (i := 6) (N := some 57) (v := ?_) (a' := ?_) #[true, true, true, true, true, true, true, false, false, false, false, false, false] rfl rfl (take_ofW HT_.out HW_.out (by kernel_rfl)) (fun _ _ _ h => h) (Or.inl ⟨by rfl, ?_⟩) hHeld ?_ ?_
            rotate_left
            · rintro w' ⟨s0, s1, s2, s3, s4, s5⟩
              go_simp
              with_reducible rfl
            rotate_left
            · simp only [Act.put, List.setIfInBounds_toArray, List.set_cons_zero, List.set_cons_succ, i64_w, i32_w]
              rfl
            refine take_ (i := 8) (N := some 59) (v := ?_) (a' := ?_) #[true, true, true, true, true, true, true, false, true, false, false, false, false] rfl rfl (take_ofW HT_.out HW_.out (by kernel_rfl)) (fun _ _ _ h => h) (Or.inl ⟨by rfl, ?_⟩) hHeld ?_ ?_
            rotate_left
            · rintro w' ⟨s0, s1, s2, s3, s4, s5⟩
              go_simp
              with_reducible rfl
            rotate_left
            · simp only [Act.put, List.setIfInBounds_toArray, List.set_cons_zero, List.set_cons_succ, i64_w, i32_w]
              rfl
            refine one_ (i := 7) (N := some 58) #[true, true, true, true, true, true, true, true, true, false, false, false, false] rfl rfl (one_of HT_.out (by kernel_rfl)) (by decide) (fun K hK => ?_)
            refine goes_ Try.func24 (by kernel_rfl) rfl #[.agg #[.int .i64 t105, .int .i64 t106, .string t107]] (by rfl) rfl rfl (by (try simp only [List.map_toArray, List.map_cons, List.map_nil]); first | done | rfl | (simp only [List.length_drop, List.length_take]; rfl)) ?_
            with_reducible refine (impl_MillValidValue.calls t105 t106 t107 t114 _ A42.out).mono ?_
            rintro e w47 ⟨rfl, hb⟩
            refine ⟨_, rfl, ?_⟩
            have n0_ := kB BK108 hb
            have n1_ := kB BK109 hb
            have n2_ := kS HB hb
            clear BK108
            clear BK109
            clear HB
            have BK108 := n0_
            have BK109 := n1_
            have HB := n2_
            clear n0_ n1_ n2_
            (try clear hb)
            (try clear hb2)
            (try clear hk)
            (try clear hi)
            refine hK.out _ _ ⟨(blk_cell BK108.out 0).trans rfl, (blk_cell BK108.out 1).trans rfl, (blk_cell BK108.out 2).trans rfl, (blk_cell BK109.out 0).trans rfl, (blk_cell BK109.out 1).trans rfl, (blk_cell BK109.out 2).trans rfl⟩ (fun hHeld => ?_)
            clear hK K
            refine norm_ (a' := ?_) ?_ ?_
            rotate_left
            · show Act.put _ (some 58) _ = _
              simp only [Act.put, List.setIfInBounds_toArray, List.set_cons_zero, List.set_cons_succ, i64_w, i32_w]
              rfl
            refine one_ (i := 9) (N := some 60) #[true, true, true, true, true, true, true, true, true, true, false, false, false] rfl rfl (one_of HT_.out (by kernel_rfl)) (by decide) (fun K hK => ?_)
            refine goes_ Try.func22 (by kernel_rfl) rfl #[.agg #[.int .i64 t105, .int .i64 t106, .string t107]] (by rfl) rfl rfl (by (try simp only [List.map_toArray, List.map_cons, List.map_nil]); first | done | rfl | (simp only [List.length_drop, List.length_take]; rfl)) ?_
            with_reducible refine (spec_MillValidValue.calls t105 t106 t107 t115 _ A43.out).mono ?_
            rintro e w48 ⟨rfl, hb⟩
            refine ⟨_, rfl, ?_⟩
            have n0_ := kB BK108 hb
            have n1_ := kB BK109 hb
            have n2_ := kS HB hb
            clear BK108
            clear BK109
            clear HB
            have BK108 := n0_
            have BK109 := n1_
            have HB := n2_
            clear n0_ n1_ n2_
            (try clear hb)
            (try clear hb2)
            (try clear hk)
            (try clear hi)
            refine hK.out _ _ ⟨(blk_cell BK108.out 0).trans rfl, (blk_cell BK108.out 1).trans rfl, (blk_cell BK108.out 2).trans rfl, (blk_cell BK109.out 0).trans rfl, (blk_cell BK109.out 1).trans rfl, (blk_cell BK109.out 2).trans rfl⟩ (fun hHeld => ?_)
            clear hK K
            refine norm_ (a' := ?_) ?_ ?_
            rotate_left
            · show Act.put _ (some 60) _ = _
              simp only [Act.put, List.setIfInBounds_toArray, List.set_cons_zero, List.set_cons_succ, i64_w, i32_w]
              rfl
            refine pure_ (i := 10) (N := some 61) (v := ?_) (a' := ?_) #[true, true, true, true, true, true, true, true, true, true, true, false, false] rfl rfl (any_of HT_.out (by kernel_rfl)) (fun _ _ _ h => h) (Or.inl ⟨by rfl, ?_⟩) ?_ ?_
            rotate_left
            · intro w'
              go_simp
              with_reducible rfl
            rotate_left
            · simp only [Act.put, List.setIfInBounds_toArray, List.set_cons_zero, List.set_cons_succ, i64_w, i32_w]
              rfl
            refine pure_ (i := 11) (N := some 62) (v := ?_) (a' := ?_) #[true, true, true, true, true, true, true, true, true, true, true, true, false] rfl rfl (any_of HT_.out (by kernel_rfl)) (fun _ _ _ h => h) (Or.inl ⟨by rfl, ?_⟩) ?_ ?_
            rotate_left
            · intro w'
              go_simp
              with_reducible rfl
            rotate_left
            · simp only [Act.put, List.setIfInBounds_toArray, List.set_cons_zero, List.set_cons_succ, i64_w, i32_w]
              rfl
            refine pure_ (i := 12) (N := some 2) (v := ?_) (a' := ?_) #[true, true, true, true, true, true, true, true, true, true, true, true, true] rfl rfl (any_of HT_.out (by kernel_rfl)) (fun _ _ _ h => h) (Or.inl ⟨by rfl, ?_⟩) ?_ ?_
            rotate_left
            · intro w'
              go_simp
              with_reducible rfl
            rotate_left
            · simp only [Act.put, List.setIfInBounds_toArray, List.set_cons_zero, List.set_cons_succ, i64_w, i32_w]
              rfl
            refine done_ (done_of HT_.out (by kernel_rfl)) ?_
            try go_wp2
            go_ret
            exact ⟨by first | rfl | (simp [errW_none, errW_some] <;> rfl) | (simp [*, errW_none, errW_some] <;> rfl), kb HB⟩
          · rw [if_neg c41] at H
            have c41b0 : (t112 == t113) = false := by simpa using c41
            (try (have c41b1 : decide (t112 = t113) = false := by simpa using c41))
            (try (have c41b2 : (t112 == t113) = false := by simpa using c41))
            (try (have c41b3 : ¬ (t112 = t113) := by simpa using c41))
            clear c41
            obtain rfl := Option.some.inj H
            try go_wp2
            have n0_ := Aside0.mk (blk_drew BK108.out)
            have n1_ := Aside0.mk (blk_drew BK109.out)
            have n2_ := Aside0.mk (below_drew1 HB.out)
            clear BK108
            clear BK109
            clear HB
            have BK108 := n0_
            have BK109 := n1_
            have HB := n2_
            clear n0_ n1_ n2_
            refine start_ (n := 13) (S := fun w' => w'.cell? ⟨gb108, 0, none⟩ = some (.int .i64 t102) ∧ w'.cell? ⟨gb108, 1, none⟩ = some (.int .i64 t103) ∧ w'.cell? ⟨gb108, 2, none⟩ = some (.string t104)) (ds := []) #[false, false, false, false, false, false, false, false, false, false, false, false, false] (by kernel_rfl) rfl rfl ⟨(blk_cell BK108.out 0).trans rfl, (blk_cell BK108.out 1).trans rfl, (blk_cell BK108.out 2).trans rfl⟩ (fun hHeld => ?_); refine with_tabW laws_FnMillBits.tab5 laws_FnMillBits.bits5 (fun HT_ HW_ => ?_)
            generalize wc.drew = w49 at BK108 BK109 HB hHeld ⊢
            refine take_ (i := 0) (N := some 51) (v := ?_) (a' := ?_) #[true, false, false, false, false, false, false, false, false, false, false, false, false] rfl rfl (take_ofW HT_.out HW_.out (by kernel_rfl)) (fun _ _ _ h => h) (Or.inl ⟨by rfl, ?_⟩) hHeld ?_ ?_
            rotate_left
            · rintro w' ⟨s0, s1, s2⟩
              go_simp
              with_reducible rfl
            rotate_left
            · simp only [Act.put, List.setIfInBounds_toArray, List.set_cons_zero, List.set_cons_succ, i64_w, i32_w]
              rfl
            refine take_ (i := 2) (N := some 53) (v := ?_) (a' := ?_) #[true, false, true, false, false, false, false, false, false, false, false, false, false] rfl rfl (take_ofW HT_.out HW_.out (by kernel_rfl)) (fun _ _ _ h => h) (Or.inl ⟨by rfl, ?_⟩) hHeld ?_ ?_
            rotate_left
            · rintro w' ⟨s0, s1, s2⟩
              go_simp
              with_reducible rfl
            rotate_left
            · simp only [Act.put, List.setIfInBounds_toArray, List.set_cons_zero, List.set_cons_succ, i64_w, i32_w]
              rfl
            refine one_ (i := 1) (N := some 52) #[true, true, true, false, false, false, false, false, false, false, false, false, false] rfl rfl (one_of HT_.out (by kernel_rfl)) (by decide) (fun K hK => ?_)
            refine goes_ Try.func24 (by kernel_rfl) rfl #[.agg #[.int .i64 t102, .int .i64 t103, .string t104]] (by rfl) rfl rfl (by (try simp only [List.map_toArray, List.map_cons, List.map_nil]); first | done | rfl | (simp only [List.length_drop, List.length_take]; rfl)) ?_
            with_reducible refine (impl_MillValidValue.calls t102 t103 t104 t112 _ A39.out).mono ?_
            rintro e w50 ⟨rfl, hb⟩
            refine ⟨_, rfl, ?_⟩
            have n0_ := kB BK108 hb
            have n1_ := kB BK109 hb
            have n2_ := kS HB hb
            clear BK108
            clear BK109
            clear HB
            have BK108 := n0_
            have BK109 := n1_
            have HB := n2_
            clear n0_ n1_ n2_
            (try clear hb)
            (try clear hb2)
            (try clear hk)
            (try clear hi)
            refine hK.out _ _ ⟨(blk_cell BK108.out 0).trans rfl, (blk_cell BK108.out 1).trans rfl, (blk_cell BK108.out 2).trans rfl⟩ (fun hHeld => ?_)
            clear hK K
            refine norm_ (a' := ?_) ?_ ?_
            rotate_left
            · show Act.put _ (some 52) _ = _
              simp only [Act.put, List.setIfInBounds_toArray, List.set_cons_zero, List.set_cons_succ, i64_w, i32_w]
              rfl
            refine one_ (i := 3) (N := some 54) #[true, true, true, true, false, false, false, false, false, false, false, false, false] rfl rfl (one_of HT_.out (by kernel_rfl)) (by decide) (fun K hK => ?_)
            refine goes_ Try.func22 (by kernel_rfl) rfl #[.agg #[.int .i64 t102, .int .i64 t103, .string t104]] (by rfl) rfl rfl (by (try simp only [List.map_toArray, List.map_cons, List.map_nil]); first | done | rfl | (simp only [List.length_drop, List.length_take]; rfl)) ?_
            with_reducible refine (spec_MillValidValue.calls t102 t103 t104 t113 _ A40.out).mono ?_
            rintro e w51 ⟨rfl, hb⟩
            refine ⟨_, rfl, ?_⟩
            have n0_ := kB BK108 hb
            have n1_ := kB BK109 hb
            have n2_ := kS HB hb
            clear BK108
            clear BK109
            clear HB
            have BK108 := n0_
            have BK109 := n1_
            have HB := n2_
            clear n0_ n1_ n2_
            (try clear hb)
            (try clear hb2)
            (try clear hk)
            (try clear hi)
            refine hK.out _ _ ⟨(blk_cell BK108.out 0).trans rfl, (blk_cell BK108.out 1).trans rfl, (blk_cell BK108.out 2).trans rfl⟩ (fun hHeld => ?_)
            clear hK K
            refine norm_ (a' := ?_) ?_ ?_
            rotate_left
            · show Act.put _ (some 54) _ = _
              simp only [Act.put, List.setIfInBounds_toArray, List.set_cons_zero, List.set_cons_succ, i64_w, i32_w]
              rfl
            refine pure_ (i := 4) (N := some 55) (v := ?_) (a' := ?_) #[true, true, true, true, true, false, false, false, false, false, false, false, false] rfl rfl (any_of HT_.out (by kernel_rfl)) (fun _ _ _ h => h) (Or.inl ⟨by rfl, ?_⟩) ?_ ?_
            rotate_left
            · intro w'
              go_simp
              with_reducible rfl
            rotate_left
            · simp only [Act.put, List.setIfInBounds_toArray, List.set_cons_zero, List.set_cons_succ, i64_w, i32_w]
              rfl
            refine pure_ (i := 5) (N := some 56) (v := ?_) (a' := ?_) #[true, true, true, true, true, true, false, false, false, false, false, false, false] rfl rfl (any_of HT_.out (by kernel_rfl)) (fun _ _ _ h => h) (Or.inl ⟨by rfl, ?_⟩) ?_ ?_
            rotate_left
            · intro w'
              go_simp
              with_reducible rfl
            rotate_left
            · simp only [Act.put, List.setIfInBounds_toArray, List.set_cons_zero, List.set_cons_succ, i64_w, i32_w]
              rfl
            refine pure_ (i := 6) (N := some 57) (v := undef) (a' := ?_) #[true, true, true, true, true, true, true, false, false, false, false, false, false] rfl rfl (any_of HT_.out (by kernel_rfl)) (fun _ _ _ h => h) (Or.inr ⟨by rfl, rfl⟩) ?_ ?_
            rotate_left
            · simp only [Act.put, List.setIfInBounds_toArray, List.set_cons_zero, List.set_cons_succ, i64_w, i32_w]
              rfl
            refine pure_ (i := 7) (N := some 58) (v := undef) (a' := ?_) #[true, true, true, true, true, true, true, true, false, false, false, false, false] rfl rfl (any_of HT_.out (by kernel_rfl)) (fun _ _ _ h => h) (Or.inr ⟨by rfl, rfl⟩) ?_ ?_
            rotate_left
            · simp only [Act.put, List.setIfInBounds_toArray, List.set_cons_zero, List.set_cons_succ, i64_w, i32_w]
              rfl
            refine pure_ (i := 8) (N := some 59) (v := undef) (a' := ?_) #[true, true, true, true, true, true, true, true, true, false, false, false, false] rfl rfl (any_of HT_.out (by kernel_rfl)) (fun _ _ _ h => h) (Or.inr ⟨by rfl, rfl⟩) ?_ ?_
            rotate_left
            · simp only [Act.put, List.setIfInBounds_toArray, List.set_cons_zero, List.set_cons_succ, i64_w, i32_w]
              rfl
            refine pure_ (i := 9) (N := some 60) (v := undef) (a' := ?_) #[true, true, true, true, true, true, true, true, true, true, false, false, false] rfl rfl (any_of HT_.out (by kernel_rfl)) (fun _ _ _ h => h) (Or.inr ⟨by rfl, rfl⟩) ?_ ?_
            rotate_left
            · simp only [Act.put, List.setIfInBounds_toArray, List.set_cons_zero, List.set_cons_succ, i64_w, i32_w]
              rfl
            refine pure_ (i := 10) (N := some 61) (v := undef) (a' := ?_) #[true, true, true, true, true, true, true, true, true, true, true, false, false] rfl rfl (any_of HT_.out (by kernel_rfl)) (fun _ _ _ h => h) (Or.inr ⟨by rfl, rfl⟩) ?_ ?_
            rotate_left
            · simp only [Act.put, List.setIfInBounds_toArray, List.set_cons_zero, List.set_cons_succ, i64_w, i32_w]
              rfl
            refine pure_ (i := 11) (N := some 62) (v := ?_) (a' := ?_) #[true, true, true, true, true, true, true, true, true, true, true, true, false] rfl rfl (any_of HT_.out (by kernel_rfl)) (fun _ _ _ h => h) (Or.inl ⟨by rfl, ?_⟩) ?_ ?_
            rotate_left
            · intro w'
              go_simp
              with_reducible rfl
            rotate_left
            · simp only [Act.put, List.setIfInBounds_toArray, List.set_cons_zero, List.set_cons_succ, i64_w, i32_w]
              rfl
            refine pure_ (i := 12) (N := some 2) (v := ?_) (a' := ?_) #[true, true, true, true, true, true, true, true, true, true, true, true, true] rfl rfl (any_of HT_.out (by kernel_rfl)) (fun _ _ _ h => h) (Or.inl ⟨by rfl, ?_⟩) ?_ ?_
            rotate_left
            · intro w'
              go_simp
              with_reducible rfl
            rotate_left
            · simp only [Act.put, List.setIfInBounds_toArray, List.set_cons_zero, List.set_cons_succ, i64_w, i32_w]
              rfl
            refine done_ (done_of HT_.out (by kernel_rfl)) ?_
            try go_wp2
            go_ret
            exact ⟨by first | rfl | (simp [errW_none, errW_some] <;> rfl) | (simp [*, errW_none, errW_some] <;> rfl), kb HB⟩
        · replace c38 := Bool.eq_false_iff.mpr c38
          subst c38
          have H1 : ((bits_MillBinary.f kj3 11 t102 t103 t104 t105 t106 t107).bind fun bt116 => ((bits_MillBinary.f kj3 16 t102 t103 t104 t105 t106 t107).bind fun bt121 => ((bits_MillBinary.f kj3 12 t102 t103 t104 t105 t106 t107).bind fun bt126 => ((bits_MillBinary.f kj3 9 bt121.1 bt121.2.1 bt121.2.2.1 bt126.1 bt126.2.1 bt126.2.2.1).bind fun bt131 => (if bt116.2.2.2.size + bt121.2.2.2.size ≤ 9223372036854775807 then (if (bt116.2.2.2 ++ bt121.2.2.2).size + bt126.2.2.2.size ≤ 9223372036854775807 then (if ((bt116.2.2.2 ++ bt121.2.2.2) ++ bt126.2.2.2).size + bt131.2.2.2.size ≤ 9223372036854775807 then (if (((bt116.2.2.2 ++ bt121.2.2.2) ++ bt126.2.2.2) ++ bt131.2.2.2).toList = ([] : List UInt8) then (laws_FnMillBits.j1 kj3 l0 (!(bt131.1 == bt116.1) || (!(bt131.2.1 == bt116.2.1) || (!(bt131.2.2.1.toList == bt116.2.2.1.toList)))) t102 t103 t104) else (laws_FnMillBits.j1 kj3 l0 true t102 t103 t104)) else (none)) else (none)) else (none)))))) = some r := by rw [if_neg (show ¬ (false = true) by decide)] at H; exact H
          clear H
          have H := H1
          clear H1
          replace H := Option.bind_eq_some_iff.mp H
          obtain ⟨⟨t116, t117, t118, t119⟩, A520, H⟩ := H
          replace H : ((bits_MillBinary.f kj3 16 t102 t103 t104 t105 t106 t107).bind fun bt121 => ((bits_MillBinary.f kj3 12 t102 t103 t104 t105 t106 t107).bind fun bt126 => ((bits_MillBinary.f kj3 9 bt121.1 bt121.2.1 bt121.2.2.1 bt126.1 bt126.2.1 bt126.2.2.1).bind fun bt131 => (if t119.size + bt121.2.2.2.size ≤ 9223372036854775807 then (if (t119 ++ bt121.2.2.2).size + bt126.2.2.2.size ≤ 9223372036854775807 then (if ((t119 ++ bt121.2.2.2) ++ bt126.2.2.2).size + bt131.2.2.2.size ≤ 9223372036854775807 then (if (((t119 ++ bt121.2.2.2) ++ bt126.2.2.2) ++ bt131.2.2.2).toList = ([] : List UInt8) then (laws_FnMillBits.j1 kj3 l0 (!(bt131.1 == t116) || (!(bt131.2.1 == t117) || (!(bt131.2.2.1.toList == t118.toList)))) t102 t103 t104) else (laws_FnMillBits.j1 kj3 l0 true t102 t103 t104)) else (none)) else (none)) else (none))))) = some r := H
          have A52 := Aside0.mk A520
          clear A520
          replace H := Option.bind_eq_some_iff.mp H
          obtain ⟨⟨t121, t122, t123, t124⟩, A530, H⟩ := H
          replace H : ((bits_MillBinary.f kj3 12 t102 t103 t104 t105 t106 t107).bind fun bt126 => ((bits_MillBinary.f kj3 9 t121 t122 t123 bt126.1 bt126.2.1 bt126.2.2.1).bind fun bt131 => (if t119.size + t124.size ≤ 9223372036854775807 then (if (t119 ++ t124).size + bt126.2.2.2.size ≤ 9223372036854775807 then (if ((t119 ++ t124) ++ bt126.2.2.2).size + bt131.2.2.2.size ≤ 9223372036854775807 then (if (((t119 ++ t124) ++ bt126.2.2.2) ++ bt131.2.2.2).toList = ([] : List UInt8) then (laws_FnMillBits.j1 kj3 l0 (!(bt131.1 == t116) || (!(bt131.2.1 == t117) || (!(bt131.2.2.1.toList == t118.toList)))) t102 t103 t104) else (laws_FnMillBits.j1 kj3 l0 true t102 t103 t104)) else (none)) else (none)) else (none)))) = some r := H
          have A53 := Aside0.mk A530
          clear A530
          replace H := Option.bind_eq_some_iff.mp H
          obtain ⟨⟨t126, t127, t128, t129⟩, A540, H⟩ := H
          replace H : ((bits_MillBinary.f kj3 9 t121 t122 t123 t126 t127 t128).bind fun bt131 => (if t119.size + t124.size ≤ 9223372036854775807 then (if (t119 ++ t124).size + t129.size ≤ 9223372036854775807 then (if ((t119 ++ t124) ++ t129).size + bt131.2.2.2.size ≤ 9223372036854775807 then (if (((t119 ++ t124) ++ t129) ++ bt131.2.2.2).toList = ([] : List UInt8) then (laws_FnMillBits.j1 kj3 l0 (!(bt131.1 == t116) || (!(bt131.2.1 == t117) || (!(bt131.2.2.1.toList == t118.toList)))) t102 t103 t104) else (laws_FnMillBits.j1 kj3 l0 true t102 t103 t104)) else (none)) else (none)) else (none))) = some r := H
          have A54 := Aside0.mk A540
          clear A540
          replace H := Option.bind_eq_some_iff.mp H
          obtain ⟨⟨t131, t132, t133, t134⟩, A550, H⟩ := H
          replace H : (if t119.size + t124.size ≤ 9223372036854775807 then (if (t119 ++ t124).size + t129.size ≤ 9223372036854775807 then (if ((t119 ++ t124) ++ t129).size + t134.size ≤ 9223372036854775807 then (if (((t119 ++ t124) ++ t129) ++ t134).toList = ([] : List UInt8) then (laws_FnMillBits.j1 kj3 l0 (!(t131 == t116) || (!(t132 == t117) || (!(t133.toList == t118.toList)))) t102 t103 t104) else (laws_FnMillBits.j1 kj3 l0 true t102 t103 t104)) else (none)) else (none)) else (none)) = some r := H
          have A55 := Aside0.mk A550
          clear A550
          have HC56 := Aside0.mk H
          clear H
          have hnb57 := NB108_109.out
          have hnc57 := NB109_108.out
          obtain ⟨⟨hcz58_0, hcz58_1, hcz58_2⟩, hfz58_0, hfz58_1, hfz58_2⟩ := bf3 BK108
          obtain ⟨⟨hcz59_0, hcz59_1, hcz59_2⟩, hfz59_0, hfz59_1, hfz59_2⟩ := bf3 BK109
          go_upto_region 10 with (first | ((with_reducible refine gate_callee (f := 49) rfl ?_); refine gL (some 66) Try.func49 #[.int .i64 11, .agg #[.int .i64 t102, .int .i64 t103, .string t104], .agg #[.int .i64 t105, .int .i64 t106, .string t107]] (bits_MillBinary.calls kj3 11 t102 t103 t104 t105 t106 t107 t116 t117 t118 t119 _ A52.out) ?_; intro w60 hb; replace BK108 := kB BK108 hb; replace BK109 := kB BK109 hb; replace HB := kS HB hb) | ((with_reducible refine gate_dst (N := 6) rfl ?_); refine gX 6 #[.int .i64 0, .int .i64 0, .string (⟨#[]⟩ : ByteArray)] 36 ?_; intro gb120 hg w61 hbox hb; have BK120 := Aside0.mk (hbox); have GW120 := gw hg (kb HB); have GE120 := gw hg (kb HB); have NB108_120 := nl hg (kp BK108); have NB120_108 := ng hg (kp BK108); have NB109_120 := nl hg (kp BK109); have NB120_109 := ng hg (kp BK109); replace BK108 := kB BK108 hb; replace BK109 := kB BK109 hb; replace HB := kS HB hb; clear hb hbox hg; have hnb62 := NB120_108.out; have hnc62 := NB108_120.out; have hnb63 := NB120_109.out; have hnc63 := NB109_120.out; obtain ⟨⟨hcz64_0, hcz64_1, hcz64_2⟩, hfz64_0, hfz64_1, hfz64_2⟩ := bf3 BK120; obtain ⟨⟨hcz65_0, hcz65_1, hcz65_2⟩, hfz65_0, hfz65_1, hfz65_2⟩ := bf3 BK108; obtain ⟨⟨hcz66_0, hcz66_1, hcz66_2⟩, hfz66_0, hfz66_1, hfz66_2⟩ := bf3 BK109) | ((with_reducible refine gate_callee (f := 49) rfl ?_); refine gL (some 72) Try.func49 #[.int .i64 16, .agg #[.int .i64 t102, .int .i64 t103, .string t104], .agg #[.int .i64 t105, .int .i64 t106, .string t107]] (bits_MillBinary.calls kj3 16 t102 t103 t104 t105 t106 t107 t121 t122 t123 t124 _ A53.out) ?_; intro w67 hb; replace BK108 := Aside0.mk (blk_below (g := gb108) (o := .cells #[.int .i64 t102, .int .i64 t103, .string t104] 36 (0, 0)) (by (with_reducible repeat (first | refine blk_drewN ?_ _ | refine blk_drew ?_ | refine blk_alloc ?_ _)); refine blk_far ?_ NB108_120.out _; (with_reducible repeat (first | refine blk_drewN ?_ _ | refine blk_drew ?_ | refine blk_alloc ?_ _)); refine blk_far ?_ NB108_120.out _; (with_reducible repeat (first | refine blk_drewN ?_ _ | refine blk_drew ?_ | refine blk_alloc ?_ _)); refine blk_far ?_ NB108_120.out _; (with_reducible repeat (first | refine blk_drewN ?_ _ | refine blk_drew ?_ | refine blk_alloc ?_ _)); exact BK108.out) hb); replace BK109 := Aside0.mk (blk_below (g := gb109) (o := .cells #[.int .i64 t105, .int .i64 t106, .string t107] 36 (0, 0)) (by (with_reducible repeat (first | refine blk_drewN ?_ _ | refine blk_drew ?_ | refine blk_alloc ?_ _)); refine blk_far ?_ NB109_120.out _; (with_reducible repeat (first | refine blk_drewN ?_ _ | refine blk_drew ?_ | refine blk_alloc ?_ _)); refine blk_far ?_ NB109_120.out _; (with_reducible repeat (first | refine blk_drewN ?_ _ | refine blk_drew ?_ | refine blk_alloc ?_ _)); refine blk_far ?_ NB109_120.out _; (with_reducible repeat (first | refine blk_drewN ?_ _ | refine blk_drew ?_ | refine blk_alloc ?_ _)); exact BK109.out) hb); replace BK120 := Aside0.mk (blk_below (g := gb120) (o := .cells #[.int .i64 t116, .int .i64 t117, .string t118] 36 (0, 0)) (by (with_reducible repeat (first | refine blk_drewN ?_ _ | refine blk_drew ?_ | refine blk_alloc ?_ _)); refine blk_put (cs := #[.int .i64 t116, .int .i64 t117, .string (⟨#[]⟩ : ByteArray)]) ?_ 2 _ rfl; (with_reducible repeat (first | refine blk_drewN ?_ _ | refine blk_drew ?_ | refine blk_alloc ?_ _)); refine blk_put (cs := #[.int .i64 t116, .int .i64 0, .string (⟨#[]⟩ : ByteArray)]) ?_ 1 _ rfl; (with_reducible repeat (first | refine blk_drewN ?_ _ | refine blk_drew ?_ | refine blk_alloc ?_ _)); refine blk_put (cs := #[.int .i64 0, .int .i64 0, .string (⟨#[]⟩ : ByteArray)]) ?_ 0 _ rfl; (with_reducible repeat (first | refine blk_drewN ?_ _ | refine blk_drew ?_ | refine blk_alloc ?_ _)); exact BK120.out) hb); replace HB := kS HB hb) | ((with_reducible refine gate_dst (N := 8) rfl ?_); refine gX 8 #[.int .i64 0, .int .i64 0, .string (⟨#[]⟩ : ByteArray)] 36 ?_; intro gb125 hg w68 hbox hb; have BK125 := Aside0.mk (hbox); have GW125 := gw hg (kb HB); have GE125 := gw hg (kb HB); have NB108_125 := nl hg (kp BK108); have NB125_108 := ng hg (kp BK108); have NB109_125 := nl hg (kp BK109); have NB125_109 := ng hg (kp BK109); have NB120_125 := nl hg (kp BK120); have NB125_120 := ng hg (kp BK120); replace BK108 := kB BK108 hb; replace BK109 := kB BK109 hb; replace BK120 := kB BK120 hb; replace HB := kS HB hb; clear hb hbox hg; have hnb69 := NB125_108.out; have hnc69 := NB108_125.out; have hnb70 := NB125_109.out; have hnc70 := NB109_125.out; have hnb71 := NB125_120.out; have hnc71 := NB120_125.out; obtain ⟨⟨hcz72_0, hcz72_1, hcz72_2⟩, hfz72_0, hfz72_1, hfz72_2⟩ := bf3 BK125; obtain ⟨⟨hcz73_0, hcz73_1, hcz73_2⟩, hfz73_0, hfz73_1, hfz73_2⟩ := bf3 BK108; obtain ⟨⟨hcz74_0, hcz74_1, hcz74_2⟩, hfz74_0, hfz74_1, hfz74_2⟩ := bf3 BK109) | ((with_reducible refine gate_callee (f := 49) rfl ?_); refine gL (some 78) Try.func49 #[.int .i64 12, .agg #[.int .i64 t102, .int .i64 t103, .string t104], .agg #[.int .i64 t105, .int .i64 t106, .string t107]] (bits_MillBinary.calls kj3 12 t102 t103 t104 t105 t106 t107 t126 t127 t128 t129 _ A54.out) ?_; intro w75 hb; replace BK108 := Aside0.mk (blk_below (g := gb108) (o := .cells #[.int .i64 t102, .int .i64 t103, .string t104] 36 (0, 0)) (by (with_reducible repeat (first | refine blk_drewN ?_ _ | refine blk_drew ?_ | refine blk_alloc ?_ _)); refine blk_far ?_ NB108_125.out _; (with_reducible repeat (first | refine blk_drewN ?_ _ | refine blk_drew ?_ | refine blk_alloc ?_ _)); refine blk_far ?_ NB108_125.out _; (with_reducible repeat (first | refine blk_drewN ?_ _ | refine blk_drew ?_ | refine blk_alloc ?_ _)); refine blk_far ?_ NB108_125.out _; (with_reducible repeat (first | refine blk_drewN ?_ _ | refine blk_drew ?_ | refine blk_alloc ?_ _)); exact BK108.out) hb); replace BK109 := Aside0.mk (blk_below (g := gb109) (o := .cells #[.int .i64 t105, .int .i64 t106, .string t107] 36 (0, 0)) (by (with_reducible repeat (first | refine blk_drewN ?_ _ | refine blk_drew ?_ | refine blk_alloc ?_ _)); refine blk_far ?_ NB109_125.out _; (with_reducible repeat (first | refine blk_drewN ?_ _ | refine blk_drew ?_ | refine blk_alloc ?_ _)); refine blk_far ?_ NB109_125.out _; (with_reducible repeat (first | refine blk_drewN ?_ _ | refine blk_drew ?_ | refine blk_alloc ?_ _)); refine blk_far ?_ NB109_125.out _; (with_reducible repeat (first | refine blk_drewN ?_ _ | refine blk_drew ?_ | refine blk_alloc ?_ _)); exact BK109.out) hb); replace BK120 := Aside0.mk (blk_below (g := gb120) (o := .cells #[.int .i64 t116, .int .i64 t117, .string t118] 36 (0, 0)) (by (with_reducible repeat (first | refine blk_drewN ?_ _ | refine blk_drew ?_ | refine blk_alloc ?_ _)); refine blk_far ?_ NB120_125.out _; (with_reducible repeat (first | refine blk_drewN ?_ _ | refine blk_drew ?_ | refine blk_alloc ?_ _)); refine blk_far ?_ NB120_125.out _; (with_reducible repeat (first | refine blk_drewN ?_ _ | refine blk_drew ?_ | refine blk_alloc ?_ _)); refine blk_far ?_ NB120_125.out _; (with_reducible repeat (first | refine blk_drewN ?_ _ | refine blk_drew ?_ | refine blk_alloc ?_ _)); exact BK120.out) hb); replace BK125 := Aside0.mk (blk_below (g := gb125) (o := .cells #[.int .i64 t121, .int .i64 t122, .string t123] 36 (0, 0)) (by (with_reducible repeat (first | refine blk_drewN ?_ _ | refine blk_drew ?_ | refine blk_alloc ?_ _)); refine blk_put (cs := #[.int .i64 t121, .int .i64 t122, .string (⟨#[]⟩ : ByteArray)]) ?_ 2 _ rfl; (with_reducible repeat (first | refine blk_drewN ?_ _ | refine blk_drew ?_ | refine blk_alloc ?_ _)); refine blk_put (cs := #[.int .i64 t121, .int .i64 0, .string (⟨#[]⟩ : ByteArray)]) ?_ 1 _ rfl; (with_reducible repeat (first | refine blk_drewN ?_ _ | refine blk_drew ?_ | refine blk_alloc ?_ _)); refine blk_put (cs := #[.int .i64 0, .int .i64 0, .string (⟨#[]⟩ : ByteArray)]) ?_ 0 _ rfl; (with_reducible repeat (first | refine blk_drewN ?_ _ | refine blk_drew ?_ | refine blk_alloc ?_ _)); exact BK125.out) hb); replace HB := kS HB hb) | ((with_reducible refine gate_dst (N := 10) rfl ?_); refine gX 10 #[.int .i64 0, .int .i64 0, .string (⟨#[]⟩ : ByteArray)] 36 ?_; intro gb130 hg w76 hbox hb; have BK130 := Aside0.mk (hbox); have GW130 := gw hg (kb HB); have GE130 := gw hg (kb HB); have NB108_130 := nl hg (kp BK108); have NB130_108 := ng hg (kp BK108); have NB109_130 := nl hg (kp BK109); have NB130_109 := ng hg (kp BK109); have NB120_130 := nl hg (kp BK120); have NB130_120 := ng hg (kp BK120); have NB125_130 := nl hg (kp BK125); have NB130_125 := ng hg (kp BK125); replace BK108 := kB BK108 hb; replace BK109 := kB BK109 hb; replace BK120 := kB BK120 hb; replace BK125 := kB BK125 hb; replace HB := kS HB hb; clear hb hbox hg; have hnb77 := NB130_108.out; have hnc77 := NB108_130.out; have hnb78 := NB130_109.out; have hnc78 := NB109_130.out; have hnb79 := NB130_120.out; have hnc79 := NB120_130.out; have hnb80 := NB130_125.out; have hnc80 := NB125_130.out; obtain ⟨⟨hcz81_0, hcz81_1, hcz81_2⟩, hfz81_0, hfz81_1, hfz81_2⟩ := bf3 BK130; obtain ⟨⟨hcz82_0, hcz82_1, hcz82_2⟩, hfz82_0, hfz82_1, hfz82_2⟩ := bf3 BK125) | ((with_reducible refine gate_callee (f := 49) rfl ?_); refine gL (some 84) Try.func49 #[.int .i64 9, .agg #[.int .i64 t121, .int .i64 t122, .string t123], .agg #[.int .i64 t126, .int .i64 t127, .string t128]] (bits_MillBinary.calls kj3 9 t121 t122 t123 t126 t127 t128 t131 t132 t133 t134 _ A55.out) ?_; intro w83 hb; replace BK108 := Aside0.mk (blk_below (g := gb108) (o := .cells #[.int .i64 t102, .int .i64 t103, .string t104] 36 (0, 0)) (by (with_reducible repeat (first | refine blk_drewN ?_ _ | refine blk_drew ?_ | refine blk_alloc ?_ _)); refine blk_far ?_ NB108_130.out _; (with_reducible repeat (first | refine blk_drewN ?_ _ | refine blk_drew ?_ | refine blk_alloc ?_ _)); refine blk_far ?_ NB108_130.out _; (with_reducible repeat (first | refine blk_drewN ?_ _ | refine blk_drew ?_ | refine blk_alloc ?_ _)); refine blk_far ?_ NB108_130.out _; (with_reducible repeat (first | refine blk_drewN ?_ _ | refine blk_drew ?_ | refine blk_alloc ?_ _)); exact BK108.out) hb); replace BK109 := Aside0.mk (blk_below (g := gb109) (o := .cells #[.int .i64 t105, .int .i64 t106, .string t107] 36 (0, 0)) (by (with_reducible repeat (first | refine blk_drewN ?_ _ | refine blk_drew ?_ | refine blk_alloc ?_ _)); refine blk_far ?_ NB109_130.out _; (with_reducible repeat (first | refine blk_drewN ?_ _ | refine blk_drew ?_ | refine blk_alloc ?_ _)); refine blk_far ?_ NB109_130.out _; (with_reducible repeat (first | refine blk_drewN ?_ _ | refine blk_drew ?_ | refine blk_alloc ?_ _)); refine blk_far ?_ NB109_130.out _; (with_reducible repeat (first | refine blk_drewN ?_ _ | refine blk_drew ?_ | refine blk_alloc ?_ _)); exact BK109.out) hb); replace BK120 := Aside0.mk (blk_below (g := gb120) (o := .cells #[.int .i64 t116, .int .i64 t117, .string t118] 36 (0, 0)) (by (with_reducible repeat (first | refine blk_drewN ?_ _ | refine blk_drew ?_ | refine blk_alloc ?_ _)); refine blk_far ?_ NB120_130.out _; (with_reducible repeat (first | refine blk_drewN ?_ _ | refine blk_drew ?_ | refine blk_alloc ?_ _)); refine blk_far ?_ NB120_130.out _; (with_reducible repeat (first | refine blk_drewN ?_ _ | refine blk_drew ?_ | refine blk_alloc ?_ _)); refine blk_far ?_ NB120_130.out _; (with_reducible repeat (first | refine blk_drewN ?_ _ | refine blk_drew ?_ | refine blk_alloc ?_ _)); exact BK120.out) hb); replace BK125 := Aside0.mk (blk_below (g := gb125) (o := .cells #[.int .i64 t121, .int .i64 t122, .string t123] 36 (0, 0)) (by (with_reducible repeat (first | refine blk_drewN ?_ _ | refine blk_drew ?_ | refine blk_alloc ?_ _)); refine blk_far ?_ NB125_130.out _; (with_reducible repeat (first | refine blk_drewN ?_ _ | refine blk_drew ?_ | refine blk_alloc ?_ _)); refine blk_far ?_ NB125_130.out _; (with_reducible repeat (first | refine blk_drewN ?_ _ | refine blk_drew ?_ | refine blk_alloc ?_ _)); refine blk_far ?_ NB125_130.out _; (with_reducible repeat (first | refine blk_drewN ?_ _ | refine blk_drew ?_ | refine blk_alloc ?_ _)); exact BK125.out) hb); replace BK130 := Aside0.mk (blk_below (g := gb130) (o := .cells #[.int .i64 t126, .int .i64 t127, .string t128] 36 (0, 0)) (by (with_reducible repeat (first | refine blk_drewN ?_ _ | refine blk_drew ?_ | refine blk_alloc ?_ _)); refine blk_put (cs := #[.int .i64 t126, .int .i64 t127, .string (⟨#[]⟩ : ByteArray)]) ?_ 2 _ rfl; (with_reducible repeat (first | refine blk_drewN ?_ _ | refine blk_drew ?_ | refine blk_alloc ?_ _)); refine blk_put (cs := #[.int .i64 t126, .int .i64 0, .string (⟨#[]⟩ : ByteArray)]) ?_ 1 _ rfl; (with_reducible repeat (first | refine blk_drewN ?_ _ | refine blk_drew ?_ | refine blk_alloc ?_ _)); refine blk_put (cs := #[.int .i64 0, .int .i64 0, .string (⟨#[]⟩ : ByteArray)]) ?_ 0 _ rfl; (with_reducible repeat (first | refine blk_drewN ?_ _ | refine blk_drew ?_ | refine blk_alloc ?_ _)); exact BK130.out) hb); replace HB := kS HB hb) | ((with_reducible refine gate_dst (N := 12) rfl ?_); refine gX 12 #[.int .i64 0, .int .i64 0, .string (⟨#[]⟩ : ByteArray)] 36 ?_; intro gb135 hg w84 hbox hb; have BK135 := Aside0.mk (hbox); have GW135 := gw hg (kb HB); have GE135 := gw hg (kb HB); have NB108_135 := nl hg (kp BK108); have NB135_108 := ng hg (kp BK108); have NB109_135 := nl hg (kp BK109); have NB135_109 := ng hg (kp BK109); have NB120_135 := nl hg (kp BK120); have NB135_120 := ng hg (kp BK120); have NB125_135 := nl hg (kp BK125); have NB135_125 := ng hg (kp BK125); have NB130_135 := nl hg (kp BK130); have NB135_130 := ng hg (kp BK130); replace BK108 := kB BK108 hb; replace BK109 := kB BK109 hb; replace BK120 := kB BK120 hb; replace BK125 := kB BK125 hb; replace BK130 := kB BK130 hb; replace HB := kS HB hb; clear hb hbox hg; have hnb85 := NB135_108.out; have hnc85 := NB108_135.out; have hnb86 := NB135_109.out; have hnc86 := NB109_135.out; have hnb87 := NB135_120.out; have hnc87 := NB120_135.out; have hnb88 := NB135_125.out; have hnc88 := NB125_135.out; have hnb89 := NB135_130.out; have hnc89 := NB130_135.out; obtain ⟨⟨hcz90_0, hcz90_1, hcz90_2⟩, hfz90_0, hfz90_1, hfz90_2⟩ := bf3 BK135))
          (try simp only [Act.put, List.setIfInBounds_toArray, List.set_cons_zero, List.set_cons_succ])
          go_cut [99] (fun v99 wc => ∃ (kq : Nat) (x99_55 : Bool), v99 = .bool x99_55 ∧ Aside0 (laws_FnMillBits.j1 kq l0 x99_55 t102 t103 t104 = some r) ∧ Aside0 (kq ≤ kj3) ∧ Aside0 (wc.heap[gb108]? = some (.cells #[.int .i64 t102, .int .i64 t103, .string t104] 36 (0, 0))) ∧ Aside0 (wc.heap[gb109]? = some (.cells #[.int .i64 t105, .int .i64 t106, .string t107] 36 (0, 0))) ∧ Aside0 (wc.heap[gb120]? = some (.cells #[.int .i64 t116, .int .i64 t117, .string t118] 36 (0, 0))) ∧ Aside0 (wc.heap[gb125]? = some (.cells #[.int .i64 t121, .int .i64 t122, .string t123] 36 (0, 0))) ∧ Aside0 (wc.heap[gb130]? = some (.cells #[.int .i64 t126, .int .i64 t127, .string t128] 36 (0, 0))) ∧ Aside0 (wc.heap[gb135]? = some (.cells #[.int .i64 t131, .int .i64 t132, .string t133] 36 (0, 0))) ∧ Aside0 (Below w.heap.size w wc))
          case first =>
            have H := HC56.out
            clear HC56
            by_cases c91 : t119.size + t124.size ≤ 9223372036854775807
            · rw [if_pos c91] at H
              have c91b0 := eq_true c91
              have c91b1 : decide (t119.size + t124.size ≤ 9223372036854775807) = true := decide_eq_true c91
              try have c91b2 : (9223372036854775807 < t119.size + t124.size) = False := eq_false (Nat.not_lt.2 c91)
              by_cases c92 : (t119 ++ t124).size + t129.size ≤ 9223372036854775807
              · rw [if_pos c92] at H
                have c92b0 := eq_true c92
                have c92b1 : decide ((t119 ++ t124).size + t129.size ≤ 9223372036854775807) = true := decide_eq_true c92
                try have c92b2 : (9223372036854775807 < (t119 ++ t124).size + t129.size) = False := eq_false (Nat.not_lt.2 c92)
                (try (have c92n := c92; simp only [ByteArray.size_append, Go.Proofs.Ytdpdpigaegabbaa.Mine.size_mk, List.size_toArray, List.length_cons, List.length_nil] at c92n; have c92m := eq_true c92n; have c92o := eq_false (Nat.not_lt.2 c92n)))
                by_cases c93 : ((t119 ++ t124) ++ t129).size + t134.size ≤ 9223372036854775807
                · rw [if_pos c93] at H
                  have c93b0 := eq_true c93
                  have c93b1 : decide (((t119 ++ t124) ++ t129).size + t134.size ≤ 9223372036854775807) = true := decide_eq_true c93
                  try have c93b2 : (9223372036854775807 < ((t119 ++ t124) ++ t129).size + t134.size) = False := eq_false (Nat.not_lt.2 c93)
                  (try (have c93n := c93; simp only [ByteArray.size_append, Go.Proofs.Ytdpdpigaegabbaa.Mine.size_mk, List.size_toArray, List.length_cons, List.length_nil] at c93n; have c93m := eq_true c93n; have c93o := eq_false (Nat.not_lt.2 c93n)))
                  by_cases c94 : (((t119 ++ t124) ++ t129) ++ t134).toList = ([] : List UInt8)
                  · rw [if_pos c94] at H
                    have c94b0 : ((((t119 ++ t124) ++ t129) ++ t134).toList == ([] : List UInt8)) = true := beq_iff_eq.mpr c94
                    have c94b1 : ((((t119 ++ t124) ++ t129) ++ t134).toList != ([] : List UInt8)) = false := bne_eq_false_iff_eq.mpr c94
                    clear c94
                    (first | rw [c94b0] | (simp only [i64_w, i32_w]; rw [c94b0]) | skip)
                    have H' := Aside0.mk H
                    clear H
                    have hnb95 := NB135_108.out
                    have hnc95 := NB108_135.out
                    have hnb96 := NB135_109.out
                    have hnc96 := NB109_135.out
                    have hnb97 := NB135_120.out
                    have hnc97 := NB120_135.out
                    have hnb98 := NB135_125.out
                    have hnc98 := NB125_135.out
                    have hnb99 := NB135_130.out
                    have hnc99 := NB130_135.out
                    obtain ⟨⟨hcz100_0, hcz100_1, hcz100_2⟩, hfz100_0, hfz100_1, hfz100_2⟩ := bf3 BK135
                    have hnb101 := NB120_108.out
                    have hnc101 := NB108_120.out
                    have hnb102 := NB120_109.out
                    have hnc102 := NB109_120.out
                    have hnb103 := NB120_125.out
                    have hnc103 := NB125_120.out
                    have hnb104 := NB120_130.out
                    have hnc104 := NB130_120.out
                    obtain ⟨⟨hcz105_0, hcz105_1, hcz105_2⟩, hfz105_0, hfz105_1, hfz105_2⟩ := bf3 BK120
                    go_wp2
                    go_meet
                    case rel => exact ⟨_, ((!(t131 == t116) || (!(t132 == t117) || (!(t133.toList == t118.toList))))), (by first | rfl | (simp; done) | (simp [*]; done)), H', ⟨by have := HJ3.out; first | omega | exact Nat.le_refl _⟩, ⟨by (with_reducible repeat (first | refine blk_drewN ?_ _ | refine blk_drew ?_ | refine blk_alloc ?_ _)); refine blk_far ?_ NB108_135.out _; (with_reducible repeat (first | refine blk_drewN ?_ _ | refine blk_drew ?_ | refine blk_alloc ?_ _)); refine blk_far ?_ NB108_135.out _; (with_reducible repeat (first | refine blk_drewN ?_ _ | refine blk_drew ?_ | refine blk_alloc ?_ _)); refine blk_far ?_ NB108_135.out _; (with_reducible repeat (first | refine blk_drewN ?_ _ | refine blk_drew ?_ | refine blk_alloc ?_ _)); exact BK108.out⟩, ⟨by (with_reducible repeat (first | refine blk_drewN ?_ _ | refine blk_drew ?_ | refine blk_alloc ?_ _)); refine blk_far ?_ NB109_135.out _; (with_reducible repeat (first | refine blk_drewN ?_ _ | refine blk_drew ?_ | refine blk_alloc ?_ _)); refine blk_far ?_ NB109_135.out _; (with_reducible repeat (first | refine blk_drewN ?_ _ | refine blk_drew ?_ | refine blk_alloc ?_ _)); refine blk_far ?_ NB109_135.out _; (with_reducible repeat (first | refine blk_drewN ?_ _ | refine blk_drew ?_ | refine blk_alloc ?_ _)); exact BK109.out⟩, ⟨by (with_reducible repeat (first | refine blk_drewN ?_ _ | refine blk_drew ?_ | refine blk_alloc ?_ _)); refine blk_far ?_ NB120_135.out _; (with_reducible repeat (first | refine blk_drewN ?_ _ | refine blk_drew ?_ | refine blk_alloc ?_ _)); refine blk_far ?_ NB120_135.out _; (with_reducible repeat (first | refine blk_drewN ?_ _ | refine blk_drew ?_ | refine blk_alloc ?_ _)); refine blk_far ?_ NB120_135.out _; (with_reducible repeat (first | refine blk_drewN ?_ _ | refine blk_drew ?_ | refine blk_alloc ?_ _)); exact BK120.out⟩, ⟨by (with_reducible repeat (first | refine blk_drewN ?_ _ | refine blk_drew ?_ | refine blk_alloc ?_ _)); refine blk_far ?_ NB125_135.out _; (with_reducible repeat (first | refine blk_drewN ?_ _ | refine blk_drew ?_ | refine blk_alloc ?_ _)); refine blk_far ?_ NB125_135.out _; (with_reducible repeat (first | refine blk_drewN ?_ _ | refine blk_drew ?_ | refine blk_alloc ?_ _)); refine blk_far ?_ NB125_135.out _; (with_reducible repeat (first | refine blk_drewN ?_ _ | refine blk_drew ?_ | refine blk_alloc ?_ _)); exact BK125.out⟩, ⟨by (with_reducible repeat (first | refine blk_drewN ?_ _ | refine blk_drew ?_ | refine blk_alloc ?_ _)); refine blk_far ?_ NB130_135.out _; (with_reducible repeat (first | refine blk_drewN ?_ _ | refine blk_drew ?_ | refine blk_alloc ?_ _)); refine blk_far ?_ NB130_135.out _; (with_reducible repeat (first | refine blk_drewN ?_ _ | refine blk_drew ?_ | refine blk_alloc ?_ _)); refine blk_far ?_ NB130_135.out _; (with_reducible repeat (first | refine blk_drewN ?_ _ | refine blk_drew ?_ | refine blk_alloc ?_ _)); exact BK130.out⟩, ⟨by (with_reducible repeat (first | refine blk_drewN ?_ _ | refine blk_drew ?_ | refine blk_alloc ?_ _)); refine blk_put (cs := #[.int .i64 t131, .int .i64 t132, .string (⟨#[]⟩ : ByteArray)]) ?_ 2 _ rfl; (with_reducible repeat (first | refine blk_drewN ?_ _ | refine blk_drew ?_ | refine blk_alloc ?_ _)); refine blk_put (cs := #[.int .i64 t131, .int .i64 0, .string (⟨#[]⟩ : ByteArray)]) ?_ 1 _ rfl; (with_reducible repeat (first | refine blk_drewN ?_ _ | refine blk_drew ?_ | refine blk_alloc ?_ _)); refine blk_put (cs := #[.int .i64 0, .int .i64 0, .string (⟨#[]⟩ : ByteArray)]) ?_ 0 _ rfl; (with_reducible repeat (first | refine blk_drewN ?_ _ | refine blk_drew ?_ | refine blk_alloc ?_ _)); exact BK135.out⟩, ⟨kb HB⟩⟩
                  · rw [if_neg c94] at H
                    have c94b0 : ((((t119 ++ t124) ++ t129) ++ t134).toList == ([] : List UInt8)) = false := beq_eq_false_iff_ne.mpr c94
                    have c94b1 : ((((t119 ++ t124) ++ t129) ++ t134).toList != ([] : List UInt8)) = true := bne_iff_ne.mpr c94
                    (first | rw [c94b0] | (simp only [i64_w, i32_w]; rw [c94b0]) | skip)
                    have H' := Aside0.mk H
                    clear H
                    go_wp2
                    go_meet
                    case rel => exact ⟨_, (true), (by first | rfl | (simp; done) | (simp [*]; done)), H', ⟨by have := HJ3.out; first | omega | exact Nat.le_refl _⟩, ⟨by (with_reducible repeat (first | refine blk_drewN ?_ _ | refine blk_drew ?_ | refine blk_alloc ?_ _)); refine blk_far ?_ NB108_135.out _; (with_reducible repeat (first | refine blk_drewN ?_ _ | refine blk_drew ?_ | refine blk_alloc ?_ _)); refine blk_far ?_ NB108_135.out _; (with_reducible repeat (first | refine blk_drewN ?_ _ | refine blk_drew ?_ | refine blk_alloc ?_ _)); refine blk_far ?_ NB108_135.out _; (with_reducible repeat (first | refine blk_drewN ?_ _ | refine blk_drew ?_ | refine blk_alloc ?_ _)); exact BK108.out⟩, ⟨by (with_reducible repeat (first | refine blk_drewN ?_ _ | refine blk_drew ?_ | refine blk_alloc ?_ _)); refine blk_far ?_ NB109_135.out _; (with_reducible repeat (first | refine blk_drewN ?_ _ | refine blk_drew ?_ | refine blk_alloc ?_ _)); refine blk_far ?_ NB109_135.out _; (with_reducible repeat (first | refine blk_drewN ?_ _ | refine blk_drew ?_ | refine blk_alloc ?_ _)); refine blk_far ?_ NB109_135.out _; (with_reducible repeat (first | refine blk_drewN ?_ _ | refine blk_drew ?_ | refine blk_alloc ?_ _)); exact BK109.out⟩, ⟨by (with_reducible repeat (first | refine blk_drewN ?_ _ | refine blk_drew ?_ | refine blk_alloc ?_ _)); refine blk_far ?_ NB120_135.out _; (with_reducible repeat (first | refine blk_drewN ?_ _ | refine blk_drew ?_ | refine blk_alloc ?_ _)); refine blk_far ?_ NB120_135.out _; (with_reducible repeat (first | refine blk_drewN ?_ _ | refine blk_drew ?_ | refine blk_alloc ?_ _)); refine blk_far ?_ NB120_135.out _; (with_reducible repeat (first | refine blk_drewN ?_ _ | refine blk_drew ?_ | refine blk_alloc ?_ _)); exact BK120.out⟩, ⟨by (with_reducible repeat (first | refine blk_drewN ?_ _ | refine blk_drew ?_ | refine blk_alloc ?_ _)); refine blk_far ?_ NB125_135.out _; (with_reducible repeat (first | refine blk_drewN ?_ _ | refine blk_drew ?_ | refine blk_alloc ?_ _)); refine blk_far ?_ NB125_135.out _; (with_reducible repeat (first | refine blk_drewN ?_ _ | refine blk_drew ?_ | refine blk_alloc ?_ _)); refine blk_far ?_ NB125_135.out _; (with_reducible repeat (first | refine blk_drewN ?_ _ | refine blk_drew ?_ | refine blk_alloc ?_ _)); exact BK125.out⟩, ⟨by (with_reducible repeat (first | refine blk_drewN ?_ _ | refine blk_drew ?_ | refine blk_alloc ?_ _)); refine blk_far ?_ NB130_135.out _; (with_reducible repeat (first | refine blk_drewN ?_ _ | refine blk_drew ?_ | refine blk_alloc ?_ _)); refine blk_far ?_ NB130_135.out _; (with_reducible repeat (first | refine blk_drewN ?_ _ | refine blk_drew ?_ | refine blk_alloc ?_ _)); refine blk_far ?_ NB130_135.out _; (with_reducible repeat (first | refine blk_drewN ?_ _ | refine blk_drew ?_ | refine blk_alloc ?_ _)); exact BK130.out⟩, ⟨by (with_reducible repeat (first | refine blk_drewN ?_ _ | refine blk_drew ?_ | refine blk_alloc ?_ _)); refine blk_put (cs := #[.int .i64 t131, .int .i64 t132, .string (⟨#[]⟩ : ByteArray)]) ?_ 2 _ rfl; (with_reducible repeat (first | refine blk_drewN ?_ _ | refine blk_drew ?_ | refine blk_alloc ?_ _)); refine blk_put (cs := #[.int .i64 t131, .int .i64 0, .string (⟨#[]⟩ : ByteArray)]) ?_ 1 _ rfl; (with_reducible repeat (first | refine blk_drewN ?_ _ | refine blk_drew ?_ | refine blk_alloc ?_ _)); refine blk_put (cs := #[.int .i64 0, .int .i64 0, .string (⟨#[]⟩ : ByteArray)]) ?_ 0 _ rfl; (with_reducible repeat (first | refine blk_drewN ?_ _ | refine blk_drew ?_ | refine blk_alloc ?_ _)); exact BK135.out⟩, ⟨kb HB⟩⟩
                · rw [if_neg c93] at H
                  exact absurd H (by simp)
              · rw [if_neg c92] at H
                exact absurd H (by simp)
            · rw [if_neg c91] at H
              exact absurd H (by simp)
          case rest =>
            clear HC56
            obtain ⟨kq, x99_55, rfl, HA, HJ55, BK108, BK109, BK120, BK125, BK130, BK135, HB⟩ := hcut
            cases kq with
            | zero => exact absurd HA.out (by simp [laws_FnMillBits.j1])
            | succ kj55 =>
              have H := HA.out
              clear HA
              simp only [laws_FnMillBits.j1] at H
              by_cases c106 : x99_55 = true
              · subst c106
                have H1 : (some false) = some r := by rw [if_pos rfl] at H; exact H
                clear H
                have H := H1
                clear H1
                obtain rfl := Option.some.inj H
                go_wp2
                go_ret
                exact ⟨by first | rfl | (simp [errW_none, errW_some] <;> rfl) | (simp [*, errW_none, errW_some] <;> rfl), kb HB⟩
              · replace c106 := Bool.eq_false_iff.mpr c106
                subst c106
                have H1 : (laws_FnMillBits.l0 kj55 ((l0.length : Int) % 70) 17 t102 t103 t104) = some r := by rw [if_neg (show ¬ (false = true) by decide)] at H; exact H
                clear H
                have H := H1
                clear H1
                have H' := Aside0.mk H
                clear H
                go_wp2
                go_loopg [15] kj55 (fun kq v15 w' => ∃ (x15_3 : Int), v15 = .int .i64 x15_3 ∧ Aside0 (laws_FnMillBits.l0 kq ((l0.length : Int) % 70) x15_3 t102 t103 t104 = some r) ∧ Aside0 (kq ≤ kj55) ∧ Aside0 (w'.heap[gb108]? = some (.cells #[.int .i64 t102, .int .i64 t103, .string t104] 36 (0, 0))) ∧ Aside0 (w'.heap[gb109]? = some (.cells #[.int .i64 t105, .int .i64 t106, .string t107] 36 (0, 0))) ∧ Aside0 (w'.heap[gb120]? = some (.cells #[.int .i64 t116, .int .i64 t117, .string t118] 36 (0, 0))) ∧ Aside0 (w'.heap[gb125]? = some (.cells #[.int .i64 t121, .int .i64 t122, .string t123] 36 (0, 0))) ∧ Aside0 (w'.heap[gb130]? = some (.cells #[.int .i64 t126, .int .i64 t127, .string t128] 36 (0, 0))) ∧ Aside0 (w'.heap[gb135]? = some (.cells #[.int .i64 t131, .int .i64 t132, .string t133] 36 (0, 0))) ∧ Aside0 (Below w.heap.size w w'))
                case atStart => exact ⟨(17), (by first | rfl | (simp; done) | (simp [*]; done)), H', ⟨Nat.le_refl _⟩, ⟨kp BK108⟩, ⟨kp BK109⟩, ⟨kp BK120⟩, ⟨kp BK125⟩, ⟨kp BK130⟩, ⟨kp BK135⟩, ⟨kb HB⟩⟩
                case round =>
                  clear H'
                  obtain ⟨x15_3, rfl, HA, HK3, BK108, BK109, BK120, BK125, BK130, BK135, HB⟩ := hrel
                  cases gk with
                  | zero => exact absurd HA.out (by simp [laws_FnMillBits.l0])
                  | succ k3 =>
                    have H := HA.out
                    clear HA
                    simp only [laws_FnMillBits.l0] at H
                    by_cases c107 : x15_3 ≤ 18
                    · rw [if_pos c107] at H
                      have c107b0 : decide (x15_3 ≤ 18) = true := decide_eq_true c107
                      clear c107
                      replace H := Option.bind_eq_some_iff.mp H
                      obtain ⟨⟨t136, t137, t138, t139⟩, A1080, H⟩ := H
                      replace H : ((bits_MillBinary.f k3 x15_3 t136 t137 t138 t102 1 (⟨#[]⟩ : ByteArray)).bind fun bt141 => ((bits_MillBinary.f k3 x15_3 t102 t103 t104 t102 (wrap64 (((l0.length : Int) % 70) + 1)) (⟨#[]⟩ : ByteArray)).bind fun bt146 => (if t139.size + bt141.2.2.2.size ≤ 9223372036854775807 then (if (t139 ++ bt141.2.2.2).size + bt146.2.2.2.size ≤ 9223372036854775807 then (if ((t139 ++ bt141.2.2.2) ++ bt146.2.2.2).toList = ([] : List UInt8) then (if (!(bt141.1 == bt146.1) || (!(bt141.2.1 == bt146.2.1) || (!(bt141.2.2.1.toList == bt146.2.2.1.toList)))) = true then (some false) else (laws_FnMillBits.l0 k3 ((l0.length : Int) % 70) (wrap64 (x15_3 + 1)) t102 t103 t104)) else (some false)) else (none)) else (none)))) = some r := H
                      have A108 := Aside0.mk A1080
                      clear A1080
                      replace H := Option.bind_eq_some_iff.mp H
                      obtain ⟨⟨t141, t142, t143, t144⟩, A1090, H⟩ := H
                      replace H : ((bits_MillBinary.f k3 x15_3 t102 t103 t104 t102 (wrap64 (((l0.length : Int) % 70) + 1)) (⟨#[]⟩ : ByteArray)).bind fun bt146 => (if t139.size + t144.size ≤ 9223372036854775807 then (if (t139 ++ t144).size + bt146.2.2.2.size ≤ 9223372036854775807 then (if ((t139 ++ t144) ++ bt146.2.2.2).toList = ([] : List UInt8) then (if (!(t141 == bt146.1) || (!(t142 == bt146.2.1) || (!(t143.toList == bt146.2.2.1.toList)))) = true then (some false) else (laws_FnMillBits.l0 k3 ((l0.length : Int) % 70) (wrap64 (x15_3 + 1)) t102 t103 t104)) else (some false)) else (none)) else (none))) = some r := H
                      have A109 := Aside0.mk A1090
                      clear A1090
                      replace H := Option.bind_eq_some_iff.mp H
                      obtain ⟨⟨t146, t147, t148, t149⟩, A1100, H⟩ := H
                      replace H : (if t139.size + t144.size ≤ 9223372036854775807 then (if (t139 ++ t144).size + t149.size ≤ 9223372036854775807 then (if ((t139 ++ t144) ++ t149).toList = ([] : List UInt8) then (if (!(t141 == t146) || (!(t142 == t147) || (!(t143.toList == t148.toList)))) = true then (some false) else (laws_FnMillBits.l0 k3 ((l0.length : Int) % 70) (wrap64 (x15_3 + 1)) t102 t103 t104)) else (some false)) else (none)) else (none)) = some r := H
                      have A110 := Aside0.mk A1100
                      have A110w : Aside0 (bits_MillBinary.f k3 x15_3 t102 t103 t104 t102 (((l0.length : Int) % 70) + 1) (⟨#[]⟩ : ByteArray) = some (t146, t147, t148, t149)) := ⟨by have ew : wrap64 (((l0.length : Int) % 70) + 1) = (((l0.length : Int) % 70) + 1) := (by unfold wrap64; omega); rw [← ew]; exact A110.out⟩
                      clear A1100
                      by_cases c111 : t139.size + t144.size ≤ 9223372036854775807
                      · rw [if_pos c111] at H
                        have c111b0 := eq_true c111
                        have c111b1 : decide (t139.size + t144.size ≤ 9223372036854775807) = true := decide_eq_true c111
                        try have c111b2 : (9223372036854775807 < t139.size + t144.size) = False := eq_false (Nat.not_lt.2 c111)
                        by_cases c112 : (t139 ++ t144).size + t149.size ≤ 9223372036854775807
                        · rw [if_pos c112] at H
                          have c112b0 := eq_true c112
                          have c112b1 : decide ((t139 ++ t144).size + t149.size ≤ 9223372036854775807) = true := decide_eq_true c112
                          try have c112b2 : (9223372036854775807 < (t139 ++ t144).size + t149.size) = False := eq_false (Nat.not_lt.2 c112)
                          (try (have c112n := c112; simp only [ByteArray.size_append, Go.Proofs.Ytdpdpigaegabbaa.Mine.size_mk, List.size_toArray, List.length_cons, List.length_nil] at c112n; have c112m := eq_true c112n; have c112o := eq_false (Nat.not_lt.2 c112n)))
                          by_cases c113 : ((t139 ++ t144) ++ t149).toList = ([] : List UInt8)
                          · rw [if_pos c113] at H
                            have c113b0 : (((t139 ++ t144) ++ t149).toList == ([] : List UInt8)) = true := beq_iff_eq.mpr c113
                            have c113b1 : (((t139 ++ t144) ++ t149).toList != ([] : List UInt8)) = false := bne_eq_false_iff_eq.mpr c113
                            clear c113
                            by_cases c114 : (!(t141 == t146) || (!(t142 == t147) || (!(t143.toList == t148.toList)))) = true
                            · rw [if_pos c114] at H
                              have c114b0 : (!(t141 == t146) || (!(t142 == t147) || (!(t143.toList == t148.toList)))) = true := c114
                              clear c114
                              obtain rfl := Option.some.inj H
                              have hnb115 := NB108_109.out
                              have hnc115 := NB109_108.out
                              have hnb116 := NB108_120.out
                              have hnc116 := NB120_108.out
                              have hnb117 := NB108_125.out
                              have hnc117 := NB125_108.out
                              have hnb118 := NB108_130.out
                              have hnc118 := NB130_108.out
                              have hnb119 := NB108_135.out
                              have hnc119 := NB135_108.out
                              obtain ⟨⟨hcz120_0, hcz120_1, hcz120_2⟩, hfz120_0, hfz120_1, hfz120_2⟩ := bf3 BK108
                              go_wp2_with (first | ((with_reducible refine gate_callee (f := 49) rfl ?_); refine gL (some 114) Try.func49 #[.int .i64 x15_3, .agg #[.int .i64 t102, .int .i64 t103, .string t104], .agg #[.int .i64 t102, .int .i64 ((l0.length : Int) % 70), .string (⟨#[]⟩ : ByteArray)]] (bits_MillBinary.calls k3 x15_3 t102 t103 t104 t102 ((l0.length : Int) % 70) (⟨#[]⟩ : ByteArray) t136 t137 t138 t139 _ A108.out) ?_; intro w121 hb; replace BK108 := kB BK108 hb; replace BK109 := kB BK109 hb; replace BK120 := kB BK120 hb; replace BK125 := kB BK125 hb; replace BK130 := kB BK130 hb; replace BK135 := kB BK135 hb; replace HB := kS HB hb) | ((with_reducible refine gate_dst (N := 16) rfl ?_); refine gX 16 #[.int .i64 0, .int .i64 0, .string (⟨#[]⟩ : ByteArray)] 36 ?_; intro gb140 hg w122 hbox hb; have BK140 := Aside0.mk (hbox); have GW140 := gw hg (kb HB); have GE140 := gw hg (kb HB); have NB108_140 := nl hg (kp BK108); have NB140_108 := ng hg (kp BK108); have NB109_140 := nl hg (kp BK109); have NB140_109 := ng hg (kp BK109); have NB120_140 := nl hg (kp BK120); have NB140_120 := ng hg (kp BK120); have NB125_140 := nl hg (kp BK125); have NB140_125 := ng hg (kp BK125); have NB130_140 := nl hg (kp BK130); have NB140_130 := ng hg (kp BK130); have NB135_140 := nl hg (kp BK135); have NB140_135 := ng hg (kp BK135); replace BK108 := kB BK108 hb; replace BK109 := kB BK109 hb; replace BK120 := kB BK120 hb; replace BK125 := kB BK125 hb; replace BK130 := kB BK130 hb; replace BK135 := kB BK135 hb; replace HB := kS HB hb; clear hb hbox hg; have hnb123 := NB140_108.out; have hnc123 := NB108_140.out; have hnb124 := NB140_109.out; have hnc124 := NB109_140.out; have hnb125 := NB140_120.out; have hnc125 := NB120_140.out; have hnb126 := NB140_125.out; have hnc126 := NB125_140.out; have hnb127 := NB140_130.out; have hnc127 := NB130_140.out; have hnb128 := NB140_135.out; have hnc128 := NB135_140.out; obtain ⟨⟨hcz129_0, hcz129_1, hcz129_2⟩, hfz129_0, hfz129_1, hfz129_2⟩ := bf3 BK140; obtain ⟨⟨hcz130_0, hcz130_1, hcz130_2⟩, hfz130_0, hfz130_1, hfz130_2⟩ := bf3 BK108) | ((with_reducible refine gate_callee (f := 49) rfl ?_); refine gL (some 123) Try.func49 #[.int .i64 x15_3, .agg #[.int .i64 t136, .int .i64 t137, .string t138], .agg #[.int .i64 t102, .int .i64 1, .string (⟨#[]⟩ : ByteArray)]] (bits_MillBinary.calls k3 x15_3 t136 t137 t138 t102 1 (⟨#[]⟩ : ByteArray) t141 t142 t143 t144 _ A109.out) ?_; intro w131 hb; replace BK108 := Aside0.mk (blk_below (g := gb108) (o := .cells #[.int .i64 t102, .int .i64 t103, .string t104] 36 (0, 0)) (by (with_reducible repeat (first | refine blk_drewN ?_ _ | refine blk_drew ?_ | refine blk_alloc ?_ _)); refine blk_far ?_ NB108_140.out _; (with_reducible repeat (first | refine blk_drewN ?_ _ | refine blk_drew ?_ | refine blk_alloc ?_ _)); refine blk_far ?_ NB108_140.out _; (with_reducible repeat (first | refine blk_drewN ?_ _ | refine blk_drew ?_ | refine blk_alloc ?_ _)); refine blk_far ?_ NB108_140.out _; (with_reducible repeat (first | refine blk_drewN ?_ _ | refine blk_drew ?_ | refine blk_alloc ?_ _)); exact BK108.out) hb); replace BK109 := Aside0.mk (blk_below (g := gb109) (o := .cells #[.int .i64 t105, .int .i64 t106, .string t107] 36 (0, 0)) (by (with_reducible repeat (first | refine blk_drewN ?_ _ | refine blk_drew ?_ | refine blk_alloc ?_ _)); refine blk_far ?_ NB109_140.out _; (with_reducible repeat (first | refine blk_drewN ?_ _ | refine blk_drew ?_ | refine blk_alloc ?_ _)); refine blk_far ?_ NB109_140.out _; (with_reducible repeat (first | refine blk_drewN ?_ _ | refine blk_drew ?_ | refine blk_alloc ?_ _)); refine blk_far ?_ NB109_140.out _; (with_reducible repeat (first | refine blk_drewN ?_ _ | refine blk_drew ?_ | refine blk_alloc ?_ _)); exact BK109.out) hb); replace BK120 := Aside0.mk (blk_below (g := gb120) (o := .cells #[.int .i64 t116, .int .i64 t117, .string t118] 36 (0, 0)) (by (with_reducible repeat (first | refine blk_drewN ?_ _ | refine blk_drew ?_ | refine blk_alloc ?_ _)); refine blk_far ?_ NB120_140.out _; (with_reducible repeat (first | refine blk_drewN ?_ _ | refine blk_drew ?_ | refine blk_alloc ?_ _)); refine blk_far ?_ NB120_140.out _; (with_reducible repeat (first | refine blk_drewN ?_ _ | refine blk_drew ?_ | refine blk_alloc ?_ _)); refine blk_far ?_ NB120_140.out _; (with_reducible repeat (first | refine blk_drewN ?_ _ | refine blk_drew ?_ | refine blk_alloc ?_ _)); exact BK120.out) hb); replace BK125 := Aside0.mk (blk_below (g := gb125) (o := .cells #[.int .i64 t121, .int .i64 t122, .string t123] 36 (0, 0)) (by (with_reducible repeat (first | refine blk_drewN ?_ _ | refine blk_drew ?_ | refine blk_alloc ?_ _)); refine blk_far ?_ NB125_140.out _; (with_reducible repeat (first | refine blk_drewN ?_ _ | refine blk_drew ?_ | refine blk_alloc ?_ _)); refine blk_far ?_ NB125_140.out _; (with_reducible repeat (first | refine blk_drewN ?_ _ | refine blk_drew ?_ | refine blk_alloc ?_ _)); refine blk_far ?_ NB125_140.out _; (with_reducible repeat (first | refine blk_drewN ?_ _ | refine blk_drew ?_ | refine blk_alloc ?_ _)); exact BK125.out) hb); replace BK130 := Aside0.mk (blk_below (g := gb130) (o := .cells #[.int .i64 t126, .int .i64 t127, .string t128] 36 (0, 0)) (by (with_reducible repeat (first | refine blk_drewN ?_ _ | refine blk_drew ?_ | refine blk_alloc ?_ _)); refine blk_far ?_ NB130_140.out _; (with_reducible repeat (first | refine blk_drewN ?_ _ | refine blk_drew ?_ | refine blk_alloc ?_ _)); refine blk_far ?_ NB130_140.out _; (with_reducible repeat (first | refine blk_drewN ?_ _ | refine blk_drew ?_ | refine blk_alloc ?_ _)); refine blk_far ?_ NB130_140.out _; (with_reducible repeat (first | refine blk_drewN ?_ _ | refine blk_drew ?_ | refine blk_alloc ?_ _)); exact BK130.out) hb); replace BK135 := Aside0.mk (blk_below (g := gb135) (o := .cells #[.int .i64 t131, .int .i64 t132, .string t133] 36 (0, 0)) (by (with_reducible repeat (first | refine blk_drewN ?_ _ | refine blk_drew ?_ | refine blk_alloc ?_ _)); refine blk_far ?_ NB135_140.out _; (with_reducible repeat (first | refine blk_drewN ?_ _ | refine blk_drew ?_ | refine blk_alloc ?_ _)); refine blk_far ?_ NB135_140.out _; (with_reducible repeat (first | refine blk_drewN ?_ _ | refine blk_drew ?_ | refine blk_alloc ?_ _)); refine blk_far ?_ NB135_140.out _; (with_reducible repeat (first | refine blk_drewN ?_ _ | refine blk_drew ?_ | refine blk_alloc ?_ _)); exact BK135.out) hb); replace BK140 := Aside0.mk (blk_below (g := gb140) (o := .cells #[.int .i64 t136, .int .i64 t137, .string t138] 36 (0, 0)) (by (with_reducible repeat (first | refine blk_drewN ?_ _ | refine blk_drew ?_ | refine blk_alloc ?_ _)); refine blk_put (cs := #[.int .i64 t136, .int .i64 t137, .string (⟨#[]⟩ : ByteArray)]) ?_ 2 _ rfl; (with_reducible repeat (first | refine blk_drewN ?_ _ | refine blk_drew ?_ | refine blk_alloc ?_ _)); refine blk_put (cs := #[.int .i64 t136, .int .i64 0, .string (⟨#[]⟩ : ByteArray)]) ?_ 1 _ rfl; (with_reducible repeat (first | refine blk_drewN ?_ _ | refine blk_drew ?_ | refine blk_alloc ?_ _)); refine blk_put (cs := #[.int .i64 0, .int .i64 0, .string (⟨#[]⟩ : ByteArray)]) ?_ 0 _ rfl; (with_reducible repeat (first | refine blk_drewN ?_ _ | refine blk_drew ?_ | refine blk_alloc ?_ _)); exact BK140.out) hb); replace HB := kS HB hb) | ((with_reducible refine gate_dst (N := 18) rfl ?_); refine gX 18 #[.int .i64 0, .int .i64 0, .string (⟨#[]⟩ : ByteArray)] 36 ?_; intro gb145 hg w132 hbox hb; have BK145 := Aside0.mk (hbox); have GW145 := gw hg (kb HB); have GE145 := gw hg (kb HB); have NB108_145 := nl hg (kp BK108); have NB145_108 := ng hg (kp BK108); have NB109_145 := nl hg (kp BK109); have NB145_109 := ng hg (kp BK109); have NB120_145 := nl hg (kp BK120); have NB145_120 := ng hg (kp BK120); have NB125_145 := nl hg (kp BK125); have NB145_125 := ng hg (kp BK125); have NB130_145 := nl hg (kp BK130); have NB145_130 := ng hg (kp BK130); have NB135_145 := nl hg (kp BK135); have NB145_135 := ng hg (kp BK135); have NB140_145 := nl hg (kp BK140); have NB145_140 := ng hg (kp BK140); replace BK108 := kB BK108 hb; replace BK109 := kB BK109 hb; replace BK120 := kB BK120 hb; replace BK125 := kB BK125 hb; replace BK130 := kB BK130 hb; replace BK135 := kB BK135 hb; replace BK140 := kB BK140 hb; replace HB := kS HB hb; clear hb hbox hg; have hnb133 := NB145_108.out; have hnc133 := NB108_145.out; have hnb134 := NB145_109.out; have hnc134 := NB109_145.out; have hnb135 := NB145_120.out; have hnc135 := NB120_145.out; have hnb136 := NB145_125.out; have hnc136 := NB125_145.out; have hnb137 := NB145_130.out; have hnc137 := NB130_145.out; have hnb138 := NB145_135.out; have hnc138 := NB135_145.out; have hnb139 := NB145_140.out; have hnc139 := NB140_145.out; obtain ⟨⟨hcz140_0, hcz140_1, hcz140_2⟩, hfz140_0, hfz140_1, hfz140_2⟩ := bf3 BK145; obtain ⟨⟨hcz141_0, hcz141_1, hcz141_2⟩, hfz141_0, hfz141_1, hfz141_2⟩ := bf3 BK108) | ((with_reducible refine gate_callee (f := 49) rfl ?_); refine gL (some 134) Try.func49 #[.int .i64 x15_3, .agg #[.int .i64 t102, .int .i64 t103, .string t104], .agg #[.int .i64 t102, .int .i64 (((l0.length : Int) % 70) + 1), .string (⟨#[]⟩ : ByteArray)]] (bits_MillBinary.calls k3 x15_3 t102 t103 t104 t102 (((l0.length : Int) % 70) + 1) (⟨#[]⟩ : ByteArray) t146 t147 t148 t149 _ A110w.out) ?_; intro w142 hb; replace BK108 := Aside0.mk (blk_below (g := gb108) (o := .cells #[.int .i64 t102, .int .i64 t103, .string t104] 36 (0, 0)) (by (with_reducible repeat (first | refine blk_drewN ?_ _ | refine blk_drew ?_ | refine blk_alloc ?_ _)); refine blk_far ?_ NB108_145.out _; (with_reducible repeat (first | refine blk_drewN ?_ _ | refine blk_drew ?_ | refine blk_alloc ?_ _)); refine blk_far ?_ NB108_145.out _; (with_reducible repeat (first | refine blk_drewN ?_ _ | refine blk_drew ?_ | refine blk_alloc ?_ _)); refine blk_far ?_ NB108_145.out _; (with_reducible repeat (first | refine blk_drewN ?_ _ | refine blk_drew ?_ | refine blk_alloc ?_ _)); exact BK108.out) hb); replace BK109 := Aside0.mk (blk_below (g := gb109) (o := .cells #[.int .i64 t105, .int .i64 t106, .string t107] 36 (0, 0)) (by (with_reducible repeat (first | refine blk_drewN ?_ _ | refine blk_drew ?_ | refine blk_alloc ?_ _)); refine blk_far ?_ NB109_145.out _; (with_reducible repeat (first | refine blk_drewN ?_ _ | refine blk_drew ?_ | refine blk_alloc ?_ _)); refine blk_far ?_ NB109_145.out _; (with_reducible repeat (first | refine blk_drewN ?_ _ | refine blk_drew ?_ | refine blk_alloc ?_ _)); refine blk_far ?_ NB109_145.out _; (with_reducible repeat (first | refine blk_drewN ?_ _ | refine blk_drew ?_ | refine blk_alloc ?_ _)); exact BK109.out) hb); replace BK120 := Aside0.mk (blk_below (g := gb120) (o := .cells #[.int .i64 t116, .int .i64 t117, .string t118] 36 (0, 0)) (by (with_reducible repeat (first | refine blk_drewN ?_ _ | refine blk_drew ?_ | refine blk_alloc ?_ _)); refine blk_far ?_ NB120_145.out _; (with_reducible repeat (first | refine blk_drewN ?_ _ | refine blk_drew ?_ | refine blk_alloc ?_ _)); refine blk_far ?_ NB120_145.out _; (with_reducible repeat (first | refine blk_drewN ?_ _ | refine blk_drew ?_ | refine blk_alloc ?_ _)); refine blk_far ?_ NB120_145.out _; (with_reducible repeat (first | refine blk_drewN ?_ _ | refine blk_drew ?_ | refine blk_alloc ?_ _)); exact BK120.out) hb); replace BK125 := Aside0.mk (blk_below (g := gb125) (o := .cells #[.int .i64 t121, .int .i64 t122, .string t123] 36 (0, 0)) (by (with_reducible repeat (first | refine blk_drewN ?_ _ | refine blk_drew ?_ | refine blk_alloc ?_ _)); refine blk_far ?_ NB125_145.out _; (with_reducible repeat (first | refine blk_drewN ?_ _ | refine blk_drew ?_ | refine blk_alloc ?_ _)); refine blk_far ?_ NB125_145.out _; (with_reducible repeat (first | refine blk_drewN ?_ _ | refine blk_drew ?_ | refine blk_alloc ?_ _)); refine blk_far ?_ NB125_145.out _; (with_reducible repeat (first | refine blk_drewN ?_ _ | refine blk_drew ?_ | refine blk_alloc ?_ _)); exact BK125.out) hb); replace BK130 := Aside0.mk (blk_below (g := gb130) (o := .cells #[.int .i64 t126, .int .i64 t127, .string t128] 36 (0, 0)) (by (with_reducible repeat (first | refine blk_drewN ?_ _ | refine blk_drew ?_ | refine blk_alloc ?_ _)); refine blk_far ?_ NB130_145.out _; (with_reducible repeat (first | refine blk_drewN ?_ _ | refine blk_drew ?_ | refine blk_alloc ?_ _)); refine blk_far ?_ NB130_145.out _; (with_reducible repeat (first | refine blk_drewN ?_ _ | refine blk_drew ?_ | refine blk_alloc ?_ _)); refine blk_far ?_ NB130_145.out _; (with_reducible repeat (first | refine blk_drewN ?_ _ | refine blk_drew ?_ | refine blk_alloc ?_ _)); exact BK130.out) hb); replace BK135 := Aside0.mk (blk_below (g := gb135) (o := .cells #[.int .i64 t131, .int .i64 t132, .string t133] 36 (0, 0)) (by (with_reducible repeat (first | refine blk_drewN ?_ _ | refine blk_drew ?_ | refine blk_alloc ?_ _)); refine blk_far ?_ NB135_145.out _; (with_reducible repeat (first | refine blk_drewN ?_ _ | refine blk_drew ?_ | refine blk_alloc ?_ _)); refine blk_far ?_ NB135_145.out _; (with_reducible repeat (first | refine blk_drewN ?_ _ | refine blk_drew ?_ | refine blk_alloc ?_ _)); refine blk_far ?_ NB135_145.out _; (with_reducible repeat (first | refine blk_drewN ?_ _ | refine blk_drew ?_ | refine blk_alloc ?_ _)); exact BK135.out) hb); replace BK140 := Aside0.mk (blk_below (g := gb140) (o := .cells #[.int .i64 t136, .int .i64 t137, .string t138] 36 (0, 0)) (by (with_reducible repeat (first | refine blk_drewN ?_ _ | refine blk_drew ?_ | refine blk_alloc ?_ _)); refine blk_far ?_ NB140_145.out _; (with_reducible repeat (first | refine blk_drewN ?_ _ | refine blk_drew ?_ | refine blk_alloc ?_ _)); refine blk_far ?_ NB140_145.out _; (with_reducible repeat (first | refine blk_drewN ?_ _ | refine blk_drew ?_ | refine blk_alloc ?_ _)); refine blk_far ?_ NB140_145.out _; (with_reducible repeat (first | refine blk_drewN ?_ _ | refine blk_drew ?_ | refine blk_alloc ?_ _)); exact BK140.out) hb); replace BK145 := Aside0.mk (blk_below (g := gb145) (o := .cells #[.int .i64 t141, .int .i64 t142, .string t143] 36 (0, 0)) (by (with_reducible repeat (first | refine blk_drewN ?_ _ | refine blk_drew ?_ | refine blk_alloc ?_ _)); refine blk_put (cs := #[.int .i64 t141, .int .i64 t142, .string (⟨#[]⟩ : ByteArray)]) ?_ 2 _ rfl; (with_reducible repeat (first | refine blk_drewN ?_ _ | refine blk_drew ?_ | refine blk_alloc ?_ _)); refine blk_put (cs := #[.int .i64 t141, .int .i64 0, .string (⟨#[]⟩ : ByteArray)]) ?_ 1 _ rfl; (with_reducible repeat (first | refine blk_drewN ?_ _ | refine blk_drew ?_ | refine blk_alloc ?_ _)); refine blk_put (cs := #[.int .i64 0, .int .i64 0, .string (⟨#[]⟩ : ByteArray)]) ?_ 0 _ rfl; (with_reducible repeat (first | refine blk_drewN ?_ _ | refine blk_drew ?_ | refine blk_alloc ?_ _)); exact BK145.out) hb); replace HB := kS HB hb) | ((with_reducible refine gate_dst (N := 20) rfl ?_); refine gX 20 #[.int .i64 0, .int .i64 0, .string (⟨#[]⟩ : ByteArray)] 36 ?_; intro gb150 hg w143 hbox hb; have BK150 := Aside0.mk (hbox); have GW150 := gw hg (kb HB); have GE150 := gw hg (kb HB); have NB108_150 := nl hg (kp BK108); have NB150_108 := ng hg (kp BK108); have NB109_150 := nl hg (kp BK109); have NB150_109 := ng hg (kp BK109); have NB120_150 := nl hg (kp BK120); have NB150_120 := ng hg (kp BK120); have NB125_150 := nl hg (kp BK125); have NB150_125 := ng hg (kp BK125); have NB130_150 := nl hg (kp BK130); have NB150_130 := ng hg (kp BK130); have NB135_150 := nl hg (kp BK135); have NB150_135 := ng hg (kp BK135); have NB140_150 := nl hg (kp BK140); have NB150_140 := ng hg (kp BK140); have NB145_150 := nl hg (kp BK145); have NB150_145 := ng hg (kp BK145); replace BK108 := kB BK108 hb; replace BK109 := kB BK109 hb; replace BK120 := kB BK120 hb; replace BK125 := kB BK125 hb; replace BK130 := kB BK130 hb; replace BK135 := kB BK135 hb; replace BK140 := kB BK140 hb; replace BK145 := kB BK145 hb; replace HB := kS HB hb; clear hb hbox hg; have hnb144 := NB150_108.out; have hnc144 := NB108_150.out; have hnb145 := NB150_109.out; have hnc145 := NB109_150.out; have hnb146 := NB150_120.out; have hnc146 := NB120_150.out; have hnb147 := NB150_125.out; have hnc147 := NB125_150.out; have hnb148 := NB150_130.out; have hnc148 := NB130_150.out; have hnb149 := NB150_135.out; have hnc149 := NB135_150.out; have hnb150 := NB150_140.out; have hnc150 := NB140_150.out; have hnb151 := NB150_145.out; have hnc151 := NB145_150.out; obtain ⟨⟨hcz152_0, hcz152_1, hcz152_2⟩, hfz152_0, hfz152_1, hfz152_2⟩ := bf3 BK150; obtain ⟨⟨hcz153_0, hcz153_1, hcz153_2⟩, hfz153_0, hfz153_1, hfz153_2⟩ := bf3 BK145))
                              go_ret
                              exact ⟨by first | rfl | (simp [errW_none, errW_some] <;> rfl) | (simp [*, errW_none, errW_some] <;> rfl), kb HB⟩
                            · rw [if_neg c114] at H
                              have c114b0 : (!(t141 == t146) || (!(t142 == t147) || (!(t143.toList == t148.toList)))) = false := by simpa using c114
                              clear c114
                              have H' := Aside0.mk H
                              clear H
                              have hnb154 := NB108_109.out
                              have hnc154 := NB109_108.out
                              have hnb155 := NB108_120.out
                              have hnc155 := NB120_108.out
                              have hnb156 := NB108_125.out
                              have hnc156 := NB125_108.out
                              have hnb157 := NB108_130.out
                              have hnc157 := NB130_108.out
                              have hnb158 := NB108_135.out
                              have hnc158 := NB135_108.out
                              obtain ⟨⟨hcz159_0, hcz159_1, hcz159_2⟩, hfz159_0, hfz159_1, hfz159_2⟩ := bf3 BK108
                              go_wp2_with (first | ((with_reducible refine gate_callee (f := 49) rfl ?_); refine gL (some 114) Try.func49 #[.int .i64 x15_3, .agg #[.int .i64 t102, .int .i64 t103, .string t104], .agg #[.int .i64 t102, .int .i64 ((l0.length : Int) % 70), .string (⟨#[]⟩ : ByteArray)]] (bits_MillBinary.calls k3 x15_3 t102 t103 t104 t102 ((l0.length : Int) % 70) (⟨#[]⟩ : ByteArray) t136 t137 t138 t139 _ A108.out) ?_; intro w160 hb; replace BK108 := kB BK108 hb; replace BK109 := kB BK109 hb; replace BK120 := kB BK120 hb; replace BK125 := kB BK125 hb; replace BK130 := kB BK130 hb; replace BK135 := kB BK135 hb; replace HB := kS HB hb) | ((with_reducible refine gate_dst (N := 16) rfl ?_); refine gX 16 #[.int .i64 0, .int .i64 0, .string (⟨#[]⟩ : ByteArray)] 36 ?_; intro gb140 hg w161 hbox hb; have BK140 := Aside0.mk (hbox); have GW140 := gw hg (kb HB); have GE140 := gw hg (kb HB); have NB108_140 := nl hg (kp BK108); have NB140_108 := ng hg (kp BK108); have NB109_140 := nl hg (kp BK109); have NB140_109 := ng hg (kp BK109); have NB120_140 := nl hg (kp BK120); have NB140_120 := ng hg (kp BK120); have NB125_140 := nl hg (kp BK125); have NB140_125 := ng hg (kp BK125); have NB130_140 := nl hg (kp BK130); have NB140_130 := ng hg (kp BK130); have NB135_140 := nl hg (kp BK135); have NB140_135 := ng hg (kp BK135); replace BK108 := kB BK108 hb; replace BK109 := kB BK109 hb; replace BK120 := kB BK120 hb; replace BK125 := kB BK125 hb; replace BK130 := kB BK130 hb; replace BK135 := kB BK135 hb; replace HB := kS HB hb; clear hb hbox hg; have hnb162 := NB140_108.out; have hnc162 := NB108_140.out; have hnb163 := NB140_109.out; have hnc163 := NB109_140.out; have hnb164 := NB140_120.out; have hnc164 := NB120_140.out; have hnb165 := NB140_125.out; have hnc165 := NB125_140.out; have hnb166 := NB140_130.out; have hnc166 := NB130_140.out; have hnb167 := NB140_135.out; have hnc167 := NB135_140.out; obtain ⟨⟨hcz168_0, hcz168_1, hcz168_2⟩, hfz168_0, hfz168_1, hfz168_2⟩ := bf3 BK140; obtain ⟨⟨hcz169_0, hcz169_1, hcz169_2⟩, hfz169_0, hfz169_1, hfz169_2⟩ := bf3 BK108) | ((with_reducible refine gate_callee (f := 49) rfl ?_); refine gL (some 123) Try.func49 #[.int .i64 x15_3, .agg #[.int .i64 t136, .int .i64 t137, .string t138], .agg #[.int .i64 t102, .int .i64 1, .string (⟨#[]⟩ : ByteArray)]] (bits_MillBinary.calls k3 x15_3 t136 t137 t138 t102 1 (⟨#[]⟩ : ByteArray) t141 t142 t143 t144 _ A109.out) ?_; intro w170 hb; replace BK108 := Aside0.mk (blk_below (g := gb108) (o := .cells #[.int .i64 t102, .int .i64 t103, .string t104] 36 (0, 0)) (by (with_reducible repeat (first | refine blk_drewN ?_ _ | refine blk_drew ?_ | refine blk_alloc ?_ _)); refine blk_far ?_ NB108_140.out _; (with_reducible repeat (first | refine blk_drewN ?_ _ | refine blk_drew ?_ | refine blk_alloc ?_ _)); refine blk_far ?_ NB108_140.out _; (with_reducible repeat (first | refine blk_drewN ?_ _ | refine blk_drew ?_ | refine blk_alloc ?_ _)); refine blk_far ?_ NB108_140.out _; (with_reducible repeat (first | refine blk_drewN ?_ _ | refine blk_drew ?_ | refine blk_alloc ?_ _)); exact BK108.out) hb); replace BK109 := Aside0.mk (blk_below (g := gb109) (o := .cells #[.int .i64 t105, .int .i64 t106, .string t107] 36 (0, 0)) (by (with_reducible repeat (first | refine blk_drewN ?_ _ | refine blk_drew ?_ | refine blk_alloc ?_ _)); refine blk_far ?_ NB109_140.out _; (with_reducible repeat (first | refine blk_drewN ?_ _ | refine blk_drew ?_ | refine blk_alloc ?_ _)); refine blk_far ?_ NB109_140.out _; (with_reducible repeat (first | refine blk_drewN ?_ _ | refine blk_drew ?_ | refine blk_alloc ?_ _)); refine blk_far ?_ NB109_140.out _; (with_reducible repeat (first | refine blk_drewN ?_ _ | refine blk_drew ?_ | refine blk_alloc ?_ _)); exact BK109.out) hb); replace BK120 := Aside0.mk (blk_below (g := gb120) (o := .cells #[.int .i64 t116, .int .i64 t117, .string t118] 36 (0, 0)) (by (with_reducible repeat (first | refine blk_drewN ?_ _ | refine blk_drew ?_ | refine blk_alloc ?_ _)); refine blk_far ?_ NB120_140.out _; (with_reducible repeat (first | refine blk_drewN ?_ _ | refine blk_drew ?_ | refine blk_alloc ?_ _)); refine blk_far ?_ NB120_140.out _; (with_reducible repeat (first | refine blk_drewN ?_ _ | refine blk_drew ?_ | refine blk_alloc ?_ _)); refine blk_far ?_ NB120_140.out _; (with_reducible repeat (first | refine blk_drewN ?_ _ | refine blk_drew ?_ | refine blk_alloc ?_ _)); exact BK120.out) hb); replace BK125 := Aside0.mk (blk_below (g := gb125) (o := .cells #[.int .i64 t121, .int .i64 t122, .string t123] 36 (0, 0)) (by (with_reducible repeat (first | refine blk_drewN ?_ _ | refine blk_drew ?_ | refine blk_alloc ?_ _)); refine blk_far ?_ NB125_140.out _; (with_reducible repeat (first | refine blk_drewN ?_ _ | refine blk_drew ?_ | refine blk_alloc ?_ _)); refine blk_far ?_ NB125_140.out _; (with_reducible repeat (first | refine blk_drewN ?_ _ | refine blk_drew ?_ | refine blk_alloc ?_ _)); refine blk_far ?_ NB125_140.out _; (with_reducible repeat (first | refine blk_drewN ?_ _ | refine blk_drew ?_ | refine blk_alloc ?_ _)); exact BK125.out) hb); replace BK130 := Aside0.mk (blk_below (g := gb130) (o := .cells #[.int .i64 t126, .int .i64 t127, .string t128] 36 (0, 0)) (by (with_reducible repeat (first | refine blk_drewN ?_ _ | refine blk_drew ?_ | refine blk_alloc ?_ _)); refine blk_far ?_ NB130_140.out _; (with_reducible repeat (first | refine blk_drewN ?_ _ | refine blk_drew ?_ | refine blk_alloc ?_ _)); refine blk_far ?_ NB130_140.out _; (with_reducible repeat (first | refine blk_drewN ?_ _ | refine blk_drew ?_ | refine blk_alloc ?_ _)); refine blk_far ?_ NB130_140.out _; (with_reducible repeat (first | refine blk_drewN ?_ _ | refine blk_drew ?_ | refine blk_alloc ?_ _)); exact BK130.out) hb); replace BK135 := Aside0.mk (blk_below (g := gb135) (o := .cells #[.int .i64 t131, .int .i64 t132, .string t133] 36 (0, 0)) (by (with_reducible repeat (first | refine blk_drewN ?_ _ | refine blk_drew ?_ | refine blk_alloc ?_ _)); refine blk_far ?_ NB135_140.out _; (with_reducible repeat (first | refine blk_drewN ?_ _ | refine blk_drew ?_ | refine blk_alloc ?_ _)); refine blk_far ?_ NB135_140.out _; (with_reducible repeat (first | refine blk_drewN ?_ _ | refine blk_drew ?_ | refine blk_alloc ?_ _)); refine blk_far ?_ NB135_140.out _; (with_reducible repeat (first | refine blk_drewN ?_ _ | refine blk_drew ?_ | refine blk_alloc ?_ _)); exact BK135.out) hb); replace BK140 := Aside0.mk (blk_below (g := gb140) (o := .cells #[.int .i64 t136, .int .i64 t137, .string t138] 36 (0, 0)) (by (with_reducible repeat (first | refine blk_drewN ?_ _ | refine blk_drew ?_ | refine blk_alloc ?_ _)); refine blk_put (cs := #[.int .i64 t136, .int .i64 t137, .string (⟨#[]⟩ : ByteArray)]) ?_ 2 _ rfl; (with_reducible repeat (first | refine blk_drewN ?_ _ | refine blk_drew ?_ | refine blk_alloc ?_ _)); refine blk_put (cs := #[.int .i64 t136, .int .i64 0, .string (⟨#[]⟩ : ByteArray)]) ?_ 1 _ rfl; (with_reducible repeat (first | refine blk_drewN ?_ _ | refine blk_drew ?_ | refine blk_alloc ?_ _)); refine blk_put (cs := #[.int .i64 0, .int .i64 0, .string (⟨#[]⟩ : ByteArray)]) ?_ 0 _ rfl; (with_reducible repeat (first | refine blk_drewN ?_ _ | refine blk_drew ?_ | refine blk_alloc ?_ _)); exact BK140.out) hb); replace HB := kS HB hb) | ((with_reducible refine gate_dst (N := 18) rfl ?_); refine gX 18 #[.int .i64 0, .int .i64 0, .string (⟨#[]⟩ : ByteArray)] 36 ?_; intro gb145 hg w171 hbox hb; have BK145 := Aside0.mk (hbox); have GW145 := gw hg (kb HB); have GE145 := gw hg (kb HB); have NB108_145 := nl hg (kp BK108); have NB145_108 := ng hg (kp BK108); have NB109_145 := nl hg (kp BK109); have NB145_109 := ng hg (kp BK109); have NB120_145 := nl hg (kp BK120); have NB145_120 := ng hg (kp BK120); have NB125_145 := nl hg (kp BK125); have NB145_125 := ng hg (kp BK125); have NB130_145 := nl hg (kp BK130); have NB145_130 := ng hg (kp BK130); have NB135_145 := nl hg (kp BK135); have NB145_135 := ng hg (kp BK135); have NB140_145 := nl hg (kp BK140); have NB145_140 := ng hg (kp BK140); replace BK108 := kB BK108 hb; replace BK109 := kB BK109 hb; replace BK120 := kB BK120 hb; replace BK125 := kB BK125 hb; replace BK130 := kB BK130 hb; replace BK135 := kB BK135 hb; replace BK140 := kB BK140 hb; replace HB := kS HB hb; clear hb hbox hg; have hnb172 := NB145_108.out; have hnc172 := NB108_145.out; have hnb173 := NB145_109.out; have hnc173 := NB109_145.out; have hnb174 := NB145_120.out; have hnc174 := NB120_145.out; have hnb175 := NB145_125.out; have hnc175 := NB125_145.out; have hnb176 := NB145_130.out; have hnc176 := NB130_145.out; have hnb177 := NB145_135.out; have hnc177 := NB135_145.out; have hnb178 := NB145_140.out; have hnc178 := NB140_145.out; obtain ⟨⟨hcz179_0, hcz179_1, hcz179_2⟩, hfz179_0, hfz179_1, hfz179_2⟩ := bf3 BK145; obtain ⟨⟨hcz180_0, hcz180_1, hcz180_2⟩, hfz180_0, hfz180_1, hfz180_2⟩ := bf3 BK108) | ((with_reducible refine gate_callee (f := 49) rfl ?_); refine gL (some 134) Try.func49 #[.int .i64 x15_3, .agg #[.int .i64 t102, .int .i64 t103, .string t104], .agg #[.int .i64 t102, .int .i64 (((l0.length : Int) % 70) + 1), .string (⟨#[]⟩ : ByteArray)]] (bits_MillBinary.calls k3 x15_3 t102 t103 t104 t102 (((l0.length : Int) % 70) + 1) (⟨#[]⟩ : ByteArray) t146 t147 t148 t149 _ A110w.out) ?_; intro w181 hb; replace BK108 := Aside0.mk (blk_below (g := gb108) (o := .cells #[.int .i64 t102, .int .i64 t103, .string t104] 36 (0, 0)) (by (with_reducible repeat (first | refine blk_drewN ?_ _ | refine blk_drew ?_ | refine blk_alloc ?_ _)); refine blk_far ?_ NB108_145.out _; (with_reducible repeat (first | refine blk_drewN ?_ _ | refine blk_drew ?_ | refine blk_alloc ?_ _)); refine blk_far ?_ NB108_145.out _; (with_reducible repeat (first | refine blk_drewN ?_ _ | refine blk_drew ?_ | refine blk_alloc ?_ _)); refine blk_far ?_ NB108_145.out _; (with_reducible repeat (first | refine blk_drewN ?_ _ | refine blk_drew ?_ | refine blk_alloc ?_ _)); exact BK108.out) hb); replace BK109 := Aside0.mk (blk_below (g := gb109) (o := .cells #[.int .i64 t105, .int .i64 t106, .string t107] 36 (0, 0)) (by (with_reducible repeat (first | refine blk_drewN ?_ _ | refine blk_drew ?_ | refine blk_alloc ?_ _)); refine blk_far ?_ NB109_145.out _; (with_reducible repeat (first | refine blk_drewN ?_ _ | refine blk_drew ?_ | refine blk_alloc ?_ _)); refine blk_far ?_ NB109_145.out _; (with_reducible repeat (first | refine blk_drewN ?_ _ | refine blk_drew ?_ | refine blk_alloc ?_ _)); refine blk_far ?_ NB109_145.out _; (with_reducible repeat (first | refine blk_drewN ?_ _ | refine blk_drew ?_ | refine blk_alloc ?_ _)); exact BK109.out) hb); replace BK120 := Aside0.mk (blk_below (g := gb120) (o := .cells #[.int .i64 t116, .int .i64 t117, .string t118] 36 (0, 0)) (by (with_reducible repeat (first | refine blk_drewN ?_ _ | refine blk_drew ?_ | refine blk_alloc ?_ _)); refine blk_far ?_ NB120_145.out _; (with_reducible repeat (first | refine blk_drewN ?_ _ | refine blk_drew ?_ | refine blk_alloc ?_ _)); refine blk_far ?_ NB120_145.out _; (with_reducible repeat (first | refine blk_drewN ?_ _ | refine blk_drew ?_ | refine blk_alloc ?_ _)); refine blk_far ?_ NB120_145.out _; (with_reducible repeat (first | refine blk_drewN ?_ _ | refine blk_drew ?_ | refine blk_alloc ?_ _)); exact BK120.out) hb); replace BK125 := Aside0.mk (blk_below (g := gb125) (o := .cells #[.int .i64 t121, .int .i64 t122, .string t123] 36 (0, 0)) (by (with_reducible repeat (first | refine blk_drewN ?_ _ | refine blk_drew ?_ | refine blk_alloc ?_ _)); refine blk_far ?_ NB125_145.out _; (with_reducible repeat (first | refine blk_drewN ?_ _ | refine blk_drew ?_ | refine blk_alloc ?_ _)); refine blk_far ?_ NB125_145.out _; (with_reducible repeat (first | refine blk_drewN ?_ _ | refine blk_drew ?_ | refine blk_alloc ?_ _)); refine blk_far ?_ NB125_145.out _; (with_reducible repeat (first | refine blk_drewN ?_ _ | refine blk_drew ?_ | refine blk_alloc ?_ _)); exact BK125.out) hb); replace BK130 := Aside0.mk (blk_below (g := gb130) (o := .cells #[.int .i64 t126, .int .i64 t127, .string t128] 36 (0, 0)) (by (with_reducible repeat (first | refine blk_drewN ?_ _ | refine blk_drew ?_ | refine blk_alloc ?_ _)); refine blk_far ?_ NB130_145.out _; (with_reducible repeat (first | refine blk_drewN ?_ _ | refine blk_drew ?_ | refine blk_alloc ?_ _)); refine blk_far ?_ NB130_145.out _; (with_reducible repeat (first | refine blk_drewN ?_ _ | refine blk_drew ?_ | refine blk_alloc ?_ _)); refine blk_far ?_ NB130_145.out _; (with_reducible repeat (first | refine blk_drewN ?_ _ | refine blk_drew ?_ | refine blk_alloc ?_ _)); exact BK130.out) hb); replace BK135 := Aside0.mk (blk_below (g := gb135) (o := .cells #[.int .i64 t131, .int .i64 t132, .string t133] 36 (0, 0)) (by (with_reducible repeat (first | refine blk_drewN ?_ _ | refine blk_drew ?_ | refine blk_alloc ?_ _)); refine blk_far ?_ NB135_145.out _; (with_reducible repeat (first | refine blk_drewN ?_ _ | refine blk_drew ?_ | refine blk_alloc ?_ _)); refine blk_far ?_ NB135_145.out _; (with_reducible repeat (first | refine blk_drewN ?_ _ | refine blk_drew ?_ | refine blk_alloc ?_ _)); refine blk_far ?_ NB135_145.out _; (with_reducible repeat (first | refine blk_drewN ?_ _ | refine blk_drew ?_ | refine blk_alloc ?_ _)); exact BK135.out) hb); replace BK140 := Aside0.mk (blk_below (g := gb140) (o := .cells #[.int .i64 t136, .int .i64 t137, .string t138] 36 (0, 0)) (by (with_reducible repeat (first | refine blk_drewN ?_ _ | refine blk_drew ?_ | refine blk_alloc ?_ _)); refine blk_far ?_ NB140_145.out _; (with_reducible repeat (first | refine blk_drewN ?_ _ | refine blk_drew ?_ | refine blk_alloc ?_ _)); refine blk_far ?_ NB140_145.out _; (with_reducible repeat (first | refine blk_drewN ?_ _ | refine blk_drew ?_ | refine blk_alloc ?_ _)); refine blk_far ?_ NB140_145.out _; (with_reducible repeat (first | refine blk_drewN ?_ _ | refine blk_drew ?_ | refine blk_alloc ?_ _)); exact BK140.out) hb); replace BK145 := Aside0.mk (blk_below (g := gb145) (o := .cells #[.int .i64 t141, .int .i64 t142, .string t143] 36 (0, 0)) (by (with_reducible repeat (first | refine blk_drewN ?_ _ | refine blk_drew ?_ | refine blk_alloc ?_ _)); refine blk_put (cs := #[.int .i64 t141, .int .i64 t142, .string (⟨#[]⟩ : ByteArray)]) ?_ 2 _ rfl; (with_reducible repeat (first | refine blk_drewN ?_ _ | refine blk_drew ?_ | refine blk_alloc ?_ _)); refine blk_put (cs := #[.int .i64 t141, .int .i64 0, .string (⟨#[]⟩ : ByteArray)]) ?_ 1 _ rfl; (with_reducible repeat (first | refine blk_drewN ?_ _ | refine blk_drew ?_ | refine blk_alloc ?_ _)); refine blk_put (cs := #[.int .i64 0, .int .i64 0, .string (⟨#[]⟩ : ByteArray)]) ?_ 0 _ rfl; (with_reducible repeat (first | refine blk_drewN ?_ _ | refine blk_drew ?_ | refine blk_alloc ?_ _)); exact BK145.out) hb); replace HB := kS HB hb) | ((with_reducible refine gate_dst (N := 20) rfl ?_); refine gX 20 #[.int .i64 0, .int .i64 0, .string (⟨#[]⟩ : ByteArray)] 36 ?_; intro gb150 hg w182 hbox hb; have BK150 := Aside0.mk (hbox); have GW150 := gw hg (kb HB); have GE150 := gw hg (kb HB); have NB108_150 := nl hg (kp BK108); have NB150_108 := ng hg (kp BK108); have NB109_150 := nl hg (kp BK109); have NB150_109 := ng hg (kp BK109); have NB120_150 := nl hg (kp BK120); have NB150_120 := ng hg (kp BK120); have NB125_150 := nl hg (kp BK125); have NB150_125 := ng hg (kp BK125); have NB130_150 := nl hg (kp BK130); have NB150_130 := ng hg (kp BK130); have NB135_150 := nl hg (kp BK135); have NB150_135 := ng hg (kp BK135); have NB140_150 := nl hg (kp BK140); have NB150_140 := ng hg (kp BK140); have NB145_150 := nl hg (kp BK145); have NB150_145 := ng hg (kp BK145); replace BK108 := kB BK108 hb; replace BK109 := kB BK109 hb; replace BK120 := kB BK120 hb; replace BK125 := kB BK125 hb; replace BK130 := kB BK130 hb; replace BK135 := kB BK135 hb; replace BK140 := kB BK140 hb; replace BK145 := kB BK145 hb; replace HB := kS HB hb; clear hb hbox hg; have hnb183 := NB150_108.out; have hnc183 := NB108_150.out; have hnb184 := NB150_109.out; have hnc184 := NB109_150.out; have hnb185 := NB150_120.out; have hnc185 := NB120_150.out; have hnb186 := NB150_125.out; have hnc186 := NB125_150.out; have hnb187 := NB150_130.out; have hnc187 := NB130_150.out; have hnb188 := NB150_135.out; have hnc188 := NB135_150.out; have hnb189 := NB150_140.out; have hnc189 := NB140_150.out; have hnb190 := NB150_145.out; have hnc190 := NB145_150.out; obtain ⟨⟨hcz191_0, hcz191_1, hcz191_2⟩, hfz191_0, hfz191_1, hfz191_2⟩ := bf3 BK150; obtain ⟨⟨hcz192_0, hcz192_1, hcz192_2⟩, hfz192_0, hfz192_1, hfz192_2⟩ := bf3 BK145))
                              go_roundg k3
                              case measure => have := HJ3.out; have := HJ55.out; have := HK3.out; omega
                              case rel => exact ⟨(wrap64 (x15_3 + 1)), (by first | rfl | (simp; done) | (simp [*]; done)), H', ⟨by have := HJ3.out; have := HJ55.out; have := HK3.out; omega⟩, ⟨by (with_reducible repeat (first | refine blk_drewN ?_ _ | refine blk_drew ?_ | refine blk_alloc ?_ _)); refine blk_far ?_ NB108_150.out _; (with_reducible repeat (first | refine blk_drewN ?_ _ | refine blk_drew ?_ | refine blk_alloc ?_ _)); refine blk_far ?_ NB108_150.out _; (with_reducible repeat (first | refine blk_drewN ?_ _ | refine blk_drew ?_ | refine blk_alloc ?_ _)); refine blk_far ?_ NB108_150.out _; (with_reducible repeat (first | refine blk_drewN ?_ _ | refine blk_drew ?_ | refine blk_alloc ?_ _)); exact BK108.out⟩, ⟨by (with_reducible repeat (first | refine blk_drewN ?_ _ | refine blk_drew ?_ | refine blk_alloc ?_ _)); refine blk_far ?_ NB109_150.out _; (with_reducible repeat (first | refine blk_drewN ?_ _ | refine blk_drew ?_ | refine blk_alloc ?_ _)); refine blk_far ?_ NB109_150.out _; (with_reducible repeat (first | refine blk_drewN ?_ _ | refine blk_drew ?_ | refine blk_alloc ?_ _)); refine blk_far ?_ NB109_150.out _; (with_reducible repeat (first | refine blk_drewN ?_ _ | refine blk_drew ?_ | refine blk_alloc ?_ _)); exact BK109.out⟩, ⟨by (with_reducible repeat (first | refine blk_drewN ?_ _ | refine blk_drew ?_ | refine blk_alloc ?_ _)); refine blk_far ?_ NB120_150.out _; (with_reducible repeat (first | refine blk_drewN ?_ _ | refine blk_drew ?_ | refine blk_alloc ?_ _)); refine blk_far ?_ NB120_150.out _; (with_reducible repeat (first | refine blk_drewN ?_ _ | refine blk_drew ?_ | refine blk_alloc ?_ _)); refine blk_far ?_ NB120_150.out _; (with_reducible repeat (first | refine blk_drewN ?_ _ | refine blk_drew ?_ | refine blk_alloc ?_ _)); exact BK120.out⟩, ⟨by (with_reducible repeat (first | refine blk_drewN ?_ _ | refine blk_drew ?_ | refine blk_alloc ?_ _)); refine blk_far ?_ NB125_150.out _; (with_reducible repeat (first | refine blk_drewN ?_ _ | refine blk_drew ?_ | refine blk_alloc ?_ _)); refine blk_far ?_ NB125_150.out _; (with_reducible repeat (first | refine blk_drewN ?_ _ | refine blk_drew ?_ | refine blk_alloc ?_ _)); refine blk_far ?_ NB125_150.out _; (with_reducible repeat (first | refine blk_drewN ?_ _ | refine blk_drew ?_ | refine blk_alloc ?_ _)); exact BK125.out⟩, ⟨by (with_reducible repeat (first | refine blk_drewN ?_ _ | refine blk_drew ?_ | refine blk_alloc ?_ _)); refine blk_far ?_ NB130_150.out _; (with_reducible repeat (first | refine blk_drewN ?_ _ | refine blk_drew ?_ | refine blk_alloc ?_ _)); refine blk_far ?_ NB130_150.out _; (with_reducible repeat (first | refine blk_drewN ?_ _ | refine blk_drew ?_ | refine blk_alloc ?_ _)); refine blk_far ?_ NB130_150.out _; (with_reducible repeat (first | refine blk_drewN ?_ _ | refine blk_drew ?_ | refine blk_alloc ?_ _)); exact BK130.out⟩, ⟨by (with_reducible repeat (first | refine blk_drewN ?_ _ | refine blk_drew ?_ | refine blk_alloc ?_ _)); refine blk_far ?_ NB135_150.out _; (with_reducible repeat (first | refine blk_drewN ?_ _ | refine blk_drew ?_ | refine blk_alloc ?_ _)); refine blk_far ?_ NB135_150.out _; (with_reducible repeat (first | refine blk_drewN ?_ _ | refine blk_drew ?_ | refine blk_alloc ?_ _)); refine blk_far ?_ NB135_150.out _; (with_reducible repeat (first | refine blk_drewN ?_ _ | refine blk_drew ?_ | refine blk_alloc ?_ _)); exact BK135.out⟩, ⟨kb HB⟩⟩
                          · rw [if_neg c113] at H
                            have c113b0 : (((t139 ++ t144) ++ t149).toList == ([] : List UInt8)) = false := beq_eq_false_iff_ne.mpr c113
                            have c113b1 : (((t139 ++ t144) ++ t149).toList != ([] : List UInt8)) = true := bne_iff_ne.mpr c113
                            obtain rfl := Option.some.inj H
                            have hnb193 := NB108_109.out
                            have hnc193 := NB109_108.out
                            have hnb194 := NB108_120.out
                            have hnc194 := NB120_108.out
                            have hnb195 := NB108_125.out
                            have hnc195 := NB125_108.out
                            have hnb196 := NB108_130.out
                            have hnc196 := NB130_108.out
                            have hnb197 := NB108_135.out
                            have hnc197 := NB135_108.out
                            obtain ⟨⟨hcz198_0, hcz198_1, hcz198_2⟩, hfz198_0, hfz198_1, hfz198_2⟩ := bf3 BK108
                            go_wp2_with (first | ((with_reducible refine gate_callee (f := 49) rfl ?_); refine gL (some 114) Try.func49 #[.int .i64 x15_3, .agg #[.int .i64 t102, .int .i64 t103, .string t104], .agg #[.int .i64 t102, .int .i64 ((l0.length : Int) % 70), .string (⟨#[]⟩ : ByteArray)]] (bits_MillBinary.calls k3 x15_3 t102 t103 t104 t102 ((l0.length : Int) % 70) (⟨#[]⟩ : ByteArray) t136 t137 t138 t139 _ A108.out) ?_; intro w199 hb; replace BK108 := kB BK108 hb; replace BK109 := kB BK109 hb; replace BK120 := kB BK120 hb; replace BK125 := kB BK125 hb; replace BK130 := kB BK130 hb; replace BK135 := kB BK135 hb; replace HB := kS HB hb) | ((with_reducible refine gate_dst (N := 16) rfl ?_); refine gX 16 #[.int .i64 0, .int .i64 0, .string (⟨#[]⟩ : ByteArray)] 36 ?_; intro gb140 hg w200 hbox hb; have BK140 := Aside0.mk (hbox); have GW140 := gw hg (kb HB); have GE140 := gw hg (kb HB); have NB108_140 := nl hg (kp BK108); have NB140_108 := ng hg (kp BK108); have NB109_140 := nl hg (kp BK109); have NB140_109 := ng hg (kp BK109); have NB120_140 := nl hg (kp BK120); have NB140_120 := ng hg (kp BK120); have NB125_140 := nl hg (kp BK125); have NB140_125 := ng hg (kp BK125); have NB130_140 := nl hg (kp BK130); have NB140_130 := ng hg (kp BK130); have NB135_140 := nl hg (kp BK135); have NB140_135 := ng hg (kp BK135); replace BK108 := kB BK108 hb; replace BK109 := kB BK109 hb; replace BK120 := kB BK120 hb; replace BK125 := kB BK125 hb; replace BK130 := kB BK130 hb; replace BK135 := kB BK135 hb; replace HB := kS HB hb; clear hb hbox hg; have hnb201 := NB140_108.out; have hnc201 := NB108_140.out; have hnb202 := NB140_109.out; have hnc202 := NB109_140.out; have hnb203 := NB140_120.out; have hnc203 := NB120_140.out; have hnb204 := NB140_125.out; have hnc204 := NB125_140.out; have hnb205 := NB140_130.out; have hnc205 := NB130_140.out; have hnb206 := NB140_135.out; have hnc206 := NB135_140.out; obtain ⟨⟨hcz207_0, hcz207_1, hcz207_2⟩, hfz207_0, hfz207_1, hfz207_2⟩ := bf3 BK140; obtain ⟨⟨hcz208_0, hcz208_1, hcz208_2⟩, hfz208_0, hfz208_1, hfz208_2⟩ := bf3 BK108) | ((with_reducible refine gate_callee (f := 49) rfl ?_); refine gL (some 123) Try.func49 #[.int .i64 x15_3, .agg #[.int .i64 t136, .int .i64 t137, .string t138], .agg #[.int .i64 t102, .int .i64 1, .string (⟨#[]⟩ : ByteArray)]] (bits_MillBinary.calls k3 x15_3 t136 t137 t138 t102 1 (⟨#[]⟩ : ByteArray) t141 t142 t143 t144 _ A109.out) ?_; intro w209 hb; replace BK108 := Aside0.mk (blk_below (g := gb108) (o := .cells #[.int .i64 t102, .int .i64 t103, .string t104] 36 (0, 0)) (by (with_reducible repeat (first | refine blk_drewN ?_ _ | refine blk_drew ?_ | refine blk_alloc ?_ _)); refine blk_far ?_ NB108_140.out _; (with_reducible repeat (first | refine blk_drewN ?_ _ | refine blk_drew ?_ | refine blk_alloc ?_ _)); refine blk_far ?_ NB108_140.out _; (with_reducible repeat (first | refine blk_drewN ?_ _ | refine blk_drew ?_ | refine blk_alloc ?_ _)); refine blk_far ?_ NB108_140.out _; (with_reducible repeat (first | refine blk_drewN ?_ _ | refine blk_drew ?_ | refine blk_alloc ?_ _)); exact BK108.out) hb); replace BK109 := Aside0.mk (blk_below (g := gb109) (o := .cells #[.int .i64 t105, .int .i64 t106, .string t107] 36 (0, 0)) (by (with_reducible repeat (first | refine blk_drewN ?_ _ | refine blk_drew ?_ | refine blk_alloc ?_ _)); refine blk_far ?_ NB109_140.out _; (with_reducible repeat (first | refine blk_drewN ?_ _ | refine blk_drew ?_ | refine blk_alloc ?_ _)); refine blk_far ?_ NB109_140.out _; (with_reducible repeat (first | refine blk_drewN ?_ _ | refine blk_drew ?_ | refine blk_alloc ?_ _)); refine blk_far ?_ NB109_140.out _; (with_reducible repeat (first | refine blk_drewN ?_ _ | refine blk_drew ?_ | refine blk_alloc ?_ _)); exact BK109.out) hb); replace BK120 := Aside0.mk (blk_below (g := gb120) (o := .cells #[.int .i64 t116, .int .i64 t117, .string t118] 36 (0, 0)) (by (with_reducible repeat (first | refine blk_drewN ?_ _ | refine blk_drew ?_ | refine blk_alloc ?_ _)); refine blk_far ?_ NB120_140.out _; (with_reducible repeat (first | refine blk_drewN ?_ _ | refine blk_drew ?_ | refine blk_alloc ?_ _)); refine blk_far ?_ NB120_140.out _; (with_reducible repeat (first | refine blk_drewN ?_ _ | refine blk_drew ?_ | refine blk_alloc ?_ _)); refine blk_far ?_ NB120_140.out _; (with_reducible repeat (first | refine blk_drewN ?_ _ | refine blk_drew ?_ | refine blk_alloc ?_ _)); exact BK120.out) hb); replace BK125 := Aside0.mk (blk_below (g := gb125) (o := .cells #[.int .i64 t121, .int .i64 t122, .string t123] 36 (0, 0)) (by (with_reducible repeat (first | refine blk_drewN ?_ _ | refine blk_drew ?_ | refine blk_alloc ?_ _)); refine blk_far ?_ NB125_140.out _; (with_reducible repeat (first | refine blk_drewN ?_ _ | refine blk_drew ?_ | refine blk_alloc ?_ _)); refine blk_far ?_ NB125_140.out _; (with_reducible repeat (first | refine blk_drewN ?_ _ | refine blk_drew ?_ | refine blk_alloc ?_ _)); refine blk_far ?_ NB125_140.out _; (with_reducible repeat (first | refine blk_drewN ?_ _ | refine blk_drew ?_ | refine blk_alloc ?_ _)); exact BK125.out) hb); replace BK130 := Aside0.mk (blk_below (g := gb130) (o := .cells #[.int .i64 t126, .int .i64 t127, .string t128] 36 (0, 0)) (by (with_reducible repeat (first | refine blk_drewN ?_ _ | refine blk_drew ?_ | refine blk_alloc ?_ _)); refine blk_far ?_ NB130_140.out _; (with_reducible repeat (first | refine blk_drewN ?_ _ | refine blk_drew ?_ | refine blk_alloc ?_ _)); refine blk_far ?_ NB130_140.out _; (with_reducible repeat (first | refine blk_drewN ?_ _ | refine blk_drew ?_ | refine blk_alloc ?_ _)); refine blk_far ?_ NB130_140.out _; (with_reducible repeat (first | refine blk_drewN ?_ _ | refine blk_drew ?_ | refine blk_alloc ?_ _)); exact BK130.out) hb); replace BK135 := Aside0.mk (blk_below (g := gb135) (o := .cells #[.int .i64 t131, .int .i64 t132, .string t133] 36 (0, 0)) (by (with_reducible repeat (first | refine blk_drewN ?_ _ | refine blk_drew ?_ | refine blk_alloc ?_ _)); refine blk_far ?_ NB135_140.out _; (with_reducible repeat (first | refine blk_drewN ?_ _ | refine blk_drew ?_ | refine blk_alloc ?_ _)); refine blk_far ?_ NB135_140.out _; (with_reducible repeat (first | refine blk_drewN ?_ _ | refine blk_drew ?_ | refine blk_alloc ?_ _)); refine blk_far ?_ NB135_140.out _; (with_reducible repeat (first | refine blk_drewN ?_ _ | refine blk_drew ?_ | refine blk_alloc ?_ _)); exact BK135.out) hb); replace BK140 := Aside0.mk (blk_below (g := gb140) (o := .cells #[.int .i64 t136, .int .i64 t137, .string t138] 36 (0, 0)) (by (with_reducible repeat (first | refine blk_drewN ?_ _ | refine blk_drew ?_ | refine blk_alloc ?_ _)); refine blk_put (cs := #[.int .i64 t136, .int .i64 t137, .string (⟨#[]⟩ : ByteArray)]) ?_ 2 _ rfl; (with_reducible repeat (first | refine blk_drewN ?_ _ | refine blk_drew ?_ | refine blk_alloc ?_ _)); refine blk_put (cs := #[.int .i64 t136, .int .i64 0, .string (⟨#[]⟩ : ByteArray)]) ?_ 1 _ rfl; (with_reducible repeat (first | refine blk_drewN ?_ _ | refine blk_drew ?_ | refine blk_alloc ?_ _)); refine blk_put (cs := #[.int .i64 0, .int .i64 0, .string (⟨#[]⟩ : ByteArray)]) ?_ 0 _ rfl; (with_reducible repeat (first | refine blk_drewN ?_ _ | refine blk_drew ?_ | refine blk_alloc ?_ _)); exact BK140.out) hb); replace HB := kS HB hb) | ((with_reducible refine gate_dst (N := 18) rfl ?_); refine gX 18 #[.int .i64 0, .int .i64 0, .string (⟨#[]⟩ : ByteArray)] 36 ?_; intro gb145 hg w210 hbox hb; have BK145 := Aside0.mk (hbox); have GW145 := gw hg (kb HB); have GE145 := gw hg (kb HB); have NB108_145 := nl hg (kp BK108); have NB145_108 := ng hg (kp BK108); have NB109_145 := nl hg (kp BK109); have NB145_109 := ng hg (kp BK109); have NB120_145 := nl hg (kp BK120); have NB145_120 := ng hg (kp BK120); have NB125_145 := nl hg (kp BK125); have NB145_125 := ng hg (kp BK125); have NB130_145 := nl hg (kp BK130); have NB145_130 := ng hg (kp BK130); have NB135_145 := nl hg (kp BK135); have NB145_135 := ng hg (kp BK135); have NB140_145 := nl hg (kp BK140); have NB145_140 := ng hg (kp BK140); replace BK108 := kB BK108 hb; replace BK109 := kB BK109 hb; replace BK120 := kB BK120 hb; replace BK125 := kB BK125 hb; replace BK130 := kB BK130 hb; replace BK135 := kB BK135 hb; replace BK140 := kB BK140 hb; replace HB := kS HB hb; clear hb hbox hg; have hnb211 := NB145_108.out; have hnc211 := NB108_145.out; have hnb212 := NB145_109.out; have hnc212 := NB109_145.out; have hnb213 := NB145_120.out; have hnc213 := NB120_145.out; have hnb214 := NB145_125.out; have hnc214 := NB125_145.out; have hnb215 := NB145_130.out; have hnc215 := NB130_145.out; have hnb216 := NB145_135.out; have hnc216 := NB135_145.out; have hnb217 := NB145_140.out; have hnc217 := NB140_145.out; obtain ⟨⟨hcz218_0, hcz218_1, hcz218_2⟩, hfz218_0, hfz218_1, hfz218_2⟩ := bf3 BK145; obtain ⟨⟨hcz219_0, hcz219_1, hcz219_2⟩, hfz219_0, hfz219_1, hfz219_2⟩ := bf3 BK108) | ((with_reducible refine gate_callee (f := 49) rfl ?_); refine gL (some 134) Try.func49 #[.int .i64 x15_3, .agg #[.int .i64 t102, .int .i64 t103, .string t104], .agg #[.int .i64 t102, .int .i64 (((l0.length : Int) % 70) + 1), .string (⟨#[]⟩ : ByteArray)]] (bits_MillBinary.calls k3 x15_3 t102 t103 t104 t102 (((l0.length : Int) % 70) + 1) (⟨#[]⟩ : ByteArray) t146 t147 t148 t149 _ A110w.out) ?_; intro w220 hb; replace BK108 := Aside0.mk (blk_below (g := gb108) (o := .cells #[.int .i64 t102, .int .i64 t103, .string t104] 36 (0, 0)) (by (with_reducible repeat (first | refine blk_drewN ?_ _ | refine blk_drew ?_ | refine blk_alloc ?_ _)); refine blk_far ?_ NB108_145.out _; (with_reducible repeat (first | refine blk_drewN ?_ _ | refine blk_drew ?_ | refine blk_alloc ?_ _)); refine blk_far ?_ NB108_145.out _; (with_reducible repeat (first | refine blk_drewN ?_ _ | refine blk_drew ?_ | refine blk_alloc ?_ _)); refine blk_far ?_ NB108_145.out _; (with_reducible repeat (first | refine blk_drewN ?_ _ | refine blk_drew ?_ | refine blk_alloc ?_ _)); exact BK108.out) hb); replace BK109 := Aside0.mk (blk_below (g := gb109) (o := .cells #[.int .i64 t105, .int .i64 t106, .string t107] 36 (0, 0)) (by (with_reducible repeat (first | refine blk_drewN ?_ _ | refine blk_drew ?_ | refine blk_alloc ?_ _)); refine blk_far ?_ NB109_145.out _; (with_reducible repeat (first | refine blk_drewN ?_ _ | refine blk_drew ?_ | refine blk_alloc ?_ _)); refine blk_far ?_ NB109_145.out _; (with_reducible repeat (first | refine blk_drewN ?_ _ | refine blk_drew ?_ | refine blk_alloc ?_ _)); refine blk_far ?_ NB109_145.out _; (with_reducible repeat (first | refine blk_drewN ?_ _ | refine blk_drew ?_ | refine blk_alloc ?_ _)); exact BK109.out) hb); replace BK120 := Aside0.mk (blk_below (g := gb120) (o := .cells #[.int .i64 t116, .int .i64 t117, .string t118] 36 (0, 0)) (by (with_reducible repeat (first | refine blk_drewN ?_ _ | refine blk_drew ?_ | refine blk_alloc ?_ _)); refine blk_far ?_ NB120_145.out _; (with_reducible repeat (first | refine blk_drewN ?_ _ | refine blk_drew ?_ | refine blk_alloc ?_ _)); refine blk_far ?_ NB120_145.out _; (with_reducible repeat (first | refine blk_drewN ?_ _ | refine blk_drew ?_ | refine blk_alloc ?_ _)); refine blk_far ?_ NB120_145.out _; (with_reducible repeat (first | refine blk_drewN ?_ _ | refine blk_drew ?_ | refine blk_alloc ?_ _)); exact BK120.out) hb); replace BK125 := Aside0.mk (blk_below (g := gb125) (o := .cells #[.int .i64 t121, .int .i64 t122, .string t123] 36 (0, 0)) (by (with_reducible repeat (first | refine blk_drewN ?_ _ | refine blk_drew ?_ | refine blk_alloc ?_ _)); refine blk_far ?_ NB125_145.out _; (with_reducible repeat (first | refine blk_drewN ?_ _ | refine blk_drew ?_ | refine blk_alloc ?_ _)); refine blk_far ?_ NB125_145.out _; (with_reducible repeat (first | refine blk_drewN ?_ _ | refine blk_drew ?_ | refine blk_alloc ?_ _)); refine blk_far ?_ NB125_145.out _; (with_reducible repeat (first | refine blk_drewN ?_ _ | refine blk_drew ?_ | refine blk_alloc ?_ _)); exact BK125.out) hb); replace BK130 := Aside0.mk (blk_below (g := gb130) (o := .cells #[.int .i64 t126, .int .i64 t127, .string t128] 36 (0, 0)) (by (with_reducible repeat (first | refine blk_drewN ?_ _ | refine blk_drew ?_ | refine blk_alloc ?_ _)); refine blk_far ?_ NB130_145.out _; (with_reducible repeat (first | refine blk_drewN ?_ _ | refine blk_drew ?_ | refine blk_alloc ?_ _)); refine blk_far ?_ NB130_145.out _; (with_reducible repeat (first | refine blk_drewN ?_ _ | refine blk_drew ?_ | refine blk_alloc ?_ _)); refine blk_far ?_ NB130_145.out _; (with_reducible repeat (first | refine blk_drewN ?_ _ | refine blk_drew ?_ | refine blk_alloc ?_ _)); exact BK130.out) hb); replace BK135 := Aside0.mk (blk_below (g := gb135) (o := .cells #[.int .i64 t131, .int .i64 t132, .string t133] 36 (0, 0)) (by (with_reducible repeat (first | refine blk_drewN ?_ _ | refine blk_drew ?_ | refine blk_alloc ?_ _)); refine blk_far ?_ NB135_145.out _; (with_reducible repeat (first | refine blk_drewN ?_ _ | refine blk_drew ?_ | refine blk_alloc ?_ _)); refine blk_far ?_ NB135_145.out _; (with_reducible repeat (first | refine blk_drewN ?_ _ | refine blk_drew ?_ | refine blk_alloc ?_ _)); refine blk_far ?_ NB135_145.out _; (with_reducible repeat (first | refine blk_drewN ?_ _ | refine blk_drew ?_ | refine blk_alloc ?_ _)); exact BK135.out) hb); replace BK140 := Aside0.mk (blk_below (g := gb140) (o := .cells #[.int .i64 t136, .int .i64 t137, .string t138] 36 (0, 0)) (by (with_reducible repeat (first | refine blk_drewN ?_ _ | refine blk_drew ?_ | refine blk_alloc ?_ _)); refine blk_far ?_ NB140_145.out _; (with_reducible repeat (first | refine blk_drewN ?_ _ | refine blk_drew ?_ | refine blk_alloc ?_ _)); refine blk_far ?_ NB140_145.out _; (with_reducible repeat (first | refine blk_drewN ?_ _ | refine blk_drew ?_ | refine blk_alloc ?_ _)); refine blk_far ?_ NB140_145.out _; (with_reducible repeat (first | refine blk_drewN ?_ _ | refine blk_drew ?_ | refine blk_alloc ?_ _)); exact BK140.out) hb); replace BK145 := Aside0.mk (blk_below (g := gb145) (o := .cells #[.int .i64 t141, .int .i64 t142, .string t143] 36 (0, 0)) (by (with_reducible repeat (first | refine blk_drewN ?_ _ | refine blk_drew ?_ | refine blk_alloc ?_ _)); refine blk_put (cs := #[.int .i64 t141, .int .i64 t142, .string (⟨#[]⟩ : ByteArray)]) ?_ 2 _ rfl; (with_reducible repeat (first | refine blk_drewN ?_ _ | refine blk_drew ?_ | refine blk_alloc ?_ _)); refine blk_put (cs := #[.int .i64 t141, .int .i64 0, .string (⟨#[]⟩ : ByteArray)]) ?_ 1 _ rfl; (with_reducible repeat (first | refine blk_drewN ?_ _ | refine blk_drew ?_ | refine blk_alloc ?_ _)); refine blk_put (cs := #[.int .i64 0, .int .i64 0, .string (⟨#[]⟩ : ByteArray)]) ?_ 0 _ rfl; (with_reducible repeat (first | refine blk_drewN ?_ _ | refine blk_drew ?_ | refine blk_alloc ?_ _)); exact BK145.out) hb); replace HB := kS HB hb) | ((with_reducible refine gate_dst (N := 20) rfl ?_); refine gX 20 #[.int .i64 0, .int .i64 0, .string (⟨#[]⟩ : ByteArray)] 36 ?_; intro gb150 hg w221 hbox hb; have BK150 := Aside0.mk (hbox); have GW150 := gw hg (kb HB); have GE150 := gw hg (kb HB); have NB108_150 := nl hg (kp BK108); have NB150_108 := ng hg (kp BK108); have NB109_150 := nl hg (kp BK109); have NB150_109 := ng hg (kp BK109); have NB120_150 := nl hg (kp BK120); have NB150_120 := ng hg (kp BK120); have NB125_150 := nl hg (kp BK125); have NB150_125 := ng hg (kp BK125); have NB130_150 := nl hg (kp BK130); have NB150_130 := ng hg (kp BK130); have NB135_150 := nl hg (kp BK135); have NB150_135 := ng hg (kp BK135); have NB140_150 := nl hg (kp BK140); have NB150_140 := ng hg (kp BK140); have NB145_150 := nl hg (kp BK145); have NB150_145 := ng hg (kp BK145); replace BK108 := kB BK108 hb; replace BK109 := kB BK109 hb; replace BK120 := kB BK120 hb; replace BK125 := kB BK125 hb; replace BK130 := kB BK130 hb; replace BK135 := kB BK135 hb; replace BK140 := kB BK140 hb; replace BK145 := kB BK145 hb; replace HB := kS HB hb; clear hb hbox hg; have hnb222 := NB150_108.out; have hnc222 := NB108_150.out; have hnb223 := NB150_109.out; have hnc223 := NB109_150.out; have hnb224 := NB150_120.out; have hnc224 := NB120_150.out; have hnb225 := NB150_125.out; have hnc225 := NB125_150.out; have hnb226 := NB150_130.out; have hnc226 := NB130_150.out; have hnb227 := NB150_135.out; have hnc227 := NB135_150.out; have hnb228 := NB150_140.out; have hnc228 := NB140_150.out; have hnb229 := NB150_145.out; have hnc229 := NB145_150.out; obtain ⟨⟨hcz230_0, hcz230_1, hcz230_2⟩, hfz230_0, hfz230_1, hfz230_2⟩ := bf3 BK150))
                            go_ret
                            exact ⟨by first | rfl | (simp [errW_none, errW_some] <;> rfl) | (simp [*, errW_none, errW_some] <;> rfl), kb HB⟩
                        · rw [if_neg c112] at H
                          exact absurd H (by simp)
                      · rw [if_neg c111] at H
                        exact absurd H (by simp)
                    · rw [if_neg c107] at H
                      have c107b0 : decide (x15_3 ≤ 18) = false := decide_eq_false c107
                      clear c107
                      obtain rfl := Option.some.inj H
                      go_wp2
                      go_ret
                      exact ⟨by first | rfl | (simp [errW_none, errW_some] <;> rfl) | (simp [*, errW_none, errW_some] <;> rfl), kb HB⟩
def laws_FnMillBits.Pure : Prop := ∀ (l0 : List Int), l0.length ≤ maxLen → l0.length * 1 ≤ 140737488351232 → (∀ x ∈ l0, (Lit.int .u8 x).wf = true) → ∃ k, laws_FnMillBits.f k l0 = some true
theorem laws_FnMillBits.walk (P : laws_FnMillBits.Pure) (a0 : Option Addr) (len0 cap0 : Nat) (z0 : List Int) (w : World) (w0 : (a0 = none ∧ len0 = 0 ∧ cap0 = 0 ∧ z0 = []) ∨ ∃ x, a0 = some x ∧ len0 ≤ cap0 ∧ cap0 ≤ maxLen ∧ z0.length = cap0 ∧ (∀ i, i < z0.length → w.cell? (x.add i) = some (.int .u8 (z0.getD i 0))) ∧ ∀ n ∈ z0, (Lit.int .u8 n).wf = true) (y0 : len0 * 1 ≤ 140737488351232) :
    Calls Try.prog 13 #[.slice a0 len0 cap0] w fun e w' => e = .returned (.bool true) ∧ Below w.heap.size w w' := by
  obtain ⟨l0, rfl, hr0, hm0, hw0, hc0⟩ := ReadsInt.ofRowC w0
  obtain ⟨k, h⟩ := P l0 hm0 y0 hw0
  refine (laws_FnMillBits.calls k _ _ l0 true w (Kd.C_of_reads (d := (0 : Int)) (h1 := fun _ => rfl) hr0) hc0 h).mono ?_
  rintro e w' ⟨rfl, hd⟩
  exact ⟨rfl, hd⟩
end Go.Proofs.Ytdpdpigaegabbaa.Q
end
