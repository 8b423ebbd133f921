/- Several texts of this seat put together by merge.py, without what this claim does not use. -/
import Derived.Test.YtdpdpigaegabbaaQmFnMillBits1
section
namespace Go.Proofs.Ytdpdpigaegabbaa.Q
open Go.RowKit Go.Proofs.YtdpdpigaegabbaaW.PrintWords Go.Proofs.YtdpdpigaegabbaaW.PrintLast Go.Proofs.YtdpdpigaegabbaaW.PrintMore Go.Proofs.Ytdpdpigaegabbaa.Short
attribute [local go_sem] max2_int min2_int max_two min_two max_three min_three max_four min_four   
set_option linter.unusedVariables false
set_option linter.unusedSimpArgs false
set_option maxHeartbeats 40000000 in
set_option maxRecDepth 100000 in
theorem impl_MillBinary.callsD (k : Nat) (a0 : Int) (a1_0 : Int) (a1_1 : Int) (a1_2 : ByteArray) (a2_0 : Int) (a2_1 : Int) (a2_2 : ByteArray) (r1 : Int) (r2 : Int) (r3 : ByteArray) (r4 : ByteArray) (w : World) (hG : a0 = 17 ∨ a0 = 18) (h : impl_MillBinary.f k a0 a1_0 a1_1 a1_2 a2_0 a2_1 a2_2 = some (r1, r2, r3, r4)) :
    Calls Try.prog 49 #[.int .i64 a0, .agg #[.int .i64 a1_0, .int .i64 a1_1, .string a1_2], .agg #[.int .i64 a2_0, .int .i64 a2_1, .string a2_2]] w fun e w' => e = .returned (.tuple #[.agg #[.int .i64 r1, .int .i64 r2, .string r3], .string r4]) ∧ Below w.heap.size w w' := by
  have hu36 := Try.underlying36
  have HG := Aside0.mk hG
  clear hG
  have HB := Aside0.mk (Below.refl w.heap.size w)
  have H : ((impl_MillValidValue.f a1_0 a1_1 a1_2).bind fun t105 => (if t105 = true then ((impl_MillValidValue.f a2_0 a2_1 a2_2).bind fun t106 => (if t106 = true then (if a0 < 1 then (impl_MillBinary.j0 k a0 true a1_0 a1_1 a1_2 a2_0 a2_1 a2_2 0 0 (⟨#[]⟩ : ByteArray)) else (impl_MillBinary.j0 k a0 (decide (a0 > 18)) a1_0 a1_1 a1_2 a2_0 a2_1 a2_2 0 0 (⟨#[]⟩ : ByteArray))) else (impl_MillBinary.j0 k a0 true a1_0 a1_1 a1_2 a2_0 a2_1 a2_2 0 0 (⟨#[]⟩ : ByteArray)))) else (impl_MillBinary.j0 k a0 true a1_0 a1_1 a1_2 a2_0 a2_1 a2_2 0 0 (⟨#[]⟩ : ByteArray)))) = some (r1, r2, r3, r4) := h
  clear h
  have HC4 := Aside0.mk H
  clear H
  go_enter Try.func49, Try.ntmps49
  go_upto_region 2 with (first | ((with_reducible refine gate_dst (N := 4) rfl ?_); refine gX 4 #[.int .i64 a1_0, .int .i64 a1_1, .string a1_2] 36 ?_; intro gb101 hg w5 hbox hb; have BK101 := Aside0.mk (hbox); have GW101 := gw hg (kb HB); have GE101 := gw hg (kb HB); replace HB := kS HB hb; clear hb hbox hg) | ((with_reducible refine gate_dst (N := 5) rfl ?_); refine gX 5 #[.int .i64 a2_0, .int .i64 a2_1, .string a2_2] 36 ?_; intro gb102 hg w6 hbox hb; have BK102 := Aside0.mk (hbox); have GW102 := gw hg (kb HB); have GE102 := gw hg (kb HB); have NB101_102 := nl hg (kp BK101); have NB102_101 := ng hg (kp BK101); replace BK101 := kB BK101 hb; replace HB := kS HB hb; clear hb hbox hg) | ((with_reducible refine gate_dst (N := 6) rfl ?_); refine gX 6 #[.int .i64 0, .int .i64 0, .string (⟨#[]⟩ : ByteArray)] 36 ?_; intro gb103 hg w7 hbox hb; have BK103 := Aside0.mk (hbox); have GW103 := gw hg (kb HB); have GE103 := gw hg (kb HB); have NB101_103 := nl hg (kp BK101); have NB103_101 := ng hg (kp BK101); have NB102_103 := nl hg (kp BK102); have NB103_102 := ng hg (kp BK102); replace BK101 := kB BK101 hb; replace BK102 := kB BK102 hb; replace HB := kS HB hb; clear hb hbox hg) | ((with_reducible refine gate_dst (N := 8) rfl ?_); refine gX 8 #[.int .i64 0, .int .i64 0, .string (⟨#[]⟩ : ByteArray)] 36 ?_; intro gb104 hg w8 hbox hb; have BK104 := Aside0.mk (hbox); have GW104 := gw hg (kb HB); have GE104 := gw hg (kb HB); have NB101_104 := nl hg (kp BK101); have NB104_101 := ng hg (kp BK101); have NB102_104 := nl hg (kp BK102); have NB104_102 := ng hg (kp BK102); have NB103_104 := nl hg (kp BK103); have NB104_103 := ng hg (kp BK103); replace BK101 := kB BK101 hb; replace BK102 := kB BK102 hb; replace BK103 := kB BK103 hb; replace HB := kS HB hb; clear hb hbox hg; have hnb9 := NB104_101.out; have hnc9 := NB101_104.out; have hnb10 := NB104_102.out; have hnc10 := NB102_104.out; have hnb11 := NB104_103.out; have hnc11 := NB103_104.out; obtain ⟨⟨hcz12_0, hcz12_1, hcz12_2⟩, hfz12_0, hfz12_1, hfz12_2⟩ := bf3 BK104))
  repeat (go_quiet (first | ((with_reducible refine gate_dst (N := 4) rfl ?_); refine gX 4 #[.int .i64 a1_0, .int .i64 a1_1, .string a1_2] 36 ?_; intro gb101 hg w5 hbox hb; have BK101 := Aside0.mk (hbox); have GW101 := gw hg (kb HB); have GE101 := gw hg (kb HB); replace HB := kS HB hb; clear hb hbox hg) | ((with_reducible refine gate_dst (N := 5) rfl ?_); refine gX 5 #[.int .i64 a2_0, .int .i64 a2_1, .string a2_2] 36 ?_; intro gb102 hg w6 hbox hb; have BK102 := Aside0.mk (hbox); have GW102 := gw hg (kb HB); have GE102 := gw hg (kb HB); have NB101_102 := nl hg (kp BK101); have NB102_101 := ng hg (kp BK101); replace BK101 := kB BK101 hb; replace HB := kS HB hb; clear hb hbox hg) | ((with_reducible refine gate_dst (N := 6) rfl ?_); refine gX 6 #[.int .i64 0, .int .i64 0, .string (⟨#[]⟩ : ByteArray)] 36 ?_; intro gb103 hg w7 hbox hb; have BK103 := Aside0.mk (hbox); have GW103 := gw hg (kb HB); have GE103 := gw hg (kb HB); have NB101_103 := nl hg (kp BK101); have NB103_101 := ng hg (kp BK101); have NB102_103 := nl hg (kp BK102); have NB103_102 := ng hg (kp BK102); replace BK101 := kB BK101 hb; replace BK102 := kB BK102 hb; replace HB := kS HB hb; clear hb hbox hg) | ((with_reducible refine gate_dst (N := 8) rfl ?_); refine gX 8 #[.int .i64 0, .int .i64 0, .string (⟨#[]⟩ : ByteArray)] 36 ?_; intro gb104 hg w8 hbox hb; have BK104 := Aside0.mk (hbox); have GW104 := gw hg (kb HB); have GE104 := gw hg (kb HB); have NB101_104 := nl hg (kp BK101); have NB104_101 := ng hg (kp BK101); have NB102_104 := nl hg (kp BK102); have NB104_102 := ng hg (kp BK102); have NB103_104 := nl hg (kp BK103); have NB104_103 := ng hg (kp BK103); replace BK101 := kB BK101 hb; replace BK102 := kB BK102 hb; replace BK103 := kB BK103 hb; replace HB := kS HB hb; clear hb hbox hg; have hnb9 := NB104_101.out; have hnc9 := NB101_104.out; have hnb10 := NB104_102.out; have hnc10 := NB102_104.out; have hnb11 := NB104_103.out; have hnc11 := NB103_104.out; obtain ⟨⟨hcz12_0, hcz12_1, hcz12_2⟩, hfz12_0, hfz12_1, hfz12_2⟩ := bf3 BK104)); go_upto_region 2 with (first | ((with_reducible refine gate_dst (N := 4) rfl ?_); refine gX 4 #[.int .i64 a1_0, .int .i64 a1_1, .string a1_2] 36 ?_; intro gb101 hg w5 hbox hb; have BK101 := Aside0.mk (hbox); have GW101 := gw hg (kb HB); have GE101 := gw hg (kb HB); replace HB := kS HB hb; clear hb hbox hg) | ((with_reducible refine gate_dst (N := 5) rfl ?_); refine gX 5 #[.int .i64 a2_0, .int .i64 a2_1, .string a2_2] 36 ?_; intro gb102 hg w6 hbox hb; have BK102 := Aside0.mk (hbox); have GW102 := gw hg (kb HB); have GE102 := gw hg (kb HB); have NB101_102 := nl hg (kp BK101); have NB102_101 := ng hg (kp BK101); replace BK101 := kB BK101 hb; replace HB := kS HB hb; clear hb hbox hg) | ((with_reducible refine gate_dst (N := 6) rfl ?_); refine gX 6 #[.int .i64 0, .int .i64 0, .string (⟨#[]⟩ : ByteArray)] 36 ?_; intro gb103 hg w7 hbox hb; have BK103 := Aside0.mk (hbox); have GW103 := gw hg (kb HB); have GE103 := gw hg (kb HB); have NB101_103 := nl hg (kp BK101); have NB103_101 := ng hg (kp BK101); have NB102_103 := nl hg (kp BK102); have NB103_102 := ng hg (kp BK102); replace BK101 := kB BK101 hb; replace BK102 := kB BK102 hb; replace HB := kS HB hb; clear hb hbox hg) | ((with_reducible refine gate_dst (N := 8) rfl ?_); refine gX 8 #[.int .i64 0, .int .i64 0, .string (⟨#[]⟩ : ByteArray)] 36 ?_; intro gb104 hg w8 hbox hb; have BK104 := Aside0.mk (hbox); have GW104 := gw hg (kb HB); have GE104 := gw hg (kb HB); have NB101_104 := nl hg (kp BK101); have NB104_101 := ng hg (kp BK101); have NB102_104 := nl hg (kp BK102); have NB104_102 := ng hg (kp BK102); have NB103_104 := nl hg (kp BK103); have NB104_103 := ng hg (kp BK103); replace BK101 := kB BK101 hb; replace BK102 := kB BK102 hb; replace BK103 := kB BK103 hb; replace HB := kS HB hb; clear hb hbox hg; have hnb9 := NB104_101.out; have hnc9 := NB101_104.out; have hnb10 := NB104_102.out; have hnc10 := NB102_104.out; have hnb11 := NB104_103.out; have hnc11 := NB103_104.out; obtain ⟨⟨hcz12_0, hcz12_1, hcz12_2⟩, hfz12_0, hfz12_1, hfz12_2⟩ := bf3 BK104)))
  (try simp only [Act.put, List.setIfInBounds_toArray, List.set_cons_zero, List.set_cons_succ])
  go_cut [31] (fun v31 wc => ∃ (kq : Nat) (x31_3 : Bool), v31 = .bool x31_3 ∧ Aside0 (impl_MillBinary.j0 kq a0 x31_3 a1_0 a1_1 a1_2 a2_0 a2_1 a2_2 0 0 (⟨#[]⟩ : ByteArray) = some (r1, r2, r3, r4)) ∧ Aside0 (kq ≤ k) ∧ Aside0 (wc.heap[gb101]? = some (.cells #[.int .i64 a1_0, .int .i64 a1_1, .string a1_2] 36 (0, 0))) ∧ Aside0 (wc.heap[gb102]? = some (.cells #[.int .i64 a2_0, .int .i64 a2_1, .string a2_2] 36 (0, 0))) ∧ Aside0 (wc.heap[gb103]? = some (.cells #[.int .i64 0, .int .i64 0, .string (⟨#[]⟩ : ByteArray)] 36 (0, 0))) ∧ Aside0 (wc.heap[gb104]? = some (.cells #[.int .i64 0, .int .i64 0, .string (⟨#[]⟩ : ByteArray)] 36 (0, 0))) ∧ Aside0 (Below w.heap.size w wc))
  case first =>
    have H := HC4.out
    clear HC4
    replace H := Option.bind_eq_some_iff.mp H
    obtain ⟨t105, A130, H⟩ := H
    replace H : (if t105 = true then ((impl_MillValidValue.f a2_0 a2_1 a2_2).bind fun t106 => (if t106 = true then (if a0 < 1 then (impl_MillBinary.j0 k a0 true a1_0 a1_1 a1_2 a2_0 a2_1 a2_2 0 0 (⟨#[]⟩ : ByteArray)) else (impl_MillBinary.j0 k a0 (decide (a0 > 18)) a1_0 a1_1 a1_2 a2_0 a2_1 a2_2 0 0 (⟨#[]⟩ : ByteArray))) else (impl_MillBinary.j0 k a0 true a1_0 a1_1 a1_2 a2_0 a2_1 a2_2 0 0 (⟨#[]⟩ : ByteArray)))) else (impl_MillBinary.j0 k a0 true a1_0 a1_1 a1_2 a2_0 a2_1 a2_2 0 0 (⟨#[]⟩ : ByteArray))) = some (r1, r2, r3, r4) := H
    have A13 := Aside0.mk A130
    clear A130
    by_cases c14 : t105 = true
    · subst c14
      have H1 : ((impl_MillValidValue.f a2_0 a2_1 a2_2).bind fun t106 => (if t106 = true then (if a0 < 1 then (impl_MillBinary.j0 k a0 true a1_0 a1_1 a1_2 a2_0 a2_1 a2_2 0 0 (⟨#[]⟩ : ByteArray)) else (impl_MillBinary.j0 k a0 (decide (a0 > 18)) a1_0 a1_1 a1_2 a2_0 a2_1 a2_2 0 0 (⟨#[]⟩ : ByteArray))) else (impl_MillBinary.j0 k a0 true a1_0 a1_1 a1_2 a2_0 a2_1 a2_2 0 0 (⟨#[]⟩ : ByteArray)))) = some (r1, r2, r3, r4) := by rw [if_pos rfl] at H; exact H
      clear H
      have H := H1
      clear H1
      replace H := Option.bind_eq_some_iff.mp H
      obtain ⟨t106, A150, H⟩ := H
      replace H : (if t106 = true then (if a0 < 1 then (impl_MillBinary.j0 k a0 true a1_0 a1_1 a1_2 a2_0 a2_1 a2_2 0 0 (⟨#[]⟩ : ByteArray)) else (impl_MillBinary.j0 k a0 (decide (a0 > 18)) a1_0 a1_1 a1_2 a2_0 a2_1 a2_2 0 0 (⟨#[]⟩ : ByteArray))) else (impl_MillBinary.j0 k a0 true a1_0 a1_1 a1_2 a2_0 a2_1 a2_2 0 0 (⟨#[]⟩ : ByteArray))) = some (r1, r2, r3, r4) := H
      have A15 := Aside0.mk A150
      clear A150
      by_cases c16 : t106 = true
      · subst c16
        have H1 : (if a0 < 1 then (impl_MillBinary.j0 k a0 true a1_0 a1_1 a1_2 a2_0 a2_1 a2_2 0 0 (⟨#[]⟩ : ByteArray)) else (impl_MillBinary.j0 k a0 (decide (a0 > 18)) a1_0 a1_1 a1_2 a2_0 a2_1 a2_2 0 0 (⟨#[]⟩ : ByteArray))) = some (r1, r2, r3, r4) := by rw [if_pos rfl] at H; exact H
        clear H
        have H := H1
        clear H1
        by_cases c17 : a0 < 1
        · rw [if_pos c17] at H
          have c17b0 : decide (a0 < 1) = true := decide_eq_true c17
          clear c17
          (first | rw [c17b0] | (simp only [i64_w, i32_w]; rw [c17b0]) | skip)
          have H' := Aside0.mk H
          clear H
          have hnb18 := NB101_102.out
          have hnc18 := NB102_101.out
          have hnb19 := NB101_103.out
          have hnc19 := NB103_101.out
          have hnb20 := NB101_104.out
          have hnc20 := NB104_101.out
          obtain ⟨⟨hcz21_0, hcz21_1, hcz21_2⟩, hfz21_0, hfz21_1, hfz21_2⟩ := bf3 BK101
          as_aux_lemma =>
            go_wp2_with (first | (go_at_call 24; (with_reducible refine (impl_MillValidValue.calls a1_0 a1_1 a1_2 true _ A13.out).mono ?_); rintro e w22 ⟨rfl, hb⟩; replace BK101 := Aside0.mk (blk_below (g := gb101) (o := .cells #[.int .i64 a1_0, .int .i64 a1_1, .string a1_2] 36 (0, 0)) (by (with_reducible repeat (first | refine blk_drewN ?_ _ | refine blk_drew ?_ | refine blk_alloc ?_ _)); refine blk_far ?_ NB101_104.out _; (with_reducible repeat (first | refine blk_drewN ?_ _ | refine blk_drew ?_ | refine blk_alloc ?_ _)); refine blk_far ?_ NB101_104.out _; (with_reducible repeat (first | refine blk_drewN ?_ _ | refine blk_drew ?_ | refine blk_alloc ?_ _)); refine blk_far ?_ NB101_104.out _; (with_reducible repeat (first | refine blk_drewN ?_ _ | refine blk_drew ?_ | refine blk_alloc ?_ _)); exact BK101.out) hb); replace BK102 := Aside0.mk (blk_below (g := gb102) (o := .cells #[.int .i64 a2_0, .int .i64 a2_1, .string a2_2] 36 (0, 0)) (by (with_reducible repeat (first | refine blk_drewN ?_ _ | refine blk_drew ?_ | refine blk_alloc ?_ _)); refine blk_far ?_ NB102_104.out _; (with_reducible repeat (first | refine blk_drewN ?_ _ | refine blk_drew ?_ | refine blk_alloc ?_ _)); refine blk_far ?_ NB102_104.out _; (with_reducible repeat (first | refine blk_drewN ?_ _ | refine blk_drew ?_ | refine blk_alloc ?_ _)); refine blk_far ?_ NB102_104.out _; (with_reducible repeat (first | refine blk_drewN ?_ _ | refine blk_drew ?_ | refine blk_alloc ?_ _)); exact BK102.out) hb); replace BK103 := Aside0.mk (blk_below (g := gb103) (o := .cells #[.int .i64 0, .int .i64 0, .string (⟨#[]⟩ : ByteArray)] 36 (0, 0)) (by (with_reducible repeat (first | refine blk_drewN ?_ _ | refine blk_drew ?_ | refine blk_alloc ?_ _)); refine blk_far ?_ NB103_104.out _; (with_reducible repeat (first | refine blk_drewN ?_ _ | refine blk_drew ?_ | refine blk_alloc ?_ _)); refine blk_far ?_ NB103_104.out _; (with_reducible repeat (first | refine blk_drewN ?_ _ | refine blk_drew ?_ | refine blk_alloc ?_ _)); refine blk_far ?_ NB103_104.out _; (with_reducible repeat (first | refine blk_drewN ?_ _ | refine blk_drew ?_ | refine blk_alloc ?_ _)); exact BK103.out) hb); replace BK104 := Aside0.mk (blk_below (g := gb104) (o := .cells #[.int .i64 0, .int .i64 0, .string (⟨#[]⟩ : ByteArray)] 36 (0, 0)) (by (with_reducible repeat (first | refine blk_drewN ?_ _ | refine blk_drew ?_ | refine blk_alloc ?_ _)); refine blk_put (cs := #[.int .i64 0, .int .i64 0, .string (⟨#[]⟩ : ByteArray)]) ?_ 2 _ rfl; (with_reducible repeat (first | refine blk_drewN ?_ _ | refine blk_drew ?_ | refine blk_alloc ?_ _)); refine blk_put (cs := #[.int .i64 0, .int .i64 0, .string (⟨#[]⟩ : ByteArray)]) ?_ 1 _ rfl; (with_reducible repeat (first | refine blk_drewN ?_ _ | refine blk_drew ?_ | refine blk_alloc ?_ _)); refine blk_put (cs := #[.int .i64 0, .int .i64 0, .string (⟨#[]⟩ : ByteArray)]) ?_ 0 _ rfl; (with_reducible repeat (first | refine blk_drewN ?_ _ | refine blk_drew ?_ | refine blk_alloc ?_ _)); exact BK104.out) hb); replace HB := kS HB hb; have hnb23 := NB102_103.out; have hnc23 := NB103_102.out; have hnb24 := NB102_104.out; have hnc24 := NB104_102.out; obtain ⟨⟨hcz25_0, hcz25_1, hcz25_2⟩, hfz25_0, hfz25_1, hfz25_2⟩ := bf3 BK102) | (go_at_call 24; (with_reducible refine (impl_MillValidValue.calls a2_0 a2_1 a2_2 true _ A15.out).mono ?_); rintro e w26 ⟨rfl, hb⟩; replace BK101 := kB BK101 hb; replace BK102 := kB BK102 hb; replace BK103 := kB BK103 hb; replace BK104 := kB BK104 hb; replace HB := kS HB hb))
            repeat (go_quiet (first | (go_at_call 24; (with_reducible refine (impl_MillValidValue.calls a1_0 a1_1 a1_2 true _ A13.out).mono ?_); rintro e w22 ⟨rfl, hb⟩; replace BK101 := Aside0.mk (blk_below (g := gb101) (o := .cells #[.int .i64 a1_0, .int .i64 a1_1, .string a1_2] 36 (0, 0)) (by (with_reducible repeat (first | refine blk_drewN ?_ _ | refine blk_drew ?_ | refine blk_alloc ?_ _)); refine blk_far ?_ NB101_104.out _; (with_reducible repeat (first | refine blk_drewN ?_ _ | refine blk_drew ?_ | refine blk_alloc ?_ _)); refine blk_far ?_ NB101_104.out _; (with_reducible repeat (first | refine blk_drewN ?_ _ | refine blk_drew ?_ | refine blk_alloc ?_ _)); refine blk_far ?_ NB101_104.out _; (with_reducible repeat (first | refine blk_drewN ?_ _ | refine blk_drew ?_ | refine blk_alloc ?_ _)); exact BK101.out) hb); replace BK102 := Aside0.mk (blk_below (g := gb102) (o := .cells #[.int .i64 a2_0, .int .i64 a2_1, .string a2_2] 36 (0, 0)) (by (with_reducible repeat (first | refine blk_drewN ?_ _ | refine blk_drew ?_ | refine blk_alloc ?_ _)); refine blk_far ?_ NB102_104.out _; (with_reducible repeat (first | refine blk_drewN ?_ _ | refine blk_drew ?_ | refine blk_alloc ?_ _)); refine blk_far ?_ NB102_104.out _; (with_reducible repeat (first | refine blk_drewN ?_ _ | refine blk_drew ?_ | refine blk_alloc ?_ _)); refine blk_far ?_ NB102_104.out _; (with_reducible repeat (first | refine blk_drewN ?_ _ | refine blk_drew ?_ | refine blk_alloc ?_ _)); exact BK102.out) hb); replace BK103 := Aside0.mk (blk_below (g := gb103) (o := .cells #[.int .i64 0, .int .i64 0, .string (⟨#[]⟩ : ByteArray)] 36 (0, 0)) (by (with_reducible repeat (first | refine blk_drewN ?_ _ | refine blk_drew ?_ | refine blk_alloc ?_ _)); refine blk_far ?_ NB103_104.out _; (with_reducible repeat (first | refine blk_drewN ?_ _ | refine blk_drew ?_ | refine blk_alloc ?_ _)); refine blk_far ?_ NB103_104.out _; (with_reducible repeat (first | refine blk_drewN ?_ _ | refine blk_drew ?_ | refine blk_alloc ?_ _)); refine blk_far ?_ NB103_104.out _; (with_reducible repeat (first | refine blk_drewN ?_ _ | refine blk_drew ?_ | refine blk_alloc ?_ _)); exact BK103.out) hb); replace BK104 := Aside0.mk (blk_below (g := gb104) (o := .cells #[.int .i64 0, .int .i64 0, .string (⟨#[]⟩ : ByteArray)] 36 (0, 0)) (by (with_reducible repeat (first | refine blk_drewN ?_ _ | refine blk_drew ?_ | refine blk_alloc ?_ _)); refine blk_put (cs := #[.int .i64 0, .int .i64 0, .string (⟨#[]⟩ : ByteArray)]) ?_ 2 _ rfl; (with_reducible repeat (first | refine blk_drewN ?_ _ | refine blk_drew ?_ | refine blk_alloc ?_ _)); refine blk_put (cs := #[.int .i64 0, .int .i64 0, .string (⟨#[]⟩ : ByteArray)]) ?_ 1 _ rfl; (with_reducible repeat (first | refine blk_drewN ?_ _ | refine blk_drew ?_ | refine blk_alloc ?_ _)); refine blk_put (cs := #[.int .i64 0, .int .i64 0, .string (⟨#[]⟩ : ByteArray)]) ?_ 0 _ rfl; (with_reducible repeat (first | refine blk_drewN ?_ _ | refine blk_drew ?_ | refine blk_alloc ?_ _)); exact BK104.out) hb); replace HB := kS HB hb; have hnb23 := NB102_103.out; have hnc23 := NB103_102.out; have hnb24 := NB102_104.out; have hnc24 := NB104_102.out; obtain ⟨⟨hcz25_0, hcz25_1, hcz25_2⟩, hfz25_0, hfz25_1, hfz25_2⟩ := bf3 BK102) | (go_at_call 24; (with_reducible refine (impl_MillValidValue.calls a2_0 a2_1 a2_2 true _ A15.out).mono ?_); rintro e w26 ⟨rfl, hb⟩; replace BK101 := kB BK101 hb; replace BK102 := kB BK102 hb; replace BK103 := kB BK103 hb; replace BK104 := kB BK104 hb; replace HB := kS HB hb)); try go_wp2_with (first | (go_at_call 24; (with_reducible refine (impl_MillValidValue.calls a1_0 a1_1 a1_2 true _ A13.out).mono ?_); rintro e w22 ⟨rfl, hb⟩; replace BK101 := Aside0.mk (blk_below (g := gb101) (o := .cells #[.int .i64 a1_0, .int .i64 a1_1, .string a1_2] 36 (0, 0)) (by (with_reducible repeat (first | refine blk_drewN ?_ _ | refine blk_drew ?_ | refine blk_alloc ?_ _)); refine blk_far ?_ NB101_104.out _; (with_reducible repeat (first | refine blk_drewN ?_ _ | refine blk_drew ?_ | refine blk_alloc ?_ _)); refine blk_far ?_ NB101_104.out _; (with_reducible repeat (first | refine blk_drewN ?_ _ | refine blk_drew ?_ | refine blk_alloc ?_ _)); refine blk_far ?_ NB101_104.out _; (with_reducible repeat (first | refine blk_drewN ?_ _ | refine blk_drew ?_ | refine blk_alloc ?_ _)); exact BK101.out) hb); replace BK102 := Aside0.mk (blk_below (g := gb102) (o := .cells #[.int .i64 a2_0, .int .i64 a2_1, .string a2_2] 36 (0, 0)) (by (with_reducible repeat (first | refine blk_drewN ?_ _ | refine blk_drew ?_ | refine blk_alloc ?_ _)); refine blk_far ?_ NB102_104.out _; (with_reducible repeat (first | refine blk_drewN ?_ _ | refine blk_drew ?_ | refine blk_alloc ?_ _)); refine blk_far ?_ NB102_104.out _; (with_reducible repeat (first | refine blk_drewN ?_ _ | refine blk_drew ?_ | refine blk_alloc ?_ _)); refine blk_far ?_ NB102_104.out _; (with_reducible repeat (first | refine blk_drewN ?_ _ | refine blk_drew ?_ | refine blk_alloc ?_ _)); exact BK102.out) hb); replace BK103 := Aside0.mk (blk_below (g := gb103) (o := .cells #[.int .i64 0, .int .i64 0, .string (⟨#[]⟩ : ByteArray)] 36 (0, 0)) (by (with_reducible repeat (first | refine blk_drewN ?_ _ | refine blk_drew ?_ | refine blk_alloc ?_ _)); refine blk_far ?_ NB103_104.out _; (with_reducible repeat (first | refine blk_drewN ?_ _ | refine blk_drew ?_ | refine blk_alloc ?_ _)); refine blk_far ?_ NB103_104.out _; (with_reducible repeat (first | refine blk_drewN ?_ _ | refine blk_drew ?_ | refine blk_alloc ?_ _)); refine blk_far ?_ NB103_104.out _; (with_reducible repeat (first | refine blk_drewN ?_ _ | refine blk_drew ?_ | refine blk_alloc ?_ _)); exact BK103.out) hb); replace BK104 := Aside0.mk (blk_below (g := gb104) (o := .cells #[.int .i64 0, .int .i64 0, .string (⟨#[]⟩ : ByteArray)] 36 (0, 0)) (by (with_reducible repeat (first | refine blk_drewN ?_ _ | refine blk_drew ?_ | refine blk_alloc ?_ _)); refine blk_put (cs := #[.int .i64 0, .int .i64 0, .string (⟨#[]⟩ : ByteArray)]) ?_ 2 _ rfl; (with_reducible repeat (first | refine blk_drewN ?_ _ | refine blk_drew ?_ | refine blk_alloc ?_ _)); refine blk_put (cs := #[.int .i64 0, .int .i64 0, .string (⟨#[]⟩ : ByteArray)]) ?_ 1 _ rfl; (with_reducible repeat (first | refine blk_drewN ?_ _ | refine blk_drew ?_ | refine blk_alloc ?_ _)); refine blk_put (cs := #[.int .i64 0, .int .i64 0, .string (⟨#[]⟩ : ByteArray)]) ?_ 0 _ rfl; (with_reducible repeat (first | refine blk_drewN ?_ _ | refine blk_drew ?_ | refine blk_alloc ?_ _)); exact BK104.out) hb); replace HB := kS HB hb; have hnb23 := NB102_103.out; have hnc23 := NB103_102.out; have hnb24 := NB102_104.out; have hnc24 := NB104_102.out; obtain ⟨⟨hcz25_0, hcz25_1, hcz25_2⟩, hfz25_0, hfz25_1, hfz25_2⟩ := bf3 BK102) | (go_at_call 24; (with_reducible refine (impl_MillValidValue.calls a2_0 a2_1 a2_2 true _ A15.out).mono ?_); rintro e w26 ⟨rfl, hb⟩; replace BK101 := kB BK101 hb; replace BK102 := kB BK102 hb; replace BK103 := kB BK103 hb; replace BK104 := kB BK104 hb; replace HB := kS HB hb)))
            go_meet
            case rel => exact ⟨_, (true), (by first | rfl | (simp; done) | (simp [*]; done)), H', ⟨by first | omega | exact Nat.le_refl _⟩, ⟨kp BK101⟩, ⟨kp BK102⟩, ⟨kp BK103⟩, ⟨kp BK104⟩, ⟨kb HB⟩⟩
        · rw [if_neg c17] at H
          have c17b0 : decide (a0 < 1) = false := decide_eq_false c17
          clear c17
          (first | rw [c17b0] | (simp only [i64_w, i32_w]; rw [c17b0]) | skip)
          have H' := Aside0.mk H
          clear H
          have hnb27 := NB101_102.out
          have hnc27 := NB102_101.out
          have hnb28 := NB101_103.out
          have hnc28 := NB103_101.out
          have hnb29 := NB101_104.out
          have hnc29 := NB104_101.out
          obtain ⟨⟨hcz30_0, hcz30_1, hcz30_2⟩, hfz30_0, hfz30_1, hfz30_2⟩ := bf3 BK101
          as_aux_lemma =>
            go_wp2_with (first | (go_at_call 24; (with_reducible refine (impl_MillValidValue.calls a1_0 a1_1 a1_2 true _ A13.out).mono ?_); rintro e w31 ⟨rfl, hb⟩; replace BK101 := Aside0.mk (blk_below (g := gb101) (o := .cells #[.int .i64 a1_0, .int .i64 a1_1, .string a1_2] 36 (0, 0)) (by (with_reducible repeat (first | refine blk_drewN ?_ _ | refine blk_drew ?_ | refine blk_alloc ?_ _)); refine blk_far ?_ NB101_104.out _; (with_reducible repeat (first | refine blk_drewN ?_ _ | refine blk_drew ?_ | refine blk_alloc ?_ _)); refine blk_far ?_ NB101_104.out _; (with_reducible repeat (first | refine blk_drewN ?_ _ | refine blk_drew ?_ | refine blk_alloc ?_ _)); refine blk_far ?_ NB101_104.out _; (with_reducible repeat (first | refine blk_drewN ?_ _ | refine blk_drew ?_ | refine blk_alloc ?_ _)); exact BK101.out) hb); replace BK102 := Aside0.mk (blk_below (g := gb102) (o := .cells #[.int .i64 a2_0, .int .i64 a2_1, .string a2_2] 36 (0, 0)) (by (with_reducible repeat (first | refine blk_drewN ?_ _ | refine blk_drew ?_ | refine blk_alloc ?_ _)); refine blk_far ?_ NB102_104.out _; (with_reducible repeat (first | refine blk_drewN ?_ _ | refine blk_drew ?_ | refine blk_alloc ?_ _)); refine blk_far ?_ NB102_104.out _; (with_reducible repeat (first | refine blk_drewN ?_ _ | refine blk_drew ?_ | refine blk_alloc ?_ _)); refine blk_far ?_ NB102_104.out _; (with_reducible repeat (first | refine blk_drewN ?_ _ | refine blk_drew ?_ | refine blk_alloc ?_ _)); exact BK102.out) hb); replace BK103 := Aside0.mk (blk_below (g := gb103) (o := .cells #[.int .i64 0, .int .i64 0, .string (⟨#[]⟩ : ByteArray)] 36 (0, 0)) (by (with_reducible repeat (first | refine blk_drewN ?_ _ | refine blk_drew ?_ | refine blk_alloc ?_ _)); refine blk_far ?_ NB103_104.out _; (with_reducible repeat (first | refine blk_drewN ?_ _ | refine blk_drew ?_ | refine blk_alloc ?_ _)); refine blk_far ?_ NB103_104.out _; (with_reducible repeat (first | refine blk_drewN ?_ _ | refine blk_drew ?_ | refine blk_alloc ?_ _)); refine blk_far ?_ NB103_104.out _; (with_reducible repeat (first | refine blk_drewN ?_ _ | refine blk_drew ?_ | refine blk_alloc ?_ _)); exact BK103.out) hb); replace BK104 := Aside0.mk (blk_below (g := gb104) (o := .cells #[.int .i64 0, .int .i64 0, .string (⟨#[]⟩ : ByteArray)] 36 (0, 0)) (by (with_reducible repeat (first | refine blk_drewN ?_ _ | refine blk_drew ?_ | refine blk_alloc ?_ _)); refine blk_put (cs := #[.int .i64 0, .int .i64 0, .string (⟨#[]⟩ : ByteArray)]) ?_ 2 _ rfl; (with_reducible repeat (first | refine blk_drewN ?_ _ | refine blk_drew ?_ | refine blk_alloc ?_ _)); refine blk_put (cs := #[.int .i64 0, .int .i64 0, .string (⟨#[]⟩ : ByteArray)]) ?_ 1 _ rfl; (with_reducible repeat (first | refine blk_drewN ?_ _ | refine blk_drew ?_ | refine blk_alloc ?_ _)); refine blk_put (cs := #[.int .i64 0, .int .i64 0, .string (⟨#[]⟩ : ByteArray)]) ?_ 0 _ rfl; (with_reducible repeat (first | refine blk_drewN ?_ _ | refine blk_drew ?_ | refine blk_alloc ?_ _)); exact BK104.out) hb); replace HB := kS HB hb; have hnb32 := NB102_103.out; have hnc32 := NB103_102.out; have hnb33 := NB102_104.out; have hnc33 := NB104_102.out; obtain ⟨⟨hcz34_0, hcz34_1, hcz34_2⟩, hfz34_0, hfz34_1, hfz34_2⟩ := bf3 BK102) | (go_at_call 24; (with_reducible refine (impl_MillValidValue.calls a2_0 a2_1 a2_2 true _ A15.out).mono ?_); rintro e w35 ⟨rfl, hb⟩; replace BK101 := kB BK101 hb; replace BK102 := kB BK102 hb; replace BK103 := kB BK103 hb; replace BK104 := kB BK104 hb; replace HB := kS HB hb))
            repeat (go_quiet (first | (go_at_call 24; (with_reducible refine (impl_MillValidValue.calls a1_0 a1_1 a1_2 true _ A13.out).mono ?_); rintro e w31 ⟨rfl, hb⟩; replace BK101 := Aside0.mk (blk_below (g := gb101) (o := .cells #[.int .i64 a1_0, .int .i64 a1_1, .string a1_2] 36 (0, 0)) (by (with_reducible repeat (first | refine blk_drewN ?_ _ | refine blk_drew ?_ | refine blk_alloc ?_ _)); refine blk_far ?_ NB101_104.out _; (with_reducible repeat (first | refine blk_drewN ?_ _ | refine blk_drew ?_ | refine blk_alloc ?_ _)); refine blk_far ?_ NB101_104.out _; (with_reducible repeat (first | refine blk_drewN ?_ _ | refine blk_drew ?_ | refine blk_alloc ?_ _)); refine blk_far ?_ NB101_104.out _; (with_reducible repeat (first | refine blk_drewN ?_ _ | refine blk_drew ?_ | refine blk_alloc ?_ _)); exact BK101.out) hb); replace BK102 := Aside0.mk (blk_below (g := gb102) (o := .cells #[.int .i64 a2_0, .int .i64 a2_1, .string a2_2] 36 (0, 0)) (by (with_reducible repeat (first | refine blk_drewN ?_ _ | refine blk_drew ?_ | refine blk_alloc ?_ _)); refine blk_far ?_ NB102_104.out _; (with_reducible repeat (first | refine blk_drewN ?_ _ | refine blk_drew ?_ | refine blk_alloc ?_ _)); refine blk_far ?_ NB102_104.out _; (with_reducible repeat (first | refine blk_drewN ?_ _ | refine blk_drew ?_ | refine blk_alloc ?_ _)); refine blk_far ?_ NB102_104.out _; (with_reducible repeat (first | refine blk_drewN ?_ _ | refine blk_drew ?_ | refine blk_alloc ?_ _)); exact BK102.out) hb); replace BK103 := Aside0.mk (blk_below (g := gb103) (o := .cells #[.int .i64 0, .int .i64 0, .string (⟨#[]⟩ : ByteArray)] 36 (0, 0)) (by (with_reducible repeat (first | refine blk_drewN ?_ _ | refine blk_drew ?_ | refine blk_alloc ?_ _)); refine blk_far ?_ NB103_104.out _; (with_reducible repeat (first | refine blk_drewN ?_ _ | refine blk_drew ?_ | refine blk_alloc ?_ _)); refine blk_far ?_ NB103_104.out _; (with_reducible repeat (first | refine blk_drewN ?_ _ | refine blk_drew ?_ | refine blk_alloc ?_ _)); refine blk_far ?_ NB103_104.out _; (with_reducible repeat (first | refine blk_drewN ?_ _ | refine blk_drew ?_ | refine blk_alloc ?_ _)); exact BK103.out) hb); replace BK104 := Aside0.mk (blk_below (g := gb104) (o := .cells #[.int .i64 0, .int .i64 0, .string (⟨#[]⟩ : ByteArray)] 36 (0, 0)) (by (with_reducible repeat (first | refine blk_drewN ?_ _ | refine blk_drew ?_ | refine blk_alloc ?_ _)); refine blk_put (cs := #[.int .i64 0, .int .i64 0, .string (⟨#[]⟩ : ByteArray)]) ?_ 2 _ rfl; (with_reducible repeat (first | refine blk_drewN ?_ _ | refine blk_drew ?_ | refine blk_alloc ?_ _)); refine blk_put (cs := #[.int .i64 0, .int .i64 0, .string (⟨#[]⟩ : ByteArray)]) ?_ 1 _ rfl; (with_reducible repeat (first | refine blk_drewN ?_ _ | refine blk_drew ?_ | refine blk_alloc ?_ _)); refine blk_put (cs := #[.int .i64 0, .int .i64 0, .string (⟨#[]⟩ : ByteArray)]) ?_ 0 _ rfl; (with_reducible repeat (first | refine blk_drewN ?_ _ | refine blk_drew ?_ | refine blk_alloc ?_ _)); exact BK104.out) hb); replace HB := kS HB hb; have hnb32 := NB102_103.out; have hnc32 := NB103_102.out; have hnb33 := NB102_104.out; have hnc33 := NB104_102.out; obtain ⟨⟨hcz34_0, hcz34_1, hcz34_2⟩, hfz34_0, hfz34_1, hfz34_2⟩ := bf3 BK102) | (go_at_call 24; (with_reducible refine (impl_MillValidValue.calls a2_0 a2_1 a2_2 true _ A15.out).mono ?_); rintro e w35 ⟨rfl, hb⟩; replace BK101 := kB BK101 hb; replace BK102 := kB BK102 hb; replace BK103 := kB BK103 hb; replace BK104 := kB BK104 hb; replace HB := kS HB hb)); try go_wp2_with (first | (go_at_call 24; (with_reducible refine (impl_MillValidValue.calls a1_0 a1_1 a1_2 true _ A13.out).mono ?_); rintro e w31 ⟨rfl, hb⟩; replace BK101 := Aside0.mk (blk_below (g := gb101) (o := .cells #[.int .i64 a1_0, .int .i64 a1_1, .string a1_2] 36 (0, 0)) (by (with_reducible repeat (first | refine blk_drewN ?_ _ | refine blk_drew ?_ | refine blk_alloc ?_ _)); refine blk_far ?_ NB101_104.out _; (with_reducible repeat (first | refine blk_drewN ?_ _ | refine blk_drew ?_ | refine blk_alloc ?_ _)); refine blk_far ?_ NB101_104.out _; (with_reducible repeat (first | refine blk_drewN ?_ _ | refine blk_drew ?_ | refine blk_alloc ?_ _)); refine blk_far ?_ NB101_104.out _; (with_reducible repeat (first | refine blk_drewN ?_ _ | refine blk_drew ?_ | refine blk_alloc ?_ _)); exact BK101.out) hb); replace BK102 := Aside0.mk (blk_below (g := gb102) (o := .cells #[.int .i64 a2_0, .int .i64 a2_1, .string a2_2] 36 (0, 0)) (by (with_reducible repeat (first | refine blk_drewN ?_ _ | refine blk_drew ?_ | refine blk_alloc ?_ _)); refine blk_far ?_ NB102_104.out _; (with_reducible repeat (first | refine blk_drewN ?_ _ | refine blk_drew ?_ | refine blk_alloc ?_ _)); refine blk_far ?_ NB102_104.out _; (with_reducible repeat (first | refine blk_drewN ?_ _ | refine blk_drew ?_ | refine blk_alloc ?_ _)); refine blk_far ?_ NB102_104.out _; (with_reducible repeat (first | refine blk_drewN ?_ _ | refine blk_drew ?_ | refine blk_alloc ?_ _)); exact BK102.out) hb); replace BK103 := Aside0.mk (blk_below (g := gb103) (o := .cells #[.int .i64 0, .int .i64 0, .string (⟨#[]⟩ : ByteArray)] 36 (0, 0)) (by (with_reducible repeat (first | refine blk_drewN ?_ _ | refine blk_drew ?_ | refine blk_alloc ?_ _)); refine blk_far ?_ NB103_104.out _; (with_reducible repeat (first | refine blk_drewN ?_ _ | refine blk_drew ?_ | refine blk_alloc ?_ _)); refine blk_far ?_ NB103_104.out _; (with_reducible repeat (first | refine blk_drewN ?_ _ | refine blk_drew ?_ | refine blk_alloc ?_ _)); refine blk_far ?_ NB103_104.out _; (with_reducible repeat (first | refine blk_drewN ?_ _ | refine blk_drew ?_ | refine blk_alloc ?_ _)); exact BK103.out) hb); replace BK104 := Aside0.mk (blk_below (g := gb104) (o := .cells #[.int .i64 0, .int .i64 0, .string (⟨#[]⟩ : ByteArray)] 36 (0, 0)) (by (with_reducible repeat (first | refine blk_drewN ?_ _ | refine blk_drew ?_ | refine blk_alloc ?_ _)); refine blk_put (cs := #[.int .i64 0, .int .i64 0, .string (⟨#[]⟩ : ByteArray)]) ?_ 2 _ rfl; (with_reducible repeat (first | refine blk_drewN ?_ _ | refine blk_drew ?_ | refine blk_alloc ?_ _)); refine blk_put (cs := #[.int .i64 0, .int .i64 0, .string (⟨#[]⟩ : ByteArray)]) ?_ 1 _ rfl; (with_reducible repeat (first | refine blk_drewN ?_ _ | refine blk_drew ?_ | refine blk_alloc ?_ _)); refine blk_put (cs := #[.int .i64 0, .int .i64 0, .string (⟨#[]⟩ : ByteArray)]) ?_ 0 _ rfl; (with_reducible repeat (first | refine blk_drewN ?_ _ | refine blk_drew ?_ | refine blk_alloc ?_ _)); exact BK104.out) hb); replace HB := kS HB hb; have hnb32 := NB102_103.out; have hnc32 := NB103_102.out; have hnb33 := NB102_104.out; have hnc33 := NB104_102.out; obtain ⟨⟨hcz34_0, hcz34_1, hcz34_2⟩, hfz34_0, hfz34_1, hfz34_2⟩ := bf3 BK102) | (go_at_call 24; (with_reducible refine (impl_MillValidValue.calls a2_0 a2_1 a2_2 true _ A15.out).mono ?_); rintro e w35 ⟨rfl, hb⟩; replace BK101 := kB BK101 hb; replace BK102 := kB BK102 hb; replace BK103 := kB BK103 hb; replace BK104 := kB BK104 hb; replace HB := kS HB hb)))
            go_meet
            case rel => exact ⟨_, (decide (a0 > 18)), (by first | rfl | (simp; done) | (simp [*]; done)), H', ⟨by first | omega | exact Nat.le_refl _⟩, ⟨kp BK101⟩, ⟨kp BK102⟩, ⟨kp BK103⟩, ⟨kp BK104⟩, ⟨kb HB⟩⟩
      · replace c16 := Bool.eq_false_iff.mpr c16
        subst c16
        have H1 : (impl_MillBinary.j0 k a0 true a1_0 a1_1 a1_2 a2_0 a2_1 a2_2 0 0 (⟨#[]⟩ : ByteArray)) = some (r1, r2, r3, r4) := by rw [if_neg (show ¬ (false = true) by decide)] at H; exact H
        clear H
        have H := H1
        clear H1
        have H' := Aside0.mk H
        clear H
        have hnb36 := NB101_102.out
        have hnc36 := NB102_101.out
        have hnb37 := NB101_103.out
        have hnc37 := NB103_101.out
        have hnb38 := NB101_104.out
        have hnc38 := NB104_101.out
        obtain ⟨⟨hcz39_0, hcz39_1, hcz39_2⟩, hfz39_0, hfz39_1, hfz39_2⟩ := bf3 BK101
        as_aux_lemma =>
          go_wp2_with (first | (go_at_call 24; (with_reducible refine (impl_MillValidValue.calls a1_0 a1_1 a1_2 true _ A13.out).mono ?_); rintro e w40 ⟨rfl, hb⟩; replace BK101 := Aside0.mk (blk_below (g := gb101) (o := .cells #[.int .i64 a1_0, .int .i64 a1_1, .string a1_2] 36 (0, 0)) (by (with_reducible repeat (first | refine blk_drewN ?_ _ | refine blk_drew ?_ | refine blk_alloc ?_ _)); refine blk_far ?_ NB101_104.out _; (with_reducible repeat (first | refine blk_drewN ?_ _ | refine blk_drew ?_ | refine blk_alloc ?_ _)); refine blk_far ?_ NB101_104.out _; (with_reducible repeat (first | refine blk_drewN ?_ _ | refine blk_drew ?_ | refine blk_alloc ?_ _)); refine blk_far ?_ NB101_104.out _; (with_reducible repeat (first | refine blk_drewN ?_ _ | refine blk_drew ?_ | refine blk_alloc ?_ _)); exact BK101.out) hb); replace BK102 := Aside0.mk (blk_below (g := gb102) (o := .cells #[.int .i64 a2_0, .int .i64 a2_1, .string a2_2] 36 (0, 0)) (by (with_reducible repeat (first | refine blk_drewN ?_ _ | refine blk_drew ?_ | refine blk_alloc ?_ _)); refine blk_far ?_ NB102_104.out _; (with_reducible repeat (first | refine blk_drewN ?_ _ | refine blk_drew ?_ | refine blk_alloc ?_ _)); refine blk_far ?_ NB102_104.out _; (with_reducible repeat (first | refine blk_drewN ?_ _ | refine blk_drew ?_ | refine blk_alloc ?_ _)); refine blk_far ?_ NB102_104.out _; (with_reducible repeat (first | refine blk_drewN ?_ _ | refine blk_drew ?_ | refine blk_alloc ?_ _)); exact BK102.out) hb); replace BK103 := Aside0.mk (blk_below (g := gb103) (o := .cells #[.int .i64 0, .int .i64 0, .string (⟨#[]⟩ : ByteArray)] 36 (0, 0)) (by (with_reducible repeat (first | refine blk_drewN ?_ _ | refine blk_drew ?_ | refine blk_alloc ?_ _)); refine blk_far ?_ NB103_104.out _; (with_reducible repeat (first | refine blk_drewN ?_ _ | refine blk_drew ?_ | refine blk_alloc ?_ _)); refine blk_far ?_ NB103_104.out _; (with_reducible repeat (first | refine blk_drewN ?_ _ | refine blk_drew ?_ | refine blk_alloc ?_ _)); refine blk_far ?_ NB103_104.out _; (with_reducible repeat (first | refine blk_drewN ?_ _ | refine blk_drew ?_ | refine blk_alloc ?_ _)); exact BK103.out) hb); replace BK104 := Aside0.mk (blk_below (g := gb104) (o := .cells #[.int .i64 0, .int .i64 0, .string (⟨#[]⟩ : ByteArray)] 36 (0, 0)) (by (with_reducible repeat (first | refine blk_drewN ?_ _ | refine blk_drew ?_ | refine blk_alloc ?_ _)); refine blk_put (cs := #[.int .i64 0, .int .i64 0, .string (⟨#[]⟩ : ByteArray)]) ?_ 2 _ rfl; (with_reducible repeat (first | refine blk_drewN ?_ _ | refine blk_drew ?_ | refine blk_alloc ?_ _)); refine blk_put (cs := #[.int .i64 0, .int .i64 0, .string (⟨#[]⟩ : ByteArray)]) ?_ 1 _ rfl; (with_reducible repeat (first | refine blk_drewN ?_ _ | refine blk_drew ?_ | refine blk_alloc ?_ _)); refine blk_put (cs := #[.int .i64 0, .int .i64 0, .string (⟨#[]⟩ : ByteArray)]) ?_ 0 _ rfl; (with_reducible repeat (first | refine blk_drewN ?_ _ | refine blk_drew ?_ | refine blk_alloc ?_ _)); exact BK104.out) hb); replace HB := kS HB hb; have hnb41 := NB102_103.out; have hnc41 := NB103_102.out; have hnb42 := NB102_104.out; have hnc42 := NB104_102.out; obtain ⟨⟨hcz43_0, hcz43_1, hcz43_2⟩, hfz43_0, hfz43_1, hfz43_2⟩ := bf3 BK102) | (go_at_call 24; (with_reducible refine (impl_MillValidValue.calls a2_0 a2_1 a2_2 false _ A15.out).mono ?_); rintro e w44 ⟨rfl, hb⟩; replace BK101 := kB BK101 hb; replace BK102 := kB BK102 hb; replace BK103 := kB BK103 hb; replace BK104 := kB BK104 hb; replace HB := kS HB hb))
          repeat (go_quiet (first | (go_at_call 24; (with_reducible refine (impl_MillValidValue.calls a1_0 a1_1 a1_2 true _ A13.out).mono ?_); rintro e w40 ⟨rfl, hb⟩; replace BK101 := Aside0.mk (blk_below (g := gb101) (o := .cells #[.int .i64 a1_0, .int .i64 a1_1, .string a1_2] 36 (0, 0)) (by (with_reducible repeat (first | refine blk_drewN ?_ _ | refine blk_drew ?_ | refine blk_alloc ?_ _)); refine blk_far ?_ NB101_104.out _; (with_reducible repeat (first | refine blk_drewN ?_ _ | refine blk_drew ?_ | refine blk_alloc ?_ _)); refine blk_far ?_ NB101_104.out _; (with_reducible repeat (first | refine blk_drewN ?_ _ | refine blk_drew ?_ | refine blk_alloc ?_ _)); refine blk_far ?_ NB101_104.out _; (with_reducible repeat (first | refine blk_drewN ?_ _ | refine blk_drew ?_ | refine blk_alloc ?_ _)); exact BK101.out) hb); replace BK102 := Aside0.mk (blk_below (g := gb102) (o := .cells #[.int .i64 a2_0, .int .i64 a2_1, .string a2_2] 36 (0, 0)) (by (with_reducible repeat (first | refine blk_drewN ?_ _ | refine blk_drew ?_ | refine blk_alloc ?_ _)); refine blk_far ?_ NB102_104.out _; (with_reducible repeat (first | refine blk_drewN ?_ _ | refine blk_drew ?_ | refine blk_alloc ?_ _)); refine blk_far ?_ NB102_104.out _; (with_reducible repeat (first | refine blk_drewN ?_ _ | refine blk_drew ?_ | refine blk_alloc ?_ _)); refine blk_far ?_ NB102_104.out _; (with_reducible repeat (first | refine blk_drewN ?_ _ | refine blk_drew ?_ | refine blk_alloc ?_ _)); exact BK102.out) hb); replace BK103 := Aside0.mk (blk_below (g := gb103) (o := .cells #[.int .i64 0, .int .i64 0, .string (⟨#[]⟩ : ByteArray)] 36 (0, 0)) (by (with_reducible repeat (first | refine blk_drewN ?_ _ | refine blk_drew ?_ | refine blk_alloc ?_ _)); refine blk_far ?_ NB103_104.out _; (with_reducible repeat (first | refine blk_drewN ?_ _ | refine blk_drew ?_ | refine blk_alloc ?_ _)); refine blk_far ?_ NB103_104.out _; (with_reducible repeat (first | refine blk_drewN ?_ _ | refine blk_drew ?_ | refine blk_alloc ?_ _)); refine blk_far ?_ NB103_104.out _; (with_reducible repeat (first | refine blk_drewN ?_ _ | refine blk_drew ?_ | refine blk_alloc ?_ _)); exact BK103.out) hb); replace BK104 := Aside0.mk (blk_below (g := gb104) (o := .cells #[.int .i64 0, .int .i64 0, .string (⟨#[]⟩ : ByteArray)] 36 (0, 0)) (by (with_reducible repeat (first | refine blk_drewN ?_ _ | refine blk_drew ?_ | refine blk_alloc ?_ _)); refine blk_put (cs := #[.int .i64 0, .int .i64 0, .string (⟨#[]⟩ : ByteArray)]) ?_ 2 _ rfl; (with_reducible repeat (first | refine blk_drewN ?_ _ | refine blk_drew ?_ | refine blk_alloc ?_ _)); refine blk_put (cs := #[.int .i64 0, .int .i64 0, .string (⟨#[]⟩ : ByteArray)]) ?_ 1 _ rfl; (with_reducible repeat (first | refine blk_drewN ?_ _ | refine blk_drew ?_ | refine blk_alloc ?_ _)); refine blk_put (cs := #[.int .i64 0, .int .i64 0, .string (⟨#[]⟩ : ByteArray)]) ?_ 0 _ rfl; (with_reducible repeat (first | refine blk_drewN ?_ _ | refine blk_drew ?_ | refine blk_alloc ?_ _)); exact BK104.out) hb); replace HB := kS HB hb; have hnb41 := NB102_103.out; have hnc41 := NB103_102.out; have hnb42 := NB102_104.out; have hnc42 := NB104_102.out; obtain ⟨⟨hcz43_0, hcz43_1, hcz43_2⟩, hfz43_0, hfz43_1, hfz43_2⟩ := bf3 BK102) | (go_at_call 24; (with_reducible refine (impl_MillValidValue.calls a2_0 a2_1 a2_2 false _ A15.out).mono ?_); rintro e w44 ⟨rfl, hb⟩; replace BK101 := kB BK101 hb; replace BK102 := kB BK102 hb; replace BK103 := kB BK103 hb; replace BK104 := kB BK104 hb; replace HB := kS HB hb)); try go_wp2_with (first | (go_at_call 24; (with_reducible refine (impl_MillValidValue.calls a1_0 a1_1 a1_2 true _ A13.out).mono ?_); rintro e w40 ⟨rfl, hb⟩; replace BK101 := Aside0.mk (blk_below (g := gb101) (o := .cells #[.int .i64 a1_0, .int .i64 a1_1, .string a1_2] 36 (0, 0)) (by (with_reducible repeat (first | refine blk_drewN ?_ _ | refine blk_drew ?_ | refine blk_alloc ?_ _)); refine blk_far ?_ NB101_104.out _; (with_reducible repeat (first | refine blk_drewN ?_ _ | refine blk_drew ?_ | refine blk_alloc ?_ _)); refine blk_far ?_ NB101_104.out _; (with_reducible repeat (first | refine blk_drewN ?_ _ | refine blk_drew ?_ | refine blk_alloc ?_ _)); refine blk_far ?_ NB101_104.out _; (with_reducible repeat (first | refine blk_drewN ?_ _ | refine blk_drew ?_ | refine blk_alloc ?_ _)); exact BK101.out) hb); replace BK102 := Aside0.mk (blk_below (g := gb102) (o := .cells #[.int .i64 a2_0, .int .i64 a2_1, .string a2_2] 36 (0, 0)) (by (with_reducible repeat (first | refine blk_drewN ?_ _ | refine blk_drew ?_ | refine blk_alloc ?_ _)); refine blk_far ?_ NB102_104.out _; (with_reducible repeat (first | refine blk_drewN ?_ _ | refine blk_drew ?_ | refine blk_alloc ?_ _)); refine blk_far ?_ NB102_104.out _; (with_reducible repeat (first | refine blk_drewN ?_ _ | refine blk_drew ?_ | refine blk_alloc ?_ _)); refine blk_far ?_ NB102_104.out _; (with_reducible repeat (first | refine blk_drewN ?_ _ | refine blk_drew ?_ | refine blk_alloc ?_ _)); exact BK102.out) hb); replace BK103 := Aside0.mk (blk_below (g := gb103) (o := .cells #[.int .i64 0, .int .i64 0, .string (⟨#[]⟩ : ByteArray)] 36 (0, 0)) (by (with_reducible repeat (first | refine blk_drewN ?_ _ | refine blk_drew ?_ | refine blk_alloc ?_ _)); refine blk_far ?_ NB103_104.out _; (with_reducible repeat (first | refine blk_drewN ?_ _ | refine blk_drew ?_ | refine blk_alloc ?_ _)); refine blk_far ?_ NB103_104.out _; (with_reducible repeat (first | refine blk_drewN ?_ _ | refine blk_drew ?_ | refine blk_alloc ?_ _)); refine blk_far ?_ NB103_104.out _; (with_reducible repeat (first | refine blk_drewN ?_ _ | refine blk_drew ?_ | refine blk_alloc ?_ _)); exact BK103.out) hb); replace BK104 := Aside0.mk (blk_below (g := gb104) (o := .cells #[.int .i64 0, .int .i64 0, .string (⟨#[]⟩ : ByteArray)] 36 (0, 0)) (by (with_reducible repeat (first | refine blk_drewN ?_ _ | refine blk_drew ?_ | refine blk_alloc ?_ _)); refine blk_put (cs := #[.int .i64 0, .int .i64 0, .string (⟨#[]⟩ : ByteArray)]) ?_ 2 _ rfl; (with_reducible repeat (first | refine blk_drewN ?_ _ | refine blk_drew ?_ | refine blk_alloc ?_ _)); refine blk_put (cs := #[.int .i64 0, .int .i64 0, .string (⟨#[]⟩ : ByteArray)]) ?_ 1 _ rfl; (with_reducible repeat (first | refine blk_drewN ?_ _ | refine blk_drew ?_ | refine blk_alloc ?_ _)); refine blk_put (cs := #[.int .i64 0, .int .i64 0, .string (⟨#[]⟩ : ByteArray)]) ?_ 0 _ rfl; (with_reducible repeat (first | refine blk_drewN ?_ _ | refine blk_drew ?_ | refine blk_alloc ?_ _)); exact BK104.out) hb); replace HB := kS HB hb; have hnb41 := NB102_103.out; have hnc41 := NB103_102.out; have hnb42 := NB102_104.out; have hnc42 := NB104_102.out; obtain ⟨⟨hcz43_0, hcz43_1, hcz43_2⟩, hfz43_0, hfz43_1, hfz43_2⟩ := bf3 BK102) | (go_at_call 24; (with_reducible refine (impl_MillValidValue.calls a2_0 a2_1 a2_2 false _ A15.out).mono ?_); rintro e w44 ⟨rfl, hb⟩; replace BK101 := kB BK101 hb; replace BK102 := kB BK102 hb; replace BK103 := kB BK103 hb; replace BK104 := kB BK104 hb; replace HB := kS HB hb)))
          go_meet
          case rel => exact ⟨_, (true), (by first | rfl | (simp; done) | (simp [*]; done)), H', ⟨by first | omega | exact Nat.le_refl _⟩, ⟨kp BK101⟩, ⟨kp BK102⟩, ⟨kp BK103⟩, ⟨kp BK104⟩, ⟨kb HB⟩⟩
    · replace c14 := Bool.eq_false_iff.mpr c14
      subst c14
      have H1 : (impl_MillBinary.j0 k a0 true a1_0 a1_1 a1_2 a2_0 a2_1 a2_2 0 0 (⟨#[]⟩ : ByteArray)) = some (r1, r2, r3, r4) := by rw [if_neg (show ¬ (false = true) by decide)] at H; exact H
      clear H
      have H := H1
      clear H1
      have H' := Aside0.mk H
      clear H
      have hnb45 := NB101_102.out
      have hnc45 := NB102_101.out
      have hnb46 := NB101_103.out
      have hnc46 := NB103_101.out
      have hnb47 := NB101_104.out
      have hnc47 := NB104_101.out
      obtain ⟨⟨hcz48_0, hcz48_1, hcz48_2⟩, hfz48_0, hfz48_1, hfz48_2⟩ := bf3 BK101
      as_aux_lemma =>
        go_wp2_with (first | (go_at_call 24; (with_reducible refine (impl_MillValidValue.calls a1_0 a1_1 a1_2 false _ A13.out).mono ?_); rintro e w49 ⟨rfl, hb⟩; replace BK101 := Aside0.mk (blk_below (g := gb101) (o := .cells #[.int .i64 a1_0, .int .i64 a1_1, .string a1_2] 36 (0, 0)) (by (with_reducible repeat (first | refine blk_drewN ?_ _ | refine blk_drew ?_ | refine blk_alloc ?_ _)); refine blk_far ?_ NB101_104.out _; (with_reducible repeat (first | refine blk_drewN ?_ _ | refine blk_drew ?_ | refine blk_alloc ?_ _)); refine blk_far ?_ NB101_104.out _; (with_reducible repeat (first | refine blk_drewN ?_ _ | refine blk_drew ?_ | refine blk_alloc ?_ _)); refine blk_far ?_ NB101_104.out _; (with_reducible repeat (first | refine blk_drewN ?_ _ | refine blk_drew ?_ | refine blk_alloc ?_ _)); exact BK101.out) hb); replace BK102 := Aside0.mk (blk_below (g := gb102) (o := .cells #[.int .i64 a2_0, .int .i64 a2_1, .string a2_2] 36 (0, 0)) (by (with_reducible repeat (first | refine blk_drewN ?_ _ | refine blk_drew ?_ | refine blk_alloc ?_ _)); refine blk_far ?_ NB102_104.out _; (with_reducible repeat (first | refine blk_drewN ?_ _ | refine blk_drew ?_ | refine blk_alloc ?_ _)); refine blk_far ?_ NB102_104.out _; (with_reducible repeat (first | refine blk_drewN ?_ _ | refine blk_drew ?_ | refine blk_alloc ?_ _)); refine blk_far ?_ NB102_104.out _; (with_reducible repeat (first | refine blk_drewN ?_ _ | refine blk_drew ?_ | refine blk_alloc ?_ _)); exact BK102.out) hb); replace BK103 := Aside0.mk (blk_below (g := gb103) (o := .cells #[.int .i64 0, .int .i64 0, .string (⟨#[]⟩ : ByteArray)] 36 (0, 0)) (by (with_reducible repeat (first | refine blk_drewN ?_ _ | refine blk_drew ?_ | refine blk_alloc ?_ _)); refine blk_far ?_ NB103_104.out _; (with_reducible repeat (first | refine blk_drewN ?_ _ | refine blk_drew ?_ | refine blk_alloc ?_ _)); refine blk_far ?_ NB103_104.out _; (with_reducible repeat (first | refine blk_drewN ?_ _ | refine blk_drew ?_ | refine blk_alloc ?_ _)); refine blk_far ?_ NB103_104.out _; (with_reducible repeat (first | refine blk_drewN ?_ _ | refine blk_drew ?_ | refine blk_alloc ?_ _)); exact BK103.out) hb); replace BK104 := Aside0.mk (blk_below (g := gb104) (o := .cells #[.int .i64 0, .int .i64 0, .string (⟨#[]⟩ : ByteArray)] 36 (0, 0)) (by (with_reducible repeat (first | refine blk_drewN ?_ _ | refine blk_drew ?_ | refine blk_alloc ?_ _)); refine blk_put (cs := #[.int .i64 0, .int .i64 0, .string (⟨#[]⟩ : ByteArray)]) ?_ 2 _ rfl; (with_reducible repeat (first | refine blk_drewN ?_ _ | refine blk_drew ?_ | refine blk_alloc ?_ _)); refine blk_put (cs := #[.int .i64 0, .int .i64 0, .string (⟨#[]⟩ : ByteArray)]) ?_ 1 _ rfl; (with_reducible repeat (first | refine blk_drewN ?_ _ | refine blk_drew ?_ | refine blk_alloc ?_ _)); refine blk_put (cs := #[.int .i64 0, .int .i64 0, .string (⟨#[]⟩ : ByteArray)]) ?_ 0 _ rfl; (with_reducible repeat (first | refine blk_drewN ?_ _ | refine blk_drew ?_ | refine blk_alloc ?_ _)); exact BK104.out) hb); replace HB := kS HB hb))
        repeat (go_quiet (first | (go_at_call 24; (with_reducible refine (impl_MillValidValue.calls a1_0 a1_1 a1_2 false _ A13.out).mono ?_); rintro e w49 ⟨rfl, hb⟩; replace BK101 := Aside0.mk (blk_below (g := gb101) (o := .cells #[.int .i64 a1_0, .int .i64 a1_1, .string a1_2] 36 (0, 0)) (by (with_reducible repeat (first | refine blk_drewN ?_ _ | refine blk_drew ?_ | refine blk_alloc ?_ _)); refine blk_far ?_ NB101_104.out _; (with_reducible repeat (first | refine blk_drewN ?_ _ | refine blk_drew ?_ | refine blk_alloc ?_ _)); refine blk_far ?_ NB101_104.out _; (with_reducible repeat (first | refine blk_drewN ?_ _ | refine blk_drew ?_ | refine blk_alloc ?_ _)); refine blk_far ?_ NB101_104.out _; (with_reducible repeat (first | refine blk_drewN ?_ _ | refine blk_drew ?_ | refine blk_alloc ?_ _)); exact BK101.out) hb); replace BK102 := Aside0.mk (blk_below (g := gb102) (o := .cells #[.int .i64 a2_0, .int .i64 a2_1, .string a2_2] 36 (0, 0)) (by (with_reducible repeat (first | refine blk_drewN ?_ _ | refine blk_drew ?_ | refine blk_alloc ?_ _)); refine blk_far ?_ NB102_104.out _; (with_reducible repeat (first | refine blk_drewN ?_ _ | refine blk_drew ?_ | refine blk_alloc ?_ _)); refine blk_far ?_ NB102_104.out _; (with_reducible repeat (first | refine blk_drewN ?_ _ | refine blk_drew ?_ | refine blk_alloc ?_ _)); refine blk_far ?_ NB102_104.out _; (with_reducible repeat (first | refine blk_drewN ?_ _ | refine blk_drew ?_ | refine blk_alloc ?_ _)); exact BK102.out) hb); replace BK103 := Aside0.mk (blk_below (g := gb103) (o := .cells #[.int .i64 0, .int .i64 0, .string (⟨#[]⟩ : ByteArray)] 36 (0, 0)) (by (with_reducible repeat (first | refine blk_drewN ?_ _ | refine blk_drew ?_ | refine blk_alloc ?_ _)); refine blk_far ?_ NB103_104.out _; (with_reducible repeat (first | refine blk_drewN ?_ _ | refine blk_drew ?_ | refine blk_alloc ?_ _)); refine blk_far ?_ NB103_104.out _; (with_reducible repeat (first | refine blk_drewN ?_ _ | refine blk_drew ?_ | refine blk_alloc ?_ _)); refine blk_far ?_ NB103_104.out _; (with_reducible repeat (first | refine blk_drewN ?_ _ | refine blk_drew ?_ | refine blk_alloc ?_ _)); exact BK103.out) hb); replace BK104 := Aside0.mk (blk_below (g := gb104) (o := .cells #[.int .i64 0, .int .i64 0, .string (⟨#[]⟩ : ByteArray)] 36 (0, 0)) (by (with_reducible repeat (first | refine blk_drewN ?_ _ | refine blk_drew ?_ | refine blk_alloc ?_ _)); refine blk_put (cs := #[.int .i64 0, .int .i64 0, .string (⟨#[]⟩ : ByteArray)]) ?_ 2 _ rfl; (with_reducible repeat (first | refine blk_drewN ?_ _ | refine blk_drew ?_ | refine blk_alloc ?_ _)); refine blk_put (cs := #[.int .i64 0, .int .i64 0, .string (⟨#[]⟩ : ByteArray)]) ?_ 1 _ rfl; (with_reducible repeat (first | refine blk_drewN ?_ _ | refine blk_drew ?_ | refine blk_alloc ?_ _)); refine blk_put (cs := #[.int .i64 0, .int .i64 0, .string (⟨#[]⟩ : ByteArray)]) ?_ 0 _ rfl; (with_reducible repeat (first | refine blk_drewN ?_ _ | refine blk_drew ?_ | refine blk_alloc ?_ _)); exact BK104.out) hb); replace HB := kS HB hb)); try go_wp2_with (first | (go_at_call 24; (with_reducible refine (impl_MillValidValue.calls a1_0 a1_1 a1_2 false _ A13.out).mono ?_); rintro e w49 ⟨rfl, hb⟩; replace BK101 := Aside0.mk (blk_below (g := gb101) (o := .cells #[.int .i64 a1_0, .int .i64 a1_1, .string a1_2] 36 (0, 0)) (by (with_reducible repeat (first | refine blk_drewN ?_ _ | refine blk_drew ?_ | refine blk_alloc ?_ _)); refine blk_far ?_ NB101_104.out _; (with_reducible repeat (first | refine blk_drewN ?_ _ | refine blk_drew ?_ | refine blk_alloc ?_ _)); refine blk_far ?_ NB101_104.out _; (with_reducible repeat (first | refine blk_drewN ?_ _ | refine blk_drew ?_ | refine blk_alloc ?_ _)); refine blk_far ?_ NB101_104.out _; (with_reducible repeat (first | refine blk_drewN ?_ _ | refine blk_drew ?_ | refine blk_alloc ?_ _)); exact BK101.out) hb); replace BK102 := Aside0.mk (blk_below (g := gb102) (o := .cells #[.int .i64 a2_0, .int .i64 a2_1, .string a2_2] 36 (0, 0)) (by (with_reducible repeat (first | refine blk_drewN ?_ _ | refine blk_drew ?_ | refine blk_alloc ?_ _)); refine blk_far ?_ NB102_104.out _; (with_reducible repeat (first | refine blk_drewN ?_ _ | refine blk_drew ?_ | refine blk_alloc ?_ _)); refine blk_far ?_ NB102_104.out _; (with_reducible repeat (first | refine blk_drewN ?_ _ | refine blk_drew ?_ | refine blk_alloc ?_ _)); refine blk_far ?_ NB102_104.out _; (with_reducible repeat (first | refine blk_drewN ?_ _ | refine blk_drew ?_ | refine blk_alloc ?_ _)); exact BK102.out) hb); replace BK103 := Aside0.mk (blk_below (g := gb103) (o := .cells #[.int .i64 0, .int .i64 0, .string (⟨#[]⟩ : ByteArray)] 36 (0, 0)) (by (with_reducible repeat (first | refine blk_drewN ?_ _ | refine blk_drew ?_ | refine blk_alloc ?_ _)); refine blk_far ?_ NB103_104.out _; (with_reducible repeat (first | refine blk_drewN ?_ _ | refine blk_drew ?_ | refine blk_alloc ?_ _)); refine blk_far ?_ NB103_104.out _; (with_reducible repeat (first | refine blk_drewN ?_ _ | refine blk_drew ?_ | refine blk_alloc ?_ _)); refine blk_far ?_ NB103_104.out _; (with_reducible repeat (first | refine blk_drewN ?_ _ | refine blk_drew ?_ | refine blk_alloc ?_ _)); exact BK103.out) hb); replace BK104 := Aside0.mk (blk_below (g := gb104) (o := .cells #[.int .i64 0, .int .i64 0, .string (⟨#[]⟩ : ByteArray)] 36 (0, 0)) (by (with_reducible repeat (first | refine blk_drewN ?_ _ | refine blk_drew ?_ | refine blk_alloc ?_ _)); refine blk_put (cs := #[.int .i64 0, .int .i64 0, .string (⟨#[]⟩ : ByteArray)]) ?_ 2 _ rfl; (with_reducible repeat (first | refine blk_drewN ?_ _ | refine blk_drew ?_ | refine blk_alloc ?_ _)); refine blk_put (cs := #[.int .i64 0, .int .i64 0, .string (⟨#[]⟩ : ByteArray)]) ?_ 1 _ rfl; (with_reducible repeat (first | refine blk_drewN ?_ _ | refine blk_drew ?_ | refine blk_alloc ?_ _)); refine blk_put (cs := #[.int .i64 0, .int .i64 0, .string (⟨#[]⟩ : ByteArray)]) ?_ 0 _ rfl; (with_reducible repeat (first | refine blk_drewN ?_ _ | refine blk_drew ?_ | refine blk_alloc ?_ _)); exact BK104.out) hb); replace HB := kS HB hb)))
        go_meet
        case rel => exact ⟨_, (true), (by first | rfl | (simp; done) | (simp [*]; done)), H', ⟨by first | omega | exact Nat.le_refl _⟩, ⟨kp BK101⟩, ⟨kp BK102⟩, ⟨kp BK103⟩, ⟨kp BK104⟩, ⟨kb HB⟩⟩
  case rest =>
    clear HC4
    obtain ⟨kq, x31_3, rfl, HA, HJ3, BK101, BK102, BK103, BK104, HB⟩ := hcut
    cases kq with
    | zero => exact absurd HA.out (by simp [impl_MillBinary.j0])
    | succ kj3 =>
      have H := HA.out
      clear HA
      simp only [impl_MillBinary.j0] at H
      by_cases c50 : x31_3 = true
      · subst c50
        have H1 : (some (0, 0, (⟨#[]⟩ : ByteArray), (⟨#[116, 121, 112, 101]⟩ : ByteArray))) = some (r1, r2, r3, r4) := by rw [if_pos rfl] at H; exact H
        clear H
        have H := H1
        clear H1
        simp only [Option.some.injEq, Prod.mk.injEq] at H
        obtain ⟨rfl, rfl, rfl, rfl⟩ := H
        have hnb51 := NB104_101.out
        have hnc51 := NB101_104.out
        have hnb52 := NB104_102.out
        have hnc52 := NB102_104.out
        have hnb53 := NB104_103.out
        have hnc53 := NB103_104.out
        obtain ⟨⟨hcz54_0, hcz54_1, hcz54_2⟩, hfz54_0, hfz54_1, hfz54_2⟩ := bf3 BK104
        have hnb55 := NB103_101.out
        have hnc55 := NB101_103.out
        have hnb56 := NB103_102.out
        have hnc56 := NB102_103.out
        obtain ⟨⟨hcz57_0, hcz57_1, hcz57_2⟩, hfz57_0, hfz57_1, hfz57_2⟩ := bf3 BK103
        as_aux_lemma =>
          go_wp2
          repeat (go_quiet (fail); try go_wp2)
          refine bodyPost_ret (results_ct rfl _ _ gb103 36 #[.int .i64 0, .int .i64 0, .string (⟨#[]⟩ : ByteArray)] (0, 0) _ rfl (by (with_reducible repeat (first | refine blk_drewN ?_ _ | refine blk_drew ?_ | refine blk_alloc ?_ _)); refine blk_put (cs := #[.int .i64 0, .int .i64 0, .string (⟨#[]⟩ : ByteArray)]) ?_ 2 _ rfl; (with_reducible repeat (first | refine blk_drewN ?_ _ | refine blk_drew ?_ | refine blk_alloc ?_ _)); refine blk_put (cs := #[.int .i64 0, .int .i64 0, .string (⟨#[]⟩ : ByteArray)]) ?_ 1 _ rfl; (with_reducible repeat (first | refine blk_drewN ?_ _ | refine blk_drew ?_ | refine blk_alloc ?_ _)); refine blk_put (cs := #[.int .i64 0, .int .i64 0, .string (⟨#[]⟩ : ByteArray)]) ?_ 0 _ rfl; (with_reducible repeat (first | refine blk_drewN ?_ _ | refine blk_drew ?_ | refine blk_alloc ?_ _)); exact BK103.out) Try.underlying36 rfl (by kernel_rfl)) rfl ?_
          exact ⟨by first | rfl | (simp [errW_none, errW_some] <;> rfl) | (simp [*, errW_none, errW_some] <;> rfl), kb HB⟩
      · replace c50 := Bool.eq_false_iff.mpr c50
        subst c50
        have H1 : ((impl_binType.f a0 a1_0 a2_0).bind fun bt107 => (if bt107.2 = true then (if a0 = 1 then ((impl_mBool.f (decide ((wrap64 (a1_1 + a2_1)) > 0))).bind fun bt109 => (some (bt109.1, bt109.2.1, bt109.2.2, (⟨#[]⟩ : ByteArray)))) else (if a0 = 2 then ((impl_mBool.f ((wrap64 (a1_1 + a2_1)) == 2)).bind fun bt112 => (some (bt112.1, bt112.2.1, bt112.2.2, (⟨#[]⟩ : ByteArray)))) else (if a0 = 3 then (impl_MillBinary.j1 kj3 a0 bt107.1 (IntKind.u64.wrap (a1_1)) (IntKind.u64.wrap (a2_1)) a0 (a0 == 3) a1_0 a1_1 a1_2 a2_0 a2_1 a2_2 0 0 (⟨#[]⟩ : ByteArray)) else (if a0 = 4 then (impl_MillBinary.j1 kj3 a0 bt107.1 (IntKind.u64.wrap (a1_1)) (IntKind.u64.wrap (a2_1)) a0 (a0 == 4) a1_0 a1_1 a1_2 a2_0 a2_1 a2_2 0 0 (⟨#[]⟩ : ByteArray)) else (if a0 = 5 then (impl_MillBinary.j1 kj3 a0 bt107.1 (IntKind.u64.wrap (a1_1)) (IntKind.u64.wrap (a2_1)) a0 (a0 == 5) a1_0 a1_1 a1_2 a2_0 a2_1 a2_2 0 0 (⟨#[]⟩ : ByteArray)) else (if a0 = 6 then (impl_MillBinary.j1 kj3 a0 bt107.1 (IntKind.u64.wrap (a1_1)) (IntKind.u64.wrap (a2_1)) a0 (a0 == 6) a1_0 a1_1 a1_2 a2_0 a2_1 a2_2 0 0 (⟨#[]⟩ : ByteArray)) else (if a0 = 7 then (impl_MillBinary.j1 kj3 a0 bt107.1 (IntKind.u64.wrap (a1_1)) (IntKind.u64.wrap (a2_1)) a0 (a0 == 7) a1_0 a1_1 a1_2 a2_0 a2_1 a2_2 0 0 (⟨#[]⟩ : ByteArray)) else (impl_MillBinary.j1 kj3 a0 bt107.1 (IntKind.u64.wrap (a1_1)) (IntKind.u64.wrap (a2_1)) a0 (a0 == 8) a1_0 a1_1 a1_2 a2_0 a2_1 a2_2 0 0 (⟨#[]⟩ : ByteArray))))))))) else (some (0, 0, (⟨#[]⟩ : ByteArray), (⟨#[116, 121, 112, 101]⟩ : ByteArray))))) = some (r1, r2, r3, r4) := by rw [if_neg (show ¬ (false = true) by decide)] at H; exact H
        clear H
        have H := H1
        clear H1
        replace H := Option.bind_eq_some_iff.mp H
        obtain ⟨⟨t107, t108⟩, A580, H⟩ := H
        replace H : (if t108 = true then (if a0 = 1 then ((impl_mBool.f (decide ((wrap64 (a1_1 + a2_1)) > 0))).bind fun bt109 => (some (bt109.1, bt109.2.1, bt109.2.2, (⟨#[]⟩ : ByteArray)))) else (if a0 = 2 then ((impl_mBool.f ((wrap64 (a1_1 + a2_1)) == 2)).bind fun bt112 => (some (bt112.1, bt112.2.1, bt112.2.2, (⟨#[]⟩ : ByteArray)))) else (if a0 = 3 then (impl_MillBinary.j1 kj3 a0 t107 (IntKind.u64.wrap (a1_1)) (IntKind.u64.wrap (a2_1)) a0 (a0 == 3) a1_0 a1_1 a1_2 a2_0 a2_1 a2_2 0 0 (⟨#[]⟩ : ByteArray)) else (if a0 = 4 then (impl_MillBinary.j1 kj3 a0 t107 (IntKind.u64.wrap (a1_1)) (IntKind.u64.wrap (a2_1)) a0 (a0 == 4) a1_0 a1_1 a1_2 a2_0 a2_1 a2_2 0 0 (⟨#[]⟩ : ByteArray)) else (if a0 = 5 then (impl_MillBinary.j1 kj3 a0 t107 (IntKind.u64.wrap (a1_1)) (IntKind.u64.wrap (a2_1)) a0 (a0 == 5) a1_0 a1_1 a1_2 a2_0 a2_1 a2_2 0 0 (⟨#[]⟩ : ByteArray)) else (if a0 = 6 then (impl_MillBinary.j1 kj3 a0 t107 (IntKind.u64.wrap (a1_1)) (IntKind.u64.wrap (a2_1)) a0 (a0 == 6) a1_0 a1_1 a1_2 a2_0 a2_1 a2_2 0 0 (⟨#[]⟩ : ByteArray)) else (if a0 = 7 then (impl_MillBinary.j1 kj3 a0 t107 (IntKind.u64.wrap (a1_1)) (IntKind.u64.wrap (a2_1)) a0 (a0 == 7) a1_0 a1_1 a1_2 a2_0 a2_1 a2_2 0 0 (⟨#[]⟩ : ByteArray)) else (impl_MillBinary.j1 kj3 a0 t107 (IntKind.u64.wrap (a1_1)) (IntKind.u64.wrap (a2_1)) a0 (a0 == 8) a1_0 a1_1 a1_2 a2_0 a2_1 a2_2 0 0 (⟨#[]⟩ : ByteArray))))))))) else (some (0, 0, (⟨#[]⟩ : ByteArray), (⟨#[116, 121, 112, 101]⟩ : ByteArray)))) = some (r1, r2, r3, r4) := H
        have A58 := Aside0.mk A580
        clear A580
        by_cases c59 : t108 = true
        · subst c59
          have H1 : (if a0 = 1 then ((impl_mBool.f (decide ((wrap64 (a1_1 + a2_1)) > 0))).bind fun bt109 => (some (bt109.1, bt109.2.1, bt109.2.2, (⟨#[]⟩ : ByteArray)))) else (if a0 = 2 then ((impl_mBool.f ((wrap64 (a1_1 + a2_1)) == 2)).bind fun bt112 => (some (bt112.1, bt112.2.1, bt112.2.2, (⟨#[]⟩ : ByteArray)))) else (if a0 = 3 then (impl_MillBinary.j1 kj3 a0 t107 (IntKind.u64.wrap (a1_1)) (IntKind.u64.wrap (a2_1)) a0 (a0 == 3) a1_0 a1_1 a1_2 a2_0 a2_1 a2_2 0 0 (⟨#[]⟩ : ByteArray)) else (if a0 = 4 then (impl_MillBinary.j1 kj3 a0 t107 (IntKind.u64.wrap (a1_1)) (IntKind.u64.wrap (a2_1)) a0 (a0 == 4) a1_0 a1_1 a1_2 a2_0 a2_1 a2_2 0 0 (⟨#[]⟩ : ByteArray)) else (if a0 = 5 then (impl_MillBinary.j1 kj3 a0 t107 (IntKind.u64.wrap (a1_1)) (IntKind.u64.wrap (a2_1)) a0 (a0 == 5) a1_0 a1_1 a1_2 a2_0 a2_1 a2_2 0 0 (⟨#[]⟩ : ByteArray)) else (if a0 = 6 then (impl_MillBinary.j1 kj3 a0 t107 (IntKind.u64.wrap (a1_1)) (IntKind.u64.wrap (a2_1)) a0 (a0 == 6) a1_0 a1_1 a1_2 a2_0 a2_1 a2_2 0 0 (⟨#[]⟩ : ByteArray)) else (if a0 = 7 then (impl_MillBinary.j1 kj3 a0 t107 (IntKind.u64.wrap (a1_1)) (IntKind.u64.wrap (a2_1)) a0 (a0 == 7) a1_0 a1_1 a1_2 a2_0 a2_1 a2_2 0 0 (⟨#[]⟩ : ByteArray)) else (impl_MillBinary.j1 kj3 a0 t107 (IntKind.u64.wrap (a1_1)) (IntKind.u64.wrap (a2_1)) a0 (a0 == 8) a1_0 a1_1 a1_2 a2_0 a2_1 a2_2 0 0 (⟨#[]⟩ : ByteArray))))))))) = some (r1, r2, r3, r4) := by rw [if_pos rfl] at H; exact H
          clear H
          have H := H1
          clear H1
          by_cases c60 : a0 = 1
          · exact absurd HG.out (by omega)
          · rw [if_neg c60] at H
            have c60b0 : (a0 == 1) = false := beq_eq_false_iff_ne.mpr c60
            have c60b1 : (a0 != 1) = true := bne_iff_ne.mpr c60
            by_cases c72 : a0 = 2
            · exact absurd HG.out (by omega)
            · rw [if_neg c72] at H
              have c72b0 : (a0 == 2) = false := beq_eq_false_iff_ne.mpr c72
              have c72b1 : (a0 != 2) = true := bne_iff_ne.mpr c72
              have HC84 := Aside0.mk H
              clear H
              have hnb85 := NB101_102.out
              have hnc85 := NB102_101.out
              have hnb86 := NB101_103.out
              have hnc86 := NB103_101.out
              have hnb87 := NB101_104.out
              have hnc87 := NB104_101.out
              obtain ⟨⟨hcz88_0, hcz88_1, hcz88_2⟩, hfz88_0, hfz88_1, hfz88_2⟩ := bf3 BK101
              have hnb89 := NB102_103.out
              have hnc89 := NB103_102.out
              have hnb90 := NB102_104.out
              have hnc90 := NB104_102.out
              obtain ⟨⟨hcz91_0, hcz91_1, hcz91_2⟩, hfz91_0, hfz91_1, hfz91_2⟩ := bf3 BK102
              go_upto_if 70 with (first | (go_at_call 86; (with_reducible refine (impl_binType.calls a0 a1_0 a2_0 t107 true _ A58.out).mono ?_); rintro e w' ⟨rfl, ⟨nd, rfl⟩⟩; (try first | exact ⟨rfl, _, World.drewN_drewN _ _ _⟩ | exact ⟨rfl, _, Eq.trans (World.drewN_drewN _ _ _) (congrArg (World.drewN _) (Nat.add_assoc _ _ _))⟩)))
              repeat (go_quiet (first | (go_at_call 86; (with_reducible refine (impl_binType.calls a0 a1_0 a2_0 t107 true _ A58.out).mono ?_); rintro e w' ⟨rfl, ⟨nd, rfl⟩⟩; (try first | exact ⟨rfl, _, World.drewN_drewN _ _ _⟩ | exact ⟨rfl, _, Eq.trans (World.drewN_drewN _ _ _) (congrArg (World.drewN _) (Nat.add_assoc _ _ _))⟩))); go_upto_if 70 with (first | (go_at_call 86; (with_reducible refine (impl_binType.calls a0 a1_0 a2_0 t107 true _ A58.out).mono ?_); rintro e w' ⟨rfl, ⟨nd, rfl⟩⟩; (try first | exact ⟨rfl, _, World.drewN_drewN _ _ _⟩ | exact ⟨rfl, _, Eq.trans (World.drewN_drewN _ _ _) (congrArg (World.drewN _) (Nat.add_assoc _ _ _))⟩))))
              (try simp only [Act.put, List.setIfInBounds_toArray, List.set_cons_zero, List.set_cons_succ])
              go_cut [70] (fun v70 wc => ∃ (kq : Nat) (x70_83 : Bool), v70 = .bool x70_83 ∧ Aside0 (impl_MillBinary.j1 kq a0 t107 (IntKind.u64.wrap (a1_1)) (IntKind.u64.wrap (a2_1)) a0 x70_83 a1_0 a1_1 a1_2 a2_0 a2_1 a2_2 0 0 (⟨#[]⟩ : ByteArray) = some (r1, r2, r3, r4)) ∧ Aside0 (kq ≤ kj3) ∧ Aside0 (x70_83 = false) ∧ Aside0 (wc.heap[gb101]? = some (.cells #[.int .i64 a1_0, .int .i64 a1_1, .string a1_2] 36 (0, 0))) ∧ Aside0 (wc.heap[gb102]? = some (.cells #[.int .i64 a2_0, .int .i64 a2_1, .string a2_2] 36 (0, 0))) ∧ Aside0 (wc.heap[gb103]? = some (.cells #[.int .i64 0, .int .i64 0, .string (⟨#[]⟩ : ByteArray)] 36 (0, 0))) ∧ Aside0 (wc.heap[gb104]? = some (.cells #[.int .i64 0, .int .i64 0, .string (⟨#[]⟩ : ByteArray)] 36 (0, 0))) ∧ Aside0 (Below w.heap.size w wc))
              case first =>
                have H := HC84.out
                clear HC84
                by_cases c92 : a0 = 3
                · exact absurd HG.out (by omega)
                · rw [if_neg c92] at H
                  have c92b0 : (a0 == 3) = false := beq_eq_false_iff_ne.mpr c92
                  have c92b1 : (a0 != 3) = true := bne_iff_ne.mpr c92
                  (first | rw [c92b0] | (simp only [i64_w, i32_w]; rw [c92b0]) | skip)
                  by_cases c93 : a0 = 4
                  · exact absurd HG.out (by omega)
                  · rw [if_neg c93] at H
                    have c93b0 : (a0 == 4) = false := beq_eq_false_iff_ne.mpr c93
                    have c93b1 : (a0 != 4) = true := bne_iff_ne.mpr c93
                    by_cases c94 : a0 = 5
                    · exact absurd HG.out (by omega)
                    · rw [if_neg c94] at H
                      have c94b0 : (a0 == 5) = false := beq_eq_false_iff_ne.mpr c94
                      have c94b1 : (a0 != 5) = true := bne_iff_ne.mpr c94
                      by_cases c95 : a0 = 6
                      · exact absurd HG.out (by omega)
                      · rw [if_neg c95] at H
                        have c95b0 : (a0 == 6) = false := beq_eq_false_iff_ne.mpr c95
                        have c95b1 : (a0 != 6) = true := bne_iff_ne.mpr c95
                        by_cases c96 : a0 = 7
                        · exact absurd HG.out (by omega)
                        · rw [if_neg c96] at H
                          have c96b0 : (a0 == 7) = false := beq_eq_false_iff_ne.mpr c96
                          have c96b1 : (a0 != 7) = true := bne_iff_ne.mpr c96
                          have H' := Aside0.mk H
                          clear H
                          as_aux_lemma =>
                            go_wp2
                            repeat (go_quiet (fail); try go_wp2)
                            go_meet
                            case rel => exact ⟨_, ((a0 == 8)), (by first | rfl | (simp; done) | (simp [*]; done)), H', ⟨by have := HJ3.out; first | omega | exact Nat.le_refl _⟩, ⟨beq_eq_false_iff_ne.mpr (by have := HG.out; omega)⟩, ⟨kp BK101⟩, ⟨kp BK102⟩, ⟨kp BK103⟩, ⟨kp BK104⟩, ⟨kb HB⟩⟩
              case rest =>
                clear HC84
                obtain ⟨kq, x70_83, rfl, HA, HJ83, HX70, BK101, BK102, BK103, BK104, HB⟩ := hcut
                cases kq with
                | zero => exact absurd HA.out (by simp [impl_MillBinary.j1])
                | succ kj83 =>
                  have H := HA.out
                  clear HA
                  simp only [impl_MillBinary.j1] at H
                  by_cases c97 : x70_83 = true
                  · exact absurd (c97.symm.trans HX70.out) (by decide)
                  · replace c97 := Bool.eq_false_iff.mpr c97
                    subst c97
                    have H1 : (if a0 = 9 then (if t107 = 2 then (if (wrap64 ((a1_2.size : Int) + (a2_2.size : Int))) > 3000 then (some (0, 0, (⟨#[]⟩ : ByteArray), (⟨#[108, 111, 110, 103]⟩ : ByteArray))) else (if a1_2.size + a2_2.size ≤ 9223372036854775807 then ((impl_mText.f (a1_2 ++ a2_2)).bind fun bt123 => (some (bt123.1, bt123.2.1, bt123.2.2, (⟨#[]⟩ : ByteArray)))) else (none))) else ((impl_mInt.f t107 (IntKind.u64.wrap ((IntKind.u64.wrap (a1_1)) + (IntKind.u64.wrap (a2_1))))).bind fun bt126 => (some (bt126.1, bt126.2.1, bt126.2.2, (⟨#[]⟩ : ByteArray))))) else (if a0 = 10 then ((impl_mInt.f t107 (IntKind.u64.wrap ((IntKind.u64.wrap (a1_1)) - (IntKind.u64.wrap (a2_1))))).bind fun bt129 => (some (bt129.1, bt129.2.1, bt129.2.2, (⟨#[]⟩ : ByteArray)))) else (if a0 = 13 then ((impl_mInt.f t107 (IntKind.u64.wrap ((IntKind.u64.wrap (a1_1)) * (IntKind.u64.wrap (a2_1))))).bind fun bt132 => (some (bt132.1, bt132.2.1, bt132.2.2, (⟨#[]⟩ : ByteArray)))) else (if a0 = 11 then ((impl_mInt.f t107 (Go.bits .or .u64 (IntKind.u64.wrap (a1_1)) (IntKind.u64.wrap (a2_1)))).bind fun bt135 => (some (bt135.1, bt135.2.1, bt135.2.2, (⟨#[]⟩ : ByteArray)))) else (if a0 = 12 then ((impl_mInt.f t107 (Go.bits .xor .u64 (IntKind.u64.wrap (a1_1)) (IntKind.u64.wrap (a2_1)))).bind fun bt138 => (some (bt138.1, bt138.2.1, bt138.2.2, (⟨#[]⟩ : ByteArray)))) else (if a0 = 16 then ((impl_mInt.f t107 (Go.bits .and .u64 (IntKind.u64.wrap (a1_1)) (IntKind.u64.wrap (a2_1)))).bind fun bt141 => (some (bt141.1, bt141.2.1, bt141.2.2, (⟨#[]⟩ : ByteArray)))) else (if a0 = 17 then (impl_MillBinary.j2 kj83 a0 t107 (IntKind.u64.wrap (a1_1)) (IntKind.u64.wrap (a2_1)) (a0 == 17) a1_0 a1_1 a1_2 a2_0 a2_1 a2_2 0 0 (⟨#[]⟩ : ByteArray)) else (impl_MillBinary.j2 kj83 a0 t107 (IntKind.u64.wrap (a1_1)) (IntKind.u64.wrap (a2_1)) (a0 == 18) a1_0 a1_1 a1_2 a2_0 a2_1 a2_2 0 0 (⟨#[]⟩ : ByteArray))))))))) = some (r1, r2, r3, r4) := by rw [if_neg (show ¬ (false = true) by decide)] at H; exact H
                    clear H
                    have H := H1
                    clear H1
                    by_cases c117 : a0 = 9
                    · exact absurd HG.out (by omega)
                    · rw [if_neg c117] at H
                      have c117b0 : (a0 == 9) = false := beq_eq_false_iff_ne.mpr c117
                      have c117b1 : (a0 != 9) = true := bne_iff_ne.mpr c117
                      by_cases c148 : a0 = 10
                      · exact absurd HG.out (by omega)
                      · rw [if_neg c148] at H
                        have c148b0 : (a0 == 10) = false := beq_eq_false_iff_ne.mpr c148
                        have c148b1 : (a0 != 10) = true := bne_iff_ne.mpr c148
                        by_cases c155 : a0 = 13
                        · exact absurd HG.out (by omega)
                        · rw [if_neg c155] at H
                          have c155b0 : (a0 == 13) = false := beq_eq_false_iff_ne.mpr c155
                          have c155b1 : (a0 != 13) = true := bne_iff_ne.mpr c155
                          by_cases c162 : a0 = 11
                          · exact absurd HG.out (by omega)
                          · rw [if_neg c162] at H
                            have c162b0 : (a0 == 11) = false := beq_eq_false_iff_ne.mpr c162
                            have c162b1 : (a0 != 11) = true := bne_iff_ne.mpr c162
                            by_cases c169 : a0 = 12
                            · exact absurd HG.out (by omega)
                            · rw [if_neg c169] at H
                              have c169b0 : (a0 == 12) = false := beq_eq_false_iff_ne.mpr c169
                              have c169b1 : (a0 != 12) = true := bne_iff_ne.mpr c169
                              by_cases c176 : a0 = 16
                              · exact absurd HG.out (by omega)
                              · rw [if_neg c176] at H
                                have c176b0 : (a0 == 16) = false := beq_eq_false_iff_ne.mpr c176
                                have c176b1 : (a0 != 16) = true := bne_iff_ne.mpr c176
                                have HC183 := Aside0.mk H
                                clear H
                                go_upto_if 157 with (fail)
                                repeat (go_quiet (fail); go_upto_if 157 with (fail))
                                go_cut [157] (fun v157 wc => ∃ (kq : Nat) (x157_182 : Bool), v157 = .bool x157_182 ∧ Aside0 (impl_MillBinary.j2 kq a0 t107 (IntKind.u64.wrap (a1_1)) (IntKind.u64.wrap (a2_1)) x157_182 a1_0 a1_1 a1_2 a2_0 a2_1 a2_2 0 0 (⟨#[]⟩ : ByteArray) = some (r1, r2, r3, r4)) ∧ Aside0 (kq ≤ kj83) ∧ Aside0 (x157_182 = true) ∧ Aside0 (wc.heap[gb101]? = some (.cells #[.int .i64 a1_0, .int .i64 a1_1, .string a1_2] 36 (0, 0))) ∧ Aside0 (wc.heap[gb102]? = some (.cells #[.int .i64 a2_0, .int .i64 a2_1, .string a2_2] 36 (0, 0))) ∧ Aside0 (wc.heap[gb103]? = some (.cells #[.int .i64 0, .int .i64 0, .string (⟨#[]⟩ : ByteArray)] 36 (0, 0))) ∧ Aside0 (wc.heap[gb104]? = some (.cells #[.int .i64 0, .int .i64 0, .string (⟨#[]⟩ : ByteArray)] 36 (0, 0))) ∧ Aside0 (Below w.heap.size w wc))
                                case first =>
                                  have H := HC183.out
                                  clear HC183
                                  by_cases c184 : a0 = 17
                                  · rw [if_pos c184] at H
                                    have c184b0 : (a0 == 17) = true := beq_iff_eq.mpr c184
                                    have c184b1 : (a0 != 17) = false := bne_eq_false_iff_eq.mpr c184
                                    clear c184
                                    (first | rw [c184b0] | (simp only [i64_w, i32_w]; rw [c184b0]) | skip)
                                    have H' := Aside0.mk H
                                    clear H
                                    as_aux_lemma =>
                                      go_wp2
                                      repeat (go_quiet (fail); try go_wp2)
                                      go_meet
                                      case rel => exact ⟨_, ((a0 == 17)), (by first | rfl | (simp; done) | (simp [*]; done)), H', ⟨by have := HJ3.out; have := HJ83.out; first | omega | exact Nat.le_refl _⟩, ⟨by have := HG.out; first | assumption | exact beq_iff_eq.mpr (by omega)⟩, ⟨kp BK101⟩, ⟨kp BK102⟩, ⟨kp BK103⟩, ⟨kp BK104⟩, ⟨kb HB⟩⟩
                                  · rw [if_neg c184] at H
                                    have c184b0 : (a0 == 17) = false := beq_eq_false_iff_ne.mpr c184
                                    have c184b1 : (a0 != 17) = true := bne_iff_ne.mpr c184
                                    (first | rw [c184b0] | (simp only [i64_w, i32_w]; rw [c184b0]) | skip)
                                    have H' := Aside0.mk H
                                    clear H
                                    as_aux_lemma =>
                                      go_wp2
                                      repeat (go_quiet (fail); try go_wp2)
                                      go_meet
                                      case rel => exact ⟨_, ((a0 == 18)), (by first | rfl | (simp; done) | (simp [*]; done)), H', ⟨by have := HJ3.out; have := HJ83.out; first | omega | exact Nat.le_refl _⟩, ⟨by have := HG.out; first | assumption | exact beq_iff_eq.mpr (by omega)⟩, ⟨kp BK101⟩, ⟨kp BK102⟩, ⟨kp BK103⟩, ⟨kp BK104⟩, ⟨kb HB⟩⟩
                                case rest =>
                                  clear HC183
                                  obtain ⟨kq, x157_182, rfl, HA, HJ182, HX157, BK101, BK102, BK103, BK104, HB⟩ := hcut
                                  cases kq with
                                  | zero => exact absurd HA.out (by simp [impl_MillBinary.j2])
                                  | succ kj182 =>
                                    have H := HA.out
                                    clear HA
                                    simp only [impl_MillBinary.j2] at H
                                    by_cases c185 : x157_182 = true
                                    · subst c185
                                      have H1 : ((impl_unsignedType.f t107).bind fun t144 => (if t144 = true then ((impl_bitsOf.f t107).bind fun t145 => (impl_MillBinary.j3 kj182 a0 t107 (IntKind.u64.wrap (a1_1)) (IntKind.u64.wrap (a2_1)) (!t144) (decide ((IntKind.u64.wrap (a2_1)) ≥ (IntKind.u64.wrap (t145)))) a1_0 a1_1 a1_2)) else (if a2_1 < 0 then (impl_MillBinary.j3 kj182 a0 t107 (IntKind.u64.wrap (a1_1)) (IntKind.u64.wrap (a2_1)) (!t144) true a1_0 a1_1 a1_2) else ((impl_bitsOf.f t107).bind fun t146 => (impl_MillBinary.j3 kj182 a0 t107 (IntKind.u64.wrap (a1_1)) (IntKind.u64.wrap (a2_1)) (!t144) (decide ((IntKind.u64.wrap (a2_1)) ≥ (IntKind.u64.wrap (t146)))) a1_0 a1_1 a1_2))))) = some (r1, r2, r3, r4) := by rw [if_pos rfl] at H; exact H
                                      clear H
                                      have H := H1
                                      clear H1
                                      replace H := Option.bind_eq_some_iff.mp H
                                      obtain ⟨t144, A1860, H⟩ := H
                                      replace H : (if t144 = true then ((impl_bitsOf.f t107).bind fun t145 => (impl_MillBinary.j3 kj182 a0 t107 (IntKind.u64.wrap (a1_1)) (IntKind.u64.wrap (a2_1)) (!t144) (decide ((IntKind.u64.wrap (a2_1)) ≥ (IntKind.u64.wrap (t145)))) a1_0 a1_1 a1_2)) else (if a2_1 < 0 then (impl_MillBinary.j3 kj182 a0 t107 (IntKind.u64.wrap (a1_1)) (IntKind.u64.wrap (a2_1)) (!t144) true a1_0 a1_1 a1_2) else ((impl_bitsOf.f t107).bind fun t146 => (impl_MillBinary.j3 kj182 a0 t107 (IntKind.u64.wrap (a1_1)) (IntKind.u64.wrap (a2_1)) (!t144) (decide ((IntKind.u64.wrap (a2_1)) ≥ (IntKind.u64.wrap (t146)))) a1_0 a1_1 a1_2)))) = some (r1, r2, r3, r4) := H
                                      have A186 := Aside0.mk A1860
                                      clear A1860
                                      have HC187 := Aside0.mk H
                                      clear H
                                      go_upto_region 40 with (first | (go_at_call 89; (with_reducible refine (impl_unsignedType.calls t107 t144 _ A186.out).mono ?_); rintro e w' ⟨rfl, ⟨nd, rfl⟩⟩; (try first | exact ⟨rfl, _, World.drewN_drewN _ _ _⟩ | exact ⟨rfl, _, Eq.trans (World.drewN_drewN _ _ _) (congrArg (World.drewN _) (Nat.add_assoc _ _ _))⟩)))
                                      repeat (go_quiet (first | (go_at_call 89; (with_reducible refine (impl_unsignedType.calls t107 t144 _ A186.out).mono ?_); rintro e w' ⟨rfl, ⟨nd, rfl⟩⟩; (try first | exact ⟨rfl, _, World.drewN_drewN _ _ _⟩ | exact ⟨rfl, _, Eq.trans (World.drewN_drewN _ _ _) (congrArg (World.drewN _) (Nat.add_assoc _ _ _))⟩))); go_upto_region 40 with (first | (go_at_call 89; (with_reducible refine (impl_unsignedType.calls t107 t144 _ A186.out).mono ?_); rintro e w' ⟨rfl, ⟨nd, rfl⟩⟩; (try first | exact ⟨rfl, _, World.drewN_drewN _ _ _⟩ | exact ⟨rfl, _, Eq.trans (World.drewN_drewN _ _ _) (congrArg (World.drewN _) (Nat.add_assoc _ _ _))⟩))))
                                      (try simp only [Act.put, List.setIfInBounds_toArray, List.set_cons_zero, List.set_cons_succ])
                                      go_cut [175] (fun v175 wc => ∃ (kq : Nat) (x175_186 : Bool), v175 = .bool x175_186 ∧ Aside0 (impl_MillBinary.j3 kq a0 t107 (IntKind.u64.wrap (a1_1)) (IntKind.u64.wrap (a2_1)) (!t144) x175_186 a1_0 a1_1 a1_2 = some (r1, r2, r3, r4)) ∧ Aside0 (kq ≤ kj182) ∧ Aside0 (wc.heap[gb101]? = some (.cells #[.int .i64 a1_0, .int .i64 a1_1, .string a1_2] 36 (0, 0))) ∧ Aside0 (wc.heap[gb102]? = some (.cells #[.int .i64 a2_0, .int .i64 a2_1, .string a2_2] 36 (0, 0))) ∧ Aside0 (wc.heap[gb103]? = some (.cells #[.int .i64 0, .int .i64 0, .string (⟨#[]⟩ : ByteArray)] 36 (0, 0))) ∧ Aside0 (wc.heap[gb104]? = some (.cells #[.int .i64 0, .int .i64 0, .string (⟨#[]⟩ : ByteArray)] 36 (0, 0))) ∧ Aside0 (Below w.heap.size w wc))
                                      case first =>
                                        have H := HC187.out
                                        clear HC187
                                        by_cases c188 : t144 = true
                                        · subst c188
                                          have H1 : ((impl_bitsOf.f t107).bind fun t145 => (impl_MillBinary.j3 kj182 a0 t107 (IntKind.u64.wrap (a1_1)) (IntKind.u64.wrap (a2_1)) (!true) (decide ((IntKind.u64.wrap (a2_1)) ≥ (IntKind.u64.wrap (t145)))) a1_0 a1_1 a1_2)) = some (r1, r2, r3, r4) := by rw [if_pos rfl] at H; exact H
                                          clear H
                                          have H := H1
                                          clear H1
                                          replace H := Option.bind_eq_some_iff.mp H
                                          obtain ⟨t145, A1890, H⟩ := H
                                          replace H : (impl_MillBinary.j3 kj182 a0 t107 (IntKind.u64.wrap (a1_1)) (IntKind.u64.wrap (a2_1)) (!true) (decide ((IntKind.u64.wrap (a2_1)) ≥ (IntKind.u64.wrap (t145)))) a1_0 a1_1 a1_2) = some (r1, r2, r3, r4) := H
                                          have A189 := Aside0.mk A1890
                                          clear A1890
                                          have H' := Aside0.mk H
                                          clear H
                                          as_aux_lemma =>
                                            go_wp2_with (first | (go_at_call 90; (with_reducible refine (impl_bitsOf.calls t107 t145 _ A189.out).mono ?_); rintro e w' ⟨rfl, ⟨nd, rfl⟩⟩; (try first | exact ⟨rfl, _, World.drewN_drewN _ _ _⟩ | exact ⟨rfl, _, Eq.trans (World.drewN_drewN _ _ _) (congrArg (World.drewN _) (Nat.add_assoc _ _ _))⟩)))
                                            repeat (go_quiet (first | (go_at_call 90; (with_reducible refine (impl_bitsOf.calls t107 t145 _ A189.out).mono ?_); rintro e w' ⟨rfl, ⟨nd, rfl⟩⟩; (try first | exact ⟨rfl, _, World.drewN_drewN _ _ _⟩ | exact ⟨rfl, _, Eq.trans (World.drewN_drewN _ _ _) (congrArg (World.drewN _) (Nat.add_assoc _ _ _))⟩))); try go_wp2_with (first | (go_at_call 90; (with_reducible refine (impl_bitsOf.calls t107 t145 _ A189.out).mono ?_); rintro e w' ⟨rfl, ⟨nd, rfl⟩⟩; (try first | exact ⟨rfl, _, World.drewN_drewN _ _ _⟩ | exact ⟨rfl, _, Eq.trans (World.drewN_drewN _ _ _) (congrArg (World.drewN _) (Nat.add_assoc _ _ _))⟩))))
                                            go_meet
                                            case rel => exact ⟨_, (decide ((IntKind.u64.wrap (a2_1)) ≥ (IntKind.u64.wrap (t145)))), (by first | rfl | (simp; done) | (simp [*]; done)), H', ⟨by have := HJ3.out; have := HJ83.out; have := HJ182.out; first | omega | exact Nat.le_refl _⟩, ⟨kp BK101⟩, ⟨kp BK102⟩, ⟨kp BK103⟩, ⟨kp BK104⟩, ⟨kb HB⟩⟩
                                        · replace c188 := Bool.eq_false_iff.mpr c188
                                          subst c188
                                          have H1 : (if a2_1 < 0 then (impl_MillBinary.j3 kj182 a0 t107 (IntKind.u64.wrap (a1_1)) (IntKind.u64.wrap (a2_1)) (!false) true a1_0 a1_1 a1_2) else ((impl_bitsOf.f t107).bind fun t146 => (impl_MillBinary.j3 kj182 a0 t107 (IntKind.u64.wrap (a1_1)) (IntKind.u64.wrap (a2_1)) (!false) (decide ((IntKind.u64.wrap (a2_1)) ≥ (IntKind.u64.wrap (t146)))) a1_0 a1_1 a1_2))) = some (r1, r2, r3, r4) := by rw [if_neg (show ¬ (false = true) by decide)] at H; exact H
                                          clear H
                                          have H := H1
                                          clear H1
                                          by_cases c190 : a2_1 < 0
                                          · rw [if_pos c190] at H
                                            have c190b0 : decide (a2_1 < 0) = true := decide_eq_true c190
                                            clear c190
                                            (first | rw [c190b0] | (simp only [i64_w, i32_w]; rw [c190b0]) | skip)
                                            have H' := Aside0.mk H
                                            clear H
                                            have hnb191 := NB102_101.out
                                            have hnc191 := NB101_102.out
                                            have hnb192 := NB102_103.out
                                            have hnc192 := NB103_102.out
                                            have hnb193 := NB102_104.out
                                            have hnc193 := NB104_102.out
                                            obtain ⟨⟨hcz194_0, hcz194_1, hcz194_2⟩, hfz194_0, hfz194_1, hfz194_2⟩ := bf3 BK102
                                            as_aux_lemma =>
                                              go_wp2
                                              repeat (go_quiet (fail); try go_wp2)
                                              go_meet
                                              case rel => exact ⟨_, (true), (by first | rfl | (simp; done) | (simp [*]; done)), H', ⟨by have := HJ3.out; have := HJ83.out; have := HJ182.out; first | omega | exact Nat.le_refl _⟩, ⟨kp BK101⟩, ⟨kp BK102⟩, ⟨kp BK103⟩, ⟨kp BK104⟩, ⟨kb HB⟩⟩
                                          · rw [if_neg c190] at H
                                            have c190b0 : decide (a2_1 < 0) = false := decide_eq_false c190
                                            clear c190
                                            (first | rw [c190b0] | (simp only [i64_w, i32_w]; rw [c190b0]) | skip)
                                            replace H := Option.bind_eq_some_iff.mp H
                                            obtain ⟨t146, A1950, H⟩ := H
                                            replace H : (impl_MillBinary.j3 kj182 a0 t107 (IntKind.u64.wrap (a1_1)) (IntKind.u64.wrap (a2_1)) (!false) (decide ((IntKind.u64.wrap (a2_1)) ≥ (IntKind.u64.wrap (t146)))) a1_0 a1_1 a1_2) = some (r1, r2, r3, r4) := H
                                            have A195 := Aside0.mk A1950
                                            clear A1950
                                            have H' := Aside0.mk H
                                            clear H
                                            have hnb196 := NB102_101.out
                                            have hnc196 := NB101_102.out
                                            have hnb197 := NB102_103.out
                                            have hnc197 := NB103_102.out
                                            have hnb198 := NB102_104.out
                                            have hnc198 := NB104_102.out
                                            obtain ⟨⟨hcz199_0, hcz199_1, hcz199_2⟩, hfz199_0, hfz199_1, hfz199_2⟩ := bf3 BK102
                                            as_aux_lemma =>
                                              go_wp2_with (first | (go_at_call 90; (with_reducible refine (impl_bitsOf.calls t107 t146 _ A195.out).mono ?_); rintro e w' ⟨rfl, ⟨nd, rfl⟩⟩; (try first | exact ⟨rfl, _, World.drewN_drewN _ _ _⟩ | exact ⟨rfl, _, Eq.trans (World.drewN_drewN _ _ _) (congrArg (World.drewN _) (Nat.add_assoc _ _ _))⟩)))
                                              repeat (go_quiet (first | (go_at_call 90; (with_reducible refine (impl_bitsOf.calls t107 t146 _ A195.out).mono ?_); rintro e w' ⟨rfl, ⟨nd, rfl⟩⟩; (try first | exact ⟨rfl, _, World.drewN_drewN _ _ _⟩ | exact ⟨rfl, _, Eq.trans (World.drewN_drewN _ _ _) (congrArg (World.drewN _) (Nat.add_assoc _ _ _))⟩))); try go_wp2_with (first | (go_at_call 90; (with_reducible refine (impl_bitsOf.calls t107 t146 _ A195.out).mono ?_); rintro e w' ⟨rfl, ⟨nd, rfl⟩⟩; (try first | exact ⟨rfl, _, World.drewN_drewN _ _ _⟩ | exact ⟨rfl, _, Eq.trans (World.drewN_drewN _ _ _) (congrArg (World.drewN _) (Nat.add_assoc _ _ _))⟩))))
                                              go_meet
                                              case rel => exact ⟨_, (decide ((IntKind.u64.wrap (a2_1)) ≥ (IntKind.u64.wrap (t146)))), (by first | rfl | (simp; done) | (simp [*]; done)), H', ⟨by have := HJ3.out; have := HJ83.out; have := HJ182.out; first | omega | exact Nat.le_refl _⟩, ⟨kp BK101⟩, ⟨kp BK102⟩, ⟨kp BK103⟩, ⟨kp BK104⟩, ⟨kb HB⟩⟩
                                      case rest =>
                                        clear HC187
                                        obtain ⟨kq, x175_186, rfl, HA, HJ186, BK101, BK102, BK103, BK104, HB⟩ := hcut
                                        cases kq with
                                        | zero => exact absurd HA.out (by simp [impl_MillBinary.j3])
                                        | succ kj186 =>
                                          have H := HA.out
                                          clear HA
                                          simp only [impl_MillBinary.j3] at H
                                          by_cases c200 : x175_186 = true
                                          · subst c200
                                            have H1 : (if a0 = 18 then (if (!t144) = true then (impl_MillBinary.j4 kj186 t107 (decide (a1_1 < 0))) else (impl_MillBinary.j4 kj186 t107 false)) else (impl_MillBinary.j4 kj186 t107 false)) = some (r1, r2, r3, r4) := by rw [if_pos rfl] at H; exact H
                                            clear H
                                            have H := H1
                                            clear H1
                                            have HC201 := Aside0.mk H
                                            clear H
                                            go_upto_region 41 with (fail)
                                            repeat (go_quiet (fail); go_upto_region 41 with (fail))
                                            go_cut [185] (fun v185 wc => ∃ (kq : Nat) (x185_200 : Bool), v185 = .bool x185_200 ∧ Aside0 (impl_MillBinary.j4 kq t107 x185_200 = some (r1, r2, r3, r4)) ∧ Aside0 (kq ≤ kj186) ∧ Aside0 (wc.heap[gb101]? = some (.cells #[.int .i64 a1_0, .int .i64 a1_1, .string a1_2] 36 (0, 0))) ∧ Aside0 (wc.heap[gb102]? = some (.cells #[.int .i64 a2_0, .int .i64 a2_1, .string a2_2] 36 (0, 0))) ∧ Aside0 (wc.heap[gb103]? = some (.cells #[.int .i64 0, .int .i64 0, .string (⟨#[]⟩ : ByteArray)] 36 (0, 0))) ∧ Aside0 (wc.heap[gb104]? = some (.cells #[.int .i64 0, .int .i64 0, .string (⟨#[]⟩ : ByteArray)] 36 (0, 0))) ∧ Aside0 (Below w.heap.size w wc))
                                            case first =>
                                              have H := HC201.out
                                              clear HC201
                                              by_cases c202 : a0 = 18
                                              · rw [if_pos c202] at H
                                                have c202b0 : (a0 == 18) = true := beq_iff_eq.mpr c202
                                                have c202b1 : (a0 != 18) = false := bne_eq_false_iff_eq.mpr c202
                                                clear c202
                                                (first | rw [c202b0] | (simp only [i64_w, i32_w]; rw [c202b0]) | skip)
                                                by_cases c203 : (!t144) = true
                                                · rw [if_pos c203] at H
                                                  have c203b0 : (!t144) = true := c203
                                                  clear c203
                                                  have H' := Aside0.mk H
                                                  clear H
                                                  have hnb204 := NB101_102.out
                                                  have hnc204 := NB102_101.out
                                                  have hnb205 := NB101_103.out
                                                  have hnc205 := NB103_101.out
                                                  have hnb206 := NB101_104.out
                                                  have hnc206 := NB104_101.out
                                                  obtain ⟨⟨hcz207_0, hcz207_1, hcz207_2⟩, hfz207_0, hfz207_1, hfz207_2⟩ := bf3 BK101
                                                  as_aux_lemma =>
                                                    go_wp2
                                                    repeat (go_quiet (fail); try go_wp2)
                                                    go_meet
                                                    case rel => exact ⟨_, (decide (a1_1 < 0)), (by first | rfl | (simp; done) | (simp [*]; done)), H', ⟨by have := HJ3.out; have := HJ83.out; have := HJ182.out; have := HJ186.out; first | omega | exact Nat.le_refl _⟩, ⟨kp BK101⟩, ⟨kp BK102⟩, ⟨kp BK103⟩, ⟨kp BK104⟩, ⟨kb HB⟩⟩
                                                · rw [if_neg c203] at H
                                                  have c203b0 : (!t144) = false := by simpa using c203
                                                  clear c203
                                                  have H' := Aside0.mk H
                                                  clear H
                                                  as_aux_lemma =>
                                                    go_wp2
                                                    repeat (go_quiet (fail); try go_wp2)
                                                    go_meet
                                                    case rel => exact ⟨_, (false), (by first | rfl | (simp; done) | (simp [*]; done)), H', ⟨by have := HJ3.out; have := HJ83.out; have := HJ182.out; have := HJ186.out; first | omega | exact Nat.le_refl _⟩, ⟨kp BK101⟩, ⟨kp BK102⟩, ⟨kp BK103⟩, ⟨kp BK104⟩, ⟨kb HB⟩⟩
                                              · rw [if_neg c202] at H
                                                have c202b0 : (a0 == 18) = false := beq_eq_false_iff_ne.mpr c202
                                                have c202b1 : (a0 != 18) = true := bne_iff_ne.mpr c202
                                                (first | rw [c202b0] | (simp only [i64_w, i32_w]; rw [c202b0]) | skip)
                                                have H' := Aside0.mk H
                                                clear H
                                                as_aux_lemma =>
                                                  go_wp2
                                                  repeat (go_quiet (fail); try go_wp2)
                                                  go_meet
                                                  case rel => exact ⟨_, (false), (by first | rfl | (simp; done) | (simp [*]; done)), H', ⟨by have := HJ3.out; have := HJ83.out; have := HJ182.out; have := HJ186.out; first | omega | exact Nat.le_refl _⟩, ⟨kp BK101⟩, ⟨kp BK102⟩, ⟨kp BK103⟩, ⟨kp BK104⟩, ⟨kb HB⟩⟩
                                            case rest =>
                                              clear HC201
                                              obtain ⟨kq, x185_200, rfl, HA, HJ200, BK101, BK102, BK103, BK104, HB⟩ := hcut
                                              cases kq with
                                              | zero => exact absurd HA.out (by simp [impl_MillBinary.j4])
                                              | succ kj200 =>
                                                have H := HA.out
                                                clear HA
                                                simp only [impl_MillBinary.j4] at H
                                                by_cases c208 : x185_200 = true
                                                · subst c208
                                                  have H1 : ((impl_mInt.f t107 18446744073709551615).bind fun bt147 => (some (bt147.1, bt147.2.1, bt147.2.2, (⟨#[]⟩ : ByteArray)))) = some (r1, r2, r3, r4) := by rw [if_pos rfl] at H; exact H
                                                  clear H
                                                  have H := H1
                                                  clear H1
                                                  replace H := Option.bind_eq_some_iff.mp H
                                                  obtain ⟨⟨t147, t148, t149⟩, A2090, H⟩ := H
                                                  replace H : (some (t147, t148, t149, (⟨#[]⟩ : ByteArray))) = some (r1, r2, r3, r4) := H
                                                  have A209 := Aside0.mk A2090
                                                  clear A2090
                                                  simp only [Option.some.injEq, Prod.mk.injEq] at H
                                                  obtain ⟨rfl, rfl, rfl, rfl⟩ := H
                                                  as_aux_lemma =>
                                                    go_wp2_with (first | (go_at_call 57; (with_reducible refine (impl_mInt.calls t107 18446744073709551615 t147 t148 t149 _ A209.out).mono ?_); rintro e w210 ⟨rfl, hb⟩; replace BK101 := kB BK101 hb; replace BK102 := kB BK102 hb; replace BK103 := kB BK103 hb; replace BK104 := kB BK104 hb; replace HB := kS HB hb; have hnb211 := NB103_101.out; have hnc211 := NB101_103.out; have hnb212 := NB103_102.out; have hnc212 := NB102_103.out; have hnb213 := NB103_104.out; have hnc213 := NB104_103.out; obtain ⟨⟨hcz214_0, hcz214_1, hcz214_2⟩, hfz214_0, hfz214_1, hfz214_2⟩ := bf3 BK103))
                                                    repeat (go_quiet (first | (go_at_call 57; (with_reducible refine (impl_mInt.calls t107 18446744073709551615 t147 t148 t149 _ A209.out).mono ?_); rintro e w210 ⟨rfl, hb⟩; replace BK101 := kB BK101 hb; replace BK102 := kB BK102 hb; replace BK103 := kB BK103 hb; replace BK104 := kB BK104 hb; replace HB := kS HB hb; have hnb211 := NB103_101.out; have hnc211 := NB101_103.out; have hnb212 := NB103_102.out; have hnc212 := NB102_103.out; have hnb213 := NB103_104.out; have hnc213 := NB104_103.out; obtain ⟨⟨hcz214_0, hcz214_1, hcz214_2⟩, hfz214_0, hfz214_1, hfz214_2⟩ := bf3 BK103)); try go_wp2_with (first | (go_at_call 57; (with_reducible refine (impl_mInt.calls t107 18446744073709551615 t147 t148 t149 _ A209.out).mono ?_); rintro e w210 ⟨rfl, hb⟩; replace BK101 := kB BK101 hb; replace BK102 := kB BK102 hb; replace BK103 := kB BK103 hb; replace BK104 := kB BK104 hb; replace HB := kS HB hb; have hnb211 := NB103_101.out; have hnc211 := NB101_103.out; have hnb212 := NB103_102.out; have hnc212 := NB102_103.out; have hnb213 := NB103_104.out; have hnc213 := NB104_103.out; obtain ⟨⟨hcz214_0, hcz214_1, hcz214_2⟩, hfz214_0, hfz214_1, hfz214_2⟩ := bf3 BK103)))
                                                    refine bodyPost_ret (results_ct rfl _ _ gb103 36 #[.int .i64 t147, .int .i64 t148, .string t149] (0, 0) _ rfl (by (with_reducible repeat (first | refine blk_drewN ?_ _ | refine blk_drew ?_ | refine blk_alloc ?_ _)); refine blk_put (cs := #[.int .i64 t147, .int .i64 t148, .string (⟨#[]⟩ : ByteArray)]) ?_ 2 _ rfl; (with_reducible repeat (first | refine blk_drewN ?_ _ | refine blk_drew ?_ | refine blk_alloc ?_ _)); refine blk_put (cs := #[.int .i64 t147, .int .i64 0, .string (⟨#[]⟩ : ByteArray)]) ?_ 1 _ rfl; (with_reducible repeat (first | refine blk_drewN ?_ _ | refine blk_drew ?_ | refine blk_alloc ?_ _)); refine blk_put (cs := #[.int .i64 0, .int .i64 0, .string (⟨#[]⟩ : ByteArray)]) ?_ 0 _ rfl; (with_reducible repeat (first | refine blk_drewN ?_ _ | refine blk_drew ?_ | refine blk_alloc ?_ _)); exact BK103.out) Try.underlying36 rfl (by kernel_rfl)) rfl ?_
                                                    exact ⟨by first | rfl | (simp [errW_none, errW_some] <;> rfl) | (simp [*, errW_none, errW_some] <;> rfl), kb HB⟩
                                                · replace c208 := Bool.eq_false_iff.mpr c208
                                                  subst c208
                                                  have H1 : ((impl_mInt.f t107 0).bind fun bt150 => (some (bt150.1, bt150.2.1, bt150.2.2, (⟨#[]⟩ : ByteArray)))) = some (r1, r2, r3, r4) := by rw [if_neg (show ¬ (false = true) by decide)] at H; exact H
                                                  clear H
                                                  have H := H1
                                                  clear H1
                                                  replace H := Option.bind_eq_some_iff.mp H
                                                  obtain ⟨⟨t150, t151, t152⟩, A2150, H⟩ := H
                                                  replace H : (some (t150, t151, t152, (⟨#[]⟩ : ByteArray))) = some (r1, r2, r3, r4) := H
                                                  have A215 := Aside0.mk A2150
                                                  clear A2150
                                                  simp only [Option.some.injEq, Prod.mk.injEq] at H
                                                  obtain ⟨rfl, rfl, rfl, rfl⟩ := H
                                                  as_aux_lemma =>
                                                    go_wp2_with (first | (go_at_call 57; (with_reducible refine (impl_mInt.calls t107 0 t150 t151 t152 _ A215.out).mono ?_); rintro e w216 ⟨rfl, hb⟩; replace BK101 := kB BK101 hb; replace BK102 := kB BK102 hb; replace BK103 := kB BK103 hb; replace BK104 := kB BK104 hb; replace HB := kS HB hb; have hnb217 := NB103_101.out; have hnc217 := NB101_103.out; have hnb218 := NB103_102.out; have hnc218 := NB102_103.out; have hnb219 := NB103_104.out; have hnc219 := NB104_103.out; obtain ⟨⟨hcz220_0, hcz220_1, hcz220_2⟩, hfz220_0, hfz220_1, hfz220_2⟩ := bf3 BK103))
                                                    repeat (go_quiet (first | (go_at_call 57; (with_reducible refine (impl_mInt.calls t107 0 t150 t151 t152 _ A215.out).mono ?_); rintro e w216 ⟨rfl, hb⟩; replace BK101 := kB BK101 hb; replace BK102 := kB BK102 hb; replace BK103 := kB BK103 hb; replace BK104 := kB BK104 hb; replace HB := kS HB hb; have hnb217 := NB103_101.out; have hnc217 := NB101_103.out; have hnb218 := NB103_102.out; have hnc218 := NB102_103.out; have hnb219 := NB103_104.out; have hnc219 := NB104_103.out; obtain ⟨⟨hcz220_0, hcz220_1, hcz220_2⟩, hfz220_0, hfz220_1, hfz220_2⟩ := bf3 BK103)); try go_wp2_with (first | (go_at_call 57; (with_reducible refine (impl_mInt.calls t107 0 t150 t151 t152 _ A215.out).mono ?_); rintro e w216 ⟨rfl, hb⟩; replace BK101 := kB BK101 hb; replace BK102 := kB BK102 hb; replace BK103 := kB BK103 hb; replace BK104 := kB BK104 hb; replace HB := kS HB hb; have hnb217 := NB103_101.out; have hnc217 := NB101_103.out; have hnb218 := NB103_102.out; have hnc218 := NB102_103.out; have hnb219 := NB103_104.out; have hnc219 := NB104_103.out; obtain ⟨⟨hcz220_0, hcz220_1, hcz220_2⟩, hfz220_0, hfz220_1, hfz220_2⟩ := bf3 BK103)))
                                                    refine bodyPost_ret (results_ct rfl _ _ gb103 36 #[.int .i64 t150, .int .i64 t151, .string t152] (0, 0) _ rfl (by (with_reducible repeat (first | refine blk_drewN ?_ _ | refine blk_drew ?_ | refine blk_alloc ?_ _)); refine blk_put (cs := #[.int .i64 t150, .int .i64 t151, .string (⟨#[]⟩ : ByteArray)]) ?_ 2 _ rfl; (with_reducible repeat (first | refine blk_drewN ?_ _ | refine blk_drew ?_ | refine blk_alloc ?_ _)); refine blk_put (cs := #[.int .i64 t150, .int .i64 0, .string (⟨#[]⟩ : ByteArray)]) ?_ 1 _ rfl; (with_reducible repeat (first | refine blk_drewN ?_ _ | refine blk_drew ?_ | refine blk_alloc ?_ _)); refine blk_put (cs := #[.int .i64 0, .int .i64 0, .string (⟨#[]⟩ : ByteArray)]) ?_ 0 _ rfl; (with_reducible repeat (first | refine blk_drewN ?_ _ | refine blk_drew ?_ | refine blk_alloc ?_ _)); exact BK103.out) Try.underlying36 rfl (by kernel_rfl)) rfl ?_
                                                    exact ⟨by first | rfl | (simp [errW_none, errW_some] <;> rfl) | (simp [*, errW_none, errW_some] <;> rfl), kb HB⟩
                                          · replace c200 := Bool.eq_false_iff.mpr c200
                                            subst c200
                                            have H1 : (if a0 = 17 then (if 0 ≤ (IntKind.u64.wrap (a2_1)) then ((impl_mInt.f t107 (shl .u64 (IntKind.u64.wrap (a1_1)) (IntKind.u64.wrap (a2_1)))).bind fun bt153 => (some (bt153.1, bt153.2.1, bt153.2.2, (⟨#[]⟩ : ByteArray)))) else (none)) else (if (!t144) = true then (if 0 ≤ (IntKind.u64.wrap (a2_1)) then ((impl_mInt.f t107 (IntKind.u64.wrap (shr .i64 a1_1 (IntKind.u64.wrap (a2_1))))).bind fun bt156 => (some (bt156.1, bt156.2.1, bt156.2.2, (⟨#[]⟩ : ByteArray)))) else (none)) else (if 0 ≤ (IntKind.u64.wrap (a2_1)) then ((impl_mInt.f t107 (shr .u64 (IntKind.u64.wrap (a1_1)) (IntKind.u64.wrap (a2_1)))).bind fun bt159 => (some (bt159.1, bt159.2.1, bt159.2.2, (⟨#[]⟩ : ByteArray)))) else (none)))) = some (r1, r2, r3, r4) := by rw [if_neg (show ¬ (false = true) by decide)] at H; exact H
                                            clear H
                                            have H := H1
                                            clear H1
                                            by_cases c221 : a0 = 17
                                            · rw [if_pos c221] at H
                                              have c221b0 : (a0 == 17) = true := beq_iff_eq.mpr c221
                                              have c221b1 : (a0 != 17) = false := bne_eq_false_iff_eq.mpr c221
                                              clear c221
                                              obtain ⟨ji222, hji222⟩ : ∃ j_ : Int, (IntKind.u64.wrap (a2_1)) = j_ := ⟨_, rfl⟩
                                              replace H : (if 0 ≤ (ji222) then ((impl_mInt.f t107 (shl .u64 (IntKind.u64.wrap (a1_1)) (ji222))).bind fun bt153 => (some (bt153.1, bt153.2.1, bt153.2.2, (⟨#[]⟩ : ByteArray)))) else (none)) = some (r1, r2, r3, r4) := by first | (rw [hji222] at H; exact H) | (simp only [hji222] at H ⊢; exact H)
                                              by_cases c223 : 0 ≤ (ji222)
                                              · rw [if_pos c223] at H
                                                have c223b0 := eq_true c223
                                                have c223b1 : decide (0 ≤ (ji222)) = true := decide_eq_true c223
                                                clear c223
                                                obtain ⟨ji224, hji224⟩ : ∃ j_ : Int, (shl .u64 (IntKind.u64.wrap (a1_1)) (ji222)) = j_ := ⟨_, rfl⟩
                                                replace H : ((impl_mInt.f t107 (ji224)).bind fun bt153 => (some (bt153.1, bt153.2.1, bt153.2.2, (⟨#[]⟩ : ByteArray)))) = some (r1, r2, r3, r4) := by first | (rw [hji224] at H; exact H) | (simp only [hji224] at H ⊢; exact H)
                                                have hji224_ : (IntKind.u64.wrap ((IntKind.u64.wrap (a1_1)) * 2 ^ min (ji222).toNat 64)) = ji224 := hji224
                                                have hji224z : (ji222) ≤ 64 → (IntKind.u64.wrap ((IntKind.u64.wrap (a1_1)) * 2 ^ (ji222).toNat)) = ji224 := shl_small hji224
                                                replace H := Option.bind_eq_some_iff.mp H
                                                obtain ⟨⟨t153, t154, t155⟩, A2250, H⟩ := H
                                                replace H : (some (t153, t154, t155, (⟨#[]⟩ : ByteArray))) = some (r1, r2, r3, r4) := H
                                                have A225 := Aside0.mk A2250
                                                clear A2250
                                                simp only [Option.some.injEq, Prod.mk.injEq] at H
                                                obtain ⟨rfl, rfl, rfl, rfl⟩ := H
                                                as_aux_lemma =>
                                                  go_wp2_with (first | (go_at_call 57; (with_reducible refine (impl_mInt.calls t107 ji224 t153 t154 t155 _ A225.out).mono ?_); rintro e w226 ⟨rfl, hb⟩; replace BK101 := kB BK101 hb; replace BK102 := kB BK102 hb; replace BK103 := kB BK103 hb; replace BK104 := kB BK104 hb; replace HB := kS HB hb; have hnb227 := NB103_101.out; have hnc227 := NB101_103.out; have hnb228 := NB103_102.out; have hnc228 := NB102_103.out; have hnb229 := NB103_104.out; have hnc229 := NB104_103.out; obtain ⟨⟨hcz230_0, hcz230_1, hcz230_2⟩, hfz230_0, hfz230_1, hfz230_2⟩ := bf3 BK103))
                                                  repeat (go_quiet (first | (go_at_call 57; (with_reducible refine (impl_mInt.calls t107 ji224 t153 t154 t155 _ A225.out).mono ?_); rintro e w226 ⟨rfl, hb⟩; replace BK101 := kB BK101 hb; replace BK102 := kB BK102 hb; replace BK103 := kB BK103 hb; replace BK104 := kB BK104 hb; replace HB := kS HB hb; have hnb227 := NB103_101.out; have hnc227 := NB101_103.out; have hnb228 := NB103_102.out; have hnc228 := NB102_103.out; have hnb229 := NB103_104.out; have hnc229 := NB104_103.out; obtain ⟨⟨hcz230_0, hcz230_1, hcz230_2⟩, hfz230_0, hfz230_1, hfz230_2⟩ := bf3 BK103)); try go_wp2_with (first | (go_at_call 57; (with_reducible refine (impl_mInt.calls t107 ji224 t153 t154 t155 _ A225.out).mono ?_); rintro e w226 ⟨rfl, hb⟩; replace BK101 := kB BK101 hb; replace BK102 := kB BK102 hb; replace BK103 := kB BK103 hb; replace BK104 := kB BK104 hb; replace HB := kS HB hb; have hnb227 := NB103_101.out; have hnc227 := NB101_103.out; have hnb228 := NB103_102.out; have hnc228 := NB102_103.out; have hnb229 := NB103_104.out; have hnc229 := NB104_103.out; obtain ⟨⟨hcz230_0, hcz230_1, hcz230_2⟩, hfz230_0, hfz230_1, hfz230_2⟩ := bf3 BK103)))
                                                  refine bodyPost_ret (results_ct rfl _ _ gb103 36 #[.int .i64 t153, .int .i64 t154, .string t155] (0, 0) _ rfl (by (with_reducible repeat (first | refine blk_drewN ?_ _ | refine blk_drew ?_ | refine blk_alloc ?_ _)); refine blk_put (cs := #[.int .i64 t153, .int .i64 t154, .string (⟨#[]⟩ : ByteArray)]) ?_ 2 _ rfl; (with_reducible repeat (first | refine blk_drewN ?_ _ | refine blk_drew ?_ | refine blk_alloc ?_ _)); refine blk_put (cs := #[.int .i64 t153, .int .i64 0, .string (⟨#[]⟩ : ByteArray)]) ?_ 1 _ rfl; (with_reducible repeat (first | refine blk_drewN ?_ _ | refine blk_drew ?_ | refine blk_alloc ?_ _)); refine blk_put (cs := #[.int .i64 0, .int .i64 0, .string (⟨#[]⟩ : ByteArray)]) ?_ 0 _ rfl; (with_reducible repeat (first | refine blk_drewN ?_ _ | refine blk_drew ?_ | refine blk_alloc ?_ _)); exact BK103.out) Try.underlying36 rfl (by kernel_rfl)) rfl ?_
                                                  exact ⟨by first | rfl | (simp [errW_none, errW_some] <;> rfl) | (simp only [← hji222, ← hji224]; first | rfl | (simp [errW_none, errW_some] <;> rfl)) | (simp [*, errW_none, errW_some] <;> rfl), kb HB⟩
                                              · rw [if_neg c223] at H
                                                exact absurd H (by simp)
                                            · rw [if_neg c221] at H
                                              have c221b0 : (a0 == 17) = false := beq_eq_false_iff_ne.mpr c221
                                              have c221b1 : (a0 != 17) = true := bne_iff_ne.mpr c221
                                              by_cases c231 : (!t144) = true
                                              · rw [if_pos c231] at H
                                                have c231b0 : (!t144) = true := c231
                                                clear c231
                                                obtain rfl : t144 = false := by simpa using c231b0
                                                obtain ⟨ji232, hji232⟩ : ∃ j_ : Int, (IntKind.u64.wrap (a2_1)) = j_ := ⟨_, rfl⟩
                                                replace H : (if 0 ≤ (ji232) then ((impl_mInt.f t107 (IntKind.u64.wrap (shr .i64 a1_1 (ji232)))).bind fun bt156 => (some (bt156.1, bt156.2.1, bt156.2.2, (⟨#[]⟩ : ByteArray)))) else (none)) = some (r1, r2, r3, r4) := by first | (rw [hji232] at H; exact H) | (simp only [hji232] at H ⊢; exact H)
                                                by_cases c233 : 0 ≤ (ji232)
                                                · rw [if_pos c233] at H
                                                  have c233b0 := eq_true c233
                                                  have c233b1 : decide (0 ≤ (ji232)) = true := decide_eq_true c233
                                                  clear c233
                                                  obtain ⟨ji234, hji234⟩ : ∃ j_ : Int, (shr .i64 a1_1 (ji232)) = j_ := ⟨_, rfl⟩
                                                  replace H : ((impl_mInt.f t107 (IntKind.u64.wrap (ji234))).bind fun bt156 => (some (bt156.1, bt156.2.1, bt156.2.2, (⟨#[]⟩ : ByteArray)))) = some (r1, r2, r3, r4) := by first | (rw [hji234] at H; exact H) | (simp only [hji234] at H ⊢; exact H)
                                                  have hji234_ : (a1_1 / 2 ^ min (ji232).toNat 64) = ji234 := hji234
                                                  have hji234z : (ji232) ≤ 64 → (a1_1 / 2 ^ (ji232).toNat) = ji234 := shr_small hji234
                                                  replace H := Option.bind_eq_some_iff.mp H
                                                  obtain ⟨⟨t156, t157, t158⟩, A2350, H⟩ := H
                                                  replace H : (some (t156, t157, t158, (⟨#[]⟩ : ByteArray))) = some (r1, r2, r3, r4) := H
                                                  have A235 := Aside0.mk A2350
                                                  clear A2350
                                                  simp only [Option.some.injEq, Prod.mk.injEq] at H
                                                  obtain ⟨rfl, rfl, rfl, rfl⟩ := H
                                                  have hnb236 := NB101_102.out
                                                  have hnc236 := NB102_101.out
                                                  have hnb237 := NB101_103.out
                                                  have hnc237 := NB103_101.out
                                                  have hnb238 := NB101_104.out
                                                  have hnc238 := NB104_101.out
                                                  obtain ⟨⟨hcz239_0, hcz239_1, hcz239_2⟩, hfz239_0, hfz239_1, hfz239_2⟩ := bf3 BK101
                                                  as_aux_lemma =>
                                                    go_wp2_with (first | (go_at_call 57; (with_reducible refine (impl_mInt.calls t107 (IntKind.u64.wrap (ji234)) t156 t157 t158 _ A235.out).mono ?_); rintro e w240 ⟨rfl, hb⟩; replace BK101 := kB BK101 hb; replace BK102 := kB BK102 hb; replace BK103 := kB BK103 hb; replace BK104 := kB BK104 hb; replace HB := kS HB hb; have hnb241 := NB103_102.out; have hnc241 := NB102_103.out; have hnb242 := NB103_104.out; have hnc242 := NB104_103.out; obtain ⟨⟨hcz243_0, hcz243_1, hcz243_2⟩, hfz243_0, hfz243_1, hfz243_2⟩ := bf3 BK103))
                                                    repeat (go_quiet (first | (go_at_call 57; (with_reducible refine (impl_mInt.calls t107 (IntKind.u64.wrap (ji234)) t156 t157 t158 _ A235.out).mono ?_); rintro e w240 ⟨rfl, hb⟩; replace BK101 := kB BK101 hb; replace BK102 := kB BK102 hb; replace BK103 := kB BK103 hb; replace BK104 := kB BK104 hb; replace HB := kS HB hb; have hnb241 := NB103_102.out; have hnc241 := NB102_103.out; have hnb242 := NB103_104.out; have hnc242 := NB104_103.out; obtain ⟨⟨hcz243_0, hcz243_1, hcz243_2⟩, hfz243_0, hfz243_1, hfz243_2⟩ := bf3 BK103)); try go_wp2_with (first | (go_at_call 57; (with_reducible refine (impl_mInt.calls t107 (IntKind.u64.wrap (ji234)) t156 t157 t158 _ A235.out).mono ?_); rintro e w240 ⟨rfl, hb⟩; replace BK101 := kB BK101 hb; replace BK102 := kB BK102 hb; replace BK103 := kB BK103 hb; replace BK104 := kB BK104 hb; replace HB := kS HB hb; have hnb241 := NB103_102.out; have hnc241 := NB102_103.out; have hnb242 := NB103_104.out; have hnc242 := NB104_103.out; obtain ⟨⟨hcz243_0, hcz243_1, hcz243_2⟩, hfz243_0, hfz243_1, hfz243_2⟩ := bf3 BK103)))
                                                    refine bodyPost_ret (results_ct rfl _ _ gb103 36 #[.int .i64 t156, .int .i64 t157, .string t158] (0, 0) _ rfl (by (with_reducible repeat (first | refine blk_drewN ?_ _ | refine blk_drew ?_ | refine blk_alloc ?_ _)); refine blk_put (cs := #[.int .i64 t156, .int .i64 t157, .string (⟨#[]⟩ : ByteArray)]) ?_ 2 _ rfl; (with_reducible repeat (first | refine blk_drewN ?_ _ | refine blk_drew ?_ | refine blk_alloc ?_ _)); refine blk_put (cs := #[.int .i64 t156, .int .i64 0, .string (⟨#[]⟩ : ByteArray)]) ?_ 1 _ rfl; (with_reducible repeat (first | refine blk_drewN ?_ _ | refine blk_drew ?_ | refine blk_alloc ?_ _)); refine blk_put (cs := #[.int .i64 0, .int .i64 0, .string (⟨#[]⟩ : ByteArray)]) ?_ 0 _ rfl; (with_reducible repeat (first | refine blk_drewN ?_ _ | refine blk_drew ?_ | refine blk_alloc ?_ _)); exact BK103.out) Try.underlying36 rfl (by kernel_rfl)) rfl ?_
                                                    exact ⟨by first | rfl | (simp [errW_none, errW_some] <;> rfl) | (simp only [← hji232, ← hji234]; first | rfl | (simp [errW_none, errW_some] <;> rfl)) | (simp [*, errW_none, errW_some] <;> rfl), kb HB⟩
                                                · rw [if_neg c233] at H
                                                  exact absurd H (by simp)
                                              · rw [if_neg c231] at H
                                                have c231b0 : (!t144) = false := by simpa using c231
                                                clear c231
                                                obtain rfl : t144 = true := by simpa using c231b0
                                                obtain ⟨ji244, hji244⟩ : ∃ j_ : Int, (IntKind.u64.wrap (a2_1)) = j_ := ⟨_, rfl⟩
                                                replace H : (if 0 ≤ (ji244) then ((impl_mInt.f t107 (shr .u64 (IntKind.u64.wrap (a1_1)) (ji244))).bind fun bt159 => (some (bt159.1, bt159.2.1, bt159.2.2, (⟨#[]⟩ : ByteArray)))) else (none)) = some (r1, r2, r3, r4) := by first | (rw [hji244] at H; exact H) | (simp only [hji244] at H ⊢; exact H)
                                                by_cases c245 : 0 ≤ (ji244)
                                                · rw [if_pos c245] at H
                                                  have c245b0 := eq_true c245
                                                  have c245b1 : decide (0 ≤ (ji244)) = true := decide_eq_true c245
                                                  clear c245
                                                  obtain ⟨ji246, hji246⟩ : ∃ j_ : Int, (shr .u64 (IntKind.u64.wrap (a1_1)) (ji244)) = j_ := ⟨_, rfl⟩
                                                  replace H : ((impl_mInt.f t107 (ji246)).bind fun bt159 => (some (bt159.1, bt159.2.1, bt159.2.2, (⟨#[]⟩ : ByteArray)))) = some (r1, r2, r3, r4) := by first | (rw [hji246] at H; exact H) | (simp only [hji246] at H ⊢; exact H)
                                                  have hji246_ : ((IntKind.u64.wrap (a1_1)) / 2 ^ min (ji244).toNat 64) = ji246 := hji246
                                                  have hji246z : (ji244) ≤ 64 → ((IntKind.u64.wrap (a1_1)) / 2 ^ (ji244).toNat) = ji246 := shr_small hji246
                                                  replace H := Option.bind_eq_some_iff.mp H
                                                  obtain ⟨⟨t159, t160, t161⟩, A2470, H⟩ := H
                                                  replace H : (some (t159, t160, t161, (⟨#[]⟩ : ByteArray))) = some (r1, r2, r3, r4) := H
                                                  have A247 := Aside0.mk A2470
                                                  clear A2470
                                                  simp only [Option.some.injEq, Prod.mk.injEq] at H
                                                  obtain ⟨rfl, rfl, rfl, rfl⟩ := H
                                                  as_aux_lemma =>
                                                    go_wp2_with (first | (go_at_call 57; (with_reducible refine (impl_mInt.calls t107 ji246 t159 t160 t161 _ A247.out).mono ?_); rintro e w248 ⟨rfl, hb⟩; replace BK101 := kB BK101 hb; replace BK102 := kB BK102 hb; replace BK103 := kB BK103 hb; replace BK104 := kB BK104 hb; replace HB := kS HB hb; have hnb249 := NB103_101.out; have hnc249 := NB101_103.out; have hnb250 := NB103_102.out; have hnc250 := NB102_103.out; have hnb251 := NB103_104.out; have hnc251 := NB104_103.out; obtain ⟨⟨hcz252_0, hcz252_1, hcz252_2⟩, hfz252_0, hfz252_1, hfz252_2⟩ := bf3 BK103))
                                                    repeat (go_quiet (first | (go_at_call 57; (with_reducible refine (impl_mInt.calls t107 ji246 t159 t160 t161 _ A247.out).mono ?_); rintro e w248 ⟨rfl, hb⟩; replace BK101 := kB BK101 hb; replace BK102 := kB BK102 hb; replace BK103 := kB BK103 hb; replace BK104 := kB BK104 hb; replace HB := kS HB hb; have hnb249 := NB103_101.out; have hnc249 := NB101_103.out; have hnb250 := NB103_102.out; have hnc250 := NB102_103.out; have hnb251 := NB103_104.out; have hnc251 := NB104_103.out; obtain ⟨⟨hcz252_0, hcz252_1, hcz252_2⟩, hfz252_0, hfz252_1, hfz252_2⟩ := bf3 BK103)); try go_wp2_with (first | (go_at_call 57; (with_reducible refine (impl_mInt.calls t107 ji246 t159 t160 t161 _ A247.out).mono ?_); rintro e w248 ⟨rfl, hb⟩; replace BK101 := kB BK101 hb; replace BK102 := kB BK102 hb; replace BK103 := kB BK103 hb; replace BK104 := kB BK104 hb; replace HB := kS HB hb; have hnb249 := NB103_101.out; have hnc249 := NB101_103.out; have hnb250 := NB103_102.out; have hnc250 := NB102_103.out; have hnb251 := NB103_104.out; have hnc251 := NB104_103.out; obtain ⟨⟨hcz252_0, hcz252_1, hcz252_2⟩, hfz252_0, hfz252_1, hfz252_2⟩ := bf3 BK103)))
                                                    refine bodyPost_ret (results_ct rfl _ _ gb103 36 #[.int .i64 t159, .int .i64 t160, .string t161] (0, 0) _ rfl (by (with_reducible repeat (first | refine blk_drewN ?_ _ | refine blk_drew ?_ | refine blk_alloc ?_ _)); refine blk_put (cs := #[.int .i64 t159, .int .i64 t160, .string (⟨#[]⟩ : ByteArray)]) ?_ 2 _ rfl; (with_reducible repeat (first | refine blk_drewN ?_ _ | refine blk_drew ?_ | refine blk_alloc ?_ _)); refine blk_put (cs := #[.int .i64 t159, .int .i64 0, .string (⟨#[]⟩ : ByteArray)]) ?_ 1 _ rfl; (with_reducible repeat (first | refine blk_drewN ?_ _ | refine blk_drew ?_ | refine blk_alloc ?_ _)); refine blk_put (cs := #[.int .i64 0, .int .i64 0, .string (⟨#[]⟩ : ByteArray)]) ?_ 0 _ rfl; (with_reducible repeat (first | refine blk_drewN ?_ _ | refine blk_drew ?_ | refine blk_alloc ?_ _)); exact BK103.out) Try.underlying36 rfl (by kernel_rfl)) rfl ?_
                                                    exact ⟨by first | rfl | (simp [errW_none, errW_some] <;> rfl) | (simp only [← hji244, ← hji246]; first | rfl | (simp [errW_none, errW_some] <;> rfl)) | (simp [*, errW_none, errW_some] <;> rfl), kb HB⟩
                                                · rw [if_neg c245] at H
                                                  exact absurd H (by simp)
                                    · exact absurd HX157.out c185
        · replace c59 := Bool.eq_false_iff.mpr c59
          subst c59
          have H1 : (some (0, 0, (⟨#[]⟩ : ByteArray), (⟨#[116, 121, 112, 101]⟩ : ByteArray))) = some (r1, r2, r3, r4) := by rw [if_neg (show ¬ (false = true) by decide)] at H; exact H
          clear H
          have H := H1
          clear H1
          simp only [Option.some.injEq, Prod.mk.injEq] at H
          obtain ⟨rfl, rfl, rfl, rfl⟩ := H
          have hnb329 := NB101_102.out
          have hnc329 := NB102_101.out
          have hnb330 := NB101_103.out
          have hnc330 := NB103_101.out
          have hnb331 := NB101_104.out
          have hnc331 := NB104_101.out
          obtain ⟨⟨hcz332_0, hcz332_1, hcz332_2⟩, hfz332_0, hfz332_1, hfz332_2⟩ := bf3 BK101
          have hnb333 := NB102_103.out
          have hnc333 := NB103_102.out
          have hnb334 := NB102_104.out
          have hnc334 := NB104_102.out
          obtain ⟨⟨hcz335_0, hcz335_1, hcz335_2⟩, hfz335_0, hfz335_1, hfz335_2⟩ := bf3 BK102
          as_aux_lemma =>
            go_wp2_with (first | (go_at_call 86; (with_reducible refine (impl_binType.calls a0 a1_0 a2_0 t107 false _ A58.out).mono ?_); rintro e w' ⟨rfl, ⟨nd, rfl⟩⟩; (try first | exact ⟨rfl, _, World.drewN_drewN _ _ _⟩ | exact ⟨rfl, _, Eq.trans (World.drewN_drewN _ _ _) (congrArg (World.drewN _) (Nat.add_assoc _ _ _))⟩); have hnb336 := NB104_103.out; have hnc336 := NB103_104.out; obtain ⟨⟨hcz337_0, hcz337_1, hcz337_2⟩, hfz337_0, hfz337_1, hfz337_2⟩ := bf3 BK104; obtain ⟨⟨hcz338_0, hcz338_1, hcz338_2⟩, hfz338_0, hfz338_1, hfz338_2⟩ := bf3 BK103))
            repeat (go_quiet (first | (go_at_call 86; (with_reducible refine (impl_binType.calls a0 a1_0 a2_0 t107 false _ A58.out).mono ?_); rintro e w' ⟨rfl, ⟨nd, rfl⟩⟩; (try first | exact ⟨rfl, _, World.drewN_drewN _ _ _⟩ | exact ⟨rfl, _, Eq.trans (World.drewN_drewN _ _ _) (congrArg (World.drewN _) (Nat.add_assoc _ _ _))⟩); have hnb336 := NB104_103.out; have hnc336 := NB103_104.out; obtain ⟨⟨hcz337_0, hcz337_1, hcz337_2⟩, hfz337_0, hfz337_1, hfz337_2⟩ := bf3 BK104; obtain ⟨⟨hcz338_0, hcz338_1, hcz338_2⟩, hfz338_0, hfz338_1, hfz338_2⟩ := bf3 BK103)); try go_wp2_with (first | (go_at_call 86; (with_reducible refine (impl_binType.calls a0 a1_0 a2_0 t107 false _ A58.out).mono ?_); rintro e w' ⟨rfl, ⟨nd, rfl⟩⟩; (try first | exact ⟨rfl, _, World.drewN_drewN _ _ _⟩ | exact ⟨rfl, _, Eq.trans (World.drewN_drewN _ _ _) (congrArg (World.drewN _) (Nat.add_assoc _ _ _))⟩); have hnb336 := NB104_103.out; have hnc336 := NB103_104.out; obtain ⟨⟨hcz337_0, hcz337_1, hcz337_2⟩, hfz337_0, hfz337_1, hfz337_2⟩ := bf3 BK104; obtain ⟨⟨hcz338_0, hcz338_1, hcz338_2⟩, hfz338_0, hfz338_1, hfz338_2⟩ := bf3 BK103)))
            refine bodyPost_ret (results_ct rfl _ _ gb103 36 #[.int .i64 0, .int .i64 0, .string (⟨#[]⟩ : ByteArray)] (0, 0) _ rfl (by (with_reducible repeat (first | refine blk_drewN ?_ _ | refine blk_drew ?_ | refine blk_alloc ?_ _)); refine blk_put (cs := #[.int .i64 0, .int .i64 0, .string (⟨#[]⟩ : ByteArray)]) ?_ 2 _ rfl; (with_reducible repeat (first | refine blk_drewN ?_ _ | refine blk_drew ?_ | refine blk_alloc ?_ _)); refine blk_put (cs := #[.int .i64 0, .int .i64 0, .string (⟨#[]⟩ : ByteArray)]) ?_ 1 _ rfl; (with_reducible repeat (first | refine blk_drewN ?_ _ | refine blk_drew ?_ | refine blk_alloc ?_ _)); refine blk_put (cs := #[.int .i64 0, .int .i64 0, .string (⟨#[]⟩ : ByteArray)]) ?_ 0 _ rfl; (with_reducible repeat (first | refine blk_drewN ?_ _ | refine blk_drew ?_ | refine blk_alloc ?_ _)); exact BK103.out) Try.underlying36 rfl (by kernel_rfl)) rfl ?_
            exact ⟨by first | rfl | (simp [errW_none, errW_some] <;> rfl) | (simp [*, errW_none, errW_some] <;> rfl), kb HB⟩
end Go.Proofs.Ytdpdpigaegabbaa.Q
end
