/- Several texts of this seat put together by merge.py, without what this claim does not use. -/
import Derived.Test.YtdpdpigaegabbaaQmFnExactMillBinary1
import Derived.Test.YtdpdpigaegabbaaQmFnExactMillBinary2
section
namespace Go.Proofs.Ytdpdpigaegabbaa.Q
open Go.RowKit Go.Proofs.YtdpdpigaegabbaaW.PrintWords Go.Proofs.YtdpdpigaegabbaaW.PrintLast Go.Proofs.YtdpdpigaegabbaaW.PrintMore Go.Proofs.Ytdpdpigaegabbaa.Short
attribute [local go_sem] max2_int min2_int max_two min_two max_three min_three max_four min_four   
set_option linter.unusedVariables false
set_option linter.unusedSimpArgs false
mutual
def spec_MillBinary.j0 : Nat → Int → Bool → Int → Int → ByteArray → Int → Int → ByteArray → Option (Int × Int × ByteArray × ByteArray)
  | 0, _, _, _, _, _, _, _, _ => none
  | k + 1, x0, x36, x102000, x102001, x102002, x103000, x103001, x103002 => if x36 = true then (some (0, 0, (⟨#[]⟩ : ByteArray), (⟨#[116, 121, 112, 101]⟩ : ByteArray))) else (if x0 = 1 then (if x102001 = 1 then ((spec_l13Bool.f true).bind fun bt107 => (some (bt107.1, bt107.2.1, bt107.2.2, (⟨#[]⟩ : ByteArray)))) else ((spec_l13Bool.f (x103001 == 1)).bind fun bt110 => (some (bt110.1, bt110.2.1, bt110.2.2, (⟨#[]⟩ : ByteArray))))) else (if x0 = 2 then (if x102001 = 1 then ((spec_l13Bool.f (x103001 == 1)).bind fun bt113 => (some (bt113.1, bt113.2.1, bt113.2.2, (⟨#[]⟩ : ByteArray)))) else ((spec_l13Bool.f false).bind fun bt116 => (some (bt116.1, bt116.2.1, bt116.2.2, (⟨#[]⟩ : ByteArray))))) else (if x0 = 3 then (spec_MillBinary.j1 k x0 (IntKind.u64.wrap (x102001)) (IntKind.u64.wrap (x103001)) x0 (x0 == 3) x102000 x102001 x102002 x103000 x103001 x103002) else (if x0 = 4 then (spec_MillBinary.j1 k x0 (IntKind.u64.wrap (x102001)) (IntKind.u64.wrap (x103001)) x0 (x0 == 4) x102000 x102001 x102002 x103000 x103001 x103002) else (if x0 = 5 then (spec_MillBinary.j1 k x0 (IntKind.u64.wrap (x102001)) (IntKind.u64.wrap (x103001)) x0 (x0 == 5) x102000 x102001 x102002 x103000 x103001 x103002) else (if x0 = 6 then (spec_MillBinary.j1 k x0 (IntKind.u64.wrap (x102001)) (IntKind.u64.wrap (x103001)) x0 (x0 == 6) x102000 x102001 x102002 x103000 x103001 x103002) else (if x0 = 7 then (spec_MillBinary.j1 k x0 (IntKind.u64.wrap (x102001)) (IntKind.u64.wrap (x103001)) x0 (x0 == 7) x102000 x102001 x102002 x103000 x103001 x103002) else (spec_MillBinary.j1 k x0 (IntKind.u64.wrap (x102001)) (IntKind.u64.wrap (x103001)) x0 (x0 == 8) x102000 x102001 x102002 x103000 x103001 x103002))))))))
def spec_MillBinary.j1 : Nat → Int → Int → Int → Int → Bool → Int → Int → ByteArray → Int → Int → ByteArray → Option (Int × Int × ByteArray × ByteArray)
  | 0, _, _, _, _, _, _, _, _, _, _, _ => none
  | k + 1, x0, x8, x9, x44, x67, x102000, x102001, x102002, x103000, x103001, x103002 => if x67 = true then ((spec_l13Order.f x0 x102000 x102001 x102002 x103000 x103001 x103002).bind fun t119 => ((spec_l13Bool.f t119).bind fun bt120 => (some (bt120.1, bt120.2.1, bt120.2.2, (⟨#[]⟩ : ByteArray))))) else (if x44 = 9 then (if x102000 = 2 then (if (wrap64 ((x102002.size : Int) + (x103002.size : Int))) > 3000 then (some (0, 0, (⟨#[]⟩ : ByteArray), (⟨#[108, 111, 110, 103]⟩ : ByteArray))) else (if x102002.size + x103002.size ≤ 9223372036854775807 then ((spec_l13Text.f (x102002 ++ x103002)).bind fun bt123 => (some (bt123.1, bt123.2.1, bt123.2.2, (⟨#[]⟩ : ByteArray)))) else (none))) else ((spec_l13Num.f x102000 (IntKind.u64.wrap (x8 + x9))).bind fun bt126 => (some (bt126.1, bt126.2.1, bt126.2.2, (⟨#[]⟩ : ByteArray))))) else (if x44 = 10 then ((spec_l13Num.f x102000 (IntKind.u64.wrap (x8 - x9))).bind fun bt129 => (some (bt129.1, bt129.2.1, bt129.2.2, (⟨#[]⟩ : ByteArray)))) else (if x44 = 11 then ((spec_l13Num.f x102000 (Go.bits .or .u64 x8 x9)).bind fun bt132 => (some (bt132.1, bt132.2.1, bt132.2.2, (⟨#[]⟩ : ByteArray)))) else (if x44 = 12 then ((spec_l13Num.f x102000 (Go.bits .xor .u64 x8 x9)).bind fun bt135 => (some (bt135.1, bt135.2.1, bt135.2.2, (⟨#[]⟩ : ByteArray)))) else (if x44 = 13 then ((spec_l13Num.f x102000 (IntKind.u64.wrap (x8 * x9))).bind fun bt138 => (some (bt138.1, bt138.2.1, bt138.2.2, (⟨#[]⟩ : ByteArray)))) else (if x44 = 16 then ((spec_l13Num.f x102000 (Go.bits .and .u64 x8 x9)).bind fun bt141 => (some (bt141.1, bt141.2.1, bt141.2.2, (⟨#[]⟩ : ByteArray)))) else (if x44 = 17 then ((spec_l13Shift.f k x0 x102000 x102001 x103001).bind fun bt144 => (some (bt144.1, bt144.2.1, bt144.2.2, (⟨#[]⟩ : ByteArray)))) else (if x44 = 18 then ((spec_l13Shift.f k x0 x102000 x102001 x103001).bind fun bt147 => (some (bt147.1, bt147.2.1, bt147.2.2, (⟨#[]⟩ : ByteArray)))) else (if x103001 = 0 then (some (0, 0, (⟨#[]⟩ : ByteArray), (⟨#[100, 105, 118, 105, 100, 101]⟩ : ByteArray))) else ((spec_l13Divide.f k x102000 x102001 x103001).bind fun bt150 => (if x0 = 14 then (some (bt150.1, bt150.2.1, bt150.2.2.1, (⟨#[]⟩ : ByteArray))) else (some (bt150.2.2.2.1, bt150.2.2.2.2.1, bt150.2.2.2.2.2, (⟨#[]⟩ : ByteArray))))))))))))))
end
def spec_MillBinary.f (k : Nat) (a0 : Int) (a1_0 : Int) (a1_1 : Int) (a1_2 : ByteArray) (a2_0 : Int) (a2_1 : Int) (a2_2 : ByteArray) : Option (Int × Int × ByteArray × ByteArray) := (spec_MillValidValue.f a1_0 a1_1 a1_2).bind fun t104 => (if t104 = true then ((spec_MillValidValue.f a2_0 a2_1 a2_2).bind fun t105 => (if t105 = true then (if a0 < 1 then (spec_MillBinary.j0 k a0 true a1_0 a1_1 a1_2 a2_0 a2_1 a2_2) else (if a0 > 18 then (spec_MillBinary.j0 k a0 true a1_0 a1_1 a1_2 a2_0 a2_1 a2_2) else ((spec_l12Bin.f k a0 a1_0 a2_0).bind fun t106 => (spec_MillBinary.j0 k a0 (t106 == 0) a1_0 a1_1 a1_2 a2_0 a2_1 a2_2)))) else (spec_MillBinary.j0 k a0 true a1_0 a1_1 a1_2 a2_0 a2_1 a2_2))) else (spec_MillBinary.j0 k a0 true a1_0 a1_1 a1_2 a2_0 a2_1 a2_2))
theorem spec_MillBinary.mono_l : ∀ k, (∀ y0 y1 y2 y3 y4 y5 y6 y7, LeO (spec_MillBinary.j0 k y0 y1 y2 y3 y4 y5 y6 y7) (spec_MillBinary.j0 (k + 1) y0 y1 y2 y3 y4 y5 y6 y7)) ∧ (∀ y0 y1 y2 y3 y4 y5 y6 y7 y8 y9 y10, LeO (spec_MillBinary.j1 k y0 y1 y2 y3 y4 y5 y6 y7 y8 y9 y10) (spec_MillBinary.j1 (k + 1) y0 y1 y2 y3 y4 y5 y6 y7 y8 y9 y10))
  | 0 => ⟨fun _ _ _ _ _ _ _ _ r h => by simp [spec_MillBinary.j0] at h, fun _ _ _ _ _ _ _ _ _ _ _ r h => by simp [spec_MillBinary.j1] at h⟩
  | k + 1 => by
    obtain ⟨ih0, ih1⟩ := spec_MillBinary.mono_l k
    refine ⟨?_, ?_⟩
    · intro y0 y1 y2 y3 y4 y5 y6 y7
      unfold spec_MillBinary.j0
      repeat' first
      | (with_reducible exact ih0 _ _ _ _ _ _ _ _)
      | (with_reducible exact ih1 _ _ _ _ _ _ _ _ _ _ _)
      | (with_reducible exact spec_l12Bin.mono _ _ _ _)
      | (with_reducible exact spec_l13Divide.mono _ _ _ _)
      | (with_reducible exact spec_l13Shift.mono _ _ _ _ _)
      | (with_reducible exact LeO.refl _)
      | (with_reducible exact LeO.none _)
      | (with_reducible refine LeO.ite ?_ ?_)
      | (with_reducible refine LeO.bind ?_ (fun _ => ?_))
      | exact ih0 _ _ _ _ _ _ _ _
      | exact ih1 _ _ _ _ _ _ _ _ _ _ _
      | exact spec_l12Bin.mono _ _ _ _
      | exact spec_l13Divide.mono _ _ _ _
      | exact spec_l13Shift.mono _ _ _ _ _
      | exact LeO.none _
      | refine LeO.ite ?_ ?_
      | refine LeO.bind ?_ (fun _ => ?_)
    · intro y0 y1 y2 y3 y4 y5 y6 y7 y8 y9 y10
      unfold spec_MillBinary.j1
      repeat' first
      | (with_reducible exact ih0 _ _ _ _ _ _ _ _)
      | (with_reducible exact ih1 _ _ _ _ _ _ _ _ _ _ _)
      | (with_reducible exact spec_l12Bin.mono _ _ _ _)
      | (with_reducible exact spec_l13Divide.mono _ _ _ _)
      | (with_reducible exact spec_l13Shift.mono _ _ _ _ _)
      | (with_reducible exact LeO.refl _)
      | (with_reducible exact LeO.none _)
      | (with_reducible refine LeO.ite ?_ ?_)
      | (with_reducible refine LeO.bind ?_ (fun _ => ?_))
      | exact ih0 _ _ _ _ _ _ _ _
      | exact ih1 _ _ _ _ _ _ _ _ _ _ _
      | exact spec_l12Bin.mono _ _ _ _
      | exact spec_l13Divide.mono _ _ _ _
      | exact spec_l13Shift.mono _ _ _ _ _
      | exact LeO.none _
      | refine LeO.ite ?_ ?_
      | refine LeO.bind ?_ (fun _ => ?_)
theorem spec_MillBinary.mono : ∀ a0 a1 a2 a3 a4 a5 a6 k, LeO (spec_MillBinary.f k a0 a1 a2 a3 a4 a5 a6) (spec_MillBinary.f (k + 1) a0 a1 a2 a3 a4 a5 a6) := by
  intro a0 a1 a2 a3 a4 a5 a6 k
  obtain ⟨ih0, ih1⟩ := spec_MillBinary.mono_l k
  unfold spec_MillBinary.f
  repeat' first
      | (with_reducible exact ih0 _ _ _ _ _ _ _ _)
      | (with_reducible exact ih1 _ _ _ _ _ _ _ _ _ _ _)
      | (with_reducible exact spec_l12Bin.mono _ _ _ _)
      | (with_reducible exact spec_l13Divide.mono _ _ _ _)
      | (with_reducible exact spec_l13Shift.mono _ _ _ _ _)
      | (with_reducible exact LeO.refl _)
      | (with_reducible exact LeO.none _)
      | (with_reducible refine LeO.ite ?_ ?_)
      | (with_reducible refine LeO.bind ?_ (fun _ => ?_))
      | exact ih0 _ _ _ _ _ _ _ _
      | exact ih1 _ _ _ _ _ _ _ _ _ _ _
      | exact spec_l12Bin.mono _ _ _ _
      | exact spec_l13Divide.mono _ _ _ _
      | exact spec_l13Shift.mono _ _ _ _ _
      | exact LeO.none _
      | refine LeO.ite ?_ ?_
      | refine LeO.bind ?_ (fun _ => ?_)
set_option maxHeartbeats 8000000 in
set_option maxRecDepth 100000 in
theorem spec_MillBinary.calls (k : Nat) (a0 : Int) (a1_0 : Int) (a1_1 : Int) (a1_2 : ByteArray) (a2_0 : Int) (a2_1 : Int) (a2_2 : ByteArray) (r1 : Int) (r2 : Int) (r3 : ByteArray) (r4 : ByteArray) (w : World) (h : spec_MillBinary.f k a0 a1_0 a1_1 a1_2 a2_0 a2_1 a2_2 = some (r1, r2, r3, r4)) :
    Calls Try.prog 50 #[.int .i64 a0, .agg #[.int .i64 a1_0, .int .i64 a1_1, .string a1_2], .agg #[.int .i64 a2_0, .int .i64 a2_1, .string a2_2]] w fun e w' => e = .returned (.tuple #[.agg #[.int .i64 r1, .int .i64 r2, .string r3], .string r4]) ∧ Below w.heap.size w w' := by
  have hu36 := Try.underlying36
  have HB := Aside0.mk (Below.refl w.heap.size w)
  have H : ((spec_MillValidValue.f a1_0 a1_1 a1_2).bind fun t104 => (if t104 = true then ((spec_MillValidValue.f a2_0 a2_1 a2_2).bind fun t105 => (if t105 = true then (if a0 < 1 then (spec_MillBinary.j0 k a0 true a1_0 a1_1 a1_2 a2_0 a2_1 a2_2) else (if a0 > 18 then (spec_MillBinary.j0 k a0 true a1_0 a1_1 a1_2 a2_0 a2_1 a2_2) else ((spec_l12Bin.f k a0 a1_0 a2_0).bind fun t106 => (spec_MillBinary.j0 k a0 (t106 == 0) a1_0 a1_1 a1_2 a2_0 a2_1 a2_2)))) else (spec_MillBinary.j0 k a0 true a1_0 a1_1 a1_2 a2_0 a2_1 a2_2))) else (spec_MillBinary.j0 k a0 true a1_0 a1_1 a1_2 a2_0 a2_1 a2_2))) = some (r1, r2, r3, r4) := h
  clear h
  have HC4 := Aside0.mk H
  clear H
  go_enter Try.func50, Try.ntmps50
  go_upto_region 1 with (first | ((with_reducible refine gate_dst (N := 4) rfl ?_); refine gX 4 #[.int .i64 a1_0, .int .i64 a1_1, .string a1_2] 36 ?_; intro gb101 hg w5 hbox hb; have BK101 := Aside0.mk (hbox); have GW101 := gw hg (kb HB); have GE101 := gw hg (kb HB); replace HB := kS HB hb; clear hb hbox hg) | ((with_reducible refine gate_dst (N := 5) rfl ?_); refine gX 5 #[.int .i64 a2_0, .int .i64 a2_1, .string a2_2] 36 ?_; intro gb102 hg w6 hbox hb; have BK102 := Aside0.mk (hbox); have GW102 := gw hg (kb HB); have GE102 := gw hg (kb HB); have NB101_102 := nl hg (kp BK101); have NB102_101 := ng hg (kp BK101); replace BK101 := kB BK101 hb; replace HB := kS HB hb; clear hb hbox hg) | ((with_reducible refine gate_dst (N := 6) rfl ?_); refine gX 6 #[.int .i64 0, .int .i64 0, .string (⟨#[]⟩ : ByteArray)] 36 ?_; intro gb103 hg w7 hbox hb; have BK103 := Aside0.mk (hbox); have GW103 := gw hg (kb HB); have GE103 := gw hg (kb HB); have NB101_103 := nl hg (kp BK101); have NB103_101 := ng hg (kp BK101); have NB102_103 := nl hg (kp BK102); have NB103_102 := ng hg (kp BK102); replace BK101 := kB BK101 hb; replace BK102 := kB BK102 hb; replace HB := kS HB hb; clear hb hbox hg))
  (try simp only [Act.put, List.setIfInBounds_toArray, List.set_cons_zero, List.set_cons_succ])
  go_cut [36] (fun v36 wc => ∃ (kq : Nat) (x36_3 : Bool), v36 = .bool x36_3 ∧ Aside0 (spec_MillBinary.j0 kq a0 x36_3 a1_0 a1_1 a1_2 a2_0 a2_1 a2_2 = some (r1, r2, r3, r4)) ∧ Aside0 (kq ≤ k) ∧ Aside0 (wc.heap[gb101]? = some (.cells #[.int .i64 a1_0, .int .i64 a1_1, .string a1_2] 36 (0, 0))) ∧ Aside0 (wc.heap[gb102]? = some (.cells #[.int .i64 a2_0, .int .i64 a2_1, .string a2_2] 36 (0, 0))) ∧ Aside0 (wc.heap[gb103]? = some (.cells #[.int .i64 0, .int .i64 0, .string (⟨#[]⟩ : ByteArray)] 36 (0, 0))) ∧ Aside0 (Below w.heap.size w wc))
  case first =>
    have H := HC4.out
    clear HC4
    replace H := Option.bind_eq_some_iff.mp H
    obtain ⟨t104, A80, H⟩ := H
    replace H : (if t104 = true then ((spec_MillValidValue.f a2_0 a2_1 a2_2).bind fun t105 => (if t105 = true then (if a0 < 1 then (spec_MillBinary.j0 k a0 true a1_0 a1_1 a1_2 a2_0 a2_1 a2_2) else (if a0 > 18 then (spec_MillBinary.j0 k a0 true a1_0 a1_1 a1_2 a2_0 a2_1 a2_2) else ((spec_l12Bin.f k a0 a1_0 a2_0).bind fun t106 => (spec_MillBinary.j0 k a0 (t106 == 0) a1_0 a1_1 a1_2 a2_0 a2_1 a2_2)))) else (spec_MillBinary.j0 k a0 true a1_0 a1_1 a1_2 a2_0 a2_1 a2_2))) else (spec_MillBinary.j0 k a0 true a1_0 a1_1 a1_2 a2_0 a2_1 a2_2)) = some (r1, r2, r3, r4) := H
    have A8 := Aside0.mk A80
    clear A80
    by_cases c9 : t104 = true
    · subst c9
      have H1 : ((spec_MillValidValue.f a2_0 a2_1 a2_2).bind fun t105 => (if t105 = true then (if a0 < 1 then (spec_MillBinary.j0 k a0 true a1_0 a1_1 a1_2 a2_0 a2_1 a2_2) else (if a0 > 18 then (spec_MillBinary.j0 k a0 true a1_0 a1_1 a1_2 a2_0 a2_1 a2_2) else ((spec_l12Bin.f k a0 a1_0 a2_0).bind fun t106 => (spec_MillBinary.j0 k a0 (t106 == 0) a1_0 a1_1 a1_2 a2_0 a2_1 a2_2)))) else (spec_MillBinary.j0 k a0 true a1_0 a1_1 a1_2 a2_0 a2_1 a2_2))) = some (r1, r2, r3, r4) := by rw [if_pos rfl] at H; exact H
      clear H
      have H := H1
      clear H1
      replace H := Option.bind_eq_some_iff.mp H
      obtain ⟨t105, A100, H⟩ := H
      replace H : (if t105 = true then (if a0 < 1 then (spec_MillBinary.j0 k a0 true a1_0 a1_1 a1_2 a2_0 a2_1 a2_2) else (if a0 > 18 then (spec_MillBinary.j0 k a0 true a1_0 a1_1 a1_2 a2_0 a2_1 a2_2) else ((spec_l12Bin.f k a0 a1_0 a2_0).bind fun t106 => (spec_MillBinary.j0 k a0 (t106 == 0) a1_0 a1_1 a1_2 a2_0 a2_1 a2_2)))) else (spec_MillBinary.j0 k a0 true a1_0 a1_1 a1_2 a2_0 a2_1 a2_2)) = some (r1, r2, r3, r4) := H
      have A10 := Aside0.mk A100
      clear A100
      by_cases c11 : t105 = true
      · subst c11
        have H1 : (if a0 < 1 then (spec_MillBinary.j0 k a0 true a1_0 a1_1 a1_2 a2_0 a2_1 a2_2) else (if a0 > 18 then (spec_MillBinary.j0 k a0 true a1_0 a1_1 a1_2 a2_0 a2_1 a2_2) else ((spec_l12Bin.f k a0 a1_0 a2_0).bind fun t106 => (spec_MillBinary.j0 k a0 (t106 == 0) a1_0 a1_1 a1_2 a2_0 a2_1 a2_2)))) = some (r1, r2, r3, r4) := by rw [if_pos rfl] at H; exact H
        clear H
        have H := H1
        clear H1
        by_cases c12 : a0 < 1
        · rw [if_pos c12] at H
          have c12b0 : decide (a0 < 1) = true := decide_eq_true c12
          clear c12
          (first | rw [c12b0] | (simp only [i64_w, i32_w]; rw [c12b0]) | skip)
          have H' := Aside0.mk H
          clear H
          have hnb13 := NB101_102.out
          have hnc13 := NB102_101.out
          have hnb14 := NB101_103.out
          have hnc14 := NB103_101.out
          obtain ⟨⟨hcz15_0, hcz15_1, hcz15_2⟩, hfz15_0, hfz15_1, hfz15_2⟩ := bf3 BK101
          go_wp2_with (first | ((with_reducible refine gate_callee (f := 22) rfl ?_); refine gL (some 13) Try.func22 #[.agg #[.int .i64 a1_0, .int .i64 a1_1, .string a1_2]] (spec_MillValidValue.calls a1_0 a1_1 a1_2 true _ A8.out) ?_; intro w16 hb; replace BK101 := kB BK101 hb; replace BK102 := kB BK102 hb; replace BK103 := kB BK103 hb; replace HB := kS HB hb; have hnb17 := NB102_103.out; have hnc17 := NB103_102.out; obtain ⟨⟨hcz18_0, hcz18_1, hcz18_2⟩, hfz18_0, hfz18_1, hfz18_2⟩ := bf3 BK102) | (go_at_call 22; (with_reducible refine (spec_MillValidValue.calls a2_0 a2_1 a2_2 true _ A10.out).mono ?_); rintro e w19 ⟨rfl, hb⟩; replace BK101 := kB BK101 hb; replace BK102 := kB BK102 hb; replace BK103 := kB BK103 hb; replace HB := kS HB hb))
          go_meet
          case rel => exact ⟨_, (true), (by first | rfl | (simp; done) | (simp [*]; done)), H', ⟨by first | omega | exact Nat.le_refl _⟩, ⟨kp BK101⟩, ⟨kp BK102⟩, ⟨kp BK103⟩, ⟨kb HB⟩⟩
        · rw [if_neg c12] at H
          have c12b0 : decide (a0 < 1) = false := decide_eq_false c12
          clear c12
          (first | rw [c12b0] | (simp only [i64_w, i32_w]; rw [c12b0]) | skip)
          by_cases c20 : a0 > 18
          · rw [if_pos c20] at H
            have c20b0 : decide (18 < a0) = true := decide_eq_true c20
            clear c20
            have H' := Aside0.mk H
            clear H
            have hnb21 := NB101_102.out
            have hnc21 := NB102_101.out
            have hnb22 := NB101_103.out
            have hnc22 := NB103_101.out
            obtain ⟨⟨hcz23_0, hcz23_1, hcz23_2⟩, hfz23_0, hfz23_1, hfz23_2⟩ := bf3 BK101
            go_wp2_with (first | ((with_reducible refine gate_callee (f := 22) rfl ?_); refine gL (some 13) Try.func22 #[.agg #[.int .i64 a1_0, .int .i64 a1_1, .string a1_2]] (spec_MillValidValue.calls a1_0 a1_1 a1_2 true _ A8.out) ?_; intro w24 hb; replace BK101 := kB BK101 hb; replace BK102 := kB BK102 hb; replace BK103 := kB BK103 hb; replace HB := kS HB hb; have hnb25 := NB102_103.out; have hnc25 := NB103_102.out; obtain ⟨⟨hcz26_0, hcz26_1, hcz26_2⟩, hfz26_0, hfz26_1, hfz26_2⟩ := bf3 BK102) | (go_at_call 22; (with_reducible refine (spec_MillValidValue.calls a2_0 a2_1 a2_2 true _ A10.out).mono ?_); rintro e w27 ⟨rfl, hb⟩; replace BK101 := kB BK101 hb; replace BK102 := kB BK102 hb; replace BK103 := kB BK103 hb; replace HB := kS HB hb))
            go_meet
            case rel => exact ⟨_, (true), (by first | rfl | (simp; done) | (simp [*]; done)), H', ⟨by first | omega | exact Nat.le_refl _⟩, ⟨kp BK101⟩, ⟨kp BK102⟩, ⟨kp BK103⟩, ⟨kb HB⟩⟩
          · rw [if_neg c20] at H
            have c20b0 : decide (18 < a0) = false := decide_eq_false c20
            clear c20
            replace H := Option.bind_eq_some_iff.mp H
            obtain ⟨t106, A280, H⟩ := H
            replace H : (spec_MillBinary.j0 k a0 (t106 == 0) a1_0 a1_1 a1_2 a2_0 a2_1 a2_2) = some (r1, r2, r3, r4) := H
            have A28 := Aside0.mk A280
            clear A280
            have H' := Aside0.mk H
            clear H
            have hnb29 := NB101_102.out
            have hnc29 := NB102_101.out
            have hnb30 := NB101_103.out
            have hnc30 := NB103_101.out
            obtain ⟨⟨hcz31_0, hcz31_1, hcz31_2⟩, hfz31_0, hfz31_1, hfz31_2⟩ := bf3 BK101
            go_wp2_with (first | ((with_reducible refine gate_callee (f := 22) rfl ?_); refine gL (some 13) Try.func22 #[.agg #[.int .i64 a1_0, .int .i64 a1_1, .string a1_2]] (spec_MillValidValue.calls a1_0 a1_1 a1_2 true _ A8.out) ?_; intro w32 hb; replace BK101 := kB BK101 hb; replace BK102 := kB BK102 hb; replace BK103 := kB BK103 hb; replace HB := kS HB hb; have hnb33 := NB102_103.out; have hnc33 := NB103_102.out; obtain ⟨⟨hcz34_0, hcz34_1, hcz34_2⟩, hfz34_0, hfz34_1, hfz34_2⟩ := bf3 BK102) | (go_at_call 22; (with_reducible refine (spec_MillValidValue.calls a2_0 a2_1 a2_2 true _ A10.out).mono ?_); rintro e w35 ⟨rfl, hb⟩; replace BK101 := kB BK101 hb; replace BK102 := kB BK102 hb; replace BK103 := kB BK103 hb; replace HB := kS HB hb; obtain ⟨⟨hcz36_0, hcz36_1, hcz36_2⟩, hfz36_0, hfz36_1, hfz36_2⟩ := bf3 BK101; obtain ⟨⟨hcz37_0, hcz37_1, hcz37_2⟩, hfz37_0, hfz37_1, hfz37_2⟩ := bf3 BK102) | (go_at_call 91; (with_reducible refine (spec_l12Bin.calls k a0 a1_0 a2_0 t106 _ A28.out).mono ?_); rintro e w' ⟨rfl, ⟨nd, rfl⟩⟩))
            go_meet
            case rel => exact ⟨_, ((t106 == 0)), (by first | rfl | (simp; done) | (simp [*]; done)), H', ⟨by first | omega | exact Nat.le_refl _⟩, ⟨kp BK101⟩, ⟨kp BK102⟩, ⟨kp BK103⟩, ⟨kb HB⟩⟩
      · replace c11 := Bool.eq_false_iff.mpr c11
        subst c11
        have H1 : (spec_MillBinary.j0 k a0 true a1_0 a1_1 a1_2 a2_0 a2_1 a2_2) = some (r1, r2, r3, r4) := by rw [if_neg (show ¬ (false = true) by decide)] at H; exact H
        clear H
        have H := H1
        clear H1
        have H' := Aside0.mk H
        clear H
        have hnb38 := NB101_102.out
        have hnc38 := NB102_101.out
        have hnb39 := NB101_103.out
        have hnc39 := NB103_101.out
        obtain ⟨⟨hcz40_0, hcz40_1, hcz40_2⟩, hfz40_0, hfz40_1, hfz40_2⟩ := bf3 BK101
        go_wp2_with (first | ((with_reducible refine gate_callee (f := 22) rfl ?_); refine gL (some 13) Try.func22 #[.agg #[.int .i64 a1_0, .int .i64 a1_1, .string a1_2]] (spec_MillValidValue.calls a1_0 a1_1 a1_2 true _ A8.out) ?_; intro w41 hb; replace BK101 := kB BK101 hb; replace BK102 := kB BK102 hb; replace BK103 := kB BK103 hb; replace HB := kS HB hb; have hnb42 := NB102_103.out; have hnc42 := NB103_102.out; obtain ⟨⟨hcz43_0, hcz43_1, hcz43_2⟩, hfz43_0, hfz43_1, hfz43_2⟩ := bf3 BK102) | (go_at_call 22; (with_reducible refine (spec_MillValidValue.calls a2_0 a2_1 a2_2 false _ A10.out).mono ?_); rintro e w44 ⟨rfl, hb⟩; replace BK101 := kB BK101 hb; replace BK102 := kB BK102 hb; replace BK103 := kB BK103 hb; replace HB := kS HB hb))
        go_meet
        case rel => exact ⟨_, (true), (by first | rfl | (simp; done) | (simp [*]; done)), H', ⟨by first | omega | exact Nat.le_refl _⟩, ⟨kp BK101⟩, ⟨kp BK102⟩, ⟨kp BK103⟩, ⟨kb HB⟩⟩
    · replace c9 := Bool.eq_false_iff.mpr c9
      subst c9
      have H1 : (spec_MillBinary.j0 k a0 true a1_0 a1_1 a1_2 a2_0 a2_1 a2_2) = some (r1, r2, r3, r4) := by rw [if_neg (show ¬ (false = true) by decide)] at H; exact H
      clear H
      have H := H1
      clear H1
      have H' := Aside0.mk H
      clear H
      have hnb45 := NB101_102.out
      have hnc45 := NB102_101.out
      have hnb46 := NB101_103.out
      have hnc46 := NB103_101.out
      obtain ⟨⟨hcz47_0, hcz47_1, hcz47_2⟩, hfz47_0, hfz47_1, hfz47_2⟩ := bf3 BK101
      go_wp2_with (first | ((with_reducible refine gate_callee (f := 22) rfl ?_); refine gL (some 13) Try.func22 #[.agg #[.int .i64 a1_0, .int .i64 a1_1, .string a1_2]] (spec_MillValidValue.calls a1_0 a1_1 a1_2 false _ A8.out) ?_; intro w48 hb; replace BK101 := kB BK101 hb; replace BK102 := kB BK102 hb; replace BK103 := kB BK103 hb; replace HB := kS HB hb))
      go_meet
      case rel => exact ⟨_, (true), (by first | rfl | (simp; done) | (simp [*]; done)), H', ⟨by first | omega | exact Nat.le_refl _⟩, ⟨kp BK101⟩, ⟨kp BK102⟩, ⟨kp BK103⟩, ⟨kb HB⟩⟩
  case rest =>
    clear HC4
    obtain ⟨kq, x36_3, rfl, HA, HJ3, BK101, BK102, BK103, HB⟩ := hcut
    cases kq with
    | zero => exact absurd HA.out (by simp [spec_MillBinary.j0])
    | succ kj3 =>
      have H := HA.out
      clear HA
      simp only [spec_MillBinary.j0] at H
      by_cases c49 : x36_3 = true
      · subst c49
        have H1 : (some (0, 0, (⟨#[]⟩ : ByteArray), (⟨#[116, 121, 112, 101]⟩ : ByteArray))) = some (r1, r2, r3, r4) := by rw [if_pos rfl] at H; exact H
        clear H
        have H := H1
        clear H1
        simp only [Option.some.injEq, Prod.mk.injEq] at H
        obtain ⟨rfl, rfl, rfl, rfl⟩ := H
        have hnb50 := NB103_101.out
        have hnc50 := NB101_103.out
        have hnb51 := NB103_102.out
        have hnc51 := NB102_103.out
        obtain ⟨⟨hcz52_0, hcz52_1, hcz52_2⟩, hfz52_0, hfz52_1, hfz52_2⟩ := bf3 BK103
        go_wp2
        refine bodyPost_ret (results_ct rfl _ _ gb103 36 #[.int .i64 0, .int .i64 0, .string (⟨#[]⟩ : ByteArray)] (0, 0) _ rfl (by (with_reducible repeat (first | refine blk_drewN ?_ _ | refine blk_drew ?_ | refine blk_alloc ?_ _)); refine blk_put (cs := #[.int .i64 0, .int .i64 0, .string (⟨#[]⟩ : ByteArray)]) ?_ 2 _ rfl; (with_reducible repeat (first | refine blk_drewN ?_ _ | refine blk_drew ?_ | refine blk_alloc ?_ _)); refine blk_put (cs := #[.int .i64 0, .int .i64 0, .string (⟨#[]⟩ : ByteArray)]) ?_ 1 _ rfl; (with_reducible repeat (first | refine blk_drewN ?_ _ | refine blk_drew ?_ | refine blk_alloc ?_ _)); refine blk_put (cs := #[.int .i64 0, .int .i64 0, .string (⟨#[]⟩ : ByteArray)]) ?_ 0 _ rfl; (with_reducible repeat (first | refine blk_drewN ?_ _ | refine blk_drew ?_ | refine blk_alloc ?_ _)); exact BK103.out) Try.underlying36 rfl (by kernel_rfl)) rfl ?_
        exact ⟨by first | rfl | (simp [errW_none, errW_some] <;> rfl) | (simp [*, errW_none, errW_some] <;> rfl), kb HB⟩
      · replace c49 := Bool.eq_false_iff.mpr c49
        subst c49
        have H1 : (if a0 = 1 then (if a1_1 = 1 then ((spec_l13Bool.f true).bind fun bt107 => (some (bt107.1, bt107.2.1, bt107.2.2, (⟨#[]⟩ : ByteArray)))) else ((spec_l13Bool.f (a2_1 == 1)).bind fun bt110 => (some (bt110.1, bt110.2.1, bt110.2.2, (⟨#[]⟩ : ByteArray))))) else (if a0 = 2 then (if a1_1 = 1 then ((spec_l13Bool.f (a2_1 == 1)).bind fun bt113 => (some (bt113.1, bt113.2.1, bt113.2.2, (⟨#[]⟩ : ByteArray)))) else ((spec_l13Bool.f false).bind fun bt116 => (some (bt116.1, bt116.2.1, bt116.2.2, (⟨#[]⟩ : ByteArray))))) else (if a0 = 3 then (spec_MillBinary.j1 kj3 a0 (IntKind.u64.wrap (a1_1)) (IntKind.u64.wrap (a2_1)) a0 (a0 == 3) a1_0 a1_1 a1_2 a2_0 a2_1 a2_2) else (if a0 = 4 then (spec_MillBinary.j1 kj3 a0 (IntKind.u64.wrap (a1_1)) (IntKind.u64.wrap (a2_1)) a0 (a0 == 4) a1_0 a1_1 a1_2 a2_0 a2_1 a2_2) else (if a0 = 5 then (spec_MillBinary.j1 kj3 a0 (IntKind.u64.wrap (a1_1)) (IntKind.u64.wrap (a2_1)) a0 (a0 == 5) a1_0 a1_1 a1_2 a2_0 a2_1 a2_2) else (if a0 = 6 then (spec_MillBinary.j1 kj3 a0 (IntKind.u64.wrap (a1_1)) (IntKind.u64.wrap (a2_1)) a0 (a0 == 6) a1_0 a1_1 a1_2 a2_0 a2_1 a2_2) else (if a0 = 7 then (spec_MillBinary.j1 kj3 a0 (IntKind.u64.wrap (a1_1)) (IntKind.u64.wrap (a2_1)) a0 (a0 == 7) a1_0 a1_1 a1_2 a2_0 a2_1 a2_2) else (spec_MillBinary.j1 kj3 a0 (IntKind.u64.wrap (a1_1)) (IntKind.u64.wrap (a2_1)) a0 (a0 == 8) a1_0 a1_1 a1_2 a2_0 a2_1 a2_2)))))))) = some (r1, r2, r3, r4) := by rw [if_neg (show ¬ (false = true) by decide)] at H; exact H
        clear H
        have H := H1
        clear H1
        by_cases c53 : a0 = 1
        · rw [if_pos c53] at H
          have c53b0 : (a0 == 1) = true := beq_iff_eq.mpr c53
          have c53b1 : (a0 != 1) = false := bne_eq_false_iff_eq.mpr c53
          clear c53
          by_cases c54 : a1_1 = 1
          · rw [if_pos c54] at H
            have c54b0 : (a1_1 == 1) = true := beq_iff_eq.mpr c54
            have c54b1 : (a1_1 != 1) = false := bne_eq_false_iff_eq.mpr c54
            clear c54
            replace H := Option.bind_eq_some_iff.mp H
            obtain ⟨⟨t107, t108, t109⟩, A550, H⟩ := H
            replace H : (some (t107, t108, t109, (⟨#[]⟩ : ByteArray))) = some (r1, r2, r3, r4) := H
            have A55 := Aside0.mk A550
            clear A550
            simp only [Option.some.injEq, Prod.mk.injEq] at H
            obtain ⟨rfl, rfl, rfl, rfl⟩ := H
            have hnb56 := NB101_102.out
            have hnc56 := NB102_101.out
            have hnb57 := NB101_103.out
            have hnc57 := NB103_101.out
            obtain ⟨⟨hcz58_0, hcz58_1, hcz58_2⟩, hfz58_0, hfz58_1, hfz58_2⟩ := bf3 BK101
            have hnb59 := NB102_103.out
            have hnc59 := NB103_102.out
            obtain ⟨⟨hcz60_0, hcz60_1, hcz60_2⟩, hfz60_0, hfz60_1, hfz60_2⟩ := bf3 BK102
            go_wp2_with (first | ((with_reducible refine gate_callee (f := 72) rfl ?_); refine gL (some 55) Try.func72 #[.bool true] (spec_l13Bool.calls true t107 t108 t109 _ A55.out) ?_; intro w61 hb; replace BK101 := kB BK101 hb; replace BK102 := kB BK102 hb; replace BK103 := kB BK103 hb; replace HB := kS HB hb; obtain ⟨⟨hcz62_0, hcz62_1, hcz62_2⟩, hfz62_0, hfz62_1, hfz62_2⟩ := bf3 BK103))
            refine bodyPost_ret (results_ct rfl _ _ gb103 36 #[.int .i64 t107, .int .i64 t108, .string t109] (0, 0) _ rfl (by (with_reducible repeat (first | refine blk_drewN ?_ _ | refine blk_drew ?_ | refine blk_alloc ?_ _)); refine blk_put (cs := #[.int .i64 t107, .int .i64 t108, .string (⟨#[]⟩ : ByteArray)]) ?_ 2 _ rfl; (with_reducible repeat (first | refine blk_drewN ?_ _ | refine blk_drew ?_ | refine blk_alloc ?_ _)); refine blk_put (cs := #[.int .i64 t107, .int .i64 0, .string (⟨#[]⟩ : ByteArray)]) ?_ 1 _ rfl; (with_reducible repeat (first | refine blk_drewN ?_ _ | refine blk_drew ?_ | refine blk_alloc ?_ _)); refine blk_put (cs := #[.int .i64 0, .int .i64 0, .string (⟨#[]⟩ : ByteArray)]) ?_ 0 _ rfl; (with_reducible repeat (first | refine blk_drewN ?_ _ | refine blk_drew ?_ | refine blk_alloc ?_ _)); exact BK103.out) Try.underlying36 rfl (by kernel_rfl)) rfl ?_
            exact ⟨by first | rfl | (simp [errW_none, errW_some] <;> rfl) | (simp [*, errW_none, errW_some] <;> rfl), kb HB⟩
          · rw [if_neg c54] at H
            have c54b0 : (a1_1 == 1) = false := beq_eq_false_iff_ne.mpr c54
            have c54b1 : (a1_1 != 1) = true := bne_iff_ne.mpr c54
            replace H := Option.bind_eq_some_iff.mp H
            obtain ⟨⟨t110, t111, t112⟩, A630, H⟩ := H
            replace H : (some (t110, t111, t112, (⟨#[]⟩ : ByteArray))) = some (r1, r2, r3, r4) := H
            have A63 := Aside0.mk A630
            clear A630
            simp only [Option.some.injEq, Prod.mk.injEq] at H
            obtain ⟨rfl, rfl, rfl, rfl⟩ := H
            have hnb64 := NB101_102.out
            have hnc64 := NB102_101.out
            have hnb65 := NB101_103.out
            have hnc65 := NB103_101.out
            obtain ⟨⟨hcz66_0, hcz66_1, hcz66_2⟩, hfz66_0, hfz66_1, hfz66_2⟩ := bf3 BK101
            have hnb67 := NB102_103.out
            have hnc67 := NB103_102.out
            obtain ⟨⟨hcz68_0, hcz68_1, hcz68_2⟩, hfz68_0, hfz68_1, hfz68_2⟩ := bf3 BK102
            go_wp2_with (first | ((with_reducible refine gate_callee (f := 72) rfl ?_); refine gL (some 55) Try.func72 #[.bool (a2_1 == 1)] (spec_l13Bool.calls (a2_1 == 1) t110 t111 t112 _ A63.out) ?_; intro w69 hb; replace BK101 := kB BK101 hb; replace BK102 := kB BK102 hb; replace BK103 := kB BK103 hb; replace HB := kS HB hb; obtain ⟨⟨hcz70_0, hcz70_1, hcz70_2⟩, hfz70_0, hfz70_1, hfz70_2⟩ := bf3 BK103))
            refine bodyPost_ret (results_ct rfl _ _ gb103 36 #[.int .i64 t110, .int .i64 t111, .string t112] (0, 0) _ rfl (by (with_reducible repeat (first | refine blk_drewN ?_ _ | refine blk_drew ?_ | refine blk_alloc ?_ _)); refine blk_put (cs := #[.int .i64 t110, .int .i64 t111, .string (⟨#[]⟩ : ByteArray)]) ?_ 2 _ rfl; (with_reducible repeat (first | refine blk_drewN ?_ _ | refine blk_drew ?_ | refine blk_alloc ?_ _)); refine blk_put (cs := #[.int .i64 t110, .int .i64 0, .string (⟨#[]⟩ : ByteArray)]) ?_ 1 _ rfl; (with_reducible repeat (first | refine blk_drewN ?_ _ | refine blk_drew ?_ | refine blk_alloc ?_ _)); refine blk_put (cs := #[.int .i64 0, .int .i64 0, .string (⟨#[]⟩ : ByteArray)]) ?_ 0 _ rfl; (with_reducible repeat (first | refine blk_drewN ?_ _ | refine blk_drew ?_ | refine blk_alloc ?_ _)); exact BK103.out) Try.underlying36 rfl (by kernel_rfl)) rfl ?_
            exact ⟨by first | rfl | (simp [errW_none, errW_some] <;> rfl) | (simp [*, errW_none, errW_some] <;> rfl), kb HB⟩
        · rw [if_neg c53] at H
          have c53b0 : (a0 == 1) = false := beq_eq_false_iff_ne.mpr c53
          have c53b1 : (a0 != 1) = true := bne_iff_ne.mpr c53
          by_cases c71 : a0 = 2
          · rw [if_pos c71] at H
            have c71b0 : (a0 == 2) = true := beq_iff_eq.mpr c71
            have c71b1 : (a0 != 2) = false := bne_eq_false_iff_eq.mpr c71
            clear c71
            by_cases c72 : a1_1 = 1
            · rw [if_pos c72] at H
              have c72b0 : (a1_1 == 1) = true := beq_iff_eq.mpr c72
              have c72b1 : (a1_1 != 1) = false := bne_eq_false_iff_eq.mpr c72
              clear c72
              replace H := Option.bind_eq_some_iff.mp H
              obtain ⟨⟨t113, t114, t115⟩, A730, H⟩ := H
              replace H : (some (t113, t114, t115, (⟨#[]⟩ : ByteArray))) = some (r1, r2, r3, r4) := H
              have A73 := Aside0.mk A730
              clear A730
              simp only [Option.some.injEq, Prod.mk.injEq] at H
              obtain ⟨rfl, rfl, rfl, rfl⟩ := H
              have hnb74 := NB101_102.out
              have hnc74 := NB102_101.out
              have hnb75 := NB101_103.out
              have hnc75 := NB103_101.out
              obtain ⟨⟨hcz76_0, hcz76_1, hcz76_2⟩, hfz76_0, hfz76_1, hfz76_2⟩ := bf3 BK101
              have hnb77 := NB102_103.out
              have hnc77 := NB103_102.out
              obtain ⟨⟨hcz78_0, hcz78_1, hcz78_2⟩, hfz78_0, hfz78_1, hfz78_2⟩ := bf3 BK102
              go_wp2_with (first | ((with_reducible refine gate_callee (f := 72) rfl ?_); refine gL (some 66) Try.func72 #[.bool (a2_1 == 1)] (spec_l13Bool.calls (a2_1 == 1) t113 t114 t115 _ A73.out) ?_; intro w79 hb; replace BK101 := kB BK101 hb; replace BK102 := kB BK102 hb; replace BK103 := kB BK103 hb; replace HB := kS HB hb; obtain ⟨⟨hcz80_0, hcz80_1, hcz80_2⟩, hfz80_0, hfz80_1, hfz80_2⟩ := bf3 BK103))
              refine bodyPost_ret (results_ct rfl _ _ gb103 36 #[.int .i64 t113, .int .i64 t114, .string t115] (0, 0) _ rfl (by (with_reducible repeat (first | refine blk_drewN ?_ _ | refine blk_drew ?_ | refine blk_alloc ?_ _)); refine blk_put (cs := #[.int .i64 t113, .int .i64 t114, .string (⟨#[]⟩ : ByteArray)]) ?_ 2 _ rfl; (with_reducible repeat (first | refine blk_drewN ?_ _ | refine blk_drew ?_ | refine blk_alloc ?_ _)); refine blk_put (cs := #[.int .i64 t113, .int .i64 0, .string (⟨#[]⟩ : ByteArray)]) ?_ 1 _ rfl; (with_reducible repeat (first | refine blk_drewN ?_ _ | refine blk_drew ?_ | refine blk_alloc ?_ _)); refine blk_put (cs := #[.int .i64 0, .int .i64 0, .string (⟨#[]⟩ : ByteArray)]) ?_ 0 _ rfl; (with_reducible repeat (first | refine blk_drewN ?_ _ | refine blk_drew ?_ | refine blk_alloc ?_ _)); exact BK103.out) Try.underlying36 rfl (by kernel_rfl)) rfl ?_
              exact ⟨by first | rfl | (simp [errW_none, errW_some] <;> rfl) | (simp [*, errW_none, errW_some] <;> rfl), kb HB⟩
            · rw [if_neg c72] at H
              have c72b0 : (a1_1 == 1) = false := beq_eq_false_iff_ne.mpr c72
              have c72b1 : (a1_1 != 1) = true := bne_iff_ne.mpr c72
              replace H := Option.bind_eq_some_iff.mp H
              obtain ⟨⟨t116, t117, t118⟩, A810, H⟩ := H
              replace H : (some (t116, t117, t118, (⟨#[]⟩ : ByteArray))) = some (r1, r2, r3, r4) := H
              have A81 := Aside0.mk A810
              clear A810
              simp only [Option.some.injEq, Prod.mk.injEq] at H
              obtain ⟨rfl, rfl, rfl, rfl⟩ := H
              have hnb82 := NB101_102.out
              have hnc82 := NB102_101.out
              have hnb83 := NB101_103.out
              have hnc83 := NB103_101.out
              obtain ⟨⟨hcz84_0, hcz84_1, hcz84_2⟩, hfz84_0, hfz84_1, hfz84_2⟩ := bf3 BK101
              have hnb85 := NB102_103.out
              have hnc85 := NB103_102.out
              obtain ⟨⟨hcz86_0, hcz86_1, hcz86_2⟩, hfz86_0, hfz86_1, hfz86_2⟩ := bf3 BK102
              go_wp2_with (first | ((with_reducible refine gate_callee (f := 72) rfl ?_); refine gL (some 66) Try.func72 #[.bool false] (spec_l13Bool.calls false t116 t117 t118 _ A81.out) ?_; intro w87 hb; replace BK101 := kB BK101 hb; replace BK102 := kB BK102 hb; replace BK103 := kB BK103 hb; replace HB := kS HB hb; obtain ⟨⟨hcz88_0, hcz88_1, hcz88_2⟩, hfz88_0, hfz88_1, hfz88_2⟩ := bf3 BK103))
              refine bodyPost_ret (results_ct rfl _ _ gb103 36 #[.int .i64 t116, .int .i64 t117, .string t118] (0, 0) _ rfl (by (with_reducible repeat (first | refine blk_drewN ?_ _ | refine blk_drew ?_ | refine blk_alloc ?_ _)); refine blk_put (cs := #[.int .i64 t116, .int .i64 t117, .string (⟨#[]⟩ : ByteArray)]) ?_ 2 _ rfl; (with_reducible repeat (first | refine blk_drewN ?_ _ | refine blk_drew ?_ | refine blk_alloc ?_ _)); refine blk_put (cs := #[.int .i64 t116, .int .i64 0, .string (⟨#[]⟩ : ByteArray)]) ?_ 1 _ rfl; (with_reducible repeat (first | refine blk_drewN ?_ _ | refine blk_drew ?_ | refine blk_alloc ?_ _)); refine blk_put (cs := #[.int .i64 0, .int .i64 0, .string (⟨#[]⟩ : ByteArray)]) ?_ 0 _ rfl; (with_reducible repeat (first | refine blk_drewN ?_ _ | refine blk_drew ?_ | refine blk_alloc ?_ _)); exact BK103.out) Try.underlying36 rfl (by kernel_rfl)) rfl ?_
              exact ⟨by first | rfl | (simp [errW_none, errW_some] <;> rfl) | (simp [*, errW_none, errW_some] <;> rfl), kb HB⟩
          · rw [if_neg c71] at H
            have c71b0 : (a0 == 2) = false := beq_eq_false_iff_ne.mpr c71
            have c71b1 : (a0 != 2) = true := bne_iff_ne.mpr c71
            have HC89 := Aside0.mk H
            clear H
            have hnb90 := NB101_102.out
            have hnc90 := NB102_101.out
            have hnb91 := NB101_103.out
            have hnc91 := NB103_101.out
            obtain ⟨⟨hcz92_0, hcz92_1, hcz92_2⟩, hfz92_0, hfz92_1, hfz92_2⟩ := bf3 BK101
            have hnb93 := NB102_103.out
            have hnc93 := NB103_102.out
            obtain ⟨⟨hcz94_0, hcz94_1, hcz94_2⟩, hfz94_0, hfz94_1, hfz94_2⟩ := bf3 BK102
            go_upto_if 67 with (fail)
            go_cut [67] (fun v67 wc => ∃ (kq : Nat) (x67_88 : Bool), v67 = .bool x67_88 ∧ Aside0 (spec_MillBinary.j1 kq a0 (IntKind.u64.wrap (a1_1)) (IntKind.u64.wrap (a2_1)) a0 x67_88 a1_0 a1_1 a1_2 a2_0 a2_1 a2_2 = some (r1, r2, r3, r4)) ∧ Aside0 (kq ≤ kj3) ∧ Aside0 (wc.heap[gb101]? = some (.cells #[.int .i64 a1_0, .int .i64 a1_1, .string a1_2] 36 (0, 0))) ∧ Aside0 (wc.heap[gb102]? = some (.cells #[.int .i64 a2_0, .int .i64 a2_1, .string a2_2] 36 (0, 0))) ∧ Aside0 (wc.heap[gb103]? = some (.cells #[.int .i64 0, .int .i64 0, .string (⟨#[]⟩ : ByteArray)] 36 (0, 0))) ∧ Aside0 (Below w.heap.size w wc))
            case first =>
              have H := HC89.out
              clear HC89
              by_cases c95 : a0 = 3
              · rw [if_pos c95] at H
                have c95b0 : (a0 == 3) = true := beq_iff_eq.mpr c95
                have c95b1 : (a0 != 3) = false := bne_eq_false_iff_eq.mpr c95
                clear c95
                (first | rw [c95b0] | (simp only [i64_w, i32_w]; rw [c95b0]) | skip)
                have H' := Aside0.mk H
                clear H
                go_wp2
                go_meet
                case rel => exact ⟨_, ((a0 == 3)), (by first | rfl | (simp; done) | (simp [*]; done)), H', ⟨by have := HJ3.out; first | omega | exact Nat.le_refl _⟩, ⟨kp BK101⟩, ⟨kp BK102⟩, ⟨kp BK103⟩, ⟨kb HB⟩⟩
              · rw [if_neg c95] at H
                have c95b0 : (a0 == 3) = false := beq_eq_false_iff_ne.mpr c95
                have c95b1 : (a0 != 3) = true := bne_iff_ne.mpr c95
                (first | rw [c95b0] | (simp only [i64_w, i32_w]; rw [c95b0]) | skip)
                by_cases c96 : a0 = 4
                · rw [if_pos c96] at H
                  have c96b0 : (a0 == 4) = true := beq_iff_eq.mpr c96
                  have c96b1 : (a0 != 4) = false := bne_eq_false_iff_eq.mpr c96
                  clear c96
                  have H' := Aside0.mk H
                  clear H
                  go_wp2
                  go_meet
                  case rel => exact ⟨_, ((a0 == 4)), (by first | rfl | (simp; done) | (simp [*]; done)), H', ⟨by have := HJ3.out; first | omega | exact Nat.le_refl _⟩, ⟨kp BK101⟩, ⟨kp BK102⟩, ⟨kp BK103⟩, ⟨kb HB⟩⟩
                · rw [if_neg c96] at H
                  have c96b0 : (a0 == 4) = false := beq_eq_false_iff_ne.mpr c96
                  have c96b1 : (a0 != 4) = true := bne_iff_ne.mpr c96
                  by_cases c97 : a0 = 5
                  · rw [if_pos c97] at H
                    have c97b0 : (a0 == 5) = true := beq_iff_eq.mpr c97
                    have c97b1 : (a0 != 5) = false := bne_eq_false_iff_eq.mpr c97
                    clear c97
                    have H' := Aside0.mk H
                    clear H
                    go_wp2
                    go_meet
                    case rel => exact ⟨_, ((a0 == 5)), (by first | rfl | (simp; done) | (simp [*]; done)), H', ⟨by have := HJ3.out; first | omega | exact Nat.le_refl _⟩, ⟨kp BK101⟩, ⟨kp BK102⟩, ⟨kp BK103⟩, ⟨kb HB⟩⟩
                  · rw [if_neg c97] at H
                    have c97b0 : (a0 == 5) = false := beq_eq_false_iff_ne.mpr c97
                    have c97b1 : (a0 != 5) = true := bne_iff_ne.mpr c97
                    by_cases c98 : a0 = 6
                    · rw [if_pos c98] at H
                      have c98b0 : (a0 == 6) = true := beq_iff_eq.mpr c98
                      have c98b1 : (a0 != 6) = false := bne_eq_false_iff_eq.mpr c98
                      clear c98
                      have H' := Aside0.mk H
                      clear H
                      go_wp2
                      go_meet
                      case rel => exact ⟨_, ((a0 == 6)), (by first | rfl | (simp; done) | (simp [*]; done)), H', ⟨by have := HJ3.out; first | omega | exact Nat.le_refl _⟩, ⟨kp BK101⟩, ⟨kp BK102⟩, ⟨kp BK103⟩, ⟨kb HB⟩⟩
                    · rw [if_neg c98] at H
                      have c98b0 : (a0 == 6) = false := beq_eq_false_iff_ne.mpr c98
                      have c98b1 : (a0 != 6) = true := bne_iff_ne.mpr c98
                      by_cases c99 : a0 = 7
                      · rw [if_pos c99] at H
                        have c99b0 : (a0 == 7) = true := beq_iff_eq.mpr c99
                        have c99b1 : (a0 != 7) = false := bne_eq_false_iff_eq.mpr c99
                        clear c99
                        have H' := Aside0.mk H
                        clear H
                        go_wp2
                        go_meet
                        case rel => exact ⟨_, ((a0 == 7)), (by first | rfl | (simp; done) | (simp [*]; done)), H', ⟨by have := HJ3.out; first | omega | exact Nat.le_refl _⟩, ⟨kp BK101⟩, ⟨kp BK102⟩, ⟨kp BK103⟩, ⟨kb HB⟩⟩
                      · rw [if_neg c99] at H
                        have c99b0 : (a0 == 7) = false := beq_eq_false_iff_ne.mpr c99
                        have c99b1 : (a0 != 7) = true := bne_iff_ne.mpr c99
                        have H' := Aside0.mk H
                        clear H
                        go_wp2
                        go_meet
                        case rel => exact ⟨_, ((a0 == 8)), (by first | rfl | (simp; done) | (simp [*]; done)), H', ⟨by have := HJ3.out; first | omega | exact Nat.le_refl _⟩, ⟨kp BK101⟩, ⟨kp BK102⟩, ⟨kp BK103⟩, ⟨kb HB⟩⟩
            case rest =>
              clear HC89
              obtain ⟨kq, x67_88, rfl, HA, HJ88, BK101, BK102, BK103, HB⟩ := hcut
              cases kq with
              | zero => exact absurd HA.out (by simp [spec_MillBinary.j1])
              | succ kj88 =>
                have H := HA.out
                clear HA
                simp only [spec_MillBinary.j1] at H
                by_cases c100 : x67_88 = true
                · subst c100
                  have H1 : ((spec_l13Order.f a0 a1_0 a1_1 a1_2 a2_0 a2_1 a2_2).bind fun t119 => ((spec_l13Bool.f t119).bind fun bt120 => (some (bt120.1, bt120.2.1, bt120.2.2, (⟨#[]⟩ : ByteArray))))) = some (r1, r2, r3, r4) := by rw [if_pos rfl] at H; exact H
                  clear H
                  have H := H1
                  clear H1
                  replace H := Option.bind_eq_some_iff.mp H
                  obtain ⟨t119, A1010, H⟩ := H
                  replace H : ((spec_l13Bool.f t119).bind fun bt120 => (some (bt120.1, bt120.2.1, bt120.2.2, (⟨#[]⟩ : ByteArray)))) = some (r1, r2, r3, r4) := H
                  have A101 := Aside0.mk A1010
                  clear A1010
                  replace H := Option.bind_eq_some_iff.mp H
                  obtain ⟨⟨t120, t121, t122⟩, A1020, H⟩ := H
                  replace H : (some (t120, t121, t122, (⟨#[]⟩ : ByteArray))) = some (r1, r2, r3, r4) := H
                  have A102 := Aside0.mk A1020
                  clear A1020
                  simp only [Option.some.injEq, Prod.mk.injEq] at H
                  obtain ⟨rfl, rfl, rfl, rfl⟩ := H
                  have hnb103 := NB101_102.out
                  have hnc103 := NB102_101.out
                  have hnb104 := NB101_103.out
                  have hnc104 := NB103_101.out
                  obtain ⟨⟨hcz105_0, hcz105_1, hcz105_2⟩, hfz105_0, hfz105_1, hfz105_2⟩ := bf3 BK101
                  have hnb106 := NB102_103.out
                  have hnc106 := NB103_102.out
                  obtain ⟨⟨hcz107_0, hcz107_1, hcz107_2⟩, hfz107_0, hfz107_1, hfz107_2⟩ := bf3 BK102
                  go_wp2_with (first | ((with_reducible refine gate_callee (f := 92) rfl ?_); refine gL (some 77) Try.func92 #[.int .i64 a0, .agg #[.int .i64 a1_0, .int .i64 a1_1, .string a1_2], .agg #[.int .i64 a2_0, .int .i64 a2_1, .string a2_2]] (spec_l13Order.calls a0 a1_0 a1_1 a1_2 a2_0 a2_1 a2_2 t119 _ A101.out) ?_; intro w108 hb; replace BK101 := kB BK101 hb; replace BK102 := kB BK102 hb; replace BK103 := kB BK103 hb; replace HB := kS HB hb) | ((with_reducible refine gate_callee (f := 72) rfl ?_); refine gL (some 78) Try.func72 #[.bool t119] (spec_l13Bool.calls t119 t120 t121 t122 _ A102.out) ?_; intro w109 hb; replace BK101 := kB BK101 hb; replace BK102 := kB BK102 hb; replace BK103 := kB BK103 hb; replace HB := kS HB hb; obtain ⟨⟨hcz110_0, hcz110_1, hcz110_2⟩, hfz110_0, hfz110_1, hfz110_2⟩ := bf3 BK103))
                  refine bodyPost_ret (results_ct rfl _ _ gb103 36 #[.int .i64 t120, .int .i64 t121, .string t122] (0, 0) _ rfl (by (with_reducible repeat (first | refine blk_drewN ?_ _ | refine blk_drew ?_ | refine blk_alloc ?_ _)); refine blk_put (cs := #[.int .i64 t120, .int .i64 t121, .string (⟨#[]⟩ : ByteArray)]) ?_ 2 _ rfl; (with_reducible repeat (first | refine blk_drewN ?_ _ | refine blk_drew ?_ | refine blk_alloc ?_ _)); refine blk_put (cs := #[.int .i64 t120, .int .i64 0, .string (⟨#[]⟩ : ByteArray)]) ?_ 1 _ rfl; (with_reducible repeat (first | refine blk_drewN ?_ _ | refine blk_drew ?_ | refine blk_alloc ?_ _)); refine blk_put (cs := #[.int .i64 0, .int .i64 0, .string (⟨#[]⟩ : ByteArray)]) ?_ 0 _ rfl; (with_reducible repeat (first | refine blk_drewN ?_ _ | refine blk_drew ?_ | refine blk_alloc ?_ _)); exact BK103.out) Try.underlying36 rfl (by kernel_rfl)) rfl ?_
                  exact ⟨by first | rfl | (simp [errW_none, errW_some] <;> rfl) | (simp [*, errW_none, errW_some] <;> rfl), kb HB⟩
                · replace c100 := Bool.eq_false_iff.mpr c100
                  subst c100
                  have H1 : (if a0 = 9 then (if a1_0 = 2 then (if (wrap64 ((a1_2.size : Int) + (a2_2.size : Int))) > 3000 then (some (0, 0, (⟨#[]⟩ : ByteArray), (⟨#[108, 111, 110, 103]⟩ : ByteArray))) else (if a1_2.size + a2_2.size ≤ 9223372036854775807 then ((spec_l13Text.f (a1_2 ++ a2_2)).bind fun bt123 => (some (bt123.1, bt123.2.1, bt123.2.2, (⟨#[]⟩ : ByteArray)))) else (none))) else ((spec_l13Num.f a1_0 (IntKind.u64.wrap ((IntKind.u64.wrap (a1_1)) + (IntKind.u64.wrap (a2_1))))).bind fun bt126 => (some (bt126.1, bt126.2.1, bt126.2.2, (⟨#[]⟩ : ByteArray))))) else (if a0 = 10 then ((spec_l13Num.f a1_0 (IntKind.u64.wrap ((IntKind.u64.wrap (a1_1)) - (IntKind.u64.wrap (a2_1))))).bind fun bt129 => (some (bt129.1, bt129.2.1, bt129.2.2, (⟨#[]⟩ : ByteArray)))) else (if a0 = 11 then ((spec_l13Num.f a1_0 (Go.bits .or .u64 (IntKind.u64.wrap (a1_1)) (IntKind.u64.wrap (a2_1)))).bind fun bt132 => (some (bt132.1, bt132.2.1, bt132.2.2, (⟨#[]⟩ : ByteArray)))) else (if a0 = 12 then ((spec_l13Num.f a1_0 (Go.bits .xor .u64 (IntKind.u64.wrap (a1_1)) (IntKind.u64.wrap (a2_1)))).bind fun bt135 => (some (bt135.1, bt135.2.1, bt135.2.2, (⟨#[]⟩ : ByteArray)))) else (if a0 = 13 then ((spec_l13Num.f a1_0 (IntKind.u64.wrap ((IntKind.u64.wrap (a1_1)) * (IntKind.u64.wrap (a2_1))))).bind fun bt138 => (some (bt138.1, bt138.2.1, bt138.2.2, (⟨#[]⟩ : ByteArray)))) else (if a0 = 16 then ((spec_l13Num.f a1_0 (Go.bits .and .u64 (IntKind.u64.wrap (a1_1)) (IntKind.u64.wrap (a2_1)))).bind fun bt141 => (some (bt141.1, bt141.2.1, bt141.2.2, (⟨#[]⟩ : ByteArray)))) else (if a0 = 17 then ((spec_l13Shift.f kj88 a0 a1_0 a1_1 a2_1).bind fun bt144 => (some (bt144.1, bt144.2.1, bt144.2.2, (⟨#[]⟩ : ByteArray)))) else (if a0 = 18 then ((spec_l13Shift.f kj88 a0 a1_0 a1_1 a2_1).bind fun bt147 => (some (bt147.1, bt147.2.1, bt147.2.2, (⟨#[]⟩ : ByteArray)))) else (if a2_1 = 0 then (some (0, 0, (⟨#[]⟩ : ByteArray), (⟨#[100, 105, 118, 105, 100, 101]⟩ : ByteArray))) else ((spec_l13Divide.f kj88 a1_0 a1_1 a2_1).bind fun bt150 => (if a0 = 14 then (some (bt150.1, bt150.2.1, bt150.2.2.1, (⟨#[]⟩ : ByteArray))) else (some (bt150.2.2.2.1, bt150.2.2.2.2.1, bt150.2.2.2.2.2, (⟨#[]⟩ : ByteArray)))))))))))))) = some (r1, r2, r3, r4) := by rw [if_neg (show ¬ (false = true) by decide)] at H; exact H
                  clear H
                  have H := H1
                  clear H1
                  by_cases c111 : a0 = 9
                  · rw [if_pos c111] at H
                    have c111b0 : (a0 == 9) = true := beq_iff_eq.mpr c111
                    have c111b1 : (a0 != 9) = false := bne_eq_false_iff_eq.mpr c111
                    clear c111
                    by_cases c112 : a1_0 = 2
                    · rw [if_pos c112] at H
                      have c112b0 : (a1_0 == 2) = true := beq_iff_eq.mpr c112
                      have c112b1 : (a1_0 != 2) = false := bne_eq_false_iff_eq.mpr c112
                      clear c112
                      by_cases c113 : (wrap64 ((a1_2.size : Int) + (a2_2.size : Int))) > 3000
                      · rw [if_pos c113] at H
                        have c113b0 : decide (3000 < (wrap64 ((a1_2.size : Int) + (a2_2.size : Int)))) = true := decide_eq_true c113
                        clear c113
                        simp only [Option.some.injEq, Prod.mk.injEq] at H
                        obtain ⟨rfl, rfl, rfl, rfl⟩ := H
                        have hnb114 := NB101_102.out
                        have hnc114 := NB102_101.out
                        have hnb115 := NB101_103.out
                        have hnc115 := NB103_101.out
                        obtain ⟨⟨hcz116_0, hcz116_1, hcz116_2⟩, hfz116_0, hfz116_1, hfz116_2⟩ := bf3 BK101
                        have hnb117 := NB102_103.out
                        have hnc117 := NB103_102.out
                        obtain ⟨⟨hcz118_0, hcz118_1, hcz118_2⟩, hfz118_0, hfz118_1, hfz118_2⟩ := bf3 BK102
                        obtain ⟨⟨hcz119_0, hcz119_1, hcz119_2⟩, hfz119_0, hfz119_1, hfz119_2⟩ := bf3 BK103
                        go_wp2
                        refine bodyPost_ret (results_ct rfl _ _ gb103 36 #[.int .i64 0, .int .i64 0, .string (⟨#[]⟩ : ByteArray)] (0, 0) _ rfl (by (with_reducible repeat (first | refine blk_drewN ?_ _ | refine blk_drew ?_ | refine blk_alloc ?_ _)); refine blk_put (cs := #[.int .i64 0, .int .i64 0, .string (⟨#[]⟩ : ByteArray)]) ?_ 2 _ rfl; (with_reducible repeat (first | refine blk_drewN ?_ _ | refine blk_drew ?_ | refine blk_alloc ?_ _)); refine blk_put (cs := #[.int .i64 0, .int .i64 0, .string (⟨#[]⟩ : ByteArray)]) ?_ 1 _ rfl; (with_reducible repeat (first | refine blk_drewN ?_ _ | refine blk_drew ?_ | refine blk_alloc ?_ _)); refine blk_put (cs := #[.int .i64 0, .int .i64 0, .string (⟨#[]⟩ : ByteArray)]) ?_ 0 _ rfl; (with_reducible repeat (first | refine blk_drewN ?_ _ | refine blk_drew ?_ | refine blk_alloc ?_ _)); exact BK103.out) Try.underlying36 rfl (by kernel_rfl)) rfl ?_
                        exact ⟨by first | rfl | (simp [errW_none, errW_some] <;> rfl) | (simp [*, errW_none, errW_some] <;> rfl), kb HB⟩
                      · rw [if_neg c113] at H
                        have c113b0 : decide (3000 < (wrap64 ((a1_2.size : Int) + (a2_2.size : Int)))) = false := decide_eq_false c113
                        clear c113
                        by_cases c120 : a1_2.size + a2_2.size ≤ 9223372036854775807
                        · rw [if_pos c120] at H
                          have c120b0 := eq_true c120
                          have c120b1 : decide (a1_2.size + a2_2.size ≤ 9223372036854775807) = true := decide_eq_true c120
                          try have c120b2 : (9223372036854775807 < a1_2.size + a2_2.size) = False := eq_false (Nat.not_lt.2 c120)
                          (try (have c113wc120 := c113b0; rw [show wrap64 ((a1_2.size : Int) + (a2_2.size : Int)) = (a1_2.size : Int) + (a2_2.size : Int) from by (unfold wrap64; omega)] at c113wc120))
                          replace H := Option.bind_eq_some_iff.mp H
                          obtain ⟨⟨t123, t124, t125⟩, A1210, H⟩ := H
                          replace H : (some (t123, t124, t125, (⟨#[]⟩ : ByteArray))) = some (r1, r2, r3, r4) := H
                          have A121 := Aside0.mk A1210
                          clear A1210
                          simp only [Option.some.injEq, Prod.mk.injEq] at H
                          obtain ⟨rfl, rfl, rfl, rfl⟩ := H
                          have hnb122 := NB101_102.out
                          have hnc122 := NB102_101.out
                          have hnb123 := NB101_103.out
                          have hnc123 := NB103_101.out
                          obtain ⟨⟨hcz124_0, hcz124_1, hcz124_2⟩, hfz124_0, hfz124_1, hfz124_2⟩ := bf3 BK101
                          have hnb125 := NB102_103.out
                          have hnc125 := NB103_102.out
                          obtain ⟨⟨hcz126_0, hcz126_1, hcz126_2⟩, hfz126_0, hfz126_1, hfz126_2⟩ := bf3 BK102
                          go_wp2_with (first | ((with_reducible refine gate_callee (f := 93) rfl ?_); refine gL (some 104) Try.func93 #[.string (a1_2 ++ a2_2)] (spec_l13Text.calls (a1_2 ++ a2_2) t123 t124 t125 _ A121.out) ?_; intro w127 hb; replace BK101 := kB BK101 hb; replace BK102 := kB BK102 hb; replace BK103 := kB BK103 hb; replace HB := kS HB hb; obtain ⟨⟨hcz128_0, hcz128_1, hcz128_2⟩, hfz128_0, hfz128_1, hfz128_2⟩ := bf3 BK103))
                          refine bodyPost_ret (results_ct rfl _ _ gb103 36 #[.int .i64 t123, .int .i64 t124, .string t125] (0, 0) _ rfl (by (with_reducible repeat (first | refine blk_drewN ?_ _ | refine blk_drew ?_ | refine blk_alloc ?_ _)); refine blk_put (cs := #[.int .i64 t123, .int .i64 t124, .string (⟨#[]⟩ : ByteArray)]) ?_ 2 _ rfl; (with_reducible repeat (first | refine blk_drewN ?_ _ | refine blk_drew ?_ | refine blk_alloc ?_ _)); refine blk_put (cs := #[.int .i64 t123, .int .i64 0, .string (⟨#[]⟩ : ByteArray)]) ?_ 1 _ rfl; (with_reducible repeat (first | refine blk_drewN ?_ _ | refine blk_drew ?_ | refine blk_alloc ?_ _)); refine blk_put (cs := #[.int .i64 0, .int .i64 0, .string (⟨#[]⟩ : ByteArray)]) ?_ 0 _ rfl; (with_reducible repeat (first | refine blk_drewN ?_ _ | refine blk_drew ?_ | refine blk_alloc ?_ _)); exact BK103.out) Try.underlying36 rfl (by kernel_rfl)) rfl ?_
                          exact ⟨by first | rfl | (simp [errW_none, errW_some] <;> rfl) | (simp [*, errW_none, errW_some] <;> rfl), kb HB⟩
                        · rw [if_neg c120] at H
                          exact absurd H (by simp)
                    · rw [if_neg c112] at H
                      have c112b0 : (a1_0 == 2) = false := beq_eq_false_iff_ne.mpr c112
                      have c112b1 : (a1_0 != 2) = true := bne_iff_ne.mpr c112
                      replace H := Option.bind_eq_some_iff.mp H
                      obtain ⟨⟨t126, t127, t128⟩, A1290, H⟩ := H
                      replace H : (some (t126, t127, t128, (⟨#[]⟩ : ByteArray))) = some (r1, r2, r3, r4) := H
                      have A129 := Aside0.mk A1290
                      clear A1290
                      simp only [Option.some.injEq, Prod.mk.injEq] at H
                      obtain ⟨rfl, rfl, rfl, rfl⟩ := H
                      have hnb130 := NB101_102.out
                      have hnc130 := NB102_101.out
                      have hnb131 := NB101_103.out
                      have hnc131 := NB103_101.out
                      obtain ⟨⟨hcz132_0, hcz132_1, hcz132_2⟩, hfz132_0, hfz132_1, hfz132_2⟩ := bf3 BK101
                      go_wp2_with (first | ((with_reducible refine gate_callee (f := 56) rfl ?_); refine gL (some 89) Try.func56 #[.int .i64 a1_0, .int .u64 (IntKind.u64.wrap ((IntKind.u64.wrap (a1_1)) + (IntKind.u64.wrap (a2_1))))] (spec_l13Num.calls a1_0 (IntKind.u64.wrap ((IntKind.u64.wrap (a1_1)) + (IntKind.u64.wrap (a2_1)))) t126 t127 t128 _ A129.out) ?_; intro w133 hb; replace BK101 := kB BK101 hb; replace BK102 := kB BK102 hb; replace BK103 := kB BK103 hb; replace HB := kS HB hb; have hnb134 := NB103_102.out; have hnc134 := NB102_103.out; obtain ⟨⟨hcz135_0, hcz135_1, hcz135_2⟩, hfz135_0, hfz135_1, hfz135_2⟩ := bf3 BK103))
                      refine bodyPost_ret (results_ct rfl _ _ gb103 36 #[.int .i64 t126, .int .i64 t127, .string t128] (0, 0) _ rfl (by (with_reducible repeat (first | refine blk_drewN ?_ _ | refine blk_drew ?_ | refine blk_alloc ?_ _)); refine blk_put (cs := #[.int .i64 t126, .int .i64 t127, .string (⟨#[]⟩ : ByteArray)]) ?_ 2 _ rfl; (with_reducible repeat (first | refine blk_drewN ?_ _ | refine blk_drew ?_ | refine blk_alloc ?_ _)); refine blk_put (cs := #[.int .i64 t126, .int .i64 0, .string (⟨#[]⟩ : ByteArray)]) ?_ 1 _ rfl; (with_reducible repeat (first | refine blk_drewN ?_ _ | refine blk_drew ?_ | refine blk_alloc ?_ _)); refine blk_put (cs := #[.int .i64 0, .int .i64 0, .string (⟨#[]⟩ : ByteArray)]) ?_ 0 _ rfl; (with_reducible repeat (first | refine blk_drewN ?_ _ | refine blk_drew ?_ | refine blk_alloc ?_ _)); exact BK103.out) Try.underlying36 rfl (by kernel_rfl)) rfl ?_
                      exact ⟨by first | rfl | (simp [errW_none, errW_some] <;> rfl) | (simp [*, errW_none, errW_some] <;> rfl), kb HB⟩
                  · rw [if_neg c111] at H
                    have c111b0 : (a0 == 9) = false := beq_eq_false_iff_ne.mpr c111
                    have c111b1 : (a0 != 9) = true := bne_iff_ne.mpr c111
                    by_cases c136 : a0 = 10
                    · rw [if_pos c136] at H
                      have c136b0 : (a0 == 10) = true := beq_iff_eq.mpr c136
                      have c136b1 : (a0 != 10) = false := bne_eq_false_iff_eq.mpr c136
                      clear c136
                      replace H := Option.bind_eq_some_iff.mp H
                      obtain ⟨⟨t129, t130, t131⟩, A1370, H⟩ := H
                      replace H : (some (t129, t130, t131, (⟨#[]⟩ : ByteArray))) = some (r1, r2, r3, r4) := H
                      have A137 := Aside0.mk A1370
                      clear A1370
                      simp only [Option.some.injEq, Prod.mk.injEq] at H
                      obtain ⟨rfl, rfl, rfl, rfl⟩ := H
                      have hnb138 := NB101_102.out
                      have hnc138 := NB102_101.out
                      have hnb139 := NB101_103.out
                      have hnc139 := NB103_101.out
                      obtain ⟨⟨hcz140_0, hcz140_1, hcz140_2⟩, hfz140_0, hfz140_1, hfz140_2⟩ := bf3 BK101
                      go_wp2_with (first | ((with_reducible refine gate_callee (f := 56) rfl ?_); refine gL (some 112) Try.func56 #[.int .i64 a1_0, .int .u64 (IntKind.u64.wrap ((IntKind.u64.wrap (a1_1)) - (IntKind.u64.wrap (a2_1))))] (spec_l13Num.calls a1_0 (IntKind.u64.wrap ((IntKind.u64.wrap (a1_1)) - (IntKind.u64.wrap (a2_1)))) t129 t130 t131 _ A137.out) ?_; intro w141 hb; replace BK101 := kB BK101 hb; replace BK102 := kB BK102 hb; replace BK103 := kB BK103 hb; replace HB := kS HB hb; have hnb142 := NB103_102.out; have hnc142 := NB102_103.out; obtain ⟨⟨hcz143_0, hcz143_1, hcz143_2⟩, hfz143_0, hfz143_1, hfz143_2⟩ := bf3 BK103))
                      refine bodyPost_ret (results_ct rfl _ _ gb103 36 #[.int .i64 t129, .int .i64 t130, .string t131] (0, 0) _ rfl (by (with_reducible repeat (first | refine blk_drewN ?_ _ | refine blk_drew ?_ | refine blk_alloc ?_ _)); refine blk_put (cs := #[.int .i64 t129, .int .i64 t130, .string (⟨#[]⟩ : ByteArray)]) ?_ 2 _ rfl; (with_reducible repeat (first | refine blk_drewN ?_ _ | refine blk_drew ?_ | refine blk_alloc ?_ _)); refine blk_put (cs := #[.int .i64 t129, .int .i64 0, .string (⟨#[]⟩ : ByteArray)]) ?_ 1 _ rfl; (with_reducible repeat (first | refine blk_drewN ?_ _ | refine blk_drew ?_ | refine blk_alloc ?_ _)); refine blk_put (cs := #[.int .i64 0, .int .i64 0, .string (⟨#[]⟩ : ByteArray)]) ?_ 0 _ rfl; (with_reducible repeat (first | refine blk_drewN ?_ _ | refine blk_drew ?_ | refine blk_alloc ?_ _)); exact BK103.out) Try.underlying36 rfl (by kernel_rfl)) rfl ?_
                      exact ⟨by first | rfl | (simp [errW_none, errW_some] <;> rfl) | (simp [*, errW_none, errW_some] <;> rfl), kb HB⟩
                    · rw [if_neg c136] at H
                      have c136b0 : (a0 == 10) = false := beq_eq_false_iff_ne.mpr c136
                      have c136b1 : (a0 != 10) = true := bne_iff_ne.mpr c136
                      by_cases c144 : a0 = 11
                      · rw [if_pos c144] at H
                        have c144b0 : (a0 == 11) = true := beq_iff_eq.mpr c144
                        have c144b1 : (a0 != 11) = false := bne_eq_false_iff_eq.mpr c144
                        clear c144
                        replace H := Option.bind_eq_some_iff.mp H
                        obtain ⟨⟨t132, t133, t134⟩, A1450, H⟩ := H
                        replace H : (some (t132, t133, t134, (⟨#[]⟩ : ByteArray))) = some (r1, r2, r3, r4) := H
                        have A145 := Aside0.mk A1450
                        clear A1450
                        simp only [Option.some.injEq, Prod.mk.injEq] at H
                        obtain ⟨rfl, rfl, rfl, rfl⟩ := H
                        have hnb146 := NB101_102.out
                        have hnc146 := NB102_101.out
                        have hnb147 := NB101_103.out
                        have hnc147 := NB103_101.out
                        obtain ⟨⟨hcz148_0, hcz148_1, hcz148_2⟩, hfz148_0, hfz148_1, hfz148_2⟩ := bf3 BK101
                        go_wp2_with (first | ((with_reducible refine gate_callee (f := 56) rfl ?_); refine gL (some 120) Try.func56 #[.int .i64 a1_0, .int .u64 (Go.bits .or .u64 (IntKind.u64.wrap (a1_1)) (IntKind.u64.wrap (a2_1)))] (spec_l13Num.calls a1_0 (Go.bits .or .u64 (IntKind.u64.wrap (a1_1)) (IntKind.u64.wrap (a2_1))) t132 t133 t134 _ A145.out) ?_; intro w149 hb; replace BK101 := kB BK101 hb; replace BK102 := kB BK102 hb; replace BK103 := kB BK103 hb; replace HB := kS HB hb; have hnb150 := NB103_102.out; have hnc150 := NB102_103.out; obtain ⟨⟨hcz151_0, hcz151_1, hcz151_2⟩, hfz151_0, hfz151_1, hfz151_2⟩ := bf3 BK103))
                        refine bodyPost_ret (results_ct rfl _ _ gb103 36 #[.int .i64 t132, .int .i64 t133, .string t134] (0, 0) _ rfl (by (with_reducible repeat (first | refine blk_drewN ?_ _ | refine blk_drew ?_ | refine blk_alloc ?_ _)); refine blk_put (cs := #[.int .i64 t132, .int .i64 t133, .string (⟨#[]⟩ : ByteArray)]) ?_ 2 _ rfl; (with_reducible repeat (first | refine blk_drewN ?_ _ | refine blk_drew ?_ | refine blk_alloc ?_ _)); refine blk_put (cs := #[.int .i64 t132, .int .i64 0, .string (⟨#[]⟩ : ByteArray)]) ?_ 1 _ rfl; (with_reducible repeat (first | refine blk_drewN ?_ _ | refine blk_drew ?_ | refine blk_alloc ?_ _)); refine blk_put (cs := #[.int .i64 0, .int .i64 0, .string (⟨#[]⟩ : ByteArray)]) ?_ 0 _ rfl; (with_reducible repeat (first | refine blk_drewN ?_ _ | refine blk_drew ?_ | refine blk_alloc ?_ _)); exact BK103.out) Try.underlying36 rfl (by kernel_rfl)) rfl ?_
                        exact ⟨by first | rfl | (simp [errW_none, errW_some] <;> rfl) | (simp [*, errW_none, errW_some] <;> rfl), kb HB⟩
                      · rw [if_neg c144] at H
                        have c144b0 : (a0 == 11) = false := beq_eq_false_iff_ne.mpr c144
                        have c144b1 : (a0 != 11) = true := bne_iff_ne.mpr c144
                        by_cases c152 : a0 = 12
                        · rw [if_pos c152] at H
                          have c152b0 : (a0 == 12) = true := beq_iff_eq.mpr c152
                          have c152b1 : (a0 != 12) = false := bne_eq_false_iff_eq.mpr c152
                          clear c152
                          replace H := Option.bind_eq_some_iff.mp H
                          obtain ⟨⟨t135, t136, t137⟩, A1530, H⟩ := H
                          replace H : (some (t135, t136, t137, (⟨#[]⟩ : ByteArray))) = some (r1, r2, r3, r4) := H
                          have A153 := Aside0.mk A1530
                          clear A1530
                          simp only [Option.some.injEq, Prod.mk.injEq] at H
                          obtain ⟨rfl, rfl, rfl, rfl⟩ := H
                          have hnb154 := NB101_102.out
                          have hnc154 := NB102_101.out
                          have hnb155 := NB101_103.out
                          have hnc155 := NB103_101.out
                          obtain ⟨⟨hcz156_0, hcz156_1, hcz156_2⟩, hfz156_0, hfz156_1, hfz156_2⟩ := bf3 BK101
                          go_wp2_with (first | ((with_reducible refine gate_callee (f := 56) rfl ?_); refine gL (some 128) Try.func56 #[.int .i64 a1_0, .int .u64 (Go.bits .xor .u64 (IntKind.u64.wrap (a1_1)) (IntKind.u64.wrap (a2_1)))] (spec_l13Num.calls a1_0 (Go.bits .xor .u64 (IntKind.u64.wrap (a1_1)) (IntKind.u64.wrap (a2_1))) t135 t136 t137 _ A153.out) ?_; intro w157 hb; replace BK101 := kB BK101 hb; replace BK102 := kB BK102 hb; replace BK103 := kB BK103 hb; replace HB := kS HB hb; have hnb158 := NB103_102.out; have hnc158 := NB102_103.out; obtain ⟨⟨hcz159_0, hcz159_1, hcz159_2⟩, hfz159_0, hfz159_1, hfz159_2⟩ := bf3 BK103))
                          refine bodyPost_ret (results_ct rfl _ _ gb103 36 #[.int .i64 t135, .int .i64 t136, .string t137] (0, 0) _ rfl (by (with_reducible repeat (first | refine blk_drewN ?_ _ | refine blk_drew ?_ | refine blk_alloc ?_ _)); refine blk_put (cs := #[.int .i64 t135, .int .i64 t136, .string (⟨#[]⟩ : ByteArray)]) ?_ 2 _ rfl; (with_reducible repeat (first | refine blk_drewN ?_ _ | refine blk_drew ?_ | refine blk_alloc ?_ _)); refine blk_put (cs := #[.int .i64 t135, .int .i64 0, .string (⟨#[]⟩ : ByteArray)]) ?_ 1 _ rfl; (with_reducible repeat (first | refine blk_drewN ?_ _ | refine blk_drew ?_ | refine blk_alloc ?_ _)); refine blk_put (cs := #[.int .i64 0, .int .i64 0, .string (⟨#[]⟩ : ByteArray)]) ?_ 0 _ rfl; (with_reducible repeat (first | refine blk_drewN ?_ _ | refine blk_drew ?_ | refine blk_alloc ?_ _)); exact BK103.out) Try.underlying36 rfl (by kernel_rfl)) rfl ?_
                          exact ⟨by first | rfl | (simp [errW_none, errW_some] <;> rfl) | (simp [*, errW_none, errW_some] <;> rfl), kb HB⟩
                        · rw [if_neg c152] at H
                          have c152b0 : (a0 == 12) = false := beq_eq_false_iff_ne.mpr c152
                          have c152b1 : (a0 != 12) = true := bne_iff_ne.mpr c152
                          by_cases c160 : a0 = 13
                          · rw [if_pos c160] at H
                            have c160b0 : (a0 == 13) = true := beq_iff_eq.mpr c160
                            have c160b1 : (a0 != 13) = false := bne_eq_false_iff_eq.mpr c160
                            clear c160
                            replace H := Option.bind_eq_some_iff.mp H
                            obtain ⟨⟨t138, t139, t140⟩, A1610, H⟩ := H
                            replace H : (some (t138, t139, t140, (⟨#[]⟩ : ByteArray))) = some (r1, r2, r3, r4) := H
                            have A161 := Aside0.mk A1610
                            clear A1610
                            simp only [Option.some.injEq, Prod.mk.injEq] at H
                            obtain ⟨rfl, rfl, rfl, rfl⟩ := H
                            have hnb162 := NB101_102.out
                            have hnc162 := NB102_101.out
                            have hnb163 := NB101_103.out
                            have hnc163 := NB103_101.out
                            obtain ⟨⟨hcz164_0, hcz164_1, hcz164_2⟩, hfz164_0, hfz164_1, hfz164_2⟩ := bf3 BK101
                            go_wp2_with (first | ((with_reducible refine gate_callee (f := 56) rfl ?_); refine gL (some 136) Try.func56 #[.int .i64 a1_0, .int .u64 (IntKind.u64.wrap ((IntKind.u64.wrap (a1_1)) * (IntKind.u64.wrap (a2_1))))] (spec_l13Num.calls a1_0 (IntKind.u64.wrap ((IntKind.u64.wrap (a1_1)) * (IntKind.u64.wrap (a2_1)))) t138 t139 t140 _ A161.out) ?_; intro w165 hb; replace BK101 := kB BK101 hb; replace BK102 := kB BK102 hb; replace BK103 := kB BK103 hb; replace HB := kS HB hb; have hnb166 := NB103_102.out; have hnc166 := NB102_103.out; obtain ⟨⟨hcz167_0, hcz167_1, hcz167_2⟩, hfz167_0, hfz167_1, hfz167_2⟩ := bf3 BK103))
                            refine bodyPost_ret (results_ct rfl _ _ gb103 36 #[.int .i64 t138, .int .i64 t139, .string t140] (0, 0) _ rfl (by (with_reducible repeat (first | refine blk_drewN ?_ _ | refine blk_drew ?_ | refine blk_alloc ?_ _)); refine blk_put (cs := #[.int .i64 t138, .int .i64 t139, .string (⟨#[]⟩ : ByteArray)]) ?_ 2 _ rfl; (with_reducible repeat (first | refine blk_drewN ?_ _ | refine blk_drew ?_ | refine blk_alloc ?_ _)); refine blk_put (cs := #[.int .i64 t138, .int .i64 0, .string (⟨#[]⟩ : ByteArray)]) ?_ 1 _ rfl; (with_reducible repeat (first | refine blk_drewN ?_ _ | refine blk_drew ?_ | refine blk_alloc ?_ _)); refine blk_put (cs := #[.int .i64 0, .int .i64 0, .string (⟨#[]⟩ : ByteArray)]) ?_ 0 _ rfl; (with_reducible repeat (first | refine blk_drewN ?_ _ | refine blk_drew ?_ | refine blk_alloc ?_ _)); exact BK103.out) Try.underlying36 rfl (by kernel_rfl)) rfl ?_
                            exact ⟨by first | rfl | (simp [errW_none, errW_some] <;> rfl) | (simp [*, errW_none, errW_some] <;> rfl), kb HB⟩
                          · rw [if_neg c160] at H
                            have c160b0 : (a0 == 13) = false := beq_eq_false_iff_ne.mpr c160
                            have c160b1 : (a0 != 13) = true := bne_iff_ne.mpr c160
                            by_cases c168 : a0 = 16
                            · rw [if_pos c168] at H
                              have c168b0 : (a0 == 16) = true := beq_iff_eq.mpr c168
                              have c168b1 : (a0 != 16) = false := bne_eq_false_iff_eq.mpr c168
                              clear c168
                              replace H := Option.bind_eq_some_iff.mp H
                              obtain ⟨⟨t141, t142, t143⟩, A1690, H⟩ := H
                              replace H : (some (t141, t142, t143, (⟨#[]⟩ : ByteArray))) = some (r1, r2, r3, r4) := H
                              have A169 := Aside0.mk A1690
                              clear A1690
                              simp only [Option.some.injEq, Prod.mk.injEq] at H
                              obtain ⟨rfl, rfl, rfl, rfl⟩ := H
                              have hnb170 := NB101_102.out
                              have hnc170 := NB102_101.out
                              have hnb171 := NB101_103.out
                              have hnc171 := NB103_101.out
                              obtain ⟨⟨hcz172_0, hcz172_1, hcz172_2⟩, hfz172_0, hfz172_1, hfz172_2⟩ := bf3 BK101
                              go_wp2_with (first | ((with_reducible refine gate_callee (f := 56) rfl ?_); refine gL (some 144) Try.func56 #[.int .i64 a1_0, .int .u64 (Go.bits .and .u64 (IntKind.u64.wrap (a1_1)) (IntKind.u64.wrap (a2_1)))] (spec_l13Num.calls a1_0 (Go.bits .and .u64 (IntKind.u64.wrap (a1_1)) (IntKind.u64.wrap (a2_1))) t141 t142 t143 _ A169.out) ?_; intro w173 hb; replace BK101 := kB BK101 hb; replace BK102 := kB BK102 hb; replace BK103 := kB BK103 hb; replace HB := kS HB hb; have hnb174 := NB103_102.out; have hnc174 := NB102_103.out; obtain ⟨⟨hcz175_0, hcz175_1, hcz175_2⟩, hfz175_0, hfz175_1, hfz175_2⟩ := bf3 BK103))
                              refine bodyPost_ret (results_ct rfl _ _ gb103 36 #[.int .i64 t141, .int .i64 t142, .string t143] (0, 0) _ rfl (by (with_reducible repeat (first | refine blk_drewN ?_ _ | refine blk_drew ?_ | refine blk_alloc ?_ _)); refine blk_put (cs := #[.int .i64 t141, .int .i64 t142, .string (⟨#[]⟩ : ByteArray)]) ?_ 2 _ rfl; (with_reducible repeat (first | refine blk_drewN ?_ _ | refine blk_drew ?_ | refine blk_alloc ?_ _)); refine blk_put (cs := #[.int .i64 t141, .int .i64 0, .string (⟨#[]⟩ : ByteArray)]) ?_ 1 _ rfl; (with_reducible repeat (first | refine blk_drewN ?_ _ | refine blk_drew ?_ | refine blk_alloc ?_ _)); refine blk_put (cs := #[.int .i64 0, .int .i64 0, .string (⟨#[]⟩ : ByteArray)]) ?_ 0 _ rfl; (with_reducible repeat (first | refine blk_drewN ?_ _ | refine blk_drew ?_ | refine blk_alloc ?_ _)); exact BK103.out) Try.underlying36 rfl (by kernel_rfl)) rfl ?_
                              exact ⟨by first | rfl | (simp [errW_none, errW_some] <;> rfl) | (simp [*, errW_none, errW_some] <;> rfl), kb HB⟩
                            · rw [if_neg c168] at H
                              have c168b0 : (a0 == 16) = false := beq_eq_false_iff_ne.mpr c168
                              have c168b1 : (a0 != 16) = true := bne_iff_ne.mpr c168
                              by_cases c176 : a0 = 17
                              · rw [if_pos c176] at H
                                have c176b0 : (a0 == 17) = true := beq_iff_eq.mpr c176
                                have c176b1 : (a0 != 17) = false := bne_eq_false_iff_eq.mpr c176
                                clear c176
                                replace H := Option.bind_eq_some_iff.mp H
                                obtain ⟨⟨t144, t145, t146⟩, A1770, H⟩ := H
                                replace H : (some (t144, t145, t146, (⟨#[]⟩ : ByteArray))) = some (r1, r2, r3, r4) := H
                                have A177 := Aside0.mk A1770
                                clear A1770
                                simp only [Option.some.injEq, Prod.mk.injEq] at H
                                obtain ⟨rfl, rfl, rfl, rfl⟩ := H
                                have hnb178 := NB101_102.out
                                have hnc178 := NB102_101.out
                                have hnb179 := NB101_103.out
                                have hnc179 := NB103_101.out
                                obtain ⟨⟨hcz180_0, hcz180_1, hcz180_2⟩, hfz180_0, hfz180_1, hfz180_2⟩ := bf3 BK101
                                have hnb181 := NB102_103.out
                                have hnc181 := NB103_102.out
                                obtain ⟨⟨hcz182_0, hcz182_1, hcz182_2⟩, hfz182_0, hfz182_1, hfz182_2⟩ := bf3 BK102
                                go_wp2_with (first | ((with_reducible refine gate_callee (f := 94) rfl ?_); refine gL (some 155) Try.func94 #[.int .i64 a0, .int .i64 a1_0, .int .i64 a1_1, .int .i64 a2_1] (spec_l13Shift.calls kj88 a0 a1_0 a1_1 a2_1 t144 t145 t146 _ A177.out) ?_; intro w183 hb; replace BK101 := kB BK101 hb; replace BK102 := kB BK102 hb; replace BK103 := kB BK103 hb; replace HB := kS HB hb; obtain ⟨⟨hcz184_0, hcz184_1, hcz184_2⟩, hfz184_0, hfz184_1, hfz184_2⟩ := bf3 BK103))
                                refine bodyPost_ret (results_ct rfl _ _ gb103 36 #[.int .i64 t144, .int .i64 t145, .string t146] (0, 0) _ rfl (by (with_reducible repeat (first | refine blk_drewN ?_ _ | refine blk_drew ?_ | refine blk_alloc ?_ _)); refine blk_put (cs := #[.int .i64 t144, .int .i64 t145, .string (⟨#[]⟩ : ByteArray)]) ?_ 2 _ rfl; (with_reducible repeat (first | refine blk_drewN ?_ _ | refine blk_drew ?_ | refine blk_alloc ?_ _)); refine blk_put (cs := #[.int .i64 t144, .int .i64 0, .string (⟨#[]⟩ : ByteArray)]) ?_ 1 _ rfl; (with_reducible repeat (first | refine blk_drewN ?_ _ | refine blk_drew ?_ | refine blk_alloc ?_ _)); refine blk_put (cs := #[.int .i64 0, .int .i64 0, .string (⟨#[]⟩ : ByteArray)]) ?_ 0 _ rfl; (with_reducible repeat (first | refine blk_drewN ?_ _ | refine blk_drew ?_ | refine blk_alloc ?_ _)); exact BK103.out) Try.underlying36 rfl (by kernel_rfl)) rfl ?_
                                exact ⟨by first | rfl | (simp [errW_none, errW_some] <;> rfl) | (simp [*, errW_none, errW_some] <;> rfl), kb HB⟩
                              · rw [if_neg c176] at H
                                have c176b0 : (a0 == 17) = false := beq_eq_false_iff_ne.mpr c176
                                have c176b1 : (a0 != 17) = true := bne_iff_ne.mpr c176
                                by_cases c185 : a0 = 18
                                · rw [if_pos c185] at H
                                  have c185b0 : (a0 == 18) = true := beq_iff_eq.mpr c185
                                  have c185b1 : (a0 != 18) = false := bne_eq_false_iff_eq.mpr c185
                                  clear c185
                                  replace H := Option.bind_eq_some_iff.mp H
                                  obtain ⟨⟨t147, t148, t149⟩, A1860, H⟩ := H
                                  replace H : (some (t147, t148, t149, (⟨#[]⟩ : ByteArray))) = some (r1, r2, r3, r4) := H
                                  have A186 := Aside0.mk A1860
                                  clear A1860
                                  simp only [Option.some.injEq, Prod.mk.injEq] at H
                                  obtain ⟨rfl, rfl, rfl, rfl⟩ := H
                                  have hnb187 := NB101_102.out
                                  have hnc187 := NB102_101.out
                                  have hnb188 := NB101_103.out
                                  have hnc188 := NB103_101.out
                                  obtain ⟨⟨hcz189_0, hcz189_1, hcz189_2⟩, hfz189_0, hfz189_1, hfz189_2⟩ := bf3 BK101
                                  have hnb190 := NB102_103.out
                                  have hnc190 := NB103_102.out
                                  obtain ⟨⟨hcz191_0, hcz191_1, hcz191_2⟩, hfz191_0, hfz191_1, hfz191_2⟩ := bf3 BK102
                                  go_wp2_with (first | ((with_reducible refine gate_callee (f := 94) rfl ?_); refine gL (some 155) Try.func94 #[.int .i64 a0, .int .i64 a1_0, .int .i64 a1_1, .int .i64 a2_1] (spec_l13Shift.calls kj88 a0 a1_0 a1_1 a2_1 t147 t148 t149 _ A186.out) ?_; intro w192 hb; replace BK101 := kB BK101 hb; replace BK102 := kB BK102 hb; replace BK103 := kB BK103 hb; replace HB := kS HB hb; obtain ⟨⟨hcz193_0, hcz193_1, hcz193_2⟩, hfz193_0, hfz193_1, hfz193_2⟩ := bf3 BK103))
                                  refine bodyPost_ret (results_ct rfl _ _ gb103 36 #[.int .i64 t147, .int .i64 t148, .string t149] (0, 0) _ rfl (by (with_reducible repeat (first | refine blk_drewN ?_ _ | refine blk_drew ?_ | refine blk_alloc ?_ _)); refine blk_put (cs := #[.int .i64 t147, .int .i64 t148, .string (⟨#[]⟩ : ByteArray)]) ?_ 2 _ rfl; (with_reducible repeat (first | refine blk_drewN ?_ _ | refine blk_drew ?_ | refine blk_alloc ?_ _)); refine blk_put (cs := #[.int .i64 t147, .int .i64 0, .string (⟨#[]⟩ : ByteArray)]) ?_ 1 _ rfl; (with_reducible repeat (first | refine blk_drewN ?_ _ | refine blk_drew ?_ | refine blk_alloc ?_ _)); refine blk_put (cs := #[.int .i64 0, .int .i64 0, .string (⟨#[]⟩ : ByteArray)]) ?_ 0 _ rfl; (with_reducible repeat (first | refine blk_drewN ?_ _ | refine blk_drew ?_ | refine blk_alloc ?_ _)); exact BK103.out) Try.underlying36 rfl (by kernel_rfl)) rfl ?_
                                  exact ⟨by first | rfl | (simp [errW_none, errW_some] <;> rfl) | (simp [*, errW_none, errW_some] <;> rfl), kb HB⟩
                                · rw [if_neg c185] at H
                                  have c185b0 : (a0 == 18) = false := beq_eq_false_iff_ne.mpr c185
                                  have c185b1 : (a0 != 18) = true := bne_iff_ne.mpr c185
                                  by_cases c194 : a2_1 = 0
                                  · rw [if_pos c194] at H
                                    have c194b0 : (a2_1 == 0) = true := beq_iff_eq.mpr c194
                                    have c194b1 : (a2_1 != 0) = false := bne_eq_false_iff_eq.mpr c194
                                    clear c194
                                    simp only [Option.some.injEq, Prod.mk.injEq] at H
                                    obtain ⟨rfl, rfl, rfl, rfl⟩ := H
                                    have hnb195 := NB102_101.out
                                    have hnc195 := NB101_102.out
                                    have hnb196 := NB102_103.out
                                    have hnc196 := NB103_102.out
                                    obtain ⟨⟨hcz197_0, hcz197_1, hcz197_2⟩, hfz197_0, hfz197_1, hfz197_2⟩ := bf3 BK102
                                    have hnb198 := NB103_101.out
                                    have hnc198 := NB101_103.out
                                    obtain ⟨⟨hcz199_0, hcz199_1, hcz199_2⟩, hfz199_0, hfz199_1, hfz199_2⟩ := bf3 BK103
                                    go_wp2
                                    refine bodyPost_ret (results_ct rfl _ _ gb103 36 #[.int .i64 0, .int .i64 0, .string (⟨#[]⟩ : ByteArray)] (0, 0) _ rfl (by (with_reducible repeat (first | refine blk_drewN ?_ _ | refine blk_drew ?_ | refine blk_alloc ?_ _)); refine blk_put (cs := #[.int .i64 0, .int .i64 0, .string (⟨#[]⟩ : ByteArray)]) ?_ 2 _ rfl; (with_reducible repeat (first | refine blk_drewN ?_ _ | refine blk_drew ?_ | refine blk_alloc ?_ _)); refine blk_put (cs := #[.int .i64 0, .int .i64 0, .string (⟨#[]⟩ : ByteArray)]) ?_ 1 _ rfl; (with_reducible repeat (first | refine blk_drewN ?_ _ | refine blk_drew ?_ | refine blk_alloc ?_ _)); refine blk_put (cs := #[.int .i64 0, .int .i64 0, .string (⟨#[]⟩ : ByteArray)]) ?_ 0 _ rfl; (with_reducible repeat (first | refine blk_drewN ?_ _ | refine blk_drew ?_ | refine blk_alloc ?_ _)); exact BK103.out) Try.underlying36 rfl (by kernel_rfl)) rfl ?_
                                    exact ⟨by first | rfl | (simp [errW_none, errW_some] <;> rfl) | (simp [*, errW_none, errW_some] <;> rfl), kb HB⟩
                                  · rw [if_neg c194] at H
                                    have c194b0 : (a2_1 == 0) = false := beq_eq_false_iff_ne.mpr c194
                                    have c194b1 : (a2_1 != 0) = true := bne_iff_ne.mpr c194
                                    replace H := Option.bind_eq_some_iff.mp H
                                    obtain ⟨⟨t150, t151, t152, t153, t154, t155⟩, A2000, H⟩ := H
                                    replace H : (if a0 = 14 then (some (t150, t151, t152, (⟨#[]⟩ : ByteArray))) else (some (t153, t154, t155, (⟨#[]⟩ : ByteArray)))) = some (r1, r2, r3, r4) := H
                                    have A200 := Aside0.mk A2000
                                    clear A2000
                                    by_cases c201 : a0 = 14
                                    · rw [if_pos c201] at H
                                      have c201b0 : (a0 == 14) = true := beq_iff_eq.mpr c201
                                      have c201b1 : (a0 != 14) = false := bne_eq_false_iff_eq.mpr c201
                                      clear c201
                                      simp only [Option.some.injEq, Prod.mk.injEq] at H
                                      obtain ⟨rfl, rfl, rfl, rfl⟩ := H
                                      have hnb202 := NB102_101.out
                                      have hnc202 := NB101_102.out
                                      have hnb203 := NB102_103.out
                                      have hnc203 := NB103_102.out
                                      obtain ⟨⟨hcz204_0, hcz204_1, hcz204_2⟩, hfz204_0, hfz204_1, hfz204_2⟩ := bf3 BK102
                                      have hnb205 := NB101_103.out
                                      have hnc205 := NB103_101.out
                                      obtain ⟨⟨hcz206_0, hcz206_1, hcz206_2⟩, hfz206_0, hfz206_1, hfz206_2⟩ := bf3 BK101
                                      go_wp2_with (first | ((with_reducible refine gate_callee (f := 95) rfl ?_); refine gL (some 167) Try.func95 #[.int .i64 a1_0, .int .i64 a1_1, .int .i64 a2_1] (spec_l13Divide.calls kj88 a1_0 a1_1 a2_1 t150 t151 t152 t153 t154 t155 _ A200.out) ?_; intro w207 hb; replace BK101 := kB BK101 hb; replace BK102 := kB BK102 hb; replace BK103 := kB BK103 hb; replace HB := kS HB hb) | ((with_reducible refine gate_dst (N := 10) rfl ?_); refine gX 10 #[.int .i64 0, .int .i64 0, .string (⟨#[]⟩ : ByteArray)] 36 ?_; intro gb156 hg w208 hbox hb; have BK156 := Aside0.mk (hbox); have GW156 := gw hg (kb HB); have GE156 := gw hg (kb HB); have NB101_156 := nl hg (kp BK101); have NB156_101 := ng hg (kp BK101); have NB102_156 := nl hg (kp BK102); have NB156_102 := ng hg (kp BK102); have NB103_156 := nl hg (kp BK103); have NB156_103 := ng hg (kp BK103); replace BK101 := kB BK101 hb; replace BK102 := kB BK102 hb; replace BK103 := kB BK103 hb; replace HB := kS HB hb; clear hb hbox hg) | ((with_reducible refine gate_dst (N := 11) rfl ?_); refine gX 11 #[.int .i64 0, .int .i64 0, .string (⟨#[]⟩ : ByteArray)] 36 ?_; intro gb157 hg w209 hbox hb; have BK157 := Aside0.mk (hbox); have GW157 := gw hg (kb HB); have GE157 := gw hg (kb HB); have NB101_157 := nl hg (kp BK101); have NB157_101 := ng hg (kp BK101); have NB102_157 := nl hg (kp BK102); have NB157_102 := ng hg (kp BK102); have NB103_157 := nl hg (kp BK103); have NB157_103 := ng hg (kp BK103); have NB156_157 := nl hg (kp BK156); have NB157_156 := ng hg (kp BK156); replace BK101 := kB BK101 hb; replace BK102 := kB BK102 hb; replace BK103 := kB BK103 hb; replace BK156 := kB BK156 hb; replace HB := kS HB hb; clear hb hbox hg; have hnb210 := NB156_101.out; have hnc210 := NB101_156.out; have hnb211 := NB156_102.out; have hnc211 := NB102_156.out; have hnb212 := NB156_103.out; have hnc212 := NB103_156.out; have hnb213 := NB156_157.out; have hnc213 := NB157_156.out; obtain ⟨⟨hcz214_0, hcz214_1, hcz214_2⟩, hfz214_0, hfz214_1, hfz214_2⟩ := bf3 BK156; have hnb215 := NB157_101.out; have hnc215 := NB101_157.out; have hnb216 := NB157_102.out; have hnc216 := NB102_157.out; have hnb217 := NB157_103.out; have hnc217 := NB103_157.out; obtain ⟨⟨hcz218_0, hcz218_1, hcz218_2⟩, hfz218_0, hfz218_1, hfz218_2⟩ := bf3 BK157; obtain ⟨⟨hcz219_0, hcz219_1, hcz219_2⟩, hfz219_0, hfz219_1, hfz219_2⟩ := bf3 BK103))
                                      refine bodyPost_ret (results_ct rfl _ _ gb103 36 #[.int .i64 t150, .int .i64 t151, .string t152] (0, 0) _ rfl (by (with_reducible repeat (first | refine blk_drewN ?_ _ | refine blk_drew ?_ | refine blk_alloc ?_ _)); refine blk_put (cs := #[.int .i64 t150, .int .i64 t151, .string (⟨#[]⟩ : ByteArray)]) ?_ 2 _ rfl; (with_reducible repeat (first | refine blk_drewN ?_ _ | refine blk_drew ?_ | refine blk_alloc ?_ _)); refine blk_put (cs := #[.int .i64 t150, .int .i64 0, .string (⟨#[]⟩ : ByteArray)]) ?_ 1 _ rfl; (with_reducible repeat (first | refine blk_drewN ?_ _ | refine blk_drew ?_ | refine blk_alloc ?_ _)); refine blk_put (cs := #[.int .i64 0, .int .i64 0, .string (⟨#[]⟩ : ByteArray)]) ?_ 0 _ rfl; (with_reducible repeat (first | refine blk_drewN ?_ _ | refine blk_drew ?_ | refine blk_alloc ?_ _)); refine blk_far ?_ NB103_157.out _; (with_reducible repeat (first | refine blk_drewN ?_ _ | refine blk_drew ?_ | refine blk_alloc ?_ _)); refine blk_far ?_ NB103_157.out _; (with_reducible repeat (first | refine blk_drewN ?_ _ | refine blk_drew ?_ | refine blk_alloc ?_ _)); refine blk_far ?_ NB103_157.out _; (with_reducible repeat (first | refine blk_drewN ?_ _ | refine blk_drew ?_ | refine blk_alloc ?_ _)); refine blk_far ?_ NB103_156.out _; (with_reducible repeat (first | refine blk_drewN ?_ _ | refine blk_drew ?_ | refine blk_alloc ?_ _)); refine blk_far ?_ NB103_156.out _; (with_reducible repeat (first | refine blk_drewN ?_ _ | refine blk_drew ?_ | refine blk_alloc ?_ _)); refine blk_far ?_ NB103_156.out _; (with_reducible repeat (first | refine blk_drewN ?_ _ | refine blk_drew ?_ | refine blk_alloc ?_ _)); exact BK103.out) Try.underlying36 rfl (by kernel_rfl)) rfl ?_
                                      exact ⟨by first | rfl | (simp [errW_none, errW_some] <;> rfl) | (simp [*, errW_none, errW_some] <;> rfl), kb HB⟩
                                    · rw [if_neg c201] at H
                                      have c201b0 : (a0 == 14) = false := beq_eq_false_iff_ne.mpr c201
                                      have c201b1 : (a0 != 14) = true := bne_iff_ne.mpr c201
                                      simp only [Option.some.injEq, Prod.mk.injEq] at H
                                      obtain ⟨rfl, rfl, rfl, rfl⟩ := H
                                      have hnb220 := NB102_101.out
                                      have hnc220 := NB101_102.out
                                      have hnb221 := NB102_103.out
                                      have hnc221 := NB103_102.out
                                      obtain ⟨⟨hcz222_0, hcz222_1, hcz222_2⟩, hfz222_0, hfz222_1, hfz222_2⟩ := bf3 BK102
                                      have hnb223 := NB101_103.out
                                      have hnc223 := NB103_101.out
                                      obtain ⟨⟨hcz224_0, hcz224_1, hcz224_2⟩, hfz224_0, hfz224_1, hfz224_2⟩ := bf3 BK101
                                      go_wp2_with (first | ((with_reducible refine gate_callee (f := 95) rfl ?_); refine gL (some 167) Try.func95 #[.int .i64 a1_0, .int .i64 a1_1, .int .i64 a2_1] (spec_l13Divide.calls kj88 a1_0 a1_1 a2_1 t150 t151 t152 t153 t154 t155 _ A200.out) ?_; intro w225 hb; replace BK101 := kB BK101 hb; replace BK102 := kB BK102 hb; replace BK103 := kB BK103 hb; replace HB := kS HB hb) | ((with_reducible refine gate_dst (N := 10) rfl ?_); refine gX 10 #[.int .i64 0, .int .i64 0, .string (⟨#[]⟩ : ByteArray)] 36 ?_; intro gb156 hg w226 hbox hb; have BK156 := Aside0.mk (hbox); have GW156 := gw hg (kb HB); have GE156 := gw hg (kb HB); have NB101_156 := nl hg (kp BK101); have NB156_101 := ng hg (kp BK101); have NB102_156 := nl hg (kp BK102); have NB156_102 := ng hg (kp BK102); have NB103_156 := nl hg (kp BK103); have NB156_103 := ng hg (kp BK103); replace BK101 := kB BK101 hb; replace BK102 := kB BK102 hb; replace BK103 := kB BK103 hb; replace HB := kS HB hb; clear hb hbox hg) | ((with_reducible refine gate_dst (N := 11) rfl ?_); refine gX 11 #[.int .i64 0, .int .i64 0, .string (⟨#[]⟩ : ByteArray)] 36 ?_; intro gb157 hg w227 hbox hb; have BK157 := Aside0.mk (hbox); have GW157 := gw hg (kb HB); have GE157 := gw hg (kb HB); have NB101_157 := nl hg (kp BK101); have NB157_101 := ng hg (kp BK101); have NB102_157 := nl hg (kp BK102); have NB157_102 := ng hg (kp BK102); have NB103_157 := nl hg (kp BK103); have NB157_103 := ng hg (kp BK103); have NB156_157 := nl hg (kp BK156); have NB157_156 := ng hg (kp BK156); replace BK101 := kB BK101 hb; replace BK102 := kB BK102 hb; replace BK103 := kB BK103 hb; replace BK156 := kB BK156 hb; replace HB := kS HB hb; clear hb hbox hg; have hnb228 := NB156_101.out; have hnc228 := NB101_156.out; have hnb229 := NB156_102.out; have hnc229 := NB102_156.out; have hnb230 := NB156_103.out; have hnc230 := NB103_156.out; have hnb231 := NB156_157.out; have hnc231 := NB157_156.out; obtain ⟨⟨hcz232_0, hcz232_1, hcz232_2⟩, hfz232_0, hfz232_1, hfz232_2⟩ := bf3 BK156; have hnb233 := NB157_101.out; have hnc233 := NB101_157.out; have hnb234 := NB157_102.out; have hnc234 := NB102_157.out; have hnb235 := NB157_103.out; have hnc235 := NB103_157.out; obtain ⟨⟨hcz236_0, hcz236_1, hcz236_2⟩, hfz236_0, hfz236_1, hfz236_2⟩ := bf3 BK157; obtain ⟨⟨hcz237_0, hcz237_1, hcz237_2⟩, hfz237_0, hfz237_1, hfz237_2⟩ := bf3 BK103))
                                      refine bodyPost_ret (results_ct rfl _ _ gb103 36 #[.int .i64 t153, .int .i64 t154, .string t155] (0, 0) _ rfl (by (with_reducible repeat (first | refine blk_drewN ?_ _ | refine blk_drew ?_ | refine blk_alloc ?_ _)); refine blk_put (cs := #[.int .i64 t153, .int .i64 t154, .string (⟨#[]⟩ : ByteArray)]) ?_ 2 _ rfl; (with_reducible repeat (first | refine blk_drewN ?_ _ | refine blk_drew ?_ | refine blk_alloc ?_ _)); refine blk_put (cs := #[.int .i64 t153, .int .i64 0, .string (⟨#[]⟩ : ByteArray)]) ?_ 1 _ rfl; (with_reducible repeat (first | refine blk_drewN ?_ _ | refine blk_drew ?_ | refine blk_alloc ?_ _)); refine blk_put (cs := #[.int .i64 0, .int .i64 0, .string (⟨#[]⟩ : ByteArray)]) ?_ 0 _ rfl; (with_reducible repeat (first | refine blk_drewN ?_ _ | refine blk_drew ?_ | refine blk_alloc ?_ _)); refine blk_far ?_ NB103_157.out _; (with_reducible repeat (first | refine blk_drewN ?_ _ | refine blk_drew ?_ | refine blk_alloc ?_ _)); refine blk_far ?_ NB103_157.out _; (with_reducible repeat (first | refine blk_drewN ?_ _ | refine blk_drew ?_ | refine blk_alloc ?_ _)); refine blk_far ?_ NB103_157.out _; (with_reducible repeat (first | refine blk_drewN ?_ _ | refine blk_drew ?_ | refine blk_alloc ?_ _)); refine blk_far ?_ NB103_156.out _; (with_reducible repeat (first | refine blk_drewN ?_ _ | refine blk_drew ?_ | refine blk_alloc ?_ _)); refine blk_far ?_ NB103_156.out _; (with_reducible repeat (first | refine blk_drewN ?_ _ | refine blk_drew ?_ | refine blk_alloc ?_ _)); refine blk_far ?_ NB103_156.out _; (with_reducible repeat (first | refine blk_drewN ?_ _ | refine blk_drew ?_ | refine blk_alloc ?_ _)); exact BK103.out) Try.underlying36 rfl (by kernel_rfl)) rfl ?_
                                      exact ⟨by first | rfl | (simp [errW_none, errW_some] <;> rfl) | (simp [*, errW_none, errW_some] <;> rfl), kb HB⟩
end Go.Proofs.Ytdpdpigaegabbaa.Q
end
section
namespace Go.Proofs.Ytdpdpigaegabbaa.Q
open Go.RowKit Go.Proofs.YtdpdpigaegabbaaW.PrintWords Go.Proofs.YtdpdpigaegabbaaW.PrintLast Go.Proofs.YtdpdpigaegabbaaW.PrintMore Go.Proofs.Ytdpdpigaegabbaa.Short
attribute [local go_sem] max2_int min2_int max_two min_two max_three min_three max_four min_four   
set_option linter.unusedVariables false
set_option linter.unusedSimpArgs false
def laws_toMillValue.f (a0_0 : Int) (a0_1 : Int) (a0_2 : ByteArray) : Option (Int × Int × ByteArray) := some (a0_0, a0_1, a0_2)
set_option maxHeartbeats 8000000 in
set_option maxRecDepth 100000 in
theorem laws_toMillValue.calls (a0_0 : Int) (a0_1 : Int) (a0_2 : ByteArray) (r1 : Int) (r2 : Int) (r3 : ByteArray) (w : World) (h : laws_toMillValue.f a0_0 a0_1 a0_2 = some (r1, r2, r3)) :
    Calls Try.prog 23 #[.agg #[.int .i64 a0_0, .int .i64 a0_1, .string a0_2]] w fun e w' => e = .returned (.agg #[.int .i64 r1, .int .i64 r2, .string r3]) ∧ Below w.heap.size w w' := by
  have hu33 := Try.underlying33
  have hu36 := Try.underlying36
  have HB := Aside0.mk (Below.refl w.heap.size w)
  have H : (some (a0_0, a0_1, a0_2)) = some (r1, r2, r3) := h
  clear h
  simp only [Option.some.injEq, Prod.mk.injEq] at H
  obtain ⟨rfl, rfl, rfl⟩ := H
  go_enter Try.func23, Try.ntmps23
  go_wp2_with (first | ((with_reducible refine gate_dst (N := 1) rfl ?_); refine gX 1 #[.int .i64 a0_0, .int .i64 a0_1, .string a0_2] 33 ?_; intro gb101 hg w2 hbox hb; have BK101 := Aside0.mk (hbox); have GW101 := gw hg (kb HB); have GE101 := gw hg (kb HB); replace HB := kS HB hb; clear hb hbox hg) | ((with_reducible refine gate_dst (N := 2) rfl ?_); refine gX 2 #[.int .i64 0, .int .i64 0, .string (⟨#[]⟩ : ByteArray)] 36 ?_; intro gb102 hg w3 hbox hb; have BK102 := Aside0.mk (hbox); have GW102 := gw hg (kb HB); have GE102 := gw hg (kb HB); have NB101_102 := nl hg (kp BK101); have NB102_101 := ng hg (kp BK101); replace BK101 := kB BK101 hb; replace HB := kS HB hb; clear hb hbox hg) | ((with_reducible refine gate_dst (N := 3) rfl ?_); refine gX 3 #[.int .i64 0, .int .i64 0, .string (⟨#[]⟩ : ByteArray)] 36 ?_; intro gb103 hg w4 hbox hb; have BK103 := Aside0.mk (hbox); have GW103 := gw hg (kb HB); have GE103 := gw hg (kb HB); have NB101_103 := nl hg (kp BK101); have NB103_101 := ng hg (kp BK101); have NB102_103 := nl hg (kp BK102); have NB103_102 := ng hg (kp BK102); replace BK101 := kB BK101 hb; replace BK102 := kB BK102 hb; replace HB := kS HB hb; clear hb hbox hg; have hnb5 := NB101_102.out; have hnc5 := NB102_101.out; have hnb6 := NB101_103.out; have hnc6 := NB103_101.out; obtain ⟨⟨hcz7_0, hcz7_1, hcz7_2⟩, hfz7_0, hfz7_1, hfz7_2⟩ := bf3 BK101; have hnb8 := NB103_102.out; have hnc8 := NB102_103.out; obtain ⟨⟨hcz9_0, hcz9_1, hcz9_2⟩, hfz9_0, hfz9_1, hfz9_2⟩ := bf3 BK103; obtain ⟨⟨hcz10_0, hcz10_1, hcz10_2⟩, hfz10_0, hfz10_1, hfz10_2⟩ := bf3 BK102))
  refine bodyPost_ret (results_cell_row rfl _ _ gb102 36 #[.int .i64 a0_0, .int .i64 a0_1, .string a0_2] (0, 0) _ rfl (by (with_reducible repeat (first | refine blk_drewN ?_ _ | refine blk_drew ?_ | refine blk_alloc ?_ _)); refine blk_put (cs := #[.int .i64 a0_0, .int .i64 a0_1, .string (⟨#[]⟩ : ByteArray)]) ?_ 2 _ rfl; (with_reducible repeat (first | refine blk_drewN ?_ _ | refine blk_drew ?_ | refine blk_alloc ?_ _)); refine blk_put (cs := #[.int .i64 a0_0, .int .i64 0, .string (⟨#[]⟩ : ByteArray)]) ?_ 1 _ rfl; (with_reducible repeat (first | refine blk_drewN ?_ _ | refine blk_drew ?_ | refine blk_alloc ?_ _)); refine blk_put (cs := #[.int .i64 0, .int .i64 0, .string (⟨#[]⟩ : ByteArray)]) ?_ 0 _ rfl; (with_reducible repeat (first | refine blk_drewN ?_ _ | refine blk_drew ?_ | refine blk_alloc ?_ _)); refine blk_far ?_ NB102_103.out _; (with_reducible repeat (first | refine blk_drewN ?_ _ | refine blk_drew ?_ | refine blk_alloc ?_ _)); refine blk_far ?_ NB102_103.out _; (with_reducible repeat (first | refine blk_drewN ?_ _ | refine blk_drew ?_ | refine blk_alloc ?_ _)); refine blk_far ?_ NB102_103.out _; (with_reducible repeat (first | refine blk_drewN ?_ _ | refine blk_drew ?_ | refine blk_alloc ?_ _)); exact BK102.out) Try.underlying36 rfl (by kernel_rfl)) rfl ?_
  exact ⟨by first | rfl | (simp [errW_none, errW_some] <;> rfl) | (simp [*, errW_none, errW_some] <;> rfl), kb HB⟩
end Go.Proofs.Ytdpdpigaegabbaa.Q
end
section
namespace Go.Proofs.Ytdpdpigaegabbaa.Q
open Go.RowKit Go.Proofs.YtdpdpigaegabbaaW.PrintWords Go.Proofs.YtdpdpigaegabbaaW.PrintLast Go.Proofs.YtdpdpigaegabbaaW.PrintMore Go.Proofs.Ytdpdpigaegabbaa.Short
attribute [local go_sem] max2_int min2_int max_two min_two max_three min_three max_four min_four   
set_option linter.unusedVariables false
set_option linter.unusedSimpArgs false
def laws_eqMillValue.f (a0_0 : Int) (a0_1 : Int) (a0_2 : ByteArray) (a1_0 : Int) (a1_1 : Int) (a1_2 : ByteArray) : Option (Bool) := if a0_0 = a1_0 then (if a0_1 = a1_1 then (if a0_2.toList = a1_2.toList then (some true) else (some false)) else (some false)) else (some false)
set_option maxHeartbeats 8000000 in
set_option maxRecDepth 100000 in
theorem laws_eqMillValue.calls (a0_0 : Int) (a0_1 : Int) (a0_2 : ByteArray) (a1_0 : Int) (a1_1 : Int) (a1_2 : ByteArray) (r : Bool) (w : World) (h : laws_eqMillValue.f a0_0 a0_1 a0_2 a1_0 a1_1 a1_2 = some r) :
    Calls Try.prog 27 #[.agg #[.int .i64 a0_0, .int .i64 a0_1, .string a0_2], .agg #[.int .i64 a1_0, .int .i64 a1_1, .string a1_2]] w fun e w' => e = .returned (.bool r) ∧ Below w.heap.size w w' := by
  have hu36 := Try.underlying36
  have HB := Aside0.mk (Below.refl w.heap.size w)
  have H : (if a0_0 = a1_0 then (if a0_1 = a1_1 then (if a0_2.toList = a1_2.toList then (some true) else (some false)) else (some false)) else (some false)) = some r := h
  clear h
  by_cases c3 : a0_0 = a1_0
  · rw [if_pos c3] at H
    have c3b0 : (a0_0 == a1_0) = true := beq_iff_eq.mpr c3
    have c3b1 : (a0_0 != a1_0) = false := bne_eq_false_iff_eq.mpr c3
    clear c3
    by_cases c4 : a0_1 = a1_1
    · rw [if_pos c4] at H
      have c4b0 : (a0_1 == a1_1) = true := beq_iff_eq.mpr c4
      have c4b1 : (a0_1 != a1_1) = false := bne_eq_false_iff_eq.mpr c4
      clear c4
      by_cases c5 : a0_2.toList = a1_2.toList
      · rw [if_pos c5] at H
        have c5b0 : (a0_2.toList == a1_2.toList) = true := beq_iff_eq.mpr c5
        have c5b1 : (a0_2.toList != a1_2.toList) = false := bne_eq_false_iff_eq.mpr c5
        clear c5
        obtain rfl := Option.some.inj H
        go_enter Try.func27, Try.ntmps27
        go_wp2_with (first | ((with_reducible refine gate_dst (N := 2) rfl ?_); refine gX 2 #[.int .i64 a0_0, .int .i64 a0_1, .string a0_2] 36 ?_; intro gb101 hg w6 hbox hb; have BK101 := Aside0.mk (hbox); have GW101 := gw hg (kb HB); have GE101 := gw hg (kb HB); replace HB := kS HB hb; clear hb hbox hg) | ((with_reducible refine gate_dst (N := 3) rfl ?_); refine gX 3 #[.int .i64 a1_0, .int .i64 a1_1, .string a1_2] 36 ?_; intro gb102 hg w7 hbox hb; have BK102 := Aside0.mk (hbox); have GW102 := gw hg (kb HB); have GE102 := gw hg (kb HB); have NB101_102 := nl hg (kp BK101); have NB102_101 := ng hg (kp BK101); replace BK101 := kB BK101 hb; replace HB := kS HB hb; clear hb hbox hg; have hnb8 := NB101_102.out; have hnc8 := NB102_101.out; obtain ⟨⟨hcz9_0, hcz9_1, hcz9_2⟩, hfz9_0, hfz9_1, hfz9_2⟩ := bf3 BK101; obtain ⟨⟨hcz10_0, hcz10_1, hcz10_2⟩, hfz10_0, hfz10_1, hfz10_2⟩ := bf3 BK102))
        go_ret
        exact ⟨by first | rfl | (simp [errW_none, errW_some] <;> rfl) | (simp [*, errW_none, errW_some] <;> rfl), kb HB⟩
      · rw [if_neg c5] at H
        have c5b0 : (a0_2.toList == a1_2.toList) = false := beq_eq_false_iff_ne.mpr c5
        have c5b1 : (a0_2.toList != a1_2.toList) = true := bne_iff_ne.mpr c5
        obtain rfl := Option.some.inj H
        go_enter Try.func27, Try.ntmps27
        go_wp2_with (first | ((with_reducible refine gate_dst (N := 2) rfl ?_); refine gX 2 #[.int .i64 a0_0, .int .i64 a0_1, .string a0_2] 36 ?_; intro gb101 hg w11 hbox hb; have BK101 := Aside0.mk (hbox); have GW101 := gw hg (kb HB); have GE101 := gw hg (kb HB); replace HB := kS HB hb; clear hb hbox hg) | ((with_reducible refine gate_dst (N := 3) rfl ?_); refine gX 3 #[.int .i64 a1_0, .int .i64 a1_1, .string a1_2] 36 ?_; intro gb102 hg w12 hbox hb; have BK102 := Aside0.mk (hbox); have GW102 := gw hg (kb HB); have GE102 := gw hg (kb HB); have NB101_102 := nl hg (kp BK101); have NB102_101 := ng hg (kp BK101); replace BK101 := kB BK101 hb; replace HB := kS HB hb; clear hb hbox hg; have hnb13 := NB101_102.out; have hnc13 := NB102_101.out; obtain ⟨⟨hcz14_0, hcz14_1, hcz14_2⟩, hfz14_0, hfz14_1, hfz14_2⟩ := bf3 BK101; obtain ⟨⟨hcz15_0, hcz15_1, hcz15_2⟩, hfz15_0, hfz15_1, hfz15_2⟩ := bf3 BK102))
        go_ret
        exact ⟨by first | rfl | (simp [errW_none, errW_some] <;> rfl) | (simp [*, errW_none, errW_some] <;> rfl), kb HB⟩
    · rw [if_neg c4] at H
      have c4b0 : (a0_1 == a1_1) = false := beq_eq_false_iff_ne.mpr c4
      have c4b1 : (a0_1 != a1_1) = true := bne_iff_ne.mpr c4
      obtain rfl := Option.some.inj H
      go_enter Try.func27, Try.ntmps27
      go_wp2_with (first | ((with_reducible refine gate_dst (N := 2) rfl ?_); refine gX 2 #[.int .i64 a0_0, .int .i64 a0_1, .string a0_2] 36 ?_; intro gb101 hg w16 hbox hb; have BK101 := Aside0.mk (hbox); have GW101 := gw hg (kb HB); have GE101 := gw hg (kb HB); replace HB := kS HB hb; clear hb hbox hg) | ((with_reducible refine gate_dst (N := 3) rfl ?_); refine gX 3 #[.int .i64 a1_0, .int .i64 a1_1, .string a1_2] 36 ?_; intro gb102 hg w17 hbox hb; have BK102 := Aside0.mk (hbox); have GW102 := gw hg (kb HB); have GE102 := gw hg (kb HB); have NB101_102 := nl hg (kp BK101); have NB102_101 := ng hg (kp BK101); replace BK101 := kB BK101 hb; replace HB := kS HB hb; clear hb hbox hg; have hnb18 := NB101_102.out; have hnc18 := NB102_101.out; obtain ⟨⟨hcz19_0, hcz19_1, hcz19_2⟩, hfz19_0, hfz19_1, hfz19_2⟩ := bf3 BK101; obtain ⟨⟨hcz20_0, hcz20_1, hcz20_2⟩, hfz20_0, hfz20_1, hfz20_2⟩ := bf3 BK102))
      go_ret
      exact ⟨by first | rfl | (simp [errW_none, errW_some] <;> rfl) | (simp [*, errW_none, errW_some] <;> rfl), kb HB⟩
  · rw [if_neg c3] at H
    have c3b0 : (a0_0 == a1_0) = false := beq_eq_false_iff_ne.mpr c3
    have c3b1 : (a0_0 != a1_0) = true := bne_iff_ne.mpr c3
    obtain rfl := Option.some.inj H
    go_enter Try.func27, Try.ntmps27
    go_wp2_with (first | ((with_reducible refine gate_dst (N := 2) rfl ?_); refine gX 2 #[.int .i64 a0_0, .int .i64 a0_1, .string a0_2] 36 ?_; intro gb101 hg w21 hbox hb; have BK101 := Aside0.mk (hbox); have GW101 := gw hg (kb HB); have GE101 := gw hg (kb HB); replace HB := kS HB hb; clear hb hbox hg) | ((with_reducible refine gate_dst (N := 3) rfl ?_); refine gX 3 #[.int .i64 a1_0, .int .i64 a1_1, .string a1_2] 36 ?_; intro gb102 hg w22 hbox hb; have BK102 := Aside0.mk (hbox); have GW102 := gw hg (kb HB); have GE102 := gw hg (kb HB); have NB101_102 := nl hg (kp BK101); have NB102_101 := ng hg (kp BK101); replace BK101 := kB BK101 hb; replace HB := kS HB hb; clear hb hbox hg; have hnb23 := NB101_102.out; have hnc23 := NB102_101.out; obtain ⟨⟨hcz24_0, hcz24_1, hcz24_2⟩, hfz24_0, hfz24_1, hfz24_2⟩ := bf3 BK101; obtain ⟨⟨hcz25_0, hcz25_1, hcz25_2⟩, hfz25_0, hfz25_1, hfz25_2⟩ := bf3 BK102))
    go_ret
    exact ⟨by first | rfl | (simp [errW_none, errW_some] <;> rfl) | (simp [*, errW_none, errW_some] <;> rfl), kb HB⟩
end Go.Proofs.Ytdpdpigaegabbaa.Q
end
