/- Several texts of this seat put together by merge.py, without what this claim does not use. -/
import Derived.Test.YtdpdpigaegabbaaQmFnMillBits1
import Derived.Test.YtdpdpigaegabbaaQmFnMillBits2
import Derived.Test.YtdpdpigaegabbaaQmFnMillBits3
section
namespace Go.Proofs.Ytdpdpigaegabbaa.Q
open Go.RowKit Go.Proofs.YtdpdpigaegabbaaW.PrintWords Go.Proofs.YtdpdpigaegabbaaW.PrintLast Go.Proofs.YtdpdpigaegabbaaW.PrintMore Go.Proofs.Ytdpdpigaegabbaa.Short
attribute [local go_sem] max2_int min2_int max_two min_two max_three min_three max_four min_four   
set_option linter.unusedVariables false
set_option linter.unusedSimpArgs false
mutual
def spec_DrawMillBinary.j0 : Nat → Int → Int → List Int → Int → Option (Int × Int × Int × ByteArray × Int × Int × ByteArray)
  | 0, _, _, _, _ => none
  | k + 1, x6, x7, x106000, x106001 => (spec_l13Any.f k x106000 x106001 x7).bind fun bt112 => ((spec_l10Rd_pick.f k x106000 bt112.2.2.2 16).bind fun bt117 => (if bt117.1 = 0 then ((spec_l10Rd_pick.f k x106000 bt117.2 10).bind fun bt119 => (spec_DrawMillBinary.j1 k x6 (wrap64 (1 + bt119.1)) x106000 bt119.2 bt112.1 bt112.2.1 bt112.2.2.1)) else (spec_DrawMillBinary.j1 k x6 x7 x106000 bt117.2 bt112.1 bt112.2.1 bt112.2.2.1)))
def spec_DrawMillBinary.j1 : Nat → Int → Int → List Int → Int → Int → Int → ByteArray → Option (Int × Int × Int × ByteArray × Int × Int × ByteArray)
  | 0, _, _, _, _, _, _, _ => none
  | k + 1, x6, x7, x106000, x106001, x117000, x117001, x117002 => (spec_l13Any.f k x106000 x106001 x7).bind fun bt121 => (if x6 ≥ 17 then ((spec_l10Integer.f bt121.1).bind fun t126 => (if t126 = true then ((spec_l10Rd_pick.f k x106000 bt121.2.2.2 2).bind fun bt127 => (spec_DrawMillBinary.j2 k x6 x7 (bt127.1 == 0) x106000 bt127.2 x117000 x117001 x117002 bt121.1 bt121.2.1 bt121.2.2.1)) else (spec_DrawMillBinary.j2 k x6 x7 false x106000 bt121.2.2.2 x117000 x117001 x117002 bt121.1 bt121.2.1 bt121.2.2.1))) else (spec_DrawMillBinary.j2 k x6 x7 false x106000 bt121.2.2.2 x117000 x117001 x117002 bt121.1 bt121.2.1 bt121.2.2.1))
def spec_DrawMillBinary.j2 : Nat → Int → Int → Bool → List Int → Int → Int → Int → ByteArray → Int → Int → ByteArray → Option (Int × Int × Int × ByteArray × Int × Int × ByteArray)
  | 0, _, _, _, _, _, _, _, _, _, _, _ => none
  | k + 1, x6, x7, x50, x106000, x106001, x117000, x117001, x117002, x126000, x126001, x126002 => if x50 = true then ((spec_l10Rd_pick.f k x106000 x106001 70).bind fun bt129 => ((spec_l10Max.f k x7).bind fun t131 => (if (wrap64 (IntKind.u64.wrap ((Int.tmod t131 71) + 1))) = 0 then (none) else (spec_DrawMillBinary.j3 k x6 x7 x106000 bt129.2 x117000 x117001 x117002 x126000 (Int.tmod bt129.1 (wrap64 (IntKind.u64.wrap ((Int.tmod t131 71) + 1)))) x126002)))) else (spec_DrawMillBinary.j3 k x6 x7 x106000 x106001 x117000 x117001 x117002 x126000 x126001 x126002)
def spec_DrawMillBinary.j3 : Nat → Int → Int → List Int → Int → Int → Int → ByteArray → Int → Int → ByteArray → Option (Int × Int × Int × ByteArray × Int × Int × ByteArray)
  | 0, _, _, _, _, _, _, _, _, _, _ => none
  | k + 1, x6, x7, x106000, x106001, x117000, x117001, x117002, x126000, x126001, x126002 => if x6 ≥ 17 then ((spec_l10Integer.f x126000).bind fun t132 => (if t132 = true then (if x126000 = x117000 then ((spec_l10Rd_pick.f k x106000 x106001 6).bind fun bt133 => (spec_DrawMillBinary.j4 k x6 x7 (bt133.1 == 0) x106000 bt133.2 x117000 x117001 x117002 x126000 x126001 x126002)) else (spec_DrawMillBinary.j4 k x6 x7 false x106000 x106001 x117000 x117001 x117002 x126000 x126001 x126002)) else (spec_DrawMillBinary.j4 k x6 x7 false x106000 x106001 x117000 x117001 x117002 x126000 x126001 x126002))) else (spec_DrawMillBinary.j4 k x6 x7 false x106000 x106001 x117000 x117001 x117002 x126000 x126001 x126002)
def spec_DrawMillBinary.j4 : Nat → Int → Int → Bool → List Int → Int → Int → Int → ByteArray → Int → Int → ByteArray → Option (Int × Int × Int × ByteArray × Int × Int × ByteArray)
  | 0, _, _, _, _, _, _, _, _, _, _, _ => none
  | k + 1, x6, x7, x78, x106000, x106001, x117000, x117001, x117002, x126000, x126001, x126002 => if x78 = true then ((some (([8, 16, 32, 64, 7, 15, 31, 63] : List Int) : List Int)).bind fun y135 => ((spec_l10Rd_pick.f k x106000 x106001 8).bind fun bt138 => (if 0 ≤ bt138.1 then (if bt138.1 < (y135.length : Int) then ((spec_l10Max.f k x7).bind fun t141 => (if (rd y135 bt138.1) > (wrap64 (t141 / 2)) then ((some (([1, 5, 100] : List Int) : List Int)).bind fun y142 => ((spec_l10Rd_pick.f k x106000 bt138.2 3).bind fun bt145 => (if 0 ≤ bt145.1 then (if bt145.1 < (y142.length : Int) then (if x7 ≥ 7 then (spec_DrawMillBinary.j5 k x6 x106000 bt145.2 x117000 (wrap64 (-(rd y142 bt145.1))) x117002 x126000 8 x126002) else (spec_DrawMillBinary.j5 k x6 x106000 bt145.2 x117000 (rd y142 bt145.1) x117002 x126000 8 x126002)) else (none)) else (none)))) else ((some (([1, 5, 100] : List Int) : List Int)).bind fun y148 => ((spec_l10Rd_pick.f k x106000 bt138.2 3).bind fun bt151 => (if 0 ≤ bt151.1 then (if bt151.1 < (y148.length : Int) then (if x7 ≥ 7 then (spec_DrawMillBinary.j5 k x6 x106000 bt151.2 x117000 (wrap64 (-(rd y148 bt151.1))) x117002 x126000 (rd y135 bt138.1) x126002) else (spec_DrawMillBinary.j5 k x6 x106000 bt151.2 x117000 (rd y148 bt151.1) x117002 x126000 (rd y135 bt138.1) x126002)) else (none)) else (none)))))) else (none)) else (none)))) else (spec_DrawMillBinary.j5 k x6 x106000 x106001 x117000 x117001 x117002 x126000 x126001 x126002)
def spec_DrawMillBinary.j5 : Nat → Int → List Int → Int → Int → Int → ByteArray → Int → Int → ByteArray → Option (Int × Int × Int × ByteArray × Int × Int × ByteArray)
  | 0, _, _, _, _, _, _, _, _, _ => none
  | k + 1, x6, x106000, x106001, x117000, x117001, x117002, x126000, x126001, x126002 => if x6 ≤ 8 then ((spec_l10Rd_pick.f k x106000 x106001 4).bind fun bt154 => (spec_DrawMillBinary.j6 k x6 (bt154.1 == 0) x106000 bt154.2 x117000 x117001 x117002 x126000 x126001 x126002)) else (spec_DrawMillBinary.j6 k x6 false x106000 x106001 x117000 x117001 x117002 x126000 x126001 x126002)
def spec_DrawMillBinary.j6 : Nat → Int → Bool → List Int → Int → Int → Int → ByteArray → Int → Int → ByteArray → Option (Int × Int × Int × ByteArray × Int × Int × ByteArray)
  | 0, _, _, _, _, _, _, _, _, _, _ => none
  | k + 1, x6, x111, x106000, x106001, x117000, x117001, x117002, x126000, x126001, x126002 => if x111 = true then (spec_DrawMillBinary.j7 k x6 x106000 x106001 x117000 x117001 x117002 x117000 x117001 x117002) else (spec_DrawMillBinary.j7 k x6 x106000 x106001 x117000 x117001 x117002 x126000 x126001 x126002)
def spec_DrawMillBinary.j7 : Nat → Int → List Int → Int → Int → Int → ByteArray → Int → Int → ByteArray → Option (Int × Int × Int × ByteArray × Int × Int × ByteArray)
  | 0, _, _, _, _, _, _, _, _, _ => none
  | k + 1, x6, x106000, x106001, x117000, x117001, x117002, x126000, x126001, x126002 => (spec_l10Rd_pick.f k x106000 x106001 24).bind fun bt156 => (if bt156.1 = 0 then ((spec_l10Rd_pick.f k x106000 bt156.2 22).bind fun bt158 => (some (wrap64 (bt158.1 - 1), x117000, x117001, x117002, x126000, x126001, x126002))) else (some (x6, x117000, x117001, x117002, x126000, x126001, x126002)))
end
def spec_DrawMillBinary.f (k : Nat) (l0 : List Int) : Option (Int × Int × Int × ByteArray × Int × Int × ByteArray) := (spec_l10Open.f l0).bind fun bt103 => ((spec_l10Rd_pick.f k bt103.1 bt103.2 18).bind fun bt106 => ((spec_l10Rd_pick.f k bt103.1 bt106.2 8).bind fun bt108 => (if (wrap64 (1 + bt106.1)) ≤ 2 then (spec_DrawMillBinary.j0 k (wrap64 (1 + bt106.1)) 1 bt103.1 bt108.2) else (if (wrap64 (1 + bt106.1)) ≤ 9 then ((spec_l10Rd_pick.f k bt103.1 bt108.2 3).bind fun bt110 => (if bt110.1 = 0 then (spec_DrawMillBinary.j0 k (wrap64 (1 + bt106.1)) 2 bt103.1 bt110.2) else (spec_DrawMillBinary.j0 k (wrap64 (1 + bt106.1)) (wrap64 (3 + bt108.1)) bt103.1 bt110.2))) else (spec_DrawMillBinary.j0 k (wrap64 (1 + bt106.1)) (wrap64 (3 + bt108.1)) bt103.1 bt108.2)))))
set_option maxHeartbeats 8000000 in
set_option maxRecDepth 100000 in
theorem spec_DrawMillBinary.calls (k : Nat) (A0 : Option Addr) (c0 : Nat) (l0 : List Int) (r1 : Int) (r2 : Int) (r3 : Int) (r4 : ByteArray) (r5 : Int) (r6 : Int) (r7 : ByteArray) (w : World) (hr0 : Kd.C (Kd.int .u8) w A0 l0.length l0) (hc0 : l0.length ≤ c0) (h : spec_DrawMillBinary.f k l0 = some (r1, r2, r3, r4, r5, r6, r7)) :
    Calls Try.prog 48 #[.slice A0 l0.length c0] w fun e w' => e = .returned (.tuple #[.int .i64 r1, .agg #[.int .i64 r2, .int .i64 r3, .string r4], .agg #[.int .i64 r5, .int .i64 r6, .string r7]]) ∧ Below w.heap.size w w' := by
  have hu36 := Try.underlying36
  have HR0 := Aside0.mk hr0
  have HC0 := Aside0.mk hc0
  clear hr0 hc0
  have HB := Aside0.mk (Below.refl w.heap.size w)
  have H : ((spec_l10Open.f l0).bind fun bt103 => ((spec_l10Rd_pick.f k bt103.1 bt103.2 18).bind fun bt106 => ((spec_l10Rd_pick.f k bt103.1 bt106.2 8).bind fun bt108 => (if (wrap64 (1 + bt106.1)) ≤ 2 then (spec_DrawMillBinary.j0 k (wrap64 (1 + bt106.1)) 1 bt103.1 bt108.2) else (if (wrap64 (1 + bt106.1)) ≤ 9 then ((spec_l10Rd_pick.f k bt103.1 bt108.2 3).bind fun bt110 => (if bt110.1 = 0 then (spec_DrawMillBinary.j0 k (wrap64 (1 + bt106.1)) 2 bt103.1 bt110.2) else (spec_DrawMillBinary.j0 k (wrap64 (1 + bt106.1)) (wrap64 (3 + bt108.1)) bt103.1 bt110.2))) else (spec_DrawMillBinary.j0 k (wrap64 (1 + bt106.1)) (wrap64 (3 + bt108.1)) bt103.1 bt108.2)))))) = some (r1, r2, r3, r4, r5, r6, r7) := h
  clear h
  replace H := Option.bind_eq_some_iff.mp H
  obtain ⟨⟨t103, t104⟩, A20, H⟩ := H
  replace H : ((spec_l10Rd_pick.f k t103 t104 18).bind fun bt106 => ((spec_l10Rd_pick.f k t103 bt106.2 8).bind fun bt108 => (if (wrap64 (1 + bt106.1)) ≤ 2 then (spec_DrawMillBinary.j0 k (wrap64 (1 + bt106.1)) 1 t103 bt108.2) else (if (wrap64 (1 + bt106.1)) ≤ 9 then ((spec_l10Rd_pick.f k t103 bt108.2 3).bind fun bt110 => (if bt110.1 = 0 then (spec_DrawMillBinary.j0 k (wrap64 (1 + bt106.1)) 2 t103 bt110.2) else (spec_DrawMillBinary.j0 k (wrap64 (1 + bt106.1)) (wrap64 (3 + bt108.1)) t103 bt110.2))) else (spec_DrawMillBinary.j0 k (wrap64 (1 + bt106.1)) (wrap64 (3 + bt108.1)) t103 bt108.2))))) = some (r1, r2, r3, r4, r5, r6, r7) := H
  have A2 := Aside0.mk A20
  clear A20
  replace H := Option.bind_eq_some_iff.mp H
  obtain ⟨⟨t106, t107⟩, A30, H⟩ := H
  replace H : ((spec_l10Rd_pick.f k t103 t107 8).bind fun bt108 => (if (wrap64 (1 + t106)) ≤ 2 then (spec_DrawMillBinary.j0 k (wrap64 (1 + t106)) 1 t103 bt108.2) else (if (wrap64 (1 + t106)) ≤ 9 then ((spec_l10Rd_pick.f k t103 bt108.2 3).bind fun bt110 => (if bt110.1 = 0 then (spec_DrawMillBinary.j0 k (wrap64 (1 + t106)) 2 t103 bt110.2) else (spec_DrawMillBinary.j0 k (wrap64 (1 + t106)) (wrap64 (3 + bt108.1)) t103 bt110.2))) else (spec_DrawMillBinary.j0 k (wrap64 (1 + t106)) (wrap64 (3 + bt108.1)) t103 bt108.2)))) = some (r1, r2, r3, r4, r5, r6, r7) := H
  have A3 := Aside0.mk A30
  clear A30
  replace H := Option.bind_eq_some_iff.mp H
  obtain ⟨⟨t108, t109⟩, A40, H⟩ := H
  replace H : (if (wrap64 (1 + t106)) ≤ 2 then (spec_DrawMillBinary.j0 k (wrap64 (1 + t106)) 1 t103 t109) else (if (wrap64 (1 + t106)) ≤ 9 then ((spec_l10Rd_pick.f k t103 t109 3).bind fun bt110 => (if bt110.1 = 0 then (spec_DrawMillBinary.j0 k (wrap64 (1 + t106)) 2 t103 bt110.2) else (spec_DrawMillBinary.j0 k (wrap64 (1 + t106)) (wrap64 (3 + t108)) t103 bt110.2))) else (spec_DrawMillBinary.j0 k (wrap64 (1 + t106)) (wrap64 (3 + t108)) t103 t109))) = some (r1, r2, r3, r4, r5, r6, r7) := H
  have A4 := Aside0.mk A40
  clear A40
  have HC5 := Aside0.mk H
  clear H
  go_enter Try.func48, Try.ntmps48
  go_upto_if 19 with (first | ((with_reducible refine gate_dst (N := 3) rfl ?_); refine gX 3 #[.int .i64 0, .int .i64 0, .string (⟨#[]⟩ : ByteArray)] 36 ?_; intro gb101 hg w6 hbox hb; have BK101 := Aside0.mk (hbox); have GW101 := gw hg (kb HB); have GE101 := gw hg (kb HB); replace HB := kS HB hb; clear hb hbox hg) | ((with_reducible refine gate_dst (N := 4) rfl ?_); refine gX 4 #[.int .i64 0, .int .i64 0, .string (⟨#[]⟩ : ByteArray)] 36 ?_; intro gb102 hg w7 hbox hb; have BK102 := Aside0.mk (hbox); have GW102 := gw hg (kb HB); have GE102 := gw hg (kb HB); have NB101_102 := nl hg (kp BK101); have NB102_101 := ng hg (kp BK101); replace BK101 := kB BK101 hb; replace HB := kS HB hb; clear hb hbox hg) | ((with_reducible refine gate_callee (f := 82) rfl ?_); refine goesL_ (some 11) rfl rfl Try.func82 (by kernel_rfl) rfl #[.slice A0 l0.length c0] rfl (by (try simp only [List.map_toArray, List.map_cons, List.map_nil]); first | done | rfl | (simp only [List.length_drop, List.length_take]; rfl)) ?_; (with_reducible refine (spec_l10Open.calls _ _ l0 t103 t104 w _ ?side1 ?side2 ?side3 A2.out).mono ?_); (case side1 => repeat (first | (with_reducible first | exact HB.out | apply below_alloc | apply pw_below_drewN | apply below_drew1 | refine below_set ?_ GE101.out | refine below_set ?_ GE102.out) | exact HB.out)); (case side2 => exact HR0.out); (case side3 => exact HC0.out); rintro e w8 ⟨g105, rfl, hi, hb, hb2⟩; refine ⟨_, rfl, ?_⟩; have HI105 := Aside0.mk (hi); have NB105_101 := Aside0.mk (IsS137.ne_blk hi (blk_below (g := gb101) (o := .cells #[.int .i64 0, .int .i64 0, .string (⟨#[]⟩ : ByteArray)] 36 (0, 0)) (kp BK101) hb2) (by decide)); have NB101_105 := Aside0.mk (Ne.symm (IsS137.ne_blk hi (blk_below (g := gb101) (o := .cells #[.int .i64 0, .int .i64 0, .string (⟨#[]⟩ : ByteArray)] 36 (0, 0)) (kp BK101) hb2) (by decide))); have NB105_102 := Aside0.mk (IsS137.ne_blk hi (blk_below (g := gb102) (o := .cells #[.int .i64 0, .int .i64 0, .string (⟨#[]⟩ : ByteArray)] 36 (0, 0)) (kp BK102) hb2) (by decide)); have NB102_105 := Aside0.mk (Ne.symm (IsS137.ne_blk hi (blk_below (g := gb102) (o := .cells #[.int .i64 0, .int .i64 0, .string (⟨#[]⟩ : ByteArray)] 36 (0, 0)) (kp BK102) hb2) (by decide))); replace BK101 := Aside0.mk (blk_below (g := gb101) (o := .cells #[.int .i64 0, .int .i64 0, .string (⟨#[]⟩ : ByteArray)] 36 (0, 0)) (kp BK101) hb2); replace BK102 := Aside0.mk (blk_below (g := gb102) (o := .cells #[.int .i64 0, .int .i64 0, .string (⟨#[]⟩ : ByteArray)] 36 (0, 0)) (kp BK102) hb2); replace HB := Aside0.mk (hb)) | ((with_reducible refine gate_callee (f := 83) rfl ?_); refine goesL_ (some 13) rfl rfl Try.func83 (by kernel_rfl) rfl #[.pointer (some ⟨g105, 0, none⟩), .int .i64 18] rfl (by (try simp only [List.map_toArray, List.map_cons, List.map_nil]); first | done | rfl | (simp only [List.length_drop, List.length_take]; rfl)) ?_; (with_reducible refine (spec_l10Rd_pick.calls k g105 t103 t104 18 t106 t107 w _ ?side1 ?side2 A3.out).mono ?_); (case side1 => repeat (first | (with_reducible first | exact HI105.out | apply IsS137.alloc | apply IsS137.drewN | apply IsS137.drew | apply IsS137.set_1 | refine IsS137.far ?_ NB105_101.out _ | refine IsS137.far ?_ NB105_102.out _) | exact HI105.out)); (case side2 => repeat (first | (with_reducible first | exact HB.out | apply below_alloc | apply pw_below_drewN | apply below_drew1 | refine below_set ?_ (IsS137.ge HI105.out) | refine below_set ?_ GE101.out | refine below_set ?_ GE102.out) | exact HB.out)); rintro e w9 ⟨rfl, hi, hb, hk⟩; refine ⟨_, rfl, ?_⟩; replace BK101 := Aside0.mk (KeepBut.blk hk (g' := gb101) (o := .cells #[.int .i64 0, .int .i64 0, .string (⟨#[]⟩ : ByteArray)] 36 (0, 0)) (kp BK101) NB101_105.out (by simp)); replace BK102 := Aside0.mk (KeepBut.blk hk (g' := gb102) (o := .cells #[.int .i64 0, .int .i64 0, .string (⟨#[]⟩ : ByteArray)] 36 (0, 0)) (kp BK102) NB102_105.out (by simp)); replace HB := Aside0.mk (hb); replace HI105 := Aside0.mk (hi)) | ((with_reducible refine gate_callee (f := 83) rfl ?_); refine goesL_ (some 16) rfl rfl Try.func83 (by kernel_rfl) rfl #[.pointer (some ⟨g105, 0, none⟩), .int .i64 8] rfl (by (try simp only [List.map_toArray, List.map_cons, List.map_nil]); first | done | rfl | (simp only [List.length_drop, List.length_take]; rfl)) ?_; (with_reducible refine (spec_l10Rd_pick.calls k g105 t103 t107 8 t108 t109 w _ ?side1 ?side2 A4.out).mono ?_); (case side1 => repeat (first | (with_reducible first | exact HI105.out | apply IsS137.alloc | apply IsS137.drewN | apply IsS137.drew | apply IsS137.set_1 | refine IsS137.far ?_ NB105_101.out _ | refine IsS137.far ?_ NB105_102.out _) | exact HI105.out)); (case side2 => repeat (first | (with_reducible first | exact HB.out | apply below_alloc | apply pw_below_drewN | apply below_drew1 | refine below_set ?_ (IsS137.ge HI105.out) | refine below_set ?_ GE101.out | refine below_set ?_ GE102.out) | exact HB.out)); rintro e w10 ⟨rfl, hi, hb, hk⟩; refine ⟨_, rfl, ?_⟩; replace BK101 := Aside0.mk (KeepBut.blk hk (g' := gb101) (o := .cells #[.int .i64 0, .int .i64 0, .string (⟨#[]⟩ : ByteArray)] 36 (0, 0)) (kp BK101) NB101_105.out (by simp)); replace BK102 := Aside0.mk (KeepBut.blk hk (g' := gb102) (o := .cells #[.int .i64 0, .int .i64 0, .string (⟨#[]⟩ : ByteArray)] 36 (0, 0)) (kp BK102) NB102_105.out (by simp)); replace HB := Aside0.mk (hb); replace HI105 := Aside0.mk (hi)))
  (try simp only [Act.put, List.setIfInBounds_toArray, List.set_cons_zero, List.set_cons_succ])
  go_cut [7] (fun v7 wc => ∃ (kq : Nat) (x7_4 : Int) (x106001_4 : Int), v7 = .int .i64 x7_4 ∧ Aside0 (spec_DrawMillBinary.j0 kq (wrap64 (1 + t106)) x7_4 t103 x106001_4 = some (r1, r2, r3, r4, r5, r6, r7)) ∧ Aside0 (kq ≤ k) ∧ Aside0 (wc.heap[gb101]? = some (.cells #[.int .i64 0, .int .i64 0, .string (⟨#[]⟩ : ByteArray)] 36 (0, 0))) ∧ Aside0 (wc.heap[gb102]? = some (.cells #[.int .i64 0, .int .i64 0, .string (⟨#[]⟩ : ByteArray)] 36 (0, 0))) ∧ Aside0 (IsS137 w wc g105 t103 x106001_4) ∧ Aside0 (Below w.heap.size w wc))
  case first =>
    have H := HC5.out
    clear HC5
    by_cases c11 : (wrap64 (1 + t106)) ≤ 2
    · rw [if_pos c11] at H
      have c11b0 : decide ((wrap64 (1 + t106)) ≤ 2) = true := decide_eq_true c11
      clear c11
      (first | rw [c11b0] | (simp only [i64_w, i32_w]; rw [c11b0]) | skip)
      have H' := Aside0.mk H
      clear H
      go_wp2
      go_meet
      case rel => exact ⟨_, (1), (t109), (by first | rfl | (simp; done) | (simp [*]; done)), H', ⟨by first | omega | exact Nat.le_refl _⟩, ⟨kp BK101⟩, ⟨kp BK102⟩, ⟨by repeat (first | (with_reducible first | exact HI105.out | apply IsS137.alloc | apply IsS137.drewN | apply IsS137.drew | apply IsS137.set_1 | refine IsS137.far ?_ NB105_101.out _ | refine IsS137.far ?_ NB105_102.out _) | exact HI105.out)⟩, ⟨by repeat (first | (with_reducible first | exact HB.out | apply below_alloc | apply pw_below_drewN | apply below_drew1 | refine below_set ?_ (IsS137.ge HI105.out) | refine below_set ?_ GE101.out | refine below_set ?_ GE102.out) | exact HB.out)⟩⟩
    · rw [if_neg c11] at H
      have c11b0 : decide ((wrap64 (1 + t106)) ≤ 2) = false := decide_eq_false c11
      clear c11
      (first | rw [c11b0] | (simp only [i64_w, i32_w]; rw [c11b0]) | skip)
      by_cases c12 : (wrap64 (1 + t106)) ≤ 9
      · rw [if_pos c12] at H
        have c12b0 : decide ((wrap64 (1 + t106)) ≤ 9) = true := decide_eq_true c12
        clear c12
        replace H := Option.bind_eq_some_iff.mp H
        obtain ⟨⟨t110, t111⟩, A130, H⟩ := H
        replace H : (if t110 = 0 then (spec_DrawMillBinary.j0 k (wrap64 (1 + t106)) 2 t103 t111) else (spec_DrawMillBinary.j0 k (wrap64 (1 + t106)) (wrap64 (3 + t108)) t103 t111)) = some (r1, r2, r3, r4, r5, r6, r7) := H
        have A13 := Aside0.mk A130
        clear A130
        by_cases c14 : t110 = 0
        · rw [if_pos c14] at H
          have c14b0 : (t110 == 0) = true := beq_iff_eq.mpr c14
          have c14b1 : (t110 != 0) = false := bne_eq_false_iff_eq.mpr c14
          clear c14
          have H' := Aside0.mk H
          clear H
          go_wp2_with (first | (go_at_call 83; (with_reducible refine (spec_l10Rd_pick.calls k g105 t103 t109 3 t110 t111 w _ ?side1 ?side2 A13.out).mono ?_); (case side1 => repeat (first | (with_reducible first | exact HI105.out | apply IsS137.alloc | apply IsS137.drewN | apply IsS137.drew | apply IsS137.set_1 | refine IsS137.far ?_ NB105_101.out _ | refine IsS137.far ?_ NB105_102.out _) | exact HI105.out)); (case side2 => repeat (first | (with_reducible first | exact HB.out | apply below_alloc | apply pw_below_drewN | apply below_drew1 | refine below_set ?_ (IsS137.ge HI105.out) | refine below_set ?_ GE101.out | refine below_set ?_ GE102.out) | exact HB.out)); rintro e w15 ⟨rfl, hi, hb, hk⟩; replace BK101 := Aside0.mk (KeepBut.blk hk (g' := gb101) (o := .cells #[.int .i64 0, .int .i64 0, .string (⟨#[]⟩ : ByteArray)] 36 (0, 0)) (kp BK101) NB101_105.out (by simp)); replace BK102 := Aside0.mk (KeepBut.blk hk (g' := gb102) (o := .cells #[.int .i64 0, .int .i64 0, .string (⟨#[]⟩ : ByteArray)] 36 (0, 0)) (kp BK102) NB102_105.out (by simp)); replace HB := Aside0.mk (hb); replace HI105 := Aside0.mk (hi)))
          go_meet
          case rel => exact ⟨_, (2), (t111), (by first | rfl | (simp; done) | (simp [*]; done)), H', ⟨by first | omega | exact Nat.le_refl _⟩, ⟨kp BK101⟩, ⟨kp BK102⟩, ⟨by repeat (first | (with_reducible first | exact HI105.out | apply IsS137.alloc | apply IsS137.drewN | apply IsS137.drew | apply IsS137.set_1 | refine IsS137.far ?_ NB105_101.out _ | refine IsS137.far ?_ NB105_102.out _) | exact HI105.out)⟩, ⟨by repeat (first | (with_reducible first | exact HB.out | apply below_alloc | apply pw_below_drewN | apply below_drew1 | refine below_set ?_ (IsS137.ge HI105.out) | refine below_set ?_ GE101.out | refine below_set ?_ GE102.out) | exact HB.out)⟩⟩
        · rw [if_neg c14] at H
          have c14b0 : (t110 == 0) = false := beq_eq_false_iff_ne.mpr c14
          have c14b1 : (t110 != 0) = true := bne_iff_ne.mpr c14
          have H' := Aside0.mk H
          clear H
          go_wp2_with (first | (go_at_call 83; (with_reducible refine (spec_l10Rd_pick.calls k g105 t103 t109 3 t110 t111 w _ ?side1 ?side2 A13.out).mono ?_); (case side1 => repeat (first | (with_reducible first | exact HI105.out | apply IsS137.alloc | apply IsS137.drewN | apply IsS137.drew | apply IsS137.set_1 | refine IsS137.far ?_ NB105_101.out _ | refine IsS137.far ?_ NB105_102.out _) | exact HI105.out)); (case side2 => repeat (first | (with_reducible first | exact HB.out | apply below_alloc | apply pw_below_drewN | apply below_drew1 | refine below_set ?_ (IsS137.ge HI105.out) | refine below_set ?_ GE101.out | refine below_set ?_ GE102.out) | exact HB.out)); rintro e w16 ⟨rfl, hi, hb, hk⟩; replace BK101 := Aside0.mk (KeepBut.blk hk (g' := gb101) (o := .cells #[.int .i64 0, .int .i64 0, .string (⟨#[]⟩ : ByteArray)] 36 (0, 0)) (kp BK101) NB101_105.out (by simp)); replace BK102 := Aside0.mk (KeepBut.blk hk (g' := gb102) (o := .cells #[.int .i64 0, .int .i64 0, .string (⟨#[]⟩ : ByteArray)] 36 (0, 0)) (kp BK102) NB102_105.out (by simp)); replace HB := Aside0.mk (hb); replace HI105 := Aside0.mk (hi)))
          go_meet
          case rel => exact ⟨_, (wrap64 (3 + t108)), (t111), (by first | rfl | (simp; done) | (simp [*]; done)), H', ⟨by first | omega | exact Nat.le_refl _⟩, ⟨kp BK101⟩, ⟨kp BK102⟩, ⟨by repeat (first | (with_reducible first | exact HI105.out | apply IsS137.alloc | apply IsS137.drewN | apply IsS137.drew | apply IsS137.set_1 | refine IsS137.far ?_ NB105_101.out _ | refine IsS137.far ?_ NB105_102.out _) | exact HI105.out)⟩, ⟨by repeat (first | (with_reducible first | exact HB.out | apply below_alloc | apply pw_below_drewN | apply below_drew1 | refine below_set ?_ (IsS137.ge HI105.out) | refine below_set ?_ GE101.out | refine below_set ?_ GE102.out) | exact HB.out)⟩⟩
      · rw [if_neg c12] at H
        have c12b0 : decide ((wrap64 (1 + t106)) ≤ 9) = false := decide_eq_false c12
        clear c12
        have H' := Aside0.mk H
        clear H
        go_wp2
        go_meet
        case rel => exact ⟨_, (wrap64 (3 + t108)), (t109), (by first | rfl | (simp; done) | (simp [*]; done)), H', ⟨by first | omega | exact Nat.le_refl _⟩, ⟨kp BK101⟩, ⟨kp BK102⟩, ⟨by repeat (first | (with_reducible first | exact HI105.out | apply IsS137.alloc | apply IsS137.drewN | apply IsS137.drew | apply IsS137.set_1 | refine IsS137.far ?_ NB105_101.out _ | refine IsS137.far ?_ NB105_102.out _) | exact HI105.out)⟩, ⟨by repeat (first | (with_reducible first | exact HB.out | apply below_alloc | apply pw_below_drewN | apply below_drew1 | refine below_set ?_ (IsS137.ge HI105.out) | refine below_set ?_ GE101.out | refine below_set ?_ GE102.out) | exact HB.out)⟩⟩
  case rest =>
    clear HC5
    obtain ⟨kq, x7_4, x106001_4, rfl, HA, HJ4, BK101, BK102, HI105, HB⟩ := hcut
    cases kq with
    | zero => exact absurd HA.out (by simp [spec_DrawMillBinary.j0])
    | succ kj4 =>
      have H := HA.out
      clear HA
      simp only [spec_DrawMillBinary.j0] at H
      replace H := Option.bind_eq_some_iff.mp H
      obtain ⟨⟨t112, t113, t114, t115⟩, A170, H⟩ := H
      replace H : ((spec_l10Rd_pick.f kj4 t103 t115 16).bind fun bt117 => (if bt117.1 = 0 then ((spec_l10Rd_pick.f kj4 t103 bt117.2 10).bind fun bt119 => (spec_DrawMillBinary.j1 kj4 (wrap64 (1 + t106)) (wrap64 (1 + bt119.1)) t103 bt119.2 t112 t113 t114)) else (spec_DrawMillBinary.j1 kj4 (wrap64 (1 + t106)) x7_4 t103 bt117.2 t112 t113 t114))) = some (r1, r2, r3, r4, r5, r6, r7) := H
      have A17 := Aside0.mk A170
      clear A170
      replace H := Option.bind_eq_some_iff.mp H
      obtain ⟨⟨t117, t118⟩, A180, H⟩ := H
      replace H : (if t117 = 0 then ((spec_l10Rd_pick.f kj4 t103 t118 10).bind fun bt119 => (spec_DrawMillBinary.j1 kj4 (wrap64 (1 + t106)) (wrap64 (1 + bt119.1)) t103 bt119.2 t112 t113 t114)) else (spec_DrawMillBinary.j1 kj4 (wrap64 (1 + t106)) x7_4 t103 t118 t112 t113 t114)) = some (r1, r2, r3, r4, r5, r6, r7) := H
      have A18 := Aside0.mk A180
      clear A180
      have HC19 := Aside0.mk H
      clear H
      go_upto_if 32 with (first | ((with_reducible refine gate_callee (f := 84) rfl ?_); refine goesL_ (some 29) rfl rfl Try.func84 (by kernel_rfl) rfl #[.pointer (some ⟨g105, 0, none⟩), .int .i64 x7_4] rfl (by (try simp only [List.map_toArray, List.map_cons, List.map_nil]); first | done | rfl | (simp only [List.length_drop, List.length_take]; rfl)) ?_; (with_reducible refine (spec_l13Any.calls kj4 g105 t103 x106001_4 x7_4 t112 t113 t114 t115 w _ ?side1 ?side2 A17.out).mono ?_); (case side1 => repeat (first | (with_reducible first | exact HI105.out | apply IsS137.alloc | apply IsS137.drewN | apply IsS137.drew | apply IsS137.set_1 | refine IsS137.far ?_ NB105_101.out _ | refine IsS137.far ?_ NB105_102.out _) | exact HI105.out)); (case side2 => repeat (first | (with_reducible first | exact HB.out | apply below_alloc | apply pw_below_drewN | apply below_drew1 | refine below_set ?_ (IsS137.ge HI105.out) | refine below_set ?_ GE101.out | refine below_set ?_ GE102.out) | exact HB.out)); rintro e w20 ⟨rfl, hi, hb, hk⟩; refine ⟨_, rfl, ?_⟩; replace BK101 := Aside0.mk (KeepBut.blk hk (g' := gb101) (o := .cells #[.int .i64 0, .int .i64 0, .string (⟨#[]⟩ : ByteArray)] 36 (0, 0)) (kp BK101) NB101_105.out (by simp)); replace BK102 := Aside0.mk (KeepBut.blk hk (g' := gb102) (o := .cells #[.int .i64 0, .int .i64 0, .string (⟨#[]⟩ : ByteArray)] 36 (0, 0)) (kp BK102) NB102_105.out (by simp)); replace HB := Aside0.mk (hb); replace HI105 := Aside0.mk (hi)) | ((with_reducible refine gate_dst (N := 8) rfl ?_); refine gX 8 #[.int .i64 0, .int .i64 0, .string (⟨#[]⟩ : ByteArray)] 36 ?_; intro gb116 hg w21 hbox hb; have n0_ := kB BK101 hb; have n1_ := kB BK102 hb; have n2_ := Aside0.mk (IsS137.below (by repeat (first | (with_reducible first | exact HI105.out | apply IsS137.alloc | apply IsS137.drewN | apply IsS137.drew | apply IsS137.set_1 | refine IsS137.far ?_ NB105_101.out _ | refine IsS137.far ?_ NB105_102.out _) | exact HI105.out)) hb); have n3_ := Aside0.mk (below_step (by repeat (first | (with_reducible first | exact HB.out | apply below_alloc | apply pw_below_drewN | apply below_drew1 | refine below_set ?_ (IsS137.ge HI105.out) | refine below_set ?_ GE101.out | refine below_set ?_ GE102.out) | exact HB.out)) hb); have n4_ := Aside0.mk (hbox); have n5_ := Aside0.mk ((by rw [hg]; exact (below_size (by repeat (first | (with_reducible first | exact HB.out | apply below_alloc | apply pw_below_drewN | apply below_drew1 | refine below_set ?_ (IsS137.ge HI105.out) | refine below_set ?_ GE101.out | refine below_set ?_ GE102.out) | exact HB.out))) : w.heap.size ≤ gb116)); have n6_ := Aside0.mk ((by rw [hg]; exact (below_size (by repeat (first | (with_reducible first | exact HB.out | apply below_alloc | apply pw_below_drewN | apply below_drew1 | refine below_set ?_ (IsS137.ge HI105.out) | refine below_set ?_ GE101.out | refine below_set ?_ GE102.out) | exact HB.out))) : w.heap.size ≤ gb116)); have n7_ := nl hg (kp BK101); have n8_ := ng hg (kp BK101); have n9_ := nl hg (kp BK102); have n10_ := ng hg (kp BK102); have n11_ := Aside0.mk ((by rw [hg]; exact Nat.ne_of_lt (IsS137.lt (show IsS137 w _ g105 t103 t115 from by repeat (first | (with_reducible first | exact HI105.out | apply IsS137.alloc | apply IsS137.drewN | apply IsS137.drew | apply IsS137.set_1 | refine IsS137.far ?_ NB105_101.out _ | refine IsS137.far ?_ NB105_102.out _) | exact HI105.out))) : g105 ≠ gb116)); have n12_ := Aside0.mk ((by rw [hg]; exact Nat.ne_of_gt (IsS137.lt (show IsS137 w _ g105 t103 t115 from by repeat (first | (with_reducible first | exact HI105.out | apply IsS137.alloc | apply IsS137.drewN | apply IsS137.drew | apply IsS137.set_1 | refine IsS137.far ?_ NB105_101.out _ | refine IsS137.far ?_ NB105_102.out _) | exact HI105.out))) : gb116 ≠ g105)); clear BK101; clear BK102; clear HI105; clear HB; have BK101 := n0_; have BK102 := n1_; have HI105 := n2_; have HB := n3_; have BK116 := n4_; have GW116 := n5_; have GE116 := n6_; have NB101_116 := n7_; have NB116_101 := n8_; have NB102_116 := n9_; have NB116_102 := n10_; have NB105_116 := n11_; have NB116_105 := n12_; clear n0_ n1_ n2_ n3_ n4_ n5_ n6_ n7_ n8_ n9_ n10_ n11_ n12_; clear hb hbox hg; have hnb22 := NB116_101.out; have hnc22 := NB101_116.out; have hnb23 := NB116_102.out; have hnc23 := NB102_116.out; have hnb24 := NB116_105.out; have hnc24 := NB105_116.out; obtain ⟨⟨hcz25_0, hcz25_1, hcz25_2⟩, hfz25_0, hfz25_1, hfz25_2⟩ := bf3 BK116) | ((with_reducible refine gate_callee (f := 83) rfl ?_); refine goesL_ (some 31) rfl rfl Try.func83 (by kernel_rfl) rfl #[.pointer (some ⟨g105, 0, none⟩), .int .i64 16] rfl (by (try simp only [List.map_toArray, List.map_cons, List.map_nil]); first | done | rfl | (simp only [List.length_drop, List.length_take]; rfl)) ?_; (with_reducible refine (spec_l10Rd_pick.calls kj4 g105 t103 t115 16 t117 t118 w _ ?side1 ?side2 A18.out).mono ?_); (case side1 => repeat (first | (with_reducible first | exact HI105.out | apply IsS137.alloc | apply IsS137.drewN | apply IsS137.drew | apply IsS137.set_1 | refine IsS137.far ?_ NB105_101.out _ | refine IsS137.far ?_ NB105_102.out _ | refine IsS137.far ?_ NB105_116.out _) | exact HI105.out)); (case side2 => repeat (first | (with_reducible first | exact HB.out | apply below_alloc | apply pw_below_drewN | apply below_drew1 | refine below_set ?_ (IsS137.ge HI105.out) | refine below_set ?_ GE101.out | refine below_set ?_ GE102.out | refine below_set ?_ GE116.out) | exact HB.out)); rintro e w26 ⟨rfl, hi, hb, hk⟩; refine ⟨_, rfl, ?_⟩; replace BK101 := Aside0.mk (KeepBut.blk hk (g' := gb101) (o := .cells #[.int .i64 0, .int .i64 0, .string (⟨#[]⟩ : ByteArray)] 36 (0, 0)) (by (with_reducible repeat (first | refine blk_drewN ?_ _ | refine blk_drew ?_ | refine blk_alloc ?_ _)); refine blk_far ?_ NB101_116.out _; (with_reducible repeat (first | refine blk_drewN ?_ _ | refine blk_drew ?_ | refine blk_alloc ?_ _)); refine blk_far ?_ NB101_116.out _; (with_reducible repeat (first | refine blk_drewN ?_ _ | refine blk_drew ?_ | refine blk_alloc ?_ _)); refine blk_far ?_ NB101_116.out _; (with_reducible repeat (first | refine blk_drewN ?_ _ | refine blk_drew ?_ | refine blk_alloc ?_ _)); exact BK101.out) NB101_105.out (by simp)); replace BK102 := Aside0.mk (KeepBut.blk hk (g' := gb102) (o := .cells #[.int .i64 0, .int .i64 0, .string (⟨#[]⟩ : ByteArray)] 36 (0, 0)) (by (with_reducible repeat (first | refine blk_drewN ?_ _ | refine blk_drew ?_ | refine blk_alloc ?_ _)); refine blk_far ?_ NB102_116.out _; (with_reducible repeat (first | refine blk_drewN ?_ _ | refine blk_drew ?_ | refine blk_alloc ?_ _)); refine blk_far ?_ NB102_116.out _; (with_reducible repeat (first | refine blk_drewN ?_ _ | refine blk_drew ?_ | refine blk_alloc ?_ _)); refine blk_far ?_ NB102_116.out _; (with_reducible repeat (first | refine blk_drewN ?_ _ | refine blk_drew ?_ | refine blk_alloc ?_ _)); exact BK102.out) NB102_105.out (by simp)); replace BK116 := Aside0.mk (KeepBut.blk hk (g' := gb116) (o := .cells #[.int .i64 t112, .int .i64 t113, .string t114] 36 (0, 0)) (by (with_reducible repeat (first | refine blk_drewN ?_ _ | refine blk_drew ?_ | refine blk_alloc ?_ _)); refine blk_put (cs := #[.int .i64 t112, .int .i64 t113, .string (⟨#[]⟩ : ByteArray)]) ?_ 2 _ rfl; (with_reducible repeat (first | refine blk_drewN ?_ _ | refine blk_drew ?_ | refine blk_alloc ?_ _)); refine blk_put (cs := #[.int .i64 t112, .int .i64 0, .string (⟨#[]⟩ : ByteArray)]) ?_ 1 _ rfl; (with_reducible repeat (first | refine blk_drewN ?_ _ | refine blk_drew ?_ | refine blk_alloc ?_ _)); refine blk_put (cs := #[.int .i64 0, .int .i64 0, .string (⟨#[]⟩ : ByteArray)]) ?_ 0 _ rfl; (with_reducible repeat (first | refine blk_drewN ?_ _ | refine blk_drew ?_ | refine blk_alloc ?_ _)); exact BK116.out) NB116_105.out (by simp)); replace HB := Aside0.mk (hb); replace HI105 := Aside0.mk (hi)))
      (try simp only [Act.put, List.setIfInBounds_toArray, List.set_cons_zero, List.set_cons_succ])
      go_cut [7] (fun v7 wc => ∃ (kq : Nat) (x7_18 : Int) (x106001_18 : Int), v7 = .int .i64 x7_18 ∧ Aside0 (spec_DrawMillBinary.j1 kq (wrap64 (1 + t106)) x7_18 t103 x106001_18 t112 t113 t114 = some (r1, r2, r3, r4, r5, r6, r7)) ∧ Aside0 (kq ≤ kj4) ∧ Aside0 (wc.heap[gb101]? = some (.cells #[.int .i64 0, .int .i64 0, .string (⟨#[]⟩ : ByteArray)] 36 (0, 0))) ∧ Aside0 (wc.heap[gb102]? = some (.cells #[.int .i64 0, .int .i64 0, .string (⟨#[]⟩ : ByteArray)] 36 (0, 0))) ∧ Aside0 (wc.heap[gb116]? = some (.cells #[.int .i64 t112, .int .i64 t113, .string t114] 36 (0, 0))) ∧ Aside0 (IsS137 w wc g105 t103 x106001_18) ∧ Aside0 (Below w.heap.size w wc))
      case first =>
        have H := HC19.out
        clear HC19
        by_cases c27 : t117 = 0
        · rw [if_pos c27] at H
          have c27b0 : (t117 == 0) = true := beq_iff_eq.mpr c27
          have c27b1 : (t117 != 0) = false := bne_eq_false_iff_eq.mpr c27
          clear c27
          (first | rw [c27b0] | (simp only [i64_w, i32_w]; rw [c27b0]) | skip)
          replace H := Option.bind_eq_some_iff.mp H
          obtain ⟨⟨t119, t120⟩, A280, H⟩ := H
          replace H : (spec_DrawMillBinary.j1 kj4 (wrap64 (1 + t106)) (wrap64 (1 + t119)) t103 t120 t112 t113 t114) = some (r1, r2, r3, r4, r5, r6, r7) := H
          have A28 := Aside0.mk A280
          clear A280
          have H' := Aside0.mk H
          clear H
          go_wp2_with (first | ((with_reducible refine gate_callee (f := 83) rfl ?_); refine goesL_ (some 34) rfl rfl Try.func83 (by kernel_rfl) rfl #[.pointer (some ⟨g105, 0, none⟩), .int .i64 10] rfl (by (try simp only [List.map_toArray, List.map_cons, List.map_nil]); first | done | rfl | (simp only [List.length_drop, List.length_take]; rfl)) ?_; (with_reducible refine (spec_l10Rd_pick.calls kj4 g105 t103 t118 10 t119 t120 w _ ?side1 ?side2 A28.out).mono ?_); (case side1 => repeat (first | (with_reducible first | exact HI105.out | apply IsS137.alloc | apply IsS137.drewN | apply IsS137.drew | apply IsS137.set_1 | refine IsS137.far ?_ NB105_101.out _ | refine IsS137.far ?_ NB105_102.out _ | refine IsS137.far ?_ NB105_116.out _) | exact HI105.out)); (case side2 => repeat (first | (with_reducible first | exact HB.out | apply below_alloc | apply pw_below_drewN | apply below_drew1 | refine below_set ?_ (IsS137.ge HI105.out) | refine below_set ?_ GE101.out | refine below_set ?_ GE102.out | refine below_set ?_ GE116.out) | exact HB.out)); rintro e w29 ⟨rfl, hi, hb, hk⟩; refine ⟨_, rfl, ?_⟩; replace BK101 := Aside0.mk (KeepBut.blk hk (g' := gb101) (o := .cells #[.int .i64 0, .int .i64 0, .string (⟨#[]⟩ : ByteArray)] 36 (0, 0)) (kp BK101) NB101_105.out (by simp)); replace BK102 := Aside0.mk (KeepBut.blk hk (g' := gb102) (o := .cells #[.int .i64 0, .int .i64 0, .string (⟨#[]⟩ : ByteArray)] 36 (0, 0)) (kp BK102) NB102_105.out (by simp)); replace BK116 := Aside0.mk (KeepBut.blk hk (g' := gb116) (o := .cells #[.int .i64 t112, .int .i64 t113, .string t114] 36 (0, 0)) (kp BK116) NB116_105.out (by simp)); replace HB := Aside0.mk (hb); replace HI105 := Aside0.mk (hi)))
          go_meet
          case rel => exact ⟨_, (wrap64 (1 + t119)), (t120), (by first | rfl | (simp; done) | (simp [*]; done)), H', ⟨by have := HJ4.out; first | omega | exact Nat.le_refl _⟩, ⟨kp BK101⟩, ⟨kp BK102⟩, ⟨kp BK116⟩, ⟨by repeat (first | (with_reducible first | exact HI105.out | apply IsS137.alloc | apply IsS137.drewN | apply IsS137.drew | apply IsS137.set_1 | refine IsS137.far ?_ NB105_101.out _ | refine IsS137.far ?_ NB105_102.out _ | refine IsS137.far ?_ NB105_116.out _) | exact HI105.out)⟩, ⟨by repeat (first | (with_reducible first | exact HB.out | apply below_alloc | apply pw_below_drewN | apply below_drew1 | refine below_set ?_ (IsS137.ge HI105.out) | refine below_set ?_ GE101.out | refine below_set ?_ GE102.out | refine below_set ?_ GE116.out) | exact HB.out)⟩⟩
        · rw [if_neg c27] at H
          have c27b0 : (t117 == 0) = false := beq_eq_false_iff_ne.mpr c27
          have c27b1 : (t117 != 0) = true := bne_iff_ne.mpr c27
          (first | rw [c27b0] | (simp only [i64_w, i32_w]; rw [c27b0]) | skip)
          have H' := Aside0.mk H
          clear H
          go_wp2
          go_meet
          case rel => exact ⟨_, (x7_4), (t118), (by first | rfl | (simp; done) | (simp [*]; done)), H', ⟨by have := HJ4.out; first | omega | exact Nat.le_refl _⟩, ⟨kp BK101⟩, ⟨kp BK102⟩, ⟨kp BK116⟩, ⟨by repeat (first | (with_reducible first | exact HI105.out | apply IsS137.alloc | apply IsS137.drewN | apply IsS137.drew | apply IsS137.set_1 | refine IsS137.far ?_ NB105_101.out _ | refine IsS137.far ?_ NB105_102.out _ | refine IsS137.far ?_ NB105_116.out _) | exact HI105.out)⟩, ⟨by repeat (first | (with_reducible first | exact HB.out | apply below_alloc | apply pw_below_drewN | apply below_drew1 | refine below_set ?_ (IsS137.ge HI105.out) | refine below_set ?_ GE101.out | refine below_set ?_ GE102.out | refine below_set ?_ GE116.out) | exact HB.out)⟩⟩
      case rest =>
        clear HC19
        obtain ⟨kq, x7_18, x106001_18, rfl, HA, HJ18, BK101, BK102, BK116, HI105, HB⟩ := hcut
        cases kq with
        | zero => exact absurd HA.out (by simp [spec_DrawMillBinary.j1])
        | succ kj18 =>
          have H := HA.out
          clear HA
          simp only [spec_DrawMillBinary.j1] at H
          replace H := Option.bind_eq_some_iff.mp H
          obtain ⟨⟨t121, t122, t123, t124⟩, A300, H⟩ := H
          replace H : (if (wrap64 (1 + t106)) ≥ 17 then ((spec_l10Integer.f t121).bind fun t126 => (if t126 = true then ((spec_l10Rd_pick.f kj18 t103 t124 2).bind fun bt127 => (spec_DrawMillBinary.j2 kj18 (wrap64 (1 + t106)) x7_18 (bt127.1 == 0) t103 bt127.2 t112 t113 t114 t121 t122 t123)) else (spec_DrawMillBinary.j2 kj18 (wrap64 (1 + t106)) x7_18 false t103 t124 t112 t113 t114 t121 t122 t123))) else (spec_DrawMillBinary.j2 kj18 (wrap64 (1 + t106)) x7_18 false t103 t124 t112 t113 t114 t121 t122 t123)) = some (r1, r2, r3, r4, r5, r6, r7) := H
          have A30 := Aside0.mk A300
          clear A300
          have HC31 := Aside0.mk H
          clear H
          go_upto_region 12 with (first | ((with_reducible refine gate_callee (f := 84) rfl ?_); refine goesL_ (some 38) rfl rfl Try.func84 (by kernel_rfl) rfl #[.pointer (some ⟨g105, 0, none⟩), .int .i64 x7_18] rfl (by (try simp only [List.map_toArray, List.map_cons, List.map_nil]); first | done | rfl | (simp only [List.length_drop, List.length_take]; rfl)) ?_; (with_reducible refine (spec_l13Any.calls kj18 g105 t103 x106001_18 x7_18 t121 t122 t123 t124 w _ ?side1 ?side2 A30.out).mono ?_); (case side1 => repeat (first | (with_reducible first | exact HI105.out | apply IsS137.alloc | apply IsS137.drewN | apply IsS137.drew | apply IsS137.set_1 | refine IsS137.far ?_ NB105_101.out _ | refine IsS137.far ?_ NB105_102.out _ | refine IsS137.far ?_ NB105_116.out _) | exact HI105.out)); (case side2 => repeat (first | (with_reducible first | exact HB.out | apply below_alloc | apply pw_below_drewN | apply below_drew1 | refine below_set ?_ (IsS137.ge HI105.out) | refine below_set ?_ GE101.out | refine below_set ?_ GE102.out | refine below_set ?_ GE116.out) | exact HB.out)); rintro e w32 ⟨rfl, hi, hb, hk⟩; refine ⟨_, rfl, ?_⟩; replace BK101 := Aside0.mk (KeepBut.blk hk (g' := gb101) (o := .cells #[.int .i64 0, .int .i64 0, .string (⟨#[]⟩ : ByteArray)] 36 (0, 0)) (kp BK101) NB101_105.out (by simp)); replace BK102 := Aside0.mk (KeepBut.blk hk (g' := gb102) (o := .cells #[.int .i64 0, .int .i64 0, .string (⟨#[]⟩ : ByteArray)] 36 (0, 0)) (kp BK102) NB102_105.out (by simp)); replace BK116 := Aside0.mk (KeepBut.blk hk (g' := gb116) (o := .cells #[.int .i64 t112, .int .i64 t113, .string t114] 36 (0, 0)) (kp BK116) NB116_105.out (by simp)); replace HB := Aside0.mk (hb); replace HI105 := Aside0.mk (hi)) | ((with_reducible refine gate_dst (N := 9) rfl ?_); refine gX 9 #[.int .i64 0, .int .i64 0, .string (⟨#[]⟩ : ByteArray)] 36 ?_; intro gb125 hg w33 hbox hb; have n0_ := kB BK101 hb; have n1_ := kB BK102 hb; have n2_ := kB BK116 hb; have n3_ := Aside0.mk (IsS137.below (by repeat (first | (with_reducible first | exact HI105.out | apply IsS137.alloc | apply IsS137.drewN | apply IsS137.drew | apply IsS137.set_1 | refine IsS137.far ?_ NB105_101.out _ | refine IsS137.far ?_ NB105_102.out _ | refine IsS137.far ?_ NB105_116.out _) | exact HI105.out)) hb); have n4_ := Aside0.mk (below_step (by repeat (first | (with_reducible first | exact HB.out | apply below_alloc | apply pw_below_drewN | apply below_drew1 | refine below_set ?_ (IsS137.ge HI105.out) | refine below_set ?_ GE101.out | refine below_set ?_ GE102.out | refine below_set ?_ GE116.out) | exact HB.out)) hb); have n5_ := Aside0.mk (hbox); have n6_ := Aside0.mk ((by rw [hg]; exact (below_size (by repeat (first | (with_reducible first | exact HB.out | apply below_alloc | apply pw_below_drewN | apply below_drew1 | refine below_set ?_ (IsS137.ge HI105.out) | refine below_set ?_ GE101.out | refine below_set ?_ GE102.out | refine below_set ?_ GE116.out) | exact HB.out))) : w.heap.size ≤ gb125)); have n7_ := Aside0.mk ((by rw [hg]; exact (below_size (by repeat (first | (with_reducible first | exact HB.out | apply below_alloc | apply pw_below_drewN | apply below_drew1 | refine below_set ?_ (IsS137.ge HI105.out) | refine below_set ?_ GE101.out | refine below_set ?_ GE102.out | refine below_set ?_ GE116.out) | exact HB.out))) : w.heap.size ≤ gb125)); have n8_ := nl hg (kp BK101); have n9_ := ng hg (kp BK101); have n10_ := nl hg (kp BK102); have n11_ := ng hg (kp BK102); have n12_ := nl hg (kp BK116); have n13_ := ng hg (kp BK116); have n14_ := Aside0.mk ((by rw [hg]; exact Nat.ne_of_lt (IsS137.lt (show IsS137 w _ g105 t103 t124 from by repeat (first | (with_reducible first | exact HI105.out | apply IsS137.alloc | apply IsS137.drewN | apply IsS137.drew | apply IsS137.set_1 | refine IsS137.far ?_ NB105_101.out _ | refine IsS137.far ?_ NB105_102.out _ | refine IsS137.far ?_ NB105_116.out _) | exact HI105.out))) : g105 ≠ gb125)); have n15_ := Aside0.mk ((by rw [hg]; exact Nat.ne_of_gt (IsS137.lt (show IsS137 w _ g105 t103 t124 from by repeat (first | (with_reducible first | exact HI105.out | apply IsS137.alloc | apply IsS137.drewN | apply IsS137.drew | apply IsS137.set_1 | refine IsS137.far ?_ NB105_101.out _ | refine IsS137.far ?_ NB105_102.out _ | refine IsS137.far ?_ NB105_116.out _) | exact HI105.out))) : gb125 ≠ g105)); clear BK101; clear BK102; clear BK116; clear HI105; clear HB; have BK101 := n0_; have BK102 := n1_; have BK116 := n2_; have HI105 := n3_; have HB := n4_; have BK125 := n5_; have GW125 := n6_; have GE125 := n7_; have NB101_125 := n8_; have NB125_101 := n9_; have NB102_125 := n10_; have NB125_102 := n11_; have NB116_125 := n12_; have NB125_116 := n13_; have NB105_125 := n14_; have NB125_105 := n15_; clear n0_ n1_ n2_ n3_ n4_ n5_ n6_ n7_ n8_ n9_ n10_ n11_ n12_ n13_ n14_ n15_; clear hb hbox hg; have hnb34 := NB125_101.out; have hnc34 := NB101_125.out; have hnb35 := NB125_102.out; have hnc35 := NB102_125.out; have hnb36 := NB125_116.out; have hnc36 := NB116_125.out; have hnb37 := NB125_105.out; have hnc37 := NB105_125.out; obtain ⟨⟨hcz38_0, hcz38_1, hcz38_2⟩, hfz38_0, hfz38_1, hfz38_2⟩ := bf3 BK125))
          (try simp only [Act.put, List.setIfInBounds_toArray, List.set_cons_zero, List.set_cons_succ])
          go_cut [50] (fun v50 wc => ∃ (kq : Nat) (x50_30 : Bool) (x106001_30 : Int), v50 = .bool x50_30 ∧ Aside0 (spec_DrawMillBinary.j2 kq (wrap64 (1 + t106)) x7_18 x50_30 t103 x106001_30 t112 t113 t114 t121 t122 t123 = some (r1, r2, r3, r4, r5, r6, r7)) ∧ Aside0 (kq ≤ kj18) ∧ Aside0 (wc.heap[gb101]? = some (.cells #[.int .i64 0, .int .i64 0, .string (⟨#[]⟩ : ByteArray)] 36 (0, 0))) ∧ Aside0 (wc.heap[gb102]? = some (.cells #[.int .i64 0, .int .i64 0, .string (⟨#[]⟩ : ByteArray)] 36 (0, 0))) ∧ Aside0 (wc.heap[gb116]? = some (.cells #[.int .i64 t112, .int .i64 t113, .string t114] 36 (0, 0))) ∧ Aside0 (wc.heap[gb125]? = some (.cells #[.int .i64 t121, .int .i64 t122, .string t123] 36 (0, 0))) ∧ Aside0 (IsS137 w wc g105 t103 x106001_30) ∧ Aside0 (Below w.heap.size w wc))
          case first =>
            have H := HC31.out
            clear HC31
            by_cases c39 : (wrap64 (1 + t106)) ≥ 17
            · rw [if_pos c39] at H
              have c39b0 : decide (17 ≤ (wrap64 (1 + t106))) = true := decide_eq_true c39
              clear c39
              (first | rw [c39b0] | (simp only [i64_w, i32_w]; rw [c39b0]) | skip)
              replace H := Option.bind_eq_some_iff.mp H
              obtain ⟨t126, A400, H⟩ := H
              replace H : (if t126 = true then ((spec_l10Rd_pick.f kj18 t103 t124 2).bind fun bt127 => (spec_DrawMillBinary.j2 kj18 (wrap64 (1 + t106)) x7_18 (bt127.1 == 0) t103 bt127.2 t112 t113 t114 t121 t122 t123)) else (spec_DrawMillBinary.j2 kj18 (wrap64 (1 + t106)) x7_18 false t103 t124 t112 t113 t114 t121 t122 t123)) = some (r1, r2, r3, r4, r5, r6, r7) := H
              have A40 := Aside0.mk A400
              clear A400
              by_cases c41 : t126 = true
              · subst c41
                have H1 : ((spec_l10Rd_pick.f kj18 t103 t124 2).bind fun bt127 => (spec_DrawMillBinary.j2 kj18 (wrap64 (1 + t106)) x7_18 (bt127.1 == 0) t103 bt127.2 t112 t113 t114 t121 t122 t123)) = some (r1, r2, r3, r4, r5, r6, r7) := by rw [if_pos rfl] at H; exact H
                clear H
                have H := H1
                clear H1
                replace H := Option.bind_eq_some_iff.mp H
                obtain ⟨⟨t127, t128⟩, A420, H⟩ := H
                replace H : (spec_DrawMillBinary.j2 kj18 (wrap64 (1 + t106)) x7_18 (t127 == 0) t103 t128 t112 t113 t114 t121 t122 t123) = some (r1, r2, r3, r4, r5, r6, r7) := H
                have A42 := Aside0.mk A420
                clear A420
                have H' := Aside0.mk H
                clear H
                have hnb43 := NB125_101.out
                have hnc43 := NB101_125.out
                have hnb44 := NB125_102.out
                have hnc44 := NB102_125.out
                have hnb45 := NB125_116.out
                have hnc45 := NB116_125.out
                have hnb46 := NB125_105.out
                have hnc46 := NB105_125.out
                obtain ⟨⟨hcz47_0, hcz47_1, hcz47_2⟩, hfz47_0, hfz47_1, hfz47_2⟩ := bf3 BK125
                go_wp2_with (first | (go_at_call 52; (with_reducible refine (spec_l10Integer.calls t121 true _ A40.out).mono ?_); rintro e w' ⟨rfl, ⟨nd, rfl⟩⟩) | (go_at_call 83; (with_reducible refine (spec_l10Rd_pick.calls kj18 g105 t103 t124 2 t127 t128 w _ ?side1 ?side2 A42.out).mono ?_); (case side1 => repeat (first | (with_reducible first | exact HI105.out | apply IsS137.alloc | apply IsS137.drewN | apply IsS137.drew | apply IsS137.set_1 | refine IsS137.far ?_ NB105_101.out _ | refine IsS137.far ?_ NB105_102.out _ | refine IsS137.far ?_ NB105_116.out _ | refine IsS137.far ?_ NB105_125.out _) | exact HI105.out)); (case side2 => repeat (first | (with_reducible first | exact HB.out | apply below_alloc | apply pw_below_drewN | apply below_drew1 | refine below_set ?_ (IsS137.ge HI105.out) | refine below_set ?_ GE101.out | refine below_set ?_ GE102.out | refine below_set ?_ GE116.out | refine below_set ?_ GE125.out) | exact HB.out)); rintro e w48 ⟨rfl, hi, hb, hk⟩; replace BK101 := Aside0.mk (KeepBut.blk hk (g' := gb101) (o := .cells #[.int .i64 0, .int .i64 0, .string (⟨#[]⟩ : ByteArray)] 36 (0, 0)) (by (with_reducible repeat (first | refine blk_drewN ?_ _ | refine blk_drew ?_ | refine blk_alloc ?_ _)); refine blk_far ?_ NB101_125.out _; (with_reducible repeat (first | refine blk_drewN ?_ _ | refine blk_drew ?_ | refine blk_alloc ?_ _)); refine blk_far ?_ NB101_125.out _; (with_reducible repeat (first | refine blk_drewN ?_ _ | refine blk_drew ?_ | refine blk_alloc ?_ _)); refine blk_far ?_ NB101_125.out _; (with_reducible repeat (first | refine blk_drewN ?_ _ | refine blk_drew ?_ | refine blk_alloc ?_ _)); exact BK101.out) NB101_105.out (by simp)); replace BK102 := Aside0.mk (KeepBut.blk hk (g' := gb102) (o := .cells #[.int .i64 0, .int .i64 0, .string (⟨#[]⟩ : ByteArray)] 36 (0, 0)) (by (with_reducible repeat (first | refine blk_drewN ?_ _ | refine blk_drew ?_ | refine blk_alloc ?_ _)); refine blk_far ?_ NB102_125.out _; (with_reducible repeat (first | refine blk_drewN ?_ _ | refine blk_drew ?_ | refine blk_alloc ?_ _)); refine blk_far ?_ NB102_125.out _; (with_reducible repeat (first | refine blk_drewN ?_ _ | refine blk_drew ?_ | refine blk_alloc ?_ _)); refine blk_far ?_ NB102_125.out _; (with_reducible repeat (first | refine blk_drewN ?_ _ | refine blk_drew ?_ | refine blk_alloc ?_ _)); exact BK102.out) NB102_105.out (by simp)); replace BK116 := Aside0.mk (KeepBut.blk hk (g' := gb116) (o := .cells #[.int .i64 t112, .int .i64 t113, .string t114] 36 (0, 0)) (by (with_reducible repeat (first | refine blk_drewN ?_ _ | refine blk_drew ?_ | refine blk_alloc ?_ _)); refine blk_far ?_ NB116_125.out _; (with_reducible repeat (first | refine blk_drewN ?_ _ | refine blk_drew ?_ | refine blk_alloc ?_ _)); refine blk_far ?_ NB116_125.out _; (with_reducible repeat (first | refine blk_drewN ?_ _ | refine blk_drew ?_ | refine blk_alloc ?_ _)); refine blk_far ?_ NB116_125.out _; (with_reducible repeat (first | refine blk_drewN ?_ _ | refine blk_drew ?_ | refine blk_alloc ?_ _)); exact BK116.out) NB116_105.out (by simp)); replace BK125 := Aside0.mk (KeepBut.blk hk (g' := gb125) (o := .cells #[.int .i64 t121, .int .i64 t122, .string t123] 36 (0, 0)) (by (with_reducible repeat (first | refine blk_drewN ?_ _ | refine blk_drew ?_ | refine blk_alloc ?_ _)); refine blk_put (cs := #[.int .i64 t121, .int .i64 t122, .string (⟨#[]⟩ : ByteArray)]) ?_ 2 _ rfl; (with_reducible repeat (first | refine blk_drewN ?_ _ | refine blk_drew ?_ | refine blk_alloc ?_ _)); refine blk_put (cs := #[.int .i64 t121, .int .i64 0, .string (⟨#[]⟩ : ByteArray)]) ?_ 1 _ rfl; (with_reducible repeat (first | refine blk_drewN ?_ _ | refine blk_drew ?_ | refine blk_alloc ?_ _)); refine blk_put (cs := #[.int .i64 0, .int .i64 0, .string (⟨#[]⟩ : ByteArray)]) ?_ 0 _ rfl; (with_reducible repeat (first | refine blk_drewN ?_ _ | refine blk_drew ?_ | refine blk_alloc ?_ _)); exact BK125.out) NB125_105.out (by simp)); replace HB := Aside0.mk (hb); replace HI105 := Aside0.mk (hi)))
                go_meet
                case rel => exact ⟨_, ((t127 == 0)), (t128), (by first | rfl | (simp; done) | (simp [*]; done)), H', ⟨by have := HJ4.out; have := HJ18.out; first | omega | exact Nat.le_refl _⟩, ⟨kp BK101⟩, ⟨kp BK102⟩, ⟨kp BK116⟩, ⟨kp BK125⟩, ⟨by repeat (first | (with_reducible first | exact HI105.out | apply IsS137.alloc | apply IsS137.drewN | apply IsS137.drew | apply IsS137.set_1 | refine IsS137.far ?_ NB105_101.out _ | refine IsS137.far ?_ NB105_102.out _ | refine IsS137.far ?_ NB105_116.out _ | refine IsS137.far ?_ NB105_125.out _) | exact HI105.out)⟩, ⟨by repeat (first | (with_reducible first | exact HB.out | apply below_alloc | apply pw_below_drewN | apply below_drew1 | refine below_set ?_ (IsS137.ge HI105.out) | refine below_set ?_ GE101.out | refine below_set ?_ GE102.out | refine below_set ?_ GE116.out | refine below_set ?_ GE125.out) | exact HB.out)⟩⟩
              · replace c41 := Bool.eq_false_iff.mpr c41
                subst c41
                have H1 : (spec_DrawMillBinary.j2 kj18 (wrap64 (1 + t106)) x7_18 false t103 t124 t112 t113 t114 t121 t122 t123) = some (r1, r2, r3, r4, r5, r6, r7) := by rw [if_neg (show ¬ (false = true) by decide)] at H; exact H
                clear H
                have H := H1
                clear H1
                have H' := Aside0.mk H
                clear H
                have hnb49 := NB125_101.out
                have hnc49 := NB101_125.out
                have hnb50 := NB125_102.out
                have hnc50 := NB102_125.out
                have hnb51 := NB125_116.out
                have hnc51 := NB116_125.out
                have hnb52 := NB125_105.out
                have hnc52 := NB105_125.out
                obtain ⟨⟨hcz53_0, hcz53_1, hcz53_2⟩, hfz53_0, hfz53_1, hfz53_2⟩ := bf3 BK125
                go_wp2_with (first | (go_at_call 52; (with_reducible refine (spec_l10Integer.calls t121 false _ A40.out).mono ?_); rintro e w' ⟨rfl, ⟨nd, rfl⟩⟩))
                go_meet
                case rel => exact ⟨_, (false), (t124), (by first | rfl | (simp; done) | (simp [*]; done)), H', ⟨by have := HJ4.out; have := HJ18.out; first | omega | exact Nat.le_refl _⟩, ⟨by (with_reducible repeat (first | refine blk_drewN ?_ _ | refine blk_drew ?_ | refine blk_alloc ?_ _)); refine blk_far ?_ NB101_125.out _; (with_reducible repeat (first | refine blk_drewN ?_ _ | refine blk_drew ?_ | refine blk_alloc ?_ _)); refine blk_far ?_ NB101_125.out _; (with_reducible repeat (first | refine blk_drewN ?_ _ | refine blk_drew ?_ | refine blk_alloc ?_ _)); refine blk_far ?_ NB101_125.out _; (with_reducible repeat (first | refine blk_drewN ?_ _ | refine blk_drew ?_ | refine blk_alloc ?_ _)); exact BK101.out⟩, ⟨by (with_reducible repeat (first | refine blk_drewN ?_ _ | refine blk_drew ?_ | refine blk_alloc ?_ _)); refine blk_far ?_ NB102_125.out _; (with_reducible repeat (first | refine blk_drewN ?_ _ | refine blk_drew ?_ | refine blk_alloc ?_ _)); refine blk_far ?_ NB102_125.out _; (with_reducible repeat (first | refine blk_drewN ?_ _ | refine blk_drew ?_ | refine blk_alloc ?_ _)); refine blk_far ?_ NB102_125.out _; (with_reducible repeat (first | refine blk_drewN ?_ _ | refine blk_drew ?_ | refine blk_alloc ?_ _)); exact BK102.out⟩, ⟨by (with_reducible repeat (first | refine blk_drewN ?_ _ | refine blk_drew ?_ | refine blk_alloc ?_ _)); refine blk_far ?_ NB116_125.out _; (with_reducible repeat (first | refine blk_drewN ?_ _ | refine blk_drew ?_ | refine blk_alloc ?_ _)); refine blk_far ?_ NB116_125.out _; (with_reducible repeat (first | refine blk_drewN ?_ _ | refine blk_drew ?_ | refine blk_alloc ?_ _)); refine blk_far ?_ NB116_125.out _; (with_reducible repeat (first | refine blk_drewN ?_ _ | refine blk_drew ?_ | refine blk_alloc ?_ _)); exact BK116.out⟩, ⟨by (with_reducible repeat (first | refine blk_drewN ?_ _ | refine blk_drew ?_ | refine blk_alloc ?_ _)); refine blk_put (cs := #[.int .i64 t121, .int .i64 t122, .string (⟨#[]⟩ : ByteArray)]) ?_ 2 _ rfl; (with_reducible repeat (first | refine blk_drewN ?_ _ | refine blk_drew ?_ | refine blk_alloc ?_ _)); refine blk_put (cs := #[.int .i64 t121, .int .i64 0, .string (⟨#[]⟩ : ByteArray)]) ?_ 1 _ rfl; (with_reducible repeat (first | refine blk_drewN ?_ _ | refine blk_drew ?_ | refine blk_alloc ?_ _)); refine blk_put (cs := #[.int .i64 0, .int .i64 0, .string (⟨#[]⟩ : ByteArray)]) ?_ 0 _ rfl; (with_reducible repeat (first | refine blk_drewN ?_ _ | refine blk_drew ?_ | refine blk_alloc ?_ _)); exact BK125.out⟩, ⟨by repeat (first | (with_reducible first | exact HI105.out | apply IsS137.alloc | apply IsS137.drewN | apply IsS137.drew | apply IsS137.set_1 | refine IsS137.far ?_ NB105_101.out _ | refine IsS137.far ?_ NB105_102.out _ | refine IsS137.far ?_ NB105_116.out _ | refine IsS137.far ?_ NB105_125.out _) | exact HI105.out)⟩, ⟨by repeat (first | (with_reducible first | exact HB.out | apply below_alloc | apply pw_below_drewN | apply below_drew1 | refine below_set ?_ (IsS137.ge HI105.out) | refine below_set ?_ GE101.out | refine below_set ?_ GE102.out | refine below_set ?_ GE116.out | refine below_set ?_ GE125.out) | exact HB.out)⟩⟩
            · rw [if_neg c39] at H
              have c39b0 : decide (17 ≤ (wrap64 (1 + t106))) = false := decide_eq_false c39
              clear c39
              (first | rw [c39b0] | (simp only [i64_w, i32_w]; rw [c39b0]) | skip)
              have H' := Aside0.mk H
              clear H
              go_wp2
              go_meet
              case rel => exact ⟨_, (false), (t124), (by first | rfl | (simp; done) | (simp [*]; done)), H', ⟨by have := HJ4.out; have := HJ18.out; first | omega | exact Nat.le_refl _⟩, ⟨by (with_reducible repeat (first | refine blk_drewN ?_ _ | refine blk_drew ?_ | refine blk_alloc ?_ _)); refine blk_far ?_ NB101_125.out _; (with_reducible repeat (first | refine blk_drewN ?_ _ | refine blk_drew ?_ | refine blk_alloc ?_ _)); refine blk_far ?_ NB101_125.out _; (with_reducible repeat (first | refine blk_drewN ?_ _ | refine blk_drew ?_ | refine blk_alloc ?_ _)); refine blk_far ?_ NB101_125.out _; (with_reducible repeat (first | refine blk_drewN ?_ _ | refine blk_drew ?_ | refine blk_alloc ?_ _)); exact BK101.out⟩, ⟨by (with_reducible repeat (first | refine blk_drewN ?_ _ | refine blk_drew ?_ | refine blk_alloc ?_ _)); refine blk_far ?_ NB102_125.out _; (with_reducible repeat (first | refine blk_drewN ?_ _ | refine blk_drew ?_ | refine blk_alloc ?_ _)); refine blk_far ?_ NB102_125.out _; (with_reducible repeat (first | refine blk_drewN ?_ _ | refine blk_drew ?_ | refine blk_alloc ?_ _)); refine blk_far ?_ NB102_125.out _; (with_reducible repeat (first | refine blk_drewN ?_ _ | refine blk_drew ?_ | refine blk_alloc ?_ _)); exact BK102.out⟩, ⟨by (with_reducible repeat (first | refine blk_drewN ?_ _ | refine blk_drew ?_ | refine blk_alloc ?_ _)); refine blk_far ?_ NB116_125.out _; (with_reducible repeat (first | refine blk_drewN ?_ _ | refine blk_drew ?_ | refine blk_alloc ?_ _)); refine blk_far ?_ NB116_125.out _; (with_reducible repeat (first | refine blk_drewN ?_ _ | refine blk_drew ?_ | refine blk_alloc ?_ _)); refine blk_far ?_ NB116_125.out _; (with_reducible repeat (first | refine blk_drewN ?_ _ | refine blk_drew ?_ | refine blk_alloc ?_ _)); exact BK116.out⟩, ⟨by (with_reducible repeat (first | refine blk_drewN ?_ _ | refine blk_drew ?_ | refine blk_alloc ?_ _)); refine blk_put (cs := #[.int .i64 t121, .int .i64 t122, .string (⟨#[]⟩ : ByteArray)]) ?_ 2 _ rfl; (with_reducible repeat (first | refine blk_drewN ?_ _ | refine blk_drew ?_ | refine blk_alloc ?_ _)); refine blk_put (cs := #[.int .i64 t121, .int .i64 0, .string (⟨#[]⟩ : ByteArray)]) ?_ 1 _ rfl; (with_reducible repeat (first | refine blk_drewN ?_ _ | refine blk_drew ?_ | refine blk_alloc ?_ _)); refine blk_put (cs := #[.int .i64 0, .int .i64 0, .string (⟨#[]⟩ : ByteArray)]) ?_ 0 _ rfl; (with_reducible repeat (first | refine blk_drewN ?_ _ | refine blk_drew ?_ | refine blk_alloc ?_ _)); exact BK125.out⟩, ⟨by repeat (first | (with_reducible first | exact HI105.out | apply IsS137.alloc | apply IsS137.drewN | apply IsS137.drew | apply IsS137.set_1 | refine IsS137.far ?_ NB105_101.out _ | refine IsS137.far ?_ NB105_102.out _ | refine IsS137.far ?_ NB105_116.out _ | refine IsS137.far ?_ NB105_125.out _) | exact HI105.out)⟩, ⟨by repeat (first | (with_reducible first | exact HB.out | apply below_alloc | apply pw_below_drewN | apply below_drew1 | refine below_set ?_ (IsS137.ge HI105.out) | refine below_set ?_ GE101.out | refine below_set ?_ GE102.out | refine below_set ?_ GE116.out | refine below_set ?_ GE125.out) | exact HB.out)⟩⟩
          case rest =>
            clear HC31
            obtain ⟨kq, x50_30, x106001_30, rfl, HA, HJ30, BK101, BK102, BK116, BK125, HI105, HB⟩ := hcut
            cases kq with
            | zero => exact absurd HA.out (by simp [spec_DrawMillBinary.j2])
            | succ kj30 =>
              have H := HA.out
              clear HA
              simp only [spec_DrawMillBinary.j2] at H
              have HC54 := Aside0.mk H
              clear H
              go_upto_if 50 with (fail)
              go_cut [] (fun wc => ∃ (kq : Nat) (x106001_53 : Int) (x126001_53 : Int), Aside0 (spec_DrawMillBinary.j3 kq (wrap64 (1 + t106)) x7_18 t103 x106001_53 t112 t113 t114 t121 x126001_53 t123 = some (r1, r2, r3, r4, r5, r6, r7)) ∧ Aside0 (kq ≤ kj30) ∧ Aside0 (wc.heap[gb101]? = some (.cells #[.int .i64 0, .int .i64 0, .string (⟨#[]⟩ : ByteArray)] 36 (0, 0))) ∧ Aside0 (wc.heap[gb102]? = some (.cells #[.int .i64 0, .int .i64 0, .string (⟨#[]⟩ : ByteArray)] 36 (0, 0))) ∧ Aside0 (wc.heap[gb116]? = some (.cells #[.int .i64 t112, .int .i64 t113, .string t114] 36 (0, 0))) ∧ Aside0 (wc.heap[gb125]? = some (.cells #[.int .i64 t121, .int .i64 x126001_53, .string t123] 36 (0, 0))) ∧ Aside0 (IsS137 w wc g105 t103 x106001_53) ∧ Aside0 (Below w.heap.size w wc))
              case first =>
                have H := HC54.out
                clear HC54
                by_cases c55 : x50_30 = true
                · subst c55
                  have H1 : ((spec_l10Rd_pick.f kj30 t103 x106001_30 70).bind fun bt129 => ((spec_l10Max.f kj30 x7_18).bind fun t131 => (if (wrap64 (IntKind.u64.wrap ((Int.tmod t131 71) + 1))) = 0 then (none) else (spec_DrawMillBinary.j3 kj30 (wrap64 (1 + t106)) x7_18 t103 bt129.2 t112 t113 t114 t121 (Int.tmod bt129.1 (wrap64 (IntKind.u64.wrap ((Int.tmod t131 71) + 1)))) t123)))) = some (r1, r2, r3, r4, r5, r6, r7) := by rw [if_pos rfl] at H; exact H
                  clear H
                  have H := H1
                  clear H1
                  replace H := Option.bind_eq_some_iff.mp H
                  obtain ⟨⟨t129, t130⟩, A560, H⟩ := H
                  replace H : ((spec_l10Max.f kj30 x7_18).bind fun t131 => (if (wrap64 (IntKind.u64.wrap ((Int.tmod t131 71) + 1))) = 0 then (none) else (spec_DrawMillBinary.j3 kj30 (wrap64 (1 + t106)) x7_18 t103 t130 t112 t113 t114 t121 (Int.tmod t129 (wrap64 (IntKind.u64.wrap ((Int.tmod t131 71) + 1)))) t123))) = some (r1, r2, r3, r4, r5, r6, r7) := H
                  have A56 := Aside0.mk A560
                  clear A560
                  replace H := Option.bind_eq_some_iff.mp H
                  obtain ⟨t131, A570, H⟩ := H
                  replace H : (if (wrap64 (IntKind.u64.wrap ((Int.tmod t131 71) + 1))) = 0 then (none) else (spec_DrawMillBinary.j3 kj30 (wrap64 (1 + t106)) x7_18 t103 t130 t112 t113 t114 t121 (Int.tmod t129 (wrap64 (IntKind.u64.wrap ((Int.tmod t131 71) + 1)))) t123)) = some (r1, r2, r3, r4, r5, r6, r7) := H
                  have A57 := Aside0.mk A570
                  clear A570
                  by_cases c58 : (wrap64 (IntKind.u64.wrap ((Int.tmod t131 71) + 1))) = 0
                  · rw [if_pos c58] at H
                    exact absurd H (by simp)
                  · rw [if_neg c58] at H
                    have c58b0 : ((wrap64 (IntKind.u64.wrap ((Int.tmod t131 71) + 1))) == 0) = false := beq_eq_false_iff_ne.mpr c58
                    have c58b1 : ((wrap64 (IntKind.u64.wrap ((Int.tmod t131 71) + 1))) != 0) = true := bne_iff_ne.mpr c58
                    (first | rw [c58b0] | (simp only [i64_w, i32_w]; rw [c58b0]) | skip)
                    have H' := Aside0.mk H
                    clear H
                    go_wp2_with (first | ((with_reducible refine gate_callee (f := 83) rfl ?_); refine goesL_ (some 52) rfl rfl Try.func83 (by kernel_rfl) rfl #[.pointer (some ⟨g105, 0, none⟩), .int .i64 70] rfl (by (try simp only [List.map_toArray, List.map_cons, List.map_nil]); first | done | rfl | (simp only [List.length_drop, List.length_take]; rfl)) ?_; (with_reducible refine (spec_l10Rd_pick.calls kj30 g105 t103 x106001_30 70 t129 t130 w _ ?side1 ?side2 A56.out).mono ?_); (case side1 => repeat (first | (with_reducible first | exact HI105.out | apply IsS137.alloc | apply IsS137.drewN | apply IsS137.drew | apply IsS137.set_1 | refine IsS137.far ?_ NB105_101.out _ | refine IsS137.far ?_ NB105_102.out _ | refine IsS137.far ?_ NB105_116.out _ | refine IsS137.far ?_ NB105_125.out _) | exact HI105.out)); (case side2 => repeat (first | (with_reducible first | exact HB.out | apply below_alloc | apply pw_below_drewN | apply below_drew1 | refine below_set ?_ (IsS137.ge HI105.out) | refine below_set ?_ GE101.out | refine below_set ?_ GE102.out | refine below_set ?_ GE116.out | refine below_set ?_ GE125.out) | exact HB.out)); rintro e w59 ⟨rfl, hi, hb, hk⟩; refine ⟨_, rfl, ?_⟩; replace BK101 := Aside0.mk (KeepBut.blk hk (g' := gb101) (o := .cells #[.int .i64 0, .int .i64 0, .string (⟨#[]⟩ : ByteArray)] 36 (0, 0)) (kp BK101) NB101_105.out (by simp)); replace BK102 := Aside0.mk (KeepBut.blk hk (g' := gb102) (o := .cells #[.int .i64 0, .int .i64 0, .string (⟨#[]⟩ : ByteArray)] 36 (0, 0)) (kp BK102) NB102_105.out (by simp)); replace BK116 := Aside0.mk (KeepBut.blk hk (g' := gb116) (o := .cells #[.int .i64 t112, .int .i64 t113, .string t114] 36 (0, 0)) (kp BK116) NB116_105.out (by simp)); replace BK125 := Aside0.mk (KeepBut.blk hk (g' := gb125) (o := .cells #[.int .i64 t121, .int .i64 t122, .string t123] 36 (0, 0)) (kp BK125) NB125_105.out (by simp)); replace HB := Aside0.mk (hb); replace HI105 := Aside0.mk (hi)) | ((with_reducible refine gate_callee (f := 85) rfl ?_); refine goesL_ (some 54) rfl rfl Try.func85 (by kernel_rfl) rfl #[.int .i64 x7_18] rfl (by (try simp only [List.map_toArray, List.map_cons, List.map_nil]); first | done | rfl | (simp only [List.length_drop, List.length_take]; rfl)) ?_; (with_reducible refine (spec_l10Max.calls kj30 x7_18 t131 _ A57.out).mono ?_); rintro e w' ⟨rfl, ⟨nd, rfl⟩⟩; refine ⟨_, rfl, ?_⟩; (try (rw [drewN_self w59]; generalize hq_ : World.drewN w59 _ = w59; have n0_ : Aside0 (w59.heap[gb101]? = some (.cells #[.int .i64 0, .int .i64 0, .string (⟨#[]⟩ : ByteArray)] 36 (0, 0))) := ⟨by rw [← hq_]; exact (kp BK101)⟩; have n1_ : Aside0 (w59.heap[gb102]? = some (.cells #[.int .i64 0, .int .i64 0, .string (⟨#[]⟩ : ByteArray)] 36 (0, 0))) := ⟨by rw [← hq_]; exact (kp BK102)⟩; have n2_ : Aside0 (w59.heap[gb116]? = some (.cells #[.int .i64 t112, .int .i64 t113, .string t114] 36 (0, 0))) := ⟨by rw [← hq_]; exact (kp BK116)⟩; have n3_ : Aside0 (w59.heap[gb125]? = some (.cells #[.int .i64 t121, .int .i64 t122, .string t123] 36 (0, 0))) := ⟨by rw [← hq_]; exact (kp BK125)⟩; have n4_ : Aside0 (IsS137 w w59 g105 t103 t130) := ⟨by rw [← hq_]; exact (by repeat (first | (with_reducible first | exact HI105.out | apply IsS137.alloc | apply IsS137.drewN | apply IsS137.drew | apply IsS137.set_1 | refine IsS137.far ?_ NB105_101.out _ | refine IsS137.far ?_ NB105_102.out _ | refine IsS137.far ?_ NB105_116.out _ | refine IsS137.far ?_ NB105_125.out _) | exact HI105.out))⟩; have n5_ : Aside0 (Below w.heap.size w w59) := ⟨by rw [← hq_]; exact (by repeat (first | (with_reducible first | exact HB.out | apply below_alloc | apply pw_below_drewN | apply below_drew1 | refine below_set ?_ (IsS137.ge HI105.out) | refine below_set ?_ GE101.out | refine below_set ?_ GE102.out | refine below_set ?_ GE116.out | refine below_set ?_ GE125.out) | exact HB.out))⟩; clear BK101 BK102 BK116 BK125 HI105 HB hq_; have BK101 := n0_; have BK102 := n1_; have BK116 := n2_; have BK125 := n3_; have HI105 := n4_; have HB := n5_; clear n0_ n1_ n2_ n3_ n4_ n5_)); have hnb60 := NB125_101.out; have hnc60 := NB101_125.out; have hnb61 := NB125_102.out; have hnc61 := NB102_125.out; have hnb62 := NB125_116.out; have hnc62 := NB116_125.out; have hnb63 := NB125_105.out; have hnc63 := NB105_125.out; obtain ⟨⟨hcz64_0, hcz64_1, hcz64_2⟩, hfz64_0, hfz64_1, hfz64_2⟩ := bf3 BK125))
                    go_meet
                    case rel => exact ⟨_, (t130), (Int.tmod t129 (wrap64 (IntKind.u64.wrap ((Int.tmod t131 71) + 1)))), H', ⟨by have := HJ4.out; have := HJ18.out; have := HJ30.out; first | omega | exact Nat.le_refl _⟩, ⟨by (with_reducible repeat (first | refine blk_drewN ?_ _ | refine blk_drew ?_ | refine blk_alloc ?_ _)); refine blk_far ?_ NB101_125.out _; (with_reducible repeat (first | refine blk_drewN ?_ _ | refine blk_drew ?_ | refine blk_alloc ?_ _)); exact BK101.out⟩, ⟨by (with_reducible repeat (first | refine blk_drewN ?_ _ | refine blk_drew ?_ | refine blk_alloc ?_ _)); refine blk_far ?_ NB102_125.out _; (with_reducible repeat (first | refine blk_drewN ?_ _ | refine blk_drew ?_ | refine blk_alloc ?_ _)); exact BK102.out⟩, ⟨by (with_reducible repeat (first | refine blk_drewN ?_ _ | refine blk_drew ?_ | refine blk_alloc ?_ _)); refine blk_far ?_ NB116_125.out _; (with_reducible repeat (first | refine blk_drewN ?_ _ | refine blk_drew ?_ | refine blk_alloc ?_ _)); exact BK116.out⟩, ⟨by (with_reducible repeat (first | refine blk_drewN ?_ _ | refine blk_drew ?_ | refine blk_alloc ?_ _)); refine blk_put (cs := #[.int .i64 t121, .int .i64 t122, .string t123]) ?_ 1 _ rfl; (with_reducible repeat (first | refine blk_drewN ?_ _ | refine blk_drew ?_ | refine blk_alloc ?_ _)); exact BK125.out⟩, ⟨by repeat (first | (with_reducible first | exact HI105.out | apply IsS137.alloc | apply IsS137.drewN | apply IsS137.drew | apply IsS137.set_1 | refine IsS137.far ?_ NB105_101.out _ | refine IsS137.far ?_ NB105_102.out _ | refine IsS137.far ?_ NB105_116.out _ | refine IsS137.far ?_ NB105_125.out _) | exact HI105.out)⟩, ⟨by repeat (first | (with_reducible first | exact HB.out | apply below_alloc | apply pw_below_drewN | apply below_drew1 | refine below_set ?_ (IsS137.ge HI105.out) | refine below_set ?_ GE101.out | refine below_set ?_ GE102.out | refine below_set ?_ GE116.out | refine below_set ?_ GE125.out) | exact HB.out)⟩⟩
                · replace c55 := Bool.eq_false_iff.mpr c55
                  subst c55
                  have H1 : (spec_DrawMillBinary.j3 kj30 (wrap64 (1 + t106)) x7_18 t103 x106001_30 t112 t113 t114 t121 t122 t123) = some (r1, r2, r3, r4, r5, r6, r7) := by rw [if_neg (show ¬ (false = true) by decide)] at H; exact H
                  clear H
                  have H := H1
                  clear H1
                  have H' := Aside0.mk H
                  clear H
                  go_wp2
                  go_meet
                  case rel => exact ⟨_, (x106001_30), (t122), H', ⟨by have := HJ4.out; have := HJ18.out; have := HJ30.out; first | omega | exact Nat.le_refl _⟩, ⟨kp BK101⟩, ⟨kp BK102⟩, ⟨kp BK116⟩, ⟨kp BK125⟩, ⟨by repeat (first | (with_reducible first | exact HI105.out | apply IsS137.alloc | apply IsS137.drewN | apply IsS137.drew | apply IsS137.set_1 | refine IsS137.far ?_ NB105_101.out _ | refine IsS137.far ?_ NB105_102.out _ | refine IsS137.far ?_ NB105_116.out _ | refine IsS137.far ?_ NB105_125.out _) | exact HI105.out)⟩, ⟨by repeat (first | (with_reducible first | exact HB.out | apply below_alloc | apply pw_below_drewN | apply below_drew1 | refine below_set ?_ (IsS137.ge HI105.out) | refine below_set ?_ GE101.out | refine below_set ?_ GE102.out | refine below_set ?_ GE116.out | refine below_set ?_ GE125.out) | exact HB.out)⟩⟩
              case rest =>
                clear HC54
                obtain ⟨kq, x106001_53, x126001_53, HA, HJ53, BK101, BK102, BK116, BK125, HI105, HB⟩ := hcut
                cases kq with
                | zero => exact absurd HA.out (by simp [spec_DrawMillBinary.j3])
                | succ kj53 =>
                  have H := HA.out
                  clear HA
                  simp only [spec_DrawMillBinary.j3] at H
                  have HC65 := Aside0.mk H
                  clear H
                  go_upto_region 14 with (fail)
                  go_cut [78] (fun v78 wc => ∃ (kq : Nat) (x78_64 : Bool) (x106001_64 : Int), v78 = .bool x78_64 ∧ Aside0 (spec_DrawMillBinary.j4 kq (wrap64 (1 + t106)) x7_18 x78_64 t103 x106001_64 t112 t113 t114 t121 x126001_53 t123 = some (r1, r2, r3, r4, r5, r6, r7)) ∧ Aside0 (kq ≤ kj53) ∧ Aside0 (wc.heap[gb101]? = some (.cells #[.int .i64 0, .int .i64 0, .string (⟨#[]⟩ : ByteArray)] 36 (0, 0))) ∧ Aside0 (wc.heap[gb102]? = some (.cells #[.int .i64 0, .int .i64 0, .string (⟨#[]⟩ : ByteArray)] 36 (0, 0))) ∧ Aside0 (wc.heap[gb116]? = some (.cells #[.int .i64 t112, .int .i64 t113, .string t114] 36 (0, 0))) ∧ Aside0 (wc.heap[gb125]? = some (.cells #[.int .i64 t121, .int .i64 x126001_53, .string t123] 36 (0, 0))) ∧ Aside0 (IsS137 w wc g105 t103 x106001_64) ∧ Aside0 (Below w.heap.size w wc))
                  case first =>
                    have H := HC65.out
                    clear HC65
                    by_cases c66 : (wrap64 (1 + t106)) ≥ 17
                    · rw [if_pos c66] at H
                      have c66b0 : decide (17 ≤ (wrap64 (1 + t106))) = true := decide_eq_true c66
                      clear c66
                      (first | rw [c66b0] | (simp only [i64_w, i32_w]; rw [c66b0]) | skip)
                      replace H := Option.bind_eq_some_iff.mp H
                      obtain ⟨t132, A670, H⟩ := H
                      replace H : (if t132 = true then (if t121 = t112 then ((spec_l10Rd_pick.f kj53 t103 x106001_53 6).bind fun bt133 => (spec_DrawMillBinary.j4 kj53 (wrap64 (1 + t106)) x7_18 (bt133.1 == 0) t103 bt133.2 t112 t113 t114 t121 x126001_53 t123)) else (spec_DrawMillBinary.j4 kj53 (wrap64 (1 + t106)) x7_18 false t103 x106001_53 t112 t113 t114 t121 x126001_53 t123)) else (spec_DrawMillBinary.j4 kj53 (wrap64 (1 + t106)) x7_18 false t103 x106001_53 t112 t113 t114 t121 x126001_53 t123)) = some (r1, r2, r3, r4, r5, r6, r7) := H
                      have A67 := Aside0.mk A670
                      clear A670
                      by_cases c68 : t132 = true
                      · subst c68
                        have H1 : (if t121 = t112 then ((spec_l10Rd_pick.f kj53 t103 x106001_53 6).bind fun bt133 => (spec_DrawMillBinary.j4 kj53 (wrap64 (1 + t106)) x7_18 (bt133.1 == 0) t103 bt133.2 t112 t113 t114 t121 x126001_53 t123)) else (spec_DrawMillBinary.j4 kj53 (wrap64 (1 + t106)) x7_18 false t103 x106001_53 t112 t113 t114 t121 x126001_53 t123)) = some (r1, r2, r3, r4, r5, r6, r7) := by rw [if_pos rfl] at H; exact H
                        clear H
                        have H := H1
                        clear H1
                        by_cases c69 : t121 = t112
                        · rw [if_pos c69] at H
                          have c69b0 : (t121 == t112) = true := beq_iff_eq.mpr c69
                          have c69b1 : (t121 != t112) = false := bne_eq_false_iff_eq.mpr c69
                          clear c69
                          replace H := Option.bind_eq_some_iff.mp H
                          obtain ⟨⟨t133, t134⟩, A700, H⟩ := H
                          replace H : (spec_DrawMillBinary.j4 kj53 (wrap64 (1 + t106)) x7_18 (t133 == 0) t103 t134 t112 t113 t114 t121 x126001_53 t123) = some (r1, r2, r3, r4, r5, r6, r7) := H
                          have A70 := Aside0.mk A700
                          clear A700
                          have H' := Aside0.mk H
                          clear H
                          have hnb71 := NB125_101.out
                          have hnc71 := NB101_125.out
                          have hnb72 := NB125_102.out
                          have hnc72 := NB102_125.out
                          have hnb73 := NB125_116.out
                          have hnc73 := NB116_125.out
                          have hnb74 := NB125_105.out
                          have hnc74 := NB105_125.out
                          obtain ⟨⟨hcz75_0, hcz75_1, hcz75_2⟩, hfz75_0, hfz75_1, hfz75_2⟩ := bf3 BK125
                          go_wp2_with (first | (go_at_call 52; (with_reducible refine (spec_l10Integer.calls t121 true _ A67.out).mono ?_); rintro e w' ⟨rfl, ⟨nd, rfl⟩⟩; have hnb76 := NB116_101.out; have hnc76 := NB101_116.out; have hnb77 := NB116_102.out; have hnc77 := NB102_116.out; have hnb78 := NB116_105.out; have hnc78 := NB105_116.out; obtain ⟨⟨hcz79_0, hcz79_1, hcz79_2⟩, hfz79_0, hfz79_1, hfz79_2⟩ := bf3 BK116) | (go_at_call 83; (with_reducible refine (spec_l10Rd_pick.calls kj53 g105 t103 x106001_53 6 t133 t134 w _ ?side1 ?side2 A70.out).mono ?_); (case side1 => repeat (first | (with_reducible first | exact HI105.out | apply IsS137.alloc | apply IsS137.drewN | apply IsS137.drew | apply IsS137.set_1 | refine IsS137.far ?_ NB105_101.out _ | refine IsS137.far ?_ NB105_102.out _ | refine IsS137.far ?_ NB105_116.out _ | refine IsS137.far ?_ NB105_125.out _) | exact HI105.out)); (case side2 => repeat (first | (with_reducible first | exact HB.out | apply below_alloc | apply pw_below_drewN | apply below_drew1 | refine below_set ?_ (IsS137.ge HI105.out) | refine below_set ?_ GE101.out | refine below_set ?_ GE102.out | refine below_set ?_ GE116.out | refine below_set ?_ GE125.out) | exact HB.out)); rintro e w80 ⟨rfl, hi, hb, hk⟩; replace BK101 := Aside0.mk (KeepBut.blk hk (g' := gb101) (o := .cells #[.int .i64 0, .int .i64 0, .string (⟨#[]⟩ : ByteArray)] 36 (0, 0)) (kp BK101) NB101_105.out (by simp)); replace BK102 := Aside0.mk (KeepBut.blk hk (g' := gb102) (o := .cells #[.int .i64 0, .int .i64 0, .string (⟨#[]⟩ : ByteArray)] 36 (0, 0)) (kp BK102) NB102_105.out (by simp)); replace BK116 := Aside0.mk (KeepBut.blk hk (g' := gb116) (o := .cells #[.int .i64 t112, .int .i64 t113, .string t114] 36 (0, 0)) (kp BK116) NB116_105.out (by simp)); replace BK125 := Aside0.mk (KeepBut.blk hk (g' := gb125) (o := .cells #[.int .i64 t121, .int .i64 x126001_53, .string t123] 36 (0, 0)) (kp BK125) NB125_105.out (by simp)); replace HB := Aside0.mk (hb); replace HI105 := Aside0.mk (hi)))
                          go_meet
                          case rel => exact ⟨_, ((t133 == 0)), (t134), (by first | rfl | (simp; done) | (simp [*]; done)), H', ⟨by have := HJ4.out; have := HJ18.out; have := HJ30.out; have := HJ53.out; first | omega | exact Nat.le_refl _⟩, ⟨kp BK101⟩, ⟨kp BK102⟩, ⟨kp BK116⟩, ⟨kp BK125⟩, ⟨by repeat (first | (with_reducible first | exact HI105.out | apply IsS137.alloc | apply IsS137.drewN | apply IsS137.drew | apply IsS137.set_1 | refine IsS137.far ?_ NB105_101.out _ | refine IsS137.far ?_ NB105_102.out _ | refine IsS137.far ?_ NB105_116.out _ | refine IsS137.far ?_ NB105_125.out _) | exact HI105.out)⟩, ⟨by repeat (first | (with_reducible first | exact HB.out | apply below_alloc | apply pw_below_drewN | apply below_drew1 | refine below_set ?_ (IsS137.ge HI105.out) | refine below_set ?_ GE101.out | refine below_set ?_ GE102.out | refine below_set ?_ GE116.out | refine below_set ?_ GE125.out) | exact HB.out)⟩⟩
                        · rw [if_neg c69] at H
                          have c69b0 : (t121 == t112) = false := beq_eq_false_iff_ne.mpr c69
                          have c69b1 : (t121 != t112) = true := bne_iff_ne.mpr c69
                          have H' := Aside0.mk H
                          clear H
                          have hnb81 := NB125_101.out
                          have hnc81 := NB101_125.out
                          have hnb82 := NB125_102.out
                          have hnc82 := NB102_125.out
                          have hnb83 := NB125_116.out
                          have hnc83 := NB116_125.out
                          have hnb84 := NB125_105.out
                          have hnc84 := NB105_125.out
                          obtain ⟨⟨hcz85_0, hcz85_1, hcz85_2⟩, hfz85_0, hfz85_1, hfz85_2⟩ := bf3 BK125
                          go_wp2_with (first | (go_at_call 52; (with_reducible refine (spec_l10Integer.calls t121 true _ A67.out).mono ?_); rintro e w' ⟨rfl, ⟨nd, rfl⟩⟩; have hnb86 := NB116_101.out; have hnc86 := NB101_116.out; have hnb87 := NB116_102.out; have hnc87 := NB102_116.out; have hnb88 := NB116_105.out; have hnc88 := NB105_116.out; obtain ⟨⟨hcz89_0, hcz89_1, hcz89_2⟩, hfz89_0, hfz89_1, hfz89_2⟩ := bf3 BK116))
                          go_meet
                          case rel => exact ⟨_, (false), (x106001_53), (by first | rfl | (simp; done) | (simp [*]; done)), H', ⟨by have := HJ4.out; have := HJ18.out; have := HJ30.out; have := HJ53.out; first | omega | exact Nat.le_refl _⟩, ⟨kp BK101⟩, ⟨kp BK102⟩, ⟨kp BK116⟩, ⟨kp BK125⟩, ⟨by repeat (first | (with_reducible first | exact HI105.out | apply IsS137.alloc | apply IsS137.drewN | apply IsS137.drew | apply IsS137.set_1 | refine IsS137.far ?_ NB105_101.out _ | refine IsS137.far ?_ NB105_102.out _ | refine IsS137.far ?_ NB105_116.out _ | refine IsS137.far ?_ NB105_125.out _) | exact HI105.out)⟩, ⟨by repeat (first | (with_reducible first | exact HB.out | apply below_alloc | apply pw_below_drewN | apply below_drew1 | refine below_set ?_ (IsS137.ge HI105.out) | refine below_set ?_ GE101.out | refine below_set ?_ GE102.out | refine below_set ?_ GE116.out | refine below_set ?_ GE125.out) | exact HB.out)⟩⟩
                      · replace c68 := Bool.eq_false_iff.mpr c68
                        subst c68
                        have H1 : (spec_DrawMillBinary.j4 kj53 (wrap64 (1 + t106)) x7_18 false t103 x106001_53 t112 t113 t114 t121 x126001_53 t123) = some (r1, r2, r3, r4, r5, r6, r7) := by rw [if_neg (show ¬ (false = true) by decide)] at H; exact H
                        clear H
                        have H := H1
                        clear H1
                        have H' := Aside0.mk H
                        clear H
                        have hnb90 := NB125_101.out
                        have hnc90 := NB101_125.out
                        have hnb91 := NB125_102.out
                        have hnc91 := NB102_125.out
                        have hnb92 := NB125_116.out
                        have hnc92 := NB116_125.out
                        have hnb93 := NB125_105.out
                        have hnc93 := NB105_125.out
                        obtain ⟨⟨hcz94_0, hcz94_1, hcz94_2⟩, hfz94_0, hfz94_1, hfz94_2⟩ := bf3 BK125
                        go_wp2_with (first | (go_at_call 52; (with_reducible refine (spec_l10Integer.calls t121 false _ A67.out).mono ?_); rintro e w' ⟨rfl, ⟨nd, rfl⟩⟩))
                        go_meet
                        case rel => exact ⟨_, (false), (x106001_53), (by first | rfl | (simp; done) | (simp [*]; done)), H', ⟨by have := HJ4.out; have := HJ18.out; have := HJ30.out; have := HJ53.out; first | omega | exact Nat.le_refl _⟩, ⟨kp BK101⟩, ⟨kp BK102⟩, ⟨kp BK116⟩, ⟨kp BK125⟩, ⟨by repeat (first | (with_reducible first | exact HI105.out | apply IsS137.alloc | apply IsS137.drewN | apply IsS137.drew | apply IsS137.set_1 | refine IsS137.far ?_ NB105_101.out _ | refine IsS137.far ?_ NB105_102.out _ | refine IsS137.far ?_ NB105_116.out _ | refine IsS137.far ?_ NB105_125.out _) | exact HI105.out)⟩, ⟨by repeat (first | (with_reducible first | exact HB.out | apply below_alloc | apply pw_below_drewN | apply below_drew1 | refine below_set ?_ (IsS137.ge HI105.out) | refine below_set ?_ GE101.out | refine below_set ?_ GE102.out | refine below_set ?_ GE116.out | refine below_set ?_ GE125.out) | exact HB.out)⟩⟩
                    · rw [if_neg c66] at H
                      have c66b0 : decide (17 ≤ (wrap64 (1 + t106))) = false := decide_eq_false c66
                      clear c66
                      (first | rw [c66b0] | (simp only [i64_w, i32_w]; rw [c66b0]) | skip)
                      have H' := Aside0.mk H
                      clear H
                      go_wp2
                      go_meet
                      case rel => exact ⟨_, (false), (x106001_53), (by first | rfl | (simp; done) | (simp [*]; done)), H', ⟨by have := HJ4.out; have := HJ18.out; have := HJ30.out; have := HJ53.out; first | omega | exact Nat.le_refl _⟩, ⟨kp BK101⟩, ⟨kp BK102⟩, ⟨kp BK116⟩, ⟨kp BK125⟩, ⟨by repeat (first | (with_reducible first | exact HI105.out | apply IsS137.alloc | apply IsS137.drewN | apply IsS137.drew | apply IsS137.set_1 | refine IsS137.far ?_ NB105_101.out _ | refine IsS137.far ?_ NB105_102.out _ | refine IsS137.far ?_ NB105_116.out _ | refine IsS137.far ?_ NB105_125.out _) | exact HI105.out)⟩, ⟨by repeat (first | (with_reducible first | exact HB.out | apply below_alloc | apply pw_below_drewN | apply below_drew1 | refine below_set ?_ (IsS137.ge HI105.out) | refine below_set ?_ GE101.out | refine below_set ?_ GE102.out | refine below_set ?_ GE116.out | refine below_set ?_ GE125.out) | exact HB.out)⟩⟩
                  case rest =>
                    clear HC65
                    obtain ⟨kq, x78_64, x106001_64, rfl, HA, HJ64, BK101, BK102, BK116, BK125, HI105, HB⟩ := hcut
                    cases kq with
                    | zero => exact absurd HA.out (by simp [spec_DrawMillBinary.j4])
                    | succ kj64 =>
                      have H := HA.out
                      clear HA
                      simp only [spec_DrawMillBinary.j4] at H
                      have HC95 := Aside0.mk H
                      clear H
                      go_upto_if 78 with (fail)
                      go_cut [] (fun wc => ∃ (kq : Nat) (x106001_94 : Int) (x117001_94 : Int) (x126001_94 : Int), Aside0 (spec_DrawMillBinary.j5 kq (wrap64 (1 + t106)) t103 x106001_94 t112 x117001_94 t114 t121 x126001_94 t123 = some (r1, r2, r3, r4, r5, r6, r7)) ∧ Aside0 (kq ≤ kj64) ∧ Aside0 (wc.heap[gb101]? = some (.cells #[.int .i64 0, .int .i64 0, .string (⟨#[]⟩ : ByteArray)] 36 (0, 0))) ∧ Aside0 (wc.heap[gb102]? = some (.cells #[.int .i64 0, .int .i64 0, .string (⟨#[]⟩ : ByteArray)] 36 (0, 0))) ∧ Aside0 (wc.heap[gb116]? = some (.cells #[.int .i64 t112, .int .i64 x117001_94, .string t114] 36 (0, 0))) ∧ Aside0 (wc.heap[gb125]? = some (.cells #[.int .i64 t121, .int .i64 x126001_94, .string t123] 36 (0, 0))) ∧ Aside0 (IsS137 w wc g105 t103 x106001_94) ∧ Aside0 (Below w.heap.size w wc))
                      case first =>
                        have H := HC95.out
                        clear HC95
                        by_cases c96 : x78_64 = true
                        · subst c96
                          have H1 : ((some (([8, 16, 32, 64, 7, 15, 31, 63] : List Int) : List Int)).bind fun y135 => ((spec_l10Rd_pick.f kj64 t103 x106001_64 8).bind fun bt138 => (if 0 ≤ bt138.1 then (if bt138.1 < (y135.length : Int) then ((spec_l10Max.f kj64 x7_18).bind fun t141 => (if (rd y135 bt138.1) > (wrap64 (t141 / 2)) then ((some (([1, 5, 100] : List Int) : List Int)).bind fun y142 => ((spec_l10Rd_pick.f kj64 t103 bt138.2 3).bind fun bt145 => (if 0 ≤ bt145.1 then (if bt145.1 < (y142.length : Int) then (if x7_18 ≥ 7 then (spec_DrawMillBinary.j5 kj64 (wrap64 (1 + t106)) t103 bt145.2 t112 (wrap64 (-(rd y142 bt145.1))) t114 t121 8 t123) else (spec_DrawMillBinary.j5 kj64 (wrap64 (1 + t106)) t103 bt145.2 t112 (rd y142 bt145.1) t114 t121 8 t123)) else (none)) else (none)))) else ((some (([1, 5, 100] : List Int) : List Int)).bind fun y148 => ((spec_l10Rd_pick.f kj64 t103 bt138.2 3).bind fun bt151 => (if 0 ≤ bt151.1 then (if bt151.1 < (y148.length : Int) then (if x7_18 ≥ 7 then (spec_DrawMillBinary.j5 kj64 (wrap64 (1 + t106)) t103 bt151.2 t112 (wrap64 (-(rd y148 bt151.1))) t114 t121 (rd y135 bt138.1) t123) else (spec_DrawMillBinary.j5 kj64 (wrap64 (1 + t106)) t103 bt151.2 t112 (rd y148 bt151.1) t114 t121 (rd y135 bt138.1) t123)) else (none)) else (none)))))) else (none)) else (none)))) = some (r1, r2, r3, r4, r5, r6, r7) := by rw [if_pos rfl] at H; exact H
                          clear H
                          have H := H1
                          clear H1
                          obtain ⟨y135, hy135⟩ : ∃ y_ : List Int, y_ = (([8, 16, 32, 64, 7, 15, 31, 63] : List Int)) := ⟨_, rfl⟩
                          replace H : ((spec_l10Rd_pick.f kj64 t103 x106001_64 8).bind fun bt138 => (if 0 ≤ bt138.1 then (if bt138.1 < (y135.length : Int) then ((spec_l10Max.f kj64 x7_18).bind fun t141 => (if (rd y135 bt138.1) > (wrap64 (t141 / 2)) then ((some (([1, 5, 100] : List Int) : List Int)).bind fun y142 => ((spec_l10Rd_pick.f kj64 t103 bt138.2 3).bind fun bt145 => (if 0 ≤ bt145.1 then (if bt145.1 < (y142.length : Int) then (if x7_18 ≥ 7 then (spec_DrawMillBinary.j5 kj64 (wrap64 (1 + t106)) t103 bt145.2 t112 (wrap64 (-(rd y142 bt145.1))) t114 t121 8 t123) else (spec_DrawMillBinary.j5 kj64 (wrap64 (1 + t106)) t103 bt145.2 t112 (rd y142 bt145.1) t114 t121 8 t123)) else (none)) else (none)))) else ((some (([1, 5, 100] : List Int) : List Int)).bind fun y148 => ((spec_l10Rd_pick.f kj64 t103 bt138.2 3).bind fun bt151 => (if 0 ≤ bt151.1 then (if bt151.1 < (y148.length : Int) then (if x7_18 ≥ 7 then (spec_DrawMillBinary.j5 kj64 (wrap64 (1 + t106)) t103 bt151.2 t112 (wrap64 (-(rd y148 bt151.1))) t114 t121 (rd y135 bt138.1) t123) else (spec_DrawMillBinary.j5 kj64 (wrap64 (1 + t106)) t103 bt151.2 t112 (rd y148 bt151.1) t114 t121 (rd y135 bt138.1) t123)) else (none)) else (none)))))) else (none)) else (none))) = some (r1, r2, r3, r4, r5, r6, r7) := by first | (rw [hy135]; with_reducible exact H) | (have H2_ := (Option.bind_some _ _).symm.trans H; rw [hy135]; with_reducible exact H2_) | (have H2_ := (Option.bind_some _ _).symm.trans H; with_reducible exact H2_) | with_reducible exact H | (rw [hy135]; exact H) | exact H
                          have Ny135 := Aside0.mk hy135
                          clear hy135
                          replace H := Option.bind_eq_some_iff.mp H
                          obtain ⟨⟨t138, t139⟩, A970, H⟩ := H
                          replace H : (if 0 ≤ t138 then (if t138 < (y135.length : Int) then ((spec_l10Max.f kj64 x7_18).bind fun t141 => (if (rd y135 t138) > (wrap64 (t141 / 2)) then ((some (([1, 5, 100] : List Int) : List Int)).bind fun y142 => ((spec_l10Rd_pick.f kj64 t103 t139 3).bind fun bt145 => (if 0 ≤ bt145.1 then (if bt145.1 < (y142.length : Int) then (if x7_18 ≥ 7 then (spec_DrawMillBinary.j5 kj64 (wrap64 (1 + t106)) t103 bt145.2 t112 (wrap64 (-(rd y142 bt145.1))) t114 t121 8 t123) else (spec_DrawMillBinary.j5 kj64 (wrap64 (1 + t106)) t103 bt145.2 t112 (rd y142 bt145.1) t114 t121 8 t123)) else (none)) else (none)))) else ((some (([1, 5, 100] : List Int) : List Int)).bind fun y148 => ((spec_l10Rd_pick.f kj64 t103 t139 3).bind fun bt151 => (if 0 ≤ bt151.1 then (if bt151.1 < (y148.length : Int) then (if x7_18 ≥ 7 then (spec_DrawMillBinary.j5 kj64 (wrap64 (1 + t106)) t103 bt151.2 t112 (wrap64 (-(rd y148 bt151.1))) t114 t121 (rd y135 t138) t123) else (spec_DrawMillBinary.j5 kj64 (wrap64 (1 + t106)) t103 bt151.2 t112 (rd y148 bt151.1) t114 t121 (rd y135 t138) t123)) else (none)) else (none)))))) else (none)) else (none)) = some (r1, r2, r3, r4, r5, r6, r7) := H
                          have A97 := Aside0.mk A970
                          clear A970
                          by_cases c98 : 0 ≤ t138
                          · rw [if_pos c98] at H
                            have c98b0 : decide (0 ≤ t138) = true := decide_eq_true c98
                            clear c98
                            (first | rw [c98b0] | (simp only [i64_w, i32_w]; rw [c98b0]) | skip)
                            by_cases c99 : t138 < (y135.length : Int)
                            · rw [if_pos c99] at H
                              have c99b0 : decide (t138 < (y135.length : Int)) = true := decide_eq_true c99
                              clear c99
                              replace H := Option.bind_eq_some_iff.mp H
                              obtain ⟨t141, A1000, H⟩ := H
                              replace H : (if (rd y135 t138) > (wrap64 (t141 / 2)) then ((some (([1, 5, 100] : List Int) : List Int)).bind fun y142 => ((spec_l10Rd_pick.f kj64 t103 t139 3).bind fun bt145 => (if 0 ≤ bt145.1 then (if bt145.1 < (y142.length : Int) then (if x7_18 ≥ 7 then (spec_DrawMillBinary.j5 kj64 (wrap64 (1 + t106)) t103 bt145.2 t112 (wrap64 (-(rd y142 bt145.1))) t114 t121 8 t123) else (spec_DrawMillBinary.j5 kj64 (wrap64 (1 + t106)) t103 bt145.2 t112 (rd y142 bt145.1) t114 t121 8 t123)) else (none)) else (none)))) else ((some (([1, 5, 100] : List Int) : List Int)).bind fun y148 => ((spec_l10Rd_pick.f kj64 t103 t139 3).bind fun bt151 => (if 0 ≤ bt151.1 then (if bt151.1 < (y148.length : Int) then (if x7_18 ≥ 7 then (spec_DrawMillBinary.j5 kj64 (wrap64 (1 + t106)) t103 bt151.2 t112 (wrap64 (-(rd y148 bt151.1))) t114 t121 (rd y135 t138) t123) else (spec_DrawMillBinary.j5 kj64 (wrap64 (1 + t106)) t103 bt151.2 t112 (rd y148 bt151.1) t114 t121 (rd y135 t138) t123)) else (none)) else (none))))) = some (r1, r2, r3, r4, r5, r6, r7) := H
                              have A100 := Aside0.mk A1000
                              clear A1000
                              by_cases c101 : (rd y135 t138) > (wrap64 (t141 / 2))
                              · rw [if_pos c101] at H
                                have c101b0 : decide ((wrap64 (t141 / 2)) < (rd y135 t138)) = true := decide_eq_true c101
                                clear c101
                                obtain ⟨y142, hy142⟩ : ∃ y_ : List Int, y_ = (([1, 5, 100] : List Int)) := ⟨_, rfl⟩
                                replace H : ((spec_l10Rd_pick.f kj64 t103 t139 3).bind fun bt145 => (if 0 ≤ bt145.1 then (if bt145.1 < (y142.length : Int) then (if x7_18 ≥ 7 then (spec_DrawMillBinary.j5 kj64 (wrap64 (1 + t106)) t103 bt145.2 t112 (wrap64 (-(rd y142 bt145.1))) t114 t121 8 t123) else (spec_DrawMillBinary.j5 kj64 (wrap64 (1 + t106)) t103 bt145.2 t112 (rd y142 bt145.1) t114 t121 8 t123)) else (none)) else (none))) = some (r1, r2, r3, r4, r5, r6, r7) := by first | (rw [hy142]; with_reducible exact H) | (have H2_ := (Option.bind_some _ _).symm.trans H; rw [hy142]; with_reducible exact H2_) | (have H2_ := (Option.bind_some _ _).symm.trans H; with_reducible exact H2_) | with_reducible exact H | (rw [hy142]; exact H) | exact H
                                have Ny142 := Aside0.mk hy142
                                clear hy142
                                replace H := Option.bind_eq_some_iff.mp H
                                obtain ⟨⟨t145, t146⟩, A1020, H⟩ := H
                                replace H : (if 0 ≤ t145 then (if t145 < (y142.length : Int) then (if x7_18 ≥ 7 then (spec_DrawMillBinary.j5 kj64 (wrap64 (1 + t106)) t103 t146 t112 (wrap64 (-(rd y142 t145))) t114 t121 8 t123) else (spec_DrawMillBinary.j5 kj64 (wrap64 (1 + t106)) t103 t146 t112 (rd y142 t145) t114 t121 8 t123)) else (none)) else (none)) = some (r1, r2, r3, r4, r5, r6, r7) := H
                                have A102 := Aside0.mk A1020
                                clear A1020
                                by_cases c103 : 0 ≤ t145
                                · rw [if_pos c103] at H
                                  have c103b0 : decide (0 ≤ t145) = true := decide_eq_true c103
                                  clear c103
                                  by_cases c104 : t145 < (y142.length : Int)
                                  · rw [if_pos c104] at H
                                    have c104b0 : decide (t145 < (y142.length : Int)) = true := decide_eq_true c104
                                    clear c104
                                    by_cases c105 : x7_18 ≥ 7
                                    · rw [if_pos c105] at H
                                      have c105b0 : decide (7 ≤ x7_18) = true := decide_eq_true c105
                                      clear c105
                                      have H' := Aside0.mk H
                                      clear H
                                      try go_wp2_with (first | ((with_reducible refine gate_dst (N := 79) rfl ?_); refine Kd.R_lit (Kd.int .i64) _ 2 ?hg (N := 79) ?hd (xs := ([8, 16, 32, 64, 7, 15, 31, 63] : List Int)) (inner := [.int .i64 8, .int .i64 16, .int .i64 32, .int .i64 64, .int .i64 7, .int .i64 15, .int .i64 31, .int .i64 63]) (ok := fun _ => True) (okp := fun _ => True) ?hr ?hp (fun _ hk => hk) trivial (Below.refl _ _) (Nat.le_refl _) (by simp) ?_; (case hd => rfl); (case hg => rfl); (case hr => first | (go_simp; done) | (go_simp; rfl)); (case hp => exact (Reps.one (show Kd.M (Kd.int .i64) _ _ _ 8 [.int .i64 8] from rfl) (Reps.one (show Kd.M (Kd.int .i64) _ _ _ 16 [.int .i64 16] from rfl) (Reps.one (show Kd.M (Kd.int .i64) _ _ _ 32 [.int .i64 32] from rfl) (Reps.one (show Kd.M (Kd.int .i64) _ _ _ 64 [.int .i64 64] from rfl) (Reps.one (show Kd.M (Kd.int .i64) _ _ _ 7 [.int .i64 7] from rfl) (Reps.one (show Kd.M (Kd.int .i64) _ _ _ 15 [.int .i64 15] from rfl) (Reps.one (show Kd.M (Kd.int .i64) _ _ _ 31 [.int .i64 31] from rfl) (Reps.one (show Kd.M (Kd.int .i64) _ _ _ 63 [.int .i64 63] from rfl) (Reps.none _ _)))))))))); intro v136 w106 ho107 hb hg_ hnew_; clear hg_ hnew_; (first | rw [← Ny135.out] at ho107 | (simp only [Int.reduceToNat] at ho107; rw [← Ny135.out] at ho107)); have n0_ := Aside0.mk (Kd.R_lower ho107 (below_size (by repeat (first | (with_reducible first | exact HB.out | apply below_alloc | apply pw_below_drewN | apply below_drew1 | refine below_set ?_ (IsS137.ge HI105.out) | refine below_set ?_ GE101.out | refine below_set ?_ GE102.out | refine below_set ?_ GE116.out | refine below_set ?_ GE125.out) | exact HB.out)))); have n1_ := kB BK101 hb; have n2_ := kB BK102 hb; have n3_ := kB BK116 hb; have n4_ := kB BK125 hb; have n5_ := Aside0.mk (IsS137.below (by repeat (first | (with_reducible first | exact HI105.out | apply IsS137.alloc | apply IsS137.drewN | apply IsS137.drew | apply IsS137.set_1 | refine IsS137.far ?_ NB105_101.out _ | refine IsS137.far ?_ NB105_102.out _ | refine IsS137.far ?_ NB105_116.out _ | refine IsS137.far ?_ NB105_125.out _) | exact HI105.out)) hb); have n6_ := Aside0.mk (below_step (by repeat (first | (with_reducible first | exact HB.out | apply below_alloc | apply pw_below_drewN | apply below_drew1 | refine below_set ?_ (IsS137.ge HI105.out) | refine below_set ?_ GE101.out | refine below_set ?_ GE102.out | refine below_set ?_ GE116.out | refine below_set ?_ GE125.out) | exact HB.out)) hb); clear BK101; clear BK102; clear BK116; clear BK125; clear HI105; clear HB; have HO137 := n0_; have BK101 := n1_; have BK102 := n2_; have BK116 := n3_; have BK125 := n4_; have HI105 := n5_; have HB := n6_; clear n0_ n1_ n2_ n3_ n4_ n5_ n6_; clear hb ho107) | ((with_reducible refine gate_callee (f := 83) rfl ?_); refine goesL_ (some 81) rfl rfl Try.func83 (by kernel_rfl) rfl #[.pointer (some ⟨g105, 0, none⟩), .int .i64 8] rfl (by (try simp only [List.map_toArray, List.map_cons, List.map_nil]); first | done | rfl | (simp only [List.length_drop, List.length_take]; rfl)) ?_; (with_reducible refine (spec_l10Rd_pick.calls kj64 g105 t103 x106001_64 8 t138 t139 w _ ?side1 ?side2 A97.out).mono ?_); (case side1 => repeat (first | (with_reducible first | exact HI105.out | apply IsS137.alloc | apply IsS137.drewN | apply IsS137.drew | apply IsS137.set_1 | refine IsS137.far ?_ NB105_101.out _ | refine IsS137.far ?_ NB105_102.out _ | refine IsS137.far ?_ NB105_116.out _ | refine IsS137.far ?_ NB105_125.out _) | exact HI105.out)); (case side2 => repeat (first | (with_reducible first | exact HB.out | apply below_alloc | apply pw_below_drewN | apply below_drew1 | refine below_set ?_ (IsS137.ge HI105.out) | refine below_set ?_ GE101.out | refine below_set ?_ GE102.out | refine below_set ?_ GE116.out | refine below_set ?_ GE125.out) | exact HB.out)); rintro e w108 ⟨rfl, hi, hb, hk⟩; refine ⟨_, rfl, ?_⟩; replace BK101 := Aside0.mk (KeepBut.blk hk (g' := gb101) (o := .cells #[.int .i64 0, .int .i64 0, .string (⟨#[]⟩ : ByteArray)] 36 (0, 0)) (kp BK101) NB101_105.out (by simp)); replace BK102 := Aside0.mk (KeepBut.blk hk (g' := gb102) (o := .cells #[.int .i64 0, .int .i64 0, .string (⟨#[]⟩ : ByteArray)] 36 (0, 0)) (kp BK102) NB102_105.out (by simp)); replace BK116 := Aside0.mk (KeepBut.blk hk (g' := gb116) (o := .cells #[.int .i64 t112, .int .i64 t113, .string t114] 36 (0, 0)) (kp BK116) NB116_105.out (by simp)); replace BK125 := Aside0.mk (KeepBut.blk hk (g' := gb125) (o := .cells #[.int .i64 t121, .int .i64 x126001_53, .string t123] 36 (0, 0)) (kp BK125) NB125_105.out (by simp)); replace HO137 := Aside0.mk (Kd.R_mono (Kd.R_keep (IsS137.apart (show IsS137 w _ g105 t103 x106001_64 from by repeat (first | (with_reducible first | exact HI105.out | apply IsS137.alloc | apply IsS137.drewN | apply IsS137.drew | apply IsS137.set_1 | refine IsS137.far ?_ NB105_101.out _ | refine IsS137.far ?_ NB105_102.out _ | refine IsS137.far ?_ NB105_116.out _ | refine IsS137.far ?_ NB105_125.out _) | exact HI105.out)) (by (with_reducible repeat (first | apply Kd.R_alloc | apply Kd.R_drewN | apply Kd.R_drew)); exact HO137.out) (by decide)) hk (fun _ h => h.2)) (fun _ h => h.1)); replace HB := Aside0.mk (hb); replace HI105 := Aside0.mk (hi); obtain ⟨Ao109, co109, eo109⟩ := Kd.R_slice HO137.out; subst eo109; have p140 : 0 ≤ (t138 : Int) := of_decide_eq_true (by first | (with_reducible assumption) | assumption); have q140 : t138 < (y135.length : Int) := of_decide_eq_true (by first | (with_reducible assumption) | assumption); obtain ⟨ad140, e140, hx140_0⟩ := Kd.at_int (Kd.R_reads' HO137.out).2.2 t138 p140 q140; cases e140; replace p140 := eq_true p140; replace q140 := eq_true q140; have hnb110 := NB125_101.out; have hnc110 := NB101_125.out; have hnb111 := NB125_102.out; have hnc111 := NB102_125.out; have hnb112 := NB125_116.out; have hnc112 := NB116_125.out; have hnb113 := NB125_105.out; have hnc113 := NB105_125.out; obtain ⟨⟨hcz114_0, hcz114_1, hcz114_2⟩, hfz114_0, hfz114_1, hfz114_2⟩ := bf3 BK125))
                                      have n0_ : Aside0 (Kd.R (Kd.int .i64) 2 (w108.setCell ⟨gb125, 1, none⟩ (.int .i64 (rd y135 t138))) w.heap.size (fun _ => True) (.slice (some ad140) y135.length co109) y135) := ⟨by (with_reducible repeat (first | apply Kd.R_alloc | apply Kd.R_drewN | apply Kd.R_drew)); exact Kd.R_mono (Kd.R_far (p := ⟨gb125, 1, none⟩) (Kd.R_types (by (with_reducible repeat (first | apply Kd.R_alloc | apply Kd.R_drewN | apply Kd.R_drew)); exact HO137.out) (kp BK125) (by decide)) (fun _ hk => hk.2) (.int .i64 (rd y135 t138))) (fun _ hk => trivial)⟩
                                      have n1_ : Aside0 ((w108.setCell ⟨gb125, 1, none⟩ (.int .i64 (rd y135 t138))).heap[gb101]? = some (.cells #[.int .i64 0, .int .i64 0, .string (⟨#[]⟩ : ByteArray)] 36 (0, 0))) := ⟨by (with_reducible repeat (first | refine blk_drewN ?_ _ | refine blk_drew ?_ | refine blk_alloc ?_ _)); refine blk_far ?_ NB101_125.out _; (with_reducible repeat (first | refine blk_drewN ?_ _ | refine blk_drew ?_ | refine blk_alloc ?_ _)); exact BK101.out⟩
                                      have n2_ : Aside0 ((w108.setCell ⟨gb125, 1, none⟩ (.int .i64 (rd y135 t138))).heap[gb102]? = some (.cells #[.int .i64 0, .int .i64 0, .string (⟨#[]⟩ : ByteArray)] 36 (0, 0))) := ⟨by (with_reducible repeat (first | refine blk_drewN ?_ _ | refine blk_drew ?_ | refine blk_alloc ?_ _)); refine blk_far ?_ NB102_125.out _; (with_reducible repeat (first | refine blk_drewN ?_ _ | refine blk_drew ?_ | refine blk_alloc ?_ _)); exact BK102.out⟩
                                      have n3_ : Aside0 ((w108.setCell ⟨gb125, 1, none⟩ (.int .i64 (rd y135 t138))).heap[gb116]? = some (.cells #[.int .i64 t112, .int .i64 t113, .string t114] 36 (0, 0))) := ⟨by (with_reducible repeat (first | refine blk_drewN ?_ _ | refine blk_drew ?_ | refine blk_alloc ?_ _)); refine blk_far ?_ NB116_125.out _; (with_reducible repeat (first | refine blk_drewN ?_ _ | refine blk_drew ?_ | refine blk_alloc ?_ _)); exact BK116.out⟩
                                      have n4_ : Aside0 ((w108.setCell ⟨gb125, 1, none⟩ (.int .i64 (rd y135 t138))).heap[gb125]? = some (.cells #[.int .i64 t121, .int .i64 (rd y135 t138), .string t123] 36 (0, 0))) := ⟨by (with_reducible repeat (first | refine blk_drewN ?_ _ | refine blk_drew ?_ | refine blk_alloc ?_ _)); refine blk_put (cs := #[.int .i64 t121, .int .i64 x126001_53, .string t123]) ?_ 1 _ rfl; (with_reducible repeat (first | refine blk_drewN ?_ _ | refine blk_drew ?_ | refine blk_alloc ?_ _)); exact BK125.out⟩
                                      have n5_ : Aside0 (IsS137 w (w108.setCell ⟨gb125, 1, none⟩ (.int .i64 (rd y135 t138))) g105 t103 t139) := ⟨by repeat (first | (with_reducible first | exact HI105.out | apply IsS137.alloc | apply IsS137.drewN | apply IsS137.drew | apply IsS137.set_1 | refine IsS137.far ?_ NB105_101.out _ | refine IsS137.far ?_ NB105_102.out _ | refine IsS137.far ?_ NB105_116.out _ | refine IsS137.far ?_ NB105_125.out _) | exact HI105.out)⟩
                                      have n6_ : Aside0 (Below w.heap.size w (w108.setCell ⟨gb125, 1, none⟩ (.int .i64 (rd y135 t138)))) := ⟨by repeat (first | (with_reducible first | exact HB.out | apply below_alloc | apply pw_below_drewN | apply below_drew1 | refine below_set ?_ (IsS137.ge HI105.out) | refine below_set ?_ GE101.out | refine below_set ?_ GE102.out | refine below_set ?_ GE116.out | refine below_set ?_ GE125.out) | exact HB.out)⟩
                                      (try clear HO137)
                                      (try clear BK101)
                                      (try clear BK102)
                                      (try clear BK116)
                                      (try clear BK125)
                                      (try clear HI105)
                                      (try clear HB)
                                      generalize (w108.setCell ⟨gb125, 1, none⟩ (.int .i64 (rd y135 t138))) = w115 at n0_ n1_ n2_ n3_ n4_ n5_ n6_ ⊢
                                      have HO137 := n0_
                                      have BK101 := n1_
                                      have BK102 := n2_
                                      have BK116 := n3_
                                      have BK125 := n4_
                                      have HI105 := n5_
                                      have HB := n6_
                                      clear n0_ n1_ n2_ n3_ n4_ n5_ n6_
                                      have n0_ := Aside0.mk (Kd.R_drew HO137.out)
                                      have n1_ := Aside0.mk (blk_drew BK101.out)
                                      have n2_ := Aside0.mk (blk_drew BK102.out)
                                      have n3_ := Aside0.mk (blk_drew BK116.out)
                                      have n4_ := Aside0.mk (blk_drew BK125.out)
                                      have n5_ := Aside0.mk (IsS137.drew HI105.out)
                                      have n6_ := Aside0.mk (below_drew1 HB.out)
                                      clear HO137
                                      clear BK101
                                      clear BK102
                                      clear BK116
                                      clear BK125
                                      clear HI105
                                      clear HB
                                      have HO137 := n0_
                                      have BK101 := n1_
                                      have BK102 := n2_
                                      have BK116 := n3_
                                      have BK125 := n4_
                                      have HI105 := n5_
                                      have HB := n6_
                                      clear n0_ n1_ n2_ n3_ n4_ n5_ n6_
                                      refine start_ (n := 7) (S := fun w' => w'.cell? ⟨gb125, 0, none⟩ = some (.int .i64 t121) ∧ w'.cell? ⟨gb125, 1, none⟩ = some (.int .i64 (rd y135 t138)) ∧ w'.cell? ⟨gb125, 2, none⟩ = some (.string t123)) (ds := []) #[false, false, false, false, false, false, false] (by kernel_rfl) rfl rfl ⟨(blk_cell BK125.out 0).trans rfl, (blk_cell BK125.out 1).trans rfl, (blk_cell BK125.out 2).trans rfl⟩ (fun hHeld => ?_)
                                      generalize w115.drew = w116 at HO137 BK101 BK102 BK116 BK125 HI105 HB hHeld ⊢
                                      refine pure_ (i := 0) (N := some 85) (v := ?_) (a' := ?_) #[true, false, false, false, false, false, false] rfl rfl (by kernel_rfl) (fun _ _ _ h => h) (Or.inl ⟨by rfl, ?_⟩) ?_ ?_
                                      rotate_left
                                      · intro w'
                                        go_simp
                                        with_reducible rfl
                                      rotate_left
                                      · simp only [Act.put, List.setIfInBounds_toArray, List.set_cons_zero, List.set_cons_succ, i64_w, i32_w]
                                        rfl
                                      refine pure_ (i := 2) (N := some 87) (v := ?_) (a' := ?_) #[true, false, true, false, false, false, false] rfl rfl (by kernel_rfl) (fun _ _ _ h => h) (Or.inl ⟨by rfl, ?_⟩) ?_ ?_
                                      rotate_left
                                      · intro w'
                                        go_simp
                                        with_reducible rfl
                                      rotate_left
                                      · simp only [Act.put, List.setIfInBounds_toArray, List.set_cons_zero, List.set_cons_succ, i64_w, i32_w]
                                        rfl
                                      refine take_ (i := 1) (N := some 86) (v := ?_) (a' := ?_) #[true, true, true, false, false, false, false] rfl rfl (by kernel_rfl) (fun _ _ _ h => h) (Or.inl ⟨by rfl, ?_⟩) hHeld ?_ ?_
                                      rotate_left
                                      · rintro w' ⟨s0, s1, s2⟩
                                        go_simp
                                        with_reducible rfl
                                      rotate_left
                                      · simp only [Act.put, List.setIfInBounds_toArray, List.set_cons_zero, List.set_cons_succ, i64_w, i32_w]
                                        rfl
                                      refine one_ (i := 3) (N := some 88) #[true, true, true, true, false, false, false] rfl rfl (by kernel_rfl) (by decide) (fun K hK => ?_)
                                      refine goes_ Try.func85 (by kernel_rfl) rfl #[.int .i64 x7_18] (by rfl) rfl rfl (by (try simp only [List.map_toArray, List.map_cons, List.map_nil]); first | done | rfl | (simp only [List.length_drop, List.length_take]; rfl)) ?_
                                      with_reducible refine (spec_l10Max.calls kj64 x7_18 t141 _ A100.out).mono ?_
                                      rintro e w' ⟨rfl, ⟨nd, rfl⟩⟩
                                      refine ⟨_, rfl, ?_⟩
                                      refine hK.out _ _ ⟨(blk_cell BK125.out 0).trans rfl, (blk_cell BK125.out 1).trans rfl, (blk_cell BK125.out 2).trans rfl⟩ (fun hHeld => ?_)
                                      clear hK K
                                      refine norm_ (a' := ?_) ?_ ?_
                                      rotate_left
                                      · show Act.put _ (some 88) _ = _
                                        simp only [Act.put, List.setIfInBounds_toArray, List.set_cons_zero, List.set_cons_succ, i64_w, i32_w]
                                        rfl
                                      refine pure_ (i := 4) (N := some 89) (v := ?_) (a' := ?_) #[true, true, true, true, true, false, false] rfl rfl (by kernel_rfl) (fun _ _ _ h => h) (Or.inl ⟨by rfl, ?_⟩) ?_ ?_
                                      rotate_left
                                      · intro w'
                                        go_simp
                                        with_reducible rfl
                                      rotate_left
                                      · simp only [Act.put, List.setIfInBounds_toArray, List.set_cons_zero, List.set_cons_succ, i64_w, i32_w]
                                        rfl
                                      refine pure_ (i := 5) (N := some 90) (v := ?_) (a' := ?_) #[true, true, true, true, true, true, false] rfl rfl (by kernel_rfl) (fun _ _ _ h => h) (Or.inl ⟨by rfl, ?_⟩) ?_ ?_
                                      rotate_left
                                      · intro w'
                                        go_simp
                                        with_reducible rfl
                                      rotate_left
                                      · simp only [Act.put, List.setIfInBounds_toArray, List.set_cons_zero, List.set_cons_succ, i64_w, i32_w]
                                        rfl
                                      refine pure_ (i := 6) (N := some 91) (v := ?_) (a' := ?_) #[true, true, true, true, true, true, true] rfl rfl (by kernel_rfl) (fun _ _ _ h => h) (Or.inl ⟨by rfl, ?_⟩) ?_ ?_
                                      rotate_left
                                      · intro w'
                                        go_simp
                                        with_reducible rfl
                                      rotate_left
                                      · simp only [Act.put, List.setIfInBounds_toArray, List.set_cons_zero, List.set_cons_succ, i64_w, i32_w]
                                        rfl
                                      refine done_ (by kernel_rfl) ?_
                                      obtain ⟨⟨hcz117_0, hcz117_1, hcz117_2⟩, hfz117_0, hfz117_1, hfz117_2⟩ := bf3 BK125
                                      try go_wp2_with (first | ((with_reducible refine gate_dst (N := 93) rfl ?_); refine Kd.R_lit (Kd.int .i64) _ 2 ?hg (N := 93) ?hd (xs := ([1, 5, 100] : List Int)) (inner := [.int .i64 1, .int .i64 5, .int .i64 100]) (ok := fun _ => True) (okp := fun _ => True) ?hr ?hp (fun _ hk => hk) trivial (Below.refl _ _) (Nat.le_refl _) (by simp) ?_; (case hd => rfl); (case hg => rfl); (case hr => first | (go_simp; done) | (go_simp; rfl)); (case hp => exact (Reps.one (show Kd.M (Kd.int .i64) _ _ _ 1 [.int .i64 1] from rfl) (Reps.one (show Kd.M (Kd.int .i64) _ _ _ 5 [.int .i64 5] from rfl) (Reps.one (show Kd.M (Kd.int .i64) _ _ _ 100 [.int .i64 100] from rfl) (Reps.none _ _))))); intro v143 w118 ho119 hb hg_ hnew_; clear hg_ hnew_; (first | rw [← Ny142.out] at ho119 | (simp only [Int.reduceToNat] at ho119; rw [← Ny142.out] at ho119)); have n0_ := Aside0.mk (Kd.R_elder' (by (with_reducible repeat (first | apply Kd.R_alloc | apply Kd.R_drewN | apply Kd.R_drew)); exact (Kd.R_mono (Kd.R_far (p := ⟨gb125, 1, none⟩) (Kd.R_types (by (with_reducible repeat (first | apply Kd.R_alloc | apply Kd.R_drewN | apply Kd.R_drew)); exact HO137.out) (kp BK125) (by decide)) (fun _ hk => hk.2) (.int .i64 8)) (fun _ h_ => h_.1))) (Kd.R_base ho119) hb); have n1_ := Aside0.mk (Kd.R_lower (Kd.R_new' ho119 (Kd.R_lt (by (with_reducible repeat (first | apply Kd.R_alloc | apply Kd.R_drewN | apply Kd.R_drew)); exact (Kd.R_mono (Kd.R_far (p := ⟨gb125, 1, none⟩) (Kd.R_types (by (with_reducible repeat (first | apply Kd.R_alloc | apply Kd.R_drewN | apply Kd.R_drew)); exact HO137.out) (kp BK125) (by decide)) (fun _ hk => hk.2) (.int .i64 8)) (fun _ h_ => h_.1))))) (below_size (by repeat (first | (with_reducible first | exact HB.out | apply below_alloc | apply pw_below_drewN | apply below_drew1 | refine below_set ?_ (IsS137.ge HI105.out) | refine below_set ?_ GE101.out | refine below_set ?_ GE102.out | refine below_set ?_ GE116.out | refine below_set ?_ GE125.out) | exact HB.out)))); have n2_ := Aside0.mk (blk_below (g := gb101) (o := .cells #[.int .i64 0, .int .i64 0, .string (⟨#[]⟩ : ByteArray)] 36 (0, 0)) (by (with_reducible repeat (first | refine blk_drewN ?_ _ | refine blk_drew ?_ | refine blk_alloc ?_ _)); refine blk_far ?_ NB101_125.out _; (with_reducible repeat (first | refine blk_drewN ?_ _ | refine blk_drew ?_ | refine blk_alloc ?_ _)); exact BK101.out) hb); have n3_ := Aside0.mk (blk_below (g := gb102) (o := .cells #[.int .i64 0, .int .i64 0, .string (⟨#[]⟩ : ByteArray)] 36 (0, 0)) (by (with_reducible repeat (first | refine blk_drewN ?_ _ | refine blk_drew ?_ | refine blk_alloc ?_ _)); refine blk_far ?_ NB102_125.out _; (with_reducible repeat (first | refine blk_drewN ?_ _ | refine blk_drew ?_ | refine blk_alloc ?_ _)); exact BK102.out) hb); have n4_ := Aside0.mk (blk_below (g := gb116) (o := .cells #[.int .i64 t112, .int .i64 t113, .string t114] 36 (0, 0)) (by (with_reducible repeat (first | refine blk_drewN ?_ _ | refine blk_drew ?_ | refine blk_alloc ?_ _)); refine blk_far ?_ NB116_125.out _; (with_reducible repeat (first | refine blk_drewN ?_ _ | refine blk_drew ?_ | refine blk_alloc ?_ _)); exact BK116.out) hb); have n5_ := Aside0.mk (blk_below (g := gb125) (o := .cells #[.int .i64 t121, .int .i64 8, .string t123] 36 (0, 0)) (by (with_reducible repeat (first | refine blk_drewN ?_ _ | refine blk_drew ?_ | refine blk_alloc ?_ _)); refine blk_put (cs := #[.int .i64 t121, .int .i64 (rd y135 t138), .string t123]) ?_ 1 _ rfl; (with_reducible repeat (first | refine blk_drewN ?_ _ | refine blk_drew ?_ | refine blk_alloc ?_ _)); exact BK125.out) hb); have n6_ := Aside0.mk (IsS137.below (show IsS137 w _ g105 t103 t139 from by repeat (first | (with_reducible first | exact HI105.out | apply IsS137.alloc | apply IsS137.drewN | apply IsS137.drew | apply IsS137.set_1 | refine IsS137.far ?_ NB105_101.out _ | refine IsS137.far ?_ NB105_102.out _ | refine IsS137.far ?_ NB105_116.out _ | refine IsS137.far ?_ NB105_125.out _) | exact HI105.out)) hb); have n7_ := Aside0.mk (below_step (by repeat (first | (with_reducible first | exact HB.out | apply below_alloc | apply pw_below_drewN | apply below_drew1 | refine below_set ?_ (IsS137.ge HI105.out) | refine below_set ?_ GE101.out | refine below_set ?_ GE102.out | refine below_set ?_ GE116.out | refine below_set ?_ GE125.out) | exact HB.out)) hb); clear HO137; clear BK101; clear BK102; clear BK116; clear BK125; clear HI105; clear HB; have HO137 := n0_; have HO144 := n1_; have BK101 := n2_; have BK102 := n3_; have BK116 := n4_; have BK125 := n5_; have HI105 := n6_; have HB := n7_; clear n0_ n1_ n2_ n3_ n4_ n5_ n6_ n7_; clear hb ho119) | ((with_reducible refine gate_callee (f := 83) rfl ?_); refine goesL_ (some 95) rfl rfl Try.func83 (by kernel_rfl) rfl #[.pointer (some ⟨g105, 0, none⟩), .int .i64 3] rfl (by (try simp only [List.map_toArray, List.map_cons, List.map_nil]); first | done | rfl | (simp only [List.length_drop, List.length_take]; rfl)) ?_; (with_reducible refine (spec_l10Rd_pick.calls kj64 g105 t103 t139 3 t145 t146 w _ ?side1 ?side2 A102.out).mono ?_); (case side1 => repeat (first | (with_reducible first | exact HI105.out | apply IsS137.alloc | apply IsS137.drewN | apply IsS137.drew | apply IsS137.set_1 | refine IsS137.far ?_ NB105_101.out _ | refine IsS137.far ?_ NB105_102.out _ | refine IsS137.far ?_ NB105_116.out _ | refine IsS137.far ?_ NB105_125.out _) | exact HI105.out)); (case side2 => repeat (first | (with_reducible first | exact HB.out | apply below_alloc | apply pw_below_drewN | apply below_drew1 | refine below_set ?_ (IsS137.ge HI105.out) | refine below_set ?_ GE101.out | refine below_set ?_ GE102.out | refine below_set ?_ GE116.out | refine below_set ?_ GE125.out) | exact HB.out)); rintro e w120 ⟨rfl, hi, hb, hk⟩; refine ⟨_, rfl, ?_⟩; replace BK101 := Aside0.mk (KeepBut.blk hk (g' := gb101) (o := .cells #[.int .i64 0, .int .i64 0, .string (⟨#[]⟩ : ByteArray)] 36 (0, 0)) (kp BK101) NB101_105.out (by simp)); replace BK102 := Aside0.mk (KeepBut.blk hk (g' := gb102) (o := .cells #[.int .i64 0, .int .i64 0, .string (⟨#[]⟩ : ByteArray)] 36 (0, 0)) (kp BK102) NB102_105.out (by simp)); replace BK116 := Aside0.mk (KeepBut.blk hk (g' := gb116) (o := .cells #[.int .i64 t112, .int .i64 t113, .string t114] 36 (0, 0)) (kp BK116) NB116_105.out (by simp)); replace BK125 := Aside0.mk (KeepBut.blk hk (g' := gb125) (o := .cells #[.int .i64 t121, .int .i64 8, .string t123] 36 (0, 0)) (kp BK125) NB125_105.out (by simp)); replace HO137 := Aside0.mk (Kd.R_mono (Kd.R_keep (IsS137.apart (show IsS137 w _ g105 t103 t139 from by repeat (first | (with_reducible first | exact HI105.out | apply IsS137.alloc | apply IsS137.drewN | apply IsS137.drew | apply IsS137.set_1 | refine IsS137.far ?_ NB105_101.out _ | refine IsS137.far ?_ NB105_102.out _ | refine IsS137.far ?_ NB105_116.out _ | refine IsS137.far ?_ NB105_125.out _) | exact HI105.out)) (by (with_reducible repeat (first | apply Kd.R_alloc | apply Kd.R_drewN | apply Kd.R_drew)); exact HO137.out) (by decide)) hk (fun _ h => h.2)) (fun _ h => h.1)); replace HO144 := Aside0.mk (Kd.R_mono (Kd.R_keep (IsS137.apart (show IsS137 w _ g105 t103 t139 from by repeat (first | (with_reducible first | exact HI105.out | apply IsS137.alloc | apply IsS137.drewN | apply IsS137.drew | apply IsS137.set_1 | refine IsS137.far ?_ NB105_101.out _ | refine IsS137.far ?_ NB105_102.out _ | refine IsS137.far ?_ NB105_116.out _ | refine IsS137.far ?_ NB105_125.out _) | exact HI105.out)) (by (with_reducible repeat (first | apply Kd.R_alloc | apply Kd.R_drewN | apply Kd.R_drew)); exact HO144.out) (by decide)) hk (fun _ h => h.2)) (fun _ h => h.1)); replace HB := Aside0.mk (hb); replace HI105 := Aside0.mk (hi); obtain ⟨Ao121, co121, eo121⟩ := Kd.R_slice HO144.out; subst eo121; have p147 : 0 ≤ (t145 : Int) := of_decide_eq_true (by first | (with_reducible assumption) | assumption); have q147 : t145 < (y142.length : Int) := of_decide_eq_true (by first | (with_reducible assumption) | assumption); obtain ⟨ad147, e147, hx147_0⟩ := Kd.at_int (Kd.R_reads' HO144.out).2.2 t145 p147 q147; cases e147; replace p147 := eq_true p147; replace q147 := eq_true q147; have hnb122 := NB116_101.out; have hnc122 := NB101_116.out; have hnb123 := NB116_102.out; have hnc123 := NB102_116.out; have hnb124 := NB116_105.out; have hnc124 := NB105_116.out; obtain ⟨⟨hcz125_0, hcz125_1, hcz125_2⟩, hfz125_0, hfz125_1, hfz125_2⟩ := bf3 BK116))
                                      go_meet
                                      case rel => exact ⟨_, (t146), (wrap64 (-(rd y142 t145))), (8), H', ⟨by have := HJ4.out; have := HJ18.out; have := HJ30.out; have := HJ53.out; have := HJ64.out; first | omega | exact Nat.le_refl _⟩, ⟨by (with_reducible repeat (first | refine blk_drewN ?_ _ | refine blk_drew ?_ | refine blk_alloc ?_ _)); refine blk_far ?_ NB101_116.out _; (with_reducible repeat (first | refine blk_drewN ?_ _ | refine blk_drew ?_ | refine blk_alloc ?_ _)); refine blk_far ?_ NB101_116.out _; (with_reducible repeat (first | refine blk_drewN ?_ _ | refine blk_drew ?_ | refine blk_alloc ?_ _)); exact BK101.out⟩, ⟨by (with_reducible repeat (first | refine blk_drewN ?_ _ | refine blk_drew ?_ | refine blk_alloc ?_ _)); refine blk_far ?_ NB102_116.out _; (with_reducible repeat (first | refine blk_drewN ?_ _ | refine blk_drew ?_ | refine blk_alloc ?_ _)); refine blk_far ?_ NB102_116.out _; (with_reducible repeat (first | refine blk_drewN ?_ _ | refine blk_drew ?_ | refine blk_alloc ?_ _)); exact BK102.out⟩, ⟨by (with_reducible repeat (first | refine blk_drewN ?_ _ | refine blk_drew ?_ | refine blk_alloc ?_ _)); refine blk_put (cs := #[.int .i64 t112, .int .i64 (rd y142 t145), .string t114]) ?_ 1 _ rfl; (with_reducible repeat (first | refine blk_drewN ?_ _ | refine blk_drew ?_ | refine blk_alloc ?_ _)); refine blk_put (cs := #[.int .i64 t112, .int .i64 t113, .string t114]) ?_ 1 _ rfl; (with_reducible repeat (first | refine blk_drewN ?_ _ | refine blk_drew ?_ | refine blk_alloc ?_ _)); exact BK116.out⟩, ⟨by (with_reducible repeat (first | refine blk_drewN ?_ _ | refine blk_drew ?_ | refine blk_alloc ?_ _)); refine blk_far ?_ NB125_116.out _; (with_reducible repeat (first | refine blk_drewN ?_ _ | refine blk_drew ?_ | refine blk_alloc ?_ _)); refine blk_far ?_ NB125_116.out _; (with_reducible repeat (first | refine blk_drewN ?_ _ | refine blk_drew ?_ | refine blk_alloc ?_ _)); exact BK125.out⟩, ⟨by repeat (first | (with_reducible first | exact HI105.out | apply IsS137.alloc | apply IsS137.drewN | apply IsS137.drew | apply IsS137.set_1 | refine IsS137.far ?_ NB105_101.out _ | refine IsS137.far ?_ NB105_102.out _ | refine IsS137.far ?_ NB105_116.out _ | refine IsS137.far ?_ NB105_125.out _) | exact HI105.out)⟩, ⟨by repeat (first | (with_reducible first | exact HB.out | apply below_alloc | apply pw_below_drewN | apply below_drew1 | refine below_set ?_ (IsS137.ge HI105.out) | refine below_set ?_ GE101.out | refine below_set ?_ GE102.out | refine below_set ?_ GE116.out | refine below_set ?_ GE125.out) | exact HB.out)⟩⟩
                                    · rw [if_neg c105] at H
                                      have c105b0 : decide (7 ≤ x7_18) = false := decide_eq_false c105
                                      clear c105
                                      have H' := Aside0.mk H
                                      clear H
                                      try go_wp2_with (first | ((with_reducible refine gate_dst (N := 79) rfl ?_); refine Kd.R_lit (Kd.int .i64) _ 2 ?hg (N := 79) ?hd (xs := ([8, 16, 32, 64, 7, 15, 31, 63] : List Int)) (inner := [.int .i64 8, .int .i64 16, .int .i64 32, .int .i64 64, .int .i64 7, .int .i64 15, .int .i64 31, .int .i64 63]) (ok := fun _ => True) (okp := fun _ => True) ?hr ?hp (fun _ hk => hk) trivial (Below.refl _ _) (Nat.le_refl _) (by simp) ?_; (case hd => rfl); (case hg => rfl); (case hr => first | (go_simp; done) | (go_simp; rfl)); (case hp => exact (Reps.one (show Kd.M (Kd.int .i64) _ _ _ 8 [.int .i64 8] from rfl) (Reps.one (show Kd.M (Kd.int .i64) _ _ _ 16 [.int .i64 16] from rfl) (Reps.one (show Kd.M (Kd.int .i64) _ _ _ 32 [.int .i64 32] from rfl) (Reps.one (show Kd.M (Kd.int .i64) _ _ _ 64 [.int .i64 64] from rfl) (Reps.one (show Kd.M (Kd.int .i64) _ _ _ 7 [.int .i64 7] from rfl) (Reps.one (show Kd.M (Kd.int .i64) _ _ _ 15 [.int .i64 15] from rfl) (Reps.one (show Kd.M (Kd.int .i64) _ _ _ 31 [.int .i64 31] from rfl) (Reps.one (show Kd.M (Kd.int .i64) _ _ _ 63 [.int .i64 63] from rfl) (Reps.none _ _)))))))))); intro v136 w126 ho127 hb hg_ hnew_; clear hg_ hnew_; (first | rw [← Ny135.out] at ho127 | (simp only [Int.reduceToNat] at ho127; rw [← Ny135.out] at ho127)); have n0_ := Aside0.mk (Kd.R_lower ho127 (below_size (by repeat (first | (with_reducible first | exact HB.out | apply below_alloc | apply pw_below_drewN | apply below_drew1 | refine below_set ?_ (IsS137.ge HI105.out) | refine below_set ?_ GE101.out | refine below_set ?_ GE102.out | refine below_set ?_ GE116.out | refine below_set ?_ GE125.out) | exact HB.out)))); have n1_ := kB BK101 hb; have n2_ := kB BK102 hb; have n3_ := kB BK116 hb; have n4_ := kB BK125 hb; have n5_ := Aside0.mk (IsS137.below (by repeat (first | (with_reducible first | exact HI105.out | apply IsS137.alloc | apply IsS137.drewN | apply IsS137.drew | apply IsS137.set_1 | refine IsS137.far ?_ NB105_101.out _ | refine IsS137.far ?_ NB105_102.out _ | refine IsS137.far ?_ NB105_116.out _ | refine IsS137.far ?_ NB105_125.out _) | exact HI105.out)) hb); have n6_ := Aside0.mk (below_step (by repeat (first | (with_reducible first | exact HB.out | apply below_alloc | apply pw_below_drewN | apply below_drew1 | refine below_set ?_ (IsS137.ge HI105.out) | refine below_set ?_ GE101.out | refine below_set ?_ GE102.out | refine below_set ?_ GE116.out | refine below_set ?_ GE125.out) | exact HB.out)) hb); clear BK101; clear BK102; clear BK116; clear BK125; clear HI105; clear HB; have HO137 := n0_; have BK101 := n1_; have BK102 := n2_; have BK116 := n3_; have BK125 := n4_; have HI105 := n5_; have HB := n6_; clear n0_ n1_ n2_ n3_ n4_ n5_ n6_; clear hb ho127) | ((with_reducible refine gate_callee (f := 83) rfl ?_); refine goesL_ (some 81) rfl rfl Try.func83 (by kernel_rfl) rfl #[.pointer (some ⟨g105, 0, none⟩), .int .i64 8] rfl (by (try simp only [List.map_toArray, List.map_cons, List.map_nil]); first | done | rfl | (simp only [List.length_drop, List.length_take]; rfl)) ?_; (with_reducible refine (spec_l10Rd_pick.calls kj64 g105 t103 x106001_64 8 t138 t139 w _ ?side1 ?side2 A97.out).mono ?_); (case side1 => repeat (first | (with_reducible first | exact HI105.out | apply IsS137.alloc | apply IsS137.drewN | apply IsS137.drew | apply IsS137.set_1 | refine IsS137.far ?_ NB105_101.out _ | refine IsS137.far ?_ NB105_102.out _ | refine IsS137.far ?_ NB105_116.out _ | refine IsS137.far ?_ NB105_125.out _) | exact HI105.out)); (case side2 => repeat (first | (with_reducible first | exact HB.out | apply below_alloc | apply pw_below_drewN | apply below_drew1 | refine below_set ?_ (IsS137.ge HI105.out) | refine below_set ?_ GE101.out | refine below_set ?_ GE102.out | refine below_set ?_ GE116.out | refine below_set ?_ GE125.out) | exact HB.out)); rintro e w128 ⟨rfl, hi, hb, hk⟩; refine ⟨_, rfl, ?_⟩; replace BK101 := Aside0.mk (KeepBut.blk hk (g' := gb101) (o := .cells #[.int .i64 0, .int .i64 0, .string (⟨#[]⟩ : ByteArray)] 36 (0, 0)) (kp BK101) NB101_105.out (by simp)); replace BK102 := Aside0.mk (KeepBut.blk hk (g' := gb102) (o := .cells #[.int .i64 0, .int .i64 0, .string (⟨#[]⟩ : ByteArray)] 36 (0, 0)) (kp BK102) NB102_105.out (by simp)); replace BK116 := Aside0.mk (KeepBut.blk hk (g' := gb116) (o := .cells #[.int .i64 t112, .int .i64 t113, .string t114] 36 (0, 0)) (kp BK116) NB116_105.out (by simp)); replace BK125 := Aside0.mk (KeepBut.blk hk (g' := gb125) (o := .cells #[.int .i64 t121, .int .i64 x126001_53, .string t123] 36 (0, 0)) (kp BK125) NB125_105.out (by simp)); replace HO137 := Aside0.mk (Kd.R_mono (Kd.R_keep (IsS137.apart (show IsS137 w _ g105 t103 x106001_64 from by repeat (first | (with_reducible first | exact HI105.out | apply IsS137.alloc | apply IsS137.drewN | apply IsS137.drew | apply IsS137.set_1 | refine IsS137.far ?_ NB105_101.out _ | refine IsS137.far ?_ NB105_102.out _ | refine IsS137.far ?_ NB105_116.out _ | refine IsS137.far ?_ NB105_125.out _) | exact HI105.out)) (by (with_reducible repeat (first | apply Kd.R_alloc | apply Kd.R_drewN | apply Kd.R_drew)); exact HO137.out) (by decide)) hk (fun _ h => h.2)) (fun _ h => h.1)); replace HB := Aside0.mk (hb); replace HI105 := Aside0.mk (hi); obtain ⟨Ao129, co129, eo129⟩ := Kd.R_slice HO137.out; subst eo129; have p140 : 0 ≤ (t138 : Int) := of_decide_eq_true (by first | (with_reducible assumption) | assumption); have q140 : t138 < (y135.length : Int) := of_decide_eq_true (by first | (with_reducible assumption) | assumption); obtain ⟨ad140, e140, hx140_0⟩ := Kd.at_int (Kd.R_reads' HO137.out).2.2 t138 p140 q140; cases e140; replace p140 := eq_true p140; replace q140 := eq_true q140; have hnb130 := NB125_101.out; have hnc130 := NB101_125.out; have hnb131 := NB125_102.out; have hnc131 := NB102_125.out; have hnb132 := NB125_116.out; have hnc132 := NB116_125.out; have hnb133 := NB125_105.out; have hnc133 := NB105_125.out; obtain ⟨⟨hcz134_0, hcz134_1, hcz134_2⟩, hfz134_0, hfz134_1, hfz134_2⟩ := bf3 BK125))
                                      have n0_ : Aside0 (Kd.R (Kd.int .i64) 2 (w128.setCell ⟨gb125, 1, none⟩ (.int .i64 (rd y135 t138))) w.heap.size (fun _ => True) (.slice (some ad140) y135.length co129) y135) := ⟨by (with_reducible repeat (first | apply Kd.R_alloc | apply Kd.R_drewN | apply Kd.R_drew)); exact Kd.R_mono (Kd.R_far (p := ⟨gb125, 1, none⟩) (Kd.R_types (by (with_reducible repeat (first | apply Kd.R_alloc | apply Kd.R_drewN | apply Kd.R_drew)); exact HO137.out) (kp BK125) (by decide)) (fun _ hk => hk.2) (.int .i64 (rd y135 t138))) (fun _ hk => trivial)⟩
                                      have n1_ : Aside0 ((w128.setCell ⟨gb125, 1, none⟩ (.int .i64 (rd y135 t138))).heap[gb101]? = some (.cells #[.int .i64 0, .int .i64 0, .string (⟨#[]⟩ : ByteArray)] 36 (0, 0))) := ⟨by (with_reducible repeat (first | refine blk_drewN ?_ _ | refine blk_drew ?_ | refine blk_alloc ?_ _)); refine blk_far ?_ NB101_125.out _; (with_reducible repeat (first | refine blk_drewN ?_ _ | refine blk_drew ?_ | refine blk_alloc ?_ _)); exact BK101.out⟩
                                      have n2_ : Aside0 ((w128.setCell ⟨gb125, 1, none⟩ (.int .i64 (rd y135 t138))).heap[gb102]? = some (.cells #[.int .i64 0, .int .i64 0, .string (⟨#[]⟩ : ByteArray)] 36 (0, 0))) := ⟨by (with_reducible repeat (first | refine blk_drewN ?_ _ | refine blk_drew ?_ | refine blk_alloc ?_ _)); refine blk_far ?_ NB102_125.out _; (with_reducible repeat (first | refine blk_drewN ?_ _ | refine blk_drew ?_ | refine blk_alloc ?_ _)); exact BK102.out⟩
                                      have n3_ : Aside0 ((w128.setCell ⟨gb125, 1, none⟩ (.int .i64 (rd y135 t138))).heap[gb116]? = some (.cells #[.int .i64 t112, .int .i64 t113, .string t114] 36 (0, 0))) := ⟨by (with_reducible repeat (first | refine blk_drewN ?_ _ | refine blk_drew ?_ | refine blk_alloc ?_ _)); refine blk_far ?_ NB116_125.out _; (with_reducible repeat (first | refine blk_drewN ?_ _ | refine blk_drew ?_ | refine blk_alloc ?_ _)); exact BK116.out⟩
                                      have n4_ : Aside0 ((w128.setCell ⟨gb125, 1, none⟩ (.int .i64 (rd y135 t138))).heap[gb125]? = some (.cells #[.int .i64 t121, .int .i64 (rd y135 t138), .string t123] 36 (0, 0))) := ⟨by (with_reducible repeat (first | refine blk_drewN ?_ _ | refine blk_drew ?_ | refine blk_alloc ?_ _)); refine blk_put (cs := #[.int .i64 t121, .int .i64 x126001_53, .string t123]) ?_ 1 _ rfl; (with_reducible repeat (first | refine blk_drewN ?_ _ | refine blk_drew ?_ | refine blk_alloc ?_ _)); exact BK125.out⟩
                                      have n5_ : Aside0 (IsS137 w (w128.setCell ⟨gb125, 1, none⟩ (.int .i64 (rd y135 t138))) g105 t103 t139) := ⟨by repeat (first | (with_reducible first | exact HI105.out | apply IsS137.alloc | apply IsS137.drewN | apply IsS137.drew | apply IsS137.set_1 | refine IsS137.far ?_ NB105_101.out _ | refine IsS137.far ?_ NB105_102.out _ | refine IsS137.far ?_ NB105_116.out _ | refine IsS137.far ?_ NB105_125.out _) | exact HI105.out)⟩
                                      have n6_ : Aside0 (Below w.heap.size w (w128.setCell ⟨gb125, 1, none⟩ (.int .i64 (rd y135 t138)))) := ⟨by repeat (first | (with_reducible first | exact HB.out | apply below_alloc | apply pw_below_drewN | apply below_drew1 | refine below_set ?_ (IsS137.ge HI105.out) | refine below_set ?_ GE101.out | refine below_set ?_ GE102.out | refine below_set ?_ GE116.out | refine below_set ?_ GE125.out) | exact HB.out)⟩
                                      (try clear HO137)
                                      (try clear BK101)
                                      (try clear BK102)
                                      (try clear BK116)
                                      (try clear BK125)
                                      (try clear HI105)
                                      (try clear HB)
                                      generalize (w128.setCell ⟨gb125, 1, none⟩ (.int .i64 (rd y135 t138))) = w135 at n0_ n1_ n2_ n3_ n4_ n5_ n6_ ⊢
                                      have HO137 := n0_
                                      have BK101 := n1_
                                      have BK102 := n2_
                                      have BK116 := n3_
                                      have BK125 := n4_
                                      have HI105 := n5_
                                      have HB := n6_
                                      clear n0_ n1_ n2_ n3_ n4_ n5_ n6_
                                      have n0_ := Aside0.mk (Kd.R_drew HO137.out)
                                      have n1_ := Aside0.mk (blk_drew BK101.out)
                                      have n2_ := Aside0.mk (blk_drew BK102.out)
                                      have n3_ := Aside0.mk (blk_drew BK116.out)
                                      have n4_ := Aside0.mk (blk_drew BK125.out)
                                      have n5_ := Aside0.mk (IsS137.drew HI105.out)
                                      have n6_ := Aside0.mk (below_drew1 HB.out)
                                      clear HO137
                                      clear BK101
                                      clear BK102
                                      clear BK116
                                      clear BK125
                                      clear HI105
                                      clear HB
                                      have HO137 := n0_
                                      have BK101 := n1_
                                      have BK102 := n2_
                                      have BK116 := n3_
                                      have BK125 := n4_
                                      have HI105 := n5_
                                      have HB := n6_
                                      clear n0_ n1_ n2_ n3_ n4_ n5_ n6_
                                      refine start_ (n := 7) (S := fun w' => w'.cell? ⟨gb125, 0, none⟩ = some (.int .i64 t121) ∧ w'.cell? ⟨gb125, 1, none⟩ = some (.int .i64 (rd y135 t138)) ∧ w'.cell? ⟨gb125, 2, none⟩ = some (.string t123)) (ds := []) #[false, false, false, false, false, false, false] (by kernel_rfl) rfl rfl ⟨(blk_cell BK125.out 0).trans rfl, (blk_cell BK125.out 1).trans rfl, (blk_cell BK125.out 2).trans rfl⟩ (fun hHeld => ?_)
                                      generalize w135.drew = w136 at HO137 BK101 BK102 BK116 BK125 HI105 HB hHeld ⊢
                                      refine pure_ (i := 0) (N := some 85) (v := ?_) (a' := ?_) #[true, false, false, false, false, false, false] rfl rfl (by kernel_rfl) (fun _ _ _ h => h) (Or.inl ⟨by rfl, ?_⟩) ?_ ?_
                                      rotate_left
                                      · intro w'
                                        go_simp
                                        with_reducible rfl
                                      rotate_left
                                      · simp only [Act.put, List.setIfInBounds_toArray, List.set_cons_zero, List.set_cons_succ, i64_w, i32_w]
                                        rfl
                                      refine pure_ (i := 2) (N := some 87) (v := ?_) (a' := ?_) #[true, false, true, false, false, false, false] rfl rfl (by kernel_rfl) (fun _ _ _ h => h) (Or.inl ⟨by rfl, ?_⟩) ?_ ?_
                                      rotate_left
                                      · intro w'
                                        go_simp
                                        with_reducible rfl
                                      rotate_left
                                      · simp only [Act.put, List.setIfInBounds_toArray, List.set_cons_zero, List.set_cons_succ, i64_w, i32_w]
                                        rfl
                                      refine take_ (i := 1) (N := some 86) (v := ?_) (a' := ?_) #[true, true, true, false, false, false, false] rfl rfl (by kernel_rfl) (fun _ _ _ h => h) (Or.inl ⟨by rfl, ?_⟩) hHeld ?_ ?_
                                      rotate_left
                                      · rintro w' ⟨s0, s1, s2⟩
                                        go_simp
                                        with_reducible rfl
                                      rotate_left
                                      · simp only [Act.put, List.setIfInBounds_toArray, List.set_cons_zero, List.set_cons_succ, i64_w, i32_w]
                                        rfl
                                      refine one_ (i := 3) (N := some 88) #[true, true, true, true, false, false, false] rfl rfl (by kernel_rfl) (by decide) (fun K hK => ?_)
                                      refine goes_ Try.func85 (by kernel_rfl) rfl #[.int .i64 x7_18] (by rfl) rfl rfl (by (try simp only [List.map_toArray, List.map_cons, List.map_nil]); first | done | rfl | (simp only [List.length_drop, List.length_take]; rfl)) ?_
                                      with_reducible refine (spec_l10Max.calls kj64 x7_18 t141 _ A100.out).mono ?_
                                      rintro e w' ⟨rfl, ⟨nd, rfl⟩⟩
                                      refine ⟨_, rfl, ?_⟩
                                      refine hK.out _ _ ⟨(blk_cell BK125.out 0).trans rfl, (blk_cell BK125.out 1).trans rfl, (blk_cell BK125.out 2).trans rfl⟩ (fun hHeld => ?_)
                                      clear hK K
                                      refine norm_ (a' := ?_) ?_ ?_
                                      rotate_left
                                      · show Act.put _ (some 88) _ = _
                                        simp only [Act.put, List.setIfInBounds_toArray, List.set_cons_zero, List.set_cons_succ, i64_w, i32_w]
                                        rfl
                                      refine pure_ (i := 4) (N := some 89) (v := ?_) (a' := ?_) #[true, true, true, true, true, false, false] rfl rfl (by kernel_rfl) (fun _ _ _ h => h) (Or.inl ⟨by rfl, ?_⟩) ?_ ?_
                                      rotate_left
                                      · intro w'
                                        go_simp
                                        with_reducible rfl
                                      rotate_left
                                      · simp only [Act.put, List.setIfInBounds_toArray, List.set_cons_zero, List.set_cons_succ, i64_w, i32_w]
                                        rfl
                                      refine pure_ (i := 5) (N := some 90) (v := ?_) (a' := ?_) #[true, true, true, true, true, true, false] rfl rfl (by kernel_rfl) (fun _ _ _ h => h) (Or.inl ⟨by rfl, ?_⟩) ?_ ?_
                                      rotate_left
                                      · intro w'
                                        go_simp
                                        with_reducible rfl
                                      rotate_left
                                      · simp only [Act.put, List.setIfInBounds_toArray, List.set_cons_zero, List.set_cons_succ, i64_w, i32_w]
                                        rfl
                                      refine pure_ (i := 6) (N := some 91) (v := ?_) (a' := ?_) #[true, true, true, true, true, true, true] rfl rfl (by kernel_rfl) (fun _ _ _ h => h) (Or.inl ⟨by rfl, ?_⟩) ?_ ?_
                                      rotate_left
                                      · intro w'
                                        go_simp
                                        with_reducible rfl
                                      rotate_left
                                      · simp only [Act.put, List.setIfInBounds_toArray, List.set_cons_zero, List.set_cons_succ, i64_w, i32_w]
                                        rfl
                                      refine done_ (by kernel_rfl) ?_
                                      obtain ⟨⟨hcz137_0, hcz137_1, hcz137_2⟩, hfz137_0, hfz137_1, hfz137_2⟩ := bf3 BK125
                                      try go_wp2_with (first | ((with_reducible refine gate_dst (N := 93) rfl ?_); refine Kd.R_lit (Kd.int .i64) _ 2 ?hg (N := 93) ?hd (xs := ([1, 5, 100] : List Int)) (inner := [.int .i64 1, .int .i64 5, .int .i64 100]) (ok := fun _ => True) (okp := fun _ => True) ?hr ?hp (fun _ hk => hk) trivial (Below.refl _ _) (Nat.le_refl _) (by simp) ?_; (case hd => rfl); (case hg => rfl); (case hr => first | (go_simp; done) | (go_simp; rfl)); (case hp => exact (Reps.one (show Kd.M (Kd.int .i64) _ _ _ 1 [.int .i64 1] from rfl) (Reps.one (show Kd.M (Kd.int .i64) _ _ _ 5 [.int .i64 5] from rfl) (Reps.one (show Kd.M (Kd.int .i64) _ _ _ 100 [.int .i64 100] from rfl) (Reps.none _ _))))); intro v143 w138 ho139 hb hg_ hnew_; clear hg_ hnew_; (first | rw [← Ny142.out] at ho139 | (simp only [Int.reduceToNat] at ho139; rw [← Ny142.out] at ho139)); have n0_ := Aside0.mk (Kd.R_elder' (by (with_reducible repeat (first | apply Kd.R_alloc | apply Kd.R_drewN | apply Kd.R_drew)); exact (Kd.R_mono (Kd.R_far (p := ⟨gb125, 1, none⟩) (Kd.R_types (by (with_reducible repeat (first | apply Kd.R_alloc | apply Kd.R_drewN | apply Kd.R_drew)); exact HO137.out) (kp BK125) (by decide)) (fun _ hk => hk.2) (.int .i64 8)) (fun _ h_ => h_.1))) (Kd.R_base ho139) hb); have n1_ := Aside0.mk (Kd.R_lower (Kd.R_new' ho139 (Kd.R_lt (by (with_reducible repeat (first | apply Kd.R_alloc | apply Kd.R_drewN | apply Kd.R_drew)); exact (Kd.R_mono (Kd.R_far (p := ⟨gb125, 1, none⟩) (Kd.R_types (by (with_reducible repeat (first | apply Kd.R_alloc | apply Kd.R_drewN | apply Kd.R_drew)); exact HO137.out) (kp BK125) (by decide)) (fun _ hk => hk.2) (.int .i64 8)) (fun _ h_ => h_.1))))) (below_size (by repeat (first | (with_reducible first | exact HB.out | apply below_alloc | apply pw_below_drewN | apply below_drew1 | refine below_set ?_ (IsS137.ge HI105.out) | refine below_set ?_ GE101.out | refine below_set ?_ GE102.out | refine below_set ?_ GE116.out | refine below_set ?_ GE125.out) | exact HB.out)))); have n2_ := Aside0.mk (blk_below (g := gb101) (o := .cells #[.int .i64 0, .int .i64 0, .string (⟨#[]⟩ : ByteArray)] 36 (0, 0)) (by (with_reducible repeat (first | refine blk_drewN ?_ _ | refine blk_drew ?_ | refine blk_alloc ?_ _)); refine blk_far ?_ NB101_125.out _; (with_reducible repeat (first | refine blk_drewN ?_ _ | refine blk_drew ?_ | refine blk_alloc ?_ _)); exact BK101.out) hb); have n3_ := Aside0.mk (blk_below (g := gb102) (o := .cells #[.int .i64 0, .int .i64 0, .string (⟨#[]⟩ : ByteArray)] 36 (0, 0)) (by (with_reducible repeat (first | refine blk_drewN ?_ _ | refine blk_drew ?_ | refine blk_alloc ?_ _)); refine blk_far ?_ NB102_125.out _; (with_reducible repeat (first | refine blk_drewN ?_ _ | refine blk_drew ?_ | refine blk_alloc ?_ _)); exact BK102.out) hb); have n4_ := Aside0.mk (blk_below (g := gb116) (o := .cells #[.int .i64 t112, .int .i64 t113, .string t114] 36 (0, 0)) (by (with_reducible repeat (first | refine blk_drewN ?_ _ | refine blk_drew ?_ | refine blk_alloc ?_ _)); refine blk_far ?_ NB116_125.out _; (with_reducible repeat (first | refine blk_drewN ?_ _ | refine blk_drew ?_ | refine blk_alloc ?_ _)); exact BK116.out) hb); have n5_ := Aside0.mk (blk_below (g := gb125) (o := .cells #[.int .i64 t121, .int .i64 8, .string t123] 36 (0, 0)) (by (with_reducible repeat (first | refine blk_drewN ?_ _ | refine blk_drew ?_ | refine blk_alloc ?_ _)); refine blk_put (cs := #[.int .i64 t121, .int .i64 (rd y135 t138), .string t123]) ?_ 1 _ rfl; (with_reducible repeat (first | refine blk_drewN ?_ _ | refine blk_drew ?_ | refine blk_alloc ?_ _)); exact BK125.out) hb); have n6_ := Aside0.mk (IsS137.below (show IsS137 w _ g105 t103 t139 from by repeat (first | (with_reducible first | exact HI105.out | apply IsS137.alloc | apply IsS137.drewN | apply IsS137.drew | apply IsS137.set_1 | refine IsS137.far ?_ NB105_101.out _ | refine IsS137.far ?_ NB105_102.out _ | refine IsS137.far ?_ NB105_116.out _ | refine IsS137.far ?_ NB105_125.out _) | exact HI105.out)) hb); have n7_ := Aside0.mk (below_step (by repeat (first | (with_reducible first | exact HB.out | apply below_alloc | apply pw_below_drewN | apply below_drew1 | refine below_set ?_ (IsS137.ge HI105.out) | refine below_set ?_ GE101.out | refine below_set ?_ GE102.out | refine below_set ?_ GE116.out | refine below_set ?_ GE125.out) | exact HB.out)) hb); clear HO137; clear BK101; clear BK102; clear BK116; clear BK125; clear HI105; clear HB; have HO137 := n0_; have HO144 := n1_; have BK101 := n2_; have BK102 := n3_; have BK116 := n4_; have BK125 := n5_; have HI105 := n6_; have HB := n7_; clear n0_ n1_ n2_ n3_ n4_ n5_ n6_ n7_; clear hb ho139) | ((with_reducible refine gate_callee (f := 83) rfl ?_); refine goesL_ (some 95) rfl rfl Try.func83 (by kernel_rfl) rfl #[.pointer (some ⟨g105, 0, none⟩), .int .i64 3] rfl (by (try simp only [List.map_toArray, List.map_cons, List.map_nil]); first | done | rfl | (simp only [List.length_drop, List.length_take]; rfl)) ?_; (with_reducible refine (spec_l10Rd_pick.calls kj64 g105 t103 t139 3 t145 t146 w _ ?side1 ?side2 A102.out).mono ?_); (case side1 => repeat (first | (with_reducible first | exact HI105.out | apply IsS137.alloc | apply IsS137.drewN | apply IsS137.drew | apply IsS137.set_1 | refine IsS137.far ?_ NB105_101.out _ | refine IsS137.far ?_ NB105_102.out _ | refine IsS137.far ?_ NB105_116.out _ | refine IsS137.far ?_ NB105_125.out _) | exact HI105.out)); (case side2 => repeat (first | (with_reducible first | exact HB.out | apply below_alloc | apply pw_below_drewN | apply below_drew1 | refine below_set ?_ (IsS137.ge HI105.out) | refine below_set ?_ GE101.out | refine below_set ?_ GE102.out | refine below_set ?_ GE116.out | refine below_set ?_ GE125.out) | exact HB.out)); rintro e w140 ⟨rfl, hi, hb, hk⟩; refine ⟨_, rfl, ?_⟩; replace BK101 := Aside0.mk (KeepBut.blk hk (g' := gb101) (o := .cells #[.int .i64 0, .int .i64 0, .string (⟨#[]⟩ : ByteArray)] 36 (0, 0)) (kp BK101) NB101_105.out (by simp)); replace BK102 := Aside0.mk (KeepBut.blk hk (g' := gb102) (o := .cells #[.int .i64 0, .int .i64 0, .string (⟨#[]⟩ : ByteArray)] 36 (0, 0)) (kp BK102) NB102_105.out (by simp)); replace BK116 := Aside0.mk (KeepBut.blk hk (g' := gb116) (o := .cells #[.int .i64 t112, .int .i64 t113, .string t114] 36 (0, 0)) (kp BK116) NB116_105.out (by simp)); replace BK125 := Aside0.mk (KeepBut.blk hk (g' := gb125) (o := .cells #[.int .i64 t121, .int .i64 8, .string t123] 36 (0, 0)) (kp BK125) NB125_105.out (by simp)); replace HO137 := Aside0.mk (Kd.R_mono (Kd.R_keep (IsS137.apart (show IsS137 w _ g105 t103 t139 from by repeat (first | (with_reducible first | exact HI105.out | apply IsS137.alloc | apply IsS137.drewN | apply IsS137.drew | apply IsS137.set_1 | refine IsS137.far ?_ NB105_101.out _ | refine IsS137.far ?_ NB105_102.out _ | refine IsS137.far ?_ NB105_116.out _ | refine IsS137.far ?_ NB105_125.out _) | exact HI105.out)) (by (with_reducible repeat (first | apply Kd.R_alloc | apply Kd.R_drewN | apply Kd.R_drew)); exact HO137.out) (by decide)) hk (fun _ h => h.2)) (fun _ h => h.1)); replace HO144 := Aside0.mk (Kd.R_mono (Kd.R_keep (IsS137.apart (show IsS137 w _ g105 t103 t139 from by repeat (first | (with_reducible first | exact HI105.out | apply IsS137.alloc | apply IsS137.drewN | apply IsS137.drew | apply IsS137.set_1 | refine IsS137.far ?_ NB105_101.out _ | refine IsS137.far ?_ NB105_102.out _ | refine IsS137.far ?_ NB105_116.out _ | refine IsS137.far ?_ NB105_125.out _) | exact HI105.out)) (by (with_reducible repeat (first | apply Kd.R_alloc | apply Kd.R_drewN | apply Kd.R_drew)); exact HO144.out) (by decide)) hk (fun _ h => h.2)) (fun _ h => h.1)); replace HB := Aside0.mk (hb); replace HI105 := Aside0.mk (hi); obtain ⟨Ao141, co141, eo141⟩ := Kd.R_slice HO144.out; subst eo141; have p147 : 0 ≤ (t145 : Int) := of_decide_eq_true (by first | (with_reducible assumption) | assumption); have q147 : t145 < (y142.length : Int) := of_decide_eq_true (by first | (with_reducible assumption) | assumption); obtain ⟨ad147, e147, hx147_0⟩ := Kd.at_int (Kd.R_reads' HO144.out).2.2 t145 p147 q147; cases e147; replace p147 := eq_true p147; replace q147 := eq_true q147; have hnb142 := NB116_101.out; have hnc142 := NB101_116.out; have hnb143 := NB116_102.out; have hnc143 := NB102_116.out; have hnb144 := NB116_105.out; have hnc144 := NB105_116.out; obtain ⟨⟨hcz145_0, hcz145_1, hcz145_2⟩, hfz145_0, hfz145_1, hfz145_2⟩ := bf3 BK116))
                                      go_meet
                                      case rel => exact ⟨_, (t146), (rd y142 t145), (8), H', ⟨by have := HJ4.out; have := HJ18.out; have := HJ30.out; have := HJ53.out; have := HJ64.out; first | omega | exact Nat.le_refl _⟩, ⟨by (with_reducible repeat (first | refine blk_drewN ?_ _ | refine blk_drew ?_ | refine blk_alloc ?_ _)); refine blk_far ?_ NB101_116.out _; (with_reducible repeat (first | refine blk_drewN ?_ _ | refine blk_drew ?_ | refine blk_alloc ?_ _)); exact BK101.out⟩, ⟨by (with_reducible repeat (first | refine blk_drewN ?_ _ | refine blk_drew ?_ | refine blk_alloc ?_ _)); refine blk_far ?_ NB102_116.out _; (with_reducible repeat (first | refine blk_drewN ?_ _ | refine blk_drew ?_ | refine blk_alloc ?_ _)); exact BK102.out⟩, ⟨by (with_reducible repeat (first | refine blk_drewN ?_ _ | refine blk_drew ?_ | refine blk_alloc ?_ _)); refine blk_put (cs := #[.int .i64 t112, .int .i64 t113, .string t114]) ?_ 1 _ rfl; (with_reducible repeat (first | refine blk_drewN ?_ _ | refine blk_drew ?_ | refine blk_alloc ?_ _)); exact BK116.out⟩, ⟨by (with_reducible repeat (first | refine blk_drewN ?_ _ | refine blk_drew ?_ | refine blk_alloc ?_ _)); refine blk_far ?_ NB125_116.out _; (with_reducible repeat (first | refine blk_drewN ?_ _ | refine blk_drew ?_ | refine blk_alloc ?_ _)); exact BK125.out⟩, ⟨by repeat (first | (with_reducible first | exact HI105.out | apply IsS137.alloc | apply IsS137.drewN | apply IsS137.drew | apply IsS137.set_1 | refine IsS137.far ?_ NB105_101.out _ | refine IsS137.far ?_ NB105_102.out _ | refine IsS137.far ?_ NB105_116.out _ | refine IsS137.far ?_ NB105_125.out _) | exact HI105.out)⟩, ⟨by repeat (first | (with_reducible first | exact HB.out | apply below_alloc | apply pw_below_drewN | apply below_drew1 | refine below_set ?_ (IsS137.ge HI105.out) | refine below_set ?_ GE101.out | refine below_set ?_ GE102.out | refine below_set ?_ GE116.out | refine below_set ?_ GE125.out) | exact HB.out)⟩⟩
                                  · rw [if_neg c104] at H
                                    exact absurd H (by simp)
                                · rw [if_neg c103] at H
                                  exact absurd H (by simp)
                              · rw [if_neg c101] at H
                                have c101b0 : decide ((wrap64 (t141 / 2)) < (rd y135 t138)) = false := decide_eq_false c101
                                clear c101
                                obtain ⟨y148, hy148⟩ : ∃ y_ : List Int, y_ = (([1, 5, 100] : List Int)) := ⟨_, rfl⟩
                                replace H : ((spec_l10Rd_pick.f kj64 t103 t139 3).bind fun bt151 => (if 0 ≤ bt151.1 then (if bt151.1 < (y148.length : Int) then (if x7_18 ≥ 7 then (spec_DrawMillBinary.j5 kj64 (wrap64 (1 + t106)) t103 bt151.2 t112 (wrap64 (-(rd y148 bt151.1))) t114 t121 (rd y135 t138) t123) else (spec_DrawMillBinary.j5 kj64 (wrap64 (1 + t106)) t103 bt151.2 t112 (rd y148 bt151.1) t114 t121 (rd y135 t138) t123)) else (none)) else (none))) = some (r1, r2, r3, r4, r5, r6, r7) := by first | (rw [hy148]; with_reducible exact H) | (have H2_ := (Option.bind_some _ _).symm.trans H; rw [hy148]; with_reducible exact H2_) | (have H2_ := (Option.bind_some _ _).symm.trans H; with_reducible exact H2_) | with_reducible exact H | (rw [hy148]; exact H) | exact H
                                have Ny148 := Aside0.mk hy148
                                clear hy148
                                replace H := Option.bind_eq_some_iff.mp H
                                obtain ⟨⟨t151, t152⟩, A1460, H⟩ := H
                                replace H : (if 0 ≤ t151 then (if t151 < (y148.length : Int) then (if x7_18 ≥ 7 then (spec_DrawMillBinary.j5 kj64 (wrap64 (1 + t106)) t103 t152 t112 (wrap64 (-(rd y148 t151))) t114 t121 (rd y135 t138) t123) else (spec_DrawMillBinary.j5 kj64 (wrap64 (1 + t106)) t103 t152 t112 (rd y148 t151) t114 t121 (rd y135 t138) t123)) else (none)) else (none)) = some (r1, r2, r3, r4, r5, r6, r7) := H
                                have A146 := Aside0.mk A1460
                                clear A1460
                                by_cases c147 : 0 ≤ t151
                                · rw [if_pos c147] at H
                                  have c147b0 : decide (0 ≤ t151) = true := decide_eq_true c147
                                  clear c147
                                  by_cases c148 : t151 < (y148.length : Int)
                                  · rw [if_pos c148] at H
                                    have c148b0 : decide (t151 < (y148.length : Int)) = true := decide_eq_true c148
                                    clear c148
                                    by_cases c149 : x7_18 ≥ 7
                                    · rw [if_pos c149] at H
                                      have c149b0 : decide (7 ≤ x7_18) = true := decide_eq_true c149
                                      clear c149
                                      have H' := Aside0.mk H
                                      clear H
                                      try go_wp2_with (first | ((with_reducible refine gate_dst (N := 79) rfl ?_); refine Kd.R_lit (Kd.int .i64) _ 2 ?hg (N := 79) ?hd (xs := ([8, 16, 32, 64, 7, 15, 31, 63] : List Int)) (inner := [.int .i64 8, .int .i64 16, .int .i64 32, .int .i64 64, .int .i64 7, .int .i64 15, .int .i64 31, .int .i64 63]) (ok := fun _ => True) (okp := fun _ => True) ?hr ?hp (fun _ hk => hk) trivial (Below.refl _ _) (Nat.le_refl _) (by simp) ?_; (case hd => rfl); (case hg => rfl); (case hr => first | (go_simp; done) | (go_simp; rfl)); (case hp => exact (Reps.one (show Kd.M (Kd.int .i64) _ _ _ 8 [.int .i64 8] from rfl) (Reps.one (show Kd.M (Kd.int .i64) _ _ _ 16 [.int .i64 16] from rfl) (Reps.one (show Kd.M (Kd.int .i64) _ _ _ 32 [.int .i64 32] from rfl) (Reps.one (show Kd.M (Kd.int .i64) _ _ _ 64 [.int .i64 64] from rfl) (Reps.one (show Kd.M (Kd.int .i64) _ _ _ 7 [.int .i64 7] from rfl) (Reps.one (show Kd.M (Kd.int .i64) _ _ _ 15 [.int .i64 15] from rfl) (Reps.one (show Kd.M (Kd.int .i64) _ _ _ 31 [.int .i64 31] from rfl) (Reps.one (show Kd.M (Kd.int .i64) _ _ _ 63 [.int .i64 63] from rfl) (Reps.none _ _)))))))))); intro v136 w150 ho151 hb hg_ hnew_; clear hg_ hnew_; (first | rw [← Ny135.out] at ho151 | (simp only [Int.reduceToNat] at ho151; rw [← Ny135.out] at ho151)); have n0_ := Aside0.mk (Kd.R_lower ho151 (below_size (by repeat (first | (with_reducible first | exact HB.out | apply below_alloc | apply pw_below_drewN | apply below_drew1 | refine below_set ?_ (IsS137.ge HI105.out) | refine below_set ?_ GE101.out | refine below_set ?_ GE102.out | refine below_set ?_ GE116.out | refine below_set ?_ GE125.out) | exact HB.out)))); have n1_ := kB BK101 hb; have n2_ := kB BK102 hb; have n3_ := kB BK116 hb; have n4_ := kB BK125 hb; have n5_ := Aside0.mk (IsS137.below (by repeat (first | (with_reducible first | exact HI105.out | apply IsS137.alloc | apply IsS137.drewN | apply IsS137.drew | apply IsS137.set_1 | refine IsS137.far ?_ NB105_101.out _ | refine IsS137.far ?_ NB105_102.out _ | refine IsS137.far ?_ NB105_116.out _ | refine IsS137.far ?_ NB105_125.out _) | exact HI105.out)) hb); have n6_ := Aside0.mk (below_step (by repeat (first | (with_reducible first | exact HB.out | apply below_alloc | apply pw_below_drewN | apply below_drew1 | refine below_set ?_ (IsS137.ge HI105.out) | refine below_set ?_ GE101.out | refine below_set ?_ GE102.out | refine below_set ?_ GE116.out | refine below_set ?_ GE125.out) | exact HB.out)) hb); clear BK101; clear BK102; clear BK116; clear BK125; clear HI105; clear HB; have HO137 := n0_; have BK101 := n1_; have BK102 := n2_; have BK116 := n3_; have BK125 := n4_; have HI105 := n5_; have HB := n6_; clear n0_ n1_ n2_ n3_ n4_ n5_ n6_; clear hb ho151) | ((with_reducible refine gate_callee (f := 83) rfl ?_); refine goesL_ (some 81) rfl rfl Try.func83 (by kernel_rfl) rfl #[.pointer (some ⟨g105, 0, none⟩), .int .i64 8] rfl (by (try simp only [List.map_toArray, List.map_cons, List.map_nil]); first | done | rfl | (simp only [List.length_drop, List.length_take]; rfl)) ?_; (with_reducible refine (spec_l10Rd_pick.calls kj64 g105 t103 x106001_64 8 t138 t139 w _ ?side1 ?side2 A97.out).mono ?_); (case side1 => repeat (first | (with_reducible first | exact HI105.out | apply IsS137.alloc | apply IsS137.drewN | apply IsS137.drew | apply IsS137.set_1 | refine IsS137.far ?_ NB105_101.out _ | refine IsS137.far ?_ NB105_102.out _ | refine IsS137.far ?_ NB105_116.out _ | refine IsS137.far ?_ NB105_125.out _) | exact HI105.out)); (case side2 => repeat (first | (with_reducible first | exact HB.out | apply below_alloc | apply pw_below_drewN | apply below_drew1 | refine below_set ?_ (IsS137.ge HI105.out) | refine below_set ?_ GE101.out | refine below_set ?_ GE102.out | refine below_set ?_ GE116.out | refine below_set ?_ GE125.out) | exact HB.out)); rintro e w152 ⟨rfl, hi, hb, hk⟩; refine ⟨_, rfl, ?_⟩; replace BK101 := Aside0.mk (KeepBut.blk hk (g' := gb101) (o := .cells #[.int .i64 0, .int .i64 0, .string (⟨#[]⟩ : ByteArray)] 36 (0, 0)) (kp BK101) NB101_105.out (by simp)); replace BK102 := Aside0.mk (KeepBut.blk hk (g' := gb102) (o := .cells #[.int .i64 0, .int .i64 0, .string (⟨#[]⟩ : ByteArray)] 36 (0, 0)) (kp BK102) NB102_105.out (by simp)); replace BK116 := Aside0.mk (KeepBut.blk hk (g' := gb116) (o := .cells #[.int .i64 t112, .int .i64 t113, .string t114] 36 (0, 0)) (kp BK116) NB116_105.out (by simp)); replace BK125 := Aside0.mk (KeepBut.blk hk (g' := gb125) (o := .cells #[.int .i64 t121, .int .i64 x126001_53, .string t123] 36 (0, 0)) (kp BK125) NB125_105.out (by simp)); replace HO137 := Aside0.mk (Kd.R_mono (Kd.R_keep (IsS137.apart (show IsS137 w _ g105 t103 x106001_64 from by repeat (first | (with_reducible first | exact HI105.out | apply IsS137.alloc | apply IsS137.drewN | apply IsS137.drew | apply IsS137.set_1 | refine IsS137.far ?_ NB105_101.out _ | refine IsS137.far ?_ NB105_102.out _ | refine IsS137.far ?_ NB105_116.out _ | refine IsS137.far ?_ NB105_125.out _) | exact HI105.out)) (by (with_reducible repeat (first | apply Kd.R_alloc | apply Kd.R_drewN | apply Kd.R_drew)); exact HO137.out) (by decide)) hk (fun _ h => h.2)) (fun _ h => h.1)); replace HB := Aside0.mk (hb); replace HI105 := Aside0.mk (hi); obtain ⟨Ao153, co153, eo153⟩ := Kd.R_slice HO137.out; subst eo153; have p140 : 0 ≤ (t138 : Int) := of_decide_eq_true (by first | (with_reducible assumption) | assumption); have q140 : t138 < (y135.length : Int) := of_decide_eq_true (by first | (with_reducible assumption) | assumption); obtain ⟨ad140, e140, hx140_0⟩ := Kd.at_int (Kd.R_reads' HO137.out).2.2 t138 p140 q140; cases e140; replace p140 := eq_true p140; replace q140 := eq_true q140; have hnb154 := NB125_101.out; have hnc154 := NB101_125.out; have hnb155 := NB125_102.out; have hnc155 := NB102_125.out; have hnb156 := NB125_116.out; have hnc156 := NB116_125.out; have hnb157 := NB125_105.out; have hnc157 := NB105_125.out; obtain ⟨⟨hcz158_0, hcz158_1, hcz158_2⟩, hfz158_0, hfz158_1, hfz158_2⟩ := bf3 BK125))
                                      have n0_ : Aside0 (Kd.R (Kd.int .i64) 2 (w152.setCell ⟨gb125, 1, none⟩ (.int .i64 (rd y135 t138))) w.heap.size (fun _ => True) (.slice (some ad140) y135.length co153) y135) := ⟨by (with_reducible repeat (first | apply Kd.R_alloc | apply Kd.R_drewN | apply Kd.R_drew)); exact Kd.R_mono (Kd.R_far (p := ⟨gb125, 1, none⟩) (Kd.R_types (by (with_reducible repeat (first | apply Kd.R_alloc | apply Kd.R_drewN | apply Kd.R_drew)); exact HO137.out) (kp BK125) (by decide)) (fun _ hk => hk.2) (.int .i64 (rd y135 t138))) (fun _ hk => trivial)⟩
                                      have n1_ : Aside0 ((w152.setCell ⟨gb125, 1, none⟩ (.int .i64 (rd y135 t138))).heap[gb101]? = some (.cells #[.int .i64 0, .int .i64 0, .string (⟨#[]⟩ : ByteArray)] 36 (0, 0))) := ⟨by (with_reducible repeat (first | refine blk_drewN ?_ _ | refine blk_drew ?_ | refine blk_alloc ?_ _)); refine blk_far ?_ NB101_125.out _; (with_reducible repeat (first | refine blk_drewN ?_ _ | refine blk_drew ?_ | refine blk_alloc ?_ _)); exact BK101.out⟩
                                      have n2_ : Aside0 ((w152.setCell ⟨gb125, 1, none⟩ (.int .i64 (rd y135 t138))).heap[gb102]? = some (.cells #[.int .i64 0, .int .i64 0, .string (⟨#[]⟩ : ByteArray)] 36 (0, 0))) := ⟨by (with_reducible repeat (first | refine blk_drewN ?_ _ | refine blk_drew ?_ | refine blk_alloc ?_ _)); refine blk_far ?_ NB102_125.out _; (with_reducible repeat (first | refine blk_drewN ?_ _ | refine blk_drew ?_ | refine blk_alloc ?_ _)); exact BK102.out⟩
                                      have n3_ : Aside0 ((w152.setCell ⟨gb125, 1, none⟩ (.int .i64 (rd y135 t138))).heap[gb116]? = some (.cells #[.int .i64 t112, .int .i64 t113, .string t114] 36 (0, 0))) := ⟨by (with_reducible repeat (first | refine blk_drewN ?_ _ | refine blk_drew ?_ | refine blk_alloc ?_ _)); refine blk_far ?_ NB116_125.out _; (with_reducible repeat (first | refine blk_drewN ?_ _ | refine blk_drew ?_ | refine blk_alloc ?_ _)); exact BK116.out⟩
                                      have n4_ : Aside0 ((w152.setCell ⟨gb125, 1, none⟩ (.int .i64 (rd y135 t138))).heap[gb125]? = some (.cells #[.int .i64 t121, .int .i64 (rd y135 t138), .string t123] 36 (0, 0))) := ⟨by (with_reducible repeat (first | refine blk_drewN ?_ _ | refine blk_drew ?_ | refine blk_alloc ?_ _)); refine blk_put (cs := #[.int .i64 t121, .int .i64 x126001_53, .string t123]) ?_ 1 _ rfl; (with_reducible repeat (first | refine blk_drewN ?_ _ | refine blk_drew ?_ | refine blk_alloc ?_ _)); exact BK125.out⟩
                                      have n5_ : Aside0 (IsS137 w (w152.setCell ⟨gb125, 1, none⟩ (.int .i64 (rd y135 t138))) g105 t103 t139) := ⟨by repeat (first | (with_reducible first | exact HI105.out | apply IsS137.alloc | apply IsS137.drewN | apply IsS137.drew | apply IsS137.set_1 | refine IsS137.far ?_ NB105_101.out _ | refine IsS137.far ?_ NB105_102.out _ | refine IsS137.far ?_ NB105_116.out _ | refine IsS137.far ?_ NB105_125.out _) | exact HI105.out)⟩
                                      have n6_ : Aside0 (Below w.heap.size w (w152.setCell ⟨gb125, 1, none⟩ (.int .i64 (rd y135 t138)))) := ⟨by repeat (first | (with_reducible first | exact HB.out | apply below_alloc | apply pw_below_drewN | apply below_drew1 | refine below_set ?_ (IsS137.ge HI105.out) | refine below_set ?_ GE101.out | refine below_set ?_ GE102.out | refine below_set ?_ GE116.out | refine below_set ?_ GE125.out) | exact HB.out)⟩
                                      (try clear HO137)
                                      (try clear BK101)
                                      (try clear BK102)
                                      (try clear BK116)
                                      (try clear BK125)
                                      (try clear HI105)
                                      (try clear HB)
                                      generalize (w152.setCell ⟨gb125, 1, none⟩ (.int .i64 (rd y135 t138))) = w159 at n0_ n1_ n2_ n3_ n4_ n5_ n6_ ⊢
                                      have HO137 := n0_
                                      have BK101 := n1_
                                      have BK102 := n2_
                                      have BK116 := n3_
                                      have BK125 := n4_
                                      have HI105 := n5_
                                      have HB := n6_
                                      clear n0_ n1_ n2_ n3_ n4_ n5_ n6_
                                      have n0_ := Aside0.mk (Kd.R_drew HO137.out)
                                      have n1_ := Aside0.mk (blk_drew BK101.out)
                                      have n2_ := Aside0.mk (blk_drew BK102.out)
                                      have n3_ := Aside0.mk (blk_drew BK116.out)
                                      have n4_ := Aside0.mk (blk_drew BK125.out)
                                      have n5_ := Aside0.mk (IsS137.drew HI105.out)
                                      have n6_ := Aside0.mk (below_drew1 HB.out)
                                      clear HO137
                                      clear BK101
                                      clear BK102
                                      clear BK116
                                      clear BK125
                                      clear HI105
                                      clear HB
                                      have HO137 := n0_
                                      have BK101 := n1_
                                      have BK102 := n2_
                                      have BK116 := n3_
                                      have BK125 := n4_
                                      have HI105 := n5_
                                      have HB := n6_
                                      clear n0_ n1_ n2_ n3_ n4_ n5_ n6_
                                      refine start_ (n := 7) (S := fun w' => w'.cell? ⟨gb125, 0, none⟩ = some (.int .i64 t121) ∧ w'.cell? ⟨gb125, 1, none⟩ = some (.int .i64 (rd y135 t138)) ∧ w'.cell? ⟨gb125, 2, none⟩ = some (.string t123)) (ds := []) #[false, false, false, false, false, false, false] (by kernel_rfl) rfl rfl ⟨(blk_cell BK125.out 0).trans rfl, (blk_cell BK125.out 1).trans rfl, (blk_cell BK125.out 2).trans rfl⟩ (fun hHeld => ?_)
                                      generalize w159.drew = w160 at HO137 BK101 BK102 BK116 BK125 HI105 HB hHeld ⊢
                                      refine pure_ (i := 0) (N := some 85) (v := ?_) (a' := ?_) #[true, false, false, false, false, false, false] rfl rfl (by kernel_rfl) (fun _ _ _ h => h) (Or.inl ⟨by rfl, ?_⟩) ?_ ?_
                                      rotate_left
                                      · intro w'
                                        go_simp
                                        with_reducible rfl
                                      rotate_left
                                      · simp only [Act.put, List.setIfInBounds_toArray, List.set_cons_zero, List.set_cons_succ, i64_w, i32_w]
                                        rfl
                                      refine pure_ (i := 2) (N := some 87) (v := ?_) (a' := ?_) #[true, false, true, false, false, false, false] rfl rfl (by kernel_rfl) (fun _ _ _ h => h) (Or.inl ⟨by rfl, ?_⟩) ?_ ?_
                                      rotate_left
                                      · intro w'
                                        go_simp
                                        with_reducible rfl
                                      rotate_left
                                      · simp only [Act.put, List.setIfInBounds_toArray, List.set_cons_zero, List.set_cons_succ, i64_w, i32_w]
                                        rfl
                                      refine take_ (i := 1) (N := some 86) (v := ?_) (a' := ?_) #[true, true, true, false, false, false, false] rfl rfl (by kernel_rfl) (fun _ _ _ h => h) (Or.inl ⟨by rfl, ?_⟩) hHeld ?_ ?_
                                      rotate_left
                                      · rintro w' ⟨s0, s1, s2⟩
                                        go_simp
                                        with_reducible rfl
                                      rotate_left
                                      · simp only [Act.put, List.setIfInBounds_toArray, List.set_cons_zero, List.set_cons_succ, i64_w, i32_w]
                                        rfl
                                      refine one_ (i := 3) (N := some 88) #[true, true, true, true, false, false, false] rfl rfl (by kernel_rfl) (by decide) (fun K hK => ?_)
                                      refine goes_ Try.func85 (by kernel_rfl) rfl #[.int .i64 x7_18] (by rfl) rfl rfl (by (try simp only [List.map_toArray, List.map_cons, List.map_nil]); first | done | rfl | (simp only [List.length_drop, List.length_take]; rfl)) ?_
                                      with_reducible refine (spec_l10Max.calls kj64 x7_18 t141 _ A100.out).mono ?_
                                      rintro e w' ⟨rfl, ⟨nd, rfl⟩⟩
                                      refine ⟨_, rfl, ?_⟩
                                      refine hK.out _ _ ⟨(blk_cell BK125.out 0).trans rfl, (blk_cell BK125.out 1).trans rfl, (blk_cell BK125.out 2).trans rfl⟩ (fun hHeld => ?_)
                                      clear hK K
                                      refine norm_ (a' := ?_) ?_ ?_
                                      rotate_left
                                      · show Act.put _ (some 88) _ = _
                                        simp only [Act.put, List.setIfInBounds_toArray, List.set_cons_zero, List.set_cons_succ, i64_w, i32_w]
                                        rfl
                                      refine pure_ (i := 4) (N := some 89) (v := ?_) (a' := ?_) #[true, true, true, true, true, false, false] rfl rfl (by kernel_rfl) (fun _ _ _ h => h) (Or.inl ⟨by rfl, ?_⟩) ?_ ?_
                                      rotate_left
                                      · intro w'
                                        go_simp
                                        with_reducible rfl
                                      rotate_left
                                      · simp only [Act.put, List.setIfInBounds_toArray, List.set_cons_zero, List.set_cons_succ, i64_w, i32_w]
                                        rfl
                                      refine pure_ (i := 5) (N := some 90) (v := ?_) (a' := ?_) #[true, true, true, true, true, true, false] rfl rfl (by kernel_rfl) (fun _ _ _ h => h) (Or.inl ⟨by rfl, ?_⟩) ?_ ?_
                                      rotate_left
                                      · intro w'
                                        go_simp
                                        with_reducible rfl
                                      rotate_left
                                      · simp only [Act.put, List.setIfInBounds_toArray, List.set_cons_zero, List.set_cons_succ, i64_w, i32_w]
                                        rfl
                                      refine pure_ (i := 6) (N := some 91) (v := ?_) (a' := ?_) #[true, true, true, true, true, true, true] rfl rfl (by kernel_rfl) (fun _ _ _ h => h) (Or.inl ⟨by rfl, ?_⟩) ?_ ?_
                                      rotate_left
                                      · intro w'
                                        go_simp
                                        with_reducible rfl
                                      rotate_left
                                      · simp only [Act.put, List.setIfInBounds_toArray, List.set_cons_zero, List.set_cons_succ, i64_w, i32_w]
                                        rfl
                                      refine done_ (by kernel_rfl) ?_
                                      try go_wp2_with (first | ((with_reducible refine gate_dst (N := 93) rfl ?_); refine Kd.R_lit (Kd.int .i64) _ 2 ?hg (N := 93) ?hd (xs := ([1, 5, 100] : List Int)) (inner := [.int .i64 1, .int .i64 5, .int .i64 100]) (ok := fun _ => True) (okp := fun _ => True) ?hr ?hp (fun _ hk => hk) trivial (Below.refl _ _) (Nat.le_refl _) (by simp) ?_; (case hd => rfl); (case hg => rfl); (case hr => first | (go_simp; done) | (go_simp; rfl)); (case hp => exact (Reps.one (show Kd.M (Kd.int .i64) _ _ _ 1 [.int .i64 1] from rfl) (Reps.one (show Kd.M (Kd.int .i64) _ _ _ 5 [.int .i64 5] from rfl) (Reps.one (show Kd.M (Kd.int .i64) _ _ _ 100 [.int .i64 100] from rfl) (Reps.none _ _))))); intro v149 w161 ho162 hb hg_ hnew_; clear hg_ hnew_; (first | rw [← Ny148.out] at ho162 | (simp only [Int.reduceToNat] at ho162; rw [← Ny148.out] at ho162)); have n0_ := Aside0.mk (Kd.R_elder' (by (with_reducible repeat (first | apply Kd.R_alloc | apply Kd.R_drewN | apply Kd.R_drew)); exact HO137.out) (Kd.R_base ho162) hb); have n1_ := Aside0.mk (Kd.R_lower (Kd.R_new' ho162 (Kd.R_lt (by (with_reducible repeat (first | apply Kd.R_alloc | apply Kd.R_drewN | apply Kd.R_drew)); exact HO137.out))) (below_size (by repeat (first | (with_reducible first | exact HB.out | apply below_alloc | apply pw_below_drewN | apply below_drew1 | refine below_set ?_ (IsS137.ge HI105.out) | refine below_set ?_ GE101.out | refine below_set ?_ GE102.out | refine below_set ?_ GE116.out | refine below_set ?_ GE125.out) | exact HB.out)))); have n2_ := kB BK101 hb; have n3_ := kB BK102 hb; have n4_ := kB BK116 hb; have n5_ := kB BK125 hb; have n6_ := Aside0.mk (IsS137.below (by repeat (first | (with_reducible first | exact HI105.out | apply IsS137.alloc | apply IsS137.drewN | apply IsS137.drew | apply IsS137.set_1 | refine IsS137.far ?_ NB105_101.out _ | refine IsS137.far ?_ NB105_102.out _ | refine IsS137.far ?_ NB105_116.out _ | refine IsS137.far ?_ NB105_125.out _) | exact HI105.out)) hb); have n7_ := Aside0.mk (below_step (by repeat (first | (with_reducible first | exact HB.out | apply below_alloc | apply pw_below_drewN | apply below_drew1 | refine below_set ?_ (IsS137.ge HI105.out) | refine below_set ?_ GE101.out | refine below_set ?_ GE102.out | refine below_set ?_ GE116.out | refine below_set ?_ GE125.out) | exact HB.out)) hb); clear HO137; clear BK101; clear BK102; clear BK116; clear BK125; clear HI105; clear HB; have HO137 := n0_; have HO150 := n1_; have BK101 := n2_; have BK102 := n3_; have BK116 := n4_; have BK125 := n5_; have HI105 := n6_; have HB := n7_; clear n0_ n1_ n2_ n3_ n4_ n5_ n6_ n7_; clear hb ho162) | ((with_reducible refine gate_callee (f := 83) rfl ?_); refine goesL_ (some 95) rfl rfl Try.func83 (by kernel_rfl) rfl #[.pointer (some ⟨g105, 0, none⟩), .int .i64 3] rfl (by (try simp only [List.map_toArray, List.map_cons, List.map_nil]); first | done | rfl | (simp only [List.length_drop, List.length_take]; rfl)) ?_; (with_reducible refine (spec_l10Rd_pick.calls kj64 g105 t103 t139 3 t151 t152 w _ ?side1 ?side2 A146.out).mono ?_); (case side1 => repeat (first | (with_reducible first | exact HI105.out | apply IsS137.alloc | apply IsS137.drewN | apply IsS137.drew | apply IsS137.set_1 | refine IsS137.far ?_ NB105_101.out _ | refine IsS137.far ?_ NB105_102.out _ | refine IsS137.far ?_ NB105_116.out _ | refine IsS137.far ?_ NB105_125.out _) | exact HI105.out)); (case side2 => repeat (first | (with_reducible first | exact HB.out | apply below_alloc | apply pw_below_drewN | apply below_drew1 | refine below_set ?_ (IsS137.ge HI105.out) | refine below_set ?_ GE101.out | refine below_set ?_ GE102.out | refine below_set ?_ GE116.out | refine below_set ?_ GE125.out) | exact HB.out)); rintro e w163 ⟨rfl, hi, hb, hk⟩; refine ⟨_, rfl, ?_⟩; replace BK101 := Aside0.mk (KeepBut.blk hk (g' := gb101) (o := .cells #[.int .i64 0, .int .i64 0, .string (⟨#[]⟩ : ByteArray)] 36 (0, 0)) (kp BK101) NB101_105.out (by simp)); replace BK102 := Aside0.mk (KeepBut.blk hk (g' := gb102) (o := .cells #[.int .i64 0, .int .i64 0, .string (⟨#[]⟩ : ByteArray)] 36 (0, 0)) (kp BK102) NB102_105.out (by simp)); replace BK116 := Aside0.mk (KeepBut.blk hk (g' := gb116) (o := .cells #[.int .i64 t112, .int .i64 t113, .string t114] 36 (0, 0)) (kp BK116) NB116_105.out (by simp)); replace BK125 := Aside0.mk (KeepBut.blk hk (g' := gb125) (o := .cells #[.int .i64 t121, .int .i64 (rd y135 t138), .string t123] 36 (0, 0)) (kp BK125) NB125_105.out (by simp)); replace HO137 := Aside0.mk (Kd.R_mono (Kd.R_keep (IsS137.apart (show IsS137 w _ g105 t103 t139 from by repeat (first | (with_reducible first | exact HI105.out | apply IsS137.alloc | apply IsS137.drewN | apply IsS137.drew | apply IsS137.set_1 | refine IsS137.far ?_ NB105_101.out _ | refine IsS137.far ?_ NB105_102.out _ | refine IsS137.far ?_ NB105_116.out _ | refine IsS137.far ?_ NB105_125.out _) | exact HI105.out)) (by (with_reducible repeat (first | apply Kd.R_alloc | apply Kd.R_drewN | apply Kd.R_drew)); exact HO137.out) (by decide)) hk (fun _ h => h.2)) (fun _ h => h.1)); replace HO150 := Aside0.mk (Kd.R_mono (Kd.R_keep (IsS137.apart (show IsS137 w _ g105 t103 t139 from by repeat (first | (with_reducible first | exact HI105.out | apply IsS137.alloc | apply IsS137.drewN | apply IsS137.drew | apply IsS137.set_1 | refine IsS137.far ?_ NB105_101.out _ | refine IsS137.far ?_ NB105_102.out _ | refine IsS137.far ?_ NB105_116.out _ | refine IsS137.far ?_ NB105_125.out _) | exact HI105.out)) (by (with_reducible repeat (first | apply Kd.R_alloc | apply Kd.R_drewN | apply Kd.R_drew)); exact HO150.out) (by decide)) hk (fun _ h => h.2)) (fun _ h => h.1)); replace HB := Aside0.mk (hb); replace HI105 := Aside0.mk (hi); obtain ⟨Ao164, co164, eo164⟩ := Kd.R_slice HO150.out; subst eo164; have p153 : 0 ≤ (t151 : Int) := of_decide_eq_true (by first | (with_reducible assumption) | assumption); have q153 : t151 < (y148.length : Int) := of_decide_eq_true (by first | (with_reducible assumption) | assumption); obtain ⟨ad153, e153, hx153_0⟩ := Kd.at_int (Kd.R_reads' HO150.out).2.2 t151 p153 q153; cases e153; replace p153 := eq_true p153; replace q153 := eq_true q153; have hnb165 := NB116_101.out; have hnc165 := NB101_116.out; have hnb166 := NB116_102.out; have hnc166 := NB102_116.out; have hnb167 := NB116_105.out; have hnc167 := NB105_116.out; obtain ⟨⟨hcz168_0, hcz168_1, hcz168_2⟩, hfz168_0, hfz168_1, hfz168_2⟩ := bf3 BK116))
                                      go_meet
                                      case rel => exact ⟨_, (t152), (wrap64 (-(rd y148 t151))), (rd y135 t138), H', ⟨by have := HJ4.out; have := HJ18.out; have := HJ30.out; have := HJ53.out; have := HJ64.out; first | omega | exact Nat.le_refl _⟩, ⟨by (with_reducible repeat (first | refine blk_drewN ?_ _ | refine blk_drew ?_ | refine blk_alloc ?_ _)); refine blk_far ?_ NB101_116.out _; (with_reducible repeat (first | refine blk_drewN ?_ _ | refine blk_drew ?_ | refine blk_alloc ?_ _)); refine blk_far ?_ NB101_116.out _; (with_reducible repeat (first | refine blk_drewN ?_ _ | refine blk_drew ?_ | refine blk_alloc ?_ _)); exact BK101.out⟩, ⟨by (with_reducible repeat (first | refine blk_drewN ?_ _ | refine blk_drew ?_ | refine blk_alloc ?_ _)); refine blk_far ?_ NB102_116.out _; (with_reducible repeat (first | refine blk_drewN ?_ _ | refine blk_drew ?_ | refine blk_alloc ?_ _)); refine blk_far ?_ NB102_116.out _; (with_reducible repeat (first | refine blk_drewN ?_ _ | refine blk_drew ?_ | refine blk_alloc ?_ _)); exact BK102.out⟩, ⟨by (with_reducible repeat (first | refine blk_drewN ?_ _ | refine blk_drew ?_ | refine blk_alloc ?_ _)); refine blk_put (cs := #[.int .i64 t112, .int .i64 (rd y148 t151), .string t114]) ?_ 1 _ rfl; (with_reducible repeat (first | refine blk_drewN ?_ _ | refine blk_drew ?_ | refine blk_alloc ?_ _)); refine blk_put (cs := #[.int .i64 t112, .int .i64 t113, .string t114]) ?_ 1 _ rfl; (with_reducible repeat (first | refine blk_drewN ?_ _ | refine blk_drew ?_ | refine blk_alloc ?_ _)); exact BK116.out⟩, ⟨by (with_reducible repeat (first | refine blk_drewN ?_ _ | refine blk_drew ?_ | refine blk_alloc ?_ _)); refine blk_far ?_ NB125_116.out _; (with_reducible repeat (first | refine blk_drewN ?_ _ | refine blk_drew ?_ | refine blk_alloc ?_ _)); refine blk_far ?_ NB125_116.out _; (with_reducible repeat (first | refine blk_drewN ?_ _ | refine blk_drew ?_ | refine blk_alloc ?_ _)); exact BK125.out⟩, ⟨by repeat (first | (with_reducible first | exact HI105.out | apply IsS137.alloc | apply IsS137.drewN | apply IsS137.drew | apply IsS137.set_1 | refine IsS137.far ?_ NB105_101.out _ | refine IsS137.far ?_ NB105_102.out _ | refine IsS137.far ?_ NB105_116.out _ | refine IsS137.far ?_ NB105_125.out _) | exact HI105.out)⟩, ⟨by repeat (first | (with_reducible first | exact HB.out | apply below_alloc | apply pw_below_drewN | apply below_drew1 | refine below_set ?_ (IsS137.ge HI105.out) | refine below_set ?_ GE101.out | refine below_set ?_ GE102.out | refine below_set ?_ GE116.out | refine below_set ?_ GE125.out) | exact HB.out)⟩⟩
                                    · rw [if_neg c149] at H
                                      have c149b0 : decide (7 ≤ x7_18) = false := decide_eq_false c149
                                      clear c149
                                      have H' := Aside0.mk H
                                      clear H
                                      try go_wp2_with (first | ((with_reducible refine gate_dst (N := 79) rfl ?_); refine Kd.R_lit (Kd.int .i64) _ 2 ?hg (N := 79) ?hd (xs := ([8, 16, 32, 64, 7, 15, 31, 63] : List Int)) (inner := [.int .i64 8, .int .i64 16, .int .i64 32, .int .i64 64, .int .i64 7, .int .i64 15, .int .i64 31, .int .i64 63]) (ok := fun _ => True) (okp := fun _ => True) ?hr ?hp (fun _ hk => hk) trivial (Below.refl _ _) (Nat.le_refl _) (by simp) ?_; (case hd => rfl); (case hg => rfl); (case hr => first | (go_simp; done) | (go_simp; rfl)); (case hp => exact (Reps.one (show Kd.M (Kd.int .i64) _ _ _ 8 [.int .i64 8] from rfl) (Reps.one (show Kd.M (Kd.int .i64) _ _ _ 16 [.int .i64 16] from rfl) (Reps.one (show Kd.M (Kd.int .i64) _ _ _ 32 [.int .i64 32] from rfl) (Reps.one (show Kd.M (Kd.int .i64) _ _ _ 64 [.int .i64 64] from rfl) (Reps.one (show Kd.M (Kd.int .i64) _ _ _ 7 [.int .i64 7] from rfl) (Reps.one (show Kd.M (Kd.int .i64) _ _ _ 15 [.int .i64 15] from rfl) (Reps.one (show Kd.M (Kd.int .i64) _ _ _ 31 [.int .i64 31] from rfl) (Reps.one (show Kd.M (Kd.int .i64) _ _ _ 63 [.int .i64 63] from rfl) (Reps.none _ _)))))))))); intro v136 w169 ho170 hb hg_ hnew_; clear hg_ hnew_; (first | rw [← Ny135.out] at ho170 | (simp only [Int.reduceToNat] at ho170; rw [← Ny135.out] at ho170)); have n0_ := Aside0.mk (Kd.R_lower ho170 (below_size (by repeat (first | (with_reducible first | exact HB.out | apply below_alloc | apply pw_below_drewN | apply below_drew1 | refine below_set ?_ (IsS137.ge HI105.out) | refine below_set ?_ GE101.out | refine below_set ?_ GE102.out | refine below_set ?_ GE116.out | refine below_set ?_ GE125.out) | exact HB.out)))); have n1_ := kB BK101 hb; have n2_ := kB BK102 hb; have n3_ := kB BK116 hb; have n4_ := kB BK125 hb; have n5_ := Aside0.mk (IsS137.below (by repeat (first | (with_reducible first | exact HI105.out | apply IsS137.alloc | apply IsS137.drewN | apply IsS137.drew | apply IsS137.set_1 | refine IsS137.far ?_ NB105_101.out _ | refine IsS137.far ?_ NB105_102.out _ | refine IsS137.far ?_ NB105_116.out _ | refine IsS137.far ?_ NB105_125.out _) | exact HI105.out)) hb); have n6_ := Aside0.mk (below_step (by repeat (first | (with_reducible first | exact HB.out | apply below_alloc | apply pw_below_drewN | apply below_drew1 | refine below_set ?_ (IsS137.ge HI105.out) | refine below_set ?_ GE101.out | refine below_set ?_ GE102.out | refine below_set ?_ GE116.out | refine below_set ?_ GE125.out) | exact HB.out)) hb); clear BK101; clear BK102; clear BK116; clear BK125; clear HI105; clear HB; have HO137 := n0_; have BK101 := n1_; have BK102 := n2_; have BK116 := n3_; have BK125 := n4_; have HI105 := n5_; have HB := n6_; clear n0_ n1_ n2_ n3_ n4_ n5_ n6_; clear hb ho170) | ((with_reducible refine gate_callee (f := 83) rfl ?_); refine goesL_ (some 81) rfl rfl Try.func83 (by kernel_rfl) rfl #[.pointer (some ⟨g105, 0, none⟩), .int .i64 8] rfl (by (try simp only [List.map_toArray, List.map_cons, List.map_nil]); first | done | rfl | (simp only [List.length_drop, List.length_take]; rfl)) ?_; (with_reducible refine (spec_l10Rd_pick.calls kj64 g105 t103 x106001_64 8 t138 t139 w _ ?side1 ?side2 A97.out).mono ?_); (case side1 => repeat (first | (with_reducible first | exact HI105.out | apply IsS137.alloc | apply IsS137.drewN | apply IsS137.drew | apply IsS137.set_1 | refine IsS137.far ?_ NB105_101.out _ | refine IsS137.far ?_ NB105_102.out _ | refine IsS137.far ?_ NB105_116.out _ | refine IsS137.far ?_ NB105_125.out _) | exact HI105.out)); (case side2 => repeat (first | (with_reducible first | exact HB.out | apply below_alloc | apply pw_below_drewN | apply below_drew1 | refine below_set ?_ (IsS137.ge HI105.out) | refine below_set ?_ GE101.out | refine below_set ?_ GE102.out | refine below_set ?_ GE116.out | refine below_set ?_ GE125.out) | exact HB.out)); rintro e w171 ⟨rfl, hi, hb, hk⟩; refine ⟨_, rfl, ?_⟩; replace BK101 := Aside0.mk (KeepBut.blk hk (g' := gb101) (o := .cells #[.int .i64 0, .int .i64 0, .string (⟨#[]⟩ : ByteArray)] 36 (0, 0)) (kp BK101) NB101_105.out (by simp)); replace BK102 := Aside0.mk (KeepBut.blk hk (g' := gb102) (o := .cells #[.int .i64 0, .int .i64 0, .string (⟨#[]⟩ : ByteArray)] 36 (0, 0)) (kp BK102) NB102_105.out (by simp)); replace BK116 := Aside0.mk (KeepBut.blk hk (g' := gb116) (o := .cells #[.int .i64 t112, .int .i64 t113, .string t114] 36 (0, 0)) (kp BK116) NB116_105.out (by simp)); replace BK125 := Aside0.mk (KeepBut.blk hk (g' := gb125) (o := .cells #[.int .i64 t121, .int .i64 x126001_53, .string t123] 36 (0, 0)) (kp BK125) NB125_105.out (by simp)); replace HO137 := Aside0.mk (Kd.R_mono (Kd.R_keep (IsS137.apart (show IsS137 w _ g105 t103 x106001_64 from by repeat (first | (with_reducible first | exact HI105.out | apply IsS137.alloc | apply IsS137.drewN | apply IsS137.drew | apply IsS137.set_1 | refine IsS137.far ?_ NB105_101.out _ | refine IsS137.far ?_ NB105_102.out _ | refine IsS137.far ?_ NB105_116.out _ | refine IsS137.far ?_ NB105_125.out _) | exact HI105.out)) (by (with_reducible repeat (first | apply Kd.R_alloc | apply Kd.R_drewN | apply Kd.R_drew)); exact HO137.out) (by decide)) hk (fun _ h => h.2)) (fun _ h => h.1)); replace HB := Aside0.mk (hb); replace HI105 := Aside0.mk (hi); obtain ⟨Ao172, co172, eo172⟩ := Kd.R_slice HO137.out; subst eo172; have p140 : 0 ≤ (t138 : Int) := of_decide_eq_true (by first | (with_reducible assumption) | assumption); have q140 : t138 < (y135.length : Int) := of_decide_eq_true (by first | (with_reducible assumption) | assumption); obtain ⟨ad140, e140, hx140_0⟩ := Kd.at_int (Kd.R_reads' HO137.out).2.2 t138 p140 q140; cases e140; replace p140 := eq_true p140; replace q140 := eq_true q140; have hnb173 := NB125_101.out; have hnc173 := NB101_125.out; have hnb174 := NB125_102.out; have hnc174 := NB102_125.out; have hnb175 := NB125_116.out; have hnc175 := NB116_125.out; have hnb176 := NB125_105.out; have hnc176 := NB105_125.out; obtain ⟨⟨hcz177_0, hcz177_1, hcz177_2⟩, hfz177_0, hfz177_1, hfz177_2⟩ := bf3 BK125))
                                      have n0_ : Aside0 (Kd.R (Kd.int .i64) 2 (w171.setCell ⟨gb125, 1, none⟩ (.int .i64 (rd y135 t138))) w.heap.size (fun _ => True) (.slice (some ad140) y135.length co172) y135) := ⟨by (with_reducible repeat (first | apply Kd.R_alloc | apply Kd.R_drewN | apply Kd.R_drew)); exact Kd.R_mono (Kd.R_far (p := ⟨gb125, 1, none⟩) (Kd.R_types (by (with_reducible repeat (first | apply Kd.R_alloc | apply Kd.R_drewN | apply Kd.R_drew)); exact HO137.out) (kp BK125) (by decide)) (fun _ hk => hk.2) (.int .i64 (rd y135 t138))) (fun _ hk => trivial)⟩
                                      have n1_ : Aside0 ((w171.setCell ⟨gb125, 1, none⟩ (.int .i64 (rd y135 t138))).heap[gb101]? = some (.cells #[.int .i64 0, .int .i64 0, .string (⟨#[]⟩ : ByteArray)] 36 (0, 0))) := ⟨by (with_reducible repeat (first | refine blk_drewN ?_ _ | refine blk_drew ?_ | refine blk_alloc ?_ _)); refine blk_far ?_ NB101_125.out _; (with_reducible repeat (first | refine blk_drewN ?_ _ | refine blk_drew ?_ | refine blk_alloc ?_ _)); exact BK101.out⟩
                                      have n2_ : Aside0 ((w171.setCell ⟨gb125, 1, none⟩ (.int .i64 (rd y135 t138))).heap[gb102]? = some (.cells #[.int .i64 0, .int .i64 0, .string (⟨#[]⟩ : ByteArray)] 36 (0, 0))) := ⟨by (with_reducible repeat (first | refine blk_drewN ?_ _ | refine blk_drew ?_ | refine blk_alloc ?_ _)); refine blk_far ?_ NB102_125.out _; (with_reducible repeat (first | refine blk_drewN ?_ _ | refine blk_drew ?_ | refine blk_alloc ?_ _)); exact BK102.out⟩
                                      have n3_ : Aside0 ((w171.setCell ⟨gb125, 1, none⟩ (.int .i64 (rd y135 t138))).heap[gb116]? = some (.cells #[.int .i64 t112, .int .i64 t113, .string t114] 36 (0, 0))) := ⟨by (with_reducible repeat (first | refine blk_drewN ?_ _ | refine blk_drew ?_ | refine blk_alloc ?_ _)); refine blk_far ?_ NB116_125.out _; (with_reducible repeat (first | refine blk_drewN ?_ _ | refine blk_drew ?_ | refine blk_alloc ?_ _)); exact BK116.out⟩
                                      have n4_ : Aside0 ((w171.setCell ⟨gb125, 1, none⟩ (.int .i64 (rd y135 t138))).heap[gb125]? = some (.cells #[.int .i64 t121, .int .i64 (rd y135 t138), .string t123] 36 (0, 0))) := ⟨by (with_reducible repeat (first | refine blk_drewN ?_ _ | refine blk_drew ?_ | refine blk_alloc ?_ _)); refine blk_put (cs := #[.int .i64 t121, .int .i64 x126001_53, .string t123]) ?_ 1 _ rfl; (with_reducible repeat (first | refine blk_drewN ?_ _ | refine blk_drew ?_ | refine blk_alloc ?_ _)); exact BK125.out⟩
                                      have n5_ : Aside0 (IsS137 w (w171.setCell ⟨gb125, 1, none⟩ (.int .i64 (rd y135 t138))) g105 t103 t139) := ⟨by repeat (first | (with_reducible first | exact HI105.out | apply IsS137.alloc | apply IsS137.drewN | apply IsS137.drew | apply IsS137.set_1 | refine IsS137.far ?_ NB105_101.out _ | refine IsS137.far ?_ NB105_102.out _ | refine IsS137.far ?_ NB105_116.out _ | refine IsS137.far ?_ NB105_125.out _) | exact HI105.out)⟩
                                      have n6_ : Aside0 (Below w.heap.size w (w171.setCell ⟨gb125, 1, none⟩ (.int .i64 (rd y135 t138)))) := ⟨by repeat (first | (with_reducible first | exact HB.out | apply below_alloc | apply pw_below_drewN | apply below_drew1 | refine below_set ?_ (IsS137.ge HI105.out) | refine below_set ?_ GE101.out | refine below_set ?_ GE102.out | refine below_set ?_ GE116.out | refine below_set ?_ GE125.out) | exact HB.out)⟩
                                      (try clear HO137)
                                      (try clear BK101)
                                      (try clear BK102)
                                      (try clear BK116)
                                      (try clear BK125)
                                      (try clear HI105)
                                      (try clear HB)
                                      generalize (w171.setCell ⟨gb125, 1, none⟩ (.int .i64 (rd y135 t138))) = w178 at n0_ n1_ n2_ n3_ n4_ n5_ n6_ ⊢
                                      have HO137 := n0_
                                      have BK101 := n1_
                                      have BK102 := n2_
                                      have BK116 := n3_
                                      have BK125 := n4_
                                      have HI105 := n5_
                                      have HB := n6_
                                      clear n0_ n1_ n2_ n3_ n4_ n5_ n6_
                                      have n0_ := Aside0.mk (Kd.R_drew HO137.out)
                                      have n1_ := Aside0.mk (blk_drew BK101.out)
                                      have n2_ := Aside0.mk (blk_drew BK102.out)
                                      have n3_ := Aside0.mk (blk_drew BK116.out)
                                      have n4_ := Aside0.mk (blk_drew BK125.out)
                                      have n5_ := Aside0.mk (IsS137.drew HI105.out)
                                      have n6_ := Aside0.mk (below_drew1 HB.out)
                                      clear HO137
                                      clear BK101
                                      clear BK102
                                      clear BK116
                                      clear BK125
                                      clear HI105
                                      clear HB
                                      have HO137 := n0_
                                      have BK101 := n1_
                                      have BK102 := n2_
                                      have BK116 := n3_
                                      have BK125 := n4_
                                      have HI105 := n5_
                                      have HB := n6_
                                      clear n0_ n1_ n2_ n3_ n4_ n5_ n6_
                                      refine start_ (n := 7) (S := fun w' => w'.cell? ⟨gb125, 0, none⟩ = some (.int .i64 t121) ∧ w'.cell? ⟨gb125, 1, none⟩ = some (.int .i64 (rd y135 t138)) ∧ w'.cell? ⟨gb125, 2, none⟩ = some (.string t123)) (ds := []) #[false, false, false, false, false, false, false] (by kernel_rfl) rfl rfl ⟨(blk_cell BK125.out 0).trans rfl, (blk_cell BK125.out 1).trans rfl, (blk_cell BK125.out 2).trans rfl⟩ (fun hHeld => ?_)
                                      generalize w178.drew = w179 at HO137 BK101 BK102 BK116 BK125 HI105 HB hHeld ⊢
                                      refine pure_ (i := 0) (N := some 85) (v := ?_) (a' := ?_) #[true, false, false, false, false, false, false] rfl rfl (by kernel_rfl) (fun _ _ _ h => h) (Or.inl ⟨by rfl, ?_⟩) ?_ ?_
                                      rotate_left
                                      · intro w'
                                        go_simp
                                        with_reducible rfl
                                      rotate_left
                                      · simp only [Act.put, List.setIfInBounds_toArray, List.set_cons_zero, List.set_cons_succ, i64_w, i32_w]
                                        rfl
                                      refine pure_ (i := 2) (N := some 87) (v := ?_) (a' := ?_) #[true, false, true, false, false, false, false] rfl rfl (by kernel_rfl) (fun _ _ _ h => h) (Or.inl ⟨by rfl, ?_⟩) ?_ ?_
                                      rotate_left
                                      · intro w'
                                        go_simp
                                        with_reducible rfl
                                      rotate_left
                                      · simp only [Act.put, List.setIfInBounds_toArray, List.set_cons_zero, List.set_cons_succ, i64_w, i32_w]
                                        rfl
                                      refine take_ (i := 1) (N := some 86) (v := ?_) (a' := ?_) #[true, true, true, false, false, false, false] rfl rfl (by kernel_rfl) (fun _ _ _ h => h) (Or.inl ⟨by rfl, ?_⟩) hHeld ?_ ?_
                                      rotate_left
                                      · rintro w' ⟨s0, s1, s2⟩
                                        go_simp
                                        with_reducible rfl
                                      rotate_left
                                      · simp only [Act.put, List.setIfInBounds_toArray, List.set_cons_zero, List.set_cons_succ, i64_w, i32_w]
                                        rfl
                                      refine one_ (i := 3) (N := some 88) #[true, true, true, true, false, false, false] rfl rfl (by kernel_rfl) (by decide) (fun K hK => ?_)
                                      refine goes_ Try.func85 (by kernel_rfl) rfl #[.int .i64 x7_18] (by rfl) rfl rfl (by (try simp only [List.map_toArray, List.map_cons, List.map_nil]); first | done | rfl | (simp only [List.length_drop, List.length_take]; rfl)) ?_
                                      with_reducible refine (spec_l10Max.calls kj64 x7_18 t141 _ A100.out).mono ?_
                                      rintro e w' ⟨rfl, ⟨nd, rfl⟩⟩
                                      refine ⟨_, rfl, ?_⟩
                                      refine hK.out _ _ ⟨(blk_cell BK125.out 0).trans rfl, (blk_cell BK125.out 1).trans rfl, (blk_cell BK125.out 2).trans rfl⟩ (fun hHeld => ?_)
                                      clear hK K
                                      refine norm_ (a' := ?_) ?_ ?_
                                      rotate_left
                                      · show Act.put _ (some 88) _ = _
                                        simp only [Act.put, List.setIfInBounds_toArray, List.set_cons_zero, List.set_cons_succ, i64_w, i32_w]
                                        rfl
                                      refine pure_ (i := 4) (N := some 89) (v := ?_) (a' := ?_) #[true, true, true, true, true, false, false] rfl rfl (by kernel_rfl) (fun _ _ _ h => h) (Or.inl ⟨by rfl, ?_⟩) ?_ ?_
                                      rotate_left
                                      · intro w'
                                        go_simp
                                        with_reducible rfl
                                      rotate_left
                                      · simp only [Act.put, List.setIfInBounds_toArray, List.set_cons_zero, List.set_cons_succ, i64_w, i32_w]
                                        rfl
                                      refine pure_ (i := 5) (N := some 90) (v := ?_) (a' := ?_) #[true, true, true, true, true, true, false] rfl rfl (by kernel_rfl) (fun _ _ _ h => h) (Or.inl ⟨by rfl, ?_⟩) ?_ ?_
                                      rotate_left
                                      · intro w'
                                        go_simp
                                        with_reducible rfl
                                      rotate_left
                                      · simp only [Act.put, List.setIfInBounds_toArray, List.set_cons_zero, List.set_cons_succ, i64_w, i32_w]
                                        rfl
                                      refine pure_ (i := 6) (N := some 91) (v := ?_) (a' := ?_) #[true, true, true, true, true, true, true] rfl rfl (by kernel_rfl) (fun _ _ _ h => h) (Or.inl ⟨by rfl, ?_⟩) ?_ ?_
                                      rotate_left
                                      · intro w'
                                        go_simp
                                        with_reducible rfl
                                      rotate_left
                                      · simp only [Act.put, List.setIfInBounds_toArray, List.set_cons_zero, List.set_cons_succ, i64_w, i32_w]
                                        rfl
                                      refine done_ (by kernel_rfl) ?_
                                      try go_wp2_with (first | ((with_reducible refine gate_dst (N := 93) rfl ?_); refine Kd.R_lit (Kd.int .i64) _ 2 ?hg (N := 93) ?hd (xs := ([1, 5, 100] : List Int)) (inner := [.int .i64 1, .int .i64 5, .int .i64 100]) (ok := fun _ => True) (okp := fun _ => True) ?hr ?hp (fun _ hk => hk) trivial (Below.refl _ _) (Nat.le_refl _) (by simp) ?_; (case hd => rfl); (case hg => rfl); (case hr => first | (go_simp; done) | (go_simp; rfl)); (case hp => exact (Reps.one (show Kd.M (Kd.int .i64) _ _ _ 1 [.int .i64 1] from rfl) (Reps.one (show Kd.M (Kd.int .i64) _ _ _ 5 [.int .i64 5] from rfl) (Reps.one (show Kd.M (Kd.int .i64) _ _ _ 100 [.int .i64 100] from rfl) (Reps.none _ _))))); intro v149 w180 ho181 hb hg_ hnew_; clear hg_ hnew_; (first | rw [← Ny148.out] at ho181 | (simp only [Int.reduceToNat] at ho181; rw [← Ny148.out] at ho181)); have n0_ := Aside0.mk (Kd.R_elder' (by (with_reducible repeat (first | apply Kd.R_alloc | apply Kd.R_drewN | apply Kd.R_drew)); exact HO137.out) (Kd.R_base ho181) hb); have n1_ := Aside0.mk (Kd.R_lower (Kd.R_new' ho181 (Kd.R_lt (by (with_reducible repeat (first | apply Kd.R_alloc | apply Kd.R_drewN | apply Kd.R_drew)); exact HO137.out))) (below_size (by repeat (first | (with_reducible first | exact HB.out | apply below_alloc | apply pw_below_drewN | apply below_drew1 | refine below_set ?_ (IsS137.ge HI105.out) | refine below_set ?_ GE101.out | refine below_set ?_ GE102.out | refine below_set ?_ GE116.out | refine below_set ?_ GE125.out) | exact HB.out)))); have n2_ := kB BK101 hb; have n3_ := kB BK102 hb; have n4_ := kB BK116 hb; have n5_ := kB BK125 hb; have n6_ := Aside0.mk (IsS137.below (by repeat (first | (with_reducible first | exact HI105.out | apply IsS137.alloc | apply IsS137.drewN | apply IsS137.drew | apply IsS137.set_1 | refine IsS137.far ?_ NB105_101.out _ | refine IsS137.far ?_ NB105_102.out _ | refine IsS137.far ?_ NB105_116.out _ | refine IsS137.far ?_ NB105_125.out _) | exact HI105.out)) hb); have n7_ := Aside0.mk (below_step (by repeat (first | (with_reducible first | exact HB.out | apply below_alloc | apply pw_below_drewN | apply below_drew1 | refine below_set ?_ (IsS137.ge HI105.out) | refine below_set ?_ GE101.out | refine below_set ?_ GE102.out | refine below_set ?_ GE116.out | refine below_set ?_ GE125.out) | exact HB.out)) hb); clear HO137; clear BK101; clear BK102; clear BK116; clear BK125; clear HI105; clear HB; have HO137 := n0_; have HO150 := n1_; have BK101 := n2_; have BK102 := n3_; have BK116 := n4_; have BK125 := n5_; have HI105 := n6_; have HB := n7_; clear n0_ n1_ n2_ n3_ n4_ n5_ n6_ n7_; clear hb ho181) | ((with_reducible refine gate_callee (f := 83) rfl ?_); refine goesL_ (some 95) rfl rfl Try.func83 (by kernel_rfl) rfl #[.pointer (some ⟨g105, 0, none⟩), .int .i64 3] rfl (by (try simp only [List.map_toArray, List.map_cons, List.map_nil]); first | done | rfl | (simp only [List.length_drop, List.length_take]; rfl)) ?_; (with_reducible refine (spec_l10Rd_pick.calls kj64 g105 t103 t139 3 t151 t152 w _ ?side1 ?side2 A146.out).mono ?_); (case side1 => repeat (first | (with_reducible first | exact HI105.out | apply IsS137.alloc | apply IsS137.drewN | apply IsS137.drew | apply IsS137.set_1 | refine IsS137.far ?_ NB105_101.out _ | refine IsS137.far ?_ NB105_102.out _ | refine IsS137.far ?_ NB105_116.out _ | refine IsS137.far ?_ NB105_125.out _) | exact HI105.out)); (case side2 => repeat (first | (with_reducible first | exact HB.out | apply below_alloc | apply pw_below_drewN | apply below_drew1 | refine below_set ?_ (IsS137.ge HI105.out) | refine below_set ?_ GE101.out | refine below_set ?_ GE102.out | refine below_set ?_ GE116.out | refine below_set ?_ GE125.out) | exact HB.out)); rintro e w182 ⟨rfl, hi, hb, hk⟩; refine ⟨_, rfl, ?_⟩; replace BK101 := Aside0.mk (KeepBut.blk hk (g' := gb101) (o := .cells #[.int .i64 0, .int .i64 0, .string (⟨#[]⟩ : ByteArray)] 36 (0, 0)) (kp BK101) NB101_105.out (by simp)); replace BK102 := Aside0.mk (KeepBut.blk hk (g' := gb102) (o := .cells #[.int .i64 0, .int .i64 0, .string (⟨#[]⟩ : ByteArray)] 36 (0, 0)) (kp BK102) NB102_105.out (by simp)); replace BK116 := Aside0.mk (KeepBut.blk hk (g' := gb116) (o := .cells #[.int .i64 t112, .int .i64 t113, .string t114] 36 (0, 0)) (kp BK116) NB116_105.out (by simp)); replace BK125 := Aside0.mk (KeepBut.blk hk (g' := gb125) (o := .cells #[.int .i64 t121, .int .i64 (rd y135 t138), .string t123] 36 (0, 0)) (kp BK125) NB125_105.out (by simp)); replace HO137 := Aside0.mk (Kd.R_mono (Kd.R_keep (IsS137.apart (show IsS137 w _ g105 t103 t139 from by repeat (first | (with_reducible first | exact HI105.out | apply IsS137.alloc | apply IsS137.drewN | apply IsS137.drew | apply IsS137.set_1 | refine IsS137.far ?_ NB105_101.out _ | refine IsS137.far ?_ NB105_102.out _ | refine IsS137.far ?_ NB105_116.out _ | refine IsS137.far ?_ NB105_125.out _) | exact HI105.out)) (by (with_reducible repeat (first | apply Kd.R_alloc | apply Kd.R_drewN | apply Kd.R_drew)); exact HO137.out) (by decide)) hk (fun _ h => h.2)) (fun _ h => h.1)); replace HO150 := Aside0.mk (Kd.R_mono (Kd.R_keep (IsS137.apart (show IsS137 w _ g105 t103 t139 from by repeat (first | (with_reducible first | exact HI105.out | apply IsS137.alloc | apply IsS137.drewN | apply IsS137.drew | apply IsS137.set_1 | refine IsS137.far ?_ NB105_101.out _ | refine IsS137.far ?_ NB105_102.out _ | refine IsS137.far ?_ NB105_116.out _ | refine IsS137.far ?_ NB105_125.out _) | exact HI105.out)) (by (with_reducible repeat (first | apply Kd.R_alloc | apply Kd.R_drewN | apply Kd.R_drew)); exact HO150.out) (by decide)) hk (fun _ h => h.2)) (fun _ h => h.1)); replace HB := Aside0.mk (hb); replace HI105 := Aside0.mk (hi); obtain ⟨Ao183, co183, eo183⟩ := Kd.R_slice HO150.out; subst eo183; have p153 : 0 ≤ (t151 : Int) := of_decide_eq_true (by first | (with_reducible assumption) | assumption); have q153 : t151 < (y148.length : Int) := of_decide_eq_true (by first | (with_reducible assumption) | assumption); obtain ⟨ad153, e153, hx153_0⟩ := Kd.at_int (Kd.R_reads' HO150.out).2.2 t151 p153 q153; cases e153; replace p153 := eq_true p153; replace q153 := eq_true q153; have hnb184 := NB116_101.out; have hnc184 := NB101_116.out; have hnb185 := NB116_102.out; have hnc185 := NB102_116.out; have hnb186 := NB116_105.out; have hnc186 := NB105_116.out; obtain ⟨⟨hcz187_0, hcz187_1, hcz187_2⟩, hfz187_0, hfz187_1, hfz187_2⟩ := bf3 BK116))
                                      go_meet
                                      case rel => exact ⟨_, (t152), (rd y148 t151), (rd y135 t138), H', ⟨by have := HJ4.out; have := HJ18.out; have := HJ30.out; have := HJ53.out; have := HJ64.out; first | omega | exact Nat.le_refl _⟩, ⟨by (with_reducible repeat (first | refine blk_drewN ?_ _ | refine blk_drew ?_ | refine blk_alloc ?_ _)); refine blk_far ?_ NB101_116.out _; (with_reducible repeat (first | refine blk_drewN ?_ _ | refine blk_drew ?_ | refine blk_alloc ?_ _)); exact BK101.out⟩, ⟨by (with_reducible repeat (first | refine blk_drewN ?_ _ | refine blk_drew ?_ | refine blk_alloc ?_ _)); refine blk_far ?_ NB102_116.out _; (with_reducible repeat (first | refine blk_drewN ?_ _ | refine blk_drew ?_ | refine blk_alloc ?_ _)); exact BK102.out⟩, ⟨by (with_reducible repeat (first | refine blk_drewN ?_ _ | refine blk_drew ?_ | refine blk_alloc ?_ _)); refine blk_put (cs := #[.int .i64 t112, .int .i64 t113, .string t114]) ?_ 1 _ rfl; (with_reducible repeat (first | refine blk_drewN ?_ _ | refine blk_drew ?_ | refine blk_alloc ?_ _)); exact BK116.out⟩, ⟨by (with_reducible repeat (first | refine blk_drewN ?_ _ | refine blk_drew ?_ | refine blk_alloc ?_ _)); refine blk_far ?_ NB125_116.out _; (with_reducible repeat (first | refine blk_drewN ?_ _ | refine blk_drew ?_ | refine blk_alloc ?_ _)); exact BK125.out⟩, ⟨by repeat (first | (with_reducible first | exact HI105.out | apply IsS137.alloc | apply IsS137.drewN | apply IsS137.drew | apply IsS137.set_1 | refine IsS137.far ?_ NB105_101.out _ | refine IsS137.far ?_ NB105_102.out _ | refine IsS137.far ?_ NB105_116.out _ | refine IsS137.far ?_ NB105_125.out _) | exact HI105.out)⟩, ⟨by repeat (first | (with_reducible first | exact HB.out | apply below_alloc | apply pw_below_drewN | apply below_drew1 | refine below_set ?_ (IsS137.ge HI105.out) | refine below_set ?_ GE101.out | refine below_set ?_ GE102.out | refine below_set ?_ GE116.out | refine below_set ?_ GE125.out) | exact HB.out)⟩⟩
                                  · rw [if_neg c148] at H
                                    exact absurd H (by simp)
                                · rw [if_neg c147] at H
                                  exact absurd H (by simp)
                            · rw [if_neg c99] at H
                              exact absurd H (by simp)
                          · rw [if_neg c98] at H
                            exact absurd H (by simp)
                        · replace c96 := Bool.eq_false_iff.mpr c96
                          subst c96
                          have H1 : (spec_DrawMillBinary.j5 kj64 (wrap64 (1 + t106)) t103 x106001_64 t112 t113 t114 t121 x126001_53 t123) = some (r1, r2, r3, r4, r5, r6, r7) := by rw [if_neg (show ¬ (false = true) by decide)] at H; exact H
                          clear H
                          have H := H1
                          clear H1
                          have H' := Aside0.mk H
                          clear H
                          go_wp2
                          go_meet
                          case rel => exact ⟨_, (x106001_64), (t113), (x126001_53), H', ⟨by have := HJ4.out; have := HJ18.out; have := HJ30.out; have := HJ53.out; have := HJ64.out; first | omega | exact Nat.le_refl _⟩, ⟨kp BK101⟩, ⟨kp BK102⟩, ⟨kp BK116⟩, ⟨kp BK125⟩, ⟨by repeat (first | (with_reducible first | exact HI105.out | apply IsS137.alloc | apply IsS137.drewN | apply IsS137.drew | apply IsS137.set_1 | refine IsS137.far ?_ NB105_101.out _ | refine IsS137.far ?_ NB105_102.out _ | refine IsS137.far ?_ NB105_116.out _ | refine IsS137.far ?_ NB105_125.out _) | exact HI105.out)⟩, ⟨by repeat (first | (with_reducible first | exact HB.out | apply below_alloc | apply pw_below_drewN | apply below_drew1 | refine below_set ?_ (IsS137.ge HI105.out) | refine below_set ?_ GE101.out | refine below_set ?_ GE102.out | refine below_set ?_ GE116.out | refine below_set ?_ GE125.out) | exact HB.out)⟩⟩
                      case rest =>
                        clear HC95
                        obtain ⟨kq, x106001_94, x117001_94, x126001_94, HA, HJ94, BK101, BK102, BK116, BK125, HI105, HB⟩ := hcut
                        cases kq with
                        | zero => exact absurd HA.out (by simp [spec_DrawMillBinary.j5])
                        | succ kj94 =>
                          have H := HA.out
                          clear HA
                          simp only [spec_DrawMillBinary.j5] at H
                          have HC188 := Aside0.mk H
                          clear H
                          go_upto_region 21 with (fail)
                          go_cut [111] (fun v111 wc => ∃ (kq : Nat) (x111_187 : Bool) (x106001_187 : Int), v111 = .bool x111_187 ∧ Aside0 (spec_DrawMillBinary.j6 kq (wrap64 (1 + t106)) x111_187 t103 x106001_187 t112 x117001_94 t114 t121 x126001_94 t123 = some (r1, r2, r3, r4, r5, r6, r7)) ∧ Aside0 (kq ≤ kj94) ∧ Aside0 (wc.heap[gb101]? = some (.cells #[.int .i64 0, .int .i64 0, .string (⟨#[]⟩ : ByteArray)] 36 (0, 0))) ∧ Aside0 (wc.heap[gb102]? = some (.cells #[.int .i64 0, .int .i64 0, .string (⟨#[]⟩ : ByteArray)] 36 (0, 0))) ∧ Aside0 (wc.heap[gb116]? = some (.cells #[.int .i64 t112, .int .i64 x117001_94, .string t114] 36 (0, 0))) ∧ Aside0 (wc.heap[gb125]? = some (.cells #[.int .i64 t121, .int .i64 x126001_94, .string t123] 36 (0, 0))) ∧ Aside0 (IsS137 w wc g105 t103 x106001_187) ∧ Aside0 (Below w.heap.size w wc))
                          case first =>
                            have H := HC188.out
                            clear HC188
                            by_cases c189 : (wrap64 (1 + t106)) ≤ 8
                            · rw [if_pos c189] at H
                              have c189b0 : decide ((wrap64 (1 + t106)) ≤ 8) = true := decide_eq_true c189
                              clear c189
                              (first | rw [c189b0] | (simp only [i64_w, i32_w]; rw [c189b0]) | skip)
                              replace H := Option.bind_eq_some_iff.mp H
                              obtain ⟨⟨t154, t155⟩, A1900, H⟩ := H
                              replace H : (spec_DrawMillBinary.j6 kj94 (wrap64 (1 + t106)) (t154 == 0) t103 t155 t112 x117001_94 t114 t121 x126001_94 t123) = some (r1, r2, r3, r4, r5, r6, r7) := H
                              have A190 := Aside0.mk A1900
                              clear A1900
                              have H' := Aside0.mk H
                              clear H
                              go_wp2_with (first | (go_at_call 83; (with_reducible refine (spec_l10Rd_pick.calls kj94 g105 t103 x106001_94 4 t154 t155 w _ ?side1 ?side2 A190.out).mono ?_); (case side1 => repeat (first | (with_reducible first | exact HI105.out | apply IsS137.alloc | apply IsS137.drewN | apply IsS137.drew | apply IsS137.set_1 | refine IsS137.far ?_ NB105_101.out _ | refine IsS137.far ?_ NB105_102.out _ | refine IsS137.far ?_ NB105_116.out _ | refine IsS137.far ?_ NB105_125.out _) | exact HI105.out)); (case side2 => repeat (first | (with_reducible first | exact HB.out | apply below_alloc | apply pw_below_drewN | apply below_drew1 | refine below_set ?_ (IsS137.ge HI105.out) | refine below_set ?_ GE101.out | refine below_set ?_ GE102.out | refine below_set ?_ GE116.out | refine below_set ?_ GE125.out) | exact HB.out)); rintro e w191 ⟨rfl, hi, hb, hk⟩; replace BK101 := Aside0.mk (KeepBut.blk hk (g' := gb101) (o := .cells #[.int .i64 0, .int .i64 0, .string (⟨#[]⟩ : ByteArray)] 36 (0, 0)) (kp BK101) NB101_105.out (by simp)); replace BK102 := Aside0.mk (KeepBut.blk hk (g' := gb102) (o := .cells #[.int .i64 0, .int .i64 0, .string (⟨#[]⟩ : ByteArray)] 36 (0, 0)) (kp BK102) NB102_105.out (by simp)); replace BK116 := Aside0.mk (KeepBut.blk hk (g' := gb116) (o := .cells #[.int .i64 t112, .int .i64 x117001_94, .string t114] 36 (0, 0)) (kp BK116) NB116_105.out (by simp)); replace BK125 := Aside0.mk (KeepBut.blk hk (g' := gb125) (o := .cells #[.int .i64 t121, .int .i64 x126001_94, .string t123] 36 (0, 0)) (kp BK125) NB125_105.out (by simp)); replace HB := Aside0.mk (hb); replace HI105 := Aside0.mk (hi)))
                              go_meet
                              case rel => exact ⟨_, ((t154 == 0)), (t155), (by first | rfl | (simp; done) | (simp [*]; done)), H', ⟨by have := HJ4.out; have := HJ18.out; have := HJ30.out; have := HJ53.out; have := HJ64.out; have := HJ94.out; first | omega | exact Nat.le_refl _⟩, ⟨kp BK101⟩, ⟨kp BK102⟩, ⟨kp BK116⟩, ⟨kp BK125⟩, ⟨by repeat (first | (with_reducible first | exact HI105.out | apply IsS137.alloc | apply IsS137.drewN | apply IsS137.drew | apply IsS137.set_1 | refine IsS137.far ?_ NB105_101.out _ | refine IsS137.far ?_ NB105_102.out _ | refine IsS137.far ?_ NB105_116.out _ | refine IsS137.far ?_ NB105_125.out _) | exact HI105.out)⟩, ⟨by repeat (first | (with_reducible first | exact HB.out | apply below_alloc | apply pw_below_drewN | apply below_drew1 | refine below_set ?_ (IsS137.ge HI105.out) | refine below_set ?_ GE101.out | refine below_set ?_ GE102.out | refine below_set ?_ GE116.out | refine below_set ?_ GE125.out) | exact HB.out)⟩⟩
                            · rw [if_neg c189] at H
                              have c189b0 : decide ((wrap64 (1 + t106)) ≤ 8) = false := decide_eq_false c189
                              clear c189
                              (first | rw [c189b0] | (simp only [i64_w, i32_w]; rw [c189b0]) | skip)
                              have H' := Aside0.mk H
                              clear H
                              go_wp2
                              go_meet
                              case rel => exact ⟨_, (false), (x106001_94), (by first | rfl | (simp; done) | (simp [*]; done)), H', ⟨by have := HJ4.out; have := HJ18.out; have := HJ30.out; have := HJ53.out; have := HJ64.out; have := HJ94.out; first | omega | exact Nat.le_refl _⟩, ⟨kp BK101⟩, ⟨kp BK102⟩, ⟨kp BK116⟩, ⟨kp BK125⟩, ⟨by repeat (first | (with_reducible first | exact HI105.out | apply IsS137.alloc | apply IsS137.drewN | apply IsS137.drew | apply IsS137.set_1 | refine IsS137.far ?_ NB105_101.out _ | refine IsS137.far ?_ NB105_102.out _ | refine IsS137.far ?_ NB105_116.out _ | refine IsS137.far ?_ NB105_125.out _) | exact HI105.out)⟩, ⟨by repeat (first | (with_reducible first | exact HB.out | apply below_alloc | apply pw_below_drewN | apply below_drew1 | refine below_set ?_ (IsS137.ge HI105.out) | refine below_set ?_ GE101.out | refine below_set ?_ GE102.out | refine below_set ?_ GE116.out | refine below_set ?_ GE125.out) | exact HB.out)⟩⟩
                          case rest =>
                            clear HC188
                            obtain ⟨kq, x111_187, x106001_187, rfl, HA, HJ187, BK101, BK102, BK116, BK125, HI105, HB⟩ := hcut
                            cases kq with
                            | zero => exact absurd HA.out (by simp [spec_DrawMillBinary.j6])
                            | succ kj187 =>
                              have H := HA.out
                              clear HA
                              simp only [spec_DrawMillBinary.j6] at H
                              have HC192 := Aside0.mk H
                              clear H
                              go_upto_if 111 with (fail)
                              go_cut [] (fun wc => ∃ (kq : Nat) (x126000_191 : Int) (x126001_191 : Int) (x126002_191 : ByteArray), Aside0 (spec_DrawMillBinary.j7 kq (wrap64 (1 + t106)) t103 x106001_187 t112 x117001_94 t114 x126000_191 x126001_191 x126002_191 = some (r1, r2, r3, r4, r5, r6, r7)) ∧ Aside0 (kq ≤ kj187) ∧ Aside0 (wc.heap[gb101]? = some (.cells #[.int .i64 0, .int .i64 0, .string (⟨#[]⟩ : ByteArray)] 36 (0, 0))) ∧ Aside0 (wc.heap[gb102]? = some (.cells #[.int .i64 0, .int .i64 0, .string (⟨#[]⟩ : ByteArray)] 36 (0, 0))) ∧ Aside0 (wc.heap[gb116]? = some (.cells #[.int .i64 t112, .int .i64 x117001_94, .string t114] 36 (0, 0))) ∧ Aside0 (wc.heap[gb125]? = some (.cells #[.int .i64 x126000_191, .int .i64 x126001_191, .string x126002_191] 36 (0, 0))) ∧ Aside0 (IsS137 w wc g105 t103 x106001_187) ∧ Aside0 (Below w.heap.size w wc))
                              case first =>
                                have H := HC192.out
                                clear HC192
                                by_cases c193 : x111_187 = true
                                · subst c193
                                  have H1 : (spec_DrawMillBinary.j7 kj187 (wrap64 (1 + t106)) t103 x106001_187 t112 x117001_94 t114 t112 x117001_94 t114) = some (r1, r2, r3, r4, r5, r6, r7) := by rw [if_pos rfl] at H; exact H
                                  clear H
                                  have H := H1
                                  clear H1
                                  have H' := Aside0.mk H
                                  clear H
                                  have hnb194 := NB116_101.out
                                  have hnc194 := NB101_116.out
                                  have hnb195 := NB116_102.out
                                  have hnc195 := NB102_116.out
                                  have hnb196 := NB116_125.out
                                  have hnc196 := NB125_116.out
                                  have hnb197 := NB116_105.out
                                  have hnc197 := NB105_116.out
                                  obtain ⟨⟨hcz198_0, hcz198_1, hcz198_2⟩, hfz198_0, hfz198_1, hfz198_2⟩ := bf3 BK116
                                  have hnb199 := NB125_101.out
                                  have hnc199 := NB101_125.out
                                  have hnb200 := NB125_102.out
                                  have hnc200 := NB102_125.out
                                  have hnb201 := NB125_105.out
                                  have hnc201 := NB105_125.out
                                  obtain ⟨⟨hcz202_0, hcz202_1, hcz202_2⟩, hfz202_0, hfz202_1, hfz202_2⟩ := bf3 BK125
                                  go_wp2
                                  go_meet
                                  case rel => exact ⟨_, (t112), (x117001_94), (t114), H', ⟨by have := HJ4.out; have := HJ18.out; have := HJ30.out; have := HJ53.out; have := HJ64.out; have := HJ94.out; have := HJ187.out; first | omega | exact Nat.le_refl _⟩, ⟨by (with_reducible repeat (first | refine blk_drewN ?_ _ | refine blk_drew ?_ | refine blk_alloc ?_ _)); refine blk_far ?_ NB101_125.out _; (with_reducible repeat (first | refine blk_drewN ?_ _ | refine blk_drew ?_ | refine blk_alloc ?_ _)); refine blk_far ?_ NB101_125.out _; (with_reducible repeat (first | refine blk_drewN ?_ _ | refine blk_drew ?_ | refine blk_alloc ?_ _)); refine blk_far ?_ NB101_125.out _; (with_reducible repeat (first | refine blk_drewN ?_ _ | refine blk_drew ?_ | refine blk_alloc ?_ _)); exact BK101.out⟩, ⟨by (with_reducible repeat (first | refine blk_drewN ?_ _ | refine blk_drew ?_ | refine blk_alloc ?_ _)); refine blk_far ?_ NB102_125.out _; (with_reducible repeat (first | refine blk_drewN ?_ _ | refine blk_drew ?_ | refine blk_alloc ?_ _)); refine blk_far ?_ NB102_125.out _; (with_reducible repeat (first | refine blk_drewN ?_ _ | refine blk_drew ?_ | refine blk_alloc ?_ _)); refine blk_far ?_ NB102_125.out _; (with_reducible repeat (first | refine blk_drewN ?_ _ | refine blk_drew ?_ | refine blk_alloc ?_ _)); exact BK102.out⟩, ⟨by (with_reducible repeat (first | refine blk_drewN ?_ _ | refine blk_drew ?_ | refine blk_alloc ?_ _)); refine blk_far ?_ NB116_125.out _; (with_reducible repeat (first | refine blk_drewN ?_ _ | refine blk_drew ?_ | refine blk_alloc ?_ _)); refine blk_far ?_ NB116_125.out _; (with_reducible repeat (first | refine blk_drewN ?_ _ | refine blk_drew ?_ | refine blk_alloc ?_ _)); refine blk_far ?_ NB116_125.out _; (with_reducible repeat (first | refine blk_drewN ?_ _ | refine blk_drew ?_ | refine blk_alloc ?_ _)); exact BK116.out⟩, ⟨by (with_reducible repeat (first | refine blk_drewN ?_ _ | refine blk_drew ?_ | refine blk_alloc ?_ _)); refine blk_put (cs := #[.int .i64 t112, .int .i64 x117001_94, .string t123]) ?_ 2 _ rfl; (with_reducible repeat (first | refine blk_drewN ?_ _ | refine blk_drew ?_ | refine blk_alloc ?_ _)); refine blk_put (cs := #[.int .i64 t112, .int .i64 x126001_94, .string t123]) ?_ 1 _ rfl; (with_reducible repeat (first | refine blk_drewN ?_ _ | refine blk_drew ?_ | refine blk_alloc ?_ _)); refine blk_put (cs := #[.int .i64 t121, .int .i64 x126001_94, .string t123]) ?_ 0 _ rfl; (with_reducible repeat (first | refine blk_drewN ?_ _ | refine blk_drew ?_ | refine blk_alloc ?_ _)); exact BK125.out⟩, ⟨by repeat (first | (with_reducible first | exact HI105.out | apply IsS137.alloc | apply IsS137.drewN | apply IsS137.drew | apply IsS137.set_1 | refine IsS137.far ?_ NB105_101.out _ | refine IsS137.far ?_ NB105_102.out _ | refine IsS137.far ?_ NB105_116.out _ | refine IsS137.far ?_ NB105_125.out _) | exact HI105.out)⟩, ⟨by repeat (first | (with_reducible first | exact HB.out | apply below_alloc | apply pw_below_drewN | apply below_drew1 | refine below_set ?_ (IsS137.ge HI105.out) | refine below_set ?_ GE101.out | refine below_set ?_ GE102.out | refine below_set ?_ GE116.out | refine below_set ?_ GE125.out) | exact HB.out)⟩⟩
                                · replace c193 := Bool.eq_false_iff.mpr c193
                                  subst c193
                                  have H1 : (spec_DrawMillBinary.j7 kj187 (wrap64 (1 + t106)) t103 x106001_187 t112 x117001_94 t114 t121 x126001_94 t123) = some (r1, r2, r3, r4, r5, r6, r7) := by rw [if_neg (show ¬ (false = true) by decide)] at H; exact H
                                  clear H
                                  have H := H1
                                  clear H1
                                  have H' := Aside0.mk H
                                  clear H
                                  go_wp2
                                  go_meet
                                  case rel => exact ⟨_, (t121), (x126001_94), (t123), H', ⟨by have := HJ4.out; have := HJ18.out; have := HJ30.out; have := HJ53.out; have := HJ64.out; have := HJ94.out; have := HJ187.out; first | omega | exact Nat.le_refl _⟩, ⟨kp BK101⟩, ⟨kp BK102⟩, ⟨kp BK116⟩, ⟨kp BK125⟩, ⟨by repeat (first | (with_reducible first | exact HI105.out | apply IsS137.alloc | apply IsS137.drewN | apply IsS137.drew | apply IsS137.set_1 | refine IsS137.far ?_ NB105_101.out _ | refine IsS137.far ?_ NB105_102.out _ | refine IsS137.far ?_ NB105_116.out _ | refine IsS137.far ?_ NB105_125.out _) | exact HI105.out)⟩, ⟨by repeat (first | (with_reducible first | exact HB.out | apply below_alloc | apply pw_below_drewN | apply below_drew1 | refine below_set ?_ (IsS137.ge HI105.out) | refine below_set ?_ GE101.out | refine below_set ?_ GE102.out | refine below_set ?_ GE116.out | refine below_set ?_ GE125.out) | exact HB.out)⟩⟩
                              case rest =>
                                clear HC192
                                obtain ⟨kq, x126000_191, x126001_191, x126002_191, HA, HJ191, BK101, BK102, BK116, BK125, HI105, HB⟩ := hcut
                                cases kq with
                                | zero => exact absurd HA.out (by simp [spec_DrawMillBinary.j7])
                                | succ kj191 =>
                                  have H := HA.out
                                  clear HA
                                  simp only [spec_DrawMillBinary.j7] at H
                                  replace H := Option.bind_eq_some_iff.mp H
                                  obtain ⟨⟨t156, t157⟩, A2030, H⟩ := H
                                  replace H : (if t156 = 0 then ((spec_l10Rd_pick.f kj191 t103 t157 22).bind fun bt158 => (some (wrap64 (bt158.1 - 1), t112, x117001_94, t114, x126000_191, x126001_191, x126002_191))) else (some ((wrap64 (1 + t106)), t112, x117001_94, t114, x126000_191, x126001_191, x126002_191))) = some (r1, r2, r3, r4, r5, r6, r7) := H
                                  have A203 := Aside0.mk A2030
                                  clear A2030
                                  by_cases c204 : t156 = 0
                                  · rw [if_pos c204] at H
                                    have c204b0 : (t156 == 0) = true := beq_iff_eq.mpr c204
                                    have c204b1 : (t156 != 0) = false := bne_eq_false_iff_eq.mpr c204
                                    clear c204
                                    replace H := Option.bind_eq_some_iff.mp H
                                    obtain ⟨⟨t158, t159⟩, A2050, H⟩ := H
                                    replace H : (some (wrap64 (t158 - 1), t112, x117001_94, t114, x126000_191, x126001_191, x126002_191)) = some (r1, r2, r3, r4, r5, r6, r7) := H
                                    have A205 := Aside0.mk A2050
                                    clear A2050
                                    simp only [Option.some.injEq, Prod.mk.injEq] at H
                                    obtain ⟨rfl, rfl, rfl, rfl, rfl, rfl, rfl⟩ := H
                                    try go_wp2_with (first | ((with_reducible refine gate_callee (f := 83) rfl ?_); refine goesL_ (some 114) rfl rfl Try.func83 (by kernel_rfl) rfl #[.pointer (some ⟨g105, 0, none⟩), .int .i64 24] rfl (by (try simp only [List.map_toArray, List.map_cons, List.map_nil]); first | done | rfl | (simp only [List.length_drop, List.length_take]; rfl)) ?_; (with_reducible refine (spec_l10Rd_pick.calls kj191 g105 t103 x106001_187 24 t156 t157 w _ ?side1 ?side2 A203.out).mono ?_); (case side1 => repeat (first | (with_reducible first | exact HI105.out | apply IsS137.alloc | apply IsS137.drewN | apply IsS137.drew | apply IsS137.set_1 | refine IsS137.far ?_ NB105_101.out _ | refine IsS137.far ?_ NB105_102.out _ | refine IsS137.far ?_ NB105_116.out _ | refine IsS137.far ?_ NB105_125.out _) | exact HI105.out)); (case side2 => repeat (first | (with_reducible first | exact HB.out | apply below_alloc | apply pw_below_drewN | apply below_drew1 | refine below_set ?_ (IsS137.ge HI105.out) | refine below_set ?_ GE101.out | refine below_set ?_ GE102.out | refine below_set ?_ GE116.out | refine below_set ?_ GE125.out) | exact HB.out)); rintro e w206 ⟨rfl, hi, hb, hk⟩; refine ⟨_, rfl, ?_⟩; replace BK101 := Aside0.mk (KeepBut.blk hk (g' := gb101) (o := .cells #[.int .i64 0, .int .i64 0, .string (⟨#[]⟩ : ByteArray)] 36 (0, 0)) (kp BK101) NB101_105.out (by simp)); replace BK102 := Aside0.mk (KeepBut.blk hk (g' := gb102) (o := .cells #[.int .i64 0, .int .i64 0, .string (⟨#[]⟩ : ByteArray)] 36 (0, 0)) (kp BK102) NB102_105.out (by simp)); replace BK116 := Aside0.mk (KeepBut.blk hk (g' := gb116) (o := .cells #[.int .i64 t112, .int .i64 x117001_94, .string t114] 36 (0, 0)) (kp BK116) NB116_105.out (by simp)); replace BK125 := Aside0.mk (KeepBut.blk hk (g' := gb125) (o := .cells #[.int .i64 x126000_191, .int .i64 x126001_191, .string x126002_191] 36 (0, 0)) (kp BK125) NB125_105.out (by simp)); replace HB := Aside0.mk (hb); replace HI105 := Aside0.mk (hi)) | ((with_reducible refine gate_callee (f := 83) rfl ?_); refine goesL_ (some 117) rfl rfl Try.func83 (by kernel_rfl) rfl #[.pointer (some ⟨g105, 0, none⟩), .int .i64 22] rfl (by (try simp only [List.map_toArray, List.map_cons, List.map_nil]); first | done | rfl | (simp only [List.length_drop, List.length_take]; rfl)) ?_; (with_reducible refine (spec_l10Rd_pick.calls kj191 g105 t103 t157 22 t158 t159 w _ ?side1 ?side2 A205.out).mono ?_); (case side1 => repeat (first | (with_reducible first | exact HI105.out | apply IsS137.alloc | apply IsS137.drewN | apply IsS137.drew | apply IsS137.set_1 | refine IsS137.far ?_ NB105_101.out _ | refine IsS137.far ?_ NB105_102.out _ | refine IsS137.far ?_ NB105_116.out _ | refine IsS137.far ?_ NB105_125.out _) | exact HI105.out)); (case side2 => repeat (first | (with_reducible first | exact HB.out | apply below_alloc | apply pw_below_drewN | apply below_drew1 | refine below_set ?_ (IsS137.ge HI105.out) | refine below_set ?_ GE101.out | refine below_set ?_ GE102.out | refine below_set ?_ GE116.out | refine below_set ?_ GE125.out) | exact HB.out)); rintro e w207 ⟨rfl, hi, hb, hk⟩; refine ⟨_, rfl, ?_⟩; replace BK101 := Aside0.mk (KeepBut.blk hk (g' := gb101) (o := .cells #[.int .i64 0, .int .i64 0, .string (⟨#[]⟩ : ByteArray)] 36 (0, 0)) (kp BK101) NB101_105.out (by simp)); replace BK102 := Aside0.mk (KeepBut.blk hk (g' := gb102) (o := .cells #[.int .i64 0, .int .i64 0, .string (⟨#[]⟩ : ByteArray)] 36 (0, 0)) (kp BK102) NB102_105.out (by simp)); replace BK116 := Aside0.mk (KeepBut.blk hk (g' := gb116) (o := .cells #[.int .i64 t112, .int .i64 x117001_94, .string t114] 36 (0, 0)) (kp BK116) NB116_105.out (by simp)); replace BK125 := Aside0.mk (KeepBut.blk hk (g' := gb125) (o := .cells #[.int .i64 x126000_191, .int .i64 x126001_191, .string x126002_191] 36 (0, 0)) (kp BK125) NB125_105.out (by simp)); replace HB := Aside0.mk (hb); replace HI105 := Aside0.mk (hi)))
                                    have n0_ := Aside0.mk (blk_drew BK101.out)
                                    have n1_ := Aside0.mk (blk_drew BK102.out)
                                    have n2_ := Aside0.mk (blk_drew BK116.out)
                                    have n3_ := Aside0.mk (blk_drew BK125.out)
                                    have n4_ := Aside0.mk (IsS137.drew HI105.out)
                                    have n5_ := Aside0.mk (below_drew1 HB.out)
                                    clear BK101
                                    clear BK102
                                    clear BK116
                                    clear BK125
                                    clear HI105
                                    clear HB
                                    have BK101 := n0_
                                    have BK102 := n1_
                                    have BK116 := n2_
                                    have BK125 := n3_
                                    have HI105 := n4_
                                    have HB := n5_
                                    clear n0_ n1_ n2_ n3_ n4_ n5_
                                    refine start_ (n := 6) (S := fun w' => w'.cell? ⟨gb116, 0, none⟩ = some (.int .i64 t112) ∧ w'.cell? ⟨gb116, 1, none⟩ = some (.int .i64 x117001_94) ∧ w'.cell? ⟨gb116, 2, none⟩ = some (.string t114) ∧ w'.cell? ⟨gb125, 0, none⟩ = some (.int .i64 x126000_191) ∧ w'.cell? ⟨gb125, 1, none⟩ = some (.int .i64 x126001_191) ∧ w'.cell? ⟨gb125, 2, none⟩ = some (.string x126002_191)) (ds := []) #[false, false, false, false, false, false] (by kernel_rfl) rfl rfl ⟨(blk_cell BK116.out 0).trans rfl, (blk_cell BK116.out 1).trans rfl, (blk_cell BK116.out 2).trans rfl, (blk_cell BK125.out 0).trans rfl, (blk_cell BK125.out 1).trans rfl, (blk_cell BK125.out 2).trans rfl⟩ (fun hHeld => ?_)
                                    generalize w207.drew = w208 at BK101 BK102 BK116 BK125 HI105 HB hHeld ⊢
                                    refine pure_ (i := 0) (N := some 119) (v := ?_) (a' := ?_) #[true, false, false, false, false, false] rfl rfl (by kernel_rfl) (fun _ _ _ h => h) (Or.inl ⟨by rfl, ?_⟩) ?_ ?_
                                    rotate_left
                                    · intro w'
                                      go_simp
                                      with_reducible rfl
                                    rotate_left
                                    · simp only [Act.put, List.setIfInBounds_toArray, List.set_cons_zero, List.set_cons_succ, i64_w, i32_w]
                                      rfl
                                    refine pure_ (i := 3) (N := some 2) (v := ?_) (a' := ?_) #[true, false, false, true, false, false] rfl rfl (by kernel_rfl) (fun _ _ _ h => h) (Or.inl ⟨by rfl, ?_⟩) ?_ ?_
                                    rotate_left
                                    · intro w'
                                      go_simp
                                      with_reducible rfl
                                    rotate_left
                                    · simp only [Act.put, List.setIfInBounds_toArray, List.set_cons_zero, List.set_cons_succ, i64_w, i32_w]
                                      rfl
                                    refine take_ (i := 1) (N := some 120) (v := ?_) (a' := ?_) #[true, true, false, true, false, false] rfl rfl (by kernel_rfl) (fun _ _ _ h => h) (Or.inl ⟨by rfl, ?_⟩) hHeld ?_ ?_
                                    rotate_left
                                    · rintro w' ⟨s0, s1, s2, s3, s4, s5⟩
                                      go_simp
                                      with_reducible rfl
                                    rotate_left
                                    · simp only [Act.put, List.setIfInBounds_toArray, List.set_cons_zero, List.set_cons_succ, i64_w, i32_w]
                                      rfl
                                    refine take_ (i := 2) (N := some 121) (v := ?_) (a' := ?_) #[true, true, true, true, false, false] rfl rfl (by kernel_rfl) (fun _ _ _ h => h) (Or.inl ⟨by rfl, ?_⟩) hHeld ?_ ?_
                                    rotate_left
                                    · rintro w' ⟨s0, s1, s2, s3, s4, s5⟩
                                      go_simp
                                      with_reducible rfl
                                    rotate_left
                                    · simp only [Act.put, List.setIfInBounds_toArray, List.set_cons_zero, List.set_cons_succ, i64_w, i32_w]
                                      rfl
                                    refine one_ (i := 4) (N := none) #[true, true, true, true, true, false] rfl rfl (by kernel_rfl) (by decide) (fun K hK => ?_)
                                    have hs209 : w208.cell? ⟨gb101, 0, none⟩ = some (.int .i64 0) := (blk_cell BK101.out 0).trans rfl
                                    have hfs209 := blk_frozen BK101.out 0
                                    have hns209_1 := NB102_101.out
                                    have hns209_2 := NB116_101.out
                                    have hns209_3 := NB125_101.out
                                    have hms209_1 := NB101_102.out
                                    have hms209_2 := NB101_116.out
                                    have hms209_3 := NB101_125.out
                                    have hs210 : w208.cell? ⟨gb101, 1, none⟩ = some (.int .i64 0) := (blk_cell BK101.out 1).trans rfl
                                    have hfs210 := blk_frozen BK101.out 1
                                    have hns210_1 := NB102_101.out
                                    have hns210_2 := NB116_101.out
                                    have hns210_3 := NB125_101.out
                                    have hms210_1 := NB101_102.out
                                    have hms210_2 := NB101_116.out
                                    have hms210_3 := NB101_125.out
                                    have hs211 : w208.cell? ⟨gb101, 2, none⟩ = some (.string (⟨#[]⟩ : ByteArray)) := (blk_cell BK101.out 2).trans rfl
                                    have hfs211 := blk_frozen BK101.out 2
                                    have hns211_1 := NB102_101.out
                                    have hns211_2 := NB116_101.out
                                    have hns211_3 := NB125_101.out
                                    have hms211_1 := NB101_102.out
                                    have hms211_2 := NB101_116.out
                                    have hms211_3 := NB101_125.out
                                    refine skip_ (w1 := ?_) (by rfl) rfl ?_ ?_
                                    rotate_left
                                    · go_simp
                                      rfl
                                    refine hK.out _ _ ⟨((cell_far (p := ⟨gb101, _, none⟩) NB116_101.out _).trans (((cell_far (p := ⟨gb101, _, none⟩) NB116_101.out _).trans (((cell_far (p := ⟨gb101, _, none⟩) NB116_101.out _).trans (hHeld.1)))))), ((cell_far (p := ⟨gb101, _, none⟩) NB116_101.out _).trans (((cell_far (p := ⟨gb101, _, none⟩) NB116_101.out _).trans (((cell_far (p := ⟨gb101, _, none⟩) NB116_101.out _).trans (hHeld.2.1)))))), ((cell_far (p := ⟨gb101, _, none⟩) NB116_101.out _).trans (((cell_far (p := ⟨gb101, _, none⟩) NB116_101.out _).trans (((cell_far (p := ⟨gb101, _, none⟩) NB116_101.out _).trans (hHeld.2.2.1)))))), ((cell_far (p := ⟨gb101, _, none⟩) NB125_101.out _).trans (((cell_far (p := ⟨gb101, _, none⟩) NB125_101.out _).trans (((cell_far (p := ⟨gb101, _, none⟩) NB125_101.out _).trans (hHeld.2.2.2.1)))))), ((cell_far (p := ⟨gb101, _, none⟩) NB125_101.out _).trans (((cell_far (p := ⟨gb101, _, none⟩) NB125_101.out _).trans (((cell_far (p := ⟨gb101, _, none⟩) NB125_101.out _).trans (hHeld.2.2.2.2.1)))))), ((cell_far (p := ⟨gb101, _, none⟩) NB125_101.out _).trans (((cell_far (p := ⟨gb101, _, none⟩) NB125_101.out _).trans (((cell_far (p := ⟨gb101, _, none⟩) NB125_101.out _).trans (hHeld.2.2.2.2.2))))))⟩ (fun hHeld => ?_)
                                    clear hK K
                                    refine one_ (i := 5) (N := none) #[true, true, true, true, true, true] rfl rfl (by kernel_rfl) (by decide) (fun K hK => ?_)
                                    have hs212 : w208.cell? ⟨gb102, 0, none⟩ = some (.int .i64 0) := (blk_cell BK102.out 0).trans rfl
                                    have hfs212 := blk_frozen BK102.out 0
                                    have hns212_0 := NB101_102.out
                                    have hns212_2 := NB116_102.out
                                    have hns212_3 := NB125_102.out
                                    have hms212_0 := NB102_101.out
                                    have hms212_2 := NB102_116.out
                                    have hms212_3 := NB102_125.out
                                    have hs213 : w208.cell? ⟨gb102, 1, none⟩ = some (.int .i64 0) := (blk_cell BK102.out 1).trans rfl
                                    have hfs213 := blk_frozen BK102.out 1
                                    have hns213_0 := NB101_102.out
                                    have hns213_2 := NB116_102.out
                                    have hns213_3 := NB125_102.out
                                    have hms213_0 := NB102_101.out
                                    have hms213_2 := NB102_116.out
                                    have hms213_3 := NB102_125.out
                                    have hs214 : w208.cell? ⟨gb102, 2, none⟩ = some (.string (⟨#[]⟩ : ByteArray)) := (blk_cell BK102.out 2).trans rfl
                                    have hfs214 := blk_frozen BK102.out 2
                                    have hns214_0 := NB101_102.out
                                    have hns214_2 := NB116_102.out
                                    have hns214_3 := NB125_102.out
                                    have hms214_0 := NB102_101.out
                                    have hms214_2 := NB102_116.out
                                    have hms214_3 := NB102_125.out
                                    refine skip_ (w1 := ?_) (by rfl) rfl ?_ ?_
                                    rotate_left
                                    · go_simp
                                      rfl
                                    refine hK.out _ _ ⟨((cell_far (p := ⟨gb102, _, none⟩) NB116_102.out _).trans (((cell_far (p := ⟨gb102, _, none⟩) NB116_102.out _).trans (((cell_far (p := ⟨gb102, _, none⟩) NB116_102.out _).trans (hHeld.1)))))), ((cell_far (p := ⟨gb102, _, none⟩) NB116_102.out _).trans (((cell_far (p := ⟨gb102, _, none⟩) NB116_102.out _).trans (((cell_far (p := ⟨gb102, _, none⟩) NB116_102.out _).trans (hHeld.2.1)))))), ((cell_far (p := ⟨gb102, _, none⟩) NB116_102.out _).trans (((cell_far (p := ⟨gb102, _, none⟩) NB116_102.out _).trans (((cell_far (p := ⟨gb102, _, none⟩) NB116_102.out _).trans (hHeld.2.2.1)))))), ((cell_far (p := ⟨gb102, _, none⟩) NB125_102.out _).trans (((cell_far (p := ⟨gb102, _, none⟩) NB125_102.out _).trans (((cell_far (p := ⟨gb102, _, none⟩) NB125_102.out _).trans (hHeld.2.2.2.1)))))), ((cell_far (p := ⟨gb102, _, none⟩) NB125_102.out _).trans (((cell_far (p := ⟨gb102, _, none⟩) NB125_102.out _).trans (((cell_far (p := ⟨gb102, _, none⟩) NB125_102.out _).trans (hHeld.2.2.2.2.1)))))), ((cell_far (p := ⟨gb102, _, none⟩) NB125_102.out _).trans (((cell_far (p := ⟨gb102, _, none⟩) NB125_102.out _).trans (((cell_far (p := ⟨gb102, _, none⟩) NB125_102.out _).trans (hHeld.2.2.2.2.2))))))⟩ (fun hHeld => ?_)
                                    clear hK K
                                    refine done_ (by kernel_rfl) ?_
                                    try go_wp2
                                    refine bodyPost_ret (results_list (rs := [.tmp 2, .cell 3 36, .cell 4 36]) rfl (by simp) (.tmp (.cell gb101 36 #[.int .i64 t112, .int .i64 x117001_94, .string t114] (0, 0) _ rfl (by (with_reducible repeat (first | refine blk_drewN ?_ _ | refine blk_drew ?_ | refine blk_alloc ?_ _)); refine blk_far ?_ NB101_102.out _; (with_reducible repeat (first | refine blk_drewN ?_ _ | refine blk_drew ?_ | refine blk_alloc ?_ _)); refine blk_far ?_ NB101_102.out _; (with_reducible repeat (first | refine blk_drewN ?_ _ | refine blk_drew ?_ | refine blk_alloc ?_ _)); refine blk_far ?_ NB101_102.out _; (with_reducible repeat (first | refine blk_drewN ?_ _ | refine blk_drew ?_ | refine blk_alloc ?_ _)); refine blk_put (cs := #[.int .i64 t112, .int .i64 x117001_94, .string (⟨#[]⟩ : ByteArray)]) ?_ 2 _ rfl; (with_reducible repeat (first | refine blk_drewN ?_ _ | refine blk_drew ?_ | refine blk_alloc ?_ _)); refine blk_put (cs := #[.int .i64 t112, .int .i64 0, .string (⟨#[]⟩ : ByteArray)]) ?_ 1 _ rfl; (with_reducible repeat (first | refine blk_drewN ?_ _ | refine blk_drew ?_ | refine blk_alloc ?_ _)); refine blk_put (cs := #[.int .i64 0, .int .i64 0, .string (⟨#[]⟩ : ByteArray)]) ?_ 0 _ rfl; (with_reducible repeat (first | refine blk_drewN ?_ _ | refine blk_drew ?_ | refine blk_alloc ?_ _)); exact BK101.out) Try.underlying36 rfl (by kernel_rfl) (.cell gb102 36 #[.int .i64 x126000_191, .int .i64 x126001_191, .string x126002_191] (0, 0) _ rfl (by (with_reducible repeat (first | refine blk_drewN ?_ _ | refine blk_drew ?_ | refine blk_alloc ?_ _)); refine blk_put (cs := #[.int .i64 x126000_191, .int .i64 x126001_191, .string (⟨#[]⟩ : ByteArray)]) ?_ 2 _ rfl; (with_reducible repeat (first | refine blk_drewN ?_ _ | refine blk_drew ?_ | refine blk_alloc ?_ _)); refine blk_put (cs := #[.int .i64 x126000_191, .int .i64 0, .string (⟨#[]⟩ : ByteArray)]) ?_ 1 _ rfl; (with_reducible repeat (first | refine blk_drewN ?_ _ | refine blk_drew ?_ | refine blk_alloc ?_ _)); refine blk_put (cs := #[.int .i64 0, .int .i64 0, .string (⟨#[]⟩ : ByteArray)]) ?_ 0 _ rfl; (with_reducible repeat (first | refine blk_drewN ?_ _ | refine blk_drew ?_ | refine blk_alloc ?_ _)); refine blk_far ?_ NB102_101.out _; (with_reducible repeat (first | refine blk_drewN ?_ _ | refine blk_drew ?_ | refine blk_alloc ?_ _)); refine blk_far ?_ NB102_101.out _; (with_reducible repeat (first | refine blk_drewN ?_ _ | refine blk_drew ?_ | refine blk_alloc ?_ _)); refine blk_far ?_ NB102_101.out _; (with_reducible repeat (first | refine blk_drewN ?_ _ | refine blk_drew ?_ | refine blk_alloc ?_ _)); exact BK102.out) Try.underlying36 rfl (by kernel_rfl) .nil)))) rfl ?_
                                    exact ⟨by first | rfl | (simp [errW_none, errW_some] <;> rfl) | (simp [*, errW_none, errW_some] <;> rfl), by repeat (first | (with_reducible first | exact HB.out | apply below_alloc | apply pw_below_drewN | apply below_drew1 | refine below_set ?_ (IsS137.ge HI105.out) | refine below_set ?_ GE101.out | refine below_set ?_ GE102.out | refine below_set ?_ GE116.out | refine below_set ?_ GE125.out) | exact HB.out)⟩
                                  · rw [if_neg c204] at H
                                    have c204b0 : (t156 == 0) = false := beq_eq_false_iff_ne.mpr c204
                                    have c204b1 : (t156 != 0) = true := bne_iff_ne.mpr c204
                                    simp only [Option.some.injEq, Prod.mk.injEq] at H
                                    obtain ⟨rfl, rfl, rfl, rfl, rfl, rfl, rfl⟩ := H
                                    try go_wp2_with (first | ((with_reducible refine gate_callee (f := 83) rfl ?_); refine goesL_ (some 114) rfl rfl Try.func83 (by kernel_rfl) rfl #[.pointer (some ⟨g105, 0, none⟩), .int .i64 24] rfl (by (try simp only [List.map_toArray, List.map_cons, List.map_nil]); first | done | rfl | (simp only [List.length_drop, List.length_take]; rfl)) ?_; (with_reducible refine (spec_l10Rd_pick.calls kj191 g105 t103 x106001_187 24 t156 t157 w _ ?side1 ?side2 A203.out).mono ?_); (case side1 => repeat (first | (with_reducible first | exact HI105.out | apply IsS137.alloc | apply IsS137.drewN | apply IsS137.drew | apply IsS137.set_1 | refine IsS137.far ?_ NB105_101.out _ | refine IsS137.far ?_ NB105_102.out _ | refine IsS137.far ?_ NB105_116.out _ | refine IsS137.far ?_ NB105_125.out _) | exact HI105.out)); (case side2 => repeat (first | (with_reducible first | exact HB.out | apply below_alloc | apply pw_below_drewN | apply below_drew1 | refine below_set ?_ (IsS137.ge HI105.out) | refine below_set ?_ GE101.out | refine below_set ?_ GE102.out | refine below_set ?_ GE116.out | refine below_set ?_ GE125.out) | exact HB.out)); rintro e w215 ⟨rfl, hi, hb, hk⟩; refine ⟨_, rfl, ?_⟩; replace BK101 := Aside0.mk (KeepBut.blk hk (g' := gb101) (o := .cells #[.int .i64 0, .int .i64 0, .string (⟨#[]⟩ : ByteArray)] 36 (0, 0)) (kp BK101) NB101_105.out (by simp)); replace BK102 := Aside0.mk (KeepBut.blk hk (g' := gb102) (o := .cells #[.int .i64 0, .int .i64 0, .string (⟨#[]⟩ : ByteArray)] 36 (0, 0)) (kp BK102) NB102_105.out (by simp)); replace BK116 := Aside0.mk (KeepBut.blk hk (g' := gb116) (o := .cells #[.int .i64 t112, .int .i64 x117001_94, .string t114] 36 (0, 0)) (kp BK116) NB116_105.out (by simp)); replace BK125 := Aside0.mk (KeepBut.blk hk (g' := gb125) (o := .cells #[.int .i64 x126000_191, .int .i64 x126001_191, .string x126002_191] 36 (0, 0)) (kp BK125) NB125_105.out (by simp)); replace HB := Aside0.mk (hb); replace HI105 := Aside0.mk (hi)))
                                    have n0_ := Aside0.mk (blk_drew BK101.out)
                                    have n1_ := Aside0.mk (blk_drew BK102.out)
                                    have n2_ := Aside0.mk (blk_drew BK116.out)
                                    have n3_ := Aside0.mk (blk_drew BK125.out)
                                    have n4_ := Aside0.mk (IsS137.drew HI105.out)
                                    have n5_ := Aside0.mk (below_drew1 HB.out)
                                    clear BK101
                                    clear BK102
                                    clear BK116
                                    clear BK125
                                    clear HI105
                                    clear HB
                                    have BK101 := n0_
                                    have BK102 := n1_
                                    have BK116 := n2_
                                    have BK125 := n3_
                                    have HI105 := n4_
                                    have HB := n5_
                                    clear n0_ n1_ n2_ n3_ n4_ n5_
                                    refine start_ (n := 6) (S := fun w' => w'.cell? ⟨gb116, 0, none⟩ = some (.int .i64 t112) ∧ w'.cell? ⟨gb116, 1, none⟩ = some (.int .i64 x117001_94) ∧ w'.cell? ⟨gb116, 2, none⟩ = some (.string t114) ∧ w'.cell? ⟨gb125, 0, none⟩ = some (.int .i64 x126000_191) ∧ w'.cell? ⟨gb125, 1, none⟩ = some (.int .i64 x126001_191) ∧ w'.cell? ⟨gb125, 2, none⟩ = some (.string x126002_191)) (ds := []) #[false, false, false, false, false, false] (by kernel_rfl) rfl rfl ⟨(blk_cell BK116.out 0).trans rfl, (blk_cell BK116.out 1).trans rfl, (blk_cell BK116.out 2).trans rfl, (blk_cell BK125.out 0).trans rfl, (blk_cell BK125.out 1).trans rfl, (blk_cell BK125.out 2).trans rfl⟩ (fun hHeld => ?_)
                                    generalize w215.drew = w216 at BK101 BK102 BK116 BK125 HI105 HB hHeld ⊢
                                    refine pure_ (i := 0) (N := some 119) (v := ?_) (a' := ?_) #[true, false, false, false, false, false] rfl rfl (by kernel_rfl) (fun _ _ _ h => h) (Or.inl ⟨by rfl, ?_⟩) ?_ ?_
                                    rotate_left
                                    · intro w'
                                      go_simp
                                      with_reducible rfl
                                    rotate_left
                                    · simp only [Act.put, List.setIfInBounds_toArray, List.set_cons_zero, List.set_cons_succ, i64_w, i32_w]
                                      rfl
                                    refine pure_ (i := 3) (N := some 2) (v := ?_) (a' := ?_) #[true, false, false, true, false, false] rfl rfl (by kernel_rfl) (fun _ _ _ h => h) (Or.inl ⟨by rfl, ?_⟩) ?_ ?_
                                    rotate_left
                                    · intro w'
                                      go_simp
                                      with_reducible rfl
                                    rotate_left
                                    · simp only [Act.put, List.setIfInBounds_toArray, List.set_cons_zero, List.set_cons_succ, i64_w, i32_w]
                                      rfl
                                    refine take_ (i := 1) (N := some 120) (v := ?_) (a' := ?_) #[true, true, false, true, false, false] rfl rfl (by kernel_rfl) (fun _ _ _ h => h) (Or.inl ⟨by rfl, ?_⟩) hHeld ?_ ?_
                                    rotate_left
                                    · rintro w' ⟨s0, s1, s2, s3, s4, s5⟩
                                      go_simp
                                      with_reducible rfl
                                    rotate_left
                                    · simp only [Act.put, List.setIfInBounds_toArray, List.set_cons_zero, List.set_cons_succ, i64_w, i32_w]
                                      rfl
                                    refine take_ (i := 2) (N := some 121) (v := ?_) (a' := ?_) #[true, true, true, true, false, false] rfl rfl (by kernel_rfl) (fun _ _ _ h => h) (Or.inl ⟨by rfl, ?_⟩) hHeld ?_ ?_
                                    rotate_left
                                    · rintro w' ⟨s0, s1, s2, s3, s4, s5⟩
                                      go_simp
                                      with_reducible rfl
                                    rotate_left
                                    · simp only [Act.put, List.setIfInBounds_toArray, List.set_cons_zero, List.set_cons_succ, i64_w, i32_w]
                                      rfl
                                    refine one_ (i := 4) (N := none) #[true, true, true, true, true, false] rfl rfl (by kernel_rfl) (by decide) (fun K hK => ?_)
                                    have hs217 : w216.cell? ⟨gb101, 0, none⟩ = some (.int .i64 0) := (blk_cell BK101.out 0).trans rfl
                                    have hfs217 := blk_frozen BK101.out 0
                                    have hns217_1 := NB102_101.out
                                    have hns217_2 := NB116_101.out
                                    have hns217_3 := NB125_101.out
                                    have hms217_1 := NB101_102.out
                                    have hms217_2 := NB101_116.out
                                    have hms217_3 := NB101_125.out
                                    have hs218 : w216.cell? ⟨gb101, 1, none⟩ = some (.int .i64 0) := (blk_cell BK101.out 1).trans rfl
                                    have hfs218 := blk_frozen BK101.out 1
                                    have hns218_1 := NB102_101.out
                                    have hns218_2 := NB116_101.out
                                    have hns218_3 := NB125_101.out
                                    have hms218_1 := NB101_102.out
                                    have hms218_2 := NB101_116.out
                                    have hms218_3 := NB101_125.out
                                    have hs219 : w216.cell? ⟨gb101, 2, none⟩ = some (.string (⟨#[]⟩ : ByteArray)) := (blk_cell BK101.out 2).trans rfl
                                    have hfs219 := blk_frozen BK101.out 2
                                    have hns219_1 := NB102_101.out
                                    have hns219_2 := NB116_101.out
                                    have hns219_3 := NB125_101.out
                                    have hms219_1 := NB101_102.out
                                    have hms219_2 := NB101_116.out
                                    have hms219_3 := NB101_125.out
                                    refine skip_ (w1 := ?_) (by rfl) rfl ?_ ?_
                                    rotate_left
                                    · go_simp
                                      rfl
                                    refine hK.out _ _ ⟨((cell_far (p := ⟨gb101, _, none⟩) NB116_101.out _).trans (((cell_far (p := ⟨gb101, _, none⟩) NB116_101.out _).trans (((cell_far (p := ⟨gb101, _, none⟩) NB116_101.out _).trans (hHeld.1)))))), ((cell_far (p := ⟨gb101, _, none⟩) NB116_101.out _).trans (((cell_far (p := ⟨gb101, _, none⟩) NB116_101.out _).trans (((cell_far (p := ⟨gb101, _, none⟩) NB116_101.out _).trans (hHeld.2.1)))))), ((cell_far (p := ⟨gb101, _, none⟩) NB116_101.out _).trans (((cell_far (p := ⟨gb101, _, none⟩) NB116_101.out _).trans (((cell_far (p := ⟨gb101, _, none⟩) NB116_101.out _).trans (hHeld.2.2.1)))))), ((cell_far (p := ⟨gb101, _, none⟩) NB125_101.out _).trans (((cell_far (p := ⟨gb101, _, none⟩) NB125_101.out _).trans (((cell_far (p := ⟨gb101, _, none⟩) NB125_101.out _).trans (hHeld.2.2.2.1)))))), ((cell_far (p := ⟨gb101, _, none⟩) NB125_101.out _).trans (((cell_far (p := ⟨gb101, _, none⟩) NB125_101.out _).trans (((cell_far (p := ⟨gb101, _, none⟩) NB125_101.out _).trans (hHeld.2.2.2.2.1)))))), ((cell_far (p := ⟨gb101, _, none⟩) NB125_101.out _).trans (((cell_far (p := ⟨gb101, _, none⟩) NB125_101.out _).trans (((cell_far (p := ⟨gb101, _, none⟩) NB125_101.out _).trans (hHeld.2.2.2.2.2))))))⟩ (fun hHeld => ?_)
                                    clear hK K
                                    refine one_ (i := 5) (N := none) #[true, true, true, true, true, true] rfl rfl (by kernel_rfl) (by decide) (fun K hK => ?_)
                                    have hs220 : w216.cell? ⟨gb102, 0, none⟩ = some (.int .i64 0) := (blk_cell BK102.out 0).trans rfl
                                    have hfs220 := blk_frozen BK102.out 0
                                    have hns220_0 := NB101_102.out
                                    have hns220_2 := NB116_102.out
                                    have hns220_3 := NB125_102.out
                                    have hms220_0 := NB102_101.out
                                    have hms220_2 := NB102_116.out
                                    have hms220_3 := NB102_125.out
                                    have hs221 : w216.cell? ⟨gb102, 1, none⟩ = some (.int .i64 0) := (blk_cell BK102.out 1).trans rfl
                                    have hfs221 := blk_frozen BK102.out 1
                                    have hns221_0 := NB101_102.out
                                    have hns221_2 := NB116_102.out
                                    have hns221_3 := NB125_102.out
                                    have hms221_0 := NB102_101.out
                                    have hms221_2 := NB102_116.out
                                    have hms221_3 := NB102_125.out
                                    have hs222 : w216.cell? ⟨gb102, 2, none⟩ = some (.string (⟨#[]⟩ : ByteArray)) := (blk_cell BK102.out 2).trans rfl
                                    have hfs222 := blk_frozen BK102.out 2
                                    have hns222_0 := NB101_102.out
                                    have hns222_2 := NB116_102.out
                                    have hns222_3 := NB125_102.out
                                    have hms222_0 := NB102_101.out
                                    have hms222_2 := NB102_116.out
                                    have hms222_3 := NB102_125.out
                                    refine skip_ (w1 := ?_) (by rfl) rfl ?_ ?_
                                    rotate_left
                                    · go_simp
                                      rfl
                                    refine hK.out _ _ ⟨((cell_far (p := ⟨gb102, _, none⟩) NB116_102.out _).trans (((cell_far (p := ⟨gb102, _, none⟩) NB116_102.out _).trans (((cell_far (p := ⟨gb102, _, none⟩) NB116_102.out _).trans (hHeld.1)))))), ((cell_far (p := ⟨gb102, _, none⟩) NB116_102.out _).trans (((cell_far (p := ⟨gb102, _, none⟩) NB116_102.out _).trans (((cell_far (p := ⟨gb102, _, none⟩) NB116_102.out _).trans (hHeld.2.1)))))), ((cell_far (p := ⟨gb102, _, none⟩) NB116_102.out _).trans (((cell_far (p := ⟨gb102, _, none⟩) NB116_102.out _).trans (((cell_far (p := ⟨gb102, _, none⟩) NB116_102.out _).trans (hHeld.2.2.1)))))), ((cell_far (p := ⟨gb102, _, none⟩) NB125_102.out _).trans (((cell_far (p := ⟨gb102, _, none⟩) NB125_102.out _).trans (((cell_far (p := ⟨gb102, _, none⟩) NB125_102.out _).trans (hHeld.2.2.2.1)))))), ((cell_far (p := ⟨gb102, _, none⟩) NB125_102.out _).trans (((cell_far (p := ⟨gb102, _, none⟩) NB125_102.out _).trans (((cell_far (p := ⟨gb102, _, none⟩) NB125_102.out _).trans (hHeld.2.2.2.2.1)))))), ((cell_far (p := ⟨gb102, _, none⟩) NB125_102.out _).trans (((cell_far (p := ⟨gb102, _, none⟩) NB125_102.out _).trans (((cell_far (p := ⟨gb102, _, none⟩) NB125_102.out _).trans (hHeld.2.2.2.2.2))))))⟩ (fun hHeld => ?_)
                                    clear hK K
                                    refine done_ (by kernel_rfl) ?_
                                    try go_wp2
                                    refine bodyPost_ret (results_list (rs := [.tmp 2, .cell 3 36, .cell 4 36]) rfl (by simp) (.tmp (.cell gb101 36 #[.int .i64 t112, .int .i64 x117001_94, .string t114] (0, 0) _ rfl (by (with_reducible repeat (first | refine blk_drewN ?_ _ | refine blk_drew ?_ | refine blk_alloc ?_ _)); refine blk_far ?_ NB101_102.out _; (with_reducible repeat (first | refine blk_drewN ?_ _ | refine blk_drew ?_ | refine blk_alloc ?_ _)); refine blk_far ?_ NB101_102.out _; (with_reducible repeat (first | refine blk_drewN ?_ _ | refine blk_drew ?_ | refine blk_alloc ?_ _)); refine blk_far ?_ NB101_102.out _; (with_reducible repeat (first | refine blk_drewN ?_ _ | refine blk_drew ?_ | refine blk_alloc ?_ _)); refine blk_put (cs := #[.int .i64 t112, .int .i64 x117001_94, .string (⟨#[]⟩ : ByteArray)]) ?_ 2 _ rfl; (with_reducible repeat (first | refine blk_drewN ?_ _ | refine blk_drew ?_ | refine blk_alloc ?_ _)); refine blk_put (cs := #[.int .i64 t112, .int .i64 0, .string (⟨#[]⟩ : ByteArray)]) ?_ 1 _ rfl; (with_reducible repeat (first | refine blk_drewN ?_ _ | refine blk_drew ?_ | refine blk_alloc ?_ _)); refine blk_put (cs := #[.int .i64 0, .int .i64 0, .string (⟨#[]⟩ : ByteArray)]) ?_ 0 _ rfl; (with_reducible repeat (first | refine blk_drewN ?_ _ | refine blk_drew ?_ | refine blk_alloc ?_ _)); exact BK101.out) Try.underlying36 rfl (by kernel_rfl) (.cell gb102 36 #[.int .i64 x126000_191, .int .i64 x126001_191, .string x126002_191] (0, 0) _ rfl (by (with_reducible repeat (first | refine blk_drewN ?_ _ | refine blk_drew ?_ | refine blk_alloc ?_ _)); refine blk_put (cs := #[.int .i64 x126000_191, .int .i64 x126001_191, .string (⟨#[]⟩ : ByteArray)]) ?_ 2 _ rfl; (with_reducible repeat (first | refine blk_drewN ?_ _ | refine blk_drew ?_ | refine blk_alloc ?_ _)); refine blk_put (cs := #[.int .i64 x126000_191, .int .i64 0, .string (⟨#[]⟩ : ByteArray)]) ?_ 1 _ rfl; (with_reducible repeat (first | refine blk_drewN ?_ _ | refine blk_drew ?_ | refine blk_alloc ?_ _)); refine blk_put (cs := #[.int .i64 0, .int .i64 0, .string (⟨#[]⟩ : ByteArray)]) ?_ 0 _ rfl; (with_reducible repeat (first | refine blk_drewN ?_ _ | refine blk_drew ?_ | refine blk_alloc ?_ _)); refine blk_far ?_ NB102_101.out _; (with_reducible repeat (first | refine blk_drewN ?_ _ | refine blk_drew ?_ | refine blk_alloc ?_ _)); refine blk_far ?_ NB102_101.out _; (with_reducible repeat (first | refine blk_drewN ?_ _ | refine blk_drew ?_ | refine blk_alloc ?_ _)); refine blk_far ?_ NB102_101.out _; (with_reducible repeat (first | refine blk_drewN ?_ _ | refine blk_drew ?_ | refine blk_alloc ?_ _)); exact BK102.out) Try.underlying36 rfl (by kernel_rfl) .nil)))) rfl ?_
                                    exact ⟨by first | rfl | (simp [errW_none, errW_some] <;> rfl) | (simp [*, errW_none, errW_some] <;> rfl), by repeat (first | (with_reducible first | exact HB.out | apply below_alloc | apply pw_below_drewN | apply below_drew1 | refine below_set ?_ (IsS137.ge HI105.out) | refine below_set ?_ GE101.out | refine below_set ?_ GE102.out | refine below_set ?_ GE116.out | refine below_set ?_ GE125.out) | exact HB.out)⟩
end Go.Proofs.Ytdpdpigaegabbaa.Q
end
