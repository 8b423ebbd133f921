/- Several texts of this seat put together by merge.py, without what this claim does not use. -/
import Derived.Test.YtnffcpajfojajaaQmFnExactMillLay1
import Derived.Test.YtnffcpajfojajaaQmFnExactMillLay2
import Derived.Test.YtnffcpajfojajaaQmFnExactMillLay3
import Derived.Test.YtnffcpajfojajaaQmFnExactMillLayWWords
import Derived.Test.YtnffcpajfojajaaQmFnExactMillLayWLast
import Derived.Test.YtnffcpajfojajaaQmFnExactMillLayWMore
import Derived.WalkKit
import Derived.ProofKit
import Derived.OpenShut
import Derived.ShutString
import Derived.SizedLaws
import Derived.ChangeArms
section
namespace Go.Proofs.Ytnffcpajfojajaa.Q
open Go.RowKit Go.Proofs.YtnffcpajfojajaaW.PrintWords Go.Proofs.YtnffcpajfojajaaW.PrintLast Go.Proofs.YtnffcpajfojajaaW.PrintMore Go.Proofs.Ytnffcpajfojajaa.Short
attribute [local go_sem] max2_int min2_int max_two min_two max_three min_three max_four min_four   
set_option linter.unusedVariables false
set_option linter.unusedSimpArgs false
mutual
def laws_FnExactMillLay.j0 : Nat → List (S49) → Int → List (S52) → Int → Bool → List (S49) → List (S52) → List (S52) → List (S52) → Option (Bool)
  | 0, _, _, _, _, _, _, _, _, _ => none
  | k + 1, x1, x7, x9, x11, x53, x102000, x115000, x119000, x127000 => if x53 = true then (some false) else ((laws_toMillPlace.f k x102000).bind fun t128 => ((laws_eqMillPlace.f k x119000 t128).bind fun t131 => (if t131 = true then ((laws_toMillFileS.f k x1).bind fun t132 => ((laws_eqMillFileS.f k x9 t132).bind fun t135 => (if t135 = true then ((laws_markMillPlace.f k x119000 1).bind fun bt136 => ((laws_markMillFileS.f k x9 bt136.1).bind fun bt138 => (if bt138.1 < 0 then (laws_FnExactMillLay.j1 k x1 x7 true x102000 x115000 x127000) else ((laws_eqMillPlace.f k x127000 x115000).bind fun t140 => (if t140 = true then (laws_FnExactMillLay.j1 k x1 x7 (x11 != x7) x102000 x115000 x127000) else (laws_FnExactMillLay.j1 k x1 x7 true x102000 x115000 x127000)))))) else (some false)))) else (some false))))
def laws_FnExactMillLay.j1 : Nat → List (S49) → Int → Bool → List (S49) → List (S52) → List (S52) → Option (Bool)
  | 0, _, _, _, _, _, _ => none
  | k + 1, x1, x7, x82, x102000, x115000, x127000 => if x82 = true then (some false) else ((laws_markMillPlace.f k x127000 1).bind fun bt141 => ((laws_heldMillPlace.f k bt141.2 1).bind fun t143 => (if t143 < 0 then (some false) else (if t143 = bt141.1 then ((laws_toMillPlace.f k x102000).bind fun t144 => ((laws_toMillFileS.f k x1).bind fun t147 => ((impl_MillLay.f k t144 t147).bind fun bt150 => ((laws_eqMillPlace.f k bt150.1 x115000).bind fun t155 => (if t155 = true then (laws_FnExactMillLay.j2 k bt141.1 (bt150.2 != x7) bt141.2) else (laws_FnExactMillLay.j2 k bt141.1 true bt141.2)))))) else (some false)))))
def laws_FnExactMillLay.j2 : Nat → Int → Bool → List (S52) → Option (Bool)
  | 0, _, _, _ => none
  | k + 1, x13, x110, x127000 => if x110 = true then (some false) else ((laws_heldMillPlace.f k x127000 1).bind fun t156 => (if t156 < 0 then (some false) else (if t156 = x13 then (some true) else (some false))))
end
def laws_FnExactMillLay.f (k : Nat) (l0_0 : List (S49)) (l1 : List (S49)) : Option (Bool) := (laws_szMillPlace.f k l0_0 1048576).bind fun t102 => (if t102 < 0 then (some true) else ((laws_szMillFileS.f k l1 t102).bind fun t103 => (if t103 < 0 then (some true) else ((laws_toMillPlace.f k l0_0).bind fun t104 => ((laws_toMillFileS.f k l1).bind fun t107 => ((spec_MillLay.f k t104 t107).bind fun bt110 => ((laws_toMillPlace.f k l0_0).bind fun t115 => ((laws_toMillFileS.f k l1).bind fun t119 => ((impl_MillLay.f k t115 t119).bind fun bt122 => ((laws_eqMillPlace.f k bt122.1 bt110.1).bind fun t127 => (if t127 = true then (laws_FnExactMillLay.j0 k l1 bt110.2 t119 bt122.2 (bt122.2 != bt110.2) l0_0 bt110.1 t115 bt122.1) else (laws_FnExactMillLay.j0 k l1 bt110.2 t119 bt122.2 true l0_0 bt110.1 t115 bt122.1))))))))))))
theorem laws_FnExactMillLay.mono_l : ∀ k, (∀ y0 y1 y2 y3 y4 y5 y6 y7 y8, LeO (laws_FnExactMillLay.j0 k y0 y1 y2 y3 y4 y5 y6 y7 y8) (laws_FnExactMillLay.j0 (k + 1) y0 y1 y2 y3 y4 y5 y6 y7 y8)) ∧ (∀ y0 y1 y2 y3 y4 y5, LeO (laws_FnExactMillLay.j1 k y0 y1 y2 y3 y4 y5) (laws_FnExactMillLay.j1 (k + 1) y0 y1 y2 y3 y4 y5)) ∧ (∀ y0 y1 y2, LeO (laws_FnExactMillLay.j2 k y0 y1 y2) (laws_FnExactMillLay.j2 (k + 1) y0 y1 y2))
  | 0 => ⟨fun _ _ _ _ _ _ _ _ _ r h => by simp [laws_FnExactMillLay.j0] at h, fun _ _ _ _ _ _ r h => by simp [laws_FnExactMillLay.j1] at h, fun _ _ _ r h => by simp [laws_FnExactMillLay.j2] at h⟩
  | k + 1 => by
    obtain ⟨ih0, ih1, ih2⟩ := laws_FnExactMillLay.mono_l k
    refine ⟨?_, ?_, ?_⟩
    · intro y0 y1 y2 y3 y4 y5 y6 y7 y8
      unfold laws_FnExactMillLay.j0
      repeat' first
      | (with_reducible exact ih0 _ _ _ _ _ _ _ _ _)
      | (with_reducible exact ih1 _ _ _ _ _ _)
      | (with_reducible exact ih2 _ _ _)
      | (with_reducible exact impl_MillLay.mono _ _ _)
      | (with_reducible exact laws_eqMillFileS.mono _ _ _)
      | (with_reducible exact laws_eqMillPlace.mono _ _ _)
      | (with_reducible exact laws_heldMillPlace.mono _ _ _)
      | (with_reducible exact laws_markMillFileS.mono _ _ _)
      | (with_reducible exact laws_markMillPlace.mono _ _ _)
      | (with_reducible exact laws_szMillFileS.mono _ _ _)
      | (with_reducible exact laws_szMillPlace.mono _ _ _)
      | (with_reducible exact laws_toMillFileS.mono _ _)
      | (with_reducible exact laws_toMillPlace.mono _ _)
      | (with_reducible exact spec_MillLay.mono _ _ _)
      | (with_reducible exact LeO.refl _)
      | (with_reducible exact LeO.none _)
      | (with_reducible refine LeO.ite ?_ ?_)
      | (with_reducible refine LeO.bind ?_ (fun _ => ?_))
      | exact ih0 _ _ _ _ _ _ _ _ _
      | exact ih1 _ _ _ _ _ _
      | exact ih2 _ _ _
      | exact impl_MillLay.mono _ _ _
      | exact laws_eqMillFileS.mono _ _ _
      | exact laws_eqMillPlace.mono _ _ _
      | exact laws_heldMillPlace.mono _ _ _
      | exact laws_markMillFileS.mono _ _ _
      | exact laws_markMillPlace.mono _ _ _
      | exact laws_szMillFileS.mono _ _ _
      | exact laws_szMillPlace.mono _ _ _
      | exact laws_toMillFileS.mono _ _
      | exact laws_toMillPlace.mono _ _
      | exact spec_MillLay.mono _ _ _
      | exact LeO.none _
      | refine LeO.ite ?_ ?_
      | refine LeO.bind ?_ (fun _ => ?_)
    · intro y0 y1 y2 y3 y4 y5
      unfold laws_FnExactMillLay.j1
      repeat' first
      | (with_reducible exact ih0 _ _ _ _ _ _ _ _ _)
      | (with_reducible exact ih1 _ _ _ _ _ _)
      | (with_reducible exact ih2 _ _ _)
      | (with_reducible exact impl_MillLay.mono _ _ _)
      | (with_reducible exact laws_eqMillFileS.mono _ _ _)
      | (with_reducible exact laws_eqMillPlace.mono _ _ _)
      | (with_reducible exact laws_heldMillPlace.mono _ _ _)
      | (with_reducible exact laws_markMillFileS.mono _ _ _)
      | (with_reducible exact laws_markMillPlace.mono _ _ _)
      | (with_reducible exact laws_szMillFileS.mono _ _ _)
      | (with_reducible exact laws_szMillPlace.mono _ _ _)
      | (with_reducible exact laws_toMillFileS.mono _ _)
      | (with_reducible exact laws_toMillPlace.mono _ _)
      | (with_reducible exact spec_MillLay.mono _ _ _)
      | (with_reducible exact LeO.refl _)
      | (with_reducible exact LeO.none _)
      | (with_reducible refine LeO.ite ?_ ?_)
      | (with_reducible refine LeO.bind ?_ (fun _ => ?_))
      | exact ih0 _ _ _ _ _ _ _ _ _
      | exact ih1 _ _ _ _ _ _
      | exact ih2 _ _ _
      | exact impl_MillLay.mono _ _ _
      | exact laws_eqMillFileS.mono _ _ _
      | exact laws_eqMillPlace.mono _ _ _
      | exact laws_heldMillPlace.mono _ _ _
      | exact laws_markMillFileS.mono _ _ _
      | exact laws_markMillPlace.mono _ _ _
      | exact laws_szMillFileS.mono _ _ _
      | exact laws_szMillPlace.mono _ _ _
      | exact laws_toMillFileS.mono _ _
      | exact laws_toMillPlace.mono _ _
      | exact spec_MillLay.mono _ _ _
      | exact LeO.none _
      | refine LeO.ite ?_ ?_
      | refine LeO.bind ?_ (fun _ => ?_)
    · intro y0 y1 y2
      unfold laws_FnExactMillLay.j2
      repeat' first
      | (with_reducible exact ih0 _ _ _ _ _ _ _ _ _)
      | (with_reducible exact ih1 _ _ _ _ _ _)
      | (with_reducible exact ih2 _ _ _)
      | (with_reducible exact impl_MillLay.mono _ _ _)
      | (with_reducible exact laws_eqMillFileS.mono _ _ _)
      | (with_reducible exact laws_eqMillPlace.mono _ _ _)
      | (with_reducible exact laws_heldMillPlace.mono _ _ _)
      | (with_reducible exact laws_markMillFileS.mono _ _ _)
      | (with_reducible exact laws_markMillPlace.mono _ _ _)
      | (with_reducible exact laws_szMillFileS.mono _ _ _)
      | (with_reducible exact laws_szMillPlace.mono _ _ _)
      | (with_reducible exact laws_toMillFileS.mono _ _)
      | (with_reducible exact laws_toMillPlace.mono _ _)
      | (with_reducible exact spec_MillLay.mono _ _ _)
      | (with_reducible exact LeO.refl _)
      | (with_reducible exact LeO.none _)
      | (with_reducible refine LeO.ite ?_ ?_)
      | (with_reducible refine LeO.bind ?_ (fun _ => ?_))
      | exact ih0 _ _ _ _ _ _ _ _ _
      | exact ih1 _ _ _ _ _ _
      | exact ih2 _ _ _
      | exact impl_MillLay.mono _ _ _
      | exact laws_eqMillFileS.mono _ _ _
      | exact laws_eqMillPlace.mono _ _ _
      | exact laws_heldMillPlace.mono _ _ _
      | exact laws_markMillFileS.mono _ _ _
      | exact laws_markMillPlace.mono _ _ _
      | exact laws_szMillFileS.mono _ _ _
      | exact laws_szMillPlace.mono _ _ _
      | exact laws_toMillFileS.mono _ _
      | exact laws_toMillPlace.mono _ _
      | exact spec_MillLay.mono _ _ _
      | exact LeO.none _
      | refine LeO.ite ?_ ?_
      | refine LeO.bind ?_ (fun _ => ?_)
theorem laws_FnExactMillLay.mono : ∀ a0 a1 k, LeO (laws_FnExactMillLay.f k a0 a1) (laws_FnExactMillLay.f (k + 1) a0 a1) := by
  intro a0 a1 k
  obtain ⟨ih0, ih1, ih2⟩ := laws_FnExactMillLay.mono_l k
  unfold laws_FnExactMillLay.f
  repeat' first
      | (with_reducible exact ih0 _ _ _ _ _ _ _ _ _)
      | (with_reducible exact ih1 _ _ _ _ _ _)
      | (with_reducible exact ih2 _ _ _)
      | (with_reducible exact impl_MillLay.mono _ _ _)
      | (with_reducible exact laws_eqMillFileS.mono _ _ _)
      | (with_reducible exact laws_eqMillPlace.mono _ _ _)
      | (with_reducible exact laws_heldMillPlace.mono _ _ _)
      | (with_reducible exact laws_markMillFileS.mono _ _ _)
      | (with_reducible exact laws_markMillPlace.mono _ _ _)
      | (with_reducible exact laws_szMillFileS.mono _ _ _)
      | (with_reducible exact laws_szMillPlace.mono _ _ _)
      | (with_reducible exact laws_toMillFileS.mono _ _)
      | (with_reducible exact laws_toMillPlace.mono _ _)
      | (with_reducible exact spec_MillLay.mono _ _ _)
      | (with_reducible exact LeO.refl _)
      | (with_reducible exact LeO.none _)
      | (with_reducible refine LeO.ite ?_ ?_)
      | (with_reducible refine LeO.bind ?_ (fun _ => ?_))
      | exact ih0 _ _ _ _ _ _ _ _ _
      | exact ih1 _ _ _ _ _ _
      | exact ih2 _ _ _
      | exact impl_MillLay.mono _ _ _
      | exact laws_eqMillFileS.mono _ _ _
      | exact laws_eqMillPlace.mono _ _ _
      | exact laws_heldMillPlace.mono _ _ _
      | exact laws_markMillFileS.mono _ _ _
      | exact laws_markMillPlace.mono _ _ _
      | exact laws_szMillFileS.mono _ _ _
      | exact laws_szMillPlace.mono _ _ _
      | exact laws_toMillFileS.mono _ _
      | exact laws_toMillPlace.mono _ _
      | exact spec_MillLay.mono _ _ _
      | exact LeO.none _
      | refine LeO.ite ?_ ?_
      | refine LeO.bind ?_ (fun _ => ?_)
set_option maxHeartbeats 8000000 in
set_option maxRecDepth 100000 in
theorem laws_FnExactMillLay.calls (k : Nat) (A0_0 : Option Addr) (c0_0 : Nat) (l0_0 : List (S49)) (A1 : Option Addr) (c1 : Nat) (l1 : List (S49)) (r : Bool) (w : World) (hr0_0 : Kd.C k49 w A0_0 l0_0.length l0_0) (hc0_0 : l0_0.length ≤ c0_0) (hr1 : Kd.C k49 w A1 l1.length l1) (hc1 : l1.length ≤ c1) (h : laws_FnExactMillLay.f k l0_0 l1 = some r) :
    Calls Try.prog 3 #[.agg #[.slice A0_0 l0_0.length c0_0], .slice A1 l1.length c1] w fun e w' => e = .returned (.bool r) ∧ Below w.heap.size w w' := by
  have hu24 := Try.underlying24
  have hu29 := Try.underlying29
  have HR0_0 := Aside0.mk hr0_0
  have HC0_0 := Aside0.mk hc0_0
  clear hr0_0 hc0_0
  have HR1 := Aside0.mk hr1
  have HC1 := Aside0.mk hc1
  clear hr1 hc1
  have HB := Aside0.mk (Below.refl w.heap.size w)
  have H : ((laws_szMillPlace.f k l0_0 1048576).bind fun t102 => (if t102 < 0 then (some true) else ((laws_szMillFileS.f k l1 t102).bind fun t103 => (if t103 < 0 then (some true) else ((laws_toMillPlace.f k l0_0).bind fun t104 => ((laws_toMillFileS.f k l1).bind fun t107 => ((spec_MillLay.f k t104 t107).bind fun bt110 => ((laws_toMillPlace.f k l0_0).bind fun t115 => ((laws_toMillFileS.f k l1).bind fun t119 => ((impl_MillLay.f k t115 t119).bind fun bt122 => ((laws_eqMillPlace.f k bt122.1 bt110.1).bind fun t127 => (if t127 = true then (laws_FnExactMillLay.j0 k l1 bt110.2 t119 bt122.2 (bt122.2 != bt110.2) l0_0 bt110.1 t115 bt122.1) else (laws_FnExactMillLay.j0 k l1 bt110.2 t119 bt122.2 true l0_0 bt110.1 t115 bt122.1))))))))))))) = some r := h
  clear h
  replace H := Option.bind_eq_some_iff.mp H
  obtain ⟨t102, A30, H⟩ := H
  replace H : (if t102 < 0 then (some true) else ((laws_szMillFileS.f k l1 t102).bind fun t103 => (if t103 < 0 then (some true) else ((laws_toMillPlace.f k l0_0).bind fun t104 => ((laws_toMillFileS.f k l1).bind fun t107 => ((spec_MillLay.f k t104 t107).bind fun bt110 => ((laws_toMillPlace.f k l0_0).bind fun t115 => ((laws_toMillFileS.f k l1).bind fun t119 => ((impl_MillLay.f k t115 t119).bind fun bt122 => ((laws_eqMillPlace.f k bt122.1 bt110.1).bind fun t127 => (if t127 = true then (laws_FnExactMillLay.j0 k l1 bt110.2 t119 bt122.2 (bt122.2 != bt110.2) l0_0 bt110.1 t115 bt122.1) else (laws_FnExactMillLay.j0 k l1 bt110.2 t119 bt122.2 true l0_0 bt110.1 t115 bt122.1)))))))))))) = some r := H
  have A3 := Aside0.mk A30
  clear A30
  by_cases c4 : t102 < 0
  · rw [if_pos c4] at H
    have c4b0 : decide (t102 < 0) = true := decide_eq_true c4
    clear c4
    obtain rfl := Option.some.inj H
    go_enter Try.func3, Try.ntmps3
    go_wp2_with (first | ((with_reducible refine gate_dst (N := 2) rfl ?_); refine gX 2 #[.slice A0_0 l0_0.length c0_0] 24 ?_; intro gb101 hg w5 hbox hb; have BK101 := Aside0.mk (hbox); have GW101 := gw hg (kb HB); have GE101 := gw hg (kb HB); replace HB := kS HB hb; clear hb hbox hg; obtain ⟨hcz6_0, hfz6_0⟩ := bf1 BK101) | ((with_reducible refine gate_callee (f := 5) rfl ?_); refine gL (some 19) Try.func5 #[.agg #[.slice A0_0 l0_0.length c0_0], .int .i64 1048576] (laws_szMillPlace.calls k _ _ l0_0 1048576 t102 _ ?side1 ?side2 A3.out) ?_; (case side1 => repeat (first | exact (Kd.C_below HR0_0.out HB.out) | (with_reducible refine Kd.C_alloc ?_ _) | (with_reducible refine Kd.C_drewN ?_ _) | (with_reducible refine Kd.C_drew ?_))); (case side2 => exact HC0_0.out); intro w7 hb; replace BK101 := kB BK101 hb; replace HB := kS HB hb))
    go_ret
    exact ⟨by first | rfl | (simp [errW_none, errW_some] <;> rfl) | (simp [*, errW_none, errW_some] <;> rfl), kb HB⟩
  · rw [if_neg c4] at H
    have c4b0 : decide (t102 < 0) = false := decide_eq_false c4
    clear c4
    replace H := Option.bind_eq_some_iff.mp H
    obtain ⟨t103, A80, H⟩ := H
    replace H : (if t103 < 0 then (some true) else ((laws_toMillPlace.f k l0_0).bind fun t104 => ((laws_toMillFileS.f k l1).bind fun t107 => ((spec_MillLay.f k t104 t107).bind fun bt110 => ((laws_toMillPlace.f k l0_0).bind fun t115 => ((laws_toMillFileS.f k l1).bind fun t119 => ((impl_MillLay.f k t115 t119).bind fun bt122 => ((laws_eqMillPlace.f k bt122.1 bt110.1).bind fun t127 => (if t127 = true then (laws_FnExactMillLay.j0 k l1 bt110.2 t119 bt122.2 (bt122.2 != bt110.2) l0_0 bt110.1 t115 bt122.1) else (laws_FnExactMillLay.j0 k l1 bt110.2 t119 bt122.2 true l0_0 bt110.1 t115 bt122.1)))))))))) = some r := H
    have A8 := Aside0.mk A80
    clear A80
    by_cases c9 : t103 < 0
    · rw [if_pos c9] at H
      have c9b0 : decide (t103 < 0) = true := decide_eq_true c9
      clear c9
      obtain rfl := Option.some.inj H
      go_enter Try.func3, Try.ntmps3
      go_wp2_with (first | ((with_reducible refine gate_dst (N := 2) rfl ?_); refine gX 2 #[.slice A0_0 l0_0.length c0_0] 24 ?_; intro gb101 hg w10 hbox hb; have BK101 := Aside0.mk (hbox); have GW101 := gw hg (kb HB); have GE101 := gw hg (kb HB); replace HB := kS HB hb; clear hb hbox hg; obtain ⟨hcz11_0, hfz11_0⟩ := bf1 BK101) | ((with_reducible refine gate_callee (f := 5) rfl ?_); refine gL (some 19) Try.func5 #[.agg #[.slice A0_0 l0_0.length c0_0], .int .i64 1048576] (laws_szMillPlace.calls k _ _ l0_0 1048576 t102 _ ?side1 ?side2 A3.out) ?_; (case side1 => repeat (first | exact (Kd.C_below HR0_0.out HB.out) | (with_reducible refine Kd.C_alloc ?_ _) | (with_reducible refine Kd.C_drewN ?_ _) | (with_reducible refine Kd.C_drew ?_))); (case side2 => exact HC0_0.out); intro w12 hb; replace BK101 := kB BK101 hb; replace HB := kS HB hb) | ((with_reducible refine gate_callee (f := 6) rfl ?_); refine gL (some 24) Try.func6 #[.slice A1 l1.length c1, .int .i64 t102] (laws_szMillFileS.calls k _ _ l1 t102 t103 _ ?side1 ?side2 A8.out) ?_; (case side1 => repeat (first | exact (Kd.C_below HR1.out HB.out) | (with_reducible refine Kd.C_alloc ?_ _) | (with_reducible refine Kd.C_drewN ?_ _) | (with_reducible refine Kd.C_drew ?_))); (case side2 => exact HC1.out); intro w13 hb; replace BK101 := kB BK101 hb; replace HB := kS HB hb))
      go_ret
      exact ⟨by first | rfl | (simp [errW_none, errW_some] <;> rfl) | (simp [*, errW_none, errW_some] <;> rfl), kb HB⟩
    · rw [if_neg c9] at H
      have c9b0 : decide (t103 < 0) = false := decide_eq_false c9
      clear c9
      replace H := Option.bind_eq_some_iff.mp H
      obtain ⟨t104, A140, H⟩ := H
      replace H : ((laws_toMillFileS.f k l1).bind fun t107 => ((spec_MillLay.f k t104 t107).bind fun bt110 => ((laws_toMillPlace.f k l0_0).bind fun t115 => ((laws_toMillFileS.f k l1).bind fun t119 => ((impl_MillLay.f k t115 t119).bind fun bt122 => ((laws_eqMillPlace.f k bt122.1 bt110.1).bind fun t127 => (if t127 = true then (laws_FnExactMillLay.j0 k l1 bt110.2 t119 bt122.2 (bt122.2 != bt110.2) l0_0 bt110.1 t115 bt122.1) else (laws_FnExactMillLay.j0 k l1 bt110.2 t119 bt122.2 true l0_0 bt110.1 t115 bt122.1)))))))) = some r := H
      have A14 := Aside0.mk A140
      clear A140
      replace H := Option.bind_eq_some_iff.mp H
      obtain ⟨t107, A150, H⟩ := H
      replace H : ((spec_MillLay.f k t104 t107).bind fun bt110 => ((laws_toMillPlace.f k l0_0).bind fun t115 => ((laws_toMillFileS.f k l1).bind fun t119 => ((impl_MillLay.f k t115 t119).bind fun bt122 => ((laws_eqMillPlace.f k bt122.1 bt110.1).bind fun t127 => (if t127 = true then (laws_FnExactMillLay.j0 k l1 bt110.2 t119 bt122.2 (bt122.2 != bt110.2) l0_0 bt110.1 t115 bt122.1) else (laws_FnExactMillLay.j0 k l1 bt110.2 t119 bt122.2 true l0_0 bt110.1 t115 bt122.1))))))) = some r := H
      have A15 := Aside0.mk A150
      clear A150
      replace H := Option.bind_eq_some_iff.mp H
      obtain ⟨⟨t110, t113⟩, A160, H⟩ := H
      replace H : ((laws_toMillPlace.f k l0_0).bind fun t115 => ((laws_toMillFileS.f k l1).bind fun t119 => ((impl_MillLay.f k t115 t119).bind fun bt122 => ((laws_eqMillPlace.f k bt122.1 t110).bind fun t127 => (if t127 = true then (laws_FnExactMillLay.j0 k l1 t113 t119 bt122.2 (bt122.2 != t113) l0_0 t110 t115 bt122.1) else (laws_FnExactMillLay.j0 k l1 t113 t119 bt122.2 true l0_0 t110 t115 bt122.1)))))) = some r := H
      have A16 := Aside0.mk A160
      clear A160
      replace H := Option.bind_eq_some_iff.mp H
      obtain ⟨t115, A170, H⟩ := H
      replace H : ((laws_toMillFileS.f k l1).bind fun t119 => ((impl_MillLay.f k t115 t119).bind fun bt122 => ((laws_eqMillPlace.f k bt122.1 t110).bind fun t127 => (if t127 = true then (laws_FnExactMillLay.j0 k l1 t113 t119 bt122.2 (bt122.2 != t113) l0_0 t110 t115 bt122.1) else (laws_FnExactMillLay.j0 k l1 t113 t119 bt122.2 true l0_0 t110 t115 bt122.1))))) = some r := H
      have A17 := Aside0.mk A170
      clear A170
      replace H := Option.bind_eq_some_iff.mp H
      obtain ⟨t119, A180, H⟩ := H
      replace H : ((impl_MillLay.f k t115 t119).bind fun bt122 => ((laws_eqMillPlace.f k bt122.1 t110).bind fun t127 => (if t127 = true then (laws_FnExactMillLay.j0 k l1 t113 t119 bt122.2 (bt122.2 != t113) l0_0 t110 t115 bt122.1) else (laws_FnExactMillLay.j0 k l1 t113 t119 bt122.2 true l0_0 t110 t115 bt122.1)))) = some r := H
      have A18 := Aside0.mk A180
      clear A180
      replace H := Option.bind_eq_some_iff.mp H
      obtain ⟨⟨t122, t125⟩, A190, H⟩ := H
      replace H : ((laws_eqMillPlace.f k t122 t110).bind fun t127 => (if t127 = true then (laws_FnExactMillLay.j0 k l1 t113 t119 t125 (t125 != t113) l0_0 t110 t115 t122) else (laws_FnExactMillLay.j0 k l1 t113 t119 t125 true l0_0 t110 t115 t122))) = some r := H
      have A19 := Aside0.mk A190
      clear A190
      have HC20 := Aside0.mk H
      clear H
      go_enter Try.func3, Try.ntmps3
      go_upto_region 12 with (first | ((with_reducible refine gate_dst (N := 2) rfl ?_); refine gX 2 #[.slice A0_0 l0_0.length c0_0] 24 ?_; intro gb101 hg w21 hbox hb; have BK101 := Aside0.mk (hbox); have GW101 := gw hg (kb HB); have GE101 := gw hg (kb HB); replace HB := kS HB hb; clear hb hbox hg; obtain ⟨hcz22_0, hfz22_0⟩ := bf1 BK101) | ((with_reducible refine gate_callee (f := 5) rfl ?_); refine gL (some 19) Try.func5 #[.agg #[.slice A0_0 l0_0.length c0_0], .int .i64 1048576] (laws_szMillPlace.calls k _ _ l0_0 1048576 t102 _ ?side1 ?side2 A3.out) ?_; (case side1 => repeat (first | exact (Kd.C_below HR0_0.out HB.out) | (with_reducible refine Kd.C_alloc ?_ _) | (with_reducible refine Kd.C_drewN ?_ _) | (with_reducible refine Kd.C_drew ?_))); (case side2 => exact HC0_0.out); intro w23 hb; replace BK101 := kB BK101 hb; replace HB := kS HB hb) | ((with_reducible refine gate_callee (f := 6) rfl ?_); refine gL (some 24) Try.func6 #[.slice A1 l1.length c1, .int .i64 t102] (laws_szMillFileS.calls k _ _ l1 t102 t103 _ ?side1 ?side2 A8.out) ?_; (case side1 => repeat (first | exact (Kd.C_below HR1.out HB.out) | (with_reducible refine Kd.C_alloc ?_ _) | (with_reducible refine Kd.C_drewN ?_ _) | (with_reducible refine Kd.C_drew ?_))); (case side2 => exact HC1.out); intro w24 hb; replace BK101 := kB BK101 hb; replace HB := kS HB hb; obtain ⟨hcz25_0, hfz25_0⟩ := bf1 BK101) | ((with_reducible refine gate_callee (f := 8) rfl ?_); refine goesL_ (some 29) rfl rfl Try.func8 (by kernel_rfl) rfl #[.agg #[.slice A0_0 l0_0.length c0_0]] rfl (by (try simp only [List.map_toArray, List.map_cons, List.map_nil]); first | done | rfl | (simp only [List.length_drop, List.length_take]; rfl)) ?_; (with_reducible refine (laws_toMillPlace.calls k _ _ l0_0 t104 _ ?side1 ?side2 A14.out).mono ?_); (case side1 => repeat (first | exact (Kd.C_below HR0_0.out HB.out) | (with_reducible refine Kd.C_alloc ?_ _) | (with_reducible refine Kd.C_drewN ?_ _) | (with_reducible refine Kd.C_drew ?_))); (case side2 => exact HC0_0.out); rintro e w26 ⟨v105, rfl, ho0, hb⟩; refine ⟨_, rfl, ?_⟩; have HO106 := Aside0.mk (Kd.R_lower ho0 (below_size (kb HB))); replace BK101 := kB BK101 hb; replace HB := kS HB hb; (try clear ho0)) | ((with_reducible refine gate_callee (f := 9) rfl ?_); refine goesL_ (some 31) rfl rfl Try.func9 (by kernel_rfl) rfl #[.slice A1 l1.length c1] rfl (by (try simp only [List.map_toArray, List.map_cons, List.map_nil]); first | done | rfl | (simp only [List.length_drop, List.length_take]; rfl)) ?_; (with_reducible refine (laws_toMillFileS.calls k _ _ l1 t107 _ ?side1 ?side2 A15.out).mono ?_); (case side1 => repeat (first | exact (Kd.C_below HR1.out HB.out) | (with_reducible refine Kd.C_alloc ?_ _) | (with_reducible refine Kd.C_drewN ?_ _) | (with_reducible refine Kd.C_drew ?_))); (case side2 => exact HC1.out); rintro e w27 ⟨v108, rfl, ho0, hb⟩; refine ⟨_, rfl, ?_⟩; have HO109 := Aside0.mk (Kd.R_lower (Kd.R_new' ho0 (Kd.R_lt (by (with_reducible repeat (first | apply Kd.R_alloc | apply Kd.R_drewN | apply Kd.R_drew)); exact HO106.out))) (below_size (kb HB))); replace HO106 := Aside0.mk (Kd.R_elder' (by (with_reducible repeat (first | apply Kd.R_alloc | apply Kd.R_drewN | apply Kd.R_drew)); exact HO106.out) (Kd.R_base ho0) hb); replace BK101 := kB BK101 hb; replace HB := kS HB hb; (try clear ho0); obtain ⟨Ao28, co28, eo28⟩ := Kd.R_slice HO106.out; subst eo28; obtain ⟨Ao29, co29, eo29⟩ := Kd.R_slice HO109.out; subst eo29) | ((with_reducible refine gate_callee (f := 7) rfl ?_); refine goesL_ (some 32) rfl rfl Try.func7 (by kernel_rfl) rfl #[.agg #[.slice Ao28 t104.length co28], .slice Ao29 t107.length co29] rfl (by (try simp only [List.map_toArray, List.map_cons, List.map_nil]); first | done | rfl | (simp only [List.length_drop, List.length_take]; rfl)) ?_; (with_reducible refine (spec_MillLay.calls k _ _ t104 _ _ t107 t110 t113 _ ?side1 ?side2 ?side3 ?side4 A16.out).mono ?_); (case side1 => repeat (first | exact (Kd.R_reads' HO106.out).2.2 | (with_reducible refine Kd.C_alloc ?_ _) | (with_reducible refine Kd.C_drewN ?_ _) | (with_reducible refine Kd.C_drew ?_))); (case side2 => exact (Kd.R_reads' HO106.out).2.1); (case side3 => repeat (first | exact (Kd.R_reads' HO109.out).2.2 | (with_reducible refine Kd.C_alloc ?_ _) | (with_reducible refine Kd.C_drewN ?_ _) | (with_reducible refine Kd.C_drew ?_))); (case side4 => exact (Kd.R_reads' HO109.out).2.1); rintro e w30 ⟨v111, rfl, ho0, hb⟩; refine ⟨_, rfl, ?_⟩; have HO112 := Aside0.mk (Kd.R_lower (Kd.R_new' (Kd.R_new' ho0 (Kd.R_lt (by (with_reducible repeat (first | apply Kd.R_alloc | apply Kd.R_drewN | apply Kd.R_drew)); exact HO106.out))) (Kd.R_lt (by (with_reducible repeat (first | apply Kd.R_alloc | apply Kd.R_drewN | apply Kd.R_drew)); exact HO109.out))) (below_size (kb HB))); replace HO106 := Aside0.mk (Kd.R_elder' (by (with_reducible repeat (first | apply Kd.R_alloc | apply Kd.R_drewN | apply Kd.R_drew)); exact HO106.out) (Kd.R_base ho0) hb); replace HO109 := Aside0.mk (Kd.R_elder' (by (with_reducible repeat (first | apply Kd.R_alloc | apply Kd.R_drewN | apply Kd.R_drew)); exact HO109.out) (Kd.R_base ho0) hb); replace BK101 := kB BK101 hb; replace HB := kS HB hb; (try clear ho0)) | ((with_reducible refine gate_dst (N := 6) rfl ?_); refine gX 6 #[.slice none 0 0] 29 ?_; intro gb114 hg w31 hbox hb; have BK114 := Aside0.mk (hbox); have GW114 := gw hg (kb HB); have GE114 := gw hg (kb HB); have NB101_114 := nl hg (kp BK101); have NB114_101 := ng hg (kp BK101); replace HO106 := Aside0.mk (Kd.R_below (by (with_reducible repeat (first | apply Kd.R_alloc | apply Kd.R_drewN | apply Kd.R_drew)); exact HO106.out) hb); replace HO109 := Aside0.mk (Kd.R_below (by (with_reducible repeat (first | apply Kd.R_alloc | apply Kd.R_drewN | apply Kd.R_drew)); exact HO109.out) hb); replace HO112 := Aside0.mk (Kd.R_below (by (with_reducible repeat (first | apply Kd.R_alloc | apply Kd.R_drewN | apply Kd.R_drew)); exact HO112.out) hb); replace BK101 := kB BK101 hb; replace HB := kS HB hb; clear hb hbox hg; obtain ⟨Ao32, co32, eo32⟩ := Kd.R_slice HO112.out; subst eo32; have hnb33 := NB114_101.out; have hnc33 := NB101_114.out; obtain ⟨hcz34_0, hfz34_0⟩ := bf1 BK114; obtain ⟨hcz35_0, hfz35_0⟩ := bf1 BK101) | ((with_reducible refine gate_callee (f := 8) rfl ?_); refine goesL_ (some 36) rfl rfl Try.func8 (by kernel_rfl) rfl #[.agg #[.slice A0_0 l0_0.length c0_0]] rfl (by (try simp only [List.map_toArray, List.map_cons, List.map_nil]); first | done | rfl | (simp only [List.length_drop, List.length_take]; rfl)) ?_; (with_reducible refine (laws_toMillPlace.calls k _ _ l0_0 t115 _ ?side1 ?side2 A17.out).mono ?_); (case side1 => exact Kd.C_below HR0_0.out (kb HB)); (case side2 => exact HC0_0.out); rintro e w36 ⟨v116, rfl, ho0, hb⟩; refine ⟨_, rfl, ?_⟩; have HO117 := Aside0.mk (Kd.R_lower (Kd.R_new' (Kd.R_new' (Kd.R_new' ho0 (Kd.R_lt (by (with_reducible repeat (first | apply Kd.R_alloc | apply Kd.R_drewN | apply Kd.R_drew)); exact (Kd.R_mono (Kd.R_far (p := ⟨gb114, 0, none⟩) (Kd.R_types (by (with_reducible repeat (first | apply Kd.R_alloc | apply Kd.R_drewN | apply Kd.R_drew)); exact HO106.out) (kp BK114) (by decide)) (fun _ hk => hk.2) (.slice Ao32 t110.length co32)) (fun _ h_ => h_.1))))) (Kd.R_lt (by (with_reducible repeat (first | apply Kd.R_alloc | apply Kd.R_drewN | apply Kd.R_drew)); exact (Kd.R_mono (Kd.R_far (p := ⟨gb114, 0, none⟩) (Kd.R_types (by (with_reducible repeat (first | apply Kd.R_alloc | apply Kd.R_drewN | apply Kd.R_drew)); exact HO109.out) (kp BK114) (by decide)) (fun _ hk => hk.2) (.slice Ao32 t110.length co32)) (fun _ h_ => h_.1))))) (Kd.R_lt (by (with_reducible repeat (first | apply Kd.R_alloc | apply Kd.R_drewN | apply Kd.R_drew)); exact (Kd.R_mono (Kd.R_far (p := ⟨gb114, 0, none⟩) (Kd.R_types (by (with_reducible repeat (first | apply Kd.R_alloc | apply Kd.R_drewN | apply Kd.R_drew)); exact HO112.out) (kp BK114) (by decide)) (fun _ hk => hk.2) (.slice Ao32 t110.length co32)) (fun _ h_ => h_.1))))) (below_size (kb HB))); replace HO106 := Aside0.mk (Kd.R_elder' (by (with_reducible repeat (first | apply Kd.R_alloc | apply Kd.R_drewN | apply Kd.R_drew)); exact (Kd.R_mono (Kd.R_far (p := ⟨gb114, 0, none⟩) (Kd.R_types (by (with_reducible repeat (first | apply Kd.R_alloc | apply Kd.R_drewN | apply Kd.R_drew)); exact HO106.out) (kp BK114) (by decide)) (fun _ hk => hk.2) (.slice Ao32 t110.length co32)) (fun _ h_ => h_.1))) (Kd.R_base ho0) hb); replace HO109 := Aside0.mk (Kd.R_elder' (by (with_reducible repeat (first | apply Kd.R_alloc | apply Kd.R_drewN | apply Kd.R_drew)); exact (Kd.R_mono (Kd.R_far (p := ⟨gb114, 0, none⟩) (Kd.R_types (by (with_reducible repeat (first | apply Kd.R_alloc | apply Kd.R_drewN | apply Kd.R_drew)); exact HO109.out) (kp BK114) (by decide)) (fun _ hk => hk.2) (.slice Ao32 t110.length co32)) (fun _ h_ => h_.1))) (Kd.R_base ho0) hb); replace HO112 := Aside0.mk (Kd.R_elder' (by (with_reducible repeat (first | apply Kd.R_alloc | apply Kd.R_drewN | apply Kd.R_drew)); exact (Kd.R_mono (Kd.R_far (p := ⟨gb114, 0, none⟩) (Kd.R_types (by (with_reducible repeat (first | apply Kd.R_alloc | apply Kd.R_drewN | apply Kd.R_drew)); exact HO112.out) (kp BK114) (by decide)) (fun _ hk => hk.2) (.slice Ao32 t110.length co32)) (fun _ h_ => h_.1))) (Kd.R_base ho0) hb); replace BK101 := Aside0.mk (blk_below (g := gb101) (o := .cells #[.slice A0_0 l0_0.length c0_0] 24 (0, 0)) (by (with_reducible repeat (first | refine blk_drewN ?_ _ | refine blk_drew ?_ | refine blk_alloc ?_ _)); refine blk_far ?_ NB101_114.out _; (with_reducible repeat (first | refine blk_drewN ?_ _ | refine blk_drew ?_ | refine blk_alloc ?_ _)); exact BK101.out) hb); replace BK114 := Aside0.mk (blk_below (g := gb114) (o := .cells #[.slice Ao32 t110.length co32] 29 (0, 0)) (by (with_reducible repeat (first | refine blk_drewN ?_ _ | refine blk_drew ?_ | refine blk_alloc ?_ _)); refine blk_put (cs := #[.slice none 0 0]) ?_ 0 _ rfl; (with_reducible repeat (first | refine blk_drewN ?_ _ | refine blk_drew ?_ | refine blk_alloc ?_ _)); exact BK114.out) hb); replace HB := kS HB hb; (try clear ho0)) | ((with_reducible refine gate_dst (N := 8) rfl ?_); refine gX 8 #[.slice none 0 0] 29 ?_; intro gb118 hg w37 hbox hb; have BK118 := Aside0.mk (hbox); have GW118 := gw hg (kb HB); have GE118 := gw hg (kb HB); have NB101_118 := nl hg (kp BK101); have NB118_101 := ng hg (kp BK101); have NB114_118 := nl hg (kp BK114); have NB118_114 := ng hg (kp BK114); replace HO106 := Aside0.mk (Kd.R_below (by (with_reducible repeat (first | apply Kd.R_alloc | apply Kd.R_drewN | apply Kd.R_drew)); exact HO106.out) hb); replace HO109 := Aside0.mk (Kd.R_below (by (with_reducible repeat (first | apply Kd.R_alloc | apply Kd.R_drewN | apply Kd.R_drew)); exact HO109.out) hb); replace HO112 := Aside0.mk (Kd.R_below (by (with_reducible repeat (first | apply Kd.R_alloc | apply Kd.R_drewN | apply Kd.R_drew)); exact HO112.out) hb); replace HO117 := Aside0.mk (Kd.R_below (by (with_reducible repeat (first | apply Kd.R_alloc | apply Kd.R_drewN | apply Kd.R_drew)); exact HO117.out) hb); replace BK101 := kB BK101 hb; replace BK114 := kB BK114 hb; replace HB := kS HB hb; clear hb hbox hg; obtain ⟨Ao38, co38, eo38⟩ := Kd.R_slice HO117.out; subst eo38; have hnb39 := NB118_101.out; have hnc39 := NB101_118.out; have hnb40 := NB118_114.out; have hnc40 := NB114_118.out; obtain ⟨hcz41_0, hfz41_0⟩ := bf1 BK118) | ((with_reducible refine gate_callee (f := 9) rfl ?_); refine goesL_ (some 38) rfl rfl Try.func9 (by kernel_rfl) rfl #[.slice A1 l1.length c1] rfl (by (try simp only [List.map_toArray, List.map_cons, List.map_nil]); first | done | rfl | (simp only [List.length_drop, List.length_take]; rfl)) ?_; (with_reducible refine (laws_toMillFileS.calls k _ _ l1 t119 _ ?side1 ?side2 A18.out).mono ?_); (case side1 => exact Kd.C_below HR1.out (kb HB)); (case side2 => exact HC1.out); rintro e w42 ⟨v120, rfl, ho0, hb⟩; refine ⟨_, rfl, ?_⟩; have HO121 := Aside0.mk (Kd.R_lower (Kd.R_new' (Kd.R_new' (Kd.R_new' (Kd.R_new' ho0 (Kd.R_lt (by (with_reducible repeat (first | apply Kd.R_alloc | apply Kd.R_drewN | apply Kd.R_drew)); exact (Kd.R_mono (Kd.R_far (p := ⟨gb118, 0, none⟩) (Kd.R_types (by (with_reducible repeat (first | apply Kd.R_alloc | apply Kd.R_drewN | apply Kd.R_drew)); exact HO106.out) (kp BK118) (by decide)) (fun _ hk => hk.2) (.slice Ao38 t115.length co38)) (fun _ h_ => h_.1))))) (Kd.R_lt (by (with_reducible repeat (first | apply Kd.R_alloc | apply Kd.R_drewN | apply Kd.R_drew)); exact (Kd.R_mono (Kd.R_far (p := ⟨gb118, 0, none⟩) (Kd.R_types (by (with_reducible repeat (first | apply Kd.R_alloc | apply Kd.R_drewN | apply Kd.R_drew)); exact HO109.out) (kp BK118) (by decide)) (fun _ hk => hk.2) (.slice Ao38 t115.length co38)) (fun _ h_ => h_.1))))) (Kd.R_lt (by (with_reducible repeat (first | apply Kd.R_alloc | apply Kd.R_drewN | apply Kd.R_drew)); exact (Kd.R_mono (Kd.R_far (p := ⟨gb118, 0, none⟩) (Kd.R_types (by (with_reducible repeat (first | apply Kd.R_alloc | apply Kd.R_drewN | apply Kd.R_drew)); exact HO112.out) (kp BK118) (by decide)) (fun _ hk => hk.2) (.slice Ao38 t115.length co38)) (fun _ h_ => h_.1))))) (Kd.R_lt (by (with_reducible repeat (first | apply Kd.R_alloc | apply Kd.R_drewN | apply Kd.R_drew)); exact (Kd.R_mono (Kd.R_far (p := ⟨gb118, 0, none⟩) (Kd.R_types (by (with_reducible repeat (first | apply Kd.R_alloc | apply Kd.R_drewN | apply Kd.R_drew)); exact HO117.out) (kp BK118) (by decide)) (fun _ hk => hk.2) (.slice Ao38 t115.length co38)) (fun _ h_ => h_.1))))) (below_size (kb HB))); replace HO106 := Aside0.mk (Kd.R_elder' (by (with_reducible repeat (first | apply Kd.R_alloc | apply Kd.R_drewN | apply Kd.R_drew)); exact (Kd.R_mono (Kd.R_far (p := ⟨gb118, 0, none⟩) (Kd.R_types (by (with_reducible repeat (first | apply Kd.R_alloc | apply Kd.R_drewN | apply Kd.R_drew)); exact HO106.out) (kp BK118) (by decide)) (fun _ hk => hk.2) (.slice Ao38 t115.length co38)) (fun _ h_ => h_.1))) (Kd.R_base ho0) hb); replace HO109 := Aside0.mk (Kd.R_elder' (by (with_reducible repeat (first | apply Kd.R_alloc | apply Kd.R_drewN | apply Kd.R_drew)); exact (Kd.R_mono (Kd.R_far (p := ⟨gb118, 0, none⟩) (Kd.R_types (by (with_reducible repeat (first | apply Kd.R_alloc | apply Kd.R_drewN | apply Kd.R_drew)); exact HO109.out) (kp BK118) (by decide)) (fun _ hk => hk.2) (.slice Ao38 t115.length co38)) (fun _ h_ => h_.1))) (Kd.R_base ho0) hb); replace HO112 := Aside0.mk (Kd.R_elder' (by (with_reducible repeat (first | apply Kd.R_alloc | apply Kd.R_drewN | apply Kd.R_drew)); exact (Kd.R_mono (Kd.R_far (p := ⟨gb118, 0, none⟩) (Kd.R_types (by (with_reducible repeat (first | apply Kd.R_alloc | apply Kd.R_drewN | apply Kd.R_drew)); exact HO112.out) (kp BK118) (by decide)) (fun _ hk => hk.2) (.slice Ao38 t115.length co38)) (fun _ h_ => h_.1))) (Kd.R_base ho0) hb); replace HO117 := Aside0.mk (Kd.R_elder' (by (with_reducible repeat (first | apply Kd.R_alloc | apply Kd.R_drewN | apply Kd.R_drew)); exact (Kd.R_mono (Kd.R_far (p := ⟨gb118, 0, none⟩) (Kd.R_types (by (with_reducible repeat (first | apply Kd.R_alloc | apply Kd.R_drewN | apply Kd.R_drew)); exact HO117.out) (kp BK118) (by decide)) (fun _ hk => hk.2) (.slice Ao38 t115.length co38)) (fun _ h_ => h_.1))) (Kd.R_base ho0) hb); replace BK101 := Aside0.mk (blk_below (g := gb101) (o := .cells #[.slice A0_0 l0_0.length c0_0] 24 (0, 0)) (by (with_reducible repeat (first | refine blk_drewN ?_ _ | refine blk_drew ?_ | refine blk_alloc ?_ _)); refine blk_far ?_ NB101_118.out _; (with_reducible repeat (first | refine blk_drewN ?_ _ | refine blk_drew ?_ | refine blk_alloc ?_ _)); exact BK101.out) hb); replace BK114 := Aside0.mk (blk_below (g := gb114) (o := .cells #[.slice Ao32 t110.length co32] 29 (0, 0)) (by (with_reducible repeat (first | refine blk_drewN ?_ _ | refine blk_drew ?_ | refine blk_alloc ?_ _)); refine blk_far ?_ NB114_118.out _; (with_reducible repeat (first | refine blk_drewN ?_ _ | refine blk_drew ?_ | refine blk_alloc ?_ _)); exact BK114.out) hb); replace BK118 := Aside0.mk (blk_below (g := gb118) (o := .cells #[.slice Ao38 t115.length co38] 29 (0, 0)) (by (with_reducible repeat (first | refine blk_drewN ?_ _ | refine blk_drew ?_ | refine blk_alloc ?_ _)); refine blk_put (cs := #[.slice none 0 0]) ?_ 0 _ rfl; (with_reducible repeat (first | refine blk_drewN ?_ _ | refine blk_drew ?_ | refine blk_alloc ?_ _)); exact BK118.out) hb); replace HB := kS HB hb; (try clear ho0); obtain ⟨hcz43_0, hfz43_0⟩ := bf1 BK118; obtain ⟨Ao44, co44, eo44⟩ := Kd.R_slice HO121.out; subst eo44) | ((with_reducible refine gate_callee (f := 10) rfl ?_); refine goesL_ (some 42) rfl rfl Try.func10 (by kernel_rfl) rfl #[.agg #[.slice Ao38 t115.length co38], .slice Ao44 t119.length co44] rfl (by (try simp only [List.map_toArray, List.map_cons, List.map_nil]); first | done | rfl | (simp only [List.length_drop, List.length_take]; rfl)) ?_; (with_reducible refine (impl_MillLay.calls k _ _ t115 _ _ t119 t122 t125 _ ?side1 ?side2 ?side3 ?side4 A19.out).mono ?_); (case side1 => repeat (first | exact (Kd.R_reads' HO117.out).2.2 | (with_reducible refine Kd.C_alloc ?_ _) | (with_reducible refine Kd.C_drewN ?_ _) | (with_reducible refine Kd.C_drew ?_))); (case side2 => exact (Kd.R_reads' HO117.out).2.1); (case side3 => repeat (first | exact (Kd.R_reads' HO121.out).2.2 | (with_reducible refine Kd.C_alloc ?_ _) | (with_reducible refine Kd.C_drewN ?_ _) | (with_reducible refine Kd.C_drew ?_))); (case side4 => exact (Kd.R_reads' HO121.out).2.1); rintro e w45 ⟨v123, rfl, ho0, hb⟩; refine ⟨_, rfl, ?_⟩; have HO124 := Aside0.mk (Kd.R_lower (Kd.R_new' (Kd.R_new' (Kd.R_new' (Kd.R_new' (Kd.R_new' ho0 (Kd.R_lt (by (with_reducible repeat (first | apply Kd.R_alloc | apply Kd.R_drewN | apply Kd.R_drew)); exact HO106.out))) (Kd.R_lt (by (with_reducible repeat (first | apply Kd.R_alloc | apply Kd.R_drewN | apply Kd.R_drew)); exact HO109.out))) (Kd.R_lt (by (with_reducible repeat (first | apply Kd.R_alloc | apply Kd.R_drewN | apply Kd.R_drew)); exact HO112.out))) (Kd.R_lt (by (with_reducible repeat (first | apply Kd.R_alloc | apply Kd.R_drewN | apply Kd.R_drew)); exact HO117.out))) (Kd.R_lt (by (with_reducible repeat (first | apply Kd.R_alloc | apply Kd.R_drewN | apply Kd.R_drew)); exact HO121.out))) (below_size (kb HB))); replace HO106 := Aside0.mk (Kd.R_elder' (by (with_reducible repeat (first | apply Kd.R_alloc | apply Kd.R_drewN | apply Kd.R_drew)); exact HO106.out) (Kd.R_base ho0) hb); replace HO109 := Aside0.mk (Kd.R_elder' (by (with_reducible repeat (first | apply Kd.R_alloc | apply Kd.R_drewN | apply Kd.R_drew)); exact HO109.out) (Kd.R_base ho0) hb); replace HO112 := Aside0.mk (Kd.R_elder' (by (with_reducible repeat (first | apply Kd.R_alloc | apply Kd.R_drewN | apply Kd.R_drew)); exact HO112.out) (Kd.R_base ho0) hb); replace HO117 := Aside0.mk (Kd.R_elder' (by (with_reducible repeat (first | apply Kd.R_alloc | apply Kd.R_drewN | apply Kd.R_drew)); exact HO117.out) (Kd.R_base ho0) hb); replace HO121 := Aside0.mk (Kd.R_elder' (by (with_reducible repeat (first | apply Kd.R_alloc | apply Kd.R_drewN | apply Kd.R_drew)); exact HO121.out) (Kd.R_base ho0) hb); replace BK101 := kB BK101 hb; replace BK114 := kB BK114 hb; replace BK118 := kB BK118 hb; replace HB := kS HB hb; (try clear ho0)) | ((with_reducible refine gate_dst (N := 10) rfl ?_); refine gX 10 #[.slice none 0 0] 29 ?_; intro gb126 hg w46 hbox hb; have BK126 := Aside0.mk (hbox); have GW126 := gw hg (kb HB); have GE126 := gw hg (kb HB); have NB101_126 := nl hg (kp BK101); have NB126_101 := ng hg (kp BK101); have NB114_126 := nl hg (kp BK114); have NB126_114 := ng hg (kp BK114); have NB118_126 := nl hg (kp BK118); have NB126_118 := ng hg (kp BK118); replace HO106 := Aside0.mk (Kd.R_below (by (with_reducible repeat (first | apply Kd.R_alloc | apply Kd.R_drewN | apply Kd.R_drew)); exact HO106.out) hb); replace HO109 := Aside0.mk (Kd.R_below (by (with_reducible repeat (first | apply Kd.R_alloc | apply Kd.R_drewN | apply Kd.R_drew)); exact HO109.out) hb); replace HO112 := Aside0.mk (Kd.R_below (by (with_reducible repeat (first | apply Kd.R_alloc | apply Kd.R_drewN | apply Kd.R_drew)); exact HO112.out) hb); replace HO117 := Aside0.mk (Kd.R_below (by (with_reducible repeat (first | apply Kd.R_alloc | apply Kd.R_drewN | apply Kd.R_drew)); exact HO117.out) hb); replace HO121 := Aside0.mk (Kd.R_below (by (with_reducible repeat (first | apply Kd.R_alloc | apply Kd.R_drewN | apply Kd.R_drew)); exact HO121.out) hb); replace HO124 := Aside0.mk (Kd.R_below (by (with_reducible repeat (first | apply Kd.R_alloc | apply Kd.R_drewN | apply Kd.R_drew)); exact HO124.out) hb); replace BK101 := kB BK101 hb; replace BK114 := kB BK114 hb; replace BK118 := kB BK118 hb; replace HB := kS HB hb; clear hb hbox hg; obtain ⟨Ao47, co47, eo47⟩ := Kd.R_slice HO124.out; subst eo47; have hnb48 := NB126_101.out; have hnc48 := NB101_126.out; have hnb49 := NB126_114.out; have hnc49 := NB114_126.out; have hnb50 := NB126_118.out; have hnc50 := NB118_126.out; obtain ⟨hcz51_0, hfz51_0⟩ := bf1 BK126))
      (try simp only [Act.put, List.setIfInBounds_toArray, List.set_cons_zero, List.set_cons_succ])
      go_cut [53] (fun v53 wc => ∃ (kq : Nat) (x53_19 : Bool), v53 = .bool x53_19 ∧ Aside0 (laws_FnExactMillLay.j0 kq l1 t113 t119 t125 x53_19 l0_0 t110 t115 t122 = some r) ∧ Aside0 (kq ≤ k) ∧ Aside0 (Kd.R k52 52 wc w.heap.size (fun k_ => some k_ ≠ ((.slice Ao32 t110.length co32) : Value).ownBlock ∧ some k_ ≠ ((.slice Ao38 t115.length co38) : Value).ownBlock ∧ some k_ ≠ ((.slice Ao47 t122.length co47) : Value).ownBlock) (.slice Ao44 t119.length co44) t119) ∧ Aside0 (Kd.R k52 52 wc w.heap.size (fun k_ => some k_ ≠ ((.slice Ao44 t119.length co44) : Value).ownBlock ∧ some k_ ≠ ((.slice Ao38 t115.length co38) : Value).ownBlock ∧ some k_ ≠ ((.slice Ao47 t122.length co47) : Value).ownBlock) (.slice Ao32 t110.length co32) t110) ∧ Aside0 (Kd.R k52 52 wc w.heap.size (fun k_ => some k_ ≠ ((.slice Ao44 t119.length co44) : Value).ownBlock ∧ some k_ ≠ ((.slice Ao32 t110.length co32) : Value).ownBlock ∧ some k_ ≠ ((.slice Ao47 t122.length co47) : Value).ownBlock) (.slice Ao38 t115.length co38) t115) ∧ Aside0 (Kd.R k52 52 wc w.heap.size (fun k_ => some k_ ≠ ((.slice Ao44 t119.length co44) : Value).ownBlock ∧ some k_ ≠ ((.slice Ao32 t110.length co32) : Value).ownBlock ∧ some k_ ≠ ((.slice Ao38 t115.length co38) : Value).ownBlock) (.slice Ao47 t122.length co47) t122) ∧ Aside0 (wc.heap[gb101]? = some (.cells #[(.slice A0_0 l0_0.length c0_0)] 24 (0, 0))) ∧ Aside0 (wc.heap[gb114]? = some (.cells #[(.slice Ao32 t110.length co32)] 29 (0, 0))) ∧ Aside0 (wc.heap[gb118]? = some (.cells #[(.slice Ao38 t115.length co38)] 29 (0, 0))) ∧ Aside0 (wc.heap[gb126]? = some (.cells #[(.slice Ao47 t122.length co47)] 29 (0, 0))) ∧ Aside0 (Below w.heap.size w wc))
      case first =>
        have H := HC20.out
        clear HC20
        replace H := Option.bind_eq_some_iff.mp H
        obtain ⟨t127, A520, H⟩ := H
        replace H : (if t127 = true then (laws_FnExactMillLay.j0 k l1 t113 t119 t125 (t125 != t113) l0_0 t110 t115 t122) else (laws_FnExactMillLay.j0 k l1 t113 t119 t125 true l0_0 t110 t115 t122)) = some r := H
        have A52 := Aside0.mk A520
        clear A520
        by_cases c53 : t127 = true
        · subst c53
          have H1 : (laws_FnExactMillLay.j0 k l1 t113 t119 t125 (t125 != t113) l0_0 t110 t115 t122) = some r := by rw [if_pos rfl] at H; exact H
          clear H
          have H := H1
          clear H1
          have H' := Aside0.mk H
          clear H
          have hnb54 := NB126_101.out
          have hnc54 := NB101_126.out
          have hnb55 := NB126_114.out
          have hnc55 := NB114_126.out
          have hnb56 := NB126_118.out
          have hnc56 := NB118_126.out
          obtain ⟨hcz57_0, hfz57_0⟩ := bf1 BK126
          have hnb58 := NB114_101.out
          have hnc58 := NB101_114.out
          have hnb59 := NB114_118.out
          have hnc59 := NB118_114.out
          obtain ⟨hcz60_0, hfz60_0⟩ := bf1 BK114
          go_wp2_with (first | ((with_reducible refine gate_callee (f := 11) rfl ?_); refine gL (some 47) Try.func11 #[.agg #[.slice Ao47 t122.length co47], .agg #[.slice Ao32 t110.length co32]] (laws_eqMillPlace.calls k _ _ t122 _ _ t110 true _ ?side1 ?side2 ?side3 ?side4 A52.out) ?_; (case side1 => refine (Kd.R_reads' (e := 52) (base := w.heap.size) (ok := fun k_ => (((((True ∧ some k_ ≠ (.slice Ao28 t104.length co28 : Value).ownBlock) ∧ some k_ ≠ (.slice Ao29 t107.length co29 : Value).ownBlock) ∧ some k_ ≠ (.slice Ao32 t110.length co32 : Value).ownBlock) ∧ some k_ ≠ (.slice Ao38 t115.length co38 : Value).ownBlock) ∧ some k_ ≠ (.slice Ao44 t119.length co44 : Value).ownBlock)) (n := t122.length) (c := co47) ?_).2.2; exact (by (with_reducible repeat (first | apply Kd.R_alloc | apply Kd.R_drewN | apply Kd.R_drew)); exact (Kd.R_mono (Kd.R_far (p := ⟨gb126, 0, none⟩) (Kd.R_types (by (with_reducible repeat (first | apply Kd.R_alloc | apply Kd.R_drewN | apply Kd.R_drew)); exact HO124.out) (kp BK126) (by decide)) (fun _ hk => hk.2) (.slice Ao47 t122.length co47)) (fun _ h_ => h_.1)))); (case side2 => exact (Kd.R_reads' HO124.out).2.1); (case side3 => refine (Kd.R_reads' (e := 52) (base := w.heap.size) (ok := fun k_ => (((((True ∧ some k_ ≠ (.slice Ao28 t104.length co28 : Value).ownBlock) ∧ some k_ ≠ (.slice Ao29 t107.length co29 : Value).ownBlock) ∧ some k_ ≠ (.slice Ao38 t115.length co38 : Value).ownBlock) ∧ some k_ ≠ (.slice Ao44 t119.length co44 : Value).ownBlock) ∧ some k_ ≠ (.slice Ao47 t122.length co47 : Value).ownBlock)) (n := t110.length) (c := co32) ?_).2.2; exact (by (with_reducible repeat (first | apply Kd.R_alloc | apply Kd.R_drewN | apply Kd.R_drew)); exact (Kd.R_mono (Kd.R_far (p := ⟨gb126, 0, none⟩) (Kd.R_types (by (with_reducible repeat (first | apply Kd.R_alloc | apply Kd.R_drewN | apply Kd.R_drew)); exact HO112.out) (kp BK126) (by decide)) (fun _ hk => hk.2) (.slice Ao47 t122.length co47)) (fun _ h_ => h_.1)))); (case side4 => exact (Kd.R_reads' HO112.out).2.1); intro w61 hb; replace HO106 := Aside0.mk (Kd.R_below (by (with_reducible repeat (first | apply Kd.R_alloc | apply Kd.R_drewN | apply Kd.R_drew)); exact (Kd.R_mono (Kd.R_far (p := ⟨gb126, 0, none⟩) (Kd.R_types (by (with_reducible repeat (first | apply Kd.R_alloc | apply Kd.R_drewN | apply Kd.R_drew)); exact HO106.out) (kp BK126) (by decide)) (fun _ hk => hk.2) (.slice Ao47 t122.length co47)) (fun _ h_ => h_.1))) hb); replace HO109 := Aside0.mk (Kd.R_below (by (with_reducible repeat (first | apply Kd.R_alloc | apply Kd.R_drewN | apply Kd.R_drew)); exact (Kd.R_mono (Kd.R_far (p := ⟨gb126, 0, none⟩) (Kd.R_types (by (with_reducible repeat (first | apply Kd.R_alloc | apply Kd.R_drewN | apply Kd.R_drew)); exact HO109.out) (kp BK126) (by decide)) (fun _ hk => hk.2) (.slice Ao47 t122.length co47)) (fun _ h_ => h_.1))) hb); replace HO112 := Aside0.mk (Kd.R_below (by (with_reducible repeat (first | apply Kd.R_alloc | apply Kd.R_drewN | apply Kd.R_drew)); exact (Kd.R_mono (Kd.R_far (p := ⟨gb126, 0, none⟩) (Kd.R_types (by (with_reducible repeat (first | apply Kd.R_alloc | apply Kd.R_drewN | apply Kd.R_drew)); exact HO112.out) (kp BK126) (by decide)) (fun _ hk => hk.2) (.slice Ao47 t122.length co47)) (fun _ h_ => h_.1))) hb); replace HO117 := Aside0.mk (Kd.R_below (by (with_reducible repeat (first | apply Kd.R_alloc | apply Kd.R_drewN | apply Kd.R_drew)); exact (Kd.R_mono (Kd.R_far (p := ⟨gb126, 0, none⟩) (Kd.R_types (by (with_reducible repeat (first | apply Kd.R_alloc | apply Kd.R_drewN | apply Kd.R_drew)); exact HO117.out) (kp BK126) (by decide)) (fun _ hk => hk.2) (.slice Ao47 t122.length co47)) (fun _ h_ => h_.1))) hb); replace HO121 := Aside0.mk (Kd.R_below (by (with_reducible repeat (first | apply Kd.R_alloc | apply Kd.R_drewN | apply Kd.R_drew)); exact (Kd.R_mono (Kd.R_far (p := ⟨gb126, 0, none⟩) (Kd.R_types (by (with_reducible repeat (first | apply Kd.R_alloc | apply Kd.R_drewN | apply Kd.R_drew)); exact HO121.out) (kp BK126) (by decide)) (fun _ hk => hk.2) (.slice Ao47 t122.length co47)) (fun _ h_ => h_.1))) hb); replace HO124 := Aside0.mk (Kd.R_below (by (with_reducible repeat (first | apply Kd.R_alloc | apply Kd.R_drewN | apply Kd.R_drew)); exact (Kd.R_mono (Kd.R_far (p := ⟨gb126, 0, none⟩) (Kd.R_types (by (with_reducible repeat (first | apply Kd.R_alloc | apply Kd.R_drewN | apply Kd.R_drew)); exact HO124.out) (kp BK126) (by decide)) (fun _ hk => hk.2) (.slice Ao47 t122.length co47)) (fun _ h_ => h_.1))) hb); replace BK101 := Aside0.mk (blk_below (g := gb101) (o := .cells #[.slice A0_0 l0_0.length c0_0] 24 (0, 0)) (by (with_reducible repeat (first | refine blk_drewN ?_ _ | refine blk_drew ?_ | refine blk_alloc ?_ _)); refine blk_far ?_ NB101_126.out _; (with_reducible repeat (first | refine blk_drewN ?_ _ | refine blk_drew ?_ | refine blk_alloc ?_ _)); exact BK101.out) hb); replace BK114 := Aside0.mk (blk_below (g := gb114) (o := .cells #[.slice Ao32 t110.length co32] 29 (0, 0)) (by (with_reducible repeat (first | refine blk_drewN ?_ _ | refine blk_drew ?_ | refine blk_alloc ?_ _)); refine blk_far ?_ NB114_126.out _; (with_reducible repeat (first | refine blk_drewN ?_ _ | refine blk_drew ?_ | refine blk_alloc ?_ _)); exact BK114.out) hb); replace BK118 := Aside0.mk (blk_below (g := gb118) (o := .cells #[.slice Ao38 t115.length co38] 29 (0, 0)) (by (with_reducible repeat (first | refine blk_drewN ?_ _ | refine blk_drew ?_ | refine blk_alloc ?_ _)); refine blk_far ?_ NB118_126.out _; (with_reducible repeat (first | refine blk_drewN ?_ _ | refine blk_drew ?_ | refine blk_alloc ?_ _)); exact BK118.out) hb); replace BK126 := Aside0.mk (blk_below (g := gb126) (o := .cells #[.slice Ao47 t122.length co47] 29 (0, 0)) (by (with_reducible repeat (first | refine blk_drewN ?_ _ | refine blk_drew ?_ | refine blk_alloc ?_ _)); refine blk_put (cs := #[.slice none 0 0]) ?_ 0 _ rfl; (with_reducible repeat (first | refine blk_drewN ?_ _ | refine blk_drew ?_ | refine blk_alloc ?_ _)); exact BK126.out) hb); replace HB := kS HB hb))
          go_meet
          case rel => exact ⟨_, ((t125 != t113)), (by first | rfl | (simp; done) | (simp [*]; done)), H', ⟨by first | omega | exact Nat.le_refl _⟩, ⟨by (with_reducible repeat (first | apply Kd.R_alloc | apply Kd.R_drewN | apply Kd.R_drew)); exact Kd.R_mono HO121.out (fun _ hk => ⟨hk.1.1.2, ⟨hk.1.2, hk.2⟩⟩)⟩, ⟨by (with_reducible repeat (first | apply Kd.R_alloc | apply Kd.R_drewN | apply Kd.R_drew)); exact Kd.R_mono HO112.out (fun _ hk => ⟨hk.1.2, ⟨hk.1.1.2, hk.2⟩⟩)⟩, ⟨by (with_reducible repeat (first | apply Kd.R_alloc | apply Kd.R_drewN | apply Kd.R_drew)); exact Kd.R_mono HO117.out (fun _ hk => ⟨hk.1.2, ⟨hk.1.1.2, hk.2⟩⟩)⟩, ⟨by (with_reducible repeat (first | apply Kd.R_alloc | apply Kd.R_drewN | apply Kd.R_drew)); exact Kd.R_mono HO124.out (fun _ hk => ⟨hk.2, ⟨hk.1.1.2, hk.1.2⟩⟩)⟩, ⟨kp BK101⟩, ⟨kp BK114⟩, ⟨kp BK118⟩, ⟨kp BK126⟩, ⟨kb HB⟩⟩
        · replace c53 := Bool.eq_false_iff.mpr c53
          subst c53
          have H1 : (laws_FnExactMillLay.j0 k l1 t113 t119 t125 true l0_0 t110 t115 t122) = some r := by rw [if_neg (show ¬ (false = true) by decide)] at H; exact H
          clear H
          have H := H1
          clear H1
          have H' := Aside0.mk H
          clear H
          have hnb62 := NB126_101.out
          have hnc62 := NB101_126.out
          have hnb63 := NB126_114.out
          have hnc63 := NB114_126.out
          have hnb64 := NB126_118.out
          have hnc64 := NB118_126.out
          obtain ⟨hcz65_0, hfz65_0⟩ := bf1 BK126
          have hnb66 := NB114_101.out
          have hnc66 := NB101_114.out
          have hnb67 := NB114_118.out
          have hnc67 := NB118_114.out
          obtain ⟨hcz68_0, hfz68_0⟩ := bf1 BK114
          go_wp2_with (first | ((with_reducible refine gate_callee (f := 11) rfl ?_); refine gL (some 47) Try.func11 #[.agg #[.slice Ao47 t122.length co47], .agg #[.slice Ao32 t110.length co32]] (laws_eqMillPlace.calls k _ _ t122 _ _ t110 false _ ?side1 ?side2 ?side3 ?side4 A52.out) ?_; (case side1 => refine (Kd.R_reads' (e := 52) (base := w.heap.size) (ok := fun k_ => (((((True ∧ some k_ ≠ (.slice Ao28 t104.length co28 : Value).ownBlock) ∧ some k_ ≠ (.slice Ao29 t107.length co29 : Value).ownBlock) ∧ some k_ ≠ (.slice Ao32 t110.length co32 : Value).ownBlock) ∧ some k_ ≠ (.slice Ao38 t115.length co38 : Value).ownBlock) ∧ some k_ ≠ (.slice Ao44 t119.length co44 : Value).ownBlock)) (n := t122.length) (c := co47) ?_).2.2; exact (by (with_reducible repeat (first | apply Kd.R_alloc | apply Kd.R_drewN | apply Kd.R_drew)); exact (Kd.R_mono (Kd.R_far (p := ⟨gb126, 0, none⟩) (Kd.R_types (by (with_reducible repeat (first | apply Kd.R_alloc | apply Kd.R_drewN | apply Kd.R_drew)); exact HO124.out) (kp BK126) (by decide)) (fun _ hk => hk.2) (.slice Ao47 t122.length co47)) (fun _ h_ => h_.1)))); (case side2 => exact (Kd.R_reads' HO124.out).2.1); (case side3 => refine (Kd.R_reads' (e := 52) (base := w.heap.size) (ok := fun k_ => (((((True ∧ some k_ ≠ (.slice Ao28 t104.length co28 : Value).ownBlock) ∧ some k_ ≠ (.slice Ao29 t107.length co29 : Value).ownBlock) ∧ some k_ ≠ (.slice Ao38 t115.length co38 : Value).ownBlock) ∧ some k_ ≠ (.slice Ao44 t119.length co44 : Value).ownBlock) ∧ some k_ ≠ (.slice Ao47 t122.length co47 : Value).ownBlock)) (n := t110.length) (c := co32) ?_).2.2; exact (by (with_reducible repeat (first | apply Kd.R_alloc | apply Kd.R_drewN | apply Kd.R_drew)); exact (Kd.R_mono (Kd.R_far (p := ⟨gb126, 0, none⟩) (Kd.R_types (by (with_reducible repeat (first | apply Kd.R_alloc | apply Kd.R_drewN | apply Kd.R_drew)); exact HO112.out) (kp BK126) (by decide)) (fun _ hk => hk.2) (.slice Ao47 t122.length co47)) (fun _ h_ => h_.1)))); (case side4 => exact (Kd.R_reads' HO112.out).2.1); intro w69 hb; replace HO106 := Aside0.mk (Kd.R_below (by (with_reducible repeat (first | apply Kd.R_alloc | apply Kd.R_drewN | apply Kd.R_drew)); exact (Kd.R_mono (Kd.R_far (p := ⟨gb126, 0, none⟩) (Kd.R_types (by (with_reducible repeat (first | apply Kd.R_alloc | apply Kd.R_drewN | apply Kd.R_drew)); exact HO106.out) (kp BK126) (by decide)) (fun _ hk => hk.2) (.slice Ao47 t122.length co47)) (fun _ h_ => h_.1))) hb); replace HO109 := Aside0.mk (Kd.R_below (by (with_reducible repeat (first | apply Kd.R_alloc | apply Kd.R_drewN | apply Kd.R_drew)); exact (Kd.R_mono (Kd.R_far (p := ⟨gb126, 0, none⟩) (Kd.R_types (by (with_reducible repeat (first | apply Kd.R_alloc | apply Kd.R_drewN | apply Kd.R_drew)); exact HO109.out) (kp BK126) (by decide)) (fun _ hk => hk.2) (.slice Ao47 t122.length co47)) (fun _ h_ => h_.1))) hb); replace HO112 := Aside0.mk (Kd.R_below (by (with_reducible repeat (first | apply Kd.R_alloc | apply Kd.R_drewN | apply Kd.R_drew)); exact (Kd.R_mono (Kd.R_far (p := ⟨gb126, 0, none⟩) (Kd.R_types (by (with_reducible repeat (first | apply Kd.R_alloc | apply Kd.R_drewN | apply Kd.R_drew)); exact HO112.out) (kp BK126) (by decide)) (fun _ hk => hk.2) (.slice Ao47 t122.length co47)) (fun _ h_ => h_.1))) hb); replace HO117 := Aside0.mk (Kd.R_below (by (with_reducible repeat (first | apply Kd.R_alloc | apply Kd.R_drewN | apply Kd.R_drew)); exact (Kd.R_mono (Kd.R_far (p := ⟨gb126, 0, none⟩) (Kd.R_types (by (with_reducible repeat (first | apply Kd.R_alloc | apply Kd.R_drewN | apply Kd.R_drew)); exact HO117.out) (kp BK126) (by decide)) (fun _ hk => hk.2) (.slice Ao47 t122.length co47)) (fun _ h_ => h_.1))) hb); replace HO121 := Aside0.mk (Kd.R_below (by (with_reducible repeat (first | apply Kd.R_alloc | apply Kd.R_drewN | apply Kd.R_drew)); exact (Kd.R_mono (Kd.R_far (p := ⟨gb126, 0, none⟩) (Kd.R_types (by (with_reducible repeat (first | apply Kd.R_alloc | apply Kd.R_drewN | apply Kd.R_drew)); exact HO121.out) (kp BK126) (by decide)) (fun _ hk => hk.2) (.slice Ao47 t122.length co47)) (fun _ h_ => h_.1))) hb); replace HO124 := Aside0.mk (Kd.R_below (by (with_reducible repeat (first | apply Kd.R_alloc | apply Kd.R_drewN | apply Kd.R_drew)); exact (Kd.R_mono (Kd.R_far (p := ⟨gb126, 0, none⟩) (Kd.R_types (by (with_reducible repeat (first | apply Kd.R_alloc | apply Kd.R_drewN | apply Kd.R_drew)); exact HO124.out) (kp BK126) (by decide)) (fun _ hk => hk.2) (.slice Ao47 t122.length co47)) (fun _ h_ => h_.1))) hb); replace BK101 := Aside0.mk (blk_below (g := gb101) (o := .cells #[.slice A0_0 l0_0.length c0_0] 24 (0, 0)) (by (with_reducible repeat (first | refine blk_drewN ?_ _ | refine blk_drew ?_ | refine blk_alloc ?_ _)); refine blk_far ?_ NB101_126.out _; (with_reducible repeat (first | refine blk_drewN ?_ _ | refine blk_drew ?_ | refine blk_alloc ?_ _)); exact BK101.out) hb); replace BK114 := Aside0.mk (blk_below (g := gb114) (o := .cells #[.slice Ao32 t110.length co32] 29 (0, 0)) (by (with_reducible repeat (first | refine blk_drewN ?_ _ | refine blk_drew ?_ | refine blk_alloc ?_ _)); refine blk_far ?_ NB114_126.out _; (with_reducible repeat (first | refine blk_drewN ?_ _ | refine blk_drew ?_ | refine blk_alloc ?_ _)); exact BK114.out) hb); replace BK118 := Aside0.mk (blk_below (g := gb118) (o := .cells #[.slice Ao38 t115.length co38] 29 (0, 0)) (by (with_reducible repeat (first | refine blk_drewN ?_ _ | refine blk_drew ?_ | refine blk_alloc ?_ _)); refine blk_far ?_ NB118_126.out _; (with_reducible repeat (first | refine blk_drewN ?_ _ | refine blk_drew ?_ | refine blk_alloc ?_ _)); exact BK118.out) hb); replace BK126 := Aside0.mk (blk_below (g := gb126) (o := .cells #[.slice Ao47 t122.length co47] 29 (0, 0)) (by (with_reducible repeat (first | refine blk_drewN ?_ _ | refine blk_drew ?_ | refine blk_alloc ?_ _)); refine blk_put (cs := #[.slice none 0 0]) ?_ 0 _ rfl; (with_reducible repeat (first | refine blk_drewN ?_ _ | refine blk_drew ?_ | refine blk_alloc ?_ _)); exact BK126.out) hb); replace HB := kS HB hb))
          go_meet
          case rel => exact ⟨_, (true), (by first | rfl | (simp; done) | (simp [*]; done)), H', ⟨by first | omega | exact Nat.le_refl _⟩, ⟨by (with_reducible repeat (first | apply Kd.R_alloc | apply Kd.R_drewN | apply Kd.R_drew)); exact Kd.R_mono HO121.out (fun _ hk => ⟨hk.1.1.2, ⟨hk.1.2, hk.2⟩⟩)⟩, ⟨by (with_reducible repeat (first | apply Kd.R_alloc | apply Kd.R_drewN | apply Kd.R_drew)); exact Kd.R_mono HO112.out (fun _ hk => ⟨hk.1.2, ⟨hk.1.1.2, hk.2⟩⟩)⟩, ⟨by (with_reducible repeat (first | apply Kd.R_alloc | apply Kd.R_drewN | apply Kd.R_drew)); exact Kd.R_mono HO117.out (fun _ hk => ⟨hk.1.2, ⟨hk.1.1.2, hk.2⟩⟩)⟩, ⟨by (with_reducible repeat (first | apply Kd.R_alloc | apply Kd.R_drewN | apply Kd.R_drew)); exact Kd.R_mono HO124.out (fun _ hk => ⟨hk.2, ⟨hk.1.1.2, hk.1.2⟩⟩)⟩, ⟨kp BK101⟩, ⟨kp BK114⟩, ⟨kp BK118⟩, ⟨kp BK126⟩, ⟨kb HB⟩⟩
      case rest =>
        clear HC20
        obtain ⟨kq, x53_19, rfl, HA, HJ19, HO_9, HO_115000, HO_119000, HO_127000, BK101, BK114, BK118, BK126, HB⟩ := hcut
        cases kq with
        | zero => exact absurd HA.out (by simp [laws_FnExactMillLay.j0])
        | succ kj19 =>
          have H := HA.out
          clear HA
          simp only [laws_FnExactMillLay.j0] at H
          by_cases c70 : x53_19 = true
          · subst c70
            have H1 : (some false) = some r := by rw [if_pos rfl] at H; exact H
            clear H
            have H := H1
            clear H1
            obtain rfl := Option.some.inj H
            go_wp2
            go_ret
            exact ⟨by first | rfl | (simp [errW_none, errW_some] <;> rfl) | (simp [*, errW_none, errW_some] <;> rfl), kb HB⟩
          · replace c70 := Bool.eq_false_iff.mpr c70
            subst c70
            have H1 : ((laws_toMillPlace.f kj19 l0_0).bind fun t128 => ((laws_eqMillPlace.f kj19 t115 t128).bind fun t131 => (if t131 = true then ((laws_toMillFileS.f kj19 l1).bind fun t132 => ((laws_eqMillFileS.f kj19 t119 t132).bind fun t135 => (if t135 = true then ((laws_markMillPlace.f kj19 t115 1).bind fun bt136 => ((laws_markMillFileS.f kj19 t119 bt136.1).bind fun bt138 => (if bt138.1 < 0 then (laws_FnExactMillLay.j1 kj19 l1 t113 true l0_0 t110 t122) else ((laws_eqMillPlace.f kj19 t122 t110).bind fun t140 => (if t140 = true then (laws_FnExactMillLay.j1 kj19 l1 t113 (t125 != t113) l0_0 t110 t122) else (laws_FnExactMillLay.j1 kj19 l1 t113 true l0_0 t110 t122)))))) else (some false)))) else (some false)))) = some r := by rw [if_neg (show ¬ (false = true) by decide)] at H; exact H
            clear H
            have H := H1
            clear H1
            replace H := Option.bind_eq_some_iff.mp H
            obtain ⟨t128, A710, H⟩ := H
            replace H : ((laws_eqMillPlace.f kj19 t115 t128).bind fun t131 => (if t131 = true then ((laws_toMillFileS.f kj19 l1).bind fun t132 => ((laws_eqMillFileS.f kj19 t119 t132).bind fun t135 => (if t135 = true then ((laws_markMillPlace.f kj19 t115 1).bind fun bt136 => ((laws_markMillFileS.f kj19 t119 bt136.1).bind fun bt138 => (if bt138.1 < 0 then (laws_FnExactMillLay.j1 kj19 l1 t113 true l0_0 t110 t122) else ((laws_eqMillPlace.f kj19 t122 t110).bind fun t140 => (if t140 = true then (laws_FnExactMillLay.j1 kj19 l1 t113 (t125 != t113) l0_0 t110 t122) else (laws_FnExactMillLay.j1 kj19 l1 t113 true l0_0 t110 t122)))))) else (some false)))) else (some false))) = some r := H
            have A71 := Aside0.mk A710
            clear A710
            replace H := Option.bind_eq_some_iff.mp H
            obtain ⟨t131, A720, H⟩ := H
            replace H : (if t131 = true then ((laws_toMillFileS.f kj19 l1).bind fun t132 => ((laws_eqMillFileS.f kj19 t119 t132).bind fun t135 => (if t135 = true then ((laws_markMillPlace.f kj19 t115 1).bind fun bt136 => ((laws_markMillFileS.f kj19 t119 bt136.1).bind fun bt138 => (if bt138.1 < 0 then (laws_FnExactMillLay.j1 kj19 l1 t113 true l0_0 t110 t122) else ((laws_eqMillPlace.f kj19 t122 t110).bind fun t140 => (if t140 = true then (laws_FnExactMillLay.j1 kj19 l1 t113 (t125 != t113) l0_0 t110 t122) else (laws_FnExactMillLay.j1 kj19 l1 t113 true l0_0 t110 t122)))))) else (some false)))) else (some false)) = some r := H
            have A72 := Aside0.mk A720
            clear A720
            by_cases c73 : t131 = true
            · subst c73
              have H1 : ((laws_toMillFileS.f kj19 l1).bind fun t132 => ((laws_eqMillFileS.f kj19 t119 t132).bind fun t135 => (if t135 = true then ((laws_markMillPlace.f kj19 t115 1).bind fun bt136 => ((laws_markMillFileS.f kj19 t119 bt136.1).bind fun bt138 => (if bt138.1 < 0 then (laws_FnExactMillLay.j1 kj19 l1 t113 true l0_0 t110 t122) else ((laws_eqMillPlace.f kj19 t122 t110).bind fun t140 => (if t140 = true then (laws_FnExactMillLay.j1 kj19 l1 t113 (t125 != t113) l0_0 t110 t122) else (laws_FnExactMillLay.j1 kj19 l1 t113 true l0_0 t110 t122)))))) else (some false)))) = some r := by rw [if_pos rfl] at H; exact H
              clear H
              have H := H1
              clear H1
              replace H := Option.bind_eq_some_iff.mp H
              obtain ⟨t132, A740, H⟩ := H
              replace H : ((laws_eqMillFileS.f kj19 t119 t132).bind fun t135 => (if t135 = true then ((laws_markMillPlace.f kj19 t115 1).bind fun bt136 => ((laws_markMillFileS.f kj19 t119 bt136.1).bind fun bt138 => (if bt138.1 < 0 then (laws_FnExactMillLay.j1 kj19 l1 t113 true l0_0 t110 t122) else ((laws_eqMillPlace.f kj19 t122 t110).bind fun t140 => (if t140 = true then (laws_FnExactMillLay.j1 kj19 l1 t113 (t125 != t113) l0_0 t110 t122) else (laws_FnExactMillLay.j1 kj19 l1 t113 true l0_0 t110 t122)))))) else (some false))) = some r := H
              have A74 := Aside0.mk A740
              clear A740
              replace H := Option.bind_eq_some_iff.mp H
              obtain ⟨t135, A750, H⟩ := H
              replace H : (if t135 = true then ((laws_markMillPlace.f kj19 t115 1).bind fun bt136 => ((laws_markMillFileS.f kj19 t119 bt136.1).bind fun bt138 => (if bt138.1 < 0 then (laws_FnExactMillLay.j1 kj19 l1 t113 true l0_0 t110 t122) else ((laws_eqMillPlace.f kj19 t122 t110).bind fun t140 => (if t140 = true then (laws_FnExactMillLay.j1 kj19 l1 t113 (t125 != t113) l0_0 t110 t122) else (laws_FnExactMillLay.j1 kj19 l1 t113 true l0_0 t110 t122)))))) else (some false)) = some r := H
              have A75 := Aside0.mk A750
              clear A750
              by_cases c76 : t135 = true
              · subst c76
                have H1 : ((laws_markMillPlace.f kj19 t115 1).bind fun bt136 => ((laws_markMillFileS.f kj19 t119 bt136.1).bind fun bt138 => (if bt138.1 < 0 then (laws_FnExactMillLay.j1 kj19 l1 t113 true l0_0 t110 t122) else ((laws_eqMillPlace.f kj19 t122 t110).bind fun t140 => (if t140 = true then (laws_FnExactMillLay.j1 kj19 l1 t113 (t125 != t113) l0_0 t110 t122) else (laws_FnExactMillLay.j1 kj19 l1 t113 true l0_0 t110 t122)))))) = some r := by rw [if_pos rfl] at H; exact H
                clear H
                have H := H1
                clear H1
                replace H := Option.bind_eq_some_iff.mp H
                obtain ⟨⟨t136, t137⟩, A770, H⟩ := H
                replace H : ((laws_markMillFileS.f kj19 t119 t136).bind fun bt138 => (if bt138.1 < 0 then (laws_FnExactMillLay.j1 kj19 l1 t113 true l0_0 t110 t122) else ((laws_eqMillPlace.f kj19 t122 t110).bind fun t140 => (if t140 = true then (laws_FnExactMillLay.j1 kj19 l1 t113 (t125 != t113) l0_0 t110 t122) else (laws_FnExactMillLay.j1 kj19 l1 t113 true l0_0 t110 t122))))) = some r := H
                have A77 := Aside0.mk A770
                clear A770
                replace H := Option.bind_eq_some_iff.mp H
                obtain ⟨⟨t138, t139⟩, A780, H⟩ := H
                replace H : (if t138 < 0 then (laws_FnExactMillLay.j1 kj19 l1 t113 true l0_0 t110 t122) else ((laws_eqMillPlace.f kj19 t122 t110).bind fun t140 => (if t140 = true then (laws_FnExactMillLay.j1 kj19 l1 t113 (t125 != t113) l0_0 t110 t122) else (laws_FnExactMillLay.j1 kj19 l1 t113 true l0_0 t110 t122)))) = some r := H
                have A78 := Aside0.mk A780
                clear A780
                have HC79 := Aside0.mk H
                clear H
                try go_wp2
                have n0_ := Aside0.mk (Kd.R_drew HO_9.out)
                have n1_ := Aside0.mk (Kd.R_drew HO_115000.out)
                have n2_ := Aside0.mk (Kd.R_drew HO_119000.out)
                have n3_ := Aside0.mk (Kd.R_drew HO_127000.out)
                have n4_ := Aside0.mk (blk_drew BK101.out)
                have n5_ := Aside0.mk (blk_drew BK114.out)
                have n6_ := Aside0.mk (blk_drew BK118.out)
                have n7_ := Aside0.mk (blk_drew BK126.out)
                have n8_ := Aside0.mk (below_drew1 HB.out)
                clear HO_9
                clear HO_115000
                clear HO_119000
                clear HO_127000
                clear BK101
                clear BK114
                clear BK118
                clear BK126
                clear HB
                have HO_9 := n0_
                have HO_115000 := n1_
                have HO_119000 := n2_
                have HO_127000 := n3_
                have BK101 := n4_
                have BK114 := n5_
                have BK118 := n6_
                have BK126 := n7_
                have HB := n8_
                clear n0_ n1_ n2_ n3_ n4_ n5_ n6_ n7_ n8_
                refine start_ (n := 5) (S := fun w' => w'.cell? ⟨gb118, 0, none⟩ = some (.slice Ao38 t115.length co38) ∧ w'.cell? ⟨gb101, 0, none⟩ = some (.slice A0_0 l0_0.length c0_0)) (ds := []) #[false, false, false, false, false] (by kernel_rfl) rfl rfl ⟨(blk_cell BK118.out 0).trans rfl, (blk_cell BK101.out 0).trans rfl⟩ (fun hHeld => ?_)
                generalize wc.drew = w80 at HO_9 HO_115000 HO_119000 HO_127000 BK101 BK114 BK118 BK126 HB hHeld ⊢
                refine take_ (i := 0) (N := some 54) (v := ?_) (a' := ?_) #[true, false, false, false, false] rfl rfl (by kernel_rfl) (fun _ _ _ h => h) (Or.inl ⟨by rfl, ?_⟩) hHeld ?_ ?_
                rotate_left
                · rintro w' ⟨s0, s1⟩
                  go_simp
                  with_reducible rfl
                rotate_left
                · simp only [Act.put, List.setIfInBounds_toArray, List.set_cons_zero, List.set_cons_succ, i64_w, i32_w]
                  rfl
                refine take_ (i := 1) (N := some 55) (v := ?_) (a' := ?_) #[true, true, false, false, false] rfl rfl (by kernel_rfl) (fun _ _ _ h => h) (Or.inl ⟨by rfl, ?_⟩) hHeld ?_ ?_
                rotate_left
                · rintro w' ⟨s0, s1⟩
                  go_simp
                  with_reducible rfl
                rotate_left
                · simp only [Act.put, List.setIfInBounds_toArray, List.set_cons_zero, List.set_cons_succ, i64_w, i32_w]
                  rfl
                refine one_ (i := 2) (N := some 56) #[true, true, true, false, false] rfl rfl (by kernel_rfl) (by decide) (fun K hK => ?_)
                refine goes_ Try.func8 (by kernel_rfl) rfl #[.agg #[.slice A0_0 l0_0.length c0_0]] (by rfl) rfl rfl (by (try simp only [List.map_toArray, List.map_cons, List.map_nil]); first | done | rfl | (simp only [List.length_drop, List.length_take]; rfl)) ?_
                with_reducible refine (laws_toMillPlace.calls kj19 _ _ l0_0 t128 _ ?side1 ?side2 A71.out).mono ?_
                (case side1 => repeat (first | exact (Kd.C_below HR0_0.out HB.out) | (with_reducible refine Kd.C_alloc ?_ _) | (with_reducible refine Kd.C_drewN ?_ _) | (with_reducible refine Kd.C_drew ?_)))
                (case side2 => exact HC0_0.out)
                rintro e w81 ⟨v129, rfl, ho0, hb⟩
                refine ⟨_, rfl, ?_⟩
                have n0_ := Aside0.mk (Kd.R_elder' (by (with_reducible repeat (first | apply Kd.R_alloc | apply Kd.R_drewN | apply Kd.R_drew)); exact HO_9.out) (Kd.R_base ho0) hb)
                have n1_ := Aside0.mk (Kd.R_elder' (by (with_reducible repeat (first | apply Kd.R_alloc | apply Kd.R_drewN | apply Kd.R_drew)); exact HO_115000.out) (Kd.R_base ho0) hb)
                have n2_ := Aside0.mk (Kd.R_elder' (by (with_reducible repeat (first | apply Kd.R_alloc | apply Kd.R_drewN | apply Kd.R_drew)); exact HO_119000.out) (Kd.R_base ho0) hb)
                have n3_ := Aside0.mk (Kd.R_elder' (by (with_reducible repeat (first | apply Kd.R_alloc | apply Kd.R_drewN | apply Kd.R_drew)); exact HO_127000.out) (Kd.R_base ho0) hb)
                have n4_ := Aside0.mk (Kd.R_lower (Kd.R_new' (Kd.R_new' (Kd.R_new' (Kd.R_new' ho0 (Kd.R_lt (by (with_reducible repeat (first | apply Kd.R_alloc | apply Kd.R_drewN | apply Kd.R_drew)); exact HO_9.out))) (Kd.R_lt (by (with_reducible repeat (first | apply Kd.R_alloc | apply Kd.R_drewN | apply Kd.R_drew)); exact HO_115000.out))) (Kd.R_lt (by (with_reducible repeat (first | apply Kd.R_alloc | apply Kd.R_drewN | apply Kd.R_drew)); exact HO_119000.out))) (Kd.R_lt (by (with_reducible repeat (first | apply Kd.R_alloc | apply Kd.R_drewN | apply Kd.R_drew)); exact HO_127000.out))) (below_size (kb HB)))
                have n5_ := kB BK101 hb
                have n6_ := kB BK114 hb
                have n7_ := kB BK118 hb
                have n8_ := kB BK126 hb
                have n9_ := kS HB hb
                clear HO_9
                clear HO_115000
                clear HO_119000
                clear HO_127000
                clear BK101
                clear BK114
                clear BK118
                clear BK126
                clear HB
                have HO_9 := n0_
                have HO_115000 := n1_
                have HO_119000 := n2_
                have HO_127000 := n3_
                have HO130 := n4_
                have BK101 := n5_
                have BK114 := n6_
                have BK118 := n7_
                have BK126 := n8_
                have HB := n9_
                clear n0_ n1_ n2_ n3_ n4_ n5_ n6_ n7_ n8_ n9_
                (try clear hb)
                (try clear hb2)
                (try clear hk)
                (try clear hi)
                (try clear ho0)
                obtain ⟨Ao82, co82, eo82⟩ := Kd.R_slice HO130.out
                (first | subst eo82 | (injection eo82 with f1_ f2_ f3_; have f4_ := f1_.symm; have f5_ := f3_.symm; clear f1_ f2_ f3_; subst f4_; subst f5_))
                refine hK.out _ _ ⟨(blk_cell BK118.out 0).trans rfl, (blk_cell BK101.out 0).trans rfl⟩ (fun hHeld => ?_)
                clear hK K
                refine norm_ (a' := ?_) ?_ ?_
                rotate_left
                · show Act.put _ (some 56) _ = _
                  simp only [Act.put, List.setIfInBounds_toArray, List.set_cons_zero, List.set_cons_succ, i64_w, i32_w]
                  rfl
                refine one_ (i := 3) (N := some 57) #[true, true, true, true, false] rfl rfl (by kernel_rfl) (by decide) (fun K hK => ?_)
                refine goes_ Try.func11 (by kernel_rfl) rfl #[.agg #[.slice Ao38 t115.length co38], .agg #[.slice Ao82 t128.length co82]] (by rfl) rfl rfl (by (try simp only [List.map_toArray, List.map_cons, List.map_nil]); first | done | rfl | (simp only [List.length_drop, List.length_take]; rfl)) ?_
                with_reducible refine (laws_eqMillPlace.calls kj19 _ _ t115 _ _ t128 true _ ?side1 ?side2 ?side3 ?side4 A72.out).mono ?_
                (case side1 => repeat (first | exact (Kd.R_reads' HO_119000.out).2.2 | (with_reducible refine Kd.C_alloc ?_ _) | (with_reducible refine Kd.C_drewN ?_ _) | (with_reducible refine Kd.C_drew ?_)))
                (case side2 => exact (Kd.R_reads' HO_119000.out).2.1)
                (case side3 => repeat (first | exact (Kd.R_reads' HO130.out).2.2 | (with_reducible refine Kd.C_alloc ?_ _) | (with_reducible refine Kd.C_drewN ?_ _) | (with_reducible refine Kd.C_drew ?_)))
                (case side4 => exact (Kd.R_reads' HO130.out).2.1)
                rintro e w83 ⟨rfl, hb⟩
                refine ⟨_, rfl, ?_⟩
                have n0_ := Aside0.mk (Kd.R_below (by (with_reducible repeat (first | apply Kd.R_alloc | apply Kd.R_drewN | apply Kd.R_drew)); exact HO_9.out) hb)
                have n1_ := Aside0.mk (Kd.R_below (by (with_reducible repeat (first | apply Kd.R_alloc | apply Kd.R_drewN | apply Kd.R_drew)); exact HO_115000.out) hb)
                have n2_ := Aside0.mk (Kd.R_below (by (with_reducible repeat (first | apply Kd.R_alloc | apply Kd.R_drewN | apply Kd.R_drew)); exact HO_119000.out) hb)
                have n3_ := Aside0.mk (Kd.R_below (by (with_reducible repeat (first | apply Kd.R_alloc | apply Kd.R_drewN | apply Kd.R_drew)); exact HO_127000.out) hb)
                have n4_ := Aside0.mk (Kd.R_below (by (with_reducible repeat (first | apply Kd.R_alloc | apply Kd.R_drewN | apply Kd.R_drew)); exact HO130.out) hb)
                have n5_ := kB BK101 hb
                have n6_ := kB BK114 hb
                have n7_ := kB BK118 hb
                have n8_ := kB BK126 hb
                have n9_ := kS HB hb
                clear HO_9
                clear HO_115000
                clear HO_119000
                clear HO_127000
                clear HO130
                clear BK101
                clear BK114
                clear BK118
                clear BK126
                clear HB
                have HO_9 := n0_
                have HO_115000 := n1_
                have HO_119000 := n2_
                have HO_127000 := n3_
                have HO130 := n4_
                have BK101 := n5_
                have BK114 := n6_
                have BK118 := n7_
                have BK126 := n8_
                have HB := n9_
                clear n0_ n1_ n2_ n3_ n4_ n5_ n6_ n7_ n8_ n9_
                (try clear hb)
                (try clear hb2)
                (try clear hk)
                (try clear hi)
                refine hK.out _ _ ⟨(blk_cell BK118.out 0).trans rfl, (blk_cell BK101.out 0).trans rfl⟩ (fun hHeld => ?_)
                clear hK K
                refine norm_ (a' := ?_) ?_ ?_
                rotate_left
                · show Act.put _ (some 57) _ = _
                  simp only [Act.put, List.setIfInBounds_toArray, List.set_cons_zero, List.set_cons_succ, i64_w, i32_w]
                  rfl
                refine pure_ (i := 4) (N := some 58) (v := ?_) (a' := ?_) #[true, true, true, true, true] rfl rfl (by kernel_rfl) (fun _ _ _ h => h) (Or.inl ⟨by rfl, ?_⟩) ?_ ?_
                rotate_left
                · intro w'
                  go_simp
                  with_reducible rfl
                rotate_left
                · simp only [Act.put, List.setIfInBounds_toArray, List.set_cons_zero, List.set_cons_succ, i64_w, i32_w]
                  rfl
                refine done_ (by kernel_rfl) ?_
                go_upto_region 21 with (first | ((with_reducible refine gate_callee (f := 9) rfl ?_); refine goesL_ (some 61) rfl rfl Try.func9 (by kernel_rfl) rfl #[.slice A1 l1.length c1] rfl (by (try simp only [List.map_toArray, List.map_cons, List.map_nil]); first | done | rfl | (simp only [List.length_drop, List.length_take]; rfl)) ?_; (with_reducible refine (laws_toMillFileS.calls kj19 _ _ l1 t132 _ ?side1 ?side2 A74.out).mono ?_); (case side1 => repeat (first | exact (Kd.C_below HR1.out HB.out) | (with_reducible refine Kd.C_alloc ?_ _) | (with_reducible refine Kd.C_drewN ?_ _) | (with_reducible refine Kd.C_drew ?_))); (case side2 => exact HC1.out); rintro e w84 ⟨v133, rfl, ho0, hb⟩; refine ⟨_, rfl, ?_⟩; have HO134 := Aside0.mk (Kd.R_lower (Kd.R_new' (Kd.R_new' (Kd.R_new' (Kd.R_new' (Kd.R_new' ho0 (Kd.R_lt (by (with_reducible repeat (first | apply Kd.R_alloc | apply Kd.R_drewN | apply Kd.R_drew)); exact HO_9.out))) (Kd.R_lt (by (with_reducible repeat (first | apply Kd.R_alloc | apply Kd.R_drewN | apply Kd.R_drew)); exact HO_115000.out))) (Kd.R_lt (by (with_reducible repeat (first | apply Kd.R_alloc | apply Kd.R_drewN | apply Kd.R_drew)); exact HO_119000.out))) (Kd.R_lt (by (with_reducible repeat (first | apply Kd.R_alloc | apply Kd.R_drewN | apply Kd.R_drew)); exact HO_127000.out))) (Kd.R_lt (by (with_reducible repeat (first | apply Kd.R_alloc | apply Kd.R_drewN | apply Kd.R_drew)); exact HO130.out))) (below_size (kb HB))); replace HO_9 := Aside0.mk (Kd.R_elder' (by (with_reducible repeat (first | apply Kd.R_alloc | apply Kd.R_drewN | apply Kd.R_drew)); exact HO_9.out) (Kd.R_base ho0) hb); replace HO_115000 := Aside0.mk (Kd.R_elder' (by (with_reducible repeat (first | apply Kd.R_alloc | apply Kd.R_drewN | apply Kd.R_drew)); exact HO_115000.out) (Kd.R_base ho0) hb); replace HO_119000 := Aside0.mk (Kd.R_elder' (by (with_reducible repeat (first | apply Kd.R_alloc | apply Kd.R_drewN | apply Kd.R_drew)); exact HO_119000.out) (Kd.R_base ho0) hb); replace HO_127000 := Aside0.mk (Kd.R_elder' (by (with_reducible repeat (first | apply Kd.R_alloc | apply Kd.R_drewN | apply Kd.R_drew)); exact HO_127000.out) (Kd.R_base ho0) hb); replace HO130 := Aside0.mk (Kd.R_elder' (by (with_reducible repeat (first | apply Kd.R_alloc | apply Kd.R_drewN | apply Kd.R_drew)); exact HO130.out) (Kd.R_base ho0) hb); replace BK101 := kB BK101 hb; replace BK114 := kB BK114 hb; replace BK118 := kB BK118 hb; replace BK126 := kB BK126 hb; replace HB := kS HB hb; (try clear ho0); obtain ⟨Ao85, co85, eo85⟩ := Kd.R_slice HO134.out; subst eo85) | ((with_reducible refine gate_callee (f := 12) rfl ?_); refine gL (some 62) Try.func12 #[.slice Ao44 t119.length co44, .slice Ao85 t132.length co85] (laws_eqMillFileS.calls kj19 _ _ t119 _ _ t132 true _ ?side1 ?side2 ?side3 ?side4 A75.out) ?_; (case side1 => repeat (first | exact (Kd.R_reads' HO_9.out).2.2 | (with_reducible refine Kd.C_alloc ?_ _) | (with_reducible refine Kd.C_drewN ?_ _) | (with_reducible refine Kd.C_drew ?_))); (case side2 => exact (Kd.R_reads' HO_9.out).2.1); (case side3 => repeat (first | exact (Kd.R_reads' HO134.out).2.2 | (with_reducible refine Kd.C_alloc ?_ _) | (with_reducible refine Kd.C_drewN ?_ _) | (with_reducible refine Kd.C_drew ?_))); (case side4 => exact (Kd.R_reads' HO134.out).2.1); intro w86 hb; replace HO_9 := Aside0.mk (Kd.R_below (by (with_reducible repeat (first | apply Kd.R_alloc | apply Kd.R_drewN | apply Kd.R_drew)); exact HO_9.out) hb); replace HO_115000 := Aside0.mk (Kd.R_below (by (with_reducible repeat (first | apply Kd.R_alloc | apply Kd.R_drewN | apply Kd.R_drew)); exact HO_115000.out) hb); replace HO_119000 := Aside0.mk (Kd.R_below (by (with_reducible repeat (first | apply Kd.R_alloc | apply Kd.R_drewN | apply Kd.R_drew)); exact HO_119000.out) hb); replace HO_127000 := Aside0.mk (Kd.R_below (by (with_reducible repeat (first | apply Kd.R_alloc | apply Kd.R_drewN | apply Kd.R_drew)); exact HO_127000.out) hb); replace HO130 := Aside0.mk (Kd.R_below (by (with_reducible repeat (first | apply Kd.R_alloc | apply Kd.R_drewN | apply Kd.R_drew)); exact HO130.out) hb); replace HO134 := Aside0.mk (Kd.R_below (by (with_reducible repeat (first | apply Kd.R_alloc | apply Kd.R_drewN | apply Kd.R_drew)); exact HO134.out) hb); replace BK101 := kB BK101 hb; replace BK114 := kB BK114 hb; replace BK118 := kB BK118 hb; replace BK126 := kB BK126 hb; replace HB := kS HB hb; have hnb87 := NB118_101.out; have hnc87 := NB101_118.out; have hnb88 := NB118_114.out; have hnc88 := NB114_118.out; have hnb89 := NB118_126.out; have hnc89 := NB126_118.out; obtain ⟨hcz90_0, hfz90_0⟩ := bf1 BK118) | ((with_reducible refine gate_callee (f := 13) rfl ?_); refine goesL_ (some 66) rfl rfl Try.func13 (by kernel_rfl) rfl #[.agg #[.slice Ao38 t115.length co38], .int .i64 1] rfl (by (try simp only [List.map_toArray, List.map_cons, List.map_nil]); first | done | rfl | (simp only [List.length_drop, List.length_take]; rfl)) ?_; (with_reducible refine (laws_markMillPlace.calls kj19 (fun k_ => some k_ = (.slice Ao38 t115.length co38 : Value).ownBlock) (.slice Ao38 t115.length co38) t115 1 t136 t137 w _ ?side1 ?side2 A77.out).mono ?_); (case side1 => repeat (first | (with_reducible first | exact HB.out | apply below_alloc | apply pw_below_drewN | apply below_drew1 | refine below_set ?_ GE101.out | refine below_set ?_ GE114.out | refine below_set ?_ GE118.out | refine below_set ?_ GE126.out) | exact HB.out)); (case side2 => exact Kd.R_tight rfl HO_119000.out); rintro e w91 ⟨rfl, hy0, hb, hkp⟩; refine ⟨_, rfl, ?_⟩; have n0_ := Aside0.mk (Kd.R_mono (ok' := fun k_ => some k_ ≠ (.slice Ao32 t110.length co32 : Value).ownBlock ∧ some k_ ≠ (.slice Ao38 t115.length co38 : Value).ownBlock ∧ some k_ ≠ (.slice Ao47 t122.length co47 : Value).ownBlock ∧ some k_ ≠ (.slice Ao82 t128.length co82 : Value).ownBlock ∧ some k_ ≠ (.slice Ao85 t132.length co85 : Value).ownBlock) (Kd.R_keptB (HO_9.out) hkp (fun k_ hk_ hs_ => (hk_.1.1.2.1) hs_)) (fun k_ hk_ => ⟨hk_.1.1.1.1, hk_.1.1.1.2.1, hk_.1.1.1.2.2, hk_.1.1.2, hk_.1.2⟩)); have n1_ := Aside0.mk (Kd.R_mono (ok' := fun k_ => some k_ ≠ (.slice Ao44 t119.length co44 : Value).ownBlock ∧ some k_ ≠ (.slice Ao38 t115.length co38 : Value).ownBlock ∧ some k_ ≠ (.slice Ao47 t122.length co47 : Value).ownBlock ∧ some k_ ≠ (.slice Ao82 t128.length co82 : Value).ownBlock ∧ some k_ ≠ (.slice Ao85 t132.length co85 : Value).ownBlock) (Kd.R_keptB (HO_115000.out) hkp (fun k_ hk_ hs_ => (hk_.1.1.2.1) hs_)) (fun k_ hk_ => ⟨hk_.1.1.1.1, hk_.1.1.1.2.1, hk_.1.1.1.2.2, hk_.1.1.2, hk_.1.2⟩)); have n2_ := Aside0.mk (Kd.R_reok rfl hy0 (fun k_ e_ => HO_119000.out.1 k_ e_)); have n3_ := Aside0.mk (Kd.R_mono (ok' := fun k_ => some k_ ≠ (.slice Ao44 t119.length co44 : Value).ownBlock ∧ some k_ ≠ (.slice Ao32 t110.length co32 : Value).ownBlock ∧ some k_ ≠ (.slice Ao38 t115.length co38 : Value).ownBlock ∧ some k_ ≠ (.slice Ao82 t128.length co82 : Value).ownBlock ∧ some k_ ≠ (.slice Ao85 t132.length co85 : Value).ownBlock) (Kd.R_keptB (HO_127000.out) hkp (fun k_ hk_ hs_ => (hk_.1.1.2.2) hs_)) (fun k_ hk_ => ⟨hk_.1.1.1.1, hk_.1.1.1.2.1, hk_.1.1.1.2.2, hk_.1.1.2, hk_.1.2⟩)); have n4_ := Aside0.mk (blk_kept (kp BK101) hkp (fun hs_ => (fun e_ => (Kd.R_ne HO_119000.out BK101.out (by decide)) e_) hs_)); have n5_ := Aside0.mk (blk_kept (kp BK114) hkp (fun hs_ => (fun e_ => (Kd.R_ne HO_119000.out BK114.out (by decide)) e_) hs_)); have n6_ := Aside0.mk (blk_kept (kp BK118) hkp (fun hs_ => (fun e_ => (Kd.R_ne HO_119000.out BK118.out (by decide)) e_) hs_)); have n7_ := Aside0.mk (blk_kept (kp BK126) hkp (fun hs_ => (fun e_ => (Kd.R_ne HO_119000.out BK126.out (by decide)) e_) hs_)); have n8_ := Aside0.mk (Kd.R_mono (ok' := fun k_ => some k_ ≠ (.slice Ao44 t119.length co44 : Value).ownBlock ∧ some k_ ≠ (.slice Ao32 t110.length co32 : Value).ownBlock ∧ some k_ ≠ (.slice Ao38 t115.length co38 : Value).ownBlock ∧ some k_ ≠ (.slice Ao47 t122.length co47 : Value).ownBlock ∧ some k_ ≠ (.slice Ao85 t132.length co85 : Value).ownBlock) (Kd.R_keptB (HO130.out) hkp (fun k_ hk_ hs_ => (hk_.1.1.2) hs_)) (fun k_ hk_ => ⟨hk_.1.1.1.1.1.2, hk_.1.1.1.1.2, hk_.1.1.1.2, hk_.1.1.2, hk_.1.2⟩)); have n9_ := Aside0.mk (Kd.R_mono (ok' := fun k_ => some k_ ≠ (.slice Ao44 t119.length co44 : Value).ownBlock ∧ some k_ ≠ (.slice Ao32 t110.length co32 : Value).ownBlock ∧ some k_ ≠ (.slice Ao38 t115.length co38 : Value).ownBlock ∧ some k_ ≠ (.slice Ao47 t122.length co47 : Value).ownBlock ∧ some k_ ≠ (.slice Ao82 t128.length co82 : Value).ownBlock) (Kd.R_keptB (HO134.out) hkp (fun k_ hk_ hs_ => (hk_.1.1.2) hs_)) (fun k_ hk_ => ⟨hk_.1.1.1.1.1.2, hk_.1.1.1.1.2, hk_.1.1.1.2, hk_.1.1.2, hk_.1.2⟩)); have n10_ := Aside0.mk (hb); clear HO_9; clear HO_115000; clear HO_119000; clear HO_127000; clear BK101; clear BK114; clear BK118; clear BK126; clear HO130; clear HO134; clear HB; have HO_9 := n0_; have HO_115000 := n1_; have HO_119000 := n2_; have HO_127000 := n3_; have BK101 := n4_; have BK114 := n5_; have BK118 := n6_; have BK126 := n7_; have HO130 := n8_; have HO134 := n9_; have HB := n10_; clear n0_ n1_ n2_ n3_ n4_ n5_ n6_ n7_ n8_ n9_ n10_; (try clear hb); (try clear hkp); (try clear hy0)) | ((with_reducible refine gate_callee (f := 14) rfl ?_); refine goesL_ (some 69) rfl rfl Try.func14 (by kernel_rfl) rfl #[.slice Ao44 t119.length co44, .int .i64 t136] rfl (by (try simp only [List.map_toArray, List.map_cons, List.map_nil]); first | done | rfl | (simp only [List.length_drop, List.length_take]; rfl)) ?_; (with_reducible refine (laws_markMillFileS.calls kj19 (fun k_ => some k_ = (.slice Ao44 t119.length co44 : Value).ownBlock) (.slice Ao44 t119.length co44) t119 t136 t138 t139 w _ ?side1 ?side2 A78.out).mono ?_); (case side1 => repeat (first | (with_reducible first | exact HB.out | apply below_alloc | apply pw_below_drewN | apply below_drew1 | refine below_set ?_ GE101.out | refine below_set ?_ GE114.out | refine below_set ?_ GE118.out | refine below_set ?_ GE126.out) | exact HB.out)); (case side2 => exact Kd.R_tight rfl HO_9.out); rintro e w92 ⟨rfl, hy0, hb, hkp⟩; refine ⟨_, rfl, ?_⟩; have n0_ := Aside0.mk (Kd.R_reok rfl hy0 (fun k_ e_ => HO_9.out.1 k_ e_)); have n1_ := Aside0.mk (Kd.R_mono (ok' := fun k_ => some k_ ≠ (.slice Ao44 t119.length co44 : Value).ownBlock ∧ some k_ ≠ (.slice Ao38 t115.length co38 : Value).ownBlock ∧ some k_ ≠ (.slice Ao47 t122.length co47 : Value).ownBlock ∧ some k_ ≠ (.slice Ao82 t128.length co82 : Value).ownBlock ∧ some k_ ≠ (.slice Ao85 t132.length co85 : Value).ownBlock) (Kd.R_keptB (HO_115000.out) hkp (fun k_ hk_ hs_ => (hk_.1) hs_)) (fun k_ hk_ => ⟨hk_.1.1, hk_.1.2.1, hk_.1.2.2.1, hk_.1.2.2.2.1, hk_.1.2.2.2.2⟩)); have n2_ := Aside0.mk (Kd.R_mono (ok' := fun k_ => some k_ ≠ (.slice Ao44 t119.length co44 : Value).ownBlock ∧ some k_ ≠ (.slice Ao32 t110.length co32 : Value).ownBlock ∧ some k_ ≠ (.slice Ao47 t122.length co47 : Value).ownBlock ∧ some k_ ≠ (.slice Ao82 t128.length co82 : Value).ownBlock ∧ some k_ ≠ (.slice Ao85 t132.length co85 : Value).ownBlock) (Kd.R_keptB (HO_119000.out) hkp (fun k_ hk_ hs_ => (hk_.1.1.1) hs_)) (fun k_ hk_ => ⟨hk_.1.1.1.1, hk_.1.1.1.2.1, hk_.1.1.1.2.2, hk_.1.1.2, hk_.1.2⟩)); have n3_ := Aside0.mk (Kd.R_mono (ok' := fun k_ => some k_ ≠ (.slice Ao44 t119.length co44 : Value).ownBlock ∧ some k_ ≠ (.slice Ao32 t110.length co32 : Value).ownBlock ∧ some k_ ≠ (.slice Ao38 t115.length co38 : Value).ownBlock ∧ some k_ ≠ (.slice Ao82 t128.length co82 : Value).ownBlock ∧ some k_ ≠ (.slice Ao85 t132.length co85 : Value).ownBlock) (Kd.R_keptB (HO_127000.out) hkp (fun k_ hk_ hs_ => (hk_.1) hs_)) (fun k_ hk_ => ⟨hk_.1.1, hk_.1.2.1, hk_.1.2.2.1, hk_.1.2.2.2.1, hk_.1.2.2.2.2⟩)); have n4_ := Aside0.mk (blk_kept (kp BK101) hkp (fun hs_ => (fun e_ => (Kd.R_ne HO_9.out BK101.out (by decide)) e_) hs_)); have n5_ := Aside0.mk (blk_kept (kp BK114) hkp (fun hs_ => (fun e_ => (Kd.R_ne HO_9.out BK114.out (by decide)) e_) hs_)); have n6_ := Aside0.mk (blk_kept (kp BK118) hkp (fun hs_ => (fun e_ => (Kd.R_ne HO_9.out BK118.out (by decide)) e_) hs_)); have n7_ := Aside0.mk (blk_kept (kp BK126) hkp (fun hs_ => (fun e_ => (Kd.R_ne HO_9.out BK126.out (by decide)) e_) hs_)); have n8_ := Aside0.mk (Kd.R_mono (ok' := fun k_ => some k_ ≠ (.slice Ao44 t119.length co44 : Value).ownBlock ∧ some k_ ≠ (.slice Ao32 t110.length co32 : Value).ownBlock ∧ some k_ ≠ (.slice Ao38 t115.length co38 : Value).ownBlock ∧ some k_ ≠ (.slice Ao47 t122.length co47 : Value).ownBlock ∧ some k_ ≠ (.slice Ao85 t132.length co85 : Value).ownBlock) (Kd.R_keptB (HO130.out) hkp (fun k_ hk_ hs_ => (hk_.1) hs_)) (fun k_ hk_ => ⟨hk_.1.1, hk_.1.2.1, hk_.1.2.2.1, hk_.1.2.2.2.1, hk_.1.2.2.2.2⟩)); have n9_ := Aside0.mk (Kd.R_mono (ok' := fun k_ => some k_ ≠ (.slice Ao44 t119.length co44 : Value).ownBlock ∧ some k_ ≠ (.slice Ao32 t110.length co32 : Value).ownBlock ∧ some k_ ≠ (.slice Ao38 t115.length co38 : Value).ownBlock ∧ some k_ ≠ (.slice Ao47 t122.length co47 : Value).ownBlock ∧ some k_ ≠ (.slice Ao82 t128.length co82 : Value).ownBlock) (Kd.R_keptB (HO134.out) hkp (fun k_ hk_ hs_ => (hk_.1) hs_)) (fun k_ hk_ => ⟨hk_.1.1, hk_.1.2.1, hk_.1.2.2.1, hk_.1.2.2.2.1, hk_.1.2.2.2.2⟩)); have n10_ := Aside0.mk (hb); clear HO_9; clear HO_115000; clear HO_119000; clear HO_127000; clear BK101; clear BK114; clear BK118; clear BK126; clear HO130; clear HO134; clear HB; have HO_9 := n0_; have HO_115000 := n1_; have HO_119000 := n2_; have HO_127000 := n3_; have BK101 := n4_; have BK114 := n5_; have BK118 := n6_; have BK126 := n7_; have HO130 := n8_; have HO134 := n9_; have HB := n10_; clear n0_ n1_ n2_ n3_ n4_ n5_ n6_ n7_ n8_ n9_ n10_; (try clear hb); (try clear hkp); (try clear hy0)))
                (try simp only [Act.put, List.setIfInBounds_toArray, List.set_cons_zero, List.set_cons_succ])
                go_cut [82] (fun v82 wc => ∃ (kq : Nat) (x82_78 : Bool), v82 = .bool x82_78 ∧ Aside0 (laws_FnExactMillLay.j1 kq l1 t113 x82_78 l0_0 t110 t122 = some r) ∧ Aside0 (kq ≤ kj19) ∧ Aside0 (Kd.R k52 52 wc w.heap.size (fun k_ => some k_ ≠ ((.slice Ao38 t115.length co38) : Value).ownBlock ∧ some k_ ≠ ((.slice Ao47 t122.length co47) : Value).ownBlock) (.slice Ao32 t110.length co32) t110) ∧ Aside0 (Kd.R k52 52 wc w.heap.size (fun k_ => some k_ ≠ ((.slice Ao32 t110.length co32) : Value).ownBlock ∧ some k_ ≠ ((.slice Ao47 t122.length co47) : Value).ownBlock) (.slice Ao38 t115.length co38) t137) ∧ Aside0 (Kd.R k52 52 wc w.heap.size (fun k_ => some k_ ≠ ((.slice Ao32 t110.length co32) : Value).ownBlock ∧ some k_ ≠ ((.slice Ao38 t115.length co38) : Value).ownBlock) (.slice Ao47 t122.length co47) t122) ∧ Aside0 (wc.heap[gb101]? = some (.cells #[(.slice A0_0 l0_0.length c0_0)] 24 (0, 0))) ∧ Aside0 (wc.heap[gb114]? = some (.cells #[(.slice Ao32 t110.length co32)] 29 (0, 0))) ∧ Aside0 (wc.heap[gb118]? = some (.cells #[(.slice Ao38 t115.length co38)] 29 (0, 0))) ∧ Aside0 (wc.heap[gb126]? = some (.cells #[(.slice Ao47 t122.length co47)] 29 (0, 0))) ∧ Aside0 (Below w.heap.size w wc))
                case first =>
                  have H := HC79.out
                  clear HC79
                  by_cases c93 : t138 < 0
                  · rw [if_pos c93] at H
                    have c93b0 : decide (t138 < 0) = true := decide_eq_true c93
                    clear c93
                    (first | rw [c93b0] | (simp only [i64_w, i32_w]; rw [c93b0]) | skip)
                    have H' := Aside0.mk H
                    clear H
                    go_wp2
                    go_meet
                    case rel => exact ⟨_, (true), (by first | rfl | (simp; done) | (simp [*]; done)), H', ⟨by have := HJ19.out; first | omega | exact Nat.le_refl _⟩, ⟨by (with_reducible repeat (first | apply Kd.R_alloc | apply Kd.R_drewN | apply Kd.R_drew)); exact Kd.R_mono HO_115000.out (fun _ hk => ⟨hk.2.1, hk.2.2.1⟩)⟩, ⟨by (with_reducible repeat (first | apply Kd.R_alloc | apply Kd.R_drewN | apply Kd.R_drew)); exact Kd.R_mono HO_119000.out (fun _ hk => ⟨hk.2.1, hk.2.2.1⟩)⟩, ⟨by (with_reducible repeat (first | apply Kd.R_alloc | apply Kd.R_drewN | apply Kd.R_drew)); exact Kd.R_mono HO_127000.out (fun _ hk => ⟨hk.2.1, hk.2.2.1⟩)⟩, ⟨kp BK101⟩, ⟨kp BK114⟩, ⟨kp BK118⟩, ⟨kp BK126⟩, ⟨kb HB⟩⟩
                  · rw [if_neg c93] at H
                    have c93b0 : decide (t138 < 0) = false := decide_eq_false c93
                    clear c93
                    (first | rw [c93b0] | (simp only [i64_w, i32_w]; rw [c93b0]) | skip)
                    replace H := Option.bind_eq_some_iff.mp H
                    obtain ⟨t140, A940, H⟩ := H
                    replace H : (if t140 = true then (laws_FnExactMillLay.j1 kj19 l1 t113 (t125 != t113) l0_0 t110 t122) else (laws_FnExactMillLay.j1 kj19 l1 t113 true l0_0 t110 t122)) = some r := H
                    have A94 := Aside0.mk A940
                    clear A940
                    by_cases c95 : t140 = true
                    · subst c95
                      have H1 : (laws_FnExactMillLay.j1 kj19 l1 t113 (t125 != t113) l0_0 t110 t122) = some r := by rw [if_pos rfl] at H; exact H
                      clear H
                      have H := H1
                      clear H1
                      have H' := Aside0.mk H
                      clear H
                      have hnb96 := NB126_101.out
                      have hnc96 := NB101_126.out
                      have hnb97 := NB126_114.out
                      have hnc97 := NB114_126.out
                      have hnb98 := NB126_118.out
                      have hnc98 := NB118_126.out
                      obtain ⟨hcz99_0, hfz99_0⟩ := bf1 BK126
                      have hnb100 := NB114_101.out
                      have hnc100 := NB101_114.out
                      have hnb101 := NB114_118.out
                      have hnc101 := NB118_114.out
                      obtain ⟨hcz102_0, hfz102_0⟩ := bf1 BK114
                      go_wp2_with (first | (go_at_call 11; (with_reducible refine (laws_eqMillPlace.calls kj19 _ _ t122 _ _ t110 true _ ?side1 ?side2 ?side3 ?side4 A94.out).mono ?_); (case side1 => repeat (first | exact (Kd.R_reads' HO_127000.out).2.2 | (with_reducible refine Kd.C_alloc ?_ _) | (with_reducible refine Kd.C_drewN ?_ _) | (with_reducible refine Kd.C_drew ?_))); (case side2 => exact (Kd.R_reads' HO_127000.out).2.1); (case side3 => repeat (first | exact (Kd.R_reads' HO_115000.out).2.2 | (with_reducible refine Kd.C_alloc ?_ _) | (with_reducible refine Kd.C_drewN ?_ _) | (with_reducible refine Kd.C_drew ?_))); (case side4 => exact (Kd.R_reads' HO_115000.out).2.1); rintro e w103 ⟨rfl, hb⟩; replace HO_9 := Aside0.mk (Kd.R_below (by (with_reducible repeat (first | apply Kd.R_alloc | apply Kd.R_drewN | apply Kd.R_drew)); exact HO_9.out) hb); replace HO_115000 := Aside0.mk (Kd.R_below (by (with_reducible repeat (first | apply Kd.R_alloc | apply Kd.R_drewN | apply Kd.R_drew)); exact HO_115000.out) hb); replace HO_119000 := Aside0.mk (Kd.R_below (by (with_reducible repeat (first | apply Kd.R_alloc | apply Kd.R_drewN | apply Kd.R_drew)); exact HO_119000.out) hb); replace HO_127000 := Aside0.mk (Kd.R_below (by (with_reducible repeat (first | apply Kd.R_alloc | apply Kd.R_drewN | apply Kd.R_drew)); exact HO_127000.out) hb); replace HO130 := Aside0.mk (Kd.R_below (by (with_reducible repeat (first | apply Kd.R_alloc | apply Kd.R_drewN | apply Kd.R_drew)); exact HO130.out) hb); replace HO134 := Aside0.mk (Kd.R_below (by (with_reducible repeat (first | apply Kd.R_alloc | apply Kd.R_drewN | apply Kd.R_drew)); exact HO134.out) hb); replace BK101 := kB BK101 hb; replace BK114 := kB BK114 hb; replace BK118 := kB BK118 hb; replace BK126 := kB BK126 hb; replace HB := kS HB hb))
                      go_meet
                      case rel => exact ⟨_, ((t125 != t113)), (by first | rfl | (simp; done) | (simp [*]; done)), H', ⟨by have := HJ19.out; first | omega | exact Nat.le_refl _⟩, ⟨by (with_reducible repeat (first | apply Kd.R_alloc | apply Kd.R_drewN | apply Kd.R_drew)); exact Kd.R_mono HO_115000.out (fun _ hk => ⟨hk.2.1, hk.2.2.1⟩)⟩, ⟨by (with_reducible repeat (first | apply Kd.R_alloc | apply Kd.R_drewN | apply Kd.R_drew)); exact Kd.R_mono HO_119000.out (fun _ hk => ⟨hk.2.1, hk.2.2.1⟩)⟩, ⟨by (with_reducible repeat (first | apply Kd.R_alloc | apply Kd.R_drewN | apply Kd.R_drew)); exact Kd.R_mono HO_127000.out (fun _ hk => ⟨hk.2.1, hk.2.2.1⟩)⟩, ⟨kp BK101⟩, ⟨kp BK114⟩, ⟨kp BK118⟩, ⟨kp BK126⟩, ⟨kb HB⟩⟩
                    · replace c95 := Bool.eq_false_iff.mpr c95
                      subst c95
                      have H1 : (laws_FnExactMillLay.j1 kj19 l1 t113 true l0_0 t110 t122) = some r := by rw [if_neg (show ¬ (false = true) by decide)] at H; exact H
                      clear H
                      have H := H1
                      clear H1
                      have H' := Aside0.mk H
                      clear H
                      have hnb104 := NB126_101.out
                      have hnc104 := NB101_126.out
                      have hnb105 := NB126_114.out
                      have hnc105 := NB114_126.out
                      have hnb106 := NB126_118.out
                      have hnc106 := NB118_126.out
                      obtain ⟨hcz107_0, hfz107_0⟩ := bf1 BK126
                      have hnb108 := NB114_101.out
                      have hnc108 := NB101_114.out
                      have hnb109 := NB114_118.out
                      have hnc109 := NB118_114.out
                      obtain ⟨hcz110_0, hfz110_0⟩ := bf1 BK114
                      go_wp2_with (first | (go_at_call 11; (with_reducible refine (laws_eqMillPlace.calls kj19 _ _ t122 _ _ t110 false _ ?side1 ?side2 ?side3 ?side4 A94.out).mono ?_); (case side1 => repeat (first | exact (Kd.R_reads' HO_127000.out).2.2 | (with_reducible refine Kd.C_alloc ?_ _) | (with_reducible refine Kd.C_drewN ?_ _) | (with_reducible refine Kd.C_drew ?_))); (case side2 => exact (Kd.R_reads' HO_127000.out).2.1); (case side3 => repeat (first | exact (Kd.R_reads' HO_115000.out).2.2 | (with_reducible refine Kd.C_alloc ?_ _) | (with_reducible refine Kd.C_drewN ?_ _) | (with_reducible refine Kd.C_drew ?_))); (case side4 => exact (Kd.R_reads' HO_115000.out).2.1); rintro e w111 ⟨rfl, hb⟩; replace HO_9 := Aside0.mk (Kd.R_below (by (with_reducible repeat (first | apply Kd.R_alloc | apply Kd.R_drewN | apply Kd.R_drew)); exact HO_9.out) hb); replace HO_115000 := Aside0.mk (Kd.R_below (by (with_reducible repeat (first | apply Kd.R_alloc | apply Kd.R_drewN | apply Kd.R_drew)); exact HO_115000.out) hb); replace HO_119000 := Aside0.mk (Kd.R_below (by (with_reducible repeat (first | apply Kd.R_alloc | apply Kd.R_drewN | apply Kd.R_drew)); exact HO_119000.out) hb); replace HO_127000 := Aside0.mk (Kd.R_below (by (with_reducible repeat (first | apply Kd.R_alloc | apply Kd.R_drewN | apply Kd.R_drew)); exact HO_127000.out) hb); replace HO130 := Aside0.mk (Kd.R_below (by (with_reducible repeat (first | apply Kd.R_alloc | apply Kd.R_drewN | apply Kd.R_drew)); exact HO130.out) hb); replace HO134 := Aside0.mk (Kd.R_below (by (with_reducible repeat (first | apply Kd.R_alloc | apply Kd.R_drewN | apply Kd.R_drew)); exact HO134.out) hb); replace BK101 := kB BK101 hb; replace BK114 := kB BK114 hb; replace BK118 := kB BK118 hb; replace BK126 := kB BK126 hb; replace HB := kS HB hb))
                      go_meet
                      case rel => exact ⟨_, (true), (by first | rfl | (simp; done) | (simp [*]; done)), H', ⟨by have := HJ19.out; first | omega | exact Nat.le_refl _⟩, ⟨by (with_reducible repeat (first | apply Kd.R_alloc | apply Kd.R_drewN | apply Kd.R_drew)); exact Kd.R_mono HO_115000.out (fun _ hk => ⟨hk.2.1, hk.2.2.1⟩)⟩, ⟨by (with_reducible repeat (first | apply Kd.R_alloc | apply Kd.R_drewN | apply Kd.R_drew)); exact Kd.R_mono HO_119000.out (fun _ hk => ⟨hk.2.1, hk.2.2.1⟩)⟩, ⟨by (with_reducible repeat (first | apply Kd.R_alloc | apply Kd.R_drewN | apply Kd.R_drew)); exact Kd.R_mono HO_127000.out (fun _ hk => ⟨hk.2.1, hk.2.2.1⟩)⟩, ⟨kp BK101⟩, ⟨kp BK114⟩, ⟨kp BK118⟩, ⟨kp BK126⟩, ⟨kb HB⟩⟩
                case rest =>
                  clear HC79
                  obtain ⟨kq, x82_78, rfl, HA, HJ78, HO_115000, HO_119000, HO_127000, BK101, BK114, BK118, BK126, HB⟩ := hcut
                  have hl119000_78 := (Kd.R_reads' HO_119000.out).1
                  rw [hl119000_78] at HO_119000
                  (try simp only [hl119000_78])
                  (try simp only [hl119000_78] at BK101)
                  (try simp only [hl119000_78] at BK114)
                  (try simp only [hl119000_78] at BK118)
                  (try simp only [hl119000_78] at BK126)
                  (try simp only [hl119000_78] at HO_115000)
                  (try simp only [hl119000_78] at HO_127000)
                  cases kq with
                  | zero => exact absurd HA.out (by simp [laws_FnExactMillLay.j1])
                  | succ kj78 =>
                    have H := HA.out
                    clear HA
                    simp only [laws_FnExactMillLay.j1] at H
                    by_cases c112 : x82_78 = true
                    · subst c112
                      have H1 : (some false) = some r := by rw [if_pos rfl] at H; exact H
                      clear H
                      have H := H1
                      clear H1
                      obtain rfl := Option.some.inj H
                      go_wp2
                      go_ret
                      exact ⟨by first | rfl | (simp [errW_none, errW_some] <;> rfl) | (simp [*, errW_none, errW_some] <;> rfl), kb HB⟩
                    · replace c112 := Bool.eq_false_iff.mpr c112
                      subst c112
                      have H1 : ((laws_markMillPlace.f kj78 t122 1).bind fun bt141 => ((laws_heldMillPlace.f kj78 bt141.2 1).bind fun t143 => (if t143 < 0 then (some false) else (if t143 = bt141.1 then ((laws_toMillPlace.f kj78 l0_0).bind fun t144 => ((laws_toMillFileS.f kj78 l1).bind fun t147 => ((impl_MillLay.f kj78 t144 t147).bind fun bt150 => ((laws_eqMillPlace.f kj78 bt150.1 t110).bind fun t155 => (if t155 = true then (laws_FnExactMillLay.j2 kj78 bt141.1 (bt150.2 != t113) bt141.2) else (laws_FnExactMillLay.j2 kj78 bt141.1 true bt141.2)))))) else (some false))))) = some r := by rw [if_neg (show ¬ (false = true) by decide)] at H; exact H
                      clear H
                      have H := H1
                      clear H1
                      replace H := Option.bind_eq_some_iff.mp H
                      obtain ⟨⟨t141, t142⟩, A1130, H⟩ := H
                      replace H : ((laws_heldMillPlace.f kj78 t142 1).bind fun t143 => (if t143 < 0 then (some false) else (if t143 = t141 then ((laws_toMillPlace.f kj78 l0_0).bind fun t144 => ((laws_toMillFileS.f kj78 l1).bind fun t147 => ((impl_MillLay.f kj78 t144 t147).bind fun bt150 => ((laws_eqMillPlace.f kj78 bt150.1 t110).bind fun t155 => (if t155 = true then (laws_FnExactMillLay.j2 kj78 t141 (bt150.2 != t113) t142) else (laws_FnExactMillLay.j2 kj78 t141 true t142)))))) else (some false)))) = some r := H
                      have A113 := Aside0.mk A1130
                      clear A1130
                      replace H := Option.bind_eq_some_iff.mp H
                      obtain ⟨t143, A1140, H⟩ := H
                      replace H : (if t143 < 0 then (some false) else (if t143 = t141 then ((laws_toMillPlace.f kj78 l0_0).bind fun t144 => ((laws_toMillFileS.f kj78 l1).bind fun t147 => ((impl_MillLay.f kj78 t144 t147).bind fun bt150 => ((laws_eqMillPlace.f kj78 bt150.1 t110).bind fun t155 => (if t155 = true then (laws_FnExactMillLay.j2 kj78 t141 (bt150.2 != t113) t142) else (laws_FnExactMillLay.j2 kj78 t141 true t142)))))) else (some false))) = some r := H
                      have A114 := Aside0.mk A1140
                      clear A1140
                      by_cases c115 : t143 < 0
                      · rw [if_pos c115] at H
                        have c115b0 : decide (t143 < 0) = true := decide_eq_true c115
                        clear c115
                        obtain rfl := Option.some.inj H
                        have hnb116 := NB126_101.out
                        have hnc116 := NB101_126.out
                        have hnb117 := NB126_114.out
                        have hnc117 := NB114_126.out
                        have hnb118 := NB126_118.out
                        have hnc118 := NB118_126.out
                        obtain ⟨hcz119_0, hfz119_0⟩ := bf1 BK126
                        go_wp2_with (first | ((with_reducible refine gate_callee (f := 13) rfl ?_); refine goesL_ (some 85) rfl rfl Try.func13 (by kernel_rfl) rfl #[.agg #[.slice Ao47 t122.length co47], .int .i64 1] rfl (by (try simp only [List.map_toArray, List.map_cons, List.map_nil]); first | done | rfl | (simp only [List.length_drop, List.length_take]; rfl)) ?_; (with_reducible refine (laws_markMillPlace.calls kj78 (fun k_ => some k_ = (.slice Ao47 t122.length co47 : Value).ownBlock) (.slice Ao47 t122.length co47) t122 1 t141 t142 w _ ?side1 ?side2 A113.out).mono ?_); (case side1 => repeat (first | (with_reducible first | exact HB.out | apply below_alloc | apply pw_below_drewN | apply below_drew1 | refine below_set ?_ GE101.out | refine below_set ?_ GE114.out | refine below_set ?_ GE118.out | refine below_set ?_ GE126.out) | exact HB.out)); (case side2 => exact Kd.R_tight rfl HO_127000.out); rintro e w120 ⟨rfl, hy0, hb, hkp⟩; refine ⟨_, rfl, ?_⟩; have n0_ := Aside0.mk (Kd.R_mono (ok' := fun k_ => some k_ ≠ (.slice Ao38 t137.length co38 : Value).ownBlock ∧ some k_ ≠ (.slice Ao47 t122.length co47 : Value).ownBlock) (Kd.R_keptB (HO_115000.out) hkp (fun k_ hk_ hs_ => (hk_.2) hs_)) (fun k_ hk_ => ⟨hk_.1.1, hk_.1.2⟩)); have n1_ := Aside0.mk (Kd.R_mono (ok' := fun k_ => some k_ ≠ (.slice Ao32 t110.length co32 : Value).ownBlock ∧ some k_ ≠ (.slice Ao47 t122.length co47 : Value).ownBlock) (Kd.R_keptB (HO_119000.out) hkp (fun k_ hk_ hs_ => (hk_.2) hs_)) (fun k_ hk_ => ⟨hk_.1.1, hk_.1.2⟩)); have n2_ := Aside0.mk (Kd.R_reok rfl hy0 (fun k_ e_ => HO_127000.out.1 k_ e_)); have n3_ := Aside0.mk (blk_kept (kp BK101) hkp (fun hs_ => (fun e_ => (Kd.R_ne HO_127000.out BK101.out (by decide)) e_) hs_)); have n4_ := Aside0.mk (blk_kept (kp BK114) hkp (fun hs_ => (fun e_ => (Kd.R_ne HO_127000.out BK114.out (by decide)) e_) hs_)); have n5_ := Aside0.mk (blk_kept (kp BK118) hkp (fun hs_ => (fun e_ => (Kd.R_ne HO_127000.out BK118.out (by decide)) e_) hs_)); have n6_ := Aside0.mk (blk_kept (kp BK126) hkp (fun hs_ => (fun e_ => (Kd.R_ne HO_127000.out BK126.out (by decide)) e_) hs_)); have n7_ := Aside0.mk (hb); clear HO_115000; clear HO_119000; clear HO_127000; clear BK101; clear BK114; clear BK118; clear BK126; clear HB; have HO_115000 := n0_; have HO_119000 := n1_; have HO_127000 := n2_; have BK101 := n3_; have BK114 := n4_; have BK118 := n5_; have BK126 := n6_; have HB := n7_; clear n0_ n1_ n2_ n3_ n4_ n5_ n6_ n7_; (try clear hb); (try clear hkp); (try clear hy0); obtain ⟨hcz121_0, hfz121_0⟩ := bf1 BK126) | ((with_reducible refine gate_callee (f := 15) rfl ?_); refine goesL_ (some 88) rfl rfl Try.func15 (by kernel_rfl) rfl #[.agg #[.slice Ao47 t142.length co47], .int .i64 1] rfl (by (try simp only [List.map_toArray, List.map_cons, List.map_nil]); first | done | (rw [show t142.length = t122.length from (Kd.R_reads' HO_127000.out).1.symm] <;> rfl) | rfl | (simp only [List.length_drop, List.length_take]; rfl)) ?_; (with_reducible refine (laws_heldMillPlace.calls kj78 _ _ t142 1 t143 _ ?side1 ?side2 A114.out).mono ?_); (case side1 => repeat (first | exact (Kd.R_reads' HO_127000.out).2.2 | (with_reducible refine Kd.C_alloc ?_ _) | (with_reducible refine Kd.C_drewN ?_ _) | (with_reducible refine Kd.C_drew ?_))); (case side2 => rw [show t142.length = t122.length from (Kd.R_reads' HO_127000.out).1.symm]; exact (Kd.R_reads' HO_127000.out).2.1); rintro e w122 ⟨rfl, hb⟩; refine ⟨_, rfl, ?_⟩; replace HO_115000 := Aside0.mk (Kd.R_below (by (with_reducible repeat (first | apply Kd.R_alloc | apply Kd.R_drewN | apply Kd.R_drew)); exact HO_115000.out) hb); replace HO_119000 := Aside0.mk (Kd.R_below (by (with_reducible repeat (first | apply Kd.R_alloc | apply Kd.R_drewN | apply Kd.R_drew)); exact HO_119000.out) hb); replace HO_127000 := Aside0.mk (Kd.R_below (by (with_reducible repeat (first | apply Kd.R_alloc | apply Kd.R_drewN | apply Kd.R_drew)); exact HO_127000.out) hb); replace BK101 := kB BK101 hb; replace BK114 := kB BK114 hb; replace BK118 := kB BK118 hb; replace BK126 := kB BK126 hb; replace HB := kS HB hb))
                        go_ret
                        exact ⟨by first | rfl | (simp [errW_none, errW_some] <;> rfl) | (simp [*, errW_none, errW_some] <;> rfl), kb HB⟩
                      · rw [if_neg c115] at H
                        have c115b0 : decide (t143 < 0) = false := decide_eq_false c115
                        clear c115
                        by_cases c123 : t143 = t141
                        · rw [if_pos c123] at H
                          have c123b0 : (t143 == t141) = true := beq_iff_eq.mpr c123
                          have c123b1 : (t143 != t141) = false := bne_eq_false_iff_eq.mpr c123
                          clear c123
                          replace H := Option.bind_eq_some_iff.mp H
                          obtain ⟨t144, A1240, H⟩ := H
                          replace H : ((laws_toMillFileS.f kj78 l1).bind fun t147 => ((impl_MillLay.f kj78 t144 t147).bind fun bt150 => ((laws_eqMillPlace.f kj78 bt150.1 t110).bind fun t155 => (if t155 = true then (laws_FnExactMillLay.j2 kj78 t141 (bt150.2 != t113) t142) else (laws_FnExactMillLay.j2 kj78 t141 true t142))))) = some r := H
                          have A124 := Aside0.mk A1240
                          clear A1240
                          replace H := Option.bind_eq_some_iff.mp H
                          obtain ⟨t147, A1250, H⟩ := H
                          replace H : ((impl_MillLay.f kj78 t144 t147).bind fun bt150 => ((laws_eqMillPlace.f kj78 bt150.1 t110).bind fun t155 => (if t155 = true then (laws_FnExactMillLay.j2 kj78 t141 (bt150.2 != t113) t142) else (laws_FnExactMillLay.j2 kj78 t141 true t142)))) = some r := H
                          have A125 := Aside0.mk A1250
                          clear A1250
                          replace H := Option.bind_eq_some_iff.mp H
                          obtain ⟨⟨t150, t153⟩, A1260, H⟩ := H
                          replace H : ((laws_eqMillPlace.f kj78 t150 t110).bind fun t155 => (if t155 = true then (laws_FnExactMillLay.j2 kj78 t141 (t153 != t113) t142) else (laws_FnExactMillLay.j2 kj78 t141 true t142))) = some r := H
                          have A126 := Aside0.mk A1260
                          clear A1260
                          have HC127 := Aside0.mk H
                          clear H
                          have hnb128 := NB126_101.out
                          have hnc128 := NB101_126.out
                          have hnb129 := NB126_114.out
                          have hnc129 := NB114_126.out
                          have hnb130 := NB126_118.out
                          have hnc130 := NB118_126.out
                          obtain ⟨hcz131_0, hfz131_0⟩ := bf1 BK126
                          go_upto_region 32 with (first | ((with_reducible refine gate_callee (f := 13) rfl ?_); refine goesL_ (some 85) rfl rfl Try.func13 (by kernel_rfl) rfl #[.agg #[.slice Ao47 t122.length co47], .int .i64 1] rfl (by (try simp only [List.map_toArray, List.map_cons, List.map_nil]); first | done | rfl | (simp only [List.length_drop, List.length_take]; rfl)) ?_; (with_reducible refine (laws_markMillPlace.calls kj78 (fun k_ => some k_ = (.slice Ao47 t122.length co47 : Value).ownBlock) (.slice Ao47 t122.length co47) t122 1 t141 t142 w _ ?side1 ?side2 A113.out).mono ?_); (case side1 => repeat (first | (with_reducible first | exact HB.out | apply below_alloc | apply pw_below_drewN | apply below_drew1 | refine below_set ?_ GE101.out | refine below_set ?_ GE114.out | refine below_set ?_ GE118.out | refine below_set ?_ GE126.out) | exact HB.out)); (case side2 => exact Kd.R_tight rfl HO_127000.out); rintro e w132 ⟨rfl, hy0, hb, hkp⟩; refine ⟨_, rfl, ?_⟩; have n0_ := Aside0.mk (Kd.R_mono (ok' := fun k_ => some k_ ≠ (.slice Ao38 t137.length co38 : Value).ownBlock ∧ some k_ ≠ (.slice Ao47 t122.length co47 : Value).ownBlock) (Kd.R_keptB (HO_115000.out) hkp (fun k_ hk_ hs_ => (hk_.2) hs_)) (fun k_ hk_ => ⟨hk_.1.1, hk_.1.2⟩)); have n1_ := Aside0.mk (Kd.R_mono (ok' := fun k_ => some k_ ≠ (.slice Ao32 t110.length co32 : Value).ownBlock ∧ some k_ ≠ (.slice Ao47 t122.length co47 : Value).ownBlock) (Kd.R_keptB (HO_119000.out) hkp (fun k_ hk_ hs_ => (hk_.2) hs_)) (fun k_ hk_ => ⟨hk_.1.1, hk_.1.2⟩)); have n2_ := Aside0.mk (Kd.R_reok rfl hy0 (fun k_ e_ => HO_127000.out.1 k_ e_)); have n3_ := Aside0.mk (blk_kept (kp BK101) hkp (fun hs_ => (fun e_ => (Kd.R_ne HO_127000.out BK101.out (by decide)) e_) hs_)); have n4_ := Aside0.mk (blk_kept (kp BK114) hkp (fun hs_ => (fun e_ => (Kd.R_ne HO_127000.out BK114.out (by decide)) e_) hs_)); have n5_ := Aside0.mk (blk_kept (kp BK118) hkp (fun hs_ => (fun e_ => (Kd.R_ne HO_127000.out BK118.out (by decide)) e_) hs_)); have n6_ := Aside0.mk (blk_kept (kp BK126) hkp (fun hs_ => (fun e_ => (Kd.R_ne HO_127000.out BK126.out (by decide)) e_) hs_)); have n7_ := Aside0.mk (hb); clear HO_115000; clear HO_119000; clear HO_127000; clear BK101; clear BK114; clear BK118; clear BK126; clear HB; have HO_115000 := n0_; have HO_119000 := n1_; have HO_127000 := n2_; have BK101 := n3_; have BK114 := n4_; have BK118 := n5_; have BK126 := n6_; have HB := n7_; clear n0_ n1_ n2_ n3_ n4_ n5_ n6_ n7_; (try clear hb); (try clear hkp); (try clear hy0); obtain ⟨hcz133_0, hfz133_0⟩ := bf1 BK126) | ((with_reducible refine gate_callee (f := 15) rfl ?_); refine goesL_ (some 88) rfl rfl Try.func15 (by kernel_rfl) rfl #[.agg #[.slice Ao47 t142.length co47], .int .i64 1] rfl (by (try simp only [List.map_toArray, List.map_cons, List.map_nil]); first | done | (rw [show t142.length = t122.length from (Kd.R_reads' HO_127000.out).1.symm] <;> rfl) | rfl | (simp only [List.length_drop, List.length_take]; rfl)) ?_; (with_reducible refine (laws_heldMillPlace.calls kj78 _ _ t142 1 t143 _ ?side1 ?side2 A114.out).mono ?_); (case side1 => repeat (first | exact (Kd.R_reads' HO_127000.out).2.2 | (with_reducible refine Kd.C_alloc ?_ _) | (with_reducible refine Kd.C_drewN ?_ _) | (with_reducible refine Kd.C_drew ?_))); (case side2 => rw [show t142.length = t122.length from (Kd.R_reads' HO_127000.out).1.symm]; exact (Kd.R_reads' HO_127000.out).2.1); rintro e w134 ⟨rfl, hb⟩; refine ⟨_, rfl, ?_⟩; replace HO_115000 := Aside0.mk (Kd.R_below (by (with_reducible repeat (first | apply Kd.R_alloc | apply Kd.R_drewN | apply Kd.R_drew)); exact HO_115000.out) hb); replace HO_119000 := Aside0.mk (Kd.R_below (by (with_reducible repeat (first | apply Kd.R_alloc | apply Kd.R_drewN | apply Kd.R_drew)); exact HO_119000.out) hb); replace HO_127000 := Aside0.mk (Kd.R_below (by (with_reducible repeat (first | apply Kd.R_alloc | apply Kd.R_drewN | apply Kd.R_drew)); exact HO_127000.out) hb); replace BK101 := kB BK101 hb; replace BK114 := kB BK114 hb; replace BK118 := kB BK118 hb; replace BK126 := kB BK126 hb; replace HB := kS HB hb; have hnb135 := NB101_114.out; have hnc135 := NB114_101.out; have hnb136 := NB101_118.out; have hnc136 := NB118_101.out; obtain ⟨hcz137_0, hfz137_0⟩ := bf1 BK101) | ((with_reducible refine gate_callee (f := 8) rfl ?_); refine goesL_ (some 96) rfl rfl Try.func8 (by kernel_rfl) rfl #[.agg #[.slice A0_0 l0_0.length c0_0]] rfl (by (try simp only [List.map_toArray, List.map_cons, List.map_nil]); first | done | rfl | (simp only [List.length_drop, List.length_take]; rfl)) ?_; (with_reducible refine (laws_toMillPlace.calls kj78 _ _ l0_0 t144 _ ?side1 ?side2 A124.out).mono ?_); (case side1 => repeat (first | exact (Kd.C_below HR0_0.out HB.out) | (with_reducible refine Kd.C_alloc ?_ _) | (with_reducible refine Kd.C_drewN ?_ _) | (with_reducible refine Kd.C_drew ?_))); (case side2 => exact HC0_0.out); rintro e w138 ⟨v145, rfl, ho0, hb⟩; refine ⟨_, rfl, ?_⟩; have HO146 := Aside0.mk (Kd.R_lower (Kd.R_new' (Kd.R_new' (Kd.R_new' ho0 (Kd.R_lt (by (with_reducible repeat (first | apply Kd.R_alloc | apply Kd.R_drewN | apply Kd.R_drew)); exact HO_115000.out))) (Kd.R_lt (by (with_reducible repeat (first | apply Kd.R_alloc | apply Kd.R_drewN | apply Kd.R_drew)); exact HO_119000.out))) (Kd.R_lt (by (with_reducible repeat (first | apply Kd.R_alloc | apply Kd.R_drewN | apply Kd.R_drew)); exact HO_127000.out))) (below_size (kb HB))); replace HO_115000 := Aside0.mk (Kd.R_elder' (by (with_reducible repeat (first | apply Kd.R_alloc | apply Kd.R_drewN | apply Kd.R_drew)); exact HO_115000.out) (Kd.R_base ho0) hb); replace HO_119000 := Aside0.mk (Kd.R_elder' (by (with_reducible repeat (first | apply Kd.R_alloc | apply Kd.R_drewN | apply Kd.R_drew)); exact HO_119000.out) (Kd.R_base ho0) hb); replace HO_127000 := Aside0.mk (Kd.R_elder' (by (with_reducible repeat (first | apply Kd.R_alloc | apply Kd.R_drewN | apply Kd.R_drew)); exact HO_127000.out) (Kd.R_base ho0) hb); replace BK101 := kB BK101 hb; replace BK114 := kB BK114 hb; replace BK118 := kB BK118 hb; replace BK126 := kB BK126 hb; replace HB := kS HB hb; (try clear ho0)) | ((with_reducible refine gate_callee (f := 9) rfl ?_); refine goesL_ (some 98) rfl rfl Try.func9 (by kernel_rfl) rfl #[.slice A1 l1.length c1] rfl (by (try simp only [List.map_toArray, List.map_cons, List.map_nil]); first | done | rfl | (simp only [List.length_drop, List.length_take]; rfl)) ?_; (with_reducible refine (laws_toMillFileS.calls kj78 _ _ l1 t147 _ ?side1 ?side2 A125.out).mono ?_); (case side1 => repeat (first | exact (Kd.C_below HR1.out HB.out) | (with_reducible refine Kd.C_alloc ?_ _) | (with_reducible refine Kd.C_drewN ?_ _) | (with_reducible refine Kd.C_drew ?_))); (case side2 => exact HC1.out); rintro e w139 ⟨v148, rfl, ho0, hb⟩; refine ⟨_, rfl, ?_⟩; have HO149 := Aside0.mk (Kd.R_lower (Kd.R_new' (Kd.R_new' (Kd.R_new' (Kd.R_new' ho0 (Kd.R_lt (by (with_reducible repeat (first | apply Kd.R_alloc | apply Kd.R_drewN | apply Kd.R_drew)); exact HO_115000.out))) (Kd.R_lt (by (with_reducible repeat (first | apply Kd.R_alloc | apply Kd.R_drewN | apply Kd.R_drew)); exact HO_119000.out))) (Kd.R_lt (by (with_reducible repeat (first | apply Kd.R_alloc | apply Kd.R_drewN | apply Kd.R_drew)); exact HO_127000.out))) (Kd.R_lt (by (with_reducible repeat (first | apply Kd.R_alloc | apply Kd.R_drewN | apply Kd.R_drew)); exact HO146.out))) (below_size (kb HB))); replace HO_115000 := Aside0.mk (Kd.R_elder' (by (with_reducible repeat (first | apply Kd.R_alloc | apply Kd.R_drewN | apply Kd.R_drew)); exact HO_115000.out) (Kd.R_base ho0) hb); replace HO_119000 := Aside0.mk (Kd.R_elder' (by (with_reducible repeat (first | apply Kd.R_alloc | apply Kd.R_drewN | apply Kd.R_drew)); exact HO_119000.out) (Kd.R_base ho0) hb); replace HO_127000 := Aside0.mk (Kd.R_elder' (by (with_reducible repeat (first | apply Kd.R_alloc | apply Kd.R_drewN | apply Kd.R_drew)); exact HO_127000.out) (Kd.R_base ho0) hb); replace HO146 := Aside0.mk (Kd.R_elder' (by (with_reducible repeat (first | apply Kd.R_alloc | apply Kd.R_drewN | apply Kd.R_drew)); exact HO146.out) (Kd.R_base ho0) hb); replace BK101 := kB BK101 hb; replace BK114 := kB BK114 hb; replace BK118 := kB BK118 hb; replace BK126 := kB BK126 hb; replace HB := kS HB hb; (try clear ho0); obtain ⟨Ao140, co140, eo140⟩ := Kd.R_slice HO146.out; subst eo140; obtain ⟨Ao141, co141, eo141⟩ := Kd.R_slice HO149.out; subst eo141) | ((with_reducible refine gate_callee (f := 10) rfl ?_); refine goesL_ (some 99) rfl rfl Try.func10 (by kernel_rfl) rfl #[.agg #[.slice Ao140 t144.length co140], .slice Ao141 t147.length co141] rfl (by (try simp only [List.map_toArray, List.map_cons, List.map_nil]); first | done | rfl | (simp only [List.length_drop, List.length_take]; rfl)) ?_; (with_reducible refine (impl_MillLay.calls kj78 _ _ t144 _ _ t147 t150 t153 _ ?side1 ?side2 ?side3 ?side4 A126.out).mono ?_); (case side1 => repeat (first | exact (Kd.R_reads' HO146.out).2.2 | (with_reducible refine Kd.C_alloc ?_ _) | (with_reducible refine Kd.C_drewN ?_ _) | (with_reducible refine Kd.C_drew ?_))); (case side2 => exact (Kd.R_reads' HO146.out).2.1); (case side3 => repeat (first | exact (Kd.R_reads' HO149.out).2.2 | (with_reducible refine Kd.C_alloc ?_ _) | (with_reducible refine Kd.C_drewN ?_ _) | (with_reducible refine Kd.C_drew ?_))); (case side4 => exact (Kd.R_reads' HO149.out).2.1); rintro e w142 ⟨v151, rfl, ho0, hb⟩; refine ⟨_, rfl, ?_⟩; have HO152 := Aside0.mk (Kd.R_lower (Kd.R_new' (Kd.R_new' (Kd.R_new' (Kd.R_new' (Kd.R_new' ho0 (Kd.R_lt (by (with_reducible repeat (first | apply Kd.R_alloc | apply Kd.R_drewN | apply Kd.R_drew)); exact HO_115000.out))) (Kd.R_lt (by (with_reducible repeat (first | apply Kd.R_alloc | apply Kd.R_drewN | apply Kd.R_drew)); exact HO_119000.out))) (Kd.R_lt (by (with_reducible repeat (first | apply Kd.R_alloc | apply Kd.R_drewN | apply Kd.R_drew)); exact HO_127000.out))) (Kd.R_lt (by (with_reducible repeat (first | apply Kd.R_alloc | apply Kd.R_drewN | apply Kd.R_drew)); exact HO146.out))) (Kd.R_lt (by (with_reducible repeat (first | apply Kd.R_alloc | apply Kd.R_drewN | apply Kd.R_drew)); exact HO149.out))) (below_size (kb HB))); replace HO_115000 := Aside0.mk (Kd.R_elder' (by (with_reducible repeat (first | apply Kd.R_alloc | apply Kd.R_drewN | apply Kd.R_drew)); exact HO_115000.out) (Kd.R_base ho0) hb); replace HO_119000 := Aside0.mk (Kd.R_elder' (by (with_reducible repeat (first | apply Kd.R_alloc | apply Kd.R_drewN | apply Kd.R_drew)); exact HO_119000.out) (Kd.R_base ho0) hb); replace HO_127000 := Aside0.mk (Kd.R_elder' (by (with_reducible repeat (first | apply Kd.R_alloc | apply Kd.R_drewN | apply Kd.R_drew)); exact HO_127000.out) (Kd.R_base ho0) hb); replace HO146 := Aside0.mk (Kd.R_elder' (by (with_reducible repeat (first | apply Kd.R_alloc | apply Kd.R_drewN | apply Kd.R_drew)); exact HO146.out) (Kd.R_base ho0) hb); replace HO149 := Aside0.mk (Kd.R_elder' (by (with_reducible repeat (first | apply Kd.R_alloc | apply Kd.R_drewN | apply Kd.R_drew)); exact HO149.out) (Kd.R_base ho0) hb); replace BK101 := kB BK101 hb; replace BK114 := kB BK114 hb; replace BK118 := kB BK118 hb; replace BK126 := kB BK126 hb; replace HB := kS HB hb; (try clear ho0)) | ((with_reducible refine gate_dst (N := 15) rfl ?_); refine gX 15 #[.slice none 0 0] 29 ?_; intro gb154 hg w143 hbox hb; have BK154 := Aside0.mk (hbox); have GW154 := gw hg (kb HB); have GE154 := gw hg (kb HB); have NB101_154 := nl hg (kp BK101); have NB154_101 := ng hg (kp BK101); have NB114_154 := nl hg (kp BK114); have NB154_114 := ng hg (kp BK114); have NB118_154 := nl hg (kp BK118); have NB154_118 := ng hg (kp BK118); have NB126_154 := nl hg (kp BK126); have NB154_126 := ng hg (kp BK126); replace HO_115000 := Aside0.mk (Kd.R_below (by (with_reducible repeat (first | apply Kd.R_alloc | apply Kd.R_drewN | apply Kd.R_drew)); exact HO_115000.out) hb); replace HO_119000 := Aside0.mk (Kd.R_below (by (with_reducible repeat (first | apply Kd.R_alloc | apply Kd.R_drewN | apply Kd.R_drew)); exact HO_119000.out) hb); replace HO_127000 := Aside0.mk (Kd.R_below (by (with_reducible repeat (first | apply Kd.R_alloc | apply Kd.R_drewN | apply Kd.R_drew)); exact HO_127000.out) hb); replace HO146 := Aside0.mk (Kd.R_below (by (with_reducible repeat (first | apply Kd.R_alloc | apply Kd.R_drewN | apply Kd.R_drew)); exact HO146.out) hb); replace HO149 := Aside0.mk (Kd.R_below (by (with_reducible repeat (first | apply Kd.R_alloc | apply Kd.R_drewN | apply Kd.R_drew)); exact HO149.out) hb); replace HO152 := Aside0.mk (Kd.R_below (by (with_reducible repeat (first | apply Kd.R_alloc | apply Kd.R_drewN | apply Kd.R_drew)); exact HO152.out) hb); replace BK101 := kB BK101 hb; replace BK114 := kB BK114 hb; replace BK118 := kB BK118 hb; replace BK126 := kB BK126 hb; replace HB := kS HB hb; clear hb hbox hg; obtain ⟨Ao144, co144, eo144⟩ := Kd.R_slice HO152.out; subst eo144; have hnb145 := NB154_101.out; have hnc145 := NB101_154.out; have hnb146 := NB154_114.out; have hnc146 := NB114_154.out; have hnb147 := NB154_118.out; have hnc147 := NB118_154.out; have hnb148 := NB154_126.out; have hnc148 := NB126_154.out; obtain ⟨hcz149_0, hfz149_0⟩ := bf1 BK154))
                          (try simp only [Act.put, List.setIfInBounds_toArray, List.set_cons_zero, List.set_cons_succ])
                          go_cut [110] (fun v110 wc => ∃ (kq : Nat) (x110_126 : Bool), v110 = .bool x110_126 ∧ Aside0 (laws_FnExactMillLay.j2 kq t141 x110_126 t142 = some r) ∧ Aside0 (kq ≤ kj78) ∧ Aside0 (Kd.R k52 52 wc w.heap.size (fun k_ => some k_ ≠ ((.slice Ao38 t137.length co38) : Value).ownBlock ∧ some k_ ≠ ((.slice Ao47 t122.length co47) : Value).ownBlock ∧ some k_ ≠ ((.slice Ao144 t150.length co144) : Value).ownBlock) (.slice Ao32 t110.length co32) t110) ∧ Aside0 (Kd.R k52 52 wc w.heap.size (fun k_ => some k_ ≠ ((.slice Ao32 t110.length co32) : Value).ownBlock ∧ some k_ ≠ ((.slice Ao47 t122.length co47) : Value).ownBlock ∧ some k_ ≠ ((.slice Ao144 t150.length co144) : Value).ownBlock) (.slice Ao38 t137.length co38) t137) ∧ Aside0 (Kd.R k52 52 wc w.heap.size (fun k_ => some k_ ≠ ((.slice Ao32 t110.length co32) : Value).ownBlock ∧ some k_ ≠ ((.slice Ao38 t137.length co38) : Value).ownBlock ∧ some k_ ≠ ((.slice Ao144 t150.length co144) : Value).ownBlock) (.slice Ao47 t122.length co47) t142) ∧ Aside0 (Kd.R k52 52 wc w.heap.size (fun k_ => some k_ ≠ ((.slice Ao32 t110.length co32) : Value).ownBlock ∧ some k_ ≠ ((.slice Ao38 t137.length co38) : Value).ownBlock ∧ some k_ ≠ ((.slice Ao47 t122.length co47) : Value).ownBlock) (.slice Ao144 t150.length co144) t150) ∧ Aside0 (wc.heap[gb101]? = some (.cells #[(.slice A0_0 l0_0.length c0_0)] 24 (0, 0))) ∧ Aside0 (wc.heap[gb114]? = some (.cells #[(.slice Ao32 t110.length co32)] 29 (0, 0))) ∧ Aside0 (wc.heap[gb118]? = some (.cells #[(.slice Ao38 t137.length co38)] 29 (0, 0))) ∧ Aside0 (wc.heap[gb126]? = some (.cells #[(.slice Ao47 t122.length co47)] 29 (0, 0))) ∧ Aside0 (wc.heap[gb154]? = some (.cells #[(.slice Ao144 t150.length co144)] 29 (0, 0))) ∧ Aside0 (Below w.heap.size w wc))
                          case first =>
                            have H := HC127.out
                            clear HC127
                            replace H := Option.bind_eq_some_iff.mp H
                            obtain ⟨t155, A1500, H⟩ := H
                            replace H : (if t155 = true then (laws_FnExactMillLay.j2 kj78 t141 (t153 != t113) t142) else (laws_FnExactMillLay.j2 kj78 t141 true t142)) = some r := H
                            have A150 := Aside0.mk A1500
                            clear A1500
                            by_cases c151 : t155 = true
                            · subst c151
                              have H1 : (laws_FnExactMillLay.j2 kj78 t141 (t153 != t113) t142) = some r := by rw [if_pos rfl] at H; exact H
                              clear H
                              have H := H1
                              clear H1
                              have H' := Aside0.mk H
                              clear H
                              have hnb152 := NB154_101.out
                              have hnc152 := NB101_154.out
                              have hnb153 := NB154_114.out
                              have hnc153 := NB114_154.out
                              have hnb154 := NB154_118.out
                              have hnc154 := NB118_154.out
                              have hnb155 := NB154_126.out
                              have hnc155 := NB126_154.out
                              obtain ⟨hcz156_0, hfz156_0⟩ := bf1 BK154
                              have hnb157 := NB114_101.out
                              have hnc157 := NB101_114.out
                              have hnb158 := NB114_118.out
                              have hnc158 := NB118_114.out
                              have hnb159 := NB114_126.out
                              have hnc159 := NB126_114.out
                              obtain ⟨hcz160_0, hfz160_0⟩ := bf1 BK114
                              go_wp2_with (first | ((with_reducible refine gate_callee (f := 11) rfl ?_); refine gL (some 104) Try.func11 #[.agg #[.slice Ao144 t150.length co144], .agg #[.slice Ao32 t110.length co32]] (laws_eqMillPlace.calls kj78 _ _ t150 _ _ t110 true _ ?side1 ?side2 ?side3 ?side4 A150.out) ?_; (case side1 => refine (Kd.R_reads' (e := 52) (base := w.heap.size) (ok := fun k_ => (((((True ∧ some k_ ≠ (.slice Ao32 t110.length co32 : Value).ownBlock) ∧ some k_ ≠ (.slice Ao38 t137.length co38 : Value).ownBlock) ∧ some k_ ≠ (.slice Ao47 t122.length co47 : Value).ownBlock) ∧ some k_ ≠ (.slice Ao140 t144.length co140 : Value).ownBlock) ∧ some k_ ≠ (.slice Ao141 t147.length co141 : Value).ownBlock)) (n := t150.length) (c := co144) ?_).2.2; exact (by (with_reducible repeat (first | apply Kd.R_alloc | apply Kd.R_drewN | apply Kd.R_drew)); exact (Kd.R_mono (Kd.R_far (p := ⟨gb154, 0, none⟩) (Kd.R_types (by (with_reducible repeat (first | apply Kd.R_alloc | apply Kd.R_drewN | apply Kd.R_drew)); exact HO152.out) (kp BK154) (by decide)) (fun _ hk => hk.2) (.slice Ao144 t150.length co144)) (fun _ h_ => h_.1)))); (case side2 => exact (Kd.R_reads' HO152.out).2.1); (case side3 => refine (Kd.R_reads' (e := 52) (base := w.heap.size) (ok := fun k_ => ((((some k_ ≠ (.slice Ao38 t137.length co38 : Value).ownBlock ∧ some k_ ≠ (.slice Ao47 t122.length co47 : Value).ownBlock) ∧ some k_ ≠ (.slice Ao140 t144.length co140 : Value).ownBlock) ∧ some k_ ≠ (.slice Ao141 t147.length co141 : Value).ownBlock) ∧ some k_ ≠ (.slice Ao144 t150.length co144 : Value).ownBlock)) (n := t110.length) (c := co32) ?_).2.2; exact (by (with_reducible repeat (first | apply Kd.R_alloc | apply Kd.R_drewN | apply Kd.R_drew)); exact (Kd.R_mono (Kd.R_far (p := ⟨gb154, 0, none⟩) (Kd.R_types (by (with_reducible repeat (first | apply Kd.R_alloc | apply Kd.R_drewN | apply Kd.R_drew)); exact HO_115000.out) (kp BK154) (by decide)) (fun _ hk => hk.2) (.slice Ao144 t150.length co144)) (fun _ h_ => h_.1)))); (case side4 => exact (Kd.R_reads' HO_115000.out).2.1); intro w161 hb; replace HO_115000 := Aside0.mk (Kd.R_below (by (with_reducible repeat (first | apply Kd.R_alloc | apply Kd.R_drewN | apply Kd.R_drew)); exact (Kd.R_mono (Kd.R_far (p := ⟨gb154, 0, none⟩) (Kd.R_types (by (with_reducible repeat (first | apply Kd.R_alloc | apply Kd.R_drewN | apply Kd.R_drew)); exact HO_115000.out) (kp BK154) (by decide)) (fun _ hk => hk.2) (.slice Ao144 t150.length co144)) (fun _ h_ => h_.1))) hb); replace HO_119000 := Aside0.mk (Kd.R_below (by (with_reducible repeat (first | apply Kd.R_alloc | apply Kd.R_drewN | apply Kd.R_drew)); exact (Kd.R_mono (Kd.R_far (p := ⟨gb154, 0, none⟩) (Kd.R_types (by (with_reducible repeat (first | apply Kd.R_alloc | apply Kd.R_drewN | apply Kd.R_drew)); exact HO_119000.out) (kp BK154) (by decide)) (fun _ hk => hk.2) (.slice Ao144 t150.length co144)) (fun _ h_ => h_.1))) hb); replace HO_127000 := Aside0.mk (Kd.R_below (by (with_reducible repeat (first | apply Kd.R_alloc | apply Kd.R_drewN | apply Kd.R_drew)); exact (Kd.R_mono (Kd.R_far (p := ⟨gb154, 0, none⟩) (Kd.R_types (by (with_reducible repeat (first | apply Kd.R_alloc | apply Kd.R_drewN | apply Kd.R_drew)); exact HO_127000.out) (kp BK154) (by decide)) (fun _ hk => hk.2) (.slice Ao144 t150.length co144)) (fun _ h_ => h_.1))) hb); replace HO146 := Aside0.mk (Kd.R_below (by (with_reducible repeat (first | apply Kd.R_alloc | apply Kd.R_drewN | apply Kd.R_drew)); exact (Kd.R_mono (Kd.R_far (p := ⟨gb154, 0, none⟩) (Kd.R_types (by (with_reducible repeat (first | apply Kd.R_alloc | apply Kd.R_drewN | apply Kd.R_drew)); exact HO146.out) (kp BK154) (by decide)) (fun _ hk => hk.2) (.slice Ao144 t150.length co144)) (fun _ h_ => h_.1))) hb); replace HO149 := Aside0.mk (Kd.R_below (by (with_reducible repeat (first | apply Kd.R_alloc | apply Kd.R_drewN | apply Kd.R_drew)); exact (Kd.R_mono (Kd.R_far (p := ⟨gb154, 0, none⟩) (Kd.R_types (by (with_reducible repeat (first | apply Kd.R_alloc | apply Kd.R_drewN | apply Kd.R_drew)); exact HO149.out) (kp BK154) (by decide)) (fun _ hk => hk.2) (.slice Ao144 t150.length co144)) (fun _ h_ => h_.1))) hb); replace HO152 := Aside0.mk (Kd.R_below (by (with_reducible repeat (first | apply Kd.R_alloc | apply Kd.R_drewN | apply Kd.R_drew)); exact (Kd.R_mono (Kd.R_far (p := ⟨gb154, 0, none⟩) (Kd.R_types (by (with_reducible repeat (first | apply Kd.R_alloc | apply Kd.R_drewN | apply Kd.R_drew)); exact HO152.out) (kp BK154) (by decide)) (fun _ hk => hk.2) (.slice Ao144 t150.length co144)) (fun _ h_ => h_.1))) hb); replace BK101 := Aside0.mk (blk_below (g := gb101) (o := .cells #[.slice A0_0 l0_0.length c0_0] 24 (0, 0)) (by (with_reducible repeat (first | refine blk_drewN ?_ _ | refine blk_drew ?_ | refine blk_alloc ?_ _)); refine blk_far ?_ NB101_154.out _; (with_reducible repeat (first | refine blk_drewN ?_ _ | refine blk_drew ?_ | refine blk_alloc ?_ _)); exact BK101.out) hb); replace BK114 := Aside0.mk (blk_below (g := gb114) (o := .cells #[.slice Ao32 t110.length co32] 29 (0, 0)) (by (with_reducible repeat (first | refine blk_drewN ?_ _ | refine blk_drew ?_ | refine blk_alloc ?_ _)); refine blk_far ?_ NB114_154.out _; (with_reducible repeat (first | refine blk_drewN ?_ _ | refine blk_drew ?_ | refine blk_alloc ?_ _)); exact BK114.out) hb); replace BK118 := Aside0.mk (blk_below (g := gb118) (o := .cells #[.slice Ao38 t137.length co38] 29 (0, 0)) (by (with_reducible repeat (first | refine blk_drewN ?_ _ | refine blk_drew ?_ | refine blk_alloc ?_ _)); refine blk_far ?_ NB118_154.out _; (with_reducible repeat (first | refine blk_drewN ?_ _ | refine blk_drew ?_ | refine blk_alloc ?_ _)); exact BK118.out) hb); replace BK126 := Aside0.mk (blk_below (g := gb126) (o := .cells #[.slice Ao47 t122.length co47] 29 (0, 0)) (by (with_reducible repeat (first | refine blk_drewN ?_ _ | refine blk_drew ?_ | refine blk_alloc ?_ _)); refine blk_far ?_ NB126_154.out _; (with_reducible repeat (first | refine blk_drewN ?_ _ | refine blk_drew ?_ | refine blk_alloc ?_ _)); exact BK126.out) hb); replace BK154 := Aside0.mk (blk_below (g := gb154) (o := .cells #[.slice Ao144 t150.length co144] 29 (0, 0)) (by (with_reducible repeat (first | refine blk_drewN ?_ _ | refine blk_drew ?_ | refine blk_alloc ?_ _)); refine blk_put (cs := #[.slice none 0 0]) ?_ 0 _ rfl; (with_reducible repeat (first | refine blk_drewN ?_ _ | refine blk_drew ?_ | refine blk_alloc ?_ _)); exact BK154.out) hb); replace HB := kS HB hb))
                              go_meet
                              case rel => exact ⟨_, ((t153 != t113)), (by first | rfl | (simp; done) | (simp [*]; done)), H', ⟨by have := HJ19.out; have := HJ78.out; first | omega | exact Nat.le_refl _⟩, ⟨by (try simp only [hl119000_78]); (with_reducible repeat (first | apply Kd.R_alloc | apply Kd.R_drewN | apply Kd.R_drew)); exact Kd.R_mono HO_115000.out (fun _ hk => ⟨hk.1.1.1.1, ⟨hk.1.1.1.2, hk.2⟩⟩)⟩, ⟨by (try simp only [hl119000_78]); (with_reducible repeat (first | apply Kd.R_alloc | apply Kd.R_drewN | apply Kd.R_drew)); exact Kd.R_mono HO_119000.out (fun _ hk => ⟨hk.1.1.1.1, ⟨hk.1.1.1.2, hk.2⟩⟩)⟩, ⟨by (try simp only [hl119000_78]); (with_reducible repeat (first | apply Kd.R_alloc | apply Kd.R_drewN | apply Kd.R_drew)); exact Kd.R_mono HO_127000.out (fun _ hk => ⟨hk.1.1.1.1, ⟨hk.1.1.1.2, hk.2⟩⟩)⟩, ⟨by (try simp only [hl119000_78]); (with_reducible repeat (first | apply Kd.R_alloc | apply Kd.R_drewN | apply Kd.R_drew)); exact Kd.R_mono HO152.out (fun _ hk => ⟨hk.1.1.1.1.2, ⟨hk.1.1.1.2, hk.1.1.2⟩⟩)⟩, ⟨by (try simp only [hl119000_78]); (with_reducible repeat (first | refine blk_drewN ?_ _ | refine blk_drew ?_ | refine blk_alloc ?_ _)); exact BK101.out⟩, ⟨by (try simp only [hl119000_78]); (with_reducible repeat (first | refine blk_drewN ?_ _ | refine blk_drew ?_ | refine blk_alloc ?_ _)); exact BK114.out⟩, ⟨by (try simp only [hl119000_78]); (with_reducible repeat (first | refine blk_drewN ?_ _ | refine blk_drew ?_ | refine blk_alloc ?_ _)); exact BK118.out⟩, ⟨by (try simp only [hl119000_78]); (with_reducible repeat (first | refine blk_drewN ?_ _ | refine blk_drew ?_ | refine blk_alloc ?_ _)); exact BK126.out⟩, ⟨by (try simp only [hl119000_78]); (with_reducible repeat (first | refine blk_drewN ?_ _ | refine blk_drew ?_ | refine blk_alloc ?_ _)); exact BK154.out⟩, ⟨kb HB⟩⟩
                            · replace c151 := Bool.eq_false_iff.mpr c151
                              subst c151
                              have H1 : (laws_FnExactMillLay.j2 kj78 t141 true t142) = some r := by rw [if_neg (show ¬ (false = true) by decide)] at H; exact H
                              clear H
                              have H := H1
                              clear H1
                              have H' := Aside0.mk H
                              clear H
                              have hnb162 := NB154_101.out
                              have hnc162 := NB101_154.out
                              have hnb163 := NB154_114.out
                              have hnc163 := NB114_154.out
                              have hnb164 := NB154_118.out
                              have hnc164 := NB118_154.out
                              have hnb165 := NB154_126.out
                              have hnc165 := NB126_154.out
                              obtain ⟨hcz166_0, hfz166_0⟩ := bf1 BK154
                              have hnb167 := NB114_101.out
                              have hnc167 := NB101_114.out
                              have hnb168 := NB114_118.out
                              have hnc168 := NB118_114.out
                              have hnb169 := NB114_126.out
                              have hnc169 := NB126_114.out
                              obtain ⟨hcz170_0, hfz170_0⟩ := bf1 BK114
                              go_wp2_with (first | ((with_reducible refine gate_callee (f := 11) rfl ?_); refine gL (some 104) Try.func11 #[.agg #[.slice Ao144 t150.length co144], .agg #[.slice Ao32 t110.length co32]] (laws_eqMillPlace.calls kj78 _ _ t150 _ _ t110 false _ ?side1 ?side2 ?side3 ?side4 A150.out) ?_; (case side1 => refine (Kd.R_reads' (e := 52) (base := w.heap.size) (ok := fun k_ => (((((True ∧ some k_ ≠ (.slice Ao32 t110.length co32 : Value).ownBlock) ∧ some k_ ≠ (.slice Ao38 t137.length co38 : Value).ownBlock) ∧ some k_ ≠ (.slice Ao47 t122.length co47 : Value).ownBlock) ∧ some k_ ≠ (.slice Ao140 t144.length co140 : Value).ownBlock) ∧ some k_ ≠ (.slice Ao141 t147.length co141 : Value).ownBlock)) (n := t150.length) (c := co144) ?_).2.2; exact (by (with_reducible repeat (first | apply Kd.R_alloc | apply Kd.R_drewN | apply Kd.R_drew)); exact (Kd.R_mono (Kd.R_far (p := ⟨gb154, 0, none⟩) (Kd.R_types (by (with_reducible repeat (first | apply Kd.R_alloc | apply Kd.R_drewN | apply Kd.R_drew)); exact HO152.out) (kp BK154) (by decide)) (fun _ hk => hk.2) (.slice Ao144 t150.length co144)) (fun _ h_ => h_.1)))); (case side2 => exact (Kd.R_reads' HO152.out).2.1); (case side3 => refine (Kd.R_reads' (e := 52) (base := w.heap.size) (ok := fun k_ => ((((some k_ ≠ (.slice Ao38 t137.length co38 : Value).ownBlock ∧ some k_ ≠ (.slice Ao47 t122.length co47 : Value).ownBlock) ∧ some k_ ≠ (.slice Ao140 t144.length co140 : Value).ownBlock) ∧ some k_ ≠ (.slice Ao141 t147.length co141 : Value).ownBlock) ∧ some k_ ≠ (.slice Ao144 t150.length co144 : Value).ownBlock)) (n := t110.length) (c := co32) ?_).2.2; exact (by (with_reducible repeat (first | apply Kd.R_alloc | apply Kd.R_drewN | apply Kd.R_drew)); exact (Kd.R_mono (Kd.R_far (p := ⟨gb154, 0, none⟩) (Kd.R_types (by (with_reducible repeat (first | apply Kd.R_alloc | apply Kd.R_drewN | apply Kd.R_drew)); exact HO_115000.out) (kp BK154) (by decide)) (fun _ hk => hk.2) (.slice Ao144 t150.length co144)) (fun _ h_ => h_.1)))); (case side4 => exact (Kd.R_reads' HO_115000.out).2.1); intro w171 hb; replace HO_115000 := Aside0.mk (Kd.R_below (by (with_reducible repeat (first | apply Kd.R_alloc | apply Kd.R_drewN | apply Kd.R_drew)); exact (Kd.R_mono (Kd.R_far (p := ⟨gb154, 0, none⟩) (Kd.R_types (by (with_reducible repeat (first | apply Kd.R_alloc | apply Kd.R_drewN | apply Kd.R_drew)); exact HO_115000.out) (kp BK154) (by decide)) (fun _ hk => hk.2) (.slice Ao144 t150.length co144)) (fun _ h_ => h_.1))) hb); replace HO_119000 := Aside0.mk (Kd.R_below (by (with_reducible repeat (first | apply Kd.R_alloc | apply Kd.R_drewN | apply Kd.R_drew)); exact (Kd.R_mono (Kd.R_far (p := ⟨gb154, 0, none⟩) (Kd.R_types (by (with_reducible repeat (first | apply Kd.R_alloc | apply Kd.R_drewN | apply Kd.R_drew)); exact HO_119000.out) (kp BK154) (by decide)) (fun _ hk => hk.2) (.slice Ao144 t150.length co144)) (fun _ h_ => h_.1))) hb); replace HO_127000 := Aside0.mk (Kd.R_below (by (with_reducible repeat (first | apply Kd.R_alloc | apply Kd.R_drewN | apply Kd.R_drew)); exact (Kd.R_mono (Kd.R_far (p := ⟨gb154, 0, none⟩) (Kd.R_types (by (with_reducible repeat (first | apply Kd.R_alloc | apply Kd.R_drewN | apply Kd.R_drew)); exact HO_127000.out) (kp BK154) (by decide)) (fun _ hk => hk.2) (.slice Ao144 t150.length co144)) (fun _ h_ => h_.1))) hb); replace HO146 := Aside0.mk (Kd.R_below (by (with_reducible repeat (first | apply Kd.R_alloc | apply Kd.R_drewN | apply Kd.R_drew)); exact (Kd.R_mono (Kd.R_far (p := ⟨gb154, 0, none⟩) (Kd.R_types (by (with_reducible repeat (first | apply Kd.R_alloc | apply Kd.R_drewN | apply Kd.R_drew)); exact HO146.out) (kp BK154) (by decide)) (fun _ hk => hk.2) (.slice Ao144 t150.length co144)) (fun _ h_ => h_.1))) hb); replace HO149 := Aside0.mk (Kd.R_below (by (with_reducible repeat (first | apply Kd.R_alloc | apply Kd.R_drewN | apply Kd.R_drew)); exact (Kd.R_mono (Kd.R_far (p := ⟨gb154, 0, none⟩) (Kd.R_types (by (with_reducible repeat (first | apply Kd.R_alloc | apply Kd.R_drewN | apply Kd.R_drew)); exact HO149.out) (kp BK154) (by decide)) (fun _ hk => hk.2) (.slice Ao144 t150.length co144)) (fun _ h_ => h_.1))) hb); replace HO152 := Aside0.mk (Kd.R_below (by (with_reducible repeat (first | apply Kd.R_alloc | apply Kd.R_drewN | apply Kd.R_drew)); exact (Kd.R_mono (Kd.R_far (p := ⟨gb154, 0, none⟩) (Kd.R_types (by (with_reducible repeat (first | apply Kd.R_alloc | apply Kd.R_drewN | apply Kd.R_drew)); exact HO152.out) (kp BK154) (by decide)) (fun _ hk => hk.2) (.slice Ao144 t150.length co144)) (fun _ h_ => h_.1))) hb); replace BK101 := Aside0.mk (blk_below (g := gb101) (o := .cells #[.slice A0_0 l0_0.length c0_0] 24 (0, 0)) (by (with_reducible repeat (first | refine blk_drewN ?_ _ | refine blk_drew ?_ | refine blk_alloc ?_ _)); refine blk_far ?_ NB101_154.out _; (with_reducible repeat (first | refine blk_drewN ?_ _ | refine blk_drew ?_ | refine blk_alloc ?_ _)); exact BK101.out) hb); replace BK114 := Aside0.mk (blk_below (g := gb114) (o := .cells #[.slice Ao32 t110.length co32] 29 (0, 0)) (by (with_reducible repeat (first | refine blk_drewN ?_ _ | refine blk_drew ?_ | refine blk_alloc ?_ _)); refine blk_far ?_ NB114_154.out _; (with_reducible repeat (first | refine blk_drewN ?_ _ | refine blk_drew ?_ | refine blk_alloc ?_ _)); exact BK114.out) hb); replace BK118 := Aside0.mk (blk_below (g := gb118) (o := .cells #[.slice Ao38 t137.length co38] 29 (0, 0)) (by (with_reducible repeat (first | refine blk_drewN ?_ _ | refine blk_drew ?_ | refine blk_alloc ?_ _)); refine blk_far ?_ NB118_154.out _; (with_reducible repeat (first | refine blk_drewN ?_ _ | refine blk_drew ?_ | refine blk_alloc ?_ _)); exact BK118.out) hb); replace BK126 := Aside0.mk (blk_below (g := gb126) (o := .cells #[.slice Ao47 t122.length co47] 29 (0, 0)) (by (with_reducible repeat (first | refine blk_drewN ?_ _ | refine blk_drew ?_ | refine blk_alloc ?_ _)); refine blk_far ?_ NB126_154.out _; (with_reducible repeat (first | refine blk_drewN ?_ _ | refine blk_drew ?_ | refine blk_alloc ?_ _)); exact BK126.out) hb); replace BK154 := Aside0.mk (blk_below (g := gb154) (o := .cells #[.slice Ao144 t150.length co144] 29 (0, 0)) (by (with_reducible repeat (first | refine blk_drewN ?_ _ | refine blk_drew ?_ | refine blk_alloc ?_ _)); refine blk_put (cs := #[.slice none 0 0]) ?_ 0 _ rfl; (with_reducible repeat (first | refine blk_drewN ?_ _ | refine blk_drew ?_ | refine blk_alloc ?_ _)); exact BK154.out) hb); replace HB := kS HB hb))
                              go_meet
                              case rel => exact ⟨_, (true), (by first | rfl | (simp; done) | (simp [*]; done)), H', ⟨by have := HJ19.out; have := HJ78.out; first | omega | exact Nat.le_refl _⟩, ⟨by (try simp only [hl119000_78]); (with_reducible repeat (first | apply Kd.R_alloc | apply Kd.R_drewN | apply Kd.R_drew)); exact Kd.R_mono HO_115000.out (fun _ hk => ⟨hk.1.1.1.1, ⟨hk.1.1.1.2, hk.2⟩⟩)⟩, ⟨by (try simp only [hl119000_78]); (with_reducible repeat (first | apply Kd.R_alloc | apply Kd.R_drewN | apply Kd.R_drew)); exact Kd.R_mono HO_119000.out (fun _ hk => ⟨hk.1.1.1.1, ⟨hk.1.1.1.2, hk.2⟩⟩)⟩, ⟨by (try simp only [hl119000_78]); (with_reducible repeat (first | apply Kd.R_alloc | apply Kd.R_drewN | apply Kd.R_drew)); exact Kd.R_mono HO_127000.out (fun _ hk => ⟨hk.1.1.1.1, ⟨hk.1.1.1.2, hk.2⟩⟩)⟩, ⟨by (try simp only [hl119000_78]); (with_reducible repeat (first | apply Kd.R_alloc | apply Kd.R_drewN | apply Kd.R_drew)); exact Kd.R_mono HO152.out (fun _ hk => ⟨hk.1.1.1.1.2, ⟨hk.1.1.1.2, hk.1.1.2⟩⟩)⟩, ⟨by (try simp only [hl119000_78]); (with_reducible repeat (first | refine blk_drewN ?_ _ | refine blk_drew ?_ | refine blk_alloc ?_ _)); exact BK101.out⟩, ⟨by (try simp only [hl119000_78]); (with_reducible repeat (first | refine blk_drewN ?_ _ | refine blk_drew ?_ | refine blk_alloc ?_ _)); exact BK114.out⟩, ⟨by (try simp only [hl119000_78]); (with_reducible repeat (first | refine blk_drewN ?_ _ | refine blk_drew ?_ | refine blk_alloc ?_ _)); exact BK118.out⟩, ⟨by (try simp only [hl119000_78]); (with_reducible repeat (first | refine blk_drewN ?_ _ | refine blk_drew ?_ | refine blk_alloc ?_ _)); exact BK126.out⟩, ⟨by (try simp only [hl119000_78]); (with_reducible repeat (first | refine blk_drewN ?_ _ | refine blk_drew ?_ | refine blk_alloc ?_ _)); exact BK154.out⟩, ⟨kb HB⟩⟩
                          case rest =>
                            clear HC127
                            obtain ⟨kq, x110_126, rfl, HA, HJ126, HO_115000, HO_119000, HO_127000, HO_155000, BK101, BK114, BK118, BK126, BK154, HB⟩ := hcut
                            have hl127000_126 := (Kd.R_reads' HO_127000.out).1
                            rw [hl127000_126] at HO_127000
                            (try simp only [hl127000_126])
                            (try simp only [hl127000_126] at BK101)
                            (try simp only [hl127000_126] at BK114)
                            (try simp only [hl127000_126] at BK118)
                            (try simp only [hl127000_126] at BK126)
                            (try simp only [hl127000_126] at BK154)
                            (try simp only [hl127000_126] at HO_115000)
                            (try simp only [hl127000_126] at HO_119000)
                            (try simp only [hl127000_126] at HO_155000)
                            cases kq with
                            | zero => exact absurd HA.out (by simp [laws_FnExactMillLay.j2])
                            | succ kj126 =>
                              have H := HA.out
                              clear HA
                              simp only [laws_FnExactMillLay.j2] at H
                              by_cases c172 : x110_126 = true
                              · subst c172
                                have H1 : (some false) = some r := by rw [if_pos rfl] at H; exact H
                                clear H
                                have H := H1
                                clear H1
                                obtain rfl := Option.some.inj H
                                go_wp2
                                go_ret
                                exact ⟨by first | rfl | (simp [errW_none, errW_some] <;> rfl) | (simp [*, errW_none, errW_some] <;> rfl), kb HB⟩
                              · replace c172 := Bool.eq_false_iff.mpr c172
                                subst c172
                                have H1 : ((laws_heldMillPlace.f kj126 t142 1).bind fun t156 => (if t156 < 0 then (some false) else (if t156 = t141 then (some true) else (some false)))) = some r := by rw [if_neg (show ¬ (false = true) by decide)] at H; exact H
                                clear H
                                have H := H1
                                clear H1
                                replace H := Option.bind_eq_some_iff.mp H
                                obtain ⟨t156, A1730, H⟩ := H
                                replace H : (if t156 < 0 then (some false) else (if t156 = t141 then (some true) else (some false))) = some r := H
                                have A173 := Aside0.mk A1730
                                clear A1730
                                by_cases c174 : t156 < 0
                                · rw [if_pos c174] at H
                                  have c174b0 : decide (t156 < 0) = true := decide_eq_true c174
                                  clear c174
                                  obtain rfl := Option.some.inj H
                                  have hnb175 := NB126_101.out
                                  have hnc175 := NB101_126.out
                                  have hnb176 := NB126_114.out
                                  have hnc176 := NB114_126.out
                                  have hnb177 := NB126_118.out
                                  have hnc177 := NB118_126.out
                                  have hnb178 := NB126_154.out
                                  have hnc178 := NB154_126.out
                                  obtain ⟨hcz179_0, hfz179_0⟩ := bf1 BK126
                                  go_wp2_with (first | ((with_reducible refine gate_callee (f := 15) rfl ?_); refine gL (some 113) Try.func15 #[.agg #[.slice Ao47 t142.length co47], .int .i64 1] (laws_heldMillPlace.calls kj126 _ _ t142 1 t156 _ ?side1 ?side2 A173.out) ?_; (case side1 => repeat (first | exact (Kd.R_reads' HO_127000.out).2.2 | (with_reducible refine Kd.C_alloc ?_ _) | (with_reducible refine Kd.C_drewN ?_ _) | (with_reducible refine Kd.C_drew ?_))); (case side2 => exact (Kd.R_reads' HO_127000.out).2.1); intro w180 hb; replace HO_115000 := Aside0.mk (Kd.R_below (by (with_reducible repeat (first | apply Kd.R_alloc | apply Kd.R_drewN | apply Kd.R_drew)); exact HO_115000.out) hb); replace HO_119000 := Aside0.mk (Kd.R_below (by (with_reducible repeat (first | apply Kd.R_alloc | apply Kd.R_drewN | apply Kd.R_drew)); exact HO_119000.out) hb); replace HO_127000 := Aside0.mk (Kd.R_below (by (with_reducible repeat (first | apply Kd.R_alloc | apply Kd.R_drewN | apply Kd.R_drew)); exact HO_127000.out) hb); replace HO_155000 := Aside0.mk (Kd.R_below (by (with_reducible repeat (first | apply Kd.R_alloc | apply Kd.R_drewN | apply Kd.R_drew)); exact HO_155000.out) hb); replace BK101 := kB BK101 hb; replace BK114 := kB BK114 hb; replace BK118 := kB BK118 hb; replace BK126 := kB BK126 hb; replace BK154 := kB BK154 hb; replace HB := kS HB hb))
                                  go_ret
                                  exact ⟨by first | rfl | (simp [errW_none, errW_some] <;> rfl) | (simp [*, errW_none, errW_some] <;> rfl), kb HB⟩
                                · rw [if_neg c174] at H
                                  have c174b0 : decide (t156 < 0) = false := decide_eq_false c174
                                  clear c174
                                  by_cases c181 : t156 = t141
                                  · rw [if_pos c181] at H
                                    have c181b0 : (t156 == t141) = true := beq_iff_eq.mpr c181
                                    have c181b1 : (t156 != t141) = false := bne_eq_false_iff_eq.mpr c181
                                    clear c181
                                    obtain rfl := Option.some.inj H
                                    have hnb182 := NB126_101.out
                                    have hnc182 := NB101_126.out
                                    have hnb183 := NB126_114.out
                                    have hnc183 := NB114_126.out
                                    have hnb184 := NB126_118.out
                                    have hnc184 := NB118_126.out
                                    have hnb185 := NB126_154.out
                                    have hnc185 := NB154_126.out
                                    obtain ⟨hcz186_0, hfz186_0⟩ := bf1 BK126
                                    go_wp2_with (first | ((with_reducible refine gate_callee (f := 15) rfl ?_); refine gL (some 113) Try.func15 #[.agg #[.slice Ao47 t142.length co47], .int .i64 1] (laws_heldMillPlace.calls kj126 _ _ t142 1 t156 _ ?side1 ?side2 A173.out) ?_; (case side1 => repeat (first | exact (Kd.R_reads' HO_127000.out).2.2 | (with_reducible refine Kd.C_alloc ?_ _) | (with_reducible refine Kd.C_drewN ?_ _) | (with_reducible refine Kd.C_drew ?_))); (case side2 => exact (Kd.R_reads' HO_127000.out).2.1); intro w187 hb; replace HO_115000 := Aside0.mk (Kd.R_below (by (with_reducible repeat (first | apply Kd.R_alloc | apply Kd.R_drewN | apply Kd.R_drew)); exact HO_115000.out) hb); replace HO_119000 := Aside0.mk (Kd.R_below (by (with_reducible repeat (first | apply Kd.R_alloc | apply Kd.R_drewN | apply Kd.R_drew)); exact HO_119000.out) hb); replace HO_127000 := Aside0.mk (Kd.R_below (by (with_reducible repeat (first | apply Kd.R_alloc | apply Kd.R_drewN | apply Kd.R_drew)); exact HO_127000.out) hb); replace HO_155000 := Aside0.mk (Kd.R_below (by (with_reducible repeat (first | apply Kd.R_alloc | apply Kd.R_drewN | apply Kd.R_drew)); exact HO_155000.out) hb); replace BK101 := kB BK101 hb; replace BK114 := kB BK114 hb; replace BK118 := kB BK118 hb; replace BK126 := kB BK126 hb; replace BK154 := kB BK154 hb; replace HB := kS HB hb))
                                    go_ret
                                    exact ⟨by first | rfl | (simp [errW_none, errW_some] <;> rfl) | (simp [*, errW_none, errW_some] <;> rfl), kb HB⟩
                                  · rw [if_neg c181] at H
                                    have c181b0 : (t156 == t141) = false := beq_eq_false_iff_ne.mpr c181
                                    have c181b1 : (t156 != t141) = true := bne_iff_ne.mpr c181
                                    obtain rfl := Option.some.inj H
                                    have hnb188 := NB126_101.out
                                    have hnc188 := NB101_126.out
                                    have hnb189 := NB126_114.out
                                    have hnc189 := NB114_126.out
                                    have hnb190 := NB126_118.out
                                    have hnc190 := NB118_126.out
                                    have hnb191 := NB126_154.out
                                    have hnc191 := NB154_126.out
                                    obtain ⟨hcz192_0, hfz192_0⟩ := bf1 BK126
                                    go_wp2_with (first | ((with_reducible refine gate_callee (f := 15) rfl ?_); refine gL (some 113) Try.func15 #[.agg #[.slice Ao47 t142.length co47], .int .i64 1] (laws_heldMillPlace.calls kj126 _ _ t142 1 t156 _ ?side1 ?side2 A173.out) ?_; (case side1 => repeat (first | exact (Kd.R_reads' HO_127000.out).2.2 | (with_reducible refine Kd.C_alloc ?_ _) | (with_reducible refine Kd.C_drewN ?_ _) | (with_reducible refine Kd.C_drew ?_))); (case side2 => exact (Kd.R_reads' HO_127000.out).2.1); intro w193 hb; replace HO_115000 := Aside0.mk (Kd.R_below (by (with_reducible repeat (first | apply Kd.R_alloc | apply Kd.R_drewN | apply Kd.R_drew)); exact HO_115000.out) hb); replace HO_119000 := Aside0.mk (Kd.R_below (by (with_reducible repeat (first | apply Kd.R_alloc | apply Kd.R_drewN | apply Kd.R_drew)); exact HO_119000.out) hb); replace HO_127000 := Aside0.mk (Kd.R_below (by (with_reducible repeat (first | apply Kd.R_alloc | apply Kd.R_drewN | apply Kd.R_drew)); exact HO_127000.out) hb); replace HO_155000 := Aside0.mk (Kd.R_below (by (with_reducible repeat (first | apply Kd.R_alloc | apply Kd.R_drewN | apply Kd.R_drew)); exact HO_155000.out) hb); replace BK101 := kB BK101 hb; replace BK114 := kB BK114 hb; replace BK118 := kB BK118 hb; replace BK126 := kB BK126 hb; replace BK154 := kB BK154 hb; replace HB := kS HB hb))
                                    go_ret
                                    exact ⟨by first | rfl | (simp [errW_none, errW_some] <;> rfl) | (simp [*, errW_none, errW_some] <;> rfl), kb HB⟩
                        · rw [if_neg c123] at H
                          have c123b0 : (t143 == t141) = false := beq_eq_false_iff_ne.mpr c123
                          have c123b1 : (t143 != t141) = true := bne_iff_ne.mpr c123
                          obtain rfl := Option.some.inj H
                          have hnb194 := NB126_101.out
                          have hnc194 := NB101_126.out
                          have hnb195 := NB126_114.out
                          have hnc195 := NB114_126.out
                          have hnb196 := NB126_118.out
                          have hnc196 := NB118_126.out
                          obtain ⟨hcz197_0, hfz197_0⟩ := bf1 BK126
                          go_wp2_with (first | ((with_reducible refine gate_callee (f := 13) rfl ?_); refine goesL_ (some 85) rfl rfl Try.func13 (by kernel_rfl) rfl #[.agg #[.slice Ao47 t122.length co47], .int .i64 1] rfl (by (try simp only [List.map_toArray, List.map_cons, List.map_nil]); first | done | rfl | (simp only [List.length_drop, List.length_take]; rfl)) ?_; (with_reducible refine (laws_markMillPlace.calls kj78 (fun k_ => some k_ = (.slice Ao47 t122.length co47 : Value).ownBlock) (.slice Ao47 t122.length co47) t122 1 t141 t142 w _ ?side1 ?side2 A113.out).mono ?_); (case side1 => repeat (first | (with_reducible first | exact HB.out | apply below_alloc | apply pw_below_drewN | apply below_drew1 | refine below_set ?_ GE101.out | refine below_set ?_ GE114.out | refine below_set ?_ GE118.out | refine below_set ?_ GE126.out) | exact HB.out)); (case side2 => exact Kd.R_tight rfl HO_127000.out); rintro e w198 ⟨rfl, hy0, hb, hkp⟩; refine ⟨_, rfl, ?_⟩; have n0_ := Aside0.mk (Kd.R_mono (ok' := fun k_ => some k_ ≠ (.slice Ao38 t137.length co38 : Value).ownBlock ∧ some k_ ≠ (.slice Ao47 t122.length co47 : Value).ownBlock) (Kd.R_keptB (HO_115000.out) hkp (fun k_ hk_ hs_ => (hk_.2) hs_)) (fun k_ hk_ => ⟨hk_.1.1, hk_.1.2⟩)); have n1_ := Aside0.mk (Kd.R_mono (ok' := fun k_ => some k_ ≠ (.slice Ao32 t110.length co32 : Value).ownBlock ∧ some k_ ≠ (.slice Ao47 t122.length co47 : Value).ownBlock) (Kd.R_keptB (HO_119000.out) hkp (fun k_ hk_ hs_ => (hk_.2) hs_)) (fun k_ hk_ => ⟨hk_.1.1, hk_.1.2⟩)); have n2_ := Aside0.mk (Kd.R_reok rfl hy0 (fun k_ e_ => HO_127000.out.1 k_ e_)); have n3_ := Aside0.mk (blk_kept (kp BK101) hkp (fun hs_ => (fun e_ => (Kd.R_ne HO_127000.out BK101.out (by decide)) e_) hs_)); have n4_ := Aside0.mk (blk_kept (kp BK114) hkp (fun hs_ => (fun e_ => (Kd.R_ne HO_127000.out BK114.out (by decide)) e_) hs_)); have n5_ := Aside0.mk (blk_kept (kp BK118) hkp (fun hs_ => (fun e_ => (Kd.R_ne HO_127000.out BK118.out (by decide)) e_) hs_)); have n6_ := Aside0.mk (blk_kept (kp BK126) hkp (fun hs_ => (fun e_ => (Kd.R_ne HO_127000.out BK126.out (by decide)) e_) hs_)); have n7_ := Aside0.mk (hb); clear HO_115000; clear HO_119000; clear HO_127000; clear BK101; clear BK114; clear BK118; clear BK126; clear HB; have HO_115000 := n0_; have HO_119000 := n1_; have HO_127000 := n2_; have BK101 := n3_; have BK114 := n4_; have BK118 := n5_; have BK126 := n6_; have HB := n7_; clear n0_ n1_ n2_ n3_ n4_ n5_ n6_ n7_; (try clear hb); (try clear hkp); (try clear hy0); obtain ⟨hcz199_0, hfz199_0⟩ := bf1 BK126) | ((with_reducible refine gate_callee (f := 15) rfl ?_); refine goesL_ (some 88) rfl rfl Try.func15 (by kernel_rfl) rfl #[.agg #[.slice Ao47 t142.length co47], .int .i64 1] rfl (by (try simp only [List.map_toArray, List.map_cons, List.map_nil]); first | done | (rw [show t142.length = t122.length from (Kd.R_reads' HO_127000.out).1.symm] <;> rfl) | rfl | (simp only [List.length_drop, List.length_take]; rfl)) ?_; (with_reducible refine (laws_heldMillPlace.calls kj78 _ _ t142 1 t143 _ ?side1 ?side2 A114.out).mono ?_); (case side1 => repeat (first | exact (Kd.R_reads' HO_127000.out).2.2 | (with_reducible refine Kd.C_alloc ?_ _) | (with_reducible refine Kd.C_drewN ?_ _) | (with_reducible refine Kd.C_drew ?_))); (case side2 => rw [show t142.length = t122.length from (Kd.R_reads' HO_127000.out).1.symm]; exact (Kd.R_reads' HO_127000.out).2.1); rintro e w200 ⟨rfl, hb⟩; refine ⟨_, rfl, ?_⟩; replace HO_115000 := Aside0.mk (Kd.R_below (by (with_reducible repeat (first | apply Kd.R_alloc | apply Kd.R_drewN | apply Kd.R_drew)); exact HO_115000.out) hb); replace HO_119000 := Aside0.mk (Kd.R_below (by (with_reducible repeat (first | apply Kd.R_alloc | apply Kd.R_drewN | apply Kd.R_drew)); exact HO_119000.out) hb); replace HO_127000 := Aside0.mk (Kd.R_below (by (with_reducible repeat (first | apply Kd.R_alloc | apply Kd.R_drewN | apply Kd.R_drew)); exact HO_127000.out) hb); replace BK101 := kB BK101 hb; replace BK114 := kB BK114 hb; replace BK118 := kB BK118 hb; replace BK126 := kB BK126 hb; replace HB := kS HB hb))
                          go_ret
                          exact ⟨by first | rfl | (simp [errW_none, errW_some] <;> rfl) | (simp [*, errW_none, errW_some] <;> rfl), kb HB⟩
              · replace c76 := Bool.eq_false_iff.mpr c76
                subst c76
                have H1 : (some false) = some r := by rw [if_neg (show ¬ (false = true) by decide)] at H; exact H
                clear H
                have H := H1
                clear H1
                obtain rfl := Option.some.inj H
                try go_wp2
                have n0_ := Aside0.mk (Kd.R_drew HO_9.out)
                have n1_ := Aside0.mk (Kd.R_drew HO_115000.out)
                have n2_ := Aside0.mk (Kd.R_drew HO_119000.out)
                have n3_ := Aside0.mk (Kd.R_drew HO_127000.out)
                have n4_ := Aside0.mk (blk_drew BK101.out)
                have n5_ := Aside0.mk (blk_drew BK114.out)
                have n6_ := Aside0.mk (blk_drew BK118.out)
                have n7_ := Aside0.mk (blk_drew BK126.out)
                have n8_ := Aside0.mk (below_drew1 HB.out)
                clear HO_9
                clear HO_115000
                clear HO_119000
                clear HO_127000
                clear BK101
                clear BK114
                clear BK118
                clear BK126
                clear HB
                have HO_9 := n0_
                have HO_115000 := n1_
                have HO_119000 := n2_
                have HO_127000 := n3_
                have BK101 := n4_
                have BK114 := n5_
                have BK118 := n6_
                have BK126 := n7_
                have HB := n8_
                clear n0_ n1_ n2_ n3_ n4_ n5_ n6_ n7_ n8_
                refine start_ (n := 5) (S := fun w' => w'.cell? ⟨gb118, 0, none⟩ = some (.slice Ao38 t115.length co38) ∧ w'.cell? ⟨gb101, 0, none⟩ = some (.slice A0_0 l0_0.length c0_0)) (ds := []) #[false, false, false, false, false] (by kernel_rfl) rfl rfl ⟨(blk_cell BK118.out 0).trans rfl, (blk_cell BK101.out 0).trans rfl⟩ (fun hHeld => ?_)
                generalize wc.drew = w201 at HO_9 HO_115000 HO_119000 HO_127000 BK101 BK114 BK118 BK126 HB hHeld ⊢
                refine take_ (i := 0) (N := some 54) (v := ?_) (a' := ?_) #[true, false, false, false, false] rfl rfl (by kernel_rfl) (fun _ _ _ h => h) (Or.inl ⟨by rfl, ?_⟩) hHeld ?_ ?_
                rotate_left
                · rintro w' ⟨s0, s1⟩
                  go_simp
                  with_reducible rfl
                rotate_left
                · simp only [Act.put, List.setIfInBounds_toArray, List.set_cons_zero, List.set_cons_succ, i64_w, i32_w]
                  rfl
                refine take_ (i := 1) (N := some 55) (v := ?_) (a' := ?_) #[true, true, false, false, false] rfl rfl (by kernel_rfl) (fun _ _ _ h => h) (Or.inl ⟨by rfl, ?_⟩) hHeld ?_ ?_
                rotate_left
                · rintro w' ⟨s0, s1⟩
                  go_simp
                  with_reducible rfl
                rotate_left
                · simp only [Act.put, List.setIfInBounds_toArray, List.set_cons_zero, List.set_cons_succ, i64_w, i32_w]
                  rfl
                refine one_ (i := 2) (N := some 56) #[true, true, true, false, false] rfl rfl (by kernel_rfl) (by decide) (fun K hK => ?_)
                refine goes_ Try.func8 (by kernel_rfl) rfl #[.agg #[.slice A0_0 l0_0.length c0_0]] (by rfl) rfl rfl (by (try simp only [List.map_toArray, List.map_cons, List.map_nil]); first | done | rfl | (simp only [List.length_drop, List.length_take]; rfl)) ?_
                with_reducible refine (laws_toMillPlace.calls kj19 _ _ l0_0 t128 _ ?side1 ?side2 A71.out).mono ?_
                (case side1 => repeat (first | exact (Kd.C_below HR0_0.out HB.out) | (with_reducible refine Kd.C_alloc ?_ _) | (with_reducible refine Kd.C_drewN ?_ _) | (with_reducible refine Kd.C_drew ?_)))
                (case side2 => exact HC0_0.out)
                rintro e w202 ⟨v129, rfl, ho0, hb⟩
                refine ⟨_, rfl, ?_⟩
                have n0_ := Aside0.mk (Kd.R_elder' (by (with_reducible repeat (first | apply Kd.R_alloc | apply Kd.R_drewN | apply Kd.R_drew)); exact HO_9.out) (Kd.R_base ho0) hb)
                have n1_ := Aside0.mk (Kd.R_elder' (by (with_reducible repeat (first | apply Kd.R_alloc | apply Kd.R_drewN | apply Kd.R_drew)); exact HO_115000.out) (Kd.R_base ho0) hb)
                have n2_ := Aside0.mk (Kd.R_elder' (by (with_reducible repeat (first | apply Kd.R_alloc | apply Kd.R_drewN | apply Kd.R_drew)); exact HO_119000.out) (Kd.R_base ho0) hb)
                have n3_ := Aside0.mk (Kd.R_elder' (by (with_reducible repeat (first | apply Kd.R_alloc | apply Kd.R_drewN | apply Kd.R_drew)); exact HO_127000.out) (Kd.R_base ho0) hb)
                have n4_ := Aside0.mk (Kd.R_lower (Kd.R_new' (Kd.R_new' (Kd.R_new' (Kd.R_new' ho0 (Kd.R_lt (by (with_reducible repeat (first | apply Kd.R_alloc | apply Kd.R_drewN | apply Kd.R_drew)); exact HO_9.out))) (Kd.R_lt (by (with_reducible repeat (first | apply Kd.R_alloc | apply Kd.R_drewN | apply Kd.R_drew)); exact HO_115000.out))) (Kd.R_lt (by (with_reducible repeat (first | apply Kd.R_alloc | apply Kd.R_drewN | apply Kd.R_drew)); exact HO_119000.out))) (Kd.R_lt (by (with_reducible repeat (first | apply Kd.R_alloc | apply Kd.R_drewN | apply Kd.R_drew)); exact HO_127000.out))) (below_size (kb HB)))
                have n5_ := kB BK101 hb
                have n6_ := kB BK114 hb
                have n7_ := kB BK118 hb
                have n8_ := kB BK126 hb
                have n9_ := kS HB hb
                clear HO_9
                clear HO_115000
                clear HO_119000
                clear HO_127000
                clear BK101
                clear BK114
                clear BK118
                clear BK126
                clear HB
                have HO_9 := n0_
                have HO_115000 := n1_
                have HO_119000 := n2_
                have HO_127000 := n3_
                have HO130 := n4_
                have BK101 := n5_
                have BK114 := n6_
                have BK118 := n7_
                have BK126 := n8_
                have HB := n9_
                clear n0_ n1_ n2_ n3_ n4_ n5_ n6_ n7_ n8_ n9_
                (try clear hb)
                (try clear hb2)
                (try clear hk)
                (try clear hi)
                (try clear ho0)
                obtain ⟨Ao203, co203, eo203⟩ := Kd.R_slice HO130.out
                (first | subst eo203 | (injection eo203 with f1_ f2_ f3_; have f4_ := f1_.symm; have f5_ := f3_.symm; clear f1_ f2_ f3_; subst f4_; subst f5_))
                refine hK.out _ _ ⟨(blk_cell BK118.out 0).trans rfl, (blk_cell BK101.out 0).trans rfl⟩ (fun hHeld => ?_)
                clear hK K
                refine norm_ (a' := ?_) ?_ ?_
                rotate_left
                · show Act.put _ (some 56) _ = _
                  simp only [Act.put, List.setIfInBounds_toArray, List.set_cons_zero, List.set_cons_succ, i64_w, i32_w]
                  rfl
                refine one_ (i := 3) (N := some 57) #[true, true, true, true, false] rfl rfl (by kernel_rfl) (by decide) (fun K hK => ?_)
                refine goes_ Try.func11 (by kernel_rfl) rfl #[.agg #[.slice Ao38 t115.length co38], .agg #[.slice Ao203 t128.length co203]] (by rfl) rfl rfl (by (try simp only [List.map_toArray, List.map_cons, List.map_nil]); first | done | rfl | (simp only [List.length_drop, List.length_take]; rfl)) ?_
                with_reducible refine (laws_eqMillPlace.calls kj19 _ _ t115 _ _ t128 true _ ?side1 ?side2 ?side3 ?side4 A72.out).mono ?_
                (case side1 => repeat (first | exact (Kd.R_reads' HO_119000.out).2.2 | (with_reducible refine Kd.C_alloc ?_ _) | (with_reducible refine Kd.C_drewN ?_ _) | (with_reducible refine Kd.C_drew ?_)))
                (case side2 => exact (Kd.R_reads' HO_119000.out).2.1)
                (case side3 => repeat (first | exact (Kd.R_reads' HO130.out).2.2 | (with_reducible refine Kd.C_alloc ?_ _) | (with_reducible refine Kd.C_drewN ?_ _) | (with_reducible refine Kd.C_drew ?_)))
                (case side4 => exact (Kd.R_reads' HO130.out).2.1)
                rintro e w204 ⟨rfl, hb⟩
                refine ⟨_, rfl, ?_⟩
                have n0_ := Aside0.mk (Kd.R_below (by (with_reducible repeat (first | apply Kd.R_alloc | apply Kd.R_drewN | apply Kd.R_drew)); exact HO_9.out) hb)
                have n1_ := Aside0.mk (Kd.R_below (by (with_reducible repeat (first | apply Kd.R_alloc | apply Kd.R_drewN | apply Kd.R_drew)); exact HO_115000.out) hb)
                have n2_ := Aside0.mk (Kd.R_below (by (with_reducible repeat (first | apply Kd.R_alloc | apply Kd.R_drewN | apply Kd.R_drew)); exact HO_119000.out) hb)
                have n3_ := Aside0.mk (Kd.R_below (by (with_reducible repeat (first | apply Kd.R_alloc | apply Kd.R_drewN | apply Kd.R_drew)); exact HO_127000.out) hb)
                have n4_ := Aside0.mk (Kd.R_below (by (with_reducible repeat (first | apply Kd.R_alloc | apply Kd.R_drewN | apply Kd.R_drew)); exact HO130.out) hb)
                have n5_ := kB BK101 hb
                have n6_ := kB BK114 hb
                have n7_ := kB BK118 hb
                have n8_ := kB BK126 hb
                have n9_ := kS HB hb
                clear HO_9
                clear HO_115000
                clear HO_119000
                clear HO_127000
                clear HO130
                clear BK101
                clear BK114
                clear BK118
                clear BK126
                clear HB
                have HO_9 := n0_
                have HO_115000 := n1_
                have HO_119000 := n2_
                have HO_127000 := n3_
                have HO130 := n4_
                have BK101 := n5_
                have BK114 := n6_
                have BK118 := n7_
                have BK126 := n8_
                have HB := n9_
                clear n0_ n1_ n2_ n3_ n4_ n5_ n6_ n7_ n8_ n9_
                (try clear hb)
                (try clear hb2)
                (try clear hk)
                (try clear hi)
                refine hK.out _ _ ⟨(blk_cell BK118.out 0).trans rfl, (blk_cell BK101.out 0).trans rfl⟩ (fun hHeld => ?_)
                clear hK K
                refine norm_ (a' := ?_) ?_ ?_
                rotate_left
                · show Act.put _ (some 57) _ = _
                  simp only [Act.put, List.setIfInBounds_toArray, List.set_cons_zero, List.set_cons_succ, i64_w, i32_w]
                  rfl
                refine pure_ (i := 4) (N := some 58) (v := ?_) (a' := ?_) #[true, true, true, true, true] rfl rfl (by kernel_rfl) (fun _ _ _ h => h) (Or.inl ⟨by rfl, ?_⟩) ?_ ?_
                rotate_left
                · intro w'
                  go_simp
                  with_reducible rfl
                rotate_left
                · simp only [Act.put, List.setIfInBounds_toArray, List.set_cons_zero, List.set_cons_succ, i64_w, i32_w]
                  rfl
                refine done_ (by kernel_rfl) ?_
                try go_wp2_with (first | ((with_reducible refine gate_callee (f := 9) rfl ?_); refine goesL_ (some 61) rfl rfl Try.func9 (by kernel_rfl) rfl #[.slice A1 l1.length c1] rfl (by (try simp only [List.map_toArray, List.map_cons, List.map_nil]); first | done | rfl | (simp only [List.length_drop, List.length_take]; rfl)) ?_; (with_reducible refine (laws_toMillFileS.calls kj19 _ _ l1 t132 _ ?side1 ?side2 A74.out).mono ?_); (case side1 => repeat (first | exact (Kd.C_below HR1.out HB.out) | (with_reducible refine Kd.C_alloc ?_ _) | (with_reducible refine Kd.C_drewN ?_ _) | (with_reducible refine Kd.C_drew ?_))); (case side2 => exact HC1.out); rintro e w205 ⟨v133, rfl, ho0, hb⟩; refine ⟨_, rfl, ?_⟩; have HO134 := Aside0.mk (Kd.R_lower (Kd.R_new' (Kd.R_new' (Kd.R_new' (Kd.R_new' (Kd.R_new' ho0 (Kd.R_lt (by (with_reducible repeat (first | apply Kd.R_alloc | apply Kd.R_drewN | apply Kd.R_drew)); exact HO_9.out))) (Kd.R_lt (by (with_reducible repeat (first | apply Kd.R_alloc | apply Kd.R_drewN | apply Kd.R_drew)); exact HO_115000.out))) (Kd.R_lt (by (with_reducible repeat (first | apply Kd.R_alloc | apply Kd.R_drewN | apply Kd.R_drew)); exact HO_119000.out))) (Kd.R_lt (by (with_reducible repeat (first | apply Kd.R_alloc | apply Kd.R_drewN | apply Kd.R_drew)); exact HO_127000.out))) (Kd.R_lt (by (with_reducible repeat (first | apply Kd.R_alloc | apply Kd.R_drewN | apply Kd.R_drew)); exact HO130.out))) (below_size (kb HB))); replace HO_9 := Aside0.mk (Kd.R_elder' (by (with_reducible repeat (first | apply Kd.R_alloc | apply Kd.R_drewN | apply Kd.R_drew)); exact HO_9.out) (Kd.R_base ho0) hb); replace HO_115000 := Aside0.mk (Kd.R_elder' (by (with_reducible repeat (first | apply Kd.R_alloc | apply Kd.R_drewN | apply Kd.R_drew)); exact HO_115000.out) (Kd.R_base ho0) hb); replace HO_119000 := Aside0.mk (Kd.R_elder' (by (with_reducible repeat (first | apply Kd.R_alloc | apply Kd.R_drewN | apply Kd.R_drew)); exact HO_119000.out) (Kd.R_base ho0) hb); replace HO_127000 := Aside0.mk (Kd.R_elder' (by (with_reducible repeat (first | apply Kd.R_alloc | apply Kd.R_drewN | apply Kd.R_drew)); exact HO_127000.out) (Kd.R_base ho0) hb); replace HO130 := Aside0.mk (Kd.R_elder' (by (with_reducible repeat (first | apply Kd.R_alloc | apply Kd.R_drewN | apply Kd.R_drew)); exact HO130.out) (Kd.R_base ho0) hb); replace BK101 := kB BK101 hb; replace BK114 := kB BK114 hb; replace BK118 := kB BK118 hb; replace BK126 := kB BK126 hb; replace HB := kS HB hb; (try clear ho0); obtain ⟨Ao206, co206, eo206⟩ := Kd.R_slice HO134.out; subst eo206) | ((with_reducible refine gate_callee (f := 12) rfl ?_); refine gL (some 62) Try.func12 #[.slice Ao44 t119.length co44, .slice Ao206 t132.length co206] (laws_eqMillFileS.calls kj19 _ _ t119 _ _ t132 false _ ?side1 ?side2 ?side3 ?side4 A75.out) ?_; (case side1 => repeat (first | exact (Kd.R_reads' HO_9.out).2.2 | (with_reducible refine Kd.C_alloc ?_ _) | (with_reducible refine Kd.C_drewN ?_ _) | (with_reducible refine Kd.C_drew ?_))); (case side2 => exact (Kd.R_reads' HO_9.out).2.1); (case side3 => repeat (first | exact (Kd.R_reads' HO134.out).2.2 | (with_reducible refine Kd.C_alloc ?_ _) | (with_reducible refine Kd.C_drewN ?_ _) | (with_reducible refine Kd.C_drew ?_))); (case side4 => exact (Kd.R_reads' HO134.out).2.1); intro w207 hb; replace HO_9 := Aside0.mk (Kd.R_below (by (with_reducible repeat (first | apply Kd.R_alloc | apply Kd.R_drewN | apply Kd.R_drew)); exact HO_9.out) hb); replace HO_115000 := Aside0.mk (Kd.R_below (by (with_reducible repeat (first | apply Kd.R_alloc | apply Kd.R_drewN | apply Kd.R_drew)); exact HO_115000.out) hb); replace HO_119000 := Aside0.mk (Kd.R_below (by (with_reducible repeat (first | apply Kd.R_alloc | apply Kd.R_drewN | apply Kd.R_drew)); exact HO_119000.out) hb); replace HO_127000 := Aside0.mk (Kd.R_below (by (with_reducible repeat (first | apply Kd.R_alloc | apply Kd.R_drewN | apply Kd.R_drew)); exact HO_127000.out) hb); replace HO130 := Aside0.mk (Kd.R_below (by (with_reducible repeat (first | apply Kd.R_alloc | apply Kd.R_drewN | apply Kd.R_drew)); exact HO130.out) hb); replace HO134 := Aside0.mk (Kd.R_below (by (with_reducible repeat (first | apply Kd.R_alloc | apply Kd.R_drewN | apply Kd.R_drew)); exact HO134.out) hb); replace BK101 := kB BK101 hb; replace BK114 := kB BK114 hb; replace BK118 := kB BK118 hb; replace BK126 := kB BK126 hb; replace HB := kS HB hb))
                go_ret
                exact ⟨by first | rfl | (simp [errW_none, errW_some] <;> rfl) | (simp [*, errW_none, errW_some] <;> rfl), kb HB⟩
            · replace c73 := Bool.eq_false_iff.mpr c73
              subst c73
              have H1 : (some false) = some r := by rw [if_neg (show ¬ (false = true) by decide)] at H; exact H
              clear H
              have H := H1
              clear H1
              obtain rfl := Option.some.inj H
              try go_wp2
              have n0_ := Aside0.mk (Kd.R_drew HO_9.out)
              have n1_ := Aside0.mk (Kd.R_drew HO_115000.out)
              have n2_ := Aside0.mk (Kd.R_drew HO_119000.out)
              have n3_ := Aside0.mk (Kd.R_drew HO_127000.out)
              have n4_ := Aside0.mk (blk_drew BK101.out)
              have n5_ := Aside0.mk (blk_drew BK114.out)
              have n6_ := Aside0.mk (blk_drew BK118.out)
              have n7_ := Aside0.mk (blk_drew BK126.out)
              have n8_ := Aside0.mk (below_drew1 HB.out)
              clear HO_9
              clear HO_115000
              clear HO_119000
              clear HO_127000
              clear BK101
              clear BK114
              clear BK118
              clear BK126
              clear HB
              have HO_9 := n0_
              have HO_115000 := n1_
              have HO_119000 := n2_
              have HO_127000 := n3_
              have BK101 := n4_
              have BK114 := n5_
              have BK118 := n6_
              have BK126 := n7_
              have HB := n8_
              clear n0_ n1_ n2_ n3_ n4_ n5_ n6_ n7_ n8_
              refine start_ (n := 5) (S := fun w' => w'.cell? ⟨gb118, 0, none⟩ = some (.slice Ao38 t115.length co38) ∧ w'.cell? ⟨gb101, 0, none⟩ = some (.slice A0_0 l0_0.length c0_0)) (ds := []) #[false, false, false, false, false] (by kernel_rfl) rfl rfl ⟨(blk_cell BK118.out 0).trans rfl, (blk_cell BK101.out 0).trans rfl⟩ (fun hHeld => ?_)
              generalize wc.drew = w208 at HO_9 HO_115000 HO_119000 HO_127000 BK101 BK114 BK118 BK126 HB hHeld ⊢
              refine take_ (i := 0) (N := some 54) (v := ?_) (a' := ?_) #[true, false, false, false, false] rfl rfl (by kernel_rfl) (fun _ _ _ h => h) (Or.inl ⟨by rfl, ?_⟩) hHeld ?_ ?_
              rotate_left
              · rintro w' ⟨s0, s1⟩
                go_simp
                with_reducible rfl
              rotate_left
              · simp only [Act.put, List.setIfInBounds_toArray, List.set_cons_zero, List.set_cons_succ, i64_w, i32_w]
                rfl
              refine take_ (i := 1) (N := some 55) (v := ?_) (a' := ?_) #[true, true, false, false, false] rfl rfl (by kernel_rfl) (fun _ _ _ h => h) (Or.inl ⟨by rfl, ?_⟩) hHeld ?_ ?_
              rotate_left
              · rintro w' ⟨s0, s1⟩
                go_simp
                with_reducible rfl
              rotate_left
              · simp only [Act.put, List.setIfInBounds_toArray, List.set_cons_zero, List.set_cons_succ, i64_w, i32_w]
                rfl
              refine one_ (i := 2) (N := some 56) #[true, true, true, false, false] rfl rfl (by kernel_rfl) (by decide) (fun K hK => ?_)
              refine goes_ Try.func8 (by kernel_rfl) rfl #[.agg #[.slice A0_0 l0_0.length c0_0]] (by rfl) rfl rfl (by (try simp only [List.map_toArray, List.map_cons, List.map_nil]); first | done | rfl | (simp only [List.length_drop, List.length_take]; rfl)) ?_
              with_reducible refine (laws_toMillPlace.calls kj19 _ _ l0_0 t128 _ ?side1 ?side2 A71.out).mono ?_
              (case side1 => repeat (first | exact (Kd.C_below HR0_0.out HB.out) | (with_reducible refine Kd.C_alloc ?_ _) | (with_reducible refine Kd.C_drewN ?_ _) | (with_reducible refine Kd.C_drew ?_)))
              (case side2 => exact HC0_0.out)
              rintro e w209 ⟨v129, rfl, ho0, hb⟩
              refine ⟨_, rfl, ?_⟩
              have n0_ := Aside0.mk (Kd.R_elder' (by (with_reducible repeat (first | apply Kd.R_alloc | apply Kd.R_drewN | apply Kd.R_drew)); exact HO_9.out) (Kd.R_base ho0) hb)
              have n1_ := Aside0.mk (Kd.R_elder' (by (with_reducible repeat (first | apply Kd.R_alloc | apply Kd.R_drewN | apply Kd.R_drew)); exact HO_115000.out) (Kd.R_base ho0) hb)
              have n2_ := Aside0.mk (Kd.R_elder' (by (with_reducible repeat (first | apply Kd.R_alloc | apply Kd.R_drewN | apply Kd.R_drew)); exact HO_119000.out) (Kd.R_base ho0) hb)
              have n3_ := Aside0.mk (Kd.R_elder' (by (with_reducible repeat (first | apply Kd.R_alloc | apply Kd.R_drewN | apply Kd.R_drew)); exact HO_127000.out) (Kd.R_base ho0) hb)
              have n4_ := Aside0.mk (Kd.R_lower (Kd.R_new' (Kd.R_new' (Kd.R_new' (Kd.R_new' ho0 (Kd.R_lt (by (with_reducible repeat (first | apply Kd.R_alloc | apply Kd.R_drewN | apply Kd.R_drew)); exact HO_9.out))) (Kd.R_lt (by (with_reducible repeat (first | apply Kd.R_alloc | apply Kd.R_drewN | apply Kd.R_drew)); exact HO_115000.out))) (Kd.R_lt (by (with_reducible repeat (first | apply Kd.R_alloc | apply Kd.R_drewN | apply Kd.R_drew)); exact HO_119000.out))) (Kd.R_lt (by (with_reducible repeat (first | apply Kd.R_alloc | apply Kd.R_drewN | apply Kd.R_drew)); exact HO_127000.out))) (below_size (kb HB)))
              have n5_ := kB BK101 hb
              have n6_ := kB BK114 hb
              have n7_ := kB BK118 hb
              have n8_ := kB BK126 hb
              have n9_ := kS HB hb
              clear HO_9
              clear HO_115000
              clear HO_119000
              clear HO_127000
              clear BK101
              clear BK114
              clear BK118
              clear BK126
              clear HB
              have HO_9 := n0_
              have HO_115000 := n1_
              have HO_119000 := n2_
              have HO_127000 := n3_
              have HO130 := n4_
              have BK101 := n5_
              have BK114 := n6_
              have BK118 := n7_
              have BK126 := n8_
              have HB := n9_
              clear n0_ n1_ n2_ n3_ n4_ n5_ n6_ n7_ n8_ n9_
              (try clear hb)
              (try clear hb2)
              (try clear hk)
              (try clear hi)
              (try clear ho0)
              obtain ⟨Ao210, co210, eo210⟩ := Kd.R_slice HO130.out
              (first | subst eo210 | (injection eo210 with f1_ f2_ f3_; have f4_ := f1_.symm; have f5_ := f3_.symm; clear f1_ f2_ f3_; subst f4_; subst f5_))
              refine hK.out _ _ ⟨(blk_cell BK118.out 0).trans rfl, (blk_cell BK101.out 0).trans rfl⟩ (fun hHeld => ?_)
              clear hK K
              refine norm_ (a' := ?_) ?_ ?_
              rotate_left
              · show Act.put _ (some 56) _ = _
                simp only [Act.put, List.setIfInBounds_toArray, List.set_cons_zero, List.set_cons_succ, i64_w, i32_w]
                rfl
              refine one_ (i := 3) (N := some 57) #[true, true, true, true, false] rfl rfl (by kernel_rfl) (by decide) (fun K hK => ?_)
              refine goes_ Try.func11 (by kernel_rfl) rfl #[.agg #[.slice Ao38 t115.length co38], .agg #[.slice Ao210 t128.length co210]] (by rfl) rfl rfl (by (try simp only [List.map_toArray, List.map_cons, List.map_nil]); first | done | rfl | (simp only [List.length_drop, List.length_take]; rfl)) ?_
              with_reducible refine (laws_eqMillPlace.calls kj19 _ _ t115 _ _ t128 false _ ?side1 ?side2 ?side3 ?side4 A72.out).mono ?_
              (case side1 => repeat (first | exact (Kd.R_reads' HO_119000.out).2.2 | (with_reducible refine Kd.C_alloc ?_ _) | (with_reducible refine Kd.C_drewN ?_ _) | (with_reducible refine Kd.C_drew ?_)))
              (case side2 => exact (Kd.R_reads' HO_119000.out).2.1)
              (case side3 => repeat (first | exact (Kd.R_reads' HO130.out).2.2 | (with_reducible refine Kd.C_alloc ?_ _) | (with_reducible refine Kd.C_drewN ?_ _) | (with_reducible refine Kd.C_drew ?_)))
              (case side4 => exact (Kd.R_reads' HO130.out).2.1)
              rintro e w211 ⟨rfl, hb⟩
              refine ⟨_, rfl, ?_⟩
              have n0_ := Aside0.mk (Kd.R_below (by (with_reducible repeat (first | apply Kd.R_alloc | apply Kd.R_drewN | apply Kd.R_drew)); exact HO_9.out) hb)
              have n1_ := Aside0.mk (Kd.R_below (by (with_reducible repeat (first | apply Kd.R_alloc | apply Kd.R_drewN | apply Kd.R_drew)); exact HO_115000.out) hb)
              have n2_ := Aside0.mk (Kd.R_below (by (with_reducible repeat (first | apply Kd.R_alloc | apply Kd.R_drewN | apply Kd.R_drew)); exact HO_119000.out) hb)
              have n3_ := Aside0.mk (Kd.R_below (by (with_reducible repeat (first | apply Kd.R_alloc | apply Kd.R_drewN | apply Kd.R_drew)); exact HO_127000.out) hb)
              have n4_ := Aside0.mk (Kd.R_below (by (with_reducible repeat (first | apply Kd.R_alloc | apply Kd.R_drewN | apply Kd.R_drew)); exact HO130.out) hb)
              have n5_ := kB BK101 hb
              have n6_ := kB BK114 hb
              have n7_ := kB BK118 hb
              have n8_ := kB BK126 hb
              have n9_ := kS HB hb
              clear HO_9
              clear HO_115000
              clear HO_119000
              clear HO_127000
              clear HO130
              clear BK101
              clear BK114
              clear BK118
              clear BK126
              clear HB
              have HO_9 := n0_
              have HO_115000 := n1_
              have HO_119000 := n2_
              have HO_127000 := n3_
              have HO130 := n4_
              have BK101 := n5_
              have BK114 := n6_
              have BK118 := n7_
              have BK126 := n8_
              have HB := n9_
              clear n0_ n1_ n2_ n3_ n4_ n5_ n6_ n7_ n8_ n9_
              (try clear hb)
              (try clear hb2)
              (try clear hk)
              (try clear hi)
              refine hK.out _ _ ⟨(blk_cell BK118.out 0).trans rfl, (blk_cell BK101.out 0).trans rfl⟩ (fun hHeld => ?_)
              clear hK K
              refine norm_ (a' := ?_) ?_ ?_
              rotate_left
              · show Act.put _ (some 57) _ = _
                simp only [Act.put, List.setIfInBounds_toArray, List.set_cons_zero, List.set_cons_succ, i64_w, i32_w]
                rfl
              refine pure_ (i := 4) (N := some 58) (v := ?_) (a' := ?_) #[true, true, true, true, true] rfl rfl (by kernel_rfl) (fun _ _ _ h => h) (Or.inl ⟨by rfl, ?_⟩) ?_ ?_
              rotate_left
              · intro w'
                go_simp
                with_reducible rfl
              rotate_left
              · simp only [Act.put, List.setIfInBounds_toArray, List.set_cons_zero, List.set_cons_succ, i64_w, i32_w]
                rfl
              refine done_ (by kernel_rfl) ?_
              try go_wp2
              go_ret
              exact ⟨by first | rfl | (simp [errW_none, errW_some] <;> rfl) | (simp [*, errW_none, errW_some] <;> rfl), kb HB⟩
end Go.Proofs.Ytnffcpajfojajaa.Q
end
section
namespace Go.Proofs.Ytnffcpajfojajaa.Opens
open Go.RowKit Go.ChangeShapes Go.WideShapes Go.Proofs.YtnffcpajfojajaaW.PrintWords
set_option linter.unusedVariables false
theorem mapM_get {α β : Type} {f : α → Option β} : ∀ {l : List α} {r : List β}, l.mapM f = some r → ∀ (i : Nat) (x : α), l[i]? = some x → f x = r[i]?
  | [], r, h, i, x, hx => by simp at hx
  | a :: l, r, h, i, x, hx => by
    rw [List.mapM_cons] at h
    cases ha : f a with
    | none => rw [ha] at h; simp at h
    | some b =>
      cases hl : l.mapM f with
      | none => rw [ha, hl] at h; simp at h
      | some rs =>
        rw [ha, hl] at h
        simp at h
        subst h
        cases i with
        | zero => simp at hx; subst hx; simpa using ha
        | succ i => simp at hx ⊢; exact mapM_get hl i x hx
theorem mapM_len {α β : Type} {f : α → Option β} : ∀ {l : List α} {r : List β}, l.mapM f = some r → r.length = l.length
  | [], r, h => by simp at h; subst h; rfl
  | a :: l, r, h => by
    rw [List.mapM_cons] at h
    cases ha : f a with
    | none => rw [ha] at h; simp at h
    | some b =>
      cases hl : l.mapM f with
      | none => rw [ha, hl] at h; simp at h
      | some rs =>
        rw [ha, hl] at h
        simp at h
        subst h
        simp [mapM_len hl]
theorem cells_get {w : World} {base : Nat} {a : Addr} {n : Nat} {cs : List Value} (h : w.cells? base a n = some cs) : cs.length = n ∧ ∀ (i : Nat) (u : Value), cs[i]? = some u → w.cell? (a.add i) = some u := by
  unfold World.cells? at h
  split at h
  · refine ⟨by rw [mapM_len h, List.length_range], fun i u hu => ?_⟩
    have hi : i < n := by
      have := mapM_len h
      rw [List.length_range] at this
      obtain ⟨hl, _⟩ := List.getElem?_eq_some_iff.1 hu
      omega
    exact (mapM_get h i i (by simp [hi])).trans hu
  · simp at h
theorem add_two (a : Addr) (m i : Nat) : (a.add m).add i = a.add (m + i) := by
  unfold Addr.add
  by_cases h : m = 0 <;> by_cases h2 : i = 0 <;> simp [h, h2, Nat.add_assoc]
def Opens (P : Program) (t : TypeId) {α : Type} (d : Kd α) (G : α → Prop) : Prop :=
  ∀ (H : Type) (enc : TypeId × Value → H) (W : World) (fuel : Nat) (cs : List Value) (D : DataW H) (ps : List MemPlace),
    DataW.trod enc P W 0 (fun _ => true) true fuel t cs = some (D, ps) → (∀ n ∈ D.weights P t, n ≤ reachBytes) → ∃ x : α, d.K W x cs ∧ G x
theorem of_string {P : Program} {t : TypeId} (hu : P.underlying t = some .string) : Opens P t Kd.string (fun s => s.size ≤ 140737488351232) := by
  intro H enc W fuel cs D ps h hw
  obtain ⟨s, rfl, hx, _⟩ := DataW.trod_string hu h
  obtain ⟨hx, _⟩ := Prod.mk.inj hx
  subst hx
  refine ⟨s, rfl, ?_⟩
  have z := hw s.data.toList.length (by simp [DataW.weights])
  rw [Array.length_toList] at z
  exact z
theorem of_iso {P : Program} {t : TypeId} {α β : Type} {d : Kd α} {G : α → Prop} (f : β → α) (g : α → β) (hfg : ∀ a, f (g a) = a) (h : Opens P t d G) : Opens P t (Kd.iso d f) (fun x => G (f x)) := by
  intro H enc W fuel cs D ps h1 hw
  obtain ⟨x, hk, hg⟩ := h H enc W fuel cs D ps h1 hw
  refine ⟨g x, ?_, ?_⟩
  · show d.K W (f (g x)) cs
    rw [hfg]; exact hk
  · show G (f (g x))
    rw [hfg]; exact hg
theorem weights_all {H : Type} {P : Program} {e : TypeId} : ∀ {l : List (DataW H)} {i : Nat} {x : DataW H}, l[i]? = some x → ∀ n ∈ x.weights P e, n ∈ DataW.weightsAll P e l
  | [], i, x, h, n, hn => by simp at h
  | a :: l, 0, x, h, n, hn => by
    simp at h; subst h
    simp only [DataW.weightsAll, List.mem_append]
    exact .inl hn
  | a :: l, i + 1, x, h, n, hn => by
    simp at h
    simp only [DataW.weightsAll, List.mem_append]
    exact .inr (weights_all h n hn)
theorem build {α : Type} (Q : Nat → α → Prop) : ∀ n : Nat, (∀ i, i < n → ∃ x, Q i x) → ∃ l : List α, l.length = n ∧ ∀ i x, l[i]? = some x → Q i x
  | 0, _ => ⟨[], rfl, fun i x h => by simp at h⟩
  | n + 1, h => by
    obtain ⟨l, hl, hq⟩ := build Q n (fun i hi => h i (by omega))
    obtain ⟨x, hx⟩ := h n (by omega)
    refine ⟨l ++ [x], by simp [hl], fun i y hy => ?_⟩
    rcases Nat.lt_or_ge i n with hi | hi
    · rw [List.getElem?_append_left (by omega)] at hy
      exact hq i y hy
    · obtain ⟨hlt, _⟩ := List.getElem?_eq_some_iff.1 hy
      have : i = n := by simp [hl] at hlt; omega
      subst this
      rw [List.getElem?_append_right (by omega), hl] at hy
      simp at hy
      subst hy
      exact hx
theorem of_slice {P : Program} {t e : TypeId} {α : Type} {d : Kd α} {G : α → Prop} {B : Nat} (hu : P.underlying t = some (.slice e)) (hc : P.cellsOf e = d.sz) (hB : P.bytesOf e = B) (h : Opens P e d G) :
    Opens P t (Kd.slice e d) (fun l => (l.length * B ≤ 140737488351232 ∧ l.length ≤ maxLen) ∧ ∀ x ∈ l, G x) := by
  intro H enc W fuel cs D ps h1 hw
  rcases DataW.trod_slice hu h1 with ⟨rfl, hx⟩ | ⟨a, len, cap, elems, rest, n, _, rfl, hx, _, hl, hm, hlen, hel, _, _⟩
  · exact ⟨[], ⟨none, 0, rfl, Nat.le_refl _, rfl, by simp, fun h => absurd h (Nat.lt_irrefl _)⟩, ⟨by simp, by simp⟩, fun x hx => by simp at hx⟩
  · obtain ⟨hx, _⟩ := Prod.mk.inj hx
    subst hx
    have hw2 : ∀ m ∈ DataW.weightsAll P e (elems.map (·.1)), m ≤ reachBytes := fun m hm => hw m (by simp [DataW.weights, hu, hm])
    have key : ∀ i, i < len → ∃ x, G x ∧ ∃ c, W.cells? 0 (a.add (i * P.cellsOf e)) (P.cellsOf e) = some c ∧ d.K W x c := by
      intro i hi
      have h2 := hel i hi
      obtain ⟨y, hy⟩ : ∃ y, elems[i]? = some y := ⟨_, List.getElem?_eq_getElem (by omega)⟩
      rw [hy] at h2
      obtain ⟨c, hc1, hc2⟩ := Option.bind_eq_some_iff.1 h2
      obtain ⟨x, hk, hg⟩ := h H enc W n c y.1 y.2 hc2 (fun m hm => hw2 m (weights_all (i := i) (x := y.1) (by simp [hy]) m hm))
      exact ⟨x, hg, c, hc1, hk⟩
    obtain ⟨l, hll, hq⟩ := build _ len key
    have hlen2 : len ≤ maxLen := Nat.le_trans hl hm
    have hsz : len * B ≤ 140737488351232 := by
      have z := hw ((elems.map (·.1)).length + (rest.map (·.1)).length |> (· * P.bytesOf e)) (by simp [DataW.weights, hu])
      simp only [List.length_map, hlen, hB] at z
      exact Nat.le_trans (Nat.mul_le_mul_right _ (Nat.le_add_right _ _)) z
    refine ⟨l, ⟨some a, cap, by rw [hll], by omega, rfl, ?_, fun _ => ⟨a, rfl, fun j p hp => ?_⟩⟩, ⟨by rw [hll]; exact hsz, by rw [hll]; exact hlen2⟩, fun x hx => ?_⟩
    · rw [hll]; exact hlen2
    · obtain ⟨_, c, hc1, hk⟩ := hq j p hp
      obtain ⟨hcl, hcc⟩ := cells_get hc1
      refine ⟨c, by rw [hcl, hc], hk, fun i u hu2 => ?_⟩
      have := hcc i u hu2
      rw [hc] at this
      rwa [add_two] at this
    · obtain ⟨i, hi⟩ := List.getElem?_of_mem hx
      exact (hq i x hi).1
def OpensF (P : Program) (fs : List Field) (off : Nat) {α : Type} (d : Kd α) (G : α → Prop) : Prop :=
  ∀ (H : Type) (enc : TypeId × Value → H) (W : World) (fuel : Nat) (cs : List Value) (xs : List (DataW H × List MemPlace)), cs.length = off + d.sz → xs.length = fs.length →
    (∀ (i : Nat) (f : Field), fs[i]? = some f → DataW.trod enc P W 0 (fun _ => true) true fuel f.type ((cs.drop f.offset).take (P.cellsOf f.type)) = xs[i]?) →
    (∀ n ∈ DataW.weightsEach P (fs.map (·.type)) (xs.map (·.1)), n ≤ reachBytes) → ∃ x : α, d.K W x (cs.drop off) ∧ G x
theorem fields_one {P : Program} {f : Field} {off : Nat} {α : Type} {d : Kd α} {G : α → Prop} (ho : f.offset = off) (hc : P.cellsOf f.type = d.sz) (h : Opens P f.type d G) : OpensF P [f] off d G := by
  intro H enc W fuel cs xs hl hx hf hw
  have h0 := hf 0 f rfl
  obtain ⟨y, rfl⟩ : ∃ y, xs = [y] := by
    cases xs with
    | nil => simp at hx
    | cons y ys => cases ys with
      | nil => exact ⟨y, rfl⟩
      | cons _ _ => simp at hx
  simp only [List.getElem?_cons_zero] at h0
  rw [ho, hc, List.take_of_length_le (by simp; omega)] at h0
  exact h H enc W fuel _ y.1 y.2 h0 (fun n hn => hw n (by simpa [DataW.weightsEach] using hn))
theorem fields_cons {P : Program} {f : Field} {fs : List Field} {off : Nat} {α β : Type} {d : Kd α} {d2 : Kd β} {G : α → Prop} {G2 : β → Prop} (ho : f.offset = off) (hc : P.cellsOf f.type = d.sz) (h : Opens P f.type d G) (h2 : OpensF P fs (off + d.sz) d2 G2) :
    OpensF P (f :: fs) off (Kd.pair d d2) (fun x => G x.1 ∧ G2 x.2) := by
  intro H enc W fuel cs xs hl hx hf hw
  have hl' : cs.length = off + (d.sz + d2.sz) := hl
  have h0 := hf 0 f rfl
  obtain ⟨y, ys, rfl⟩ : ∃ y ys, xs = y :: ys := by
    cases xs with
    | nil => simp at hx
    | cons y ys => exact ⟨y, ys, rfl⟩
  simp only [List.getElem?_cons_zero] at h0
  rw [ho, hc] at h0
  obtain ⟨a, ha, ga⟩ := h H enc W fuel _ y.1 y.2 h0 (fun n hn => hw n (by simp only [List.map_cons, DataW.weightsEach, List.mem_append]; exact .inl hn))
  obtain ⟨b, hb, gb⟩ := h2 H enc W fuel cs ys (by omega) (by simpa using hx) (fun i g hg => by simpa using hf (i + 1) g (by simpa using hg)) (fun n hn => hw n (by simp only [List.map_cons, DataW.weightsEach, List.mem_append]; exact .inr hn))
  refine ⟨(a, b), ⟨(cs.drop off).take d.sz, cs.drop (off + d.sz), ?_, ha, hb⟩, ga, gb⟩
  rw [← List.drop_drop, List.take_append_drop]
theorem of_struct {P : Program} {t : TypeId} {fs : Array Field} {α : Type} {d : Kd α} {G : α → Prop} (hu : P.underlying t = some (.struct fs)) (hc : P.cellsOf t = d.sz) (h : OpensF P fs.toList 0 d G) : Opens P t d G := by
  intro H enc W fuel cs D ps h1 hw
  obtain ⟨xs, n, _, hx, hl, hlen, hf⟩ := DataW.trod_struct hu h1
  obtain ⟨hx, _⟩ := Prod.mk.inj hx
  subst hx
  obtain ⟨x, hk, hg⟩ := h H enc W n cs xs (by omega) (by simpa using hlen) (fun i f hf2 => hf i f (by simpa using hf2)) (fun m hm => hw m (by simp only [DataW.weights, hu]; exact hm))
  exact ⟨x, by simpa using hk, hg⟩
theorem Opens.arg {P : Program} {t : TypeId} {α : Type} {d : Kd α} {G : α → Prop} (h : Opens P t d G) {H : Type} {enc : TypeId × Value → H} {W : World} {v : Value} {D : DataW H} {ps : List MemPlace} {ts : List TypeId} {ds : List (DataW H)} {j : Nat}
    (hsz : (DataW.weightsEach P ts ds).all (· ≤ reachBytes) = true) (ht : ts[j]? = some t) (hd : ds[j]? = some D) (hT : DataW.Trod enc P W 0 (fun _ => true) true t v D ps) : ∃ x : α, d.K W x v.cells.toList ∧ G x := by
  obtain ⟨fuel, hf⟩ := hT
  exact h H enc W fuel _ D ps hf (fun n hn => by simpa using List.all_eq_true.1 hsz _ (DataW.weights_mem_each ht hd n hn))
end Go.Proofs.Ytnffcpajfojajaa.Opens
end
section
namespace Go.Proofs.Ytnffcpajfojajaa.EvMore
open Go.RowKit Go.Proofs.YtnffcpajfojajaaW.PrintWords
theorem ev_pos {α : Type} {c : Prop} [Decidable c] {f g : Nat → Option α} {r : α} (h : c) (k : Ev f r) : Ev (fun n => if c then f n else g n) r := by
  simp only [if_pos h]; exact k
theorem ev_neg {α : Type} {c : Prop} [Decidable c] {f g : Nat → Option α} {r : α} (h : ¬ c) (k : Ev g r) : Ev (fun n => if c then f n else g n) r := by
  simp only [if_neg h]; exact k
theorem ev_val {α β : Type} {o : Option α} {a : α} {f : Nat → α → Option β} {r : β} (h : o = some a) (k : Ev (fun n => f n a) r) : Ev (fun n => o.bind (f n)) r := by
  subst h; simpa using k
theorem ev_bind {α β : Type} {g : Nat → Option α} {f : Nat → α → Option β} {a : α} {r : β} (h : Ev g a) (k : Ev (fun n => f n a) r) : Ev (fun n => (g n).bind (f n)) r := Ev.bind h k
theorem ev_now {α : Type} (r : α) : Ev (fun _ => some r) r := Ev.now r
theorem ev_eq {α : Type} {f : Nat → Option α} {r q : α} (h : Ev f r) (e : r = q) : Ev f q := e ▸ h
theorem ev_step {α : Type} {g : Nat → Option α} {r : α} (k : Ev (fun n => g (n + 1)) r) : Ev g r := Ev.step (f := fun n => g (n + 1)) (fun _ => rfl) k
theorem succ64 {i n : Nat} (h : i < n) (hn : n ≤ 9223372036854775807) : wrap64 ((i : Int) + 1) = ((i + 1 : Nat) : Int) := by
  unfold wrap64; omega
theorem pred64 {i : Nat} (h : 0 < i) (hn : i ≤ 9223372036854775807) : wrap64 ((i : Int) - 1) = ((i - 1 : Nat) : Int) := by
  unfold wrap64; omega
theorem id64 {n : Int} (h : -9223372036854775808 ≤ n) (h2 : n ≤ 9223372036854775807) : wrap64 n = n := by
  unfold wrap64; omega
theorem set_map {α β : Type} (f : α → β) (l : List α) (z : β) (i : Nat) (h : i < l.length) :
    ((l.take i).map f ++ List.replicate (l.length - i) z).set i (f l[i]) = (l.take (i + 1)).map f ++ List.replicate (l.length - (i + 1)) z := by
  have e : l.length - i = (l.length - (i + 1)) + 1 := by omega
  rw [List.set_append_right _ _ (by simp; omega), e, List.replicate_succ]
  have hl : i - ((l.take i).map f).length = 0 := by simp; omega
  rw [hl, List.set_cons_zero, List.take_succ_eq_append_getElem h, List.map_append, List.append_assoc]
  rfl
end Go.Proofs.Ytnffcpajfojajaa.EvMore
end
section
namespace Go.Proofs.Ytnffcpajfojajaa.Q
open Go.RowKit Go.Proofs.YtnffcpajfojajaaW.PrintWords Go.Proofs.YtnffcpajfojajaaW.PrintLast Go.Proofs.YtnffcpajfojajaaW.PrintMore Go.Proofs.Ytnffcpajfojajaa.EvMore
set_option linter.unusedVariables false
set_option linter.unusedSimpArgs false
def Tot {α : Type} (g : Nat → Option α) : Prop := ∃ v, Ev g v
theorem tot_now {α : Type} (r : α) : Tot (fun _ => some r) := ⟨r, ev_now r⟩
theorem tot_pos {α : Type} {c : Prop} [Decidable c] {f g : Nat → Option α} (h : c) (k : Tot f) : Tot (fun n => if c then f n else g n) := k.imp fun _ h2 => ev_pos h h2
theorem tot_neg {α : Type} {c : Prop} [Decidable c] {f g : Nat → Option α} (h : ¬ c) (k : Tot g) : Tot (fun n => if c then f n else g n) := k.imp fun _ h2 => ev_neg h h2
theorem tot_ite {α : Type} {c : Prop} [Decidable c] {f g : Nat → Option α} (h : Tot f) (k : Tot g) : Tot (fun n => if c then f n else g n) := by
  by_cases h2 : c
  · exact tot_pos h2 h
  · exact tot_neg h2 k
theorem tot_bind {α β : Type} {g : Nat → Option α} {f : Nat → α → Option β} (h : Tot g) (k : ∀ a, Tot (fun n => f n a)) : Tot (fun n => (g n).bind (f n)) := by
  obtain ⟨a, ha⟩ := h
  obtain ⟨r, hr⟩ := k a
  exact ⟨r, ev_bind ha hr⟩
theorem tot_step {α : Type} {g : Nat → Option α} (k : Tot (fun n => g (n + 1))) : Tot g := k.imp fun _ h => ev_step h
theorem sz_MillFile (a0_0 : ByteArray) (a0_1 : ByteArray) (a1 : Int)  : Tot (fun k => laws_szMillFile.f a0_0 a0_1 a1) := tot_ite (tot_now _) (tot_ite (tot_now _) (tot_now _))
theorem to_MillFile (a0_0 : ByteArray) (a0_1 : ByteArray)  : Ev (fun k => laws_toMillFile.f a0_0 a0_1) (a0_0, a0_1) := ev_now _
theorem eq_MillFile (a0_0 : ByteArray) (a0_1 : ByteArray)  : Ev (fun k => laws_eqMillFile.f a0_0 a0_1 a0_0 a0_1) true := ev_pos (by first | rfl | omega) (ev_pos (by first | rfl | omega) (ev_now _))
theorem rdS49_at (l : List S49) (i : Nat) (h : i < l.length) : rd_T49 l (i : Int) = l[i] := by
  unfold rd_T49; rw [Int.toNat_natCast, List.getD_eq_getElem?_getD, List.getElem?_eq_getElem h]; rfl
theorem sz_MillFileS_l0 (l : List S49) (hl : l.length ≤ 4398046511104) : ∀ d i : Nat, i + d = l.length → ∀ left : Int, Tot (fun k => laws_szMillFileS.l0 k l left (i : Int))
  | 0, i, h, left => tot_step (tot_neg (by omega) (tot_now _))
  | d + 1, i, h, left => by
    have hn : l.length ≤ 4398046511104 := hl
    have e := succ64 (i := i) (n := l.length) (by omega) (by omega)
    exact tot_step (tot_pos (by omega) (tot_pos (by omega) (tot_bind (sz_MillFile _ _ _) (fun t102 => tot_ite (tot_now _) ((by simp only [e]; exact sz_MillFileS_l0 l hl d (i + 1) (by omega) _))))))
theorem sz_MillFileS (l : List S49) (left : Int) (hl : l.length ≤ 4398046511104) : Tot (fun k => laws_szMillFileS.f k l left) := tot_ite (tot_now _) (sz_MillFileS_l0 l hl l.length 0 (by omega) _)
def to_MillFileS_ (x : S49) : S52 := ⟨x.f0, x.f1⟩
theorem to_MillFileS_l0 (l : List S49) (hl : l.length ≤ 4398046511104) : ∀ d i : Nat, i + d = l.length →
    Ev (fun k => laws_toMillFileS.l0 k l ((l.take i).map to_MillFileS_ ++ List.replicate (l.length - i) z52) (i : Int)) (l.map to_MillFileS_)
  | 0, i, h => by
    refine ev_step (ev_neg (by omega) (ev_eq (ev_now _) ?_))
    have : i = l.length := by omega
    subst this; simp
  | d + 1, i, h => by
    have hn : l.length ≤ 4398046511104 := hl
    have e := succ64 (i := i) (n := l.length) (by omega) (by omega)
    have hi : i < l.length := by omega
    have hr : rd_T49 l (i : Int) = l[i] := rdS49_at l i hi
    refine ev_step (ev_pos (by omega) (ev_pos (by first | omega | (simp; omega)) (ev_bind (to_MillFile _ _) (ev_pos (by first | omega | (simp; omega)) (?_)))))
    have ih := to_MillFileS_l0 l hl d (i + 1) (by omega)
    rw [← set_map to_MillFileS_ l _ i hi] at ih
    simp only [e, hr, Int.toNat_natCast]; exact ih
theorem to_MillFileS (l : List S49) (hl : l.length ≤ 4398046511104) : Ev (fun k => laws_toMillFileS.f k l) (l.map to_MillFileS_) := by
  have hn : l.length ≤ 4398046511104 := hl
  refine ev_pos (by omega) (ev_pos (by omega) ?_)
  have h := to_MillFileS_l0 l hl l.length 0 (by omega)
  simpa using h
theorem rdS52_at (l : List S52) (i : Nat) (h : i < l.length) : rd_T52 l (i : Int) = l[i] := by
  unfold rd_T52; rw [Int.toNat_natCast, List.getD_eq_getElem?_getD, List.getElem?_eq_getElem h]; rfl
theorem eq_MillFileS_l0 (l : List S52) (hl : l.length ≤ 4398046511104) : ∀ d i : Nat, i + d = l.length → Ev (fun k => laws_eqMillFileS.l0 k l l (i : Int)) true
  | 0, i, h => ev_step (ev_neg (by omega) (ev_now _))
  | d + 1, i, h => by
    have hn : l.length ≤ 4398046511104 := hl
    have e := succ64 (i := i) (n := l.length) (by omega) (by omega)
    exact ev_step (ev_pos (by omega) (ev_pos (by first | rfl | omega) (ev_pos (by first | rfl | omega) (ev_bind (eq_MillFile _ _) (ev_pos (by first | rfl | omega) ((by simp only [e]; exact eq_MillFileS_l0 l hl d (i + 1) (by omega))))))))
theorem eq_MillFileS (l : List S52) (hl : l.length ≤ 4398046511104) : Ev (fun k => laws_eqMillFileS.f k l l) true := ev_pos (by first | rfl | omega) (eq_MillFileS_l0 l hl l.length 0 (by omega))
theorem sz_MillPlace (l0_0 : List (S49)) (a1 : Int) (hl0_0 : l0_0.length ≤ 4398046511104) : Tot (fun k => laws_szMillPlace.f k l0_0 a1) := tot_bind (sz_MillFileS _ _ hl0_0) (fun t102 => tot_ite (tot_now _) (tot_now _))
theorem to_MillPlace (l0_0 : List (S49)) (hl0_0 : l0_0.length ≤ 4398046511104) : Ev (fun k => laws_toMillPlace.f k l0_0) ((l0_0.map to_MillFileS_)) := ev_bind (to_MillFileS _ hl0_0) (ev_now _)
theorem eq_MillPlace (l0_0 : List (S52)) (hl0_0 : l0_0.length ≤ 4398046511104) : Ev (fun k => laws_eqMillPlace.f k l0_0 l0_0) true := ev_bind (eq_MillFileS _ hl0_0) (ev_pos (by first | rfl | omega) (ev_now _))
theorem markText_l0 : ∀ (d : Nat) (x : Int) (s : ByteArray), 0 ≤ x → x.toNat ≤ d → s.size + x.toNat ≤ 4611686018427387904 → ∃ t, Ev (fun k => laws_markText.l0 k x s) t
  | 0, x, s, h0, h1, h2 => by
    refine ⟨_, ev_step (ev_neg (by omega) (ev_pos (by omega) (ev_now _)))⟩
  | d + 1, x, s, h0, h1, h2 => by
    by_cases c : x > 0
    · have hw : wrap64 (Int.tdiv x 10) = x / 10 := by rw [Int.tdiv_eq_ediv_of_nonneg h0]; unfold wrap64; omega
      have hsz : ∀ z : Int, (strOfNums [z]).size = 1 := fun z => by simp [strOfNums, ByteArray.size]
      obtain ⟨t, ht⟩ := markText_l0 d (x / 10) (strOfNums [(wrap64 (48 + (Int.tmod x 10))) % 256] ++ s) (by omega) (by omega) (by rw [ByteArray.size_append, hsz]; omega)
      refine ⟨t, ev_step (ev_pos c (ev_val rfl (ev_pos (by rw [hsz]; omega) ?_)))⟩
      simp only [hw]; exact ht
    · exact ⟨_, ev_step (ev_neg c (ev_pos (by omega) (ev_now _)))⟩
theorem markText_some (k : Int) (h1 : 1 ≤ k) (h2 : k ≤ 1152921504606846976) : ∃ t, Ev (fun n => laws_markText.f n k) t := by
  obtain ⟨t, ht⟩ := markText_l0 k.toNat k ⟨#[]⟩ (by omega) (by omega) (by show 0 + k.toNat ≤ _; omega)
  exact ⟨t, ev_neg (by omega) ht⟩
open Classical in
noncomputable def mt (k : Int) : ByteArray := if h : ∃ t, Ev (fun n => laws_markText.f n k) t then Classical.choose h else ByteArray.empty
theorem mt_ev (k : Int) (h1 : 1 ≤ k) (h2 : k ≤ 1152921504606846976) : Ev (fun n => laws_markText.f n k) (mt k) := by
  have h := markText_some k h1 h2
  unfold mt; rw [dif_pos h]; exact Classical.choose_spec h
noncomputable def mk_MillFileS (k : Int) (x : S52) : S52 := ⟨mt (k + 0), mt (k + 1)⟩
noncomputable def mks_MillFileS (k : Int) : List S52 → List S52
  | [] => []
  | x :: r => mk_MillFileS k x :: mks_MillFileS (k + 2) r
theorem mks_MillFileS_len (k : Int) (l : List S52) : (mks_MillFileS k l).length = l.length := by
  induction l generalizing k with
  | nil => rfl
  | cons x r ih => simp [mks_MillFileS, ih]
theorem mark_MillFileS_l0 : ∀ (suf pre : List S52) (k : Int), (pre ++ suf).length ≤ 4398046511104 → 1 ≤ k → k + 2 * suf.length ≤ 1152921504606846976 →
    Ev (fun n => laws_markMillFileS.l0 n (pre ++ suf) k (pre.length : Int)) (k + 2 * suf.length, pre ++ mks_MillFileS k suf)
  | [], pre, k, hl, h1, h2 => ev_step (ev_neg (by simp) (ev_eq (ev_now _) (by simp [mks_MillFileS])))
  | x :: r, pre, k, hl, h1, h2 => by
    have hlen : (pre ++ x :: r).length = pre.length + (r.length + 1) := by simp
    rw [hlen] at hl
    have hc : ((x :: r).length : Int) = r.length + 1 := by simp
    rw [hc] at h2 ⊢
    have e := succ64 (i := pre.length) (n := pre.length + (r.length + 1)) (by omega) (by omega)
    have w : ∀ j : Int, 0 ≤ j → j ≤ 1000 → wrap64 (k + j) = k + j := fun j _ _ => id64 (by omega) (by omega)
    have a : ∀ j : Int, k + j + 1 = k + (j + 1) := fun j => by omega
    have n1 : wrap64 (k + 1) = k + 1 := w 1 (by omega) (by omega)
    have n2 : wrap64 (k + 1 + 1) = k + 2 := by rw [show k + 1 + 1 = k + 2 from by omega]; exact w 2 (by omega) (by omega)
    have hx : ∀ y : S52, rd_T52 (pre ++ y :: r) (pre.length : Int) = y := fun y => by unfold rd_T52; simp
    have hs : ∀ y z : S52, (pre ++ y :: r).set pre.length z = pre ++ z :: r := fun y z => by simp
    have ih := mark_MillFileS_l0 r (pre ++ [mk_MillFileS k x]) (k + 2) (by simp; omega) (by omega) (by omega)
    refine ev_step (ev_pos (by rw [hlen]; omega) (ev_bind (by simpa using mt_ev (k + 0) (by omega) (by omega)) (ev_pos (by first | omega | (simp; omega)) (ev_val rfl (ev_bind (by simp only [n1, n2]; exact mt_ev (k + 1) (by omega) (by omega)) (?_))))))
    simp only [Int.toNat_natCast, hs, hx, e, n1, n2]
    simp only [List.append_assoc, List.singleton_append, List.length_append, List.length_cons, List.length_nil, Nat.zero_add] at ih
    simp only [mk_MillFileS, Int.add_zero] at ih
    refine ev_eq ih ?_
    simp only [mks_MillFileS, mk_MillFileS, Int.add_zero, Prod.mk.injEq, and_true]
    omega
theorem mark_MillFileS (l : List S52) (k : Int) (hl : l.length ≤ 4398046511104) (h1 : 1 ≤ k) (h2 : k + 2 * l.length ≤ 1152921504606846976) : Ev (fun n => laws_markMillFileS.f n l k) (k + 2 * l.length, mks_MillFileS k l) := mark_MillFileS_l0 l [] k (by simpa using hl) h1 h2
theorem held_MillFileS_l0 : ∀ (suf pre : List S52) (k : Int), (pre ++ suf).length ≤ 4398046511104 → 1 ≤ k → k + 2 * suf.length ≤ 1152921504606846976 →
    Ev (fun n => laws_heldMillFileS.l0 n (pre ++ mks_MillFileS k suf) k (pre.length : Int)) (k + 2 * suf.length)
  | [], pre, k, hl, h1, h2 => ev_step (ev_neg (by simp [mks_MillFileS]) (ev_eq (ev_now _) (by simp)))
  | x :: r, pre, k, hl, h1, h2 => by
    have hlen : (pre ++ mk_MillFileS k x :: mks_MillFileS (k + 2) r).length = pre.length + (r.length + 1) := by simp [mks_MillFileS_len]
    have hl2 : pre.length + (r.length + 1) ≤ 4398046511104 := by simpa using hl
    have hc : ((x :: r).length : Int) = r.length + 1 := by simp
    rw [hc] at h2 ⊢
    have e := succ64 (i := pre.length) (n := pre.length + (r.length + 1)) (by omega) (by omega)
    have w : ∀ j : Int, 0 ≤ j → j ≤ 1000 → wrap64 (k + j) = k + j := fun j _ _ => id64 (by omega) (by omega)
    have a : ∀ j : Int, k + j + 1 = k + (j + 1) := fun j => by omega
    have n1 : wrap64 (k + 1) = k + 1 := w 1 (by omega) (by omega)
    have n2 : wrap64 (k + 1 + 1) = k + 2 := by rw [show k + 1 + 1 = k + 2 from by omega]; exact w 2 (by omega) (by omega)
    have hx : ∀ (y : S52) (q : List S52), rd_T52 (pre ++ y :: q) (pre.length : Int) = y := fun y q => by unfold rd_T52; simp
    have ih := held_MillFileS_l0 r (pre ++ [mk_MillFileS k x]) (k + 2) (by simp; omega) (by omega) (by omega)
    simp only [mks_MillFileS]
    refine ev_step (ev_pos (by rw [hlen]; omega) (ev_pos (by first | omega | (simp; omega)) (ev_bind (by simpa using mt_ev (k + 0) (by omega) (by omega)) (ev_pos (by simp only [hx, mk_MillFileS, n1, n2, Int.add_zero]) (ev_bind (by simp only [n1, n2]; exact mt_ev (k + 1) (by omega) (by omega)) (ev_pos (by simp only [hx, mk_MillFileS, n1, n2, Int.add_zero]) (?_)))))))
    simp only [e, n1, n2]
    simp only [List.append_assoc, List.singleton_append, List.length_append, List.length_cons, List.length_nil, Nat.zero_add] at ih
    exact ev_eq ih (by omega)
theorem held_MillFileS (l : List S52) (k : Int) (hl : l.length ≤ 4398046511104) (h1 : 1 ≤ k) (h2 : k + 2 * l.length ≤ 1152921504606846976) : Ev (fun n => laws_heldMillFileS.f n (mks_MillFileS k l) k) (k + 2 * l.length) := held_MillFileS_l0 l [] k (by simpa using hl) h1 h2
end Go.Proofs.Ytnffcpajfojajaa.Q
end
section
namespace Go.Proofs.Ytnffcpajfojajaa.Q
open Go.RowKit Go.Proofs.YtnffcpajfojajaaW.PrintWords Go.Proofs.YtnffcpajfojajaaW.PrintLast Go.Proofs.YtnffcpajfojajaaW.PrintMore Go.Proofs.Ytnffcpajfojajaa.EvMore
set_option linter.unusedVariables false
set_option linter.unusedSimpArgs false
theorem path_loops (s : ByteArray) (hs : s.size ≤ 140737488351232) : ∀ d i : Nat, i + d = s.size →
    ∃ b : Bool, Ev (fun k => spec_l15PrefixOk.l0 k s (i : Int)) b ∧ Ev (fun k => impl_listName.l0 k s (i : Int)) (b && decide ((s.size : Int) ≤ 60))
  | 0, i, h => by
    refine ⟨true, ev_step ?_, ev_step ?_⟩
    · exact ev_neg (by omega) (ev_now _)
    · exact ev_neg (by omega) (ev_eq (ev_now _) (by simp))
  | d + 1, i, h => by
    obtain ⟨b, h1, h2⟩ := path_loops s hs d (i + 1) (by omega)
    have e := succ64 (i := i) (n := s.size) (by omega) (by omega)
    by_cases c1 : bt s (i : Int) < 33
    · exact ⟨false, ev_step (ev_pos (by omega) (ev_pos (by omega) (ev_pos c1 (ev_now _)))), ev_step (ev_pos (by omega) (ev_pos (by omega) (ev_pos c1 (ev_now _))))⟩
    · by_cases c2 : bt s (i : Int) > 126
      · exact ⟨false, ev_step (ev_pos (by omega) (ev_pos (by omega) (ev_neg c1 (ev_pos c2 (ev_now _))))), ev_step (ev_pos (by omega) (ev_pos (by omega) (ev_neg c1 (ev_pos c2 (ev_now _)))))⟩
      · refine ⟨b, ev_step (ev_pos (by omega) (ev_pos (by omega) (ev_neg c1 (ev_neg c2 ?_)))), ev_step (ev_pos (by omega) (ev_pos (by omega) (ev_neg c1 (ev_neg c2 ?_))))⟩
        · simp only [e]; exact h1
        · simp only [e]; exact h2
theorem path_ev (s : ByteArray) (hs : s.size ≤ 140737488351232) : ∃ b : Bool, Ev (fun k => spec_l15PathOk.f k s) b ∧ Ev (fun k => impl_fileName.f k s) b ∧ (b = true → s.size ≤ 60) := by
  obtain ⟨b, h1, h2⟩ := path_loops s hs s.size 0 (by omega)
  by_cases c : (s.size : Int) ≥ 1
  · refine ⟨b && decide ((s.size : Int) ≤ 60), ev_pos c (ev_bind (a := b && decide ((s.size : Int) ≤ 60)) ?_ (ev_now _)), ev_pos c (ev_bind h2 (ev_now _)), fun h => by simp at h; omega⟩
    by_cases c2 : (s.size : Int) > 60
    · exact ev_pos c2 (ev_eq (ev_now _) (by simp; omega))
    · exact ev_neg c2 (ev_eq h1 (by simp; omega))
  · exact ⟨false, ev_neg c (ev_now _), ev_neg c (ev_now _), by simp⟩
def shortF (x : S52) : Prop := x.f0.size ≤ 60 ∧ x.f1.size ≤ 3000
theorem files_loops (l : List S52) (hl : l.length ≤ 4398046511104) (hs : ∀ x ∈ l, x.f0.size ≤ 140737488351232) (a1 : Int) : ∀ d i : Nat, i + d = l.length →
    ∃ b : Bool, Ev (fun k => spec_l18FilesOk.l0 k l (i : Int)) b ∧ Ev (fun k => impl_filesOK.l0 k l a1 l (l.length : Int) (i : Int)) (b && decide ((l.length : Int) ≤ a1)) ∧ (b = true → ∀ j, i ≤ j → (hj : j < l.length) → shortF l[j] ∧ (∀ q, q + 1 = j → (hq : q < l.length) → nameLt l[q] l[j]))
  | 0, i, h => by
    refine ⟨true, ev_step ?_, ev_step ?_, fun _ j h1 h2 => by omega⟩
    · exact ev_neg (by omega) (ev_now _)
    · exact ev_neg (by omega) (ev_eq (ev_now _) (by simp))
  | d + 1, i, h => by
    obtain ⟨b, h1, h2, h3⟩ := files_loops l hl hs a1 d (i + 1) (by omega)
    have e := succ64 (i := i) (n := l.length) (by omega) (by omega)
    have hil : i < l.length := by omega
    have hm : rd_T52 l (i : Int) ∈ l := by unfold rd_T52; rw [Int.toNat_natCast, List.getD_eq_getElem?_getD, List.getElem?_eq_getElem (by omega)]; exact List.getElem_mem _
    have hat : rd_T52 l (i : Int) = l[i] := rdS52_at l i hil
    obtain ⟨p, p1, p2, p3⟩ := path_ev _ (hs _ hm)
    have lt : (i : Int) < (l.length : Int) := by omega
    have ge : (0 : Int) ≤ (i : Int) := by omega
    cases p with
    | false =>
      exact ⟨false, ev_step (ev_pos lt (ev_pos ge (ev_bind p1 (ev_neg (by simp) (ev_now _))))), ev_step (ev_pos lt (ev_pos ge (ev_pos lt (ev_bind p2 (ev_neg (by simp) (ev_now _)))))), by simp⟩
    | true =>
      by_cases c1 : ((rd_T52 l (i : Int)).f1.size : Int) > 3000
      · refine ⟨false, ev_step (ev_pos lt (ev_pos ge (ev_bind p1 (ev_pos rfl (ev_pos c1 (ev_now _)))))), ev_step (ev_pos lt (ev_pos ge (ev_pos lt (ev_bind p2 (ev_pos rfl (ev_val (a := false) ?_ (ev_neg (by simp) (ev_now _)))))))), by simp⟩
        simp [impl_short.f]; omega
      · have hsh : impl_short.f (rd_T52 l (i : Int)).f1 = some true := by simp [impl_short.f]; omega
        have hso : shortF l[i] := by rw [← hat]; exact ⟨p3 rfl, by omega⟩
        by_cases c2 : (i : Int) > 0
        · have ep := pred64 (i := i) (by omega) (by omega)
          have hpt : rd_T52 l (wrap64 ((i : Int) - 1)) = l[i - 1] := by rw [ep]; exact rdS52_at l (i - 1) (by omega)
          by_cases c3 : Op.bytesLess (rd_T52 l (wrap64 ((i : Int) - 1))).f0.toList (rd_T52 l (i : Int)).f0.toList = true
          · refine ⟨b, ev_step (ev_pos lt (ev_pos ge (ev_bind p1 (ev_pos rfl (ev_neg c1 (ev_pos c2 (ev_pos (by rw [ep]; omega) (ev_pos (by rw [ep]; omega) (ev_pos c3 ?_))))))))), ev_step (ev_pos lt (ev_pos ge (ev_pos lt (ev_bind p2 (ev_pos rfl (ev_val hsh (ev_pos rfl (ev_pos c2 (ev_pos (by rw [ep]; omega) (ev_pos (by rw [ep]; omega) (ev_pos c3 ?_))))))))))), fun hb j hj hjl => ?_⟩
            · simp only [e]; exact h1
            · simp only [e]; exact h2
            · rcases Nat.lt_or_ge i j with c | c
              · exact h3 hb j c hjl
              · obtain rfl : j = i := by omega
                refine ⟨hso, fun q hq hql => ?_⟩
                obtain rfl : q = j - 1 := by omega
                rw [hpt, hat] at c3
                exact c3
          · exact ⟨false, ev_step (ev_pos lt (ev_pos ge (ev_bind p1 (ev_pos rfl (ev_neg c1 (ev_pos c2 (ev_pos (by rw [ep]; omega) (ev_pos (by rw [ep]; omega) (ev_neg c3 (ev_now _)))))))))), ev_step (ev_pos lt (ev_pos ge (ev_pos lt (ev_bind p2 (ev_pos rfl (ev_val hsh (ev_pos rfl (ev_pos c2 (ev_pos (by rw [ep]; omega) (ev_pos (by rw [ep]; omega) (ev_neg c3 (ev_now _)))))))))))), by simp⟩
        · refine ⟨b, ev_step (ev_pos lt (ev_pos ge (ev_bind p1 (ev_pos rfl (ev_neg c1 (ev_neg c2 ?_)))))), ev_step (ev_pos lt (ev_pos ge (ev_pos lt (ev_bind p2 (ev_pos rfl (ev_val hsh (ev_pos rfl (ev_neg c2 ?_)))))))), fun hb j hj hjl => ?_⟩
          · simp only [e]; exact h1
          · simp only [e]; exact h2
          · rcases Nat.lt_or_ge i j with c | c
            · exact h3 hb j c hjl
            · obtain rfl : j = i := by omega
              exact ⟨hso, fun q hq hql => by omega⟩
theorem asc_of_steps (l : List S52) (h : ∀ j (hj : j < l.length) q, q + 1 = j → (hq : q < l.length) → nameLt l[q] l[j]) : AscF l := by
  have key : ∀ d i, (hd : i + d + 1 < l.length) → nameLt (l[i]'(by omega)) l[i + d + 1] := by
    intro d
    induction d with
    | zero => intro i hd; exact h (i + 0 + 1) hd i (by omega) (by omega)
    | succ d ih =>
      intro i hd
      have h1 := ih i (by omega)
      have h2 := h (i + (d + 1) + 1) hd (i + d + 1) (by omega) (by omega)
      exact Ord.less_trans _ _ _ h1 h2
  refine List.pairwise_iff_getElem.2 (fun i j hi hj hij => ?_)
  have := key (j - i - 1) i (by omega)
  have e : i + (j - i - 1) + 1 = j := by omega
  simp only [e] at this
  exact this
theorem place_ev (l : List S52) (hl : l.length ≤ 4398046511104) (hs : ∀ x ∈ l, x.f0.size ≤ 140737488351232) :
    ∃ b : Bool, Ev (fun k => spec_MillValidPlace.f k l) b ∧ Ev (fun k => impl_MillValidPlace.f k l) b ∧ (b = true → AscF l ∧ l.length ≤ 40 ∧ ∀ x ∈ l, shortF x) := by
  obtain ⟨b, h1, h2, h3⟩ := files_loops l hl hs 40 l.length 0 (by omega)
  refine ⟨b && decide ((l.length : Int) ≤ 40), ev_bind (a := b && decide ((l.length : Int) ≤ 40)) ?_ (ev_now _), ev_bind h2 (ev_now _), fun hb => ?_⟩
  · by_cases c : (l.length : Int) > 40
    · exact ev_pos c (ev_eq (ev_now _) (by simp; omega))
    · exact ev_neg c (ev_eq h1 (by simp; omega))
  · simp only [Bool.and_eq_true, decide_eq_true_eq] at hb
    refine ⟨asc_of_steps l (fun j hj q hq hql => (h3 hb.1 j (by omega) hj).2 q hq hql), by omega, fun x hx => ?_⟩
    obtain ⟨i, hi, rfl⟩ := List.getElem_of_mem hx
    exact (h3 hb.1 i (by omega) hi).1
theorem put_done (acc : List S52) (n t : ByteArray) : ∀ suf pre out : List S52, acc = pre ++ suf → acc.length ≤ 100000 → out.length + suf.length ≤ 200000 → (∀ y ∈ suf, ¬ y.f0.toList = n.toList) → Ev (fun k => spec_l15Put.l0 k acc n t out true (pre.length : Int)) (out ++ suf)
  | [], pre, out, ha, hl, ho, h => by
    have : pre.length = acc.length := by rw [ha]; simp
    refine ev_step (ev_neg (by omega) (ev_pos rfl (ev_eq (ev_now _) (by simp))))
  | y :: r, pre, out, ha, hl, ho, h => by
    have hlen : acc.length = pre.length + (r.length + 1) := by rw [ha]; simp
    have e := succ64 (i := pre.length) (n := acc.length) (by omega) (by omega)
    have hr : rd_T52 acc (pre.length : Int) = y := by rw [rdS52_at acc pre.length (by omega)]; simp [ha]
    have ih := put_done acc n t r (pre ++ [y]) (out ++ [y]) (by rw [ha]; simp) hl (by simp at ho ⊢; omega) (fun z hz => h z (List.mem_cons_of_mem _ hz))
    simp only [List.length_append, List.length_cons, List.length_nil, List.append_assoc, List.cons_append, List.nil_append] at ih
    have hy := h y List.mem_cons_self
    simp only [List.length_cons] at ho
    refine ev_step ?_
    simp only [spec_l15Put.l0, if_true]
    refine ev_pos (by omega) (ev_step ?_)
    simp only [spec_l15Put.j1, Bool.false_eq_true, if_false]
    refine ev_pos (by omega) (ev_pos (by omega) (ev_neg (by rw [hr]; exact hy) (ev_pos (by omega) ?_)))
    simp only [e, hr]
    exact ih
theorem put_loop (acc : List S52) (x : S52) : ∀ suf pre out : List S52, acc = pre ++ suf → acc.length ≤ 100000 → out.length + suf.length ≤ 100000 → AscF suf → Ev (fun k => spec_l15Put.l0 k acc x.f0 x.f1 out false (pre.length : Int)) (out ++ insF x suf)
  | [], pre, out, ha, hl, ho, h => by
    have : pre.length = acc.length := by rw [ha]; simp
    simp only [List.length_nil] at ho
    refine ev_step (ev_neg (by omega) (ev_neg (by simp) (ev_pos (by omega) (ev_eq (ev_now _) (by simp [insF])))))
  | y :: r, pre, out, ha, hl, ho, h => by
    have hlen : acc.length = pre.length + (r.length + 1) := by rw [ha]; simp
    have e := succ64 (i := pre.length) (n := acc.length) (by omega) (by omega)
    have hr : rd_T52 acc (pre.length : Int) = y := by rw [rdS52_at acc pre.length (by omega)]; simp [ha]
    obtain ⟨h1, h2⟩ := List.pairwise_cons.1 h
    simp only [List.length_cons] at ho
    refine ev_step (ev_pos (by omega) (ev_neg (by simp) (ev_pos (by omega) (ev_step ?_))))
    by_cases c : Op.bytesLess y.f0.toList x.f0.toList = true
    · have ne : ¬ y.f0.toList = x.f0.toList := fun q => by rw [q] at c; exact less_irr _ c
      have nl : ¬ Op.bytesLess x.f0.toList y.f0.toList = true := fun q => less_irr _ (Ord.less_trans _ _ _ c q)
      have ih := put_loop acc x r (pre ++ [y]) (out ++ [y]) (by rw [ha]; simp) hl (by simp; omega) h2
      simp only [List.length_append, List.length_cons, List.length_nil, List.append_assoc, List.cons_append, List.nil_append] at ih
      refine ev_neg (by rw [hr, c]; simp) (ev_pos (by omega) (ev_pos (by omega) (ev_neg (by rw [hr]; exact ne) (ev_pos (by omega) ?_))))
      simp only [e, hr, insF, if_neg ne, if_neg nl]
      exact ih
    · refine ev_pos (by rw [hr]; simpa using c) (ev_pos (by omega) (ev_val rfl (ev_pos (by omega) (ev_pos (by omega) ?_))))
      by_cases q : y.f0.toList = x.f0.toList
      · have hgt : ∀ z ∈ r, ¬ z.f0.toList = x.f0.toList := fun z hz w => by
          have := h1 z hz
          unfold nameLt at this
          rw [q, w] at this
          exact less_irr _ this
        have ih := put_done acc x.f0 x.f1 r (pre ++ [y]) (out ++ [x]) (by rw [ha]; simp) hl (by simp; omega) hgt
        simp only [List.length_append, List.length_cons, List.length_nil, List.append_assoc, List.cons_append, List.nil_append] at ih
        refine ev_pos (by rw [hr]; exact q) ?_
        simp only [e, insF, if_pos q]
        exact ih
      · have lt : Op.bytesLess x.f0.toList y.f0.toList = true := less_tri _ _ (fun w => q w.symm) c
        have hgt : ∀ z ∈ r, ¬ z.f0.toList = x.f0.toList := fun z hz w => by
          have h3 := Ord.less_trans _ _ _ lt (h1 z hz)
          rw [w] at h3
          exact less_irr _ h3
        have ih := put_done acc x.f0 x.f1 r (pre ++ [y]) (out ++ [x, y]) (by rw [ha]; simp) hl (by simp; omega) hgt
        simp only [List.length_append, List.length_cons, List.length_nil, List.append_assoc, List.cons_append, List.nil_append] at ih
        refine ev_neg (by rw [hr]; exact q) (ev_pos (by simp; omega) ?_)
        simp only [e, hr, insF, if_neg q, if_pos lt, List.append_assoc, List.cons_append, List.nil_append]
        exact ih
theorem put_ev (acc : List S52) (x : S52) (hl : acc.length ≤ 100000) (h : AscF acc) : Ev (fun k => spec_l15Put.f k acc x.f0 x.f1) (insF x acc) := put_loop acc x acc [] [] rfl hl (by simpa using hl) h
def laidF (ok : Bool) (acc fs : List S52) : List S52 × Int := if ok then (if ((layF acc fs).length : Int) > 40 then ([], 2) else (layF acc fs, 0)) else ([], 1)
theorem lay_loop (fs : List S52) (hs : ∀ x ∈ fs, x.f0.size ≤ 140737488351232) : ∀ suf pre acc : List S52, fs = pre ++ suf → fs.length ≤ 1000 → AscF acc → acc.length + suf.length ≤ 10000 →
    ∃ ok : Bool, (ok = true → ∀ x ∈ suf, shortF x) ∧ Ev (fun k => anyO (layBad k) suf) (!ok) ∧ Ev (fun k => spec_MillLay.l0 k fs acc (pre.length : Int)) (laidF ok acc suf)
  | [], pre, acc, ha, hl, hasc, ho => by
    have : pre.length = fs.length := by rw [ha]; simp
    refine ⟨true, by simp, ev_now _, ev_step (ev_neg (by omega) ?_)⟩
    unfold laidF
    rw [if_pos rfl]
    by_cases c : (acc.length : Int) > 40
    · exact ev_pos c (ev_eq (ev_now _) (by simp [layF, c]))
    · exact ev_neg c (ev_eq (ev_now _) (by have c' : ¬ ((layF acc []).length : Int) > 40 := c; rw [if_neg c']; rfl))
  | y :: r, pre, acc, ha, hl, hasc, ho => by
    have hlen : fs.length = pre.length + (r.length + 1) := by rw [ha]; simp
    have e := succ64 (i := pre.length) (n := fs.length) (by omega) (by omega)
    have hr : rd_T52 fs (pre.length : Int) = y := by rw [rdS52_at fs pre.length (by omega)]; simp [ha]
    obtain ⟨p, p1, p2, p3⟩ := path_ev y.f0 (hs y (by rw [ha]; simp))
    simp only [List.length_cons] at ho
    by_cases c1 : (y.f1.size : Int) > 3000
    · have hb : Ev (fun k => layBad k y) true := ev_bind p2 (ev_eq (ev_now _) (by cases p <;> simp <;> omega))
      refine ⟨false, by simp, ev_bind hb (ev_pos rfl (ev_now _)), ev_step (ev_pos (by omega) (ev_pos (by omega) (ev_bind (by rw [hr]; exact p1) ?_)))⟩
      cases p with
      | true => exact ev_pos rfl (ev_pos (by rw [hr]; exact c1) (ev_now _))
      | false => exact ev_neg (by simp) (ev_now _)
    · cases p with
      | false =>
        have hb : Ev (fun k => layBad k y) true := ev_bind p2 (ev_eq (ev_now _) (by simp))
        exact ⟨false, by simp, ev_bind hb (ev_pos rfl (ev_now _)), ev_step (ev_pos (by omega) (ev_pos (by omega) (ev_bind (by rw [hr]; exact p1) (ev_neg (by simp) (ev_now _)))))⟩
      | true =>
        have hb : Ev (fun k => layBad k y) false := ev_bind p2 (ev_eq (ev_now _) (by simp; omega))
        have h2 := insF_len y acc
        obtain ⟨ok, h3, h4, h5⟩ := lay_loop fs hs r (pre ++ [y]) (insF y acc) (by rw [ha]; simp) hl (insF_asc y acc hasc) (by omega)
        simp only [List.length_append, List.length_cons, List.length_nil] at h5
        refine ⟨ok, fun q x hx => ?_, ev_bind hb (ev_neg (by simp) h4), ev_step (ev_pos (by omega) (ev_pos (by omega) (ev_bind (by rw [hr]; exact p1) (ev_pos rfl (ev_neg (by rw [hr]; exact c1) (ev_bind (a := insF y acc) (by rw [hr]; exact put_ev acc y (by omega) hasc) ?_))))))⟩
        · rcases List.mem_cons.1 hx with rfl | hx
          · exact ⟨p3 rfl, by omega⟩
          · exact h3 q x hx
        · simp only [e]
          exact h5
theorem lay_ev (p fs : List S52) (hp : p.length ≤ 4398046511104) (hf : fs.length ≤ 4398046511104) (sp : ∀ x ∈ p, x.f0.size ≤ 140737488351232) (sf : ∀ x ∈ fs, x.f0.size ≤ 140737488351232) :
    ∃ r : List S52 × Int, Ev (fun k => spec_MillLay.f k p fs) r ∧ Ev (fun k => impl_MillLay.f k p fs) r ∧ r.1.length ≤ 40 := by
  obtain ⟨b, b1, b2, b3⟩ := place_ev p hp sp
  cases b with
  | false => exact ⟨([], 1), ev_bind b1 (ev_neg (by simp) (ev_step (by simp only [spec_MillLay.j0, if_true]; exact ev_now _))), ev_bind b2 (ev_neg (by simp) (ev_now _)), by simp⟩
  | true =>
    obtain ⟨ha, hl, hsh⟩ := b3 rfl
    by_cases c : (fs.length : Int) > 40
    · refine ⟨([], 1), ev_bind b1 (ev_pos rfl (ev_step ?_)), ev_bind b2 (ev_pos rfl (ev_pos c (ev_now _))), by simp⟩
      simp only [spec_MillLay.j0, c, decide_true, if_true]
      exact ev_now _
    · obtain ⟨ok, o1, o2, o3⟩ := lay_loop fs sf fs [] p rfl (by omega) ha (by omega)
      have s : Ev (fun k => spec_MillLay.f k p fs) (laidF ok p fs) := by
        refine ev_bind b1 (ev_pos rfl (ev_step ?_))
        simp only [spec_MillLay.j0, c, decide_false, Bool.false_eq_true, if_false]
        exact ev_val rfl (ev_pos (by simp; omega) o3)
      refine ⟨laidF ok p fs, s, ev_bind b2 (ev_pos rfl (ev_neg c (ev_bind o2 ?_))), ?_⟩
      · cases ok with
        | false => exact ev_pos rfl (ev_now _)
        | true =>
          refine ev_neg (by simp) ?_
          have hsz : laySz (p ++ fs) := ⟨by rw [List.length_append]; omega, fun x hx => by
            have : shortF x := by
              rcases List.mem_append.1 hx with h | h
              · exact hsh x h
              · exact o1 rfl x h
            unfold maxLen
            exact ⟨by have := this.1; omega, by have := this.2; omega⟩⟩
          have e : layF [] (p ++ fs) = layF p fs := by rw [layF_append, layF_self p [] (by simpa using ha)]; rfl
          unfold layRest laidF
          simp only [if_pos hsz, e, if_true]
          by_cases c2 : ((layF p fs).length : Int) > 40
          · simp only [if_pos c2]; exact ev_now _
          · simp only [if_neg c2]; exact ev_now _
      · unfold laidF
        split
        · split
          · simp
          · simp only; omega
        · simp
end Go.Proofs.Ytnffcpajfojajaa.Q
end
section
namespace Go.Proofs.Ytnffcpajfojajaa.PureFnExactMillLay
open Go.RowKit Go.Proofs.Ytnffcpajfojajaa.Q Go.Proofs.YtnffcpajfojajaaW.PrintWords
set_option linter.unusedVariables false
set_option linter.unusedSimpArgs false
open Go.Proofs.Ytnffcpajfojajaa.EvMore
theorem mp (q : List S52) (h : q.length ≤ 4398046511104) : Ev (fun k => laws_markMillPlace.f k q 1) (1 + 2 * (q.length : Int), mks_MillFileS 1 q) := ev_bind (mark_MillFileS q 1 h (by omega) (by omega)) (ev_now _)
theorem hp (q : List S52) (h : q.length ≤ 4398046511104) : Ev (fun k => laws_heldMillPlace.f k (mks_MillFileS 1 q) 1) (1 + 2 * (q.length : Int)) := ev_bind (held_MillFileS q 1 h (by omega) (by omega)) (ev_neg (by omega) (ev_now _))
def G49 (x : S49) : Prop := x.f0.size ≤ 140737488351232 ∧ x.f1.size ≤ 140737488351232
def Statement : Prop := ∀ (l0_0 : List (S49)) (l1 : List (S49)), ((l0_0.length * 32 ≤ 140737488351232 ∧ l0_0.length ≤ maxLen) ∧ ∀ y ∈ l0_0, G49 y) → ((l1.length * 32 ≤ 140737488351232 ∧ l1.length ≤ maxLen) ∧ ∀ y ∈ l1, G49 y) → ∃ k, laws_FnExactMillLay.f k l0_0 l1 = some true
theorem FnExactMillLay : Statement := by
  intro l s hl hs
  obtain ⟨⟨h1, h2⟩, h3⟩ := hl
  obtain ⟨⟨g1, g2⟩, g3⟩ := hs
  have hlen : l.length ≤ 4398046511104 := by omega
  have hlen2 : (l.map to_MillFileS_).length ≤ 4398046511104 := by simpa using hlen
  have slen : s.length ≤ 4398046511104 := by omega
  have slen2 : (s.map to_MillFileS_).length ≤ 4398046511104 := by simpa using slen
  obtain ⟨v, hv⟩ := sz_MillPlace l 1048576 hlen
  obtain ⟨u, hu⟩ := sz_MillFileS s v slen
  obtain ⟨⟨r, c⟩, r1, r2, r3⟩ := lay_ev (l.map to_MillFileS_) (s.map to_MillFileS_) hlen2 slen2 (by intro x hx; obtain ⟨y, hy, rfl⟩ := List.mem_map.1 hx; exact (h3 y hy).1) (by intro x hx; obtain ⟨y, hy, rfl⟩ := List.mem_map.1 hx; exact (g3 y hy).1)
  simp only at r3
  have rlen : r.length ≤ 4398046511104 := by omega
  have tp := to_MillPlace l hlen
  have ts := to_MillFileS s slen
  have j2 : Ev (fun k => laws_FnExactMillLay.j2 k (1 + 2 * (r.length : Int)) (c != c) (mks_MillFileS 1 r)) true := by
    refine ev_step ?_
    simp only [laws_FnExactMillLay.j2, bne_self_eq_false, Bool.false_eq_true, if_false]
    exact ev_bind (hp r rlen) (ev_neg (by omega) (ev_pos rfl (ev_now _)))
  have j1 : Ev (fun k => laws_FnExactMillLay.j1 k s c (c != c) l r r) true := by
    refine ev_step ?_
    simp only [laws_FnExactMillLay.j1, bne_self_eq_false, Bool.false_eq_true, if_false]
    refine ev_bind (mp r rlen) (ev_bind (hp r rlen) (ev_neg (by omega) (ev_pos rfl (ev_bind tp (ev_bind ts (ev_bind r2 (ev_bind (eq_MillPlace r rlen) (ev_pos rfl ?_))))))))
    simpa only [bne_self_eq_false] using j2
  have j0 : Ev (fun k => laws_FnExactMillLay.j0 k s c (s.map to_MillFileS_) c (c != c) l r (l.map to_MillFileS_) r) true := by
    refine ev_step ?_
    simp only [laws_FnExactMillLay.j0, bne_self_eq_false, Bool.false_eq_true, if_false]
    refine ev_bind tp (ev_bind (eq_MillPlace _ hlen2) (ev_pos rfl (ev_bind ts (ev_bind (eq_MillFileS _ slen2) (ev_pos rfl (ev_bind (mp _ hlen2) (ev_bind (mark_MillFileS _ _ slen2 (by simp only; omega) (by simp only [List.length_map]; omega)) (ev_neg (by simp only; omega) (ev_bind (eq_MillPlace r rlen) (ev_pos rfl ?_))))))))))
    simpa only [bne_self_eq_false] using j1
  refine Ev.rounds (ev_bind hv ?_)
  by_cases e : v < 0
  · exact ev_pos e (ev_now _)
  · refine ev_neg e (ev_bind hu ?_)
    by_cases d : u < 0
    · exact ev_pos d (ev_now _)
    · exact ev_neg d (ev_bind tp (ev_bind ts (ev_bind r1 (ev_bind tp (ev_bind ts (ev_bind r2 (ev_bind (eq_MillPlace r rlen) (ev_pos rfl j0))))))))
end Go.Proofs.Ytnffcpajfojajaa.PureFnExactMillLay
end
