/- Several texts of this seat put together by merge.py, without what this claim does not use. -/
import Derived.Test.YtdpdpigaegabbaaQmFnExactMillHolds1
import Derived.Test.YtdpdpigaegabbaaQmFnExactMillHolds3
import Derived.Test.YtdpdpigaegabbaaQmFnExactMillHoldsWWords
import Derived.Test.YtdpdpigaegabbaaQmFnExactMillHoldsWLast
import Derived.Test.YtdpdpigaegabbaaQmFnExactMillHoldsWMore
import Derived.WalkKit
import Derived.ProofKit
import Derived.OpenShut
import Derived.ShutString
import Derived.SizedLaws
import Derived.ChangeArms
import Derived.Lib.Strings
import Derived.Lib.Bytealg
import Derived.Test.YtdpdpigaegabbaaQmFnExactMillHolds2
section
namespace Go.Proofs.Ytdpdpigaegabbaa.Q
open Go.RowKit Go.Proofs.YtdpdpigaegabbaaW.PrintWords Go.Proofs.YtdpdpigaegabbaaW.PrintLast Go.Proofs.YtdpdpigaegabbaaW.PrintMore Go.Proofs.Ytdpdpigaegabbaa.Short
attribute [local go_sem] max2_int min2_int max_two min_two max_three min_three max_four min_four   
set_option linter.unusedVariables false
set_option linter.unusedSimpArgs false
def laws_FnExactMillHolds.f (k : Nat) (l0_0 : List (S130)) (l1 : List (S106)) : Option (Bool) := (laws_szMillPlace.f k l0_0 1048576).bind fun t102 => (if t102 < 0 then (some true) else ((laws_szMillSeenS.f k l1 t102).bind fun t103 => (if t103 < 0 then (some true) else ((laws_toMillPlace.f k l0_0).bind fun t104 => ((laws_toMillSeenS.f k l1).bind fun t107 => ((spec_MillHolds.f k t104 t107).bind fun t110 => ((laws_toMillPlace.f k l0_0).bind fun t111 => ((laws_toMillSeenS.f k l1).bind fun t115 => ((impl_MillHolds.f k t111 t115).bind fun t118 => (if (t118 != t110) = true then (some false) else ((laws_toMillPlace.f k l0_0).bind fun t119 => ((laws_eqMillPlace.f k t111 t119).bind fun t122 => (if t122 = true then ((laws_toMillSeenS.f k l1).bind fun t123 => ((laws_eqMillSeenS.f k t115 t123).bind fun t126 => (if t126 = true then (some true) else (some false)))) else (some false))))))))))))))
theorem laws_FnExactMillHolds.mono : ∀ a0 a1 k, LeO (laws_FnExactMillHolds.f k a0 a1) (laws_FnExactMillHolds.f (k + 1) a0 a1) := by
  intro a0 a1 k
  unfold laws_FnExactMillHolds.f
  repeat' first
      | (with_reducible exact impl_MillHolds.mono _ _ _)
      | (with_reducible exact laws_eqMillPlace.mono _ _ _)
      | (with_reducible exact laws_eqMillSeenS.mono _ _ _)
      | (with_reducible exact laws_szMillPlace.mono _ _ _)
      | (with_reducible exact laws_szMillSeenS.mono _ _ _)
      | (with_reducible exact laws_toMillPlace.mono _ _)
      | (with_reducible exact laws_toMillSeenS.mono _ _)
      | (with_reducible exact spec_MillHolds.mono _ _ _)
      | (with_reducible exact LeO.refl _)
      | (with_reducible exact LeO.none _)
      | (with_reducible refine LeO.ite ?_ ?_)
      | (with_reducible refine LeO.bind ?_ (fun _ => ?_))
      | exact impl_MillHolds.mono _ _ _
      | exact laws_eqMillPlace.mono _ _ _
      | exact laws_eqMillSeenS.mono _ _ _
      | exact laws_szMillPlace.mono _ _ _
      | exact laws_szMillSeenS.mono _ _ _
      | exact laws_toMillPlace.mono _ _
      | exact laws_toMillSeenS.mono _ _
      | exact spec_MillHolds.mono _ _ _
      | exact LeO.none _
      | refine LeO.ite ?_ ?_
      | refine LeO.bind ?_ (fun _ => ?_)
set_option maxHeartbeats 8000000 in
set_option maxRecDepth 100000 in
theorem laws_FnExactMillHolds.calls (k : Nat) (A0_0 : Option Addr) (c0_0 : Nat) (l0_0 : List (S130)) (A1 : Option Addr) (c1 : Nat) (l1 : List (S106)) (r : Bool) (w : World) (hr0_0 : Kd.C k130 w A0_0 l0_0.length l0_0) (hc0_0 : l0_0.length ≤ c0_0) (hr1 : Kd.C k106 w A1 l1.length l1) (hc1 : l1.length ≤ c1) (h : laws_FnExactMillHolds.f k l0_0 l1 = some r) :
    Calls Try.prog 12 #[.agg #[.slice A0_0 l0_0.length c0_0], .slice A1 l1.length c1] w fun e w' => e = .returned (.bool r) ∧ Below w.heap.size w w' := by
  have hu54 := Try.underlying54
  have hu59 := Try.underlying59
  have HR0_0 := Aside0.mk hr0_0
  have HC0_0 := Aside0.mk hc0_0
  clear hr0_0 hc0_0
  have HR1 := Aside0.mk hr1
  have HC1 := Aside0.mk hc1
  clear hr1 hc1
  have HB := Aside0.mk (Below.refl w.heap.size w)
  have H : ((laws_szMillPlace.f k l0_0 1048576).bind fun t102 => (if t102 < 0 then (some true) else ((laws_szMillSeenS.f k l1 t102).bind fun t103 => (if t103 < 0 then (some true) else ((laws_toMillPlace.f k l0_0).bind fun t104 => ((laws_toMillSeenS.f k l1).bind fun t107 => ((spec_MillHolds.f k t104 t107).bind fun t110 => ((laws_toMillPlace.f k l0_0).bind fun t111 => ((laws_toMillSeenS.f k l1).bind fun t115 => ((impl_MillHolds.f k t111 t115).bind fun t118 => (if (t118 != t110) = true then (some false) else ((laws_toMillPlace.f k l0_0).bind fun t119 => ((laws_eqMillPlace.f k t111 t119).bind fun t122 => (if t122 = true then ((laws_toMillSeenS.f k l1).bind fun t123 => ((laws_eqMillSeenS.f k t115 t123).bind fun t126 => (if t126 = true then (some true) else (some false)))) else (some false))))))))))))))) = some r := h
  clear h
  replace H := Option.bind_eq_some_iff.mp H
  obtain ⟨t102, A30, H⟩ := H
  replace H : (if t102 < 0 then (some true) else ((laws_szMillSeenS.f k l1 t102).bind fun t103 => (if t103 < 0 then (some true) else ((laws_toMillPlace.f k l0_0).bind fun t104 => ((laws_toMillSeenS.f k l1).bind fun t107 => ((spec_MillHolds.f k t104 t107).bind fun t110 => ((laws_toMillPlace.f k l0_0).bind fun t111 => ((laws_toMillSeenS.f k l1).bind fun t115 => ((impl_MillHolds.f k t111 t115).bind fun t118 => (if (t118 != t110) = true then (some false) else ((laws_toMillPlace.f k l0_0).bind fun t119 => ((laws_eqMillPlace.f k t111 t119).bind fun t122 => (if t122 = true then ((laws_toMillSeenS.f k l1).bind fun t123 => ((laws_eqMillSeenS.f k t115 t123).bind fun t126 => (if t126 = true then (some true) else (some false)))) else (some false)))))))))))))) = some r := H
  have A3 := Aside0.mk A30
  clear A30
  by_cases c4 : t102 < 0
  · rw [if_pos c4] at H
    have c4b0 : decide (t102 < 0) = true := decide_eq_true c4
    clear c4
    obtain rfl := Option.some.inj H
    go_enter Try.func12, Try.ntmps12
    go_wp2_with (first | ((with_reducible refine gate_dst (N := 2) rfl ?_); refine gX 2 #[.slice A0_0 l0_0.length c0_0] 54 ?_; intro gb101 hg w5 hbox hb; have BK101 := Aside0.mk (hbox); have GW101 := gw hg (kb HB); have GE101 := gw hg (kb HB); replace HB := kS HB hb; clear hb hbox hg; obtain ⟨hcz6_0, hfz6_0⟩ := bf1 BK101) | ((with_reducible refine gate_callee (f := 33) rfl ?_); refine gL (some 12) Try.func33 #[.agg #[.slice A0_0 l0_0.length c0_0], .int .i64 1048576] (laws_szMillPlace.calls k _ _ l0_0 1048576 t102 _ ?side1 ?side2 A3.out) ?_; (case side1 => repeat (first | exact (Kd.C_below HR0_0.out HB.out) | (with_reducible refine Kd.C_alloc ?_ _) | (with_reducible refine Kd.C_drewN ?_ _) | (with_reducible refine Kd.C_drew ?_))); (case side2 => exact HC0_0.out); intro w7 hb; replace BK101 := kB BK101 hb; replace HB := kS HB hb))
    go_ret
    exact ⟨by first | rfl | (simp [errW_none, errW_some] <;> rfl) | (simp [*, errW_none, errW_some] <;> rfl), kb HB⟩
  · rw [if_neg c4] at H
    have c4b0 : decide (t102 < 0) = false := decide_eq_false c4
    clear c4
    replace H := Option.bind_eq_some_iff.mp H
    obtain ⟨t103, A80, H⟩ := H
    replace H : (if t103 < 0 then (some true) else ((laws_toMillPlace.f k l0_0).bind fun t104 => ((laws_toMillSeenS.f k l1).bind fun t107 => ((spec_MillHolds.f k t104 t107).bind fun t110 => ((laws_toMillPlace.f k l0_0).bind fun t111 => ((laws_toMillSeenS.f k l1).bind fun t115 => ((impl_MillHolds.f k t111 t115).bind fun t118 => (if (t118 != t110) = true then (some false) else ((laws_toMillPlace.f k l0_0).bind fun t119 => ((laws_eqMillPlace.f k t111 t119).bind fun t122 => (if t122 = true then ((laws_toMillSeenS.f k l1).bind fun t123 => ((laws_eqMillSeenS.f k t115 t123).bind fun t126 => (if t126 = true then (some true) else (some false)))) else (some false)))))))))))) = some r := H
    have A8 := Aside0.mk A80
    clear A80
    by_cases c9 : t103 < 0
    · rw [if_pos c9] at H
      have c9b0 : decide (t103 < 0) = true := decide_eq_true c9
      clear c9
      obtain rfl := Option.some.inj H
      go_enter Try.func12, Try.ntmps12
      go_wp2_with (first | ((with_reducible refine gate_dst (N := 2) rfl ?_); refine gX 2 #[.slice A0_0 l0_0.length c0_0] 54 ?_; intro gb101 hg w10 hbox hb; have BK101 := Aside0.mk (hbox); have GW101 := gw hg (kb HB); have GE101 := gw hg (kb HB); replace HB := kS HB hb; clear hb hbox hg; obtain ⟨hcz11_0, hfz11_0⟩ := bf1 BK101) | ((with_reducible refine gate_callee (f := 33) rfl ?_); refine gL (some 12) Try.func33 #[.agg #[.slice A0_0 l0_0.length c0_0], .int .i64 1048576] (laws_szMillPlace.calls k _ _ l0_0 1048576 t102 _ ?side1 ?side2 A3.out) ?_; (case side1 => repeat (first | exact (Kd.C_below HR0_0.out HB.out) | (with_reducible refine Kd.C_alloc ?_ _) | (with_reducible refine Kd.C_drewN ?_ _) | (with_reducible refine Kd.C_drew ?_))); (case side2 => exact HC0_0.out); intro w12 hb; replace BK101 := kB BK101 hb; replace HB := kS HB hb) | ((with_reducible refine gate_callee (f := 43) rfl ?_); refine gL (some 17) Try.func43 #[.slice A1 l1.length c1, .int .i64 t102] (laws_szMillSeenS.calls k _ _ l1 t102 t103 _ ?side1 ?side2 A8.out) ?_; (case side1 => repeat (first | exact (Kd.C_below HR1.out HB.out) | (with_reducible refine Kd.C_alloc ?_ _) | (with_reducible refine Kd.C_drewN ?_ _) | (with_reducible refine Kd.C_drew ?_))); (case side2 => exact HC1.out); intro w13 hb; replace BK101 := kB BK101 hb; replace HB := kS HB hb))
      go_ret
      exact ⟨by first | rfl | (simp [errW_none, errW_some] <;> rfl) | (simp [*, errW_none, errW_some] <;> rfl), kb HB⟩
    · rw [if_neg c9] at H
      have c9b0 : decide (t103 < 0) = false := decide_eq_false c9
      clear c9
      replace H := Option.bind_eq_some_iff.mp H
      obtain ⟨t104, A140, H⟩ := H
      replace H : ((laws_toMillSeenS.f k l1).bind fun t107 => ((spec_MillHolds.f k t104 t107).bind fun t110 => ((laws_toMillPlace.f k l0_0).bind fun t111 => ((laws_toMillSeenS.f k l1).bind fun t115 => ((impl_MillHolds.f k t111 t115).bind fun t118 => (if (t118 != t110) = true then (some false) else ((laws_toMillPlace.f k l0_0).bind fun t119 => ((laws_eqMillPlace.f k t111 t119).bind fun t122 => (if t122 = true then ((laws_toMillSeenS.f k l1).bind fun t123 => ((laws_eqMillSeenS.f k t115 t123).bind fun t126 => (if t126 = true then (some true) else (some false)))) else (some false)))))))))) = some r := H
      have A14 := Aside0.mk A140
      clear A140
      replace H := Option.bind_eq_some_iff.mp H
      obtain ⟨t107, A150, H⟩ := H
      replace H : ((spec_MillHolds.f k t104 t107).bind fun t110 => ((laws_toMillPlace.f k l0_0).bind fun t111 => ((laws_toMillSeenS.f k l1).bind fun t115 => ((impl_MillHolds.f k t111 t115).bind fun t118 => (if (t118 != t110) = true then (some false) else ((laws_toMillPlace.f k l0_0).bind fun t119 => ((laws_eqMillPlace.f k t111 t119).bind fun t122 => (if t122 = true then ((laws_toMillSeenS.f k l1).bind fun t123 => ((laws_eqMillSeenS.f k t115 t123).bind fun t126 => (if t126 = true then (some true) else (some false)))) else (some false))))))))) = some r := H
      have A15 := Aside0.mk A150
      clear A150
      replace H := Option.bind_eq_some_iff.mp H
      obtain ⟨t110, A160, H⟩ := H
      replace H : ((laws_toMillPlace.f k l0_0).bind fun t111 => ((laws_toMillSeenS.f k l1).bind fun t115 => ((impl_MillHolds.f k t111 t115).bind fun t118 => (if (t118 != t110) = true then (some false) else ((laws_toMillPlace.f k l0_0).bind fun t119 => ((laws_eqMillPlace.f k t111 t119).bind fun t122 => (if t122 = true then ((laws_toMillSeenS.f k l1).bind fun t123 => ((laws_eqMillSeenS.f k t115 t123).bind fun t126 => (if t126 = true then (some true) else (some false)))) else (some false)))))))) = some r := H
      have A16 := Aside0.mk A160
      clear A160
      replace H := Option.bind_eq_some_iff.mp H
      obtain ⟨t111, A170, H⟩ := H
      replace H : ((laws_toMillSeenS.f k l1).bind fun t115 => ((impl_MillHolds.f k t111 t115).bind fun t118 => (if (t118 != t110) = true then (some false) else ((laws_toMillPlace.f k l0_0).bind fun t119 => ((laws_eqMillPlace.f k t111 t119).bind fun t122 => (if t122 = true then ((laws_toMillSeenS.f k l1).bind fun t123 => ((laws_eqMillSeenS.f k t115 t123).bind fun t126 => (if t126 = true then (some true) else (some false)))) else (some false))))))) = some r := H
      have A17 := Aside0.mk A170
      clear A170
      replace H := Option.bind_eq_some_iff.mp H
      obtain ⟨t115, A180, H⟩ := H
      replace H : ((impl_MillHolds.f k t111 t115).bind fun t118 => (if (t118 != t110) = true then (some false) else ((laws_toMillPlace.f k l0_0).bind fun t119 => ((laws_eqMillPlace.f k t111 t119).bind fun t122 => (if t122 = true then ((laws_toMillSeenS.f k l1).bind fun t123 => ((laws_eqMillSeenS.f k t115 t123).bind fun t126 => (if t126 = true then (some true) else (some false)))) else (some false)))))) = some r := H
      have A18 := Aside0.mk A180
      clear A180
      replace H := Option.bind_eq_some_iff.mp H
      obtain ⟨t118, A190, H⟩ := H
      replace H : (if (t118 != t110) = true then (some false) else ((laws_toMillPlace.f k l0_0).bind fun t119 => ((laws_eqMillPlace.f k t111 t119).bind fun t122 => (if t122 = true then ((laws_toMillSeenS.f k l1).bind fun t123 => ((laws_eqMillSeenS.f k t115 t123).bind fun t126 => (if t126 = true then (some true) else (some false)))) else (some false))))) = some r := H
      have A19 := Aside0.mk A190
      clear A190
      by_cases c20 : (t118 != t110) = true
      · rw [if_pos c20] at H
        have c20b0 : (t118 != t110) = true := c20
        (try (have c20b8 : (!(t118 == t110)) = true := c20b0))
        (try (have c20b1 : decide (t118 = t110) = false := by simpa using c20))
        (try (have c20b2 : (t118 == t110) = false := by simpa using c20))
        (try (have c20b3 : ¬ (t118 = t110) := by simpa using c20))
        clear c20
        obtain rfl := Option.some.inj H
        go_enter Try.func12, Try.ntmps12
        go_wp2_with (first | ((with_reducible refine gate_dst (N := 2) rfl ?_); refine gX 2 #[.slice A0_0 l0_0.length c0_0] 54 ?_; intro gb101 hg w21 hbox hb; have BK101 := Aside0.mk (hbox); have GW101 := gw hg (kb HB); have GE101 := gw hg (kb HB); replace HB := kS HB hb; clear hb hbox hg; obtain ⟨hcz22_0, hfz22_0⟩ := bf1 BK101) | ((with_reducible refine gate_callee (f := 33) rfl ?_); refine gL (some 12) Try.func33 #[.agg #[.slice A0_0 l0_0.length c0_0], .int .i64 1048576] (laws_szMillPlace.calls k _ _ l0_0 1048576 t102 _ ?side1 ?side2 A3.out) ?_; (case side1 => repeat (first | exact (Kd.C_below HR0_0.out HB.out) | (with_reducible refine Kd.C_alloc ?_ _) | (with_reducible refine Kd.C_drewN ?_ _) | (with_reducible refine Kd.C_drew ?_))); (case side2 => exact HC0_0.out); intro w23 hb; replace BK101 := kB BK101 hb; replace HB := kS HB hb) | ((with_reducible refine gate_callee (f := 43) rfl ?_); refine gL (some 17) Try.func43 #[.slice A1 l1.length c1, .int .i64 t102] (laws_szMillSeenS.calls k _ _ l1 t102 t103 _ ?side1 ?side2 A8.out) ?_; (case side1 => repeat (first | exact (Kd.C_below HR1.out HB.out) | (with_reducible refine Kd.C_alloc ?_ _) | (with_reducible refine Kd.C_drewN ?_ _) | (with_reducible refine Kd.C_drew ?_))); (case side2 => exact HC1.out); intro w24 hb; replace BK101 := kB BK101 hb; replace HB := kS HB hb; obtain ⟨hcz25_0, hfz25_0⟩ := bf1 BK101) | ((with_reducible refine gate_callee (f := 35) rfl ?_); refine goesL_ (some 21) rfl rfl Try.func35 (by kernel_rfl) rfl #[.agg #[.slice A0_0 l0_0.length c0_0]] rfl (by (try simp only [List.map_toArray, List.map_cons, List.map_nil]); first | done | rfl | (simp only [List.length_drop, List.length_take]; rfl)) ?_; (with_reducible refine (laws_toMillPlace.calls k _ _ l0_0 t104 _ ?side1 ?side2 A14.out).mono ?_); (case side1 => repeat (first | exact (Kd.C_below HR0_0.out HB.out) | (with_reducible refine Kd.C_alloc ?_ _) | (with_reducible refine Kd.C_drewN ?_ _) | (with_reducible refine Kd.C_drew ?_))); (case side2 => exact HC0_0.out); rintro e w26 ⟨v105, rfl, ho0, hb⟩; refine ⟨_, rfl, ?_⟩; have HO106 := Aside0.mk (Kd.R_lower ho0 (below_size (kb HB))); replace BK101 := kB BK101 hb; replace HB := kS HB hb; (try clear ho0)) | ((with_reducible refine gate_callee (f := 45) rfl ?_); refine goesL_ (some 23) rfl rfl Try.func45 (by kernel_rfl) rfl #[.slice A1 l1.length c1] rfl (by (try simp only [List.map_toArray, List.map_cons, List.map_nil]); first | done | rfl | (simp only [List.length_drop, List.length_take]; rfl)) ?_; (with_reducible refine (laws_toMillSeenS.calls k _ _ l1 t107 _ ?side1 ?side2 A15.out).mono ?_); (case side1 => repeat (first | exact (Kd.C_below HR1.out HB.out) | (with_reducible refine Kd.C_alloc ?_ _) | (with_reducible refine Kd.C_drewN ?_ _) | (with_reducible refine Kd.C_drew ?_))); (case side2 => exact HC1.out); rintro e w27 ⟨v108, rfl, ho0, hb⟩; refine ⟨_, rfl, ?_⟩; have HO109 := Aside0.mk (Kd.R_lower ho0 (below_size (kb HB))); replace HO106 := Aside0.mk (Kd.R_below (by (with_reducible repeat (first | apply Kd.R_alloc | apply Kd.R_drewN | apply Kd.R_drew)); exact HO106.out) hb); replace BK101 := kB BK101 hb; replace HB := kS HB hb; (try clear ho0); obtain ⟨Ao28, co28, eo28⟩ := Kd.R_slice HO106.out; subst eo28; obtain ⟨Ao29, co29, eo29⟩ := Kd.R_slice HO109.out; subst eo29) | ((with_reducible refine gate_callee (f := 44) rfl ?_); refine gL (some 24) Try.func44 #[.agg #[.slice Ao28 t104.length co28], .slice Ao29 t107.length co29] (spec_MillHolds.calls k _ _ t104 _ _ t107 t110 _ ?side1 ?side2 ?side3 ?side4 A16.out) ?_; (case side1 => repeat (first | exact (Kd.R_reads' HO106.out).2.2 | (with_reducible refine Kd.C_alloc ?_ _) | (with_reducible refine Kd.C_drewN ?_ _) | (with_reducible refine Kd.C_drew ?_))); (case side2 => exact (Kd.R_reads' HO106.out).2.1); (case side3 => repeat (first | exact (Kd.R_reads' HO109.out).2.2 | (with_reducible refine Kd.C_alloc ?_ _) | (with_reducible refine Kd.C_drewN ?_ _) | (with_reducible refine Kd.C_drew ?_))); (case side4 => exact (Kd.R_reads' HO109.out).2.1); intro w30 hb; replace HO106 := Aside0.mk (Kd.R_below (by (with_reducible repeat (first | apply Kd.R_alloc | apply Kd.R_drewN | apply Kd.R_drew)); exact HO106.out) hb); replace HO109 := Aside0.mk (Kd.R_below (by (with_reducible repeat (first | apply Kd.R_alloc | apply Kd.R_drewN | apply Kd.R_drew)); exact HO109.out) hb); replace BK101 := kB BK101 hb; replace HB := kS HB hb; obtain ⟨hcz31_0, hfz31_0⟩ := bf1 BK101) | ((with_reducible refine gate_callee (f := 35) rfl ?_); refine goesL_ (some 26) rfl rfl Try.func35 (by kernel_rfl) rfl #[.agg #[.slice A0_0 l0_0.length c0_0]] rfl (by (try simp only [List.map_toArray, List.map_cons, List.map_nil]); first | done | rfl | (simp only [List.length_drop, List.length_take]; rfl)) ?_; (with_reducible refine (laws_toMillPlace.calls k _ _ l0_0 t111 _ ?side1 ?side2 A17.out).mono ?_); (case side1 => repeat (first | exact (Kd.C_below HR0_0.out HB.out) | (with_reducible refine Kd.C_alloc ?_ _) | (with_reducible refine Kd.C_drewN ?_ _) | (with_reducible refine Kd.C_drew ?_))); (case side2 => exact HC0_0.out); rintro e w32 ⟨v112, rfl, ho0, hb⟩; refine ⟨_, rfl, ?_⟩; have HO113 := Aside0.mk (Kd.R_lower (Kd.R_new' ho0 (Kd.R_lt (by (with_reducible repeat (first | apply Kd.R_alloc | apply Kd.R_drewN | apply Kd.R_drew)); exact HO106.out))) (below_size (kb HB))); replace HO106 := Aside0.mk (Kd.R_elder' (by (with_reducible repeat (first | apply Kd.R_alloc | apply Kd.R_drewN | apply Kd.R_drew)); exact HO106.out) (Kd.R_base ho0) hb); replace HO109 := Aside0.mk (Kd.R_below (by (with_reducible repeat (first | apply Kd.R_alloc | apply Kd.R_drewN | apply Kd.R_drew)); exact HO109.out) hb); replace BK101 := kB BK101 hb; replace HB := kS HB hb; (try clear ho0)) | ((with_reducible refine gate_dst (N := 7) rfl ?_); refine gX 7 #[.slice none 0 0] 59 ?_; intro gb114 hg w33 hbox hb; have BK114 := Aside0.mk (hbox); have GW114 := gw hg (kb HB); have GE114 := gw hg (kb HB); have NB101_114 := nl hg (kp BK101); have NB114_101 := ng hg (kp BK101); replace HO106 := Aside0.mk (Kd.R_below (by (with_reducible repeat (first | apply Kd.R_alloc | apply Kd.R_drewN | apply Kd.R_drew)); exact HO106.out) hb); replace HO109 := Aside0.mk (Kd.R_below (by (with_reducible repeat (first | apply Kd.R_alloc | apply Kd.R_drewN | apply Kd.R_drew)); exact HO109.out) hb); replace HO113 := Aside0.mk (Kd.R_below (by (with_reducible repeat (first | apply Kd.R_alloc | apply Kd.R_drewN | apply Kd.R_drew)); exact HO113.out) hb); replace BK101 := kB BK101 hb; replace HB := kS HB hb; clear hb hbox hg; obtain ⟨Ao34, co34, eo34⟩ := Kd.R_slice HO113.out; subst eo34; have hnb35 := NB114_101.out; have hnc35 := NB101_114.out; obtain ⟨hcz36_0, hfz36_0⟩ := bf1 BK114) | ((with_reducible refine gate_callee (f := 45) rfl ?_); refine goesL_ (some 28) rfl rfl Try.func45 (by kernel_rfl) rfl #[.slice A1 l1.length c1] rfl (by (try simp only [List.map_toArray, List.map_cons, List.map_nil]); first | done | rfl | (simp only [List.length_drop, List.length_take]; rfl)) ?_; (with_reducible refine (laws_toMillSeenS.calls k _ _ l1 t115 _ ?side1 ?side2 A18.out).mono ?_); (case side1 => exact Kd.C_below HR1.out (kb HB)); (case side2 => exact HC1.out); rintro e w37 ⟨v116, rfl, ho0, hb⟩; refine ⟨_, rfl, ?_⟩; have HO117 := Aside0.mk (Kd.R_lower (Kd.R_new' ho0 (Kd.R_lt (by (with_reducible repeat (first | apply Kd.R_alloc | apply Kd.R_drewN | apply Kd.R_drew)); exact (Kd.R_mono (Kd.R_far (p := ⟨gb114, 0, none⟩) (Kd.R_types HO109.out BK114.out (by decide)) (fun _ hk => hk.2) (.slice Ao34 t111.length co34)) (fun _ h_ => h_.1))))) (below_size (kb HB))); replace HO106 := Aside0.mk (Kd.R_below (by (with_reducible repeat (first | apply Kd.R_alloc | apply Kd.R_drewN | apply Kd.R_drew)); exact (Kd.R_mono (Kd.R_far (p := ⟨gb114, 0, none⟩) (Kd.R_types HO106.out BK114.out (by decide)) (fun _ hk => hk.2) (.slice Ao34 t111.length co34)) (fun _ h_ => h_.1))) hb); replace HO109 := Aside0.mk (Kd.R_elder' (by (with_reducible repeat (first | apply Kd.R_alloc | apply Kd.R_drewN | apply Kd.R_drew)); exact (Kd.R_mono (Kd.R_far (p := ⟨gb114, 0, none⟩) (Kd.R_types HO109.out BK114.out (by decide)) (fun _ hk => hk.2) (.slice Ao34 t111.length co34)) (fun _ h_ => h_.1))) (Kd.R_base ho0) hb); replace HO113 := Aside0.mk (Kd.R_below (by (with_reducible repeat (first | apply Kd.R_alloc | apply Kd.R_drewN | apply Kd.R_drew)); exact (Kd.R_mono (Kd.R_far (p := ⟨gb114, 0, none⟩) (Kd.R_types HO113.out BK114.out (by decide)) (fun _ hk => hk.2) (.slice Ao34 t111.length co34)) (fun _ h_ => h_.1))) hb); replace BK101 := Aside0.mk (blk_below (g := gb101) (o := .cells #[.slice A0_0 l0_0.length c0_0] 54 (0, 0)) (by (with_reducible repeat (first | refine blk_drewN ?_ _ | refine blk_drew ?_ | refine blk_alloc ?_ _)); refine blk_far ?_ NB101_114.out _; (with_reducible repeat (first | refine blk_drewN ?_ _ | refine blk_drew ?_ | refine blk_alloc ?_ _)); exact BK101.out) hb); replace BK114 := Aside0.mk (blk_below (g := gb114) (o := .cells #[.slice Ao34 t111.length co34] 59 (0, 0)) (by (with_reducible repeat (first | refine blk_drewN ?_ _ | refine blk_drew ?_ | refine blk_alloc ?_ _)); refine blk_put (cs := #[.slice none 0 0]) ?_ 0 _ rfl; (with_reducible repeat (first | refine blk_drewN ?_ _ | refine blk_drew ?_ | refine blk_alloc ?_ _)); exact BK114.out) hb); replace HB := kS HB hb; (try clear ho0); obtain ⟨hcz38_0, hfz38_0⟩ := bf1 BK114; obtain ⟨Ao39, co39, eo39⟩ := Kd.R_slice HO117.out; subst eo39) | ((with_reducible refine gate_callee (f := 46) rfl ?_); refine gL (some 31) Try.func46 #[.agg #[.slice Ao34 t111.length co34], .slice Ao39 t115.length co39] (impl_MillHolds.calls k _ _ t111 _ _ t115 t118 _ ?side1 ?side2 ?side3 ?side4 A19.out) ?_; (case side1 => repeat (first | exact (Kd.R_reads' HO113.out).2.2 | (with_reducible refine Kd.C_alloc ?_ _) | (with_reducible refine Kd.C_drewN ?_ _) | (with_reducible refine Kd.C_drew ?_))); (case side2 => exact (Kd.R_reads' HO113.out).2.1); (case side3 => repeat (first | exact (Kd.R_reads' HO117.out).2.2 | (with_reducible refine Kd.C_alloc ?_ _) | (with_reducible refine Kd.C_drewN ?_ _) | (with_reducible refine Kd.C_drew ?_))); (case side4 => exact (Kd.R_reads' HO117.out).2.1); intro w40 hb; replace HO106 := Aside0.mk (Kd.R_below (by (with_reducible repeat (first | apply Kd.R_alloc | apply Kd.R_drewN | apply Kd.R_drew)); exact HO106.out) hb); replace HO109 := Aside0.mk (Kd.R_below (by (with_reducible repeat (first | apply Kd.R_alloc | apply Kd.R_drewN | apply Kd.R_drew)); exact HO109.out) hb); replace HO113 := Aside0.mk (Kd.R_below (by (with_reducible repeat (first | apply Kd.R_alloc | apply Kd.R_drewN | apply Kd.R_drew)); exact HO113.out) hb); replace HO117 := Aside0.mk (Kd.R_below (by (with_reducible repeat (first | apply Kd.R_alloc | apply Kd.R_drewN | apply Kd.R_drew)); exact HO117.out) hb); replace BK101 := kB BK101 hb; replace BK114 := kB BK114 hb; replace HB := kS HB hb))
        go_ret
        exact ⟨by first | rfl | (simp [errW_none, errW_some] <;> rfl) | (simp [*, errW_none, errW_some] <;> rfl), kb HB⟩
      · rw [if_neg c20] at H
        have c20b0 : (t118 != t110) = false := by simpa using c20
        (try (have c20b8 : (!(t118 == t110)) = false := c20b0))
        (try (have c20b1 : decide (t118 = t110) = true := by simpa using c20))
        (try (have c20b2 : (t118 == t110) = true := by simpa using c20))
        clear c20
        replace H := Option.bind_eq_some_iff.mp H
        obtain ⟨t119, A410, H⟩ := H
        replace H : ((laws_eqMillPlace.f k t111 t119).bind fun t122 => (if t122 = true then ((laws_toMillSeenS.f k l1).bind fun t123 => ((laws_eqMillSeenS.f k t115 t123).bind fun t126 => (if t126 = true then (some true) else (some false)))) else (some false))) = some r := H
        have A41 := Aside0.mk A410
        clear A410
        replace H := Option.bind_eq_some_iff.mp H
        obtain ⟨t122, A420, H⟩ := H
        replace H : (if t122 = true then ((laws_toMillSeenS.f k l1).bind fun t123 => ((laws_eqMillSeenS.f k t115 t123).bind fun t126 => (if t126 = true then (some true) else (some false)))) else (some false)) = some r := H
        have A42 := Aside0.mk A420
        clear A420
        by_cases c43 : t122 = true
        · subst c43
          have H1 : ((laws_toMillSeenS.f k l1).bind fun t123 => ((laws_eqMillSeenS.f k t115 t123).bind fun t126 => (if t126 = true then (some true) else (some false)))) = some r := by rw [if_pos rfl] at H; exact H
          clear H
          have H := H1
          clear H1
          replace H := Option.bind_eq_some_iff.mp H
          obtain ⟨t123, A440, H⟩ := H
          replace H : ((laws_eqMillSeenS.f k t115 t123).bind fun t126 => (if t126 = true then (some true) else (some false))) = some r := H
          have A44 := Aside0.mk A440
          clear A440
          replace H := Option.bind_eq_some_iff.mp H
          obtain ⟨t126, A450, H⟩ := H
          replace H : (if t126 = true then (some true) else (some false)) = some r := H
          have A45 := Aside0.mk A450
          clear A450
          by_cases c46 : t126 = true
          · subst c46
            have H1 : (some true) = some r := by rw [if_pos rfl] at H; exact H
            clear H
            have H := H1
            clear H1
            obtain rfl := Option.some.inj H
            go_enter Try.func12, Try.ntmps12
            try go_wp2_with (first | ((with_reducible refine gate_dst (N := 2) rfl ?_); refine gX 2 #[.slice A0_0 l0_0.length c0_0] 54 ?_; intro gb101 hg w47 hbox hb; have BK101 := Aside0.mk (hbox); have GW101 := gw hg (kb HB); have GE101 := gw hg (kb HB); replace HB := kS HB hb; clear hb hbox hg; obtain ⟨hcz48_0, hfz48_0⟩ := bf1 BK101) | ((with_reducible refine gate_callee (f := 33) rfl ?_); refine gL (some 12) Try.func33 #[.agg #[.slice A0_0 l0_0.length c0_0], .int .i64 1048576] (laws_szMillPlace.calls k _ _ l0_0 1048576 t102 _ ?side1 ?side2 A3.out) ?_; (case side1 => repeat (first | exact (Kd.C_below HR0_0.out HB.out) | (with_reducible refine Kd.C_alloc ?_ _) | (with_reducible refine Kd.C_drewN ?_ _) | (with_reducible refine Kd.C_drew ?_))); (case side2 => exact HC0_0.out); intro w49 hb; replace BK101 := kB BK101 hb; replace HB := kS HB hb) | ((with_reducible refine gate_callee (f := 43) rfl ?_); refine gL (some 17) Try.func43 #[.slice A1 l1.length c1, .int .i64 t102] (laws_szMillSeenS.calls k _ _ l1 t102 t103 _ ?side1 ?side2 A8.out) ?_; (case side1 => repeat (first | exact (Kd.C_below HR1.out HB.out) | (with_reducible refine Kd.C_alloc ?_ _) | (with_reducible refine Kd.C_drewN ?_ _) | (with_reducible refine Kd.C_drew ?_))); (case side2 => exact HC1.out); intro w50 hb; replace BK101 := kB BK101 hb; replace HB := kS HB hb; obtain ⟨hcz51_0, hfz51_0⟩ := bf1 BK101) | ((with_reducible refine gate_callee (f := 35) rfl ?_); refine goesL_ (some 21) rfl rfl Try.func35 (by kernel_rfl) rfl #[.agg #[.slice A0_0 l0_0.length c0_0]] rfl (by (try simp only [List.map_toArray, List.map_cons, List.map_nil]); first | done | rfl | (simp only [List.length_drop, List.length_take]; rfl)) ?_; (with_reducible refine (laws_toMillPlace.calls k _ _ l0_0 t104 _ ?side1 ?side2 A14.out).mono ?_); (case side1 => repeat (first | exact (Kd.C_below HR0_0.out HB.out) | (with_reducible refine Kd.C_alloc ?_ _) | (with_reducible refine Kd.C_drewN ?_ _) | (with_reducible refine Kd.C_drew ?_))); (case side2 => exact HC0_0.out); rintro e w52 ⟨v105, rfl, ho0, hb⟩; refine ⟨_, rfl, ?_⟩; have HO106 := Aside0.mk (Kd.R_lower ho0 (below_size (kb HB))); replace BK101 := kB BK101 hb; replace HB := kS HB hb; (try clear ho0)) | ((with_reducible refine gate_callee (f := 45) rfl ?_); refine goesL_ (some 23) rfl rfl Try.func45 (by kernel_rfl) rfl #[.slice A1 l1.length c1] rfl (by (try simp only [List.map_toArray, List.map_cons, List.map_nil]); first | done | rfl | (simp only [List.length_drop, List.length_take]; rfl)) ?_; (with_reducible refine (laws_toMillSeenS.calls k _ _ l1 t107 _ ?side1 ?side2 A15.out).mono ?_); (case side1 => repeat (first | exact (Kd.C_below HR1.out HB.out) | (with_reducible refine Kd.C_alloc ?_ _) | (with_reducible refine Kd.C_drewN ?_ _) | (with_reducible refine Kd.C_drew ?_))); (case side2 => exact HC1.out); rintro e w53 ⟨v108, rfl, ho0, hb⟩; refine ⟨_, rfl, ?_⟩; have HO109 := Aside0.mk (Kd.R_lower ho0 (below_size (kb HB))); replace HO106 := Aside0.mk (Kd.R_below (by (with_reducible repeat (first | apply Kd.R_alloc | apply Kd.R_drewN | apply Kd.R_drew)); exact HO106.out) hb); replace BK101 := kB BK101 hb; replace HB := kS HB hb; (try clear ho0); obtain ⟨Ao54, co54, eo54⟩ := Kd.R_slice HO106.out; subst eo54; obtain ⟨Ao55, co55, eo55⟩ := Kd.R_slice HO109.out; subst eo55) | ((with_reducible refine gate_callee (f := 44) rfl ?_); refine gL (some 24) Try.func44 #[.agg #[.slice Ao54 t104.length co54], .slice Ao55 t107.length co55] (spec_MillHolds.calls k _ _ t104 _ _ t107 t110 _ ?side1 ?side2 ?side3 ?side4 A16.out) ?_; (case side1 => repeat (first | exact (Kd.R_reads' HO106.out).2.2 | (with_reducible refine Kd.C_alloc ?_ _) | (with_reducible refine Kd.C_drewN ?_ _) | (with_reducible refine Kd.C_drew ?_))); (case side2 => exact (Kd.R_reads' HO106.out).2.1); (case side3 => repeat (first | exact (Kd.R_reads' HO109.out).2.2 | (with_reducible refine Kd.C_alloc ?_ _) | (with_reducible refine Kd.C_drewN ?_ _) | (with_reducible refine Kd.C_drew ?_))); (case side4 => exact (Kd.R_reads' HO109.out).2.1); intro w56 hb; replace HO106 := Aside0.mk (Kd.R_below (by (with_reducible repeat (first | apply Kd.R_alloc | apply Kd.R_drewN | apply Kd.R_drew)); exact HO106.out) hb); replace HO109 := Aside0.mk (Kd.R_below (by (with_reducible repeat (first | apply Kd.R_alloc | apply Kd.R_drewN | apply Kd.R_drew)); exact HO109.out) hb); replace BK101 := kB BK101 hb; replace HB := kS HB hb; obtain ⟨hcz57_0, hfz57_0⟩ := bf1 BK101) | ((with_reducible refine gate_callee (f := 35) rfl ?_); refine goesL_ (some 26) rfl rfl Try.func35 (by kernel_rfl) rfl #[.agg #[.slice A0_0 l0_0.length c0_0]] rfl (by (try simp only [List.map_toArray, List.map_cons, List.map_nil]); first | done | rfl | (simp only [List.length_drop, List.length_take]; rfl)) ?_; (with_reducible refine (laws_toMillPlace.calls k _ _ l0_0 t111 _ ?side1 ?side2 A17.out).mono ?_); (case side1 => repeat (first | exact (Kd.C_below HR0_0.out HB.out) | (with_reducible refine Kd.C_alloc ?_ _) | (with_reducible refine Kd.C_drewN ?_ _) | (with_reducible refine Kd.C_drew ?_))); (case side2 => exact HC0_0.out); rintro e w58 ⟨v112, rfl, ho0, hb⟩; refine ⟨_, rfl, ?_⟩; have HO113 := Aside0.mk (Kd.R_lower (Kd.R_new' ho0 (Kd.R_lt (by (with_reducible repeat (first | apply Kd.R_alloc | apply Kd.R_drewN | apply Kd.R_drew)); exact HO106.out))) (below_size (kb HB))); replace HO106 := Aside0.mk (Kd.R_elder' (by (with_reducible repeat (first | apply Kd.R_alloc | apply Kd.R_drewN | apply Kd.R_drew)); exact HO106.out) (Kd.R_base ho0) hb); replace HO109 := Aside0.mk (Kd.R_below (by (with_reducible repeat (first | apply Kd.R_alloc | apply Kd.R_drewN | apply Kd.R_drew)); exact HO109.out) hb); replace BK101 := kB BK101 hb; replace HB := kS HB hb; (try clear ho0)) | ((with_reducible refine gate_dst (N := 7) rfl ?_); refine gX 7 #[.slice none 0 0] 59 ?_; intro gb114 hg w59 hbox hb; have BK114 := Aside0.mk (hbox); have GW114 := gw hg (kb HB); have GE114 := gw hg (kb HB); have NB101_114 := nl hg (kp BK101); have NB114_101 := ng hg (kp BK101); replace HO106 := Aside0.mk (Kd.R_below (by (with_reducible repeat (first | apply Kd.R_alloc | apply Kd.R_drewN | apply Kd.R_drew)); exact HO106.out) hb); replace HO109 := Aside0.mk (Kd.R_below (by (with_reducible repeat (first | apply Kd.R_alloc | apply Kd.R_drewN | apply Kd.R_drew)); exact HO109.out) hb); replace HO113 := Aside0.mk (Kd.R_below (by (with_reducible repeat (first | apply Kd.R_alloc | apply Kd.R_drewN | apply Kd.R_drew)); exact HO113.out) hb); replace BK101 := kB BK101 hb; replace HB := kS HB hb; clear hb hbox hg; obtain ⟨Ao60, co60, eo60⟩ := Kd.R_slice HO113.out; subst eo60; have hnb61 := NB114_101.out; have hnc61 := NB101_114.out; obtain ⟨hcz62_0, hfz62_0⟩ := bf1 BK114) | ((with_reducible refine gate_callee (f := 45) rfl ?_); refine goesL_ (some 28) rfl rfl Try.func45 (by kernel_rfl) rfl #[.slice A1 l1.length c1] rfl (by (try simp only [List.map_toArray, List.map_cons, List.map_nil]); first | done | rfl | (simp only [List.length_drop, List.length_take]; rfl)) ?_; (with_reducible refine (laws_toMillSeenS.calls k _ _ l1 t115 _ ?side1 ?side2 A18.out).mono ?_); (case side1 => exact Kd.C_below HR1.out (kb HB)); (case side2 => exact HC1.out); rintro e w63 ⟨v116, rfl, ho0, hb⟩; refine ⟨_, rfl, ?_⟩; have HO117 := Aside0.mk (Kd.R_lower (Kd.R_new' ho0 (Kd.R_lt (by (with_reducible repeat (first | apply Kd.R_alloc | apply Kd.R_drewN | apply Kd.R_drew)); exact (Kd.R_mono (Kd.R_far (p := ⟨gb114, 0, none⟩) (Kd.R_types HO109.out BK114.out (by decide)) (fun _ hk => hk.2) (.slice Ao60 t111.length co60)) (fun _ h_ => h_.1))))) (below_size (kb HB))); replace HO106 := Aside0.mk (Kd.R_below (by (with_reducible repeat (first | apply Kd.R_alloc | apply Kd.R_drewN | apply Kd.R_drew)); exact (Kd.R_mono (Kd.R_far (p := ⟨gb114, 0, none⟩) (Kd.R_types HO106.out BK114.out (by decide)) (fun _ hk => hk.2) (.slice Ao60 t111.length co60)) (fun _ h_ => h_.1))) hb); replace HO109 := Aside0.mk (Kd.R_elder' (by (with_reducible repeat (first | apply Kd.R_alloc | apply Kd.R_drewN | apply Kd.R_drew)); exact (Kd.R_mono (Kd.R_far (p := ⟨gb114, 0, none⟩) (Kd.R_types HO109.out BK114.out (by decide)) (fun _ hk => hk.2) (.slice Ao60 t111.length co60)) (fun _ h_ => h_.1))) (Kd.R_base ho0) hb); replace HO113 := Aside0.mk (Kd.R_below (by (with_reducible repeat (first | apply Kd.R_alloc | apply Kd.R_drewN | apply Kd.R_drew)); exact (Kd.R_mono (Kd.R_far (p := ⟨gb114, 0, none⟩) (Kd.R_types HO113.out BK114.out (by decide)) (fun _ hk => hk.2) (.slice Ao60 t111.length co60)) (fun _ h_ => h_.1))) hb); replace BK101 := Aside0.mk (blk_below (g := gb101) (o := .cells #[.slice A0_0 l0_0.length c0_0] 54 (0, 0)) (by (with_reducible repeat (first | refine blk_drewN ?_ _ | refine blk_drew ?_ | refine blk_alloc ?_ _)); refine blk_far ?_ NB101_114.out _; (with_reducible repeat (first | refine blk_drewN ?_ _ | refine blk_drew ?_ | refine blk_alloc ?_ _)); exact BK101.out) hb); replace BK114 := Aside0.mk (blk_below (g := gb114) (o := .cells #[.slice Ao60 t111.length co60] 59 (0, 0)) (by (with_reducible repeat (first | refine blk_drewN ?_ _ | refine blk_drew ?_ | refine blk_alloc ?_ _)); refine blk_put (cs := #[.slice none 0 0]) ?_ 0 _ rfl; (with_reducible repeat (first | refine blk_drewN ?_ _ | refine blk_drew ?_ | refine blk_alloc ?_ _)); exact BK114.out) hb); replace HB := kS HB hb; (try clear ho0); obtain ⟨hcz64_0, hfz64_0⟩ := bf1 BK114; obtain ⟨Ao65, co65, eo65⟩ := Kd.R_slice HO117.out; subst eo65) | ((with_reducible refine gate_callee (f := 46) rfl ?_); refine gL (some 31) Try.func46 #[.agg #[.slice Ao60 t111.length co60], .slice Ao65 t115.length co65] (impl_MillHolds.calls k _ _ t111 _ _ t115 t118 _ ?side1 ?side2 ?side3 ?side4 A19.out) ?_; (case side1 => repeat (first | exact (Kd.R_reads' HO113.out).2.2 | (with_reducible refine Kd.C_alloc ?_ _) | (with_reducible refine Kd.C_drewN ?_ _) | (with_reducible refine Kd.C_drew ?_))); (case side2 => exact (Kd.R_reads' HO113.out).2.1); (case side3 => repeat (first | exact (Kd.R_reads' HO117.out).2.2 | (with_reducible refine Kd.C_alloc ?_ _) | (with_reducible refine Kd.C_drewN ?_ _) | (with_reducible refine Kd.C_drew ?_))); (case side4 => exact (Kd.R_reads' HO117.out).2.1); intro w66 hb; replace HO106 := Aside0.mk (Kd.R_below (by (with_reducible repeat (first | apply Kd.R_alloc | apply Kd.R_drewN | apply Kd.R_drew)); exact HO106.out) hb); replace HO109 := Aside0.mk (Kd.R_below (by (with_reducible repeat (first | apply Kd.R_alloc | apply Kd.R_drewN | apply Kd.R_drew)); exact HO109.out) hb); replace HO113 := Aside0.mk (Kd.R_below (by (with_reducible repeat (first | apply Kd.R_alloc | apply Kd.R_drewN | apply Kd.R_drew)); exact HO113.out) hb); replace HO117 := Aside0.mk (Kd.R_below (by (with_reducible repeat (first | apply Kd.R_alloc | apply Kd.R_drewN | apply Kd.R_drew)); exact HO117.out) hb); replace BK101 := kB BK101 hb; replace BK114 := kB BK114 hb; replace HB := kS HB hb))
            have n0_ := Aside0.mk (Kd.R_drew HO106.out)
            have n1_ := Aside0.mk (Kd.R_drew HO109.out)
            have n2_ := Aside0.mk (Kd.R_drew HO113.out)
            have n3_ := Aside0.mk (Kd.R_drew HO117.out)
            have n4_ := Aside0.mk (blk_drew BK101.out)
            have n5_ := Aside0.mk (blk_drew BK114.out)
            have n6_ := Aside0.mk (below_drew1 HB.out)
            clear HO106
            clear HO109
            clear HO113
            clear HO117
            clear BK101
            clear BK114
            clear HB
            have HO106 := n0_
            have HO109 := n1_
            have HO113 := n2_
            have HO117 := n3_
            have BK101 := n4_
            have BK114 := n5_
            have HB := n6_
            clear n0_ n1_ n2_ n3_ n4_ n5_ n6_
            refine start_ (n := 5) (S := fun w' => w'.cell? ⟨gb114, 0, none⟩ = some (.slice Ao60 t111.length co60) ∧ w'.cell? ⟨gb101, 0, none⟩ = some (.slice A0_0 l0_0.length c0_0)) (ds := []) #[false, false, false, false, false] (by kernel_rfl) rfl rfl ⟨(blk_cell BK114.out 0).trans rfl, (blk_cell BK101.out 0).trans rfl⟩ (fun hHeld => ?_)
            generalize w66.drew = w67 at HO106 HO109 HO113 HO117 BK101 BK114 HB hHeld ⊢
            refine take_ (i := 0) (N := some 35) (v := ?_) (a' := ?_) #[true, false, false, false, false] rfl rfl (by kernel_rfl) (fun _ _ _ h => h) (Or.inl ⟨by rfl, ?_⟩) hHeld ?_ ?_
            rotate_left
            · rintro w' ⟨s0, s1⟩
              go_simp
              with_reducible rfl
            rotate_left
            · simp only [Act.put, List.setIfInBounds_toArray, List.set_cons_zero, List.set_cons_succ, i64_w, i32_w]
              rfl
            refine take_ (i := 1) (N := some 36) (v := ?_) (a' := ?_) #[true, true, false, false, false] rfl rfl (by kernel_rfl) (fun _ _ _ h => h) (Or.inl ⟨by rfl, ?_⟩) hHeld ?_ ?_
            rotate_left
            · rintro w' ⟨s0, s1⟩
              go_simp
              with_reducible rfl
            rotate_left
            · simp only [Act.put, List.setIfInBounds_toArray, List.set_cons_zero, List.set_cons_succ, i64_w, i32_w]
              rfl
            refine one_ (i := 2) (N := some 37) #[true, true, true, false, false] rfl rfl (by kernel_rfl) (by decide) (fun K hK => ?_)
            refine goes_ Try.func35 (by kernel_rfl) rfl #[.agg #[.slice A0_0 l0_0.length c0_0]] (by rfl) rfl rfl (by (try simp only [List.map_toArray, List.map_cons, List.map_nil]); first | done | rfl | (simp only [List.length_drop, List.length_take]; rfl)) ?_
            with_reducible refine (laws_toMillPlace.calls k _ _ l0_0 t119 _ ?side1 ?side2 A41.out).mono ?_
            (case side1 => repeat (first | exact (Kd.C_below HR0_0.out HB.out) | (with_reducible refine Kd.C_alloc ?_ _) | (with_reducible refine Kd.C_drewN ?_ _) | (with_reducible refine Kd.C_drew ?_)))
            (case side2 => exact HC0_0.out)
            rintro e w68 ⟨v120, rfl, ho0, hb⟩
            refine ⟨_, rfl, ?_⟩
            have n0_ := Aside0.mk (Kd.R_elder' (by (with_reducible repeat (first | apply Kd.R_alloc | apply Kd.R_drewN | apply Kd.R_drew)); exact HO106.out) (Kd.R_base ho0) hb)
            have n1_ := Aside0.mk (Kd.R_below (by (with_reducible repeat (first | apply Kd.R_alloc | apply Kd.R_drewN | apply Kd.R_drew)); exact HO109.out) hb)
            have n2_ := Aside0.mk (Kd.R_elder' (by (with_reducible repeat (first | apply Kd.R_alloc | apply Kd.R_drewN | apply Kd.R_drew)); exact HO113.out) (Kd.R_base ho0) hb)
            have n3_ := Aside0.mk (Kd.R_below (by (with_reducible repeat (first | apply Kd.R_alloc | apply Kd.R_drewN | apply Kd.R_drew)); exact HO117.out) hb)
            have n4_ := Aside0.mk (Kd.R_lower (Kd.R_new' (Kd.R_new' ho0 (Kd.R_lt (by (with_reducible repeat (first | apply Kd.R_alloc | apply Kd.R_drewN | apply Kd.R_drew)); exact HO106.out))) (Kd.R_lt (by (with_reducible repeat (first | apply Kd.R_alloc | apply Kd.R_drewN | apply Kd.R_drew)); exact HO113.out))) (below_size (kb HB)))
            have n5_ := kB BK101 hb
            have n6_ := kB BK114 hb
            have n7_ := kS HB hb
            clear HO106
            clear HO109
            clear HO113
            clear HO117
            clear BK101
            clear BK114
            clear HB
            have HO106 := n0_
            have HO109 := n1_
            have HO113 := n2_
            have HO117 := n3_
            have HO121 := n4_
            have BK101 := n5_
            have BK114 := n6_
            have HB := n7_
            clear n0_ n1_ n2_ n3_ n4_ n5_ n6_ n7_
            (try clear hb)
            (try clear hb2)
            (try clear hk)
            (try clear hi)
            (try clear ho0)
            obtain ⟨Ao69, co69, eo69⟩ := Kd.R_slice HO121.out
            (first | subst eo69 | (injection eo69 with f1_ f2_ f3_; have f4_ := f1_.symm; have f5_ := f3_.symm; clear f1_ f2_ f3_; subst f4_; subst f5_))
            refine hK.out _ _ ⟨(blk_cell BK114.out 0).trans rfl, (blk_cell BK101.out 0).trans rfl⟩ (fun hHeld => ?_)
            clear hK K
            refine norm_ (a' := ?_) ?_ ?_
            rotate_left
            · show Act.put _ (some 37) _ = _
              simp only [Act.put, List.setIfInBounds_toArray, List.set_cons_zero, List.set_cons_succ, i64_w, i32_w]
              rfl
            refine one_ (i := 3) (N := some 38) #[true, true, true, true, false] rfl rfl (by kernel_rfl) (by decide) (fun K hK => ?_)
            refine goes_ Try.func37 (by kernel_rfl) rfl #[.agg #[.slice Ao60 t111.length co60], .agg #[.slice Ao69 t119.length co69]] (by rfl) rfl rfl (by (try simp only [List.map_toArray, List.map_cons, List.map_nil]); first | done | rfl | (simp only [List.length_drop, List.length_take]; rfl)) ?_
            with_reducible refine (laws_eqMillPlace.calls k _ _ t111 _ _ t119 true _ ?side1 ?side2 ?side3 ?side4 A42.out).mono ?_
            (case side1 => repeat (first | exact (Kd.R_reads' HO113.out).2.2 | (with_reducible refine Kd.C_alloc ?_ _) | (with_reducible refine Kd.C_drewN ?_ _) | (with_reducible refine Kd.C_drew ?_)))
            (case side2 => exact (Kd.R_reads' HO113.out).2.1)
            (case side3 => repeat (first | exact (Kd.R_reads' HO121.out).2.2 | (with_reducible refine Kd.C_alloc ?_ _) | (with_reducible refine Kd.C_drewN ?_ _) | (with_reducible refine Kd.C_drew ?_)))
            (case side4 => exact (Kd.R_reads' HO121.out).2.1)
            rintro e w70 ⟨rfl, hb⟩
            refine ⟨_, rfl, ?_⟩
            have n0_ := Aside0.mk (Kd.R_below (by (with_reducible repeat (first | apply Kd.R_alloc | apply Kd.R_drewN | apply Kd.R_drew)); exact HO106.out) hb)
            have n1_ := Aside0.mk (Kd.R_below (by (with_reducible repeat (first | apply Kd.R_alloc | apply Kd.R_drewN | apply Kd.R_drew)); exact HO109.out) hb)
            have n2_ := Aside0.mk (Kd.R_below (by (with_reducible repeat (first | apply Kd.R_alloc | apply Kd.R_drewN | apply Kd.R_drew)); exact HO113.out) hb)
            have n3_ := Aside0.mk (Kd.R_below (by (with_reducible repeat (first | apply Kd.R_alloc | apply Kd.R_drewN | apply Kd.R_drew)); exact HO117.out) hb)
            have n4_ := Aside0.mk (Kd.R_below (by (with_reducible repeat (first | apply Kd.R_alloc | apply Kd.R_drewN | apply Kd.R_drew)); exact HO121.out) hb)
            have n5_ := kB BK101 hb
            have n6_ := kB BK114 hb
            have n7_ := kS HB hb
            clear HO106
            clear HO109
            clear HO113
            clear HO117
            clear HO121
            clear BK101
            clear BK114
            clear HB
            have HO106 := n0_
            have HO109 := n1_
            have HO113 := n2_
            have HO117 := n3_
            have HO121 := n4_
            have BK101 := n5_
            have BK114 := n6_
            have HB := n7_
            clear n0_ n1_ n2_ n3_ n4_ n5_ n6_ n7_
            (try clear hb)
            (try clear hb2)
            (try clear hk)
            (try clear hi)
            refine hK.out _ _ ⟨(blk_cell BK114.out 0).trans rfl, (blk_cell BK101.out 0).trans rfl⟩ (fun hHeld => ?_)
            clear hK K
            refine norm_ (a' := ?_) ?_ ?_
            rotate_left
            · show Act.put _ (some 38) _ = _
              simp only [Act.put, List.setIfInBounds_toArray, List.set_cons_zero, List.set_cons_succ, i64_w, i32_w]
              rfl
            refine pure_ (i := 4) (N := some 39) (v := ?_) (a' := ?_) #[true, true, true, true, true] rfl rfl (by kernel_rfl) (fun _ _ _ h => h) (Or.inl ⟨by rfl, ?_⟩) ?_ ?_
            rotate_left
            · intro w'
              go_simp
              with_reducible rfl
            rotate_left
            · simp only [Act.put, List.setIfInBounds_toArray, List.set_cons_zero, List.set_cons_succ, i64_w, i32_w]
              rfl
            refine done_ (by kernel_rfl) ?_
            try go_wp2_with (first | ((with_reducible refine gate_callee (f := 45) rfl ?_); refine goesL_ (some 42) rfl rfl Try.func45 (by kernel_rfl) rfl #[.slice A1 l1.length c1] rfl (by (try simp only [List.map_toArray, List.map_cons, List.map_nil]); first | done | rfl | (simp only [List.length_drop, List.length_take]; rfl)) ?_; (with_reducible refine (laws_toMillSeenS.calls k _ _ l1 t123 _ ?side1 ?side2 A44.out).mono ?_); (case side1 => repeat (first | exact (Kd.C_below HR1.out HB.out) | (with_reducible refine Kd.C_alloc ?_ _) | (with_reducible refine Kd.C_drewN ?_ _) | (with_reducible refine Kd.C_drew ?_))); (case side2 => exact HC1.out); rintro e w71 ⟨v124, rfl, ho0, hb⟩; refine ⟨_, rfl, ?_⟩; have HO125 := Aside0.mk (Kd.R_lower (Kd.R_new' (Kd.R_new' ho0 (Kd.R_lt (by (with_reducible repeat (first | apply Kd.R_alloc | apply Kd.R_drewN | apply Kd.R_drew)); exact HO109.out))) (Kd.R_lt (by (with_reducible repeat (first | apply Kd.R_alloc | apply Kd.R_drewN | apply Kd.R_drew)); exact HO117.out))) (below_size (kb HB))); replace HO106 := Aside0.mk (Kd.R_below (by (with_reducible repeat (first | apply Kd.R_alloc | apply Kd.R_drewN | apply Kd.R_drew)); exact HO106.out) hb); replace HO109 := Aside0.mk (Kd.R_elder' (by (with_reducible repeat (first | apply Kd.R_alloc | apply Kd.R_drewN | apply Kd.R_drew)); exact HO109.out) (Kd.R_base ho0) hb); replace HO113 := Aside0.mk (Kd.R_below (by (with_reducible repeat (first | apply Kd.R_alloc | apply Kd.R_drewN | apply Kd.R_drew)); exact HO113.out) hb); replace HO117 := Aside0.mk (Kd.R_elder' (by (with_reducible repeat (first | apply Kd.R_alloc | apply Kd.R_drewN | apply Kd.R_drew)); exact HO117.out) (Kd.R_base ho0) hb); replace HO121 := Aside0.mk (Kd.R_below (by (with_reducible repeat (first | apply Kd.R_alloc | apply Kd.R_drewN | apply Kd.R_drew)); exact HO121.out) hb); replace BK101 := kB BK101 hb; replace BK114 := kB BK114 hb; replace HB := kS HB hb; (try clear ho0); obtain ⟨Ao72, co72, eo72⟩ := Kd.R_slice HO125.out; subst eo72) | ((with_reducible refine gate_callee (f := 47) rfl ?_); refine gL (some 43) Try.func47 #[.slice Ao65 t115.length co65, .slice Ao72 t123.length co72] (laws_eqMillSeenS.calls k _ _ t115 _ _ t123 true _ ?side1 ?side2 ?side3 ?side4 A45.out) ?_; (case side1 => repeat (first | exact (Kd.R_reads' HO117.out).2.2 | (with_reducible refine Kd.C_alloc ?_ _) | (with_reducible refine Kd.C_drewN ?_ _) | (with_reducible refine Kd.C_drew ?_))); (case side2 => exact (Kd.R_reads' HO117.out).2.1); (case side3 => repeat (first | exact (Kd.R_reads' HO125.out).2.2 | (with_reducible refine Kd.C_alloc ?_ _) | (with_reducible refine Kd.C_drewN ?_ _) | (with_reducible refine Kd.C_drew ?_))); (case side4 => exact (Kd.R_reads' HO125.out).2.1); intro w73 hb; replace HO106 := Aside0.mk (Kd.R_below (by (with_reducible repeat (first | apply Kd.R_alloc | apply Kd.R_drewN | apply Kd.R_drew)); exact HO106.out) hb); replace HO109 := Aside0.mk (Kd.R_below (by (with_reducible repeat (first | apply Kd.R_alloc | apply Kd.R_drewN | apply Kd.R_drew)); exact HO109.out) hb); replace HO113 := Aside0.mk (Kd.R_below (by (with_reducible repeat (first | apply Kd.R_alloc | apply Kd.R_drewN | apply Kd.R_drew)); exact HO113.out) hb); replace HO117 := Aside0.mk (Kd.R_below (by (with_reducible repeat (first | apply Kd.R_alloc | apply Kd.R_drewN | apply Kd.R_drew)); exact HO117.out) hb); replace HO121 := Aside0.mk (Kd.R_below (by (with_reducible repeat (first | apply Kd.R_alloc | apply Kd.R_drewN | apply Kd.R_drew)); exact HO121.out) hb); replace HO125 := Aside0.mk (Kd.R_below (by (with_reducible repeat (first | apply Kd.R_alloc | apply Kd.R_drewN | apply Kd.R_drew)); exact HO125.out) hb); replace BK101 := kB BK101 hb; replace BK114 := kB BK114 hb; replace HB := kS HB hb))
            go_ret
            exact ⟨by first | rfl | (simp [errW_none, errW_some] <;> rfl) | (simp [*, errW_none, errW_some] <;> rfl), kb HB⟩
          · replace c46 := Bool.eq_false_iff.mpr c46
            subst c46
            have H1 : (some false) = some r := by rw [if_neg (show ¬ (false = true) by decide)] at H; exact H
            clear H
            have H := H1
            clear H1
            obtain rfl := Option.some.inj H
            go_enter Try.func12, Try.ntmps12
            try go_wp2_with (first | ((with_reducible refine gate_dst (N := 2) rfl ?_); refine gX 2 #[.slice A0_0 l0_0.length c0_0] 54 ?_; intro gb101 hg w74 hbox hb; have BK101 := Aside0.mk (hbox); have GW101 := gw hg (kb HB); have GE101 := gw hg (kb HB); replace HB := kS HB hb; clear hb hbox hg; obtain ⟨hcz75_0, hfz75_0⟩ := bf1 BK101) | ((with_reducible refine gate_callee (f := 33) rfl ?_); refine gL (some 12) Try.func33 #[.agg #[.slice A0_0 l0_0.length c0_0], .int .i64 1048576] (laws_szMillPlace.calls k _ _ l0_0 1048576 t102 _ ?side1 ?side2 A3.out) ?_; (case side1 => repeat (first | exact (Kd.C_below HR0_0.out HB.out) | (with_reducible refine Kd.C_alloc ?_ _) | (with_reducible refine Kd.C_drewN ?_ _) | (with_reducible refine Kd.C_drew ?_))); (case side2 => exact HC0_0.out); intro w76 hb; replace BK101 := kB BK101 hb; replace HB := kS HB hb) | ((with_reducible refine gate_callee (f := 43) rfl ?_); refine gL (some 17) Try.func43 #[.slice A1 l1.length c1, .int .i64 t102] (laws_szMillSeenS.calls k _ _ l1 t102 t103 _ ?side1 ?side2 A8.out) ?_; (case side1 => repeat (first | exact (Kd.C_below HR1.out HB.out) | (with_reducible refine Kd.C_alloc ?_ _) | (with_reducible refine Kd.C_drewN ?_ _) | (with_reducible refine Kd.C_drew ?_))); (case side2 => exact HC1.out); intro w77 hb; replace BK101 := kB BK101 hb; replace HB := kS HB hb; obtain ⟨hcz78_0, hfz78_0⟩ := bf1 BK101) | ((with_reducible refine gate_callee (f := 35) rfl ?_); refine goesL_ (some 21) rfl rfl Try.func35 (by kernel_rfl) rfl #[.agg #[.slice A0_0 l0_0.length c0_0]] rfl (by (try simp only [List.map_toArray, List.map_cons, List.map_nil]); first | done | rfl | (simp only [List.length_drop, List.length_take]; rfl)) ?_; (with_reducible refine (laws_toMillPlace.calls k _ _ l0_0 t104 _ ?side1 ?side2 A14.out).mono ?_); (case side1 => repeat (first | exact (Kd.C_below HR0_0.out HB.out) | (with_reducible refine Kd.C_alloc ?_ _) | (with_reducible refine Kd.C_drewN ?_ _) | (with_reducible refine Kd.C_drew ?_))); (case side2 => exact HC0_0.out); rintro e w79 ⟨v105, rfl, ho0, hb⟩; refine ⟨_, rfl, ?_⟩; have HO106 := Aside0.mk (Kd.R_lower ho0 (below_size (kb HB))); replace BK101 := kB BK101 hb; replace HB := kS HB hb; (try clear ho0)) | ((with_reducible refine gate_callee (f := 45) rfl ?_); refine goesL_ (some 23) rfl rfl Try.func45 (by kernel_rfl) rfl #[.slice A1 l1.length c1] rfl (by (try simp only [List.map_toArray, List.map_cons, List.map_nil]); first | done | rfl | (simp only [List.length_drop, List.length_take]; rfl)) ?_; (with_reducible refine (laws_toMillSeenS.calls k _ _ l1 t107 _ ?side1 ?side2 A15.out).mono ?_); (case side1 => repeat (first | exact (Kd.C_below HR1.out HB.out) | (with_reducible refine Kd.C_alloc ?_ _) | (with_reducible refine Kd.C_drewN ?_ _) | (with_reducible refine Kd.C_drew ?_))); (case side2 => exact HC1.out); rintro e w80 ⟨v108, rfl, ho0, hb⟩; refine ⟨_, rfl, ?_⟩; have HO109 := Aside0.mk (Kd.R_lower ho0 (below_size (kb HB))); replace HO106 := Aside0.mk (Kd.R_below (by (with_reducible repeat (first | apply Kd.R_alloc | apply Kd.R_drewN | apply Kd.R_drew)); exact HO106.out) hb); replace BK101 := kB BK101 hb; replace HB := kS HB hb; (try clear ho0); obtain ⟨Ao81, co81, eo81⟩ := Kd.R_slice HO106.out; subst eo81; obtain ⟨Ao82, co82, eo82⟩ := Kd.R_slice HO109.out; subst eo82) | ((with_reducible refine gate_callee (f := 44) rfl ?_); refine gL (some 24) Try.func44 #[.agg #[.slice Ao81 t104.length co81], .slice Ao82 t107.length co82] (spec_MillHolds.calls k _ _ t104 _ _ t107 t110 _ ?side1 ?side2 ?side3 ?side4 A16.out) ?_; (case side1 => repeat (first | exact (Kd.R_reads' HO106.out).2.2 | (with_reducible refine Kd.C_alloc ?_ _) | (with_reducible refine Kd.C_drewN ?_ _) | (with_reducible refine Kd.C_drew ?_))); (case side2 => exact (Kd.R_reads' HO106.out).2.1); (case side3 => repeat (first | exact (Kd.R_reads' HO109.out).2.2 | (with_reducible refine Kd.C_alloc ?_ _) | (with_reducible refine Kd.C_drewN ?_ _) | (with_reducible refine Kd.C_drew ?_))); (case side4 => exact (Kd.R_reads' HO109.out).2.1); intro w83 hb; replace HO106 := Aside0.mk (Kd.R_below (by (with_reducible repeat (first | apply Kd.R_alloc | apply Kd.R_drewN | apply Kd.R_drew)); exact HO106.out) hb); replace HO109 := Aside0.mk (Kd.R_below (by (with_reducible repeat (first | apply Kd.R_alloc | apply Kd.R_drewN | apply Kd.R_drew)); exact HO109.out) hb); replace BK101 := kB BK101 hb; replace HB := kS HB hb; obtain ⟨hcz84_0, hfz84_0⟩ := bf1 BK101) | ((with_reducible refine gate_callee (f := 35) rfl ?_); refine goesL_ (some 26) rfl rfl Try.func35 (by kernel_rfl) rfl #[.agg #[.slice A0_0 l0_0.length c0_0]] rfl (by (try simp only [List.map_toArray, List.map_cons, List.map_nil]); first | done | rfl | (simp only [List.length_drop, List.length_take]; rfl)) ?_; (with_reducible refine (laws_toMillPlace.calls k _ _ l0_0 t111 _ ?side1 ?side2 A17.out).mono ?_); (case side1 => repeat (first | exact (Kd.C_below HR0_0.out HB.out) | (with_reducible refine Kd.C_alloc ?_ _) | (with_reducible refine Kd.C_drewN ?_ _) | (with_reducible refine Kd.C_drew ?_))); (case side2 => exact HC0_0.out); rintro e w85 ⟨v112, rfl, ho0, hb⟩; refine ⟨_, rfl, ?_⟩; have HO113 := Aside0.mk (Kd.R_lower (Kd.R_new' ho0 (Kd.R_lt (by (with_reducible repeat (first | apply Kd.R_alloc | apply Kd.R_drewN | apply Kd.R_drew)); exact HO106.out))) (below_size (kb HB))); replace HO106 := Aside0.mk (Kd.R_elder' (by (with_reducible repeat (first | apply Kd.R_alloc | apply Kd.R_drewN | apply Kd.R_drew)); exact HO106.out) (Kd.R_base ho0) hb); replace HO109 := Aside0.mk (Kd.R_below (by (with_reducible repeat (first | apply Kd.R_alloc | apply Kd.R_drewN | apply Kd.R_drew)); exact HO109.out) hb); replace BK101 := kB BK101 hb; replace HB := kS HB hb; (try clear ho0)) | ((with_reducible refine gate_dst (N := 7) rfl ?_); refine gX 7 #[.slice none 0 0] 59 ?_; intro gb114 hg w86 hbox hb; have BK114 := Aside0.mk (hbox); have GW114 := gw hg (kb HB); have GE114 := gw hg (kb HB); have NB101_114 := nl hg (kp BK101); have NB114_101 := ng hg (kp BK101); replace HO106 := Aside0.mk (Kd.R_below (by (with_reducible repeat (first | apply Kd.R_alloc | apply Kd.R_drewN | apply Kd.R_drew)); exact HO106.out) hb); replace HO109 := Aside0.mk (Kd.R_below (by (with_reducible repeat (first | apply Kd.R_alloc | apply Kd.R_drewN | apply Kd.R_drew)); exact HO109.out) hb); replace HO113 := Aside0.mk (Kd.R_below (by (with_reducible repeat (first | apply Kd.R_alloc | apply Kd.R_drewN | apply Kd.R_drew)); exact HO113.out) hb); replace BK101 := kB BK101 hb; replace HB := kS HB hb; clear hb hbox hg; obtain ⟨Ao87, co87, eo87⟩ := Kd.R_slice HO113.out; subst eo87; have hnb88 := NB114_101.out; have hnc88 := NB101_114.out; obtain ⟨hcz89_0, hfz89_0⟩ := bf1 BK114) | ((with_reducible refine gate_callee (f := 45) rfl ?_); refine goesL_ (some 28) rfl rfl Try.func45 (by kernel_rfl) rfl #[.slice A1 l1.length c1] rfl (by (try simp only [List.map_toArray, List.map_cons, List.map_nil]); first | done | rfl | (simp only [List.length_drop, List.length_take]; rfl)) ?_; (with_reducible refine (laws_toMillSeenS.calls k _ _ l1 t115 _ ?side1 ?side2 A18.out).mono ?_); (case side1 => exact Kd.C_below HR1.out (kb HB)); (case side2 => exact HC1.out); rintro e w90 ⟨v116, rfl, ho0, hb⟩; refine ⟨_, rfl, ?_⟩; have HO117 := Aside0.mk (Kd.R_lower (Kd.R_new' ho0 (Kd.R_lt (by (with_reducible repeat (first | apply Kd.R_alloc | apply Kd.R_drewN | apply Kd.R_drew)); exact (Kd.R_mono (Kd.R_far (p := ⟨gb114, 0, none⟩) (Kd.R_types HO109.out BK114.out (by decide)) (fun _ hk => hk.2) (.slice Ao87 t111.length co87)) (fun _ h_ => h_.1))))) (below_size (kb HB))); replace HO106 := Aside0.mk (Kd.R_below (by (with_reducible repeat (first | apply Kd.R_alloc | apply Kd.R_drewN | apply Kd.R_drew)); exact (Kd.R_mono (Kd.R_far (p := ⟨gb114, 0, none⟩) (Kd.R_types HO106.out BK114.out (by decide)) (fun _ hk => hk.2) (.slice Ao87 t111.length co87)) (fun _ h_ => h_.1))) hb); replace HO109 := Aside0.mk (Kd.R_elder' (by (with_reducible repeat (first | apply Kd.R_alloc | apply Kd.R_drewN | apply Kd.R_drew)); exact (Kd.R_mono (Kd.R_far (p := ⟨gb114, 0, none⟩) (Kd.R_types HO109.out BK114.out (by decide)) (fun _ hk => hk.2) (.slice Ao87 t111.length co87)) (fun _ h_ => h_.1))) (Kd.R_base ho0) hb); replace HO113 := Aside0.mk (Kd.R_below (by (with_reducible repeat (first | apply Kd.R_alloc | apply Kd.R_drewN | apply Kd.R_drew)); exact (Kd.R_mono (Kd.R_far (p := ⟨gb114, 0, none⟩) (Kd.R_types HO113.out BK114.out (by decide)) (fun _ hk => hk.2) (.slice Ao87 t111.length co87)) (fun _ h_ => h_.1))) hb); replace BK101 := Aside0.mk (blk_below (g := gb101) (o := .cells #[.slice A0_0 l0_0.length c0_0] 54 (0, 0)) (by (with_reducible repeat (first | refine blk_drewN ?_ _ | refine blk_drew ?_ | refine blk_alloc ?_ _)); refine blk_far ?_ NB101_114.out _; (with_reducible repeat (first | refine blk_drewN ?_ _ | refine blk_drew ?_ | refine blk_alloc ?_ _)); exact BK101.out) hb); replace BK114 := Aside0.mk (blk_below (g := gb114) (o := .cells #[.slice Ao87 t111.length co87] 59 (0, 0)) (by (with_reducible repeat (first | refine blk_drewN ?_ _ | refine blk_drew ?_ | refine blk_alloc ?_ _)); refine blk_put (cs := #[.slice none 0 0]) ?_ 0 _ rfl; (with_reducible repeat (first | refine blk_drewN ?_ _ | refine blk_drew ?_ | refine blk_alloc ?_ _)); exact BK114.out) hb); replace HB := kS HB hb; (try clear ho0); obtain ⟨hcz91_0, hfz91_0⟩ := bf1 BK114; obtain ⟨Ao92, co92, eo92⟩ := Kd.R_slice HO117.out; subst eo92) | ((with_reducible refine gate_callee (f := 46) rfl ?_); refine gL (some 31) Try.func46 #[.agg #[.slice Ao87 t111.length co87], .slice Ao92 t115.length co92] (impl_MillHolds.calls k _ _ t111 _ _ t115 t118 _ ?side1 ?side2 ?side3 ?side4 A19.out) ?_; (case side1 => repeat (first | exact (Kd.R_reads' HO113.out).2.2 | (with_reducible refine Kd.C_alloc ?_ _) | (with_reducible refine Kd.C_drewN ?_ _) | (with_reducible refine Kd.C_drew ?_))); (case side2 => exact (Kd.R_reads' HO113.out).2.1); (case side3 => repeat (first | exact (Kd.R_reads' HO117.out).2.2 | (with_reducible refine Kd.C_alloc ?_ _) | (with_reducible refine Kd.C_drewN ?_ _) | (with_reducible refine Kd.C_drew ?_))); (case side4 => exact (Kd.R_reads' HO117.out).2.1); intro w93 hb; replace HO106 := Aside0.mk (Kd.R_below (by (with_reducible repeat (first | apply Kd.R_alloc | apply Kd.R_drewN | apply Kd.R_drew)); exact HO106.out) hb); replace HO109 := Aside0.mk (Kd.R_below (by (with_reducible repeat (first | apply Kd.R_alloc | apply Kd.R_drewN | apply Kd.R_drew)); exact HO109.out) hb); replace HO113 := Aside0.mk (Kd.R_below (by (with_reducible repeat (first | apply Kd.R_alloc | apply Kd.R_drewN | apply Kd.R_drew)); exact HO113.out) hb); replace HO117 := Aside0.mk (Kd.R_below (by (with_reducible repeat (first | apply Kd.R_alloc | apply Kd.R_drewN | apply Kd.R_drew)); exact HO117.out) hb); replace BK101 := kB BK101 hb; replace BK114 := kB BK114 hb; replace HB := kS HB hb))
            have n0_ := Aside0.mk (Kd.R_drew HO106.out)
            have n1_ := Aside0.mk (Kd.R_drew HO109.out)
            have n2_ := Aside0.mk (Kd.R_drew HO113.out)
            have n3_ := Aside0.mk (Kd.R_drew HO117.out)
            have n4_ := Aside0.mk (blk_drew BK101.out)
            have n5_ := Aside0.mk (blk_drew BK114.out)
            have n6_ := Aside0.mk (below_drew1 HB.out)
            clear HO106
            clear HO109
            clear HO113
            clear HO117
            clear BK101
            clear BK114
            clear HB
            have HO106 := n0_
            have HO109 := n1_
            have HO113 := n2_
            have HO117 := n3_
            have BK101 := n4_
            have BK114 := n5_
            have HB := n6_
            clear n0_ n1_ n2_ n3_ n4_ n5_ n6_
            refine start_ (n := 5) (S := fun w' => w'.cell? ⟨gb114, 0, none⟩ = some (.slice Ao87 t111.length co87) ∧ w'.cell? ⟨gb101, 0, none⟩ = some (.slice A0_0 l0_0.length c0_0)) (ds := []) #[false, false, false, false, false] (by kernel_rfl) rfl rfl ⟨(blk_cell BK114.out 0).trans rfl, (blk_cell BK101.out 0).trans rfl⟩ (fun hHeld => ?_)
            generalize w93.drew = w94 at HO106 HO109 HO113 HO117 BK101 BK114 HB hHeld ⊢
            refine take_ (i := 0) (N := some 35) (v := ?_) (a' := ?_) #[true, false, false, false, false] rfl rfl (by kernel_rfl) (fun _ _ _ h => h) (Or.inl ⟨by rfl, ?_⟩) hHeld ?_ ?_
            rotate_left
            · rintro w' ⟨s0, s1⟩
              go_simp
              with_reducible rfl
            rotate_left
            · simp only [Act.put, List.setIfInBounds_toArray, List.set_cons_zero, List.set_cons_succ, i64_w, i32_w]
              rfl
            refine take_ (i := 1) (N := some 36) (v := ?_) (a' := ?_) #[true, true, false, false, false] rfl rfl (by kernel_rfl) (fun _ _ _ h => h) (Or.inl ⟨by rfl, ?_⟩) hHeld ?_ ?_
            rotate_left
            · rintro w' ⟨s0, s1⟩
              go_simp
              with_reducible rfl
            rotate_left
            · simp only [Act.put, List.setIfInBounds_toArray, List.set_cons_zero, List.set_cons_succ, i64_w, i32_w]
              rfl
            refine one_ (i := 2) (N := some 37) #[true, true, true, false, false] rfl rfl (by kernel_rfl) (by decide) (fun K hK => ?_)
            refine goes_ Try.func35 (by kernel_rfl) rfl #[.agg #[.slice A0_0 l0_0.length c0_0]] (by rfl) rfl rfl (by (try simp only [List.map_toArray, List.map_cons, List.map_nil]); first | done | rfl | (simp only [List.length_drop, List.length_take]; rfl)) ?_
            with_reducible refine (laws_toMillPlace.calls k _ _ l0_0 t119 _ ?side1 ?side2 A41.out).mono ?_
            (case side1 => repeat (first | exact (Kd.C_below HR0_0.out HB.out) | (with_reducible refine Kd.C_alloc ?_ _) | (with_reducible refine Kd.C_drewN ?_ _) | (with_reducible refine Kd.C_drew ?_)))
            (case side2 => exact HC0_0.out)
            rintro e w95 ⟨v120, rfl, ho0, hb⟩
            refine ⟨_, rfl, ?_⟩
            have n0_ := Aside0.mk (Kd.R_elder' (by (with_reducible repeat (first | apply Kd.R_alloc | apply Kd.R_drewN | apply Kd.R_drew)); exact HO106.out) (Kd.R_base ho0) hb)
            have n1_ := Aside0.mk (Kd.R_below (by (with_reducible repeat (first | apply Kd.R_alloc | apply Kd.R_drewN | apply Kd.R_drew)); exact HO109.out) hb)
            have n2_ := Aside0.mk (Kd.R_elder' (by (with_reducible repeat (first | apply Kd.R_alloc | apply Kd.R_drewN | apply Kd.R_drew)); exact HO113.out) (Kd.R_base ho0) hb)
            have n3_ := Aside0.mk (Kd.R_below (by (with_reducible repeat (first | apply Kd.R_alloc | apply Kd.R_drewN | apply Kd.R_drew)); exact HO117.out) hb)
            have n4_ := Aside0.mk (Kd.R_lower (Kd.R_new' (Kd.R_new' ho0 (Kd.R_lt (by (with_reducible repeat (first | apply Kd.R_alloc | apply Kd.R_drewN | apply Kd.R_drew)); exact HO106.out))) (Kd.R_lt (by (with_reducible repeat (first | apply Kd.R_alloc | apply Kd.R_drewN | apply Kd.R_drew)); exact HO113.out))) (below_size (kb HB)))
            have n5_ := kB BK101 hb
            have n6_ := kB BK114 hb
            have n7_ := kS HB hb
            clear HO106
            clear HO109
            clear HO113
            clear HO117
            clear BK101
            clear BK114
            clear HB
            have HO106 := n0_
            have HO109 := n1_
            have HO113 := n2_
            have HO117 := n3_
            have HO121 := n4_
            have BK101 := n5_
            have BK114 := n6_
            have HB := n7_
            clear n0_ n1_ n2_ n3_ n4_ n5_ n6_ n7_
            (try clear hb)
            (try clear hb2)
            (try clear hk)
            (try clear hi)
            (try clear ho0)
            obtain ⟨Ao96, co96, eo96⟩ := Kd.R_slice HO121.out
            (first | subst eo96 | (injection eo96 with f1_ f2_ f3_; have f4_ := f1_.symm; have f5_ := f3_.symm; clear f1_ f2_ f3_; subst f4_; subst f5_))
            refine hK.out _ _ ⟨(blk_cell BK114.out 0).trans rfl, (blk_cell BK101.out 0).trans rfl⟩ (fun hHeld => ?_)
            clear hK K
            refine norm_ (a' := ?_) ?_ ?_
            rotate_left
            · show Act.put _ (some 37) _ = _
              simp only [Act.put, List.setIfInBounds_toArray, List.set_cons_zero, List.set_cons_succ, i64_w, i32_w]
              rfl
            refine one_ (i := 3) (N := some 38) #[true, true, true, true, false] rfl rfl (by kernel_rfl) (by decide) (fun K hK => ?_)
            refine goes_ Try.func37 (by kernel_rfl) rfl #[.agg #[.slice Ao87 t111.length co87], .agg #[.slice Ao96 t119.length co96]] (by rfl) rfl rfl (by (try simp only [List.map_toArray, List.map_cons, List.map_nil]); first | done | rfl | (simp only [List.length_drop, List.length_take]; rfl)) ?_
            with_reducible refine (laws_eqMillPlace.calls k _ _ t111 _ _ t119 true _ ?side1 ?side2 ?side3 ?side4 A42.out).mono ?_
            (case side1 => repeat (first | exact (Kd.R_reads' HO113.out).2.2 | (with_reducible refine Kd.C_alloc ?_ _) | (with_reducible refine Kd.C_drewN ?_ _) | (with_reducible refine Kd.C_drew ?_)))
            (case side2 => exact (Kd.R_reads' HO113.out).2.1)
            (case side3 => repeat (first | exact (Kd.R_reads' HO121.out).2.2 | (with_reducible refine Kd.C_alloc ?_ _) | (with_reducible refine Kd.C_drewN ?_ _) | (with_reducible refine Kd.C_drew ?_)))
            (case side4 => exact (Kd.R_reads' HO121.out).2.1)
            rintro e w97 ⟨rfl, hb⟩
            refine ⟨_, rfl, ?_⟩
            have n0_ := Aside0.mk (Kd.R_below (by (with_reducible repeat (first | apply Kd.R_alloc | apply Kd.R_drewN | apply Kd.R_drew)); exact HO106.out) hb)
            have n1_ := Aside0.mk (Kd.R_below (by (with_reducible repeat (first | apply Kd.R_alloc | apply Kd.R_drewN | apply Kd.R_drew)); exact HO109.out) hb)
            have n2_ := Aside0.mk (Kd.R_below (by (with_reducible repeat (first | apply Kd.R_alloc | apply Kd.R_drewN | apply Kd.R_drew)); exact HO113.out) hb)
            have n3_ := Aside0.mk (Kd.R_below (by (with_reducible repeat (first | apply Kd.R_alloc | apply Kd.R_drewN | apply Kd.R_drew)); exact HO117.out) hb)
            have n4_ := Aside0.mk (Kd.R_below (by (with_reducible repeat (first | apply Kd.R_alloc | apply Kd.R_drewN | apply Kd.R_drew)); exact HO121.out) hb)
            have n5_ := kB BK101 hb
            have n6_ := kB BK114 hb
            have n7_ := kS HB hb
            clear HO106
            clear HO109
            clear HO113
            clear HO117
            clear HO121
            clear BK101
            clear BK114
            clear HB
            have HO106 := n0_
            have HO109 := n1_
            have HO113 := n2_
            have HO117 := n3_
            have HO121 := n4_
            have BK101 := n5_
            have BK114 := n6_
            have HB := n7_
            clear n0_ n1_ n2_ n3_ n4_ n5_ n6_ n7_
            (try clear hb)
            (try clear hb2)
            (try clear hk)
            (try clear hi)
            refine hK.out _ _ ⟨(blk_cell BK114.out 0).trans rfl, (blk_cell BK101.out 0).trans rfl⟩ (fun hHeld => ?_)
            clear hK K
            refine norm_ (a' := ?_) ?_ ?_
            rotate_left
            · show Act.put _ (some 38) _ = _
              simp only [Act.put, List.setIfInBounds_toArray, List.set_cons_zero, List.set_cons_succ, i64_w, i32_w]
              rfl
            refine pure_ (i := 4) (N := some 39) (v := ?_) (a' := ?_) #[true, true, true, true, true] rfl rfl (by kernel_rfl) (fun _ _ _ h => h) (Or.inl ⟨by rfl, ?_⟩) ?_ ?_
            rotate_left
            · intro w'
              go_simp
              with_reducible rfl
            rotate_left
            · simp only [Act.put, List.setIfInBounds_toArray, List.set_cons_zero, List.set_cons_succ, i64_w, i32_w]
              rfl
            refine done_ (by kernel_rfl) ?_
            try go_wp2_with (first | ((with_reducible refine gate_callee (f := 45) rfl ?_); refine goesL_ (some 42) rfl rfl Try.func45 (by kernel_rfl) rfl #[.slice A1 l1.length c1] rfl (by (try simp only [List.map_toArray, List.map_cons, List.map_nil]); first | done | rfl | (simp only [List.length_drop, List.length_take]; rfl)) ?_; (with_reducible refine (laws_toMillSeenS.calls k _ _ l1 t123 _ ?side1 ?side2 A44.out).mono ?_); (case side1 => repeat (first | exact (Kd.C_below HR1.out HB.out) | (with_reducible refine Kd.C_alloc ?_ _) | (with_reducible refine Kd.C_drewN ?_ _) | (with_reducible refine Kd.C_drew ?_))); (case side2 => exact HC1.out); rintro e w98 ⟨v124, rfl, ho0, hb⟩; refine ⟨_, rfl, ?_⟩; have HO125 := Aside0.mk (Kd.R_lower (Kd.R_new' (Kd.R_new' ho0 (Kd.R_lt (by (with_reducible repeat (first | apply Kd.R_alloc | apply Kd.R_drewN | apply Kd.R_drew)); exact HO109.out))) (Kd.R_lt (by (with_reducible repeat (first | apply Kd.R_alloc | apply Kd.R_drewN | apply Kd.R_drew)); exact HO117.out))) (below_size (kb HB))); replace HO106 := Aside0.mk (Kd.R_below (by (with_reducible repeat (first | apply Kd.R_alloc | apply Kd.R_drewN | apply Kd.R_drew)); exact HO106.out) hb); replace HO109 := Aside0.mk (Kd.R_elder' (by (with_reducible repeat (first | apply Kd.R_alloc | apply Kd.R_drewN | apply Kd.R_drew)); exact HO109.out) (Kd.R_base ho0) hb); replace HO113 := Aside0.mk (Kd.R_below (by (with_reducible repeat (first | apply Kd.R_alloc | apply Kd.R_drewN | apply Kd.R_drew)); exact HO113.out) hb); replace HO117 := Aside0.mk (Kd.R_elder' (by (with_reducible repeat (first | apply Kd.R_alloc | apply Kd.R_drewN | apply Kd.R_drew)); exact HO117.out) (Kd.R_base ho0) hb); replace HO121 := Aside0.mk (Kd.R_below (by (with_reducible repeat (first | apply Kd.R_alloc | apply Kd.R_drewN | apply Kd.R_drew)); exact HO121.out) hb); replace BK101 := kB BK101 hb; replace BK114 := kB BK114 hb; replace HB := kS HB hb; (try clear ho0); obtain ⟨Ao99, co99, eo99⟩ := Kd.R_slice HO125.out; subst eo99) | ((with_reducible refine gate_callee (f := 47) rfl ?_); refine gL (some 43) Try.func47 #[.slice Ao92 t115.length co92, .slice Ao99 t123.length co99] (laws_eqMillSeenS.calls k _ _ t115 _ _ t123 false _ ?side1 ?side2 ?side3 ?side4 A45.out) ?_; (case side1 => repeat (first | exact (Kd.R_reads' HO117.out).2.2 | (with_reducible refine Kd.C_alloc ?_ _) | (with_reducible refine Kd.C_drewN ?_ _) | (with_reducible refine Kd.C_drew ?_))); (case side2 => exact (Kd.R_reads' HO117.out).2.1); (case side3 => repeat (first | exact (Kd.R_reads' HO125.out).2.2 | (with_reducible refine Kd.C_alloc ?_ _) | (with_reducible refine Kd.C_drewN ?_ _) | (with_reducible refine Kd.C_drew ?_))); (case side4 => exact (Kd.R_reads' HO125.out).2.1); intro w100 hb; replace HO106 := Aside0.mk (Kd.R_below (by (with_reducible repeat (first | apply Kd.R_alloc | apply Kd.R_drewN | apply Kd.R_drew)); exact HO106.out) hb); replace HO109 := Aside0.mk (Kd.R_below (by (with_reducible repeat (first | apply Kd.R_alloc | apply Kd.R_drewN | apply Kd.R_drew)); exact HO109.out) hb); replace HO113 := Aside0.mk (Kd.R_below (by (with_reducible repeat (first | apply Kd.R_alloc | apply Kd.R_drewN | apply Kd.R_drew)); exact HO113.out) hb); replace HO117 := Aside0.mk (Kd.R_below (by (with_reducible repeat (first | apply Kd.R_alloc | apply Kd.R_drewN | apply Kd.R_drew)); exact HO117.out) hb); replace HO121 := Aside0.mk (Kd.R_below (by (with_reducible repeat (first | apply Kd.R_alloc | apply Kd.R_drewN | apply Kd.R_drew)); exact HO121.out) hb); replace HO125 := Aside0.mk (Kd.R_below (by (with_reducible repeat (first | apply Kd.R_alloc | apply Kd.R_drewN | apply Kd.R_drew)); exact HO125.out) hb); replace BK101 := kB BK101 hb; replace BK114 := kB BK114 hb; replace HB := kS HB hb))
            go_ret
            exact ⟨by first | rfl | (simp [errW_none, errW_some] <;> rfl) | (simp [*, errW_none, errW_some] <;> rfl), kb HB⟩
        · replace c43 := Bool.eq_false_iff.mpr c43
          subst c43
          have H1 : (some false) = some r := by rw [if_neg (show ¬ (false = true) by decide)] at H; exact H
          clear H
          have H := H1
          clear H1
          obtain rfl := Option.some.inj H
          go_enter Try.func12, Try.ntmps12
          try go_wp2_with (first | ((with_reducible refine gate_dst (N := 2) rfl ?_); refine gX 2 #[.slice A0_0 l0_0.length c0_0] 54 ?_; intro gb101 hg w101 hbox hb; have BK101 := Aside0.mk (hbox); have GW101 := gw hg (kb HB); have GE101 := gw hg (kb HB); replace HB := kS HB hb; clear hb hbox hg; obtain ⟨hcz102_0, hfz102_0⟩ := bf1 BK101) | ((with_reducible refine gate_callee (f := 33) rfl ?_); refine gL (some 12) Try.func33 #[.agg #[.slice A0_0 l0_0.length c0_0], .int .i64 1048576] (laws_szMillPlace.calls k _ _ l0_0 1048576 t102 _ ?side1 ?side2 A3.out) ?_; (case side1 => repeat (first | exact (Kd.C_below HR0_0.out HB.out) | (with_reducible refine Kd.C_alloc ?_ _) | (with_reducible refine Kd.C_drewN ?_ _) | (with_reducible refine Kd.C_drew ?_))); (case side2 => exact HC0_0.out); intro w103 hb; replace BK101 := kB BK101 hb; replace HB := kS HB hb) | ((with_reducible refine gate_callee (f := 43) rfl ?_); refine gL (some 17) Try.func43 #[.slice A1 l1.length c1, .int .i64 t102] (laws_szMillSeenS.calls k _ _ l1 t102 t103 _ ?side1 ?side2 A8.out) ?_; (case side1 => repeat (first | exact (Kd.C_below HR1.out HB.out) | (with_reducible refine Kd.C_alloc ?_ _) | (with_reducible refine Kd.C_drewN ?_ _) | (with_reducible refine Kd.C_drew ?_))); (case side2 => exact HC1.out); intro w104 hb; replace BK101 := kB BK101 hb; replace HB := kS HB hb; obtain ⟨hcz105_0, hfz105_0⟩ := bf1 BK101) | ((with_reducible refine gate_callee (f := 35) rfl ?_); refine goesL_ (some 21) rfl rfl Try.func35 (by kernel_rfl) rfl #[.agg #[.slice A0_0 l0_0.length c0_0]] rfl (by (try simp only [List.map_toArray, List.map_cons, List.map_nil]); first | done | rfl | (simp only [List.length_drop, List.length_take]; rfl)) ?_; (with_reducible refine (laws_toMillPlace.calls k _ _ l0_0 t104 _ ?side1 ?side2 A14.out).mono ?_); (case side1 => repeat (first | exact (Kd.C_below HR0_0.out HB.out) | (with_reducible refine Kd.C_alloc ?_ _) | (with_reducible refine Kd.C_drewN ?_ _) | (with_reducible refine Kd.C_drew ?_))); (case side2 => exact HC0_0.out); rintro e w106 ⟨v105, rfl, ho0, hb⟩; refine ⟨_, rfl, ?_⟩; have HO106 := Aside0.mk (Kd.R_lower ho0 (below_size (kb HB))); replace BK101 := kB BK101 hb; replace HB := kS HB hb; (try clear ho0)) | ((with_reducible refine gate_callee (f := 45) rfl ?_); refine goesL_ (some 23) rfl rfl Try.func45 (by kernel_rfl) rfl #[.slice A1 l1.length c1] rfl (by (try simp only [List.map_toArray, List.map_cons, List.map_nil]); first | done | rfl | (simp only [List.length_drop, List.length_take]; rfl)) ?_; (with_reducible refine (laws_toMillSeenS.calls k _ _ l1 t107 _ ?side1 ?side2 A15.out).mono ?_); (case side1 => repeat (first | exact (Kd.C_below HR1.out HB.out) | (with_reducible refine Kd.C_alloc ?_ _) | (with_reducible refine Kd.C_drewN ?_ _) | (with_reducible refine Kd.C_drew ?_))); (case side2 => exact HC1.out); rintro e w107 ⟨v108, rfl, ho0, hb⟩; refine ⟨_, rfl, ?_⟩; have HO109 := Aside0.mk (Kd.R_lower ho0 (below_size (kb HB))); replace HO106 := Aside0.mk (Kd.R_below (by (with_reducible repeat (first | apply Kd.R_alloc | apply Kd.R_drewN | apply Kd.R_drew)); exact HO106.out) hb); replace BK101 := kB BK101 hb; replace HB := kS HB hb; (try clear ho0); obtain ⟨Ao108, co108, eo108⟩ := Kd.R_slice HO106.out; subst eo108; obtain ⟨Ao109, co109, eo109⟩ := Kd.R_slice HO109.out; subst eo109) | ((with_reducible refine gate_callee (f := 44) rfl ?_); refine gL (some 24) Try.func44 #[.agg #[.slice Ao108 t104.length co108], .slice Ao109 t107.length co109] (spec_MillHolds.calls k _ _ t104 _ _ t107 t110 _ ?side1 ?side2 ?side3 ?side4 A16.out) ?_; (case side1 => repeat (first | exact (Kd.R_reads' HO106.out).2.2 | (with_reducible refine Kd.C_alloc ?_ _) | (with_reducible refine Kd.C_drewN ?_ _) | (with_reducible refine Kd.C_drew ?_))); (case side2 => exact (Kd.R_reads' HO106.out).2.1); (case side3 => repeat (first | exact (Kd.R_reads' HO109.out).2.2 | (with_reducible refine Kd.C_alloc ?_ _) | (with_reducible refine Kd.C_drewN ?_ _) | (with_reducible refine Kd.C_drew ?_))); (case side4 => exact (Kd.R_reads' HO109.out).2.1); intro w110 hb; replace HO106 := Aside0.mk (Kd.R_below (by (with_reducible repeat (first | apply Kd.R_alloc | apply Kd.R_drewN | apply Kd.R_drew)); exact HO106.out) hb); replace HO109 := Aside0.mk (Kd.R_below (by (with_reducible repeat (first | apply Kd.R_alloc | apply Kd.R_drewN | apply Kd.R_drew)); exact HO109.out) hb); replace BK101 := kB BK101 hb; replace HB := kS HB hb; obtain ⟨hcz111_0, hfz111_0⟩ := bf1 BK101) | ((with_reducible refine gate_callee (f := 35) rfl ?_); refine goesL_ (some 26) rfl rfl Try.func35 (by kernel_rfl) rfl #[.agg #[.slice A0_0 l0_0.length c0_0]] rfl (by (try simp only [List.map_toArray, List.map_cons, List.map_nil]); first | done | rfl | (simp only [List.length_drop, List.length_take]; rfl)) ?_; (with_reducible refine (laws_toMillPlace.calls k _ _ l0_0 t111 _ ?side1 ?side2 A17.out).mono ?_); (case side1 => repeat (first | exact (Kd.C_below HR0_0.out HB.out) | (with_reducible refine Kd.C_alloc ?_ _) | (with_reducible refine Kd.C_drewN ?_ _) | (with_reducible refine Kd.C_drew ?_))); (case side2 => exact HC0_0.out); rintro e w112 ⟨v112, rfl, ho0, hb⟩; refine ⟨_, rfl, ?_⟩; have HO113 := Aside0.mk (Kd.R_lower (Kd.R_new' ho0 (Kd.R_lt (by (with_reducible repeat (first | apply Kd.R_alloc | apply Kd.R_drewN | apply Kd.R_drew)); exact HO106.out))) (below_size (kb HB))); replace HO106 := Aside0.mk (Kd.R_elder' (by (with_reducible repeat (first | apply Kd.R_alloc | apply Kd.R_drewN | apply Kd.R_drew)); exact HO106.out) (Kd.R_base ho0) hb); replace HO109 := Aside0.mk (Kd.R_below (by (with_reducible repeat (first | apply Kd.R_alloc | apply Kd.R_drewN | apply Kd.R_drew)); exact HO109.out) hb); replace BK101 := kB BK101 hb; replace HB := kS HB hb; (try clear ho0)) | ((with_reducible refine gate_dst (N := 7) rfl ?_); refine gX 7 #[.slice none 0 0] 59 ?_; intro gb114 hg w113 hbox hb; have BK114 := Aside0.mk (hbox); have GW114 := gw hg (kb HB); have GE114 := gw hg (kb HB); have NB101_114 := nl hg (kp BK101); have NB114_101 := ng hg (kp BK101); replace HO106 := Aside0.mk (Kd.R_below (by (with_reducible repeat (first | apply Kd.R_alloc | apply Kd.R_drewN | apply Kd.R_drew)); exact HO106.out) hb); replace HO109 := Aside0.mk (Kd.R_below (by (with_reducible repeat (first | apply Kd.R_alloc | apply Kd.R_drewN | apply Kd.R_drew)); exact HO109.out) hb); replace HO113 := Aside0.mk (Kd.R_below (by (with_reducible repeat (first | apply Kd.R_alloc | apply Kd.R_drewN | apply Kd.R_drew)); exact HO113.out) hb); replace BK101 := kB BK101 hb; replace HB := kS HB hb; clear hb hbox hg; obtain ⟨Ao114, co114, eo114⟩ := Kd.R_slice HO113.out; subst eo114; have hnb115 := NB114_101.out; have hnc115 := NB101_114.out; obtain ⟨hcz116_0, hfz116_0⟩ := bf1 BK114) | ((with_reducible refine gate_callee (f := 45) rfl ?_); refine goesL_ (some 28) rfl rfl Try.func45 (by kernel_rfl) rfl #[.slice A1 l1.length c1] rfl (by (try simp only [List.map_toArray, List.map_cons, List.map_nil]); first | done | rfl | (simp only [List.length_drop, List.length_take]; rfl)) ?_; (with_reducible refine (laws_toMillSeenS.calls k _ _ l1 t115 _ ?side1 ?side2 A18.out).mono ?_); (case side1 => exact Kd.C_below HR1.out (kb HB)); (case side2 => exact HC1.out); rintro e w117 ⟨v116, rfl, ho0, hb⟩; refine ⟨_, rfl, ?_⟩; have HO117 := Aside0.mk (Kd.R_lower (Kd.R_new' ho0 (Kd.R_lt (by (with_reducible repeat (first | apply Kd.R_alloc | apply Kd.R_drewN | apply Kd.R_drew)); exact (Kd.R_mono (Kd.R_far (p := ⟨gb114, 0, none⟩) (Kd.R_types HO109.out BK114.out (by decide)) (fun _ hk => hk.2) (.slice Ao114 t111.length co114)) (fun _ h_ => h_.1))))) (below_size (kb HB))); replace HO106 := Aside0.mk (Kd.R_below (by (with_reducible repeat (first | apply Kd.R_alloc | apply Kd.R_drewN | apply Kd.R_drew)); exact (Kd.R_mono (Kd.R_far (p := ⟨gb114, 0, none⟩) (Kd.R_types HO106.out BK114.out (by decide)) (fun _ hk => hk.2) (.slice Ao114 t111.length co114)) (fun _ h_ => h_.1))) hb); replace HO109 := Aside0.mk (Kd.R_elder' (by (with_reducible repeat (first | apply Kd.R_alloc | apply Kd.R_drewN | apply Kd.R_drew)); exact (Kd.R_mono (Kd.R_far (p := ⟨gb114, 0, none⟩) (Kd.R_types HO109.out BK114.out (by decide)) (fun _ hk => hk.2) (.slice Ao114 t111.length co114)) (fun _ h_ => h_.1))) (Kd.R_base ho0) hb); replace HO113 := Aside0.mk (Kd.R_below (by (with_reducible repeat (first | apply Kd.R_alloc | apply Kd.R_drewN | apply Kd.R_drew)); exact (Kd.R_mono (Kd.R_far (p := ⟨gb114, 0, none⟩) (Kd.R_types HO113.out BK114.out (by decide)) (fun _ hk => hk.2) (.slice Ao114 t111.length co114)) (fun _ h_ => h_.1))) hb); replace BK101 := Aside0.mk (blk_below (g := gb101) (o := .cells #[.slice A0_0 l0_0.length c0_0] 54 (0, 0)) (by (with_reducible repeat (first | refine blk_drewN ?_ _ | refine blk_drew ?_ | refine blk_alloc ?_ _)); refine blk_far ?_ NB101_114.out _; (with_reducible repeat (first | refine blk_drewN ?_ _ | refine blk_drew ?_ | refine blk_alloc ?_ _)); exact BK101.out) hb); replace BK114 := Aside0.mk (blk_below (g := gb114) (o := .cells #[.slice Ao114 t111.length co114] 59 (0, 0)) (by (with_reducible repeat (first | refine blk_drewN ?_ _ | refine blk_drew ?_ | refine blk_alloc ?_ _)); refine blk_put (cs := #[.slice none 0 0]) ?_ 0 _ rfl; (with_reducible repeat (first | refine blk_drewN ?_ _ | refine blk_drew ?_ | refine blk_alloc ?_ _)); exact BK114.out) hb); replace HB := kS HB hb; (try clear ho0); obtain ⟨hcz118_0, hfz118_0⟩ := bf1 BK114; obtain ⟨Ao119, co119, eo119⟩ := Kd.R_slice HO117.out; subst eo119) | ((with_reducible refine gate_callee (f := 46) rfl ?_); refine gL (some 31) Try.func46 #[.agg #[.slice Ao114 t111.length co114], .slice Ao119 t115.length co119] (impl_MillHolds.calls k _ _ t111 _ _ t115 t118 _ ?side1 ?side2 ?side3 ?side4 A19.out) ?_; (case side1 => repeat (first | exact (Kd.R_reads' HO113.out).2.2 | (with_reducible refine Kd.C_alloc ?_ _) | (with_reducible refine Kd.C_drewN ?_ _) | (with_reducible refine Kd.C_drew ?_))); (case side2 => exact (Kd.R_reads' HO113.out).2.1); (case side3 => repeat (first | exact (Kd.R_reads' HO117.out).2.2 | (with_reducible refine Kd.C_alloc ?_ _) | (with_reducible refine Kd.C_drewN ?_ _) | (with_reducible refine Kd.C_drew ?_))); (case side4 => exact (Kd.R_reads' HO117.out).2.1); intro w120 hb; replace HO106 := Aside0.mk (Kd.R_below (by (with_reducible repeat (first | apply Kd.R_alloc | apply Kd.R_drewN | apply Kd.R_drew)); exact HO106.out) hb); replace HO109 := Aside0.mk (Kd.R_below (by (with_reducible repeat (first | apply Kd.R_alloc | apply Kd.R_drewN | apply Kd.R_drew)); exact HO109.out) hb); replace HO113 := Aside0.mk (Kd.R_below (by (with_reducible repeat (first | apply Kd.R_alloc | apply Kd.R_drewN | apply Kd.R_drew)); exact HO113.out) hb); replace HO117 := Aside0.mk (Kd.R_below (by (with_reducible repeat (first | apply Kd.R_alloc | apply Kd.R_drewN | apply Kd.R_drew)); exact HO117.out) hb); replace BK101 := kB BK101 hb; replace BK114 := kB BK114 hb; replace HB := kS HB hb))
          have n0_ := Aside0.mk (Kd.R_drew HO106.out)
          have n1_ := Aside0.mk (Kd.R_drew HO109.out)
          have n2_ := Aside0.mk (Kd.R_drew HO113.out)
          have n3_ := Aside0.mk (Kd.R_drew HO117.out)
          have n4_ := Aside0.mk (blk_drew BK101.out)
          have n5_ := Aside0.mk (blk_drew BK114.out)
          have n6_ := Aside0.mk (below_drew1 HB.out)
          clear HO106
          clear HO109
          clear HO113
          clear HO117
          clear BK101
          clear BK114
          clear HB
          have HO106 := n0_
          have HO109 := n1_
          have HO113 := n2_
          have HO117 := n3_
          have BK101 := n4_
          have BK114 := n5_
          have HB := n6_
          clear n0_ n1_ n2_ n3_ n4_ n5_ n6_
          refine start_ (n := 5) (S := fun w' => w'.cell? ⟨gb114, 0, none⟩ = some (.slice Ao114 t111.length co114) ∧ w'.cell? ⟨gb101, 0, none⟩ = some (.slice A0_0 l0_0.length c0_0)) (ds := []) #[false, false, false, false, false] (by kernel_rfl) rfl rfl ⟨(blk_cell BK114.out 0).trans rfl, (blk_cell BK101.out 0).trans rfl⟩ (fun hHeld => ?_)
          generalize w120.drew = w121 at HO106 HO109 HO113 HO117 BK101 BK114 HB hHeld ⊢
          refine take_ (i := 0) (N := some 35) (v := ?_) (a' := ?_) #[true, false, false, false, false] rfl rfl (by kernel_rfl) (fun _ _ _ h => h) (Or.inl ⟨by rfl, ?_⟩) hHeld ?_ ?_
          rotate_left
          · rintro w' ⟨s0, s1⟩
            go_simp
            with_reducible rfl
          rotate_left
          · simp only [Act.put, List.setIfInBounds_toArray, List.set_cons_zero, List.set_cons_succ, i64_w, i32_w]
            rfl
          refine take_ (i := 1) (N := some 36) (v := ?_) (a' := ?_) #[true, true, false, false, false] rfl rfl (by kernel_rfl) (fun _ _ _ h => h) (Or.inl ⟨by rfl, ?_⟩) hHeld ?_ ?_
          rotate_left
          · rintro w' ⟨s0, s1⟩
            go_simp
            with_reducible rfl
          rotate_left
          · simp only [Act.put, List.setIfInBounds_toArray, List.set_cons_zero, List.set_cons_succ, i64_w, i32_w]
            rfl
          refine one_ (i := 2) (N := some 37) #[true, true, true, false, false] rfl rfl (by kernel_rfl) (by decide) (fun K hK => ?_)
          refine goes_ Try.func35 (by kernel_rfl) rfl #[.agg #[.slice A0_0 l0_0.length c0_0]] (by rfl) rfl rfl (by (try simp only [List.map_toArray, List.map_cons, List.map_nil]); first | done | rfl | (simp only [List.length_drop, List.length_take]; rfl)) ?_
          with_reducible refine (laws_toMillPlace.calls k _ _ l0_0 t119 _ ?side1 ?side2 A41.out).mono ?_
          (case side1 => repeat (first | exact (Kd.C_below HR0_0.out HB.out) | (with_reducible refine Kd.C_alloc ?_ _) | (with_reducible refine Kd.C_drewN ?_ _) | (with_reducible refine Kd.C_drew ?_)))
          (case side2 => exact HC0_0.out)
          rintro e w122 ⟨v120, rfl, ho0, hb⟩
          refine ⟨_, rfl, ?_⟩
          have n0_ := Aside0.mk (Kd.R_elder' (by (with_reducible repeat (first | apply Kd.R_alloc | apply Kd.R_drewN | apply Kd.R_drew)); exact HO106.out) (Kd.R_base ho0) hb)
          have n1_ := Aside0.mk (Kd.R_below (by (with_reducible repeat (first | apply Kd.R_alloc | apply Kd.R_drewN | apply Kd.R_drew)); exact HO109.out) hb)
          have n2_ := Aside0.mk (Kd.R_elder' (by (with_reducible repeat (first | apply Kd.R_alloc | apply Kd.R_drewN | apply Kd.R_drew)); exact HO113.out) (Kd.R_base ho0) hb)
          have n3_ := Aside0.mk (Kd.R_below (by (with_reducible repeat (first | apply Kd.R_alloc | apply Kd.R_drewN | apply Kd.R_drew)); exact HO117.out) hb)
          have n4_ := Aside0.mk (Kd.R_lower (Kd.R_new' (Kd.R_new' ho0 (Kd.R_lt (by (with_reducible repeat (first | apply Kd.R_alloc | apply Kd.R_drewN | apply Kd.R_drew)); exact HO106.out))) (Kd.R_lt (by (with_reducible repeat (first | apply Kd.R_alloc | apply Kd.R_drewN | apply Kd.R_drew)); exact HO113.out))) (below_size (kb HB)))
          have n5_ := kB BK101 hb
          have n6_ := kB BK114 hb
          have n7_ := kS HB hb
          clear HO106
          clear HO109
          clear HO113
          clear HO117
          clear BK101
          clear BK114
          clear HB
          have HO106 := n0_
          have HO109 := n1_
          have HO113 := n2_
          have HO117 := n3_
          have HO121 := n4_
          have BK101 := n5_
          have BK114 := n6_
          have HB := n7_
          clear n0_ n1_ n2_ n3_ n4_ n5_ n6_ n7_
          (try clear hb)
          (try clear hb2)
          (try clear hk)
          (try clear hi)
          (try clear ho0)
          obtain ⟨Ao123, co123, eo123⟩ := Kd.R_slice HO121.out
          (first | subst eo123 | (injection eo123 with f1_ f2_ f3_; have f4_ := f1_.symm; have f5_ := f3_.symm; clear f1_ f2_ f3_; subst f4_; subst f5_))
          refine hK.out _ _ ⟨(blk_cell BK114.out 0).trans rfl, (blk_cell BK101.out 0).trans rfl⟩ (fun hHeld => ?_)
          clear hK K
          refine norm_ (a' := ?_) ?_ ?_
          rotate_left
          · show Act.put _ (some 37) _ = _
            simp only [Act.put, List.setIfInBounds_toArray, List.set_cons_zero, List.set_cons_succ, i64_w, i32_w]
            rfl
          refine one_ (i := 3) (N := some 38) #[true, true, true, true, false] rfl rfl (by kernel_rfl) (by decide) (fun K hK => ?_)
          refine goes_ Try.func37 (by kernel_rfl) rfl #[.agg #[.slice Ao114 t111.length co114], .agg #[.slice Ao123 t119.length co123]] (by rfl) rfl rfl (by (try simp only [List.map_toArray, List.map_cons, List.map_nil]); first | done | rfl | (simp only [List.length_drop, List.length_take]; rfl)) ?_
          with_reducible refine (laws_eqMillPlace.calls k _ _ t111 _ _ t119 false _ ?side1 ?side2 ?side3 ?side4 A42.out).mono ?_
          (case side1 => repeat (first | exact (Kd.R_reads' HO113.out).2.2 | (with_reducible refine Kd.C_alloc ?_ _) | (with_reducible refine Kd.C_drewN ?_ _) | (with_reducible refine Kd.C_drew ?_)))
          (case side2 => exact (Kd.R_reads' HO113.out).2.1)
          (case side3 => repeat (first | exact (Kd.R_reads' HO121.out).2.2 | (with_reducible refine Kd.C_alloc ?_ _) | (with_reducible refine Kd.C_drewN ?_ _) | (with_reducible refine Kd.C_drew ?_)))
          (case side4 => exact (Kd.R_reads' HO121.out).2.1)
          rintro e w124 ⟨rfl, hb⟩
          refine ⟨_, rfl, ?_⟩
          have n0_ := Aside0.mk (Kd.R_below (by (with_reducible repeat (first | apply Kd.R_alloc | apply Kd.R_drewN | apply Kd.R_drew)); exact HO106.out) hb)
          have n1_ := Aside0.mk (Kd.R_below (by (with_reducible repeat (first | apply Kd.R_alloc | apply Kd.R_drewN | apply Kd.R_drew)); exact HO109.out) hb)
          have n2_ := Aside0.mk (Kd.R_below (by (with_reducible repeat (first | apply Kd.R_alloc | apply Kd.R_drewN | apply Kd.R_drew)); exact HO113.out) hb)
          have n3_ := Aside0.mk (Kd.R_below (by (with_reducible repeat (first | apply Kd.R_alloc | apply Kd.R_drewN | apply Kd.R_drew)); exact HO117.out) hb)
          have n4_ := Aside0.mk (Kd.R_below (by (with_reducible repeat (first | apply Kd.R_alloc | apply Kd.R_drewN | apply Kd.R_drew)); exact HO121.out) hb)
          have n5_ := kB BK101 hb
          have n6_ := kB BK114 hb
          have n7_ := kS HB hb
          clear HO106
          clear HO109
          clear HO113
          clear HO117
          clear HO121
          clear BK101
          clear BK114
          clear HB
          have HO106 := n0_
          have HO109 := n1_
          have HO113 := n2_
          have HO117 := n3_
          have HO121 := n4_
          have BK101 := n5_
          have BK114 := n6_
          have HB := n7_
          clear n0_ n1_ n2_ n3_ n4_ n5_ n6_ n7_
          (try clear hb)
          (try clear hb2)
          (try clear hk)
          (try clear hi)
          refine hK.out _ _ ⟨(blk_cell BK114.out 0).trans rfl, (blk_cell BK101.out 0).trans rfl⟩ (fun hHeld => ?_)
          clear hK K
          refine norm_ (a' := ?_) ?_ ?_
          rotate_left
          · show Act.put _ (some 38) _ = _
            simp only [Act.put, List.setIfInBounds_toArray, List.set_cons_zero, List.set_cons_succ, i64_w, i32_w]
            rfl
          refine pure_ (i := 4) (N := some 39) (v := ?_) (a' := ?_) #[true, true, true, true, true] rfl rfl (by kernel_rfl) (fun _ _ _ h => h) (Or.inl ⟨by rfl, ?_⟩) ?_ ?_
          rotate_left
          · intro w'
            go_simp
            with_reducible rfl
          rotate_left
          · simp only [Act.put, List.setIfInBounds_toArray, List.set_cons_zero, List.set_cons_succ, i64_w, i32_w]
            rfl
          refine done_ (by kernel_rfl) ?_
          try go_wp2
          go_ret
          exact ⟨by first | rfl | (simp [errW_none, errW_some] <;> rfl) | (simp [*, errW_none, errW_some] <;> rfl), kb HB⟩
end Go.Proofs.Ytdpdpigaegabbaa.Q
end
section
namespace Go.Proofs.Ytdpdpigaegabbaa.Opens
open Go.RowKit Go.ChangeShapes Go.WideShapes Go.Proofs.YtdpdpigaegabbaaW.PrintWords
set_option linter.unusedVariables false
theorem mapM_get {α β : Type} {f : α → Option β} : ∀ {l : List α} {r : List β}, l.mapM f = some r → ∀ (i : Nat) (x : α), l[i]? = some x → f x = r[i]?
  | [], r, h, i, x, hx => by simp at hx
  | a :: l, r, h, i, x, hx => by
    rw [List.mapM_cons] at h
    cases ha : f a with
    | none => rw [ha] at h; simp at h
    | some b =>
      cases hl : l.mapM f with
      | none => rw [ha, hl] at h; simp at h
      | some rs =>
        rw [ha, hl] at h
        simp at h
        subst h
        cases i with
        | zero => simp at hx; subst hx; simpa using ha
        | succ i => simp at hx ⊢; exact mapM_get hl i x hx
theorem mapM_len {α β : Type} {f : α → Option β} : ∀ {l : List α} {r : List β}, l.mapM f = some r → r.length = l.length
  | [], r, h => by simp at h; subst h; rfl
  | a :: l, r, h => by
    rw [List.mapM_cons] at h
    cases ha : f a with
    | none => rw [ha] at h; simp at h
    | some b =>
      cases hl : l.mapM f with
      | none => rw [ha, hl] at h; simp at h
      | some rs =>
        rw [ha, hl] at h
        simp at h
        subst h
        simp [mapM_len hl]
theorem cells_get {w : World} {base : Nat} {a : Addr} {n : Nat} {cs : List Value} (h : w.cells? base a n = some cs) : cs.length = n ∧ ∀ (i : Nat) (u : Value), cs[i]? = some u → w.cell? (a.add i) = some u := by
  unfold World.cells? at h
  split at h
  · refine ⟨by rw [mapM_len h, List.length_range], fun i u hu => ?_⟩
    have hi : i < n := by
      have := mapM_len h
      rw [List.length_range] at this
      obtain ⟨hl, _⟩ := List.getElem?_eq_some_iff.1 hu
      omega
    exact (mapM_get h i i (by simp [hi])).trans hu
  · simp at h
theorem add_two (a : Addr) (m i : Nat) : (a.add m).add i = a.add (m + i) := by
  unfold Addr.add
  by_cases h : m = 0 <;> by_cases h2 : i = 0 <;> simp [h, h2, Nat.add_assoc]
def Opens (P : Program) (t : TypeId) {α : Type} (d : Kd α) (G : α → Prop) : Prop :=
  ∀ (H : Type) (enc : TypeId × Value → H) (W : World) (fuel : Nat) (cs : List Value) (D : DataW H) (ps : List MemPlace),
    DataW.trod enc P W 0 (fun _ => true) true fuel t cs = some (D, ps) → (∀ n ∈ D.weights P t, n ≤ reachBytes) → ∃ x : α, d.K W x cs ∧ G x
theorem of_int {P : Program} {t : TypeId} {k : IntKind} (hu : P.underlying t = some (.int k)) : Opens P t (Kd.int k) (fun n => (Lit.int k n).wf = true) := by
  intro H enc W fuel cs D ps h hw
  obtain ⟨n, rfl, _, hn⟩ := DataW.trod_int hu h
  exact ⟨n, rfl, hn⟩
theorem of_string {P : Program} {t : TypeId} (hu : P.underlying t = some .string) : Opens P t Kd.string (fun s => s.size ≤ 140737488351232) := by
  intro H enc W fuel cs D ps h hw
  obtain ⟨s, rfl, hx, _⟩ := DataW.trod_string hu h
  obtain ⟨hx, _⟩ := Prod.mk.inj hx
  subst hx
  refine ⟨s, rfl, ?_⟩
  have z := hw s.data.toList.length (by simp [DataW.weights])
  rw [Array.length_toList] at z
  exact z
theorem of_iso {P : Program} {t : TypeId} {α β : Type} {d : Kd α} {G : α → Prop} (f : β → α) (g : α → β) (hfg : ∀ a, f (g a) = a) (h : Opens P t d G) : Opens P t (Kd.iso d f) (fun x => G (f x)) := by
  intro H enc W fuel cs D ps h1 hw
  obtain ⟨x, hk, hg⟩ := h H enc W fuel cs D ps h1 hw
  refine ⟨g x, ?_, ?_⟩
  · show d.K W (f (g x)) cs
    rw [hfg]; exact hk
  · show G (f (g x))
    rw [hfg]; exact hg
theorem weights_all {H : Type} {P : Program} {e : TypeId} : ∀ {l : List (DataW H)} {i : Nat} {x : DataW H}, l[i]? = some x → ∀ n ∈ x.weights P e, n ∈ DataW.weightsAll P e l
  | [], i, x, h, n, hn => by simp at h
  | a :: l, 0, x, h, n, hn => by
    simp at h; subst h
    simp only [DataW.weightsAll, List.mem_append]
    exact .inl hn
  | a :: l, i + 1, x, h, n, hn => by
    simp at h
    simp only [DataW.weightsAll, List.mem_append]
    exact .inr (weights_all h n hn)
theorem build {α : Type} (Q : Nat → α → Prop) : ∀ n : Nat, (∀ i, i < n → ∃ x, Q i x) → ∃ l : List α, l.length = n ∧ ∀ i x, l[i]? = some x → Q i x
  | 0, _ => ⟨[], rfl, fun i x h => by simp at h⟩
  | n + 1, h => by
    obtain ⟨l, hl, hq⟩ := build Q n (fun i hi => h i (by omega))
    obtain ⟨x, hx⟩ := h n (by omega)
    refine ⟨l ++ [x], by simp [hl], fun i y hy => ?_⟩
    rcases Nat.lt_or_ge i n with hi | hi
    · rw [List.getElem?_append_left (by omega)] at hy
      exact hq i y hy
    · obtain ⟨hlt, _⟩ := List.getElem?_eq_some_iff.1 hy
      have : i = n := by simp [hl] at hlt; omega
      subst this
      rw [List.getElem?_append_right (by omega), hl] at hy
      simp at hy
      subst hy
      exact hx
theorem of_slice {P : Program} {t e : TypeId} {α : Type} {d : Kd α} {G : α → Prop} {B : Nat} (hu : P.underlying t = some (.slice e)) (hc : P.cellsOf e = d.sz) (hB : P.bytesOf e = B) (h : Opens P e d G) :
    Opens P t (Kd.slice e d) (fun l => (l.length * B ≤ 140737488351232 ∧ l.length ≤ maxLen) ∧ ∀ x ∈ l, G x) := by
  intro H enc W fuel cs D ps h1 hw
  rcases DataW.trod_slice hu h1 with ⟨rfl, hx⟩ | ⟨a, len, cap, elems, rest, n, _, rfl, hx, _, hl, hm, hlen, hel, _, _⟩
  · exact ⟨[], ⟨none, 0, rfl, Nat.le_refl _, rfl, by simp, fun h => absurd h (Nat.lt_irrefl _)⟩, ⟨by simp, by simp⟩, fun x hx => by simp at hx⟩
  · obtain ⟨hx, _⟩ := Prod.mk.inj hx
    subst hx
    have hw2 : ∀ m ∈ DataW.weightsAll P e (elems.map (·.1)), m ≤ reachBytes := fun m hm => hw m (by simp [DataW.weights, hu, hm])
    have key : ∀ i, i < len → ∃ x, G x ∧ ∃ c, W.cells? 0 (a.add (i * P.cellsOf e)) (P.cellsOf e) = some c ∧ d.K W x c := by
      intro i hi
      have h2 := hel i hi
      obtain ⟨y, hy⟩ : ∃ y, elems[i]? = some y := ⟨_, List.getElem?_eq_getElem (by omega)⟩
      rw [hy] at h2
      obtain ⟨c, hc1, hc2⟩ := Option.bind_eq_some_iff.1 h2
      obtain ⟨x, hk, hg⟩ := h H enc W n c y.1 y.2 hc2 (fun m hm => hw2 m (weights_all (i := i) (x := y.1) (by simp [hy]) m hm))
      exact ⟨x, hg, c, hc1, hk⟩
    obtain ⟨l, hll, hq⟩ := build _ len key
    have hlen2 : len ≤ maxLen := Nat.le_trans hl hm
    have hsz : len * B ≤ 140737488351232 := by
      have z := hw ((elems.map (·.1)).length + (rest.map (·.1)).length |> (· * P.bytesOf e)) (by simp [DataW.weights, hu])
      simp only [List.length_map, hlen, hB] at z
      exact Nat.le_trans (Nat.mul_le_mul_right _ (Nat.le_add_right _ _)) z
    refine ⟨l, ⟨some a, cap, by rw [hll], by omega, rfl, ?_, fun _ => ⟨a, rfl, fun j p hp => ?_⟩⟩, ⟨by rw [hll]; exact hsz, by rw [hll]; exact hlen2⟩, fun x hx => ?_⟩
    · rw [hll]; exact hlen2
    · obtain ⟨_, c, hc1, hk⟩ := hq j p hp
      obtain ⟨hcl, hcc⟩ := cells_get hc1
      refine ⟨c, by rw [hcl, hc], hk, fun i u hu2 => ?_⟩
      have := hcc i u hu2
      rw [hc] at this
      rwa [add_two] at this
    · obtain ⟨i, hi⟩ := List.getElem?_of_mem hx
      exact (hq i x hi).1
def OpensF (P : Program) (fs : List Field) (off : Nat) {α : Type} (d : Kd α) (G : α → Prop) : Prop :=
  ∀ (H : Type) (enc : TypeId × Value → H) (W : World) (fuel : Nat) (cs : List Value) (xs : List (DataW H × List MemPlace)), cs.length = off + d.sz → xs.length = fs.length →
    (∀ (i : Nat) (f : Field), fs[i]? = some f → DataW.trod enc P W 0 (fun _ => true) true fuel f.type ((cs.drop f.offset).take (P.cellsOf f.type)) = xs[i]?) →
    (∀ n ∈ DataW.weightsEach P (fs.map (·.type)) (xs.map (·.1)), n ≤ reachBytes) → ∃ x : α, d.K W x (cs.drop off) ∧ G x
theorem fields_one {P : Program} {f : Field} {off : Nat} {α : Type} {d : Kd α} {G : α → Prop} (ho : f.offset = off) (hc : P.cellsOf f.type = d.sz) (h : Opens P f.type d G) : OpensF P [f] off d G := by
  intro H enc W fuel cs xs hl hx hf hw
  have h0 := hf 0 f rfl
  obtain ⟨y, rfl⟩ : ∃ y, xs = [y] := by
    cases xs with
    | nil => simp at hx
    | cons y ys => cases ys with
      | nil => exact ⟨y, rfl⟩
      | cons _ _ => simp at hx
  simp only [List.getElem?_cons_zero] at h0
  rw [ho, hc, List.take_of_length_le (by simp; omega)] at h0
  exact h H enc W fuel _ y.1 y.2 h0 (fun n hn => hw n (by simpa [DataW.weightsEach] using hn))
theorem fields_cons {P : Program} {f : Field} {fs : List Field} {off : Nat} {α β : Type} {d : Kd α} {d2 : Kd β} {G : α → Prop} {G2 : β → Prop} (ho : f.offset = off) (hc : P.cellsOf f.type = d.sz) (h : Opens P f.type d G) (h2 : OpensF P fs (off + d.sz) d2 G2) :
    OpensF P (f :: fs) off (Kd.pair d d2) (fun x => G x.1 ∧ G2 x.2) := by
  intro H enc W fuel cs xs hl hx hf hw
  have hl' : cs.length = off + (d.sz + d2.sz) := hl
  have h0 := hf 0 f rfl
  obtain ⟨y, ys, rfl⟩ : ∃ y ys, xs = y :: ys := by
    cases xs with
    | nil => simp at hx
    | cons y ys => exact ⟨y, ys, rfl⟩
  simp only [List.getElem?_cons_zero] at h0
  rw [ho, hc] at h0
  obtain ⟨a, ha, ga⟩ := h H enc W fuel _ y.1 y.2 h0 (fun n hn => hw n (by simp only [List.map_cons, DataW.weightsEach, List.mem_append]; exact .inl hn))
  obtain ⟨b, hb, gb⟩ := h2 H enc W fuel cs ys (by omega) (by simpa using hx) (fun i g hg => by simpa using hf (i + 1) g (by simpa using hg)) (fun n hn => hw n (by simp only [List.map_cons, DataW.weightsEach, List.mem_append]; exact .inr hn))
  refine ⟨(a, b), ⟨(cs.drop off).take d.sz, cs.drop (off + d.sz), ?_, ha, hb⟩, ga, gb⟩
  rw [← List.drop_drop, List.take_append_drop]
theorem of_struct {P : Program} {t : TypeId} {fs : Array Field} {α : Type} {d : Kd α} {G : α → Prop} (hu : P.underlying t = some (.struct fs)) (hc : P.cellsOf t = d.sz) (h : OpensF P fs.toList 0 d G) : Opens P t d G := by
  intro H enc W fuel cs D ps h1 hw
  obtain ⟨xs, n, _, hx, hl, hlen, hf⟩ := DataW.trod_struct hu h1
  obtain ⟨hx, _⟩ := Prod.mk.inj hx
  subst hx
  obtain ⟨x, hk, hg⟩ := h H enc W n cs xs (by omega) (by simpa using hlen) (fun i f hf2 => hf i f (by simpa using hf2)) (fun m hm => hw m (by simp only [DataW.weights, hu]; exact hm))
  exact ⟨x, by simpa using hk, hg⟩
theorem Opens.arg {P : Program} {t : TypeId} {α : Type} {d : Kd α} {G : α → Prop} (h : Opens P t d G) {H : Type} {enc : TypeId × Value → H} {W : World} {v : Value} {D : DataW H} {ps : List MemPlace} {ts : List TypeId} {ds : List (DataW H)} {j : Nat}
    (hsz : (DataW.weightsEach P ts ds).all (· ≤ reachBytes) = true) (ht : ts[j]? = some t) (hd : ds[j]? = some D) (hT : DataW.Trod enc P W 0 (fun _ => true) true t v D ps) : ∃ x : α, d.K W x v.cells.toList ∧ G x := by
  obtain ⟨fuel, hf⟩ := hT
  exact h H enc W fuel _ D ps hf (fun n hn => by simpa using List.all_eq_true.1 hsz _ (DataW.weights_mem_each ht hd n hn))
end Go.Proofs.Ytdpdpigaegabbaa.Opens
end
section
namespace Go.Proofs.Ytdpdpigaegabbaa.Ord
open Go.RowKit Go.Proofs.Ytdpdpigaegabbaa.Mine
theorem less_trans : ∀ a b c : List UInt8, Op.bytesLess a b = true → Op.bytesLess b c = true → Op.bytesLess a c = true
  | _, [], _, h, _ => by simp [Op.bytesLess] at h
  | _, _ :: _, [], _, h => by simp [Op.bytesLess] at h
  | [], _ :: _, _ :: _, _, _ => by simp [Op.bytesLess]
  | a :: x, b :: y, c :: z, h, k => by
    simp only [Op.bytesLess, Bool.or_eq_true, Bool.and_eq_true, decide_eq_true_eq, beq_iff_eq] at h k ⊢
    rcases h with h | ⟨rfl, h⟩
    · rcases k with k | ⟨rfl, k⟩
      · exact .inl (UInt8.lt_trans h k)
      · exact .inl h
    · rcases k with k | ⟨rfl, k⟩
      · exact .inl k
      · exact .inr ⟨rfl, less_trans x y z h k⟩
theorem cmp_neg : ∀ a b : List UInt8, Lib.compareBytes a b < 0 ↔ Op.bytesLess a b = true
  | [], [] => by simp [Lib.compareBytes, Op.bytesLess]
  | [], _ :: _ => by simp [Lib.compareBytes, Op.bytesLess]
  | _ :: _, [] => by simp [Lib.compareBytes, Op.bytesLess]
  | a :: x, b :: y => by
    simp only [Lib.compareBytes, Op.bytesLess, Bool.or_eq_true, Bool.and_eq_true, decide_eq_true_eq, beq_iff_eq]
    by_cases h : a < b
    · simp [h]
    · by_cases k : b < a
      · have : ¬ a = b := fun e => by subst e; exact h k
        simp [h, k, this]
      · have : a = b := by
          rw [UInt8.lt_iff_toNat_lt] at h k
          exact UInt8.toNat_inj.1 (by omega)
        subst this
        simp [h, cmp_neg x y]
theorem cmp_zero : ∀ a b : List UInt8, Lib.compareBytes a b = 0 ↔ a = b
  | [], [] => by simp [Lib.compareBytes]
  | [], _ :: _ => by simp [Lib.compareBytes]
  | _ :: _, [] => by simp [Lib.compareBytes]
  | a :: x, b :: y => by
    simp only [Lib.compareBytes]
    by_cases h : a < b
    · have : ¬ a = b := fun e => by subst e; exact UInt8.lt_irrefl _ h
      simp [h, this]
    · by_cases k : b < a
      · have : ¬ a = b := fun e => by subst e; exact h k
        simp [h, k, this]
      · have : a = b := by
          rw [UInt8.lt_iff_toNat_lt] at h k
          exact UInt8.toNat_inj.1 (by omega)
        subst this
        simp [h, cmp_zero x y]
end Go.Proofs.Ytdpdpigaegabbaa.Ord
end
section
namespace Go.Proofs.Ytdpdpigaegabbaa.EvMore
open Go.RowKit Go.Proofs.YtdpdpigaegabbaaW.PrintWords
theorem ev_pos {α : Type} {c : Prop} [Decidable c] {f g : Nat → Option α} {r : α} (h : c) (k : Ev f r) : Ev (fun n => if c then f n else g n) r := by
  simp only [if_pos h]; exact k
theorem ev_neg {α : Type} {c : Prop} [Decidable c] {f g : Nat → Option α} {r : α} (h : ¬ c) (k : Ev g r) : Ev (fun n => if c then f n else g n) r := by
  simp only [if_neg h]; exact k
theorem ev_val {α β : Type} {o : Option α} {a : α} {f : Nat → α → Option β} {r : β} (h : o = some a) (k : Ev (fun n => f n a) r) : Ev (fun n => o.bind (f n)) r := by
  subst h; simpa using k
theorem ev_bind {α β : Type} {g : Nat → Option α} {f : Nat → α → Option β} {a : α} {r : β} (h : Ev g a) (k : Ev (fun n => f n a) r) : Ev (fun n => (g n).bind (f n)) r := Ev.bind h k
theorem ev_now {α : Type} (r : α) : Ev (fun _ => some r) r := Ev.now r
theorem ev_eq {α : Type} {f : Nat → Option α} {r q : α} (h : Ev f r) (e : r = q) : Ev f q := e ▸ h
theorem ev_step {α : Type} {g : Nat → Option α} {r : α} (k : Ev (fun n => g (n + 1)) r) : Ev g r := Ev.step (f := fun n => g (n + 1)) (fun _ => rfl) k
theorem ev_uniq {α : Type} {g : Nat → Option α} {r q : α} (h : Ev g r) (h2 : Ev g q) : r = q := by
  obtain ⟨K, hK⟩ := h
  obtain ⟨L, hL⟩ := h2
  have a := hK (K + L) (by omega)
  have b := hL (K + L) (by omega)
  exact Option.some.inj (a.symm.trans b)
theorem succ64 {i n : Nat} (h : i < n) (hn : n ≤ 9223372036854775807) : wrap64 ((i : Int) + 1) = ((i + 1 : Nat) : Int) := by
  unfold wrap64; omega
theorem pred64 {i : Nat} (h : 0 < i) (hn : i ≤ 9223372036854775807) : wrap64 ((i : Int) - 1) = ((i - 1 : Nat) : Int) := by
  unfold wrap64; omega
theorem set_map {α β : Type} (f : α → β) (l : List α) (z : β) (i : Nat) (h : i < l.length) :
    ((l.take i).map f ++ List.replicate (l.length - i) z).set i (f l[i]) = (l.take (i + 1)).map f ++ List.replicate (l.length - (i + 1)) z := by
  have e : l.length - i = (l.length - (i + 1)) + 1 := by omega
  rw [List.set_append_right _ _ (by simp; omega), e, List.replicate_succ]
  have hl : i - ((l.take i).map f).length = 0 := by simp; omega
  rw [hl, List.set_cons_zero, List.take_succ_eq_append_getElem h, List.map_append, List.append_assoc]
  rfl
end Go.Proofs.Ytdpdpigaegabbaa.EvMore
end
section
namespace Go.Proofs.Ytdpdpigaegabbaa.Q
open Go.RowKit Go.Proofs.YtdpdpigaegabbaaW.PrintWords Go.Proofs.YtdpdpigaegabbaaW.PrintLast Go.Proofs.YtdpdpigaegabbaaW.PrintMore Go.Proofs.Ytdpdpigaegabbaa.EvMore
set_option linter.unusedVariables false
set_option linter.unusedSimpArgs false
theorem path_loops (s : ByteArray) (hs : s.size ≤ 140737488351232) : ∀ d i : Nat, i + d = s.size →
    ∃ b : Bool, Ev (fun k => spec_l15PrefixOk.l0 k s (i : Int)) b ∧ Ev (fun k => impl_listName.l0 k s (i : Int)) (b && decide ((s.size : Int) ≤ 60))
  | 0, i, h => by
    refine ⟨true, ev_step ?_, ev_step ?_⟩
    · exact ev_neg (by omega) (ev_now _)
    · exact ev_neg (by omega) (ev_eq (ev_now _) (by simp))
  | d + 1, i, h => by
    obtain ⟨b, h1, h2⟩ := path_loops s hs d (i + 1) (by omega)
    have e := succ64 (i := i) (n := s.size) (by omega) (by omega)
    by_cases c1 : bt s (i : Int) < 33
    · exact ⟨false, ev_step (ev_pos (by omega) (ev_pos (by omega) (ev_pos c1 (ev_now _)))), ev_step (ev_pos (by omega) (ev_pos (by omega) (ev_pos c1 (ev_now _))))⟩
    · by_cases c2 : bt s (i : Int) > 126
      · exact ⟨false, ev_step (ev_pos (by omega) (ev_pos (by omega) (ev_neg c1 (ev_pos c2 (ev_now _))))), ev_step (ev_pos (by omega) (ev_pos (by omega) (ev_neg c1 (ev_pos c2 (ev_now _)))))⟩
      · refine ⟨b, ev_step (ev_pos (by omega) (ev_pos (by omega) (ev_neg c1 (ev_neg c2 ?_)))), ev_step (ev_pos (by omega) (ev_pos (by omega) (ev_neg c1 (ev_neg c2 ?_))))⟩
        · simp only [e]; exact h1
        · simp only [e]; exact h2
theorem path_ev (s : ByteArray) (hs : s.size ≤ 140737488351232) : ∃ b : Bool, Ev (fun k => spec_l15PathOk.f k s) b ∧ Ev (fun k => impl_fileName.f k s) b := by
  obtain ⟨b, h1, h2⟩ := path_loops s hs s.size 0 (by omega)
  by_cases c : (s.size : Int) ≥ 1
  · refine ⟨b && decide ((s.size : Int) ≤ 60), ev_pos c (ev_bind (a := b && decide ((s.size : Int) ≤ 60)) ?_ (ev_now _)), ev_pos c (ev_bind h2 (ev_now _))⟩
    by_cases c2 : (s.size : Int) > 60
    · exact ev_pos c2 (ev_eq (ev_now _) (by simp; omega))
    · exact ev_neg c2 (ev_eq h1 (by simp; omega))
  · exact ⟨false, ev_neg c (ev_now _), ev_neg c (ev_now _)⟩
end Go.Proofs.Ytdpdpigaegabbaa.Q
end
section
namespace Go.Proofs.Ytdpdpigaegabbaa.Q
open Go.RowKit Go.Proofs.YtdpdpigaegabbaaW.PrintWords Go.Proofs.YtdpdpigaegabbaaW.PrintLast Go.Proofs.YtdpdpigaegabbaaW.PrintMore Go.Proofs.Ytdpdpigaegabbaa.EvMore
set_option linter.unusedVariables false
set_option linter.unusedSimpArgs false
theorem files_loops (l : List S102) (hl : l.length ≤ 4398046511104) (hs : ∀ x ∈ l, x.f0.size ≤ 140737488351232) (a1 : Int) : ∀ d i : Nat, i + d = l.length →
    ∃ b : Bool, Ev (fun k => spec_l18FilesOk.l0 k l (i : Int)) b ∧ Ev (fun k => impl_filesOK.l0 k l a1 l (l.length : Int) (i : Int)) (b && decide ((l.length : Int) ≤ a1))
  | 0, i, h => by
    refine ⟨true, ev_step ?_, ev_step ?_⟩
    · exact ev_neg (by omega) (ev_now _)
    · exact ev_neg (by omega) (ev_eq (ev_now _) (by simp))
  | d + 1, i, h => by
    obtain ⟨b, h1, h2⟩ := files_loops l hl hs a1 d (i + 1) (by omega)
    have e := succ64 (i := i) (n := l.length) (by omega) (by omega)
    have hm : rd_T102 l (i : Int) ∈ l := by unfold rd_T102; rw [Int.toNat_natCast, List.getD_eq_getElem?_getD, List.getElem?_eq_getElem (by omega)]; exact List.getElem_mem _
    obtain ⟨p, p1, p2⟩ := path_ev _ (hs _ hm)
    have lt : (i : Int) < (l.length : Int) := by omega
    have ge : (0 : Int) ≤ (i : Int) := by omega
    cases p with
    | false =>
      exact ⟨false, ev_step (ev_pos lt (ev_pos ge (ev_bind p1 (ev_neg (by simp) (ev_now _))))), ev_step (ev_pos lt (ev_pos ge (ev_pos lt (ev_bind p2 (ev_neg (by simp) (ev_now _))))))⟩
    | true =>
      by_cases c1 : ((rd_T102 l (i : Int)).f1.size : Int) > 3000
      · refine ⟨false, ev_step (ev_pos lt (ev_pos ge (ev_bind p1 (ev_pos rfl (ev_pos c1 (ev_now _)))))), ev_step (ev_pos lt (ev_pos ge (ev_pos lt (ev_bind p2 (ev_pos rfl (ev_val (a := false) ?_ (ev_neg (by simp) (ev_now _))))))))⟩
        simp [impl_short.f]; omega
      · have hsh : impl_short.f (rd_T102 l (i : Int)).f1 = some true := by simp [impl_short.f]; omega
        by_cases c2 : (i : Int) > 0
        · have ep := pred64 (i := i) (by omega) (by omega)
          by_cases c3 : Op.bytesLess (rd_T102 l (wrap64 ((i : Int) - 1))).f0.toList (rd_T102 l (i : Int)).f0.toList = true
          · refine ⟨b, ev_step (ev_pos lt (ev_pos ge (ev_bind p1 (ev_pos rfl (ev_neg c1 (ev_pos c2 (ev_pos (by rw [ep]; omega) (ev_pos (by rw [ep]; omega) (ev_pos c3 ?_))))))))), ev_step (ev_pos lt (ev_pos ge (ev_pos lt (ev_bind p2 (ev_pos rfl (ev_val hsh (ev_pos rfl (ev_pos c2 (ev_pos (by rw [ep]; omega) (ev_pos (by rw [ep]; omega) (ev_pos c3 ?_)))))))))))⟩
            · simp only [e]; exact h1
            · simp only [e]; exact h2
          · exact ⟨false, ev_step (ev_pos lt (ev_pos ge (ev_bind p1 (ev_pos rfl (ev_neg c1 (ev_pos c2 (ev_pos (by rw [ep]; omega) (ev_pos (by rw [ep]; omega) (ev_neg c3 (ev_now _)))))))))), ev_step (ev_pos lt (ev_pos ge (ev_pos lt (ev_bind p2 (ev_pos rfl (ev_val hsh (ev_pos rfl (ev_pos c2 (ev_pos (by rw [ep]; omega) (ev_pos (by rw [ep]; omega) (ev_neg c3 (ev_now _))))))))))))⟩
        · refine ⟨b, ev_step (ev_pos lt (ev_pos ge (ev_bind p1 (ev_pos rfl (ev_neg c1 (ev_neg c2 ?_)))))), ev_step (ev_pos lt (ev_pos ge (ev_pos lt (ev_bind p2 (ev_pos rfl (ev_val hsh (ev_pos rfl (ev_neg c2 ?_))))))))⟩
          · simp only [e]; exact h1
          · simp only [e]; exact h2
theorem files_ev (l : List S102) (hl : l.length ≤ 4398046511104) (hs : ∀ x ∈ l, x.f0.size ≤ 140737488351232) (a1 : Int) :
    ∃ b : Bool, Ev (fun k => spec_l18FilesOk.f k l a1) b ∧ Ev (fun k => impl_filesOK.f k l a1) b := by
  obtain ⟨b, h1, h2⟩ := files_loops l hl hs a1 l.length 0 (by omega)
  refine ⟨b && decide ((l.length : Int) ≤ a1), ?_, h2⟩
  by_cases c : (l.length : Int) > a1
  · exact ev_pos c (ev_eq (ev_now _) (by simp; omega))
  · exact ev_neg c (ev_eq h1 (by simp; omega))
theorem place_ev (l : List S102) (hl : l.length ≤ 4398046511104) (hs : ∀ x ∈ l, x.f0.size ≤ 140737488351232) :
    ∃ b : Bool, Ev (fun k => spec_MillValidPlace.f k l) b ∧ Ev (fun k => impl_MillValidPlace.f k l) b := by
  obtain ⟨b, h1, h2⟩ := files_ev l hl hs 40
  exact ⟨b, ev_bind h1 (ev_now _), ev_bind h2 (ev_now _)⟩
theorem szFiles_loop (l : List S130) (hl : l.length ≤ 4398046511104) : ∀ d i : Nat, i + d = l.length → ∀ left : Int, ∃ v, Ev (fun k => laws_szMillFileS.l0 k l left (i : Int)) v
  | 0, i, h, left => ⟨left, ev_step (ev_neg (by omega) (ev_now _))⟩
  | d + 1, i, h, left => by
    have e := succ64 (i := i) (n := l.length) (by omega) (by omega)
    obtain ⟨a, ha⟩ : ∃ a, laws_szMillFile.f (rd_T130 l (i : Int)).f0 (rd_T130 l (i : Int)).f1 left = some a := by
      unfold laws_szMillFile.f; split
      · exact ⟨_, rfl⟩
      · split <;> exact ⟨_, rfl⟩
    by_cases c : a < 0
    · exact ⟨-1, ev_step (ev_pos (by omega) (ev_pos (by omega) (ev_val ha (ev_pos c (ev_now _)))))⟩
    · obtain ⟨v, hv⟩ := szFiles_loop l hl d (i + 1) (by omega) a
      refine ⟨v, ev_step (ev_pos (by omega) (ev_pos (by omega) (ev_val ha (ev_neg c ?_))))⟩
      simp only [e]; exact hv
theorem szFiles_ev (l : List S130) (hl : l.length ≤ 4398046511104) (left : Int) : ∃ v, Ev (fun k => laws_szMillFileS.f k l left) v := by
  by_cases c : wrap64 (left - (l.length : Int)) < 0
  · exact ⟨_, ev_pos c (ev_now _)⟩
  · obtain ⟨v, hv⟩ := szFiles_loop l hl l.length 0 (by omega) (wrap64 (left - (l.length : Int)))
    exact ⟨v, ev_neg c hv⟩
theorem szPlace_ev (l : List S130) (hl : l.length ≤ 4398046511104) (left : Int) : ∃ v, Ev (fun k => laws_szMillPlace.f k l left) v := by
  obtain ⟨v, hv⟩ := szFiles_ev l hl left
  by_cases c : v < 0
  · exact ⟨_, ev_bind hv (ev_pos c (ev_now _))⟩
  · exact ⟨_, ev_bind hv (ev_neg c (ev_now _))⟩
def toFile (x : S130) : S102 := ⟨x.f0, x.f1⟩
theorem toFiles_loop (l : List S130) (hl : l.length ≤ 4398046511104) : ∀ d i : Nat, i + d = l.length →
    Ev (fun k => laws_toMillFileS.l0 k l ((l.take i).map toFile ++ List.replicate (l.length - i) z102) (i : Int)) (l.map toFile)
  | 0, i, h => by
    refine ev_step (ev_neg (by omega) (ev_eq (ev_now _) ?_))
    have : i = l.length := by omega
    subst this; simp
  | d + 1, i, h => by
    have e := succ64 (i := i) (n := l.length) (by omega) (by omega)
    have hi : i < l.length := by omega
    have hr : rd_T130 l (i : Int) = l[i] := by unfold rd_T130; rw [Int.toNat_natCast, List.getD_eq_getElem?_getD, List.getElem?_eq_getElem hi]; rfl
    refine ev_step (ev_pos (by omega) (ev_pos (by omega) (ev_val rfl (ev_pos (by simp; omega) ?_))))
    have ih := toFiles_loop l hl d (i + 1) (by omega)
    rw [← set_map toFile l _ i hi] at ih
    simp only [e, hr, Int.toNat_natCast]; exact ih
theorem toFiles_ev (l : List S130) (hl : l.length ≤ 4398046511104) : Ev (fun k => laws_toMillFileS.f k l) (l.map toFile) := by
  refine ev_pos (by omega) (ev_pos (by omega) ?_)
  have h := toFiles_loop l hl l.length 0 (by omega)
  simpa using h
theorem toPlace_ev (l : List S130) (hl : l.length ≤ 4398046511104) : Ev (fun k => laws_toMillPlace.f k l) (l.map toFile) := ev_bind (toFiles_ev l hl) (ev_now _)
theorem eqFiles_loop (l : List S102) (hl : l.length ≤ 4398046511104) : ∀ d i : Nat, i + d = l.length → Ev (fun k => laws_eqMillFileS.l0 k l l (i : Int)) true
  | 0, i, h => ev_step (ev_neg (by omega) (ev_now _))
  | d + 1, i, h => by
    have e := succ64 (i := i) (n := l.length) (by omega) (by omega)
    refine ev_step (ev_pos (by omega) (ev_pos (by omega) (ev_pos (by omega) (ev_val (a := true) (by simp [laws_eqMillFile.f]) (ev_pos rfl ?_)))))
    simp only [e]; exact eqFiles_loop l hl d (i + 1) (by omega)
theorem eqPlace_ev (l : List S102) (hl : l.length ≤ 4398046511104) : Ev (fun k => laws_eqMillPlace.f k l l) true :=
  ev_bind (ev_pos rfl (eqFiles_loop l hl l.length 0 (by omega))) (ev_pos rfl (ev_now _))
end Go.Proofs.Ytdpdpigaegabbaa.Q
end
section
namespace Go.Proofs.Ytdpdpigaegabbaa.Q
open Go.RowKit Go.Proofs.YtdpdpigaegabbaaW.PrintWords Go.Proofs.YtdpdpigaegabbaaW.PrintLast Go.Proofs.YtdpdpigaegabbaaW.PrintMore Go.Proofs.Ytdpdpigaegabbaa.Short
attribute [local go_sem] max2_int min2_int max_two min_two max_three min_three max_four min_four   
set_option linter.unusedVariables false
set_option linter.unusedSimpArgs false
def impl_MillSee.f (k : Nat) (l0_0 : List (S102)) (a1 : Int) (a2 : ByteArray) : Option (Int × ByteArray) := (impl_MillValidPlace.f k l0_0).bind fun t103 => (if t103 = true then ((impl_see.f k l0_0 a1 a2).bind fun bt104 => (some (bt104.1, bt104.2))) else (some (5, (⟨#[]⟩ : ByteArray))))
theorem impl_MillSee.mono : ∀ a0 a1 a2 k, LeO (impl_MillSee.f k a0 a1 a2) (impl_MillSee.f (k + 1) a0 a1 a2) := by
  intro a0 a1 a2 k
  unfold impl_MillSee.f
  repeat' first
      | (with_reducible exact impl_MillValidPlace.mono _ _)
      | (with_reducible exact impl_see.mono _ _ _ _)
      | (with_reducible exact LeO.refl _)
      | (with_reducible exact LeO.none _)
      | (with_reducible refine LeO.ite ?_ ?_)
      | (with_reducible refine LeO.bind ?_ (fun _ => ?_))
      | exact impl_MillValidPlace.mono _ _
      | exact impl_see.mono _ _ _ _
      | exact LeO.none _
      | refine LeO.ite ?_ ?_
      | refine LeO.bind ?_ (fun _ => ?_)
set_option maxHeartbeats 8000000 in
set_option maxRecDepth 100000 in
theorem impl_MillSee.calls (k : Nat) (A0_0 : Option Addr) (c0_0 : Nat) (l0_0 : List (S102)) (a1 : Int) (a2 : ByteArray) (r1 : Int) (r2 : ByteArray) (w : World) (hr0_0 : Kd.C k102 w A0_0 l0_0.length l0_0) (hc0_0 : l0_0.length ≤ c0_0) (h : impl_MillSee.f k l0_0 a1 a2 = some (r1, r2)) :
    Calls Try.prog 41 #[.agg #[.slice A0_0 l0_0.length c0_0], .int .i64 a1, .string a2] w fun e w' => e = .returned (.agg #[.int .i64 r1, .string r2]) ∧ Below w.heap.size w w' := by
  have hu59 := Try.underlying59
  have hu27 := Try.underlying27
  have HR0_0 := Aside0.mk hr0_0
  have HC0_0 := Aside0.mk hc0_0
  clear hr0_0 hc0_0
  have HB := Aside0.mk (Below.refl w.heap.size w)
  have H : ((impl_MillValidPlace.f k l0_0).bind fun t103 => (if t103 = true then ((impl_see.f k l0_0 a1 a2).bind fun bt104 => (some (bt104.1, bt104.2))) else (some (5, (⟨#[]⟩ : ByteArray))))) = some (r1, r2) := h
  clear h
  replace H := Option.bind_eq_some_iff.mp H
  obtain ⟨t103, A40, H⟩ := H
  replace H : (if t103 = true then ((impl_see.f k l0_0 a1 a2).bind fun bt104 => (some (bt104.1, bt104.2))) else (some (5, (⟨#[]⟩ : ByteArray)))) = some (r1, r2) := H
  have A4 := Aside0.mk A40
  clear A40
  by_cases c5 : t103 = true
  · subst c5
    have H1 : ((impl_see.f k l0_0 a1 a2).bind fun bt104 => (some (bt104.1, bt104.2))) = some (r1, r2) := by rw [if_pos rfl] at H; exact H
    clear H
    have H := H1
    clear H1
    replace H := Option.bind_eq_some_iff.mp H
    obtain ⟨⟨t104, t105⟩, A60, H⟩ := H
    replace H : (some (t104, t105)) = some (r1, r2) := H
    have A6 := Aside0.mk A60
    clear A60
    simp only [Option.some.injEq, Prod.mk.injEq] at H
    obtain ⟨rfl, rfl⟩ := H
    go_enter Try.func41, Try.ntmps41
    go_wp2_with (first | ((with_reducible refine gate_dst (N := 3) rfl ?_); refine gX 3 #[.slice A0_0 l0_0.length c0_0] 59 ?_; intro gb101 hg w7 hbox hb; have BK101 := Aside0.mk (hbox); have GW101 := gw hg (kb HB); have GE101 := gw hg (kb HB); replace HB := kS HB hb; clear hb hbox hg) | ((with_reducible refine gate_dst (N := 6) rfl ?_); refine gX 6 #[.int .i64 0, .string (⟨#[]⟩ : ByteArray)] 27 ?_; intro gb102 hg w8 hbox hb; have BK102 := Aside0.mk (hbox); have GW102 := gw hg (kb HB); have GE102 := gw hg (kb HB); have NB101_102 := nl hg (kp BK101); have NB102_101 := ng hg (kp BK101); replace BK101 := kB BK101 hb; replace HB := kS HB hb; clear hb hbox hg; have hnb9 := NB101_102.out; have hnc9 := NB102_101.out; obtain ⟨hcz10_0, hfz10_0⟩ := bf1 BK101) | ((with_reducible refine gate_callee (f := 36) rfl ?_); refine gL (some 8) Try.func36 #[.agg #[.slice A0_0 l0_0.length c0_0]] (impl_MillValidPlace.calls k _ _ l0_0 true _ ?side1 ?side2 A4.out) ?_; (case side1 => repeat (first | exact (Kd.C_below HR0_0.out HB.out) | (with_reducible refine Kd.C_alloc ?_ _) | (with_reducible refine Kd.C_drewN ?_ _) | (with_reducible refine Kd.C_drew ?_))); (case side2 => exact HC0_0.out); intro w11 hb; replace BK101 := kB BK101 hb; replace BK102 := kB BK102 hb; replace HB := kS HB hb; obtain ⟨hcz12_0, hfz12_0⟩ := bf1 BK101) | ((with_reducible refine gate_callee (f := 76) rfl ?_); refine gL (some 14) Try.func76 #[.agg #[.slice A0_0 l0_0.length c0_0], .int .i64 a1, .string a2] (impl_see.calls k _ _ l0_0 a1 a2 t104 t105 _ ?side1 ?side2 A6.out) ?_; (case side1 => repeat (first | exact (Kd.C_below HR0_0.out HB.out) | (with_reducible refine Kd.C_alloc ?_ _) | (with_reducible refine Kd.C_drewN ?_ _) | (with_reducible refine Kd.C_drew ?_))); (case side2 => exact HC0_0.out); intro w13 hb; replace BK101 := kB BK101 hb; replace BK102 := kB BK102 hb; replace HB := kS HB hb; obtain ⟨⟨hcz14_0, hcz14_1⟩, hfz14_0, hfz14_1⟩ := bf2 BK102))
    refine bodyPost_ret (results_cell_row rfl _ _ gb102 27 #[.int .i64 t104, .string t105] (0, 0) _ rfl (by (with_reducible repeat (first | refine blk_drewN ?_ _ | refine blk_drew ?_ | refine blk_alloc ?_ _)); refine blk_put (cs := #[.int .i64 t104, .string (⟨#[]⟩ : ByteArray)]) ?_ 1 _ rfl; (with_reducible repeat (first | refine blk_drewN ?_ _ | refine blk_drew ?_ | refine blk_alloc ?_ _)); refine blk_put (cs := #[.int .i64 0, .string (⟨#[]⟩ : ByteArray)]) ?_ 0 _ rfl; (with_reducible repeat (first | refine blk_drewN ?_ _ | refine blk_drew ?_ | refine blk_alloc ?_ _)); exact BK102.out) Try.underlying27 rfl (by kernel_rfl)) rfl ?_
    exact ⟨by first | rfl | (simp [errW_none, errW_some] <;> rfl) | (simp [*, errW_none, errW_some] <;> rfl), kb HB⟩
  · replace c5 := Bool.eq_false_iff.mpr c5
    subst c5
    have H1 : (some (5, (⟨#[]⟩ : ByteArray))) = some (r1, r2) := by rw [if_neg (show ¬ (false = true) by decide)] at H; exact H
    clear H
    have H := H1
    clear H1
    simp only [Option.some.injEq, Prod.mk.injEq] at H
    obtain ⟨rfl, rfl⟩ := H
    go_enter Try.func41, Try.ntmps41
    go_wp2_with (first | ((with_reducible refine gate_dst (N := 3) rfl ?_); refine gX 3 #[.slice A0_0 l0_0.length c0_0] 59 ?_; intro gb101 hg w15 hbox hb; have BK101 := Aside0.mk (hbox); have GW101 := gw hg (kb HB); have GE101 := gw hg (kb HB); replace HB := kS HB hb; clear hb hbox hg) | ((with_reducible refine gate_dst (N := 6) rfl ?_); refine gX 6 #[.int .i64 0, .string (⟨#[]⟩ : ByteArray)] 27 ?_; intro gb102 hg w16 hbox hb; have BK102 := Aside0.mk (hbox); have GW102 := gw hg (kb HB); have GE102 := gw hg (kb HB); have NB101_102 := nl hg (kp BK101); have NB102_101 := ng hg (kp BK101); replace BK101 := kB BK101 hb; replace HB := kS HB hb; clear hb hbox hg; have hnb17 := NB101_102.out; have hnc17 := NB102_101.out; obtain ⟨hcz18_0, hfz18_0⟩ := bf1 BK101) | ((with_reducible refine gate_callee (f := 36) rfl ?_); refine gL (some 8) Try.func36 #[.agg #[.slice A0_0 l0_0.length c0_0]] (impl_MillValidPlace.calls k _ _ l0_0 false _ ?side1 ?side2 A4.out) ?_; (case side1 => repeat (first | exact (Kd.C_below HR0_0.out HB.out) | (with_reducible refine Kd.C_alloc ?_ _) | (with_reducible refine Kd.C_drewN ?_ _) | (with_reducible refine Kd.C_drew ?_))); (case side2 => exact HC0_0.out); intro w19 hb; replace BK101 := kB BK101 hb; replace BK102 := kB BK102 hb; replace HB := kS HB hb; obtain ⟨⟨hcz20_0, hcz20_1⟩, hfz20_0, hfz20_1⟩ := bf2 BK102))
    refine bodyPost_ret (results_cell_row rfl _ _ gb102 27 #[.int .i64 5, .string (⟨#[]⟩ : ByteArray)] (0, 0) _ rfl (by (with_reducible repeat (first | refine blk_drewN ?_ _ | refine blk_drew ?_ | refine blk_alloc ?_ _)); refine blk_put (cs := #[.int .i64 5, .string (⟨#[]⟩ : ByteArray)]) ?_ 1 _ rfl; (with_reducible repeat (first | refine blk_drewN ?_ _ | refine blk_drew ?_ | refine blk_alloc ?_ _)); refine blk_put (cs := #[.int .i64 0, .string (⟨#[]⟩ : ByteArray)]) ?_ 0 _ rfl; (with_reducible repeat (first | refine blk_drewN ?_ _ | refine blk_drew ?_ | refine blk_alloc ?_ _)); exact BK102.out) Try.underlying27 rfl (by kernel_rfl)) rfl ?_
    exact ⟨by first | rfl | (simp [errW_none, errW_some] <;> rfl) | (simp [*, errW_none, errW_some] <;> rfl), kb HB⟩
end Go.Proofs.Ytdpdpigaegabbaa.Q
end
section
namespace Go.Proofs.Ytdpdpigaegabbaa.Q
open Go.RowKit Go.Proofs.YtdpdpigaegabbaaW.PrintWords Go.Proofs.YtdpdpigaegabbaaW.PrintLast Go.Proofs.YtdpdpigaegabbaaW.PrintMore Go.Proofs.Ytdpdpigaegabbaa.EvMore Go.Proofs.Ytdpdpigaegabbaa.Mine Go.Proofs.Ytdpdpigaegabbaa.Ord
set_option linter.unusedVariables false
set_option linter.unusedSimpArgs false
theorem toList_data (s : ByteArray) : s.toList = s.data.toList := by
  obtain ⟨⟨l⟩⟩ := s
  simp
theorem cmpB_neg (a b : ByteArray) : cmpB a b < 0 ↔ Op.bytesLess a.toList b.toList = true := by
  unfold cmpB; rw [cmp_neg, toList_data, toList_data]
theorem cmpB_zero (a b : ByteArray) : cmpB a b = 0 ↔ a.toList = b.toList := by
  unfold cmpB; rw [cmp_zero, toList_data, toList_data]
theorem path_small (s : ByteArray) (h : Ev (fun k => spec_l15PathOk.f k s) true) : s.size ≤ 60 := by
  rcases Nat.lt_or_ge 60 s.size with h2 | h2
  · have : Ev (fun k => spec_l15PathOk.f k s) false := ev_pos (by omega) (ev_bind (ev_pos (by omega) (ev_now _)) (ev_now _))
    exact absurd (ev_uniq h this) (by simp)
  · exact h2
theorem path_some (s : ByteArray) (h : Ev (fun k => spec_l15PathOk.f k s) true) : 1 ≤ s.size := by
  rcases Nat.lt_or_ge s.size 1 with h2 | h2
  · have : Ev (fun k => spec_l15PathOk.f k s) false := ev_neg (by omega) (ev_now _)
    exact absurd (ev_uniq h this) (by simp)
  · exact h2
def Ordered (l : List S102) : Prop := ∀ j : Nat, j < l.length → ((rd_T102 l (j : Int)).f0.size ≤ 60 ∧ 1 ≤ (rd_T102 l (j : Int)).f0.size ∧ (rd_T102 l (j : Int)).f1.size ≤ 3000) ∧ (0 < j → Op.bytesLess (rd_T102 l ((j - 1 : Nat) : Int)).f0.toList (rd_T102 l (j : Int)).f0.toList = true)
theorem files_true (l : List S102) (hl : l.length ≤ 4398046511104) (hs : ∀ x ∈ l, x.f0.size ≤ 140737488351232) : ∀ d i : Nat, i + d = l.length → Ev (fun k => spec_l18FilesOk.l0 k l (i : Int)) true →
    ∀ j, i ≤ j → j < l.length → ((rd_T102 l (j : Int)).f0.size ≤ 60 ∧ 1 ≤ (rd_T102 l (j : Int)).f0.size ∧ (rd_T102 l (j : Int)).f1.size ≤ 3000) ∧ (0 < j → Op.bytesLess (rd_T102 l ((j - 1 : Nat) : Int)).f0.toList (rd_T102 l (j : Int)).f0.toList = true)
  | 0, i, h, _, j, h1, h2 => by omega
  | d + 1, i, h, hE, j, h1, h2 => by
    have e := succ64 (i := i) (n := l.length) (by omega) (by omega)
    have hm : rd_T102 l (i : Int) ∈ l := by unfold rd_T102; rw [Int.toNat_natCast, List.getD_eq_getElem?_getD, List.getElem?_eq_getElem (by omega)]; exact List.getElem_mem _
    obtain ⟨p, p1, p2⟩ := path_ev _ (hs _ hm)
    have lt : (i : Int) < (l.length : Int) := by omega
    have ge : (0 : Int) ≤ (i : Int) := by omega
    obtain ⟨b, hb, _⟩ := files_loops l hl hs 0 d (i + 1) (by omega)
    have no : ¬ Ev (fun k => spec_l18FilesOk.l0 k l (i : Int)) false := fun hF => absurd (ev_uniq hE hF) (by simp)
    cases p with
    | false => exact absurd (ev_step (ev_pos lt (ev_pos ge (ev_bind p1 (ev_neg (by simp) (ev_now _)))))) no
    | true =>
      by_cases c1 : ((rd_T102 l (i : Int)).f1.size : Int) > 3000
      · exact absurd (ev_step (ev_pos lt (ev_pos ge (ev_bind p1 (ev_pos rfl (ev_pos c1 (ev_now _))))))) no
      · have good : (rd_T102 l (i : Int)).f0.size ≤ 60 ∧ 1 ≤ (rd_T102 l (i : Int)).f0.size ∧ (rd_T102 l (i : Int)).f1.size ≤ 3000 := ⟨path_small _ p1, path_some _ p1, by omega⟩
        by_cases c2 : (i : Int) > 0
        · have ep := pred64 (i := i) (by omega) (by omega)
          by_cases c3 : Op.bytesLess (rd_T102 l (wrap64 ((i : Int) - 1))).f0.toList (rd_T102 l (i : Int)).f0.toList = true
          · have go : Ev (fun k => spec_l18FilesOk.l0 k l (i : Int)) b := ev_step (ev_pos lt (ev_pos ge (ev_bind p1 (ev_pos rfl (ev_neg c1 (ev_pos c2 (ev_pos (by rw [ep]; omega) (ev_pos (by rw [ep]; omega) (ev_pos c3 (by simp only [e]; exact hb))))))))))
            have hbt : b = true := ev_uniq go hE
            subst hbt
            rcases Nat.eq_or_lt_of_le h1 with h3 | h3
            · subst h3
              exact ⟨good, fun _ => by rw [ep] at c3; exact c3⟩
            · exact files_true l hl hs d (i + 1) (by omega) hb j h3 h2
          · exact absurd (ev_step (ev_pos lt (ev_pos ge (ev_bind p1 (ev_pos rfl (ev_neg c1 (ev_pos c2 (ev_pos (by rw [ep]; omega) (ev_pos (by rw [ep]; omega) (ev_neg c3 (ev_now _))))))))))) no
        · have go : Ev (fun k => spec_l18FilesOk.l0 k l (i : Int)) b := ev_step (ev_pos lt (ev_pos ge (ev_bind p1 (ev_pos rfl (ev_neg c1 (ev_neg c2 (by simp only [e]; exact hb)))))))
          have hbt : b = true := ev_uniq go hE
          subst hbt
          rcases Nat.eq_or_lt_of_le h1 with h3 | h3
          · subst h3
            exact ⟨good, fun h4 => by omega⟩
          · exact files_true l hl hs d (i + 1) (by omega) hb j h3 h2
theorem place_true (l : List S102) (hl : l.length ≤ 4398046511104) (hs : ∀ x ∈ l, x.f0.size ≤ 140737488351232) (h : Ev (fun k => spec_MillValidPlace.f k l) true) : l.length ≤ 40 ∧ Ordered l := by
  obtain ⟨b, h1, _⟩ := files_loops l hl hs 40 l.length 0 (by omega)
  by_cases c : (l.length : Int) > 40
  · have : Ev (fun k => spec_MillValidPlace.f k l) false := ev_bind (ev_pos c (ev_now _)) (ev_now _)
    exact absurd (ev_uniq h this) (by simp)
  · have : Ev (fun k => spec_MillValidPlace.f k l) b := ev_bind (ev_neg c h1) (ev_now _)
    have hb := ev_uniq this h
    subst hb
    exact ⟨by omega, fun j hj => files_true l hl hs l.length 0 (by omega) h1 j (by omega) hj⟩
theorem ordered_lt (l : List S102) (h : Ordered l) (i : Nat) : ∀ d, i + (d + 1) < l.length → Op.bytesLess (rd_T102 l (i : Int)).f0.toList (rd_T102 l ((i + (d + 1) : Nat) : Int)).f0.toList = true
  | 0, hd => by have := (h (i + 1) hd).2 (by omega); simpa using this
  | d + 1, hd => by
    have h1 := ordered_lt l h i d (by omega)
    have h2 := (h (i + (d + 1 + 1)) hd).2 (by omega)
    rw [show i + (d + 1 + 1) - 1 = i + (d + 1) from by omega] at h2
    exact less_trans _ _ _ h1 h2
theorem ordered_less (l : List S102) (h : Ordered l) {i j : Nat} (hij : i < j) (hj : j < l.length) : Op.bytesLess (rd_T102 l (i : Int)).f0.toList (rd_T102 l (j : Int)).f0.toList = true := by
  have := ordered_lt l h i (j - i - 1) (by omega)
  rwa [show i + (j - i - 1 + 1) = j from by omega] at this
theorem bs_spec (l : List S102) (h : Ordered l) (t : ByteArray) : ∀ f i j : Nat, j - i ≤ f → i ≤ j → j ≤ l.length →
    (∀ m, m < i → cmpB (rd_T102 l (m : Int)).f0 t < 0) → (∀ m, j ≤ m → m < l.length → ¬ cmpB (rd_T102 l (m : Int)).f0 t < 0) →
    (∀ m, m < bsAt l t f i j → cmpB (rd_T102 l (m : Int)).f0 t < 0) ∧ (∀ m, bsAt l t f i j ≤ m → m < l.length → ¬ cmpB (rd_T102 l (m : Int)).f0 t < 0)
  | 0, i, j, hf, hij, hj, lo, hi => by
    have : j = i := by omega
    subst this
    exact ⟨lo, hi⟩
  | f + 1, i, j, hf, hij, hj, lo, hi => by
    rw [bsAt]
    by_cases c : i < j
    · rw [if_pos c]
      have hm : (i + j) / 2 < l.length := by omega
      by_cases d : cmpB (rd_T102 l (((i + j) / 2 : Nat) : Int)).f0 t < 0
      · rw [if_pos d]
        refine bs_spec l h t f ((i + j) / 2 + 1) j (by omega) (by omega) hj (fun m hm2 => ?_) hi
        rcases Nat.eq_or_lt_of_le (Nat.le_of_lt_succ hm2) with e | e
        · subst e; exact d
        · rw [cmpB_neg] at d ⊢
          exact less_trans _ _ _ (ordered_less l h e hm) d
      · rw [if_neg d]
        refine bs_spec l h t f i ((i + j) / 2) (by omega) (by omega) (by omega) lo (fun m hm2 hm3 hneg => d ?_)
        rcases Nat.eq_or_lt_of_le hm2 with e | e
        · subst e; exact hneg
        · rw [cmpB_neg] at hneg ⊢
          exact less_trans _ _ _ (ordered_less l h e hm3) hneg
    · rw [if_neg c]
      have : j = i := by omega
      subst this
      exact ⟨lo, hi⟩
theorem at_loop (l : List S102) (hl : l.length ≤ 4398046511104) (t : ByteArray) (r : Int) : ∀ d i : Nat, i + d = l.length →
    ((∀ m : Nat, i ≤ m → m < l.length → ¬ (rd_T102 l (m : Int)).f0.toList = t.toList) ∧ r = -1 ∨ ∃ m : Nat, i ≤ m ∧ m < l.length ∧ r = m ∧ (rd_T102 l (m : Int)).f0.toList = t.toList ∧ ∀ q : Nat, i ≤ q → q < m → ¬ (rd_T102 l (q : Int)).f0.toList = t.toList) →
    Ev (fun k => spec_l19At.l0 k l t (i : Int)) r
  | 0, i, h, hr => by
    rcases hr with ⟨_, rfl⟩ | ⟨m, h1, h2, _⟩
    · exact ev_step (ev_neg (by omega) (ev_now _))
    · omega
  | d + 1, i, h, hr => by
    have e := succ64 (i := i) (n := l.length) (by omega) (by omega)
    by_cases c : (rd_T102 l (i : Int)).f0.toList = t.toList
    · refine ev_step (ev_pos (by omega) (ev_pos (by omega) (ev_pos c (ev_eq (ev_now _) ?_))))
      rcases hr with ⟨h1, _⟩ | ⟨m, h1, h2, rfl, h4, h5⟩
      · exact absurd c (h1 i (Nat.le_refl _) (by omega))
      · rcases Nat.eq_or_lt_of_le h1 with e2 | e2
        · rw [e2]
        · exact absurd c (h5 i (Nat.le_refl _) e2)
    · refine ev_step (ev_pos (by omega) (ev_pos (by omega) (ev_neg c ?_)))
      simp only [e]
      refine at_loop l hl t r d (i + 1) (by omega) ?_
      rcases hr with ⟨h1, h2⟩ | ⟨m, h1, h2, h3, h4, h5⟩
      · exact .inl ⟨fun m hm => h1 m (by omega), h2⟩
      · refine .inr ⟨m, ?_, h2, h3, h4, fun q hq => h5 q (by omega)⟩
        rcases Nat.eq_or_lt_of_le h1 with e2 | e2
        · subst e2; exact absurd h4 c
        · exact e2
theorem at_ev (l : List S102) (hl : l.length ≤ 4398046511104) (h : Ordered l) (t : ByteArray) :
    (bsHit l t = true ∧ bsIdx l t < l.length ∧ Ev (fun k => spec_l19At.f k l t) (bsIdx l t : Int)) ∨ (bsHit l t = false ∧ Ev (fun k => spec_l19At.f k l t) (-1)) := by
  obtain ⟨lo, hi⟩ := bs_spec l h t l.length 0 l.length (by omega) (by omega) (Nat.le_refl _) (fun m hm => by omega) (fun m h1 h2 => by omega)
  have lo' : ∀ m, m < bsIdx l t → cmpB (rd_T102 l (m : Int)).f0 t < 0 := lo
  have hi' : ∀ m, bsIdx l t ≤ m → m < l.length → ¬ cmpB (rd_T102 l (m : Int)).f0 t < 0 := hi
  have below : ∀ q : Nat, q < bsIdx l t → ¬ (rd_T102 l (q : Int)).f0.toList = t.toList := fun q hq e => by
    have h1 := lo' q hq
    rw [(cmpB_zero _ _).2 e] at h1
    exact absurd h1 (by omega)
  cases hb : bsHit l t with
  | true =>
    unfold bsHit at hb
    simp only [Bool.and_eq_true, decide_eq_true_eq] at hb
    exact .inl ⟨rfl, hb.1, at_loop l hl t _ l.length 0 (by omega) (.inr ⟨bsIdx l t, by omega, hb.1, rfl, (cmpB_zero _ _).1 hb.2, fun q _ hq => below q hq⟩)⟩
  | false =>
    unfold bsHit at hb
    refine .inr ⟨rfl, at_loop l hl t _ l.length 0 (by omega) (.inl ⟨fun m _ hm e => ?_, rfl⟩)⟩
    rcases Nat.lt_or_ge m (bsIdx l t) with h1 | h1
    · exact below m h1 e
    · have h2 : bsIdx l t < l.length := by omega
      have h3 : ¬ cmpB (rd_T102 l (bsIdx l t : Int)).f0 t = 0 := fun h4 => by simp [h2, h4] at hb
      rcases Nat.eq_or_lt_of_le h1 with e2 | e2
      · rw [e2] at h3; exact h3 ((cmpB_zero _ _).2 e)
      · have h5 := ordered_less l h e2 hm
        rw [e] at h5
        exact hi' _ (Nat.le_refl _) h2 ((cmpB_neg _ _).2 h5)
theorem prefix_some (a b : ByteArray) : strings_HasPrefix.f a b = some (if (a.size : Int) ≥ (b.size : Int) then (a.extract 0 b.size).toList == b.toList else false) := by
  unfold strings_HasPrefix.f stringslite_HasPrefix.f
  by_cases c : (a.size : Int) ≥ (b.size : Int)
  · simp [c] <;> omega
  · simp [c]
theorem list_loop (l : List S102) (hl : l.length ≤ 40) (h : Ordered l) (t : ByteArray) : ∀ d i : Nat, i + d = l.length → ∀ s : ByteArray, s.size ≤ i * 61 →
    ∃ r : ByteArray, Ev (fun k => spec_MillSee.l0 k t s (i : Int) l) (0, r) ∧ Ev (fun k => impl_see.l0 k t s l (l.length : Int) (i : Int)) (0, r)
  | 0, i, hd, s, hs => ⟨s, ev_step (ev_neg (by omega) (ev_now _)), ev_step (ev_neg (by omega) (ev_now _))⟩
  | d + 1, i, hd, s, hs => by
    have e := succ64 (i := i) (n := l.length) (by omega) (by omega)
    have hn := (h i (by omega)).1.1
    have one : (⟨#[10]⟩ : ByteArray).size = 1 := rfl
    have lt : (i : Int) < (l.length : Int) := by omega
    have ge : (0 : Int) ≤ (i : Int) := by omega
    have hp := prefix_some (rd_T102 l (i : Int)).f0 t
    by_cases c1 : ((rd_T102 l (i : Int)).f0.size : Int) ≥ (t.size : Int)
    · rw [if_pos c1] at hp
      by_cases c2 : ((rd_T102 l (i : Int)).f0.extract 0 t.size).toList = t.toList
      · rw [beq_iff_eq.2 c2] at hp
        obtain ⟨r, h1, h2⟩ := list_loop l hl h t d (i + 1) (by omega) (s ++ (rd_T102 l (i : Int)).f0 ++ ⟨#[10]⟩) (by rw [ByteArray.size_append, ByteArray.size_append, one]; omega)
        refine ⟨r, ev_step (ev_pos lt (ev_pos ge (ev_pos c1 (ev_pos (by omega) (ev_pos (by omega) (ev_pos (by simpa using c2) (ev_pos (by omega) (ev_pos (by rw [ByteArray.size_append]; omega) ?_)))))))), ev_step (ev_pos lt (ev_pos ge (ev_pos lt (ev_val hp (ev_pos rfl (ev_pos (by omega) (ev_pos (by rw [ByteArray.size_append, one]; omega) ?_)))))))⟩
        · simp only [e]; exact h1
        · simp only [e]
          have ea : s ++ ((rd_T102 l (i : Int)).f0 ++ ⟨#[10]⟩) = s ++ (rd_T102 l (i : Int)).f0 ++ ⟨#[10]⟩ := ByteArray.append_assoc.symm
          rw [ea]; exact h2
      · rw [beq_eq_false_iff_ne.2 c2] at hp
        obtain ⟨r, h1, h2⟩ := list_loop l hl h t d (i + 1) (by omega) s (by omega)
        refine ⟨r, ev_step (ev_pos lt (ev_pos ge (ev_pos c1 (ev_pos (by omega) (ev_pos (by omega) (ev_neg (by simpa using c2) ?_)))))), ev_step (ev_pos lt (ev_pos ge (ev_pos lt (ev_val hp (ev_neg (by simp) ?_)))))⟩
        · simp only [e]; exact h1
        · simp only [e]; exact h2
    · rw [if_neg c1] at hp
      obtain ⟨r, h1, h2⟩ := list_loop l hl h t d (i + 1) (by omega) s (by omega)
      refine ⟨r, ev_step (ev_pos lt (ev_pos ge (ev_neg c1 ?_))), ev_step (ev_pos lt (ev_pos ge (ev_pos lt (ev_val hp (ev_neg (by simp) ?_)))))⟩
      · simp only [e]; exact h1
      · simp only [e]; exact h2
theorem see_true (l : List S102) (kind : Int) (t : ByteArray) : Ev (fun k => spec_MillSee.j0 k kind t true l) (5, (⟨#[]⟩ : ByteArray)) := by
  refine ev_step ?_
  simp only [spec_MillSee.j0, if_true]
  exact ev_now _
theorem see_ev (l : List S102) (hl : l.length ≤ 4398046511104) (hs : ∀ x ∈ l, x.f0.size ≤ 140737488351232) (kind : Int) (t : ByteArray) :
    ∃ r : Int × ByteArray, Ev (fun k => spec_MillSee.f k l kind t) r ∧ Ev (fun k => impl_MillSee.f k l kind t) r := by
  obtain ⟨b, b1, b2⟩ := place_ev l hl hs
  cases b with
  | false => exact ⟨(5, ⟨#[]⟩), ev_bind b1 (ev_neg (by simp) (see_true l kind t)), ev_bind b2 (ev_neg (by simp) (ev_now _))⟩
  | true =>
    obtain ⟨h40, ho⟩ := place_true l hl hs b1
    have hfile : impl_MillPlace_file.f l t = some (if bsHit l t = true then ((rd_T102 l (bsIdx l t : Int)).f1, true) else (⟨#[]⟩, false)) := by
      unfold impl_MillPlace_file.f; rw [if_pos (by omega)]; split <;> rfl
    by_cases c1 : kind < 1
    · exact ⟨(5, ⟨#[]⟩), ev_bind b1 (ev_pos rfl (ev_pos c1 (see_true l kind t))), ev_bind b2 (ev_pos rfl (ev_bind (ev_val hfile (ev_neg (by omega) (ev_neg (by omega) (ev_neg (by omega) (ev_now _))))) (ev_now _)))⟩
    · by_cases c3 : kind > 3
      · exact ⟨(5, ⟨#[]⟩), ev_bind b1 (ev_pos rfl (ev_neg c1 (ev_step (ev_pos (by simp [c3]) (ev_now _))))), ev_bind b2 (ev_pos rfl (ev_bind (ev_val hfile (ev_neg (by omega) (ev_neg (by omega) (ev_neg (by omega) (ev_now _))))) (ev_now _)))⟩
      · by_cases k3 : kind = 3
        · obtain ⟨r, h1, h2⟩ := list_loop l h40 ho t l.length 0 (by omega) ⟨#[]⟩ (by decide)
          exact ⟨(0, r), ev_bind b1 (ev_pos rfl (ev_neg c1 (ev_step (ev_neg (by simp; omega) (ev_pos k3 h1))))), ev_bind b2 (ev_pos rfl (ev_bind (ev_val hfile (ev_neg (by omega) (ev_neg (by omega) (ev_pos k3 h2)))) (ev_now _)))⟩
        · rcases at_ev l hl ho t with ⟨hb, hi, ha⟩ | ⟨hb, ha⟩
          · rw [hb, if_pos rfl] at hfile
            by_cases k2 : kind = 2
            · exact ⟨(0, ⟨#[]⟩), ev_bind b1 (ev_pos rfl (ev_neg c1 (ev_step (ev_neg (by simp; omega) (ev_neg k3 (ev_bind ha (ev_neg (by omega) (ev_pos k2 (ev_now _))))))))), ev_bind b2 (ev_pos rfl (ev_bind (ev_val hfile (ev_neg (by omega) (ev_pos k2 (ev_pos rfl (ev_now _))))) (ev_now _)))⟩
            · exact ⟨(0, (rd_T102 l (bsIdx l t : Int)).f1), ev_bind b1 (ev_pos rfl (ev_neg c1 (ev_step (ev_neg (by simp; omega) (ev_neg k3 (ev_bind ha (ev_neg (by omega) (ev_neg k2 (ev_pos (by omega) (ev_pos (by omega) (ev_now _))))))))))), ev_bind b2 (ev_pos rfl (ev_bind (ev_val hfile (ev_pos (by omega) (ev_pos rfl (ev_now _)))) (ev_now _)))⟩
          · rw [hb, if_neg (by simp)] at hfile
            by_cases k2 : kind = 2
            · exact ⟨(4, ⟨#[]⟩), ev_bind b1 (ev_pos rfl (ev_neg c1 (ev_step (ev_neg (by simp; omega) (ev_neg k3 (ev_bind ha (ev_pos (by omega) (ev_now _)))))))), ev_bind b2 (ev_pos rfl (ev_bind (ev_val hfile (ev_neg (by omega) (ev_pos k2 (ev_neg (by simp) (ev_now _))))) (ev_now _)))⟩
            · exact ⟨(4, ⟨#[]⟩), ev_bind b1 (ev_pos rfl (ev_neg c1 (ev_step (ev_neg (by simp; omega) (ev_neg k3 (ev_bind ha (ev_pos (by omega) (ev_now _)))))))), ev_bind b2 (ev_pos rfl (ev_bind (ev_val hfile (ev_pos (by omega) (ev_neg (by simp) (ev_now _)))) (ev_now _)))⟩
end Go.Proofs.Ytdpdpigaegabbaa.Q
end
section
namespace Go.Proofs.Ytdpdpigaegabbaa.Q
open Go.RowKit Go.Proofs.YtdpdpigaegabbaaW.PrintWords Go.Proofs.YtdpdpigaegabbaaW.PrintLast Go.Proofs.YtdpdpigaegabbaaW.PrintMore Go.Proofs.Ytdpdpigaegabbaa.EvMore
set_option linter.unusedVariables false
set_option linter.unusedSimpArgs false
theorem ev_unbind {α β : Type} {g : Nat → Option α} {f : Nat → α → Option β} {a : α} {r : β} (h : Ev g a) (k : Ev (fun n => (g n).bind (f n)) r) : Ev (fun n => f n a) r := by
  obtain ⟨K, hK⟩ := h
  obtain ⟨L, hL⟩ := k
  refine ⟨K + L, fun n hn => ?_⟩
  have := hL n (by omega)
  show f n a = some r
  change (g n).bind (f n) = some r at this
  rw [hK n (by omega)] at this
  simpa using this
theorem see_valid (l : List S102) (hl : l.length ≤ 4398046511104) (hs : ∀ x ∈ l, x.f0.size ≤ 140737488351232) (hv : Ev (fun k => impl_MillValidPlace.f k l) true) (kind : Int) (t : ByteArray) :
    ∃ r : Int × ByteArray, Ev (fun k => spec_MillSee.f k l kind t) r ∧ Ev (fun k => impl_see.f k l kind t) r := by
  obtain ⟨r, h1, h2⟩ := see_ev l hl hs kind t
  refine ⟨r, h1, ?_⟩
  obtain ⟨K, hK⟩ := ev_unbind hv h2
  refine ⟨K, fun n hn => ?_⟩
  have := hK n hn
  simp only [if_true] at this
  cases e : impl_see.f n l kind t with
  | none => rw [e] at this; cases this
  | some y => rw [e] at this; show impl_see.f n l kind t = some r; rw [e]; simpa using this
theorem holds_loop (p : List S102) (hp : p.length ≤ 4398046511104) (hs : ∀ x ∈ p, x.f0.size ≤ 140737488351232) (hv : Ev (fun k => impl_MillValidPlace.f k p) true) (l : List S108) (hl : l.length ≤ 4398046511104) : ∀ d i : Nat, i + d = l.length →
    ∃ b : Bool, Ev (fun k => spec_MillHolds.l0 k l (i : Int) p) (!b) ∧ Ev (fun k => anyO (seenBad k p) (l.drop i)) b
  | 0, i, h => by
    refine ⟨false, ev_step (ev_neg (by omega) (ev_now _)), ?_⟩
    rw [List.drop_eq_nil_of_le (by omega)]
    exact ev_now _
  | d + 1, i, h => by
    have e := succ64 (i := i) (n := l.length) (by omega) (by omega)
    have hi : i < l.length := by omega
    have hr : rd_T108 l (i : Int) = l[i] := by unfold rd_T108; rw [Int.toNat_natCast, List.getD_eq_getElem?_getD, List.getElem?_eq_getElem hi]; rfl
    obtain ⟨r, r1, r2⟩ := see_valid p hp hs hv l[i].f0 l[i].f1
    obtain ⟨b, h1, h2⟩ := holds_loop p hp hs hv l hl d (i + 1) (by omega)
    have hb : Ev (fun k => seenBad k p l[i]) (!(r.1 == l[i].f2.f0) || !(r.2.toList == l[i].f2.f1.toList)) := ev_bind r2 (ev_now _)
    rw [List.drop_eq_getElem_cons hi]
    by_cases c : (!(r.1 == l[i].f2.f0) || !(r.2.toList == l[i].f2.f1.toList)) = true
    · exact ⟨true, ev_step (ev_pos (by omega) (ev_pos (by omega) (by simp only [hr]; exact ev_bind r1 (ev_pos c (ev_now _))))), ev_bind hb (ev_pos c (ev_now _))⟩
    · exact ⟨b, ev_step (ev_pos (by omega) (ev_pos (by omega) (by simp only [hr, e]; exact ev_bind r1 (ev_neg c h1)))), ev_bind hb (ev_neg c h2)⟩
theorem holds_ev (p : List S102) (hp : p.length ≤ 4398046511104) (hs : ∀ x ∈ p, x.f0.size ≤ 140737488351232) (l : List S108) (hl : l.length ≤ 4398046511104) :
    ∃ b : Bool, Ev (fun k => spec_MillHolds.f k p l) b ∧ Ev (fun k => impl_MillHolds.f k p l) b := by
  obtain ⟨v, v1, v2⟩ := place_ev p hp hs
  cases v with
  | false => exact ⟨false, ev_bind v1 (ev_neg (by simp) (ev_now _)), ev_bind v2 (ev_neg (by simp) (ev_now _))⟩
  | true =>
    obtain ⟨b, h1, h2⟩ := holds_loop p hp hs v2 l hl l.length 0 (by omega)
    rw [List.drop_zero] at h2
    exact ⟨!b, ev_bind v1 (ev_pos rfl h1), ev_bind v2 (ev_pos rfl (ev_bind h2 (ev_now _)))⟩
theorem szSeen_loop (l : List S106) (hl : l.length ≤ 4398046511104) : ∀ d i : Nat, i + d = l.length → ∀ left : Int, ∃ v, Ev (fun k => laws_szMillSeenS.l0 k l left (i : Int)) v
  | 0, i, h, left => ⟨left, ev_step (ev_neg (by omega) (ev_now _))⟩
  | d + 1, i, h, left => by
    have e := succ64 (i := i) (n := l.length) (by omega) (by omega)
    obtain ⟨a, ha⟩ : ∃ a, laws_szMillSeen.f (rd_T106 l (i : Int)).f0 (rd_T106 l (i : Int)).f1 (rd_T106 l (i : Int)).f2.f0 (rd_T106 l (i : Int)).f2.f1 left = some a := by
      unfold laws_szMillSeen.f laws_szMillReply.f
      repeat' first | exact ⟨_, rfl⟩ | (split) | (rw [Option.bind_some])
    by_cases c : a < 0
    · exact ⟨-1, ev_step (ev_pos (by omega) (ev_pos (by omega) (ev_val ha (ev_pos c (ev_now _)))))⟩
    · obtain ⟨v, hv⟩ := szSeen_loop l hl d (i + 1) (by omega) a
      refine ⟨v, ev_step (ev_pos (by omega) (ev_pos (by omega) (ev_val ha (ev_neg c ?_))))⟩
      simp only [e]; exact hv
theorem szSeen_ev (l : List S106) (hl : l.length ≤ 4398046511104) (left : Int) : ∃ v, Ev (fun k => laws_szMillSeenS.f k l left) v := by
  by_cases c : wrap64 (left - (l.length : Int)) < 0
  · exact ⟨_, ev_pos c (ev_now _)⟩
  · obtain ⟨v, hv⟩ := szSeen_loop l hl l.length 0 (by omega) (wrap64 (left - (l.length : Int)))
    exact ⟨v, ev_neg c hv⟩
def toSeen (x : S106) : S108 := ⟨x.f0, x.f1, ⟨x.f2.f0, x.f2.f1⟩⟩
theorem toSeen_loop (l : List S106) (hl : l.length ≤ 2932031007402) : ∀ d i : Nat, i + d = l.length →
    Ev (fun k => laws_toMillSeenS.l0 k l ((l.take i).map toSeen ++ List.replicate (l.length - i) z108) (i : Int)) (l.map toSeen)
  | 0, i, h => by
    refine ev_step (ev_neg (by omega) (ev_eq (ev_now _) ?_))
    have : i = l.length := by omega
    subst this; simp
  | d + 1, i, h => by
    have e := succ64 (i := i) (n := l.length) (by omega) (by omega)
    have hi : i < l.length := by omega
    have hr : rd_T106 l (i : Int) = l[i] := by unfold rd_T106; rw [Int.toNat_natCast, List.getD_eq_getElem?_getD, List.getElem?_eq_getElem hi]; rfl
    refine ev_step (ev_pos (by omega) (ev_pos (by omega) (ev_val (a := ((rd_T106 l (i : Int)).f0, (rd_T106 l (i : Int)).f1, (rd_T106 l (i : Int)).f2.f0, (rd_T106 l (i : Int)).f2.f1)) (by simp [laws_toMillSeen.f, laws_toMillReply.f]) (ev_pos (by simp; omega) ?_))))
    have ih := toSeen_loop l hl d (i + 1) (by omega)
    rw [← set_map toSeen l _ i hi] at ih
    simp only [e, hr, Int.toNat_natCast]; exact ih
theorem toSeen_ev (l : List S106) (hl : l.length ≤ 2932031007402) : Ev (fun k => laws_toMillSeenS.f k l) (l.map toSeen) := by
  refine ev_pos (by omega) (ev_pos (by omega) ?_)
  have h := toSeen_loop l hl l.length 0 (by omega)
  simpa using h
theorem eqSeen_loop (l : List S108) (hl : l.length ≤ 4398046511104) : ∀ d i : Nat, i + d = l.length → Ev (fun k => laws_eqMillSeenS.l0 k l l (i : Int)) true
  | 0, i, h => ev_step (ev_neg (by omega) (ev_now _))
  | d + 1, i, h => by
    have e := succ64 (i := i) (n := l.length) (by omega) (by omega)
    refine ev_step (ev_pos (by omega) (ev_pos (by omega) (ev_pos (by omega) (ev_val (a := true) (by simp [laws_eqMillSeen.f, laws_eqMillReply.f]) (ev_pos rfl ?_)))))
    simp only [e]; exact eqSeen_loop l hl d (i + 1) (by omega)
theorem eqSeen_ev (l : List S108) (hl : l.length ≤ 4398046511104) : Ev (fun k => laws_eqMillSeenS.f k l l) true := ev_pos rfl (eqSeen_loop l hl l.length 0 (by omega))
end Go.Proofs.Ytdpdpigaegabbaa.Q
end
section
namespace Go.Proofs.Ytdpdpigaegabbaa.PureFnExactMillHolds
open Go.RowKit Go.Proofs.Ytdpdpigaegabbaa.Q Go.Proofs.YtdpdpigaegabbaaW.PrintWords
set_option linter.unusedVariables false
set_option linter.unusedSimpArgs false
open Go.Proofs.Ytdpdpigaegabbaa.EvMore
def G130 (x : S130) : Prop := x.f0.size ≤ 140737488351232 ∧ x.f1.size ≤ 140737488351232
def G24 (x : S24) : Prop := (Lit.int .i64 x.f0).wf = true ∧ x.f1.size ≤ 140737488351232
def G106 (x : S106) : Prop := (Lit.int .i64 x.f0).wf = true ∧ x.f1.size ≤ 140737488351232 ∧ G24 x.f2
def Statement : Prop := ∀ (l0_0 : List (S130)) (l1 : List (S106)), ((l0_0.length * 32 ≤ 140737488351232 ∧ l0_0.length ≤ maxLen) ∧ ∀ y ∈ l0_0, G130 y) → ((l1.length * 48 ≤ 140737488351232 ∧ l1.length ≤ maxLen) ∧ ∀ y ∈ l1, G106 y) → ∃ k, laws_FnExactMillHolds.f k l0_0 l1 = some true
theorem FnExactMillHolds : Statement := by
  intro l s hl hs
  obtain ⟨⟨h1, h2⟩, h3⟩ := hl
  obtain ⟨⟨g1, g2⟩, g3⟩ := hs
  have hlen : l.length ≤ 4398046511104 := by omega
  have hlen2 : (l.map toFile).length ≤ 4398046511104 := by simpa using hlen
  have slen : s.length ≤ 2932031007402 := by omega
  have slen2 : (s.map toSeen).length ≤ 4398046511104 := by simp; omega
  obtain ⟨v, hv⟩ := szPlace_ev l hlen 1048576
  obtain ⟨u, hu⟩ := szSeen_ev s (by omega) v
  obtain ⟨r, r1, r2⟩ := holds_ev (l.map toFile) hlen2 (by intro x hx; obtain ⟨y, hy, rfl⟩ := List.mem_map.1 hx; exact (h3 y hy).1) (s.map toSeen) slen2
  have tp := toPlace_ev l hlen
  have ts := toSeen_ev s slen
  refine Ev.rounds (ev_bind hv ?_)
  by_cases c : v < 0
  · exact ev_pos c (ev_now _)
  · refine ev_neg c (ev_bind hu ?_)
    by_cases d : u < 0
    · exact ev_pos d (ev_now _)
    · exact ev_neg d (ev_bind tp (ev_bind ts (ev_bind r1 (ev_bind tp (ev_bind ts (ev_bind r2 (ev_neg (by simp) (ev_bind tp (ev_bind (eqPlace_ev _ hlen2) (ev_pos rfl (ev_bind ts (ev_bind (eqSeen_ev _ slen2) (ev_pos rfl (ev_now _)))))))))))))) 
end Go.Proofs.Ytdpdpigaegabbaa.PureFnExactMillHolds
end
