/- What spec.l13Into returns at an unsigned number: the number of the type with these lowest bits. No condition beyond the number's being one of uint64. -/
import Derived.Test.YtdpdpigaegabbaaQXConv
import Derived.Test.YtdpdpigaegabbaaQf96
import Derived.Test.YtdpdpigaegabbaaQf97
namespace Go.Proofs.Ytdpdpigaegabbaa.Q
open Go.RowKit Go.Proofs.YtdpdpigaegabbaaW.PrintWords Go.Proofs.YtdpdpigaegabbaaW.PrintLast Go.Proofs.YtdpdpigaegabbaaW.PrintMore
set_option linter.unusedVariables false
set_option linter.unusedSimpArgs false
def spec_l13Into.f (a0 : Int) (a1 : Int) : Option (Int) := if 0 ≤ a1 ∧ a1 < 18446744073709551616 then some (conv a0 a1) else none
theorem l10Bits_some (t : Int) : spec_l10Bits.f 2 t = some (if t = 3 ∨ t = 7 then 8 else if t = 4 ∨ t = 8 then 16 else if t = 5 ∨ t = 9 then 32 else 64) := by
  by_cases h3 : t = 3; · subst h3; rfl
  by_cases h7 : t = 7; · subst h7; rfl
  by_cases h4 : t = 4; · subst h4; rfl
  by_cases h8 : t = 8; · subst h8; rfl
  by_cases h5 : t = 5; · subst h5; rfl
  by_cases h9 : t = 9; · subst h9; rfl
  simp [spec_l10Bits.f, spec_l10Bits.j0, spec_l10Bits.j1, h3, h4, h5, h7, h8, h9]
set_option maxHeartbeats 8000000 in
set_option maxRecDepth 100000 in
theorem into_small (a0 a1 b r : Int) (s : Bool) (w : World) (h0 : 0 ≤ a1) (h1 : a1 < 18446744073709551616) (hb : spec_l10Bits.f 2 a0 = some b) (hs : spec_l10Signed.f a0 = some s) (hb2 : b = 8 ∨ b = 16 ∨ b = 32)
    (hr : r = if s = true ∧ 2 ^ (b.toNat - 1) ≤ a1 % 2 ^ b.toNat then a1 % 2 ^ b.toNat - 2 ^ b.toNat else a1 % 2 ^ b.toNat) :
    Calls Try.prog 53 #[.int .i64 a0, .int .u64 a1] w fun e w' => e = .returned (.int .i64 r) ∧ Drawn0 w w' := by
  have A3 := Aside0.mk hb
  have A9 := Aside0.mk hs
  have HR := Aside0.mk hr
  clear hb hs hr
  have e1 : ∀ m : Int, a1.tmod m = a1 % m := fun m => Int.tmod_eq_emod_of_nonneg h0
  rcases hb2 with rfl | rfl | rfl <;> cases s
  all_goals
    go_enter Try.func53, Try.ntmps53
    go_wp2_with (first | ((with_reducible refine gate_callee (f := 96) rfl ?_); refine goesL_ (some 8) rfl rfl Try.func96 (by kernel_rfl) rfl #[.int .i64 a0] rfl (by (try simp only [List.map_toArray, List.map_cons, List.map_nil]); first | done | rfl) ?_; (with_reducible refine (spec_l10Bits.calls 2 a0 _ _ A3.out).mono ?_); rintro e w' ⟨rfl, ⟨nd, rfl⟩⟩; refine ⟨_, rfl, ?_⟩) | ((with_reducible refine gate_callee (f := 97) rfl ?_); refine goesL_ (some 18) rfl rfl Try.func97 (by kernel_rfl) rfl #[.int .i64 a0] rfl (by (try simp only [List.map_toArray, List.map_cons, List.map_nil]); first | done | rfl) ?_; (with_reducible refine (spec_l10Signed.calls a0 _ _ A9.out).mono ?_); rintro e w' ⟨rfl, ⟨nd, rfl⟩⟩; refine ⟨_, rfl, ?_⟩))
    all_goals
      have h := HR.out
      simp at h
      go_ret
      refine ⟨ret_int ?_, by repeat (first | exact Drawn0.refl _ | apply Drawn0.step)⟩
      first | (rw [h]; done) | (split at h <;> omega) | (unfold wrap64; simp only [wrapU]; split at h <;> omega) | (rw [h]; unfold wrap64; omega)
set_option maxHeartbeats 8000000 in
set_option maxRecDepth 100000 in
theorem into_whole (a0 a1 r : Int) (w : World) (h0 : 0 ≤ a1) (h1 : a1 < 18446744073709551616) (hb : spec_l10Bits.f 2 a0 = some 64) (hr : r = wrap64 a1) :
    Calls Try.prog 53 #[.int .i64 a0, .int .u64 a1] w fun e w' => e = .returned (.int .i64 r) ∧ Drawn0 w w' := by
  have A3 := Aside0.mk hb
  have HR := Aside0.mk hr
  clear hb hr
  go_enter Try.func53, Try.ntmps53
  go_wp2_with (first | ((with_reducible refine gate_callee (f := 96) rfl ?_); refine goesL_ (some 8) rfl rfl Try.func96 (by kernel_rfl) rfl #[.int .i64 a0] rfl (by (try simp only [List.map_toArray, List.map_cons, List.map_nil]); first | done | rfl) ?_; (with_reducible refine (spec_l10Bits.calls 2 a0 _ _ A3.out).mono ?_); rintro e w' ⟨rfl, ⟨nd, rfl⟩⟩; refine ⟨_, rfl, ?_⟩))
  go_ret
  exact ⟨ret_int HR.out.symm, by repeat (first | exact Drawn0.refl _ | apply Drawn0.step)⟩
theorem spec_l13Into.calls (a0 : Int) (a1 : Int) (r : Int) (w : World) (h : spec_l13Into.f a0 a1 = some r) :
    Calls Try.prog 53 #[.int .i64 a0, .int .u64 a1] w fun e w' => e = .returned (.int .i64 r) ∧ Drawn0 w w' := by
  unfold spec_l13Into.f at h
  split at h
  · rename_i hn
    obtain ⟨h0, h1⟩ := hn
    have hr := Option.some.inj h
    have hB := l10Bits_some a0
    have hS : spec_l10Signed.f a0 = some (decide (7 ≤ a0 ∧ a0 ≤ 10)) := by unfold spec_l10Signed.f; by_cases h : a0 ≥ 7 <;> simp [h]
    unfold conv at hr
    by_cases h8 : a0 = 3 ∨ a0 = 7
    · rw [if_pos h8] at hB
      refine into_small a0 a1 8 r _ w h0 h1 hB hS (by simp) ?_
      rcases h8 with rfl | rfl <;> simp at hr ⊢ <;> (try split) <;> omega
    · rw [if_neg h8] at hB
      by_cases h16 : a0 = 4 ∨ a0 = 8
      · rw [if_pos h16] at hB
        refine into_small a0 a1 16 r _ w h0 h1 hB hS (by simp) ?_
        rcases h16 with rfl | rfl <;> simp at hr ⊢ <;> (try split) <;> omega
      · rw [if_neg h16] at hB
        by_cases h32 : a0 = 5 ∨ a0 = 9
        · rw [if_pos h32] at hB
          refine into_small a0 a1 32 r _ w h0 h1 hB hS (by simp) ?_
          rcases h32 with rfl | rfl <;> simp at hr ⊢ <;> (try split) <;> omega
        · rw [if_neg h32] at hB
          refine into_whole a0 a1 r w h0 h1 hB ?_
          rw [← hr, if_neg (by omega), if_neg (by omega), if_neg (by omega), if_neg (by omega), if_neg (by omega), if_neg (by omega)]
  · simp at h
end Go.Proofs.Ytdpdpigaegabbaa.Q
