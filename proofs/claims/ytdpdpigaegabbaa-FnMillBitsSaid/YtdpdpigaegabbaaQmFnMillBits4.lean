/- Several texts of this seat put together by merge.py, without what this claim does not use. -/
import Derived.Test.YtdpdpigaegabbaaQmFnMillBits1
import Derived.Lib.Strings
import Derived.Lib.Bytealg
import Derived.Test.YtdpdpigaegabbaaQmFnMillBits2
import Derived.Test.YtdpdpigaegabbaaQmFnMillBitsWWords
import Derived.Test.YtdpdpigaegabbaaQmFnMillBitsQf48
import Derived.Test.YtdpdpigaegabbaaQmFnMillBitsQf13
section
end
section
namespace Go.Proofs.Ytdpdpigaegabbaa.Q
open Go.RowKit Go.Proofs.YtdpdpigaegabbaaW.PrintWords Go.Proofs.YtdpdpigaegabbaaW.PrintLast Go.Proofs.YtdpdpigaegabbaaW.PrintMore
set_option linter.unusedVariables false
set_option linter.unusedSimpArgs false
theorem u8_ (t : Int) (h : t = 3 ∨ t = 7) : impl_bitsOf.f t = some 8 := by rcases h with rfl | rfl <;> decide +kernel
theorem u16_ (t : Int) (h : t = 4 ∨ t = 8) : impl_bitsOf.f t = some 16 := by rcases h with rfl | rfl <;> decide +kernel
theorem u32_ (t : Int) (h : t = 5 ∨ t = 9) : impl_bitsOf.f t = some 32 := by rcases h with rfl | rfl <;> decide +kernel
theorem u64_ (t : Int) (h : t = 6 ∨ t = 10) : impl_bitsOf.f t = some 64 := by rcases h with rfl | rfl <;> decide +kernel
theorem shlU (x : Int) (j : Nat) (h : j ≤ 64) : shl .u64 x (j : Int) = (x * 2 ^ j) % 18446744073709551616 := by
  unfold shl; rw [wrapU, Int.toNat_natCast, Nat.min_eq_left (by simpa [IntKind.bits] using h)]
theorem shlI (x : Int) (j : Nat) (h : j ≤ 64) : shl .i64 x (j : Int) = wrap64 (x * 2 ^ j) := by
  unfold shl; rw [wrapI, Int.toNat_natCast, Nat.min_eq_left (by simpa [IntKind.bits] using h)]
theorem shrK (k : IntKind) (hk : k.bits = 64) (x : Int) (j : Nat) (h : j ≤ 64) : shr k x (j : Int) = x / 2 ^ j := by
  unfold shr; rw [Int.toNat_natCast, Nat.min_eq_left (by rw [hk]; exact h)]
theorem wrapped_eq {t n : Int} (h0 : 3 ≤ t) (h1 : t ≤ 10) (hn0 : 0 ≤ n) (hn1 : n < 18446744073709551616) : impl_wrapped.f t n = some (conv t n) := by
  have e56 : wrap64 (64 - 8) = 56 := by decide +kernel
  have e48 : wrap64 (64 - 16) = 48 := by decide +kernel
  have e32 : wrap64 (64 - 32) = 32 := by decide +kernel
  have e0 : wrap64 (64 - 64) = 0 := by decide +kernel
  have a56 : ∀ x, shl .u64 x 56 = (x * 2 ^ 56) % 18446744073709551616 := fun x => shlU x 56 (by omega)
  have a48 : ∀ x, shl .u64 x 48 = (x * 2 ^ 48) % 18446744073709551616 := fun x => shlU x 48 (by omega)
  have a32 : ∀ x, shl .u64 x 32 = (x * 2 ^ 32) % 18446744073709551616 := fun x => shlU x 32 (by omega)
  have a0 : ∀ x, shl .u64 x 0 = (x * 2 ^ 0) % 18446744073709551616 := fun x => shlU x 0 (by omega)
  have b56 : ∀ x, shl .i64 x 56 = wrap64 (x * 2 ^ 56) := fun x => shlI x 56 (by omega)
  have b48 : ∀ x, shl .i64 x 48 = wrap64 (x * 2 ^ 48) := fun x => shlI x 48 (by omega)
  have b32 : ∀ x, shl .i64 x 32 = wrap64 (x * 2 ^ 32) := fun x => shlI x 32 (by omega)
  have b0 : ∀ x, shl .i64 x 0 = wrap64 (x * 2 ^ 0) := fun x => shlI x 0 (by omega)
  have c56 : ∀ x, shr .u64 x 56 = x / 2 ^ 56 := fun x => shrK _ rfl x 56 (by omega)
  have c48 : ∀ x, shr .u64 x 48 = x / 2 ^ 48 := fun x => shrK _ rfl x 48 (by omega)
  have c32 : ∀ x, shr .u64 x 32 = x / 2 ^ 32 := fun x => shrK _ rfl x 32 (by omega)
  have c0 : ∀ x, shr .u64 x 0 = x / 2 ^ 0 := fun x => shrK _ rfl x 0 (by omega)
  have d56 : ∀ x, shr .i64 x 56 = x / 2 ^ 56 := fun x => shrK _ rfl x 56 (by omega)
  have d48 : ∀ x, shr .i64 x 48 = x / 2 ^ 48 := fun x => shrK _ rfl x 48 (by omega)
  have d32 : ∀ x, shr .i64 x 32 = x / 2 ^ 32 := fun x => shrK _ rfl x 32 (by omega)
  have d0 : ∀ x, shr .i64 x 0 = x / 2 ^ 0 := fun x => shrK _ rfl x 0 (by omega)
  unfold impl_wrapped.f
  rcases types_cases h0 h1 with rfl | rfl | rfl | rfl | rfl | rfl | rfl | rfl
  · rw [u8_ _ (by simp)]; simp only [Option.bind_some, impl_unsignedType.f, e56, a56, c56]; simp [conv, wrap64] <;> omega
  · rw [u16_ _ (by simp)]; simp only [Option.bind_some, impl_unsignedType.f, e48, a48, c48]; simp [conv, wrap64] <;> omega
  · rw [u32_ _ (by simp)]; simp only [Option.bind_some, impl_unsignedType.f, e32, a32, c32]; simp [conv, wrap64] <;> omega
  · rw [u64_ _ (by simp)]; simp only [Option.bind_some, impl_unsignedType.f, e0, a0, c0]; simp [conv, wrap64] <;> omega
  · rw [u8_ _ (by simp)]; simp only [Option.bind_some, impl_unsignedType.f, e56, b56, d56]; simp [conv, wrap64] <;> omega
  · rw [u16_ _ (by simp)]; simp only [Option.bind_some, impl_unsignedType.f, e48, b48, d48]; simp [conv, wrap64] <;> omega
  · rw [u32_ _ (by simp)]; simp only [Option.bind_some, impl_unsignedType.f, e32, b32, d32]; simp [conv, wrap64] <;> omega
  · rw [u64_ _ (by simp)]; simp only [Option.bind_some, impl_unsignedType.f, e0, b0, d0]; simp [conv, wrap64] <;> omega
theorem into_eq {t n : Int} (hn0 : 0 ≤ n) (hn1 : n < 18446744073709551616) : spec_l13Into.f t n = some (conv t n) := by
  unfold spec_l13Into.f; rw [if_pos ⟨hn0, hn1⟩]
def vval (t n : Int) (s : ByteArray) : Bool :=
  if t = 1 then (n == 0 || n == 1) && s.toList == ([] : List UInt8) else if t = 2 then n == 0 && decide ((s.size : Int) ≤ 3000) else
  if 3 ≤ t ∧ t ≤ 10 then s.toList == ([] : List UInt8) && n == conv t (IntKind.u64.wrap n) else false
theorem spec_valid (t n : Int) (s : ByteArray) : spec_MillValidValue.f t n s = some (vval t n s) := by
  have hr := wrapU_range n
  unfold spec_MillValidValue.f spec_l10Integer.f vval
  by_cases h1 : t = 1
  · simp only [h1]; by_cases a : n = 0 <;> by_cases b : n = 1 <;> simp [a, b]
  · by_cases h2 : t = 2
    · simp only [h2]; by_cases a : n = 0 <;> simp [a]
    · by_cases h3 : 3 ≤ t
      · by_cases h4 : t ≤ 10
        · rw [if_neg h1, if_neg h2, if_pos h3, if_neg h1, if_neg h2, if_pos (show 3 ≤ t ∧ t ≤ 10 from ⟨h3, h4⟩)]
          simp only [Option.bind_some, h4, decide_true, if_true]
          by_cases hs : s.toList = []
          · rw [if_pos hs, into_eq hr.1 hr.2]; simp [hs]
          · rw [if_neg hs]; simp [hs]
        · simp [h1, h2, h3, h4]
      · simp [h1, h2, h3]
theorem impl_valid (t n : Int) (s : ByteArray) : impl_MillValidValue.f t n s = some (vval t n s) := by
  have hr := wrapU_range n
  unfold impl_MillValidValue.f impl_integerType.f vval
  by_cases h1 : t = 1
  · simp only [h1]; by_cases hs : s.toList = [] <;> by_cases a : n = 0 <;> simp [a, hs]
  · by_cases h2 : t = 2
    · simp only [h2]; by_cases a : n = 0 <;> simp [a]
    · by_cases h3 : 3 ≤ t
      · by_cases h4 : t ≤ 10
        · rw [if_neg h1, if_neg h2, if_pos h3, if_neg h1, if_neg h2, if_pos (show 3 ≤ t ∧ t ≤ 10 from ⟨h3, h4⟩)]
          simp only [Option.bind_some, h4, decide_true, if_true]
          by_cases hs : s.toList = []
          · rw [if_pos hs, wrapped_eq h3 h4 hr.1 hr.2]; simp [hs]; rw [Bool.eq_iff_iff, beq_iff_eq, beq_iff_eq]; exact ⟨Eq.symm, Eq.symm⟩
          · rw [if_neg hs]; simp [hs]
        · simp [h1, h2, h3, h4]
      · simp [h1, h2, h3]
end Go.Proofs.Ytdpdpigaegabbaa.Q
end
section
namespace Go.Proofs.Ytdpdpigaegabbaa.EvMore
open Go.RowKit Go.Proofs.YtdpdpigaegabbaaW.PrintWords
theorem ev_pos {α : Type} {c : Prop} [Decidable c] {f g : Nat → Option α} {r : α} (h : c) (k : Ev f r) : Ev (fun n => if c then f n else g n) r := by
  simp only [if_pos h]; exact k
theorem ev_neg {α : Type} {c : Prop} [Decidable c] {f g : Nat → Option α} {r : α} (h : ¬ c) (k : Ev g r) : Ev (fun n => if c then f n else g n) r := by
  simp only [if_neg h]; exact k
theorem ev_val {α β : Type} {o : Option α} {a : α} {f : Nat → α → Option β} {r : β} (h : o = some a) (k : Ev (fun n => f n a) r) : Ev (fun n => o.bind (f n)) r := by
  subst h; simpa using k
theorem ev_bind {α β : Type} {g : Nat → Option α} {f : Nat → α → Option β} {a : α} {r : β} (h : Ev g a) (k : Ev (fun n => f n a) r) : Ev (fun n => (g n).bind (f n)) r := Ev.bind h k
theorem ev_now {α : Type} (r : α) : Ev (fun _ => some r) r := Ev.now r
theorem ev_eq {α : Type} {f : Nat → Option α} {r q : α} (h : Ev f r) (e : r = q) : Ev f q := e ▸ h
theorem ev_step {α : Type} {g : Nat → Option α} {r : α} (k : Ev (fun n => g (n + 1)) r) : Ev g r := Ev.step (f := fun n => g (n + 1)) (fun _ => rfl) k
theorem id64 {n : Int} (h : -9223372036854775808 ≤ n) (h2 : n ≤ 9223372036854775807) : wrap64 n = n := by
  unfold wrap64; omega
end Go.Proofs.Ytdpdpigaegabbaa.EvMore
end
section
namespace Go.Proofs.Ytdpdpigaegabbaa.Q
open Go.RowKit Go.Proofs.YtdpdpigaegabbaaW.PrintWords Go.Proofs.YtdpdpigaegabbaaW.PrintLast Go.Proofs.YtdpdpigaegabbaaW.PrintMore Go.Proofs.Ytdpdpigaegabbaa.Short
attribute [local go_sem] max2_int min2_int max_two min_two max_three min_three max_four min_four   
set_option linter.unusedVariables false
set_option linter.unusedSimpArgs false
mutual
def spec_l12Bin.j0 : Nat → Int → Int → Bool → Option (Int)
  | 0, _, _, _ => none
  | k + 1, x0, x1, x13 => if x13 = true then (some 0) else (if x0 = 1 then (spec_l12Bin.j1 k x1 x0 (x0 == 1)) else (spec_l12Bin.j1 k x1 x0 (x0 == 2)))
def spec_l12Bin.j1 : Nat → Int → Int → Bool → Option (Int)
  | 0, _, _, _ => none
  | k + 1, x1, x14, x15 => if x15 = true then (if x1 = 1 then (some x1) else (some 0)) else (if x14 = 3 then (spec_l12Bin.j2 k x1 x14 (x14 == 3)) else (spec_l12Bin.j2 k x1 x14 (x14 == 4)))
def spec_l12Bin.j2 : Nat → Int → Int → Bool → Option (Int)
  | 0, _, _, _ => none
  | k + 1, x1, x14, x21 => if x21 = true then (some 1) else (if x14 = 5 then (spec_l12Bin.j3 k x1 x14 (x14 == 5)) else (if x14 = 6 then (spec_l12Bin.j3 k x1 x14 (x14 == 6)) else (if x14 = 7 then (spec_l12Bin.j3 k x1 x14 (x14 == 7)) else (spec_l12Bin.j3 k x1 x14 (x14 == 8)))))
def spec_l12Bin.j3 : Nat → Int → Int → Bool → Option (Int)
  | 0, _, _, _ => none
  | k + 1, x1, x14, x24 => if x24 = true then (if x1 = 1 then (some 0) else (some 1)) else (if x14 = 9 then (if x1 = 1 then (some 0) else (some x1)) else ((spec_l10Integer.f x1).bind fun t101 => (if t101 = true then (some x1) else (some 0))))
end
def spec_l12Bin.f (k : Nat) (a0 : Int) (a1 : Int) (a2 : Int) : Option (Int) := if a1 = a2 then (spec_l12Bin.j0 k a0 a1 (a1 == 0)) else (spec_l12Bin.j0 k a0 a1 true)
end Go.Proofs.Ytdpdpigaegabbaa.Q
end
section
namespace Go.Proofs.Ytdpdpigaegabbaa.Q
open Go.RowKit Go.Proofs.YtdpdpigaegabbaaW.PrintWords Go.Proofs.YtdpdpigaegabbaaW.PrintLast Go.Proofs.YtdpdpigaegabbaaW.PrintMore Go.Proofs.Ytdpdpigaegabbaa.Short
attribute [local go_sem] max2_int min2_int max_two min_two max_three min_three max_four min_four   
set_option linter.unusedVariables false
set_option linter.unusedSimpArgs false
def spec_l13Less.f (a0 : Int) (a1 : Int) (a2 : Int) : Option (Bool) := (spec_l10Signed.f a0).bind fun t101 => (if t101 = true then (some (decide (a1 < a2))) else (some (decide ((IntKind.u64.wrap (a1)) < (IntKind.u64.wrap (a2))))))
end Go.Proofs.Ytdpdpigaegabbaa.Q
end
section
namespace Go.Proofs.Ytdpdpigaegabbaa.Q
open Go.RowKit Go.Proofs.YtdpdpigaegabbaaW.PrintWords Go.Proofs.YtdpdpigaegabbaaW.PrintLast Go.Proofs.YtdpdpigaegabbaaW.PrintMore Go.Proofs.Ytdpdpigaegabbaa.Short
attribute [local go_sem] max2_int min2_int max_two min_two max_three min_three max_four min_four   
set_option linter.unusedVariables false
set_option linter.unusedSimpArgs false
def spec_l13Compare.f (a0_0 : Int) (a0_1 : Int) (a0_2 : ByteArray) (a1_0 : Int) (a1_1 : Int) (a1_2 : ByteArray) : Option (Bool × Bool) := if a0_0 = 2 then (some ((Op.bytesLess a0_2.toList a1_2.toList), (a0_2.toList == a1_2.toList))) else ((spec_l13Less.f a0_0 a0_1 a1_1).bind fun t103 => (some (t103, (a0_1 == a1_1))))
end Go.Proofs.Ytdpdpigaegabbaa.Q
end
section
namespace Go.Proofs.Ytdpdpigaegabbaa.Q
open Go.RowKit Go.Proofs.YtdpdpigaegabbaaW.PrintWords Go.Proofs.YtdpdpigaegabbaaW.PrintLast Go.Proofs.YtdpdpigaegabbaaW.PrintMore Go.Proofs.Ytdpdpigaegabbaa.Short
attribute [local go_sem] max2_int min2_int max_two min_two max_three min_three max_four min_four   
set_option linter.unusedVariables false
set_option linter.unusedSimpArgs false
def spec_l13Order.f (a0 : Int) (a1_0 : Int) (a1_1 : Int) (a1_2 : ByteArray) (a2_0 : Int) (a2_1 : Int) (a2_2 : ByteArray) : Option (Bool) := (spec_l13Compare.f a1_0 a1_1 a1_2 a2_0 a2_1 a2_2).bind fun bt103 => (if a0 = 3 then (some bt103.2) else (if a0 = 4 then (some (!bt103.2)) else (if a0 = 5 then (some bt103.1) else (if a0 = 6 then (if bt103.1 = true then (some true) else (some bt103.2)) else (if a0 = 7 then (if bt103.1 = true then (some false) else (some (!bt103.2))) else (some (!bt103.1)))))))
end Go.Proofs.Ytdpdpigaegabbaa.Q
end
section
namespace Go.Proofs.Ytdpdpigaegabbaa.Q
open Go.RowKit Go.Proofs.YtdpdpigaegabbaaW.PrintWords Go.Proofs.YtdpdpigaegabbaaW.PrintLast Go.Proofs.YtdpdpigaegabbaaW.PrintMore Go.Proofs.Ytdpdpigaegabbaa.Short
attribute [local go_sem] max2_int min2_int max_two min_two max_three min_three max_four min_four   
set_option linter.unusedVariables false
set_option linter.unusedSimpArgs false
mutual
def spec_l13Shift.j0 : Nat → Int → Int → Int → Int → Int → Bool → Option (Int × Int × ByteArray)
  | 0, _, _, _, _, _, _ => none
  | k + 1, x0, x1, x2, x3, x9, x27 => if x27 = true then (spec_l13Shift.j1 k x0 x1 x2 (wrap64 (x9))) else (spec_l13Shift.j1 k x0 x1 x2 x3)
def spec_l13Shift.j1 : Nat → Int → Int → Int → Int → Option (Int × Int × ByteArray)
  | 0, _, _, _, _ => none
  | k + 1, x0, x1, x2, x3 => spec_l13Shift.l0 k x0 x1 x3 0 x1 x2 (⟨#[]⟩ : ByteArray)
def spec_l13Shift.l0 : Nat → Int → Int → Int → Int → Int → Int → ByteArray → Option (Int × Int × ByteArray)
  | 0, _, _, _, _, _, _, _ => none
  | k + 1, x0, x1, x3, x11, x105000, x105001, x105002 => if x11 < x3 then (if x0 = 17 then ((spec_l13Num.f x1 (IntKind.u64.wrap ((IntKind.u64.wrap (x105001)) * 2))).bind fun bt105 => (spec_l13Shift.l0 k x0 x1 x3 (wrap64 (x11 + 1)) bt105.1 bt105.2.1 bt105.2.2)) else ((spec_l10Signed.f x1).bind fun t108 => (if t108 = true then (if x105001 < 0 then (if (Int.tmod x105001 2) = 0 then (spec_l13Shift.l0 k x0 x1 x3 (wrap64 (x11 + 1)) x105000 (wrap64 (Int.tdiv x105001 2)) x105002) else (spec_l13Shift.l0 k x0 x1 x3 (wrap64 (x11 + 1)) x105000 (wrap64 ((wrap64 (Int.tdiv x105001 2)) - 1)) x105002)) else (spec_l13Shift.l0 k x0 x1 x3 (wrap64 (x11 + 1)) x105000 (wrap64 (Int.tdiv x105001 2)) x105002)) else (spec_l13Shift.l0 k x0 x1 x3 (wrap64 (x11 + 1)) x105000 (wrap64 (IntKind.u64.wrap (Int.tdiv (IntKind.u64.wrap (x105001)) 2))) x105002)))) else (some (x105000, x105001, x105002))
end
def spec_l13Shift.f (k : Nat) (a0 : Int) (a1 : Int) (a2 : Int) (a3 : Int) : Option (Int × Int × ByteArray) := (spec_l10Bits.f k a1).bind fun t102 => ((spec_l10Signed.f a1).bind fun t103 => (if t103 = true then (if a3 < 0 then (spec_l13Shift.j0 k a0 a1 a2 a3 (IntKind.u64.wrap (t102)) true) else (spec_l13Shift.j0 k a0 a1 a2 a3 (IntKind.u64.wrap (t102)) (decide ((IntKind.u64.wrap (a3)) > (IntKind.u64.wrap (t102)))))) else (spec_l13Shift.j0 k a0 a1 a2 a3 (IntKind.u64.wrap (t102)) (decide ((IntKind.u64.wrap (a3)) > (IntKind.u64.wrap (t102)))))))
end Go.Proofs.Ytdpdpigaegabbaa.Q
end
section
namespace Go.Proofs.Ytdpdpigaegabbaa.Q
open Go.RowKit Go.Proofs.YtdpdpigaegabbaaW.PrintWords Go.Proofs.YtdpdpigaegabbaaW.PrintLast Go.Proofs.YtdpdpigaegabbaaW.PrintMore Go.Proofs.Ytdpdpigaegabbaa.Short
attribute [local go_sem] max2_int min2_int max_two min_two max_three min_three max_four min_four   
set_option linter.unusedVariables false
set_option linter.unusedSimpArgs false
def spec_l13Abs.f (a0 : Int) (a1 : Int) : Option (Int × Bool) := (spec_l10Signed.f a0).bind fun t101 => (if t101 = true then (if a1 < 0 then (some (IntKind.u64.wrap (-(IntKind.u64.wrap (a1))), true)) else (some (IntKind.u64.wrap (a1), false))) else (some (IntKind.u64.wrap (a1), false)))
end Go.Proofs.Ytdpdpigaegabbaa.Q
end
section
namespace Go.Proofs.Ytdpdpigaegabbaa.Q
open Go.RowKit Go.Proofs.YtdpdpigaegabbaaW.PrintWords Go.Proofs.YtdpdpigaegabbaaW.PrintLast Go.Proofs.YtdpdpigaegabbaaW.PrintMore Go.Proofs.Ytdpdpigaegabbaa.Short
attribute [local go_sem] max2_int min2_int max_two min_two max_three min_three max_four min_four   
set_option linter.unusedVariables false
set_option linter.unusedSimpArgs false
def spec_l13Divide.j0 : Nat → Int → Bool → Int → Int → Option (Int × Int × ByteArray × Int × Int × ByteArray)
  | 0, _, _, _, _ => none
  | k + 1, x0, x9, x12, x13 => if x9 = true then ((spec_l13Num.f x0 x12).bind fun bt107 => ((spec_l13Num.f x0 (IntKind.u64.wrap (-x13))).bind fun bt110 => (some (bt107.1, bt107.2.1, bt107.2.2, bt110.1, bt110.2.1, bt110.2.2)))) else ((spec_l13Num.f x0 x12).bind fun bt113 => ((spec_l13Num.f x0 x13).bind fun bt116 => (some (bt113.1, bt113.2.1, bt113.2.2, bt116.1, bt116.2.1, bt116.2.2))))
def spec_l13Divide.f (k : Nat) (a0 : Int) (a1 : Int) (a2 : Int) : Option (Int × Int × ByteArray × Int × Int × ByteArray) := (spec_l13Abs.f a0 a1).bind fun bt103 => ((spec_l13Abs.f a0 a2).bind fun bt105 => (if bt105.1 = 0 then (none) else (if (bt103.2 != bt105.2) = true then (spec_l13Divide.j0 k a0 bt103.2 (IntKind.u64.wrap (-(IntKind.u64.wrap (Int.tdiv bt103.1 bt105.1)))) (Int.tmod bt103.1 bt105.1)) else (spec_l13Divide.j0 k a0 bt103.2 (IntKind.u64.wrap (Int.tdiv bt103.1 bt105.1)) (Int.tmod bt103.1 bt105.1)))))
end Go.Proofs.Ytdpdpigaegabbaa.Q
end
section
namespace Go.Proofs.Ytdpdpigaegabbaa.Q
open Go.RowKit Go.Proofs.YtdpdpigaegabbaaW.PrintWords Go.Proofs.YtdpdpigaegabbaaW.PrintLast Go.Proofs.YtdpdpigaegabbaaW.PrintMore Go.Proofs.Ytdpdpigaegabbaa.Short
attribute [local go_sem] max2_int min2_int max_two min_two max_three min_three max_four min_four   
set_option linter.unusedVariables false
set_option linter.unusedSimpArgs false
mutual
def spec_MillBinary.j0 : Nat → Int → Bool → Int → Int → ByteArray → Int → Int → ByteArray → Option (Int × Int × ByteArray × ByteArray)
  | 0, _, _, _, _, _, _, _, _ => none
  | k + 1, x0, x36, x102000, x102001, x102002, x103000, x103001, x103002 => if x36 = true then (some (0, 0, (⟨#[]⟩ : ByteArray), (⟨#[116, 121, 112, 101]⟩ : ByteArray))) else (if x0 = 1 then (if x102001 = 1 then ((spec_l13Bool.f true).bind fun bt107 => (some (bt107.1, bt107.2.1, bt107.2.2, (⟨#[]⟩ : ByteArray)))) else ((spec_l13Bool.f (x103001 == 1)).bind fun bt110 => (some (bt110.1, bt110.2.1, bt110.2.2, (⟨#[]⟩ : ByteArray))))) else (if x0 = 2 then (if x102001 = 1 then ((spec_l13Bool.f (x103001 == 1)).bind fun bt113 => (some (bt113.1, bt113.2.1, bt113.2.2, (⟨#[]⟩ : ByteArray)))) else ((spec_l13Bool.f false).bind fun bt116 => (some (bt116.1, bt116.2.1, bt116.2.2, (⟨#[]⟩ : ByteArray))))) else (if x0 = 3 then (spec_MillBinary.j1 k x0 (IntKind.u64.wrap (x102001)) (IntKind.u64.wrap (x103001)) x0 (x0 == 3) x102000 x102001 x102002 x103000 x103001 x103002) else (if x0 = 4 then (spec_MillBinary.j1 k x0 (IntKind.u64.wrap (x102001)) (IntKind.u64.wrap (x103001)) x0 (x0 == 4) x102000 x102001 x102002 x103000 x103001 x103002) else (if x0 = 5 then (spec_MillBinary.j1 k x0 (IntKind.u64.wrap (x102001)) (IntKind.u64.wrap (x103001)) x0 (x0 == 5) x102000 x102001 x102002 x103000 x103001 x103002) else (if x0 = 6 then (spec_MillBinary.j1 k x0 (IntKind.u64.wrap (x102001)) (IntKind.u64.wrap (x103001)) x0 (x0 == 6) x102000 x102001 x102002 x103000 x103001 x103002) else (if x0 = 7 then (spec_MillBinary.j1 k x0 (IntKind.u64.wrap (x102001)) (IntKind.u64.wrap (x103001)) x0 (x0 == 7) x102000 x102001 x102002 x103000 x103001 x103002) else (spec_MillBinary.j1 k x0 (IntKind.u64.wrap (x102001)) (IntKind.u64.wrap (x103001)) x0 (x0 == 8) x102000 x102001 x102002 x103000 x103001 x103002))))))))
def spec_MillBinary.j1 : Nat → Int → Int → Int → Int → Bool → Int → Int → ByteArray → Int → Int → ByteArray → Option (Int × Int × ByteArray × ByteArray)
  | 0, _, _, _, _, _, _, _, _, _, _, _ => none
  | k + 1, x0, x8, x9, x44, x67, x102000, x102001, x102002, x103000, x103001, x103002 => if x67 = true then ((spec_l13Order.f x0 x102000 x102001 x102002 x103000 x103001 x103002).bind fun t119 => ((spec_l13Bool.f t119).bind fun bt120 => (some (bt120.1, bt120.2.1, bt120.2.2, (⟨#[]⟩ : ByteArray))))) else (if x44 = 9 then (if x102000 = 2 then (if (wrap64 ((x102002.size : Int) + (x103002.size : Int))) > 3000 then (some (0, 0, (⟨#[]⟩ : ByteArray), (⟨#[108, 111, 110, 103]⟩ : ByteArray))) else (if x102002.size + x103002.size ≤ 9223372036854775807 then ((spec_l13Text.f (x102002 ++ x103002)).bind fun bt123 => (some (bt123.1, bt123.2.1, bt123.2.2, (⟨#[]⟩ : ByteArray)))) else (none))) else ((spec_l13Num.f x102000 (IntKind.u64.wrap (x8 + x9))).bind fun bt126 => (some (bt126.1, bt126.2.1, bt126.2.2, (⟨#[]⟩ : ByteArray))))) else (if x44 = 10 then ((spec_l13Num.f x102000 (IntKind.u64.wrap (x8 - x9))).bind fun bt129 => (some (bt129.1, bt129.2.1, bt129.2.2, (⟨#[]⟩ : ByteArray)))) else (if x44 = 11 then ((spec_l13Num.f x102000 (Go.bits .or .u64 x8 x9)).bind fun bt132 => (some (bt132.1, bt132.2.1, bt132.2.2, (⟨#[]⟩ : ByteArray)))) else (if x44 = 12 then ((spec_l13Num.f x102000 (Go.bits .xor .u64 x8 x9)).bind fun bt135 => (some (bt135.1, bt135.2.1, bt135.2.2, (⟨#[]⟩ : ByteArray)))) else (if x44 = 13 then ((spec_l13Num.f x102000 (IntKind.u64.wrap (x8 * x9))).bind fun bt138 => (some (bt138.1, bt138.2.1, bt138.2.2, (⟨#[]⟩ : ByteArray)))) else (if x44 = 16 then ((spec_l13Num.f x102000 (Go.bits .and .u64 x8 x9)).bind fun bt141 => (some (bt141.1, bt141.2.1, bt141.2.2, (⟨#[]⟩ : ByteArray)))) else (if x44 = 17 then ((spec_l13Shift.f k x0 x102000 x102001 x103001).bind fun bt144 => (some (bt144.1, bt144.2.1, bt144.2.2, (⟨#[]⟩ : ByteArray)))) else (if x44 = 18 then ((spec_l13Shift.f k x0 x102000 x102001 x103001).bind fun bt147 => (some (bt147.1, bt147.2.1, bt147.2.2, (⟨#[]⟩ : ByteArray)))) else (if x103001 = 0 then (some (0, 0, (⟨#[]⟩ : ByteArray), (⟨#[100, 105, 118, 105, 100, 101]⟩ : ByteArray))) else ((spec_l13Divide.f k x102000 x102001 x103001).bind fun bt150 => (if x0 = 14 then (some (bt150.1, bt150.2.1, bt150.2.2.1, (⟨#[]⟩ : ByteArray))) else (some (bt150.2.2.2.1, bt150.2.2.2.2.1, bt150.2.2.2.2.2, (⟨#[]⟩ : ByteArray))))))))))))))
end
def spec_MillBinary.f (k : Nat) (a0 : Int) (a1_0 : Int) (a1_1 : Int) (a1_2 : ByteArray) (a2_0 : Int) (a2_1 : Int) (a2_2 : ByteArray) : Option (Int × Int × ByteArray × ByteArray) := (spec_MillValidValue.f a1_0 a1_1 a1_2).bind fun t104 => (if t104 = true then ((spec_MillValidValue.f a2_0 a2_1 a2_2).bind fun t105 => (if t105 = true then (if a0 < 1 then (spec_MillBinary.j0 k a0 true a1_0 a1_1 a1_2 a2_0 a2_1 a2_2) else (if a0 > 18 then (spec_MillBinary.j0 k a0 true a1_0 a1_1 a1_2 a2_0 a2_1 a2_2) else ((spec_l12Bin.f k a0 a1_0 a2_0).bind fun t106 => (spec_MillBinary.j0 k a0 (t106 == 0) a1_0 a1_1 a1_2 a2_0 a2_1 a2_2)))) else (spec_MillBinary.j0 k a0 true a1_0 a1_1 a1_2 a2_0 a2_1 a2_2))) else (spec_MillBinary.j0 k a0 true a1_0 a1_1 a1_2 a2_0 a2_1 a2_2))
end Go.Proofs.Ytdpdpigaegabbaa.Q
end
section
namespace Go.Proofs.Ytdpdpigaegabbaa.Q
open Go.RowKit Go.Proofs.YtdpdpigaegabbaaW.PrintWords Go.Proofs.YtdpdpigaegabbaaW.PrintLast Go.Proofs.YtdpdpigaegabbaaW.PrintMore Go.Proofs.Ytdpdpigaegabbaa.EvMore
set_option linter.unusedVariables false
set_option linter.unusedSimpArgs false
theorem num_spec {t n : Int} (hn0 : 0 ≤ n) (hn1 : n < 18446744073709551616) : spec_l13Num.f t n = some (t, conv t n, ⟨#[]⟩) := by
  unfold spec_l13Num.f; rw [into_eq hn0 hn1]; rfl
theorem num_impl {t n : Int} (h0 : 3 ≤ t) (h1 : t ≤ 10) (hn0 : 0 ≤ n) (hn1 : n < 18446744073709551616) : impl_mInt.f t n = some (t, conv t n, ⟨#[]⟩) := by
  unfold impl_mInt.f; rw [wrapped_eq h0 h1 hn0 hn1]; rfl
def bitsN (t : Int) : Nat := if t = 3 ∨ t = 7 then 8 else if t = 4 ∨ t = 8 then 16 else if t = 5 ∨ t = 9 then 32 else 64
theorem bits_ev (t : Int) : Ev (fun k => spec_l10Bits.f k t) (bitsN t : Int) := by
  have h := Ev.of (fun k => spec_l10Bits.mono t k) (l10Bits_some t)
  refine ev_eq h ?_
  unfold bitsN; (repeat' split) <;> rfl
theorem bits_impl {t : Int} (h0 : 3 ≤ t) (h1 : t ≤ 10) : impl_bitsOf.f t = some (bitsN t : Int) := by
  rcases types_cases h0 h1 with rfl | rfl | rfl | rfl | rfl | rfl | rfl | rfl <;> decide +kernel
theorem signed_spec (t : Int) : spec_l10Signed.f t = some (decide (7 ≤ t ∧ t ≤ 10)) := by unfold spec_l10Signed.f; by_cases h : t ≥ 7 <;> simp [h]
theorem bitsN_le (t : Int) : bitsN t ≤ 64 := by unfold bitsN; (repeat' split) <;> omega
def inT (t n : Int) : Prop := n = conv t (IntKind.u64.wrap n)
theorem conv_wrap {t n : Int} (h0 : 3 ≤ t) (h1 : t ≤ 10) : conv t (IntKind.u64.wrap n) = conv t n := by
  rw [wrapU]
  rcases types_cases h0 h1 with rfl | rfl | rfl | rfl | rfl | rfl | rfl | rfl <;> simp [conv, wrap64] <;> omega
theorem conv_twice {t x : Int} (h0 : 3 ≤ t) (h1 : t ≤ 10) : conv t (IntKind.u64.wrap (IntKind.u64.wrap (conv t x) * 2)) = conv t (x * 2) := by
  rw [wrapU, wrapU]
  rcases types_cases h0 h1 with rfl | rfl | rfl | rfl | rfl | rfl | rfl | rfl <;> simp [conv, wrap64] <;> omega
theorem conv_range {t : Int} (n : Int) (h0 : 3 ≤ t) (h1 : t ≤ 10) : -9223372036854775808 ≤ conv t n ∧ conv t n ≤ 9223372036854775807 := by
  rcases types_cases h0 h1 with rfl | rfl | rfl | rfl | rfl | rfl | rfl | rfl <;> simp [conv, wrap64] <;> omega
theorem pow_step (a : Int) (i : Nat) : a / 2 ^ i / 2 = a / 2 ^ (i + 1) := by
  have hp : (0 : Int) < 2 ^ i := Int.pow_pos (by decide)
  rw [Int.ediv_ediv, if_neg (fun h => by omega), Int.pow_succ, Int.sub_zero]
def shiftC (t b : Int) : Nat := if b < 0 ∨ b > (bitsN t : Int) then bitsN t else b.toNat
def shiftV (op t a b : Int) : Int := if op = 17 then conv t (a * 2 ^ shiftC t b) else if 7 ≤ t then a / 2 ^ shiftC t b else wrap64 (IntKind.u64.wrap a / 2 ^ shiftC t b)
def divQ (t a b : Int) : Int := if 7 ≤ t then conv t (Int.tdiv a b) else conv t (Int.tdiv (IntKind.u64.wrap a) (IntKind.u64.wrap b))
def divR (t a b : Int) : Int := if 7 ≤ t then conv t (Int.tmod a b) else conv t (Int.tmod (IntKind.u64.wrap a) (IntKind.u64.wrap b))
theorem inT_range {t n : Int} (h0 : 3 ≤ t) (h1 : t ≤ 10) (h : inT t n) :
    (7 ≤ t → -(2 ^ bitsN t) ≤ 2 * n ∧ 2 * n < 2 ^ bitsN t) ∧ (t ≤ 6 → 0 ≤ IntKind.u64.wrap n ∧ IntKind.u64.wrap n < 2 ^ bitsN t) ∧ (t ≤ 5 → 0 ≤ n ∧ n < 2 ^ bitsN t) := by
  unfold inT at h
  rw [wrapU] at h ⊢
  rcases types_cases h0 h1 with rfl | rfl | rfl | rfl | rfl | rfl | rfl | rfl <;> simp [conv, wrap64] at h <;> simp [bitsN] <;> omega
theorem conv_small {t x : Int} (h0 : 3 ≤ t) (h1 : t ≤ 10) (hs : 7 ≤ t → -(2 ^ bitsN t) ≤ 2 * x ∧ 2 * x < 2 ^ bitsN t) (hu : t ≤ 6 → 0 ≤ x ∧ x < 2 ^ bitsN t) : conv t x = if 7 ≤ t then x else wrap64 x := by
  rcases types_cases h0 h1 with rfl | rfl | rfl | rfl | rfl | rfl | rfl | rfl <;> simp [bitsN] at hs hu <;> simp [conv, wrap64] <;> omega
theorem conv_shl {t : Int} (a : Int) (h0 : 3 ≤ t) (h1 : t ≤ 10) : conv t (a * 2 ^ bitsN t) = 0 := by
  rcases types_cases h0 h1 with rfl | rfl | rfl | rfl | rfl | rfl | rfl | rfl <;> simp [conv, wrap64, bitsN] <;> omega
theorem conv_zero {t : Int} (h0 : 3 ≤ t) (h1 : t ≤ 10) : conv t 0 = 0 := by
  rcases types_cases h0 h1 with rfl | rfl | rfl | rfl | rfl | rfl | rfl | rfl <;> decide +kernel
theorem conv_ones {t : Int} (h0 : 7 ≤ t) (h1 : t ≤ 10) : conv t 18446744073709551615 = -1 := by
  rcases (by omega : t = 7 ∨ t = 8 ∨ t = 9 ∨ t = 10) with rfl | rfl | rfl | rfl <;> decide +kernel
theorem conv_lin {t : Int} (a p : Int) (h0 : 3 ≤ t) (h1 : t ≤ 10) : conv t (IntKind.u64.wrap (IntKind.u64.wrap a * p)) = conv t (a * p) := by
  rw [conv_wrap h0 h1, wrapU]
  have e : a * p = (a % 18446744073709551616) * p + 18446744073709551616 * ((a / 18446744073709551616) * p) := by
    have := Int.emod_add_mul_ediv a 18446744073709551616
    rw [← Int.mul_assoc, ← Int.add_mul, this]
  rw [e]
  generalize (a % 18446744073709551616) * p = x
  generalize (a / 18446744073709551616) * p = y
  rcases types_cases h0 h1 with rfl | rfl | rfl | rfl | rfl | rfl | rfl | rfl <;> simp [conv, wrap64] <;> omega
end Go.Proofs.Ytdpdpigaegabbaa.Q
end
section
namespace Go.Proofs.Ytdpdpigaegabbaa.Q
open Go.RowKit Go.Proofs.YtdpdpigaegabbaaW.PrintWords Go.Proofs.YtdpdpigaegabbaaW.PrintLast Go.Proofs.YtdpdpigaegabbaaW.PrintMore Go.Proofs.Ytdpdpigaegabbaa.EvMore
set_option linter.unusedVariables false
set_option linter.unusedSimpArgs false
def binT (op t : Int) : Int :=
  if op ≤ 2 then (if t = 1 then 1 else 0) else if op ≤ 4 then (if 1 ≤ t ∧ t ≤ 10 then 1 else 0) else if op ≤ 8 then (if 2 ≤ t ∧ t ≤ 10 then 1 else 0) else
  if op = 9 then (if 2 ≤ t ∧ t ≤ 10 then t else 0) else (if 3 ≤ t ∧ t ≤ 10 then t else 0)
def binOk (o : Option (Int × Bool)) (b : Int) : Bool := match o with
  | some (x, ok) => (ok == decide (¬ b = 0)) && (decide (b = 0) || (x == b))
  | none => false
theorem impl_all : ∀ o : Fin 18, ∀ u : Fin 11, u.val = 0 ∨ binOk (impl_binType.f ((o.val : Int) + 1) (u.val : Int) (u.val : Int)) (binT ((o.val : Int) + 1) (u.val : Int)) = true := by decide +kernel
theorem impl_bin (op t : Int) (h1 : 1 ≤ op) (h2 : op ≤ 18) (ht : 1 ≤ t) (ht2 : t ≤ 10) : ∃ u, impl_binType.f op t t = some (u, decide (¬ binT op t = 0)) ∧ (¬ binT op t = 0 → u = binT op t) := by
  have h := impl_all ⟨(op - 1).toNat, by omega⟩ ⟨t.toNat, by omega⟩
  simp only [show (((op - 1).toNat : Nat) : Int) + 1 = op by omega, show ((t.toNat : Nat) : Int) = t by omega] at h
  rcases h with h | h
  · omega
  · unfold binOk at h
    split at h
    · rename_i x ok e
      simp only [Bool.and_eq_true, Bool.or_eq_true, beq_iff_eq, decide_eq_true_eq] at h
      exact ⟨x, by rw [e, h.1], fun n => h.2.resolve_left n⟩
    · cases h
theorem unsigned_impl {t : Int} (h0 : 3 ≤ t) : impl_unsignedType.f t = some (decide (t ≤ 6)) := by unfold impl_unsignedType.f; rw [if_pos h0]
set_option maxRecDepth 20000 in
theorem shift_impl {op t : Int} (ho : op = 17 ∨ op = 18) (h0 : 3 ≤ t) (h1 : t ≤ 10) (a b : Int) (ax bx : ByteArray) (ha : -9223372036854775808 ≤ a ∧ a ≤ 9223372036854775807) (hb : -9223372036854775808 ≤ b ∧ b ≤ 9223372036854775807) (hT : inT t a) (hB : inT t b) :
    Ev (fun k => impl_MillBinary.j2 k op t (IntKind.u64.wrap a) (IntKind.u64.wrap b) true t a ax t b bx 0 0 ⟨#[]⟩) (t, shiftV op t a b, ⟨#[]⟩, ⟨#[]⟩) := by
  have hle := bitsN_le t
  have hpos : 8 ≤ bitsN t := by unfold bitsN; (repeat' split) <;> omega
  have hn : IntKind.u64.wrap (bitsN t : Int) = (bitsN t : Int) := by rw [wrapU]; omega
  have hrA := wrapU_range a
  obtain ⟨rS, rU, rP⟩ := inT_range h0 h1 hT
  obtain ⟨sS, sU, sP⟩ := inT_range h0 h1 hB
  have z4 : ∀ f : Bool, Ev (fun k => impl_MillBinary.j4 k t f) (t, if f = true then conv t 18446744073709551615 else 0, ⟨#[]⟩, ⟨#[]⟩) := by
    intro f
    refine ev_step ?_
    cases f
    · simp only [impl_MillBinary.j4, Bool.false_eq_true, if_false]
      exact ev_val (num_impl h0 h1 (by decide) (by decide)) (ev_eq (ev_now _) (by rw [conv_zero h0 h1]))
    · simp only [impl_MillBinary.j4, if_true]
      exact ev_val (num_impl h0 h1 (by decide) (by decide)) (ev_now _)
  have j3T : shiftC t b = bitsN t → Ev (fun k => impl_MillBinary.j3 k op t (IntKind.u64.wrap a) (IntKind.u64.wrap b) (decide (¬ t ≤ 6)) true t a ax) (t, shiftV op t a b, ⟨#[]⟩, ⟨#[]⟩) := by
    intro hc
    refine ev_step ?_
    simp only [impl_MillBinary.j3, if_true]
    rcases ho with rfl | rfl
    · refine ev_neg (by decide) (ev_eq (z4 false) ?_)
      simp only [shiftV, if_true, hc, conv_shl a h0 h1]; rfl
    · refine ev_pos rfl ?_
      by_cases s : t ≤ 6
      · refine ev_neg (by simp [s]) (ev_eq (z4 false) ?_)
        have := rU s
        have e : IntKind.u64.wrap a / 2 ^ bitsN t = 0 := Int.ediv_eq_zero_of_lt this.1 this.2
        unfold shiftV; rw [hc, if_neg (show ¬ (18 : Int) = 17 by decide), if_neg (show ¬ 7 ≤ t by omega), e, show wrap64 0 = 0 from by decide +kernel]; rfl
      · refine ev_pos (by simp [s]) (ev_eq (z4 _) ?_)
        have := rS (by omega)
        unfold shiftV; rw [hc, if_neg (show ¬ (18 : Int) = 17 by decide), if_pos (show 7 ≤ t by omega)]
        by_cases n : a < 0
        · have e : a / 2 ^ bitsN t = -1 := by
            have hp : (0 : Int) < 2 ^ bitsN t := Int.pow_pos (by decide)
            generalize (2 : Int) ^ bitsN t = z at hp this
            refine Int.le_antisymm ?_ ?_
            · have := Int.ediv_neg_of_neg_of_pos n hp; omega
            · exact Int.le_ediv_of_mul_le hp (by omega)
          simp only [n, decide_true, if_true, conv_ones (show 7 ≤ t by omega) h1, e]
        · have e : a / 2 ^ bitsN t = 0 := Int.ediv_eq_zero_of_lt (by omega) (by omega)
          simp only [n, decide_false, Bool.false_eq_true, if_false, e]
  have j3F : 0 ≤ b → b < (bitsN t : Int) → Ev (fun k => impl_MillBinary.j3 k op t (IntKind.u64.wrap a) (IntKind.u64.wrap b) (decide (¬ t ≤ 6)) false t a ax) (t, shiftV op t a b, ⟨#[]⟩, ⟨#[]⟩) := by
    intro b0 b1
    have eb : IntKind.u64.wrap b = ((b.toNat : Nat) : Int) := by rw [wrapU]; omega
    have hc : shiftC t b = b.toNat := by unfold shiftC; rw [if_neg (by omega)]
    have bl : b.toNat ≤ 64 := by omega
    have hp : (0 : Int) < 2 ^ b.toNat := Int.pow_pos (by decide)
    refine ev_step ?_
    simp only [impl_MillBinary.j3, Bool.false_eq_true, if_false, eb]
    rcases ho with rfl | rfl
    · have hr := wrapU_range (IntKind.u64.wrap a * 2 ^ b.toNat)
      refine ev_pos rfl (ev_pos (by omega) ?_)
      rw [shlU _ _ bl, ← wrapU]
      refine ev_val (num_impl h0 h1 hr.1 hr.2) (ev_eq (ev_now _) ?_)
      simp only [shiftV, if_true, hc, conv_lin a _ h0 h1]
    · refine ev_neg (by decide) ?_
      by_cases s : t ≤ 6
      · refine ev_neg (by simp [s]) (ev_pos (by omega) ?_)
        rw [shrK .u64 rfl _ _ bl]
        have r0 : 0 ≤ IntKind.u64.wrap a / 2 ^ b.toNat := Int.ediv_nonneg hrA.1 (by omega)
        have r1 : IntKind.u64.wrap a / 2 ^ b.toNat ≤ IntKind.u64.wrap a := Int.ediv_le_self _ hrA.1
        refine ev_val (num_impl h0 h1 r0 (by omega)) (ev_eq (ev_now _) ?_)
        have := rU s
        unfold shiftV; rw [hc, if_neg (show ¬ (18 : Int) = 17 by decide), if_neg (show ¬ 7 ≤ t by omega), conv_small h0 h1 (fun h => by omega) (fun _ => ⟨r0, by omega⟩), if_neg (by omega)]
      · refine ev_pos (by simp [s]) (ev_pos (by omega) ?_)
        rw [shrK .i64 rfl _ _ bl]
        have hr := wrapU_range (a / 2 ^ b.toNat)
        refine ev_val (num_impl h0 h1 hr.1 hr.2) (ev_eq (ev_now _) ?_)
        have := rS (by omega)
        have q1 : (0 ≤ a → 0 ≤ a / 2 ^ b.toNat ∧ a / 2 ^ b.toNat ≤ a) := fun h => ⟨Int.ediv_nonneg h (by omega), Int.ediv_le_self _ h⟩
        have q2 : (a < 0 → a / 2 ^ b.toNat < 0 ∧ a ≤ a / 2 ^ b.toNat) := fun h => ⟨Int.ediv_neg_of_neg_of_pos h hp, Int.le_ediv_of_mul_le hp (by
          have h3 : (1 : Int) ≤ 2 ^ b.toNat := hp
          have := Int.mul_le_mul_of_nonpos_left (Int.le_of_lt h) h3
          rwa [Int.mul_one] at this)⟩
        unfold shiftV; rw [hc, if_neg (show ¬ (18 : Int) = 17 by decide), if_pos (show 7 ≤ t by omega), conv_wrap h0 h1, conv_small h0 h1 (fun _ => ?_) (fun h => by omega), if_pos (show 7 ≤ t by omega)]
        generalize a / 2 ^ b.toNat = z at q1 q2 ⊢
        generalize (2 : Int) ^ bitsN t = y at this ⊢
        omega
  refine ev_step ?_
  simp only [impl_MillBinary.j2, if_true]
  refine ev_val (unsigned_impl h0) ?_
  by_cases s : t ≤ 6
  · simp only [s, decide_true, if_true, Bool.not_true]
    refine ev_val (bits_impl h0 h1) ?_
    rw [hn]
    have e6 : decide (¬ t ≤ 6) = false := by simp [s]
    simp only [e6] at j3T j3F
    by_cases g : IntKind.u64.wrap b ≥ (bitsN t : Int)
    · rw [decide_eq_true g]
      refine j3T ?_
      unfold shiftC
      rw [wrapU] at g
      by_cases h : b < 0 ∨ b > (bitsN t : Int)
      · rw [if_pos h]
      · rw [if_neg h]; omega
    · rw [decide_eq_false g]
      rw [wrapU] at g
      exact j3F (by omega) (by omega)
  · have e6 : decide (¬ t ≤ 6) = true := by simp [s]
    simp only [s, decide_false, Bool.false_eq_true, if_false, Bool.not_false]
    simp only [e6] at j3T j3F
    by_cases n : b < 0
    · exact ev_pos n (j3T (by unfold shiftC; rw [if_pos (Or.inl n)]))
    · refine ev_neg n (ev_val (bits_impl h0 h1) ?_)
      rw [hn]
      by_cases g : IntKind.u64.wrap b ≥ (bitsN t : Int)
      · rw [decide_eq_true g]
        refine j3T ?_
        unfold shiftC
        rw [wrapU] at g
        by_cases h : b < 0 ∨ b > (bitsN t : Int)
        · rw [if_pos h]
        · rw [if_neg h]; omega
      · rw [decide_eq_false g]
        rw [wrapU] at g
        exact j3F (by omega) (by omega)
end Go.Proofs.Ytdpdpigaegabbaa.Q
end
section
namespace Go.Proofs.Ytdpdpigaegabbaa.Q
open Go.RowKit Go.Proofs.YtdpdpigaegabbaaW.PrintWords Go.Proofs.YtdpdpigaegabbaaW.PrintLast Go.Proofs.YtdpdpigaegabbaaW.PrintMore Go.Proofs.Ytdpdpigaegabbaa.EvMore
set_option linter.unusedVariables false
set_option linter.unusedSimpArgs false
def sgn (l g : Bool) : Int := if l then -1 else if g then 1 else 0
theorem vval_num {t n : Int} {s : ByteArray} (h0 : 3 ≤ t) (h1 : t ≤ 10) (h : vval t n s = true) : inT t n ∧ s.toList = [] := by
  unfold vval at h
  rw [if_neg (by omega), if_neg (by omega), if_pos ⟨h0, h1⟩] at h
  simp only [Bool.and_eq_true, beq_iff_eq] at h
  exact ⟨h.2, h.1⟩
theorem vval_type {t n : Int} {s : ByteArray} (h : vval t n s = true) : 1 ≤ t ∧ t ≤ 10 := by
  unfold vval at h
  by_cases a : t = 1
  · omega
  · rw [if_neg a] at h
    by_cases b : t = 2
    · omega
    · rw [if_neg b] at h
      by_cases c : 3 ≤ t ∧ t ≤ 10
      · omega
      · rw [if_neg c] at h; cases h
def ordB (op : Int) (l g : Bool) : Bool := if op = 3 then !l && !g else if op = 4 then !(!l && !g) else if op = 5 then l else if op = 6 then l || (!l && !g) else if op = 7 then !l && !(!l && !g) else !l
def bval (b : Bool) : Int × Int × ByteArray × ByteArray := (1, if b = true then 1 else 0, ⟨#[]⟩, ⟨#[]⟩)
end Go.Proofs.Ytdpdpigaegabbaa.Q
end
section
namespace Go.Proofs.Ytdpdpigaegabbaa.Q
open Go.RowKit Go.Proofs.YtdpdpigaegabbaaW.PrintWords Go.Proofs.YtdpdpigaegabbaaW.PrintLast Go.Proofs.YtdpdpigaegabbaaW.PrintMore Go.Proofs.Ytdpdpigaegabbaa.EvMore
set_option linter.unusedVariables false
set_option linter.unusedSimpArgs false
theorem vval_mk {t n : Int} (h0 : 3 ≤ t) (h1 : t ≤ 10) (h : inT t n) : vval t n ⟨#[]⟩ = true := by
  unfold vval
  unfold inT at h
  rw [if_neg (by omega), if_neg (by omega), if_pos ⟨h0, h1⟩, ← h]
  simp only [beq_self_eq_true, Bool.and_true]
  rw [ByteArray.toList_eq]
  rfl
theorem inT_conv {t : Int} (x : Int) (h0 : 3 ≤ t) (h1 : t ≤ 10) : inT t (conv t x) := by
  unfold inT
  rw [conv_wrap h0 h1]
  rcases types_cases h0 h1 with rfl | rfl | rfl | rfl | rfl | rfl | rfl | rfl <;> simp [conv, wrap64] <;> omega
theorem inT_small {t k : Int} (h0 : 3 ≤ t) (h1 : t ≤ 10) (k0 : 0 ≤ k) (k1 : k ≤ 70) : inT t k := by
  unfold inT
  rw [conv_wrap h0 h1]
  rcases types_cases h0 h1 with rfl | rfl | rfl | rfl | rfl | rfl | rfl | rfl <;> simp [conv, wrap64] <;> omega
theorem impl_top (op t an bn : Int) (ax bx : ByteArray) (h9 : 9 ≤ op) (h2 : op ≤ 18) (h0 : 3 ≤ t) (h1 : t ≤ 10) (Va : vval t an ax = true) (Vb : vval t bn bx = true) (r : Int × Int × ByteArray × ByteArray)
    (hr : Ev (fun k => impl_MillBinary.j1 k op t (IntKind.u64.wrap an) (IntKind.u64.wrap bn) op false t an ax t bn bx 0 0 ⟨#[]⟩) r) : Ev (fun k => impl_MillBinary.f k op t an ax t bn bx) r := by
  have hb : binT op t = t := by
    unfold binT
    rw [if_neg (by omega), if_neg (by omega), if_neg (by omega)]
    split
    · rw [if_pos (by omega)]
    · rw [if_pos (by omega)]
  have nz : ¬ binT op t = 0 := by omega
  obtain ⟨u, hu, hU⟩ := impl_bin op t (by omega) h2 (by omega) h1
  rw [decide_eq_true nz] at hu
  have hut : u = t := (hU nz).trans hb
  subst hut
  refine ev_val (impl_valid _ _ _) (ev_pos Va (ev_val (impl_valid _ _ _) (ev_pos Vb (ev_neg (by omega) ?_))))
  rw [decide_eq_false (by omega : ¬ op > 18)]
  refine ev_step ?_
  simp only [impl_MillBinary.j0, Bool.false_eq_true, if_false, hu, Option.bind_some, if_true]
  refine ev_neg (by omega) (ev_neg (by omega) (ev_neg (by omega) (ev_neg (by omega) (ev_neg (by omega) (ev_neg (by omega) (ev_neg (by omega) ?_))))))
  rw [show (op == 8) = false from by simp; omega]
  exact hr
theorem impl_num (op t an bn : Int) (ax bx : ByteArray) (h0 : 3 ≤ t) (h1 : t ≤ 10) (Va : vval t an ax = true) (Vb : vval t bn bx = true) (X : Int) (X0 : 0 ≤ X) (X1 : X < 18446744073709551616)
    (hX : op = 9 ∧ X = IntKind.u64.wrap (IntKind.u64.wrap an + IntKind.u64.wrap bn) ∨ op = 11 ∧ X = Go.bits .or .u64 (IntKind.u64.wrap an) (IntKind.u64.wrap bn) ∨ op = 12 ∧ X = Go.bits .xor .u64 (IntKind.u64.wrap an) (IntKind.u64.wrap bn) ∨ op = 16 ∧ X = Go.bits .and .u64 (IntKind.u64.wrap an) (IntKind.u64.wrap bn)) :
    Ev (fun k => impl_MillBinary.f k op t an ax t bn bx) (t, conv t X, ⟨#[]⟩, ⟨#[]⟩) := by
  have t2 : ¬ t = 2 := by omega
  refine impl_top op t an bn ax bx (by omega) (by omega) h0 h1 Va Vb _ (ev_step ?_)
  simp only [impl_MillBinary.j1, Bool.false_eq_true, if_false]
  have q : ∀ Y, Y = X → Ev (fun _ : Nat => (impl_mInt.f t Y).bind fun bt => some (bt.1, bt.2.1, bt.2.2, (⟨#[]⟩ : ByteArray))) (t, conv t X, ⟨#[]⟩, ⟨#[]⟩) := by
    intro Y e; subst e; exact ev_val (num_impl h0 h1 X0 X1) (ev_now _)
  rcases hX with ⟨rfl, e⟩ | ⟨rfl, e⟩ | ⟨rfl, e⟩ | ⟨rfl, e⟩
  all_goals repeat first | (with_reducible exact q _ e.symm) | (with_reducible refine ev_pos rfl ?_) | refine ev_neg (by decide) ?_ | refine ev_neg t2 ?_
theorem impl_shift (op t an bn : Int) (ax bx : ByteArray) (ho : op = 17 ∨ op = 18) (h0 : 3 ≤ t) (h1 : t ≤ 10) (ha : -9223372036854775808 ≤ an ∧ an ≤ 9223372036854775807) (hb : -9223372036854775808 ≤ bn ∧ bn ≤ 9223372036854775807) (Va : vval t an ax = true) (Vb : vval t bn bx = true) :
    Ev (fun k => impl_MillBinary.f k op t an ax t bn bx) (t, shiftV op t an bn, ⟨#[]⟩, ⟨#[]⟩) := by
  refine impl_top op t an bn ax bx (by omega) (by omega) h0 h1 Va Vb _ (ev_step ?_)
  simp only [impl_MillBinary.j1, Bool.false_eq_true, if_false]
  refine ev_neg (by omega) (ev_neg (by omega) (ev_neg (by omega) (ev_neg (by omega) (ev_neg (by omega) (ev_neg (by omega) ?_)))))
  have hs := shift_impl (op := op) ho h0 h1 an bn ax bx ha hb (vval_num h0 h1 Va).1 (vval_num h0 h1 Vb).1
  by_cases b : op = 17
  · refine ev_pos b ?_
    rw [show (op == 17) = true from by simp [b]]; exact hs
  · refine ev_neg b ?_
    rw [show (op == 18) = true from by simp; omega]; exact hs
theorem bv_or (a b : BitVec 64) : (a &&& b) + (a ^^^ b) = a ||| b := by
  have h : (a &&& b) &&& (a ^^^ b) = 0#64 := by
    ext i hi
    simp only [BitVec.getElem_and, BitVec.getElem_xor, BitVec.getElem_zero]
    cases a[i] <;> cases b[i] <;> rfl
  rw [BitVec.add_eq_or_of_and_eq_zero _ _ h]
  ext i hi
  simp only [BitVec.getElem_and, BitVec.getElem_xor, BitVec.getElem_or]
  cases a[i] <;> cases b[i] <;> rfl
theorem bits_range (op : BinOp) (x y : Int) : 0 ≤ Go.bits op .u64 x y ∧ Go.bits op .u64 x y < 18446744073709551616 := by unfold Go.bits; exact wrapU_range _
theorem or_sum (x y : Int) : IntKind.u64.wrap (Go.bits .and .u64 x y + Go.bits .xor .u64 x y) = Go.bits .or .u64 x y := by
  have h := congrArg BitVec.toNat (bv_or (BitVec.ofInt 64 x) (BitVec.ofInt 64 y))
  rw [BitVec.toNat_add] at h
  show IntKind.u64.wrap (IntKind.u64.wrap ((BitVec.ofInt 64 x &&& BitVec.ofInt 64 y).toNat : Int) + IntKind.u64.wrap ((BitVec.ofInt 64 x ^^^ BitVec.ofInt 64 y).toNat : Int)) = IntKind.u64.wrap ((BitVec.ofInt 64 x ||| BitVec.ofInt 64 y).toNat : Int)
  rw [← h]
  simp only [wrapU]
  omega
theorem conv_add {t : Int} (p q : Int) (h0 : 3 ≤ t) (h1 : t ≤ 10) : conv t (IntKind.u64.wrap (IntKind.u64.wrap (conv t p) + IntKind.u64.wrap (conv t q))) = conv t (IntKind.u64.wrap (p + q)) := by
  simp only [wrapU]
  rcases types_cases h0 h1 with rfl | rfl | rfl | rfl | rfl | rfl | rfl | rfl <;> simp [conv, wrap64] <;> omega
theorem set_sum {t : Int} (x y : Int) (h0 : 3 ≤ t) (h1 : t ≤ 10) : conv t (IntKind.u64.wrap (IntKind.u64.wrap (conv t (Go.bits .and .u64 x y)) + IntKind.u64.wrap (conv t (Go.bits .xor .u64 x y)))) = conv t (Go.bits .or .u64 x y) := by
  rw [conv_add _ _ h0 h1, or_sum]
theorem shiftC_nat {t : Int} (k : Nat) : shiftC t (k : Int) = min k (bitsN t) := by
  unfold shiftC
  split <;> omega
theorem bitsN_pos (t : Int) : 8 ≤ bitsN t := by unfold bitsN; (repeat' split) <;> omega
theorem div_bounds (a : Int) (M : Int) (m : Nat) (h : -M ≤ 2 * a ∧ 2 * a < M) : -M ≤ 2 * (a / 2 ^ m) ∧ 2 * (a / 2 ^ m) < M := by
  induction m with
  | zero => simpa using h
  | succ m ih => rw [← pow_step]; generalize a / 2 ^ m = y at ih; omega
theorem div_boundsU (a : Int) (M : Int) (m : Nat) (h : 0 ≤ a ∧ a < M) : 0 ≤ a / 2 ^ m ∧ a / 2 ^ m < M := by
  induction m with
  | zero => simpa using h
  | succ m ih => rw [← pow_step]; generalize a / 2 ^ m = y at ih; omega
theorem shift_inT {op t a : Int} (ho : op = 17 ∨ op = 18) (h0 : 3 ≤ t) (h1 : t ≤ 10) (hT : inT t a) (k : Nat) : inT t (shiftV op t a (k : Int)) := by
  unfold shiftV
  split
  · exact inT_conv _ h0 h1
  · obtain ⟨rS, rU, _⟩ := inT_range h0 h1 hT
    split
    · rename_i h7
      have hb := div_bounds a _ (shiftC t (k : Int)) (rS h7)
      have := conv_small h0 h1 (x := a / 2 ^ shiftC t (k : Int)) (fun _ => hb) (fun h => by omega)
      rw [if_pos h7] at this
      rw [← this]
      exact inT_conv _ h0 h1
    · rename_i h7
      have hb := div_boundsU (IntKind.u64.wrap a) _ (shiftC t (k : Int)) (rU (by omega))
      have := conv_small h0 h1 (x := IntKind.u64.wrap a / 2 ^ shiftC t (k : Int)) (fun h => by omega) (fun _ => hb)
      rw [if_neg h7] at this
      rw [← this]
      exact inT_conv _ h0 h1
theorem shift_shift {op t a : Int} (ho : op = 17 ∨ op = 18) (h0 : 3 ≤ t) (h1 : t ≤ 10) (ha : -9223372036854775808 ≤ a ∧ a ≤ 9223372036854775807) (hT : inT t a) (k : Nat) : shiftV op t (shiftV op t a (k : Int)) 1 = shiftV op t a ((k + 1 : Nat) : Int) := by
  have hp := bitsN_pos t
  have hle := bitsN_le t
  have e1 : shiftC t 1 = 1 := by have := shiftC_nat (t := t) 1; simp only [Int.natCast_one] at this; rw [this]; omega
  obtain ⟨rS, rU, _⟩ := inT_range h0 h1 hT
  unfold shiftV
  rw [e1, shiftC_nat, shiftC_nat]
  by_cases b : op = 17
  · simp only [if_pos b]
    have s1 : ∀ x, conv t (conv t x * 2 ^ 1) = conv t (x * 2) := fun x => by
      have := conv_twice (x := x) h0 h1
      rw [conv_lin _ _ h0 h1] at this
      simpa using this
    rw [s1]
    by_cases c : k < bitsN t
    · rw [show min k (bitsN t) = k by omega, show min (k + 1) (bitsN t) = k + 1 by omega, Int.pow_succ, Int.mul_assoc]
    · rw [show min k (bitsN t) = bitsN t by omega, show min (k + 1) (bitsN t) = bitsN t by omega, conv_shl a h0 h1, Int.mul_assoc, Int.mul_comm ((2 : Int) ^ bitsN t) 2, ← Int.mul_assoc, conv_shl _ h0 h1]
  · simp only [if_neg b]
    have far : ∀ x : Int, -(2 ^ bitsN t) ≤ x → x < 2 ^ bitsN t → x / 2 ^ bitsN t / 2 = x / 2 ^ bitsN t := by
      intro x l u
      have hpos : (0 : Int) < 2 ^ bitsN t := Int.pow_pos (by decide)
      by_cases z : 0 ≤ x
      · rw [Int.ediv_eq_zero_of_lt z u]; rfl
      · have : x / 2 ^ bitsN t = -1 := by
          generalize (2 : Int) ^ bitsN t = M at *
          have l1 : x / M < 0 := Int.ediv_neg_of_neg_of_pos (by omega) hpos
          have l2 : -1 ≤ x / M := by
            have := Int.ediv_le_ediv hpos l
            rwa [Int.neg_ediv_self _ (by omega)] at this
          omega
        rw [this]; decide
    by_cases h7 : 7 ≤ t
    · simp only [if_pos h7]
      have q := rS h7
      by_cases c : k < bitsN t
      · rw [show min k (bitsN t) = k by omega, show min (k + 1) (bitsN t) = k + 1 by omega, show (2 : Int) ^ 1 = 2 from rfl]; exact pow_step _ k
      · rw [show min k (bitsN t) = bitsN t by omega, show min (k + 1) (bitsN t) = bitsN t by omega]
        exact far a (by omega) (by omega)
    · simp only [if_neg h7]
      have q := rU (by omega)
      have hM : (2 : Int) ^ bitsN t ≤ 18446744073709551616 := by
        have : (2 : Int) ^ bitsN t ≤ 2 ^ 64 := by exact_mod_cast Nat.pow_le_pow_right (by decide) hle
        simpa using this
      have wr : ∀ y : Int, 0 ≤ y → y < 18446744073709551616 → IntKind.u64.wrap (wrap64 y) = y := fun y l u => by rw [wrapU]; unfold wrap64; omega
      have qk := div_boundsU (IntKind.u64.wrap a) _ (min k (bitsN t)) q
      rw [wr _ qk.1 (by omega)]
      congr 1
      by_cases c : k < bitsN t
      · rw [show min k (bitsN t) = k by omega, show min (k + 1) (bitsN t) = k + 1 by omega, show (2 : Int) ^ 1 = 2 from rfl]; exact pow_step _ k
      · rw [show min k (bitsN t) = bitsN t by omega, show min (k + 1) (bitsN t) = bitsN t by omega]
        exact far _ (by omega) q.2
end Go.Proofs.Ytdpdpigaegabbaa.Q
end
section
namespace Go.Proofs.Ytdpdpigaegabbaa.Q
open Go.RowKit Go.Proofs.YtdpdpigaegabbaaW.PrintWords Go.Proofs.YtdpdpigaegabbaaW.PrintLast Go.Proofs.YtdpdpigaegabbaaW.PrintMore Go.Proofs.Ytdpdpigaegabbaa.EvMore
set_option linter.unusedVariables false
set_option linter.unusedSimpArgs false
structure Src (b : List Int) : Prop where
  len : b.length ≤ 2000
  val : ∀ x ∈ b, 0 ≤ x ∧ x < 256
theorem Src.at_ {b : List Int} (S : Src b) (i : Int) : 0 ≤ rd b i ∧ rd b i < 256 := by
  unfold rd
  rw [List.getD_eq_getElem?_getD]
  cases h : b[i.toNat]? with
  | none => simp
  | some x => simpa using S.val x (List.mem_of_getElem? h)
theorem xor_low (a b : Int) (ha : 0 ≤ a ∧ a < 9223372036854775808) (hb : 0 ≤ b ∧ b < 9223372036854775808) : 0 ≤ Go.bits .xor .i64 a b := by
  show 0 ≤ IntKind.i64.wrap (((BitVec.ofInt 64 a ^^^ BitVec.ofInt 64 b : BitVec 64).toNat : Nat) : Int)
  have e : ∀ z : Int, 0 ≤ z ∧ z < 9223372036854775808 → (BitVec.ofInt 64 z).toNat = z.toNat := by
    intro z hz
    rw [BitVec.toNat_ofInt]
    omega
  rw [BitVec.toNat_xor, e a ha, e b hb]
  have h := Nat.xor_lt_two_pow (n := 63) (x := a.toNat) (y := b.toNat) (by omega) (by omega)
  simp only [IntKind.wrap, IntKind.signed, IntKind.bits]
  generalize a.toNat ^^^ b.toNat = z at h ⊢
  simp
  omega
theorem pick_ev {b : List Int} (S : Src b) (p n : Int) (hp : 0 ≤ p ∧ p ≤ 1000000) (hn : 1 ≤ n ∧ n ≤ 1000000) : ∃ v, (0 ≤ v ∧ v < n) ∧ Ev (fun k => spec_l10Rd_pick.f k b p n) (v, p + 1) := by
  have hl := S.len
  have q0 : wrap64 (p + 1) = p + 1 := id64 (by omega) (by omega)
  have q1 : wrap64 (p + 1 - 1) = p := by rw [show p + 1 - 1 = p from by omega]; exact id64 (by omega) (by omega)
  by_cases hz : (b.length : Int) = 0
  · refine ⟨0, by omega, ev_neg (by omega) ?_⟩
    rw [show ((b.length : Int) == 0) = true from by simpa using hz, q0]
    exact ev_step (by simp only [spec_l10Rd_pick.j0, if_true]; exact ev_now _)
  · have hz2 : ((b.length : Int) == 0) = false := by simpa using hz
    by_cases hk : p < (b.length : Int)
    · have r := S.at_ p
      have w1 : wrap64 (rd b p) = rd b p := id64 (by omega) (by omega)
      refine ⟨Int.tmod (rd b p) n, ?_, ev_neg (by omega) ?_⟩
      · rw [Int.tmod_eq_emod_of_nonneg r.1]
        exact ⟨Int.emod_nonneg _ (by omega), Int.emod_lt_of_pos _ (by omega)⟩
      · rw [hz2, q0]
        refine ev_step ?_
        simp only [spec_l10Rd_pick.j0, Bool.false_eq_true, if_false, q1, w1]
        exact ev_pos hk (ev_pos hp.1 (ev_neg (by omega) (ev_now _)))
    · have hlen : 0 < (b.length : Int) := by omega
      have i0 : 0 ≤ Int.tmod p (b.length : Int) ∧ Int.tmod p (b.length : Int) < (b.length : Int) := by
        rw [Int.tmod_eq_emod_of_nonneg hp.1]; exact ⟨Int.emod_nonneg _ (by omega), Int.emod_lt_of_pos _ hlen⟩
      have q2 : wrap64 (p * 7) = p * 7 := id64 (by omega) (by omega)
      have q3 : wrap64 (p * 7 + 3) = p * 7 + 3 := id64 (by omega) (by omega)
      have j0 : 0 ≤ Int.tmod (p * 7 + 3) (b.length : Int) ∧ Int.tmod (p * 7 + 3) (b.length : Int) < (b.length : Int) := by
        rw [Int.tmod_eq_emod_of_nonneg (by omega)]; exact ⟨Int.emod_nonneg _ (by omega), Int.emod_lt_of_pos _ hlen⟩
      have rA := S.at_ (Int.tmod p (b.length : Int))
      have rB := S.at_ (Int.tmod (p * 7 + 3) (b.length : Int))
      have d0 : 0 ≤ Int.tdiv p (b.length : Int) ∧ Int.tdiv p (b.length : Int) ≤ p := by
        rw [Int.tdiv_eq_ediv_of_nonneg hp.1]
        exact ⟨Int.ediv_nonneg hp.1 (by omega), Int.ediv_le_self _ hp.1⟩
      suffices h : ∃ v, (0 ≤ v ∧ v < n) ∧ Ev (fun k => spec_l10Rd_pick.j0 k n false b (p + 1)) (v, p + 1) by
        obtain ⟨v, hv, h⟩ := h
        exact ⟨v, hv, ev_neg (by omega) (by rw [hz2, q0]; exact h)⟩
      generalize eA : rd b (Int.tmod p (b.length : Int)) = A at rA
      generalize eB : rd b (Int.tmod (p * 7 + 3) (b.length : Int)) = B at rB
      generalize eD : Int.tdiv p (b.length : Int) = D at d0
      have a1 : wrap64 A = A := id64 (by omega) (by omega)
      have a2 : wrap64 (A * 131) = A * 131 := id64 (by omega) (by omega)
      have b1 : wrap64 B = B := id64 (by omega) (by omega)
      have b2 : wrap64 (B * 1117) = B * 1117 := id64 (by omega) (by omega)
      have s1 : wrap64 (A * 131 + B * 1117) = A * 131 + B * 1117 := id64 (by omega) (by omega)
      have p1 : wrap64 (p * 29) = p * 29 := id64 (by omega) (by omega)
      have s2 : wrap64 (A * 131 + B * 1117 + p * 29) = A * 131 + B * 1117 + p * 29 := id64 (by omega) (by omega)
      have d1 : wrap64 D = D := id64 (by omega) (by omega)
      have d2 : wrap64 (D * 53) = D * 53 := id64 (by omega) (by omega)
      have s3 : wrap64 (A * 131 + B * 1117 + p * 29 + D * 53) = A * 131 + B * 1117 + p * 29 + D * 53 := id64 (by omega) (by omega)
      have X0 : 0 ≤ A * 131 + B * 1117 + p * 29 + D * 53 ∧ A * 131 + B * 1117 + p * 29 + D * 53 < 9223372036854775808 := by omega
      generalize eX : A * 131 + B * 1117 + p * 29 + D * 53 = X at X0 s3
      have t0 : Int.tdiv X 64 = X / 64 := Int.tdiv_eq_ediv_of_nonneg X0.1
      have t1 : wrap64 (X / 64) = X / 64 := id64 (by omega) (by omega)
      have xr := xor_low X (X / 64) X0 (by omega)
      refine ⟨Int.tmod (Go.bits .xor .i64 X (X / 64)) n, ?_, ?_⟩
      · rw [Int.tmod_eq_emod_of_nonneg xr]
        exact ⟨Int.emod_nonneg _ (by omega), Int.emod_lt_of_pos _ (by omega)⟩
      · refine ev_step ?_
        simp only [spec_l10Rd_pick.j0, Bool.false_eq_true, if_false, q1, q2, q3, eA, eB, eD, a1, a2, b1, b2, s1, p1, s2, d1, d2, eX, s3, t0, t1]
        exact ev_neg hk (ev_neg (by omega) (ev_pos i0.1 (ev_pos i0.2 (ev_pos j0.1 (ev_pos j0.2 (ev_neg (by omega) (ev_now _)))))))
theorem max_loop (c : Int) (hc : c ≤ 64) : ∀ (d : Nat) (x i : Int), 0 ≤ i → (c - i).toNat ≤ d → 0 ≤ x ∧ x < 18446744073709551616 → ∃ m, (0 ≤ m ∧ m < 18446744073709551616) ∧ Ev (fun k => spec_l10Max.l0 k c x i) m
  | 0, x, i, hi, h, hx => ⟨x, hx, ev_step (ev_neg (by omega) (ev_now _))⟩
  | d + 1, x, i, hi, h, hx => by
    by_cases lt : i < c
    · have e : wrap64 (i + 1) = i + 1 := id64 (by omega) (by omega)
      obtain ⟨m, hm, h2⟩ := max_loop c hc d (IntKind.u64.wrap ((IntKind.u64.wrap (x * 2)) + 1)) (i + 1) (by omega) (by omega) (wrapU_range _)
      exact ⟨m, hm, ev_step (ev_pos lt (by simp only [e]; exact h2))⟩
    · exact ⟨x, hx, ev_step (ev_neg lt (ev_now _))⟩
theorem max_ev (t : Int) : ∃ m, (0 ≤ m ∧ m < 18446744073709551616) ∧ Ev (fun k => spec_l10Max.f k t) m := by
  have hb := bitsN_le t
  have hw : wrap64 ((bitsN t : Int) - 1) = (bitsN t : Int) - 1 := id64 (by omega) (by omega)
  by_cases s : 7 ≤ t ∧ t ≤ 10
  · obtain ⟨m, hm, h⟩ := max_loop ((bitsN t : Int) - 1) (by omega) 100 0 0 (by omega) (by omega) (by omega)
    refine ⟨m, hm, ev_bind (bits_ev t) (ev_val (signed_spec t) (ev_pos (by simpa using s) ?_))⟩
    simp only [hw]
    exact ev_step h
  · obtain ⟨m, hm, h⟩ := max_loop (bitsN t : Int) (by omega) 100 0 0 (by omega) (by omega) (by omega)
    exact ⟨m, hm, ev_bind (bits_ev t) (ev_val (signed_spec t) (ev_neg (by simpa using s) (ev_step h)))⟩
def i64 (v : Int) : Prop := -9223372036854775808 ≤ v ∧ v ≤ 9223372036854775807
theorem i64_wrap (v : Int) : i64 (wrap64 v) := by unfold i64 wrap64; omega
theorem number_ev {b : List Int} (S : Src b) (p t : Int) (hp : 0 ≤ p ∧ p ≤ 999000) (h0 : 3 ≤ t) (h1 : t ≤ 10) : ∃ v q, i64 v ∧ (p ≤ q ∧ q ≤ p + 4) ∧ Ev (fun k => spec_l10Number.f k b p t) (v, q) := by
  obtain ⟨m, hm, hM⟩ := max_ev t
  obtain ⟨c, hc, hC⟩ := pick_ev S p 9 (by omega) (by omega)
  by_cases c0 : c = 0
  · exact ⟨_, _, i64_wrap m, ⟨by omega, by omega⟩, ev_bind hM (ev_bind hC (ev_pos c0 (ev_now _)))⟩
  by_cases c1 : c = 1
  · obtain ⟨d, hd, hD⟩ := pick_ev S (p + 1) 3 (by omega) (by omega)
    exact ⟨_, _, i64_wrap _, ⟨by omega, by omega⟩, ev_bind hM (ev_bind hC (ev_neg c0 (ev_pos c1 (ev_bind hD (ev_now _)))))⟩
  by_cases c2 : c = 2
  · exact ⟨_, _, i64_wrap _, ⟨by omega, by omega⟩, ev_bind hM (ev_bind hC (ev_neg c0 (ev_neg c1 (ev_pos c2 (ev_now _)))))⟩
  by_cases c3 : c = 3
  · obtain ⟨d, hd, hD⟩ := pick_ev S (p + 1) 256 (by omega) (by omega)
    obtain ⟨e, he, hE⟩ := pick_ev S (p + 1 + 1) 256 (by omega) (by omega)
    obtain ⟨f, hf, hF⟩ := pick_ev S (p + 1 + 1 + 1) 256 (by omega) (by omega)
    have hr := wrapU_range ((IntKind.u64.wrap ((IntKind.u64.wrap d) * (IntKind.u64.wrap e))) * (IntKind.u64.wrap f))
    exact ⟨_, _, conv_range _ h0 h1, ⟨by omega, by omega⟩, ev_bind hM (ev_bind hC (ev_neg c0 (ev_neg c1 (ev_neg c2 (ev_pos c3 (ev_bind hD (ev_bind hE (ev_bind hF (ev_val (into_eq hr.1 hr.2) (ev_now _))))))))))⟩
  · obtain ⟨d, hd, hD⟩ := pick_ev S (p + 1) 10 (by omega) (by omega)
    exact ⟨_, _, (show i64 d by unfold i64; omega), ⟨by omega, by omega⟩, ev_bind hM (ev_bind hC (ev_neg c0 (ev_neg c1 (ev_neg c2 (ev_neg c3 (ev_bind hD (ev_now _)))))))⟩
theorem many_loop : ∀ (d : Nat) (x : ByteArray) (n : Int) (o : ByteArray), 0 ≤ n → n ≤ 10000 → n.toNat ≤ d → (o.size : Int) + x.size * n ≤ 1099511627776 → x.size ≤ 1099511627776 →
    ∃ t : ByteArray, t.size ≤ 1099511627776 ∧ Ev (fun k => spec_l10Many.l0 k x n o) t
  | 0, x, n, o, hn, hn2, hd, h, hx => by
    have : n = 0 := by omega
    subst this
    exact ⟨o, by omega, ev_step (ev_neg (by omega) (ev_now _))⟩
  | d + 1, x, n, o, hn, hn2, hd, h, hx => by
    by_cases c : n > 0
    · have e : wrap64 (Int.tdiv n 2) = n / 2 := by rw [Int.tdiv_eq_ediv_of_nonneg hn]; exact id64 (by omega) (by omega)
      have em : Int.tmod n 2 = n % 2 := Int.tmod_eq_emod_of_nonneg hn
      have hxx : (x ++ x).size = x.size + x.size := ByteArray.size_append
      have hox : (o ++ x).size = o.size + x.size := ByteArray.size_append
      have mul : ((x.size : Int) + x.size) * (n / 2) = x.size * n - x.size * (n % 2) := by
        have := Int.emod_add_mul_ediv n 2
        have h3 : n = 2 * (n / 2) + n % 2 := by omega
        generalize n / 2 = q at *
        generalize n % 2 = r at *
        subst h3
        rw [Int.mul_add, Int.add_mul, ← Int.mul_assoc, Int.mul_comm (x.size : Int) 2, Int.mul_assoc]
        omega
      have nn : (0 : Int) ≤ x.size * n := Int.mul_nonneg (by omega) hn
      by_cases big : n / 2 = 0
      · 
        have n1 : n = 1 := by omega
        subst n1
        refine ⟨o ++ x, by omega, ev_step (ev_pos c (ev_pos (by decide) (ev_pos (by omega) (ev_pos (by omega) ?_))))⟩
        exact ev_step (ev_neg (by simp only [e]; omega) (ev_now _))
      · have hx2 : x.size + x.size ≤ 1099511627776 := by
          have h4 : (x.size : Int) * 2 ≤ x.size * n := Int.mul_le_mul_of_nonneg_left (by omega) (by omega)
          omega
        by_cases od : n % 2 = 1
        · obtain ⟨t, ht, h5⟩ := many_loop d (x ++ x) (n / 2) (o ++ x) (by omega) (by omega) (by omega) (by rw [hxx, hox]; push_cast; rw [mul, od]; omega) (by omega)
          exact ⟨t, ht, ev_step (ev_pos c (ev_pos (by rw [em]; exact od) (ev_pos (by omega) (ev_pos (by omega) (by simp only [e]; exact h5)))))⟩
        · obtain ⟨t, ht, h5⟩ := many_loop d (x ++ x) (n / 2) o (by omega) (by omega) (by omega) (by rw [hxx]; push_cast; rw [mul, show n % 2 = 0 by omega]; omega) (by omega)
          exact ⟨t, ht, ev_step (ev_pos c (ev_neg (by rw [em]; exact od) (ev_pos (by omega) (by simp only [e]; exact h5))))⟩
    · exact ⟨o, by have : n = 0 := by omega
                   subst this; omega, ev_step (ev_neg c (ev_now _))⟩
theorem many_ev (n : Int) (x : ByteArray) (hx : x.size ≤ 10) (h0 : 0 ≤ n) (h1 : n ≤ 10000) : ∃ t : ByteArray, t.size ≤ 1099511627776 ∧ Ev (fun k => spec_l10Many.f k x n) t := by
  have h : (x.size : Int) * n ≤ 10 * 10000 := Int.mul_le_mul (by omega) h1 h0 (by omega)
  exact many_loop n.toNat x n ⟨#[]⟩ h0 h1 (by omega) (by show ((0 : Nat) : Int) + _ ≤ _; omega) (by omega)
theorem strOf_size (l : List Int) : (strOfNums l).size = l.length := by simp [strOfNums, ByteArray.size]
theorem text_loop {b : List Int} (S : Src b) (n : Int) (hn : n ≤ 100) : ∀ (d : Nat) (x : List Int) (i p : Int), 0 ≤ i → (n + 1 - i).toNat ≤ d → 0 ≤ p → p + d ≤ 999990 → x.length + d ≤ 1000 →
    ∃ (t : ByteArray) (q : Int), t.size ≤ 1000 ∧ (p ≤ q ∧ q ≤ p + d) ∧ Ev (fun k => spec_l10DrawText.l0 k n x i b p) (t, q)
  | 0, x, i, p, hi, hd, hp, hq, hx => ⟨_, _, by rw [strOf_size]; omega, by omega, ev_step (ev_neg (by omega) (ev_now _))⟩
  | d + 1, x, i, p, hi, hd, hp, hq, hx => by
    by_cases c : i ≤ n
    · obtain ⟨v, hv, hV⟩ := pick_ev S p 4 (by omega) (by omega)
      have e : wrap64 (i + 1) = i + 1 := id64 (by omega) (by omega)
      obtain ⟨t, q, ht, hq2, h⟩ := text_loop S n hn d (x ++ [(wrap64 (97 + v)) % 256]) (i + 1) (p + 1) (by omega) (by omega) (by omega) (by omega) (by simp; omega)
      exact ⟨t, q, ht, by omega, ev_step (ev_pos c (ev_bind hV (ev_pos (by omega) (by simp only [e]; exact h))))⟩
    · exact ⟨_, _, by rw [strOf_size]; omega, by omega, ev_step (ev_neg c (ev_now _))⟩
theorem rdOf_size (l : List ByteArray) (h : ∀ x ∈ l, x.size ≤ 1000) (i : Int) : (rdOf ByteArray.empty l i).size ≤ 1000 := by
  unfold rdOf
  rw [List.getD_eq_getElem?_getD]
  cases hh : l[i.toNat]? with
  | none => simp
  | some x => simpa using h x (List.mem_of_getElem? hh)
theorem drawText_ev {b : List Int} (S : Src b) (p : Int) (hp : 0 ≤ p ∧ p ≤ 990000) : ∃ (t : ByteArray) (q : Int), t.size ≤ 1000 ∧ (p ≤ q ∧ q ≤ p + 20) ∧ Ev (fun k => spec_l10DrawText.f k b p) (t, q) := by
  obtain ⟨c, hc, hC⟩ := pick_ev S p 12 (by omega) (by omega)
  by_cases c0 : c = 0
  · exact ⟨_, _, by decide, by omega, ev_bind hC (ev_pos c0 (ev_now _))⟩
  by_cases c1 : c = 1
  · exact ⟨_, _, by decide, by omega, ev_bind hC (ev_neg c0 (ev_pos c1 (ev_now _)))⟩
  by_cases c2 : c = 2
  · exact ⟨_, _, by decide, by omega, ev_bind hC (ev_neg c0 (ev_neg c1 (ev_pos c2 (ev_now _))))⟩
  by_cases c3 : c = 3
  · exact ⟨_, _, by decide, by omega, ev_bind hC (ev_neg c0 (ev_neg c1 (ev_neg c2 (ev_pos c3 (ev_now _)))))⟩
  by_cases c4 : c = 4
  · exact ⟨_, _, by decide, by omega, ev_bind hC (ev_neg c0 (ev_neg c1 (ev_neg c2 (ev_neg c3 (ev_pos c4 (ev_now _))))))⟩
  by_cases c5 : c = 5
  · exact ⟨_, _, by decide, by omega, ev_bind hC (ev_neg c0 (ev_neg c1 (ev_neg c2 (ev_neg c3 (ev_neg c4 (ev_pos c5 (ev_now _)))))))⟩
  by_cases c6 : c = 6
  · obtain ⟨v, hv, hV⟩ := pick_ev S (p + 1) 8 (by omega) (by omega)
    have hP : Ev (fun k => spec_l10Path.f k b (p + 1)) (rdOf ByteArray.empty [(⟨#[97]⟩ : ByteArray), (⟨#[98]⟩ : ByteArray), (⟨#[108, 105, 98, 47, 120]⟩ : ByteArray), (⟨#[108, 105, 98, 47, 121]⟩ : ByteArray), (⟨#[111, 117, 116]⟩ : ByteArray), (⟨#[116, 48]⟩ : ByteArray), (⟨#[116, 49]⟩ : ByteArray), (⟨#[103, 111, 110, 101]⟩ : ByteArray)] v, p + 1 + 1) :=
      ev_val rfl (ev_bind hV (ev_pos hv.1 (ev_pos (by simpa using hv.2) (ev_now _))))
    exact ⟨_, _, rdOf_size _ (by decide) v, by omega, ev_bind hC (ev_neg c0 (ev_neg c1 (ev_neg c2 (ev_neg c3 (ev_neg c4 (ev_neg c5 (ev_pos c6 (ev_bind hP (ev_now _)))))))))⟩
  · obtain ⟨v, hv, hV⟩ := pick_ev S (p + 1) 5 (by omega) (by omega)
    obtain ⟨t, q, ht, hq, h⟩ := text_loop S v (by omega) 6 [] 0 (p + 1 + 1) (by omega) (by omega) (by omega) (by omega) (by simp)
    exact ⟨t, q, ht, by omega, ev_bind hC (ev_neg c0 (ev_neg c1 (ev_neg c2 (ev_neg c3 (ev_neg c4 (ev_neg c5 (ev_neg c6 (ev_bind hV h))))))))⟩
def DrawnV (n : Int) (s : ByteArray) : Prop := i64 n ∧ s.size ≤ 1099511627776
theorem drawn_nil {n : Int} (h : i64 n) : DrawnV n ⟨#[]⟩ := ⟨h, by decide⟩
theorem value_ev {b : List Int} (S : Src b) (p t : Int) (hp : 0 ≤ p ∧ p ≤ 980000) (h0 : 1 ≤ t) (h1 : t ≤ 10) : ∃ (T n : Int) (s : ByteArray) (q : Int), DrawnV n s ∧ (p ≤ q ∧ q ≤ p + 40) ∧ Ev (fun k => spec_l13Value.f k b p t) (T, n, s, q) := by
  by_cases t1 : t = 1
  · obtain ⟨c, hc, hC⟩ := pick_ev S p 2 (by omega) (by omega)
    by_cases c0 : (c == 0) = true
    · exact ⟨1, 1, ⟨#[]⟩, p + 1, drawn_nil (by unfold i64; omega), by omega, ev_pos t1 (ev_bind hC (ev_val (by unfold spec_l13Bool.f; rw [if_pos c0]) (ev_now _)))⟩
    · exact ⟨1, 0, ⟨#[]⟩, p + 1, drawn_nil (by unfold i64; omega), by omega, ev_pos t1 (ev_bind hC (ev_val (by unfold spec_l13Bool.f; rw [if_neg c0]) (ev_now _)))⟩
  by_cases t2 : t = 2
  · obtain ⟨c, hc, hC⟩ := pick_ev S p 12 (by omega) (by omega)
    by_cases c0 : c = 0
    · obtain ⟨d, hd, hD⟩ := pick_ev S (p + 1) 3 (by omega) (by omega)
      have e : wrap64 (3000 - d) = 3000 - d := id64 (by omega) (by omega)
      obtain ⟨x, hx, hX⟩ := many_ev (3000 - d) ⟨#[118]⟩ (by decide) (by omega) (by omega)
      exact ⟨2, 0, x, p + 1 + 1, ⟨by unfold i64; omega, hx⟩, by omega, ev_neg t1 (ev_pos t2 (ev_bind hC (ev_pos c0 (ev_bind hD (by simp only [e]; exact ev_bind hX (ev_val rfl (ev_now _)))))))⟩
    · obtain ⟨d, hd, hD⟩ := pick_ev S (p + 1) 3 (by omega) (by omega)
      by_cases d0 : d = 0
      · obtain ⟨f, hf, hF⟩ := pick_ev S (p + 1 + 1) 12 (by omega) (by omega)
        refine ⟨2, 0, _, _, ⟨by unfold i64; omega, ?_⟩, ?_, ev_neg t1 (ev_pos t2 (ev_bind hC (ev_neg c0 (ev_bind hD (ev_pos d0 (ev_val rfl (ev_bind hF (ev_pos hf.1 (ev_pos (by simpa using hf.2) (ev_val rfl (ev_now _)))))))))))⟩
        · exact Nat.le_trans (rdOf_size _ (by decide) f) (by decide)
        · omega
      · obtain ⟨x, q, hx, hq, hX⟩ := drawText_ev S (p + 1 + 1) (by omega)
        exact ⟨2, 0, x, q, ⟨by unfold i64; omega, by omega⟩, by omega, ev_neg t1 (ev_pos t2 (ev_bind hC (ev_neg c0 (ev_bind hD (ev_neg d0 (ev_bind hX (ev_val rfl (ev_now _))))))))⟩
  · have h3 : 3 ≤ t := by omega
    obtain ⟨v, q, hv, hq, hV⟩ := number_ev S p t (by omega) h3 h1
    obtain ⟨c, hc, hC⟩ := pick_ev S q 4 (by omega) (by omega)
    by_cases c0 : c = 0
    · have hr := wrapU_range (-(IntKind.u64.wrap v))
      exact ⟨t, _, ⟨#[]⟩, _, drawn_nil (conv_range _ h3 h1), by omega, ev_neg t1 (ev_neg t2 (ev_bind hV (ev_bind hC (ev_pos c0 (ev_val (num_spec hr.1 hr.2) (ev_now _))))))⟩
    by_cases c1 : c = 1
    · obtain ⟨m, hm, hM⟩ := max_ev t
      obtain ⟨d, hd, hD⟩ := pick_ev S (q + 1) 3 (by omega) (by omega)
      have hr := wrapU_range ((IntKind.u64.wrap (m + 1)) - (IntKind.u64.wrap d))
      exact ⟨t, _, ⟨#[]⟩, _, drawn_nil (conv_range _ h3 h1), by omega, ev_neg t1 (ev_neg t2 (ev_bind hV (ev_bind hC (ev_neg c0 (ev_pos c1 (ev_bind hM (ev_bind hD (ev_val (num_spec hr.1 hr.2) (ev_now _)))))))))⟩
    · have hr := wrapU_range v
      exact ⟨t, _, ⟨#[]⟩, _, drawn_nil (conv_range _ h3 h1), by omega, ev_neg t1 (ev_neg t2 (ev_bind hV (ev_bind hC (ev_neg c0 (ev_neg c1 (ev_val (num_spec hr.1 hr.2) (ev_now _)))))))⟩
theorem any_ev {b : List Int} (S : Src b) (p t : Int) (hp : 0 ≤ p ∧ p ≤ 970000) (h0 : 1 ≤ t) (h1 : t ≤ 10) : ∃ (T n : Int) (s : ByteArray) (q : Int), DrawnV n s ∧ (p ≤ q ∧ q ≤ p + 60) ∧ Ev (fun k => spec_l13Any.f k b p t) (T, n, s, q) := by
  obtain ⟨T, n, s, q, hn, hq, hV⟩ := value_ev S p t (by omega) h0 h1
  obtain ⟨c, hc, hC⟩ := pick_ev S q 12 (by omega) (by omega)
  by_cases c0 : c = 0
  · obtain ⟨d, hd, hD⟩ := pick_ev S (q + 1) 4 (by omega) (by omega)
    by_cases d0 : d = 0
    · obtain ⟨f, hf, hF⟩ := pick_ev S (q + 1 + 1) 13 (by omega) (by omega)
      exact ⟨_, n, s, _, hn, by omega, ev_bind hV (ev_bind hC (ev_pos c0 (ev_bind hD (ev_pos d0 (ev_bind hF (ev_now _))))))⟩
    by_cases d1 : d = 1
    · obtain ⟨f, hf, hF⟩ := pick_ev S (q + 1 + 1) 6 (by omega) (by omega)
      refine ⟨T, rd [2, -1, 256, -129, 65536, 4294967296] f, s, q + 1 + 1 + 1, ⟨?_, hn.2⟩, ?_, ev_bind hV (ev_bind hC (ev_pos c0 (ev_bind hD (ev_neg d0 (ev_pos d1 (ev_val rfl (ev_bind hF (ev_pos hf.1 (ev_pos (by simpa using hf.2) (ev_now _))))))))))⟩
      · have : f = 0 ∨ f = 1 ∨ f = 2 ∨ f = 3 ∨ f = 4 ∨ f = 5 := by omega
        rcases this with rfl | rfl | rfl | rfl | rfl | rfl <;> (unfold i64; decide)
      · omega
    by_cases d2 : d = 2
    · exact ⟨T, n, _, _, ⟨hn.1, by decide⟩, by omega, ev_bind hV (ev_bind hC (ev_pos c0 (ev_bind hD (ev_neg d0 (ev_neg d1 (ev_pos d2 (ev_now _)))))))⟩
    · obtain ⟨x, hx, hX⟩ := many_ev 3001 ⟨#[118]⟩ (by decide) (by omega) (by omega)
      exact ⟨T, n, x, _, ⟨hn.1, hx⟩, by omega, ev_bind hV (ev_bind hC (ev_pos c0 (ev_bind hD (ev_neg d0 (ev_neg d1 (ev_neg d2 (ev_bind hX (ev_now _))))))))⟩
  · exact ⟨T, n, s, _, hn, by omega, ev_bind hV (ev_bind hC (ev_neg c0 (ev_now _)))⟩
abbrev GoodD (g : Nat → Option (Int × Int × Int × ByteArray × Int × Int × ByteArray)) : Prop := ∃ (o a1 a2 : Int) (a3 : ByteArray) (b1 b2 : Int) (b3 : ByteArray), DrawnV a2 a3 ∧ DrawnV b2 b3 ∧ Ev g (o, a1, a2, a3, b1, b2, b3)
theorem integer_spec (x : Int) : ∃ q : Bool, spec_l10Integer.f x = some q := by unfold spec_l10Integer.f; split <;> exact ⟨_, rfl⟩
section
variable {b : List Int} (S : Src b) {o t p a1 a2 b1 b2 : Int} {a3 b3 : ByteArray}
include S
theorem j7_ev (hp : 0 ≤ p ∧ p ≤ 900000) (hA : DrawnV a2 a3) (hB : DrawnV b2 b3) : GoodD (fun k => spec_DrawMillBinary.j7 k o b p a1 a2 a3 b1 b2 b3) := by
  obtain ⟨c, hc, hC⟩ := pick_ev S p 24 (by omega) (by omega)
  by_cases c0 : c = 0
  · obtain ⟨d, hd, hD⟩ := pick_ev S (p + 1) 22 (by omega) (by omega)
    exact ⟨_, _, _, _, _, _, _, hA, hB, ev_step (ev_bind hC (ev_pos c0 (ev_bind hD (ev_now _))))⟩
  · exact ⟨_, _, _, _, _, _, _, hA, hB, ev_step (ev_bind hC (ev_neg c0 (ev_now _)))⟩
theorem j6_ev (f : Bool) (hp : 0 ≤ p ∧ p ≤ 900000) (hA : DrawnV a2 a3) (hB : DrawnV b2 b3) : GoodD (fun k => spec_DrawMillBinary.j6 k o f b p a1 a2 a3 b1 b2 b3) := by
  cases f with
  | true =>
    obtain ⟨_, _, _, _, _, _, _, h1, h2, h⟩ := j7_ev S (o := o) (a1 := a1) (b1 := a1) hp hA hA
    exact ⟨_, _, _, _, _, _, _, h1, h2, ev_step (by simp only [spec_DrawMillBinary.j6, if_true]; exact h)⟩
  | false =>
    obtain ⟨_, _, _, _, _, _, _, h1, h2, h⟩ := j7_ev S (o := o) (a1 := a1) (b1 := b1) hp hA hB
    exact ⟨_, _, _, _, _, _, _, h1, h2, ev_step (by simp only [spec_DrawMillBinary.j6, Bool.false_eq_true, if_false]; exact h)⟩
theorem j5_ev (hp : 0 ≤ p ∧ p ≤ 800000) (hA : DrawnV a2 a3) (hB : DrawnV b2 b3) : GoodD (fun k => spec_DrawMillBinary.j5 k o b p a1 a2 a3 b1 b2 b3) := by
  by_cases c0 : o ≤ 8
  · obtain ⟨c, hc, hC⟩ := pick_ev S p 4 (by omega) (by omega)
    obtain ⟨_, _, _, _, _, _, _, h1, h2, h⟩ := j6_ev S (o := o) (a1 := a1) (b1 := b1) (c == 0) (p := p + 1) (by omega) hA hB
    exact ⟨_, _, _, _, _, _, _, h1, h2, ev_step (ev_pos c0 (ev_bind hC h))⟩
  · obtain ⟨_, _, _, _, _, _, _, h1, h2, h⟩ := j6_ev S (o := o) (a1 := a1) (b1 := b1) false (p := p) (by omega) hA hB
    exact ⟨_, _, _, _, _, _, _, h1, h2, ev_step (ev_neg c0 h)⟩
theorem j4_ev (f : Bool) (hp : 0 ≤ p ∧ p ≤ 700000) (hA : DrawnV a2 a3) (hB : DrawnV b2 b3) : GoodD (fun k => spec_DrawMillBinary.j4 k o t f b p a1 a2 a3 b1 b2 b3) := by
  cases f with
  | false =>
    obtain ⟨_, _, _, _, _, _, _, h1, h2, h⟩ := j5_ev S (o := o) (a1 := a1) (b1 := b1) (p := p) (by omega) hA hB
    exact ⟨_, _, _, _, _, _, _, h1, h2, ev_step (by simp only [spec_DrawMillBinary.j4, Bool.false_eq_true, if_false]; exact h)⟩
  | true =>
    obtain ⟨c, hc, hC⟩ := pick_ev S p 8 (by omega) (by omega)
    obtain ⟨m, hm, hM⟩ := max_ev t
    obtain ⟨d, hd, hD⟩ := pick_ev S (p + 1) 3 (by omega) (by omega)
    have rY : i64 (rd [8, 16, 32, 64, 7, 15, 31, 63] c) := by
      have : c = 0 ∨ c = 1 ∨ c = 2 ∨ c = 3 ∨ c = 4 ∨ c = 5 ∨ c = 6 ∨ c = 7 := by omega
      rcases this with rfl | rfl | rfl | rfl | rfl | rfl | rfl | rfl <;> (unfold i64; decide)
    have rX : i64 (rd [1, 5, 100] d) := by
      have : d = 0 ∨ d = 1 ∨ d = 2 := by omega
      rcases this with rfl | rfl | rfl <;> (unfold i64; decide)
    have fin : ∀ y : Int, i64 y → GoodD (fun k => (some ([1, 5, 100] : List Int)).bind fun y142 => (spec_l10Rd_pick.f k b (p + 1) 3).bind fun bt145 => if 0 ≤ bt145.1 then (if bt145.1 < (y142.length : Int) then (if t ≥ 7 then spec_DrawMillBinary.j5 k o b bt145.2 a1 (wrap64 (-(rd y142 bt145.1))) a3 b1 y b3 else spec_DrawMillBinary.j5 k o b bt145.2 a1 (rd y142 bt145.1) a3 b1 y b3) else none) else none) := by
      intro y hy
      by_cases s : t ≥ 7
      · obtain ⟨_, _, _, _, _, _, _, h1, h2, h⟩ := j5_ev S (o := o) (a1 := a1) (b1 := b1) (p := p + 1 + 1) (a2 := wrap64 (-(rd [1, 5, 100] d))) (b2 := y) (by omega) ⟨i64_wrap _, hA.2⟩ ⟨hy, hB.2⟩
        exact ⟨_, _, _, _, _, _, _, h1, h2, ev_val rfl (ev_bind hD (ev_pos hd.1 (ev_pos (by simpa using hd.2) (ev_pos s h))))⟩
      · obtain ⟨_, _, _, _, _, _, _, h1, h2, h⟩ := j5_ev S (o := o) (a1 := a1) (b1 := b1) (p := p + 1 + 1) (a2 := rd [1, 5, 100] d) (b2 := y) (by omega) ⟨rX, hA.2⟩ ⟨hy, hB.2⟩
        exact ⟨_, _, _, _, _, _, _, h1, h2, ev_val rfl (ev_bind hD (ev_pos hd.1 (ev_pos (by simpa using hd.2) (ev_neg s h))))⟩
    by_cases g : rd [8, 16, 32, 64, 7, 15, 31, 63] c > wrap64 (m / 2)
    · obtain ⟨_, _, _, _, _, _, _, h1, h2, h⟩ := fin 8 (by unfold i64; omega)
      exact ⟨_, _, _, _, _, _, _, h1, h2, ev_step (by simp only [spec_DrawMillBinary.j4, if_true]; exact ev_val rfl (ev_bind hC (ev_pos hc.1 (ev_pos (by simpa using hc.2) (ev_bind hM (ev_pos g h))))))⟩
    · obtain ⟨_, _, _, _, _, _, _, h1, h2, h⟩ := fin _ rY
      exact ⟨_, _, _, _, _, _, _, h1, h2, ev_step (by simp only [spec_DrawMillBinary.j4, if_true]; exact ev_val rfl (ev_bind hC (ev_pos hc.1 (ev_pos (by simpa using hc.2) (ev_bind hM (ev_neg g h))))))⟩
theorem j3_ev (hp : 0 ≤ p ∧ p ≤ 600000) (hA : DrawnV a2 a3) (hB : DrawnV b2 b3) : GoodD (fun k => spec_DrawMillBinary.j3 k o t b p a1 a2 a3 b1 b2 b3) := by
  obtain ⟨_, _, _, _, _, _, _, n1, n2, n⟩ := j4_ev S (o := o) (t := t) (a1 := a1) (b1 := b1) false (p := p) (by omega) hA hB
  by_cases c0 : o ≥ 17
  · obtain ⟨q, hq⟩ := integer_spec b1
    cases q with
    | true =>
      by_cases e : b1 = a1
      · obtain ⟨c, hc, hC⟩ := pick_ev S p 6 (by omega) (by omega)
        obtain ⟨_, _, _, _, _, _, _, h1, h2, h⟩ := j4_ev S (o := o) (t := t) (a1 := a1) (b1 := b1) (c == 0) (p := p + 1) (by omega) hA hB
        exact ⟨_, _, _, _, _, _, _, h1, h2, ev_step (ev_pos c0 (ev_val hq (ev_pos rfl (ev_pos e (ev_bind hC h)))))⟩
      · exact ⟨_, _, _, _, _, _, _, n1, n2, ev_step (ev_pos c0 (ev_val hq (ev_pos rfl (ev_neg e n))))⟩
    | false => exact ⟨_, _, _, _, _, _, _, n1, n2, ev_step (ev_pos c0 (ev_val hq (ev_neg (by simp) n)))⟩
  · exact ⟨_, _, _, _, _, _, _, n1, n2, ev_step (ev_neg c0 n)⟩
theorem j2_ev (f : Bool) (hp : 0 ≤ p ∧ p ≤ 500000) (hA : DrawnV a2 a3) (hB : DrawnV b2 b3) : GoodD (fun k => spec_DrawMillBinary.j2 k o t f b p a1 a2 a3 b1 b2 b3) := by
  cases f with
  | false =>
    obtain ⟨_, _, _, _, _, _, _, h1, h2, h⟩ := j3_ev S (o := o) (t := t) (a1 := a1) (b1 := b1) (p := p) (by omega) hA hB
    exact ⟨_, _, _, _, _, _, _, h1, h2, ev_step (by simp only [spec_DrawMillBinary.j2, Bool.false_eq_true, if_false]; exact h)⟩
  | true =>
    obtain ⟨c, hc, hC⟩ := pick_ev S p 70 (by omega) (by omega)
    obtain ⟨m, hm, hM⟩ := max_ev t
    have hz : wrap64 (IntKind.u64.wrap ((Int.tmod m 71) + 1)) = m % 71 + 1 := by
      rw [Int.tmod_eq_emod_of_nonneg hm.1, wrapU]; unfold wrap64; omega
    have r : i64 (Int.tmod c (wrap64 (IntKind.u64.wrap ((Int.tmod m 71) + 1)))) := by
      rw [hz, Int.tmod_eq_emod_of_nonneg hc.1]
      have h1 := Int.emod_nonneg c (show m % 71 + 1 ≠ 0 by omega)
      have h2 := Int.emod_lt_of_pos c (show 0 < m % 71 + 1 by omega)
      unfold i64; omega
    obtain ⟨_, _, _, _, _, _, _, h1, h2, h⟩ := j3_ev S (o := o) (t := t) (a1 := a1) (b1 := b1) (p := p + 1) (b2 := Int.tmod c (wrap64 (IntKind.u64.wrap ((Int.tmod m 71) + 1)))) (by omega) hA ⟨r, hB.2⟩
    exact ⟨_, _, _, _, _, _, _, h1, h2, ev_step (by simp only [spec_DrawMillBinary.j2, if_true]; exact ev_bind hC (ev_bind hM (ev_neg (by rw [hz]; omega) h)))⟩
theorem j1_ev (h0 : 1 ≤ t) (h1 : t ≤ 10) (hp : 0 ≤ p ∧ p ≤ 400000) (hA : DrawnV a2 a3) : GoodD (fun k => spec_DrawMillBinary.j1 k o t b p a1 a2 a3) := by
  obtain ⟨T, n, s, q, hn, hq, hV⟩ := any_ev S p t (by omega) h0 h1
  obtain ⟨_, _, _, _, _, _, _, n1, n2, nn⟩ := j2_ev S (o := o) (t := t) (a1 := a1) (b1 := T) false (p := q) (by omega) hA hn
  by_cases c0 : o ≥ 17
  · obtain ⟨i, hi⟩ := integer_spec T
    cases i with
    | true =>
      obtain ⟨c, hc, hC⟩ := pick_ev S q 2 (by omega) (by omega)
      obtain ⟨_, _, _, _, _, _, _, h1, h2, h⟩ := j2_ev S (o := o) (t := t) (a1 := a1) (b1 := T) (c == 0) (p := q + 1) (by omega) hA hn
      exact ⟨_, _, _, _, _, _, _, h1, h2, ev_step (ev_bind hV (ev_pos c0 (ev_val hi (ev_pos rfl (ev_bind hC h)))))⟩
    | false => exact ⟨_, _, _, _, _, _, _, n1, n2, ev_step (ev_bind hV (ev_pos c0 (ev_val hi (ev_neg (by simp) nn))))⟩
  · exact ⟨_, _, _, _, _, _, _, n1, n2, ev_step (ev_bind hV (ev_neg c0 nn))⟩
theorem j0_ev (h0 : 1 ≤ t) (h1 : t ≤ 10) (hp : 0 ≤ p ∧ p ≤ 300000) : GoodD (fun k => spec_DrawMillBinary.j0 k o t b p) := by
  obtain ⟨T, n, s, q, hn, hq, hV⟩ := any_ev S p t (by omega) h0 h1
  obtain ⟨c, hc, hC⟩ := pick_ev S q 16 (by omega) (by omega)
  by_cases c0 : c = 0
  · obtain ⟨d, hd, hD⟩ := pick_ev S (q + 1) 10 (by omega) (by omega)
    have e : wrap64 (1 + d) = 1 + d := id64 (by omega) (by omega)
    obtain ⟨_, _, _, _, _, _, _, h1, h2, h⟩ := j1_ev S (o := o) (t := wrap64 (1 + d)) (a1 := T) (p := q + 1 + 1) (by omega) (by omega) (by omega) hn
    exact ⟨_, _, _, _, _, _, _, h1, h2, ev_step (ev_bind hV (ev_bind hC (ev_pos c0 (ev_bind hD h))))⟩
  · obtain ⟨_, _, _, _, _, _, _, h1, h2, h⟩ := j1_ev S (o := o) (t := t) (a1 := T) (p := q + 1) h0 h1 (by omega) hn
    exact ⟨_, _, _, _, _, _, _, h1, h2, ev_step (ev_bind hV (ev_bind hC (ev_neg c0 h)))⟩
end
theorem drawBinary_ev (l : List Int) (hl : l.length ≤ 1048576) (hv : ∀ x ∈ l, (Lit.int .u8 x).wf = true) : GoodD (fun k => spec_DrawMillBinary.f k l) := by
  have hv2 : ∀ x ∈ l, 0 ≤ x ∧ x < 256 := by
    intro x hx
    have := hv x hx
    simp [Lit.wf, IntKind.min, IntKind.max, IntKind.signed, IntKind.bits] at this
    omega
  have op : ∃ b, Src b ∧ spec_l10Open.f l = some (b, 0) := by
    unfold spec_l10Open.f
    by_cases c : (l.length : Int) > 2000
    · rw [if_pos c, if_pos (by omega)]
      exact ⟨_, ⟨by rw [List.length_take]; omega, fun x hx => hv2 x (List.mem_of_mem_take hx)⟩, rfl⟩
    · rw [if_neg c]
      exact ⟨_, ⟨by omega, hv2⟩, rfl⟩
  obtain ⟨b, S, hO⟩ := op
  obtain ⟨c, hc, hC⟩ := pick_ev S 0 18 (by omega) (by omega)
  obtain ⟨d, hd, hD⟩ := pick_ev S (0 + 1) 8 (by omega) (by omega)
  have e1 : wrap64 (1 + c) = 1 + c := id64 (by omega) (by omega)
  have e3 : wrap64 (3 + d) = 3 + d := id64 (by omega) (by omega)
  by_cases c2 : wrap64 (1 + c) ≤ 2
  · obtain ⟨_, _, _, _, _, _, _, h1, h2, h⟩ := j0_ev S (o := wrap64 (1 + c)) (t := 1) (p := 0 + 1 + 1) (by omega) (by omega) (by omega)
    exact ⟨_, _, _, _, _, _, _, h1, h2, ev_val hO (ev_bind hC (ev_bind hD (ev_pos c2 h)))⟩
  · by_cases c9 : wrap64 (1 + c) ≤ 9
    · obtain ⟨f, hf, hF⟩ := pick_ev S (0 + 1 + 1) 3 (by omega) (by omega)
      by_cases f0 : f = 0
      · obtain ⟨_, _, _, _, _, _, _, h1, h2, h⟩ := j0_ev S (o := wrap64 (1 + c)) (t := 2) (p := 0 + 1 + 1 + 1) (by omega) (by omega) (by omega)
        exact ⟨_, _, _, _, _, _, _, h1, h2, ev_val hO (ev_bind hC (ev_bind hD (ev_neg c2 (ev_pos c9 (ev_bind hF (ev_pos f0 h))))))⟩
      · obtain ⟨_, _, _, _, _, _, _, h1, h2, h⟩ := j0_ev S (o := wrap64 (1 + c)) (t := wrap64 (3 + d)) (p := 0 + 1 + 1 + 1) (by omega) (by omega) (by omega)
        exact ⟨_, _, _, _, _, _, _, h1, h2, ev_val hO (ev_bind hC (ev_bind hD (ev_neg c2 (ev_pos c9 (ev_bind hF (ev_neg f0 h))))))⟩
    · obtain ⟨_, _, _, _, _, _, _, h1, h2, h⟩ := j0_ev S (o := wrap64 (1 + c)) (t := wrap64 (3 + d)) (p := 0 + 1 + 1) (by omega) (by omega) (by omega)
      exact ⟨_, _, _, _, _, _, _, h1, h2, ev_val hO (ev_bind hC (ev_bind hD (ev_neg c2 (ev_neg c9 h))))⟩
end Go.Proofs.Ytdpdpigaegabbaa.Q
end
section
namespace Go.Proofs.Ytdpdpigaegabbaa.Pure
open Go.RowKit Go.Proofs.Ytdpdpigaegabbaa.Q Go.Proofs.YtdpdpigaegabbaaW.PrintWords Go.Proofs.YtdpdpigaegabbaaW.PrintLast
set_option linter.unusedVariables false
set_option linter.unusedSimpArgs false
open Go.Proofs.Ytdpdpigaegabbaa.EvMore Go.Proofs.YtdpdpigaegabbaaW.PrintMore
theorem bits_of (op : Int) {t an bn : Int} {ax bx : ByteArray} {r : Int × Int × ByteArray × ByteArray} (h : ((9 ≤ op ∧ op ≤ 13) ∨ op = 16) ∨ op = 17 ∨ op = 18) (e : Ev (fun k => impl_MillBinary.f k op t an ax t bn bx) r) : Ev (fun k => bits_MillBinary.f k op t an ax t bn bx) r := ev_pos h e
theorem em : (⟨#[]⟩ : ByteArray) ++ ⟨#[]⟩ = ⟨#[]⟩ := by decide
theorem es : (⟨#[]⟩ : ByteArray).size = 0 := rfl
theorem el : (⟨#[]⟩ : ByteArray).toList = [] := by rw [ByteArray.toList_eq]
theorem inT_i64 {t n : Int} (h0 : 3 ≤ t) (h1 : t ≤ 10) (h : inT t n) : -9223372036854775808 ≤ n ∧ n ≤ 9223372036854775807 := by
  unfold inT at h
  rw [h]
  exact conv_range _ h0 h1
theorem bits_step (op t an : Int) (ax : ByteArray) (ho : op = 17 ∨ op = 18) (h0 : 3 ≤ t) (h1 : t ≤ 10) (Va : vval t an ax = true) (m : Nat) (hm : m < 70)
    (next : Ev (fun k => laws_FnMillBits.l0 k (m : Int) (op + 1) t an ax) true) : Ev (fun k => laws_FnMillBits.l0 k (m : Int) op t an ax) true := by
  have Ta := (vval_num h0 h1 Va).1
  have ra := inT_i64 h0 h1 Ta
  have Tp := shift_inT ho h0 h1 Ta m
  have rp := inT_i64 h0 h1 Tp
  have em1 : wrap64 ((m : Int) + 1) = ((m + 1 : Nat) : Int) := by unfold wrap64; omega
  have eo : wrap64 (op + 1) = op + 1 := by unfold wrap64; omega
  have hp := bits_of op (.inr ho) (impl_shift op t an (m : Int) ax ⟨#[]⟩ ho h0 h1 ra (by omega) Va (vval_mk h0 h1 (inT_small h0 h1 (by omega) (by omega))))
  have hq := bits_of op (.inr ho) (impl_shift op t (shiftV op t an (m : Int)) 1 ⟨#[]⟩ ⟨#[]⟩ ho h0 h1 rp (by omega) (vval_mk h0 h1 Tp) (vval_mk h0 h1 (inT_small h0 h1 (by omega) (by omega))))
  have hr := bits_of op (.inr ho) (impl_shift op t an ((m + 1 : Nat) : Int) ax ⟨#[]⟩ ho h0 h1 ra (by omega) Va (vval_mk h0 h1 (inT_small h0 h1 (by omega) (by omega))))
  rw [shift_shift ho h0 h1 ra Ta m] at hq
  refine ev_step (ev_pos (by omega) (ev_bind hp (ev_bind hq (ev_bind (a := (t, shiftV op t an ((m + 1 : Nat) : Int), ⟨#[]⟩, ⟨#[]⟩)) (by simp only [em1]; exact hr) (ev_pos (by simp only [es]; omega) (ev_pos (by simp only [em, es]; omega) (ev_pos (by simp only [em, el]) (ev_neg (by simp) ?_))))))))
  simp only [eo]
  exact next
theorem FnMillBits : laws_FnMillBits.Pure := by
  intro l hm hb hv
  refine Ev.rounds ?_
  by_cases c : (l.length : Int) > 1048576
  · exact ev_pos c (ev_now _)
  · obtain ⟨o, t, an, ax, u, bn, bx, ⟨hA, sa⟩, ⟨hB, sb⟩, hD⟩ := drawBinary_ev l (by omega) hv
    have plain : Ev (fun k => laws_FnMillBits.j0 k l true t an ax u bn bx) true := by
      refine ev_step ?_
      simp only [laws_FnMillBits.j0, if_true, impl_valid, spec_valid, Option.bind_some, beq_self_eq_true]
      exact ev_now _
    refine ev_neg c (ev_bind hD ?_)
    by_cases Va : vval t an ax = true
    · by_cases Vb : vval u bn bx = true
      · by_cases e : t = u
        · subst e
          by_cases t3 : t < 3
          · exact ev_val (spec_valid _ _ _) (ev_pos Va (ev_val (spec_valid _ _ _) (ev_pos Vb (ev_pos rfl (by simp only [decide_eq_true t3]; exact plain)))))
          · have h0 : 3 ≤ t := by omega
            have h1 := (vval_type Va).2
            have hO := bits_of 11 (.inl (by omega)) (impl_num 11 t an bn ax bx h0 h1 Va Vb _ (bits_range _ _ _).1 (bits_range _ _ _).2 (.inr (.inl ⟨rfl, rfl⟩)))
            have hX := bits_of 12 (.inl (by omega)) (impl_num 12 t an bn ax bx h0 h1 Va Vb _ (bits_range _ _ _).1 (bits_range _ _ _).2 (.inr (.inr (.inl ⟨rfl, rfl⟩))))
            have hN := bits_of 16 (.inl (by omega)) (impl_num 16 t an bn ax bx h0 h1 Va Vb _ (bits_range _ _ _).1 (bits_range _ _ _).2 (.inr (.inr (.inr ⟨rfl, rfl⟩))))
            have hS := bits_of 9 (.inl (by omega)) (impl_num 9 t _ _ ⟨#[]⟩ ⟨#[]⟩ h0 h1 (vval_mk h0 h1 (inT_conv (Go.bits .and .u64 (IntKind.u64.wrap an) (IntKind.u64.wrap bn)) h0 h1)) (vval_mk h0 h1 (inT_conv (Go.bits .xor .u64 (IntKind.u64.wrap an) (IntKind.u64.wrap bn)) h0 h1)) _ (wrapU_range _).1 (wrapU_range _).2 (.inl ⟨rfl, rfl⟩))
            rw [set_sum _ _ h0 h1] at hS
            have em70 : (l.length : Int) % 70 = ((l.length % 70 : Nat) : Int) := by omega
            have lend : Ev (fun k => laws_FnMillBits.l0 k ((l.length % 70 : Nat) : Int) (18 + 1) t an ax) true := ev_step (ev_neg (by omega) (ev_now _))
            have loop := bits_step 17 t an ax (.inl rfl) h0 h1 Va (l.length % 70) (by omega) (bits_step 18 t an ax (.inr rfl) h0 h1 Va (l.length % 70) (by omega) lend)
            have j1 : Ev (fun k => laws_FnMillBits.j1 k l false t an ax) true := by
              refine ev_step ?_
              simp only [laws_FnMillBits.j1, Bool.false_eq_true, if_false, em70]
              exact loop
            have main : Ev (fun k => laws_FnMillBits.j0 k l false t an ax t bn bx) true := by
              refine ev_step ?_
              simp only [laws_FnMillBits.j0, Bool.false_eq_true, if_false]
              refine ev_bind hO (ev_bind hN (ev_bind hX (ev_bind hS (ev_pos (by simp only [es]; omega) (ev_pos (by simp only [em, es]; omega) (ev_pos (by simp only [em, es]; omega) (ev_pos (by simp only [em, el]) ?_)))))))
              simp only [beq_self_eq_true, Bool.not_true, Bool.or_false]
              exact j1
            exact ev_val (spec_valid _ _ _) (ev_pos Va (ev_val (spec_valid _ _ _) (ev_pos Vb (ev_pos rfl (by simp only [decide_eq_false t3]; exact main)))))
        · exact ev_val (spec_valid _ _ _) (ev_pos Va (ev_val (spec_valid _ _ _) (ev_pos Vb (ev_neg e plain))))
      · exact ev_val (spec_valid _ _ _) (ev_pos Va (ev_val (spec_valid _ _ _) (ev_neg Vb plain)))
    · exact ev_val (spec_valid _ _ _) (ev_neg Va plain)
end Go.Proofs.Ytdpdpigaegabbaa.Pure
end
