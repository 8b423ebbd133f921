/- What program and reference compute of Mill's values, in plain arithmetic: the number of a type, which values are valid. No condition. -/
import Derived.Test.YtdpdpigaegabbaaQXConv
import Derived.Test.YtdpdpigaegabbaaQXInto
import Derived.Test.YtdpdpigaegabbaaQf55
import Derived.Test.YtdpdpigaegabbaaQf22
import Derived.Test.YtdpdpigaegabbaaQf24
namespace Go.Proofs.Ytdpdpigaegabbaa.Q
open Go.RowKit Go.Proofs.YtdpdpigaegabbaaW.PrintWords Go.Proofs.YtdpdpigaegabbaaW.PrintLast Go.Proofs.YtdpdpigaegabbaaW.PrintMore
set_option linter.unusedVariables false
set_option linter.unusedSimpArgs false
theorem u8_ (t : Int) (h : t = 3 ∨ t = 7) : impl_bitsOf.f t = some 8 := by rcases h with rfl | rfl <;> decide +kernel
theorem u16_ (t : Int) (h : t = 4 ∨ t = 8) : impl_bitsOf.f t = some 16 := by rcases h with rfl | rfl <;> decide +kernel
theorem u32_ (t : Int) (h : t = 5 ∨ t = 9) : impl_bitsOf.f t = some 32 := by rcases h with rfl | rfl <;> decide +kernel
theorem u64_ (t : Int) (h : t = 6 ∨ t = 10) : impl_bitsOf.f t = some 64 := by rcases h with rfl | rfl <;> decide +kernel
theorem shlU (x : Int) (j : Nat) (h : j ≤ 64) : shl .u64 x (j : Int) = (x * 2 ^ j) % 18446744073709551616 := by
  unfold shl; rw [wrapU, Int.toNat_natCast, Nat.min_eq_left (by simpa [IntKind.bits] using h)]
theorem shlI (x : Int) (j : Nat) (h : j ≤ 64) : shl .i64 x (j : Int) = wrap64 (x * 2 ^ j) := by
  unfold shl; rw [wrapI, Int.toNat_natCast, Nat.min_eq_left (by simpa [IntKind.bits] using h)]
theorem shrK (k : IntKind) (hk : k.bits = 64) (x : Int) (j : Nat) (h : j ≤ 64) : shr k x (j : Int) = x / 2 ^ j := by
  unfold shr; rw [Int.toNat_natCast, Nat.min_eq_left (by rw [hk]; exact h)]
theorem wrapped_eq {t n : Int} (h0 : 3 ≤ t) (h1 : t ≤ 10) (hn0 : 0 ≤ n) (hn1 : n < 18446744073709551616) : impl_wrapped.f t n = some (conv t n) := by
  have e56 : wrap64 (64 - 8) = 56 := by decide +kernel
  have e48 : wrap64 (64 - 16) = 48 := by decide +kernel
  have e32 : wrap64 (64 - 32) = 32 := by decide +kernel
  have e0 : wrap64 (64 - 64) = 0 := by decide +kernel
  have a56 : ∀ x, shl .u64 x 56 = (x * 2 ^ 56) % 18446744073709551616 := fun x => shlU x 56 (by omega)
  have a48 : ∀ x, shl .u64 x 48 = (x * 2 ^ 48) % 18446744073709551616 := fun x => shlU x 48 (by omega)
  have a32 : ∀ x, shl .u64 x 32 = (x * 2 ^ 32) % 18446744073709551616 := fun x => shlU x 32 (by omega)
  have a0 : ∀ x, shl .u64 x 0 = (x * 2 ^ 0) % 18446744073709551616 := fun x => shlU x 0 (by omega)
  have b56 : ∀ x, shl .i64 x 56 = wrap64 (x * 2 ^ 56) := fun x => shlI x 56 (by omega)
  have b48 : ∀ x, shl .i64 x 48 = wrap64 (x * 2 ^ 48) := fun x => shlI x 48 (by omega)
  have b32 : ∀ x, shl .i64 x 32 = wrap64 (x * 2 ^ 32) := fun x => shlI x 32 (by omega)
  have b0 : ∀ x, shl .i64 x 0 = wrap64 (x * 2 ^ 0) := fun x => shlI x 0 (by omega)
  have c56 : ∀ x, shr .u64 x 56 = x / 2 ^ 56 := fun x => shrK _ rfl x 56 (by omega)
  have c48 : ∀ x, shr .u64 x 48 = x / 2 ^ 48 := fun x => shrK _ rfl x 48 (by omega)
  have c32 : ∀ x, shr .u64 x 32 = x / 2 ^ 32 := fun x => shrK _ rfl x 32 (by omega)
  have c0 : ∀ x, shr .u64 x 0 = x / 2 ^ 0 := fun x => shrK _ rfl x 0 (by omega)
  have d56 : ∀ x, shr .i64 x 56 = x / 2 ^ 56 := fun x => shrK _ rfl x 56 (by omega)
  have d48 : ∀ x, shr .i64 x 48 = x / 2 ^ 48 := fun x => shrK _ rfl x 48 (by omega)
  have d32 : ∀ x, shr .i64 x 32 = x / 2 ^ 32 := fun x => shrK _ rfl x 32 (by omega)
  have d0 : ∀ x, shr .i64 x 0 = x / 2 ^ 0 := fun x => shrK _ rfl x 0 (by omega)
  unfold impl_wrapped.f
  rcases types_cases h0 h1 with rfl | rfl | rfl | rfl | rfl | rfl | rfl | rfl
  · rw [u8_ _ (by simp)]; simp only [Option.bind_some, impl_unsignedType.f, e56, a56, c56]; simp [conv, wrap64] <;> omega
  · rw [u16_ _ (by simp)]; simp only [Option.bind_some, impl_unsignedType.f, e48, a48, c48]; simp [conv, wrap64] <;> omega
  · rw [u32_ _ (by simp)]; simp only [Option.bind_some, impl_unsignedType.f, e32, a32, c32]; simp [conv, wrap64] <;> omega
  · rw [u64_ _ (by simp)]; simp only [Option.bind_some, impl_unsignedType.f, e0, a0, c0]; simp [conv, wrap64] <;> omega
  · rw [u8_ _ (by simp)]; simp only [Option.bind_some, impl_unsignedType.f, e56, b56, d56]; simp [conv, wrap64] <;> omega
  · rw [u16_ _ (by simp)]; simp only [Option.bind_some, impl_unsignedType.f, e48, b48, d48]; simp [conv, wrap64] <;> omega
  · rw [u32_ _ (by simp)]; simp only [Option.bind_some, impl_unsignedType.f, e32, b32, d32]; simp [conv, wrap64] <;> omega
  · rw [u64_ _ (by simp)]; simp only [Option.bind_some, impl_unsignedType.f, e0, b0, d0]; simp [conv, wrap64] <;> omega
theorem into_eq {t n : Int} (hn0 : 0 ≤ n) (hn1 : n < 18446744073709551616) : spec_l13Into.f t n = some (conv t n) := by
  unfold spec_l13Into.f; rw [if_pos ⟨hn0, hn1⟩]
/-- What both say of a value. -/
def vval (t n : Int) (s : ByteArray) : Bool :=
  if t = 1 then (n == 0 || n == 1) && s.toList == ([] : List UInt8) else if t = 2 then n == 0 && decide ((s.size : Int) ≤ 3000) else
  if 3 ≤ t ∧ t ≤ 10 then s.toList == ([] : List UInt8) && n == conv t (IntKind.u64.wrap n) else false
theorem spec_valid (t n : Int) (s : ByteArray) : spec_MillValidValue.f t n s = some (vval t n s) := by
  have hr := wrapU_range n
  unfold spec_MillValidValue.f spec_l10Integer.f vval
  by_cases h1 : t = 1
  · simp only [h1]; by_cases a : n = 0 <;> by_cases b : n = 1 <;> simp [a, b]
  · by_cases h2 : t = 2
    · simp only [h2]; by_cases a : n = 0 <;> simp [a]
    · by_cases h3 : 3 ≤ t
      · by_cases h4 : t ≤ 10
        · rw [if_neg h1, if_neg h2, if_pos h3, if_neg h1, if_neg h2, if_pos (show 3 ≤ t ∧ t ≤ 10 from ⟨h3, h4⟩)]
          simp only [Option.bind_some, h4, decide_true, if_true]
          by_cases hs : s.toList = []
          · rw [if_pos hs, into_eq hr.1 hr.2]; simp [hs]
          · rw [if_neg hs]; simp [hs]
        · simp [h1, h2, h3, h4]
      · simp [h1, h2, h3]
theorem impl_valid (t n : Int) (s : ByteArray) : impl_MillValidValue.f t n s = some (vval t n s) := by
  have hr := wrapU_range n
  unfold impl_MillValidValue.f impl_integerType.f vval
  by_cases h1 : t = 1
  · simp only [h1]; by_cases hs : s.toList = [] <;> by_cases a : n = 0 <;> simp [a, hs]
  · by_cases h2 : t = 2
    · simp only [h2]; by_cases a : n = 0 <;> simp [a]
    · by_cases h3 : 3 ≤ t
      · by_cases h4 : t ≤ 10
        · rw [if_neg h1, if_neg h2, if_pos h3, if_neg h1, if_neg h2, if_pos (show 3 ≤ t ∧ t ≤ 10 from ⟨h3, h4⟩)]
          simp only [Option.bind_some, h4, decide_true, if_true]
          by_cases hs : s.toList = []
          · rw [if_pos hs, wrapped_eq h3 h4 hr.1 hr.2]; simp [hs]; rw [Bool.eq_iff_iff, beq_iff_eq, beq_iff_eq]; exact ⟨Eq.symm, Eq.symm⟩
          · rw [if_neg hs]; simp [hs]
        · simp [h1, h2, h3, h4]
      · simp [h1, h2, h3]
end Go.Proofs.Ytdpdpigaegabbaa.Q
