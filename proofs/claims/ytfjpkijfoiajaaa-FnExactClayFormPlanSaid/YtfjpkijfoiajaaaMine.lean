/- Small laws that the walks of this session's texts use beside the kit's: how strings compare, and which cells are there behind stores. No condition. -/
import Derived.WalkKit
import Derived.Laws.Strings
namespace Go.Proofs.Ytfjpkijfoiajaaa.Mine
open Go.RowKit
theorem size_mk (a : Array UInt8) : (⟨a⟩ : ByteArray).size = a.size := rfl
theorem less_irrefl : ∀ a : List UInt8, Op.bytesLess a a = false
  | [] => rfl
  | a :: r => by simp [Op.bytesLess, less_irrefl r]
theorem less_leq : ∀ a b : List UInt8, (Op.bytesLess a b || a == b) = !Op.bytesLess b a
  | [], [] => rfl
  | [], _ :: _ => rfl
  | _ :: _, [] => rfl
  | a :: r, b :: s => by
    have ih := less_leq r s
    simp only [Op.bytesLess]
    by_cases h : a = b
    · subst h
      simpa using ih
    · by_cases h1 : a < b
      · have h2 : ¬ b < a := fun h2 => UInt8.lt_asymm h1 h2
        have h3 : ¬ b = a := fun h3 => h h3.symm
        simp [h1, h2, h3]
      · have h2 : b < a := by
          rw [UInt8.lt_iff_toNat_lt] at h1 ⊢
          have h3 : a.toNat ≠ b.toNat := fun h3 => h (UInt8.toNat_inj.1 h3)
          omega
        simp [h, h1, h2]
@[go_sem] theorem string_leq (t : TypeId) (a b : ByteArray) : binOp .leq t (.string a) (.string b) = pure (.bool !(Op.bytesLess b.toList a.toList)) := by
  rw [← less_leq]; simp [binOp, Op.stringOp]
@[go_sem] theorem string_gtr (t : TypeId) (a b : ByteArray) : binOp .gtr t (.string a) (.string b) = pure (.bool (Op.bytesLess b.toList a.toList)) := by
  have h := less_leq a.toList b.toList
  have h2 : Op.bytesLess b.toList a.toList = !(Op.bytesLess a.toList b.toList || a.toList == b.toList) := by rw [h, Bool.not_not]
  rw [h2]; simp [binOp, Op.stringOp]
@[go_sem] theorem string_geq (t : TypeId) (a b : ByteArray) : binOp .geq t (.string a) (.string b) = pure (.bool !(Op.bytesLess a.toList b.toList)) := by simp [binOp, Op.stringOp]
@[go_sem] theorem setCell_some (w : World) (a b : Addr) (v : Value) : ((w.setCell a v).cell? b).isSome = (w.cell? b).isSome := by
  simp only [World.setCell, World.cell?, Array.getElem?_modify]
  by_cases h : a.block = b.block
  · simp only [h, if_true]
    cases hh : w.heap[b.block]? with
    | none => simp
    | some x =>
      cases x <;> simp
      rename_i c _ _
      cases b.spot <;> simp
      cases a.spot <;> simp
      rw [Array.getElem?_setIfInBounds]
      by_cases h2 : a.off = b.off <;> by_cases h3 : b.off < c.size <;> simp [h2, h3]
  · simp [h]
/-- Go's ^x of a uint64. -/
def not64 (n : Int) : Int := IntKind.u64.wrap (-1 - n)
theorem xor_max (n : Int) : bits .xor .u64 IntKind.u64.max n = not64 n := by
  show IntKind.u64.wrap ((((BitVec.ofInt 64 IntKind.u64.max) ^^^ (BitVec.ofInt 64 n) : BitVec 64).toNat : Nat) : Int) = IntKind.u64.wrap (-1 - n)
  have e : (BitVec.ofInt 64 IntKind.u64.max : BitVec 64) = BitVec.allOnes 64 := by decide
  have h2 : (BitVec.ofInt 64 IntKind.u64.max ^^^ BitVec.ofInt 64 n : BitVec 64) = ~~~ (BitVec.ofInt 64 n) := by
    rw [e, BitVec.allOnes_xor]
  rw [h2, BitVec.toNat_not, BitVec.toNat_ofInt]
  have h3 : ((n % ((2 ^ 64 : Nat) : Int)).toNat : Int) = n % 18446744073709551616 := by
    rw [Int.toNat_of_nonneg (Int.emod_nonneg _ (by decide))]; rfl
  have h4 : (n % ((2 ^ 64 : Nat) : Int)).toNat < 18446744073709551616 := by omega
  have h5 : ((2 ^ 64 - 1 - (n % ((2 ^ 64 : Nat) : Int)).toNat : Nat) : Int) = 18446744073709551615 - n % 18446744073709551616 := by omega
  rw [h5]
  simp only [IntKind.wrap, IntKind.signed, IntKind.bits, Bool.false_and]
  show (18446744073709551615 - n % 18446744073709551616) % 18446744073709551616 = (-1 - n) % 18446744073709551616
  omega
@[go_sem high] theorem unary_xor_u64 (n : Int) : Op.unary .xor (.int .u64 n) = pure (.int .u64 (not64 n)) := by
  rw [← xor_max]; simp [Op.unary, IntKind.signed]; rfl
end Go.Proofs.Ytfjpkijfoiajaaa.Mine
