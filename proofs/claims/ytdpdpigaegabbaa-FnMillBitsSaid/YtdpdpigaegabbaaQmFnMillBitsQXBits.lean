/- Several texts of this seat put together by merge.py, without what this claim does not use. -/
import Derived.Test.YtdpdpigaegabbaaQmFnMillBitsQg49C
import Derived.Test.YtdpdpigaegabbaaQmFnMillBitsQg49D
section
namespace Go.Proofs.Ytdpdpigaegabbaa.Q
open Go.RowKit Go.Proofs.YtdpdpigaegabbaaW.PrintWords Go.Proofs.YtdpdpigaegabbaaW.PrintLast Go.Proofs.YtdpdpigaegabbaaW.PrintMore
def bits_MillBinary.f (k : Nat) (a0 a1_0 a1_1 : Int) (a1_2 : ByteArray) (a2_0 a2_1 : Int) (a2_2 : ByteArray) : Option (Int × Int × ByteArray × ByteArray) :=
  if ((9 ≤ a0 ∧ a0 ≤ 13) ∨ a0 = 16) ∨ a0 = 17 ∨ a0 = 18 then impl_MillBinary.f k a0 a1_0 a1_1 a1_2 a2_0 a2_1 a2_2 else none
theorem bits_MillBinary.calls (k : Nat) (a0 : Int) (a1_0 : Int) (a1_1 : Int) (a1_2 : ByteArray) (a2_0 : Int) (a2_1 : Int) (a2_2 : ByteArray) (r1 : Int) (r2 : Int) (r3 : ByteArray) (r4 : ByteArray) (w : World) (h : bits_MillBinary.f k a0 a1_0 a1_1 a1_2 a2_0 a2_1 a2_2 = some (r1, r2, r3, r4)) :
    Calls Try.prog 49 #[.int .i64 a0, .agg #[.int .i64 a1_0, .int .i64 a1_1, .string a1_2], .agg #[.int .i64 a2_0, .int .i64 a2_1, .string a2_2]] w fun e w' => e = .returned (.tuple #[.agg #[.int .i64 r1, .int .i64 r2, .string r3], .string r4]) ∧ Below w.heap.size w w' := by
  unfold bits_MillBinary.f at h
  by_cases c : ((9 ≤ a0 ∧ a0 ≤ 13) ∨ a0 = 16) ∨ a0 = 17 ∨ a0 = 18
  · rw [if_pos c] at h
    rcases c with c | c
    · exact impl_MillBinary.callsC k a0 a1_0 a1_1 a1_2 a2_0 a2_1 a2_2 r1 r2 r3 r4 w c h
    · exact impl_MillBinary.callsD k a0 a1_0 a1_1 a1_2 a2_0 a2_1 a2_2 r1 r2 r3 r4 w c h
  · rw [if_neg c] at h
    exact absurd h (by simp)
end Go.Proofs.Ytdpdpigaegabbaa.Q
end
