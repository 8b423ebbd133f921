/-
  No cell of these rows narrows 'for every input' (looked for: loops, veiled, ifaces, maps, wideKeys, modest, calm, conditions, laid).
  DERIVED. THE GIVEN ROWS OF THIS SEAT. 12 by the template 'for every input the law returns true; each argument reads behind the call as it read before'; 0 by the template 'total and deterministic' (their statements: YtdpdpigaegabbaaTotals.lean).
  GIVEN WITH THE SEED: the statements are not yours to turn. If you find one false, say at which input.
  Laid BY PROGRAM, IN A SANDBOX (cutbox-rows.mjs): the forced cells as the released guide's own fill.sh prints them over the translation 33dbd436a5136199… (all of the seat's roots in one cut). By AI agents, Wed Nov 11 2026. No macro, syntax, notation, axiom, sorry.
-/
import Derived.Test.YtdpdpigaegabbaaChecked
import GoSem.Claim
import GoSem.ClaimJoined
import GoSem.ClaimMapViews
import Derived.JoinedTies
import Derived.KernelRfl
namespace Go.Proofs.Ytdpdpigaegabbaa
/- THE CELL 'sum', in the pinned program and in every row, IS THE sha256 OF THE DUMP (.gsa) THAT YtdpdpigaegabbaaProg.lean LOADS. Nothing in Lean hashes anything: it is a label: what it is worth is what the hold of that sum in a sandbox is worth. -/
noncomputable def Try.pinned : Pinned := { name := "ytdpdpigaegabbaa", sum := "33dbd436a51361994cc3284828760082eba9117e5e9c0856cf564c592580cb9f", checked := Try.checked }
namespace Rows
def none {H : Type} : Left H := { results := [], args := [] }

/-- 'laws.FnExactConstants': WHATEVER THE INPUT: true; the input reads as it did. -/
def fnExactConstantsSpec : ChangeSpec := { name := "fnExactConstants", fn := fun _ => fun
  | [] => { results := [.lit (.bool true)], args := [] }
  | _ => none }
def fnExactConstantsRow : OpenClaim := { program := "ytdpdpigaegabbaa", sum := "33dbd436a51361994cc3284828760082eba9117e5e9c0856cf564c592580cb9f", func := "loop.example/kilnyard/laws.FnExactConstants", spec := "fnExactConstants", apart := false }
def FnExactConstantsSaid : Prop := fnExactConstantsRow.holds Try.pinned (OpenSpec.ofChange fnExactConstantsSpec)

/-- ITS FALSE NEIGHBOUR: 'it returns false'. Refute it at one input. -/
def fnExactConstantsWrong : ChangeSpec := { name := "fnExactConstants", fn := fun _ => fun
  | [] => { results := [.lit (.bool false)], args := [] }
  | _ => none }
def FnExactConstantsWrongFalsely : Prop := fnExactConstantsRow.holds Try.pinned (OpenSpec.ofChange fnExactConstantsWrong)

/-- 'laws.FnExactMillValidReply': WHATEVER THE INPUT: true; the input reads as it did. -/
def fnExactMillValidReplySpec : ChangeSpec := { name := "fnExactMillValidReply", fn := fun _ => fun
  | [d] => { results := [.lit (.bool true)], args := [d] }
  | _ => none }
def fnExactMillValidReplyRow : OpenClaim := { program := "ytdpdpigaegabbaa", sum := "33dbd436a51361994cc3284828760082eba9117e5e9c0856cf564c592580cb9f", func := "loop.example/kilnyard/laws.FnExactMillValidReply", spec := "fnExactMillValidReply", apart := false }
def FnExactMillValidReplySaid : Prop := fnExactMillValidReplyRow.holds Try.pinned (OpenSpec.ofChange fnExactMillValidReplySpec)

/-- ITS FALSE NEIGHBOUR: 'it returns false'. Refute it at one input. -/
def fnExactMillValidReplyWrong : ChangeSpec := { name := "fnExactMillValidReply", fn := fun _ => fun
  | [d] => { results := [.lit (.bool false)], args := [d] }
  | _ => none }
def FnExactMillValidReplyWrongFalsely : Prop := fnExactMillValidReplyRow.holds Try.pinned (OpenSpec.ofChange fnExactMillValidReplyWrong)

/-- 'laws.FnExactYardTag': WHATEVER THE INPUT: true; the input reads as it did. -/
def fnExactYardTagSpec : ChangeSpec := { name := "fnExactYardTag", fn := fun _ => fun
  | [d1, d2] => { results := [.lit (.bool true)], args := [d1, d2] }
  | _ => none }
def fnExactYardTagRow : OpenClaim := { program := "ytdpdpigaegabbaa", sum := "33dbd436a51361994cc3284828760082eba9117e5e9c0856cf564c592580cb9f", func := "loop.example/kilnyard/laws.FnExactYardTag", spec := "fnExactYardTag", apart := false }
def FnExactYardTagSaid : Prop := fnExactYardTagRow.holds Try.pinned (OpenSpec.ofChange fnExactYardTagSpec)

/-- ITS FALSE NEIGHBOUR: 'it returns false'. Refute it at one input. -/
def fnExactYardTagWrong : ChangeSpec := { name := "fnExactYardTag", fn := fun _ => fun
  | [d1, d2] => { results := [.lit (.bool false)], args := [d1, d2] }
  | _ => none }
def FnExactYardTagWrongFalsely : Prop := fnExactYardTagRow.holds Try.pinned (OpenSpec.ofChange fnExactYardTagWrong)

/-- 'laws.FnExactMillValidValue': WHATEVER THE INPUT: true; the input reads as it did. -/
def fnExactMillValidValueSpec : ChangeSpec := { name := "fnExactMillValidValue", fn := fun _ => fun
  | [d] => { results := [.lit (.bool true)], args := [d] }
  | _ => none }
def fnExactMillValidValueRow : OpenClaim := { program := "ytdpdpigaegabbaa", sum := "33dbd436a51361994cc3284828760082eba9117e5e9c0856cf564c592580cb9f", func := "loop.example/kilnyard/laws.FnExactMillValidValue", spec := "fnExactMillValidValue", apart := false }
def FnExactMillValidValueSaid : Prop := fnExactMillValidValueRow.holds Try.pinned (OpenSpec.ofChange fnExactMillValidValueSpec)

/-- ITS FALSE NEIGHBOUR: 'it returns false'. Refute it at one input. -/
def fnExactMillValidValueWrong : ChangeSpec := { name := "fnExactMillValidValue", fn := fun _ => fun
  | [d] => { results := [.lit (.bool false)], args := [d] }
  | _ => none }
def FnExactMillValidValueWrongFalsely : Prop := fnExactMillValidValueRow.holds Try.pinned (OpenSpec.ofChange fnExactMillValidValueWrong)

/-- 'laws.FnExactMillConvert': WHATEVER THE INPUT: true; the input reads as it did. -/
def fnExactMillConvertSpec : ChangeSpec := { name := "fnExactMillConvert", fn := fun _ => fun
  | [d1, d2] => { results := [.lit (.bool true)], args := [d1, d2] }
  | _ => none }
def fnExactMillConvertRow : OpenClaim := { program := "ytdpdpigaegabbaa", sum := "33dbd436a51361994cc3284828760082eba9117e5e9c0856cf564c592580cb9f", func := "loop.example/kilnyard/laws.FnExactMillConvert", spec := "fnExactMillConvert", apart := false }
def FnExactMillConvertSaid : Prop := fnExactMillConvertRow.holds Try.pinned (OpenSpec.ofChange fnExactMillConvertSpec)

/-- ITS FALSE NEIGHBOUR: 'it returns false'. Refute it at one input. -/
def fnExactMillConvertWrong : ChangeSpec := { name := "fnExactMillConvert", fn := fun _ => fun
  | [d1, d2] => { results := [.lit (.bool false)], args := [d1, d2] }
  | _ => none }
def FnExactMillConvertWrongFalsely : Prop := fnExactMillConvertRow.holds Try.pinned (OpenSpec.ofChange fnExactMillConvertWrong)

/-- 'laws.FnExactMillValidJob': WHATEVER THE INPUT: true; the input reads as it did. -/
def fnExactMillValidJobSpec : ChangeSpec := { name := "fnExactMillValidJob", fn := fun _ => fun
  | [d] => { results := [.lit (.bool true)], args := [d] }
  | _ => none }
def fnExactMillValidJobRow : OpenClaim := { program := "ytdpdpigaegabbaa", sum := "33dbd436a51361994cc3284828760082eba9117e5e9c0856cf564c592580cb9f", func := "loop.example/kilnyard/laws.FnExactMillValidJob", spec := "fnExactMillValidJob", unfollowed := true, recurses := true, apart := false }
def FnExactMillValidJobSaid : Prop := fnExactMillValidJobRow.holds Try.pinned (OpenSpec.ofChange fnExactMillValidJobSpec)

/-- ITS FALSE NEIGHBOUR: 'it returns false'. Refute it at one input. -/
def fnExactMillValidJobWrong : ChangeSpec := { name := "fnExactMillValidJob", fn := fun _ => fun
  | [d] => { results := [.lit (.bool false)], args := [d] }
  | _ => none }
def FnExactMillValidJobWrongFalsely : Prop := fnExactMillValidJobRow.holds Try.pinned (OpenSpec.ofChange fnExactMillValidJobWrong)

/-- 'laws.FnExactMillValidPlace': WHATEVER THE INPUT: true; the input reads as it did. -/
def fnExactMillValidPlaceSpec : ChangeSpec := { name := "fnExactMillValidPlace", fn := fun _ => fun
  | [d] => { results := [.lit (.bool true)], args := [d] }
  | _ => none }
def fnExactMillValidPlaceRow : OpenClaim := { program := "ytdpdpigaegabbaa", sum := "33dbd436a51361994cc3284828760082eba9117e5e9c0856cf564c592580cb9f", func := "loop.example/kilnyard/laws.FnExactMillValidPlace", spec := "fnExactMillValidPlace", apart := false }
def FnExactMillValidPlaceSaid : Prop := fnExactMillValidPlaceRow.holds Try.pinned (OpenSpec.ofChange fnExactMillValidPlaceSpec)

/-- ITS FALSE NEIGHBOUR: 'it returns false'. Refute it at one input. -/
def fnExactMillValidPlaceWrong : ChangeSpec := { name := "fnExactMillValidPlace", fn := fun _ => fun
  | [d] => { results := [.lit (.bool false)], args := [d] }
  | _ => none }
def FnExactMillValidPlaceWrongFalsely : Prop := fnExactMillValidPlaceRow.holds Try.pinned (OpenSpec.ofChange fnExactMillValidPlaceWrong)

/-- 'laws.FnExactMillUnary': WHATEVER THE INPUT: true; the input reads as it did. -/
def fnExactMillUnarySpec : ChangeSpec := { name := "fnExactMillUnary", fn := fun _ => fun
  | [d1, d2] => { results := [.lit (.bool true)], args := [d1, d2] }
  | _ => none }
def fnExactMillUnaryRow : OpenClaim := { program := "ytdpdpigaegabbaa", sum := "33dbd436a51361994cc3284828760082eba9117e5e9c0856cf564c592580cb9f", func := "loop.example/kilnyard/laws.FnExactMillUnary", spec := "fnExactMillUnary", apart := false }
def FnExactMillUnarySaid : Prop := fnExactMillUnaryRow.holds Try.pinned (OpenSpec.ofChange fnExactMillUnarySpec)

/-- ITS FALSE NEIGHBOUR: 'it returns false'. Refute it at one input. -/
def fnExactMillUnaryWrong : ChangeSpec := { name := "fnExactMillUnary", fn := fun _ => fun
  | [d1, d2] => { results := [.lit (.bool false)], args := [d1, d2] }
  | _ => none }
def FnExactMillUnaryWrongFalsely : Prop := fnExactMillUnaryRow.holds Try.pinned (OpenSpec.ofChange fnExactMillUnaryWrong)

/-- 'laws.FnExactMillSee': WHATEVER THE INPUT: true; the input reads as it did. -/
def fnExactMillSeeSpec : ChangeSpec := { name := "fnExactMillSee", fn := fun _ => fun
  | [d1, d2, d3] => { results := [.lit (.bool true)], args := [d1, d2, d3] }
  | _ => none }
def fnExactMillSeeRow : OpenClaim := { program := "ytdpdpigaegabbaa", sum := "33dbd436a51361994cc3284828760082eba9117e5e9c0856cf564c592580cb9f", func := "loop.example/kilnyard/laws.FnExactMillSee", spec := "fnExactMillSee", inPlace := ["internal/bytealg.abigen_runtime_cmpstring"], unfollowed := true, recurses := true, apart := false }
def FnExactMillSeeSaid : Prop := fnExactMillSeeRow.holds Try.pinned (OpenSpec.ofChange fnExactMillSeeSpec)

/-- ITS FALSE NEIGHBOUR: 'it returns false'. Refute it at one input. -/
def fnExactMillSeeWrong : ChangeSpec := { name := "fnExactMillSee", fn := fun _ => fun
  | [d1, d2, d3] => { results := [.lit (.bool false)], args := [d1, d2, d3] }
  | _ => none }
def FnExactMillSeeWrongFalsely : Prop := fnExactMillSeeRow.holds Try.pinned (OpenSpec.ofChange fnExactMillSeeWrong)

/-- 'laws.FnExactMillHolds': WHATEVER THE INPUT: true; the input reads as it did. -/
def fnExactMillHoldsSpec : ChangeSpec := { name := "fnExactMillHolds", fn := fun _ => fun
  | [d1, d2] => { results := [.lit (.bool true)], args := [d1, d2] }
  | _ => none }
def fnExactMillHoldsRow : OpenClaim := { program := "ytdpdpigaegabbaa", sum := "33dbd436a51361994cc3284828760082eba9117e5e9c0856cf564c592580cb9f", func := "loop.example/kilnyard/laws.FnExactMillHolds", spec := "fnExactMillHolds", inPlace := ["internal/bytealg.abigen_runtime_cmpstring"], unfollowed := true, recurses := true, apart := false }
def FnExactMillHoldsSaid : Prop := fnExactMillHoldsRow.holds Try.pinned (OpenSpec.ofChange fnExactMillHoldsSpec)

/-- ITS FALSE NEIGHBOUR: 'it returns false'. Refute it at one input. -/
def fnExactMillHoldsWrong : ChangeSpec := { name := "fnExactMillHolds", fn := fun _ => fun
  | [d1, d2] => { results := [.lit (.bool false)], args := [d1, d2] }
  | _ => none }
def FnExactMillHoldsWrongFalsely : Prop := fnExactMillHoldsRow.holds Try.pinned (OpenSpec.ofChange fnExactMillHoldsWrong)

/-- 'laws.FnMillBits': WHATEVER THE INPUT: true; the input reads as it did. -/
def fnMillBitsSpec : ChangeSpec := { name := "fnMillBits", fn := fun _ => fun
  | [d] => { results := [.lit (.bool true)], args := [d] }
  | _ => none }
def fnMillBitsRow : OpenClaim := { program := "ytdpdpigaegabbaa", sum := "33dbd436a51361994cc3284828760082eba9117e5e9c0856cf564c592580cb9f", func := "loop.example/kilnyard/laws.FnMillBits", spec := "fnMillBits", apart := false }
def FnMillBitsSaid : Prop := fnMillBitsRow.holds Try.pinned (OpenSpec.ofChange fnMillBitsSpec)

/-- ITS FALSE NEIGHBOUR: 'it returns false'. Refute it at one input. -/
def fnMillBitsWrong : ChangeSpec := { name := "fnMillBits", fn := fun _ => fun
  | [d] => { results := [.lit (.bool false)], args := [d] }
  | _ => none }
def FnMillBitsWrongFalsely : Prop := fnMillBitsRow.holds Try.pinned (OpenSpec.ofChange fnMillBitsWrong)

/-- 'laws.FnExactMillBinary': WHATEVER THE INPUT: true; the input reads as it did. -/
def fnExactMillBinarySpec : ChangeSpec := { name := "fnExactMillBinary", fn := fun _ => fun
  | [d1, d2, d3] => { results := [.lit (.bool true)], args := [d1, d2, d3] }
  | _ => none }
def fnExactMillBinaryRow : OpenClaim := { program := "ytdpdpigaegabbaa", sum := "33dbd436a51361994cc3284828760082eba9117e5e9c0856cf564c592580cb9f", func := "loop.example/kilnyard/laws.FnExactMillBinary", spec := "fnExactMillBinary", apart := false }
def FnExactMillBinarySaid : Prop := fnExactMillBinaryRow.holds Try.pinned (OpenSpec.ofChange fnExactMillBinarySpec)

/-- ITS FALSE NEIGHBOUR: 'it returns false'. Refute it at one input. -/
def fnExactMillBinaryWrong : ChangeSpec := { name := "fnExactMillBinary", fn := fun _ => fun
  | [d1, d2, d3] => { results := [.lit (.bool false)], args := [d1, d2, d3] }
  | _ => none }
def FnExactMillBinaryWrongFalsely : Prop := fnExactMillBinaryRow.holds Try.pinned (OpenSpec.ofChange fnExactMillBinaryWrong)

/- THE SECOND FORM. 'bulk': how many values and letters a reading holds, each counted each time it is reached (what is shared counts as often as it is met; a slice's spare places count too). A statement '..UptoSaid' is the law's where the arguments, and the package variables that the reading takes, are together of bulk at most 1048576: NARROWER than '..Said'. Prove '..Said' where nothing that the law and all that it calls make is longer than what came in: it says more and counts as full. Else prove '..UptoSaid'. A law counts once. -/
mutual
def uptoBulk {H : Type} : DataW H → Nat
  | .lit (.string bytes) => bytes.length + 1
  | .lit _ => 1
  | .nil => 1
  | .ptr d => uptoBulk d + 1
  | .slice elems spare => uptoBulkAll elems + uptoBulkAll spare + 1
  | .agg parts => uptoBulkAll parts + 1
  | .iface _ d => uptoBulk d + 1
  | .map entries => uptoBulkEntries entries + 1
  | .held _ => 1
def uptoBulkAll {H : Type} : List (DataW H) → Nat
  | [] => 0
  | d :: r => uptoBulk d + uptoBulkAll r
def uptoBulkEntries {H : Type} : List (Lit × DataW H) → Nat
  | [] => 0
  | x :: r => uptoBulkEntry x + uptoBulkEntries r
def uptoBulkEntry {H : Type} : Lit × DataW H → Nat
  | (.string bytes, d) => bytes.length + uptoBulk d + 1
  | (_, d) => uptoBulk d + 1
 end
def uptoSmall : (H : Type) → List (DataW H) → Bool := fun _ ds => decide (uptoBulkAll ds ≤ 1048576)
def OpenSpec.upto (s : _root_.Go.ChangeSpec) : _root_.Go.OpenSpec := { _root_.Go.OpenSpec.ofChange s with cond := some uptoSmall }

/-- 'laws.FnExactConstants', WHERE WHAT IT READS IS OF BULK AT MOST 1048576: true; the input reads as it did. -/
def fnExactConstantsUptoRow : OpenClaim := { program := "ytdpdpigaegabbaa", sum := "33dbd436a51361994cc3284828760082eba9117e5e9c0856cf564c592580cb9f", func := "loop.example/kilnyard/laws.FnExactConstants", spec := "fnExactConstants", apart := false, narrowed := true }
def FnExactConstantsUptoSaid : Prop := fnExactConstantsUptoRow.holds Try.pinned (OpenSpec.upto fnExactConstantsSpec)

/-- 'laws.FnExactMillValidReply', WHERE WHAT IT READS IS OF BULK AT MOST 1048576: true; the input reads as it did. -/
def fnExactMillValidReplyUptoRow : OpenClaim := { program := "ytdpdpigaegabbaa", sum := "33dbd436a51361994cc3284828760082eba9117e5e9c0856cf564c592580cb9f", func := "loop.example/kilnyard/laws.FnExactMillValidReply", spec := "fnExactMillValidReply", apart := false, narrowed := true }
def FnExactMillValidReplyUptoSaid : Prop := fnExactMillValidReplyUptoRow.holds Try.pinned (OpenSpec.upto fnExactMillValidReplySpec)

/-- 'laws.FnExactYardTag', WHERE WHAT IT READS IS OF BULK AT MOST 1048576: true; the input reads as it did. -/
def fnExactYardTagUptoRow : OpenClaim := { program := "ytdpdpigaegabbaa", sum := "33dbd436a51361994cc3284828760082eba9117e5e9c0856cf564c592580cb9f", func := "loop.example/kilnyard/laws.FnExactYardTag", spec := "fnExactYardTag", apart := false, narrowed := true }
def FnExactYardTagUptoSaid : Prop := fnExactYardTagUptoRow.holds Try.pinned (OpenSpec.upto fnExactYardTagSpec)

/-- 'laws.FnExactMillValidValue', WHERE WHAT IT READS IS OF BULK AT MOST 1048576: true; the input reads as it did. -/
def fnExactMillValidValueUptoRow : OpenClaim := { program := "ytdpdpigaegabbaa", sum := "33dbd436a51361994cc3284828760082eba9117e5e9c0856cf564c592580cb9f", func := "loop.example/kilnyard/laws.FnExactMillValidValue", spec := "fnExactMillValidValue", apart := false, narrowed := true }
def FnExactMillValidValueUptoSaid : Prop := fnExactMillValidValueUptoRow.holds Try.pinned (OpenSpec.upto fnExactMillValidValueSpec)

/-- 'laws.FnExactMillConvert', WHERE WHAT IT READS IS OF BULK AT MOST 1048576: true; the input reads as it did. -/
def fnExactMillConvertUptoRow : OpenClaim := { program := "ytdpdpigaegabbaa", sum := "33dbd436a51361994cc3284828760082eba9117e5e9c0856cf564c592580cb9f", func := "loop.example/kilnyard/laws.FnExactMillConvert", spec := "fnExactMillConvert", apart := false, narrowed := true }
def FnExactMillConvertUptoSaid : Prop := fnExactMillConvertUptoRow.holds Try.pinned (OpenSpec.upto fnExactMillConvertSpec)

/-- 'laws.FnExactMillValidJob', WHERE WHAT IT READS IS OF BULK AT MOST 1048576: true; the input reads as it did. -/
def fnExactMillValidJobUptoRow : OpenClaim := { program := "ytdpdpigaegabbaa", sum := "33dbd436a51361994cc3284828760082eba9117e5e9c0856cf564c592580cb9f", func := "loop.example/kilnyard/laws.FnExactMillValidJob", spec := "fnExactMillValidJob", unfollowed := true, recurses := true, apart := false, narrowed := true }
def FnExactMillValidJobUptoSaid : Prop := fnExactMillValidJobUptoRow.holds Try.pinned (OpenSpec.upto fnExactMillValidJobSpec)

/-- 'laws.FnExactMillValidPlace', WHERE WHAT IT READS IS OF BULK AT MOST 1048576: true; the input reads as it did. -/
def fnExactMillValidPlaceUptoRow : OpenClaim := { program := "ytdpdpigaegabbaa", sum := "33dbd436a51361994cc3284828760082eba9117e5e9c0856cf564c592580cb9f", func := "loop.example/kilnyard/laws.FnExactMillValidPlace", spec := "fnExactMillValidPlace", apart := false, narrowed := true }
def FnExactMillValidPlaceUptoSaid : Prop := fnExactMillValidPlaceUptoRow.holds Try.pinned (OpenSpec.upto fnExactMillValidPlaceSpec)

/-- 'laws.FnExactMillUnary', WHERE WHAT IT READS IS OF BULK AT MOST 1048576: true; the input reads as it did. -/
def fnExactMillUnaryUptoRow : OpenClaim := { program := "ytdpdpigaegabbaa", sum := "33dbd436a51361994cc3284828760082eba9117e5e9c0856cf564c592580cb9f", func := "loop.example/kilnyard/laws.FnExactMillUnary", spec := "fnExactMillUnary", apart := false, narrowed := true }
def FnExactMillUnaryUptoSaid : Prop := fnExactMillUnaryUptoRow.holds Try.pinned (OpenSpec.upto fnExactMillUnarySpec)

/-- 'laws.FnExactMillSee', WHERE WHAT IT READS IS OF BULK AT MOST 1048576: true; the input reads as it did. -/
def fnExactMillSeeUptoRow : OpenClaim := { program := "ytdpdpigaegabbaa", sum := "33dbd436a51361994cc3284828760082eba9117e5e9c0856cf564c592580cb9f", func := "loop.example/kilnyard/laws.FnExactMillSee", spec := "fnExactMillSee", inPlace := ["internal/bytealg.abigen_runtime_cmpstring"], unfollowed := true, recurses := true, apart := false, narrowed := true }
def FnExactMillSeeUptoSaid : Prop := fnExactMillSeeUptoRow.holds Try.pinned (OpenSpec.upto fnExactMillSeeSpec)

/-- 'laws.FnExactMillHolds', WHERE WHAT IT READS IS OF BULK AT MOST 1048576: true; the input reads as it did. -/
def fnExactMillHoldsUptoRow : OpenClaim := { program := "ytdpdpigaegabbaa", sum := "33dbd436a51361994cc3284828760082eba9117e5e9c0856cf564c592580cb9f", func := "loop.example/kilnyard/laws.FnExactMillHolds", spec := "fnExactMillHolds", inPlace := ["internal/bytealg.abigen_runtime_cmpstring"], unfollowed := true, recurses := true, apart := false, narrowed := true }
def FnExactMillHoldsUptoSaid : Prop := fnExactMillHoldsUptoRow.holds Try.pinned (OpenSpec.upto fnExactMillHoldsSpec)

/-- 'laws.FnMillBits', WHERE WHAT IT READS IS OF BULK AT MOST 1048576: true; the input reads as it did. -/
def fnMillBitsUptoRow : OpenClaim := { program := "ytdpdpigaegabbaa", sum := "33dbd436a51361994cc3284828760082eba9117e5e9c0856cf564c592580cb9f", func := "loop.example/kilnyard/laws.FnMillBits", spec := "fnMillBits", apart := false, narrowed := true }
def FnMillBitsUptoSaid : Prop := fnMillBitsUptoRow.holds Try.pinned (OpenSpec.upto fnMillBitsSpec)

/-- 'laws.FnExactMillBinary', WHERE WHAT IT READS IS OF BULK AT MOST 1048576: true; the input reads as it did. -/
def fnExactMillBinaryUptoRow : OpenClaim := { program := "ytdpdpigaegabbaa", sum := "33dbd436a51361994cc3284828760082eba9117e5e9c0856cf564c592580cb9f", func := "loop.example/kilnyard/laws.FnExactMillBinary", spec := "fnExactMillBinary", apart := false, narrowed := true }
def FnExactMillBinaryUptoSaid : Prop := fnExactMillBinaryUptoRow.holds Try.pinned (OpenSpec.upto fnExactMillBinarySpec)

end Rows
end Go.Proofs.Ytdpdpigaegabbaa
