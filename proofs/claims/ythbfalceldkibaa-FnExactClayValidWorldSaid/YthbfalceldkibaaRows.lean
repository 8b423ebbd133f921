/-
  No cell of these rows narrows 'for every input' (looked for: loops, veiled, ifaces, maps, wideKeys, modest, calm, conditions, laid).
  DERIVED. THE GIVEN ROWS OF THIS SEAT. 8 by the template 'for every input the law returns true; each argument reads behind the call as it read before'; 0 by the template 'total and deterministic' (their statements: YthbfalceldkibaaTotals.lean).
  GIVEN WITH THE SEED: the statements are not yours to turn. If you find one false, say at which input.
  Laid BY PROGRAM, IN A SANDBOX (cutbox-rows.mjs): the forced cells as the released guide's own fill.sh prints them over the translation 54656eeead311cd5… (all of the seat's roots in one cut). By AI agents, Wed Nov 11 2026. No macro, syntax, notation, axiom, sorry.
-/
import Derived.Test.YthbfalceldkibaaChecked
import GoSem.Claim
import GoSem.ClaimJoined
import GoSem.ClaimMapViews
import Derived.JoinedTies
import Derived.KernelRfl
namespace Go.Proofs.Ythbfalceldkibaa
/- THE CELL 'sum', in the pinned program and in every row, IS THE sha256 OF THE DUMP (.gsa) THAT YthbfalceldkibaaProg.lean LOADS. Nothing in Lean hashes anything: it is a label: what it is worth is what the hold of that sum in a sandbox is worth. -/
noncomputable def Try.pinned : Pinned := { name := "ythbfalceldkibaa", sum := "54656eeead311cd58c8f6ef57bd7bc825add2c86ade7c63aed78678eff76d647", checked := Try.checked }
namespace Rows
def none {H : Type} : Left H := { results := [], args := [] }

/-- 'laws.FnExactClayFormPlan': WHATEVER THE INPUT: true; the input reads as it did. -/
def fnExactClayFormPlanSpec : ChangeSpec := { name := "fnExactClayFormPlan", fn := fun _ => fun
  | [d] => { results := [.lit (.bool true)], args := [d] }
  | _ => none }
def fnExactClayFormPlanRow : OpenClaim := { program := "ythbfalceldkibaa", sum := "54656eeead311cd58c8f6ef57bd7bc825add2c86ade7c63aed78678eff76d647", func := "loop.example/kilnyard/laws.FnExactClayFormPlan", spec := "fnExactClayFormPlan", inPlace := ["internal/abi.NoEscape"], apart := false }
def FnExactClayFormPlanSaid : Prop := fnExactClayFormPlanRow.holds Try.pinned (OpenSpec.ofChange fnExactClayFormPlanSpec)

/-- ITS FALSE NEIGHBOUR: 'it returns false'. Refute it at one input. -/
def fnExactClayFormPlanWrong : ChangeSpec := { name := "fnExactClayFormPlan", fn := fun _ => fun
  | [d] => { results := [.lit (.bool false)], args := [d] }
  | _ => none }
def FnExactClayFormPlanWrongFalsely : Prop := fnExactClayFormPlanRow.holds Try.pinned (OpenSpec.ofChange fnExactClayFormPlanWrong)

/-- 'laws.FnExactClayValidValue': WHATEVER THE INPUT: true; the input reads as it did. -/
def fnExactClayValidValueSpec : ChangeSpec := { name := "fnExactClayValidValue", fn := fun _ => fun
  | [d] => { results := [.lit (.bool true)], args := [d] }
  | _ => none }
def fnExactClayValidValueRow : OpenClaim := { program := "ythbfalceldkibaa", sum := "54656eeead311cd58c8f6ef57bd7bc825add2c86ade7c63aed78678eff76d647", func := "loop.example/kilnyard/laws.FnExactClayValidValue", spec := "fnExactClayValidValue", recurses := true, apart := false }
def FnExactClayValidValueSaid : Prop := fnExactClayValidValueRow.holds Try.pinned (OpenSpec.ofChange fnExactClayValidValueSpec)

/-- ITS FALSE NEIGHBOUR: 'it returns false'. Refute it at one input. -/
def fnExactClayValidValueWrong : ChangeSpec := { name := "fnExactClayValidValue", fn := fun _ => fun
  | [d] => { results := [.lit (.bool false)], args := [d] }
  | _ => none }
def FnExactClayValidValueWrongFalsely : Prop := fnExactClayValidValueRow.holds Try.pinned (OpenSpec.ofChange fnExactClayValidValueWrong)

/-- 'laws.FnExactClayValidWorld': WHATEVER THE INPUT: true; the input reads as it did. -/
def fnExactClayValidWorldSpec : ChangeSpec := { name := "fnExactClayValidWorld", fn := fun _ => fun
  | [d] => { results := [.lit (.bool true)], args := [d] }
  | _ => none }
def fnExactClayValidWorldRow : OpenClaim := { program := "ythbfalceldkibaa", sum := "54656eeead311cd58c8f6ef57bd7bc825add2c86ade7c63aed78678eff76d647", func := "loop.example/kilnyard/laws.FnExactClayValidWorld", spec := "fnExactClayValidWorld", inPlace := ["internal/bytealg.IndexByteString", "internal/bytealg.IndexString"], unfollowed := true, recurses := true, named := ["internal/bytealg.MaxLen"], apart := false }
def FnExactClayValidWorldSaid : Prop := fnExactClayValidWorldRow.holds Try.pinned (OpenSpec.ofChange fnExactClayValidWorldSpec)

/-- ITS FALSE NEIGHBOUR: 'it returns false'. Refute it at one input. -/
def fnExactClayValidWorldWrong : ChangeSpec := { name := "fnExactClayValidWorld", fn := fun _ => fun
  | [d] => { results := [.lit (.bool false)], args := [d] }
  | _ => none }
def FnExactClayValidWorldWrongFalsely : Prop := fnExactClayValidWorldRow.holds Try.pinned (OpenSpec.ofChange fnExactClayValidWorldWrong)

/-- 'laws.FnExactClayOrder': WHATEVER THE INPUT: true; the input reads as it did. -/
def fnExactClayOrderSpec : ChangeSpec := { name := "fnExactClayOrder", fn := fun _ => fun
  | [d1, d2] => { results := [.lit (.bool true)], args := [d1, d2] }
  | _ => none }
def fnExactClayOrderRow : OpenClaim := { program := "ythbfalceldkibaa", sum := "54656eeead311cd58c8f6ef57bd7bc825add2c86ade7c63aed78678eff76d647", func := "loop.example/kilnyard/laws.FnExactClayOrder", spec := "fnExactClayOrder", recurses := true, apart := false }
def FnExactClayOrderSaid : Prop := fnExactClayOrderRow.holds Try.pinned (OpenSpec.ofChange fnExactClayOrderSpec)

/-- ITS FALSE NEIGHBOUR: 'it returns false'. Refute it at one input. -/
def fnExactClayOrderWrong : ChangeSpec := { name := "fnExactClayOrder", fn := fun _ => fun
  | [d1, d2] => { results := [.lit (.bool false)], args := [d1, d2] }
  | _ => none }
def FnExactClayOrderWrongFalsely : Prop := fnExactClayOrderRow.holds Try.pinned (OpenSpec.ofChange fnExactClayOrderWrong)

/-- 'laws.FnExactClayUn': WHATEVER THE INPUT: true; the input reads as it did. -/
def fnExactClayUnSpec : ChangeSpec := { name := "fnExactClayUn", fn := fun _ => fun
  | [d1, d2] => { results := [.lit (.bool true)], args := [d1, d2] }
  | _ => none }
def fnExactClayUnRow : OpenClaim := { program := "ythbfalceldkibaa", sum := "54656eeead311cd58c8f6ef57bd7bc825add2c86ade7c63aed78678eff76d647", func := "loop.example/kilnyard/laws.FnExactClayUn", spec := "fnExactClayUn", recurses := true, apart := false }
def FnExactClayUnSaid : Prop := fnExactClayUnRow.holds Try.pinned (OpenSpec.ofChange fnExactClayUnSpec)

/-- ITS FALSE NEIGHBOUR: 'it returns false'. Refute it at one input. -/
def fnExactClayUnWrong : ChangeSpec := { name := "fnExactClayUn", fn := fun _ => fun
  | [d1, d2] => { results := [.lit (.bool false)], args := [d1, d2] }
  | _ => none }
def FnExactClayUnWrongFalsely : Prop := fnExactClayUnRow.holds Try.pinned (OpenSpec.ofChange fnExactClayUnWrong)

/-- 'laws.FnClayOrder': WHATEVER THE INPUT: true; the input reads as it did. -/
def fnClayOrderSpec : ChangeSpec := { name := "fnClayOrder", fn := fun _ => fun
  | [d1, d2] => { results := [.lit (.bool true)], args := [d1, d2] }
  | _ => none }
def fnClayOrderRow : OpenClaim := { program := "ythbfalceldkibaa", sum := "54656eeead311cd58c8f6ef57bd7bc825add2c86ade7c63aed78678eff76d647", func := "loop.example/kilnyard/laws.FnClayOrder", spec := "fnClayOrder", recurses := true, apart := false }
def FnClayOrderSaid : Prop := fnClayOrderRow.holds Try.pinned (OpenSpec.ofChange fnClayOrderSpec)

/-- ITS FALSE NEIGHBOUR: 'it returns false'. Refute it at one input. -/
def fnClayOrderWrong : ChangeSpec := { name := "fnClayOrder", fn := fun _ => fun
  | [d1, d2] => { results := [.lit (.bool false)], args := [d1, d2] }
  | _ => none }
def FnClayOrderWrongFalsely : Prop := fnClayOrderRow.holds Try.pinned (OpenSpec.ofChange fnClayOrderWrong)

/-- 'laws.FnExactClayOp': WHATEVER THE INPUT: true; the input reads as it did. -/
def fnExactClayOpSpec : ChangeSpec := { name := "fnExactClayOp", fn := fun _ => fun
  | [d1, d2, d3] => { results := [.lit (.bool true)], args := [d1, d2, d3] }
  | _ => none }
def fnExactClayOpRow : OpenClaim := { program := "ythbfalceldkibaa", sum := "54656eeead311cd58c8f6ef57bd7bc825add2c86ade7c63aed78678eff76d647", func := "loop.example/kilnyard/laws.FnExactClayOp", spec := "fnExactClayOp", inPlace := ["internal/bytealg.IndexByteString", "internal/bytealg.IndexString", "slices.overlaps[string]", "slices.overlaps[*loop.example/kilnyard/impl.cv]"], unfollowed := true, recurses := true, named := ["internal/bytealg.MaxLen"], apart := false }
def FnExactClayOpSaid : Prop := fnExactClayOpRow.holds Try.pinned (OpenSpec.ofChange fnExactClayOpSpec)

/-- ITS FALSE NEIGHBOUR: 'it returns false'. Refute it at one input. -/
def fnExactClayOpWrong : ChangeSpec := { name := "fnExactClayOp", fn := fun _ => fun
  | [d1, d2, d3] => { results := [.lit (.bool false)], args := [d1, d2, d3] }
  | _ => none }
def FnExactClayOpWrongFalsely : Prop := fnExactClayOpRow.holds Try.pinned (OpenSpec.ofChange fnExactClayOpWrong)

/-- 'laws.FnExactClayTargets': WHATEVER THE INPUT: true; the input reads as it did. -/
def fnExactClayTargetsSpec : ChangeSpec := { name := "fnExactClayTargets", fn := fun _ => fun
  | [d] => { results := [.lit (.bool true)], args := [d] }
  | _ => none }
def fnExactClayTargetsRow : OpenClaim := { program := "ythbfalceldkibaa", sum := "54656eeead311cd58c8f6ef57bd7bc825add2c86ade7c63aed78678eff76d647", func := "loop.example/kilnyard/laws.FnExactClayTargets", spec := "fnExactClayTargets", unfollowed := true, recurses := true, apart := false }
def FnExactClayTargetsSaid : Prop := fnExactClayTargetsRow.holds Try.pinned (OpenSpec.ofChange fnExactClayTargetsSpec)

/-- ITS FALSE NEIGHBOUR: 'it returns false'. Refute it at one input. -/
def fnExactClayTargetsWrong : ChangeSpec := { name := "fnExactClayTargets", fn := fun _ => fun
  | [d] => { results := [.lit (.bool false)], args := [d] }
  | _ => none }
def FnExactClayTargetsWrongFalsely : Prop := fnExactClayTargetsRow.holds Try.pinned (OpenSpec.ofChange fnExactClayTargetsWrong)

/- THE SECOND FORM. 'bulk': how many values and letters a reading holds, each counted each time it is reached (what is shared counts as often as it is met; a slice's spare places count too). A statement '..UptoSaid' is the law's where the arguments, and the package variables that the reading takes, are together of bulk at most 1048576: NARROWER than '..Said'. Prove '..Said' where nothing that the law and all that it calls make is longer than what came in: it says more and counts as full. Else prove '..UptoSaid'. A law counts once. -/
mutual
def uptoBulk {H : Type} : DataW H → Nat
  | .lit (.string bytes) => bytes.length + 1
  | .lit _ => 1
  | .nil => 1
  | .ptr d => uptoBulk d + 1
  | .slice elems spare => uptoBulkAll elems + uptoBulkAll spare + 1
  | .agg parts => uptoBulkAll parts + 1
  | .iface _ d => uptoBulk d + 1
  | .map entries => uptoBulkEntries entries + 1
  | .held _ => 1
def uptoBulkAll {H : Type} : List (DataW H) → Nat
  | [] => 0
  | d :: r => uptoBulk d + uptoBulkAll r
def uptoBulkEntries {H : Type} : List (Lit × DataW H) → Nat
  | [] => 0
  | x :: r => uptoBulkEntry x + uptoBulkEntries r
def uptoBulkEntry {H : Type} : Lit × DataW H → Nat
  | (.string bytes, d) => bytes.length + uptoBulk d + 1
  | (_, d) => uptoBulk d + 1
 end
def uptoSmall : (H : Type) → List (DataW H) → Bool := fun _ ds => decide (uptoBulkAll ds ≤ 1048576)
def OpenSpec.upto (s : _root_.Go.ChangeSpec) : _root_.Go.OpenSpec := { _root_.Go.OpenSpec.ofChange s with cond := some uptoSmall }

/-- 'laws.FnExactClayFormPlan', WHERE WHAT IT READS IS OF BULK AT MOST 1048576: true; the input reads as it did. -/
def fnExactClayFormPlanUptoRow : OpenClaim := { program := "ythbfalceldkibaa", sum := "54656eeead311cd58c8f6ef57bd7bc825add2c86ade7c63aed78678eff76d647", func := "loop.example/kilnyard/laws.FnExactClayFormPlan", spec := "fnExactClayFormPlan", inPlace := ["internal/abi.NoEscape"], apart := false, narrowed := true }
def FnExactClayFormPlanUptoSaid : Prop := fnExactClayFormPlanUptoRow.holds Try.pinned (OpenSpec.upto fnExactClayFormPlanSpec)

/-- 'laws.FnExactClayValidValue', WHERE WHAT IT READS IS OF BULK AT MOST 1048576: true; the input reads as it did. -/
def fnExactClayValidValueUptoRow : OpenClaim := { program := "ythbfalceldkibaa", sum := "54656eeead311cd58c8f6ef57bd7bc825add2c86ade7c63aed78678eff76d647", func := "loop.example/kilnyard/laws.FnExactClayValidValue", spec := "fnExactClayValidValue", recurses := true, apart := false, narrowed := true }
def FnExactClayValidValueUptoSaid : Prop := fnExactClayValidValueUptoRow.holds Try.pinned (OpenSpec.upto fnExactClayValidValueSpec)

/-- 'laws.FnExactClayValidWorld', WHERE WHAT IT READS IS OF BULK AT MOST 1048576: true; the input reads as it did. -/
def fnExactClayValidWorldUptoRow : OpenClaim := { program := "ythbfalceldkibaa", sum := "54656eeead311cd58c8f6ef57bd7bc825add2c86ade7c63aed78678eff76d647", func := "loop.example/kilnyard/laws.FnExactClayValidWorld", spec := "fnExactClayValidWorld", inPlace := ["internal/bytealg.IndexByteString", "internal/bytealg.IndexString"], unfollowed := true, recurses := true, named := ["internal/bytealg.MaxLen"], apart := false, narrowed := true }
def FnExactClayValidWorldUptoSaid : Prop := fnExactClayValidWorldUptoRow.holds Try.pinned (OpenSpec.upto fnExactClayValidWorldSpec)

/-- 'laws.FnExactClayOrder', WHERE WHAT IT READS IS OF BULK AT MOST 1048576: true; the input reads as it did. -/
def fnExactClayOrderUptoRow : OpenClaim := { program := "ythbfalceldkibaa", sum := "54656eeead311cd58c8f6ef57bd7bc825add2c86ade7c63aed78678eff76d647", func := "loop.example/kilnyard/laws.FnExactClayOrder", spec := "fnExactClayOrder", recurses := true, apart := false, narrowed := true }
def FnExactClayOrderUptoSaid : Prop := fnExactClayOrderUptoRow.holds Try.pinned (OpenSpec.upto fnExactClayOrderSpec)

/-- 'laws.FnExactClayUn', WHERE WHAT IT READS IS OF BULK AT MOST 1048576: true; the input reads as it did. -/
def fnExactClayUnUptoRow : OpenClaim := { program := "ythbfalceldkibaa", sum := "54656eeead311cd58c8f6ef57bd7bc825add2c86ade7c63aed78678eff76d647", func := "loop.example/kilnyard/laws.FnExactClayUn", spec := "fnExactClayUn", recurses := true, apart := false, narrowed := true }
def FnExactClayUnUptoSaid : Prop := fnExactClayUnUptoRow.holds Try.pinned (OpenSpec.upto fnExactClayUnSpec)

/-- 'laws.FnClayOrder', WHERE WHAT IT READS IS OF BULK AT MOST 1048576: true; the input reads as it did. -/
def fnClayOrderUptoRow : OpenClaim := { program := "ythbfalceldkibaa", sum := "54656eeead311cd58c8f6ef57bd7bc825add2c86ade7c63aed78678eff76d647", func := "loop.example/kilnyard/laws.FnClayOrder", spec := "fnClayOrder", recurses := true, apart := false, narrowed := true }
def FnClayOrderUptoSaid : Prop := fnClayOrderUptoRow.holds Try.pinned (OpenSpec.upto fnClayOrderSpec)

/-- 'laws.FnExactClayOp', WHERE WHAT IT READS IS OF BULK AT MOST 1048576: true; the input reads as it did. -/
def fnExactClayOpUptoRow : OpenClaim := { program := "ythbfalceldkibaa", sum := "54656eeead311cd58c8f6ef57bd7bc825add2c86ade7c63aed78678eff76d647", func := "loop.example/kilnyard/laws.FnExactClayOp", spec := "fnExactClayOp", inPlace := ["internal/bytealg.IndexByteString", "internal/bytealg.IndexString", "slices.overlaps[string]", "slices.overlaps[*loop.example/kilnyard/impl.cv]"], unfollowed := true, recurses := true, named := ["internal/bytealg.MaxLen"], apart := false, narrowed := true }
def FnExactClayOpUptoSaid : Prop := fnExactClayOpUptoRow.holds Try.pinned (OpenSpec.upto fnExactClayOpSpec)

/-- 'laws.FnExactClayTargets', WHERE WHAT IT READS IS OF BULK AT MOST 1048576: true; the input reads as it did. -/
def fnExactClayTargetsUptoRow : OpenClaim := { program := "ythbfalceldkibaa", sum := "54656eeead311cd58c8f6ef57bd7bc825add2c86ade7c63aed78678eff76d647", func := "loop.example/kilnyard/laws.FnExactClayTargets", spec := "fnExactClayTargets", unfollowed := true, recurses := true, apart := false, narrowed := true }
def FnExactClayTargetsUptoSaid : Prop := fnExactClayTargetsUptoRow.holds Try.pinned (OpenSpec.upto fnExactClayTargetsSpec)

end Rows
end Go.Proofs.Ythbfalceldkibaa
