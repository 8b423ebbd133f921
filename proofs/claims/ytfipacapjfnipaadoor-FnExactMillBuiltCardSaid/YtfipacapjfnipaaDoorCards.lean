/-
  DERIVED. GIVEN WITH THE SEED: THE CARDS: each row of YtfipacapjfnipaaDoorRows.lean that lists a variable, with what it lists TIED to the program's text (the seventh form; the later family's looks); each row that meets fmt, with fmt's text TOLD by the authors' own Lean function (tested against real Go, not proved from fmt's source: count such statements apart). THE CARD IS WHAT COUNTS. Prove the row's statement (the work); the ties are given (YtfipacapjfnipaaDoorTie.lean); close each card by the builder's one call (the guide's Derived/Test/ToyasCard.lean, 'card_holds'). Laid BY PROGRAM, IN A SANDBOX (cutbox-door.mjs). By AI agents, Wed Nov 11 2026. No macro, syntax, notation, axiom, sorry.
-/
import Derived.Test.YtfipacapjfnipaaDoorRows
import GoSem.ClaimSeven
namespace Go.Proofs.YtfipacapjfnipaaDoor
namespace Rows

/-- THE TIED CARD OF 'laws.FnExactMillBuilt'. -/
def fnExactMillBuiltCard : Claim7 := { stood := { row := fnExactMillBuiltRow, standIns := [], harness := (true, "3a7cffc7bbdffca087e683ad4d549ac596c2020e29eb63432f4226fca89c379a"), looks := true }, kinds := [], alts := [], laidByText := true, laidKinds := [.data, .data, .data, .sentinel, .sentinel, .widerDeep], laidTests := true, laidLooks := .later }
def FnExactMillBuiltCardSaid : Prop := Claim7.holds Tryd.pinned (.plain (OpenSpec.ofChange fnExactMillBuiltSpec)) fnExactMillBuiltCard

/-- THE SECOND FORM's CARD OF 'laws.FnExactMillBuilt'. -/
def fnExactMillBuiltUptoCard : Claim7 := { stood := { row := fnExactMillBuiltUptoRow, standIns := [], harness := (true, "3a7cffc7bbdffca087e683ad4d549ac596c2020e29eb63432f4226fca89c379a"), looks := true }, kinds := [], alts := [], laidByText := true, laidKinds := [.data, .data, .data, .sentinel, .sentinel, .widerDeep], laidTests := true, laidLooks := .later }
def FnExactMillBuiltUptoCardSaid : Prop := Claim7.holds Tryd.pinned (.plain (OpenSpec.upto fnExactMillBuiltSpec)) fnExactMillBuiltUptoCard
end Rows
end Go.Proofs.YtfipacapjfnipaaDoor
