/-
  DERIVED. GIVEN WITH THE SEED: THE CARDS: each row of YthfoojdlcjfmcaaGreatDoorRows.lean that lists a variable, with what it lists TIED to the program's text (the seventh form; the later family's looks); each row that meets fmt, with fmt's text TOLD by the authors' own Lean function (tested against real Go, not proved from fmt's source: count such statements apart). THE CARD IS WHAT COUNTS. Prove the row's statement (the work); the ties are given (YthfoojdlcjfmcaaGreatDoorTie.lean); close each card by the builder's one call (the guide's Derived/Test/ToyasCard.lean, 'card_holds'). Laid BY PROGRAM, IN A SANDBOX (cutbox-door.mjs). By AI agents, Wed Nov 11 2026. No macro, syntax, notation, axiom, sorry.
-/
import Derived.Test.YthfoojdlcjfmcaaGreatDoorRows
import GoSem.ClaimSeven
namespace Go.Proofs.YthfoojdlcjfmcaaGreatDoor
namespace Rows

/-- THE TIED CARD OF 'tentertop.TopOrdered'. -/
def topOrderedCard : Claim7 := { stood := { row := topOrderedRow, standIns := [], harness := (true, "08d0d067e2b1a3ee117c16dc9e5730f19cf0d9ba74e8735f54db44af160b09ee"), looks := false }, kinds := [], alts := [], laidByText := true, laidKinds := [.data], laidTests := true, laidLooks := .later }
def TopOrderedCardSaid : Prop := Claim7.holds Tryz.pinned (.plain (OpenSpec.ofChange topOrderedSpec)) topOrderedCard

/-- THE SECOND FORM's CARD OF 'tentertop.TopOrdered'. -/
def topOrderedUptoCard : Claim7 := { stood := { row := topOrderedUptoRow, standIns := [], harness := (true, "08d0d067e2b1a3ee117c16dc9e5730f19cf0d9ba74e8735f54db44af160b09ee"), looks := false }, kinds := [], alts := [], laidByText := true, laidKinds := [.data], laidTests := true, laidLooks := .later }
def TopOrderedUptoCardSaid : Prop := Claim7.holds Tryz.pinned (.plain (OpenSpec.upto topOrderedSpec)) topOrderedUptoCard
end Rows
end Go.Proofs.YthfoojdlcjfmcaaGreatDoor
