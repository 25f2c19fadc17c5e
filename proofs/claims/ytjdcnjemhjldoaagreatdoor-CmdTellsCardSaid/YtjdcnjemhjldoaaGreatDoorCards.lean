/-
  DERIVED. GIVEN WITH THE SEED: THE CARDS: each row of YtjdcnjemhjldoaaGreatDoorRows.lean that lists a variable, with what it lists TIED to the program's text (the seventh form; the later family's looks); each row that meets fmt, with fmt's text TOLD by the authors' own Lean function (tested against real Go, not proved from fmt's source: count such statements apart). THE CARD IS WHAT COUNTS. Prove the row's statement (the work); the ties are given (YtjdcnjemhjldoaaGreatDoorTie.lean); close each card by the builder's one call (the guide's Derived/Test/ToyasCard.lean, 'card_holds'). Laid BY PROGRAM, IN A SANDBOX (cutbox-door.mjs). By AI agents, Wed Nov 11 2026. No macro, syntax, notation, axiom, sorry.
-/
import Derived.Test.YtjdcnjemhjldoaaGreatDoorRows
import GoSem.ClaimSeven
namespace Go.Proofs.YtjdcnjemhjldoaaGreatDoor
namespace Rows

/-- THE TIED CARD OF 'tenterlaw37.CmdTells'. -/
def cmdTellsCard : Claim7 := { stood := { row := cmdTellsRow, standIns := [], harness := (true, "e21d7e65d4b21801017b8a4fbf28ac75277f202a003f37ae28c7b0b534571bc8"), looks := false }, kinds := [], alts := [], laidByText := true, laidKinds := [.data, .pinned], laidTests := true, laidLooks := .later }
def CmdTellsCardSaid : Prop := Claim7.holds Tryz.pinned (.plain (OpenSpec.ofChange cmdTellsSpec)) cmdTellsCard

/-- THE SECOND FORM's CARD OF 'tenterlaw37.CmdTells'. -/
def cmdTellsUptoCard : Claim7 := { stood := { row := cmdTellsUptoRow, standIns := [], harness := (true, "e21d7e65d4b21801017b8a4fbf28ac75277f202a003f37ae28c7b0b534571bc8"), looks := false }, kinds := [], alts := [], laidByText := true, laidKinds := [.data, .pinned], laidTests := true, laidLooks := .later }
def CmdTellsUptoCardSaid : Prop := Claim7.holds Tryz.pinned (.plain (OpenSpec.upto cmdTellsSpec)) cmdTellsUptoCard
end Rows
end Go.Proofs.YtjdcnjemhjldoaaGreatDoor
