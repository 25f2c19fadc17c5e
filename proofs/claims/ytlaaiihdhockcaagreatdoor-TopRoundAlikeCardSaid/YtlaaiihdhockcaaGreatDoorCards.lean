/-
  DERIVED. GIVEN WITH THE SEED: THE CARDS: each row of YtlaaiihdhockcaaGreatDoorRows.lean that lists a variable, with what it lists TIED to the program's text (the seventh form; the later family's looks); each row that meets fmt, with fmt's text TOLD by the authors' own Lean function (tested against real Go, not proved from fmt's source: count such statements apart). THE CARD IS WHAT COUNTS. Prove the row's statement (the work); the ties are given (YtlaaiihdhockcaaGreatDoorTie.lean); close each card by the builder's one call (the guide's Derived/Test/ToyasCard.lean, 'card_holds'). Laid BY PROGRAM, IN A SANDBOX (cutbox-door.mjs). By AI agents, Wed Nov 11 2026. No macro, syntax, notation, axiom, sorry.
-/
import Derived.Test.YtlaaiihdhockcaaGreatDoorRows
import GoSem.ClaimSeven
namespace Go.Proofs.YtlaaiihdhockcaaGreatDoor
namespace Rows

/-- THE TIED CARD OF 'tentertop.TopRoundAlike'. -/
def topRoundAlikeCard : Claim7 := { stood := { row := topRoundAlikeRow, standIns := [], harness := (true, "50119bc0044e86f9efaa9a7be98c51cdd4343445230dceeaf8832cfd712ccbe7"), looks := false }, kinds := [], alts := [], laidByText := true, laidKinds := [.data], laidTests := true, laidLooks := .later }
def TopRoundAlikeCardSaid : Prop := Claim7.holds Tryz.pinned (.plain (OpenSpec.ofChange topRoundAlikeSpec)) topRoundAlikeCard

/-- THE SECOND FORM's CARD OF 'tentertop.TopRoundAlike'. -/
def topRoundAlikeUptoCard : Claim7 := { stood := { row := topRoundAlikeUptoRow, standIns := [], harness := (true, "50119bc0044e86f9efaa9a7be98c51cdd4343445230dceeaf8832cfd712ccbe7"), looks := false }, kinds := [], alts := [], laidByText := true, laidKinds := [.data], laidTests := true, laidLooks := .later }
def TopRoundAlikeUptoCardSaid : Prop := Claim7.holds Tryz.pinned (.plain (OpenSpec.upto topRoundAlikeSpec)) topRoundAlikeUptoCard
end Rows
end Go.Proofs.YtlaaiihdhockcaaGreatDoor
