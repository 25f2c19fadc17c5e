/-
  DERIVED. GIVEN WITH THE SEED: THE CARDS: each row of YtjhapicamnijnaaGreatDoorRows.lean that lists a variable, with what it lists TIED to the program's text (the seventh form; the later family's looks); each row that meets fmt, with fmt's text TOLD by the authors' own Lean function (tested against real Go, not proved from fmt's source: count such statements apart). THE CARD IS WHAT COUNTS. Prove the row's statement (the work); the ties are given (YtjhapicamnijnaaGreatDoorTie.lean); close each card by the builder's one call (the guide's Derived/Test/ToyasCard.lean, 'card_holds'). Laid BY PROGRAM, IN A SANDBOX (cutbox-door.mjs). By AI agents, Wed Nov 11 2026. No macro, syntax, notation, axiom, sorry.
-/
import Derived.Test.YtjhapicamnijnaaGreatDoorRows
import GoSem.ClaimSeven
namespace Go.Proofs.YtjhapicamnijnaaGreatDoor
namespace Rows

/-- THE TIED CARD OF 'tenterlaw40.DumpAgain'. -/
def dumpAgainCard : Claim7 := { stood := { row := dumpAgainRow, standIns := [], harness := (true, "09dd2bfb7b70cb662472f8211ca89f7ea31acda316ffe5831ced32dab29773d9"), looks := true }, kinds := [], alts := [], laidByText := true, laidKinds := [.data, .pinned], laidTests := true, laidLooks := .later }
def DumpAgainCardSaid : Prop := Claim7.holds Tryz.pinned (.plain (OpenSpec.ofChange dumpAgainSpec)) dumpAgainCard

/-- THE TIED CARD OF 'tenterlaw48.PatchMakes'. -/
def patchMakesCard : Claim7 := { stood := { row := patchMakesRow, standIns := [], harness := (true, "09dd2bfb7b70cb662472f8211ca89f7ea31acda316ffe5831ced32dab29773d9"), looks := true }, kinds := [], alts := [], laidByText := true, laidKinds := [.data, .pinned], laidTests := true, laidLooks := .later }
def PatchMakesCardSaid : Prop := Claim7.holds Tryz.pinned (.plain (OpenSpec.ofChange patchMakesSpec)) patchMakesCard

/-- THE SECOND FORM's CARD OF 'tenterlaw40.DumpAgain'. -/
def dumpAgainUptoCard : Claim7 := { stood := { row := dumpAgainUptoRow, standIns := [], harness := (true, "09dd2bfb7b70cb662472f8211ca89f7ea31acda316ffe5831ced32dab29773d9"), looks := true }, kinds := [], alts := [], laidByText := true, laidKinds := [.data, .pinned], laidTests := true, laidLooks := .later }
def DumpAgainUptoCardSaid : Prop := Claim7.holds Tryz.pinned (.plain (OpenSpec.upto dumpAgainSpec)) dumpAgainUptoCard

/-- THE SECOND FORM's CARD OF 'tenterlaw48.PatchMakes'. -/
def patchMakesUptoCard : Claim7 := { stood := { row := patchMakesUptoRow, standIns := [], harness := (true, "09dd2bfb7b70cb662472f8211ca89f7ea31acda316ffe5831ced32dab29773d9"), looks := true }, kinds := [], alts := [], laidByText := true, laidKinds := [.data, .pinned], laidTests := true, laidLooks := .later }
def PatchMakesUptoCardSaid : Prop := Claim7.holds Tryz.pinned (.plain (OpenSpec.upto patchMakesSpec)) patchMakesUptoCard
end Rows
end Go.Proofs.YtjhapicamnijnaaGreatDoor
