/-
  DERIVED. GIVEN WITH THE SEED: THE CARDS: each row of YtpjjmolibanakaaDoorRows.lean that lists a variable, with what it lists TIED to the program's text (the seventh form; the later family's looks); each row that meets fmt, with fmt's text TOLD by the authors' own Lean function (tested against real Go, not proved from fmt's source: count such statements apart). THE CARD IS WHAT COUNTS. Prove the row's statement (the work); the ties are given (YtpjjmolibanakaaDoorTie.lean); close each card by the builder's one call (the guide's Derived/Test/ToyasCard.lean, 'card_holds'). Laid BY PROGRAM, IN A SANDBOX (cutbox-door.mjs). By AI agents, Wed Nov 11 2026. No macro, syntax, notation, axiom, sorry.
-/
import Derived.Test.YtpjjmolibanakaaDoorRows
import GoSem.ClaimSeven
namespace Go.Proofs.YtpjjmolibanakaaDoor
namespace Rows

/-- THE TIED CARD OF 'tenterlaw10.TxnReads'. -/
def txnReadsCard : Claim7 := { stood := { row := txnReadsRow, standIns := [], harness := (true, "ed9a2ed67608b967e0b35cd6e72fa76a836dcf6725e6900795f9df3dc4b5f6e8"), looks := false }, kinds := [], alts := [], laidByText := true, laidKinds := [.data, .pinned], laidTests := true, laidLooks := .later }
def TxnReadsCardSaid : Prop := Claim7.holds Tryd.pinned (.plain (OpenSpec.ofChange txnReadsSpec)) txnReadsCard

/-- THE SECOND FORM's CARD OF 'tenterlaw10.TxnReads'. -/
def txnReadsUptoCard : Claim7 := { stood := { row := txnReadsUptoRow, standIns := [], harness := (true, "ed9a2ed67608b967e0b35cd6e72fa76a836dcf6725e6900795f9df3dc4b5f6e8"), looks := false }, kinds := [], alts := [], laidByText := true, laidKinds := [.data, .pinned], laidTests := true, laidLooks := .later }
def TxnReadsUptoCardSaid : Prop := Claim7.holds Tryd.pinned (.plain (OpenSpec.upto txnReadsSpec)) txnReadsUptoCard
end Rows
end Go.Proofs.YtpjjmolibanakaaDoor
