/-
  DERIVED. GIVEN WITH THE SEED: THE CARDS: each row of YtdfpljecogijaaaDoorRows.lean that lists a variable, with what it lists TIED to the program's text (the seventh form; the later family's looks); each row that meets fmt, with fmt's text TOLD by the authors' own Lean function (tested against real Go, not proved from fmt's source: count such statements apart). THE CARD IS WHAT COUNTS. Prove the row's statement (the work); the ties are given (YtdfpljecogijaaaDoorTie.lean); close each card by the builder's one call (the guide's Derived/Test/ToyasCard.lean, 'card_holds'). Laid BY PROGRAM, IN A SANDBOX (cutbox-door.mjs). By AI agents, Wed Nov 11 2026. No macro, syntax, notation, axiom, sorry.
-/
import Derived.Test.YtdfpljecogijaaaDoorRows
import GoSem.ClaimSeven
namespace Go.Proofs.YtdfpljecogijaaaDoor
namespace Rows

/-- THE TIED CARD OF 'tenterlaw21.SlotsPlays'. -/
def slotsPlaysCard : Claim7 := { stood := { row := slotsPlaysRow, standIns := [], harness := (true, "952386aff361fd623486533bae2715e378b37e7ed31fefbf78a8e842049aac97"), looks := false }, kinds := [], alts := [], laidByText := true, laidKinds := [.data], laidTests := true, laidLooks := .later }
def SlotsPlaysCardSaid : Prop := Claim7.holds Tryd.pinned (.plain (OpenSpec.ofChange slotsPlaysSpec)) slotsPlaysCard

/-- THE TIED CARD OF 'tenterlaw21.SlotsDense'. -/
def slotsDenseCard : Claim7 := { stood := { row := slotsDenseRow, standIns := [], harness := (true, "952386aff361fd623486533bae2715e378b37e7ed31fefbf78a8e842049aac97"), looks := false }, kinds := [], alts := [], laidByText := true, laidKinds := [.data], laidTests := true, laidLooks := .later }
def SlotsDenseCardSaid : Prop := Claim7.holds Tryd.pinned (.plain (OpenSpec.ofChange slotsDenseSpec)) slotsDenseCard

/-- THE TIED CARD OF 'tenterlaw01.RowBack'. -/
def rowBackCard : Claim7 := { stood := { row := rowBackRow, standIns := [], harness := (true, "952386aff361fd623486533bae2715e378b37e7ed31fefbf78a8e842049aac97"), looks := false }, kinds := [], alts := [], laidByText := true, laidKinds := [.data], laidTests := true, laidLooks := .later }
def RowBackCardSaid : Prop := Claim7.holds Tryd.pinned (.plain (OpenSpec.ofChange rowBackSpec)) rowBackCard

/-- THE TIED CARD OF 'tenterlaw01.RowPlays'. -/
def rowPlaysCard : Claim7 := { stood := { row := rowPlaysRow, standIns := [], harness := (true, "952386aff361fd623486533bae2715e378b37e7ed31fefbf78a8e842049aac97"), looks := false }, kinds := [], alts := [], laidByText := true, laidKinds := [.data], laidTests := true, laidLooks := .later }
def RowPlaysCardSaid : Prop := Claim7.holds Tryd.pinned (.plain (OpenSpec.ofChange rowPlaysSpec)) rowPlaysCard

/-- THE TIED CARD OF 'tenterlaw01.RowCounts'. -/
def rowCountsCard : Claim7 := { stood := { row := rowCountsRow, standIns := [], harness := (true, "952386aff361fd623486533bae2715e378b37e7ed31fefbf78a8e842049aac97"), looks := false }, kinds := [], alts := [], laidByText := true, laidKinds := [.data], laidTests := true, laidLooks := .later }
def RowCountsCardSaid : Prop := Claim7.holds Tryd.pinned (.plain (OpenSpec.ofChange rowCountsSpec)) rowCountsCard

/-- THE TIED CARD OF 'tenterlaw24.ClosurePlays'. -/
def closurePlaysCard : Claim7 := { stood := { row := closurePlaysRow, standIns := [], harness := (true, "952386aff361fd623486533bae2715e378b37e7ed31fefbf78a8e842049aac97"), looks := false }, kinds := [], alts := [], laidByText := true, laidKinds := [.data], laidTests := true, laidLooks := .later }
def ClosurePlaysCardSaid : Prop := Claim7.holds Tryd.pinned (.plain (OpenSpec.ofChange closurePlaysSpec)) closurePlaysCard

/-- THE TIED CARD OF 'tenterlaw24.ClosureWay'. -/
def closureWayCard : Claim7 := { stood := { row := closureWayRow, standIns := [], harness := (true, "952386aff361fd623486533bae2715e378b37e7ed31fefbf78a8e842049aac97"), looks := false }, kinds := [], alts := [], laidByText := true, laidKinds := [.data], laidTests := true, laidLooks := .later }
def ClosureWayCardSaid : Prop := Claim7.holds Tryd.pinned (.plain (OpenSpec.ofChange closureWaySpec)) closureWayCard

/-- THE SECOND FORM's CARD OF 'tenterlaw21.SlotsPlays'. -/
def slotsPlaysUptoCard : Claim7 := { stood := { row := slotsPlaysUptoRow, standIns := [], harness := (true, "952386aff361fd623486533bae2715e378b37e7ed31fefbf78a8e842049aac97"), looks := false }, kinds := [], alts := [], laidByText := true, laidKinds := [.data], laidTests := true, laidLooks := .later }
def SlotsPlaysUptoCardSaid : Prop := Claim7.holds Tryd.pinned (.plain (OpenSpec.upto slotsPlaysSpec)) slotsPlaysUptoCard

/-- THE SECOND FORM's CARD OF 'tenterlaw21.SlotsDense'. -/
def slotsDenseUptoCard : Claim7 := { stood := { row := slotsDenseUptoRow, standIns := [], harness := (true, "952386aff361fd623486533bae2715e378b37e7ed31fefbf78a8e842049aac97"), looks := false }, kinds := [], alts := [], laidByText := true, laidKinds := [.data], laidTests := true, laidLooks := .later }
def SlotsDenseUptoCardSaid : Prop := Claim7.holds Tryd.pinned (.plain (OpenSpec.upto slotsDenseSpec)) slotsDenseUptoCard

/-- THE SECOND FORM's CARD OF 'tenterlaw01.RowBack'. -/
def rowBackUptoCard : Claim7 := { stood := { row := rowBackUptoRow, standIns := [], harness := (true, "952386aff361fd623486533bae2715e378b37e7ed31fefbf78a8e842049aac97"), looks := false }, kinds := [], alts := [], laidByText := true, laidKinds := [.data], laidTests := true, laidLooks := .later }
def RowBackUptoCardSaid : Prop := Claim7.holds Tryd.pinned (.plain (OpenSpec.upto rowBackSpec)) rowBackUptoCard

/-- THE SECOND FORM's CARD OF 'tenterlaw01.RowPlays'. -/
def rowPlaysUptoCard : Claim7 := { stood := { row := rowPlaysUptoRow, standIns := [], harness := (true, "952386aff361fd623486533bae2715e378b37e7ed31fefbf78a8e842049aac97"), looks := false }, kinds := [], alts := [], laidByText := true, laidKinds := [.data], laidTests := true, laidLooks := .later }
def RowPlaysUptoCardSaid : Prop := Claim7.holds Tryd.pinned (.plain (OpenSpec.upto rowPlaysSpec)) rowPlaysUptoCard

/-- THE SECOND FORM's CARD OF 'tenterlaw01.RowCounts'. -/
def rowCountsUptoCard : Claim7 := { stood := { row := rowCountsUptoRow, standIns := [], harness := (true, "952386aff361fd623486533bae2715e378b37e7ed31fefbf78a8e842049aac97"), looks := false }, kinds := [], alts := [], laidByText := true, laidKinds := [.data], laidTests := true, laidLooks := .later }
def RowCountsUptoCardSaid : Prop := Claim7.holds Tryd.pinned (.plain (OpenSpec.upto rowCountsSpec)) rowCountsUptoCard

/-- THE SECOND FORM's CARD OF 'tenterlaw24.ClosurePlays'. -/
def closurePlaysUptoCard : Claim7 := { stood := { row := closurePlaysUptoRow, standIns := [], harness := (true, "952386aff361fd623486533bae2715e378b37e7ed31fefbf78a8e842049aac97"), looks := false }, kinds := [], alts := [], laidByText := true, laidKinds := [.data], laidTests := true, laidLooks := .later }
def ClosurePlaysUptoCardSaid : Prop := Claim7.holds Tryd.pinned (.plain (OpenSpec.upto closurePlaysSpec)) closurePlaysUptoCard

/-- THE SECOND FORM's CARD OF 'tenterlaw24.ClosureWay'. -/
def closureWayUptoCard : Claim7 := { stood := { row := closureWayUptoRow, standIns := [], harness := (true, "952386aff361fd623486533bae2715e378b37e7ed31fefbf78a8e842049aac97"), looks := false }, kinds := [], alts := [], laidByText := true, laidKinds := [.data], laidTests := true, laidLooks := .later }
def ClosureWayUptoCardSaid : Prop := Claim7.holds Tryd.pinned (.plain (OpenSpec.upto closureWaySpec)) closureWayUptoCard
end Rows
end Go.Proofs.YtdfpljecogijaaaDoor
