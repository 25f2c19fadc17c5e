/-
  DERIVED. GIVEN WITH THE SEED: THE CARDS: each row of YtjdcnjemhjldoaaDoorRows.lean that lists a variable, with what it lists TIED to the program's text (the seventh form; the later family's looks); each row that meets fmt, with fmt's text TOLD by the authors' own Lean function (tested against real Go, not proved from fmt's source: count such statements apart). THE CARD IS WHAT COUNTS. Prove the row's statement (the work); the ties are given (YtjdcnjemhjldoaaDoorTie.lean); close each card by the builder's one call (the guide's Derived/Test/ToyasCard.lean, 'card_holds'). Laid BY PROGRAM, IN A SANDBOX (cutbox-door.mjs). By AI agents, Wed Nov 11 2026. No macro, syntax, notation, axiom, sorry.
-/
import Derived.Test.YtjdcnjemhjldoaaDoorRows
import GoSem.ClaimSeven
namespace Go.Proofs.YtjdcnjemhjldoaaDoor
namespace Rows

/-- THE TIED CARD OF 'tenterlaw09.OpReads'. -/
def opReadsCard : Claim7 := { stood := { row := opReadsRow, standIns := [], harness := (true, "1e32d759aa00c1f57897df4d1f2cbc0315a73724605852fc32f4f6bb93b6e13d"), looks := false }, kinds := [], alts := [], laidByText := true, laidKinds := [.data, .pinned], laidTests := true, laidLooks := .later }
def OpReadsCardSaid : Prop := Claim7.holds Tryd.pinned (.plain (OpenSpec.ofChange opReadsSpec)) opReadsCard

/-- THE TIED CARD OF 'tenterlaw09.OpBack'. -/
def opBackCard : Claim7 := { stood := { row := opBackRow, standIns := [], harness := (true, "1e32d759aa00c1f57897df4d1f2cbc0315a73724605852fc32f4f6bb93b6e13d"), looks := false }, kinds := [], alts := [], laidByText := true, laidKinds := [.data, .pinned], laidTests := true, laidLooks := .later }
def OpBackCardSaid : Prop := Claim7.holds Tryd.pinned (.plain (OpenSpec.ofChange opBackSpec)) opBackCard

/-- THE TIED CARD OF 'tenterlaw37.CmdBack'. -/
def cmdBackCard : Claim7 := { stood := { row := cmdBackRow, standIns := [], harness := (true, "1e32d759aa00c1f57897df4d1f2cbc0315a73724605852fc32f4f6bb93b6e13d"), looks := false }, kinds := [], alts := [], laidByText := true, laidKinds := [.data, .pinned], laidTests := true, laidLooks := .later }
def CmdBackCardSaid : Prop := Claim7.holds Tryd.pinned (.plain (OpenSpec.ofChange cmdBackSpec)) cmdBackCard

/-- THE TIED CARD OF 'tenterlaw37.CmdMany'. -/
def cmdManyCard : Claim7 := { stood := { row := cmdManyRow, standIns := [], harness := (true, "1e32d759aa00c1f57897df4d1f2cbc0315a73724605852fc32f4f6bb93b6e13d"), looks := false }, kinds := [], alts := [], laidByText := true, laidKinds := [.data, .pinned], laidTests := true, laidLooks := .later }
def CmdManyCardSaid : Prop := Claim7.holds Tryd.pinned (.plain (OpenSpec.ofChange cmdManySpec)) cmdManyCard

/-- THE SECOND FORM's CARD OF 'tenterlaw09.OpReads'. -/
def opReadsUptoCard : Claim7 := { stood := { row := opReadsUptoRow, standIns := [], harness := (true, "1e32d759aa00c1f57897df4d1f2cbc0315a73724605852fc32f4f6bb93b6e13d"), looks := false }, kinds := [], alts := [], laidByText := true, laidKinds := [.data, .pinned], laidTests := true, laidLooks := .later }
def OpReadsUptoCardSaid : Prop := Claim7.holds Tryd.pinned (.plain (OpenSpec.upto opReadsSpec)) opReadsUptoCard

/-- THE SECOND FORM's CARD OF 'tenterlaw09.OpBack'. -/
def opBackUptoCard : Claim7 := { stood := { row := opBackUptoRow, standIns := [], harness := (true, "1e32d759aa00c1f57897df4d1f2cbc0315a73724605852fc32f4f6bb93b6e13d"), looks := false }, kinds := [], alts := [], laidByText := true, laidKinds := [.data, .pinned], laidTests := true, laidLooks := .later }
def OpBackUptoCardSaid : Prop := Claim7.holds Tryd.pinned (.plain (OpenSpec.upto opBackSpec)) opBackUptoCard

/-- THE SECOND FORM's CARD OF 'tenterlaw37.CmdBack'. -/
def cmdBackUptoCard : Claim7 := { stood := { row := cmdBackUptoRow, standIns := [], harness := (true, "1e32d759aa00c1f57897df4d1f2cbc0315a73724605852fc32f4f6bb93b6e13d"), looks := false }, kinds := [], alts := [], laidByText := true, laidKinds := [.data, .pinned], laidTests := true, laidLooks := .later }
def CmdBackUptoCardSaid : Prop := Claim7.holds Tryd.pinned (.plain (OpenSpec.upto cmdBackSpec)) cmdBackUptoCard

/-- THE SECOND FORM's CARD OF 'tenterlaw37.CmdMany'. -/
def cmdManyUptoCard : Claim7 := { stood := { row := cmdManyUptoRow, standIns := [], harness := (true, "1e32d759aa00c1f57897df4d1f2cbc0315a73724605852fc32f4f6bb93b6e13d"), looks := false }, kinds := [], alts := [], laidByText := true, laidKinds := [.data, .pinned], laidTests := true, laidLooks := .later }
def CmdManyUptoCardSaid : Prop := Claim7.holds Tryd.pinned (.plain (OpenSpec.upto cmdManySpec)) cmdManyUptoCard
end Rows
end Go.Proofs.YtjdcnjemhjldoaaDoor
