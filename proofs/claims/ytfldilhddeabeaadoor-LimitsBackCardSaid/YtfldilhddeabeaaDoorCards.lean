/-
  DERIVED. GIVEN WITH THE SEED: THE CARDS: each row of YtfldilhddeabeaaDoorRows.lean that lists a variable, with what it lists TIED to the program's text (the seventh form; the later family's looks); each row that meets fmt, with fmt's text TOLD by the authors' own Lean function (tested against real Go, not proved from fmt's source: count such statements apart). THE CARD IS WHAT COUNTS. Prove the row's statement (the work); the ties are given (YtfldilhddeabeaaDoorTie.lean); close each card by the builder's one call (the guide's Derived/Test/ToyasCard.lean, 'card_holds'). Laid BY PROGRAM, IN A SANDBOX (cutbox-door.mjs). By AI agents, Wed Nov 11 2026. No macro, syntax, notation, axiom, sorry.
-/
import Derived.Test.YtfldilhddeabeaaDoorRows
import GoSem.ClaimSeven
namespace Go.Proofs.YtfldilhddeabeaaDoor
namespace Rows

/-- THE TIED CARD OF 'tenterlaw36.LexTells'. -/
def lexTellsCard : Claim7 := { stood := { row := lexTellsRow, standIns := [], harness := (true, "7a684c54022fa2f4c8158416c3c9b5cf6983cd5f5940fa42d23afaf659880106"), looks := false }, kinds := [], alts := [], laidByText := true, laidKinds := [.data, .pinned], laidTests := true, laidLooks := .later }
def LexTellsCardSaid : Prop := Claim7.holds Tryd.pinned (.plain (OpenSpec.ofChange lexTellsSpec)) lexTellsCard

/-- THE TIED CARD OF 'tenterlaw36.LexBack'. -/
def lexBackCard : Claim7 := { stood := { row := lexBackRow, standIns := [], harness := (true, "7a684c54022fa2f4c8158416c3c9b5cf6983cd5f5940fa42d23afaf659880106"), looks := false }, kinds := [], alts := [], laidByText := true, laidKinds := [.data, .pinned], laidTests := true, laidLooks := .later }
def LexBackCardSaid : Prop := Claim7.holds Tryd.pinned (.plain (OpenSpec.ofChange lexBackSpec)) lexBackCard

/-- THE TIED CARD OF 'tenterlaw38.LimitsTell'. -/
def limitsTellCard : Claim7 := { stood := { row := limitsTellRow, standIns := [], harness := (true, "7a684c54022fa2f4c8158416c3c9b5cf6983cd5f5940fa42d23afaf659880106"), looks := false }, kinds := [], alts := [], laidByText := true, laidKinds := [.data, .pinned], laidTests := true, laidLooks := .later }
def LimitsTellCardSaid : Prop := Claim7.holds Tryd.pinned (.plain (OpenSpec.ofChange limitsTellSpec)) limitsTellCard

/-- THE TIED CARD OF 'tenterlaw38.LimitsBack'. -/
def limitsBackCard : Claim7 := { stood := { row := limitsBackRow, standIns := [], harness := (true, "7a684c54022fa2f4c8158416c3c9b5cf6983cd5f5940fa42d23afaf659880106"), looks := false }, kinds := [], alts := [], laidByText := true, laidKinds := [.data, .pinned], laidTests := true, laidLooks := .later }
def LimitsBackCardSaid : Prop := Claim7.holds Tryd.pinned (.plain (OpenSpec.ofChange limitsBackSpec)) limitsBackCard

/-- THE SECOND FORM's CARD OF 'tenterlaw36.LexTells'. -/
def lexTellsUptoCard : Claim7 := { stood := { row := lexTellsUptoRow, standIns := [], harness := (true, "7a684c54022fa2f4c8158416c3c9b5cf6983cd5f5940fa42d23afaf659880106"), looks := false }, kinds := [], alts := [], laidByText := true, laidKinds := [.data, .pinned], laidTests := true, laidLooks := .later }
def LexTellsUptoCardSaid : Prop := Claim7.holds Tryd.pinned (.plain (OpenSpec.upto lexTellsSpec)) lexTellsUptoCard

/-- THE SECOND FORM's CARD OF 'tenterlaw36.LexBack'. -/
def lexBackUptoCard : Claim7 := { stood := { row := lexBackUptoRow, standIns := [], harness := (true, "7a684c54022fa2f4c8158416c3c9b5cf6983cd5f5940fa42d23afaf659880106"), looks := false }, kinds := [], alts := [], laidByText := true, laidKinds := [.data, .pinned], laidTests := true, laidLooks := .later }
def LexBackUptoCardSaid : Prop := Claim7.holds Tryd.pinned (.plain (OpenSpec.upto lexBackSpec)) lexBackUptoCard

/-- THE SECOND FORM's CARD OF 'tenterlaw38.LimitsTell'. -/
def limitsTellUptoCard : Claim7 := { stood := { row := limitsTellUptoRow, standIns := [], harness := (true, "7a684c54022fa2f4c8158416c3c9b5cf6983cd5f5940fa42d23afaf659880106"), looks := false }, kinds := [], alts := [], laidByText := true, laidKinds := [.data, .pinned], laidTests := true, laidLooks := .later }
def LimitsTellUptoCardSaid : Prop := Claim7.holds Tryd.pinned (.plain (OpenSpec.upto limitsTellSpec)) limitsTellUptoCard

/-- THE SECOND FORM's CARD OF 'tenterlaw38.LimitsBack'. -/
def limitsBackUptoCard : Claim7 := { stood := { row := limitsBackUptoRow, standIns := [], harness := (true, "7a684c54022fa2f4c8158416c3c9b5cf6983cd5f5940fa42d23afaf659880106"), looks := false }, kinds := [], alts := [], laidByText := true, laidKinds := [.data, .pinned], laidTests := true, laidLooks := .later }
def LimitsBackUptoCardSaid : Prop := Claim7.holds Tryd.pinned (.plain (OpenSpec.upto limitsBackSpec)) limitsBackUptoCard
end Rows
end Go.Proofs.YtfldilhddeabeaaDoor
