/-
  DERIVED. GIVEN WITH THE SEED: THE CARDS: each row of YtpahapjcdldodaaDoorRows.lean that lists a variable, with what it lists TIED to the program's text (the seventh form; the later family's looks); each row that meets fmt, with fmt's text TOLD by the authors' own Lean function (tested against real Go, not proved from fmt's source: count such statements apart). THE CARD IS WHAT COUNTS. Prove the row's statement (the work); the ties are given (YtpahapjcdldodaaDoorTie.lean); close each card by the builder's one call (the guide's Derived/Test/ToyasCard.lean, 'card_holds'). Laid BY PROGRAM, IN A SANDBOX (cutbox-door.mjs). By AI agents, Wed Nov 11 2026. No macro, syntax, notation, axiom, sorry.
-/
import Derived.Test.YtpahapjcdldodaaDoorRows
import GoSem.ClaimSeven
namespace Go.Proofs.YtpahapjcdldodaaDoor
namespace Rows

/-- THE TIED CARD OF 'tenterlaw24.ClosurePlays'. -/
def closurePlaysCard : Claim7 := { stood := { row := closurePlaysRow, standIns := [], harness := (true, "6961f7cada38c9c9911df68423e02c997f36cc4bf4cef1e89a78e6375edcb2ad"), looks := false }, kinds := [], alts := [], laidByText := true, laidKinds := [.data], laidTests := true, laidLooks := .later }
def ClosurePlaysCardSaid : Prop := Claim7.holds Tryd.pinned (.plain (OpenSpec.ofChange closurePlaysSpec)) closurePlaysCard

/-- THE TIED CARD OF 'tenterlaw24.ClosureWay'. -/
def closureWayCard : Claim7 := { stood := { row := closureWayRow, standIns := [], harness := (true, "6961f7cada38c9c9911df68423e02c997f36cc4bf4cef1e89a78e6375edcb2ad"), looks := false }, kinds := [], alts := [], laidByText := true, laidKinds := [.data], laidTests := true, laidLooks := .later }
def ClosureWayCardSaid : Prop := Claim7.holds Tryd.pinned (.plain (OpenSpec.ofChange closureWaySpec)) closureWayCard

/-- THE TIED CARD OF 'tenterlaw25.CompsPlays'. -/
def compsPlaysCard : Claim7 := { stood := { row := compsPlaysRow, standIns := [], harness := (true, "6961f7cada38c9c9911df68423e02c997f36cc4bf4cef1e89a78e6375edcb2ad"), looks := false }, kinds := [], alts := [], laidByText := true, laidKinds := [.data], laidTests := true, laidLooks := .later }
def CompsPlaysCardSaid : Prop := Claim7.holds Tryd.pinned (.plain (OpenSpec.ofChange compsPlaysSpec)) compsPlaysCard

/-- THE TIED CARD OF 'tenterlaw25.CompsFresh'. -/
def compsFreshCard : Claim7 := { stood := { row := compsFreshRow, standIns := [], harness := (true, "6961f7cada38c9c9911df68423e02c997f36cc4bf4cef1e89a78e6375edcb2ad"), looks := false }, kinds := [], alts := [], laidByText := true, laidKinds := [.data], laidTests := true, laidLooks := .later }
def CompsFreshCardSaid : Prop := Claim7.holds Tryd.pinned (.plain (OpenSpec.ofChange compsFreshSpec)) compsFreshCard

/-- THE SECOND FORM's CARD OF 'tenterlaw24.ClosurePlays'. -/
def closurePlaysUptoCard : Claim7 := { stood := { row := closurePlaysUptoRow, standIns := [], harness := (true, "6961f7cada38c9c9911df68423e02c997f36cc4bf4cef1e89a78e6375edcb2ad"), looks := false }, kinds := [], alts := [], laidByText := true, laidKinds := [.data], laidTests := true, laidLooks := .later }
def ClosurePlaysUptoCardSaid : Prop := Claim7.holds Tryd.pinned (.plain (OpenSpec.upto closurePlaysSpec)) closurePlaysUptoCard

/-- THE SECOND FORM's CARD OF 'tenterlaw24.ClosureWay'. -/
def closureWayUptoCard : Claim7 := { stood := { row := closureWayUptoRow, standIns := [], harness := (true, "6961f7cada38c9c9911df68423e02c997f36cc4bf4cef1e89a78e6375edcb2ad"), looks := false }, kinds := [], alts := [], laidByText := true, laidKinds := [.data], laidTests := true, laidLooks := .later }
def ClosureWayUptoCardSaid : Prop := Claim7.holds Tryd.pinned (.plain (OpenSpec.upto closureWaySpec)) closureWayUptoCard

/-- THE SECOND FORM's CARD OF 'tenterlaw25.CompsPlays'. -/
def compsPlaysUptoCard : Claim7 := { stood := { row := compsPlaysUptoRow, standIns := [], harness := (true, "6961f7cada38c9c9911df68423e02c997f36cc4bf4cef1e89a78e6375edcb2ad"), looks := false }, kinds := [], alts := [], laidByText := true, laidKinds := [.data], laidTests := true, laidLooks := .later }
def CompsPlaysUptoCardSaid : Prop := Claim7.holds Tryd.pinned (.plain (OpenSpec.upto compsPlaysSpec)) compsPlaysUptoCard

/-- THE SECOND FORM's CARD OF 'tenterlaw25.CompsFresh'. -/
def compsFreshUptoCard : Claim7 := { stood := { row := compsFreshUptoRow, standIns := [], harness := (true, "6961f7cada38c9c9911df68423e02c997f36cc4bf4cef1e89a78e6375edcb2ad"), looks := false }, kinds := [], alts := [], laidByText := true, laidKinds := [.data], laidTests := true, laidLooks := .later }
def CompsFreshUptoCardSaid : Prop := Claim7.holds Tryd.pinned (.plain (OpenSpec.upto compsFreshSpec)) compsFreshUptoCard
end Rows
end Go.Proofs.YtpahapjcdldodaaDoor
