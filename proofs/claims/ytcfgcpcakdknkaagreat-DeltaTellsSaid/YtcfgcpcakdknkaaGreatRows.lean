/-
  No cell of these rows narrows 'for every input' (looked for: loops, veiled, ifaces, maps, wideKeys, modest, calm, conditions, laid).
  DERIVED. THE GIVEN ROWS OF THIS SEAT. 4 by the template 'for every input the law returns true; each argument reads behind the call as it read before'; 0 by the template 'total and deterministic' (their statements: YtcfgcpcakdknkaaGreatTotals.lean).
  GIVEN WITH THE SEED: the statements are not yours to turn. If you find one false, say at which input.
  Laid BY PROGRAM, IN A SANDBOX (cutbox-rows.mjs): the forced cells as the released guide's own fill.sh prints them over the translation cc66fb30b8c80d45… (all of the seat's roots in one cut). By AI agents, Wed Nov 11 2026. No macro, syntax, notation, axiom, sorry.
-/
import Derived.Test.YtcfgcpcakdknkaaGreatChecked
import GoSem.Claim
import GoSem.ClaimJoined
import GoSem.ClaimMapViews
import Derived.JoinedTies
import Derived.KernelRfl
namespace Go.Proofs.YtcfgcpcakdknkaaGreat
/- THE CELL 'sum', in the pinned program and in every row, IS THE sha256 OF THE DUMP (.gsa) THAT YtcfgcpcakdknkaaGreatProg.lean LOADS. Nothing in Lean hashes anything: it is a label: what it is worth is what the hold of that sum in a sandbox is worth. -/
noncomputable def Tryz.pinned : Pinned := { name := "ytcfgcpcakdknkaagreat", sum := "cc66fb30b8c80d45edf94f22400a4920607205be9ab7ff1fcd7d89dad4eefab8", checked := Tryz.checked }
namespace Rows
def none {H : Type} : Left H := { results := [], args := [] }

/-- 'tenterlaw39.UndoBack': WHATEVER THE INPUT: true; the input reads as it did. -/
def undoBackSpec : ChangeSpec := { name := "undoBack", fn := fun _ => fun
  | [d1, d2] => { results := [.lit (.bool true)], args := [d1, d2] }
  | _ => none }
def undoBackRow : OpenClaim := { program := "ytcfgcpcakdknkaagreat", sum := "cc66fb30b8c80d45edf94f22400a4920607205be9ab7ff1fcd7d89dad4eefab8", func := "tenter/tenterlaw39.UndoBack", spec := "undoBack", unfollowed := true, recurses := true, plainKeys := false, apart := false }
def UndoBackSaid : Prop := undoBackRow.holds Tryz.pinned (OpenSpec.ofChange undoBackSpec)

/-- ITS FALSE NEIGHBOUR: 'it returns false'. Refute it at one input. -/
def undoBackWrong : ChangeSpec := { name := "undoBack", fn := fun _ => fun
  | [d1, d2] => { results := [.lit (.bool false)], args := [d1, d2] }
  | _ => none }
def UndoBackWrongFalsely : Prop := undoBackRow.holds Tryz.pinned (OpenSpec.ofChange undoBackWrong)

/-- 'tenterlaw14.DeltaTells': WHATEVER THE INPUT: true; the input reads as it did. -/
def deltaTellsSpec : ChangeSpec := { name := "deltaTells", fn := fun _ => fun
  | [d1, d2, d3, d4] => { results := [.lit (.bool true)], args := [d1, d2, d3, d4] }
  | _ => none }
def deltaTellsRow : OpenClaim := { program := "ytcfgcpcakdknkaagreat", sum := "cc66fb30b8c80d45edf94f22400a4920607205be9ab7ff1fcd7d89dad4eefab8", func := "tenter/tenterlaw14.DeltaTells", spec := "deltaTells", unfollowed := true, recurses := true, plainKeys := false, apart := false }
def DeltaTellsSaid : Prop := deltaTellsRow.holds Tryz.pinned (OpenSpec.ofChange deltaTellsSpec)

/-- ITS FALSE NEIGHBOUR: 'it returns false'. Refute it at one input. -/
def deltaTellsWrong : ChangeSpec := { name := "deltaTells", fn := fun _ => fun
  | [d1, d2, d3, d4] => { results := [.lit (.bool false)], args := [d1, d2, d3, d4] }
  | _ => none }
def DeltaTellsWrongFalsely : Prop := deltaTellsRow.holds Tryz.pinned (OpenSpec.ofChange deltaTellsWrong)

/-- 'tenterlaw14.DeltaBack': WHATEVER THE INPUT: true; the input reads as it did. -/
def deltaBackSpec : ChangeSpec := { name := "deltaBack", fn := fun _ => fun
  | [d1, d2] => { results := [.lit (.bool true)], args := [d1, d2] }
  | _ => none }
def deltaBackRow : OpenClaim := { program := "ytcfgcpcakdknkaagreat", sum := "cc66fb30b8c80d45edf94f22400a4920607205be9ab7ff1fcd7d89dad4eefab8", func := "tenter/tenterlaw14.DeltaBack", spec := "deltaBack", unfollowed := true, recurses := true, plainKeys := false, apart := false }
def DeltaBackSaid : Prop := deltaBackRow.holds Tryz.pinned (OpenSpec.ofChange deltaBackSpec)

/-- ITS FALSE NEIGHBOUR: 'it returns false'. Refute it at one input. -/
def deltaBackWrong : ChangeSpec := { name := "deltaBack", fn := fun _ => fun
  | [d1, d2] => { results := [.lit (.bool false)], args := [d1, d2] }
  | _ => none }
def DeltaBackWrongFalsely : Prop := deltaBackRow.holds Tryz.pinned (OpenSpec.ofChange deltaBackWrong)

/-- 'tenterlaw14.DeltaJoins': WHATEVER THE INPUT: true; the input reads as it did. -/
def deltaJoinsSpec : ChangeSpec := { name := "deltaJoins", fn := fun _ => fun
  | [d1, d2, d3] => { results := [.lit (.bool true)], args := [d1, d2, d3] }
  | _ => none }
def deltaJoinsRow : OpenClaim := { program := "ytcfgcpcakdknkaagreat", sum := "cc66fb30b8c80d45edf94f22400a4920607205be9ab7ff1fcd7d89dad4eefab8", func := "tenter/tenterlaw14.DeltaJoins", spec := "deltaJoins", unfollowed := true, recurses := true, plainKeys := false, apart := false }
def DeltaJoinsSaid : Prop := deltaJoinsRow.holds Tryz.pinned (OpenSpec.ofChange deltaJoinsSpec)

/-- ITS FALSE NEIGHBOUR: 'it returns false'. Refute it at one input. -/
def deltaJoinsWrong : ChangeSpec := { name := "deltaJoins", fn := fun _ => fun
  | [d1, d2, d3] => { results := [.lit (.bool false)], args := [d1, d2, d3] }
  | _ => none }
def DeltaJoinsWrongFalsely : Prop := deltaJoinsRow.holds Tryz.pinned (OpenSpec.ofChange deltaJoinsWrong)

/- THE SECOND FORM. 'bulk': how many values and letters a reading holds, each counted each time it is reached (what is shared counts as often as it is met; a slice's spare places count too). A statement '..UptoSaid' is the law's where the arguments, and the package variables that the reading takes, are together of bulk at most 1048576: NARROWER than '..Said'. Prove '..Said' where nothing that the law and all that it calls make is longer than what came in: it says more and counts as full. Else prove '..UptoSaid'. A law counts once. -/
mutual
def uptoBulk {H : Type} : DataW H → Nat
  | .lit (.string bytes) => bytes.length + 1
  | .lit _ => 1
  | .nil => 1
  | .ptr d => uptoBulk d + 1
  | .slice elems spare => uptoBulkAll elems + uptoBulkAll spare + 1
  | .agg parts => uptoBulkAll parts + 1
  | .iface _ d => uptoBulk d + 1
  | .map entries => uptoBulkEntries entries + 1
  | .held _ => 1
def uptoBulkAll {H : Type} : List (DataW H) → Nat
  | [] => 0
  | d :: r => uptoBulk d + uptoBulkAll r
def uptoBulkEntries {H : Type} : List (Lit × DataW H) → Nat
  | [] => 0
  | x :: r => uptoBulkEntry x + uptoBulkEntries r
def uptoBulkEntry {H : Type} : Lit × DataW H → Nat
  | (.string bytes, d) => bytes.length + uptoBulk d + 1
  | (_, d) => uptoBulk d + 1
 end
def uptoSmall : (H : Type) → List (DataW H) → Bool := fun _ ds => decide (uptoBulkAll ds ≤ 1048576)
def OpenSpec.upto (s : _root_.Go.ChangeSpec) : _root_.Go.OpenSpec := { _root_.Go.OpenSpec.ofChange s with cond := some uptoSmall }

/-- 'tenterlaw39.UndoBack', WHERE WHAT IT READS IS OF BULK AT MOST 1048576: true; the input reads as it did. -/
def undoBackUptoRow : OpenClaim := { program := "ytcfgcpcakdknkaagreat", sum := "cc66fb30b8c80d45edf94f22400a4920607205be9ab7ff1fcd7d89dad4eefab8", func := "tenter/tenterlaw39.UndoBack", spec := "undoBack", unfollowed := true, recurses := true, plainKeys := false, apart := false, narrowed := true }
def UndoBackUptoSaid : Prop := undoBackUptoRow.holds Tryz.pinned (OpenSpec.upto undoBackSpec)

/-- 'tenterlaw14.DeltaTells', WHERE WHAT IT READS IS OF BULK AT MOST 1048576: true; the input reads as it did. -/
def deltaTellsUptoRow : OpenClaim := { program := "ytcfgcpcakdknkaagreat", sum := "cc66fb30b8c80d45edf94f22400a4920607205be9ab7ff1fcd7d89dad4eefab8", func := "tenter/tenterlaw14.DeltaTells", spec := "deltaTells", unfollowed := true, recurses := true, plainKeys := false, apart := false, narrowed := true }
def DeltaTellsUptoSaid : Prop := deltaTellsUptoRow.holds Tryz.pinned (OpenSpec.upto deltaTellsSpec)

/-- 'tenterlaw14.DeltaBack', WHERE WHAT IT READS IS OF BULK AT MOST 1048576: true; the input reads as it did. -/
def deltaBackUptoRow : OpenClaim := { program := "ytcfgcpcakdknkaagreat", sum := "cc66fb30b8c80d45edf94f22400a4920607205be9ab7ff1fcd7d89dad4eefab8", func := "tenter/tenterlaw14.DeltaBack", spec := "deltaBack", unfollowed := true, recurses := true, plainKeys := false, apart := false, narrowed := true }
def DeltaBackUptoSaid : Prop := deltaBackUptoRow.holds Tryz.pinned (OpenSpec.upto deltaBackSpec)

/-- 'tenterlaw14.DeltaJoins', WHERE WHAT IT READS IS OF BULK AT MOST 1048576: true; the input reads as it did. -/
def deltaJoinsUptoRow : OpenClaim := { program := "ytcfgcpcakdknkaagreat", sum := "cc66fb30b8c80d45edf94f22400a4920607205be9ab7ff1fcd7d89dad4eefab8", func := "tenter/tenterlaw14.DeltaJoins", spec := "deltaJoins", unfollowed := true, recurses := true, plainKeys := false, apart := false, narrowed := true }
def DeltaJoinsUptoSaid : Prop := deltaJoinsUptoRow.holds Tryz.pinned (OpenSpec.upto deltaJoinsSpec)

end Rows
end Go.Proofs.YtcfgcpcakdknkaaGreat
