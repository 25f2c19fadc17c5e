/-
  No cell of these rows narrows 'for every input' (looked for: loops, veiled, ifaces, maps, wideKeys, modest, calm, conditions, laid).
  DERIVED. THE GIVEN ROWS OF THIS SEAT. 3 by the template 'for every input the law returns true; each argument reads behind the call as it read before'; 0 by the template 'total and deterministic' (their statements: YtpnaolljmhhdbaaTotals.lean).
  GIVEN WITH THE SEED: the statements are not yours to turn. If you find one false, say at which input.
  Laid BY PROGRAM, IN A SANDBOX (cutbox-rows.mjs): the forced cells as the released guide's own fill.sh prints them over the translation cd8080360f226e8a… (all of the seat's roots in one cut). By AI agents, Wed Nov 11 2026. No macro, syntax, notation, axiom, sorry.
-/
import Derived.Test.YtpnaolljmhhdbaaChecked
import GoSem.Claim
import GoSem.ClaimJoined
import GoSem.ClaimMapViews
import Derived.JoinedTies
import Derived.KernelRfl
namespace Go.Proofs.Ytpnaolljmhhdbaa
/- THE CELL 'sum', in the pinned program and in every row, IS THE sha256 OF THE DUMP (.gsa) THAT YtpnaolljmhhdbaaProg.lean LOADS. Nothing in Lean hashes anything: it is a label: what it is worth is what the hold of that sum in a sandbox is worth. -/
noncomputable def Try.pinned : Pinned := { name := "ytpnaolljmhhdbaa", sum := "cd8080360f226e8a867aa6d6b1dd99ea9de10e2a0c581436e9a2bcf99bef7a55", checked := Try.checked }
namespace Rows
def none {H : Type} : Left H := { results := [], args := [] }

/-- 'tenterlaw17.MultiPlays': WHATEVER THE INPUT: true; the input reads as it did. -/
def multiPlaysSpec : ChangeSpec := { name := "multiPlays", fn := fun _ => fun
  | [d1, d2, d3] => { results := [.lit (.bool true)], args := [d1, d2, d3] }
  | _ => none }
def multiPlaysRow : OpenClaim := { program := "ytpnaolljmhhdbaa", sum := "cd8080360f226e8a867aa6d6b1dd99ea9de10e2a0c581436e9a2bcf99bef7a55", func := "tenter/tenterlaw17.MultiPlays", spec := "multiPlays", inPlace := ["slices.overlaps[uint64]"], unfollowed := true, recurses := true, plainKeys := false, apart := false }
def MultiPlaysSaid : Prop := multiPlaysRow.holds Try.pinned (OpenSpec.ofChange multiPlaysSpec)

/-- ITS FALSE NEIGHBOUR: 'it returns false'. Refute it at one input. -/
def multiPlaysWrong : ChangeSpec := { name := "multiPlays", fn := fun _ => fun
  | [d1, d2, d3] => { results := [.lit (.bool false)], args := [d1, d2, d3] }
  | _ => none }
def MultiPlaysWrongFalsely : Prop := multiPlaysRow.holds Try.pinned (OpenSpec.ofChange multiPlaysWrong)

/-- 'tenterlaw17.MultiBack': WHATEVER THE INPUT: true; the input reads as it did. -/
def multiBackSpec : ChangeSpec := { name := "multiBack", fn := fun _ => fun
  | [d1, d2] => { results := [.lit (.bool true)], args := [d1, d2] }
  | _ => none }
def multiBackRow : OpenClaim := { program := "ytpnaolljmhhdbaa", sum := "cd8080360f226e8a867aa6d6b1dd99ea9de10e2a0c581436e9a2bcf99bef7a55", func := "tenter/tenterlaw17.MultiBack", spec := "multiBack", inPlace := ["slices.overlaps[uint64]"], unfollowed := true, recurses := true, plainKeys := false, apart := false }
def MultiBackSaid : Prop := multiBackRow.holds Try.pinned (OpenSpec.ofChange multiBackSpec)

/-- ITS FALSE NEIGHBOUR: 'it returns false'. Refute it at one input. -/
def multiBackWrong : ChangeSpec := { name := "multiBack", fn := fun _ => fun
  | [d1, d2] => { results := [.lit (.bool false)], args := [d1, d2] }
  | _ => none }
def MultiBackWrongFalsely : Prop := multiBackRow.holds Try.pinned (OpenSpec.ofChange multiBackWrong)

/-- 'tentertop.TopShifted': WHATEVER THE INPUT: true; the input reads as it did. -/
def topShiftedSpec : ChangeSpec := { name := "topShifted", fn := fun _ => fun
  | [d1, d2, d3] => { results := [.lit (.bool true)], args := [d1, d2, d3] }
  | _ => none }
def topShiftedRow : OpenClaim := { program := "ytpnaolljmhhdbaa", sum := "cd8080360f226e8a867aa6d6b1dd99ea9de10e2a0c581436e9a2bcf99bef7a55", func := "tenter/tentertop.TopShifted", spec := "topShifted", unfollowed := true, recurses := true, plainKeys := false, apart := false }
def TopShiftedSaid : Prop := topShiftedRow.holds Try.pinned (OpenSpec.ofChange topShiftedSpec)

/-- ITS FALSE NEIGHBOUR: 'it returns false'. Refute it at one input. -/
def topShiftedWrong : ChangeSpec := { name := "topShifted", fn := fun _ => fun
  | [d1, d2, d3] => { results := [.lit (.bool false)], args := [d1, d2, d3] }
  | _ => none }
def TopShiftedWrongFalsely : Prop := topShiftedRow.holds Try.pinned (OpenSpec.ofChange topShiftedWrong)

/- THE SECOND FORM. 'bulk': how many values and letters a reading holds, each counted each time it is reached (what is shared counts as often as it is met; a slice's spare places count too). A statement '..UptoSaid' is the law's where the arguments, and the package variables that the reading takes, are together of bulk at most 1048576: NARROWER than '..Said'. Prove '..Said' where nothing that the law and all that it calls make is longer than what came in: it says more and counts as full. Else prove '..UptoSaid'. A law counts once. -/
mutual
def uptoBulk {H : Type} : DataW H → Nat
  | .lit (.string bytes) => bytes.length + 1
  | .lit _ => 1
  | .nil => 1
  | .ptr d => uptoBulk d + 1
  | .slice elems spare => uptoBulkAll elems + uptoBulkAll spare + 1
  | .agg parts => uptoBulkAll parts + 1
  | .iface _ d => uptoBulk d + 1
  | .map entries => uptoBulkEntries entries + 1
  | .held _ => 1
def uptoBulkAll {H : Type} : List (DataW H) → Nat
  | [] => 0
  | d :: r => uptoBulk d + uptoBulkAll r
def uptoBulkEntries {H : Type} : List (Lit × DataW H) → Nat
  | [] => 0
  | x :: r => uptoBulkEntry x + uptoBulkEntries r
def uptoBulkEntry {H : Type} : Lit × DataW H → Nat
  | (.string bytes, d) => bytes.length + uptoBulk d + 1
  | (_, d) => uptoBulk d + 1
 end
def uptoSmall : (H : Type) → List (DataW H) → Bool := fun _ ds => decide (uptoBulkAll ds ≤ 1048576)
def OpenSpec.upto (s : _root_.Go.ChangeSpec) : _root_.Go.OpenSpec := { _root_.Go.OpenSpec.ofChange s with cond := some uptoSmall }

/-- 'tenterlaw17.MultiPlays', WHERE WHAT IT READS IS OF BULK AT MOST 1048576: true; the input reads as it did. -/
def multiPlaysUptoRow : OpenClaim := { program := "ytpnaolljmhhdbaa", sum := "cd8080360f226e8a867aa6d6b1dd99ea9de10e2a0c581436e9a2bcf99bef7a55", func := "tenter/tenterlaw17.MultiPlays", spec := "multiPlays", inPlace := ["slices.overlaps[uint64]"], unfollowed := true, recurses := true, plainKeys := false, apart := false, narrowed := true }
def MultiPlaysUptoSaid : Prop := multiPlaysUptoRow.holds Try.pinned (OpenSpec.upto multiPlaysSpec)

/-- 'tenterlaw17.MultiBack', WHERE WHAT IT READS IS OF BULK AT MOST 1048576: true; the input reads as it did. -/
def multiBackUptoRow : OpenClaim := { program := "ytpnaolljmhhdbaa", sum := "cd8080360f226e8a867aa6d6b1dd99ea9de10e2a0c581436e9a2bcf99bef7a55", func := "tenter/tenterlaw17.MultiBack", spec := "multiBack", inPlace := ["slices.overlaps[uint64]"], unfollowed := true, recurses := true, plainKeys := false, apart := false, narrowed := true }
def MultiBackUptoSaid : Prop := multiBackUptoRow.holds Try.pinned (OpenSpec.upto multiBackSpec)

/-- 'tentertop.TopShifted', WHERE WHAT IT READS IS OF BULK AT MOST 1048576: true; the input reads as it did. -/
def topShiftedUptoRow : OpenClaim := { program := "ytpnaolljmhhdbaa", sum := "cd8080360f226e8a867aa6d6b1dd99ea9de10e2a0c581436e9a2bcf99bef7a55", func := "tenter/tentertop.TopShifted", spec := "topShifted", unfollowed := true, recurses := true, plainKeys := false, apart := false, narrowed := true }
def TopShiftedUptoSaid : Prop := topShiftedUptoRow.holds Try.pinned (OpenSpec.upto topShiftedSpec)

end Rows
end Go.Proofs.Ytpnaolljmhhdbaa
