/-
  No cell of these rows narrows 'for every input' (looked for: loops, veiled, ifaces, maps, wideKeys, modest, calm, conditions, laid).
  DERIVED. THE GIVEN ROWS OF THIS SEAT. 6 by the template 'for every input the law returns true; each argument reads behind the call as it read before'; 0 by the template 'total and deterministic' (their statements: YtjfelobhdjjgaaaTotals.lean).
  GIVEN WITH THE SEED: the statements are not yours to turn. If you find one false, say at which input.
  Laid BY PROGRAM, IN A SANDBOX (cutbox-rows.mjs): the forced cells as the released guide's own fill.sh prints them over the translation 13dcb3826791da00… (all of the seat's roots in one cut). By AI agents, Wed Nov 11 2026. No macro, syntax, notation, axiom, sorry.
-/
import Derived.Test.YtjfelobhdjjgaaaChecked
import GoSem.Claim
import GoSem.ClaimJoined
import GoSem.ClaimMapViews
import Derived.JoinedTies
import Derived.KernelRfl
namespace Go.Proofs.Ytjfelobhdjjgaaa
/- THE CELL 'sum', in the pinned program and in every row, IS THE sha256 OF THE DUMP (.gsa) THAT YtjfelobhdjjgaaaProg.lean LOADS. Nothing in Lean hashes anything: it is a label: what it is worth is what the hold of that sum in a sandbox is worth. -/
noncomputable def Try.pinned : Pinned := { name := "ytjfelobhdjjgaaa", sum := "13dcb3826791da004f7965270b36ee3ff02c3e8c7ae79df9f657ee75e4117dde", checked := Try.checked }
namespace Rows
def none {H : Type} : Left H := { results := [], args := [] }

/-- 'tentertop.TopNames': WHATEVER THE INPUT: true; the input reads as it did. -/
def topNamesSpec : ChangeSpec := { name := "topNames", fn := fun _ => fun
  | [] => { results := [.lit (.bool true)], args := [] }
  | _ => none }
def topNamesRow : OpenClaim := { program := "ytjfelobhdjjgaaa", sum := "13dcb3826791da004f7965270b36ee3ff02c3e8c7ae79df9f657ee75e4117dde", func := "tenter/tentertop.TopNames", spec := "topNames", apart := false }
def TopNamesSaid : Prop := topNamesRow.holds Try.pinned (OpenSpec.ofChange topNamesSpec)

/-- ITS FALSE NEIGHBOUR: 'it returns false'. Refute it at one input. -/
def topNamesWrong : ChangeSpec := { name := "topNames", fn := fun _ => fun
  | [] => { results := [.lit (.bool false)], args := [] }
  | _ => none }
def TopNamesWrongFalsely : Prop := topNamesRow.holds Try.pinned (OpenSpec.ofChange topNamesWrong)

/-- 'tenterlaw02.PackEdges': WHATEVER THE INPUT: true; the input reads as it did. -/
def packEdgesSpec : ChangeSpec := { name := "packEdges", fn := fun _ => fun
  | [d1, d2] => { results := [.lit (.bool true)], args := [d1, d2] }
  | _ => none }
def packEdgesRow : OpenClaim := { program := "ytjfelobhdjjgaaa", sum := "13dcb3826791da004f7965270b36ee3ff02c3e8c7ae79df9f657ee75e4117dde", func := "tenter/tenterlaw02.PackEdges", spec := "packEdges", unfollowed := true, recurses := true, apart := false }
def PackEdgesSaid : Prop := packEdgesRow.holds Try.pinned (OpenSpec.ofChange packEdgesSpec)

/-- ITS FALSE NEIGHBOUR: 'it returns false'. Refute it at one input. -/
def packEdgesWrong : ChangeSpec := { name := "packEdges", fn := fun _ => fun
  | [d1, d2] => { results := [.lit (.bool false)], args := [d1, d2] }
  | _ => none }
def PackEdgesWrongFalsely : Prop := packEdgesRow.holds Try.pinned (OpenSpec.ofChange packEdgesWrong)

/-- 'tenterlaw02.PackVersions': WHATEVER THE INPUT: true; the input reads as it did. -/
def packVersionsSpec : ChangeSpec := { name := "packVersions", fn := fun _ => fun
  | [d1, d2] => { results := [.lit (.bool true)], args := [d1, d2] }
  | _ => none }
def packVersionsRow : OpenClaim := { program := "ytjfelobhdjjgaaa", sum := "13dcb3826791da004f7965270b36ee3ff02c3e8c7ae79df9f657ee75e4117dde", func := "tenter/tenterlaw02.PackVersions", spec := "packVersions", unfollowed := true, recurses := true, apart := false }
def PackVersionsSaid : Prop := packVersionsRow.holds Try.pinned (OpenSpec.ofChange packVersionsSpec)

/-- ITS FALSE NEIGHBOUR: 'it returns false'. Refute it at one input. -/
def packVersionsWrong : ChangeSpec := { name := "packVersions", fn := fun _ => fun
  | [d1, d2] => { results := [.lit (.bool false)], args := [d1, d2] }
  | _ => none }
def PackVersionsWrongFalsely : Prop := packVersionsRow.holds Try.pinned (OpenSpec.ofChange packVersionsWrong)

/-- 'tenterlaw02.PackSorts': WHATEVER THE INPUT: true; the input reads as it did. -/
def packSortsSpec : ChangeSpec := { name := "packSorts", fn := fun _ => fun
  | [d1, d2, d3] => { results := [.lit (.bool true)], args := [d1, d2, d3] }
  | _ => none }
def packSortsRow : OpenClaim := { program := "ytjfelobhdjjgaaa", sum := "13dcb3826791da004f7965270b36ee3ff02c3e8c7ae79df9f657ee75e4117dde", func := "tenter/tenterlaw02.PackSorts", spec := "packSorts", unfollowed := true, recurses := true, apart := false }
def PackSortsSaid : Prop := packSortsRow.holds Try.pinned (OpenSpec.ofChange packSortsSpec)

/-- ITS FALSE NEIGHBOUR: 'it returns false'. Refute it at one input. -/
def packSortsWrong : ChangeSpec := { name := "packSorts", fn := fun _ => fun
  | [d1, d2, d3] => { results := [.lit (.bool false)], args := [d1, d2, d3] }
  | _ => none }
def PackSortsWrongFalsely : Prop := packSortsRow.holds Try.pinned (OpenSpec.ofChange packSortsWrong)

/-- 'tenterlaw02.PackBack': WHATEVER THE INPUT: true; the input reads as it did. -/
def packBackSpec : ChangeSpec := { name := "packBack", fn := fun _ => fun
  | [d1, d2, d3, d4] => { results := [.lit (.bool true)], args := [d1, d2, d3, d4] }
  | _ => none }
def packBackRow : OpenClaim := { program := "ytjfelobhdjjgaaa", sum := "13dcb3826791da004f7965270b36ee3ff02c3e8c7ae79df9f657ee75e4117dde", func := "tenter/tenterlaw02.PackBack", spec := "packBack", unfollowed := true, recurses := true, apart := false }
def PackBackSaid : Prop := packBackRow.holds Try.pinned (OpenSpec.ofChange packBackSpec)

/-- ITS FALSE NEIGHBOUR: 'it returns false'. Refute it at one input. -/
def packBackWrong : ChangeSpec := { name := "packBack", fn := fun _ => fun
  | [d1, d2, d3, d4] => { results := [.lit (.bool false)], args := [d1, d2, d3, d4] }
  | _ => none }
def PackBackWrongFalsely : Prop := packBackRow.holds Try.pinned (OpenSpec.ofChange packBackWrong)

/-- 'tentertop.TopMixed': WHATEVER THE INPUT: true; the input reads as it did. -/
def topMixedSpec : ChangeSpec := { name := "topMixed", fn := fun _ => fun
  | [d] => { results := [.lit (.bool true)], args := [d] }
  | _ => none }
def topMixedRow : OpenClaim := { program := "ytjfelobhdjjgaaa", sum := "13dcb3826791da004f7965270b36ee3ff02c3e8c7ae79df9f657ee75e4117dde", func := "tenter/tentertop.TopMixed", spec := "topMixed", inPlace := ["internal/abi.NoEscape"], apart := false }
def TopMixedSaid : Prop := topMixedRow.holds Try.pinned (OpenSpec.ofChange topMixedSpec)

/-- ITS FALSE NEIGHBOUR: 'it returns false'. Refute it at one input. -/
def topMixedWrong : ChangeSpec := { name := "topMixed", fn := fun _ => fun
  | [d] => { results := [.lit (.bool false)], args := [d] }
  | _ => none }
def TopMixedWrongFalsely : Prop := topMixedRow.holds Try.pinned (OpenSpec.ofChange topMixedWrong)

/- THE SECOND FORM. 'bulk': how many values and letters a reading holds, each counted each time it is reached (what is shared counts as often as it is met; a slice's spare places count too). A statement '..UptoSaid' is the law's where the arguments, and the package variables that the reading takes, are together of bulk at most 1048576: NARROWER than '..Said'. Prove '..Said' where nothing that the law and all that it calls make is longer than what came in: it says more and counts as full. Else prove '..UptoSaid'. A law counts once. -/
mutual
def uptoBulk {H : Type} : DataW H → Nat
  | .lit (.string bytes) => bytes.length + 1
  | .lit _ => 1
  | .nil => 1
  | .ptr d => uptoBulk d + 1
  | .slice elems spare => uptoBulkAll elems + uptoBulkAll spare + 1
  | .agg parts => uptoBulkAll parts + 1
  | .iface _ d => uptoBulk d + 1
  | .map entries => uptoBulkEntries entries + 1
  | .held _ => 1
def uptoBulkAll {H : Type} : List (DataW H) → Nat
  | [] => 0
  | d :: r => uptoBulk d + uptoBulkAll r
def uptoBulkEntries {H : Type} : List (Lit × DataW H) → Nat
  | [] => 0
  | x :: r => uptoBulkEntry x + uptoBulkEntries r
def uptoBulkEntry {H : Type} : Lit × DataW H → Nat
  | (.string bytes, d) => bytes.length + uptoBulk d + 1
  | (_, d) => uptoBulk d + 1
 end
def uptoSmall : (H : Type) → List (DataW H) → Bool := fun _ ds => decide (uptoBulkAll ds ≤ 1048576)
def OpenSpec.upto (s : _root_.Go.ChangeSpec) : _root_.Go.OpenSpec := { _root_.Go.OpenSpec.ofChange s with cond := some uptoSmall }

/-- 'tentertop.TopNames', WHERE WHAT IT READS IS OF BULK AT MOST 1048576: true; the input reads as it did. -/
def topNamesUptoRow : OpenClaim := { program := "ytjfelobhdjjgaaa", sum := "13dcb3826791da004f7965270b36ee3ff02c3e8c7ae79df9f657ee75e4117dde", func := "tenter/tentertop.TopNames", spec := "topNames", apart := false, narrowed := true }
def TopNamesUptoSaid : Prop := topNamesUptoRow.holds Try.pinned (OpenSpec.upto topNamesSpec)

/-- 'tenterlaw02.PackEdges', WHERE WHAT IT READS IS OF BULK AT MOST 1048576: true; the input reads as it did. -/
def packEdgesUptoRow : OpenClaim := { program := "ytjfelobhdjjgaaa", sum := "13dcb3826791da004f7965270b36ee3ff02c3e8c7ae79df9f657ee75e4117dde", func := "tenter/tenterlaw02.PackEdges", spec := "packEdges", unfollowed := true, recurses := true, apart := false, narrowed := true }
def PackEdgesUptoSaid : Prop := packEdgesUptoRow.holds Try.pinned (OpenSpec.upto packEdgesSpec)

/-- 'tenterlaw02.PackVersions', WHERE WHAT IT READS IS OF BULK AT MOST 1048576: true; the input reads as it did. -/
def packVersionsUptoRow : OpenClaim := { program := "ytjfelobhdjjgaaa", sum := "13dcb3826791da004f7965270b36ee3ff02c3e8c7ae79df9f657ee75e4117dde", func := "tenter/tenterlaw02.PackVersions", spec := "packVersions", unfollowed := true, recurses := true, apart := false, narrowed := true }
def PackVersionsUptoSaid : Prop := packVersionsUptoRow.holds Try.pinned (OpenSpec.upto packVersionsSpec)

/-- 'tenterlaw02.PackSorts', WHERE WHAT IT READS IS OF BULK AT MOST 1048576: true; the input reads as it did. -/
def packSortsUptoRow : OpenClaim := { program := "ytjfelobhdjjgaaa", sum := "13dcb3826791da004f7965270b36ee3ff02c3e8c7ae79df9f657ee75e4117dde", func := "tenter/tenterlaw02.PackSorts", spec := "packSorts", unfollowed := true, recurses := true, apart := false, narrowed := true }
def PackSortsUptoSaid : Prop := packSortsUptoRow.holds Try.pinned (OpenSpec.upto packSortsSpec)

/-- 'tenterlaw02.PackBack', WHERE WHAT IT READS IS OF BULK AT MOST 1048576: true; the input reads as it did. -/
def packBackUptoRow : OpenClaim := { program := "ytjfelobhdjjgaaa", sum := "13dcb3826791da004f7965270b36ee3ff02c3e8c7ae79df9f657ee75e4117dde", func := "tenter/tenterlaw02.PackBack", spec := "packBack", unfollowed := true, recurses := true, apart := false, narrowed := true }
def PackBackUptoSaid : Prop := packBackUptoRow.holds Try.pinned (OpenSpec.upto packBackSpec)

/-- 'tentertop.TopMixed', WHERE WHAT IT READS IS OF BULK AT MOST 1048576: true; the input reads as it did. -/
def topMixedUptoRow : OpenClaim := { program := "ytjfelobhdjjgaaa", sum := "13dcb3826791da004f7965270b36ee3ff02c3e8c7ae79df9f657ee75e4117dde", func := "tenter/tentertop.TopMixed", spec := "topMixed", inPlace := ["internal/abi.NoEscape"], apart := false, narrowed := true }
def TopMixedUptoSaid : Prop := topMixedUptoRow.holds Try.pinned (OpenSpec.upto topMixedSpec)

end Rows
end Go.Proofs.Ytjfelobhdjjgaaa
