/-
  No cell of these rows narrows 'for every input' (looked for: loops, veiled, ifaces, maps, wideKeys, modest, calm, conditions, laid).
  DERIVED. THE GIVEN ROWS OF THIS SEAT. 4 by the template 'for every input the law returns true; each argument reads behind the call as it read before'; 0 by the template 'total and deterministic' (their statements: YtfecljadegkmdaaGreatTotals.lean).
  GIVEN WITH THE SEED: the statements are not yours to turn. If you find one false, say at which input.
  Laid BY PROGRAM, IN A SANDBOX (cutbox-rows.mjs): the forced cells as the released guide's own fill.sh prints them over the translation 181be47b7ed96108… (all of the seat's roots in one cut). By AI agents, Wed Nov 11 2026. No macro, syntax, notation, axiom, sorry.
-/
import Derived.Test.YtfecljadegkmdaaGreatChecked
import GoSem.Claim
import GoSem.ClaimJoined
import GoSem.ClaimMapViews
import Derived.JoinedTies
import Derived.KernelRfl
namespace Go.Proofs.YtfecljadegkmdaaGreat
/- THE CELL 'sum', in the pinned program and in every row, IS THE sha256 OF THE DUMP (.gsa) THAT YtfecljadegkmdaaGreatProg.lean LOADS. Nothing in Lean hashes anything: it is a label: what it is worth is what the hold of that sum in a sandbox is worth. -/
noncomputable def Tryz.pinned : Pinned := { name := "ytfecljadegkmdaagreat", sum := "181be47b7ed9610835541dfb8ee56b23477438cac5ced35d770f52f43fbf331a", checked := Tryz.checked }
namespace Rows
def none {H : Type} : Left H := { results := [], args := [] }

/-- 'tenterlaw15.StorePlays': WHATEVER THE INPUT: true; the input reads as it did. -/
def storePlaysSpec : ChangeSpec := { name := "storePlays", fn := fun _ => fun
  | [d1, d2, d3] => { results := [.lit (.bool true)], args := [d1, d2, d3] }
  | _ => none }
def storePlaysRow : OpenClaim := { program := "ytfecljadegkmdaagreat", sum := "181be47b7ed9610835541dfb8ee56b23477438cac5ced35d770f52f43fbf331a", func := "tenter/tenterlaw15.StorePlays", spec := "storePlays", unfollowed := true, recurses := true, plainKeys := false, apart := false }
def StorePlaysSaid : Prop := storePlaysRow.holds Tryz.pinned (OpenSpec.ofChange storePlaysSpec)

/-- ITS FALSE NEIGHBOUR: 'it returns false'. Refute it at one input. -/
def storePlaysWrong : ChangeSpec := { name := "storePlays", fn := fun _ => fun
  | [d1, d2, d3] => { results := [.lit (.bool false)], args := [d1, d2, d3] }
  | _ => none }
def StorePlaysWrongFalsely : Prop := storePlaysRow.holds Tryz.pinned (OpenSpec.ofChange storePlaysWrong)

/-- 'tenterlaw15.StoreStays': WHATEVER THE INPUT: true; the input reads as it did. -/
def storeStaysSpec : ChangeSpec := { name := "storeStays", fn := fun _ => fun
  | [d] => { results := [.lit (.bool true)], args := [d] }
  | _ => none }
def storeStaysRow : OpenClaim := { program := "ytfecljadegkmdaagreat", sum := "181be47b7ed9610835541dfb8ee56b23477438cac5ced35d770f52f43fbf331a", func := "tenter/tenterlaw15.StoreStays", spec := "storeStays", unfollowed := true, recurses := true, plainKeys := false, apart := false }
def StoreStaysSaid : Prop := storeStaysRow.holds Tryz.pinned (OpenSpec.ofChange storeStaysSpec)

/-- ITS FALSE NEIGHBOUR: 'it returns false'. Refute it at one input. -/
def storeStaysWrong : ChangeSpec := { name := "storeStays", fn := fun _ => fun
  | [d] => { results := [.lit (.bool false)], args := [d] }
  | _ => none }
def StoreStaysWrongFalsely : Prop := storeStaysRow.holds Tryz.pinned (OpenSpec.ofChange storeStaysWrong)

/-- 'tenterlaw15.StoreHolds': WHATEVER THE INPUT: true; the input reads as it did. -/
def storeHoldsSpec : ChangeSpec := { name := "storeHolds", fn := fun _ => fun
  | [d] => { results := [.lit (.bool true)], args := [d] }
  | _ => none }
def storeHoldsRow : OpenClaim := { program := "ytfecljadegkmdaagreat", sum := "181be47b7ed9610835541dfb8ee56b23477438cac5ced35d770f52f43fbf331a", func := "tenter/tenterlaw15.StoreHolds", spec := "storeHolds", unfollowed := true, recurses := true, plainKeys := false, apart := false }
def StoreHoldsSaid : Prop := storeHoldsRow.holds Tryz.pinned (OpenSpec.ofChange storeHoldsSpec)

/-- ITS FALSE NEIGHBOUR: 'it returns false'. Refute it at one input. -/
def storeHoldsWrong : ChangeSpec := { name := "storeHolds", fn := fun _ => fun
  | [d] => { results := [.lit (.bool false)], args := [d] }
  | _ => none }
def StoreHoldsWrongFalsely : Prop := storeHoldsRow.holds Tryz.pinned (OpenSpec.ofChange storeHoldsWrong)

/-- 'tentertop.TopIndexed': WHATEVER THE INPUT: true; the input reads as it did. -/
def topIndexedSpec : ChangeSpec := { name := "topIndexed", fn := fun _ => fun
  | [d1, d2] => { results := [.lit (.bool true)], args := [d1, d2] }
  | _ => none }
def topIndexedRow : OpenClaim := { program := "ytfecljadegkmdaagreat", sum := "181be47b7ed9610835541dfb8ee56b23477438cac5ced35d770f52f43fbf331a", func := "tenter/tentertop.TopIndexed", spec := "topIndexed", inPlace := ["slices.overlaps[int]", "slices.overlaps[tenter/api.Order]"], unfollowed := true, recurses := true, plainKeys := false, apart := false }
def TopIndexedSaid : Prop := topIndexedRow.holds Tryz.pinned (OpenSpec.ofChange topIndexedSpec)

/-- ITS FALSE NEIGHBOUR: 'it returns false'. Refute it at one input. -/
def topIndexedWrong : ChangeSpec := { name := "topIndexed", fn := fun _ => fun
  | [d1, d2] => { results := [.lit (.bool false)], args := [d1, d2] }
  | _ => none }
def TopIndexedWrongFalsely : Prop := topIndexedRow.holds Tryz.pinned (OpenSpec.ofChange topIndexedWrong)

/- THE SECOND FORM. 'bulk': how many values and letters a reading holds, each counted each time it is reached (what is shared counts as often as it is met; a slice's spare places count too). A statement '..UptoSaid' is the law's where the arguments, and the package variables that the reading takes, are together of bulk at most 1048576: NARROWER than '..Said'. Prove '..Said' where nothing that the law and all that it calls make is longer than what came in: it says more and counts as full. Else prove '..UptoSaid'. A law counts once. -/
mutual
def uptoBulk {H : Type} : DataW H → Nat
  | .lit (.string bytes) => bytes.length + 1
  | .lit _ => 1
  | .nil => 1
  | .ptr d => uptoBulk d + 1
  | .slice elems spare => uptoBulkAll elems + uptoBulkAll spare + 1
  | .agg parts => uptoBulkAll parts + 1
  | .iface _ d => uptoBulk d + 1
  | .map entries => uptoBulkEntries entries + 1
  | .held _ => 1
def uptoBulkAll {H : Type} : List (DataW H) → Nat
  | [] => 0
  | d :: r => uptoBulk d + uptoBulkAll r
def uptoBulkEntries {H : Type} : List (Lit × DataW H) → Nat
  | [] => 0
  | x :: r => uptoBulkEntry x + uptoBulkEntries r
def uptoBulkEntry {H : Type} : Lit × DataW H → Nat
  | (.string bytes, d) => bytes.length + uptoBulk d + 1
  | (_, d) => uptoBulk d + 1
 end
def uptoSmall : (H : Type) → List (DataW H) → Bool := fun _ ds => decide (uptoBulkAll ds ≤ 1048576)
def OpenSpec.upto (s : _root_.Go.ChangeSpec) : _root_.Go.OpenSpec := { _root_.Go.OpenSpec.ofChange s with cond := some uptoSmall }

/-- 'tenterlaw15.StorePlays', WHERE WHAT IT READS IS OF BULK AT MOST 1048576: true; the input reads as it did. -/
def storePlaysUptoRow : OpenClaim := { program := "ytfecljadegkmdaagreat", sum := "181be47b7ed9610835541dfb8ee56b23477438cac5ced35d770f52f43fbf331a", func := "tenter/tenterlaw15.StorePlays", spec := "storePlays", unfollowed := true, recurses := true, plainKeys := false, apart := false, narrowed := true }
def StorePlaysUptoSaid : Prop := storePlaysUptoRow.holds Tryz.pinned (OpenSpec.upto storePlaysSpec)

/-- 'tenterlaw15.StoreStays', WHERE WHAT IT READS IS OF BULK AT MOST 1048576: true; the input reads as it did. -/
def storeStaysUptoRow : OpenClaim := { program := "ytfecljadegkmdaagreat", sum := "181be47b7ed9610835541dfb8ee56b23477438cac5ced35d770f52f43fbf331a", func := "tenter/tenterlaw15.StoreStays", spec := "storeStays", unfollowed := true, recurses := true, plainKeys := false, apart := false, narrowed := true }
def StoreStaysUptoSaid : Prop := storeStaysUptoRow.holds Tryz.pinned (OpenSpec.upto storeStaysSpec)

/-- 'tenterlaw15.StoreHolds', WHERE WHAT IT READS IS OF BULK AT MOST 1048576: true; the input reads as it did. -/
def storeHoldsUptoRow : OpenClaim := { program := "ytfecljadegkmdaagreat", sum := "181be47b7ed9610835541dfb8ee56b23477438cac5ced35d770f52f43fbf331a", func := "tenter/tenterlaw15.StoreHolds", spec := "storeHolds", unfollowed := true, recurses := true, plainKeys := false, apart := false, narrowed := true }
def StoreHoldsUptoSaid : Prop := storeHoldsUptoRow.holds Tryz.pinned (OpenSpec.upto storeHoldsSpec)

/-- 'tentertop.TopIndexed', WHERE WHAT IT READS IS OF BULK AT MOST 1048576: true; the input reads as it did. -/
def topIndexedUptoRow : OpenClaim := { program := "ytfecljadegkmdaagreat", sum := "181be47b7ed9610835541dfb8ee56b23477438cac5ced35d770f52f43fbf331a", func := "tenter/tentertop.TopIndexed", spec := "topIndexed", inPlace := ["slices.overlaps[int]", "slices.overlaps[tenter/api.Order]"], unfollowed := true, recurses := true, plainKeys := false, apart := false, narrowed := true }
def TopIndexedUptoSaid : Prop := topIndexedUptoRow.holds Tryz.pinned (OpenSpec.upto topIndexedSpec)

end Rows
end Go.Proofs.YtfecljadegkmdaaGreat
