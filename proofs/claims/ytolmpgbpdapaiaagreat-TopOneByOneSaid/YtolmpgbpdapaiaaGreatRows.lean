/-
  No cell of these rows narrows 'for every input' (looked for: loops, veiled, ifaces, maps, wideKeys, modest, calm, conditions, laid).
  DERIVED. THE GIVEN ROWS OF THIS SEAT. 4 by the template 'for every input the law returns true; each argument reads behind the call as it read before'; 0 by the template 'total and deterministic' (their statements: YtolmpgbpdapaiaaGreatTotals.lean).
  GIVEN WITH THE SEED: the statements are not yours to turn. If you find one false, say at which input.
  Laid BY PROGRAM, IN A SANDBOX (cutbox-rows.mjs): the forced cells as the released guide's own fill.sh prints them over the translation ec88fc9c96ca517d… (all of the seat's roots in one cut). By AI agents, Wed Nov 11 2026. No macro, syntax, notation, axiom, sorry.
-/
import Derived.Test.YtolmpgbpdapaiaaGreatChecked
import GoSem.Claim
import GoSem.ClaimJoined
import GoSem.ClaimMapViews
import Derived.JoinedTies
import Derived.KernelRfl
namespace Go.Proofs.YtolmpgbpdapaiaaGreat
/- THE CELL 'sum', in the pinned program and in every row, IS THE sha256 OF THE DUMP (.gsa) THAT YtolmpgbpdapaiaaGreatProg.lean LOADS. Nothing in Lean hashes anything: it is a label: what it is worth is what the hold of that sum in a sandbox is worth. -/
noncomputable def Tryz.pinned : Pinned := { name := "ytolmpgbpdapaiaagreat", sum := "ec88fc9c96ca517d121f6af20d3eedc94408f5fa9f06cf25b4d5e3fd1be51433", checked := Tryz.checked }
namespace Rows
def none {H : Type} : Left H := { results := [], args := [] }

/-- 'tentertop.TopFinal': WHATEVER THE INPUT: true; the input reads as it did. -/
def topFinalSpec : ChangeSpec := { name := "topFinal", fn := fun _ => fun
  | [d] => { results := [.lit (.bool true)], args := [d] }
  | _ => none }
def topFinalRow : OpenClaim := { program := "ytolmpgbpdapaiaagreat", sum := "ec88fc9c96ca517d121f6af20d3eedc94408f5fa9f06cf25b4d5e3fd1be51433", func := "tenter/tentertop.TopFinal", spec := "topFinal", inPlace := ["internal/abi.NoEscape", "internal/bytealg.MakeNoZero", "slices.overlaps[tenter/digraph.end]"], unfollowed := true, recurses := true, plainKeys := false, apart := false }
def TopFinalSaid : Prop := topFinalRow.holds Tryz.pinned (OpenSpec.ofChange topFinalSpec)

/-- ITS FALSE NEIGHBOUR: 'it returns false'. Refute it at one input. -/
def topFinalWrong : ChangeSpec := { name := "topFinal", fn := fun _ => fun
  | [d] => { results := [.lit (.bool false)], args := [d] }
  | _ => none }
def TopFinalWrongFalsely : Prop := topFinalRow.holds Tryz.pinned (OpenSpec.ofChange topFinalWrong)

/-- 'tentertop.TopOneByOne': WHATEVER THE INPUT: true; the input reads as it did. -/
def topOneByOneSpec : ChangeSpec := { name := "topOneByOne", fn := fun _ => fun
  | [d] => { results := [.lit (.bool true)], args := [d] }
  | _ => none }
def topOneByOneRow : OpenClaim := { program := "ytolmpgbpdapaiaagreat", sum := "ec88fc9c96ca517d121f6af20d3eedc94408f5fa9f06cf25b4d5e3fd1be51433", func := "tenter/tentertop.TopOneByOne", spec := "topOneByOne", inPlace := ["internal/abi.NoEscape", "internal/bytealg.MakeNoZero", "slices.overlaps[tenter/digraph.end]"], unfollowed := true, recurses := true, plainKeys := false, apart := false }
def TopOneByOneSaid : Prop := topOneByOneRow.holds Tryz.pinned (OpenSpec.ofChange topOneByOneSpec)

/-- ITS FALSE NEIGHBOUR: 'it returns false'. Refute it at one input. -/
def topOneByOneWrong : ChangeSpec := { name := "topOneByOne", fn := fun _ => fun
  | [d] => { results := [.lit (.bool false)], args := [d] }
  | _ => none }
def TopOneByOneWrongFalsely : Prop := topOneByOneRow.holds Tryz.pinned (OpenSpec.ofChange topOneByOneWrong)

/-- 'tentertop.TopCame': WHATEVER THE INPUT: true; the input reads as it did. -/
def topCameSpec : ChangeSpec := { name := "topCame", fn := fun _ => fun
  | [d1, d2] => { results := [.lit (.bool true)], args := [d1, d2] }
  | _ => none }
def topCameRow : OpenClaim := { program := "ytolmpgbpdapaiaagreat", sum := "ec88fc9c96ca517d121f6af20d3eedc94408f5fa9f06cf25b4d5e3fd1be51433", func := "tenter/tentertop.TopCame", spec := "topCame", inPlace := ["internal/abi.NoEscape", "internal/bytealg.MakeNoZero", "slices.overlaps[tenter/api.Tx]", "slices.overlaps[tenter/api.Order]", "slices.overlaps[tenter/digraph.end]"], unfollowed := true, recurses := true, plainKeys := false, apart := false }
def TopCameSaid : Prop := topCameRow.holds Tryz.pinned (OpenSpec.ofChange topCameSpec)

/-- ITS FALSE NEIGHBOUR: 'it returns false'. Refute it at one input. -/
def topCameWrong : ChangeSpec := { name := "topCame", fn := fun _ => fun
  | [d1, d2] => { results := [.lit (.bool false)], args := [d1, d2] }
  | _ => none }
def TopCameWrongFalsely : Prop := topCameRow.holds Tryz.pinned (OpenSpec.ofChange topCameWrong)

/-- 'tentertop.TopPassed': WHATEVER THE INPUT: true; the input reads as it did. -/
def topPassedSpec : ChangeSpec := { name := "topPassed", fn := fun _ => fun
  | [d1, d2, d3, d4] => { results := [.lit (.bool true)], args := [d1, d2, d3, d4] }
  | _ => none }
def topPassedRow : OpenClaim := { program := "ytolmpgbpdapaiaagreat", sum := "ec88fc9c96ca517d121f6af20d3eedc94408f5fa9f06cf25b4d5e3fd1be51433", func := "tenter/tentertop.TopPassed", spec := "topPassed", inPlace := ["internal/abi.NoEscape", "internal/bytealg.MakeNoZero", "slices.overlaps[tenter/api.Tx]", "slices.overlaps[tenter/api.Order]", "slices.overlaps[tenter/digraph.end]"], unfollowed := true, recurses := true, plainKeys := false, apart := false }
def TopPassedSaid : Prop := topPassedRow.holds Tryz.pinned (OpenSpec.ofChange topPassedSpec)

/-- ITS FALSE NEIGHBOUR: 'it returns false'. Refute it at one input. -/
def topPassedWrong : ChangeSpec := { name := "topPassed", fn := fun _ => fun
  | [d1, d2, d3, d4] => { results := [.lit (.bool false)], args := [d1, d2, d3, d4] }
  | _ => none }
def TopPassedWrongFalsely : Prop := topPassedRow.holds Tryz.pinned (OpenSpec.ofChange topPassedWrong)

/- THE SECOND FORM. 'bulk': how many values and letters a reading holds, each counted each time it is reached (what is shared counts as often as it is met; a slice's spare places count too). A statement '..UptoSaid' is the law's where the arguments, and the package variables that the reading takes, are together of bulk at most 1048576: NARROWER than '..Said'. Prove '..Said' where nothing that the law and all that it calls make is longer than what came in: it says more and counts as full. Else prove '..UptoSaid'. A law counts once. -/
mutual
def uptoBulk {H : Type} : DataW H → Nat
  | .lit (.string bytes) => bytes.length + 1
  | .lit _ => 1
  | .nil => 1
  | .ptr d => uptoBulk d + 1
  | .slice elems spare => uptoBulkAll elems + uptoBulkAll spare + 1
  | .agg parts => uptoBulkAll parts + 1
  | .iface _ d => uptoBulk d + 1
  | .map entries => uptoBulkEntries entries + 1
  | .held _ => 1
def uptoBulkAll {H : Type} : List (DataW H) → Nat
  | [] => 0
  | d :: r => uptoBulk d + uptoBulkAll r
def uptoBulkEntries {H : Type} : List (Lit × DataW H) → Nat
  | [] => 0
  | x :: r => uptoBulkEntry x + uptoBulkEntries r
def uptoBulkEntry {H : Type} : Lit × DataW H → Nat
  | (.string bytes, d) => bytes.length + uptoBulk d + 1
  | (_, d) => uptoBulk d + 1
 end
def uptoSmall : (H : Type) → List (DataW H) → Bool := fun _ ds => decide (uptoBulkAll ds ≤ 1048576)
def OpenSpec.upto (s : _root_.Go.ChangeSpec) : _root_.Go.OpenSpec := { _root_.Go.OpenSpec.ofChange s with cond := some uptoSmall }

/-- 'tentertop.TopFinal', WHERE WHAT IT READS IS OF BULK AT MOST 1048576: true; the input reads as it did. -/
def topFinalUptoRow : OpenClaim := { program := "ytolmpgbpdapaiaagreat", sum := "ec88fc9c96ca517d121f6af20d3eedc94408f5fa9f06cf25b4d5e3fd1be51433", func := "tenter/tentertop.TopFinal", spec := "topFinal", inPlace := ["internal/abi.NoEscape", "internal/bytealg.MakeNoZero", "slices.overlaps[tenter/digraph.end]"], unfollowed := true, recurses := true, plainKeys := false, apart := false, narrowed := true }
def TopFinalUptoSaid : Prop := topFinalUptoRow.holds Tryz.pinned (OpenSpec.upto topFinalSpec)

/-- 'tentertop.TopOneByOne', WHERE WHAT IT READS IS OF BULK AT MOST 1048576: true; the input reads as it did. -/
def topOneByOneUptoRow : OpenClaim := { program := "ytolmpgbpdapaiaagreat", sum := "ec88fc9c96ca517d121f6af20d3eedc94408f5fa9f06cf25b4d5e3fd1be51433", func := "tenter/tentertop.TopOneByOne", spec := "topOneByOne", inPlace := ["internal/abi.NoEscape", "internal/bytealg.MakeNoZero", "slices.overlaps[tenter/digraph.end]"], unfollowed := true, recurses := true, plainKeys := false, apart := false, narrowed := true }
def TopOneByOneUptoSaid : Prop := topOneByOneUptoRow.holds Tryz.pinned (OpenSpec.upto topOneByOneSpec)

/-- 'tentertop.TopCame', WHERE WHAT IT READS IS OF BULK AT MOST 1048576: true; the input reads as it did. -/
def topCameUptoRow : OpenClaim := { program := "ytolmpgbpdapaiaagreat", sum := "ec88fc9c96ca517d121f6af20d3eedc94408f5fa9f06cf25b4d5e3fd1be51433", func := "tenter/tentertop.TopCame", spec := "topCame", inPlace := ["internal/abi.NoEscape", "internal/bytealg.MakeNoZero", "slices.overlaps[tenter/api.Tx]", "slices.overlaps[tenter/api.Order]", "slices.overlaps[tenter/digraph.end]"], unfollowed := true, recurses := true, plainKeys := false, apart := false, narrowed := true }
def TopCameUptoSaid : Prop := topCameUptoRow.holds Tryz.pinned (OpenSpec.upto topCameSpec)

/-- 'tentertop.TopPassed', WHERE WHAT IT READS IS OF BULK AT MOST 1048576: true; the input reads as it did. -/
def topPassedUptoRow : OpenClaim := { program := "ytolmpgbpdapaiaagreat", sum := "ec88fc9c96ca517d121f6af20d3eedc94408f5fa9f06cf25b4d5e3fd1be51433", func := "tenter/tentertop.TopPassed", spec := "topPassed", inPlace := ["internal/abi.NoEscape", "internal/bytealg.MakeNoZero", "slices.overlaps[tenter/api.Tx]", "slices.overlaps[tenter/api.Order]", "slices.overlaps[tenter/digraph.end]"], unfollowed := true, recurses := true, plainKeys := false, apart := false, narrowed := true }
def TopPassedUptoSaid : Prop := topPassedUptoRow.holds Tryz.pinned (OpenSpec.upto topPassedSpec)

end Rows
end Go.Proofs.YtolmpgbpdapaiaaGreat
