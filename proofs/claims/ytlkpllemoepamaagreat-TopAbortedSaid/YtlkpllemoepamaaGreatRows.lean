/-
  No cell of these rows narrows 'for every input' (looked for: loops, veiled, ifaces, maps, wideKeys, modest, calm, conditions, laid).
  DERIVED. THE GIVEN ROWS OF THIS SEAT. 7 by the template 'for every input the law returns true; each argument reads behind the call as it read before'; 0 by the template 'total and deterministic' (their statements: YtlkpllemoepamaaGreatTotals.lean).
  GIVEN WITH THE SEED: the statements are not yours to turn. If you find one false, say at which input.
  Laid BY PROGRAM, IN A SANDBOX (cutbox-rows.mjs): the forced cells as the released guide's own fill.sh prints them over the translation 67d56d5383df9148… (all of the seat's roots in one cut). By AI agents, Wed Nov 11 2026. No macro, syntax, notation, axiom, sorry.
-/
import Derived.Test.YtlkpllemoepamaaGreatChecked
import GoSem.Claim
import GoSem.ClaimJoined
import GoSem.ClaimMapViews
import Derived.JoinedTies
import Derived.KernelRfl
namespace Go.Proofs.YtlkpllemoepamaaGreat
/- THE CELL 'sum', in the pinned program and in every row, IS THE sha256 OF THE DUMP (.gsa) THAT YtlkpllemoepamaaGreatProg.lean LOADS. Nothing in Lean hashes anything: it is a label: what it is worth is what the hold of that sum in a sandbox is worth. -/
noncomputable def Tryz.pinned : Pinned := { name := "ytlkpllemoepamaagreat", sum := "67d56d5383df914829c5e5cedf45725d5a46c20856cf494a06450995cb549f7d", checked := Tryz.checked }
namespace Rows
def none {H : Type} : Left H := { results := [], args := [] }

/-- 'tentertop.TopLengths': WHATEVER THE INPUT: true; the input reads as it did. -/
def topLengthsSpec : ChangeSpec := { name := "topLengths", fn := fun _ => fun
  | [d] => { results := [.lit (.bool true)], args := [d] }
  | _ => none }
def topLengthsRow : OpenClaim := { program := "ytlkpllemoepamaagreat", sum := "67d56d5383df914829c5e5cedf45725d5a46c20856cf494a06450995cb549f7d", func := "tenter/tentertop.TopLengths", spec := "topLengths", inPlace := ["slices.overlaps[tenter/digraph.end]", "internal/abi.NoEscape"], unfollowed := true, recurses := true, plainKeys := false, apart := false }
def TopLengthsSaid : Prop := topLengthsRow.holds Tryz.pinned (OpenSpec.ofChange topLengthsSpec)

/-- ITS FALSE NEIGHBOUR: 'it returns false'. Refute it at one input. -/
def topLengthsWrong : ChangeSpec := { name := "topLengths", fn := fun _ => fun
  | [d] => { results := [.lit (.bool false)], args := [d] }
  | _ => none }
def TopLengthsWrongFalsely : Prop := topLengthsRow.holds Tryz.pinned (OpenSpec.ofChange topLengthsWrong)

/-- 'tentertop.TopBoth': WHATEVER THE INPUT: true; the input reads as it did. -/
def topBothSpec : ChangeSpec := { name := "topBoth", fn := fun _ => fun
  | [d1, d2] => { results := [.lit (.bool true)], args := [d1, d2] }
  | _ => none }
def topBothRow : OpenClaim := { program := "ytlkpllemoepamaagreat", sum := "67d56d5383df914829c5e5cedf45725d5a46c20856cf494a06450995cb549f7d", func := "tenter/tentertop.TopBoth", spec := "topBoth", inPlace := ["slices.overlaps[tenter/digraph.end]", "internal/abi.NoEscape"], unfollowed := true, recurses := true, plainKeys := false, apart := false }
def TopBothSaid : Prop := topBothRow.holds Tryz.pinned (OpenSpec.ofChange topBothSpec)

/-- ITS FALSE NEIGHBOUR: 'it returns false'. Refute it at one input. -/
def topBothWrong : ChangeSpec := { name := "topBoth", fn := fun _ => fun
  | [d1, d2] => { results := [.lit (.bool false)], args := [d1, d2] }
  | _ => none }
def TopBothWrongFalsely : Prop := topBothRow.holds Tryz.pinned (OpenSpec.ofChange topBothWrong)

/-- 'tentertop.TopSame': WHATEVER THE INPUT: true; the input reads as it did. -/
def topSameSpec : ChangeSpec := { name := "topSame", fn := fun _ => fun
  | [d1, d2, d3, d4] => { results := [.lit (.bool true)], args := [d1, d2, d3, d4] }
  | _ => none }
def topSameRow : OpenClaim := { program := "ytlkpllemoepamaagreat", sum := "67d56d5383df914829c5e5cedf45725d5a46c20856cf494a06450995cb549f7d", func := "tenter/tentertop.TopSame", spec := "topSame", inPlace := ["slices.overlaps[tenter/digraph.end]", "internal/abi.NoEscape"], unfollowed := true, recurses := true, plainKeys := false, apart := false }
def TopSameSaid : Prop := topSameRow.holds Tryz.pinned (OpenSpec.ofChange topSameSpec)

/-- ITS FALSE NEIGHBOUR: 'it returns false'. Refute it at one input. -/
def topSameWrong : ChangeSpec := { name := "topSame", fn := fun _ => fun
  | [d1, d2, d3, d4] => { results := [.lit (.bool false)], args := [d1, d2, d3, d4] }
  | _ => none }
def TopSameWrongFalsely : Prop := topSameRow.holds Tryz.pinned (OpenSpec.ofChange topSameWrong)

/-- 'tentertop.TopIdle': WHATEVER THE INPUT: true; the input reads as it did. -/
def topIdleSpec : ChangeSpec := { name := "topIdle", fn := fun _ => fun
  | [d1, d2] => { results := [.lit (.bool true)], args := [d1, d2] }
  | _ => none }
def topIdleRow : OpenClaim := { program := "ytlkpllemoepamaagreat", sum := "67d56d5383df914829c5e5cedf45725d5a46c20856cf494a06450995cb549f7d", func := "tenter/tentertop.TopIdle", spec := "topIdle", inPlace := ["slices.overlaps[tenter/digraph.end]", "internal/abi.NoEscape", "slices.overlaps[tenter/api.Tx]", "slices.overlaps[tenter/api.Order]"], unfollowed := true, recurses := true, plainKeys := false, apart := false }
def TopIdleSaid : Prop := topIdleRow.holds Tryz.pinned (OpenSpec.ofChange topIdleSpec)

/-- ITS FALSE NEIGHBOUR: 'it returns false'. Refute it at one input. -/
def topIdleWrong : ChangeSpec := { name := "topIdle", fn := fun _ => fun
  | [d1, d2] => { results := [.lit (.bool false)], args := [d1, d2] }
  | _ => none }
def TopIdleWrongFalsely : Prop := topIdleRow.holds Tryz.pinned (OpenSpec.ofChange topIdleWrong)

/-- 'tentertop.TopNewest': WHATEVER THE INPUT: true; the input reads as it did. -/
def topNewestSpec : ChangeSpec := { name := "topNewest", fn := fun _ => fun
  | [d1, d2, d3] => { results := [.lit (.bool true)], args := [d1, d2, d3] }
  | _ => none }
def topNewestRow : OpenClaim := { program := "ytlkpllemoepamaagreat", sum := "67d56d5383df914829c5e5cedf45725d5a46c20856cf494a06450995cb549f7d", func := "tenter/tentertop.TopNewest", spec := "topNewest", inPlace := ["slices.overlaps[tenter/digraph.end]", "internal/abi.NoEscape", "slices.overlaps[tenter/api.Tx]", "slices.overlaps[tenter/api.Order]"], unfollowed := true, recurses := true, plainKeys := false, apart := false }
def TopNewestSaid : Prop := topNewestRow.holds Tryz.pinned (OpenSpec.ofChange topNewestSpec)

/-- ITS FALSE NEIGHBOUR: 'it returns false'. Refute it at one input. -/
def topNewestWrong : ChangeSpec := { name := "topNewest", fn := fun _ => fun
  | [d1, d2, d3] => { results := [.lit (.bool false)], args := [d1, d2, d3] }
  | _ => none }
def TopNewestWrongFalsely : Prop := topNewestRow.holds Tryz.pinned (OpenSpec.ofChange topNewestWrong)

/-- 'tentertop.TopGone': WHATEVER THE INPUT: true; the input reads as it did. -/
def topGoneSpec : ChangeSpec := { name := "topGone", fn := fun _ => fun
  | [d1, d2] => { results := [.lit (.bool true)], args := [d1, d2] }
  | _ => none }
def topGoneRow : OpenClaim := { program := "ytlkpllemoepamaagreat", sum := "67d56d5383df914829c5e5cedf45725d5a46c20856cf494a06450995cb549f7d", func := "tenter/tentertop.TopGone", spec := "topGone", inPlace := ["slices.overlaps[tenter/digraph.end]", "internal/abi.NoEscape", "slices.overlaps[tenter/api.Order]"], unfollowed := true, recurses := true, plainKeys := false, apart := false }
def TopGoneSaid : Prop := topGoneRow.holds Tryz.pinned (OpenSpec.ofChange topGoneSpec)

/-- ITS FALSE NEIGHBOUR: 'it returns false'. Refute it at one input. -/
def topGoneWrong : ChangeSpec := { name := "topGone", fn := fun _ => fun
  | [d1, d2] => { results := [.lit (.bool false)], args := [d1, d2] }
  | _ => none }
def TopGoneWrongFalsely : Prop := topGoneRow.holds Tryz.pinned (OpenSpec.ofChange topGoneWrong)

/-- 'tentertop.TopAborted': WHATEVER THE INPUT: true; the input reads as it did. -/
def topAbortedSpec : ChangeSpec := { name := "topAborted", fn := fun _ => fun
  | [d1, d2] => { results := [.lit (.bool true)], args := [d1, d2] }
  | _ => none }
def topAbortedRow : OpenClaim := { program := "ytlkpllemoepamaagreat", sum := "67d56d5383df914829c5e5cedf45725d5a46c20856cf494a06450995cb549f7d", func := "tenter/tentertop.TopAborted", spec := "topAborted", inPlace := ["slices.overlaps[tenter/digraph.end]", "internal/abi.NoEscape", "slices.overlaps[tenter/api.Order]"], unfollowed := true, recurses := true, plainKeys := false, apart := false }
def TopAbortedSaid : Prop := topAbortedRow.holds Tryz.pinned (OpenSpec.ofChange topAbortedSpec)

/-- ITS FALSE NEIGHBOUR: 'it returns false'. Refute it at one input. -/
def topAbortedWrong : ChangeSpec := { name := "topAborted", fn := fun _ => fun
  | [d1, d2] => { results := [.lit (.bool false)], args := [d1, d2] }
  | _ => none }
def TopAbortedWrongFalsely : Prop := topAbortedRow.holds Tryz.pinned (OpenSpec.ofChange topAbortedWrong)

/- THE SECOND FORM. 'bulk': how many values and letters a reading holds, each counted each time it is reached (what is shared counts as often as it is met; a slice's spare places count too). A statement '..UptoSaid' is the law's where the arguments, and the package variables that the reading takes, are together of bulk at most 1048576: NARROWER than '..Said'. Prove '..Said' where nothing that the law and all that it calls make is longer than what came in: it says more and counts as full. Else prove '..UptoSaid'. A law counts once. -/
mutual
def uptoBulk {H : Type} : DataW H → Nat
  | .lit (.string bytes) => bytes.length + 1
  | .lit _ => 1
  | .nil => 1
  | .ptr d => uptoBulk d + 1
  | .slice elems spare => uptoBulkAll elems + uptoBulkAll spare + 1
  | .agg parts => uptoBulkAll parts + 1
  | .iface _ d => uptoBulk d + 1
  | .map entries => uptoBulkEntries entries + 1
  | .held _ => 1
def uptoBulkAll {H : Type} : List (DataW H) → Nat
  | [] => 0
  | d :: r => uptoBulk d + uptoBulkAll r
def uptoBulkEntries {H : Type} : List (Lit × DataW H) → Nat
  | [] => 0
  | x :: r => uptoBulkEntry x + uptoBulkEntries r
def uptoBulkEntry {H : Type} : Lit × DataW H → Nat
  | (.string bytes, d) => bytes.length + uptoBulk d + 1
  | (_, d) => uptoBulk d + 1
 end
def uptoSmall : (H : Type) → List (DataW H) → Bool := fun _ ds => decide (uptoBulkAll ds ≤ 1048576)
def OpenSpec.upto (s : _root_.Go.ChangeSpec) : _root_.Go.OpenSpec := { _root_.Go.OpenSpec.ofChange s with cond := some uptoSmall }

/-- 'tentertop.TopLengths', WHERE WHAT IT READS IS OF BULK AT MOST 1048576: true; the input reads as it did. -/
def topLengthsUptoRow : OpenClaim := { program := "ytlkpllemoepamaagreat", sum := "67d56d5383df914829c5e5cedf45725d5a46c20856cf494a06450995cb549f7d", func := "tenter/tentertop.TopLengths", spec := "topLengths", inPlace := ["slices.overlaps[tenter/digraph.end]", "internal/abi.NoEscape"], unfollowed := true, recurses := true, plainKeys := false, apart := false, narrowed := true }
def TopLengthsUptoSaid : Prop := topLengthsUptoRow.holds Tryz.pinned (OpenSpec.upto topLengthsSpec)

/-- 'tentertop.TopBoth', WHERE WHAT IT READS IS OF BULK AT MOST 1048576: true; the input reads as it did. -/
def topBothUptoRow : OpenClaim := { program := "ytlkpllemoepamaagreat", sum := "67d56d5383df914829c5e5cedf45725d5a46c20856cf494a06450995cb549f7d", func := "tenter/tentertop.TopBoth", spec := "topBoth", inPlace := ["slices.overlaps[tenter/digraph.end]", "internal/abi.NoEscape"], unfollowed := true, recurses := true, plainKeys := false, apart := false, narrowed := true }
def TopBothUptoSaid : Prop := topBothUptoRow.holds Tryz.pinned (OpenSpec.upto topBothSpec)

/-- 'tentertop.TopSame', WHERE WHAT IT READS IS OF BULK AT MOST 1048576: true; the input reads as it did. -/
def topSameUptoRow : OpenClaim := { program := "ytlkpllemoepamaagreat", sum := "67d56d5383df914829c5e5cedf45725d5a46c20856cf494a06450995cb549f7d", func := "tenter/tentertop.TopSame", spec := "topSame", inPlace := ["slices.overlaps[tenter/digraph.end]", "internal/abi.NoEscape"], unfollowed := true, recurses := true, plainKeys := false, apart := false, narrowed := true }
def TopSameUptoSaid : Prop := topSameUptoRow.holds Tryz.pinned (OpenSpec.upto topSameSpec)

/-- 'tentertop.TopIdle', WHERE WHAT IT READS IS OF BULK AT MOST 1048576: true; the input reads as it did. -/
def topIdleUptoRow : OpenClaim := { program := "ytlkpllemoepamaagreat", sum := "67d56d5383df914829c5e5cedf45725d5a46c20856cf494a06450995cb549f7d", func := "tenter/tentertop.TopIdle", spec := "topIdle", inPlace := ["slices.overlaps[tenter/digraph.end]", "internal/abi.NoEscape", "slices.overlaps[tenter/api.Tx]", "slices.overlaps[tenter/api.Order]"], unfollowed := true, recurses := true, plainKeys := false, apart := false, narrowed := true }
def TopIdleUptoSaid : Prop := topIdleUptoRow.holds Tryz.pinned (OpenSpec.upto topIdleSpec)

/-- 'tentertop.TopNewest', WHERE WHAT IT READS IS OF BULK AT MOST 1048576: true; the input reads as it did. -/
def topNewestUptoRow : OpenClaim := { program := "ytlkpllemoepamaagreat", sum := "67d56d5383df914829c5e5cedf45725d5a46c20856cf494a06450995cb549f7d", func := "tenter/tentertop.TopNewest", spec := "topNewest", inPlace := ["slices.overlaps[tenter/digraph.end]", "internal/abi.NoEscape", "slices.overlaps[tenter/api.Tx]", "slices.overlaps[tenter/api.Order]"], unfollowed := true, recurses := true, plainKeys := false, apart := false, narrowed := true }
def TopNewestUptoSaid : Prop := topNewestUptoRow.holds Tryz.pinned (OpenSpec.upto topNewestSpec)

/-- 'tentertop.TopGone', WHERE WHAT IT READS IS OF BULK AT MOST 1048576: true; the input reads as it did. -/
def topGoneUptoRow : OpenClaim := { program := "ytlkpllemoepamaagreat", sum := "67d56d5383df914829c5e5cedf45725d5a46c20856cf494a06450995cb549f7d", func := "tenter/tentertop.TopGone", spec := "topGone", inPlace := ["slices.overlaps[tenter/digraph.end]", "internal/abi.NoEscape", "slices.overlaps[tenter/api.Order]"], unfollowed := true, recurses := true, plainKeys := false, apart := false, narrowed := true }
def TopGoneUptoSaid : Prop := topGoneUptoRow.holds Tryz.pinned (OpenSpec.upto topGoneSpec)

/-- 'tentertop.TopAborted', WHERE WHAT IT READS IS OF BULK AT MOST 1048576: true; the input reads as it did. -/
def topAbortedUptoRow : OpenClaim := { program := "ytlkpllemoepamaagreat", sum := "67d56d5383df914829c5e5cedf45725d5a46c20856cf494a06450995cb549f7d", func := "tenter/tentertop.TopAborted", spec := "topAborted", inPlace := ["slices.overlaps[tenter/digraph.end]", "internal/abi.NoEscape", "slices.overlaps[tenter/api.Order]"], unfollowed := true, recurses := true, plainKeys := false, apart := false, narrowed := true }
def TopAbortedUptoSaid : Prop := topAbortedUptoRow.holds Tryz.pinned (OpenSpec.upto topAbortedSpec)

end Rows
end Go.Proofs.YtlkpllemoepamaaGreat
