/-
  No cell of these rows narrows 'for every input' (looked for: loops, veiled, ifaces, maps, wideKeys, modest, calm, conditions, laid).
  DERIVED. THE GIVEN ROWS OF THIS SEAT. 7 by the template 'for every input the law returns true; each argument reads behind the call as it read before'; 0 by the template 'total and deterministic' (their statements: YtpjjmolibanakaaTotals.lean).
  GIVEN WITH THE SEED: the statements are not yours to turn. If you find one false, say at which input.
  Laid BY PROGRAM, IN A SANDBOX (cutbox-rows.mjs): the forced cells as the released guide's own fill.sh prints them over the translation d09360f28fff1811… (all of the seat's roots in one cut). By AI agents, Wed Nov 11 2026. No macro, syntax, notation, axiom, sorry.
-/
import Derived.Test.YtpjjmolibanakaaChecked
import GoSem.Claim
import GoSem.ClaimJoined
import GoSem.ClaimMapViews
import Derived.JoinedTies
import Derived.KernelRfl
namespace Go.Proofs.Ytpjjmolibanakaa
/- THE CELL 'sum', in the pinned program and in every row, IS THE sha256 OF THE DUMP (.gsa) THAT YtpjjmolibanakaaProg.lean LOADS. Nothing in Lean hashes anything: it is a label: what it is worth is what the hold of that sum in a sandbox is worth. -/
noncomputable def Try.pinned : Pinned := { name := "ytpjjmolibanakaa", sum := "d09360f28fff1811424d57c035d8f17bcc670ac7df8647dcc8782b9902f09c10", checked := Try.checked }
namespace Rows
def none {H : Type} : Left H := { results := [], args := [] }

/-- 'tenterlaw02.PackSorts': WHATEVER THE INPUT: true; the input reads as it did. -/
def packSortsSpec : ChangeSpec := { name := "packSorts", fn := fun _ => fun
  | [d1, d2, d3] => { results := [.lit (.bool true)], args := [d1, d2, d3] }
  | _ => none }
def packSortsRow : OpenClaim := { program := "ytpjjmolibanakaa", sum := "d09360f28fff1811424d57c035d8f17bcc670ac7df8647dcc8782b9902f09c10", func := "tenter/tenterlaw02.PackSorts", spec := "packSorts", unfollowed := true, recurses := true, plainKeys := false, apart := false }
def PackSortsSaid : Prop := packSortsRow.holds Try.pinned (OpenSpec.ofChange packSortsSpec)

/-- ITS FALSE NEIGHBOUR: 'it returns false'. Refute it at one input. -/
def packSortsWrong : ChangeSpec := { name := "packSorts", fn := fun _ => fun
  | [d1, d2, d3] => { results := [.lit (.bool false)], args := [d1, d2, d3] }
  | _ => none }
def PackSortsWrongFalsely : Prop := packSortsRow.holds Try.pinned (OpenSpec.ofChange packSortsWrong)

/-- 'tenterlaw11.OrderTells': WHATEVER THE INPUT: true; the input reads as it did. -/
def orderTellsSpec : ChangeSpec := { name := "orderTells", fn := fun _ => fun
  | [d1, d2, d3, d4] => { results := [.lit (.bool true)], args := [d1, d2, d3, d4] }
  | _ => none }
def orderTellsRow : OpenClaim := { program := "ytpjjmolibanakaa", sum := "d09360f28fff1811424d57c035d8f17bcc670ac7df8647dcc8782b9902f09c10", func := "tenter/tenterlaw11.OrderTells", spec := "orderTells", unfollowed := true, recurses := true, plainKeys := false, apart := false }
def OrderTellsSaid : Prop := orderTellsRow.holds Try.pinned (OpenSpec.ofChange orderTellsSpec)

/-- ITS FALSE NEIGHBOUR: 'it returns false'. Refute it at one input. -/
def orderTellsWrong : ChangeSpec := { name := "orderTells", fn := fun _ => fun
  | [d1, d2, d3, d4] => { results := [.lit (.bool false)], args := [d1, d2, d3, d4] }
  | _ => none }
def OrderTellsWrongFalsely : Prop := orderTellsRow.holds Try.pinned (OpenSpec.ofChange orderTellsWrong)

/-- 'tenterlaw11.OrderMoves': WHATEVER THE INPUT: true; the input reads as it did. -/
def orderMovesSpec : ChangeSpec := { name := "orderMoves", fn := fun _ => fun
  | [d1, d2] => { results := [.lit (.bool true)], args := [d1, d2] }
  | _ => none }
def orderMovesRow : OpenClaim := { program := "ytpjjmolibanakaa", sum := "d09360f28fff1811424d57c035d8f17bcc670ac7df8647dcc8782b9902f09c10", func := "tenter/tenterlaw11.OrderMoves", spec := "orderMoves", unfollowed := true, recurses := true, plainKeys := false, apart := false }
def OrderMovesSaid : Prop := orderMovesRow.holds Try.pinned (OpenSpec.ofChange orderMovesSpec)

/-- ITS FALSE NEIGHBOUR: 'it returns false'. Refute it at one input. -/
def orderMovesWrong : ChangeSpec := { name := "orderMoves", fn := fun _ => fun
  | [d1, d2] => { results := [.lit (.bool false)], args := [d1, d2] }
  | _ => none }
def OrderMovesWrongFalsely : Prop := orderMovesRow.holds Try.pinned (OpenSpec.ofChange orderMovesWrong)

/-- 'tenterlaw11.OrderNext': WHATEVER THE INPUT: true; the input reads as it did. -/
def orderNextSpec : ChangeSpec := { name := "orderNext", fn := fun _ => fun
  | [d] => { results := [.lit (.bool true)], args := [d] }
  | _ => none }
def orderNextRow : OpenClaim := { program := "ytpjjmolibanakaa", sum := "d09360f28fff1811424d57c035d8f17bcc670ac7df8647dcc8782b9902f09c10", func := "tenter/tenterlaw11.OrderNext", spec := "orderNext", unfollowed := true, recurses := true, plainKeys := false, apart := false }
def OrderNextSaid : Prop := orderNextRow.holds Try.pinned (OpenSpec.ofChange orderNextSpec)

/-- ITS FALSE NEIGHBOUR: 'it returns false'. Refute it at one input. -/
def orderNextWrong : ChangeSpec := { name := "orderNext", fn := fun _ => fun
  | [d] => { results := [.lit (.bool false)], args := [d] }
  | _ => none }
def OrderNextWrongFalsely : Prop := orderNextRow.holds Try.pinned (OpenSpec.ofChange orderNextWrong)

/-- 'tenterlaw10.TxnTells': WHATEVER THE INPUT: true; the input reads as it did. -/
def txnTellsSpec : ChangeSpec := { name := "txnTells", fn := fun _ => fun
  | [d1, d2, d3] => { results := [.lit (.bool true)], args := [d1, d2, d3] }
  | _ => none }
def txnTellsRow : OpenClaim := { program := "ytpjjmolibanakaa", sum := "d09360f28fff1811424d57c035d8f17bcc670ac7df8647dcc8782b9902f09c10", func := "tenter/tenterlaw10.TxnTells", spec := "txnTells", inPlace := ["internal/abi.NoEscape"], unfollowed := true, recurses := true, plainKeys := false, apart := false }
def TxnTellsSaid : Prop := txnTellsRow.holds Try.pinned (OpenSpec.ofChange txnTellsSpec)

/-- ITS FALSE NEIGHBOUR: 'it returns false'. Refute it at one input. -/
def txnTellsWrong : ChangeSpec := { name := "txnTells", fn := fun _ => fun
  | [d1, d2, d3] => { results := [.lit (.bool false)], args := [d1, d2, d3] }
  | _ => none }
def TxnTellsWrongFalsely : Prop := txnTellsRow.holds Try.pinned (OpenSpec.ofChange txnTellsWrong)

/-- 'tenterlaw10.TxnBare': WHATEVER THE INPUT: true; the input reads as it did. -/
def txnBareSpec : ChangeSpec := { name := "txnBare", fn := fun _ => fun
  | [d1, d2] => { results := [.lit (.bool true)], args := [d1, d2] }
  | _ => none }
def txnBareRow : OpenClaim := { program := "ytpjjmolibanakaa", sum := "d09360f28fff1811424d57c035d8f17bcc670ac7df8647dcc8782b9902f09c10", func := "tenter/tenterlaw10.TxnBare", spec := "txnBare", inPlace := ["internal/abi.NoEscape"], unfollowed := true, recurses := true, plainKeys := false, apart := false }
def TxnBareSaid : Prop := txnBareRow.holds Try.pinned (OpenSpec.ofChange txnBareSpec)

/-- ITS FALSE NEIGHBOUR: 'it returns false'. Refute it at one input. -/
def txnBareWrong : ChangeSpec := { name := "txnBare", fn := fun _ => fun
  | [d1, d2] => { results := [.lit (.bool false)], args := [d1, d2] }
  | _ => none }
def TxnBareWrongFalsely : Prop := txnBareRow.holds Try.pinned (OpenSpec.ofChange txnBareWrong)

/-- 'tenterlaw18.OffendTells': WHATEVER THE INPUT: true; the input reads as it did. -/
def offendTellsSpec : ChangeSpec := { name := "offendTells", fn := fun _ => fun
  | [d1, d2, d3, d4, d5] => { results := [.lit (.bool true)], args := [d1, d2, d3, d4, d5] }
  | _ => none }
def offendTellsRow : OpenClaim := { program := "ytpjjmolibanakaa", sum := "d09360f28fff1811424d57c035d8f17bcc670ac7df8647dcc8782b9902f09c10", func := "tenter/tenterlaw18.OffendTells", spec := "offendTells", unfollowed := true, recurses := true, plainKeys := false, apart := false }
def OffendTellsSaid : Prop := offendTellsRow.holds Try.pinned (OpenSpec.ofChange offendTellsSpec)

/-- ITS FALSE NEIGHBOUR: 'it returns false'. Refute it at one input. -/
def offendTellsWrong : ChangeSpec := { name := "offendTells", fn := fun _ => fun
  | [d1, d2, d3, d4, d5] => { results := [.lit (.bool false)], args := [d1, d2, d3, d4, d5] }
  | _ => none }
def OffendTellsWrongFalsely : Prop := offendTellsRow.holds Try.pinned (OpenSpec.ofChange offendTellsWrong)

/- THE SECOND FORM. 'bulk': how many values and letters a reading holds, each counted each time it is reached (what is shared counts as often as it is met; a slice's spare places count too). A statement '..UptoSaid' is the law's where the arguments, and the package variables that the reading takes, are together of bulk at most 1048576: NARROWER than '..Said'. Prove '..Said' where nothing that the law and all that it calls make is longer than what came in: it says more and counts as full. Else prove '..UptoSaid'. A law counts once. -/
mutual
def uptoBulk {H : Type} : DataW H → Nat
  | .lit (.string bytes) => bytes.length + 1
  | .lit _ => 1
  | .nil => 1
  | .ptr d => uptoBulk d + 1
  | .slice elems spare => uptoBulkAll elems + uptoBulkAll spare + 1
  | .agg parts => uptoBulkAll parts + 1
  | .iface _ d => uptoBulk d + 1
  | .map entries => uptoBulkEntries entries + 1
  | .held _ => 1
def uptoBulkAll {H : Type} : List (DataW H) → Nat
  | [] => 0
  | d :: r => uptoBulk d + uptoBulkAll r
def uptoBulkEntries {H : Type} : List (Lit × DataW H) → Nat
  | [] => 0
  | x :: r => uptoBulkEntry x + uptoBulkEntries r
def uptoBulkEntry {H : Type} : Lit × DataW H → Nat
  | (.string bytes, d) => bytes.length + uptoBulk d + 1
  | (_, d) => uptoBulk d + 1
 end
def uptoSmall : (H : Type) → List (DataW H) → Bool := fun _ ds => decide (uptoBulkAll ds ≤ 1048576)
def OpenSpec.upto (s : _root_.Go.ChangeSpec) : _root_.Go.OpenSpec := { _root_.Go.OpenSpec.ofChange s with cond := some uptoSmall }

/-- 'tenterlaw02.PackSorts', WHERE WHAT IT READS IS OF BULK AT MOST 1048576: true; the input reads as it did. -/
def packSortsUptoRow : OpenClaim := { program := "ytpjjmolibanakaa", sum := "d09360f28fff1811424d57c035d8f17bcc670ac7df8647dcc8782b9902f09c10", func := "tenter/tenterlaw02.PackSorts", spec := "packSorts", unfollowed := true, recurses := true, plainKeys := false, apart := false, narrowed := true }
def PackSortsUptoSaid : Prop := packSortsUptoRow.holds Try.pinned (OpenSpec.upto packSortsSpec)

/-- 'tenterlaw11.OrderTells', WHERE WHAT IT READS IS OF BULK AT MOST 1048576: true; the input reads as it did. -/
def orderTellsUptoRow : OpenClaim := { program := "ytpjjmolibanakaa", sum := "d09360f28fff1811424d57c035d8f17bcc670ac7df8647dcc8782b9902f09c10", func := "tenter/tenterlaw11.OrderTells", spec := "orderTells", unfollowed := true, recurses := true, plainKeys := false, apart := false, narrowed := true }
def OrderTellsUptoSaid : Prop := orderTellsUptoRow.holds Try.pinned (OpenSpec.upto orderTellsSpec)

/-- 'tenterlaw11.OrderMoves', WHERE WHAT IT READS IS OF BULK AT MOST 1048576: true; the input reads as it did. -/
def orderMovesUptoRow : OpenClaim := { program := "ytpjjmolibanakaa", sum := "d09360f28fff1811424d57c035d8f17bcc670ac7df8647dcc8782b9902f09c10", func := "tenter/tenterlaw11.OrderMoves", spec := "orderMoves", unfollowed := true, recurses := true, plainKeys := false, apart := false, narrowed := true }
def OrderMovesUptoSaid : Prop := orderMovesUptoRow.holds Try.pinned (OpenSpec.upto orderMovesSpec)

/-- 'tenterlaw11.OrderNext', WHERE WHAT IT READS IS OF BULK AT MOST 1048576: true; the input reads as it did. -/
def orderNextUptoRow : OpenClaim := { program := "ytpjjmolibanakaa", sum := "d09360f28fff1811424d57c035d8f17bcc670ac7df8647dcc8782b9902f09c10", func := "tenter/tenterlaw11.OrderNext", spec := "orderNext", unfollowed := true, recurses := true, plainKeys := false, apart := false, narrowed := true }
def OrderNextUptoSaid : Prop := orderNextUptoRow.holds Try.pinned (OpenSpec.upto orderNextSpec)

/-- 'tenterlaw10.TxnTells', WHERE WHAT IT READS IS OF BULK AT MOST 1048576: true; the input reads as it did. -/
def txnTellsUptoRow : OpenClaim := { program := "ytpjjmolibanakaa", sum := "d09360f28fff1811424d57c035d8f17bcc670ac7df8647dcc8782b9902f09c10", func := "tenter/tenterlaw10.TxnTells", spec := "txnTells", inPlace := ["internal/abi.NoEscape"], unfollowed := true, recurses := true, plainKeys := false, apart := false, narrowed := true }
def TxnTellsUptoSaid : Prop := txnTellsUptoRow.holds Try.pinned (OpenSpec.upto txnTellsSpec)

/-- 'tenterlaw10.TxnBare', WHERE WHAT IT READS IS OF BULK AT MOST 1048576: true; the input reads as it did. -/
def txnBareUptoRow : OpenClaim := { program := "ytpjjmolibanakaa", sum := "d09360f28fff1811424d57c035d8f17bcc670ac7df8647dcc8782b9902f09c10", func := "tenter/tenterlaw10.TxnBare", spec := "txnBare", inPlace := ["internal/abi.NoEscape"], unfollowed := true, recurses := true, plainKeys := false, apart := false, narrowed := true }
def TxnBareUptoSaid : Prop := txnBareUptoRow.holds Try.pinned (OpenSpec.upto txnBareSpec)

/-- 'tenterlaw18.OffendTells', WHERE WHAT IT READS IS OF BULK AT MOST 1048576: true; the input reads as it did. -/
def offendTellsUptoRow : OpenClaim := { program := "ytpjjmolibanakaa", sum := "d09360f28fff1811424d57c035d8f17bcc670ac7df8647dcc8782b9902f09c10", func := "tenter/tenterlaw18.OffendTells", spec := "offendTells", unfollowed := true, recurses := true, plainKeys := false, apart := false, narrowed := true }
def OffendTellsUptoSaid : Prop := offendTellsUptoRow.holds Try.pinned (OpenSpec.upto offendTellsSpec)

end Rows
end Go.Proofs.Ytpjjmolibanakaa
