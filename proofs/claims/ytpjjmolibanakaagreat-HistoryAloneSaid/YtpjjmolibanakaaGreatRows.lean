/-
  No cell of these rows narrows 'for every input' (looked for: loops, veiled, ifaces, maps, wideKeys, modest, calm, conditions, laid).
  DERIVED. THE GIVEN ROWS OF THIS SEAT. 4 by the template 'for every input the law returns true; each argument reads behind the call as it read before'; 0 by the template 'total and deterministic' (their statements: YtpjjmolibanakaaGreatTotals.lean).
  GIVEN WITH THE SEED: the statements are not yours to turn. If you find one false, say at which input.
  Laid BY PROGRAM, IN A SANDBOX (cutbox-rows.mjs): the forced cells as the released guide's own fill.sh prints them over the translation 2bc797d82aaffcad… (all of the seat's roots in one cut). By AI agents, Wed Nov 11 2026. No macro, syntax, notation, axiom, sorry.
-/
import Derived.Test.YtpjjmolibanakaaGreatChecked
import GoSem.Claim
import GoSem.ClaimJoined
import GoSem.ClaimMapViews
import Derived.JoinedTies
import Derived.KernelRfl
namespace Go.Proofs.YtpjjmolibanakaaGreat
/- THE CELL 'sum', in the pinned program and in every row, IS THE sha256 OF THE DUMP (.gsa) THAT YtpjjmolibanakaaGreatProg.lean LOADS. Nothing in Lean hashes anything: it is a label: what it is worth is what the hold of that sum in a sandbox is worth. -/
noncomputable def Tryz.pinned : Pinned := { name := "ytpjjmolibanakaagreat", sum := "2bc797d82aaffcad370cadf588941b3b517096289e05b331369caebe7b36b71f", checked := Tryz.checked }
namespace Rows
def none {H : Type} : Left H := { results := [], args := [] }

/-- 'tenterlaw12.HistoryTells': WHATEVER THE INPUT: true; the input reads as it did. -/
def historyTellsSpec : ChangeSpec := { name := "historyTells", fn := fun _ => fun
  | [d1, d2, d3, d4, d5] => { results := [.lit (.bool true)], args := [d1, d2, d3, d4, d5] }
  | _ => none }
def historyTellsRow : OpenClaim := { program := "ytpjjmolibanakaagreat", sum := "2bc797d82aaffcad370cadf588941b3b517096289e05b331369caebe7b36b71f", func := "tenter/tenterlaw12.HistoryTells", spec := "historyTells", inPlace := ["slices.overlaps[tenter/api.Tx]", "slices.overlaps[tenter/api.Order]"], unfollowed := true, recurses := true, plainKeys := false, apart := false }
def HistoryTellsSaid : Prop := historyTellsRow.holds Tryz.pinned (OpenSpec.ofChange historyTellsSpec)

/-- ITS FALSE NEIGHBOUR: 'it returns false'. Refute it at one input. -/
def historyTellsWrong : ChangeSpec := { name := "historyTells", fn := fun _ => fun
  | [d1, d2, d3, d4, d5] => { results := [.lit (.bool false)], args := [d1, d2, d3, d4, d5] }
  | _ => none }
def HistoryTellsWrongFalsely : Prop := historyTellsRow.holds Tryz.pinned (OpenSpec.ofChange historyTellsWrong)

/-- 'tenterlaw12.HistoryEdits': WHATEVER THE INPUT: true; the input reads as it did. -/
def historyEditsSpec : ChangeSpec := { name := "historyEdits", fn := fun _ => fun
  | [d1, d2] => { results := [.lit (.bool true)], args := [d1, d2] }
  | _ => none }
def historyEditsRow : OpenClaim := { program := "ytpjjmolibanakaagreat", sum := "2bc797d82aaffcad370cadf588941b3b517096289e05b331369caebe7b36b71f", func := "tenter/tenterlaw12.HistoryEdits", spec := "historyEdits", inPlace := ["slices.overlaps[tenter/api.Tx]", "slices.overlaps[tenter/api.Order]"], unfollowed := true, recurses := true, plainKeys := false, apart := false }
def HistoryEditsSaid : Prop := historyEditsRow.holds Tryz.pinned (OpenSpec.ofChange historyEditsSpec)

/-- ITS FALSE NEIGHBOUR: 'it returns false'. Refute it at one input. -/
def historyEditsWrong : ChangeSpec := { name := "historyEdits", fn := fun _ => fun
  | [d1, d2] => { results := [.lit (.bool false)], args := [d1, d2] }
  | _ => none }
def HistoryEditsWrongFalsely : Prop := historyEditsRow.holds Tryz.pinned (OpenSpec.ofChange historyEditsWrong)

/-- 'tenterlaw12.HistoryRight': WHATEVER THE INPUT: true; the input reads as it did. -/
def historyRightSpec : ChangeSpec := { name := "historyRight", fn := fun _ => fun
  | [d] => { results := [.lit (.bool true)], args := [d] }
  | _ => none }
def historyRightRow : OpenClaim := { program := "ytpjjmolibanakaagreat", sum := "2bc797d82aaffcad370cadf588941b3b517096289e05b331369caebe7b36b71f", func := "tenter/tenterlaw12.HistoryRight", spec := "historyRight", inPlace := ["slices.overlaps[tenter/api.Tx]", "slices.overlaps[tenter/api.Order]"], unfollowed := true, recurses := true, plainKeys := false, apart := false }
def HistoryRightSaid : Prop := historyRightRow.holds Tryz.pinned (OpenSpec.ofChange historyRightSpec)

/-- ITS FALSE NEIGHBOUR: 'it returns false'. Refute it at one input. -/
def historyRightWrong : ChangeSpec := { name := "historyRight", fn := fun _ => fun
  | [d] => { results := [.lit (.bool false)], args := [d] }
  | _ => none }
def HistoryRightWrongFalsely : Prop := historyRightRow.holds Tryz.pinned (OpenSpec.ofChange historyRightWrong)

/-- 'tenterlaw12.HistoryAlone': WHATEVER THE INPUT: true; the input reads as it did. -/
def historyAloneSpec : ChangeSpec := { name := "historyAlone", fn := fun _ => fun
  | [d1, d2, d3] => { results := [.lit (.bool true)], args := [d1, d2, d3] }
  | _ => none }
def historyAloneRow : OpenClaim := { program := "ytpjjmolibanakaagreat", sum := "2bc797d82aaffcad370cadf588941b3b517096289e05b331369caebe7b36b71f", func := "tenter/tenterlaw12.HistoryAlone", spec := "historyAlone", inPlace := ["slices.overlaps[tenter/api.Tx]", "slices.overlaps[tenter/api.Order]"], unfollowed := true, recurses := true, plainKeys := false, apart := false }
def HistoryAloneSaid : Prop := historyAloneRow.holds Tryz.pinned (OpenSpec.ofChange historyAloneSpec)

/-- ITS FALSE NEIGHBOUR: 'it returns false'. Refute it at one input. -/
def historyAloneWrong : ChangeSpec := { name := "historyAlone", fn := fun _ => fun
  | [d1, d2, d3] => { results := [.lit (.bool false)], args := [d1, d2, d3] }
  | _ => none }
def HistoryAloneWrongFalsely : Prop := historyAloneRow.holds Tryz.pinned (OpenSpec.ofChange historyAloneWrong)

/- THE SECOND FORM. 'bulk': how many values and letters a reading holds, each counted each time it is reached (what is shared counts as often as it is met; a slice's spare places count too). A statement '..UptoSaid' is the law's where the arguments, and the package variables that the reading takes, are together of bulk at most 1048576: NARROWER than '..Said'. Prove '..Said' where nothing that the law and all that it calls make is longer than what came in: it says more and counts as full. Else prove '..UptoSaid'. A law counts once. -/
mutual
def uptoBulk {H : Type} : DataW H → Nat
  | .lit (.string bytes) => bytes.length + 1
  | .lit _ => 1
  | .nil => 1
  | .ptr d => uptoBulk d + 1
  | .slice elems spare => uptoBulkAll elems + uptoBulkAll spare + 1
  | .agg parts => uptoBulkAll parts + 1
  | .iface _ d => uptoBulk d + 1
  | .map entries => uptoBulkEntries entries + 1
  | .held _ => 1
def uptoBulkAll {H : Type} : List (DataW H) → Nat
  | [] => 0
  | d :: r => uptoBulk d + uptoBulkAll r
def uptoBulkEntries {H : Type} : List (Lit × DataW H) → Nat
  | [] => 0
  | x :: r => uptoBulkEntry x + uptoBulkEntries r
def uptoBulkEntry {H : Type} : Lit × DataW H → Nat
  | (.string bytes, d) => bytes.length + uptoBulk d + 1
  | (_, d) => uptoBulk d + 1
 end
def uptoSmall : (H : Type) → List (DataW H) → Bool := fun _ ds => decide (uptoBulkAll ds ≤ 1048576)
def OpenSpec.upto (s : _root_.Go.ChangeSpec) : _root_.Go.OpenSpec := { _root_.Go.OpenSpec.ofChange s with cond := some uptoSmall }

/-- 'tenterlaw12.HistoryTells', WHERE WHAT IT READS IS OF BULK AT MOST 1048576: true; the input reads as it did. -/
def historyTellsUptoRow : OpenClaim := { program := "ytpjjmolibanakaagreat", sum := "2bc797d82aaffcad370cadf588941b3b517096289e05b331369caebe7b36b71f", func := "tenter/tenterlaw12.HistoryTells", spec := "historyTells", inPlace := ["slices.overlaps[tenter/api.Tx]", "slices.overlaps[tenter/api.Order]"], unfollowed := true, recurses := true, plainKeys := false, apart := false, narrowed := true }
def HistoryTellsUptoSaid : Prop := historyTellsUptoRow.holds Tryz.pinned (OpenSpec.upto historyTellsSpec)

/-- 'tenterlaw12.HistoryEdits', WHERE WHAT IT READS IS OF BULK AT MOST 1048576: true; the input reads as it did. -/
def historyEditsUptoRow : OpenClaim := { program := "ytpjjmolibanakaagreat", sum := "2bc797d82aaffcad370cadf588941b3b517096289e05b331369caebe7b36b71f", func := "tenter/tenterlaw12.HistoryEdits", spec := "historyEdits", inPlace := ["slices.overlaps[tenter/api.Tx]", "slices.overlaps[tenter/api.Order]"], unfollowed := true, recurses := true, plainKeys := false, apart := false, narrowed := true }
def HistoryEditsUptoSaid : Prop := historyEditsUptoRow.holds Tryz.pinned (OpenSpec.upto historyEditsSpec)

/-- 'tenterlaw12.HistoryRight', WHERE WHAT IT READS IS OF BULK AT MOST 1048576: true; the input reads as it did. -/
def historyRightUptoRow : OpenClaim := { program := "ytpjjmolibanakaagreat", sum := "2bc797d82aaffcad370cadf588941b3b517096289e05b331369caebe7b36b71f", func := "tenter/tenterlaw12.HistoryRight", spec := "historyRight", inPlace := ["slices.overlaps[tenter/api.Tx]", "slices.overlaps[tenter/api.Order]"], unfollowed := true, recurses := true, plainKeys := false, apart := false, narrowed := true }
def HistoryRightUptoSaid : Prop := historyRightUptoRow.holds Tryz.pinned (OpenSpec.upto historyRightSpec)

/-- 'tenterlaw12.HistoryAlone', WHERE WHAT IT READS IS OF BULK AT MOST 1048576: true; the input reads as it did. -/
def historyAloneUptoRow : OpenClaim := { program := "ytpjjmolibanakaagreat", sum := "2bc797d82aaffcad370cadf588941b3b517096289e05b331369caebe7b36b71f", func := "tenter/tenterlaw12.HistoryAlone", spec := "historyAlone", inPlace := ["slices.overlaps[tenter/api.Tx]", "slices.overlaps[tenter/api.Order]"], unfollowed := true, recurses := true, plainKeys := false, apart := false, narrowed := true }
def HistoryAloneUptoSaid : Prop := historyAloneUptoRow.holds Tryz.pinned (OpenSpec.upto historyAloneSpec)

end Rows
end Go.Proofs.YtpjjmolibanakaaGreat
