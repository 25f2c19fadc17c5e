/-
  No cell of these rows narrows 'for every input' (looked for: loops, veiled, ifaces, maps, wideKeys, modest, calm, conditions, laid).
  DERIVED. THE GIVEN ROWS OF THIS SEAT. 4 by the template 'for every input the law returns true; each argument reads behind the call as it read before'; 0 by the template 'total and deterministic' (their statements: YtjhapicamnijnaaGreatTotals.lean).
  GIVEN WITH THE SEED: the statements are not yours to turn. If you find one false, say at which input.
  Laid BY PROGRAM, IN A SANDBOX (cutbox-rows.mjs): the forced cells as the released guide's own fill.sh prints them over the translation af55fed1c0f7b1b7… (all of the seat's roots in one cut). By AI agents, Wed Nov 11 2026. No macro, syntax, notation, axiom, sorry.
-/
import Derived.Test.YtjhapicamnijnaaGreatChecked
import GoSem.Claim
import GoSem.ClaimJoined
import GoSem.ClaimMapViews
import Derived.JoinedTies
import Derived.KernelRfl
namespace Go.Proofs.YtjhapicamnijnaaGreat
/- THE CELL 'sum', in the pinned program and in every row, IS THE sha256 OF THE DUMP (.gsa) THAT YtjhapicamnijnaaGreatProg.lean LOADS. Nothing in Lean hashes anything: it is a label: what it is worth is what the hold of that sum in a sandbox is worth. -/
noncomputable def Tryz.pinned : Pinned := { name := "ytjhapicamnijnaagreat", sum := "af55fed1c0f7b1b769e5d44ed7429bc236ca9dd71c018f82605225d2638f43a1", checked := Tryz.checked }
namespace Rows
def none {H : Type} : Left H := { results := [], args := [] }

/-- 'tenterlaw48.PatchTells': WHATEVER THE INPUT: true; the input reads as it did. -/
def patchTellsSpec : ChangeSpec := { name := "patchTells", fn := fun _ => fun
  | [d1, d2, d3] => { results := [.lit (.bool true)], args := [d1, d2, d3] }
  | _ => none }
def patchTellsRow : OpenClaim := { program := "ytjhapicamnijnaagreat", sum := "af55fed1c0f7b1b769e5d44ed7429bc236ca9dd71c018f82605225d2638f43a1", func := "tenter/tenterlaw48.PatchTells", spec := "patchTells", inPlace := ["slices.overlaps[tenter/api.Tx]", "slices.overlaps[tenter/api.Order]"], unfollowed := true, recurses := true, plainKeys := false, apart := false }
def PatchTellsSaid : Prop := patchTellsRow.holds Tryz.pinned (OpenSpec.ofChange patchTellsSpec)

/-- ITS FALSE NEIGHBOUR: 'it returns false'. Refute it at one input. -/
def patchTellsWrong : ChangeSpec := { name := "patchTells", fn := fun _ => fun
  | [d1, d2, d3] => { results := [.lit (.bool false)], args := [d1, d2, d3] }
  | _ => none }
def PatchTellsWrongFalsely : Prop := patchTellsRow.holds Tryz.pinned (OpenSpec.ofChange patchTellsWrong)

/-- 'tenterlaw48.PatchNothing': WHATEVER THE INPUT: true; the input reads as it did. -/
def patchNothingSpec : ChangeSpec := { name := "patchNothing", fn := fun _ => fun
  | [d] => { results := [.lit (.bool true)], args := [d] }
  | _ => none }
def patchNothingRow : OpenClaim := { program := "ytjhapicamnijnaagreat", sum := "af55fed1c0f7b1b769e5d44ed7429bc236ca9dd71c018f82605225d2638f43a1", func := "tenter/tenterlaw48.PatchNothing", spec := "patchNothing", inPlace := ["slices.overlaps[tenter/api.Tx]", "slices.overlaps[tenter/api.Order]"], unfollowed := true, recurses := true, plainKeys := false, apart := false }
def PatchNothingSaid : Prop := patchNothingRow.holds Tryz.pinned (OpenSpec.ofChange patchNothingSpec)

/-- ITS FALSE NEIGHBOUR: 'it returns false'. Refute it at one input. -/
def patchNothingWrong : ChangeSpec := { name := "patchNothing", fn := fun _ => fun
  | [d] => { results := [.lit (.bool false)], args := [d] }
  | _ => none }
def PatchNothingWrongFalsely : Prop := patchNothingRow.holds Tryz.pinned (OpenSpec.ofChange patchNothingWrong)

/-- 'tenterlaw40.DumpTells': WHATEVER THE INPUT: true; the input reads as it did. -/
def dumpTellsSpec : ChangeSpec := { name := "dumpTells", fn := fun _ => fun
  | [d1, d2] => { results := [.lit (.bool true)], args := [d1, d2] }
  | _ => none }
def dumpTellsRow : OpenClaim := { program := "ytjhapicamnijnaagreat", sum := "af55fed1c0f7b1b769e5d44ed7429bc236ca9dd71c018f82605225d2638f43a1", func := "tenter/tenterlaw40.DumpTells", spec := "dumpTells", inPlace := ["slices.overlaps[tenter/api.Tx]", "slices.overlaps[tenter/api.Order]", "internal/abi.NoEscape", "internal/bytealg.MakeNoZero"], unfollowed := true, recurses := true, plainKeys := false, apart := false }
def DumpTellsSaid : Prop := dumpTellsRow.holds Tryz.pinned (OpenSpec.ofChange dumpTellsSpec)

/-- ITS FALSE NEIGHBOUR: 'it returns false'. Refute it at one input. -/
def dumpTellsWrong : ChangeSpec := { name := "dumpTells", fn := fun _ => fun
  | [d1, d2] => { results := [.lit (.bool false)], args := [d1, d2] }
  | _ => none }
def DumpTellsWrongFalsely : Prop := dumpTellsRow.holds Tryz.pinned (OpenSpec.ofChange dumpTellsWrong)

/-- 'tenterlaw40.DumpNoLonger': WHATEVER THE INPUT: true; the input reads as it did. -/
def dumpNoLongerSpec : ChangeSpec := { name := "dumpNoLonger", fn := fun _ => fun
  | [d] => { results := [.lit (.bool true)], args := [d] }
  | _ => none }
def dumpNoLongerRow : OpenClaim := { program := "ytjhapicamnijnaagreat", sum := "af55fed1c0f7b1b769e5d44ed7429bc236ca9dd71c018f82605225d2638f43a1", func := "tenter/tenterlaw40.DumpNoLonger", spec := "dumpNoLonger", inPlace := ["slices.overlaps[tenter/api.Tx]", "slices.overlaps[tenter/api.Order]", "internal/abi.NoEscape", "internal/bytealg.MakeNoZero"], unfollowed := true, recurses := true, plainKeys := false, apart := false }
def DumpNoLongerSaid : Prop := dumpNoLongerRow.holds Tryz.pinned (OpenSpec.ofChange dumpNoLongerSpec)

/-- ITS FALSE NEIGHBOUR: 'it returns false'. Refute it at one input. -/
def dumpNoLongerWrong : ChangeSpec := { name := "dumpNoLonger", fn := fun _ => fun
  | [d] => { results := [.lit (.bool false)], args := [d] }
  | _ => none }
def DumpNoLongerWrongFalsely : Prop := dumpNoLongerRow.holds Tryz.pinned (OpenSpec.ofChange dumpNoLongerWrong)

/- THE SECOND FORM. 'bulk': how many values and letters a reading holds, each counted each time it is reached (what is shared counts as often as it is met; a slice's spare places count too). A statement '..UptoSaid' is the law's where the arguments, and the package variables that the reading takes, are together of bulk at most 1048576: NARROWER than '..Said'. Prove '..Said' where nothing that the law and all that it calls make is longer than what came in: it says more and counts as full. Else prove '..UptoSaid'. A law counts once. -/
mutual
def uptoBulk {H : Type} : DataW H → Nat
  | .lit (.string bytes) => bytes.length + 1
  | .lit _ => 1
  | .nil => 1
  | .ptr d => uptoBulk d + 1
  | .slice elems spare => uptoBulkAll elems + uptoBulkAll spare + 1
  | .agg parts => uptoBulkAll parts + 1
  | .iface _ d => uptoBulk d + 1
  | .map entries => uptoBulkEntries entries + 1
  | .held _ => 1
def uptoBulkAll {H : Type} : List (DataW H) → Nat
  | [] => 0
  | d :: r => uptoBulk d + uptoBulkAll r
def uptoBulkEntries {H : Type} : List (Lit × DataW H) → Nat
  | [] => 0
  | x :: r => uptoBulkEntry x + uptoBulkEntries r
def uptoBulkEntry {H : Type} : Lit × DataW H → Nat
  | (.string bytes, d) => bytes.length + uptoBulk d + 1
  | (_, d) => uptoBulk d + 1
 end
def uptoSmall : (H : Type) → List (DataW H) → Bool := fun _ ds => decide (uptoBulkAll ds ≤ 1048576)
def OpenSpec.upto (s : _root_.Go.ChangeSpec) : _root_.Go.OpenSpec := { _root_.Go.OpenSpec.ofChange s with cond := some uptoSmall }

/-- 'tenterlaw48.PatchTells', WHERE WHAT IT READS IS OF BULK AT MOST 1048576: true; the input reads as it did. -/
def patchTellsUptoRow : OpenClaim := { program := "ytjhapicamnijnaagreat", sum := "af55fed1c0f7b1b769e5d44ed7429bc236ca9dd71c018f82605225d2638f43a1", func := "tenter/tenterlaw48.PatchTells", spec := "patchTells", inPlace := ["slices.overlaps[tenter/api.Tx]", "slices.overlaps[tenter/api.Order]"], unfollowed := true, recurses := true, plainKeys := false, apart := false, narrowed := true }
def PatchTellsUptoSaid : Prop := patchTellsUptoRow.holds Tryz.pinned (OpenSpec.upto patchTellsSpec)

/-- 'tenterlaw48.PatchNothing', WHERE WHAT IT READS IS OF BULK AT MOST 1048576: true; the input reads as it did. -/
def patchNothingUptoRow : OpenClaim := { program := "ytjhapicamnijnaagreat", sum := "af55fed1c0f7b1b769e5d44ed7429bc236ca9dd71c018f82605225d2638f43a1", func := "tenter/tenterlaw48.PatchNothing", spec := "patchNothing", inPlace := ["slices.overlaps[tenter/api.Tx]", "slices.overlaps[tenter/api.Order]"], unfollowed := true, recurses := true, plainKeys := false, apart := false, narrowed := true }
def PatchNothingUptoSaid : Prop := patchNothingUptoRow.holds Tryz.pinned (OpenSpec.upto patchNothingSpec)

/-- 'tenterlaw40.DumpTells', WHERE WHAT IT READS IS OF BULK AT MOST 1048576: true; the input reads as it did. -/
def dumpTellsUptoRow : OpenClaim := { program := "ytjhapicamnijnaagreat", sum := "af55fed1c0f7b1b769e5d44ed7429bc236ca9dd71c018f82605225d2638f43a1", func := "tenter/tenterlaw40.DumpTells", spec := "dumpTells", inPlace := ["slices.overlaps[tenter/api.Tx]", "slices.overlaps[tenter/api.Order]", "internal/abi.NoEscape", "internal/bytealg.MakeNoZero"], unfollowed := true, recurses := true, plainKeys := false, apart := false, narrowed := true }
def DumpTellsUptoSaid : Prop := dumpTellsUptoRow.holds Tryz.pinned (OpenSpec.upto dumpTellsSpec)

/-- 'tenterlaw40.DumpNoLonger', WHERE WHAT IT READS IS OF BULK AT MOST 1048576: true; the input reads as it did. -/
def dumpNoLongerUptoRow : OpenClaim := { program := "ytjhapicamnijnaagreat", sum := "af55fed1c0f7b1b769e5d44ed7429bc236ca9dd71c018f82605225d2638f43a1", func := "tenter/tenterlaw40.DumpNoLonger", spec := "dumpNoLonger", inPlace := ["slices.overlaps[tenter/api.Tx]", "slices.overlaps[tenter/api.Order]", "internal/abi.NoEscape", "internal/bytealg.MakeNoZero"], unfollowed := true, recurses := true, plainKeys := false, apart := false, narrowed := true }
def DumpNoLongerUptoSaid : Prop := dumpNoLongerUptoRow.holds Tryz.pinned (OpenSpec.upto dumpNoLongerSpec)

end Rows
end Go.Proofs.YtjhapicamnijnaaGreat
