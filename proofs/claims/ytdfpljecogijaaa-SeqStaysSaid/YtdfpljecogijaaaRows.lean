/-
  No cell of these rows narrows 'for every input' (looked for: loops, veiled, ifaces, maps, wideKeys, modest, calm, conditions, laid).
  DERIVED. THE GIVEN ROWS OF THIS SEAT. 5 by the template 'for every input the law returns true; each argument reads behind the call as it read before'; 0 by the template 'total and deterministic' (their statements: YtdfpljecogijaaaTotals.lean).
  GIVEN WITH THE SEED: the statements are not yours to turn. If you find one false, say at which input.
  Laid BY PROGRAM, IN A SANDBOX (cutbox-rows.mjs): the forced cells as the released guide's own fill.sh prints them over the translation 81f93dd766fb58b3… (all of the seat's roots in one cut). By AI agents, Wed Nov 11 2026. No macro, syntax, notation, axiom, sorry.
-/
import Derived.Test.YtdfpljecogijaaaChecked
import GoSem.Claim
import GoSem.ClaimJoined
import GoSem.ClaimMapViews
import Derived.JoinedTies
import Derived.KernelRfl
namespace Go.Proofs.Ytdfpljecogijaaa
/- THE CELL 'sum', in the pinned program and in every row, IS THE sha256 OF THE DUMP (.gsa) THAT YtdfpljecogijaaaProg.lean LOADS. Nothing in Lean hashes anything: it is a label: what it is worth is what the hold of that sum in a sandbox is worth. -/
noncomputable def Try.pinned : Pinned := { name := "ytdfpljecogijaaa", sum := "81f93dd766fb58b3d9ad06593476c3262dc707b519f0779a22d6acc506af967b", checked := Try.checked }
namespace Rows
def none {H : Type} : Left H := { results := [], args := [] }

/-- 'tenterlaw07.SeqPlays': WHATEVER THE INPUT: true; the input reads as it did. -/
def seqPlaysSpec : ChangeSpec := { name := "seqPlays", fn := fun _ => fun
  | [d1, d2] => { results := [.lit (.bool true)], args := [d1, d2] }
  | _ => none }
def seqPlaysRow : OpenClaim := { program := "ytdfpljecogijaaa", sum := "81f93dd766fb58b3d9ad06593476c3262dc707b519f0779a22d6acc506af967b", func := "tenter/tenterlaw07.SeqPlays", spec := "seqPlays", unfollowed := true, recurses := true, apart := false }
def SeqPlaysSaid : Prop := seqPlaysRow.holds Try.pinned (OpenSpec.ofChange seqPlaysSpec)

/-- ITS FALSE NEIGHBOUR: 'it returns false'. Refute it at one input. -/
def seqPlaysWrong : ChangeSpec := { name := "seqPlays", fn := fun _ => fun
  | [d1, d2] => { results := [.lit (.bool false)], args := [d1, d2] }
  | _ => none }
def SeqPlaysWrongFalsely : Prop := seqPlaysRow.holds Try.pinned (OpenSpec.ofChange seqPlaysWrong)

/-- 'tenterlaw07.SeqStays': WHATEVER THE INPUT: true; the input reads as it did. -/
def seqStaysSpec : ChangeSpec := { name := "seqStays", fn := fun _ => fun
  | [d] => { results := [.lit (.bool true)], args := [d] }
  | _ => none }
def seqStaysRow : OpenClaim := { program := "ytdfpljecogijaaa", sum := "81f93dd766fb58b3d9ad06593476c3262dc707b519f0779a22d6acc506af967b", func := "tenter/tenterlaw07.SeqStays", spec := "seqStays", unfollowed := true, recurses := true, apart := false }
def SeqStaysSaid : Prop := seqStaysRow.holds Try.pinned (OpenSpec.ofChange seqStaysSpec)

/-- ITS FALSE NEIGHBOUR: 'it returns false'. Refute it at one input. -/
def seqStaysWrong : ChangeSpec := { name := "seqStays", fn := fun _ => fun
  | [d] => { results := [.lit (.bool false)], args := [d] }
  | _ => none }
def SeqStaysWrongFalsely : Prop := seqStaysRow.holds Try.pinned (OpenSpec.ofChange seqStaysWrong)

/-- 'tenterlaw06.MapPlays': WHATEVER THE INPUT: true; the input reads as it did. -/
def mapPlaysSpec : ChangeSpec := { name := "mapPlays", fn := fun _ => fun
  | [d1, d2] => { results := [.lit (.bool true)], args := [d1, d2] }
  | _ => none }
def mapPlaysRow : OpenClaim := { program := "ytdfpljecogijaaa", sum := "81f93dd766fb58b3d9ad06593476c3262dc707b519f0779a22d6acc506af967b", func := "tenter/tenterlaw06.MapPlays", spec := "mapPlays", recurses := true, apart := false }
def MapPlaysSaid : Prop := mapPlaysRow.holds Try.pinned (OpenSpec.ofChange mapPlaysSpec)

/-- ITS FALSE NEIGHBOUR: 'it returns false'. Refute it at one input. -/
def mapPlaysWrong : ChangeSpec := { name := "mapPlays", fn := fun _ => fun
  | [d1, d2] => { results := [.lit (.bool false)], args := [d1, d2] }
  | _ => none }
def MapPlaysWrongFalsely : Prop := mapPlaysRow.holds Try.pinned (OpenSpec.ofChange mapPlaysWrong)

/-- 'tenterlaw06.MapStays': WHATEVER THE INPUT: true; the input reads as it did. -/
def mapStaysSpec : ChangeSpec := { name := "mapStays", fn := fun _ => fun
  | [d] => { results := [.lit (.bool true)], args := [d] }
  | _ => none }
def mapStaysRow : OpenClaim := { program := "ytdfpljecogijaaa", sum := "81f93dd766fb58b3d9ad06593476c3262dc707b519f0779a22d6acc506af967b", func := "tenter/tenterlaw06.MapStays", spec := "mapStays", recurses := true, apart := false }
def MapStaysSaid : Prop := mapStaysRow.holds Try.pinned (OpenSpec.ofChange mapStaysSpec)

/-- ITS FALSE NEIGHBOUR: 'it returns false'. Refute it at one input. -/
def mapStaysWrong : ChangeSpec := { name := "mapStays", fn := fun _ => fun
  | [d] => { results := [.lit (.bool false)], args := [d] }
  | _ => none }
def MapStaysWrongFalsely : Prop := mapStaysRow.holds Try.pinned (OpenSpec.ofChange mapStaysWrong)

/-- 'tenterlaw06.MapGrows': WHATEVER THE INPUT: true; the input reads as it did. -/
def mapGrowsSpec : ChangeSpec := { name := "mapGrows", fn := fun _ => fun
  | [d1, d2] => { results := [.lit (.bool true)], args := [d1, d2] }
  | _ => none }
def mapGrowsRow : OpenClaim := { program := "ytdfpljecogijaaa", sum := "81f93dd766fb58b3d9ad06593476c3262dc707b519f0779a22d6acc506af967b", func := "tenter/tenterlaw06.MapGrows", spec := "mapGrows", recurses := true, apart := false }
def MapGrowsSaid : Prop := mapGrowsRow.holds Try.pinned (OpenSpec.ofChange mapGrowsSpec)

/-- ITS FALSE NEIGHBOUR: 'it returns false'. Refute it at one input. -/
def mapGrowsWrong : ChangeSpec := { name := "mapGrows", fn := fun _ => fun
  | [d1, d2] => { results := [.lit (.bool false)], args := [d1, d2] }
  | _ => none }
def MapGrowsWrongFalsely : Prop := mapGrowsRow.holds Try.pinned (OpenSpec.ofChange mapGrowsWrong)

/- THE SECOND FORM. 'bulk': how many values and letters a reading holds, each counted each time it is reached (what is shared counts as often as it is met; a slice's spare places count too). A statement '..UptoSaid' is the law's where the arguments, and the package variables that the reading takes, are together of bulk at most 1048576: NARROWER than '..Said'. Prove '..Said' where nothing that the law and all that it calls make is longer than what came in: it says more and counts as full. Else prove '..UptoSaid'. A law counts once. -/
mutual
def uptoBulk {H : Type} : DataW H → Nat
  | .lit (.string bytes) => bytes.length + 1
  | .lit _ => 1
  | .nil => 1
  | .ptr d => uptoBulk d + 1
  | .slice elems spare => uptoBulkAll elems + uptoBulkAll spare + 1
  | .agg parts => uptoBulkAll parts + 1
  | .iface _ d => uptoBulk d + 1
  | .map entries => uptoBulkEntries entries + 1
  | .held _ => 1
def uptoBulkAll {H : Type} : List (DataW H) → Nat
  | [] => 0
  | d :: r => uptoBulk d + uptoBulkAll r
def uptoBulkEntries {H : Type} : List (Lit × DataW H) → Nat
  | [] => 0
  | x :: r => uptoBulkEntry x + uptoBulkEntries r
def uptoBulkEntry {H : Type} : Lit × DataW H → Nat
  | (.string bytes, d) => bytes.length + uptoBulk d + 1
  | (_, d) => uptoBulk d + 1
 end
def uptoSmall : (H : Type) → List (DataW H) → Bool := fun _ ds => decide (uptoBulkAll ds ≤ 1048576)
def OpenSpec.upto (s : _root_.Go.ChangeSpec) : _root_.Go.OpenSpec := { _root_.Go.OpenSpec.ofChange s with cond := some uptoSmall }

/-- 'tenterlaw07.SeqPlays', WHERE WHAT IT READS IS OF BULK AT MOST 1048576: true; the input reads as it did. -/
def seqPlaysUptoRow : OpenClaim := { program := "ytdfpljecogijaaa", sum := "81f93dd766fb58b3d9ad06593476c3262dc707b519f0779a22d6acc506af967b", func := "tenter/tenterlaw07.SeqPlays", spec := "seqPlays", unfollowed := true, recurses := true, apart := false, narrowed := true }
def SeqPlaysUptoSaid : Prop := seqPlaysUptoRow.holds Try.pinned (OpenSpec.upto seqPlaysSpec)

/-- 'tenterlaw07.SeqStays', WHERE WHAT IT READS IS OF BULK AT MOST 1048576: true; the input reads as it did. -/
def seqStaysUptoRow : OpenClaim := { program := "ytdfpljecogijaaa", sum := "81f93dd766fb58b3d9ad06593476c3262dc707b519f0779a22d6acc506af967b", func := "tenter/tenterlaw07.SeqStays", spec := "seqStays", unfollowed := true, recurses := true, apart := false, narrowed := true }
def SeqStaysUptoSaid : Prop := seqStaysUptoRow.holds Try.pinned (OpenSpec.upto seqStaysSpec)

/-- 'tenterlaw06.MapPlays', WHERE WHAT IT READS IS OF BULK AT MOST 1048576: true; the input reads as it did. -/
def mapPlaysUptoRow : OpenClaim := { program := "ytdfpljecogijaaa", sum := "81f93dd766fb58b3d9ad06593476c3262dc707b519f0779a22d6acc506af967b", func := "tenter/tenterlaw06.MapPlays", spec := "mapPlays", recurses := true, apart := false, narrowed := true }
def MapPlaysUptoSaid : Prop := mapPlaysUptoRow.holds Try.pinned (OpenSpec.upto mapPlaysSpec)

/-- 'tenterlaw06.MapStays', WHERE WHAT IT READS IS OF BULK AT MOST 1048576: true; the input reads as it did. -/
def mapStaysUptoRow : OpenClaim := { program := "ytdfpljecogijaaa", sum := "81f93dd766fb58b3d9ad06593476c3262dc707b519f0779a22d6acc506af967b", func := "tenter/tenterlaw06.MapStays", spec := "mapStays", recurses := true, apart := false, narrowed := true }
def MapStaysUptoSaid : Prop := mapStaysUptoRow.holds Try.pinned (OpenSpec.upto mapStaysSpec)

/-- 'tenterlaw06.MapGrows', WHERE WHAT IT READS IS OF BULK AT MOST 1048576: true; the input reads as it did. -/
def mapGrowsUptoRow : OpenClaim := { program := "ytdfpljecogijaaa", sum := "81f93dd766fb58b3d9ad06593476c3262dc707b519f0779a22d6acc506af967b", func := "tenter/tenterlaw06.MapGrows", spec := "mapGrows", recurses := true, apart := false, narrowed := true }
def MapGrowsUptoSaid : Prop := mapGrowsUptoRow.holds Try.pinned (OpenSpec.upto mapGrowsSpec)

end Rows
end Go.Proofs.Ytdfpljecogijaaa
