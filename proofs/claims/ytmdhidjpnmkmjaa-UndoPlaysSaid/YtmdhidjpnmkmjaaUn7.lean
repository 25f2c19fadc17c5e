/- UndoPlays: from the contract to the given row. No condition. -/
import Derived.Test.YtmdhidjpnmkmjaaUn6
import Derived.Test.YtmdhidjpnmkmjaaLibP
import Derived.Test.YtmdhidjpnmkmjaaRows
namespace Go.Proofs.Ytmdhidjpnmkmjaa
open Go Go.Gm Go.ChangeShapes Go.WideShapes Go.ChangeAt Go.RowKit
set_option linter.unusedVariables false
theorem reads_op : Reads Try.prog 123 rOp := (reads_struct (tot := 4) Try.underlying123 (by kernel_rfl) (readsF_cons (k := 1) (by kernel_rfl) (by kernel_rfl) (reads_bool Try.underlying4) (readsF_cons (k := 1) (by kernel_rfl) (by kernel_rfl) (reads_int Try.underlying3) (readsF_cons (k := 1) (by kernel_rfl) (by kernel_rfl) (reads_int Try.underlying3) (readsF_cons (k := 1) (by kernel_rfl) (by kernel_rfl) (reads_int Try.underlying3) readsF_nil))))).map (fun p => (⟨p.1, p.2.1, p.2.2.1, p.2.2.2.1⟩ : OpD)) (fun _ => rfl)
theorem reads_tx : Reads Try.prog 87 rTx := (reads_struct (tot := 3) Try.underlying87 (by kernel_rfl) (readsF_cons (k := 1) (by kernel_rfl) (by kernel_rfl) (reads_int Try.underlying3) (readsF_cons (k := 1) (by kernel_rfl) (by kernel_rfl) (reads_bool Try.underlying4) (readsF_cons (k := 1) (by kernel_rfl) (by kernel_rfl) (reads_slice Try.underlying85 (by kernel_rfl) reads_op) readsF_nil)))).map (fun p => (⟨p.1, p.2.1, p.2.2.1⟩ : TxD)) (fun _ => rfl)
theorem reads_ord : Reads Try.prog 111 rOrd := (reads_struct (tot := 2) Try.underlying111 (by kernel_rfl) (readsF_cons (k := 1) (by kernel_rfl) (by kernel_rfl) (reads_int Try.underlying3) (readsF_cons (k := 1) (by kernel_rfl) (by kernel_rfl) (reads_slice Try.underlying64 (by kernel_rfl) (reads_int Try.underlying3)) readsF_nil))).map (fun p => (⟨p.1, p.2.1⟩ : OrdD)) (fun _ => rfl)
theorem reads_delta : Reads Try.prog 53 rDelta := (reads_struct (tot := 4) Try.underlying53 (by kernel_rfl) (readsF_cons (k := 1) (by kernel_rfl) (by kernel_rfl) (reads_slice Try.underlying50 (by kernel_rfl) reads_tx) (readsF_cons (k := 1) (by kernel_rfl) (by kernel_rfl) (reads_slice Try.underlying50 (by kernel_rfl) reads_tx) (readsF_cons (k := 1) (by kernel_rfl) (by kernel_rfl) (reads_slice Try.underlying51 (by kernel_rfl) reads_ord) (readsF_cons (k := 1) (by kernel_rfl) (by kernel_rfl) (reads_slice Try.underlying51 (by kernel_rfl) reads_ord) readsF_nil))))).map (fun p => (⟨p.1, p.2.1, p.2.2.1, p.2.2.2.1⟩ : DeltaD)) (fun _ => rfl)
theorem reads_deedU : Reads Try.prog 55 rDeedU := (reads_struct (tot := 5) Try.underlying55 (by kernel_rfl) (readsF_cons (k := 1) (by kernel_rfl) (by kernel_rfl) (reads_int Try.underlying3) (readsF_cons (k := 4) (by kernel_rfl) (by kernel_rfl) reads_delta readsF_nil))).map (fun p => (⟨p.1, p.2.1⟩ : DeedU)) (fun _ => rfl)

theorem undoPlays_own : ownKnob Try.prog.godebug = none := by kernel_rfl
theorem undoPlays_laid : laidOutB Try.prog = true := by kernel_rfl
theorem undoPlays_types : ∀ t ∈ Try.f5.params.toList, Try.prog.readableRec t = true ∧ t < Try.prog.types.size := by
  have h : (Try.f5.params.toList.all fun t => Try.prog.readableRec t && Nat.blt t Try.prog.types.size) = true := by kernel_rfl
  intro t ht
  have := List.all_eq_true.1 h t ht
  simp only [Bool.and_eq_true, Nat.blt_eq] at this
  exact this
set_option maxRecDepth 100000 in
theorem undoPlays_lifted (os : Os) (started : os.Started) (H : Type) (enc : TypeId × Value → H) :
    ReturnsInHanded {} Try.checked os 5 .any (Rows.undoPlaysSpec.pre6 enc Try.prog Try.f5 Rows.undoPlaysRow.domain false) (Rows.undoPlaysSpec.post enc Try.prog Try.f5 false true false false) := by
  refine returnsInHanded_of_change (C := Try.checked) undoPlays_own started (by kernel_rfl) Try.func5
    (ChangeSpec.witness6 (enc := enc) (C := Try.checked) false ⟨#[], #[.int .i64 0, .slice none 0 0], []⟩ 8 (by kernel_rfl) (by kernel_rfl) (by kernel_rfl) (by kernel_rfl)) ?_
  intro W base args ds gs before hval hW _ _
  have hA := (argsR_cons (argR_one (by kernel_rfl) (reads_int Try.underlying3)) (argsR_cons (argR_one (by kernel_rfl) (reads_slice Try.underlying43 (by kernel_rfl) reads_deedU)) argsR_nil))
  exact law_contract (P := Try.prog) (fn := Try.f5) (s := Rows.undoPlaysSpec) undoPlays_laid undoPlays_types hA (by rw [Try.params5]) (fun b => playsU_c b.1 b.2.1) rfl (by kernel_rfl) Try.underlying4
    (fun H ds h => by
      rw [Try.params5] at h
      match ds, h with
      | [d0, d1], _ => rfl) H enc W base args ds gs before hval hW
theorem undoPlays_over : Rows.undoPlaysRow.holds Try.pinned (OpenSpec.ofChange Rows.undoPlaysSpec) :=
  OpenClaim.holds_of_wide 5 Try.f5 rfl rfl rfl rfl rfl rfl rfl ⟨rfl, rfl, rfl, rfl, rfl⟩ rfl rfl rfl rfl rfl (by kernel_rfl) Try.func5 (by kernel_rfl)
    (of_decide_eq_true (by kernel_rfl)) (by unfold Func.isWrapper; first | (rw [if_pos (by decide +kernel)]; kernel_rfl) | (rw [if_neg (by decide +kernel)]; exact ⟨rfl, rfl⟩))
    (fun os started H enc _ => undoPlays_lifted os started H enc)
/-- The given statement. -/
theorem undoPlays_proved : Rows.UndoPlaysSaid := undoPlays_over

end Go.Proofs.Ytmdhidjpnmkmjaa
