/- TopShifted: from the contract to the given row. No condition. -/
import Derived.Test.YtpnaolljmhhdbaaSh7
import Derived.Test.YtpnaolljmhhdbaaLibW
import Derived.Test.YtpnaolljmhhdbaaRows
namespace Go.Proofs.Ytpnaolljmhhdbaa
open Go Go.Gm Go.ChangeShapes Go.WideShapes Go.ChangeAt Go.RowKit
set_option linter.unusedVariables false
theorem reads_op : Reads Try.prog 80 rOp := (reads_struct (tot := 4) Try.underlying80 (by kernel_rfl) (readsF_cons (k := 1) (by kernel_rfl) (by kernel_rfl) (reads_bool Try.underlying4) (readsF_cons (k := 1) (by kernel_rfl) (by kernel_rfl) (reads_int Try.underlying3) (readsF_cons (k := 1) (by kernel_rfl) (by kernel_rfl) (reads_int Try.underlying3) (readsF_cons (k := 1) (by kernel_rfl) (by kernel_rfl) (reads_int Try.underlying3) readsF_nil))))).map (fun p => (⟨p.1, p.2.1, p.2.2.1, p.2.2.2.1⟩ : OpD)) (fun _ => rfl)
theorem reads_tx : Reads Try.prog 75 rTx := (reads_struct (tot := 3) Try.underlying75 (by kernel_rfl) (readsF_cons (k := 1) (by kernel_rfl) (by kernel_rfl) (reads_int Try.underlying3) (readsF_cons (k := 1) (by kernel_rfl) (by kernel_rfl) (reads_bool Try.underlying4) (readsF_cons (k := 1) (by kernel_rfl) (by kernel_rfl) (reads_slice Try.underlying73 (by kernel_rfl) reads_op) readsF_nil)))).map (fun p => (⟨p.1, p.2.1, p.2.2.1⟩ : TxD)) (fun _ => rfl)
theorem reads_ord : Reads Try.prog 78 rOrd := (reads_struct (tot := 2) Try.underlying78 (by kernel_rfl) (readsF_cons (k := 1) (by kernel_rfl) (by kernel_rfl) (reads_int Try.underlying3) (readsF_cons (k := 1) (by kernel_rfl) (by kernel_rfl) (reads_slice Try.underlying76 (by kernel_rfl) (reads_int Try.underlying3)) readsF_nil))).map (fun p => (⟨p.1, p.2.1⟩ : OrdD)) (fun _ => rfl)
theorem reads_hist : Reads Try.prog 42 rHist := (reads_struct (tot := 2) Try.underlying42 (by kernel_rfl) (readsF_cons (k := 1) (by kernel_rfl) (by kernel_rfl) (reads_slice Try.underlying39 (by kernel_rfl) reads_tx) (readsF_cons (k := 1) (by kernel_rfl) (by kernel_rfl) (reads_slice Try.underlying40 (by kernel_rfl) reads_ord) readsF_nil))).map (fun p => (⟨p.1, p.2.1⟩ : HistD)) (fun _ => rfl)

theorem topShifted_own : ownKnob Try.prog.godebug = none := by kernel_rfl
theorem topShifted_laid : laidOutB Try.prog = true := by kernel_rfl
theorem topShifted_types : ∀ t ∈ Try.f5.params.toList, Try.prog.readableRec t = true ∧ t < Try.prog.types.size := by
  have h : (Try.f5.params.toList.all fun t => Try.prog.readableRec t && Nat.blt t Try.prog.types.size) = true := by kernel_rfl
  intro t ht
  have := List.all_eq_true.1 h t ht
  simp only [Bool.and_eq_true, Nat.blt_eq] at this
  exact this
set_option maxRecDepth 100000 in
theorem topShifted_lifted (os : Os) (started : os.Started) (H : Type) (enc : TypeId × Value → H) :
    ReturnsInHanded {} Try.checked os 5 .any (Rows.topShiftedSpec.pre6 enc Try.prog Try.f5 Rows.topShiftedRow.domain false) (Rows.topShiftedSpec.post enc Try.prog Try.f5 false true false false) := by
  refine returnsInHanded_of_change (C := Try.checked) topShifted_own started (by kernel_rfl) Try.func5
    (ChangeSpec.witness6 (enc := enc) (C := Try.checked) false ⟨#[], #[.agg #[.slice none 0 0, .slice none 0 0], .int .i64 0, .int .i64 0], []⟩ 8 (by kernel_rfl) (by kernel_rfl) (by kernel_rfl) (by kernel_rfl)) ?_
  intro W base args ds gs before hval hW _ _
  have hA := (argsR_cons (argR_agg Try.underlying42 reads_hist) (argsR_cons (argR_one (by kernel_rfl) (reads_int Try.underlying3)) (argsR_cons (argR_one (by kernel_rfl) (reads_int Try.underlying3)) (argsR_nil (P := Try.prog)))))
  exact law_contract (P := Try.prog) (fn := Try.f5) (s := Rows.topShiftedSpec) topShifted_laid topShifted_types hA (by rw [Try.params5]) (fun b => topShifted_c b.1 b.2.1 b.2.2.1) rfl (by kernel_rfl) Try.underlying4
    (fun H ds h => by
      rw [Try.params5] at h
      match ds, h with
      | [d0, d1, d2], _ => rfl) H enc W base args ds gs before hval hW
theorem topShifted_over : Rows.topShiftedRow.holds Try.pinned (OpenSpec.ofChange Rows.topShiftedSpec) :=
  OpenClaim.holds_of_wide 5 Try.f5 rfl rfl rfl rfl rfl rfl rfl ⟨rfl, rfl, rfl, rfl, rfl⟩ rfl rfl rfl rfl rfl (by kernel_rfl) Try.func5 (by kernel_rfl)
    (of_decide_eq_true (by kernel_rfl)) (by unfold Func.isWrapper; first | (rw [if_pos (by decide +kernel)]; kernel_rfl) | (rw [if_neg (by decide +kernel)]; exact ⟨rfl, rfl⟩))
    (fun os started H enc _ => topShifted_lifted os started H enc)
/-- The given statement. -/
theorem topShifted_proved : Rows.TopShiftedSaid := topShifted_over

end Go.Proofs.Ytpnaolljmhhdbaa
