/- TopTwice: from the contract to the given row. No condition. -/
import Derived.Test.YtdggmgiihdnlbaaTw4
import Derived.Test.YtdggmgiihdnlbaaLibW
import Derived.Test.YtdggmgiihdnlbaaRows
namespace Go.Proofs.Ytdggmgiihdnlbaa
open Go Go.Gm Go.ChangeShapes Go.WideShapes Go.ChangeAt Go.RowKit
set_option linter.unusedVariables false
theorem reads_op : Reads Try.prog 56 rOp := (reads_struct (tot := 4) Try.underlying56 (by kernel_rfl) (readsF_cons (k := 1) (by kernel_rfl) (by kernel_rfl) (reads_bool Try.underlying4) (readsF_cons (k := 1) (by kernel_rfl) (by kernel_rfl) (reads_int Try.underlying3) (readsF_cons (k := 1) (by kernel_rfl) (by kernel_rfl) (reads_int Try.underlying3) (readsF_cons (k := 1) (by kernel_rfl) (by kernel_rfl) (reads_int Try.underlying3) readsF_nil))))).map (fun p => (⟨p.1, p.2.1, p.2.2.1, p.2.2.2.1⟩ : OpD)) (fun _ => rfl)
theorem reads_tx : Reads Try.prog 41 rTx := (reads_struct (tot := 3) Try.underlying41 (by kernel_rfl) (readsF_cons (k := 1) (by kernel_rfl) (by kernel_rfl) (reads_int Try.underlying3) (readsF_cons (k := 1) (by kernel_rfl) (by kernel_rfl) (reads_bool Try.underlying4) (readsF_cons (k := 1) (by kernel_rfl) (by kernel_rfl) (reads_slice Try.underlying39 (by kernel_rfl) reads_op) readsF_nil)))).map (fun p => (⟨p.1, p.2.1, p.2.2.1⟩ : TxD)) (fun _ => rfl)
theorem reads_ord : Reads Try.prog 44 rOrd := (reads_struct (tot := 2) Try.underlying44 (by kernel_rfl) (readsF_cons (k := 1) (by kernel_rfl) (by kernel_rfl) (reads_int Try.underlying3) (readsF_cons (k := 1) (by kernel_rfl) (by kernel_rfl) (reads_slice Try.underlying42 (by kernel_rfl) (reads_int Try.underlying3)) readsF_nil))).map (fun p => (⟨p.1, p.2.1⟩ : OrdD)) (fun _ => rfl)
theorem reads_hist : Reads Try.prog 25 rHist := (reads_struct (tot := 2) Try.underlying25 (by kernel_rfl) (readsF_cons (k := 1) (by kernel_rfl) (by kernel_rfl) (reads_slice Try.underlying22 (by kernel_rfl) reads_tx) (readsF_cons (k := 1) (by kernel_rfl) (by kernel_rfl) (reads_slice Try.underlying23 (by kernel_rfl) reads_ord) readsF_nil))).map (fun p => (⟨p.1, p.2.1⟩ : HistD)) (fun _ => rfl)

theorem topTwice_own : ownKnob Try.prog.godebug = none := by kernel_rfl
theorem topTwice_laid : laidOutB Try.prog = true := by kernel_rfl
theorem topTwice_types : ∀ t ∈ Try.f3.params.toList, Try.prog.readableRec t = true ∧ t < Try.prog.types.size := by
  have h : (Try.f3.params.toList.all fun t => Try.prog.readableRec t && Nat.blt t Try.prog.types.size) = true := by kernel_rfl
  intro t ht
  have := List.all_eq_true.1 h t ht
  simp only [Bool.and_eq_true, Nat.blt_eq] at this
  exact this
set_option maxRecDepth 100000 in
theorem topTwice_lifted (os : Os) (started : os.Started) (H : Type) (enc : TypeId × Value → H) :
    ReturnsInHanded {} Try.checked os 3 .any (Rows.topTwiceSpec.pre6 enc Try.prog Try.f3 Rows.topTwiceRow.domain false) (Rows.topTwiceSpec.post enc Try.prog Try.f3 false true false false) := by
  refine returnsInHanded_of_change (C := Try.checked) topTwice_own started (by kernel_rfl) Try.func3
    (ChangeSpec.witness6 (enc := enc) (C := Try.checked) false ⟨#[], #[.agg #[.slice none 0 0, .slice none 0 0]], []⟩ 8 (by kernel_rfl) (by kernel_rfl) (by kernel_rfl) (by kernel_rfl)) ?_
  intro W base args ds gs before hval hW _ _
  have hA := (argsR_cons (argR_agg Try.underlying25 reads_hist) (argsR_nil (P := Try.prog)))
  exact law_contract (P := Try.prog) (fn := Try.f3) (s := Rows.topTwiceSpec) topTwice_laid topTwice_types hA (by rw [Try.params3]) (fun b => topTwice_c b.1) rfl (by kernel_rfl) Try.underlying4
    (fun H ds h => by
      rw [Try.params3] at h
      match ds, h with
      | [d0], _ => rfl) H enc W base args ds gs before hval hW
theorem topTwice_over : Rows.topTwiceRow.holds Try.pinned (OpenSpec.ofChange Rows.topTwiceSpec) :=
  OpenClaim.holds_of_wide 3 Try.f3 rfl rfl rfl rfl rfl rfl rfl ⟨rfl, rfl, rfl, rfl, rfl⟩ rfl rfl rfl rfl rfl (by kernel_rfl) Try.func3 (by kernel_rfl)
    (of_decide_eq_true (by kernel_rfl)) (by unfold Func.isWrapper; first | (rw [if_pos (by decide +kernel)]; kernel_rfl) | (rw [if_neg (by decide +kernel)]; exact ⟨rfl, rfl⟩))
    (fun os started H enc _ => topTwice_lifted os started H enc)
/-- The given statement. -/
theorem topTwice_proved : Rows.TopTwiceSaid := topTwice_over

end Go.Proofs.Ytdggmgiihdnlbaa
