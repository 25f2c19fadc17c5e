/- OffendTells: from the contract to the given row. No condition. -/
import Derived.Test.YtpjjmolibanakaaOf4
import Derived.Test.YtpjjmolibanakaaLibW
import Derived.Test.YtpjjmolibanakaaRows
namespace Go.Proofs.Ytpjjmolibanakaa
open Go Go.Gm Go.ChangeShapes Go.WideShapes Go.ChangeAt Go.RowKit
set_option linter.unusedVariables false
theorem reads_op : Reads Try.prog 102 rOp := (reads_struct (tot := 4) Try.underlying102 (by kernel_rfl) (readsF_cons (k := 1) (by kernel_rfl) (by kernel_rfl) (reads_bool Try.underlying4) (readsF_cons (k := 1) (by kernel_rfl) (by kernel_rfl) (reads_int Try.underlying3) (readsF_cons (k := 1) (by kernel_rfl) (by kernel_rfl) (reads_int Try.underlying3) (readsF_cons (k := 1) (by kernel_rfl) (by kernel_rfl) (reads_int Try.underlying3) readsF_nil))))).map (fun p => (⟨p.1, p.2.1, p.2.2.1, p.2.2.2.1⟩ : OpD)) (fun _ => rfl)
theorem reads_tx : Reads Try.prog 48 rTx := (reads_struct (tot := 3) Try.underlying48 (by kernel_rfl) (readsF_cons (k := 1) (by kernel_rfl) (by kernel_rfl) (reads_int Try.underlying3) (readsF_cons (k := 1) (by kernel_rfl) (by kernel_rfl) (reads_bool Try.underlying4) (readsF_cons (k := 1) (by kernel_rfl) (by kernel_rfl) (reads_slice Try.underlying46 (by kernel_rfl) reads_op) readsF_nil)))).map (fun p => (⟨p.1, p.2.1, p.2.2.1⟩ : TxD)) (fun _ => rfl)
theorem reads_ord : Reads Try.prog 127 rOrd := (reads_struct (tot := 2) Try.underlying127 (by kernel_rfl) (readsF_cons (k := 1) (by kernel_rfl) (by kernel_rfl) (reads_int Try.underlying3) (readsF_cons (k := 1) (by kernel_rfl) (by kernel_rfl) (reads_slice Try.underlying30 (by kernel_rfl) (reads_int Try.underlying3)) readsF_nil))).map (fun p => (⟨p.1, p.2.1⟩ : OrdD)) (fun _ => rfl)
theorem reads_hist : Reads Try.prog 66 rHist := (reads_struct (tot := 2) Try.underlying66 (by kernel_rfl) (readsF_cons (k := 1) (by kernel_rfl) (by kernel_rfl) (reads_slice Try.underlying63 (by kernel_rfl) reads_tx) (readsF_cons (k := 1) (by kernel_rfl) (by kernel_rfl) (reads_slice Try.underlying64 (by kernel_rfl) reads_ord) readsF_nil))).map (fun p => (⟨p.1, p.2.1⟩ : HistD)) (fun _ => rfl)
theorem reads_ver : Reads Try.prog 68 rVer := (reads_struct (tot := 3) Try.underlying68 (by kernel_rfl) (readsF_cons (k := 1) (by kernel_rfl) (by kernel_rfl) (reads_int Try.underlying3) (readsF_cons (k := 1) (by kernel_rfl) (by kernel_rfl) (reads_int Try.underlying3) (readsF_cons (k := 1) (by kernel_rfl) (by kernel_rfl) (reads_int Try.underlying3) readsF_nil)))).map (fun p => (⟨p.1, p.2.1, p.2.2.1⟩ : VerD)) (fun _ => rfl)
theorem reads_bad : Reads Try.prog 70 rBad := (reads_struct (tot := 5) Try.underlying70 (by kernel_rfl) (readsF_cons (k := 1) (by kernel_rfl) (by kernel_rfl) (reads_int Try.underlying3) (readsF_cons (k := 1) (by kernel_rfl) (by kernel_rfl) (reads_int Try.underlying3) (readsF_cons (k := 3) (by kernel_rfl) (by kernel_rfl) reads_ver readsF_nil)))).map (fun p => (⟨p.1, p.2.1, p.2.2.1⟩ : BadD)) (fun _ => rfl)

theorem offendTells_own : ownKnob Try.prog.godebug = none := by kernel_rfl
theorem offendTells_laid : laidOutB Try.prog = true := by kernel_rfl
theorem offendTells_types : ∀ t ∈ Try.f9.params.toList, Try.prog.readableRec t = true ∧ t < Try.prog.types.size := by
  have h : (Try.f9.params.toList.all fun t => Try.prog.readableRec t && Nat.blt t Try.prog.types.size) = true := by kernel_rfl
  intro t ht
  have := List.all_eq_true.1 h t ht
  simp only [Bool.and_eq_true, Nat.blt_eq] at this
  exact this
set_option maxRecDepth 100000 in
theorem offendTells_lifted (os : Os) (started : os.Started) (H : Type) (enc : TypeId × Value → H) :
    ReturnsInHanded {} Try.checked os 9 .any (Rows.offendTellsSpec.pre6 enc Try.prog Try.f9 Rows.offendTellsRow.domain false) (Rows.offendTellsSpec.post enc Try.prog Try.f9 false true false false) := by
  refine returnsInHanded_of_change (C := Try.checked) offendTells_own started (by kernel_rfl) Try.func9
    (ChangeSpec.witness6 (enc := enc) (C := Try.checked) false ⟨#[], #[.agg #[.slice none 0 0, .slice none 0 0], .int .i64 0, .int .i64 0, .agg #[.int .i64 0, .int .i64 0, .int .i64 0, .int .i64 0, .int .i64 0], .agg #[.int .i64 0, .int .i64 0, .int .i64 0, .int .i64 0, .int .i64 0]], []⟩ 8 (by kernel_rfl) (by kernel_rfl) (by kernel_rfl) (by kernel_rfl)) ?_
  intro W base args ds gs before hval hW _ _
  have hA := (argsR_cons (argR_agg Try.underlying66 reads_hist) (argsR_cons (argR_one (by kernel_rfl) (reads_int Try.underlying3)) (argsR_cons (argR_one (by kernel_rfl) (reads_int Try.underlying3)) (argsR_cons (argR_agg Try.underlying70 reads_bad) (argsR_cons (argR_agg Try.underlying70 reads_bad) (argsR_nil (P := Try.prog)))))))
  exact law_contract (P := Try.prog) (fn := Try.f9) (s := Rows.offendTellsSpec) offendTells_laid offendTells_types hA (by rw [Try.params9]) (fun b => offendTells_c b.1 b.2.1 b.2.2.1 b.2.2.2.1 b.2.2.2.2.1) rfl (by kernel_rfl) Try.underlying4
    (fun H ds h => by
      rw [Try.params9] at h
      match ds, h with
      | [d0, d1, d2, d3, d4], _ => rfl) H enc W base args ds gs before hval hW
theorem offendTells_over : Rows.offendTellsRow.holds Try.pinned (OpenSpec.ofChange Rows.offendTellsSpec) :=
  OpenClaim.holds_of_wide 9 Try.f9 rfl rfl rfl rfl rfl rfl rfl ⟨rfl, rfl, rfl, rfl, rfl⟩ rfl rfl rfl rfl rfl (by kernel_rfl) Try.func9 (by kernel_rfl)
    (of_decide_eq_true (by kernel_rfl)) (by unfold Func.isWrapper; first | (rw [if_pos (by decide +kernel)]; kernel_rfl) | (rw [if_neg (by decide +kernel)]; exact ⟨rfl, rfl⟩))
    (fun os started H enc _ => offendTells_lifted os started H enc)
/-- The given statement. -/
theorem offendTells_proved : Rows.OffendTellsSaid := offendTells_over

end Go.Proofs.Ytpjjmolibanakaa
