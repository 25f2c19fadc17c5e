/- TxnTells, TxnBare: from the contract to the given row. No condition. -/
import Derived.Test.YtpjjmolibanakaaTxU
import Derived.Test.YtpjjmolibanakaaLibW
import Derived.Test.YtpjjmolibanakaaRows
namespace Go.Proofs.Ytpjjmolibanakaa
open Go Go.Gm Go.ChangeShapes Go.WideShapes Go.ChangeAt Go.RowKit
set_option linter.unusedVariables false
theorem reads_op : Reads Try.prog 102 rOp := (reads_struct (tot := 4) Try.underlying102 (by kernel_rfl) (readsF_cons (k := 1) (by kernel_rfl) (by kernel_rfl) (reads_bool Try.underlying4) (readsF_cons (k := 1) (by kernel_rfl) (by kernel_rfl) (reads_int Try.underlying3) (readsF_cons (k := 1) (by kernel_rfl) (by kernel_rfl) (reads_int Try.underlying3) (readsF_cons (k := 1) (by kernel_rfl) (by kernel_rfl) (reads_int Try.underlying3) readsF_nil))))).map (fun p => (⟨p.1, p.2.1, p.2.2.1, p.2.2.2.1⟩ : OpD)) (fun _ => rfl)
theorem reads_tx : Reads Try.prog 48 rTx := (reads_struct (tot := 3) Try.underlying48 (by kernel_rfl) (readsF_cons (k := 1) (by kernel_rfl) (by kernel_rfl) (reads_int Try.underlying3) (readsF_cons (k := 1) (by kernel_rfl) (by kernel_rfl) (reads_bool Try.underlying4) (readsF_cons (k := 1) (by kernel_rfl) (by kernel_rfl) (reads_slice Try.underlying46 (by kernel_rfl) reads_op) readsF_nil)))).map (fun p => (⟨p.1, p.2.1, p.2.2.1⟩ : TxD)) (fun _ => rfl)

theorem txnTells_own : ownKnob Try.prog.godebug = none := by kernel_rfl
theorem txnTells_laid : laidOutB Try.prog = true := by kernel_rfl
theorem txnTells_types : ∀ t ∈ Try.f7.params.toList, Try.prog.readableRec t = true ∧ t < Try.prog.types.size := by
  have h : (Try.f7.params.toList.all fun t => Try.prog.readableRec t && Nat.blt t Try.prog.types.size) = true := by kernel_rfl
  intro t ht
  have := List.all_eq_true.1 h t ht
  simp only [Bool.and_eq_true, Nat.blt_eq] at this
  exact this
set_option maxRecDepth 100000 in
theorem txnTells_lifted (os : Os) (started : os.Started) (H : Type) (enc : TypeId × Value → H) :
    ReturnsInHanded {} Try.checked os 7 .any (Rows.txnTellsSpec.pre6 enc Try.prog Try.f7 Rows.txnTellsRow.domain false) (Rows.txnTellsSpec.post enc Try.prog Try.f7 false true false false) := by
  refine returnsInHanded_of_change (C := Try.checked) txnTells_own started (by kernel_rfl) Try.func7
    (ChangeSpec.witness6 (enc := enc) (C := Try.checked) false ⟨#[], #[.agg #[.int .i64 0, .bool false, .slice none 0 0], .agg #[.int .i64 0, .bool false, .slice none 0 0], .int .i64 0], []⟩ 8 (by kernel_rfl) (by kernel_rfl) (by kernel_rfl) (by kernel_rfl)) ?_
  intro W base args ds gs before hval hW _ _
  have hA := (argsR_cons (argR_agg Try.underlying48 reads_tx) (argsR_cons (argR_agg Try.underlying48 reads_tx) (argsR_cons (argR_one (by kernel_rfl) (reads_int Try.underlying3)) (argsR_nil (P := Try.prog)))))
  exact law_contract (P := Try.prog) (fn := Try.f7) (s := Rows.txnTellsSpec) txnTells_laid txnTells_types hA (by rw [Try.params7]) (fun b => txnTells_c b.1 b.2.1 b.2.2.1) rfl (by kernel_rfl) Try.underlying4
    (fun H ds h => by
      rw [Try.params7] at h
      match ds, h with
      | [d0, d1, d2], _ => rfl) H enc W base args ds gs before hval hW
theorem txnTells_over : Rows.txnTellsRow.holds Try.pinned (OpenSpec.ofChange Rows.txnTellsSpec) :=
  OpenClaim.holds_of_wide 7 Try.f7 rfl rfl rfl rfl rfl rfl rfl ⟨rfl, rfl, rfl, rfl, rfl⟩ rfl rfl rfl rfl rfl (by kernel_rfl) Try.func7 (by kernel_rfl)
    (of_decide_eq_true (by kernel_rfl)) (by unfold Func.isWrapper; first | (rw [if_pos (by decide +kernel)]; kernel_rfl) | (rw [if_neg (by decide +kernel)]; exact ⟨rfl, rfl⟩))
    (fun os started H enc _ => txnTells_lifted os started H enc)
/-- The given statement. -/
theorem txnTells_proved : Rows.TxnTellsSaid := txnTells_over

theorem txnBare_own : ownKnob Try.prog.godebug = none := by kernel_rfl
theorem txnBare_laid : laidOutB Try.prog = true := by kernel_rfl
theorem txnBare_types : ∀ t ∈ Try.f8.params.toList, Try.prog.readableRec t = true ∧ t < Try.prog.types.size := by
  have h : (Try.f8.params.toList.all fun t => Try.prog.readableRec t && Nat.blt t Try.prog.types.size) = true := by kernel_rfl
  intro t ht
  have := List.all_eq_true.1 h t ht
  simp only [Bool.and_eq_true, Nat.blt_eq] at this
  exact this
set_option maxRecDepth 100000 in
theorem txnBare_lifted (os : Os) (started : os.Started) (H : Type) (enc : TypeId × Value → H) :
    ReturnsInHanded {} Try.checked os 8 .any (Rows.txnBareSpec.pre6 enc Try.prog Try.f8 Rows.txnBareRow.domain false) (Rows.txnBareSpec.post enc Try.prog Try.f8 false true false false) := by
  refine returnsInHanded_of_change (C := Try.checked) txnBare_own started (by kernel_rfl) Try.func8
    (ChangeSpec.witness6 (enc := enc) (C := Try.checked) false ⟨#[], #[.agg #[.int .i64 0, .bool false, .slice none 0 0], .int .i64 0], []⟩ 8 (by kernel_rfl) (by kernel_rfl) (by kernel_rfl) (by kernel_rfl)) ?_
  intro W base args ds gs before hval hW _ _
  have hA := (argsR_cons (argR_agg Try.underlying48 reads_tx) (argsR_cons (argR_one (by kernel_rfl) (reads_int Try.underlying3)) (argsR_nil (P := Try.prog))))
  exact law_contract (P := Try.prog) (fn := Try.f8) (s := Rows.txnBareSpec) txnBare_laid txnBare_types hA (by rw [Try.params8]) (fun b => txnBare_c b.1 b.2.1) rfl (by kernel_rfl) Try.underlying4
    (fun H ds h => by
      rw [Try.params8] at h
      match ds, h with
      | [d0, d1], _ => rfl) H enc W base args ds gs before hval hW
theorem txnBare_over : Rows.txnBareRow.holds Try.pinned (OpenSpec.ofChange Rows.txnBareSpec) :=
  OpenClaim.holds_of_wide 8 Try.f8 rfl rfl rfl rfl rfl rfl rfl ⟨rfl, rfl, rfl, rfl, rfl⟩ rfl rfl rfl rfl rfl (by kernel_rfl) Try.func8 (by kernel_rfl)
    (of_decide_eq_true (by kernel_rfl)) (by unfold Func.isWrapper; first | (rw [if_pos (by decide +kernel)]; kernel_rfl) | (rw [if_neg (by decide +kernel)]; exact ⟨rfl, rfl⟩))
    (fun os started H enc _ => txnBare_lifted os started H enc)
/-- The given statement. -/
theorem txnBare_proved : Rows.TxnBareSaid := txnBare_over

end Go.Proofs.Ytpjjmolibanakaa
