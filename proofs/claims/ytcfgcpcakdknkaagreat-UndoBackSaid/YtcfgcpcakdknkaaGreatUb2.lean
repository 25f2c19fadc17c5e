/- UndoBack: from the contract to the given row. No condition. -/
import Derived.Test.YtcfgcpcakdknkaaGreatUb1
import Derived.Test.YtcfgcpcakdknkaaGreatLibW
import Derived.Test.YtcfgcpcakdknkaaGreatRows
namespace Go.Proofs.YtcfgcpcakdknkaaGreat
open Go Go.Gm Go.ChangeShapes Go.WideShapes Go.ChangeAt Go.RowKit
set_option linter.unusedVariables false
theorem reads_op : Reads Tryz.prog 84 rOp := (reads_struct (tot := 4) Tryz.underlying84 (by kernel_rfl) (readsF_cons (k := 1) (by kernel_rfl) (by kernel_rfl) (reads_bool Tryz.underlying4) (readsF_cons (k := 1) (by kernel_rfl) (by kernel_rfl) (reads_int Tryz.underlying3) (readsF_cons (k := 1) (by kernel_rfl) (by kernel_rfl) (reads_int Tryz.underlying3) (readsF_cons (k := 1) (by kernel_rfl) (by kernel_rfl) (reads_int Tryz.underlying3) readsF_nil))))).map (fun p => (⟨p.1, p.2.1, p.2.2.1, p.2.2.2.1⟩ : OpD)) (fun _ => rfl)
theorem reads_tx : Reads Tryz.prog 34 rTx := (reads_struct (tot := 3) Tryz.underlying34 (by kernel_rfl) (readsF_cons (k := 1) (by kernel_rfl) (by kernel_rfl) (reads_int Tryz.underlying3) (readsF_cons (k := 1) (by kernel_rfl) (by kernel_rfl) (reads_bool Tryz.underlying4) (readsF_cons (k := 1) (by kernel_rfl) (by kernel_rfl) (reads_slice Tryz.underlying32 (by kernel_rfl) reads_op) readsF_nil)))).map (fun p => (⟨p.1, p.2.1, p.2.2.1⟩ : TxD)) (fun _ => rfl)
theorem reads_ord : Reads Tryz.prog 37 rOrd := (reads_struct (tot := 2) Tryz.underlying37 (by kernel_rfl) (readsF_cons (k := 1) (by kernel_rfl) (by kernel_rfl) (reads_int Tryz.underlying3) (readsF_cons (k := 1) (by kernel_rfl) (by kernel_rfl) (reads_slice Tryz.underlying35 (by kernel_rfl) (reads_int Tryz.underlying3)) readsF_nil))).map (fun p => (⟨p.1, p.2.1⟩ : OrdD)) (fun _ => rfl)
theorem reads_ed : Reads Tryz.prog 39 rEd := (reads_struct (tot := 7) Tryz.underlying39 (by kernel_rfl) (readsF_cons (k := 1) (by kernel_rfl) (by kernel_rfl) (reads_int Tryz.underlying3) (readsF_cons (k := 3) (by kernel_rfl) (by kernel_rfl) reads_tx (readsF_cons (k := 2) (by kernel_rfl) (by kernel_rfl) reads_ord (readsF_cons (k := 1) (by kernel_rfl) (by kernel_rfl) (reads_int Tryz.underlying3) readsF_nil))))).map (fun p => (⟨p.1, p.2.1, p.2.2.1, p.2.2.2.1⟩ : EdD)) (fun _ => rfl)

theorem undoBack_own : ownKnob Tryz.prog.godebug = none := by kernel_rfl
theorem undoBack_laid : laidOutB Tryz.prog = true := by kernel_rfl
theorem undoBack_types : ∀ t ∈ Tryz.f3.params.toList, Tryz.prog.readableRec t = true ∧ t < Tryz.prog.types.size := by
  have h : (Tryz.f3.params.toList.all fun t => Tryz.prog.readableRec t && Nat.blt t Tryz.prog.types.size) = true := by kernel_rfl
  intro t ht
  have := List.all_eq_true.1 h t ht
  simp only [Bool.and_eq_true, Nat.blt_eq] at this
  exact this
set_option maxRecDepth 100000 in
theorem undoBack_lifted (os : Os) (started : os.Started) (H : Type) (enc : TypeId × Value → H) :
    ReturnsInHanded {} Tryz.checked os 3 .any (Rows.undoBackSpec.pre6 enc Tryz.prog Tryz.f3 Rows.undoBackRow.domain false) (Rows.undoBackSpec.post enc Tryz.prog Tryz.f3 false true false false) := by
  refine returnsInHanded_of_change (C := Tryz.checked) undoBack_own started (by kernel_rfl) Tryz.func3
    (ChangeSpec.witness6 (enc := enc) (C := Tryz.checked) false ⟨#[], #[.int .i64 0, .slice none 0 0], []⟩ 8 (by kernel_rfl) (by kernel_rfl) (by kernel_rfl) (by kernel_rfl)) ?_
  intro W base args ds gs before hval hW _ _
  have hA := (argsR_cons (argR_one (by kernel_rfl) (reads_int Tryz.underlying3)) (argsR_cons (argR_one (by kernel_rfl) (reads_slice Tryz.underlying22 (by kernel_rfl) reads_ed)) (argsR_nil (P := Tryz.prog))))
  exact law_contract (P := Tryz.prog) (fn := Tryz.f3) (s := Rows.undoBackSpec) undoBack_laid undoBack_types hA (by rw [Tryz.params3]) (fun b => undoBack_c b.1 b.2.1) rfl (by kernel_rfl) Tryz.underlying4
    (fun H ds h => by
      rw [Tryz.params3] at h
      match ds, h with
      | [d0, d1], _ => rfl) H enc W base args ds gs before hval hW
theorem undoBack_over : Rows.undoBackRow.holds Tryz.pinned (OpenSpec.ofChange Rows.undoBackSpec) :=
  OpenClaim.holds_of_wide 3 Tryz.f3 rfl rfl rfl rfl rfl rfl rfl ⟨rfl, rfl, rfl, rfl, rfl⟩ rfl rfl rfl rfl rfl (by kernel_rfl) Tryz.func3 (by kernel_rfl)
    (of_decide_eq_true (by kernel_rfl)) (by unfold Func.isWrapper; first | (rw [if_pos (by decide +kernel)]; kernel_rfl) | (rw [if_neg (by decide +kernel)]; exact ⟨rfl, rfl⟩))
    (fun os started H enc _ => undoBack_lifted os started H enc)
/-- The given statement. -/
theorem undoBack_proved : Rows.UndoBackSaid := undoBack_over

end Go.Proofs.YtcfgcpcakdknkaaGreat
