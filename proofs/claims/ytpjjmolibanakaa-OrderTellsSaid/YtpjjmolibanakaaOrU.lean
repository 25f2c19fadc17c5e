/- OrderTells: from the contract to the given row. No condition. -/
import Derived.Test.YtpjjmolibanakaaOrT
import Derived.Test.YtpjjmolibanakaaLibW
import Derived.Test.YtpjjmolibanakaaRows
namespace Go.Proofs.Ytpjjmolibanakaa
open Go Go.Gm Go.ChangeShapes Go.WideShapes Go.ChangeAt Go.RowKit
set_option linter.unusedVariables false

theorem orderTells_own : ownKnob Try.prog.godebug = none := by kernel_rfl
theorem orderTells_laid : laidOutB Try.prog = true := by kernel_rfl
theorem orderTells_types : ∀ t ∈ Try.f4.params.toList, Try.prog.readableRec t = true ∧ t < Try.prog.types.size := by
  have h : (Try.f4.params.toList.all fun t => Try.prog.readableRec t && Nat.blt t Try.prog.types.size) = true := by kernel_rfl
  intro t ht
  have := List.all_eq_true.1 h t ht
  simp only [Bool.and_eq_true, Nat.blt_eq] at this
  exact this
set_option maxRecDepth 100000 in
theorem orderTells_lifted (os : Os) (started : os.Started) (H : Type) (enc : TypeId × Value → H) :
    ReturnsInHanded {} Try.checked os 4 .any (Rows.orderTellsSpec.pre6 enc Try.prog Try.f4 Rows.orderTellsRow.domain false) (Rows.orderTellsSpec.post enc Try.prog Try.f4 false true false false) := by
  refine returnsInHanded_of_change (C := Try.checked) orderTells_own started (by kernel_rfl) Try.func4
    (ChangeSpec.witness6 (enc := enc) (C := Try.checked) false ⟨#[], #[.slice none 0 0, .slice none 0 0, .int .i64 0, .int .i64 0], []⟩ 8 (by kernel_rfl) (by kernel_rfl) (by kernel_rfl) (by kernel_rfl)) ?_
  intro W base args ds gs before hval hW _ _
  have hA := (argsR_cons (argR_one (by kernel_rfl) (reads_slice Try.underlying30 (by kernel_rfl) (reads_int Try.underlying3))) (argsR_cons (argR_one (by kernel_rfl) (reads_slice Try.underlying30 (by kernel_rfl) (reads_int Try.underlying3))) (argsR_cons (argR_one (by kernel_rfl) (reads_int Try.underlying3)) (argsR_cons (argR_one (by kernel_rfl) (reads_int Try.underlying3)) (argsR_nil (P := Try.prog))))))
  exact law_contract (P := Try.prog) (fn := Try.f4) (s := Rows.orderTellsSpec) orderTells_laid orderTells_types hA (by rw [Try.params4]) (fun b => orderTells_c b.1 b.2.1 b.2.2.1 b.2.2.2.1) rfl (by kernel_rfl) Try.underlying4
    (fun H ds h => by
      rw [Try.params4] at h
      match ds, h with
      | [d0, d1, d2, d3], _ => rfl) H enc W base args ds gs before hval hW
theorem orderTells_over : Rows.orderTellsRow.holds Try.pinned (OpenSpec.ofChange Rows.orderTellsSpec) :=
  OpenClaim.holds_of_wide 4 Try.f4 rfl rfl rfl rfl rfl rfl rfl ⟨rfl, rfl, rfl, rfl, rfl⟩ rfl rfl rfl rfl rfl (by kernel_rfl) Try.func4 (by kernel_rfl)
    (of_decide_eq_true (by kernel_rfl)) (by unfold Func.isWrapper; first | (rw [if_pos (by decide +kernel)]; kernel_rfl) | (rw [if_neg (by decide +kernel)]; exact ⟨rfl, rfl⟩))
    (fun os started H enc _ => orderTells_lifted os started H enc)
/-- The given statement. -/
theorem orderTells_proved : Rows.OrderTellsSaid := orderTells_over

end Go.Proofs.Ytpjjmolibanakaa
