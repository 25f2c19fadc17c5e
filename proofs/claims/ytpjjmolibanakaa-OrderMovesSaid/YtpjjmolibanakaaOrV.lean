/- OrderMoves: from the contract to the given row. No condition. -/
import Derived.Test.YtpjjmolibanakaaOrM
import Derived.Test.YtpjjmolibanakaaLibW
import Derived.Test.YtpjjmolibanakaaRows
namespace Go.Proofs.Ytpjjmolibanakaa
open Go Go.Gm Go.ChangeShapes Go.WideShapes Go.ChangeAt Go.RowKit
set_option linter.unusedVariables false

theorem orderMoves_own : ownKnob Try.prog.godebug = none := by kernel_rfl
theorem orderMoves_laid : laidOutB Try.prog = true := by kernel_rfl
theorem orderMoves_types : ∀ t ∈ Try.f5.params.toList, Try.prog.readableRec t = true ∧ t < Try.prog.types.size := by
  have h : (Try.f5.params.toList.all fun t => Try.prog.readableRec t && Nat.blt t Try.prog.types.size) = true := by kernel_rfl
  intro t ht
  have := List.all_eq_true.1 h t ht
  simp only [Bool.and_eq_true, Nat.blt_eq] at this
  exact this
set_option maxRecDepth 100000 in
theorem orderMoves_lifted (os : Os) (started : os.Started) (H : Type) (enc : TypeId × Value → H) :
    ReturnsInHanded {} Try.checked os 5 .any (Rows.orderMovesSpec.pre6 enc Try.prog Try.f5 Rows.orderMovesRow.domain false) (Rows.orderMovesSpec.post enc Try.prog Try.f5 false true false false) := by
  refine returnsInHanded_of_change (C := Try.checked) orderMoves_own started (by kernel_rfl) Try.func5
    (ChangeSpec.witness6 (enc := enc) (C := Try.checked) false ⟨#[], #[.slice none 0 0, .slice none 0 0], []⟩ 8 (by kernel_rfl) (by kernel_rfl) (by kernel_rfl) (by kernel_rfl)) ?_
  intro W base args ds gs before hval hW _ _
  have hA := (argsR_cons (argR_one (by kernel_rfl) (reads_slice Try.underlying30 (by kernel_rfl) (reads_int Try.underlying3))) (argsR_cons (argR_one (by kernel_rfl) (reads_slice Try.underlying30 (by kernel_rfl) (reads_int Try.underlying3))) (argsR_nil (P := Try.prog))))
  exact law_contract (P := Try.prog) (fn := Try.f5) (s := Rows.orderMovesSpec) orderMoves_laid orderMoves_types hA (by rw [Try.params5]) (fun b => orderMoves_c b.1 b.2.1) rfl (by kernel_rfl) Try.underlying4
    (fun H ds h => by
      rw [Try.params5] at h
      match ds, h with
      | [d0, d1], _ => rfl) H enc W base args ds gs before hval hW
theorem orderMoves_over : Rows.orderMovesRow.holds Try.pinned (OpenSpec.ofChange Rows.orderMovesSpec) :=
  OpenClaim.holds_of_wide 5 Try.f5 rfl rfl rfl rfl rfl rfl rfl ⟨rfl, rfl, rfl, rfl, rfl⟩ rfl rfl rfl rfl rfl (by kernel_rfl) Try.func5 (by kernel_rfl)
    (of_decide_eq_true (by kernel_rfl)) (by unfold Func.isWrapper; first | (rw [if_pos (by decide +kernel)]; kernel_rfl) | (rw [if_neg (by decide +kernel)]; exact ⟨rfl, rfl⟩))
    (fun os started H enc _ => orderMoves_lifted os started H enc)
/-- The given statement. -/
theorem orderMoves_proved : Rows.OrderMovesSaid := orderMoves_over

end Go.Proofs.Ytpjjmolibanakaa
