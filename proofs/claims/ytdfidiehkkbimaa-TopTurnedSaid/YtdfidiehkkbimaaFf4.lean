/- TopTurned: from the contract to the given row. No condition. -/
import Derived.Test.YtdfidiehkkbimaaFf3
import Derived.Test.YtdfidiehkkbimaaLibW
import Derived.Test.YtdfidiehkkbimaaRows
namespace Go.Proofs.Ytdfidiehkkbimaa
open Go Go.Gm Go.ChangeShapes Go.WideShapes Go.ChangeAt Go.RowKit
set_option linter.unusedVariables false

theorem topTurned_own : ownKnob Try.prog.godebug = none := by kernel_rfl
theorem topTurned_laid : laidOutB Try.prog = true := by kernel_rfl
theorem topTurned_types : ∀ t ∈ Try.f6.params.toList, Try.prog.readableRec t = true ∧ t < Try.prog.types.size := by
  have h : (Try.f6.params.toList.all fun t => Try.prog.readableRec t && Nat.blt t Try.prog.types.size) = true := by kernel_rfl
  intro t ht
  have := List.all_eq_true.1 h t ht
  simp only [Bool.and_eq_true, Nat.blt_eq] at this
  exact this
set_option maxRecDepth 100000 in
theorem topTurned_lifted (os : Os) (started : os.Started) (H : Type) (enc : TypeId × Value → H) :
    ReturnsInHanded {} Try.checked os 6 .any (Rows.topTurnedSpec.pre6 enc Try.prog Try.f6 Rows.topTurnedRow.domain false) (Rows.topTurnedSpec.post enc Try.prog Try.f6 false true false false) := by
  refine returnsInHanded_of_change (C := Try.checked) topTurned_own started (by kernel_rfl) Try.func6
    (ChangeSpec.witness6 (enc := enc) (C := Try.checked) false ⟨#[], #[.slice none 0 0], []⟩ 8 (by kernel_rfl) (by kernel_rfl) (by kernel_rfl) (by kernel_rfl)) ?_
  intro W base args ds gs before hval hW _ _
  have hA := (argsR_cons (argR_one (by kernel_rfl) (reads_slice Try.underlying61 (by kernel_rfl) (reads_int Try.underlying3))) (argsR_nil (P := Try.prog)))
  exact law_contract (P := Try.prog) (fn := Try.f6) (s := Rows.topTurnedSpec) topTurned_laid topTurned_types hA (by rw [Try.params6]) (fun b => topTurned_c b.1) rfl (by kernel_rfl) Try.underlying4
    (fun H ds h => by
      rw [Try.params6] at h
      match ds, h with
      | [d0], _ => rfl) H enc W base args ds gs before hval hW
theorem topTurned_over : Rows.topTurnedRow.holds Try.pinned (OpenSpec.ofChange Rows.topTurnedSpec) :=
  OpenClaim.holds_of_wide 6 Try.f6 rfl rfl rfl rfl rfl rfl rfl ⟨rfl, rfl, rfl, rfl, rfl⟩ rfl rfl rfl rfl rfl (by kernel_rfl) Try.func6 (by kernel_rfl)
    (of_decide_eq_true (by kernel_rfl)) (by unfold Func.isWrapper; first | (rw [if_pos (by decide +kernel)]; kernel_rfl) | (rw [if_neg (by decide +kernel)]; exact ⟨rfl, rfl⟩))
    (fun os started H enc _ => topTurned_lifted os started H enc)
/-- The given statement. -/
theorem topTurned_proved : Rows.TopTurnedSaid := topTurned_over

end Go.Proofs.Ytdfidiehkkbimaa
