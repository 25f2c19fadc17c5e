/- TopNames: from the contract to the given row. No condition. -/
import Derived.Test.YtjfelobhdjjgaaaBr4
import Derived.Test.YtjfelobhdjjgaaaLibP
import Derived.Test.YtjfelobhdjjgaaaRows
namespace Go.Proofs.Ytjfelobhdjjgaaa
open Go Go.Gm Go.ChangeShapes Go.WideShapes Go.ChangeAt Go.RowKit
set_option linter.unusedVariables false

theorem topNames_own : ownKnob Try.prog.godebug = none := by kernel_rfl
theorem topNames_laid : laidOutB Try.prog = true := by kernel_rfl
theorem topNames_types : ∀ t ∈ Try.f3.params.toList, Try.prog.readableRec t = true ∧ t < Try.prog.types.size := by
  have h : (Try.f3.params.toList.all fun t => Try.prog.readableRec t && Nat.blt t Try.prog.types.size) = true := by kernel_rfl
  intro t ht
  have := List.all_eq_true.1 h t ht
  simp only [Bool.and_eq_true, Nat.blt_eq] at this
  exact this
set_option maxRecDepth 100000 in
theorem topNames_lifted (os : Os) (started : os.Started) (H : Type) (enc : TypeId × Value → H) :
    ReturnsInHanded {} Try.checked os 3 .any (Rows.topNamesSpec.pre6 enc Try.prog Try.f3 Rows.topNamesRow.domain false) (Rows.topNamesSpec.post enc Try.prog Try.f3 false true false false) := by
  refine returnsInHanded_of_change (C := Try.checked) topNames_own started (by kernel_rfl) Try.func3
    (ChangeSpec.witness6 (enc := enc) (C := Try.checked) false ⟨#[], #[], []⟩ 8 (by kernel_rfl) (by kernel_rfl) (by kernel_rfl) (by kernel_rfl)) ?_
  intro W base args ds gs before hval hW _ _
  have hA := (argsR_nil (P := Try.prog))
  exact law_contract (P := Try.prog) (fn := Try.f3) (s := Rows.topNamesSpec) topNames_laid topNames_types hA (by rw [Try.params3]) (fun b => names_c) rfl (by kernel_rfl) Try.underlying4
    (fun H ds h => by
      rw [Try.params3] at h
      match ds, h with
      | [], _ => rfl) H enc W base args ds gs before hval hW
theorem topNames_over : Rows.topNamesRow.holds Try.pinned (OpenSpec.ofChange Rows.topNamesSpec) :=
  OpenClaim.holds_of_wide 3 Try.f3 rfl rfl rfl rfl rfl rfl rfl ⟨rfl, rfl, rfl, rfl, rfl⟩ rfl rfl rfl rfl rfl (by kernel_rfl) Try.func3 (by kernel_rfl)
    (of_decide_eq_true (by kernel_rfl)) (by unfold Func.isWrapper; first | (rw [if_pos (by decide +kernel)]; kernel_rfl) | (rw [if_neg (by decide +kernel)]; exact ⟨rfl, rfl⟩))
    (fun os started H enc _ => topNames_lifted os started H enc)
/-- The given statement. -/
theorem topNames_proved : Rows.TopNamesSaid := topNames_over

end Go.Proofs.Ytjfelobhdjjgaaa
