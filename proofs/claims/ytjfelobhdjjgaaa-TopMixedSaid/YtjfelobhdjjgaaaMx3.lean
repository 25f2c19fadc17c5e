/- TopMixed: from the contract to the given row. No condition. -/
import Derived.Test.YtjfelobhdjjgaaaMx2
import Derived.Test.YtjfelobhdjjgaaaLibP
import Derived.Test.YtjfelobhdjjgaaaRows
namespace Go.Proofs.Ytjfelobhdjjgaaa
open Go Go.Gm Go.ChangeShapes Go.WideShapes Go.ChangeAt Go.RowKit
set_option linter.unusedVariables false

theorem topMixed_own : ownKnob Try.prog.godebug = none := by kernel_rfl
theorem topMixed_laid : laidOutB Try.prog = true := by kernel_rfl
theorem topMixed_types : ∀ t ∈ Try.f8.params.toList, Try.prog.readableRec t = true ∧ t < Try.prog.types.size := by
  have h : (Try.f8.params.toList.all fun t => Try.prog.readableRec t && Nat.blt t Try.prog.types.size) = true := by kernel_rfl
  intro t ht
  have := List.all_eq_true.1 h t ht
  simp only [Bool.and_eq_true, Nat.blt_eq] at this
  exact this
set_option maxRecDepth 100000 in
theorem topMixed_lifted (os : Os) (started : os.Started) (H : Type) (enc : TypeId × Value → H) :
    ReturnsInHanded {} Try.checked os 8 .any (Rows.topMixedSpec.pre6 enc Try.prog Try.f8 Rows.topMixedRow.domain false) (Rows.topMixedSpec.post enc Try.prog Try.f8 false true false false) := by
  refine returnsInHanded_of_change (C := Try.checked) topMixed_own started (by kernel_rfl) Try.func8
    (ChangeSpec.witness6 (enc := enc) (C := Try.checked) false ⟨#[], #[.slice none 0 0], []⟩ 8 (by kernel_rfl) (by kernel_rfl) (by kernel_rfl) (by kernel_rfl)) ?_
  intro W base args ds gs before hval hW _ _
  have hA := (argsR_cons (argR_one (by kernel_rfl) (reads_slice (R := rInt) Try.underlying24 (by kernel_rfl) (reads_int Try.underlying3))) (argsR_nil (P := Try.prog)))
  exact law_contract (P := Try.prog) (fn := Try.f8) (s := Rows.topMixedSpec) topMixed_laid topMixed_types hA (by rw [Try.params8]) (fun b => mixed_c b.1) rfl (by kernel_rfl) Try.underlying4
    (fun H ds h => by
      rw [Try.params8] at h
      match ds, h with
      | [d0], _ => rfl) H enc W base args ds gs before hval hW
theorem topMixed_over : Rows.topMixedRow.holds Try.pinned (OpenSpec.ofChange Rows.topMixedSpec) :=
  OpenClaim.holds_of_wide 8 Try.f8 rfl rfl rfl rfl rfl rfl rfl ⟨rfl, rfl, rfl, rfl, rfl⟩ rfl rfl rfl rfl rfl (by kernel_rfl) Try.func8 (by kernel_rfl)
    (of_decide_eq_true (by kernel_rfl)) (by unfold Func.isWrapper; first | (rw [if_pos (by decide +kernel)]; kernel_rfl) | (rw [if_neg (by decide +kernel)]; exact ⟨rfl, rfl⟩))
    (fun os started H enc _ => topMixed_lifted os started H enc)
/-- The given statement. -/
theorem topMixed_proved : Rows.TopMixedSaid := topMixed_over

end Go.Proofs.Ytjfelobhdjjgaaa
