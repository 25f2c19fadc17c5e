/- NumBack: from the contract to the given row. No condition. -/
import Derived.Test.YtmdhidjpnmkmjaaNu13
import Derived.Test.YtmdhidjpnmkmjaaLibP
import Derived.Test.YtmdhidjpnmkmjaaRows
namespace Go.Proofs.Ytmdhidjpnmkmjaa
open Go Go.Gm Go.ChangeShapes Go.WideShapes Go.ChangeAt Go.RowKit
set_option linter.unusedVariables false

theorem numBack_own : ownKnob Try.prog.godebug = none := by kernel_rfl
theorem numBack_laid : laidOutB Try.prog = true := by kernel_rfl
theorem numBack_types : ∀ t ∈ Try.f8.params.toList, Try.prog.readableRec t = true ∧ t < Try.prog.types.size := by
  have h : (Try.f8.params.toList.all fun t => Try.prog.readableRec t && Nat.blt t Try.prog.types.size) = true := by kernel_rfl
  intro t ht
  have := List.all_eq_true.1 h t ht
  simp only [Bool.and_eq_true, Nat.blt_eq] at this
  exact this
set_option maxRecDepth 100000 in
theorem numBack_lifted (os : Os) (started : os.Started) (H : Type) (enc : TypeId × Value → H) :
    ReturnsInHanded {} Try.checked os 8 .any (Rows.numBackSpec.pre6 enc Try.prog Try.f8 Rows.numBackRow.domain false) (Rows.numBackSpec.post enc Try.prog Try.f8 false true false false) := by
  refine returnsInHanded_of_change (C := Try.checked) numBack_own started (by kernel_rfl) Try.func8
    (ChangeSpec.witness6 (enc := enc) (C := Try.checked) false ⟨#[], #[.int .i64 0, .string ⟨#[]⟩], []⟩ 8 (by kernel_rfl) (by kernel_rfl) (by kernel_rfl) (by kernel_rfl)) ?_
  intro W base args ds gs before hval hW _ _
  have hA := (argsR_cons (argR_one (by kernel_rfl) (reads_int Try.underlying3)) (argsR_cons (argR_one (by kernel_rfl) (reads_bs Try.underlying9)) argsR_nil))
  exact law_contract (P := Try.prog) (fn := Try.f8) (s := Rows.numBackSpec) numBack_laid numBack_types hA (by rw [Try.params8]) (fun b => numBack_c b.1 b.2.1) rfl (by kernel_rfl) Try.underlying4
    (fun H ds h => by
      rw [Try.params8] at h
      match ds, h with
      | [d0, d1], _ => rfl) H enc W base args ds gs before hval hW
theorem numBack_over : Rows.numBackRow.holds Try.pinned (OpenSpec.ofChange Rows.numBackSpec) :=
  OpenClaim.holds_of_wide 8 Try.f8 rfl rfl rfl rfl rfl rfl rfl ⟨rfl, rfl, rfl, rfl, rfl⟩ rfl rfl rfl rfl rfl (by kernel_rfl) Try.func8 (by kernel_rfl)
    (of_decide_eq_true (by kernel_rfl)) (by unfold Func.isWrapper; first | (rw [if_pos (by decide +kernel)]; kernel_rfl) | (rw [if_neg (by decide +kernel)]; exact ⟨rfl, rfl⟩))
    (fun os started H enc _ => numBack_lifted os started H enc)
/-- The given statement. -/
theorem numBack_proved : Rows.NumBackSaid := numBack_over

end Go.Proofs.Ytmdhidjpnmkmjaa
