/- NumTimes: from the contract to the given row. No condition. -/
import Derived.Test.YtmdhidjpnmkmjaaNu11
import Derived.Test.YtmdhidjpnmkmjaaLibP
import Derived.Test.YtmdhidjpnmkmjaaRows
namespace Go.Proofs.Ytmdhidjpnmkmjaa
open Go Go.Gm Go.ChangeShapes Go.WideShapes Go.ChangeAt Go.RowKit
set_option linter.unusedVariables false

theorem numTimes_own : ownKnob Try.prog.godebug = none := by kernel_rfl
theorem numTimes_laid : laidOutB Try.prog = true := by kernel_rfl
theorem numTimes_types : ∀ t ∈ Try.f9.params.toList, Try.prog.readableRec t = true ∧ t < Try.prog.types.size := by
  have h : (Try.f9.params.toList.all fun t => Try.prog.readableRec t && Nat.blt t Try.prog.types.size) = true := by kernel_rfl
  intro t ht
  have := List.all_eq_true.1 h t ht
  simp only [Bool.and_eq_true, Nat.blt_eq] at this
  exact this
set_option maxRecDepth 100000 in
theorem numTimes_lifted (os : Os) (started : os.Started) (H : Type) (enc : TypeId × Value → H) :
    ReturnsInHanded {} Try.checked os 9 .any (Rows.numTimesSpec.pre6 enc Try.prog Try.f9 Rows.numTimesRow.domain false) (Rows.numTimesSpec.post enc Try.prog Try.f9 false true false false) := by
  refine returnsInHanded_of_change (C := Try.checked) numTimes_own started (by kernel_rfl) Try.func9
    (ChangeSpec.witness6 (enc := enc) (C := Try.checked) false ⟨#[], #[.int .i64 0, .int .i64 0], []⟩ 8 (by kernel_rfl) (by kernel_rfl) (by kernel_rfl) (by kernel_rfl)) ?_
  intro W base args ds gs before hval hW _ _
  have hA := (argsR_cons (argR_one (by kernel_rfl) (reads_int Try.underlying3)) (argsR_cons (argR_one (by kernel_rfl) (reads_int Try.underlying3)) argsR_nil))
  exact law_contract (P := Try.prog) (fn := Try.f9) (s := Rows.numTimesSpec) numTimes_laid numTimes_types hA (by rw [Try.params9]) (fun b => numTimes_c b.1 b.2.1) rfl (by kernel_rfl) Try.underlying4
    (fun H ds h => by
      rw [Try.params9] at h
      match ds, h with
      | [d0, d1], _ => rfl) H enc W base args ds gs before hval hW
theorem numTimes_over : Rows.numTimesRow.holds Try.pinned (OpenSpec.ofChange Rows.numTimesSpec) :=
  OpenClaim.holds_of_wide 9 Try.f9 rfl rfl rfl rfl rfl rfl rfl ⟨rfl, rfl, rfl, rfl, rfl⟩ rfl rfl rfl rfl rfl (by kernel_rfl) Try.func9 (by kernel_rfl)
    (of_decide_eq_true (by kernel_rfl)) (by unfold Func.isWrapper; first | (rw [if_pos (by decide +kernel)]; kernel_rfl) | (rw [if_neg (by decide +kernel)]; exact ⟨rfl, rfl⟩))
    (fun os started H enc _ => numTimes_lifted os started H enc)
/-- The given statement. -/
theorem numTimes_proved : Rows.NumTimesSaid := numTimes_over

end Go.Proofs.Ytmdhidjpnmkmjaa
