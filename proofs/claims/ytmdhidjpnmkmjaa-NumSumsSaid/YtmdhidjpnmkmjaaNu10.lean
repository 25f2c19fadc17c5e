/- NumReads and NumSums: from the contract to the given row. No condition. -/
import Derived.Test.YtmdhidjpnmkmjaaNu9
import Derived.Test.YtmdhidjpnmkmjaaLibP
import Derived.Test.YtmdhidjpnmkmjaaRows
namespace Go.Proofs.Ytmdhidjpnmkmjaa
open Go Go.Gm Go.ChangeShapes Go.WideShapes Go.ChangeAt Go.RowKit
set_option linter.unusedVariables false

theorem numReads_own : ownKnob Try.prog.godebug = none := by kernel_rfl
theorem numReads_laid : laidOutB Try.prog = true := by kernel_rfl
theorem numReads_types : ∀ t ∈ Try.f6.params.toList, Try.prog.readableRec t = true ∧ t < Try.prog.types.size := by
  have h : (Try.f6.params.toList.all fun t => Try.prog.readableRec t && Nat.blt t Try.prog.types.size) = true := by kernel_rfl
  intro t ht
  have := List.all_eq_true.1 h t ht
  simp only [Bool.and_eq_true, Nat.blt_eq] at this
  exact this
set_option maxRecDepth 100000 in
theorem numReads_lifted (os : Os) (started : os.Started) (H : Type) (enc : TypeId × Value → H) :
    ReturnsInHanded {} Try.checked os 6 .any (Rows.numReadsSpec.pre6 enc Try.prog Try.f6 Rows.numReadsRow.domain false) (Rows.numReadsSpec.post enc Try.prog Try.f6 false true false false) := by
  refine returnsInHanded_of_change (C := Try.checked) numReads_own started (by kernel_rfl) Try.func6
    (ChangeSpec.witness6 (enc := enc) (C := Try.checked) false ⟨#[], #[.int .i64 0, .string ⟨#[]⟩, .slice none 0 0], []⟩ 8 (by kernel_rfl) (by kernel_rfl) (by kernel_rfl) (by kernel_rfl)) ?_
  intro W base args ds gs before hval hW _ _
  have hA := (argsR_cons (argR_one (by kernel_rfl) (reads_int Try.underlying3)) (argsR_cons (argR_one (by kernel_rfl) (reads_bs Try.underlying9)) (argsR_cons (argR_one (by kernel_rfl) (reads_slice (R := rInt) Try.underlying64 (by kernel_rfl) (reads_int Try.underlying3))) argsR_nil)))
  exact law_contract (P := Try.prog) (fn := Try.f6) (s := Rows.numReadsSpec) numReads_laid numReads_types hA (by rw [Try.params6]) (fun b => numReads_c b.1 b.2.1 b.2.2.1) rfl (by kernel_rfl) Try.underlying4
    (fun H ds h => by
      rw [Try.params6] at h
      match ds, h with
      | [d0, d1, d2], _ => rfl) H enc W base args ds gs before hval hW
theorem numReads_over : Rows.numReadsRow.holds Try.pinned (OpenSpec.ofChange Rows.numReadsSpec) :=
  OpenClaim.holds_of_wide 6 Try.f6 rfl rfl rfl rfl rfl rfl rfl ⟨rfl, rfl, rfl, rfl, rfl⟩ rfl rfl rfl rfl rfl (by kernel_rfl) Try.func6 (by kernel_rfl)
    (of_decide_eq_true (by kernel_rfl)) (by unfold Func.isWrapper; first | (rw [if_pos (by decide +kernel)]; kernel_rfl) | (rw [if_neg (by decide +kernel)]; exact ⟨rfl, rfl⟩))
    (fun os started H enc _ => numReads_lifted os started H enc)
/-- The given statement. -/
theorem numReads_proved : Rows.NumReadsSaid := numReads_over

theorem numSums_own : ownKnob Try.prog.godebug = none := by kernel_rfl
theorem numSums_laid : laidOutB Try.prog = true := by kernel_rfl
theorem numSums_types : ∀ t ∈ Try.f7.params.toList, Try.prog.readableRec t = true ∧ t < Try.prog.types.size := by
  have h : (Try.f7.params.toList.all fun t => Try.prog.readableRec t && Nat.blt t Try.prog.types.size) = true := by kernel_rfl
  intro t ht
  have := List.all_eq_true.1 h t ht
  simp only [Bool.and_eq_true, Nat.blt_eq] at this
  exact this
set_option maxRecDepth 100000 in
theorem numSums_lifted (os : Os) (started : os.Started) (H : Type) (enc : TypeId × Value → H) :
    ReturnsInHanded {} Try.checked os 7 .any (Rows.numSumsSpec.pre6 enc Try.prog Try.f7 Rows.numSumsRow.domain false) (Rows.numSumsSpec.post enc Try.prog Try.f7 false true false false) := by
  refine returnsInHanded_of_change (C := Try.checked) numSums_own started (by kernel_rfl) Try.func7
    (ChangeSpec.witness6 (enc := enc) (C := Try.checked) false ⟨#[], #[.int .i64 0, .int .i64 0], []⟩ 8 (by kernel_rfl) (by kernel_rfl) (by kernel_rfl) (by kernel_rfl)) ?_
  intro W base args ds gs before hval hW _ _
  have hA := (argsR_cons (argR_one (by kernel_rfl) (reads_int Try.underlying3)) (argsR_cons (argR_one (by kernel_rfl) (reads_int Try.underlying3)) argsR_nil))
  exact law_contract (P := Try.prog) (fn := Try.f7) (s := Rows.numSumsSpec) numSums_laid numSums_types hA (by rw [Try.params7]) (fun b => numSums_c b.1 b.2.1) rfl (by kernel_rfl) Try.underlying4
    (fun H ds h => by
      rw [Try.params7] at h
      match ds, h with
      | [d0, d1], _ => rfl) H enc W base args ds gs before hval hW
theorem numSums_over : Rows.numSumsRow.holds Try.pinned (OpenSpec.ofChange Rows.numSumsSpec) :=
  OpenClaim.holds_of_wide 7 Try.f7 rfl rfl rfl rfl rfl rfl rfl ⟨rfl, rfl, rfl, rfl, rfl⟩ rfl rfl rfl rfl rfl (by kernel_rfl) Try.func7 (by kernel_rfl)
    (of_decide_eq_true (by kernel_rfl)) (by unfold Func.isWrapper; first | (rw [if_pos (by decide +kernel)]; kernel_rfl) | (rw [if_neg (by decide +kernel)]; exact ⟨rfl, rfl⟩))
    (fun os started H enc _ => numSums_lifted os started H enc)
/-- The given statement. -/
theorem numSums_proved : Rows.NumSumsSaid := numSums_over

end Go.Proofs.Ytmdhidjpnmkmjaa
