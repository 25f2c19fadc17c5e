/- MapGrows, MapStays: from the contract to the given row. No condition. -/
import Derived.Test.YtdfpljecogijaaaAvE
import Derived.Test.YtdfpljecogijaaaLibW
import Derived.Test.YtdfpljecogijaaaRows
namespace Go.Proofs.Ytdfpljecogijaaa
open Go Go.Gm Go.ChangeShapes Go.WideShapes Go.ChangeAt Go.RowKit
set_option linter.unusedVariables false

theorem mapGrows_own : ownKnob Try.prog.godebug = none := by kernel_rfl
theorem mapGrows_laid : laidOutB Try.prog = true := by kernel_rfl
theorem mapGrows_types : ∀ t ∈ Try.f7.params.toList, Try.prog.readableRec t = true ∧ t < Try.prog.types.size := by
  have h : (Try.f7.params.toList.all fun t => Try.prog.readableRec t && Nat.blt t Try.prog.types.size) = true := by kernel_rfl
  intro t ht
  have := List.all_eq_true.1 h t ht
  simp only [Bool.and_eq_true, Nat.blt_eq] at this
  exact this
set_option maxRecDepth 100000 in
theorem mapGrows_lifted (os : Os) (started : os.Started) (H : Type) (enc : TypeId × Value → H) :
    ReturnsInHanded {} Try.checked os 7 .any (Rows.mapGrowsSpec.pre6 enc Try.prog Try.f7 Rows.mapGrowsRow.domain false) (Rows.mapGrowsSpec.post enc Try.prog Try.f7 false true false false) := by
  refine returnsInHanded_of_change (C := Try.checked) mapGrows_own started (by kernel_rfl) Try.func7
    (ChangeSpec.witness6 (enc := enc) (C := Try.checked) false ⟨#[], #[.int .i64 0, .int .i64 0], []⟩ 8 (by kernel_rfl) (by kernel_rfl) (by kernel_rfl) (by kernel_rfl)) ?_
  intro W base args ds gs before hval hW _ _
  have hA := (argsR_cons (argR_one (by kernel_rfl) (reads_int Try.underlying3)) (argsR_cons (argR_one (by kernel_rfl) (reads_int Try.underlying3)) (argsR_nil (P := Try.prog))))
  exact law_contract (P := Try.prog) (fn := Try.f7) (s := Rows.mapGrowsSpec) mapGrows_laid mapGrows_types hA (by rw [Try.params7]) (fun b => mapGrows_c b.1 b.2.1) rfl (by kernel_rfl) Try.underlying4
    (fun H ds h => by
      rw [Try.params7] at h
      match ds, h with
      | [d0, d1], _ => rfl) H enc W base args ds gs before hval hW
theorem mapGrows_over : Rows.mapGrowsRow.holds Try.pinned (OpenSpec.ofChange Rows.mapGrowsSpec) :=
  OpenClaim.holds_of_wide 7 Try.f7 rfl rfl rfl rfl rfl rfl rfl ⟨rfl, rfl, rfl, rfl, rfl⟩ rfl rfl rfl rfl rfl (by kernel_rfl) Try.func7 (by kernel_rfl)
    (of_decide_eq_true (by kernel_rfl)) (by unfold Func.isWrapper; first | (rw [if_pos (by decide +kernel)]; kernel_rfl) | (rw [if_neg (by decide +kernel)]; exact ⟨rfl, rfl⟩))
    (fun os started H enc _ => mapGrows_lifted os started H enc)
/-- The given statement. -/
theorem mapGrows_proved : Rows.MapGrowsSaid := mapGrows_over
theorem reads_deedM : Reads Try.prog 60 rDeedM := (reads_struct (tot := 4) Try.underlying60 (by kernel_rfl) (readsF_cons (k := 1) (by kernel_rfl) (by kernel_rfl) (reads_int Try.underlying3) (readsF_cons (k := 1) (by kernel_rfl) (by kernel_rfl) (reads_int Try.underlying3) (readsF_cons (k := 1) (by kernel_rfl) (by kernel_rfl) (reads_int Try.underlying3) (readsF_cons (k := 1) (by kernel_rfl) (by kernel_rfl) (reads_int Try.underlying3) readsF_nil))))).map (fun p => (⟨p.1, p.2.1, p.2.2.1, p.2.2.2.1⟩ : DeedM)) (fun _ => rfl)

theorem mapStays_own : ownKnob Try.prog.godebug = none := by kernel_rfl
theorem mapStays_laid : laidOutB Try.prog = true := by kernel_rfl
theorem mapStays_types : ∀ t ∈ Try.f6.params.toList, Try.prog.readableRec t = true ∧ t < Try.prog.types.size := by
  have h : (Try.f6.params.toList.all fun t => Try.prog.readableRec t && Nat.blt t Try.prog.types.size) = true := by kernel_rfl
  intro t ht
  have := List.all_eq_true.1 h t ht
  simp only [Bool.and_eq_true, Nat.blt_eq] at this
  exact this
set_option maxRecDepth 100000 in
theorem mapStays_lifted (os : Os) (started : os.Started) (H : Type) (enc : TypeId × Value → H) :
    ReturnsInHanded {} Try.checked os 6 .any (Rows.mapStaysSpec.pre6 enc Try.prog Try.f6 Rows.mapStaysRow.domain false) (Rows.mapStaysSpec.post enc Try.prog Try.f6 false true false false) := by
  refine returnsInHanded_of_change (C := Try.checked) mapStays_own started (by kernel_rfl) Try.func6
    (ChangeSpec.witness6 (enc := enc) (C := Try.checked) false ⟨#[], #[.slice none 0 0], []⟩ 8 (by kernel_rfl) (by kernel_rfl) (by kernel_rfl) (by kernel_rfl)) ?_
  intro W base args ds gs before hval hW _ _
  have hA := (argsR_cons (argR_one (by kernel_rfl) (reads_slice Try.underlying51 (by kernel_rfl) reads_deedM)) (argsR_nil (P := Try.prog)))
  exact law_contract (P := Try.prog) (fn := Try.f6) (s := Rows.mapStaysSpec) mapStays_laid mapStays_types hA (by rw [Try.params6]) (fun b => mapStays_c b.1) rfl (by kernel_rfl) Try.underlying4
    (fun H ds h => by
      rw [Try.params6] at h
      match ds, h with
      | [d0], _ => rfl) H enc W base args ds gs before hval hW
theorem mapStays_over : Rows.mapStaysRow.holds Try.pinned (OpenSpec.ofChange Rows.mapStaysSpec) :=
  OpenClaim.holds_of_wide 6 Try.f6 rfl rfl rfl rfl rfl rfl rfl ⟨rfl, rfl, rfl, rfl, rfl⟩ rfl rfl rfl rfl rfl (by kernel_rfl) Try.func6 (by kernel_rfl)
    (of_decide_eq_true (by kernel_rfl)) (by unfold Func.isWrapper; first | (rw [if_pos (by decide +kernel)]; kernel_rfl) | (rw [if_neg (by decide +kernel)]; exact ⟨rfl, rfl⟩))
    (fun os started H enc _ => mapStays_lifted os started H enc)
/-- The given statement. -/
theorem mapStays_proved : Rows.MapStaysSaid := mapStays_over

end Go.Proofs.Ytdfpljecogijaaa
