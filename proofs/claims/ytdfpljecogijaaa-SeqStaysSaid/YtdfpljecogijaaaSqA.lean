/- SeqPlays, SeqStays: from the contract to the given row. No condition. -/
import Derived.Test.YtdfpljecogijaaaSq9
import Derived.Test.YtdfpljecogijaaaLibW
import Derived.Test.YtdfpljecogijaaaRows
namespace Go.Proofs.Ytdfpljecogijaaa
open Go Go.Gm Go.ChangeShapes Go.WideShapes Go.ChangeAt Go.RowKit
set_option linter.unusedVariables false
theorem reads_deedQ : Reads Try.prog 34 rDeedQ := (reads_struct (tot := 4) Try.underlying34 (by kernel_rfl) (readsF_cons (k := 1) (by kernel_rfl) (by kernel_rfl) (reads_int Try.underlying3) (readsF_cons (k := 1) (by kernel_rfl) (by kernel_rfl) (reads_int Try.underlying3) (readsF_cons (k := 1) (by kernel_rfl) (by kernel_rfl) (reads_int Try.underlying3) (readsF_cons (k := 1) (by kernel_rfl) (by kernel_rfl) (reads_int Try.underlying3) readsF_nil))))).map (fun p => (⟨p.1, p.2.1, p.2.2.1, p.2.2.2.1⟩ : DeedQ)) (fun _ => rfl)

theorem seqPlays_own : ownKnob Try.prog.godebug = none := by kernel_rfl
theorem seqPlays_laid : laidOutB Try.prog = true := by kernel_rfl
theorem seqPlays_types : ∀ t ∈ Try.f3.params.toList, Try.prog.readableRec t = true ∧ t < Try.prog.types.size := by
  have h : (Try.f3.params.toList.all fun t => Try.prog.readableRec t && Nat.blt t Try.prog.types.size) = true := by kernel_rfl
  intro t ht
  have := List.all_eq_true.1 h t ht
  simp only [Bool.and_eq_true, Nat.blt_eq] at this
  exact this
set_option maxRecDepth 100000 in
theorem seqPlays_lifted (os : Os) (started : os.Started) (H : Type) (enc : TypeId × Value → H) :
    ReturnsInHanded {} Try.checked os 3 .any (Rows.seqPlaysSpec.pre6 enc Try.prog Try.f3 Rows.seqPlaysRow.domain false) (Rows.seqPlaysSpec.post enc Try.prog Try.f3 false true false false) := by
  refine returnsInHanded_of_change (C := Try.checked) seqPlays_own started (by kernel_rfl) Try.func3
    (ChangeSpec.witness6 (enc := enc) (C := Try.checked) false ⟨#[], #[.int .i64 0, .slice none 0 0], []⟩ 8 (by kernel_rfl) (by kernel_rfl) (by kernel_rfl) (by kernel_rfl)) ?_
  intro W base args ds gs before hval hW _ _
  have hA := (argsR_cons (argR_one (by kernel_rfl) (reads_int Try.underlying3)) (argsR_cons (argR_one (by kernel_rfl) (reads_slice Try.underlying22 (by kernel_rfl) reads_deedQ)) (argsR_nil (P := Try.prog))))
  exact law_contract (P := Try.prog) (fn := Try.f3) (s := Rows.seqPlaysSpec) seqPlays_laid seqPlays_types hA (by rw [Try.params3]) (fun b => seqPlays_c b.1 b.2.1) rfl (by kernel_rfl) Try.underlying4
    (fun H ds h => by
      rw [Try.params3] at h
      match ds, h with
      | [d0, d1], _ => rfl) H enc W base args ds gs before hval hW
theorem seqPlays_over : Rows.seqPlaysRow.holds Try.pinned (OpenSpec.ofChange Rows.seqPlaysSpec) :=
  OpenClaim.holds_of_wide 3 Try.f3 rfl rfl rfl rfl rfl rfl rfl ⟨rfl, rfl, rfl, rfl, rfl⟩ rfl rfl rfl rfl rfl (by kernel_rfl) Try.func3 (by kernel_rfl)
    (of_decide_eq_true (by kernel_rfl)) (by unfold Func.isWrapper; first | (rw [if_pos (by decide +kernel)]; kernel_rfl) | (rw [if_neg (by decide +kernel)]; exact ⟨rfl, rfl⟩))
    (fun os started H enc _ => seqPlays_lifted os started H enc)
/-- The given statement. -/
theorem seqPlays_proved : Rows.SeqPlaysSaid := seqPlays_over

theorem seqStays_own : ownKnob Try.prog.godebug = none := by kernel_rfl
theorem seqStays_laid : laidOutB Try.prog = true := by kernel_rfl
theorem seqStays_types : ∀ t ∈ Try.f4.params.toList, Try.prog.readableRec t = true ∧ t < Try.prog.types.size := by
  have h : (Try.f4.params.toList.all fun t => Try.prog.readableRec t && Nat.blt t Try.prog.types.size) = true := by kernel_rfl
  intro t ht
  have := List.all_eq_true.1 h t ht
  simp only [Bool.and_eq_true, Nat.blt_eq] at this
  exact this
set_option maxRecDepth 100000 in
theorem seqStays_lifted (os : Os) (started : os.Started) (H : Type) (enc : TypeId × Value → H) :
    ReturnsInHanded {} Try.checked os 4 .any (Rows.seqStaysSpec.pre6 enc Try.prog Try.f4 Rows.seqStaysRow.domain false) (Rows.seqStaysSpec.post enc Try.prog Try.f4 false true false false) := by
  refine returnsInHanded_of_change (C := Try.checked) seqStays_own started (by kernel_rfl) Try.func4
    (ChangeSpec.witness6 (enc := enc) (C := Try.checked) false ⟨#[], #[.slice none 0 0], []⟩ 8 (by kernel_rfl) (by kernel_rfl) (by kernel_rfl) (by kernel_rfl)) ?_
  intro W base args ds gs before hval hW _ _
  have hA := (argsR_cons (argR_one (by kernel_rfl) (reads_slice Try.underlying22 (by kernel_rfl) reads_deedQ)) (argsR_nil (P := Try.prog)))
  exact law_contract (P := Try.prog) (fn := Try.f4) (s := Rows.seqStaysSpec) seqStays_laid seqStays_types hA (by rw [Try.params4]) (fun b => seqStays_c b.1) rfl (by kernel_rfl) Try.underlying4
    (fun H ds h => by
      rw [Try.params4] at h
      match ds, h with
      | [d0], _ => rfl) H enc W base args ds gs before hval hW
theorem seqStays_over : Rows.seqStaysRow.holds Try.pinned (OpenSpec.ofChange Rows.seqStaysSpec) :=
  OpenClaim.holds_of_wide 4 Try.f4 rfl rfl rfl rfl rfl rfl rfl ⟨rfl, rfl, rfl, rfl, rfl⟩ rfl rfl rfl rfl rfl (by kernel_rfl) Try.func4 (by kernel_rfl)
    (of_decide_eq_true (by kernel_rfl)) (by unfold Func.isWrapper; first | (rw [if_pos (by decide +kernel)]; kernel_rfl) | (rw [if_neg (by decide +kernel)]; exact ⟨rfl, rfl⟩))
    (fun os started H enc _ => seqStays_lifted os started H enc)
/-- The given statement. -/
theorem seqStays_proved : Rows.SeqStaysSaid := seqStays_over

end Go.Proofs.Ytdfpljecogijaaa
