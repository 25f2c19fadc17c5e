/- TopTogether: from the contract to the given row. No condition. -/
import Derived.Test.YtdfidiehkkbimaaFf5
import Derived.Test.YtdfidiehkkbimaaLibW
import Derived.Test.YtdfidiehkkbimaaRows
namespace Go.Proofs.Ytdfidiehkkbimaa
open Go Go.Gm Go.ChangeShapes Go.WideShapes Go.ChangeAt Go.RowKit
set_option linter.unusedVariables false
theorem reads_pair : Reads Try.prog 83 rPair := (reads_struct (tot := 2) Try.underlying83 (by kernel_rfl) (readsF_cons (k := 1) (by kernel_rfl) (by kernel_rfl) (reads_int Try.underlying3) (readsF_cons (k := 1) (by kernel_rfl) (by kernel_rfl) (reads_int Try.underlying3) readsF_nil))).map (fun p => (⟨p.1, p.2.1⟩ : PairD)) (fun _ => rfl)

theorem topTogether_own : ownKnob Try.prog.godebug = none := by kernel_rfl
theorem topTogether_laid : laidOutB Try.prog = true := by kernel_rfl
theorem topTogether_types : ∀ t ∈ Try.f7.params.toList, Try.prog.readableRec t = true ∧ t < Try.prog.types.size := by
  have h : (Try.f7.params.toList.all fun t => Try.prog.readableRec t && Nat.blt t Try.prog.types.size) = true := by kernel_rfl
  intro t ht
  have := List.all_eq_true.1 h t ht
  simp only [Bool.and_eq_true, Nat.blt_eq] at this
  exact this
set_option maxRecDepth 100000 in
theorem topTogether_lifted (os : Os) (started : os.Started) (H : Type) (enc : TypeId × Value → H) :
    ReturnsInHanded {} Try.checked os 7 .any (Rows.topTogetherSpec.pre6 enc Try.prog Try.f7 Rows.topTogetherRow.domain false) (Rows.topTogetherSpec.post enc Try.prog Try.f7 false true false false) := by
  refine returnsInHanded_of_change (C := Try.checked) topTogether_own started (by kernel_rfl) Try.func7
    (ChangeSpec.witness6 (enc := enc) (C := Try.checked) false ⟨#[], #[.slice none 0 0], []⟩ 8 (by kernel_rfl) (by kernel_rfl) (by kernel_rfl) (by kernel_rfl)) ?_
  intro W base args ds gs before hval hW _ _
  have hA := (argsR_cons (argR_one (by kernel_rfl) (reads_slice Try.underlying78 (by kernel_rfl) reads_pair)) (argsR_nil (P := Try.prog)))
  exact law_contract (P := Try.prog) (fn := Try.f7) (s := Rows.topTogetherSpec) topTogether_laid topTogether_types hA (by rw [Try.params7]) (fun b => topTogether_c b.1) rfl (by kernel_rfl) Try.underlying4
    (fun H ds h => by
      rw [Try.params7] at h
      match ds, h with
      | [d0], _ => rfl) H enc W base args ds gs before hval hW
theorem topTogether_over : Rows.topTogetherRow.holds Try.pinned (OpenSpec.ofChange Rows.topTogetherSpec) :=
  OpenClaim.holds_of_wide 7 Try.f7 rfl rfl rfl rfl rfl rfl rfl ⟨rfl, rfl, rfl, rfl, rfl⟩ rfl rfl rfl rfl rfl (by kernel_rfl) Try.func7 (by kernel_rfl)
    (of_decide_eq_true (by kernel_rfl)) (by unfold Func.isWrapper; first | (rw [if_pos (by decide +kernel)]; kernel_rfl) | (rw [if_neg (by decide +kernel)]; exact ⟨rfl, rfl⟩))
    (fun os started H enc _ => topTogether_lifted os started H enc)
/-- The given statement. -/
theorem topTogether_proved : Rows.TopTogetherSaid := topTogether_over

end Go.Proofs.Ytdfidiehkkbimaa
