/- MultiBack: from the contract to the given row. No condition. -/
import Derived.Test.YtfdjjfplhdpclaaMuI
import Derived.Test.YtfdjjfplhdpclaaLibW
import Derived.Test.YtfdjjfplhdpclaaRows
namespace Go.Proofs.Ytfdjjfplhdpclaa
open Go Go.Gm Go.ChangeShapes Go.WideShapes Go.ChangeAt Go.RowKit
set_option linter.unusedVariables false
theorem reads_edge : Reads Try.prog 24 rEdge := (reads_struct (tot := 4) Try.underlying24 (by kernel_rfl) (readsF_cons (k := 1) (by kernel_rfl) (by kernel_rfl) (reads_int Try.underlying3) (readsF_cons (k := 1) (by kernel_rfl) (by kernel_rfl) (reads_int Try.underlying3) (readsF_cons (k := 1) (by kernel_rfl) (by kernel_rfl) (reads_int Try.underlying3) (readsF_cons (k := 1) (by kernel_rfl) (by kernel_rfl) (reads_int Try.underlying3) readsF_nil))))).map (fun p => (⟨p.1, p.2.1, p.2.2.1, p.2.2.2.1⟩ : EdgeD)) (fun _ => rfl)
theorem reads_heavy : Reads Try.prog 31 rHv := (reads_struct (tot := 5) Try.underlying31 (by kernel_rfl) (readsF_cons (k := 4) (by kernel_rfl) (by kernel_rfl) reads_edge (readsF_cons (k := 1) (by kernel_rfl) (by kernel_rfl) (reads_int Try.underlying3) readsF_nil))).map (fun p => (⟨p.1, p.2.1⟩ : HvD)) (fun _ => rfl)

theorem multiBack_own : ownKnob Try.prog.godebug = none := by kernel_rfl
theorem multiBack_laid : laidOutB Try.prog = true := by kernel_rfl
theorem multiBack_types : ∀ t ∈ Try.f4.params.toList, Try.prog.readableRec t = true ∧ t < Try.prog.types.size := by
  have h : (Try.f4.params.toList.all fun t => Try.prog.readableRec t && Nat.blt t Try.prog.types.size) = true := by kernel_rfl
  intro t ht
  have := List.all_eq_true.1 h t ht
  simp only [Bool.and_eq_true, Nat.blt_eq] at this
  exact this
set_option maxRecDepth 100000 in
theorem multiBack_lifted (os : Os) (started : os.Started) (H : Type) (enc : TypeId × Value → H) :
    ReturnsInHanded {} Try.checked os 4 .any (Rows.multiBackSpec.pre6 enc Try.prog Try.f4 Rows.multiBackRow.domain false) (Rows.multiBackSpec.post enc Try.prog Try.f4 false true false false) := by
  refine returnsInHanded_of_change (C := Try.checked) multiBack_own started (by kernel_rfl) Try.func4
    (ChangeSpec.witness6 (enc := enc) (C := Try.checked) false ⟨#[], #[.slice none 0 0, .slice none 0 0], []⟩ 8 (by kernel_rfl) (by kernel_rfl) (by kernel_rfl) (by kernel_rfl)) ?_
  intro W base args ds gs before hval hW _ _
  have hA := (argsR_cons (argR_one (by kernel_rfl) (reads_slice Try.underlying22 (by kernel_rfl) reads_heavy)) (argsR_cons (argR_one (by kernel_rfl) (reads_slice Try.underlying22 (by kernel_rfl) reads_heavy)) (argsR_nil (P := Try.prog))))
  exact law_contract (P := Try.prog) (fn := Try.f4) (s := Rows.multiBackSpec) multiBack_laid multiBack_types hA (by rw [Try.params4]) (fun b => mback_c b.1 b.2.1) rfl (by kernel_rfl) Try.underlying4
    (fun H ds h => by
      rw [Try.params4] at h
      match ds, h with
      | [d0, d1], _ => rfl) H enc W base args ds gs before hval hW
theorem multiBack_over : Rows.multiBackRow.holds Try.pinned (OpenSpec.ofChange Rows.multiBackSpec) :=
  OpenClaim.holds_of_wide 4 Try.f4 rfl rfl rfl rfl rfl rfl rfl ⟨rfl, rfl, rfl, rfl, rfl⟩ rfl rfl rfl rfl rfl (by kernel_rfl) Try.func4 (by kernel_rfl)
    (of_decide_eq_true (by kernel_rfl)) (by unfold Func.isWrapper; first | (rw [if_pos (by decide +kernel)]; kernel_rfl) | (rw [if_neg (by decide +kernel)]; exact ⟨rfl, rfl⟩))
    (fun os started H enc _ => multiBack_lifted os started H enc)
/-- The given statement. -/
theorem multiBack_proved : Rows.MultiBackSaid := multiBack_over

end Go.Proofs.Ytfdjjfplhdpclaa
