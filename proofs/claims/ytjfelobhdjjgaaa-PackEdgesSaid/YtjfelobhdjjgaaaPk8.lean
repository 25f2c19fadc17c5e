/- PackEdges, PackVersions, PackBack: from the contract to the given row. No condition. -/
import Derived.Test.YtjfelobhdjjgaaaPk7
import Derived.Test.YtjfelobhdjjgaaaLibP
import Derived.Test.YtjfelobhdjjgaaaRows
namespace Go.Proofs.Ytjfelobhdjjgaaa
open Go Go.Gm Go.ChangeShapes Go.WideShapes Go.ChangeAt Go.RowKit
set_option linter.unusedVariables false
theorem reads_edge : Reads Try.prog 31 rEdge := (reads_struct (tot := 4) Try.underlying31 (by kernel_rfl) (readsF_cons (k := 1) (by kernel_rfl) (by kernel_rfl) (reads_int Try.underlying3) (readsF_cons (k := 1) (by kernel_rfl) (by kernel_rfl) (reads_int Try.underlying3) (readsF_cons (k := 1) (by kernel_rfl) (by kernel_rfl) (reads_int Try.underlying3) (readsF_cons (k := 1) (by kernel_rfl) (by kernel_rfl) (reads_int Try.underlying3) readsF_nil))))).map (fun p => (⟨p.1, p.2.1, p.2.2.1, p.2.2.2.1⟩ : EdgeD)) (fun _ => rfl)
theorem reads_ver : Reads Try.prog 43 rVer := (reads_struct (tot := 3) Try.underlying43 (by kernel_rfl) (readsF_cons (k := 1) (by kernel_rfl) (by kernel_rfl) (reads_int Try.underlying3) (readsF_cons (k := 1) (by kernel_rfl) (by kernel_rfl) (reads_int Try.underlying3) (readsF_cons (k := 1) (by kernel_rfl) (by kernel_rfl) (reads_int Try.underlying3) readsF_nil)))).map (fun p => (⟨p.1, p.2.1, p.2.2.1⟩ : VerD)) (fun _ => rfl)

theorem packEdges_own : ownKnob Try.prog.godebug = none := by kernel_rfl
theorem packEdges_laid : laidOutB Try.prog = true := by kernel_rfl
theorem packEdges_types : ∀ t ∈ Try.f4.params.toList, Try.prog.readableRec t = true ∧ t < Try.prog.types.size := by
  have h : (Try.f4.params.toList.all fun t => Try.prog.readableRec t && Nat.blt t Try.prog.types.size) = true := by kernel_rfl
  intro t ht
  have := List.all_eq_true.1 h t ht
  simp only [Bool.and_eq_true, Nat.blt_eq] at this
  exact this
set_option maxRecDepth 100000 in
theorem packEdges_lifted (os : Os) (started : os.Started) (H : Type) (enc : TypeId × Value → H) :
    ReturnsInHanded {} Try.checked os 4 .any (Rows.packEdgesSpec.pre6 enc Try.prog Try.f4 Rows.packEdgesRow.domain false) (Rows.packEdgesSpec.post enc Try.prog Try.f4 false true false false) := by
  refine returnsInHanded_of_change (C := Try.checked) packEdges_own started (by kernel_rfl) Try.func4
    (ChangeSpec.witness6 (enc := enc) (C := Try.checked) false ⟨#[], #[.agg #[.int .i64 0, .int .i64 0, .int .i64 0, .int .i64 0], .int .u64 0], []⟩ 8 (by kernel_rfl) (by kernel_rfl) (by kernel_rfl) (by kernel_rfl)) ?_
  intro W base args ds gs before hval hW _ _
  have hA := (argsR_cons (argR_agg Try.underlying31 reads_edge) (argsR_cons (argR_one (by kernel_rfl) (reads_int Try.underlying32)) (argsR_nil (P := Try.prog))))
  exact law_contract (P := Try.prog) (fn := Try.f4) (s := Rows.packEdgesSpec) packEdges_laid packEdges_types hA (by rw [Try.params4]) (fun b => packEdges_c b.1 b.2.1) rfl (by kernel_rfl) Try.underlying4
    (fun H ds h => by
      rw [Try.params4] at h
      match ds, h with
      | [d0, d1], _ => rfl) H enc W base args ds gs before hval hW
theorem packEdges_over : Rows.packEdgesRow.holds Try.pinned (OpenSpec.ofChange Rows.packEdgesSpec) :=
  OpenClaim.holds_of_wide 4 Try.f4 rfl rfl rfl rfl rfl rfl rfl ⟨rfl, rfl, rfl, rfl, rfl⟩ rfl rfl rfl rfl rfl (by kernel_rfl) Try.func4 (by kernel_rfl)
    (of_decide_eq_true (by kernel_rfl)) (by unfold Func.isWrapper; first | (rw [if_pos (by decide +kernel)]; kernel_rfl) | (rw [if_neg (by decide +kernel)]; exact ⟨rfl, rfl⟩))
    (fun os started H enc _ => packEdges_lifted os started H enc)
/-- The given statement. -/
theorem packEdges_proved : Rows.PackEdgesSaid := packEdges_over

theorem packVersions_own : ownKnob Try.prog.godebug = none := by kernel_rfl
theorem packVersions_laid : laidOutB Try.prog = true := by kernel_rfl
theorem packVersions_types : ∀ t ∈ Try.f5.params.toList, Try.prog.readableRec t = true ∧ t < Try.prog.types.size := by
  have h : (Try.f5.params.toList.all fun t => Try.prog.readableRec t && Nat.blt t Try.prog.types.size) = true := by kernel_rfl
  intro t ht
  have := List.all_eq_true.1 h t ht
  simp only [Bool.and_eq_true, Nat.blt_eq] at this
  exact this
set_option maxRecDepth 100000 in
theorem packVersions_lifted (os : Os) (started : os.Started) (H : Type) (enc : TypeId × Value → H) :
    ReturnsInHanded {} Try.checked os 5 .any (Rows.packVersionsSpec.pre6 enc Try.prog Try.f5 Rows.packVersionsRow.domain false) (Rows.packVersionsSpec.post enc Try.prog Try.f5 false true false false) := by
  refine returnsInHanded_of_change (C := Try.checked) packVersions_own started (by kernel_rfl) Try.func5
    (ChangeSpec.witness6 (enc := enc) (C := Try.checked) false ⟨#[], #[.agg #[.int .i64 0, .int .i64 0, .int .i64 0], .int .u64 0], []⟩ 8 (by kernel_rfl) (by kernel_rfl) (by kernel_rfl) (by kernel_rfl)) ?_
  intro W base args ds gs before hval hW _ _
  have hA := (argsR_cons (argR_agg Try.underlying43 reads_ver) (argsR_cons (argR_one (by kernel_rfl) (reads_int Try.underlying32)) (argsR_nil (P := Try.prog))))
  exact law_contract (P := Try.prog) (fn := Try.f5) (s := Rows.packVersionsSpec) packVersions_laid packVersions_types hA (by rw [Try.params5]) (fun b => packVersions_c b.1 b.2.1) rfl (by kernel_rfl) Try.underlying4
    (fun H ds h => by
      rw [Try.params5] at h
      match ds, h with
      | [d0, d1], _ => rfl) H enc W base args ds gs before hval hW
theorem packVersions_over : Rows.packVersionsRow.holds Try.pinned (OpenSpec.ofChange Rows.packVersionsSpec) :=
  OpenClaim.holds_of_wide 5 Try.f5 rfl rfl rfl rfl rfl rfl rfl ⟨rfl, rfl, rfl, rfl, rfl⟩ rfl rfl rfl rfl rfl (by kernel_rfl) Try.func5 (by kernel_rfl)
    (of_decide_eq_true (by kernel_rfl)) (by unfold Func.isWrapper; first | (rw [if_pos (by decide +kernel)]; kernel_rfl) | (rw [if_neg (by decide +kernel)]; exact ⟨rfl, rfl⟩))
    (fun os started H enc _ => packVersions_lifted os started H enc)
/-- The given statement. -/
theorem packVersions_proved : Rows.PackVersionsSaid := packVersions_over

theorem packBack_own : ownKnob Try.prog.godebug = none := by kernel_rfl
theorem packBack_laid : laidOutB Try.prog = true := by kernel_rfl
theorem packBack_types : ∀ t ∈ Try.f7.params.toList, Try.prog.readableRec t = true ∧ t < Try.prog.types.size := by
  have h : (Try.f7.params.toList.all fun t => Try.prog.readableRec t && Nat.blt t Try.prog.types.size) = true := by kernel_rfl
  intro t ht
  have := List.all_eq_true.1 h t ht
  simp only [Bool.and_eq_true, Nat.blt_eq] at this
  exact this
set_option maxRecDepth 100000 in
theorem packBack_lifted (os : Os) (started : os.Started) (H : Type) (enc : TypeId × Value → H) :
    ReturnsInHanded {} Try.checked os 7 .any (Rows.packBackSpec.pre6 enc Try.prog Try.f7 Rows.packBackRow.domain false) (Rows.packBackSpec.post enc Try.prog Try.f7 false true false false) := by
  refine returnsInHanded_of_change (C := Try.checked) packBack_own started (by kernel_rfl) Try.func7
    (ChangeSpec.witness6 (enc := enc) (C := Try.checked) false ⟨#[], #[.agg #[.int .i64 0, .int .i64 0, .int .i64 0, .int .i64 0], .agg #[.int .i64 0, .int .i64 0, .int .i64 0, .int .i64 0], .agg #[.int .i64 0, .int .i64 0, .int .i64 0], .int .u64 0], []⟩ 8 (by kernel_rfl) (by kernel_rfl) (by kernel_rfl) (by kernel_rfl)) ?_
  intro W base args ds gs before hval hW _ _
  have hA := (argsR_cons (argR_agg Try.underlying31 reads_edge) (argsR_cons (argR_agg Try.underlying31 reads_edge) (argsR_cons (argR_agg Try.underlying43 reads_ver) (argsR_cons (argR_one (by kernel_rfl) (reads_int Try.underlying32)) (argsR_nil (P := Try.prog))))))
  exact law_contract (P := Try.prog) (fn := Try.f7) (s := Rows.packBackSpec) packBack_laid packBack_types hA (by rw [Try.params7]) (fun b => packBack_c b.1 b.2.1 b.2.2.1 b.2.2.2.1) rfl (by kernel_rfl) Try.underlying4
    (fun H ds h => by
      rw [Try.params7] at h
      match ds, h with
      | [d0, d1, d2, d3], _ => rfl) H enc W base args ds gs before hval hW
theorem packBack_over : Rows.packBackRow.holds Try.pinned (OpenSpec.ofChange Rows.packBackSpec) :=
  OpenClaim.holds_of_wide 7 Try.f7 rfl rfl rfl rfl rfl rfl rfl ⟨rfl, rfl, rfl, rfl, rfl⟩ rfl rfl rfl rfl rfl (by kernel_rfl) Try.func7 (by kernel_rfl)
    (of_decide_eq_true (by kernel_rfl)) (by unfold Func.isWrapper; first | (rw [if_pos (by decide +kernel)]; kernel_rfl) | (rw [if_neg (by decide +kernel)]; exact ⟨rfl, rfl⟩))
    (fun os started H enc _ => packBack_lifted os started H enc)
/-- The given statement. -/
theorem packBack_proved : Rows.PackBackSaid := packBack_over

end Go.Proofs.Ytjfelobhdjjgaaa
