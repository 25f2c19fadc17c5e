/- Bags: New. No condition beyond those that each theorem says. -/
import Derived.Test.YtfdjjfplhdpclaaMu5
namespace Go.Proofs.Ytfdjjfplhdpclaa
open Go Go.Gm
set_option linter.unusedVariables false
set_option linter.unusedSimpArgs false
set_option maxHeartbeats 4000000
set_option maxRecDepth 8000


theorem mnew_c  : FnG Try.prog 13 1 [] [HP.star []] (PV.ptr) (fun v => [mulH v []]) := by
  refine FnG.mk Try.func13 rfl Try.ntmps13 rfl (by kernel_rfl) ?_
  intro B F0 a w F hB hG hS
  obtain ⟨F, hS⟩ := hS.nm [] [0] rfl rfl
  refine wp_seq ?_
  refine region_q hS
    (cF rfl (oN (.c rfl)) trivial trivial
    Chain.nil)
    hB ?_
  clear hS; intro a w F hS
  obtain ⟨F, hS⟩ := hS.nm [0] [0] rfl rfl
  refine then_n (wp_seq ?_)
  refine region_q hS
    (cF rfl (o_makeMapG (ek := (fun c : Int => PV.int .i32 c)) (ok := (fun _ : Int => True)) (kv := (fun n : Int => Value.int .u64 n)) 101) trivial trivial
    (cF rfl (o_makeMapG (ek := (fun p : Value × List Int => PV.is p.1)) (ok := (fun _ : Int => True)) (kv := (fun n : Int => Value.int .i64 n)) 102) trivial trivial
    (cF rfl (o_makeMapG (ek := (fun p : Value × List Int => PV.is p.1)) (ok := (fun _ : Int => True)) (kv := (fun n : Int => Value.int .i64 n)) 103) trivial trivial
    (cF rfl (oB [(0, .tmp 1), (1, .tmp 2), (2, .tmp 3)] [.map none, .map none, .map none] [(0, 1), (1, 1), (2, 1)] (.same rfl (by kernel_rfl) (.same rfl (by kernel_rfl) (.same rfl (by kernel_rfl) .nil)))) r3 trivial
    (cF rfl (oX 104 .t) r1 trivial
    (cF rfl (oN .t) r1 trivial
    Chain.nil))))))
    hB ?_
  clear hS; intro a w F hS
  replace hS := hS.sub
  obtain ⟨F, hS⟩ := hS.nm [0] [104, 103, 102, 101, 0] rfl rfl
  try dsimp only [RS.sub, SF.sub, CF.sub, csub, Anc.sub, List.map, stCells, xL, xM, Nat.reduceAdd, xD, xE, xT, xU, xC, xN, zCF] at hS
  generalize Act.tau a 5 = v5 at hS
  generalize Act.tau a 1 = v1 at hS
  generalize Act.tau a 2 = v2 at hS
  generalize Act.tau a 3 = v3 at hS
  refine then_n (wp_ret ?_)
  obtain ⟨b, rfl⟩ := hS.shape 104 rfl
  replace hS := hS.fresh 80 rfl
  replace hS := hS.turn 80 rfl (r' := famG 49 1 rU64 ([] : List (GE Int (Value × List Int)))) (fun _ _ _ _ h => h)
  have hS := hS.fresh 90 rfl
  obtain ⟨F, hS⟩ := hS.push 90 80 rfl rfl rfl (by kernel_rfl)
  obtain ⟨F, hS⟩ := hS.push 90 102 rfl rfl rfl (by kernel_rfl)
  replace hS := hS.turn 90 rfl (r' := RS.hp (rowsH v2 (outF []))) (fun _ _ _ _ h => rows_nil h)
  replace hS := hS.fresh 81 rfl
  replace hS := hS.turn 81 rfl (r' := famG 49 1 rU64 ([] : List (GE Int (Value × List Int)))) (fun _ _ _ _ h => h)
  have hS := hS.fresh 91 rfl
  obtain ⟨F, hS⟩ := hS.push 91 81 rfl rfl rfl (by kernel_rfl)
  obtain ⟨F, hS⟩ := hS.push 91 103 rfl rfl rfl (by kernel_rfl)
  replace hS := hS.turn 91 rfl (r' := RS.hp (rowsH v3 (inF []))) (fun _ _ _ _ h => rows_nil h)
  obtain ⟨F, hS⟩ := hS.nm [0] [104, 101, 91, 90, 0] rfl rfl
  have hS := hS.fresh 1 rfl
  obtain ⟨F, hS⟩ := hS.push 1 91 rfl rfl rfl (by kernel_rfl)
  obtain ⟨F, hS⟩ := hS.push 1 90 rfl rfl rfl (by kernel_rfl)
  obtain ⟨F, hS⟩ := hS.push 1 101 rfl rfl rfl (by kernel_rfl)
  obtain ⟨F, hS⟩ := hS.push 1 104 rfl rfl rfl (by kernel_rfl)
  have hS := hS.turn 1 rfl (r' := RS.hp (mulH (.pointer (some ⟨b, 0, none⟩)) [])) (fun _ _ _ _ h => ⟨⟨v1, v2, v3, [], 0⟩, ⟨BagOk.nil, CntM.nil, Nat.zero_le _⟩, h⟩)
  refine ret_N1 (h' := fun v => mulH v []) hG hS rfl (.tmp rfl .nil) (.one .ptr) rfl

end Go.Proofs.Ytfdjjfplhdpclaa
