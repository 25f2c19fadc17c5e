/- Slices of operations: Clone, IndexFunc. No condition beyond those that each theorem says. -/
import Derived.Test.YtpnaolljmhhdbaaTx0
import Derived.Test.YtpnaolljmhhdbaaDa1
namespace Go.Proofs.Ytpnaolljmhhdbaa
open Go Go.Gm
set_option linter.unusedVariables false
set_option linter.unusedSimpArgs false
set_option maxHeartbeats 4000000
set_option maxRecDepth 8000

theorem cloneO_c (l : List OpD) (hl : l.length ≤ 1000000) : FnG Try.prog 121 1 [.sl rOp l] [.star []] (PV.one) (fun v => [rowH 80 4 rOp l v]) := by
  refine FnG.mk Try.func121 rfl Try.ntmps121 rfl (by kernel_rfl) ?_
  intro B F0 a w F hB hG hS
  obtain ⟨F, hS⟩ := hS.nm [0] [0] rfl rfl
  refine wp_seq ?_
  refine region_q hS
    (cF rfl (oN (.c rfl)) trivial trivial
    Chain.nil)
    hB ?_
  clear hS; intro a w F hS
  obtain ⟨F, hS⟩ := hS.nm [2, 0] [0] rfl rfl
  try dsimp only [rOp] at hS
  refine then_n (wp_seq (wp_seq ?_))
  refine region_q hS
    (cF rfl (oM .t) r1 trivial
    (cF rfl (o_eql_nilsl Try.underlying73 .t) r1 trivial
    Chain.nil))
    hB ?_
  clear hS; intro a w F hS
  obtain ⟨F, hS⟩ := hS.nm [4, 2, 0] [0] rfl rfl
  try dsimp only [rOp] at hS
  obtain ⟨β4, hβ4, hS⟩ := hS.pickBool 4 rfl
  obtain ⟨F, hS⟩ := hS.nm [4, 2, 0] [0] rfl rfl
  refine then_n ?_
  refine cond_b hS rfl (fun hc0 => ?_) (fun hc0 => ?_)
  ·skip
   have hg : l = [] := hβ4 hc0
   refine wp_seq ?_
   refine region_q hS
     (cF rfl (oN (.c rfl)) trivial trivial
     Chain.nil)
     hB ?_
   clear hS; intro a w F hS
   obtain ⟨F, hS⟩ := hS.nm [2, 0] [0] rfl rfl
   try dsimp only [rOp] at hS
   refine then_n (wp_ret (then_r ?_))
   have hS := hS.fresh 1 rfl
   have hS := hS.turn 1 rfl (nilRow (T := 80) (sz := 4) (R := rOp))
   have hS := hS.turn 1 rfl (r' := RS.hp (rowH 80 4 rOp l (.slice none 0 0))) (fun _ _ _ _ h => by rw [hg]; exact h)
   refine ret_N1 (h' := fun v => rowH 80 4 rOp l v) hG hS rfl (.tmp rfl .nil) (.one .one) rfl
  have hg : l = [] ++ l := rfl
  refine wp_skip (then_n (wp_seq ?_))
  refine region_q hS
    (cF rfl (o_buildSlice0 (R := rOp) (sz := 4) 101 Try.underlying73 (by kernel_rfl)) trivial trivial
    (cF rfl (oM .t) r1 trivial
    (cF rfl (o_append (sz := 4) (bs := 32) 101 (.mk' Try.underlying73 (by kernel_rfl) (by kernel_rfl)) (by intro x; rfl) .same (.sl .t) (by simp only [List.length_append, List.length_nil]; omega) (by decide)) ⟨rfl, rfl, trivial⟩ ⟨rfl, trivial⟩
    (cF rfl (oN .t) r1 trivial
    Chain.nil))))
    hB ?_
  clear hS; intro a w F hS
  replace hS := hS.sub
  obtain ⟨F, hS⟩ := hS.nm [2] [101, 0] rfl rfl
  try dsimp only [RS.sub, SF.sub, CF.sub, csub, Anc.sub, List.map, stCells, xL, xM, Nat.reduceAdd, xD, xE, xT, xU, xC, xN, zCF, rOp] at hS
  generalize Act.tau a 7 = v7 at hS
  refine then_n (wp_ret ?_)
  obtain ⟨F, hS⟩ := hS.rename 101 1 rfl rfl
  have hS := hS.turn 1 rfl (r' := RS.hp (rowH 80 4 rOp l v7)) (fun _ _ _ _ h => by rw [hg]; exact h)
  refine ret_N1 (h' := fun v => rowH 80 4 rOp l v) hG hS rfl (.tmp rfl .nil) (.one .one) rfl

end Go.Proofs.Ytpnaolljmhhdbaa
