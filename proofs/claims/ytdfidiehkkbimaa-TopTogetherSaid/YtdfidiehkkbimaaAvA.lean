/- Maps: Move. No condition beyond those that each theorem says. -/
import Derived.Test.YtdfidiehkkbimaaAv9
namespace Go.Proofs.Ytdfidiehkkbimaa
open Go Go.Gm
set_option linter.unusedVariables false
set_option linter.unusedSimpArgs false
set_option maxHeartbeats 4000000
set_option maxRecDepth 8000


def moveM (room2 : Int) (q2 : List Cell) (t : Tree) : St := toldM q2.length (allS room2 ((tList t).length + 1) q2 0 (tList t))

theorem mMove_c (o : Option Nat) (room : Int) (q : List Cell) (root : Int) (t0 : Tree) (hr0 : Rep id q t0 root) (hs : tSize t0 ≤ 1000000) (o2 : Option Nat) (room2 : Int) (q2 : List Cell) : FnG Try.prog 41 2 [.agg [.is (arV o), .int .i64 root], .is (arV o2)] [arH o room q, arH o2 room2 q2] (.tup [.agg [.is (arV o2), .int .i64 (moveM room2 q2 t0).2.2], .int .i64 (moveM room2 q2 t0).2.1]) (fun _ => [arH o room q, arH o2 room2 (moveM room2 q2 t0).1]) := by
  refine FnG.mk Try.func41 rfl Try.ntmps41 rfl (by kernel_rfl) ?_
  intro B F0 a w F hB hG hS
  have hg : (moveM room2 q2 t0) = toldM q2.length (allS room2 ((tList t0).length + 1) q2 0 (tList t0)) := rfl
  refine wp_seq ?_
  refine region_q hS
    (cF rfl (oX 101 (.conv .t .agg)) r1 trivial
    (cF rfl (oH [.pointer none, .int .i64 0] 102) trivial trivial
    (cF rfl (oN (.ci (by kernel_rfl))) trivial trivial
    Chain.nil)))
    hB ?_
  clear hS; intro a w F hS
  replace hS := hS.sub
  obtain ⟨F, hS⟩ := hS.nm [5, 4, 2, 1] [102, 101, 2, 1, 0] rfl rfl
  try dsimp only [RS.sub, SF.sub, CF.sub, csub, Anc.sub, List.map, zCF, rCell, rPair] at hS
  generalize Act.tau a 2 = v2 at hS
  generalize Act.tau a 4 = v4 at hS
  refine then_n (wp_seq ?_)
  refine region_q hS
    (cF rfl (oM .t) r1 trivial
    (cF rfl (oP (mnew_c o2) Try.func38 (Args.one .t)) r1 trivial
    (cF rfl (oB [(0, .tmp 9)] [.pointer none, .int .i64 0, .int .i64 0] [(0, 2), (2, 1)] (.agg rfl (.conv .t .agg) (by kernel_rfl) (by kernel_rfl) .nil)) r1 trivial
    (cF rfl (oX 103 .t) r1 trivial
    (cF rfl (oN .t) r1 trivial
    Chain.nil)))))
    hB ?_
  clear hS; intro a w F hS
  replace hS := hS.sub
  obtain ⟨F, hS⟩ := hS.nm [6, 5, 4, 2, 1] [103, 102, 101, 2, 1, 0] rfl rfl
  try dsimp only [RS.sub, SF.sub, CF.sub, csub, Anc.sub, List.map, stCells, xL, xM, Nat.reduceAdd, xD, xE, xT, xU, xC, xN, zCF, rCell, rPair] at hS
  generalize Act.tau a 11 = v11 at hS
  refine then_n (wp_seq ?_)
  refine region_q hS
    (cF rfl (oM .t) r1 trivial
    (cF rfl (o_callG1 2 (aLen_c o2 room2 q2) Try.func89 rfl (by kernel_rfl) (Args.one .t)) r1 r1
    (cF rfl (oN .t) r1 trivial
    Chain.nil)))
    hB ?_
  clear hS; intro a w F hS
  obtain ⟨F, hS⟩ := hS.nm [7, 6, 5, 4, 2] [103, 102, 101, 2, 1, 0] rfl rfl
  try dsimp only [rCell, rPair] at hS
  refine then_n (wp_seq ?_)
  obtain ⟨b, rfl⟩ := hS.shape 103 rfl
  have hS := hS.fresh 4 rfl
  obtain ⟨F, hS⟩ := hS.push 4 2 rfl rfl rfl (by kernel_rfl)
  obtain ⟨F, hS⟩ := hS.push 4 103 rfl rfl rfl (by kernel_rfl)
  have hS := hS.turn 4 rfl (r' := RS.hp (bldH 157 (.pointer (some ⟨b, 0, none⟩)) o2 0 0 room2 q2)) (fun _ _ _ _ h => h)
  obtain ⟨F, hS⟩ := hS.nm [7, 6, 5, 4, 2] [102, 101, 4, 1, 0] rfl rfl
  refine region_q hS
    (cF rfl (oM .t) r1 trivial
    (cF rfl (oM .t) r1 trivial
    (cF rfl (oL true 2 101 .is) r1 r1
    (cF rfl (o_callG1 1 (mList_c o room q root t0 hr0 hs) Try.func45 rfl (by kernel_rfl) (Args.one (.pagg .t))) r1 r1
    (cF rfl (o_callG1 4 (mall_c b o2 0 room2 ((tList t0).length + 1) q2 0 (tList t0) (Nat.lt_succ_self _)) Try.func92 rfl (by kernel_rfl) (Args.two .t .t)) r2 r1
    (cF rfl (oM .t) r1 trivial
    (cF rfl (o_callG1 4 (mtold_c b o2 0 (allS room2 ((tList t0).length + 1) q2 0 (tList t0)).2.1 room2 (allS room2 ((tList t0).length + 1) q2 0 (tList t0)).1 (allS room2 ((tList t0).length + 1) q2 0 (tList t0)).2.2 q2.length) Try.func90 rfl (by kernel_rfl) (Args.three .t .t .t)) r3 r1
    (cF rfl (o_extract .t rfl) r1 trivial
    (cF rfl (o_extract .t rfl) r1 trivial
    (cF rfl (oA 2 102 .is (.conv .t .agg)) r2 r1
    (cF rfl (oN .t) r1 trivial
    Chain.nil)))))))))))
    hB ?_
  clear hS; intro a w F hS
  obtain ⟨F, hS⟩ := hS.nm [5, 4] [102, 4, 1, 0] rfl rfl
  try dsimp only [List.map, stCells, xL, xM, Nat.reduceAdd, xD, xE, xT, xU, xC, xN, zCF, ldSF, rCell, rPair] at hS
  refine then_n (wp_ret ?_)
  obtain ⟨F, hS⟩ := hS.peel 4 7 rfl rfl
  obtain ⟨F, hS⟩ := hS.peel 4 2 rfl rfl
  have hS := hS.turn 2 rfl (r' := RS.hp (arH o2 room2 (moveM room2 q2 t0).1)) (fun _ _ _ _ h => by rw [hg]; exact h)
  refine ret_G2c hG hS rfl (.cell (n := 102) (ag := true) (sz := 2) rfl .is rfl (by kernel_rfl) (by kernel_rfl) (by kernel_rfl) (.tmp rfl .nil)) (.two (.aggU rfl (by first | (rw [hg]; done) | (rw [hg]; rfl))) (.int (by first | (rw [hg]; done) | (rw [hg]; rfl)))) rfl rfl

end Go.Proofs.Ytdfidiehkkbimaa
