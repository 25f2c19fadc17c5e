/- Sequences: Insert, Set, Del, Of. No condition beyond those that each theorem says. -/
import Derived.Test.YtdfidiehkkbimaaSq2
namespace Go.Proofs.Ytdfidiehkkbimaa
open Go Go.Gm
set_option linter.unusedVariables false
set_option linter.unusedSimpArgs false
set_option maxHeartbeats 4000000
set_option maxRecDepth 8000


def qInsM (room : Int) (q : List Cell) (x : Int) (t : Tree) (root j : Int) : St := chgM (decide (0 ≤ j) && decide (j ≤ tSize t)) q (insS room q 0 x t root j)
def qSetM (room : Int) (q : List Cell) (x : Int) (t : Tree) (root j : Int) : St := chgM (decide (0 ≤ j) && decide (j < tSize t)) q (setS room q 0 x t root j)
def qDelM (room : Int) (q : List Cell) (t : Tree) (root j : Int) : St := chgM (decide (0 ≤ j) && decide (j < tSize t)) q (sdelS room q 0 t root j).2
def qOfM (room : Int) (q : List Cell) (l : List Int) : St := chgM true q (allQ room (l.length + 1) q 0 l)

theorem sINS_c (o : Option Nat) (room : Int) (q : List Cell) (root : Int) (t : Tree) (hr : Rep kz q t root) (hsz : tSize t ≤ 1000000) (j : Int) (x : Int) : FnG Try.prog 30 1 [.agg [.is (arV o), .int .i64 root], .int .i64 j, .int .i64 x] [arH o room q] (.tup [.agg [.is (arV o), .int .i64 (qInsM room q x t root j).2.2], .int .i64 (qInsM room q x t root j).2.1]) (fun _ => [arH o room (qInsM room q x t root j).1]) := by
  refine FnG.mk Try.func30 rfl Try.ntmps30 rfl (by kernel_rfl) ?_
  intro B F0 a w F hB hG hS
  refine wp_seq ?_
  refine region_q hS
    (cF rfl (oX 101 (.conv .t .agg)) r1 trivial
    (cF rfl (o_box1 102 .t one_int) r1 trivial
    (cF rfl (o_box1 103 .t one_int) r1 trivial
    (cF rfl (oH [.pointer none, .int .i64 0] 104) trivial trivial
    (cF rfl (oN (.ci (by kernel_rfl))) trivial trivial
    Chain.nil)))))
    hB ?_
  clear hS; intro a w F hS
  replace hS := hS.sub
  obtain ⟨F, hS⟩ := hS.nm [7, 6, 5, 4, 3] [104, 103, 102, 101, 1, 0] rfl rfl
  try dsimp only [RS.sub, SF.sub, CF.sub, csub, Anc.sub, List.map, zCF, rCell, rPair] at hS
  generalize Act.tau a 3 = v3 at hS
  generalize Act.tau a 4 = v4 at hS
  generalize Act.tau a 5 = v5 at hS
  generalize Act.tau a 6 = v6 at hS
  obtain ⟨F, hS⟩ := hS.giveRef 101 3 rfl rfl rfl
  obtain ⟨F, hS⟩ := hS.giveRef 102 4 rfl rfl rfl
  obtain ⟨F, hS⟩ := hS.giveRef 103 5 rfl rfl rfl
  obtain ⟨F, hS⟩ := hS.nm [7, 6, 5, 4, 3] [104, 1, 0] rfl rfl
  try dsimp only [Go.Gm.unCF] at hS
  refine then_n (wp_seq ?_)
  refine region_any (by kernel_rfl) hS (by kernel_rfl)
    (cF rfl (oR true 2 .t) r1 trivial
    (cF rfl (oR false 1 .t) r1 trivial
    (cF rfl (o_geq .t (.ci (by kernel_rfl))) r1 trivial
    (cF rfl (oM .t) r1 trivial
    (Chain.cons (Cert.cond rfl rfl (fun h => o_load_ref (ag := false) (sz := 1) .t (by kernel_rfl) (by kernel_rfl) (by kernel_rfl))) r2 trivial
    (Chain.cons (Cert.cond rfl rfl (fun h => o_load_ref (ag := true) (sz := 2) .t (by kernel_rfl) (by kernel_rfl) (by kernel_rfl))) r2 trivial
    (Chain.cons (Cert.condR rfl rfl (by rfl) (fun h => o_callG1 1 (slen_c o room q root t hr) Try.func37 rfl (by kernel_rfl) (Args.one (.pagg (.w h))))) r2 r1
    (Chain.cons (Cert.cond rfl rfl (fun h => o_leq (.w h) (.w h))) r3 trivial
    (cF rfl (o_and2 .t .t) r2 trivial
    (cF rfl (o_makeFunc (Args.three .t .t .t)) r3 trivial
    (cF rfl (o_callG1 1 (schange_c o room q root (decide (0 ≤ j) && decide (j ≤ tSize t)) 80 Try.f80 [.ref [.is (arV o), .int .i64 root], .ref [.int .i64 j], .ref [.int .i64 x]] Try.func80 rfl (by kernel_rfl) (insS room q 0 x t root j) (fun h b => by simp only [Bool.and_eq_true, decide_eq_true_eq] at h; exact sIns1_c b o root room q x t hr j h.1 h.2 hsz)) Try.func79 rfl (by kernel_rfl) (Args.three (.pagg .t) .t .t)) r3 r1
    (cF rfl (o_extract .t rfl) r1 trivial
    (cF rfl (o_extract .t rfl) r1 trivial
    (cF rfl (oA 2 104 .is (.conv .t .agg)) r2 r1
    (cF rfl (oN .t) r1 trivial
    Chain.nil)))))))))))))))
    (by kernel_rfl) (by rw [hB]; kernel_rfl) ?_
  clear hS; intro a w F hS
  obtain ⟨F, hS⟩ := hS.nm [7, 6] [104, 1, 0] rfl rfl
  try dsimp only [List.map, stCells, xL, xM, Nat.reduceAdd, xD, xE, xT, xU, xC, xN, zCF, ldSF, rCell, rPair] at hS
  refine then_n (wp_ret ?_)
  refine ret_G1 hG hS rfl (.cell (n := 104) (ag := true) (sz := 2) rfl .is rfl (by kernel_rfl) (by kernel_rfl) (by kernel_rfl) (.tmp rfl .nil)) (.two (.aggU rfl rfl) (.int rfl)) rfl

theorem sOf_c (o : Option Nat) (room : Int) (q : List Cell) (l : List Int) : FnG Try.prog 75 1 [.is (arV o), .sl rInt l] [arH o room q] (.tup [.agg [.is (arV o), .int .i64 (qOfM room q l).2.2], .int .i64 (qOfM room q l).2.1]) (fun _ => [arH o room (qOfM room q l).1]) := by
  refine FnG.mk Try.func75 rfl Try.ntmps75 rfl (by kernel_rfl) ?_
  intro B F0 a w F hB hG hS
  refine wp_seq ?_
  refine region_q hS
    (cF rfl (o_box1 101 .t one_sl) r1 trivial
    (cF rfl (oH [.pointer none, .int .i64 0] 102) trivial trivial
    (cF rfl (oN (.ci (by kernel_rfl))) trivial trivial
    Chain.nil)))
    hB ?_
  clear hS; intro a w F hS
  replace hS := hS.sub
  obtain ⟨F, hS⟩ := hS.nm [5, 4, 3, 0] [102, 101, 1, 0] rfl rfl
  try dsimp only [RS.sub, SF.sub, CF.sub, csub, Anc.sub, List.map, zCF, rCell, rPair] at hS
  generalize Act.tau a 3 = v3 at hS
  generalize Act.tau a 4 = v4 at hS
  obtain ⟨F, hS⟩ := hS.giveRef 101 3 rfl rfl rfl
  obtain ⟨F, hS⟩ := hS.nm [5, 4, 3, 0] [102, 1, 0] rfl rfl
  try dsimp only [Go.Gm.unCF] at hS
  refine then_n (wp_seq ?_)
  refine region_q hS
    (cF rfl (oM .t) r1 trivial
    (cF rfl (oP (snew_c o) Try.func28 (Args.one .t)) r1 trivial
    (cF rfl (o_makeFunc (Args.one .t)) r1 trivial
    (cF rfl (o_callG1 1 (schange_c o room q 0 true 121 Try.f121 [.ref [.sl rInt l]] Try.func121 rfl (by kernel_rfl) (allQ room (l.length + 1) q 0 l) (fun h b => sOf1_c b o 0 room q l)) Try.func79 rfl (by kernel_rfl) (Args.three .t .cb .t)) r2 r1
    (cF rfl (o_extract .t rfl) r1 trivial
    (cF rfl (o_extract .t rfl) r1 trivial
    (cF rfl (oA 2 102 .is (.conv .t .agg)) r2 r1
    (cF rfl (oN .t) r1 trivial
    Chain.nil))))))))
    hB ?_
  clear hS; intro a w F hS
  obtain ⟨F, hS⟩ := hS.nm [5, 4] [102, 1, 0] rfl rfl
  try dsimp only [List.map, stCells, xL, xM, Nat.reduceAdd, xD, xE, xT, xU, xC, xN, zCF, rCell, rPair] at hS
  refine then_n (wp_ret ?_)
  refine ret_G1 hG hS rfl (.cell (n := 102) (ag := true) (sz := 2) rfl .is rfl (by kernel_rfl) (by kernel_rfl) (by kernel_rfl) (.tmp rfl .nil)) (.two (.aggU rfl rfl) (.int rfl)) rfl

end Go.Proofs.Ytdfidiehkkbimaa
