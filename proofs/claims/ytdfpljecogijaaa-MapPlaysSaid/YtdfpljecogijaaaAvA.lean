/- Maps: Move. No condition beyond those that each theorem says. -/
import Derived.Test.YtdfpljecogijaaaAv9
namespace Go.Proofs.Ytdfpljecogijaaa
open Go Go.Gm
set_option linter.unusedVariables false
set_option linter.unusedSimpArgs false
set_option maxHeartbeats 4000000
set_option maxRecDepth 8000


def moveM (room2 : Int) (q2 : List Cell) (t : Tree) : St := toldM q2.length (allS room2 ((tList t).length + 1) q2 0 (tList t))

theorem mMove_c (o : Option Nat) (room : Int) (q : List Cell) (root : Int) (t0 : Tree) (hr0 : Rep id q t0 root) (hs : tSize t0 ≤ 1000000) (o2 : Option Nat) (room2 : Int) (q2 : List Cell) : FnG Try.prog 54 2 [.agg [.is (arV o), .int .i64 root], .is (arV o2)] [arH o room q, arH o2 room2 q2] (.tup [.agg [.is (arV o2), .int .i64 (moveM room2 q2 t0).2.2], .int .i64 (moveM room2 q2 t0).2.1]) (fun _ => [arH o room q, arH o2 room2 (moveM room2 q2 t0).1]) := by
  refine FnG.mk Try.func54 rfl Try.ntmps54 rfl (by kernel_rfl) ?_
  intro B F0 a w F hB hG hS
  have hg : (moveM room2 q2 t0) = toldM q2.length (allS room2 ((tList t0).length + 1) q2 0 (tList t0)) := rfl
  refine wp_seq ?_
  refine region_seq hS (by kernel_rfl)
    (cF rfl (o_boxA 101 (.conv .t .agg) (by kernel_rfl)) r1 trivial
    (cF rfl (o_alloc (zs := [.pointer none, .int .i64 0]) 102 (by kernel_rfl)) trivial trivial
    (cF rfl (o_assign (.ci (by kernel_rfl)) (by rfl)) trivial trivial
    Chain.nil)))
    (by kernel_rfl) (by rw [hB]; kernel_rfl) ?_
  clear hS; intro a w F hS
  replace hS := hS.sub
  obtain ⟨F, hS⟩ := hS.norm [(1, _), (2, _), (4, _), (5, _)] [(0, _), (1, _), (2, _), (101, _), (102, _)] r4 r5
  try dsimp only [RS.sub, SF.sub, CF.sub, csub, Anc.sub, List.map, zCF, rCell, rPair] at hS
  generalize Act.tau a 2 = v2 at hS
  generalize Act.tau a 4 = v4 at hS
  refine then_n ?_
  refine wp_seq ?_
  refine region_seq hS (by kernel_rfl)
    (cF rfl (o_move .t (by rfl)) r1 trivial
    (cF rfl (o_callP (mnew_c o2) Try.func21 rfl (by kernel_rfl) (Args.one .t)) r1 trivial
    (cF rfl (o_build (r := [(0, .tmp 9)]) (zs := [.pointer none, .int .i64 0, .int .i64 0]) (pl := [(0, 2), (2, 1)]) (by kernel_rfl) (by kernel_rfl) (.agg rfl (.conv .t .agg) (by kernel_rfl) (by kernel_rfl) .nil) (by rfl)) r1 trivial
    (cF rfl (o_boxA 103 .t (by kernel_rfl)) r1 trivial
    (cF rfl (o_assign .t (by rfl)) r1 trivial
    Chain.nil)))))
    (by kernel_rfl) (by rw [hB]; kernel_rfl) ?_
  clear hS; intro a w F hS
  replace hS := hS.sub
  obtain ⟨F, hS⟩ := hS.norm [(1, _), (2, _), (4, _), (5, _), (6, _)] [(0, _), (1, _), (2, _), (101, _), (102, _), (103, _)] r5 r6
  try dsimp only [RS.sub, SF.sub, CF.sub, csub, Anc.sub, List.map, stCells, List.length_cons, List.length_nil, Nat.reduceAdd, List.drop_succ_cons, List.drop_zero, List.drop_nil, List.take_succ_cons, List.take_zero, List.take_nil, List.cons_append, List.nil_append, zCF, rCell, rPair] at hS
  generalize Act.tau a 11 = v11 at hS
  refine then_n ?_
  refine wp_seq ?_
  refine region_seq hS (by kernel_rfl)
    (cF rfl (o_move .t (by rfl)) r1 trivial
    (cF rfl (o_callG1 2 (aLen_c o2 room2 q2) Try.func37 rfl (by kernel_rfl) (Args.one .t)) r1 r1
    (cF rfl (o_assign .t (by rfl)) r1 trivial
    Chain.nil)))
    (by kernel_rfl) (by rw [hB]; kernel_rfl) ?_
  clear hS; intro a w F hS
  obtain ⟨F, hS⟩ := hS.norm [(2, _), (4, _), (5, _), (6, _), (7, _)] [(0, _), (1, _), (2, _), (101, _), (102, _), (103, _)] r5 r6
  try dsimp only [rCell, rPair] at hS
  refine then_n ?_
  refine wp_seq ?_
  obtain ⟨b, rfl⟩ := hS.shape 103 rfl
  have hS := hS.fresh 4 rfl
  obtain ⟨F, hS⟩ := hS.push 4 2 rfl rfl rfl (by kernel_rfl)
  obtain ⟨F, hS⟩ := hS.push 4 103 rfl rfl rfl (by kernel_rfl)
  have hS := hS.turn 4 rfl (r' := RS.hp (bldH 111 (.pointer (some ⟨b, 0, none⟩)) o2 0 0 room2 q2)) (fun _ _ _ _ h => h)
  obtain ⟨F, hS⟩ := hS.norm [(2, _), (4, _), (5, _), (6, _), (7, _)] [(0, _), (1, _), (4, _), (101, _), (102, _)] r5 r5
  refine region_seq hS (by kernel_rfl)
    (cF rfl (o_move .t (by rfl)) r1 trivial
    (cF rfl (o_move .t (by rfl)) r1 trivial
    (cF rfl (o_load (ag := true) (sz := 2) 101 .is (by kernel_rfl) (by kernel_rfl) (by kernel_rfl) (by rfl)) r1 r1
    (cF rfl (o_callG1 1 (mList_c o room q root t0 hr0 hs) Try.func27 rfl (by kernel_rfl) (Args.one (.pagg .t))) r1 r1
    (cF rfl (o_callG1 4 (mall_c b o2 0 room2 ((tList t0).length + 1) q2 0 (tList t0) (Nat.lt_succ_self _)) Try.func73 rfl (by kernel_rfl) (Args.two .t .t)) r2 r1
    (cF rfl (o_move .t (by rfl)) r1 trivial
    (cF rfl (o_callG1 4 (mtold_c b o2 0 (allS room2 ((tList t0).length + 1) q2 0 (tList t0)).2.1 room2 (allS room2 ((tList t0).length + 1) q2 0 (tList t0)).1 (allS room2 ((tList t0).length + 1) q2 0 (tList t0)).2.2 q2.length) Try.func59 rfl (by kernel_rfl) (Args.three .t .t .t)) r3 r1
    (cF rfl (o_extract .t rfl) r1 trivial
    (cF rfl (o_extract .t rfl) r1 trivial
    (cF rfl (o_storeA (sz := 2) 102 .is (.conv .t .agg) (by kernel_rfl) (by kernel_rfl) (by kernel_rfl)) r2 r1
    (cF rfl (o_assign .t (by rfl)) r1 trivial
    Chain.nil)))))))))))
    (by kernel_rfl) (by rw [hB]; kernel_rfl) ?_
  clear hS; intro a w F hS
  obtain ⟨F, hS⟩ := hS.norm [(4, _), (5, _)] [(0, _), (1, _), (4, _), (102, _)] r2 r4
  try dsimp only [List.map, stCells, List.length_cons, List.length_nil, Nat.reduceAdd, List.drop_succ_cons, List.drop_zero, List.drop_nil, List.take_succ_cons, List.take_zero, List.take_nil, List.cons_append, List.nil_append, zCF, ldSF, rCell, rPair] at hS
  refine then_n ?_
  refine wp_ret ?_
  obtain ⟨F, hS⟩ := hS.peel 4 7 rfl rfl
  obtain ⟨F, hS⟩ := hS.peel 4 2 rfl rfl
  have hS := hS.turn 2 rfl (r' := RS.hp (arH o2 room2 (moveM room2 q2 t0).1)) (fun _ _ _ _ h => by rw [hg]; exact h)
  refine ret_G2c hG hS rfl (.cell (n := 102) (ag := true) (sz := 2) rfl .is rfl (by kernel_rfl) (by kernel_rfl) (by kernel_rfl) (.tmp rfl .nil)) (.two (.aggU rfl (by first | (rw [hg]; done) | (rw [hg]; rfl))) (.int (by first | (rw [hg]; done) | (rw [hg]; rfl)))) rfl rfl

end Go.Proofs.Ytdfpljecogijaaa
