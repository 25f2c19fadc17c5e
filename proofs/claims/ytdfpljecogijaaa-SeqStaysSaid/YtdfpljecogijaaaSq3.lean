/- Sequences: Insert, Set, Del, Of. No condition beyond those that each theorem says. -/
import Derived.Test.YtdfpljecogijaaaSq2
namespace Go.Proofs.Ytdfpljecogijaaa
open Go Go.Gm
set_option linter.unusedVariables false
set_option linter.unusedSimpArgs false
set_option maxHeartbeats 4000000
set_option maxRecDepth 8000


def qInsM (room : Int) (q : List Cell) (x : Int) (t : Tree) (root j : Int) : St := chgM (decide (0 ≤ j) && decide (j ≤ tSize t)) q (insS room q 0 x t root j)
def qSetM (room : Int) (q : List Cell) (x : Int) (t : Tree) (root j : Int) : St := chgM (decide (0 ≤ j) && decide (j < tSize t)) q (setS room q 0 x t root j)
def qDelM (room : Int) (q : List Cell) (t : Tree) (root j : Int) : St := chgM (decide (0 ≤ j) && decide (j < tSize t)) q (sdelS room q 0 t root j).2
def qOfM (room : Int) (q : List Cell) (l : List Int) : St := chgM true q (allQ room (l.length + 1) q 0 l)

theorem sINS_c (o : Option Nat) (room : Int) (q : List Cell) (root : Int) (t : Tree) (hr : Rep kz q t root) (hsz : tSize t ≤ 1000000) (j : Int) (x : Int) : FnG Try.prog 15 1 [.agg [.is (arV o), .int .i64 root], .int .i64 j, .int .i64 x] [arH o room q] (.tup [.agg [.is (arV o), .int .i64 (qInsM room q x t root j).2.2], .int .i64 (qInsM room q x t root j).2.1]) (fun _ => [arH o room (qInsM room q x t root j).1]) := by
  refine FnG.mk Try.func15 rfl Try.ntmps15 rfl (by kernel_rfl) ?_
  intro B F0 a w F hB hG hS
  refine wp_seq ?_
  refine region_seq hS (by kernel_rfl)
    (cF rfl (o_boxA 101 (.conv .t .agg) (by kernel_rfl)) r1 trivial
    (cF rfl (o_box1 102 .t one_int) r1 trivial
    (cF rfl (o_box1 103 .t one_int) r1 trivial
    (cF rfl (o_alloc (zs := [.pointer none, .int .i64 0]) 104 (by kernel_rfl)) trivial trivial
    (cF rfl (o_assign (.ci (by kernel_rfl)) (by rfl)) trivial trivial
    Chain.nil)))))
    (by kernel_rfl) (by rw [hB]; kernel_rfl) ?_
  clear hS; intro a w F hS
  replace hS := hS.sub
  obtain ⟨F, hS⟩ := hS.norm [(3, _), (4, _), (5, _), (6, _), (7, _)] [(0, _), (1, _), (101, _), (102, _), (103, _), (104, _)] r5 r6
  try dsimp only [RS.sub, SF.sub, CF.sub, csub, Anc.sub, List.map, zCF, rCell, rPair] at hS
  generalize Act.tau a 3 = v3 at hS
  generalize Act.tau a 4 = v4 at hS
  generalize Act.tau a 5 = v5 at hS
  generalize Act.tau a 6 = v6 at hS
  obtain ⟨F, hS⟩ := hS.giveRef 101 3 rfl rfl rfl
  obtain ⟨F, hS⟩ := hS.giveRef 102 4 rfl rfl rfl
  obtain ⟨F, hS⟩ := hS.giveRef 103 5 rfl rfl rfl
  obtain ⟨F, hS⟩ := hS.norm [(3, _), (4, _), (5, _), (6, _), (7, _)] [(0, _), (1, _), (104, _)] r5 r3
  try dsimp only [Go.Gm.unCF] at hS
  refine then_n ?_
  refine wp_seq ?_
  refine region_any (by kernel_rfl) hS (by kernel_rfl)
    (cF rfl (o_load_ref (ag := true) (sz := 2) .t (by kernel_rfl) (by kernel_rfl) (by kernel_rfl)) r1 trivial
    (cF rfl (o_load_ref (ag := false) (sz := 1) .t (by kernel_rfl) (by kernel_rfl) (by kernel_rfl)) r1 trivial
    (cF rfl (o_geq .t (.ci (by kernel_rfl))) r1 trivial
    (cF rfl (o_move .t (by rfl)) r1 trivial
    (Chain.cons (Cert.cond rfl rfl (fun h => o_load_ref (ag := false) (sz := 1) .t (by kernel_rfl) (by kernel_rfl) (by kernel_rfl))) r2 trivial
    (Chain.cons (Cert.cond rfl rfl (fun h => o_load_ref (ag := true) (sz := 2) .t (by kernel_rfl) (by kernel_rfl) (by kernel_rfl))) r2 trivial
    (Chain.cons (Cert.condR rfl rfl (by rfl) (fun h => o_callG1 1 (slen_c o room q root t hr) Try.func14 rfl (by kernel_rfl) (Args.one (.pagg (.w h))))) r2 r1
    (Chain.cons (Cert.cond rfl rfl (fun h => o_leq (.w h) (.w h))) r3 trivial
    (cF rfl (o_and2 .t .t) r2 trivial
    (cF rfl (o_makeFunc (Args.three .t .t .t)) r3 trivial
    (cF rfl (o_callG1 1 (schange_c o room q root (decide (0 ≤ j) && decide (j ≤ tSize t)) 49 Try.f49 [.ref [.is (arV o), .int .i64 root], .ref [.int .i64 j], .ref [.int .i64 x]] Try.func49 rfl (by kernel_rfl) (insS room q 0 x t root j) (fun h b => by simp only [Bool.and_eq_true, decide_eq_true_eq] at h; exact sIns1_c b o root room q x t hr j h.1 h.2 hsz)) Try.func48 rfl (by kernel_rfl) (Args.three (.pagg .t) .t .t)) r3 r1
    (cF rfl (o_extract .t rfl) r1 trivial
    (cF rfl (o_extract .t rfl) r1 trivial
    (cF rfl (o_storeA (sz := 2) 104 .is (.conv .t .agg) (by kernel_rfl) (by kernel_rfl) (by kernel_rfl)) r2 r1
    (cF rfl (o_assign .t (by rfl)) r1 trivial
    Chain.nil)))))))))))))))
    (by kernel_rfl) (by rw [hB]; kernel_rfl) ?_
  clear hS; intro a w F hS
  obtain ⟨F, hS⟩ := hS.norm [(6, _), (7, _)] [(0, _), (1, _), (104, _)] r2 r3
  try dsimp only [List.map, stCells, List.length_cons, List.length_nil, Nat.reduceAdd, List.drop_succ_cons, List.drop_zero, List.drop_nil, List.take_succ_cons, List.take_zero, List.take_nil, List.cons_append, List.nil_append, zCF, ldSF, rCell, rPair] at hS
  refine then_n ?_
  refine wp_ret ?_
  refine ret_G1 hG hS rfl (.cell (n := 104) (ag := true) (sz := 2) rfl .is rfl (by kernel_rfl) (by kernel_rfl) (by kernel_rfl) (.tmp rfl .nil)) (.two (.aggU rfl rfl) (.int rfl)) rfl

theorem sSET_c (o : Option Nat) (room : Int) (q : List Cell) (root : Int) (t : Tree) (hr : Rep kz q t root) (hsz : tSize t ≤ 1000000) (j : Int) (x : Int) : FnG Try.prog 33 1 [.agg [.is (arV o), .int .i64 root], .int .i64 j, .int .i64 x] [arH o room q] (.tup [.agg [.is (arV o), .int .i64 (qSetM room q x t root j).2.2], .int .i64 (qSetM room q x t root j).2.1]) (fun _ => [arH o room (qSetM room q x t root j).1]) := by
  refine FnG.mk Try.func33 rfl Try.ntmps33 rfl (by kernel_rfl) ?_
  intro B F0 a w F hB hG hS
  refine wp_seq ?_
  refine region_seq hS (by kernel_rfl)
    (cF rfl (o_boxA 101 (.conv .t .agg) (by kernel_rfl)) r1 trivial
    (cF rfl (o_box1 102 .t one_int) r1 trivial
    (cF rfl (o_box1 103 .t one_int) r1 trivial
    (cF rfl (o_alloc (zs := [.pointer none, .int .i64 0]) 104 (by kernel_rfl)) trivial trivial
    (cF rfl (o_assign (.ci (by kernel_rfl)) (by rfl)) trivial trivial
    Chain.nil)))))
    (by kernel_rfl) (by rw [hB]; kernel_rfl) ?_
  clear hS; intro a w F hS
  replace hS := hS.sub
  obtain ⟨F, hS⟩ := hS.norm [(3, _), (4, _), (5, _), (6, _), (7, _)] [(0, _), (1, _), (101, _), (102, _), (103, _), (104, _)] r5 r6
  try dsimp only [RS.sub, SF.sub, CF.sub, csub, Anc.sub, List.map, zCF, rCell, rPair] at hS
  generalize Act.tau a 3 = v3 at hS
  generalize Act.tau a 4 = v4 at hS
  generalize Act.tau a 5 = v5 at hS
  generalize Act.tau a 6 = v6 at hS
  obtain ⟨F, hS⟩ := hS.giveRef 101 3 rfl rfl rfl
  obtain ⟨F, hS⟩ := hS.giveRef 102 4 rfl rfl rfl
  obtain ⟨F, hS⟩ := hS.giveRef 103 5 rfl rfl rfl
  obtain ⟨F, hS⟩ := hS.norm [(3, _), (4, _), (5, _), (6, _), (7, _)] [(0, _), (1, _), (104, _)] r5 r3
  try dsimp only [Go.Gm.unCF] at hS
  refine then_n ?_
  refine wp_seq ?_
  refine region_any (by kernel_rfl) hS (by kernel_rfl)
    (cF rfl (o_load_ref (ag := true) (sz := 2) .t (by kernel_rfl) (by kernel_rfl) (by kernel_rfl)) r1 trivial
    (cF rfl (o_load_ref (ag := false) (sz := 1) .t (by kernel_rfl) (by kernel_rfl) (by kernel_rfl)) r1 trivial
    (cF rfl (o_geq .t (.ci (by kernel_rfl))) r1 trivial
    (cF rfl (o_move .t (by rfl)) r1 trivial
    (Chain.cons (Cert.cond rfl rfl (fun h => o_load_ref (ag := false) (sz := 1) .t (by kernel_rfl) (by kernel_rfl) (by kernel_rfl))) r2 trivial
    (Chain.cons (Cert.cond rfl rfl (fun h => o_load_ref (ag := true) (sz := 2) .t (by kernel_rfl) (by kernel_rfl) (by kernel_rfl))) r2 trivial
    (Chain.cons (Cert.condR rfl rfl (by rfl) (fun h => o_callG1 1 (slen_c o room q root t hr) Try.func14 rfl (by kernel_rfl) (Args.one (.pagg (.w h))))) r2 r1
    (Chain.cons (Cert.cond rfl rfl (fun h => o_lss (.w h) (.w h))) r3 trivial
    (cF rfl (o_and2 .t .t) r2 trivial
    (cF rfl (o_makeFunc (Args.three .t .t .t)) r3 trivial
    (cF rfl (o_callG1 1 (schange_c o room q root (decide (0 ≤ j) && decide (j < tSize t)) 63 Try.f63 [.ref [.is (arV o), .int .i64 root], .ref [.int .i64 j], .ref [.int .i64 x]] Try.func63 rfl (by kernel_rfl) (setS room q 0 x t root j) (fun h b => by simp only [Bool.and_eq_true, decide_eq_true_eq] at h; exact sSet1_c b o root room q x t hr j h.1 h.2 hsz)) Try.func48 rfl (by kernel_rfl) (Args.three (.pagg .t) .t .t)) r3 r1
    (cF rfl (o_extract .t rfl) r1 trivial
    (cF rfl (o_extract .t rfl) r1 trivial
    (cF rfl (o_storeA (sz := 2) 104 .is (.conv .t .agg) (by kernel_rfl) (by kernel_rfl) (by kernel_rfl)) r2 r1
    (cF rfl (o_assign .t (by rfl)) r1 trivial
    Chain.nil)))))))))))))))
    (by kernel_rfl) (by rw [hB]; kernel_rfl) ?_
  clear hS; intro a w F hS
  obtain ⟨F, hS⟩ := hS.norm [(6, _), (7, _)] [(0, _), (1, _), (104, _)] r2 r3
  try dsimp only [List.map, stCells, List.length_cons, List.length_nil, Nat.reduceAdd, List.drop_succ_cons, List.drop_zero, List.drop_nil, List.take_succ_cons, List.take_zero, List.take_nil, List.cons_append, List.nil_append, zCF, ldSF, rCell, rPair] at hS
  refine then_n ?_
  refine wp_ret ?_
  refine ret_G1 hG hS rfl (.cell (n := 104) (ag := true) (sz := 2) rfl .is rfl (by kernel_rfl) (by kernel_rfl) (by kernel_rfl) (.tmp rfl .nil)) (.two (.aggU rfl rfl) (.int rfl)) rfl

theorem sDEL_c (o : Option Nat) (room : Int) (q : List Cell) (root : Int) (t : Tree) (hr : Rep kz q t root) (hsz : tSize t ≤ 1000000) (j : Int) : FnG Try.prog 16 1 [.agg [.is (arV o), .int .i64 root], .int .i64 j] [arH o room q] (.tup [.agg [.is (arV o), .int .i64 (qDelM room q t root j).2.2], .int .i64 (qDelM room q t root j).2.1]) (fun _ => [arH o room (qDelM room q t root j).1]) := by
  refine FnG.mk Try.func16 rfl Try.ntmps16 rfl (by kernel_rfl) ?_
  intro B F0 a w F hB hG hS
  refine wp_seq ?_
  refine region_seq hS (by kernel_rfl)
    (cF rfl (o_boxA 101 (.conv .t .agg) (by kernel_rfl)) r1 trivial
    (cF rfl (o_box1 102 .t one_int) r1 trivial
    (cF rfl (o_alloc (zs := [.pointer none, .int .i64 0]) 103 (by kernel_rfl)) trivial trivial
    (cF rfl (o_assign (.ci (by kernel_rfl)) (by rfl)) trivial trivial
    Chain.nil))))
    (by kernel_rfl) (by rw [hB]; kernel_rfl) ?_
  clear hS; intro a w F hS
  replace hS := hS.sub
  obtain ⟨F, hS⟩ := hS.norm [(2, _), (3, _), (4, _), (5, _)] [(0, _), (1, _), (101, _), (102, _), (103, _)] r4 r5
  try dsimp only [RS.sub, SF.sub, CF.sub, csub, Anc.sub, List.map, zCF, rCell, rPair] at hS
  generalize Act.tau a 2 = v2 at hS
  generalize Act.tau a 3 = v3 at hS
  generalize Act.tau a 4 = v4 at hS
  obtain ⟨F, hS⟩ := hS.giveRef 101 2 rfl rfl rfl
  obtain ⟨F, hS⟩ := hS.giveRef 102 3 rfl rfl rfl
  obtain ⟨F, hS⟩ := hS.norm [(2, _), (3, _), (4, _), (5, _)] [(0, _), (1, _), (103, _)] r4 r3
  try dsimp only [Go.Gm.unCF] at hS
  refine then_n ?_
  refine wp_seq ?_
  refine region_any (by kernel_rfl) hS (by kernel_rfl)
    (cF rfl (o_load_ref (ag := true) (sz := 2) .t (by kernel_rfl) (by kernel_rfl) (by kernel_rfl)) r1 trivial
    (cF rfl (o_load_ref (ag := false) (sz := 1) .t (by kernel_rfl) (by kernel_rfl) (by kernel_rfl)) r1 trivial
    (cF rfl (o_geq .t (.ci (by kernel_rfl))) r1 trivial
    (cF rfl (o_move .t (by rfl)) r1 trivial
    (Chain.cons (Cert.cond rfl rfl (fun h => o_load_ref (ag := false) (sz := 1) .t (by kernel_rfl) (by kernel_rfl) (by kernel_rfl))) r2 trivial
    (Chain.cons (Cert.cond rfl rfl (fun h => o_load_ref (ag := true) (sz := 2) .t (by kernel_rfl) (by kernel_rfl) (by kernel_rfl))) r2 trivial
    (Chain.cons (Cert.condR rfl rfl (by rfl) (fun h => o_callG1 1 (slen_c o room q root t hr) Try.func14 rfl (by kernel_rfl) (Args.one (.pagg (.w h))))) r2 r1
    (Chain.cons (Cert.cond rfl rfl (fun h => o_lss (.w h) (.w h))) r3 trivial
    (cF rfl (o_and2 .t .t) r2 trivial
    (cF rfl (o_makeFunc (Args.two .t .t)) r2 trivial
    (cF rfl (o_callG1 1 (schange_c o room q root (decide (0 ≤ j) && decide (j < tSize t)) 51 Try.f51 [.ref [.is (arV o), .int .i64 root], .ref [.int .i64 j]] Try.func51 rfl (by kernel_rfl) (sdelS room q 0 t root j).2 (fun h b => by simp only [Bool.and_eq_true, decide_eq_true_eq] at h; exact sDel1_c b o root room q t hr j h.1 h.2 hsz)) Try.func48 rfl (by kernel_rfl) (Args.three (.pagg .t) .t .t)) r3 r1
    (cF rfl (o_extract .t rfl) r1 trivial
    (cF rfl (o_extract .t rfl) r1 trivial
    (cF rfl (o_storeA (sz := 2) 103 .is (.conv .t .agg) (by kernel_rfl) (by kernel_rfl) (by kernel_rfl)) r2 r1
    (cF rfl (o_assign .t (by rfl)) r1 trivial
    Chain.nil)))))))))))))))
    (by kernel_rfl) (by rw [hB]; kernel_rfl) ?_
  clear hS; intro a w F hS
  obtain ⟨F, hS⟩ := hS.norm [(4, _), (5, _)] [(0, _), (1, _), (103, _)] r2 r3
  try dsimp only [List.map, stCells, List.length_cons, List.length_nil, Nat.reduceAdd, List.drop_succ_cons, List.drop_zero, List.drop_nil, List.take_succ_cons, List.take_zero, List.take_nil, List.cons_append, List.nil_append, zCF, ldSF, rCell, rPair] at hS
  refine then_n ?_
  refine wp_ret ?_
  refine ret_G1 hG hS rfl (.cell (n := 103) (ag := true) (sz := 2) rfl .is rfl (by kernel_rfl) (by kernel_rfl) (by kernel_rfl) (.tmp rfl .nil)) (.two (.aggU rfl rfl) (.int rfl)) rfl

theorem sOf_c (o : Option Nat) (room : Int) (q : List Cell) (l : List Int) : FnG Try.prog 44 1 [.is (arV o), .sl rInt l] [arH o room q] (.tup [.agg [.is (arV o), .int .i64 (qOfM room q l).2.2], .int .i64 (qOfM room q l).2.1]) (fun _ => [arH o room (qOfM room q l).1]) := by
  refine FnG.mk Try.func44 rfl Try.ntmps44 rfl (by kernel_rfl) ?_
  intro B F0 a w F hB hG hS
  refine wp_seq ?_
  refine region_seq hS (by kernel_rfl)
    (cF rfl (o_box1 101 .t one_sl) r1 trivial
    (cF rfl (o_alloc (zs := [.pointer none, .int .i64 0]) 102 (by kernel_rfl)) trivial trivial
    (cF rfl (o_assign (.ci (by kernel_rfl)) (by rfl)) trivial trivial
    Chain.nil)))
    (by kernel_rfl) (by rw [hB]; kernel_rfl) ?_
  clear hS; intro a w F hS
  replace hS := hS.sub
  obtain ⟨F, hS⟩ := hS.norm [(0, _), (3, _), (4, _), (5, _)] [(0, _), (1, _), (101, _), (102, _)] r4 r4
  try dsimp only [RS.sub, SF.sub, CF.sub, csub, Anc.sub, List.map, zCF, rCell, rPair] at hS
  generalize Act.tau a 3 = v3 at hS
  generalize Act.tau a 4 = v4 at hS
  obtain ⟨F, hS⟩ := hS.giveRef 101 3 rfl rfl rfl
  obtain ⟨F, hS⟩ := hS.norm [(0, _), (3, _), (4, _), (5, _)] [(0, _), (1, _), (102, _)] r4 r3
  try dsimp only [Go.Gm.unCF] at hS
  refine then_n ?_
  refine wp_seq ?_
  refine region_seq hS (by kernel_rfl)
    (cF rfl (o_move .t (by rfl)) r1 trivial
    (cF rfl (o_callP (snew_c o) Try.func10 rfl (by kernel_rfl) (Args.one .t)) r1 trivial
    (cF rfl (o_makeFunc (Args.one .t)) r1 trivial
    (cF rfl (o_callG1 1 (schange_c o room q 0 true 66 Try.f66 [.ref [.sl rInt l]] Try.func66 rfl (by kernel_rfl) (allQ room (l.length + 1) q 0 l) (fun h b => sOf1_c b o 0 room q l)) Try.func48 rfl (by kernel_rfl) (Args.three .t .cb .t)) r2 r1
    (cF rfl (o_extract .t rfl) r1 trivial
    (cF rfl (o_extract .t rfl) r1 trivial
    (cF rfl (o_storeA (sz := 2) 102 .is (.conv .t .agg) (by kernel_rfl) (by kernel_rfl) (by kernel_rfl)) r2 r1
    (cF rfl (o_assign .t (by rfl)) r1 trivial
    Chain.nil))))))))
    (by kernel_rfl) (by rw [hB]; kernel_rfl) ?_
  clear hS; intro a w F hS
  obtain ⟨F, hS⟩ := hS.norm [(4, _), (5, _)] [(0, _), (1, _), (102, _)] r2 r3
  try dsimp only [List.map, stCells, List.length_cons, List.length_nil, Nat.reduceAdd, List.drop_succ_cons, List.drop_zero, List.drop_nil, List.take_succ_cons, List.take_zero, List.take_nil, List.cons_append, List.nil_append, zCF, rCell, rPair] at hS
  refine then_n ?_
  refine wp_ret ?_
  refine ret_G1 hG hS rfl (.cell (n := 102) (ag := true) (sz := 2) rfl .is rfl (by kernel_rfl) (by kernel_rfl) (by kernel_rfl) (.tmp rfl .nil)) (.two (.aggU rfl rfl) (.int rfl)) rfl

end Go.Proofs.Ytdfpljecogijaaa
