/- lives. No condition beyond those that each theorem says. -/
import Derived.Test.YtjfelobhdjjgaaaPk5
namespace Go.Proofs.Ytjfelobhdjjgaaa
open Go Go.Gm
set_option linter.unusedVariables false
set_option linter.unusedSimpArgs false
set_option maxHeartbeats 4000000
set_option maxRecDepth 8000

theorem livesP_c  : FnP Try.prog 17 [] (.bool true) := by
  refine FnP.mk Try.func17 rfl Try.ntmps17 rfl ?_
  intro B a w F hB hfr hS
  refine wp_seq ?_
  refine region_seq hS (by kernel_rfl)
      (Chain.cons (Cert.free rfl (o_assign .cb (by rfl))) trivial trivial
      Chain.nil)
      (by kernel_rfl) (by rw [hB]; kernel_rfl) ?_
  clear hS; intro a w F hS
  replace hS := hS.norm [(0, _)] [(0, _)] ⟨rfl, trivial⟩ ⟨rfl, trivial⟩
  obtain ⟨F, hS⟩ := hS
  try dsimp only [RS.sub, SF.sub, CF.sub, csub, Anc.sub, stCells, List.map, List.length_cons, List.length_nil, Nat.reduceAdd, List.drop_succ_cons, List.drop_zero, List.drop_nil, List.take_succ_cons, List.take_zero, List.take_nil, List.cons_append, List.nil_append, zCF, ldSF] at hS
  refine then_n ?_
  refine wp_seq ?_
  refine region_seq hS (by kernel_rfl)
      (Chain.cons (Cert.free rfl (o_build (r := [(0, _), (1, _), (2, _), (3, _)]) (zs := [.int .i64 0, .int .i64 0, .int .i64 0, .int .i64 0]) (pl := [(0, 1), (1, 1), (2, 1), (3, 1)]) (by kernel_rfl) (by kernel_rfl) (.one rfl (.ci (by kernel_rfl)) one_int (by kernel_rfl) (.one rfl (.ci (by kernel_rfl)) one_int (by kernel_rfl) (.one rfl (.ci (by kernel_rfl)) one_int (by kernel_rfl) (.one rfl (.ci (by kernel_rfl)) one_int (by kernel_rfl) .nil)))) (by rfl))) trivial trivial
      (Chain.cons (Cert.free rfl (o_alloc (zs := [.int .i64 0, .int .i64 0, .int .i64 0, .int .i64 0]) 101 (by kernel_rfl))) trivial trivial
      (Chain.cons (Cert.free rfl (o_storeA (sz := 4) 101 .same .t (by kernel_rfl) (by kernel_rfl) (by kernel_rfl))) ⟨rfl, rfl, trivial⟩ ⟨rfl, trivial⟩
      Chain.nil)))
      (by kernel_rfl) (by rw [hB]; kernel_rfl) ?_
  clear hS; intro a w F hS
  replace hS := hS.sub
  replace hS := hS.norm [(0, _), (1, _)] [(0, _), (101, _)] ⟨rfl, rfl, trivial⟩ ⟨rfl, rfl, trivial⟩
  obtain ⟨F, hS⟩ := hS
  try dsimp only [RS.sub, SF.sub, CF.sub, csub, Anc.sub, stCells, List.map, List.length_cons, List.length_nil, Nat.reduceAdd, List.drop_succ_cons, List.drop_zero, List.drop_nil, List.take_succ_cons, List.take_zero, List.take_nil, List.cons_append, List.nil_append, zCF, ldSF] at hS
  generalize Act.tau a 1 = v1 at hS
  refine then_n ?_
  refine wp_seq ?_
  refine region_seq hS (by kernel_rfl)
      (Chain.cons (Cert.free rfl (o_build (r := [(0, _), (1, _), (2, _)]) (zs := [.int .i64 0, .int .i64 0, .int .i64 0]) (pl := [(0, 1), (1, 1), (2, 1)]) (by kernel_rfl) (by kernel_rfl) (.one rfl (.ci (by kernel_rfl)) one_int (by kernel_rfl) (.one rfl (.ci (by kernel_rfl)) one_int (by kernel_rfl) (.one rfl (.ci (by kernel_rfl)) one_int (by kernel_rfl) .nil))) (by rfl))) trivial trivial
      (Chain.cons (Cert.free rfl (o_alloc (zs := [.int .i64 0, .int .i64 0, .int .i64 0]) 102 (by kernel_rfl))) trivial trivial
      (Chain.cons (Cert.free rfl (o_storeA (sz := 3) 102 .same .t (by kernel_rfl) (by kernel_rfl) (by kernel_rfl))) ⟨rfl, rfl, trivial⟩ ⟨rfl, trivial⟩
      Chain.nil)))
      (by kernel_rfl) (by rw [hB]; kernel_rfl) ?_
  clear hS; intro a w F hS
  replace hS := hS.sub
  replace hS := hS.norm [(0, _), (1, _), (2, _)] [(0, _), (101, _), (102, _)] ⟨rfl, rfl, rfl, trivial⟩ ⟨rfl, rfl, rfl, trivial⟩
  obtain ⟨F, hS⟩ := hS
  try dsimp only [RS.sub, SF.sub, CF.sub, csub, Anc.sub, stCells, List.map, List.length_cons, List.length_nil, Nat.reduceAdd, List.drop_succ_cons, List.drop_zero, List.drop_nil, List.take_succ_cons, List.take_zero, List.take_nil, List.cons_append, List.nil_append, zCF, ldSF] at hS
  generalize Act.tau a 2 = v2 at hS
  refine then_n ?_
  refine wp_seq ?_
  refine region_seq hS (by kernel_rfl)
      (Chain.cons (Cert.free rfl (o_load (ag := true) (sz := 4) 101 .is (by kernel_rfl) (by kernel_rfl) (by kernel_rfl) (by rfl))) ⟨rfl, trivial⟩ ⟨rfl, trivial⟩
      (Chain.cons (Cert.free rfl (o_callP (edge_c ⟨1, 2, 2, 3⟩) Try.func12 rfl (by kernel_rfl) (Args.one (.pagg .t)))) ⟨rfl, trivial⟩ trivial
      (Chain.cons (Cert.free rfl (o_move .t (by rfl))) ⟨rfl, trivial⟩ trivial
      (Chain.cons (Cert.free rfl (o_extract .t rfl)) ⟨rfl, trivial⟩ trivial
      (Chain.cons (Cert.free rfl (o_extract .t rfl)) ⟨rfl, trivial⟩ trivial
      (Chain.cons (Cert.free rfl (o_assign .t (by rfl))) ⟨rfl, trivial⟩ trivial
      (Chain.cons (Cert.free rfl (o_assign .t (by rfl))) ⟨rfl, trivial⟩ trivial
      Chain.nil)))))))
      (by kernel_rfl) (by rw [hB]; kernel_rfl) ?_
  clear hS; intro a w F hS
  replace hS := hS.norm [(0, _), (1, _), (2, _), (3, _), (4, _)] [(0, _), (101, _), (102, _)] ⟨rfl, rfl, rfl, rfl, rfl, trivial⟩ ⟨rfl, rfl, rfl, trivial⟩
  obtain ⟨F, hS⟩ := hS
  try dsimp only [RS.sub, SF.sub, CF.sub, csub, Anc.sub, stCells, List.map, List.length_cons, List.length_nil, Nat.reduceAdd, List.drop_succ_cons, List.drop_zero, List.drop_nil, List.take_succ_cons, List.take_zero, List.take_nil, List.cons_append, List.nil_append, zCF, ldSF] at hS
  refine then_n ?_
  refine wp_seq ?_
  refine region_seq hS (by kernel_rfl)
      (Chain.cons (Cert.free rfl (o_move .t (by rfl))) ⟨rfl, trivial⟩ trivial
      (Chain.cons (Cert.free rfl (o_callP (unedge_c _) Try.func15 rfl (by kernel_rfl) (Args.one .t))) ⟨rfl, trivial⟩ trivial
      (Chain.cons (Cert.free rfl (o_move .t (by rfl))) ⟨rfl, trivial⟩ trivial
      (Chain.cons (Cert.free rfl (o_extract .t rfl)) ⟨rfl, trivial⟩ trivial
      (Chain.cons (Cert.free rfl (o_extract .t rfl)) ⟨rfl, trivial⟩ trivial
      (Chain.cons (Cert.free rfl (o_alloc (zs := [.int .i64 0, .int .i64 0, .int .i64 0, .int .i64 0]) 103 (by kernel_rfl))) trivial trivial
      (Chain.cons (Cert.free rfl (o_storeA (sz := 4) 103 .same (.conv .t .agg) (by kernel_rfl) (by kernel_rfl) (by kernel_rfl))) ⟨rfl, rfl, trivial⟩ ⟨rfl, trivial⟩
      (Chain.cons (Cert.free rfl (o_assign .t (by rfl))) ⟨rfl, trivial⟩ trivial
      Chain.nil))))))))
      (by kernel_rfl) (by rw [hB]; kernel_rfl) ?_
  clear hS; intro a w F hS
  replace hS := hS.sub
  replace hS := hS.norm [(0, _), (1, _), (2, _), (3, _), (4, _), (5, _), (6, _)] [(0, _), (101, _), (102, _), (103, _)] ⟨rfl, rfl, rfl, rfl, rfl, rfl, rfl, trivial⟩ ⟨rfl, rfl, rfl, rfl, trivial⟩
  obtain ⟨F, hS⟩ := hS
  try dsimp only [RS.sub, SF.sub, CF.sub, csub, Anc.sub, stCells, List.map, List.length_cons, List.length_nil, Nat.reduceAdd, List.drop_succ_cons, List.drop_zero, List.drop_nil, List.take_succ_cons, List.take_zero, List.take_nil, List.cons_append, List.nil_append, zCF, ldSF] at hS
  generalize Act.tau a 5 = v5 at hS
  refine then_n ?_
  refine wp_seq ?_
  refine region_seq hS (by kernel_rfl)
      (Chain.cons (Cert.free rfl (o_build (r := [(0, _), (1, _), (2, _), (3, _)]) (zs := [.int .i64 0, .int .i64 0, .int .i64 0, .int .i64 0]) (pl := [(0, 1), (1, 1), (2, 1), (3, 1)]) (by kernel_rfl) (by kernel_rfl) (.one rfl (.ci (by kernel_rfl)) one_int (by kernel_rfl) (.one rfl (.ci (by kernel_rfl)) one_int (by kernel_rfl) (.one rfl (.ci (by kernel_rfl)) one_int (by kernel_rfl) (.one rfl (.ci (by kernel_rfl)) one_int (by kernel_rfl) .nil)))) (by rfl))) trivial trivial
      (Chain.cons (Cert.free rfl (o_callP (edge_c ⟨1, 0, 2, 3⟩) Try.func12 rfl (by kernel_rfl) (Args.one (.pagg .t)))) ⟨rfl, trivial⟩ trivial
      (Chain.cons (Cert.free rfl (o_move .t (by rfl))) ⟨rfl, trivial⟩ trivial
      (Chain.cons (Cert.free rfl (o_extract .t rfl)) ⟨rfl, trivial⟩ trivial
      (Chain.cons (Cert.free rfl (o_extract .t rfl)) ⟨rfl, trivial⟩ trivial
      (Chain.cons (Cert.free rfl (o_assign .t (by rfl))) ⟨rfl, trivial⟩ trivial
      (Chain.cons (Cert.free rfl (o_assign .t (by rfl))) ⟨rfl, trivial⟩ trivial
      Chain.nil)))))))
      (by kernel_rfl) (by rw [hB]; kernel_rfl) ?_
  clear hS; intro a w F hS
  replace hS := hS.norm [(0, _), (1, _), (2, _), (3, _), (4, _), (5, _), (6, _), (8, _)] [(0, _), (101, _), (102, _), (103, _)] ⟨rfl, rfl, rfl, rfl, rfl, rfl, rfl, rfl, trivial⟩ ⟨rfl, rfl, rfl, rfl, trivial⟩
  obtain ⟨F, hS⟩ := hS
  try dsimp only [RS.sub, SF.sub, CF.sub, csub, Anc.sub, stCells, List.map, List.length_cons, List.length_nil, Nat.reduceAdd, List.drop_succ_cons, List.drop_zero, List.drop_nil, List.take_succ_cons, List.take_zero, List.take_nil, List.cons_append, List.nil_append, zCF, ldSF] at hS
  refine then_n ?_
  refine wp_seq ?_
  refine region_seq hS (by kernel_rfl)
      (Chain.cons (Cert.free rfl (o_callP (unedge_c _) Try.func15 rfl (by kernel_rfl) (Args.one (.ci (by kernel_rfl))))) trivial trivial
      (Chain.cons (Cert.free rfl (o_move .t (by rfl))) ⟨rfl, trivial⟩ trivial
      (Chain.cons (Cert.free rfl (o_extract .t rfl)) ⟨rfl, trivial⟩ trivial
      (Chain.cons (Cert.free rfl (o_extract .t rfl)) ⟨rfl, trivial⟩ trivial
      (Chain.cons (Cert.free rfl (o_alloc (zs := [.int .i64 0, .int .i64 0, .int .i64 0, .int .i64 0]) 104 (by kernel_rfl))) trivial trivial
      (Chain.cons (Cert.free rfl (o_storeA (sz := 4) 104 .same (.conv .t .agg) (by kernel_rfl) (by kernel_rfl) (by kernel_rfl))) ⟨rfl, rfl, trivial⟩ ⟨rfl, trivial⟩
      (Chain.cons (Cert.free rfl (o_assign .t (by rfl))) ⟨rfl, trivial⟩ trivial
      Chain.nil)))))))
      (by kernel_rfl) (by rw [hB]; kernel_rfl) ?_
  clear hS; intro a w F hS
  replace hS := hS.sub
  replace hS := hS.norm [(0, _), (1, _), (2, _), (3, _), (4, _), (5, _), (6, _), (8, _), (10, _)] [(0, _), (101, _), (102, _), (103, _)] ⟨rfl, rfl, rfl, rfl, rfl, rfl, rfl, rfl, rfl, trivial⟩ ⟨rfl, rfl, rfl, rfl, trivial⟩
  obtain ⟨F, hS⟩ := hS
  try dsimp only [RS.sub, SF.sub, CF.sub, csub, Anc.sub, stCells, List.map, List.length_cons, List.length_nil, Nat.reduceAdd, List.drop_succ_cons, List.drop_zero, List.drop_nil, List.take_succ_cons, List.take_zero, List.take_nil, List.cons_append, List.nil_append, zCF, ldSF] at hS
  generalize Act.tau a 9 = v9 at hS
  refine then_n ?_
  refine wp_seq ?_
  refine region_seq hS (by kernel_rfl)
      (Chain.cons (Cert.free rfl (o_load (ag := true) (sz := 3) 102 .is (by kernel_rfl) (by kernel_rfl) (by kernel_rfl) (by rfl))) ⟨rfl, trivial⟩ ⟨rfl, trivial⟩
      (Chain.cons (Cert.free rfl (o_callP (version_c ⟨2, 1, 3⟩) Try.func18 rfl (by kernel_rfl) (Args.one (.pagg .t)))) ⟨rfl, trivial⟩ trivial
      (Chain.cons (Cert.free rfl (o_move .t (by rfl))) ⟨rfl, trivial⟩ trivial
      (Chain.cons (Cert.free rfl (o_extract .t rfl)) ⟨rfl, trivial⟩ trivial
      (Chain.cons (Cert.free rfl (o_extract .t rfl)) ⟨rfl, trivial⟩ trivial
      (Chain.cons (Cert.free rfl (o_assign .t (by rfl))) ⟨rfl, trivial⟩ trivial
      (Chain.cons (Cert.free rfl (o_assign .t (by rfl))) ⟨rfl, trivial⟩ trivial
      Chain.nil)))))))
      (by kernel_rfl) (by rw [hB]; kernel_rfl) ?_
  clear hS; intro a w F hS
  replace hS := hS.norm [(0, _), (1, _), (2, _), (3, _), (4, _), (5, _), (6, _), (8, _), (10, _), (11, _), (12, _)] [(0, _), (101, _), (102, _), (103, _)] ⟨rfl, rfl, rfl, rfl, rfl, rfl, rfl, rfl, rfl, rfl, rfl, trivial⟩ ⟨rfl, rfl, rfl, rfl, trivial⟩
  obtain ⟨F, hS⟩ := hS
  try dsimp only [RS.sub, SF.sub, CF.sub, csub, Anc.sub, stCells, List.map, List.length_cons, List.length_nil, Nat.reduceAdd, List.drop_succ_cons, List.drop_zero, List.drop_nil, List.take_succ_cons, List.take_zero, List.take_nil, List.cons_append, List.nil_append, zCF, ldSF] at hS
  refine then_n ?_
  refine wp_seq ?_
  refine region_seq hS (by kernel_rfl)
      (Chain.cons (Cert.free rfl (o_move .t (by rfl))) ⟨rfl, trivial⟩ trivial
      (Chain.cons (Cert.free rfl (o_callP (unversion_c _) Try.func21 rfl (by kernel_rfl) (Args.one .t))) ⟨rfl, trivial⟩ trivial
      (Chain.cons (Cert.free rfl (o_move .t (by rfl))) ⟨rfl, trivial⟩ trivial
      (Chain.cons (Cert.free rfl (o_extract .t rfl)) ⟨rfl, trivial⟩ trivial
      (Chain.cons (Cert.free rfl (o_extract .t rfl)) ⟨rfl, trivial⟩ trivial
      (Chain.cons (Cert.free rfl (o_alloc (zs := [.int .i64 0, .int .i64 0, .int .i64 0]) 105 (by kernel_rfl))) trivial trivial
      (Chain.cons (Cert.free rfl (o_storeA (sz := 3) 105 .same (.conv .t .agg) (by kernel_rfl) (by kernel_rfl) (by kernel_rfl))) ⟨rfl, rfl, trivial⟩ ⟨rfl, trivial⟩
      (Chain.cons (Cert.free rfl (o_assign .t (by rfl))) ⟨rfl, trivial⟩ trivial
      Chain.nil))))))))
      (by kernel_rfl) (by rw [hB]; kernel_rfl) ?_
  clear hS; intro a w F hS
  replace hS := hS.sub
  replace hS := hS.norm [(0, _), (1, _), (2, _), (3, _), (4, _), (5, _), (6, _), (8, _), (10, _), (11, _), (12, _), (13, _), (14, _)] [(0, _), (101, _), (102, _), (103, _), (105, _)] ⟨rfl, rfl, rfl, rfl, rfl, rfl, rfl, rfl, rfl, rfl, rfl, rfl, rfl, trivial⟩ ⟨rfl, rfl, rfl, rfl, rfl, trivial⟩
  obtain ⟨F, hS⟩ := hS
  try dsimp only [RS.sub, SF.sub, CF.sub, csub, Anc.sub, stCells, List.map, List.length_cons, List.length_nil, Nat.reduceAdd, List.drop_succ_cons, List.drop_zero, List.drop_nil, List.take_succ_cons, List.take_zero, List.take_nil, List.cons_append, List.nil_append, zCF, ldSF] at hS
  generalize Act.tau a 13 = v13 at hS
  refine then_n ?_
  refine wp_seq ?_
  refine region_seq hS (by kernel_rfl)
      (Chain.cons (Cert.free rfl (o_build (r := [(1, _)]) (zs := [.int .i64 0, .int .i64 0, .int .i64 0]) (pl := [(0, 1), (1, 1), (2, 1)]) (by kernel_rfl) (by kernel_rfl) (.one rfl (.ci (by kernel_rfl)) one_int (by kernel_rfl) .nil) (by rfl))) trivial trivial
      (Chain.cons (Cert.free rfl (o_callP (version_c ⟨0, 1, 0⟩) Try.func18 rfl (by kernel_rfl) (Args.one (.pagg .t)))) ⟨rfl, trivial⟩ trivial
      (Chain.cons (Cert.free rfl (o_move .t (by rfl))) ⟨rfl, trivial⟩ trivial
      (Chain.cons (Cert.free rfl (o_extract .t rfl)) ⟨rfl, trivial⟩ trivial
      (Chain.cons (Cert.free rfl (o_extract .t rfl)) ⟨rfl, trivial⟩ trivial
      (Chain.cons (Cert.free rfl (o_assign .t (by rfl))) ⟨rfl, trivial⟩ trivial
      (Chain.cons (Cert.free rfl (o_assign .t (by rfl))) ⟨rfl, trivial⟩ trivial
      Chain.nil)))))))
      (by kernel_rfl) (by rw [hB]; kernel_rfl) ?_
  clear hS; intro a w F hS
  replace hS := hS.norm [(0, _), (1, _), (2, _), (3, _), (4, _), (5, _), (6, _), (8, _), (10, _), (11, _), (12, _), (13, _), (14, _), (15, _), (16, _)] [(0, _), (101, _), (102, _), (103, _), (105, _)] ⟨rfl, rfl, rfl, rfl, rfl, rfl, rfl, rfl, rfl, rfl, rfl, rfl, rfl, rfl, rfl, trivial⟩ ⟨rfl, rfl, rfl, rfl, rfl, trivial⟩
  obtain ⟨F, hS⟩ := hS
  try dsimp only [RS.sub, SF.sub, CF.sub, csub, Anc.sub, stCells, List.map, List.length_cons, List.length_nil, Nat.reduceAdd, List.drop_succ_cons, List.drop_zero, List.drop_nil, List.take_succ_cons, List.take_zero, List.take_nil, List.cons_append, List.nil_append, zCF, ldSF] at hS
  refine then_n ?_
  refine wp_seq ?_
  refine region_seq hS (by kernel_rfl)
      (Chain.cons (Cert.free rfl (o_build (r := [(1, _), (2, _)]) (zs := [.int .i64 0, .int .i64 0, .int .i64 0]) (pl := [(0, 1), (1, 1), (2, 1)]) (by kernel_rfl) (by kernel_rfl) (.one rfl (.ci (by kernel_rfl)) one_int (by kernel_rfl) (.one rfl (.ci (by kernel_rfl)) one_int (by kernel_rfl) .nil)) (by rfl))) trivial trivial
      (Chain.cons (Cert.free rfl (o_callP (version_c ⟨0, 1, 1⟩) Try.func18 rfl (by kernel_rfl) (Args.one (.pagg .t)))) ⟨rfl, trivial⟩ trivial
      (Chain.cons (Cert.free rfl (o_move .t (by rfl))) ⟨rfl, trivial⟩ trivial
      (Chain.cons (Cert.free rfl (o_extract .t rfl)) ⟨rfl, trivial⟩ trivial
      (Chain.cons (Cert.free rfl (o_extract .t rfl)) ⟨rfl, trivial⟩ trivial
      (Chain.cons (Cert.free rfl (o_assign .t (by rfl))) ⟨rfl, trivial⟩ trivial
      (Chain.cons (Cert.free rfl (o_assign .t (by rfl))) ⟨rfl, trivial⟩ trivial
      Chain.nil)))))))
      (by kernel_rfl) (by rw [hB]; kernel_rfl) ?_
  clear hS; intro a w F hS
  replace hS := hS.norm [(0, _), (1, _), (2, _), (3, _), (4, _), (5, _), (6, _), (8, _), (10, _), (11, _), (12, _), (13, _), (14, _), (15, _), (16, _), (18, _)] [(0, _), (101, _), (102, _), (103, _), (105, _)] ⟨rfl, rfl, rfl, rfl, rfl, rfl, rfl, rfl, rfl, rfl, rfl, rfl, rfl, rfl, rfl, rfl, trivial⟩ ⟨rfl, rfl, rfl, rfl, rfl, trivial⟩
  obtain ⟨F, hS⟩ := hS
  try dsimp only [RS.sub, SF.sub, CF.sub, csub, Anc.sub, stCells, List.map, List.length_cons, List.length_nil, Nat.reduceAdd, List.drop_succ_cons, List.drop_zero, List.drop_nil, List.take_succ_cons, List.take_zero, List.take_nil, List.cons_append, List.nil_append, zCF, ldSF] at hS
  refine then_n ?_
  refine wp_seq ?_
  refine region_seq hS (by kernel_rfl)
      (Chain.cons (Cert.free rfl (o_callP (unversion_c _) Try.func21 rfl (by kernel_rfl) (Args.one (.ci (by kernel_rfl))))) trivial trivial
      (Chain.cons (Cert.free rfl (o_move .t (by rfl))) ⟨rfl, trivial⟩ trivial
      (Chain.cons (Cert.free rfl (o_extract .t rfl)) ⟨rfl, trivial⟩ trivial
      (Chain.cons (Cert.free rfl (o_extract .t rfl)) ⟨rfl, trivial⟩ trivial
      (Chain.cons (Cert.free rfl (o_alloc (zs := [.int .i64 0, .int .i64 0, .int .i64 0]) 106 (by kernel_rfl))) trivial trivial
      (Chain.cons (Cert.free rfl (o_storeA (sz := 3) 106 .same (.conv .t .agg) (by kernel_rfl) (by kernel_rfl) (by kernel_rfl))) ⟨rfl, rfl, trivial⟩ ⟨rfl, trivial⟩
      (Chain.cons (Cert.free rfl (o_assign .t (by rfl))) ⟨rfl, trivial⟩ trivial
      Chain.nil)))))))
      (by kernel_rfl) (by rw [hB]; kernel_rfl) ?_
  clear hS; intro a w F hS
  replace hS := hS.sub
  replace hS := hS.norm [(0, _), (1, _), (2, _), (3, _), (4, _), (5, _), (6, _), (8, _), (10, _), (11, _), (12, _), (13, _), (14, _), (15, _), (16, _), (18, _), (20, _)] [(0, _), (101, _), (102, _), (103, _), (105, _)] ⟨rfl, rfl, rfl, rfl, rfl, rfl, rfl, rfl, rfl, rfl, rfl, rfl, rfl, rfl, rfl, rfl, rfl, trivial⟩ ⟨rfl, rfl, rfl, rfl, rfl, trivial⟩
  obtain ⟨F, hS⟩ := hS
  try dsimp only [RS.sub, SF.sub, CF.sub, csub, Anc.sub, stCells, List.map, List.length_cons, List.length_nil, Nat.reduceAdd, List.drop_succ_cons, List.drop_zero, List.drop_nil, List.take_succ_cons, List.take_zero, List.take_nil, List.cons_append, List.nil_append, zCF, ldSF] at hS
  generalize Act.tau a 19 = v19 at hS
  refine then_n ?_
  refine wp_seq ?_
  refine region_seq hS (by kernel_rfl)
      (Chain.cons (Cert.free rfl (o_move .t (by rfl))) ⟨rfl, trivial⟩ trivial
      (Chain.cons (Cert.free rfl (o_eql .t (.ci (by kernel_rfl)))) ⟨rfl, trivial⟩ trivial
      (Chain.cons (Cert.free rfl (o_move .t (by rfl))) ⟨rfl, trivial⟩ trivial
      (Chain.cons (Cert.cond rfl rfl (fun h => o_move .t (by rfl))) ⟨rfl, rfl, trivial⟩ trivial
      (Chain.cons (Cert.cond rfl rfl (fun h => o_eql (.w h) (.ci (by kernel_rfl)))) ⟨rfl, rfl, trivial⟩ trivial
      (Chain.cons (Cert.free rfl (o_and2 .t .t)) ⟨rfl, rfl, trivial⟩ trivial
      (Chain.cons (Cert.free rfl (o_move .t (by rfl))) ⟨rfl, trivial⟩ trivial
      (Chain.cons (Cert.cond rfl rfl (fun h => o_load (ag := true) (sz := 4) 103 .is (by kernel_rfl) (by kernel_rfl) (by kernel_rfl) (by rfl))) ⟨rfl, rfl, trivial⟩ ⟨rfl, trivial⟩
      (Chain.cons (Cert.cond rfl rfl (fun h => o_load (ag := true) (sz := 4) 101 .is (by kernel_rfl) (by kernel_rfl) (by kernel_rfl) (by rfl))) ⟨rfl, rfl, trivial⟩ ⟨rfl, trivial⟩
      (Chain.cons (Cert.cond rfl rfl (fun h => o_eqlS (ks := [true, true, true, true]) (by kernel_rfl) (.w h) (.w h) (.int (.int (.int (.int .nil)))))) ⟨rfl, rfl, rfl, trivial⟩ trivial
      (Chain.cons (Cert.free rfl (o_and2 .t .t)) ⟨rfl, rfl, trivial⟩ trivial
      (Chain.cons (Cert.free rfl (o_move .t (by rfl))) ⟨rfl, trivial⟩ trivial
      (Chain.cons (Cert.cond rfl rfl (fun h => o_move .t (by rfl))) ⟨rfl, rfl, trivial⟩ trivial
      (Chain.cons (Cert.cond rfl rfl (fun h => o_eql (.w h) (.ci (by kernel_rfl)))) ⟨rfl, rfl, trivial⟩ trivial
      (Chain.cons (Cert.free rfl (o_and2 .t .t)) ⟨rfl, rfl, trivial⟩ trivial
      (Chain.cons (Cert.free rfl (o_move .t (by rfl))) ⟨rfl, trivial⟩ trivial
      (Chain.cons (Cert.cond rfl rfl (fun h => o_move .t (by rfl))) ⟨rfl, rfl, trivial⟩ trivial
      (Chain.cons (Cert.cond rfl rfl (fun h => o_eql (.w h) (.ci (by kernel_rfl)))) ⟨rfl, rfl, trivial⟩ trivial
      (Chain.cons (Cert.free rfl (o_and2 .t .t)) ⟨rfl, rfl, trivial⟩ trivial
      (Chain.cons (Cert.free rfl (o_move .t (by rfl))) ⟨rfl, trivial⟩ trivial
      (Chain.cons (Cert.cond rfl rfl (fun h => o_move .t (by rfl))) ⟨rfl, rfl, trivial⟩ trivial
      (Chain.cons (Cert.cond rfl rfl (fun h => o_eql (.w h) (.ci (by kernel_rfl)))) ⟨rfl, rfl, trivial⟩ trivial
      (Chain.cons (Cert.free rfl (o_and2 .t .t)) ⟨rfl, rfl, trivial⟩ trivial
      (Chain.cons (Cert.free rfl (o_move .t (by rfl))) ⟨rfl, trivial⟩ trivial
      (Chain.cons (Cert.cond rfl rfl (fun h => o_move .t (by rfl))) ⟨rfl, rfl, trivial⟩ trivial
      (Chain.cons (Cert.cond rfl rfl (fun h => o_eql (.w h) (.ci (by kernel_rfl)))) ⟨rfl, rfl, trivial⟩ trivial
      (Chain.cons (Cert.free rfl (o_and2 .t .t)) ⟨rfl, rfl, trivial⟩ trivial
      (Chain.cons (Cert.free rfl (o_move .t (by rfl))) ⟨rfl, trivial⟩ trivial
      (Chain.cons (Cert.cond rfl rfl (fun h => o_move .t (by rfl))) ⟨rfl, rfl, trivial⟩ trivial
      (Chain.cons (Cert.cond rfl rfl (fun h => o_eql (.w h) (.ci (by kernel_rfl)))) ⟨rfl, rfl, trivial⟩ trivial
      (Chain.cons (Cert.free rfl (o_and2 .t .t)) ⟨rfl, rfl, trivial⟩ trivial
      (Chain.cons (Cert.free rfl (o_move .t (by rfl))) ⟨rfl, trivial⟩ trivial
      (Chain.cons (Cert.cond rfl rfl (fun h => o_load (ag := true) (sz := 3) 105 .is (by kernel_rfl) (by kernel_rfl) (by kernel_rfl) (by rfl))) ⟨rfl, rfl, trivial⟩ ⟨rfl, trivial⟩
      (Chain.cons (Cert.cond rfl rfl (fun h => o_load (ag := true) (sz := 3) 102 .is (by kernel_rfl) (by kernel_rfl) (by kernel_rfl) (by rfl))) ⟨rfl, rfl, trivial⟩ ⟨rfl, trivial⟩
      (Chain.cons (Cert.cond rfl rfl (fun h => o_eqlS (ks := [true, true, true]) (by kernel_rfl) (.w h) (.w h) (.int (.int (.int .nil))))) ⟨rfl, rfl, rfl, trivial⟩ trivial
      (Chain.cons (Cert.free rfl (o_and2 .t .t)) ⟨rfl, rfl, trivial⟩ trivial
      (Chain.cons (Cert.free rfl (o_move .t (by rfl))) ⟨rfl, trivial⟩ trivial
      (Chain.cons (Cert.cond rfl rfl (fun h => o_move .t (by rfl))) ⟨rfl, rfl, trivial⟩ trivial
      (Chain.cons (Cert.cond rfl rfl (fun h => o_eql (.w h) (.ci (by kernel_rfl)))) ⟨rfl, rfl, trivial⟩ trivial
      (Chain.cons (Cert.free rfl (o_and2 .t .t)) ⟨rfl, rfl, trivial⟩ trivial
      (Chain.cons (Cert.free rfl (o_move .t (by rfl))) ⟨rfl, trivial⟩ trivial
      (Chain.cons (Cert.cond rfl rfl (fun h => o_move .t (by rfl))) ⟨rfl, rfl, trivial⟩ trivial
      (Chain.cons (Cert.cond rfl rfl (fun h => o_eql (.w h) (.ci (by kernel_rfl)))) ⟨rfl, rfl, trivial⟩ trivial
      (Chain.cons (Cert.free rfl (o_and2 .t .t)) ⟨rfl, rfl, trivial⟩ trivial
      (Chain.cons (Cert.free rfl (o_move .t (by rfl))) ⟨rfl, trivial⟩ trivial
      (Chain.cons (Cert.cond rfl rfl (fun h => o_move .t (by rfl))) ⟨rfl, rfl, trivial⟩ trivial
      (Chain.cons (Cert.cond rfl rfl (fun h => o_eql (.w h) (.ci (by kernel_rfl)))) ⟨rfl, rfl, trivial⟩ trivial
      (Chain.cons (Cert.free rfl (o_and2 .t .t)) ⟨rfl, rfl, trivial⟩ trivial
      (Chain.cons (Cert.free rfl (o_move .t (by rfl))) ⟨rfl, trivial⟩ trivial
      (Chain.cons (Cert.cond rfl rfl (fun h => o_move .t (by rfl))) ⟨rfl, rfl, trivial⟩ trivial
      (Chain.cons (Cert.cond rfl rfl (fun h => o_eql (.w h) (.ci (by kernel_rfl)))) ⟨rfl, rfl, trivial⟩ trivial
      (Chain.cons (Cert.free rfl (o_and2 .t .t)) ⟨rfl, rfl, trivial⟩ trivial
      (Chain.cons (Cert.free rfl (o_move .t (by rfl))) ⟨rfl, trivial⟩ trivial
      (Chain.cons (Cert.cond rfl rfl (fun h => o_move .t (by rfl))) ⟨rfl, rfl, trivial⟩ trivial
      (Chain.cons (Cert.cond rfl rfl (fun h => o_eql (.w h) (.ci (by kernel_rfl)))) ⟨rfl, rfl, trivial⟩ trivial
      (Chain.cons (Cert.free rfl (o_and2 .t .t)) ⟨rfl, rfl, trivial⟩ trivial
      (Chain.cons (Cert.free rfl (o_move .t (by rfl))) ⟨rfl, trivial⟩ trivial
      (Chain.cons (Cert.cond rfl rfl (fun h => o_load (ag := true) (sz := 4) 101 .is (by kernel_rfl) (by kernel_rfl) (by kernel_rfl) (by rfl))) ⟨rfl, rfl, trivial⟩ ⟨rfl, trivial⟩
      (Chain.cons (Cert.cond rfl rfl (fun h => o_build (r := [(0, _), (2, _)]) (zs := [.int .i64 0, .int .i64 0, .int .i64 0, .int .i64 0]) (pl := [(0, 1), (1, 1), (2, 1), (3, 1)]) (by kernel_rfl) (by kernel_rfl) (.one rfl (.ci (by kernel_rfl)) one_int (by kernel_rfl) (.one rfl (.ci (by kernel_rfl)) one_int (by kernel_rfl) .nil)) (by rfl))) ⟨rfl, trivial⟩ trivial
      (Chain.cons (Cert.cond rfl rfl (fun h => o_callP (less_c ⟨1, 2, 2, 3⟩ ⟨1, 0, 3, 0⟩) Try.func26 rfl (by kernel_rfl) (Args.two (.pagg (.w h)) (.pagg (.w h))))) ⟨rfl, rfl, rfl, trivial⟩ trivial
      (Chain.cons (Cert.free rfl (o_and2 .t .t)) ⟨rfl, rfl, trivial⟩ trivial
      (Chain.cons (Cert.free rfl (o_move .t (by rfl))) ⟨rfl, trivial⟩ trivial
      (Chain.cons (Cert.cond rfl rfl (fun h => o_load (ag := true) (sz := 4) 101 .is (by kernel_rfl) (by kernel_rfl) (by kernel_rfl) (by rfl))) ⟨rfl, rfl, trivial⟩ ⟨rfl, trivial⟩
      (Chain.cons (Cert.cond rfl rfl (fun h => o_load (ag := true) (sz := 4) 101 .is (by kernel_rfl) (by kernel_rfl) (by kernel_rfl) (by rfl))) ⟨rfl, rfl, trivial⟩ ⟨rfl, trivial⟩
      (Chain.cons (Cert.cond rfl rfl (fun h => o_callP (less_c ⟨1, 2, 2, 3⟩ ⟨1, 2, 2, 3⟩) Try.func26 rfl (by kernel_rfl) (Args.two (.pagg (.w h)) (.pagg (.w h))))) ⟨rfl, rfl, rfl, trivial⟩ trivial
      (Chain.cons (Cert.cond rfl rfl (fun h => o_not (.w h))) ⟨rfl, rfl, trivial⟩ trivial
      (Chain.cons (Cert.free rfl (o_and2 .t .t)) ⟨rfl, rfl, trivial⟩ trivial
      (Chain.cons (Cert.free rfl (o_move .t (by rfl))) ⟨rfl, trivial⟩ trivial
      (Chain.cons (Cert.cond rfl rfl (fun h => o_load (ag := true) (sz := 4) 101 .is (by kernel_rfl) (by kernel_rfl) (by kernel_rfl) (by rfl))) ⟨rfl, rfl, trivial⟩ ⟨rfl, trivial⟩
      (Chain.cons (Cert.cond rfl rfl (fun h => o_load (ag := true) (sz := 4) 101 .is (by kernel_rfl) (by kernel_rfl) (by kernel_rfl) (by rfl))) ⟨rfl, rfl, trivial⟩ ⟨rfl, trivial⟩
      (Chain.cons (Cert.cond rfl rfl (fun h => o_buildSliceE (sz := 4) (zs := [.int .i64 0, .int .i64 0, .int .i64 0, .int .i64 0]) (r := [(0, .tmp 134), (1, .tmp 135)]) (l := [_, _, _, _, _, _, _, _]) Try.underlying52 (by kernel_rfl) (by kernel_rfl) (by kernel_rfl) (by kernel_rfl) rfl rfl (.agg rfl (.w h) (by kernel_rfl) (by kernel_rfl) (.agg rfl (.w h) (by kernel_rfl) (by kernel_rfl) .nil)) rfl)) ⟨rfl, rfl, rfl, trivial⟩ trivial
      (Chain.cons (Cert.cond rfl rfl (fun h => o_callP (sort2_c ⟨1, 2, 2, 3⟩) Try.func24 rfl (by kernel_rfl) (Args.one (.conv (.w h) (Ent.arrSl (R := rEdge) (l := [⟨1, 2, 2, 3⟩, ⟨1, 2, 2, 3⟩]) rfl))))) ⟨rfl, rfl, trivial⟩ trivial
      (Chain.cons (Cert.cond rfl rfl (fun h => o_len_sl Try.underlying52 (.w h))) ⟨rfl, rfl, trivial⟩ trivial
      (Chain.cons (Cert.cond rfl rfl (fun h => o_eql (.w h) (.ci (by kernel_rfl)))) ⟨rfl, rfl, trivial⟩ trivial
      (Chain.cons (Cert.free rfl (o_and2 .t .t)) ⟨rfl, rfl, trivial⟩ trivial
      (Chain.cons (Cert.free rfl (o_assign .t (by rfl))) ⟨rfl, trivial⟩ trivial
      Chain.nil))))))))))))))))))))))))))))))))))))))))))))))))))))))))))))))))))))))))))))
      (by kernel_rfl) (by rw [hB]; kernel_rfl) ?_
  clear hS; intro a w F hS
  replace hS := hS.norm [(0, _)] [(0, _)] ⟨rfl, trivial⟩ ⟨rfl, trivial⟩
  obtain ⟨F, hS⟩ := hS
  try dsimp only [RS.sub, SF.sub, CF.sub, csub, Anc.sub, stCells, List.map, List.length_cons, List.length_nil, Nat.reduceAdd, List.drop_succ_cons, List.drop_zero, List.drop_nil, List.take_succ_cons, List.take_zero, List.take_nil, List.cons_append, List.nil_append, zCF, ldSF] at hS
  refine then_n ?_
  refine wp_ret ?_
  refine ret_P hfr hS rfl (.tmp rfl .nil) (.one (.bool (by decide +kernel)))

end Go.Proofs.Ytjfelobhdjjgaaa
