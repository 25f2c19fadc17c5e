/- lives. No condition beyond those that each theorem says. -/
import Derived.Test.YtpjjmolibanakaaPk5
import Derived.Test.YtpjjmolibanakaaLibL
namespace Go.Proofs.Ytpjjmolibanakaa
open Go Go.Gm
set_option linter.unusedVariables false
set_option linter.unusedSimpArgs false
set_option maxHeartbeats 4000000
set_option maxRecDepth 8000


theorem livesP_c  : FnP Try.prog 10 [] (.bool true) := by
  refine FnP.mk Try.func10 rfl Try.ntmps10 rfl ?_
  intro B a w F hB hfr hS
  refine wp_seq ?_
  refine region_q hS
    (cF rfl (oN .cb) trivial trivial
    Chain.nil)
    hB ?_
  clear hS; intro a w F hS
  obtain ⟨F, hS⟩ := hS.nm [0] [0] rfl rfl
  refine then_n (wp_seq ?_)
  refine region_q hS
    (cF rfl (oB [(0, _), (1, _), (2, _), (3, _)] [.int .i64 0, .int .i64 0, .int .i64 0, .int .i64 0] [(0, 1), (1, 1), (2, 1), (3, 1)] (.one rfl (.ci (by kernel_rfl)) one_int (by kernel_rfl) (.one rfl (.ci (by kernel_rfl)) one_int (by kernel_rfl) (.one rfl (.ci (by kernel_rfl)) one_int (by kernel_rfl) (.one rfl (.ci (by kernel_rfl)) one_int (by kernel_rfl) .nil))))) trivial trivial
    (cF rfl (oH [.int .i64 0, .int .i64 0, .int .i64 0, .int .i64 0] 101) trivial trivial
    (cF rfl (oA 4 101 .same .t) r2 r1
    Chain.nil)))
    hB ?_
  clear hS; intro a w F hS
  replace hS := hS.sub
  obtain ⟨F, hS⟩ := hS.nm [1, 0] [101, 0] rfl rfl
  try dsimp only [RS.sub, SF.sub, CF.sub, csub, Anc.sub, List.map, stCells, xL, xM, Nat.reduceAdd, xD, xE, xT, xU, xC, xN, zCF] at hS
  generalize Act.tau a 1 = v1 at hS
  refine then_n (wp_seq ?_)
  refine region_q hS
    (cF rfl (oB [(0, _), (1, _), (2, _)] [.int .i64 0, .int .i64 0, .int .i64 0] [(0, 1), (1, 1), (2, 1)] (.one rfl (.ci (by kernel_rfl)) one_int (by kernel_rfl) (.one rfl (.ci (by kernel_rfl)) one_int (by kernel_rfl) (.one rfl (.ci (by kernel_rfl)) one_int (by kernel_rfl) .nil)))) trivial trivial
    (cF rfl (oH [.int .i64 0, .int .i64 0, .int .i64 0] 102) trivial trivial
    (cF rfl (oA 3 102 .same .t) r2 r1
    Chain.nil)))
    hB ?_
  clear hS; intro a w F hS
  replace hS := hS.sub
  obtain ⟨F, hS⟩ := hS.nm [2, 1, 0] [102, 101, 0] rfl rfl
  try dsimp only [RS.sub, SF.sub, CF.sub, csub, Anc.sub, List.map, stCells, xL, xM, Nat.reduceAdd, xD, xE, xT, xU, xC, xN, zCF] at hS
  generalize Act.tau a 2 = v2 at hS
  refine then_n (wp_seq ?_)
  refine region_q hS
    (cF rfl (oL true 4 101 .is) r1 r1
    (cF rfl (oP (edge_c ⟨1, 2, 2, 3⟩) Try.func66 (Args.one (.pagg .t))) r1 trivial
    (cF rfl (oM .t) r1 trivial
    (cF rfl (o_extract .t rfl) r1 trivial
    (cF rfl (o_extract .t rfl) r1 trivial
    (cF rfl (oN .t) r1 trivial
    (cF rfl (oN .t) r1 trivial
    Chain.nil)))))))
    hB ?_
  clear hS; intro a w F hS
  obtain ⟨F, hS⟩ := hS.nm [4, 3, 2, 1, 0] [102, 101, 0] rfl rfl
  try dsimp only [List.map, xD, xE, xT, xU, ldSF] at hS
  refine then_n (wp_seq ?_)
  refine region_q hS
    (cF rfl (oM .t) r1 trivial
    (cF rfl (oP (unedge_c _) Try.func67 (Args.one .t)) r1 trivial
    (cF rfl (oM .t) r1 trivial
    (cF rfl (o_extract .t rfl) r1 trivial
    (cF rfl (o_extract .t rfl) r1 trivial
    (cF rfl (oH [.int .i64 0, .int .i64 0, .int .i64 0, .int .i64 0] 103) trivial trivial
    (cF rfl (oA 4 103 .same (.conv .t .agg)) r2 r1
    (cF rfl (oN .t) r1 trivial
    Chain.nil))))))))
    hB ?_
  clear hS; intro a w F hS
  replace hS := hS.sub
  obtain ⟨F, hS⟩ := hS.nm [6, 5, 4, 3, 2, 1, 0] [103, 102, 101, 0] rfl rfl
  try dsimp only [RS.sub, SF.sub, CF.sub, csub, Anc.sub, List.map, stCells, xL, xM, Nat.reduceAdd, xD, xE, xT, xU, xC, xN, zCF] at hS
  generalize Act.tau a 5 = v5 at hS
  refine then_n (wp_seq ?_)
  refine region_q hS
    (cF rfl (oB [(0, _), (1, _), (2, _), (3, _)] [.int .i64 0, .int .i64 0, .int .i64 0, .int .i64 0] [(0, 1), (1, 1), (2, 1), (3, 1)] (.one rfl (.ci (by kernel_rfl)) one_int (by kernel_rfl) (.one rfl (.ci (by kernel_rfl)) one_int (by kernel_rfl) (.one rfl (.ci (by kernel_rfl)) one_int (by kernel_rfl) (.one rfl (.ci (by kernel_rfl)) one_int (by kernel_rfl) .nil))))) trivial trivial
    (cF rfl (oP (edge_c ⟨1, 0, 2, 3⟩) Try.func66 (Args.one (.pagg .t))) r1 trivial
    (cF rfl (oM .t) r1 trivial
    (cF rfl (o_extract .t rfl) r1 trivial
    (cF rfl (o_extract .t rfl) r1 trivial
    (cF rfl (oN .t) r1 trivial
    (cF rfl (oN .t) r1 trivial
    Chain.nil)))))))
    hB ?_
  clear hS; intro a w F hS
  obtain ⟨F, hS⟩ := hS.nm [8, 6, 5, 4, 3, 2, 1, 0] [103, 102, 101, 0] rfl rfl
  try dsimp only [List.map, stCells, xL, xM, Nat.reduceAdd, xD, xE, xT, xU, xC, xN, zCF] at hS
  refine then_n (wp_seq ?_)
  refine region_q hS
    (cF rfl (oP (unedge_c _) Try.func67 (Args.one (.ci (by kernel_rfl)))) trivial trivial
    (cF rfl (oM .t) r1 trivial
    (cF rfl (o_extract .t rfl) r1 trivial
    (cF rfl (o_extract .t rfl) r1 trivial
    (cF rfl (oH [.int .i64 0, .int .i64 0, .int .i64 0, .int .i64 0] 104) trivial trivial
    (cF rfl (oA 4 104 .same (.conv .t .agg)) r2 r1
    (cF rfl (oN .t) r1 trivial
    Chain.nil)))))))
    hB ?_
  clear hS; intro a w F hS
  replace hS := hS.sub
  obtain ⟨F, hS⟩ := hS.nm [10, 8, 6, 5, 4, 3, 2, 1, 0] [103, 102, 101, 0] rfl rfl
  try dsimp only [RS.sub, SF.sub, CF.sub, csub, Anc.sub, List.map, stCells, xL, xM, Nat.reduceAdd, xD, xE, xT, xU, xC, xN, zCF] at hS
  generalize Act.tau a 9 = v9 at hS
  refine then_n (wp_seq ?_)
  refine region_q hS
    (cF rfl (oL true 3 102 .is) r1 r1
    (cF rfl (oP (version_c ⟨2, 1, 3⟩) Try.func68 (Args.one (.pagg .t))) r1 trivial
    (cF rfl (oM .t) r1 trivial
    (cF rfl (o_extract .t rfl) r1 trivial
    (cF rfl (o_extract .t rfl) r1 trivial
    (cF rfl (oN .t) r1 trivial
    (cF rfl (oN .t) r1 trivial
    Chain.nil)))))))
    hB ?_
  clear hS; intro a w F hS
  obtain ⟨F, hS⟩ := hS.nm [12, 11, 10, 8, 6, 5, 4, 3, 2, 1, 0] [103, 102, 101, 0] rfl rfl
  try dsimp only [List.map, xD, xE, xT, xU, ldSF] at hS
  refine then_n (wp_seq ?_)
  refine region_q hS
    (cF rfl (oM .t) r1 trivial
    (cF rfl (oP (unversion_c _) Try.func69 (Args.one .t)) r1 trivial
    (cF rfl (oM .t) r1 trivial
    (cF rfl (o_extract .t rfl) r1 trivial
    (cF rfl (o_extract .t rfl) r1 trivial
    (cF rfl (oH [.int .i64 0, .int .i64 0, .int .i64 0] 105) trivial trivial
    (cF rfl (oA 3 105 .same (.conv .t .agg)) r2 r1
    (cF rfl (oN .t) r1 trivial
    Chain.nil))))))))
    hB ?_
  clear hS; intro a w F hS
  replace hS := hS.sub
  obtain ⟨F, hS⟩ := hS.nm [14, 13, 12, 11, 10, 8, 6, 5, 4, 3, 2, 1, 0] [105, 103, 102, 101, 0] rfl rfl
  try dsimp only [RS.sub, SF.sub, CF.sub, csub, Anc.sub, List.map, stCells, xL, xM, Nat.reduceAdd, xD, xE, xT, xU, xC, xN, zCF] at hS
  generalize Act.tau a 13 = v13 at hS
  refine then_n (wp_seq ?_)
  refine region_q hS
    (cF rfl (oB [(1, _)] [.int .i64 0, .int .i64 0, .int .i64 0] [(0, 1), (1, 1), (2, 1)] (.one rfl (.ci (by kernel_rfl)) one_int (by kernel_rfl) .nil)) trivial trivial
    (cF rfl (oP (version_c ⟨0, 1, 0⟩) Try.func68 (Args.one (.pagg .t))) r1 trivial
    (cF rfl (oM .t) r1 trivial
    (cF rfl (o_extract .t rfl) r1 trivial
    (cF rfl (o_extract .t rfl) r1 trivial
    (cF rfl (oN .t) r1 trivial
    (cF rfl (oN .t) r1 trivial
    Chain.nil)))))))
    hB ?_
  clear hS; intro a w F hS
  obtain ⟨F, hS⟩ := hS.nm [16, 15, 14, 13, 12, 11, 10, 8, 6, 5, 4, 3, 2, 1, 0] [105, 103, 102, 101, 0] rfl rfl
  try dsimp only [List.map, stCells, xL, xM, Nat.reduceAdd, xD, xE, xT, xU, xC, xN, zCF] at hS
  refine then_n (wp_seq ?_)
  refine region_q hS
    (cF rfl (oB [(1, _), (2, _)] [.int .i64 0, .int .i64 0, .int .i64 0] [(0, 1), (1, 1), (2, 1)] (.one rfl (.ci (by kernel_rfl)) one_int (by kernel_rfl) (.one rfl (.ci (by kernel_rfl)) one_int (by kernel_rfl) .nil))) trivial trivial
    (cF rfl (oP (version_c ⟨0, 1, 1⟩) Try.func68 (Args.one (.pagg .t))) r1 trivial
    (cF rfl (oM .t) r1 trivial
    (cF rfl (o_extract .t rfl) r1 trivial
    (cF rfl (o_extract .t rfl) r1 trivial
    (cF rfl (oN .t) r1 trivial
    (cF rfl (oN .t) r1 trivial
    Chain.nil)))))))
    hB ?_
  clear hS; intro a w F hS
  obtain ⟨F, hS⟩ := hS.nm [18, 16, 15, 14, 13, 12, 11, 10, 8, 6, 5, 4, 3, 2, 1, 0] [105, 103, 102, 101, 0] rfl rfl
  try dsimp only [List.map, stCells, xL, xM, Nat.reduceAdd, xD, xE, xT, xU, xC, xN, zCF] at hS
  refine then_n (wp_seq ?_)
  refine region_q hS
    (cF rfl (oP (unversion_c _) Try.func69 (Args.one (.ci (by kernel_rfl)))) trivial trivial
    (cF rfl (oM .t) r1 trivial
    (cF rfl (o_extract .t rfl) r1 trivial
    (cF rfl (o_extract .t rfl) r1 trivial
    (cF rfl (oH [.int .i64 0, .int .i64 0, .int .i64 0] 106) trivial trivial
    (cF rfl (oA 3 106 .same (.conv .t .agg)) r2 r1
    (cF rfl (oN .t) r1 trivial
    Chain.nil)))))))
    hB ?_
  clear hS; intro a w F hS
  replace hS := hS.sub
  obtain ⟨F, hS⟩ := hS.nm [20, 18, 16, 15, 14, 13, 12, 11, 10, 8, 6, 5, 4, 3, 2, 1, 0] [105, 103, 102, 101, 0] rfl rfl
  try dsimp only [RS.sub, SF.sub, CF.sub, csub, Anc.sub, List.map, stCells, xL, xM, Nat.reduceAdd, xD, xE, xT, xU, xC, xN, zCF] at hS
  generalize Act.tau a 19 = v19 at hS
  refine then_n (wp_seq ?_)
  refine region_seqN hS (by kernel_rfl)
    (cG rfl (oM .t) r1 trivial
    (cG rfl (o_eql .t (.ci (by kernel_rfl))) r1 trivial
    (cG rfl (oM .t) r1 trivial
    (ChainN.cons (Cert.cond rfl rfl (fun h => o_move .t (by rfl))) r2 trivial
    (ChainN.cons (Cert.cond rfl rfl (fun h => o_eql (.w h) (.ci (by kernel_rfl)))) r2 trivial
    (cG rfl (o_and2 .t .t) r2 trivial
    (cG rfl (oM .t) r1 trivial
    (ChainN.cons (Cert.cond rfl rfl (fun h => o_load (ag := true) (sz := 4) 103 .is (by kernel_rfl) (by kernel_rfl) (by kernel_rfl) (by rfl))) r2 r1
    (ChainN.cons (Cert.cond rfl rfl (fun h => o_load (ag := true) (sz := 4) 101 .is (by kernel_rfl) (by kernel_rfl) (by kernel_rfl) (by rfl))) r2 r1
    (ChainN.cons (Cert.cond rfl rfl (fun h => o_eqlS (ks := [true, true, true, true]) (by kernel_rfl) (.w h) (.w h) (.int (.int (.int (.int .nil)))))) r3 trivial
    (cG rfl (o_and2 .t .t) r2 trivial
    (cG rfl (oM .t) r1 trivial
    (ChainN.cons (Cert.cond rfl rfl (fun h => o_move .t (by rfl))) r2 trivial
    (ChainN.cons (Cert.cond rfl rfl (fun h => o_eql (.w h) (.ci (by kernel_rfl)))) r2 trivial
    (cG rfl (o_and2 .t .t) r2 trivial
    (cG rfl (oM .t) r1 trivial
    (ChainN.cons (Cert.cond rfl rfl (fun h => o_move .t (by rfl))) r2 trivial
    (ChainN.cons (Cert.cond rfl rfl (fun h => o_eql (.w h) (.ci (by kernel_rfl)))) r2 trivial
    (cG rfl (o_and2 .t .t) r2 trivial
    (cG rfl (oM .t) r1 trivial
    (ChainN.cons (Cert.cond rfl rfl (fun h => o_move .t (by rfl))) r2 trivial
    (ChainN.cons (Cert.cond rfl rfl (fun h => o_eql (.w h) (.ci (by kernel_rfl)))) r2 trivial
    (cG rfl (o_and2 .t .t) r2 trivial
    (cG rfl (oM .t) r1 trivial
    (ChainN.norm [(0, _), (1, _), (2, _), (11, _), (12, _), (13, _), (14, _), (15, _), (16, _), (18, _), (20, _), (89, _)] [(0, _), (101, _), (102, _), (103, _), (105, _)] ⟨rfl, rfl, rfl, rfl, rfl, rfl, rfl, rfl, rfl, rfl, rfl, rfl, trivial⟩ r5
    (ChainN.cons (Cert.cond rfl rfl (fun h => o_move .t (by rfl))) r2 trivial
    (ChainN.cons (Cert.cond rfl rfl (fun h => o_eql (.w h) (.ci (by kernel_rfl)))) r2 trivial
    (cG rfl (o_and2 .t .t) r2 trivial
    (cG rfl (oM .t) r1 trivial
    (ChainN.cons (Cert.cond rfl rfl (fun h => o_move .t (by rfl))) r2 trivial
    (ChainN.cons (Cert.cond rfl rfl (fun h => o_eql (.w h) (.ci (by kernel_rfl)))) r2 trivial
    (cG rfl (o_and2 .t .t) r2 trivial
    (cG rfl (oM .t) r1 trivial
    (ChainN.cons (Cert.cond rfl rfl (fun h => o_load (ag := true) (sz := 3) 105 .is (by kernel_rfl) (by kernel_rfl) (by kernel_rfl) (by rfl))) r2 r1
    (ChainN.cons (Cert.cond rfl rfl (fun h => o_load (ag := true) (sz := 3) 102 .is (by kernel_rfl) (by kernel_rfl) (by kernel_rfl) (by rfl))) r2 r1
    (ChainN.cons (Cert.cond rfl rfl (fun h => o_eqlS (ks := [true, true, true]) (by kernel_rfl) (.w h) (.w h) (.int (.int (.int .nil))))) r3 trivial
    (cG rfl (o_and2 .t .t) r2 trivial
    (cG rfl (oM .t) r1 trivial
    (ChainN.cons (Cert.cond rfl rfl (fun h => o_move .t (by rfl))) r2 trivial
    (ChainN.cons (Cert.cond rfl rfl (fun h => o_eql (.w h) (.ci (by kernel_rfl)))) r2 trivial
    (cG rfl (o_and2 .t .t) r2 trivial
    (cG rfl (oM .t) r1 trivial
    (ChainN.cons (Cert.cond rfl rfl (fun h => o_move .t (by rfl))) r2 trivial
    (ChainN.cons (Cert.cond rfl rfl (fun h => o_eql (.w h) (.ci (by kernel_rfl)))) r2 trivial
    (cG rfl (o_and2 .t .t) r2 trivial
    (cG rfl (oM .t) r1 trivial
    (ChainN.cons (Cert.cond rfl rfl (fun h => o_move .t (by rfl))) r2 trivial
    (ChainN.cons (Cert.cond rfl rfl (fun h => o_eql (.w h) (.ci (by kernel_rfl)))) r2 trivial
    (cG rfl (o_and2 .t .t) r2 trivial
    (ChainN.norm [(0, _), (1, _), (18, _), (20, _), (113, _)] [(0, _), (101, _), (102, _), (103, _), (105, _)] r5 r5
    (cG rfl (oM .t) r1 trivial
    (ChainN.cons (Cert.cond rfl rfl (fun h => o_move .t (by rfl))) r2 trivial
    (ChainN.cons (Cert.cond rfl rfl (fun h => o_eql (.w h) (.ci (by kernel_rfl)))) r2 trivial
    (cG rfl (o_and2 .t .t) r2 trivial
    (cG rfl (oM .t) r1 trivial
    (ChainN.cons (Cert.cond rfl rfl (fun h => o_move .t (by rfl))) r2 trivial
    (ChainN.cons (Cert.cond rfl rfl (fun h => o_eql (.w h) (.ci (by kernel_rfl)))) r2 trivial
    (cG rfl (o_and2 .t .t) r2 trivial
    (cG rfl (oM .t) r1 trivial
    (ChainN.cons (Cert.cond rfl rfl (fun h => o_load (ag := true) (sz := 4) 101 .is (by kernel_rfl) (by kernel_rfl) (by kernel_rfl) (by rfl))) r2 r1
    (ChainN.cons (Cert.cond rfl rfl (fun h => o_build (r := [(0, _), (2, _)]) (zs := [.int .i64 0, .int .i64 0, .int .i64 0, .int .i64 0]) (pl := [(0, 1), (1, 1), (2, 1), (3, 1)]) (by kernel_rfl) (by kernel_rfl) (.one rfl (.ci (by kernel_rfl)) one_int (by kernel_rfl) (.one rfl (.ci (by kernel_rfl)) one_int (by kernel_rfl) .nil)) (by rfl))) r1 trivial
    (ChainN.cons (Cert.cond rfl rfl (fun h => o_callP (less_c ⟨1, 2, 2, 3⟩ ⟨1, 0, 3, 0⟩) Try.func14 rfl (by kernel_rfl) (Args.two (.pagg (.w h)) (.pagg (.w h))))) r3 trivial
    (cG rfl (o_and2 .t .t) r2 trivial
    (cG rfl (oM .t) r1 trivial
    (ChainN.cons (Cert.cond rfl rfl (fun h => o_load (ag := true) (sz := 4) 101 .is (by kernel_rfl) (by kernel_rfl) (by kernel_rfl) (by rfl))) r2 r1
    (ChainN.cons (Cert.cond rfl rfl (fun h => o_load (ag := true) (sz := 4) 101 .is (by kernel_rfl) (by kernel_rfl) (by kernel_rfl) (by rfl))) r2 r1
    (ChainN.cons (Cert.cond rfl rfl (fun h => o_callP (less_c ⟨1, 2, 2, 3⟩ ⟨1, 2, 2, 3⟩) Try.func14 rfl (by kernel_rfl) (Args.two (.pagg (.w h)) (.pagg (.w h))))) r3 trivial
    (ChainN.cons (Cert.cond rfl rfl (fun h => o_not (.w h))) r2 trivial
    (cG rfl (o_and2 .t .t) r2 trivial
    (cG rfl (oM .t) r1 trivial
    (ChainN.cons (Cert.cond rfl rfl (fun h => o_load (ag := true) (sz := 4) 101 .is (by kernel_rfl) (by kernel_rfl) (by kernel_rfl) (by rfl))) r2 r1
    (ChainN.cons (Cert.cond rfl rfl (fun h => o_load (ag := true) (sz := 4) 101 .is (by kernel_rfl) (by kernel_rfl) (by kernel_rfl) (by rfl))) r2 r1
    (ChainN.cons (Cert.cond rfl rfl (fun h => o_buildSliceE (sz := 4) (zs := [.int .i64 0, .int .i64 0, .int .i64 0, .int .i64 0]) (r := [(0, .tmp 134), (1, .tmp 135)]) (l := [_, _, _, _, _, _, _, _]) Try.underlying22 (by kernel_rfl) (by kernel_rfl) (by kernel_rfl) (by kernel_rfl) rfl rfl (.agg rfl (.w h) (by kernel_rfl) (by kernel_rfl) (.agg rfl (.w h) (by kernel_rfl) (by kernel_rfl) .nil)) rfl)) r3 trivial
    (ChainN.cons (Cert.cond rfl rfl (fun h => o_callP (sort2_c ⟨1, 2, 2, 3⟩) Try.func12 rfl (by kernel_rfl) (Args.one (.conv (.w h) (Ent.arrSl (R := rEdge) (l := [⟨1, 2, 2, 3⟩, ⟨1, 2, 2, 3⟩]) rfl))))) r2 trivial
    (ChainN.norm [(0, _), (133, _), (137, _)] [(0, _), (101, _), (102, _), (103, _), (105, _)] r3 r5
    (ChainN.cons (Cert.cond rfl rfl (fun h => o_len_sl Try.underlying22 (.w h))) r2 trivial
    (ChainN.cons (Cert.cond rfl rfl (fun h => o_eql (.w h) (.ci (by kernel_rfl)))) r2 trivial
    (cG rfl (o_and2 .t .t) r2 trivial
    (cG rfl (oN .t) r1 trivial
    ChainN.nil)))))))))))))))))))))))))))))))))))))))))))))))))))))))))))))))))))))))))))))))
    (by kernel_rfl) (by rw [hB]; kernel_rfl) ?_
  clear hS; intro a w F hS
  obtain ⟨F, hS⟩ := hS.nm [0] [0] rfl rfl
  try dsimp only [List.map, stCells, xL, xM, Nat.reduceAdd, xD, xE, xT, xU, xC, xN, zCF, ldSF] at hS
  refine then_n (wp_ret ?_)
  refine ret_P hfr hS rfl (.tmp rfl .nil) (.one (.bool (by decide +kernel)))

end Go.Proofs.Ytpjjmolibanakaa
