/- Bags: lives. No condition beyond those that each theorem says. -/
import Derived.Test.YtfdjjfplhdpclaaMuE
namespace Go.Proofs.Ytfdjjfplhdpclaa
open Go Go.Gm
set_option linter.unusedVariables false
set_option linter.unusedSimpArgs false
set_option maxHeartbeats 4000000
set_option maxRecDepth 8000


theorem madd_lit (b : Nat) (bg : List HvD) (e : EdgeD) (n : Int) (bg' : List HvD) (w : Int) (h : addB bg e n = (bg', w)) (hl : bg.length < 100000) : FnG Try.prog 10 1 [.is (.pointer (some ⟨b, 0, none⟩)), .agg (rEdge e), .int .i64 n] [mulH (.pointer (some ⟨b, 0, none⟩)) bg] (.int .i64 w) (fun _ => [mulH (.pointer (some ⟨b, 0, none⟩)) bg']) := by
  have k := madd_c b bg e n hl
  rw [h] at k; exact k
theorem Ent.sure {c : Prop} {s : SF} (h : c) : Ent s (.when c s) := fun _ _ _ _ k => ⟨fun _ => k, fun n => absurd h n⟩

theorem lives17_c  : FnP Try.prog 5 [] (.bool true) := by
  refine FnP.mk Try.func5 rfl Try.ntmps5 rfl ?_
  intro B a w F hB hfr hS
  refine wp_seq ?_
  refine region_q hS
    (cF rfl (oN .cb) trivial trivial
    Chain.nil)
    hB ?_
  clear hS; intro a w F hS
  obtain ⟨F, hS⟩ := hS.nm [0] [0] rfl rfl
  try dsimp only [rEdge, rHv] at hS
  refine then_n (wp_seq ?_)
  replace hS := hS.fresh 61 rfl
  refine region_q hS
    (cF rfl (o_callN 61 (mnew_c) Try.func13 rfl (by kernel_rfl) Args.nil PV.ptr_one) trivial r1
    (cF rfl (oN .t) r1 trivial
    Chain.nil))
    hB ?_
  clear hS; intro a w F hS
  replace hS := hS.sub
  obtain ⟨F, hS⟩ := hS.nm [1, 0] [61, 0] rfl rfl
  try dsimp only [RS.sub, SF.sub, CF.sub, csub, Anc.sub, List.map, rEdge, rHv] at hS
  generalize Act.tau a 11 = v11 at hS
  obtain ⟨_, _, _, ho⟩ := hS.obGet 61 rfl
  obtain ⟨b1, rfl⟩ := mulH_ptr ho
  clear ho
  replace hS := hS.turn 61 rfl (r' := RS.hp (mulH (.pointer (some ⟨b1, 0, none⟩)) [])) (fun _ _ _ _ h => h)
  obtain ⟨F, hS⟩ := hS.nm [1, 0] [61, 0] rfl rfl
  refine then_n (wp_seq ?_)
  refine region_q hS
    (cF rfl (oB [(0, _), (1, _), (2, _), (3, _)] [.int .i64 0, .int .i64 0, .int .i64 0, .int .i64 0] [(0, 1), (1, 1), (2, 1), (3, 1)] (.one rfl (.ci (by kernel_rfl)) one_int (by kernel_rfl) (.one rfl (.ci (by kernel_rfl)) one_int (by kernel_rfl) (.one rfl (.ci (by kernel_rfl)) one_int (by kernel_rfl) (.one rfl (.ci (by kernel_rfl)) one_int (by kernel_rfl) .nil))))) trivial trivial
    (cF rfl (oH [.int .i64 0, .int .i64 0, .int .i64 0, .int .i64 0] 101) trivial trivial
    (cF rfl (oA 4 101 .same .t) r2 r1
    Chain.nil)))
    hB ?_
  clear hS; intro a w F hS
  replace hS := hS.sub
  obtain ⟨F, hS⟩ := hS.nm [2, 1, 0] [101, 61, 0] rfl rfl
  try dsimp only [RS.sub, SF.sub, CF.sub, csub, Anc.sub, List.map, stCells, xL, xM, Nat.reduceAdd, xD, xE, xT, xU, xC, xN, zCF, rEdge, rHv] at hS
  generalize Act.tau a 2 = v2 at hS
  refine then_n (wp_seq ?_)
  refine region_q hS
    (cF rfl (oB [(0, _), (1, _), (2, _), (3, _)] [.int .i64 0, .int .i64 0, .int .i64 0, .int .i64 0] [(0, 1), (1, 1), (2, 1), (3, 1)] (.one rfl (.ci (by kernel_rfl)) one_int (by kernel_rfl) (.one rfl (.ci (by kernel_rfl)) one_int (by kernel_rfl) (.one rfl (.ci (by kernel_rfl)) one_int (by kernel_rfl) (.one rfl (.ci (by kernel_rfl)) one_int (by kernel_rfl) .nil))))) trivial trivial
    (cF rfl (oH [.int .i64 0, .int .i64 0, .int .i64 0, .int .i64 0] 102) trivial trivial
    (cF rfl (oA 4 102 .same .t) r2 r1
    Chain.nil)))
    hB ?_
  clear hS; intro a w F hS
  replace hS := hS.sub
  obtain ⟨F, hS⟩ := hS.nm [3, 2, 1, 0] [102, 101, 61, 0] rfl rfl
  try dsimp only [RS.sub, SF.sub, CF.sub, csub, Anc.sub, List.map, stCells, xL, xM, Nat.reduceAdd, xD, xE, xT, xU, xC, xN, zCF, rEdge, rHv] at hS
  generalize Act.tau a 3 = v3 at hS
  refine then_n (wp_seq (wp_seq ?_))
  replace hS := hS.fresh 62 rfl
  refine part_first 4 hS (by kernel_rfl)
    (cG rfl (oM .t) r1 trivial
    (cG rfl (o_nil_eql _ Try.underlying26 rfl .t) r1 trivial
    (cG rfl (oM .t) r1 trivial
    (ChainN.cons (Cert.run rfl rfl ((by rfl)) (o_callN 62 (mof_c [] (by decide)) Try.func6 rfl (by kernel_rfl) (Args.one (.conv (.c rfl) (.nilSl))) PV.ptr_one)) r1 r1
    ChainN.nil))))
    (by kernel_rfl) (by rw [hB]; kernel_rfl) ?_
  clear hS; intro a w F hS
  replace hS := hS.sub
  obtain ⟨F, hS⟩ := hS.nm [17, 16, 3, 2, 1, 0] [102, 101, 62, 61, 0] rfl rfl
  try dsimp only [RS.sub, SF.sub, CF.sub, csub, Anc.sub, List.map, rEdge, rHv] at hS
  generalize Act.tau a 17 = v17 at hS
  obtain ⟨_, _, _, ho⟩ := hS.obGet 62 rfl
  obtain ⟨b2, rfl⟩ := mulH_ptr ho
  clear ho
  replace hS := hS.turn 62 rfl (r' := RS.hp (mulH (.pointer (some ⟨b2, 0, none⟩)) (ofB []))) (fun _ _ _ _ h => h)
  obtain ⟨F, hS⟩ := hS.nm [17, 16, 3, 2, 1, 0] [102, 101, 62, 61, 0] rfl rfl
  refine part_last hS (by kernel_rfl)
    (ChainN.cons (Cert.run rfl rfl ((by rfl)) (o_nil_eql _ Try.underlying26 rfl .t)) r2 trivial
    (cG rfl (o_or2 .t (.conv .t (Ent.sure (by rfl)))) r2 trivial
    ChainN.nil))
    (by kernel_rfl) (by rw [hB]; kernel_rfl) ?_
  clear hS; intro a w F hS
  obtain ⟨F, hS⟩ := hS.nm [19, 3, 2, 1, 0] [102, 101, 62, 61, 0] rfl rfl
  try dsimp only [rEdge, rHv] at hS
  refine then_n ?_
  refine cond_b hS rfl (fun hc0 => ?_) (fun hc0 => ?_)
  ·skip
   simp at hc0
  refine wp_skip (then_n (wp_seq ?_))
  refine region_any (by kernel_rfl) hS (by kernel_rfl)
    (cF rfl (oM .t) r1 trivial
    (cF rfl (oL true 4 101 .is) r1 r1
    (cF rfl (o_callG1 61 (madd_lit b1 [] (⟨1, 2, 2, 3⟩ : EdgeD) (1) [(⟨(⟨1, 2, 2, 3⟩ : EdgeD), 1⟩ : HvD)] 0 (by decide +kernel) (by decide)) Try.func10 rfl (by kernel_rfl) (Args.three .t (.pagg .t) (.ci (by kernel_rfl)))) r2 r1
    (cF rfl (oM .t) r1 trivial
    (cF rfl (oL true 4 101 .is) r1 r1
    (cF rfl (o_callG1 61 (madd_lit b1 [(⟨(⟨1, 2, 2, 3⟩ : EdgeD), 1⟩ : HvD)] (⟨1, 2, 2, 3⟩ : EdgeD) (1) [(⟨(⟨1, 2, 2, 3⟩ : EdgeD), 2⟩ : HvD)] 0 (by decide +kernel) (by decide)) Try.func10 rfl (by kernel_rfl) (Args.three .t (.pagg .t) (.ci (by kernel_rfl)))) r2 r1
    (cF rfl (oM .t) r1 trivial
    (cF rfl (oL true 4 101 .is) r1 r1
    (cF rfl (o_callG1 61 (madd_lit b1 [(⟨(⟨1, 2, 2, 3⟩ : EdgeD), 2⟩ : HvD)] (⟨1, 2, 2, 3⟩ : EdgeD) (-3) [(⟨(⟨1, 2, 2, 3⟩ : EdgeD), 2⟩ : HvD)] 3 (by decide +kernel) (by decide)) Try.func10 rfl (by kernel_rfl) (Args.three .t (.pagg .t) (.ci (by kernel_rfl)))) r2 r1
    (cF rfl (oN .t) r1 trivial
    (cF rfl (oN .t) r1 trivial
    (cF rfl (oN .t) r1 trivial
    Chain.nil))))))))))))
    (by kernel_rfl) (by rw [hB]; kernel_rfl) ?_
  clear hS; intro a w F hS
  obtain ⟨F, hS⟩ := hS.nm [6, 5, 4, 3, 2, 1, 0] [102, 101, 62, 61, 0] rfl rfl
  try dsimp only [List.map, xD, xE, xT, xU, ldSF, rEdge, rHv] at hS
  refine then_n (wp_seq ?_)
  refine region_any (by kernel_rfl) hS (by kernel_rfl)
    (cF rfl (oM .t) r1 trivial
    (cF rfl (oB [] [.int .i64 0, .int .i64 0, .int .i64 0, .int .i64 0] [(0, 1), (1, 1), (2, 1), (3, 1)] .nil) trivial trivial
    (cF rfl (o_callG1 61 (madd_lit b1 [(⟨(⟨1, 2, 2, 3⟩ : EdgeD), 2⟩ : HvD)] (⟨0, 0, 0, 0⟩ : EdgeD) (1) [(⟨(⟨1, 2, 2, 3⟩ : EdgeD), 2⟩ : HvD)] 1 (by decide +kernel) (by decide)) Try.func10 rfl (by kernel_rfl) (Args.three .t (.pagg .t) (.ci (by kernel_rfl)))) r2 r1
    (cF rfl (oM .t) r1 trivial
    (cF rfl (oL true 4 101 .is) r1 r1
    (cF rfl (o_callG1 61 (madd_lit b1 [(⟨(⟨1, 2, 2, 3⟩ : EdgeD), 2⟩ : HvD)] (⟨1, 2, 2, 3⟩ : EdgeD) (2147483646) [(⟨(⟨1, 2, 2, 3⟩ : EdgeD), 2⟩ : HvD)] 2 (by decide +kernel) (by decide)) Try.func10 rfl (by kernel_rfl) (Args.three .t (.pagg .t) (.ci (by kernel_rfl)))) r2 r1
    (cF rfl (oN .t) r1 trivial
    (cF rfl (oN .t) r1 trivial
    Chain.nil))))))))
    (by kernel_rfl) (by rw [hB]; kernel_rfl) ?_
  clear hS; intro a w F hS
  obtain ⟨F, hS⟩ := hS.nm [8, 7, 6, 5, 4, 3, 2, 1, 0] [102, 101, 62, 61, 0] rfl rfl
  try dsimp only [List.map, stCells, xL, xM, Nat.reduceAdd, xD, xE, xT, xU, xC, xN, zCF, ldSF, rEdge, rHv] at hS
  refine then_n (wp_seq ?_)
  refine region_q hS
    (cF rfl (oM .t) r1 trivial
    (cF rfl (oL true 4 102 .is) r1 r1
    (cF rfl (o_callG1 61 (madd_lit b1 [(⟨(⟨1, 2, 2, 3⟩ : EdgeD), 2⟩ : HvD)] (⟨1, 2, 3, 3⟩ : EdgeD) (5) [(⟨(⟨1, 2, 2, 3⟩ : EdgeD), 2⟩ : HvD), (⟨(⟨1, 2, 3, 3⟩ : EdgeD), 5⟩ : HvD)] 0 (by decide +kernel) (by decide)) Try.func10 rfl (by kernel_rfl) (Args.three .t (.pagg .t) (.ci (by kernel_rfl)))) r2 r1
    (cF rfl (oN .t) r1 trivial
    Chain.nil))))
    hB ?_
  clear hS; intro a w F hS
  obtain ⟨F, hS⟩ := hS.nm [9, 8, 7, 6, 5, 4, 3, 2, 1, 0] [102, 101, 62, 61, 0] rfl rfl
  try dsimp only [List.map, xD, xE, xT, xU, ldSF, rEdge, rHv] at hS
  refine then_n (wp_seq ?_)
  refine region_q hS
    (cF rfl (oN (.c rfl)) trivial trivial
    Chain.nil)
    hB ?_
  clear hS; intro a w F hS
  obtain ⟨F, hS⟩ := hS.nm [10, 9, 8, 7, 6, 5, 4, 3, 2, 1, 0] [102, 101, 62, 61, 0] rfl rfl
  try dsimp only [rEdge, rHv] at hS
  refine then_n (wp_seq ?_)
  refine region_any (by kernel_rfl) hS (by kernel_rfl)
    (cF rfl (oM .t) r1 trivial
    (cF rfl (o_eql .t (.ci (by kernel_rfl))) r1 trivial
    (cF rfl (oM .t) r1 trivial
    (Chain.cons (Cert.run rfl rfl ((by decide +kernel)) (o_move .t (by rfl))) r2 trivial
    (Chain.cons (Cert.run rfl rfl ((by decide +kernel)) (o_eql .t (.ci (by kernel_rfl)))) r2 trivial
    (cF rfl (o_and2 .t (.conv .t (Ent.sure (by decide +kernel)))) r2 trivial
    (cF rfl (oM .t) r1 trivial
    (Chain.cons (Cert.run rfl rfl ((by decide +kernel)) (o_move .t (by rfl))) r2 trivial
    (Chain.cons (Cert.run rfl rfl ((by decide +kernel)) (o_eql .t (.ci (by kernel_rfl)))) r2 trivial
    (cF rfl (o_and2 .t (.conv .t (Ent.sure (by decide +kernel)))) r2 trivial
    (cF rfl (oM .t) r1 trivial
    (Chain.cons (Cert.run rfl rfl ((by decide +kernel)) (o_move .t (by rfl))) r2 trivial
    (Chain.cons (Cert.run rfl rfl ((by decide +kernel)) (o_eql .t (.ci (by kernel_rfl)))) r2 trivial
    (cF rfl (o_and2 .t (.conv .t (Ent.sure (by decide +kernel)))) r2 trivial
    (cF rfl (oM .t) r1 trivial
    (Chain.cons (Cert.run rfl rfl ((by decide +kernel)) (o_move .t (by rfl))) r2 trivial
    (Chain.cons (Cert.run rfl rfl ((by decide +kernel)) (o_eql .t (.ci (by kernel_rfl)))) r2 trivial
    (cF rfl (o_and2 .t (.conv .t (Ent.sure (by decide +kernel)))) r2 trivial
    (cF rfl (oM .t) r1 trivial
    (Chain.cons (Cert.run rfl rfl ((by decide +kernel)) (o_move .t (by rfl))) r2 trivial
    (Chain.cons (Cert.run rfl rfl ((by decide +kernel)) (o_eql .t (.ci (by kernel_rfl)))) r2 trivial
    (cF rfl (o_and2 .t (.conv .t (Ent.sure (by decide +kernel)))) r2 trivial
    (cF rfl (oM .t) r1 trivial
    (Chain.cons (Cert.run rfl rfl ((by decide +kernel)) (o_move .t (by rfl))) r2 trivial
    (Chain.cons (Cert.run rfl rfl ((by decide +kernel)) (oL true 4 101 .is)) r2 r1
    (Chain.cons (Cert.run rfl rfl ((by decide +kernel)) (o_callG1 61 (mcount_c b1 [(⟨(⟨1, 2, 2, 3⟩ : EdgeD), 2⟩ : HvD), (⟨(⟨1, 2, 3, 3⟩ : EdgeD), 5⟩ : HvD)] (⟨1, 2, 2, 3⟩ : EdgeD)) Try.func14 rfl (by kernel_rfl) (Args.two .t (.pagg .t)))) r3 r1
    (Chain.cons (Cert.run rfl rfl ((by decide +kernel)) (o_eql .t (.ci (by kernel_rfl)))) r2 trivial
    (cF rfl (o_and2 .t (.conv .t (Ent.sure (by decide +kernel)))) r2 trivial
    (cF rfl (oM .t) r1 trivial
    (Chain.cons (Cert.run rfl rfl ((by decide +kernel)) (o_move .t (by rfl))) r2 trivial
    (Chain.cons (Cert.run rfl rfl ((by decide +kernel)) (o_callG1 61 (mlen_c b1 [(⟨(⟨1, 2, 2, 3⟩ : EdgeD), 2⟩ : HvD), (⟨(⟨1, 2, 3, 3⟩ : EdgeD), 5⟩ : HvD)]) Try.func15 rfl (by kernel_rfl) (Args.one .t))) r2 r1
    (Chain.cons (Cert.run rfl rfl ((by decide +kernel)) (o_eql .t (.ci (by kernel_rfl)))) r2 trivial
    (cF rfl (o_and2 .t (.conv .t (Ent.sure (by decide +kernel)))) r2 trivial
    (cF rfl (oM .t) r1 trivial
    (Chain.cons (Cert.run rfl rfl ((by decide +kernel)) (o_move .t (by rfl))) r2 trivial
    (Chain.cons (Cert.run rfl rfl ((by decide +kernel)) (o_callG1 61 (mkinds_c b1 [(⟨(⟨1, 2, 2, 3⟩ : EdgeD), 2⟩ : HvD), (⟨(⟨1, 2, 3, 3⟩ : EdgeD), 5⟩ : HvD)] 1 2) Try.func16 rfl (by kernel_rfl) (Args.three .t (.ci (by kernel_rfl)) (.ci (by kernel_rfl))))) r2 r1
    (Chain.cons (Cert.run rfl rfl ((by decide +kernel)) (o_eql .t (.ci (by kernel_rfl)))) r2 trivial
    (cF rfl (o_and2 .t (.conv .t (Ent.sure (by decide +kernel)))) r2 trivial
    (cF rfl (oM .t) r1 trivial
    (Chain.cons (Cert.run rfl rfl ((by decide +kernel)) (o_move .t (by rfl))) r2 trivial
    (Chain.cons (Cert.run rfl rfl ((by decide +kernel)) (o_callG1 61 (mkinds_c b1 [(⟨(⟨1, 2, 2, 3⟩ : EdgeD), 2⟩ : HvD), (⟨(⟨1, 2, 3, 3⟩ : EdgeD), 5⟩ : HvD)] 2 1) Try.func16 rfl (by kernel_rfl) (Args.three .t (.ci (by kernel_rfl)) (.ci (by kernel_rfl))))) r2 r1
    (Chain.cons (Cert.run rfl rfl ((by decide +kernel)) (o_eql .t (.ci (by kernel_rfl)))) r2 trivial
    (cF rfl (o_and2 .t (.conv .t (Ent.sure (by decide +kernel)))) r2 trivial
    (cF rfl (oM .t) r1 trivial
    (Chain.cons (Cert.run rfl rfl ((by decide +kernel)) (o_move .t (by rfl))) r2 trivial
    (Chain.cons (Cert.run rfl rfl ((by decide +kernel)) (o_callG1 61 (medges_c b1 [(⟨(⟨1, 2, 2, 3⟩ : EdgeD), 2⟩ : HvD), (⟨(⟨1, 2, 3, 3⟩ : EdgeD), 5⟩ : HvD)]) Try.func11 rfl (by kernel_rfl) (Args.one .t))) r2 r1
    (Chain.cons (Cert.run rfl rfl ((by decide +kernel)) (oL true 4 101 .is)) r2 r1
    (Chain.cons (Cert.run rfl rfl ((by decide +kernel)) (o_build (r := [(0, .tmp 84), (1, _)]) (zs := [.int .i64 0, .int .i64 0, .int .i64 0, .int .i64 0, .int .i64 0]) (pl := [(0, 4), (4, 1)]) (by kernel_rfl) (by kernel_rfl) (.agg rfl .t (by kernel_rfl) (by kernel_rfl) (.one rfl (.ci (by kernel_rfl)) one_int (by kernel_rfl) .nil)) (by rfl))) r2 trivial
    (Chain.cons (Cert.run rfl rfl ((by decide +kernel)) (oL true 4 102 .is)) r2 r1
    (Chain.cons (Cert.run rfl rfl ((by decide +kernel)) (o_build (r := [(0, .tmp 86), (1, _)]) (zs := [.int .i64 0, .int .i64 0, .int .i64 0, .int .i64 0, .int .i64 0]) (pl := [(0, 4), (4, 1)]) (by kernel_rfl) (by kernel_rfl) (.agg rfl .t (by kernel_rfl) (by kernel_rfl) (.one rfl (.ci (by kernel_rfl)) one_int (by kernel_rfl) .nil)) (by rfl))) r2 trivial
    (Chain.cons (Cert.run rfl rfl ((by decide +kernel)) (o_buildSliceE (sz := 5) (zs := [.int .i64 0, .int .i64 0, .int .i64 0, .int .i64 0, .int .i64 0]) (r := [(0, .tmp 85), (1, .tmp 87)]) (l := [_, _, _, _, _, _, _, _, _, _]) Try.underlying22 (by kernel_rfl) (by kernel_rfl) (by kernel_rfl) (by kernel_rfl) rfl rfl (.agg rfl .t (by kernel_rfl) (by kernel_rfl) (.agg rfl .t (by kernel_rfl) (by kernel_rfl) .nil)) rfl)) r3 trivial
    (Chain.cons (Cert.run rfl rfl ((by decide +kernel)) (oP (sameHv_c [(⟨(⟨1, 2, 2, 3⟩ : EdgeD), 2⟩ : HvD), (⟨(⟨1, 2, 3, 3⟩ : EdgeD), 5⟩ : HvD)] [(⟨(⟨1, 2, 2, 3⟩ : EdgeD), 2⟩ : HvD), (⟨(⟨1, 2, 3, 3⟩ : EdgeD), 5⟩ : HvD)]) Try.func12 (Args.two .t (.conv .t (Ent.arrSl (R := rHv) (l := [(⟨(⟨1, 2, 2, 3⟩ : EdgeD), 2⟩ : HvD), (⟨(⟨1, 2, 3, 3⟩ : EdgeD), 5⟩ : HvD)]) rfl))))) r3 trivial
    (cF rfl (o_and2 .t (.conv .t (Ent.sure (by decide +kernel)))) r2 trivial
    (cF rfl (oM .t) r1 trivial
    (Chain.cons (Cert.run rfl rfl ((by decide +kernel)) (o_move .t (by rfl))) r2 trivial
    (Chain.cons (Cert.run rfl rfl ((by decide +kernel)) (o_callG1 61 (mout_c b1 [(⟨(⟨1, 2, 2, 3⟩ : EdgeD), 2⟩ : HvD), (⟨(⟨1, 2, 3, 3⟩ : EdgeD), 5⟩ : HvD)] 1) Try.func17 rfl (by kernel_rfl) (Args.two .t (.ci (by kernel_rfl))))) r2 r1
    (Chain.cons (Cert.run rfl rfl ((by decide +kernel)) (o_len_sl Try.underlying22 .t)) r2 trivial
    (Chain.cons (Cert.run rfl rfl ((by decide +kernel)) (o_eql .t (.ci (by kernel_rfl)))) r2 trivial
    (cF rfl (o_and2 .t (.conv .t (Ent.sure (by decide +kernel)))) r2 trivial
    (cF rfl (oM .t) r1 trivial
    (Chain.cons (Cert.run rfl rfl ((by decide +kernel)) (o_move .t (by rfl))) r2 trivial
    (Chain.cons (Cert.run rfl rfl ((by decide +kernel)) (o_callG1 61 (min_c b1 [(⟨(⟨1, 2, 2, 3⟩ : EdgeD), 2⟩ : HvD), (⟨(⟨1, 2, 3, 3⟩ : EdgeD), 5⟩ : HvD)] 1) Try.func18 rfl (by kernel_rfl) (Args.two .t (.ci (by kernel_rfl))))) r2 r1
    (Chain.cons (Cert.run rfl rfl ((by decide +kernel)) (o_len_sl Try.underlying22 .t)) r2 trivial
    (Chain.cons (Cert.run rfl rfl ((by decide +kernel)) (o_eql .t (.ci (by kernel_rfl)))) r2 trivial
    (cF rfl (o_and2 .t (.conv .t (Ent.sure (by decide +kernel)))) r2 trivial
    (cF rfl (oM .t) r1 trivial
    (Chain.cons (Cert.run rfl rfl ((by decide +kernel)) (o_move .t (by rfl))) r2 trivial
    (Chain.cons (Cert.run rfl rfl ((by decide +kernel)) (o_callG1 61 (min_c b1 [(⟨(⟨1, 2, 2, 3⟩ : EdgeD), 2⟩ : HvD), (⟨(⟨1, 2, 3, 3⟩ : EdgeD), 5⟩ : HvD)] 2) Try.func18 rfl (by kernel_rfl) (Args.two .t (.ci (by kernel_rfl))))) r2 r1
    (Chain.cons (Cert.run rfl rfl ((by decide +kernel)) (o_len_sl Try.underlying22 .t)) r2 trivial
    (Chain.cons (Cert.run rfl rfl ((by decide +kernel)) (o_eql .t (.ci (by kernel_rfl)))) r2 trivial
    (cF rfl (o_and2 .t (.conv .t (Ent.sure (by decide +kernel)))) r2 trivial
    (cF rfl (oM .t) r1 trivial
    (Chain.cons (Cert.run rfl rfl ((by decide +kernel)) (o_move .t (by rfl))) r2 trivial
    (Chain.cons (Cert.run rfl rfl ((by decide +kernel)) (oL true 4 102 .is)) r2 r1
    (Chain.cons (Cert.run rfl rfl ((by decide +kernel)) (o_callG1 61 (madd_lit b1 [(⟨(⟨1, 2, 2, 3⟩ : EdgeD), 2⟩ : HvD), (⟨(⟨1, 2, 3, 3⟩ : EdgeD), 5⟩ : HvD)] (⟨1, 2, 3, 3⟩ : EdgeD) (-5) [(⟨(⟨1, 2, 2, 3⟩ : EdgeD), 2⟩ : HvD)] 0 (by decide +kernel) (by decide)) Try.func10 rfl (by kernel_rfl) (Args.three .t (.pagg .t) (.ci (by kernel_rfl))))) r3 r1
    (Chain.cons (Cert.run rfl rfl ((by decide +kernel)) (o_eql .t (.ci (by kernel_rfl)))) r2 trivial
    (cF rfl (o_and2 .t (.conv .t (Ent.sure (by decide +kernel)))) r2 trivial
    (cF rfl (oM .t) r1 trivial
    (Chain.cons (Cert.run rfl rfl ((by decide +kernel)) (o_move .t (by rfl))) r2 trivial
    (Chain.cons (Cert.run rfl rfl ((by decide +kernel)) (o_callG1 61 (mlen_c b1 [(⟨(⟨1, 2, 2, 3⟩ : EdgeD), 2⟩ : HvD)]) Try.func15 rfl (by kernel_rfl) (Args.one .t))) r2 r1
    (Chain.cons (Cert.run rfl rfl ((by decide +kernel)) (o_eql .t (.ci (by kernel_rfl)))) r2 trivial
    (cF rfl (o_and2 .t (.conv .t (Ent.sure (by decide +kernel)))) r2 trivial
    (cF rfl (oM .t) r1 trivial
    (Chain.cons (Cert.run rfl rfl ((by decide +kernel)) (o_move .t (by rfl))) r2 trivial
    (Chain.cons (Cert.run rfl rfl ((by decide +kernel)) (oL true 4 101 .is)) r2 r1
    (Chain.cons (Cert.run rfl rfl ((by decide +kernel)) (oP (madd_nil (⟨1, 2, 2, 3⟩ : EdgeD) 1) Try.func10 (Args.three .t (.pagg .t) (.ci (by kernel_rfl))))) r3 trivial
    (Chain.cons (Cert.run rfl rfl ((by decide +kernel)) (o_eql .t (.ci (by kernel_rfl)))) r2 trivial
    (cF rfl (o_and2 .t (.conv .t (Ent.sure (by decide +kernel)))) r2 trivial
    (cF rfl (oM .t) r1 trivial
    (Chain.cons (Cert.run rfl rfl ((by decide +kernel)) (o_move .t (by rfl))) r2 trivial
    (Chain.cons (Cert.run rfl rfl ((by decide +kernel)) (oL true 4 101 .is)) r2 r1
    (Chain.cons (Cert.run rfl rfl ((by decide +kernel)) (oP (madd_nil (⟨1, 2, 2, 3⟩ : EdgeD) (-1)) Try.func10 (Args.three .t (.pagg .t) (.ci (by kernel_rfl))))) r3 trivial
    (Chain.cons (Cert.run rfl rfl ((by decide +kernel)) (o_eql .t (.ci (by kernel_rfl)))) r2 trivial
    (cF rfl (o_and2 .t (.conv .t (Ent.sure (by decide +kernel)))) r2 trivial
    (cF rfl (oM .t) r1 trivial
    (Chain.cons (Cert.run rfl rfl ((by decide +kernel)) (o_move .t (by rfl))) r2 trivial
    (Chain.cons (Cert.run rfl rfl ((by decide +kernel)) (oP (mlen_nil) Try.func15 (Args.one .t))) r2 trivial
    (Chain.cons (Cert.run rfl rfl ((by decide +kernel)) (o_eql .t (.ci (by kernel_rfl)))) r2 trivial
    (cF rfl (o_and2 .t (.conv .t (Ent.sure (by decide +kernel)))) r2 trivial
    (cF rfl (oM .t) r1 trivial
    (Chain.cons (Cert.run rfl rfl ((by decide +kernel)) (o_move .t (by rfl))) r2 trivial
    (Chain.cons (Cert.run rfl rfl ((by decide +kernel)) (oL true 4 101 .is)) r2 r1
    (Chain.cons (Cert.run rfl rfl ((by decide +kernel)) (oP (mcount_nil (⟨1, 2, 2, 3⟩ : EdgeD)) Try.func14 (Args.two .t (.pagg .t)))) r3 trivial
    (Chain.cons (Cert.run rfl rfl ((by decide +kernel)) (o_eql .t (.ci (by kernel_rfl)))) r2 trivial
    (cF rfl (o_and2 .t (.conv .t (Ent.sure (by decide +kernel)))) r2 trivial
    (cF rfl (oM .t) r1 trivial
    (Chain.cons (Cert.run rfl rfl ((by decide +kernel)) (o_move .t (by rfl))) r2 trivial
    (Chain.cons (Cert.run rfl rfl ((by decide +kernel)) (oP (medges_nil) Try.func11 (Args.one .t))) r2 trivial
    (Chain.cons (Cert.run rfl rfl ((by decide +kernel)) (o_len_sl Try.underlying22 .t)) r2 trivial
    (Chain.cons (Cert.run rfl rfl ((by decide +kernel)) (o_eql .t (.ci (by kernel_rfl)))) r2 trivial
    (cF rfl (o_and2 .t (.conv .t (Ent.sure (by decide +kernel)))) r2 trivial
    (cF rfl (oN .t) r1 trivial
    Chain.nil))))))))))))))))))))))))))))))))))))))))))))))))))))))))))))))))))))))))))))))))))))))))))))))))))))))))))))))))
    (by kernel_rfl) (by rw [hB]; kernel_rfl) ?_
  clear hS; intro a w F hS
  obtain ⟨F, hS⟩ := hS.nm [0] [62, 61, 0] rfl rfl
  try dsimp only [List.map, stCells, xL, xM, Nat.reduceAdd, xD, xE, xT, xU, xC, xN, zCF, ldSF, rEdge, rHv] at hS
  refine then_n (wp_ret ?_)
  refine ret_P hfr hS rfl (.tmp rfl .nil) (.one (.bool (by decide +kernel)))

end Go.Proofs.Ytfdjjfplhdpclaa
