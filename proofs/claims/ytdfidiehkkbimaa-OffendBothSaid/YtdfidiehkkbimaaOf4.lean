/- OffendTells. No condition beyond those that each theorem says. -/
import Derived.Test.YtdfidiehkkbimaaOf3
namespace Go.Proofs.Ytdfidiehkkbimaa
open Go Go.Gm
set_option linter.unusedVariables false
set_option linter.unusedSimpArgs false
set_option maxHeartbeats 4000000
set_option maxRecDepth 8000

theorem small18 : Small (⟨[⟨1, false, [⟨false, 5, 0, 0⟩, ⟨false, 5, 0, 0⟩]⟩, ⟨2, true, [⟨true, 5, 0, 0⟩, ⟨true, 5, 1, 1⟩]⟩], []⟩ : HistD) := ⟨⟨by decide, by decide⟩, by decide, by decide⟩
theorem small18b : Small (⟨[⟨1, false, [⟨false, 5, 0, 0⟩, ⟨false, 5, 0, 0⟩]⟩, ⟨2, true, [⟨true, 5, 0, 0⟩, ⟨true, 5, 1, 1⟩]⟩], [⟨1, []⟩]⟩ : HistD) := ⟨⟨by decide, by decide⟩, by decide, by decide⟩

theorem lives18_c  : FnP Try.prog 16 [] (.bool true) := by
  refine FnP.mk Try.func16 rfl Try.ntmps16 rfl ?_
  intro B a w F hB hfr hS
  refine wp_seq ?_
  refine region_q hS
    (cF rfl (oN .cb) trivial trivial
    Chain.nil)
    hB ?_
  clear hS; intro a w F hS
  obtain ⟨F, hS⟩ := hS.nm [0] [0] rfl rfl
  try dsimp only [rHist, rTx, rOrd, rVer, rInt, rOp, rBad] at hS
  refine then_n (wp_seq ?_)
  refine region_q hS
    (cF rfl (oB [(1, _)] [.bool false, .int .i64 0, .int .i64 0, .int .i64 0] [(0, 1), (1, 1), (2, 1), (3, 1)] (.one rfl (.ci (by kernel_rfl)) one_int (by kernel_rfl) .nil)) trivial trivial
    (cF rfl (oB [(1, _)] [.bool false, .int .i64 0, .int .i64 0, .int .i64 0] [(0, 1), (1, 1), (2, 1), (3, 1)] (.one rfl (.ci (by kernel_rfl)) one_int (by kernel_rfl) .nil)) trivial trivial
    (cF rfl (o_buildSliceE (sz := 4) (zs := [.bool false, .int .i64 0, .int .i64 0, .int .i64 0]) (r := [(0, .tmp 3), (1, .tmp 4)]) (l := [_, _, _, _, _, _, _, _]) Try.underlying51 (by kernel_rfl) (by kernel_rfl) (by kernel_rfl) (by kernel_rfl) rfl rfl (.agg rfl .t (by kernel_rfl) (by kernel_rfl) (.agg rfl .t (by kernel_rfl) (by kernel_rfl) .nil)) rfl) r2 trivial
    (cF rfl (oB [(0, _), (2, .tmp 5)] [.int .i64 0, .bool false, .slice none 0 0] [(0, 1), (1, 1), (2, 1)] (.one rfl (.ci (by kernel_rfl)) one_int (by kernel_rfl) (.one rfl .t one_arr (by kernel_rfl) .nil))) r1 trivial
    (cF rfl (oB [(0, _), (1, _)] [.bool false, .int .i64 0, .int .i64 0, .int .i64 0] [(0, 1), (1, 1), (2, 1), (3, 1)] (.one rfl .cb one_bool (by kernel_rfl) (.one rfl (.ci (by kernel_rfl)) one_int (by kernel_rfl) .nil))) trivial trivial
    (cF rfl (oB [(0, _), (1, _), (2, _), (3, _)] [.bool false, .int .i64 0, .int .i64 0, .int .i64 0] [(0, 1), (1, 1), (2, 1), (3, 1)] (.one rfl .cb one_bool (by kernel_rfl) (.one rfl (.ci (by kernel_rfl)) one_int (by kernel_rfl) (.one rfl (.ci (by kernel_rfl)) one_int (by kernel_rfl) (.one rfl (.ci (by kernel_rfl)) one_int (by kernel_rfl) .nil))))) trivial trivial
    (cF rfl (o_buildSliceE (sz := 4) (zs := [.bool false, .int .i64 0, .int .i64 0, .int .i64 0]) (r := [(0, .tmp 7), (1, .tmp 8)]) (l := [_, _, _, _, _, _, _, _]) Try.underlying51 (by kernel_rfl) (by kernel_rfl) (by kernel_rfl) (by kernel_rfl) rfl rfl (.agg rfl .t (by kernel_rfl) (by kernel_rfl) (.agg rfl .t (by kernel_rfl) (by kernel_rfl) .nil)) rfl) r2 trivial
    (cF rfl (oB [(0, _), (1, _), (2, .tmp 9)] [.int .i64 0, .bool false, .slice none 0 0] [(0, 1), (1, 1), (2, 1)] (.one rfl (.ci (by kernel_rfl)) one_int (by kernel_rfl) (.one rfl .cb one_bool (by kernel_rfl) (.one rfl .t one_arr (by kernel_rfl) .nil)))) r1 trivial
    (cF rfl (o_buildSliceE (sz := 3) (zs := [.int .i64 0, .bool false, .slice none 0 0]) (r := [(0, .tmp 6), (1, .tmp 10)]) (l := [_, _, _, _, _, _]) Try.underlying39 (by kernel_rfl) (by kernel_rfl) (by kernel_rfl) (by kernel_rfl) rfl rfl (.agg rfl .t (by kernel_rfl) (by kernel_rfl) (.agg rfl .t (by kernel_rfl) (by kernel_rfl) .nil)) rfl) r2 trivial
    (cF rfl (oB [(0, .tmp 11)] [.slice none 0 0, .slice none 0 0] [(0, 1), (1, 1)] (.one rfl .t one_arr (by kernel_rfl) .nil)) r1 trivial
    (cF rfl (oH [.slice none 0 0, .slice none 0 0] 101) trivial trivial
    (cF rfl (oA 2 101 .same .t) r2 r1
    Chain.nil))))))))))))
    hB ?_
  clear hS; intro a w F hS
  replace hS := hS.sub
  obtain ⟨F, hS⟩ := hS.nm [1, 0] [101, 0] rfl rfl
  try dsimp only [RS.sub, SF.sub, CF.sub, csub, Anc.sub, List.map, stCells, xL, xM, Nat.reduceAdd, xD, xE, xT, xU, xC, xN, zCF, rHist, rTx, rOrd, rVer, rInt, rOp, rBad] at hS
  generalize Act.tau a 1 = v1 at hS
  replace hS := hS.turn 101 rfl (r' := .pt (.val v1) 42 [.pv (.sl rTx [⟨1, false, [⟨false, 5, 0, 0⟩, ⟨false, 5, 0, 0⟩]⟩, ⟨2, true, [⟨true, 5, 0, 0⟩, ⟨true, 5, 1, 1⟩]⟩]), .pv (.sl rOrd [])]) (ptLe rfl rfl ⟨.arrSl (R := rTx) (l' := [⟨1, false, [⟨false, 5, 0, 0⟩, ⟨false, 5, 0, 0⟩]⟩, ⟨2, true, [⟨true, 5, 0, 0⟩, ⟨true, 5, 1, 1⟩]⟩]) rfl ⟨.refl, .refl, .arrSl (R := rOp) (l' := [⟨false, 5, 0, 0⟩, ⟨false, 5, 0, 0⟩]) rfl PVsLe.refl, .refl, .refl, .arrSl (R := rOp) (l' := [⟨true, 5, 0, 0⟩, ⟨true, 5, 1, 1⟩]) rfl PVsLe.refl, trivial⟩, .nilSl, trivial⟩)
  obtain ⟨F, hS⟩ := hS.nm [1, 0] [101, 0] rfl rfl
  refine then_n (wp_seq ?_)
  refine region_q hS
    (cF rfl (oB [(0, _), (1, _), (2, _)] [.int .i64 0, .int .i64 0, .int .i64 0] [(0, 1), (1, 1), (2, 1)] (.one rfl (.ci (by kernel_rfl)) one_int (by kernel_rfl) (.one rfl (.ci (by kernel_rfl)) one_int (by kernel_rfl) (.one rfl (.ci (by kernel_rfl)) one_int (by kernel_rfl) .nil)))) trivial trivial
    (cF rfl (oB [(0, _), (1, _), (2, .tmp 13)] [.int .i64 0, .int .i64 0, .int .i64 0, .int .i64 0, .int .i64 0] [(0, 1), (1, 1), (2, 3)] (.one rfl (.ci (by kernel_rfl)) one_int (by kernel_rfl) (.one rfl (.ci (by kernel_rfl)) one_int (by kernel_rfl) (.agg rfl .t (by kernel_rfl) (by kernel_rfl) .nil)))) r1 trivial
    (cF rfl (oH [.int .i64 0, .int .i64 0, .int .i64 0, .int .i64 0, .int .i64 0] 102) trivial trivial
    (cF rfl (oA 5 102 .same .t) r2 r1
    Chain.nil))))
    hB ?_
  clear hS; intro a w F hS
  replace hS := hS.sub
  obtain ⟨F, hS⟩ := hS.nm [2, 1, 0] [102, 101, 0] rfl rfl
  try dsimp only [RS.sub, SF.sub, CF.sub, csub, Anc.sub, List.map, stCells, xL, xM, Nat.reduceAdd, xD, xE, xT, xU, xC, xN, zCF, rHist, rTx, rOrd, rVer, rInt, rOp, rBad] at hS
  generalize Act.tau a 2 = v2 at hS
  refine then_n (wp_seq ?_)
  refine region_any (by kernel_rfl) hS (by kernel_rfl)
    (cF rfl (oL true 2 101 .is) r1 r1
    (cF rfl (oP (of_c (⟨[⟨1, false, [⟨false, 5, 0, 0⟩, ⟨false, 5, 0, 0⟩]⟩, ⟨2, true, [⟨true, 5, 0, 0⟩, ⟨true, 5, 1, 1⟩]⟩], []⟩ : HistD) 2 small18) Try.func19 (Args.two (.pagg .t) (.ci (by kernel_rfl)))) r1 trivial
    (cF rfl (oL true 5 102 .is) r1 r1
    (cF rfl (o_buildSliceE (sz := 5) (zs := [.int .i64 0, .int .i64 0, .int .i64 0, .int .i64 0, .int .i64 0]) (r := [(0, .tmp 17)]) (l := [_, _, _, _, _]) Try.underlying44 (by kernel_rfl) (by kernel_rfl) (by kernel_rfl) (by kernel_rfl) rfl rfl (.agg rfl .t (by kernel_rfl) (by kernel_rfl) .nil) rfl) r1 trivial
    (cF rfl (oP (sameBads_c _ [(⟨2, 1, ⟨1, 5, 1⟩⟩ : BadD)]) Try.func62 (Args.two .t (.conv .t (Ent.arrSl (R := rBad) (l := [(⟨2, 1, ⟨1, 5, 1⟩⟩ : BadD)]) rfl)))) r2 trivial
    (cF rfl (oM .t) r1 trivial
    (Chain.cons (Cert.cond rfl rfl (fun h => o_load (ag := true) (sz := 2) 101 .is (by kernel_rfl) (by kernel_rfl) (by kernel_rfl) (by rfl))) r2 r1
    (Chain.cons (Cert.cond rfl rfl (fun h => o_callP (of_c (⟨[⟨1, false, [⟨false, 5, 0, 0⟩, ⟨false, 5, 0, 0⟩]⟩, ⟨2, true, [⟨true, 5, 0, 0⟩, ⟨true, 5, 1, 1⟩]⟩], []⟩ : HistD) 3 small18) Try.func19 rfl (by kernel_rfl) (Args.two (.pagg (.w h)) (.ci (by kernel_rfl))))) r2 trivial
    (Chain.cons (Cert.cond rfl rfl (fun h => o_load (ag := true) (sz := 5) 102 .is (by kernel_rfl) (by kernel_rfl) (by kernel_rfl) (by rfl))) r2 r1
    (Chain.cons (Cert.cond rfl rfl (fun h => o_buildSliceE (sz := 5) (zs := [.int .i64 0, .int .i64 0, .int .i64 0, .int .i64 0, .int .i64 0]) (r := [(0, .tmp 23)]) (l := [_, _, _, _, _]) Try.underlying44 (by kernel_rfl) (by kernel_rfl) (by kernel_rfl) (by kernel_rfl) rfl rfl (.agg rfl (.w h) (by kernel_rfl) (by kernel_rfl) .nil) rfl)) r2 trivial
    (Chain.cons (Cert.cond rfl rfl (fun h => o_callP (sameBads_c _ [(⟨2, 1, ⟨1, 5, 1⟩⟩ : BadD)]) Try.func62 rfl (by kernel_rfl) (Args.two (.w h) (.conv (.w h) (Ent.arrSl (R := rBad) (l := [(⟨2, 1, ⟨1, 5, 1⟩⟩ : BadD)]) rfl))))) r3 trivial
    (cF rfl (o_and2 .t .t) r2 trivial
    (cF rfl (oM .t) r1 trivial
    (Chain.cons (Cert.cond rfl rfl (fun h => o_load (ag := true) (sz := 2) 101 .is (by kernel_rfl) (by kernel_rfl) (by kernel_rfl) (by rfl))) r2 r1
    (Chain.cons (Cert.cond rfl rfl (fun h => o_callP (of_c (⟨[⟨1, false, [⟨false, 5, 0, 0⟩, ⟨false, 5, 0, 0⟩]⟩, ⟨2, true, [⟨true, 5, 0, 0⟩, ⟨true, 5, 1, 1⟩]⟩], []⟩ : HistD) 4 small18) Try.func19 rfl (by kernel_rfl) (Args.two (.pagg (.w h)) (.ci (by kernel_rfl))))) r2 trivial
    (Chain.cons (Cert.cond rfl rfl (fun h => o_len_sl Try.underlying44 (.w h))) r2 trivial
    (Chain.cons (Cert.cond rfl rfl (fun h => o_eql (.w h) (.ci (by kernel_rfl)))) r2 trivial
    (cF rfl (o_and2 .t .t) r2 trivial
    (cF rfl (oM .t) r1 trivial
    (Chain.cons (Cert.cond rfl rfl (fun h => o_load (ag := true) (sz := 2) 101 .is (by kernel_rfl) (by kernel_rfl) (by kernel_rfl) (by rfl))) r2 r1
    (Chain.cons (Cert.cond rfl rfl (fun h => o_callP (ofKey_c (⟨[⟨1, false, [⟨false, 5, 0, 0⟩, ⟨false, 5, 0, 0⟩]⟩, ⟨2, true, [⟨true, 5, 0, 0⟩, ⟨true, 5, 1, 1⟩]⟩], []⟩ : HistD) 2 4 small18) Try.func63 rfl (by kernel_rfl) (Args.three (.pagg (.w h)) (.ci (by kernel_rfl)) (.ci (by kernel_rfl))))) r2 trivial
    (Chain.cons (Cert.cond rfl rfl (fun h => o_len_sl Try.underlying44 (.w h))) r2 trivial
    (Chain.cons (Cert.cond rfl rfl (fun h => o_eql (.w h) (.ci (by kernel_rfl)))) r2 trivial
    (cF rfl (o_and2 .t .t) r2 trivial
    (cF rfl (oM .t) r1 trivial
    (Chain.cons (Cert.cond rfl rfl (fun h => o_load (ag := true) (sz := 2) 101 .is (by kernel_rfl) (by kernel_rfl) (by kernel_rfl) (by rfl))) r2 r1
    (Chain.cons (Cert.cond rfl rfl (fun h => o_callP (ofKey_c (⟨[⟨1, false, [⟨false, 5, 0, 0⟩, ⟨false, 5, 0, 0⟩]⟩, ⟨2, true, [⟨true, 5, 0, 0⟩, ⟨true, 5, 1, 1⟩]⟩], []⟩ : HistD) 2 5 small18) Try.func63 rfl (by kernel_rfl) (Args.three (.pagg (.w h)) (.ci (by kernel_rfl)) (.ci (by kernel_rfl))))) r2 trivial
    (Chain.cons (Cert.cond rfl rfl (fun h => o_len_sl Try.underlying44 (.w h))) r2 trivial
    (Chain.cons (Cert.cond rfl rfl (fun h => o_eql (.w h) (.ci (by kernel_rfl)))) r2 trivial
    (cF rfl (o_and2 .t .t) r2 trivial
    (cF rfl (oM .t) r1 trivial
    (Chain.cons (Cert.cond rfl rfl (fun h => o_load (ag := true) (sz := 2) 101 .is (by kernel_rfl) (by kernel_rfl) (by kernel_rfl) (by rfl))) r2 r1
    (Chain.cons (Cert.cond rfl rfl (fun h => o_load (ag := true) (sz := 5) 102 .is (by kernel_rfl) (by kernel_rfl) (by kernel_rfl) (by rfl))) r2 r1
    (Chain.cons (Cert.cond rfl rfl (fun h => o_callP (isBad_c (⟨[⟨1, false, [⟨false, 5, 0, 0⟩, ⟨false, 5, 0, 0⟩]⟩, ⟨2, true, [⟨true, 5, 0, 0⟩, ⟨true, 5, 1, 1⟩]⟩], []⟩ : HistD) 3 (⟨2, 1, ⟨1, 5, 1⟩⟩ : BadD) small18) Try.func64 rfl (by kernel_rfl) (Args.three (.pagg (.w h)) (.ci (by kernel_rfl)) (.pagg (.w h))))) r3 trivial
    (cF rfl (o_and2 .t .t) r2 trivial
    (cF rfl (oM .t) r1 trivial
    (Chain.cons (Cert.cond rfl rfl (fun h => o_load (ag := true) (sz := 2) 101 .is (by kernel_rfl) (by kernel_rfl) (by kernel_rfl) (by rfl))) r2 r1
    (Chain.cons (Cert.cond rfl rfl (fun h => o_load (ag := true) (sz := 5) 102 .is (by kernel_rfl) (by kernel_rfl) (by kernel_rfl) (by rfl))) r2 r1
    (Chain.cons (Cert.cond rfl rfl (fun h => o_callP (isBad_c (⟨[⟨1, false, [⟨false, 5, 0, 0⟩, ⟨false, 5, 0, 0⟩]⟩, ⟨2, true, [⟨true, 5, 0, 0⟩, ⟨true, 5, 1, 1⟩]⟩], []⟩ : HistD) 1 (⟨2, 1, ⟨1, 5, 1⟩⟩ : BadD) small18) Try.func64 rfl (by kernel_rfl) (Args.three (.pagg (.w h)) (.ci (by kernel_rfl)) (.pagg (.w h))))) r3 trivial
    (Chain.cons (Cert.cond rfl rfl (fun h => o_not (.w h))) r2 trivial
    (cF rfl (o_and2 .t .t) r2 trivial
    (cF rfl (oM .t) r1 trivial
    (Chain.cons (Cert.cond rfl rfl (fun h => o_load (ag := true) (sz := 2) 101 .is (by kernel_rfl) (by kernel_rfl) (by kernel_rfl) (by rfl))) r2 r1
    (Chain.cons (Cert.cond rfl rfl (fun h => o_build (r := [(0, _)]) (zs := [.int .i64 0, .int .i64 0, .int .i64 0, .int .i64 0, .int .i64 0]) (pl := [(0, 1), (1, 1), (2, 3)]) (by kernel_rfl) (by kernel_rfl) (.one rfl (.ci (by kernel_rfl)) one_int (by kernel_rfl) .nil) (by rfl))) r1 trivial
    (Chain.cons (Cert.cond rfl rfl (fun h => o_callP (isBad_c (⟨[⟨1, false, [⟨false, 5, 0, 0⟩, ⟨false, 5, 0, 0⟩]⟩, ⟨2, true, [⟨true, 5, 0, 0⟩, ⟨true, 5, 1, 1⟩]⟩], []⟩ : HistD) 2 ⟨2, 0, ⟨0, 0, 0⟩⟩ small18) Try.func64 rfl (by kernel_rfl) (Args.three (.pagg (.w h)) (.ci (by kernel_rfl)) (.pagg (.w h))))) r3 trivial
    (Chain.cons (Cert.cond rfl rfl (fun h => o_not (.w h))) r2 trivial
    (cF rfl (o_and2 .t .t) r2 trivial
    (cF rfl (oM .t) r1 trivial
    (Chain.cons (Cert.cond rfl rfl (fun h => o_build (r := [(0, _), (1, _)]) (zs := [.int .i64 0, .int .i64 0, .int .i64 0, .int .i64 0, .int .i64 0]) (pl := [(0, 1), (1, 1), (2, 3)]) (by kernel_rfl) (by kernel_rfl) (.one rfl (.ci (by kernel_rfl)) one_int (by kernel_rfl) (.one rfl (.ci (by kernel_rfl)) one_int (by kernel_rfl) .nil)) (by rfl))) r1 trivial
    (Chain.cons (Cert.cond rfl rfl (fun h => o_load (ag := true) (sz := 5) 102 .is (by kernel_rfl) (by kernel_rfl) (by kernel_rfl) (by rfl))) r2 r1
    (Chain.cons (Cert.cond rfl rfl (fun h => o_callP (lessBad_c ⟨1, 9, ⟨0, 0, 0⟩⟩ (⟨2, 1, ⟨1, 5, 1⟩⟩ : BadD)) Try.func20 rfl (by kernel_rfl) (Args.two (.pagg (.w h)) (.pagg (.w h))))) r3 trivial
    (cF rfl (o_and2 .t .t) r2 trivial
    (cF rfl (oM .t) r1 trivial
    (Chain.cons (Cert.cond rfl rfl (fun h => o_load (ag := true) (sz := 5) 102 .is (by kernel_rfl) (by kernel_rfl) (by kernel_rfl) (by rfl))) r2 r1
    (Chain.cons (Cert.cond rfl rfl (fun h => o_load (ag := true) (sz := 5) 102 .is (by kernel_rfl) (by kernel_rfl) (by kernel_rfl) (by rfl))) r2 r1
    (Chain.cons (Cert.cond rfl rfl (fun h => o_callP (lessBad_c (⟨2, 1, ⟨1, 5, 1⟩⟩ : BadD) (⟨2, 1, ⟨1, 5, 1⟩⟩ : BadD)) Try.func20 rfl (by kernel_rfl) (Args.two (.pagg (.w h)) (.pagg (.w h))))) r3 trivial
    (Chain.cons (Cert.cond rfl rfl (fun h => o_not (.w h))) r2 trivial
    (cF rfl (o_and2 .t .t) r2 trivial
    (cF rfl (oM .t) r1 trivial
    (Chain.cons (Cert.cond rfl rfl (fun h => o_fieldAddr (off := 0) 101 .is (by kernel_rfl) (by rfl))) r2 r1
    (Chain.cons (Cert.cond rfl rfl (fun h => o_load (ag := false) (sz := 1) 101 (.w h .adr) (by kernel_rfl) (by kernel_rfl) (by kernel_rfl) (by rfl))) r2 r1
    (Chain.cons (Cert.cond rfl rfl (fun h => o_build (r := [(0, _)]) (zs := [.int .i64 0, .slice none 0 0]) (pl := [(0, 1), (1, 1)]) (by kernel_rfl) (by kernel_rfl) (.one rfl (.ci (by kernel_rfl)) one_int (by kernel_rfl) .nil) (by rfl))) r1 trivial
    (Chain.cons (Cert.cond rfl rfl (fun h => o_buildSliceE (sz := 2) (zs := [.int .i64 0, .slice none 0 0]) (r := [(0, .tmp 76)]) (l := [_, _]) Try.underlying40 (by kernel_rfl) (by kernel_rfl) (by kernel_rfl) (by kernel_rfl) rfl rfl (.agg rfl (.w h) (by kernel_rfl) (by kernel_rfl) .nil) rfl)) r2 trivial
    (Chain.cons (Cert.cond rfl rfl (fun h => o_build (r := [(0, .tmp 75), (1, .tmp 77)]) (zs := [.slice none 0 0, .slice none 0 0]) (pl := [(0, 1), (1, 1)]) (by kernel_rfl) (by kernel_rfl) (.one rfl (.w h) one_sl (by kernel_rfl) (.one rfl (.w h) one_arr (by kernel_rfl) .nil)) (by rfl))) r3 trivial
    (Chain.cons (Cert.cond rfl rfl (fun h => o_callP (of_c (⟨[⟨1, false, [⟨false, 5, 0, 0⟩, ⟨false, 5, 0, 0⟩]⟩, ⟨2, true, [⟨true, 5, 0, 0⟩, ⟨true, 5, 1, 1⟩]⟩], [⟨1, []⟩]⟩ : HistD) 2 small18b) Try.func19 rfl (by kernel_rfl) (Args.two (.conv (.pagg (.w h)) (Ent.paggLe (l := [.sl rTx [⟨1, false, [⟨false, 5, 0, 0⟩, ⟨false, 5, 0, 0⟩]⟩, ⟨2, true, [⟨true, 5, 0, 0⟩, ⟨true, 5, 1, 1⟩]⟩], .arr 1 [.int .i64 1, .is (.slice none 0 0)]]) (l' := [.sl rTx [⟨1, false, [⟨false, 5, 0, 0⟩, ⟨false, 5, 0, 0⟩]⟩, ⟨2, true, [⟨true, 5, 0, 0⟩, ⟨true, 5, 1, 1⟩]⟩], .sl rOrd [⟨1, []⟩]]) ⟨.refl, .arrSl (R := rOrd) (l' := [⟨1, []⟩]) rfl ⟨.refl, .nilSl, trivial⟩, trivial⟩)) (.ci (by kernel_rfl))))) r2 trivial
    (Chain.cons (Cert.cond rfl rfl (fun h => o_len_sl Try.underlying44 (.w h))) r2 trivial
    (Chain.cons (Cert.cond rfl rfl (fun h => o_eql (.w h) (.ci (by kernel_rfl)))) r2 trivial
    (cF rfl (o_and2 .t .t) r2 trivial
    (cF rfl (oN .t) r1 trivial
    Chain.nil)))))))))))))))))))))))))))))))))))))))))))))))))))))))))))))))))))))
    (by kernel_rfl) (by rw [hB]; kernel_rfl) ?_
  clear hS; intro a w F hS
  obtain ⟨F, hS⟩ := hS.nm [0] [102, 101, 0] rfl rfl
  try dsimp only [List.map, stCells, xL, xM, Nat.reduceAdd, xD, xE, xT, xU, xC, xN, zCF, ldSF, rHist, rTx, rOrd, rVer, rInt, rOp, rBad] at hS
  refine then_n (wp_ret ?_)
  refine ret_P hfr hS rfl (.tmp rfl .nil) (.one (.bool (by decide +kernel)))

end Go.Proofs.Ytdfidiehkkbimaa
