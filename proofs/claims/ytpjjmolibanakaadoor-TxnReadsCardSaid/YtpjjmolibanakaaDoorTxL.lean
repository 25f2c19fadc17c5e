/- Transactions: lives. No condition beyond those that each theorem says. -/
import Derived.Test.YtpjjmolibanakaaDoorTxN
import Derived.Test.YtpjjmolibanakaaDoorTxB
import Derived.Test.YtpjjmolibanakaaDoorTxX
import Derived.Test.YtpjjmolibanakaaDoorTx8
import Derived.Test.YtpjjmolibanakaaDoorTx5
import Derived.Test.YtpjjmolibanakaaDoorOr2
namespace Go.Proofs.YtpjjmolibanakaaDoor
open Go Go.Gm
set_option linter.unusedVariables false
set_option linter.unusedSimpArgs false
set_option maxHeartbeats 4000000
set_option maxRecDepth 8000

theorem lives10_c  : FnP Tryd.prog 4 [] (.bool true) := by
  refine FnP.mk Tryd.func4 rfl Tryd.ntmps4 rfl ?_
  intro B a w F hB hfr hS
  refine wp_seq ?_
  refine region_q hS
    (cF rfl (oN .cb) trivial trivial
    Chain.nil)
    hB ?_
  clear hS; intro a w F hS
  obtain ⟨F, hS⟩ := hS.nm [0] [0] rfl rfl
  try dsimp only [rTx, rInt, rVer, rOp] at hS
  refine then_n (wp_seq ?_)
  refine region_q hS
    (cF rfl (oB [(1, _)] [.bool false, .int .i64 0, .int .i64 0, .int .i64 0] [(0, 1), (1, 1), (2, 1), (3, 1)] (.one rfl (.ci (by kernel_rfl)) one_int (by kernel_rfl) .nil)) trivial trivial
    (cF rfl (oB [(0, _), (1, _), (2, _), (3, _)] [.bool false, .int .i64 0, .int .i64 0, .int .i64 0] [(0, 1), (1, 1), (2, 1), (3, 1)] (.one rfl .cb one_bool (by kernel_rfl) (.one rfl (.ci (by kernel_rfl)) one_int (by kernel_rfl) (.one rfl (.ci (by kernel_rfl)) one_int (by kernel_rfl) (.one rfl (.ci (by kernel_rfl)) one_int (by kernel_rfl) .nil))))) trivial trivial
    (cF rfl (oB [(0, _), (1, _), (2, _), (3, _)] [.bool false, .int .i64 0, .int .i64 0, .int .i64 0] [(0, 1), (1, 1), (2, 1), (3, 1)] (.one rfl .cb one_bool (by kernel_rfl) (.one rfl (.ci (by kernel_rfl)) one_int (by kernel_rfl) (.one rfl (.ci (by kernel_rfl)) one_int (by kernel_rfl) (.one rfl (.ci (by kernel_rfl)) one_int (by kernel_rfl) .nil))))) trivial trivial
    (cF rfl (oH [.bool false, .int .i64 0, .int .i64 0, .int .i64 0] 101) trivial trivial
    (cF rfl (oH [.bool false, .int .i64 0, .int .i64 0, .int .i64 0] 102) trivial trivial
    (cF rfl (oH [.bool false, .int .i64 0, .int .i64 0, .int .i64 0] 103) trivial trivial
    (cF rfl (oA 4 101 .same .t) r2 r1
    (cF rfl (oA 4 102 .same .t) r2 r1
    (cF rfl (oA 4 103 .same .t) r2 r1
    Chain.nil)))))))))
    hB ?_
  clear hS; intro a w F hS
  replace hS := hS.sub
  obtain ⟨F, hS⟩ := hS.nm [3, 2, 1, 0] [103, 102, 101, 0] rfl rfl
  try dsimp only [RS.sub, SF.sub, CF.sub, csub, Anc.sub, List.map, stCells, xL, xM, Nat.reduceAdd, xD, xE, xT, xU, xC, xN, zCF, rTx, rInt, rVer, rOp] at hS
  generalize Act.tau a 1 = v1 at hS
  generalize Act.tau a 2 = v2 at hS
  generalize Act.tau a 3 = v3 at hS
  refine then_n (wp_seq ?_)
  refine region_q hS
    (cF rfl (oL true 4 101 .is) r1 r1
    (cF rfl (oL true 4 102 .is) r1 r1
    (cF rfl (oL true 4 103 .is) r1 r1
    (cF rfl (oL true 4 103 .is) r1 r1
    (cF rfl (o_buildSliceE (sz := 4) (zs := [.bool false, .int .i64 0, .int .i64 0, .int .i64 0]) (r := [(0, .tmp 8), (1, .tmp 9), (2, .tmp 10), (3, .tmp 11)]) (l := [_, _, _, _, _, _, _, _, _, _, _, _, _, _, _, _]) Tryd.underlying22 (by kernel_rfl) (by kernel_rfl) (by kernel_rfl) (by kernel_rfl) rfl rfl (.agg rfl .t (by kernel_rfl) (by kernel_rfl) (.agg rfl .t (by kernel_rfl) (by kernel_rfl) (.agg rfl .t (by kernel_rfl) (by kernel_rfl) (.agg rfl .t (by kernel_rfl) (by kernel_rfl) .nil)))) rfl) r4 trivial
    (cF rfl (oB [(0, _), (1, _), (2, .tmp 12)] [.int .i64 0, .bool false, .slice none 0 0] [(0, 1), (1, 1), (2, 1)] (.one rfl (.ci (by kernel_rfl)) one_int (by kernel_rfl) (.one rfl .cb one_bool (by kernel_rfl) (.one rfl .t one_arr (by kernel_rfl) .nil)))) r1 trivial
    (cF rfl (oH [.int .i64 0, .bool false, .slice none 0 0] 104) trivial trivial
    (cF rfl (oA 3 104 .same .t) r2 r1
    Chain.nil))))))))
    hB ?_
  clear hS; intro a w F hS
  replace hS := hS.sub
  obtain ⟨F, hS⟩ := hS.nm [4, 2, 1, 0] [104, 103, 102, 101, 0] rfl rfl
  try dsimp only [RS.sub, SF.sub, CF.sub, csub, Anc.sub, List.map, stCells, xL, xM, Nat.reduceAdd, xD, xE, xT, xU, xC, xN, zCF, ldSF, rTx, rInt, rVer, rOp] at hS
  generalize Act.tau a 4 = v4 at hS
  replace hS := hS.turn 104 rfl (r' := .pt (.val v4) 24 [.pv (.int .i64 3), .pv (.bool true), .pv (.sl rOp [⟨false, 5, 0, 0⟩, ⟨true, 5, 3, 1⟩, ⟨true, 1, 2, 1⟩, ⟨true, 1, 2, 1⟩])]) (ptLe rfl rfl ⟨.refl, .refl, .arrSl (R := rOp) (l' := [⟨false, 5, 0, 0⟩, ⟨true, 5, 3, 1⟩, ⟨true, 1, 2, 1⟩, ⟨true, 1, 2, 1⟩]) rfl PVsLe.refl, trivial⟩)
  obtain ⟨F, hS⟩ := hS.nm [4, 2, 1, 0] [104, 103, 102, 101, 0] rfl rfl
  refine then_n (wp_seq ?_)
  refine region_any (by kernel_rfl) hS (by kernel_rfl)
    (cF rfl (oL true 3 104 .is) r1 r1
    (cF rfl (oP (txRight_c (⟨3, true, [⟨false, 5, 0, 0⟩, ⟨true, 5, 3, 1⟩, ⟨true, 1, 2, 1⟩, ⟨true, 1, 2, 1⟩]⟩ : TxD)) Tryd.func5 (Args.one (.pagg .t))) r1 trivial
    (cF rfl (o_eql .t (.ci (by kernel_rfl))) r1 trivial
    (cF rfl (oM .t) r1 trivial
    (Chain.cons (Cert.cond rfl rfl (fun h => o_load (ag := true) (sz := 4) 102 .is (by kernel_rfl) (by kernel_rfl) (by kernel_rfl) (by rfl))) r2 r1
    (Chain.cons (Cert.cond rfl rfl (fun h => o_load (ag := true) (sz := 4) 101 .is (by kernel_rfl) (by kernel_rfl) (by kernel_rfl) (by rfl))) r2 r1
    (Chain.cons (Cert.cond rfl rfl (fun h => o_buildSliceE (sz := 4) (zs := [.bool false, .int .i64 0, .int .i64 0, .int .i64 0]) (r := [(0, .tmp 18), (1, .tmp 19)]) (l := [_, _, _, _, _, _, _, _]) Tryd.underlying22 (by kernel_rfl) (by kernel_rfl) (by kernel_rfl) (by kernel_rfl) rfl rfl (.agg rfl (.w h) (by kernel_rfl) (by kernel_rfl) (.agg rfl (.w h) (by kernel_rfl) (by kernel_rfl) .nil)) rfl)) r3 trivial
    (Chain.cons (Cert.cond rfl rfl (fun h => o_build (r := [(0, _), (2, .tmp 20)]) (zs := [.int .i64 0, .bool false, .slice none 0 0]) (pl := [(0, 1), (1, 1), (2, 1)]) (by kernel_rfl) (by kernel_rfl) (.one rfl (.ci (by kernel_rfl)) one_int (by kernel_rfl) (.one rfl (.w h) one_arr (by kernel_rfl) .nil)) (by rfl))) r2 trivial
    (Chain.cons (Cert.cond rfl rfl (fun h => o_callP (txRight_c (⟨3, false, [⟨true, 5, 3, 1⟩, ⟨false, 5, 0, 0⟩]⟩ : TxD)) Tryd.func5 rfl (by kernel_rfl) (Args.one (.conv (.pagg (.w h)) (Ent.paggLe (l := [.int .i64 3, .bool false, .arr 2 (([⟨true, 5, 3, 1⟩, ⟨false, 5, 0, 0⟩] : List OpD).flatMap rOp)]) (l' := [.int .i64 3, .bool false, .sl rOp [⟨true, 5, 3, 1⟩, ⟨false, 5, 0, 0⟩]]) ⟨.refl, .refl, .arrSl (R := rOp) (l' := [⟨true, 5, 3, 1⟩, ⟨false, 5, 0, 0⟩]) rfl PVsLe.refl, trivial⟩))))) r2 trivial
    (Chain.cons (Cert.cond rfl rfl (fun h => o_eql (.w h) (.ci (by kernel_rfl)))) r2 trivial
    (cF rfl (o_and2 .t .t) r2 trivial
    (cF rfl (oM .t) r1 trivial
    (Chain.cons (Cert.cond rfl rfl (fun h => o_build (r := []) (zs := [.int .i64 0, .bool false, .slice none 0 0]) (pl := [(0, 1), (1, 1), (2, 1)]) (by kernel_rfl) (by kernel_rfl) .nil (by rfl))) r1 trivial
    (Chain.cons (Cert.cond rfl rfl (fun h => o_callP (txRight_c (⟨0, false, []⟩ : TxD)) Tryd.func5 rfl (by kernel_rfl) (Args.one (.conv (.pagg (.w h)) (Ent.paggLe (l := [.int .i64 0, .bool false, .is (.slice none 0 0)]) (l' := [.int .i64 0, .bool false, .sl rOp []]) ⟨.refl, .refl, .nilSl, trivial⟩))))) r2 trivial
    (Chain.cons (Cert.cond rfl rfl (fun h => o_eql (.w h) (.ci (by kernel_rfl)))) r2 trivial
    (cF rfl (o_and2 .t .t) r2 trivial
    (cF rfl (oM .t) r1 trivial
    (Chain.cons (Cert.cond rfl rfl (fun h => o_build (r := []) (zs := [.bool false, .int .i64 0, .int .i64 0, .int .i64 0]) (pl := [(0, 1), (1, 1), (2, 1), (3, 1)]) (by kernel_rfl) (by kernel_rfl) .nil (by rfl))) r1 trivial
    (Chain.cons (Cert.cond rfl rfl (fun h => o_buildSliceE (sz := 4) (zs := [.bool false, .int .i64 0, .int .i64 0, .int .i64 0]) (r := [(0, .tmp 31)]) (l := [_, _, _, _]) Tryd.underlying22 (by kernel_rfl) (by kernel_rfl) (by kernel_rfl) (by kernel_rfl) rfl rfl (.agg rfl (.w h) (by kernel_rfl) (by kernel_rfl) .nil) rfl)) r2 trivial
    (Chain.cons (Cert.cond rfl rfl (fun h => o_build (r := [(0, _), (2, .tmp 32)]) (zs := [.int .i64 0, .bool false, .slice none 0 0]) (pl := [(0, 1), (1, 1), (2, 1)]) (by kernel_rfl) (by kernel_rfl) (.one rfl (.ci (by kernel_rfl)) one_int (by kernel_rfl) (.one rfl (.w h) one_arr (by kernel_rfl) .nil)) (by rfl))) r2 trivial
    (Chain.cons (Cert.cond rfl rfl (fun h => o_callP (txRight_c (⟨1, false, [⟨false, 0, 0, 0⟩]⟩ : TxD)) Tryd.func5 rfl (by kernel_rfl) (Args.one (.conv (.pagg (.w h)) (Ent.paggLe (l := [.int .i64 1, .bool false, .arr 1 (([⟨false, 0, 0, 0⟩] : List OpD).flatMap rOp)]) (l' := [.int .i64 1, .bool false, .sl rOp [⟨false, 0, 0, 0⟩]]) ⟨.refl, .refl, .arrSl (R := rOp) (l' := [⟨false, 0, 0, 0⟩]) rfl PVsLe.refl, trivial⟩))))) r2 trivial
    (Chain.cons (Cert.cond rfl rfl (fun h => o_eql (.w h) (.ci (by kernel_rfl)))) r2 trivial
    (cF rfl (o_and2 .t .t) r2 trivial
    (cF rfl (oM .t) r1 trivial
    (Chain.cons (Cert.cond rfl rfl (fun h => o_makeSliceE (R := rOp) (v := (⟨false, 0, 0, 0⟩ : OpD)) (c := 4096) (sz := 4) (bs := 32) (zs := [.bool false, .int .i64 0, .int .i64 0, .int .i64 0]) Tryd.underlying22 (by kernel_rfl) (by kernel_rfl) (by kernel_rfl) (fun _ _ => ⟨⟨rfl, rfl⟩, ⟨rfl, rfl, inR0⟩, ⟨rfl, rfl, inR0⟩, ⟨rfl, rfl, inR0⟩, trivial⟩) (.ci (by kernel_rfl)) (.ci (by kernel_rfl)) (by decide) (by decide) (by decide))) r1 trivial
    (Chain.cons (Cert.cond rfl rfl (fun h => o_build (r := [(0, _), (2, .tmp 38)]) (zs := [.int .i64 0, .bool false, .slice none 0 0]) (pl := [(0, 1), (1, 1), (2, 1)]) (by kernel_rfl) (by kernel_rfl) (.one rfl (.ci (by kernel_rfl)) one_int (by kernel_rfl) (.one rfl (.w h) one_sl (by kernel_rfl) .nil)) (by rfl))) r2 trivial
    (Chain.cons (Cert.cond rfl rfl (fun h => o_callP (txRight_c (⟨1, false, (List.replicate 4096 ⟨false, 0, 0, 0⟩)⟩ : TxD)) Tryd.func5 rfl (by kernel_rfl) (Args.one (.conv (.pagg (.w h)) (Ent.paggLe (l := [.int .i64 1, .bool false, .sl rOp (List.replicate 4096 ⟨false, 0, 0, 0⟩)]) (l' := [.int .i64 1, .bool false, .sl rOp (List.replicate 4096 ⟨false, 0, 0, 0⟩)]) ⟨.refl, .refl, .refl, trivial⟩))))) r2 trivial
    (Chain.cons (Cert.cond rfl rfl (fun h => o_eql (.w h) (.ci (by kernel_rfl)))) r2 trivial
    (cF rfl (o_and2 .t .t) r2 trivial
    (cF rfl (oM .t) r1 trivial
    (Chain.cons (Cert.cond rfl rfl (fun h => o_load (ag := true) (sz := 3) 104 .is (by kernel_rfl) (by kernel_rfl) (by kernel_rfl) (by rfl))) r2 r1
    (Chain.cons (Cert.cond rfl rfl (fun h => o_callP (twrites_c (⟨3, true, [⟨false, 5, 0, 0⟩, ⟨true, 5, 3, 1⟩, ⟨true, 1, 2, 1⟩, ⟨true, 1, 2, 1⟩]⟩ : TxD) 5 (by decide)) Tryd.func9 rfl (by kernel_rfl) (Args.two (.pagg (.w h)) (.ci (by kernel_rfl))))) r2 trivial
    (Chain.cons (Cert.cond rfl rfl (fun h => o_eql (.w h) (.ci (by kernel_rfl)))) r2 trivial
    (cF rfl (o_and2 .t .t) r2 trivial
    (cF rfl (oM .t) r1 trivial
    (Chain.cons (Cert.cond rfl rfl (fun h => o_load (ag := true) (sz := 3) 104 .is (by kernel_rfl) (by kernel_rfl) (by kernel_rfl) (by rfl))) r2 r1
    (Chain.cons (Cert.cond rfl rfl (fun h => o_callP (twrites_c (⟨3, true, [⟨false, 5, 0, 0⟩, ⟨true, 5, 3, 1⟩, ⟨true, 1, 2, 1⟩, ⟨true, 1, 2, 1⟩]⟩ : TxD) 1 (by decide)) Tryd.func9 rfl (by kernel_rfl) (Args.two (.pagg (.w h)) (.ci (by kernel_rfl))))) r2 trivial
    (Chain.cons (Cert.cond rfl rfl (fun h => o_eql (.w h) (.ci (by kernel_rfl)))) r2 trivial
    (cF rfl (o_and2 .t .t) r2 trivial
    (cF rfl (oM .t) r1 trivial
    (Chain.cons (Cert.cond rfl rfl (fun h => o_load (ag := true) (sz := 3) 104 .is (by kernel_rfl) (by kernel_rfl) (by kernel_rfl) (by rfl))) r2 r1
    (Chain.cons (Cert.cond rfl rfl (fun h => o_callP (tKeys_c (⟨3, true, [⟨false, 5, 0, 0⟩, ⟨true, 5, 3, 1⟩, ⟨true, 1, 2, 1⟩, ⟨true, 1, 2, 1⟩]⟩ : TxD) (by decide)) Tryd.func11 rfl (by kernel_rfl) (Args.one (.pagg (.w h))))) r2 trivial
    (Chain.cons (Cert.cond rfl rfl (fun h => o_buildSliceE (sz := 1) (zs := [.int .i64 0]) (r := [(0, _)]) (l := [_]) Tryd.underlying36 (by kernel_rfl) (by kernel_rfl) (by kernel_rfl) (by kernel_rfl) rfl rfl (.one rfl (.ci (by kernel_rfl)) one_int (by kernel_rfl) .nil) rfl)) r1 trivial
    (Chain.cons (Cert.cond rfl rfl (fun h => o_callP (sameInts_c _ [5]) Tryd.func10 rfl (by kernel_rfl) (Args.two (.w h) (.conv (.w h) (Ent.arrSl (R := rInt) (l := [5]) rfl))))) r3 trivial
    (cF rfl (o_and2 .t .t) r2 trivial
    (cF rfl (oM .t) r1 trivial
    (Chain.cons (Cert.cond rfl rfl (fun h => o_load (ag := true) (sz := 3) 104 .is (by kernel_rfl) (by kernel_rfl) (by kernel_rfl) (by rfl))) r2 r1
    (Chain.cons (Cert.cond rfl rfl (fun h => o_callP (tTouched_c (⟨3, true, [⟨false, 5, 0, 0⟩, ⟨true, 5, 3, 1⟩, ⟨true, 1, 2, 1⟩, ⟨true, 1, 2, 1⟩]⟩ : TxD) (by decide)) Tryd.func12 rfl (by kernel_rfl) (Args.one (.pagg (.w h))))) r2 trivial
    (Chain.cons (Cert.cond rfl rfl (fun h => o_buildSliceE (sz := 1) (zs := [.int .i64 0]) (r := [(0, _), (1, _)]) (l := [_, _]) Tryd.underlying36 (by kernel_rfl) (by kernel_rfl) (by kernel_rfl) (by kernel_rfl) rfl rfl (.one rfl (.ci (by kernel_rfl)) one_int (by kernel_rfl) (.one rfl (.ci (by kernel_rfl)) one_int (by kernel_rfl) .nil)) rfl)) r1 trivial
    (Chain.cons (Cert.cond rfl rfl (fun h => o_callP (sameInts_c _ [1, 5]) Tryd.func10 rfl (by kernel_rfl) (Args.two (.w h) (.conv (.w h) (Ent.arrSl (R := rInt) (l := [1, 5]) rfl))))) r3 trivial
    (cF rfl (o_and2 .t .t) r2 trivial
    (cF rfl (oM .t) r1 trivial
    (Chain.cons (Cert.cond rfl rfl (fun h => o_load (ag := true) (sz := 3) 104 .is (by kernel_rfl) (by kernel_rfl) (by kernel_rfl) (by rfl))) r2 r1
    (Chain.cons (Cert.cond rfl rfl (fun h => o_callP (txNeeds_c (⟨3, true, [⟨false, 5, 0, 0⟩, ⟨true, 5, 3, 1⟩, ⟨true, 1, 2, 1⟩, ⟨true, 1, 2, 1⟩]⟩ : TxD) (by decide)) Tryd.func14 rfl (by kernel_rfl) (Args.one (.pagg (.w h))))) r2 trivial
    (Chain.cons (Cert.cond rfl rfl (fun h => o_build (r := [(0, _), (1, _), (2, _)]) (zs := [.int .i64 0, .int .i64 0, .int .i64 0]) (pl := [(0, 1), (1, 1), (2, 1)]) (by kernel_rfl) (by kernel_rfl) (.one rfl (.ci (by kernel_rfl)) one_int (by kernel_rfl) (.one rfl (.ci (by kernel_rfl)) one_int (by kernel_rfl) (.one rfl (.ci (by kernel_rfl)) one_int (by kernel_rfl) .nil))) (by rfl))) r1 trivial
    (Chain.cons (Cert.cond rfl rfl (fun h => o_buildSliceE (sz := 3) (zs := [.int .i64 0, .int .i64 0, .int .i64 0]) (r := [(0, .tmp 68)]) (l := [_, _, _]) Tryd.underlying39 (by kernel_rfl) (by kernel_rfl) (by kernel_rfl) (by kernel_rfl) rfl rfl (.agg rfl (.w h) (by kernel_rfl) (by kernel_rfl) .nil) rfl)) r2 trivial
    (Chain.cons (Cert.cond rfl rfl (fun h => o_callP (sameVers_c _ [⟨2, 1, 1⟩]) Tryd.func13 rfl (by kernel_rfl) (Args.two (.w h) (.conv (.w h) (Ent.arrSl (R := rVer) (l := [⟨2, 1, 1⟩]) rfl))))) r3 trivial
    (cF rfl (o_and2 .t .t) r2 trivial
    (cF rfl (oM .t) r1 trivial
    (Chain.cons (Cert.cond rfl rfl (fun h => o_load (ag := true) (sz := 3) 104 .is (by kernel_rfl) (by kernel_rfl) (by kernel_rfl) (by rfl))) r2 r1
    (Chain.cons (Cert.cond rfl rfl (fun h => o_callP (tweight_c (⟨3, true, [⟨false, 5, 0, 0⟩, ⟨true, 5, 3, 1⟩, ⟨true, 1, 2, 1⟩, ⟨true, 1, 2, 1⟩]⟩ : TxD) (by decide)) Tryd.func15 rfl (by kernel_rfl) (Args.one (.pagg (.w h))))) r2 trivial
    (Chain.cons (Cert.cond rfl rfl (fun h => o_eql (.w h) (.ci (by kernel_rfl)))) r2 trivial
    (cF rfl (o_and2 .t .t) r2 trivial
    (cF rfl (oM .t) r1 trivial
    (Chain.cons (Cert.cond rfl rfl (fun h => o_load (ag := true) (sz := 3) 104 .is (by kernel_rfl) (by kernel_rfl) (by kernel_rfl) (by rfl))) r2 r1
    (Chain.cons (Cert.cond rfl rfl (fun h => o_callP (txText_c (⟨3, true, [⟨false, 5, 0, 0⟩, ⟨true, 5, 3, 1⟩, ⟨true, 1, 2, 1⟩, ⟨true, 1, 2, 1⟩]⟩ : TxD) (by decide)) Tryd.func6 rfl (by kernel_rfl) (Args.one (.pagg (.w h))))) r2 trivial
    (Chain.cons (Cert.cond rfl rfl (fun h => o_eql_bs Tryd.underlying9 (.w h) (.cs (by kernel_rfl)))) r2 trivial
    (cF rfl (o_and2 .t .t) r2 trivial
    (cF rfl (oM .t) r1 trivial
    (Chain.cons (Cert.cond rfl rfl (fun h => o_build (r := [(0, _)]) (zs := [.int .i64 0, .bool false, .slice none 0 0]) (pl := [(0, 1), (1, 1), (2, 1)]) (by kernel_rfl) (by kernel_rfl) (.one rfl (.ci (by kernel_rfl)) one_int (by kernel_rfl) .nil) (by rfl))) r1 trivial
    (Chain.cons (Cert.cond rfl rfl (fun h => o_callP (txText_c (⟨7, false, []⟩ : TxD) (by decide)) Tryd.func6 rfl (by kernel_rfl) (Args.one (.conv (.pagg (.w h)) (Ent.paggLe (l := [.int .i64 7, .bool false, .is (.slice none 0 0)]) (l' := [.int .i64 7, .bool false, .sl rOp []]) ⟨.refl, .refl, .nilSl, trivial⟩))))) r2 trivial
    (Chain.cons (Cert.cond rfl rfl (fun h => o_eql_bs Tryd.underlying9 (.w h) (.cs (by kernel_rfl)))) r2 trivial
    (cF rfl (o_and2 .t .t) r2 trivial
    (cF rfl (oM .t) r1 trivial
    (Chain.cons (Cert.cond rfl rfl (fun h => o_load (ag := true) (sz := 3) 104 .is (by kernel_rfl) (by kernel_rfl) (by kernel_rfl) (by rfl))) r2 r1
    (Chain.cons (Cert.cond rfl rfl (fun h => o_load (ag := true) (sz := 3) 104 .is (by kernel_rfl) (by kernel_rfl) (by kernel_rfl) (by rfl))) r2 r1
    (Chain.cons (Cert.cond rfl rfl (fun h => o_callP (txSame_c (⟨3, true, [⟨false, 5, 0, 0⟩, ⟨true, 5, 3, 1⟩, ⟨true, 1, 2, 1⟩, ⟨true, 1, 2, 1⟩]⟩ : TxD) (⟨3, true, [⟨false, 5, 0, 0⟩, ⟨true, 5, 3, 1⟩, ⟨true, 1, 2, 1⟩, ⟨true, 1, 2, 1⟩]⟩ : TxD)) Tryd.func8 rfl (by kernel_rfl) (Args.two (.pagg (.w h)) (.pagg (.w h))))) r3 trivial
    (cF rfl (o_and2 .t .t) r2 trivial
    (cF rfl (oM .t) r1 trivial
    (Chain.cons (Cert.cond rfl rfl (fun h => o_load (ag := true) (sz := 3) 104 .is (by kernel_rfl) (by kernel_rfl) (by kernel_rfl) (by rfl))) r2 r1
    (Chain.cons (Cert.cond rfl rfl (fun h => o_load (ag := true) (sz := 3) 104 .is (by kernel_rfl) (by kernel_rfl) (by kernel_rfl) (by rfl))) r2 r1
    (Chain.cons (Cert.cond rfl rfl (fun h => o_callP (txBare_c (⟨3, true, [⟨false, 5, 0, 0⟩, ⟨true, 5, 3, 1⟩, ⟨true, 1, 2, 1⟩, ⟨true, 1, 2, 1⟩]⟩ : TxD) (by decide)) Tryd.func16 rfl (by kernel_rfl) (Args.one (.pagg (.w h))))) r2 trivial
    (Chain.cons (Cert.cond rfl rfl (fun h => o_callP (txSame_c (⟨3, true, [⟨false, 5, 0, 0⟩, ⟨true, 5, 3, 1⟩, ⟨true, 1, 2, 1⟩, ⟨true, 1, 2, 1⟩]⟩ : TxD) (bareT (⟨3, true, [⟨false, 5, 0, 0⟩, ⟨true, 5, 3, 1⟩, ⟨true, 1, 2, 1⟩, ⟨true, 1, 2, 1⟩]⟩ : TxD))) Tryd.func8 rfl (by kernel_rfl) (Args.two (.pagg (.w h)) (.w h)))) r3 trivial
    (Chain.cons (Cert.cond rfl rfl (fun h => o_not (.w h))) r2 trivial
    (cF rfl (o_and2 .t .t) r2 trivial
    (cF rfl (oM .t) r1 trivial
    (Chain.cons (Cert.cond rfl rfl (fun h => o_load (ag := true) (sz := 3) 104 .is (by kernel_rfl) (by kernel_rfl) (by kernel_rfl) (by rfl))) r2 r1
    (Chain.cons (Cert.cond rfl rfl (fun h => o_callP (txBare_c (⟨3, true, [⟨false, 5, 0, 0⟩, ⟨true, 5, 3, 1⟩, ⟨true, 1, 2, 1⟩, ⟨true, 1, 2, 1⟩]⟩ : TxD) (by decide)) Tryd.func16 rfl (by kernel_rfl) (Args.one (.pagg (.w h))))) r2 trivial
    (Chain.cons (Cert.cond rfl rfl (fun h => o_field1 (ft := 22) (off := 2) (by kernel_rfl) (by kernel_rfl) (.w h) rfl)) r2 trivial
    (Chain.cons (Cert.cond rfl rfl (fun h => o_len_sl Tryd.underlying22 (.w h))) r2 trivial
    (Chain.cons (Cert.cond rfl rfl (fun h => o_eql (.w h) (.ci (by kernel_rfl)))) r2 trivial
    (cF rfl (o_and2 .t .t) r2 trivial
    (cF rfl (oN .t) r1 trivial
    Chain.nil)))))))))))))))))))))))))))))))))))))))))))))))))))))))))))))))))))))))))))))))))))))))))))))
    (by kernel_rfl) (by rw [hB]; kernel_rfl) ?_
  clear hS; intro a w F hS
  obtain ⟨F, hS⟩ := hS.nm [0] [104, 103, 102, 101, 0] rfl rfl
  try dsimp only [List.map, stCells, xL, xM, Nat.reduceAdd, xD, xE, xT, xU, xC, xN, zCF, ldSF, rTx, rInt, rVer, rOp] at hS
  refine then_n (wp_ret ?_)
  refine ret_P hfr hS rfl (.tmp rfl .nil) (.one (.bool (by decide +kernel)))

end Go.Proofs.YtpjjmolibanakaaDoor
