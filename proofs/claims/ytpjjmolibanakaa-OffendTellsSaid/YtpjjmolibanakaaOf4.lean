/- OffendTells. No condition beyond those that each theorem says. -/
import Derived.Test.YtpjjmolibanakaaOf3
namespace Go.Proofs.Ytpjjmolibanakaa
open Go Go.Gm
set_option linter.unusedVariables false
set_option linter.unusedSimpArgs false
set_option maxHeartbeats 4000000
set_option maxRecDepth 8000


theorem small18 : Small (⟨[⟨1, false, [⟨false, 5, 0, 0⟩, ⟨false, 5, 0, 0⟩]⟩, ⟨2, true, [⟨true, 5, 0, 0⟩, ⟨true, 5, 1, 1⟩]⟩], []⟩ : HistD) := ⟨⟨by decide, by decide⟩, by decide, by decide⟩
theorem small18b : Small (⟨[⟨1, false, [⟨false, 5, 0, 0⟩, ⟨false, 5, 0, 0⟩]⟩, ⟨2, true, [⟨true, 5, 0, 0⟩, ⟨true, 5, 1, 1⟩]⟩], [⟨1, []⟩]⟩ : HistD) := ⟨⟨by decide, by decide⟩, by decide, by decide⟩

theorem lives18_c  : FnP Try.prog 56 [] (.bool true) := by
  refine FnP.mk Try.func56 rfl Try.ntmps56 rfl ?_
  intro B a w F hB hfr hS
  refine wp_seq ?_
  refine region_seq hS (by kernel_rfl)
    (cF rfl (o_assign .cb (by rfl)) trivial trivial
    Chain.nil)
    (by kernel_rfl) (by rw [hB]; kernel_rfl) ?_
  clear hS; intro a w F hS
  obtain ⟨F, hS⟩ := hS.norm [(0, _)] [(0, _)] r1 r1
  try dsimp only [rHist, rTx, rOrd, rVer, rInt, rOp, rBad] at hS
  refine then_n ?_
  refine wp_seq ?_
  refine region_seq hS (by kernel_rfl)
    (cF rfl (o_build (r := [(1, _)]) (zs := [.bool false, .int .i64 0, .int .i64 0, .int .i64 0]) (pl := [(0, 1), (1, 1), (2, 1), (3, 1)]) (by kernel_rfl) (by kernel_rfl) (.one rfl (.ci (by kernel_rfl)) one_int (by kernel_rfl) .nil) (by rfl)) trivial trivial
    (cF rfl (o_build (r := [(1, _)]) (zs := [.bool false, .int .i64 0, .int .i64 0, .int .i64 0]) (pl := [(0, 1), (1, 1), (2, 1), (3, 1)]) (by kernel_rfl) (by kernel_rfl) (.one rfl (.ci (by kernel_rfl)) one_int (by kernel_rfl) .nil) (by rfl)) trivial trivial
    (cF rfl (o_buildSliceE (sz := 4) (zs := [.bool false, .int .i64 0, .int .i64 0, .int .i64 0]) (r := [(0, .tmp 3), (1, .tmp 4)]) (l := [_, _, _, _, _, _, _, _]) Try.underlying46 (by kernel_rfl) (by kernel_rfl) (by kernel_rfl) (by kernel_rfl) rfl rfl (.agg rfl .t (by kernel_rfl) (by kernel_rfl) (.agg rfl .t (by kernel_rfl) (by kernel_rfl) .nil)) rfl) r2 trivial
    (cF rfl (o_build (r := [(0, _), (2, .tmp 5)]) (zs := [.int .i64 0, .bool false, .slice none 0 0]) (pl := [(0, 1), (1, 1), (2, 1)]) (by kernel_rfl) (by kernel_rfl) (.one rfl (.ci (by kernel_rfl)) one_int (by kernel_rfl) (.one rfl .t one_arr (by kernel_rfl) .nil)) (by rfl)) r1 trivial
    (cF rfl (o_build (r := [(0, _), (1, _)]) (zs := [.bool false, .int .i64 0, .int .i64 0, .int .i64 0]) (pl := [(0, 1), (1, 1), (2, 1), (3, 1)]) (by kernel_rfl) (by kernel_rfl) (.one rfl .cb one_bool (by kernel_rfl) (.one rfl (.ci (by kernel_rfl)) one_int (by kernel_rfl) .nil)) (by rfl)) trivial trivial
    (cF rfl (o_build (r := [(0, _), (1, _), (2, _), (3, _)]) (zs := [.bool false, .int .i64 0, .int .i64 0, .int .i64 0]) (pl := [(0, 1), (1, 1), (2, 1), (3, 1)]) (by kernel_rfl) (by kernel_rfl) (.one rfl .cb one_bool (by kernel_rfl) (.one rfl (.ci (by kernel_rfl)) one_int (by kernel_rfl) (.one rfl (.ci (by kernel_rfl)) one_int (by kernel_rfl) (.one rfl (.ci (by kernel_rfl)) one_int (by kernel_rfl) .nil)))) (by rfl)) trivial trivial
    (cF rfl (o_buildSliceE (sz := 4) (zs := [.bool false, .int .i64 0, .int .i64 0, .int .i64 0]) (r := [(0, .tmp 7), (1, .tmp 8)]) (l := [_, _, _, _, _, _, _, _]) Try.underlying46 (by kernel_rfl) (by kernel_rfl) (by kernel_rfl) (by kernel_rfl) rfl rfl (.agg rfl .t (by kernel_rfl) (by kernel_rfl) (.agg rfl .t (by kernel_rfl) (by kernel_rfl) .nil)) rfl) r2 trivial
    (cF rfl (o_build (r := [(0, _), (1, _), (2, .tmp 9)]) (zs := [.int .i64 0, .bool false, .slice none 0 0]) (pl := [(0, 1), (1, 1), (2, 1)]) (by kernel_rfl) (by kernel_rfl) (.one rfl (.ci (by kernel_rfl)) one_int (by kernel_rfl) (.one rfl .cb one_bool (by kernel_rfl) (.one rfl .t one_arr (by kernel_rfl) .nil))) (by rfl)) r1 trivial
    (cF rfl (o_buildSliceE (sz := 3) (zs := [.int .i64 0, .bool false, .slice none 0 0]) (r := [(0, .tmp 6), (1, .tmp 10)]) (l := [_, _, _, _, _, _]) Try.underlying63 (by kernel_rfl) (by kernel_rfl) (by kernel_rfl) (by kernel_rfl) rfl rfl (.agg rfl .t (by kernel_rfl) (by kernel_rfl) (.agg rfl .t (by kernel_rfl) (by kernel_rfl) .nil)) rfl) r2 trivial
    (cF rfl (o_build (r := [(0, .tmp 11)]) (zs := [.slice none 0 0, .slice none 0 0]) (pl := [(0, 1), (1, 1)]) (by kernel_rfl) (by kernel_rfl) (.one rfl .t one_arr (by kernel_rfl) .nil) (by rfl)) r1 trivial
    (cF rfl (o_alloc (zs := [.slice none 0 0, .slice none 0 0]) 101 (by kernel_rfl)) trivial trivial
    (cF rfl (o_storeA (sz := 2) 101 .same .t (by kernel_rfl) (by kernel_rfl) (by kernel_rfl)) r2 r1
    Chain.nil))))))))))))
    (by kernel_rfl) (by rw [hB]; kernel_rfl) ?_
  clear hS; intro a w F hS
  replace hS := hS.sub
  obtain ⟨F, hS⟩ := hS.norm [(0, _), (1, _)] [(0, _), (101, _)] r2 r2
  try dsimp only [RS.sub, SF.sub, CF.sub, csub, Anc.sub, List.map, stCells, List.length_cons, List.length_nil, Nat.reduceAdd, List.drop_succ_cons, List.drop_zero, List.drop_nil, List.take_succ_cons, List.take_zero, List.take_nil, List.cons_append, List.nil_append, zCF, rHist, rTx, rOrd, rVer, rInt, rOp, rBad] at hS
  generalize Act.tau a 1 = v1 at hS
  replace hS := hS.turn 101 rfl (r' := .pt (.val v1) 66 [.pv (.sl rTx [⟨1, false, [⟨false, 5, 0, 0⟩, ⟨false, 5, 0, 0⟩]⟩, ⟨2, true, [⟨true, 5, 0, 0⟩, ⟨true, 5, 1, 1⟩]⟩]), .pv (.sl rOrd [])]) (ptLe rfl rfl ⟨.arrSl (R := rTx) (l' := [⟨1, false, [⟨false, 5, 0, 0⟩, ⟨false, 5, 0, 0⟩]⟩, ⟨2, true, [⟨true, 5, 0, 0⟩, ⟨true, 5, 1, 1⟩]⟩]) rfl ⟨.refl, .refl, .arrSl (R := rOp) (l' := [⟨false, 5, 0, 0⟩, ⟨false, 5, 0, 0⟩]) rfl PVsLe.refl, .refl, .refl, .arrSl (R := rOp) (l' := [⟨true, 5, 0, 0⟩, ⟨true, 5, 1, 1⟩]) rfl PVsLe.refl, trivial⟩, .nilSl, trivial⟩)
  obtain ⟨F, hS⟩ := hS.norm [(0, _), (1, _)] [(0, _), (101, _)] r2 r2
  refine then_n ?_
  refine wp_seq ?_
  refine region_seq hS (by kernel_rfl)
    (cF rfl (o_build (r := [(0, _), (1, _), (2, _)]) (zs := [.int .i64 0, .int .i64 0, .int .i64 0]) (pl := [(0, 1), (1, 1), (2, 1)]) (by kernel_rfl) (by kernel_rfl) (.one rfl (.ci (by kernel_rfl)) one_int (by kernel_rfl) (.one rfl (.ci (by kernel_rfl)) one_int (by kernel_rfl) (.one rfl (.ci (by kernel_rfl)) one_int (by kernel_rfl) .nil))) (by rfl)) trivial trivial
    (cF rfl (o_build (r := [(0, _), (1, _), (2, .tmp 13)]) (zs := [.int .i64 0, .int .i64 0, .int .i64 0, .int .i64 0, .int .i64 0]) (pl := [(0, 1), (1, 1), (2, 3)]) (by kernel_rfl) (by kernel_rfl) (.one rfl (.ci (by kernel_rfl)) one_int (by kernel_rfl) (.one rfl (.ci (by kernel_rfl)) one_int (by kernel_rfl) (.agg rfl .t (by kernel_rfl) (by kernel_rfl) .nil))) (by rfl)) r1 trivial
    (cF rfl (o_alloc (zs := [.int .i64 0, .int .i64 0, .int .i64 0, .int .i64 0, .int .i64 0]) 102 (by kernel_rfl)) trivial trivial
    (cF rfl (o_storeA (sz := 5) 102 .same .t (by kernel_rfl) (by kernel_rfl) (by kernel_rfl)) r2 r1
    Chain.nil))))
    (by kernel_rfl) (by rw [hB]; kernel_rfl) ?_
  clear hS; intro a w F hS
  replace hS := hS.sub
  obtain ⟨F, hS⟩ := hS.norm [(0, _), (1, _), (2, _)] [(0, _), (101, _), (102, _)] r3 r3
  try dsimp only [RS.sub, SF.sub, CF.sub, csub, Anc.sub, List.map, stCells, List.length_cons, List.length_nil, Nat.reduceAdd, List.drop_succ_cons, List.drop_zero, List.drop_nil, List.take_succ_cons, List.take_zero, List.take_nil, List.cons_append, List.nil_append, zCF, rHist, rTx, rOrd, rVer, rInt, rOp, rBad] at hS
  generalize Act.tau a 2 = v2 at hS
  refine then_n ?_
  refine wp_seq ?_
  refine region_any (by kernel_rfl) hS (by kernel_rfl)
    (cF rfl (o_load (ag := true) (sz := 2) 101 .is (by kernel_rfl) (by kernel_rfl) (by kernel_rfl) (by rfl)) r1 r1
    (cF rfl (o_callP (of_c (⟨[⟨1, false, [⟨false, 5, 0, 0⟩, ⟨false, 5, 0, 0⟩]⟩, ⟨2, true, [⟨true, 5, 0, 0⟩, ⟨true, 5, 1, 1⟩]⟩], []⟩ : HistD) 2 small18) Try.func59 rfl (by kernel_rfl) (Args.two (.pagg .t) (.ci (by kernel_rfl)))) r1 trivial
    (cF rfl (o_load (ag := true) (sz := 5) 102 .is (by kernel_rfl) (by kernel_rfl) (by kernel_rfl) (by rfl)) r1 r1
    (cF rfl (o_buildSliceE (sz := 5) (zs := [.int .i64 0, .int .i64 0, .int .i64 0, .int .i64 0, .int .i64 0]) (r := [(0, .tmp 17)]) (l := [_, _, _, _, _]) Try.underlying72 (by kernel_rfl) (by kernel_rfl) (by kernel_rfl) (by kernel_rfl) rfl rfl (.agg rfl .t (by kernel_rfl) (by kernel_rfl) .nil) rfl) r1 trivial
    (cF rfl (o_callP (sameBads_c _ [(⟨2, 1, ⟨1, 5, 1⟩⟩ : BadD)]) Try.func58 rfl (by kernel_rfl) (Args.two .t (.conv .t (Ent.arrSl (R := rBad) (l := [(⟨2, 1, ⟨1, 5, 1⟩⟩ : BadD)]) rfl)))) r2 trivial
    (cF rfl (o_move .t (by rfl)) r1 trivial
    (Chain.cons (Cert.cond rfl rfl (fun h => o_load (ag := true) (sz := 2) 101 .is (by kernel_rfl) (by kernel_rfl) (by kernel_rfl) (by rfl))) r2 r1
    (Chain.cons (Cert.cond rfl rfl (fun h => o_callP (of_c (⟨[⟨1, false, [⟨false, 5, 0, 0⟩, ⟨false, 5, 0, 0⟩]⟩, ⟨2, true, [⟨true, 5, 0, 0⟩, ⟨true, 5, 1, 1⟩]⟩], []⟩ : HistD) 3 small18) Try.func59 rfl (by kernel_rfl) (Args.two (.pagg (.w h)) (.ci (by kernel_rfl))))) r2 trivial
    (Chain.cons (Cert.cond rfl rfl (fun h => o_load (ag := true) (sz := 5) 102 .is (by kernel_rfl) (by kernel_rfl) (by kernel_rfl) (by rfl))) r2 r1
    (Chain.cons (Cert.cond rfl rfl (fun h => o_buildSliceE (sz := 5) (zs := [.int .i64 0, .int .i64 0, .int .i64 0, .int .i64 0, .int .i64 0]) (r := [(0, .tmp 23)]) (l := [_, _, _, _, _]) Try.underlying72 (by kernel_rfl) (by kernel_rfl) (by kernel_rfl) (by kernel_rfl) rfl rfl (.agg rfl (.w h) (by kernel_rfl) (by kernel_rfl) .nil) rfl)) r2 trivial
    (Chain.cons (Cert.cond rfl rfl (fun h => o_callP (sameBads_c _ [(⟨2, 1, ⟨1, 5, 1⟩⟩ : BadD)]) Try.func58 rfl (by kernel_rfl) (Args.two (.w h) (.conv (.w h) (Ent.arrSl (R := rBad) (l := [(⟨2, 1, ⟨1, 5, 1⟩⟩ : BadD)]) rfl))))) r3 trivial
    (cF rfl (o_and2 .t .t) r2 trivial
    (cF rfl (o_move .t (by rfl)) r1 trivial
    (Chain.cons (Cert.cond rfl rfl (fun h => o_load (ag := true) (sz := 2) 101 .is (by kernel_rfl) (by kernel_rfl) (by kernel_rfl) (by rfl))) r2 r1
    (Chain.cons (Cert.cond rfl rfl (fun h => o_callP (of_c (⟨[⟨1, false, [⟨false, 5, 0, 0⟩, ⟨false, 5, 0, 0⟩]⟩, ⟨2, true, [⟨true, 5, 0, 0⟩, ⟨true, 5, 1, 1⟩]⟩], []⟩ : HistD) 4 small18) Try.func59 rfl (by kernel_rfl) (Args.two (.pagg (.w h)) (.ci (by kernel_rfl))))) r2 trivial
    (Chain.cons (Cert.cond rfl rfl (fun h => o_len_sl Try.underlying72 (.w h))) r2 trivial
    (Chain.cons (Cert.cond rfl rfl (fun h => o_eql (.w h) (.ci (by kernel_rfl)))) r2 trivial
    (cF rfl (o_and2 .t .t) r2 trivial
    (cF rfl (o_move .t (by rfl)) r1 trivial
    (Chain.cons (Cert.cond rfl rfl (fun h => o_load (ag := true) (sz := 2) 101 .is (by kernel_rfl) (by kernel_rfl) (by kernel_rfl) (by rfl))) r2 r1
    (Chain.cons (Cert.cond rfl rfl (fun h => o_callP (ofKey_c (⟨[⟨1, false, [⟨false, 5, 0, 0⟩, ⟨false, 5, 0, 0⟩]⟩, ⟨2, true, [⟨true, 5, 0, 0⟩, ⟨true, 5, 1, 1⟩]⟩], []⟩ : HistD) 2 4 small18) Try.func60 rfl (by kernel_rfl) (Args.three (.pagg (.w h)) (.ci (by kernel_rfl)) (.ci (by kernel_rfl))))) r2 trivial
    (Chain.cons (Cert.cond rfl rfl (fun h => o_len_sl Try.underlying72 (.w h))) r2 trivial
    (Chain.cons (Cert.cond rfl rfl (fun h => o_eql (.w h) (.ci (by kernel_rfl)))) r2 trivial
    (cF rfl (o_and2 .t .t) r2 trivial
    (cF rfl (o_move .t (by rfl)) r1 trivial
    (Chain.cons (Cert.cond rfl rfl (fun h => o_load (ag := true) (sz := 2) 101 .is (by kernel_rfl) (by kernel_rfl) (by kernel_rfl) (by rfl))) r2 r1
    (Chain.cons (Cert.cond rfl rfl (fun h => o_callP (ofKey_c (⟨[⟨1, false, [⟨false, 5, 0, 0⟩, ⟨false, 5, 0, 0⟩]⟩, ⟨2, true, [⟨true, 5, 0, 0⟩, ⟨true, 5, 1, 1⟩]⟩], []⟩ : HistD) 2 5 small18) Try.func60 rfl (by kernel_rfl) (Args.three (.pagg (.w h)) (.ci (by kernel_rfl)) (.ci (by kernel_rfl))))) r2 trivial
    (Chain.cons (Cert.cond rfl rfl (fun h => o_len_sl Try.underlying72 (.w h))) r2 trivial
    (Chain.cons (Cert.cond rfl rfl (fun h => o_eql (.w h) (.ci (by kernel_rfl)))) r2 trivial
    (cF rfl (o_and2 .t .t) r2 trivial
    (cF rfl (o_move .t (by rfl)) r1 trivial
    (Chain.cons (Cert.cond rfl rfl (fun h => o_load (ag := true) (sz := 2) 101 .is (by kernel_rfl) (by kernel_rfl) (by kernel_rfl) (by rfl))) r2 r1
    (Chain.cons (Cert.cond rfl rfl (fun h => o_load (ag := true) (sz := 5) 102 .is (by kernel_rfl) (by kernel_rfl) (by kernel_rfl) (by rfl))) r2 r1
    (Chain.cons (Cert.cond rfl rfl (fun h => o_callP (isBad_c (⟨[⟨1, false, [⟨false, 5, 0, 0⟩, ⟨false, 5, 0, 0⟩]⟩, ⟨2, true, [⟨true, 5, 0, 0⟩, ⟨true, 5, 1, 1⟩]⟩], []⟩ : HistD) 3 (⟨2, 1, ⟨1, 5, 1⟩⟩ : BadD) small18) Try.func62 rfl (by kernel_rfl) (Args.three (.pagg (.w h)) (.ci (by kernel_rfl)) (.pagg (.w h))))) r3 trivial
    (cF rfl (o_and2 .t .t) r2 trivial
    (cF rfl (o_move .t (by rfl)) r1 trivial
    (Chain.cons (Cert.cond rfl rfl (fun h => o_load (ag := true) (sz := 2) 101 .is (by kernel_rfl) (by kernel_rfl) (by kernel_rfl) (by rfl))) r2 r1
    (Chain.cons (Cert.cond rfl rfl (fun h => o_load (ag := true) (sz := 5) 102 .is (by kernel_rfl) (by kernel_rfl) (by kernel_rfl) (by rfl))) r2 r1
    (Chain.cons (Cert.cond rfl rfl (fun h => o_callP (isBad_c (⟨[⟨1, false, [⟨false, 5, 0, 0⟩, ⟨false, 5, 0, 0⟩]⟩, ⟨2, true, [⟨true, 5, 0, 0⟩, ⟨true, 5, 1, 1⟩]⟩], []⟩ : HistD) 1 (⟨2, 1, ⟨1, 5, 1⟩⟩ : BadD) small18) Try.func62 rfl (by kernel_rfl) (Args.three (.pagg (.w h)) (.ci (by kernel_rfl)) (.pagg (.w h))))) r3 trivial
    (Chain.cons (Cert.cond rfl rfl (fun h => o_not (.w h))) r2 trivial
    (cF rfl (o_and2 .t .t) r2 trivial
    (cF rfl (o_move .t (by rfl)) r1 trivial
    (Chain.cons (Cert.cond rfl rfl (fun h => o_load (ag := true) (sz := 2) 101 .is (by kernel_rfl) (by kernel_rfl) (by kernel_rfl) (by rfl))) r2 r1
    (Chain.cons (Cert.cond rfl rfl (fun h => o_build (r := [(0, _)]) (zs := [.int .i64 0, .int .i64 0, .int .i64 0, .int .i64 0, .int .i64 0]) (pl := [(0, 1), (1, 1), (2, 3)]) (by kernel_rfl) (by kernel_rfl) (.one rfl (.ci (by kernel_rfl)) one_int (by kernel_rfl) .nil) (by rfl))) r1 trivial
    (Chain.cons (Cert.cond rfl rfl (fun h => o_callP (isBad_c (⟨[⟨1, false, [⟨false, 5, 0, 0⟩, ⟨false, 5, 0, 0⟩]⟩, ⟨2, true, [⟨true, 5, 0, 0⟩, ⟨true, 5, 1, 1⟩]⟩], []⟩ : HistD) 2 ⟨2, 0, ⟨0, 0, 0⟩⟩ small18) Try.func62 rfl (by kernel_rfl) (Args.three (.pagg (.w h)) (.ci (by kernel_rfl)) (.pagg (.w h))))) r3 trivial
    (Chain.cons (Cert.cond rfl rfl (fun h => o_not (.w h))) r2 trivial
    (cF rfl (o_and2 .t .t) r2 trivial
    (cF rfl (o_move .t (by rfl)) r1 trivial
    (Chain.cons (Cert.cond rfl rfl (fun h => o_build (r := [(0, _), (1, _)]) (zs := [.int .i64 0, .int .i64 0, .int .i64 0, .int .i64 0, .int .i64 0]) (pl := [(0, 1), (1, 1), (2, 3)]) (by kernel_rfl) (by kernel_rfl) (.one rfl (.ci (by kernel_rfl)) one_int (by kernel_rfl) (.one rfl (.ci (by kernel_rfl)) one_int (by kernel_rfl) .nil)) (by rfl))) r1 trivial
    (Chain.cons (Cert.cond rfl rfl (fun h => o_load (ag := true) (sz := 5) 102 .is (by kernel_rfl) (by kernel_rfl) (by kernel_rfl) (by rfl))) r2 r1
    (Chain.cons (Cert.cond rfl rfl (fun h => o_callP (lessBad_c ⟨1, 9, ⟨0, 0, 0⟩⟩ (⟨2, 1, ⟨1, 5, 1⟩⟩ : BadD)) Try.func64 rfl (by kernel_rfl) (Args.two (.pagg (.w h)) (.pagg (.w h))))) r3 trivial
    (cF rfl (o_and2 .t .t) r2 trivial
    (cF rfl (o_move .t (by rfl)) r1 trivial
    (Chain.cons (Cert.cond rfl rfl (fun h => o_load (ag := true) (sz := 5) 102 .is (by kernel_rfl) (by kernel_rfl) (by kernel_rfl) (by rfl))) r2 r1
    (Chain.cons (Cert.cond rfl rfl (fun h => o_load (ag := true) (sz := 5) 102 .is (by kernel_rfl) (by kernel_rfl) (by kernel_rfl) (by rfl))) r2 r1
    (Chain.cons (Cert.cond rfl rfl (fun h => o_callP (lessBad_c (⟨2, 1, ⟨1, 5, 1⟩⟩ : BadD) (⟨2, 1, ⟨1, 5, 1⟩⟩ : BadD)) Try.func64 rfl (by kernel_rfl) (Args.two (.pagg (.w h)) (.pagg (.w h))))) r3 trivial
    (Chain.cons (Cert.cond rfl rfl (fun h => o_not (.w h))) r2 trivial
    (cF rfl (o_and2 .t .t) r2 trivial
    (cF rfl (o_move .t (by rfl)) r1 trivial
    (Chain.cons (Cert.cond rfl rfl (fun h => o_fieldAddr (off := 0) 101 .is (by kernel_rfl) (by rfl))) r2 r1
    (Chain.cons (Cert.cond rfl rfl (fun h => o_load (ag := false) (sz := 1) 101 (.w h .adr) (by kernel_rfl) (by kernel_rfl) (by kernel_rfl) (by rfl))) r2 r1
    (Chain.cons (Cert.cond rfl rfl (fun h => o_build (r := [(0, _)]) (zs := [.int .i64 0, .slice none 0 0]) (pl := [(0, 1), (1, 1)]) (by kernel_rfl) (by kernel_rfl) (.one rfl (.ci (by kernel_rfl)) one_int (by kernel_rfl) .nil) (by rfl))) r1 trivial
    (Chain.cons (Cert.cond rfl rfl (fun h => o_buildSliceE (sz := 2) (zs := [.int .i64 0, .slice none 0 0]) (r := [(0, .tmp 76)]) (l := [_, _]) Try.underlying64 (by kernel_rfl) (by kernel_rfl) (by kernel_rfl) (by kernel_rfl) rfl rfl (.agg rfl (.w h) (by kernel_rfl) (by kernel_rfl) .nil) rfl)) r2 trivial
    (Chain.cons (Cert.cond rfl rfl (fun h => o_build (r := [(0, .tmp 75), (1, .tmp 77)]) (zs := [.slice none 0 0, .slice none 0 0]) (pl := [(0, 1), (1, 1)]) (by kernel_rfl) (by kernel_rfl) (.one rfl (.w h) one_sl (by kernel_rfl) (.one rfl (.w h) one_arr (by kernel_rfl) .nil)) (by rfl))) r3 trivial
    (Chain.cons (Cert.cond rfl rfl (fun h => o_callP (of_c (⟨[⟨1, false, [⟨false, 5, 0, 0⟩, ⟨false, 5, 0, 0⟩]⟩, ⟨2, true, [⟨true, 5, 0, 0⟩, ⟨true, 5, 1, 1⟩]⟩], [⟨1, []⟩]⟩ : HistD) 2 small18b) Try.func59 rfl (by kernel_rfl) (Args.two (.conv (.pagg (.w h)) (Ent.paggLe (l := [.sl rTx [⟨1, false, [⟨false, 5, 0, 0⟩, ⟨false, 5, 0, 0⟩]⟩, ⟨2, true, [⟨true, 5, 0, 0⟩, ⟨true, 5, 1, 1⟩]⟩], .arr 1 [.int .i64 1, .is (.slice none 0 0)]]) (l' := [.sl rTx [⟨1, false, [⟨false, 5, 0, 0⟩, ⟨false, 5, 0, 0⟩]⟩, ⟨2, true, [⟨true, 5, 0, 0⟩, ⟨true, 5, 1, 1⟩]⟩], .sl rOrd [⟨1, []⟩]]) ⟨.refl, .arrSl (R := rOrd) (l' := [⟨1, []⟩]) rfl ⟨.refl, .nilSl, trivial⟩, trivial⟩)) (.ci (by kernel_rfl))))) r2 trivial
    (Chain.cons (Cert.cond rfl rfl (fun h => o_len_sl Try.underlying72 (.w h))) r2 trivial
    (Chain.cons (Cert.cond rfl rfl (fun h => o_eql (.w h) (.ci (by kernel_rfl)))) r2 trivial
    (cF rfl (o_and2 .t .t) r2 trivial
    (cF rfl (o_assign .t (by rfl)) r1 trivial
    Chain.nil)))))))))))))))))))))))))))))))))))))))))))))))))))))))))))))))))))))
    (by kernel_rfl) (by rw [hB]; kernel_rfl) ?_
  clear hS; intro a w F hS
  obtain ⟨F, hS⟩ := hS.norm [(0, _)] [(0, _), (101, _), (102, _)] r1 r3
  try dsimp only [List.map, stCells, List.length_cons, List.length_nil, Nat.reduceAdd, List.drop_succ_cons, List.drop_zero, List.drop_nil, List.take_succ_cons, List.take_zero, List.take_nil, List.cons_append, List.nil_append, zCF, ldSF, rHist, rTx, rOrd, rVer, rInt, rOp, rBad] at hS
  refine then_n ?_
  refine wp_ret ?_
  refine ret_P hfr hS rfl (.tmp rfl .nil) (.one (.bool (by decide +kernel)))

theorem offendTells_c (g : HistD) (phen key : Int) (u v : BadD) : FnP Try.prog 9 [.agg (rHist g), .int .i64 phen, .int .i64 key, .agg (rBad u), .agg (rBad v)] (.bool true) := by
  refine FnP.mk Try.func9 rfl Try.ntmps9 rfl ?_
  intro B a w F hB hfr hS
  refine wp_seq ?_
  refine region_seq hS (by kernel_rfl)
    (cF rfl (o_boxA 101 (.conv .t .agg) (by kernel_rfl)) r1 trivial
    (cF rfl (o_boxA 102 (.conv .t .agg) (by kernel_rfl)) r1 trivial
    (cF rfl (o_boxA 103 (.conv .t .agg) (by kernel_rfl)) r1 trivial
    (cF rfl (o_assign .cb (by rfl)) trivial trivial
    Chain.nil))))
    (by kernel_rfl) (by rw [hB]; kernel_rfl) ?_
  clear hS; intro a w F hS
  replace hS := hS.sub
  obtain ⟨F, hS⟩ := hS.norm [(1, _), (2, _), (5, _), (8, _), (9, _), (10, _)] [(0, _), (101, _), (102, _), (103, _)] r6 r4
  try dsimp only [RS.sub, SF.sub, CF.sub, csub, Anc.sub, List.map, zCF, rHist, rTx, rOrd, rVer, rInt, rOp, rBad] at hS
  generalize Act.tau a 5 = v5 at hS
  generalize Act.tau a 8 = v8 at hS
  generalize Act.tau a 9 = v9 at hS
  refine then_n ?_
  refine wp_seq ?_
  refine wp_seq ?_
  refine region_seq hS (by kernel_rfl)
    (cF rfl (o_load (ag := true) (sz := 2) 101 .is (by kernel_rfl) (by kernel_rfl) (by kernel_rfl) (by rfl)) r1 r1
    (cF rfl (o_callP (lightH_c g) Try.func55 rfl (by kernel_rfl) (Args.one (.pagg .t))) r1 trivial
    (cF rfl (o_not .t) r1 trivial
    Chain.nil)))
    (by kernel_rfl) (by rw [hB]; kernel_rfl) ?_
  clear hS; intro a w F hS
  obtain ⟨F, hS⟩ := hS.norm [(1, _), (2, _), (5, _), (8, _), (9, _), (10, _), (14, _)] [(0, _), (101, _), (102, _), (103, _)] r7 r4
  try dsimp only [List.map, List.drop_succ_cons, List.drop_zero, List.drop_nil, List.take_succ_cons, List.take_zero, List.take_nil, ldSF, rHist, rTx, rOrd, rVer, rInt, rOp, rBad] at hS
  refine then_n ?_
  refine cond_b hS rfl (fun hc0 => ?_) (fun hc0 => ?_)
  ·skip
   refine wp_seq ?_
   refine region_seq hS (by kernel_rfl)
     (cF rfl (o_callP (lives18_c) Try.func56 rfl (by kernel_rfl) Args.nil) trivial trivial
     (cF rfl (o_assign .t (by rfl)) r1 trivial
     Chain.nil))
     (by kernel_rfl) (by rw [hB]; kernel_rfl) ?_
   clear hS; intro a w F hS
   obtain ⟨F, hS⟩ := hS.norm [(1, _), (2, _), (5, _), (8, _), (9, _), (10, _)] [(0, _), (101, _), (102, _), (103, _)] r6 r4
   try dsimp only [rHist, rTx, rOrd, rVer, rInt, rOp, rBad] at hS
   refine then_n ?_
   refine wp_ret ?_
   refine then_r ?_
   refine ret_P hfr hS rfl (.tmp rfl .nil) (.one (.bool (by first | rfl | simp [bads_key])))
  ·skip
   have hsm : Small g := HLight.small (by simpa using hc0)
   refine wp_skip ?_
   refine then_n ?_
   refine wp_seq ?_
   refine region_seq hS (by kernel_rfl)
     (cF rfl (o_load (ag := true) (sz := 2) 101 .is (by kernel_rfl) (by kernel_rfl) (by kernel_rfl) (by rfl)) r1 r1
     (cF rfl (o_move .t (by rfl)) r1 trivial
     (cF rfl (o_callP (refOf18_c g phen hsm) Try.func57 rfl (by kernel_rfl) (Args.two (.pagg .t) .t)) r2 trivial
     (cF rfl (o_assign .t (by rfl)) r1 trivial
     Chain.nil))))
     (by kernel_rfl) (by rw [hB]; kernel_rfl) ?_
   clear hS; intro a w F hS
   obtain ⟨F, hS⟩ := hS.norm [(1, _), (2, _), (5, _), (8, _), (9, _), (10, _), (11, _)] [(0, _), (101, _), (102, _), (103, _)] r7 r4
   try dsimp only [List.map, List.drop_succ_cons, List.drop_zero, List.drop_nil, List.take_succ_cons, List.take_zero, List.take_nil, ldSF, rHist, rTx, rOrd, rVer, rInt, rOp, rBad] at hS
   refine then_n ?_
   refine wp_seq ?_
   refine region_any (by kernel_rfl) hS (by kernel_rfl)
     (cF rfl (o_load (ag := true) (sz := 2) 101 .is (by kernel_rfl) (by kernel_rfl) (by kernel_rfl) (by rfl)) r1 r1
     (cF rfl (o_move .t (by rfl)) r1 trivial
     (cF rfl (o_callP (of_c g phen hsm) Try.func59 rfl (by kernel_rfl) (Args.two (.pagg .t) .t)) r2 trivial
     (cF rfl (o_move .t (by rfl)) r1 trivial
     (cF rfl (o_callP (sameBads_c _ _) Try.func58 rfl (by kernel_rfl) (Args.two .t .t)) r2 trivial
     (cF rfl (o_move .t (by rfl)) r1 trivial
     (Chain.cons (Cert.cond rfl rfl (fun h => o_load (ag := true) (sz := 2) 101 .is (by kernel_rfl) (by kernel_rfl) (by kernel_rfl) (by rfl))) r2 r1
     (Chain.cons (Cert.cond rfl rfl (fun h => o_move .t (by rfl))) r2 trivial
     (Chain.cons (Cert.cond rfl rfl (fun h => o_move .t (by rfl))) r2 trivial
     (Chain.cons (Cert.cond rfl rfl (fun h => o_callP (ofKey_c g phen key hsm) Try.func60 rfl (by kernel_rfl) (Args.three (.pagg (.w h)) (.w h) (.w h)))) r4 trivial
     (Chain.cons (Cert.cond rfl rfl (fun h => o_move .t (by rfl))) r2 trivial
     (Chain.cons (Cert.cond rfl rfl (fun h => o_move .t (by rfl))) r2 trivial
     (Chain.cons (Cert.cond rfl rfl (fun h => o_callP (refOfKey18_c _ key (bads_len hsm.1 phen _)) Try.func61 rfl (by kernel_rfl) (Args.two (.w h) (.w h)))) r3 trivial
     (Chain.cons (Cert.cond rfl rfl (fun h => o_callP (sameBads_c _ _) Try.func58 rfl (by kernel_rfl) (Args.two (.w h) (.w h)))) r3 trivial
     (cF rfl (o_and2 .t .t) r2 trivial
     (cF rfl (o_move .t (by rfl)) r1 trivial
     (Chain.cons (Cert.cond rfl rfl (fun h => o_load (ag := true) (sz := 2) 101 .is (by kernel_rfl) (by kernel_rfl) (by kernel_rfl) (by rfl))) r2 r1
     (Chain.cons (Cert.cond rfl rfl (fun h => o_move .t (by rfl))) r2 trivial
     (Chain.cons (Cert.cond rfl rfl (fun h => o_load (ag := true) (sz := 5) 103 .is (by kernel_rfl) (by kernel_rfl) (by kernel_rfl) (by rfl))) r2 r1
     (Chain.cons (Cert.cond rfl rfl (fun h => o_callP (isBad_c g phen v hsm) Try.func62 rfl (by kernel_rfl) (Args.three (.pagg (.w h)) (.w h) (.pagg (.w h))))) r4 trivial
     (Chain.cons (Cert.cond rfl rfl (fun h => o_move .t (by rfl))) r2 trivial
     (Chain.cons (Cert.cond rfl rfl (fun h => o_load (ag := true) (sz := 5) 103 .is (by kernel_rfl) (by kernel_rfl) (by kernel_rfl) (by rfl))) r2 r1
     (Chain.cons (Cert.cond rfl rfl (fun h => o_callP (inBad_c _ v) Try.func63 rfl (by kernel_rfl) (Args.two (.w h) (.pagg (.w h))))) r3 trivial
     (Chain.cons (Cert.cond rfl rfl (fun h => o_eqlB Try.underlying4 (.w h) (.w h))) r3 trivial
     (cF rfl (o_and2 .t .t) r2 trivial
     (cF rfl (o_move .t (by rfl)) r1 trivial
     (Chain.cons (Cert.cond rfl rfl (fun h => o_load (ag := true) (sz := 5) 102 .is (by kernel_rfl) (by kernel_rfl) (by kernel_rfl) (by rfl))) r2 r1
     (Chain.cons (Cert.cond rfl rfl (fun h => o_load (ag := true) (sz := 5) 103 .is (by kernel_rfl) (by kernel_rfl) (by kernel_rfl) (by rfl))) r2 r1
     (Chain.cons (Cert.cond rfl rfl (fun h => o_callP (lessBad_c u v) Try.func64 rfl (by kernel_rfl) (Args.two (.pagg (.w h)) (.pagg (.w h))))) r3 trivial
     (Chain.cons (Cert.cond rfl rfl (fun h => o_load (ag := true) (sz := 5) 102 .is (by kernel_rfl) (by kernel_rfl) (by kernel_rfl) (by rfl))) r2 r1
     (Chain.cons (Cert.cond rfl rfl (fun h => o_load (ag := true) (sz := 5) 103 .is (by kernel_rfl) (by kernel_rfl) (by kernel_rfl) (by rfl))) r2 r1
     (Chain.cons (Cert.cond rfl rfl (fun h => o_callP (refLess18_c u v) Try.func65 rfl (by kernel_rfl) (Args.two (.pagg (.w h)) (.pagg (.w h))))) r3 trivial
     (Chain.cons (Cert.cond rfl rfl (fun h => o_eqlB Try.underlying4 (.w h) (.w h))) r3 trivial
     (cF rfl (o_and2 .t .t) r2 trivial
     (cF rfl (o_move .t (by rfl)) r1 trivial
     (Chain.cons (Cert.cond rfl rfl (fun h => o_callP (lives18_c) Try.func56 rfl (by kernel_rfl) Args.nil)) r1 trivial
     (cF rfl (o_and2 .t .t) r2 trivial
     (cF rfl (o_assign .t (by rfl)) r1 trivial
     Chain.nil))))))))))))))))))))))))))))))))))))))
     (by kernel_rfl) (by rw [hB]; kernel_rfl) ?_
   clear hS; intro a w F hS
   obtain ⟨F, hS⟩ := hS.norm [(10, _)] [(0, _), (101, _), (102, _), (103, _)] r1 r4
   try dsimp only [List.map, List.drop_succ_cons, List.drop_zero, List.drop_nil, List.take_succ_cons, List.take_zero, List.take_nil, ldSF, rHist, rTx, rOrd, rVer, rInt, rOp, rBad] at hS
   refine then_n ?_
   refine wp_ret ?_
   refine ret_P hfr hS rfl (.tmp rfl .nil) (.one (.bool (by first | rfl | simp [bads_key])))

end Go.Proofs.Ytpjjmolibanakaa
