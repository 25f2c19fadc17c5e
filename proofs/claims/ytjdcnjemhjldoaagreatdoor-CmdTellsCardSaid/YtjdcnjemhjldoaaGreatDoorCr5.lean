/- CmdTells. No condition beyond those that each theorem says. -/
import Derived.Test.YtjdcnjemhjldoaaGreatDoorCr3
import Derived.Test.YtjdcnjemhjldoaaGreatDoorCr4
import Derived.Test.YtjdcnjemhjldoaaGreatDoorCm7
namespace Go.Proofs.YtjdcnjemhjldoaaGreatDoor
open Go Go.Gm
set_option linter.unusedVariables false
set_option linter.unusedSimpArgs false
set_option maxHeartbeats 4000000
set_option maxRecDepth 8000


theorem cmdTells_c (c d : CmdD) (s0 : List UInt8) : FnP Tryz.prog 3 [.agg (rCmd c), .agg (rCmd d), .bs s0] (.bool true) := by
  refine FnP.mk Tryz.func3 rfl Tryz.ntmps3 rfl ?_
  intro B a w F hB hfr hS
  refine wp_seq ?_
  refine region_seq hS (by kernel_rfl)
    (cF rfl (o_boxA 101 (.conv .t .agg) (by kernel_rfl)) r1 trivial
    (cF rfl (o_boxA 102 (.conv .t .agg) (by kernel_rfl)) r1 trivial
    (cF rfl (o_assign .cb (by rfl)) trivial trivial
    Chain.nil)))
    (by kernel_rfl) (by rw [hB]; kernel_rfl) ?_
  clear hS; intro a w F hS
  replace hS := hS.sub
  obtain ⟨F, hS⟩ := hS.norm [(2, _), (3, _), (4, _), (6, _)] [(0, _), (101, _), (102, _)] r4 r3
  try dsimp only [RS.sub, SF.sub, CF.sub, csub, Anc.sub, List.map, zCF, rCmd] at hS
  generalize Act.tau a 3 = v3 at hS
  generalize Act.tau a 4 = v4 at hS
  refine then_n ?_
  refine wp_seq ?_
  refine wp_seq ?_
  refine region_seq hS (by kernel_rfl)
    (cF rfl (o_move .t (by rfl)) r1 trivial
    (cF rfl (o_len_bs Tryz.underlying9 .t) r1 trivial
    (cF rfl (o_gtr .t (.ci (by kernel_rfl))) r1 trivial
    (cF rfl (o_move .t (by rfl)) r1 trivial
    (Chain.cons (Cert.cond rfl rfl (fun h => o_fieldAddr (off := 1) 101 .is (by kernel_rfl) (by rfl))) r2 r1
    (Chain.cons (Cert.cond rfl rfl (fun h => o_fieldAddr (off := 2) 101 (.w h .adr) (by kernel_rfl) (by rfl))) r2 r1
    (Chain.cons (Cert.cond rfl rfl (fun h => o_load (ag := false) (sz := 1) 101 (.w h .adr) (by kernel_rfl) (by kernel_rfl) (by kernel_rfl) (by rfl))) r2 r1
    (Chain.cons (Cert.cond rfl rfl (fun h => o_len_sl Tryz.underlying22 (.w h))) r2 trivial
    (Chain.cons (Cert.cond rfl rfl (fun h => o_gtr (.w h) (.ci (by kernel_rfl)))) r2 trivial
    (cF rfl (o_or2 .t .t) r2 trivial
    (cF rfl (o_move .t (by rfl)) r1 trivial
    (Chain.cons (Cert.cond rfl rfl (fun h => o_fieldAddr (off := 4) 101 .is (by kernel_rfl) (by rfl))) r2 r1
    (Chain.cons (Cert.cond rfl rfl (fun h => o_fieldAddr (off := 1) 101 (.w h .adr) (by kernel_rfl) (by rfl))) r2 r1
    (Chain.cons (Cert.cond rfl rfl (fun h => o_load (ag := false) (sz := 1) 101 (.w h .adr) (by kernel_rfl) (by kernel_rfl) (by kernel_rfl) (by rfl))) r2 r1
    (Chain.cons (Cert.cond rfl rfl (fun h => o_len_sl Tryz.underlying25 (.w h))) r2 trivial
    (Chain.cons (Cert.cond rfl rfl (fun h => o_gtr (.w h) (.ci (by kernel_rfl)))) r2 trivial
    (cF rfl (o_or2 .t .t) r2 trivial
    (cF rfl (o_move .t (by rfl)) r1 trivial
    (Chain.cons (Cert.cond rfl rfl (fun h => o_fieldAddr (off := 1) 102 .is (by kernel_rfl) (by rfl))) r2 r1
    (Chain.cons (Cert.cond rfl rfl (fun h => o_fieldAddr (off := 2) 102 (.w h .adr) (by kernel_rfl) (by rfl))) r2 r1
    (Chain.cons (Cert.cond rfl rfl (fun h => o_load (ag := false) (sz := 1) 102 (.w h .adr) (by kernel_rfl) (by kernel_rfl) (by kernel_rfl) (by rfl))) r2 r1
    (Chain.cons (Cert.cond rfl rfl (fun h => o_len_sl Tryz.underlying22 (.w h))) r2 trivial
    (Chain.cons (Cert.cond rfl rfl (fun h => o_gtr (.w h) (.ci (by kernel_rfl)))) r2 trivial
    (cF rfl (o_or2 .t .t) r2 trivial
    (cF rfl (o_move .t (by rfl)) r1 trivial
    (Chain.cons (Cert.cond rfl rfl (fun h => o_fieldAddr (off := 4) 102 .is (by kernel_rfl) (by rfl))) r2 r1
    (Chain.cons (Cert.cond rfl rfl (fun h => o_fieldAddr (off := 1) 102 (.w h .adr) (by kernel_rfl) (by rfl))) r2 r1
    (Chain.cons (Cert.cond rfl rfl (fun h => o_load (ag := false) (sz := 1) 102 (.w h .adr) (by kernel_rfl) (by kernel_rfl) (by kernel_rfl) (by rfl))) r2 r1
    (Chain.cons (Cert.cond rfl rfl (fun h => o_len_sl Tryz.underlying25 (.w h))) r2 trivial
    (Chain.cons (Cert.cond rfl rfl (fun h => o_gtr (.w h) (.ci (by kernel_rfl)))) r2 trivial
    (cF rfl (o_or2 .t .t) r2 trivial
    Chain.nil)))))))))))))))))))))))))))))))
    (by kernel_rfl) (by rw [hB]; kernel_rfl) ?_
  clear hS; intro a w F hS
  obtain ⟨F, hS⟩ := hS.norm [(2, _), (3, _), (4, _), (6, _), (41, _)] [(0, _), (101, _), (102, _)] r5 r3
  try dsimp only [List.map, List.drop_succ_cons, List.drop_zero, List.drop_nil, List.take_succ_cons, List.take_zero, List.take_nil, ldSF, rCmd] at hS
  refine then_n ?_
  refine cond_b hS rfl (fun hc0 => ?_) (fun hc0 => ?_)
  ·skip
   refine wp_seq ?_
   refine region_seq hS (by kernel_rfl)
     (cF rfl (o_callP (cmdLives_c) Tryz.func4 rfl (by kernel_rfl) Args.nil) trivial trivial
     (cF rfl (o_assign .t (by rfl)) r1 trivial
     Chain.nil))
     (by kernel_rfl) (by rw [hB]; kernel_rfl) ?_
   clear hS; intro a w F hS
   obtain ⟨F, hS⟩ := hS.norm [(2, _), (3, _), (4, _), (6, _)] [(0, _), (101, _), (102, _)] r4 r3
   try dsimp only [rCmd] at hS
   refine then_n ?_
   refine wp_ret ?_
   refine then_r ?_
   refine ret_P hfr hS rfl (.tmp rfl .nil) (.one (.bool (by simp)))
  ·skip
   have hlt : (((s0.length ≤ 2000 ∧ c.tx.ops.length ≤ 100) ∧ c.order.txs.length ≤ 100) ∧ d.tx.ops.length ≤ 100) ∧ d.order.txs.length ≤ 100 := by
     simp at hc0
     omega
   obtain ⟨⟨⟨⟨hsl, hop⟩, hox⟩, hdp⟩, hdx⟩ := hlt
   refine wp_skip ?_
   refine then_n ?_
   refine wp_seq ?_
   refine region_seq hS (by kernel_rfl)
     (cF rfl (o_move .t (by rfl)) r1 trivial
     (cF rfl (o_callP (parse_c s0 (by omega)) Tryz.func5 rfl (by kernel_rfl) (Args.one .t)) r1 trivial
     (cF rfl (o_move .t (by rfl)) r1 trivial
     (cF rfl (o_extract .t rfl) r1 trivial
     (cF rfl (o_extract .t rfl) r1 trivial
     (cF rfl (o_alloc (zs := [.int .i64 0, .int .i64 0, .bool false, .slice none 0 0, .int .i64 0, .slice none 0 0, .int .i64 0, .int .i64 0, .int .i64 0, .int .i64 0]) 103 (by kernel_rfl)) trivial trivial
     (cF rfl (o_storeA (sz := 10) 103 .same (.conv .t .agg) (by kernel_rfl) (by kernel_rfl) (by kernel_rfl)) r2 r1
     (cF rfl (o_assign .t (by rfl)) r1 trivial
     Chain.nil))))))))
     (by kernel_rfl) (by rw [hB]; kernel_rfl) ?_
   clear hS; intro a w F hS
   replace hS := hS.sub
   obtain ⟨F, hS⟩ := hS.norm [(2, _), (3, _), (4, _), (6, _), (7, _), (8, _)] [(0, _), (101, _), (102, _), (103, _)] r6 r4
   try dsimp only [RS.sub, SF.sub, CF.sub, csub, Anc.sub, List.map, stCells, List.length_cons, List.length_nil, Nat.reduceAdd, List.drop_succ_cons, List.drop_zero, List.drop_nil, List.take_succ_cons, List.take_zero, List.take_nil, List.cons_append, List.nil_append, zCF, rCmd] at hS
   generalize Act.tau a 7 = v7 at hS
   refine then_n ?_
   refine wp_seq ?_
   refine region_seq hS (by kernel_rfl)
     (cF rfl (o_move .t (by rfl)) r1 trivial
     (cF rfl (o_callP (refParse_c s0 (by omega)) Tryz.func6 rfl (by kernel_rfl) (Args.one .t)) r1 trivial
     (cF rfl (o_move .t (by rfl)) r1 trivial
     (cF rfl (o_extract .t rfl) r1 trivial
     (cF rfl (o_extract .t rfl) r1 trivial
     (cF rfl (o_alloc (zs := [.int .i64 0, .int .i64 0, .bool false, .slice none 0 0, .int .i64 0, .slice none 0 0, .int .i64 0, .int .i64 0, .int .i64 0, .int .i64 0]) 104 (by kernel_rfl)) trivial trivial
     (cF rfl (o_storeA (sz := 10) 104 .same (.conv .t .agg) (by kernel_rfl) (by kernel_rfl) (by kernel_rfl)) r2 r1
     (cF rfl (o_assign .t (by rfl)) r1 trivial
     Chain.nil))))))))
     (by kernel_rfl) (by rw [hB]; kernel_rfl) ?_
   clear hS; intro a w F hS
   replace hS := hS.sub
   obtain ⟨F, hS⟩ := hS.norm [(3, _), (4, _), (6, _), (7, _), (8, _), (9, _), (10, _)] [(0, _), (101, _), (102, _), (103, _), (104, _)] r7 r5
   try dsimp only [RS.sub, SF.sub, CF.sub, csub, Anc.sub, List.map, stCells, List.length_cons, List.length_nil, Nat.reduceAdd, List.drop_succ_cons, List.drop_zero, List.drop_nil, List.take_succ_cons, List.take_zero, List.take_nil, List.cons_append, List.nil_append, zCF, rCmd] at hS
   generalize Act.tau a 9 = v9 at hS
   refine then_n ?_
   refine wp_seq ?_
   refine region_any (by kernel_rfl) hS (by kernel_rfl)
     (cF rfl (o_move .t (by rfl)) r1 trivial
     (cF rfl (o_move .t (by rfl)) r1 trivial
     (cF rfl (o_eql .t .t) r2 trivial
     (cF rfl (o_move .t (by rfl)) r1 trivial
     (Chain.cons (Cert.cond rfl rfl (fun h => o_load (ag := true) (sz := 10) 103 .is (by kernel_rfl) (by kernel_rfl) (by kernel_rfl) (by rfl))) r2 r1
     (Chain.cons (Cert.cond rfl rfl (fun h => o_load (ag := true) (sz := 10) 104 .is (by kernel_rfl) (by kernel_rfl) (by kernel_rfl) (by rfl))) r2 r1
     (Chain.cons (Cert.cond rfl rfl (fun h => o_callP (refCmdSame_c (parseR s0).1 (parseR s0).1) Tryz.func7 rfl (by kernel_rfl) (Args.two (.pagg (.w h)) (.pagg (.w h))))) r3 trivial
     (cF rfl (o_and2 .t .t) r2 trivial
     (cF rfl (o_move .t (by rfl)) r1 trivial
     (Chain.cons (Cert.cond rfl rfl (fun h => o_load (ag := true) (sz := 10) 101 .is (by kernel_rfl) (by kernel_rfl) (by kernel_rfl) (by rfl))) r2 r1
     (Chain.cons (Cert.cond rfl rfl (fun h => o_callP (cmdRight_c c (by omega)) Tryz.func8 rfl (by kernel_rfl) (Args.one (.pagg (.w h))))) r2 trivial
     (Chain.cons (Cert.cond rfl rfl (fun h => o_load (ag := true) (sz := 10) 101 .is (by kernel_rfl) (by kernel_rfl) (by kernel_rfl) (by rfl))) r2 r1
     (Chain.cons (Cert.cond rfl rfl (fun h => o_callP (refCmdRight_c c (by omega)) Tryz.func9 rfl (by kernel_rfl) (Args.one (.pagg (.w h))))) r2 trivial
     (Chain.cons (Cert.cond rfl rfl (fun h => o_eqlB Tryz.underlying4 (.w h) (.w h))) r3 trivial
     (cF rfl (o_and2 .t .t) r2 trivial
     (cF rfl (o_move .t (by rfl)) r1 trivial
     (Chain.cons (Cert.cond rfl rfl (fun h => o_load (ag := true) (sz := 10) 101 .is (by kernel_rfl) (by kernel_rfl) (by kernel_rfl) (by rfl))) r2 r1
     (Chain.cons (Cert.cond rfl rfl (fun h => o_callP (cmdText_c c (by omega)) Tryz.func10 rfl (by kernel_rfl) (Args.one (.pagg (.w h))))) r2 trivial
     (Chain.cons (Cert.cond rfl rfl (fun h => o_load (ag := true) (sz := 10) 101 .is (by kernel_rfl) (by kernel_rfl) (by kernel_rfl) (by rfl))) r2 r1
     (Chain.cons (Cert.cond rfl rfl (fun h => o_callP (refCmdText_c c (by omega)) Tryz.func11 rfl (by kernel_rfl) (Args.one (.pagg (.w h))))) r2 trivial
     (Chain.cons (Cert.cond rfl rfl (fun h => o_eql_bs Tryz.underlying9 (.w h) (.w h))) r3 trivial
     (cF rfl (o_and2 .t .t) r2 trivial
     (cF rfl (o_move .t (by rfl)) r1 trivial
     (Chain.cons (Cert.cond rfl rfl (fun h => o_load (ag := true) (sz := 10) 101 .is (by kernel_rfl) (by kernel_rfl) (by kernel_rfl) (by rfl))) r2 r1
     (Chain.cons (Cert.cond rfl rfl (fun h => o_load (ag := true) (sz := 10) 102 .is (by kernel_rfl) (by kernel_rfl) (by kernel_rfl) (by rfl))) r2 r1
     (Chain.cons (Cert.cond rfl rfl (fun h => o_callP (cmdSame_c c d) Tryz.func12 rfl (by kernel_rfl) (Args.two (.pagg (.w h)) (.pagg (.w h))))) r3 trivial
     (Chain.cons (Cert.cond rfl rfl (fun h => o_load (ag := true) (sz := 10) 101 .is (by kernel_rfl) (by kernel_rfl) (by kernel_rfl) (by rfl))) r2 r1
     (Chain.cons (Cert.cond rfl rfl (fun h => o_load (ag := true) (sz := 10) 102 .is (by kernel_rfl) (by kernel_rfl) (by kernel_rfl) (by rfl))) r2 r1
     (Chain.cons (Cert.cond rfl rfl (fun h => o_callP (refCmdSame_c c d) Tryz.func7 rfl (by kernel_rfl) (Args.two (.pagg (.w h)) (.pagg (.w h))))) r3 trivial
     (Chain.cons (Cert.cond rfl rfl (fun h => o_eqlB Tryz.underlying4 (.w h) (.w h))) r3 trivial
     (cF rfl (o_and2 .t .t) r2 trivial
     (cF rfl (o_move .t (by rfl)) r1 trivial
     (Chain.cons (Cert.cond rfl rfl (fun h => o_callP (cmdLives_c) Tryz.func4 rfl (by kernel_rfl) Args.nil)) r1 trivial
     (cF rfl (o_and2 .t .t) r2 trivial
     (cF rfl (o_assign .t (by rfl)) r1 trivial
     Chain.nil)))))))))))))))))))))))))))))))))))
     (by kernel_rfl) (by rw [hB]; kernel_rfl) ?_
   clear hS; intro a w F hS
   obtain ⟨F, hS⟩ := hS.norm [(6, _)] [(0, _), (101, _), (102, _)] r1 r3
   try dsimp only [List.map, List.drop_succ_cons, List.drop_zero, List.drop_nil, List.take_succ_cons, List.take_zero, List.take_nil, ldSF, rCmd] at hS
   refine then_n ?_
   refine wp_ret ?_
   refine ret_P hfr hS rfl (.tmp rfl .nil) (.one (.bool (by simp)))

end Go.Proofs.YtjdcnjemhjldoaaGreatDoor
