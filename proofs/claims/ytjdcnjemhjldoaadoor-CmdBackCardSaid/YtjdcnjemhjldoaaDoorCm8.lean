/- CmdBack. No condition beyond those that each theorem says. -/
import Derived.Test.YtjdcnjemhjldoaaDoorCm7
namespace Go.Proofs.YtjdcnjemhjldoaaDoor
open Go Go.Gm
set_option linter.unusedVariables false
set_option linter.unusedSimpArgs false
set_option maxHeartbeats 4000000
set_option maxRecDepth 8000


theorem cmdBack_c (c : CmdD) (s0 : List UInt8) : FnP Tryd.prog 5 [.agg (rCmd c), .bs s0] (.bool true) := by
  refine FnP.mk Tryd.func5 rfl Tryd.ntmps5 rfl ?_
  intro B a w F hB hfr hS
  refine wp_seq ?_
  refine region_seq hS (by kernel_rfl)
    (cF rfl (o_boxA 101 (.conv .t .agg) (by kernel_rfl)) ⟨rfl, trivial⟩ trivial
    (cF rfl (o_assign .cb (by rfl)) trivial trivial
    Chain.nil))
    (by kernel_rfl) (by rw [hB]; kernel_rfl) ?_
  clear hS; intro a w F hS
  replace hS := hS.sub
  obtain ⟨F, hS⟩ := hS.norm [(1, _), (2, _), (4, _)] [(0, _), (101, _)] ⟨rfl, rfl, rfl, trivial⟩ ⟨rfl, rfl, trivial⟩
  try dsimp only [RS.sub, SF.sub, CF.sub, csub, Anc.sub, List.map, zCF] at hS
  generalize Act.tau a 2 = v2 at hS
  refine then_n ?_
  refine wp_seq ?_
  refine wp_seq ?_
  refine region_seq hS (by kernel_rfl)
    (cF rfl (o_callP (cmdLives_c) Tryd.func18 rfl (by kernel_rfl) Args.nil) trivial trivial
    (cF rfl (o_not .t) ⟨rfl, trivial⟩ trivial
    Chain.nil))
    (by kernel_rfl) (by rw [hB]; kernel_rfl) ?_
  clear hS; intro a w F hS
  obtain ⟨F, hS⟩ := hS.norm [(1, _), (2, _), (4, _), (11, _)] [(0, _), (101, _)] ⟨rfl, rfl, rfl, rfl, trivial⟩ ⟨rfl, rfl, trivial⟩
  refine then_n ?_
  refine cond_b hS rfl (fun hc0 => ?_) (fun hc0 => ?_)
  ·skip
   simp at hc0
  ·skip
   refine wp_skip ?_
   refine then_n ?_
   refine wp_seq ?_
   refine wp_seq ?_
   refine region_seq hS (by kernel_rfl)
     (cF rfl (o_move .t (by rfl)) ⟨rfl, trivial⟩ trivial
     (cF rfl (o_len_bs Tryd.underlying9 .t) ⟨rfl, trivial⟩ trivial
     (cF rfl (o_gtr .t (.ci (by kernel_rfl))) ⟨rfl, trivial⟩ trivial
     (cF rfl (o_move .t (by rfl)) ⟨rfl, trivial⟩ trivial
     (Chain.cons (Cert.cond rfl rfl (fun h => o_fieldAddr (off := 1) 101 .is (by kernel_rfl) (by rfl))) ⟨rfl, rfl, trivial⟩ ⟨rfl, trivial⟩
     (Chain.cons (Cert.cond rfl rfl (fun h => o_fieldAddr (off := 2) 101 (.w h .adr) (by kernel_rfl) (by rfl))) ⟨rfl, rfl, trivial⟩ ⟨rfl, trivial⟩
     (Chain.cons (Cert.cond rfl rfl (fun h => o_load (ag := false) (sz := 1) 101 (.w h .adr) (by kernel_rfl) (by kernel_rfl) (by kernel_rfl) (by rfl))) ⟨rfl, rfl, trivial⟩ ⟨rfl, trivial⟩
     (Chain.cons (Cert.cond rfl rfl (fun h => o_len_sl Tryd.underlying24 (.w h))) ⟨rfl, rfl, trivial⟩ trivial
     (Chain.cons (Cert.cond rfl rfl (fun h => o_gtr (.w h) (.ci (by kernel_rfl)))) ⟨rfl, rfl, trivial⟩ trivial
     (cF rfl (o_or2 .t .t) ⟨rfl, rfl, trivial⟩ trivial
     (cF rfl (o_move .t (by rfl)) ⟨rfl, trivial⟩ trivial
     (Chain.cons (Cert.cond rfl rfl (fun h => o_fieldAddr (off := 4) 101 .is (by kernel_rfl) (by rfl))) ⟨rfl, rfl, trivial⟩ ⟨rfl, trivial⟩
     (Chain.cons (Cert.cond rfl rfl (fun h => o_fieldAddr (off := 1) 101 (.w h .adr) (by kernel_rfl) (by rfl))) ⟨rfl, rfl, trivial⟩ ⟨rfl, trivial⟩
     (Chain.cons (Cert.cond rfl rfl (fun h => o_load (ag := false) (sz := 1) 101 (.w h .adr) (by kernel_rfl) (by kernel_rfl) (by kernel_rfl) (by rfl))) ⟨rfl, rfl, trivial⟩ ⟨rfl, trivial⟩
     (Chain.cons (Cert.cond rfl rfl (fun h => o_len_sl Tryd.underlying40 (.w h))) ⟨rfl, rfl, trivial⟩ trivial
     (Chain.cons (Cert.cond rfl rfl (fun h => o_gtr (.w h) (.ci (by kernel_rfl)))) ⟨rfl, rfl, trivial⟩ trivial
     (cF rfl (o_or2 .t .t) ⟨rfl, rfl, trivial⟩ trivial
     Chain.nil)))))))))))))))))
     (by kernel_rfl) (by rw [hB]; kernel_rfl) ?_
   clear hS; intro a w F hS
   obtain ⟨F, hS⟩ := hS.norm [(1, _), (2, _), (4, _), (28, _)] [(0, _), (101, _)] ⟨rfl, rfl, rfl, rfl, trivial⟩ ⟨rfl, rfl, trivial⟩
   try dsimp only [List.map, List.drop_succ_cons, List.drop_zero, List.drop_nil, List.take_succ_cons, List.take_zero, List.take_nil, ldSF] at hS
   refine then_n ?_
   refine cond_b hS rfl (fun hc1 => ?_) (fun hc1 => ?_)
   ·skip
    refine wp_seq ?_
    refine region_seq hS (by kernel_rfl)
      (cF rfl (o_assign .cb (by rfl)) trivial trivial
      Chain.nil)
      (by kernel_rfl) (by rw [hB]; kernel_rfl) ?_
    clear hS; intro a w F hS
    obtain ⟨F, hS⟩ := hS.norm [(1, _), (2, _), (4, _)] [(0, _), (101, _)] ⟨rfl, rfl, rfl, trivial⟩ ⟨rfl, rfl, trivial⟩
    refine then_n ?_
    refine wp_ret ?_
    refine then_r ?_
    refine ret_P hfr hS rfl (.tmp rfl .nil) (.one (.bool (by first | rfl | exact hg)))
   ·skip
    have hlt : (s0.length ≤ 2000 ∧ c.tx.ops.length ≤ 100) ∧ c.order.txs.length ≤ 100 := by
      simp at hc1
      omega
    obtain ⟨⟨hsl, hop⟩, hox⟩ := hlt
    have hps := parse_small hsl
    refine wp_skip ?_
    refine then_n ?_
    refine wp_seq ?_
    refine region_seq hS (by kernel_rfl)
      (cF rfl (o_load (ag := true) (sz := 10) 101 .is (by kernel_rfl) (by kernel_rfl) (by kernel_rfl) (by rfl)) ⟨rfl, trivial⟩ ⟨rfl, trivial⟩
      (cF rfl (o_callP (cmdText_c c (by omega)) Tryd.func19 rfl (by kernel_rfl) (Args.one (.pagg .t))) ⟨rfl, trivial⟩ trivial
      (cF rfl (o_assign .t (by rfl)) ⟨rfl, trivial⟩ trivial
      Chain.nil)))
      (by kernel_rfl) (by rw [hB]; kernel_rfl) ?_
    clear hS; intro a w F hS
    obtain ⟨F, hS⟩ := hS.norm [(1, _), (2, _), (4, _), (5, _)] [(0, _), (101, _)] ⟨rfl, rfl, rfl, rfl, trivial⟩ ⟨rfl, rfl, trivial⟩
    try dsimp only [List.map, List.drop_succ_cons, List.drop_zero, List.drop_nil, List.take_succ_cons, List.take_zero, List.take_nil, ldSF] at hS
    refine then_n ?_
    refine wp_seq ?_
    refine wp_seq ?_
    refine region_seq hS (by kernel_rfl)
      (cF rfl (o_move .t (by rfl)) ⟨rfl, trivial⟩ trivial
      (cF rfl (o_neq_bs Tryd.underlying9 .t (.cs (by kernel_rfl))) ⟨rfl, trivial⟩ trivial
      (cF rfl (o_load (ag := true) (sz := 10) 101 .is (by kernel_rfl) (by kernel_rfl) (by kernel_rfl) (by rfl)) ⟨rfl, trivial⟩ ⟨rfl, trivial⟩
      (cF rfl (o_callP (cmdRight_c c (by omega)) Tryd.func20 rfl (by kernel_rfl) (Args.one (.pagg .t))) ⟨rfl, trivial⟩ trivial
      (cF rfl (o_neqB Tryd.underlying4 .t .t) ⟨rfl, rfl, trivial⟩ trivial
      Chain.nil)))))
      (by kernel_rfl) (by rw [hB]; kernel_rfl) ?_
    clear hS; intro a w F hS
    obtain ⟨F, hS⟩ := hS.norm [(1, _), (2, _), (4, _), (5, _), (35, _)] [(0, _), (101, _)] ⟨rfl, rfl, rfl, rfl, rfl, trivial⟩ ⟨rfl, rfl, trivial⟩
    try dsimp only [List.map, List.drop_succ_cons, List.drop_zero, List.drop_nil, List.take_succ_cons, List.take_zero, List.take_nil, ldSF] at hS
    refine then_n ?_
    refine cond_b hS rfl (fun hc2 => ?_) (fun hc2 => ?_)
    ·skip
     rw [textC_ne] at hc2
     simp at hc2
    ·skip
     refine wp_skip ?_
     refine then_n ?_
     refine wp_seq ?_
     refine wp_seq ?_
     refine region_seq hS (by kernel_rfl)
       (cF rfl (o_move .t (by rfl)) ⟨rfl, trivial⟩ trivial
       (cF rfl (o_neq_bs Tryd.underlying9 .t (.cs (by kernel_rfl))) ⟨rfl, trivial⟩ trivial
       Chain.nil))
       (by kernel_rfl) (by rw [hB]; kernel_rfl) ?_
     clear hS; intro a w F hS
     obtain ⟨F, hS⟩ := hS.norm [(1, _), (2, _), (4, _), (5, _), (37, _)] [(0, _), (101, _)] ⟨rfl, rfl, rfl, rfl, rfl, trivial⟩ ⟨rfl, rfl, trivial⟩
     refine then_n ?_
     refine cond_b hS rfl (fun hc3 => ?_) (fun hc3 => ?_)
     ·skip
      have hrc : rightC c = true := by rw [textC_ne] at hc3; simpa using hc3
      refine wp_seq ?_
      refine region_seq hS (by kernel_rfl)
        (cF rfl (o_move .t (by rfl)) ⟨rfl, trivial⟩ trivial
        (cF rfl (o_callP (parse_c (textC c) (by have := textC_len hrc (by omega); omega)) Tryd.func21 rfl (by kernel_rfl) (Args.one .t)) ⟨rfl, trivial⟩ trivial
        (cF rfl (o_move .t (by rfl)) ⟨rfl, trivial⟩ trivial
        (cF rfl (o_extract .t rfl) ⟨rfl, trivial⟩ trivial
        (cF rfl (o_extract .t rfl) ⟨rfl, trivial⟩ trivial
        (cF rfl (o_alloc (zs := [.int .i64 0, .int .i64 0, .bool false, .slice none 0 0, .int .i64 0, .slice none 0 0, .int .i64 0, .int .i64 0, .int .i64 0, .int .i64 0]) 102 (by kernel_rfl)) trivial trivial
        (cF rfl (o_storeA (sz := 10) 102 .same (.conv .t .agg) (by kernel_rfl) (by kernel_rfl) (by kernel_rfl)) ⟨rfl, rfl, trivial⟩ ⟨rfl, trivial⟩
        (cF rfl (o_assign .t (by rfl)) ⟨rfl, trivial⟩ trivial
        Chain.nil))))))))
        (by kernel_rfl) (by rw [hB]; kernel_rfl) ?_
      clear hS; intro a w F hS
      replace hS := hS.sub
      obtain ⟨F, hS⟩ := hS.norm [(1, _), (2, _), (4, _), (6, _), (7, _)] [(0, _), (101, _), (102, _)] ⟨rfl, rfl, rfl, rfl, rfl, trivial⟩ ⟨rfl, rfl, rfl, trivial⟩
      try dsimp only [RS.sub, SF.sub, CF.sub, csub, Anc.sub, List.map, stCells, List.length_cons, List.length_nil, Nat.reduceAdd, List.drop_succ_cons, List.drop_zero, List.drop_nil, List.take_succ_cons, List.take_zero, List.take_nil, List.cons_append, List.nil_append, zCF] at hS
      generalize Act.tau a 6 = v6 at hS
      refine then_n ?_
      refine wp_seq ?_
      refine region_seq hS (by kernel_rfl)
        (cF rfl (o_move .t (by rfl)) ⟨rfl, trivial⟩ trivial
        (cF rfl (o_neq .t (.ci (by kernel_rfl))) ⟨rfl, trivial⟩ trivial
        (cF rfl (o_move .t (by rfl)) ⟨rfl, trivial⟩ trivial
        (Chain.cons (Cert.cond rfl rfl (fun h => o_load (ag := true) (sz := 10) 101 .is (by kernel_rfl) (by kernel_rfl) (by kernel_rfl) (by rfl))) ⟨rfl, rfl, trivial⟩ ⟨rfl, trivial⟩
        (Chain.cons (Cert.cond rfl rfl (fun h => o_load (ag := true) (sz := 10) 102 .is (by kernel_rfl) (by kernel_rfl) (by kernel_rfl) (by rfl))) ⟨rfl, rfl, trivial⟩ ⟨rfl, trivial⟩
        (Chain.cons (Cert.cond rfl rfl (fun h => o_callP (cmdSame_c c (parseR (textC c)).1) Tryd.func22 rfl (by kernel_rfl) (Args.two (.pagg (.w h)) (.pagg (.w h))))) ⟨rfl, rfl, rfl, trivial⟩ trivial
        (Chain.cons (Cert.cond rfl rfl (fun h => o_not (.w h))) ⟨rfl, rfl, trivial⟩ trivial
        (cF rfl (o_or2 .t .t) ⟨rfl, rfl, trivial⟩ trivial
        Chain.nil))))))))
        (by kernel_rfl) (by rw [hB]; kernel_rfl) ?_
      clear hS; intro a w F hS
      obtain ⟨F, hS⟩ := hS.norm [(1, _), (4, _), (50, _)] [(0, _), (101, _), (102, _)] ⟨rfl, rfl, rfl, trivial⟩ ⟨rfl, rfl, rfl, trivial⟩
      try dsimp only [List.map, List.drop_succ_cons, List.drop_zero, List.drop_nil, List.take_succ_cons, List.take_zero, List.take_nil, ldSF] at hS
      refine then_n ?_
      refine cond_b hS rfl (fun hc4 => ?_) (fun hc4 => ?_)
      ·skip
       rw [parse_text hrc (by omega)] at hc4
       simp at hc4
      ·skip
       refine wp_skip ?_
       refine then_n ?_
       refine wp_seq ?_
       refine region_seq hS (by kernel_rfl)
         (cF rfl (o_move .t (by rfl)) ⟨rfl, trivial⟩ trivial
         (cF rfl (o_callP (parse_c s0 (by omega)) Tryd.func21 rfl (by kernel_rfl) (Args.one .t)) ⟨rfl, trivial⟩ trivial
         (cF rfl (o_move .t (by rfl)) ⟨rfl, trivial⟩ trivial
         (cF rfl (o_extract .t rfl) ⟨rfl, trivial⟩ trivial
         (cF rfl (o_extract .t rfl) ⟨rfl, trivial⟩ trivial
         (cF rfl (o_alloc (zs := [.int .i64 0, .int .i64 0, .bool false, .slice none 0 0, .int .i64 0, .slice none 0 0, .int .i64 0, .int .i64 0, .int .i64 0, .int .i64 0]) 103 (by kernel_rfl)) trivial trivial
         (cF rfl (o_storeA (sz := 10) 103 .same (.conv .t .agg) (by kernel_rfl) (by kernel_rfl) (by kernel_rfl)) ⟨rfl, rfl, trivial⟩ ⟨rfl, trivial⟩
         (cF rfl (o_assign .t (by rfl)) ⟨rfl, trivial⟩ trivial
         Chain.nil))))))))
         (by kernel_rfl) (by rw [hB]; kernel_rfl) ?_
       clear hS; intro a w F hS
       replace hS := hS.sub
       obtain ⟨F, hS⟩ := hS.norm [(1, _), (4, _), (8, _), (9, _)] [(0, _), (101, _), (102, _), (103, _)] ⟨rfl, rfl, rfl, rfl, trivial⟩ ⟨rfl, rfl, rfl, rfl, trivial⟩
       try dsimp only [RS.sub, SF.sub, CF.sub, csub, Anc.sub, List.map, stCells, List.length_cons, List.length_nil, Nat.reduceAdd, List.drop_succ_cons, List.drop_zero, List.drop_nil, List.take_succ_cons, List.take_zero, List.take_nil, List.cons_append, List.nil_append, zCF] at hS
       generalize Act.tau a 8 = v8 at hS
       refine then_n ?_
       refine wp_seq ?_
       refine wp_seq ?_
       refine region_seq hS (by kernel_rfl)
         (cF rfl (o_move .t (by rfl)) ⟨rfl, trivial⟩ trivial
         (cF rfl (o_neq .t (.ci (by kernel_rfl))) ⟨rfl, trivial⟩ trivial
         Chain.nil))
         (by kernel_rfl) (by rw [hB]; kernel_rfl) ?_
       clear hS; intro a w F hS
       obtain ⟨F, hS⟩ := hS.norm [(1, _), (4, _), (8, _), (57, _)] [(0, _), (101, _), (102, _), (103, _)] ⟨rfl, rfl, rfl, rfl, trivial⟩ ⟨rfl, rfl, rfl, rfl, trivial⟩
       refine then_n ?_
       refine cond_b hS rfl (fun hc5 => ?_) (fun hc5 => ?_)
       ·skip
        have hg : decide ((parseR s0).1 = zeroC 0) = true := by rcases parse_cases s0 with ⟨g1, g2⟩ | ⟨g1, _⟩; exact decide_eq_true g2; rw [g1] at hc5; simp at hc5
        refine wp_seq ?_
        refine region_seq hS (by kernel_rfl)
          (cF rfl (o_load (ag := true) (sz := 10) 103 .is (by kernel_rfl) (by kernel_rfl) (by kernel_rfl) (by rfl)) ⟨rfl, trivial⟩ ⟨rfl, trivial⟩
          (cF rfl (o_build (r := []) (zs := [.int .i64 0, .int .i64 0, .bool false, .slice none 0 0, .int .i64 0, .slice none 0 0, .int .i64 0, .int .i64 0, .int .i64 0, .int .i64 0]) (pl := [(0, 1), (1, 3), (4, 2), (6, 1), (7, 1), (8, 1), (9, 1)]) (by kernel_rfl) (by kernel_rfl) .nil (by rfl)) trivial trivial
          (cF rfl (o_callP (cmdSame_c (parseR s0).1 (zeroC 0)) Tryd.func22 rfl (by kernel_rfl) (Args.two (.pagg .t) (.conv (.pagg .t) (Ent.paggLe (zeroC_le 0 0))))) ⟨rfl, rfl, trivial⟩ trivial
          (cF rfl (o_assign .t (by rfl)) ⟨rfl, trivial⟩ trivial
          Chain.nil))))
          (by kernel_rfl) (by rw [hB]; kernel_rfl) ?_
        clear hS; intro a w F hS
        obtain ⟨F, hS⟩ := hS.norm [(1, _), (4, _), (8, _)] [(0, _), (101, _), (102, _), (103, _)] ⟨rfl, rfl, rfl, trivial⟩ ⟨rfl, rfl, rfl, rfl, trivial⟩
        try dsimp only [List.map, stCells, List.length_cons, List.length_nil, Nat.reduceAdd, List.drop_succ_cons, List.drop_zero, List.drop_nil, List.take_succ_cons, List.take_zero, List.take_nil, List.cons_append, List.nil_append, zCF, ldSF] at hS
        refine then_n ?_
        refine wp_ret ?_
        refine then_r ?_
        refine ret_P hfr hS rfl (.tmp rfl .nil) (.one (.bool (by first | rfl | exact hg)))
       ·skip
        have hg : (rightC (parseR s0).1 && decide (textC (parseR s0).1 = s0)) = true := by
          rcases parse_cases s0 with ⟨g1, _⟩ | ⟨_, g2, g3, _⟩
          · exact absurd (by simpa using hc5) g1
          · rw [g2, decide_eq_true g3]; rfl
        refine wp_skip ?_
        refine then_n ?_
        refine wp_seq ?_
        refine region_seq hS (by kernel_rfl)
          (cF rfl (o_load (ag := true) (sz := 10) 103 .is (by kernel_rfl) (by kernel_rfl) (by kernel_rfl) (by rfl)) ⟨rfl, trivial⟩ ⟨rfl, trivial⟩
          (cF rfl (o_callP (cmdRight_c (parseR s0).1 hps) Tryd.func20 rfl (by kernel_rfl) (Args.one (.pagg .t))) ⟨rfl, trivial⟩ trivial
          (cF rfl (o_move .t (by rfl)) ⟨rfl, trivial⟩ trivial
          (Chain.cons (Cert.cond rfl rfl (fun h => o_load (ag := true) (sz := 10) 103 .is (by kernel_rfl) (by kernel_rfl) (by kernel_rfl) (by rfl))) ⟨rfl, rfl, trivial⟩ ⟨rfl, trivial⟩
          (Chain.cons (Cert.cond rfl rfl (fun h => o_callP (cmdText_c (parseR s0).1 hps) Tryd.func19 rfl (by kernel_rfl) (Args.one (.pagg (.w h))))) ⟨rfl, rfl, trivial⟩ trivial
          (Chain.cons (Cert.cond rfl rfl (fun h => o_move .t (by rfl))) ⟨rfl, rfl, trivial⟩ trivial
          (Chain.cons (Cert.cond rfl rfl (fun h => o_eql_bs Tryd.underlying9 (.w h) (.w h))) ⟨rfl, rfl, rfl, trivial⟩ trivial
          (cF rfl (o_and2 .t .t) ⟨rfl, rfl, trivial⟩ trivial
          (cF rfl (o_assign .t (by rfl)) ⟨rfl, trivial⟩ trivial
          Chain.nil)))))))))
          (by kernel_rfl) (by rw [hB]; kernel_rfl) ?_
        clear hS; intro a w F hS
        obtain ⟨F, hS⟩ := hS.norm [(4, _)] [(0, _), (101, _), (102, _), (103, _)] ⟨rfl, trivial⟩ ⟨rfl, rfl, rfl, rfl, trivial⟩
        try dsimp only [List.map, List.drop_succ_cons, List.drop_zero, List.drop_nil, List.take_succ_cons, List.take_zero, List.take_nil, ldSF] at hS
        refine then_n ?_
        refine wp_ret ?_
        refine ret_P hfr hS rfl (.tmp rfl .nil) (.one (.bool (by first | rfl | exact hg)))
     ·skip
      refine wp_skip ?_
      refine then_n ?_
      refine wp_seq ?_
      refine region_seq hS (by kernel_rfl)
        (cF rfl (o_move .t (by rfl)) ⟨rfl, trivial⟩ trivial
        (cF rfl (o_callP (parse_c s0 (by omega)) Tryd.func21 rfl (by kernel_rfl) (Args.one .t)) ⟨rfl, trivial⟩ trivial
        (cF rfl (o_move .t (by rfl)) ⟨rfl, trivial⟩ trivial
        (cF rfl (o_extract .t rfl) ⟨rfl, trivial⟩ trivial
        (cF rfl (o_extract .t rfl) ⟨rfl, trivial⟩ trivial
        (cF rfl (o_alloc (zs := [.int .i64 0, .int .i64 0, .bool false, .slice none 0 0, .int .i64 0, .slice none 0 0, .int .i64 0, .int .i64 0, .int .i64 0, .int .i64 0]) 104 (by kernel_rfl)) trivial trivial
        (cF rfl (o_storeA (sz := 10) 104 .same (.conv .t .agg) (by kernel_rfl) (by kernel_rfl) (by kernel_rfl)) ⟨rfl, rfl, trivial⟩ ⟨rfl, trivial⟩
        (cF rfl (o_assign .t (by rfl)) ⟨rfl, trivial⟩ trivial
        Chain.nil))))))))
        (by kernel_rfl) (by rw [hB]; kernel_rfl) ?_
      clear hS; intro a w F hS
      replace hS := hS.sub
      obtain ⟨F, hS⟩ := hS.norm [(1, _), (4, _), (8, _), (9, _)] [(0, _), (101, _), (104, _)] ⟨rfl, rfl, rfl, rfl, trivial⟩ ⟨rfl, rfl, rfl, trivial⟩
      try dsimp only [RS.sub, SF.sub, CF.sub, csub, Anc.sub, List.map, stCells, List.length_cons, List.length_nil, Nat.reduceAdd, List.drop_succ_cons, List.drop_zero, List.drop_nil, List.take_succ_cons, List.take_zero, List.take_nil, List.cons_append, List.nil_append, zCF] at hS
      generalize Act.tau a 8 = v8 at hS
      refine then_n ?_
      refine wp_seq ?_
      refine wp_seq ?_
      refine region_seq hS (by kernel_rfl)
        (cF rfl (o_move .t (by rfl)) ⟨rfl, trivial⟩ trivial
        (cF rfl (o_neq .t (.ci (by kernel_rfl))) ⟨rfl, trivial⟩ trivial
        Chain.nil))
        (by kernel_rfl) (by rw [hB]; kernel_rfl) ?_
      clear hS; intro a w F hS
      obtain ⟨F, hS⟩ := hS.norm [(1, _), (4, _), (8, _), (57, _)] [(0, _), (101, _), (104, _)] ⟨rfl, rfl, rfl, rfl, trivial⟩ ⟨rfl, rfl, rfl, trivial⟩
      refine then_n ?_
      refine cond_b hS rfl (fun hc6 => ?_) (fun hc6 => ?_)
      ·skip
       have hg : decide ((parseR s0).1 = zeroC 0) = true := by rcases parse_cases s0 with ⟨g1, g2⟩ | ⟨g1, _⟩; exact decide_eq_true g2; rw [g1] at hc6; simp at hc6
       refine wp_seq ?_
       refine region_seq hS (by kernel_rfl)
         (cF rfl (o_load (ag := true) (sz := 10) 104 .is (by kernel_rfl) (by kernel_rfl) (by kernel_rfl) (by rfl)) ⟨rfl, trivial⟩ ⟨rfl, trivial⟩
         (cF rfl (o_build (r := []) (zs := [.int .i64 0, .int .i64 0, .bool false, .slice none 0 0, .int .i64 0, .slice none 0 0, .int .i64 0, .int .i64 0, .int .i64 0, .int .i64 0]) (pl := [(0, 1), (1, 3), (4, 2), (6, 1), (7, 1), (8, 1), (9, 1)]) (by kernel_rfl) (by kernel_rfl) .nil (by rfl)) trivial trivial
         (cF rfl (o_callP (cmdSame_c (parseR s0).1 (zeroC 0)) Tryd.func22 rfl (by kernel_rfl) (Args.two (.pagg .t) (.conv (.pagg .t) (Ent.paggLe (zeroC_le 0 0))))) ⟨rfl, rfl, trivial⟩ trivial
         (cF rfl (o_assign .t (by rfl)) ⟨rfl, trivial⟩ trivial
         Chain.nil))))
         (by kernel_rfl) (by rw [hB]; kernel_rfl) ?_
       clear hS; intro a w F hS
       obtain ⟨F, hS⟩ := hS.norm [(1, _), (4, _), (8, _)] [(0, _), (101, _), (104, _)] ⟨rfl, rfl, rfl, trivial⟩ ⟨rfl, rfl, rfl, trivial⟩
       try dsimp only [List.map, stCells, List.length_cons, List.length_nil, Nat.reduceAdd, List.drop_succ_cons, List.drop_zero, List.drop_nil, List.take_succ_cons, List.take_zero, List.take_nil, List.cons_append, List.nil_append, zCF, ldSF] at hS
       refine then_n ?_
       refine wp_ret ?_
       refine then_r ?_
       refine ret_P hfr hS rfl (.tmp rfl .nil) (.one (.bool (by first | rfl | exact hg)))
      ·skip
       have hg : (rightC (parseR s0).1 && decide (textC (parseR s0).1 = s0)) = true := by
         rcases parse_cases s0 with ⟨g1, _⟩ | ⟨_, g2, g3, _⟩
         · exact absurd (by simpa using hc6) g1
         · rw [g2, decide_eq_true g3]; rfl
       refine wp_skip ?_
       refine then_n ?_
       refine wp_seq ?_
       refine region_seq hS (by kernel_rfl)
         (cF rfl (o_load (ag := true) (sz := 10) 104 .is (by kernel_rfl) (by kernel_rfl) (by kernel_rfl) (by rfl)) ⟨rfl, trivial⟩ ⟨rfl, trivial⟩
         (cF rfl (o_callP (cmdRight_c (parseR s0).1 hps) Tryd.func20 rfl (by kernel_rfl) (Args.one (.pagg .t))) ⟨rfl, trivial⟩ trivial
         (cF rfl (o_move .t (by rfl)) ⟨rfl, trivial⟩ trivial
         (Chain.cons (Cert.cond rfl rfl (fun h => o_load (ag := true) (sz := 10) 104 .is (by kernel_rfl) (by kernel_rfl) (by kernel_rfl) (by rfl))) ⟨rfl, rfl, trivial⟩ ⟨rfl, trivial⟩
         (Chain.cons (Cert.cond rfl rfl (fun h => o_callP (cmdText_c (parseR s0).1 hps) Tryd.func19 rfl (by kernel_rfl) (Args.one (.pagg (.w h))))) ⟨rfl, rfl, trivial⟩ trivial
         (Chain.cons (Cert.cond rfl rfl (fun h => o_move .t (by rfl))) ⟨rfl, rfl, trivial⟩ trivial
         (Chain.cons (Cert.cond rfl rfl (fun h => o_eql_bs Tryd.underlying9 (.w h) (.w h))) ⟨rfl, rfl, rfl, trivial⟩ trivial
         (cF rfl (o_and2 .t .t) ⟨rfl, rfl, trivial⟩ trivial
         (cF rfl (o_assign .t (by rfl)) ⟨rfl, trivial⟩ trivial
         Chain.nil)))))))))
         (by kernel_rfl) (by rw [hB]; kernel_rfl) ?_
       clear hS; intro a w F hS
       obtain ⟨F, hS⟩ := hS.norm [(4, _)] [(0, _), (101, _), (104, _)] ⟨rfl, trivial⟩ ⟨rfl, rfl, rfl, trivial⟩
       try dsimp only [List.map, List.drop_succ_cons, List.drop_zero, List.drop_nil, List.take_succ_cons, List.take_zero, List.take_nil, ldSF] at hS
       refine then_n ?_
       refine wp_ret ?_
       refine ret_P hfr hS rfl (.tmp rfl .nil) (.one (.bool (by first | rfl | exact hg)))

end Go.Proofs.YtjdcnjemhjldoaaDoor
