/- The document's lines of limits. No condition beyond those that each theorem says. -/
import Derived.Test.YtfldilhddeabeaaDoorLi4
namespace Go.Proofs.YtfldilhddeabeaaDoor
open Go Go.Gm
set_option linter.unusedVariables false
set_option linter.unusedSimpArgs false
set_option maxHeartbeats 4000000
set_option maxRecDepth 8000


theorem refLimRead_c (s0 : List UInt8) (hs : s0.length ≤ 1000000) : FnP Tryd.prog 20 [.bs s0] (.tup [.agg (rLim (limR s0).1), .int .i64 (limR s0).2]) := by
  refine FnP.mk Tryd.func20 rfl Tryd.ntmps20 rfl ?_
  intro B a w F hB hfr hS
  have hws := words_small s0
  refine wp_seq ?_
  refine region_seq hS (by kernel_rfl)
      (Chain.cons (Cert.free rfl (o_alloc (zs := [.int .i64 0, .int .i64 0, .int .i64 0, .int .i64 0, .int .i64 0]) 101 (by kernel_rfl))) trivial trivial
      (Chain.cons (Cert.free rfl (o_assign (.ci (by kernel_rfl)) (by rfl))) trivial trivial
      Chain.nil))
      (by kernel_rfl) (by rw [hB]; kernel_rfl) ?_
  clear hS; intro a w F hS
  replace hS := hS.sub
  replace hS := hS.norm [(0, _), (2, _), (3, _)] [(0, _), (101, _)] ⟨rfl, rfl, rfl, trivial⟩ ⟨rfl, rfl, trivial⟩
  obtain ⟨F, hS⟩ := hS
  try dsimp only [RS.sub, SF.sub, CF.sub, csub, Anc.sub, stCells, List.map, List.length_cons, List.length_nil, Nat.reduceAdd, List.drop_succ_cons, List.drop_zero, List.drop_nil, List.take_succ_cons, List.take_zero, List.take_nil, List.cons_append, List.nil_append, zCF, ldSF] at hS
  generalize Act.tau a 2 = v2 at hS
  refine then_n ?_
  refine wp_seq ?_
  refine region_seq hS (by kernel_rfl)
      (Chain.cons (Cert.free rfl (o_move .t (by rfl))) ⟨rfl, trivial⟩ trivial
      (Chain.cons (Cert.free rfl (o_callP (refLWords_c s0 hs) Tryd.func9 rfl (by kernel_rfl) (Args.one .t))) ⟨rfl, trivial⟩ trivial
      (Chain.cons (Cert.free rfl (o_move .t (by rfl))) ⟨rfl, trivial⟩ trivial
      (Chain.cons (Cert.free rfl (o_extract .t rfl)) ⟨rfl, trivial⟩ trivial
      (Chain.cons (Cert.free rfl (o_extract .t rfl)) ⟨rfl, trivial⟩ trivial
      (Chain.cons (Cert.free rfl (o_assign .t (by rfl))) ⟨rfl, trivial⟩ trivial
      (Chain.cons (Cert.free rfl (o_assign .t (by rfl))) ⟨rfl, trivial⟩ trivial
      Chain.nil)))))))
      (by kernel_rfl) (by rw [hB]; kernel_rfl) ?_
  clear hS; intro a w F hS
  replace hS := hS.norm [(2, _), (3, _), (4, _), (5, _)] [(0, _), (101, _)] ⟨rfl, rfl, rfl, rfl, trivial⟩ ⟨rfl, rfl, trivial⟩
  obtain ⟨F, hS⟩ := hS
  try dsimp only [RS.sub, SF.sub, CF.sub, csub, Anc.sub, stCells, List.map, List.length_cons, List.length_nil, Nat.reduceAdd, List.drop_succ_cons, List.drop_zero, List.drop_nil, List.take_succ_cons, List.take_zero, List.take_nil, List.cons_append, List.nil_append, zCF, ldSF] at hS
  refine then_n ?_
  refine wp_seq ?_
  refine wp_seq ?_
  refine region_seq hS (by kernel_rfl)
      (Chain.cons (Cert.free rfl (o_move .t (by rfl))) ⟨rfl, trivial⟩ trivial
      (Chain.cons (Cert.free rfl (o_neq .t (.ci (by kernel_rfl)))) ⟨rfl, trivial⟩ trivial
      Chain.nil))
      (by kernel_rfl) (by rw [hB]; kernel_rfl) ?_
  clear hS; intro a w F hS
  replace hS := hS.norm [(2, _), (3, _), (4, _), (5, _), (18, _)] [(0, _), (101, _)] ⟨rfl, rfl, rfl, rfl, rfl, trivial⟩ ⟨rfl, rfl, trivial⟩
  obtain ⟨F, hS⟩ := hS
  try dsimp only [RS.sub, SF.sub, CF.sub, csub, Anc.sub, stCells, List.map, List.length_cons, List.length_nil, Nat.reduceAdd, List.drop_succ_cons, List.drop_zero, List.drop_nil, List.take_succ_cons, List.take_zero, List.take_nil, List.cons_append, List.nil_append, zCF, ldSF] at hS
  refine then_n ?_
  refine cond_b hS rfl (fun hc0 => ?_) (fun hc0 => ?_)
  · skip
    have hr := limR_why (by simpa using hc0 : (wordsR s0).2 ≠ 0)
    refine wp_seq ?_
    refine region_seq hS (by kernel_rfl)
        (Chain.cons (Cert.free rfl (o_build (r := []) (zs := [.int .i64 0, .int .i64 0, .int .i64 0, .int .i64 0, .int .i64 0]) (pl := [(0, 1), (1, 1), (2, 1), (3, 1), (4, 1)]) (by kernel_rfl) (by kernel_rfl) .nil (by rfl))) trivial trivial
        (Chain.cons (Cert.free rfl (o_move .t (by rfl))) ⟨rfl, trivial⟩ trivial
        (Chain.cons (Cert.free rfl (o_storeA (sz := 5) 101 .is .t (by kernel_rfl) (by kernel_rfl) (by kernel_rfl))) ⟨rfl, rfl, trivial⟩ ⟨rfl, trivial⟩
        (Chain.cons (Cert.free rfl (o_assign .t (by rfl))) ⟨rfl, trivial⟩ trivial
        Chain.nil))))
        (by kernel_rfl) (by rw [hB]; kernel_rfl) ?_
    clear hS; intro a w F hS
    replace hS := hS.norm [(2, _), (3, _), (4, _)] [(0, _), (101, _)] ⟨rfl, rfl, rfl, trivial⟩ ⟨rfl, rfl, trivial⟩
    obtain ⟨F, hS⟩ := hS
    try dsimp only [RS.sub, SF.sub, CF.sub, csub, Anc.sub, stCells, List.map, List.length_cons, List.length_nil, Nat.reduceAdd, List.drop_succ_cons, List.drop_zero, List.drop_nil, List.take_succ_cons, List.take_zero, List.take_nil, List.cons_append, List.nil_append, zCF, ldSF] at hS
    refine then_n ?_
    refine wp_ret ?_
    refine then_r ?_
    refine ret_P hfr hS rfl (.cell (n := 101) (ag := true) (sz := 5) rfl .is rfl (by kernel_rfl) (by kernel_rfl) (by kernel_rfl) (.tmp rfl .nil)) (.two (.aggU rfl (by rw [hr] <;> rfl)) (.int (by rw [hr])))
  · skip
    have h0 : (wordsR s0).2 = 0 := by simpa using hc0
    refine wp_skip ?_
    refine then_n ?_
    refine wp_seq ?_
    refine wp_seq ?_
    refine region_seq hS (by kernel_rfl)
        (Chain.cons (Cert.free rfl (o_move .t (by rfl))) ⟨rfl, trivial⟩ trivial
        (Chain.cons (Cert.free rfl (o_len_sl Tryd.underlying22 .t)) ⟨rfl, trivial⟩ trivial
        (Chain.cons (Cert.free rfl (o_eql .t (.ci (by kernel_rfl)))) ⟨rfl, trivial⟩ trivial
        Chain.nil)))
        (by kernel_rfl) (by rw [hB]; kernel_rfl) ?_
    clear hS; intro a w F hS
    replace hS := hS.norm [(2, _), (3, _), (4, _), (23, _)] [(0, _), (101, _)] ⟨rfl, rfl, rfl, rfl, trivial⟩ ⟨rfl, rfl, trivial⟩
    obtain ⟨F, hS⟩ := hS
    try dsimp only [RS.sub, SF.sub, CF.sub, csub, Anc.sub, stCells, List.map, List.length_cons, List.length_nil, Nat.reduceAdd, List.drop_succ_cons, List.drop_zero, List.drop_nil, List.take_succ_cons, List.take_zero, List.take_nil, List.cons_append, List.nil_append, zCF, ldSF] at hS
    refine then_n ?_
    refine cond_b hS rfl (fun hc1 => ?_) (fun hc1 => ?_)
    · skip
      have hr := limR_none h0 (by simpa using hc1)
      refine wp_seq ?_
      refine region_seq hS (by kernel_rfl)
          (Chain.cons (Cert.free rfl (o_build (r := []) (zs := [.int .i64 0, .int .i64 0, .int .i64 0, .int .i64 0, .int .i64 0]) (pl := [(0, 1), (1, 1), (2, 1), (3, 1), (4, 1)]) (by kernel_rfl) (by kernel_rfl) .nil (by rfl))) trivial trivial
          (Chain.cons (Cert.free rfl (o_storeA (sz := 5) 101 .is .t (by kernel_rfl) (by kernel_rfl) (by kernel_rfl))) ⟨rfl, rfl, trivial⟩ ⟨rfl, trivial⟩
          (Chain.cons (Cert.free rfl (o_assign (.ci (by kernel_rfl)) (by rfl))) trivial trivial
          Chain.nil)))
          (by kernel_rfl) (by rw [hB]; kernel_rfl) ?_
      clear hS; intro a w F hS
      replace hS := hS.norm [(2, _), (3, _), (4, _)] [(0, _), (101, _)] ⟨rfl, rfl, rfl, trivial⟩ ⟨rfl, rfl, trivial⟩
      obtain ⟨F, hS⟩ := hS
      try dsimp only [RS.sub, SF.sub, CF.sub, csub, Anc.sub, stCells, List.map, List.length_cons, List.length_nil, Nat.reduceAdd, List.drop_succ_cons, List.drop_zero, List.drop_nil, List.take_succ_cons, List.take_zero, List.take_nil, List.cons_append, List.nil_append, zCF, ldSF] at hS
      refine then_n ?_
      refine wp_ret ?_
      refine then_r ?_
      refine ret_P hfr hS rfl (.cell (n := 101) (ag := true) (sz := 5) rfl .is rfl (by kernel_rfl) (by kernel_rfl) (by kernel_rfl) (.tmp rfl .nil)) (.two (.aggU rfl (by rw [hr] <;> rfl)) (.int (by rw [hr])))
    · skip
      have h1 : (wordsR s0).1 ≠ [] := by intro e; rw [e] at hc1; simp at hc1
      have hlp := List.length_pos_iff.2 h1
      refine wp_skip ?_
      refine then_n ?_
      refine wp_seq ?_
      refine wp_seq ?_
      refine region_seq hS (by kernel_rfl)
          (Chain.cons (Cert.free rfl (o_move .t (by rfl))) ⟨rfl, trivial⟩ trivial
          (Chain.cons (Cert.free rfl (o_indexAddr_sl (sz := 1) (.mk Tryd.underlying22 (by kernel_rfl)) (by intro x; rfl) .t (.ci (by kernel_rfl)) (by decide) (by omega))) ⟨rfl, trivial⟩ trivial
          (Chain.cons (Cert.free rfl (o_load_ref (ag := false) (sz := 1) .t (by kernel_rfl) (by kernel_rfl) (by kernel_rfl))) ⟨rfl, trivial⟩ trivial
          (Chain.cons (Cert.free rfl (o_neq_bs Tryd.underlying9 .t (.cs (by kernel_rfl)))) ⟨rfl, trivial⟩ trivial
          Chain.nil))))
          (by kernel_rfl) (by rw [hB]; kernel_rfl) ?_
      clear hS; intro a w F hS
      replace hS := hS.norm [(2, _), (3, _), (4, _), (28, _)] [(0, _), (101, _)] ⟨rfl, rfl, rfl, rfl, trivial⟩ ⟨rfl, rfl, trivial⟩
      obtain ⟨F, hS⟩ := hS
      try dsimp only [RS.sub, SF.sub, CF.sub, csub, Anc.sub, stCells, List.map, List.length_cons, List.length_nil, Nat.reduceAdd, List.drop_succ_cons, List.drop_zero, List.drop_nil, List.take_succ_cons, List.take_zero, List.take_nil, List.cons_append, List.nil_append, zCF, ldSF] at hS
      refine then_n ?_
      refine cond_b hS rfl (fun hc2 => ?_) (fun hc2 => ?_)
      · skip
        have hr := limR_word h0 h1 (by simpa using hc2)
        refine wp_seq ?_
        refine region_seq hS (by kernel_rfl)
            (Chain.cons (Cert.free rfl (o_build (r := []) (zs := [.int .i64 0, .int .i64 0, .int .i64 0, .int .i64 0, .int .i64 0]) (pl := [(0, 1), (1, 1), (2, 1), (3, 1), (4, 1)]) (by kernel_rfl) (by kernel_rfl) .nil (by rfl))) trivial trivial
            (Chain.cons (Cert.free rfl (o_storeA (sz := 5) 101 .is .t (by kernel_rfl) (by kernel_rfl) (by kernel_rfl))) ⟨rfl, rfl, trivial⟩ ⟨rfl, trivial⟩
            (Chain.cons (Cert.free rfl (o_assign (.ci (by kernel_rfl)) (by rfl))) trivial trivial
            Chain.nil)))
            (by kernel_rfl) (by rw [hB]; kernel_rfl) ?_
        clear hS; intro a w F hS
        replace hS := hS.norm [(2, _), (3, _), (4, _)] [(0, _), (101, _)] ⟨rfl, rfl, rfl, trivial⟩ ⟨rfl, rfl, trivial⟩
        obtain ⟨F, hS⟩ := hS
        try dsimp only [RS.sub, SF.sub, CF.sub, csub, Anc.sub, stCells, List.map, List.length_cons, List.length_nil, Nat.reduceAdd, List.drop_succ_cons, List.drop_zero, List.drop_nil, List.take_succ_cons, List.take_zero, List.take_nil, List.cons_append, List.nil_append, zCF, ldSF] at hS
        refine then_n ?_
        refine wp_ret ?_
        refine then_r ?_
        refine ret_P hfr hS rfl (.cell (n := 101) (ag := true) (sz := 5) rfl .is rfl (by kernel_rfl) (by kernel_rfl) (by kernel_rfl) (.tmp rfl .nil)) (.two (.aggU rfl (by rw [hr] <;> rfl)) (.int (by rw [hr])))
      · skip
        have h2 : nth (wordsR s0).1 0 = [108, 105, 109, 105, 116, 115] := by simpa using hc2
        refine wp_skip ?_
        refine then_n ?_
        refine wp_seq ?_
        refine wp_seq ?_
        refine region_seq hS (by kernel_rfl)
            (Chain.cons (Cert.free rfl (o_move .t (by rfl))) ⟨rfl, trivial⟩ trivial
            (Chain.cons (Cert.free rfl (o_len_sl Tryd.underlying22 .t)) ⟨rfl, trivial⟩ trivial
            (Chain.cons (Cert.free rfl (o_lss .t (.ci (by kernel_rfl)))) ⟨rfl, trivial⟩ trivial
            Chain.nil)))
            (by kernel_rfl) (by rw [hB]; kernel_rfl) ?_
        clear hS; intro a w F hS
        replace hS := hS.norm [(2, _), (3, _), (4, _), (32, _)] [(0, _), (101, _)] ⟨rfl, rfl, rfl, rfl, trivial⟩ ⟨rfl, rfl, trivial⟩
        obtain ⟨F, hS⟩ := hS
        try dsimp only [RS.sub, SF.sub, CF.sub, csub, Anc.sub, stCells, List.map, List.length_cons, List.length_nil, Nat.reduceAdd, List.drop_succ_cons, List.drop_zero, List.drop_nil, List.take_succ_cons, List.take_zero, List.take_nil, List.cons_append, List.nil_append, zCF, ldSF] at hS
        refine then_n ?_
        refine cond_b hS rfl (fun hc3 => ?_) (fun hc3 => ?_)
        · skip
          have hr := limR_short h0 h1 h2 (by simp at hc3; omega)
          refine wp_seq ?_
          refine region_seq hS (by kernel_rfl)
              (Chain.cons (Cert.free rfl (o_build (r := []) (zs := [.int .i64 0, .int .i64 0, .int .i64 0, .int .i64 0, .int .i64 0]) (pl := [(0, 1), (1, 1), (2, 1), (3, 1), (4, 1)]) (by kernel_rfl) (by kernel_rfl) .nil (by rfl))) trivial trivial
              (Chain.cons (Cert.free rfl (o_storeA (sz := 5) 101 .is .t (by kernel_rfl) (by kernel_rfl) (by kernel_rfl))) ⟨rfl, rfl, trivial⟩ ⟨rfl, trivial⟩
              (Chain.cons (Cert.free rfl (o_assign (.ci (by kernel_rfl)) (by rfl))) trivial trivial
              Chain.nil)))
              (by kernel_rfl) (by rw [hB]; kernel_rfl) ?_
          clear hS; intro a w F hS
          replace hS := hS.norm [(2, _), (3, _), (4, _)] [(0, _), (101, _)] ⟨rfl, rfl, rfl, trivial⟩ ⟨rfl, rfl, trivial⟩
          obtain ⟨F, hS⟩ := hS
          try dsimp only [RS.sub, SF.sub, CF.sub, csub, Anc.sub, stCells, List.map, List.length_cons, List.length_nil, Nat.reduceAdd, List.drop_succ_cons, List.drop_zero, List.drop_nil, List.take_succ_cons, List.take_zero, List.take_nil, List.cons_append, List.nil_append, zCF, ldSF] at hS
          refine then_n ?_
          refine wp_ret ?_
          refine then_r ?_
          refine ret_P hfr hS rfl (.cell (n := 101) (ag := true) (sz := 5) rfl .is rfl (by kernel_rfl) (by kernel_rfl) (by kernel_rfl) (.tmp rfl .nil)) (.two (.aggU rfl (by rw [hr] <;> rfl)) (.int (by rw [hr])))
        · skip
          have h3 : 6 ≤ (wordsR s0).1.length := by simp at hc3; omega
          refine wp_skip ?_
          refine then_n ?_
          refine wp_seq ?_
          refine wp_seq ?_
          refine region_seq hS (by kernel_rfl)
              (Chain.cons (Cert.free rfl (o_move .t (by rfl))) ⟨rfl, trivial⟩ trivial
              (Chain.cons (Cert.free rfl (o_len_sl Tryd.underlying22 .t)) ⟨rfl, trivial⟩ trivial
              (Chain.cons (Cert.free rfl (o_gtr .t (.ci (by kernel_rfl)))) ⟨rfl, trivial⟩ trivial
              Chain.nil)))
              (by kernel_rfl) (by rw [hB]; kernel_rfl) ?_
          clear hS; intro a w F hS
          replace hS := hS.norm [(2, _), (3, _), (4, _), (36, _)] [(0, _), (101, _)] ⟨rfl, rfl, rfl, rfl, trivial⟩ ⟨rfl, rfl, trivial⟩
          obtain ⟨F, hS⟩ := hS
          try dsimp only [RS.sub, SF.sub, CF.sub, csub, Anc.sub, stCells, List.map, List.length_cons, List.length_nil, Nat.reduceAdd, List.drop_succ_cons, List.drop_zero, List.drop_nil, List.take_succ_cons, List.take_zero, List.take_nil, List.cons_append, List.nil_append, zCF, ldSF] at hS
          refine then_n ?_
          refine cond_b hS rfl (fun hc4 => ?_) (fun hc4 => ?_)
          · skip
            have hr := limR_more h0 h1 h2 (by simp at hc4; omega)
            refine wp_seq ?_
            refine region_seq hS (by kernel_rfl)
                (Chain.cons (Cert.free rfl (o_build (r := []) (zs := [.int .i64 0, .int .i64 0, .int .i64 0, .int .i64 0, .int .i64 0]) (pl := [(0, 1), (1, 1), (2, 1), (3, 1), (4, 1)]) (by kernel_rfl) (by kernel_rfl) .nil (by rfl))) trivial trivial
                (Chain.cons (Cert.free rfl (o_storeA (sz := 5) 101 .is .t (by kernel_rfl) (by kernel_rfl) (by kernel_rfl))) ⟨rfl, rfl, trivial⟩ ⟨rfl, trivial⟩
                (Chain.cons (Cert.free rfl (o_assign (.ci (by kernel_rfl)) (by rfl))) trivial trivial
                Chain.nil)))
                (by kernel_rfl) (by rw [hB]; kernel_rfl) ?_
            clear hS; intro a w F hS
            replace hS := hS.norm [(2, _), (3, _), (4, _)] [(0, _), (101, _)] ⟨rfl, rfl, rfl, trivial⟩ ⟨rfl, rfl, trivial⟩
            obtain ⟨F, hS⟩ := hS
            try dsimp only [RS.sub, SF.sub, CF.sub, csub, Anc.sub, stCells, List.map, List.length_cons, List.length_nil, Nat.reduceAdd, List.drop_succ_cons, List.drop_zero, List.drop_nil, List.take_succ_cons, List.take_zero, List.take_nil, List.cons_append, List.nil_append, zCF, ldSF] at hS
            refine then_n ?_
            refine wp_ret ?_
            refine then_r ?_
            refine ret_P hfr hS rfl (.cell (n := 101) (ag := true) (sz := 5) rfl .is rfl (by kernel_rfl) (by kernel_rfl) (by kernel_rfl) (.tmp rfl .nil)) (.two (.aggU rfl (by rw [hr] <;> rfl)) (.int (by rw [hr])))
          · skip
            have h6 : (wordsR s0).1.length = 6 := by simp at hc4; omega
            have hd5 : ((wordsR s0).1.drop 1).length = 5 := by simp; omega
            refine wp_skip ?_
            refine then_n ?_
            refine wp_seq ?_
            refine region_seq hS (by kernel_rfl)
                (Chain.cons (Cert.free rfl (o_assign (.c rfl) (by rfl))) trivial trivial
                Chain.nil)
                (by kernel_rfl) (by rw [hB]; kernel_rfl) ?_
            clear hS; intro a w F hS
            replace hS := hS.norm [(2, _), (3, _), (4, _), (6, _)] [(0, _), (101, _)] ⟨rfl, rfl, rfl, rfl, trivial⟩ ⟨rfl, rfl, trivial⟩
            obtain ⟨F, hS⟩ := hS
            try dsimp only [RS.sub, SF.sub, CF.sub, csub, Anc.sub, stCells, List.map, List.length_cons, List.length_nil, Nat.reduceAdd, List.drop_succ_cons, List.drop_zero, List.drop_nil, List.take_succ_cons, List.take_zero, List.take_nil, List.cons_append, List.nil_append, zCF, ldSF] at hS
            refine then_n ?_
            refine wp_seq ?_
            refine wp_seq ?_
            refine region_seq hS (by kernel_rfl)
                (Chain.cons (Cert.free rfl (o_move .t (by rfl))) ⟨rfl, trivial⟩ trivial
                (Chain.cons (Cert.free rfl (o_slice_lo (sz := 1) (.mk Tryd.underlying22 (by kernel_rfl)) (by intro x; rfl) .t (.ci (by kernel_rfl)) (by decide) (by omega))) ⟨rfl, trivial⟩ trivial
                (Chain.cons (Cert.free rfl (o_len_sl Tryd.underlying22 .t)) ⟨rfl, trivial⟩ trivial
                (Chain.cons (Cert.free rfl (o_move (.ci (by kernel_rfl)) (by rfl))) trivial trivial
                Chain.nil))))
                (by kernel_rfl) (by rw [hB]; kernel_rfl) ?_
            clear hS; intro a w F hS
            replace hS := hS.norm [(2, _), (3, _), (6, _), (39, _), (40, _), (41, _)] [(0, _), (101, _)] ⟨rfl, rfl, rfl, rfl, rfl, rfl, trivial⟩ ⟨rfl, rfl, trivial⟩
            obtain ⟨F, hS⟩ := hS
            try dsimp only [RS.sub, SF.sub, CF.sub, csub, Anc.sub, stCells, List.map, List.length_cons, List.length_nil, Nat.reduceAdd, List.drop_succ_cons, List.drop_zero, List.drop_nil, List.take_succ_cons, List.take_zero, List.take_nil, List.cons_append, List.nil_append, zCF, ldSF] at hS
            refine then_n ?_
            refine wp_block ?_
            replace hS := hS.fresh 50 rfl
            replace hS := hS.turn 50 rfl (nilRow (T := 3) (sz := 1) (R := rInt))
            replace hS := hS.norm [(2, _), (6, _), (39, _), (40, _), (41, _)] [(0, _), (50, _), (101, _)] ⟨rfl, rfl, rfl, rfl, rfl, trivial⟩ ⟨rfl, rfl, rfl, trivial⟩
            obtain ⟨F, hS⟩ := hS
            refine loop_inv (σ := (Nat × Value)) (fun s => (⟨[(2, .pv (.is v2)), (6, .pv (.is s.2)), (39, .pv (.sl rS ((wordsR s0).1.drop 1))), (40, .pv (.int .i64 (((wordsR s0).1.drop 1).length : Nat))), (41, .pv (.int .i64 (s.1 : Nat)))], [(0, frame B), (50, .ob (.val s.2) (rowH 3 1 rInt ((((wordsR s0).1.drop 1).map fun x => (readR x).1).take s.1))), (101, .pt (.val v2) 33 [.pv (.int .i64 0), .pv (.int .i64 0), .pv (.int .i64 0), .pv (.int .i64 0), .pv (.int .i64 0)])]⟩ : En)) (fun s => s.1 ≤ 5 ∧ ∀ j, j < s.1 → (readR (nth ((wordsR s0).1.drop 1) j)).2 = 0) (fun s => 5 - s.1) (0, .slice none 0 0) hS ⟨Nat.zero_le _, fun j hj => absurd hj (Nat.not_lt_zero _)⟩ ?_
            clear hS; intro s a w F hC hS
            obtain ⟨i, v⟩ := s
            try dsimp only at hC
            try dsimp only at hS
            obtain ⟨hi0, hz⟩ := hC
            try dsimp only at hi0 hz
            refine wp_seq ?_
            refine region_seq hS (by kernel_rfl)
                (Chain.cons (Cert.free rfl (o_lss .t .t)) ⟨rfl, rfl, trivial⟩ trivial
                Chain.nil)
                (by kernel_rfl) (by rw [hB]; kernel_rfl) ?_
            clear hS; intro a w F hS
            replace hS := hS.norm [(2, _), (6, _), (39, _), (40, _), (41, _), (42, _)] [(0, _), (50, _), (101, _)] ⟨rfl, rfl, rfl, rfl, rfl, rfl, trivial⟩ ⟨rfl, rfl, rfl, trivial⟩
            obtain ⟨F, hS⟩ := hS
            try dsimp only [RS.sub, SF.sub, CF.sub, csub, Anc.sub, stCells, List.map, List.length_cons, List.length_nil, Nat.reduceAdd, List.drop_succ_cons, List.drop_zero, List.drop_nil, List.take_succ_cons, List.take_zero, List.take_nil, List.cons_append, List.nil_append, zCF, ldSF] at hS
            refine then_n ?_
            refine wp_seq ?_
            refine cond_b hS rfl (fun hc5 => ?_) (fun hc5 => ?_)
            · skip
              have hi : i < 5 := by simp at hc5; omega
              have hwi : nth (wordsR s0).1 (IntKind.wrap .i64 ((i : Int) + 1)).toNat = nth ((wordsR s0).1.drop 1) i := by rw [wrap_succ (by omega), Int.toNat_natCast, nth_drop1 (by omega)]
              have hwl : (nth ((wordsR s0).1.drop 1) i).length ≤ 1000000 := by rw [nth_drop1 (by omega)]; have := len_le (l := (wordsR s0).1) (i := i + 1) (by omega); omega
              refine wp_skip ?_
              refine then_n ?_
              refine wp_seq ?_
              refine wp_block ?_
              refine wp_seq ?_
              refine region_seq hS (by kernel_rfl)
                  (Chain.cons (Cert.free rfl (o_indexAddr_sl (sz := 1) (.mk Tryd.underlying22 (by kernel_rfl)) (by intro x; rfl) .t .t (by omega) (by omega))) ⟨rfl, rfl, trivial⟩ trivial
                  (Chain.cons (Cert.free rfl (o_load_ref (ag := false) (sz := 1) .t (by kernel_rfl) (by kernel_rfl) (by kernel_rfl))) ⟨rfl, trivial⟩ trivial
                  (Chain.cons (Cert.free rfl (o_assign .t (by rfl))) ⟨rfl, trivial⟩ trivial
                  Chain.nil)))
                  (by kernel_rfl) (by rw [hB]; kernel_rfl) ?_
              clear hS; intro a w F hS
              replace hS := hS.norm [(2, _), (6, _), (8, _), (39, _), (40, _), (41, _), (42, _), (43, _), (44, _)] [(0, _), (50, _), (101, _)] ⟨rfl, rfl, rfl, rfl, rfl, rfl, rfl, rfl, rfl, trivial⟩ ⟨rfl, rfl, rfl, trivial⟩
              obtain ⟨F, hS⟩ := hS
              try dsimp only [RS.sub, SF.sub, CF.sub, csub, Anc.sub, stCells, List.map, List.length_cons, List.length_nil, Nat.reduceAdd, List.drop_succ_cons, List.drop_zero, List.drop_nil, List.take_succ_cons, List.take_zero, List.take_nil, List.cons_append, List.nil_append, zCF, ldSF] at hS
              rw [Int.toNat_natCast] at hS
              refine then_n ?_
              refine wp_seq ?_
              refine region_seq hS (by kernel_rfl)
                  (Chain.cons (Cert.free rfl (o_move .t (by rfl))) ⟨rfl, trivial⟩ trivial
                  (Chain.cons (Cert.free rfl (o_callP (refRead_c (nth ((wordsR s0).1.drop 1) i) (by omega)) Tryd.func34 rfl (by kernel_rfl) (Args.one .t))) ⟨rfl, trivial⟩ trivial
                  (Chain.cons (Cert.free rfl (o_move .t (by rfl))) ⟨rfl, trivial⟩ trivial
                  (Chain.cons (Cert.free rfl (o_extract .t rfl)) ⟨rfl, trivial⟩ trivial
                  (Chain.cons (Cert.free rfl (o_extract .t rfl)) ⟨rfl, trivial⟩ trivial
                  (Chain.cons (Cert.free rfl (o_assign .t (by rfl))) ⟨rfl, trivial⟩ trivial
                  (Chain.cons (Cert.free rfl (o_assign .t (by rfl))) ⟨rfl, trivial⟩ trivial
                  Chain.nil)))))))
                  (by kernel_rfl) (by rw [hB]; kernel_rfl) ?_
              clear hS; intro a w F hS
              replace hS := hS.norm [(2, _), (6, _), (8, _), (9, _), (10, _), (39, _), (40, _), (41, _), (42, _), (43, _), (44, _), (45, _), (46, _), (47, _), (48, _), (49, _)] [(0, _), (50, _), (101, _)] ⟨rfl, rfl, rfl, rfl, rfl, rfl, rfl, rfl, rfl, rfl, rfl, rfl, rfl, rfl, rfl, rfl, trivial⟩ ⟨rfl, rfl, rfl, trivial⟩
              obtain ⟨F, hS⟩ := hS
              try dsimp only [RS.sub, SF.sub, CF.sub, csub, Anc.sub, stCells, List.map, List.length_cons, List.length_nil, Nat.reduceAdd, List.drop_succ_cons, List.drop_zero, List.drop_nil, List.take_succ_cons, List.take_zero, List.take_nil, List.cons_append, List.nil_append, zCF, ldSF] at hS
              refine then_n ?_
              refine wp_seq ?_
              refine wp_seq ?_
              refine region_seq hS (by kernel_rfl)
                  (Chain.cons (Cert.free rfl (o_move .t (by rfl))) ⟨rfl, trivial⟩ trivial
                  (Chain.cons (Cert.free rfl (o_neq .t (.ci (by kernel_rfl)))) ⟨rfl, trivial⟩ trivial
                  Chain.nil))
                  (by kernel_rfl) (by rw [hB]; kernel_rfl) ?_
              clear hS; intro a w F hS
              replace hS := hS.norm [(2, _), (6, _), (8, _), (9, _), (10, _), (39, _), (40, _), (41, _), (42, _), (43, _), (44, _), (45, _), (46, _), (47, _), (48, _), (49, _), (50, _), (51, _)] [(0, _), (50, _), (101, _)] ⟨rfl, rfl, rfl, rfl, rfl, rfl, rfl, rfl, rfl, rfl, rfl, rfl, rfl, rfl, rfl, rfl, rfl, rfl, trivial⟩ ⟨rfl, rfl, rfl, trivial⟩
              obtain ⟨F, hS⟩ := hS
              try dsimp only [RS.sub, SF.sub, CF.sub, csub, Anc.sub, stCells, List.map, List.length_cons, List.length_nil, Nat.reduceAdd, List.drop_succ_cons, List.drop_zero, List.drop_nil, List.take_succ_cons, List.take_zero, List.take_nil, List.cons_append, List.nil_append, zCF, ldSF] at hS
              refine then_n ?_
              refine cond_b hS rfl (fun hc6 => ?_) (fun hc6 => ?_)
              · skip
                have hr := limR_bad h0 h2 h6 hi hz (by simpa using hc6)
                refine wp_seq ?_
                refine region_seq hS (by kernel_rfl)
                    (Chain.cons (Cert.free rfl (o_build (r := []) (zs := [.int .i64 0, .int .i64 0, .int .i64 0, .int .i64 0, .int .i64 0]) (pl := [(0, 1), (1, 1), (2, 1), (3, 1), (4, 1)]) (by kernel_rfl) (by kernel_rfl) .nil (by rfl))) trivial trivial
                    (Chain.cons (Cert.free rfl (o_move .t (by rfl))) ⟨rfl, trivial⟩ trivial
                    (Chain.cons (Cert.free rfl (o_storeA (sz := 5) 101 .is .t (by kernel_rfl) (by kernel_rfl) (by kernel_rfl))) ⟨rfl, rfl, trivial⟩ ⟨rfl, trivial⟩
                    (Chain.cons (Cert.free rfl (o_assign .t (by rfl))) ⟨rfl, trivial⟩ trivial
                    Chain.nil))))
                    (by kernel_rfl) (by rw [hB]; kernel_rfl) ?_
                clear hS; intro a w F hS
                replace hS := hS.norm [(2, _), (3, _), (6, _), (8, _), (9, _), (10, _), (39, _), (40, _), (41, _), (42, _), (43, _), (44, _), (45, _), (46, _), (47, _), (48, _), (49, _), (50, _), (51, _), (52, _), (53, _)] [(0, _), (50, _), (101, _)] ⟨rfl, rfl, rfl, rfl, rfl, rfl, rfl, rfl, rfl, rfl, rfl, rfl, rfl, rfl, rfl, rfl, rfl, rfl, rfl, rfl, rfl, trivial⟩ ⟨rfl, rfl, rfl, trivial⟩
                obtain ⟨F, hS⟩ := hS
                try dsimp only [RS.sub, SF.sub, CF.sub, csub, Anc.sub, stCells, List.map, List.length_cons, List.length_nil, Nat.reduceAdd, List.drop_succ_cons, List.drop_zero, List.drop_nil, List.take_succ_cons, List.take_zero, List.take_nil, List.cons_append, List.nil_append, zCF, ldSF] at hS
                refine then_n ?_
                refine wp_ret ?_
                refine then_r ?_
                refine block_r ?_
                refine then_r ?_
                refine then_r ?_
                refine block_r ?_
                refine then_r ?_
                refine ret_P hfr hS rfl (.cell (n := 101) (ag := true) (sz := 5) rfl .is rfl (by kernel_rfl) (by kernel_rfl) (by kernel_rfl) (.tmp rfl .nil)) (.two (.aggU rfl (by rw [hr] <;> rfl)) (.int (by rw [hr])))
              · skip
                have hzi : (readR (nth ((wordsR s0).1.drop 1) i)).2 = 0 := by simpa using hc6
                refine wp_skip ?_
                refine then_n ?_
                refine region_seq hS (by kernel_rfl)
                    (Chain.cons (Cert.free rfl (o_move .t (by rfl))) ⟨rfl, trivial⟩ trivial
                    (Chain.cons (Cert.free rfl (o_move .t (by rfl))) ⟨rfl, trivial⟩ trivial
                    (Chain.cons (Cert.free rfl (o_buildSliceE (sz := 1) (zs := [.int .i64 0]) (r := [(0, .tmp 55)]) (l := [_]) Tryd.underlying53 (by kernel_rfl) (by kernel_rfl) (by kernel_rfl) (by kernel_rfl) rfl rfl (.one rfl .t one_int (by kernel_rfl) .nil) rfl)) ⟨rfl, trivial⟩ trivial
                    (Chain.cons (Cert.free rfl (o_append (sz := 1) (bs := 8) 50 (.mk' Tryd.underlying53 (by kernel_rfl) (by kernel_rfl)) (by intro x; rfl) .is (.arr (l' := [(readR (nth ((wordsR s0).1.drop 1) i)).1]) .t) (by simp only [List.length_cons, List.length_nil, List.length_take, List.length_map]; omega) (by decide))) ⟨rfl, rfl, trivial⟩ ⟨rfl, trivial⟩
                    (Chain.cons (Cert.free rfl (o_assign .t (by rfl))) ⟨rfl, trivial⟩ trivial
                    Chain.nil)))))
                    (by kernel_rfl) (by rw [hB]; kernel_rfl) ?_
                clear hS; intro a w F hS
                replace hS := hS.sub
                replace hS := hS.norm [(2, _), (6, _), (8, _), (9, _), (10, _), (39, _), (40, _), (41, _), (42, _), (43, _), (44, _), (45, _), (46, _), (47, _), (48, _), (49, _), (50, _), (51, _), (54, _), (55, _), (56, _), (57, _)] [(0, _), (50, _), (101, _)] ⟨rfl, rfl, rfl, rfl, rfl, rfl, rfl, rfl, rfl, rfl, rfl, rfl, rfl, rfl, rfl, rfl, rfl, rfl, rfl, rfl, rfl, rfl, trivial⟩ ⟨rfl, rfl, rfl, trivial⟩
                obtain ⟨F, hS⟩ := hS
                try dsimp only [RS.sub, SF.sub, CF.sub, csub, Anc.sub, stCells, List.map, List.length_cons, List.length_nil, Nat.reduceAdd, List.drop_succ_cons, List.drop_zero, List.drop_nil, List.take_succ_cons, List.take_zero, List.take_nil, List.cons_append, List.nil_append, zCF, ldSF] at hS
                generalize Act.tau a 57 = v57 at hS
                refine block_n ?_
                refine then_n ?_
                refine region_seq hS (by kernel_rfl)
                    (Chain.cons (Cert.free rfl (o_add .t (.ci (by kernel_rfl)))) ⟨rfl, trivial⟩ trivial
                    (Chain.cons (Cert.free rfl (o_move .t (by rfl))) ⟨rfl, trivial⟩ trivial
                    Chain.nil))
                    (by kernel_rfl) (by rw [hB]; kernel_rfl) ?_
                clear hS; intro a w F hS
                replace hS := hS.norm [(2, _), (6, _), (8, _), (9, _), (10, _), (39, _), (40, _), (41, _), (42, _), (43, _), (44, _), (45, _), (46, _), (47, _), (48, _), (49, _), (50, _), (51, _), (54, _), (55, _), (56, _), (57, _), (58, _)] [(0, _), (50, _), (101, _)] ⟨rfl, rfl, rfl, rfl, rfl, rfl, rfl, rfl, rfl, rfl, rfl, rfl, rfl, rfl, rfl, rfl, rfl, rfl, rfl, rfl, rfl, rfl, rfl, trivial⟩ ⟨rfl, rfl, rfl, trivial⟩
                obtain ⟨F, hS⟩ := hS
                try dsimp only [RS.sub, SF.sub, CF.sub, csub, Anc.sub, stCells, List.map, List.length_cons, List.length_nil, Nat.reduceAdd, List.drop_succ_cons, List.drop_zero, List.drop_nil, List.take_succ_cons, List.take_zero, List.take_nil, List.cons_append, List.nil_append, zCF, ldSF] at hS
                refine then_n ?_
                rw [map_take_next (by omega)] at hS
                replace hS := hS.ent (i := 41) (s' := .pv (.int .i64 ((i + 1 : Nat) : Int))) rfl (.int (wrap_succ (by omega)))
                replace hS := hS.norm [(2, _), (6, _), (39, _), (40, _), (41, _)] [(0, _), (50, _), (101, _)] ⟨rfl, rfl, rfl, rfl, rfl, trivial⟩ ⟨rfl, rfl, rfl, trivial⟩
                obtain ⟨F, hS⟩ := hS
                exact ⟨(i + 1, v57), F, ⟨by dsimp only; omega, fun j hj => (Nat.lt_or_ge j i).elim (hz j) (fun h1 => (show i = j by dsimp only at hj; omega) ▸ hzi)⟩, hS, by dsimp only; omega⟩
            · skip
              have hi5 : i = 5 := by simp at hc5; omega
              have hdn := limR_done h0 h2 h6 (fun j hj => hz j (by omega))
              rw [show (((wordsR s0).1.drop 1).map fun x => (readR x).1).take i = (((wordsR s0).1.drop 1).map fun x => (readR x).1) by rw [hi5]; exact List.take_of_length_le (by rw [List.length_map]; omega)] at hS
              refine wp_exit ?_
              refine then_x ?_
              refine then_x ?_
              refine block_x ?_
              refine then_n ?_
              refine wp_seq ?_
              refine region_any (by kernel_rfl) hS (by kernel_rfl)
                  (Chain.cons (Cert.free rfl (o_move .t (by rfl))) ⟨rfl, trivial⟩ trivial
                  (Chain.cons (Cert.free rfl (o_indexAddr_row (sz := 1) 50 (.mk Tryd.underlying53 (by kernel_rfl)) .is (.ci (by kernel_rfl)) (by decide) (by rw [List.length_map, hd5]; decide) (by rfl))) ⟨rfl, trivial⟩ ⟨rfl, trivial⟩
                  (Chain.cons (Cert.free rfl (o_load_row0 (ag := false) (sz' := 1) (sz := 1) 50 .t (by intro x; rfl) (by rw [List.length_map, hd5]; decide) (by kernel_rfl) (by kernel_rfl) (by kernel_rfl))) ⟨rfl, trivial⟩ ⟨rfl, trivial⟩
                  (Chain.cons (Cert.free rfl (o_move .t (by rfl))) ⟨rfl, trivial⟩ trivial
                  (Chain.cons (Cert.free rfl (o_indexAddr_row (sz := 1) 50 (.mk Tryd.underlying53 (by kernel_rfl)) .is (.ci (by kernel_rfl)) (by decide) (by rw [List.length_map, hd5]; decide) (by rfl))) ⟨rfl, trivial⟩ ⟨rfl, trivial⟩
                  (Chain.cons (Cert.free rfl (o_load_row0 (ag := false) (sz' := 1) (sz := 1) 50 .t (by intro x; rfl) (by rw [List.length_map, hd5]; decide) (by kernel_rfl) (by kernel_rfl) (by kernel_rfl))) ⟨rfl, trivial⟩ ⟨rfl, trivial⟩
                  (Chain.cons (Cert.free rfl (o_move .t (by rfl))) ⟨rfl, trivial⟩ trivial
                  (Chain.cons (Cert.free rfl (o_indexAddr_row (sz := 1) 50 (.mk Tryd.underlying53 (by kernel_rfl)) .is (.ci (by kernel_rfl)) (by decide) (by rw [List.length_map, hd5]; decide) (by rfl))) ⟨rfl, trivial⟩ ⟨rfl, trivial⟩
                  (Chain.cons (Cert.free rfl (o_load_row0 (ag := false) (sz' := 1) (sz := 1) 50 .t (by intro x; rfl) (by rw [List.length_map, hd5]; decide) (by kernel_rfl) (by kernel_rfl) (by kernel_rfl))) ⟨rfl, trivial⟩ ⟨rfl, trivial⟩
                  (Chain.cons (Cert.free rfl (o_move .t (by rfl))) ⟨rfl, trivial⟩ trivial
                  (Chain.cons (Cert.free rfl (o_indexAddr_row (sz := 1) 50 (.mk Tryd.underlying53 (by kernel_rfl)) .is (.ci (by kernel_rfl)) (by decide) (by rw [List.length_map, hd5]; decide) (by rfl))) ⟨rfl, trivial⟩ ⟨rfl, trivial⟩
                  (Chain.cons (Cert.free rfl (o_load_row0 (ag := false) (sz' := 1) (sz := 1) 50 .t (by intro x; rfl) (by rw [List.length_map, hd5]; decide) (by kernel_rfl) (by kernel_rfl) (by kernel_rfl))) ⟨rfl, trivial⟩ ⟨rfl, trivial⟩
                  (Chain.cons (Cert.free rfl (o_move .t (by rfl))) ⟨rfl, trivial⟩ trivial
                  (Chain.cons (Cert.free rfl (o_indexAddr_row (sz := 1) 50 (.mk Tryd.underlying53 (by kernel_rfl)) .is (.ci (by kernel_rfl)) (by decide) (by rw [List.length_map, hd5]; decide) (by rfl))) ⟨rfl, trivial⟩ ⟨rfl, trivial⟩
                  (Chain.cons (Cert.free rfl (o_load_row0 (ag := false) (sz' := 1) (sz := 1) 50 .t (by intro x; rfl) (by rw [List.length_map, hd5]; decide) (by kernel_rfl) (by kernel_rfl) (by kernel_rfl))) ⟨rfl, trivial⟩ ⟨rfl, trivial⟩
                  (Chain.cons (Cert.free rfl (o_build (r := [(0, .tmp 61), (1, .tmp 64), (2, .tmp 67), (3, .tmp 70), (4, .tmp 73)]) (zs := [.int .i64 0, .int .i64 0, .int .i64 0, .int .i64 0, .int .i64 0]) (pl := [(0, 1), (1, 1), (2, 1), (3, 1), (4, 1)]) (by kernel_rfl) (by kernel_rfl) (.one rfl .t one_int (by kernel_rfl) (.one rfl .t one_int (by kernel_rfl) (.one rfl .t one_int (by kernel_rfl) (.one rfl .t one_int (by kernel_rfl) (.one rfl .t one_int (by kernel_rfl) .nil))))) (by rfl))) ⟨rfl, rfl, rfl, rfl, rfl, trivial⟩ trivial
                  (Chain.cons (Cert.free rfl (o_alloc (zs := [.int .i64 0, .int .i64 0, .int .i64 0, .int .i64 0, .int .i64 0]) 102 (by kernel_rfl))) trivial trivial
                  (Chain.cons (Cert.free rfl (o_storeA (sz := 5) 102 .same .t (by kernel_rfl) (by kernel_rfl) (by kernel_rfl))) ⟨rfl, rfl, trivial⟩ ⟨rfl, trivial⟩
                  Chain.nil))))))))))))))))))
                  (by kernel_rfl) (by rw [hB]; kernel_rfl) ?_
              clear hS; intro a w F hS
              replace hS := hS.sub
              replace hS := hS.norm [(2, _), (11, _)] [(0, _), (50, _), (101, _), (102, _)] ⟨rfl, rfl, trivial⟩ ⟨rfl, rfl, rfl, rfl, trivial⟩
              obtain ⟨F, hS⟩ := hS
              try dsimp only [RS.sub, SF.sub, CF.sub, csub, Anc.sub, stCells, List.map, List.length_cons, List.length_nil, Nat.reduceAdd, List.drop_succ_cons, List.drop_zero, List.drop_nil, List.take_succ_cons, List.take_zero, List.take_nil, List.cons_append, List.nil_append, zCF, ldSF] at hS
              generalize Act.tau a 11 = v11 at hS
              refine then_n ?_
              refine wp_seq ?_
              refine wp_seq ?_
              refine region_seq hS (by kernel_rfl)
                  (Chain.cons (Cert.free rfl (o_load (ag := true) (sz := 5) 102 .is (by kernel_rfl) (by kernel_rfl) (by kernel_rfl) (by rfl))) ⟨rfl, trivial⟩ ⟨rfl, trivial⟩
                  (Chain.cons (Cert.free rfl (o_callP (refRight_c (ofL (((wordsR s0).1.drop 1).map fun x => (readR x).1))) Tryd.func22 rfl (by kernel_rfl) (Args.one (.pagg .t)))) ⟨rfl, trivial⟩ trivial
                  (Chain.cons (Cert.free rfl (o_not .t)) ⟨rfl, trivial⟩ trivial
                  Chain.nil)))
                  (by kernel_rfl) (by rw [hB]; kernel_rfl) ?_
              clear hS; intro a w F hS
              replace hS := hS.norm [(2, _), (11, _), (77, _)] [(0, _), (50, _), (101, _), (102, _)] ⟨rfl, rfl, rfl, trivial⟩ ⟨rfl, rfl, rfl, rfl, trivial⟩
              obtain ⟨F, hS⟩ := hS
              try dsimp only [RS.sub, SF.sub, CF.sub, csub, Anc.sub, stCells, List.map, List.length_cons, List.length_nil, Nat.reduceAdd, List.drop_succ_cons, List.drop_zero, List.drop_nil, List.take_succ_cons, List.take_zero, List.take_nil, List.cons_append, List.nil_append, zCF, ldSF] at hS
              refine then_n ?_
              refine cond_b hS rfl (fun hc7 => ?_) (fun hc7 => ?_)
              · skip
                have hr : limR s0 = (zeroL, 1) := by rw [hdn, if_neg (by simpa using hc7)]
                refine wp_seq ?_
                refine region_seq hS (by kernel_rfl)
                    (Chain.cons (Cert.free rfl (o_build (r := []) (zs := [.int .i64 0, .int .i64 0, .int .i64 0, .int .i64 0, .int .i64 0]) (pl := [(0, 1), (1, 1), (2, 1), (3, 1), (4, 1)]) (by kernel_rfl) (by kernel_rfl) .nil (by rfl))) trivial trivial
                    (Chain.cons (Cert.free rfl (o_storeA (sz := 5) 101 .is .t (by kernel_rfl) (by kernel_rfl) (by kernel_rfl))) ⟨rfl, rfl, trivial⟩ ⟨rfl, trivial⟩
                    (Chain.cons (Cert.free rfl (o_assign (.ci (by kernel_rfl)) (by rfl))) trivial trivial
                    Chain.nil)))
                    (by kernel_rfl) (by rw [hB]; kernel_rfl) ?_
                clear hS; intro a w F hS
                replace hS := hS.norm [(2, _), (3, _), (11, _)] [(0, _), (50, _), (101, _), (102, _)] ⟨rfl, rfl, rfl, trivial⟩ ⟨rfl, rfl, rfl, rfl, trivial⟩
                obtain ⟨F, hS⟩ := hS
                try dsimp only [RS.sub, SF.sub, CF.sub, csub, Anc.sub, stCells, List.map, List.length_cons, List.length_nil, Nat.reduceAdd, List.drop_succ_cons, List.drop_zero, List.drop_nil, List.take_succ_cons, List.take_zero, List.take_nil, List.cons_append, List.nil_append, zCF, ldSF] at hS
                refine then_n ?_
                refine wp_ret ?_
                refine then_r ?_
                refine ret_P hfr hS rfl (.cell (n := 101) (ag := true) (sz := 5) rfl .is rfl (by kernel_rfl) (by kernel_rfl) (by kernel_rfl) (.tmp rfl .nil)) (.two (.aggU rfl (by rw [hr] <;> rfl)) (.int (by rw [hr])))
              · skip
                have hr : limR s0 = (ofL (((wordsR s0).1.drop 1).map fun x => (readR x).1), 0) := by rw [hdn, if_pos (by simpa using hc7)]
                refine wp_skip ?_
                refine then_n ?_
                refine wp_seq ?_
                refine region_seq hS (by kernel_rfl)
                    (Chain.cons (Cert.free rfl (o_load (ag := true) (sz := 5) 102 .is (by kernel_rfl) (by kernel_rfl) (by kernel_rfl) (by rfl))) ⟨rfl, trivial⟩ ⟨rfl, trivial⟩
                    (Chain.cons (Cert.free rfl (o_storeA (sz := 5) 101 .is .t (by kernel_rfl) (by kernel_rfl) (by kernel_rfl))) ⟨rfl, rfl, trivial⟩ ⟨rfl, trivial⟩
                    (Chain.cons (Cert.free rfl (o_assign (.ci (by kernel_rfl)) (by rfl))) trivial trivial
                    Chain.nil)))
                    (by kernel_rfl) (by rw [hB]; kernel_rfl) ?_
                clear hS; intro a w F hS
                replace hS := hS.norm [(2, _), (3, _)] [(0, _), (50, _), (101, _)] ⟨rfl, rfl, trivial⟩ ⟨rfl, rfl, rfl, trivial⟩
                obtain ⟨F, hS⟩ := hS
                try dsimp only [RS.sub, SF.sub, CF.sub, csub, Anc.sub, stCells, List.map, List.length_cons, List.length_nil, Nat.reduceAdd, List.drop_succ_cons, List.drop_zero, List.drop_nil, List.take_succ_cons, List.take_zero, List.take_nil, List.cons_append, List.nil_append, zCF, ldSF] at hS
                refine then_n ?_
                refine wp_ret ?_
                refine ret_P hfr hS rfl (.cell (n := 101) (ag := true) (sz := 5) rfl .is rfl (by kernel_rfl) (by kernel_rfl) (by kernel_rfl) (.tmp rfl .nil)) (.two (.aggU rfl (by rw [hr] <;> rfl)) (.int (by rw [hr])))

end Go.Proofs.YtfldilhddeabeaaDoor
