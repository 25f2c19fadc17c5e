/- The document's commands of lines. No condition beyond those that each theorem says. -/
import Derived.Test.YtjdcnjemhjldoaaGreatDoorCr1
import Derived.Test.YtjdcnjemhjldoaaGreatDoorCm5
import Derived.Test.YtjdcnjemhjldoaaGreatDoorLx5
namespace Go.Proofs.YtjdcnjemhjldoaaGreatDoor
open Go Go.Gm
set_option linter.unusedVariables false
set_option linter.unusedSimpArgs false
set_option maxHeartbeats 4000000
set_option maxRecDepth 8000


theorem refTx_c (l : List (List UInt8)) (hs : ∀ x ∈ l, x.length ≤ 1000000) (hn : l.length ≤ 1000000) (h2 : 2 ≤ l.length) (hl4 : ¬ 4097 < l.length) : FnP Tryz.prog 23 [.sl rS l] (.tup [.agg (rTx (txR l).1), .int .i64 (txR l).2]) := by
  refine FnP.mk Tryz.func23 rfl Tryz.ntmps23 rfl ?_
  intro B a w F hB hfr hS
  have hd2 : (l.drop 2).length = l.length - 2 := by rw [List.length_drop]
  refine wp_seq ?_
  refine region_seq hS (by kernel_rfl)
    (cF rfl (o_alloc (zs := [.int .i64 0, .bool false, .slice none 0 0]) 101 (by kernel_rfl)) trivial trivial
    (cF rfl (o_assign (.ci (by kernel_rfl)) (by rfl)) trivial trivial
    Chain.nil))
    (by kernel_rfl) (by rw [hB]; kernel_rfl) ?_
  clear hS; intro a w F hS
  replace hS := hS.sub
  obtain ⟨F, hS⟩ := hS.norm [(0, _), (2, _), (3, _)] [(0, _), (101, _)] r3 r2
  try dsimp only [RS.sub, SF.sub, CF.sub, csub, Anc.sub, List.map, zCF] at hS
  generalize Act.tau a 2 = v2 at hS
  refine then_n ?_
  refine wp_seq ?_
  refine region_seq hS (by kernel_rfl)
    (cF rfl (o_move .t (by rfl)) r1 trivial
    (cF rfl (o_indexAddr_sl (sz := 1) (.mk Tryz.underlying40 (by kernel_rfl)) (by intro x; rfl) .t (.ci (by kernel_rfl)) (by decide) (by omega)) r1 trivial
    (cF rfl (o_load_ref (ag := false) (sz := 1) .t (by kernel_rfl) (by kernel_rfl) (by kernel_rfl)) r1 trivial
    (cF rfl (o_callP (refRead_c (nth l 0) (by have h9 := hs _ (nth_mem (show 0 < l.length by omega)); omega)) Tryz.func49 rfl (by kernel_rfl) (Args.one .t)) r1 trivial
    (cF rfl (o_move .t (by rfl)) r1 trivial
    (cF rfl (o_extract .t rfl) r1 trivial
    (cF rfl (o_extract .t rfl) r1 trivial
    (cF rfl (o_assign .t (by rfl)) r1 trivial
    (cF rfl (o_assign .t (by rfl)) r1 trivial
    Chain.nil)))))))))
    (by kernel_rfl) (by rw [hB]; kernel_rfl) ?_
  clear hS; intro a w F hS
  obtain ⟨F, hS⟩ := hS.norm [(0, _), (2, _), (3, _), (4, _), (5, _)] [(0, _), (101, _)] r5 r2
  try dsimp only [List.map, List.drop_succ_cons, List.drop_zero, List.drop_nil, List.take_succ_cons, List.take_zero, List.take_nil, ldSF] at hS
  refine then_n ?_
  refine wp_seq ?_
  refine wp_seq ?_
  refine region_seq hS (by kernel_rfl)
    (cF rfl (o_move .t (by rfl)) r1 trivial
    (cF rfl (o_neq .t (.ci (by kernel_rfl))) r1 trivial
    Chain.nil))
    (by kernel_rfl) (by rw [hB]; kernel_rfl) ?_
  clear hS; intro a w F hS
  obtain ⟨F, hS⟩ := hS.norm [(0, _), (2, _), (3, _), (4, _), (5, _), (19, _)] [(0, _), (101, _)] r6 r2
  refine then_n ?_
  refine cond_b hS rfl (fun hc0 => ?_) (fun hc0 => ?_)
  ·skip
   have hw : (readR (nth l 0)).2 ≠ 0 := by simpa using hc0
   have hr : txR l = (zeroT, (readR (nth l 0)).2) := by unfold txR; rw [if_neg hl4, if_pos hw]
   refine wp_seq ?_
   refine region_seq hS (by kernel_rfl)
     (cF rfl (o_build (r := []) (zs := [.int .i64 0, .bool false, .slice none 0 0]) (pl := [(0, 1), (1, 1), (2, 1)]) (by kernel_rfl) (by kernel_rfl) .nil (by rfl)) trivial trivial
     (cF rfl (o_move .t (by rfl)) r1 trivial
     (cF rfl (o_storeA (sz := 3) 101 .is .t (by kernel_rfl) (by kernel_rfl) (by kernel_rfl)) r2 r1
     (cF rfl (o_assign .t (by rfl)) r1 trivial
     Chain.nil))))
     (by kernel_rfl) (by rw [hB]; kernel_rfl) ?_
   clear hS; intro a w F hS
   obtain ⟨F, hS⟩ := hS.norm [(0, _), (2, _), (3, _), (4, _)] [(0, _), (101, _)] r4 r2
   try dsimp only [List.map, stCells, List.length_cons, List.length_nil, Nat.reduceAdd, List.drop_succ_cons, List.drop_zero, List.drop_nil, List.take_succ_cons, List.take_zero, List.take_nil, List.cons_append, List.nil_append, zCF] at hS
   refine then_n ?_
   refine wp_ret ?_
   refine then_r ?_
   refine ret_P hfr hS rfl (.cell (n := 101) (ag := true) (sz := 3) rfl .is rfl (by kernel_rfl) (by kernel_rfl) (by kernel_rfl) (.tmp rfl .nil)) (.two (.aggLe rfl (by rw [hr]; exact ⟨.refl, .refl, .nilSl, trivial⟩)) (.int (by rw [hr])))
  ·skip
   have h0 : ¬ (readR (nth l 0)).2 ≠ 0 := by simpa using hc0
   refine wp_skip ?_
   refine then_n ?_
   refine wp_seq ?_
   refine wp_seq ?_
   refine region_seq hS (by kernel_rfl)
     (cF rfl (o_move .t (by rfl)) r1 trivial
     (cF rfl (o_indexAddr_sl (sz := 1) (.mk Tryz.underlying40 (by kernel_rfl)) (by intro x; rfl) .t (.ci (by kernel_rfl)) (by decide) (by omega)) r1 trivial
     (cF rfl (o_load_ref (ag := false) (sz := 1) .t (by kernel_rfl) (by kernel_rfl) (by kernel_rfl)) r1 trivial
     (cF rfl (o_neq_bs Tryz.underlying9 .t (.cs (by kernel_rfl))) r1 trivial
     (cF rfl (o_move .t (by rfl)) r1 trivial
     (Chain.cons (Cert.cond rfl rfl (fun h => o_move .t (by rfl))) r2 trivial
     (Chain.cons (Cert.cond rfl rfl (fun h => o_indexAddr_sl (sz := 1) (.mk Tryz.underlying40 (by kernel_rfl)) (by intro x; rfl) (.w h) (.ci (by kernel_rfl)) (by decide) (by omega))) r2 trivial
     (Chain.cons (Cert.cond rfl rfl (fun h => o_load_ref (ag := false) (sz := 1) (.w h) (by kernel_rfl) (by kernel_rfl) (by kernel_rfl))) r2 trivial
     (Chain.cons (Cert.cond rfl rfl (fun h => o_neq_bs Tryz.underlying9 (.w h) (.cs (by kernel_rfl)))) r2 trivial
     (cF rfl (o_and2 .t .t) r2 trivial
     Chain.nil))))))))))
     (by kernel_rfl) (by rw [hB]; kernel_rfl) ?_
   clear hS; intro a w F hS
   obtain ⟨F, hS⟩ := hS.norm [(0, _), (2, _), (3, _), (4, _), (31, _)] [(0, _), (101, _)] r5 r2
   try dsimp only [List.map, List.drop_succ_cons, List.drop_zero, List.drop_nil, List.take_succ_cons, List.take_zero, List.take_nil, ldSF] at hS
   refine then_n ?_
   refine cond_b hS rfl (fun hc1 => ?_) (fun hc1 => ?_)
   ·skip
    have h1 : nth l 1 ≠ [99] ∧ nth l 1 ≠ [97] := by simpa using hc1
    have hr : txR l = (zeroT, 11) := by unfold txR; rw [if_neg hl4, if_neg h0, if_pos h1]
    refine wp_seq ?_
    refine region_seq hS (by kernel_rfl)
      (cF rfl (o_build (r := []) (zs := [.int .i64 0, .bool false, .slice none 0 0]) (pl := [(0, 1), (1, 1), (2, 1)]) (by kernel_rfl) (by kernel_rfl) .nil (by rfl)) trivial trivial
      (cF rfl (o_storeA (sz := 3) 101 .is .t (by kernel_rfl) (by kernel_rfl) (by kernel_rfl)) r2 r1
      (cF rfl (o_assign (.ci (by kernel_rfl)) (by rfl)) trivial trivial
      Chain.nil)))
      (by kernel_rfl) (by rw [hB]; kernel_rfl) ?_
    clear hS; intro a w F hS
    obtain ⟨F, hS⟩ := hS.norm [(0, _), (2, _), (3, _), (4, _)] [(0, _), (101, _)] r4 r2
    try dsimp only [List.map, stCells, List.length_cons, List.length_nil, Nat.reduceAdd, List.drop_succ_cons, List.drop_zero, List.drop_nil, List.take_succ_cons, List.take_zero, List.take_nil, List.cons_append, List.nil_append, zCF] at hS
    refine then_n ?_
    refine wp_ret ?_
    refine then_r ?_
    refine ret_P hfr hS rfl (.cell (n := 101) (ag := true) (sz := 3) rfl .is rfl (by kernel_rfl) (by kernel_rfl) (by kernel_rfl) (.tmp rfl .nil)) (.two (.aggLe rfl (by rw [hr]; exact ⟨.refl, .refl, .nilSl, trivial⟩)) (.int (by rw [hr])))
   ·skip
    have h1 : ¬ (nth l 1 ≠ [99] ∧ nth l 1 ≠ [97]) := by
      rintro ⟨g1, g2⟩
      rw [Bool.eq_false_iff] at hc1
      refine hc1 ?_
      simp only [Bool.and_eq_true, Bool.not_eq_true', decide_eq_false_iff_not]
      exact ⟨g1, g2⟩
    refine wp_skip ?_
    refine then_n ?_
    refine wp_seq ?_
    refine region_seq hS (by kernel_rfl)
      (cF rfl (o_move .t (by rfl)) r1 trivial
      (cF rfl (o_move .t (by rfl)) r1 trivial
      (cF rfl (o_indexAddr_sl (sz := 1) (.mk Tryz.underlying40 (by kernel_rfl)) (by intro x; rfl) .t (.ci (by kernel_rfl)) (by decide) (by omega)) r1 trivial
      (cF rfl (o_load_ref (ag := false) (sz := 1) .t (by kernel_rfl) (by kernel_rfl) (by kernel_rfl)) r1 trivial
      (cF rfl (o_eql_bs Tryz.underlying9 .t (.cs (by kernel_rfl))) r1 trivial
      (cF rfl (o_build (r := [(0, .tmp 33), (1, .tmp 37)]) (zs := [.int .i64 0, .bool false, .slice none 0 0]) (pl := [(0, 1), (1, 1), (2, 1)]) (by kernel_rfl) (by kernel_rfl) (.one rfl .t one_int (by kernel_rfl) (.one rfl .t one_bool (by kernel_rfl) .nil)) (by rfl)) r2 trivial
      (cF rfl (o_alloc (zs := [.int .i64 0, .bool false, .slice none 0 0]) 102 (by kernel_rfl)) trivial trivial
      (cF rfl (o_storeA (sz := 3) 102 .same .t (by kernel_rfl) (by kernel_rfl) (by kernel_rfl)) r2 r1
      Chain.nil))))))))
      (by kernel_rfl) (by rw [hB]; kernel_rfl) ?_
    clear hS; intro a w F hS
    replace hS := hS.sub
    obtain ⟨F, hS⟩ := hS.norm [(0, _), (2, _), (3, _), (6, _)] [(0, _), (101, _), (102, _)] r4 r3
    try dsimp only [RS.sub, SF.sub, CF.sub, csub, Anc.sub, List.map, stCells, List.length_cons, List.length_nil, Nat.reduceAdd, List.drop_succ_cons, List.drop_zero, List.drop_nil, List.take_succ_cons, List.take_zero, List.take_nil, List.cons_append, List.nil_append, zCF, ldSF] at hS
    generalize Act.tau a 6 = v6 at hS
    refine then_n ?_
    refine wp_seq ?_
    refine wp_seq ?_
    refine region_seq hS (by kernel_rfl)
      (cF rfl (o_move .t (by rfl)) r1 trivial
      (cF rfl (o_slice_lo (sz := 1) (.mk Tryz.underlying40 (by kernel_rfl)) (by intro x; rfl) .t (.ci (by kernel_rfl)) (by decide) (by omega)) r1 trivial
      (cF rfl (o_len_sl Tryz.underlying40 .t) r1 trivial
      (cF rfl (o_move (.ci (by kernel_rfl)) (by rfl)) trivial trivial
      Chain.nil))))
      (by kernel_rfl) (by rw [hB]; kernel_rfl) ?_
    clear hS; intro a w F hS
    obtain ⟨F, hS⟩ := hS.norm [(2, _), (3, _), (6, _), (40, _), (41, _), (42, _)] [(0, _), (101, _), (102, _)] r6 r3
    refine then_n ?_
    refine wp_block ?_
    replace hS := hS.fresh 50 rfl
    replace hS := hS.turn 50 rfl (nilRow (T := 59) (sz := 4) (R := rOp))
    obtain ⟨F, hS⟩ := hS.norm [(2, _), (6, _), (40, _), (41, _), (42, _)] [(0, _), (50, _), (101, _), (102, _)] r5 r4
    refine loop_inv (σ := (Nat × Value)) (fun s => (⟨[(2, .pv (.is v2)), (6, .pv (.is v6)), (40, .pv (.sl rS (l.drop 2))), (41, .pv (.int .i64 ((l.drop 2).length : Nat))), (42, .pv (.int .i64 (s.1 : Nat)))], [(0, frame B), (50, .ob (.val s.2) (rowH 59 4 rOp ((opsR (l.drop 2)).take s.1))), (101, .pt (.val v2) 24 [.pv (.int .i64 0), .pv (.bool false), .pv (.is (.slice none 0 0))]), (102, .pt (.val v6) 24 [.pv (.int .i64 (readR (nth l 0)).1), .pv (.bool (decide (nth l 1 = [99]))), .pv (.is s.2)])]⟩ : En)) (fun s => s.1 ≤ (l.drop 2).length ∧ ∀ j, j < s.1 → (opR (nth (l.drop 2) j)).2 = 0) (fun s => (l.drop 2).length - s.1) (0, .slice none 0 0) hS ⟨Nat.zero_le _, fun j hj => absurd hj (Nat.not_lt_zero _)⟩ ?_
    clear hS; intro s a w F hC hS
    obtain ⟨i, v⟩ := s
    try dsimp only at hC
    try dsimp only at hS
    obtain ⟨hi0, hz⟩ := hC
    try dsimp only at hi0 hz
    refine wp_seq ?_
    refine region_seq hS (by kernel_rfl)
      (cF rfl (o_lss .t .t) r2 trivial
      Chain.nil)
      (by kernel_rfl) (by rw [hB]; kernel_rfl) ?_
    clear hS; intro a w F hS
    obtain ⟨F, hS⟩ := hS.norm [(2, _), (6, _), (40, _), (41, _), (42, _), (43, _)] [(0, _), (50, _), (101, _), (102, _)] r6 r4
    refine then_n ?_
    refine wp_seq ?_
    refine cond_b hS rfl (fun hc2 => ?_) (fun hc2 => ?_)
    ·skip
     have hi : i < (l.drop 2).length := by have h9 := of_decide_eq_true hc2; omega
     refine wp_skip ?_
     refine then_n ?_
     refine wp_seq ?_
     refine wp_block ?_
     refine wp_seq ?_
     refine region_seq hS (by kernel_rfl)
       (cF rfl (o_indexAddr_sl (sz := 1) (.mk Tryz.underlying40 (by kernel_rfl)) (by intro x; rfl) .t .t (by omega) (by omega)) r2 trivial
       (cF rfl (o_load_ref (ag := false) (sz := 1) .t (by kernel_rfl) (by kernel_rfl) (by kernel_rfl)) r1 trivial
       (cF rfl (o_assign .t (by rfl)) r1 trivial
       Chain.nil)))
       (by kernel_rfl) (by rw [hB]; kernel_rfl) ?_
     clear hS; intro a w F hS
     obtain ⟨F, hS⟩ := hS.norm [(2, _), (6, _), (8, _), (40, _), (41, _), (42, _), (43, _), (44, _), (45, _)] [(0, _), (50, _), (101, _), (102, _)] ⟨rfl, rfl, rfl, rfl, rfl, rfl, rfl, rfl, rfl, trivial⟩ r4
     try dsimp only [List.map, List.drop_succ_cons, List.drop_zero, List.drop_nil, List.take_succ_cons, List.take_zero, List.take_nil, ldSF] at hS
     rw [Int.toNat_natCast] at hS
     refine then_n ?_
     refine wp_seq ?_
     refine region_seq hS (by kernel_rfl)
       (cF rfl (o_move .t (by rfl)) r1 trivial
       (cF rfl (o_callP (refOpRead_c (nth (l.drop 2) i) (by have h9 := hs _ (List.mem_of_mem_drop (nth_mem hi)); omega)) Tryz.func50 rfl (by kernel_rfl) (Args.one .t)) r1 trivial
       (cF rfl (o_move .t (by rfl)) r1 trivial
       (cF rfl (o_extract .t rfl) r1 trivial
       (cF rfl (o_extract .t rfl) r1 trivial
       (cF rfl (o_alloc (zs := [.bool false, .int .i64 0, .int .i64 0, .int .i64 0]) 103 (by kernel_rfl)) trivial trivial
       (cF rfl (o_storeA (sz := 4) 103 .same (.conv .t .agg) (by kernel_rfl) (by kernel_rfl) (by kernel_rfl)) r2 r1
       (cF rfl (o_assign .t (by rfl)) r1 trivial
       Chain.nil))))))))
       (by kernel_rfl) (by rw [hB]; kernel_rfl) ?_
     clear hS; intro a w F hS
     replace hS := hS.sub
     obtain ⟨F, hS⟩ := hS.norm [(2, _), (6, _), (8, _), (9, _), (10, _), (40, _), (41, _), (42, _), (43, _), (44, _), (45, _), (46, _), (47, _), (48, _), (49, _), (50, _)] [(0, _), (50, _), (101, _), (102, _), (103, _)] ⟨rfl, rfl, rfl, rfl, rfl, rfl, rfl, rfl, rfl, rfl, rfl, rfl, rfl, rfl, rfl, rfl, trivial⟩ r5
     try dsimp only [RS.sub, SF.sub, CF.sub, csub, Anc.sub, List.map, stCells, List.length_cons, List.length_nil, Nat.reduceAdd, List.drop_succ_cons, List.drop_zero, List.drop_nil, List.take_succ_cons, List.take_zero, List.take_nil, List.cons_append, List.nil_append, zCF] at hS
     generalize Act.tau a 9 = v9 at hS
     refine then_n ?_
     refine wp_seq ?_
     refine wp_seq ?_
     refine region_seq hS (by kernel_rfl)
       (cF rfl (o_move .t (by rfl)) r1 trivial
       (cF rfl (o_neq .t (.ci (by kernel_rfl))) r1 trivial
       Chain.nil))
       (by kernel_rfl) (by rw [hB]; kernel_rfl) ?_
     clear hS; intro a w F hS
     obtain ⟨F, hS⟩ := hS.norm [(2, _), (6, _), (8, _), (9, _), (10, _), (40, _), (41, _), (42, _), (43, _), (44, _), (45, _), (46, _), (47, _), (48, _), (49, _), (50, _), (51, _), (52, _)] [(0, _), (50, _), (101, _), (102, _), (103, _)] ⟨rfl, rfl, rfl, rfl, rfl, rfl, rfl, rfl, rfl, rfl, rfl, rfl, rfl, rfl, rfl, rfl, rfl, rfl, trivial⟩ r5
     refine then_n ?_
     refine cond_b hS rfl (fun hc3 => ?_) (fun hc3 => ?_)
     ·skip
      have hw : (opR (nth (l.drop 2) i)).2 ≠ 0 := by simpa using hc3
      have hb := badO_at hi hz hw
      have hr : txR l = (zeroT, (opR (nth (l.drop 2) i)).2) := by unfold txR; rw [if_neg hl4, if_neg h0, if_neg h1, if_pos (by rw [hb]; exact hw), hb]
      refine wp_seq ?_
      refine region_seq hS (by kernel_rfl)
        (cF rfl (o_build (r := []) (zs := [.int .i64 0, .bool false, .slice none 0 0]) (pl := [(0, 1), (1, 1), (2, 1)]) (by kernel_rfl) (by kernel_rfl) .nil (by rfl)) trivial trivial
        (cF rfl (o_move .t (by rfl)) r1 trivial
        (cF rfl (o_storeA (sz := 3) 101 .is .t (by kernel_rfl) (by kernel_rfl) (by kernel_rfl)) r2 r1
        (cF rfl (o_assign .t (by rfl)) r1 trivial
        Chain.nil))))
        (by kernel_rfl) (by rw [hB]; kernel_rfl) ?_
      clear hS; intro a w F hS
      obtain ⟨F, hS⟩ := hS.norm [(2, _), (3, _), (6, _), (8, _), (9, _), (10, _), (40, _), (41, _), (42, _), (43, _), (44, _), (45, _), (46, _), (47, _), (48, _), (49, _), (50, _), (51, _), (52, _), (53, _), (54, _)] [(0, _), (50, _), (101, _), (102, _), (103, _)] ⟨rfl, rfl, rfl, rfl, rfl, rfl, rfl, rfl, rfl, rfl, rfl, rfl, rfl, rfl, rfl, rfl, rfl, rfl, rfl, rfl, rfl, trivial⟩ r5
      try dsimp only [List.map, stCells, List.length_cons, List.length_nil, Nat.reduceAdd, List.drop_succ_cons, List.drop_zero, List.drop_nil, List.take_succ_cons, List.take_zero, List.take_nil, List.cons_append, List.nil_append, zCF] at hS
      refine then_n ?_
      refine wp_ret ?_
      refine then_r ?_
      refine block_r ?_
      refine then_r ?_
      refine then_r ?_
      refine block_r ?_
      refine then_r ?_
      refine ret_P hfr hS rfl (.cell (n := 101) (ag := true) (sz := 3) rfl .is rfl (by kernel_rfl) (by kernel_rfl) (by kernel_rfl) (.tmp rfl .nil)) (.two (.aggLe rfl (by rw [hr]; exact ⟨.refl, .refl, .nilSl, trivial⟩)) (.int (by rw [hr])))
     ·skip
      have hzi : (opR (nth (l.drop 2) i)).2 = 0 := by simpa using hc3
      refine wp_skip ?_
      refine then_n ?_
      refine region_seq hS (by kernel_rfl)
        (cF rfl (o_fieldAddr (off := 2) 102 .is (by kernel_rfl) (by rfl)) r1 r1
        (cF rfl (o_load (ag := false) (sz := 1) 102 .adr (by kernel_rfl) (by kernel_rfl) (by kernel_rfl) (by rfl)) r1 r1
        (cF rfl (o_load (ag := true) (sz := 4) 103 .is (by kernel_rfl) (by kernel_rfl) (by kernel_rfl) (by rfl)) r1 r1
        (cF rfl (o_buildSliceE (sz := 4) (zs := [.bool false, .int .i64 0, .int .i64 0, .int .i64 0]) (r := [(0, .tmp 57)]) (l := [_, _, _, _]) Tryz.underlying22 (by kernel_rfl) (by kernel_rfl) (by kernel_rfl) (by kernel_rfl) rfl rfl (.agg rfl .t (by kernel_rfl) (by kernel_rfl) .nil) rfl) r1 trivial
        (cF rfl (o_append (sz := 4) (bs := 32) 50 (.mk' Tryz.underlying22 (by kernel_rfl) (by kernel_rfl)) (by intro x; rfl) .is (.arr (l' := [(opR (nth (l.drop 2) i)).1]) .t) (by simp only [List.length_cons, List.length_nil, List.length_take]; unfold opsR; rw [List.length_map]; omega) (by decide)) ⟨rfl, rfl, trivial⟩ ⟨rfl, trivial⟩
        (cF rfl (o_fieldAddr (off := 2) 102 .is (by kernel_rfl) (by rfl)) r1 r1
        (cF rfl (o_storeS 102 .adr (by kernel_rfl) (by kernel_rfl)) r2 r1
        Chain.nil)))))))
        (by kernel_rfl) (by rw [hB]; kernel_rfl) ?_
      clear hS; intro a w F hS
      replace hS := hS.sub
      obtain ⟨F, hS⟩ := hS.norm [(2, _), (6, _), (8, _), (9, _), (10, _), (40, _), (41, _), (42, _), (43, _), (44, _), (45, _), (46, _), (47, _), (48, _), (49, _), (50, _), (51, _), (52, _), (55, _), (56, _), (57, _), (58, _), (59, _), (60, _)] [(0, _), (50, _), (101, _), (102, _), (103, _)] ⟨rfl, rfl, rfl, rfl, rfl, rfl, rfl, rfl, rfl, rfl, rfl, rfl, rfl, rfl, rfl, rfl, rfl, rfl, rfl, rfl, rfl, rfl, rfl, rfl, trivial⟩ r5
      try dsimp only [RS.sub, SF.sub, CF.sub, csub, Anc.sub, List.map, stCells, List.length_cons, List.length_nil, Nat.reduceAdd, List.drop_succ_cons, List.drop_zero, List.drop_nil, List.take_succ_cons, List.take_zero, List.take_nil, List.cons_append, List.nil_append, zCF, ldSF] at hS
      generalize Act.tau a 59 = v59 at hS
      refine block_n ?_
      refine then_n ?_
      refine region_seq hS (by kernel_rfl)
        (cF rfl (o_add .t (.ci (by kernel_rfl))) r1 trivial
        (cF rfl (o_move .t (by rfl)) r1 trivial
        Chain.nil))
        (by kernel_rfl) (by rw [hB]; kernel_rfl) ?_
      clear hS; intro a w F hS
      obtain ⟨F, hS⟩ := hS.norm [(2, _), (6, _), (8, _), (9, _), (10, _), (40, _), (41, _), (42, _), (43, _), (44, _), (45, _), (46, _), (47, _), (48, _), (49, _), (50, _), (51, _), (52, _), (55, _), (56, _), (57, _), (58, _), (59, _), (60, _), (61, _)] [(0, _), (50, _), (101, _), (102, _), (103, _)] ⟨rfl, rfl, rfl, rfl, rfl, rfl, rfl, rfl, rfl, rfl, rfl, rfl, rfl, rfl, rfl, rfl, rfl, rfl, rfl, rfl, rfl, rfl, rfl, rfl, rfl, trivial⟩ r5
      refine then_n ?_
      rw [show (opsR (l.drop 2)).take i ++ [(opR (nth (l.drop 2) i)).1] = (opsR (l.drop 2)).take (i + 1) from map_take_next (f := fun x => (opR x).1) (by omega)] at hS
      replace hS := hS.ent (i := 42) (s' := .pv (.int .i64 ((i + 1 : Nat) : Int))) rfl (.int (wrap_succ (by omega)))
      obtain ⟨F, hS⟩ := hS.norm [(2, _), (6, _), (40, _), (41, _), (42, _)] [(0, _), (50, _), (101, _), (102, _)] r5 r4
      exact ⟨(i + 1, v59), F, ⟨by dsimp only; omega, fun j hj => (Nat.lt_or_ge j i).elim (hz j) (fun h1 => (show i = j by dsimp only at hj; omega) ▸ hzi)⟩, hS, by dsimp only; omega⟩
    ·skip
     have hil : i = (l.drop 2).length := by have h9 := of_decide_eq_false hc2; omega
     have hbz := badO_none (l := (l.drop 2)) (fun j hj => hz j (by omega))
     have hr : txR l = (⟨(readR (nth l 0)).1, decide (nth l 1 = [99]), opsR (l.drop 2)⟩, 0) := by unfold txR; rw [if_neg hl4, if_neg h0, if_neg h1, if_neg (by rw [hbz]; decide)]
     rw [show (opsR (l.drop 2)).take i = opsR (l.drop 2) from List.take_of_length_le (by unfold opsR; rw [List.length_map]; omega)] at hS
     refine wp_exit ?_
     refine then_x ?_
     refine then_x ?_
     refine block_x ?_
     refine then_n ?_
     refine wp_seq ?_
     obtain ⟨F, hS⟩ := hS.giveCell 50 102 2 rfl rfl rfl rfl rfl
     try dsimp only [List.set] at hS
     obtain ⟨F, hS⟩ := hS.norm [(2, _), (6, _), (40, _), (41, _), (42, _), (43, _)] [(0, _), (101, _), (102, _)] r6 r3
     refine region_seq hS (by kernel_rfl)
       (cF rfl (o_load (ag := true) (sz := 3) 102 .is (by kernel_rfl) (by kernel_rfl) (by kernel_rfl) (by rfl)) r1 r1
       (cF rfl (o_storeA (sz := 3) 101 .is .t (by kernel_rfl) (by kernel_rfl) (by kernel_rfl)) r2 r1
       (cF rfl (o_assign (.ci (by kernel_rfl)) (by rfl)) trivial trivial
       Chain.nil)))
       (by kernel_rfl) (by rw [hB]; kernel_rfl) ?_
     clear hS; intro a w F hS
     obtain ⟨F, hS⟩ := hS.norm [(2, _), (3, _)] [(0, _), (101, _), (102, _)] r2 r3
     try dsimp only [List.map, stCells, List.length_cons, List.length_nil, Nat.reduceAdd, List.drop_succ_cons, List.drop_zero, List.drop_nil, List.take_succ_cons, List.take_zero, List.take_nil, List.cons_append, List.nil_append, zCF, ldSF] at hS
     refine then_n ?_
     refine wp_ret ?_
     refine ret_P hfr hS rfl (.cell (n := 101) (ag := true) (sz := 3) rfl .is rfl (by kernel_rfl) (by kernel_rfl) (by kernel_rfl) (.tmp rfl .nil)) (.two (.aggU rfl (by rw [hr] <;> rfl)) (.int (by rw [hr])))

theorem refParse_c (s0 : List UInt8) (hs : s0.length ≤ 1000000) : FnP Tryz.prog 6 [.bs s0] (.tup [.agg (rCmd (parseR s0).1), .int .i64 (parseR s0).2]) := by
  refine FnP.mk Tryz.func6 rfl Tryz.ntmps6 rfl ?_
  intro B a w F hB hfr hS
  have hws := words_small s0
  refine wp_seq ?_
  refine region_seq hS (by kernel_rfl)
    (cF rfl (o_alloc (zs := [.int .i64 0, .int .i64 0, .bool false, .slice none 0 0, .int .i64 0, .slice none 0 0, .int .i64 0, .int .i64 0, .int .i64 0, .int .i64 0]) 101 (by kernel_rfl)) trivial trivial
    (cF rfl (o_assign (.ci (by kernel_rfl)) (by rfl)) trivial trivial
    Chain.nil))
    (by kernel_rfl) (by rw [hB]; kernel_rfl) ?_
  clear hS; intro a w F hS
  replace hS := hS.sub
  obtain ⟨F, hS⟩ := hS.norm [(0, _), (2, _), (3, _)] [(0, _), (101, _)] r3 r2
  try dsimp only [RS.sub, SF.sub, CF.sub, csub, Anc.sub, List.map, zCF, rCmd] at hS
  generalize Act.tau a 2 = v2 at hS
  refine then_n ?_
  refine wp_seq ?_
  refine region_seq hS (by kernel_rfl)
    (cF rfl (o_move .t (by rfl)) r1 trivial
    (cF rfl (o_callP (refLWords_c s0 hs) Tryz.func19 rfl (by kernel_rfl) (Args.one .t)) r1 trivial
    (cF rfl (o_move .t (by rfl)) r1 trivial
    (cF rfl (o_extract .t rfl) r1 trivial
    (cF rfl (o_extract .t rfl) r1 trivial
    (cF rfl (o_assign .t (by rfl)) r1 trivial
    (cF rfl (o_assign .t (by rfl)) r1 trivial
    Chain.nil)))))))
    (by kernel_rfl) (by rw [hB]; kernel_rfl) ?_
  clear hS; intro a w F hS
  obtain ⟨F, hS⟩ := hS.norm [(2, _), (3, _), (4, _), (5, _)] [(0, _), (101, _)] r4 r2
  try dsimp only [rCmd] at hS
  refine then_n ?_
  refine wp_seq ?_
  refine wp_seq ?_
  refine region_seq hS (by kernel_rfl)
    (cF rfl (o_move .t (by rfl)) r1 trivial
    (cF rfl (o_neq .t (.ci (by kernel_rfl))) r1 trivial
    Chain.nil))
    (by kernel_rfl) (by rw [hB]; kernel_rfl) ?_
  clear hS; intro a w F hS
  obtain ⟨F, hS⟩ := hS.norm [(2, _), (3, _), (4, _), (5, _), (18, _)] [(0, _), (101, _)] r5 r2
  try dsimp only [rCmd] at hS
  refine then_n ?_
  refine cond_b hS rfl (fun hc0 => ?_) (fun hc0 => ?_)
  ·skip
   have hw : (wordsR s0).2 ≠ 0 := by simpa using hc0
   have hr : parseR s0 = (zeroC 0, (wordsR s0).2) := by unfold parseR; rw [if_pos hw]
   refine wp_seq ?_
   refine region_seq hS (by kernel_rfl)
     (cF rfl (o_build (r := []) (zs := [.int .i64 0, .int .i64 0, .bool false, .slice none 0 0, .int .i64 0, .slice none 0 0, .int .i64 0, .int .i64 0, .int .i64 0, .int .i64 0]) (pl := [(0, 1), (1, 3), (4, 2), (6, 1), (7, 1), (8, 1), (9, 1)]) (by kernel_rfl) (by kernel_rfl) .nil (by rfl)) trivial trivial
     (cF rfl (o_move .t (by rfl)) r1 trivial
     (cF rfl (o_storeA (sz := 10) 101 .is .t (by kernel_rfl) (by kernel_rfl) (by kernel_rfl)) r2 r1
     (cF rfl (o_assign .t (by rfl)) r1 trivial
     Chain.nil))))
     (by kernel_rfl) (by rw [hB]; kernel_rfl) ?_
   clear hS; intro a w F hS
   obtain ⟨F, hS⟩ := hS.norm [(2, _), (3, _), (4, _)] [(0, _), (101, _)] r3 r2
   try dsimp only [List.map, stCells, List.length_cons, List.length_nil, Nat.reduceAdd, List.drop_succ_cons, List.drop_zero, List.drop_nil, List.take_succ_cons, List.take_zero, List.take_nil, List.cons_append, List.nil_append, zCF, rCmd] at hS
   refine then_n ?_
   refine wp_ret ?_
   refine then_r ?_
   refine ret_P hfr hS rfl (.cell (n := 101) (ag := true) (sz := 10) rfl .is rfl (by kernel_rfl) (by kernel_rfl) (by kernel_rfl) (.tmp rfl .nil)) (.two (.aggLe rfl (by rw [hr]; exact (by refine ⟨?_, ?_, ?_, ?_, ?_, ?_, ?_, ?_, ?_, ?_, trivial⟩ <;> first | exact PVLe.refl | exact PVLe.nilSl))) (.int (by rw [hr])))
  ·skip
   have hw : ¬ (wordsR s0).2 ≠ 0 := by simpa using hc0
   have hp : parseR s0 = parseW (wordsR s0).1 := by unfold parseR; rw [if_neg hw]
   refine wp_skip ?_
   refine then_n ?_
   refine wp_seq ?_
   refine wp_seq ?_
   refine region_seq hS (by kernel_rfl)
     (cF rfl (o_move .t (by rfl)) r1 trivial
     (cF rfl (o_len_sl Tryz.underlying40 .t) r1 trivial
     (cF rfl (o_eql .t (.ci (by kernel_rfl))) r1 trivial
     Chain.nil)))
     (by kernel_rfl) (by rw [hB]; kernel_rfl) ?_
   clear hS; intro a w F hS
   obtain ⟨F, hS⟩ := hS.norm [(2, _), (3, _), (4, _), (23, _)] [(0, _), (101, _)] r4 r2
   try dsimp only [rCmd] at hS
   refine then_n ?_
   refine cond_b hS rfl (fun hc1 => ?_) (fun hc1 => ?_)
   ·skip
    have he : (wordsR s0).1 = [] := List.eq_nil_of_length_eq_zero (by have h9 := of_decide_eq_true hc1; omega)
    have hr : parseR s0 = (zeroC 0, 12) := by rw [hp]; unfold parseW; rw [if_pos he]
    refine wp_seq ?_
    refine region_seq hS (by kernel_rfl)
      (cF rfl (o_build (r := []) (zs := [.int .i64 0, .int .i64 0, .bool false, .slice none 0 0, .int .i64 0, .slice none 0 0, .int .i64 0, .int .i64 0, .int .i64 0, .int .i64 0]) (pl := [(0, 1), (1, 3), (4, 2), (6, 1), (7, 1), (8, 1), (9, 1)]) (by kernel_rfl) (by kernel_rfl) .nil (by rfl)) trivial trivial
      (cF rfl (o_storeA (sz := 10) 101 .is .t (by kernel_rfl) (by kernel_rfl) (by kernel_rfl)) r2 r1
      (cF rfl (o_assign (.ci (by kernel_rfl)) (by rfl)) trivial trivial
      Chain.nil)))
      (by kernel_rfl) (by rw [hB]; kernel_rfl) ?_
    clear hS; intro a w F hS
    obtain ⟨F, hS⟩ := hS.norm [(2, _), (3, _), (4, _)] [(0, _), (101, _)] r3 r2
    try dsimp only [List.map, stCells, List.length_cons, List.length_nil, Nat.reduceAdd, List.drop_succ_cons, List.drop_zero, List.drop_nil, List.take_succ_cons, List.take_zero, List.take_nil, List.cons_append, List.nil_append, zCF, rCmd] at hS
    refine then_n ?_
    refine wp_ret ?_
    refine then_r ?_
    refine ret_P hfr hS rfl (.cell (n := 101) (ag := true) (sz := 10) rfl .is rfl (by kernel_rfl) (by kernel_rfl) (by kernel_rfl) (.tmp rfl .nil)) (.two (.aggLe rfl (by rw [hr]; exact (by refine ⟨?_, ?_, ?_, ?_, ?_, ?_, ?_, ?_, ?_, ?_, trivial⟩ <;> first | exact PVLe.refl | exact PVLe.nilSl))) (.int (by rw [hr])))
   ·skip
    have hlp : 0 < (wordsR s0).1.length := by have h9 := of_decide_eq_false hc1; omega
    have he : ¬ (wordsR s0).1 = [] := by intro h; rw [h] at hlp; simp at hlp
    refine wp_skip ?_
    refine then_n ?_
    refine wp_seq ?_
    refine region_seq hS (by kernel_rfl)
      (cF rfl (o_move .t (by rfl)) r1 trivial
      (cF rfl (o_indexAddr_sl (sz := 1) (.mk Tryz.underlying40 (by kernel_rfl)) (by intro x; rfl) .t (.ci (by kernel_rfl)) (by decide) (by omega)) r1 trivial
      (cF rfl (o_load_ref (ag := false) (sz := 1) .t (by kernel_rfl) (by kernel_rfl) (by kernel_rfl)) r1 trivial
      (cF rfl (o_callP (refKind_c (nth (wordsR s0).1 0)) Tryz.func20 rfl (by kernel_rfl) (Args.one .t)) r1 trivial
      (cF rfl (o_build (r := [(0, .tmp 28)]) (zs := [.int .i64 0, .int .i64 0, .bool false, .slice none 0 0, .int .i64 0, .slice none 0 0, .int .i64 0, .int .i64 0, .int .i64 0, .int .i64 0]) (pl := [(0, 1), (1, 3), (4, 2), (6, 1), (7, 1), (8, 1), (9, 1)]) (by kernel_rfl) (by kernel_rfl) (.one rfl .t one_int (by kernel_rfl) .nil) (by rfl)) r1 trivial
      (cF rfl (o_alloc (zs := [.int .i64 0, .int .i64 0, .bool false, .slice none 0 0, .int .i64 0, .slice none 0 0, .int .i64 0, .int .i64 0, .int .i64 0, .int .i64 0]) 102 (by kernel_rfl)) trivial trivial
      (cF rfl (o_storeA (sz := 10) 102 .same .t (by kernel_rfl) (by kernel_rfl) (by kernel_rfl)) r2 r1
      Chain.nil)))))))
      (by kernel_rfl) (by rw [hB]; kernel_rfl) ?_
    clear hS; intro a w F hS
    replace hS := hS.sub
    obtain ⟨F, hS⟩ := hS.norm [(2, _), (3, _), (4, _), (6, _)] [(0, _), (101, _), (102, _)] r4 r3
    try dsimp only [RS.sub, SF.sub, CF.sub, csub, Anc.sub, List.map, stCells, List.length_cons, List.length_nil, Nat.reduceAdd, List.drop_succ_cons, List.drop_zero, List.drop_nil, List.take_succ_cons, List.take_zero, List.take_nil, List.cons_append, List.nil_append, zCF, ldSF, rCmd] at hS
    generalize Act.tau a 6 = v6 at hS
    replace hS := hS.turn 102 rfl (r' := .pt (.val v6) 29 [.pv (.int .i64 (findK (nth (wordsR s0).1 0))), .pv (.int .i64 0), .pv (.bool false), .pv (.sl rOp []), .pv (.int .i64 0), .pv (.sl rInt []), .pv (.int .i64 0), .pv (.int .i64 0), .pv (.int .i64 0), .pv (.int .i64 0)]) (ptLe rfl rfl (by refine ⟨?_, ?_, ?_, ?_, ?_, ?_, ?_, ?_, ?_, ?_, trivial⟩ <;> first | exact PVLe.refl | exact PVLe.nilSl))
    obtain ⟨F, hS⟩ := hS.norm [(2, _), (3, _), (4, _), (6, _)] [(0, _), (101, _), (102, _)] r4 r3
    refine then_n ?_
    refine wp_seq ?_
    refine wp_seq ?_
    refine region_seq hS (by kernel_rfl)
      (cF rfl (o_fieldAddr (off := 0) 102 .is (by kernel_rfl) (by rfl)) r1 r1
      (cF rfl (o_load (ag := false) (sz := 1) 102 .adr (by kernel_rfl) (by kernel_rfl) (by kernel_rfl) (by rfl)) r1 r1
      (cF rfl (o_eql .t (.ci (by kernel_rfl))) r1 trivial
      Chain.nil)))
      (by kernel_rfl) (by rw [hB]; kernel_rfl) ?_
    clear hS; intro a w F hS
    obtain ⟨F, hS⟩ := hS.norm [(2, _), (3, _), (4, _), (6, _), (32, _)] [(0, _), (101, _), (102, _)] r5 r3
    try dsimp only [List.map, List.drop_succ_cons, List.drop_zero, List.drop_nil, List.take_succ_cons, List.take_zero, List.take_nil, ldSF, rCmd] at hS
    refine then_n ?_
    refine cond_b hS rfl (fun hc2 => ?_) (fun hc2 => ?_)
    ·skip
     have hk0 : (findK (nth (wordsR s0).1 0)) = 0 := of_decide_eq_true hc2
     have hr : parseR s0 = (zeroC 0, 11) := by rw [hp]; unfold parseW; rw [if_neg he, if_pos hk0]
     refine wp_seq ?_
     refine region_seq hS (by kernel_rfl)
       (cF rfl (o_build (r := []) (zs := [.int .i64 0, .int .i64 0, .bool false, .slice none 0 0, .int .i64 0, .slice none 0 0, .int .i64 0, .int .i64 0, .int .i64 0, .int .i64 0]) (pl := [(0, 1), (1, 3), (4, 2), (6, 1), (7, 1), (8, 1), (9, 1)]) (by kernel_rfl) (by kernel_rfl) .nil (by rfl)) trivial trivial
       (cF rfl (o_storeA (sz := 10) 101 .is .t (by kernel_rfl) (by kernel_rfl) (by kernel_rfl)) r2 r1
       (cF rfl (o_assign (.ci (by kernel_rfl)) (by rfl)) trivial trivial
       Chain.nil)))
       (by kernel_rfl) (by rw [hB]; kernel_rfl) ?_
     clear hS; intro a w F hS
     obtain ⟨F, hS⟩ := hS.norm [(2, _), (3, _), (4, _), (6, _)] [(0, _), (101, _), (102, _)] r4 r3
     try dsimp only [List.map, stCells, List.length_cons, List.length_nil, Nat.reduceAdd, List.drop_succ_cons, List.drop_zero, List.drop_nil, List.take_succ_cons, List.take_zero, List.take_nil, List.cons_append, List.nil_append, zCF, rCmd] at hS
     refine then_n ?_
     refine wp_ret ?_
     refine then_r ?_
     refine ret_P hfr hS rfl (.cell (n := 101) (ag := true) (sz := 10) rfl .is rfl (by kernel_rfl) (by kernel_rfl) (by kernel_rfl) (.tmp rfl .nil)) (.two (.aggLe rfl (by rw [hr]; exact (by refine ⟨?_, ?_, ?_, ?_, ?_, ?_, ?_, ?_, ?_, ?_, trivial⟩ <;> first | exact PVLe.refl | exact PVLe.nilSl))) (.int (by rw [hr])))
    ·skip
     have hk0 : ¬ (findK (nth (wordsR s0).1 0)) = 0 := of_decide_eq_false hc2
     have hkr := (findK_range (nth (wordsR s0).1 0)).resolve_left hk0
     refine wp_skip ?_
     refine then_n ?_
     refine wp_seq ?_
     refine wp_seq ?_
     refine region_seq hS (by kernel_rfl)
       (cF rfl (o_move .t (by rfl)) r1 trivial
       (cF rfl (o_len_sl Tryz.underlying40 .t) r1 trivial
       (cF rfl (o_fieldAddr (off := 0) 102 .is (by kernel_rfl) (by rfl)) r1 r1
       (cF rfl (o_load (ag := false) (sz := 1) 102 .adr (by kernel_rfl) (by kernel_rfl) (by kernel_rfl) (by rfl)) r1 r1
       (cF rfl (o_callP (refLeast_c (findK (nth (wordsR s0).1 0)) hkr.1) Tryz.func21 rfl (by kernel_rfl) (Args.one .t)) r1 trivial
       (cF rfl (o_lss .t .t) r2 trivial
       Chain.nil))))))
       (by kernel_rfl) (by rw [hB]; kernel_rfl) ?_
     clear hS; intro a w F hS
     obtain ⟨F, hS⟩ := hS.norm [(2, _), (3, _), (4, _), (6, _), (39, _)] [(0, _), (101, _), (102, _)] r5 r3
     try dsimp only [List.map, List.drop_succ_cons, List.drop_zero, List.drop_nil, List.take_succ_cons, List.take_zero, List.take_nil, ldSF, rCmd] at hS
     refine then_n ?_
     refine cond_b hS rfl (fun hc3 => ?_) (fun hc3 => ?_)
     ·skip
      have hk1 := of_decide_eq_true hc3
      have hr : parseR s0 = (zeroC 0, 12) := by rw [hp]; unfold parseW; rw [if_neg he, if_neg hk0, if_pos hk1]
      refine wp_seq ?_
      refine region_seq hS (by kernel_rfl)
        (cF rfl (o_build (r := []) (zs := [.int .i64 0, .int .i64 0, .bool false, .slice none 0 0, .int .i64 0, .slice none 0 0, .int .i64 0, .int .i64 0, .int .i64 0, .int .i64 0]) (pl := [(0, 1), (1, 3), (4, 2), (6, 1), (7, 1), (8, 1), (9, 1)]) (by kernel_rfl) (by kernel_rfl) .nil (by rfl)) trivial trivial
        (cF rfl (o_storeA (sz := 10) 101 .is .t (by kernel_rfl) (by kernel_rfl) (by kernel_rfl)) r2 r1
        (cF rfl (o_assign (.ci (by kernel_rfl)) (by rfl)) trivial trivial
        Chain.nil)))
        (by kernel_rfl) (by rw [hB]; kernel_rfl) ?_
      clear hS; intro a w F hS
      obtain ⟨F, hS⟩ := hS.norm [(2, _), (3, _), (4, _), (6, _)] [(0, _), (101, _), (102, _)] r4 r3
      try dsimp only [List.map, stCells, List.length_cons, List.length_nil, Nat.reduceAdd, List.drop_succ_cons, List.drop_zero, List.drop_nil, List.take_succ_cons, List.take_zero, List.take_nil, List.cons_append, List.nil_append, zCF, rCmd] at hS
      refine then_n ?_
      refine wp_ret ?_
      refine then_r ?_
      refine ret_P hfr hS rfl (.cell (n := 101) (ag := true) (sz := 10) rfl .is rfl (by kernel_rfl) (by kernel_rfl) (by kernel_rfl) (.tmp rfl .nil)) (.two (.aggLe rfl (by rw [hr]; exact (by refine ⟨?_, ?_, ?_, ?_, ?_, ?_, ?_, ?_, ?_, ?_, trivial⟩ <;> first | exact PVLe.refl | exact PVLe.nilSl))) (.int (by rw [hr])))
     ·skip
      have hk1 := of_decide_eq_false hc3
      refine wp_skip ?_
      refine then_n ?_
      refine wp_seq ?_
      refine wp_seq ?_
      refine region_seq hS (by kernel_rfl)
        (cF rfl (o_fieldAddr (off := 0) 102 .is (by kernel_rfl) (by rfl)) r1 r1
        (cF rfl (o_load (ag := false) (sz := 1) 102 .adr (by kernel_rfl) (by kernel_rfl) (by kernel_rfl) (by rfl)) r1 r1
        (cF rfl (o_callP (refMost_c (findK (nth (wordsR s0).1 0)) hkr.1) Tryz.func22 rfl (by kernel_rfl) (Args.one .t)) r1 trivial
        (cF rfl (o_geq .t (.ci (by kernel_rfl))) r1 trivial
        (cF rfl (o_move .t (by rfl)) r1 trivial
        (Chain.cons (Cert.cond rfl rfl (fun h => o_move .t (by rfl))) r2 trivial
        (Chain.cons (Cert.cond rfl rfl (fun h => o_len_sl Tryz.underlying40 (.w h))) r2 trivial
        (Chain.cons (Cert.cond rfl rfl (fun h => o_fieldAddr (off := 0) 102 .is (by kernel_rfl) (by rfl))) r2 r1
        (Chain.cons (Cert.cond rfl rfl (fun h => o_load (ag := false) (sz := 1) 102 (.w h .adr) (by kernel_rfl) (by kernel_rfl) (by kernel_rfl) (by rfl))) r2 r1
        (Chain.cons (Cert.cond rfl rfl (fun h => o_callP (refMost_c (findK (nth (wordsR s0).1 0)) hkr.1) Tryz.func22 rfl (by kernel_rfl) (Args.one (.w h)))) r2 trivial
        (Chain.cons (Cert.cond rfl rfl (fun h => o_gtr (.w h) (.w h))) r3 trivial
        (cF rfl (o_and2 .t .t) r2 trivial
        Chain.nil))))))))))))
        (by kernel_rfl) (by rw [hB]; kernel_rfl) ?_
      clear hS; intro a w F hS
      obtain ⟨F, hS⟩ := hS.norm [(2, _), (3, _), (4, _), (6, _), (52, _)] [(0, _), (101, _), (102, _)] r5 r3
      try dsimp only [List.map, List.drop_succ_cons, List.drop_zero, List.drop_nil, List.take_succ_cons, List.take_zero, List.take_nil, ldSF, rCmd] at hS
      refine then_n ?_
      refine cond_b hS rfl (fun hc4 => ?_) (fun hc4 => ?_)
      ·skip
       rw [more_is hkr.1 (by omega)] at hc4
       have hk2 := of_decide_eq_true hc4
       have hr : parseR s0 = (zeroC 0, 13) := by rw [hp]; unfold parseW; rw [if_neg he, if_neg hk0, if_neg hk1, if_pos hk2]
       refine wp_seq ?_
       refine region_seq hS (by kernel_rfl)
         (cF rfl (o_build (r := []) (zs := [.int .i64 0, .int .i64 0, .bool false, .slice none 0 0, .int .i64 0, .slice none 0 0, .int .i64 0, .int .i64 0, .int .i64 0, .int .i64 0]) (pl := [(0, 1), (1, 3), (4, 2), (6, 1), (7, 1), (8, 1), (9, 1)]) (by kernel_rfl) (by kernel_rfl) .nil (by rfl)) trivial trivial
         (cF rfl (o_storeA (sz := 10) 101 .is .t (by kernel_rfl) (by kernel_rfl) (by kernel_rfl)) r2 r1
         (cF rfl (o_assign (.ci (by kernel_rfl)) (by rfl)) trivial trivial
         Chain.nil)))
         (by kernel_rfl) (by rw [hB]; kernel_rfl) ?_
       clear hS; intro a w F hS
       obtain ⟨F, hS⟩ := hS.norm [(2, _), (3, _), (4, _), (6, _)] [(0, _), (101, _), (102, _)] r4 r3
       try dsimp only [List.map, stCells, List.length_cons, List.length_nil, Nat.reduceAdd, List.drop_succ_cons, List.drop_zero, List.drop_nil, List.take_succ_cons, List.take_zero, List.take_nil, List.cons_append, List.nil_append, zCF, rCmd] at hS
       refine then_n ?_
       refine wp_ret ?_
       refine then_r ?_
       refine ret_P hfr hS rfl (.cell (n := 101) (ag := true) (sz := 10) rfl .is rfl (by kernel_rfl) (by kernel_rfl) (by kernel_rfl) (.tmp rfl .nil)) (.two (.aggLe rfl (by rw [hr]; exact (by refine ⟨?_, ?_, ?_, ?_, ?_, ?_, ?_, ?_, ?_, ?_, trivial⟩ <;> first | exact PVLe.refl | exact PVLe.nilSl))) (.int (by rw [hr])))
      ·skip
       rw [more_is hkr.1 (by omega)] at hc4
       have hk2 := of_decide_eq_false hc4
       have hdl : ((wordsR s0).1.drop 1).length = (wordsR s0).1.length - 1 := by rw [List.length_drop]
       have hms : ∀ x ∈ ((wordsR s0).1.drop 1), x.length ≤ 1000000 := fun x hx => by have := mem_len (List.mem_of_mem_drop hx); omega
       refine wp_skip ?_
       refine then_n ?_
       refine wp_seq ?_
       refine region_seq hS (by kernel_rfl)
         (cF rfl (o_move .t (by rfl)) r1 trivial
         (cF rfl (o_slice_lo (sz := 1) (.mk Tryz.underlying40 (by kernel_rfl)) (by intro x; rfl) .t (.ci (by kernel_rfl)) (by decide) (by omega)) r1 trivial
         (cF rfl (o_assign .t (by rfl)) r1 trivial
         Chain.nil)))
         (by kernel_rfl) (by rw [hB]; kernel_rfl) ?_
       clear hS; intro a w F hS
       obtain ⟨F, hS⟩ := hS.norm [(2, _), (3, _), (6, _), (7, _)] [(0, _), (101, _), (102, _)] r4 r3
       try dsimp only [rCmd] at hS
       rw [show Int.toNat 1 = 1 from rfl] at hS
       refine then_n ?_
       refine wp_seq ?_
       refine wp_seq ?_
       refine region_seq hS (by kernel_rfl)
         (cF rfl (o_fieldAddr (off := 0) 102 .is (by kernel_rfl) (by rfl)) r1 r1
         (cF rfl (o_load (ag := false) (sz := 1) 102 .adr (by kernel_rfl) (by kernel_rfl) (by kernel_rfl) (by rfl)) r1 r1
         (cF rfl (o_leq .t (.ci (by kernel_rfl))) r1 trivial
         Chain.nil)))
         (by kernel_rfl) (by rw [hB]; kernel_rfl) ?_
       clear hS; intro a w F hS
       obtain ⟨F, hS⟩ := hS.norm [(2, _), (3, _), (6, _), (7, _), (58, _)] [(0, _), (101, _), (102, _)] r5 r3
       try dsimp only [List.map, List.drop_succ_cons, List.drop_zero, List.drop_nil, List.take_succ_cons, List.take_zero, List.take_nil, ldSF, rCmd] at hS
       refine then_n ?_
       refine cond_b hS rfl (fun hc5 => ?_) (fun hc5 => ?_)
       ·skip
        have hk : (findK (nth (wordsR s0).1 0)) = 1 ∨ (findK (nth (wordsR s0).1 0)) = 2 := by have h9 := of_decide_eq_true hc5; omega
        have hlm : 2 ≤ ((wordsR s0).1.drop 1).length := by
          rcases hk with hkk | hkk
          · rw [hkk] at hk1; have h9 : ¬ ((wordsR s0).1.length : Int) < 3 := hk1; omega
          · rw [hkk] at hk1; have h9 : ¬ ((wordsR s0).1.length : Int) < 3 := hk1; omega
        have hff : (fillR (findK (nth (wordsR s0).1 0)) ((wordsR s0).1.drop 1)) = ({zeroC (findK (nth (wordsR s0).1 0)) with tx := (txR ((wordsR s0).1.drop 1)).1}, (txR ((wordsR s0).1.drop 1)).2) := by unfold fillR; rw [if_pos hk]
        refine wp_seq ?_
        refine wp_seq ?_
        refine region_seq hS (by kernel_rfl)
          (cF rfl (o_move .t (by rfl)) r1 trivial
          (cF rfl (o_len_sl Tryz.underlying40 .t) r1 trivial
          (cF rfl (o_gtr .t (.ci (by kernel_rfl))) r1 trivial
          Chain.nil)))
          (by kernel_rfl) (by rw [hB]; kernel_rfl) ?_
        clear hS; intro a w F hS
        obtain ⟨F, hS⟩ := hS.norm [(2, _), (3, _), (6, _), (7, _), (61, _)] [(0, _), (101, _), (102, _)] r5 r3
        try dsimp only [rCmd] at hS
        refine then_n ?_
        refine cond_b hS rfl (fun hc6 => ?_) (fun hc6 => ?_)
        ·skip
         have hl4 : 4097 < ((wordsR s0).1.drop 1).length := by have h9 := of_decide_eq_true hc6; omega
         have ht : txR ((wordsR s0).1.drop 1) = (zeroT, 9) := by unfold txR; rw [if_pos hl4]
         rw [ht] at hff
         have hr : parseR s0 = (zeroC 0, 9) := by rw [hp]; unfold parseW; rw [if_neg he, if_neg hk0, if_neg hk1, if_neg hk2, hff]; exact if_pos (show (9 : Int) ≠ 0 by decide)
         refine wp_seq ?_
         refine region_seq hS (by kernel_rfl)
           (cF rfl (o_build (r := []) (zs := [.int .i64 0, .int .i64 0, .bool false, .slice none 0 0, .int .i64 0, .slice none 0 0, .int .i64 0, .int .i64 0, .int .i64 0, .int .i64 0]) (pl := [(0, 1), (1, 3), (4, 2), (6, 1), (7, 1), (8, 1), (9, 1)]) (by kernel_rfl) (by kernel_rfl) .nil (by rfl)) trivial trivial
           (cF rfl (o_storeA (sz := 10) 101 .is .t (by kernel_rfl) (by kernel_rfl) (by kernel_rfl)) r2 r1
           (cF rfl (o_assign (.ci (by kernel_rfl)) (by rfl)) trivial trivial
           Chain.nil)))
           (by kernel_rfl) (by rw [hB]; kernel_rfl) ?_
         clear hS; intro a w F hS
         obtain ⟨F, hS⟩ := hS.norm [(2, _), (3, _), (6, _), (7, _)] [(0, _), (101, _), (102, _)] r4 r3
         try dsimp only [List.map, stCells, List.length_cons, List.length_nil, Nat.reduceAdd, List.drop_succ_cons, List.drop_zero, List.drop_nil, List.take_succ_cons, List.take_zero, List.take_nil, List.cons_append, List.nil_append, zCF, rCmd] at hS
         refine then_n ?_
         refine wp_ret ?_
         refine then_r ?_
         refine then_r ?_
         refine ret_P hfr hS rfl (.cell (n := 101) (ag := true) (sz := 10) rfl .is rfl (by kernel_rfl) (by kernel_rfl) (by kernel_rfl) (.tmp rfl .nil)) (.two (.aggLe rfl (by rw [hr]; exact (by refine ⟨?_, ?_, ?_, ?_, ?_, ?_, ?_, ?_, ?_, ?_, trivial⟩ <;> first | exact PVLe.refl | exact PVLe.nilSl))) (.int (by rw [hr])))
        ·skip
         have hl4 : ¬ 4097 < ((wordsR s0).1.drop 1).length := by have h9 := of_decide_eq_false hc6; omega
         refine wp_skip ?_
         refine then_n ?_
         refine wp_seq ?_
         refine region_seq hS (by kernel_rfl)
           (cF rfl (o_move .t (by rfl)) r1 trivial
           (cF rfl (o_callP (refTx_c ((wordsR s0).1.drop 1) hms (by omega) hlm hl4) Tryz.func23 rfl (by kernel_rfl) (Args.one .t)) r1 trivial
           (cF rfl (o_move .t (by rfl)) r1 trivial
           (cF rfl (o_extract .t rfl) r1 trivial
           (cF rfl (o_extract .t rfl) r1 trivial
           (cF rfl (o_alloc (zs := [.int .i64 0, .bool false, .slice none 0 0]) 103 (by kernel_rfl)) trivial trivial
           (cF rfl (o_storeA (sz := 3) 103 .same (.conv .t .agg) (by kernel_rfl) (by kernel_rfl) (by kernel_rfl)) r2 r1
           (cF rfl (o_assign .t (by rfl)) r1 trivial
           Chain.nil))))))))
           (by kernel_rfl) (by rw [hB]; kernel_rfl) ?_
         clear hS; intro a w F hS
         replace hS := hS.sub
         obtain ⟨F, hS⟩ := hS.norm [(2, _), (3, _), (6, _), (7, _), (8, _), (9, _)] [(0, _), (101, _), (102, _), (103, _)] r6 r4
         try dsimp only [RS.sub, SF.sub, CF.sub, csub, Anc.sub, List.map, stCells, List.length_cons, List.length_nil, Nat.reduceAdd, List.drop_succ_cons, List.drop_zero, List.drop_nil, List.take_succ_cons, List.take_zero, List.take_nil, List.cons_append, List.nil_append, zCF, rCmd] at hS
         generalize Act.tau a 8 = v8 at hS
         refine then_n ?_
         refine wp_seq ?_
         refine wp_seq ?_
         refine region_seq hS (by kernel_rfl)
           (cF rfl (o_move .t (by rfl)) r1 trivial
           (cF rfl (o_neq .t (.ci (by kernel_rfl))) r1 trivial
           Chain.nil))
           (by kernel_rfl) (by rw [hB]; kernel_rfl) ?_
         clear hS; intro a w F hS
         obtain ⟨F, hS⟩ := hS.norm [(2, _), (3, _), (6, _), (7, _), (8, _), (9, _), (69, _)] [(0, _), (101, _), (102, _), (103, _)] r7 r4
         try dsimp only [rCmd] at hS
         refine then_n ?_
         refine cond_b hS rfl (fun hc7 => ?_) (fun hc7 => ?_)
         ·skip
          have hne : (txR ((wordsR s0).1.drop 1)).2 ≠ 0 := by simpa using hc7
          have hr : parseR s0 = (zeroC 0, (txR ((wordsR s0).1.drop 1)).2) := by rw [hp]; unfold parseW; rw [if_neg he, if_neg hk0, if_neg hk1, if_neg hk2, hff]; exact if_pos hne
          refine wp_seq ?_
          refine region_seq hS (by kernel_rfl)
            (cF rfl (o_build (r := []) (zs := [.int .i64 0, .int .i64 0, .bool false, .slice none 0 0, .int .i64 0, .slice none 0 0, .int .i64 0, .int .i64 0, .int .i64 0, .int .i64 0]) (pl := [(0, 1), (1, 3), (4, 2), (6, 1), (7, 1), (8, 1), (9, 1)]) (by kernel_rfl) (by kernel_rfl) .nil (by rfl)) trivial trivial
            (cF rfl (o_move .t (by rfl)) r1 trivial
            (cF rfl (o_storeA (sz := 10) 101 .is .t (by kernel_rfl) (by kernel_rfl) (by kernel_rfl)) r2 r1
            (cF rfl (o_assign .t (by rfl)) r1 trivial
            Chain.nil))))
            (by kernel_rfl) (by rw [hB]; kernel_rfl) ?_
          clear hS; intro a w F hS
          obtain ⟨F, hS⟩ := hS.norm [(2, _), (3, _), (6, _), (7, _), (8, _)] [(0, _), (101, _), (102, _), (103, _)] r5 r4
          try dsimp only [List.map, stCells, List.length_cons, List.length_nil, Nat.reduceAdd, List.drop_succ_cons, List.drop_zero, List.drop_nil, List.take_succ_cons, List.take_zero, List.take_nil, List.cons_append, List.nil_append, zCF, rCmd] at hS
          refine then_n ?_
          refine wp_ret ?_
          refine then_r ?_
          refine then_r ?_
          refine ret_P hfr hS rfl (.cell (n := 101) (ag := true) (sz := 10) rfl .is rfl (by kernel_rfl) (by kernel_rfl) (by kernel_rfl) (.tmp rfl .nil)) (.two (.aggLe rfl (by rw [hr]; exact (by refine ⟨?_, ?_, ?_, ?_, ?_, ?_, ?_, ?_, ?_, ?_, trivial⟩ <;> first | exact PVLe.refl | exact PVLe.nilSl))) (.int (by rw [hr])))
         ·skip
          have hne : (txR ((wordsR s0).1.drop 1)).2 = 0 := by simpa using hc7
          rw [hne] at hff
          have hr : parseR s0 = ({zeroC (findK (nth (wordsR s0).1 0)) with tx := (txR ((wordsR s0).1.drop 1)).1}, 0) := by rw [hp]; unfold parseW; rw [if_neg he, if_neg hk0, if_neg hk1, if_neg hk2, hff]; exact if_neg (by simp)
          refine wp_skip ?_
          refine then_n ?_
          refine wp_seq ?_
          refine region_seq hS (by kernel_rfl)
            (cF rfl (o_load (ag := true) (sz := 3) 103 .is (by kernel_rfl) (by kernel_rfl) (by kernel_rfl) (by rfl)) r1 r1
            (cF rfl (o_fieldAddr (off := 1) 102 .is (by kernel_rfl) (by rfl)) r1 r1
            (cF rfl (o_storeA (sz := 3) 102 .adr .t (by kernel_rfl) (by kernel_rfl) (by kernel_rfl)) r2 r1
            Chain.nil)))
            (by kernel_rfl) (by rw [hB]; kernel_rfl) ?_
          clear hS; intro a w F hS
          obtain ⟨F, hS⟩ := hS.norm [(2, _), (3, _), (6, _), (7, _)] [(0, _), (101, _), (102, _)] r4 r3
          try dsimp only [List.map, stCells, List.length_cons, List.length_nil, Nat.reduceAdd, List.drop_succ_cons, List.drop_zero, List.drop_nil, List.take_succ_cons, List.take_zero, List.take_nil, List.cons_append, List.nil_append, zCF, ldSF, rCmd] at hS
          refine then_n ?_
          refine wp_seq ?_
          refine region_seq hS (by kernel_rfl)
            (cF rfl (o_load (ag := true) (sz := 10) 102 .is (by kernel_rfl) (by kernel_rfl) (by kernel_rfl) (by rfl)) r1 r1
            (cF rfl (o_storeA (sz := 10) 101 .is .t (by kernel_rfl) (by kernel_rfl) (by kernel_rfl)) r2 r1
            (cF rfl (o_assign (.ci (by kernel_rfl)) (by rfl)) trivial trivial
            Chain.nil)))
            (by kernel_rfl) (by rw [hB]; kernel_rfl) ?_
          clear hS; intro a w F hS
          obtain ⟨F, hS⟩ := hS.norm [(2, _), (3, _), (6, _), (7, _)] [(0, _), (101, _), (102, _)] r4 r3
          try dsimp only [List.map, stCells, List.length_cons, List.length_nil, Nat.reduceAdd, List.drop_succ_cons, List.drop_zero, List.drop_nil, List.take_succ_cons, List.take_zero, List.take_nil, List.cons_append, List.nil_append, zCF, ldSF, rCmd] at hS
          refine then_n ?_
          refine wp_ret ?_
          refine then_r ?_
          refine ret_P hfr hS rfl (.cell (n := 101) (ag := true) (sz := 10) rfl .is rfl (by kernel_rfl) (by kernel_rfl) (by kernel_rfl) (.tmp rfl .nil)) (.two (.aggU rfl (by rw [hr] <;> rfl)) (.int (by rw [hr])))
       ·skip
        have hk12 := of_decide_eq_false hc5
        refine wp_skip ?_
        refine then_n ?_
        refine wp_seq ?_
        refine wp_seq ?_
        refine region_seq hS (by kernel_rfl)
          (cF rfl (o_fieldAddr (off := 0) 102 .is (by kernel_rfl) (by rfl)) r1 r1
          (cF rfl (o_load (ag := false) (sz := 1) 102 .adr (by kernel_rfl) (by kernel_rfl) (by kernel_rfl) (by rfl)) r1 r1
          (cF rfl (o_eql .t (.ci (by kernel_rfl))) r1 trivial
          Chain.nil)))
          (by kernel_rfl) (by rw [hB]; kernel_rfl) ?_
        clear hS; intro a w F hS
        obtain ⟨F, hS⟩ := hS.norm [(2, _), (3, _), (6, _), (7, _), (77, _)] [(0, _), (101, _), (102, _)] r5 r3
        try dsimp only [List.map, List.drop_succ_cons, List.drop_zero, List.drop_nil, List.take_succ_cons, List.take_zero, List.take_nil, ldSF, rCmd] at hS
        refine then_n ?_
        refine cond_b hS rfl (fun hc8 => ?_) (fun hc8 => ?_)
        ·skip
         have hk : (findK (nth (wordsR s0).1 0)) = 9 := of_decide_eq_true hc8
         have hkk := hk
         have hlm : 1 ≤ ((wordsR s0).1.drop 1).length := by
           rw [hkk] at hk1
           have h9 : ¬ ((wordsR s0).1.length : Int) < 2 := hk1
           omega
         have hff : (fillR (findK (nth (wordsR s0).1 0)) ((wordsR s0).1.drop 1)) = ({zeroC (findK (nth (wordsR s0).1 0)) with phen := phenR (nth ((wordsR s0).1.drop 1) 0)}, if phenR (nth ((wordsR s0).1.drop 1) 0) = 0 then 11 else 0) := by unfold fillR; rw [if_neg (by omega), if_pos hk]
         refine wp_seq ?_
         refine region_seq hS (by kernel_rfl)
           (cF rfl (o_move .t (by rfl)) r1 trivial
           (cF rfl (o_indexAddr_sl (sz := 1) (.mk Tryz.underlying40 (by kernel_rfl)) (by intro x; rfl) .t (.ci (by kernel_rfl)) (by decide) (by omega)) r1 trivial
           (cF rfl (o_load_ref (ag := false) (sz := 1) .t (by kernel_rfl) (by kernel_rfl) (by kernel_rfl)) r1 trivial
           (cF rfl (o_callP (refPhen_c (nth ((wordsR s0).1.drop 1) 0)) Tryz.func24 rfl (by kernel_rfl) (Args.one .t)) r1 trivial
           (cF rfl (o_fieldAddr (off := 9) 102 .is (by kernel_rfl) (by rfl)) r1 r1
           (cF rfl (o_store1 102 .adr .t one_int (by kernel_rfl) (by kernel_rfl)) r2 r1
           Chain.nil))))))
           (by kernel_rfl) (by rw [hB]; kernel_rfl) ?_
         clear hS; intro a w F hS
         obtain ⟨F, hS⟩ := hS.norm [(2, _), (3, _), (6, _), (7, _)] [(0, _), (101, _), (102, _)] r4 r3
         try dsimp only [List.map, stCells, List.length_cons, List.length_nil, Nat.reduceAdd, List.drop_succ_cons, List.drop_zero, List.drop_nil, List.take_succ_cons, List.take_zero, List.take_nil, List.cons_append, List.nil_append, zCF, ldSF, rCmd] at hS
         refine then_n ?_
         refine wp_seq ?_
         refine wp_seq ?_
         refine region_seq hS (by kernel_rfl)
           (cF rfl (o_fieldAddr (off := 9) 102 .is (by kernel_rfl) (by rfl)) r1 r1
           (cF rfl (o_load (ag := false) (sz := 1) 102 .adr (by kernel_rfl) (by kernel_rfl) (by kernel_rfl) (by rfl)) r1 r1
           (cF rfl (o_eql .t (.ci (by kernel_rfl))) r1 trivial
           Chain.nil)))
           (by kernel_rfl) (by rw [hB]; kernel_rfl) ?_
         clear hS; intro a w F hS
         obtain ⟨F, hS⟩ := hS.norm [(2, _), (3, _), (6, _), (7, _), (85, _)] [(0, _), (101, _), (102, _)] r5 r3
         try dsimp only [List.map, List.drop_succ_cons, List.drop_zero, List.drop_nil, List.take_succ_cons, List.take_zero, List.take_nil, ldSF, rCmd] at hS
         refine then_n ?_
         refine cond_b hS rfl (fun hc9 => ?_) (fun hc9 => ?_)
         ·skip
          have hph : phenR (nth ((wordsR s0).1.drop 1) 0) = 0 := by simpa using hc9
          rw [if_pos hph] at hff
          have hr : parseR s0 = (zeroC 0, 11) := by rw [hp]; unfold parseW; rw [if_neg he, if_neg hk0, if_neg hk1, if_neg hk2, hff]; exact if_pos (show (11 : Int) ≠ 0 by decide)
          refine wp_seq ?_
          refine region_seq hS (by kernel_rfl)
            (cF rfl (o_build (r := []) (zs := [.int .i64 0, .int .i64 0, .bool false, .slice none 0 0, .int .i64 0, .slice none 0 0, .int .i64 0, .int .i64 0, .int .i64 0, .int .i64 0]) (pl := [(0, 1), (1, 3), (4, 2), (6, 1), (7, 1), (8, 1), (9, 1)]) (by kernel_rfl) (by kernel_rfl) .nil (by rfl)) trivial trivial
            (cF rfl (o_storeA (sz := 10) 101 .is .t (by kernel_rfl) (by kernel_rfl) (by kernel_rfl)) r2 r1
            (cF rfl (o_assign (.ci (by kernel_rfl)) (by rfl)) trivial trivial
            Chain.nil)))
            (by kernel_rfl) (by rw [hB]; kernel_rfl) ?_
          clear hS; intro a w F hS
          obtain ⟨F, hS⟩ := hS.norm [(2, _), (3, _), (6, _), (7, _)] [(0, _), (101, _), (102, _)] r4 r3
          try dsimp only [List.map, stCells, List.length_cons, List.length_nil, Nat.reduceAdd, List.drop_succ_cons, List.drop_zero, List.drop_nil, List.take_succ_cons, List.take_zero, List.take_nil, List.cons_append, List.nil_append, zCF, rCmd] at hS
          refine then_n ?_
          refine wp_ret ?_
          refine then_r ?_
          refine then_r ?_
          refine ret_P hfr hS rfl (.cell (n := 101) (ag := true) (sz := 10) rfl .is rfl (by kernel_rfl) (by kernel_rfl) (by kernel_rfl) (.tmp rfl .nil)) (.two (.aggLe rfl (by rw [hr]; exact (by refine ⟨?_, ?_, ?_, ?_, ?_, ?_, ?_, ?_, ?_, ?_, trivial⟩ <;> first | exact PVLe.refl | exact PVLe.nilSl))) (.int (by rw [hr])))
         ·skip
          have hph : ¬ phenR (nth ((wordsR s0).1.drop 1) 0) = 0 := by simpa using hc9
          rw [if_neg hph] at hff
          have hr : parseR s0 = ({zeroC (findK (nth (wordsR s0).1 0)) with phen := phenR (nth ((wordsR s0).1.drop 1) 0)}, 0) := by rw [hp]; unfold parseW; rw [if_neg he, if_neg hk0, if_neg hk1, if_neg hk2, hff]; exact if_neg (by simp)
          refine wp_skip ?_
          refine then_n ?_
          refine wp_seq ?_
          refine region_seq hS (by kernel_rfl)
            (cF rfl (o_load (ag := true) (sz := 10) 102 .is (by kernel_rfl) (by kernel_rfl) (by kernel_rfl) (by rfl)) r1 r1
            (cF rfl (o_storeA (sz := 10) 101 .is .t (by kernel_rfl) (by kernel_rfl) (by kernel_rfl)) r2 r1
            (cF rfl (o_assign (.ci (by kernel_rfl)) (by rfl)) trivial trivial
            Chain.nil)))
            (by kernel_rfl) (by rw [hB]; kernel_rfl) ?_
          clear hS; intro a w F hS
          obtain ⟨F, hS⟩ := hS.norm [(2, _), (3, _), (6, _), (7, _)] [(0, _), (101, _), (102, _)] r4 r3
          try dsimp only [List.map, stCells, List.length_cons, List.length_nil, Nat.reduceAdd, List.drop_succ_cons, List.drop_zero, List.drop_nil, List.take_succ_cons, List.take_zero, List.take_nil, List.cons_append, List.nil_append, zCF, ldSF, rCmd] at hS
          refine then_n ?_
          refine wp_ret ?_
          refine then_r ?_
          refine ret_P hfr hS rfl (.cell (n := 101) (ag := true) (sz := 10) rfl .is rfl (by kernel_rfl) (by kernel_rfl) (by kernel_rfl) (.tmp rfl .nil)) (.two (.aggU rfl (by rw [hr] <;> rfl)) (.int (by rw [hr])))
        ·skip
         have hk9 := of_decide_eq_false hc8
         refine wp_skip ?_
         refine then_n ?_
         refine wp_seq ?_
         refine region_seq hS (by kernel_rfl)
           (cF rfl (o_move .t (by rfl)) r1 trivial
           (cF rfl (o_callP (refNumbers_c ((wordsR s0).1.drop 1) hms (by omega)) Tryz.func25 rfl (by kernel_rfl) (Args.one .t)) r1 trivial
           (cF rfl (o_move .t (by rfl)) r1 trivial
           (cF rfl (o_extract .t rfl) r1 trivial
           (cF rfl (o_extract .t rfl) r1 trivial
           (cF rfl (o_assign .t (by rfl)) r1 trivial
           (cF rfl (o_assign .t (by rfl)) r1 trivial
           Chain.nil)))))))
           (by kernel_rfl) (by rw [hB]; kernel_rfl) ?_
         clear hS; intro a w F hS
         obtain ⟨F, hS⟩ := hS.norm [(2, _), (3, _), (6, _), (10, _), (11, _)] [(0, _), (101, _), (102, _)] r5 r3
         try dsimp only [rCmd] at hS
         refine then_n ?_
         refine wp_seq ?_
         refine wp_seq ?_
         refine region_seq hS (by kernel_rfl)
           (cF rfl (o_move .t (by rfl)) r1 trivial
           (cF rfl (o_neq .t (.ci (by kernel_rfl))) r1 trivial
           Chain.nil))
           (by kernel_rfl) (by rw [hB]; kernel_rfl) ?_
         clear hS; intro a w F hS
         obtain ⟨F, hS⟩ := hS.norm [(2, _), (3, _), (6, _), (10, _), (11, _), (94, _)] [(0, _), (101, _), (102, _)] r6 r3
         try dsimp only [rCmd] at hS
         refine then_n ?_
         refine cond_b hS rfl (fun hc10 => ?_) (fun hc10 => ?_)
         ·skip
          have hne : (numsR ((wordsR s0).1.drop 1)).2 ≠ 0 := by simpa using hc10
          have hff : (fillR (findK (nth (wordsR s0).1 0)) ((wordsR s0).1.drop 1)) = (zeroC (findK (nth (wordsR s0).1 0)), (numsR ((wordsR s0).1.drop 1)).2) := by unfold fillR; rw [if_neg (by omega), if_neg (by omega), if_pos hne]
          have hr : parseR s0 = (zeroC 0, (numsR ((wordsR s0).1.drop 1)).2) := by rw [hp]; unfold parseW; rw [if_neg he, if_neg hk0, if_neg hk1, if_neg hk2, hff]; exact if_pos hne
          refine wp_seq ?_
          refine region_seq hS (by kernel_rfl)
            (cF rfl (o_build (r := []) (zs := [.int .i64 0, .int .i64 0, .bool false, .slice none 0 0, .int .i64 0, .slice none 0 0, .int .i64 0, .int .i64 0, .int .i64 0, .int .i64 0]) (pl := [(0, 1), (1, 3), (4, 2), (6, 1), (7, 1), (8, 1), (9, 1)]) (by kernel_rfl) (by kernel_rfl) .nil (by rfl)) trivial trivial
            (cF rfl (o_move .t (by rfl)) r1 trivial
            (cF rfl (o_storeA (sz := 10) 101 .is .t (by kernel_rfl) (by kernel_rfl) (by kernel_rfl)) r2 r1
            (cF rfl (o_assign .t (by rfl)) r1 trivial
            Chain.nil))))
            (by kernel_rfl) (by rw [hB]; kernel_rfl) ?_
          clear hS; intro a w F hS
          obtain ⟨F, hS⟩ := hS.norm [(2, _), (3, _), (6, _), (10, _)] [(0, _), (101, _), (102, _)] r4 r3
          try dsimp only [List.map, stCells, List.length_cons, List.length_nil, Nat.reduceAdd, List.drop_succ_cons, List.drop_zero, List.drop_nil, List.take_succ_cons, List.take_zero, List.take_nil, List.cons_append, List.nil_append, zCF, rCmd] at hS
          refine then_n ?_
          refine wp_ret ?_
          refine then_r ?_
          refine ret_P hfr hS rfl (.cell (n := 101) (ag := true) (sz := 10) rfl .is rfl (by kernel_rfl) (by kernel_rfl) (by kernel_rfl) (.tmp rfl .nil)) (.two (.aggLe rfl (by rw [hr]; exact (by refine ⟨?_, ?_, ?_, ?_, ?_, ?_, ?_, ?_, ?_, ?_, trivial⟩ <;> first | exact PVLe.refl | exact PVLe.nilSl))) (.int (by rw [hr])))
         ·skip
          have hw : ¬ (numsR ((wordsR s0).1.drop 1)).2 ≠ 0 := by simpa using hc10
          have hnl : (numsR ((wordsR s0).1.drop 1)).1.length = ((wordsR s0).1.drop 1).length := by rw [(nums_len (Classical.not_not.1 hw)).1, vals_len]
          refine wp_skip ?_
          refine then_n ?_
          refine wp_seq ?_
          refine wp_seq ?_
          refine region_seq hS (by kernel_rfl)
            (cF rfl (o_fieldAddr (off := 0) 102 .is (by kernel_rfl) (by rfl)) r1 r1
            (cF rfl (o_load (ag := false) (sz := 1) 102 .adr (by kernel_rfl) (by kernel_rfl) (by kernel_rfl) (by rfl)) r1 r1
            Chain.nil))
            (by kernel_rfl) (by rw [hB]; kernel_rfl) ?_
          clear hS; intro a w F hS
          obtain ⟨F, hS⟩ := hS.norm [(2, _), (3, _), (6, _), (10, _), (98, _)] [(0, _), (101, _), (102, _)] r5 r3
          try dsimp only [List.map, List.drop_succ_cons, List.drop_zero, List.drop_nil, List.take_succ_cons, List.take_zero, List.take_nil, ldSF, rCmd] at hS
          refine then_n ?_
          refine wp_block ?_
          refine wp_seq ?_
          refine wp_seq ?_
          refine region_seq hS (by kernel_rfl)
            (cF rfl (o_eql .t (.ci (by kernel_rfl))) r1 trivial
            (cF rfl (o_assign .t (by rfl)) r1 trivial
            Chain.nil))
            (by kernel_rfl) (by rw [hB]; kernel_rfl) ?_
          clear hS; intro a w F hS
          obtain ⟨F, hS⟩ := hS.norm [(2, _), (3, _), (6, _), (10, _), (98, _), (99, _)] [(0, _), (101, _), (102, _)] r6 r3
          try dsimp only [rCmd] at hS
          refine then_n ?_
          refine cond_b hS rfl (fun hc11 => ?_) (fun hc11 => ?_)
          ·skip
           have hk : (findK (nth (wordsR s0).1 0)) = 3 ∨ (findK (nth (wordsR s0).1 0)) = 10 := by first | exact .inl (of_decide_eq_true hc11) | exact .inr (of_decide_eq_true hc11)
           have hlm : 1 ≤ ((wordsR s0).1.drop 1).length := by
             rcases hk with hkk | hkk
             · rw [hkk] at hk1; have h9 : ¬ ((wordsR s0).1.length : Int) < 2 := hk1; omega
             · rw [hkk] at hk1; have h9 : ¬ ((wordsR s0).1.length : Int) < 2 := hk1; omega
           have hff : (fillR (findK (nth (wordsR s0).1 0)) ((wordsR s0).1.drop 1)) = ({zeroC (findK (nth (wordsR s0).1 0)) with id := nth (numsR ((wordsR s0).1.drop 1)).1 0}, 0) := by unfold fillR; rw [if_neg (by omega), if_neg (by omega), if_neg hw, if_pos hk]
           have hr : parseR s0 = ({zeroC (findK (nth (wordsR s0).1 0)) with id := nth (numsR ((wordsR s0).1.drop 1)).1 0}, 0) := by rw [hp]; unfold parseW; rw [if_neg he, if_neg hk0, if_neg hk1, if_neg hk2, hff]; exact if_neg (by simp)
           refine wp_skip ?_
           refine then_n ?_
           refine cond_b hS rfl (fun hc12 => ?_) (fun hc12 => ?_)
           ·skip
            have hk : (findK (nth (wordsR s0).1 0)) = 3 ∨ (findK (nth (wordsR s0).1 0)) = 10 := by first | exact .inl (of_decide_eq_true hc12) | exact .inr (of_decide_eq_true hc12)
            have hlm : 1 ≤ ((wordsR s0).1.drop 1).length := by
              rcases hk with hkk | hkk
              · rw [hkk] at hk1; have h9 : ¬ ((wordsR s0).1.length : Int) < 2 := hk1; omega
              · rw [hkk] at hk1; have h9 : ¬ ((wordsR s0).1.length : Int) < 2 := hk1; omega
            have hff : (fillR (findK (nth (wordsR s0).1 0)) ((wordsR s0).1.drop 1)) = ({zeroC (findK (nth (wordsR s0).1 0)) with id := nth (numsR ((wordsR s0).1.drop 1)).1 0}, 0) := by unfold fillR; rw [if_neg (by omega), if_neg (by omega), if_neg hw, if_pos hk]
            have hr : parseR s0 = ({zeroC (findK (nth (wordsR s0).1 0)) with id := nth (numsR ((wordsR s0).1.drop 1)).1 0}, 0) := by rw [hp]; unfold parseW; rw [if_neg he, if_neg hk0, if_neg hk1, if_neg hk2, hff]; exact if_neg (by simp)
            refine region_seq hS (by kernel_rfl)
              (cF rfl (o_move .t (by rfl)) r1 trivial
              (cF rfl (o_indexAddr_sl (sz := 1) (.mk Tryz.underlying25 (by kernel_rfl)) (by intro x; rfl) .t (.ci (by kernel_rfl)) (by decide) (by omega)) r1 trivial
              (cF rfl (o_load_ref (ag := false) (sz := 1) .t (by kernel_rfl) (by kernel_rfl) (by kernel_rfl)) r1 trivial
              (cF rfl (o_fieldAddr (off := 7) 102 .is (by kernel_rfl) (by rfl)) r1 r1
              (cF rfl (o_store1 102 .adr .t one_int (by kernel_rfl) (by kernel_rfl)) r2 r1
              Chain.nil)))))
              (by kernel_rfl) (by rw [hB]; kernel_rfl) ?_
            clear hS; intro a w F hS
            obtain ⟨F, hS⟩ := hS.norm [(2, _), (3, _), (6, _)] [(0, _), (101, _), (102, _)] r3 r3
            try dsimp only [List.map, stCells, List.length_cons, List.length_nil, Nat.reduceAdd, List.drop_succ_cons, List.drop_zero, List.drop_nil, List.take_succ_cons, List.take_zero, List.take_nil, List.cons_append, List.nil_append, zCF, ldSF, rCmd] at hS
            refine block_n ?_
            refine then_n ?_
            refine wp_seq ?_
            refine region_seq hS (by kernel_rfl)
              (cF rfl (o_load (ag := true) (sz := 10) 102 .is (by kernel_rfl) (by kernel_rfl) (by kernel_rfl) (by rfl)) r1 r1
              (cF rfl (o_storeA (sz := 10) 101 .is .t (by kernel_rfl) (by kernel_rfl) (by kernel_rfl)) r2 r1
              (cF rfl (o_assign (.ci (by kernel_rfl)) (by rfl)) trivial trivial
              Chain.nil)))
              (by kernel_rfl) (by rw [hB]; kernel_rfl) ?_
            clear hS; intro a w F hS
            obtain ⟨F, hS⟩ := hS.norm [(2, _), (3, _)] [(0, _), (101, _), (102, _)] r2 r3
            try dsimp only [List.map, stCells, List.length_cons, List.length_nil, Nat.reduceAdd, List.drop_succ_cons, List.drop_zero, List.drop_nil, List.take_succ_cons, List.take_zero, List.take_nil, List.cons_append, List.nil_append, zCF, ldSF, rCmd] at hS
            refine then_n ?_
            refine wp_ret ?_
            refine ret_P hfr hS rfl (.cell (n := 101) (ag := true) (sz := 10) rfl .is rfl (by kernel_rfl) (by kernel_rfl) (by kernel_rfl) (.tmp rfl .nil)) (.two (.aggU rfl (by rw [hr] <;> rfl)) (.int (by rw [hr])))
           ·exact Bool.noConfusion (hc11.symm.trans hc12)
          ·skip
           have hnk := of_decide_eq_false hc11
           refine region_seq hS (by kernel_rfl)
             (cF rfl (o_eql .t (.ci (by kernel_rfl))) r1 trivial
             (cF rfl (o_assign .t (by rfl)) r1 trivial
             Chain.nil))
             (by kernel_rfl) (by rw [hB]; kernel_rfl) ?_
           clear hS; intro a w F hS
           obtain ⟨F, hS⟩ := hS.norm [(2, _), (3, _), (6, _), (10, _), (98, _), (99, _)] [(0, _), (101, _), (102, _)] r6 r3
           try dsimp only [rCmd] at hS
           refine then_n ?_
           refine cond_b hS rfl (fun hc13 => ?_) (fun hc13 => ?_)
           ·skip
            have hk : (findK (nth (wordsR s0).1 0)) = 3 ∨ (findK (nth (wordsR s0).1 0)) = 10 := by first | exact .inl (of_decide_eq_true hc13) | exact .inr (of_decide_eq_true hc13)
            have hlm : 1 ≤ ((wordsR s0).1.drop 1).length := by
              rcases hk with hkk | hkk
              · rw [hkk] at hk1; have h9 : ¬ ((wordsR s0).1.length : Int) < 2 := hk1; omega
              · rw [hkk] at hk1; have h9 : ¬ ((wordsR s0).1.length : Int) < 2 := hk1; omega
            have hff : (fillR (findK (nth (wordsR s0).1 0)) ((wordsR s0).1.drop 1)) = ({zeroC (findK (nth (wordsR s0).1 0)) with id := nth (numsR ((wordsR s0).1.drop 1)).1 0}, 0) := by unfold fillR; rw [if_neg (by omega), if_neg (by omega), if_neg hw, if_pos hk]
            have hr : parseR s0 = ({zeroC (findK (nth (wordsR s0).1 0)) with id := nth (numsR ((wordsR s0).1.drop 1)).1 0}, 0) := by rw [hp]; unfold parseW; rw [if_neg he, if_neg hk0, if_neg hk1, if_neg hk2, hff]; exact if_neg (by simp)
            refine region_seq hS (by kernel_rfl)
              (cF rfl (o_move .t (by rfl)) r1 trivial
              (cF rfl (o_indexAddr_sl (sz := 1) (.mk Tryz.underlying25 (by kernel_rfl)) (by intro x; rfl) .t (.ci (by kernel_rfl)) (by decide) (by omega)) r1 trivial
              (cF rfl (o_load_ref (ag := false) (sz := 1) .t (by kernel_rfl) (by kernel_rfl) (by kernel_rfl)) r1 trivial
              (cF rfl (o_fieldAddr (off := 7) 102 .is (by kernel_rfl) (by rfl)) r1 r1
              (cF rfl (o_store1 102 .adr .t one_int (by kernel_rfl) (by kernel_rfl)) r2 r1
              Chain.nil)))))
              (by kernel_rfl) (by rw [hB]; kernel_rfl) ?_
            clear hS; intro a w F hS
            obtain ⟨F, hS⟩ := hS.norm [(2, _), (3, _), (6, _)] [(0, _), (101, _), (102, _)] r3 r3
            try dsimp only [List.map, stCells, List.length_cons, List.length_nil, Nat.reduceAdd, List.drop_succ_cons, List.drop_zero, List.drop_nil, List.take_succ_cons, List.take_zero, List.take_nil, List.cons_append, List.nil_append, zCF, ldSF, rCmd] at hS
            refine block_n ?_
            refine then_n ?_
            refine wp_seq ?_
            refine region_seq hS (by kernel_rfl)
              (cF rfl (o_load (ag := true) (sz := 10) 102 .is (by kernel_rfl) (by kernel_rfl) (by kernel_rfl) (by rfl)) r1 r1
              (cF rfl (o_storeA (sz := 10) 101 .is .t (by kernel_rfl) (by kernel_rfl) (by kernel_rfl)) r2 r1
              (cF rfl (o_assign (.ci (by kernel_rfl)) (by rfl)) trivial trivial
              Chain.nil)))
              (by kernel_rfl) (by rw [hB]; kernel_rfl) ?_
            clear hS; intro a w F hS
            obtain ⟨F, hS⟩ := hS.norm [(2, _), (3, _)] [(0, _), (101, _), (102, _)] r2 r3
            try dsimp only [List.map, stCells, List.length_cons, List.length_nil, Nat.reduceAdd, List.drop_succ_cons, List.drop_zero, List.drop_nil, List.take_succ_cons, List.take_zero, List.take_nil, List.cons_append, List.nil_append, zCF, ldSF, rCmd] at hS
            refine then_n ?_
            refine wp_ret ?_
            refine ret_P hfr hS rfl (.cell (n := 101) (ag := true) (sz := 10) rfl .is rfl (by kernel_rfl) (by kernel_rfl) (by kernel_rfl) (.tmp rfl .nil)) (.two (.aggU rfl (by rw [hr] <;> rfl)) (.int (by rw [hr])))
           ·skip
            have hnk := of_decide_eq_false hc13
            refine wp_seq ?_
            refine region_seq hS (by kernel_rfl)
              (cF rfl (o_eql .t (.ci (by kernel_rfl))) r1 trivial
              (cF rfl (o_assign .t (by rfl)) r1 trivial
              Chain.nil))
              (by kernel_rfl) (by rw [hB]; kernel_rfl) ?_
            clear hS; intro a w F hS
            obtain ⟨F, hS⟩ := hS.norm [(2, _), (3, _), (6, _), (10, _), (98, _), (106, _)] [(0, _), (101, _), (102, _)] r6 r3
            try dsimp only [rCmd] at hS
            refine then_n ?_
            refine cond_b hS rfl (fun hc14 => ?_) (fun hc14 => ?_)
            ·skip
             have hk : (findK (nth (wordsR s0).1 0)) = 4 := of_decide_eq_true hc14
             have hkk := hk
             have hlm : 1 ≤ ((wordsR s0).1.drop 1).length := by
               rw [hkk] at hk1
               have h9 : ¬ ((wordsR s0).1.length : Int) < 2 := hk1
               omega
             have hff : (fillR (findK (nth (wordsR s0).1 0)) ((wordsR s0).1.drop 1)) = ({zeroC (findK (nth (wordsR s0).1 0)) with order := ⟨nth (numsR ((wordsR s0).1.drop 1)).1 0, (numsR ((wordsR s0).1.drop 1)).1.drop 1⟩}, 0) := by unfold fillR; rw [if_neg (by omega), if_neg (by omega), if_neg hw, if_neg (by omega), if_pos hk]
             have hr : parseR s0 = ({zeroC (findK (nth (wordsR s0).1 0)) with order := ⟨nth (numsR ((wordsR s0).1.drop 1)).1 0, (numsR ((wordsR s0).1.drop 1)).1.drop 1⟩}, 0) := by rw [hp]; unfold parseW; rw [if_neg he, if_neg hk0, if_neg hk1, if_neg hk2, hff]; exact if_neg (by simp)
             refine region_any (by kernel_rfl) hS (by kernel_rfl)
               (cF rfl (o_move .t (by rfl)) r1 trivial
               (cF rfl (o_indexAddr_sl (sz := 1) (.mk Tryz.underlying25 (by kernel_rfl)) (by intro x; rfl) .t (.ci (by kernel_rfl)) (by decide) (by omega)) r1 trivial
               (cF rfl (o_load_ref (ag := false) (sz := 1) .t (by kernel_rfl) (by kernel_rfl) (by kernel_rfl)) r1 trivial
               (cF rfl (o_move .t (by rfl)) r1 trivial
               (cF rfl (o_slice_lo (sz := 1) (.mk Tryz.underlying25 (by kernel_rfl)) (by intro x; rfl) .t (.ci (by kernel_rfl)) (by decide) (by omega)) r1 trivial
               (cF rfl (o_build (r := [(0, .tmp 110), (1, .tmp 112)]) (zs := [.int .i64 0, .slice none 0 0]) (pl := [(0, 1), (1, 1)]) (by kernel_rfl) (by kernel_rfl) (.one rfl .t one_int (by kernel_rfl) (.one rfl .t one_sl (by kernel_rfl) .nil)) (by rfl)) r2 trivial
               (cF rfl (o_fieldAddr (off := 4) 102 .is (by kernel_rfl) (by rfl)) r1 r1
               (cF rfl (o_storeA (sz := 2) 102 .adr .t (by kernel_rfl) (by kernel_rfl) (by kernel_rfl)) r2 r1
               Chain.nil))))))))
               (by kernel_rfl) (by rw [hB]; kernel_rfl) ?_
             clear hS; intro a w F hS
             obtain ⟨F, hS⟩ := hS.norm [(2, _), (3, _), (6, _)] [(0, _), (101, _), (102, _)] r3 r3
             try dsimp only [List.map, stCells, List.length_cons, List.length_nil, Nat.reduceAdd, List.drop_succ_cons, List.drop_zero, List.drop_nil, List.take_succ_cons, List.take_zero, List.take_nil, List.cons_append, List.nil_append, zCF, ldSF, rCmd] at hS
             refine block_n ?_
             refine then_n ?_
             refine wp_seq ?_
             refine region_seq hS (by kernel_rfl)
               (cF rfl (o_load (ag := true) (sz := 10) 102 .is (by kernel_rfl) (by kernel_rfl) (by kernel_rfl) (by rfl)) r1 r1
               (cF rfl (o_storeA (sz := 10) 101 .is .t (by kernel_rfl) (by kernel_rfl) (by kernel_rfl)) r2 r1
               (cF rfl (o_assign (.ci (by kernel_rfl)) (by rfl)) trivial trivial
               Chain.nil)))
               (by kernel_rfl) (by rw [hB]; kernel_rfl) ?_
             clear hS; intro a w F hS
             obtain ⟨F, hS⟩ := hS.norm [(2, _), (3, _)] [(0, _), (101, _), (102, _)] r2 r3
             try dsimp only [List.map, stCells, List.length_cons, List.length_nil, Nat.reduceAdd, List.drop_succ_cons, List.drop_zero, List.drop_nil, List.take_succ_cons, List.take_zero, List.take_nil, List.cons_append, List.nil_append, zCF, ldSF, rCmd] at hS
             refine then_n ?_
             refine wp_ret ?_
             refine ret_P hfr hS rfl (.cell (n := 101) (ag := true) (sz := 10) rfl .is rfl (by kernel_rfl) (by kernel_rfl) (by kernel_rfl) (.tmp rfl .nil)) (.two (.aggU rfl (by rw [hr] <;> rfl)) (.int (by rw [hr])))
            ·skip
             have hnk := of_decide_eq_false hc14
             refine wp_seq ?_
             refine region_seq hS (by kernel_rfl)
               (cF rfl (o_eql .t (.ci (by kernel_rfl))) r1 trivial
               (cF rfl (o_assign .t (by rfl)) r1 trivial
               Chain.nil))
               (by kernel_rfl) (by rw [hB]; kernel_rfl) ?_
             clear hS; intro a w F hS
             obtain ⟨F, hS⟩ := hS.norm [(2, _), (3, _), (6, _), (10, _), (115, _)] [(0, _), (101, _), (102, _)] r5 r3
             try dsimp only [rCmd] at hS
             refine then_n ?_
             refine cond_b hS rfl (fun hc15 => ?_) (fun hc15 => ?_)
             ·skip
              have hk : (findK (nth (wordsR s0).1 0)) = 5 := of_decide_eq_true hc15
              have hkk := hk
              have hlm : 3 ≤ ((wordsR s0).1.drop 1).length := by
                rw [hkk] at hk1
                have h9 : ¬ ((wordsR s0).1.length : Int) < 4 := hk1
                omega
              have hff : (fillR (findK (nth (wordsR s0).1 0)) ((wordsR s0).1.drop 1)) = ({zeroC (findK (nth (wordsR s0).1 0)) with key := nth (numsR ((wordsR s0).1.drop 1)).1 0, id := nth (numsR ((wordsR s0).1.drop 1)).1 1, place := nth (numsR ((wordsR s0).1.drop 1)).1 2}, 0) := by unfold fillR; rw [if_neg (by omega), if_neg (by omega), if_neg hw, if_neg (by omega), if_neg (by omega), if_pos hk]
              have hr : parseR s0 = ({zeroC (findK (nth (wordsR s0).1 0)) with key := nth (numsR ((wordsR s0).1.drop 1)).1 0, id := nth (numsR ((wordsR s0).1.drop 1)).1 1, place := nth (numsR ((wordsR s0).1.drop 1)).1 2}, 0) := by rw [hp]; unfold parseW; rw [if_neg he, if_neg hk0, if_neg hk1, if_neg hk2, hff]; exact if_neg (by simp)
              refine wp_seq ?_
              refine region_seq hS (by kernel_rfl)
                (cF rfl (o_move .t (by rfl)) r1 trivial
                (cF rfl (o_indexAddr_sl (sz := 1) (.mk Tryz.underlying25 (by kernel_rfl)) (by intro x; rfl) .t (.ci (by kernel_rfl)) (by decide) (by omega)) r1 trivial
                (cF rfl (o_load_ref (ag := false) (sz := 1) .t (by kernel_rfl) (by kernel_rfl) (by kernel_rfl)) r1 trivial
                (cF rfl (o_fieldAddr (off := 6) 102 .is (by kernel_rfl) (by rfl)) r1 r1
                (cF rfl (o_store1 102 .adr .t one_int (by kernel_rfl) (by kernel_rfl)) r2 r1
                Chain.nil)))))
                (by kernel_rfl) (by rw [hB]; kernel_rfl) ?_
              clear hS; intro a w F hS
              obtain ⟨F, hS⟩ := hS.norm [(2, _), (3, _), (6, _), (10, _)] [(0, _), (101, _), (102, _)] r4 r3
              try dsimp only [List.map, stCells, List.length_cons, List.length_nil, Nat.reduceAdd, List.drop_succ_cons, List.drop_zero, List.drop_nil, List.take_succ_cons, List.take_zero, List.take_nil, List.cons_append, List.nil_append, zCF, ldSF, rCmd] at hS
              refine then_n ?_
              refine wp_seq ?_
              refine region_seq hS (by kernel_rfl)
                (cF rfl (o_move .t (by rfl)) r1 trivial
                (cF rfl (o_indexAddr_sl (sz := 1) (.mk Tryz.underlying25 (by kernel_rfl)) (by intro x; rfl) .t (.ci (by kernel_rfl)) (by decide) (by omega)) r1 trivial
                (cF rfl (o_load_ref (ag := false) (sz := 1) .t (by kernel_rfl) (by kernel_rfl) (by kernel_rfl)) r1 trivial
                (cF rfl (o_fieldAddr (off := 7) 102 .is (by kernel_rfl) (by rfl)) r1 r1
                (cF rfl (o_store1 102 .adr .t one_int (by kernel_rfl) (by kernel_rfl)) r2 r1
                Chain.nil)))))
                (by kernel_rfl) (by rw [hB]; kernel_rfl) ?_
              clear hS; intro a w F hS
              obtain ⟨F, hS⟩ := hS.norm [(2, _), (3, _), (6, _), (10, _)] [(0, _), (101, _), (102, _)] r4 r3
              try dsimp only [List.map, stCells, List.length_cons, List.length_nil, Nat.reduceAdd, List.drop_succ_cons, List.drop_zero, List.drop_nil, List.take_succ_cons, List.take_zero, List.take_nil, List.cons_append, List.nil_append, zCF, ldSF, rCmd] at hS
              refine then_n ?_
              refine region_seq hS (by kernel_rfl)
                (cF rfl (o_move .t (by rfl)) r1 trivial
                (cF rfl (o_indexAddr_sl (sz := 1) (.mk Tryz.underlying25 (by kernel_rfl)) (by intro x; rfl) .t (.ci (by kernel_rfl)) (by decide) (by omega)) r1 trivial
                (cF rfl (o_load_ref (ag := false) (sz := 1) .t (by kernel_rfl) (by kernel_rfl) (by kernel_rfl)) r1 trivial
                (cF rfl (o_fieldAddr (off := 8) 102 .is (by kernel_rfl) (by rfl)) r1 r1
                (cF rfl (o_store1 102 .adr .t one_int (by kernel_rfl) (by kernel_rfl)) r2 r1
                Chain.nil)))))
                (by kernel_rfl) (by rw [hB]; kernel_rfl) ?_
              clear hS; intro a w F hS
              obtain ⟨F, hS⟩ := hS.norm [(2, _), (3, _), (6, _)] [(0, _), (101, _), (102, _)] r3 r3
              try dsimp only [List.map, stCells, List.length_cons, List.length_nil, Nat.reduceAdd, List.drop_succ_cons, List.drop_zero, List.drop_nil, List.take_succ_cons, List.take_zero, List.take_nil, List.cons_append, List.nil_append, zCF, ldSF, rCmd] at hS
              refine block_n ?_
              refine then_n ?_
              refine wp_seq ?_
              refine region_seq hS (by kernel_rfl)
                (cF rfl (o_load (ag := true) (sz := 10) 102 .is (by kernel_rfl) (by kernel_rfl) (by kernel_rfl) (by rfl)) r1 r1
                (cF rfl (o_storeA (sz := 10) 101 .is .t (by kernel_rfl) (by kernel_rfl) (by kernel_rfl)) r2 r1
                (cF rfl (o_assign (.ci (by kernel_rfl)) (by rfl)) trivial trivial
                Chain.nil)))
                (by kernel_rfl) (by rw [hB]; kernel_rfl) ?_
              clear hS; intro a w F hS
              obtain ⟨F, hS⟩ := hS.norm [(2, _), (3, _)] [(0, _), (101, _), (102, _)] r2 r3
              try dsimp only [List.map, stCells, List.length_cons, List.length_nil, Nat.reduceAdd, List.drop_succ_cons, List.drop_zero, List.drop_nil, List.take_succ_cons, List.take_zero, List.take_nil, List.cons_append, List.nil_append, zCF, ldSF, rCmd] at hS
              refine then_n ?_
              refine wp_ret ?_
              refine ret_P hfr hS rfl (.cell (n := 101) (ag := true) (sz := 10) rfl .is rfl (by kernel_rfl) (by kernel_rfl) (by kernel_rfl) (.tmp rfl .nil)) (.two (.aggU rfl (by rw [hr] <;> rfl)) (.int (by rw [hr])))
             ·skip
              have hnk := of_decide_eq_false hc15
              have hff : (fillR (findK (nth (wordsR s0).1 0)) ((wordsR s0).1.drop 1)) = (zeroC (findK (nth (wordsR s0).1 0)), 0) := by unfold fillR; rw [if_neg (by omega), if_neg (by omega), if_neg hw, if_neg (by omega), if_neg (by omega), if_neg (by omega)]
              have hr : parseR s0 = (zeroC (findK (nth (wordsR s0).1 0)), 0) := by rw [hp]; unfold parseW; rw [if_neg he, if_neg hk0, if_neg hk1, if_neg hk2, hff]; exact if_neg (by simp)
              refine wp_skip ?_
              refine block_n ?_
              refine then_n ?_
              refine wp_seq ?_
              refine region_seq hS (by kernel_rfl)
                (cF rfl (o_load (ag := true) (sz := 10) 102 .is (by kernel_rfl) (by kernel_rfl) (by kernel_rfl) (by rfl)) r1 r1
                (cF rfl (o_storeA (sz := 10) 101 .is .t (by kernel_rfl) (by kernel_rfl) (by kernel_rfl)) r2 r1
                (cF rfl (o_assign (.ci (by kernel_rfl)) (by rfl)) trivial trivial
                Chain.nil)))
                (by kernel_rfl) (by rw [hB]; kernel_rfl) ?_
              clear hS; intro a w F hS
              obtain ⟨F, hS⟩ := hS.norm [(2, _), (3, _)] [(0, _), (101, _), (102, _)] r2 r3
              try dsimp only [List.map, stCells, List.length_cons, List.length_nil, Nat.reduceAdd, List.drop_succ_cons, List.drop_zero, List.drop_nil, List.take_succ_cons, List.take_zero, List.take_nil, List.cons_append, List.nil_append, zCF, ldSF, rCmd] at hS
              refine then_n ?_
              refine wp_ret ?_
              refine ret_P hfr hS rfl (.cell (n := 101) (ag := true) (sz := 10) rfl .is rfl (by kernel_rfl) (by kernel_rfl) (by kernel_rfl) (.tmp rfl .nil)) (.two (.aggU rfl (by rw [hr] <;> rfl)) (.int (by rw [hr])))

end Go.Proofs.YtjdcnjemhjldoaaGreatDoor
