/- Find, Has. No condition beyond those that each theorem says. -/
import Derived.Test.YtpjjmolibanakaaHi0
import Derived.Test.YtpjjmolibanakaaTx6
namespace Go.Proofs.Ytpjjmolibanakaa
open Go Go.Gm
set_option linter.unusedVariables false
set_option linter.unusedSimpArgs false
set_option maxHeartbeats 4000000
set_option maxRecDepth 8000


theorem copied_c (t : TxD) (hl : t.ops.length ≤ 1000000) : FnP Try.prog 176 [.agg (rTx t)] (.agg (rTx t)) := by
  refine FnP.mk Try.func176 rfl Try.ntmps176 rfl ?_
  intro B a w F hB hfr hS
  refine wp_seq ?_
  refine region_seq hS (by kernel_rfl)
    (cF rfl (o_boxA 101 (.conv .t .agg) (by kernel_rfl)) r1 trivial
    (cF rfl (o_alloc (zs := [.int .i64 0, .bool false, .slice none 0 0]) 102 (by kernel_rfl)) trivial trivial
    Chain.nil))
    (by kernel_rfl) (by rw [hB]; kernel_rfl) ?_
  clear hS; intro a w F hS
  replace hS := hS.sub
  obtain ⟨F, hS⟩ := hS.norm [(1, _), (2, _)] [(0, _), (101, _), (102, _)] r2 r3
  try dsimp only [RS.sub, SF.sub, CF.sub, csub, Anc.sub, List.map, zCF, rHist, rTx, rOrd, rVer, rInt, rOp] at hS
  generalize Act.tau a 1 = v1 at hS
  generalize Act.tau a 2 = v2 at hS
  refine then_n ?_
  refine wp_seq ?_
  replace hS := hS.fresh 103 rfl
  refine region_seq hS (by kernel_rfl)
    (cF rfl (o_fieldAddr (off := 2) 101 .is (by kernel_rfl) (by rfl)) r1 r1
    (cF rfl (o_load (ag := false) (sz := 1) 101 .adr (by kernel_rfl) (by kernel_rfl) (by kernel_rfl) (by rfl)) r1 r1
    (cF rfl (o_callN 103 (cloneO_c t.ops hl) Try.func107 rfl (by kernel_rfl) (Args.one .t) pvOne1) r1 r1
    (cF rfl (o_fieldAddr (off := 2) 101 .is (by kernel_rfl) (by rfl)) r1 r1
    (cF rfl (o_storeS 101 .adr (by kernel_rfl) (by kernel_rfl)) r2 r1
    Chain.nil)))))
    (by kernel_rfl) (by rw [hB]; kernel_rfl) ?_
  clear hS; intro a w F hS
  replace hS := hS.sub
  obtain ⟨F, hS⟩ := hS.norm [(1, _), (2, _)] [(0, _), (101, _), (102, _), (103, _)] r2 r4
  try dsimp only [RS.sub, SF.sub, CF.sub, csub, Anc.sub, List.map, stCells, List.length_cons, List.length_nil, Nat.reduceAdd, List.drop_succ_cons, List.drop_zero, List.drop_nil, List.take_succ_cons, List.take_zero, List.take_nil, List.cons_append, List.nil_append, zCF, ldSF, rHist, rTx, rOrd, rVer, rInt, rOp] at hS
  generalize Act.tau a 5 = v5 at hS
  obtain ⟨F, hS⟩ := hS.giveCell 103 101 2 rfl rfl rfl rfl rfl
  try dsimp only [List.set] at hS
  obtain ⟨F, hS⟩ := hS.norm [(1, _), (2, _)] [(0, _), (101, _), (102, _)] r2 r3
  refine then_n ?_
  refine wp_seq ?_
  refine region_seq hS (by kernel_rfl)
    (cF rfl (o_load (ag := true) (sz := 3) 101 .is (by kernel_rfl) (by kernel_rfl) (by kernel_rfl) (by rfl)) r1 r1
    (cF rfl (o_storeA (sz := 3) 102 .is .t (by kernel_rfl) (by kernel_rfl) (by kernel_rfl)) r2 r1
    Chain.nil))
    (by kernel_rfl) (by rw [hB]; kernel_rfl) ?_
  clear hS; intro a w F hS
  obtain ⟨F, hS⟩ := hS.norm [(2, _)] [(0, _), (101, _), (102, _)] r1 r3
  try dsimp only [List.map, stCells, List.length_cons, List.length_nil, Nat.reduceAdd, List.drop_succ_cons, List.drop_zero, List.drop_nil, List.take_succ_cons, List.take_zero, List.take_nil, List.cons_append, List.nil_append, zCF, ldSF, rHist, rTx, rOrd, rVer, rInt, rOp] at hS
  refine then_n ?_
  refine wp_ret ?_
  refine ret_P hfr hS rfl (.cell (n := 102) (ag := true) (sz := 3) rfl .is rfl (by kernel_rfl) (by kernel_rfl) (by kernel_rfl) .nil) (.one (.aggU rfl rfl))

theorem find_c (g : HistD) (id : Int) (hs : SmallT g.txs) : FnP Try.prog 175 [.agg (rHist g), .int .i64 id] (.tup [.agg (rTx ((findT g.txs id).getD zeroT)), .bool (findT g.txs id).isSome]) := by
  refine FnP.mk Try.func175 rfl Try.ntmps175 rfl ?_
  intro B a w F hB hfr hS
  have hsl := hs.1
  refine wp_seq ?_
  refine region_seq hS (by kernel_rfl)
    (cF rfl (o_boxA 101 (.conv .t .agg) (by kernel_rfl)) r1 trivial
    (cF rfl (o_alloc (zs := [.int .i64 0, .bool false, .slice none 0 0]) 102 (by kernel_rfl)) trivial trivial
    (cF rfl (o_assign .cb (by rfl)) trivial trivial
    Chain.nil)))
    (by kernel_rfl) (by rw [hB]; kernel_rfl) ?_
  clear hS; intro a w F hS
  replace hS := hS.sub
  obtain ⟨F, hS⟩ := hS.norm [(1, _), (2, _), (4, _), (5, _)] [(0, _), (101, _), (102, _)] r4 r3
  try dsimp only [RS.sub, SF.sub, CF.sub, csub, Anc.sub, List.map, zCF, rHist, rTx, rOrd, rVer, rInt, rOp] at hS
  generalize Act.tau a 2 = v2 at hS
  generalize Act.tau a 4 = v4 at hS
  refine then_n ?_
  refine wp_seq ?_
  refine wp_seq ?_
  refine region_seq hS (by kernel_rfl)
    (cF rfl (o_fieldAddr (off := 0) 101 .is (by kernel_rfl) (by rfl)) r1 r1
    (cF rfl (o_load (ag := false) (sz := 1) 101 .adr (by kernel_rfl) (by kernel_rfl) (by kernel_rfl) (by rfl)) r1 r1
    (cF rfl (o_len_sl Try.underlying63 .t) r1 trivial
    (cF rfl (o_move (.ci (by kernel_rfl)) (by rfl)) trivial trivial
    Chain.nil))))
    (by kernel_rfl) (by rw [hB]; kernel_rfl) ?_
  clear hS; intro a w F hS
  obtain ⟨F, hS⟩ := hS.norm [(1, _), (4, _), (5, _), (9, _), (10, _), (11, _)] [(0, _), (101, _), (102, _)] r6 r3
  try dsimp only [List.map, List.drop_succ_cons, List.drop_zero, List.drop_nil, List.take_succ_cons, List.take_zero, List.take_nil, ldSF, rHist, rTx, rOrd, rVer, rInt, rOp] at hS
  refine then_n ?_
  refine wp_block ?_
  refine loop_keep (σ := (Nat)) [1, 4, 5, 9, 10] [0, 101, 102] (fun s => [(11, .pv (.int .i64 (s : Int)))]) (fun s => []) (fun s => s ≤ g.txs.length ∧ (∀ k, k < s → (Go.Gm.nth g.txs k).id ≠ id)) (fun s => g.txs.length - s) (0) hS ⟨rfl, rfl, rfl, rfl, rfl, rfl, trivial⟩ ⟨rfl, rfl, rfl, trivial⟩ ⟨Nat.zero_le _, fun k hk => absurd hk (Nat.not_lt_zero k)⟩ ?_
  clear hS; intro i a w F hC hS
  try dsimp only at hC
  obtain ⟨F, hS⟩ := hS.norm [(1, _), (4, _), (5, _), (9, _), (10, _), (11, _)] [(0, _), (101, _), (102, _)] r6 r3
  try dsimp only at hS
  obtain ⟨hi, hq⟩ := hC
  refine wp_seq ?_
  refine region_seq hS (by kernel_rfl)
    (cF rfl (o_lss .t .t) r2 trivial
    Chain.nil)
    (by kernel_rfl) (by rw [hB]; kernel_rfl) ?_
  clear hS; intro a w F hS
  obtain ⟨F, hS⟩ := hS.norm [(1, _), (4, _), (5, _), (9, _), (10, _), (11, _), (12, _)] [(0, _), (101, _), (102, _)] r7 r3
  try dsimp only [rHist, rTx, rOrd, rVer, rInt, rOp] at hS
  refine then_n ?_
  refine wp_seq ?_
  refine cond_b hS rfl (fun hc0 => ?_) (fun hc0 => ?_)
  ·skip
   have hil : i < g.txs.length := by simp at hc0; omega
   refine wp_skip ?_
   refine then_n ?_
   refine wp_seq ?_
   refine wp_block ?_
   refine wp_seq ?_
   refine region_seq hS (by kernel_rfl)
     (cF rfl (o_indexAddr_sl (sz := 3) (.mk Try.underlying63 (by kernel_rfl)) (by intro x; rfl) .t .t (by omega) (by omega)) r2 trivial
     (cF rfl (o_load_ref (ag := true) (sz := 3) .t (by kernel_rfl) (by kernel_rfl) (by kernel_rfl)) r1 trivial
     (cF rfl (o_alloc (zs := [.int .i64 0, .bool false, .slice none 0 0]) 103 (by kernel_rfl)) trivial trivial
     (cF rfl (o_storeA (sz := 3) 103 .same .t (by kernel_rfl) (by kernel_rfl) (by kernel_rfl)) r2 r1
     Chain.nil))))
     (by kernel_rfl) (by rw [hB]; kernel_rfl) ?_
   clear hS; intro a w F hS
   replace hS := hS.sub
   obtain ⟨F, hS⟩ := hS.norm [(1, _), (4, _), (5, _), (7, _), (9, _), (10, _), (11, _), (12, _), (13, _), (14, _)] [(0, _), (101, _), (102, _), (103, _)] ⟨rfl, rfl, rfl, rfl, rfl, rfl, rfl, rfl, rfl, rfl, trivial⟩ r4
   try dsimp only [RS.sub, SF.sub, CF.sub, csub, Anc.sub, List.map, stCells, List.length_cons, List.length_nil, Nat.reduceAdd, List.drop_succ_cons, List.drop_zero, List.drop_nil, List.take_succ_cons, List.take_zero, List.take_nil, List.cons_append, List.nil_append, zCF, ldSF, rHist, rTx, rOrd, rVer, rInt, rOp] at hS
   generalize Act.tau a 7 = v7 at hS
   try simp only [Int.toNat_natCast] at hS
   refine then_n ?_
   refine wp_seq ?_
   refine region_seq hS (by kernel_rfl)
     (cF rfl (o_fieldAddr (off := 0) 103 .is (by kernel_rfl) (by rfl)) r1 r1
     (cF rfl (o_load (ag := false) (sz := 1) 103 .adr (by kernel_rfl) (by kernel_rfl) (by kernel_rfl) (by rfl)) r1 r1
     (cF rfl (o_move .t (by rfl)) r1 trivial
     (cF rfl (o_eql .t .t) r2 trivial
     Chain.nil))))
     (by kernel_rfl) (by rw [hB]; kernel_rfl) ?_
   clear hS; intro a w F hS
   obtain ⟨F, hS⟩ := hS.norm [(1, _), (4, _), (5, _), (7, _), (9, _), (10, _), (11, _), (12, _), (13, _), (14, _), (15, _), (16, _), (17, _), (18, _)] [(0, _), (101, _), (102, _), (103, _)] ⟨rfl, rfl, rfl, rfl, rfl, rfl, rfl, rfl, rfl, rfl, rfl, rfl, rfl, rfl, trivial⟩ r4
   try dsimp only [List.map, List.drop_succ_cons, List.drop_zero, List.drop_nil, List.take_succ_cons, List.take_zero, List.take_nil, ldSF, rHist, rTx, rOrd, rVer, rInt, rOp] at hS
   refine then_n ?_
   refine cond_b hS rfl (fun hc1 => ?_) (fun hc1 => ?_)
   ·skip
    have hg : findT g.txs id = some (Go.Gm.nth g.txs i) := findT_at hil (by simpa using hc1) hq
    refine wp_seq ?_
    refine region_seq hS (by kernel_rfl)
      (cF rfl (o_load (ag := true) (sz := 3) 103 .is (by kernel_rfl) (by kernel_rfl) (by kernel_rfl) (by rfl)) r1 r1
      (cF rfl (o_callP (copied_c (Go.Gm.nth g.txs i) (by have := hs.at hil; omega)) Try.func176 rfl (by kernel_rfl) (Args.one (.pagg .t))) r1 trivial
      (cF rfl (o_storeA (sz := 3) 102 .is (.conv .t .agg) (by kernel_rfl) (by kernel_rfl) (by kernel_rfl)) r2 r1
      (cF rfl (o_assign .cb (by rfl)) trivial trivial
      Chain.nil))))
      (by kernel_rfl) (by rw [hB]; kernel_rfl) ?_
    clear hS; intro a w F hS
    obtain ⟨F, hS⟩ := hS.norm [(1, _), (4, _), (5, _), (7, _), (9, _), (10, _), (11, _), (12, _), (13, _), (14, _), (15, _), (16, _), (17, _), (18, _), (19, _), (20, _)] [(0, _), (101, _), (102, _), (103, _)] ⟨rfl, rfl, rfl, rfl, rfl, rfl, rfl, rfl, rfl, rfl, rfl, rfl, rfl, rfl, rfl, rfl, trivial⟩ r4
    try dsimp only [List.map, stCells, List.length_cons, List.length_nil, Nat.reduceAdd, List.drop_succ_cons, List.drop_zero, List.drop_nil, List.take_succ_cons, List.take_zero, List.take_nil, List.cons_append, List.nil_append, zCF, ldSF, rHist, rTx, rOrd, rVer, rInt, rOp] at hS
    refine then_n ?_
    refine wp_ret ?_
    refine block_r ?_
    refine then_r ?_
    refine then_r ?_
    refine block_r ?_
    refine then_r ?_
    refine ret_P hfr hS rfl (.cell (n := 102) (ag := true) (sz := 3) rfl .is rfl (by kernel_rfl) (by kernel_rfl) (by kernel_rfl) (.tmp rfl .nil)) (.two (by rw [hg]; first | exact .aggU rfl rfl | exact .aggLe rfl ⟨.refl, .refl, .nilSl, trivial⟩) (.bool (by rw [hg]; rfl)))
   ·skip
    have hne : (Go.Gm.nth g.txs i).id ≠ id := by simpa using hc1
    refine wp_skip ?_
    refine block_n ?_
    refine then_n ?_
    refine region_seq hS (by kernel_rfl)
      (cF rfl (o_add .t (.ci (by kernel_rfl))) r1 trivial
      (cF rfl (o_move .t (by rfl)) r1 trivial
      Chain.nil))
      (by kernel_rfl) (by rw [hB]; kernel_rfl) ?_
    clear hS; intro a w F hS
    obtain ⟨F, hS⟩ := hS.norm [(1, _), (4, _), (5, _), (7, _), (9, _), (10, _), (11, _), (12, _), (13, _), (14, _), (15, _), (16, _), (17, _), (18, _), (21, _)] [(0, _), (101, _), (102, _), (103, _)] ⟨rfl, rfl, rfl, rfl, rfl, rfl, rfl, rfl, rfl, rfl, rfl, rfl, rfl, rfl, rfl, trivial⟩ r4
    try dsimp only [rHist, rTx, rOrd, rVer, rInt, rOp] at hS
    refine then_n ?_
    replace hS := hS.ent (i := 11) (s' := .pv (.int .i64 ((i + 1 : Nat) : Int))) rfl (.int (wrap_succ (by omega)))
    obtain ⟨F, hS⟩ := hS.norm [(11, _), (1, _), (4, _), (5, _), (9, _), (10, _)] [(0, _), (101, _), (102, _)] ⟨rfl, rfl, rfl, rfl, rfl, rfl, trivial⟩ ⟨rfl, rfl, rfl, trivial⟩
    exact ⟨(i + 1), F, ⟨by omega, (fun k hk => by rcases Nat.lt_or_eq_of_le (Nat.le_of_lt_succ hk) with h9 | h9; exact hq k h9; rw [h9]; exact hne)⟩, hS, by omega⟩
  ·skip
   have hil : i = g.txs.length := by simp at hc0; omega
   have hg : findT g.txs id = none := findT_none (by rw [← hil]; exact hq)
   refine wp_exit ?_
   refine then_x ?_
   refine then_x ?_
   refine block_x ?_
   refine then_n ?_
   refine wp_seq ?_
   refine region_seq hS (by kernel_rfl)
     (cF rfl (o_build (r := []) (zs := [.int .i64 0, .bool false, .slice none 0 0]) (pl := [(0, 1), (1, 1), (2, 1)]) (by kernel_rfl) (by kernel_rfl) .nil (by rfl)) trivial trivial
     (cF rfl (o_storeA (sz := 3) 102 .is .t (by kernel_rfl) (by kernel_rfl) (by kernel_rfl)) r2 r1
     (cF rfl (o_assign .cb (by rfl)) trivial trivial
     Chain.nil)))
     (by kernel_rfl) (by rw [hB]; kernel_rfl) ?_
   clear hS; intro a w F hS
   obtain ⟨F, hS⟩ := hS.norm [(4, _), (5, _)] [(0, _), (101, _), (102, _)] r2 r3
   try dsimp only [List.map, stCells, List.length_cons, List.length_nil, Nat.reduceAdd, List.drop_succ_cons, List.drop_zero, List.drop_nil, List.take_succ_cons, List.take_zero, List.take_nil, List.cons_append, List.nil_append, zCF, rHist, rTx, rOrd, rVer, rInt, rOp] at hS
   refine then_n ?_
   refine wp_ret ?_
   refine ret_P hfr hS rfl (.cell (n := 102) (ag := true) (sz := 3) rfl .is rfl (by kernel_rfl) (by kernel_rfl) (by kernel_rfl) (.tmp rfl .nil)) (.two (by rw [hg]; first | exact .aggU rfl rfl | exact .aggLe rfl ⟨.refl, .refl, .nilSl, trivial⟩) (.bool (by rw [hg]; rfl)))

theorem refFind_c (g : HistD) (id : Int) (hs : SmallT g.txs) : FnP Try.prog 132 [.agg (rHist g), .int .i64 id] (.tup [.agg (rTx ((findT g.txs id).getD zeroT)), .bool (findT g.txs id).isSome]) := by
  refine FnP.mk Try.func132 rfl Try.ntmps132 rfl ?_
  intro B a w F hB hfr hS
  have hsl := hs.1
  refine wp_seq ?_
  refine region_seq hS (by kernel_rfl)
    (cF rfl (o_boxA 101 (.conv .t .agg) (by kernel_rfl)) r1 trivial
    (cF rfl (o_alloc (zs := [.int .i64 0, .bool false, .slice none 0 0]) 102 (by kernel_rfl)) trivial trivial
    (cF rfl (o_assign .cb (by rfl)) trivial trivial
    Chain.nil)))
    (by kernel_rfl) (by rw [hB]; kernel_rfl) ?_
  clear hS; intro a w F hS
  replace hS := hS.sub
  obtain ⟨F, hS⟩ := hS.norm [(1, _), (2, _), (4, _), (5, _)] [(0, _), (101, _), (102, _)] r4 r3
  try dsimp only [RS.sub, SF.sub, CF.sub, csub, Anc.sub, List.map, zCF, rHist, rTx, rOrd, rVer, rInt, rOp] at hS
  generalize Act.tau a 2 = v2 at hS
  generalize Act.tau a 4 = v4 at hS
  refine then_n ?_
  refine wp_seq ?_
  refine wp_seq ?_
  refine region_seq hS (by kernel_rfl)
    (cF rfl (o_fieldAddr (off := 0) 101 .is (by kernel_rfl) (by rfl)) r1 r1
    (cF rfl (o_load (ag := false) (sz := 1) 101 .adr (by kernel_rfl) (by kernel_rfl) (by kernel_rfl) (by rfl)) r1 r1
    (cF rfl (o_len_sl Try.underlying63 .t) r1 trivial
    (cF rfl (o_move (.ci (by kernel_rfl)) (by rfl)) trivial trivial
    Chain.nil))))
    (by kernel_rfl) (by rw [hB]; kernel_rfl) ?_
  clear hS; intro a w F hS
  obtain ⟨F, hS⟩ := hS.norm [(1, _), (4, _), (5, _), (9, _), (10, _), (11, _)] [(0, _), (101, _), (102, _)] r6 r3
  try dsimp only [List.map, List.drop_succ_cons, List.drop_zero, List.drop_nil, List.take_succ_cons, List.take_zero, List.take_nil, ldSF, rHist, rTx, rOrd, rVer, rInt, rOp] at hS
  refine then_n ?_
  refine wp_block ?_
  refine loop_keep (σ := (Nat)) [1, 4, 5, 9, 10] [0, 101, 102] (fun s => [(11, .pv (.int .i64 (s : Int)))]) (fun s => []) (fun s => s ≤ g.txs.length ∧ (∀ k, k < s → (Go.Gm.nth g.txs k).id ≠ id)) (fun s => g.txs.length - s) (0) hS ⟨rfl, rfl, rfl, rfl, rfl, rfl, trivial⟩ ⟨rfl, rfl, rfl, trivial⟩ ⟨Nat.zero_le _, fun k hk => absurd hk (Nat.not_lt_zero k)⟩ ?_
  clear hS; intro i a w F hC hS
  try dsimp only at hC
  obtain ⟨F, hS⟩ := hS.norm [(1, _), (4, _), (5, _), (9, _), (10, _), (11, _)] [(0, _), (101, _), (102, _)] r6 r3
  try dsimp only at hS
  obtain ⟨hi, hq⟩ := hC
  refine wp_seq ?_
  refine region_seq hS (by kernel_rfl)
    (cF rfl (o_lss .t .t) r2 trivial
    Chain.nil)
    (by kernel_rfl) (by rw [hB]; kernel_rfl) ?_
  clear hS; intro a w F hS
  obtain ⟨F, hS⟩ := hS.norm [(1, _), (4, _), (5, _), (9, _), (10, _), (11, _), (12, _)] [(0, _), (101, _), (102, _)] r7 r3
  try dsimp only [rHist, rTx, rOrd, rVer, rInt, rOp] at hS
  refine then_n ?_
  refine wp_seq ?_
  refine cond_b hS rfl (fun hc0 => ?_) (fun hc0 => ?_)
  ·skip
   have hil : i < g.txs.length := by simp at hc0; omega
   refine wp_skip ?_
   refine then_n ?_
   refine wp_seq ?_
   refine wp_block ?_
   refine wp_seq ?_
   refine region_seq hS (by kernel_rfl)
     (cF rfl (o_indexAddr_sl (sz := 3) (.mk Try.underlying63 (by kernel_rfl)) (by intro x; rfl) .t .t (by omega) (by omega)) r2 trivial
     (cF rfl (o_load_ref (ag := true) (sz := 3) .t (by kernel_rfl) (by kernel_rfl) (by kernel_rfl)) r1 trivial
     (cF rfl (o_alloc (zs := [.int .i64 0, .bool false, .slice none 0 0]) 103 (by kernel_rfl)) trivial trivial
     (cF rfl (o_storeA (sz := 3) 103 .same .t (by kernel_rfl) (by kernel_rfl) (by kernel_rfl)) r2 r1
     Chain.nil))))
     (by kernel_rfl) (by rw [hB]; kernel_rfl) ?_
   clear hS; intro a w F hS
   replace hS := hS.sub
   obtain ⟨F, hS⟩ := hS.norm [(1, _), (4, _), (5, _), (7, _), (9, _), (10, _), (11, _), (12, _), (13, _), (14, _)] [(0, _), (101, _), (102, _), (103, _)] ⟨rfl, rfl, rfl, rfl, rfl, rfl, rfl, rfl, rfl, rfl, trivial⟩ r4
   try dsimp only [RS.sub, SF.sub, CF.sub, csub, Anc.sub, List.map, stCells, List.length_cons, List.length_nil, Nat.reduceAdd, List.drop_succ_cons, List.drop_zero, List.drop_nil, List.take_succ_cons, List.take_zero, List.take_nil, List.cons_append, List.nil_append, zCF, ldSF, rHist, rTx, rOrd, rVer, rInt, rOp] at hS
   generalize Act.tau a 7 = v7 at hS
   try simp only [Int.toNat_natCast] at hS
   refine then_n ?_
   refine wp_seq ?_
   refine region_seq hS (by kernel_rfl)
     (cF rfl (o_fieldAddr (off := 0) 103 .is (by kernel_rfl) (by rfl)) r1 r1
     (cF rfl (o_load (ag := false) (sz := 1) 103 .adr (by kernel_rfl) (by kernel_rfl) (by kernel_rfl) (by rfl)) r1 r1
     (cF rfl (o_move .t (by rfl)) r1 trivial
     (cF rfl (o_eql .t .t) r2 trivial
     Chain.nil))))
     (by kernel_rfl) (by rw [hB]; kernel_rfl) ?_
   clear hS; intro a w F hS
   obtain ⟨F, hS⟩ := hS.norm [(1, _), (4, _), (5, _), (7, _), (9, _), (10, _), (11, _), (12, _), (13, _), (14, _), (15, _), (16, _), (17, _), (18, _)] [(0, _), (101, _), (102, _), (103, _)] ⟨rfl, rfl, rfl, rfl, rfl, rfl, rfl, rfl, rfl, rfl, rfl, rfl, rfl, rfl, trivial⟩ r4
   try dsimp only [List.map, List.drop_succ_cons, List.drop_zero, List.drop_nil, List.take_succ_cons, List.take_zero, List.take_nil, ldSF, rHist, rTx, rOrd, rVer, rInt, rOp] at hS
   refine then_n ?_
   refine cond_b hS rfl (fun hc1 => ?_) (fun hc1 => ?_)
   ·skip
    have hg : findT g.txs id = some (Go.Gm.nth g.txs i) := findT_at hil (by simpa using hc1) hq
    refine wp_seq ?_
    refine region_seq hS (by kernel_rfl)
      (cF rfl (o_load (ag := true) (sz := 3) 103 .is (by kernel_rfl) (by kernel_rfl) (by kernel_rfl) (by rfl)) r1 r1
      (cF rfl (o_storeA (sz := 3) 102 .is .t (by kernel_rfl) (by kernel_rfl) (by kernel_rfl)) r2 r1
      (cF rfl (o_assign .cb (by rfl)) trivial trivial
      Chain.nil)))
      (by kernel_rfl) (by rw [hB]; kernel_rfl) ?_
    clear hS; intro a w F hS
    obtain ⟨F, hS⟩ := hS.norm [(1, _), (4, _), (5, _), (7, _), (9, _), (10, _), (11, _), (12, _), (13, _), (14, _), (15, _), (16, _), (17, _), (18, _), (19, _)] [(0, _), (101, _), (102, _), (103, _)] ⟨rfl, rfl, rfl, rfl, rfl, rfl, rfl, rfl, rfl, rfl, rfl, rfl, rfl, rfl, rfl, trivial⟩ r4
    try dsimp only [List.map, stCells, List.length_cons, List.length_nil, Nat.reduceAdd, List.drop_succ_cons, List.drop_zero, List.drop_nil, List.take_succ_cons, List.take_zero, List.take_nil, List.cons_append, List.nil_append, zCF, ldSF, rHist, rTx, rOrd, rVer, rInt, rOp] at hS
    refine then_n ?_
    refine wp_ret ?_
    refine block_r ?_
    refine then_r ?_
    refine then_r ?_
    refine block_r ?_
    refine then_r ?_
    refine ret_P hfr hS rfl (.cell (n := 102) (ag := true) (sz := 3) rfl .is rfl (by kernel_rfl) (by kernel_rfl) (by kernel_rfl) (.tmp rfl .nil)) (.two (by rw [hg]; first | exact .aggU rfl rfl | exact .aggLe rfl ⟨.refl, .refl, .nilSl, trivial⟩) (.bool (by rw [hg]; rfl)))
   ·skip
    have hne : (Go.Gm.nth g.txs i).id ≠ id := by simpa using hc1
    refine wp_skip ?_
    refine block_n ?_
    refine then_n ?_
    refine region_seq hS (by kernel_rfl)
      (cF rfl (o_add .t (.ci (by kernel_rfl))) r1 trivial
      (cF rfl (o_move .t (by rfl)) r1 trivial
      Chain.nil))
      (by kernel_rfl) (by rw [hB]; kernel_rfl) ?_
    clear hS; intro a w F hS
    obtain ⟨F, hS⟩ := hS.norm [(1, _), (4, _), (5, _), (7, _), (9, _), (10, _), (11, _), (12, _), (13, _), (14, _), (15, _), (16, _), (17, _), (18, _), (20, _)] [(0, _), (101, _), (102, _), (103, _)] ⟨rfl, rfl, rfl, rfl, rfl, rfl, rfl, rfl, rfl, rfl, rfl, rfl, rfl, rfl, rfl, trivial⟩ r4
    try dsimp only [rHist, rTx, rOrd, rVer, rInt, rOp] at hS
    refine then_n ?_
    replace hS := hS.ent (i := 11) (s' := .pv (.int .i64 ((i + 1 : Nat) : Int))) rfl (.int (wrap_succ (by omega)))
    obtain ⟨F, hS⟩ := hS.norm [(11, _), (1, _), (4, _), (5, _), (9, _), (10, _)] [(0, _), (101, _), (102, _)] ⟨rfl, rfl, rfl, rfl, rfl, rfl, trivial⟩ ⟨rfl, rfl, rfl, trivial⟩
    exact ⟨(i + 1), F, ⟨by omega, (fun k hk => by rcases Nat.lt_or_eq_of_le (Nat.le_of_lt_succ hk) with h9 | h9; exact hq k h9; rw [h9]; exact hne)⟩, hS, by omega⟩
  ·skip
   have hil : i = g.txs.length := by simp at hc0; omega
   have hg : findT g.txs id = none := findT_none (by rw [← hil]; exact hq)
   refine wp_exit ?_
   refine then_x ?_
   refine then_x ?_
   refine block_x ?_
   refine then_n ?_
   refine wp_seq ?_
   refine region_seq hS (by kernel_rfl)
     (cF rfl (o_build (r := []) (zs := [.int .i64 0, .bool false, .slice none 0 0]) (pl := [(0, 1), (1, 1), (2, 1)]) (by kernel_rfl) (by kernel_rfl) .nil (by rfl)) trivial trivial
     (cF rfl (o_storeA (sz := 3) 102 .is .t (by kernel_rfl) (by kernel_rfl) (by kernel_rfl)) r2 r1
     (cF rfl (o_assign .cb (by rfl)) trivial trivial
     Chain.nil)))
     (by kernel_rfl) (by rw [hB]; kernel_rfl) ?_
   clear hS; intro a w F hS
   obtain ⟨F, hS⟩ := hS.norm [(4, _), (5, _)] [(0, _), (101, _), (102, _)] r2 r3
   try dsimp only [List.map, stCells, List.length_cons, List.length_nil, Nat.reduceAdd, List.drop_succ_cons, List.drop_zero, List.drop_nil, List.take_succ_cons, List.take_zero, List.take_nil, List.cons_append, List.nil_append, zCF, rHist, rTx, rOrd, rVer, rInt, rOp] at hS
   refine then_n ?_
   refine wp_ret ?_
   refine ret_P hfr hS rfl (.cell (n := 102) (ag := true) (sz := 3) rfl .is rfl (by kernel_rfl) (by kernel_rfl) (by kernel_rfl) (.tmp rfl .nil)) (.two (by rw [hg]; first | exact .aggU rfl rfl | exact .aggLe rfl ⟨.refl, .refl, .nilSl, trivial⟩) (.bool (by rw [hg]; rfl)))

theorem has_c (g : HistD) (v : VerD) (hs : SmallT g.txs) : FnP Try.prog 171 [.agg (rHist g), .agg (rVer v)] (.bool (hasH g v)) := by
  refine FnP.mk Try.func171 rfl Try.ntmps171 rfl ?_
  intro B a w F hB hfr hS
  refine wp_seq ?_
  refine region_seq hS (by kernel_rfl)
    (cF rfl (o_boxA 101 (.conv .t .agg) (by kernel_rfl)) r1 trivial
    (cF rfl (o_boxA 102 (.conv .t .agg) (by kernel_rfl)) r1 trivial
    (cF rfl (o_assign .cb (by rfl)) trivial trivial
    Chain.nil)))
    (by kernel_rfl) (by rw [hB]; kernel_rfl) ?_
  clear hS; intro a w F hS
  replace hS := hS.sub
  obtain ⟨F, hS⟩ := hS.norm [(2, _), (3, _), (4, _)] [(0, _), (101, _), (102, _)] r3 r3
  try dsimp only [RS.sub, SF.sub, CF.sub, csub, Anc.sub, List.map, zCF, rHist, rTx, rOrd, rVer, rInt, rOp] at hS
  generalize Act.tau a 2 = v2 at hS
  generalize Act.tau a 3 = v3 at hS
  refine then_n ?_
  refine wp_seq ?_
  refine wp_seq ?_
  refine region_seq hS (by kernel_rfl)
    (cF rfl (o_fieldAddr (off := 0) 102 .is (by kernel_rfl) (by rfl)) r1 r1
    (cF rfl (o_load (ag := false) (sz := 1) 102 .adr (by kernel_rfl) (by kernel_rfl) (by kernel_rfl) (by rfl)) r1 r1
    (cF rfl (o_eql .t (.ci (by kernel_rfl))) r1 trivial
    (cF rfl (o_move .t (by rfl)) r1 trivial
    (Chain.cons (Cert.cond rfl rfl (fun h => o_fieldAddr (off := 2) 102 .is (by kernel_rfl) (by rfl))) r2 r1
    (Chain.cons (Cert.cond rfl rfl (fun h => o_load (ag := false) (sz := 1) 102 (.w h .adr) (by kernel_rfl) (by kernel_rfl) (by kernel_rfl) (by rfl))) r2 r1
    (Chain.cons (Cert.cond rfl rfl (fun h => o_eql (.w h) (.ci (by kernel_rfl)))) r2 trivial
    (cF rfl (o_and2 .t .t) r2 trivial
    Chain.nil))))))))
    (by kernel_rfl) (by rw [hB]; kernel_rfl) ?_
  clear hS; intro a w F hS
  obtain ⟨F, hS⟩ := hS.norm [(2, _), (3, _), (4, _), (14, _)] [(0, _), (101, _), (102, _)] r4 r3
  try dsimp only [List.map, List.drop_succ_cons, List.drop_zero, List.drop_nil, List.take_succ_cons, List.take_zero, List.take_nil, ldSF, rHist, rTx, rOrd, rVer, rInt, rOp] at hS
  refine then_n ?_
  refine cond_b hS rfl (fun hc0 => ?_) (fun hc0 => ?_)
  ·skip
   have h0 : (v.tx = 0 ∧ v.nth = 0) := by simpa using hc0
   have hu : hasH g v = decide (1 ≤ v.key ∧ v.key ≤ 1048575) := by unfold hasH; rw [if_pos h0]
   refine wp_seq ?_
   refine region_seq hS (by kernel_rfl)
     (cF rfl (o_fieldAddr (off := 1) 102 .is (by kernel_rfl) (by rfl)) r1 r1
     (cF rfl (o_load (ag := false) (sz := 1) 102 .adr (by kernel_rfl) (by kernel_rfl) (by kernel_rfl) (by rfl)) r1 r1
     (cF rfl (o_geq .t (.ci (by kernel_rfl))) r1 trivial
     (cF rfl (o_move .t (by rfl)) r1 trivial
     (Chain.cons (Cert.cond rfl rfl (fun h => o_fieldAddr (off := 1) 102 .is (by kernel_rfl) (by rfl))) r2 r1
     (Chain.cons (Cert.cond rfl rfl (fun h => o_load (ag := false) (sz := 1) 102 (.w h .adr) (by kernel_rfl) (by kernel_rfl) (by kernel_rfl) (by rfl))) r2 r1
     (Chain.cons (Cert.cond rfl rfl (fun h => o_leq (.w h) (.ci (by kernel_rfl)))) r2 trivial
     (cF rfl (o_and2 .t .t) r2 trivial
     (cF rfl (o_assign .t (by rfl)) r1 trivial
     Chain.nil)))))))))
     (by kernel_rfl) (by rw [hB]; kernel_rfl) ?_
   clear hS; intro a w F hS
   obtain ⟨F, hS⟩ := hS.norm [(2, _), (3, _), (4, _)] [(0, _), (101, _), (102, _)] r3 r3
   try dsimp only [List.map, List.drop_succ_cons, List.drop_zero, List.drop_nil, List.take_succ_cons, List.take_zero, List.take_nil, ldSF, rHist, rTx, rOrd, rVer, rInt, rOp] at hS
   refine then_n ?_
   refine wp_ret ?_
   refine then_r ?_
   refine ret_P hfr hS rfl (.tmp rfl .nil) (.one (.bool (by first | (rw [hu, Bool.decide_and]; done) | (rw [hu]; unfold idB; rw [Bool.decide_and]; done) | (unfold hasH wcnt; rw [if_neg h0, Bool.and_assoc]))))
  ·skip
   have h0 : ¬ (v.tx = 0 ∧ v.nth = 0) := by simpa using hc0
   have hfl : ((findT g.txs v.tx).getD zeroT).ops.length ≤ 1000 := by cases hf : findT g.txs v.tx with | none => simp [zeroT] | some t => exact hs.2 _ (findT_mem hf).1
   refine wp_skip ?_
   refine then_n ?_
   refine wp_seq ?_
   refine region_seq hS (by kernel_rfl)
     (cF rfl (o_load (ag := true) (sz := 2) 101 .is (by kernel_rfl) (by kernel_rfl) (by kernel_rfl) (by rfl)) r1 r1
     (cF rfl (o_fieldAddr (off := 0) 102 .is (by kernel_rfl) (by rfl)) r1 r1
     (cF rfl (o_load (ag := false) (sz := 1) 102 .adr (by kernel_rfl) (by kernel_rfl) (by kernel_rfl) (by rfl)) r1 r1
     (cF rfl (o_callP (find_c g v.tx hs) Try.func175 rfl (by kernel_rfl) (Args.two (.pagg .t) .t)) r2 trivial
     (cF rfl (o_move .t (by rfl)) r1 trivial
     (cF rfl (o_extract .t rfl) r1 trivial
     (cF rfl (o_extract .t rfl) r1 trivial
     (cF rfl (o_alloc (zs := [.int .i64 0, .bool false, .slice none 0 0]) 103 (by kernel_rfl)) trivial trivial
     (cF rfl (o_storeA (sz := 3) 103 .same (.conv .t .agg) (by kernel_rfl) (by kernel_rfl) (by kernel_rfl)) r2 r1
     (cF rfl (o_assign .t (by rfl)) r1 trivial
     Chain.nil))))))))))
     (by kernel_rfl) (by rw [hB]; kernel_rfl) ?_
   clear hS; intro a w F hS
   replace hS := hS.sub
   obtain ⟨F, hS⟩ := hS.norm [(3, _), (4, _), (5, _), (6, _)] [(0, _), (101, _), (102, _), (103, _)] r4 r4
   try dsimp only [RS.sub, SF.sub, CF.sub, csub, Anc.sub, List.map, stCells, List.length_cons, List.length_nil, Nat.reduceAdd, List.drop_succ_cons, List.drop_zero, List.drop_nil, List.take_succ_cons, List.take_zero, List.take_nil, List.cons_append, List.nil_append, zCF, ldSF, rHist, rTx, rOrd, rVer, rInt, rOp] at hS
   generalize Act.tau a 5 = v5 at hS
   refine then_n ?_
   refine wp_seq ?_
   refine region_any (by kernel_rfl) hS (by kernel_rfl)
     (cF rfl (o_move .t (by rfl)) r1 trivial
     (cF rfl (o_move .t (by rfl)) r1 trivial
     (Chain.cons (Cert.cond rfl rfl (fun h => o_fieldAddr (off := 2) 102 .is (by kernel_rfl) (by rfl))) r2 r1
     (Chain.cons (Cert.cond rfl rfl (fun h => o_load (ag := false) (sz := 1) 102 (.w h .adr) (by kernel_rfl) (by kernel_rfl) (by kernel_rfl) (by rfl))) r2 r1
     (Chain.cons (Cert.cond rfl rfl (fun h => o_geq (.w h) (.ci (by kernel_rfl)))) r2 trivial
     (cF rfl (o_and2 .t .t) r2 trivial
     (cF rfl (o_move .t (by rfl)) r1 trivial
     (Chain.cons (Cert.cond rfl rfl (fun h => o_load (ag := true) (sz := 3) 103 .is (by kernel_rfl) (by kernel_rfl) (by kernel_rfl) (by rfl))) r2 r1
     (Chain.cons (Cert.cond rfl rfl (fun h => o_fieldAddr (off := 1) 102 .is (by kernel_rfl) (by rfl))) r2 r1
     (Chain.cons (Cert.cond rfl rfl (fun h => o_load (ag := false) (sz := 1) 102 (.w h .adr) (by kernel_rfl) (by kernel_rfl) (by kernel_rfl) (by rfl))) r2 r1
     (Chain.cons (Cert.cond rfl rfl (fun h => o_callP (twrites_c ((findT g.txs v.tx).getD zeroT) v.key (by omega)) Try.func39 rfl (by kernel_rfl) (Args.two (.pagg (.w h)) (.w h)))) r3 trivial
     (Chain.cons (Cert.cond rfl rfl (fun h => o_fieldAddr (off := 2) 102 .is (by kernel_rfl) (by rfl))) r2 r1
     (Chain.cons (Cert.cond rfl rfl (fun h => o_load (ag := false) (sz := 1) 102 (.w h .adr) (by kernel_rfl) (by kernel_rfl) (by kernel_rfl) (by rfl))) r2 r1
     (Chain.cons (Cert.cond rfl rfl (fun h => o_geq (.w h) (.w h))) r3 trivial
     (cF rfl (o_and2 .t .t) r2 trivial
     (cF rfl (o_assign .t (by rfl)) r1 trivial
     Chain.nil))))))))))))))))
     (by kernel_rfl) (by rw [hB]; kernel_rfl) ?_
   clear hS; intro a w F hS
   obtain ⟨F, hS⟩ := hS.norm [(4, _)] [(0, _), (101, _), (102, _), (103, _)] r1 r4
   try dsimp only [List.map, List.drop_succ_cons, List.drop_zero, List.drop_nil, List.take_succ_cons, List.take_zero, List.take_nil, ldSF, rHist, rTx, rOrd, rVer, rInt, rOp] at hS
   refine then_n ?_
   refine wp_ret ?_
   refine ret_P hfr hS rfl (.tmp rfl .nil) (.one (.bool (by first | (rw [hu, Bool.decide_and]; done) | (rw [hu]; unfold idB; rw [Bool.decide_and]; done) | (unfold hasH wcnt; rw [if_neg h0, Bool.and_assoc]))))

theorem refHas_c (g : HistD) (v : VerD) (hs : SmallT g.txs) : FnP Try.prog 157 [.agg (rHist g), .agg (rVer v)] (.bool (hasH g v)) := by
  refine FnP.mk Try.func157 rfl Try.ntmps157 rfl ?_
  intro B a w F hB hfr hS
  refine wp_seq ?_
  refine region_seq hS (by kernel_rfl)
    (cF rfl (o_boxA 101 (.conv .t .agg) (by kernel_rfl)) r1 trivial
    (cF rfl (o_boxA 102 (.conv .t .agg) (by kernel_rfl)) r1 trivial
    (cF rfl (o_assign .cb (by rfl)) trivial trivial
    Chain.nil)))
    (by kernel_rfl) (by rw [hB]; kernel_rfl) ?_
  clear hS; intro a w F hS
  replace hS := hS.sub
  obtain ⟨F, hS⟩ := hS.norm [(2, _), (3, _), (4, _)] [(0, _), (101, _), (102, _)] r3 r3
  try dsimp only [RS.sub, SF.sub, CF.sub, csub, Anc.sub, List.map, zCF, rHist, rTx, rOrd, rVer, rInt, rOp] at hS
  generalize Act.tau a 2 = v2 at hS
  generalize Act.tau a 3 = v3 at hS
  refine then_n ?_
  refine wp_seq ?_
  refine wp_seq ?_
  refine region_seq hS (by kernel_rfl)
    (cF rfl (o_fieldAddr (off := 0) 102 .is (by kernel_rfl) (by rfl)) r1 r1
    (cF rfl (o_load (ag := false) (sz := 1) 102 .adr (by kernel_rfl) (by kernel_rfl) (by kernel_rfl) (by rfl)) r1 r1
    (cF rfl (o_eql .t (.ci (by kernel_rfl))) r1 trivial
    (cF rfl (o_move .t (by rfl)) r1 trivial
    (Chain.cons (Cert.cond rfl rfl (fun h => o_fieldAddr (off := 2) 102 .is (by kernel_rfl) (by rfl))) r2 r1
    (Chain.cons (Cert.cond rfl rfl (fun h => o_load (ag := false) (sz := 1) 102 (.w h .adr) (by kernel_rfl) (by kernel_rfl) (by kernel_rfl) (by rfl))) r2 r1
    (Chain.cons (Cert.cond rfl rfl (fun h => o_eql (.w h) (.ci (by kernel_rfl)))) r2 trivial
    (cF rfl (o_and2 .t .t) r2 trivial
    Chain.nil))))))))
    (by kernel_rfl) (by rw [hB]; kernel_rfl) ?_
  clear hS; intro a w F hS
  obtain ⟨F, hS⟩ := hS.norm [(2, _), (3, _), (4, _), (14, _)] [(0, _), (101, _), (102, _)] r4 r3
  try dsimp only [List.map, List.drop_succ_cons, List.drop_zero, List.drop_nil, List.take_succ_cons, List.take_zero, List.take_nil, ldSF, rHist, rTx, rOrd, rVer, rInt, rOp] at hS
  refine then_n ?_
  refine cond_b hS rfl (fun hc0 => ?_) (fun hc0 => ?_)
  ·skip
   have h0 : (v.tx = 0 ∧ v.nth = 0) := by simpa using hc0
   have hu : hasH g v = decide (1 ≤ v.key ∧ v.key ≤ 1048575) := by unfold hasH; rw [if_pos h0]
   refine wp_seq ?_
   refine region_seq hS (by kernel_rfl)
     (cF rfl (o_fieldAddr (off := 1) 102 .is (by kernel_rfl) (by rfl)) r1 r1
     (cF rfl (o_load (ag := false) (sz := 1) 102 .adr (by kernel_rfl) (by kernel_rfl) (by kernel_rfl) (by rfl)) r1 r1
     (cF rfl (o_callP (refId_c v.key) Try.func81 rfl (by kernel_rfl) (Args.one .t)) r1 trivial
     (cF rfl (o_assign .t (by rfl)) r1 trivial
     Chain.nil))))
     (by kernel_rfl) (by rw [hB]; kernel_rfl) ?_
   clear hS; intro a w F hS
   obtain ⟨F, hS⟩ := hS.norm [(2, _), (3, _), (4, _)] [(0, _), (101, _), (102, _)] r3 r3
   try dsimp only [List.map, List.drop_succ_cons, List.drop_zero, List.drop_nil, List.take_succ_cons, List.take_zero, List.take_nil, ldSF, rHist, rTx, rOrd, rVer, rInt, rOp] at hS
   refine then_n ?_
   refine wp_ret ?_
   refine then_r ?_
   refine ret_P hfr hS rfl (.tmp rfl .nil) (.one (.bool (by first | (rw [hu, Bool.decide_and]; done) | (rw [hu]; unfold idB; rw [Bool.decide_and]; done) | (unfold hasH wcnt; rw [if_neg h0, Bool.and_assoc]))))
  ·skip
   have h0 : ¬ (v.tx = 0 ∧ v.nth = 0) := by simpa using hc0
   have hfl : ((findT g.txs v.tx).getD zeroT).ops.length ≤ 1000 := by cases hf : findT g.txs v.tx with | none => simp [zeroT] | some t => exact hs.2 _ (findT_mem hf).1
   refine wp_skip ?_
   refine then_n ?_
   refine wp_seq ?_
   refine region_seq hS (by kernel_rfl)
     (cF rfl (o_load (ag := true) (sz := 2) 101 .is (by kernel_rfl) (by kernel_rfl) (by kernel_rfl) (by rfl)) r1 r1
     (cF rfl (o_fieldAddr (off := 0) 102 .is (by kernel_rfl) (by rfl)) r1 r1
     (cF rfl (o_load (ag := false) (sz := 1) 102 .adr (by kernel_rfl) (by kernel_rfl) (by kernel_rfl) (by rfl)) r1 r1
     (cF rfl (o_callP (refFind_c g v.tx hs) Try.func132 rfl (by kernel_rfl) (Args.two (.pagg .t) .t)) r2 trivial
     (cF rfl (o_move .t (by rfl)) r1 trivial
     (cF rfl (o_extract .t rfl) r1 trivial
     (cF rfl (o_extract .t rfl) r1 trivial
     (cF rfl (o_alloc (zs := [.int .i64 0, .bool false, .slice none 0 0]) 103 (by kernel_rfl)) trivial trivial
     (cF rfl (o_storeA (sz := 3) 103 .same (.conv .t .agg) (by kernel_rfl) (by kernel_rfl) (by kernel_rfl)) r2 r1
     (cF rfl (o_assign .t (by rfl)) r1 trivial
     Chain.nil))))))))))
     (by kernel_rfl) (by rw [hB]; kernel_rfl) ?_
   clear hS; intro a w F hS
   replace hS := hS.sub
   obtain ⟨F, hS⟩ := hS.norm [(3, _), (4, _), (5, _), (6, _)] [(0, _), (101, _), (102, _), (103, _)] r4 r4
   try dsimp only [RS.sub, SF.sub, CF.sub, csub, Anc.sub, List.map, stCells, List.length_cons, List.length_nil, Nat.reduceAdd, List.drop_succ_cons, List.drop_zero, List.drop_nil, List.take_succ_cons, List.take_zero, List.take_nil, List.cons_append, List.nil_append, zCF, ldSF, rHist, rTx, rOrd, rVer, rInt, rOp] at hS
   generalize Act.tau a 5 = v5 at hS
   refine then_n ?_
   refine wp_seq ?_
   refine region_any (by kernel_rfl) hS (by kernel_rfl)
     (cF rfl (o_move .t (by rfl)) r1 trivial
     (cF rfl (o_move .t (by rfl)) r1 trivial
     (Chain.cons (Cert.cond rfl rfl (fun h => o_fieldAddr (off := 2) 102 .is (by kernel_rfl) (by rfl))) r2 r1
     (Chain.cons (Cert.cond rfl rfl (fun h => o_load (ag := false) (sz := 1) 102 (.w h .adr) (by kernel_rfl) (by kernel_rfl) (by kernel_rfl) (by rfl))) r2 r1
     (Chain.cons (Cert.cond rfl rfl (fun h => o_geq (.w h) (.ci (by kernel_rfl)))) r2 trivial
     (cF rfl (o_and2 .t .t) r2 trivial
     (cF rfl (o_move .t (by rfl)) r1 trivial
     (Chain.cons (Cert.cond rfl rfl (fun h => o_fieldAddr (off := 2) 103 .is (by kernel_rfl) (by rfl))) r2 r1
     (Chain.cons (Cert.cond rfl rfl (fun h => o_load (ag := false) (sz := 1) 103 (.w h .adr) (by kernel_rfl) (by kernel_rfl) (by kernel_rfl) (by rfl))) r2 r1
     (Chain.cons (Cert.cond rfl rfl (fun h => o_fieldAddr (off := 1) 102 .is (by kernel_rfl) (by rfl))) r2 r1
     (Chain.cons (Cert.cond rfl rfl (fun h => o_load (ag := false) (sz := 1) 102 (.w h .adr) (by kernel_rfl) (by kernel_rfl) (by kernel_rfl) (by rfl))) r2 r1
     (Chain.cons (Cert.cond rfl rfl (fun h => o_callP (rwrites_c ((findT g.txs v.tx).getD zeroT).ops v.key (by omega)) Try.func40 rfl (by kernel_rfl) (Args.two (.w h) (.w h)))) r3 trivial
     (Chain.cons (Cert.cond rfl rfl (fun h => o_fieldAddr (off := 2) 102 .is (by kernel_rfl) (by rfl))) r2 r1
     (Chain.cons (Cert.cond rfl rfl (fun h => o_load (ag := false) (sz := 1) 102 (.w h .adr) (by kernel_rfl) (by kernel_rfl) (by kernel_rfl) (by rfl))) r2 r1
     (Chain.cons (Cert.cond rfl rfl (fun h => o_geq (.w h) (.w h))) r3 trivial
     (cF rfl (o_and2 .t .t) r2 trivial
     (cF rfl (o_assign .t (by rfl)) r1 trivial
     Chain.nil)))))))))))))))))
     (by kernel_rfl) (by rw [hB]; kernel_rfl) ?_
   clear hS; intro a w F hS
   obtain ⟨F, hS⟩ := hS.norm [(4, _)] [(0, _), (101, _), (102, _), (103, _)] r1 r4
   try dsimp only [List.map, List.drop_succ_cons, List.drop_zero, List.drop_nil, List.take_succ_cons, List.take_zero, List.take_nil, ldSF, rHist, rTx, rOrd, rVer, rInt, rOp] at hS
   refine then_n ?_
   refine wp_ret ?_
   refine ret_P hfr hS rfl (.tmp rfl .nil) (.one (.bool (by first | (rw [hu, Bool.decide_and]; done) | (rw [hu]; unfold idB; rw [Bool.decide_and]; done) | (unfold hasH wcnt; rw [if_neg h0, Bool.and_assoc]))))

end Go.Proofs.Ytpjjmolibanakaa
