/- Writes. No condition beyond those that each theorem says. -/
import Derived.Test.YtpjjmolibanakaaTx5
namespace Go.Proofs.Ytpjjmolibanakaa
open Go Go.Gm
set_option linter.unusedVariables false
set_option linter.unusedSimpArgs false
set_option maxHeartbeats 4000000
set_option maxRecDepth 8000


theorem twrites_c (t : TxD) (n : Int) (hl : t.ops.length ≤ 1000000) : FnP Try.prog 39 [.agg (rTx t), .int .i64 n] (.int .i64 (((t.ops.filter fun o => !o.read && decide (o.key = n)).length : Nat) : Int)) := by
  refine FnP.mk Try.func39 rfl Try.ntmps39 rfl ?_
  intro B a w F hB hfr hS
  have hll : t.ops.length ≤ 1000000 := hl
  refine wp_seq ?_
  refine region_seq hS (by kernel_rfl)
    (cF rfl (o_boxA 101 (.conv .t .agg) (by kernel_rfl)) r1 trivial
    (cF rfl (o_assign (.ci (by kernel_rfl)) (by rfl)) trivial trivial
    Chain.nil))
    (by kernel_rfl) (by rw [hB]; kernel_rfl) ?_
  clear hS; intro a w F hS
  replace hS := hS.sub
  obtain ⟨F, hS⟩ := hS.norm [(1, _), (2, _), (4, _)] [(0, _), (101, _)] r3 r2
  try dsimp only [RS.sub, SF.sub, CF.sub, csub, Anc.sub, List.map, zCF, rInt, rOp, rTx] at hS
  generalize Act.tau a 2 = v2 at hS
  refine then_n ?_
  refine wp_seq ?_
  refine region_seq hS (by kernel_rfl)
    (cF rfl (o_assign (.ci (by kernel_rfl)) (by rfl)) trivial trivial
    Chain.nil)
    (by kernel_rfl) (by rw [hB]; kernel_rfl) ?_
  clear hS; intro a w F hS
  obtain ⟨F, hS⟩ := hS.norm [(1, _), (2, _), (4, _), (5, _)] [(0, _), (101, _)] r4 r2
  try dsimp only [rInt, rOp, rTx] at hS
  refine then_n ?_
  refine wp_seq ?_
  refine wp_seq ?_
  refine region_seq hS (by kernel_rfl)
    (cF rfl (o_fieldAddr (off := 2) 101 .is (by kernel_rfl) (by rfl)) r1 r1
    (cF rfl (o_load (ag := false) (sz := 1) 101 .adr (by kernel_rfl) (by kernel_rfl) (by kernel_rfl) (by rfl)) r1 r1
    (cF rfl (o_len_sl Try.underlying46 .t) r1 trivial
    (cF rfl (o_move (.ci (by kernel_rfl)) (by rfl)) trivial trivial
    Chain.nil))))
    (by kernel_rfl) (by rw [hB]; kernel_rfl) ?_
  clear hS; intro a w F hS
  obtain ⟨F, hS⟩ := hS.norm [(1, _), (4, _), (5, _), (9, _), (10, _), (11, _)] [(0, _)] r6 r1
  try dsimp only [List.map, List.drop_succ_cons, List.drop_zero, List.drop_nil, List.take_succ_cons, List.take_zero, List.take_nil, ldSF, rInt, rOp, rTx] at hS
  refine then_n ?_
  refine wp_block ?_
  refine loop_keep (σ := (Nat)) [1, 4, 9, 10] [0] (fun s => [(11, .pv (.int .i64 (s : Int))), (5, .pv (.int .i64 ((((t.ops.take s).filter fun o => !o.read && decide (o.key = n)).length : Nat) : Int)))]) (fun s => []) (fun s => s ≤ t.ops.length ∧ (True)) (fun s => t.ops.length - s) (0) hS ⟨rfl, rfl, rfl, rfl, rfl, rfl, trivial⟩ ⟨rfl, trivial⟩ ⟨Nat.zero_le _, trivial⟩ ?_
  clear hS; intro i a w F hC hS
  try dsimp only at hC
  obtain ⟨F, hS⟩ := hS.norm [(1, _), (4, _), (5, _), (9, _), (10, _), (11, _)] [(0, _)] r6 r1
  try dsimp only at hS
  obtain ⟨hi, hq⟩ := hC
  refine wp_seq ?_
  refine region_seq hS (by kernel_rfl)
    (cF rfl (o_lss .t .t) r2 trivial
    Chain.nil)
    (by kernel_rfl) (by rw [hB]; kernel_rfl) ?_
  clear hS; intro a w F hS
  obtain ⟨F, hS⟩ := hS.norm [(1, _), (4, _), (5, _), (9, _), (10, _), (11, _), (12, _)] [(0, _)] r7 r1
  try dsimp only [rInt, rOp, rTx] at hS
  refine then_n ?_
  refine wp_seq ?_
  refine cond_b hS rfl (fun hc0 => ?_) (fun hc0 => ?_)
  ·skip
   have hil : i < t.ops.length := by simp at hc0; omega
   refine wp_skip ?_
   refine then_n ?_
   refine wp_seq ?_
   refine wp_block ?_
   refine wp_seq ?_
   refine region_seq hS (by kernel_rfl)
     (cF rfl (o_indexAddr_sl (sz := 4) (.mk Try.underlying46 (by kernel_rfl)) (by intro x; rfl) .t .t (by omega) (by omega)) r2 trivial
     (cF rfl (o_load_ref (ag := true) (sz := 4) .t (by kernel_rfl) (by kernel_rfl) (by kernel_rfl)) r1 trivial
     (cF rfl (o_alloc (zs := [.bool false, .int .i64 0, .int .i64 0, .int .i64 0]) 102 (by kernel_rfl)) trivial trivial
     (cF rfl (o_storeA (sz := 4) 102 .same .t (by kernel_rfl) (by kernel_rfl) (by kernel_rfl)) r2 r1
     Chain.nil))))
     (by kernel_rfl) (by rw [hB]; kernel_rfl) ?_
   clear hS; intro a w F hS
   replace hS := hS.sub
   obtain ⟨F, hS⟩ := hS.norm [(1, _), (4, _), (5, _), (7, _), (9, _), (10, _), (11, _), (12, _), (13, _), (14, _)] [(0, _), (102, _)] ⟨rfl, rfl, rfl, rfl, rfl, rfl, rfl, rfl, rfl, rfl, trivial⟩ r2
   try dsimp only [RS.sub, SF.sub, CF.sub, csub, Anc.sub, List.map, stCells, List.length_cons, List.length_nil, Nat.reduceAdd, List.drop_succ_cons, List.drop_zero, List.drop_nil, List.take_succ_cons, List.take_zero, List.take_nil, List.cons_append, List.nil_append, zCF, ldSF, rInt, rOp, rTx] at hS
   generalize Act.tau a 7 = v7 at hS
   try simp only [Int.toNat_natCast] at hS
   refine then_n ?_
   refine wp_seq ?_
   refine region_seq hS (by kernel_rfl)
     (cF rfl (o_fieldAddr (off := 0) 102 .is (by kernel_rfl) (by rfl)) r1 r1
     (cF rfl (o_load (ag := false) (sz := 1) 102 .adr (by kernel_rfl) (by kernel_rfl) (by kernel_rfl) (by rfl)) r1 r1
     (cF rfl (o_not .t) r1 trivial
     (cF rfl (o_move .t (by rfl)) r1 trivial
     (Chain.cons (Cert.cond rfl rfl (fun h => o_fieldAddr (off := 1) 102 .is (by kernel_rfl) (by rfl))) r2 r1
     (Chain.cons (Cert.cond rfl rfl (fun h => o_load (ag := false) (sz := 1) 102 (.w h .adr) (by kernel_rfl) (by kernel_rfl) (by kernel_rfl) (by rfl))) r2 r1
     (Chain.cons (Cert.cond rfl rfl (fun h => o_move .t (by rfl))) r2 trivial
     (Chain.cons (Cert.cond rfl rfl (fun h => o_eql (.w h) (.w h))) r3 trivial
     (cF rfl (o_and2 .t .t) r2 trivial
     Chain.nil)))))))))
     (by kernel_rfl) (by rw [hB]; kernel_rfl) ?_
   clear hS; intro a w F hS
   obtain ⟨F, hS⟩ := hS.norm [(1, _), (4, _), (5, _), (7, _), (9, _), (10, _), (11, _), (12, _), (13, _), (14, _), (15, _), (16, _), (17, _), (18, _), (19, _), (20, _), (21, _), (22, _), (23, _)] [(0, _), (102, _)] ⟨rfl, rfl, rfl, rfl, rfl, rfl, rfl, rfl, rfl, rfl, rfl, rfl, rfl, rfl, rfl, rfl, rfl, rfl, rfl, trivial⟩ r2
   try dsimp only [List.map, List.drop_succ_cons, List.drop_zero, List.drop_nil, List.take_succ_cons, List.take_zero, List.take_nil, ldSF, rInt, rOp, rTx] at hS
   refine then_n ?_
   refine cond_b hS rfl (fun hc1 => ?_) (fun hc1 => ?_)
   ·skip
    have hstp : ((t.ops.take (i + 1)).filter fun o => !o.read && decide (o.key = n)) = ((t.ops.take i).filter fun o => !o.read && decide (o.key = n)) ++ (if (!(Go.Gm.nth t.ops i).read && decide ((Go.Gm.nth t.ops i).key = n)) = true then [(Go.Gm.nth t.ops i)] else []) := by rw [take_nth hil, List.filter_append]; simp only [List.filter_cons, List.filter_nil]
    have hle : ((t.ops.take i).filter fun o => !o.read && decide (o.key = n)).length ≤ i := Nat.le_trans (List.length_filter_le _ _) (by rw [List.length_take]; omega)
    have hBq : (!(Go.Gm.nth t.ops i).read && decide ((Go.Gm.nth t.ops i).key = n)) = true := hc1
    have hcc : IntKind.wrap .i64 (((((t.ops.take i).filter fun o => !o.read && decide (o.key = n)).length : Nat) : Int) + 1) = ((((t.ops.take (i + 1)).filter fun o => !o.read && decide (o.key = n)).length : Nat) : Int) := by rw [hstp, if_pos hBq, List.length_append, wrap_i64 (by omega)]; simp
    refine region_seq hS (by kernel_rfl)
      (cF rfl (o_move .t (by rfl)) r1 trivial
      (cF rfl (o_add .t (.ci (by kernel_rfl))) r1 trivial
      (cF rfl (o_assign .t (by rfl)) r1 trivial
      Chain.nil)))
      (by kernel_rfl) (by rw [hB]; kernel_rfl) ?_
    clear hS; intro a w F hS
    obtain ⟨F, hS⟩ := hS.norm [(1, _), (4, _), (5, _), (7, _), (9, _), (10, _), (11, _), (12, _), (13, _), (14, _), (15, _), (16, _), (17, _), (18, _), (19, _), (20, _), (21, _), (22, _), (23, _), (24, _), (25, _)] [(0, _), (102, _)] ⟨rfl, rfl, rfl, rfl, rfl, rfl, rfl, rfl, rfl, rfl, rfl, rfl, rfl, rfl, rfl, rfl, rfl, rfl, rfl, rfl, rfl, trivial⟩ r2
    try dsimp only [rInt, rOp, rTx] at hS
    refine block_n ?_
    refine then_n ?_
    refine region_seq hS (by kernel_rfl)
      (cF rfl (o_add .t (.ci (by kernel_rfl))) r1 trivial
      (cF rfl (o_move .t (by rfl)) r1 trivial
      Chain.nil))
      (by kernel_rfl) (by rw [hB]; kernel_rfl) ?_
    clear hS; intro a w F hS
    obtain ⟨F, hS⟩ := hS.norm [(1, _), (4, _), (5, _), (7, _), (9, _), (10, _), (11, _), (12, _), (13, _), (14, _), (15, _), (16, _), (17, _), (18, _), (19, _), (20, _), (21, _), (22, _), (23, _), (24, _), (25, _), (26, _)] [(0, _), (102, _)] ⟨rfl, rfl, rfl, rfl, rfl, rfl, rfl, rfl, rfl, rfl, rfl, rfl, rfl, rfl, rfl, rfl, rfl, rfl, rfl, rfl, rfl, rfl, trivial⟩ r2
    try dsimp only [rInt, rOp, rTx] at hS
    refine then_n ?_
    replace hS := hS.ent (i := 11) (s' := .pv (.int .i64 ((i + 1 : Nat) : Int))) rfl (.int (wrap_succ (by omega)))
    replace hS := hS.ent (i := 5) (s' := .pv (.int .i64 ((((t.ops.take (i + 1)).filter fun o => !o.read && decide (o.key = n)).length : Nat) : Int))) rfl (.int hcc)
    obtain ⟨F, hS⟩ := hS.norm [(11, _), (5, _), (1, _), (4, _), (9, _), (10, _)] [(0, _)] ⟨rfl, rfl, rfl, rfl, rfl, rfl, trivial⟩ ⟨rfl, trivial⟩
    exact ⟨(i + 1), F, ⟨by omega, trivial⟩, hS, by omega⟩
   ·skip
    have hstp : ((t.ops.take (i + 1)).filter fun o => !o.read && decide (o.key = n)) = ((t.ops.take i).filter fun o => !o.read && decide (o.key = n)) ++ (if (!(Go.Gm.nth t.ops i).read && decide ((Go.Gm.nth t.ops i).key = n)) = true then [(Go.Gm.nth t.ops i)] else []) := by rw [take_nth hil, List.filter_append]; simp only [List.filter_cons, List.filter_nil]
    have hle : ((t.ops.take i).filter fun o => !o.read && decide (o.key = n)).length ≤ i := Nat.le_trans (List.length_filter_le _ _) (by rw [List.length_take]; omega)
    have hBq : (!(Go.Gm.nth t.ops i).read && decide ((Go.Gm.nth t.ops i).key = n)) = false := hc1
    have hcc : ((((t.ops.take i).filter fun o => !o.read && decide (o.key = n)).length : Nat) : Int) = ((((t.ops.take (i + 1)).filter fun o => !o.read && decide (o.key = n)).length : Nat) : Int) := by rw [hstp, if_neg (by rw [hBq]; simp), List.append_nil]
    refine wp_skip ?_
    refine block_n ?_
    refine then_n ?_
    refine region_seq hS (by kernel_rfl)
      (cF rfl (o_add .t (.ci (by kernel_rfl))) r1 trivial
      (cF rfl (o_move .t (by rfl)) r1 trivial
      Chain.nil))
      (by kernel_rfl) (by rw [hB]; kernel_rfl) ?_
    clear hS; intro a w F hS
    obtain ⟨F, hS⟩ := hS.norm [(1, _), (4, _), (5, _), (7, _), (9, _), (10, _), (11, _), (12, _), (13, _), (14, _), (15, _), (16, _), (17, _), (18, _), (19, _), (20, _), (21, _), (22, _), (23, _), (26, _)] [(0, _), (102, _)] ⟨rfl, rfl, rfl, rfl, rfl, rfl, rfl, rfl, rfl, rfl, rfl, rfl, rfl, rfl, rfl, rfl, rfl, rfl, rfl, rfl, trivial⟩ r2
    try dsimp only [rInt, rOp, rTx] at hS
    refine then_n ?_
    replace hS := hS.ent (i := 11) (s' := .pv (.int .i64 ((i + 1 : Nat) : Int))) rfl (.int (wrap_succ (by omega)))
    replace hS := hS.ent (i := 5) (s' := .pv (.int .i64 ((((t.ops.take (i + 1)).filter fun o => !o.read && decide (o.key = n)).length : Nat) : Int))) rfl (.int hcc)
    obtain ⟨F, hS⟩ := hS.norm [(11, _), (5, _), (1, _), (4, _), (9, _), (10, _)] [(0, _)] ⟨rfl, rfl, rfl, rfl, rfl, rfl, trivial⟩ ⟨rfl, trivial⟩
    exact ⟨(i + 1), F, ⟨by omega, trivial⟩, hS, by omega⟩
  ·skip
   have hil : i = t.ops.length := by simp at hc0; omega
   refine wp_exit ?_
   refine then_x ?_
   refine then_x ?_
   refine block_x ?_
   refine then_n ?_
   refine wp_seq ?_
   refine region_seq hS (by kernel_rfl)
     (cF rfl (o_move .t (by rfl)) r1 trivial
     (cF rfl (o_assign .t (by rfl)) r1 trivial
     Chain.nil))
     (by kernel_rfl) (by rw [hB]; kernel_rfl) ?_
   clear hS; intro a w F hS
   obtain ⟨F, hS⟩ := hS.norm [(4, _)] [(0, _)] r1 r1
   try dsimp only [rInt, rOp, rTx] at hS
   refine then_n ?_
   refine wp_ret ?_
   refine ret_P hfr hS rfl (.tmp rfl .nil) (.one (.int (by rw [hil, List.take_length])))

theorem rwrites_c (l : List OpD) (n : Int) (hl : l.length ≤ 1000000) : FnP Try.prog 40 [.sl rOp l, .int .i64 n] (.int .i64 (((l.filter fun o => !o.read && decide (o.key = n)).length : Nat) : Int)) := by
  refine FnP.mk Try.func40 rfl Try.ntmps40 rfl ?_
  intro B a w F hB hfr hS
  have hll : l.length ≤ 1000000 := hl
  refine wp_seq ?_
  refine region_seq hS (by kernel_rfl)
    (cF rfl (o_assign (.ci (by kernel_rfl)) (by rfl)) trivial trivial
    Chain.nil)
    (by kernel_rfl) (by rw [hB]; kernel_rfl) ?_
  clear hS; intro a w F hS
  obtain ⟨F, hS⟩ := hS.norm [(0, _), (1, _), (4, _)] [(0, _)] r3 r1
  try dsimp only [rInt, rOp, rTx] at hS
  refine then_n ?_
  refine wp_seq ?_
  refine region_seq hS (by kernel_rfl)
    (cF rfl (o_assign (.ci (by kernel_rfl)) (by rfl)) trivial trivial
    Chain.nil)
    (by kernel_rfl) (by rw [hB]; kernel_rfl) ?_
  clear hS; intro a w F hS
  obtain ⟨F, hS⟩ := hS.norm [(0, _), (1, _), (4, _), (5, _)] [(0, _)] r4 r1
  try dsimp only [rInt, rOp, rTx] at hS
  refine then_n ?_
  refine wp_seq ?_
  refine wp_seq ?_
  refine region_seq hS (by kernel_rfl)
    (cF rfl (o_move .t (by rfl)) r1 trivial
    (cF rfl (o_len_sl Try.underlying46 .t) r1 trivial
    (cF rfl (o_move (.ci (by kernel_rfl)) (by rfl)) trivial trivial
    Chain.nil)))
    (by kernel_rfl) (by rw [hB]; kernel_rfl) ?_
  clear hS; intro a w F hS
  obtain ⟨F, hS⟩ := hS.norm [(1, _), (4, _), (5, _), (8, _), (9, _), (10, _)] [(0, _)] r6 r1
  try dsimp only [rInt, rOp, rTx] at hS
  refine then_n ?_
  refine wp_block ?_
  refine loop_keep (σ := (Nat)) [1, 4, 8, 9] [0] (fun s => [(10, .pv (.int .i64 (s : Int))), (5, .pv (.int .i64 ((((l.take s).filter fun o => !o.read && decide (o.key = n)).length : Nat) : Int)))]) (fun s => []) (fun s => s ≤ l.length ∧ (True)) (fun s => l.length - s) (0) hS ⟨rfl, rfl, rfl, rfl, rfl, rfl, trivial⟩ ⟨rfl, trivial⟩ ⟨Nat.zero_le _, trivial⟩ ?_
  clear hS; intro i a w F hC hS
  try dsimp only at hC
  obtain ⟨F, hS⟩ := hS.norm [(1, _), (4, _), (5, _), (8, _), (9, _), (10, _)] [(0, _)] r6 r1
  try dsimp only at hS
  obtain ⟨hi, hq⟩ := hC
  refine wp_seq ?_
  refine region_seq hS (by kernel_rfl)
    (cF rfl (o_lss .t .t) r2 trivial
    Chain.nil)
    (by kernel_rfl) (by rw [hB]; kernel_rfl) ?_
  clear hS; intro a w F hS
  obtain ⟨F, hS⟩ := hS.norm [(1, _), (4, _), (5, _), (8, _), (9, _), (10, _), (11, _)] [(0, _)] r7 r1
  try dsimp only [rInt, rOp, rTx] at hS
  refine then_n ?_
  refine wp_seq ?_
  refine cond_b hS rfl (fun hc0 => ?_) (fun hc0 => ?_)
  ·skip
   have hil : i < l.length := by simp at hc0; omega
   refine wp_skip ?_
   refine then_n ?_
   refine wp_seq ?_
   refine wp_block ?_
   refine wp_seq ?_
   refine region_seq hS (by kernel_rfl)
     (cF rfl (o_indexAddr_sl (sz := 4) (.mk Try.underlying46 (by kernel_rfl)) (by intro x; rfl) .t .t (by omega) (by omega)) r2 trivial
     (cF rfl (o_load_ref (ag := true) (sz := 4) .t (by kernel_rfl) (by kernel_rfl) (by kernel_rfl)) r1 trivial
     (cF rfl (o_alloc (zs := [.bool false, .int .i64 0, .int .i64 0, .int .i64 0]) 101 (by kernel_rfl)) trivial trivial
     (cF rfl (o_storeA (sz := 4) 101 .same .t (by kernel_rfl) (by kernel_rfl) (by kernel_rfl)) r2 r1
     Chain.nil))))
     (by kernel_rfl) (by rw [hB]; kernel_rfl) ?_
   clear hS; intro a w F hS
   replace hS := hS.sub
   obtain ⟨F, hS⟩ := hS.norm [(1, _), (4, _), (5, _), (7, _), (8, _), (9, _), (10, _), (11, _), (12, _), (13, _)] [(0, _), (101, _)] ⟨rfl, rfl, rfl, rfl, rfl, rfl, rfl, rfl, rfl, rfl, trivial⟩ r2
   try dsimp only [RS.sub, SF.sub, CF.sub, csub, Anc.sub, List.map, stCells, List.length_cons, List.length_nil, Nat.reduceAdd, List.drop_succ_cons, List.drop_zero, List.drop_nil, List.take_succ_cons, List.take_zero, List.take_nil, List.cons_append, List.nil_append, zCF, ldSF, rInt, rOp, rTx] at hS
   generalize Act.tau a 7 = v7 at hS
   try simp only [Int.toNat_natCast] at hS
   refine then_n ?_
   refine wp_seq ?_
   refine region_seq hS (by kernel_rfl)
     (cF rfl (o_fieldAddr (off := 0) 101 .is (by kernel_rfl) (by rfl)) r1 r1
     (cF rfl (o_load (ag := false) (sz := 1) 101 .adr (by kernel_rfl) (by kernel_rfl) (by kernel_rfl) (by rfl)) r1 r1
     (cF rfl (o_not .t) r1 trivial
     (cF rfl (o_move .t (by rfl)) r1 trivial
     (Chain.cons (Cert.cond rfl rfl (fun h => o_fieldAddr (off := 1) 101 .is (by kernel_rfl) (by rfl))) r2 r1
     (Chain.cons (Cert.cond rfl rfl (fun h => o_load (ag := false) (sz := 1) 101 (.w h .adr) (by kernel_rfl) (by kernel_rfl) (by kernel_rfl) (by rfl))) r2 r1
     (Chain.cons (Cert.cond rfl rfl (fun h => o_move .t (by rfl))) r2 trivial
     (Chain.cons (Cert.cond rfl rfl (fun h => o_eql (.w h) (.w h))) r3 trivial
     (cF rfl (o_and2 .t .t) r2 trivial
     Chain.nil)))))))))
     (by kernel_rfl) (by rw [hB]; kernel_rfl) ?_
   clear hS; intro a w F hS
   obtain ⟨F, hS⟩ := hS.norm [(1, _), (4, _), (5, _), (7, _), (8, _), (9, _), (10, _), (11, _), (12, _), (13, _), (14, _), (15, _), (16, _), (17, _), (18, _), (19, _), (20, _), (21, _), (22, _)] [(0, _), (101, _)] ⟨rfl, rfl, rfl, rfl, rfl, rfl, rfl, rfl, rfl, rfl, rfl, rfl, rfl, rfl, rfl, rfl, rfl, rfl, rfl, trivial⟩ r2
   try dsimp only [List.map, List.drop_succ_cons, List.drop_zero, List.drop_nil, List.take_succ_cons, List.take_zero, List.take_nil, ldSF, rInt, rOp, rTx] at hS
   refine then_n ?_
   refine cond_b hS rfl (fun hc1 => ?_) (fun hc1 => ?_)
   ·skip
    have hstp : ((l.take (i + 1)).filter fun o => !o.read && decide (o.key = n)) = ((l.take i).filter fun o => !o.read && decide (o.key = n)) ++ (if (!(Go.Gm.nth l i).read && decide ((Go.Gm.nth l i).key = n)) = true then [(Go.Gm.nth l i)] else []) := by rw [take_nth hil, List.filter_append]; simp only [List.filter_cons, List.filter_nil]
    have hle : ((l.take i).filter fun o => !o.read && decide (o.key = n)).length ≤ i := Nat.le_trans (List.length_filter_le _ _) (by rw [List.length_take]; omega)
    have hBq : (!(Go.Gm.nth l i).read && decide ((Go.Gm.nth l i).key = n)) = true := hc1
    have hcc : IntKind.wrap .i64 (((((l.take i).filter fun o => !o.read && decide (o.key = n)).length : Nat) : Int) + 1) = ((((l.take (i + 1)).filter fun o => !o.read && decide (o.key = n)).length : Nat) : Int) := by rw [hstp, if_pos hBq, List.length_append, wrap_i64 (by omega)]; simp
    refine region_seq hS (by kernel_rfl)
      (cF rfl (o_move .t (by rfl)) r1 trivial
      (cF rfl (o_add .t (.ci (by kernel_rfl))) r1 trivial
      (cF rfl (o_assign .t (by rfl)) r1 trivial
      Chain.nil)))
      (by kernel_rfl) (by rw [hB]; kernel_rfl) ?_
    clear hS; intro a w F hS
    obtain ⟨F, hS⟩ := hS.norm [(1, _), (4, _), (5, _), (7, _), (8, _), (9, _), (10, _), (11, _), (12, _), (13, _), (14, _), (15, _), (16, _), (17, _), (18, _), (19, _), (20, _), (21, _), (22, _), (23, _), (24, _)] [(0, _), (101, _)] ⟨rfl, rfl, rfl, rfl, rfl, rfl, rfl, rfl, rfl, rfl, rfl, rfl, rfl, rfl, rfl, rfl, rfl, rfl, rfl, rfl, rfl, trivial⟩ r2
    try dsimp only [rInt, rOp, rTx] at hS
    refine block_n ?_
    refine then_n ?_
    refine region_seq hS (by kernel_rfl)
      (cF rfl (o_add .t (.ci (by kernel_rfl))) r1 trivial
      (cF rfl (o_move .t (by rfl)) r1 trivial
      Chain.nil))
      (by kernel_rfl) (by rw [hB]; kernel_rfl) ?_
    clear hS; intro a w F hS
    obtain ⟨F, hS⟩ := hS.norm [(1, _), (4, _), (5, _), (7, _), (8, _), (9, _), (10, _), (11, _), (12, _), (13, _), (14, _), (15, _), (16, _), (17, _), (18, _), (19, _), (20, _), (21, _), (22, _), (23, _), (24, _), (25, _)] [(0, _), (101, _)] ⟨rfl, rfl, rfl, rfl, rfl, rfl, rfl, rfl, rfl, rfl, rfl, rfl, rfl, rfl, rfl, rfl, rfl, rfl, rfl, rfl, rfl, rfl, trivial⟩ r2
    try dsimp only [rInt, rOp, rTx] at hS
    refine then_n ?_
    replace hS := hS.ent (i := 10) (s' := .pv (.int .i64 ((i + 1 : Nat) : Int))) rfl (.int (wrap_succ (by omega)))
    replace hS := hS.ent (i := 5) (s' := .pv (.int .i64 ((((l.take (i + 1)).filter fun o => !o.read && decide (o.key = n)).length : Nat) : Int))) rfl (.int hcc)
    obtain ⟨F, hS⟩ := hS.norm [(10, _), (5, _), (1, _), (4, _), (8, _), (9, _)] [(0, _)] ⟨rfl, rfl, rfl, rfl, rfl, rfl, trivial⟩ ⟨rfl, trivial⟩
    exact ⟨(i + 1), F, ⟨by omega, trivial⟩, hS, by omega⟩
   ·skip
    have hstp : ((l.take (i + 1)).filter fun o => !o.read && decide (o.key = n)) = ((l.take i).filter fun o => !o.read && decide (o.key = n)) ++ (if (!(Go.Gm.nth l i).read && decide ((Go.Gm.nth l i).key = n)) = true then [(Go.Gm.nth l i)] else []) := by rw [take_nth hil, List.filter_append]; simp only [List.filter_cons, List.filter_nil]
    have hle : ((l.take i).filter fun o => !o.read && decide (o.key = n)).length ≤ i := Nat.le_trans (List.length_filter_le _ _) (by rw [List.length_take]; omega)
    have hBq : (!(Go.Gm.nth l i).read && decide ((Go.Gm.nth l i).key = n)) = false := hc1
    have hcc : ((((l.take i).filter fun o => !o.read && decide (o.key = n)).length : Nat) : Int) = ((((l.take (i + 1)).filter fun o => !o.read && decide (o.key = n)).length : Nat) : Int) := by rw [hstp, if_neg (by rw [hBq]; simp), List.append_nil]
    refine wp_skip ?_
    refine block_n ?_
    refine then_n ?_
    refine region_seq hS (by kernel_rfl)
      (cF rfl (o_add .t (.ci (by kernel_rfl))) r1 trivial
      (cF rfl (o_move .t (by rfl)) r1 trivial
      Chain.nil))
      (by kernel_rfl) (by rw [hB]; kernel_rfl) ?_
    clear hS; intro a w F hS
    obtain ⟨F, hS⟩ := hS.norm [(1, _), (4, _), (5, _), (7, _), (8, _), (9, _), (10, _), (11, _), (12, _), (13, _), (14, _), (15, _), (16, _), (17, _), (18, _), (19, _), (20, _), (21, _), (22, _), (25, _)] [(0, _), (101, _)] ⟨rfl, rfl, rfl, rfl, rfl, rfl, rfl, rfl, rfl, rfl, rfl, rfl, rfl, rfl, rfl, rfl, rfl, rfl, rfl, rfl, trivial⟩ r2
    try dsimp only [rInt, rOp, rTx] at hS
    refine then_n ?_
    replace hS := hS.ent (i := 10) (s' := .pv (.int .i64 ((i + 1 : Nat) : Int))) rfl (.int (wrap_succ (by omega)))
    replace hS := hS.ent (i := 5) (s' := .pv (.int .i64 ((((l.take (i + 1)).filter fun o => !o.read && decide (o.key = n)).length : Nat) : Int))) rfl (.int hcc)
    obtain ⟨F, hS⟩ := hS.norm [(10, _), (5, _), (1, _), (4, _), (8, _), (9, _)] [(0, _)] ⟨rfl, rfl, rfl, rfl, rfl, rfl, trivial⟩ ⟨rfl, trivial⟩
    exact ⟨(i + 1), F, ⟨by omega, trivial⟩, hS, by omega⟩
  ·skip
   have hil : i = l.length := by simp at hc0; omega
   refine wp_exit ?_
   refine then_x ?_
   refine then_x ?_
   refine block_x ?_
   refine then_n ?_
   refine wp_seq ?_
   refine region_seq hS (by kernel_rfl)
     (cF rfl (o_move .t (by rfl)) r1 trivial
     (cF rfl (o_assign .t (by rfl)) r1 trivial
     Chain.nil))
     (by kernel_rfl) (by rw [hB]; kernel_rfl) ?_
   clear hS; intro a w F hS
   obtain ⟨F, hS⟩ := hS.norm [(4, _)] [(0, _)] r1 r1
   try dsimp only [rInt, rOp, rTx] at hS
   refine then_n ?_
   refine wp_ret ?_
   refine ret_P hfr hS rfl (.tmp rfl .nil) (.one (.int (by rw [hil, List.take_length])))

end Go.Proofs.Ytpjjmolibanakaa
