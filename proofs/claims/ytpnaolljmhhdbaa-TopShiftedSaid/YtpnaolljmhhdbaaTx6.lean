/- Writes. No condition beyond those that each theorem says. -/
import Derived.Test.YtpnaolljmhhdbaaTx5
namespace Go.Proofs.Ytpnaolljmhhdbaa
open Go Go.Gm
set_option linter.unusedVariables false
set_option linter.unusedSimpArgs false
set_option maxHeartbeats 4000000
set_option maxRecDepth 8000

theorem twrites_c (t : TxD) (n : Int) (hl : t.ops.length ≤ 1000000) : FnP Try.prog 80 [.agg (rTx t), .int .i64 n] (.int .i64 (((t.ops.filter fun o => !o.read && decide (o.key = n)).length : Nat) : Int)) := by
  refine FnP.mk Try.func80 rfl Try.ntmps80 rfl ?_
  intro B a w F hB hfr hS
  have hll : t.ops.length ≤ 1000000 := hl
  refine wp_seq ?_
  refine region_q hS
    (cF rfl (oX 101 (.conv .t .agg)) r1 trivial
    (cF rfl (oN (.ci (by kernel_rfl))) trivial trivial
    Chain.nil))
    hB ?_
  clear hS; intro a w F hS
  replace hS := hS.sub
  obtain ⟨F, hS⟩ := hS.nm [4, 2, 1] [101, 0] rfl rfl
  try dsimp only [RS.sub, SF.sub, CF.sub, csub, Anc.sub, List.map, zCF, rInt, rOp, rTx] at hS
  generalize Act.tau a 2 = v2 at hS
  refine then_n (wp_seq ?_)
  refine region_q hS
    (cF rfl (oN (.ci (by kernel_rfl))) trivial trivial
    Chain.nil)
    hB ?_
  clear hS; intro a w F hS
  obtain ⟨F, hS⟩ := hS.nm [5, 4, 2, 1] [101, 0] rfl rfl
  try dsimp only [rInt, rOp, rTx] at hS
  refine then_n (wp_seq (wp_seq ?_))
  refine region_q hS
    (cF rfl (oF 2 101 .is) r1 r1
    (cF rfl (oL false 1 101 .adr) r1 r1
    (cF rfl (o_len_sl Try.underlying73 .t) r1 trivial
    (cF rfl (oM (.ci (by kernel_rfl))) trivial trivial
    Chain.nil))))
    hB ?_
  clear hS; intro a w F hS
  obtain ⟨F, hS⟩ := hS.nm [11, 10, 9, 5, 4, 1] [0] rfl rfl
  try dsimp only [List.map, xD, xE, xT, xU, ldSF, rInt, rOp, rTx] at hS
  refine then_n (wp_block ?_)
  refine loop_keep (σ := (Nat)) [1, 4, 9, 10] [0] (fun s => [(11, .pv (.int .i64 (s : Int))), (5, .pv (.int .i64 ((((t.ops.take s).filter fun o => !o.read && decide (o.key = n)).length : Nat) : Int)))]) (fun s => []) (fun s => s ≤ t.ops.length ∧ (True)) (fun s => t.ops.length - s) (0) hS ⟨rfl, rfl, rfl, rfl, rfl, rfl, trivial⟩ ⟨rfl, trivial⟩ ⟨Nat.zero_le _, trivial⟩ ?_
  clear hS; intro i a w F hC hS
  try dsimp only at hC
  obtain ⟨F, hS⟩ := hS.nm [11, 10, 9, 5, 4, 1] [0] rfl rfl
  try dsimp only at hS
  obtain ⟨hi, hq⟩ := hC
  refine wp_seq ?_
  refine region_q hS
    (cF rfl (o_lss .t .t) r2 trivial
    Chain.nil)
    hB ?_
  clear hS; intro a w F hS
  obtain ⟨F, hS⟩ := hS.nm [12, 11, 10, 9, 5, 4, 1] [0] rfl rfl
  try dsimp only [rInt, rOp, rTx] at hS
  refine then_n (wp_seq ?_)
  refine cond_b hS rfl (fun hc0 => ?_) (fun hc0 => ?_)
  ·skip
   have hil : i < t.ops.length := by simp at hc0; omega
   refine wp_skip (then_n (wp_seq (wp_block (wp_seq ?_))))
   refine region_q hS
     (cF rfl (o_indexAddr_sl (sz := 4) (.mk Try.underlying73 (by kernel_rfl)) (by intro x; rfl) .t .t (by omega) (by omega)) r2 trivial
     (cF rfl (oR true 4 .t) r1 trivial
     (cF rfl (oH [.bool false, .int .i64 0, .int .i64 0, .int .i64 0] 102) trivial trivial
     (cF rfl (oA 4 102 .same .t) r2 r1
     Chain.nil))))
     hB ?_
   clear hS; intro a w F hS
   replace hS := hS.sub
   obtain ⟨F, hS⟩ := hS.nm [14, 13, 12, 11, 10, 9, 7, 5, 4, 1] [102, 0] rfl rfl
   try dsimp only [RS.sub, SF.sub, CF.sub, csub, Anc.sub, List.map, stCells, xL, xM, Nat.reduceAdd, xD, xE, xT, xU, xC, xN, zCF, ldSF, rInt, rOp, rTx] at hS
   generalize Act.tau a 7 = v7 at hS
   try simp only [Int.toNat_natCast] at hS
   refine then_n (wp_seq ?_)
   refine region_q hS
     (cF rfl (oF 0 102 .is) r1 r1
     (cF rfl (oL false 1 102 .adr) r1 r1
     (cF rfl (o_not .t) r1 trivial
     (cF rfl (oM .t) r1 trivial
     (Chain.cons (Cert.cond rfl rfl (fun h => o_fieldAddr (off := 1) 102 .is (by kernel_rfl) (by rfl))) r2 r1
     (Chain.cons (Cert.cond rfl rfl (fun h => o_load (ag := false) (sz := 1) 102 (.w h .adr) (by kernel_rfl) (by kernel_rfl) (by kernel_rfl) (by rfl))) r2 r1
     (Chain.cons (Cert.cond rfl rfl (fun h => o_move .t (by rfl))) r2 trivial
     (Chain.cons (Cert.cond rfl rfl (fun h => o_eql (.w h) (.w h))) r3 trivial
     (cF rfl (o_and2 .t .t) r2 trivial
     Chain.nil)))))))))
     hB ?_
   clear hS; intro a w F hS
   obtain ⟨F, hS⟩ := hS.nm [23, 22, 21, 20, 19, 18, 17, 16, 15, 14, 13, 12, 11, 10, 9, 7, 5, 4, 1] [102, 0] rfl rfl
   try dsimp only [List.map, xD, xE, xT, xU, ldSF, rInt, rOp, rTx] at hS
   refine then_n ?_
   refine cond_b hS rfl (fun hc1 => ?_) (fun hc1 => ?_)
   ·skip
    have hstp : ((t.ops.take (i + 1)).filter fun o => !o.read && decide (o.key = n)) = ((t.ops.take i).filter fun o => !o.read && decide (o.key = n)) ++ (if (!(Go.Gm.nth t.ops i).read && decide ((Go.Gm.nth t.ops i).key = n)) = true then [(Go.Gm.nth t.ops i)] else []) := by rw [take_nth hil, List.filter_append]; simp only [List.filter_cons, List.filter_nil]
    have hle : ((t.ops.take i).filter fun o => !o.read && decide (o.key = n)).length ≤ i := Nat.le_trans (List.length_filter_le _ _) (by rw [List.length_take]; omega)
    have hBq : (!(Go.Gm.nth t.ops i).read && decide ((Go.Gm.nth t.ops i).key = n)) = true := hc1
    have hcc : IntKind.wrap .i64 (((((t.ops.take i).filter fun o => !o.read && decide (o.key = n)).length : Nat) : Int) + 1) = ((((t.ops.take (i + 1)).filter fun o => !o.read && decide (o.key = n)).length : Nat) : Int) := by rw [hstp, if_pos hBq, List.length_append, wrap_i64 (by omega)]; simp
    refine region_q hS
      (cF rfl (oM .t) r1 trivial
      (cF rfl (o_add .t (.ci (by kernel_rfl))) r1 trivial
      (cF rfl (oN .t) r1 trivial
      Chain.nil)))
      hB ?_
    clear hS; intro a w F hS
    obtain ⟨F, hS⟩ := hS.nm [25, 24, 23, 22, 21, 20, 19, 18, 17, 16, 15, 14, 13, 12, 11, 10, 9, 7, 5, 4, 1] [102, 0] rfl rfl
    try dsimp only [rInt, rOp, rTx] at hS
    refine block_n (then_n ?_)
    refine region_q hS
      (cF rfl (o_add .t (.ci (by kernel_rfl))) r1 trivial
      (cF rfl (oM .t) r1 trivial
      Chain.nil))
      hB ?_
    clear hS; intro a w F hS
    obtain ⟨F, hS⟩ := hS.nm [26, 25, 24, 23, 22, 21, 20, 19, 18, 17, 16, 15, 14, 13, 12, 11, 10, 9, 7, 5, 4, 1] [102, 0] rfl rfl
    try dsimp only [rInt, rOp, rTx] at hS
    refine then_n ?_
    replace hS := hS.ent (i := 11) (s' := .pv (.int .i64 ((i + 1 : Nat) : Int))) rfl (.int (wrap_succ (by omega)))
    replace hS := hS.ent (i := 5) (s' := .pv (.int .i64 ((((t.ops.take (i + 1)).filter fun o => !o.read && decide (o.key = n)).length : Nat) : Int))) rfl (.int hcc)
    obtain ⟨F, hS⟩ := hS.nm [10, 9, 4, 1, 5, 11] [0] rfl rfl
    exact ⟨(i + 1), F, ⟨by omega, trivial⟩, hS, by omega⟩
   have hstp : ((t.ops.take (i + 1)).filter fun o => !o.read && decide (o.key = n)) = ((t.ops.take i).filter fun o => !o.read && decide (o.key = n)) ++ (if (!(Go.Gm.nth t.ops i).read && decide ((Go.Gm.nth t.ops i).key = n)) = true then [(Go.Gm.nth t.ops i)] else []) := by rw [take_nth hil, List.filter_append]; simp only [List.filter_cons, List.filter_nil]
   have hle : ((t.ops.take i).filter fun o => !o.read && decide (o.key = n)).length ≤ i := Nat.le_trans (List.length_filter_le _ _) (by rw [List.length_take]; omega)
   have hBq : (!(Go.Gm.nth t.ops i).read && decide ((Go.Gm.nth t.ops i).key = n)) = false := hc1
   have hcc : ((((t.ops.take i).filter fun o => !o.read && decide (o.key = n)).length : Nat) : Int) = ((((t.ops.take (i + 1)).filter fun o => !o.read && decide (o.key = n)).length : Nat) : Int) := by rw [hstp, if_neg (by rw [hBq]; simp), List.append_nil]
   refine wp_skip (block_n (then_n ?_))
   refine region_q hS
     (cF rfl (o_add .t (.ci (by kernel_rfl))) r1 trivial
     (cF rfl (oM .t) r1 trivial
     Chain.nil))
     hB ?_
   clear hS; intro a w F hS
   obtain ⟨F, hS⟩ := hS.nm [26, 23, 22, 21, 20, 19, 18, 17, 16, 15, 14, 13, 12, 11, 10, 9, 7, 5, 4, 1] [102, 0] rfl rfl
   try dsimp only [rInt, rOp, rTx] at hS
   refine then_n ?_
   replace hS := hS.ent (i := 11) (s' := .pv (.int .i64 ((i + 1 : Nat) : Int))) rfl (.int (wrap_succ (by omega)))
   replace hS := hS.ent (i := 5) (s' := .pv (.int .i64 ((((t.ops.take (i + 1)).filter fun o => !o.read && decide (o.key = n)).length : Nat) : Int))) rfl (.int hcc)
   obtain ⟨F, hS⟩ := hS.nm [10, 9, 4, 1, 5, 11] [0] rfl rfl
   exact ⟨(i + 1), F, ⟨by omega, trivial⟩, hS, by omega⟩
  have hil : i = t.ops.length := by simp at hc0; omega
  refine wp_exit (then_x (then_x (block_x (then_n (wp_seq ?_)))))
  refine region_q hS
    (cF rfl (oM .t) r1 trivial
    (cF rfl (oN .t) r1 trivial
    Chain.nil))
    hB ?_
  clear hS; intro a w F hS
  obtain ⟨F, hS⟩ := hS.nm [4] [0] rfl rfl
  try dsimp only [rInt, rOp, rTx] at hS
  refine then_n (wp_ret ?_)
  refine ret_P hfr hS rfl (.tmp rfl .nil) (.one (.int (by rw [hil, List.take_length])))

end Go.Proofs.Ytpnaolljmhhdbaa
