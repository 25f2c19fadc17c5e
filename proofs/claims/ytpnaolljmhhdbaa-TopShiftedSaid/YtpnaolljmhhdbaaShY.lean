/- Sh2, Sh3, in one text. -/
import Derived.Test.YtpnaolljmhhdbaaShX
namespace Go.Proofs.Ytpnaolljmhhdbaa
open Go Go.Gm
set_option linter.unusedVariables false
set_option linter.unusedSimpArgs false
set_option maxHeartbeats 4000000
set_option maxRecDepth 8000

def LowT (m : Int) (t : TxD) : Prop := (1 ≤ t.id ∧ t.id ≤ m) ∧ ∀ o ∈ t.ops, 1 ≤ o.key ∧ o.key ≤ m
instance (m : Int) (g : HistD) : Decidable (LowH m g) := by unfold LowH; infer_instance

theorem low_c (g : HistD) (m : Int) (hs : SmallT g.txs) : FnP Try.prog 16 [.agg (rHist g), .int .i64 m] (.bool (decide (LowH m g))) := by
  refine FnP.mk Try.func16 rfl Try.ntmps16 rfl ?_
  intro B a w F hB hfr hS
  have hsl := hs.1
  refine wp_seq ?_
  refine region_q hS
    (cF rfl (oX 101 (.conv .t .agg)) r1 trivial
    (cF rfl (oN .cb) trivial trivial
    Chain.nil))
    hB ?_
  clear hS; intro a w F hS
  replace hS := hS.sub
  obtain ⟨F, hS⟩ := hS.nm [4, 2, 1] [101, 0] rfl rfl
  try dsimp only [RS.sub, SF.sub, CF.sub, csub, Anc.sub, List.map, zCF, rHist, rTx, rOrd, rVer, rInt, rOp] at hS
  generalize Act.tau a 2 = v2 at hS
  refine then_n (wp_seq (wp_seq ?_))
  refine region_q hS
    (cF rfl (oF 0 101 .is) r1 r1
    (cF rfl (oL false 1 101 .adr) r1 r1
    (cF rfl (o_len_sl Try.underlying39 .t) r1 trivial
    (cF rfl (oM (.ci (by kernel_rfl))) trivial trivial
    Chain.nil))))
    hB ?_
  clear hS; intro a w F hS
  obtain ⟨F, hS⟩ := hS.nm [12, 11, 10, 4, 1] [101, 0] rfl rfl
  try dsimp only [List.map, xD, xE, xT, xU, ldSF, rHist, rTx, rOrd, rVer, rInt, rOp] at hS
  refine then_n (wp_block ?_)
  refine loop_keep (σ := (Nat)) [1, 4, 10, 11] [0, 101] (fun s => [(12, .pv (.int .i64 (s : Int)))]) (fun s => []) (fun s => s ≤ g.txs.length ∧ (∀ k, k < s → LowT m (Go.Gm.nth g.txs k))) (fun s => g.txs.length - s) (0) hS ⟨rfl, rfl, rfl, rfl, rfl, trivial⟩ ⟨rfl, rfl, trivial⟩ ⟨Nat.zero_le _, fun k hk => absurd hk (Nat.not_lt_zero k)⟩ ?_
  clear hS; intro i a w F hC hS
  try dsimp only at hC
  obtain ⟨F, hS⟩ := hS.nm [12, 11, 10, 4, 1] [101, 0] rfl rfl
  try dsimp only at hS
  obtain ⟨hi, hq⟩ := hC
  have hxl := fun hil : i < g.txs.length => hs.at hil
  refine wp_seq ?_
  refine region_q hS
    (cF rfl (o_lss .t .t) r2 trivial
    Chain.nil)
    hB ?_
  clear hS; intro a w F hS
  obtain ⟨F, hS⟩ := hS.nm [13, 12, 11, 10, 4, 1] [101, 0] rfl rfl
  try dsimp only [rHist, rTx, rOrd, rVer, rInt, rOp] at hS
  refine then_n (wp_seq ?_)
  refine cond_b hS rfl (fun hc0 => ?_) (fun hc0 => ?_)
  ·skip
   have hil : i < g.txs.length := by simp at hc0; omega
   have hq0 := hq
   have hio := hil
   have htl := hxl hil
   refine wp_skip (then_n (wp_seq (wp_block (wp_seq ?_))))
   refine region_q hS
     (cF rfl (o_indexAddr_sl (sz := 3) (.mk Try.underlying39 (by kernel_rfl)) (by intro x; rfl) .t .t (by omega) (by omega)) r2 trivial
     (cF rfl (oR true 3 .t) r1 trivial
     (cF rfl (oH [.int .i64 0, .bool false, .slice none 0 0] 102) trivial trivial
     (cF rfl (oA 3 102 .same .t) r2 r1
     Chain.nil))))
     hB ?_
   clear hS; intro a w F hS
   replace hS := hS.sub
   obtain ⟨F, hS⟩ := hS.nm [15, 14, 13, 12, 11, 10, 6, 4, 1] [102, 101, 0] rfl rfl
   try dsimp only [RS.sub, SF.sub, CF.sub, csub, Anc.sub, List.map, stCells, xL, xM, Nat.reduceAdd, xD, xE, xT, xU, xC, xN, zCF, ldSF, rHist, rTx, rOrd, rVer, rInt, rOp] at hS
   generalize Act.tau a 6 = v6 at hS
   try simp only [Int.toNat_natCast] at hS
   refine then_n (wp_seq (wp_seq ?_))
   refine region_q hS
     (cF rfl (oF 0 102 .is) r1 r1
     (cF rfl (oL false 1 102 .adr) r1 r1
     (cF rfl (o_lss .t (.ci (by kernel_rfl))) r1 trivial
     (cF rfl (oM .t) r1 trivial
     (Chain.cons (Cert.cond rfl rfl (fun h => o_fieldAddr (off := 0) 102 .is (by kernel_rfl) (by rfl))) r2 r1
     (Chain.cons (Cert.cond rfl rfl (fun h => o_load (ag := false) (sz := 1) 102 (.w h .adr) (by kernel_rfl) (by kernel_rfl) (by kernel_rfl) (by rfl))) r2 r1
     (Chain.cons (Cert.cond rfl rfl (fun h => o_move .t (by rfl))) r2 trivial
     (Chain.cons (Cert.cond rfl rfl (fun h => o_gtr (.w h) (.w h))) r3 trivial
     (cF rfl (o_or2 .t .t) r2 trivial
     Chain.nil)))))))))
     hB ?_
   clear hS; intro a w F hS
   obtain ⟨F, hS⟩ := hS.nm [24, 23, 22, 21, 20, 19, 18, 17, 16, 15, 14, 13, 12, 11, 10, 6, 4, 1] [102, 101, 0] rfl rfl
   try dsimp only [List.map, xD, xE, xT, xU, ldSF, rHist, rTx, rOrd, rVer, rInt, rOp] at hS
   refine then_n ?_
   refine cond_b hS rfl (fun hc1 => ?_) (fun hc1 => ?_)
   ·skip
    have hg : false = decide (LowH m g) := by
      rw [eq_comm, decide_eq_false_iff_not]
      intro h9
      have h8 := (h9 _ (nth_mem hil)).1
      simp at hc1
      omega
    refine wp_seq ?_
    refine region_q hS
      (cF rfl (oN .cb) trivial trivial
      Chain.nil)
      hB ?_
    clear hS; intro a w F hS
    obtain ⟨F, hS⟩ := hS.nm [24, 23, 22, 21, 20, 19, 18, 17, 16, 15, 14, 13, 12, 11, 10, 6, 4, 1] [102, 101, 0] rfl rfl
    try dsimp only [rHist, rTx, rOrd, rVer, rInt, rOp] at hS
    refine then_n (wp_ret (then_r (block_r (then_r (then_r (block_r (then_r ?_)))))))
    refine ret_P hfr hS rfl (.tmp rfl .nil) (.one (.bool hg))
   have hid : 1 ≤ (Go.Gm.nth g.txs i).id ∧ (Go.Gm.nth g.txs i).id ≤ m := by simp at hc1; omega
   refine wp_skip (then_n (wp_seq ?_))
   refine region_q hS
     (cF rfl (oF 2 102 .is) r1 r1
     (cF rfl (oL false 1 102 .adr) r1 r1
     (cF rfl (o_len_sl Try.underlying73 .t) r1 trivial
     (cF rfl (oM (.ci (by kernel_rfl))) trivial trivial
     Chain.nil))))
     hB ?_
   clear hS; intro a w F hS
   obtain ⟨F, hS⟩ := hS.nm [28, 27, 26, 25, 24, 23, 22, 21, 20, 19, 18, 17, 16, 15, 14, 13, 12, 11, 10, 6, 4, 1] [102, 101, 0] rfl rfl
   try dsimp only [List.map, xD, xE, xT, xU, ldSF, rHist, rTx, rOrd, rVer, rInt, rOp] at hS
   refine then_n (wp_block ?_)
   refine loop_keep (σ := (Nat)) [1, 4, 6, 10, 11, 12, 13, 14, 15, 16, 17, 18, 19, 20, 21, 22, 23, 24, 25, 26, 27] [0, 101, 102] (fun s => [(28, .pv (.int .i64 (s : Int)))]) (fun s => []) (fun s => s ≤ (Go.Gm.nth g.txs i).ops.length ∧ (∀ k, k < s → 1 ≤ (Go.Gm.nth (Go.Gm.nth g.txs i).ops k).key ∧ (Go.Gm.nth (Go.Gm.nth g.txs i).ops k).key ≤ m)) (fun s => (Go.Gm.nth g.txs i).ops.length - s) (0) hS ⟨rfl, rfl, rfl, rfl, rfl, rfl, rfl, rfl, rfl, rfl, rfl, rfl, rfl, rfl, rfl, rfl, rfl, rfl, rfl, rfl, rfl, rfl, trivial⟩ ⟨rfl, rfl, rfl, trivial⟩ ⟨Nat.zero_le _, fun k hk => absurd hk (Nat.not_lt_zero k)⟩ ?_
   clear hS; intro j a w F hC hS
   try dsimp only at hC
   obtain ⟨F, hS⟩ := hS.nm [28, 27, 26, 25, 24, 23, 22, 21, 20, 19, 18, 17, 16, 15, 14, 13, 12, 11, 10, 6, 4, 1] [102, 101, 0] rfl rfl
   try dsimp only at hS
   obtain ⟨hi, hq⟩ := hC
   refine wp_seq ?_
   refine region_q hS
     (cF rfl (o_lss .t .t) r2 trivial
     Chain.nil)
     hB ?_
   clear hS; intro a w F hS
   obtain ⟨F, hS⟩ := hS.nm [29, 28, 27, 26, 25, 24, 23, 22, 21, 20, 19, 18, 17, 16, 15, 14, 13, 12, 11, 10, 6, 4, 1] [102, 101, 0] rfl rfl
   try dsimp only [rHist, rTx, rOrd, rVer, rInt, rOp] at hS
   refine then_n (wp_seq ?_)
   refine cond_b hS rfl (fun hc2 => ?_) (fun hc2 => ?_)
   ·skip
    have hil : j < (Go.Gm.nth g.txs i).ops.length := by simp at hc2; omega
    refine wp_skip (then_n (wp_seq (wp_block (wp_seq ?_))))
    refine region_q hS
      (cF rfl (o_indexAddr_sl (sz := 4) (.mk Try.underlying73 (by kernel_rfl)) (by intro x; rfl) .t .t (by omega) (by omega)) r2 trivial
      (cF rfl (oR true 4 .t) r1 trivial
      (cF rfl (oH [.bool false, .int .i64 0, .int .i64 0, .int .i64 0] 103) trivial trivial
      (cF rfl (oA 4 103 .same .t) r2 r1
      Chain.nil))))
      hB ?_
    clear hS; intro a w F hS
    replace hS := hS.sub
    obtain ⟨F, hS⟩ := hS.nm [31, 30, 29, 28, 27, 26, 25, 24, 23, 22, 21, 20, 19, 18, 17, 16, 15, 14, 13, 12, 11, 10, 8, 6, 4, 1] [103, 102, 101, 0] rfl rfl
    try dsimp only [RS.sub, SF.sub, CF.sub, csub, Anc.sub, List.map, stCells, xL, xM, Nat.reduceAdd, xD, xE, xT, xU, xC, xN, zCF, ldSF, rHist, rTx, rOrd, rVer, rInt, rOp] at hS
    generalize Act.tau a 8 = v8 at hS
    try simp only [Int.toNat_natCast] at hS
    refine then_n (wp_seq ?_)
    refine region_q hS
      (cF rfl (oF 1 103 .is) r1 r1
      (cF rfl (oL false 1 103 .adr) r1 r1
      (cF rfl (o_lss .t (.ci (by kernel_rfl))) r1 trivial
      (cF rfl (oM .t) r1 trivial
      (Chain.cons (Cert.cond rfl rfl (fun h => o_fieldAddr (off := 1) 103 .is (by kernel_rfl) (by rfl))) r2 r1
      (Chain.cons (Cert.cond rfl rfl (fun h => o_load (ag := false) (sz := 1) 103 (.w h .adr) (by kernel_rfl) (by kernel_rfl) (by kernel_rfl) (by rfl))) r2 r1
      (Chain.cons (Cert.cond rfl rfl (fun h => o_move .t (by rfl))) r2 trivial
      (Chain.cons (Cert.cond rfl rfl (fun h => o_gtr (.w h) (.w h))) r3 trivial
      (cF rfl (o_or2 .t .t) r2 trivial
      Chain.nil)))))))))
      hB ?_
    clear hS; intro a w F hS
    obtain ⟨F, hS⟩ := hS.nm [40, 39, 38, 37, 36, 35, 34, 33, 32, 31, 30, 29, 28, 27, 26, 25, 24, 23, 22, 21, 20, 19, 18, 17, 16, 15, 14, 13, 12, 11, 10, 8, 6, 4, 1] [103, 102, 101, 0] rfl rfl
    try dsimp only [List.map, xD, xE, xT, xU, ldSF, rHist, rTx, rOrd, rVer, rInt, rOp] at hS
    refine then_n ?_
    refine cond_b hS rfl (fun hc3 => ?_) (fun hc3 => ?_)
    ·skip
     have hg : false = decide (LowH m g) := by
       rw [eq_comm, decide_eq_false_iff_not]
       intro h9
       have h8 := (h9 _ (nth_mem hio)).2 _ (nth_mem hil)
       simp at hc3
       omega
     refine wp_seq ?_
     refine region_q hS
       (cF rfl (oN .cb) trivial trivial
       Chain.nil)
       hB ?_
     clear hS; intro a w F hS
     obtain ⟨F, hS⟩ := hS.nm [40, 39, 38, 37, 36, 35, 34, 33, 32, 31, 30, 29, 28, 27, 26, 25, 24, 23, 22, 21, 20, 19, 18, 17, 16, 15, 14, 13, 12, 11, 10, 8, 6, 4, 1] [103, 102, 101, 0] rfl rfl
     try dsimp only [rHist, rTx, rOrd, rVer, rInt, rOp] at hS
     refine then_n (wp_ret (block_r (then_r (then_r (block_r (block_r (then_r (then_r (block_r (then_r ?_))))))))))
     refine ret_P hfr hS rfl (.tmp rfl .nil) (.one (.bool hg))
    have hko : 1 ≤ (Go.Gm.nth (Go.Gm.nth g.txs i).ops j).key ∧ (Go.Gm.nth (Go.Gm.nth g.txs i).ops j).key ≤ m := by simp at hc3; omega
    refine wp_skip (block_n (then_n ?_))
    refine region_q hS
      (cF rfl (o_add .t (.ci (by kernel_rfl))) r1 trivial
      (cF rfl (oM .t) r1 trivial
      Chain.nil))
      hB ?_
    clear hS; intro a w F hS
    obtain ⟨F, hS⟩ := hS.nm [41, 40, 39, 38, 37, 36, 35, 34, 33, 32, 31, 30, 29, 28, 27, 26, 25, 24, 23, 22, 21, 20, 19, 18, 17, 16, 15, 14, 13, 12, 11, 10, 8, 6, 4, 1] [103, 102, 101, 0] rfl rfl
    try dsimp only [rHist, rTx, rOrd, rVer, rInt, rOp] at hS
    refine then_n ?_
    replace hS := hS.ent (i := 28) (s' := .pv (.int .i64 ((j + 1 : Nat) : Int))) rfl (.int (wrap_succ (by omega)))
    obtain ⟨F, hS⟩ := hS.nm [27, 26, 25, 24, 23, 22, 21, 20, 19, 18, 17, 16, 15, 14, 13, 12, 11, 10, 6, 4, 1, 28] [102, 101, 0] rfl rfl
    exact ⟨(j + 1), F, ⟨by omega, (fun k hk => by rcases Nat.lt_or_eq_of_le (Nat.le_of_lt_succ hk) with h9 | h9; exact hq k h9; rw [h9]; exact hko)⟩, hS, by omega⟩
   have hil : j = (Go.Gm.nth g.txs i).ops.length := by simp at hc2; omega
   have hgood : LowT m (Go.Gm.nth g.txs i) := ⟨hid, fun o ho => by obtain ⟨k, hk, e⟩ := List.getElem_of_mem ho; have h9 := hq k (by omega); rw [nth_eq hk, e] at h9; exact h9⟩
   refine wp_exit (then_x (then_x (block_x (block_n (then_n ?_)))))
   refine region_q hS
     (cF rfl (o_add .t (.ci (by kernel_rfl))) r1 trivial
     (cF rfl (oM .t) r1 trivial
     Chain.nil))
     hB ?_
   clear hS; intro a w F hS
   obtain ⟨F, hS⟩ := hS.nm [42, 29, 28, 27, 26, 25, 24, 23, 22, 21, 20, 19, 18, 17, 16, 15, 14, 13, 12, 11, 10, 6, 4, 1] [102, 101, 0] rfl rfl
   try dsimp only [rHist, rTx, rOrd, rVer, rInt, rOp] at hS
   refine then_n ?_
   replace hS := hS.ent (i := 12) (s' := .pv (.int .i64 ((i + 1 : Nat) : Int))) rfl (.int (wrap_succ (by omega)))
   obtain ⟨F, hS⟩ := hS.nm [11, 10, 4, 1, 12] [101, 0] rfl rfl
   exact ⟨(i + 1), F, ⟨by omega, (fun k hk => by rcases Nat.lt_or_eq_of_le (Nat.le_of_lt_succ hk) with h9 | h9; exact hq0 k h9; rw [h9]; exact hgood)⟩, hS, by omega⟩
  have hil : i = g.txs.length := by simp at hc0; omega
  have hg : true = decide (LowH m g) := (decide_eq_true fun t ht => by obtain ⟨k, hk, e⟩ := List.getElem_of_mem ht; have h9 := hq k (by omega); rw [nth_eq hk, e] at h9; exact h9).symm
  refine wp_exit (then_x (then_x (block_x (then_n (wp_seq ?_)))))
  refine region_q hS
    (cF rfl (oN .cb) trivial trivial
    Chain.nil)
    hB ?_
  clear hS; intro a w F hS
  obtain ⟨F, hS⟩ := hS.nm [4] [101, 0] rfl rfl
  try dsimp only [rHist, rTx, rOrd, rVer, rInt, rOp] at hS
  refine then_n (wp_ret ?_)
  refine ret_P hfr hS rfl (.tmp rfl .nil) (.one (.bool hg))

end Go.Proofs.Ytpnaolljmhhdbaa
namespace Go.Proofs.Ytpnaolljmhhdbaa
open Go Go.Gm
set_option linter.unusedVariables false
set_option linter.unusedSimpArgs false
set_option maxHeartbeats 4000000
set_option maxRecDepth 8000

theorem shifted_c (g : HistD) (ia kc : Int) (hsm : Small g) (hia : 0 ≤ ia ∧ ia ≤ 40000) (hkc : 0 ≤ kc ∧ kc ≤ 40000) (hl : LowH 1000000 g) (hro : ∀ t ∈ g.txs, ∀ o ∈ t.ops, rightO o = true) (hor : ∀ o ∈ g.orders, (1 ≤ o.key ∧ o.key ≤ 1000000) ∧ ∀ x ∈ o.txs, 1 ≤ x ∧ x ≤ 1000000) : FnP Try.prog 18 [.agg (rHist g), .int .i64 ia, .int .i64 kc] (.agg (rHist (shH ia kc g))) := by
  refine FnP.mk Try.func18 rfl Try.ntmps18 rfl ?_
  intro B a w F hB hfr hS
  have hs := hsm.1
  have hsl := hs.1
  have hso := hsm.2
  have hol1 := hso.1
  refine wp_seq ?_
  refine region_q hS
    (cF rfl (oX 101 (.conv .t .agg)) r1 trivial
    (cF rfl (oH [.slice none 0 0, .slice none 0 0] 102) trivial trivial
    Chain.nil))
    hB ?_
  clear hS; intro a w F hS
  replace hS := hS.sub
  obtain ⟨F, hS⟩ := hS.nm [6, 3, 2, 1] [102, 101, 0] rfl rfl
  try dsimp only [RS.sub, SF.sub, CF.sub, csub, Anc.sub, List.map, zCF, rHist, rTx, rOrd, rVer, rInt, rOp] at hS
  generalize Act.tau a 3 = v3 at hS
  generalize Act.tau a 6 = v6 at hS
  refine then_n (wp_seq ?_)
  refine region_q hS
    (cF rfl (oH [.slice none 0 0, .slice none 0 0] 103) trivial trivial
    Chain.nil)
    hB ?_
  clear hS; intro a w F hS
  replace hS := hS.sub
  obtain ⟨F, hS⟩ := hS.nm [7, 6, 3, 2, 1] [103, 102, 101, 0] rfl rfl
  try dsimp only [RS.sub, SF.sub, CF.sub, csub, Anc.sub, List.map, zCF, rHist, rTx, rOrd, rVer, rInt, rOp] at hS
  generalize Act.tau a 7 = v7 at hS
  refine then_n (wp_seq (wp_seq ?_))
  refine region_q hS
    (cF rfl (oF 0 101 .is) r1 r1
    (cF rfl (oL false 1 101 .adr) r1 r1
    (cF rfl (o_len_sl Try.underlying39 .t) r1 trivial
    (cF rfl (oM (.ci (by kernel_rfl))) trivial trivial
    Chain.nil))))
    hB ?_
  clear hS; intro a w F hS
  obtain ⟨F, hS⟩ := hS.nm [21, 20, 19, 7, 6, 3, 2, 1] [103, 102, 101, 0] rfl rfl
  try dsimp only [List.map, xD, xE, xT, xU, ldSF, rHist, rTx, rOrd, rVer, rInt, rOp] at hS
  replace hS := hS.fresh 50 rfl
  replace hS := hS.turn 50 rfl (nilRow (T := 75) (sz := 3) (R := rTx))
  obtain ⟨F, hS⟩ := hS.nm [21, 20, 19, 7, 6, 3, 2, 1] [103, 102, 101, 50, 0] rfl rfl
  refine then_n (wp_block ?_)
  refine loop_keep (σ := (Nat) × (Value) × (List TxD)) [1, 2, 3, 6, 7, 19, 20] [0, 101, 102] (fun s => [(21, .pv (.int .i64 (s.1 : Int)))]) (fun s => [(103, .pt (.val v7) 42 [.pv (.is s.2.1), .pv (.is (.slice none 0 0))]), (50, .ob (.val s.2.1) (rowH 75 3 rTx s.2.2))]) (fun s => s.1 ≤ g.txs.length ∧ (s.2.2 = (g.txs.take s.1).map (shT ia kc))) (fun s => g.txs.length - s.1) ((0), ((.slice none 0 0)), ([])) hS ⟨rfl, rfl, rfl, rfl, rfl, rfl, rfl, rfl, trivial⟩ ⟨rfl, rfl, rfl, rfl, rfl, trivial⟩ ⟨Nat.zero_le _, rfl⟩ ?_
  clear hS; intro s a w F hC hS
  obtain ⟨i, u, out⟩ := s
  try dsimp only at hC
  obtain ⟨F, hS⟩ := hS.nm [21, 20, 19, 7, 6, 3, 2, 1] [103, 102, 101, 50, 0] rfl rfl
  try dsimp only at hS
  obtain ⟨hi, hq⟩ := hC
  have hxl := fun hil : i < g.txs.length => hs.at hil
  have hol : out.length ≤ i := by rw [hq, List.length_map, List.length_take]; omega
  refine wp_seq ?_
  refine region_q hS
    (cF rfl (o_lss .t .t) r2 trivial
    Chain.nil)
    hB ?_
  clear hS; intro a w F hS
  obtain ⟨F, hS⟩ := hS.nm [22, 21, 20, 19, 7, 6, 3, 2, 1] [103, 102, 101, 50, 0] rfl rfl
  try dsimp only [rHist, rTx, rOrd, rVer, rInt, rOp] at hS
  refine then_n (wp_seq ?_)
  refine cond_b hS rfl (fun hc0 => ?_) (fun hc0 => ?_)
  ·skip
   have hil : i < g.txs.length := by simp at hc0; omega
   have hio := hil
   have hqo := hq
   have htl := hxl hil
   have hidb := (hl _ (nth_mem hil)).1
   have hwid : IntKind.wrap .i64 ((Go.Gm.nth g.txs i).id + ia) = (Go.Gm.nth g.txs i).id + ia := wrap_i64 (by omega)
   refine wp_skip (then_n (wp_seq (wp_block (wp_seq ?_))))
   refine region_q hS
     (cF rfl (o_indexAddr_sl (sz := 3) (.mk Try.underlying39 (by kernel_rfl)) (by intro x; rfl) .t .t (by omega) (by omega)) r2 trivial
     (cF rfl (oR true 3 .t) r1 trivial
     (cF rfl (oH [.int .i64 0, .bool false, .slice none 0 0] 104) trivial trivial
     (cF rfl (oA 3 104 .same .t) r2 r1
     Chain.nil))))
     hB ?_
   clear hS; intro a w F hS
   replace hS := hS.sub
   obtain ⟨F, hS⟩ := hS.nm [24, 23, 22, 21, 20, 19, 9, 7, 6, 3, 2, 1] [104, 103, 102, 101, 50, 0] rfl rfl
   try dsimp only [RS.sub, SF.sub, CF.sub, csub, Anc.sub, List.map, stCells, xL, xM, Nat.reduceAdd, xD, xE, xT, xU, xC, xN, zCF, ldSF, rHist, rTx, rOrd, rVer, rInt, rOp] at hS
   generalize Act.tau a 9 = v9 at hS
   try simp only [Int.toNat_natCast] at hS
   refine then_n (wp_seq ?_)
   refine region_q hS
     (cF rfl (oF 0 104 .is) r1 r1
     (cF rfl (oL false 1 104 .adr) r1 r1
     (cF rfl (oM .t) r1 trivial
     (cF rfl (o_add .t .t) r2 trivial
     (cF rfl (oF 1 104 .is) r1 r1
     (cF rfl (oL false 1 104 .adr) r1 r1
     (cF rfl (oB [(0, .tmp 28), (1, .tmp 30)] [.int .i64 0, .bool false, .slice none 0 0] [(0, 1), (1, 1), (2, 1)] (.one rfl .t one_int (by kernel_rfl) (.one rfl .t one_bool (by kernel_rfl) .nil))) r2 trivial
     (cF rfl (oH [.int .i64 0, .bool false, .slice none 0 0] 105) trivial trivial
     (cF rfl (oA 3 105 .same .t) r2 r1
     Chain.nil)))))))))
     hB ?_
   clear hS; intro a w F hS
   replace hS := hS.sub
   obtain ⟨F, hS⟩ := hS.nm [31, 30, 29, 28, 27, 26, 25, 24, 23, 22, 21, 20, 19, 10, 9, 7, 6, 3, 2, 1] [105, 104, 103, 102, 101, 50, 0] rfl rfl
   try dsimp only [RS.sub, SF.sub, CF.sub, csub, Anc.sub, List.map, stCells, xL, xM, Nat.reduceAdd, xD, xE, xT, xU, xC, xN, zCF, ldSF, rHist, rTx, rOrd, rVer, rInt, rOp] at hS
   generalize Act.tau a 10 = v10 at hS
   rw [hwid] at hS
   replace hS := hS.fresh 51 rfl
   replace hS := hS.turn 51 rfl (nilRow (T := 80) (sz := 4) (R := rOp))
   obtain ⟨F, hS⟩ := hS.nm [31, 30, 29, 28, 27, 26, 25, 24, 23, 22, 21, 20, 19, 10, 9, 7, 6, 3, 2, 1] [105, 104, 103, 102, 101, 51, 50, 0] rfl rfl
   refine then_n (wp_seq (wp_seq ?_))
   refine region_q hS
     (cF rfl (oF 2 104 .is) r1 r1
     (cF rfl (oL false 1 104 .adr) r1 r1
     (cF rfl (o_len_sl Try.underlying73 .t) r1 trivial
     (cF rfl (oM (.ci (by kernel_rfl))) trivial trivial
     Chain.nil))))
     hB ?_
   clear hS; intro a w F hS
   obtain ⟨F, hS⟩ := hS.nm [35, 34, 33, 32, 31, 30, 29, 28, 27, 26, 25, 24, 23, 22, 21, 20, 19, 10, 9, 7, 6, 3, 2, 1] [105, 104, 103, 102, 101, 51, 50, 0] rfl rfl
   try dsimp only [List.map, xD, xE, xT, xU, ldSF, rHist, rTx, rOrd, rVer, rInt, rOp] at hS
   refine then_n (wp_block ?_)
   refine loop_keep (σ := (Nat) × (Value) × (List OpD)) [1, 2, 3, 6, 7, 9, 10, 19, 20, 21, 22, 23, 24, 25, 26, 27, 28, 29, 30, 31, 32, 33, 34] [0, 50, 101, 102, 103, 104] (fun s => [(35, .pv (.int .i64 (s.1 : Int)))]) (fun s => [(105, .pt (.val v10) 75 [.pv (.int .i64 ((Go.Gm.nth g.txs i).id + ia)), .pv (.bool (Go.Gm.nth g.txs i).done), .pv (.is s.2.1)]), (51, .ob (.val s.2.1) (rowH 80 4 rOp s.2.2))]) (fun s => s.1 ≤ (Go.Gm.nth g.txs i).ops.length ∧ (s.2.2 = ((Go.Gm.nth g.txs i).ops.take s.1).map (shO ia kc))) (fun s => (Go.Gm.nth g.txs i).ops.length - s.1) ((0), ((.slice none 0 0)), ([])) hS ⟨rfl, rfl, rfl, rfl, rfl, rfl, rfl, rfl, rfl, rfl, rfl, rfl, rfl, rfl, rfl, rfl, rfl, rfl, rfl, rfl, rfl, rfl, rfl, rfl, trivial⟩ ⟨rfl, rfl, rfl, rfl, rfl, rfl, rfl, rfl, trivial⟩ ⟨Nat.zero_le _, rfl⟩ ?_
   clear hS; intro s a w F hC hS
   obtain ⟨j, z, ops⟩ := s
   try dsimp only at hC
   obtain ⟨F, hS⟩ := hS.nm [35, 34, 33, 32, 31, 30, 29, 28, 27, 26, 25, 24, 23, 22, 21, 20, 19, 10, 9, 7, 6, 3, 2, 1] [105, 104, 103, 102, 101, 51, 50, 0] rfl rfl
   try dsimp only at hS
   obtain ⟨hi, hq⟩ := hC
   have hpl : ops.length ≤ j := by rw [hq, List.length_map, List.length_take]; omega
   refine wp_seq ?_
   refine region_q hS
     (cF rfl (o_lss .t .t) r2 trivial
     Chain.nil)
     hB ?_
   clear hS; intro a w F hS
   obtain ⟨F, hS⟩ := hS.nm [36, 35, 34, 33, 32, 31, 30, 29, 28, 27, 26, 25, 24, 23, 22, 21, 20, 19, 10, 9, 7, 6, 3, 2, 1] [105, 104, 103, 102, 101, 51, 50, 0] rfl rfl
   try dsimp only [rHist, rTx, rOrd, rVer, rInt, rOp] at hS
   refine then_n (wp_seq ?_)
   refine cond_b hS rfl (fun hc1 => ?_) (fun hc1 => ?_)
   ·skip
    have hil : j < (Go.Gm.nth g.txs i).ops.length := by simp at hc1; omega
    have hkb := (hl _ (nth_mem hio)).2 _ (nth_mem hil)
    have htb := (right_rng (hro _ (nth_mem hio) _ (nth_mem hil))).2.1
    have hwk : IntKind.wrap .i64 ((Go.Gm.nth (Go.Gm.nth g.txs i).ops j).key + kc) = (Go.Gm.nth (Go.Gm.nth g.txs i).ops j).key + kc := wrap_i64 (by omega)
    have hwt : IntKind.wrap .i64 ((Go.Gm.nth (Go.Gm.nth g.txs i).ops j).tx + ia) = (Go.Gm.nth (Go.Gm.nth g.txs i).ops j).tx + ia := wrap_i64 (by omega)
    refine wp_skip (then_n (wp_seq (wp_block (wp_seq ?_))))
    refine region_q hS
      (cF rfl (o_indexAddr_sl (sz := 4) (.mk Try.underlying73 (by kernel_rfl)) (by intro x; rfl) .t .t (by omega) (by omega)) r2 trivial
      (cF rfl (oR true 4 .t) r1 trivial
      (cF rfl (oH [.bool false, .int .i64 0, .int .i64 0, .int .i64 0] 106) trivial trivial
      (cF rfl (oA 4 106 .same .t) r2 r1
      Chain.nil))))
      hB ?_
    clear hS; intro a w F hS
    replace hS := hS.sub
    obtain ⟨F, hS⟩ := hS.nm [38, 37, 36, 35, 34, 33, 32, 31, 30, 29, 28, 27, 26, 25, 24, 23, 22, 21, 20, 19, 12, 10, 9, 7, 6, 3, 2, 1] [106, 105, 104, 103, 102, 101, 51, 50, 0] rfl rfl
    try dsimp only [RS.sub, SF.sub, CF.sub, csub, Anc.sub, List.map, stCells, xL, xM, Nat.reduceAdd, xD, xE, xT, xU, xC, xN, zCF, ldSF, rHist, rTx, rOrd, rVer, rInt, rOp] at hS
    generalize Act.tau a 12 = v12 at hS
    try simp only [Int.toNat_natCast] at hS
    refine then_n (wp_seq ?_)
    refine region_q hS
      (cF rfl (oF 1 106 .is) r1 r1
      (cF rfl (oL false 1 106 .adr) r1 r1
      (cF rfl (oM .t) r1 trivial
      (cF rfl (o_add .t .t) r2 trivial
      (cF rfl (oF 1 106 .is) r1 r1
      (cF rfl (o_store1 106 .adr .t one_int (by kernel_rfl) (by kernel_rfl)) r2 r1
      Chain.nil))))))
      hB ?_
    clear hS; intro a w F hS
    obtain ⟨F, hS⟩ := hS.nm [43, 42, 41, 40, 39, 38, 37, 36, 35, 34, 33, 32, 31, 30, 29, 28, 27, 26, 25, 24, 23, 22, 21, 20, 19, 12, 10, 9, 7, 6, 3, 2, 1] [106, 105, 104, 103, 102, 101, 51, 50, 0] rfl rfl
    try dsimp only [List.map, stCells, xL, xM, Nat.reduceAdd, xD, xE, xT, xU, xC, xN, zCF, ldSF, rHist, rTx, rOrd, rVer, rInt, rOp] at hS
    rw [hwk] at hS
    refine then_n (wp_seq (wp_seq ?_))
    refine region_q hS
      (cF rfl (oF 0 106 .is) r1 r1
      (cF rfl (oL false 1 106 .adr) r1 r1
      (cF rfl (oM .t) r1 trivial
      (Chain.cons (Cert.cond rfl rfl (fun h => o_fieldAddr (off := 2) 106 .is (by kernel_rfl) (by rfl))) r2 r1
      (Chain.cons (Cert.cond rfl rfl (fun h => o_load (ag := false) (sz := 1) 106 (.w h .adr) (by kernel_rfl) (by kernel_rfl) (by kernel_rfl) (by rfl))) r2 r1
      (Chain.cons (Cert.cond rfl rfl (fun h => o_neq (.w h) (.ci (by kernel_rfl)))) r2 trivial
      (cF rfl (o_and2 .t .t) r2 trivial
      Chain.nil)))))))
      hB ?_
    clear hS; intro a w F hS
    obtain ⟨F, hS⟩ := hS.nm [50, 49, 48, 47, 46, 45, 44, 43, 42, 41, 40, 39, 38, 37, 36, 35, 34, 33, 32, 31, 30, 29, 28, 27, 26, 25, 24, 23, 22, 21, 20, 19, 12, 10, 9, 7, 6, 3, 2, 1] [106, 105, 104, 103, 102, 101, 51, 50, 0] rfl rfl
    try dsimp only [List.map, xD, xE, xT, xU, ldSF, rHist, rTx, rOrd, rVer, rInt, rOp] at hS
    refine then_n ?_
    refine cond_b hS rfl (fun hc2 => ?_) (fun hc2 => ?_)
    ·skip
     have hel : (⟨(Go.Gm.nth (Go.Gm.nth g.txs i).ops j).read, (Go.Gm.nth (Go.Gm.nth g.txs i).ops j).key + kc, (Go.Gm.nth (Go.Gm.nth g.txs i).ops j).tx + ia, (Go.Gm.nth (Go.Gm.nth g.txs i).ops j).nth⟩ : OpD) = shO ia kc (Go.Gm.nth (Go.Gm.nth g.txs i).ops j) := by unfold shO; rw [if_pos (by simpa using hc2)]
     refine region_q hS
       (cF rfl (oF 2 106 .is) r1 r1
       (cF rfl (oL false 1 106 .adr) r1 r1
       (cF rfl (oM .t) r1 trivial
       (cF rfl (o_add .t .t) r2 trivial
       (cF rfl (oF 2 106 .is) r1 r1
       (cF rfl (o_store1 106 .adr .t one_int (by kernel_rfl) (by kernel_rfl)) r2 r1
       Chain.nil))))))
       hB ?_
     clear hS; intro a w F hS
     obtain ⟨F, hS⟩ := hS.nm [55, 54, 53, 52, 51, 50, 49, 48, 47, 46, 45, 44, 43, 42, 41, 40, 39, 38, 37, 36, 35, 34, 33, 32, 31, 30, 29, 28, 27, 26, 25, 24, 23, 22, 21, 20, 19, 12, 10, 9, 7, 6, 3, 2, 1] [106, 105, 104, 103, 102, 101, 51, 50, 0] rfl rfl
     try dsimp only [List.map, stCells, xL, xM, Nat.reduceAdd, xD, xE, xT, xU, xC, xN, zCF, ldSF, rHist, rTx, rOrd, rVer, rInt, rOp] at hS
     rw [hwt] at hS
     refine then_n ?_
     refine region_q hS
       (cF rfl (oF 2 105 .is) r1 r1
       (cF rfl (oL false 1 105 .adr) r1 r1
       (cF rfl (oL true 4 106 .is) r1 r1
       (cF rfl (o_buildSliceE (sz := 4) (zs := [.bool false, .int .i64 0, .int .i64 0, .int .i64 0]) (r := [(0, .tmp 58)]) (l := [_, _, _, _]) Try.underlying73 (by kernel_rfl) (by kernel_rfl) (by kernel_rfl) (by kernel_rfl) rfl rfl (.agg rfl .t (by kernel_rfl) (by kernel_rfl) .nil) rfl) r1 trivial
       (cF rfl (o_append (sz := 4) (bs := 32) 51 (.mk' Try.underlying73 (by kernel_rfl) (by kernel_rfl)) (by intro x; rfl) .is (.arr (l' := [(⟨(Go.Gm.nth (Go.Gm.nth g.txs i).ops j).read, (Go.Gm.nth (Go.Gm.nth g.txs i).ops j).key + kc, (Go.Gm.nth (Go.Gm.nth g.txs i).ops j).tx + ia, (Go.Gm.nth (Go.Gm.nth g.txs i).ops j).nth⟩ : OpD)]) .t) (by simp only [List.length_append, List.length_cons, List.length_nil]; omega) (by decide)) ⟨rfl, rfl, trivial⟩ ⟨rfl, trivial⟩
       (cF rfl (oF 2 105 .is) r1 r1
       (cF rfl (o_storeS 105 .adr (by kernel_rfl) (by kernel_rfl)) r2 r1
       Chain.nil)))))))
       hB ?_
     clear hS; intro a w F hS
     replace hS := hS.sub
     obtain ⟨F, hS⟩ := hS.nm [61, 60, 59, 58, 57, 56, 55, 54, 53, 52, 51, 50, 49, 48, 47, 46, 45, 44, 43, 42, 41, 40, 39, 38, 37, 36, 35, 34, 33, 32, 31, 30, 29, 28, 27, 26, 25, 24, 23, 22, 21, 20, 19, 12, 10, 9, 7, 6, 3, 2, 1] [106, 105, 104, 103, 102, 101, 51, 50, 0] rfl rfl
     try dsimp only [RS.sub, SF.sub, CF.sub, csub, Anc.sub, List.map, stCells, xL, xM, Nat.reduceAdd, xD, xE, xT, xU, xC, xN, zCF, ldSF, rHist, rTx, rOrd, rVer, rInt, rOp] at hS
     generalize Act.tau a 60 = v60 at hS
     rw [hel] at hS
     refine block_n (then_n ?_)
     refine region_q hS
       (cF rfl (o_add .t (.ci (by kernel_rfl))) r1 trivial
       (cF rfl (oM .t) r1 trivial
       Chain.nil))
       hB ?_
     clear hS; intro a w F hS
     obtain ⟨F, hS⟩ := hS.nm [62, 61, 60, 59, 58, 57, 56, 55, 54, 53, 52, 51, 50, 49, 48, 47, 46, 45, 44, 43, 42, 41, 40, 39, 38, 37, 36, 35, 34, 33, 32, 31, 30, 29, 28, 27, 26, 25, 24, 23, 22, 21, 20, 19, 12, 10, 9, 7, 6, 3, 2, 1] [106, 105, 104, 103, 102, 101, 51, 50, 0] rfl rfl
     try dsimp only [rHist, rTx, rOrd, rVer, rInt, rOp] at hS
     refine then_n ?_
     replace hS := hS.ent (i := 35) (s' := .pv (.int .i64 ((j + 1 : Nat) : Int))) rfl (.int (wrap_succ (by omega)))
     obtain ⟨F, hS⟩ := hS.nm [34, 33, 32, 31, 30, 29, 28, 27, 26, 25, 24, 23, 22, 21, 20, 19, 10, 9, 7, 6, 3, 2, 1, 35] [104, 103, 102, 101, 50, 0, 51, 105] rfl rfl
     exact ⟨((j + 1), (v60), (ops ++ [shO ia kc (Go.Gm.nth (Go.Gm.nth g.txs i).ops j)])), F, ⟨by omega, (by rw [take_nth hil, List.map_append, ← hq, List.map_singleton])⟩, hS, by omega⟩
    have hel : (⟨(Go.Gm.nth (Go.Gm.nth g.txs i).ops j).read, (Go.Gm.nth (Go.Gm.nth g.txs i).ops j).key + kc, (Go.Gm.nth (Go.Gm.nth g.txs i).ops j).tx, (Go.Gm.nth (Go.Gm.nth g.txs i).ops j).nth⟩ : OpD) = shO ia kc (Go.Gm.nth (Go.Gm.nth g.txs i).ops j) := by unfold shO; rw [if_neg (by simpa using hc2)]
    refine wp_skip (then_n ?_)
    refine region_q hS
      (cF rfl (oF 2 105 .is) r1 r1
      (cF rfl (oL false 1 105 .adr) r1 r1
      (cF rfl (oL true 4 106 .is) r1 r1
      (cF rfl (o_buildSliceE (sz := 4) (zs := [.bool false, .int .i64 0, .int .i64 0, .int .i64 0]) (r := [(0, .tmp 58)]) (l := [_, _, _, _]) Try.underlying73 (by kernel_rfl) (by kernel_rfl) (by kernel_rfl) (by kernel_rfl) rfl rfl (.agg rfl .t (by kernel_rfl) (by kernel_rfl) .nil) rfl) r1 trivial
      (cF rfl (o_append (sz := 4) (bs := 32) 51 (.mk' Try.underlying73 (by kernel_rfl) (by kernel_rfl)) (by intro x; rfl) .is (.arr (l' := [(⟨(Go.Gm.nth (Go.Gm.nth g.txs i).ops j).read, (Go.Gm.nth (Go.Gm.nth g.txs i).ops j).key + kc, (Go.Gm.nth (Go.Gm.nth g.txs i).ops j).tx, (Go.Gm.nth (Go.Gm.nth g.txs i).ops j).nth⟩ : OpD)]) .t) (by simp only [List.length_append, List.length_cons, List.length_nil]; omega) (by decide)) ⟨rfl, rfl, trivial⟩ ⟨rfl, trivial⟩
      (cF rfl (oF 2 105 .is) r1 r1
      (cF rfl (o_storeS 105 .adr (by kernel_rfl) (by kernel_rfl)) r2 r1
      Chain.nil)))))))
      hB ?_
    clear hS; intro a w F hS
    replace hS := hS.sub
    obtain ⟨F, hS⟩ := hS.nm [61, 60, 59, 58, 57, 56, 50, 49, 48, 47, 46, 45, 44, 43, 42, 41, 40, 39, 38, 37, 36, 35, 34, 33, 32, 31, 30, 29, 28, 27, 26, 25, 24, 23, 22, 21, 20, 19, 12, 10, 9, 7, 6, 3, 2, 1] [106, 105, 104, 103, 102, 101, 51, 50, 0] rfl rfl
    try dsimp only [RS.sub, SF.sub, CF.sub, csub, Anc.sub, List.map, stCells, xL, xM, Nat.reduceAdd, xD, xE, xT, xU, xC, xN, zCF, ldSF, rHist, rTx, rOrd, rVer, rInt, rOp] at hS
    generalize Act.tau a 60 = v60 at hS
    rw [hel] at hS
    refine block_n (then_n ?_)
    refine region_q hS
      (cF rfl (o_add .t (.ci (by kernel_rfl))) r1 trivial
      (cF rfl (oM .t) r1 trivial
      Chain.nil))
      hB ?_
    clear hS; intro a w F hS
    obtain ⟨F, hS⟩ := hS.nm [62, 61, 60, 59, 58, 57, 56, 50, 49, 48, 47, 46, 45, 44, 43, 42, 41, 40, 39, 38, 37, 36, 35, 34, 33, 32, 31, 30, 29, 28, 27, 26, 25, 24, 23, 22, 21, 20, 19, 12, 10, 9, 7, 6, 3, 2, 1] [106, 105, 104, 103, 102, 101, 51, 50, 0] rfl rfl
    try dsimp only [rHist, rTx, rOrd, rVer, rInt, rOp] at hS
    refine then_n ?_
    replace hS := hS.ent (i := 35) (s' := .pv (.int .i64 ((j + 1 : Nat) : Int))) rfl (.int (wrap_succ (by omega)))
    obtain ⟨F, hS⟩ := hS.nm [34, 33, 32, 31, 30, 29, 28, 27, 26, 25, 24, 23, 22, 21, 20, 19, 10, 9, 7, 6, 3, 2, 1, 35] [104, 103, 102, 101, 50, 0, 51, 105] rfl rfl
    exact ⟨((j + 1), (v60), (ops ++ [shO ia kc (Go.Gm.nth (Go.Gm.nth g.txs i).ops j)])), F, ⟨by omega, (by rw [take_nth hil, List.map_append, ← hq, List.map_singleton])⟩, hS, by omega⟩
   have hil : j = (Go.Gm.nth g.txs i).ops.length := by simp at hc1; omega
   rw [hil, List.take_length] at hq
   obtain ⟨F, hS⟩ := hS.giveCell 51 105 2 rfl rfl rfl rfl rfl
   try dsimp only [List.set] at hS
   obtain ⟨F, hS⟩ := hS.nm [36, 35, 34, 33, 32, 31, 30, 29, 28, 27, 26, 25, 24, 23, 22, 21, 20, 19, 10, 9, 7, 6, 3, 2, 1] [105, 104, 103, 102, 101, 50, 0] rfl rfl
   have hop : ops = (Go.Gm.nth g.txs i).ops.map (shO ia kc) := hq
   refine wp_exit (then_x (then_x (block_x (then_n ?_))))
   refine region_q hS
     (cF rfl (oF 0 103 .is) r1 r1
     (cF rfl (oL false 1 103 .adr) r1 r1
     (cF rfl (oL true 3 105 .is) r1 r1
     (cF rfl (o_buildSliceE (sz := 3) (zs := [.int .i64 0, .bool false, .slice none 0 0]) (r := [(0, .tmp 65)]) (l := [_, _, _]) Try.underlying39 (by kernel_rfl) (by kernel_rfl) (by kernel_rfl) (by kernel_rfl) rfl rfl (.agg rfl .t (by kernel_rfl) (by kernel_rfl) .nil) rfl) r1 trivial
     (cF rfl (o_append (sz := 3) (bs := 40) 50 (.mk' Try.underlying39 (by kernel_rfl) (by kernel_rfl)) (by intro x; rfl) .is (.arr (l' := [(⟨(Go.Gm.nth g.txs i).id + ia, (Go.Gm.nth g.txs i).done, ops⟩ : TxD)]) .t) (by simp only [List.length_append, List.length_cons, List.length_nil]; omega) (by decide)) ⟨rfl, rfl, trivial⟩ ⟨rfl, trivial⟩
     (cF rfl (oF 0 103 .is) r1 r1
     (cF rfl (o_storeS 103 .adr (by kernel_rfl) (by kernel_rfl)) r2 r1
     Chain.nil)))))))
     hB ?_
   clear hS; intro a w F hS
   replace hS := hS.sub
   obtain ⟨F, hS⟩ := hS.nm [68, 67, 66, 65, 64, 63, 36, 35, 34, 33, 32, 31, 30, 29, 28, 27, 26, 25, 24, 23, 22, 21, 20, 19, 10, 9, 7, 6, 3, 2, 1] [105, 104, 103, 102, 101, 50, 0] rfl rfl
   try dsimp only [RS.sub, SF.sub, CF.sub, csub, Anc.sub, List.map, stCells, xL, xM, Nat.reduceAdd, xD, xE, xT, xU, xC, xN, zCF, ldSF, rHist, rTx, rOrd, rVer, rInt, rOp] at hS
   generalize Act.tau a 67 = v67 at hS
   rw [show (⟨(Go.Gm.nth g.txs i).id + ia, (Go.Gm.nth g.txs i).done, ops⟩ : TxD) = shT ia kc (Go.Gm.nth g.txs i) from by rw [hop]; rfl] at hS
   refine block_n (then_n ?_)
   refine region_q hS
     (cF rfl (o_add .t (.ci (by kernel_rfl))) r1 trivial
     (cF rfl (oM .t) r1 trivial
     Chain.nil))
     hB ?_
   clear hS; intro a w F hS
   obtain ⟨F, hS⟩ := hS.nm [69, 68, 67, 66, 65, 64, 63, 36, 35, 34, 33, 32, 31, 30, 29, 28, 27, 26, 25, 24, 23, 22, 21, 20, 19, 10, 9, 7, 6, 3, 2, 1] [105, 104, 103, 102, 101, 50, 0] rfl rfl
   try dsimp only [rHist, rTx, rOrd, rVer, rInt, rOp] at hS
   refine then_n ?_
   replace hS := hS.ent (i := 21) (s' := .pv (.int .i64 ((i + 1 : Nat) : Int))) rfl (.int (wrap_succ (by omega)))
   obtain ⟨F, hS⟩ := hS.nm [20, 19, 7, 6, 3, 2, 1, 21] [102, 101, 0, 50, 103] rfl rfl
   exact ⟨((i + 1), (v67), (out ++ [shT ia kc (Go.Gm.nth g.txs i)])), F, ⟨by omega, (by rw [take_nth hio, List.map_append, ← hqo, List.map_singleton])⟩, hS, by omega⟩
  have hil : i = g.txs.length := by simp at hc0; omega
  rw [hil, List.take_length] at hq
  obtain ⟨F, hS⟩ := hS.giveCell 50 103 0 rfl rfl rfl rfl rfl
  try dsimp only [List.set] at hS
  obtain ⟨F, hS⟩ := hS.nm [22, 21, 20, 19, 7, 6, 3, 2, 1] [103, 102, 101, 0] rfl rfl
  have hq1 : out = g.txs.map (shT ia kc) := hq
  refine wp_exit (then_x (then_x (block_x (then_n (wp_seq (wp_seq ?_))))))
  refine region_q hS
    (cF rfl (oF 1 101 .is) r1 r1
    (cF rfl (oL false 1 101 .adr) r1 r1
    (cF rfl (o_len_sl Try.underlying40 .t) r1 trivial
    (cF rfl (oM (.ci (by kernel_rfl))) trivial trivial
    Chain.nil))))
    hB ?_
  clear hS; intro a w F hS
  obtain ⟨F, hS⟩ := hS.nm [73, 72, 71, 7, 6, 2, 1] [103, 102, 101, 0] rfl rfl
  try dsimp only [List.map, xD, xE, xT, xU, ldSF, rHist, rTx, rOrd, rVer, rInt, rOp] at hS
  replace hS := hS.fresh 52 rfl
  replace hS := hS.turn 52 rfl (nilRow (T := 78) (sz := 2) (R := rOrd))
  obtain ⟨F, hS⟩ := hS.nm [73, 72, 71, 7, 6, 2, 1] [103, 102, 101, 52, 0] rfl rfl
  refine then_n (wp_block ?_)
  refine loop_keep (σ := (Nat) × (Value) × (List OrdD)) [1, 2, 6, 7, 71, 72] [0, 101, 102] (fun s => [(73, .pv (.int .i64 (s.1 : Int)))]) (fun s => [(103, .pt (.val v7) 42 [.pv (.sl rTx out), .pv (.is s.2.1)]), (52, .ob (.val s.2.1) (rowH 78 2 rOrd s.2.2))]) (fun s => s.1 ≤ g.orders.length ∧ (s.2.2 = (g.orders.take s.1).map (shR ia kc))) (fun s => g.orders.length - s.1) ((0), ((.slice none 0 0)), ([])) hS ⟨rfl, rfl, rfl, rfl, rfl, rfl, rfl, trivial⟩ ⟨rfl, rfl, rfl, rfl, rfl, trivial⟩ ⟨Nat.zero_le _, rfl⟩ ?_
  clear hS; intro s a w F hC hS
  obtain ⟨i, u2, outo⟩ := s
  try dsimp only at hC
  obtain ⟨F, hS⟩ := hS.nm [73, 72, 71, 7, 6, 2, 1] [103, 102, 101, 52, 0] rfl rfl
  try dsimp only at hS
  obtain ⟨hi, hq⟩ := hC
  have hox := fun hil : i < g.orders.length => hso.at hil
  have hol2 : outo.length ≤ i := by rw [hq, List.length_map, List.length_take]; omega
  refine wp_seq ?_
  refine region_q hS
    (cF rfl (o_lss .t .t) r2 trivial
    Chain.nil)
    hB ?_
  clear hS; intro a w F hS
  obtain ⟨F, hS⟩ := hS.nm [74, 73, 72, 71, 7, 6, 2, 1] [103, 102, 101, 52, 0] rfl rfl
  try dsimp only [rHist, rTx, rOrd, rVer, rInt, rOp] at hS
  refine then_n (wp_seq ?_)
  refine cond_b hS rfl (fun hc3 => ?_) (fun hc3 => ?_)
  ·skip
   have hil : i < g.orders.length := by simp at hc3; omega
   have hio := hil
   have hqo := hq
   have hoxl := hox hil
   have hob := hor _ (nth_mem hil)
   have hwok : IntKind.wrap .i64 ((Go.Gm.nth g.orders i).key + kc) = (Go.Gm.nth g.orders i).key + kc := wrap_i64 (by omega)
   refine wp_skip (then_n (wp_seq (wp_block (wp_seq ?_))))
   refine region_q hS
     (cF rfl (o_indexAddr_sl (sz := 2) (.mk Try.underlying40 (by kernel_rfl)) (by intro x; rfl) .t .t (by omega) (by omega)) r2 trivial
     (cF rfl (oR true 2 .t) r1 trivial
     (cF rfl (oH [.int .i64 0, .slice none 0 0] 107) trivial trivial
     (cF rfl (oA 2 107 .same .t) r2 r1
     Chain.nil))))
     hB ?_
   clear hS; intro a w F hS
   replace hS := hS.sub
   obtain ⟨F, hS⟩ := hS.nm [76, 75, 74, 73, 72, 71, 14, 7, 6, 2, 1] [107, 103, 102, 101, 52, 0] rfl rfl
   try dsimp only [RS.sub, SF.sub, CF.sub, csub, Anc.sub, List.map, stCells, xL, xM, Nat.reduceAdd, xD, xE, xT, xU, xC, xN, zCF, ldSF, rHist, rTx, rOrd, rVer, rInt, rOp] at hS
   generalize Act.tau a 14 = v14 at hS
   try simp only [Int.toNat_natCast] at hS
   refine then_n (wp_seq ?_)
   refine region_q hS
     (cF rfl (oF 0 107 .is) r1 r1
     (cF rfl (oL false 1 107 .adr) r1 r1
     (cF rfl (oM .t) r1 trivial
     (cF rfl (o_add .t .t) r2 trivial
     (cF rfl (oB [(0, .tmp 80)] [.int .i64 0, .slice none 0 0] [(0, 1), (1, 1)] (.one rfl .t one_int (by kernel_rfl) .nil)) r1 trivial
     (cF rfl (oH [.int .i64 0, .slice none 0 0] 108) trivial trivial
     (cF rfl (oA 2 108 .same .t) r2 r1
     Chain.nil)))))))
     hB ?_
   clear hS; intro a w F hS
   replace hS := hS.sub
   obtain ⟨F, hS⟩ := hS.nm [81, 80, 79, 78, 77, 76, 75, 74, 73, 72, 71, 15, 14, 7, 6, 2, 1] [108, 107, 103, 102, 101, 52, 0] rfl rfl
   try dsimp only [RS.sub, SF.sub, CF.sub, csub, Anc.sub, List.map, stCells, xL, xM, Nat.reduceAdd, xD, xE, xT, xU, xC, xN, zCF, ldSF, rHist, rTx, rOrd, rVer, rInt, rOp] at hS
   generalize Act.tau a 15 = v15 at hS
   rw [hwok] at hS
   replace hS := hS.fresh 53 rfl
   replace hS := hS.turn 53 rfl (nilRow (T := 3) (sz := 1) (R := rInt))
   obtain ⟨F, hS⟩ := hS.nm [81, 80, 79, 78, 77, 76, 75, 74, 73, 72, 71, 15, 14, 7, 6, 2, 1] [108, 107, 103, 102, 101, 53, 52, 0] rfl rfl
   refine then_n (wp_seq (wp_seq ?_))
   refine region_q hS
     (cF rfl (oF 1 107 .is) r1 r1
     (cF rfl (oL false 1 107 .adr) r1 r1
     (cF rfl (o_len_sl Try.underlying76 .t) r1 trivial
     (cF rfl (oM (.ci (by kernel_rfl))) trivial trivial
     Chain.nil))))
     hB ?_
   clear hS; intro a w F hS
   obtain ⟨F, hS⟩ := hS.nm [85, 84, 83, 82, 81, 80, 79, 78, 77, 76, 75, 74, 73, 72, 71, 15, 14, 7, 6, 2, 1] [108, 107, 103, 102, 101, 53, 52, 0] rfl rfl
   try dsimp only [List.map, xD, xE, xT, xU, ldSF, rHist, rTx, rOrd, rVer, rInt, rOp] at hS
   refine then_n (wp_block ?_)
   refine loop_keep (σ := (Nat) × (Value) × (List Int)) [1, 2, 6, 7, 14, 15, 71, 72, 73, 74, 75, 76, 77, 78, 79, 80, 81, 82, 83, 84] [0, 52, 101, 102, 103, 107] (fun s => [(85, .pv (.int .i64 (s.1 : Int)))]) (fun s => [(108, .pt (.val v15) 78 [.pv (.int .i64 ((Go.Gm.nth g.orders i).key + kc)), .pv (.is s.2.1)]), (53, .ob (.val s.2.1) (rowH 3 1 rInt s.2.2))]) (fun s => s.1 ≤ (Go.Gm.nth g.orders i).txs.length ∧ (s.2.2 = ((Go.Gm.nth g.orders i).txs.take s.1).map (· + ia))) (fun s => (Go.Gm.nth g.orders i).txs.length - s.1) ((0), ((.slice none 0 0)), ([])) hS ⟨rfl, rfl, rfl, rfl, rfl, rfl, rfl, rfl, rfl, rfl, rfl, rfl, rfl, rfl, rfl, rfl, rfl, rfl, rfl, rfl, rfl, trivial⟩ ⟨rfl, rfl, rfl, rfl, rfl, rfl, rfl, rfl, trivial⟩ ⟨Nat.zero_le _, rfl⟩ ?_
   clear hS; intro s a w F hC hS
   obtain ⟨j, z2, tx2⟩ := s
   try dsimp only at hC
   obtain ⟨F, hS⟩ := hS.nm [85, 84, 83, 82, 81, 80, 79, 78, 77, 76, 75, 74, 73, 72, 71, 15, 14, 7, 6, 2, 1] [108, 107, 103, 102, 101, 53, 52, 0] rfl rfl
   try dsimp only at hS
   obtain ⟨hi, hq⟩ := hC
   have hpl : tx2.length ≤ j := by rw [hq, List.length_map, List.length_take]; omega
   refine wp_seq ?_
   refine region_q hS
     (cF rfl (o_lss .t .t) r2 trivial
     Chain.nil)
     hB ?_
   clear hS; intro a w F hS
   obtain ⟨F, hS⟩ := hS.nm [86, 85, 84, 83, 82, 81, 80, 79, 78, 77, 76, 75, 74, 73, 72, 71, 15, 14, 7, 6, 2, 1] [108, 107, 103, 102, 101, 53, 52, 0] rfl rfl
   try dsimp only [rHist, rTx, rOrd, rVer, rInt, rOp] at hS
   refine then_n (wp_seq ?_)
   refine cond_b hS rfl (fun hc4 => ?_) (fun hc4 => ?_)
   ·skip
    have hil : j < (Go.Gm.nth g.orders i).txs.length := by simp at hc4; omega
    have hxb := hob.2 _ (nth_mem hil)
    have hwx : IntKind.wrap .i64 (Go.Gm.nth (Go.Gm.nth g.orders i).txs j + ia) = Go.Gm.nth (Go.Gm.nth g.orders i).txs j + ia := wrap_i64 (by omega)
    refine wp_skip (then_n (wp_seq (wp_block (wp_seq ?_))))
    refine region_q hS
      (cF rfl (o_indexAddr_sl (sz := 1) (.mk Try.underlying76 (by kernel_rfl)) (by intro x; rfl) .t .t (by omega) (by omega)) r2 trivial
      (cF rfl (oR false 1 .t) r1 trivial
      (cF rfl (oN .t) r1 trivial
      Chain.nil)))
      hB ?_
    clear hS; intro a w F hS
    obtain ⟨F, hS⟩ := hS.nm [88, 87, 86, 85, 84, 83, 82, 81, 80, 79, 78, 77, 76, 75, 74, 73, 72, 71, 17, 15, 14, 7, 6, 2, 1] [108, 107, 103, 102, 101, 53, 52, 0] rfl rfl
    try dsimp only [List.map, xD, xE, xT, xU, ldSF, rHist, rTx, rOrd, rVer, rInt, rOp] at hS
    try simp only [Int.toNat_natCast] at hS
    refine then_n ?_
    refine region_q hS
      (cF rfl (oF 1 108 .is) r1 r1
      (cF rfl (oL false 1 108 .adr) r1 r1
      (cF rfl (oM .t) r1 trivial
      (cF rfl (oM .t) r1 trivial
      (cF rfl (o_add .t .t) r2 trivial
      (cF rfl (o_buildSliceE (sz := 1) (zs := [.int .i64 0]) (r := [(0, .tmp 93)]) (l := [_]) Try.underlying76 (by kernel_rfl) (by kernel_rfl) (by kernel_rfl) (by kernel_rfl) rfl rfl (.one rfl .t one_int (by kernel_rfl) .nil) rfl) r1 trivial
      (cF rfl (o_append (sz := 1) (bs := 8) 53 (.mk' Try.underlying76 (by kernel_rfl) (by kernel_rfl)) (by intro x; rfl) .is (.arr (l' := [(IntKind.wrap .i64 (Go.Gm.nth (Go.Gm.nth g.orders i).txs j + ia))]) .t) (by simp only [List.length_append, List.length_cons, List.length_nil]; omega) (by decide)) ⟨rfl, rfl, trivial⟩ ⟨rfl, trivial⟩
      (cF rfl (oF 1 108 .is) r1 r1
      (cF rfl (o_storeS 108 .adr (by kernel_rfl) (by kernel_rfl)) r2 r1
      Chain.nil)))))))))
      hB ?_
    clear hS; intro a w F hS
    replace hS := hS.sub
    obtain ⟨F, hS⟩ := hS.nm [96, 95, 94, 93, 92, 91, 90, 89, 88, 87, 86, 85, 84, 83, 82, 81, 80, 79, 78, 77, 76, 75, 74, 73, 72, 71, 17, 15, 14, 7, 6, 2, 1] [108, 107, 103, 102, 101, 53, 52, 0] rfl rfl
    try dsimp only [RS.sub, SF.sub, CF.sub, csub, Anc.sub, List.map, stCells, xL, xM, Nat.reduceAdd, xD, xE, xT, xU, xC, xN, zCF, ldSF, rHist, rTx, rOrd, rVer, rInt, rOp] at hS
    generalize Act.tau a 95 = v95 at hS
    rw [hwx] at hS
    refine block_n (then_n ?_)
    refine region_q hS
      (cF rfl (o_add .t (.ci (by kernel_rfl))) r1 trivial
      (cF rfl (oM .t) r1 trivial
      Chain.nil))
      hB ?_
    clear hS; intro a w F hS
    obtain ⟨F, hS⟩ := hS.nm [97, 96, 95, 94, 93, 92, 91, 90, 89, 88, 87, 86, 85, 84, 83, 82, 81, 80, 79, 78, 77, 76, 75, 74, 73, 72, 71, 17, 15, 14, 7, 6, 2, 1] [108, 107, 103, 102, 101, 53, 52, 0] rfl rfl
    try dsimp only [rHist, rTx, rOrd, rVer, rInt, rOp] at hS
    refine then_n ?_
    replace hS := hS.ent (i := 85) (s' := .pv (.int .i64 ((j + 1 : Nat) : Int))) rfl (.int (wrap_succ (by omega)))
    obtain ⟨F, hS⟩ := hS.nm [84, 83, 82, 81, 80, 79, 78, 77, 76, 75, 74, 73, 72, 71, 15, 14, 7, 6, 2, 1, 85] [107, 103, 102, 101, 52, 0, 53, 108] rfl rfl
    exact ⟨((j + 1), (v95), (tx2 ++ [Go.Gm.nth (Go.Gm.nth g.orders i).txs j + ia])), F, ⟨by omega, (by rw [take_nth hil, List.map_append, ← hq, List.map_singleton])⟩, hS, by omega⟩
   have hil : j = (Go.Gm.nth g.orders i).txs.length := by simp at hc4; omega
   rw [hil, List.take_length] at hq
   obtain ⟨F, hS⟩ := hS.giveCell 53 108 1 rfl rfl rfl rfl rfl
   try dsimp only [List.set] at hS
   obtain ⟨F, hS⟩ := hS.nm [86, 85, 84, 83, 82, 81, 80, 79, 78, 77, 76, 75, 74, 73, 72, 71, 15, 14, 7, 6, 2, 1] [108, 107, 103, 102, 101, 52, 0] rfl rfl
   have hop2 : tx2 = (Go.Gm.nth g.orders i).txs.map (· + ia) := hq
   refine wp_exit (then_x (then_x (block_x (then_n ?_))))
   refine region_q hS
     (cF rfl (oF 1 103 .is) r1 r1
     (cF rfl (oL false 1 103 .adr) r1 r1
     (cF rfl (oL true 2 108 .is) r1 r1
     (cF rfl (o_buildSliceE (sz := 2) (zs := [.int .i64 0, .slice none 0 0]) (r := [(0, .tmp 100)]) (l := [_, _]) Try.underlying40 (by kernel_rfl) (by kernel_rfl) (by kernel_rfl) (by kernel_rfl) rfl rfl (.agg rfl .t (by kernel_rfl) (by kernel_rfl) .nil) rfl) r1 trivial
     (cF rfl (o_append (sz := 2) (bs := 32) 52 (.mk' Try.underlying40 (by kernel_rfl) (by kernel_rfl)) (by intro x; rfl) .is (.arr (l' := [(⟨(Go.Gm.nth g.orders i).key + kc, tx2⟩ : OrdD)]) .t) (by simp only [List.length_append, List.length_cons, List.length_nil]; omega) (by decide)) ⟨rfl, rfl, trivial⟩ ⟨rfl, trivial⟩
     (cF rfl (oF 1 103 .is) r1 r1
     (cF rfl (o_storeS 103 .adr (by kernel_rfl) (by kernel_rfl)) r2 r1
     Chain.nil)))))))
     hB ?_
   clear hS; intro a w F hS
   replace hS := hS.sub
   obtain ⟨F, hS⟩ := hS.nm [103, 102, 101, 100, 99, 98, 86, 85, 84, 83, 82, 81, 80, 79, 78, 77, 76, 75, 74, 73, 72, 71, 15, 14, 7, 6, 2, 1] [108, 107, 103, 102, 101, 52, 0] rfl rfl
   try dsimp only [RS.sub, SF.sub, CF.sub, csub, Anc.sub, List.map, stCells, xL, xM, Nat.reduceAdd, xD, xE, xT, xU, xC, xN, zCF, ldSF, rHist, rTx, rOrd, rVer, rInt, rOp] at hS
   generalize Act.tau a 102 = v102 at hS
   rw [show (⟨(Go.Gm.nth g.orders i).key + kc, tx2⟩ : OrdD) = shR ia kc (Go.Gm.nth g.orders i) from by rw [hop2]; rfl] at hS
   refine block_n (then_n ?_)
   refine region_q hS
     (cF rfl (o_add .t (.ci (by kernel_rfl))) r1 trivial
     (cF rfl (oM .t) r1 trivial
     Chain.nil))
     hB ?_
   clear hS; intro a w F hS
   obtain ⟨F, hS⟩ := hS.nm [104, 103, 102, 101, 100, 99, 98, 86, 85, 84, 83, 82, 81, 80, 79, 78, 77, 76, 75, 74, 73, 72, 71, 15, 14, 7, 6, 2, 1] [108, 107, 103, 102, 101, 52, 0] rfl rfl
   try dsimp only [rHist, rTx, rOrd, rVer, rInt, rOp] at hS
   refine then_n ?_
   replace hS := hS.ent (i := 73) (s' := .pv (.int .i64 ((i + 1 : Nat) : Int))) rfl (.int (wrap_succ (by omega)))
   obtain ⟨F, hS⟩ := hS.nm [72, 71, 7, 6, 2, 1, 73] [102, 101, 0, 52, 103] rfl rfl
   exact ⟨((i + 1), (v102), (outo ++ [shR ia kc (Go.Gm.nth g.orders i)])), F, ⟨by omega, (by rw [take_nth hio, List.map_append, ← hqo, List.map_singleton])⟩, hS, by omega⟩
  have hil : i = g.orders.length := by simp at hc3; omega
  rw [hil, List.take_length] at hq
  obtain ⟨F, hS⟩ := hS.giveCell 52 103 1 rfl rfl rfl rfl rfl
  try dsimp only [List.set] at hS
  obtain ⟨F, hS⟩ := hS.nm [74, 73, 72, 71, 7, 6, 2, 1] [103, 102, 101, 0] rfl rfl
  refine wp_exit (then_x (then_x (block_x (then_n (wp_seq ?_)))))
  refine region_q hS
    (cF rfl (oL true 2 103 .is) r1 r1
    (cF rfl (oA 2 102 .is .t) r2 r1
    Chain.nil))
    hB ?_
  clear hS; intro a w F hS
  obtain ⟨F, hS⟩ := hS.nm [6] [103, 102, 101, 0] rfl rfl
  try dsimp only [List.map, stCells, xL, xM, Nat.reduceAdd, xD, xE, xT, xU, xC, xN, zCF, ldSF, rHist, rTx, rOrd, rVer, rInt, rOp] at hS
  refine then_n (wp_ret ?_)
  refine ret_P hfr hS rfl (.cell (n := 102) (ag := true) (sz := 2) rfl .is rfl (by kernel_rfl) (by kernel_rfl) (by kernel_rfl) .nil) (.one (.aggU rfl (by rw [hq1, hq]; rfl)))

end Go.Proofs.Ytpnaolljmhhdbaa
