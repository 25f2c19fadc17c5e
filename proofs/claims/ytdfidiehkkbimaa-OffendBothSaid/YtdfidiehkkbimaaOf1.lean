/- Reads gathered. No condition beyond those that each theorem says. -/
import Derived.Test.YtdfidiehkkbimaaOf0
import Derived.Test.YtdfidiehkkbimaaHi6
namespace Go.Proofs.Ytdfidiehkkbimaa
open Go Go.Gm
set_option linter.unusedVariables false
set_option linter.unusedSimpArgs false
set_option maxHeartbeats 4000000
set_option maxRecDepth 8000

theorem judge_c (t u : TxD) (o : OpD) (phen : Int) (hu : u.ops.length ≤ 1000) : FnP Try.prog 115 [.agg (rTx t), .agg (rTx u), .agg (rOp o), .int .i64 phen] (.bool (judgeB t u o phen)) := by
  refine FnP.mk Try.func115 rfl Try.ntmps115 rfl ?_
  intro B a w F hB hfr hS
  refine wp_seq ?_
  refine region_q hS
    (cF rfl (oX 101 (.conv .t .agg)) r1 trivial
    (cF rfl (oX 102 (.conv .t .agg)) r1 trivial
    (cF rfl (oX 103 (.conv .t .agg)) r1 trivial
    (cF rfl (oN .cb) trivial trivial
    Chain.nil))))
    hB ?_
  clear hS; intro a w F hS
  replace hS := hS.sub
  obtain ⟨F, hS⟩ := hS.nm [8, 6, 5, 4, 3] [103, 102, 101, 0] rfl rfl
  try dsimp only [RS.sub, SF.sub, CF.sub, csub, Anc.sub, List.map, zCF, rHist, rTx, rOrd, rVer, rInt, rOp, rBad] at hS
  generalize Act.tau a 4 = v4 at hS
  generalize Act.tau a 5 = v5 at hS
  generalize Act.tau a 6 = v6 at hS
  refine then_n (wp_seq (wp_seq ?_))
  refine region_q hS
    (cF rfl (oM .t) r1 trivial
    Chain.nil)
    hB ?_
  clear hS; intro a w F hS
  obtain ⟨F, hS⟩ := hS.nm [9, 8, 6, 5, 4] [103, 102, 101, 0] rfl rfl
  try dsimp only [rHist, rTx, rOrd, rVer, rInt, rOp, rBad] at hS
  refine then_n (wp_block (wp_seq ?_))
  refine region_q hS
    (cF rfl (o_eql .t (.ci (by kernel_rfl))) r1 trivial
    (cF rfl (oN .t) r1 trivial
    Chain.nil))
    hB ?_
  clear hS; intro a w F hS
  obtain ⟨F, hS⟩ := hS.nm [10, 9, 8, 6, 5, 4] [103, 102, 101, 0] rfl rfl
  try dsimp only [rHist, rTx, rOrd, rVer, rInt, rOp, rBad] at hS
  refine then_n ?_
  refine cond_b hS rfl (fun hc0 => ?_) (fun hc0 => ?_)
  ·skip
   have h2 : phen = 2 := by simpa using hc0
   refine wp_seq ?_
   refine region_q hS
     (cF rfl (oF 1 101 .is) r1 r1
     (cF rfl (oL false 1 101 .adr) r1 r1
     (cF rfl (oM .t) r1 trivial
     (Chain.cons (Cert.cond rfl rfl (fun h => o_fieldAddr (off := 1) 102 .is (by kernel_rfl) (by rfl))) r2 r1
     (Chain.cons (Cert.cond rfl rfl (fun h => o_load (ag := false) (sz := 1) 102 (.w h .adr) (by kernel_rfl) (by kernel_rfl) (by kernel_rfl) (by rfl))) r2 r1
     (Chain.cons (Cert.cond rfl rfl (fun h => o_not (.w h))) r2 trivial
     (cF rfl (o_and2 .t .t) r2 trivial
     (cF rfl (oN .t) r1 trivial
     Chain.nil))))))))
     hB ?_
   clear hS; intro a w F hS
   obtain ⟨F, hS⟩ := hS.nm [8] [103, 102, 101, 0] rfl rfl
   try dsimp only [List.map, xD, xE, xT, xU, ldSF, rHist, rTx, rOrd, rVer, rInt, rOp, rBad] at hS
   refine then_n (wp_ret (block_r (then_r ?_)))
   refine ret_P hfr hS rfl (.tmp rfl .nil) (.one (.bool (by unfold judgeB wcnt; first | (rw [if_pos h2]; done) | (rw [if_neg h2, h3, Bool.true_and]; done) | (rw [if_neg h2, h3]; simp))))
  have h2 : ¬ phen = 2 := by simpa using hc0
  refine wp_seq ?_
  refine region_q hS
    (cF rfl (o_eql .t (.ci (by kernel_rfl))) r1 trivial
    (cF rfl (oN .t) r1 trivial
    Chain.nil))
    hB ?_
  clear hS; intro a w F hS
  obtain ⟨F, hS⟩ := hS.nm [19, 8, 6, 5, 4] [103, 102, 101, 0] rfl rfl
  try dsimp only [rHist, rTx, rOrd, rVer, rInt, rOp, rBad] at hS
  refine then_n ?_
  refine cond_b hS rfl (fun hc1 => ?_) (fun hc1 => ?_)
  ·skip
   have h3 : decide (phen = 3) = true := hc1
   refine wp_seq ?_
   refine region_any (by kernel_rfl) hS (by kernel_rfl)
     (cF rfl (oF 1 101 .is) r1 r1
     (cF rfl (oL false 1 101 .adr) r1 r1
     (cF rfl (oM .t) r1 trivial
     (Chain.cons (Cert.cond rfl rfl (fun h => o_fieldAddr (off := 3) 103 .is (by kernel_rfl) (by rfl))) r2 r1
     (Chain.cons (Cert.cond rfl rfl (fun h => o_load (ag := false) (sz := 1) 103 (.w h .adr) (by kernel_rfl) (by kernel_rfl) (by kernel_rfl) (by rfl))) r2 r1
     (Chain.cons (Cert.cond rfl rfl (fun h => o_load (ag := true) (sz := 3) 102 .is (by kernel_rfl) (by kernel_rfl) (by kernel_rfl) (by rfl))) r2 r1
     (Chain.cons (Cert.cond rfl rfl (fun h => o_fieldAddr (off := 1) 103 .is (by kernel_rfl) (by rfl))) r2 r1
     (Chain.cons (Cert.cond rfl rfl (fun h => o_load (ag := false) (sz := 1) 103 (.w h .adr) (by kernel_rfl) (by kernel_rfl) (by kernel_rfl) (by rfl))) r2 r1
     (Chain.cons (Cert.cond rfl rfl (fun h => o_callP (twrites_c u o.key (by omega)) Try.func23 rfl (by kernel_rfl) (Args.two (.pagg (.w h)) (.w h)))) r3 trivial
     (Chain.cons (Cert.cond rfl rfl (fun h => o_lss (.w h) (.w h))) r3 trivial
     (cF rfl (o_and2 .t .t) r2 trivial
     (cF rfl (oN .t) r1 trivial
     Chain.nil))))))))))))
     (by kernel_rfl) (by rw [hB]; kernel_rfl) ?_
   clear hS; intro a w F hS
   obtain ⟨F, hS⟩ := hS.nm [8] [103, 102, 101, 0] rfl rfl
   try dsimp only [List.map, xD, xE, xT, xU, ldSF, rHist, rTx, rOrd, rVer, rInt, rOp, rBad] at hS
   refine then_n (wp_ret (block_r (then_r ?_)))
   refine ret_P hfr hS rfl (.tmp rfl .nil) (.one (.bool (by unfold judgeB wcnt; first | (rw [if_pos h2]; done) | (rw [if_neg h2, h3, Bool.true_and]; done) | (rw [if_neg h2, h3]; simp))))
  have h3 : decide (phen = 3) = false := hc1
  refine wp_skip (block_n (then_n (wp_seq ?_)))
  refine region_q hS
    (cF rfl (oN .cb) trivial trivial
    Chain.nil)
    hB ?_
  clear hS; intro a w F hS
  obtain ⟨F, hS⟩ := hS.nm [8] [103, 102, 101, 0] rfl rfl
  try dsimp only [rHist, rTx, rOrd, rVer, rInt, rOp, rBad] at hS
  refine then_n (wp_ret ?_)
  refine ret_P hfr hS rfl (.tmp rfl .nil) (.one (.bool (by unfold judgeB wcnt; first | (rw [if_pos h2]; done) | (rw [if_neg h2, h3, Bool.true_and]; done) | (rw [if_neg h2, h3]; simp))))

theorem uOf_len {g : HistD} (hs : SmallT g.txs) (o : OpD) : (uOf g o).ops.length ≤ 1000 := by
  unfold uOf
  cases hf : findT g.txs o.tx with
  | none => simp [zeroT]
  | some t => exact hs.2 _ (findT_mem hf).1

theorem gather_c (g : HistD) (phen : Int) (hsm : Small g) (p : Int → Bool) (f : FuncId) (fn : Func) (cps : List PV) (hf : Try.prog.funcs[f]? = some fn) (hb : fn.body.isSome = true) (hnn : (fn.name == "runtime.NumGoroutine") = false) (hw : ∀ x, FnP Try.prog f (.int .i64 x :: cps) (.bool (p x))) : FnP Try.prog 69 [.agg (rHist g), .int .i64 phen, .clos f cps] (.sl rBad (badsH g phen p)) := by
  refine FnP.mk Try.func69 rfl Try.ntmps69 rfl ?_
  intro B a w F hB hfr hS
  have hs := hsm.1
  have hsl := hs.1
  refine wp_seq ?_
  refine region_q hS
    (cF rfl (oX 101 (.conv .t .agg)) r1 trivial
    (cF rfl (oN (.c rfl)) trivial trivial
    Chain.nil))
    hB ?_
  clear hS; intro a w F hS
  replace hS := hS.sub
  obtain ⟨F, hS⟩ := hS.nm [6, 3, 2, 1] [101, 0] rfl rfl
  try dsimp only [RS.sub, SF.sub, CF.sub, csub, Anc.sub, List.map, zCF, rHist, rTx, rOrd, rVer, rInt, rOp, rBad] at hS
  generalize Act.tau a 3 = v3 at hS
  refine then_n (wp_seq ?_)
  refine region_q hS
    (cF rfl (oN (.c rfl)) trivial trivial
    Chain.nil)
    hB ?_
  clear hS; intro a w F hS
  obtain ⟨F, hS⟩ := hS.nm [7, 6, 3, 2, 1] [101, 0] rfl rfl
  try dsimp only [rHist, rTx, rOrd, rVer, rInt, rOp, rBad] at hS
  refine then_n (wp_seq (wp_seq ?_))
  refine region_q hS
    (cF rfl (oL true 2 101 .is) r1 r1
    (cF rfl (oP (rightH_c g hsm) Try.func18 (Args.one (.pagg .t))) r1 trivial
    (cF rfl (o_not .t) r1 trivial
    Chain.nil)))
    hB ?_
  clear hS; intro a w F hS
  obtain ⟨F, hS⟩ := hS.nm [17, 7, 6, 3, 2, 1] [101, 0] rfl rfl
  try dsimp only [List.map, xD, xE, xT, xU, ldSF, rHist, rTx, rOrd, rVer, rInt, rOp, rBad] at hS
  refine then_n ?_
  refine cond_b hS rfl (fun hc0 => ?_) (fun hc0 => ?_)
  ·skip
   have hg : [] = badsH g phen p := by unfold badsH; rw [if_neg (by simpa using hc0)]
   refine wp_seq ?_
   refine region_q hS
     (cF rfl (oM .t) r1 trivial
     (cF rfl (oN .t) r1 trivial
     Chain.nil))
     hB ?_
   clear hS; intro a w F hS
   obtain ⟨F, hS⟩ := hS.nm [7, 6, 3, 2, 1] [101, 0] rfl rfl
   try dsimp only [rHist, rTx, rOrd, rVer, rInt, rOp, rBad] at hS
   refine then_n (wp_ret (then_r ?_))
   refine ret_P hfr hS rfl (.tmp rfl .nil) (.one (.trans .nilSl (.sl (by first | exact hg | (rw [hq, hil, List.take_length]; exact hgg)))))
  have hr : RightH g := by simpa using hc0
  have hgg : badsG g phen p g.txs = badsH g phen p := by unfold badsH; rw [if_pos hr]
  refine wp_skip (then_n (wp_seq ?_))
  refine region_q hS
    (cF rfl (o_makeMapG (ek := (fun t : TxD => PV.agg (rTx t))) (ok := (fun _ => True)) (kv := (fun n : Int => Value.int .i64 n)) 102) trivial trivial
    (cF rfl (oN .t) r1 trivial
    Chain.nil))
    hB ?_
  clear hS; intro a w F hS
  replace hS := hS.sub
  obtain ⟨F, hS⟩ := hS.nm [8, 7, 6, 3, 2, 1] [102, 101, 0] rfl rfl
  try dsimp only [RS.sub, SF.sub, CF.sub, csub, Anc.sub, List.map, stCells, xL, xM, Nat.reduceAdd, xD, xE, xT, xU, xC, xN, zCF, rHist, rTx, rOrd, rVer, rInt, rOp, rBad] at hS
  generalize Act.tau a 19 = v19 at hS
  refine then_n (wp_seq (wp_seq ?_))
  refine region_q hS
    (cF rfl (oF 0 101 .is) r1 r1
    (cF rfl (oL false 1 101 .adr) r1 r1
    (cF rfl (o_len_sl Try.underlying39 .t) r1 trivial
    (cF rfl (oM (.ci (by kernel_rfl))) trivial trivial
    Chain.nil))))
    hB ?_
  clear hS; intro a w F hS
  obtain ⟨F, hS⟩ := hS.nm [23, 22, 21, 8, 7, 6, 3, 2, 1] [102, 101, 0] rfl rfl
  try dsimp only [List.map, xD, xE, xT, xU, ldSF, rHist, rTx, rOrd, rVer, rInt, rOp, rBad] at hS
  refine then_n (wp_block ?_)
  refine loop_keep (σ := (Nat) × (List (GE Int TxD)) × (Nat)) [1, 2, 3, 6, 7, 8, 21, 22] [0, 101] (fun s => [(23, .pv (.int .i64 (s.1 : Int)))]) (fun s => [(102, .ob (.val v19) (mapG (fun t : TxD => PV.agg (rTx t)) (fun _ => True) (fun n : Int => Value.int .i64 n) s.2.1 s.2.2))]) (fun s => s.1 ≤ g.txs.length ∧ (ByInv s.2.1 (g.txs.take s.1))) (fun s => g.txs.length - s.1) ((0), ([]), (0)) hS ⟨rfl, rfl, rfl, rfl, rfl, rfl, rfl, rfl, rfl, trivial⟩ ⟨rfl, rfl, rfl, trivial⟩ ⟨Nat.zero_le _, (fun id => rfl)⟩ ?_
  clear hS; intro s a w F hC hS
  obtain ⟨i, es, ck⟩ := s
  try dsimp only at hC
  obtain ⟨F, hS⟩ := hS.nm [23, 22, 21, 8, 7, 6, 3, 2, 1] [102, 101, 0] rfl rfl
  try dsimp only at hS
  obtain ⟨hi, hq⟩ := hC
  refine wp_seq ?_
  refine region_q hS
    (cF rfl (o_lss .t .t) r2 trivial
    Chain.nil)
    hB ?_
  clear hS; intro a w F hS
  obtain ⟨F, hS⟩ := hS.nm [24, 23, 22, 21, 8, 7, 6, 3, 2, 1] [102, 101, 0] rfl rfl
  try dsimp only [rHist, rTx, rOrd, rVer, rInt, rOp, rBad] at hS
  refine then_n (wp_seq ?_)
  refine cond_b hS rfl (fun hc1 => ?_) (fun hc1 => ?_)
  ·skip
   have hil : i < g.txs.length := by simp at hc1; omega
   refine wp_skip (then_n (wp_seq (wp_block (wp_seq ?_))))
   refine region_q hS
     (cF rfl (o_indexAddr_sl (sz := 3) (.mk Try.underlying39 (by kernel_rfl)) (by intro x; rfl) .t .t (by omega) (by omega)) r2 trivial
     (cF rfl (oR true 3 .t) r1 trivial
     (cF rfl (oH [.int .i64 0, .bool false, .slice none 0 0] 103) trivial trivial
     (cF rfl (oA 3 103 .same .t) r2 r1
     Chain.nil))))
     hB ?_
   clear hS; intro a w F hS
   replace hS := hS.sub
   obtain ⟨F, hS⟩ := hS.nm [26, 25, 24, 23, 22, 21, 10, 8, 7, 6, 3, 2, 1] [103, 102, 101, 0] rfl rfl
   try dsimp only [RS.sub, SF.sub, CF.sub, csub, Anc.sub, List.map, stCells, xL, xM, Nat.reduceAdd, xD, xE, xT, xU, xC, xN, zCF, ldSF, rHist, rTx, rOrd, rVer, rInt, rOp, rBad] at hS
   generalize Act.tau a 10 = v10 at hS
   try simp only [Int.toNat_natCast] at hS
   refine then_n ?_
   refine region_q hS
     (cF rfl (oM .t) r1 trivial
     (cF rfl (oF 0 103 .is) r1 r1
     (cF rfl (oL false 1 103 .adr) r1 r1
     (cF rfl (oL true 3 103 .is) r1 r1
     (cF rfl (o_mapUpdateG (ek := (fun t : TxD => PV.agg (rTx t))) (v := (Go.Gm.nth g.txs i)) 102 Try.underlying181 (key_intG Try.underlying3) .is (IsKeyOf.int .t rfl) (.pagg .t)) r3 r1
     Chain.nil)))))
     hB ?_
   clear hS; intro a w F hS
   obtain ⟨F, hS⟩ := hS.nm [30, 29, 28, 27, 26, 25, 24, 23, 22, 21, 10, 8, 7, 6, 3, 2, 1] [103, 102, 101, 0] rfl rfl
   try dsimp only [List.map, xD, xE, xT, xU, ldSF, rHist, rTx, rOrd, rVer, rInt, rOp, rBad] at hS
   refine block_n (then_n ?_)
   refine region_q hS
     (cF rfl (o_add .t (.ci (by kernel_rfl))) r1 trivial
     (cF rfl (oM .t) r1 trivial
     Chain.nil))
     hB ?_
   clear hS; intro a w F hS
   obtain ⟨F, hS⟩ := hS.nm [31, 30, 29, 28, 27, 26, 25, 24, 23, 22, 21, 10, 8, 7, 6, 3, 2, 1] [103, 102, 101, 0] rfl rfl
   try dsimp only [rHist, rTx, rOrd, rVer, rInt, rOp, rBad] at hS
   refine then_n ?_
   replace hS := hS.ent (i := 23) (s' := .pv (.int .i64 ((i + 1 : Nat) : Int))) rfl (.int (wrap_succ (by omega)))
   obtain ⟨F, hS⟩ := hS.nm [22, 21, 8, 7, 6, 3, 2, 1, 23] [101, 0, 102] rfl rfl
   exact ⟨((i + 1), ((gPut (Go.Gm.nth g.txs i).id (Go.Gm.nth g.txs i) (es, ck)).1), ((gPut (Go.Gm.nth g.txs i).id (Go.Gm.nth g.txs i) (es, ck)).2)), F, ⟨by omega, by_step hr.2.1 hq hil⟩, hS, by omega⟩
  have hil : i = g.txs.length := by simp at hc1; omega
  have hby : ∀ id, gGet id es = findT g.txs id := by rw [hil, List.take_length] at hq; exact hq
  refine wp_exit (then_x (then_x (block_x (then_n (wp_seq (wp_seq ?_))))))
  refine region_q hS
    (cF rfl (oF 0 101 .is) r1 r1
    (cF rfl (oL false 1 101 .adr) r1 r1
    (cF rfl (o_len_sl Try.underlying39 .t) r1 trivial
    (cF rfl (oM (.ci (by kernel_rfl))) trivial trivial
    Chain.nil))))
    hB ?_
  clear hS; intro a w F hS
  obtain ⟨F, hS⟩ := hS.nm [35, 34, 33, 8, 7, 6, 2, 1] [102, 101, 0] rfl rfl
  try dsimp only [List.map, xD, xE, xT, xU, ldSF, rHist, rTx, rOrd, rVer, rInt, rOp, rBad] at hS
  refine then_n (wp_block ?_)
  replace hS := hS.fresh 50 rfl
  replace hS := hS.turn 50 rfl (nilRow (T := 50) (sz := 5) (R := rBad))
  refine loop_keep (σ := (Nat) × (Value) × (List BadD)) [1, 2, 6, 8, 33, 34] [0, 101, 102] (fun s => [(35, .pv (.int .i64 (s.1 : Int))), (7, .pv (.is s.2.1))]) (fun s => [(50, .ob (.val s.2.1) (rowH 50 5 rBad s.2.2))]) (fun s => s.1 ≤ g.txs.length ∧ (s.2.2 = badsG g phen p (g.txs.take s.1))) (fun s => g.txs.length - s.1) ((0), (.slice none 0 0), ([])) hS ⟨rfl, rfl, rfl, rfl, rfl, rfl, rfl, rfl, trivial⟩ ⟨rfl, rfl, rfl, rfl, trivial⟩ ⟨Nat.zero_le _, rfl⟩ ?_
  clear hS; intro s a w F hC hS
  obtain ⟨i, x0, out⟩ := s
  try dsimp only at hC
  obtain ⟨F, hS⟩ := hS.nm [35, 34, 33, 8, 7, 6, 2, 1] [102, 101, 50, 0] rfl rfl
  try dsimp only at hS
  obtain ⟨hi, hq⟩ := hC
  have hxl := fun hil : i < g.txs.length => hs.at hil
  have hol : out.length ≤ 1000 * i := by rw [hq]; exact badsG_le hs i
  refine wp_seq ?_
  refine region_q hS
    (cF rfl (o_lss .t .t) r2 trivial
    Chain.nil)
    hB ?_
  clear hS; intro a w F hS
  obtain ⟨F, hS⟩ := hS.nm [36, 35, 34, 33, 8, 7, 6, 2, 1] [102, 101, 50, 0] rfl rfl
  try dsimp only [rHist, rTx, rOrd, rVer, rInt, rOp, rBad] at hS
  refine then_n (wp_seq ?_)
  refine cond_b hS rfl (fun hc2 => ?_) (fun hc2 => ?_)
  ·skip
   have hil : i < g.txs.length := by simp at hc2; omega
   have hio := hil
   have htl := hxl hil
   have hsl := hs.1
   refine wp_skip (then_n (wp_seq (wp_block (wp_seq ?_))))
   refine region_q hS
     (cF rfl (o_indexAddr_sl (sz := 3) (.mk Try.underlying39 (by kernel_rfl)) (by intro x; rfl) .t .t (by omega) (by omega)) r2 trivial
     (cF rfl (oR true 3 .t) r1 trivial
     (cF rfl (oH [.int .i64 0, .bool false, .slice none 0 0] 104) trivial trivial
     (cF rfl (oA 3 104 .same .t) r2 r1
     Chain.nil))))
     hB ?_
   clear hS; intro a w F hS
   replace hS := hS.sub
   obtain ⟨F, hS⟩ := hS.nm [38, 37, 36, 35, 34, 33, 12, 8, 7, 6, 2, 1] [104, 102, 101, 50, 0] rfl rfl
   try dsimp only [RS.sub, SF.sub, CF.sub, csub, Anc.sub, List.map, stCells, xL, xM, Nat.reduceAdd, xD, xE, xT, xU, xC, xN, zCF, ldSF, rHist, rTx, rOrd, rVer, rInt, rOp, rBad] at hS
   generalize Act.tau a 12 = v12 at hS
   try simp only [Int.toNat_natCast] at hS
   refine then_n (wp_seq ?_)
   refine region_q hS
     (cF rfl (oF 2 104 .is) r1 r1
     (cF rfl (oL false 1 104 .adr) r1 r1
     (cF rfl (o_len_sl Try.underlying51 .t) r1 trivial
     (cF rfl (oM (.ci (by kernel_rfl))) trivial trivial
     Chain.nil))))
     hB ?_
   clear hS; intro a w F hS
   obtain ⟨F, hS⟩ := hS.nm [42, 41, 40, 39, 38, 37, 36, 35, 34, 33, 12, 8, 7, 6, 2, 1] [104, 102, 101, 50, 0] rfl rfl
   try dsimp only [List.map, xD, xE, xT, xU, ldSF, rHist, rTx, rOrd, rVer, rInt, rOp, rBad] at hS
   refine then_n (wp_block ?_)
   refine loop_keep (σ := (Nat) × (Value) × (List BadD)) [1, 2, 6, 8, 12, 33, 34, 35, 36, 37, 38, 39, 40, 41] [0, 101, 102, 104] (fun s => [(42, .pv (.int .i64 (s.1 : Int))), (7, .pv (.is s.2.1))]) (fun s => [(50, .ob (.val s.2.1) (rowH 50 5 rBad s.2.2))]) (fun s => s.1 ≤ (Go.Gm.nth g.txs i).ops.length ∧ (s.2.2 = badsG g phen p (g.txs.take i) ++ badsOf g phen p (Go.Gm.nth g.txs i) ((Go.Gm.nth g.txs i).ops.take s.1))) (fun s => (Go.Gm.nth g.txs i).ops.length - s.1) ((0), (x0), (out)) hS ⟨rfl, rfl, rfl, rfl, rfl, rfl, rfl, rfl, rfl, rfl, rfl, rfl, rfl, rfl, rfl, rfl, trivial⟩ ⟨rfl, rfl, rfl, rfl, rfl, trivial⟩ ⟨Nat.zero_le _, (by rw [hq]; simp [badsOf])⟩ ?_
   clear hS; intro s a w F hC hS
   obtain ⟨j, x1, outj⟩ := s
   try dsimp only at hC
   obtain ⟨F, hS⟩ := hS.nm [42, 41, 40, 39, 38, 37, 36, 35, 34, 33, 12, 8, 7, 6, 2, 1] [104, 102, 101, 50, 0] rfl rfl
   try dsimp only at hS
   obtain ⟨hi, hq⟩ := hC
   have hbl := badsOf_len g phen p (Go.Gm.nth g.txs i) ((Go.Gm.nth g.txs i).ops.take j)
   have hbg := badsG_le (g := g) (phen := phen) (p := p) hs i
   have hoj : outj.length ≤ 1000 * i + j := by rw [hq, List.length_append]; rw [List.length_take] at hbl; omega
   refine wp_seq ?_
   refine region_q hS
     (cF rfl (o_lss .t .t) r2 trivial
     Chain.nil)
     hB ?_
   clear hS; intro a w F hS
   obtain ⟨F, hS⟩ := hS.nm [43, 42, 41, 40, 39, 38, 37, 36, 35, 34, 33, 12, 8, 7, 6, 2, 1] [104, 102, 101, 50, 0] rfl rfl
   try dsimp only [rHist, rTx, rOrd, rVer, rInt, rOp, rBad] at hS
   refine then_n (wp_seq ?_)
   refine cond_b hS rfl (fun hc3 => ?_) (fun hc3 => ?_)
   ·skip
    have hil : j < (Go.Gm.nth g.txs i).ops.length := by simp at hc3; omega
    refine wp_skip (then_n (wp_seq (wp_block (wp_seq ?_))))
    refine region_q hS
      (cF rfl (oM .t) r1 trivial
      (cF rfl (o_indexAddr_sl (sz := 4) (.mk Try.underlying51 (by kernel_rfl)) (by intro x; rfl) .t .t (by omega) (by omega)) r2 trivial
      (cF rfl (oR true 4 .t) r1 trivial
      (cF rfl (oH [.bool false, .int .i64 0, .int .i64 0, .int .i64 0] 105) trivial trivial
      (cF rfl (oN .t) r1 trivial
      (cF rfl (oA 4 105 .same .t) r2 r1
      Chain.nil))))))
      hB ?_
    clear hS; intro a w F hS
    replace hS := hS.sub
    obtain ⟨F, hS⟩ := hS.nm [46, 45, 44, 43, 42, 41, 40, 39, 38, 37, 36, 35, 34, 33, 14, 13, 12, 8, 7, 6, 2, 1] [105, 104, 102, 101, 50, 0] rfl rfl
    try dsimp only [RS.sub, SF.sub, CF.sub, csub, Anc.sub, List.map, stCells, xL, xM, Nat.reduceAdd, xD, xE, xT, xU, xC, xN, zCF, ldSF, rHist, rTx, rOrd, rVer, rInt, rOp, rBad] at hS
    generalize Act.tau a 14 = v14 at hS
    try simp only [Int.toNat_natCast] at hS
    refine then_n (wp_seq (wp_seq ?_))
    refine region_q hS
      (cF rfl (oF 0 105 .is) r1 r1
      (cF rfl (oL false 1 105 .adr) r1 r1
      (cF rfl (o_not .t) r1 trivial
      (cF rfl (oM .t) r1 trivial
      (Chain.cons (Cert.cond rfl rfl (fun h => o_fieldAddr (off := 2) 105 .is (by kernel_rfl) (by rfl))) r2 r1
      (Chain.cons (Cert.cond rfl rfl (fun h => o_load (ag := false) (sz := 1) 105 (.w h .adr) (by kernel_rfl) (by kernel_rfl) (by kernel_rfl) (by rfl))) r2 r1
      (Chain.cons (Cert.cond rfl rfl (fun h => o_eql (.w h) (.ci (by kernel_rfl)))) r2 trivial
      (cF rfl (o_or2 .t .t) r2 trivial
      (cF rfl (oM .t) r1 trivial
      (Chain.cons (Cert.cond rfl rfl (fun h => o_fieldAddr (off := 2) 105 .is (by kernel_rfl) (by rfl))) r2 r1
      (Chain.cons (Cert.cond rfl rfl (fun h => o_load (ag := false) (sz := 1) 105 (.w h .adr) (by kernel_rfl) (by kernel_rfl) (by kernel_rfl) (by rfl))) r2 r1
      (Chain.cons (Cert.cond rfl rfl (fun h => o_fieldAddr (off := 0) 104 .is (by kernel_rfl) (by rfl))) r2 r1
      (Chain.cons (Cert.cond rfl rfl (fun h => o_load (ag := false) (sz := 1) 104 (.w h .adr) (by kernel_rfl) (by kernel_rfl) (by kernel_rfl) (by rfl))) r2 r1
      (Chain.cons (Cert.cond rfl rfl (fun h => o_eql (.w h) (.w h))) r3 trivial
      (cF rfl (o_or2 .t .t) r2 trivial
      (cF rfl (oM .t) r1 trivial
      (Chain.cons (Cert.cond rfl rfl (fun h => o_move .t (by rfl))) r2 trivial
      (Chain.cons (Cert.cond rfl rfl (fun h => o_fieldAddr (off := 1) 105 .is (by kernel_rfl) (by rfl))) r2 r1
      (Chain.cons (Cert.cond rfl rfl (fun h => o_load (ag := false) (sz := 1) 105 (.w h .adr) (by kernel_rfl) (by kernel_rfl) (by kernel_rfl) (by rfl))) r2 r1
      (Chain.cons (Cert.cond rfl rfl (fun h => o_callClosP (avs := [.int .i64 (Go.Gm.nth (Go.Gm.nth g.txs i).ops j).key]) (.w h) (hw (Go.Gm.nth (Go.Gm.nth g.txs i).ops j).key) hf hb hnn (Args.one (.w h)))) r3 trivial
      (Chain.cons (Cert.cond rfl rfl (fun h => o_not (.w h))) r2 trivial
      (cF rfl (o_or2 .t .t) r2 trivial
      Chain.nil))))))))))))))))))))))
      hB ?_
    clear hS; intro a w F hS
    obtain ⟨F, hS⟩ := hS.nm [68, 67, 66, 65, 64, 63, 62, 61, 60, 59, 58, 57, 56, 55, 54, 53, 52, 51, 50, 49, 48, 47, 46, 45, 44, 43, 42, 41, 40, 39, 38, 37, 36, 35, 34, 33, 14, 13, 12, 8, 7, 6, 2, 1] [105, 104, 102, 101, 50, 0] rfl rfl
    try dsimp only [List.map, xD, xE, xT, xU, ldSF, rHist, rTx, rOrd, rVer, rInt, rOp, rBad] at hS
    refine then_n ?_
    refine cond_b hS rfl (fun hc4 => ?_) (fun hc4 => ?_)
    ·skip
     have hBq : ¬ (p (Go.Gm.nth (Go.Gm.nth g.txs i).ops j).key && badB g phen (Go.Gm.nth g.txs i) (Go.Gm.nth (Go.Gm.nth g.txs i).ops j)) = true := by
       intro h9
       rw [Bool.and_eq_true] at h9
       have h8 := h9.2
       unfold badB at h8
       rw [Bool.and_eq_true] at h8
       have h7 := h8.1
       unfold needO at h7
       simp at h7
       have h6 := hc4
       simp [h9.1, h7] at h6
     refine wp_exit (then_x (block_x (then_n ?_)))
     refine region_q hS
       (cF rfl (o_add .t (.ci (by kernel_rfl))) r1 trivial
       (cF rfl (oM .t) r1 trivial
       Chain.nil))
       hB ?_
     clear hS; intro a w F hS
     obtain ⟨F, hS⟩ := hS.nm [86, 68, 67, 66, 65, 64, 63, 62, 61, 60, 59, 58, 57, 56, 55, 54, 53, 52, 51, 50, 49, 48, 47, 46, 45, 44, 43, 42, 41, 40, 39, 38, 37, 36, 35, 34, 33, 14, 13, 12, 8, 7, 6, 2, 1] [105, 104, 102, 101, 50, 0] rfl rfl
     try dsimp only [rHist, rTx, rOrd, rVer, rInt, rOp, rBad] at hS
     refine then_n ?_
     replace hS := hS.ent (i := 42) (s' := .pv (.int .i64 ((j + 1 : Nat) : Int))) rfl (.int (wrap_succ (by omega)))
     obtain ⟨F, hS⟩ := hS.nm [41, 40, 39, 38, 37, 36, 35, 34, 33, 12, 8, 6, 2, 1, 7, 42] [104, 102, 101, 0, 50] rfl rfl
     exact ⟨((j + 1), _, _), F, ⟨by omega, (by rw [badsOf_step hil, ← List.append_assoc, ← hq]; first | (rw [if_pos hBq]; done) | (rw [if_neg hBq, List.append_nil]))⟩, hS, by omega⟩
    have hnd : needO (Go.Gm.nth g.txs i).id (Go.Gm.nth (Go.Gm.nth g.txs i).ops j) = true ∧ p (Go.Gm.nth (Go.Gm.nth g.txs i).ops j).key = true := by
      have h6 := hc4
      unfold needO
      simp at h6
      refine ⟨by simp [h6], by simp [h6]⟩
    refine wp_skip (then_n (wp_seq ?_))
    refine part_first 5 hS (by kernel_rfl)
      (cG rfl (oL true 3 104 .is) r1 r1
      (cG rfl (oM .t) r1 trivial
      (cG rfl (oF 2 105 .is) r1 r1
      (cG rfl (oL false 1 105 .adr) r1 r1
      (cG rfl (o_lookupG (ek := (fun t : TxD => PV.agg (rTx t))) (z0 := zeroT) 102 Try.underlying181 (key_intG Try.underlying3) (by kernel_rfl) (fun _ _ => ⟨[_, _, _], rfl, ⟨rfl, rfl, inR0⟩, ⟨rfl, rfl⟩, ⟨rfl, sl_nil⟩, trivial⟩) .is (IsKeyOf.int .t rfl)) r2 r1
      ChainN.nil)))))
      (by kernel_rfl) (by rw [hB]; kernel_rfl) ?_
    clear hS; intro a w F hS
    obtain ⟨F, hS⟩ := hS.nm [73, 72, 71, 70, 69, 68, 67, 66, 65, 64, 63, 62, 61, 60, 59, 58, 57, 56, 55, 54, 53, 52, 51, 50, 49, 48, 47, 46, 45, 44, 43, 42, 41, 40, 39, 38, 37, 36, 35, 34, 33, 14, 13, 12, 8, 7, 6, 2, 1] [105, 104, 102, 101, 50, 0] rfl rfl
    try dsimp only [List.map, xD, xE, xT, xU, ldSF, rHist, rTx, rOrd, rVer, rInt, rOp, rBad] at hS
    rw [show (gGet (Go.Gm.nth (Go.Gm.nth g.txs i).ops j).tx es).getD zeroT = (uOf g (Go.Gm.nth (Go.Gm.nth g.txs i).ops j)) by rw [hby]; rfl] at hS
    refine part_last hS (by kernel_rfl)
      (cG rfl (oL true 4 105 .is) r1 r1
      (cG rfl (oM .t) r1 trivial
      (cG rfl (oP (judge_c (Go.Gm.nth g.txs i) (uOf g (Go.Gm.nth (Go.Gm.nth g.txs i).ops j)) (Go.Gm.nth (Go.Gm.nth g.txs i).ops j) phen (by have := uOf_len hs (Go.Gm.nth (Go.Gm.nth g.txs i).ops j); omega)) Try.func115 (Args.four (.pagg .t) .t (.pagg .t) .t)) r4 trivial
      ChainN.nil)))
      (by kernel_rfl) (by rw [hB]; kernel_rfl) ?_
    clear hS; intro a w F hS
    obtain ⟨F, hS⟩ := hS.nm [76, 75, 74, 73, 72, 71, 70, 69, 68, 67, 66, 65, 64, 63, 62, 61, 60, 59, 58, 57, 56, 55, 54, 53, 52, 51, 50, 49, 48, 47, 46, 45, 44, 43, 42, 41, 40, 39, 38, 37, 36, 35, 34, 33, 14, 13, 12, 8, 7, 6, 2, 1] [105, 104, 102, 101, 50, 0] rfl rfl
    try dsimp only [List.map, xD, xE, xT, xU, ldSF, rHist, rTx, rOrd, rVer, rInt, rOp, rBad] at hS
    refine then_n ?_
    refine cond_b hS rfl (fun hc5 => ?_) (fun hc5 => ?_)
    ·skip
     have hBq : (p (Go.Gm.nth (Go.Gm.nth g.txs i).ops j).key && badB g phen (Go.Gm.nth g.txs i) (Go.Gm.nth (Go.Gm.nth g.txs i).ops j)) = true := by unfold badB; rw [hnd.1, hnd.2, hc5]; rfl
     refine region_any (by kernel_rfl) hS (by kernel_rfl)
       (cF rfl (oM .t) r1 trivial
       (cF rfl (oF 0 104 .is) r1 r1
       (cF rfl (oL false 1 104 .adr) r1 r1
       (cF rfl (oM .t) r1 trivial
       (cF rfl (oL true 4 105 .is) r1 r1
       (cF rfl (oP (opOf_c (Go.Gm.nth (Go.Gm.nth g.txs i).ops j)) Try.func116 (Args.one (.pagg .t))) r1 trivial
       (cF rfl (oB [(0, .tmp 79), (1, .tmp 80), (2, .tmp 82)] [.int .i64 0, .int .i64 0, .int .i64 0, .int .i64 0, .int .i64 0] [(0, 1), (1, 1), (2, 3)] (.one rfl .t one_int (by kernel_rfl) (.one rfl .t one_int (by kernel_rfl) (.agg rfl (.conv .t .agg) (by kernel_rfl) (by kernel_rfl) .nil)))) r3 trivial
       (cF rfl (o_buildSliceE (sz := 5) (zs := [.int .i64 0, .int .i64 0, .int .i64 0, .int .i64 0, .int .i64 0]) (r := [(0, .tmp 83)]) (l := [_, _, _, _, _]) Try.underlying44 (by kernel_rfl) (by kernel_rfl) (by kernel_rfl) (by kernel_rfl) rfl rfl (.agg rfl .t (by kernel_rfl) (by kernel_rfl) .nil) rfl) r1 trivial
       (cF rfl (o_append (sz := 5) (bs := 40) 50 (.mk' Try.underlying44 (by kernel_rfl) (by kernel_rfl)) (by intro x; rfl) .is (.arr (l' := [(⟨(Go.Gm.nth g.txs i).id, j, ofO (Go.Gm.nth (Go.Gm.nth g.txs i).ops j)⟩ : BadD)]) .t) (by simp only [List.length_append, List.length_cons, List.length_nil, List.length_take, List.length_drop]; omega) (by decide)) ⟨rfl, rfl, trivial⟩ ⟨rfl, trivial⟩
       (cF rfl (oN .t) r1 trivial
       Chain.nil))))))))))
       (by kernel_rfl) (by rw [hB]; kernel_rfl) ?_
     clear hS; intro a w F hS
     replace hS := hS.sub
     obtain ⟨F, hS⟩ := hS.nm [85, 84, 83, 82, 81, 80, 79, 78, 77, 76, 75, 74, 73, 72, 71, 70, 69, 68, 67, 66, 65, 64, 63, 62, 61, 60, 59, 58, 57, 56, 55, 54, 53, 52, 51, 50, 49, 48, 47, 46, 45, 44, 43, 42, 41, 40, 39, 38, 37, 36, 35, 34, 33, 14, 13, 12, 8, 7, 6, 2, 1] [105, 104, 102, 101, 50, 0] rfl rfl
     try dsimp only [RS.sub, SF.sub, CF.sub, csub, Anc.sub, List.map, stCells, xL, xM, Nat.reduceAdd, xD, xE, xT, xU, xC, xN, zCF, ldSF, rHist, rTx, rOrd, rVer, rInt, rOp, rBad] at hS
     generalize Act.tau a 85 = v85 at hS
     refine block_n (then_n ?_)
     refine region_q hS
       (cF rfl (o_add .t (.ci (by kernel_rfl))) r1 trivial
       (cF rfl (oM .t) r1 trivial
       Chain.nil))
       hB ?_
     clear hS; intro a w F hS
     obtain ⟨F, hS⟩ := hS.nm [86, 85, 84, 83, 82, 81, 80, 79, 78, 77, 76, 75, 74, 73, 72, 71, 70, 69, 68, 67, 66, 65, 64, 63, 62, 61, 60, 59, 58, 57, 56, 55, 54, 53, 52, 51, 50, 49, 48, 47, 46, 45, 44, 43, 42, 41, 40, 39, 38, 37, 36, 35, 34, 33, 14, 13, 12, 8, 7, 6, 2, 1] [105, 104, 102, 101, 50, 0] rfl rfl
     try dsimp only [rHist, rTx, rOrd, rVer, rInt, rOp, rBad] at hS
     refine then_n ?_
     replace hS := hS.ent (i := 42) (s' := .pv (.int .i64 ((j + 1 : Nat) : Int))) rfl (.int (wrap_succ (by omega)))
     obtain ⟨F, hS⟩ := hS.nm [41, 40, 39, 38, 37, 36, 35, 34, 33, 12, 8, 6, 2, 1, 7, 42] [104, 102, 101, 0, 50] rfl rfl
     exact ⟨((j + 1), _, _), F, ⟨by omega, (by rw [badsOf_step hil, ← List.append_assoc, ← hq]; first | (rw [if_pos hBq]; done) | (rw [if_neg hBq, List.append_nil]))⟩, hS, by omega⟩
    have hBq : ¬ (p (Go.Gm.nth (Go.Gm.nth g.txs i).ops j).key && badB g phen (Go.Gm.nth g.txs i) (Go.Gm.nth (Go.Gm.nth g.txs i).ops j)) = true := by unfold badB; rw [hnd.1, hnd.2, hc5]; simp
    refine wp_skip (block_n (then_n ?_))
    refine region_q hS
      (cF rfl (o_add .t (.ci (by kernel_rfl))) r1 trivial
      (cF rfl (oM .t) r1 trivial
      Chain.nil))
      hB ?_
    clear hS; intro a w F hS
    obtain ⟨F, hS⟩ := hS.nm [86, 76, 75, 74, 73, 72, 71, 70, 69, 68, 67, 66, 65, 64, 63, 62, 61, 60, 59, 58, 57, 56, 55, 54, 53, 52, 51, 50, 49, 48, 47, 46, 45, 44, 43, 42, 41, 40, 39, 38, 37, 36, 35, 34, 33, 14, 13, 12, 8, 7, 6, 2, 1] [105, 104, 102, 101, 50, 0] rfl rfl
    try dsimp only [rHist, rTx, rOrd, rVer, rInt, rOp, rBad] at hS
    refine then_n ?_
    replace hS := hS.ent (i := 42) (s' := .pv (.int .i64 ((j + 1 : Nat) : Int))) rfl (.int (wrap_succ (by omega)))
    obtain ⟨F, hS⟩ := hS.nm [41, 40, 39, 38, 37, 36, 35, 34, 33, 12, 8, 6, 2, 1, 7, 42] [104, 102, 101, 0, 50] rfl rfl
    exact ⟨((j + 1), _, _), F, ⟨by omega, (by rw [badsOf_step hil, ← List.append_assoc, ← hq]; first | (rw [if_pos hBq]; done) | (rw [if_neg hBq, List.append_nil]))⟩, hS, by omega⟩
   have hil : j = (Go.Gm.nth g.txs i).ops.length := by simp at hc3; omega
   refine wp_exit (then_x (then_x (block_x (block_n (then_n ?_)))))
   refine region_q hS
     (cF rfl (o_add .t (.ci (by kernel_rfl))) r1 trivial
     (cF rfl (oM .t) r1 trivial
     Chain.nil))
     hB ?_
   clear hS; intro a w F hS
   obtain ⟨F, hS⟩ := hS.nm [87, 43, 42, 41, 40, 39, 38, 37, 36, 35, 34, 33, 12, 8, 7, 6, 2, 1] [104, 102, 101, 50, 0] rfl rfl
   try dsimp only [rHist, rTx, rOrd, rVer, rInt, rOp, rBad] at hS
   refine then_n ?_
   replace hS := hS.ent (i := 35) (s' := .pv (.int .i64 ((i + 1 : Nat) : Int))) rfl (.int (wrap_succ (by omega)))
   obtain ⟨F, hS⟩ := hS.nm [34, 33, 8, 6, 2, 1, 7, 35] [102, 101, 0, 50] rfl rfl
   exact ⟨((i + 1), _, _), F, ⟨by omega, (by rw [badsG_step hio, hq, hil, List.take_length])⟩, hS, by omega⟩
  have hil : i = g.txs.length := by simp at hc2; omega
  refine wp_exit (then_x (then_x (block_x (then_n (wp_seq ?_)))))
  refine region_q hS
    (cF rfl (oM .t) r1 trivial
    (cF rfl (oN .t) r1 trivial
    Chain.nil))
    hB ?_
  clear hS; intro a w F hS
  obtain ⟨F, hS⟩ := hS.nm [6] [102, 101, 50, 0] rfl rfl
  try dsimp only [rHist, rTx, rOrd, rVer, rInt, rOp, rBad] at hS
  refine then_n (wp_ret ?_)
  obtain ⟨F, hS⟩ := hS.give 50 6 rfl rfl
  refine ret_P hfr hS rfl (.tmp rfl .nil) (.one (.sl (by first | exact hg | (rw [hq, hil, List.take_length]; exact hgg))))

end Go.Proofs.Ytdfidiehkkbimaa
