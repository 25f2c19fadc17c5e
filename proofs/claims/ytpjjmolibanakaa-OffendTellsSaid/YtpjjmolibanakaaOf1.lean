/- Reads gathered. No condition beyond those that each theorem says. -/
import Derived.Test.YtpjjmolibanakaaOf0
import Derived.Test.YtpjjmolibanakaaHi6
namespace Go.Proofs.Ytpjjmolibanakaa
open Go Go.Gm
set_option linter.unusedVariables false
set_option linter.unusedSimpArgs false
set_option maxHeartbeats 4000000
set_option maxRecDepth 8000


theorem judge_c (t u : TxD) (o : OpD) (phen : Int) (hu : u.ops.length ≤ 1000) : FnP Try.prog 134 [.agg (rTx t), .agg (rTx u), .agg (rOp o), .int .i64 phen] (.bool (judgeB t u o phen)) := by
  refine FnP.mk Try.func134 rfl Try.ntmps134 rfl ?_
  intro B a w F hB hfr hS
  refine wp_seq ?_
  refine region_seq hS (by kernel_rfl)
    (cF rfl (o_boxA 101 (.conv .t .agg) (by kernel_rfl)) r1 trivial
    (cF rfl (o_boxA 102 (.conv .t .agg) (by kernel_rfl)) r1 trivial
    (cF rfl (o_boxA 103 (.conv .t .agg) (by kernel_rfl)) r1 trivial
    (cF rfl (o_assign .cb (by rfl)) trivial trivial
    Chain.nil))))
    (by kernel_rfl) (by rw [hB]; kernel_rfl) ?_
  clear hS; intro a w F hS
  replace hS := hS.sub
  obtain ⟨F, hS⟩ := hS.norm [(3, _), (4, _), (5, _), (6, _), (8, _)] [(0, _), (101, _), (102, _), (103, _)] r5 r4
  try dsimp only [RS.sub, SF.sub, CF.sub, csub, Anc.sub, List.map, zCF, rHist, rTx, rOrd, rVer, rInt, rOp, rBad] at hS
  generalize Act.tau a 4 = v4 at hS
  generalize Act.tau a 5 = v5 at hS
  generalize Act.tau a 6 = v6 at hS
  refine then_n ?_
  refine wp_seq ?_
  refine wp_seq ?_
  refine region_seq hS (by kernel_rfl)
    (cF rfl (o_move .t (by rfl)) r1 trivial
    Chain.nil)
    (by kernel_rfl) (by rw [hB]; kernel_rfl) ?_
  clear hS; intro a w F hS
  obtain ⟨F, hS⟩ := hS.norm [(4, _), (5, _), (6, _), (8, _), (9, _)] [(0, _), (101, _), (102, _), (103, _)] r5 r4
  try dsimp only [rHist, rTx, rOrd, rVer, rInt, rOp, rBad] at hS
  refine then_n ?_
  refine wp_block ?_
  refine wp_seq ?_
  refine region_seq hS (by kernel_rfl)
    (cF rfl (o_eql .t (.ci (by kernel_rfl))) r1 trivial
    (cF rfl (o_assign .t (by rfl)) r1 trivial
    Chain.nil))
    (by kernel_rfl) (by rw [hB]; kernel_rfl) ?_
  clear hS; intro a w F hS
  obtain ⟨F, hS⟩ := hS.norm [(4, _), (5, _), (6, _), (8, _), (9, _), (10, _)] [(0, _), (101, _), (102, _), (103, _)] r6 r4
  try dsimp only [rHist, rTx, rOrd, rVer, rInt, rOp, rBad] at hS
  refine then_n ?_
  refine cond_b hS rfl (fun hc0 => ?_) (fun hc0 => ?_)
  ·skip
   have h2 : phen = 2 := by simpa using hc0
   refine wp_seq ?_
   refine region_seq hS (by kernel_rfl)
     (cF rfl (o_fieldAddr (off := 1) 101 .is (by kernel_rfl) (by rfl)) r1 r1
     (cF rfl (o_load (ag := false) (sz := 1) 101 .adr (by kernel_rfl) (by kernel_rfl) (by kernel_rfl) (by rfl)) r1 r1
     (cF rfl (o_move .t (by rfl)) r1 trivial
     (Chain.cons (Cert.cond rfl rfl (fun h => o_fieldAddr (off := 1) 102 .is (by kernel_rfl) (by rfl))) r2 r1
     (Chain.cons (Cert.cond rfl rfl (fun h => o_load (ag := false) (sz := 1) 102 (.w h .adr) (by kernel_rfl) (by kernel_rfl) (by kernel_rfl) (by rfl))) r2 r1
     (Chain.cons (Cert.cond rfl rfl (fun h => o_not (.w h))) r2 trivial
     (cF rfl (o_and2 .t .t) r2 trivial
     (cF rfl (o_assign .t (by rfl)) r1 trivial
     Chain.nil))))))))
     (by kernel_rfl) (by rw [hB]; kernel_rfl) ?_
   clear hS; intro a w F hS
   obtain ⟨F, hS⟩ := hS.norm [(8, _)] [(0, _), (101, _), (102, _), (103, _)] r1 r4
   try dsimp only [List.map, List.drop_succ_cons, List.drop_zero, List.drop_nil, List.take_succ_cons, List.take_zero, List.take_nil, ldSF, rHist, rTx, rOrd, rVer, rInt, rOp, rBad] at hS
   refine then_n ?_
   refine wp_ret ?_
   refine block_r ?_
   refine then_r ?_
   refine ret_P hfr hS rfl (.tmp rfl .nil) (.one (.bool (by unfold judgeB wcnt; first | (rw [if_pos h2]; done) | (rw [if_neg h2, h3, Bool.true_and]; done) | (rw [if_neg h2, h3]; simp))))
  ·skip
   have h2 : ¬ phen = 2 := by simpa using hc0
   refine wp_seq ?_
   refine region_seq hS (by kernel_rfl)
     (cF rfl (o_eql .t (.ci (by kernel_rfl))) r1 trivial
     (cF rfl (o_assign .t (by rfl)) r1 trivial
     Chain.nil))
     (by kernel_rfl) (by rw [hB]; kernel_rfl) ?_
   clear hS; intro a w F hS
   obtain ⟨F, hS⟩ := hS.norm [(4, _), (5, _), (6, _), (8, _), (19, _)] [(0, _), (101, _), (102, _), (103, _)] r5 r4
   try dsimp only [rHist, rTx, rOrd, rVer, rInt, rOp, rBad] at hS
   refine then_n ?_
   refine cond_b hS rfl (fun hc1 => ?_) (fun hc1 => ?_)
   ·skip
    have h3 : decide (phen = 3) = true := hc1
    refine wp_seq ?_
    refine region_any (by kernel_rfl) hS (by kernel_rfl)
      (cF rfl (o_fieldAddr (off := 1) 101 .is (by kernel_rfl) (by rfl)) r1 r1
      (cF rfl (o_load (ag := false) (sz := 1) 101 .adr (by kernel_rfl) (by kernel_rfl) (by kernel_rfl) (by rfl)) r1 r1
      (cF rfl (o_move .t (by rfl)) r1 trivial
      (Chain.cons (Cert.cond rfl rfl (fun h => o_fieldAddr (off := 3) 103 .is (by kernel_rfl) (by rfl))) r2 r1
      (Chain.cons (Cert.cond rfl rfl (fun h => o_load (ag := false) (sz := 1) 103 (.w h .adr) (by kernel_rfl) (by kernel_rfl) (by kernel_rfl) (by rfl))) r2 r1
      (Chain.cons (Cert.cond rfl rfl (fun h => o_load (ag := true) (sz := 3) 102 .is (by kernel_rfl) (by kernel_rfl) (by kernel_rfl) (by rfl))) r2 r1
      (Chain.cons (Cert.cond rfl rfl (fun h => o_fieldAddr (off := 1) 103 .is (by kernel_rfl) (by rfl))) r2 r1
      (Chain.cons (Cert.cond rfl rfl (fun h => o_load (ag := false) (sz := 1) 103 (.w h .adr) (by kernel_rfl) (by kernel_rfl) (by kernel_rfl) (by rfl))) r2 r1
      (Chain.cons (Cert.cond rfl rfl (fun h => o_callP (twrites_c u o.key (by omega)) Try.func39 rfl (by kernel_rfl) (Args.two (.pagg (.w h)) (.w h)))) r3 trivial
      (Chain.cons (Cert.cond rfl rfl (fun h => o_lss (.w h) (.w h))) r3 trivial
      (cF rfl (o_and2 .t .t) r2 trivial
      (cF rfl (o_assign .t (by rfl)) r1 trivial
      Chain.nil))))))))))))
      (by kernel_rfl) (by rw [hB]; kernel_rfl) ?_
    clear hS; intro a w F hS
    obtain ⟨F, hS⟩ := hS.norm [(8, _)] [(0, _), (101, _), (102, _), (103, _)] r1 r4
    try dsimp only [List.map, List.drop_succ_cons, List.drop_zero, List.drop_nil, List.take_succ_cons, List.take_zero, List.take_nil, ldSF, rHist, rTx, rOrd, rVer, rInt, rOp, rBad] at hS
    refine then_n ?_
    refine wp_ret ?_
    refine block_r ?_
    refine then_r ?_
    refine ret_P hfr hS rfl (.tmp rfl .nil) (.one (.bool (by unfold judgeB wcnt; first | (rw [if_pos h2]; done) | (rw [if_neg h2, h3, Bool.true_and]; done) | (rw [if_neg h2, h3]; simp))))
   ·skip
    have h3 : decide (phen = 3) = false := hc1
    refine wp_skip ?_
    refine block_n ?_
    refine then_n ?_
    refine wp_seq ?_
    refine region_seq hS (by kernel_rfl)
      (cF rfl (o_assign .cb (by rfl)) trivial trivial
      Chain.nil)
      (by kernel_rfl) (by rw [hB]; kernel_rfl) ?_
    clear hS; intro a w F hS
    obtain ⟨F, hS⟩ := hS.norm [(8, _)] [(0, _), (101, _), (102, _), (103, _)] r1 r4
    try dsimp only [rHist, rTx, rOrd, rVer, rInt, rOp, rBad] at hS
    refine then_n ?_
    refine wp_ret ?_
    refine ret_P hfr hS rfl (.tmp rfl .nil) (.one (.bool (by unfold judgeB wcnt; first | (rw [if_pos h2]; done) | (rw [if_neg h2, h3, Bool.true_and]; done) | (rw [if_neg h2, h3]; simp))))

theorem uOf_len {g : HistD} (hs : SmallT g.txs) (o : OpD) : (uOf g o).ops.length ≤ 1000 := by
  unfold uOf
  cases hf : findT g.txs o.tx with
  | none => simp [zeroT]
  | some t => exact hs.2 _ (findT_mem hf).1

theorem gather_c (g : HistD) (phen : Int) (hsm : Small g) (p : Int → Bool) (f : FuncId) (fn : Func) (cps : List PV) (hf : Try.prog.funcs[f]? = some fn) (hb : fn.body.isSome = true) (hnn : (fn.name == "runtime.NumGoroutine") = false) (hw : ∀ x, FnP Try.prog f (.int .i64 x :: cps) (.bool (p x))) : FnP Try.prog 111 [.agg (rHist g), .int .i64 phen, .clos f cps] (.sl rBad (badsH g phen p)) := by
  refine FnP.mk Try.func111 rfl Try.ntmps111 rfl ?_
  intro B a w F hB hfr hS
  have hs := hsm.1
  have hsl := hs.1
  refine wp_seq ?_
  refine region_seq hS (by kernel_rfl)
    (cF rfl (o_boxA 101 (.conv .t .agg) (by kernel_rfl)) r1 trivial
    (cF rfl (o_assign (.c rfl) (by rfl)) trivial trivial
    Chain.nil))
    (by kernel_rfl) (by rw [hB]; kernel_rfl) ?_
  clear hS; intro a w F hS
  replace hS := hS.sub
  obtain ⟨F, hS⟩ := hS.norm [(1, _), (2, _), (3, _), (6, _)] [(0, _), (101, _)] r4 r2
  try dsimp only [RS.sub, SF.sub, CF.sub, csub, Anc.sub, List.map, zCF, rHist, rTx, rOrd, rVer, rInt, rOp, rBad] at hS
  generalize Act.tau a 3 = v3 at hS
  refine then_n ?_
  refine wp_seq ?_
  refine region_seq hS (by kernel_rfl)
    (cF rfl (o_assign (.c rfl) (by rfl)) trivial trivial
    Chain.nil)
    (by kernel_rfl) (by rw [hB]; kernel_rfl) ?_
  clear hS; intro a w F hS
  obtain ⟨F, hS⟩ := hS.norm [(1, _), (2, _), (3, _), (6, _), (7, _)] [(0, _), (101, _)] r5 r2
  try dsimp only [rHist, rTx, rOrd, rVer, rInt, rOp, rBad] at hS
  refine then_n ?_
  refine wp_seq ?_
  refine wp_seq ?_
  refine region_seq hS (by kernel_rfl)
    (cF rfl (o_load (ag := true) (sz := 2) 101 .is (by kernel_rfl) (by kernel_rfl) (by kernel_rfl) (by rfl)) r1 r1
    (cF rfl (o_callP (rightH_c g hsm) Try.func133 rfl (by kernel_rfl) (Args.one (.pagg .t))) r1 trivial
    (cF rfl (o_not .t) r1 trivial
    Chain.nil)))
    (by kernel_rfl) (by rw [hB]; kernel_rfl) ?_
  clear hS; intro a w F hS
  obtain ⟨F, hS⟩ := hS.norm [(1, _), (2, _), (3, _), (6, _), (7, _), (17, _)] [(0, _), (101, _)] r6 r2
  try dsimp only [List.map, List.drop_succ_cons, List.drop_zero, List.drop_nil, List.take_succ_cons, List.take_zero, List.take_nil, ldSF, rHist, rTx, rOrd, rVer, rInt, rOp, rBad] at hS
  refine then_n ?_
  refine cond_b hS rfl (fun hc0 => ?_) (fun hc0 => ?_)
  ·skip
   have hg : [] = badsH g phen p := by unfold badsH; rw [if_neg (by simpa using hc0)]
   refine wp_seq ?_
   refine region_seq hS (by kernel_rfl)
     (cF rfl (o_move .t (by rfl)) r1 trivial
     (cF rfl (o_assign .t (by rfl)) r1 trivial
     Chain.nil))
     (by kernel_rfl) (by rw [hB]; kernel_rfl) ?_
   clear hS; intro a w F hS
   obtain ⟨F, hS⟩ := hS.norm [(1, _), (2, _), (3, _), (6, _), (7, _)] [(0, _), (101, _)] r5 r2
   try dsimp only [rHist, rTx, rOrd, rVer, rInt, rOp, rBad] at hS
   refine then_n ?_
   refine wp_ret ?_
   refine then_r ?_
   refine ret_P hfr hS rfl (.tmp rfl .nil) (.one (.trans .nilSl (.sl (by first | exact hg | (rw [hq, hil, List.take_length]; exact hgg)))))
  ·skip
   have hr : RightH g := by simpa using hc0
   have hgg : badsG g phen p g.txs = badsH g phen p := by unfold badsH; rw [if_pos hr]
   refine wp_skip ?_
   refine then_n ?_
   refine wp_seq ?_
   refine region_seq hS (by kernel_rfl)
     (cF rfl (o_makeMapG (ek := (fun t : TxD => PV.agg (rTx t))) (ok := (fun _ => True)) (kv := (fun n : Int => Value.int .i64 n)) 102) trivial trivial
     (cF rfl (o_assign .t (by rfl)) r1 trivial
     Chain.nil))
     (by kernel_rfl) (by rw [hB]; kernel_rfl) ?_
   clear hS; intro a w F hS
   replace hS := hS.sub
   obtain ⟨F, hS⟩ := hS.norm [(1, _), (2, _), (3, _), (6, _), (7, _), (8, _)] [(0, _), (101, _), (102, _)] r6 r3
   try dsimp only [RS.sub, SF.sub, CF.sub, csub, Anc.sub, List.map, stCells, List.length_cons, List.length_nil, Nat.reduceAdd, List.drop_succ_cons, List.drop_zero, List.drop_nil, List.take_succ_cons, List.take_zero, List.take_nil, List.cons_append, List.nil_append, zCF, rHist, rTx, rOrd, rVer, rInt, rOp, rBad] at hS
   generalize Act.tau a 19 = v19 at hS
   refine then_n ?_
   refine wp_seq ?_
   refine wp_seq ?_
   refine region_seq hS (by kernel_rfl)
     (cF rfl (o_fieldAddr (off := 0) 101 .is (by kernel_rfl) (by rfl)) r1 r1
     (cF rfl (o_load (ag := false) (sz := 1) 101 .adr (by kernel_rfl) (by kernel_rfl) (by kernel_rfl) (by rfl)) r1 r1
     (cF rfl (o_len_sl Try.underlying63 .t) r1 trivial
     (cF rfl (o_move (.ci (by kernel_rfl)) (by rfl)) trivial trivial
     Chain.nil))))
     (by kernel_rfl) (by rw [hB]; kernel_rfl) ?_
   clear hS; intro a w F hS
   obtain ⟨F, hS⟩ := hS.norm [(1, _), (2, _), (3, _), (6, _), (7, _), (8, _), (21, _), (22, _), (23, _)] [(0, _), (101, _), (102, _)] ⟨rfl, rfl, rfl, rfl, rfl, rfl, rfl, rfl, rfl, trivial⟩ r3
   try dsimp only [List.map, List.drop_succ_cons, List.drop_zero, List.drop_nil, List.take_succ_cons, List.take_zero, List.take_nil, ldSF, rHist, rTx, rOrd, rVer, rInt, rOp, rBad] at hS
   refine then_n ?_
   refine wp_block ?_
   refine loop_keep (σ := (Nat) × (List (GE Int TxD)) × (Nat)) [1, 2, 3, 6, 7, 8, 21, 22] [0, 101] (fun s => [(23, .pv (.int .i64 (s.1 : Int)))]) (fun s => [(102, .ob (.val v19) (mapG (fun t : TxD => PV.agg (rTx t)) (fun _ => True) (fun n : Int => Value.int .i64 n) s.2.1 s.2.2))]) (fun s => s.1 ≤ g.txs.length ∧ (ByInv s.2.1 (g.txs.take s.1))) (fun s => g.txs.length - s.1) ((0), ([]), (0)) hS ⟨rfl, rfl, rfl, rfl, rfl, rfl, rfl, rfl, rfl, trivial⟩ ⟨rfl, rfl, rfl, trivial⟩ ⟨Nat.zero_le _, (fun id => rfl)⟩ ?_
   clear hS; intro s a w F hC hS
   obtain ⟨i, es, ck⟩ := s
   try dsimp only at hC
   obtain ⟨F, hS⟩ := hS.norm [(1, _), (2, _), (3, _), (6, _), (7, _), (8, _), (21, _), (22, _), (23, _)] [(0, _), (101, _), (102, _)] ⟨rfl, rfl, rfl, rfl, rfl, rfl, rfl, rfl, rfl, trivial⟩ r3
   try dsimp only at hS
   obtain ⟨hi, hq⟩ := hC
   refine wp_seq ?_
   refine region_seq hS (by kernel_rfl)
     (cF rfl (o_lss .t .t) r2 trivial
     Chain.nil)
     (by kernel_rfl) (by rw [hB]; kernel_rfl) ?_
   clear hS; intro a w F hS
   obtain ⟨F, hS⟩ := hS.norm [(1, _), (2, _), (3, _), (6, _), (7, _), (8, _), (21, _), (22, _), (23, _), (24, _)] [(0, _), (101, _), (102, _)] ⟨rfl, rfl, rfl, rfl, rfl, rfl, rfl, rfl, rfl, rfl, trivial⟩ r3
   try dsimp only [rHist, rTx, rOrd, rVer, rInt, rOp, rBad] at hS
   refine then_n ?_
   refine wp_seq ?_
   refine cond_b hS rfl (fun hc1 => ?_) (fun hc1 => ?_)
   ·skip
    have hil : i < g.txs.length := by simp at hc1; omega
    refine wp_skip ?_
    refine then_n ?_
    refine wp_seq ?_
    refine wp_block ?_
    refine wp_seq ?_
    refine region_seq hS (by kernel_rfl)
      (cF rfl (o_indexAddr_sl (sz := 3) (.mk Try.underlying63 (by kernel_rfl)) (by intro x; rfl) .t .t (by omega) (by omega)) r2 trivial
      (cF rfl (o_load_ref (ag := true) (sz := 3) .t (by kernel_rfl) (by kernel_rfl) (by kernel_rfl)) r1 trivial
      (cF rfl (o_alloc (zs := [.int .i64 0, .bool false, .slice none 0 0]) 103 (by kernel_rfl)) trivial trivial
      (cF rfl (o_storeA (sz := 3) 103 .same .t (by kernel_rfl) (by kernel_rfl) (by kernel_rfl)) r2 r1
      Chain.nil))))
      (by kernel_rfl) (by rw [hB]; kernel_rfl) ?_
    clear hS; intro a w F hS
    replace hS := hS.sub
    obtain ⟨F, hS⟩ := hS.norm [(1, _), (2, _), (3, _), (6, _), (7, _), (8, _), (10, _), (21, _), (22, _), (23, _), (24, _), (25, _), (26, _)] [(0, _), (101, _), (102, _), (103, _)] ⟨rfl, rfl, rfl, rfl, rfl, rfl, rfl, rfl, rfl, rfl, rfl, rfl, rfl, trivial⟩ r4
    try dsimp only [RS.sub, SF.sub, CF.sub, csub, Anc.sub, List.map, stCells, List.length_cons, List.length_nil, Nat.reduceAdd, List.drop_succ_cons, List.drop_zero, List.drop_nil, List.take_succ_cons, List.take_zero, List.take_nil, List.cons_append, List.nil_append, zCF, ldSF, rHist, rTx, rOrd, rVer, rInt, rOp, rBad] at hS
    generalize Act.tau a 10 = v10 at hS
    try simp only [Int.toNat_natCast] at hS
    refine then_n ?_
    refine region_seq hS (by kernel_rfl)
      (cF rfl (o_move .t (by rfl)) r1 trivial
      (cF rfl (o_fieldAddr (off := 0) 103 .is (by kernel_rfl) (by rfl)) r1 r1
      (cF rfl (o_load (ag := false) (sz := 1) 103 .adr (by kernel_rfl) (by kernel_rfl) (by kernel_rfl) (by rfl)) r1 r1
      (cF rfl (o_load (ag := true) (sz := 3) 103 .is (by kernel_rfl) (by kernel_rfl) (by kernel_rfl) (by rfl)) r1 r1
      (cF rfl (o_mapUpdateG (ek := (fun t : TxD => PV.agg (rTx t))) (v := (Go.Gm.nth g.txs i)) 102 Try.underlying150 (key_intG Try.underlying3) .is (IsKeyOf.int .t rfl) (.pagg .t)) r3 r1
      Chain.nil)))))
      (by kernel_rfl) (by rw [hB]; kernel_rfl) ?_
    clear hS; intro a w F hS
    obtain ⟨F, hS⟩ := hS.norm [(1, _), (2, _), (3, _), (6, _), (7, _), (8, _), (10, _), (21, _), (22, _), (23, _), (24, _), (25, _), (26, _), (27, _), (28, _), (29, _), (30, _)] [(0, _), (101, _), (102, _), (103, _)] ⟨rfl, rfl, rfl, rfl, rfl, rfl, rfl, rfl, rfl, rfl, rfl, rfl, rfl, rfl, rfl, rfl, rfl, trivial⟩ r4
    try dsimp only [List.map, List.drop_succ_cons, List.drop_zero, List.drop_nil, List.take_succ_cons, List.take_zero, List.take_nil, ldSF, rHist, rTx, rOrd, rVer, rInt, rOp, rBad] at hS
    refine block_n ?_
    refine then_n ?_
    refine region_seq hS (by kernel_rfl)
      (cF rfl (o_add .t (.ci (by kernel_rfl))) r1 trivial
      (cF rfl (o_move .t (by rfl)) r1 trivial
      Chain.nil))
      (by kernel_rfl) (by rw [hB]; kernel_rfl) ?_
    clear hS; intro a w F hS
    obtain ⟨F, hS⟩ := hS.norm [(1, _), (2, _), (3, _), (6, _), (7, _), (8, _), (10, _), (21, _), (22, _), (23, _), (24, _), (25, _), (26, _), (27, _), (28, _), (29, _), (30, _), (31, _)] [(0, _), (101, _), (102, _), (103, _)] ⟨rfl, rfl, rfl, rfl, rfl, rfl, rfl, rfl, rfl, rfl, rfl, rfl, rfl, rfl, rfl, rfl, rfl, rfl, trivial⟩ r4
    try dsimp only [rHist, rTx, rOrd, rVer, rInt, rOp, rBad] at hS
    refine then_n ?_
    replace hS := hS.ent (i := 23) (s' := .pv (.int .i64 ((i + 1 : Nat) : Int))) rfl (.int (wrap_succ (by omega)))
    obtain ⟨F, hS⟩ := hS.norm [(23, _), (1, _), (2, _), (3, _), (6, _), (7, _), (8, _), (21, _), (22, _)] [(102, _), (0, _), (101, _)] ⟨rfl, rfl, rfl, rfl, rfl, rfl, rfl, rfl, rfl, trivial⟩ ⟨rfl, rfl, rfl, trivial⟩
    exact ⟨((i + 1), ((gPut (Go.Gm.nth g.txs i).id (Go.Gm.nth g.txs i) (es, ck)).1), ((gPut (Go.Gm.nth g.txs i).id (Go.Gm.nth g.txs i) (es, ck)).2)), F, ⟨by omega, by_step hr.2.1 hq hil⟩, hS, by omega⟩
   ·skip
    have hil : i = g.txs.length := by simp at hc1; omega
    have hby : ∀ id, gGet id es = findT g.txs id := by rw [hil, List.take_length] at hq; exact hq
    refine wp_exit ?_
    refine then_x ?_
    refine then_x ?_
    refine block_x ?_
    refine then_n ?_
    refine wp_seq ?_
    refine wp_seq ?_
    refine region_seq hS (by kernel_rfl)
      (cF rfl (o_fieldAddr (off := 0) 101 .is (by kernel_rfl) (by rfl)) r1 r1
      (cF rfl (o_load (ag := false) (sz := 1) 101 .adr (by kernel_rfl) (by kernel_rfl) (by kernel_rfl) (by rfl)) r1 r1
      (cF rfl (o_len_sl Try.underlying63 .t) r1 trivial
      (cF rfl (o_move (.ci (by kernel_rfl)) (by rfl)) trivial trivial
      Chain.nil))))
      (by kernel_rfl) (by rw [hB]; kernel_rfl) ?_
    clear hS; intro a w F hS
    obtain ⟨F, hS⟩ := hS.norm [(1, _), (2, _), (6, _), (7, _), (8, _), (33, _), (34, _), (35, _)] [(0, _), (101, _), (102, _)] r8 r3
    try dsimp only [List.map, List.drop_succ_cons, List.drop_zero, List.drop_nil, List.take_succ_cons, List.take_zero, List.take_nil, ldSF, rHist, rTx, rOrd, rVer, rInt, rOp, rBad] at hS
    refine then_n ?_
    refine wp_block ?_
    replace hS := hS.fresh 50 rfl
    replace hS := hS.turn 50 rfl (nilRow (T := 70) (sz := 5) (R := rBad))
    refine loop_keep (σ := (Nat) × (Value) × (List BadD)) [1, 2, 6, 8, 33, 34] [0, 101, 102] (fun s => [(35, .pv (.int .i64 (s.1 : Int))), (7, .pv (.is s.2.1))]) (fun s => [(50, .ob (.val s.2.1) (rowH 70 5 rBad s.2.2))]) (fun s => s.1 ≤ g.txs.length ∧ (s.2.2 = badsG g phen p (g.txs.take s.1))) (fun s => g.txs.length - s.1) ((0), (.slice none 0 0), ([])) hS ⟨rfl, rfl, rfl, rfl, rfl, rfl, rfl, rfl, trivial⟩ ⟨rfl, rfl, rfl, rfl, trivial⟩ ⟨Nat.zero_le _, rfl⟩ ?_
    clear hS; intro s a w F hC hS
    obtain ⟨i, x0, out⟩ := s
    try dsimp only at hC
    obtain ⟨F, hS⟩ := hS.norm [(1, _), (2, _), (6, _), (7, _), (8, _), (33, _), (34, _), (35, _)] [(0, _), (50, _), (101, _), (102, _)] r8 r4
    try dsimp only at hS
    obtain ⟨hi, hq⟩ := hC
    have hxl := fun hil : i < g.txs.length => hs.at hil
    have hol : out.length ≤ 1000 * i := by rw [hq]; exact badsG_le hs i
    refine wp_seq ?_
    refine region_seq hS (by kernel_rfl)
      (cF rfl (o_lss .t .t) r2 trivial
      Chain.nil)
      (by kernel_rfl) (by rw [hB]; kernel_rfl) ?_
    clear hS; intro a w F hS
    obtain ⟨F, hS⟩ := hS.norm [(1, _), (2, _), (6, _), (7, _), (8, _), (33, _), (34, _), (35, _), (36, _)] [(0, _), (50, _), (101, _), (102, _)] ⟨rfl, rfl, rfl, rfl, rfl, rfl, rfl, rfl, rfl, trivial⟩ r4
    try dsimp only [rHist, rTx, rOrd, rVer, rInt, rOp, rBad] at hS
    refine then_n ?_
    refine wp_seq ?_
    refine cond_b hS rfl (fun hc2 => ?_) (fun hc2 => ?_)
    ·skip
     have hil : i < g.txs.length := by simp at hc2; omega
     have hio := hil
     have htl := hxl hil
     have hsl := hs.1
     refine wp_skip ?_
     refine then_n ?_
     refine wp_seq ?_
     refine wp_block ?_
     refine wp_seq ?_
     refine region_seq hS (by kernel_rfl)
       (cF rfl (o_indexAddr_sl (sz := 3) (.mk Try.underlying63 (by kernel_rfl)) (by intro x; rfl) .t .t (by omega) (by omega)) r2 trivial
       (cF rfl (o_load_ref (ag := true) (sz := 3) .t (by kernel_rfl) (by kernel_rfl) (by kernel_rfl)) r1 trivial
       (cF rfl (o_alloc (zs := [.int .i64 0, .bool false, .slice none 0 0]) 104 (by kernel_rfl)) trivial trivial
       (cF rfl (o_storeA (sz := 3) 104 .same .t (by kernel_rfl) (by kernel_rfl) (by kernel_rfl)) r2 r1
       Chain.nil))))
       (by kernel_rfl) (by rw [hB]; kernel_rfl) ?_
     clear hS; intro a w F hS
     replace hS := hS.sub
     obtain ⟨F, hS⟩ := hS.norm [(1, _), (2, _), (6, _), (7, _), (8, _), (12, _), (33, _), (34, _), (35, _), (36, _), (37, _), (38, _)] [(0, _), (50, _), (101, _), (102, _), (104, _)] ⟨rfl, rfl, rfl, rfl, rfl, rfl, rfl, rfl, rfl, rfl, rfl, rfl, trivial⟩ r5
     try dsimp only [RS.sub, SF.sub, CF.sub, csub, Anc.sub, List.map, stCells, List.length_cons, List.length_nil, Nat.reduceAdd, List.drop_succ_cons, List.drop_zero, List.drop_nil, List.take_succ_cons, List.take_zero, List.take_nil, List.cons_append, List.nil_append, zCF, ldSF, rHist, rTx, rOrd, rVer, rInt, rOp, rBad] at hS
     generalize Act.tau a 12 = v12 at hS
     try simp only [Int.toNat_natCast] at hS
     refine then_n ?_
     refine wp_seq ?_
     refine region_seq hS (by kernel_rfl)
       (cF rfl (o_fieldAddr (off := 2) 104 .is (by kernel_rfl) (by rfl)) r1 r1
       (cF rfl (o_load (ag := false) (sz := 1) 104 .adr (by kernel_rfl) (by kernel_rfl) (by kernel_rfl) (by rfl)) r1 r1
       (cF rfl (o_len_sl Try.underlying46 .t) r1 trivial
       (cF rfl (o_move (.ci (by kernel_rfl)) (by rfl)) trivial trivial
       Chain.nil))))
       (by kernel_rfl) (by rw [hB]; kernel_rfl) ?_
     clear hS; intro a w F hS
     obtain ⟨F, hS⟩ := hS.norm [(1, _), (2, _), (6, _), (7, _), (8, _), (12, _), (33, _), (34, _), (35, _), (36, _), (37, _), (38, _), (39, _), (40, _), (41, _), (42, _)] [(0, _), (50, _), (101, _), (102, _), (104, _)] ⟨rfl, rfl, rfl, rfl, rfl, rfl, rfl, rfl, rfl, rfl, rfl, rfl, rfl, rfl, rfl, rfl, trivial⟩ r5
     try dsimp only [List.map, List.drop_succ_cons, List.drop_zero, List.drop_nil, List.take_succ_cons, List.take_zero, List.take_nil, ldSF, rHist, rTx, rOrd, rVer, rInt, rOp, rBad] at hS
     refine then_n ?_
     refine wp_block ?_
     refine loop_keep (σ := (Nat) × (Value) × (List BadD)) [1, 2, 6, 8, 12, 33, 34, 35, 36, 37, 38, 39, 40, 41] [0, 101, 102, 104] (fun s => [(42, .pv (.int .i64 (s.1 : Int))), (7, .pv (.is s.2.1))]) (fun s => [(50, .ob (.val s.2.1) (rowH 70 5 rBad s.2.2))]) (fun s => s.1 ≤ (Go.Gm.nth g.txs i).ops.length ∧ (s.2.2 = badsG g phen p (g.txs.take i) ++ badsOf g phen p (Go.Gm.nth g.txs i) ((Go.Gm.nth g.txs i).ops.take s.1))) (fun s => (Go.Gm.nth g.txs i).ops.length - s.1) ((0), (x0), (out)) hS ⟨rfl, rfl, rfl, rfl, rfl, rfl, rfl, rfl, rfl, rfl, rfl, rfl, rfl, rfl, rfl, rfl, trivial⟩ ⟨rfl, rfl, rfl, rfl, rfl, trivial⟩ ⟨Nat.zero_le _, (by rw [hq]; simp [badsOf])⟩ ?_
     clear hS; intro s a w F hC hS
     obtain ⟨j, x1, outj⟩ := s
     try dsimp only at hC
     obtain ⟨F, hS⟩ := hS.norm [(1, _), (2, _), (6, _), (7, _), (8, _), (12, _), (33, _), (34, _), (35, _), (36, _), (37, _), (38, _), (39, _), (40, _), (41, _), (42, _)] [(0, _), (50, _), (101, _), (102, _), (104, _)] ⟨rfl, rfl, rfl, rfl, rfl, rfl, rfl, rfl, rfl, rfl, rfl, rfl, rfl, rfl, rfl, rfl, trivial⟩ r5
     try dsimp only at hS
     obtain ⟨hi, hq⟩ := hC
     have hbl := badsOf_len g phen p (Go.Gm.nth g.txs i) ((Go.Gm.nth g.txs i).ops.take j)
     have hbg := badsG_le (g := g) (phen := phen) (p := p) hs i
     have hoj : outj.length ≤ 1000 * i + j := by rw [hq, List.length_append]; rw [List.length_take] at hbl; omega
     refine wp_seq ?_
     refine region_seq hS (by kernel_rfl)
       (cF rfl (o_lss .t .t) r2 trivial
       Chain.nil)
       (by kernel_rfl) (by rw [hB]; kernel_rfl) ?_
     clear hS; intro a w F hS
     obtain ⟨F, hS⟩ := hS.norm [(1, _), (2, _), (6, _), (7, _), (8, _), (12, _), (33, _), (34, _), (35, _), (36, _), (37, _), (38, _), (39, _), (40, _), (41, _), (42, _), (43, _)] [(0, _), (50, _), (101, _), (102, _), (104, _)] ⟨rfl, rfl, rfl, rfl, rfl, rfl, rfl, rfl, rfl, rfl, rfl, rfl, rfl, rfl, rfl, rfl, rfl, trivial⟩ r5
     try dsimp only [rHist, rTx, rOrd, rVer, rInt, rOp, rBad] at hS
     refine then_n ?_
     refine wp_seq ?_
     refine cond_b hS rfl (fun hc3 => ?_) (fun hc3 => ?_)
     ·skip
      have hil : j < (Go.Gm.nth g.txs i).ops.length := by simp at hc3; omega
      refine wp_skip ?_
      refine then_n ?_
      refine wp_seq ?_
      refine wp_block ?_
      refine wp_seq ?_
      refine region_seq hS (by kernel_rfl)
        (cF rfl (o_move .t (by rfl)) r1 trivial
        (cF rfl (o_indexAddr_sl (sz := 4) (.mk Try.underlying46 (by kernel_rfl)) (by intro x; rfl) .t .t (by omega) (by omega)) r2 trivial
        (cF rfl (o_load_ref (ag := true) (sz := 4) .t (by kernel_rfl) (by kernel_rfl) (by kernel_rfl)) r1 trivial
        (cF rfl (o_alloc (zs := [.bool false, .int .i64 0, .int .i64 0, .int .i64 0]) 105 (by kernel_rfl)) trivial trivial
        (cF rfl (o_assign .t (by rfl)) r1 trivial
        (cF rfl (o_storeA (sz := 4) 105 .same .t (by kernel_rfl) (by kernel_rfl) (by kernel_rfl)) r2 r1
        Chain.nil))))))
        (by kernel_rfl) (by rw [hB]; kernel_rfl) ?_
      clear hS; intro a w F hS
      replace hS := hS.sub
      obtain ⟨F, hS⟩ := hS.norm [(1, _), (2, _), (6, _), (7, _), (8, _), (12, _), (13, _), (14, _), (33, _), (34, _), (35, _), (36, _), (37, _), (38, _), (39, _), (40, _), (41, _), (42, _), (43, _), (44, _), (45, _), (46, _)] [(0, _), (50, _), (101, _), (102, _), (104, _), (105, _)] ⟨rfl, rfl, rfl, rfl, rfl, rfl, rfl, rfl, rfl, rfl, rfl, rfl, rfl, rfl, rfl, rfl, rfl, rfl, rfl, rfl, rfl, rfl, trivial⟩ r6
      try dsimp only [RS.sub, SF.sub, CF.sub, csub, Anc.sub, List.map, stCells, List.length_cons, List.length_nil, Nat.reduceAdd, List.drop_succ_cons, List.drop_zero, List.drop_nil, List.take_succ_cons, List.take_zero, List.take_nil, List.cons_append, List.nil_append, zCF, ldSF, rHist, rTx, rOrd, rVer, rInt, rOp, rBad] at hS
      generalize Act.tau a 14 = v14 at hS
      try simp only [Int.toNat_natCast] at hS
      refine then_n ?_
      refine wp_seq ?_
      refine wp_seq ?_
      refine region_seq hS (by kernel_rfl)
        (cF rfl (o_fieldAddr (off := 0) 105 .is (by kernel_rfl) (by rfl)) r1 r1
        (cF rfl (o_load (ag := false) (sz := 1) 105 .adr (by kernel_rfl) (by kernel_rfl) (by kernel_rfl) (by rfl)) r1 r1
        (cF rfl (o_not .t) r1 trivial
        (cF rfl (o_move .t (by rfl)) r1 trivial
        (Chain.cons (Cert.cond rfl rfl (fun h => o_fieldAddr (off := 2) 105 .is (by kernel_rfl) (by rfl))) r2 r1
        (Chain.cons (Cert.cond rfl rfl (fun h => o_load (ag := false) (sz := 1) 105 (.w h .adr) (by kernel_rfl) (by kernel_rfl) (by kernel_rfl) (by rfl))) r2 r1
        (Chain.cons (Cert.cond rfl rfl (fun h => o_eql (.w h) (.ci (by kernel_rfl)))) r2 trivial
        (cF rfl (o_or2 .t .t) r2 trivial
        (cF rfl (o_move .t (by rfl)) r1 trivial
        (Chain.cons (Cert.cond rfl rfl (fun h => o_fieldAddr (off := 2) 105 .is (by kernel_rfl) (by rfl))) r2 r1
        (Chain.cons (Cert.cond rfl rfl (fun h => o_load (ag := false) (sz := 1) 105 (.w h .adr) (by kernel_rfl) (by kernel_rfl) (by kernel_rfl) (by rfl))) r2 r1
        (Chain.cons (Cert.cond rfl rfl (fun h => o_fieldAddr (off := 0) 104 .is (by kernel_rfl) (by rfl))) r2 r1
        (Chain.cons (Cert.cond rfl rfl (fun h => o_load (ag := false) (sz := 1) 104 (.w h .adr) (by kernel_rfl) (by kernel_rfl) (by kernel_rfl) (by rfl))) r2 r1
        (Chain.cons (Cert.cond rfl rfl (fun h => o_eql (.w h) (.w h))) r3 trivial
        (cF rfl (o_or2 .t .t) r2 trivial
        (cF rfl (o_move .t (by rfl)) r1 trivial
        (Chain.cons (Cert.cond rfl rfl (fun h => o_move .t (by rfl))) r2 trivial
        (Chain.cons (Cert.cond rfl rfl (fun h => o_fieldAddr (off := 1) 105 .is (by kernel_rfl) (by rfl))) r2 r1
        (Chain.cons (Cert.cond rfl rfl (fun h => o_load (ag := false) (sz := 1) 105 (.w h .adr) (by kernel_rfl) (by kernel_rfl) (by kernel_rfl) (by rfl))) r2 r1
        (Chain.cons (Cert.cond rfl rfl (fun h => o_callClosP (avs := [.int .i64 (Go.Gm.nth (Go.Gm.nth g.txs i).ops j).key]) (.w h) (hw (Go.Gm.nth (Go.Gm.nth g.txs i).ops j).key) hf hb hnn (Args.one (.w h)))) r3 trivial
        (Chain.cons (Cert.cond rfl rfl (fun h => o_not (.w h))) r2 trivial
        (cF rfl (o_or2 .t .t) r2 trivial
        Chain.nil))))))))))))))))))))))
        (by kernel_rfl) (by rw [hB]; kernel_rfl) ?_
      clear hS; intro a w F hS
      obtain ⟨F, hS⟩ := hS.norm [(1, _), (2, _), (6, _), (7, _), (8, _), (12, _), (13, _), (14, _), (33, _), (34, _), (35, _), (36, _), (37, _), (38, _), (39, _), (40, _), (41, _), (42, _), (43, _), (44, _), (45, _), (46, _), (47, _), (48, _), (49, _), (50, _), (51, _), (52, _), (53, _), (54, _), (55, _), (56, _), (57, _), (58, _), (59, _), (60, _), (61, _), (62, _), (63, _), (64, _), (65, _), (66, _), (67, _), (68, _)] [(0, _), (50, _), (101, _), (102, _), (104, _), (105, _)] ⟨rfl, rfl, rfl, rfl, rfl, rfl, rfl, rfl, rfl, rfl, rfl, rfl, rfl, rfl, rfl, rfl, rfl, rfl, rfl, rfl, rfl, rfl, rfl, rfl, rfl, rfl, rfl, rfl, rfl, rfl, rfl, rfl, rfl, rfl, rfl, rfl, rfl, rfl, rfl, rfl, rfl, rfl, rfl, rfl, trivial⟩ r6
      try dsimp only [List.map, List.drop_succ_cons, List.drop_zero, List.drop_nil, List.take_succ_cons, List.take_zero, List.take_nil, ldSF, rHist, rTx, rOrd, rVer, rInt, rOp, rBad] at hS
      refine then_n ?_
      refine cond_b hS rfl (fun hc4 => ?_) (fun hc4 => ?_)
      ·skip
       have hBq : ¬ (p (Go.Gm.nth (Go.Gm.nth g.txs i).ops j).key && badB g phen (Go.Gm.nth g.txs i) (Go.Gm.nth (Go.Gm.nth g.txs i).ops j)) = true := by
         intro h9
         rw [Bool.and_eq_true] at h9
         have h8 := h9.2
         unfold badB at h8
         rw [Bool.and_eq_true] at h8
         have h7 := h8.1
         unfold needO at h7
         simp at h7
         have h6 := hc4
         simp [h9.1, h7] at h6
       refine wp_exit ?_
       refine then_x ?_
       refine block_x ?_
       refine then_n ?_
       refine region_seq hS (by kernel_rfl)
         (cF rfl (o_add .t (.ci (by kernel_rfl))) r1 trivial
         (cF rfl (o_move .t (by rfl)) r1 trivial
         Chain.nil))
         (by kernel_rfl) (by rw [hB]; kernel_rfl) ?_
       clear hS; intro a w F hS
       obtain ⟨F, hS⟩ := hS.norm [(1, _), (2, _), (6, _), (7, _), (8, _), (12, _), (13, _), (14, _), (33, _), (34, _), (35, _), (36, _), (37, _), (38, _), (39, _), (40, _), (41, _), (42, _), (43, _), (44, _), (45, _), (46, _), (47, _), (48, _), (49, _), (50, _), (51, _), (52, _), (53, _), (54, _), (55, _), (56, _), (57, _), (58, _), (59, _), (60, _), (61, _), (62, _), (63, _), (64, _), (65, _), (66, _), (67, _), (68, _), (86, _)] [(0, _), (50, _), (101, _), (102, _), (104, _), (105, _)] ⟨rfl, rfl, rfl, rfl, rfl, rfl, rfl, rfl, rfl, rfl, rfl, rfl, rfl, rfl, rfl, rfl, rfl, rfl, rfl, rfl, rfl, rfl, rfl, rfl, rfl, rfl, rfl, rfl, rfl, rfl, rfl, rfl, rfl, rfl, rfl, rfl, rfl, rfl, rfl, rfl, rfl, rfl, rfl, rfl, rfl, trivial⟩ r6
       try dsimp only [rHist, rTx, rOrd, rVer, rInt, rOp, rBad] at hS
       refine then_n ?_
       replace hS := hS.ent (i := 42) (s' := .pv (.int .i64 ((j + 1 : Nat) : Int))) rfl (.int (wrap_succ (by omega)))
       obtain ⟨F, hS⟩ := hS.norm [(42, _), (7, _), (1, _), (2, _), (6, _), (8, _), (12, _), (33, _), (34, _), (35, _), (36, _), (37, _), (38, _), (39, _), (40, _), (41, _)] [(50, _), (0, _), (101, _), (102, _), (104, _)] ⟨rfl, rfl, rfl, rfl, rfl, rfl, rfl, rfl, rfl, rfl, rfl, rfl, rfl, rfl, rfl, rfl, trivial⟩ ⟨rfl, rfl, rfl, rfl, rfl, trivial⟩
       exact ⟨((j + 1), _, _), F, ⟨by omega, (by rw [badsOf_step hil, ← List.append_assoc, ← hq]; first | (rw [if_pos hBq]; done) | (rw [if_neg hBq, List.append_nil]))⟩, hS, by omega⟩
      ·skip
       have hnd : needO (Go.Gm.nth g.txs i).id (Go.Gm.nth (Go.Gm.nth g.txs i).ops j) = true ∧ p (Go.Gm.nth (Go.Gm.nth g.txs i).ops j).key = true := by
         have h6 := hc4
         unfold needO
         simp at h6
         refine ⟨by simp [h6], by simp [h6]⟩
       refine wp_skip ?_
       refine then_n ?_
       refine wp_seq ?_
       refine part_first 5 hS (by kernel_rfl)
         (cG rfl (o_load (ag := true) (sz := 3) 104 .is (by kernel_rfl) (by kernel_rfl) (by kernel_rfl) (by rfl)) r1 r1
         (cG rfl (o_move .t (by rfl)) r1 trivial
         (cG rfl (o_fieldAddr (off := 2) 105 .is (by kernel_rfl) (by rfl)) r1 r1
         (cG rfl (o_load (ag := false) (sz := 1) 105 .adr (by kernel_rfl) (by kernel_rfl) (by kernel_rfl) (by rfl)) r1 r1
         (cG rfl (o_lookupG (ek := (fun t : TxD => PV.agg (rTx t))) (z0 := zeroT) 102 Try.underlying150 (key_intG Try.underlying3) (by kernel_rfl) (fun _ _ => ⟨[_, _, _], rfl, ⟨rfl, rfl, inR0⟩, ⟨rfl, rfl⟩, ⟨rfl, sl_nil⟩, trivial⟩) .is (IsKeyOf.int .t rfl)) r2 r1
         ChainN.nil)))))
         (by kernel_rfl) (by rw [hB]; kernel_rfl) ?_
       clear hS; intro a w F hS
       obtain ⟨F, hS⟩ := hS.norm [(1, _), (2, _), (6, _), (7, _), (8, _), (12, _), (13, _), (14, _), (33, _), (34, _), (35, _), (36, _), (37, _), (38, _), (39, _), (40, _), (41, _), (42, _), (43, _), (44, _), (45, _), (46, _), (47, _), (48, _), (49, _), (50, _), (51, _), (52, _), (53, _), (54, _), (55, _), (56, _), (57, _), (58, _), (59, _), (60, _), (61, _), (62, _), (63, _), (64, _), (65, _), (66, _), (67, _), (68, _), (69, _), (70, _), (71, _), (72, _), (73, _)] [(0, _), (50, _), (101, _), (102, _), (104, _), (105, _)] ⟨rfl, rfl, rfl, rfl, rfl, rfl, rfl, rfl, rfl, rfl, rfl, rfl, rfl, rfl, rfl, rfl, rfl, rfl, rfl, rfl, rfl, rfl, rfl, rfl, rfl, rfl, rfl, rfl, rfl, rfl, rfl, rfl, rfl, rfl, rfl, rfl, rfl, rfl, rfl, rfl, rfl, rfl, rfl, rfl, rfl, rfl, rfl, rfl, rfl, trivial⟩ r6
       try dsimp only [List.map, List.drop_succ_cons, List.drop_zero, List.drop_nil, List.take_succ_cons, List.take_zero, List.take_nil, ldSF, rHist, rTx, rOrd, rVer, rInt, rOp, rBad] at hS
       rw [show (gGet (Go.Gm.nth (Go.Gm.nth g.txs i).ops j).tx es).getD zeroT = (uOf g (Go.Gm.nth (Go.Gm.nth g.txs i).ops j)) by rw [hby]; rfl] at hS
       refine part_last hS (by kernel_rfl)
         (cG rfl (o_load (ag := true) (sz := 4) 105 .is (by kernel_rfl) (by kernel_rfl) (by kernel_rfl) (by rfl)) r1 r1
         (cG rfl (o_move .t (by rfl)) r1 trivial
         (cG rfl (o_callP (judge_c (Go.Gm.nth g.txs i) (uOf g (Go.Gm.nth (Go.Gm.nth g.txs i).ops j)) (Go.Gm.nth (Go.Gm.nth g.txs i).ops j) phen (by have := uOf_len hs (Go.Gm.nth (Go.Gm.nth g.txs i).ops j); omega)) Try.func134 rfl (by kernel_rfl) (Args.four (.pagg .t) .t (.pagg .t) .t)) r4 trivial
         ChainN.nil)))
         (by kernel_rfl) (by rw [hB]; kernel_rfl) ?_
       clear hS; intro a w F hS
       obtain ⟨F, hS⟩ := hS.norm [(1, _), (2, _), (6, _), (7, _), (8, _), (12, _), (13, _), (14, _), (33, _), (34, _), (35, _), (36, _), (37, _), (38, _), (39, _), (40, _), (41, _), (42, _), (43, _), (44, _), (45, _), (46, _), (47, _), (48, _), (49, _), (50, _), (51, _), (52, _), (53, _), (54, _), (55, _), (56, _), (57, _), (58, _), (59, _), (60, _), (61, _), (62, _), (63, _), (64, _), (65, _), (66, _), (67, _), (68, _), (69, _), (70, _), (71, _), (72, _), (73, _), (74, _), (75, _), (76, _)] [(0, _), (50, _), (101, _), (102, _), (104, _), (105, _)] ⟨rfl, rfl, rfl, rfl, rfl, rfl, rfl, rfl, rfl, rfl, rfl, rfl, rfl, rfl, rfl, rfl, rfl, rfl, rfl, rfl, rfl, rfl, rfl, rfl, rfl, rfl, rfl, rfl, rfl, rfl, rfl, rfl, rfl, rfl, rfl, rfl, rfl, rfl, rfl, rfl, rfl, rfl, rfl, rfl, rfl, rfl, rfl, rfl, rfl, rfl, rfl, rfl, trivial⟩ r6
       try dsimp only [List.map, List.drop_succ_cons, List.drop_zero, List.drop_nil, List.take_succ_cons, List.take_zero, List.take_nil, ldSF, rHist, rTx, rOrd, rVer, rInt, rOp, rBad] at hS
       refine then_n ?_
       refine cond_b hS rfl (fun hc5 => ?_) (fun hc5 => ?_)
       ·skip
        have hBq : (p (Go.Gm.nth (Go.Gm.nth g.txs i).ops j).key && badB g phen (Go.Gm.nth g.txs i) (Go.Gm.nth (Go.Gm.nth g.txs i).ops j)) = true := by unfold badB; rw [hnd.1, hnd.2, hc5]; rfl
        refine region_any (by kernel_rfl) hS (by kernel_rfl)
          (cF rfl (o_move .t (by rfl)) r1 trivial
          (cF rfl (o_fieldAddr (off := 0) 104 .is (by kernel_rfl) (by rfl)) r1 r1
          (cF rfl (o_load (ag := false) (sz := 1) 104 .adr (by kernel_rfl) (by kernel_rfl) (by kernel_rfl) (by rfl)) r1 r1
          (cF rfl (o_move .t (by rfl)) r1 trivial
          (cF rfl (o_load (ag := true) (sz := 4) 105 .is (by kernel_rfl) (by kernel_rfl) (by kernel_rfl) (by rfl)) r1 r1
          (cF rfl (o_callP (opOf_c (Go.Gm.nth (Go.Gm.nth g.txs i).ops j)) Try.func95 rfl (by kernel_rfl) (Args.one (.pagg .t))) r1 trivial
          (cF rfl (o_build (r := [(0, .tmp 79), (1, .tmp 80), (2, .tmp 82)]) (zs := [.int .i64 0, .int .i64 0, .int .i64 0, .int .i64 0, .int .i64 0]) (pl := [(0, 1), (1, 1), (2, 3)]) (by kernel_rfl) (by kernel_rfl) (.one rfl .t one_int (by kernel_rfl) (.one rfl .t one_int (by kernel_rfl) (.agg rfl (.conv .t .agg) (by kernel_rfl) (by kernel_rfl) .nil))) (by rfl)) r3 trivial
          (cF rfl (o_buildSliceE (sz := 5) (zs := [.int .i64 0, .int .i64 0, .int .i64 0, .int .i64 0, .int .i64 0]) (r := [(0, .tmp 83)]) (l := [_, _, _, _, _]) Try.underlying72 (by kernel_rfl) (by kernel_rfl) (by kernel_rfl) (by kernel_rfl) rfl rfl (.agg rfl .t (by kernel_rfl) (by kernel_rfl) .nil) rfl) r1 trivial
          (cF rfl (o_append (sz := 5) (bs := 40) 50 (.mk' Try.underlying72 (by kernel_rfl) (by kernel_rfl)) (by intro x; rfl) .is (.arr (l' := [(⟨(Go.Gm.nth g.txs i).id, j, ofO (Go.Gm.nth (Go.Gm.nth g.txs i).ops j)⟩ : BadD)]) .t) (by simp only [List.length_append, List.length_cons, List.length_nil, List.length_take, List.length_drop]; omega) (by decide)) ⟨rfl, rfl, trivial⟩ ⟨rfl, trivial⟩
          (cF rfl (o_assign .t (by rfl)) r1 trivial
          Chain.nil))))))))))
          (by kernel_rfl) (by rw [hB]; kernel_rfl) ?_
        clear hS; intro a w F hS
        replace hS := hS.sub
        obtain ⟨F, hS⟩ := hS.norm [(1, _), (2, _), (6, _), (7, _), (8, _), (12, _), (13, _), (14, _), (33, _), (34, _), (35, _), (36, _), (37, _), (38, _), (39, _), (40, _), (41, _), (42, _), (43, _), (44, _), (45, _), (46, _), (47, _), (48, _), (49, _), (50, _), (51, _), (52, _), (53, _), (54, _), (55, _), (56, _), (57, _), (58, _), (59, _), (60, _), (61, _), (62, _), (63, _), (64, _), (65, _), (66, _), (67, _), (68, _), (69, _), (70, _), (71, _), (72, _), (73, _), (74, _), (75, _), (76, _), (77, _), (78, _), (79, _), (80, _), (81, _), (82, _), (83, _), (84, _), (85, _)] [(0, _), (50, _), (101, _), (102, _), (104, _), (105, _)] ⟨rfl, rfl, rfl, rfl, rfl, rfl, rfl, rfl, rfl, rfl, rfl, rfl, rfl, rfl, rfl, rfl, rfl, rfl, rfl, rfl, rfl, rfl, rfl, rfl, rfl, rfl, rfl, rfl, rfl, rfl, rfl, rfl, rfl, rfl, rfl, rfl, rfl, rfl, rfl, rfl, rfl, rfl, rfl, rfl, rfl, rfl, rfl, rfl, rfl, rfl, rfl, rfl, rfl, rfl, rfl, rfl, rfl, rfl, rfl, rfl, rfl, trivial⟩ r6
        try dsimp only [RS.sub, SF.sub, CF.sub, csub, Anc.sub, List.map, stCells, List.length_cons, List.length_nil, Nat.reduceAdd, List.drop_succ_cons, List.drop_zero, List.drop_nil, List.take_succ_cons, List.take_zero, List.take_nil, List.cons_append, List.nil_append, zCF, ldSF, rHist, rTx, rOrd, rVer, rInt, rOp, rBad] at hS
        generalize Act.tau a 85 = v85 at hS
        refine block_n ?_
        refine then_n ?_
        refine region_seq hS (by kernel_rfl)
          (cF rfl (o_add .t (.ci (by kernel_rfl))) r1 trivial
          (cF rfl (o_move .t (by rfl)) r1 trivial
          Chain.nil))
          (by kernel_rfl) (by rw [hB]; kernel_rfl) ?_
        clear hS; intro a w F hS
        obtain ⟨F, hS⟩ := hS.norm [(1, _), (2, _), (6, _), (7, _), (8, _), (12, _), (13, _), (14, _), (33, _), (34, _), (35, _), (36, _), (37, _), (38, _), (39, _), (40, _), (41, _), (42, _), (43, _), (44, _), (45, _), (46, _), (47, _), (48, _), (49, _), (50, _), (51, _), (52, _), (53, _), (54, _), (55, _), (56, _), (57, _), (58, _), (59, _), (60, _), (61, _), (62, _), (63, _), (64, _), (65, _), (66, _), (67, _), (68, _), (69, _), (70, _), (71, _), (72, _), (73, _), (74, _), (75, _), (76, _), (77, _), (78, _), (79, _), (80, _), (81, _), (82, _), (83, _), (84, _), (85, _), (86, _)] [(0, _), (50, _), (101, _), (102, _), (104, _), (105, _)] ⟨rfl, rfl, rfl, rfl, rfl, rfl, rfl, rfl, rfl, rfl, rfl, rfl, rfl, rfl, rfl, rfl, rfl, rfl, rfl, rfl, rfl, rfl, rfl, rfl, rfl, rfl, rfl, rfl, rfl, rfl, rfl, rfl, rfl, rfl, rfl, rfl, rfl, rfl, rfl, rfl, rfl, rfl, rfl, rfl, rfl, rfl, rfl, rfl, rfl, rfl, rfl, rfl, rfl, rfl, rfl, rfl, rfl, rfl, rfl, rfl, rfl, rfl, trivial⟩ r6
        try dsimp only [rHist, rTx, rOrd, rVer, rInt, rOp, rBad] at hS
        refine then_n ?_
        replace hS := hS.ent (i := 42) (s' := .pv (.int .i64 ((j + 1 : Nat) : Int))) rfl (.int (wrap_succ (by omega)))
        obtain ⟨F, hS⟩ := hS.norm [(42, _), (7, _), (1, _), (2, _), (6, _), (8, _), (12, _), (33, _), (34, _), (35, _), (36, _), (37, _), (38, _), (39, _), (40, _), (41, _)] [(50, _), (0, _), (101, _), (102, _), (104, _)] ⟨rfl, rfl, rfl, rfl, rfl, rfl, rfl, rfl, rfl, rfl, rfl, rfl, rfl, rfl, rfl, rfl, trivial⟩ ⟨rfl, rfl, rfl, rfl, rfl, trivial⟩
        exact ⟨((j + 1), _, _), F, ⟨by omega, (by rw [badsOf_step hil, ← List.append_assoc, ← hq]; first | (rw [if_pos hBq]; done) | (rw [if_neg hBq, List.append_nil]))⟩, hS, by omega⟩
       ·skip
        have hBq : ¬ (p (Go.Gm.nth (Go.Gm.nth g.txs i).ops j).key && badB g phen (Go.Gm.nth g.txs i) (Go.Gm.nth (Go.Gm.nth g.txs i).ops j)) = true := by unfold badB; rw [hnd.1, hnd.2, hc5]; simp
        refine wp_skip ?_
        refine block_n ?_
        refine then_n ?_
        refine region_seq hS (by kernel_rfl)
          (cF rfl (o_add .t (.ci (by kernel_rfl))) r1 trivial
          (cF rfl (o_move .t (by rfl)) r1 trivial
          Chain.nil))
          (by kernel_rfl) (by rw [hB]; kernel_rfl) ?_
        clear hS; intro a w F hS
        obtain ⟨F, hS⟩ := hS.norm [(1, _), (2, _), (6, _), (7, _), (8, _), (12, _), (13, _), (14, _), (33, _), (34, _), (35, _), (36, _), (37, _), (38, _), (39, _), (40, _), (41, _), (42, _), (43, _), (44, _), (45, _), (46, _), (47, _), (48, _), (49, _), (50, _), (51, _), (52, _), (53, _), (54, _), (55, _), (56, _), (57, _), (58, _), (59, _), (60, _), (61, _), (62, _), (63, _), (64, _), (65, _), (66, _), (67, _), (68, _), (69, _), (70, _), (71, _), (72, _), (73, _), (74, _), (75, _), (76, _), (86, _)] [(0, _), (50, _), (101, _), (102, _), (104, _), (105, _)] ⟨rfl, rfl, rfl, rfl, rfl, rfl, rfl, rfl, rfl, rfl, rfl, rfl, rfl, rfl, rfl, rfl, rfl, rfl, rfl, rfl, rfl, rfl, rfl, rfl, rfl, rfl, rfl, rfl, rfl, rfl, rfl, rfl, rfl, rfl, rfl, rfl, rfl, rfl, rfl, rfl, rfl, rfl, rfl, rfl, rfl, rfl, rfl, rfl, rfl, rfl, rfl, rfl, rfl, trivial⟩ r6
        try dsimp only [rHist, rTx, rOrd, rVer, rInt, rOp, rBad] at hS
        refine then_n ?_
        replace hS := hS.ent (i := 42) (s' := .pv (.int .i64 ((j + 1 : Nat) : Int))) rfl (.int (wrap_succ (by omega)))
        obtain ⟨F, hS⟩ := hS.norm [(42, _), (7, _), (1, _), (2, _), (6, _), (8, _), (12, _), (33, _), (34, _), (35, _), (36, _), (37, _), (38, _), (39, _), (40, _), (41, _)] [(50, _), (0, _), (101, _), (102, _), (104, _)] ⟨rfl, rfl, rfl, rfl, rfl, rfl, rfl, rfl, rfl, rfl, rfl, rfl, rfl, rfl, rfl, rfl, trivial⟩ ⟨rfl, rfl, rfl, rfl, rfl, trivial⟩
        exact ⟨((j + 1), _, _), F, ⟨by omega, (by rw [badsOf_step hil, ← List.append_assoc, ← hq]; first | (rw [if_pos hBq]; done) | (rw [if_neg hBq, List.append_nil]))⟩, hS, by omega⟩
     ·skip
      have hil : j = (Go.Gm.nth g.txs i).ops.length := by simp at hc3; omega
      refine wp_exit ?_
      refine then_x ?_
      refine then_x ?_
      refine block_x ?_
      refine block_n ?_
      refine then_n ?_
      refine region_seq hS (by kernel_rfl)
        (cF rfl (o_add .t (.ci (by kernel_rfl))) r1 trivial
        (cF rfl (o_move .t (by rfl)) r1 trivial
        Chain.nil))
        (by kernel_rfl) (by rw [hB]; kernel_rfl) ?_
      clear hS; intro a w F hS
      obtain ⟨F, hS⟩ := hS.norm [(1, _), (2, _), (6, _), (7, _), (8, _), (12, _), (33, _), (34, _), (35, _), (36, _), (37, _), (38, _), (39, _), (40, _), (41, _), (42, _), (43, _), (87, _)] [(0, _), (50, _), (101, _), (102, _), (104, _)] ⟨rfl, rfl, rfl, rfl, rfl, rfl, rfl, rfl, rfl, rfl, rfl, rfl, rfl, rfl, rfl, rfl, rfl, rfl, trivial⟩ r5
      try dsimp only [rHist, rTx, rOrd, rVer, rInt, rOp, rBad] at hS
      refine then_n ?_
      replace hS := hS.ent (i := 35) (s' := .pv (.int .i64 ((i + 1 : Nat) : Int))) rfl (.int (wrap_succ (by omega)))
      obtain ⟨F, hS⟩ := hS.norm [(35, _), (7, _), (1, _), (2, _), (6, _), (8, _), (33, _), (34, _)] [(50, _), (0, _), (101, _), (102, _)] ⟨rfl, rfl, rfl, rfl, rfl, rfl, rfl, rfl, trivial⟩ ⟨rfl, rfl, rfl, rfl, trivial⟩
      exact ⟨((i + 1), _, _), F, ⟨by omega, (by rw [badsG_step hio, hq, hil, List.take_length])⟩, hS, by omega⟩
    ·skip
     have hil : i = g.txs.length := by simp at hc2; omega
     refine wp_exit ?_
     refine then_x ?_
     refine then_x ?_
     refine block_x ?_
     refine then_n ?_
     refine wp_seq ?_
     refine region_seq hS (by kernel_rfl)
       (cF rfl (o_move .t (by rfl)) r1 trivial
       (cF rfl (o_assign .t (by rfl)) r1 trivial
       Chain.nil))
       (by kernel_rfl) (by rw [hB]; kernel_rfl) ?_
     clear hS; intro a w F hS
     obtain ⟨F, hS⟩ := hS.norm [(6, _)] [(0, _), (50, _), (101, _), (102, _)] r1 r4
     try dsimp only [rHist, rTx, rOrd, rVer, rInt, rOp, rBad] at hS
     refine then_n ?_
     refine wp_ret ?_
     obtain ⟨F, hS⟩ := hS.give 50 6 rfl rfl
     refine ret_P hfr hS rfl (.tmp rfl .nil) (.one (.sl (by first | exact hg | (rw [hq, hil, List.take_length]; exact hgg))))

end Go.Proofs.Ytpjjmolibanakaa
