/- The document's writers and keys. No condition beyond those that each theorem says. -/
import Derived.Test.YtpjjmolibanakaaGreatHi2
import Derived.Test.YtpjjmolibanakaaGreatTx4
namespace Go.Proofs.YtpjjmolibanakaaGreat
open Go Go.Gm
set_option linter.unusedVariables false
set_option linter.unusedSimpArgs false
set_option maxHeartbeats 4000000
set_option maxRecDepth 8000


theorem refWriters_c (g : HistD) (k : Int) (hs : SmallT g.txs) : FnP Tryz.prog 44 [.agg (rHist g), .int .i64 k] (.sl rInt (writersH g.txs k)) := by
  refine FnP.mk Tryz.func44 rfl Tryz.ntmps44 rfl ?_
  intro B a w F hB hfr hS
  have hsl := hs.1
  refine wp_seq ?_
  refine region_q hS
    (cF rfl (oX 101 (.conv .t .agg)) r1 trivial
    (cF rfl (oN (.c rfl)) trivial trivial
    Chain.nil))
    hB ?_
  clear hS; intro a w F hS
  replace hS := hS.sub
  obtain ⟨F, hS⟩ := hS.nm [4, 2, 1] [101, 0] rfl rfl
  try dsimp only [RS.sub, SF.sub, CF.sub, csub, Anc.sub, List.map, zCF, rHist, rTx, rOrd, rVer, rInt, rOp] at hS
  generalize Act.tau a 2 = v2 at hS
  refine then_n (wp_seq ?_)
  refine region_q hS
    (cF rfl (oN (.c rfl)) trivial trivial
    Chain.nil)
    hB ?_
  clear hS; intro a w F hS
  obtain ⟨F, hS⟩ := hS.nm [5, 4, 2, 1] [101, 0] rfl rfl
  try dsimp only [rHist, rTx, rOrd, rVer, rInt, rOp] at hS
  refine then_n (wp_seq (wp_seq ?_))
  refine region_q hS
    (cF rfl (oF 0 101 .is) r1 r1
    (cF rfl (oL false 1 101 .adr) r1 r1
    (cF rfl (o_len_sl Tryz.underlying22 .t) r1 trivial
    (cF rfl (oM (.ci (by kernel_rfl))) trivial trivial
    Chain.nil))))
    hB ?_
  clear hS; intro a w F hS
  obtain ⟨F, hS⟩ := hS.nm [11, 10, 9, 5, 4, 1] [101, 0] rfl rfl
  try dsimp only [List.map, xD, xE, xT, xU, ldSF, rHist, rTx, rOrd, rVer, rInt, rOp] at hS
  refine then_n (wp_block ?_)
  replace hS := hS.fresh 50 rfl
  replace hS := hS.turn 50 rfl (nilRow (T := 3) (sz := 1) (R := rInt))
  refine loop_keep (σ := (Nat) × (Value) × (List Int)) [1, 4, 9, 10] [0, 101] (fun s => [(11, .pv (.int .i64 (s.1 : Int))), (5, .pv (.is s.2.1))]) (fun s => [(50, .ob (.val s.2.1) (rowH 3 1 rInt s.2.2))]) (fun s => s.1 ≤ g.txs.length ∧ (s.2.2 = writersH (g.txs.take s.1) k)) (fun s => g.txs.length - s.1) ((0), (.slice none 0 0), ([])) hS ⟨rfl, rfl, rfl, rfl, rfl, rfl, trivial⟩ ⟨rfl, rfl, rfl, trivial⟩ ⟨Nat.zero_le _, rfl⟩ ?_
  clear hS; intro s a w F hC hS
  obtain ⟨i, v, out⟩ := s
  try dsimp only at hC
  obtain ⟨F, hS⟩ := hS.nm [11, 10, 9, 5, 4, 1] [101, 50, 0] rfl rfl
  try dsimp only at hS
  obtain ⟨hi, hq⟩ := hC
  have hol : out.length ≤ i := by rw [hq]; exact Nat.le_trans (writersH_len _ _) (by rw [List.length_take]; omega)
  have hxl := fun hil : i < g.txs.length => hs.at hil
  refine wp_seq ?_
  refine region_q hS
    (cF rfl (o_lss .t .t) r2 trivial
    Chain.nil)
    hB ?_
  clear hS; intro a w F hS
  obtain ⟨F, hS⟩ := hS.nm [12, 11, 10, 9, 5, 4, 1] [101, 50, 0] rfl rfl
  try dsimp only [rHist, rTx, rOrd, rVer, rInt, rOp] at hS
  refine then_n (wp_seq ?_)
  refine cond_b hS rfl (fun hc0 => ?_) (fun hc0 => ?_)
  ·skip
   have hil : i < g.txs.length := by simp at hc0; omega
   refine wp_skip (then_n (wp_seq (wp_block (wp_seq ?_))))
   refine region_q hS
     (cF rfl (o_indexAddr_sl (sz := 3) (.mk Tryz.underlying22 (by kernel_rfl)) (by intro x; rfl) .t .t (by omega) (by omega)) r2 trivial
     (cF rfl (oR true 3 .t) r1 trivial
     (cF rfl (oH [.int .i64 0, .bool false, .slice none 0 0] 102) trivial trivial
     (cF rfl (oA 3 102 .same .t) r2 r1
     Chain.nil))))
     hB ?_
   clear hS; intro a w F hS
   replace hS := hS.sub
   obtain ⟨F, hS⟩ := hS.nm [14, 13, 12, 11, 10, 9, 7, 5, 4, 1] [102, 101, 50, 0] rfl rfl
   try dsimp only [RS.sub, SF.sub, CF.sub, csub, Anc.sub, List.map, stCells, xL, xM, Nat.reduceAdd, xD, xE, xT, xU, xC, xN, zCF, ldSF, rHist, rTx, rOrd, rVer, rInt, rOp] at hS
   generalize Act.tau a 7 = v7 at hS
   try simp only [Int.toNat_natCast] at hS
   refine then_n (wp_seq ?_)
   refine region_q hS
     (cF rfl (oF 1 102 .is) r1 r1
     (cF rfl (oL false 1 102 .adr) r1 r1
     (cF rfl (oM .t) r1 trivial
     (Chain.cons (Cert.cond rfl rfl (fun h => o_fieldAddr (off := 2) 102 .is (by kernel_rfl) (by rfl))) r2 r1
     (Chain.cons (Cert.cond rfl rfl (fun h => o_load (ag := false) (sz := 1) 102 (.w h .adr) (by kernel_rfl) (by kernel_rfl) (by kernel_rfl) (by rfl))) r2 r1
     (Chain.cons (Cert.cond rfl rfl (fun h => o_move .t (by rfl))) r2 trivial
     (Chain.cons (Cert.cond rfl rfl (fun h => o_callP (rwrites_c (Go.Gm.nth g.txs i).ops k (by have := hxl hil; omega)) Tryz.func50 rfl (by kernel_rfl) (Args.two (.w h) (.w h)))) r3 trivial
     (Chain.cons (Cert.cond rfl rfl (fun h => o_gtr (.w h) (.ci (by kernel_rfl)))) r2 trivial
     (cF rfl (o_and2 .t .t) r2 trivial
     Chain.nil)))))))))
     hB ?_
   clear hS; intro a w F hS
   obtain ⟨F, hS⟩ := hS.nm [23, 22, 21, 20, 19, 18, 17, 16, 15, 14, 13, 12, 11, 10, 9, 7, 5, 4, 1] [102, 101, 50, 0] rfl rfl
   try dsimp only [List.map, xD, xE, xT, xU, ldSF, rHist, rTx, rOrd, rVer, rInt, rOp] at hS
   refine then_n ?_
   refine cond_b hS rfl (fun hc1 => ?_) (fun hc1 => ?_)
   ·skip
    have hBq : ((Go.Gm.nth g.txs i).done = true ∧ 0 < wcnt (Go.Gm.nth g.txs i).ops k) := by
      have h8 := hc1
      rw [Bool.and_eq_true, decide_eq_true_eq] at h8
      exact ⟨h8.1, by unfold wcnt; exact_mod_cast h8.2⟩
    refine region_q hS
      (cF rfl (oM .t) r1 trivial
      (cF rfl (oF 0 102 .is) r1 r1
      (cF rfl (oL false 1 102 .adr) r1 r1
      (cF rfl (o_buildSliceE (sz := 1) (zs := [.int .i64 0]) (r := [(0, .tmp 26)]) (l := [_]) Tryz.underlying37 (by kernel_rfl) (by kernel_rfl) (by kernel_rfl) (by kernel_rfl) rfl rfl (.one rfl .t one_int (by kernel_rfl) .nil) rfl) r1 trivial
      (cF rfl (o_append (sz := 1) (bs := 8) 50 (.mk' Tryz.underlying37 (by kernel_rfl) (by kernel_rfl)) (by intro x; rfl) .is (.arr (l' := [_]) .t) (by simp only [List.length_append, List.length_cons, List.length_nil, List.length_take, List.length_drop]; omega) (by decide)) ⟨rfl, rfl, trivial⟩ ⟨rfl, trivial⟩
      (cF rfl (oN .t) r1 trivial
      Chain.nil))))))
      hB ?_
    clear hS; intro a w F hS
    replace hS := hS.sub
    obtain ⟨F, hS⟩ := hS.nm [28, 27, 26, 25, 24, 23, 22, 21, 20, 19, 18, 17, 16, 15, 14, 13, 12, 11, 10, 9, 7, 5, 4, 1] [102, 101, 50, 0] rfl rfl
    try dsimp only [RS.sub, SF.sub, CF.sub, csub, Anc.sub, List.map, stCells, xL, xM, Nat.reduceAdd, xD, xE, xT, xU, xC, xN, zCF, ldSF, rHist, rTx, rOrd, rVer, rInt, rOp] at hS
    generalize Act.tau a 28 = v28 at hS
    refine block_n (then_n ?_)
    refine region_q hS
      (cF rfl (o_add .t (.ci (by kernel_rfl))) r1 trivial
      (cF rfl (oM .t) r1 trivial
      Chain.nil))
      hB ?_
    clear hS; intro a w F hS
    obtain ⟨F, hS⟩ := hS.nm [29, 28, 27, 26, 25, 24, 23, 22, 21, 20, 19, 18, 17, 16, 15, 14, 13, 12, 11, 10, 9, 7, 5, 4, 1] [102, 101, 50, 0] rfl rfl
    try dsimp only [rHist, rTx, rOrd, rVer, rInt, rOp] at hS
    refine then_n ?_
    replace hS := hS.ent (i := 11) (s' := .pv (.int .i64 ((i + 1 : Nat) : Int))) rfl (.int (wrap_succ (by omega)))
    obtain ⟨F, hS⟩ := hS.nm [10, 9, 4, 1, 5, 11] [101, 0, 50] rfl rfl
    exact ⟨((i + 1), _, _), F, ⟨by omega, (by rw [writersH_step hil, ← hq]; first | (rw [if_pos hBq]; done) | (rw [if_neg hBq, List.append_nil]))⟩, hS, by omega⟩
   have hBq : ¬ ((Go.Gm.nth g.txs i).done = true ∧ 0 < wcnt (Go.Gm.nth g.txs i).ops k) := by
     rintro ⟨g1, g2⟩
     have h8 := hc1
     rw [g1, Bool.true_and, decide_eq_false_iff_not] at h8
     exact h8 (by unfold wcnt at g2; exact_mod_cast g2)
   refine wp_skip (block_n (then_n ?_))
   refine region_q hS
     (cF rfl (o_add .t (.ci (by kernel_rfl))) r1 trivial
     (cF rfl (oM .t) r1 trivial
     Chain.nil))
     hB ?_
   clear hS; intro a w F hS
   obtain ⟨F, hS⟩ := hS.nm [29, 23, 22, 21, 20, 19, 18, 17, 16, 15, 14, 13, 12, 11, 10, 9, 7, 5, 4, 1] [102, 101, 50, 0] rfl rfl
   try dsimp only [rHist, rTx, rOrd, rVer, rInt, rOp] at hS
   refine then_n ?_
   replace hS := hS.ent (i := 11) (s' := .pv (.int .i64 ((i + 1 : Nat) : Int))) rfl (.int (wrap_succ (by omega)))
   obtain ⟨F, hS⟩ := hS.nm [10, 9, 4, 1, 5, 11] [101, 0, 50] rfl rfl
   exact ⟨((i + 1), _, _), F, ⟨by omega, (by rw [writersH_step hil, ← hq]; first | (rw [if_pos hBq]; done) | (rw [if_neg hBq, List.append_nil]))⟩, hS, by omega⟩
  have hil : i = g.txs.length := by simp at hc0; omega
  refine wp_exit (then_x (then_x (block_x (then_n (wp_seq ?_)))))
  refine region_q hS
    (cF rfl (oM .t) r1 trivial
    (cF rfl (oN .t) r1 trivial
    Chain.nil))
    hB ?_
  clear hS; intro a w F hS
  obtain ⟨F, hS⟩ := hS.nm [4] [101, 50, 0] rfl rfl
  try dsimp only [rHist, rTx, rOrd, rVer, rInt, rOp] at hS
  refine then_n (wp_ret ?_)
  obtain ⟨F, hS⟩ := hS.give 50 4 rfl rfl
  refine ret_P hfr hS rfl (.tmp rfl .nil) (.one (.sl (by rw [hq, hil, List.take_length])))

theorem refPut_c (l : List Int) (n : Int) (hl : l.length ≤ 1000000) : FnP Tryz.prog 87 [.sl rInt l, .int .i64 n] (.sl rInt (putI l n)) := by
  refine FnP.mk Tryz.func87 rfl Tryz.ntmps87 rfl ?_
  intro B a w F hB hfr hS
  refine wp_seq ?_
  refine region_q hS
    (cF rfl (oN (.c rfl)) trivial trivial
    Chain.nil)
    hB ?_
  clear hS; intro a w F hS
  obtain ⟨F, hS⟩ := hS.nm [4, 1, 0] [0] rfl rfl
  try dsimp only [rInt] at hS
  refine then_n (wp_seq ?_)
  refine region_q hS
    (cF rfl (oM .t) r1 trivial
    (cF rfl (oM .t) r1 trivial
    (cF rfl (oP (put10_c l n hl) Tryz.func119 (Args.two .t .t)) r2 trivial
    (cF rfl (oN .t) r1 trivial
    Chain.nil))))
    hB ?_
  clear hS; intro a w F hS
  obtain ⟨F, hS⟩ := hS.nm [4] [0] rfl rfl
  try dsimp only [rInt] at hS
  refine then_n (wp_ret ?_)
  refine ret_P hfr hS rfl (.tmp rfl .nil) (.one .refl)

theorem refKeysH_c (g : HistD) (hs : SmallT g.txs) : FnP Tryz.prog 42 [.agg (rHist g)] (.sl rInt (keysH g.txs)) := by
  refine FnP.mk Tryz.func42 rfl Tryz.ntmps42 rfl ?_
  intro B a w F hB hfr hS
  have hsl := hs.1
  refine wp_seq ?_
  refine region_q hS
    (cF rfl (oX 101 (.conv .t .agg)) r1 trivial
    (cF rfl (oN (.c rfl)) trivial trivial
    Chain.nil))
    hB ?_
  clear hS; intro a w F hS
  replace hS := hS.sub
  obtain ⟨F, hS⟩ := hS.nm [2, 1] [101, 0] rfl rfl
  try dsimp only [RS.sub, SF.sub, CF.sub, csub, Anc.sub, List.map, zCF, rHist, rTx, rOrd, rVer, rInt, rOp] at hS
  generalize Act.tau a 1 = v1 at hS
  refine then_n (wp_seq ?_)
  refine region_q hS
    (cF rfl (oN (.c rfl)) trivial trivial
    Chain.nil)
    hB ?_
  clear hS; intro a w F hS
  obtain ⟨F, hS⟩ := hS.nm [3, 2, 1] [101, 0] rfl rfl
  try dsimp only [rHist, rTx, rOrd, rVer, rInt, rOp] at hS
  refine then_n (wp_seq (wp_seq ?_))
  refine region_q hS
    (cF rfl (oF 0 101 .is) r1 r1
    (cF rfl (oL false 1 101 .adr) r1 r1
    (cF rfl (o_len_sl Tryz.underlying22 .t) r1 trivial
    (cF rfl (oM (.ci (by kernel_rfl))) trivial trivial
    Chain.nil))))
    hB ?_
  clear hS; intro a w F hS
  obtain ⟨F, hS⟩ := hS.nm [11, 10, 9, 3, 2] [101, 0] rfl rfl
  try dsimp only [List.map, xD, xE, xT, xU, ldSF, rHist, rTx, rOrd, rVer, rInt, rOp] at hS
  refine then_n (wp_block ?_)
  replace hS := hS.ent (i := 3) (s' := .pv (.sl rInt (keysH (g.txs.take 0)))) rfl (.nilSl)
  refine loop_keep (σ := (Nat)) [2, 9, 10] [0, 101] (fun s => [(11, .pv (.int .i64 (s : Int))), (3, .pv (.sl rInt (keysH (g.txs.take s))))]) (fun s => []) (fun s => s ≤ g.txs.length ∧ (True)) (fun s => g.txs.length - s) (0) hS ⟨rfl, rfl, rfl, rfl, rfl, trivial⟩ ⟨rfl, rfl, trivial⟩ ⟨Nat.zero_le _, trivial⟩ ?_
  clear hS; intro i a w F hC hS
  try dsimp only at hC
  obtain ⟨F, hS⟩ := hS.nm [11, 10, 9, 3, 2] [101, 0] rfl rfl
  try dsimp only at hS
  obtain ⟨hi, hq⟩ := hC
  have hxl := fun hil : i < g.txs.length => hs.at hil
  have hkl : (keysH (g.txs.take i)).length ≤ 1000 * i := keysH_le hs i
  refine wp_seq ?_
  refine region_q hS
    (cF rfl (o_lss .t .t) r2 trivial
    Chain.nil)
    hB ?_
  clear hS; intro a w F hS
  obtain ⟨F, hS⟩ := hS.nm [12, 11, 10, 9, 3, 2] [101, 0] rfl rfl
  try dsimp only [rHist, rTx, rOrd, rVer, rInt, rOp] at hS
  refine then_n (wp_seq ?_)
  refine cond_b hS rfl (fun hc0 => ?_) (fun hc0 => ?_)
  ·skip
   have hil : i < g.txs.length := by simp at hc0; omega
   have hio := hil
   have htl := hxl hil
   have hkt := keysT_len (Go.Gm.nth g.txs i)
   have hsl := hs.1
   refine wp_skip (then_n (wp_seq (wp_block (wp_seq ?_))))
   refine region_q hS
     (cF rfl (o_indexAddr_sl (sz := 3) (.mk Tryz.underlying22 (by kernel_rfl)) (by intro x; rfl) .t .t (by omega) (by omega)) r2 trivial
     (cF rfl (oR true 3 .t) r1 trivial
     (cF rfl (oH [.int .i64 0, .bool false, .slice none 0 0] 102) trivial trivial
     (cF rfl (oA 3 102 .same .t) r2 r1
     Chain.nil))))
     hB ?_
   clear hS; intro a w F hS
   replace hS := hS.sub
   obtain ⟨F, hS⟩ := hS.nm [14, 13, 12, 11, 10, 9, 5, 3, 2] [102, 101, 0] rfl rfl
   try dsimp only [RS.sub, SF.sub, CF.sub, csub, Anc.sub, List.map, stCells, xL, xM, Nat.reduceAdd, xD, xE, xT, xU, xC, xN, zCF, ldSF, rHist, rTx, rOrd, rVer, rInt, rOp] at hS
   generalize Act.tau a 5 = v5 at hS
   try simp only [Int.toNat_natCast] at hS
   refine then_n (wp_seq ?_)
   refine region_q hS
     (cF rfl (oF 1 102 .is) r1 r1
     (cF rfl (oL false 1 102 .adr) r1 r1
     Chain.nil))
     hB ?_
   clear hS; intro a w F hS
   obtain ⟨F, hS⟩ := hS.nm [16, 15, 14, 13, 12, 11, 10, 9, 5, 3, 2] [102, 101, 0] rfl rfl
   try dsimp only [List.map, xD, xE, xT, xU, ldSF, rHist, rTx, rOrd, rVer, rInt, rOp] at hS
   refine then_n ?_
   refine cond_b hS rfl (fun hc1 => ?_) (fun hc1 => ?_)
   ·skip
    have hdn : (Go.Gm.nth g.txs i).done = true := hc1
    refine wp_seq ?_
    refine region_q hS
      (cF rfl (oL true 3 102 .is) r1 r1
      (cF rfl (oP (rkeys_c (Go.Gm.nth g.txs i) false (by have := hxl hil; omega)) Tryz.func86 (Args.two (.pagg .t) .cb)) r1 trivial
      (cF rfl (o_len_sl Tryz.underlying37 .t) r1 trivial
      (cF rfl (oM (.ci (by kernel_rfl))) trivial trivial
      Chain.nil))))
      hB ?_
    clear hS; intro a w F hS
    obtain ⟨F, hS⟩ := hS.nm [20, 19, 18, 17, 16, 15, 14, 13, 12, 11, 10, 9, 5, 3, 2] [102, 101, 0] rfl rfl
    try dsimp only [List.map, xD, xE, xT, xU, ldSF, rHist, rTx, rOrd, rVer, rInt, rOp] at hS
    rw [show keysL (((Go.Gm.nth g.txs i).ops.filter fun o => false || !o.read).map OpD.key) = keysT (Go.Gm.nth g.txs i) from rfl] at hS
    refine then_n (wp_block ?_)
    replace hS := hS.ent (i := 3) (s' := .pv (.sl rInt (((keysT (Go.Gm.nth g.txs i)).take 0).foldl putI (keysH (g.txs.take i))))) rfl (.refl)
    refine loop_keep (σ := (Nat)) [2, 5, 9, 10, 11, 12, 13, 14, 15, 16, 17, 18, 19] [0, 101, 102] (fun s => [(20, .pv (.int .i64 (s : Int))), (3, .pv (.sl rInt (((keysT (Go.Gm.nth g.txs i)).take s).foldl putI (keysH (g.txs.take i)))))]) (fun s => []) (fun s => s ≤ (keysT (Go.Gm.nth g.txs i)).length ∧ (True)) (fun s => (keysT (Go.Gm.nth g.txs i)).length - s) (0) hS ⟨rfl, rfl, rfl, rfl, rfl, rfl, rfl, rfl, rfl, rfl, rfl, rfl, rfl, rfl, rfl, trivial⟩ ⟨rfl, rfl, rfl, trivial⟩ ⟨Nat.zero_le _, trivial⟩ ?_
    clear hS; intro j a w F hC hS
    try dsimp only at hC
    obtain ⟨F, hS⟩ := hS.nm [20, 19, 18, 17, 16, 15, 14, 13, 12, 11, 10, 9, 5, 3, 2] [102, 101, 0] rfl rfl
    try dsimp only at hS
    obtain ⟨hi, hq⟩ := hC
    have hjb := keysF_len (keysH (g.txs.take i)) ((keysT (Go.Gm.nth g.txs i)).take j)
    rw [List.length_take] at hjb
    refine wp_seq ?_
    refine region_q hS
      (cF rfl (o_lss .t .t) r2 trivial
      Chain.nil)
      hB ?_
    clear hS; intro a w F hS
    obtain ⟨F, hS⟩ := hS.nm [21, 20, 19, 18, 17, 16, 15, 14, 13, 12, 11, 10, 9, 5, 3, 2] [102, 101, 0] rfl rfl
    try dsimp only [rHist, rTx, rOrd, rVer, rInt, rOp] at hS
    refine then_n (wp_seq ?_)
    refine cond_b hS rfl (fun hc2 => ?_) (fun hc2 => ?_)
    ·skip
     have hil : j < (keysT (Go.Gm.nth g.txs i)).length := by simp at hc2; omega
     refine wp_skip (then_n (wp_seq (wp_block (wp_seq ?_))))
     refine region_q hS
       (cF rfl (o_indexAddr_sl (sz := 1) (.mk Tryz.underlying37 (by kernel_rfl)) (by intro x; rfl) .t .t (by omega) (by omega)) r2 trivial
       (cF rfl (oR false 1 .t) r1 trivial
       (cF rfl (oN .t) r1 trivial
       Chain.nil)))
       hB ?_
     clear hS; intro a w F hS
     obtain ⟨F, hS⟩ := hS.nm [23, 22, 21, 20, 19, 18, 17, 16, 15, 14, 13, 12, 11, 10, 9, 7, 5, 3, 2] [102, 101, 0] rfl rfl
     try dsimp only [List.map, xD, xE, xT, xU, ldSF, rHist, rTx, rOrd, rVer, rInt, rOp] at hS
     try simp only [Int.toNat_natCast] at hS
     refine then_n ?_
     refine region_q hS
       (cF rfl (oM .t) r1 trivial
       (cF rfl (oM .t) r1 trivial
       (cF rfl (oP (refPut_c (((keysT (Go.Gm.nth g.txs i)).take j).foldl putI (keysH (g.txs.take i))) _ (by omega)) Tryz.func87 (Args.two .t .t)) r2 trivial
       (cF rfl (oN .t) r1 trivial
       Chain.nil))))
       hB ?_
     clear hS; intro a w F hS
     obtain ⟨F, hS⟩ := hS.nm [26, 25, 24, 23, 22, 21, 20, 19, 18, 17, 16, 15, 14, 13, 12, 11, 10, 9, 7, 5, 3, 2] [102, 101, 0] rfl rfl
     try dsimp only [rHist, rTx, rOrd, rVer, rInt, rOp] at hS
     refine block_n (then_n ?_)
     refine region_q hS
       (cF rfl (o_add .t (.ci (by kernel_rfl))) r1 trivial
       (cF rfl (oM .t) r1 trivial
       Chain.nil))
       hB ?_
     clear hS; intro a w F hS
     obtain ⟨F, hS⟩ := hS.nm [27, 26, 25, 24, 23, 22, 21, 20, 19, 18, 17, 16, 15, 14, 13, 12, 11, 10, 9, 7, 5, 3, 2] [102, 101, 0] rfl rfl
     try dsimp only [rHist, rTx, rOrd, rVer, rInt, rOp] at hS
     refine then_n ?_
     replace hS := hS.ent (i := 20) (s' := .pv (.int .i64 ((j + 1 : Nat) : Int))) rfl (.int (wrap_succ (by omega)))
     replace hS := hS.ent (i := 3) (s' := .pv (.sl rInt (((keysT (Go.Gm.nth g.txs i)).take (j + 1)).foldl putI (keysH (g.txs.take i))))) rfl ((.sl (by rw [take_nth hil, List.foldl_append]; rfl)))
     obtain ⟨F, hS⟩ := hS.nm [19, 18, 17, 16, 15, 14, 13, 12, 11, 10, 9, 5, 2, 3, 20] [102, 101, 0] rfl rfl
     exact ⟨(j + 1), F, ⟨by omega, trivial⟩, hS, by omega⟩
    have hil : j = (keysT (Go.Gm.nth g.txs i)).length := by simp at hc2; omega
    replace hS := hS.ent (i := 3) (s' := .pv (.sl rInt (keysH (g.txs.take (i + 1))))) rfl (.sl (by rw [keysH_step hio, if_pos hdn, hil, List.take_length]))
    refine wp_exit (then_x (then_x (block_x (block_n (then_n ?_)))))
    refine region_q hS
      (cF rfl (o_add .t (.ci (by kernel_rfl))) r1 trivial
      (cF rfl (oM .t) r1 trivial
      Chain.nil))
      hB ?_
    clear hS; intro a w F hS
    obtain ⟨F, hS⟩ := hS.nm [28, 21, 20, 19, 18, 17, 16, 15, 14, 13, 12, 11, 10, 9, 5, 3, 2] [102, 101, 0] rfl rfl
    try dsimp only [rHist, rTx, rOrd, rVer, rInt, rOp] at hS
    refine then_n ?_
    replace hS := hS.ent (i := 11) (s' := .pv (.int .i64 ((i + 1 : Nat) : Int))) rfl (.int (wrap_succ (by omega)))
    obtain ⟨F, hS⟩ := hS.nm [10, 9, 2, 3, 11] [101, 0] rfl rfl
    exact ⟨(i + 1), F, ⟨by omega, trivial⟩, hS, by omega⟩
   have hdn : ¬ (Go.Gm.nth g.txs i).done = true := by rw [hc1]; simp
   replace hS := hS.ent (i := 3) (s' := .pv (.sl rInt (keysH (g.txs.take (i + 1))))) rfl (.sl (by rw [keysH_step hio, if_neg hdn]))
   refine wp_skip (block_n (then_n ?_))
   refine region_q hS
     (cF rfl (o_add .t (.ci (by kernel_rfl))) r1 trivial
     (cF rfl (oM .t) r1 trivial
     Chain.nil))
     hB ?_
   clear hS; intro a w F hS
   obtain ⟨F, hS⟩ := hS.nm [28, 16, 15, 14, 13, 12, 11, 10, 9, 5, 3, 2] [102, 101, 0] rfl rfl
   try dsimp only [rHist, rTx, rOrd, rVer, rInt, rOp] at hS
   refine then_n ?_
   replace hS := hS.ent (i := 11) (s' := .pv (.int .i64 ((i + 1 : Nat) : Int))) rfl (.int (wrap_succ (by omega)))
   obtain ⟨F, hS⟩ := hS.nm [10, 9, 2, 3, 11] [101, 0] rfl rfl
   exact ⟨(i + 1), F, ⟨by omega, trivial⟩, hS, by omega⟩
  have hil : i = g.txs.length := by simp at hc0; omega
  refine wp_exit (then_x (then_x (block_x (then_n (wp_seq ?_)))))
  refine region_q hS
    (cF rfl (oM .t) r1 trivial
    (cF rfl (oN .t) r1 trivial
    Chain.nil))
    hB ?_
  clear hS; intro a w F hS
  obtain ⟨F, hS⟩ := hS.nm [2] [101, 0] rfl rfl
  try dsimp only [rHist, rTx, rOrd, rVer, rInt, rOp] at hS
  refine then_n (wp_ret ?_)
  refine ret_P hfr hS rfl (.tmp rfl .nil) (.one (.sl (by rw [hil, List.take_length])))

end Go.Proofs.YtpjjmolibanakaaGreat
