/- Right histories. No condition beyond those that each theorem says. -/
import Derived.Test.YtpnaolljmhhdbaaHi4
import Derived.Test.YtpnaolljmhhdbaaHi5
namespace Go.Proofs.Ytpnaolljmhhdbaa
open Go Go.Gm
set_option linter.unusedVariables false
set_option linter.unusedSimpArgs false
set_option maxHeartbeats 4000000
set_option maxRecDepth 8000

theorem rightH_c (g : HistD) (hs : Small g) : FnP Try.prog 17 [.agg (rHist g)] (.bool (decide (RightH g))) := by
  refine FnP.mk Try.func17 rfl Try.ntmps17 rfl ?_
  intro B a w F hB hfr hS
  have hsl := hs.1.1
  have hso := hs.2.1
  refine wp_seq ?_
  refine region_q hS
    (cF rfl (oX 101 (.conv .t .agg)) r1 trivial
    (cF rfl (oN .cb) trivial trivial
    Chain.nil))
    hB ?_
  clear hS; intro a w F hS
  replace hS := hS.sub
  obtain ⟨F, hS⟩ := hS.nm [2, 1] [101, 0] rfl rfl
  try dsimp only [RS.sub, SF.sub, CF.sub, csub, Anc.sub, List.map, zCF, rHist, rTx, rOrd, rVer, rInt, rOp] at hS
  generalize Act.tau a 1 = v1 at hS
  refine then_n (wp_seq (wp_seq ?_))
  refine region_q hS
    (cF rfl (oF 0 101 .is) r1 r1
    (cF rfl (oL false 1 101 .adr) r1 r1
    (cF rfl (o_len_sl Try.underlying39 .t) r1 trivial
    (cF rfl (o_gtr .t (.ci (by kernel_rfl))) r1 trivial
    Chain.nil))))
    hB ?_
  clear hS; intro a w F hS
  obtain ⟨F, hS⟩ := hS.nm [11, 2, 1] [101, 0] rfl rfl
  try dsimp only [List.map, xD, xE, xT, xU, ldSF, rHist, rTx, rOrd, rVer, rInt, rOp] at hS
  refine then_n ?_
  refine cond_b hS rfl (fun hc0 => ?_) (fun hc0 => ?_)
  ·skip
   have hg := right_bad_long (h := g) (by simp at hc0; omega)
   refine wp_seq ?_
   refine region_q hS
     (cF rfl (oN .cb) trivial trivial
     Chain.nil)
     hB ?_
   clear hS; intro a w F hS
   obtain ⟨F, hS⟩ := hS.nm [2, 1] [101, 0] rfl rfl
   try dsimp only [rHist, rTx, rOrd, rVer, rInt, rOp] at hS
   refine then_n (wp_ret (then_r ?_))
   refine ret_P hfr hS rfl (.tmp rfl .nil) (.one (.bool hg))
  have hlong : g.txs.length ≤ 4096 := by simp at hc0; omega
  refine wp_skip (then_n (wp_seq (wp_seq ?_)))
  refine region_q hS
    (cF rfl (oF 0 101 .is) r1 r1
    (cF rfl (oL false 1 101 .adr) r1 r1
    (cF rfl (o_len_sl Try.underlying39 .t) r1 trivial
    (cF rfl (oM (.ci (by kernel_rfl))) trivial trivial
    Chain.nil))))
    hB ?_
  clear hS; intro a w F hS
  obtain ⟨F, hS⟩ := hS.nm [15, 14, 13, 2, 1] [101, 0] rfl rfl
  try dsimp only [List.map, xD, xE, xT, xU, ldSF, rHist, rTx, rOrd, rVer, rInt, rOp] at hS
  refine then_n (wp_block ?_)
  refine loop_keep (σ := (Nat)) [1, 2, 13, 14] [0, 101] (fun s => [(15, .pv (.int .i64 (s : Int)))]) (fun s => []) (fun s => s ≤ g.txs.length ∧ (∀ k, k < s → TxOk g k)) (fun s => g.txs.length - s) (0) hS ⟨rfl, rfl, rfl, rfl, rfl, trivial⟩ ⟨rfl, rfl, trivial⟩ ⟨Nat.zero_le _, fun k hk => absurd hk (Nat.not_lt_zero k)⟩ ?_
  clear hS; intro i a w F hC hS
  try dsimp only at hC
  obtain ⟨F, hS⟩ := hS.nm [15, 14, 13, 2, 1] [101, 0] rfl rfl
  try dsimp only at hS
  obtain ⟨hi, hq⟩ := hC
  have hxl := fun hil : i < g.txs.length => hs.1.at hil
  have hiw : 0 < i → IntKind.wrap .i64 ((i : Int) - 1) = ((i - 1 : Nat) : Int) := fun h0 => by rw [wrap_i64 (by omega)]; omega
  refine wp_seq ?_
  refine region_q hS
    (cF rfl (o_lss .t .t) r2 trivial
    Chain.nil)
    hB ?_
  clear hS; intro a w F hS
  obtain ⟨F, hS⟩ := hS.nm [16, 15, 14, 13, 2, 1] [101, 0] rfl rfl
  try dsimp only [rHist, rTx, rOrd, rVer, rInt, rOp] at hS
  refine then_n (wp_seq ?_)
  refine cond_b hS rfl (fun hc1 => ?_) (fun hc1 => ?_)
  ·skip
   have hil : i < g.txs.length := by simp at hc1; omega
   refine wp_skip (then_n (wp_seq (wp_block (wp_seq ?_))))
   refine region_q hS
     (cF rfl (oM .t) r1 trivial
     (cF rfl (o_indexAddr_sl (sz := 3) (.mk Try.underlying39 (by kernel_rfl)) (by intro x; rfl) .t .t (by omega) (by omega)) r2 trivial
     (cF rfl (oR true 3 .t) r1 trivial
     (cF rfl (oH [.int .i64 0, .bool false, .slice none 0 0] 102) trivial trivial
     (cF rfl (oN .t) r1 trivial
     (cF rfl (oA 3 102 .same .t) r2 r1
     Chain.nil))))))
     hB ?_
   clear hS; intro a w F hS
   replace hS := hS.sub
   obtain ⟨F, hS⟩ := hS.nm [19, 18, 17, 16, 15, 14, 13, 4, 3, 2, 1] [102, 101, 0] rfl rfl
   try dsimp only [RS.sub, SF.sub, CF.sub, csub, Anc.sub, List.map, stCells, xL, xM, Nat.reduceAdd, xD, xE, xT, xU, xC, xN, zCF, ldSF, rHist, rTx, rOrd, rVer, rInt, rOp] at hS
   generalize Act.tau a 4 = v4 at hS
   try simp only [Int.toNat_natCast] at hS
   refine then_n (wp_seq ?_)
   refine region_any (by kernel_rfl) hS (by kernel_rfl)
     (cF rfl (oM .t) r1 trivial
     (cF rfl (o_gtr .t (.ci (by kernel_rfl))) r1 trivial
     (cF rfl (oM .t) r1 trivial
     (Chain.cons (Cert.cond rfl rfl (fun h => o_fieldAddr (off := 0) 101 .is (by kernel_rfl) (by rfl))) r2 r1
     (Chain.cons (Cert.cond rfl rfl (fun h => o_load (ag := false) (sz := 1) 101 (.w h .adr) (by kernel_rfl) (by kernel_rfl) (by kernel_rfl) (by rfl))) r2 r1
     (Chain.cons (Cert.cond rfl rfl (fun h => o_move .t (by rfl))) r2 trivial
     (Chain.cons (Cert.cond rfl rfl (fun h => o_sub (.w h) (.ci (by kernel_rfl)))) r2 trivial
     (Chain.cons (Cert.cond rfl rfl (fun h => o_indexAddr_sl (sz := 3) (.mk Try.underlying39 (by kernel_rfl)) (by intro x; rfl) (.w h) (.w h) (by rw [hiw (by simpa using h)]; omega) (by rw [hiw (by simpa using h)]; omega))) r3 trivial
     (Chain.cons (Cert.cond rfl rfl (fun h => o_fieldAddr_ref (off := 0) (.w h) (by kernel_rfl))) r2 trivial
     (Chain.cons (Cert.cond rfl rfl (fun h => o_load_ref (ag := false) (sz := 1) (.w h) (by kernel_rfl) (by kernel_rfl) (by kernel_rfl))) r2 trivial
     (Chain.cons (Cert.cond rfl rfl (fun h => o_fieldAddr (off := 0) 102 .is (by kernel_rfl) (by rfl))) r2 r1
     (Chain.cons (Cert.cond rfl rfl (fun h => o_load (ag := false) (sz := 1) 102 (.w h .adr) (by kernel_rfl) (by kernel_rfl) (by kernel_rfl) (by rfl))) r2 r1
     (Chain.cons (Cert.cond rfl rfl (fun h => o_geq (.w h) (.w h))) r3 trivial
     (cF rfl (o_and2 .t .t) r2 trivial
     (cF rfl (oM .t) r1 trivial
     (Chain.cons (Cert.cond rfl rfl (fun h => o_load (ag := true) (sz := 3) 102 .is (by kernel_rfl) (by kernel_rfl) (by kernel_rfl) (by rfl))) r2 r1
     (Chain.cons (Cert.cond rfl rfl (fun h => o_callP (txRight_c (Go.Gm.nth g.txs i)) Try.func37 rfl (by kernel_rfl) (Args.one (.pagg (.w h))))) r2 trivial
     (Chain.cons (Cert.cond rfl rfl (fun h => o_neq (.w h) (.ci (by kernel_rfl)))) r2 trivial
     (cF rfl (o_or2 .t .t) r2 trivial
     (cF rfl (oM .t) r1 trivial
     (Chain.cons (Cert.cond rfl rfl (fun h => o_load (ag := true) (sz := 2) 101 .is (by kernel_rfl) (by kernel_rfl) (by kernel_rfl) (by rfl))) r2 r1
     (Chain.cons (Cert.cond rfl rfl (fun h => o_load (ag := true) (sz := 3) 102 .is (by kernel_rfl) (by kernel_rfl) (by kernel_rfl) (by rfl))) r2 r1
     (Chain.cons (Cert.cond rfl rfl (fun h => o_callP (needed_c g (Go.Gm.nth g.txs i) hs.1 (by have := hxl hil; omega)) Try.func38 rfl (by kernel_rfl) (Args.two (.pagg (.w h)) (.pagg (.w h))))) r3 trivial
     (Chain.cons (Cert.cond rfl rfl (fun h => o_not (.w h))) r2 trivial
     (cF rfl (o_or2 .t .t) r2 trivial
     Chain.nil)))))))))))))))))))))))))
     (by kernel_rfl) (by rw [hB]; kernel_rfl) ?_
   clear hS; intro a w F hS
   obtain ⟨F, hS⟩ := hS.nm [44, 43, 42, 41, 40, 39, 38, 37, 36, 35, 34, 33, 32, 31, 30, 29, 28, 27, 26, 25, 24, 23, 22, 21, 20, 19, 18, 17, 16, 15, 14, 13, 4, 3, 2, 1] [102, 101, 0] rfl rfl
   try dsimp only [List.map, xD, xE, xT, xU, ldSF, rHist, rTx, rOrd, rVer, rInt, rOp] at hS
   try simp only [Int.toNat_natCast] at hS
   refine then_n ?_
   refine cond_b hS rfl (fun hc2 => ?_) (fun hc2 => ?_)
   ·skip
    have hbad : ¬ TxOk g i := by
      rintro ⟨g1, g2, g3⟩
      have h9 := hc2
      by_cases hi0 : 0 < i
      · rw [hiw hi0, Int.toNat_natCast] at h9
        have := g1 hi0
        simp [g2, g3] at h9
        omega
      · have hi1 : i = 0 := by omega
        subst hi1
        simp [g2, g3] at h9
    have hg := right_bad_tx hil hbad
    refine wp_seq ?_
    refine region_q hS
      (cF rfl (oN .cb) trivial trivial
      Chain.nil)
      hB ?_
    clear hS; intro a w F hS
    obtain ⟨F, hS⟩ := hS.nm [44, 43, 42, 41, 40, 39, 38, 37, 36, 35, 34, 33, 32, 31, 30, 29, 28, 27, 26, 25, 24, 23, 22, 21, 20, 19, 18, 17, 16, 15, 14, 13, 4, 3, 2, 1] [102, 101, 0] rfl rfl
    try dsimp only [rHist, rTx, rOrd, rVer, rInt, rOp] at hS
    refine then_n (wp_ret (block_r (then_r (then_r (block_r (then_r ?_))))))
    refine ret_P hfr hS rfl (.tmp rfl .nil) (.one (.bool hg))
   have hgood : TxOk g i := by
     have h9 := hc2
     by_cases hi0 : 0 < i
     · rw [hiw hi0, Int.toNat_natCast] at h9
       simp at h9
       exact ⟨fun _ => by omega, by omega, h9.2⟩
     · have hi1 : i = 0 := by omega
       subst hi1
       simp at h9
       exact ⟨fun h0 => absurd h0 (Nat.lt_irrefl 0), h9.1, h9.2⟩
   refine wp_skip (block_n (then_n ?_))
   refine region_q hS
     (cF rfl (o_add .t (.ci (by kernel_rfl))) r1 trivial
     (cF rfl (oM .t) r1 trivial
     Chain.nil))
     hB ?_
   clear hS; intro a w F hS
   obtain ⟨F, hS⟩ := hS.nm [45, 44, 43, 42, 41, 40, 39, 38, 37, 36, 35, 34, 33, 32, 31, 30, 29, 28, 27, 26, 25, 24, 23, 22, 21, 20, 19, 18, 17, 16, 15, 14, 13, 4, 3, 2, 1] [102, 101, 0] rfl rfl
   try dsimp only [rHist, rTx, rOrd, rVer, rInt, rOp] at hS
   refine then_n ?_
   replace hS := hS.ent (i := 15) (s' := .pv (.int .i64 ((i + 1 : Nat) : Int))) rfl (.int (wrap_succ (by omega)))
   obtain ⟨F, hS⟩ := hS.nm [14, 13, 2, 1, 15] [101, 0] rfl rfl
   exact ⟨(i + 1), F, ⟨by omega, (fun k hk => by rcases Nat.lt_or_eq_of_le (Nat.le_of_lt_succ hk) with h9 | h9; exact hq k h9; rw [h9]; exact hgood)⟩, hS, by omega⟩
  have hil : i = g.txs.length := by simp at hc1; omega
  have hall : ∀ k, k < g.txs.length → TxOk g k := by rw [← hil]; exact hq
  have hkn := keysH_len hs.1
  refine wp_exit (then_x (then_x (block_x (then_n (wp_seq ?_)))))
  replace hS := hS.fresh 103 rfl
  refine region_q hS
    (cF rfl (oL true 2 101 .is) r1 r1
    (cF rfl (o_callN 103 (writers_c g hs.1) Try.func39 rfl (by kernel_rfl) (Args.one (.pagg .t)) pvOne1) r1 r1
    (cF rfl (oN .t) r1 trivial
    Chain.nil)))
    hB ?_
  clear hS; intro a w F hS
  replace hS := hS.sub
  obtain ⟨F, hS⟩ := hS.nm [5, 2, 1] [103, 101, 0] rfl rfl
  try dsimp only [RS.sub, SF.sub, CF.sub, csub, Anc.sub, List.map, xD, xE, xT, xU, ldSF, rHist, rTx, rOrd, rVer, rInt, rOp] at hS
  generalize Act.tau a 47 = v47 at hS
  replace hS := hS.turn 103 rfl (r' := RS.hp (HP.ex fun s : List (GE Int (List Int)) × Nat => HP.and (WrL s.1 g.txs) (mapG (fun l : List Int => PV.sl rInt l) (fun _ => True) (fun n : Int => Value.int .i64 n) s.1 s.2 v47))) (fun _ _ _ _ h => h)
  obtain ⟨sm, hS⟩ := hS.open_ex 103 rfl
  obtain ⟨hwm, hS⟩ := hS.open_and 103 rfl
  obtain ⟨es, ck⟩ := sm
  try dsimp only at hwm hS
  replace hS := hS.turn 103 rfl (r' := .ob (.val v47) (mapG (fun l : List Int => PV.sl rInt l) (fun _ => True) (fun n : Int => Value.int .i64 n) es ck)) (fun _ _ _ _ h => h)
  have hgw := wr_get hwm
  have hml := wr_len hwm
  obtain ⟨F, hS⟩ := hS.nm [5, 2, 1] [103, 101, 0] rfl rfl
  refine then_n (wp_seq (wp_seq ?_))
  refine region_q hS
    (cF rfl (oM .t) r1 trivial
    (cF rfl (o_len_mapG 103 Try.underlying83 .is (by omega)) r1 r1
    (cF rfl (oF 1 101 .is) r1 r1
    (cF rfl (oL false 1 101 .adr) r1 r1
    (cF rfl (o_len_sl Try.underlying40 .t) r1 trivial
    (cF rfl (o_neq .t .t) r2 trivial
    Chain.nil))))))
    hB ?_
  clear hS; intro a w F hS
  obtain ⟨F, hS⟩ := hS.nm [53, 5, 2, 1] [103, 101, 0] rfl rfl
  try dsimp only [List.map, xD, xE, xT, xU, ldSF, rHist, rTx, rOrd, rVer, rInt, rOp] at hS
  refine then_n ?_
  refine cond_b hS rfl (fun hc3 => ?_) (fun hc3 => ?_)
  ·skip
   have hg := right_bad_len (h := g) (by simp at hc3; omega)
   refine wp_seq ?_
   refine region_q hS
     (cF rfl (oN .cb) trivial trivial
     Chain.nil)
     hB ?_
   clear hS; intro a w F hS
   obtain ⟨F, hS⟩ := hS.nm [5, 2, 1] [103, 101, 0] rfl rfl
   try dsimp only [rHist, rTx, rOrd, rVer, rInt, rOp] at hS
   refine then_n (wp_ret (then_r ?_))
   refine ret_P hfr hS rfl (.tmp rfl .nil) (.one (.bool hg))
  have hle : g.orders.length = (keysH g.txs).length := by simp at hc3; omega
  refine wp_skip (then_n (wp_seq (wp_seq ?_)))
  refine region_q hS
    (cF rfl (oF 1 101 .is) r1 r1
    (cF rfl (oL false 1 101 .adr) r1 r1
    (cF rfl (o_len_sl Try.underlying40 .t) r1 trivial
    (cF rfl (oM (.ci (by kernel_rfl))) trivial trivial
    Chain.nil))))
    hB ?_
  clear hS; intro a w F hS
  obtain ⟨F, hS⟩ := hS.nm [57, 56, 55, 5, 2, 1] [103, 101, 0] rfl rfl
  try dsimp only [List.map, xD, xE, xT, xU, ldSF, rHist, rTx, rOrd, rVer, rInt, rOp] at hS
  refine then_n (wp_block ?_)
  refine loop_keep (σ := (Nat)) [1, 2, 5, 55, 56] [0, 101, 103] (fun s => [(57, .pv (.int .i64 (s : Int)))]) (fun s => []) (fun s => s ≤ g.orders.length ∧ (∀ k, k < s → OrdOk2 g k)) (fun s => g.orders.length - s) (0) hS ⟨rfl, rfl, rfl, rfl, rfl, rfl, trivial⟩ ⟨rfl, rfl, rfl, trivial⟩ ⟨Nat.zero_le _, fun k hk => absurd hk (Nat.not_lt_zero k)⟩ ?_
  clear hS; intro i a w F hC hS
  try dsimp only at hC
  obtain ⟨F, hS⟩ := hS.nm [57, 56, 55, 5, 2, 1] [103, 101, 0] rfl rfl
  try dsimp only at hS
  obtain ⟨hi, hq⟩ := hC
  have hol := fun hil : i < g.orders.length => hs.2.at hil
  have hwl := fun k => writersH_len g.txs k
  have hiw : 0 < i → IntKind.wrap .i64 ((i : Int) - 1) = ((i - 1 : Nat) : Int) := fun h0 => by rw [wrap_i64 (by omega)]; omega
  refine wp_seq ?_
  refine region_q hS
    (cF rfl (o_lss .t .t) r2 trivial
    Chain.nil)
    hB ?_
  clear hS; intro a w F hS
  obtain ⟨F, hS⟩ := hS.nm [58, 57, 56, 55, 5, 2, 1] [103, 101, 0] rfl rfl
  try dsimp only [rHist, rTx, rOrd, rVer, rInt, rOp] at hS
  refine then_n (wp_seq ?_)
  refine cond_b hS rfl (fun hc4 => ?_) (fun hc4 => ?_)
  ·skip
   have hil : i < g.orders.length := by simp at hc4; omega
   refine wp_skip (then_n (wp_seq (wp_block (wp_seq ?_))))
   refine region_q hS
     (cF rfl (oM .t) r1 trivial
     (cF rfl (o_indexAddr_sl (sz := 2) (.mk Try.underlying40 (by kernel_rfl)) (by intro x; rfl) .t .t (by omega) (by omega)) r2 trivial
     (cF rfl (oR true 2 .t) r1 trivial
     (cF rfl (oH [.int .i64 0, .slice none 0 0] 104) trivial trivial
     (cF rfl (oN .t) r1 trivial
     (cF rfl (oA 2 104 .same .t) r2 r1
     Chain.nil))))))
     hB ?_
   clear hS; intro a w F hS
   replace hS := hS.sub
   obtain ⟨F, hS⟩ := hS.nm [61, 60, 59, 58, 57, 56, 55, 7, 6, 5, 2, 1] [104, 103, 101, 0] rfl rfl
   try dsimp only [RS.sub, SF.sub, CF.sub, csub, Anc.sub, List.map, stCells, xL, xM, Nat.reduceAdd, xD, xE, xT, xU, xC, xN, zCF, ldSF, rHist, rTx, rOrd, rVer, rInt, rOp] at hS
   generalize Act.tau a 7 = v7 at hS
   try simp only [Int.toNat_natCast] at hS
   refine then_n (wp_seq ?_)
   refine region_any (by kernel_rfl) hS (by kernel_rfl)
     (cF rfl (oM .t) r1 trivial
     (cF rfl (o_gtr .t (.ci (by kernel_rfl))) r1 trivial
     (cF rfl (oM .t) r1 trivial
     (Chain.cons (Cert.cond rfl rfl (fun h => o_fieldAddr (off := 1) 101 .is (by kernel_rfl) (by rfl))) r2 r1
     (Chain.cons (Cert.cond rfl rfl (fun h => o_load (ag := false) (sz := 1) 101 (.w h .adr) (by kernel_rfl) (by kernel_rfl) (by kernel_rfl) (by rfl))) r2 r1
     (Chain.cons (Cert.cond rfl rfl (fun h => o_move .t (by rfl))) r2 trivial
     (Chain.cons (Cert.cond rfl rfl (fun h => o_sub (.w h) (.ci (by kernel_rfl)))) r2 trivial
     (Chain.cons (Cert.cond rfl rfl (fun h => o_indexAddr_sl (sz := 2) (.mk Try.underlying40 (by kernel_rfl)) (by intro x; rfl) (.w h) (.w h) (by rw [hiw (by simpa using h)]; omega) (by rw [hiw (by simpa using h)]; omega))) r3 trivial
     (Chain.cons (Cert.cond rfl rfl (fun h => o_fieldAddr_ref (off := 0) (.w h) (by kernel_rfl))) r2 trivial
     (Chain.cons (Cert.cond rfl rfl (fun h => o_load_ref (ag := false) (sz := 1) (.w h) (by kernel_rfl) (by kernel_rfl) (by kernel_rfl))) r2 trivial
     (Chain.cons (Cert.cond rfl rfl (fun h => o_fieldAddr (off := 0) 104 .is (by kernel_rfl) (by rfl))) r2 r1
     (Chain.cons (Cert.cond rfl rfl (fun h => o_load (ag := false) (sz := 1) 104 (.w h .adr) (by kernel_rfl) (by kernel_rfl) (by kernel_rfl) (by rfl))) r2 r1
     (Chain.cons (Cert.cond rfl rfl (fun h => o_geq (.w h) (.w h))) r3 trivial
     (cF rfl (o_and2 .t .t) r2 trivial
     (cF rfl (oM .t) r1 trivial
     (Chain.cons (Cert.cond rfl rfl (fun h => o_fieldAddr (off := 1) 104 .is (by kernel_rfl) (by rfl))) r2 r1
     (Chain.cons (Cert.cond rfl rfl (fun h => o_load (ag := false) (sz := 1) 104 (.w h .adr) (by kernel_rfl) (by kernel_rfl) (by kernel_rfl) (by rfl))) r2 r1
     (Chain.cons (Cert.cond rfl rfl (fun h => o_len_sl Try.underlying76 (.w h))) r2 trivial
     (Chain.cons (Cert.cond rfl rfl (fun h => o_eql (.w h) (.ci (by kernel_rfl)))) r2 trivial
     (cF rfl (o_or2 .t .t) r2 trivial
     (cF rfl (oM .t) r1 trivial
     (Chain.cons (Cert.cond rfl rfl (fun h => o_fieldAddr (off := 1) 104 .is (by kernel_rfl) (by rfl))) r2 r1
     (Chain.cons (Cert.cond rfl rfl (fun h => o_load (ag := false) (sz := 1) 104 (.w h .adr) (by kernel_rfl) (by kernel_rfl) (by kernel_rfl) (by rfl))) r2 r1
     (Chain.cons (Cert.cond rfl rfl (fun h => o_move .t (by rfl))) r2 trivial
     (Chain.cons (Cert.cond rfl rfl (fun h => o_fieldAddr (off := 0) 104 .is (by kernel_rfl) (by rfl))) r2 r1
     (Chain.cons (Cert.cond rfl rfl (fun h => o_load (ag := false) (sz := 1) 104 (.w h .adr) (by kernel_rfl) (by kernel_rfl) (by kernel_rfl) (by rfl))) r2 r1
     (Chain.cons (Cert.cond rfl rfl (fun h => o_lookupG (ek := (fun l : List Int => PV.sl rInt l)) (z0 := ([] : List Int)) 103 Try.underlying83 (key_intG Try.underlying3) (by kernel_rfl) (fun _ _ => sl_nil) (.w h .is) (IsKeyOf.int (.w h) rfl))) r3 r1
     (Chain.cons (Cert.cond rfl rfl (fun h => o_callP (perm_c (Go.Gm.nth g.orders i).txs _ (by have := hol hil; omega) (by rw [hgw]; have := hwl (Go.Gm.nth g.orders i).key; omega)) Try.func40 rfl (by kernel_rfl) (Args.two (.w h) (.w h)))) r3 trivial
     (Chain.cons (Cert.cond rfl rfl (fun h => o_not (.w h))) r2 trivial
     (cF rfl (o_or2 .t .t) r2 trivial
     Chain.nil))))))))))))))))))))))))))))))
     (by kernel_rfl) (by rw [hB]; kernel_rfl) ?_
   clear hS; intro a w F hS
   obtain ⟨F, hS⟩ := hS.nm [91, 90, 89, 88, 87, 86, 85, 84, 83, 82, 81, 80, 79, 78, 77, 76, 75, 74, 73, 72, 71, 70, 69, 68, 67, 66, 65, 64, 63, 62, 61, 60, 59, 58, 57, 56, 55, 7, 6, 5, 2, 1] [104, 103, 101, 0] rfl rfl
   try dsimp only [List.map, xD, xE, xT, xU, ldSF, rHist, rTx, rOrd, rVer, rInt, rOp] at hS
   try simp only [Int.toNat_natCast] at hS
   refine then_n ?_
   refine cond_b hS rfl (fun hc5 => ?_) (fun hc5 => ?_)
   ·skip
    have hbad : ¬ OrdOk2 g i := by
      rintro ⟨g1, g2, g3⟩
      have h9 := hc5
      rw [hgw] at h9
      have g4 : (Go.Gm.nth g.orders i).txs.length ≠ 0 := fun e => g2 (List.eq_nil_of_length_eq_zero e)
      by_cases hi0 : 0 < i
      · rw [hiw hi0, Int.toNat_natCast] at h9
        have := g1 hi0
        simp [g2, g3] at h9
        omega
      · have hi1 : i = 0 := by omega
        subst hi1
        simp [g2, g3] at h9
    have hg := right_bad_ord2 hil hbad
    refine wp_seq ?_
    refine region_q hS
      (cF rfl (oN .cb) trivial trivial
      Chain.nil)
      hB ?_
    clear hS; intro a w F hS
    obtain ⟨F, hS⟩ := hS.nm [91, 90, 89, 88, 87, 86, 85, 84, 83, 82, 81, 80, 79, 78, 77, 76, 75, 74, 73, 72, 71, 70, 69, 68, 67, 66, 65, 64, 63, 62, 61, 60, 59, 58, 57, 56, 55, 7, 6, 5, 2, 1] [104, 103, 101, 0] rfl rfl
    try dsimp only [rHist, rTx, rOrd, rVer, rInt, rOp] at hS
    refine then_n (wp_ret (block_r (then_r (then_r (block_r (then_r ?_))))))
    refine ret_P hfr hS rfl (.tmp rfl .nil) (.one (.bool hg))
   have hgood : OrdOk2 g i := by
     have h9 := hc5
     rw [hgw] at h9
     by_cases hi0 : 0 < i
     · rw [hiw hi0, Int.toNat_natCast] at h9
       simp at h9
       exact ⟨fun _ => by omega, h9.1.2, h9.2⟩
     · have hi1 : i = 0 := by omega
       subst hi1
       simp at h9
       exact ⟨fun h0 => absurd h0 (Nat.lt_irrefl 0), h9.1, h9.2⟩
   refine wp_skip (block_n (then_n ?_))
   refine region_q hS
     (cF rfl (o_add .t (.ci (by kernel_rfl))) r1 trivial
     (cF rfl (oM .t) r1 trivial
     Chain.nil))
     hB ?_
   clear hS; intro a w F hS
   obtain ⟨F, hS⟩ := hS.nm [92, 91, 90, 89, 88, 87, 86, 85, 84, 83, 82, 81, 80, 79, 78, 77, 76, 75, 74, 73, 72, 71, 70, 69, 68, 67, 66, 65, 64, 63, 62, 61, 60, 59, 58, 57, 56, 55, 7, 6, 5, 2, 1] [104, 103, 101, 0] rfl rfl
   try dsimp only [rHist, rTx, rOrd, rVer, rInt, rOp] at hS
   refine then_n ?_
   replace hS := hS.ent (i := 57) (s' := .pv (.int .i64 ((i + 1 : Nat) : Int))) rfl (.int (wrap_succ (by omega)))
   obtain ⟨F, hS⟩ := hS.nm [56, 55, 5, 2, 1, 57] [103, 101, 0] rfl rfl
   exact ⟨(i + 1), F, ⟨by omega, (fun k hk => by rcases Nat.lt_or_eq_of_le (Nat.le_of_lt_succ hk) with h9 | h9; exact hq k h9; rw [h9]; exact hgood)⟩, hS, by omega⟩
  have hil : i = g.orders.length := by simp at hc4; omega
  have hg := right_good2 hlong hall (by omega) (by rw [← hil]; exact hq)
  refine wp_exit (then_x (then_x (block_x (then_n (wp_seq ?_)))))
  refine region_q hS
    (cF rfl (oN .cb) trivial trivial
    Chain.nil)
    hB ?_
  clear hS; intro a w F hS
  obtain ⟨F, hS⟩ := hS.nm [2] [103, 101, 0] rfl rfl
  try dsimp only [rHist, rTx, rOrd, rVer, rInt, rOp] at hS
  refine then_n (wp_ret ?_)
  refine ret_P hfr hS rfl (.tmp rfl .nil) (.one (.bool hg))

end Go.Proofs.Ytpnaolljmhhdbaa
