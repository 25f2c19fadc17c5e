/- Bags: the document adds. No condition beyond those that each theorem says. -/
import Derived.Test.YtfdjjfplhdpclaaMuA
namespace Go.Proofs.Ytfdjjfplhdpclaa
open Go Go.Gm
set_option linter.unusedVariables false
set_option linter.unusedSimpArgs false
set_option maxHeartbeats 4000000
set_option maxRecDepth 8000


theorem add17_c (l : List HvD) (e : EdgeD) (n : Int) (hB9 : BagOk l) (hl : l.length ≤ 90000) : FnP Try.prog 9 [.sl rHv l, .agg (rEdge e), .int .i64 n] (.tup [.sl rHv (addB l e n).1, .int .i64 (addB l e n).2]) := by
  refine FnP.mk Try.func9 rfl Try.ntmps9 rfl ?_
  intro B a w F hB hfr hS
  refine wp_seq ?_
  refine region_q hS
    (cF rfl (oX 101 (.conv .t .agg)) r1 trivial
    (cF rfl (oN (.c rfl)) trivial trivial
    (cF rfl (oN (.ci (by kernel_rfl))) trivial trivial
    Chain.nil)))
    hB ?_
  clear hS; intro a w F hS
  replace hS := hS.sub
  obtain ⟨F, hS⟩ := hS.nm [7, 6, 4, 2, 0] [101, 0] rfl rfl
  try dsimp only [RS.sub, SF.sub, CF.sub, csub, Anc.sub, List.map, zCF, rEdge, rHv] at hS
  generalize Act.tau a 4 = v4 at hS
  refine then_n (wp_seq (wp_seq ?_))
  refine region_q hS
    (cF rfl (oL true 4 101 .is) r1 r1
    (cF rfl (oP (right_c e) Try.func22 (Args.one (.pagg .t))) r1 trivial
    (cF rfl (o_not .t) r1 trivial
    Chain.nil)))
    hB ?_
  clear hS; intro a w F hS
  obtain ⟨F, hS⟩ := hS.nm [11, 7, 6, 4, 2, 0] [101, 0] rfl rfl
  try dsimp only [List.map, xD, xE, xT, xU, ldSF, rEdge, rHv] at hS
  refine then_n ?_
  refine cond_b hS rfl (fun hc0 => ?_) (fun hc0 => ?_)
  ·skip
   have hr : rightB e = false := by simpa using hc0
   have hg : addB l e n = (l, 1) := by unfold addB; rw [if_neg (by rw [hr]; decide)]
   refine wp_seq ?_
   refine region_q hS
     (cF rfl (oM .t) r1 trivial
     (cF rfl (oN .t) r1 trivial
     (cF rfl (oN (.ci (by kernel_rfl))) trivial trivial
     Chain.nil)))
     hB ?_
   clear hS; intro a w F hS
   obtain ⟨F, hS⟩ := hS.nm [7, 6, 4, 2, 0] [101, 0] rfl rfl
   try dsimp only [rEdge, rHv] at hS
   refine then_n (wp_ret (then_r ?_))
   refine ret_P hfr hS rfl (.tmp rfl (.tmp rfl .nil)) (.two (.sl (by rw [hg])) (.int (by rw [hg])))
  have hr : rightB e = true := by simpa using hc0
  have hcb := cntB_bd hB9 e
  have hw1 : IntKind.wrap .i64 (0 - cntB l e) = -cntB l e := by rw [wrap_i64 (by omega)]; omega
  have hw2 : IntKind.wrap .i64 (2147483647 - cntB l e) = 2147483647 - cntB l e := wrap_i64 (by omega)
  refine wp_skip (then_n (wp_seq ?_))
  refine region_q hS
    (cF rfl (oM .t) r1 trivial
    (cF rfl (oL true 4 101 .is) r1 r1
    (cF rfl (oP (count17_c l e (by omega)) Try.func19 (Args.two .t (.pagg .t))) r2 trivial
    (cF rfl (oN .t) r1 trivial
    Chain.nil))))
    hB ?_
  clear hS; intro a w F hS
  obtain ⟨F, hS⟩ := hS.nm [8, 7, 6, 4, 2, 0] [101, 0] rfl rfl
  try dsimp only [List.map, xD, xE, xT, xU, ldSF, rEdge, rHv] at hS
  refine then_n (wp_seq (wp_seq ?_))
  refine region_q hS
    (cF rfl (oM .t) r1 trivial
    (cF rfl (o_lss .t (.ci (by kernel_rfl))) r1 trivial
    (cF rfl (oM .t) r1 trivial
    (Chain.cons (Cert.cond rfl rfl (fun h => o_move .t (by rfl))) r2 trivial
    (Chain.cons (Cert.cond rfl rfl (fun h => o_move .t (by rfl))) r2 trivial
    (Chain.cons (Cert.cond rfl rfl (fun h => o_neg (.w h))) r2 trivial
    (Chain.cons (Cert.cond rfl rfl (fun h => o_lss (.w h) (.w h))) r3 trivial
    (cF rfl (o_and2 .t .t) r2 trivial
    Chain.nil))))))))
    hB ?_
  clear hS; intro a w F hS
  obtain ⟨F, hS⟩ := hS.nm [23, 8, 7, 6, 4, 2, 0] [101, 0] rfl rfl
  try dsimp only [rEdge, rHv] at hS
  refine then_n ?_
  refine cond_b hS rfl (fun hc1 => ?_) (fun hc1 => ?_)
  ·skip
   have hc1 : n < -cntB l e := by rw [hw1] at hc1; simp at hc1; exact hc1.2
   have hg : addB l e n = (l, 3) := by unfold addB; rw [if_pos hr, if_pos hc1]
   refine wp_seq ?_
   refine region_q hS
     (cF rfl (oM .t) r1 trivial
     (cF rfl (oN .t) r1 trivial
     (cF rfl (oN (.ci (by kernel_rfl))) trivial trivial
     Chain.nil)))
     hB ?_
   clear hS; intro a w F hS
   obtain ⟨F, hS⟩ := hS.nm [8, 7, 6, 4, 2, 0] [101, 0] rfl rfl
   try dsimp only [rEdge, rHv] at hS
   refine then_n (wp_ret (then_r ?_))
   refine ret_P hfr hS rfl (.tmp rfl (.tmp rfl .nil)) (.two (.sl (by rw [hg])) (.int (by rw [hg])))
  have hc1 : ¬ n < -cntB l e := by intro h9; rw [hw1] at hc1; simp at hc1; omega
  refine wp_skip (then_n (wp_seq (wp_seq ?_)))
  refine region_q hS
    (cF rfl (oM .t) r1 trivial
    (cF rfl (o_gtr .t (.ci (by kernel_rfl))) r1 trivial
    (cF rfl (oM .t) r1 trivial
    (Chain.cons (Cert.cond rfl rfl (fun h => o_move .t (by rfl))) r2 trivial
    (Chain.cons (Cert.cond rfl rfl (fun h => o_move .t (by rfl))) r2 trivial
    (Chain.cons (Cert.cond rfl rfl (fun h => o_sub (.ci (by kernel_rfl)) (.w h))) r2 trivial
    (Chain.cons (Cert.cond rfl rfl (fun h => o_gtr (.w h) (.w h))) r3 trivial
    (cF rfl (o_and2 .t .t) r2 trivial
    Chain.nil))))))))
    hB ?_
  clear hS; intro a w F hS
  obtain ⟨F, hS⟩ := hS.nm [32, 8, 7, 6, 4, 2, 0] [101, 0] rfl rfl
  try dsimp only [rEdge, rHv] at hS
  refine then_n ?_
  refine cond_b hS rfl (fun hc2 => ?_) (fun hc2 => ?_)
  ·skip
   have hc2 : 2147483647 - cntB l e < n := by rw [hw2] at hc2; simp at hc2; exact hc2.2
   have hg : addB l e n = (l, 2) := by unfold addB; rw [if_pos hr, if_neg hc1, if_pos hc2]
   refine wp_seq ?_
   refine region_q hS
     (cF rfl (oM .t) r1 trivial
     (cF rfl (oN .t) r1 trivial
     (cF rfl (oN (.ci (by kernel_rfl))) trivial trivial
     Chain.nil)))
     hB ?_
   clear hS; intro a w F hS
   obtain ⟨F, hS⟩ := hS.nm [8, 7, 6, 4, 2, 0] [101, 0] rfl rfl
   try dsimp only [rEdge, rHv] at hS
   refine then_n (wp_ret (then_r ?_))
   refine ret_P hfr hS rfl (.tmp rfl (.tmp rfl .nil)) (.two (.sl (by rw [hg])) (.int (by rw [hg])))
  have hc2 : ¬ 2147483647 - cntB l e < n := by intro h9; rw [hw2] at hc2; simp at hc2; omega
  have hg : addB l e n = (putB l e (cntB l e + n), 0) := by unfold addB; rw [if_pos hr, if_neg hc1, if_neg hc2]
  refine wp_skip (then_n (wp_seq ?_))
  refine region_q hS
    (cF rfl (oM .t) r1 trivial
    (cF rfl (oL true 4 101 .is) r1 r1
    (cF rfl (oM .t) r1 trivial
    (cF rfl (oM .t) r1 trivial
    (cF rfl (o_add .t .t) r2 trivial
    (cF rfl (oP (put17_c l e (cntB l e + n) (by omega)) Try.func23 (Args.three .t (.pagg .t) (.conv .t (Ent.int (wrap_i64 (by omega)))))) r3 trivial
    (cF rfl (oN .t) r1 trivial
    (cF rfl (oN (.ci (by kernel_rfl))) trivial trivial
    Chain.nil))))))))
    hB ?_
  clear hS; intro a w F hS
  obtain ⟨F, hS⟩ := hS.nm [7, 6] [0] rfl rfl
  try dsimp only [List.map, xD, xE, xT, xU, ldSF, rEdge, rHv] at hS
  rw [putA_bag hB9 hr] at hS
  refine then_n (wp_ret ?_)
  refine ret_P hfr hS rfl (.tmp rfl (.tmp rfl .nil)) (.two (.sl (by rw [hg])) (.int (by rw [hg])))

theorem of17_c (l : List HvD) (hl : l.length ≤ 80000) : FnP Try.prog 7 [.sl rHv l] (.sl rHv (ofB l)) := by
  refine FnP.mk Try.func7 rfl Try.ntmps7 rfl ?_
  intro B a w F hB hfr hS
  refine wp_seq ?_
  refine region_q hS
    (cF rfl (oN (.c rfl)) trivial trivial
    Chain.nil)
    hB ?_
  clear hS; intro a w F hS
  obtain ⟨F, hS⟩ := hS.nm [2, 0] [0] rfl rfl
  try dsimp only [rEdge, rHv] at hS
  refine then_n (wp_seq ?_)
  refine region_q hS
    (cF rfl (oN (.c rfl)) trivial trivial
    Chain.nil)
    hB ?_
  clear hS; intro a w F hS
  obtain ⟨F, hS⟩ := hS.nm [3, 2, 0] [0] rfl rfl
  try dsimp only [rEdge, rHv] at hS
  refine then_n (wp_seq (wp_seq ?_))
  refine region_q hS
    (cF rfl (oM .t) r1 trivial
    (cF rfl (o_len_sl Try.underlying22 .t) r1 trivial
    (cF rfl (oM (.ci (by kernel_rfl))) trivial trivial
    Chain.nil)))
    hB ?_
  clear hS; intro a w F hS
  obtain ⟨F, hS⟩ := hS.nm [10, 9, 8, 3, 2] [0] rfl rfl
  try dsimp only [rEdge, rHv] at hS
  refine then_n (wp_block ?_)
  replace hS := hS.ent (i := 3) (s' := .pv (.sl rHv [])) rfl .nilSl
  refine loop_keep (σ := (Nat) × (List HvD)) [2, 8, 9] [0] (fun s => [(10, .pv (.int .i64 (s.1 : Int))), (3, .pv (.sl rHv s.2))]) (fun s => []) (fun s => s.1 ≤ l.length ∧ (s.2 = ofB (l.take s.1))) (fun s => l.length - s.1) ((0), ([])) hS ⟨rfl, rfl, rfl, rfl, rfl, trivial⟩ ⟨rfl, trivial⟩ ⟨Nat.zero_le _, rfl⟩ ?_
  clear hS; intro s a w F hC hS
  obtain ⟨i, bg⟩ := s
  try dsimp only at hC
  obtain ⟨F, hS⟩ := hS.nm [10, 9, 8, 3, 2] [0] rfl rfl
  try dsimp only at hS
  obtain ⟨hi, hq⟩ := hC
  have hbl : bg.length ≤ i := by rw [hq]; exact Nat.le_trans (ofB_len _) (by rw [List.length_take]; omega)
  have hbo : BagOk bg := by rw [hq]; exact ofB_ok _
  refine wp_seq ?_
  refine region_q hS
    (cF rfl (o_lss .t .t) r2 trivial
    Chain.nil)
    hB ?_
  clear hS; intro a w F hS
  obtain ⟨F, hS⟩ := hS.nm [11, 10, 9, 8, 3, 2] [0] rfl rfl
  try dsimp only [rEdge, rHv] at hS
  refine then_n (wp_seq ?_)
  refine cond_b hS rfl (fun hc0 => ?_) (fun hc0 => ?_)
  ·skip
   have hil : i < l.length := by simp at hc0; omega
   refine wp_skip (then_n (wp_seq (wp_block (wp_seq ?_))))
   refine region_q hS
     (cF rfl (o_indexAddr_sl (sz := 5) (.mk Try.underlying22 (by kernel_rfl)) (by intro x; rfl) .t .t (by omega) (by omega)) r2 trivial
     (cF rfl (oR true 5 .t) r1 trivial
     (cF rfl (oH [.int .i64 0, .int .i64 0, .int .i64 0, .int .i64 0, .int .i64 0] 101) trivial trivial
     (cF rfl (oA 5 101 .same .t) r2 r1
     Chain.nil))))
     hB ?_
   clear hS; intro a w F hS
   replace hS := hS.sub
   obtain ⟨F, hS⟩ := hS.nm [10, 9, 8, 5, 3, 2] [101, 0] rfl rfl
   try dsimp only [RS.sub, SF.sub, CF.sub, csub, Anc.sub, List.map, stCells, xL, xM, Nat.reduceAdd, xD, xE, xT, xU, xC, xN, zCF, ldSF, rEdge, rHv] at hS
   generalize Act.tau a 5 = v5 at hS
   try simp only [Int.toNat_natCast] at hS
   refine then_n (wp_seq ?_)
   refine region_q hS
     (cF rfl (oM .t) r1 trivial
     (cF rfl (oF 0 101 .is) r1 r1
     (cF rfl (oL true 4 101 .adr) r1 r1
     (cF rfl (oF 4 101 .is) r1 r1
     (cF rfl (oL false 1 101 .adr) r1 r1
     (cF rfl (oP (add17_c bg (Go.Gm.nth l i).edge (Go.Gm.nth l i).cnt hbo (by omega)) Try.func9 (Args.three .t (.pagg .t) .t)) r3 trivial
     (cF rfl (oM .t) r1 trivial
     (cF rfl (o_extract .t rfl) r1 trivial
     (cF rfl (o_extract .t rfl) r1 trivial
     (cF rfl (oN .t) r1 trivial
     (cF rfl (oN .t) r1 trivial
     Chain.nil)))))))))))
     hB ?_
   clear hS; intro a w F hS
   obtain ⟨F, hS⟩ := hS.nm [10, 9, 8, 6, 3, 2] [0] rfl rfl
   try dsimp only [List.map, xD, xE, xT, xU, ldSF, rEdge, rHv] at hS
   refine then_n ?_
   refine region_q hS
     (cF rfl (oM .t) r1 trivial
     (cF rfl (oN .t) r1 trivial
     Chain.nil))
     hB ?_
   clear hS; intro a w F hS
   obtain ⟨F, hS⟩ := hS.nm [10, 9, 8, 3, 2] [0] rfl rfl
   try dsimp only [rEdge, rHv] at hS
   refine block_n (then_n ?_)
   refine region_q hS
     (cF rfl (o_add .t (.ci (by kernel_rfl))) r1 trivial
     (cF rfl (oM .t) r1 trivial
     Chain.nil))
     hB ?_
   clear hS; intro a w F hS
   obtain ⟨F, hS⟩ := hS.nm [10, 9, 8, 3, 2] [0] rfl rfl
   try dsimp only [rEdge, rHv] at hS
   refine then_n ?_
   replace hS := hS.ent (i := 10) (s' := .pv (.int .i64 ((i + 1 : Nat) : Int))) rfl (.int (wrap_succ (by omega)))
   obtain ⟨F, hS⟩ := hS.nm [9, 8, 2, 3, 10] [0] rfl rfl
   exact ⟨((i + 1), ((addB bg (Go.Gm.nth l i).edge (Go.Gm.nth l i).cnt).1)), F, ⟨by omega, (by rw [ofB_next hil, ← hq])⟩, hS, by omega⟩
  have hil : i = l.length := by simp at hc0; omega
  refine wp_exit (then_x (then_x (block_x (then_n (wp_seq ?_)))))
  refine region_q hS
    (cF rfl (oM .t) r1 trivial
    (cF rfl (oN .t) r1 trivial
    Chain.nil))
    hB ?_
  clear hS; intro a w F hS
  obtain ⟨F, hS⟩ := hS.nm [2] [0] rfl rfl
  try dsimp only [rEdge, rHv] at hS
  refine then_n (wp_ret ?_)
  refine ret_P hfr hS rfl (.tmp rfl .nil) (.one (.sl (by rw [hq, hil, List.take_length])))

end Go.Proofs.Ytfdjjfplhdpclaa
