/- TopTwice. No condition beyond those that each theorem says. -/
import Derived.Test.YtdggmgiihdnlbaaTw3
import Derived.Test.YtdggmgiihdnlbaaHiL
namespace Go.Proofs.Ytdggmgiihdnlbaa
open Go Go.Gm
set_option linter.unusedVariables false
set_option linter.unusedSimpArgs false
set_option maxHeartbeats 4000000
set_option maxRecDepth 8000

theorem small_dbl {g : HistD} (hs : HLight g) : Small (dblH g) := by
  obtain ⟨h1, h2, h3, h4⟩ := hs
  have hsm := HLight.small ⟨h1, h2, h3, h4⟩
  refine ⟨⟨by show (g.txs.map dblT).length ≤ 1000; rw [List.length_map]; omega, fun t ht => ?_⟩, hsm.2⟩
  obtain ⟨u, hu, rfl⟩ := List.mem_map.1 ht
  obtain ⟨j, hj, e⟩ := List.getElem_of_mem hu
  have h5 := h3 j hj
  have h6 := dblO_len u.ops
  rw [nth_eq hj, e] at h5
  show (dblO u.ops).length ≤ 1000
  omega

theorem topTwice_c (g : HistD) : FnP Try.prog 3 [.agg (rHist g)] (.bool true) := by
  refine FnP.mk Try.func3 rfl Try.ntmps3 rfl ?_
  intro B a w F hB hfr hS
  refine wp_seq ?_
  refine region_q hS
    (cF rfl (oX 101 (.conv .t .agg)) r1 trivial
    (cF rfl (oN .cb) trivial trivial
    Chain.nil))
    hB ?_
  clear hS; intro a w F hS
  replace hS := hS.sub
  obtain ⟨F, hS⟩ := hS.nm [2, 1] [101, 0] rfl rfl
  try dsimp only [RS.sub, SF.sub, CF.sub, csub, Anc.sub, List.map, zCF, rHist, rTx, rOrd, rVer, rInt, rOp, rEdge, rHv] at hS
  generalize Act.tau a 1 = v1 at hS
  refine then_n (wp_seq (wp_seq ?_))
  refine region_q hS
    (cF rfl (oP (begins08_c) Try.func5 Args.nil) trivial trivial
    (cF rfl (o_not .t) r1 trivial
    Chain.nil))
    hB ?_
  clear hS; intro a w F hS
  obtain ⟨F, hS⟩ := hS.nm [9, 2, 1] [101, 0] rfl rfl
  try dsimp only [rHist, rTx, rOrd, rVer, rInt, rOp, rEdge, rHv] at hS
  refine then_n ?_
  refine cond_b hS rfl (fun hc0 => ?_) (fun hc0 => ?_)
  ·skip
   simp at hc0
  refine wp_skip (then_n (wp_seq (wp_seq ?_)))
  refine region_q hS
    (cF rfl (oL true 2 101 .is) r1 r1
    (cF rfl (oP (lightH_c g) Try.func6 (Args.one (.pagg .t))) r1 trivial
    (cF rfl (o_not .t) r1 trivial
    (cF rfl (oM .t) r1 trivial
    (Chain.cons (Cert.cond rfl rfl (fun h => o_load (ag := true) (sz := 2) 101 .is (by kernel_rfl) (by kernel_rfl) (by kernel_rfl) (by rfl))) r2 r1
    (Chain.cons (Cert.cond rfl rfl (fun h => o_callP (rightH_c g (HLight.small (by simpa using h))) Try.func7 rfl (by kernel_rfl) (Args.one (.pagg (.w h))))) r2 trivial
    (Chain.cons (Cert.cond rfl rfl (fun h => o_not (.w h))) r2 trivial
    (cF rfl (o_or2 .t .t) r2 trivial
    Chain.nil))))))))
    hB ?_
  clear hS; intro a w F hS
  obtain ⟨F, hS⟩ := hS.nm [17, 2, 1] [101, 0] rfl rfl
  try dsimp only [List.map, xD, xE, xT, xU, ldSF, rHist, rTx, rOrd, rVer, rInt, rOp, rEdge, rHv] at hS
  refine then_n ?_
  refine cond_b hS rfl (fun hc1 => ?_) (fun hc1 => ?_)
  ·skip
   refine wp_seq ?_
   refine region_q hS
     (cF rfl (oN .cb) trivial trivial
     Chain.nil)
     hB ?_
   clear hS; intro a w F hS
   obtain ⟨F, hS⟩ := hS.nm [2, 1] [101, 0] rfl rfl
   try dsimp only [rHist, rTx, rOrd, rVer, rInt, rOp, rEdge, rHv] at hS
   refine then_n (wp_ret (then_r ?_))
   refine ret_P hfr hS rfl (.tmp rfl .nil) (.one (.bool (by first | rfl | exact hg)))
  have hsr : HLight g ∧ RightH g := by simpa using hc1
  have hsm : Small g := HLight.small hsr.1
  have hsd := small_dbl hsr.1
  have hr := hsr.2
  have hs := hsm.1
  have hsl := hsm.1.1
  obtain ⟨hk1, hk2, _, _⟩ := id hsr.1
  refine wp_skip (then_n (wp_seq ?_))
  refine region_any (by kernel_rfl) hS (by kernel_rfl)
    (cF rfl (oL true 2 101 .is) r1 r1
    (cF rfl (oP (edges_c g hsm (by have h1 := ww_len (p := (fun _ => true)) (g := g) hsm; have h2 := rd_len (p := (fun _ => true)) (g := g) hsm; omega)) Try.func8 (Args.one (.pagg .t))) r1 trivial
    (cF rfl (oL true 2 101 .is) r1 r1
    (cF rfl (oP (doubled_c g hsm) Try.func9 (Args.one (.pagg .t))) r1 trivial
    (cF rfl (oP (edges_c (dblH g) hsd (by have h1 := ww_len (p := (fun _ => true)) (g := dblH g) hsd; have h2 := rd_len (p := (fun _ => true)) (g := dblH g) hsd; have h3 : (dblH g).txs.length = g.txs.length := List.length_map _; have h4 : (dblH g).orders.length = g.orders.length := rfl; omega)) Try.func8 (Args.one .t)) r1 trivial
    (cF rfl (oN .t) r1 trivial
    (cF rfl (oN .t) r1 trivial
    Chain.nil)))))))
    (by kernel_rfl) (by rw [hB]; kernel_rfl) ?_
  clear hS; intro a w F hS
  obtain ⟨F, hS⟩ := hS.nm [4, 3, 2] [101, 0] rfl rfl
  try dsimp only [List.map, xD, xE, xT, xU, ldSF, rHist, rTx, rOrd, rVer, rInt, rOp, rEdge, rHv] at hS
  refine then_n (wp_seq (wp_seq ?_))
  refine region_q hS
    (cF rfl (oM .t) r1 trivial
    (cF rfl (o_len_sl Try.underlying28 .t) r1 trivial
    (cF rfl (oM .t) r1 trivial
    (cF rfl (o_len_sl Try.underlying28 .t) r1 trivial
    (cF rfl (o_neq .t .t) r2 trivial
    Chain.nil)))))
    hB ?_
  clear hS; intro a w F hS
  obtain ⟨F, hS⟩ := hS.nm [27, 4, 3, 2] [101, 0] rfl rfl
  try dsimp only [rHist, rTx, rOrd, rVer, rInt, rOp, rEdge, rHv] at hS
  refine then_n ?_
  refine cond_b hS rfl (fun hc2 => ?_) (fun hc2 => ?_)
  ·skip
   rw [twice_len hr hs] at hc2
   simp at hc2
  have hel : (edgesL (wwC (fun _ => true) g) (rdC (fun _ => true) g)).length ≤ 1000000 := by
    rw [edgesL_len]
    refine Nat.le_trans (keysG_len _) ?_
    unfold allE
    have h1 := ww_len (p := (fun _ => true)) (g := g) hsm
    have h2 := rd_len (p := (fun _ => true)) (g := g) hsm
    rw [List.length_append, List.length_map]
    omega
  refine wp_skip (then_n (wp_seq (wp_seq ?_)))
  refine region_q hS
    (cF rfl (oM .t) r1 trivial
    (cF rfl (o_len_sl Try.underlying28 .t) r1 trivial
    (cF rfl (oM (.ci (by kernel_rfl))) trivial trivial
    Chain.nil)))
    hB ?_
  clear hS; intro a w F hS
  obtain ⟨F, hS⟩ := hS.nm [30, 29, 28, 4, 2] [101, 0] rfl rfl
  try dsimp only [rHist, rTx, rOrd, rVer, rInt, rOp, rEdge, rHv] at hS
  refine then_n (wp_block ?_)
  refine loop_keep (σ := (Nat)) [2, 4, 28, 29] [0, 101] (fun s => [(30, .pv (.int .i64 (s : Int)))]) (fun s => []) (fun s => s ≤ (edgesL (wwC (fun _ => true) g) (rdC (fun _ => true) g)).length ∧ (True)) (fun s => (edgesL (wwC (fun _ => true) g) (rdC (fun _ => true) g)).length - s) (0) hS ⟨rfl, rfl, rfl, rfl, rfl, trivial⟩ ⟨rfl, rfl, trivial⟩ ⟨Nat.zero_le _, trivial⟩ ?_
  clear hS; intro i a w F hC hS
  try dsimp only at hC
  obtain ⟨F, hS⟩ := hS.nm [30, 29, 28, 4, 2] [101, 0] rfl rfl
  try dsimp only at hS
  obtain ⟨hi, hq⟩ := hC
  refine wp_seq ?_
  refine region_q hS
    (cF rfl (o_lss .t .t) r2 trivial
    Chain.nil)
    hB ?_
  clear hS; intro a w F hS
  obtain ⟨F, hS⟩ := hS.nm [31, 30, 29, 28, 4, 2] [101, 0] rfl rfl
  try dsimp only [rHist, rTx, rOrd, rVer, rInt, rOp, rEdge, rHv] at hS
  refine then_n (wp_seq ?_)
  refine cond_b hS rfl (fun hc3 => ?_) (fun hc3 => ?_)
  ·skip
   have hil : i < (edgesL (wwC (fun _ => true) g) (rdC (fun _ => true) g)).length := by simp at hc3; omega
   have hat := twice_at hr hs hil
   have hlm := twice_len hr hs
   have hcr : 0 ≤ (Go.Gm.nth (edgesL (wwC (fun _ => true) g) (rdC (fun _ => true) g)) i).cnt ∧ (Go.Gm.nth (edgesL (wwC (fun _ => true) g) (rdC (fun _ => true) g)) i).cnt ≤ 3000000 := by rw [edgesL_nth (by rw [← edgesL_len]; exact hil)]; exact cnt_rng hsm _
   have hw1 : IntKind.wrap .i64 (Go.Gm.nth (edgesL (wwC (fun _ => true) g) (rdC (fun _ => true) g)) i).cnt = (Go.Gm.nth (edgesL (wwC (fun _ => true) g) (rdC (fun _ => true) g)) i).cnt := wrap_i64 (by omega)
   have hw2 : IntKind.wrap .i64 (2 * (Go.Gm.nth (edgesL (wwC (fun _ => true) g) (rdC (fun _ => true) g)) i).cnt) = 2 * (Go.Gm.nth (edgesL (wwC (fun _ => true) g) (rdC (fun _ => true) g)) i).cnt := wrap_i64 (by omega)
   refine wp_skip (then_n (wp_seq (wp_block (wp_seq ?_))))
   refine region_q hS
     (cF rfl (oM .t) r1 trivial
     (cF rfl (o_indexAddr_sl (sz := 5) (.mk Try.underlying28 (by kernel_rfl)) (by intro x; rfl) .t .t (by omega) (by omega)) r2 trivial
     (cF rfl (oR true 5 .t) r1 trivial
     (cF rfl (oH [.int .i64 0, .int .i64 0, .int .i64 0, .int .i64 0, .int .i64 0] 102) trivial trivial
     (cF rfl (oN .t) r1 trivial
     (cF rfl (oA 5 102 .same .t) r2 r1
     Chain.nil))))))
     hB ?_
   clear hS; intro a w F hS
   replace hS := hS.sub
   obtain ⟨F, hS⟩ := hS.nm [34, 33, 32, 31, 30, 29, 28, 6, 5, 4, 2] [102, 101, 0] rfl rfl
   try dsimp only [RS.sub, SF.sub, CF.sub, csub, Anc.sub, List.map, stCells, xL, xM, Nat.reduceAdd, xD, xE, xT, xU, xC, xN, zCF, ldSF, rHist, rTx, rOrd, rVer, rInt, rOp, rEdge, rHv] at hS
   generalize Act.tau a 6 = v6 at hS
   try simp only [Int.toNat_natCast] at hS
   refine then_n (wp_seq ?_)
   refine region_q hS
     (cF rfl (oN (.ci (by kernel_rfl))) trivial trivial
     Chain.nil)
     hB ?_
   clear hS; intro a w F hS
   obtain ⟨F, hS⟩ := hS.nm [34, 33, 32, 31, 30, 29, 28, 7, 6, 5, 4, 2] [102, 101, 0] rfl rfl
   try dsimp only [rHist, rTx, rOrd, rVer, rInt, rOp, rEdge, rHv] at hS
   refine then_n (wp_seq (wp_seq ?_))
   refine region_q hS
     (cF rfl (oF 0 102 .is) r1 r1
     (cF rfl (oF 2 102 .adr) r1 r1
     (cF rfl (oL false 1 102 .adr) r1 r1
     (cF rfl (o_eql .t (.ci (by kernel_rfl))) r1 trivial
     Chain.nil))))
     hB ?_
   clear hS; intro a w F hS
   obtain ⟨F, hS⟩ := hS.nm [38, 37, 36, 35, 34, 33, 32, 31, 30, 29, 28, 7, 6, 5, 4, 2] [102, 101, 0] rfl rfl
   try dsimp only [List.map, xD, xE, xT, xU, ldSF, rHist, rTx, rOrd, rVer, rInt, rOp, rEdge, rHv] at hS
   refine then_n ?_
   refine cond_b hS rfl (fun hc4 => ?_) (fun hc4 => ?_)
   ·skip
    have hkd : (Go.Gm.nth (edgesL (wwC (fun _ => true) g) (rdC (fun _ => true) g)) i).edge.kind = 1 := by simpa using hc4
    refine region_q hS
      (cF rfl (oN (.ci (by kernel_rfl))) trivial trivial
      Chain.nil)
      hB ?_
    clear hS; intro a w F hS
    obtain ⟨F, hS⟩ := hS.nm [38, 37, 36, 35, 34, 33, 32, 31, 30, 29, 28, 7, 6, 5, 4, 2] [102, 101, 0] rfl rfl
    try dsimp only [rHist, rTx, rOrd, rVer, rInt, rOp, rEdge, rHv] at hS
    refine then_n (wp_seq ?_)
    refine region_any (by kernel_rfl) hS (by kernel_rfl)
      (cF rfl (oM .t) r1 trivial
      (cF rfl (oM .t) r1 trivial
      (cF rfl (o_indexAddr_sl (sz := 5) (.mk Try.underlying28 (by kernel_rfl)) (by intro x; rfl) .t .t (by omega) (by omega)) r2 trivial
      (cF rfl (oG 0 .t) r1 trivial
      (cF rfl (oR true 4 .t) r1 trivial
      (cF rfl (oF 0 102 .is) r1 r1
      (cF rfl (oL true 4 102 .adr) r1 r1
      (cF rfl (o_neqS (ks := [true, true, true, true]) (by kernel_rfl) .t .t (.int (.int (.int (.int .nil))))) r2 trivial
      (cF rfl (oM .t) r1 trivial
      (Chain.cons (Cert.cond rfl rfl (fun h => o_move .t (by rfl))) r2 trivial
      (Chain.cons (Cert.cond rfl rfl (fun h => o_move .t (by rfl))) r2 trivial
      (Chain.cons (Cert.cond rfl rfl (fun h => o_indexAddr_sl (sz := 5) (.mk Try.underlying28 (by kernel_rfl)) (by intro x; rfl) (.w h) (.w h) (by omega) (by omega))) r3 trivial
      (Chain.cons (Cert.cond rfl rfl (fun h => o_fieldAddr_ref (off := 4) (.w h) (by kernel_rfl))) r2 trivial
      (Chain.cons (Cert.cond rfl rfl (fun h => o_load_ref (ag := false) (sz := 1) (.w h) (by kernel_rfl) (by kernel_rfl) (by kernel_rfl))) r2 trivial
      (Chain.cons (Cert.cond rfl rfl (fun h => o_move .t (by rfl))) r2 trivial
      (Chain.cons (Cert.cond rfl rfl (fun h => o_fieldAddr (off := 4) 102 .is (by kernel_rfl) (by rfl))) r2 r1
      (Chain.cons (Cert.cond rfl rfl (fun h => o_load (ag := false) (sz := 1) 102 (.w h .adr) (by kernel_rfl) (by kernel_rfl) (by kernel_rfl) (by rfl))) r2 r1
      (Chain.cons (Cert.cond rfl rfl (fun h => o_mul (.w h) (.w h))) r3 trivial
      (Chain.cons (Cert.cond rfl rfl (fun h => o_neq (.w h) (.w h))) r3 trivial
      (cF rfl (o_or2 .t .t) r2 trivial
      Chain.nil))))))))))))))))))))
      (by kernel_rfl) (by rw [hB]; kernel_rfl) ?_
    clear hS; intro a w F hS
    obtain ⟨F, hS⟩ := hS.nm [58, 57, 56, 55, 54, 53, 52, 51, 50, 49, 48, 47, 46, 45, 44, 43, 42, 41, 40, 39, 38, 37, 36, 35, 34, 33, 32, 31, 30, 29, 28, 7, 6, 5, 4, 2] [102, 101, 0] rfl rfl
    try dsimp only [List.map, xD, xE, xT, xU, ldSF, rHist, rTx, rOrd, rVer, rInt, rOp, rEdge, rHv] at hS
    try simp only [Int.toNat_natCast] at hS
    refine then_n ?_
    refine cond_b hS rfl (fun hc5 => ?_) (fun hc5 => ?_)
    ·skip
     have h1 := hat.1
     have h2 := hat.2
     simp [h1, h2, hkd, hw1, hw2] at hc5
    refine wp_skip (block_n (then_n ?_))
    refine region_q hS
      (cF rfl (o_add .t (.ci (by kernel_rfl))) r1 trivial
      (cF rfl (oM .t) r1 trivial
      Chain.nil))
      hB ?_
    clear hS; intro a w F hS
    obtain ⟨F, hS⟩ := hS.nm [59, 58, 57, 56, 55, 54, 53, 52, 51, 50, 49, 48, 47, 46, 45, 44, 43, 42, 41, 40, 39, 38, 37, 36, 35, 34, 33, 32, 31, 30, 29, 28, 7, 6, 5, 4, 2] [102, 101, 0] rfl rfl
    try dsimp only [rHist, rTx, rOrd, rVer, rInt, rOp, rEdge, rHv] at hS
    refine then_n ?_
    replace hS := hS.ent (i := 30) (s' := .pv (.int .i64 ((i + 1 : Nat) : Int))) rfl (.int (wrap_succ (by omega)))
    obtain ⟨F, hS⟩ := hS.nm [29, 28, 4, 2, 30] [101, 0] rfl rfl
    exact ⟨(i + 1), F, ⟨by omega, trivial⟩, hS, by omega⟩
   have hkd : ¬ (Go.Gm.nth (edgesL (wwC (fun _ => true) g) (rdC (fun _ => true) g)) i).edge.kind = 1 := by simpa using hc4
   refine wp_skip (then_n (wp_seq ?_))
   refine region_any (by kernel_rfl) hS (by kernel_rfl)
     (cF rfl (oM .t) r1 trivial
     (cF rfl (oM .t) r1 trivial
     (cF rfl (o_indexAddr_sl (sz := 5) (.mk Try.underlying28 (by kernel_rfl)) (by intro x; rfl) .t .t (by omega) (by omega)) r2 trivial
     (cF rfl (oG 0 .t) r1 trivial
     (cF rfl (oR true 4 .t) r1 trivial
     (cF rfl (oF 0 102 .is) r1 r1
     (cF rfl (oL true 4 102 .adr) r1 r1
     (cF rfl (o_neqS (ks := [true, true, true, true]) (by kernel_rfl) .t .t (.int (.int (.int (.int .nil))))) r2 trivial
     (cF rfl (oM .t) r1 trivial
     (Chain.cons (Cert.cond rfl rfl (fun h => o_move .t (by rfl))) r2 trivial
     (Chain.cons (Cert.cond rfl rfl (fun h => o_move .t (by rfl))) r2 trivial
     (Chain.cons (Cert.cond rfl rfl (fun h => o_indexAddr_sl (sz := 5) (.mk Try.underlying28 (by kernel_rfl)) (by intro x; rfl) (.w h) (.w h) (by omega) (by omega))) r3 trivial
     (Chain.cons (Cert.cond rfl rfl (fun h => o_fieldAddr_ref (off := 4) (.w h) (by kernel_rfl))) r2 trivial
     (Chain.cons (Cert.cond rfl rfl (fun h => o_load_ref (ag := false) (sz := 1) (.w h) (by kernel_rfl) (by kernel_rfl) (by kernel_rfl))) r2 trivial
     (Chain.cons (Cert.cond rfl rfl (fun h => o_move .t (by rfl))) r2 trivial
     (Chain.cons (Cert.cond rfl rfl (fun h => o_fieldAddr (off := 4) 102 .is (by kernel_rfl) (by rfl))) r2 r1
     (Chain.cons (Cert.cond rfl rfl (fun h => o_load (ag := false) (sz := 1) 102 (.w h .adr) (by kernel_rfl) (by kernel_rfl) (by kernel_rfl) (by rfl))) r2 r1
     (Chain.cons (Cert.cond rfl rfl (fun h => o_mul (.w h) (.w h))) r3 trivial
     (Chain.cons (Cert.cond rfl rfl (fun h => o_neq (.w h) (.w h))) r3 trivial
     (cF rfl (o_or2 .t .t) r2 trivial
     Chain.nil))))))))))))))))))))
     (by kernel_rfl) (by rw [hB]; kernel_rfl) ?_
   clear hS; intro a w F hS
   obtain ⟨F, hS⟩ := hS.nm [58, 57, 56, 55, 54, 53, 52, 51, 50, 49, 48, 47, 46, 45, 44, 43, 42, 41, 40, 39, 38, 37, 36, 35, 34, 33, 32, 31, 30, 29, 28, 7, 6, 5, 4, 2] [102, 101, 0] rfl rfl
   try dsimp only [List.map, xD, xE, xT, xU, ldSF, rHist, rTx, rOrd, rVer, rInt, rOp, rEdge, rHv] at hS
   try simp only [Int.toNat_natCast] at hS
   refine then_n ?_
   refine cond_b hS rfl (fun hc6 => ?_) (fun hc6 => ?_)
   ·skip
    have h1 := hat.1
    have h2 := hat.2
    simp [h1, h2, hkd, hw1, hw2] at hc6
   refine wp_skip (block_n (then_n ?_))
   refine region_q hS
     (cF rfl (o_add .t (.ci (by kernel_rfl))) r1 trivial
     (cF rfl (oM .t) r1 trivial
     Chain.nil))
     hB ?_
   clear hS; intro a w F hS
   obtain ⟨F, hS⟩ := hS.nm [59, 58, 57, 56, 55, 54, 53, 52, 51, 50, 49, 48, 47, 46, 45, 44, 43, 42, 41, 40, 39, 38, 37, 36, 35, 34, 33, 32, 31, 30, 29, 28, 7, 6, 5, 4, 2] [102, 101, 0] rfl rfl
   try dsimp only [rHist, rTx, rOrd, rVer, rInt, rOp, rEdge, rHv] at hS
   refine then_n ?_
   replace hS := hS.ent (i := 30) (s' := .pv (.int .i64 ((i + 1 : Nat) : Int))) rfl (.int (wrap_succ (by omega)))
   obtain ⟨F, hS⟩ := hS.nm [29, 28, 4, 2, 30] [101, 0] rfl rfl
   exact ⟨(i + 1), F, ⟨by omega, trivial⟩, hS, by omega⟩
  have hil : i = (edgesL (wwC (fun _ => true) g) (rdC (fun _ => true) g)).length := by simp at hc3; omega
  refine wp_exit (then_x (then_x (block_x (then_n (wp_seq ?_)))))
  refine region_q hS
    (cF rfl (oN .cb) trivial trivial
    Chain.nil)
    hB ?_
  clear hS; intro a w F hS
  obtain ⟨F, hS⟩ := hS.nm [2] [101, 0] rfl rfl
  try dsimp only [rHist, rTx, rOrd, rVer, rInt, rOp, rEdge, rHv] at hS
  refine then_n (wp_ret ?_)
  refine ret_P hfr hS rfl (.tmp rfl .nil) (.one (.bool (by first | rfl | exact hg)))

end Go.Proofs.Ytdggmgiihdnlbaa
