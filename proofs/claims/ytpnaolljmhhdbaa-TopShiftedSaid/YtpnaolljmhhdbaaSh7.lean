/- TopShifted. No condition beyond those that each theorem says. -/
import Derived.Test.YtpnaolljmhhdbaaShY
import Derived.Test.YtpnaolljmhhdbaaShX
import Derived.Test.YtpnaolljmhhdbaaTw3
import Derived.Test.YtpnaolljmhhdbaaHiL
namespace Go.Proofs.Ytpnaolljmhhdbaa
open Go Go.Gm
set_option linter.unusedVariables false
set_option linter.unusedSimpArgs false
set_option maxHeartbeats 4000000
set_option maxRecDepth 8000

theorem small_shift {ia kc : Int} {g : HistD} (hs : Small g) : Small (shH ia kc g) := by
  refine ⟨⟨by show (g.txs.map (shT ia kc)).length ≤ 1000; rw [List.length_map]; exact hs.1.1, fun t ht => ?_⟩, by show (g.orders.map (shR ia kc)).length ≤ 1000; rw [List.length_map]; exact hs.2.1, fun o ho => ?_⟩
  · obtain ⟨v, hv, rfl⟩ := List.mem_map.1 ht
    show (v.ops.map (shO ia kc)).length ≤ 1000
    rw [List.length_map]; exact hs.1.2 v hv
  · obtain ⟨v, hv, rfl⟩ := List.mem_map.1 ho
    show (v.txs.map (· + ia)).length ≤ 1000
    rw [List.length_map]; exact hs.2.2 v hv

theorem topShifted_c (g : HistD) (ia kc : Int) : FnP Try.prog 5 [.agg (rHist g), .int .i64 ia, .int .i64 kc] (.bool true) := by
  refine FnP.mk Try.func5 rfl Try.ntmps5 rfl ?_
  intro B a w F hB hfr hS
  refine wp_seq ?_
  refine region_q hS
    (cF rfl (oX 101 (.conv .t .agg)) r1 trivial
    (cF rfl (oN .cb) trivial trivial
    Chain.nil))
    hB ?_
  clear hS; intro a w F hS
  replace hS := hS.sub
  obtain ⟨F, hS⟩ := hS.nm [6, 3, 2, 1] [101, 0] rfl rfl
  try dsimp only [RS.sub, SF.sub, CF.sub, csub, Anc.sub, List.map, zCF, rHist, rTx, rOrd, rVer, rInt, rOp, rEdge, rHv] at hS
  generalize Act.tau a 3 = v3 at hS
  refine then_n (wp_seq (wp_seq ?_))
  refine region_q hS
    (cF rfl (oP (begins08_c) Try.func14 Args.nil) trivial trivial
    (cF rfl (o_not .t) r1 trivial
    Chain.nil))
    hB ?_
  clear hS; intro a w F hS
  obtain ⟨F, hS⟩ := hS.nm [14, 6, 3, 2, 1] [101, 0] rfl rfl
  try dsimp only [rHist, rTx, rOrd, rVer, rInt, rOp, rEdge, rHv] at hS
  refine then_n ?_
  refine cond_b hS rfl (fun hc0 => ?_) (fun hc0 => ?_)
  ·skip
   simp at hc0
  refine wp_skip (then_n (wp_seq (wp_seq ?_)))
  refine region_q hS
    (cF rfl (oL true 2 101 .is) r1 r1
    (cF rfl (oP (lightH_c g) Try.func15 (Args.one (.pagg .t))) r1 trivial
    (cF rfl (o_not .t) r1 trivial
    (cF rfl (oM .t) r1 trivial
    (Chain.cons (Cert.cond rfl rfl (fun h => o_load (ag := true) (sz := 2) 101 .is (by kernel_rfl) (by kernel_rfl) (by kernel_rfl) (by rfl))) r2 r1
    (Chain.cons (Cert.cond rfl rfl (fun h => o_callP (low_c g 1000000 (HLight.small (by simpa using h)).1) Try.func16 rfl (by kernel_rfl) (Args.two (.pagg (.w h)) (.ci (by kernel_rfl))))) r2 trivial
    (Chain.cons (Cert.cond rfl rfl (fun h => o_not (.w h))) r2 trivial
    (cF rfl (o_or2 .t .t) r2 trivial
    (cF rfl (oM .t) r1 trivial
    (Chain.cons (Cert.cond rfl rfl (fun h => o_move .t (by rfl))) r2 trivial
    (Chain.cons (Cert.cond rfl rfl (fun h => o_lss (.w h) (.ci (by kernel_rfl)))) r2 trivial
    (cF rfl (o_or2 .t .t) r2 trivial
    (cF rfl (oM .t) r1 trivial
    (Chain.cons (Cert.cond rfl rfl (fun h => o_move .t (by rfl))) r2 trivial
    (Chain.cons (Cert.cond rfl rfl (fun h => o_gtr (.w h) (.ci (by kernel_rfl)))) r2 trivial
    (cF rfl (o_or2 .t .t) r2 trivial
    (cF rfl (oM .t) r1 trivial
    (Chain.cons (Cert.cond rfl rfl (fun h => o_move .t (by rfl))) r2 trivial
    (Chain.cons (Cert.cond rfl rfl (fun h => o_lss (.w h) (.ci (by kernel_rfl)))) r2 trivial
    (cF rfl (o_or2 .t .t) r2 trivial
    (cF rfl (oM .t) r1 trivial
    (Chain.cons (Cert.cond rfl rfl (fun h => o_move .t (by rfl))) r2 trivial
    (Chain.cons (Cert.cond rfl rfl (fun h => o_gtr (.w h) (.ci (by kernel_rfl)))) r2 trivial
    (cF rfl (o_or2 .t .t) r2 trivial
    (cF rfl (oM .t) r1 trivial
    (Chain.cons (Cert.cond rfl rfl (fun h => o_load (ag := true) (sz := 2) 101 .is (by kernel_rfl) (by kernel_rfl) (by kernel_rfl) (by rfl))) r2 r1
    (Chain.cons (Cert.cond rfl rfl (fun h => o_callP (rightH_c g (HLight.small (by simp at h; exact h.1.1.1.1.1))) Try.func17 rfl (by kernel_rfl) (Args.one (.pagg (.w h))))) r2 trivial
    (Chain.cons (Cert.cond rfl rfl (fun h => o_not (.w h))) r2 trivial
    (cF rfl (o_or2 .t .t) r2 trivial
    Chain.nil)))))))))))))))))))))))))))))
    hB ?_
  clear hS; intro a w F hS
  obtain ⟨F, hS⟩ := hS.nm [43, 6, 3, 2, 1] [101, 0] rfl rfl
  try dsimp only [List.map, xD, xE, xT, xU, ldSF, rHist, rTx, rOrd, rVer, rInt, rOp, rEdge, rHv] at hS
  refine then_n ?_
  refine cond_b hS rfl (fun hc1 => ?_) (fun hc1 => ?_)
  ·skip
   refine wp_seq ?_
   refine region_q hS
     (cF rfl (oN .cb) trivial trivial
     Chain.nil)
     hB ?_
   clear hS; intro a w F hS
   obtain ⟨F, hS⟩ := hS.nm [6, 3, 2, 1] [101, 0] rfl rfl
   try dsimp only [rHist, rTx, rOrd, rVer, rInt, rOp, rEdge, rHv] at hS
   refine then_n (wp_ret (then_r ?_))
   refine ret_P hfr hS rfl (.tmp rfl .nil) (.one (.bool (by first | rfl | exact hg)))
  have hsr : HLight g ∧ LowH 1000000 g ∧ (0 ≤ ia ∧ ia ≤ 40000) ∧ (0 ≤ kc ∧ kc ≤ 40000) ∧ RightH g := by have h9 := hc1; simp at h9; refine ⟨by simp [h9], by simp [h9], by omega, by omega, by simp [h9]⟩
  obtain ⟨hli, hl, hia, hkc, hr⟩ := hsr
  have hsm : Small g := HLight.small hli
  have hsd : Small (shH ia kc g) := small_shift hsm
  obtain ⟨hk1, hk2, _, _⟩ := id hli
  have hrs := right_shift hia hkc hl hr
  have hes := edges_shift hia hkc hl hr
  have hle : (edgesL (wwC (fun _ => true) (shH ia kc g)) (rdC (fun _ => true) (shH ia kc g))).length = (edgesL (wwC (fun _ => true) g) (rdC (fun _ => true) g)).length := by rw [hes, List.length_map]
  refine wp_skip (then_n (wp_seq ?_))
  refine region_q hS
    (cF rfl (oL true 2 101 .is) r1 r1
    (cF rfl (oM .t) r1 trivial
    (cF rfl (oM .t) r1 trivial
    (cF rfl (oP (shifted_c g ia kc hsm hia hkc hl (ops_right hr) (ord_low hl hr)) Try.func18 (Args.three (.pagg .t) .t .t)) r3 trivial
    (cF rfl (oH [.slice none 0 0, .slice none 0 0] 102) trivial trivial
    (cF rfl (oA 2 102 .same (.conv .t .agg)) r2 r1
    Chain.nil))))))
    hB ?_
  clear hS; intro a w F hS
  replace hS := hS.sub
  obtain ⟨F, hS⟩ := hS.nm [7, 6, 3, 2, 1] [102, 101, 0] rfl rfl
  try dsimp only [RS.sub, SF.sub, CF.sub, csub, Anc.sub, List.map, stCells, xL, xM, Nat.reduceAdd, xD, xE, xT, xU, xC, xN, zCF, ldSF, rHist, rTx, rOrd, rVer, rInt, rOp, rEdge, rHv] at hS
  generalize Act.tau a 7 = v7 at hS
  refine then_n (wp_seq ?_)
  refine region_any (by kernel_rfl) hS (by kernel_rfl)
    (cF rfl (oL true 2 101 .is) r1 r1
    (cF rfl (oP (edges_c g hsm (by have h1 := ww_len (p := (fun _ => true)) (g := g) hsm; have h2 := rd_len (p := (fun _ => true)) (g := g) hsm; omega)) Try.func19 (Args.one (.pagg .t))) r1 trivial
    (cF rfl (oL true 2 102 .is) r1 r1
    (cF rfl (oP (edges_c (shH ia kc g) hsd (by have h1 := ww_len (p := (fun _ => true)) (g := shH ia kc g) hsd; have h2 := rd_len (p := (fun _ => true)) (g := shH ia kc g) hsd; have h3 : (shH ia kc g).txs.length = g.txs.length := List.length_map _; have h4 : (shH ia kc g).orders.length = g.orders.length := List.length_map _; omega)) Try.func19 (Args.one (.pagg .t))) r1 trivial
    (cF rfl (oN .t) r1 trivial
    (cF rfl (oN .t) r1 trivial
    Chain.nil))))))
    (by kernel_rfl) (by rw [hB]; kernel_rfl) ?_
  clear hS; intro a w F hS
  obtain ⟨F, hS⟩ := hS.nm [9, 8, 7, 6, 2, 1] [102, 101, 0] rfl rfl
  try dsimp only [List.map, xD, xE, xT, xU, ldSF, rHist, rTx, rOrd, rVer, rInt, rOp, rEdge, rHv] at hS
  refine then_n (wp_seq (wp_seq ?_))
  refine region_q hS
    (cF rfl (oL true 2 102 .is) r1 r1
    (cF rfl (oP (rightH_c (shH ia kc g) hsd) Try.func17 (Args.one (.pagg .t))) r1 trivial
    (cF rfl (o_not .t) r1 trivial
    (cF rfl (oM .t) r1 trivial
    (Chain.cons (Cert.cond rfl rfl (fun h => o_move .t (by rfl))) r2 trivial
    (Chain.cons (Cert.cond rfl rfl (fun h => o_len_sl Try.underlying22 (.w h))) r2 trivial
    (Chain.cons (Cert.cond rfl rfl (fun h => o_move .t (by rfl))) r2 trivial
    (Chain.cons (Cert.cond rfl rfl (fun h => o_len_sl Try.underlying22 (.w h))) r2 trivial
    (Chain.cons (Cert.cond rfl rfl (fun h => o_neq (.w h) (.w h))) r3 trivial
    (cF rfl (o_or2 .t .t) r2 trivial
    Chain.nil))))))))))
    hB ?_
  clear hS; intro a w F hS
  obtain ⟨F, hS⟩ := hS.nm [61, 9, 8, 6, 2, 1] [102, 101, 0] rfl rfl
  try dsimp only [List.map, xD, xE, xT, xU, ldSF, rHist, rTx, rOrd, rVer, rInt, rOp, rEdge, rHv] at hS
  refine then_n ?_
  refine cond_b hS rfl (fun hc2 => ?_) (fun hc2 => ?_)
  ·skip
   simp [hrs, hle] at hc2
  have hel : (edgesL (wwC (fun _ => true) g) (rdC (fun _ => true) g)).length ≤ 1000000 := by
    rw [edgesL_len]
    refine Nat.le_trans (keysG_len _) ?_
    unfold allE
    have h1 := ww_len (p := (fun _ => true)) (g := g) hsm
    have h2 := rd_len (p := (fun _ => true)) (g := g) hsm
    rw [List.length_append, List.length_map]
    omega
  refine wp_skip (then_n (wp_seq (wp_seq ?_)))
  refine region_q hS
    (cF rfl (oM .t) r1 trivial
    (cF rfl (o_len_sl Try.underlying22 .t) r1 trivial
    (cF rfl (oM (.ci (by kernel_rfl))) trivial trivial
    Chain.nil)))
    hB ?_
  clear hS; intro a w F hS
  obtain ⟨F, hS⟩ := hS.nm [64, 63, 62, 9, 6, 2, 1] [102, 101, 0] rfl rfl
  try dsimp only [rHist, rTx, rOrd, rVer, rInt, rOp, rEdge, rHv] at hS
  refine then_n (wp_block ?_)
  refine loop_keep (σ := (Nat)) [1, 2, 6, 9, 62, 63] [0, 101, 102] (fun s => [(64, .pv (.int .i64 (s : Int)))]) (fun s => []) (fun s => s ≤ (edgesL (wwC (fun _ => true) g) (rdC (fun _ => true) g)).length ∧ (True)) (fun s => (edgesL (wwC (fun _ => true) g) (rdC (fun _ => true) g)).length - s) (0) hS ⟨rfl, rfl, rfl, rfl, rfl, rfl, rfl, trivial⟩ ⟨rfl, rfl, rfl, trivial⟩ ⟨Nat.zero_le _, trivial⟩ ?_
  clear hS; intro i a w F hC hS
  try dsimp only at hC
  obtain ⟨F, hS⟩ := hS.nm [64, 63, 62, 9, 6, 2, 1] [102, 101, 0] rfl rfl
  try dsimp only at hS
  obtain ⟨hi, hq⟩ := hC
  refine wp_seq ?_
  refine region_q hS
    (cF rfl (o_lss .t .t) r2 trivial
    Chain.nil)
    hB ?_
  clear hS; intro a w F hS
  obtain ⟨F, hS⟩ := hS.nm [65, 64, 63, 62, 9, 6, 2, 1] [102, 101, 0] rfl rfl
  try dsimp only [rHist, rTx, rOrd, rVer, rInt, rOp, rEdge, rHv] at hS
  refine then_n (wp_seq ?_)
  refine cond_b hS rfl (fun hc3 => ?_) (fun hc3 => ?_)
  ·skip
   have hil : i < (edgesL (wwC (fun _ => true) g) (rdC (fun _ => true) g)).length := by simp at hc3; omega
   have hat : Go.Gm.nth (edgesL (wwC (fun _ => true) (shH ia kc g)) (rdC (fun _ => true) (shH ia kc g))) i = shX ia kc (Go.Gm.nth (edgesL (wwC (fun _ => true) g) (rdC (fun _ => true) g)) i) := by rw [hes, nth_map hil]
   have hlo := edges_low hl hr hil
   unfold lowE at hlo
   have hw1 : IntKind.wrap .i64 ((Go.Gm.nth (edgesL (wwC (fun _ => true) g) (rdC (fun _ => true) g)) i).edge.src + ia) = (Go.Gm.nth (edgesL (wwC (fun _ => true) g) (rdC (fun _ => true) g)) i).edge.src + ia := wrap_i64 (by omega)
   have hw2 : IntKind.wrap .i64 ((Go.Gm.nth (edgesL (wwC (fun _ => true) g) (rdC (fun _ => true) g)) i).edge.dst + ia) = (Go.Gm.nth (edgesL (wwC (fun _ => true) g) (rdC (fun _ => true) g)) i).edge.dst + ia := wrap_i64 (by omega)
   have hw3 : IntKind.wrap .i64 ((Go.Gm.nth (edgesL (wwC (fun _ => true) g) (rdC (fun _ => true) g)) i).edge.key + kc) = (Go.Gm.nth (edgesL (wwC (fun _ => true) g) (rdC (fun _ => true) g)) i).edge.key + kc := wrap_i64 (by omega)
   refine wp_skip (then_n (wp_seq (wp_block (wp_seq ?_))))
   refine region_q hS
     (cF rfl (oM .t) r1 trivial
     (cF rfl (o_indexAddr_sl (sz := 5) (.mk Try.underlying22 (by kernel_rfl)) (by intro x; rfl) .t .t (by omega) (by omega)) r2 trivial
     (cF rfl (oR true 5 .t) r1 trivial
     (cF rfl (oH [.int .i64 0, .int .i64 0, .int .i64 0, .int .i64 0, .int .i64 0] 103) trivial trivial
     (cF rfl (oN .t) r1 trivial
     (cF rfl (oA 5 103 .same .t) r2 r1
     Chain.nil))))))
     hB ?_
   clear hS; intro a w F hS
   replace hS := hS.sub
   obtain ⟨F, hS⟩ := hS.nm [68, 67, 66, 65, 64, 63, 62, 11, 10, 9, 6, 2, 1] [103, 102, 101, 0] rfl rfl
   try dsimp only [RS.sub, SF.sub, CF.sub, csub, Anc.sub, List.map, stCells, xL, xM, Nat.reduceAdd, xD, xE, xT, xU, xC, xN, zCF, ldSF, rHist, rTx, rOrd, rVer, rInt, rOp, rEdge, rHv] at hS
   generalize Act.tau a 11 = v11 at hS
   try simp only [Int.toNat_natCast] at hS
   refine then_n (wp_seq ?_)
   refine region_q hS
     (cF rfl (oF 0 103 .is) r1 r1
     (cF rfl (oL true 4 103 .adr) r1 r1
     (cF rfl (oH [.int .i64 0, .int .i64 0, .int .i64 0, .int .i64 0] 104) trivial trivial
     (cF rfl (oA 4 104 .same .t) r2 r1
     Chain.nil))))
     hB ?_
   clear hS; intro a w F hS
   replace hS := hS.sub
   obtain ⟨F, hS⟩ := hS.nm [70, 69, 68, 67, 66, 65, 64, 63, 62, 12, 11, 10, 9, 6, 2, 1] [104, 103, 102, 101, 0] rfl rfl
   try dsimp only [RS.sub, SF.sub, CF.sub, csub, Anc.sub, List.map, stCells, xL, xM, Nat.reduceAdd, xD, xE, xT, xU, xC, xN, zCF, ldSF, rHist, rTx, rOrd, rVer, rInt, rOp, rEdge, rHv] at hS
   generalize Act.tau a 12 = v12 at hS
   refine then_n (wp_seq ?_)
   refine region_any (by kernel_rfl) hS (by kernel_rfl)
     (cF rfl (oM .t) r1 trivial
     (cF rfl (oM .t) r1 trivial
     (cF rfl (o_indexAddr_sl (sz := 5) (.mk Try.underlying22 (by kernel_rfl)) (by intro x; rfl) .t .t (by omega) (by omega)) r2 trivial
     (cF rfl (oG 4 .t) r1 trivial
     (cF rfl (oR false 1 .t) r1 trivial
     (cF rfl (oF 4 103 .is) r1 r1
     (cF rfl (oL false 1 103 .adr) r1 r1
     (cF rfl (o_neq .t .t) r2 trivial
     (cF rfl (oM .t) r1 trivial
     (Chain.cons (Cert.cond rfl rfl (fun h => o_move .t (by rfl))) r2 trivial
     (Chain.cons (Cert.cond rfl rfl (fun h => o_move .t (by rfl))) r2 trivial
     (Chain.cons (Cert.cond rfl rfl (fun h => o_indexAddr_sl (sz := 5) (.mk Try.underlying22 (by kernel_rfl)) (by intro x; rfl) (.w h) (.w h) (by omega) (by omega))) r3 trivial
     (Chain.cons (Cert.cond rfl rfl (fun h => o_fieldAddr_ref (off := 0) (.w h) (by kernel_rfl))) r2 trivial
     (Chain.cons (Cert.cond rfl rfl (fun h => o_load_ref (ag := true) (sz := 4) (.w h) (by kernel_rfl) (by kernel_rfl) (by kernel_rfl))) r2 trivial
     (Chain.cons (Cert.cond rfl rfl (fun h => o_fieldAddr (off := 0) 104 .is (by kernel_rfl) (by rfl))) r2 r1
     (Chain.cons (Cert.cond rfl rfl (fun h => o_load (ag := false) (sz := 1) 104 (.w h .adr) (by kernel_rfl) (by kernel_rfl) (by kernel_rfl) (by rfl))) r2 r1
     (Chain.cons (Cert.cond rfl rfl (fun h => o_move .t (by rfl))) r2 trivial
     (Chain.cons (Cert.cond rfl rfl (fun h => o_add (.w h) (.w h))) r3 trivial
     (Chain.cons (Cert.cond rfl rfl (fun h => o_fieldAddr (off := 1) 104 .is (by kernel_rfl) (by rfl))) r2 r1
     (Chain.cons (Cert.cond rfl rfl (fun h => o_load (ag := false) (sz := 1) 104 (.w h .adr) (by kernel_rfl) (by kernel_rfl) (by kernel_rfl) (by rfl))) r2 r1
     (Chain.cons (Cert.cond rfl rfl (fun h => o_move .t (by rfl))) r2 trivial
     (Chain.cons (Cert.cond rfl rfl (fun h => o_add (.w h) (.w h))) r3 trivial
     (Chain.cons (Cert.cond rfl rfl (fun h => o_fieldAddr (off := 2) 104 .is (by kernel_rfl) (by rfl))) r2 r1
     (Chain.cons (Cert.cond rfl rfl (fun h => o_load (ag := false) (sz := 1) 104 (.w h .adr) (by kernel_rfl) (by kernel_rfl) (by kernel_rfl) (by rfl))) r2 r1
     (Chain.cons (Cert.cond rfl rfl (fun h => o_fieldAddr (off := 3) 104 .is (by kernel_rfl) (by rfl))) r2 r1
     (Chain.cons (Cert.cond rfl rfl (fun h => o_load (ag := false) (sz := 1) 104 (.w h .adr) (by kernel_rfl) (by kernel_rfl) (by kernel_rfl) (by rfl))) r2 r1
     (Chain.cons (Cert.cond rfl rfl (fun h => o_move .t (by rfl))) r2 trivial
     (Chain.cons (Cert.cond rfl rfl (fun h => o_add (.w h) (.w h))) r3 trivial
     (Chain.cons (Cert.cond rfl rfl (fun h => o_build (r := [(0, .tmp 88), (1, .tmp 92), (2, .tmp 94), (3, .tmp 98)]) (zs := [.int .i64 0, .int .i64 0, .int .i64 0, .int .i64 0]) (pl := [(0, 1), (1, 1), (2, 1), (3, 1)]) (by kernel_rfl) (by kernel_rfl) (.one rfl (.w h) one_int (by kernel_rfl) (.one rfl (.w h) one_int (by kernel_rfl) (.one rfl (.w h) one_int (by kernel_rfl) (.one rfl (.w h) one_int (by kernel_rfl) .nil)))) (by rfl))) r5 trivial
     (Chain.cons (Cert.cond rfl rfl (fun h => o_neqS (ks := [true, true, true, true]) (by kernel_rfl) (.w h) (.w h) (.int (.int (.int (.int .nil)))))) r3 trivial
     (cF rfl (o_or2 .t .t) r2 trivial
     Chain.nil)))))))))))))))))))))))))))))))
     (by kernel_rfl) (by rw [hB]; kernel_rfl) ?_
   clear hS; intro a w F hS
   obtain ⟨F, hS⟩ := hS.nm [101, 100, 99, 98, 97, 96, 95, 94, 93, 92, 91, 90, 89, 88, 87, 86, 85, 84, 83, 82, 81, 80, 79, 78, 77, 76, 75, 74, 73, 72, 71, 70, 69, 68, 67, 66, 65, 64, 63, 62, 12, 11, 10, 9, 6, 2, 1] [104, 103, 102, 101, 0] rfl rfl
   try dsimp only [List.map, stCells, xL, xM, Nat.reduceAdd, xD, xE, xT, xU, xC, xN, zCF, ldSF, rHist, rTx, rOrd, rVer, rInt, rOp, rEdge, rHv] at hS
   try simp only [Int.toNat_natCast] at hS
   refine then_n ?_
   refine cond_b hS rfl (fun hc4 => ?_) (fun hc4 => ?_)
   ·skip
    simp [hat, shX, shE, hw1, hw2, hw3] at hc4
   refine wp_skip (block_n (then_n ?_))
   refine region_q hS
     (cF rfl (o_add .t (.ci (by kernel_rfl))) r1 trivial
     (cF rfl (oM .t) r1 trivial
     Chain.nil))
     hB ?_
   clear hS; intro a w F hS
   obtain ⟨F, hS⟩ := hS.nm [102, 101, 100, 99, 98, 97, 96, 95, 94, 93, 92, 91, 90, 89, 88, 87, 86, 85, 84, 83, 82, 81, 80, 79, 78, 77, 76, 75, 74, 73, 72, 71, 70, 69, 68, 67, 66, 65, 64, 63, 62, 12, 11, 10, 9, 6, 2, 1] [104, 103, 102, 101, 0] rfl rfl
   try dsimp only [rHist, rTx, rOrd, rVer, rInt, rOp, rEdge, rHv] at hS
   refine then_n ?_
   replace hS := hS.ent (i := 64) (s' := .pv (.int .i64 ((i + 1 : Nat) : Int))) rfl (.int (wrap_succ (by omega)))
   obtain ⟨F, hS⟩ := hS.nm [63, 62, 9, 6, 2, 1, 64] [102, 101, 0] rfl rfl
   exact ⟨(i + 1), F, ⟨by omega, trivial⟩, hS, by omega⟩
  have hil : i = (edgesL (wwC (fun _ => true) g) (rdC (fun _ => true) g)).length := by simp at hc3; omega
  refine wp_exit (then_x (then_x (block_x (then_n (wp_seq ?_)))))
  refine region_q hS
    (cF rfl (oN .cb) trivial trivial
    Chain.nil)
    hB ?_
  clear hS; intro a w F hS
  obtain ⟨F, hS⟩ := hS.nm [6] [102, 101, 0] rfl rfl
  try dsimp only [rHist, rTx, rOrd, rVer, rInt, rOp, rEdge, rHv] at hS
  refine then_n (wp_ret ?_)
  refine ret_P hfr hS rfl (.tmp rfl .nil) (.one (.bool (by first | rfl | exact hg)))

end Go.Proofs.Ytpnaolljmhhdbaa
