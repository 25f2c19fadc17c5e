/- OffendBoth. No condition beyond those that each theorem says. -/
import Derived.Test.YtdfidiehkkbimaaDsX
import Derived.Test.YtdfidiehkkbimaaOf4
namespace Go.Proofs.Ytdfidiehkkbimaa
open Go Go.Gm
set_option linter.unusedVariables false
set_option linter.unusedSimpArgs false
set_option maxHeartbeats 4000000
set_option maxRecDepth 8000

set_option maxRecDepth 60000

theorem offendBoth_c (g : HistD) : FnP Try.prog 5 [.agg (rHist g)] (.bool true) := by
  refine FnP.mk Try.func5 rfl Try.ntmps5 rfl ?_
  intro B a w F hB hfr hS
  refine wp_seq ?_
  refine region_q hS
    (cF rfl (oX 101 (.conv .t .agg)) r1 trivial
    (cF rfl (oN .cb) trivial trivial
    Chain.nil))
    hB ?_
  clear hS; intro a w F hS
  replace hS := hS.sub
  obtain ⟨F, hS⟩ := hS.nm [2, 1] [101, 0] rfl rfl
  try dsimp only [RS.sub, SF.sub, CF.sub, csub, Anc.sub, List.map, zCF, rHist, rTx, rOrd, rVer, rInt, rOp, rBad, rEdge] at hS
  generalize Act.tau a 1 = v1 at hS
  refine then_n (wp_seq (wp_seq ?_))
  refine region_q hS
    (cF rfl (oP (lives18_c) Try.func16 Args.nil) trivial trivial
    (cF rfl (o_not .t) r1 trivial
    Chain.nil))
    hB ?_
  clear hS; intro a w F hS
  obtain ⟨F, hS⟩ := hS.nm [16, 2, 1] [101, 0] rfl rfl
  try dsimp only [rHist, rTx, rOrd, rVer, rInt, rOp, rBad, rEdge] at hS
  refine then_n ?_
  refine cond_b hS rfl (fun hc0 => ?_) (fun hc0 => ?_)
  ·skip
   simp at hc0
  refine wp_skip (then_n (wp_seq (wp_seq ?_)))
  refine region_q hS
    (cF rfl (oL true 2 101 .is) r1 r1
    (cF rfl (oP (lightH_c g) Try.func17 (Args.one (.pagg .t))) r1 trivial
    (cF rfl (o_not .t) r1 trivial
    (cF rfl (oM .t) r1 trivial
    (Chain.cons (Cert.cond rfl rfl (fun h => o_load (ag := true) (sz := 2) 101 .is (by kernel_rfl) (by kernel_rfl) (by kernel_rfl) (by rfl))) r2 r1
    (Chain.cons (Cert.cond rfl rfl (fun h => o_callP (rightH_c g (HLight.small (by simpa using h))) Try.func18 rfl (by kernel_rfl) (Args.one (.pagg (.w h))))) r2 trivial
    (Chain.cons (Cert.cond rfl rfl (fun h => o_not (.w h))) r2 trivial
    (cF rfl (o_or2 .t .t) r2 trivial
    Chain.nil))))))))
    hB ?_
  clear hS; intro a w F hS
  obtain ⟨F, hS⟩ := hS.nm [24, 2, 1] [101, 0] rfl rfl
  try dsimp only [List.map, xD, xE, xT, xU, ldSF, rHist, rTx, rOrd, rVer, rInt, rOp, rBad, rEdge] at hS
  refine then_n ?_
  refine cond_b hS rfl (fun hc1 => ?_) (fun hc1 => ?_)
  ·skip
   refine wp_seq ?_
   refine region_q hS
     (cF rfl (oN .cb) trivial trivial
     Chain.nil)
     hB ?_
   clear hS; intro a w F hS
   obtain ⟨F, hS⟩ := hS.nm [2, 1] [101, 0] rfl rfl
   try dsimp only [rHist, rTx, rOrd, rVer, rInt, rOp, rBad, rEdge] at hS
   refine then_n (wp_ret (then_r ?_))
   refine ret_P hfr hS rfl (.tmp rfl .nil) (.one (.bool (by first | rfl | exact hg)))
  have hsr : HLight g ∧ RightH g := by simpa using hc1
  have hsm : Small g := HLight.small hsr.1
  have hr := hsr.2
  have hs := hsm.1
  have hsl := hs.1
  have hbl := bads_len hs 2 (fun _ => true)
  refine wp_skip (then_n (wp_seq ?_))
  refine region_any (by kernel_rfl) hS (by kernel_rfl)
    (cF rfl (oL true 2 101 .is) r1 r1
    (cF rfl (oP (of_c g 2 hsm) Try.func19 (Args.two (.pagg .t) (.ci (by kernel_rfl)))) r1 trivial
    (cF rfl (oL true 2 101 .is) r1 r1
    (cF rfl (oP (of_c g 3 hsm) Try.func19 (Args.two (.pagg .t) (.ci (by kernel_rfl)))) r1 trivial
    (cF rfl (oN .t) r1 trivial
    (cF rfl (oN .t) r1 trivial
    Chain.nil))))))
    (by kernel_rfl) (by rw [hB]; kernel_rfl) ?_
  clear hS; intro a w F hS
  obtain ⟨F, hS⟩ := hS.nm [4, 3, 2, 1] [101, 0] rfl rfl
  try dsimp only [List.map, xD, xE, xT, xU, ldSF, rHist, rTx, rOrd, rVer, rInt, rOp, rBad, rEdge] at hS
  refine then_n (wp_seq (wp_seq ?_))
  refine region_q hS
    (cF rfl (oN (.ci (by kernel_rfl))) trivial trivial
    Chain.nil)
    hB ?_
  clear hS; intro a w F hS
  obtain ⟨F, hS⟩ := hS.nm [5, 4, 3, 2, 1] [101, 0] rfl rfl
  try dsimp only [rHist, rTx, rOrd, rVer, rInt, rOp, rBad, rEdge] at hS
  refine then_n (wp_block ?_)
  replace hS := hS.ent (i := 5) (s' := .pv (.int .i64 ((0 + 1 : Nat) : Int))) rfl (.int rfl)
  refine loop_keep (σ := Nat) [1, 2, 3, 4] [0, 101] (fun s => [(5, .pv (.int .i64 ((s + 1 : Nat) : Int)))]) (fun s => []) (fun s => s ≤ (badsH g 2 (fun _ => true)).length) (fun s => (badsH g 2 (fun _ => true)).length - s) (0) hS ⟨rfl, rfl, rfl, rfl, rfl, trivial⟩ ⟨rfl, rfl, trivial⟩ (Nat.zero_le _) ?_
  clear hS; intro i a w F hC hS
  try dsimp only at hC
  obtain ⟨F, hS⟩ := hS.nm [5, 4, 3, 2, 1] [101, 0] rfl rfl
  try dsimp only at hS
  have hwi : IntKind.wrap .i64 (((i + 1 : Nat) : Int) - 1) = (i : Int) := by rw [wrap_i64 (by omega)]; omega
  refine wp_seq (wp_seq ?_)
  refine region_q hS
    (cF rfl (oM .t) r1 trivial
    (cF rfl (oM .t) r1 trivial
    (cF rfl (o_len_sl Try.underlying44 .t) r1 trivial
    (cF rfl (o_lss .t .t) r2 trivial
    Chain.nil))))
    hB ?_
  clear hS; intro a w F hS
  obtain ⟨F, hS⟩ := hS.nm [32, 31, 30, 29, 5, 4, 3, 2, 1] [101, 0] rfl rfl
  try dsimp only [rHist, rTx, rOrd, rVer, rInt, rOp, rBad, rEdge] at hS
  refine then_n ?_
  refine cond_b hS rfl (fun hc2 => ?_) (fun hc2 => ?_)
  ·skip
   have hil : i + 1 < (badsH g 2 (fun _ => true)).length := by simp at hc2; omega
   refine wp_skip (then_n (wp_seq (wp_block (wp_seq ?_))))
   refine region_any (by kernel_rfl) hS (by kernel_rfl)
     (cF rfl (oM .t) r1 trivial
     (cF rfl (oM .t) r1 trivial
     (cF rfl (o_sub .t (.ci (by kernel_rfl))) r1 trivial
     (cF rfl (o_indexAddr_sl (sz := 5) (.mk Try.underlying44 (by kernel_rfl)) (by intro x; rfl) .t .t (by rw [hwi]; omega) (by rw [hwi]; omega)) r2 trivial
     (cF rfl (oR true 5 .t) r1 trivial
     (cF rfl (oM .t) r1 trivial
     (cF rfl (oM .t) r1 trivial
     (cF rfl (o_indexAddr_sl (sz := 5) (.mk Try.underlying44 (by kernel_rfl)) (by intro x; rfl) .t .t (by omega) (by omega)) r2 trivial
     (cF rfl (oR true 5 .t) r1 trivial
     (cF rfl (oP (lessBad_c (Go.Gm.nth (badsH g 2 (fun _ => true)) (IntKind.wrap .i64 (((i + 1 : Nat) : Int) - 1)).toNat) (Go.Gm.nth (badsH g 2 (fun _ => true)) ((i + 1 : Nat) : Int).toNat)) Try.func20 (Args.two (.pagg .t) (.pagg .t))) r2 trivial
     (cF rfl (o_not .t) r1 trivial
     Chain.nil)))))))))))
     (by kernel_rfl) (by rw [hB]; kernel_rfl) ?_
   clear hS; intro a w F hS
   obtain ⟨F, hS⟩ := hS.nm [45, 44, 43, 42, 41, 40, 39, 38, 37, 36, 35, 32, 31, 30, 29, 5, 4, 3, 2, 1] [101, 0] rfl rfl
   try dsimp only [List.map, xD, xE, xT, xU, ldSF, rHist, rTx, rOrd, rVer, rInt, rOp, rBad, rEdge] at hS
   try simp only [Int.toNat_natCast] at hS
   refine then_n ?_
   refine cond_b hS rfl (fun hc3 => ?_) (fun hc3 => ?_)
   ·skip
    try rw [hwi] at hc3
    try simp only [Int.toNat_natCast] at hc3
    rw [bads_sorted hil] at hc3
    simp at hc3
   refine wp_skip (block_n (then_n ?_))
   refine region_q hS
     (cF rfl (oM .t) r1 trivial
     (cF rfl (o_add .t (.ci (by kernel_rfl))) r1 trivial
     (cF rfl (oN .t) r1 trivial
     Chain.nil)))
     hB ?_
   clear hS; intro a w F hS
   obtain ⟨F, hS⟩ := hS.nm [45, 44, 43, 42, 41, 40, 39, 38, 37, 36, 35, 34, 33, 32, 31, 30, 29, 5, 4, 3, 2, 1] [101, 0] rfl rfl
   try dsimp only [rHist, rTx, rOrd, rVer, rInt, rOp, rBad, rEdge] at hS
   refine then_n ?_
   replace hS := hS.ent (i := 5) (s' := .pv (.int .i64 ((i + 1 + 1 : Nat) : Int))) rfl (.int (wrap_succ (by omega)))
   obtain ⟨F, hS⟩ := hS.nm [4, 3, 2, 1, 5] [101, 0] rfl rfl
   exact ⟨(i + 1), F, (show i + 1 ≤ (badsH g 2 (fun _ => true)).length by omega), hS, by omega⟩
  refine wp_exit (then_x (then_x (block_x (then_n (wp_seq (wp_seq ?_))))))
  refine region_q hS
    (cF rfl (oF 0 101 .is) r1 r1
    (cF rfl (oL false 1 101 .adr) r1 r1
    (cF rfl (o_len_sl Try.underlying39 .t) r1 trivial
    (cF rfl (oM (.ci (by kernel_rfl))) trivial trivial
    Chain.nil))))
    hB ?_
  clear hS; intro a w F hS
  obtain ⟨F, hS⟩ := hS.nm [49, 48, 47, 4, 3, 2, 1] [101, 0] rfl rfl
  try dsimp only [List.map, xD, xE, xT, xU, ldSF, rHist, rTx, rOrd, rVer, rInt, rOp, rBad, rEdge] at hS
  refine then_n (wp_block ?_)
  refine loop_keep (σ := (Nat)) [1, 2, 3, 4, 47, 48] [0, 101] (fun s => [(49, .pv (.int .i64 (s : Int)))]) (fun s => []) (fun s => s ≤ g.txs.length ∧ (True)) (fun s => g.txs.length - s) (0) hS ⟨rfl, rfl, rfl, rfl, rfl, rfl, rfl, trivial⟩ ⟨rfl, rfl, trivial⟩ ⟨Nat.zero_le _, trivial⟩ ?_
  clear hS; intro i a w F hC hS
  try dsimp only at hC
  obtain ⟨F, hS⟩ := hS.nm [49, 48, 47, 4, 3, 2, 1] [101, 0] rfl rfl
  try dsimp only at hS
  obtain ⟨hi, hq⟩ := hC
  have hxl := fun hil : i < g.txs.length => hs.at hil
  refine wp_seq ?_
  refine region_q hS
    (cF rfl (o_lss .t .t) r2 trivial
    Chain.nil)
    hB ?_
  clear hS; intro a w F hS
  obtain ⟨F, hS⟩ := hS.nm [50, 49, 48, 47, 4, 3, 2, 1] [101, 0] rfl rfl
  try dsimp only [rHist, rTx, rOrd, rVer, rInt, rOp, rBad, rEdge] at hS
  refine then_n (wp_seq ?_)
  refine cond_b hS rfl (fun hc4 => ?_) (fun hc4 => ?_)
  ·skip
   have hil : i < g.txs.length := by simp at hc4; omega
   have hio := hil
   have htl := hxl hil
   refine wp_skip (then_n (wp_seq (wp_block (wp_seq ?_))))
   refine region_q hS
     (cF rfl (o_indexAddr_sl (sz := 3) (.mk Try.underlying39 (by kernel_rfl)) (by intro x; rfl) .t .t (by omega) (by omega)) r2 trivial
     (cF rfl (oR true 3 .t) r1 trivial
     (cF rfl (oH [.int .i64 0, .bool false, .slice none 0 0] 102) trivial trivial
     (cF rfl (oA 3 102 .same .t) r2 r1
     Chain.nil))))
     hB ?_
   clear hS; intro a w F hS
   replace hS := hS.sub
   obtain ⟨F, hS⟩ := hS.nm [52, 51, 50, 49, 48, 47, 7, 4, 3, 2, 1] [102, 101, 0] rfl rfl
   try dsimp only [RS.sub, SF.sub, CF.sub, csub, Anc.sub, List.map, stCells, xL, xM, Nat.reduceAdd, xD, xE, xT, xU, xC, xN, zCF, ldSF, rHist, rTx, rOrd, rVer, rInt, rOp, rBad, rEdge] at hS
   generalize Act.tau a 7 = v7 at hS
   try simp only [Int.toNat_natCast] at hS
   refine then_n (wp_seq ?_)
   refine region_q hS
     (cF rfl (oF 2 102 .is) r1 r1
     (cF rfl (oL false 1 102 .adr) r1 r1
     (cF rfl (o_len_sl Try.underlying51 .t) r1 trivial
     (cF rfl (oM (.ci (by kernel_rfl))) trivial trivial
     Chain.nil))))
     hB ?_
   clear hS; intro a w F hS
   obtain ⟨F, hS⟩ := hS.nm [56, 55, 54, 53, 52, 51, 50, 49, 48, 47, 7, 4, 3, 2, 1] [102, 101, 0] rfl rfl
   try dsimp only [List.map, xD, xE, xT, xU, ldSF, rHist, rTx, rOrd, rVer, rInt, rOp, rBad, rEdge] at hS
   refine then_n (wp_block ?_)
   refine loop_keep (σ := (Nat)) [1, 2, 3, 4, 7, 47, 48, 49, 50, 51, 52, 53, 54, 55] [0, 101, 102] (fun s => [(56, .pv (.int .i64 (s : Int)))]) (fun s => []) (fun s => s ≤ (Go.Gm.nth g.txs i).ops.length ∧ (True)) (fun s => (Go.Gm.nth g.txs i).ops.length - s) (0) hS ⟨rfl, rfl, rfl, rfl, rfl, rfl, rfl, rfl, rfl, rfl, rfl, rfl, rfl, rfl, rfl, trivial⟩ ⟨rfl, rfl, rfl, trivial⟩ ⟨Nat.zero_le _, trivial⟩ ?_
   clear hS; intro j a w F hC hS
   try dsimp only at hC
   obtain ⟨F, hS⟩ := hS.nm [56, 55, 54, 53, 52, 51, 50, 49, 48, 47, 7, 4, 3, 2, 1] [102, 101, 0] rfl rfl
   try dsimp only at hS
   obtain ⟨hi, hq⟩ := hC
   refine wp_seq ?_
   refine region_q hS
     (cF rfl (o_lss .t .t) r2 trivial
     Chain.nil)
     hB ?_
   clear hS; intro a w F hS
   obtain ⟨F, hS⟩ := hS.nm [57, 56, 55, 54, 53, 52, 51, 50, 49, 48, 47, 7, 4, 3, 2, 1] [102, 101, 0] rfl rfl
   try dsimp only [rHist, rTx, rOrd, rVer, rInt, rOp, rBad, rEdge] at hS
   refine then_n (wp_seq ?_)
   refine cond_b hS rfl (fun hc5 => ?_) (fun hc5 => ?_)
   ·skip
    have hil : j < (Go.Gm.nth g.txs i).ops.length := by simp at hc5; omega
    refine wp_skip (then_n (wp_seq (wp_block (wp_seq ?_))))
    refine region_q hS
      (cF rfl (oM .t) r1 trivial
      (cF rfl (o_indexAddr_sl (sz := 4) (.mk Try.underlying51 (by kernel_rfl)) (by intro x; rfl) .t .t (by omega) (by omega)) r2 trivial
      (cF rfl (oR true 4 .t) r1 trivial
      (cF rfl (oH [.bool false, .int .i64 0, .int .i64 0, .int .i64 0] 103) trivial trivial
      (cF rfl (oN .t) r1 trivial
      (cF rfl (oA 4 103 .same .t) r2 r1
      Chain.nil))))))
      hB ?_
    clear hS; intro a w F hS
    replace hS := hS.sub
    obtain ⟨F, hS⟩ := hS.nm [60, 59, 58, 57, 56, 55, 54, 53, 52, 51, 50, 49, 48, 47, 9, 8, 7, 4, 3, 2, 1] [103, 102, 101, 0] rfl rfl
    try dsimp only [RS.sub, SF.sub, CF.sub, csub, Anc.sub, List.map, stCells, xL, xM, Nat.reduceAdd, xD, xE, xT, xU, xC, xN, zCF, ldSF, rHist, rTx, rOrd, rVer, rInt, rOp, rBad, rEdge] at hS
    generalize Act.tau a 9 = v9 at hS
    try simp only [Int.toNat_natCast] at hS
    refine then_n (wp_seq (wp_seq ?_))
    refine region_q hS
      (cF rfl (oF 1 102 .is) r1 r1
      (cF rfl (oL false 1 102 .adr) r1 r1
      (cF rfl (o_not .t) r1 trivial
      (cF rfl (oM .t) r1 trivial
      (Chain.cons (Cert.cond rfl rfl (fun h => o_fieldAddr (off := 0) 103 .is (by kernel_rfl) (by rfl))) r2 r1
      (Chain.cons (Cert.cond rfl rfl (fun h => o_load (ag := false) (sz := 1) 103 (.w h .adr) (by kernel_rfl) (by kernel_rfl) (by kernel_rfl) (by rfl))) r2 r1
      (Chain.cons (Cert.cond rfl rfl (fun h => o_not (.w h))) r2 trivial
      (cF rfl (o_or2 .t .t) r2 trivial
      (cF rfl (oM .t) r1 trivial
      (Chain.cons (Cert.cond rfl rfl (fun h => o_fieldAddr (off := 2) 103 .is (by kernel_rfl) (by rfl))) r2 r1
      (Chain.cons (Cert.cond rfl rfl (fun h => o_load (ag := false) (sz := 1) 103 (.w h .adr) (by kernel_rfl) (by kernel_rfl) (by kernel_rfl) (by rfl))) r2 r1
      (Chain.cons (Cert.cond rfl rfl (fun h => o_eql (.w h) (.ci (by kernel_rfl)))) r2 trivial
      (cF rfl (o_or2 .t .t) r2 trivial
      (cF rfl (oM .t) r1 trivial
      (Chain.cons (Cert.cond rfl rfl (fun h => o_fieldAddr (off := 2) 103 .is (by kernel_rfl) (by rfl))) r2 r1
      (Chain.cons (Cert.cond rfl rfl (fun h => o_load (ag := false) (sz := 1) 103 (.w h .adr) (by kernel_rfl) (by kernel_rfl) (by kernel_rfl) (by rfl))) r2 r1
      (Chain.cons (Cert.cond rfl rfl (fun h => o_fieldAddr (off := 0) 102 .is (by kernel_rfl) (by rfl))) r2 r1
      (Chain.cons (Cert.cond rfl rfl (fun h => o_load (ag := false) (sz := 1) 102 (.w h .adr) (by kernel_rfl) (by kernel_rfl) (by kernel_rfl) (by rfl))) r2 r1
      (Chain.cons (Cert.cond rfl rfl (fun h => o_eql (.w h) (.w h))) r3 trivial
      (cF rfl (o_or2 .t .t) r2 trivial
      Chain.nil))))))))))))))))))))
      hB ?_
    clear hS; intro a w F hS
    obtain ⟨F, hS⟩ := hS.nm [80, 79, 78, 77, 76, 75, 74, 73, 72, 71, 70, 69, 68, 67, 66, 65, 64, 63, 62, 61, 60, 59, 58, 57, 56, 55, 54, 53, 52, 51, 50, 49, 48, 47, 9, 8, 7, 4, 3, 2, 1] [103, 102, 101, 0] rfl rfl
    try dsimp only [List.map, xD, xE, xT, xU, ldSF, rHist, rTx, rOrd, rVer, rInt, rOp, rBad, rEdge] at hS
    refine then_n ?_
    refine cond_b hS rfl (fun hc6 => ?_) (fun hc6 => ?_)
    ·skip
     refine wp_exit (then_x (block_x (then_n ?_)))
     refine region_q hS
       (cF rfl (o_add .t (.ci (by kernel_rfl))) r1 trivial
       (cF rfl (oM .t) r1 trivial
       Chain.nil))
       hB ?_
     clear hS; intro a w F hS
     obtain ⟨F, hS⟩ := hS.nm [138, 80, 79, 78, 77, 76, 75, 74, 73, 72, 71, 70, 69, 68, 67, 66, 65, 64, 63, 62, 61, 60, 59, 58, 57, 56, 55, 54, 53, 52, 51, 50, 49, 48, 47, 9, 8, 7, 4, 3, 2, 1] [103, 102, 101, 0] rfl rfl
     try dsimp only [rHist, rTx, rOrd, rVer, rInt, rOp, rBad, rEdge] at hS
     refine then_n ?_
     replace hS := hS.ent (i := 56) (s' := .pv (.int .i64 ((j + 1 : Nat) : Int))) rfl (.int (wrap_succ (by omega)))
     obtain ⟨F, hS⟩ := hS.nm [55, 54, 53, 52, 51, 50, 49, 48, 47, 7, 4, 3, 2, 1, 56] [102, 101, 0] rfl rfl
     exact ⟨(j + 1), F, ⟨by omega, trivial⟩, hS, by omega⟩
    have hdn : (Go.Gm.nth g.txs i).done = true ∧ needO (Go.Gm.nth g.txs i).id (Go.Gm.nth (Go.Gm.nth g.txs i).ops j) = true := by have h9 := hc6; unfold needO; simp at h9; simp [h9]
    obtain ⟨hdn, hnd⟩ := hdn
    have hlaw := both_law hr hio hil hnd hdn
    rw [show ofO (Go.Gm.nth (Go.Gm.nth g.txs i).ops j) = ⟨(Go.Gm.nth (Go.Gm.nth g.txs i).ops j).tx, (Go.Gm.nth (Go.Gm.nth g.txs i).ops j).key, (Go.Gm.nth (Go.Gm.nth g.txs i).ops j).nth⟩ from by unfold ofO; rw [if_pos (by have h9 := hnd; unfold needO at h9; simp at h9; exact h9.1.1)]] at hlaw
    refine wp_skip (then_n (wp_seq ?_))
    refine region_q hS
      (cF rfl (oF 0 102 .is) r1 r1
      (cF rfl (oL false 1 102 .adr) r1 r1
      (cF rfl (oM .t) r1 trivial
      (cF rfl (oF 2 103 .is) r1 r1
      (cF rfl (oL false 1 103 .adr) r1 r1
      (cF rfl (oF 1 103 .is) r1 r1
      (cF rfl (oL false 1 103 .adr) r1 r1
      (cF rfl (oF 3 103 .is) r1 r1
      (cF rfl (oL false 1 103 .adr) r1 r1
      (cF rfl (oB [(0, .tmp 85), (1, .tmp 87), (2, .tmp 89)] [.int .i64 0, .int .i64 0, .int .i64 0] [(0, 1), (1, 1), (2, 1)] (.one rfl .t one_int (by kernel_rfl) (.one rfl .t one_int (by kernel_rfl) (.one rfl .t one_int (by kernel_rfl) .nil)))) r3 trivial
      (cF rfl (oB [(0, .tmp 82), (1, .tmp 83), (2, .tmp 90)] [.int .i64 0, .int .i64 0, .int .i64 0, .int .i64 0, .int .i64 0] [(0, 1), (1, 1), (2, 3)] (.one rfl .t one_int (by kernel_rfl) (.one rfl .t one_int (by kernel_rfl) (.agg rfl .t (by kernel_rfl) (by kernel_rfl) .nil)))) r3 trivial
      (cF rfl (oH [.int .i64 0, .int .i64 0, .int .i64 0, .int .i64 0, .int .i64 0] 104) trivial trivial
      (cF rfl (oA 5 104 .same .t) r2 r1
      Chain.nil)))))))))))))
      hB ?_
    clear hS; intro a w F hS
    replace hS := hS.sub
    obtain ⟨F, hS⟩ := hS.nm [91, 90, 89, 88, 87, 86, 85, 84, 83, 82, 81, 80, 79, 78, 77, 76, 75, 74, 73, 72, 71, 70, 69, 68, 67, 66, 65, 64, 63, 62, 61, 60, 59, 58, 57, 56, 55, 54, 53, 52, 51, 50, 49, 48, 47, 10, 9, 8, 7, 4, 3, 2, 1] [104, 103, 102, 101, 0] rfl rfl
    try dsimp only [RS.sub, SF.sub, CF.sub, csub, Anc.sub, List.map, stCells, xL, xM, Nat.reduceAdd, xD, xE, xT, xU, xC, xN, zCF, ldSF, rHist, rTx, rOrd, rVer, rInt, rOp, rBad, rEdge] at hS
    generalize Act.tau a 10 = v10 at hS
    refine then_n (wp_seq ?_)
    refine region_q hS
      (cF rfl (oM .t) r1 trivial
      (cF rfl (oL true 5 104 .is) r1 r1
      (cF rfl (oP (inBad_c (badsH g 2 (fun _ => true)) (⟨(Go.Gm.nth g.txs i).id, (j : Int), ⟨(Go.Gm.nth (Go.Gm.nth g.txs i).ops j).tx, (Go.Gm.nth (Go.Gm.nth g.txs i).ops j).key, (Go.Gm.nth (Go.Gm.nth g.txs i).ops j).nth⟩⟩ : BadD)) Try.func21 (Args.two .t (.pagg .t))) r2 trivial
      (cF rfl (o_not .t) r1 trivial
      (cF rfl (oM .t) r1 trivial
      (Chain.cons (Cert.cond rfl rfl (fun h => o_move .t (by rfl))) r2 trivial
      (Chain.cons (Cert.cond rfl rfl (fun h => o_load (ag := true) (sz := 5) 104 .is (by kernel_rfl) (by kernel_rfl) (by kernel_rfl) (by rfl))) r2 r1
      (Chain.cons (Cert.cond rfl rfl (fun h => o_callP (inBad_c (badsH g 3 (fun _ => true)) (⟨(Go.Gm.nth g.txs i).id, (j : Int), ⟨(Go.Gm.nth (Go.Gm.nth g.txs i).ops j).tx, (Go.Gm.nth (Go.Gm.nth g.txs i).ops j).key, (Go.Gm.nth (Go.Gm.nth g.txs i).ops j).nth⟩⟩ : BadD)) Try.func21 rfl (by kernel_rfl) (Args.two (.w h) (.pagg (.w h))))) r3 trivial
      (Chain.cons (Cert.cond rfl rfl (fun h => o_not (.w h))) r2 trivial
      (cF rfl (o_and2 .t .t) r2 trivial
      (cF rfl (oN .t) r1 trivial
      Chain.nil)))))))))))
      hB ?_
    clear hS; intro a w F hS
    obtain ⟨F, hS⟩ := hS.nm [101, 100, 99, 98, 97, 96, 95, 94, 93, 92, 91, 90, 89, 88, 87, 86, 85, 84, 83, 82, 81, 80, 79, 78, 77, 76, 75, 74, 73, 72, 71, 70, 69, 68, 67, 66, 65, 64, 63, 62, 61, 60, 59, 58, 57, 56, 55, 54, 53, 52, 51, 50, 49, 48, 47, 11, 10, 9, 8, 7, 4, 3, 2, 1] [104, 103, 102, 101, 0] rfl rfl
    try dsimp only [List.map, xD, xE, xT, xU, ldSF, rHist, rTx, rOrd, rVer, rInt, rOp, rBad, rEdge] at hS
    refine then_n (wp_seq ?_)
    refine region_q hS
      (cF rfl (oL true 2 101 .is) r1 r1
      (cF rfl (oF 2 103 .is) r1 r1
      (cF rfl (oL false 1 103 .adr) r1 r1
      (cF rfl (oP (find_c g (Go.Gm.nth (Go.Gm.nth g.txs i).ops j).tx hs) Try.func22 (Args.two (.pagg .t) .t)) r2 trivial
      (cF rfl (oM .t) r1 trivial
      (cF rfl (o_extract .t rfl) r1 trivial
      (cF rfl (o_extract .t rfl) r1 trivial
      (cF rfl (oH [.int .i64 0, .bool false, .slice none 0 0] 105) trivial trivial
      (cF rfl (oA 3 105 .same (.conv .t .agg)) r2 r1
      (cF rfl (oN .t) r1 trivial
      Chain.nil))))))))))
      hB ?_
    clear hS; intro a w F hS
    replace hS := hS.sub
    obtain ⟨F, hS⟩ := hS.nm [108, 107, 106, 105, 104, 103, 102, 101, 100, 99, 98, 97, 96, 95, 94, 93, 92, 91, 90, 89, 88, 87, 86, 85, 84, 83, 82, 81, 80, 79, 78, 77, 76, 75, 74, 73, 72, 71, 70, 69, 68, 67, 66, 65, 64, 63, 62, 61, 60, 59, 58, 57, 56, 55, 54, 53, 52, 51, 50, 49, 48, 47, 12, 11, 10, 9, 8, 7, 4, 3, 2, 1] [105, 104, 103, 102, 101, 0] rfl rfl
    try dsimp only [RS.sub, SF.sub, CF.sub, csub, Anc.sub, List.map, stCells, xL, xM, Nat.reduceAdd, xD, xE, xT, xU, xC, xN, zCF, ldSF, rHist, rTx, rOrd, rVer, rInt, rOp, rBad, rEdge] at hS
    generalize Act.tau a 12 = v12 at hS
    rw [show (findT g.txs (Go.Gm.nth (Go.Gm.nth g.txs i).ops j).tx).getD zeroT = (uOf g (Go.Gm.nth (Go.Gm.nth g.txs i).ops j)) from rfl] at hS
    refine then_n (wp_seq ?_)
    refine region_any (by kernel_rfl) hS (by kernel_rfl)
      (cF rfl (oF 1 105 .is) r1 r1
      (cF rfl (oL false 1 105 .adr) r1 r1
      (cF rfl (oM .t) r1 trivial
      (Chain.cons (Cert.cond rfl rfl (fun h => o_fieldAddr (off := 3) 103 .is (by kernel_rfl) (by rfl))) r2 r1
      (Chain.cons (Cert.cond rfl rfl (fun h => o_load (ag := false) (sz := 1) 103 (.w h .adr) (by kernel_rfl) (by kernel_rfl) (by kernel_rfl) (by rfl))) r2 r1
      (Chain.cons (Cert.cond rfl rfl (fun h => o_load (ag := true) (sz := 3) 105 .is (by kernel_rfl) (by kernel_rfl) (by kernel_rfl) (by rfl))) r2 r1
      (Chain.cons (Cert.cond rfl rfl (fun h => o_fieldAddr (off := 1) 103 .is (by kernel_rfl) (by rfl))) r2 r1
      (Chain.cons (Cert.cond rfl rfl (fun h => o_load (ag := false) (sz := 1) 103 (.w h .adr) (by kernel_rfl) (by kernel_rfl) (by kernel_rfl) (by rfl))) r2 r1
      (Chain.cons (Cert.cond rfl rfl (fun h => o_callP (twrites_c (uOf g (Go.Gm.nth (Go.Gm.nth g.txs i).ops j)) (Go.Gm.nth (Go.Gm.nth g.txs i).ops j).key (by have := uOf_len hs (Go.Gm.nth (Go.Gm.nth g.txs i).ops j); omega)) Try.func23 rfl (by kernel_rfl) (Args.two (.pagg (.w h)) (.w h)))) r3 trivial
      (Chain.cons (Cert.cond rfl rfl (fun h => o_eql (.w h) (.w h))) r3 trivial
      (cF rfl (o_and2 .t .t) r2 trivial
      (cF rfl (oN .t) r1 trivial
      Chain.nil))))))))))))
      (by kernel_rfl) (by rw [hB]; kernel_rfl) ?_
    clear hS; intro a w F hS
    obtain ⟨F, hS⟩ := hS.nm [119, 118, 117, 116, 115, 114, 113, 112, 111, 110, 109, 108, 107, 106, 105, 104, 103, 102, 101, 100, 99, 98, 97, 96, 95, 94, 93, 92, 91, 90, 89, 88, 87, 86, 85, 84, 83, 82, 81, 80, 79, 78, 77, 76, 75, 74, 73, 72, 71, 70, 69, 68, 67, 66, 65, 64, 63, 62, 61, 60, 59, 58, 57, 56, 55, 54, 53, 52, 51, 50, 49, 48, 47, 14, 12, 11, 10, 9, 8, 7, 4, 3, 2, 1] [105, 104, 103, 102, 101, 0] rfl rfl
    try dsimp only [List.map, xD, xE, xT, xU, ldSF, rHist, rTx, rOrd, rVer, rInt, rOp, rBad, rEdge] at hS
    refine then_n (wp_seq ?_)
    refine region_q hS
      (cF rfl (oM .t) r1 trivial
      (cF rfl (oM .t) r1 trivial
      (cF rfl (o_neqB Try.underlying4 .t .t) r2 trivial
      (cF rfl (oM .t) r1 trivial
      (Chain.cons (Cert.cond rfl rfl (fun h => o_move .t (by rfl))) r2 trivial
      (Chain.cons (Cert.cond rfl rfl (fun h => o_move (.w h) (by rfl))) r2 trivial
      (Chain.cons (Cert.cond2 rfl rfl (fun h => o_load (ag := true) (sz := 2) 101 .is (by kernel_rfl) (by kernel_rfl) (by kernel_rfl) (by rfl))) r2 r1
      (Chain.cons (Cert.cond2 rfl rfl (fun h => o_fieldAddr (off := 2) 103 .is (by kernel_rfl) (by rfl))) r2 r1
      (Chain.cons (Cert.cond2 rfl rfl (fun h => o_load (ag := false) (sz := 1) 103 (.w h .adr) (by kernel_rfl) (by kernel_rfl) (by kernel_rfl) (by rfl))) r2 r1
      (Chain.cons (Cert.cond2 rfl rfl (fun h => o_fieldAddr (off := 0) 102 .is (by kernel_rfl) (by rfl))) r2 r1
      (Chain.cons (Cert.cond2 rfl rfl (fun h => o_load (ag := false) (sz := 1) 102 (.w h .adr) (by kernel_rfl) (by kernel_rfl) (by kernel_rfl) (by rfl))) r2 r1
      (Chain.cons (Cert.cond2 rfl rfl (fun h => o_fieldAddr (off := 1) 103 .is (by kernel_rfl) (by rfl))) r2 r1
      (Chain.cons (Cert.cond2 rfl rfl (fun h => o_load (ag := false) (sz := 1) 103 (.w h .adr) (by kernel_rfl) (by kernel_rfl) (by kernel_rfl) (by rfl))) r2 r1
      (Chain.cons (Cert.cond2 rfl rfl (fun h => o_build (r := [(0, .tmp 128), (1, .tmp 130), (2, _), (3, .tmp 132)]) (zs := [.int .i64 0, .int .i64 0, .int .i64 0, .int .i64 0]) (pl := [(0, 1), (1, 1), (2, 1), (3, 1)]) (by kernel_rfl) (by kernel_rfl) (.one rfl (.w h) one_int (by kernel_rfl) (.one rfl (.w h) one_int (by kernel_rfl) (.one rfl (.ci (by kernel_rfl)) one_int (by kernel_rfl) (.one rfl (.w h) one_int (by kernel_rfl) .nil)))) (by rfl))) r4 trivial
      (Chain.cons (Cert.cond2 rfl rfl (fun h => o_callP (count_c g (⟨(Go.Gm.nth (Go.Gm.nth g.txs i).ops j).tx, (Go.Gm.nth g.txs i).id, 2, (Go.Gm.nth (Go.Gm.nth g.txs i).ops j).key⟩ : EdgeD) hsm) Try.func24 rfl (by kernel_rfl) (Args.two (.pagg (.w h)) (.pagg (.w h))))) r3 trivial
      (Chain.cons (Cert.cond2 rfl rfl (fun h => o_eql (.w h) (.ci (by kernel_rfl)))) r2 trivial
      (Chain.cons (Cert.cond rfl rfl (fun h => o_and2 (.w h) (.wc h))) r3 trivial
      (cF rfl (o_or2 .t .t) r2 trivial
      Chain.nil))))))))))))))))))
      hB ?_
    clear hS; intro a w F hS
    obtain ⟨F, hS⟩ := hS.nm [137, 136, 135, 134, 133, 132, 131, 130, 129, 128, 127, 126, 125, 124, 123, 122, 121, 120, 119, 118, 117, 116, 115, 114, 113, 112, 111, 110, 109, 108, 107, 106, 105, 104, 103, 102, 101, 100, 99, 98, 97, 96, 95, 94, 93, 92, 91, 90, 89, 88, 87, 86, 85, 84, 83, 82, 81, 80, 79, 78, 77, 76, 75, 74, 73, 72, 71, 70, 69, 68, 67, 66, 65, 64, 63, 62, 61, 60, 59, 58, 57, 56, 55, 54, 53, 52, 51, 50, 49, 48, 47, 14, 12, 11, 10, 9, 8, 7, 4, 3, 2, 1] [105, 104, 103, 102, 101, 0] rfl rfl
    try dsimp only [List.map, stCells, xL, xM, Nat.reduceAdd, xD, xE, xT, xU, xC, xN, zCF, ldSF, rHist, rTx, rOrd, rVer, rInt, rOp, rBad, rEdge] at hS
    refine then_n ?_
    refine cond_b hS rfl (fun hc7 => ?_) (fun hc7 => ?_)
    ·skip
     have hwq : ∀ (l : List OpD) (k : Int), (l.filter fun o => !o.read && decide (o.key = k)).length = wcnt l k := fun _ _ => rfl
     rw [hlaw] at hc7
     try simp only [hwq] at hc7
     have hcp := cnt_pos hr hio hil hnd hdn
     cases hud : (uOf g (Go.Gm.nth (Go.Gm.nth g.txs i).ops j)).done with
     | false => simp [hud] at hc7
     | true =>
       by_cases hw : (Go.Gm.nth (Go.Gm.nth g.txs i).ops j).nth = (wcnt (uOf g (Go.Gm.nth (Go.Gm.nth g.txs i).ops j)).ops (Go.Gm.nth (Go.Gm.nth g.txs i).ops j).key : Int)
       · have h9 := hcp hud hw
         simp [hud, hw] at hc7
         exact absurd hc7 h9
       · simp [hud, hw] at hc7
    refine wp_skip (block_n (then_n ?_))
    refine region_q hS
      (cF rfl (o_add .t (.ci (by kernel_rfl))) r1 trivial
      (cF rfl (oM .t) r1 trivial
      Chain.nil))
      hB ?_
    clear hS; intro a w F hS
    obtain ⟨F, hS⟩ := hS.nm [138, 137, 136, 135, 134, 133, 132, 131, 130, 129, 128, 127, 126, 125, 124, 123, 122, 121, 120, 119, 118, 117, 116, 115, 114, 113, 112, 111, 110, 109, 108, 107, 106, 105, 104, 103, 102, 101, 100, 99, 98, 97, 96, 95, 94, 93, 92, 91, 90, 89, 88, 87, 86, 85, 84, 83, 82, 81, 80, 79, 78, 77, 76, 75, 74, 73, 72, 71, 70, 69, 68, 67, 66, 65, 64, 63, 62, 61, 60, 59, 58, 57, 56, 55, 54, 53, 52, 51, 50, 49, 48, 47, 14, 12, 11, 10, 9, 8, 7, 4, 3, 2, 1] [105, 104, 103, 102, 101, 0] rfl rfl
    try dsimp only [rHist, rTx, rOrd, rVer, rInt, rOp, rBad, rEdge] at hS
    refine then_n ?_
    replace hS := hS.ent (i := 56) (s' := .pv (.int .i64 ((j + 1 : Nat) : Int))) rfl (.int (wrap_succ (by omega)))
    obtain ⟨F, hS⟩ := hS.nm [55, 54, 53, 52, 51, 50, 49, 48, 47, 7, 4, 3, 2, 1, 56] [102, 101, 0] rfl rfl
    exact ⟨(j + 1), F, ⟨by omega, trivial⟩, hS, by omega⟩
   have hil : j = (Go.Gm.nth g.txs i).ops.length := by simp at hc5; omega
   refine wp_exit (then_x (then_x (block_x (block_n (then_n ?_)))))
   refine region_q hS
     (cF rfl (o_add .t (.ci (by kernel_rfl))) r1 trivial
     (cF rfl (oM .t) r1 trivial
     Chain.nil))
     hB ?_
   clear hS; intro a w F hS
   obtain ⟨F, hS⟩ := hS.nm [139, 57, 56, 55, 54, 53, 52, 51, 50, 49, 48, 47, 7, 4, 3, 2, 1] [102, 101, 0] rfl rfl
   try dsimp only [rHist, rTx, rOrd, rVer, rInt, rOp, rBad, rEdge] at hS
   refine then_n ?_
   replace hS := hS.ent (i := 49) (s' := .pv (.int .i64 ((i + 1 : Nat) : Int))) rfl (.int (wrap_succ (by omega)))
   obtain ⟨F, hS⟩ := hS.nm [48, 47, 4, 3, 2, 1, 49] [101, 0] rfl rfl
   exact ⟨(i + 1), F, ⟨by omega, trivial⟩, hS, by omega⟩
  have hil : i = g.txs.length := by simp at hc4; omega
  refine wp_exit (then_x (then_x (block_x (then_n (wp_seq ?_)))))
  refine region_q hS
    (cF rfl (oN .cb) trivial trivial
    Chain.nil)
    hB ?_
  clear hS; intro a w F hS
  obtain ⟨F, hS⟩ := hS.nm [2] [101, 0] rfl rfl
  try dsimp only [rHist, rTx, rOrd, rVer, rInt, rOp, rBad, rEdge] at hS
  refine then_n (wp_ret ?_)
  refine ret_P hfr hS rfl (.tmp rfl .nil) (.one (.bool (by first | rfl | exact hg)))

end Go.Proofs.Ytdfidiehkkbimaa
