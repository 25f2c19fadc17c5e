/- The code's writers. No condition beyond those that each theorem says. -/
import Derived.Test.YtpnaolljmhhdbaaHi3
import Derived.Test.YtpnaolljmhhdbaaTx5
import Derived.Test.YtpnaolljmhhdbaaLibG
namespace Go.Proofs.Ytpnaolljmhhdbaa
open Go Go.Gm
set_option linter.unusedVariables false
set_option linter.unusedSimpArgs false
set_option maxHeartbeats 4000000
set_option maxRecDepth 8000

theorem writers_c (g : HistD) (hs : SmallT g.txs) : FnG Try.prog 39 1 [.agg (rHist g)] [.star []] (PV.one) (fun v => [HP.ex fun s : List (GE Int (List Int)) × Nat => HP.and (WrL s.1 g.txs) (mapG (fun l : List Int => PV.sl rInt l) (fun _ => True) (fun n : Int => Value.int .i64 n) s.1 s.2 v)]) := by
  refine FnG.mk Try.func39 rfl Try.ntmps39 rfl (by kernel_rfl) ?_
  intro B F0 a w F hB hG hS
  have hsl := hs.1
  obtain ⟨F, hS⟩ := hS.nm [0] [0] rfl rfl
  refine wp_seq ?_
  refine region_q hS
    (cF rfl (oX 101 (.conv .t .agg)) r1 trivial
    (cF rfl (oN (.c rfl)) trivial trivial
    Chain.nil))
    hB ?_
  clear hS; intro a w F hS
  replace hS := hS.sub
  obtain ⟨F, hS⟩ := hS.nm [2, 1] [101, 0] rfl rfl
  try dsimp only [RS.sub, SF.sub, CF.sub, csub, Anc.sub, List.map, zCF, rHist, rTx, rOrd, rVer, rInt, rOp] at hS
  generalize Act.tau a 1 = v1 at hS
  refine then_n (wp_seq ?_)
  refine region_q hS
    (cF rfl (o_makeMapG (ek := (fun p : Value × List Int => PV.is p.1)) (ok := (fun _ => True)) (kv := (fun n : Int => Value.int .i64 n)) 102) trivial trivial
    (cF rfl (oN .t) r1 trivial
    Chain.nil))
    hB ?_
  clear hS; intro a w F hS
  replace hS := hS.sub
  obtain ⟨F, hS⟩ := hS.nm [3, 2, 1] [102, 101, 0] rfl rfl
  try dsimp only [RS.sub, SF.sub, CF.sub, csub, Anc.sub, List.map, stCells, xL, xM, Nat.reduceAdd, xD, xE, xT, xU, xC, xN, zCF, rHist, rTx, rOrd, rVer, rInt, rOp] at hS
  generalize Act.tau a 8 = v8 at hS
  replace hS := hS.fresh 60 rfl
  replace hS := hS.turn 60 rfl (r' := famG 3 1 rInt ([] : List (GE Int (Value × List Int)))) (fun _ _ _ _ h => h)
  obtain ⟨F, hS⟩ := hS.nm [3, 2, 1] [102, 101, 60, 0] rfl rfl
  refine then_n (wp_seq (wp_seq ?_))
  refine region_q hS
    (cF rfl (oF 0 101 .is) r1 r1
    (cF rfl (oL false 1 101 .adr) r1 r1
    (cF rfl (o_len_sl Try.underlying39 .t) r1 trivial
    (cF rfl (oM (.ci (by kernel_rfl))) trivial trivial
    Chain.nil))))
    hB ?_
  clear hS; intro a w F hS
  obtain ⟨F, hS⟩ := hS.nm [12, 11, 10, 3, 2] [102, 101, 60, 0] rfl rfl
  try dsimp only [List.map, xD, xE, xT, xU, ldSF, rHist, rTx, rOrd, rVer, rInt, rOp] at hS
  refine then_n (wp_block ?_)
  refine loop_keep (σ := (Nat) × (List (GE Int (Value × List Int))) × (Nat)) [2, 3, 10, 11] [0, 101] (fun s => [(12, .pv (.int .i64 (s.1 : Int)))]) (fun s => [(102, .ob (.val v8) (mapG (fun p : Value × List Int => PV.is p.1) (fun _ => True) (fun n : Int => Value.int .i64 n) s.2.1 s.2.2)), (60, famG 3 1 rInt s.2.1)]) (fun s => s.1 ≤ g.txs.length ∧ (WrV s.2.1 (g.txs.take s.1) 0 [])) (fun s => g.txs.length - s.1) ((0), ([]), (0)) hS ⟨rfl, rfl, rfl, rfl, rfl, trivial⟩ ⟨rfl, rfl, rfl, rfl, trivial⟩ ⟨Nat.zero_le _, wr_zero⟩ ?_
  clear hS; intro s a w F hC hS
  obtain ⟨i, es, ck⟩ := s
  try dsimp only at hC
  obtain ⟨F, hS⟩ := hS.nm [12, 11, 10, 3, 2] [102, 101, 60, 0] rfl rfl
  try dsimp only at hS
  obtain ⟨hi, hq⟩ := hC
  have hxl := fun hil : i < g.txs.length => hs.at hil
  refine wp_seq ?_
  refine region_q hS
    (cF rfl (o_lss .t .t) r2 trivial
    Chain.nil)
    hB ?_
  clear hS; intro a w F hS
  obtain ⟨F, hS⟩ := hS.nm [13, 12, 11, 10, 3, 2] [102, 101, 60, 0] rfl rfl
  try dsimp only [rHist, rTx, rOrd, rVer, rInt, rOp] at hS
  refine then_n (wp_seq ?_)
  refine cond_b hS rfl (fun hc0 => ?_) (fun hc0 => ?_)
  ·skip
   have hil : i < g.txs.length := by simp at hc0; omega
   have hio := hil
   have hw0 := hq
   have htl := hxl hil
   have hkt := keysT_len (Go.Gm.nth g.txs i)
   have hsl := hs.1
   refine wp_skip (then_n (wp_seq (wp_block (wp_seq ?_))))
   refine region_q hS
     (cF rfl (o_indexAddr_sl (sz := 3) (.mk Try.underlying39 (by kernel_rfl)) (by intro x; rfl) .t .t (by omega) (by omega)) r2 trivial
     (cF rfl (oR true 3 .t) r1 trivial
     (cF rfl (oH [.int .i64 0, .bool false, .slice none 0 0] 103) trivial trivial
     (cF rfl (oA 3 103 .same .t) r2 r1
     Chain.nil))))
     hB ?_
   clear hS; intro a w F hS
   replace hS := hS.sub
   obtain ⟨F, hS⟩ := hS.nm [15, 14, 13, 12, 11, 10, 5, 3, 2] [103, 102, 101, 60, 0] rfl rfl
   try dsimp only [RS.sub, SF.sub, CF.sub, csub, Anc.sub, List.map, stCells, xL, xM, Nat.reduceAdd, xD, xE, xT, xU, xC, xN, zCF, ldSF, rHist, rTx, rOrd, rVer, rInt, rOp] at hS
   generalize Act.tau a 5 = v5 at hS
   try simp only [Int.toNat_natCast] at hS
   refine then_n (wp_seq (wp_seq ?_))
   refine region_q hS
     (cF rfl (oF 1 103 .is) r1 r1
     (cF rfl (oL false 1 103 .adr) r1 r1
     (cF rfl (o_not .t) r1 trivial
     Chain.nil)))
     hB ?_
   clear hS; intro a w F hS
   obtain ⟨F, hS⟩ := hS.nm [18, 17, 16, 15, 14, 13, 12, 11, 10, 5, 3, 2] [103, 102, 101, 60, 0] rfl rfl
   try dsimp only [List.map, xD, xE, xT, xU, ldSF, rHist, rTx, rOrd, rVer, rInt, rOp] at hS
   refine then_n ?_
   refine cond_b hS rfl (fun hc1 => ?_) (fun hc1 => ?_)
   ·skip
    have hdn : (Go.Gm.nth g.txs i).done = false := by simpa using hc1
    obtain ⟨es2, he2⟩ : ∃ z, z = es := ⟨_, rfl⟩
    obtain ⟨ck2, hc2⟩ : ∃ z, z = ck := ⟨_, rfl⟩
    have hR2 : WrV es2 (g.txs.take (i + 1)) 0 [] := by rw [he2]; exact wr_skip hw0 hio hdn
    rw [← he2, ← hc2] at hS
    refine wp_exit (then_x (block_x (then_n ?_)))
    refine region_q hS
      (cF rfl (o_add .t (.ci (by kernel_rfl))) r1 trivial
      (cF rfl (oM .t) r1 trivial
      Chain.nil))
      hB ?_
    clear hS; intro a w F hS
    obtain ⟨F, hS⟩ := hS.nm [36, 18, 17, 16, 15, 14, 13, 12, 11, 10, 5, 3, 2] [103, 102, 101, 60, 0] rfl rfl
    try dsimp only [rHist, rTx, rOrd, rVer, rInt, rOp] at hS
    refine then_n ?_
    replace hS := hS.ent (i := 12) (s' := .pv (.int .i64 ((i + 1 : Nat) : Int))) rfl (.int (wrap_succ (by omega)))
    obtain ⟨F, hS⟩ := hS.nm [11, 10, 3, 2, 12] [101, 0, 60, 102] rfl rfl
    exact ⟨((i + 1), (es2), (ck2)), F, ⟨by omega, hR2⟩, hS, by omega⟩
   have hdn : (Go.Gm.nth g.txs i).done = true := by simpa using hc1
   refine wp_skip (then_n (wp_seq ?_))
   refine region_q hS
     (cF rfl (oL true 3 103 .is) r1 r1
     (cF rfl (oP (tKeys_c (Go.Gm.nth g.txs i) (by have := hxl hio; omega)) Try.func59 (Args.one (.pagg .t))) r1 trivial
     (cF rfl (o_len_sl Try.underlying76 .t) r1 trivial
     (cF rfl (oM (.ci (by kernel_rfl))) trivial trivial
     Chain.nil))))
     hB ?_
   clear hS; intro a w F hS
   obtain ⟨F, hS⟩ := hS.nm [22, 21, 20, 19, 18, 17, 16, 15, 14, 13, 12, 11, 10, 5, 3, 2] [103, 102, 101, 60, 0] rfl rfl
   try dsimp only [List.map, xD, xE, xT, xU, ldSF, rHist, rTx, rOrd, rVer, rInt, rOp] at hS
   rw [show keysL (((Go.Gm.nth g.txs i).ops.filter fun o => !o.read).map OpD.key) = keysT (Go.Gm.nth g.txs i) from rfl] at hS
   refine then_n (wp_block ?_)
   refine loop_keep (σ := (Nat) × (List (GE Int (Value × List Int))) × (Nat)) [2, 3, 5, 10, 11, 12, 13, 14, 15, 16, 17, 18, 19, 20, 21] [0, 101, 103] (fun s => [(22, .pv (.int .i64 (s.1 : Int)))]) (fun s => [(102, .ob (.val v8) (mapG (fun p : Value × List Int => PV.is p.1) (fun _ => True) (fun n : Int => Value.int .i64 n) s.2.1 s.2.2)), (60, famG 3 1 rInt s.2.1)]) (fun s => s.1 ≤ (keysT (Go.Gm.nth g.txs i)).length ∧ (WrV s.2.1 (g.txs.take i) (Go.Gm.nth g.txs i).id ((keysT (Go.Gm.nth g.txs i)).take s.1))) (fun s => (keysT (Go.Gm.nth g.txs i)).length - s.1) ((0), (es), (ck)) hS ⟨rfl, rfl, rfl, rfl, rfl, rfl, rfl, rfl, rfl, rfl, rfl, rfl, rfl, rfl, rfl, rfl, trivial⟩ ⟨rfl, rfl, rfl, rfl, rfl, trivial⟩ ⟨Nat.zero_le _, (by simpa using wr_other hw0)⟩ ?_
   clear hS; intro s a w F hC hS
   obtain ⟨j, es, ck⟩ := s
   try dsimp only at hC
   obtain ⟨F, hS⟩ := hS.nm [22, 21, 20, 19, 18, 17, 16, 15, 14, 13, 12, 11, 10, 5, 3, 2] [103, 102, 101, 60, 0] rfl rfl
   try dsimp only at hS
   obtain ⟨hi, hq⟩ := hC
   refine wp_seq ?_
   refine region_q hS
     (cF rfl (o_lss .t .t) r2 trivial
     Chain.nil)
     hB ?_
   clear hS; intro a w F hS
   obtain ⟨F, hS⟩ := hS.nm [23, 22, 21, 20, 19, 18, 17, 16, 15, 14, 13, 12, 11, 10, 5, 3, 2] [103, 102, 101, 60, 0] rfl rfl
   try dsimp only [rHist, rTx, rOrd, rVer, rInt, rOp] at hS
   refine then_n (wp_seq ?_)
   refine cond_b hS rfl (fun hc2 => ?_) (fun hc2 => ?_)
   ·skip
    have hil : j < (keysT (Go.Gm.nth g.txs i)).length := by simp at hc2; omega
    have hwo := wr_old hq (keysT_nodup _) hil
    have hwn := writersH_len (g.txs.take i) (Go.Gm.nth (keysT (Go.Gm.nth g.txs i)) j)
    rw [List.length_take] at hwn
    rw [← hwo] at hwn
    refine wp_skip (then_n (wp_seq (wp_block (wp_seq ?_))))
    refine region_q hS
      (cF rfl (o_indexAddr_sl (sz := 1) (.mk Try.underlying76 (by kernel_rfl)) (by intro x; rfl) .t .t (by omega) (by omega)) r2 trivial
      (cF rfl (oR false 1 .t) r1 trivial
      (cF rfl (oN .t) r1 trivial
      Chain.nil)))
      hB ?_
    clear hS; intro a w F hS
    obtain ⟨F, hS⟩ := hS.nm [25, 24, 23, 22, 21, 20, 19, 18, 17, 16, 15, 14, 13, 12, 11, 10, 7, 5, 3, 2] [103, 102, 101, 60, 0] rfl rfl
    try dsimp only [List.map, xD, xE, xT, xU, ldSF, rHist, rTx, rOrd, rVer, rInt, rOp] at hS
    try simp only [Int.toNat_natCast] at hS
    refine then_n ?_
    refine part_first 5 hS (by kernel_rfl)
      (cG rfl (oM .t) r1 trivial
      (cG rfl (oM .t) r1 trivial
      (cG rfl (oM .t) r1 trivial
      (cG rfl (oM .t) r1 trivial
      (cG rfl (o_lookupG (ek := (fun p : Value × List Int => PV.is p.1)) (z0 := noRow) 102 Try.underlying83 (key_intG Try.underlying3) (by kernel_rfl) (fun _ _ => ⟨rfl, rfl⟩) .is (IsKeyOf.int .t rfl)) r2 r1
      ChainN.nil)))))
      (by kernel_rfl) (by rw [hB]; kernel_rfl) ?_
    clear hS; intro a w F hS
    obtain ⟨F, hS⟩ := hS.nm [30, 29, 28, 27, 26, 25, 24, 23, 22, 21, 20, 19, 18, 17, 16, 15, 14, 13, 12, 11, 10, 7, 5, 3, 2] [103, 102, 101, 60, 0] rfl rfl
    try dsimp only [rHist, rTx, rOrd, rVer, rInt, rOp] at hS
    obtain ⟨F, hS⟩ := hS.takeKey (T := 3) (sz := 1) (R := rInt) 60 61 (Go.Gm.nth (keysT (Go.Gm.nth g.txs i)) j) rfl rfl
    obtain ⟨F, hS⟩ := hS.nm [30, 29, 28, 27, 26, 25, 24, 23, 22, 21, 20, 19, 18, 17, 16, 15, 14, 13, 12, 11, 10, 7, 5, 3, 2] [103, 102, 101, 61, 60, 0] rfl rfl
    refine part_next 4 hS (by kernel_rfl)
      (cG rfl (oF 0 103 .is) r1 r1
      (cG rfl (oL false 1 103 .adr) r1 r1
      (cG rfl (o_buildSliceE (sz := 1) (zs := [.int .i64 0]) (r := [(0, .tmp 32)]) (l := [_]) Try.underlying76 (by kernel_rfl) (by kernel_rfl) (by kernel_rfl) (by kernel_rfl) rfl rfl (.one rfl .t one_int (by kernel_rfl) .nil) rfl) r1 trivial
      (cG rfl (o_append (sz := 1) (bs := 8) 61 (.mk' Try.underlying76 (by kernel_rfl) (by kernel_rfl)) (by intro x; rfl) .is (.arr (l' := [_]) .t) (by simp only [List.length_append, List.length_cons, List.length_nil]; omega) (by decide)) ⟨rfl, rfl, trivial⟩ ⟨rfl, trivial⟩
      ChainN.nil))))
      (by kernel_rfl) (by rw [hB]; kernel_rfl) ?_
    clear hS; intro a w F hS
    replace hS := hS.sub
    obtain ⟨F, hS⟩ := hS.nm [34, 33, 32, 31, 30, 29, 28, 27, 26, 25, 24, 23, 22, 21, 20, 19, 18, 17, 16, 15, 14, 13, 12, 11, 10, 7, 5, 3, 2] [103, 102, 101, 61, 60, 0] rfl rfl
    try dsimp only [RS.sub, SF.sub, CF.sub, csub, Anc.sub, List.map, stCells, xL, xM, Nat.reduceAdd, xD, xE, xT, xU, xC, xN, zCF, ldSF, rHist, rTx, rOrd, rVer, rInt, rOp] at hS
    generalize Act.tau a 34 = v34 at hS
    refine part_last hS (by kernel_rfl)
      (cG rfl (o_mapUpdateG (ek := (fun p : Value × List Int => PV.is p.1)) (v := ((v34, ((gGet (Go.Gm.nth (keysT (Go.Gm.nth g.txs i)) j) es).getD noRow).2 ++ [(Go.Gm.nth g.txs i).id]) : Value × List Int)) 102 Try.underlying83 (key_intG Try.underlying3) .is (IsKeyOf.int .t rfl) .t) r3 r1
      ChainN.nil)
      (by kernel_rfl) (by rw [hB]; kernel_rfl) ?_
    clear hS; intro a w F hS
    obtain ⟨F, hS⟩ := hS.nm [34, 33, 32, 31, 30, 29, 28, 27, 26, 25, 24, 23, 22, 21, 20, 19, 18, 17, 16, 15, 14, 13, 12, 11, 10, 7, 5, 3, 2] [103, 102, 101, 61, 60, 0] rfl rfl
    try dsimp only [rHist, rTx, rOrd, rVer, rInt, rOp] at hS
    refine block_n (then_n ?_)
    refine region_q hS
      (cF rfl (o_add .t (.ci (by kernel_rfl))) r1 trivial
      (cF rfl (oM .t) r1 trivial
      Chain.nil))
      hB ?_
    clear hS; intro a w F hS
    obtain ⟨F, hS⟩ := hS.nm [35, 34, 33, 32, 31, 30, 29, 28, 27, 26, 25, 24, 23, 22, 21, 20, 19, 18, 17, 16, 15, 14, 13, 12, 11, 10, 7, 5, 3, 2] [103, 102, 101, 61, 60, 0] rfl rfl
    try dsimp only [rHist, rTx, rOrd, rVer, rInt, rOp] at hS
    refine then_n ?_
    obtain ⟨F, hS⟩ := hS.putKey (T := 3) (sz := 1) (R := rInt) 60 61 (Go.Gm.nth (keysT (Go.Gm.nth g.txs i)) j) ck rfl rfl rfl
    replace hS := hS.ent (i := 22) (s' := .pv (.int .i64 ((j + 1 : Nat) : Int))) rfl (.int (wrap_succ (by omega)))
    obtain ⟨F, hS⟩ := hS.nm [21, 20, 19, 18, 17, 16, 15, 14, 13, 12, 11, 10, 5, 3, 2, 22] [103, 101, 0, 60, 102] rfl rfl
    exact ⟨((j + 1), ((gPut (Go.Gm.nth (keysT (Go.Gm.nth g.txs i)) j) (v34, ((gGet (Go.Gm.nth (keysT (Go.Gm.nth g.txs i)) j) es).getD noRow).2 ++ [(Go.Gm.nth g.txs i).id]) (es, ck)).1), ((gPut (Go.Gm.nth (keysT (Go.Gm.nth g.txs i)) j) (v34, ((gGet (Go.Gm.nth (keysT (Go.Gm.nth g.txs i)) j) es).getD noRow).2 ++ [(Go.Gm.nth g.txs i).id]) (es, ck)).2)), F, ⟨by omega, wr_step hq (keysT_nodup _) hil⟩, hS, by omega⟩
   have hil : j = (keysT (Go.Gm.nth g.txs i)).length := by simp at hc2; omega
   obtain ⟨es2, he2⟩ : ∃ z, z = es := ⟨_, rfl⟩
   obtain ⟨ck2, hc2⟩ : ∃ z, z = ck := ⟨_, rfl⟩
   rw [hil, List.take_length] at hq
   have hR2 : WrV es2 (g.txs.take (i + 1)) 0 [] := by rw [he2]; exact wr_done hq hio hdn
   rw [← he2, ← hc2] at hS
   refine wp_exit (then_x (then_x (block_x (block_n (then_n ?_)))))
   refine region_q hS
     (cF rfl (o_add .t (.ci (by kernel_rfl))) r1 trivial
     (cF rfl (oM .t) r1 trivial
     Chain.nil))
     hB ?_
   clear hS; intro a w F hS
   obtain ⟨F, hS⟩ := hS.nm [36, 23, 22, 21, 20, 19, 18, 17, 16, 15, 14, 13, 12, 11, 10, 5, 3, 2] [103, 102, 101, 60, 0] rfl rfl
   try dsimp only [rHist, rTx, rOrd, rVer, rInt, rOp] at hS
   refine then_n ?_
   replace hS := hS.ent (i := 12) (s' := .pv (.int .i64 ((i + 1 : Nat) : Int))) rfl (.int (wrap_succ (by omega)))
   obtain ⟨F, hS⟩ := hS.nm [11, 10, 3, 2, 12] [101, 0, 60, 102] rfl rfl
   exact ⟨((i + 1), (es2), (ck2)), F, ⟨by omega, hR2⟩, hS, by omega⟩
  have hil : i = g.txs.length := by simp at hc0; omega
  have hwl := wr_lists hq
  rw [hil, List.take_length] at hwl
  refine wp_exit (then_x (then_x (block_x (then_n (wp_seq ?_)))))
  refine region_q hS
    (cF rfl (oM .t) r1 trivial
    (cF rfl (oN .t) r1 trivial
    Chain.nil))
    hB ?_
  clear hS; intro a w F hS
  obtain ⟨F, hS⟩ := hS.nm [2] [102, 101, 60, 0] rfl rfl
  try dsimp only [rHist, rTx, rOrd, rVer, rInt, rOp] at hS
  refine then_n (wp_ret ?_)
  obtain ⟨F, hS⟩ := hS.giveMap 102 60 rfl rfl rfl
  obtain ⟨F, hS⟩ := hS.rename 102 1 rfl rfl
  have hS := hS.turn 1 rfl (r' := RS.hp (HP.ex fun s : List (GE Int (List Int)) × Nat => HP.and (WrL s.1 g.txs) (mapG (fun l : List Int => PV.sl rInt l) (fun _ => True) (fun n : Int => Value.int .i64 n) s.1 s.2 v8))) (fun _ _ _ _ h => ⟨(gLists es, ck), hwl, h⟩)
  refine ret_N1 (h' := fun v => HP.ex fun s : List (GE Int (List Int)) × Nat => HP.and (WrL s.1 g.txs) (mapG (fun l : List Int => PV.sl rInt l) (fun _ => True) (fun n : Int => Value.int .i64 n) s.1 s.2 v)) hG hS rfl (.tmp rfl .nil) (.one .one) rfl

end Go.Proofs.Ytpnaolljmhhdbaa
