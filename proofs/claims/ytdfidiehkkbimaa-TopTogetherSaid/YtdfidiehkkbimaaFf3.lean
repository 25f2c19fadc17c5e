/- TopTurned. No condition beyond those that each theorem says. -/
import Derived.Test.YtdfidiehkkbimaaFf2
namespace Go.Proofs.Ytdfidiehkkbimaa
open Go Go.Gm
set_option linter.unusedVariables false
set_option linter.unusedSimpArgs false
set_option maxHeartbeats 4000000
set_option maxRecDepth 8000


theorem qpush_ok (b : Nat) (room : Int) (l : List Int) (x : Int) (h : (l.length : Int) < room) : FnG Try.prog 31 1 [.is (.pointer (some ⟨b, 0, none⟩)), .int .i64 x] [qH (.pointer (some ⟨b, 0, none⟩)) room l] (.int .i64 0) (fun _ => [qH (.pointer (some ⟨b, 0, none⟩)) room (l ++ [x])]) := by
  have := qpush_c b room l x
  rw [(push_room h x).1, (push_room h x).2] at this; exact this
theorem stpush_ok (b : Nat) (room : Int) (l : List Int) (x : Int) (hr : 0 ≤ room ∧ room ≤ 65536) (h : (l.length : Int) < room) : FnG Try.prog 32 1 [.is (.pointer (some ⟨b, 0, none⟩)), .int .i64 x] [stH (.pointer (some ⟨b, 0, none⟩)) room l] (.int .i64 0) (fun _ => [stH (.pointer (some ⟨b, 0, none⟩)) room (l ++ [x])]) := by
  have := stpush_c b room l x hr (by omega)
  rw [(push_room h x).1, (push_room h x).2] at this; exact this

theorem topTurned_c (l : List Int) : FnP Try.prog 6 [.sl rInt l] (.bool true) := by
  refine FnP.mk Try.func6 rfl Try.ntmps6 rfl ?_
  intro B a w F hB hfr hS
  have hll := Sat.lenSl hS (i := 0) rfl
  refine wp_seq ?_
  refine region_q hS
    (cF rfl (oN .cb) trivial trivial
    Chain.nil)
    hB ?_
  clear hS; intro a w F hS
  obtain ⟨F, hS⟩ := hS.nm [2, 0] [0] rfl rfl
  try dsimp only [rInt, rPair] at hS
  refine then_n (wp_seq (wp_seq ?_))
  refine region_q hS
    (cF rfl (oP (begins04_c) Try.func25 Args.nil) trivial trivial
    (cF rfl (o_not .t) r1 trivial
    Chain.nil))
    hB ?_
  clear hS; intro a w F hS
  obtain ⟨F, hS⟩ := hS.nm [11, 2, 0] [0] rfl rfl
  try dsimp only [rInt, rPair] at hS
  refine then_n ?_
  refine cond_b hS rfl (fun hc0 => ?_) (fun hc0 => ?_)
  ·skip
   simp at hc0
  refine wp_skip (then_n (wp_seq (wp_seq ?_)))
  refine region_q hS
    (cF rfl (oM .t) r1 trivial
    (cF rfl (o_len_sl Try.underlying61 .t) r1 trivial
    (cF rfl (o_gtr .t (.ci (by kernel_rfl))) r1 trivial
    Chain.nil)))
    hB ?_
  clear hS; intro a w F hS
  obtain ⟨F, hS⟩ := hS.nm [14, 2, 0] [0] rfl rfl
  try dsimp only [rInt, rPair] at hS
  refine then_n ?_
  refine cond_b hS rfl (fun hc1 => ?_) (fun hc1 => ?_)
  ·skip
   refine wp_seq ?_
   refine region_q hS
     (cF rfl (oN .cb) trivial trivial
     Chain.nil)
     hB ?_
   clear hS; intro a w F hS
   obtain ⟨F, hS⟩ := hS.nm [2, 0] [0] rfl rfl
   try dsimp only [rInt, rPair] at hS
   refine then_n (wp_ret (then_r ?_))
   refine ret_P hfr hS rfl (.tmp rfl .nil) (.one .refl)
  have hl60 : l.length ≤ 60 := by simp at hc1; omega
  have hwn : within l.length = l.length := within_id (by omega)
  refine wp_skip (then_n (wp_seq ?_))
  replace hS := hS.fresh 101 rfl
  replace hS := hS.fresh 102 rfl
  refine region_q hS
    (cF rfl (oM .t) r1 trivial
    (cF rfl (o_len_sl Try.underlying61 .t) r1 trivial
    (cF rfl (o_callN 101 (qnew_c l.length) Try.func26 rfl (by kernel_rfl) (Args.one .t) PV.ptr_one) r1 r1
    (cF rfl (oM .t) r1 trivial
    (cF rfl (o_len_sl Try.underlying61 .t) r1 trivial
    (cF rfl (o_callN 102 (stnew_c l.length) Try.func27 rfl (by kernel_rfl) (Args.one .t) PV.ptr_one) r1 r1
    (cF rfl (oN .t) r1 trivial
    (cF rfl (oN .t) r1 trivial
    Chain.nil))))))))
    hB ?_
  clear hS; intro a w F hS
  replace hS := hS.sub
  obtain ⟨F, hS⟩ := hS.nm [4, 3, 2, 0] [102, 101, 0] rfl rfl
  try dsimp only [RS.sub, SF.sub, CF.sub, csub, Anc.sub, List.map, rInt, rPair] at hS
  generalize Act.tau a 17 = v17 at hS
  generalize Act.tau a 20 = v20 at hS
  obtain ⟨_, _, _, ho⟩ := hS.obGet 101 rfl
  obtain ⟨b2, rfl⟩ := qH_ptr ho
  clear ho
  replace hS := hS.turn 101 rfl (r' := RS.hp (qH (.pointer (some ⟨b2, 0, none⟩)) (within l.length) [])) (fun _ _ _ _ h => h)
  obtain ⟨F, hS⟩ := hS.nm [4, 3, 2, 0] [102, 101, 0] rfl rfl
  obtain ⟨_, _, _, ho⟩ := hS.obGet 102 rfl
  obtain ⟨b3, rfl⟩ := stH_ptr ho
  clear ho
  replace hS := hS.turn 102 rfl (r' := RS.hp (stH (.pointer (some ⟨b3, 0, none⟩)) (within l.length) [])) (fun _ _ _ _ h => h)
  obtain ⟨F, hS⟩ := hS.nm [4, 3, 2, 0] [102, 101, 0] rfl rfl
  refine then_n (wp_seq ?_)
  replace hS := hS.fresh 103 rfl
  refine part_first 1 hS (by kernel_rfl)
    (cG rfl (o_callN 103 (aNew_c 65536 65536 (by decide)) Try.func29 rfl (by kernel_rfl) (Args.one (.ci (by kernel_rfl))) PV.ptr_one) trivial r1
    ChainN.nil)
    (by kernel_rfl) (by rw [hB]; kernel_rfl) ?_
  clear hS; intro a w F hS
  replace hS := hS.sub
  obtain ⟨F, hS⟩ := hS.nm [21, 4, 3, 2, 0] [103, 102, 101, 0] rfl rfl
  try dsimp only [RS.sub, SF.sub, CF.sub, csub, Anc.sub, List.map, rInt, rPair] at hS
  generalize Act.tau a 21 = v21 at hS
  obtain ⟨_, _, _, ho⟩ := hS.obGet 103 rfl
  obtain ⟨b, rfl⟩ := arNamed_ptr ho
  clear ho
  replace hS := hS.turn 103 rfl (r' := RS.hp (arH (some b) 65536 [])) (fun _ _ _ _ h => arNamed_open h)
  obtain ⟨F, hS⟩ := hS.nm [21, 4, 3, 2, 0] [103, 102, 101, 0] rfl rfl
  refine part_last hS (by kernel_rfl)
    (cG rfl (oP (snew_c (some b)) Try.func28 (Args.one .t)) r1 trivial
    (cG rfl (oH [.pointer none, .int .i64 0] 104) trivial trivial
    (cG rfl (oA 2 104 .same (.conv .t .agg)) r2 r1
    ChainN.nil)))
    (by kernel_rfl) (by rw [hB]; kernel_rfl) ?_
  clear hS; intro a w F hS
  replace hS := hS.sub
  obtain ⟨F, hS⟩ := hS.nm [5, 4, 3, 2, 0] [104, 103, 102, 101, 0] rfl rfl
  try dsimp only [RS.sub, SF.sub, CF.sub, csub, Anc.sub, List.map, stCells, xL, xM, Nat.reduceAdd, xD, xE, xT, xU, xC, xN, zCF, rInt, rPair] at hS
  generalize Act.tau a 5 = v5 at hS
  refine then_n (wp_seq (wp_seq ?_))
  refine region_q hS
    (cF rfl (oM .t) r1 trivial
    (cF rfl (o_nil_eql _ Try.underlying62 rfl .t) r1 trivial
    (cF rfl (oM .t) r1 trivial
    (Chain.cons (Cert.cond rfl rfl (fun h => o_move .t (by rfl))) r2 trivial
    (Chain.cons (Cert.cond rfl rfl (fun h => o_nil_eql _ Try.underlying64 rfl (.w h))) r2 trivial
    (cF rfl (o_or2 .t .t) r2 trivial
    Chain.nil))))))
    hB ?_
  clear hS; intro a w F hS
  obtain ⟨F, hS⟩ := hS.nm [28, 5, 4, 3, 2, 0] [104, 103, 102, 101, 0] rfl rfl
  try dsimp only [rInt, rPair] at hS
  refine then_n ?_
  refine cond_b hS rfl (fun hc2 => ?_) (fun hc2 => ?_)
  ·skip
   simp at hc2
  refine wp_skip (then_n (wp_seq (wp_seq ?_)))
  refine region_q hS
    (cF rfl (oM .t) r1 trivial
    (cF rfl (o_len_sl Try.underlying61 .t) r1 trivial
    (cF rfl (oM (.ci (by kernel_rfl))) trivial trivial
    Chain.nil)))
    hB ?_
  clear hS; intro a w F hS
  obtain ⟨F, hS⟩ := hS.nm [31, 30, 29, 5, 4, 3, 2, 0] [104, 103, 102, 101, 0] rfl rfl
  try dsimp only [rInt, rPair] at hS
  refine then_n (wp_block ?_)
  refine loop_keep (σ := (Nat) × (Int) × (List Cell) × (Tree)) [0, 2, 3, 4, 5, 29, 30] [0] (fun s => [(31, .pv (.int .i64 (s.1 : Int)))]) (fun s => [(104, .pt (.val v5) 68 [.pv (.is (arV (some b))), .pv (.int .i64 s.2.1)]), (103, RS.hp (arH (some b) 65536 s.2.2.1)), (101, RS.hp (qH (.pointer (some ⟨b2, 0, none⟩)) (within l.length) (l.take s.1))), (102, RS.hp (stH (.pointer (some ⟨b3, 0, none⟩)) (within l.length) (l.take s.1)))]) (fun s => s.1 ≤ l.length ∧ (SeqOk s.2.2.1 s.2.2.2 s.2.1 ∧ tVals s.2.2.2 = (l.take s.1).reverse ∧ (s.2.2.1.length : Int) ≤ 123 * s.1)) (fun s => l.length - s.1) ((0), (0), ([]), (.nil)) hS ⟨rfl, rfl, rfl, rfl, rfl, rfl, rfl, rfl, trivial⟩ ⟨rfl, rfl, rfl, rfl, rfl, trivial⟩ ⟨Nat.zero_le _, ⟨SeqOk.nil _, rfl, by simp⟩⟩ ?_
  clear hS; intro s a w F hC hS
  obtain ⟨i, root, q, t⟩ := s
  try dsimp only at hC
  obtain ⟨F, hS⟩ := hS.nm [31, 30, 29, 5, 4, 3, 2, 0] [104, 103, 102, 101, 0] rfl rfl
  try dsimp only at hS
  obtain ⟨hi, hq⟩ := hC
  obtain ⟨hk, htv, hql⟩ := hq
  have hts := tVals_len t
  rw [htv, List.length_reverse, List.length_take, Nat.min_eq_left (by omega)] at hts
  have htl : (l.take i).length = i := by rw [List.length_take]; omega
  refine wp_seq ?_
  refine region_q hS
    (cF rfl (o_lss .t .t) r2 trivial
    Chain.nil)
    hB ?_
  clear hS; intro a w F hS
  obtain ⟨F, hS⟩ := hS.nm [32, 31, 30, 29, 5, 4, 3, 2, 0] [104, 103, 102, 101, 0] rfl rfl
  try dsimp only [rInt, rPair] at hS
  refine then_n (wp_seq ?_)
  refine cond_b hS rfl (fun hc3 => ?_) (fun hc3 => ?_)
  ·skip
   have hil : i < l.length := by simp at hc3; omega
   have hh := hk.high (by omega)
   obtain ⟨e, rt1, hM, hk1, hel⟩ : ∃ (e : List Cell) (r : Int), qInsM 65536 q (Go.Gm.nth l i) t root 0 = (q ++ e, 0, r) ∧ SeqOk (q ++ e) (insT (Go.Gm.nth l i) t 0) r ∧ (e.length : Int) ≤ 3 * (tHigh t + 1) := by rcases hk.ins (room := 65536) 0 (Go.Gm.nth l i) (by omega) (by omega) with h | ⟨_, h⟩; exact h; omega
   obtain ⟨t1, ht1⟩ : ∃ t1, t1 = insT (Go.Gm.nth l i) t 0 := ⟨_, rfl⟩
   rw [← ht1] at hk1
   refine wp_skip (then_n (wp_seq (wp_block (wp_seq ?_))))
   refine region_q hS
     (cF rfl (o_indexAddr_sl (sz := 1) (.mk Try.underlying61 (by kernel_rfl)) (by intro x; rfl) .t .t (by omega) (by omega)) r2 trivial
     (cF rfl (oR false 1 .t) r1 trivial
     (cF rfl (oN .t) r1 trivial
     Chain.nil)))
     hB ?_
   clear hS; intro a w F hS
   obtain ⟨F, hS⟩ := hS.nm [34, 33, 32, 31, 30, 29, 7, 5, 4, 3, 2, 0] [104, 103, 102, 101, 0] rfl rfl
   try dsimp only [List.map, xD, xE, xT, xU, ldSF, rInt, rPair] at hS
   try simp only [Int.toNat_natCast] at hS
   refine then_n (wp_seq ?_)
   refine region_q hS
     (cF rfl (oL true 2 104 .is) r1 r1
     (cF rfl (oM .t) r1 trivial
     (cF rfl (o_callG1 103 (sINS_c (some b) 65536 q root t hk.rep (by omega) 0 (Go.Gm.nth l i)) Try.func30 rfl (by kernel_rfl) (Args.three (.pagg .t) (.ci (by kernel_rfl)) .t)) r2 r1
     (cF rfl (oM .t) r1 trivial
     (cF rfl (o_extract .t rfl) r1 trivial
     (cF rfl (o_extract .t rfl) r1 trivial
     (cF rfl (oH [.pointer none, .int .i64 0] 105) trivial trivial
     (cF rfl (oA 2 105 .same (.conv .t .agg)) r2 r1
     (cF rfl (oN .t) r1 trivial
     Chain.nil)))))))))
     hB ?_
   clear hS; intro a w F hS
   replace hS := hS.sub
   obtain ⟨F, hS⟩ := hS.nm [40, 39, 38, 37, 36, 35, 34, 33, 32, 31, 30, 29, 9, 8, 7, 5, 4, 3, 2, 0] [105, 104, 103, 102, 101, 0] rfl rfl
   try dsimp only [RS.sub, SF.sub, CF.sub, csub, Anc.sub, List.map, stCells, xL, xM, Nat.reduceAdd, xD, xE, xT, xU, xC, xN, zCF, ldSF, rInt, rPair] at hS
   generalize Act.tau a 8 = v8 at hS
   rw [hM] at hS
   refine then_n (wp_seq (wp_seq ?_))
   refine region_q hS
     (cF rfl (oM .t) r1 trivial
     (cF rfl (oM .t) r1 trivial
     (cF rfl (o_callG1 101 (qpush_ok b2 (within l.length) (l.take i) (Go.Gm.nth l i) (by rw [hwn, htl]; omega)) Try.func31 rfl (by kernel_rfl) (Args.two .t .t)) r2 r1
     (cF rfl (o_neq .t (.ci (by kernel_rfl))) r1 trivial
     (cF rfl (oM .t) r1 trivial
     (Chain.cons (Cert.run rfl rfl ((by rfl)) (o_move .t (by rfl))) r2 trivial
     (Chain.cons (Cert.run rfl rfl ((by rfl)) (o_move .t (by rfl))) r2 trivial
     (Chain.cons (Cert.run rfl rfl ((by rfl)) (o_callG1 102 (stpush_ok b3 (within l.length) (l.take i) (Go.Gm.nth l i) (by rw [hwn]; omega) (by rw [hwn, htl]; omega)) Try.func32 rfl (by kernel_rfl) (Args.two .t .t))) r3 r1
     (Chain.cons (Cert.run rfl rfl ((by rfl)) (o_neq .t (.ci (by kernel_rfl)))) r2 trivial
     (cF rfl (o_or2 .t (.conv .t (Ent.sure (by rfl)))) r2 trivial
     (cF rfl (oM .t) r1 trivial
     (Chain.cons (Cert.run rfl rfl ((by rfl)) (o_move .t (by rfl))) r2 trivial
     (Chain.cons (Cert.run rfl rfl ((by rfl)) (o_neq .t (.ci (by kernel_rfl)))) r2 trivial
     (cF rfl (o_or2 .t (.conv .t (Ent.sure (by rfl)))) r2 trivial
     Chain.nil))))))))))))))
     hB ?_
   clear hS; intro a w F hS
   obtain ⟨F, hS⟩ := hS.nm [54, 53, 52, 51, 50, 49, 48, 47, 46, 45, 44, 43, 42, 41, 40, 39, 38, 37, 36, 35, 34, 33, 32, 31, 30, 29, 9, 8, 7, 5, 4, 3, 2, 0] [105, 104, 103, 102, 101, 0] rfl rfl
   try dsimp only [rInt, rPair] at hS
   refine then_n ?_
   refine cond_b hS rfl (fun hc4 => ?_) (fun hc4 => ?_)
   ·skip
    simp at hc4
   refine wp_skip (then_n ?_)
   refine region_q hS
     (cF rfl (oL true 2 105 .is) r1 r1
     (cF rfl (oA 2 104 .is .t) r2 r1
     Chain.nil))
     hB ?_
   clear hS; intro a w F hS
   obtain ⟨F, hS⟩ := hS.nm [55, 54, 53, 52, 51, 50, 49, 48, 47, 46, 45, 44, 43, 42, 41, 40, 39, 38, 37, 36, 35, 34, 33, 32, 31, 30, 29, 9, 8, 7, 5, 4, 3, 2, 0] [105, 104, 103, 102, 101, 0] rfl rfl
   try dsimp only [List.map, stCells, xL, xM, Nat.reduceAdd, xD, xE, xT, xU, xC, xN, zCF, ldSF, rInt, rPair] at hS
   refine block_n (then_n ?_)
   refine region_q hS
     (cF rfl (o_add .t (.ci (by kernel_rfl))) r1 trivial
     (cF rfl (oM .t) r1 trivial
     Chain.nil))
     hB ?_
   clear hS; intro a w F hS
   obtain ⟨F, hS⟩ := hS.nm [56, 55, 54, 53, 52, 51, 50, 49, 48, 47, 46, 45, 44, 43, 42, 41, 40, 39, 38, 37, 36, 35, 34, 33, 32, 31, 30, 29, 9, 8, 7, 5, 4, 3, 2, 0] [105, 104, 103, 102, 101, 0] rfl rfl
   try dsimp only [rInt, rPair] at hS
   refine then_n ?_
   rw [take_next hil] at hS
   have hC2 : SeqOk (q ++ e) t1 rt1 ∧ tVals t1 = (l.take (i + 1)).reverse ∧ ((q ++ e).length : Int) ≤ 123 * ((i + 1 : Nat) : Int) := ⟨hk1, by rw [ht1, tVals_ins (by omega), ins_front, htv, take_nth hil, List.reverse_append]; rfl, by rw [List.length_append]; omega⟩
   replace hS := hS.ent (i := 31) (s' := .pv (.int .i64 ((i + 1 : Nat) : Int))) rfl (.int (wrap_succ (by omega)))
   obtain ⟨F, hS⟩ := hS.nm [30, 29, 5, 4, 3, 2, 0, 31] [0, 102, 101, 103, 104] rfl rfl
   exact ⟨((i + 1), (rt1), (q ++ e), (t1)), F, ⟨by omega, hC2⟩, hS, by omega⟩
  have hil : i = l.length := by simp at hc3; omega
  have hti : l.take i = l := by rw [hil, List.take_length]
  have hg : tVals t = l.reverse := by rw [htv, hti]
  have hsz : tSize t = l.length := by omega
  rw [hti] at hS
  have hll2 := hl60
  refine wp_exit (then_x (then_x (block_x (then_n (wp_seq ?_)))))
  refine region_any (by kernel_rfl) hS (by kernel_rfl)
    (cF rfl (oM .t) r1 trivial
    (cF rfl (o_callG1 102 (stlist_c b3 (within l.length) l (by omega)) Try.func34 rfl (by kernel_rfl) (Args.one .t)) r1 r1
    (cF rfl (oL true 2 104 .is) r1 r1
    (cF rfl (o_callG1 103 (sList_c (some b) 65536 q root t hk.rep (by omega)) Try.func35 rfl (by kernel_rfl) (Args.one (.pagg .t))) r1 r1
    (cF rfl (oP (sameInts_c _ _) Try.func33 (Args.two .t .t)) r2 trivial
    (cF rfl (oM .t) r1 trivial
    (Chain.cons (Cert.cond rfl rfl (fun h => o_move .t (by rfl))) r2 trivial
    (Chain.cons (Cert.condR rfl rfl (by rfl) (fun h => o_callG1 101 (qlist_c b2 (within l.length) l) Try.func36 rfl (by kernel_rfl) (Args.one (.w h)))) r2 r1
    (Chain.cons (Cert.cond rfl rfl (fun h => o_move .t (by rfl))) r2 trivial
    (Chain.cons (Cert.cond rfl rfl (fun h => o_callP (sameInts_c _ _) Try.func33 rfl (by kernel_rfl) (Args.two (.w h) (.w h)))) r3 trivial
    (cF rfl (o_and2 .t .t) r2 trivial
    (cF rfl (oM .t) r1 trivial
    (Chain.cons (Cert.cond rfl rfl (fun h => o_load (ag := true) (sz := 2) 104 .is (by kernel_rfl) (by kernel_rfl) (by kernel_rfl) (by rfl))) r2 r1
    (Chain.cons (Cert.condR rfl rfl (by rfl) (fun h => o_callG1 103 (slen_c (some b) 65536 q root t hk.rep) Try.func37 rfl (by kernel_rfl) (Args.one (.pagg (.w h))))) r2 r1
    (Chain.cons (Cert.cond rfl rfl (fun h => o_move .t (by rfl))) r2 trivial
    (Chain.cons (Cert.cond rfl rfl (fun h => o_len_sl Try.underlying61 (.w h))) r2 trivial
    (Chain.cons (Cert.cond rfl rfl (fun h => o_eql (.w h) (.w h))) r3 trivial
    (cF rfl (o_and2 .t .t) r2 trivial
    (cF rfl (oN .t) r1 trivial
    Chain.nil)))))))))))))))))))
    (by kernel_rfl) (by rw [hB]; kernel_rfl) ?_
  clear hS; intro a w F hS
  obtain ⟨F, hS⟩ := hS.nm [2] [103, 102, 101, 0] rfl rfl
  try dsimp only [List.map, xD, xE, xT, xU, ldSF, rInt, rPair] at hS
  refine then_n (wp_ret ?_)
  refine ret_P hfr hS rfl (.tmp rfl .nil) (.one (.bool (by rw [hg, hsz]; simp)))

end Go.Proofs.Ytdfidiehkkbimaa
