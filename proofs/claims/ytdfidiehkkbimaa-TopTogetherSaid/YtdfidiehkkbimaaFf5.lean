/- TopTogether. No condition beyond those that each theorem says. -/
import Derived.Test.YtdfidiehkkbimaaFf3
namespace Go.Proofs.Ytdfidiehkkbimaa
open Go Go.Gm
set_option linter.unusedVariables false
set_option linter.unusedSimpArgs false
set_option maxHeartbeats 4000000
set_option maxRecDepth 8000


theorem putPR_mem {k v : Int} {p : PairD} : ∀ (l : List PairD) (d : Bool), p ∈ putPR k v l d → p ∈ l ∨ p = ⟨k, v⟩
  | [], d, h => by cases d <;> simp [putPR] at h; exact .inr h
  | x :: l, d, h => by
    rw [putPR, List.mem_append, List.mem_append] at h
    rcases h with (h | h) | h
    · split at h <;> simp at h; exact .inr h
    · split at h <;> simp at h; exact .inl (by simp [h])
    · rcases putPR_mem l _ h with h | h
      · exact .inl (by simp [h])
      · exact .inr h
theorem putPR_done {k v : Int} : ∀ {l : List PairD}, (∀ p ∈ l, k < p.key) → putPR k v l true = l
  | [], _ => rfl
  | p :: l, h => by
    have := h p (by simp)
    rw [putPR, Bool.true_or, putPR_done fun x hx => h x (by simp [hx]), if_neg (by simp), if_neg (by omega)]
    rfl
theorem putP_inc {k v : Int} : ∀ {l : List PairD}, Inc l → Inc (putP l k v)
  | [], _ => by simp [putP, putPR, Inc]
  | x :: l, h => by
    have h' := List.pairwise_cons.1 h
    unfold putP
    by_cases h1 : x.key < k
    · have e : putPR k v (x :: l) false = x :: putP l k v := putPR_app_lo (l := [x]) (m := l) (by simpa using h1)
      rw [e]
      refine List.pairwise_cons.2 ⟨fun p hp => ?_, putP_inc h'.2⟩
      rcases putPR_mem l false hp with hp | rfl
      · exact h'.1 p hp
      · exact h1
    · by_cases h2 : x.key = k
      · rw [putPR, if_pos ⟨rfl, by omega⟩, if_pos h2, show (false || decide (k ≤ x.key)) = true by simp; omega, putPR_done fun p hp => by have := h'.1 p hp; omega]
        exact List.pairwise_cons.2 ⟨fun p hp => by have := h'.1 p hp; show k < p.key; omega, h'.2⟩
      · rw [putPR_low (fun p hp => by
          rcases List.mem_cons.1 hp with rfl | hp
          · omega
          · have := h'.1 p hp; omega)]
        refine List.pairwise_cons.2 ⟨fun p hp => ?_, h⟩
        show k < p.key
        rcases List.mem_cons.1 hp with rfl | hp
        · omega
        · have := h'.1 p hp; omega
structure MapOk (q : List Cell) (t : Tree) (root : Int) : Prop where
  rep : Rep id q t root
  bal : Bal t
  inc : Inc (tList t)
theorem MapOk.app {q e : List Cell} {t : Tree} {root : Int} (h : MapOk q t root) : MapOk (q ++ e) t root := ⟨h.rep.app e, h.bal, h.inc⟩
theorem MapOk.nil (q : List Cell) : MapOk q .nil 0 := ⟨rfl, trivial, List.Pairwise.nil⟩
theorem MapOk.put {room : Int} {q : List Cell} {t : Tree} {root : Int} (h : MapOk q t root) (k v : Int) (hs : tSize t < 1000000) :
    (∃ (e : List Cell) (r : Int), putM room q ⟨k, v⟩ t root = (q ++ e, 0, r) ∧ MapOk (q ++ e) (putT ⟨k, v⟩ t) r ∧ (e.length : Int) ≤ 3 * (tHigh t + 1)) ∨ (putM room q ⟨k, v⟩ t root = (q, 2, 0) ∧ room < q.length + 3 * (tHigh t + 1)) := by
  rcases toldM_good (putS_good (room := room) (p := ⟨k, v⟩) rfl h.rep hs) with ⟨e, e1, e2, e3, e4, e5⟩ | ⟨e1, e2⟩
  · refine .inl ⟨e, (putM room q ⟨k, v⟩ t root).2.2, ?_, ⟨e3, (putT_bal _ h.bal).1, ?_⟩, e5⟩
    · exact Prod.ext e1 (Prod.ext e2 rfl)
    · rw [putT_list _ h.inc]; exact putP_inc h.inc
  · exact .inr ⟨e1, e2⟩
theorem MapOk.high {q : List Cell} {t : Tree} {root : Int} (h : MapOk q t root) (hs : tSize t ≤ 1000000) : 0 ≤ tHigh t ∧ tHigh t ≤ 40 := ⟨tHigh_nn t, high_bound h.bal hs⟩

theorem MapOk.move {t : Tree} (h : Inc (tList t)) (hs : tSize t ≤ 1000000) (room : Int) :
    (∃ (e : List Cell) (r : Int), moveM room [] t = (e, 0, r) ∧ MapOk e (allT ((tList t).length + 1) (tList t)) r ∧ e.length = (tList t).length) ∨ (moveM room [] t = ([], 2, 0) ∧ room < (tList t).length) := by
  have hl := tSize_list t
  rcases toldM_good (allS_good (kf := id) (room := room) ((tList t).length + 1) [] (tList t) (by omega) (by omega) (fun _ _ => rfl)) with ⟨e, e1, e2, e3, e4, e5⟩ | ⟨e1, e2⟩
  · refine .inl ⟨e, _, Prod.ext e1 (Prod.ext e2 rfl), ⟨e3, (allT_high _ _ (by omega)).2, ?_⟩, by omega⟩
    rw [allT_list _ _ (by omega)]; exact h
  · exact .inr ⟨e1, by simpa using e2⟩
theorem aRoom_c (b : Nat) (room : Int) (q : List Cell) : FnG Try.prog 43 1 [.is (arV (some b))] [arH (some b) room q] (.int .i64 (room - q.length)) (fun _ => [arH (some b) room q]) := arRoom_c b room q
theorem Ent.rfl6 {s : SF} : Ent s s := fun _ _ _ _ h => h

theorem topTogether_c (l : List PairD) : FnP Try.prog 7 [.sl rPair l] (.bool true) := by
  refine FnP.mk Try.func7 rfl Try.ntmps7 rfl ?_
  intro B a w F hB hfr hS
  have hll := Sat.lenSl hS (i := 0) rfl
  refine wp_seq ?_
  refine region_q hS
    (cF rfl (oN .cb) trivial trivial
    Chain.nil)
    hB ?_
  clear hS; intro a w F hS
  obtain ⟨F, hS⟩ := hS.nm [2, 0] [0] rfl rfl
  try dsimp only [rInt, rPair] at hS
  refine then_n (wp_seq (wp_seq ?_))
  refine region_q hS
    (cF rfl (oP (begins04_c) Try.func25 Args.nil) trivial trivial
    (cF rfl (o_not .t) r1 trivial
    Chain.nil))
    hB ?_
  clear hS; intro a w F hS
  obtain ⟨F, hS⟩ := hS.nm [20, 2, 0] [0] rfl rfl
  try dsimp only [rInt, rPair] at hS
  refine then_n ?_
  refine cond_b hS rfl (fun hc0 => ?_) (fun hc0 => ?_)
  ·skip
   simp at hc0
  refine wp_skip (then_n (wp_seq (wp_seq ?_)))
  refine region_q hS
    (cF rfl (oM .t) r1 trivial
    (cF rfl (o_len_sl Try.underlying78 .t) r1 trivial
    (cF rfl (o_gtr .t (.ci (by kernel_rfl))) r1 trivial
    Chain.nil)))
    hB ?_
  clear hS; intro a w F hS
  obtain ⟨F, hS⟩ := hS.nm [23, 2, 0] [0] rfl rfl
  try dsimp only [rInt, rPair] at hS
  refine then_n ?_
  refine cond_b hS rfl (fun hc1 => ?_) (fun hc1 => ?_)
  ·skip
   refine wp_seq ?_
   refine region_q hS
     (cF rfl (oN .cb) trivial trivial
     Chain.nil)
     hB ?_
   clear hS; intro a w F hS
   obtain ⟨F, hS⟩ := hS.nm [2, 0] [0] rfl rfl
   try dsimp only [rInt, rPair] at hS
   refine then_n (wp_ret (then_r ?_))
   refine ret_P hfr hS rfl (.tmp rfl .nil) (.one .refl)
  have hl60 : l.length ≤ 60 := by simp at hc1; omega
  refine wp_skip (then_n (wp_seq ?_))
  replace hS := hS.fresh 101 rfl
  refine region_q hS
    (cF rfl (o_callN 101 (aNew_c 65536 65536 (by decide)) Try.func29 rfl (by kernel_rfl) (Args.one (.ci (by kernel_rfl))) PV.ptr_one) trivial r1
    (cF rfl (oN .t) r1 trivial
    Chain.nil))
    hB ?_
  clear hS; intro a w F hS
  replace hS := hS.sub
  obtain ⟨F, hS⟩ := hS.nm [3, 2, 0] [101, 0] rfl rfl
  try dsimp only [RS.sub, SF.sub, CF.sub, csub, Anc.sub, List.map, rInt, rPair] at hS
  generalize Act.tau a 24 = v24 at hS
  obtain ⟨_, _, _, ho⟩ := hS.obGet 101 rfl
  obtain ⟨b, rfl⟩ := arNamed_ptr ho
  clear ho
  replace hS := hS.turn 101 rfl (r' := RS.hp (arH (some b) 65536 [])) (fun _ _ _ _ h => arNamed_open h)
  obtain ⟨F, hS⟩ := hS.nm [3, 2, 0] [101, 0] rfl rfl
  refine then_n (wp_seq ?_)
  refine region_q hS
    (cF rfl (oM .t) r1 trivial
    (cF rfl (oP (mnew_c (some b)) Try.func38 (Args.one .t)) r1 trivial
    (cF rfl (oM .t) r1 trivial
    (cF rfl (oP (snew_c (some b)) Try.func28 (Args.one .t)) r1 trivial
    (cF rfl (oH [.pointer none, .int .i64 0] 102) trivial trivial
    (cF rfl (oH [.pointer none, .int .i64 0] 103) trivial trivial
    (cF rfl (oA 2 102 .same (.conv .t .agg)) r2 r1
    (cF rfl (oA 2 103 .same (.conv .t .agg)) r2 r1
    Chain.nil))))))))
    hB ?_
  clear hS; intro a w F hS
  replace hS := hS.sub
  obtain ⟨F, hS⟩ := hS.nm [5, 4, 2, 0] [103, 102, 101, 0] rfl rfl
  try dsimp only [RS.sub, SF.sub, CF.sub, csub, Anc.sub, List.map, stCells, xL, xM, Nat.reduceAdd, xD, xE, xT, xU, xC, xN, zCF, rInt, rPair] at hS
  generalize Act.tau a 4 = v4 at hS
  generalize Act.tau a 5 = v5 at hS
  refine then_n (wp_seq ?_)
  refine region_q hS
    (cF rfl (oN (.c rfl)) trivial trivial
    Chain.nil)
    hB ?_
  clear hS; intro a w F hS
  obtain ⟨F, hS⟩ := hS.nm [6, 5, 4, 2, 0] [103, 102, 101, 0] rfl rfl
  try dsimp only [rInt, rPair] at hS
  refine then_n (wp_seq ?_)
  refine region_q hS
    (cF rfl (oN (.c rfl)) trivial trivial
    Chain.nil)
    hB ?_
  clear hS; intro a w F hS
  obtain ⟨F, hS⟩ := hS.nm [7, 6, 5, 4, 2, 0] [103, 102, 101, 0] rfl rfl
  try dsimp only [rInt, rPair] at hS
  refine then_n (wp_seq (wp_seq ?_))
  refine region_q hS
    (cF rfl (oM .t) r1 trivial
    (cF rfl (o_len_sl Try.underlying78 .t) r1 trivial
    (cF rfl (oM (.ci (by kernel_rfl))) trivial trivial
    Chain.nil)))
    hB ?_
  clear hS; intro a w F hS
  obtain ⟨F, hS⟩ := hS.nm [31, 30, 29, 7, 6, 5, 4, 2] [103, 102, 101, 0] rfl rfl
  try dsimp only [rInt, rPair] at hS
  refine then_n (wp_block ?_)
  replace hS := hS.fresh 50 rfl
  replace hS := hS.turn 50 rfl (nilRow (T := 3) (sz := 1) (R := rInt))
  replace hS := hS.ent (i := 6) (s' := .pv (.sl rPair [])) rfl (.nilSl)
  refine loop_keep (σ := (Nat) × (Int) × (Tree) × (Int) × (Tree) × (List Cell) × (Value) × (List Int)) [2, 4, 5, 29, 30] [0] (fun s => [(31, .pv (.int .i64 (s.1 : Int))), (6, .pv (.sl rPair (tList s.2.2.1))), (7, .pv (.is s.2.2.2.2.2.2.1))]) (fun s => [(102, .pt (.val v4) 80 [.pv (.is (arV (some b))), .pv (.int .i64 s.2.1)]), (103, .pt (.val v5) 68 [.pv (.is (arV (some b))), .pv (.int .i64 s.2.2.2.1)]), (101, RS.hp (arH (some b) 65536 s.2.2.2.2.2.1)), (50, .ob (.val s.2.2.2.2.2.2.1) (rowH 3 1 rInt s.2.2.2.2.2.2.2))]) (fun s => s.1 ≤ l.length ∧ (MapOk s.2.2.2.2.2.1 s.2.2.1 s.2.1 ∧ SeqOk s.2.2.2.2.2.1 s.2.2.2.2.1 s.2.2.2.1 ∧ s.2.2.2.2.2.2.2 = tVals s.2.2.2.2.1 ∧ tSize s.2.2.2.2.1 = s.1 ∧ tSize s.2.2.1 ≤ s.1 ∧ (s.2.2.2.2.2.1.length : Int) ≤ 246 * s.1)) (fun s => l.length - s.1) ((0), (0), (.nil), (0), (.nil), ([]), (.slice none 0 0), ([])) hS ⟨rfl, rfl, rfl, rfl, rfl, rfl, rfl, rfl, trivial⟩ ⟨rfl, rfl, rfl, rfl, rfl, trivial⟩ ⟨Nat.zero_le _, ⟨MapOk.nil _, SeqOk.nil _, rfl, rfl, Int.le_refl 0, by simp⟩⟩ ?_
  clear hS; intro s a w F hC hS
  obtain ⟨i, root, t, sroot, u, q, lv, lst⟩ := s
  try dsimp only at hC
  obtain ⟨F, hS⟩ := hS.nm [31, 30, 29, 7, 6, 5, 4, 2] [103, 102, 101, 50, 0] rfl rfl
  try dsimp only at hS
  obtain ⟨hi, hq⟩ := hC
  obtain ⟨hk, hsk, hlu, hus, hts, hql⟩ := hq
  have hll2 := congrArg List.length hlu
  have hlv := tVals_len u
  have htn := tSize_nn t
  refine wp_seq ?_
  refine region_q hS
    (cF rfl (o_lss .t .t) r2 trivial
    Chain.nil)
    hB ?_
  clear hS; intro a w F hS
  obtain ⟨F, hS⟩ := hS.nm [32, 31, 30, 29, 7, 6, 5, 4, 2] [103, 102, 101, 50, 0] rfl rfl
  try dsimp only [rInt, rPair] at hS
  refine then_n (wp_seq ?_)
  refine cond_b hS rfl (fun hc2 => ?_) (fun hc2 => ?_)
  ·skip
   have hil : i < l.length := by simp at hc2; omega
   have hh := hk.high (by omega)
   have hh2 := hsk.high (by omega)
   have htz := tSize_list t
   obtain ⟨e, rt1, hM, hk1, hel⟩ : ∃ (e : List Cell) (r : Int), putM 65536 q ⟨(Go.Gm.nth l i).key, (Go.Gm.nth l i).val⟩ t root = (q ++ e, 0, r) ∧ MapOk (q ++ e) (putT ⟨(Go.Gm.nth l i).key, (Go.Gm.nth l i).val⟩ t) r ∧ (e.length : Int) ≤ 3 * (tHigh t + 1) := by rcases hk.put (room := 65536) (Go.Gm.nth l i).key (Go.Gm.nth l i).val (by omega) with h | ⟨_, h⟩; exact h; omega
   have hpl := putT_list ⟨(Go.Gm.nth l i).key, (Go.Gm.nth l i).val⟩ hk.inc
   have hps := (putT_size ⟨(Go.Gm.nth l i).key, (Go.Gm.nth l i).val⟩ t).2
   obtain ⟨t1, ht1⟩ : ∃ t1, t1 = putT ⟨(Go.Gm.nth l i).key, (Go.Gm.nth l i).val⟩ t := ⟨_, rfl⟩
   rw [← ht1] at hk1 hpl hps
   obtain ⟨e2, srt1, hM2, hsk1, hel2⟩ : ∃ (e2 : List Cell) (r : Int), qInsM 65536 (q ++ e) (Go.Gm.nth l i).val u sroot (tSize u) = (q ++ e ++ e2, 0, r) ∧ SeqOk (q ++ e ++ e2) (insT (Go.Gm.nth l i).val u (tSize u)) r ∧ (e2.length : Int) ≤ 3 * (tHigh u + 1) := by rcases (hsk.app (e := e)).ins (room := 65536) (tSize u) (Go.Gm.nth l i).val (by omega) (by omega) with h | ⟨_, h⟩; exact h; rw [List.length_append] at h; omega
   have hi1 := insT_size (Go.Gm.nth l i).val u (tSize u)
   have hi2 := tVals_ins (t := u) (j := tSize u) (x := (Go.Gm.nth l i).val) (by omega)
   obtain ⟨u1, hu1⟩ : ∃ u1, u1 = insT (Go.Gm.nth l i).val u (tSize u) := ⟨_, rfl⟩
   rw [← hu1] at hsk1 hi1 hi2
   rw [← hlv, ins_end] at hi2
   have hC2 : MapOk (q ++ e ++ e2) t1 rt1 ∧ SeqOk (q ++ e ++ e2) u1 srt1 ∧ lst ++ [(Go.Gm.nth l i).val] = tVals u1 ∧ tSize u1 = ((i + 1 : Nat) : Int) ∧ tSize t1 ≤ ((i + 1 : Nat) : Int) ∧ ((q ++ e ++ e2).length : Int) ≤ 246 * ((i + 1 : Nat) : Int) := ⟨hk1.app, hsk1, by rw [hi2, hlu], by omega, by omega, by rw [List.length_append, List.length_append]; omega⟩
   refine wp_skip (then_n (wp_seq (wp_block (wp_seq ?_))))
   refine region_q hS
     (cF rfl (o_indexAddr_sl (sz := 2) (.mk Try.underlying78 (by kernel_rfl)) (by intro x; rfl) .t .t (by omega) (by omega)) r2 trivial
     (cF rfl (oR true 2 .t) r1 trivial
     (cF rfl (oH [.int .i64 0, .int .i64 0] 104) trivial trivial
     (cF rfl (oA 2 104 .same .t) r2 r1
     Chain.nil))))
     hB ?_
   clear hS; intro a w F hS
   replace hS := hS.sub
   obtain ⟨F, hS⟩ := hS.nm [34, 33, 32, 31, 30, 29, 9, 7, 6, 5, 4, 2] [104, 103, 102, 101, 50, 0] rfl rfl
   try dsimp only [RS.sub, SF.sub, CF.sub, csub, Anc.sub, List.map, stCells, xL, xM, Nat.reduceAdd, xD, xE, xT, xU, xC, xN, zCF, ldSF, rInt, rPair] at hS
   generalize Act.tau a 9 = v9 at hS
   try simp only [Int.toNat_natCast] at hS
   refine then_n (wp_seq ?_)
   refine region_q hS
     (cF rfl (oL true 2 102 .is) r1 r1
     (cF rfl (oF 0 104 .is) r1 r1
     (cF rfl (oL false 1 104 .adr) r1 r1
     (cF rfl (oF 1 104 .is) r1 r1
     (cF rfl (oL false 1 104 .adr) r1 r1
     (cF rfl (o_callG1 101 (mPut_c (some b) 65536 q root (Go.Gm.nth l i).key (Go.Gm.nth l i).val t hk.rep) Try.func39 rfl (by kernel_rfl) (Args.three (.pagg .t) .t .t)) r3 r1
     (cF rfl (oM .t) r1 trivial
     (cF rfl (o_extract .t rfl) r1 trivial
     (cF rfl (o_extract .t rfl) r1 trivial
     (cF rfl (oH [.pointer none, .int .i64 0] 105) trivial trivial
     (cF rfl (oA 2 105 .same (.conv .t .agg)) r2 r1
     (cF rfl (oN .t) r1 trivial
     Chain.nil))))))))))))
     hB ?_
   clear hS; intro a w F hS
   replace hS := hS.sub
   obtain ⟨F, hS⟩ := hS.nm [43, 42, 41, 40, 39, 38, 37, 36, 35, 34, 33, 32, 31, 30, 29, 11, 10, 9, 7, 6, 5, 4, 2] [105, 104, 103, 102, 101, 50, 0] rfl rfl
   try dsimp only [RS.sub, SF.sub, CF.sub, csub, Anc.sub, List.map, stCells, xL, xM, Nat.reduceAdd, xD, xE, xT, xU, xC, xN, zCF, ldSF, rInt, rPair] at hS
   generalize Act.tau a 10 = v10 at hS
   rw [hM] at hS
   refine then_n (wp_seq ?_)
   refine region_any (by kernel_rfl) hS (by kernel_rfl)
     (cF rfl (oL true 2 103 .is) r1 r1
     (cF rfl (oL true 2 103 .is) r1 r1
     (cF rfl (o_callG1 101 (slen_c (some b) 65536 (q ++ e) sroot u (hsk.rep.app e)) Try.func37 rfl (by kernel_rfl) (Args.one (.pagg .t))) r1 r1
     (cF rfl (oF 1 104 .is) r1 r1
     (cF rfl (oL false 1 104 .adr) r1 r1
     (cF rfl (o_callG1 101 (sINS_c (some b) 65536 (q ++ e) sroot u (hsk.rep.app e) (by omega) (tSize u) (Go.Gm.nth l i).val) Try.func30 rfl (by kernel_rfl) (Args.three (.pagg .t) .t .t)) r3 r1
     (cF rfl (oM .t) r1 trivial
     (cF rfl (o_extract .t rfl) r1 trivial
     (cF rfl (o_extract .t rfl) r1 trivial
     (cF rfl (oH [.pointer none, .int .i64 0] 106) trivial trivial
     (cF rfl (oA 2 106 .same (.conv .t .agg)) r2 r1
     (cF rfl (oN .t) r1 trivial
     Chain.nil))))))))))))
     (by kernel_rfl) (by rw [hB]; kernel_rfl) ?_
   clear hS; intro a w F hS
   replace hS := hS.sub
   obtain ⟨F, hS⟩ := hS.nm [52, 51, 50, 49, 48, 47, 46, 45, 44, 43, 42, 41, 40, 39, 38, 37, 36, 35, 34, 33, 32, 31, 30, 29, 13, 12, 11, 10, 9, 7, 6, 5, 4, 2] [106, 105, 104, 103, 102, 101, 50, 0] rfl rfl
   try dsimp only [RS.sub, SF.sub, CF.sub, csub, Anc.sub, List.map, stCells, xL, xM, Nat.reduceAdd, xD, xE, xT, xU, xC, xN, zCF, ldSF, rInt, rPair] at hS
   generalize Act.tau a 12 = v12 at hS
   rw [hM2] at hS
   refine then_n (wp_seq (wp_seq ?_))
   refine region_q hS
     (cF rfl (oM .t) r1 trivial
     (cF rfl (o_neq .t (.ci (by kernel_rfl))) r1 trivial
     (cF rfl (oM .t) r1 trivial
     (Chain.cons (Cert.cond rfl rfl (fun h => o_move .t (by rfl))) r2 trivial
     (Chain.cons (Cert.cond rfl rfl (fun h => o_neq (.w h) (.ci (by kernel_rfl)))) r2 trivial
     (cF rfl (o_or2 .t .t) r2 trivial
     Chain.nil))))))
     hB ?_
   clear hS; intro a w F hS
   obtain ⟨F, hS⟩ := hS.nm [58, 57, 56, 55, 54, 53, 52, 51, 50, 49, 48, 47, 46, 45, 44, 43, 42, 41, 40, 39, 38, 37, 36, 35, 34, 33, 32, 31, 30, 29, 13, 12, 11, 10, 9, 7, 6, 5, 4, 2] [106, 105, 104, 103, 102, 101, 50, 0] rfl rfl
   try dsimp only [rInt, rPair] at hS
   refine then_n ?_
   refine cond_b hS rfl (fun hc3 => ?_) (fun hc3 => ?_)
   ·skip
    simp at hc3
   refine wp_skip (then_n (wp_seq ?_))
   refine region_any (by kernel_rfl) hS (by kernel_rfl)
     (cF rfl (oL true 2 105 .is) r1 r1
     (cF rfl (oL true 2 106 .is) r1 r1
     (cF rfl (oA 2 102 .is .t) r2 r1
     (cF rfl (oA 2 103 .is .t) r2 r1
     Chain.nil))))
     (by kernel_rfl) (by rw [hB]; kernel_rfl) ?_
   clear hS; intro a w F hS
   obtain ⟨F, hS⟩ := hS.nm [60, 59, 58, 57, 56, 55, 54, 53, 52, 51, 50, 49, 48, 47, 46, 45, 44, 43, 42, 41, 40, 39, 38, 37, 36, 35, 34, 33, 32, 31, 30, 29, 13, 12, 11, 10, 9, 7, 6, 5, 4, 2] [106, 105, 104, 103, 102, 101, 50, 0] rfl rfl
   try dsimp only [List.map, stCells, xL, xM, Nat.reduceAdd, xD, xE, xT, xU, xC, xN, zCF, ldSF, rInt, rPair] at hS
   refine then_n (wp_seq ?_)
   refine region_q hS
     (cF rfl (oM .t) r1 trivial
     (cF rfl (oF 0 104 .is) r1 r1
     (cF rfl (oL false 1 104 .adr) r1 r1
     (cF rfl (oF 1 104 .is) r1 r1
     (cF rfl (oL false 1 104 .adr) r1 r1
     (cF rfl (oP (put06_c (tList t) (Go.Gm.nth l i).key (Go.Gm.nth l i).val (by omega)) Try.func40 (Args.three .t .t .t)) r3 trivial
     (cF rfl (oN .t) r1 trivial
     Chain.nil)))))))
     hB ?_
   clear hS; intro a w F hS
   obtain ⟨F, hS⟩ := hS.nm [66, 65, 64, 63, 62, 61, 60, 59, 58, 57, 56, 55, 54, 53, 52, 51, 50, 49, 48, 47, 46, 45, 44, 43, 42, 41, 40, 39, 38, 37, 36, 35, 34, 33, 32, 31, 30, 29, 13, 12, 11, 10, 9, 7, 6, 5, 4, 2] [106, 105, 104, 103, 102, 101, 50, 0] rfl rfl
   try dsimp only [List.map, xD, xE, xT, xU, ldSF, rInt, rPair] at hS
   rw [← hpl] at hS
   refine then_n ?_
   refine region_q hS
     (cF rfl (oM .t) r1 trivial
     (cF rfl (oF 1 104 .is) r1 r1
     (cF rfl (oL false 1 104 .adr) r1 r1
     (cF rfl (o_buildSliceE (sz := 1) (zs := [.int .i64 0]) (r := [(0, .tmp 69)]) (l := [_]) Try.underlying61 (by kernel_rfl) (by kernel_rfl) (by kernel_rfl) (by kernel_rfl) rfl rfl (.one rfl .t one_int (by kernel_rfl) .nil) rfl) r1 trivial
     (cF rfl (o_append (sz := 1) (bs := 8) 50 (.mk' Try.underlying61 (by kernel_rfl) (by kernel_rfl)) (by intro x; rfl) .is (.arr (l' := [_]) .t) (by simp only [List.length_cons, List.length_nil]; omega) (by decide)) ⟨rfl, rfl, trivial⟩ ⟨rfl, trivial⟩
     (cF rfl (oN .t) r1 trivial
     Chain.nil))))))
     hB ?_
   clear hS; intro a w F hS
   replace hS := hS.sub
   obtain ⟨F, hS⟩ := hS.nm [71, 70, 69, 68, 67, 66, 65, 64, 63, 62, 61, 60, 59, 58, 57, 56, 55, 54, 53, 52, 51, 50, 49, 48, 47, 46, 45, 44, 43, 42, 41, 40, 39, 38, 37, 36, 35, 34, 33, 32, 31, 30, 29, 13, 12, 11, 10, 9, 7, 6, 5, 4, 2] [106, 105, 104, 103, 102, 101, 50, 0] rfl rfl
   try dsimp only [RS.sub, SF.sub, CF.sub, csub, Anc.sub, List.map, stCells, xL, xM, Nat.reduceAdd, xD, xE, xT, xU, xC, xN, zCF, ldSF, rInt, rPair] at hS
   generalize Act.tau a 71 = v71 at hS
   refine block_n (then_n ?_)
   refine region_q hS
     (cF rfl (o_add .t (.ci (by kernel_rfl))) r1 trivial
     (cF rfl (oM .t) r1 trivial
     Chain.nil))
     hB ?_
   clear hS; intro a w F hS
   obtain ⟨F, hS⟩ := hS.nm [72, 71, 70, 69, 68, 67, 66, 65, 64, 63, 62, 61, 60, 59, 58, 57, 56, 55, 54, 53, 52, 51, 50, 49, 48, 47, 46, 45, 44, 43, 42, 41, 40, 39, 38, 37, 36, 35, 34, 33, 32, 31, 30, 29, 13, 12, 11, 10, 9, 7, 6, 5, 4, 2] [106, 105, 104, 103, 102, 101, 50, 0] rfl rfl
   try dsimp only [rInt, rPair] at hS
   refine then_n ?_
   replace hS := hS.ent (i := 31) (s' := .pv (.int .i64 ((i + 1 : Nat) : Int))) rfl (.int (wrap_succ (by omega)))
   replace hS := hS.ent (i := 6) (s' := .pv (.sl rPair (tList t1))) rfl (Ent.rfl6)
   obtain ⟨F, hS⟩ := hS.nm [30, 29, 5, 4, 2, 7, 6, 31] [0, 50, 101, 103, 102] rfl rfl
   exact ⟨((i + 1), (rt1), (t1), (srt1), (u1), (q ++ e ++ e2), _, _), F, ⟨by omega, hC2⟩, hS, by omega⟩
  have hil : i = l.length := by simp at hc2; omega
  have htz := tSize_list t
  obtain ⟨rm, hrm0⟩ : ∃ rm : Int, rm = ((tList t).length : Int) + (lst.length : Int) := ⟨_, rfl⟩
  have hrm : refRoom (IntKind.wrap .i64 (((tList t).length : Int) + (lst.length : Int))) = rm := by rw [wrap_i64 (by omega), ← hrm0]; unfold refRoom; rw [if_neg (by omega), if_neg (by omega)]
  obtain ⟨e3, mr3, hM3, hk3, hel3⟩ : ∃ (e : List Cell) (r : Int), moveM rm [] t = (e, 0, r) ∧ MapOk e (allT ((tList t).length + 1) (tList t)) r ∧ e.length = (tList t).length := by rcases MapOk.move hk.inc (by omega) rm with h | ⟨_, h⟩; exact h; omega
  have hl3 := allT_list ((tList t).length + 1) (tList t) (by omega)
  obtain ⟨e4, sr4, hM4, hk4, hel4⟩ : ∃ (e : List Cell) (r : Int), qOfM rm e3 (tVals u) = (e3 ++ e, 0, r) ∧ SeqOk (e3 ++ e) (allT ((tVals u).length + 1) ((tVals u).map kp)) r ∧ e.length = (tVals u).length := by rcases seq_of2 (room := rm) (q := e3) (l := tVals u) (by omega) with h | ⟨_, h⟩; exact h; omega
  have hl4 := tVals_of (tVals u)
  refine wp_exit (then_x (then_x (block_x (then_n (wp_seq ?_)))))
  replace hS := hS.fresh 107 rfl
  refine region_q hS
    (cF rfl (oM .t) r1 trivial
    (cF rfl (o_len_sl Try.underlying78 .t) r1 trivial
    (cF rfl (oM .t) r1 trivial
    (cF rfl (o_len_row 50 Try.underlying61 .is) r1 r1
    (cF rfl (o_add .t .t) r2 trivial
    (cF rfl (o_callN 107 (aNew_c _ rm hrm) Try.func29 rfl (by kernel_rfl) (Args.one .t) PV.ptr_one) r1 r1
    (cF rfl (oN .t) r1 trivial
    Chain.nil)))))))
    hB ?_
  clear hS; intro a w F hS
  replace hS := hS.sub
  obtain ⟨F, hS⟩ := hS.nm [14, 7, 6, 5, 4, 2] [107, 103, 102, 101, 50, 0] rfl rfl
  try dsimp only [RS.sub, SF.sub, CF.sub, csub, Anc.sub, List.map, rInt, rPair] at hS
  generalize Act.tau a 78 = v78 at hS
  obtain ⟨_, _, _, ho⟩ := hS.obGet 107 rfl
  obtain ⟨b2, rfl⟩ := arNamed_ptr ho
  clear ho
  replace hS := hS.turn 107 rfl (r' := RS.hp (arH (some b2) rm [])) (fun _ _ _ _ h => arNamed_open h)
  obtain ⟨F, hS⟩ := hS.nm [14, 7, 6, 5, 4, 2] [107, 103, 102, 101, 50, 0] rfl rfl
  refine then_n (wp_seq ?_)
  refine region_q hS
    (cF rfl (oL true 2 102 .is) r1 r1
    (cF rfl (oM .t) r1 trivial
    (cF rfl (o_callG2c 101 107 (mMove_c (some b) 65536 q root t hk.rep (by omega) (some b2) rm []) Try.func41 rfl (by kernel_rfl) rfl (Args.two (.pagg .t) .t)) r2 r2
    (cF rfl (oM .t) r1 trivial
    (cF rfl (o_extract .t rfl) r1 trivial
    (cF rfl (o_extract .t rfl) r1 trivial
    (cF rfl (oH [.pointer none, .int .i64 0] 108) trivial trivial
    (cF rfl (oA 2 108 .same (.conv .t .agg)) r2 r1
    (cF rfl (oN .t) r1 trivial
    Chain.nil)))))))))
    hB ?_
  clear hS; intro a w F hS
  replace hS := hS.sub
  obtain ⟨F, hS⟩ := hS.nm [16, 15, 14, 7, 6, 5, 4, 2] [108, 107, 103, 102, 101, 50, 0] rfl rfl
  try dsimp only [RS.sub, SF.sub, CF.sub, csub, Anc.sub, List.map, stCells, xL, xM, Nat.reduceAdd, xD, xE, xT, xU, xC, xN, zCF, ldSF, rInt, rPair] at hS
  generalize Act.tau a 15 = v15 at hS
  rw [hM3] at hS
  refine then_n (wp_seq ?_)
  refine region_q hS
    (cF rfl (oL true 2 103 .is) r1 r1
    (cF rfl (oM .t) r1 trivial
    (cF rfl (o_callG2c 101 107 (sMove_c (some b) 65536 q sroot u hsk.rep (by omega) (some b2) rm e3) Try.func42 rfl (by kernel_rfl) rfl (Args.two (.pagg .t) .t)) r2 r2
    (cF rfl (oM .t) r1 trivial
    (cF rfl (o_extract .t rfl) r1 trivial
    (cF rfl (o_extract .t rfl) r1 trivial
    (cF rfl (oH [.pointer none, .int .i64 0] 109) trivial trivial
    (cF rfl (oA 2 109 .same (.conv .t .agg)) r2 r1
    (cF rfl (oN .t) r1 trivial
    Chain.nil)))))))))
    hB ?_
  clear hS; intro a w F hS
  replace hS := hS.sub
  obtain ⟨F, hS⟩ := hS.nm [18, 17, 16, 15, 14, 7, 6, 5, 4, 2] [109, 108, 107, 103, 102, 101, 50, 0] rfl rfl
  try dsimp only [RS.sub, SF.sub, CF.sub, csub, Anc.sub, List.map, stCells, xL, xM, Nat.reduceAdd, xD, xE, xT, xU, xC, xN, zCF, ldSF, rInt, rPair] at hS
  generalize Act.tau a 17 = v17 at hS
  rw [hM4] at hS
  refine then_n (wp_seq ?_)
  obtain ⟨F, hS⟩ := hS.give 50 7 rfl rfl
  obtain ⟨F, hS⟩ := hS.nm [18, 17, 16, 15, 14, 7, 6, 5, 4, 2] [109, 108, 107, 103, 102, 101, 0] rfl rfl
  refine region_q hS
    (cF rfl (oM .t) r1 trivial
    (cF rfl (o_eql .t (.ci (by kernel_rfl))) r1 trivial
    (cF rfl (oM .t) r1 trivial
    (Chain.cons (Cert.cond rfl rfl (fun h => o_move .t (by rfl))) r2 trivial
    (Chain.cons (Cert.cond rfl rfl (fun h => o_eql (.w h) (.ci (by kernel_rfl)))) r2 trivial
    (cF rfl (o_and2 .t .t) r2 trivial
    (cF rfl (oM .t) r1 trivial
    (Chain.cons (Cert.cond rfl rfl (fun h => o_move .t (by rfl))) r2 trivial
    (Chain.cons (Cert.condR rfl rfl (by rfl) (fun h => o_callG1 107 (aRoom_c b2 rm (e3 ++ e4)) Try.func43 rfl (by kernel_rfl) (Args.one (.w h)))) r2 r1
    (Chain.cons (Cert.cond rfl rfl (fun h => o_eql (.w h) (.ci (by kernel_rfl)))) r2 trivial
    (cF rfl (o_and2 .t .t) r2 trivial
    (cF rfl (oM .t) r1 trivial
    (Chain.cons (Cert.cond rfl rfl (fun h => o_load (ag := true) (sz := 2) 102 .is (by kernel_rfl) (by kernel_rfl) (by kernel_rfl) (by rfl))) r2 r1
    (Chain.cons (Cert.condR rfl rfl (by rfl) (fun h => o_callG1 101 (mList_c (some b) 65536 q root t hk.rep (by omega)) Try.func45 rfl (by kernel_rfl) (Args.one (.pagg (.w h))))) r2 r1
    (Chain.cons (Cert.cond rfl rfl (fun h => o_move .t (by rfl))) r2 trivial
    (Chain.cons (Cert.cond rfl rfl (fun h => o_callP (same06_c _ _) Try.func44 rfl (by kernel_rfl) (Args.two (.w h) (.w h)))) r3 trivial
    (cF rfl (o_and2 .t .t) r2 trivial
    (cF rfl (oM .t) r1 trivial
    (Chain.cons (Cert.cond rfl rfl (fun h => o_load (ag := true) (sz := 2) 108 .is (by kernel_rfl) (by kernel_rfl) (by kernel_rfl) (by rfl))) r2 r1
    (Chain.cons (Cert.condR rfl rfl (by rfl) (fun h => o_callG1 107 (mList_c (some b2) rm (e3 ++ e4) mr3 _ (hk3.rep.app e4) (by rw [tSize_list, hl3]; omega)) Try.func45 rfl (by kernel_rfl) (Args.one (.pagg (.w h))))) r2 r1
    (Chain.cons (Cert.cond rfl rfl (fun h => o_move .t (by rfl))) r2 trivial
    (Chain.cons (Cert.cond rfl rfl (fun h => o_callP (same06_c _ _) Try.func44 rfl (by kernel_rfl) (Args.two (.w h) (.w h)))) r3 trivial
    (cF rfl (o_and2 .t .t) r2 trivial
    (cF rfl (oM .t) r1 trivial
    (Chain.cons (Cert.cond rfl rfl (fun h => o_load (ag := true) (sz := 2) 103 .is (by kernel_rfl) (by kernel_rfl) (by kernel_rfl) (by rfl))) r2 r1
    (Chain.cons (Cert.condR rfl rfl (by rfl) (fun h => o_callG1 101 (sList_c (some b) 65536 q sroot u hsk.rep (by omega)) Try.func35 rfl (by kernel_rfl) (Args.one (.pagg (.w h))))) r2 r1
    (Chain.cons (Cert.cond rfl rfl (fun h => o_move .t (by rfl))) r2 trivial
    (Chain.cons (Cert.cond rfl rfl (fun h => o_callP (sameInts_c _ _) Try.func33 rfl (by kernel_rfl) (Args.two (.w h) (.w h)))) r3 trivial
    (cF rfl (o_and2 .t .t) r2 trivial
    (cF rfl (oM .t) r1 trivial
    (Chain.cons (Cert.cond rfl rfl (fun h => o_load (ag := true) (sz := 2) 109 .is (by kernel_rfl) (by kernel_rfl) (by kernel_rfl) (by rfl))) r2 r1
    (Chain.cons (Cert.condR rfl rfl (by rfl) (fun h => o_callG1 107 (sList_c (some b2) rm (e3 ++ e4) sr4 _ hk4.rep (by have := tVals_len (allT ((tVals u).length + 1) ((tVals u).map kp)); rw [hl4] at this; omega)) Try.func35 rfl (by kernel_rfl) (Args.one (.pagg (.w h))))) r2 r1
    (Chain.cons (Cert.cond rfl rfl (fun h => o_move .t (by rfl))) r2 trivial
    (Chain.cons (Cert.cond rfl rfl (fun h => o_callP (sameInts_c _ _) Try.func33 rfl (by kernel_rfl) (Args.two (.w h) (.w h)))) r3 trivial
    (cF rfl (o_and2 .t .t) r2 trivial
    (cF rfl (oN .t) r1 trivial
    Chain.nil))))))))))))))))))))))))))))))))))))
    hB ?_
  clear hS; intro a w F hS
  obtain ⟨F, hS⟩ := hS.nm [2] [107, 101, 0] rfl rfl
  try dsimp only [List.map, xD, xE, xT, xU, ldSF, rInt, rPair] at hS
  refine then_n (wp_ret ?_)
  refine ret_P hfr hS rfl (.tmp rfl .nil) (.one (.bool (by rw [hl3, hl4, hlu, show rm - ((e3 ++ e4).length : Int) = 0 by rw [List.length_append]; omega]; simp)))

end Go.Proofs.Ytdfidiehkkbimaa
