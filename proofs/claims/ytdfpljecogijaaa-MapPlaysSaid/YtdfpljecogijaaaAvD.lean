/- Maps grow. No condition beyond those that each theorem says. -/
import Derived.Test.YtdfpljecogijaaaAvC
namespace Go.Proofs.Ytdfpljecogijaaa
open Go Go.Gm
set_option linter.unusedVariables false
set_option linter.unusedSimpArgs false
set_option maxHeartbeats 4000000
set_option maxRecDepth 8000


theorem putPR_mem {k v : Int} {p : PairD} : ∀ (l : List PairD) (d : Bool), p ∈ putPR k v l d → p ∈ l ∨ p = ⟨k, v⟩
  | [], d, h => by cases d <;> simp [putPR] at h; exact .inr h
  | x :: l, d, h => by
    rw [putPR, List.mem_append, List.mem_append] at h
    rcases h with (h | h) | h
    · split at h <;> simp at h; exact .inr h
    · split at h <;> simp at h; exact .inl (by simp [h])
    · rcases putPR_mem l _ h with h | h
      · exact .inl (by simp [h])
      · exact .inr h
theorem putPR_done {k v : Int} : ∀ {l : List PairD}, (∀ p ∈ l, k < p.key) → putPR k v l true = l
  | [], _ => rfl
  | p :: l, h => by
    have := h p (by simp)
    rw [putPR, Bool.true_or, putPR_done fun x hx => h x (by simp [hx]), if_neg (by simp), if_neg (by omega)]
    rfl
theorem putP_inc {k v : Int} : ∀ {l : List PairD}, Inc l → Inc (putP l k v)
  | [], _ => by simp [putP, putPR, Inc]
  | x :: l, h => by
    have h' := List.pairwise_cons.1 h
    unfold putP
    by_cases h1 : x.key < k
    · have e : putPR k v (x :: l) false = x :: putP l k v := putPR_app_lo (l := [x]) (m := l) (by simpa using h1)
      rw [e]
      refine List.pairwise_cons.2 ⟨fun p hp => ?_, putP_inc h'.2⟩
      rcases putPR_mem l false hp with hp | rfl
      · exact h'.1 p hp
      · exact h1
    · by_cases h2 : x.key = k
      · rw [putPR, if_pos ⟨rfl, by omega⟩, if_pos h2, show (false || decide (k ≤ x.key)) = true by simp; omega, putPR_done fun p hp => by have := h'.1 p hp; omega]
        exact List.pairwise_cons.2 ⟨fun p hp => by have := h'.1 p hp; show k < p.key; omega, h'.2⟩
      · rw [putPR_low (fun p hp => by
          rcases List.mem_cons.1 hp with rfl | hp
          · omega
          · have := h'.1 p hp; omega)]
        refine List.pairwise_cons.2 ⟨fun p hp => ?_, h⟩
        show k < p.key
        rcases List.mem_cons.1 hp with rfl | hp
        · omega
        · have := h'.1 p hp; omega
theorem delP_inc {k : Int} {l : List PairD} (h : Inc l) : Inc (delP l k) := List.Pairwise.filter _ h
theorem putP_ne (l : List PairD) (k v : Int) : putP l k v ≠ [] := by
  unfold putP
  have : ∀ (l : List PairD), putPR k v l false ≠ [] := by
    intro l
    induction l with
    | nil => simp [putPR]
    | cons x l ih =>
      rw [putPR]
      by_cases h : k ≤ x.key
      · simp [h]
      · simp only [h, and_false, if_false, decide_false, Bool.or_false]
        intro e
        exact ih (List.append_eq_nil_iff.1 e).2
  exact this l
/-- A right map. -/
structure MapOk (q : List Cell) (t : Tree) (root : Int) : Prop where
  rep : Rep id q t root
  bal : Bal t
  inc : Inc (tList t)
theorem MapOk.app {q e : List Cell} {t : Tree} {root : Int} (h : MapOk q t root) : MapOk (q ++ e) t root := ⟨h.rep.app e, h.bal, h.inc⟩
theorem MapOk.nil (q : List Cell) : MapOk q .nil 0 := ⟨rfl, trivial, List.Pairwise.nil⟩
theorem MapOk.put {room : Int} {q : List Cell} {t : Tree} {root : Int} (h : MapOk q t root) (k v : Int) (hs : tSize t < 1000000) :
    (∃ (e : List Cell) (r : Int), putM room q ⟨k, v⟩ t root = (q ++ e, 0, r) ∧ MapOk (q ++ e) (putT ⟨k, v⟩ t) r ∧ (e.length : Int) ≤ 3 * (tHigh t + 1)) ∨ (putM room q ⟨k, v⟩ t root = (q, 2, 0) ∧ room < q.length + 3 * (tHigh t + 1)) := by
  rcases toldM_good (putS_good (room := room) (p := ⟨k, v⟩) rfl h.rep hs) with ⟨e, e1, e2, e3, e4, e5⟩ | ⟨e1, e2⟩
  · refine .inl ⟨e, (putM room q ⟨k, v⟩ t root).2.2, ?_, ⟨e3, (putT_bal _ h.bal).1, ?_⟩, e5⟩
    · exact Prod.ext e1 (Prod.ext e2 rfl)
    · rw [putT_list _ h.inc]; exact putP_inc h.inc
  · exact .inr ⟨e1, e2⟩
theorem MapOk.del {room : Int} {q : List Cell} {t : Tree} {root : Int} (h : MapOk q t root) (k : Int) (hs : tSize t ≤ 1000000) :
    (¬ (lookT k t).2 = true ∧ delM room q k t root = (q, 3, 0)) ∨ (lookT k t).2 = true ∧ ((∃ (e : List Cell) (r : Int), delM room q k t root = (q ++ e, 0, r) ∧ MapOk (q ++ e) (delT k t) r ∧ (e.length : Int) ≤ 3 * (tHigh t + 1)) ∨ (delM room q k t root = (q, 2, 0) ∧ room < q.length + 3 * (tHigh t + 1))) := by
  by_cases hl : (lookT k t).2 = true
  · refine .inr ⟨hl, ?_⟩
    have hd : delM room q k t root = toldM q.length (delS id room q 0 k t root) := if_pos hl
    rw [hd]
    rcases toldM_good (delS_good (room := room) h.rep (lookT_has.1 hl) hs (fun _ _ => rfl)) with ⟨e, e1, e2, e3, e4, e5⟩ | ⟨e1, e2⟩
    · refine .inl ⟨e, _, ?_, ⟨e3, (delT_bal _ h.bal).1, ?_⟩, e5⟩
      · exact Prod.ext e1 (Prod.ext e2 rfl)
      · rw [delT_list _ h.inc]; exact delP_inc h.inc
    · exact .inr ⟨e1, e2⟩
  · exact .inl ⟨hl, if_neg hl⟩
theorem MapOk.high {q : List Cell} {t : Tree} {root : Int} (h : MapOk q t root) (hs : tSize t ≤ 1000000) : 0 ≤ tHigh t ∧ tHigh t ≤ 40 := ⟨tHigh_nn t, high_bound h.bal hs⟩
/-- 1 << high against the square. -/
theorem shl_high {t : Tree} (h : Bal t) (hs : tSize t ≤ 1000000) : ¬ IntKind.wrap .i64 (IntKind.wrap .i64 (tSize t + 1) * IntKind.wrap .i64 (tSize t + 1)) < IntKind.wrap .i64 (1 * 2 ^ min (IntKind.wrap .u64 (tHigh t)).toNat (IntKind.bits .i64)) := by
  have h1 := bal_two h
  have h2 := high_bound h hs
  have h3 := tHigh_nn t
  have h4 := tSize_nn t
  have h5 : (tSize t + 1) * (tSize t + 1) ≤ 1000001 * 1000001 := Int.mul_le_mul (by omega) (by omega) (by omega) (by omega)
  have h6 : 0 ≤ (tSize t + 1) * (tSize t + 1) := Int.mul_nonneg (by omega) (by omega)
  rw [wrap_i64 (x := tSize t + 1) (by omega), wrap_u64 (by omega), wrap_i64 (by omega)]
  have h7 : min (tHigh t).toNat (IntKind.bits .i64) = (tHigh t).toNat := by
    have : IntKind.bits .i64 = 64 := rfl
    omega
  rw [h7, Int.one_mul, wrap_i64 (by have : (0:Int) < 2 ^ (tHigh t).toNat := Int.pow_pos (by decide); omega)]
  omega
theorem inc_nth {l : List PairD} (h : Inc l) {i j : Nat} (hij : i < j) (hj : j < l.length) : (Go.Gm.nth l i).key < (Go.Gm.nth l j).key := by
  rw [nth_eq (by omega), nth_eq hj]
  exact List.pairwise_iff_getElem.1 h i j (by omega) hj hij
theorem rank_nth {l : List PairD} (h : Inc l) {i : Nat} (hi : i < l.length) : rankL (Go.Gm.nth l i).key l = i := by
  have e : l = l.take i ++ l.drop i := (List.take_append_drop i l).symm
  have e1 : rankL (Go.Gm.nth l i).key (l.take i) = (l.take i).length := rankL_all fun p hp => by
    obtain ⟨j, hj, rfl⟩ := List.mem_iff_getElem.1 hp
    have hj' := hj
    rw [List.length_take] at hj'
    rw [List.getElem_take, ← nth_eq (by omega)]
    exact inc_nth h (by omega) hi
  have e2 : rankL (Go.Gm.nth l i).key (l.drop i) = 0 := rankL_none fun p hp => by
    obtain ⟨j, hj, rfl⟩ := List.mem_iff_getElem.1 hp
    rw [List.length_drop] at hj
    rw [List.getElem_drop, ← nth_eq (by omega)]
    rcases Nat.eq_zero_or_pos j with rfl | hp
    · exact Int.le_refl _
    · have := inc_nth h (i := i) (j := i + j) (by omega) (by omega)
      omega
  have e3 : rankL (Go.Gm.nth l i).key (l.take i ++ l.drop i) = i := by rw [rankL_app, e1, e2, List.length_take]; omega
  rwa [← e] at e3
theorem mlenT_c (o : Option Nat) (room : Int) (q : List Cell) (root : Int) (t : Tree) (hr : Rep id q t root) : FnG Try.prog 30 1 [.agg [.is (arV o), .int .i64 root]] [arH o room q] (.int .i64 (tSize t)) (fun _ => [arH o room q]) := by
  have := mlen_c o room q root
  rwa [hr.size] at this
theorem mhighT_c (o : Option Nat) (room : Int) (q : List Cell) (root : Int) (t : Tree) (hr : Rep id q t root) : FnG Try.prog 29 1 [.agg [.is (arV o), .int .i64 root]] [arH o room q] (.int .i64 (tHigh t)) (fun _ => [arH o room q]) := by
  have := mhigh_c o room q root
  rwa [hr.high] at this
theorem mRankL_c (o : Option Nat) (room : Int) (q : List Cell) (root k : Int) (t : Tree) (h : MapOk q t root) (hs : tSize t ≤ 1000000) : FnG Try.prog 32 1 [.agg [.is (arV o), .int .i64 root], .int .i64 k] [arH o room q] (.int .i64 (rankL k (tList t))) (fun _ => [arH o room q]) := by
  have := mrank_c o room q root k t h.rep hs
  rwa [rankT_list k h.inc] at this
theorem mAtL_c (o : Option Nat) (room : Int) (q : List Cell) (root : Int) (i : Nat) (t : Tree) (h : MapOk q t root) (hs : tSize t ≤ 1000000) (hi : i < (tList t).length) : FnG Try.prog 31 1 [.agg [.is (arV o), .int .i64 root], .int .i64 (i : Int)] [arH o room q] (.tup [.agg (rPair (Go.Gm.nth (tList t) i)), .bool true]) (fun _ => [arH o room q]) := by
  have := mat_c o room q root i t h.rep hs
  have hsz := tSize_list t
  have e : atR (i : Int) t = (Go.Gm.nth (tList t) i, true) := by
    unfold atR
    rw [if_pos ⟨by omega, by omega⟩, atT_list (by omega) (by omega), Int.toNat_natCast]
  rw [e] at this; exact this

theorem mapGrows_c (n jump : Int) : FnP Try.prog 7 [.int .i64 n, .int .i64 jump] (.bool true) := by
  refine FnP.mk Try.func7 rfl Try.ntmps7 rfl ?_
  intro B a w F hB hfr hS
  refine wp_seq ?_
  refine region_seq hS (by kernel_rfl)
    (cF rfl (o_assign .cb (by rfl)) trivial trivial
    Chain.nil)
    (by kernel_rfl) (by rw [hB]; kernel_rfl) ?_
  clear hS; intro a w F hS
  obtain ⟨F, hS⟩ := hS.norm [(0, _), (1, _), (4, _)] [(0, _)] r3 r1
  try dsimp only [rCell, rPair] at hS
  refine then_n ?_
  refine wp_seq ?_
  refine wp_seq ?_
  refine region_seq hS (by kernel_rfl)
    (cF rfl (o_callP (lives06_c) Try.func20 rfl (by kernel_rfl) Args.nil) trivial trivial
    (cF rfl (o_not .t) r1 trivial
    Chain.nil))
    (by kernel_rfl) (by rw [hB]; kernel_rfl) ?_
  clear hS; intro a w F hS
  obtain ⟨F, hS⟩ := hS.norm [(0, _), (1, _), (4, _), (15, _)] [(0, _)] r4 r1
  try dsimp only [rCell, rPair] at hS
  refine then_n ?_
  refine cond_b hS rfl (fun hc0 => ?_) (fun hc0 => ?_)
  ·skip
   simp at hc0
  ·skip
   refine wp_skip ?_
   refine then_n ?_
   refine wp_seq ?_
   refine wp_seq ?_
   refine region_seq hS (by kernel_rfl)
     (cF rfl (o_move .t (by rfl)) r1 trivial
     (cF rfl (o_lss .t (.ci (by kernel_rfl))) r1 trivial
     (cF rfl (o_move .t (by rfl)) r1 trivial
     (Chain.cons (Cert.cond rfl rfl (fun h => o_move .t (by rfl))) r2 trivial
     (Chain.cons (Cert.cond rfl rfl (fun h => o_gtr (.w h) (.ci (by kernel_rfl)))) r2 trivial
     (cF rfl (o_or2 .t .t) r2 trivial
     (cF rfl (o_move .t (by rfl)) r1 trivial
     (Chain.cons (Cert.cond rfl rfl (fun h => o_move .t (by rfl))) r2 trivial
     (Chain.cons (Cert.cond rfl rfl (fun h => o_lss (.w h) (.ci (by kernel_rfl)))) r2 trivial
     (cF rfl (o_or2 .t .t) r2 trivial
     (cF rfl (o_move .t (by rfl)) r1 trivial
     (Chain.cons (Cert.cond rfl rfl (fun h => o_move .t (by rfl))) r2 trivial
     (Chain.cons (Cert.cond rfl rfl (fun h => o_gtr (.w h) (.ci (by kernel_rfl)))) r2 trivial
     (cF rfl (o_or2 .t .t) r2 trivial
     Chain.nil))))))))))))))
     (by kernel_rfl) (by rw [hB]; kernel_rfl) ?_
   clear hS; intro a w F hS
   obtain ⟨F, hS⟩ := hS.norm [(0, _), (1, _), (4, _), (29, _)] [(0, _)] r4 r1
   try dsimp only [rCell, rPair] at hS
   refine then_n ?_
   refine cond_b hS rfl (fun hc1 => ?_) (fun hc1 => ?_)
   ·skip
    refine wp_seq ?_
    refine region_seq hS (by kernel_rfl)
      (cF rfl (o_assign .cb (by rfl)) trivial trivial
      Chain.nil)
      (by kernel_rfl) (by rw [hB]; kernel_rfl) ?_
    clear hS; intro a w F hS
    obtain ⟨F, hS⟩ := hS.norm [(0, _), (1, _), (4, _)] [(0, _)] r3 r1
    try dsimp only [rCell, rPair] at hS
    refine then_n ?_
    refine wp_ret ?_
    refine then_r ?_
    refine ret_P hfr hS rfl (.tmp rfl .nil) (.one (.bool (by first | rfl | (simp only [Bool.and_eq_true, Bool.or_eq_true, decide_eq_true_eq]; exact ⟨⟨by omega, by omega⟩, hpos⟩))))
   ·skip
    simp only [Bool.or_eq_false_iff, decide_eq_false_iff_not] at hc1
    have hn1 : 0 ≤ n ∧ n ≤ 400 ∧ 1 ≤ jump ∧ jump ≤ 400 := by omega
    refine wp_skip ?_
    refine then_n ?_
    refine wp_seq ?_
    replace hS := hS.fresh 101 rfl
    refine region_seq hS (by kernel_rfl)
      (cF rfl (o_callN 101 (aNew_c 65536 65536 (by decide)) Try.func9 rfl (by kernel_rfl) (Args.one (.ci (by kernel_rfl))) PV.ptr_one) trivial r1
      (cF rfl (o_assign .t (by rfl)) r1 trivial
      Chain.nil))
      (by kernel_rfl) (by rw [hB]; kernel_rfl) ?_
    clear hS; intro a w F hS
    replace hS := hS.sub
    obtain ⟨F, hS⟩ := hS.norm [(0, _), (1, _), (4, _), (5, _)] [(0, _), (101, _)] r4 r2
    try dsimp only [RS.sub, SF.sub, CF.sub, csub, Anc.sub, List.map, rCell, rPair] at hS
    generalize Act.tau a 30 = v30 at hS
    obtain ⟨_, _, _, ho⟩ := hS.obGet 101 rfl
    obtain ⟨b, rfl⟩ := arNamed_ptr ho
    clear ho
    replace hS := hS.turn 101 rfl (r' := RS.hp (arH (some b) 65536 [])) (fun _ _ _ _ h => arNamed_open h)
    obtain ⟨F, hS⟩ := hS.norm [(0, _), (1, _), (4, _), (5, _)] [(0, _), (101, _)] r4 r2
    refine then_n ?_
    refine wp_seq ?_
    refine wp_seq ?_
    refine region_seq hS (by kernel_rfl)
      (cF rfl (o_move .t (by rfl)) r1 trivial
      (cF rfl (o_nil_eql _ Try.underlying24 rfl .t) r1 trivial
      Chain.nil))
      (by kernel_rfl) (by rw [hB]; kernel_rfl) ?_
    clear hS; intro a w F hS
    obtain ⟨F, hS⟩ := hS.norm [(0, _), (1, _), (4, _), (5, _), (32, _)] [(0, _), (101, _)] r5 r2
    try dsimp only [rCell, rPair] at hS
    refine then_n ?_
    refine cond_b hS rfl (fun hc2 => ?_) (fun hc2 => ?_)
    ·skip
     simp at hc2
    ·skip
     refine wp_skip ?_
     refine then_n ?_
     refine wp_seq ?_
     refine region_seq hS (by kernel_rfl)
       (cF rfl (o_move .t (by rfl)) r1 trivial
       (cF rfl (o_callP (mnew_c (some b)) Try.func21 rfl (by kernel_rfl) (Args.one .t)) r1 trivial
       (cF rfl (o_alloc (zs := [.pointer none, .int .i64 0]) 102 (by kernel_rfl)) trivial trivial
       (cF rfl (o_storeA (sz := 2) 102 .same (.conv .t .agg) (by kernel_rfl) (by kernel_rfl) (by kernel_rfl)) r2 r1
       Chain.nil))))
       (by kernel_rfl) (by rw [hB]; kernel_rfl) ?_
     clear hS; intro a w F hS
     replace hS := hS.sub
     obtain ⟨F, hS⟩ := hS.norm [(0, _), (1, _), (4, _), (6, _)] [(0, _), (101, _), (102, _)] r4 r3
     try dsimp only [RS.sub, SF.sub, CF.sub, csub, Anc.sub, List.map, stCells, List.length_cons, List.length_nil, Nat.reduceAdd, List.drop_succ_cons, List.drop_zero, List.drop_nil, List.take_succ_cons, List.take_zero, List.take_nil, List.cons_append, List.nil_append, zCF, rCell, rPair] at hS
     generalize Act.tau a 6 = v6 at hS
     refine then_n ?_
     refine wp_seq ?_
     refine wp_seq ?_
     refine region_seq hS (by kernel_rfl)
       (cF rfl (o_assign (.ci (by kernel_rfl)) (by rfl)) trivial trivial
       Chain.nil)
       (by kernel_rfl) (by rw [hB]; kernel_rfl) ?_
     clear hS; intro a w F hS
     obtain ⟨F, hS⟩ := hS.norm [(0, _), (1, _), (4, _), (6, _), (7, _)] [(0, _), (101, _), (102, _)] r5 r3
     try dsimp only [rCell, rPair] at hS
     refine then_n ?_
     refine wp_block ?_
     refine loop_keep (σ := Nat × Int × List Cell × Tree) [0, 1, 4, 6] [0] (fun s => [(7, .pv (.int .i64 (s.1 : Int)))]) (fun s => [(102, .pt (.val v6) 53 [.pv (.is (arV (some b))), .pv (.int .i64 s.2.1)]), (101, RS.hp (arH (some b) 65536 s.2.2.1))]) (fun s => (s.1 : Int) ≤ n ∧ MapOk s.2.2.1 s.2.2.2 s.2.1 ∧ tSize s.2.2.2 ≤ s.1 ∧ (s.2.2.1.length : Int) ≤ 123 * s.1 ∧ (0 < s.1 → tList s.2.2.2 ≠ [])) (fun s => n.toNat - s.1) ((0), (0), ([]), (.nil)) hS ⟨rfl, rfl, rfl, rfl, rfl, trivial⟩ ⟨rfl, rfl, rfl, trivial⟩ ⟨by omega, MapOk.nil _, Int.le_refl 0, by simp, fun h => absurd h (Nat.lt_irrefl 0)⟩ ?_
     clear hS; intro s a w F hC hS
     obtain ⟨i, root, q, t⟩ := s
     try dsimp only at hC
     obtain ⟨F, hS⟩ := hS.norm [(0, _), (1, _), (4, _), (6, _), (7, _)] [(0, _), (101, _), (102, _)] r5 r3
     try dsimp only at hS
     obtain ⟨hi, hk, hts, hql, hne⟩ := hC
     refine wp_seq ?_
     refine wp_seq ?_
     refine region_seq hS (by kernel_rfl)
       (cF rfl (o_move .t (by rfl)) r1 trivial
       (cF rfl (o_move .t (by rfl)) r1 trivial
       (cF rfl (o_lss .t .t) r2 trivial
       Chain.nil)))
       (by kernel_rfl) (by rw [hB]; kernel_rfl) ?_
     clear hS; intro a w F hS
     obtain ⟨F, hS⟩ := hS.norm [(0, _), (1, _), (4, _), (6, _), (7, _), (35, _), (36, _), (37, _)] [(0, _), (101, _), (102, _)] r8 r3
     try dsimp only [rCell, rPair] at hS
     refine then_n ?_
     refine cond_b hS rfl (fun hc3 => ?_) (fun hc3 => ?_)
     ·skip
      have hin : (i : Int) < n := by simpa using hc3
      have hh := hk.high (by omega)
      obtain ⟨e, rt2, hM, hk2, hel⟩ : ∃ (e : List Cell) (r : Int), putM 65536 q ⟨(Int.tmod (IntKind.wrap .i64 ((i : Int) * jump)) n), i⟩ t root = (q ++ e, 0, r) ∧ MapOk (q ++ e) (putT ⟨(Int.tmod (IntKind.wrap .i64 ((i : Int) * jump)) n), i⟩ t) r ∧ (e.length : Int) ≤ 3 * (tHigh t + 1) := by rcases hk.put (room := 65536) (Int.tmod (IntKind.wrap .i64 ((i : Int) * jump)) n) i (by omega) with h | ⟨_, h⟩; exact h; omega
      obtain ⟨t2, ht2⟩ : ∃ t2, t2 = putT ⟨(Int.tmod (IntKind.wrap .i64 ((i : Int) * jump)) n), i⟩ t := ⟨_, rfl⟩
      rw [← ht2] at hk2
      refine wp_skip ?_
      refine then_n ?_
      refine wp_seq ?_
      refine wp_block ?_
      refine wp_seq ?_
      refine region_any (by kernel_rfl) hS (by kernel_rfl)
        (cF rfl (o_load (ag := true) (sz := 2) 102 .is (by kernel_rfl) (by kernel_rfl) (by kernel_rfl) (by rfl)) r1 r1
        (cF rfl (o_move .t (by rfl)) r1 trivial
        (cF rfl (o_move .t (by rfl)) r1 trivial
        (cF rfl (o_mul .t .t) r2 trivial
        (cF rfl (o_move .t (by rfl)) r1 trivial
        (cF rfl (o_rem .t .t (by omega)) r2 trivial
        (cF rfl (o_move .t (by rfl)) r1 trivial
        (cF rfl (o_callG1 101 (mPut_c (some b) 65536 q root (Int.tmod (IntKind.wrap .i64 ((i : Int) * jump)) n) i t hk.rep) Try.func25 rfl (by kernel_rfl) (Args.three (.pagg .t) .t .t)) r3 r1
        (cF rfl (o_move .t (by rfl)) r1 trivial
        (cF rfl (o_extract .t rfl) r1 trivial
        (cF rfl (o_extract .t rfl) r1 trivial
        (cF rfl (o_alloc (zs := [.pointer none, .int .i64 0]) 103 (by kernel_rfl)) trivial trivial
        (cF rfl (o_storeA (sz := 2) 103 .same (.conv .t .agg) (by kernel_rfl) (by kernel_rfl) (by kernel_rfl)) r2 r1
        (cF rfl (o_assign .t (by rfl)) r1 trivial
        Chain.nil))))))))))))))
        (by kernel_rfl) (by rw [hB]; kernel_rfl) ?_
      clear hS; intro a w F hS
      replace hS := hS.sub
      obtain ⟨F, hS⟩ := hS.norm [(0, _), (1, _), (4, _), (6, _), (7, _), (8, _), (9, _), (35, _), (36, _), (37, _), (40, _), (41, _), (42, _), (43, _), (44, _), (45, _), (46, _), (47, _), (48, _), (49, _), (50, _)] [(0, _), (101, _), (102, _), (103, _)] ⟨rfl, rfl, rfl, rfl, rfl, rfl, rfl, rfl, rfl, rfl, rfl, rfl, rfl, rfl, rfl, rfl, rfl, rfl, rfl, rfl, rfl, trivial⟩ r4
      try dsimp only [RS.sub, SF.sub, CF.sub, csub, Anc.sub, List.map, stCells, List.length_cons, List.length_nil, Nat.reduceAdd, List.drop_succ_cons, List.drop_zero, List.drop_nil, List.take_succ_cons, List.take_zero, List.take_nil, List.cons_append, List.nil_append, zCF, ldSF, rCell, rPair] at hS
      generalize Act.tau a 8 = v8 at hS
      rw [hM] at hS
      refine then_n ?_
      refine wp_seq ?_
      refine wp_seq ?_
      refine region_seq hS (by kernel_rfl)
        (cF rfl (o_move .t (by rfl)) r1 trivial
        (cF rfl (o_neq .t (.ci (by kernel_rfl))) r1 trivial
        Chain.nil))
        (by kernel_rfl) (by rw [hB]; kernel_rfl) ?_
      clear hS; intro a w F hS
      obtain ⟨F, hS⟩ := hS.norm [(0, _), (1, _), (4, _), (6, _), (7, _), (8, _), (9, _), (35, _), (36, _), (37, _), (40, _), (41, _), (42, _), (43, _), (44, _), (45, _), (46, _), (47, _), (48, _), (49, _), (50, _), (51, _), (52, _)] [(0, _), (101, _), (102, _), (103, _)] ⟨rfl, rfl, rfl, rfl, rfl, rfl, rfl, rfl, rfl, rfl, rfl, rfl, rfl, rfl, rfl, rfl, rfl, rfl, rfl, rfl, rfl, rfl, rfl, trivial⟩ r4
      try dsimp only [rCell, rPair] at hS
      refine then_n ?_
      refine cond_b hS rfl (fun hc4 => ?_) (fun hc4 => ?_)
      ·skip
       simp at hc4
      ·skip
       refine wp_skip ?_
       refine then_n ?_
       refine region_seq hS (by kernel_rfl)
         (cF rfl (o_load (ag := true) (sz := 2) 103 .is (by kernel_rfl) (by kernel_rfl) (by kernel_rfl) (by rfl)) r1 r1
         (cF rfl (o_storeA (sz := 2) 102 .is .t (by kernel_rfl) (by kernel_rfl) (by kernel_rfl)) r2 r1
         Chain.nil))
         (by kernel_rfl) (by rw [hB]; kernel_rfl) ?_
       clear hS; intro a w F hS
       obtain ⟨F, hS⟩ := hS.norm [(0, _), (1, _), (4, _), (6, _), (7, _), (8, _), (9, _), (35, _), (36, _), (37, _), (40, _), (41, _), (42, _), (43, _), (44, _), (45, _), (46, _), (47, _), (48, _), (49, _), (50, _), (51, _), (52, _), (53, _)] [(0, _), (101, _), (102, _), (103, _)] ⟨rfl, rfl, rfl, rfl, rfl, rfl, rfl, rfl, rfl, rfl, rfl, rfl, rfl, rfl, rfl, rfl, rfl, rfl, rfl, rfl, rfl, rfl, rfl, rfl, trivial⟩ r4
       try dsimp only [List.map, stCells, List.length_cons, List.length_nil, Nat.reduceAdd, List.drop_succ_cons, List.drop_zero, List.drop_nil, List.take_succ_cons, List.take_zero, List.take_nil, List.cons_append, List.nil_append, zCF, ldSF, rCell, rPair] at hS
       refine block_n ?_
       refine then_n ?_
       refine region_seq hS (by kernel_rfl)
         (cF rfl (o_move .t (by rfl)) r1 trivial
         (cF rfl (o_add .t (.ci (by kernel_rfl))) r1 trivial
         (cF rfl (o_assign .t (by rfl)) r1 trivial
         Chain.nil)))
         (by kernel_rfl) (by rw [hB]; kernel_rfl) ?_
       clear hS; intro a w F hS
       obtain ⟨F, hS⟩ := hS.norm [(0, _), (1, _), (4, _), (6, _), (7, _), (8, _), (9, _), (35, _), (36, _), (37, _), (38, _), (39, _), (40, _), (41, _), (42, _), (43, _), (44, _), (45, _), (46, _), (47, _), (48, _), (49, _), (50, _), (51, _), (52, _), (53, _)] [(0, _), (101, _), (102, _), (103, _)] ⟨rfl, rfl, rfl, rfl, rfl, rfl, rfl, rfl, rfl, rfl, rfl, rfl, rfl, rfl, rfl, rfl, rfl, rfl, rfl, rfl, rfl, rfl, rfl, rfl, rfl, rfl, trivial⟩ r4
       try dsimp only [rCell, rPair] at hS
       refine then_n ?_
       have hC2 : ((i + 1 : Nat) : Int) ≤ n ∧ MapOk (q ++ e) t2 rt2 ∧ tSize t2 ≤ ((i + 1 : Nat) : Int) ∧ ((q ++ e).length : Int) ≤ 123 * ((i + 1 : Nat) : Int) ∧ (0 < i + 1 → tList t2 ≠ []) := ⟨by omega, hk2, by rw [ht2]; have := (putT_size ⟨(Int.tmod (IntKind.wrap .i64 ((i : Int) * jump)) n), (i : Int)⟩ t).2; omega, by rw [List.length_append]; omega, fun _ => by rw [ht2, putT_list _ hk.inc]; exact putP_ne _ _ _⟩
       replace hS := hS.ent (i := 7) (s' := .pv (.int .i64 ((i + 1 : Nat) : Int))) rfl (.int (wrap_succ (by omega)))
       obtain ⟨F, hS⟩ := hS.norm [(7, _), (0, _), (1, _), (4, _), (6, _)] [(102, _), (101, _), (0, _)] ⟨rfl, rfl, rfl, rfl, rfl, trivial⟩ ⟨rfl, rfl, rfl, trivial⟩
       exact ⟨((i + 1), (rt2), (q ++ e), (t2)), F, hC2, hS, by omega⟩
     ·skip
      have hin : (i : Int) = n := by simp at hc3; omega
      have hsz := tSize_list t
      have hh := hk.high (by omega)
      refine wp_exit ?_
      refine then_x ?_
      refine then_x ?_
      refine block_x ?_
      refine then_n ?_
      refine wp_seq ?_
      refine region_seq hS (by kernel_rfl)
        (cF rfl (o_load (ag := true) (sz := 2) 102 .is (by kernel_rfl) (by kernel_rfl) (by kernel_rfl) (by rfl)) r1 r1
        (cF rfl (o_callG1 101 (mList_c (some b) 65536 q root t hk.rep (by omega)) Try.func27 rfl (by kernel_rfl) (Args.one (.pagg .t))) r1 r1
        (cF rfl (o_assign .t (by rfl)) r1 trivial
        Chain.nil)))
        (by kernel_rfl) (by rw [hB]; kernel_rfl) ?_
      clear hS; intro a w F hS
      obtain ⟨F, hS⟩ := hS.norm [(0, _), (4, _), (6, _), (10, _)] [(0, _), (101, _), (102, _)] r4 r3
      try dsimp only [List.map, List.drop_succ_cons, List.drop_zero, List.drop_nil, List.take_succ_cons, List.take_zero, List.take_nil, ldSF, rCell, rPair] at hS
      refine then_n ?_
      refine wp_seq ?_
      refine wp_seq ?_
      refine region_seq hS (by kernel_rfl)
        (cF rfl (o_move .t (by rfl)) r1 trivial
        (cF rfl (o_len_sl Try.underlying55 .t) r1 trivial
        (cF rfl (o_move (.ci (by kernel_rfl)) (by rfl)) trivial trivial
        Chain.nil)))
        (by kernel_rfl) (by rw [hB]; kernel_rfl) ?_
      clear hS; intro a w F hS
      obtain ⟨F, hS⟩ := hS.norm [(0, _), (4, _), (6, _), (10, _), (57, _), (58, _)] [(0, _), (101, _), (102, _)] r6 r3
      try dsimp only [rCell, rPair] at hS
      refine then_n ?_
      refine wp_block ?_
      refine loop_keep (σ := (Nat)) [0, 4, 6, 10, 57] [0, 101, 102] (fun s => [(58, .pv (.int .i64 (s : Int)))]) (fun s => []) (fun s => s ≤ (tList t).length ∧ (True)) (fun s => (tList t).length - s) (0) hS ⟨rfl, rfl, rfl, rfl, rfl, rfl, trivial⟩ ⟨rfl, rfl, rfl, trivial⟩ ⟨Nat.zero_le _, trivial⟩ ?_
      clear hS; intro j a w F hC hS
      try dsimp only at hC
      obtain ⟨F, hS⟩ := hS.norm [(0, _), (4, _), (6, _), (10, _), (57, _), (58, _)] [(0, _), (101, _), (102, _)] r6 r3
      try dsimp only at hS
      obtain ⟨hi, hq⟩ := hC
      refine wp_seq ?_
      refine region_seq hS (by kernel_rfl)
        (cF rfl (o_lss .t .t) r2 trivial
        Chain.nil)
        (by kernel_rfl) (by rw [hB]; kernel_rfl) ?_
      clear hS; intro a w F hS
      obtain ⟨F, hS⟩ := hS.norm [(0, _), (4, _), (6, _), (10, _), (57, _), (58, _), (59, _)] [(0, _), (101, _), (102, _)] r7 r3
      try dsimp only [rCell, rPair] at hS
      refine then_n ?_
      refine wp_seq ?_
      refine cond_b hS rfl (fun hc5 => ?_) (fun hc5 => ?_)
      ·skip
       have hil : j < (tList t).length := by simp at hc5; omega
       refine wp_skip ?_
       refine then_n ?_
       refine wp_seq ?_
       refine wp_block ?_
       refine wp_seq ?_
       refine region_seq hS (by kernel_rfl)
         (cF rfl (o_move .t (by rfl)) r1 trivial
         (cF rfl (o_assign .t (by rfl)) r1 trivial
         Chain.nil))
         (by kernel_rfl) (by rw [hB]; kernel_rfl) ?_
       clear hS; intro a w F hS
       obtain ⟨F, hS⟩ := hS.norm [(0, _), (4, _), (6, _), (10, _), (11, _), (57, _), (58, _), (59, _), (60, _)] [(0, _), (101, _), (102, _)] ⟨rfl, rfl, rfl, rfl, rfl, rfl, rfl, rfl, rfl, trivial⟩ r3
       try dsimp only [rCell, rPair] at hS
       refine then_n ?_
       refine wp_seq ?_
       refine region_seq hS (by kernel_rfl)
         (cF rfl (o_load (ag := true) (sz := 2) 102 .is (by kernel_rfl) (by kernel_rfl) (by kernel_rfl) (by rfl)) r1 r1
         (cF rfl (o_move .t (by rfl)) r1 trivial
         (cF rfl (o_callG1 101 (mAtL_c (some b) 65536 q root j t hk (by omega) hil) Try.func31 rfl (by kernel_rfl) (Args.two (.pagg .t) .t)) r2 r1
         (cF rfl (o_move .t (by rfl)) r1 trivial
         (cF rfl (o_extract .t rfl) r1 trivial
         (cF rfl (o_extract .t rfl) r1 trivial
         (cF rfl (o_alloc (zs := [.int .i64 0, .int .i64 0]) 104 (by kernel_rfl)) trivial trivial
         (cF rfl (o_storeA (sz := 2) 104 .same (.conv .t .agg) (by kernel_rfl) (by kernel_rfl) (by kernel_rfl)) r2 r1
         (cF rfl (o_assign .t (by rfl)) r1 trivial
         Chain.nil)))))))))
         (by kernel_rfl) (by rw [hB]; kernel_rfl) ?_
       clear hS; intro a w F hS
       replace hS := hS.sub
       obtain ⟨F, hS⟩ := hS.norm [(0, _), (4, _), (6, _), (10, _), (11, _), (12, _), (13, _), (57, _), (58, _), (59, _), (60, _), (61, _), (62, _), (63, _), (64, _), (65, _), (66, _)] [(0, _), (101, _), (102, _), (104, _)] ⟨rfl, rfl, rfl, rfl, rfl, rfl, rfl, rfl, rfl, rfl, rfl, rfl, rfl, rfl, rfl, rfl, rfl, trivial⟩ r4
       try dsimp only [RS.sub, SF.sub, CF.sub, csub, Anc.sub, List.map, stCells, List.length_cons, List.length_nil, Nat.reduceAdd, List.drop_succ_cons, List.drop_zero, List.drop_nil, List.take_succ_cons, List.take_zero, List.take_nil, List.cons_append, List.nil_append, zCF, ldSF, rCell, rPair] at hS
       generalize Act.tau a 12 = v12 at hS
       refine then_n ?_
       refine wp_seq ?_
       refine region_any (by kernel_rfl) hS (by kernel_rfl)
         (cF rfl (o_move .t (by rfl)) r1 trivial
         (cF rfl (o_not .t) r1 trivial
         (cF rfl (o_move .t (by rfl)) r1 trivial
         (Chain.cons (Cert.cond rfl rfl (fun h => o_load (ag := true) (sz := 2) 104 .is (by kernel_rfl) (by kernel_rfl) (by kernel_rfl) (by rfl))) r2 r1
         (Chain.cons (Cert.cond rfl rfl (fun h => o_move .t (by rfl))) r2 trivial
         (Chain.cons (Cert.cond rfl rfl (fun h => o_move .t (by rfl))) r2 trivial
         (Chain.cons (Cert.cond rfl rfl (fun h => o_indexAddr_sl (sz := 2) (.mk Try.underlying55 (by kernel_rfl)) (by intro x; rfl) (.w h) (.w h) (by omega) (by omega))) r3 trivial
         (Chain.cons (Cert.cond rfl rfl (fun h => o_load_ref (ag := true) (sz := 2) (.w h) (by kernel_rfl) (by kernel_rfl) (by kernel_rfl))) r2 trivial
         (Chain.cons (Cert.cond rfl rfl (fun h => o_neqS (ks := [true, true]) (by kernel_rfl) (.w h) (.w h) (.int (.int .nil)))) r3 trivial
         (cF rfl (o_or2 .t .t) r2 trivial
         (cF rfl (o_move .t (by rfl)) r1 trivial
         (Chain.cons (Cert.cond rfl rfl (fun h => o_load (ag := true) (sz := 2) 102 .is (by kernel_rfl) (by kernel_rfl) (by kernel_rfl) (by rfl))) r2 r1
         (Chain.cons (Cert.cond rfl rfl (fun h => o_move .t (by rfl))) r2 trivial
         (Chain.cons (Cert.cond rfl rfl (fun h => o_move .t (by rfl))) r2 trivial
         (Chain.cons (Cert.cond rfl rfl (fun h => o_indexAddr_sl (sz := 2) (.mk Try.underlying55 (by kernel_rfl)) (by intro x; rfl) (.w h) (.w h) (by omega) (by omega))) r3 trivial
         (Chain.cons (Cert.cond rfl rfl (fun h => o_fieldAddr_ref (off := 0) (.w h) (by kernel_rfl))) r2 trivial
         (Chain.cons (Cert.cond rfl rfl (fun h => o_load_ref (ag := false) (sz := 1) (.w h) (by kernel_rfl) (by kernel_rfl) (by kernel_rfl))) r2 trivial
         (Chain.cons (Cert.condR rfl rfl (by rfl) (fun h => o_callG1 101 (mRankL_c (some b) 65536 q root _ t hk (by omega)) Try.func32 rfl (by kernel_rfl) (Args.two (.pagg (.w h)) (.w h)))) r3 r1
         (Chain.cons (Cert.cond rfl rfl (fun h => o_move .t (by rfl))) r2 trivial
         (Chain.cons (Cert.cond rfl rfl (fun h => o_neq (.w h) (.w h))) r3 trivial
         (cF rfl (o_or2 .t .t) r2 trivial
         (cF rfl (o_move .t (by rfl)) r1 trivial
         (Chain.cons (Cert.cond rfl rfl (fun h => o_move .t (by rfl))) r2 trivial
         (Chain.cons (Cert.cond rfl rfl (fun h => o_gtr (.w h) (.ci (by kernel_rfl)))) r2 trivial
         (Chain.cons (Cert.cond rfl rfl (fun h => o_move (.w h) (by rfl))) r2 trivial
         (Chain.cons (Cert.cond2 rfl rfl (fun h => o_move .t (by rfl))) r2 trivial
         (Chain.cons (Cert.cond2 rfl rfl (fun h => o_move .t (by rfl))) r2 trivial
         (Chain.cons (Cert.cond2 rfl rfl (fun h => o_sub (.w h) (.ci (by kernel_rfl)))) r2 trivial
         (Chain.cons (Cert.cond2 rfl rfl (fun h => o_indexAddr_sl (sz := 2) (.mk Try.underlying55 (by kernel_rfl)) (by intro x; rfl) (.w h) (.w h) (by simp at h; rw [wrap_i64 (by omega)]; omega) (by rw [wrap_i64 (by omega)]; omega))) r3 trivial
         (Chain.cons (Cert.cond2 rfl rfl (fun h => o_fieldAddr_ref (off := 0) (.w h) (by kernel_rfl))) r2 trivial
         (Chain.cons (Cert.cond2 rfl rfl (fun h => o_load_ref (ag := false) (sz := 1) (.w h) (by kernel_rfl) (by kernel_rfl) (by kernel_rfl))) r2 trivial
         (Chain.cons (Cert.cond2 rfl rfl (fun h => o_move .t (by rfl))) r2 trivial
         (Chain.cons (Cert.cond2 rfl rfl (fun h => o_move .t (by rfl))) r2 trivial
         (Chain.cons (Cert.cond2 rfl rfl (fun h => o_indexAddr_sl (sz := 2) (.mk Try.underlying55 (by kernel_rfl)) (by intro x; rfl) (.w h) (.w h) (by omega) (by omega))) r3 trivial
         (Chain.cons (Cert.cond2 rfl rfl (fun h => o_fieldAddr_ref (off := 0) (.w h) (by kernel_rfl))) r2 trivial
         (Chain.cons (Cert.cond2 rfl rfl (fun h => o_load_ref (ag := false) (sz := 1) (.w h) (by kernel_rfl) (by kernel_rfl) (by kernel_rfl))) r2 trivial
         (Chain.cons (Cert.cond2 rfl rfl (fun h => o_geq (.w h) (.w h))) r3 trivial
         (Chain.cons (Cert.cond rfl rfl (fun h => o_and2 (.w h) (.wc h))) r3 trivial
         (cF rfl (o_or2 .t .t) r2 trivial
         Chain.nil)))))))))))))))))))))))))))))))))))))))
         (by kernel_rfl) (by rw [hB]; kernel_rfl) ?_
       clear hS; intro a w F hS
       obtain ⟨F, hS⟩ := hS.norm [(0, _), (4, _), (6, _), (10, _), (11, _), (12, _), (13, _), (57, _), (58, _), (59, _), (60, _), (61, _), (62, _), (63, _), (64, _), (65, _), (66, _), (67, _), (68, _), (69, _), (70, _), (71, _), (72, _), (73, _), (74, _), (75, _), (76, _), (77, _), (78, _), (79, _), (80, _), (81, _), (82, _), (83, _), (84, _), (85, _), (86, _), (87, _), (88, _), (89, _), (90, _), (91, _), (92, _), (93, _), (94, _), (95, _), (96, _), (97, _), (98, _), (99, _), (100, _), (101, _), (102, _), (103, _), (104, _), (105, _)] [(0, _), (101, _), (102, _), (104, _)] ⟨rfl, rfl, rfl, rfl, rfl, rfl, rfl, rfl, rfl, rfl, rfl, rfl, rfl, rfl, rfl, rfl, rfl, rfl, rfl, rfl, rfl, rfl, rfl, rfl, rfl, rfl, rfl, rfl, rfl, rfl, rfl, rfl, rfl, rfl, rfl, rfl, rfl, rfl, rfl, rfl, rfl, rfl, rfl, rfl, rfl, rfl, rfl, rfl, rfl, rfl, rfl, rfl, rfl, rfl, rfl, rfl, trivial⟩ r4
       try dsimp only [List.map, List.drop_succ_cons, List.drop_zero, List.drop_nil, List.take_succ_cons, List.take_zero, List.take_nil, ldSF, rCell, rPair] at hS
       try simp only [Int.toNat_natCast] at hS
       refine then_n ?_
       refine cond_b hS rfl (fun hc6 => ?_) (fun hc6 => ?_)
       ·skip
        have h1 := rank_nth hk.inc hil
        by_cases hj0 : 0 < j
        ·have h2 := inc_nth hk.inc (i := j - 1) (j := j) (by omega) hil
         rw [wrap_i64 (by omega), show ((j : Int) - 1).toNat = j - 1 by omega] at hc6
         simp [h1] at hc6; omega
        ·simp [hj0, h1] at hc6
       ·skip
        refine wp_skip ?_
        refine block_n ?_
        refine then_n ?_
        refine region_seq hS (by kernel_rfl)
          (cF rfl (o_add .t (.ci (by kernel_rfl))) r1 trivial
          (cF rfl (o_move .t (by rfl)) r1 trivial
          Chain.nil))
          (by kernel_rfl) (by rw [hB]; kernel_rfl) ?_
        clear hS; intro a w F hS
        obtain ⟨F, hS⟩ := hS.norm [(0, _), (4, _), (6, _), (10, _), (11, _), (12, _), (13, _), (57, _), (58, _), (59, _), (60, _), (61, _), (62, _), (63, _), (64, _), (65, _), (66, _), (67, _), (68, _), (69, _), (70, _), (71, _), (72, _), (73, _), (74, _), (75, _), (76, _), (77, _), (78, _), (79, _), (80, _), (81, _), (82, _), (83, _), (84, _), (85, _), (86, _), (87, _), (88, _), (89, _), (90, _), (91, _), (92, _), (93, _), (94, _), (95, _), (96, _), (97, _), (98, _), (99, _), (100, _), (101, _), (102, _), (103, _), (104, _), (105, _), (106, _)] [(0, _), (101, _), (102, _), (104, _)] ⟨rfl, rfl, rfl, rfl, rfl, rfl, rfl, rfl, rfl, rfl, rfl, rfl, rfl, rfl, rfl, rfl, rfl, rfl, rfl, rfl, rfl, rfl, rfl, rfl, rfl, rfl, rfl, rfl, rfl, rfl, rfl, rfl, rfl, rfl, rfl, rfl, rfl, rfl, rfl, rfl, rfl, rfl, rfl, rfl, rfl, rfl, rfl, rfl, rfl, rfl, rfl, rfl, rfl, rfl, rfl, rfl, rfl, trivial⟩ r4
        try dsimp only [rCell, rPair] at hS
        refine then_n ?_
        replace hS := hS.ent (i := 58) (s' := .pv (.int .i64 ((j + 1 : Nat) : Int))) rfl (.int (wrap_succ (by omega)))
        obtain ⟨F, hS⟩ := hS.norm [(58, _), (0, _), (4, _), (6, _), (10, _), (57, _)] [(0, _), (101, _), (102, _)] ⟨rfl, rfl, rfl, rfl, rfl, rfl, trivial⟩ ⟨rfl, rfl, rfl, trivial⟩
        exact ⟨(j + 1), F, ⟨by omega, trivial⟩, hS, by omega⟩
      ·skip
       have hil : j = (tList t).length := by simp at hc5; omega
       refine wp_exit ?_
       refine then_x ?_
       refine then_x ?_
       refine block_x ?_
       refine then_n ?_
       refine wp_seq ?_
       refine wp_seq ?_
       refine region_seq hS (by kernel_rfl)
         (cF rfl (o_load (ag := true) (sz := 2) 102 .is (by kernel_rfl) (by kernel_rfl) (by kernel_rfl) (by rfl)) r1 r1
         (cF rfl (o_callG1 101 (mhighT_c (some b) 65536 q root t hk.rep) Try.func29 rfl (by kernel_rfl) (Args.one (.pagg .t))) r1 r1
         (cF rfl (o_lss .t (.ci (by kernel_rfl))) r1 trivial
         (cF rfl (o_move .t (by rfl)) r1 trivial
         (Chain.cons (Cert.cond rfl rfl (fun h => o_load (ag := true) (sz := 2) 102 .is (by kernel_rfl) (by kernel_rfl) (by kernel_rfl) (by rfl))) r2 r1
         (Chain.cons (Cert.condR rfl rfl (by rfl) (fun h => o_callG1 101 (mhighT_c (some b) 65536 q root t hk.rep) Try.func29 rfl (by kernel_rfl) (Args.one (.pagg (.w h))))) r2 r1
         (Chain.cons (Cert.cond rfl rfl (fun h => o_gtr (.w h) (.ci (by kernel_rfl)))) r2 trivial
         (cF rfl (o_or2 .t .t) r2 trivial
         (cF rfl (o_move .t (by rfl)) r1 trivial
         (Chain.cons (Cert.cond rfl rfl (fun h => o_load (ag := true) (sz := 2) 102 .is (by kernel_rfl) (by kernel_rfl) (by kernel_rfl) (by rfl))) r2 r1
         (Chain.cons (Cert.condR rfl rfl (by rfl) (fun h => o_callG1 101 (mhighT_c (some b) 65536 q root t hk.rep) Try.func29 rfl (by kernel_rfl) (Args.one (.pagg (.w h))))) r2 r1
         (Chain.cons (Cert.cond rfl rfl (fun h => o_conv Try.underlying49 (by kernel_rfl) (.w h))) r2 trivial
         (Chain.cons (Cert.cond rfl rfl (fun h => o_shl (.ci (by kernel_rfl)) (.w h) (by rw [wrap_u64 (by omega)]; omega))) r2 trivial
         (Chain.cons (Cert.cond rfl rfl (fun h => o_move .t (by rfl))) r2 trivial
         (Chain.cons (Cert.cond rfl rfl (fun h => o_len_sl Try.underlying55 (.w h))) r2 trivial
         (Chain.cons (Cert.cond rfl rfl (fun h => o_add (.w h) (.ci (by kernel_rfl)))) r2 trivial
         (Chain.cons (Cert.cond rfl rfl (fun h => o_move .t (by rfl))) r2 trivial
         (Chain.cons (Cert.cond rfl rfl (fun h => o_len_sl Try.underlying55 (.w h))) r2 trivial
         (Chain.cons (Cert.cond rfl rfl (fun h => o_add (.w h) (.ci (by kernel_rfl)))) r2 trivial
         (Chain.cons (Cert.cond rfl rfl (fun h => o_mul (.w h) (.w h))) r3 trivial
         (Chain.cons (Cert.cond rfl rfl (fun h => o_gtr (.w h) (.w h))) r3 trivial
         (cF rfl (o_or2 .t .t) r2 trivial
         Chain.nil))))))))))))))))))))))
         (by kernel_rfl) (by rw [hB]; kernel_rfl) ?_
       clear hS; intro a w F hS
       obtain ⟨F, hS⟩ := hS.norm [(0, _), (4, _), (6, _), (10, _), (128, _)] [(0, _), (101, _), (102, _)] r5 r3
       try dsimp only [List.map, List.drop_succ_cons, List.drop_zero, List.drop_nil, List.take_succ_cons, List.take_zero, List.take_nil, ldSF, rCell, rPair] at hS
       refine then_n ?_
       refine cond_b hS rfl (fun hc7 => ?_) (fun hc7 => ?_)
       ·skip
        have h1 := shl_high hk.bal (by omega)
        simp only [Bool.or_eq_true, decide_eq_true_eq] at hc7
        rw [← hsz] at hc7
        rcases hc7 with (h2 | h2) | h2
        ·omega
        ·omega
        ·exact (h1 h2).elim
       ·skip
        have hpos : n = 0 ∨ (0 : Int) < (tList t).length := by rcases Nat.eq_zero_or_pos (tList t).length with h | h; (· left; rcases Nat.eq_zero_or_pos i with h2 | h2; omega; exact absurd (List.eq_nil_of_length_eq_zero h) (hne h2)); (· right; omega)
        refine wp_skip ?_
        refine then_n ?_
        refine wp_seq ?_
        refine region_seq hS (by kernel_rfl)
          (cF rfl (o_move .t (by rfl)) r1 trivial
          (cF rfl (o_len_sl Try.underlying55 .t) r1 trivial
          (cF rfl (o_load (ag := true) (sz := 2) 102 .is (by kernel_rfl) (by kernel_rfl) (by kernel_rfl) (by rfl)) r1 r1
          (cF rfl (o_callG1 101 (mlenT_c (some b) 65536 q root t hk.rep) Try.func30 rfl (by kernel_rfl) (Args.one (.pagg .t))) r1 r1
          (cF rfl (o_eql .t .t) r2 trivial
          (cF rfl (o_move .t (by rfl)) r1 trivial
          (Chain.cons (Cert.cond rfl rfl (fun h => o_move .t (by rfl))) r2 trivial
          (Chain.cons (Cert.cond rfl rfl (fun h => o_len_sl Try.underlying55 (.w h))) r2 trivial
          (Chain.cons (Cert.cond rfl rfl (fun h => o_move .t (by rfl))) r2 trivial
          (Chain.cons (Cert.cond rfl rfl (fun h => o_leq (.w h) (.w h))) r3 trivial
          (cF rfl (o_and2 .t .t) r2 trivial
          (cF rfl (o_move .t (by rfl)) r1 trivial
          (Chain.cons (Cert.cond rfl rfl (fun h => o_move .t (by rfl))) r2 trivial
          (Chain.cons (Cert.cond rfl rfl (fun h => o_eql (.w h) (.ci (by kernel_rfl)))) r2 trivial
          (Chain.cons (Cert.cond rfl rfl (fun h => o_move (.w h) (by rfl))) r2 trivial
          (Chain.cons (Cert.cond2 rfl rfl (fun h => o_move .t (by rfl))) r2 trivial
          (Chain.cons (Cert.cond2 rfl rfl (fun h => o_len_sl Try.underlying55 (.w h))) r2 trivial
          (Chain.cons (Cert.cond2 rfl rfl (fun h => o_gtr (.w h) (.ci (by kernel_rfl)))) r2 trivial
          (Chain.cons (Cert.cond rfl rfl (fun h => o_or2 (.w h) (.wc h))) r3 trivial
          (cF rfl (o_and2 .t .t) r2 trivial
          (cF rfl (o_assign .t (by rfl)) r1 trivial
          Chain.nil)))))))))))))))))))))
          (by kernel_rfl) (by rw [hB]; kernel_rfl) ?_
        clear hS; intro a w F hS
        obtain ⟨F, hS⟩ := hS.norm [(4, _)] [(0, _), (101, _), (102, _)] r1 r3
        try dsimp only [List.map, List.drop_succ_cons, List.drop_zero, List.drop_nil, List.take_succ_cons, List.take_zero, List.take_nil, ldSF, rCell, rPair] at hS
        refine then_n ?_
        refine wp_ret ?_
        refine ret_P hfr hS rfl (.tmp rfl .nil) (.one (.bool (by first | rfl | (simp only [Bool.and_eq_true, Bool.or_eq_true, decide_eq_true_eq]; exact ⟨⟨by omega, by omega⟩, hpos⟩))))

end Go.Proofs.Ytdfpljecogijaaa
