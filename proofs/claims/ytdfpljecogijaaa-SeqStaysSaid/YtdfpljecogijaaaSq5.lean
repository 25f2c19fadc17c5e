/- Sequences against the document. No condition beyond those that each theorem says. -/
import Derived.Test.YtdfpljecogijaaaSq4
namespace Go.Proofs.Ytdfpljecogijaaa
open Go Go.Gm
set_option linter.unusedVariables false
set_option linter.unusedSimpArgs false
set_option maxHeartbeats 4000000
set_option maxRecDepth 8000


/-- A right sequence. -/
structure SeqOk (q : List Cell) (t : Tree) (root : Int) : Prop where
  rep : Rep kz q t root
  bal : Bal t
theorem SeqOk.app {q e : List Cell} {t : Tree} {root : Int} (h : SeqOk q t root) : SeqOk (q ++ e) t root := ⟨h.rep.app e, h.bal⟩
theorem SeqOk.nil (q : List Cell) : SeqOk q .nil 0 := ⟨rfl, trivial⟩
theorem SeqOk.high {q : List Cell} {t : Tree} {root : Int} (h : SeqOk q t root) (hs : tSize t ≤ 1000000) : 0 ≤ tHigh t ∧ tHigh t ≤ 40 := ⟨tHigh_nn t, high_bound h.bal hs⟩
theorem told_split {room lo n : Int} {q : List Cell} {m : St} {t : Tree} (h : Good kz room q lo n m t) (hb : Bal t) :
    (∃ (e : List Cell) (r : Int), toldM q.length m = (q ++ e, 0, r) ∧ SeqOk (q ++ e) t r ∧ lo ≤ e.length ∧ (e.length : Int) ≤ n) ∨ (toldM q.length m = (q, 2, 0) ∧ room < q.length + n) := by
  rcases toldM_good h with ⟨e, e1, e2, e3, e4, e5⟩ | ⟨e1, e2⟩
  · exact .inl ⟨e, _, Prod.ext e1 (Prod.ext e2 rfl), ⟨e3, hb⟩, e4, e5⟩
  · exact .inr ⟨e1, e2⟩
theorem SeqOk.ins {room : Int} {q : List Cell} {t : Tree} {root : Int} (h : SeqOk q t root) (j x : Int) (hj : 0 ≤ j ∧ j ≤ tSize t) (hs : tSize t < 1000000) :
    (∃ (e : List Cell) (r : Int), qInsM room q x t root j = (q ++ e, 0, r) ∧ SeqOk (q ++ e) (insT x t j) r ∧ (e.length : Int) ≤ 3 * (tHigh t + 1)) ∨ (qInsM room q x t root j = (q, 2, 0) ∧ room < q.length + 3 * (tHigh t + 1)) := by
  have e : qInsM room q x t root j = toldM q.length (insS room q 0 x t root j) := if_pos (by simp [hj.1, hj.2])
  rw [e]
  rcases told_split (insS_good (room := room) (x := x) j h.rep hs) (insT_bal x j h.bal).1 with ⟨e, r, h1, h2, _, h3⟩ | h1
  · exact .inl ⟨e, r, h1, h2, h3⟩
  · exact .inr h1
theorem SeqOk.set {room : Int} {q : List Cell} {t : Tree} {root : Int} (h : SeqOk q t root) (j x : Int) (hj : 0 ≤ j ∧ j < tSize t) (hs : tSize t ≤ 1000000) :
    (∃ (e : List Cell) (r : Int), qSetM room q x t root j = (q ++ e, 0, r) ∧ SeqOk (q ++ e) (setT x t j) r ∧ (e.length : Int) ≤ 3 * (tHigh t + 1)) ∨ (qSetM room q x t root j = (q, 2, 0) ∧ room < q.length + 3 * (tHigh t + 1)) := by
  have e : qSetM room q x t root j = toldM q.length (setS room q 0 x t root j) := if_pos (by simp [hj.1, hj.2])
  rw [e]
  have := tHigh_nn t
  rcases told_split (setS_good (room := room) (x := x) h.rep hj.1 hj.2 hs) (setT_bal x j h.bal) with ⟨e, r, h1, h2, _, h3⟩ | ⟨h1, h2⟩
  · exact .inl ⟨e, r, h1, h2, by omega⟩
  · exact .inr ⟨h1, by omega⟩
theorem SeqOk.del {room : Int} {q : List Cell} {t : Tree} {root : Int} (h : SeqOk q t root) (j : Int) (hj : 0 ≤ j ∧ j < tSize t) (hs : tSize t ≤ 1000000) :
    (∃ (e : List Cell) (r : Int), qDelM room q t root j = (q ++ e, 0, r) ∧ SeqOk (q ++ e) (sdelT t j) r ∧ (e.length : Int) ≤ 3 * (tHigh t + 1)) ∨ (qDelM room q t root j = (q, 2, 0) ∧ room < q.length + 3 * (tHigh t + 1)) := by
  have e : qDelM room q t root j = toldM q.length (sdelS room q 0 t root j).2 := if_pos (by simp [hj.1, hj.2])
  rw [e]
  have := tHigh_nn t
  rcases told_split (sdelS_good (room := room) h.rep hj.1 hj.2 hs).2 (sdelT_bal j h.bal).1 with ⟨e, r, h1, h2, _, h3⟩ | ⟨h1, h2⟩
  · exact .inl ⟨e, r, h1, h2, by omega⟩
  · exact .inr ⟨h1, by omega⟩
theorem seq_of {room : Int} {l : List Int} (hs : l.length ≤ 1000000) :
    (∃ (e : List Cell) (r : Int), qOfM room [] l = (e, 0, r) ∧ SeqOk e (allT (l.length + 1) (l.map kp)) r ∧ e.length = l.length) ∨ (qOfM room [] l = ([], 2, 0) ∧ room < l.length) := by
  have e : qOfM room [] l = toldM ([] : List Cell).length (allQ room (l.length + 1) [] 0 l) := rfl
  rw [e, allQ_eq]
  rcases told_split (allS_good (kf := kz) (room := room) (l.length + 1) [] (l.map kp) (by simp) (by simpa using hs) (fun p hp => by obtain ⟨x, _, rfl⟩ := List.mem_map.1 hp; rfl)) (allT_high _ _ (by simp)).2 with ⟨e, r, h1, h2, h3, h4⟩ | ⟨h1, h2⟩
  · rw [List.length_map] at h3 h4
    exact .inl ⟨e, r, h1, h2, by omega⟩
  · exact .inr ⟨h1, by simpa using h2⟩
theorem tVals_of (l : List Int) : tVals (allT (l.length + 1) (l.map kp)) = l := by
  unfold tVals
  rw [allT_list _ _ (by simp), List.map_map]
  exact List.map_id' l
theorem tVals_ins {t : Tree} {j x : Int} (h : 0 ≤ j ∧ j ≤ tSize t) : tVals (insT x t j) = insL (tVals t) j x := by
  have := tVals_len t
  unfold insL
  rw [if_pos (by omega)]
  unfold tVals
  rw [insT_list x h.1 h.2, List.map_append, List.map_cons, List.map_take, List.map_drop]
theorem tVals_set {t : Tree} {j x : Int} (h : 0 ≤ j ∧ j < tSize t) : tVals (setT x t j) = (tVals t).set j.toNat x := by
  unfold tVals
  rw [setT_list x h.1 h.2, List.map_set]
theorem map_erase {α β : Type} (f : α → β) : ∀ (l : List α) (i : Nat), (l.eraseIdx i).map f = (l.map f).eraseIdx i
  | [], i => by simp
  | x :: l, 0 => rfl
  | x :: l, i + 1 => by simp [map_erase f l i]
theorem tVals_del {t : Tree} {j : Int} (h : 0 ≤ j ∧ j < tSize t) : tVals (sdelT t j) = (tVals t).eraseIdx j.toNat := by
  unfold tVals
  rw [sdelT_list h.1 h.2, map_erase]
theorem ins_del {l : List Int} {j x : Int} (h : 0 ≤ j ∧ j ≤ l.length) : (insL l j x).eraseIdx j.toNat = l := by
  unfold insL
  rw [if_pos h, List.eraseIdx_append_of_length_le (by rw [List.length_take]; omega)]
  have : j.toNat - (l.take j.toNat).length = 0 := by rw [List.length_take]; omega
  rw [this, List.eraseIdx_cons_zero, List.take_append_drop]

theorem index_c (l : List Int) (v : Int) : FnP Try.prog 65 [.sl rInt l, .int .i64 v] (.int .i64 (idxL v l)) := by
  refine FnP.mk Try.func65 rfl Try.ntmps65 rfl ?_
  intro B a w F hB hfr hS
  have hll := Sat.lenSl hS (i := 0) rfl
  refine wp_seq ?_
  refine region_seq hS (by kernel_rfl)
    (cF rfl (o_assign (.ci (by kernel_rfl)) (by rfl)) trivial trivial
    Chain.nil)
    (by kernel_rfl) (by rw [hB]; kernel_rfl) ?_
  clear hS; intro a w F hS
  obtain ⟨F, hS⟩ := hS.norm [(0, _), (1, _), (4, _)] [(0, _)] r3 r1
  try dsimp only [rInt] at hS
  refine then_n ?_
  refine wp_seq ?_
  refine wp_seq ?_
  refine region_seq hS (by kernel_rfl)
    (cF rfl (o_move .t (by rfl)) r1 trivial
    (cF rfl (o_len_sl Try.underlying29 .t) r1 trivial
    (cF rfl (o_move (.ci (by kernel_rfl)) (by rfl)) trivial trivial
    Chain.nil)))
    (by kernel_rfl) (by rw [hB]; kernel_rfl) ?_
  clear hS; intro a w F hS
  obtain ⟨F, hS⟩ := hS.norm [(0, _), (1, _), (4, _), (7, _), (8, _)] [(0, _)] r5 r1
  try dsimp only [rInt] at hS
  refine then_n ?_
  refine wp_block ?_
  refine loop_keep (σ := (Nat)) [0, 1, 4, 7] [0] (fun s => [(8, .pv (.int .i64 (s : Int)))]) (fun s => []) (fun s => s ≤ l.length ∧ (∀ k, k < s → Go.Gm.nth l k ≠ v)) (fun s => l.length - s) (0) hS ⟨rfl, rfl, rfl, rfl, rfl, trivial⟩ ⟨rfl, trivial⟩ ⟨Nat.zero_le _, fun k hk => absurd hk (Nat.not_lt_zero k)⟩ ?_
  clear hS; intro i a w F hC hS
  try dsimp only at hC
  obtain ⟨F, hS⟩ := hS.norm [(0, _), (1, _), (4, _), (7, _), (8, _)] [(0, _)] r5 r1
  try dsimp only at hS
  obtain ⟨hi, hq⟩ := hC
  refine wp_seq ?_
  refine region_seq hS (by kernel_rfl)
    (cF rfl (o_lss .t .t) r2 trivial
    Chain.nil)
    (by kernel_rfl) (by rw [hB]; kernel_rfl) ?_
  clear hS; intro a w F hS
  obtain ⟨F, hS⟩ := hS.norm [(0, _), (1, _), (4, _), (7, _), (8, _), (9, _)] [(0, _)] r6 r1
  try dsimp only [rInt] at hS
  refine then_n ?_
  refine wp_seq ?_
  refine cond_b hS rfl (fun hc0 => ?_) (fun hc0 => ?_)
  ·skip
   have hil : i < l.length := by simp at hc0; omega
   refine wp_skip ?_
   refine then_n ?_
   refine wp_seq ?_
   refine wp_block ?_
   refine wp_seq ?_
   refine region_seq hS (by kernel_rfl)
     (cF rfl (o_move .t (by rfl)) r1 trivial
     (cF rfl (o_assign .t (by rfl)) r1 trivial
     Chain.nil))
     (by kernel_rfl) (by rw [hB]; kernel_rfl) ?_
   clear hS; intro a w F hS
   obtain ⟨F, hS⟩ := hS.norm [(0, _), (1, _), (4, _), (5, _), (7, _), (8, _), (9, _), (10, _)] [(0, _)] r8 r1
   try dsimp only [rInt] at hS
   refine then_n ?_
   refine wp_seq ?_
   refine region_seq hS (by kernel_rfl)
     (cF rfl (o_move .t (by rfl)) r1 trivial
     (cF rfl (o_move .t (by rfl)) r1 trivial
     (cF rfl (o_move .t (by rfl)) r1 trivial
     (cF rfl (o_indexAddr_sl (sz := 1) (.mk Try.underlying29 (by kernel_rfl)) (by intro x; rfl) .t .t (by omega) (by omega)) r2 trivial
     (cF rfl (o_load_ref (ag := false) (sz := 1) .t (by kernel_rfl) (by kernel_rfl) (by kernel_rfl)) r1 trivial
     (cF rfl (o_eql .t .t) r2 trivial
     Chain.nil))))))
     (by kernel_rfl) (by rw [hB]; kernel_rfl) ?_
   clear hS; intro a w F hS
   obtain ⟨F, hS⟩ := hS.norm [(0, _), (1, _), (4, _), (5, _), (7, _), (8, _), (9, _), (10, _), (11, _), (12, _), (13, _), (14, _), (15, _), (16, _)] [(0, _)] ⟨rfl, rfl, rfl, rfl, rfl, rfl, rfl, rfl, rfl, rfl, rfl, rfl, rfl, rfl, trivial⟩ r1
   try dsimp only [List.map, List.drop_succ_cons, List.drop_zero, List.drop_nil, List.take_succ_cons, List.take_zero, List.take_nil, ldSF, rInt] at hS
   try simp only [Int.toNat_natCast] at hS
   refine then_n ?_
   refine cond_b hS rfl (fun hc1 => ?_) (fun hc1 => ?_)
   ·skip
    have hg : (i : Int) = idxL v l := (idxL_at hil (by simp at hc1; omega) hq).symm
    refine wp_seq ?_
    refine region_seq hS (by kernel_rfl)
      (cF rfl (o_move .t (by rfl)) r1 trivial
      (cF rfl (o_assign .t (by rfl)) r1 trivial
      Chain.nil))
      (by kernel_rfl) (by rw [hB]; kernel_rfl) ?_
    clear hS; intro a w F hS
    obtain ⟨F, hS⟩ := hS.norm [(0, _), (1, _), (4, _), (5, _), (7, _), (8, _), (9, _), (10, _), (11, _), (12, _), (13, _), (14, _), (15, _), (16, _), (17, _)] [(0, _)] ⟨rfl, rfl, rfl, rfl, rfl, rfl, rfl, rfl, rfl, rfl, rfl, rfl, rfl, rfl, rfl, trivial⟩ r1
    try dsimp only [rInt] at hS
    refine then_n ?_
    refine wp_ret ?_
    refine block_r ?_
    refine then_r ?_
    refine then_r ?_
    refine block_r ?_
    refine then_r ?_
    refine ret_P hfr hS rfl (.tmp rfl .nil) (.one (.int hg))
   ·skip
    have hne : Go.Gm.nth l i ≠ v := by simp at hc1; omega
    refine wp_skip ?_
    refine block_n ?_
    refine then_n ?_
    refine region_seq hS (by kernel_rfl)
      (cF rfl (o_add .t (.ci (by kernel_rfl))) r1 trivial
      (cF rfl (o_move .t (by rfl)) r1 trivial
      Chain.nil))
      (by kernel_rfl) (by rw [hB]; kernel_rfl) ?_
    clear hS; intro a w F hS
    obtain ⟨F, hS⟩ := hS.norm [(0, _), (1, _), (4, _), (5, _), (7, _), (8, _), (9, _), (10, _), (11, _), (12, _), (13, _), (14, _), (15, _), (16, _), (18, _)] [(0, _)] ⟨rfl, rfl, rfl, rfl, rfl, rfl, rfl, rfl, rfl, rfl, rfl, rfl, rfl, rfl, rfl, trivial⟩ r1
    try dsimp only [rInt] at hS
    refine then_n ?_
    replace hS := hS.ent (i := 8) (s' := .pv (.int .i64 ((i + 1 : Nat) : Int))) rfl (.int (wrap_succ (by omega)))
    obtain ⟨F, hS⟩ := hS.norm [(8, _), (0, _), (1, _), (4, _), (7, _)] [(0, _)] ⟨rfl, rfl, rfl, rfl, rfl, trivial⟩ ⟨rfl, trivial⟩
    exact ⟨(i + 1), F, ⟨by omega, (fun k hk => by rcases Nat.lt_or_eq_of_le (Nat.le_of_lt_succ hk) with h | h; exact hq k h; rw [h]; exact hne)⟩, hS, by omega⟩
  ·skip
   have hil : i = l.length := by simp at hc0; omega
   have hg : -1 = idxL v l := (idxL_none fun k hk => hq k (by simp at hc0; omega)).symm
   refine wp_exit ?_
   refine then_x ?_
   refine then_x ?_
   refine block_x ?_
   refine then_n ?_
   refine wp_seq ?_
   refine region_seq hS (by kernel_rfl)
     (cF rfl (o_assign (.ci (by kernel_rfl)) (by rfl)) trivial trivial
     Chain.nil)
     (by kernel_rfl) (by rw [hB]; kernel_rfl) ?_
   clear hS; intro a w F hS
   obtain ⟨F, hS⟩ := hS.norm [(4, _)] [(0, _)] r1 r1
   try dsimp only [rInt] at hS
   refine then_n ?_
   refine wp_ret ?_
   refine ret_P hfr hS rfl (.tmp rfl .nil) (.one (.int hg))

theorem index07_c (l : List Int) (v : Int) : FnP Try.prog 46 [.sl rInt l, .int .i64 v] (.int .i64 (idxL v l)) := by
  refine FnP.mk Try.func46 rfl Try.ntmps46 rfl ?_
  intro B a w F hB hfr hS
  have hll := Sat.lenSl hS (i := 0) rfl
  refine wp_seq ?_
  refine region_seq hS (by kernel_rfl)
    (cF rfl (o_assign (.ci (by kernel_rfl)) (by rfl)) trivial trivial
    Chain.nil)
    (by kernel_rfl) (by rw [hB]; kernel_rfl) ?_
  clear hS; intro a w F hS
  obtain ⟨F, hS⟩ := hS.norm [(0, _), (1, _), (4, _)] [(0, _)] r3 r1
  try dsimp only [rInt] at hS
  refine then_n ?_
  refine wp_seq ?_
  refine wp_seq ?_
  refine region_seq hS (by kernel_rfl)
    (cF rfl (o_move .t (by rfl)) r1 trivial
    (cF rfl (o_len_sl Try.underlying29 .t) r1 trivial
    (cF rfl (o_move (.ci (by kernel_rfl)) (by rfl)) trivial trivial
    Chain.nil)))
    (by kernel_rfl) (by rw [hB]; kernel_rfl) ?_
  clear hS; intro a w F hS
  obtain ⟨F, hS⟩ := hS.norm [(1, _), (4, _), (7, _), (8, _), (9, _)] [(0, _)] r5 r1
  try dsimp only [rInt] at hS
  refine then_n ?_
  refine wp_block ?_
  refine loop_keep (σ := (Nat)) [1, 4, 7, 8] [0] (fun s => [(9, .pv (.int .i64 (s : Int)))]) (fun s => []) (fun s => s ≤ l.length ∧ (∀ k, k < s → Go.Gm.nth l k ≠ v)) (fun s => l.length - s) (0) hS ⟨rfl, rfl, rfl, rfl, rfl, trivial⟩ ⟨rfl, trivial⟩ ⟨Nat.zero_le _, fun k hk => absurd hk (Nat.not_lt_zero k)⟩ ?_
  clear hS; intro i a w F hC hS
  try dsimp only at hC
  obtain ⟨F, hS⟩ := hS.norm [(1, _), (4, _), (7, _), (8, _), (9, _)] [(0, _)] r5 r1
  try dsimp only at hS
  obtain ⟨hi, hq⟩ := hC
  refine wp_seq ?_
  refine region_seq hS (by kernel_rfl)
    (cF rfl (o_lss .t .t) r2 trivial
    Chain.nil)
    (by kernel_rfl) (by rw [hB]; kernel_rfl) ?_
  clear hS; intro a w F hS
  obtain ⟨F, hS⟩ := hS.norm [(1, _), (4, _), (7, _), (8, _), (9, _), (10, _)] [(0, _)] r6 r1
  try dsimp only [rInt] at hS
  refine then_n ?_
  refine wp_seq ?_
  refine cond_b hS rfl (fun hc0 => ?_) (fun hc0 => ?_)
  ·skip
   have hil : i < l.length := by simp at hc0; omega
   refine wp_skip ?_
   refine then_n ?_
   refine wp_seq ?_
   refine wp_block ?_
   refine wp_seq ?_
   refine region_seq hS (by kernel_rfl)
     (cF rfl (o_move .t (by rfl)) r1 trivial
     (cF rfl (o_indexAddr_sl (sz := 1) (.mk Try.underlying29 (by kernel_rfl)) (by intro x; rfl) .t .t (by omega) (by omega)) r2 trivial
     (cF rfl (o_load_ref (ag := false) (sz := 1) .t (by kernel_rfl) (by kernel_rfl) (by kernel_rfl)) r1 trivial
     (cF rfl (o_assign .t (by rfl)) r1 trivial
     (cF rfl (o_assign .t (by rfl)) r1 trivial
     Chain.nil)))))
     (by kernel_rfl) (by rw [hB]; kernel_rfl) ?_
   clear hS; intro a w F hS
   obtain ⟨F, hS⟩ := hS.norm [(1, _), (4, _), (5, _), (6, _), (7, _), (8, _), (9, _), (10, _), (11, _), (12, _), (13, _)] [(0, _)] ⟨rfl, rfl, rfl, rfl, rfl, rfl, rfl, rfl, rfl, rfl, rfl, trivial⟩ r1
   try dsimp only [List.map, List.drop_succ_cons, List.drop_zero, List.drop_nil, List.take_succ_cons, List.take_zero, List.take_nil, ldSF, rInt] at hS
   try simp only [Int.toNat_natCast] at hS
   refine then_n ?_
   refine wp_seq ?_
   refine region_seq hS (by kernel_rfl)
     (cF rfl (o_move .t (by rfl)) r1 trivial
     (cF rfl (o_move .t (by rfl)) r1 trivial
     (cF rfl (o_eql .t .t) r2 trivial
     Chain.nil)))
     (by kernel_rfl) (by rw [hB]; kernel_rfl) ?_
   clear hS; intro a w F hS
   obtain ⟨F, hS⟩ := hS.norm [(1, _), (4, _), (5, _), (6, _), (7, _), (8, _), (9, _), (10, _), (11, _), (12, _), (13, _), (14, _), (15, _), (16, _)] [(0, _)] ⟨rfl, rfl, rfl, rfl, rfl, rfl, rfl, rfl, rfl, rfl, rfl, rfl, rfl, rfl, trivial⟩ r1
   try dsimp only [rInt] at hS
   refine then_n ?_
   refine cond_b hS rfl (fun hc1 => ?_) (fun hc1 => ?_)
   ·skip
    have hg : (i : Int) = idxL v l := (idxL_at hil (by simp at hc1; omega) hq).symm
    refine wp_seq ?_
    refine region_seq hS (by kernel_rfl)
      (cF rfl (o_move .t (by rfl)) r1 trivial
      (cF rfl (o_assign .t (by rfl)) r1 trivial
      Chain.nil))
      (by kernel_rfl) (by rw [hB]; kernel_rfl) ?_
    clear hS; intro a w F hS
    obtain ⟨F, hS⟩ := hS.norm [(1, _), (4, _), (5, _), (6, _), (7, _), (8, _), (9, _), (10, _), (11, _), (12, _), (13, _), (14, _), (15, _), (16, _), (17, _)] [(0, _)] ⟨rfl, rfl, rfl, rfl, rfl, rfl, rfl, rfl, rfl, rfl, rfl, rfl, rfl, rfl, rfl, trivial⟩ r1
    try dsimp only [rInt] at hS
    refine then_n ?_
    refine wp_ret ?_
    refine block_r ?_
    refine then_r ?_
    refine then_r ?_
    refine block_r ?_
    refine then_r ?_
    refine ret_P hfr hS rfl (.tmp rfl .nil) (.one (.int hg))
   ·skip
    have hne : Go.Gm.nth l i ≠ v := by simp at hc1; omega
    refine wp_skip ?_
    refine block_n ?_
    refine then_n ?_
    refine region_seq hS (by kernel_rfl)
      (cF rfl (o_add .t (.ci (by kernel_rfl))) r1 trivial
      (cF rfl (o_move .t (by rfl)) r1 trivial
      Chain.nil))
      (by kernel_rfl) (by rw [hB]; kernel_rfl) ?_
    clear hS; intro a w F hS
    obtain ⟨F, hS⟩ := hS.norm [(1, _), (4, _), (5, _), (6, _), (7, _), (8, _), (9, _), (10, _), (11, _), (12, _), (13, _), (14, _), (15, _), (16, _), (18, _)] [(0, _)] ⟨rfl, rfl, rfl, rfl, rfl, rfl, rfl, rfl, rfl, rfl, rfl, rfl, rfl, rfl, rfl, trivial⟩ r1
    try dsimp only [rInt] at hS
    refine then_n ?_
    replace hS := hS.ent (i := 9) (s' := .pv (.int .i64 ((i + 1 : Nat) : Int))) rfl (.int (wrap_succ (by omega)))
    obtain ⟨F, hS⟩ := hS.norm [(9, _), (1, _), (4, _), (7, _), (8, _)] [(0, _)] ⟨rfl, rfl, rfl, rfl, rfl, trivial⟩ ⟨rfl, trivial⟩
    exact ⟨(i + 1), F, ⟨by omega, (fun k hk => by rcases Nat.lt_or_eq_of_le (Nat.le_of_lt_succ hk) with h | h; exact hq k h; rw [h]; exact hne)⟩, hS, by omega⟩
  ·skip
   have hil : i = l.length := by simp at hc0; omega
   have hg : -1 = idxL v l := (idxL_none fun k hk => hq k (by simp at hc0; omega)).symm
   refine wp_exit ?_
   refine then_x ?_
   refine then_x ?_
   refine block_x ?_
   refine then_n ?_
   refine wp_seq ?_
   refine region_seq hS (by kernel_rfl)
     (cF rfl (o_assign (.ci (by kernel_rfl)) (by rfl)) trivial trivial
     Chain.nil)
     (by kernel_rfl) (by rw [hB]; kernel_rfl) ?_
   clear hS; intro a w F hS
   obtain ⟨F, hS⟩ := hS.norm [(4, _)] [(0, _)] r1 r1
   try dsimp only [rInt] at hS
   refine then_n ?_
   refine wp_ret ?_
   refine ret_P hfr hS rfl (.tmp rfl .nil) (.one (.int hg))

theorem sIndex_c (o : Option Nat) (room : Int) (q : List Cell) (root : Int) (v : Int) (t0 : Tree) (hr0 : Rep kz q t0 root) (hs : tSize t0 ≤ 1000000) : FnG Try.prog 36 1 [.agg [.is (arV o), .int .i64 root], .int .i64 v] [arH o room q] (.int .i64 (idxL v (tVals t0))) (fun _ => [arH o room q]) := by
  refine FnG.mk Try.func36 rfl Try.ntmps36 rfl (by kernel_rfl) ?_
  intro B F0 a w F hB hG hS
  refine wp_seq ?_
  refine region_seq hS (by kernel_rfl)
    (cF rfl (o_boxA 101 (.conv .t .agg) (by kernel_rfl)) r1 trivial
    (cF rfl (o_assign (.ci (by kernel_rfl)) (by rfl)) trivial trivial
    Chain.nil))
    (by kernel_rfl) (by rw [hB]; kernel_rfl) ?_
  clear hS; intro a w F hS
  replace hS := hS.sub
  obtain ⟨F, hS⟩ := hS.norm [(1, _), (2, _), (4, _)] [(0, _), (1, _), (101, _)] r3 r3
  try dsimp only [RS.sub, SF.sub, CF.sub, csub, Anc.sub, List.map, zCF, rCell, rPair] at hS
  generalize Act.tau a 2 = v2 at hS
  refine then_n ?_
  refine wp_seq ?_
  refine region_seq hS (by kernel_rfl)
    (cF rfl (o_load (ag := true) (sz := 2) 101 .is (by kernel_rfl) (by kernel_rfl) (by kernel_rfl) (by rfl)) r1 r1
    (cF rfl (o_callG1 1 (sList_c o room q root t0 hr0 hs) Try.func18 rfl (by kernel_rfl) (Args.one (.pagg .t))) r1 r1
    (cF rfl (o_move .t (by rfl)) r1 trivial
    (cF rfl (o_callP (index_c (tVals t0) v) Try.func65 rfl (by kernel_rfl) (Args.two .t .t)) r2 trivial
    (cF rfl (o_assign .t (by rfl)) r1 trivial
    Chain.nil)))))
    (by kernel_rfl) (by rw [hB]; kernel_rfl) ?_
  clear hS; intro a w F hS
  obtain ⟨F, hS⟩ := hS.norm [(4, _)] [(0, _), (1, _)] r1 r2
  try dsimp only [List.map, List.drop_succ_cons, List.drop_zero, List.drop_nil, List.take_succ_cons, List.take_zero, List.take_nil, ldSF, rCell, rPair] at hS
  refine then_n ?_
  refine wp_ret ?_
  refine ret_G1 hG hS rfl (.tmp rfl .nil) (.one (.int rfl)) rfl

theorem sMove_c (o : Option Nat) (room : Int) (q : List Cell) (root : Int) (t0 : Tree) (hr0 : Rep kz q t0 root) (hs : tSize t0 ≤ 1000000) (o2 : Option Nat) (room2 : Int) (q2 : List Cell) : FnG Try.prog 35 2 [.agg [.is (arV o), .int .i64 root], .is (arV o2)] [arH o room q, arH o2 room2 q2] (.tup [.agg [.is (arV o2), .int .i64 (qOfM room2 q2 (tVals t0)).2.2], .int .i64 (qOfM room2 q2 (tVals t0)).2.1]) (fun _ => [arH o room q, arH o2 room2 (qOfM room2 q2 (tVals t0)).1]) := by
  refine FnG.mk Try.func35 rfl Try.ntmps35 rfl (by kernel_rfl) ?_
  intro B F0 a w F hB hG hS
  refine wp_seq ?_
  refine region_seq hS (by kernel_rfl)
    (cF rfl (o_boxA 101 (.conv .t .agg) (by kernel_rfl)) r1 trivial
    (cF rfl (o_alloc (zs := [.pointer none, .int .i64 0]) 102 (by kernel_rfl)) trivial trivial
    (cF rfl (o_assign (.ci (by kernel_rfl)) (by rfl)) trivial trivial
    Chain.nil)))
    (by kernel_rfl) (by rw [hB]; kernel_rfl) ?_
  clear hS; intro a w F hS
  replace hS := hS.sub
  obtain ⟨F, hS⟩ := hS.norm [(1, _), (2, _), (4, _), (5, _)] [(0, _), (1, _), (2, _), (101, _), (102, _)] r4 r5
  try dsimp only [RS.sub, SF.sub, CF.sub, csub, Anc.sub, List.map, zCF, rCell, rPair] at hS
  generalize Act.tau a 2 = v2 at hS
  generalize Act.tau a 4 = v4 at hS
  refine then_n ?_
  refine wp_seq ?_
  refine region_seq hS (by kernel_rfl)
    (cF rfl (o_move .t (by rfl)) r1 trivial
    (cF rfl (o_load (ag := true) (sz := 2) 101 .is (by kernel_rfl) (by kernel_rfl) (by kernel_rfl) (by rfl)) r1 r1
    (cF rfl (o_callG1 1 (sList_c o room q root t0 hr0 hs) Try.func18 rfl (by kernel_rfl) (Args.one (.pagg .t))) r1 r1
    (cF rfl (o_callG1 2 (sOf_c o2 room2 q2 (tVals t0)) Try.func44 rfl (by kernel_rfl) (Args.two .t .t)) r2 r1
    (cF rfl (o_extract .t rfl) r1 trivial
    (cF rfl (o_extract .t rfl) r1 trivial
    (cF rfl (o_storeA (sz := 2) 102 .is (.conv .t .agg) (by kernel_rfl) (by kernel_rfl) (by kernel_rfl)) r2 r1
    (cF rfl (o_assign .t (by rfl)) r1 trivial
    Chain.nil))))))))
    (by kernel_rfl) (by rw [hB]; kernel_rfl) ?_
  clear hS; intro a w F hS
  obtain ⟨F, hS⟩ := hS.norm [(4, _), (5, _)] [(0, _), (1, _), (2, _), (102, _)] r2 r4
  try dsimp only [List.map, stCells, List.length_cons, List.length_nil, Nat.reduceAdd, List.drop_succ_cons, List.drop_zero, List.drop_nil, List.take_succ_cons, List.take_zero, List.take_nil, List.cons_append, List.nil_append, zCF, ldSF, rCell, rPair] at hS
  refine then_n ?_
  refine wp_ret ?_
  refine ret_G2c hG hS rfl (.cell (n := 102) (ag := true) (sz := 2) rfl .is rfl (by kernel_rfl) (by kernel_rfl) (by kernel_rfl) (.tmp rfl .nil)) (.two (.aggU rfl rfl) (.int rfl)) rfl rfl

theorem there07_c (l : List Int) (j : Int) : FnP Try.prog 39 [.sl rInt l, .int .i64 j] (.bool (decide (0 ≤ j ∧ j < l.length))) := by
  refine FnP.mk Try.func39 rfl Try.ntmps39 rfl ?_
  intro B a w F hB hfr hS
  refine wp_seq ?_
  refine region_seq hS (by kernel_rfl)
    (cF rfl (o_assign .cb (by rfl)) trivial trivial
    Chain.nil)
    (by kernel_rfl) (by rw [hB]; kernel_rfl) ?_
  clear hS; intro a w F hS
  obtain ⟨F, hS⟩ := hS.norm [(0, _), (1, _), (4, _)] [(0, _)] r3 r1
  try dsimp only [rInt] at hS
  refine then_n ?_
  refine wp_seq ?_
  refine region_seq hS (by kernel_rfl)
    (cF rfl (o_move .t (by rfl)) r1 trivial
    (cF rfl (o_geq .t (.ci (by kernel_rfl))) r1 trivial
    (cF rfl (o_move .t (by rfl)) r1 trivial
    (Chain.cons (Cert.cond rfl rfl (fun h => o_move .t (by rfl))) r2 trivial
    (Chain.cons (Cert.cond rfl rfl (fun h => o_move .t (by rfl))) r2 trivial
    (Chain.cons (Cert.cond rfl rfl (fun h => o_len_sl Try.underlying29 (.w h))) r2 trivial
    (Chain.cons (Cert.cond rfl rfl (fun h => o_lss (.w h) (.w h))) r3 trivial
    (cF rfl (o_and2 .t .t) r2 trivial
    (cF rfl (o_assign .t (by rfl)) r1 trivial
    Chain.nil)))))))))
    (by kernel_rfl) (by rw [hB]; kernel_rfl) ?_
  clear hS; intro a w F hS
  obtain ⟨F, hS⟩ := hS.norm [(4, _)] [(0, _)] r1 r1
  try dsimp only [rInt] at hS
  refine then_n ?_
  refine wp_ret ?_
  refine ret_P hfr hS rfl (.tmp rfl .nil) (.one (.bool (by simp)))

theorem ins07_c (l : List Int) (j x : Int) (hl : l.length ≤ 1000000) : FnP Try.prog 40 [.sl rInt l, .int .i64 j, .int .i64 x] (.tup [.sl rInt (insL l j x), .bool (decide (0 ≤ j ∧ j ≤ l.length))]) := by
  refine FnP.mk Try.func40 rfl Try.ntmps40 rfl ?_
  intro B a w F hB hfr hS
  refine wp_seq ?_
  refine region_seq hS (by kernel_rfl)
    (cF rfl (o_assign (.c rfl) (by rfl)) trivial trivial
    (cF rfl (o_assign .cb (by rfl)) trivial trivial
    Chain.nil))
    (by kernel_rfl) (by rw [hB]; kernel_rfl) ?_
  clear hS; intro a w F hS
  obtain ⟨F, hS⟩ := hS.norm [(0, _), (1, _), (2, _), (6, _), (7, _)] [(0, _)] r5 r1
  try dsimp only [rInt] at hS
  refine then_n ?_
  refine wp_seq ?_
  refine wp_seq ?_
  refine region_seq hS (by kernel_rfl)
    (cF rfl (o_move .t (by rfl)) r1 trivial
    (cF rfl (o_lss .t (.ci (by kernel_rfl))) r1 trivial
    (cF rfl (o_move .t (by rfl)) r1 trivial
    (Chain.cons (Cert.cond rfl rfl (fun h => o_move .t (by rfl))) r2 trivial
    (Chain.cons (Cert.cond rfl rfl (fun h => o_move .t (by rfl))) r2 trivial
    (Chain.cons (Cert.cond rfl rfl (fun h => o_len_sl Try.underlying29 (.w h))) r2 trivial
    (Chain.cons (Cert.cond rfl rfl (fun h => o_gtr (.w h) (.w h))) r3 trivial
    (cF rfl (o_or2 .t .t) r2 trivial
    Chain.nil))))))))
    (by kernel_rfl) (by rw [hB]; kernel_rfl) ?_
  clear hS; intro a w F hS
  obtain ⟨F, hS⟩ := hS.norm [(0, _), (1, _), (2, _), (6, _), (7, _), (16, _)] [(0, _)] r6 r1
  try dsimp only [rInt] at hS
  refine then_n ?_
  refine cond_b hS rfl (fun hc0 => ?_) (fun hc0 => ?_)
  ·skip
   have hj : ¬ (0 ≤ j ∧ j ≤ l.length) := by simp at hc0; omega
   have hfin : l = insL l j x := (if_neg hj).symm
   have hfin2 : false = decide (0 ≤ j ∧ j ≤ l.length) := (decide_eq_false hj).symm
   refine wp_seq ?_
   refine region_seq hS (by kernel_rfl)
     (cF rfl (o_move .t (by rfl)) r1 trivial
     (cF rfl (o_assign .t (by rfl)) r1 trivial
     (cF rfl (o_assign .cb (by rfl)) trivial trivial
     Chain.nil)))
     (by kernel_rfl) (by rw [hB]; kernel_rfl) ?_
   clear hS; intro a w F hS
   obtain ⟨F, hS⟩ := hS.norm [(0, _), (1, _), (2, _), (6, _), (7, _)] [(0, _)] r5 r1
   try dsimp only [rInt] at hS
   refine then_n ?_
   refine wp_ret ?_
   refine then_r ?_
   refine ret_P hfr hS rfl (.tmp rfl (.tmp rfl .nil)) (.two (.sl hfin) (.bool hfin2))
  ·skip
   have hj : 0 ≤ j ∧ j ≤ l.length := by simp at hc0; omega
   have hfin : [] ++ l.take j.toNat ++ [x] ++ l.drop j.toNat = insL l j x := by unfold insL; rw [if_pos hj]; simp
   have hfin2 : true = decide (0 ≤ j ∧ j ≤ l.length) := (decide_eq_true hj).symm
   refine wp_skip ?_
   refine then_n ?_
   refine wp_seq ?_
   refine region_seq hS (by kernel_rfl)
     (cF rfl (o_buildSlice0 (R := rInt) (sz := 1) 101 Try.underlying29 (by kernel_rfl)) trivial trivial
     (cF rfl (o_move .t (by rfl)) r1 trivial
     (cF rfl (o_move .t (by rfl)) r1 trivial
     (cF rfl (o_slice_hi (sz := 1) (.mk Try.underlying29 (by kernel_rfl)) (by intro x; rfl) .t .t (by omega) (by omega)) r2 trivial
     (cF rfl (o_append (sz := 1) (bs := 8) 101 (.mk' Try.underlying29 (by kernel_rfl) (by kernel_rfl)) (by intro x; rfl) .same (.sl .t) (by simp only [List.length_append, List.length_cons, List.length_nil, List.length_take, List.length_drop]; omega) (by decide)) ⟨rfl, rfl, trivial⟩ ⟨rfl, trivial⟩
     (cF rfl (o_assign .t (by rfl)) r1 trivial
     Chain.nil))))))
     (by kernel_rfl) (by rw [hB]; kernel_rfl) ?_
   clear hS; intro a w F hS
   replace hS := hS.sub
   obtain ⟨F, hS⟩ := hS.norm [(0, _), (1, _), (2, _), (6, _), (7, _), (8, _)] [(0, _), (101, _)] r6 r2
   try dsimp only [RS.sub, SF.sub, CF.sub, csub, Anc.sub, List.map, stCells, List.length_cons, List.length_nil, Nat.reduceAdd, List.drop_succ_cons, List.drop_zero, List.drop_nil, List.take_succ_cons, List.take_zero, List.take_nil, List.cons_append, List.nil_append, zCF, rInt] at hS
   generalize Act.tau a 22 = v22 at hS
   refine then_n ?_
   refine wp_seq ?_
   refine region_seq hS (by kernel_rfl)
     (cF rfl (o_move .t (by rfl)) r1 trivial
     (cF rfl (o_move .t (by rfl)) r1 trivial
     (cF rfl (o_buildSliceE (sz := 1) (zs := [.int .i64 0]) (r := [(0, .tmp 24)]) (l := [_]) Try.underlying29 (by kernel_rfl) (by kernel_rfl) (by kernel_rfl) (by kernel_rfl) rfl rfl (.one rfl .t one_int (by kernel_rfl) .nil) rfl) r1 trivial
     (cF rfl (o_append (sz := 1) (bs := 8) 101 (.mk' Try.underlying29 (by kernel_rfl) (by kernel_rfl)) (by intro x; rfl) .is (.arr (l' := [x]) .t) (by simp only [List.length_append, List.length_cons, List.length_nil, List.length_take, List.length_drop]; omega) (by decide)) ⟨rfl, rfl, trivial⟩ ⟨rfl, trivial⟩
     (cF rfl (o_assign .t (by rfl)) r1 trivial
     Chain.nil)))))
     (by kernel_rfl) (by rw [hB]; kernel_rfl) ?_
   clear hS; intro a w F hS
   replace hS := hS.sub
   obtain ⟨F, hS⟩ := hS.norm [(0, _), (1, _), (6, _), (7, _), (8, _)] [(0, _), (101, _)] r5 r2
   try dsimp only [RS.sub, SF.sub, CF.sub, csub, Anc.sub, List.map, stCells, List.length_cons, List.length_nil, Nat.reduceAdd, List.drop_succ_cons, List.drop_zero, List.drop_nil, List.take_succ_cons, List.take_zero, List.take_nil, List.cons_append, List.nil_append, zCF, rInt] at hS
   generalize Act.tau a 26 = v26 at hS
   refine then_n ?_
   refine wp_seq ?_
   refine region_seq hS (by kernel_rfl)
     (cF rfl (o_move .t (by rfl)) r1 trivial
     (cF rfl (o_move .t (by rfl)) r1 trivial
     (cF rfl (o_move .t (by rfl)) r1 trivial
     (cF rfl (o_slice_lo (sz := 1) (.mk Try.underlying29 (by kernel_rfl)) (by intro x; rfl) .t .t (by omega) (by omega)) r2 trivial
     (cF rfl (o_append (sz := 1) (bs := 8) 101 (.mk' Try.underlying29 (by kernel_rfl) (by kernel_rfl)) (by intro x; rfl) .is (.sl .t) (by simp only [List.length_append, List.length_cons, List.length_nil, List.length_take, List.length_drop]; omega) (by decide)) ⟨rfl, rfl, trivial⟩ ⟨rfl, trivial⟩
     (cF rfl (o_assign .t (by rfl)) r1 trivial
     Chain.nil))))))
     (by kernel_rfl) (by rw [hB]; kernel_rfl) ?_
   clear hS; intro a w F hS
   replace hS := hS.sub
   obtain ⟨F, hS⟩ := hS.norm [(6, _), (7, _), (8, _)] [(0, _), (101, _)] r3 r2
   try dsimp only [RS.sub, SF.sub, CF.sub, csub, Anc.sub, List.map, List.cons_append, List.nil_append, rInt] at hS
   generalize Act.tau a 31 = v31 at hS
   refine then_n ?_
   refine wp_seq ?_
   refine region_seq hS (by kernel_rfl)
     (cF rfl (o_move .t (by rfl)) r1 trivial
     (cF rfl (o_assign .t (by rfl)) r1 trivial
     (cF rfl (o_assign .cb (by rfl)) trivial trivial
     Chain.nil)))
     (by kernel_rfl) (by rw [hB]; kernel_rfl) ?_
   clear hS; intro a w F hS
   obtain ⟨F, hS⟩ := hS.norm [(6, _), (7, _)] [(0, _), (101, _)] r2 r2
   try dsimp only [rInt] at hS
   refine then_n ?_
   refine wp_ret ?_
   obtain ⟨F, hS⟩ := hS.give 101 6 rfl rfl
   refine ret_P hfr hS rfl (.tmp rfl (.tmp rfl .nil)) (.two (.sl hfin) (.bool hfin2))

theorem set07_c (l : List Int) (j x : Int) (hl : l.length ≤ 1000000) (hj : 0 ≤ j ∧ j < l.length) : FnP Try.prog 42 [.sl rInt l, .int .i64 j, .int .i64 x] (.sl rInt (l.set j.toNat x)) := by
  refine FnP.mk Try.func42 rfl Try.ntmps42 rfl ?_
  intro B a w F hB hfr hS
  refine wp_seq ?_
  refine region_seq hS (by kernel_rfl)
    (cF rfl (o_assign (.c rfl) (by rfl)) trivial trivial
    Chain.nil)
    (by kernel_rfl) (by rw [hB]; kernel_rfl) ?_
  clear hS; intro a w F hS
  obtain ⟨F, hS⟩ := hS.norm [(0, _), (1, _), (2, _), (6, _)] [(0, _)] r4 r1
  try dsimp only [rInt] at hS
  refine then_n ?_
  refine wp_seq ?_
  refine region_seq hS (by kernel_rfl)
    (cF rfl (o_buildSlice0 (R := rInt) (sz := 1) 101 Try.underlying29 (by kernel_rfl)) trivial trivial
    (cF rfl (o_move .t (by rfl)) r1 trivial
    (cF rfl (o_append (sz := 1) (bs := 8) 101 (.mk' Try.underlying29 (by kernel_rfl) (by kernel_rfl)) (by intro x; rfl) .same (.sl .t) (by simp only [List.length_append, List.length_cons, List.length_nil, List.length_take, List.length_drop]; omega) (by decide)) ⟨rfl, rfl, trivial⟩ ⟨rfl, trivial⟩
    (cF rfl (o_assign .t (by rfl)) r1 trivial
    Chain.nil))))
    (by kernel_rfl) (by rw [hB]; kernel_rfl) ?_
  clear hS; intro a w F hS
  replace hS := hS.sub
  obtain ⟨F, hS⟩ := hS.norm [(1, _), (2, _), (6, _), (7, _)] [(0, _), (101, _)] r4 r2
  try dsimp only [RS.sub, SF.sub, CF.sub, csub, Anc.sub, List.map, stCells, List.length_cons, List.length_nil, Nat.reduceAdd, List.drop_succ_cons, List.drop_zero, List.drop_nil, List.take_succ_cons, List.take_zero, List.take_nil, List.cons_append, List.nil_append, zCF, rInt] at hS
  generalize Act.tau a 10 = v10 at hS
  refine then_n ?_
  refine wp_seq ?_
  refine region_seq hS (by kernel_rfl)
    (cF rfl (o_move .t (by rfl)) r1 trivial
    (cF rfl (o_move .t (by rfl)) r1 trivial
    (cF rfl (o_move .t (by rfl)) r1 trivial
    (cF rfl (o_indexAddr_row (sz := 1) 101 (.mk Try.underlying29 (by kernel_rfl)) .is .t (by first | omega | (simp; omega)) (by first | omega | (simp; omega)) (by rfl)) r2 r1
    (cF rfl (o_store_row1 (R := rInt) (sz := 1) (v := x) 101 .t (by intro x; rfl) (by first | omega | (simp; omega)) .t rfl one_int (by kernel_rfl)) r2 r1
    Chain.nil)))))
    (by kernel_rfl) (by rw [hB]; kernel_rfl) ?_
  clear hS; intro a w F hS
  obtain ⟨F, hS⟩ := hS.norm [(6, _), (7, _)] [(0, _), (101, _)] r2 r2
  try dsimp only [List.map, stCells, List.length_cons, List.length_nil, Nat.reduceAdd, List.drop_succ_cons, List.drop_zero, List.drop_nil, List.take_succ_cons, List.take_zero, List.take_nil, List.cons_append, List.nil_append, zCF, rInt] at hS
  try simp only [Int.toNat_natCast] at hS
  refine then_n ?_
  refine wp_seq ?_
  refine region_seq hS (by kernel_rfl)
    (cF rfl (o_move .t (by rfl)) r1 trivial
    (cF rfl (o_assign .t (by rfl)) r1 trivial
    Chain.nil))
    (by kernel_rfl) (by rw [hB]; kernel_rfl) ?_
  clear hS; intro a w F hS
  obtain ⟨F, hS⟩ := hS.norm [(6, _)] [(0, _), (101, _)] r1 r2
  try dsimp only [rInt] at hS
  refine then_n ?_
  refine wp_ret ?_
  obtain ⟨F, hS⟩ := hS.give 101 6 rfl rfl
  refine ret_P hfr hS rfl (.tmp rfl .nil) (.one (.sl (by simp)))

theorem del07_c (l : List Int) (j : Int) (hl : l.length ≤ 1000000) (hj : 0 ≤ j ∧ j < l.length) : FnP Try.prog 43 [.sl rInt l, .int .i64 j] (.sl rInt (l.eraseIdx j.toNat)) := by
  refine FnP.mk Try.func43 rfl Try.ntmps43 rfl ?_
  intro B a w F hB hfr hS
  have hw : IntKind.wrap .i64 (j + 1) = j + 1 := wrap_i64 (by omega)
  have hfin : [] ++ l.take j.toNat ++ l.drop (IntKind.wrap .i64 (j + 1)).toNat = l.eraseIdx j.toNat := by rw [hw, List.eraseIdx_eq_take_drop_succ, List.nil_append, show (j + 1).toNat = j.toNat + 1 by omega]
  refine wp_seq ?_
  refine region_seq hS (by kernel_rfl)
    (cF rfl (o_assign (.c rfl) (by rfl)) trivial trivial
    Chain.nil)
    (by kernel_rfl) (by rw [hB]; kernel_rfl) ?_
  clear hS; intro a w F hS
  obtain ⟨F, hS⟩ := hS.norm [(0, _), (1, _), (4, _)] [(0, _)] r3 r1
  try dsimp only [rInt] at hS
  refine then_n ?_
  refine wp_seq ?_
  refine region_seq hS (by kernel_rfl)
    (cF rfl (o_buildSlice0 (R := rInt) (sz := 1) 101 Try.underlying29 (by kernel_rfl)) trivial trivial
    (cF rfl (o_move .t (by rfl)) r1 trivial
    (cF rfl (o_move .t (by rfl)) r1 trivial
    (cF rfl (o_slice_hi (sz := 1) (.mk Try.underlying29 (by kernel_rfl)) (by intro x; rfl) .t .t (by omega) (by omega)) r2 trivial
    (cF rfl (o_append (sz := 1) (bs := 8) 101 (.mk' Try.underlying29 (by kernel_rfl) (by kernel_rfl)) (by intro x; rfl) .same (.sl .t) (by simp only [List.length_append, List.length_cons, List.length_nil, List.length_take, List.length_drop]; omega) (by decide)) ⟨rfl, rfl, trivial⟩ ⟨rfl, trivial⟩
    (cF rfl (o_assign .t (by rfl)) r1 trivial
    Chain.nil))))))
    (by kernel_rfl) (by rw [hB]; kernel_rfl) ?_
  clear hS; intro a w F hS
  replace hS := hS.sub
  obtain ⟨F, hS⟩ := hS.norm [(0, _), (1, _), (4, _), (5, _)] [(0, _), (101, _)] r4 r2
  try dsimp only [RS.sub, SF.sub, CF.sub, csub, Anc.sub, List.map, stCells, List.length_cons, List.length_nil, Nat.reduceAdd, List.drop_succ_cons, List.drop_zero, List.drop_nil, List.take_succ_cons, List.take_zero, List.take_nil, List.cons_append, List.nil_append, zCF, rInt] at hS
  generalize Act.tau a 10 = v10 at hS
  refine then_n ?_
  refine wp_seq ?_
  refine region_seq hS (by kernel_rfl)
    (cF rfl (o_move .t (by rfl)) r1 trivial
    (cF rfl (o_move .t (by rfl)) r1 trivial
    (cF rfl (o_move .t (by rfl)) r1 trivial
    (cF rfl (o_add .t (.ci (by kernel_rfl))) r1 trivial
    (cF rfl (o_slice_lo (sz := 1) (.mk Try.underlying29 (by kernel_rfl)) (by intro x; rfl) .t .t (by rw [hw]; omega) (by rw [hw]; omega)) r2 trivial
    (cF rfl (o_append (sz := 1) (bs := 8) 101 (.mk' Try.underlying29 (by kernel_rfl) (by kernel_rfl)) (by intro x; rfl) .is (.sl .t) (by simp only [List.length_append, List.length_cons, List.length_nil, List.length_take, List.length_drop]; omega) (by decide)) ⟨rfl, rfl, trivial⟩ ⟨rfl, trivial⟩
    (cF rfl (o_assign .t (by rfl)) r1 trivial
    Chain.nil)))))))
    (by kernel_rfl) (by rw [hB]; kernel_rfl) ?_
  clear hS; intro a w F hS
  replace hS := hS.sub
  obtain ⟨F, hS⟩ := hS.norm [(4, _)] [(0, _), (101, _)] r1 r2
  try dsimp only [RS.sub, SF.sub, CF.sub, csub, Anc.sub, List.map, List.cons_append, List.nil_append, rInt] at hS
  generalize Act.tau a 16 = v16 at hS
  refine then_n ?_
  refine wp_ret ?_
  obtain ⟨F, hS⟩ := hS.give 101 4 rfl rfl
  refine ret_P hfr hS rfl (.tmp rfl .nil) (.one (.sl hfin))

theorem sameInts_c (x y : List Int) : FnP Try.prog 17 [.sl rInt x, .sl rInt y] (.bool (decide (x = y))) := by
  refine FnP.mk Try.func17 rfl Try.ntmps17 rfl ?_
  intro B a w F hB hfr hS
  have hxl := Sat.lenSl hS (i := 0) rfl
  refine wp_seq ?_
  refine region_seq hS (by kernel_rfl)
    (cF rfl (o_assign .cb (by rfl)) trivial trivial
    Chain.nil)
    (by kernel_rfl) (by rw [hB]; kernel_rfl) ?_
  clear hS; intro a w F hS
  obtain ⟨F, hS⟩ := hS.norm [(0, _), (1, _), (4, _)] [(0, _)] r3 r1
  refine then_n ?_
  refine wp_seq ?_
  refine wp_seq ?_
  refine region_seq hS (by kernel_rfl)
    (cF rfl (o_move .t (by rfl)) r1 trivial
    (cF rfl (o_len_sl Try.underlying29 .t) r1 trivial
    (cF rfl (o_move .t (by rfl)) r1 trivial
    (cF rfl (o_len_sl Try.underlying29 .t) r1 trivial
    (cF rfl (o_neq .t .t) r2 trivial
    Chain.nil)))))
    (by kernel_rfl) (by rw [hB]; kernel_rfl) ?_
  clear hS; intro a w F hS
  obtain ⟨F, hS⟩ := hS.norm [(0, _), (1, _), (4, _), (10, _)] [(0, _)] r4 r1
  refine then_n ?_
  refine cond_b hS rfl (fun hc0 => ?_) (fun hc0 => ?_)
  ·skip
   have hg : false = decide (x = y) := by
     rw [eq_comm, decide_eq_false_iff_not]
     intro h
     subst h
     simp at hc0
   refine wp_seq ?_
   refine region_seq hS (by kernel_rfl)
     (cF rfl (o_assign .cb (by rfl)) trivial trivial
     Chain.nil)
     (by kernel_rfl) (by rw [hB]; kernel_rfl) ?_
   clear hS; intro a w F hS
   obtain ⟨F, hS⟩ := hS.norm [(0, _), (1, _), (4, _)] [(0, _)] r3 r1
   refine then_n ?_
   refine wp_ret ?_
   refine then_r ?_
   refine ret_P hfr hS rfl (.tmp rfl .nil) (.one (.bool hg))
  ·skip
   have hl : x.length = y.length := by simp at hc0; omega
   refine wp_skip ?_
   refine then_n ?_
   refine wp_seq ?_
   refine wp_seq ?_
   refine region_seq hS (by kernel_rfl)
     (cF rfl (o_move .t (by rfl)) r1 trivial
     (cF rfl (o_len_sl Try.underlying29 .t) r1 trivial
     (cF rfl (o_move (.ci (by kernel_rfl)) (by rfl)) trivial trivial
     Chain.nil)))
     (by kernel_rfl) (by rw [hB]; kernel_rfl) ?_
   clear hS; intro a w F hS
   obtain ⟨F, hS⟩ := hS.norm [(0, _), (1, _), (4, _), (12, _), (13, _)] [(0, _)] r5 r1
   refine then_n ?_
   refine wp_block ?_
   obtain ⟨F, hS⟩ := hS.norm [(0, _), (1, _), (12, _), (13, _)] [(0, _)] r4 r1
   refine loop_inv (σ := Nat) (fun s => (⟨[(0, .pv (.sl rInt x)), (1, .pv (.sl rInt y)), (12, .pv (.int .i64 x.length)), (13, .pv (.int .i64 s))], [(0, frame B)]⟩ : En)) (fun s => s ≤ x.length ∧ ∀ j, j < s → Go.Gm.nth x j = Go.Gm.nth y j) (fun s => x.length - s) 0 hS ⟨Nat.zero_le _, fun j hj => absurd hj (Nat.not_lt_zero j)⟩ ?_
   clear hS; intro i a w F hC hS
   try dsimp only at hC
   try dsimp only at hS
   obtain ⟨hi, hq⟩ := hC
   refine wp_seq ?_
   refine region_seq hS (by kernel_rfl)
     (cF rfl (o_lss .t .t) r2 trivial
     Chain.nil)
     (by kernel_rfl) (by rw [hB]; kernel_rfl) ?_
   clear hS; intro a w F hS
   obtain ⟨F, hS⟩ := hS.norm [(0, _), (1, _), (12, _), (13, _), (14, _)] [(0, _)] r5 r1
   refine then_n ?_
   refine wp_seq ?_
   refine cond_b hS rfl (fun hc1 => ?_) (fun hc1 => ?_)
   ·skip
    have hil : i < x.length := by simp at hc1; omega
    refine wp_skip ?_
    refine then_n ?_
    refine wp_seq ?_
    refine wp_block ?_
    refine wp_seq ?_
    refine region_seq hS (by kernel_rfl)
      (cF rfl (o_move .t (by rfl)) r1 trivial
      (cF rfl (o_assign .t (by rfl)) r1 trivial
      Chain.nil))
      (by kernel_rfl) (by rw [hB]; kernel_rfl) ?_
    clear hS; intro a w F hS
    obtain ⟨F, hS⟩ := hS.norm [(0, _), (1, _), (5, _), (12, _), (13, _), (14, _), (15, _)] [(0, _)] r7 r1
    refine then_n ?_
    refine wp_seq ?_
    refine region_any (by kernel_rfl) hS (by kernel_rfl)
      (cF rfl (o_move .t (by rfl)) r1 trivial
      (cF rfl (o_move .t (by rfl)) r1 trivial
      (cF rfl (o_indexAddr_sl (sz := 1) (.mk Try.underlying29 (by kernel_rfl)) (by intro x; rfl) .t .t (by omega) (by omega)) r2 trivial
      (cF rfl (o_load_ref (ag := false) (sz := 1) .t (by kernel_rfl) (by kernel_rfl) (by kernel_rfl)) r1 trivial
      (cF rfl (o_move .t (by rfl)) r1 trivial
      (cF rfl (o_move .t (by rfl)) r1 trivial
      (cF rfl (o_indexAddr_sl (sz := 1) (.mk Try.underlying29 (by kernel_rfl)) (by intro x; rfl) .t .t (by omega) (by omega)) r2 trivial
      (cF rfl (o_load_ref (ag := false) (sz := 1) .t (by kernel_rfl) (by kernel_rfl) (by kernel_rfl)) r1 trivial
      (cF rfl (o_neq .t .t) r2 trivial
      Chain.nil)))))))))
      (by kernel_rfl) (by rw [hB]; kernel_rfl) ?_
    clear hS; intro a w F hS
    obtain ⟨F, hS⟩ := hS.norm [(0, _), (1, _), (5, _), (12, _), (13, _), (14, _), (15, _), (16, _), (17, _), (18, _), (19, _), (20, _), (21, _), (22, _), (23, _), (24, _)] [(0, _)] ⟨rfl, rfl, rfl, rfl, rfl, rfl, rfl, rfl, rfl, rfl, rfl, rfl, rfl, rfl, rfl, rfl, trivial⟩ r1
    try dsimp only [List.map, List.drop_succ_cons, List.drop_zero, List.drop_nil, List.take_succ_cons, List.take_zero, List.take_nil, ldSF] at hS
    refine then_n ?_
    refine cond_b hS rfl (fun hc2 => ?_) (fun hc2 => ?_)
    ·skip
     have hg : false = decide (x = y) := by
       rw [eq_comm, decide_eq_false_iff_not]
       intro h
       subst h
       simp at hc2
     refine wp_seq ?_
     refine region_seq hS (by kernel_rfl)
       (cF rfl (o_assign .cb (by rfl)) trivial trivial
       Chain.nil)
       (by kernel_rfl) (by rw [hB]; kernel_rfl) ?_
     clear hS; intro a w F hS
     obtain ⟨F, hS⟩ := hS.norm [(0, _), (1, _), (4, _), (5, _), (12, _), (13, _), (14, _), (15, _), (16, _), (17, _), (18, _), (19, _), (20, _), (21, _), (22, _), (23, _), (24, _)] [(0, _)] ⟨rfl, rfl, rfl, rfl, rfl, rfl, rfl, rfl, rfl, rfl, rfl, rfl, rfl, rfl, rfl, rfl, rfl, trivial⟩ r1
     refine then_n ?_
     refine wp_ret ?_
     refine block_r ?_
     refine then_r ?_
     refine then_r ?_
     refine block_r ?_
     refine then_r ?_
     refine ret_P hfr hS rfl (.tmp rfl .nil) (.one (.bool hg))
    ·skip
     rw [Int.toNat_natCast] at hc2
     have hqi : Go.Gm.nth x i = Go.Gm.nth y i := by simpa using hc2
     refine wp_skip ?_
     refine block_n ?_
     refine then_n ?_
     refine region_seq hS (by kernel_rfl)
       (cF rfl (o_add .t (.ci (by kernel_rfl))) r1 trivial
       (cF rfl (o_move .t (by rfl)) r1 trivial
       Chain.nil))
       (by kernel_rfl) (by rw [hB]; kernel_rfl) ?_
     clear hS; intro a w F hS
     obtain ⟨F, hS⟩ := hS.norm [(0, _), (1, _), (5, _), (12, _), (13, _), (14, _), (15, _), (16, _), (17, _), (18, _), (19, _), (20, _), (21, _), (22, _), (23, _), (24, _), (25, _)] [(0, _)] ⟨rfl, rfl, rfl, rfl, rfl, rfl, rfl, rfl, rfl, rfl, rfl, rfl, rfl, rfl, rfl, rfl, rfl, trivial⟩ r1
     refine then_n ?_
     replace hS := hS.ent (i := 13) (s' := .pv (.int .i64 ((i + 1 : Nat) : Int))) rfl (.int (wrap_succ (by omega)))
     obtain ⟨F, hS⟩ := hS.norm [(0, _), (1, _), (12, _), (13, _)] [(0, _)] r4 r1
     exact ⟨i + 1, F, ⟨by omega, fun j hj => by rcases Nat.lt_or_eq_of_le (Nat.le_of_lt_succ hj) with h | h; exact hq j h; rw [h]; exact hqi⟩, hS, by omega⟩
   ·skip
    have hg : true = decide (x = y) := by
      rw [eq_comm, decide_eq_true_eq]
      exact list_same hl fun j hj => hq j (by simp at hc1; omega)
    refine wp_exit ?_
    refine then_x ?_
    refine then_x ?_
    refine block_x ?_
    refine then_n ?_
    refine wp_seq ?_
    refine region_seq hS (by kernel_rfl)
      (cF rfl (o_assign .cb (by rfl)) trivial trivial
      Chain.nil)
      (by kernel_rfl) (by rw [hB]; kernel_rfl) ?_
    clear hS; intro a w F hS
    obtain ⟨F, hS⟩ := hS.norm [(4, _)] [(0, _)] r1 r1
    refine then_n ?_
    refine wp_ret ?_
    refine ret_P hfr hS rfl (.tmp rfl .nil) (.one (.bool hg))

end Go.Proofs.Ytdfpljecogijaaa
