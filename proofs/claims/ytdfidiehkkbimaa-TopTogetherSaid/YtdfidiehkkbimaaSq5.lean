/- Sequences against the document. No condition beyond those that each theorem says. -/
import Derived.Test.YtdfidiehkkbimaaSq4
namespace Go.Proofs.Ytdfidiehkkbimaa
open Go Go.Gm
set_option linter.unusedVariables false
set_option linter.unusedSimpArgs false
set_option maxHeartbeats 4000000
set_option maxRecDepth 8000


/-- A right sequence. -/
structure SeqOk (q : List Cell) (t : Tree) (root : Int) : Prop where
  rep : Rep kz q t root
  bal : Bal t
theorem SeqOk.app {q e : List Cell} {t : Tree} {root : Int} (h : SeqOk q t root) : SeqOk (q ++ e) t root := ⟨h.rep.app e, h.bal⟩
theorem SeqOk.nil (q : List Cell) : SeqOk q .nil 0 := ⟨rfl, trivial⟩
theorem SeqOk.high {q : List Cell} {t : Tree} {root : Int} (h : SeqOk q t root) (hs : tSize t ≤ 1000000) : 0 ≤ tHigh t ∧ tHigh t ≤ 40 := ⟨tHigh_nn t, high_bound h.bal hs⟩
theorem told_split {room lo n : Int} {q : List Cell} {m : St} {t : Tree} (h : Good kz room q lo n m t) (hb : Bal t) :
    (∃ (e : List Cell) (r : Int), toldM q.length m = (q ++ e, 0, r) ∧ SeqOk (q ++ e) t r ∧ lo ≤ e.length ∧ (e.length : Int) ≤ n) ∨ (toldM q.length m = (q, 2, 0) ∧ room < q.length + n) := by
  rcases toldM_good h with ⟨e, e1, e2, e3, e4, e5⟩ | ⟨e1, e2⟩
  · exact .inl ⟨e, _, Prod.ext e1 (Prod.ext e2 rfl), ⟨e3, hb⟩, e4, e5⟩
  · exact .inr ⟨e1, e2⟩
theorem SeqOk.ins {room : Int} {q : List Cell} {t : Tree} {root : Int} (h : SeqOk q t root) (j x : Int) (hj : 0 ≤ j ∧ j ≤ tSize t) (hs : tSize t < 1000000) :
    (∃ (e : List Cell) (r : Int), qInsM room q x t root j = (q ++ e, 0, r) ∧ SeqOk (q ++ e) (insT x t j) r ∧ (e.length : Int) ≤ 3 * (tHigh t + 1)) ∨ (qInsM room q x t root j = (q, 2, 0) ∧ room < q.length + 3 * (tHigh t + 1)) := by
  have e : qInsM room q x t root j = toldM q.length (insS room q 0 x t root j) := if_pos (by simp [hj.1, hj.2])
  rw [e]
  rcases told_split (insS_good (room := room) (x := x) j h.rep hs) (insT_bal x j h.bal).1 with ⟨e, r, h1, h2, _, h3⟩ | h1
  · exact .inl ⟨e, r, h1, h2, h3⟩
  · exact .inr h1
theorem SeqOk.set {room : Int} {q : List Cell} {t : Tree} {root : Int} (h : SeqOk q t root) (j x : Int) (hj : 0 ≤ j ∧ j < tSize t) (hs : tSize t ≤ 1000000) :
    (∃ (e : List Cell) (r : Int), qSetM room q x t root j = (q ++ e, 0, r) ∧ SeqOk (q ++ e) (setT x t j) r ∧ (e.length : Int) ≤ 3 * (tHigh t + 1)) ∨ (qSetM room q x t root j = (q, 2, 0) ∧ room < q.length + 3 * (tHigh t + 1)) := by
  have e : qSetM room q x t root j = toldM q.length (setS room q 0 x t root j) := if_pos (by simp [hj.1, hj.2])
  rw [e]
  have := tHigh_nn t
  rcases told_split (setS_good (room := room) (x := x) h.rep hj.1 hj.2 hs) (setT_bal x j h.bal) with ⟨e, r, h1, h2, _, h3⟩ | ⟨h1, h2⟩
  · exact .inl ⟨e, r, h1, h2, by omega⟩
  · exact .inr ⟨h1, by omega⟩
theorem SeqOk.del {room : Int} {q : List Cell} {t : Tree} {root : Int} (h : SeqOk q t root) (j : Int) (hj : 0 ≤ j ∧ j < tSize t) (hs : tSize t ≤ 1000000) :
    (∃ (e : List Cell) (r : Int), qDelM room q t root j = (q ++ e, 0, r) ∧ SeqOk (q ++ e) (sdelT t j) r ∧ (e.length : Int) ≤ 3 * (tHigh t + 1)) ∨ (qDelM room q t root j = (q, 2, 0) ∧ room < q.length + 3 * (tHigh t + 1)) := by
  have e : qDelM room q t root j = toldM q.length (sdelS room q 0 t root j).2 := if_pos (by simp [hj.1, hj.2])
  rw [e]
  have := tHigh_nn t
  rcases told_split (sdelS_good (room := room) h.rep hj.1 hj.2 hs).2 (sdelT_bal j h.bal).1 with ⟨e, r, h1, h2, _, h3⟩ | ⟨h1, h2⟩
  · exact .inl ⟨e, r, h1, h2, by omega⟩
  · exact .inr ⟨h1, by omega⟩
theorem seq_of {room : Int} {l : List Int} (hs : l.length ≤ 1000000) :
    (∃ (e : List Cell) (r : Int), qOfM room [] l = (e, 0, r) ∧ SeqOk e (allT (l.length + 1) (l.map kp)) r ∧ e.length = l.length) ∨ (qOfM room [] l = ([], 2, 0) ∧ room < l.length) := by
  have e : qOfM room [] l = toldM ([] : List Cell).length (allQ room (l.length + 1) [] 0 l) := rfl
  rw [e, allQ_eq]
  rcases told_split (allS_good (kf := kz) (room := room) (l.length + 1) [] (l.map kp) (by simp) (by simpa using hs) (fun p hp => by obtain ⟨x, _, rfl⟩ := List.mem_map.1 hp; rfl)) (allT_high _ _ (by simp)).2 with ⟨e, r, h1, h2, h3, h4⟩ | ⟨h1, h2⟩
  · rw [List.length_map] at h3 h4
    exact .inl ⟨e, r, h1, h2, by omega⟩
  · exact .inr ⟨h1, by simpa using h2⟩
theorem tVals_of (l : List Int) : tVals (allT (l.length + 1) (l.map kp)) = l := by
  unfold tVals
  rw [allT_list _ _ (by simp), List.map_map]
  exact List.map_id' l
theorem tVals_ins {t : Tree} {j x : Int} (h : 0 ≤ j ∧ j ≤ tSize t) : tVals (insT x t j) = insL (tVals t) j x := by
  have := tVals_len t
  unfold insL
  rw [if_pos (by omega)]
  unfold tVals
  rw [insT_list x h.1 h.2, List.map_append, List.map_cons, List.map_take, List.map_drop]
theorem tVals_set {t : Tree} {j x : Int} (h : 0 ≤ j ∧ j < tSize t) : tVals (setT x t j) = (tVals t).set j.toNat x := by
  unfold tVals
  rw [setT_list x h.1 h.2, List.map_set]
theorem map_erase {α β : Type} (f : α → β) : ∀ (l : List α) (i : Nat), (l.eraseIdx i).map f = (l.map f).eraseIdx i
  | [], i => by simp
  | x :: l, 0 => rfl
  | x :: l, i + 1 => by simp [map_erase f l i]
theorem tVals_del {t : Tree} {j : Int} (h : 0 ≤ j ∧ j < tSize t) : tVals (sdelT t j) = (tVals t).eraseIdx j.toNat := by
  unfold tVals
  rw [sdelT_list h.1 h.2, map_erase]
theorem ins_del {l : List Int} {j x : Int} (h : 0 ≤ j ∧ j ≤ l.length) : (insL l j x).eraseIdx j.toNat = l := by
  unfold insL
  rw [if_pos h, List.eraseIdx_append_of_length_le (by rw [List.length_take]; omega)]
  have : j.toNat - (l.take j.toNat).length = 0 := by rw [List.length_take]; omega
  rw [this, List.eraseIdx_cons_zero, List.take_append_drop]

theorem sMove_c (o : Option Nat) (room : Int) (q : List Cell) (root : Int) (t0 : Tree) (hr0 : Rep kz q t0 root) (hs : tSize t0 ≤ 1000000) (o2 : Option Nat) (room2 : Int) (q2 : List Cell) : FnG Try.prog 42 2 [.agg [.is (arV o), .int .i64 root], .is (arV o2)] [arH o room q, arH o2 room2 q2] (.tup [.agg [.is (arV o2), .int .i64 (qOfM room2 q2 (tVals t0)).2.2], .int .i64 (qOfM room2 q2 (tVals t0)).2.1]) (fun _ => [arH o room q, arH o2 room2 (qOfM room2 q2 (tVals t0)).1]) := by
  refine FnG.mk Try.func42 rfl Try.ntmps42 rfl (by kernel_rfl) ?_
  intro B F0 a w F hB hG hS
  refine wp_seq ?_
  refine region_q hS
    (cF rfl (oX 101 (.conv .t .agg)) r1 trivial
    (cF rfl (oH [.pointer none, .int .i64 0] 102) trivial trivial
    (cF rfl (oN (.ci (by kernel_rfl))) trivial trivial
    Chain.nil)))
    hB ?_
  clear hS; intro a w F hS
  replace hS := hS.sub
  obtain ⟨F, hS⟩ := hS.nm [5, 4, 2, 1] [102, 101, 2, 1, 0] rfl rfl
  try dsimp only [RS.sub, SF.sub, CF.sub, csub, Anc.sub, List.map, zCF, rCell, rPair] at hS
  generalize Act.tau a 2 = v2 at hS
  generalize Act.tau a 4 = v4 at hS
  refine then_n (wp_seq ?_)
  refine region_q hS
    (cF rfl (oM .t) r1 trivial
    (cF rfl (oL true 2 101 .is) r1 r1
    (cF rfl (o_callG1 1 (sList_c o room q root t0 hr0 hs) Try.func35 rfl (by kernel_rfl) (Args.one (.pagg .t))) r1 r1
    (cF rfl (o_callG1 2 (sOf_c o2 room2 q2 (tVals t0)) Try.func75 rfl (by kernel_rfl) (Args.two .t .t)) r2 r1
    (cF rfl (o_extract .t rfl) r1 trivial
    (cF rfl (o_extract .t rfl) r1 trivial
    (cF rfl (oA 2 102 .is (.conv .t .agg)) r2 r1
    (cF rfl (oN .t) r1 trivial
    Chain.nil))))))))
    hB ?_
  clear hS; intro a w F hS
  obtain ⟨F, hS⟩ := hS.nm [5, 4] [102, 2, 1, 0] rfl rfl
  try dsimp only [List.map, stCells, xL, xM, Nat.reduceAdd, xD, xE, xT, xU, xC, xN, zCF, ldSF, rCell, rPair] at hS
  refine then_n (wp_ret ?_)
  refine ret_G2c hG hS rfl (.cell (n := 102) (ag := true) (sz := 2) rfl .is rfl (by kernel_rfl) (by kernel_rfl) (by kernel_rfl) (.tmp rfl .nil)) (.two (.aggU rfl rfl) (.int rfl)) rfl rfl

theorem sameInts_c (x y : List Int) : FnP Try.prog 33 [.sl rInt x, .sl rInt y] (.bool (decide (x = y))) := by
  refine FnP.mk Try.func33 rfl Try.ntmps33 rfl ?_
  intro B a w F hB hfr hS
  have hxl := Sat.lenSl hS (i := 0) rfl
  refine wp_seq ?_
  refine region_q hS
    (cF rfl (oN .cb) trivial trivial
    Chain.nil)
    hB ?_
  clear hS; intro a w F hS
  obtain ⟨F, hS⟩ := hS.nm [4, 1, 0] [0] rfl rfl
  refine then_n (wp_seq (wp_seq ?_))
  refine region_q hS
    (cF rfl (oM .t) r1 trivial
    (cF rfl (o_len_sl Try.underlying61 .t) r1 trivial
    (cF rfl (oM .t) r1 trivial
    (cF rfl (o_len_sl Try.underlying61 .t) r1 trivial
    (cF rfl (o_neq .t .t) r2 trivial
    Chain.nil)))))
    hB ?_
  clear hS; intro a w F hS
  obtain ⟨F, hS⟩ := hS.nm [10, 4, 1, 0] [0] rfl rfl
  refine then_n ?_
  refine cond_b hS rfl (fun hc0 => ?_) (fun hc0 => ?_)
  ·skip
   have hg : false = decide (x = y) := by
     rw [eq_comm, decide_eq_false_iff_not]
     intro h
     subst h
     simp at hc0
   refine wp_seq ?_
   refine region_q hS
     (cF rfl (oN .cb) trivial trivial
     Chain.nil)
     hB ?_
   clear hS; intro a w F hS
   obtain ⟨F, hS⟩ := hS.nm [4, 1, 0] [0] rfl rfl
   refine then_n (wp_ret (then_r ?_))
   refine ret_P hfr hS rfl (.tmp rfl .nil) (.one (.bool hg))
  have hl : x.length = y.length := by simp at hc0; omega
  refine wp_skip (then_n (wp_seq (wp_seq ?_)))
  refine region_q hS
    (cF rfl (oM .t) r1 trivial
    (cF rfl (o_len_sl Try.underlying61 .t) r1 trivial
    (cF rfl (oM (.ci (by kernel_rfl))) trivial trivial
    Chain.nil)))
    hB ?_
  clear hS; intro a w F hS
  obtain ⟨F, hS⟩ := hS.nm [13, 12, 4, 1, 0] [0] rfl rfl
  refine then_n (wp_block ?_)
  obtain ⟨F, hS⟩ := hS.nm [13, 12, 1, 0] [0] rfl rfl
  refine loop_inv (σ := Nat) (fun s => (⟨[(0, .pv (.sl rInt x)), (1, .pv (.sl rInt y)), (12, .pv (.int .i64 x.length)), (13, .pv (.int .i64 s))], [(0, frame B)]⟩ : En)) (fun s => s ≤ x.length ∧ ∀ j, j < s → Go.Gm.nth x j = Go.Gm.nth y j) (fun s => x.length - s) 0 hS ⟨Nat.zero_le _, fun j hj => absurd hj (Nat.not_lt_zero j)⟩ ?_
  clear hS; intro i a w F hC hS
  try dsimp only at hC
  try dsimp only at hS
  obtain ⟨hi, hq⟩ := hC
  refine wp_seq ?_
  refine region_q hS
    (cF rfl (o_lss .t .t) r2 trivial
    Chain.nil)
    hB ?_
  clear hS; intro a w F hS
  obtain ⟨F, hS⟩ := hS.nm [14, 13, 12, 1, 0] [0] rfl rfl
  refine then_n (wp_seq ?_)
  refine cond_b hS rfl (fun hc1 => ?_) (fun hc1 => ?_)
  ·skip
   have hil : i < x.length := by simp at hc1; omega
   refine wp_skip (then_n (wp_seq (wp_block (wp_seq ?_))))
   refine region_q hS
     (cF rfl (oM .t) r1 trivial
     (cF rfl (oN .t) r1 trivial
     Chain.nil))
     hB ?_
   clear hS; intro a w F hS
   obtain ⟨F, hS⟩ := hS.nm [15, 14, 13, 12, 5, 1, 0] [0] rfl rfl
   refine then_n (wp_seq ?_)
   refine region_any (by kernel_rfl) hS (by kernel_rfl)
     (cF rfl (oM .t) r1 trivial
     (cF rfl (oM .t) r1 trivial
     (cF rfl (o_indexAddr_sl (sz := 1) (.mk Try.underlying61 (by kernel_rfl)) (by intro x; rfl) .t .t (by omega) (by omega)) r2 trivial
     (cF rfl (oR false 1 .t) r1 trivial
     (cF rfl (oM .t) r1 trivial
     (cF rfl (oM .t) r1 trivial
     (cF rfl (o_indexAddr_sl (sz := 1) (.mk Try.underlying61 (by kernel_rfl)) (by intro x; rfl) .t .t (by omega) (by omega)) r2 trivial
     (cF rfl (oR false 1 .t) r1 trivial
     (cF rfl (o_neq .t .t) r2 trivial
     Chain.nil)))))))))
     (by kernel_rfl) (by rw [hB]; kernel_rfl) ?_
   clear hS; intro a w F hS
   obtain ⟨F, hS⟩ := hS.nm [24, 23, 22, 21, 20, 19, 18, 17, 16, 15, 14, 13, 12, 5, 1, 0] [0] rfl rfl
   try dsimp only [List.map, xD, xE, xT, xU, ldSF] at hS
   refine then_n ?_
   refine cond_b hS rfl (fun hc2 => ?_) (fun hc2 => ?_)
   ·skip
    have hg : false = decide (x = y) := by
      rw [eq_comm, decide_eq_false_iff_not]
      intro h
      subst h
      simp at hc2
    refine wp_seq ?_
    refine region_q hS
      (cF rfl (oN .cb) trivial trivial
      Chain.nil)
      hB ?_
    clear hS; intro a w F hS
    obtain ⟨F, hS⟩ := hS.nm [24, 23, 22, 21, 20, 19, 18, 17, 16, 15, 14, 13, 12, 5, 4, 1, 0] [0] rfl rfl
    refine then_n (wp_ret (block_r (then_r (then_r (block_r (then_r ?_))))))
    refine ret_P hfr hS rfl (.tmp rfl .nil) (.one (.bool hg))
   rw [Int.toNat_natCast] at hc2
   have hqi : Go.Gm.nth x i = Go.Gm.nth y i := by simpa using hc2
   refine wp_skip (block_n (then_n ?_))
   refine region_q hS
     (cF rfl (o_add .t (.ci (by kernel_rfl))) r1 trivial
     (cF rfl (oM .t) r1 trivial
     Chain.nil))
     hB ?_
   clear hS; intro a w F hS
   obtain ⟨F, hS⟩ := hS.nm [25, 24, 23, 22, 21, 20, 19, 18, 17, 16, 15, 14, 13, 12, 5, 1, 0] [0] rfl rfl
   refine then_n ?_
   replace hS := hS.ent (i := 13) (s' := .pv (.int .i64 ((i + 1 : Nat) : Int))) rfl (.int (wrap_succ (by omega)))
   obtain ⟨F, hS⟩ := hS.nm [13, 12, 1, 0] [0] rfl rfl
   exact ⟨i + 1, F, ⟨by omega, fun j hj => by rcases Nat.lt_or_eq_of_le (Nat.le_of_lt_succ hj) with h | h; exact hq j h; rw [h]; exact hqi⟩, hS, by omega⟩
  have hg : true = decide (x = y) := by
    rw [eq_comm, decide_eq_true_eq]
    exact list_same hl fun j hj => hq j (by simp at hc1; omega)
  refine wp_exit (then_x (then_x (block_x (then_n (wp_seq ?_)))))
  refine region_q hS
    (cF rfl (oN .cb) trivial trivial
    Chain.nil)
    hB ?_
  clear hS; intro a w F hS
  obtain ⟨F, hS⟩ := hS.nm [4] [0] rfl rfl
  refine then_n (wp_ret ?_)
  refine ret_P hfr hS rfl (.tmp rfl .nil) (.one (.bool hg))

end Go.Proofs.Ytdfidiehkkbimaa
