/- EdB, EdC, EdD, EdE, in one text. -/
import Derived.Test.YtpjjmolibanakaaGreatEdZ
import Derived.Test.YtpjjmolibanakaaGreatTx7
import Derived.Test.YtpjjmolibanakaaGreatHiL
import Derived.Test.YtpjjmolibanakaaGreatTx8
import Derived.Test.YtpjjmolibanakaaGreatOr2
import Derived.Test.YtpjjmolibanakaaGreatOr4
import Derived.Test.YtpjjmolibanakaaGreatEdY
import Derived.Test.YtpjjmolibanakaaGreatHi6
namespace Go.Proofs.YtpjjmolibanakaaGreat
open Go Go.Gm
set_option linter.unusedVariables false
set_option linter.unusedSimpArgs false
set_option maxHeartbeats 4000000
set_option maxRecDepth 8000


def wSum (l : List TxD) : Nat := (l.map fun t => t.ops.length + 1).sum
theorem wSum_step {l : List TxD} {i : Nat} (hi : i < l.length) : wSum (l.take (i + 1)) = wSum (l.take i) + ((Go.Gm.nth l i).ops.length + 1) := by
  unfold wSum
  rw [take_nth hi, List.map_append, List.sum_append]; rfl
theorem wSum_le {l : List TxD} (h : SmallT l) : ∀ i, i ≤ l.length → wSum (l.take i) ≤ 1001 * i
  | 0, _ => by simp [wSum]
  | i + 1, hi => by
    have := wSum_le h i (by omega)
    have := h.at (i := i) (by omega)
    rw [wSum_step (by omega)]; omega
theorem found_getO {os : List OrdD} {k : Int} : (foundAt (fun o : OrdD => decide (o.key = k)) os < 0 → getO os k = []) ∧ (¬ foundAt (fun o : OrdD => decide (o.key = k)) os < 0 → ∃ i : Nat, foundAt (fun o : OrdD => decide (o.key = k)) os = i ∧ i < os.length ∧ getO os k = (Go.Gm.nth os i).txs) := by
  rcases foundAt_spec (fun o : OrdD => decide (o.key = k)) os with ⟨h1, h2⟩ | ⟨i, h1, h2, h3, h4⟩
  · exact ⟨fun _ => getO_no fun q hq => by simpa using h2 q hq, fun h => absurd (by rw [h1]; decide) h⟩
  · exact ⟨fun h => by rw [h1] at h; omega, fun _ => ⟨i, h1, h2, getO_at h2 (by simpa using h3) fun q hq => by simpa using h4 q hq⟩⟩
/-- Histories that edits make are small. -/
def Fit (n : Nat) (g : HistD) : Prop := (g.txs.length ≤ n ∧ ∀ t ∈ g.txs, t.ops.length ≤ 24) ∧ g.orders.length ≤ 24 * n ∧ ∀ o ∈ g.orders, o.txs.length ≤ n
theorem Fit.small {n : Nat} {g : HistD} (h : Fit n g) (hn : n ≤ 30) : Small g := by
  obtain ⟨⟨h1, h2⟩, h3, h4⟩ := h
  exact ⟨⟨by omega, fun t ht => by have := h2 t ht; omega⟩, by omega, fun o ho => by have := h4 o ho; omega⟩
theorem Fit.zero : Fit 0 zeroH := ⟨⟨by simp [zeroH], fun t ht => by cases ht⟩, by simp [zeroH], fun o ho => by cases ho⟩
theorem Fit.up {n : Nat} {g : HistD} (h : Fit n g) : Fit (n + 1) g := ⟨⟨by have := h.1.1; omega, h.1.2⟩, by have := h.2.1; omega, fun o ho => by have := h.2.2 o ho; omega⟩
theorem Fit.none {n : Nat} : Fit n zeroH := by
  induction n with
  | zero => exact Fit.zero
  | succ n ih => exact ih.up
theorem insK_mem2 {os : List OrdD} {ks : List Int} {t : TxD} {o : OrdD} (h : o ∈ insS t os ks) : o ∈ os ∨ o.txs = [] := by
  unfold insS at h
  split at h
  · have key : ∀ (ks : List Int) (os : List OrdD), o ∈ ks.foldl insK os → o ∈ os ∨ o.txs = [] := by
      intro ks
      induction ks with
      | nil => intro os h; exact .inl h
      | cons k ks ih =>
        intro os h
        rcases ih _ h with h | h
        · rcases insK_mem h with h | h
          · exact .inl h
          · exact .inr (by rw [h])
        · exact .inr h
    exact key ks os h
  · exact .inl h
theorem settle_fit {n : Nat} {t : TxD} {os : List OrdD} (ht : t.ops.length ≤ 24) (h1 : os.length ≤ 24 * n) (h2 : ∀ o ∈ os, o.txs.length ≤ n) : (settleO t os).length ≤ 24 * (n + 1) ∧ ∀ o ∈ settleO t os, o.txs.length ≤ n + 1 := by
  have hk := keysT_len t
  have hl : (insS t os (keysT t)).length ≤ os.length + (keysT t).length := by
    unfold insS
    split
    · have key : ∀ (ks : List Int) (os : List OrdD), (ks.foldl insK os).length ≤ os.length + ks.length := by
        intro ks
        induction ks with
        | nil => intro os; simp
        | cons k ks ih => intro os; have h1 := ih (insK os k); have h2 := insK_len os k; rw [List.foldl_cons, List.length_cons]; omega
      exact key _ _
    · omega
  unfold settleO
  refine ⟨Nat.le_trans (List.length_filter_le _ _) (by rw [List.length_map]; omega), fun o ho => ?_⟩
  obtain ⟨o', ho', e⟩ := List.mem_map.1 (List.mem_filter.1 ho).1
  have hlen : o'.txs.length ≤ n := by
    rcases insK_mem2 ho' with h | h
    · exact h2 o' h
    · rw [h]; simp
  rw [← e]
  unfold ordF
  show (if _ then _ else _ : List Int).length ≤ _
  split
  · unfold withO; split
    · omega
    · simp; omega
  · unfold withoutO
    exact Nat.le_trans (List.length_filter_le _ _) (by omega)
theorem turned_fit {n : Nat} {g : HistD} {key : Int} {rule : List Int → List Int × Int} (hr : ∀ l, (rule l).2 = 0 → (rule l).1.length ≤ l.length) (h : Fit n g) : Fit n (turnedH g key rule).1 := by
  unfold turnedH
  split
  · exact Fit.none
  · split
    · exact Fit.none
    · split
      · exact Fit.none
      · rename_i h1 h2 h3
        refine ⟨h.1, by show (List.set _ _ _).length ≤ _; rw [List.length_set]; exact h.2.1, fun o ho => ?_⟩
        rcases List.mem_or_eq_of_mem_set ho with h4 | h4
        · exact h.2.2 o h4
        · have hk : isK OrdD.key key g.orders = true := by simpa using h2
          have hlt := (isK_low (right_rise (Decidable.not_not.1 h1)).2 hk).1
          have := hr _ (Decidable.not_not.1 h3)
          have := h.2.2 _ (nth_mem hlt)
          rw [h4]; show (rule _).1.length ≤ n; omega
theorem Fit.doH {n : Nat} {g : HistD} {e : EdD} (h : Fit n g) (he : lightE e) : Fit (n + 1) (doH g e).1 := by
  have hset : ∀ t : TxD, t.ops.length ≤ 24 → ∀ txs : List TxD, txs.length ≤ n + 1 → (∀ t ∈ txs, t.ops.length ≤ 24) → Fit (n + 1) ⟨txs, settleO t g.orders⟩ := fun t ht txs h1 h2 => by
    obtain ⟨h3, h4⟩ := settle_fit ht h.2.1 h.2.2
    exact ⟨⟨h1, h2⟩, h3, h4⟩
  unfold Go.Proofs.YtpjjmolibanakaaGreat.doH
  split
  · unfold insertH
    split
    · exact Fit.none
    · split
      · exact Fit.none
      · refine hset _ he.1 _ ?_ fun t ht => ?_
        · have := h.1.1; rw [List.length_append, List.length_append, List.length_take, List.length_drop]; simp; omega
        · rw [List.mem_append, List.mem_append] at ht
          rcases ht with (ht | ht) | ht
          · exact h.1.2 t (List.mem_of_mem_take ht)
          · rw [List.mem_singleton.1 ht]; exact he.1
          · exact h.1.2 t (List.mem_of_mem_drop ht)
  · split
    · unfold deleteH
      split
      · exact Fit.none
      · split
        · exact Fit.none
        · split
          · exact Fit.none
          · refine hset _ (by simp [noneT]) _ ?_ fun t ht => ?_
            · have := h.1.1; rw [List.length_append, List.length_take, List.length_drop]; omega
            · rw [List.mem_append] at ht
              rcases ht with ht | ht
              · exact h.1.2 t (List.mem_of_mem_take ht)
              · exact h.1.2 t (List.mem_of_mem_drop ht)
    · split
      · unfold amendH
        split
        · exact Fit.none
        · split
          · exact Fit.none
          · refine hset _ he.1 _ ?_ fun t ht => ?_
            · have := h.1.1; rw [List.length_set]; omega
            · rcases List.mem_or_eq_of_mem_set ht with ht | ht
              · exact h.1.2 t ht
              · rw [ht]; exact he.1
      · split
        · refine (turned_fit (fun l h0 => ?_) h).up
          unfold ruleR at h0 ⊢
          split at h0
          · rename_i hp; rw [if_pos hp, hp.length_eq]; exact Nat.le_refl _
          · simp at h0
        · split
          · exact (turned_fit (fun l h0 => by show (moveO l _ _).1.length ≤ _; exact moveO_len _ _ _) h).up
          · exact Fit.none
theorem Fit.step {n : Nat} {g : HistD} {e : EdD} (h : Fit n g) (he : lightE e) : Fit (n + 1) (playStep g e) := by
  unfold playStep
  split
  · exact h.doH he
  · exact h.up
theorem Fit.play {l : List EdD} (hl : ∀ e ∈ l, lightE e) : ∀ i, i ≤ l.length → Fit i ((l.take i).foldl playStep zeroH)
  | 0, _ => Fit.zero
  | i + 1, hi => by
    rw [take_nth (by omega), List.foldl_append]
    exact (Fit.play hl i (by omega)).step (hl _ (nth_mem (by omega)))
theorem light_at {l : List EdD} {i : Nat} (h : ∀ e ∈ l, lightE e) (hi : i < l.length) : lightE (Go.Gm.nth l i) := h _ (nth_mem hi)
theorem light_bad {l : List EdD} {i : Nat} (hi : i < l.length) (h : ¬ lightE (Go.Gm.nth l i)) : false = decide (lightL l) := (decide_eq_false fun h2 => h (h2.2 _ (nth_mem hi))).symm
theorem light_all {l : List EdD} (h0 : l.length ≤ 24) (h : ∀ q, q < l.length → lightE (Go.Gm.nth l q)) : true = decide (lightL l) := (decide_eq_true ⟨h0, fun e he => by
  obtain ⟨j, hj, e2⟩ := List.getElem_of_mem he
  have := h j hj
  rwa [nth_eq hj, e2] at this⟩).symm
theorem play_yes {g : HistD} {e : EdD} (h : (doH g e).2 = 0) : playStep g e = (doH g e).1 := if_pos h
theorem play_no {g : HistD} {e : EdD} (h : ¬ (doH g e).2 = 0) : playStep g e = g := if_neg h

theorem hDo_c (g : HistD) (e : EdD) (hs : Small g) (he : lightE e) : FnP Tryz.prog 24 [.agg (rHist g), .agg (rEd e)] (.tup [.agg (rHist (doH g e).1), .int .i64 (doH g e).2]) := by
  refine FnP.mk Tryz.func24 rfl Tryz.ntmps24 rfl ?_
  intro B a w F hB hfr hS
  refine wp_seq ?_
  refine region_q hS
    (cF rfl (oX 101 (.conv .t .agg)) r1 trivial
    (cF rfl (oX 102 (.conv .t .agg)) r1 trivial
    (cF rfl (oH [.slice none 0 0, .slice none 0 0] 103) trivial trivial
    (cF rfl (oN (.ci (by kernel_rfl))) trivial trivial
    Chain.nil))))
    hB ?_
  clear hS; intro a w F hS
  replace hS := hS.sub
  obtain ⟨F, hS⟩ := hS.nm [5, 4, 3, 2] [103, 102, 101, 0] rfl rfl
  try dsimp only [RS.sub, SF.sub, CF.sub, csub, Anc.sub, List.map, zCF, rHist, rTx, rOrd, rVer, rInt, rOp, rEd] at hS
  generalize Act.tau a 2 = v2 at hS
  generalize Act.tau a 3 = v3 at hS
  generalize Act.tau a 4 = v4 at hS
  refine then_n (wp_seq (wp_seq ?_))
  refine region_q hS
    (cF rfl (oF 0 102 .is) r1 r1
    (cF rfl (oL false 1 102 .adr) r1 r1
    Chain.nil))
    hB ?_
  clear hS; intro a w F hS
  obtain ⟨F, hS⟩ := hS.nm [7, 5, 4, 3, 2] [103, 102, 101, 0] rfl rfl
  try dsimp only [List.map, xD, xE, xT, xU, ldSF, rHist, rTx, rOrd, rVer, rInt, rOp, rEd] at hS
  refine then_n (wp_block (wp_seq ?_))
  refine region_q hS
    (cF rfl (o_eql .t (.ci (by kernel_rfl))) r1 trivial
    (cF rfl (oN .t) r1 trivial
    Chain.nil))
    hB ?_
  clear hS; intro a w F hS
  obtain ⟨F, hS⟩ := hS.nm [8, 7, 5, 4, 3, 2] [103, 102, 101, 0] rfl rfl
  try dsimp only [rHist, rTx, rOrd, rVer, rInt, rOp, rEd] at hS
  refine then_n ?_
  refine cond_b hS rfl (fun hc0 => ?_) (fun hc0 => ?_)
  ·skip
   have hg : doH g e = insertH g e.t := by unfold doH; rw [if_pos (by simpa using hc0)]
   refine wp_seq ?_
   refine region_q hS
     (cF rfl (oL true 2 101 .is) r1 r1
     (cF rfl (oF 1 102 .is) r1 r1
     (cF rfl (oL true 3 102 .adr) r1 r1
     (cF rfl (oP (hInsert_c g e.t hs (by have := he.1; omega)) Tryz.func29 (Args.two (.pagg .t) (.pagg .t))) r2 trivial
     (cF rfl (o_extract .t rfl) r1 trivial
     (cF rfl (o_extract .t rfl) r1 trivial
     (cF rfl (oA 2 103 .is (.conv .t .agg)) r2 r1
     (cF rfl (oN .t) r1 trivial
     Chain.nil))))))))
     hB ?_
   clear hS; intro a w F hS
   obtain ⟨F, hS⟩ := hS.nm [5, 4] [103, 102, 101, 0] rfl rfl
   try dsimp only [List.map, stCells, xL, xM, Nat.reduceAdd, xD, xE, xT, xU, xC, xN, zCF, ldSF, rHist, rTx, rOrd, rVer, rInt, rOp, rEd] at hS
   refine then_n (wp_ret (block_r (then_r ?_)))
   refine ret_P hfr hS rfl (.cell (n := 103) (ag := true) (sz := 2) rfl .is rfl (by kernel_rfl) (by kernel_rfl) (by kernel_rfl) (.tmp rfl .nil)) (.two (by rw [hg]; first | exact .aggU rfl rfl | exact .aggLe rfl ⟨PVLe.nilSl, PVLe.nilSl, trivial⟩) (.int (by rw [hg])))
  have k0 : ¬ e.kind = 0 := by simpa using hc0
  refine wp_seq ?_
  refine region_q hS
    (cF rfl (o_eql .t (.ci (by kernel_rfl))) r1 trivial
    (cF rfl (oN .t) r1 trivial
    Chain.nil))
    hB ?_
  clear hS; intro a w F hS
  obtain ⟨F, hS⟩ := hS.nm [16, 7, 5, 4, 3, 2] [103, 102, 101, 0] rfl rfl
  try dsimp only [rHist, rTx, rOrd, rVer, rInt, rOp, rEd] at hS
  refine then_n ?_
  refine cond_b hS rfl (fun hc1 => ?_) (fun hc1 => ?_)
  ·skip
   have hg : doH g e = deleteH g e.t.id := by unfold doH; rw [if_neg k0, if_pos (by simpa using hc1)]
   refine wp_seq ?_
   refine region_q hS
     (cF rfl (oL true 2 101 .is) r1 r1
     (cF rfl (oF 1 102 .is) r1 r1
     (cF rfl (oF 0 102 .adr) r1 r1
     (cF rfl (oL false 1 102 .adr) r1 r1
     (cF rfl (oP (hDelete_c g e.t.id hs) Tryz.func30 (Args.two (.pagg .t) .t)) r2 trivial
     (cF rfl (o_extract .t rfl) r1 trivial
     (cF rfl (o_extract .t rfl) r1 trivial
     (cF rfl (oA 2 103 .is (.conv .t .agg)) r2 r1
     (cF rfl (oN .t) r1 trivial
     Chain.nil)))))))))
     hB ?_
   clear hS; intro a w F hS
   obtain ⟨F, hS⟩ := hS.nm [5, 4] [103, 102, 101, 0] rfl rfl
   try dsimp only [List.map, stCells, xL, xM, Nat.reduceAdd, xD, xE, xT, xU, xC, xN, zCF, ldSF, rHist, rTx, rOrd, rVer, rInt, rOp, rEd] at hS
   refine then_n (wp_ret (block_r (then_r ?_)))
   refine ret_P hfr hS rfl (.cell (n := 103) (ag := true) (sz := 2) rfl .is rfl (by kernel_rfl) (by kernel_rfl) (by kernel_rfl) (.tmp rfl .nil)) (.two (by rw [hg]; first | exact .aggU rfl rfl | exact .aggLe rfl ⟨PVLe.nilSl, PVLe.nilSl, trivial⟩) (.int (by rw [hg])))
  have k1 : ¬ e.kind = 1 := by simpa using hc1
  refine wp_seq ?_
  refine region_q hS
    (cF rfl (o_eql .t (.ci (by kernel_rfl))) r1 trivial
    (cF rfl (oN .t) r1 trivial
    Chain.nil))
    hB ?_
  clear hS; intro a w F hS
  obtain ⟨F, hS⟩ := hS.nm [25, 7, 5, 4, 3, 2] [103, 102, 101, 0] rfl rfl
  try dsimp only [rHist, rTx, rOrd, rVer, rInt, rOp, rEd] at hS
  refine then_n ?_
  refine cond_b hS rfl (fun hc2 => ?_) (fun hc2 => ?_)
  ·skip
   have hg : doH g e = amendH g e.t := by unfold doH; rw [if_neg k0, if_neg k1, if_pos (by simpa using hc2)]
   refine wp_seq ?_
   refine region_q hS
     (cF rfl (oL true 2 101 .is) r1 r1
     (cF rfl (oF 1 102 .is) r1 r1
     (cF rfl (oL true 3 102 .adr) r1 r1
     (cF rfl (oP (hAmend_c g e.t hs (by have := he.1; omega)) Tryz.func31 (Args.two (.pagg .t) (.pagg .t))) r2 trivial
     (cF rfl (o_extract .t rfl) r1 trivial
     (cF rfl (o_extract .t rfl) r1 trivial
     (cF rfl (oA 2 103 .is (.conv .t .agg)) r2 r1
     (cF rfl (oN .t) r1 trivial
     Chain.nil))))))))
     hB ?_
   clear hS; intro a w F hS
   obtain ⟨F, hS⟩ := hS.nm [5, 4] [103, 102, 101, 0] rfl rfl
   try dsimp only [List.map, stCells, xL, xM, Nat.reduceAdd, xD, xE, xT, xU, xC, xN, zCF, ldSF, rHist, rTx, rOrd, rVer, rInt, rOp, rEd] at hS
   refine then_n (wp_ret (block_r (then_r ?_)))
   refine ret_P hfr hS rfl (.cell (n := 103) (ag := true) (sz := 2) rfl .is rfl (by kernel_rfl) (by kernel_rfl) (by kernel_rfl) (.tmp rfl .nil)) (.two (by rw [hg]; first | exact .aggU rfl rfl | exact .aggLe rfl ⟨PVLe.nilSl, PVLe.nilSl, trivial⟩) (.int (by rw [hg])))
  have k2 : ¬ e.kind = 2 := by simpa using hc2
  refine wp_seq ?_
  refine region_q hS
    (cF rfl (o_eql .t (.ci (by kernel_rfl))) r1 trivial
    (cF rfl (oN .t) r1 trivial
    Chain.nil))
    hB ?_
  clear hS; intro a w F hS
  obtain ⟨F, hS⟩ := hS.nm [33, 7, 5, 4, 3, 2] [103, 102, 101, 0] rfl rfl
  try dsimp only [rHist, rTx, rOrd, rVer, rInt, rOp, rEd] at hS
  refine then_n ?_
  refine cond_b hS rfl (fun hc3 => ?_) (fun hc3 => ?_)
  ·skip
   have hg : doH g e = reorderH g e.o := by unfold doH; rw [if_neg k0, if_neg k1, if_neg k2, if_pos (by simpa using hc3)]
   refine wp_seq ?_
   refine region_q hS
     (cF rfl (oL true 2 101 .is) r1 r1
     (cF rfl (oF 4 102 .is) r1 r1
     (cF rfl (oL true 2 102 .adr) r1 r1
     (cF rfl (oP (hReorder_c g e.o hs (by have := he.2; omega)) Tryz.func32 (Args.two (.pagg .t) (.pagg .t))) r2 trivial
     (cF rfl (o_extract .t rfl) r1 trivial
     (cF rfl (o_extract .t rfl) r1 trivial
     (cF rfl (oA 2 103 .is (.conv .t .agg)) r2 r1
     (cF rfl (oN .t) r1 trivial
     Chain.nil))))))))
     hB ?_
   clear hS; intro a w F hS
   obtain ⟨F, hS⟩ := hS.nm [5, 4] [103, 102, 101, 0] rfl rfl
   try dsimp only [List.map, stCells, xL, xM, Nat.reduceAdd, xD, xE, xT, xU, xC, xN, zCF, ldSF, rHist, rTx, rOrd, rVer, rInt, rOp, rEd] at hS
   refine then_n (wp_ret (block_r (then_r ?_)))
   refine ret_P hfr hS rfl (.cell (n := 103) (ag := true) (sz := 2) rfl .is rfl (by kernel_rfl) (by kernel_rfl) (by kernel_rfl) (.tmp rfl .nil)) (.two (by rw [hg]; first | exact .aggU rfl rfl | exact .aggLe rfl ⟨PVLe.nilSl, PVLe.nilSl, trivial⟩) (.int (by rw [hg])))
  have k3 : ¬ e.kind = 3 := by simpa using hc3
  refine wp_seq ?_
  refine region_q hS
    (cF rfl (o_eql .t (.ci (by kernel_rfl))) r1 trivial
    (cF rfl (oN .t) r1 trivial
    Chain.nil))
    hB ?_
  clear hS; intro a w F hS
  obtain ⟨F, hS⟩ := hS.nm [41, 5, 4, 3, 2] [103, 102, 101, 0] rfl rfl
  try dsimp only [rHist, rTx, rOrd, rVer, rInt, rOp, rEd] at hS
  refine then_n ?_
  refine cond_b hS rfl (fun hc4 => ?_) (fun hc4 => ?_)
  ·skip
   have hg : doH g e = moveH g e.o.key e.t.id e.place := by unfold doH; rw [if_neg k0, if_neg k1, if_neg k2, if_neg k3, if_pos (by simpa using hc4)]
   refine wp_seq ?_
   refine region_q hS
     (cF rfl (oL true 2 101 .is) r1 r1
     (cF rfl (oF 4 102 .is) r1 r1
     (cF rfl (oF 0 102 .adr) r1 r1
     (cF rfl (oL false 1 102 .adr) r1 r1
     (cF rfl (oF 1 102 .is) r1 r1
     (cF rfl (oF 0 102 .adr) r1 r1
     (cF rfl (oL false 1 102 .adr) r1 r1
     (cF rfl (oF 6 102 .is) r1 r1
     (cF rfl (oL false 1 102 .adr) r1 r1
     (cF rfl (oP (hMove_c g e.o.key e.t.id e.place hs) Tryz.func33 (Args.four (.pagg .t) .t .t .t)) r4 trivial
     (cF rfl (o_extract .t rfl) r1 trivial
     (cF rfl (o_extract .t rfl) r1 trivial
     (cF rfl (oA 2 103 .is (.conv .t .agg)) r2 r1
     (cF rfl (oN .t) r1 trivial
     Chain.nil))))))))))))))
     hB ?_
   clear hS; intro a w F hS
   obtain ⟨F, hS⟩ := hS.nm [5, 4] [103, 102, 101, 0] rfl rfl
   try dsimp only [List.map, stCells, xL, xM, Nat.reduceAdd, xD, xE, xT, xU, xC, xN, zCF, ldSF, rHist, rTx, rOrd, rVer, rInt, rOp, rEd] at hS
   refine then_n (wp_ret (block_r (then_r ?_)))
   refine ret_P hfr hS rfl (.cell (n := 103) (ag := true) (sz := 2) rfl .is rfl (by kernel_rfl) (by kernel_rfl) (by kernel_rfl) (.tmp rfl .nil)) (.two (by rw [hg]; first | exact .aggU rfl rfl | exact .aggLe rfl ⟨PVLe.nilSl, PVLe.nilSl, trivial⟩) (.int (by rw [hg])))
  have hg : doH g e = (zeroH, 5) := by unfold doH; rw [if_neg k0, if_neg k1, if_neg k2, if_neg k3, if_neg (by simpa using hc4)]
  refine wp_skip (block_n (then_n (wp_seq ?_)))
  refine region_q hS
    (cF rfl (oB [] [.slice none 0 0, .slice none 0 0] [(0, 1), (1, 1)] .nil) trivial trivial
    (cF rfl (oA 2 103 .is .t) r2 r1
    (cF rfl (oN (.ci (by kernel_rfl))) trivial trivial
    Chain.nil)))
    hB ?_
  clear hS; intro a w F hS
  obtain ⟨F, hS⟩ := hS.nm [5, 4] [103, 102, 101, 0] rfl rfl
  try dsimp only [List.map, stCells, xL, xM, Nat.reduceAdd, xD, xE, xT, xU, xC, xN, zCF, rHist, rTx, rOrd, rVer, rInt, rOp, rEd] at hS
  refine then_n (wp_ret ?_)
  refine ret_P hfr hS rfl (.cell (n := 103) (ag := true) (sz := 2) rfl .is rfl (by kernel_rfl) (by kernel_rfl) (by kernel_rfl) (.tmp rfl .nil)) (.two (by rw [hg]; first | exact .aggU rfl rfl | exact .aggLe rfl ⟨PVLe.nilSl, PVLe.nilSl, trivial⟩) (.int (by rw [hg])))

theorem refDo_c (g : HistD) (e : EdD) (hs : Small g) (he : lightE e) : FnP Tryz.prog 25 [.agg (rHist g), .agg (rEd e)] (.tup [.agg (rHist (doH g e).1), .int .i64 (doH g e).2]) := by
  refine FnP.mk Tryz.func25 rfl Tryz.ntmps25 rfl ?_
  intro B a w F hB hfr hS
  refine wp_seq ?_
  refine region_q hS
    (cF rfl (oX 101 (.conv .t .agg)) r1 trivial
    (cF rfl (oX 102 (.conv .t .agg)) r1 trivial
    (cF rfl (oH [.slice none 0 0, .slice none 0 0] 103) trivial trivial
    (cF rfl (oN (.ci (by kernel_rfl))) trivial trivial
    Chain.nil))))
    hB ?_
  clear hS; intro a w F hS
  replace hS := hS.sub
  obtain ⟨F, hS⟩ := hS.nm [5, 4, 3, 2] [103, 102, 101, 0] rfl rfl
  try dsimp only [RS.sub, SF.sub, CF.sub, csub, Anc.sub, List.map, zCF, rHist, rTx, rOrd, rVer, rInt, rOp, rEd] at hS
  generalize Act.tau a 2 = v2 at hS
  generalize Act.tau a 3 = v3 at hS
  generalize Act.tau a 4 = v4 at hS
  refine then_n (wp_seq (wp_seq ?_))
  refine region_q hS
    (cF rfl (oF 0 102 .is) r1 r1
    (cF rfl (oL false 1 102 .adr) r1 r1
    Chain.nil))
    hB ?_
  clear hS; intro a w F hS
  obtain ⟨F, hS⟩ := hS.nm [7, 5, 4, 3, 2] [103, 102, 101, 0] rfl rfl
  try dsimp only [List.map, xD, xE, xT, xU, ldSF, rHist, rTx, rOrd, rVer, rInt, rOp, rEd] at hS
  refine then_n (wp_block (wp_seq ?_))
  refine region_q hS
    (cF rfl (o_eql .t (.ci (by kernel_rfl))) r1 trivial
    (cF rfl (oN .t) r1 trivial
    Chain.nil))
    hB ?_
  clear hS; intro a w F hS
  obtain ⟨F, hS⟩ := hS.nm [8, 7, 5, 4, 3, 2] [103, 102, 101, 0] rfl rfl
  try dsimp only [rHist, rTx, rOrd, rVer, rInt, rOp, rEd] at hS
  refine then_n ?_
  refine cond_b hS rfl (fun hc0 => ?_) (fun hc0 => ?_)
  ·skip
   have hg : doH g e = insertH g e.t := by unfold doH; rw [if_pos (by simpa using hc0)]
   refine wp_seq ?_
   refine region_q hS
     (cF rfl (oL true 2 101 .is) r1 r1
     (cF rfl (oF 1 102 .is) r1 r1
     (cF rfl (oL true 3 102 .adr) r1 r1
     (cF rfl (oP (refInsert_c g e.t hs (by have := he.1; omega)) Tryz.func59 (Args.two (.pagg .t) (.pagg .t))) r2 trivial
     (cF rfl (o_extract .t rfl) r1 trivial
     (cF rfl (o_extract .t rfl) r1 trivial
     (cF rfl (oA 2 103 .is (.conv .t .agg)) r2 r1
     (cF rfl (oN .t) r1 trivial
     Chain.nil))))))))
     hB ?_
   clear hS; intro a w F hS
   obtain ⟨F, hS⟩ := hS.nm [5, 4] [103, 102, 101, 0] rfl rfl
   try dsimp only [List.map, stCells, xL, xM, Nat.reduceAdd, xD, xE, xT, xU, xC, xN, zCF, ldSF, rHist, rTx, rOrd, rVer, rInt, rOp, rEd] at hS
   refine then_n (wp_ret (block_r (then_r ?_)))
   refine ret_P hfr hS rfl (.cell (n := 103) (ag := true) (sz := 2) rfl .is rfl (by kernel_rfl) (by kernel_rfl) (by kernel_rfl) (.tmp rfl .nil)) (.two (by rw [hg]; first | exact .aggU rfl rfl | exact .aggLe rfl ⟨PVLe.nilSl, PVLe.nilSl, trivial⟩) (.int (by rw [hg])))
  have k0 : ¬ e.kind = 0 := by simpa using hc0
  refine wp_seq ?_
  refine region_q hS
    (cF rfl (o_eql .t (.ci (by kernel_rfl))) r1 trivial
    (cF rfl (oN .t) r1 trivial
    Chain.nil))
    hB ?_
  clear hS; intro a w F hS
  obtain ⟨F, hS⟩ := hS.nm [16, 7, 5, 4, 3, 2] [103, 102, 101, 0] rfl rfl
  try dsimp only [rHist, rTx, rOrd, rVer, rInt, rOp, rEd] at hS
  refine then_n ?_
  refine cond_b hS rfl (fun hc1 => ?_) (fun hc1 => ?_)
  ·skip
   have hg : doH g e = deleteH g e.t.id := by unfold doH; rw [if_neg k0, if_pos (by simpa using hc1)]
   refine wp_seq ?_
   refine region_q hS
     (cF rfl (oL true 2 101 .is) r1 r1
     (cF rfl (oF 1 102 .is) r1 r1
     (cF rfl (oF 0 102 .adr) r1 r1
     (cF rfl (oL false 1 102 .adr) r1 r1
     (cF rfl (oP (refDelete_c g e.t.id hs) Tryz.func60 (Args.two (.pagg .t) .t)) r2 trivial
     (cF rfl (o_extract .t rfl) r1 trivial
     (cF rfl (o_extract .t rfl) r1 trivial
     (cF rfl (oA 2 103 .is (.conv .t .agg)) r2 r1
     (cF rfl (oN .t) r1 trivial
     Chain.nil)))))))))
     hB ?_
   clear hS; intro a w F hS
   obtain ⟨F, hS⟩ := hS.nm [5, 4] [103, 102, 101, 0] rfl rfl
   try dsimp only [List.map, stCells, xL, xM, Nat.reduceAdd, xD, xE, xT, xU, xC, xN, zCF, ldSF, rHist, rTx, rOrd, rVer, rInt, rOp, rEd] at hS
   refine then_n (wp_ret (block_r (then_r ?_)))
   refine ret_P hfr hS rfl (.cell (n := 103) (ag := true) (sz := 2) rfl .is rfl (by kernel_rfl) (by kernel_rfl) (by kernel_rfl) (.tmp rfl .nil)) (.two (by rw [hg]; first | exact .aggU rfl rfl | exact .aggLe rfl ⟨PVLe.nilSl, PVLe.nilSl, trivial⟩) (.int (by rw [hg])))
  have k1 : ¬ e.kind = 1 := by simpa using hc1
  refine wp_seq ?_
  refine region_q hS
    (cF rfl (o_eql .t (.ci (by kernel_rfl))) r1 trivial
    (cF rfl (oN .t) r1 trivial
    Chain.nil))
    hB ?_
  clear hS; intro a w F hS
  obtain ⟨F, hS⟩ := hS.nm [25, 7, 5, 4, 3, 2] [103, 102, 101, 0] rfl rfl
  try dsimp only [rHist, rTx, rOrd, rVer, rInt, rOp, rEd] at hS
  refine then_n ?_
  refine cond_b hS rfl (fun hc2 => ?_) (fun hc2 => ?_)
  ·skip
   have hg : doH g e = amendH g e.t := by unfold doH; rw [if_neg k0, if_neg k1, if_pos (by simpa using hc2)]
   refine wp_seq ?_
   refine region_q hS
     (cF rfl (oL true 2 101 .is) r1 r1
     (cF rfl (oF 1 102 .is) r1 r1
     (cF rfl (oL true 3 102 .adr) r1 r1
     (cF rfl (oP (refAmend_c g e.t hs (by have := he.1; omega)) Tryz.func61 (Args.two (.pagg .t) (.pagg .t))) r2 trivial
     (cF rfl (o_extract .t rfl) r1 trivial
     (cF rfl (o_extract .t rfl) r1 trivial
     (cF rfl (oA 2 103 .is (.conv .t .agg)) r2 r1
     (cF rfl (oN .t) r1 trivial
     Chain.nil))))))))
     hB ?_
   clear hS; intro a w F hS
   obtain ⟨F, hS⟩ := hS.nm [5, 4] [103, 102, 101, 0] rfl rfl
   try dsimp only [List.map, stCells, xL, xM, Nat.reduceAdd, xD, xE, xT, xU, xC, xN, zCF, ldSF, rHist, rTx, rOrd, rVer, rInt, rOp, rEd] at hS
   refine then_n (wp_ret (block_r (then_r ?_)))
   refine ret_P hfr hS rfl (.cell (n := 103) (ag := true) (sz := 2) rfl .is rfl (by kernel_rfl) (by kernel_rfl) (by kernel_rfl) (.tmp rfl .nil)) (.two (by rw [hg]; first | exact .aggU rfl rfl | exact .aggLe rfl ⟨PVLe.nilSl, PVLe.nilSl, trivial⟩) (.int (by rw [hg])))
  have k2 : ¬ e.kind = 2 := by simpa using hc2
  refine wp_seq ?_
  refine region_q hS
    (cF rfl (o_eql .t (.ci (by kernel_rfl))) r1 trivial
    (cF rfl (oN .t) r1 trivial
    Chain.nil))
    hB ?_
  clear hS; intro a w F hS
  obtain ⟨F, hS⟩ := hS.nm [33, 7, 5, 4, 3, 2] [103, 102, 101, 0] rfl rfl
  try dsimp only [rHist, rTx, rOrd, rVer, rInt, rOp, rEd] at hS
  refine then_n ?_
  refine cond_b hS rfl (fun hc3 => ?_) (fun hc3 => ?_)
  ·skip
   have hg : doH g e = reorderH g e.o := by unfold doH; rw [if_neg k0, if_neg k1, if_neg k2, if_pos (by simpa using hc3)]
   refine wp_seq ?_
   refine region_q hS
     (cF rfl (oL true 2 101 .is) r1 r1
     (cF rfl (oF 4 102 .is) r1 r1
     (cF rfl (oL true 2 102 .adr) r1 r1
     (cF rfl (oP (refReorder_c g e.o hs (by have := he.2; omega)) Tryz.func62 (Args.two (.pagg .t) (.pagg .t))) r2 trivial
     (cF rfl (o_extract .t rfl) r1 trivial
     (cF rfl (o_extract .t rfl) r1 trivial
     (cF rfl (oA 2 103 .is (.conv .t .agg)) r2 r1
     (cF rfl (oN .t) r1 trivial
     Chain.nil))))))))
     hB ?_
   clear hS; intro a w F hS
   obtain ⟨F, hS⟩ := hS.nm [5, 4] [103, 102, 101, 0] rfl rfl
   try dsimp only [List.map, stCells, xL, xM, Nat.reduceAdd, xD, xE, xT, xU, xC, xN, zCF, ldSF, rHist, rTx, rOrd, rVer, rInt, rOp, rEd] at hS
   refine then_n (wp_ret (block_r (then_r ?_)))
   refine ret_P hfr hS rfl (.cell (n := 103) (ag := true) (sz := 2) rfl .is rfl (by kernel_rfl) (by kernel_rfl) (by kernel_rfl) (.tmp rfl .nil)) (.two (by rw [hg]; first | exact .aggU rfl rfl | exact .aggLe rfl ⟨PVLe.nilSl, PVLe.nilSl, trivial⟩) (.int (by rw [hg])))
  have k3 : ¬ e.kind = 3 := by simpa using hc3
  refine wp_seq ?_
  refine region_q hS
    (cF rfl (o_eql .t (.ci (by kernel_rfl))) r1 trivial
    (cF rfl (oN .t) r1 trivial
    Chain.nil))
    hB ?_
  clear hS; intro a w F hS
  obtain ⟨F, hS⟩ := hS.nm [41, 5, 4, 3, 2] [103, 102, 101, 0] rfl rfl
  try dsimp only [rHist, rTx, rOrd, rVer, rInt, rOp, rEd] at hS
  refine then_n ?_
  refine cond_b hS rfl (fun hc4 => ?_) (fun hc4 => ?_)
  ·skip
   have hg : doH g e = moveH g e.o.key e.t.id e.place := by unfold doH; rw [if_neg k0, if_neg k1, if_neg k2, if_neg k3, if_pos (by simpa using hc4)]
   refine wp_seq ?_
   refine region_q hS
     (cF rfl (oL true 2 101 .is) r1 r1
     (cF rfl (oF 4 102 .is) r1 r1
     (cF rfl (oF 0 102 .adr) r1 r1
     (cF rfl (oL false 1 102 .adr) r1 r1
     (cF rfl (oF 1 102 .is) r1 r1
     (cF rfl (oF 0 102 .adr) r1 r1
     (cF rfl (oL false 1 102 .adr) r1 r1
     (cF rfl (oF 6 102 .is) r1 r1
     (cF rfl (oL false 1 102 .adr) r1 r1
     (cF rfl (oP (refMove_c g e.o.key e.t.id e.place hs) Tryz.func63 (Args.four (.pagg .t) .t .t .t)) r4 trivial
     (cF rfl (o_extract .t rfl) r1 trivial
     (cF rfl (o_extract .t rfl) r1 trivial
     (cF rfl (oA 2 103 .is (.conv .t .agg)) r2 r1
     (cF rfl (oN .t) r1 trivial
     Chain.nil))))))))))))))
     hB ?_
   clear hS; intro a w F hS
   obtain ⟨F, hS⟩ := hS.nm [5, 4] [103, 102, 101, 0] rfl rfl
   try dsimp only [List.map, stCells, xL, xM, Nat.reduceAdd, xD, xE, xT, xU, xC, xN, zCF, ldSF, rHist, rTx, rOrd, rVer, rInt, rOp, rEd] at hS
   refine then_n (wp_ret (block_r (then_r ?_)))
   refine ret_P hfr hS rfl (.cell (n := 103) (ag := true) (sz := 2) rfl .is rfl (by kernel_rfl) (by kernel_rfl) (by kernel_rfl) (.tmp rfl .nil)) (.two (by rw [hg]; first | exact .aggU rfl rfl | exact .aggLe rfl ⟨PVLe.nilSl, PVLe.nilSl, trivial⟩) (.int (by rw [hg])))
  have hg : doH g e = (zeroH, 5) := by unfold doH; rw [if_neg k0, if_neg k1, if_neg k2, if_neg k3, if_neg (by simpa using hc4)]
  refine wp_skip (block_n (then_n (wp_seq ?_)))
  refine region_q hS
    (cF rfl (oB [] [.slice none 0 0, .slice none 0 0] [(0, 1), (1, 1)] .nil) trivial trivial
    (cF rfl (oA 2 103 .is .t) r2 r1
    (cF rfl (oN (.ci (by kernel_rfl))) trivial trivial
    Chain.nil)))
    hB ?_
  clear hS; intro a w F hS
  obtain ⟨F, hS⟩ := hS.nm [5, 4] [103, 102, 101, 0] rfl rfl
  try dsimp only [List.map, stCells, xL, xM, Nat.reduceAdd, xD, xE, xT, xU, xC, xN, zCF, rHist, rTx, rOrd, rVer, rInt, rOp, rEd] at hS
  refine then_n (wp_ret ?_)
  refine ret_P hfr hS rfl (.cell (n := 103) (ag := true) (sz := 2) rfl .is rfl (by kernel_rfl) (by kernel_rfl) (by kernel_rfl) (.tmp rfl .nil)) (.two (by rw [hg]; first | exact .aggU rfl rfl | exact .aggLe rfl ⟨PVLe.nilSl, PVLe.nilSl, trivial⟩) (.int (by rw [hg])))

theorem lightE_c (e : EdD) : FnP Tryz.prog 26 [.agg (rEd e)] (.bool (decide (lightE e))) := by
  refine FnP.mk Tryz.func26 rfl Tryz.ntmps26 rfl ?_
  intro B a w F hB hfr hS
  refine wp_seq ?_
  refine region_q hS
    (cF rfl (oX 101 (.conv .t .agg)) r1 trivial
    (cF rfl (oN .cb) trivial trivial
    Chain.nil))
    hB ?_
  clear hS; intro a w F hS
  replace hS := hS.sub
  obtain ⟨F, hS⟩ := hS.nm [2, 1] [101, 0] rfl rfl
  try dsimp only [RS.sub, SF.sub, CF.sub, csub, Anc.sub, List.map, zCF, rHist, rTx, rOrd, rVer, rInt, rOp, rEd] at hS
  generalize Act.tau a 1 = v1 at hS
  refine then_n (wp_seq ?_)
  refine region_q hS
    (cF rfl (oF 1 101 .is) r1 r1
    (cF rfl (oF 2 101 .adr) r1 r1
    (cF rfl (oL false 1 101 .adr) r1 r1
    (cF rfl (o_len_sl Tryz.underlying30 .t) r1 trivial
    (cF rfl (o_leq .t (.ci (by kernel_rfl))) r1 trivial
    (cF rfl (oM .t) r1 trivial
    (Chain.cons (Cert.cond rfl rfl (fun h => o_fieldAddr (off := 4) 101 .is (by kernel_rfl) (by rfl))) r2 r1
    (Chain.cons (Cert.cond rfl rfl (fun h => o_fieldAddr (off := 1) 101 (.w h .adr) (by kernel_rfl) (by rfl))) r2 r1
    (Chain.cons (Cert.cond rfl rfl (fun h => o_load (ag := false) (sz := 1) 101 (.w h .adr) (by kernel_rfl) (by kernel_rfl) (by kernel_rfl) (by rfl))) r2 r1
    (Chain.cons (Cert.cond rfl rfl (fun h => o_len_sl Tryz.underlying37 (.w h))) r2 trivial
    (Chain.cons (Cert.cond rfl rfl (fun h => o_leq (.w h) (.ci (by kernel_rfl)))) r2 trivial
    (cF rfl (o_and2 .t .t) r2 trivial
    (cF rfl (oN .t) r1 trivial
    Chain.nil)))))))))))))
    hB ?_
  clear hS; intro a w F hS
  obtain ⟨F, hS⟩ := hS.nm [2] [101, 0] rfl rfl
  try dsimp only [List.map, xD, xE, xT, xU, ldSF, rHist, rTx, rOrd, rVer, rInt, rOp, rEd] at hS
  refine then_n (wp_ret ?_)
  refine ret_P hfr hS rfl (.tmp rfl .nil) (.one (.bool (by rw [Bool.eq_iff_iff, decide_eq_true_eq, Bool.and_eq_true, decide_eq_true_eq, decide_eq_true_eq]; unfold lightE; omega)))

theorem lightL_c (l : List EdD) : FnP Tryz.prog 23 [.sl rEd l] (.bool (decide (lightL l))) := by
  refine FnP.mk Tryz.func23 rfl Tryz.ntmps23 rfl ?_
  intro B a w F hB hfr hS
  have hll := Sat.lenSl hS (i := 0) rfl
  refine wp_seq ?_
  refine region_q hS
    (cF rfl (oN .cb) trivial trivial
    Chain.nil)
    hB ?_
  clear hS; intro a w F hS
  obtain ⟨F, hS⟩ := hS.nm [2, 0] [0] rfl rfl
  try dsimp only [rHist, rTx, rOrd, rVer, rInt, rOp, rEd] at hS
  refine then_n (wp_seq (wp_seq ?_))
  refine region_q hS
    (cF rfl (oM .t) r1 trivial
    (cF rfl (o_len_sl Tryz.underlying43 .t) r1 trivial
    (cF rfl (o_gtr .t (.ci (by kernel_rfl))) r1 trivial
    Chain.nil)))
    hB ?_
  clear hS; intro a w F hS
  obtain ⟨F, hS⟩ := hS.nm [7, 2, 0] [0] rfl rfl
  try dsimp only [rHist, rTx, rOrd, rVer, rInt, rOp, rEd] at hS
  refine then_n ?_
  refine cond_b hS rfl (fun hc0 => ?_) (fun hc0 => ?_)
  ·skip
   have hg : false = decide (lightL l) := (decide_eq_false fun h9 => by have := h9.1; simp at hc0; omega).symm
   refine wp_seq ?_
   refine region_q hS
     (cF rfl (oN .cb) trivial trivial
     Chain.nil)
     hB ?_
   clear hS; intro a w F hS
   obtain ⟨F, hS⟩ := hS.nm [2, 0] [0] rfl rfl
   try dsimp only [rHist, rTx, rOrd, rVer, rInt, rOp, rEd] at hS
   refine then_n (wp_ret (then_r ?_))
   refine ret_P hfr hS rfl (.tmp rfl .nil) (.one (.bool hg))
  have hl0 : l.length ≤ 24 := by simp at hc0; omega
  refine wp_skip (then_n (wp_seq (wp_seq ?_)))
  refine region_q hS
    (cF rfl (oM .t) r1 trivial
    (cF rfl (o_len_sl Tryz.underlying43 .t) r1 trivial
    (cF rfl (oM (.ci (by kernel_rfl))) trivial trivial
    Chain.nil)))
    hB ?_
  clear hS; intro a w F hS
  obtain ⟨F, hS⟩ := hS.nm [10, 9, 8, 2] [0] rfl rfl
  try dsimp only [rHist, rTx, rOrd, rVer, rInt, rOp, rEd] at hS
  refine then_n (wp_block ?_)
  refine loop_keep (σ := (Nat)) [2, 8, 9] [0] (fun s => [(10, .pv (.int .i64 (s : Int)))]) (fun s => []) (fun s => s ≤ l.length ∧ (∀ q, q < s → lightE (Go.Gm.nth l q))) (fun s => l.length - s) (0) hS ⟨rfl, rfl, rfl, rfl, trivial⟩ ⟨rfl, trivial⟩ ⟨Nat.zero_le _, fun q hq => absurd hq (Nat.not_lt_zero q)⟩ ?_
  clear hS; intro i a w F hC hS
  try dsimp only at hC
  obtain ⟨F, hS⟩ := hS.nm [10, 9, 8, 2] [0] rfl rfl
  try dsimp only at hS
  obtain ⟨hi, hq⟩ := hC
  refine wp_seq ?_
  refine region_q hS
    (cF rfl (o_lss .t .t) r2 trivial
    Chain.nil)
    hB ?_
  clear hS; intro a w F hS
  obtain ⟨F, hS⟩ := hS.nm [11, 10, 9, 8, 2] [0] rfl rfl
  try dsimp only [rHist, rTx, rOrd, rVer, rInt, rOp, rEd] at hS
  refine then_n (wp_seq ?_)
  refine cond_b hS rfl (fun hc1 => ?_) (fun hc1 => ?_)
  ·skip
   have hil : i < l.length := by simp at hc1; omega
   refine wp_skip (then_n (wp_seq (wp_block (wp_seq ?_))))
   refine region_q hS
     (cF rfl (o_indexAddr_sl (sz := 7) (.mk Tryz.underlying43 (by kernel_rfl)) (by intro x; rfl) .t .t (by omega) (by omega)) r2 trivial
     (cF rfl (oR true 7 .t) r1 trivial
     (cF rfl (oH [.int .i64 0, .int .i64 0, .bool false, .slice none 0 0, .int .i64 0, .slice none 0 0, .int .i64 0] 101) trivial trivial
     (cF rfl (oA 7 101 .same .t) r2 r1
     Chain.nil))))
     hB ?_
   clear hS; intro a w F hS
   replace hS := hS.sub
   obtain ⟨F, hS⟩ := hS.nm [13, 12, 11, 10, 9, 8, 4, 2] [101, 0] rfl rfl
   try dsimp only [RS.sub, SF.sub, CF.sub, csub, Anc.sub, List.map, stCells, xL, xM, Nat.reduceAdd, xD, xE, xT, xU, xC, xN, zCF, ldSF, rHist, rTx, rOrd, rVer, rInt, rOp, rEd] at hS
   generalize Act.tau a 4 = v4 at hS
   try simp only [Int.toNat_natCast] at hS
   refine then_n (wp_seq ?_)
   refine region_q hS
     (cF rfl (oL true 7 101 .is) r1 r1
     (cF rfl (oP (lightE_c (Go.Gm.nth l i)) Tryz.func26 (Args.one (.pagg .t))) r1 trivial
     (cF rfl (o_not .t) r1 trivial
     Chain.nil)))
     hB ?_
   clear hS; intro a w F hS
   obtain ⟨F, hS⟩ := hS.nm [16, 15, 14, 13, 12, 11, 10, 9, 8, 4, 2] [101, 0] rfl rfl
   try dsimp only [List.map, xD, xE, xT, xU, ldSF, rHist, rTx, rOrd, rVer, rInt, rOp, rEd] at hS
   refine then_n ?_
   refine cond_b hS rfl (fun hc2 => ?_) (fun hc2 => ?_)
   ·skip
    have hg := light_bad hil (by simpa using hc2)
    refine wp_seq ?_
    refine region_q hS
      (cF rfl (oN .cb) trivial trivial
      Chain.nil)
      hB ?_
    clear hS; intro a w F hS
    obtain ⟨F, hS⟩ := hS.nm [16, 15, 14, 13, 12, 11, 10, 9, 8, 4, 2] [101, 0] rfl rfl
    try dsimp only [rHist, rTx, rOrd, rVer, rInt, rOp, rEd] at hS
    refine then_n (wp_ret (block_r (then_r (then_r (block_r (then_r ?_))))))
    refine ret_P hfr hS rfl (.tmp rfl .nil) (.one (.bool hg))
   have hne : lightE (Go.Gm.nth l i) := by simpa using hc2
   refine wp_skip (block_n (then_n ?_))
   refine region_q hS
     (cF rfl (o_add .t (.ci (by kernel_rfl))) r1 trivial
     (cF rfl (oM .t) r1 trivial
     Chain.nil))
     hB ?_
   clear hS; intro a w F hS
   obtain ⟨F, hS⟩ := hS.nm [17, 16, 15, 14, 13, 12, 11, 10, 9, 8, 4, 2] [101, 0] rfl rfl
   try dsimp only [rHist, rTx, rOrd, rVer, rInt, rOp, rEd] at hS
   refine then_n ?_
   replace hS := hS.ent (i := 10) (s' := .pv (.int .i64 ((i + 1 : Nat) : Int))) rfl (.int (wrap_succ (by omega)))
   obtain ⟨F, hS⟩ := hS.nm [9, 8, 2, 10] [0] rfl rfl
   exact ⟨(i + 1), F, ⟨by omega, (fun q h9 => by rcases Nat.lt_or_eq_of_le (Nat.le_of_lt_succ h9) with h8 | h8; exact hq q h8; rw [h8]; exact hne)⟩, hS, by omega⟩
  have hil : i = l.length := by simp at hc1; omega
  have hg := light_all hl0 (by rw [← hil]; exact hq)
  refine wp_exit (then_x (then_x (block_x (then_n (wp_seq ?_)))))
  refine region_q hS
    (cF rfl (oN .cb) trivial trivial
    Chain.nil)
    hB ?_
  clear hS; intro a w F hS
  obtain ⟨F, hS⟩ := hS.nm [2] [0] rfl rfl
  try dsimp only [rHist, rTx, rOrd, rVer, rInt, rOp, rEd] at hS
  refine then_n (wp_ret ?_)
  refine ret_P hfr hS rfl (.tmp rfl .nil) (.one (.bool hg))

theorem play_c (l : List EdD) (hl : lightL l) : FnP Tryz.prog 27 [.sl rEd l] (.agg (rHist (playH l))) := by
  refine FnP.mk Tryz.func27 rfl Tryz.ntmps27 rfl ?_
  intro B a w F hB hfr hS
  have hll := hl.1
  refine wp_seq ?_
  refine region_q hS
    (cF rfl (oH [.slice none 0 0, .slice none 0 0] 101) trivial trivial
    Chain.nil)
    hB ?_
  clear hS; intro a w F hS
  replace hS := hS.sub
  obtain ⟨F, hS⟩ := hS.nm [2, 0] [101, 0] rfl rfl
  try dsimp only [RS.sub, SF.sub, CF.sub, csub, Anc.sub, List.map, zCF, rHist, rTx, rOrd, rVer, rInt, rOp, rEd] at hS
  generalize Act.tau a 2 = v2 at hS
  refine then_n (wp_seq ?_)
  refine region_q hS
    (cF rfl (oH [.slice none 0 0, .slice none 0 0] 102) trivial trivial
    Chain.nil)
    hB ?_
  clear hS; intro a w F hS
  replace hS := hS.sub
  obtain ⟨F, hS⟩ := hS.nm [3, 2, 0] [102, 101, 0] rfl rfl
  try dsimp only [RS.sub, SF.sub, CF.sub, csub, Anc.sub, List.map, zCF, rHist, rTx, rOrd, rVer, rInt, rOp, rEd] at hS
  generalize Act.tau a 3 = v3 at hS
  refine then_n (wp_seq (wp_seq ?_))
  refine region_q hS
    (cF rfl (oM .t) r1 trivial
    (cF rfl (o_len_sl Tryz.underlying43 .t) r1 trivial
    (cF rfl (oM (.ci (by kernel_rfl))) trivial trivial
    Chain.nil)))
    hB ?_
  clear hS; intro a w F hS
  obtain ⟨F, hS⟩ := hS.nm [10, 9, 8, 3, 2] [102, 101, 0] rfl rfl
  try dsimp only [rHist, rTx, rOrd, rVer, rInt, rOp, rEd] at hS
  refine then_n (wp_block ?_)
  replace hS := hS.turn 102 rfl (r' := .pt (.val v3) 25 [.pv (.sl rTx ([] : List TxD)), .pv (.sl rOrd ([] : List OrdD))]) (ptLe rfl rfl ⟨PVLe.nilSl, PVLe.nilSl, trivial⟩)
  refine loop_keep (σ := (Nat)) [2, 3, 8, 9] [0, 101] (fun s => [(10, .pv (.int .i64 (s : Int)))]) (fun s => [(102, .pt (.val v3) 25 [.pv (.sl rTx ((l.take s).foldl playStep zeroH).txs), .pv (.sl rOrd ((l.take s).foldl playStep zeroH).orders)])]) (fun s => s ≤ l.length ∧ (True)) (fun s => l.length - s) (0) hS ⟨rfl, rfl, rfl, rfl, rfl, trivial⟩ ⟨rfl, rfl, rfl, trivial⟩ ⟨Nat.zero_le _, trivial⟩ ?_
  clear hS; intro i a w F hC hS
  try dsimp only at hC
  obtain ⟨F, hS⟩ := hS.nm [10, 9, 8, 3, 2] [102, 101, 0] rfl rfl
  try dsimp only at hS
  obtain ⟨hi, hq⟩ := hC
  have hfit := fun h => (Fit.play hl.2 i h).small (by have := hl.1; omega)
  refine wp_seq ?_
  refine region_q hS
    (cF rfl (o_lss .t .t) r2 trivial
    Chain.nil)
    hB ?_
  clear hS; intro a w F hS
  obtain ⟨F, hS⟩ := hS.nm [11, 10, 9, 8, 3, 2] [102, 101, 0] rfl rfl
  try dsimp only [rHist, rTx, rOrd, rVer, rInt, rOp, rEd] at hS
  refine then_n (wp_seq ?_)
  refine cond_b hS rfl (fun hc0 => ?_) (fun hc0 => ?_)
  ·skip
   have hil : i < l.length := by simp at hc0; omega
   have hio := hil
   refine wp_skip (then_n (wp_seq (wp_block (wp_seq ?_))))
   refine region_q hS
     (cF rfl (o_indexAddr_sl (sz := 7) (.mk Tryz.underlying43 (by kernel_rfl)) (by intro x; rfl) .t .t (by omega) (by omega)) r2 trivial
     (cF rfl (oR true 7 .t) r1 trivial
     (cF rfl (oH [.int .i64 0, .int .i64 0, .bool false, .slice none 0 0, .int .i64 0, .slice none 0 0, .int .i64 0] 103) trivial trivial
     (cF rfl (oA 7 103 .same .t) r2 r1
     Chain.nil))))
     hB ?_
   clear hS; intro a w F hS
   replace hS := hS.sub
   obtain ⟨F, hS⟩ := hS.nm [13, 12, 11, 10, 9, 8, 5, 3, 2] [103, 102, 101, 0] rfl rfl
   try dsimp only [RS.sub, SF.sub, CF.sub, csub, Anc.sub, List.map, stCells, xL, xM, Nat.reduceAdd, xD, xE, xT, xU, xC, xN, zCF, ldSF, rHist, rTx, rOrd, rVer, rInt, rOp, rEd] at hS
   generalize Act.tau a 5 = v5 at hS
   try simp only [Int.toNat_natCast] at hS
   refine then_n (wp_seq ?_)
   refine region_q hS
     (cF rfl (oL true 2 102 .is) r1 r1
     (cF rfl (oL true 7 103 .is) r1 r1
     (cF rfl (oP (refDo_c ((l.take i).foldl playStep zeroH) (Go.Gm.nth l i) (hfit (by omega)) (light_at hl.2 hio)) Tryz.func25 (Args.two (.pagg .t) (.pagg .t))) r2 trivial
     (cF rfl (oM .t) r1 trivial
     (cF rfl (o_extract .t rfl) r1 trivial
     (cF rfl (o_extract .t rfl) r1 trivial
     (cF rfl (oH [.slice none 0 0, .slice none 0 0] 104) trivial trivial
     (cF rfl (oA 2 104 .same (.conv .t .agg)) r2 r1
     (cF rfl (oN .t) r1 trivial
     Chain.nil)))))))))
     hB ?_
   clear hS; intro a w F hS
   replace hS := hS.sub
   obtain ⟨F, hS⟩ := hS.nm [19, 18, 17, 16, 15, 14, 13, 12, 11, 10, 9, 8, 7, 6, 5, 3, 2] [104, 103, 102, 101, 0] rfl rfl
   try dsimp only [RS.sub, SF.sub, CF.sub, csub, Anc.sub, List.map, stCells, xL, xM, Nat.reduceAdd, xD, xE, xT, xU, xC, xN, zCF, ldSF, rHist, rTx, rOrd, rVer, rInt, rOp, rEd] at hS
   generalize Act.tau a 6 = v6 at hS
   refine then_n (wp_seq ?_)
   refine region_q hS
     (cF rfl (oM .t) r1 trivial
     (cF rfl (o_eql .t (.ci (by kernel_rfl))) r1 trivial
     Chain.nil))
     hB ?_
   clear hS; intro a w F hS
   obtain ⟨F, hS⟩ := hS.nm [21, 20, 19, 18, 17, 16, 15, 14, 13, 12, 11, 10, 9, 8, 7, 6, 5, 3, 2] [104, 103, 102, 101, 0] rfl rfl
   try dsimp only [rHist, rTx, rOrd, rVer, rInt, rOp, rEd] at hS
   refine then_n ?_
   refine cond_b hS rfl (fun hc1 => ?_) (fun hc1 => ?_)
   ·skip
    have hst9 : ((l.take (i + 1)).foldl playStep zeroH) = (doH ((l.take i).foldl playStep zeroH) (Go.Gm.nth l i)).1 := by rw [take_nth hio, List.foldl_append]; exact play_yes (by simpa using hc1)
    refine region_q hS
      (cF rfl (oL true 2 104 .is) r1 r1
      (cF rfl (oA 2 102 .is .t) r2 r1
      Chain.nil))
      hB ?_
    clear hS; intro a w F hS
    obtain ⟨F, hS⟩ := hS.nm [22, 21, 20, 19, 18, 17, 16, 15, 14, 13, 12, 11, 10, 9, 8, 7, 6, 5, 3, 2] [104, 103, 102, 101, 0] rfl rfl
    try dsimp only [List.map, stCells, xL, xM, Nat.reduceAdd, xD, xE, xT, xU, xC, xN, zCF, ldSF, rHist, rTx, rOrd, rVer, rInt, rOp, rEd] at hS
    refine block_n (then_n ?_)
    refine region_q hS
      (cF rfl (o_add .t (.ci (by kernel_rfl))) r1 trivial
      (cF rfl (oM .t) r1 trivial
      Chain.nil))
      hB ?_
    clear hS; intro a w F hS
    obtain ⟨F, hS⟩ := hS.nm [23, 22, 21, 20, 19, 18, 17, 16, 15, 14, 13, 12, 11, 10, 9, 8, 7, 6, 5, 3, 2] [104, 103, 102, 101, 0] rfl rfl
    try dsimp only [rHist, rTx, rOrd, rVer, rInt, rOp, rEd] at hS
    refine then_n ?_
    replace hS := hS.turn 102 rfl (r' := .pt (.val v3) 25 [.pv (.sl rTx ((l.take (i + 1)).foldl playStep zeroH).txs), .pv (.sl rOrd ((l.take (i + 1)).foldl playStep zeroH).orders)]) (fun _ _ _ _ h => by rw [hst9]; exact h)
    replace hS := hS.ent (i := 10) (s' := .pv (.int .i64 ((i + 1 : Nat) : Int))) rfl (.int (wrap_succ (by omega)))
    obtain ⟨F, hS⟩ := hS.nm [9, 8, 3, 2, 10] [101, 0, 102] rfl rfl
    exact ⟨(i + 1), F, ⟨by omega, trivial⟩, hS, by omega⟩
   have hst9 : ((l.take (i + 1)).foldl playStep zeroH) = ((l.take i).foldl playStep zeroH) := by rw [take_nth hio, List.foldl_append]; exact play_no (by simpa using hc1)
   refine wp_skip (block_n (then_n ?_))
   refine region_q hS
     (cF rfl (o_add .t (.ci (by kernel_rfl))) r1 trivial
     (cF rfl (oM .t) r1 trivial
     Chain.nil))
     hB ?_
   clear hS; intro a w F hS
   obtain ⟨F, hS⟩ := hS.nm [23, 21, 20, 19, 18, 17, 16, 15, 14, 13, 12, 11, 10, 9, 8, 7, 6, 5, 3, 2] [104, 103, 102, 101, 0] rfl rfl
   try dsimp only [rHist, rTx, rOrd, rVer, rInt, rOp, rEd] at hS
   refine then_n ?_
   replace hS := hS.turn 102 rfl (r' := .pt (.val v3) 25 [.pv (.sl rTx ((l.take (i + 1)).foldl playStep zeroH).txs), .pv (.sl rOrd ((l.take (i + 1)).foldl playStep zeroH).orders)]) (fun _ _ _ _ h => by rw [hst9]; exact h)
   replace hS := hS.ent (i := 10) (s' := .pv (.int .i64 ((i + 1 : Nat) : Int))) rfl (.int (wrap_succ (by omega)))
   obtain ⟨F, hS⟩ := hS.nm [9, 8, 3, 2, 10] [101, 0, 102] rfl rfl
   exact ⟨(i + 1), F, ⟨by omega, trivial⟩, hS, by omega⟩
  have hil : i = l.length := by simp at hc0; omega
  refine wp_exit (then_x (then_x (block_x (then_n (wp_seq ?_)))))
  refine region_q hS
    (cF rfl (oL true 2 102 .is) r1 r1
    (cF rfl (oA 2 101 .is .t) r2 r1
    Chain.nil))
    hB ?_
  clear hS; intro a w F hS
  obtain ⟨F, hS⟩ := hS.nm [2] [102, 101, 0] rfl rfl
  try dsimp only [List.map, stCells, xL, xM, Nat.reduceAdd, xD, xE, xT, xU, xC, xN, zCF, ldSF, rHist, rTx, rOrd, rVer, rInt, rOp, rEd] at hS
  refine then_n (wp_ret ?_)
  refine ret_P hfr hS rfl (.cell (n := 101) (ag := true) (sz := 2) rfl .is rfl (by kernel_rfl) (by kernel_rfl) (by kernel_rfl) .nil) (.one (by rw [hil, List.take_length]; exact .aggU rfl rfl))

theorem hWeight_c (g : HistD) (hs : SmallT g.txs) : FnP Tryz.prog 19 [.agg (rHist g)] (.int .i64 ((wSum g.txs : Nat) : Int)) := by
  refine FnP.mk Tryz.func19 rfl Tryz.ntmps19 rfl ?_
  intro B a w F hB hfr hS
  have hsl := hs.1
  refine wp_seq ?_
  refine region_q hS
    (cF rfl (oX 101 (.conv .t .agg)) r1 trivial
    (cF rfl (oN (.ci (by kernel_rfl))) trivial trivial
    Chain.nil))
    hB ?_
  clear hS; intro a w F hS
  replace hS := hS.sub
  obtain ⟨F, hS⟩ := hS.nm [2, 1] [101, 0] rfl rfl
  try dsimp only [RS.sub, SF.sub, CF.sub, csub, Anc.sub, List.map, zCF, rHist, rTx, rOrd, rVer, rInt, rOp] at hS
  generalize Act.tau a 1 = v1 at hS
  refine then_n (wp_seq ?_)
  refine region_q hS
    (cF rfl (oN (.ci (by kernel_rfl))) trivial trivial
    Chain.nil)
    hB ?_
  clear hS; intro a w F hS
  obtain ⟨F, hS⟩ := hS.nm [3, 2, 1] [101, 0] rfl rfl
  try dsimp only [rHist, rTx, rOrd, rVer, rInt, rOp] at hS
  refine then_n (wp_seq (wp_seq ?_))
  refine region_q hS
    (cF rfl (oF 0 101 .is) r1 r1
    (cF rfl (oL false 1 101 .adr) r1 r1
    (cF rfl (o_len_sl Tryz.underlying22 .t) r1 trivial
    (cF rfl (oM (.ci (by kernel_rfl))) trivial trivial
    Chain.nil))))
    hB ?_
  clear hS; intro a w F hS
  obtain ⟨F, hS⟩ := hS.nm [9, 8, 7, 3, 2] [101, 0] rfl rfl
  try dsimp only [List.map, xD, xE, xT, xU, ldSF, rHist, rTx, rOrd, rVer, rInt, rOp] at hS
  refine then_n (wp_block ?_)
  refine loop_keep (σ := (Nat)) [2, 7, 8] [0, 101] (fun s => [(9, .pv (.int .i64 (s : Int))), (3, .pv (.int .i64 ((wSum (g.txs.take s) : Nat) : Int)))]) (fun s => []) (fun s => s ≤ g.txs.length ∧ (True)) (fun s => g.txs.length - s) (0) hS ⟨rfl, rfl, rfl, rfl, rfl, trivial⟩ ⟨rfl, rfl, trivial⟩ ⟨Nat.zero_le _, trivial⟩ ?_
  clear hS; intro i a w F hC hS
  try dsimp only at hC
  obtain ⟨F, hS⟩ := hS.nm [9, 8, 7, 3, 2] [101, 0] rfl rfl
  try dsimp only at hS
  obtain ⟨hi, hq⟩ := hC
  have hwl := wSum_le hs i hi
  refine wp_seq ?_
  refine region_q hS
    (cF rfl (o_lss .t .t) r2 trivial
    Chain.nil)
    hB ?_
  clear hS; intro a w F hS
  obtain ⟨F, hS⟩ := hS.nm [10, 9, 8, 7, 3, 2] [101, 0] rfl rfl
  try dsimp only [rHist, rTx, rOrd, rVer, rInt, rOp] at hS
  refine then_n (wp_seq ?_)
  refine cond_b hS rfl (fun hc0 => ?_) (fun hc0 => ?_)
  ·skip
   have hil : i < g.txs.length := by simp at hc0; omega
   have hio := hil
   have hxo := hs.at hio
   refine wp_skip (then_n (wp_seq (wp_block (wp_seq ?_))))
   refine region_q hS
     (cF rfl (o_indexAddr_sl (sz := 3) (.mk Tryz.underlying22 (by kernel_rfl)) (by intro x; rfl) .t .t (by omega) (by omega)) r2 trivial
     (cF rfl (oR true 3 .t) r1 trivial
     (cF rfl (oH [.int .i64 0, .bool false, .slice none 0 0] 102) trivial trivial
     (cF rfl (oA 3 102 .same .t) r2 r1
     Chain.nil))))
     hB ?_
   clear hS; intro a w F hS
   replace hS := hS.sub
   obtain ⟨F, hS⟩ := hS.nm [12, 11, 10, 9, 8, 7, 5, 3, 2] [102, 101, 0] rfl rfl
   try dsimp only [RS.sub, SF.sub, CF.sub, csub, Anc.sub, List.map, stCells, xL, xM, Nat.reduceAdd, xD, xE, xT, xU, xC, xN, zCF, ldSF, rHist, rTx, rOrd, rVer, rInt, rOp] at hS
   generalize Act.tau a 5 = v5 at hS
   try simp only [Int.toNat_natCast] at hS
   refine then_n ?_
   refine region_q hS
     (cF rfl (oM .t) r1 trivial
     (cF rfl (oL true 3 102 .is) r1 r1
     (cF rfl (oP (tweight_c (Go.Gm.nth g.txs i) (by omega)) Tryz.func51 (Args.one (.pagg .t))) r1 trivial
     (cF rfl (o_add .t .t) r2 trivial
     (cF rfl (oN .t) r1 trivial
     Chain.nil)))))
     hB ?_
   clear hS; intro a w F hS
   obtain ⟨F, hS⟩ := hS.nm [16, 15, 14, 13, 12, 11, 10, 9, 8, 7, 5, 3, 2] [102, 101, 0] rfl rfl
   try dsimp only [List.map, xD, xE, xT, xU, ldSF, rHist, rTx, rOrd, rVer, rInt, rOp] at hS
   refine block_n (then_n ?_)
   refine region_q hS
     (cF rfl (o_add .t (.ci (by kernel_rfl))) r1 trivial
     (cF rfl (oM .t) r1 trivial
     Chain.nil))
     hB ?_
   clear hS; intro a w F hS
   obtain ⟨F, hS⟩ := hS.nm [17, 16, 15, 14, 13, 12, 11, 10, 9, 8, 7, 5, 3, 2] [102, 101, 0] rfl rfl
   try dsimp only [rHist, rTx, rOrd, rVer, rInt, rOp] at hS
   refine then_n ?_
   replace hS := hS.ent (i := 9) (s' := .pv (.int .i64 ((i + 1 : Nat) : Int))) rfl (.int (wrap_succ (by omega)))
   replace hS := hS.ent (i := 3) (s' := .pv (.int .i64 ((wSum (g.txs.take (i + 1)) : Nat) : Int))) rfl (.int (by rw [wSum_step hio, wrap_i64 (by omega)]; omega))
   obtain ⟨F, hS⟩ := hS.nm [8, 7, 2, 3, 9] [101, 0] rfl rfl
   exact ⟨(i + 1), F, ⟨by omega, trivial⟩, hS, by omega⟩
  have hil : i = g.txs.length := by simp at hc0; omega
  refine wp_exit (then_x (then_x (block_x (then_n (wp_seq ?_)))))
  refine region_q hS
    (cF rfl (oM .t) r1 trivial
    (cF rfl (oN .t) r1 trivial
    Chain.nil))
    hB ?_
  clear hS; intro a w F hS
  obtain ⟨F, hS⟩ := hS.nm [2] [101, 0] rfl rfl
  try dsimp only [rHist, rTx, rOrd, rVer, rInt, rOp] at hS
  refine then_n (wp_ret ?_)
  refine ret_P hfr hS rfl (.tmp rfl .nil) (.one (.int (by rw [hil, List.take_length])))

theorem order1_c (o : OrdD) (key : Int) : FnP Tryz.prog 46 [.agg (rOrd o), .ref [.int .i64 key]] (.bool (decide (o.key = key))) := by
  refine FnP.mk Tryz.func46 rfl Tryz.ntmps46 rfl ?_
  intro B a w F hB hfr hS
  refine wp_seq ?_
  refine region_q hS
    (cF rfl (oX 101 (.conv .t .agg)) r1 trivial
    (cF rfl (oN .cb) trivial trivial
    Chain.nil))
    hB ?_
  clear hS; intro a w F hS
  replace hS := hS.sub
  obtain ⟨F, hS⟩ := hS.nm [3, 2, 1] [101, 0] rfl rfl
  try dsimp only [RS.sub, SF.sub, CF.sub, csub, Anc.sub, List.map, zCF, rHist, rTx, rOrd, rVer, rInt, rOp] at hS
  generalize Act.tau a 2 = v2 at hS
  refine then_n (wp_seq ?_)
  refine region_q hS
    (cF rfl (oF 0 101 .is) r1 r1
    (cF rfl (oL false 1 101 .adr) r1 r1
    (cF rfl (oR false 1 .t) r1 trivial
    (cF rfl (o_eql .t .t) r2 trivial
    (cF rfl (oN .t) r1 trivial
    Chain.nil)))))
    hB ?_
  clear hS; intro a w F hS
  obtain ⟨F, hS⟩ := hS.nm [3] [101, 0] rfl rfl
  try dsimp only [List.map, xD, xE, xT, xU, ldSF, rHist, rTx, rOrd, rVer, rInt, rOp] at hS
  refine then_n (wp_ret ?_)
  refine ret_P hfr hS rfl (.tmp rfl .nil) (.one .refl)

theorem hOrder_c (g : HistD) (key : Int) (hs : SmallO g.orders) : FnP Tryz.prog 15 [.agg (rHist g), .int .i64 key] (.sl rInt (getO g.orders key)) := by
  refine FnP.mk Tryz.func15 rfl Tryz.ntmps15 rfl ?_
  intro B a w F hB hfr hS
  have hso := hs.1
  refine wp_seq ?_
  refine region_q hS
    (cF rfl (oX 101 (.conv .t .agg)) r1 trivial
    (cF rfl (o_box1 102 .t one_int) r1 trivial
    (cF rfl (oN (.c rfl)) trivial trivial
    Chain.nil)))
    hB ?_
  clear hS; intro a w F hS
  replace hS := hS.sub
  obtain ⟨F, hS⟩ := hS.nm [4, 3, 2] [102, 101, 0] rfl rfl
  try dsimp only [RS.sub, SF.sub, CF.sub, csub, Anc.sub, List.map, zCF, rHist, rTx, rOrd, rVer, rInt, rOp] at hS
  generalize Act.tau a 2 = v2 at hS
  generalize Act.tau a 3 = v3 at hS
  refine then_n (wp_seq ?_)
  refine part_first 2 hS (by kernel_rfl)
    (cG rfl (oF 1 101 .is) r1 r1
    (cG rfl (oL false 1 101 .adr) r1 r1
    ChainN.nil))
    (by kernel_rfl) (by rw [hB]; kernel_rfl) ?_
  clear hS; intro a w F hS
  obtain ⟨F, hS⟩ := hS.nm [7, 4, 3, 2] [102, 101, 0] rfl rfl
  try dsimp only [List.map, xD, xE, xT, xU, ldSF, rHist, rTx, rOrd, rVer, rInt, rOp] at hS
  obtain ⟨F, hS⟩ := hS.giveRef 102 3 rfl rfl rfl
  obtain ⟨F, hS⟩ := hS.nm [7, 4, 3, 2] [101, 0] rfl rfl
  try dsimp only [Go.Gm.unCF] at hS
  refine part_last hS (by kernel_rfl)
    (cG rfl (o_makeFunc (Args.one .t)) r1 trivial
    (cG rfl (oP (idxFR_c g.orders (fun o => decide (o.key = key)) 46 Tryz.f46 [.ref [.int .i64 key]] Tryz.func46 rfl (by kernel_rfl) (fun o => order1_c o key)) Tryz.func45 (Args.two .t .t)) r2 trivial
    (cG rfl (oN .t) r1 trivial
    ChainN.nil)))
    (by kernel_rfl) (by rw [hB]; kernel_rfl) ?_
  clear hS; intro a w F hS
  obtain ⟨F, hS⟩ := hS.nm [5, 4, 2] [101, 0] rfl rfl
  try dsimp only [rHist, rTx, rOrd, rVer, rInt, rOp] at hS
  refine then_n (wp_seq (wp_seq ?_))
  refine region_q hS
    (cF rfl (oM .t) r1 trivial
    (cF rfl (o_lss .t (.ci (by kernel_rfl))) r1 trivial
    Chain.nil))
    hB ?_
  clear hS; intro a w F hS
  obtain ⟨F, hS⟩ := hS.nm [11, 5, 4, 2] [101, 0] rfl rfl
  try dsimp only [rHist, rTx, rOrd, rVer, rInt, rOp] at hS
  refine then_n ?_
  refine cond_b hS rfl (fun hc0 => ?_) (fun hc0 => ?_)
  ·skip
   have hg : [] = getO g.orders key := (found_getO.1 (by simpa using hc0)).symm
   refine wp_seq ?_
   refine region_q hS
     (cF rfl (oN (.c rfl)) trivial trivial
     Chain.nil)
     hB ?_
   clear hS; intro a w F hS
   obtain ⟨F, hS⟩ := hS.nm [5, 4, 2] [101, 0] rfl rfl
   try dsimp only [rHist, rTx, rOrd, rVer, rInt, rOp] at hS
   refine then_n (wp_ret (then_r ?_))
   refine ret_P hfr hS rfl (.tmp rfl .nil) (.one (by first | exact .sl hg | (rw [← hg]; exact .nilSl)))
  obtain ⟨fi, hfi, hfl, hfg⟩ := found_getO.2 (show ¬ foundAt (fun o : OrdD => decide (o.key = key)) g.orders < 0 by simpa using hc0)
  have hg : (Go.Gm.nth g.orders (foundAt (fun o : OrdD => decide (o.key = key)) g.orders).toNat).txs = getO g.orders key := by rw [hfi, Int.toNat_natCast, hfg]
  refine wp_skip (then_n (wp_seq ?_))
  refine region_q hS
    (cF rfl (oF 1 101 .is) r1 r1
    (cF rfl (oL false 1 101 .adr) r1 r1
    (cF rfl (oM .t) r1 trivial
    (cF rfl (o_indexAddr_sl (sz := 2) (.mk Tryz.underlying23 (by kernel_rfl)) (by intro x; rfl) .t .t (by rw [hfi]; omega) (by rw [hfi]; omega)) r2 trivial
    (cF rfl (oG 1 .t) r1 trivial
    (cF rfl (oR false 1 .t) r1 trivial
    (cF rfl (oP (cloneIP_c _ (by rw [hfi, Int.toNat_natCast]; have := hs.at hfl; omega)) Tryz.func47 (Args.one .t)) r1 trivial
    (cF rfl (oN .t) r1 trivial
    Chain.nil))))))))
    hB ?_
  clear hS; intro a w F hS
  obtain ⟨F, hS⟩ := hS.nm [4] [101, 0] rfl rfl
  try dsimp only [List.map, xD, xE, xT, xU, ldSF, rHist, rTx, rOrd, rVer, rInt, rOp] at hS
  try simp only [Int.toNat_natCast] at hS
  refine then_n (wp_ret ?_)
  refine ret_P hfr hS rfl (.tmp rfl .nil) (.one (by first | exact .sl hg | (rw [← hg]; exact .nilSl)))

end Go.Proofs.YtpjjmolibanakaaGreat
namespace Go.Proofs.YtpjjmolibanakaaGreat
open Go Go.Gm
set_option linter.unusedVariables false
set_option linter.unusedSimpArgs false
set_option maxHeartbeats 4000000
set_option maxRecDepth 8000


theorem histD_eq (u v : HistD) : (decide (u.txs = v.txs) && decide (u.orders = v.orders)) = decide (u = v) := by
  cases u; cases v
  rw [Bool.eq_iff_iff]
  simp

theorem eqT_c (x y : List TxD) (f : FuncId) (fn : Func) (cps : List PV) (hf : Tryz.prog.funcs[f]? = some fn) (hb : fn.body.isSome = true) (hnn : (fn.name == "runtime.NumGoroutine") = false) (hw : ∀ u v : TxD, FnP Tryz.prog f (.agg (rTx u) :: .agg (rTx v) :: cps) (.bool (decide (u = v)))) : FnP Tryz.prog 53 [.sl rTx x, .sl rTx y, .clos f cps] (.bool (decide (x = y))) := by
  refine FnP.mk Tryz.func53 rfl Tryz.ntmps53 rfl ?_
  intro B a w F hB hfr hS
  have hxl := Sat.lenSl hS (i := 0) rfl
  refine wp_seq ?_
  refine region_q hS
    (cF rfl (oN .cb) trivial trivial
    Chain.nil)
    hB ?_
  clear hS; intro a w F hS
  obtain ⟨F, hS⟩ := hS.nm [6, 2, 1, 0] [0] rfl rfl
  try dsimp only [rTx] at hS
  refine then_n (wp_seq (wp_seq ?_))
  refine region_q hS
    (cF rfl (oM .t) r1 trivial
    (cF rfl (o_len_sl Tryz.underlying22 .t) r1 trivial
    (cF rfl (oM .t) r1 trivial
    (cF rfl (o_len_sl Tryz.underlying22 .t) r1 trivial
    (cF rfl (o_neq .t .t) r2 trivial
    Chain.nil)))))
    hB ?_
  clear hS; intro a w F hS
  obtain ⟨F, hS⟩ := hS.nm [14, 6, 2, 1, 0] [0] rfl rfl
  try dsimp only [rTx] at hS
  refine then_n ?_
  refine cond_b hS rfl (fun hc0 => ?_) (fun hc0 => ?_)
  ·skip
   have hg : false = decide (x = y) := (decide_eq_false fun e => by subst e; simp at hc0).symm
   refine wp_seq ?_
   refine region_q hS
     (cF rfl (oN .cb) trivial trivial
     Chain.nil)
     hB ?_
   clear hS; intro a w F hS
   obtain ⟨F, hS⟩ := hS.nm [6, 2, 1, 0] [0] rfl rfl
   try dsimp only [rTx] at hS
   refine then_n (wp_ret (then_r ?_))
   refine ret_P hfr hS rfl (.tmp rfl .nil) (.one (.bool hg))
  have hln : x.length = y.length := by simp at hc0; omega
  refine wp_skip (then_n (wp_seq (wp_seq ?_)))
  refine region_q hS
    (cF rfl (oM .t) r1 trivial
    (cF rfl (o_len_sl Tryz.underlying22 .t) r1 trivial
    (cF rfl (oM (.ci (by kernel_rfl))) trivial trivial
    Chain.nil)))
    hB ?_
  clear hS; intro a w F hS
  obtain ⟨F, hS⟩ := hS.nm [17, 16, 15, 6, 2, 1] [0] rfl rfl
  try dsimp only [rTx] at hS
  refine then_n (wp_block ?_)
  refine loop_keep (σ := (Nat)) [1, 2, 6, 15, 16] [0] (fun s => [(17, .pv (.int .i64 (s : Int)))]) (fun s => []) (fun s => s ≤ x.length ∧ (∀ q, q < s → Go.Gm.nth x q = Go.Gm.nth y q)) (fun s => x.length - s) (0) hS ⟨rfl, rfl, rfl, rfl, rfl, rfl, trivial⟩ ⟨rfl, trivial⟩ ⟨Nat.zero_le _, fun q hq => absurd hq (Nat.not_lt_zero q)⟩ ?_
  clear hS; intro i a w F hC hS
  try dsimp only at hC
  obtain ⟨F, hS⟩ := hS.nm [17, 16, 15, 6, 2, 1] [0] rfl rfl
  try dsimp only at hS
  obtain ⟨hi, hq⟩ := hC
  refine wp_seq ?_
  refine region_q hS
    (cF rfl (o_lss .t .t) r2 trivial
    Chain.nil)
    hB ?_
  clear hS; intro a w F hS
  obtain ⟨F, hS⟩ := hS.nm [18, 17, 16, 15, 6, 2, 1] [0] rfl rfl
  try dsimp only [rTx] at hS
  refine then_n (wp_seq ?_)
  refine cond_b hS rfl (fun hc1 => ?_) (fun hc1 => ?_)
  ·skip
   have hil : i < x.length := by simp at hc1; omega
   refine wp_skip (then_n (wp_seq (wp_block (wp_seq ?_))))
   refine region_q hS
     (cF rfl (oM .t) r1 trivial
     (cF rfl (o_indexAddr_sl (sz := 3) (.mk Tryz.underlying22 (by kernel_rfl)) (by intro x; rfl) .t .t (by omega) (by omega)) r2 trivial
     (cF rfl (oR true 3 .t) r1 trivial
     (cF rfl (oH [.int .i64 0, .bool false, .slice none 0 0] 101) trivial trivial
     (cF rfl (oN .t) r1 trivial
     (cF rfl (oA 3 101 .same .t) r2 r1
     Chain.nil))))))
     hB ?_
   clear hS; intro a w F hS
   replace hS := hS.sub
   obtain ⟨F, hS⟩ := hS.nm [21, 20, 19, 18, 17, 16, 15, 8, 7, 6, 2, 1] [101, 0] rfl rfl
   try dsimp only [RS.sub, SF.sub, CF.sub, csub, Anc.sub, List.map, stCells, xL, xM, Nat.reduceAdd, xD, xE, xT, xU, xC, xN, zCF, ldSF, rTx] at hS
   generalize Act.tau a 8 = v8 at hS
   try simp only [Int.toNat_natCast] at hS
   refine then_n (wp_seq ?_)
   refine region_q hS
     (cF rfl (oM .t) r1 trivial
     (cF rfl (oM .t) r1 trivial
     (cF rfl (o_indexAddr_sl (sz := 3) (.mk Tryz.underlying22 (by kernel_rfl)) (by intro x; rfl) .t .t (by omega) (by omega)) r2 trivial
     (cF rfl (oR true 3 .t) r1 trivial
     (cF rfl (oH [.int .i64 0, .bool false, .slice none 0 0] 102) trivial trivial
     (cF rfl (oA 3 102 .same .t) r2 r1
     Chain.nil))))))
     hB ?_
   clear hS; intro a w F hS
   replace hS := hS.sub
   obtain ⟨F, hS⟩ := hS.nm [25, 24, 23, 22, 21, 20, 19, 18, 17, 16, 15, 9, 8, 7, 6, 2, 1] [102, 101, 0] rfl rfl
   try dsimp only [RS.sub, SF.sub, CF.sub, csub, Anc.sub, List.map, stCells, xL, xM, Nat.reduceAdd, xD, xE, xT, xU, xC, xN, zCF, ldSF, rTx] at hS
   generalize Act.tau a 9 = v9 at hS
   try simp only [Int.toNat_natCast] at hS
   refine then_n (wp_seq ?_)
   refine region_q hS
     (cF rfl (oM .t) r1 trivial
     (cF rfl (oL true 3 101 .is) r1 r1
     (cF rfl (oL true 3 102 .is) r1 r1
     (cF rfl (o_callClosP (avs := [.agg (rTx (Go.Gm.nth x i)), .agg (rTx (Go.Gm.nth y i))]) .t (hw (Go.Gm.nth x i) (Go.Gm.nth y i)) hf hb hnn (Args.two (.pagg .t) (.pagg .t))) r3 trivial
     (cF rfl (o_not .t) r1 trivial
     Chain.nil)))))
     hB ?_
   clear hS; intro a w F hS
   obtain ⟨F, hS⟩ := hS.nm [30, 29, 28, 27, 26, 25, 24, 23, 22, 21, 20, 19, 18, 17, 16, 15, 9, 8, 7, 6, 2, 1] [102, 101, 0] rfl rfl
   try dsimp only [List.map, xD, xE, xT, xU, ldSF, rTx] at hS
   refine then_n ?_
   refine cond_b hS rfl (fun hc2 => ?_) (fun hc2 => ?_)
   ·skip
    have hg : false = decide (x = y) := (decide_eq_false fun e => by subst e; simp at hc2).symm
    refine wp_seq ?_
    refine region_q hS
      (cF rfl (oN .cb) trivial trivial
      Chain.nil)
      hB ?_
    clear hS; intro a w F hS
    obtain ⟨F, hS⟩ := hS.nm [30, 29, 28, 27, 26, 25, 24, 23, 22, 21, 20, 19, 18, 17, 16, 15, 9, 8, 7, 6, 2, 1] [102, 101, 0] rfl rfl
    try dsimp only [rTx] at hS
    refine then_n (wp_ret (block_r (then_r (then_r (block_r (then_r ?_))))))
    refine ret_P hfr hS rfl (.tmp rfl .nil) (.one (.bool hg))
   have hne : (Go.Gm.nth x i) = (Go.Gm.nth y i) := by simpa using hc2
   refine wp_skip (block_n (then_n ?_))
   refine region_q hS
     (cF rfl (o_add .t (.ci (by kernel_rfl))) r1 trivial
     (cF rfl (oM .t) r1 trivial
     Chain.nil))
     hB ?_
   clear hS; intro a w F hS
   obtain ⟨F, hS⟩ := hS.nm [31, 30, 29, 28, 27, 26, 25, 24, 23, 22, 21, 20, 19, 18, 17, 16, 15, 9, 8, 7, 6, 2, 1] [102, 101, 0] rfl rfl
   try dsimp only [rTx] at hS
   refine then_n ?_
   replace hS := hS.ent (i := 17) (s' := .pv (.int .i64 ((i + 1 : Nat) : Int))) rfl (.int (wrap_succ (by omega)))
   obtain ⟨F, hS⟩ := hS.nm [16, 15, 6, 2, 1, 17] [0] rfl rfl
   exact ⟨(i + 1), F, ⟨by omega, (fun q h9 => by rcases Nat.lt_or_eq_of_le (Nat.le_of_lt_succ h9) with h8 | h8; exact hq q h8; rw [h8]; exact hne)⟩, hS, by omega⟩
  have hil : i = x.length := by simp at hc1; omega
  have hg : true = decide (x = y) := (decide_eq_true (list_same hln fun j hj => hq j (by omega))).symm
  refine wp_exit (then_x (then_x (block_x (then_n (wp_seq ?_)))))
  refine region_q hS
    (cF rfl (oN .cb) trivial trivial
    Chain.nil)
    hB ?_
  clear hS; intro a w F hS
  obtain ⟨F, hS⟩ := hS.nm [6] [0] rfl rfl
  try dsimp only [rTx] at hS
  refine then_n (wp_ret ?_)
  refine ret_P hfr hS rfl (.tmp rfl .nil) (.one (.bool hg))

theorem eqR_c (x y : List OrdD) (f : FuncId) (fn : Func) (cps : List PV) (hf : Tryz.prog.funcs[f]? = some fn) (hb : fn.body.isSome = true) (hnn : (fn.name == "runtime.NumGoroutine") = false) (hw : ∀ u v : OrdD, FnP Tryz.prog f (.agg (rOrd u) :: .agg (rOrd v) :: cps) (.bool (decide (u = v)))) : FnP Tryz.prog 55 [.sl rOrd x, .sl rOrd y, .clos f cps] (.bool (decide (x = y))) := by
  refine FnP.mk Tryz.func55 rfl Tryz.ntmps55 rfl ?_
  intro B a w F hB hfr hS
  have hxl := Sat.lenSl hS (i := 0) rfl
  refine wp_seq ?_
  refine region_q hS
    (cF rfl (oN .cb) trivial trivial
    Chain.nil)
    hB ?_
  clear hS; intro a w F hS
  obtain ⟨F, hS⟩ := hS.nm [6, 2, 1, 0] [0] rfl rfl
  try dsimp only [rOrd] at hS
  refine then_n (wp_seq (wp_seq ?_))
  refine region_q hS
    (cF rfl (oM .t) r1 trivial
    (cF rfl (o_len_sl Tryz.underlying23 .t) r1 trivial
    (cF rfl (oM .t) r1 trivial
    (cF rfl (o_len_sl Tryz.underlying23 .t) r1 trivial
    (cF rfl (o_neq .t .t) r2 trivial
    Chain.nil)))))
    hB ?_
  clear hS; intro a w F hS
  obtain ⟨F, hS⟩ := hS.nm [14, 6, 2, 1, 0] [0] rfl rfl
  try dsimp only [rOrd] at hS
  refine then_n ?_
  refine cond_b hS rfl (fun hc0 => ?_) (fun hc0 => ?_)
  ·skip
   have hg : false = decide (x = y) := (decide_eq_false fun e => by subst e; simp at hc0).symm
   refine wp_seq ?_
   refine region_q hS
     (cF rfl (oN .cb) trivial trivial
     Chain.nil)
     hB ?_
   clear hS; intro a w F hS
   obtain ⟨F, hS⟩ := hS.nm [6, 2, 1, 0] [0] rfl rfl
   try dsimp only [rOrd] at hS
   refine then_n (wp_ret (then_r ?_))
   refine ret_P hfr hS rfl (.tmp rfl .nil) (.one (.bool hg))
  have hln : x.length = y.length := by simp at hc0; omega
  refine wp_skip (then_n (wp_seq (wp_seq ?_)))
  refine region_q hS
    (cF rfl (oM .t) r1 trivial
    (cF rfl (o_len_sl Tryz.underlying23 .t) r1 trivial
    (cF rfl (oM (.ci (by kernel_rfl))) trivial trivial
    Chain.nil)))
    hB ?_
  clear hS; intro a w F hS
  obtain ⟨F, hS⟩ := hS.nm [17, 16, 15, 6, 2, 1] [0] rfl rfl
  try dsimp only [rOrd] at hS
  refine then_n (wp_block ?_)
  refine loop_keep (σ := (Nat)) [1, 2, 6, 15, 16] [0] (fun s => [(17, .pv (.int .i64 (s : Int)))]) (fun s => []) (fun s => s ≤ x.length ∧ (∀ q, q < s → Go.Gm.nth x q = Go.Gm.nth y q)) (fun s => x.length - s) (0) hS ⟨rfl, rfl, rfl, rfl, rfl, rfl, trivial⟩ ⟨rfl, trivial⟩ ⟨Nat.zero_le _, fun q hq => absurd hq (Nat.not_lt_zero q)⟩ ?_
  clear hS; intro i a w F hC hS
  try dsimp only at hC
  obtain ⟨F, hS⟩ := hS.nm [17, 16, 15, 6, 2, 1] [0] rfl rfl
  try dsimp only at hS
  obtain ⟨hi, hq⟩ := hC
  refine wp_seq ?_
  refine region_q hS
    (cF rfl (o_lss .t .t) r2 trivial
    Chain.nil)
    hB ?_
  clear hS; intro a w F hS
  obtain ⟨F, hS⟩ := hS.nm [18, 17, 16, 15, 6, 2, 1] [0] rfl rfl
  try dsimp only [rOrd] at hS
  refine then_n (wp_seq ?_)
  refine cond_b hS rfl (fun hc1 => ?_) (fun hc1 => ?_)
  ·skip
   have hil : i < x.length := by simp at hc1; omega
   refine wp_skip (then_n (wp_seq (wp_block (wp_seq ?_))))
   refine region_q hS
     (cF rfl (oM .t) r1 trivial
     (cF rfl (o_indexAddr_sl (sz := 2) (.mk Tryz.underlying23 (by kernel_rfl)) (by intro x; rfl) .t .t (by omega) (by omega)) r2 trivial
     (cF rfl (oR true 2 .t) r1 trivial
     (cF rfl (oH [.int .i64 0, .slice none 0 0] 101) trivial trivial
     (cF rfl (oN .t) r1 trivial
     (cF rfl (oA 2 101 .same .t) r2 r1
     Chain.nil))))))
     hB ?_
   clear hS; intro a w F hS
   replace hS := hS.sub
   obtain ⟨F, hS⟩ := hS.nm [21, 20, 19, 18, 17, 16, 15, 8, 7, 6, 2, 1] [101, 0] rfl rfl
   try dsimp only [RS.sub, SF.sub, CF.sub, csub, Anc.sub, List.map, stCells, xL, xM, Nat.reduceAdd, xD, xE, xT, xU, xC, xN, zCF, ldSF, rOrd] at hS
   generalize Act.tau a 8 = v8 at hS
   try simp only [Int.toNat_natCast] at hS
   refine then_n (wp_seq ?_)
   refine region_q hS
     (cF rfl (oM .t) r1 trivial
     (cF rfl (oM .t) r1 trivial
     (cF rfl (o_indexAddr_sl (sz := 2) (.mk Tryz.underlying23 (by kernel_rfl)) (by intro x; rfl) .t .t (by omega) (by omega)) r2 trivial
     (cF rfl (oR true 2 .t) r1 trivial
     (cF rfl (oH [.int .i64 0, .slice none 0 0] 102) trivial trivial
     (cF rfl (oA 2 102 .same .t) r2 r1
     Chain.nil))))))
     hB ?_
   clear hS; intro a w F hS
   replace hS := hS.sub
   obtain ⟨F, hS⟩ := hS.nm [25, 24, 23, 22, 21, 20, 19, 18, 17, 16, 15, 9, 8, 7, 6, 2, 1] [102, 101, 0] rfl rfl
   try dsimp only [RS.sub, SF.sub, CF.sub, csub, Anc.sub, List.map, stCells, xL, xM, Nat.reduceAdd, xD, xE, xT, xU, xC, xN, zCF, ldSF, rOrd] at hS
   generalize Act.tau a 9 = v9 at hS
   try simp only [Int.toNat_natCast] at hS
   refine then_n (wp_seq ?_)
   refine region_q hS
     (cF rfl (oM .t) r1 trivial
     (cF rfl (oL true 2 101 .is) r1 r1
     (cF rfl (oL true 2 102 .is) r1 r1
     (cF rfl (o_callClosP (avs := [.agg (rOrd (Go.Gm.nth x i)), .agg (rOrd (Go.Gm.nth y i))]) .t (hw (Go.Gm.nth x i) (Go.Gm.nth y i)) hf hb hnn (Args.two (.pagg .t) (.pagg .t))) r3 trivial
     (cF rfl (o_not .t) r1 trivial
     Chain.nil)))))
     hB ?_
   clear hS; intro a w F hS
   obtain ⟨F, hS⟩ := hS.nm [30, 29, 28, 27, 26, 25, 24, 23, 22, 21, 20, 19, 18, 17, 16, 15, 9, 8, 7, 6, 2, 1] [102, 101, 0] rfl rfl
   try dsimp only [List.map, xD, xE, xT, xU, ldSF, rOrd] at hS
   refine then_n ?_
   refine cond_b hS rfl (fun hc2 => ?_) (fun hc2 => ?_)
   ·skip
    have hg : false = decide (x = y) := (decide_eq_false fun e => by subst e; simp at hc2).symm
    refine wp_seq ?_
    refine region_q hS
      (cF rfl (oN .cb) trivial trivial
      Chain.nil)
      hB ?_
    clear hS; intro a w F hS
    obtain ⟨F, hS⟩ := hS.nm [30, 29, 28, 27, 26, 25, 24, 23, 22, 21, 20, 19, 18, 17, 16, 15, 9, 8, 7, 6, 2, 1] [102, 101, 0] rfl rfl
    try dsimp only [rOrd] at hS
    refine then_n (wp_ret (block_r (then_r (then_r (block_r (then_r ?_))))))
    refine ret_P hfr hS rfl (.tmp rfl .nil) (.one (.bool hg))
   have hne : (Go.Gm.nth x i) = (Go.Gm.nth y i) := by simpa using hc2
   refine wp_skip (block_n (then_n ?_))
   refine region_q hS
     (cF rfl (o_add .t (.ci (by kernel_rfl))) r1 trivial
     (cF rfl (oM .t) r1 trivial
     Chain.nil))
     hB ?_
   clear hS; intro a w F hS
   obtain ⟨F, hS⟩ := hS.nm [31, 30, 29, 28, 27, 26, 25, 24, 23, 22, 21, 20, 19, 18, 17, 16, 15, 9, 8, 7, 6, 2, 1] [102, 101, 0] rfl rfl
   try dsimp only [rOrd] at hS
   refine then_n ?_
   replace hS := hS.ent (i := 17) (s' := .pv (.int .i64 ((i + 1 : Nat) : Int))) rfl (.int (wrap_succ (by omega)))
   obtain ⟨F, hS⟩ := hS.nm [16, 15, 6, 2, 1, 17] [0] rfl rfl
   exact ⟨(i + 1), F, ⟨by omega, (fun q h9 => by rcases Nat.lt_or_eq_of_le (Nat.le_of_lt_succ h9) with h8 | h8; exact hq q h8; rw [h8]; exact hne)⟩, hS, by omega⟩
  have hil : i = x.length := by simp at hc1; omega
  have hg : true = decide (x = y) := (decide_eq_true (list_same hln fun j hj => hq j (by omega))).symm
  refine wp_exit (then_x (then_x (block_x (then_n (wp_seq ?_)))))
  refine region_q hS
    (cF rfl (oN .cb) trivial trivial
    Chain.nil)
    hB ?_
  clear hS; intro a w F hS
  obtain ⟨F, hS⟩ := hS.nm [6] [0] rfl rfl
  try dsimp only [rOrd] at hS
  refine then_n (wp_ret ?_)
  refine ret_P hfr hS rfl (.tmp rfl .nil) (.one (.bool hg))

theorem same1_c (u v : OrdD) : FnP Tryz.prog 56 [.agg (rOrd u), .agg (rOrd v)] (.bool (decide (u = v))) := by
  refine FnP.mk Tryz.func56 rfl Tryz.ntmps56 rfl ?_
  intro B a w F hB hfr hS
  refine wp_seq ?_
  refine region_q hS
    (cF rfl (oX 101 (.conv .t .agg)) r1 trivial
    (cF rfl (oX 102 (.conv .t .agg)) r1 trivial
    (cF rfl (oN .cb) trivial trivial
    Chain.nil)))
    hB ?_
  clear hS; intro a w F hS
  replace hS := hS.sub
  obtain ⟨F, hS⟩ := hS.nm [4, 3, 2] [102, 101, 0] rfl rfl
  try dsimp only [RS.sub, SF.sub, CF.sub, csub, Anc.sub, List.map, zCF, rHist, rTx, rOrd, rVer, rInt, rOp] at hS
  generalize Act.tau a 2 = v2 at hS
  generalize Act.tau a 3 = v3 at hS
  refine then_n (wp_seq ?_)
  refine region_q hS
    (cF rfl (oF 0 101 .is) r1 r1
    (cF rfl (oL false 1 101 .adr) r1 r1
    (cF rfl (oF 0 102 .is) r1 r1
    (cF rfl (oL false 1 102 .adr) r1 r1
    (cF rfl (o_eql .t .t) r2 trivial
    (cF rfl (oM .t) r1 trivial
    (Chain.cons (Cert.cond rfl rfl (fun h => o_fieldAddr (off := 1) 101 .is (by kernel_rfl) (by rfl))) r2 r1
    (Chain.cons (Cert.cond rfl rfl (fun h => o_load (ag := false) (sz := 1) 101 (.w h .adr) (by kernel_rfl) (by kernel_rfl) (by kernel_rfl) (by rfl))) r2 r1
    (Chain.cons (Cert.cond rfl rfl (fun h => o_fieldAddr (off := 1) 102 .is (by kernel_rfl) (by rfl))) r2 r1
    (Chain.cons (Cert.cond rfl rfl (fun h => o_load (ag := false) (sz := 1) 102 (.w h .adr) (by kernel_rfl) (by kernel_rfl) (by kernel_rfl) (by rfl))) r2 r1
    (Chain.cons (Cert.cond rfl rfl (fun h => o_callP (osame_c u.txs v.txs) Tryz.func57 rfl (by kernel_rfl) (Args.two (.w h) (.w h)))) r3 trivial
    (cF rfl (o_and2 .t .t) r2 trivial
    (cF rfl (oN .t) r1 trivial
    Chain.nil)))))))))))))
    hB ?_
  clear hS; intro a w F hS
  obtain ⟨F, hS⟩ := hS.nm [4] [102, 101, 0] rfl rfl
  try dsimp only [List.map, xD, xE, xT, xU, ldSF, rHist, rTx, rOrd, rVer, rInt, rOp] at hS
  refine then_n (wp_ret ?_)
  refine ret_P hfr hS rfl (.tmp rfl .nil) (.one (.bool (ordD_is)))

theorem hSame_c (u v : HistD) : FnP Tryz.prog 21 [.agg (rHist u), .agg (rHist v)] (.bool (decide (u = v))) := by
  refine FnP.mk Tryz.func21 rfl Tryz.ntmps21 rfl ?_
  intro B a w F hB hfr hS
  refine wp_seq ?_
  refine region_q hS
    (cF rfl (oX 101 (.conv .t .agg)) r1 trivial
    (cF rfl (oX 102 (.conv .t .agg)) r1 trivial
    (cF rfl (oN .cb) trivial trivial
    Chain.nil)))
    hB ?_
  clear hS; intro a w F hS
  replace hS := hS.sub
  obtain ⟨F, hS⟩ := hS.nm [4, 3, 2] [102, 101, 0] rfl rfl
  try dsimp only [RS.sub, SF.sub, CF.sub, csub, Anc.sub, List.map, zCF, rHist, rTx, rOrd, rVer, rInt, rOp] at hS
  generalize Act.tau a 2 = v2 at hS
  generalize Act.tau a 3 = v3 at hS
  refine then_n (wp_seq ?_)
  refine region_q hS
    (cF rfl (oF 0 101 .is) r1 r1
    (cF rfl (oL false 1 101 .adr) r1 r1
    (cF rfl (oF 0 102 .is) r1 r1
    (cF rfl (oL false 1 102 .adr) r1 r1
    (cF rfl (oP (eqT_c u.txs v.txs 54 Tryz.f54 [] Tryz.func54 rfl (by kernel_rfl) (fun a b => txSame_c a b)) Tryz.func53 (Args.three .t .t (.conv .f (Ent.fnClos)))) r2 trivial
    (cF rfl (oM .t) r1 trivial
    (Chain.cons (Cert.cond rfl rfl (fun h => o_fieldAddr (off := 1) 101 .is (by kernel_rfl) (by rfl))) r2 r1
    (Chain.cons (Cert.cond rfl rfl (fun h => o_load (ag := false) (sz := 1) 101 (.w h .adr) (by kernel_rfl) (by kernel_rfl) (by kernel_rfl) (by rfl))) r2 r1
    (Chain.cons (Cert.cond rfl rfl (fun h => o_fieldAddr (off := 1) 102 .is (by kernel_rfl) (by rfl))) r2 r1
    (Chain.cons (Cert.cond rfl rfl (fun h => o_load (ag := false) (sz := 1) 102 (.w h .adr) (by kernel_rfl) (by kernel_rfl) (by kernel_rfl) (by rfl))) r2 r1
    (Chain.cons (Cert.cond rfl rfl (fun h => o_callP (eqR_c u.orders v.orders 56 Tryz.f56 [] Tryz.func56 rfl (by kernel_rfl) (fun a b => same1_c a b)) Tryz.func55 rfl (by kernel_rfl) (Args.three (.w h) (.w h) (.conv .f (Ent.fnClos))))) r3 trivial
    (cF rfl (o_and2 .t .t) r2 trivial
    (cF rfl (oN .t) r1 trivial
    Chain.nil)))))))))))))
    hB ?_
  clear hS; intro a w F hS
  obtain ⟨F, hS⟩ := hS.nm [4] [102, 101, 0] rfl rfl
  try dsimp only [List.map, xD, xE, xT, xU, ldSF, rHist, rTx, rOrd, rVer, rInt, rOp] at hS
  refine then_n (wp_ret ?_)
  refine ret_P hfr hS rfl (.tmp rfl .nil) (.one (.bool (histD_eq u v)))

end Go.Proofs.YtpjjmolibanakaaGreat
namespace Go.Proofs.YtpjjmolibanakaaGreat
open Go Go.Gm
set_option linter.unusedVariables false
set_option linter.unusedSimpArgs false
set_option maxHeartbeats 4000000
set_option maxRecDepth 8000


instance (l : List TxD) : Decidable (SmallT l) := by unfold SmallT; exact inferInstance
instance (l : List OrdD) : Decidable (SmallO l) := by unfold SmallO; exact inferInstance
instance (g : HistD) : Decidable (Small g) := by unfold Small; exact inferInstance

theorem lv38 : insertH (⟨[], []⟩ : HistD) (⟨1, true, [⟨false, 5, 0, 0⟩]⟩ : TxD) = ((⟨[(⟨1, true, [⟨false, 5, 0, 0⟩]⟩ : TxD)], [⟨5, [1]⟩]⟩ : HistD), 0) := by decide +kernel
theorem lv47 : insertH (⟨[(⟨1, true, [⟨false, 5, 0, 0⟩]⟩ : TxD)], [⟨5, [1]⟩]⟩ : HistD) (⟨2, true, [⟨false, 5, 0, 0⟩, ⟨true, 5, 1, 1⟩]⟩ : TxD) = ((⟨[(⟨1, true, [⟨false, 5, 0, 0⟩]⟩ : TxD), (⟨2, true, [⟨false, 5, 0, 0⟩, ⟨true, 5, 1, 1⟩]⟩ : TxD)], [⟨5, [1, 2]⟩]⟩ : HistD), 0) := by decide +kernel
theorem lv52 : deleteH (⟨[(⟨1, true, [⟨false, 5, 0, 0⟩]⟩ : TxD), (⟨2, true, [⟨false, 5, 0, 0⟩, ⟨true, 5, 1, 1⟩]⟩ : TxD)], [⟨5, [1, 2]⟩]⟩ : HistD) 1 = ((⟨[], []⟩ : HistD), 7) := by decide +kernel
theorem lv60 : amendH (⟨[(⟨1, true, [⟨false, 5, 0, 0⟩]⟩ : TxD), (⟨2, true, [⟨false, 5, 0, 0⟩, ⟨true, 5, 1, 1⟩]⟩ : TxD)], [⟨5, [1, 2]⟩]⟩ : HistD) (⟨1, false, [⟨false, 5, 0, 0⟩]⟩ : TxD) = ((⟨[(⟨1, false, [⟨false, 5, 0, 0⟩]⟩ : TxD), (⟨2, true, [⟨false, 5, 0, 0⟩, ⟨true, 5, 1, 1⟩]⟩ : TxD)], [⟨5, [2]⟩]⟩ : HistD), 0) := by decide +kernel
theorem lv68 : amendH (⟨[(⟨1, false, [⟨false, 5, 0, 0⟩]⟩ : TxD), (⟨2, true, [⟨false, 5, 0, 0⟩, ⟨true, 5, 1, 1⟩]⟩ : TxD)], [⟨5, [2]⟩]⟩ : HistD) (⟨1, true, [⟨false, 5, 0, 0⟩]⟩ : TxD) = ((⟨[(⟨1, true, [⟨false, 5, 0, 0⟩]⟩ : TxD), (⟨2, true, [⟨false, 5, 0, 0⟩, ⟨true, 5, 1, 1⟩]⟩ : TxD)], [⟨5, [2, 1]⟩]⟩ : HistD), 0) := by decide +kernel
theorem lv74 : insertH (⟨[(⟨1, true, [⟨false, 5, 0, 0⟩]⟩ : TxD), (⟨2, true, [⟨false, 5, 0, 0⟩, ⟨true, 5, 1, 1⟩]⟩ : TxD)], [⟨5, [1, 2]⟩]⟩ : HistD) (⟨2, false, []⟩ : TxD) = ((⟨[], []⟩ : HistD), 4) := by decide +kernel
theorem lv82 : insertH (⟨[(⟨1, true, [⟨false, 5, 0, 0⟩]⟩ : TxD)], [⟨5, [1]⟩]⟩ : HistD) (⟨3, false, [⟨true, 5, 1, 2⟩]⟩ : TxD) = ((⟨[], []⟩ : HistD), 6) := by decide +kernel
theorem lv88 : amendH (⟨[(⟨1, true, [⟨false, 5, 0, 0⟩]⟩ : TxD), (⟨2, true, [⟨false, 5, 0, 0⟩, ⟨true, 5, 1, 1⟩]⟩ : TxD)], [⟨5, [1, 2]⟩]⟩ : HistD) (⟨1, false, []⟩ : TxD) = ((⟨[], []⟩ : HistD), 7) := by decide +kernel
theorem lv95 : reorderH (⟨[(⟨1, true, [⟨false, 5, 0, 0⟩]⟩ : TxD), (⟨2, true, [⟨false, 5, 0, 0⟩, ⟨true, 5, 1, 1⟩]⟩ : TxD)], [⟨5, [1, 2]⟩]⟩ : HistD) ⟨5, [1, 1]⟩ = ((⟨[], []⟩ : HistD), 8) := by decide +kernel
theorem lv101 : reorderH (⟨[(⟨1, true, [⟨false, 5, 0, 0⟩]⟩ : TxD), (⟨2, true, [⟨false, 5, 0, 0⟩, ⟨true, 5, 1, 1⟩]⟩ : TxD)], [⟨5, [1, 2]⟩]⟩ : HistD) ⟨6, []⟩ = ((⟨[], []⟩ : HistD), 3) := by decide +kernel
theorem lv106 : moveH (⟨[(⟨1, true, [⟨false, 5, 0, 0⟩]⟩ : TxD), (⟨2, true, [⟨false, 5, 0, 0⟩, ⟨true, 5, 1, 1⟩]⟩ : TxD)], [⟨5, [1, 2]⟩]⟩ : HistD) 5 2 0 = ((⟨[(⟨1, true, [⟨false, 5, 0, 0⟩]⟩ : TxD), (⟨2, true, [⟨false, 5, 0, 0⟩, ⟨true, 5, 1, 1⟩]⟩ : TxD)], [⟨5, [2, 1]⟩]⟩ : HistD), 0) := by decide +kernel
theorem lv111 : deleteH (⟨[(⟨1, true, [⟨false, 5, 0, 0⟩]⟩ : TxD), (⟨2, true, [⟨false, 5, 0, 0⟩, ⟨true, 5, 1, 1⟩]⟩ : TxD)], [⟨5, [1, 2]⟩]⟩ : HistD) 2 = ((⟨[(⟨1, true, [⟨false, 5, 0, 0⟩]⟩ : TxD)], [⟨5, [1]⟩]⟩ : HistD), 0) := by decide +kernel
theorem lv119 : insertH (⟨[⟨0, false, []⟩], []⟩ : HistD) (⟨1, false, []⟩ : TxD) = ((⟨[], []⟩ : HistD), 5) := by decide +kernel
theorem lvF : findT (⟨[(⟨1, true, [⟨false, 5, 0, 0⟩]⟩ : TxD), (⟨2, true, [⟨false, 5, 0, 0⟩, ⟨true, 5, 1, 1⟩]⟩ : TxD)], [⟨5, [1, 2]⟩]⟩ : HistD).txs 2 = some (⟨2, true, [⟨false, 5, 0, 0⟩, ⟨true, 5, 1, 1⟩]⟩ : TxD) := by decide +kernel


theorem lives12_c  : FnP Tryz.prog 8 [] (.bool true) := by
  refine FnP.mk Tryz.func8 rfl Tryz.ntmps8 rfl ?_
  intro B a w F hB hfr hS
  refine wp_seq ?_
  refine region_q hS
    (cF rfl (oN .cb) trivial trivial
    Chain.nil)
    hB ?_
  clear hS; intro a w F hS
  obtain ⟨F, hS⟩ := hS.nm [0] [0] rfl rfl
  try dsimp only [rHist, rTx, rOrd, rVer, rInt, rOp] at hS
  refine then_n (wp_seq ?_)
  refine region_q hS
    (cF rfl (oB [(1, _)] [.bool false, .int .i64 0, .int .i64 0, .int .i64 0] [(0, 1), (1, 1), (2, 1), (3, 1)] (.one rfl (.ci (by kernel_rfl)) one_int (by kernel_rfl) .nil)) trivial trivial
    (cF rfl (oB [(0, _), (1, _), (2, _), (3, _)] [.bool false, .int .i64 0, .int .i64 0, .int .i64 0] [(0, 1), (1, 1), (2, 1), (3, 1)] (.one rfl .cb one_bool (by kernel_rfl) (.one rfl (.ci (by kernel_rfl)) one_int (by kernel_rfl) (.one rfl (.ci (by kernel_rfl)) one_int (by kernel_rfl) (.one rfl (.ci (by kernel_rfl)) one_int (by kernel_rfl) .nil))))) trivial trivial
    (cF rfl (oH [.bool false, .int .i64 0, .int .i64 0, .int .i64 0] 101) trivial trivial
    (cF rfl (oH [.bool false, .int .i64 0, .int .i64 0, .int .i64 0] 102) trivial trivial
    (cF rfl (oA 4 101 .same .t) r2 r1
    (cF rfl (oA 4 102 .same .t) r2 r1
    Chain.nil))))))
    hB ?_
  clear hS; intro a w F hS
  replace hS := hS.sub
  obtain ⟨F, hS⟩ := hS.nm [2, 1, 0] [102, 101, 0] rfl rfl
  try dsimp only [RS.sub, SF.sub, CF.sub, csub, Anc.sub, List.map, stCells, xL, xM, Nat.reduceAdd, xD, xE, xT, xU, xC, xN, zCF, rHist, rTx, rOrd, rVer, rInt, rOp] at hS
  generalize Act.tau a 1 = v1 at hS
  generalize Act.tau a 2 = v2 at hS
  refine then_n (wp_seq ?_)
  refine region_q hS
    (cF rfl (oB [] [.slice none 0 0, .slice none 0 0] [(0, 1), (1, 1)] .nil) trivial trivial
    (cF rfl (oL true 4 101 .is) r1 r1
    (cF rfl (o_buildSliceE (sz := 4) (zs := [.bool false, .int .i64 0, .int .i64 0, .int .i64 0]) (r := [(0, .tmp 35)]) (l := [_, _, _, _]) Tryz.underlying30 (by kernel_rfl) (by kernel_rfl) (by kernel_rfl) (by kernel_rfl) rfl rfl (.agg rfl .t (by kernel_rfl) (by kernel_rfl) .nil) rfl) r1 trivial
    (cF rfl (oB [(0, _), (1, _), (2, .tmp 36)] [.int .i64 0, .bool false, .slice none 0 0] [(0, 1), (1, 1), (2, 1)] (.one rfl (.ci (by kernel_rfl)) one_int (by kernel_rfl) (.one rfl .cb one_bool (by kernel_rfl) (.one rfl .t one_arr (by kernel_rfl) .nil)))) r1 trivial
    (cF rfl (oP (hInsert_c (⟨[], []⟩ : HistD) (⟨1, true, [⟨false, 5, 0, 0⟩]⟩ : TxD) (by decide) (by decide)) Tryz.func29 (Args.two (.conv (.pagg .t) (Ent.paggLe (l := [.is (.slice none 0 0), .is (.slice none 0 0)]) (l' := rHist (⟨[], []⟩ : HistD)) ⟨PVLe.nilSl, PVLe.nilSl, trivial⟩)) (.conv (.pagg .t) (Ent.paggLe (l := [.int .i64 1, .bool true, .arr 1 (([⟨false, 5, 0, 0⟩] : List OpD).flatMap rOp)]) (l' := [.int .i64 1, .bool true, .sl rOp ([⟨false, 5, 0, 0⟩] : List OpD)]) ⟨PVLe.refl, PVLe.refl, PVLe.arrSl (R := rOp) (l' := ([⟨false, 5, 0, 0⟩] : List OpD)) rfl PVsLe.refl, trivial⟩)))) r2 trivial
    (cF rfl (oM .t) r1 trivial
    (cF rfl (o_extract .t rfl) r1 trivial
    (cF rfl (o_extract .t rfl) r1 trivial
    (cF rfl (oH [.slice none 0 0, .slice none 0 0] 103) trivial trivial
    (cF rfl (oA 2 103 .same (.conv .t .agg)) r2 r1
    (cF rfl (oN .t) r1 trivial
    Chain.nil)))))))))))
    hB ?_
  clear hS; intro a w F hS
  replace hS := hS.sub
  obtain ⟨F, hS⟩ := hS.nm [4, 3, 2, 1, 0] [103, 102, 101, 0] rfl rfl
  try dsimp only [RS.sub, SF.sub, CF.sub, csub, Anc.sub, List.map, stCells, xL, xM, Nat.reduceAdd, xD, xE, xT, xU, xC, xN, zCF, ldSF, rHist, rTx, rOrd, rVer, rInt, rOp] at hS
  generalize Act.tau a 3 = v3 at hS
  rw [lv38] at hS
  dsimp only at hS
  refine then_n (wp_seq ?_)
  refine region_q hS
    (cF rfl (oL true 2 103 .is) r1 r1
    (cF rfl (oL true 4 101 .is) r1 r1
    (cF rfl (oL true 4 102 .is) r1 r1
    (cF rfl (o_buildSliceE (sz := 4) (zs := [.bool false, .int .i64 0, .int .i64 0, .int .i64 0]) (r := [(0, .tmp 43), (1, .tmp 44)]) (l := [_, _, _, _, _, _, _, _]) Tryz.underlying30 (by kernel_rfl) (by kernel_rfl) (by kernel_rfl) (by kernel_rfl) rfl rfl (.agg rfl .t (by kernel_rfl) (by kernel_rfl) (.agg rfl .t (by kernel_rfl) (by kernel_rfl) .nil)) rfl) r2 trivial
    (cF rfl (oB [(0, _), (1, _), (2, .tmp 45)] [.int .i64 0, .bool false, .slice none 0 0] [(0, 1), (1, 1), (2, 1)] (.one rfl (.ci (by kernel_rfl)) one_int (by kernel_rfl) (.one rfl .cb one_bool (by kernel_rfl) (.one rfl .t one_arr (by kernel_rfl) .nil)))) r1 trivial
    (cF rfl (oP (hInsert_c (⟨[(⟨1, true, [⟨false, 5, 0, 0⟩]⟩ : TxD)], [⟨5, [1]⟩]⟩ : HistD) (⟨2, true, [⟨false, 5, 0, 0⟩, ⟨true, 5, 1, 1⟩]⟩ : TxD) (by decide) (by decide)) Tryz.func29 (Args.two (.pagg .t) (.conv (.pagg .t) (Ent.paggLe (l := [.int .i64 2, .bool true, .arr 2 (([⟨false, 5, 0, 0⟩, ⟨true, 5, 1, 1⟩] : List OpD).flatMap rOp)]) (l' := [.int .i64 2, .bool true, .sl rOp ([⟨false, 5, 0, 0⟩, ⟨true, 5, 1, 1⟩] : List OpD)]) ⟨PVLe.refl, PVLe.refl, PVLe.arrSl (R := rOp) (l' := ([⟨false, 5, 0, 0⟩, ⟨true, 5, 1, 1⟩] : List OpD)) rfl PVsLe.refl, trivial⟩)))) r2 trivial
    (cF rfl (oM .t) r1 trivial
    (cF rfl (o_extract .t rfl) r1 trivial
    (cF rfl (o_extract .t rfl) r1 trivial
    (cF rfl (oH [.slice none 0 0, .slice none 0 0] 104) trivial trivial
    (cF rfl (oA 2 104 .same (.conv .t .agg)) r2 r1
    (cF rfl (oN .t) r1 trivial
    Chain.nil))))))))))))
    hB ?_
  clear hS; intro a w F hS
  replace hS := hS.sub
  obtain ⟨F, hS⟩ := hS.nm [6, 5, 4, 3, 1, 0] [104, 103, 102, 101, 0] rfl rfl
  try dsimp only [RS.sub, SF.sub, CF.sub, csub, Anc.sub, List.map, stCells, xL, xM, Nat.reduceAdd, xD, xE, xT, xU, xC, xN, zCF, ldSF, rHist, rTx, rOrd, rVer, rInt, rOp] at hS
  generalize Act.tau a 5 = v5 at hS
  rw [lv47] at hS
  dsimp only at hS
  refine then_n (wp_seq ?_)
  refine region_q hS
    (cF rfl (oL true 2 104 .is) r1 r1
    (cF rfl (oP (hDelete_c (⟨[(⟨1, true, [⟨false, 5, 0, 0⟩]⟩ : TxD), (⟨2, true, [⟨false, 5, 0, 0⟩, ⟨true, 5, 1, 1⟩]⟩ : TxD)], [⟨5, [1, 2]⟩]⟩ : HistD) 1 (by decide)) Tryz.func30 (Args.two (.pagg .t) (.ci (by kernel_rfl)))) r1 trivial
    (cF rfl (oM .t) r1 trivial
    (cF rfl (o_extract .t rfl) r1 trivial
    (cF rfl (o_extract .t rfl) r1 trivial
    (cF rfl (oH [.slice none 0 0, .slice none 0 0] 105) trivial trivial
    (cF rfl (oA 2 105 .same (.conv .t .agg)) r2 r1
    (cF rfl (oN .t) r1 trivial
    Chain.nil))))))))
    hB ?_
  clear hS; intro a w F hS
  replace hS := hS.sub
  obtain ⟨F, hS⟩ := hS.nm [8, 6, 5, 4, 3, 1, 0] [105, 104, 103, 102, 101, 0] rfl rfl
  try dsimp only [RS.sub, SF.sub, CF.sub, csub, Anc.sub, List.map, stCells, xL, xM, Nat.reduceAdd, xD, xE, xT, xU, xC, xN, zCF, ldSF, rHist, rTx, rOrd, rVer, rInt, rOp] at hS
  generalize Act.tau a 7 = v7 at hS
  rw [lv52] at hS
  dsimp only at hS
  refine then_n (wp_seq ?_)
  refine region_q hS
    (cF rfl (oL true 2 104 .is) r1 r1
    (cF rfl (oL true 4 101 .is) r1 r1
    (cF rfl (o_buildSliceE (sz := 4) (zs := [.bool false, .int .i64 0, .int .i64 0, .int .i64 0]) (r := [(0, .tmp 57)]) (l := [_, _, _, _]) Tryz.underlying30 (by kernel_rfl) (by kernel_rfl) (by kernel_rfl) (by kernel_rfl) rfl rfl (.agg rfl .t (by kernel_rfl) (by kernel_rfl) .nil) rfl) r1 trivial
    (cF rfl (oB [(0, _), (2, .tmp 58)] [.int .i64 0, .bool false, .slice none 0 0] [(0, 1), (1, 1), (2, 1)] (.one rfl (.ci (by kernel_rfl)) one_int (by kernel_rfl) (.one rfl .t one_arr (by kernel_rfl) .nil))) r1 trivial
    (cF rfl (oP (hAmend_c (⟨[(⟨1, true, [⟨false, 5, 0, 0⟩]⟩ : TxD), (⟨2, true, [⟨false, 5, 0, 0⟩, ⟨true, 5, 1, 1⟩]⟩ : TxD)], [⟨5, [1, 2]⟩]⟩ : HistD) (⟨1, false, [⟨false, 5, 0, 0⟩]⟩ : TxD) (by decide) (by decide)) Tryz.func31 (Args.two (.pagg .t) (.conv (.pagg .t) (Ent.paggLe (l := [.int .i64 1, .bool false, .arr 1 (([⟨false, 5, 0, 0⟩] : List OpD).flatMap rOp)]) (l' := [.int .i64 1, .bool false, .sl rOp ([⟨false, 5, 0, 0⟩] : List OpD)]) ⟨PVLe.refl, PVLe.refl, PVLe.arrSl (R := rOp) (l' := ([⟨false, 5, 0, 0⟩] : List OpD)) rfl PVsLe.refl, trivial⟩)))) r2 trivial
    (cF rfl (oM .t) r1 trivial
    (cF rfl (o_extract .t rfl) r1 trivial
    (cF rfl (o_extract .t rfl) r1 trivial
    (cF rfl (oH [.slice none 0 0, .slice none 0 0] 106) trivial trivial
    (cF rfl (oA 2 106 .same (.conv .t .agg)) r2 r1
    (cF rfl (oN .t) r1 trivial
    Chain.nil)))))))))))
    hB ?_
  clear hS; intro a w F hS
  replace hS := hS.sub
  obtain ⟨F, hS⟩ := hS.nm [10, 9, 8, 6, 5, 4, 3, 1, 0] [106, 105, 104, 103, 102, 101, 0] rfl rfl
  try dsimp only [RS.sub, SF.sub, CF.sub, csub, Anc.sub, List.map, stCells, xL, xM, Nat.reduceAdd, xD, xE, xT, xU, xC, xN, zCF, ldSF, rHist, rTx, rOrd, rVer, rInt, rOp] at hS
  generalize Act.tau a 9 = v9 at hS
  rw [lv60] at hS
  dsimp only at hS
  refine then_n (wp_seq ?_)
  refine region_q hS
    (cF rfl (oL true 2 106 .is) r1 r1
    (cF rfl (oL true 4 101 .is) r1 r1
    (cF rfl (o_buildSliceE (sz := 4) (zs := [.bool false, .int .i64 0, .int .i64 0, .int .i64 0]) (r := [(0, .tmp 65)]) (l := [_, _, _, _]) Tryz.underlying30 (by kernel_rfl) (by kernel_rfl) (by kernel_rfl) (by kernel_rfl) rfl rfl (.agg rfl .t (by kernel_rfl) (by kernel_rfl) .nil) rfl) r1 trivial
    (cF rfl (oB [(0, _), (1, _), (2, .tmp 66)] [.int .i64 0, .bool false, .slice none 0 0] [(0, 1), (1, 1), (2, 1)] (.one rfl (.ci (by kernel_rfl)) one_int (by kernel_rfl) (.one rfl .cb one_bool (by kernel_rfl) (.one rfl .t one_arr (by kernel_rfl) .nil)))) r1 trivial
    (cF rfl (oP (hAmend_c (⟨[(⟨1, false, [⟨false, 5, 0, 0⟩]⟩ : TxD), (⟨2, true, [⟨false, 5, 0, 0⟩, ⟨true, 5, 1, 1⟩]⟩ : TxD)], [⟨5, [2]⟩]⟩ : HistD) (⟨1, true, [⟨false, 5, 0, 0⟩]⟩ : TxD) (by decide) (by decide)) Tryz.func31 (Args.two (.pagg .t) (.conv (.pagg .t) (Ent.paggLe (l := [.int .i64 1, .bool true, .arr 1 (([⟨false, 5, 0, 0⟩] : List OpD).flatMap rOp)]) (l' := [.int .i64 1, .bool true, .sl rOp ([⟨false, 5, 0, 0⟩] : List OpD)]) ⟨PVLe.refl, PVLe.refl, PVLe.arrSl (R := rOp) (l' := ([⟨false, 5, 0, 0⟩] : List OpD)) rfl PVsLe.refl, trivial⟩)))) r2 trivial
    (cF rfl (oM .t) r1 trivial
    (cF rfl (o_extract .t rfl) r1 trivial
    (cF rfl (o_extract .t rfl) r1 trivial
    (cF rfl (oH [.slice none 0 0, .slice none 0 0] 107) trivial trivial
    (cF rfl (oA 2 107 .same (.conv .t .agg)) r2 r1
    (cF rfl (oN .t) r1 trivial
    Chain.nil)))))))))))
    hB ?_
  clear hS; intro a w F hS
  replace hS := hS.sub
  obtain ⟨F, hS⟩ := hS.nm [12, 11, 10, 9, 8, 6, 5, 4, 3, 0] [107, 106, 105, 104, 103, 102, 101, 0] rfl rfl
  try dsimp only [RS.sub, SF.sub, CF.sub, csub, Anc.sub, List.map, stCells, xL, xM, Nat.reduceAdd, xD, xE, xT, xU, xC, xN, zCF, ldSF, rHist, rTx, rOrd, rVer, rInt, rOp] at hS
  generalize Act.tau a 11 = v11 at hS
  rw [lv68] at hS
  dsimp only at hS
  refine then_n (wp_seq ?_)
  refine region_q hS
    (cF rfl (oL true 2 104 .is) r1 r1
    (cF rfl (oB [(0, _)] [.int .i64 0, .bool false, .slice none 0 0] [(0, 1), (1, 1), (2, 1)] (.one rfl (.ci (by kernel_rfl)) one_int (by kernel_rfl) .nil)) trivial trivial
    (cF rfl (oP (hInsert_c (⟨[(⟨1, true, [⟨false, 5, 0, 0⟩]⟩ : TxD), (⟨2, true, [⟨false, 5, 0, 0⟩, ⟨true, 5, 1, 1⟩]⟩ : TxD)], [⟨5, [1, 2]⟩]⟩ : HistD) (⟨2, false, []⟩ : TxD) (by decide) (by decide)) Tryz.func29 (Args.two (.pagg .t) (.conv (.pagg .t) (Ent.paggLe (l := [.int .i64 2, .bool false, .is (.slice none 0 0)]) (l' := [.int .i64 2, .bool false, .sl rOp []]) ⟨PVLe.refl, PVLe.refl, PVLe.nilSl, trivial⟩)))) r2 trivial
    (cF rfl (oM .t) r1 trivial
    (cF rfl (o_extract .t rfl) r1 trivial
    (cF rfl (o_extract .t rfl) r1 trivial
    (cF rfl (oH [.slice none 0 0, .slice none 0 0] 108) trivial trivial
    (cF rfl (oA 2 108 .same (.conv .t .agg)) r2 r1
    (cF rfl (oN .t) r1 trivial
    Chain.nil)))))))))
    hB ?_
  clear hS; intro a w F hS
  replace hS := hS.sub
  obtain ⟨F, hS⟩ := hS.nm [14, 12, 11, 10, 9, 8, 6, 5, 4, 3, 0] [108, 107, 106, 105, 104, 103, 102, 101, 0] rfl rfl
  try dsimp only [RS.sub, SF.sub, CF.sub, csub, Anc.sub, List.map, stCells, xL, xM, Nat.reduceAdd, xD, xE, xT, xU, xC, xN, zCF, ldSF, rHist, rTx, rOrd, rVer, rInt, rOp] at hS
  generalize Act.tau a 13 = v13 at hS
  rw [lv74] at hS
  dsimp only at hS
  refine then_n (wp_seq ?_)
  refine region_q hS
    (cF rfl (oL true 2 103 .is) r1 r1
    (cF rfl (oB [(0, _), (1, _), (2, _), (3, _)] [.bool false, .int .i64 0, .int .i64 0, .int .i64 0] [(0, 1), (1, 1), (2, 1), (3, 1)] (.one rfl .cb one_bool (by kernel_rfl) (.one rfl (.ci (by kernel_rfl)) one_int (by kernel_rfl) (.one rfl (.ci (by kernel_rfl)) one_int (by kernel_rfl) (.one rfl (.ci (by kernel_rfl)) one_int (by kernel_rfl) .nil))))) trivial trivial
    (cF rfl (o_buildSliceE (sz := 4) (zs := [.bool false, .int .i64 0, .int .i64 0, .int .i64 0]) (r := [(0, .tmp 79)]) (l := [_, _, _, _]) Tryz.underlying30 (by kernel_rfl) (by kernel_rfl) (by kernel_rfl) (by kernel_rfl) rfl rfl (.agg rfl .t (by kernel_rfl) (by kernel_rfl) .nil) rfl) r1 trivial
    (cF rfl (oB [(0, _), (2, .tmp 80)] [.int .i64 0, .bool false, .slice none 0 0] [(0, 1), (1, 1), (2, 1)] (.one rfl (.ci (by kernel_rfl)) one_int (by kernel_rfl) (.one rfl .t one_arr (by kernel_rfl) .nil))) r1 trivial
    (cF rfl (oP (hInsert_c (⟨[(⟨1, true, [⟨false, 5, 0, 0⟩]⟩ : TxD)], [⟨5, [1]⟩]⟩ : HistD) (⟨3, false, [⟨true, 5, 1, 2⟩]⟩ : TxD) (by decide) (by decide)) Tryz.func29 (Args.two (.pagg .t) (.conv (.pagg .t) (Ent.paggLe (l := [.int .i64 3, .bool false, .arr 1 (([⟨true, 5, 1, 2⟩] : List OpD).flatMap rOp)]) (l' := [.int .i64 3, .bool false, .sl rOp ([⟨true, 5, 1, 2⟩] : List OpD)]) ⟨PVLe.refl, PVLe.refl, PVLe.arrSl (R := rOp) (l' := ([⟨true, 5, 1, 2⟩] : List OpD)) rfl PVsLe.refl, trivial⟩)))) r2 trivial
    (cF rfl (oM .t) r1 trivial
    (cF rfl (o_extract .t rfl) r1 trivial
    (cF rfl (o_extract .t rfl) r1 trivial
    (cF rfl (oH [.slice none 0 0, .slice none 0 0] 109) trivial trivial
    (cF rfl (oA 2 109 .same (.conv .t .agg)) r2 r1
    (cF rfl (oN .t) r1 trivial
    Chain.nil)))))))))))
    hB ?_
  clear hS; intro a w F hS
  replace hS := hS.sub
  obtain ⟨F, hS⟩ := hS.nm [16, 14, 12, 11, 10, 9, 8, 6, 5, 4, 3, 0] [109, 108, 107, 106, 105, 104, 103, 102, 101, 0] rfl rfl
  try dsimp only [RS.sub, SF.sub, CF.sub, csub, Anc.sub, List.map, stCells, xL, xM, Nat.reduceAdd, xD, xE, xT, xU, xC, xN, zCF, ldSF, rHist, rTx, rOrd, rVer, rInt, rOp] at hS
  generalize Act.tau a 15 = v15 at hS
  rw [lv82] at hS
  dsimp only at hS
  refine then_n (wp_seq ?_)
  refine region_q hS
    (cF rfl (oL true 2 104 .is) r1 r1
    (cF rfl (oB [(0, _)] [.int .i64 0, .bool false, .slice none 0 0] [(0, 1), (1, 1), (2, 1)] (.one rfl (.ci (by kernel_rfl)) one_int (by kernel_rfl) .nil)) trivial trivial
    (cF rfl (oP (hAmend_c (⟨[(⟨1, true, [⟨false, 5, 0, 0⟩]⟩ : TxD), (⟨2, true, [⟨false, 5, 0, 0⟩, ⟨true, 5, 1, 1⟩]⟩ : TxD)], [⟨5, [1, 2]⟩]⟩ : HistD) (⟨1, false, []⟩ : TxD) (by decide) (by decide)) Tryz.func31 (Args.two (.pagg .t) (.conv (.pagg .t) (Ent.paggLe (l := [.int .i64 1, .bool false, .is (.slice none 0 0)]) (l' := [.int .i64 1, .bool false, .sl rOp []]) ⟨PVLe.refl, PVLe.refl, PVLe.nilSl, trivial⟩)))) r2 trivial
    (cF rfl (oM .t) r1 trivial
    (cF rfl (o_extract .t rfl) r1 trivial
    (cF rfl (o_extract .t rfl) r1 trivial
    (cF rfl (oH [.slice none 0 0, .slice none 0 0] 110) trivial trivial
    (cF rfl (oA 2 110 .same (.conv .t .agg)) r2 r1
    (cF rfl (oN .t) r1 trivial
    Chain.nil)))))))))
    hB ?_
  clear hS; intro a w F hS
  replace hS := hS.sub
  obtain ⟨F, hS⟩ := hS.nm [18, 16, 14, 12, 11, 10, 9, 8, 6, 5, 4, 3, 0] [110, 109, 108, 107, 106, 105, 104, 103, 102, 101, 0] rfl rfl
  try dsimp only [RS.sub, SF.sub, CF.sub, csub, Anc.sub, List.map, stCells, xL, xM, Nat.reduceAdd, xD, xE, xT, xU, xC, xN, zCF, ldSF, rHist, rTx, rOrd, rVer, rInt, rOp] at hS
  generalize Act.tau a 17 = v17 at hS
  rw [lv88] at hS
  dsimp only at hS
  refine then_n (wp_seq ?_)
  refine region_q hS
    (cF rfl (oL true 2 104 .is) r1 r1
    (cF rfl (o_buildSliceE (sz := 1) (zs := [.int .i64 0]) (r := [(0, _), (1, _)]) (l := [_, _]) Tryz.underlying37 (by kernel_rfl) (by kernel_rfl) (by kernel_rfl) (by kernel_rfl) rfl rfl (.one rfl (.ci (by kernel_rfl)) one_int (by kernel_rfl) (.one rfl (.ci (by kernel_rfl)) one_int (by kernel_rfl) .nil)) rfl) trivial trivial
    (cF rfl (oB [(0, _), (1, .tmp 93)] [.int .i64 0, .slice none 0 0] [(0, 1), (1, 1)] (.one rfl (.ci (by kernel_rfl)) one_int (by kernel_rfl) (.one rfl .t one_arr (by kernel_rfl) .nil))) r1 trivial
    (cF rfl (oP (hReorder_c (⟨[(⟨1, true, [⟨false, 5, 0, 0⟩]⟩ : TxD), (⟨2, true, [⟨false, 5, 0, 0⟩, ⟨true, 5, 1, 1⟩]⟩ : TxD)], [⟨5, [1, 2]⟩]⟩ : HistD) ⟨5, [1, 1]⟩ (by decide) (by decide)) Tryz.func32 (Args.two (.pagg .t) (.conv (.pagg .t) (Ent.paggLe (l := [.int .i64 5, .arr 2 (([1, 1] : List Int).flatMap rInt)]) (l' := [.int .i64 5, .sl rInt [1, 1]]) ⟨PVLe.refl, PVLe.arrSl (R := rInt) (l' := [1, 1]) rfl PVsLe.refl, trivial⟩)))) r2 trivial
    (cF rfl (oM .t) r1 trivial
    (cF rfl (o_extract .t rfl) r1 trivial
    (cF rfl (o_extract .t rfl) r1 trivial
    (cF rfl (oH [.slice none 0 0, .slice none 0 0] 111) trivial trivial
    (cF rfl (oA 2 111 .same (.conv .t .agg)) r2 r1
    (cF rfl (oN .t) r1 trivial
    Chain.nil))))))))))
    hB ?_
  clear hS; intro a w F hS
  replace hS := hS.sub
  obtain ⟨F, hS⟩ := hS.nm [20, 18, 16, 14, 12, 11, 10, 9, 8, 6, 5, 4, 3, 0] [111, 110, 109, 108, 107, 106, 105, 104, 103, 102, 101, 0] rfl rfl
  try dsimp only [RS.sub, SF.sub, CF.sub, csub, Anc.sub, List.map, stCells, xL, xM, Nat.reduceAdd, xD, xE, xT, xU, xC, xN, zCF, ldSF, rHist, rTx, rOrd, rVer, rInt, rOp] at hS
  generalize Act.tau a 19 = v19 at hS
  rw [lv95] at hS
  dsimp only at hS
  refine then_n (wp_seq ?_)
  refine region_q hS
    (cF rfl (oL true 2 104 .is) r1 r1
    (cF rfl (oB [(0, _)] [.int .i64 0, .slice none 0 0] [(0, 1), (1, 1)] (.one rfl (.ci (by kernel_rfl)) one_int (by kernel_rfl) .nil)) trivial trivial
    (cF rfl (oP (hReorder_c (⟨[(⟨1, true, [⟨false, 5, 0, 0⟩]⟩ : TxD), (⟨2, true, [⟨false, 5, 0, 0⟩, ⟨true, 5, 1, 1⟩]⟩ : TxD)], [⟨5, [1, 2]⟩]⟩ : HistD) ⟨6, []⟩ (by decide) (by decide)) Tryz.func32 (Args.two (.pagg .t) (.conv (.pagg .t) (Ent.paggLe (l := [.int .i64 6, .is (.slice none 0 0)]) (l' := [.int .i64 6, .sl rInt []]) ⟨PVLe.refl, PVLe.nilSl, trivial⟩)))) r2 trivial
    (cF rfl (oM .t) r1 trivial
    (cF rfl (o_extract .t rfl) r1 trivial
    (cF rfl (o_extract .t rfl) r1 trivial
    (cF rfl (oH [.slice none 0 0, .slice none 0 0] 112) trivial trivial
    (cF rfl (oA 2 112 .same (.conv .t .agg)) r2 r1
    (cF rfl (oN .t) r1 trivial
    Chain.nil)))))))))
    hB ?_
  clear hS; intro a w F hS
  replace hS := hS.sub
  obtain ⟨F, hS⟩ := hS.nm [22, 20, 18, 16, 14, 12, 11, 10, 9, 8, 6, 5, 4, 3, 0] [112, 111, 110, 109, 108, 107, 106, 105, 104, 103, 102, 101, 0] rfl rfl
  try dsimp only [RS.sub, SF.sub, CF.sub, csub, Anc.sub, List.map, stCells, xL, xM, Nat.reduceAdd, xD, xE, xT, xU, xC, xN, zCF, ldSF, rHist, rTx, rOrd, rVer, rInt, rOp] at hS
  generalize Act.tau a 21 = v21 at hS
  rw [lv101] at hS
  dsimp only at hS
  refine then_n (wp_seq ?_)
  refine region_q hS
    (cF rfl (oL true 2 104 .is) r1 r1
    (cF rfl (oP (hMove_c (⟨[(⟨1, true, [⟨false, 5, 0, 0⟩]⟩ : TxD), (⟨2, true, [⟨false, 5, 0, 0⟩, ⟨true, 5, 1, 1⟩]⟩ : TxD)], [⟨5, [1, 2]⟩]⟩ : HistD) 5 2 0 (by decide)) Tryz.func33 (Args.four (.pagg .t) (.ci (by kernel_rfl)) (.ci (by kernel_rfl)) (.ci (by kernel_rfl)))) r1 trivial
    (cF rfl (oM .t) r1 trivial
    (cF rfl (o_extract .t rfl) r1 trivial
    (cF rfl (o_extract .t rfl) r1 trivial
    (cF rfl (oH [.slice none 0 0, .slice none 0 0] 113) trivial trivial
    (cF rfl (oA 2 113 .same (.conv .t .agg)) r2 r1
    (cF rfl (oN .t) r1 trivial
    Chain.nil))))))))
    hB ?_
  clear hS; intro a w F hS
  replace hS := hS.sub
  obtain ⟨F, hS⟩ := hS.nm [24, 23, 22, 20, 18, 16, 14, 12, 11, 10, 9, 8, 6, 5, 4, 3, 0] [113, 112, 111, 110, 109, 108, 107, 106, 105, 104, 103, 102, 101, 0] rfl rfl
  try dsimp only [RS.sub, SF.sub, CF.sub, csub, Anc.sub, List.map, stCells, xL, xM, Nat.reduceAdd, xD, xE, xT, xU, xC, xN, zCF, ldSF, rHist, rTx, rOrd, rVer, rInt, rOp] at hS
  generalize Act.tau a 23 = v23 at hS
  rw [lv106] at hS
  dsimp only at hS
  refine then_n (wp_seq ?_)
  refine region_q hS
    (cF rfl (oL true 2 104 .is) r1 r1
    (cF rfl (oP (hDelete_c (⟨[(⟨1, true, [⟨false, 5, 0, 0⟩]⟩ : TxD), (⟨2, true, [⟨false, 5, 0, 0⟩, ⟨true, 5, 1, 1⟩]⟩ : TxD)], [⟨5, [1, 2]⟩]⟩ : HistD) 2 (by decide)) Tryz.func30 (Args.two (.pagg .t) (.ci (by kernel_rfl)))) r1 trivial
    (cF rfl (oM .t) r1 trivial
    (cF rfl (o_extract .t rfl) r1 trivial
    (cF rfl (o_extract .t rfl) r1 trivial
    (cF rfl (oH [.slice none 0 0, .slice none 0 0] 114) trivial trivial
    (cF rfl (oA 2 114 .same (.conv .t .agg)) r2 r1
    (cF rfl (oN .t) r1 trivial
    Chain.nil))))))))
    hB ?_
  clear hS; intro a w F hS
  replace hS := hS.sub
  obtain ⟨F, hS⟩ := hS.nm [26, 25, 24, 23, 22, 20, 18, 16, 14, 12, 11, 10, 9, 8, 6, 5, 4, 3, 0] [114, 113, 112, 111, 110, 109, 108, 107, 106, 105, 104, 103, 102, 101, 0] rfl rfl
  try dsimp only [RS.sub, SF.sub, CF.sub, csub, Anc.sub, List.map, stCells, xL, xM, Nat.reduceAdd, xD, xE, xT, xU, xC, xN, zCF, ldSF, rHist, rTx, rOrd, rVer, rInt, rOp] at hS
  generalize Act.tau a 25 = v25 at hS
  rw [lv111] at hS
  dsimp only at hS
  refine then_n (wp_seq ?_)
  refine region_q hS
    (cF rfl (oB [] [.int .i64 0, .bool false, .slice none 0 0] [(0, 1), (1, 1), (2, 1)] .nil) trivial trivial
    (cF rfl (o_buildSliceE (sz := 3) (zs := [.int .i64 0, .bool false, .slice none 0 0]) (r := [(0, .tmp 115)]) (l := [_, _, _]) Tryz.underlying22 (by kernel_rfl) (by kernel_rfl) (by kernel_rfl) (by kernel_rfl) rfl rfl (.agg rfl .t (by kernel_rfl) (by kernel_rfl) .nil) rfl) r1 trivial
    (cF rfl (oB [(0, .tmp 116)] [.slice none 0 0, .slice none 0 0] [(0, 1), (1, 1)] (.one rfl .t one_arr (by kernel_rfl) .nil)) r1 trivial
    (cF rfl (oB [(0, _)] [.int .i64 0, .bool false, .slice none 0 0] [(0, 1), (1, 1), (2, 1)] (.one rfl (.ci (by kernel_rfl)) one_int (by kernel_rfl) .nil)) trivial trivial
    (cF rfl (oP (hInsert_c (⟨[⟨0, false, []⟩], []⟩ : HistD) (⟨1, false, []⟩ : TxD) (by decide) (by decide)) Tryz.func29 (Args.two (.conv (.pagg .t) (Ent.paggLe (l := [.arr 1 [.int .i64 0, .bool false, .is (.slice none 0 0)], .is (.slice none 0 0)]) (l' := rHist (⟨[⟨0, false, []⟩], []⟩ : HistD)) ⟨PVLe.arrSl (R := rTx) (l' := [⟨0, false, []⟩]) rfl ⟨PVLe.refl, PVLe.refl, PVLe.nilSl, trivial⟩, PVLe.nilSl, trivial⟩)) (.conv (.pagg .t) (Ent.paggLe (l := [.int .i64 1, .bool false, .is (.slice none 0 0)]) (l' := [.int .i64 1, .bool false, .sl rOp []]) ⟨PVLe.refl, PVLe.refl, PVLe.nilSl, trivial⟩)))) r2 trivial
    (cF rfl (oM .t) r1 trivial
    (cF rfl (o_extract .t rfl) r1 trivial
    (cF rfl (o_extract .t rfl) r1 trivial
    (cF rfl (oH [.slice none 0 0, .slice none 0 0] 115) trivial trivial
    (cF rfl (oA 2 115 .same (.conv .t .agg)) r2 r1
    (cF rfl (oN .t) r1 trivial
    Chain.nil)))))))))))
    hB ?_
  clear hS; intro a w F hS
  replace hS := hS.sub
  obtain ⟨F, hS⟩ := hS.nm [28, 26, 25, 24, 23, 22, 20, 18, 16, 14, 12, 11, 10, 9, 8, 6, 5, 4, 3, 0] [115, 114, 113, 112, 111, 110, 109, 108, 107, 106, 105, 104, 103, 102, 101, 0] rfl rfl
  try dsimp only [RS.sub, SF.sub, CF.sub, csub, Anc.sub, List.map, stCells, xL, xM, Nat.reduceAdd, xD, xE, xT, xU, xC, xN, zCF, rHist, rTx, rOrd, rVer, rInt, rOp] at hS
  generalize Act.tau a 27 = v27 at hS
  rw [lv119] at hS
  dsimp only at hS
  refine then_n (wp_seq ?_)
  refine region_q hS
    (cF rfl (oL true 2 104 .is) r1 r1
    (cF rfl (oP (find_c (⟨[(⟨1, true, [⟨false, 5, 0, 0⟩]⟩ : TxD), (⟨2, true, [⟨false, 5, 0, 0⟩, ⟨true, 5, 1, 1⟩]⟩ : TxD)], [⟨5, [1, 2]⟩]⟩ : HistD) 2 (by decide)) Tryz.func9 (Args.two (.pagg .t) (.ci (by kernel_rfl)))) r1 trivial
    (cF rfl (oM .t) r1 trivial
    (cF rfl (o_extract .t rfl) r1 trivial
    (cF rfl (o_extract .t rfl) r1 trivial
    (cF rfl (oH [.int .i64 0, .bool false, .slice none 0 0] 116) trivial trivial
    (cF rfl (oA 3 116 .same (.conv .t .agg)) r2 r1
    (cF rfl (oN .t) r1 trivial
    Chain.nil))))))))
    hB ?_
  clear hS; intro a w F hS
  replace hS := hS.sub
  obtain ⟨F, hS⟩ := hS.nm [30, 29, 28, 26, 25, 24, 23, 22, 20, 18, 16, 14, 12, 11, 10, 9, 8, 6, 5, 4, 3, 0] [116, 115, 114, 113, 112, 111, 110, 109, 108, 107, 106, 105, 104, 103, 102, 101, 0] rfl rfl
  try dsimp only [RS.sub, SF.sub, CF.sub, csub, Anc.sub, List.map, stCells, xL, xM, Nat.reduceAdd, xD, xE, xT, xU, xC, xN, zCF, ldSF, rHist, rTx, rOrd, rVer, rInt, rOp] at hS
  generalize Act.tau a 29 = v29 at hS
  rw [lvF] at hS
  dsimp only [Option.getD_some, Option.isSome_some] at hS
  refine then_n (wp_seq (wp_seq ?_))
  refine region_seqN hS (by kernel_rfl)
    (cG rfl (oM .t) r1 trivial
    (cG rfl (o_neq .t (.ci (by kernel_rfl))) r1 trivial
    (cG rfl (oM .t) r1 trivial
    (ChainN.cons (Cert.cond rfl rfl (fun h => o_move .t (by rfl))) r2 trivial
    (ChainN.cons (Cert.cond rfl rfl (fun h => o_neq (.w h) (.ci (by kernel_rfl)))) r2 trivial
    (cG rfl (o_or2 .t .t) r2 trivial
    (cG rfl (oM .t) r1 trivial
    (ChainN.cons (Cert.cond rfl rfl (fun h => o_move .t (by rfl))) r2 trivial
    (ChainN.cons (Cert.cond rfl rfl (fun h => o_neq (.w h) (.ci (by kernel_rfl)))) r2 trivial
    (cG rfl (o_or2 .t .t) r2 trivial
    (cG rfl (oM .t) r1 trivial
    (ChainN.cons (Cert.cond rfl rfl (fun h => o_move .t (by rfl))) r2 trivial
    (ChainN.cons (Cert.cond rfl rfl (fun h => o_neq (.w h) (.ci (by kernel_rfl)))) r2 trivial
    (cG rfl (o_or2 .t .t) r2 trivial
    (cG rfl (oM .t) r1 trivial
    (ChainN.cons (Cert.cond rfl rfl (fun h => o_move .t (by rfl))) r2 trivial
    (ChainN.cons (Cert.cond rfl rfl (fun h => o_neq (.w h) (.ci (by kernel_rfl)))) r2 trivial
    (cG rfl (o_or2 .t .t) r2 trivial
    (cG rfl (oM .t) r1 trivial
    (ChainN.cons (Cert.cond rfl rfl (fun h => o_move .t (by rfl))) r2 trivial
    (ChainN.norm [(0, _), (3, _), (5, _), (9, _), (11, _), (16, _), (18, _), (20, _), (22, _), (23, _), (24, _), (25, _), (26, _), (28, _), (29, _), (30, _), (145, _), (146, _)] [(0, _), (101, _), (102, _), (103, _), (104, _), (105, _), (106, _), (107, _), (108, _), (109, _), (110, _), (111, _), (112, _), (113, _), (114, _), (115, _), (116, _)] ⟨rfl, rfl, rfl, rfl, rfl, rfl, rfl, rfl, rfl, rfl, rfl, rfl, rfl, rfl, rfl, rfl, rfl, rfl, trivial⟩ ⟨rfl, rfl, rfl, rfl, rfl, rfl, rfl, rfl, rfl, rfl, rfl, rfl, rfl, rfl, rfl, rfl, rfl, trivial⟩
    (ChainN.cons (Cert.cond rfl rfl (fun h => o_neq (.w h) (.ci (by kernel_rfl)))) r2 trivial
    (cG rfl (o_or2 .t .t) r2 trivial
    (cG rfl (oM .t) r1 trivial
    (ChainN.cons (Cert.cond rfl rfl (fun h => o_move .t (by rfl))) r2 trivial
    (ChainN.cons (Cert.cond rfl rfl (fun h => o_neq (.w h) (.ci (by kernel_rfl)))) r2 trivial
    (cG rfl (o_or2 .t .t) r2 trivial
    (cG rfl (oM .t) r1 trivial
    (ChainN.cons (Cert.cond rfl rfl (fun h => o_move .t (by rfl))) r2 trivial
    (ChainN.cons (Cert.cond rfl rfl (fun h => o_neq (.w h) (.ci (by kernel_rfl)))) r2 trivial
    (cG rfl (o_or2 .t .t) r2 trivial
    (cG rfl (oM .t) r1 trivial
    (ChainN.cons (Cert.cond rfl rfl (fun h => o_move .t (by rfl))) r2 trivial
    (ChainN.cons (Cert.cond rfl rfl (fun h => o_neq (.w h) (.ci (by kernel_rfl)))) r2 trivial
    (cG rfl (o_or2 .t .t) r2 trivial
    (cG rfl (oM .t) r1 trivial
    (ChainN.cons (Cert.cond rfl rfl (fun h => o_move .t (by rfl))) r2 trivial
    (ChainN.cons (Cert.cond rfl rfl (fun h => o_neq (.w h) (.ci (by kernel_rfl)))) r2 trivial
    (cG rfl (o_or2 .t .t) r2 trivial
    (cG rfl (oM .t) r1 trivial
    (ChainN.cons (Cert.cond rfl rfl (fun h => o_move .t (by rfl))) r2 trivial
    (ChainN.norm [(0, _), (3, _), (5, _), (9, _), (11, _), (23, _), (25, _), (26, _), (28, _), (29, _), (30, _), (165, _), (166, _)] [(0, _), (101, _), (102, _), (103, _), (104, _), (105, _), (106, _), (107, _), (108, _), (109, _), (110, _), (111, _), (112, _), (113, _), (114, _), (115, _), (116, _)] ⟨rfl, rfl, rfl, rfl, rfl, rfl, rfl, rfl, rfl, rfl, rfl, rfl, rfl, trivial⟩ ⟨rfl, rfl, rfl, rfl, rfl, rfl, rfl, rfl, rfl, rfl, rfl, rfl, rfl, rfl, rfl, rfl, rfl, trivial⟩
    (ChainN.cons (Cert.cond rfl rfl (fun h => o_neq (.w h) (.ci (by kernel_rfl)))) r2 trivial
    (cG rfl (o_or2 .t .t) r2 trivial
    (cG rfl (oM .t) r1 trivial
    (ChainN.cons (Cert.cond rfl rfl (fun h => o_move .t (by rfl))) r2 trivial
    (ChainN.cons (Cert.cond rfl rfl (fun h => o_neq (.w h) (.ci (by kernel_rfl)))) r2 trivial
    (cG rfl (o_or2 .t .t) r2 trivial
    (cG rfl (oM .t) r1 trivial
    (ChainN.cons (Cert.cond rfl rfl (fun h => o_move .t (by rfl))) r2 trivial
    (ChainN.cons (Cert.cond rfl rfl (fun h => o_neq (.w h) (.ci (by kernel_rfl)))) r2 trivial
    (cG rfl (o_or2 .t .t) r2 trivial
    (cG rfl (oM .t) r1 trivial
    (ChainN.cons (Cert.cond rfl rfl (fun h => o_move .t (by rfl))) r2 trivial
    (ChainN.cons (Cert.cond rfl rfl (fun h => o_not (.w h))) r2 trivial
    (cG rfl (o_or2 .t .t) r2 trivial
    (cG rfl (oM .t) r1 trivial
    (ChainN.cons (Cert.cond rfl rfl (fun h => o_fieldAddr (off := 2) 116 .is (by kernel_rfl) (by rfl))) r2 r1
    (ChainN.cons (Cert.cond rfl rfl (fun h => o_load (ag := false) (sz := 1) 116 (.w h .adr) (by kernel_rfl) (by kernel_rfl) (by kernel_rfl) (by rfl))) r2 r1
    (ChainN.cons (Cert.cond rfl rfl (fun h => o_len_sl Tryz.underlying30 (.w h))) r2 trivial
    (ChainN.cons (Cert.cond rfl rfl (fun h => o_neq (.w h) (.ci (by kernel_rfl)))) r2 trivial
    (cG rfl (o_or2 .t .t) r2 trivial
    ChainN.nil))))))))))))))))))))))))))))))))))))))))))))))))))))))))))))))
    (by kernel_rfl) (by rw [hB]; kernel_rfl) ?_
  clear hS; intro a w F hS
  obtain ⟨F, hS⟩ := hS.nm [186, 25, 23, 11, 9, 5, 3, 0] [116, 115, 114, 113, 112, 111, 110, 109, 108, 107, 106, 105, 104, 103, 102, 101, 0] rfl rfl
  try dsimp only [List.map, xD, xE, xT, xU, ldSF, rHist, rTx, rOrd, rVer, rInt, rOp] at hS
  refine then_n ?_
  refine cond_b hS rfl (fun hc0 => ?_) (fun hc0 => ?_)
  ·skip
   exact absurd hc0 (by decide +kernel)
  refine wp_skip (then_n (wp_seq ?_))
  refine region_seqN hS (by kernel_rfl)
    (cG rfl (oL true 2 104 .is) r1 r1
    (cG rfl (oP (hOrder_c (⟨[(⟨1, true, [⟨false, 5, 0, 0⟩]⟩ : TxD), (⟨2, true, [⟨false, 5, 0, 0⟩, ⟨true, 5, 1, 1⟩]⟩ : TxD)], [⟨5, [1, 2]⟩]⟩ : HistD) 5 (by decide)) Tryz.func15 (Args.two (.pagg .t) (.ci (by kernel_rfl)))) r1 trivial
    (cG rfl (o_buildSliceE (sz := 1) (zs := [.int .i64 0]) (r := [(0, _), (1, _)]) (l := [_, _]) Tryz.underlying37 (by kernel_rfl) (by kernel_rfl) (by kernel_rfl) (by kernel_rfl) rfl rfl (.one rfl (.ci (by kernel_rfl)) one_int (by kernel_rfl) (.one rfl (.ci (by kernel_rfl)) one_int (by kernel_rfl) .nil)) rfl) trivial trivial
    (cG rfl (oP (sameInts_c _ [1, 2]) Tryz.func14 (Args.two .t (.conv .t (Ent.arrSl (R := rInt) (l := [1, 2]) rfl)))) r2 trivial
    (cG rfl (oM .t) r1 trivial
    (ChainN.cons (Cert.cond rfl rfl (fun h => o_load (ag := true) (sz := 2) 106 .is (by kernel_rfl) (by kernel_rfl) (by kernel_rfl) (by rfl))) r2 r1
    (ChainN.cons (Cert.cond rfl rfl (fun h => o_callP (hOrder_c (⟨[(⟨1, false, [⟨false, 5, 0, 0⟩]⟩ : TxD), (⟨2, true, [⟨false, 5, 0, 0⟩, ⟨true, 5, 1, 1⟩]⟩ : TxD)], [⟨5, [2]⟩]⟩ : HistD) 5 (by decide)) Tryz.func15 rfl (by kernel_rfl) (Args.two (.pagg (.w h)) (.ci (by kernel_rfl))))) r2 trivial
    (ChainN.cons (Cert.cond rfl rfl (fun h => o_buildSliceE (sz := 1) (zs := [.int .i64 0]) (r := [(0, _)]) (l := [_]) Tryz.underlying37 (by kernel_rfl) (by kernel_rfl) (by kernel_rfl) (by kernel_rfl) rfl rfl (.one rfl (.ci (by kernel_rfl)) one_int (by kernel_rfl) .nil) rfl)) r1 trivial
    (ChainN.cons (Cert.cond rfl rfl (fun h => o_callP (sameInts_c _ [2]) Tryz.func14 rfl (by kernel_rfl) (Args.two (.w h) (.conv (.w h) (Ent.arrSl (R := rInt) (l := [2]) rfl))))) r3 trivial
    (cG rfl (o_and2 .t .t) r2 trivial
    (cG rfl (oM .t) r1 trivial
    (ChainN.cons (Cert.cond rfl rfl (fun h => o_load (ag := true) (sz := 2) 107 .is (by kernel_rfl) (by kernel_rfl) (by kernel_rfl) (by rfl))) r2 r1
    (ChainN.cons (Cert.cond rfl rfl (fun h => o_callP (hOrder_c (⟨[(⟨1, true, [⟨false, 5, 0, 0⟩]⟩ : TxD), (⟨2, true, [⟨false, 5, 0, 0⟩, ⟨true, 5, 1, 1⟩]⟩ : TxD)], [⟨5, [2, 1]⟩]⟩ : HistD) 5 (by decide)) Tryz.func15 rfl (by kernel_rfl) (Args.two (.pagg (.w h)) (.ci (by kernel_rfl))))) r2 trivial
    (ChainN.cons (Cert.cond rfl rfl (fun h => o_buildSliceE (sz := 1) (zs := [.int .i64 0]) (r := [(0, _), (1, _)]) (l := [_, _]) Tryz.underlying37 (by kernel_rfl) (by kernel_rfl) (by kernel_rfl) (by kernel_rfl) rfl rfl (.one rfl (.ci (by kernel_rfl)) one_int (by kernel_rfl) (.one rfl (.ci (by kernel_rfl)) one_int (by kernel_rfl) .nil)) rfl)) r1 trivial
    (ChainN.cons (Cert.cond rfl rfl (fun h => o_callP (sameInts_c _ [2, 1]) Tryz.func14 rfl (by kernel_rfl) (Args.two (.w h) (.conv (.w h) (Ent.arrSl (R := rInt) (l := [2, 1]) rfl))))) r3 trivial
    (cG rfl (o_and2 .t .t) r2 trivial
    (cG rfl (oM .t) r1 trivial
    (ChainN.cons (Cert.cond rfl rfl (fun h => o_load (ag := true) (sz := 2) 113 .is (by kernel_rfl) (by kernel_rfl) (by kernel_rfl) (by rfl))) r2 r1
    (ChainN.cons (Cert.cond rfl rfl (fun h => o_callP (hOrder_c (⟨[(⟨1, true, [⟨false, 5, 0, 0⟩]⟩ : TxD), (⟨2, true, [⟨false, 5, 0, 0⟩, ⟨true, 5, 1, 1⟩]⟩ : TxD)], [⟨5, [2, 1]⟩]⟩ : HistD) 5 (by decide)) Tryz.func15 rfl (by kernel_rfl) (Args.two (.pagg (.w h)) (.ci (by kernel_rfl))))) r2 trivial
    (ChainN.cons (Cert.cond rfl rfl (fun h => o_buildSliceE (sz := 1) (zs := [.int .i64 0]) (r := [(0, _), (1, _)]) (l := [_, _]) Tryz.underlying37 (by kernel_rfl) (by kernel_rfl) (by kernel_rfl) (by kernel_rfl) rfl rfl (.one rfl (.ci (by kernel_rfl)) one_int (by kernel_rfl) (.one rfl (.ci (by kernel_rfl)) one_int (by kernel_rfl) .nil)) rfl)) r1 trivial
    (ChainN.norm [(0, _), (3, _), (5, _), (25, _), (203, _), (205, _), (206, _)] [(0, _), (101, _), (102, _), (103, _), (104, _), (105, _), (106, _), (107, _), (108, _), (109, _), (110, _), (111, _), (112, _), (113, _), (114, _), (115, _), (116, _)] r7 ⟨rfl, rfl, rfl, rfl, rfl, rfl, rfl, rfl, rfl, rfl, rfl, rfl, rfl, rfl, rfl, rfl, rfl, trivial⟩
    (ChainN.cons (Cert.cond rfl rfl (fun h => o_callP (sameInts_c _ [2, 1]) Tryz.func14 rfl (by kernel_rfl) (Args.two (.w h) (.conv (.w h) (Ent.arrSl (R := rInt) (l := [2, 1]) rfl))))) r3 trivial
    (cG rfl (o_and2 .t .t) r2 trivial
    (cG rfl (oM .t) r1 trivial
    (ChainN.cons (Cert.cond rfl rfl (fun h => o_load (ag := true) (sz := 2) 114 .is (by kernel_rfl) (by kernel_rfl) (by kernel_rfl) (by rfl))) r2 r1
    (ChainN.cons (Cert.cond rfl rfl (fun h => o_load (ag := true) (sz := 2) 103 .is (by kernel_rfl) (by kernel_rfl) (by kernel_rfl) (by rfl))) r2 r1
    (ChainN.cons (Cert.cond rfl rfl (fun h => o_callP (hSame_c (⟨[(⟨1, true, [⟨false, 5, 0, 0⟩]⟩ : TxD)], [⟨5, [1]⟩]⟩ : HistD) (⟨[(⟨1, true, [⟨false, 5, 0, 0⟩]⟩ : TxD)], [⟨5, [1]⟩]⟩ : HistD)) Tryz.func21 rfl (by kernel_rfl) (Args.two (.pagg (.w h)) (.pagg (.w h))))) r3 trivial
    (cG rfl (o_and2 .t .t) r2 trivial
    (cG rfl (oM .t) r1 trivial
    (ChainN.cons (Cert.cond rfl rfl (fun h => o_load (ag := true) (sz := 2) 103 .is (by kernel_rfl) (by kernel_rfl) (by kernel_rfl) (by rfl))) r2 r1
    (ChainN.cons (Cert.cond rfl rfl (fun h => o_load (ag := true) (sz := 2) 104 .is (by kernel_rfl) (by kernel_rfl) (by kernel_rfl) (by rfl))) r2 r1
    (ChainN.cons (Cert.cond rfl rfl (fun h => o_callP (hSame_c (⟨[(⟨1, true, [⟨false, 5, 0, 0⟩]⟩ : TxD)], [⟨5, [1]⟩]⟩ : HistD) (⟨[(⟨1, true, [⟨false, 5, 0, 0⟩]⟩ : TxD), (⟨2, true, [⟨false, 5, 0, 0⟩, ⟨true, 5, 1, 1⟩]⟩ : TxD)], [⟨5, [1, 2]⟩]⟩ : HistD)) Tryz.func21 rfl (by kernel_rfl) (Args.two (.pagg (.w h)) (.pagg (.w h))))) r3 trivial
    (ChainN.cons (Cert.cond rfl rfl (fun h => o_not (.w h))) r2 trivial
    (cG rfl (o_and2 .t .t) r2 trivial
    (cG rfl (oM .t) r1 trivial
    (ChainN.cons (Cert.cond rfl rfl (fun h => o_load (ag := true) (sz := 2) 104 .is (by kernel_rfl) (by kernel_rfl) (by kernel_rfl) (by rfl))) r2 r1
    (ChainN.cons (Cert.cond rfl rfl (fun h => o_callP (hWeight_c (⟨[(⟨1, true, [⟨false, 5, 0, 0⟩]⟩ : TxD), (⟨2, true, [⟨false, 5, 0, 0⟩, ⟨true, 5, 1, 1⟩]⟩ : TxD)], [⟨5, [1, 2]⟩]⟩ : HistD) (by decide)) Tryz.func19 rfl (by kernel_rfl) (Args.one (.pagg (.w h))))) r2 trivial
    (ChainN.cons (Cert.cond rfl rfl (fun h => o_eql (.w h) (.ci (by kernel_rfl)))) r2 trivial
    (cG rfl (o_and2 .t .t) r2 trivial
    (cG rfl (oM .t) r1 trivial
    (ChainN.cons (Cert.cond rfl rfl (fun h => o_load (ag := true) (sz := 2) 104 .is (by kernel_rfl) (by kernel_rfl) (by kernel_rfl) (by rfl))) r2 r1
    (ChainN.norm [(0, _), (5, _), (225, _), (226, _)] [(0, _), (101, _), (102, _), (103, _), (104, _), (105, _), (106, _), (107, _), (108, _), (109, _), (110, _), (111, _), (112, _), (113, _), (114, _), (115, _), (116, _)] r4 ⟨rfl, rfl, rfl, rfl, rfl, rfl, rfl, rfl, rfl, rfl, rfl, rfl, rfl, rfl, rfl, rfl, rfl, trivial⟩
    (ChainN.cons (Cert.cond rfl rfl (fun h => o_callP (rightH_c (⟨[(⟨1, true, [⟨false, 5, 0, 0⟩]⟩ : TxD), (⟨2, true, [⟨false, 5, 0, 0⟩, ⟨true, 5, 1, 1⟩]⟩ : TxD)], [⟨5, [1, 2]⟩]⟩ : HistD) (by decide)) Tryz.func12 rfl (by kernel_rfl) (Args.one (.pagg (.w h))))) r2 trivial
    (cG rfl (o_and2 .t .t) r2 trivial
    (cG rfl (oM .t) r1 trivial
    (ChainN.cons (Cert.cond rfl rfl (fun h => o_build (r := [(0, _)]) (zs := [.int .i64 0, .slice none 0 0]) (pl := [(0, 1), (1, 1)]) (by kernel_rfl) (by kernel_rfl) (.one rfl (.ci (by kernel_rfl)) one_int (by kernel_rfl) .nil) (by rfl))) r1 trivial
    (ChainN.cons (Cert.cond rfl rfl (fun h => o_buildSliceE (sz := 2) (zs := [.int .i64 0, .slice none 0 0]) (r := [(0, .tmp 230)]) (l := [_, _]) Tryz.underlying23 (by kernel_rfl) (by kernel_rfl) (by kernel_rfl) (by kernel_rfl) rfl rfl (.agg rfl (.w h) (by kernel_rfl) (by kernel_rfl) .nil) rfl)) r2 trivial
    (ChainN.cons (Cert.cond rfl rfl (fun h => o_build (r := [(1, .tmp 231)]) (zs := [.slice none 0 0, .slice none 0 0]) (pl := [(0, 1), (1, 1)]) (by kernel_rfl) (by kernel_rfl) (.one rfl (.w h) one_arr (by kernel_rfl) .nil) (by rfl))) r2 trivial
    (ChainN.cons (Cert.cond rfl rfl (fun h => o_callP (rightH_c (⟨[], [⟨1, []⟩]⟩ : HistD) (by decide)) Tryz.func12 rfl (by kernel_rfl) (Args.one (.conv (.pagg (.w h)) (Ent.paggLe (l := [.is (.slice none 0 0), .arr 1 [.int .i64 1, .is (.slice none 0 0)]]) (l' := rHist (⟨[], [⟨1, []⟩]⟩ : HistD)) ⟨PVLe.nilSl, PVLe.arrSl (R := rOrd) (l' := [⟨1, []⟩]) rfl ⟨PVLe.refl, PVLe.nilSl, trivial⟩, trivial⟩))))) r2 trivial
    (ChainN.cons (Cert.cond rfl rfl (fun h => o_not (.w h))) r2 trivial
    (cG rfl (o_and2 .t .t) r2 trivial
    (cG rfl (oM .t) r1 trivial
    (ChainN.cons (Cert.cond rfl rfl (fun h => o_load (ag := true) (sz := 2) 104 .is (by kernel_rfl) (by kernel_rfl) (by kernel_rfl) (by rfl))) r2 r1
    (ChainN.cons (Cert.cond rfl rfl (fun h => o_build (r := [(1, _)]) (zs := [.int .i64 0, .int .i64 0, .int .i64 0]) (pl := [(0, 1), (1, 1), (2, 1)]) (by kernel_rfl) (by kernel_rfl) (.one rfl (.ci (by kernel_rfl)) one_int (by kernel_rfl) .nil) (by rfl))) r1 trivial
    (ChainN.cons (Cert.cond rfl rfl (fun h => o_callP (has_c (⟨[(⟨1, true, [⟨false, 5, 0, 0⟩]⟩ : TxD), (⟨2, true, [⟨false, 5, 0, 0⟩, ⟨true, 5, 1, 1⟩]⟩ : TxD)], [⟨5, [1, 2]⟩]⟩ : HistD) ⟨0, 9, 0⟩ (by decide)) Tryz.func17 rfl (by kernel_rfl) (Args.two (.pagg (.w h)) (.pagg (.w h))))) r3 trivial
    (cG rfl (o_and2 .t .t) r2 trivial
    (cG rfl (oM .t) r1 trivial
    (ChainN.cons (Cert.cond rfl rfl (fun h => o_load (ag := true) (sz := 2) 104 .is (by kernel_rfl) (by kernel_rfl) (by kernel_rfl) (by rfl))) r2 r1
    (ChainN.cons (Cert.cond rfl rfl (fun h => o_build (r := [(0, _), (1, _), (2, _)]) (zs := [.int .i64 0, .int .i64 0, .int .i64 0]) (pl := [(0, 1), (1, 1), (2, 1)]) (by kernel_rfl) (by kernel_rfl) (.one rfl (.ci (by kernel_rfl)) one_int (by kernel_rfl) (.one rfl (.ci (by kernel_rfl)) one_int (by kernel_rfl) (.one rfl (.ci (by kernel_rfl)) one_int (by kernel_rfl) .nil))) (by rfl))) r1 trivial
    (ChainN.cons (Cert.cond rfl rfl (fun h => o_callP (has_c (⟨[(⟨1, true, [⟨false, 5, 0, 0⟩]⟩ : TxD), (⟨2, true, [⟨false, 5, 0, 0⟩, ⟨true, 5, 1, 1⟩]⟩ : TxD)], [⟨5, [1, 2]⟩]⟩ : HistD) ⟨1, 5, 1⟩ (by decide)) Tryz.func17 rfl (by kernel_rfl) (Args.two (.pagg (.w h)) (.pagg (.w h))))) r3 trivial
    (cG rfl (o_and2 .t .t) r2 trivial
    (cG rfl (oM .t) r1 trivial
    (ChainN.norm [(0, _), (5, _), (246, _)] [(0, _), (101, _), (102, _), (103, _), (104, _), (105, _), (106, _), (107, _), (108, _), (109, _), (110, _), (111, _), (112, _), (113, _), (114, _), (115, _), (116, _)] r3 ⟨rfl, rfl, rfl, rfl, rfl, rfl, rfl, rfl, rfl, rfl, rfl, rfl, rfl, rfl, rfl, rfl, rfl, trivial⟩
    (ChainN.cons (Cert.cond rfl rfl (fun h => o_load (ag := true) (sz := 2) 104 .is (by kernel_rfl) (by kernel_rfl) (by kernel_rfl) (by rfl))) r2 r1
    (ChainN.cons (Cert.cond rfl rfl (fun h => o_build (r := [(0, _), (1, _), (2, _)]) (zs := [.int .i64 0, .int .i64 0, .int .i64 0]) (pl := [(0, 1), (1, 1), (2, 1)]) (by kernel_rfl) (by kernel_rfl) (.one rfl (.ci (by kernel_rfl)) one_int (by kernel_rfl) (.one rfl (.ci (by kernel_rfl)) one_int (by kernel_rfl) (.one rfl (.ci (by kernel_rfl)) one_int (by kernel_rfl) .nil))) (by rfl))) r1 trivial
    (ChainN.cons (Cert.cond rfl rfl (fun h => o_callP (has_c (⟨[(⟨1, true, [⟨false, 5, 0, 0⟩]⟩ : TxD), (⟨2, true, [⟨false, 5, 0, 0⟩, ⟨true, 5, 1, 1⟩]⟩ : TxD)], [⟨5, [1, 2]⟩]⟩ : HistD) ⟨1, 5, 2⟩ (by decide)) Tryz.func17 rfl (by kernel_rfl) (Args.two (.pagg (.w h)) (.pagg (.w h))))) r3 trivial
    (ChainN.cons (Cert.cond rfl rfl (fun h => o_not (.w h))) r2 trivial
    (cG rfl (o_and2 .t .t) r2 trivial
    (cG rfl (oM .t) r1 trivial
    (ChainN.cons (Cert.cond rfl rfl (fun h => o_load (ag := true) (sz := 2) 104 .is (by kernel_rfl) (by kernel_rfl) (by kernel_rfl) (by rfl))) r2 r1
    (ChainN.cons (Cert.cond rfl rfl (fun h => o_build (r := [(0, _), (1, _)]) (zs := [.int .i64 0, .int .i64 0, .int .i64 0]) (pl := [(0, 1), (1, 1), (2, 1)]) (by kernel_rfl) (by kernel_rfl) (.one rfl (.ci (by kernel_rfl)) one_int (by kernel_rfl) (.one rfl (.ci (by kernel_rfl)) one_int (by kernel_rfl) .nil)) (by rfl))) r1 trivial
    (ChainN.cons (Cert.cond rfl rfl (fun h => o_callP (has_c (⟨[(⟨1, true, [⟨false, 5, 0, 0⟩]⟩ : TxD), (⟨2, true, [⟨false, 5, 0, 0⟩, ⟨true, 5, 1, 1⟩]⟩ : TxD)], [⟨5, [1, 2]⟩]⟩ : HistD) ⟨1, 5, 0⟩ (by decide)) Tryz.func17 rfl (by kernel_rfl) (Args.two (.pagg (.w h)) (.pagg (.w h))))) r3 trivial
    (ChainN.cons (Cert.cond rfl rfl (fun h => o_not (.w h))) r2 trivial
    (cG rfl (o_and2 .t .t) r2 trivial
    (cG rfl (oN .t) r1 trivial
    ChainN.nil)))))))))))))))))))))))))))))))))))))))))))))))))))))))))))))))))))))))))))
    (by kernel_rfl) (by rw [hB]; kernel_rfl) ?_
  clear hS; intro a w F hS
  obtain ⟨F, hS⟩ := hS.nm [0] [116, 115, 114, 113, 112, 111, 110, 109, 108, 107, 106, 105, 104, 103, 102, 101, 0] rfl rfl
  try dsimp only [List.map, stCells, xL, xM, Nat.reduceAdd, xD, xE, xT, xU, xC, xN, zCF, ldSF, rHist, rTx, rOrd, rVer, rInt, rOp] at hS
  refine then_n (wp_ret ?_)
  refine ret_P hfr hS rfl (.tmp rfl .nil) (.one (.bool (by decide +kernel)))

end Go.Proofs.YtpjjmolibanakaaGreat
namespace Go.Proofs.YtpjjmolibanakaaGreat
open Go Go.Gm
set_option linter.unusedVariables false
set_option linter.unusedSimpArgs false
set_option maxHeartbeats 4000000
set_option maxRecDepth 8000


end Go.Proofs.YtpjjmolibanakaaGreat
