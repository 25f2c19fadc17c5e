/- TxnReads. No condition beyond those that each theorem says. -/
import Derived.Test.YtpjjmolibanakaaDoorTxL
import Derived.Test.YtpjjmolibanakaaDoorOpT
import Derived.Test.YtpjjmolibanakaaDoorLibX
namespace Go.Proofs.YtpjjmolibanakaaDoor
open Go Go.Gm
set_option linter.unusedVariables false
set_option linter.unusedSimpArgs false
set_option maxHeartbeats 4000000
set_option maxRecDepth 8000

theorem rightTL_ops {id : Int} : ∀ (l s : List OpD), rightTL id s l = 0 → ∀ o ∈ l, rightO o = true
  | [], _, _, o, ho => by cases ho
  | x :: l, s, h, o, ho => by
    have h2 := rightTL_at (id := id) (l := s ++ x :: l) (i := s.length) (by simp)
    rw [List.take_left, List.drop_left, h, nth_eq (show s.length < (s ++ x :: l).length by simp), List.getElem_append_right (Nat.le_refl _)] at h2
    simp only [Nat.sub_self, List.getElem_cons_zero] at h2
    cases hk : rightO x with
    | false => rw [if_pos hk] at h2; cases h2
    | true =>
      rw [if_neg (by rw [hk]; decide)] at h2
      split at h2
      · cases h2
      · rcases List.mem_cons.1 ho with rfl | ho
        · exact hk
        · rw [show s.length + 1 = (s ++ [x]).length by simp, show s ++ x :: l = (s ++ [x]) ++ l by simp, List.take_left, List.drop_left] at h2
          exact rightTL_ops l (s ++ [x]) h2.symm o ho
theorem rightT_facts {t : TxD} (h : rightT t = 0) : (1 ≤ t.id ∧ t.id ≤ 1048575) ∧ ∀ o ∈ t.ops, rightO o = true := by
  unfold rightT at h
  split at h
  · cases h
  · rename_i h1
    split at h
    · cases h
    · exact ⟨by omega, rightTL_ops _ _ h⟩
/-- No blank stands in it. -/
def NoSp (x : List UInt8) : Prop := ∀ b ∈ x, b ≠ 32
def flatW (l : List (List UInt8)) : List UInt8 := l.flatMap fun y => 32 :: y
def wordsT (t : TxD) : List (List UInt8) := textL t.id :: (if t.done = true then [99] else [97]) :: t.ops.map textO
theorem flatW_ops : ∀ l : List OpD, opsT l = flatW (l.map textO)
  | [] => rfl
  | o :: l => by
    have := flatW_ops l
    unfold opsT flatW at *
    rw [List.flatMap_cons, List.map_cons, List.flatMap_cons, this]
theorem textT_words (t : TxD) : textT t = textL t.id ++ flatW ((wordsT t).drop 1) := by
  unfold textT headT wordsT
  rw [flatW_ops]
  cases t.done <;> simp [flatW]
theorem digit_nosp {c : UInt8} (h : digit c = true) : c ≠ 32 := by
  intro e; subst e; revert h; decide
theorem text_nosp {n : Int} (h : 0 ≤ n) : NoSp (textL n) := fun b hb => digit_nosp (List.all_eq_true.1 (text_digits h) b hb)
theorem rightO_in {o : OpD} (hk : rightO o = true) : 0 ≤ o.key ∧ 0 ≤ o.tx ∧ 0 ≤ o.nth := by
  unfold rightO at hk
  cases hr : o.read with
  | false =>
    rw [hr] at hk
    simp [idB] at hk
    omega
  | true =>
    rw [hr, if_pos rfl] at hk
    unfold rightV idB at hk
    by_cases h : o.tx = 0
    · simp [h] at hk; omega
    · simp [h] at hk; omega
theorem textO_nosp {o : OpD} (hk : rightO o = true) : NoSp (textO o) := by
  obtain ⟨h1, h2, h3⟩ := rightO_in hk
  intro b hb
  cases hr : o.read with
  | false =>
    rw [textO_write hk hr] at hb
    rcases List.mem_cons.1 hb with rfl | hb
    · decide
    · exact text_nosp h1 b hb
  | true =>
    by_cases h0 : o.tx = 0
    · rw [textO_first hk hr h0] at hb
      rcases List.mem_cons.1 hb with rfl | hb
      · decide
      · rcases List.mem_append.1 hb with hb | hb
        · exact text_nosp h1 b hb
        · rcases List.mem_cons.1 hb with rfl | hb
          · decide
          · exact text_nosp (Int.le_refl 0) b hb
    · rw [textO_read hk hr h0] at hb
      rcases List.mem_cons.1 hb with rfl | hb
      · decide
      · rcases List.mem_append.1 hb with hb | hb
        · exact text_nosp h1 b hb
        · rcases List.mem_cons.1 hb with rfl | hb
          · decide
          · rcases List.mem_append.1 hb with hb | hb
            · exact text_nosp h2 b hb
            · rcases List.mem_cons.1 hb with rfl | hb
              · decide
              · exact text_nosp h3 b hb
theorem wordsT_nosp {t : TxD} (h : rightT t = 0) : ∀ x ∈ wordsT t, NoSp x := by
  obtain ⟨h1, h2⟩ := rightT_facts h
  intro x hx
  unfold wordsT at hx
  rcases List.mem_cons.1 hx with rfl | hx
  · exact text_nosp (by omega)
  · rcases List.mem_cons.1 hx with rfl | hx
    · cases t.done <;> (intro b hb; simp at hb; subst hb; decide)
    · obtain ⟨o, ho, rfl⟩ := List.mem_map.1 hx
      exact textO_nosp (h2 o ho)
theorem span_sp {x : List UInt8} (h : NoSp x) : ∀ {y : List UInt8} {l m : List (List UInt8)}, NoSp y → x ++ flatW l = y ++ flatW m → x = y ∧ flatW l = flatW m := by
  induction x with
  | nil =>
    intro y l m hy e
    match y with
    | [] => exact ⟨rfl, e⟩
    | b :: y =>
      match l with
      | [] => cases e
      | z :: l =>
        have : (32 : UInt8) = b := by injection e
        exact absurd this.symm (hy b (by simp))
  | cons a x ih =>
    intro y l m hy e
    match y with
    | [] =>
      match m with
      | [] => cases e
      | z :: m =>
        have : a = 32 := by injection e
        exact absurd this (h a (by simp))
    | b :: y =>
      have e1 : a = b := by injection e
      have e2 : x ++ flatW l = y ++ flatW m := by injection e
      obtain ⟨h1, h2⟩ := ih (fun b hb => h b (by simp [hb])) (fun b hb => hy b (by simp [hb])) e2
      exact ⟨by rw [e1, h1], h2⟩
theorem flat_inj : ∀ {l m : List (List UInt8)}, (∀ x ∈ l, NoSp x) → (∀ x ∈ m, NoSp x) → flatW l = flatW m → l = m
  | [], [], _, _, _ => rfl
  | [], z :: m, _, _, e => by cases e
  | z :: l, [], _, _, e => by cases e
  | x :: l, y :: m, hl, hm, e => by
    have e2 : x ++ flatW l = y ++ flatW m := by injection e
    obtain ⟨h1, h2⟩ := span_sp (hl x (by simp)) (hm y (by simp)) e2
    rw [h1, flat_inj (fun z hz => hl z (by simp [hz])) (fun z hz => hm z (by simp [hz])) h2]
theorem map_textO_inj : ∀ {l m : List OpD}, (∀ o ∈ l, rightO o = true) → (∀ o ∈ m, rightO o = true) → l.map textO = m.map textO → l = m
  | [], [], _, _, _ => rfl
  | [], z :: m, _, _, e => by cases e
  | z :: l, [], _, _, e => by cases e
  | x :: l, y :: m, hl, hm, e => by
    have e1 : textO x = textO y := by injection e
    have e2 : l.map textO = m.map textO := by injection e
    have h1 := opR_text (hl x (by simp))
    rw [e1, opR_text (hm y (by simp))] at h1
    have h2 : y = x := congrArg Prod.fst h1
    rw [h2, map_textO_inj (fun z hz => hl z (by simp [hz])) (fun z hz => hm z (by simp [hz])) e2]
theorem textT_inj {t u : TxD} (ht : rightT t = 0) (hu : rightT u = 0) : (textT t = textT u) ↔ t = u := by
  refine ⟨fun e => ?_, fun e => by rw [e]⟩
  obtain ⟨a1, a2⟩ := rightT_facts ht
  obtain ⟨b1, b2⟩ := rightT_facts hu
  rw [textT_words, textT_words] at e
  obtain ⟨e1, e2⟩ := span_sp (wordsT_nosp ht _ (by simp [wordsT])) (wordsT_nosp hu _ (by simp [wordsT])) e
  have e3 := flat_inj (fun x hx => wordsT_nosp ht x (List.mem_of_mem_drop hx)) (fun x hx => wordsT_nosp hu x (List.mem_of_mem_drop hx)) e2
  have h1 := read_ok (n := t.id) (by omega)
  rw [e1, read_ok (n := u.id) (by omega)] at h1
  have hid : u.id = t.id := congrArg Prod.fst h1
  have e4 : (if t.done = true then [(99 : UInt8)] else [97]) = (if u.done = true then [99] else [97]) := by unfold wordsT at e3; simp only [List.drop_succ_cons, List.drop_zero] at e3; injection e3
  have e5 : t.ops.map textO = u.ops.map textO := by unfold wordsT at e3; simp only [List.drop_succ_cons, List.drop_zero] at e3; injection e3
  have hdn : t.done = u.done := by cases h1 : t.done <;> cases h2 : u.done <;> simp [h1, h2] at e4 <;> rfl
  have hop := map_textO_inj a2 b2 e5
  cases t; cases u
  simp only at *
  subst hid; subst hdn; subst hop
  rfl
/-- Where the reading stands: in which word, and what of it is read. -/
def WInv (s : List UInt8) (ws : List (List UInt8)) (i k : Nat) (w : List UInt8) : Prop :=
  (k < ws.length ∧ i ≤ s.length ∧ ∃ r, Go.Gm.nth ws k = w ++ r ∧ s.drop i = r ++ flatW (ws.drop (k + 1))) ∨ (k = ws.length ∧ i = s.length + 1 ∧ w = [])
theorem WInv.start {x : List UInt8} {l : List (List UInt8)} : WInv (x ++ flatW l) (x :: l) 0 0 [] := .inl ⟨by simp, Nat.zero_le _, x, rfl, rfl⟩
theorem WInv.letter {s : List UInt8} {ws : List (List UInt8)} {i k : Nat} {w : List UInt8} (h : WInv s ws i k w) (hi : i < s.length) (hc : Go.Gm.nth s i ≠ 32) : WInv s ws (i + 1) k (w ++ [Go.Gm.nth s i]) := by
  rcases h with ⟨h1, h2, r, h3, h4⟩ | ⟨h1, h2, h3⟩
  · rw [drop_nth hi] at h4
    match r with
    | [] =>
      exfalso
      cases hm : ws.drop (k + 1) with
      | nil => rw [hm] at h4; cases h4
      | cons z m => rw [hm] at h4; have : Go.Gm.nth s i = 32 := by injection h4
                    exact hc this
    | b :: r =>
      have e1 : Go.Gm.nth s i = b := by injection h4
      have e2 : s.drop (i + 1) = r ++ flatW (ws.drop (k + 1)) := by injection h4
      exact .inl ⟨h1, by omega, r, by rw [h3, e1]; simp, e2⟩
  · omega
theorem WInv.whole {s : List UInt8} {ws : List (List UInt8)} {i k : Nat} {w : List UInt8} (h : WInv s ws i k w) (hn : ∀ x ∈ ws, NoSp x) (hi : i ≤ s.length) (hc : i < s.length → Go.Gm.nth s i = 32) : k < ws.length ∧ w = Go.Gm.nth ws k ∧ WInv s ws (i + 1) (k + 1) [] := by
  rcases h with ⟨h1, h2, r, h3, h4⟩ | ⟨h1, h2, h3⟩
  · have hr : r = [] := by
      match r with
      | [] => rfl
      | b :: r =>
        exfalso
        rcases Nat.lt_or_ge i s.length with hl | hl
        · rw [drop_nth hl] at h4
          have e1 : Go.Gm.nth s i = b := by injection h4
          refine hn _ (nth_mem h1) b (by rw [h3]; simp) ?_
          rw [← e1]; exact hc hl
        · rw [List.drop_of_length_le hl] at h4; cases h4
    subst hr
    rw [List.append_nil] at h3
    refine ⟨h1, h3.symm, ?_⟩
    cases hm : ws.drop (k + 1) with
    | nil =>
      rw [hm] at h4
      have h5 : s.length ≤ i := List.drop_eq_nil_iff.1 h4
      have h6 : ws.length ≤ k + 1 := List.drop_eq_nil_iff.1 hm
      exact .inr ⟨by omega, by omega, rfl⟩
    | cons z m =>
      have hk : k + 1 < ws.length := by
        refine Nat.lt_of_not_le fun h6 => ?_
        rw [List.drop_of_length_le h6] at hm; cases hm
      rw [drop_nth hk] at h4
      have hl : i < s.length := by
        refine Nat.lt_of_not_le fun h6 => ?_
        rw [List.drop_of_length_le h6] at h4; cases h4
      rw [drop_nth hl] at h4
      have e2 : s.drop (i + 1) = Go.Gm.nth ws (k + 1) ++ flatW (ws.drop (k + 1 + 1)) := by injection h4
      exact .inl ⟨hk, hl, _, rfl, e2⟩
  · omega
theorem WInv.stop {s : List UInt8} {ws : List (List UInt8)} {i k : Nat} {w : List UInt8} (h : WInv s ws i k w) (hi : ¬ i ≤ s.length) : k = ws.length := by
  rcases h with ⟨_, h2, _⟩ | ⟨h1, _⟩
  · exact absurd h2 hi
  · exact h1
theorem wordsT_len (t : TxD) : (wordsT t).length = t.ops.length + 2 := by simp [wordsT]
theorem wordsT_op {t : TxD} {k : Nat} (h : k < t.ops.length) : Go.Gm.nth (wordsT t) (k + 2) = textO (Go.Gm.nth t.ops k) := by
  rw [nth_eq (by rw [wordsT_len]; omega), nth_eq h]
  simp [wordsT]
theorem textT_len {t : TxD} (h1 : t.ops.length ≤ 100) (h2 : (textL t.id).length ≤ 100) : (textT t).length ≤ 20000 := by
  have := opsT_len t.ops
  unfold textT headT
  rw [List.length_append, List.length_append]
  split <;> simp <;> omega

theorem txnReads_c (t u : TxD) : FnP Tryd.prog 3 [.agg (rTx t), .agg (rTx u)] (.bool true) := by
  refine FnP.mk Tryd.func3 rfl Tryd.ntmps3 rfl ?_
  intro B a w F hB hfr hS
  have hid := range_i64 (Sat.aggInt hS (i := 0) (k := 0) rfl rfl)
  refine wp_seq ?_
  refine region_q hS
    (cF rfl (oX 101 (.conv .t .agg)) r1 trivial
    (cF rfl (oX 102 (.conv .t .agg)) r1 trivial
    (cF rfl (oN .cb) trivial trivial
    Chain.nil)))
    hB ?_
  clear hS; intro a w F hS
  replace hS := hS.sub
  obtain ⟨F, hS⟩ := hS.nm [4, 3, 2] [102, 101, 0] rfl rfl
  try dsimp only [RS.sub, SF.sub, CF.sub, csub, Anc.sub, List.map, zCF, rTx, rOp] at hS
  generalize Act.tau a 2 = v2 at hS
  generalize Act.tau a 3 = v3 at hS
  refine then_n (wp_seq (wp_seq ?_))
  refine region_q hS
    (cF rfl (oP (lives10_c) Tryd.func4 Args.nil) trivial trivial
    (cF rfl (o_not .t) r1 trivial
    Chain.nil))
    hB ?_
  clear hS; intro a w F hS
  obtain ⟨F, hS⟩ := hS.nm [12, 4, 3, 2] [102, 101, 0] rfl rfl
  try dsimp only [rTx, rOp] at hS
  refine then_n ?_
  refine cond_b hS rfl (fun hc0 => ?_) (fun hc0 => ?_)
  ·skip
   simp at hc0
  refine wp_skip (then_n (wp_seq (wp_seq ?_)))
  refine region_q hS
    (cF rfl (oF 2 101 .is) r1 r1
    (cF rfl (oL false 1 101 .adr) r1 r1
    (cF rfl (o_len_sl Tryd.underlying22 .t) r1 trivial
    (cF rfl (o_gtr .t (.ci (by kernel_rfl))) r1 trivial
    (cF rfl (oM .t) r1 trivial
    (Chain.cons (Cert.cond rfl rfl (fun h => o_fieldAddr (off := 2) 102 .is (by kernel_rfl) (by rfl))) r2 r1
    (Chain.cons (Cert.cond rfl rfl (fun h => o_load (ag := false) (sz := 1) 102 (.w h .adr) (by kernel_rfl) (by kernel_rfl) (by kernel_rfl) (by rfl))) r2 r1
    (Chain.cons (Cert.cond rfl rfl (fun h => o_len_sl Tryd.underlying22 (.w h))) r2 trivial
    (Chain.cons (Cert.cond rfl rfl (fun h => o_gtr (.w h) (.ci (by kernel_rfl)))) r2 trivial
    (cF rfl (o_or2 .t .t) r2 trivial
    (cF rfl (oM .t) r1 trivial
    (Chain.cons (Cert.cond rfl rfl (fun h => o_load (ag := true) (sz := 3) 101 .is (by kernel_rfl) (by kernel_rfl) (by kernel_rfl) (by rfl))) r2 r1
    (Chain.cons (Cert.cond rfl rfl (fun h => o_callP (txRight_c t) Tryd.func5 rfl (by kernel_rfl) (Args.one (.pagg (.w h))))) r2 trivial
    (Chain.cons (Cert.cond rfl rfl (fun h => o_neq (.w h) (.ci (by kernel_rfl)))) r2 trivial
    (cF rfl (o_or2 .t .t) r2 trivial
    (cF rfl (oM .t) r1 trivial
    (Chain.cons (Cert.cond rfl rfl (fun h => o_load (ag := true) (sz := 3) 102 .is (by kernel_rfl) (by kernel_rfl) (by kernel_rfl) (by rfl))) r2 r1
    (Chain.cons (Cert.cond rfl rfl (fun h => o_callP (txRight_c u) Tryd.func5 rfl (by kernel_rfl) (Args.one (.pagg (.w h))))) r2 trivial
    (Chain.cons (Cert.cond rfl rfl (fun h => o_neq (.w h) (.ci (by kernel_rfl)))) r2 trivial
    (cF rfl (o_or2 .t .t) r2 trivial
    Chain.nil))))))))))))))))))))
    hB ?_
  clear hS; intro a w F hS
  obtain ⟨F, hS⟩ := hS.nm [32, 4, 3, 2] [102, 101, 0] rfl rfl
  try dsimp only [List.map, xD, xE, xT, xU, ldSF, rTx, rOp] at hS
  refine then_n ?_
  refine cond_b hS rfl (fun hc1 => ?_) (fun hc1 => ?_)
  ·skip
   refine wp_seq ?_
   refine region_q hS
     (cF rfl (oN .cb) trivial trivial
     Chain.nil)
     hB ?_
   clear hS; intro a w F hS
   obtain ⟨F, hS⟩ := hS.nm [4, 3, 2] [102, 101, 0] rfl rfl
   try dsimp only [rTx, rOp] at hS
   refine then_n (wp_ret (then_r ?_))
   refine ret_P hfr hS rfl (.tmp rfl .nil) (.one (.bool (by first | rfl | (rw [hkn, hwn, wrap_i64 (by omega)]; simp [textT_inj hrt hru]))))
  have hcx := hc1
  simp at hcx
  have hlt : t.ops.length ≤ 100 ∧ u.ops.length ≤ 100 := by omega
  have hrt : rightT t = 0 := by omega
  have hru : rightT u = 0 := by omega
  have htl := textT_len hlt.1 (Nat.le_trans (textL_len hid) (by decide))
  have hns := wordsT_nosp hrt
  have hwn := wordsT_len t
  refine wp_skip (then_n (wp_seq ?_))
  refine region_q hS
    (cF rfl (oL true 3 101 .is) r1 r1
    (cF rfl (oP (txText_c t (by omega)) Tryd.func6 (Args.one (.pagg .t))) r1 trivial
    (cF rfl (oN .t) r1 trivial
    Chain.nil)))
    hB ?_
  clear hS; intro a w F hS
  obtain ⟨F, hS⟩ := hS.nm [5, 4, 3, 2] [102, 101, 0] rfl rfl
  try dsimp only [List.map, xD, xE, xT, xU, ldSF, rTx, rOp] at hS
  refine then_n (wp_seq ?_)
  refine region_q hS
    (cF rfl (oN (.cs (by kernel_rfl))) trivial trivial
    (cF rfl (oN (.ci (by kernel_rfl))) trivial trivial
    Chain.nil))
    hB ?_
  clear hS; intro a w F hS
  obtain ⟨F, hS⟩ := hS.nm [7, 6, 5, 4, 3, 2] [102, 101, 0] rfl rfl
  try dsimp only [rTx, rOp] at hS
  refine then_n (wp_seq (wp_seq ?_))
  refine region_q hS
    (cF rfl (oN (.ci (by kernel_rfl))) trivial trivial
    Chain.nil)
    hB ?_
  clear hS; intro a w F hS
  obtain ⟨F, hS⟩ := hS.nm [8, 7, 6, 5, 4, 3, 2] [102, 101, 0] rfl rfl
  try dsimp only [rTx, rOp] at hS
  refine then_n (wp_block ?_)
  refine loop_keep (σ := Nat × Nat × List UInt8) [2, 3, 4, 5] [0, 101, 102] (fun s => [(8, .pv (.int .i64 (s.1 : Int))), (7, .pv (.int .i64 (s.2.1 : Int))), (6, .pv (.bs s.2.2))]) (fun s => []) (fun s => WInv (textT t) (wordsT t) s.1 s.2.1 s.2.2 ∧ s.2.2.length ≤ s.1 ∧ s.2.1 ≤ s.1 ∧ s.1 ≤ 20001) (fun s => (textT t).length + 1 - s.1) ((0), (0), ([])) hS ⟨rfl, rfl, rfl, rfl, rfl, rfl, rfl, trivial⟩ ⟨rfl, rfl, rfl, trivial⟩ ⟨by rw [textT_words]; exact WInv.start, Nat.le_refl 0, Nat.le_refl 0, Nat.zero_le _⟩ ?_
  clear hS; intro s a w F hC hS
  obtain ⟨i, k, wd⟩ := s
  try dsimp only at hC
  obtain ⟨F, hS⟩ := hS.nm [8, 7, 6, 5, 4, 3, 2] [102, 101, 0] rfl rfl
  try dsimp only at hS
  obtain ⟨hw, hwl, hki, hi2⟩ := hC
  refine wp_seq (wp_seq ?_)
  refine region_q hS
    (cF rfl (oM .t) r1 trivial
    (cF rfl (oM .t) r1 trivial
    (cF rfl (o_len_bs Tryd.underlying9 .t) r1 trivial
    (cF rfl (o_leq .t .t) r2 trivial
    Chain.nil))))
    hB ?_
  clear hS; intro a w F hS
  obtain ⟨F, hS⟩ := hS.nm [38, 37, 36, 35, 8, 7, 6, 5, 4, 3, 2] [102, 101, 0] rfl rfl
  try dsimp only [rTx, rOp] at hS
  refine then_n ?_
  refine cond_b hS rfl (fun hc2 => ?_) (fun hc2 => ?_)
  ·skip
   have hin : i ≤ (textT t).length := by simp at hc2; omega
   refine wp_skip (then_n (wp_seq (wp_block (wp_seq (wp_seq ?_)))))
   refine region_q hS
     (cF rfl (oM .t) r1 trivial
     (cF rfl (oM .t) r1 trivial
     (cF rfl (o_len_bs Tryd.underlying9 .t) r1 trivial
     (cF rfl (o_lss .t .t) r2 trivial
     (cF rfl (oM .t) r1 trivial
     (Chain.cons (Cert.cond rfl rfl (fun h => o_move .t (by rfl))) r2 trivial
     (Chain.cons (Cert.cond rfl rfl (fun h => o_move .t (by rfl))) r2 trivial
     (Chain.cons (Cert.cond rfl rfl (fun h => o_index_bs Tryd.underlying9 (.w h) (.w h) (by simp at h; omega) (by simp at h; omega))) r3 trivial
     (Chain.cons (Cert.cond rfl rfl (fun h => o_neq (.w h) (.ci (by kernel_rfl)))) r2 trivial
     (cF rfl (o_and2 .t .t) r2 trivial
     Chain.nil))))))))))
     hB ?_
   clear hS; intro a w F hS
   obtain ⟨F, hS⟩ := hS.nm [50, 49, 48, 47, 46, 45, 44, 43, 42, 41, 38, 37, 36, 35, 8, 7, 6, 5, 4, 3, 2] [102, 101, 0] rfl rfl
   try dsimp only [rTx, rOp] at hS
   try simp only [Int.toNat_natCast] at hS
   refine then_n ?_
   refine cond_b hS rfl (fun hc3 => ?_) (fun hc3 => ?_)
   ·skip
    have hil : i < (textT t).length := by simp at hc3; omega
    have hne : Go.Gm.nth (textT t) i ≠ 32 := by simp [hil] at hc3; intro e; rw [e] at hc3; exact hc3 rfl
    have hi1 : IntKind.wrap .i64 ((i : Int) + 1) = ((i + 1 : Nat) : Int) := wrap_succ (by omega)
    have hsl : ((textT t).take (IntKind.wrap .i64 ((i : Int) + 1)).toNat).drop ((i : Int)).toNat = [Go.Gm.nth (textT t) i] := by rw [hi1, Int.toNat_natCast, Int.toNat_natCast, take_nth hil, List.drop_append_of_le_length (by rw [List.length_take]; omega), List.drop_of_length_le (by rw [List.length_take]; omega)]; rfl
    refine wp_seq ?_
    refine region_q hS
      (cF rfl (oM .t) r1 trivial
      (cF rfl (oM .t) r1 trivial
      (cF rfl (oM .t) r1 trivial
      (cF rfl (oM .t) r1 trivial
      (cF rfl (o_add .t (.ci (by kernel_rfl))) r1 trivial
      (cF rfl (o_slice_bs_lh Tryd.underlying9 .t .t .t (by omega) (by rw [hi1]; omega) (by rw [hi1]; omega)) r3 trivial
      (cF rfl (o_add_bs .t .t (by simp; omega)) r2 trivial
      (cF rfl (oN .t) r1 trivial
      Chain.nil))))))))
      hB ?_
    clear hS; intro a w F hS
    obtain ⟨F, hS⟩ := hS.nm [57, 56, 55, 54, 53, 52, 51, 50, 49, 48, 47, 46, 45, 44, 43, 42, 41, 38, 37, 36, 35, 8, 7, 6, 5, 4, 3, 2] [102, 101, 0] rfl rfl
    try dsimp only [rTx, rOp] at hS
    rw [hsl] at hS
    refine then_n (wp_exit (then_x (block_x (then_n ?_))))
    refine region_q hS
      (cF rfl (oM .t) r1 trivial
      (cF rfl (o_add .t (.ci (by kernel_rfl))) r1 trivial
      (cF rfl (oN .t) r1 trivial
      Chain.nil)))
      hB ?_
    clear hS; intro a w F hS
    obtain ⟨F, hS⟩ := hS.nm [57, 56, 55, 54, 53, 52, 51, 50, 49, 48, 47, 46, 45, 44, 43, 42, 41, 40, 39, 38, 37, 36, 35, 8, 7, 6, 5, 4, 3, 2] [102, 101, 0] rfl rfl
    try dsimp only [rTx, rOp] at hS
    refine then_n ?_
    have hC2 : WInv (textT t) (wordsT t) (i + 1) k (wd ++ [Go.Gm.nth (textT t) i]) ∧ (wd ++ [Go.Gm.nth (textT t) i]).length ≤ i + 1 ∧ k ≤ i + 1 ∧ i + 1 ≤ 20001 := ⟨hw.letter hil hne, by rw [List.length_append, List.length_singleton]; omega, by omega, by omega⟩
    have hmu : (textT t).length + 1 - (i + 1) < (textT t).length + 1 - i := by omega
    replace hS := hS.ent (i := 8) (s' := .pv (.int .i64 ((i + 1 : Nat) : Int))) rfl (.int (wrap_succ (by omega)))
    obtain ⟨F, hS⟩ := hS.nm [5, 4, 3, 2, 6, 7, 8] [102, 101, 0] rfl rfl
    exact ⟨((i + 1), (k), (wd ++ [Go.Gm.nth (textT t) i])), F, hC2, hS, hmu⟩
   have hsp : i < (textT t).length → Go.Gm.nth (textT t) i = 32 := fun hil => by simp [hil] at hc3; first | exact UInt8.toNat_inj.1 (by simpa using hc3) | (have h9 := hc3; exact UInt8.toNat_inj.1 (by show _ = 32; omega))
   have hwh := hw.whole hns hin hsp
   refine wp_skip (then_n (wp_seq (wp_seq ?_)))
   refine region_q hS
     (cF rfl (oM .t) r1 trivial
     (cF rfl (o_geq .t (.ci (by kernel_rfl))) r1 trivial
     Chain.nil))
     hB ?_
   clear hS; intro a w F hS
   obtain ⟨F, hS⟩ := hS.nm [59, 58, 50, 49, 48, 47, 46, 45, 44, 43, 42, 41, 38, 37, 36, 35, 8, 7, 6, 5, 4, 3, 2] [102, 101, 0] rfl rfl
   try dsimp only [rTx, rOp] at hS
   refine then_n ?_
   refine cond_b hS rfl (fun hc4 => ?_) (fun hc4 => ?_)
   ·skip
    have hk2g : 2 ≤ k := by simp at hc4; omega
    have hkl := hwh.1
    have hk2 : IntKind.wrap .i64 ((k : Int) - 2) = ((k - 2 : Nat) : Int) := by rw [wrap_i64 (by omega)]; omega
    have hwx : wd = textO (Go.Gm.nth t.ops (k - 2)) := by rw [hwh.2.1, ← wordsT_op (by omega), show k - 2 + 2 = k by omega]
    have hrd : opR wd = ((Go.Gm.nth t.ops (k - 2)), 0) := by rw [hwx]; exact opR_text ((rightT_facts hrt).2 _ (nth_mem (by omega)))
    refine wp_seq ?_
    refine region_q hS
      (cF rfl (oM .t) r1 trivial
      (cF rfl (oP (opRead_c wd (by omega)) Tryd.func7 (Args.one .t)) r1 trivial
      (cF rfl (oM .t) r1 trivial
      (cF rfl (o_extract .t rfl) r1 trivial
      (cF rfl (o_extract .t rfl) r1 trivial
      (cF rfl (oH [.bool false, .int .i64 0, .int .i64 0, .int .i64 0] 103) trivial trivial
      (cF rfl (oA 4 103 .same (.conv .t .agg)) r2 r1
      (cF rfl (oN .t) r1 trivial
      Chain.nil))))))))
      hB ?_
    clear hS; intro a w F hS
    replace hS := hS.sub
    obtain ⟨F, hS⟩ := hS.nm [64, 63, 62, 61, 60, 59, 58, 50, 49, 48, 47, 46, 45, 44, 43, 42, 41, 38, 37, 36, 35, 10, 9, 8, 7, 6, 5, 4, 3, 2] [103, 102, 101, 0] rfl rfl
    try dsimp only [RS.sub, SF.sub, CF.sub, csub, Anc.sub, List.map, stCells, xL, xM, Nat.reduceAdd, xD, xE, xT, xU, xC, xN, zCF, rTx, rOp] at hS
    generalize Act.tau a 9 = v9 at hS
    rw [hrd] at hS
    refine then_n (wp_seq ?_)
    refine region_any (by kernel_rfl) hS (by kernel_rfl)
      (cF rfl (oM .t) r1 trivial
      (cF rfl (o_neq .t (.ci (by kernel_rfl))) r1 trivial
      (cF rfl (oM .t) r1 trivial
      (Chain.cons (Cert.cond rfl rfl (fun h => o_move .t (by rfl))) r2 trivial
      (Chain.cons (Cert.cond rfl rfl (fun h => o_sub (.w h) (.ci (by kernel_rfl)))) r2 trivial
      (Chain.cons (Cert.cond rfl rfl (fun h => o_fieldAddr (off := 2) 101 .is (by kernel_rfl) (by rfl))) r2 r1
      (Chain.cons (Cert.cond rfl rfl (fun h => o_load (ag := false) (sz := 1) 101 (.w h .adr) (by kernel_rfl) (by kernel_rfl) (by kernel_rfl) (by rfl))) r2 r1
      (Chain.cons (Cert.cond rfl rfl (fun h => o_len_sl Tryd.underlying22 (.w h))) r2 trivial
      (Chain.cons (Cert.cond rfl rfl (fun h => o_geq (.w h) (.w h))) r3 trivial
      (cF rfl (o_or2 .t .t) r2 trivial
      (cF rfl (oM .t) r1 trivial
      (Chain.cons (Cert.cond rfl rfl (fun h => o_load (ag := true) (sz := 4) 103 .is (by kernel_rfl) (by kernel_rfl) (by kernel_rfl) (by rfl))) r2 r1
      (Chain.cons (Cert.cond rfl rfl (fun h => o_fieldAddr (off := 2) 101 .is (by kernel_rfl) (by rfl))) r2 r1
      (Chain.cons (Cert.cond rfl rfl (fun h => o_load (ag := false) (sz := 1) 101 (.w h .adr) (by kernel_rfl) (by kernel_rfl) (by kernel_rfl) (by rfl))) r2 r1
      (Chain.cons (Cert.cond rfl rfl (fun h => o_move .t (by rfl))) r2 trivial
      (Chain.cons (Cert.cond rfl rfl (fun h => o_sub (.w h) (.ci (by kernel_rfl)))) r2 trivial
      (Chain.cons (Cert.cond rfl rfl (fun h => o_indexAddr_sl (sz := 4) (.mk Tryd.underlying22 (by kernel_rfl)) (by intro x; rfl) (.w h) (.w h) (by rw [hk2]; omega) (by rw [hk2]; omega))) r3 trivial
      (Chain.cons (Cert.cond rfl rfl (fun h => o_load_ref (ag := true) (sz := 4) (.w h) (by kernel_rfl) (by kernel_rfl) (by kernel_rfl))) r2 trivial
      (Chain.cons (Cert.cond rfl rfl (fun h => o_neqS (ks := [false, true, true, true]) (by kernel_rfl) (.w h) (.w h) (.bool (.int (.int (.int .nil)))))) r3 trivial
      (cF rfl (o_or2 .t .t) r2 trivial
      Chain.nil))))))))))))))))))))
      (by kernel_rfl) (by rw [hB]; kernel_rfl) ?_
    clear hS; intro a w F hS
    obtain ⟨F, hS⟩ := hS.nm [84, 83, 82, 81, 80, 79, 78, 77, 76, 75, 74, 73, 72, 71, 70, 69, 68, 67, 66, 65, 64, 63, 62, 61, 60, 59, 58, 50, 49, 48, 47, 46, 45, 44, 43, 42, 41, 38, 37, 36, 35, 10, 9, 8, 7, 6, 5, 4, 3, 2] [103, 102, 101, 0] rfl rfl
    try dsimp only [List.map, xD, xE, xT, xU, ldSF, rTx, rOp] at hS
    try simp only [Int.toNat_natCast] at hS
    refine then_n ?_
    refine cond_b hS rfl (fun hc5 => ?_) (fun hc5 => ?_)
    ·skip
     exfalso
     simp [hrd, hk2] at hc5
     try omega
    refine wp_skip (then_n (wp_seq ?_))
    refine region_q hS
      (cF rfl (oN (.cs (by kernel_rfl))) trivial trivial
      Chain.nil)
      hB ?_
    clear hS; intro a w F hS
    obtain ⟨F, hS⟩ := hS.nm [84, 83, 82, 81, 80, 79, 78, 77, 76, 75, 74, 73, 72, 71, 70, 69, 68, 67, 66, 65, 64, 63, 62, 61, 60, 59, 58, 50, 49, 48, 47, 46, 45, 44, 43, 42, 41, 38, 37, 36, 35, 10, 9, 8, 7, 6, 5, 4, 3, 2] [103, 102, 101, 0] rfl rfl
    try dsimp only [rTx, rOp] at hS
    refine then_n ?_
    refine region_q hS
      (cF rfl (oM .t) r1 trivial
      (cF rfl (o_add .t (.ci (by kernel_rfl))) r1 trivial
      (cF rfl (oN .t) r1 trivial
      Chain.nil)))
      hB ?_
    clear hS; intro a w F hS
    obtain ⟨F, hS⟩ := hS.nm [86, 85, 84, 83, 82, 81, 80, 79, 78, 77, 76, 75, 74, 73, 72, 71, 70, 69, 68, 67, 66, 65, 64, 63, 62, 61, 60, 59, 58, 50, 49, 48, 47, 46, 45, 44, 43, 42, 41, 38, 37, 36, 35, 10, 9, 8, 7, 6, 5, 4, 3, 2] [103, 102, 101, 0] rfl rfl
    try dsimp only [rTx, rOp] at hS
    refine block_n (then_n ?_)
    refine region_q hS
      (cF rfl (oM .t) r1 trivial
      (cF rfl (o_add .t (.ci (by kernel_rfl))) r1 trivial
      (cF rfl (oN .t) r1 trivial
      Chain.nil)))
      hB ?_
    clear hS; intro a w F hS
    obtain ⟨F, hS⟩ := hS.nm [86, 85, 84, 83, 82, 81, 80, 79, 78, 77, 76, 75, 74, 73, 72, 71, 70, 69, 68, 67, 66, 65, 64, 63, 62, 61, 60, 59, 58, 50, 49, 48, 47, 46, 45, 44, 43, 42, 41, 40, 39, 38, 37, 36, 35, 10, 9, 8, 7, 6, 5, 4, 3, 2] [103, 102, 101, 0] rfl rfl
    try dsimp only [rTx, rOp] at hS
    refine then_n ?_
    have hC2 : WInv (textT t) (wordsT t) (i + 1) (k + 1) [] ∧ ([] : List UInt8).length ≤ i + 1 ∧ k + 1 ≤ i + 1 ∧ i + 1 ≤ 20001 := ⟨hwh.2.2, Nat.zero_le _, by omega, by omega⟩
    have hmu : (textT t).length + 1 - (i + 1) < (textT t).length + 1 - i := by omega
    replace hS := hS.ent (i := 8) (s' := .pv (.int .i64 ((i + 1 : Nat) : Int))) rfl (.int (wrap_succ (by omega)))
    replace hS := hS.ent (i := 7) (s' := .pv (.int .i64 ((k + 1 : Nat) : Int))) rfl (.int (wrap_succ (by omega)))
    obtain ⟨F, hS⟩ := hS.nm [5, 4, 3, 2, 6, 7, 8] [102, 101, 0] rfl rfl
    exact ⟨((i + 1), (k + 1), ([])), F, hC2, hS, hmu⟩
   refine wp_skip (then_n (wp_seq ?_))
   refine region_q hS
     (cF rfl (oN (.cs (by kernel_rfl))) trivial trivial
     Chain.nil)
     hB ?_
   clear hS; intro a w F hS
   obtain ⟨F, hS⟩ := hS.nm [59, 58, 50, 49, 48, 47, 46, 45, 44, 43, 42, 41, 38, 37, 36, 35, 8, 7, 6, 5, 4, 3, 2] [102, 101, 0] rfl rfl
   try dsimp only [rTx, rOp] at hS
   refine then_n ?_
   refine region_q hS
     (cF rfl (oM .t) r1 trivial
     (cF rfl (o_add .t (.ci (by kernel_rfl))) r1 trivial
     (cF rfl (oN .t) r1 trivial
     Chain.nil)))
     hB ?_
   clear hS; intro a w F hS
   obtain ⟨F, hS⟩ := hS.nm [86, 85, 59, 58, 50, 49, 48, 47, 46, 45, 44, 43, 42, 41, 38, 37, 36, 35, 8, 7, 6, 5, 4, 3, 2] [102, 101, 0] rfl rfl
   try dsimp only [rTx, rOp] at hS
   refine block_n (then_n ?_)
   refine region_q hS
     (cF rfl (oM .t) r1 trivial
     (cF rfl (o_add .t (.ci (by kernel_rfl))) r1 trivial
     (cF rfl (oN .t) r1 trivial
     Chain.nil)))
     hB ?_
   clear hS; intro a w F hS
   obtain ⟨F, hS⟩ := hS.nm [86, 85, 59, 58, 50, 49, 48, 47, 46, 45, 44, 43, 42, 41, 40, 39, 38, 37, 36, 35, 8, 7, 6, 5, 4, 3, 2] [102, 101, 0] rfl rfl
   try dsimp only [rTx, rOp] at hS
   refine then_n ?_
   have hC2 : WInv (textT t) (wordsT t) (i + 1) (k + 1) [] ∧ ([] : List UInt8).length ≤ i + 1 ∧ k + 1 ≤ i + 1 ∧ i + 1 ≤ 20001 := ⟨hwh.2.2, Nat.zero_le _, by omega, by omega⟩
   have hmu : (textT t).length + 1 - (i + 1) < (textT t).length + 1 - i := by omega
   replace hS := hS.ent (i := 8) (s' := .pv (.int .i64 ((i + 1 : Nat) : Int))) rfl (.int (wrap_succ (by omega)))
   replace hS := hS.ent (i := 7) (s' := .pv (.int .i64 ((k + 1 : Nat) : Int))) rfl (.int (wrap_succ (by omega)))
   obtain ⟨F, hS⟩ := hS.nm [5, 4, 3, 2, 6, 7, 8] [102, 101, 0] rfl rfl
   exact ⟨((i + 1), (k + 1), ([])), F, hC2, hS, hmu⟩
  have hkn := hw.stop (by simp at hc2; omega)
  refine wp_exit (then_x (then_x (block_x (then_n (wp_seq ?_)))))
  refine region_any (by kernel_rfl) hS (by kernel_rfl)
    (cF rfl (oM .t) r1 trivial
    (cF rfl (oF 2 101 .is) r1 r1
    (cF rfl (oL false 1 101 .adr) r1 r1
    (cF rfl (o_len_sl Tryd.underlying22 .t) r1 trivial
    (cF rfl (o_add .t (.ci (by kernel_rfl))) r1 trivial
    (cF rfl (o_eql .t .t) r2 trivial
    (cF rfl (oM .t) r1 trivial
    (Chain.cons (Cert.cond rfl rfl (fun h => o_load (ag := true) (sz := 3) 101 .is (by kernel_rfl) (by kernel_rfl) (by kernel_rfl) (by rfl))) r2 r1
    (Chain.cons (Cert.cond rfl rfl (fun h => o_load (ag := true) (sz := 3) 102 .is (by kernel_rfl) (by kernel_rfl) (by kernel_rfl) (by rfl))) r2 r1
    (Chain.cons (Cert.cond rfl rfl (fun h => o_callP (txSame_c t u) Tryd.func8 rfl (by kernel_rfl) (Args.two (.pagg (.w h)) (.pagg (.w h))))) r3 trivial
    (Chain.cons (Cert.cond rfl rfl (fun h => o_move .t (by rfl))) r2 trivial
    (Chain.cons (Cert.cond rfl rfl (fun h => o_load (ag := true) (sz := 3) 102 .is (by kernel_rfl) (by kernel_rfl) (by kernel_rfl) (by rfl))) r2 r1
    (Chain.cons (Cert.cond rfl rfl (fun h => o_callP (txText_c u (by omega)) Tryd.func6 rfl (by kernel_rfl) (Args.one (.pagg (.w h))))) r2 trivial
    (Chain.cons (Cert.cond rfl rfl (fun h => o_eql_bs Tryd.underlying9 (.w h) (.w h))) r3 trivial
    (Chain.cons (Cert.cond rfl rfl (fun h => o_eqlB Tryd.underlying4 (.w h) (.w h))) r3 trivial
    (cF rfl (o_and2 .t .t) r2 trivial
    (cF rfl (oN .t) r1 trivial
    Chain.nil)))))))))))))))))
    (by kernel_rfl) (by rw [hB]; kernel_rfl) ?_
  clear hS; intro a w F hS
  obtain ⟨F, hS⟩ := hS.nm [4] [102, 101, 0] rfl rfl
  try dsimp only [List.map, xD, xE, xT, xU, ldSF, rTx, rOp] at hS
  refine then_n (wp_ret ?_)
  refine ret_P hfr hS rfl (.tmp rfl .nil) (.one (.bool (by first | rfl | (rw [hkn, hwn, wrap_i64 (by omega)]; simp [textT_inj hrt hru]))))

end Go.Proofs.YtpjjmolibanakaaDoor
