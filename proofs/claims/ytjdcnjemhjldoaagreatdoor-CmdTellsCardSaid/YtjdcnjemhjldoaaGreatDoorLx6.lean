/- The document's answer. No condition beyond those that each theorem says. -/
import Derived.Test.YtjdcnjemhjldoaaGreatDoorLx5
namespace Go.Proofs.YtjdcnjemhjldoaaGreatDoor
open Go Go.Gm
set_option linter.unusedVariables false
set_option linter.unusedSimpArgs false
set_option maxHeartbeats 4000000
set_option maxRecDepth 8000


theorem not_in {c : UInt8} {s : List UInt8} {k i : Nat} (h2 : i ≤ s.length) (h4 : ∀ j, k ≤ j → j < i → nth s j ≠ c) : c ∉ (s.take i).drop k := by
  intro hm
  obtain ⟨j, hj, e⟩ := List.getElem_of_mem hm
  rw [List.length_drop, List.length_take] at hj
  refine h4 (k + j) (by omega) (by omega) ?_
  rw [nth_eq (by omega), ← e]
  simp
theorem split_at {c : UInt8} {s : List UInt8} {k i : Nat} (h1 : k ≤ i) (h2 : i < s.length) (h3 : nth s i = c) (h4 : ∀ j, k ≤ j → j < i → nth s j ≠ c) : splitL c (s.drop k) = (s.take i).drop k :: splitL c (s.drop (i + 1)) := by
  have e : s.drop k = (s.take i).drop k ++ c :: s.drop (i + 1) := by
    conv => lhs; rw [← List.take_append_drop i s]
    rw [List.drop_append_of_le_length (by rw [List.length_take]; omega), List.drop_eq_getElem_cons h2, ← nth_eq h2, h3]
  rw [e, split_app _ _ _ (not_in (by omega) h4), split_hit]
  simp [preL]
theorem split_end {c : UInt8} {s : List UInt8} {k : Nat} (h4 : ∀ j, k ≤ j → j < s.length → nth s j ≠ c) : splitL c (s.drop k) = [s.drop k] := by
  have h := not_in (Nat.le_refl _) h4
  rw [List.take_length] at h
  have := split_app c (s.drop k) [] h
  rw [List.append_nil] at this
  rw [this]
  simp [splitL, preL]
theorem words_hole {s : List UInt8} (hs : s ≠ []) (he : [] ∈ splitL 32 s) : wordsR s = ([], 14) := by
  have h : (splitL 32 s).all (fun w => decide (w ≠ [])) = false := by
    rw [List.all_eq_false]
    exact ⟨_, he, by simp⟩
  unfold wordsR
  rw [if_neg hs, h]
  split <;> simp
theorem words_fine' {s : List UInt8} {q : List (List UInt8)} (hs : s ≠ []) (hall : s.all okB = true) (hq : q = splitL 32 s) (h : ∀ x ∈ q, x ≠ []) : wordsR s = (q, 0) := by
  rw [hq] at h ⊢
  exact words_fine hs hall fun j hj => h _ (nth_mem hj)
theorem join_step {l : List (List UInt8)} {i : Nat} (h : i < l.length) : joinL (l.take (i + 1)) = (if 0 < i then joinL (l.take i) ++ [32] else joinL (l.take i)) ++ nth l i := by
  match i, h with
  | 0, h => rw [← join_one h]; simp [joinL]
  | i + 1, h =>
    rw [if_pos (Nat.succ_pos i), List.take_succ_eq_append_getElem h, join_snoc _ _ (by intro e; have := congrArg List.length e; rw [List.length_take, List.length_nil] at this; omega), nth_eq h]
theorem okB_of {c : UInt8} (h1 : ¬ ((c.toNat : Nat) : Int) < 32) (h2 : ¬ 126 < ((c.toNat : Nat) : Int)) : okB c = true := by unfold okB; simp; omega
theorem okB_not {c : UInt8} (h1 : ((c.toNat : Nat) : Int) < 32 ∨ 126 < ((c.toNat : Nat) : Int)) : okB c = false := by unfold okB; simp; omega
theorem is_byte {c d : UInt8} (h : ((c.toNat : Nat) : Int) = ((d.toNat : Nat) : Int)) : c = d := by apply UInt8.toNat_inj.1; omega

theorem refLWords_c (s0 : List UInt8) (hs : s0.length ≤ 1000000) : FnP Tryz.prog 19 [.bs s0] (.tup [.sl rS (wordsR s0).1, .int .i64 (wordsR s0).2]) := by
  refine FnP.mk Tryz.func19 rfl Tryz.ntmps19 rfl ?_
  intro B a w F hB hfr hS
  refine wp_seq ?_
  refine region_seq hS (by kernel_rfl)
    (cF rfl (o_assign (.c rfl) (by rfl)) trivial trivial
    (cF rfl (o_assign (.ci (by kernel_rfl)) (by rfl)) trivial trivial
    Chain.nil))
    (by kernel_rfl) (by rw [hB]; kernel_rfl) ?_
  clear hS; intro a w F hS
  obtain ⟨F, hS⟩ := hS.norm [(0, _), (2, _), (3, _)] [(0, _)] r3 r1
  refine then_n ?_
  refine wp_seq ?_
  refine wp_seq ?_
  refine region_seq hS (by kernel_rfl)
    (cF rfl (o_move .t (by rfl)) r1 trivial
    (cF rfl (o_eql_bs Tryz.underlying9 .t (.cs (by kernel_rfl))) r1 trivial
    Chain.nil))
    (by kernel_rfl) (by rw [hB]; kernel_rfl) ?_
  clear hS; intro a w F hS
  obtain ⟨F, hS⟩ := hS.norm [(0, _), (2, _), (3, _), (8, _)] [(0, _)] r4 r1
  refine then_n ?_
  refine cond_b hS rfl (fun hc0 => ?_) (fun hc0 => ?_)
  ·skip
   have hr : wordsR s0 = ([], 0) := by unfold wordsR; rw [if_pos (of_decide_eq_true hc0)]
   refine wp_seq ?_
   refine region_seq hS (by kernel_rfl)
     (cF rfl (o_assign (.c rfl) (by rfl)) trivial trivial
     (cF rfl (o_assign (.ci (by kernel_rfl)) (by rfl)) trivial trivial
     Chain.nil))
     (by kernel_rfl) (by rw [hB]; kernel_rfl) ?_
   clear hS; intro a w F hS
   obtain ⟨F, hS⟩ := hS.norm [(0, _), (2, _), (3, _)] [(0, _)] r3 r1
   refine then_n ?_
   refine wp_ret ?_
   refine then_r ?_
   refine ret_P hfr hS rfl (.tmp rfl (.tmp rfl .nil)) (.two (Ent.trans (.nilSl (R := rS)) (.sl (by rw [hr]))) (.int (by rw [hr])))
  ·skip
   have hs0 : s0 ≠ [] := of_decide_eq_false hc0
   refine wp_skip ?_
   refine then_n ?_
   refine wp_seq ?_
   refine region_seq hS (by kernel_rfl)
     (cF rfl (o_assign (.c rfl) (by rfl)) trivial trivial
     Chain.nil)
     (by kernel_rfl) (by rw [hB]; kernel_rfl) ?_
   clear hS; intro a w F hS
   obtain ⟨F, hS⟩ := hS.norm [(0, _), (2, _), (3, _), (4, _)] [(0, _)] r4 r1
   refine then_n ?_
   refine wp_seq ?_
   refine region_seq hS (by kernel_rfl)
     (cF rfl (o_assign (.ci (by kernel_rfl)) (by rfl)) trivial trivial
     Chain.nil)
     (by kernel_rfl) (by rw [hB]; kernel_rfl) ?_
   clear hS; intro a w F hS
   obtain ⟨F, hS⟩ := hS.norm [(0, _), (2, _), (3, _), (4, _), (5, _)] [(0, _)] r5 r1
   refine then_n ?_
   refine wp_seq ?_
   refine wp_seq ?_
   refine region_seq hS (by kernel_rfl)
     (cF rfl (o_assign (.ci (by kernel_rfl)) (by rfl)) trivial trivial
     Chain.nil)
     (by kernel_rfl) (by rw [hB]; kernel_rfl) ?_
   clear hS; intro a w F hS
   obtain ⟨F, hS⟩ := hS.norm [(0, _), (2, _), (3, _), (4, _), (5, _), (6, _)] [(0, _)] r6 r1
   refine then_n ?_
   refine wp_block ?_
   replace hS := hS.fresh 50 rfl
   replace hS := hS.turn 50 rfl (nilRow (T := 9) (sz := 1) (R := rS))
   obtain ⟨F, hS⟩ := hS.norm [(0, _), (4, _), (5, _), (6, _)] [(0, _), (50, _)] r4 r2
   refine loop_inv (σ := (Nat × Nat × Value × List (List UInt8))) (fun s => (⟨[(0, .pv (.bs s0)), (4, .pv (.is s.2.2.1)), (5, .pv (.int .i64 (s.2.1 : Nat))), (6, .pv (.int .i64 (s.1 : Nat)))], [(0, frame B), (50, .ob (.val s.2.2.1) (rowH 9 1 rS s.2.2.2))]⟩ : En)) (fun s => (∀ j, j < s.1 → j < s0.length → okB (nth s0 j) = true) ∧ (∀ x ∈ s.2.2.2, x ≠ []) ∧ s.2.2.2.length ≤ s.1 ∧ ((s.1 ≤ s0.length ∧ s.2.1 ≤ s.1 ∧ s.2.2.2 ++ splitL 32 (s0.drop s.2.1) = splitL 32 s0 ∧ ∀ j, s.2.1 ≤ j → j < s.1 → nth s0 j ≠ 32) ∨ (s.1 = s0.length + 1 ∧ s.2.2.2 = splitL 32 s0))) (fun s => s0.length + 1 - s.1) (0, 0, .slice none 0 0, []) hS ⟨fun j hj => absurd hj (Nat.not_lt_zero _), fun x hx => by simp at hx, Nat.le_refl _, .inl ⟨Nat.zero_le _, Nat.le_refl _, by simp, fun j _ hj => absurd hj (Nat.not_lt_zero _)⟩⟩ ?_
   clear hS; intro s a w F hC hS
   obtain ⟨i, k, v, q⟩ := s
   try dsimp only at hC
   try dsimp only at hS
   obtain ⟨hok, hne, hql, hor⟩ := hC
   try dsimp only at hok hne hql hor
   refine wp_seq ?_
   refine wp_seq ?_
   refine region_seq hS (by kernel_rfl)
     (cF rfl (o_move .t (by rfl)) r1 trivial
     (cF rfl (o_move .t (by rfl)) r1 trivial
     (cF rfl (o_len_bs Tryz.underlying9 .t) r1 trivial
     (cF rfl (o_leq .t .t) r2 trivial
     Chain.nil))))
     (by kernel_rfl) (by rw [hB]; kernel_rfl) ?_
   clear hS; intro a w F hS
   obtain ⟨F, hS⟩ := hS.norm [(0, _), (4, _), (5, _), (6, _), (9, _), (10, _), (11, _), (12, _)] [(0, _), (50, _)] r8 r2
   refine then_n ?_
   refine cond_b hS rfl (fun hc1 => ?_) (fun hc1 => ?_)
   ·skip
    have hil : i ≤ s0.length := by simp at hc1; omega
    obtain ⟨hi9, hki, hq, hno⟩ : i ≤ s0.length ∧ k ≤ i ∧ q ++ splitL 32 (s0.drop k) = splitL 32 s0 ∧ ∀ j, k ≤ j → j < i → nth s0 j ≠ 32 := by
      rcases hor with h | h
      · exact h
      · omega
    refine wp_skip ?_
    refine then_n ?_
    refine wp_seq ?_
    refine wp_block ?_
    refine wp_seq ?_
    refine wp_seq ?_
    refine region_seq hS (by kernel_rfl)
      (cF rfl (o_move .t (by rfl)) r1 trivial
      (cF rfl (o_move .t (by rfl)) r1 trivial
      (cF rfl (o_len_bs Tryz.underlying9 .t) r1 trivial
      (cF rfl (o_lss .t .t) r2 trivial
      (cF rfl (o_move .t (by rfl)) r1 trivial
      (Chain.cons (Cert.cond rfl rfl (fun h => o_move .t (by rfl))) r2 trivial
      (Chain.cons (Cert.cond rfl rfl (fun h => o_move .t (by rfl))) r2 trivial
      (Chain.cons (Cert.cond rfl rfl (fun h => o_index_bs Tryz.underlying9 (.w h) (.w h) (by omega) (by have := of_decide_eq_true h; omega))) r3 trivial
      (Chain.cons (Cert.cond rfl rfl (fun h => o_lss (.w h) (.ci (by kernel_rfl)))) r2 trivial
      (Chain.cons (Cert.cond rfl rfl (fun h => o_move (.w h) (by rfl))) r2 trivial
      (Chain.cons (Cert.cond2 rfl rfl (fun h => o_move .t (by rfl))) r2 trivial
      (Chain.cons (Cert.cond2 rfl rfl (fun h => o_move .t (by rfl))) r2 trivial
      (Chain.cons (Cert.cond2 rfl rfl (fun h => o_index_bs Tryz.underlying9 (.w h) (.w h) (by omega) (by have := of_decide_eq_true h.1; omega))) r3 trivial
      (Chain.cons (Cert.cond2 rfl rfl (fun h => o_gtr (.w h) (.ci (by kernel_rfl)))) r2 trivial
      (Chain.cons (Cert.cond rfl rfl (fun h => o_or2 (.w h) (.wc h))) r3 trivial
      (cF rfl (o_and2 .t .t) r2 trivial
      Chain.nil))))))))))))))))
      (by kernel_rfl) (by rw [hB]; kernel_rfl) ?_
    clear hS; intro a w F hS
    obtain ⟨F, hS⟩ := hS.norm [(0, _), (4, _), (5, _), (6, _), (9, _), (10, _), (11, _), (12, _), (15, _), (16, _), (17, _), (18, _), (19, _), (20, _), (21, _), (22, _), (23, _), (24, _), (25, _), (26, _), (27, _), (28, _), (29, _), (30, _)] [(0, _), (50, _)] ⟨rfl, rfl, rfl, rfl, rfl, rfl, rfl, rfl, rfl, rfl, rfl, rfl, rfl, rfl, rfl, rfl, rfl, rfl, rfl, rfl, rfl, rfl, rfl, rfl, trivial⟩ r2
    try rw [Int.toNat_natCast] at hS
    refine then_n ?_
    refine cond_b hS rfl (fun hc2 => ?_) (fun hc2 => ?_)
    ·skip
     have hi : i < s0.length := by simp at hc2; omega
     have hr := words_bad hi (okB_not (by simp [hi] at hc2; omega))
     refine wp_seq ?_
     refine region_seq hS (by kernel_rfl)
       (cF rfl (o_assign (.c rfl) (by rfl)) trivial trivial
       (cF rfl (o_assign (.ci (by kernel_rfl)) (by rfl)) trivial trivial
       Chain.nil))
       (by kernel_rfl) (by rw [hB]; kernel_rfl) ?_
     clear hS; intro a w F hS
     obtain ⟨F, hS⟩ := hS.norm [(0, _), (2, _), (3, _), (4, _), (5, _), (6, _), (9, _), (10, _), (11, _), (12, _), (15, _), (16, _), (17, _), (18, _), (19, _), (20, _), (21, _), (22, _), (23, _), (24, _), (25, _), (26, _), (27, _), (28, _), (29, _), (30, _)] [(0, _), (50, _)] ⟨rfl, rfl, rfl, rfl, rfl, rfl, rfl, rfl, rfl, rfl, rfl, rfl, rfl, rfl, rfl, rfl, rfl, rfl, rfl, rfl, rfl, rfl, rfl, rfl, rfl, rfl, trivial⟩ r2
     refine then_n ?_
     refine wp_ret ?_
     refine then_r ?_
     refine block_r ?_
     refine then_r ?_
     refine then_r ?_
     refine block_r ?_
     refine then_r ?_
     refine ret_P hfr hS rfl (.tmp rfl (.tmp rfl .nil)) (.two (Ent.trans (.nilSl (R := rS)) (.sl (by rw [hr]))) (.int (by rw [hr])))
    ·skip
     have hoki : i < s0.length → okB (nth s0 i) = true := by
       intro h
       simp [h] at hc2
       exact okB_of (by omega) (by omega)
     refine wp_skip ?_
     refine then_n ?_
     refine wp_seq ?_
     refine region_seq hS (by kernel_rfl)
       (cF rfl (o_move .t (by rfl)) r1 trivial
       (cF rfl (o_move .t (by rfl)) r1 trivial
       (cF rfl (o_len_bs Tryz.underlying9 .t) r1 trivial
       (cF rfl (o_eql .t .t) r2 trivial
       (cF rfl (o_move .t (by rfl)) r1 trivial
       (Chain.cons (Cert.cond rfl rfl (fun h => o_move .t (by rfl))) r2 trivial
       (Chain.cons (Cert.cond rfl rfl (fun h => o_move .t (by rfl))) r2 trivial
       (Chain.cons (Cert.cond rfl rfl (fun h => o_index_bs Tryz.underlying9 (.w h) (.w h) (by omega) (by have := of_decide_eq_false h; omega))) r3 trivial
       (Chain.cons (Cert.cond rfl rfl (fun h => o_eql (.w h) (.ci (by kernel_rfl)))) r2 trivial
       (cF rfl (o_or2 .t .t) r2 trivial
       Chain.nil))))))))))
       (by kernel_rfl) (by rw [hB]; kernel_rfl) ?_
     clear hS; intro a w F hS
     obtain ⟨F, hS⟩ := hS.norm [(0, _), (4, _), (5, _), (6, _), (9, _), (10, _), (11, _), (12, _), (15, _), (16, _), (17, _), (18, _), (19, _), (20, _), (21, _), (22, _), (23, _), (24, _), (25, _), (26, _), (27, _), (28, _), (29, _), (30, _), (31, _), (32, _), (33, _), (34, _), (35, _), (36, _), (37, _), (38, _), (39, _), (40, _)] [(0, _), (50, _)] ⟨rfl, rfl, rfl, rfl, rfl, rfl, rfl, rfl, rfl, rfl, rfl, rfl, rfl, rfl, rfl, rfl, rfl, rfl, rfl, rfl, rfl, rfl, rfl, rfl, rfl, rfl, rfl, rfl, rfl, rfl, rfl, rfl, rfl, rfl, trivial⟩ r2
     try rw [Int.toNat_natCast] at hS
     refine then_n ?_
     refine cond_b hS rfl (fun hc3 => ?_) (fun hc3 => ?_)
     ·skip
      have hcut : (i < s0.length ∧ splitL 32 (s0.drop k) = (s0.take i).drop k :: splitL 32 (s0.drop (i + 1))) ∨ (i = s0.length ∧ splitL 32 (s0.drop k) = [(s0.take i).drop k]) := by
        rcases Nat.lt_or_ge i s0.length with h | h
        · refine .inl ⟨h, split_at hki h ?_ hno⟩
          simp [show ¬ ((i : Int) = (s0.length : Int)) by omega] at hc3
          exact is_byte (d := 32) hc3
        · have h5 : i = s0.length := by omega
          refine .inr ⟨h5, ?_⟩
          rw [h5, List.take_length]
          exact split_end (h5 ▸ hno)
      refine wp_seq ?_
      refine wp_seq ?_
      refine region_seq hS (by kernel_rfl)
        (cF rfl (o_move .t (by rfl)) r1 trivial
        (cF rfl (o_move .t (by rfl)) r1 trivial
        (cF rfl (o_eql .t .t) r2 trivial
        Chain.nil)))
        (by kernel_rfl) (by rw [hB]; kernel_rfl) ?_
      clear hS; intro a w F hS
      obtain ⟨F, hS⟩ := hS.norm [(0, _), (4, _), (5, _), (6, _), (9, _), (10, _), (11, _), (12, _), (15, _), (16, _), (17, _), (18, _), (19, _), (20, _), (21, _), (22, _), (23, _), (24, _), (25, _), (26, _), (27, _), (28, _), (29, _), (30, _), (31, _), (32, _), (33, _), (34, _), (35, _), (36, _), (37, _), (38, _), (39, _), (40, _), (41, _), (42, _), (43, _)] [(0, _), (50, _)] ⟨rfl, rfl, rfl, rfl, rfl, rfl, rfl, rfl, rfl, rfl, rfl, rfl, rfl, rfl, rfl, rfl, rfl, rfl, rfl, rfl, rfl, rfl, rfl, rfl, rfl, rfl, rfl, rfl, rfl, rfl, rfl, rfl, rfl, rfl, rfl, rfl, rfl, trivial⟩ r2
      refine then_n ?_
      refine cond_b hS rfl (fun hc4 => ?_) (fun hc4 => ?_)
      ·skip
       have hik : k = i := by simp at hc4; omega
       have hr : wordsR s0 = ([], 14) := by
         refine words_hole hs0 ?_
         have h6 : (s0.take i).drop k = [] := List.drop_of_length_le (by rw [List.length_take]; omega)
         rw [← hq]
         rcases hcut with ⟨h1, h2⟩ | ⟨h1, h2⟩ <;> rw [h2, h6] <;> simp
       refine wp_seq ?_
       refine region_seq hS (by kernel_rfl)
         (cF rfl (o_assign (.c rfl) (by rfl)) trivial trivial
         (cF rfl (o_assign (.ci (by kernel_rfl)) (by rfl)) trivial trivial
         Chain.nil))
         (by kernel_rfl) (by rw [hB]; kernel_rfl) ?_
       clear hS; intro a w F hS
       obtain ⟨F, hS⟩ := hS.norm [(0, _), (2, _), (3, _), (4, _), (5, _), (6, _), (9, _), (10, _), (11, _), (12, _), (15, _), (16, _), (17, _), (18, _), (19, _), (20, _), (21, _), (22, _), (23, _), (24, _), (25, _), (26, _), (27, _), (28, _), (29, _), (30, _), (31, _), (32, _), (33, _), (34, _), (35, _), (36, _), (37, _), (38, _), (39, _), (40, _), (41, _), (42, _), (43, _)] [(0, _), (50, _)] ⟨rfl, rfl, rfl, rfl, rfl, rfl, rfl, rfl, rfl, rfl, rfl, rfl, rfl, rfl, rfl, rfl, rfl, rfl, rfl, rfl, rfl, rfl, rfl, rfl, rfl, rfl, rfl, rfl, rfl, rfl, rfl, rfl, rfl, rfl, rfl, rfl, rfl, rfl, rfl, trivial⟩ r2
       refine then_n ?_
       refine wp_ret ?_
       refine then_r ?_
       refine block_r ?_
       refine then_r ?_
       refine then_r ?_
       refine block_r ?_
       refine then_r ?_
       refine ret_P hfr hS rfl (.tmp rfl (.tmp rfl .nil)) (.two (Ent.trans (.nilSl (R := rS)) (.sl (by rw [hr]))) (.int (by rw [hr])))
      ·skip
       have hik : k < i := by simp at hc4; omega
       have hne1 : (s0.take i).drop k ≠ [] := by intro e; have := congrArg List.length e; rw [List.length_drop, List.length_take, List.length_nil] at this; omega
       have hne2 : ∀ x ∈ q ++ [(s0.take i).drop k], x ≠ [] := by
         intro x hx
         rcases List.mem_append.1 hx with h | h
         · exact hne x h
         · rw [List.mem_singleton.1 h]; exact hne1
       have hfin : (i + 1 ≤ s0.length ∧ i + 1 ≤ i + 1 ∧ q ++ [(s0.take i).drop k] ++ splitL 32 (s0.drop (i + 1)) = splitL 32 s0 ∧ ∀ j, i + 1 ≤ j → j < i + 1 → nth s0 j ≠ 32) ∨ (i + 1 = s0.length + 1 ∧ q ++ [(s0.take i).drop k] = splitL 32 s0) := by
         rcases hcut with ⟨h1, h2⟩ | ⟨h1, h2⟩
         · exact .inl ⟨by omega, Nat.le_refl _, by rw [← hq, h2]; simp, fun j h3 h4 => by omega⟩
         · exact .inr ⟨by omega, by rw [← hq, h2]⟩
       refine wp_skip ?_
       refine then_n ?_
       refine wp_seq ?_
       refine region_seq hS (by kernel_rfl)
         (cF rfl (o_move .t (by rfl)) r1 trivial
         (cF rfl (o_move .t (by rfl)) r1 trivial
         (cF rfl (o_move .t (by rfl)) r1 trivial
         (cF rfl (o_move .t (by rfl)) r1 trivial
         (cF rfl (o_slice_bs_lh Tryz.underlying9 .t .t .t (by omega) (by omega) (by omega)) r3 trivial
         (cF rfl (o_buildSliceE (sz := 1) (zs := [.string ⟨#[]⟩]) (r := [(0, .tmp 48)]) (l := [_]) Tryz.underlying40 (by kernel_rfl) (by kernel_rfl) (by kernel_rfl) (by kernel_rfl) rfl rfl (.one rfl .t one_str (by kernel_rfl) .nil) rfl) r1 trivial
         (cF rfl (o_append (sz := 1) (bs := 16) 50 (.mk' Tryz.underlying40 (by kernel_rfl) (by kernel_rfl)) (by intro x; rfl) .is (.arr (l' := [(s0.take i).drop k]) .t) (by simp only [List.length_cons, List.length_nil]; omega) (by decide)) ⟨rfl, rfl, trivial⟩ ⟨rfl, trivial⟩
         (cF rfl (o_assign .t (by rfl)) r1 trivial
         Chain.nil))))))))
         (by kernel_rfl) (by rw [hB]; kernel_rfl) ?_
       clear hS; intro a w F hS
       replace hS := hS.sub
       obtain ⟨F, hS⟩ := hS.norm [(0, _), (4, _), (5, _), (6, _), (9, _), (10, _), (11, _), (12, _), (15, _), (16, _), (17, _), (18, _), (19, _), (20, _), (21, _), (22, _), (23, _), (24, _), (25, _), (26, _), (27, _), (28, _), (29, _), (30, _), (31, _), (32, _), (33, _), (34, _), (35, _), (36, _), (37, _), (38, _), (39, _), (40, _), (41, _), (42, _), (43, _), (44, _), (45, _), (46, _), (47, _), (48, _), (49, _), (50, _)] [(0, _), (50, _)] ⟨rfl, rfl, rfl, rfl, rfl, rfl, rfl, rfl, rfl, rfl, rfl, rfl, rfl, rfl, rfl, rfl, rfl, rfl, rfl, rfl, rfl, rfl, rfl, rfl, rfl, rfl, rfl, rfl, rfl, rfl, rfl, rfl, rfl, rfl, rfl, rfl, rfl, rfl, rfl, rfl, rfl, rfl, rfl, rfl, trivial⟩ r2
       try dsimp only [RS.sub, SF.sub, CF.sub, csub, Anc.sub, List.map, stCells, List.length_cons, List.length_nil, Nat.reduceAdd, List.drop_succ_cons, List.drop_zero, List.drop_nil, List.take_succ_cons, List.take_zero, List.take_nil, List.cons_append, List.nil_append, zCF] at hS
       generalize Act.tau a 50 = v50 at hS
       rw [Int.toNat_natCast, Int.toNat_natCast] at hS
       refine then_n ?_
       refine region_seq hS (by kernel_rfl)
         (cF rfl (o_move .t (by rfl)) r1 trivial
         (cF rfl (o_add .t (.ci (by kernel_rfl))) r1 trivial
         (cF rfl (o_assign .t (by rfl)) r1 trivial
         Chain.nil)))
         (by kernel_rfl) (by rw [hB]; kernel_rfl) ?_
       clear hS; intro a w F hS
       obtain ⟨F, hS⟩ := hS.norm [(0, _), (4, _), (5, _), (6, _), (9, _), (10, _), (11, _), (12, _), (15, _), (16, _), (17, _), (18, _), (19, _), (20, _), (21, _), (22, _), (23, _), (24, _), (25, _), (26, _), (27, _), (28, _), (29, _), (30, _), (31, _), (32, _), (33, _), (34, _), (35, _), (36, _), (37, _), (38, _), (39, _), (40, _), (41, _), (42, _), (43, _), (44, _), (45, _), (46, _), (47, _), (48, _), (49, _), (50, _), (51, _), (52, _)] [(0, _), (50, _)] ⟨rfl, rfl, rfl, rfl, rfl, rfl, rfl, rfl, rfl, rfl, rfl, rfl, rfl, rfl, rfl, rfl, rfl, rfl, rfl, rfl, rfl, rfl, rfl, rfl, rfl, rfl, rfl, rfl, rfl, rfl, rfl, rfl, rfl, rfl, rfl, rfl, rfl, rfl, rfl, rfl, rfl, rfl, rfl, rfl, rfl, rfl, trivial⟩ r2
       refine block_n ?_
       refine then_n ?_
       refine region_seq hS (by kernel_rfl)
         (cF rfl (o_move .t (by rfl)) r1 trivial
         (cF rfl (o_add .t (.ci (by kernel_rfl))) r1 trivial
         (cF rfl (o_assign .t (by rfl)) r1 trivial
         Chain.nil)))
         (by kernel_rfl) (by rw [hB]; kernel_rfl) ?_
       clear hS; intro a w F hS
       obtain ⟨F, hS⟩ := hS.norm [(0, _), (4, _), (5, _), (6, _), (9, _), (10, _), (11, _), (12, _), (13, _), (14, _), (15, _), (16, _), (17, _), (18, _), (19, _), (20, _), (21, _), (22, _), (23, _), (24, _), (25, _), (26, _), (27, _), (28, _), (29, _), (30, _), (31, _), (32, _), (33, _), (34, _), (35, _), (36, _), (37, _), (38, _), (39, _), (40, _), (41, _), (42, _), (43, _), (44, _), (45, _), (46, _), (47, _), (48, _), (49, _), (50, _), (51, _), (52, _)] [(0, _), (50, _)] ⟨rfl, rfl, rfl, rfl, rfl, rfl, rfl, rfl, rfl, rfl, rfl, rfl, rfl, rfl, rfl, rfl, rfl, rfl, rfl, rfl, rfl, rfl, rfl, rfl, rfl, rfl, rfl, rfl, rfl, rfl, rfl, rfl, rfl, rfl, rfl, rfl, rfl, rfl, rfl, rfl, rfl, rfl, rfl, rfl, rfl, rfl, rfl, rfl, trivial⟩ r2
       refine then_n ?_
       replace hS := hS.ent (i := 6) (s' := .pv (.int .i64 ((i + 1 : Nat) : Int))) rfl (.int (wrap_succ (by omega)))
       replace hS := hS.ent (i := 5) (s' := .pv (.int .i64 ((i + 1 : Nat) : Int))) rfl (.int (wrap_succ (by omega)))
       obtain ⟨F, hS⟩ := hS.norm [(0, _), (4, _), (5, _), (6, _)] [(0, _), (50, _)] r4 r2
       exact ⟨(i + 1, i + 1, v50, q ++ [(s0.take i).drop k]), F, ⟨fun j hj hj2 => (Nat.lt_or_ge j i).elim (fun h => hok j h hj2) (fun h => (show i = j by omega) ▸ hoki (by omega)), hne2, by dsimp only; rw [List.length_append]; simp; omega, hfin⟩, hS, by dsimp only; omega⟩
     ·skip
      simp at hc3
      have hni : nth s0 i ≠ 32 := by
        intro e
        rw [e] at hc3
        simp at hc3
      have hil : i + 1 ≤ s0.length := by omega
      refine wp_skip ?_
      refine block_n ?_
      refine then_n ?_
      refine region_seq hS (by kernel_rfl)
        (cF rfl (o_move .t (by rfl)) r1 trivial
        (cF rfl (o_add .t (.ci (by kernel_rfl))) r1 trivial
        (cF rfl (o_assign .t (by rfl)) r1 trivial
        Chain.nil)))
        (by kernel_rfl) (by rw [hB]; kernel_rfl) ?_
      clear hS; intro a w F hS
      obtain ⟨F, hS⟩ := hS.norm [(0, _), (4, _), (5, _), (6, _), (9, _), (10, _), (11, _), (12, _), (13, _), (14, _), (15, _), (16, _), (17, _), (18, _), (19, _), (20, _), (21, _), (22, _), (23, _), (24, _), (25, _), (26, _), (27, _), (28, _), (29, _), (30, _), (31, _), (32, _), (33, _), (34, _), (35, _), (36, _), (37, _), (38, _), (39, _), (40, _)] [(0, _), (50, _)] ⟨rfl, rfl, rfl, rfl, rfl, rfl, rfl, rfl, rfl, rfl, rfl, rfl, rfl, rfl, rfl, rfl, rfl, rfl, rfl, rfl, rfl, rfl, rfl, rfl, rfl, rfl, rfl, rfl, rfl, rfl, rfl, rfl, rfl, rfl, rfl, rfl, trivial⟩ r2
      refine then_n ?_
      replace hS := hS.ent (i := 6) (s' := .pv (.int .i64 ((i + 1 : Nat) : Int))) rfl (.int (wrap_succ (by omega)))
      obtain ⟨F, hS⟩ := hS.norm [(0, _), (4, _), (5, _), (6, _)] [(0, _), (50, _)] r4 r2
      exact ⟨(i + 1, k, v, q), F, ⟨fun j hj hj2 => (Nat.lt_or_ge j i).elim (fun h => hok j h hj2) (fun h => (show i = j by omega) ▸ hoki (by omega)), hne, by dsimp only; omega, .inl ⟨hil, by dsimp only; omega, hq, fun j h1 h2 => (Nat.lt_or_ge j i).elim (hno j h1) (fun h => (show i = j by omega) ▸ hni)⟩⟩, hS, by dsimp only; omega⟩
   ·skip
    have hqe : q = splitL 32 s0 := by
      simp at hc1
      rcases hor with h | h
      · omega
      · exact h.2
    have hr := words_fine' hs0 (all_true fun j hj => hok j (by simp at hc1; omega) hj) hqe hne
    refine wp_exit ?_
    refine then_x ?_
    refine then_x ?_
    refine block_x ?_
    refine then_n ?_
    refine wp_seq ?_
    refine region_seq hS (by kernel_rfl)
      (cF rfl (o_move .t (by rfl)) r1 trivial
      (cF rfl (o_assign .t (by rfl)) r1 trivial
      (cF rfl (o_assign (.ci (by kernel_rfl)) (by rfl)) trivial trivial
      Chain.nil)))
      (by kernel_rfl) (by rw [hB]; kernel_rfl) ?_
    clear hS; intro a w F hS
    obtain ⟨F, hS⟩ := hS.norm [(2, _), (3, _)] [(0, _), (50, _)] r2 r2
    refine then_n ?_
    refine wp_ret ?_
    obtain ⟨F, hS⟩ := hS.give 50 2 rfl rfl
    refine ret_P hfr hS rfl (.tmp rfl (.tmp rfl .nil)) (.two (.sl (by rw [hr])) (.int (by rw [hr])))

end Go.Proofs.YtjdcnjemhjldoaaGreatDoor
