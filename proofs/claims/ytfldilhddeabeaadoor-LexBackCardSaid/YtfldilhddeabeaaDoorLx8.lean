/- LexBack. No condition beyond those that each theorem says. -/
import Derived.Test.YtfldilhddeabeaaDoorLx7
namespace Go.Proofs.YtfldilhddeabeaaDoor
open Go Go.Gm
set_option linter.unusedVariables false
set_option linter.unusedSimpArgs false
set_option maxHeartbeats 4000000
set_option maxRecDepth 8000

theorem split_sum (c : UInt8) : ∀ s, sumL (splitL c s) ≤ s.length
  | [] => by simp [splitL, sumL]
  | b :: r => by
    have ih := split_sum c r
    rw [splitL_eq]
    split
    · simp only [sumL, List.map_cons, List.sum_cons, List.length_nil, List.length_cons] at ih ⊢
      omega
    · match hs : splitL c r with
      | [] => exact absurd hs (split_ne c r)
      | x :: t =>
        rw [hs] at ih
        simp only [sumL, List.map_cons, List.sum_cons, List.length_cons] at ih ⊢
        omega
theorem words_cases (s : List UInt8) : (wordsR s = ([], 0) ∧ s = []) ∨ wordsR s = ([], 14) ∨ wordsR s = (splitL 32 s, 0) := by
  unfold wordsR
  split
  · rename_i h; exact .inl ⟨rfl, h⟩
  · split
    · exact .inr (.inl rfl)
    · split
      · exact .inr (.inl rfl)
      · exact .inr (.inr rfl)
theorem words_small (s : List UInt8) : (wordsR s).1.length ≤ s.length + 1 ∧ sumL (wordsR s).1 ≤ s.length := by
  have h1 := split_len 32 s
  have h2 := List.count_le_length (a := 32) (l := s)
  rcases words_cases s with ⟨h, _⟩ | h | h <;> rw [h]
  · simp [sumL]
  · simp [sumL]
  · exact ⟨by dsimp only; omega, split_sum 32 s⟩
theorem join_words {s : List UInt8} (h : (wordsR s).2 = 0) : joinL (wordsR s).1 = s := by
  rcases words_cases s with ⟨h1, h2⟩ | h1 | h1
  · rw [h1, h2]; rfl
  · rw [h1] at h; simp at h
  · rw [h1]; exact join_split s
def FineW (w : List UInt8) : Prop := w ≠ [] ∧ ∀ k, k < w.length → 32 < (nth w k).toNat ∧ (nth w k).toNat < 127
theorem join_all : ∀ l : List (List UInt8), (∀ x ∈ l, x.all okB = true) → (joinL l).all okB = true
  | [], _ => rfl
  | [x], h => h x (by simp)
  | x :: y :: r, h => by
    have h1 := h x (by simp)
    have h2 := join_all (y :: r) fun z hz => h z (by simp only [List.mem_cons] at hz ⊢; exact .inr hz)
    rw [joinL, List.all_append, h1, List.all_cons, h2]
    rfl
theorem words_join {ws : List (List UInt8)} (h : ∀ j, j < ws.length → FineW (nth ws j)) : wordsR (joinL ws) = (ws, 0) := by
  have hm : ∀ x ∈ ws, FineW x := fun x hx => by
    obtain ⟨j, hj, rfl⟩ := List.getElem_of_mem hx
    rw [← nth_eq hj]
    exact h j hj
  have hc : ∀ x ∈ ws, ∀ c ∈ x, 32 < c.toNat ∧ c.toNat < 127 := fun x hx c hc => by
    obtain ⟨k, hk, rfl⟩ := List.getElem_of_mem hc
    rw [← nth_eq hk]
    exact (hm x hx).2 k hk
  by_cases h0 : ws = []
  · subst h0; rfl
  · have hs := split_join ws h0 fun x hx hb => by have := (hc x hx 32 hb).1; simp at this
    have hne : joinL ws ≠ [] := by
      match ws, h0, hm with
      | [x], _, hm => exact (hm x (by simp)).1
      | x :: y :: r, _, _ => simp [joinL]
    refine words_fine' hne (join_all ws fun x hx => ?_) hs.symm fun x hx => (hm x hx).1
    rw [List.all_eq_true]
    intro c hcx
    have := hc x hx c hcx
    unfold okB
    simp
    omega
def catL (l : List (List UInt8)) : List UInt8 := l.flatMap fun x => x ++ [10]
theorem cat_split : ∀ s, catL (splitL 10 s) = s ++ [10]
  | [] => rfl
  | b :: r => by
    have ih := cat_split r
    rw [splitL_eq]
    by_cases h : b = 10
    · rw [if_pos h, catL, List.flatMap_cons, ← catL, ih, h]; rfl
    · rw [if_neg h]
      match hs : splitL 10 r with
      | [] => exact absurd hs (split_ne 10 r)
      | x :: t =>
        rw [hs] at ih
        rw [catL, List.flatMap_cons] at ih ⊢
        rw [List.cons_append, List.cons_append, List.cons_append, ih]
theorem cat_take {l : List (List UInt8)} {i : Nat} (h : i < l.length) : catL (l.take (i + 1)) = catL (l.take i) ++ (nth l i ++ [10]) := by
  rw [List.take_succ_eq_append_getElem h, nth_eq h, catL, List.flatMap_append]
  simp [catL]
theorem cat_len (l : List (List UInt8)) (i : Nat) : (catL (l.take i)).length ≤ (catL l).length := by
  conv => rhs; rw [← List.take_append_drop i l]
  unfold catL
  rw [List.flatMap_append, List.length_append]
  omega
theorem lines_len (s : List UInt8) : (linesR s).length ≤ s.length + 1 := by
  have h1 := split_len 10 s
  have h2 := List.count_le_length (a := 10) (l := s)
  unfold linesR
  split
  · rw [List.length_take]; omega
  · omega
theorem cat_lines (s : List UInt8) : catL (linesR s) = s ∨ catL (linesR s) = s ++ [10] := by
  unfold linesR
  split
  · rename_i h
    left
    have hp : 0 < (splitL 10 s).length := by rw [split_len]; omega
    have h2 := cat_take (l := splitL 10 s) (i := (splitL 10 s).length - 1) (by omega)
    rw [show (splitL 10 s).length - 1 + 1 = (splitL 10 s).length by omega, List.take_length, cat_split, h] at h2
    exact (List.append_inj_left' h2 (by simp)).symm
  · right
    exact cat_split s

theorem lexBack_c (text line : List UInt8) (ws : List (List UInt8)) : FnP Tryd.prog 4 [.bs text, .bs line, .sl rS ws] (.bool true) := by
  refine FnP.mk Tryd.func4 rfl Tryd.ntmps4 rfl ?_
  intro B a w F hB hfr hS
  have hr := true
  refine wp_seq ?_
  refine region_seq hS (by kernel_rfl)
      (Chain.cons (Cert.free rfl (o_assign .cb (by rfl))) trivial trivial
      Chain.nil)
      (by kernel_rfl) (by rw [hB]; kernel_rfl) ?_
  clear hS; intro a w F hS
  replace hS := hS.norm [(0, _), (1, _), (2, _), (6, _)] [(0, _)] ⟨rfl, rfl, rfl, rfl, trivial⟩ ⟨rfl, trivial⟩
  obtain ⟨F, hS⟩ := hS
  try dsimp only [RS.sub, SF.sub, CF.sub, csub, Anc.sub, stCells, List.map, List.length_cons, List.length_nil, Nat.reduceAdd, List.drop_succ_cons, List.drop_zero, List.drop_nil, List.take_succ_cons, List.take_zero, List.take_nil, List.cons_append, List.nil_append, zCF, ldSF] at hS
  refine then_n ?_
  refine wp_seq ?_
  refine wp_seq ?_
  refine region_seq hS (by kernel_rfl)
      (Chain.cons (Cert.free rfl (o_callP (lives_c) Tryd.func7 rfl (by kernel_rfl) Args.nil)) trivial trivial
      (Chain.cons (Cert.free rfl (o_not .t)) ⟨rfl, trivial⟩ trivial
      Chain.nil))
      (by kernel_rfl) (by rw [hB]; kernel_rfl) ?_
  clear hS; intro a w F hS
  replace hS := hS.norm [(0, _), (1, _), (2, _), (6, _), (19, _)] [(0, _)] ⟨rfl, rfl, rfl, rfl, rfl, trivial⟩ ⟨rfl, trivial⟩
  obtain ⟨F, hS⟩ := hS
  try dsimp only [RS.sub, SF.sub, CF.sub, csub, Anc.sub, stCells, List.map, List.length_cons, List.length_nil, Nat.reduceAdd, List.drop_succ_cons, List.drop_zero, List.drop_nil, List.take_succ_cons, List.take_zero, List.take_nil, List.cons_append, List.nil_append, zCF, ldSF] at hS
  refine then_n ?_
  refine cond_b hS rfl (fun hc0 => ?_) (fun hc0 => ?_)
  · skip
    simp at hc0
  · skip
    refine wp_skip ?_
    refine then_n ?_
    refine wp_seq ?_
    refine wp_seq ?_
    refine region_seq hS (by kernel_rfl)
        (Chain.cons (Cert.free rfl (o_move .t (by rfl))) ⟨rfl, trivial⟩ trivial
        (Chain.cons (Cert.free rfl (o_len_bs Tryd.underlying9 .t)) ⟨rfl, trivial⟩ trivial
        (Chain.cons (Cert.free rfl (o_gtr .t (.ci (by kernel_rfl)))) ⟨rfl, trivial⟩ trivial
        (Chain.cons (Cert.free rfl (o_move .t (by rfl))) ⟨rfl, trivial⟩ trivial
        (Chain.cons (Cert.cond rfl rfl (fun h => o_move .t (by rfl))) ⟨rfl, rfl, trivial⟩ trivial
        (Chain.cons (Cert.cond rfl rfl (fun h => o_len_bs Tryd.underlying9 (.w h))) ⟨rfl, rfl, trivial⟩ trivial
        (Chain.cons (Cert.cond rfl rfl (fun h => o_gtr (.w h) (.ci (by kernel_rfl)))) ⟨rfl, rfl, trivial⟩ trivial
        (Chain.cons (Cert.free rfl (o_or2 .t .t)) ⟨rfl, rfl, trivial⟩ trivial
        (Chain.cons (Cert.free rfl (o_move .t (by rfl))) ⟨rfl, trivial⟩ trivial
        (Chain.cons (Cert.cond rfl rfl (fun h => o_move .t (by rfl))) ⟨rfl, rfl, trivial⟩ trivial
        (Chain.cons (Cert.cond rfl rfl (fun h => o_len_sl Tryd.underlying22 (.w h))) ⟨rfl, rfl, trivial⟩ trivial
        (Chain.cons (Cert.cond rfl rfl (fun h => o_gtr (.w h) (.ci (by kernel_rfl)))) ⟨rfl, rfl, trivial⟩ trivial
        (Chain.cons (Cert.free rfl (o_or2 .t .t)) ⟨rfl, rfl, trivial⟩ trivial
        Chain.nil)))))))))))))
        (by kernel_rfl) (by rw [hB]; kernel_rfl) ?_
    clear hS; intro a w F hS
    replace hS := hS.norm [(0, _), (1, _), (2, _), (6, _), (32, _)] [(0, _)] ⟨rfl, rfl, rfl, rfl, rfl, trivial⟩ ⟨rfl, trivial⟩
    obtain ⟨F, hS⟩ := hS
    try dsimp only [RS.sub, SF.sub, CF.sub, csub, Anc.sub, stCells, List.map, List.length_cons, List.length_nil, Nat.reduceAdd, List.drop_succ_cons, List.drop_zero, List.drop_nil, List.take_succ_cons, List.take_zero, List.take_nil, List.cons_append, List.nil_append, zCF, ldSF] at hS
    refine then_n ?_
    refine cond_b hS rfl (fun hc1 => ?_) (fun hc1 => ?_)
    · skip
      refine wp_seq ?_
      refine region_seq hS (by kernel_rfl)
          (Chain.cons (Cert.free rfl (o_assign .cb (by rfl))) trivial trivial
          Chain.nil)
          (by kernel_rfl) (by rw [hB]; kernel_rfl) ?_
      clear hS; intro a w F hS
      replace hS := hS.norm [(0, _), (1, _), (2, _), (6, _)] [(0, _)] ⟨rfl, rfl, rfl, rfl, trivial⟩ ⟨rfl, trivial⟩
      obtain ⟨F, hS⟩ := hS
      try dsimp only [RS.sub, SF.sub, CF.sub, csub, Anc.sub, stCells, List.map, List.length_cons, List.length_nil, Nat.reduceAdd, List.drop_succ_cons, List.drop_zero, List.drop_nil, List.take_succ_cons, List.take_zero, List.take_nil, List.cons_append, List.nil_append, zCF, ldSF] at hS
      refine then_n ?_
      refine wp_ret ?_
      refine then_r ?_
      refine ret_P hfr hS rfl (.tmp rfl .nil) (.one (.bool (by first | rfl | (rcases cat_lines text with hz | hz <;> simp [hfin, hz]))))
    · skip
      have hlen : text.length ≤ 2000 ∧ line.length ≤ 1000 ∧ ws.length ≤ 100 := by
        simp at hc1
        omega
      obtain ⟨hl1, hl2, hl3⟩ := hlen
      have hws := words_small line
      refine wp_skip ?_
      refine then_n ?_
      refine wp_seq ?_
      refine region_seq hS (by kernel_rfl)
          (Chain.cons (Cert.free rfl (o_move .t (by rfl))) ⟨rfl, trivial⟩ trivial
          (Chain.cons (Cert.free rfl (o_callP (words_c line (by omega)) Tryd.func8 rfl (by kernel_rfl) (Args.one .t))) ⟨rfl, trivial⟩ trivial
          (Chain.cons (Cert.free rfl (o_move .t (by rfl))) ⟨rfl, trivial⟩ trivial
          (Chain.cons (Cert.free rfl (o_extract .t rfl)) ⟨rfl, trivial⟩ trivial
          (Chain.cons (Cert.free rfl (o_extract .t rfl)) ⟨rfl, trivial⟩ trivial
          (Chain.cons (Cert.free rfl (o_assign .t (by rfl))) ⟨rfl, trivial⟩ trivial
          (Chain.cons (Cert.free rfl (o_assign .t (by rfl))) ⟨rfl, trivial⟩ trivial
          Chain.nil)))))))
          (by kernel_rfl) (by rw [hB]; kernel_rfl) ?_
      clear hS; intro a w F hS
      replace hS := hS.norm [(0, _), (1, _), (2, _), (6, _), (7, _), (8, _)] [(0, _)] ⟨rfl, rfl, rfl, rfl, rfl, rfl, trivial⟩ ⟨rfl, trivial⟩
      obtain ⟨F, hS⟩ := hS
      try dsimp only [RS.sub, SF.sub, CF.sub, csub, Anc.sub, stCells, List.map, List.length_cons, List.length_nil, Nat.reduceAdd, List.drop_succ_cons, List.drop_zero, List.drop_nil, List.take_succ_cons, List.take_zero, List.take_nil, List.cons_append, List.nil_append, zCF, ldSF] at hS
      refine then_n ?_
      refine wp_seq ?_
      refine wp_seq ?_
      refine region_seq hS (by kernel_rfl)
          (Chain.cons (Cert.free rfl (o_move .t (by rfl))) ⟨rfl, trivial⟩ trivial
          (Chain.cons (Cert.free rfl (o_eql .t (.ci (by kernel_rfl)))) ⟨rfl, trivial⟩ trivial
          (Chain.cons (Cert.free rfl (o_move .t (by rfl))) ⟨rfl, trivial⟩ trivial
          (Chain.cons (Cert.cond rfl rfl (fun h => o_move .t (by rfl))) ⟨rfl, rfl, trivial⟩ trivial
          (Chain.cons (Cert.cond rfl rfl (fun h => o_callP (join_c (wordsR line).1 (by omega) (by omega)) Tryd.func15 rfl (by kernel_rfl) (Args.one (.w h)))) ⟨rfl, rfl, trivial⟩ trivial
          (Chain.cons (Cert.cond rfl rfl (fun h => o_move .t (by rfl))) ⟨rfl, rfl, trivial⟩ trivial
          (Chain.cons (Cert.cond rfl rfl (fun h => o_neq_bs Tryd.underlying9 (.w h) (.w h))) ⟨rfl, rfl, rfl, trivial⟩ trivial
          (Chain.cons (Cert.free rfl (o_and2 .t .t)) ⟨rfl, rfl, trivial⟩ trivial
          Chain.nil))))))))
          (by kernel_rfl) (by rw [hB]; kernel_rfl) ?_
      clear hS; intro a w F hS
      replace hS := hS.norm [(0, _), (2, _), (6, _), (45, _)] [(0, _)] ⟨rfl, rfl, rfl, rfl, trivial⟩ ⟨rfl, trivial⟩
      obtain ⟨F, hS⟩ := hS
      try dsimp only [RS.sub, SF.sub, CF.sub, csub, Anc.sub, stCells, List.map, List.length_cons, List.length_nil, Nat.reduceAdd, List.drop_succ_cons, List.drop_zero, List.drop_nil, List.take_succ_cons, List.take_zero, List.take_nil, List.cons_append, List.nil_append, zCF, ldSF] at hS
      refine then_n ?_
      refine cond_b hS rfl (fun hc2 => ?_) (fun hc2 => ?_)
      · skip
        simp at hc2
        exact absurd (join_words hc2.1) hc2.2
      · skip
        refine wp_skip ?_
        refine then_n ?_
        refine wp_seq ?_
        refine region_seq hS (by kernel_rfl)
            (Chain.cons (Cert.free rfl (o_assign .cb (by rfl))) trivial trivial
            Chain.nil)
            (by kernel_rfl) (by rw [hB]; kernel_rfl) ?_
        clear hS; intro a w F hS
        replace hS := hS.norm [(0, _), (2, _), (6, _), (9, _)] [(0, _)] ⟨rfl, rfl, rfl, rfl, trivial⟩ ⟨rfl, trivial⟩
        obtain ⟨F, hS⟩ := hS
        try dsimp only [RS.sub, SF.sub, CF.sub, csub, Anc.sub, stCells, List.map, List.length_cons, List.length_nil, Nat.reduceAdd, List.drop_succ_cons, List.drop_zero, List.drop_nil, List.take_succ_cons, List.take_zero, List.take_nil, List.cons_append, List.nil_append, zCF, ldSF] at hS
        refine then_n ?_
        refine wp_seq ?_
        refine wp_seq ?_
        refine region_seq hS (by kernel_rfl)
            (Chain.cons (Cert.free rfl (o_move .t (by rfl))) ⟨rfl, trivial⟩ trivial
            (Chain.cons (Cert.free rfl (o_len_sl Tryd.underlying22 .t)) ⟨rfl, trivial⟩ trivial
            (Chain.cons (Cert.free rfl (o_move (.ci (by kernel_rfl)) (by rfl))) trivial trivial
            Chain.nil)))
            (by kernel_rfl) (by rw [hB]; kernel_rfl) ?_
        clear hS; intro a w F hS
        replace hS := hS.norm [(0, _), (2, _), (6, _), (9, _), (46, _), (47, _), (48, _)] [(0, _)] ⟨rfl, rfl, rfl, rfl, rfl, rfl, rfl, trivial⟩ ⟨rfl, trivial⟩
        obtain ⟨F, hS⟩ := hS
        try dsimp only [RS.sub, SF.sub, CF.sub, csub, Anc.sub, stCells, List.map, List.length_cons, List.length_nil, Nat.reduceAdd, List.drop_succ_cons, List.drop_zero, List.drop_nil, List.take_succ_cons, List.take_zero, List.take_nil, List.cons_append, List.nil_append, zCF, ldSF] at hS
        refine then_n ?_
        refine wp_block ?_
        replace hS := hS.norm [(0, _), (2, _), (9, _), (46, _), (47, _), (48, _)] [(0, _)] ⟨rfl, rfl, rfl, rfl, rfl, rfl, trivial⟩ ⟨rfl, trivial⟩
        obtain ⟨F, hS⟩ := hS
        refine loop_inv (σ := (Nat × Bool)) (fun s => (⟨[(0, .pv (.bs text)), (2, .pv (.sl rS ws)), (9, .pv (.bool s.2)), (46, .pv (.sl rS ws)), (47, .pv (.int .i64 (ws.length : Nat))), (48, .pv (.int .i64 (s.1 : Nat)))], [(0, frame B)]⟩ : En)) (fun s => s.1 ≤ ws.length ∧ (∀ j, j < s.1 → (nth ws j).length ≤ 200) ∧ (s.2 = true → ∀ j, j < s.1 → FineW (nth ws j))) (fun s => ws.length - s.1) (0, true) hS ⟨Nat.zero_le _, fun j hj => absurd hj (Nat.not_lt_zero _), fun _ j hj => absurd hj (Nat.not_lt_zero _)⟩ ?_
        clear hS; intro s a w F hC hS
        obtain ⟨i, fine⟩ := s
        try dsimp only at hC
        try dsimp only at hS
        obtain ⟨hi0, hln, hfine⟩ := hC
        try dsimp only at hi0 hln hfine
        refine wp_seq ?_
        refine region_seq hS (by kernel_rfl)
            (Chain.cons (Cert.free rfl (o_lss .t .t)) ⟨rfl, rfl, trivial⟩ trivial
            Chain.nil)
            (by kernel_rfl) (by rw [hB]; kernel_rfl) ?_
        clear hS; intro a w F hS
        replace hS := hS.norm [(0, _), (2, _), (9, _), (46, _), (47, _), (48, _), (49, _)] [(0, _)] ⟨rfl, rfl, rfl, rfl, rfl, rfl, rfl, trivial⟩ ⟨rfl, trivial⟩
        obtain ⟨F, hS⟩ := hS
        try dsimp only [RS.sub, SF.sub, CF.sub, csub, Anc.sub, stCells, List.map, List.length_cons, List.length_nil, Nat.reduceAdd, List.drop_succ_cons, List.drop_zero, List.drop_nil, List.take_succ_cons, List.take_zero, List.take_nil, List.cons_append, List.nil_append, zCF, ldSF] at hS
        refine then_n ?_
        refine wp_seq ?_
        refine cond_b hS rfl (fun hc3 => ?_) (fun hc3 => ?_)
        · skip
          have hi : i < ws.length := by simp at hc3; omega
          refine wp_skip ?_
          refine then_n ?_
          refine wp_seq ?_
          refine wp_block ?_
          refine wp_seq ?_
          refine region_seq hS (by kernel_rfl)
              (Chain.cons (Cert.free rfl (o_indexAddr_sl (sz := 1) (.mk Tryd.underlying22 (by kernel_rfl)) (by intro x; rfl) .t .t (by omega) (by omega))) ⟨rfl, rfl, trivial⟩ trivial
              (Chain.cons (Cert.free rfl (o_load_ref (ag := false) (sz := 1) .t (by kernel_rfl) (by kernel_rfl) (by kernel_rfl))) ⟨rfl, trivial⟩ trivial
              (Chain.cons (Cert.free rfl (o_assign .t (by rfl))) ⟨rfl, trivial⟩ trivial
              Chain.nil)))
              (by kernel_rfl) (by rw [hB]; kernel_rfl) ?_
          clear hS; intro a w F hS
          replace hS := hS.norm [(0, _), (2, _), (9, _), (11, _), (46, _), (47, _), (48, _), (49, _), (50, _), (51, _)] [(0, _)] ⟨rfl, rfl, rfl, rfl, rfl, rfl, rfl, rfl, rfl, rfl, trivial⟩ ⟨rfl, trivial⟩
          obtain ⟨F, hS⟩ := hS
          try dsimp only [RS.sub, SF.sub, CF.sub, csub, Anc.sub, stCells, List.map, List.length_cons, List.length_nil, Nat.reduceAdd, List.drop_succ_cons, List.drop_zero, List.drop_nil, List.take_succ_cons, List.take_zero, List.take_nil, List.cons_append, List.nil_append, zCF, ldSF] at hS
          rw [Int.toNat_natCast] at hS
          refine then_n ?_
          refine wp_seq ?_
          refine wp_seq ?_
          refine region_seq hS (by kernel_rfl)
              (Chain.cons (Cert.free rfl (o_move .t (by rfl))) ⟨rfl, trivial⟩ trivial
              (Chain.cons (Cert.free rfl (o_len_bs Tryd.underlying9 .t)) ⟨rfl, trivial⟩ trivial
              (Chain.cons (Cert.free rfl (o_gtr .t (.ci (by kernel_rfl)))) ⟨rfl, trivial⟩ trivial
              Chain.nil)))
              (by kernel_rfl) (by rw [hB]; kernel_rfl) ?_
          clear hS; intro a w F hS
          replace hS := hS.norm [(0, _), (2, _), (9, _), (11, _), (46, _), (47, _), (48, _), (49, _), (50, _), (51, _), (52, _), (53, _), (54, _)] [(0, _)] ⟨rfl, rfl, rfl, rfl, rfl, rfl, rfl, rfl, rfl, rfl, rfl, rfl, rfl, trivial⟩ ⟨rfl, trivial⟩
          obtain ⟨F, hS⟩ := hS
          try dsimp only [RS.sub, SF.sub, CF.sub, csub, Anc.sub, stCells, List.map, List.length_cons, List.length_nil, Nat.reduceAdd, List.drop_succ_cons, List.drop_zero, List.drop_nil, List.take_succ_cons, List.take_zero, List.take_nil, List.cons_append, List.nil_append, zCF, ldSF] at hS
          refine then_n ?_
          refine cond_b hS rfl (fun hc4 => ?_) (fun hc4 => ?_)
          · skip
            refine wp_seq ?_
            refine region_seq hS (by kernel_rfl)
                (Chain.cons (Cert.free rfl (o_assign .cb (by rfl))) trivial trivial
                Chain.nil)
                (by kernel_rfl) (by rw [hB]; kernel_rfl) ?_
            clear hS; intro a w F hS
            replace hS := hS.norm [(0, _), (2, _), (6, _), (9, _), (11, _), (46, _), (47, _), (48, _), (49, _), (50, _), (51, _), (52, _), (53, _), (54, _)] [(0, _)] ⟨rfl, rfl, rfl, rfl, rfl, rfl, rfl, rfl, rfl, rfl, rfl, rfl, rfl, rfl, trivial⟩ ⟨rfl, trivial⟩
            obtain ⟨F, hS⟩ := hS
            try dsimp only [RS.sub, SF.sub, CF.sub, csub, Anc.sub, stCells, List.map, List.length_cons, List.length_nil, Nat.reduceAdd, List.drop_succ_cons, List.drop_zero, List.drop_nil, List.take_succ_cons, List.take_zero, List.take_nil, List.cons_append, List.nil_append, zCF, ldSF] at hS
            refine then_n ?_
            refine wp_ret ?_
            refine then_r ?_
            refine block_r ?_
            refine then_r ?_
            refine then_r ?_
            refine block_r ?_
            refine then_r ?_
            refine ret_P hfr hS rfl (.tmp rfl .nil) (.one (.bool (by first | rfl | (rcases cat_lines text with hz | hz <;> simp [hfin, hz]))))
          · skip
            have hli : (nth ws i).length ≤ 200 := by simp at hc4; omega
            refine wp_skip ?_
            refine then_n ?_
            refine wp_seq ?_
            refine region_seq hS (by kernel_rfl)
                (Chain.cons (Cert.free rfl (o_move .t (by rfl))) ⟨rfl, trivial⟩ trivial
                (Chain.cons (Cert.free rfl (o_move .t (by rfl))) ⟨rfl, trivial⟩ trivial
                (Chain.cons (Cert.cond rfl rfl (fun h => o_move .t (by rfl))) ⟨rfl, rfl, trivial⟩ trivial
                (Chain.cons (Cert.cond rfl rfl (fun h => o_neq_bs Tryd.underlying9 (.w h) (.cs (by kernel_rfl)))) ⟨rfl, rfl, trivial⟩ trivial
                (Chain.cons (Cert.free rfl (o_and2 .t .t)) ⟨rfl, rfl, trivial⟩ trivial
                (Chain.cons (Cert.free rfl (o_assign .t (by rfl))) ⟨rfl, trivial⟩ trivial
                Chain.nil))))))
                (by kernel_rfl) (by rw [hB]; kernel_rfl) ?_
            clear hS; intro a w F hS
            replace hS := hS.norm [(0, _), (2, _), (9, _), (11, _), (46, _), (47, _), (48, _), (49, _), (50, _), (51, _), (52, _), (53, _), (54, _), (55, _), (56, _), (57, _), (58, _), (59, _)] [(0, _)] ⟨rfl, rfl, rfl, rfl, rfl, rfl, rfl, rfl, rfl, rfl, rfl, rfl, rfl, rfl, rfl, rfl, rfl, rfl, trivial⟩ ⟨rfl, trivial⟩
            obtain ⟨F, hS⟩ := hS
            try dsimp only [RS.sub, SF.sub, CF.sub, csub, Anc.sub, stCells, List.map, List.length_cons, List.length_nil, Nat.reduceAdd, List.drop_succ_cons, List.drop_zero, List.drop_nil, List.take_succ_cons, List.take_zero, List.take_nil, List.cons_append, List.nil_append, zCF, ldSF] at hS
            refine then_n ?_
            refine wp_seq ?_
            refine region_seq hS (by kernel_rfl)
                (Chain.cons (Cert.free rfl (o_assign (.ci (by kernel_rfl)) (by rfl))) trivial trivial
                Chain.nil)
                (by kernel_rfl) (by rw [hB]; kernel_rfl) ?_
            clear hS; intro a w F hS
            replace hS := hS.norm [(0, _), (2, _), (9, _), (11, _), (12, _), (46, _), (47, _), (48, _), (49, _), (50, _), (51, _), (52, _), (53, _), (54, _), (55, _), (56, _), (57, _), (58, _), (59, _)] [(0, _)] ⟨rfl, rfl, rfl, rfl, rfl, rfl, rfl, rfl, rfl, rfl, rfl, rfl, rfl, rfl, rfl, rfl, rfl, rfl, rfl, trivial⟩ ⟨rfl, trivial⟩
            obtain ⟨F, hS⟩ := hS
            try dsimp only [RS.sub, SF.sub, CF.sub, csub, Anc.sub, stCells, List.map, List.length_cons, List.length_nil, Nat.reduceAdd, List.drop_succ_cons, List.drop_zero, List.drop_nil, List.take_succ_cons, List.take_zero, List.take_nil, List.cons_append, List.nil_append, zCF, ldSF] at hS
            refine then_n ?_
            refine wp_block ?_
            replace hS := hS.norm [(0, _), (2, _), (9, _), (11, _), (12, _), (46, _), (47, _), (48, _)] [(0, _)] ⟨rfl, rfl, rfl, rfl, rfl, rfl, rfl, rfl, trivial⟩ ⟨rfl, trivial⟩
            obtain ⟨F, hS⟩ := hS
            refine loop_inv (σ := (Nat × Bool)) (fun s => (⟨[(0, .pv (.bs text)), (2, .pv (.sl rS ws)), (9, .pv (.bool s.2)), (11, .pv (.bs (nth ws i))), (12, .pv (.int .i64 (s.1 : Nat))), (46, .pv (.sl rS ws)), (47, .pv (.int .i64 (ws.length : Nat))), (48, .pv (.int .i64 (i : Nat)))], [(0, frame B)]⟩ : En)) (fun s => s.1 ≤ (nth ws i).length ∧ (s.2 = true → (∀ j, j < i → FineW (nth ws j)) ∧ nth ws i ≠ [] ∧ ∀ m, m < s.1 → 32 < (nth (nth ws i) m).toNat ∧ (nth (nth ws i) m).toNat < 127)) (fun s => (nth ws i).length - s.1) (0, fine && !decide (nth ws i = [])) hS ⟨Nat.zero_le _, fun h => by simp only [Bool.and_eq_true, Bool.not_eq_true', decide_eq_false_iff_not] at h; exact ⟨hfine h.1, h.2, fun m hm => absurd hm (Nat.not_lt_zero _)⟩⟩ ?_
            clear hS; intro s a w F hC hS
            obtain ⟨k, γ⟩ := s
            try dsimp only at hC
            try dsimp only at hS
            obtain ⟨hk0, hγ⟩ := hC
            try dsimp only at hk0 hγ
            refine wp_seq ?_
            refine wp_seq ?_
            refine region_seq hS (by kernel_rfl)
                (Chain.cons (Cert.free rfl (o_move .t (by rfl))) ⟨rfl, trivial⟩ trivial
                (Chain.cons (Cert.free rfl (o_move .t (by rfl))) ⟨rfl, trivial⟩ trivial
                (Chain.cons (Cert.free rfl (o_len_bs Tryd.underlying9 .t)) ⟨rfl, trivial⟩ trivial
                (Chain.cons (Cert.free rfl (o_lss .t .t)) ⟨rfl, rfl, trivial⟩ trivial
                Chain.nil))))
                (by kernel_rfl) (by rw [hB]; kernel_rfl) ?_
            clear hS; intro a w F hS
            replace hS := hS.norm [(0, _), (2, _), (9, _), (11, _), (12, _), (46, _), (47, _), (48, _), (60, _), (61, _), (62, _), (63, _)] [(0, _)] ⟨rfl, rfl, rfl, rfl, rfl, rfl, rfl, rfl, rfl, rfl, rfl, rfl, trivial⟩ ⟨rfl, trivial⟩
            obtain ⟨F, hS⟩ := hS
            try dsimp only [RS.sub, SF.sub, CF.sub, csub, Anc.sub, stCells, List.map, List.length_cons, List.length_nil, Nat.reduceAdd, List.drop_succ_cons, List.drop_zero, List.drop_nil, List.take_succ_cons, List.take_zero, List.take_nil, List.cons_append, List.nil_append, zCF, ldSF] at hS
            refine then_n ?_
            refine cond_b hS rfl (fun hc5 => ?_) (fun hc5 => ?_)
            · skip
              have hk : k < (nth ws i).length := by simp at hc5; omega
              refine wp_skip ?_
              refine then_n ?_
              refine wp_seq ?_
              refine wp_block ?_
              refine region_seq hS (by kernel_rfl)
                  (Chain.cons (Cert.free rfl (o_move .t (by rfl))) ⟨rfl, trivial⟩ trivial
                  (Chain.cons (Cert.free rfl (o_move .t (by rfl))) ⟨rfl, trivial⟩ trivial
                  (Chain.cons (Cert.cond rfl rfl (fun h => o_move .t (by rfl))) ⟨rfl, rfl, trivial⟩ trivial
                  (Chain.cons (Cert.cond rfl rfl (fun h => o_move .t (by rfl))) ⟨rfl, rfl, trivial⟩ trivial
                  (Chain.cons (Cert.cond rfl rfl (fun h => o_index_bs Tryd.underlying9 (.w h) (.w h) (by omega) (by omega))) ⟨rfl, rfl, rfl, trivial⟩ trivial
                  (Chain.cons (Cert.cond rfl rfl (fun h => o_gtr (.w h) (.ci (by kernel_rfl)))) ⟨rfl, rfl, trivial⟩ trivial
                  (Chain.cons (Cert.free rfl (o_and2 .t .t)) ⟨rfl, rfl, trivial⟩ trivial
                  (Chain.cons (Cert.free rfl (o_move .t (by rfl))) ⟨rfl, trivial⟩ trivial
                  (Chain.cons (Cert.cond rfl rfl (fun h => o_move .t (by rfl))) ⟨rfl, rfl, trivial⟩ trivial
                  (Chain.cons (Cert.cond rfl rfl (fun h => o_move .t (by rfl))) ⟨rfl, rfl, trivial⟩ trivial
                  (Chain.cons (Cert.cond rfl rfl (fun h => o_index_bs Tryd.underlying9 (.w h) (.w h) (by omega) (by omega))) ⟨rfl, rfl, rfl, trivial⟩ trivial
                  (Chain.cons (Cert.cond rfl rfl (fun h => o_lss (.w h) (.ci (by kernel_rfl)))) ⟨rfl, rfl, trivial⟩ trivial
                  (Chain.cons (Cert.free rfl (o_and2 .t .t)) ⟨rfl, rfl, trivial⟩ trivial
                  (Chain.cons (Cert.free rfl (o_assign .t (by rfl))) ⟨rfl, trivial⟩ trivial
                  Chain.nil))))))))))))))
                  (by kernel_rfl) (by rw [hB]; kernel_rfl) ?_
              clear hS; intro a w F hS
              replace hS := hS.norm [(0, _), (2, _), (9, _), (11, _), (12, _), (46, _), (47, _), (48, _), (60, _), (61, _), (62, _), (63, _), (66, _), (67, _), (68, _), (69, _), (70, _), (71, _), (72, _), (73, _), (74, _), (75, _), (76, _), (77, _), (78, _)] [(0, _)] ⟨rfl, rfl, rfl, rfl, rfl, rfl, rfl, rfl, rfl, rfl, rfl, rfl, rfl, rfl, rfl, rfl, rfl, rfl, rfl, rfl, rfl, rfl, rfl, rfl, rfl, trivial⟩ ⟨rfl, trivial⟩
              obtain ⟨F, hS⟩ := hS
              try dsimp only [RS.sub, SF.sub, CF.sub, csub, Anc.sub, stCells, List.map, List.length_cons, List.length_nil, Nat.reduceAdd, List.drop_succ_cons, List.drop_zero, List.drop_nil, List.take_succ_cons, List.take_zero, List.take_nil, List.cons_append, List.nil_append, zCF, ldSF] at hS
              rw [Int.toNat_natCast] at hS
              refine block_n ?_
              refine then_n ?_
              refine region_seq hS (by kernel_rfl)
                  (Chain.cons (Cert.free rfl (o_move .t (by rfl))) ⟨rfl, trivial⟩ trivial
                  (Chain.cons (Cert.free rfl (o_add .t (.ci (by kernel_rfl)))) ⟨rfl, trivial⟩ trivial
                  (Chain.cons (Cert.free rfl (o_assign .t (by rfl))) ⟨rfl, trivial⟩ trivial
                  Chain.nil)))
                  (by kernel_rfl) (by rw [hB]; kernel_rfl) ?_
              clear hS; intro a w F hS
              replace hS := hS.norm [(0, _), (2, _), (9, _), (11, _), (12, _), (46, _), (47, _), (48, _), (60, _), (61, _), (62, _), (63, _), (64, _), (65, _), (66, _), (67, _), (68, _), (69, _), (70, _), (71, _), (72, _), (73, _), (74, _), (75, _), (76, _), (77, _), (78, _)] [(0, _)] ⟨rfl, rfl, rfl, rfl, rfl, rfl, rfl, rfl, rfl, rfl, rfl, rfl, rfl, rfl, rfl, rfl, rfl, rfl, rfl, rfl, rfl, rfl, rfl, rfl, rfl, rfl, rfl, trivial⟩ ⟨rfl, trivial⟩
              obtain ⟨F, hS⟩ := hS
              try dsimp only [RS.sub, SF.sub, CF.sub, csub, Anc.sub, stCells, List.map, List.length_cons, List.length_nil, Nat.reduceAdd, List.drop_succ_cons, List.drop_zero, List.drop_nil, List.take_succ_cons, List.take_zero, List.take_nil, List.cons_append, List.nil_append, zCF, ldSF] at hS
              refine then_n ?_
              replace hS := hS.ent (i := 12) (s' := .pv (.int .i64 ((k + 1 : Nat) : Int))) rfl (.int (wrap_succ (by omega)))
              replace hS := hS.norm [(0, _), (2, _), (9, _), (11, _), (12, _), (46, _), (47, _), (48, _)] [(0, _)] ⟨rfl, rfl, rfl, rfl, rfl, rfl, rfl, rfl, trivial⟩ ⟨rfl, trivial⟩
              obtain ⟨F, hS⟩ := hS
              exact ⟨(k + 1, (γ && decide (32 < ((nth (nth ws i) k).toNat : Int))) && decide (((nth (nth ws i) k).toNat : Int) < 127)), F, ⟨by dsimp only; omega, fun h => by simp only [Bool.and_eq_true, decide_eq_true_eq] at h; exact ⟨(hγ h.1.1).1, (hγ h.1.1).2.1, fun m hm => (Nat.lt_or_ge m k).elim ((hγ h.1.1).2.2 m) (fun h1 => (show k = m by dsimp only at hm; omega) ▸ (by omega))⟩⟩, hS, by dsimp only; omega⟩
            · skip
              have hk : k = (nth ws i).length := by simp at hc5; omega
              refine wp_exit ?_
              refine then_x ?_
              refine then_x ?_
              refine block_x ?_
              refine block_n ?_
              refine then_n ?_
              refine region_seq hS (by kernel_rfl)
                  (Chain.cons (Cert.free rfl (o_add .t (.ci (by kernel_rfl)))) ⟨rfl, trivial⟩ trivial
                  (Chain.cons (Cert.free rfl (o_move .t (by rfl))) ⟨rfl, trivial⟩ trivial
                  Chain.nil))
                  (by kernel_rfl) (by rw [hB]; kernel_rfl) ?_
              clear hS; intro a w F hS
              replace hS := hS.norm [(0, _), (2, _), (9, _), (11, _), (12, _), (46, _), (47, _), (48, _), (60, _), (61, _), (62, _), (63, _), (79, _)] [(0, _)] ⟨rfl, rfl, rfl, rfl, rfl, rfl, rfl, rfl, rfl, rfl, rfl, rfl, rfl, trivial⟩ ⟨rfl, trivial⟩
              obtain ⟨F, hS⟩ := hS
              try dsimp only [RS.sub, SF.sub, CF.sub, csub, Anc.sub, stCells, List.map, List.length_cons, List.length_nil, Nat.reduceAdd, List.drop_succ_cons, List.drop_zero, List.drop_nil, List.take_succ_cons, List.take_zero, List.take_nil, List.cons_append, List.nil_append, zCF, ldSF] at hS
              refine then_n ?_
              replace hS := hS.ent (i := 48) (s' := .pv (.int .i64 ((i + 1 : Nat) : Int))) rfl (.int (wrap_succ (by omega)))
              replace hS := hS.norm [(0, _), (2, _), (9, _), (46, _), (47, _), (48, _)] [(0, _)] ⟨rfl, rfl, rfl, rfl, rfl, rfl, trivial⟩ ⟨rfl, trivial⟩
              obtain ⟨F, hS⟩ := hS
              exact ⟨(i + 1, γ), F, ⟨by dsimp only; omega, fun j hj => (Nat.lt_or_ge j i).elim (hln j) (fun h1 => (show i = j by dsimp only at hj; omega) ▸ hli), fun hg j hj => (Nat.lt_or_ge j i).elim ((hγ hg).1 j) (fun h1 => (show i = j by dsimp only at hj; omega) ▸ ⟨(hγ hg).2.1, fun m hm => (hγ hg).2.2 m (by omega)⟩)⟩, hS, by dsimp only; omega⟩
        · skip
          have hil : i = ws.length := by simp at hc3; omega
          have hsum := sum_bound (l := ws) (c := 200) (fun j hj => hln j (by omega))
          have hsw : sumL ws ≤ 20000 := Nat.le_trans hsum (by omega)
          have hjl := join_len ws
          refine wp_exit ?_
          refine then_x ?_
          refine then_x ?_
          refine block_x ?_
          refine then_n ?_
          refine wp_seq ?_
          refine region_seq hS (by kernel_rfl)
              (Chain.cons (Cert.free rfl (o_move .t (by rfl))) ⟨rfl, trivial⟩ trivial
              (Chain.cons (Cert.free rfl (o_callP (join_c ws (by omega) (by omega)) Tryd.func15 rfl (by kernel_rfl) (Args.one .t))) ⟨rfl, trivial⟩ trivial
              (Chain.cons (Cert.free rfl (o_callP (words_c (joinL ws) (by omega)) Tryd.func8 rfl (by kernel_rfl) (Args.one .t))) ⟨rfl, trivial⟩ trivial
              (Chain.cons (Cert.free rfl (o_move .t (by rfl))) ⟨rfl, trivial⟩ trivial
              (Chain.cons (Cert.free rfl (o_extract .t rfl)) ⟨rfl, trivial⟩ trivial
              (Chain.cons (Cert.free rfl (o_extract .t rfl)) ⟨rfl, trivial⟩ trivial
              (Chain.cons (Cert.free rfl (o_assign .t (by rfl))) ⟨rfl, trivial⟩ trivial
              (Chain.cons (Cert.free rfl (o_assign .t (by rfl))) ⟨rfl, trivial⟩ trivial
              Chain.nil))))))))
              (by kernel_rfl) (by rw [hB]; kernel_rfl) ?_
          clear hS; intro a w F hS
          replace hS := hS.norm [(0, _), (2, _), (9, _), (13, _), (14, _)] [(0, _)] ⟨rfl, rfl, rfl, rfl, rfl, trivial⟩ ⟨rfl, trivial⟩
          obtain ⟨F, hS⟩ := hS
          try dsimp only [RS.sub, SF.sub, CF.sub, csub, Anc.sub, stCells, List.map, List.length_cons, List.length_nil, Nat.reduceAdd, List.drop_succ_cons, List.drop_zero, List.drop_nil, List.take_succ_cons, List.take_zero, List.take_nil, List.cons_append, List.nil_append, zCF, ldSF] at hS
          refine then_n ?_
          refine wp_seq ?_
          refine wp_seq ?_
          refine region_seq hS (by kernel_rfl)
              (Chain.cons (Cert.free rfl (o_move .t (by rfl))) ⟨rfl, trivial⟩ trivial
              (Chain.cons (Cert.free rfl (o_move .t (by rfl))) ⟨rfl, trivial⟩ trivial
              (Chain.cons (Cert.cond rfl rfl (fun h => o_move .t (by rfl))) ⟨rfl, rfl, trivial⟩ trivial
              (Chain.cons (Cert.cond rfl rfl (fun h => o_neq (.w h) (.ci (by kernel_rfl)))) ⟨rfl, rfl, trivial⟩ trivial
              (Chain.cons (Cert.cond rfl rfl (fun h => o_move (.w h) (by rfl))) ⟨rfl, rfl, trivial⟩ trivial
              (Chain.cons (Cert.cond2 rfl rfl (fun h => o_move .t (by rfl))) ⟨rfl, rfl, trivial⟩ trivial
              (Chain.cons (Cert.cond2 rfl rfl (fun h => o_move .t (by rfl))) ⟨rfl, rfl, trivial⟩ trivial
              (Chain.cons (Cert.cond2 rfl rfl (fun h => o_callP (same_c _ _) Tryd.func10 rfl (by kernel_rfl) (Args.two (.w h) (.w h)))) ⟨rfl, rfl, rfl, trivial⟩ trivial
              (Chain.cons (Cert.cond2 rfl rfl (fun h => o_not (.w h))) ⟨rfl, rfl, trivial⟩ trivial
              (Chain.cons (Cert.cond rfl rfl (fun h => o_or2 (.w h) (.wc h))) ⟨rfl, rfl, rfl, trivial⟩ trivial
              (Chain.cons (Cert.free rfl (o_and2 .t .t)) ⟨rfl, rfl, trivial⟩ trivial
              Chain.nil)))))))))))
              (by kernel_rfl) (by rw [hB]; kernel_rfl) ?_
          clear hS; intro a w F hS
          replace hS := hS.norm [(0, _), (96, _)] [(0, _)] ⟨rfl, rfl, trivial⟩ ⟨rfl, trivial⟩
          obtain ⟨F, hS⟩ := hS
          try dsimp only [RS.sub, SF.sub, CF.sub, csub, Anc.sub, stCells, List.map, List.length_cons, List.length_nil, Nat.reduceAdd, List.drop_succ_cons, List.drop_zero, List.drop_nil, List.take_succ_cons, List.take_zero, List.take_nil, List.cons_append, List.nil_append, zCF, ldSF] at hS
          refine then_n ?_
          refine cond_b hS rfl (fun hc6 => ?_) (fun hc6 => ?_)
          · skip
            simp at hc6
            obtain ⟨h1, h2⟩ := hc6
            have hwj := words_join (fun j hj => hfine h1 j (by omega))
            rw [hwj] at h2
            simp at h2
          · skip
            refine wp_skip ?_
            refine then_n ?_
            refine wp_seq ?_
            refine region_seq hS (by kernel_rfl)
                (Chain.cons (Cert.free rfl (o_assign (.cs (by kernel_rfl)) (by rfl))) trivial trivial
                Chain.nil)
                (by kernel_rfl) (by rw [hB]; kernel_rfl) ?_
            clear hS; intro a w F hS
            replace hS := hS.norm [(0, _), (15, _)] [(0, _)] ⟨rfl, rfl, trivial⟩ ⟨rfl, trivial⟩
            obtain ⟨F, hS⟩ := hS
            try dsimp only [RS.sub, SF.sub, CF.sub, csub, Anc.sub, stCells, List.map, List.length_cons, List.length_nil, Nat.reduceAdd, List.drop_succ_cons, List.drop_zero, List.drop_nil, List.take_succ_cons, List.take_zero, List.take_nil, List.cons_append, List.nil_append, zCF, ldSF] at hS
            refine then_n ?_
            refine wp_seq ?_
            refine wp_seq ?_
            refine region_seq hS (by kernel_rfl)
                (Chain.cons (Cert.free rfl (o_move .t (by rfl))) ⟨rfl, trivial⟩ trivial
                (Chain.cons (Cert.free rfl (o_callP (lines_c text (by omega)) Tryd.func11 rfl (by kernel_rfl) (Args.one .t))) ⟨rfl, trivial⟩ trivial
                (Chain.cons (Cert.free rfl (o_len_sl Tryd.underlying22 .t)) ⟨rfl, trivial⟩ trivial
                (Chain.cons (Cert.free rfl (o_move (.ci (by kernel_rfl)) (by rfl))) trivial trivial
                Chain.nil))))
                (by kernel_rfl) (by rw [hB]; kernel_rfl) ?_
            clear hS; intro a w F hS
            replace hS := hS.norm [(0, _), (15, _), (98, _), (99, _), (100, _)] [(0, _)] ⟨rfl, rfl, rfl, rfl, rfl, trivial⟩ ⟨rfl, trivial⟩
            obtain ⟨F, hS⟩ := hS
            try dsimp only [RS.sub, SF.sub, CF.sub, csub, Anc.sub, stCells, List.map, List.length_cons, List.length_nil, Nat.reduceAdd, List.drop_succ_cons, List.drop_zero, List.drop_nil, List.take_succ_cons, List.take_zero, List.take_nil, List.cons_append, List.nil_append, zCF, ldSF] at hS
            refine then_n ?_
            refine wp_block ?_
            replace hS := hS.norm [(0, _), (15, _), (98, _), (99, _), (100, _)] [(0, _)] ⟨rfl, rfl, rfl, rfl, rfl, trivial⟩ ⟨rfl, trivial⟩
            obtain ⟨F, hS⟩ := hS
            refine loop_inv (σ := Nat) (fun s => (⟨[(0, .pv (.bs text)), (15, .pv (.bs (catL ((linesR text).take s)))), (98, .pv (.sl rS (linesR text))), (99, .pv (.int .i64 ((linesR text).length : Nat))), (100, .pv (.int .i64 (s : Nat)))], [(0, frame B)]⟩ : En)) (fun s => s ≤ (linesR text).length) (fun s => (linesR text).length - s) 0 hS (Nat.zero_le _) ?_
            clear hS; intro n a w F hC hS
            try dsimp only at hC
            try dsimp only at hS
            have hn0 := hC
            have hll := lines_len text
            have hct := cat_len (linesR text) n
            have hct1 := cat_len (linesR text) (n + 1)
            have hcl : (catL (linesR text)).length ≤ text.length + 1 := by rcases cat_lines text with h | h <;> rw [h] <;> simp
            refine wp_seq ?_
            refine region_seq hS (by kernel_rfl)
                (Chain.cons (Cert.free rfl (o_lss .t .t)) ⟨rfl, rfl, trivial⟩ trivial
                Chain.nil)
                (by kernel_rfl) (by rw [hB]; kernel_rfl) ?_
            clear hS; intro a w F hS
            replace hS := hS.norm [(0, _), (15, _), (98, _), (99, _), (100, _), (101, _)] [(0, _)] ⟨rfl, rfl, rfl, rfl, rfl, rfl, trivial⟩ ⟨rfl, trivial⟩
            obtain ⟨F, hS⟩ := hS
            try dsimp only [RS.sub, SF.sub, CF.sub, csub, Anc.sub, stCells, List.map, List.length_cons, List.length_nil, Nat.reduceAdd, List.drop_succ_cons, List.drop_zero, List.drop_nil, List.take_succ_cons, List.take_zero, List.take_nil, List.cons_append, List.nil_append, zCF, ldSF] at hS
            refine then_n ?_
            refine wp_seq ?_
            refine cond_b hS rfl (fun hc7 => ?_) (fun hc7 => ?_)
            · skip
              have hn : n < (linesR text).length := by simp at hc7; omega
              have hcs := congrArg List.length (cat_take hn)
              rw [List.length_append, List.length_append, List.length_singleton] at hcs
              refine wp_skip ?_
              refine then_n ?_
              refine wp_seq ?_
              refine wp_block ?_
              refine wp_seq ?_
              refine region_seq hS (by kernel_rfl)
                  (Chain.cons (Cert.free rfl (o_indexAddr_sl (sz := 1) (.mk Tryd.underlying22 (by kernel_rfl)) (by intro x; rfl) .t .t (by omega) (by omega))) ⟨rfl, rfl, trivial⟩ trivial
                  (Chain.cons (Cert.free rfl (o_load_ref (ag := false) (sz := 1) .t (by kernel_rfl) (by kernel_rfl) (by kernel_rfl))) ⟨rfl, trivial⟩ trivial
                  (Chain.cons (Cert.free rfl (o_assign .t (by rfl))) ⟨rfl, trivial⟩ trivial
                  Chain.nil)))
                  (by kernel_rfl) (by rw [hB]; kernel_rfl) ?_
              clear hS; intro a w F hS
              replace hS := hS.norm [(0, _), (15, _), (17, _), (98, _), (99, _), (100, _), (101, _), (102, _), (103, _)] [(0, _)] ⟨rfl, rfl, rfl, rfl, rfl, rfl, rfl, rfl, rfl, trivial⟩ ⟨rfl, trivial⟩
              obtain ⟨F, hS⟩ := hS
              try dsimp only [RS.sub, SF.sub, CF.sub, csub, Anc.sub, stCells, List.map, List.length_cons, List.length_nil, Nat.reduceAdd, List.drop_succ_cons, List.drop_zero, List.drop_nil, List.take_succ_cons, List.take_zero, List.take_nil, List.cons_append, List.nil_append, zCF, ldSF] at hS
              rw [Int.toNat_natCast] at hS
              refine then_n ?_
              refine region_seq hS (by kernel_rfl)
                  (Chain.cons (Cert.free rfl (o_move .t (by rfl))) ⟨rfl, trivial⟩ trivial
                  (Chain.cons (Cert.free rfl (o_move .t (by rfl))) ⟨rfl, trivial⟩ trivial
                  (Chain.cons (Cert.free rfl (o_add_bs .t (.cs (by kernel_rfl)) (by simp; omega))) ⟨rfl, trivial⟩ trivial
                  (Chain.cons (Cert.free rfl (o_add_bs .t .t (by simp; omega))) ⟨rfl, rfl, trivial⟩ trivial
                  (Chain.cons (Cert.free rfl (o_assign .t (by rfl))) ⟨rfl, trivial⟩ trivial
                  Chain.nil)))))
                  (by kernel_rfl) (by rw [hB]; kernel_rfl) ?_
              clear hS; intro a w F hS
              replace hS := hS.norm [(0, _), (15, _), (17, _), (98, _), (99, _), (100, _), (101, _), (102, _), (103, _), (104, _), (105, _), (106, _), (107, _)] [(0, _)] ⟨rfl, rfl, rfl, rfl, rfl, rfl, rfl, rfl, rfl, rfl, rfl, rfl, rfl, trivial⟩ ⟨rfl, trivial⟩
              obtain ⟨F, hS⟩ := hS
              try dsimp only [RS.sub, SF.sub, CF.sub, csub, Anc.sub, stCells, List.map, List.length_cons, List.length_nil, Nat.reduceAdd, List.drop_succ_cons, List.drop_zero, List.drop_nil, List.take_succ_cons, List.take_zero, List.take_nil, List.cons_append, List.nil_append, zCF, ldSF] at hS
              refine block_n ?_
              refine then_n ?_
              refine region_seq hS (by kernel_rfl)
                  (Chain.cons (Cert.free rfl (o_add .t (.ci (by kernel_rfl)))) ⟨rfl, trivial⟩ trivial
                  (Chain.cons (Cert.free rfl (o_move .t (by rfl))) ⟨rfl, trivial⟩ trivial
                  Chain.nil))
                  (by kernel_rfl) (by rw [hB]; kernel_rfl) ?_
              clear hS; intro a w F hS
              replace hS := hS.norm [(0, _), (15, _), (17, _), (98, _), (99, _), (100, _), (101, _), (102, _), (103, _), (104, _), (105, _), (106, _), (107, _), (108, _)] [(0, _)] ⟨rfl, rfl, rfl, rfl, rfl, rfl, rfl, rfl, rfl, rfl, rfl, rfl, rfl, rfl, trivial⟩ ⟨rfl, trivial⟩
              obtain ⟨F, hS⟩ := hS
              try dsimp only [RS.sub, SF.sub, CF.sub, csub, Anc.sub, stCells, List.map, List.length_cons, List.length_nil, Nat.reduceAdd, List.drop_succ_cons, List.drop_zero, List.drop_nil, List.take_succ_cons, List.take_zero, List.take_nil, List.cons_append, List.nil_append, zCF, ldSF] at hS
              refine then_n ?_
              replace hS := hS.ent (i := 100) (s' := .pv (.int .i64 ((n + 1 : Nat) : Int))) rfl (.int (wrap_succ (by omega)))
              replace hS := hS.ent (i := 15) (s' := .pv (.bs (catL ((linesR text).take (n + 1))))) rfl (.bs (cat_take hn).symm)
              replace hS := hS.norm [(0, _), (15, _), (98, _), (99, _), (100, _)] [(0, _)] ⟨rfl, rfl, rfl, rfl, rfl, trivial⟩ ⟨rfl, trivial⟩
              obtain ⟨F, hS⟩ := hS
              exact ⟨n + 1, F, (by omega), hS, by omega⟩
            · skip
              have hfin : catL ((linesR text).take n) = catL (linesR text) := by rw [show n = (linesR text).length by simp at hc7; omega, List.take_length]
              refine wp_exit ?_
              refine then_x ?_
              refine then_x ?_
              refine block_x ?_
              refine then_n ?_
              refine wp_seq ?_
              refine region_seq hS (by kernel_rfl)
                  (Chain.cons (Cert.free rfl (o_move .t (by rfl))) ⟨rfl, trivial⟩ trivial
                  (Chain.cons (Cert.free rfl (o_move .t (by rfl))) ⟨rfl, trivial⟩ trivial
                  (Chain.cons (Cert.free rfl (o_eql_bs Tryd.underlying9 .t .t)) ⟨rfl, rfl, trivial⟩ trivial
                  (Chain.cons (Cert.free rfl (o_move .t (by rfl))) ⟨rfl, trivial⟩ trivial
                  (Chain.cons (Cert.cond rfl rfl (fun h => o_move .t (by rfl))) ⟨rfl, rfl, trivial⟩ trivial
                  (Chain.cons (Cert.cond rfl rfl (fun h => o_move .t (by rfl))) ⟨rfl, rfl, trivial⟩ trivial
                  (Chain.cons (Cert.cond rfl rfl (fun h => o_add_bs (.w h) (.cs (by kernel_rfl)) (by simp; omega))) ⟨rfl, rfl, trivial⟩ trivial
                  (Chain.cons (Cert.cond rfl rfl (fun h => o_eql_bs Tryd.underlying9 (.w h) (.w h))) ⟨rfl, rfl, rfl, trivial⟩ trivial
                  (Chain.cons (Cert.free rfl (o_or2 .t .t)) ⟨rfl, rfl, trivial⟩ trivial
                  (Chain.cons (Cert.free rfl (o_assign .t (by rfl))) ⟨rfl, trivial⟩ trivial
                  Chain.nil))))))))))
                  (by kernel_rfl) (by rw [hB]; kernel_rfl) ?_
              clear hS; intro a w F hS
              replace hS := hS.norm [(6, _)] [(0, _)] ⟨rfl, trivial⟩ ⟨rfl, trivial⟩
              obtain ⟨F, hS⟩ := hS
              try dsimp only [RS.sub, SF.sub, CF.sub, csub, Anc.sub, stCells, List.map, List.length_cons, List.length_nil, Nat.reduceAdd, List.drop_succ_cons, List.drop_zero, List.drop_nil, List.take_succ_cons, List.take_zero, List.take_nil, List.cons_append, List.nil_append, zCF, ldSF] at hS
              refine then_n ?_
              refine wp_ret ?_
              refine ret_P hfr hS rfl (.tmp rfl .nil) (.one (.bool (by first | rfl | (rcases cat_lines text with hz | hz <;> simp [hfin, hz]))))

end Go.Proofs.YtfldilhddeabeaaDoor
