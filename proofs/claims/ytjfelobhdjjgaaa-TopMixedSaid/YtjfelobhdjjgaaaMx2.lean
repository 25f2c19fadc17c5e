/- TopMixed. No condition beyond those that each theorem says. -/
import Derived.Test.YtjfelobhdjjgaaaMx1
namespace Go.Proofs.Ytjfelobhdjjgaaa
open Go Go.Gm
set_option linter.unusedVariables false
set_option linter.unusedSimpArgs false
set_option maxHeartbeats 4000000
set_option maxRecDepth 8000

theorem PVs.rints {w : World} {y : Ys} : ∀ {l : List Int} {vs : List Value}, PVs (l.flatMap rInt) vs w y → ∀ x ∈ l, inR .i64 x
  | [], _, _, x, hx => by cases hx
  | z :: l, vs, h, x, hx => by
    rw [List.flatMap_cons] at h
    obtain ⟨us, us2, rfl, h1, h2⟩ := PVs.split h
    rcases List.mem_cons.1 hx with rfl | hx
    · match us, h1 with
      | [u], h1 => exact h1.1.2.2
    · exact PVs.rints h2 x hx
theorem Sat.rints {B : Base} {E : En} {a : Act} {w : World} {F : Fp} (h : Sat B E a w F) {i : Nat} {l : List Int} (hl : Go.Gm.look E.s i = some (SF.pv (PV.sl rInt l))) : ∀ x ∈ l, inR .i64 x := by
  obtain ⟨_, cap, _, h1, h2, h3⟩ := h.s i _ hl
  rcases h3 with h3 | ⟨b, off, vs, _, _, _, _, h4⟩
  · subst h3; intro x hx; cases hx
  · exact PVs.rints h4
def sepL : List Int → List UInt8
  | [] => []
  | x :: r => 32 :: (textL x ++ sepL r)
theorem words_from (l : List Int) : ∀ m j, l.length - j = m → 0 < j → j ≤ l.length → wordsTo l j ++ sepL (l.drop j) = wordsL l
  | 0, j, hm, _, hj => by
    have : j = l.length := by omega
    subst this
    rw [List.drop_length]
    simp [sepL, wordsL]
  | m + 1, j, hm, h0, hj => by
    have hlt : j < l.length := by omega
    rw [← words_from l m (j + 1) (by omega) (by omega) (by omega), List.drop_eq_getElem_cons hlt]
    simp [wordsTo, sepL, if_pos h0, nth_eq hlt, List.append_assoc]
theorem words_split {l : List Int} (h : l ≠ []) : wordsL l = textL (nth l 0) ++ sepL (l.drop 1) := by
  have hl : 0 < l.length := List.length_pos_iff.2 h
  rw [← words_from l (l.length - 1) 1 rfl (by decide) hl]
  simp [wordsTo]
theorem digit_32 {c : UInt8} (h : digit c = true) : c ≠ 32 := by
  intro e
  subst e
  revert h
  decide
theorem text_32 (n : Int) : ∀ c ∈ textL n, c ≠ 32 := by
  intro c hc
  have hd := (digL_read n.natAbs).2.1
  unfold textL at hc
  split at hc
  · rcases List.mem_cons.1 hc with rfl | hc
    · decide
    · exact digit_32 (List.all_eq_true.1 hd _ hc)
  · exact digit_32 (List.all_eq_true.1 hd _ hc)
def MxI (l : List Int) (i k : Nat) (w : List UInt8) : Prop :=
  (k < l.length ∧ i ≤ (wordsL l).length ∧ (wordsL l).drop i = (textL (nth l k)).drop w.length ++ sepL (l.drop (k + 1)) ∧ w = (textL (nth l k)).take w.length) ∨ (k = l.length ∧ i = (wordsL l).length + 1) ∨ (l = [] ∧ k = 0)
theorem mx_start (l : List Int) : MxI l 0 0 [] := by
  by_cases h : l = []
  · exact .inr (.inr ⟨h, rfl⟩)
  · refine .inl ⟨List.length_pos_iff.2 h, Nat.zero_le _, ?_, by simp⟩
    rw [List.drop_zero, words_split h]; rfl
theorem mx_in {l : List Int} {i k : Nat} {w : List UInt8} (h : MxI l i k w) (hl : 0 < l.length) (hi : i ≤ (wordsL l).length) : k < l.length ∧ (wordsL l).drop i = (textL (nth l k)).drop w.length ++ sepL (l.drop (k + 1)) ∧ w = (textL (nth l k)).take w.length := by
  rcases h with h | ⟨_, h⟩ | ⟨h, _⟩
  · exact ⟨h.1, h.2.2⟩
  · omega
  · subst h; simp at hl
theorem mx_end {l : List Int} {i k : Nat} {w : List UInt8} (h : MxI l i k w) (hc : ¬ (i ≤ (wordsL l).length ∧ 0 < l.length)) : k = l.length := by
  rcases h with h | ⟨h, _⟩ | ⟨h, h2⟩
  · exact absurd ⟨h.2.1, by omega⟩ hc
  · exact h
  · subst h; exact h2
theorem drop_at {s : List UInt8} {i : Nat} (h : i < s.length) : s.drop i = nth s i :: s.drop (i + 1) := by rw [List.drop_eq_getElem_cons h, nth_eq h]
theorem mx_char {l : List Int} {i k : Nat} {w : List UInt8} (h : MxI l i k w) (hl : 0 < l.length) (hi : i < (wordsL l).length) (hc : nth (wordsL l) i ≠ 32) : MxI l (i + 1) k (w ++ [nth (wordsL l) i]) ∧ w.length < (textL (nth l k)).length := by
  obtain ⟨h1, h2, h3⟩ := mx_in h hl (by omega)
  have hw : w.length ≤ (textL (nth l k)).length := by
    have := congrArg List.length h3
    rw [List.length_take] at this
    omega
  have hlt : w.length < (textL (nth l k)).length := by
    rcases Nat.lt_or_ge w.length (textL (nth l k)).length with h4 | h4
    · exact h4
    · exfalso
      rw [List.drop_eq_nil_of_le h4, List.nil_append, drop_at hi] at h2
      match hr : l.drop (k + 1), h2 with
      | [], h2 => simp [sepL] at h2
      | x :: r, h2 => simp only [sepL, List.cons.injEq] at h2; exact hc h2.1
  rw [drop_at hi, drop_at hlt, List.cons_append, List.cons.injEq] at h2
  refine ⟨.inl ⟨h1, by omega, ?_, ?_⟩, hlt⟩
  · rw [List.length_append, List.length_singleton]; exact h2.2
  · rw [List.length_append, List.length_singleton, h2.1, nth_eq hlt, List.take_succ_eq_append_getElem hlt, ← h3]
theorem mx_word {l : List Int} {i k : Nat} {w : List UInt8} (h : MxI l i k w) (hl : 0 < l.length) (hi : i ≤ (wordsL l).length) (hc : ¬ (i < (wordsL l).length ∧ nth (wordsL l) i ≠ 32)) : w = textL (nth l k) ∧ MxI l (i + 1) (k + 1) [] ∧ k < l.length := by
  obtain ⟨h1, h2, h3⟩ := mx_in h hl hi
  have hw : w.length ≤ (textL (nth l k)).length := by
    have := congrArg List.length h3
    rw [List.length_take] at this
    omega
  have he : w.length = (textL (nth l k)).length := by
    rcases Nat.lt_or_ge w.length (textL (nth l k)).length with h4 | h4
    · exfalso
      rw [drop_at h4, List.cons_append] at h2
      rcases Nat.lt_or_ge i (wordsL l).length with h5 | h5
      · rw [drop_at h5, List.cons.injEq] at h2
        refine hc ⟨h5, ?_⟩
        rw [h2.1, nth_eq h4]
        exact text_32 _ _ (List.getElem_mem _)
      · rw [List.drop_eq_nil_of_le h5] at h2; cases h2
    · omega
  rw [he, List.take_length] at h3
  refine ⟨h3, ?_, h1⟩
  rw [he, List.drop_length, List.nil_append] at h2
  by_cases h4 : k + 1 < l.length
  · rw [List.drop_eq_getElem_cons h4] at h2
    have h5 : i < (wordsL l).length := by
      rcases Nat.lt_or_ge i (wordsL l).length with h5 | h5
      · exact h5
      · rw [List.drop_eq_nil_of_le h5] at h2; simp [sepL] at h2
    rw [drop_at h5] at h2
    simp only [sepL, List.cons.injEq] at h2
    exact .inl ⟨h4, by omega, by rw [h2.2, nth_eq h4]; rfl, by simp⟩
  · rw [show l.drop (k + 1) = [] from List.drop_eq_nil_of_le (by omega)] at h2
    have h5 := congrArg List.length h2
    rw [List.length_drop] at h5
    simp [sepL] at h5
    exact .inr (.inl ⟨by omega, by omega⟩)
theorem words_len {l : List Int} (h : ∀ x ∈ l, inR .i64 x) : ∀ j, j ≤ l.length → (wordsTo l j).length ≤ 22 * j
  | 0, _ => by simp [wordsTo]
  | j + 1, hj => by
    have h1 := words_len h j (by omega)
    have h2 := textL_len (range_i64 (h (nth l j) (by rw [nth_eq (by omega)]; exact List.getElem_mem _)))
    rw [wordsTo, List.length_append, List.length_append]
    split
    · simp only [List.length_cons, List.length_nil]; omega
    · simp only [List.length_nil]; omega
theorem mx_ok1 : mixF (unmixF 9) = 9 := by decide +kernel
theorem mx_ok2 : wordsL [1, 2] = [49, 32, 50] := by simp [wordsL, wordsTo, nth, textL, digL, digZ, toB]
theorem mx_ok3 : intsF [1] ≠ intsF [] := by decide +kernel
theorem cut_one {s : List UInt8} {i : Nat} (h : i < s.length) : (s.take (i + 1)).drop i = [nth s i] := by
  rw [List.take_succ_eq_append_getElem h, List.drop_append_of_le_length (by rw [List.length_take]; omega), nth_eq h, List.drop_eq_nil_of_le (by rw [List.length_take]; omega)]; rfl

theorem mixed_c (l : List Int) : FnP Try.prog 8 [.sl rInt l] (.bool true) := by
  refine FnP.mk Try.func8 rfl Try.ntmps8 rfl ?_
  intro B a w F hB hfr hS
  refine wp_seq ?_
  refine region_seq hS (by kernel_rfl)
      (Chain.cons (Cert.free rfl (o_assign .cb (by rfl))) trivial trivial
      Chain.nil)
      (by kernel_rfl) (by rw [hB]; kernel_rfl) ?_
  clear hS; intro a w F hS
  replace hS := hS.norm [(0, _), (2, _)] [(0, _)] ⟨rfl, rfl, trivial⟩ ⟨rfl, trivial⟩
  obtain ⟨F, hS⟩ := hS
  try dsimp only [RS.sub, SF.sub, CF.sub, csub, Anc.sub, stCells, List.map, List.length_cons, List.length_nil, Nat.reduceAdd, List.drop_succ_cons, List.drop_zero, List.drop_nil, List.take_succ_cons, List.take_zero, List.take_nil, List.cons_append, List.nil_append, zCF, ldSF] at hS
  refine then_n ?_
  refine wp_seq ?_
  refine wp_seq ?_
  refine region_seq hS (by kernel_rfl)
      (Chain.cons (Cert.free rfl (o_callP (unmix_c 9) Try.func29 rfl (by kernel_rfl) (Args.one (.ci (by kernel_rfl))))) trivial trivial
      (Chain.cons (Cert.free rfl (o_callP (mix_c (unmixF 9)) Try.func28 rfl (by kernel_rfl) (Args.one .t))) ⟨rfl, trivial⟩ trivial
      (Chain.cons (Cert.free rfl (o_neq .t (.ci (by kernel_rfl)))) ⟨rfl, trivial⟩ trivial
      (Chain.cons (Cert.free rfl (o_move .t (by rfl))) ⟨rfl, trivial⟩ trivial
      (Chain.cons (Cert.cond rfl rfl (fun h => o_buildSliceE (sz := 1) (zs := [.int .i64 0]) (r := [(0, _), (1, _)]) (l := [_, _]) Try.underlying24 (by kernel_rfl) (by kernel_rfl) (by kernel_rfl) (by kernel_rfl) rfl rfl (.one rfl (.ci (by kernel_rfl)) one_int (by kernel_rfl) (.one rfl (.ci (by kernel_rfl)) one_int (by kernel_rfl) .nil)) rfl)) ⟨rfl, trivial⟩ trivial
      (Chain.cons (Cert.cond rfl rfl (fun h => o_callP (words_c [1, 2] (by decide)) Try.func30 rfl (by kernel_rfl) (Args.one (.conv (.w h) (Ent.arrSl (R := rInt) (l := [1, 2]) rfl))))) ⟨rfl, rfl, trivial⟩ trivial
      (Chain.cons (Cert.cond rfl rfl (fun h => o_neq_bs Try.underlying9 (.w h) (.cs (by kernel_rfl)))) ⟨rfl, rfl, trivial⟩ trivial
      (Chain.cons (Cert.free rfl (o_or2 .t .t)) ⟨rfl, rfl, trivial⟩ trivial
      (Chain.cons (Cert.free rfl (o_move .t (by rfl))) ⟨rfl, trivial⟩ trivial
      (Chain.cons (Cert.cond rfl rfl (fun h => o_buildSliceE (sz := 1) (zs := [.int .i64 0]) (r := [(0, _)]) (l := [_]) Try.underlying24 (by kernel_rfl) (by kernel_rfl) (by kernel_rfl) (by kernel_rfl) rfl rfl (.one rfl (.ci (by kernel_rfl)) one_int (by kernel_rfl) .nil) rfl)) ⟨rfl, trivial⟩ trivial
      (Chain.cons (Cert.cond rfl rfl (fun h => o_callP (ints_c [1] (by decide)) Try.func31 rfl (by kernel_rfl) (Args.one (.conv (.w h) (Ent.arrSl (R := rInt) (l := [1]) rfl))))) ⟨rfl, rfl, trivial⟩ trivial
      (Chain.cons (Cert.cond rfl rfl (fun h => o_callP (ints_c [] (by decide)) Try.func31 rfl (by kernel_rfl) (Args.one (.conv (.c rfl) (Ent.nilSl))))) ⟨rfl, trivial⟩ trivial
      (Chain.cons (Cert.cond rfl rfl (fun h => o_eql (.w h) (.w h))) ⟨rfl, rfl, rfl, trivial⟩ trivial
      (Chain.cons (Cert.free rfl (o_or2 .t .t)) ⟨rfl, rfl, trivial⟩ trivial
      Chain.nil))))))))))))))
      (by kernel_rfl) (by rw [hB]; kernel_rfl) ?_
  clear hS; intro a w F hS
  replace hS := hS.norm [(0, _), (2, _), (24, _)] [(0, _)] ⟨rfl, rfl, rfl, trivial⟩ ⟨rfl, trivial⟩
  obtain ⟨F, hS⟩ := hS
  try dsimp only [RS.sub, SF.sub, CF.sub, csub, Anc.sub, stCells, List.map, List.length_cons, List.length_nil, Nat.reduceAdd, List.drop_succ_cons, List.drop_zero, List.drop_nil, List.take_succ_cons, List.take_zero, List.take_nil, List.cons_append, List.nil_append, zCF, ldSF] at hS
  refine then_n ?_
  refine cond_b hS rfl (fun hc0 => ?_) (fun hc0 => ?_)
  · skip
    rw [mx_ok1, mx_ok2] at hc0
    simp [mx_ok3] at hc0
  · skip
    refine wp_skip ?_
    refine then_n ?_
    refine wp_seq ?_
    refine wp_seq ?_
    refine region_seq hS (by kernel_rfl)
        (Chain.cons (Cert.free rfl (o_move .t (by rfl))) ⟨rfl, trivial⟩ trivial
        (Chain.cons (Cert.free rfl (o_len_sl Try.underlying24 .t)) ⟨rfl, trivial⟩ trivial
        (Chain.cons (Cert.free rfl (o_gtr .t (.ci (by kernel_rfl)))) ⟨rfl, trivial⟩ trivial
        Chain.nil)))
        (by kernel_rfl) (by rw [hB]; kernel_rfl) ?_
    clear hS; intro a w F hS
    replace hS := hS.norm [(0, _), (2, _), (27, _)] [(0, _)] ⟨rfl, rfl, rfl, trivial⟩ ⟨rfl, trivial⟩
    obtain ⟨F, hS⟩ := hS
    try dsimp only [RS.sub, SF.sub, CF.sub, csub, Anc.sub, stCells, List.map, List.length_cons, List.length_nil, Nat.reduceAdd, List.drop_succ_cons, List.drop_zero, List.drop_nil, List.take_succ_cons, List.take_zero, List.take_nil, List.cons_append, List.nil_append, zCF, ldSF] at hS
    refine then_n ?_
    refine cond_b hS rfl (fun hc1 => ?_) (fun hc1 => ?_)
    · skip
      refine wp_seq ?_
      refine region_seq hS (by kernel_rfl)
          (Chain.cons (Cert.free rfl (o_assign .cb (by rfl))) trivial trivial
          Chain.nil)
          (by kernel_rfl) (by rw [hB]; kernel_rfl) ?_
      clear hS; intro a w F hS
      replace hS := hS.norm [(0, _), (2, _)] [(0, _)] ⟨rfl, rfl, trivial⟩ ⟨rfl, trivial⟩
      obtain ⟨F, hS⟩ := hS
      try dsimp only [RS.sub, SF.sub, CF.sub, csub, Anc.sub, stCells, List.map, List.length_cons, List.length_nil, Nat.reduceAdd, List.drop_succ_cons, List.drop_zero, List.drop_nil, List.take_succ_cons, List.take_zero, List.take_nil, List.cons_append, List.nil_append, zCF, ldSF] at hS
      refine then_n ?_
      refine wp_ret ?_
      refine then_r ?_
      refine ret_P hfr hS rfl (.tmp rfl .nil) (.one (.bool (by first | rfl | (unfold intsF; simp))))
    · skip
      have hlen : l.length ≤ 60 := by simp at hc1; omega
      refine wp_skip ?_
      refine then_n ?_
      refine wp_seq ?_
      refine region_seq hS (by kernel_rfl)
          (Chain.cons (Cert.free rfl (o_move .t (by rfl))) ⟨rfl, trivial⟩ trivial
          (Chain.cons (Cert.free rfl (o_callP (words_c l (by omega)) Try.func30 rfl (by kernel_rfl) (Args.one .t))) ⟨rfl, trivial⟩ trivial
          (Chain.cons (Cert.free rfl (o_assign .t (by rfl))) ⟨rfl, trivial⟩ trivial
          Chain.nil)))
          (by kernel_rfl) (by rw [hB]; kernel_rfl) ?_
      clear hS; intro a w F hS
      replace hS := hS.norm [(0, _), (2, _), (3, _)] [(0, _)] ⟨rfl, rfl, rfl, trivial⟩ ⟨rfl, trivial⟩
      obtain ⟨F, hS⟩ := hS
      try dsimp only [RS.sub, SF.sub, CF.sub, csub, Anc.sub, stCells, List.map, List.length_cons, List.length_nil, Nat.reduceAdd, List.drop_succ_cons, List.drop_zero, List.drop_nil, List.take_succ_cons, List.take_zero, List.take_nil, List.cons_append, List.nil_append, zCF, ldSF] at hS
      refine then_n ?_
      refine wp_seq ?_
      replace hS := hS.fresh 101 rfl
      refine region_seq hS (by kernel_rfl)
          (Chain.cons (Cert.free rfl (o_callN 101 (snew_c) Try.func32 rfl (by kernel_rfl) Args.nil PV.ptr_one)) trivial ⟨rfl, trivial⟩
          (Chain.cons (Cert.free rfl (o_assign .t (by rfl))) ⟨rfl, trivial⟩ trivial
          Chain.nil))
          (by kernel_rfl) (by rw [hB]; kernel_rfl) ?_
      clear hS; intro a w F hS
      replace hS := hS.sub
      replace hS := hS.norm [(0, _), (2, _), (3, _), (4, _)] [(0, _), (101, _)] ⟨rfl, rfl, rfl, rfl, trivial⟩ ⟨rfl, rfl, trivial⟩
      obtain ⟨F, hS⟩ := hS
      try dsimp only [RS.sub, SF.sub, CF.sub, csub, Anc.sub, stCells, List.map, List.length_cons, List.length_nil, Nat.reduceAdd, List.drop_succ_cons, List.drop_zero, List.drop_nil, List.take_succ_cons, List.take_zero, List.take_nil, List.cons_append, List.nil_append, zCF, ldSF] at hS
      generalize Act.tau a 30 = v30 at hS
      replace hS := hS.turn 101 rfl (r' := RS.hp (HP.star [.pt (.val v30) 93 [.pv (.int .u64 (0)), .pv (.int .i64 (0))]])) (fun _ _ _ _ h => h)
      obtain ⟨F, hS⟩ := hS.peel 101 60 rfl rfl
      obtain ⟨b, rfl⟩ := hS.shape 60 rfl
      replace hS := hS.norm [(0, _), (2, _), (3, _), (4, _)] [(0, _), (60, _)] ⟨rfl, rfl, rfl, rfl, trivial⟩ ⟨rfl, rfl, trivial⟩
      obtain ⟨F, hS⟩ := hS
      refine then_n ?_
      refine wp_seq ?_
      refine region_seq hS (by kernel_rfl)
          (Chain.cons (Cert.free rfl (o_assign (.cs (by kernel_rfl)) (by rfl))) trivial trivial
          (Chain.cons (Cert.free rfl (o_assign (.ci (by kernel_rfl)) (by rfl))) trivial trivial
          Chain.nil))
          (by kernel_rfl) (by rw [hB]; kernel_rfl) ?_
      clear hS; intro a w F hS
      replace hS := hS.norm [(0, _), (2, _), (3, _), (4, _), (5, _), (6, _)] [(0, _), (60, _)] ⟨rfl, rfl, rfl, rfl, rfl, rfl, trivial⟩ ⟨rfl, rfl, trivial⟩
      obtain ⟨F, hS⟩ := hS
      try dsimp only [RS.sub, SF.sub, CF.sub, csub, Anc.sub, stCells, List.map, List.length_cons, List.length_nil, Nat.reduceAdd, List.drop_succ_cons, List.drop_zero, List.drop_nil, List.take_succ_cons, List.take_zero, List.take_nil, List.cons_append, List.nil_append, zCF, ldSF] at hS
      refine then_n ?_
      refine wp_seq ?_
      refine wp_seq ?_
      refine region_seq hS (by kernel_rfl)
          (Chain.cons (Cert.free rfl (o_assign (.ci (by kernel_rfl)) (by rfl))) trivial trivial
          Chain.nil)
          (by kernel_rfl) (by rw [hB]; kernel_rfl) ?_
      clear hS; intro a w F hS
      replace hS := hS.norm [(0, _), (2, _), (3, _), (4, _), (5, _), (6, _), (7, _)] [(0, _), (60, _)] ⟨rfl, rfl, rfl, rfl, rfl, rfl, rfl, trivial⟩ ⟨rfl, rfl, trivial⟩
      obtain ⟨F, hS⟩ := hS
      try dsimp only [RS.sub, SF.sub, CF.sub, csub, Anc.sub, stCells, List.map, List.length_cons, List.length_nil, Nat.reduceAdd, List.drop_succ_cons, List.drop_zero, List.drop_nil, List.take_succ_cons, List.take_zero, List.take_nil, List.cons_append, List.nil_append, zCF, ldSF] at hS
      refine then_n ?_
      refine wp_block ?_
      replace hS := hS.norm [(0, _), (3, _), (4, _), (5, _), (6, _), (7, _)] [(0, _), (60, _)] ⟨rfl, rfl, rfl, rfl, rfl, rfl, trivial⟩ ⟨rfl, rfl, trivial⟩
      obtain ⟨F, hS⟩ := hS
      refine loop_inv (σ := (Nat × Nat × List UInt8)) (fun s => (⟨[(0, .pv (.sl rInt l)), (3, .pv (.bs (wordsL l))), (4, .pv (.is (.pointer (some ⟨b, 0, none⟩)))), (5, .pv (.bs s.2.2)), (6, .pv (.int .i64 s.2.1)), (7, .pv (.int .i64 s.1))], [(0, frame B), (60, RS.pt (.val (.pointer (some ⟨b, 0, none⟩))) 93 [.pv (.int .u64 (sumF 0 (l.take s.2.1))), .pv (.int .i64 ((s.2.1 : Nat)))])]⟩ : En)) (fun s => MxI l s.1 s.2.1 s.2.2 ∧ s.1 ≤ (wordsL l).length + 1 ∧ s.2.1 ≤ l.length) (fun s => (wordsL l).length + 1 - s.1) (0, 0, []) hS ⟨mx_start l, Nat.zero_le _, Nat.zero_le _⟩ ?_
      clear hS; intro s a w F hC hS
      obtain ⟨i, k, wd⟩ := s
      try dsimp only at hC
      try dsimp only at hS
      obtain ⟨hM, hi, hk⟩ := hC
      try dsimp only at hM hi hk
      have hwl := Sat.lenBs hS (i := 5) rfl
      have hsl : (wordsL l).length ≤ 22 * l.length := words_len (Sat.rints hS (i := 0) rfl) l.length (Nat.le_refl _)
      refine wp_seq ?_
      refine wp_seq ?_
      refine region_seq hS (by kernel_rfl)
          (Chain.cons (Cert.free rfl (o_move .t (by rfl))) ⟨rfl, trivial⟩ trivial
          (Chain.cons (Cert.free rfl (o_move .t (by rfl))) ⟨rfl, trivial⟩ trivial
          (Chain.cons (Cert.free rfl (o_len_bs Try.underlying9 .t)) ⟨rfl, trivial⟩ trivial
          (Chain.cons (Cert.free rfl (o_leq .t .t)) ⟨rfl, rfl, trivial⟩ trivial
          (Chain.cons (Cert.free rfl (o_move .t (by rfl))) ⟨rfl, trivial⟩ trivial
          (Chain.cons (Cert.cond rfl rfl (fun h => o_move .t (by rfl))) ⟨rfl, rfl, trivial⟩ trivial
          (Chain.cons (Cert.cond rfl rfl (fun h => o_len_sl Try.underlying24 (.w h))) ⟨rfl, rfl, trivial⟩ trivial
          (Chain.cons (Cert.cond rfl rfl (fun h => o_gtr (.w h) (.ci (by kernel_rfl)))) ⟨rfl, rfl, trivial⟩ trivial
          (Chain.cons (Cert.free rfl (o_and2 .t .t)) ⟨rfl, rfl, trivial⟩ trivial
          Chain.nil)))))))))
          (by kernel_rfl) (by rw [hB]; kernel_rfl) ?_
      clear hS; intro a w F hS
      replace hS := hS.norm [(0, _), (3, _), (4, _), (5, _), (6, _), (7, _), (31, _), (32, _), (33, _), (34, _), (35, _), (36, _), (37, _), (38, _), (39, _)] [(0, _), (60, _)] ⟨rfl, rfl, rfl, rfl, rfl, rfl, rfl, rfl, rfl, rfl, rfl, rfl, rfl, rfl, rfl, trivial⟩ ⟨rfl, rfl, trivial⟩
      obtain ⟨F, hS⟩ := hS
      try dsimp only [RS.sub, SF.sub, CF.sub, csub, Anc.sub, stCells, List.map, List.length_cons, List.length_nil, Nat.reduceAdd, List.drop_succ_cons, List.drop_zero, List.drop_nil, List.take_succ_cons, List.take_zero, List.take_nil, List.cons_append, List.nil_append, zCF, ldSF] at hS
      refine then_n ?_
      refine cond_b hS rfl (fun hc2 => ?_) (fun hc2 => ?_)
      · skip
        have hcl : i ≤ (wordsL l).length ∧ 0 < l.length := by
          simp only [Bool.and_eq_true, decide_eq_true_eq] at hc2
          omega
        refine wp_skip ?_
        refine then_n ?_
        refine wp_seq ?_
        refine wp_block ?_
        refine wp_seq ?_
        refine wp_seq ?_
        refine region_seq hS (by kernel_rfl)
            (Chain.cons (Cert.free rfl (o_move .t (by rfl))) ⟨rfl, trivial⟩ trivial
            (Chain.cons (Cert.free rfl (o_move .t (by rfl))) ⟨rfl, trivial⟩ trivial
            (Chain.cons (Cert.free rfl (o_len_bs Try.underlying9 .t)) ⟨rfl, trivial⟩ trivial
            (Chain.cons (Cert.free rfl (o_lss .t .t)) ⟨rfl, rfl, trivial⟩ trivial
            (Chain.cons (Cert.free rfl (o_move .t (by rfl))) ⟨rfl, trivial⟩ trivial
            (Chain.cons (Cert.cond rfl rfl (fun h => o_move .t (by rfl))) ⟨rfl, rfl, trivial⟩ trivial
            (Chain.cons (Cert.cond rfl rfl (fun h => o_move .t (by rfl))) ⟨rfl, rfl, trivial⟩ trivial
            (Chain.cons (Cert.cond rfl rfl (fun h => o_index_bs Try.underlying9 (.w h) (.w h) (by omega) (by have := of_decide_eq_true h; omega))) ⟨rfl, rfl, rfl, trivial⟩ trivial
            (Chain.cons (Cert.cond rfl rfl (fun h => o_neq (.w h) (.ci (by kernel_rfl)))) ⟨rfl, rfl, trivial⟩ trivial
            (Chain.cons (Cert.free rfl (o_and2 .t .t)) ⟨rfl, rfl, trivial⟩ trivial
            Chain.nil))))))))))
            (by kernel_rfl) (by rw [hB]; kernel_rfl) ?_
        clear hS; intro a w F hS
        replace hS := hS.norm [(0, _), (3, _), (4, _), (5, _), (6, _), (7, _), (31, _), (32, _), (33, _), (34, _), (35, _), (36, _), (37, _), (38, _), (39, _), (42, _), (43, _), (44, _), (45, _), (46, _), (47, _), (48, _), (49, _), (50, _), (51, _)] [(0, _), (60, _)] ⟨rfl, rfl, rfl, rfl, rfl, rfl, rfl, rfl, rfl, rfl, rfl, rfl, rfl, rfl, rfl, rfl, rfl, rfl, rfl, rfl, rfl, rfl, rfl, rfl, rfl, trivial⟩ ⟨rfl, rfl, trivial⟩
        obtain ⟨F, hS⟩ := hS
        try dsimp only [RS.sub, SF.sub, CF.sub, csub, Anc.sub, stCells, List.map, List.length_cons, List.length_nil, Nat.reduceAdd, List.drop_succ_cons, List.drop_zero, List.drop_nil, List.take_succ_cons, List.take_zero, List.take_nil, List.cons_append, List.nil_append, zCF, ldSF] at hS
        refine then_n ?_
        refine cond_b hS rfl (fun hc3 => ?_) (fun hc3 => ?_)
        · skip
          have hcd : i < (wordsL l).length ∧ nth (wordsL l) i ≠ 32 := by
            simp only [Int.toNat_natCast, Bool.and_eq_true, decide_eq_true_eq, Bool.not_eq_true', decide_eq_false_iff_not] at hc3
            refine ⟨by omega, fun e => hc3.2 ?_⟩
            rw [e]; rfl
          obtain ⟨hM2, hwt⟩ := mx_char hM hcl.2 hcd.1 hcd.2
          obtain ⟨hkl, -, -⟩ := mx_in hM hcl.2 hcl.1
          have htl := textL_len (range_i64 (Sat.rints hS (i := 0) rfl (Go.Gm.nth l k) (by rw [nth_eq hkl]; exact List.getElem_mem hkl)))
          refine wp_seq ?_
          refine region_seq hS (by kernel_rfl)
              (Chain.cons (Cert.free rfl (o_move .t (by rfl))) ⟨rfl, trivial⟩ trivial
              (Chain.cons (Cert.free rfl (o_move .t (by rfl))) ⟨rfl, trivial⟩ trivial
              (Chain.cons (Cert.free rfl (o_move .t (by rfl))) ⟨rfl, trivial⟩ trivial
              (Chain.cons (Cert.free rfl (o_move .t (by rfl))) ⟨rfl, trivial⟩ trivial
              (Chain.cons (Cert.free rfl (o_add .t (.ci (by kernel_rfl)))) ⟨rfl, trivial⟩ trivial
              (Chain.cons (Cert.free rfl (o_slice_bs_lh Try.underlying9 .t .t .t (by omega) (by rw [wrap_i64 (by omega)]; omega) (by rw [wrap_i64 (by omega)]; omega))) ⟨rfl, rfl, rfl, trivial⟩ trivial
              (Chain.cons (Cert.free rfl (o_add_bs .t .t (by rw [wrap_succ (by omega), Int.toNat_natCast, Int.toNat_natCast, cut_one hcd.1, List.length_singleton]; omega))) ⟨rfl, rfl, trivial⟩ trivial
              (Chain.cons (Cert.free rfl (o_assign .t (by rfl))) ⟨rfl, trivial⟩ trivial
              Chain.nil))))))))
              (by kernel_rfl) (by rw [hB]; kernel_rfl) ?_
          clear hS; intro a w F hS
          replace hS := hS.norm [(0, _), (3, _), (4, _), (5, _), (6, _), (7, _), (31, _), (32, _), (33, _), (34, _), (35, _), (36, _), (37, _), (38, _), (39, _), (42, _), (43, _), (44, _), (45, _), (46, _), (47, _), (48, _), (49, _), (50, _), (51, _), (52, _), (53, _), (54, _), (55, _), (56, _), (57, _), (58, _)] [(0, _), (60, _)] ⟨rfl, rfl, rfl, rfl, rfl, rfl, rfl, rfl, rfl, rfl, rfl, rfl, rfl, rfl, rfl, rfl, rfl, rfl, rfl, rfl, rfl, rfl, rfl, rfl, rfl, rfl, rfl, rfl, rfl, rfl, rfl, rfl, trivial⟩ ⟨rfl, rfl, trivial⟩
          obtain ⟨F, hS⟩ := hS
          try dsimp only [RS.sub, SF.sub, CF.sub, csub, Anc.sub, stCells, List.map, List.length_cons, List.length_nil, Nat.reduceAdd, List.drop_succ_cons, List.drop_zero, List.drop_nil, List.take_succ_cons, List.take_zero, List.take_nil, List.cons_append, List.nil_append, zCF, ldSF] at hS
          rw [wrap_succ (by omega), Int.toNat_natCast, Int.toNat_natCast, cut_one hcd.1] at hS
          refine then_n ?_
          refine wp_exit ?_
          refine then_x ?_
          refine block_x ?_
          refine then_n ?_
          refine region_seq hS (by kernel_rfl)
              (Chain.cons (Cert.free rfl (o_move .t (by rfl))) ⟨rfl, trivial⟩ trivial
              (Chain.cons (Cert.free rfl (o_add .t (.ci (by kernel_rfl)))) ⟨rfl, trivial⟩ trivial
              (Chain.cons (Cert.free rfl (o_assign .t (by rfl))) ⟨rfl, trivial⟩ trivial
              Chain.nil)))
              (by kernel_rfl) (by rw [hB]; kernel_rfl) ?_
          clear hS; intro a w F hS
          replace hS := hS.norm [(0, _), (3, _), (4, _), (5, _), (6, _), (7, _), (31, _), (32, _), (33, _), (34, _), (35, _), (36, _), (37, _), (38, _), (39, _), (40, _), (41, _), (42, _), (43, _), (44, _), (45, _), (46, _), (47, _), (48, _), (49, _), (50, _), (51, _), (52, _), (53, _), (54, _), (55, _), (56, _), (57, _), (58, _)] [(0, _), (60, _)] ⟨rfl, rfl, rfl, rfl, rfl, rfl, rfl, rfl, rfl, rfl, rfl, rfl, rfl, rfl, rfl, rfl, rfl, rfl, rfl, rfl, rfl, rfl, rfl, rfl, rfl, rfl, rfl, rfl, rfl, rfl, rfl, rfl, rfl, rfl, trivial⟩ ⟨rfl, rfl, trivial⟩
          obtain ⟨F, hS⟩ := hS
          try dsimp only [RS.sub, SF.sub, CF.sub, csub, Anc.sub, stCells, List.map, List.length_cons, List.length_nil, Nat.reduceAdd, List.drop_succ_cons, List.drop_zero, List.drop_nil, List.take_succ_cons, List.take_zero, List.take_nil, List.cons_append, List.nil_append, zCF, ldSF] at hS
          refine then_n ?_
          replace hS := hS.ent (i := 7) (s' := .pv (.int .i64 ((i + 1 : Nat) : Int))) rfl (.int (wrap_succ (by omega)))
          replace hS := hS.norm [(0, _), (3, _), (4, _), (5, _), (6, _), (7, _)] [(0, _), (60, _)] ⟨rfl, rfl, rfl, rfl, rfl, rfl, trivial⟩ ⟨rfl, rfl, trivial⟩
          obtain ⟨F, hS⟩ := hS
          exact ⟨(i + 1, k, wd ++ [nth (wordsL l) i]), F, ⟨hM2, by dsimp only; omega, hk⟩, hS, by dsimp only; omega⟩
        · skip
          have hcd : ¬ (i < (wordsL l).length ∧ nth (wordsL l) i ≠ 32) := by
            simp only [Int.toNat_natCast, Bool.and_eq_false_iff, decide_eq_false_iff_not, Bool.not_eq_false', decide_eq_true_eq] at hc3
            rintro ⟨h1, h2⟩
            rcases hc3 with h3 | h3
            · omega
            · exact h2 (UInt8.toNat_inj.1 (by have e32 : (32 : UInt8).toNat = 32 := rfl; omega))
          obtain ⟨hwT, hM2, hkl⟩ := mx_word hM hcl.2 hcl.1 hcd
          refine wp_skip ?_
          refine then_n ?_
          refine wp_seq ?_
          refine region_seq hS (by kernel_rfl)
              (Chain.cons (Cert.free rfl (o_move .t (by rfl))) ⟨rfl, trivial⟩ trivial
              (Chain.cons (Cert.free rfl (o_callP (read_c wd hwl) Try.func33 rfl (by kernel_rfl) (Args.one .t))) ⟨rfl, trivial⟩ trivial
              (Chain.cons (Cert.free rfl (o_move .t (by rfl))) ⟨rfl, trivial⟩ trivial
              (Chain.cons (Cert.free rfl (o_extract .t rfl)) ⟨rfl, trivial⟩ trivial
              (Chain.cons (Cert.free rfl (o_extract .t rfl)) ⟨rfl, trivial⟩ trivial
              (Chain.cons (Cert.free rfl (o_assign .t (by rfl))) ⟨rfl, trivial⟩ trivial
              (Chain.cons (Cert.free rfl (o_assign .t (by rfl))) ⟨rfl, trivial⟩ trivial
              Chain.nil)))))))
              (by kernel_rfl) (by rw [hB]; kernel_rfl) ?_
          clear hS; intro a w F hS
          replace hS := hS.norm [(0, _), (3, _), (4, _), (5, _), (6, _), (7, _), (8, _), (9, _), (31, _), (32, _), (33, _), (34, _), (35, _), (36, _), (37, _), (38, _), (39, _), (42, _), (43, _), (44, _), (45, _), (46, _), (47, _), (48, _), (49, _), (50, _), (51, _), (59, _), (60, _), (61, _), (62, _), (63, _)] [(0, _), (60, _)] ⟨rfl, rfl, rfl, rfl, rfl, rfl, rfl, rfl, rfl, rfl, rfl, rfl, rfl, rfl, rfl, rfl, rfl, rfl, rfl, rfl, rfl, rfl, rfl, rfl, rfl, rfl, rfl, rfl, rfl, rfl, rfl, rfl, trivial⟩ ⟨rfl, rfl, trivial⟩
          obtain ⟨F, hS⟩ := hS
          try dsimp only [RS.sub, SF.sub, CF.sub, csub, Anc.sub, stCells, List.map, List.length_cons, List.length_nil, Nat.reduceAdd, List.drop_succ_cons, List.drop_zero, List.drop_nil, List.take_succ_cons, List.take_zero, List.take_nil, List.cons_append, List.nil_append, zCF, ldSF] at hS
          refine then_n ?_
          refine wp_seq ?_
          refine region_seq hS (by kernel_rfl)
              (Chain.cons (Cert.free rfl (o_move .t (by rfl))) ⟨rfl, trivial⟩ trivial
              (Chain.cons (Cert.free rfl (o_move .t (by rfl))) ⟨rfl, trivial⟩ trivial
              (Chain.cons (Cert.free rfl (o_indexAddr_sl (sz := 1) (.mk Try.underlying24 (by kernel_rfl)) (by intro x; rfl) .t .t (by omega) (by omega))) ⟨rfl, rfl, trivial⟩ trivial
              (Chain.cons (Cert.free rfl (o_load_ref (ag := false) (sz := 1) .t (by kernel_rfl) (by kernel_rfl) (by kernel_rfl))) ⟨rfl, trivial⟩ trivial
              (Chain.cons (Cert.free rfl (o_geq .t (.ci (by kernel_rfl)))) ⟨rfl, trivial⟩ trivial
              (Chain.cons (Cert.free rfl (o_move .t (by rfl))) ⟨rfl, trivial⟩ trivial
              (Chain.cons (Cert.cond rfl rfl (fun h => o_move .t (by rfl))) ⟨rfl, rfl, trivial⟩ trivial
              (Chain.cons (Cert.cond rfl rfl (fun h => o_move .t (by rfl))) ⟨rfl, rfl, trivial⟩ trivial
              (Chain.cons (Cert.cond rfl rfl (fun h => o_indexAddr_sl (sz := 1) (.mk Try.underlying24 (by kernel_rfl)) (by intro x; rfl) (.w h) (.w h) (by omega) (by omega))) ⟨rfl, rfl, rfl, trivial⟩ trivial
              (Chain.cons (Cert.cond rfl rfl (fun h => o_load_ref (ag := false) (sz := 1) (.w h) (by kernel_rfl) (by kernel_rfl) (by kernel_rfl))) ⟨rfl, rfl, trivial⟩ trivial
              (Chain.cons (Cert.cond rfl rfl (fun h => o_leq (.w h) (.ci (by kernel_rfl)))) ⟨rfl, rfl, trivial⟩ trivial
              (Chain.cons (Cert.free rfl (o_and2 .t .t)) ⟨rfl, rfl, trivial⟩ trivial
              (Chain.cons (Cert.free rfl (o_assign .t (by rfl))) ⟨rfl, trivial⟩ trivial
              Chain.nil)))))))))))))
              (by kernel_rfl) (by rw [hB]; kernel_rfl) ?_
          clear hS; intro a w F hS
          replace hS := hS.norm [(0, _), (3, _), (4, _), (5, _), (6, _), (7, _), (8, _), (9, _), (10, _), (31, _), (32, _), (33, _), (34, _), (35, _), (36, _), (37, _), (38, _), (39, _), (42, _), (43, _), (44, _), (45, _), (46, _), (47, _), (48, _), (49, _), (50, _), (51, _), (59, _), (60, _), (61, _), (62, _), (63, _), (64, _), (65, _), (66, _), (67, _), (68, _), (69, _), (70, _), (71, _), (72, _), (73, _), (74, _), (75, _)] [(0, _), (60, _)] ⟨rfl, rfl, rfl, rfl, rfl, rfl, rfl, rfl, rfl, rfl, rfl, rfl, rfl, rfl, rfl, rfl, rfl, rfl, rfl, rfl, rfl, rfl, rfl, rfl, rfl, rfl, rfl, rfl, rfl, rfl, rfl, rfl, rfl, rfl, rfl, rfl, rfl, rfl, rfl, rfl, rfl, rfl, rfl, rfl, rfl, trivial⟩ ⟨rfl, rfl, trivial⟩
          obtain ⟨F, hS⟩ := hS
          try dsimp only [RS.sub, SF.sub, CF.sub, csub, Anc.sub, stCells, List.map, List.length_cons, List.length_nil, Nat.reduceAdd, List.drop_succ_cons, List.drop_zero, List.drop_nil, List.take_succ_cons, List.take_zero, List.take_nil, List.cons_append, List.nil_append, zCF, ldSF] at hS
          refine then_n ?_
          refine wp_seq ?_
          refine wp_seq ?_
          refine region_seq hS (by kernel_rfl)
              (Chain.cons (Cert.free rfl (o_move .t (by rfl))) ⟨rfl, trivial⟩ trivial
              (Chain.cons (Cert.free rfl (o_move .t (by rfl))) ⟨rfl, trivial⟩ trivial
              (Chain.cons (Cert.free rfl (o_eql .t (.ci (by kernel_rfl)))) ⟨rfl, trivial⟩ trivial
              (Chain.cons (Cert.free rfl (o_neqB Try.underlying4 .t .t)) ⟨rfl, rfl, trivial⟩ trivial
              (Chain.cons (Cert.free rfl (o_move .t (by rfl))) ⟨rfl, trivial⟩ trivial
              (Chain.cons (Cert.cond rfl rfl (fun h => o_move .t (by rfl))) ⟨rfl, rfl, trivial⟩ trivial
              (Chain.cons (Cert.cond rfl rfl (fun h => o_move (.w h) (by rfl))) ⟨rfl, rfl, trivial⟩ trivial
              (Chain.cons (Cert.cond2 rfl rfl (fun h => o_move .t (by rfl))) ⟨rfl, rfl, trivial⟩ trivial
              (Chain.cons (Cert.cond2 rfl rfl (fun h => o_move .t (by rfl))) ⟨rfl, rfl, trivial⟩ trivial
              (Chain.cons (Cert.cond2 rfl rfl (fun h => o_move .t (by rfl))) ⟨rfl, rfl, trivial⟩ trivial
              (Chain.cons (Cert.cond2 rfl rfl (fun h => o_indexAddr_sl (sz := 1) (.mk Try.underlying24 (by kernel_rfl)) (by intro x; rfl) (.w h) (.w h) (by omega) (by omega))) ⟨rfl, rfl, rfl, trivial⟩ trivial
              (Chain.cons (Cert.cond2 rfl rfl (fun h => o_load_ref (ag := false) (sz := 1) (.w h) (by kernel_rfl) (by kernel_rfl) (by kernel_rfl))) ⟨rfl, rfl, trivial⟩ trivial
              (Chain.cons (Cert.cond2 rfl rfl (fun h => o_neq (.w h) (.w h))) ⟨rfl, rfl, rfl, trivial⟩ trivial
              (Chain.cons (Cert.cond rfl rfl (fun h => o_and2 (.w h) (.wc h))) ⟨rfl, rfl, rfl, trivial⟩ trivial
              (Chain.cons (Cert.free rfl (o_or2 .t .t)) ⟨rfl, rfl, trivial⟩ trivial
              Chain.nil)))))))))))))))
              (by kernel_rfl) (by rw [hB]; kernel_rfl) ?_
          clear hS; intro a w F hS
          replace hS := hS.norm [(0, _), (3, _), (4, _), (5, _), (6, _), (7, _), (8, _), (9, _), (10, _), (31, _), (32, _), (33, _), (34, _), (35, _), (36, _), (37, _), (38, _), (39, _), (42, _), (43, _), (44, _), (45, _), (46, _), (47, _), (48, _), (49, _), (50, _), (51, _), (59, _), (60, _), (61, _), (62, _), (63, _), (64, _), (65, _), (66, _), (67, _), (68, _), (69, _), (70, _), (71, _), (72, _), (73, _), (74, _), (75, _), (76, _), (77, _), (78, _), (79, _), (80, _), (81, _), (82, _), (83, _), (84, _), (85, _), (86, _), (87, _), (88, _), (89, _), (90, _)] [(0, _), (60, _)] ⟨rfl, rfl, rfl, rfl, rfl, rfl, rfl, rfl, rfl, rfl, rfl, rfl, rfl, rfl, rfl, rfl, rfl, rfl, rfl, rfl, rfl, rfl, rfl, rfl, rfl, rfl, rfl, rfl, rfl, rfl, rfl, rfl, rfl, rfl, rfl, rfl, rfl, rfl, rfl, rfl, rfl, rfl, rfl, rfl, rfl, rfl, rfl, rfl, rfl, rfl, rfl, rfl, rfl, rfl, rfl, rfl, rfl, rfl, rfl, rfl, trivial⟩ ⟨rfl, rfl, trivial⟩
          obtain ⟨F, hS⟩ := hS
          try dsimp only [RS.sub, SF.sub, CF.sub, csub, Anc.sub, stCells, List.map, List.length_cons, List.length_nil, Nat.reduceAdd, List.drop_succ_cons, List.drop_zero, List.drop_nil, List.take_succ_cons, List.take_zero, List.take_nil, List.cons_append, List.nil_append, zCF, ldSF] at hS
          refine then_n ?_
          refine cond_b hS rfl (fun hc4 => ?_) (fun hc4 => ?_)
          · skip
            rw [Int.toNat_natCast, hwT] at hc4
            generalize nth l k = x at hc4
            rcases Int.lt_or_le x 0 with hs | hs
            · rw [read_minus hs] at hc4; simp at hc4; omega
            · rw [read_text hs] at hc4; by_cases hm : 2147483647 < x
              · rw [if_pos hm] at hc4; simp at hc4; omega
              · rw [if_neg hm] at hc4; simp at hc4; omega
          · skip
            refine wp_skip ?_
            refine then_n ?_
            refine wp_seq ?_
            refine region_seq hS (by kernel_rfl)
                (Chain.cons (Cert.free rfl (o_move .t (by rfl))) ⟨rfl, trivial⟩ trivial
                (Chain.cons (Cert.free rfl (o_move .t (by rfl))) ⟨rfl, trivial⟩ trivial
                (Chain.cons (Cert.free rfl (o_move .t (by rfl))) ⟨rfl, trivial⟩ trivial
                (Chain.cons (Cert.free rfl (o_indexAddr_sl (sz := 1) (.mk Try.underlying24 (by kernel_rfl)) (by intro x; rfl) .t .t (by omega) (by omega))) ⟨rfl, rfl, trivial⟩ trivial
                (Chain.cons (Cert.free rfl (o_load_ref (ag := false) (sz := 1) .t (by kernel_rfl) (by kernel_rfl) (by kernel_rfl))) ⟨rfl, trivial⟩ trivial
                (Chain.cons (Cert.free rfl (o_buildSliceE (sz := 1) (zs := [.int .i64 0]) (r := [(0, .tmp 95)]) (l := [_]) Try.underlying24 (by kernel_rfl) (by kernel_rfl) (by kernel_rfl) (by kernel_rfl) rfl rfl (.one rfl .t one_int (by kernel_rfl) .nil) rfl)) ⟨rfl, trivial⟩ trivial
                (Chain.cons (Cert.free rfl (o_callB (cells := [.pv _, .pv _]) (cells' := [.pv _, .pv _]) 60 rfl rfl (sadd_c b (sumF 0 (l.take k)) k [Go.Gm.nth l (k : Int).toNat] (by omega) (by simp)) Try.func34 rfl (by kernel_rfl) (Args.two .t (.conv .t (Ent.arrSl (R := rInt) (l := [Go.Gm.nth l (k : Int).toNat]) rfl))))) ⟨rfl, rfl, trivial⟩ ⟨rfl, trivial⟩
                Chain.nil)))))))
                (by kernel_rfl) (by rw [hB]; kernel_rfl) ?_
            clear hS; intro a w F hS
            replace hS := hS.norm [(0, _), (3, _), (4, _), (5, _), (6, _), (7, _), (8, _), (9, _), (10, _), (31, _), (32, _), (33, _), (34, _), (35, _), (36, _), (37, _), (38, _), (39, _), (42, _), (43, _), (44, _), (45, _), (46, _), (47, _), (48, _), (49, _), (50, _), (51, _), (59, _), (60, _), (61, _), (62, _), (63, _), (64, _), (65, _), (66, _), (67, _), (68, _), (69, _), (70, _), (71, _), (72, _), (73, _), (74, _), (75, _), (76, _), (77, _), (78, _), (79, _), (80, _), (81, _), (82, _), (83, _), (84, _), (85, _), (86, _), (87, _), (88, _), (89, _), (90, _), (91, _), (92, _), (93, _), (94, _), (95, _), (96, _)] [(0, _), (60, _)] ⟨rfl, rfl, rfl, rfl, rfl, rfl, rfl, rfl, rfl, rfl, rfl, rfl, rfl, rfl, rfl, rfl, rfl, rfl, rfl, rfl, rfl, rfl, rfl, rfl, rfl, rfl, rfl, rfl, rfl, rfl, rfl, rfl, rfl, rfl, rfl, rfl, rfl, rfl, rfl, rfl, rfl, rfl, rfl, rfl, rfl, rfl, rfl, rfl, rfl, rfl, rfl, rfl, rfl, rfl, rfl, rfl, rfl, rfl, rfl, rfl, rfl, rfl, rfl, rfl, rfl, rfl, trivial⟩ ⟨rfl, rfl, trivial⟩
            obtain ⟨F, hS⟩ := hS
            try dsimp only [RS.sub, SF.sub, CF.sub, csub, Anc.sub, stCells, List.map, List.length_cons, List.length_nil, Nat.reduceAdd, List.drop_succ_cons, List.drop_zero, List.drop_nil, List.take_succ_cons, List.take_zero, List.take_nil, List.cons_append, List.nil_append, zCF, ldSF] at hS
            rw [Int.toNat_natCast] at hS
            replace hS := hS.turn 60 rfl (r' := RS.pt (.val (.pointer (some ⟨b, 0, none⟩))) 93 [.pv (.int .u64 (sumF 0 (l.take (k + 1)))), .pv (.int .i64 (((k + 1 : Nat) : Int)))]) (ptLe rfl rfl ⟨.of (by rw [← sumF_next 0 hkl]; rfl), .of (by simp), trivial⟩)
            refine then_n ?_
            refine wp_seq ?_
            refine region_seq hS (by kernel_rfl)
                (Chain.cons (Cert.free rfl (o_assign (.cs (by kernel_rfl)) (by rfl))) trivial trivial
                Chain.nil)
                (by kernel_rfl) (by rw [hB]; kernel_rfl) ?_
            clear hS; intro a w F hS
            replace hS := hS.norm [(0, _), (3, _), (4, _), (5, _), (6, _), (7, _), (8, _), (9, _), (10, _), (31, _), (32, _), (33, _), (34, _), (35, _), (36, _), (37, _), (38, _), (39, _), (42, _), (43, _), (44, _), (45, _), (46, _), (47, _), (48, _), (49, _), (50, _), (51, _), (59, _), (60, _), (61, _), (62, _), (63, _), (64, _), (65, _), (66, _), (67, _), (68, _), (69, _), (70, _), (71, _), (72, _), (73, _), (74, _), (75, _), (76, _), (77, _), (78, _), (79, _), (80, _), (81, _), (82, _), (83, _), (84, _), (85, _), (86, _), (87, _), (88, _), (89, _), (90, _), (91, _), (92, _), (93, _), (94, _), (95, _), (96, _)] [(0, _), (60, _)] ⟨rfl, rfl, rfl, rfl, rfl, rfl, rfl, rfl, rfl, rfl, rfl, rfl, rfl, rfl, rfl, rfl, rfl, rfl, rfl, rfl, rfl, rfl, rfl, rfl, rfl, rfl, rfl, rfl, rfl, rfl, rfl, rfl, rfl, rfl, rfl, rfl, rfl, rfl, rfl, rfl, rfl, rfl, rfl, rfl, rfl, rfl, rfl, rfl, rfl, rfl, rfl, rfl, rfl, rfl, rfl, rfl, rfl, rfl, rfl, rfl, rfl, rfl, rfl, rfl, rfl, rfl, trivial⟩ ⟨rfl, rfl, trivial⟩
            obtain ⟨F, hS⟩ := hS
            try dsimp only [RS.sub, SF.sub, CF.sub, csub, Anc.sub, stCells, List.map, List.length_cons, List.length_nil, Nat.reduceAdd, List.drop_succ_cons, List.drop_zero, List.drop_nil, List.take_succ_cons, List.take_zero, List.take_nil, List.cons_append, List.nil_append, zCF, ldSF] at hS
            refine then_n ?_
            refine region_seq hS (by kernel_rfl)
                (Chain.cons (Cert.free rfl (o_move .t (by rfl))) ⟨rfl, trivial⟩ trivial
                (Chain.cons (Cert.free rfl (o_add .t (.ci (by kernel_rfl)))) ⟨rfl, trivial⟩ trivial
                (Chain.cons (Cert.free rfl (o_assign .t (by rfl))) ⟨rfl, trivial⟩ trivial
                Chain.nil)))
                (by kernel_rfl) (by rw [hB]; kernel_rfl) ?_
            clear hS; intro a w F hS
            replace hS := hS.norm [(0, _), (3, _), (4, _), (5, _), (6, _), (7, _), (8, _), (9, _), (10, _), (31, _), (32, _), (33, _), (34, _), (35, _), (36, _), (37, _), (38, _), (39, _), (42, _), (43, _), (44, _), (45, _), (46, _), (47, _), (48, _), (49, _), (50, _), (51, _), (59, _), (60, _), (61, _), (62, _), (63, _), (64, _), (65, _), (66, _), (67, _), (68, _), (69, _), (70, _), (71, _), (72, _), (73, _), (74, _), (75, _), (76, _), (77, _), (78, _), (79, _), (80, _), (81, _), (82, _), (83, _), (84, _), (85, _), (86, _), (87, _), (88, _), (89, _), (90, _), (91, _), (92, _), (93, _), (94, _), (95, _), (96, _), (98, _), (99, _)] [(0, _), (60, _)] ⟨rfl, rfl, rfl, rfl, rfl, rfl, rfl, rfl, rfl, rfl, rfl, rfl, rfl, rfl, rfl, rfl, rfl, rfl, rfl, rfl, rfl, rfl, rfl, rfl, rfl, rfl, rfl, rfl, rfl, rfl, rfl, rfl, rfl, rfl, rfl, rfl, rfl, rfl, rfl, rfl, rfl, rfl, rfl, rfl, rfl, rfl, rfl, rfl, rfl, rfl, rfl, rfl, rfl, rfl, rfl, rfl, rfl, rfl, rfl, rfl, rfl, rfl, rfl, rfl, rfl, rfl, rfl, rfl, trivial⟩ ⟨rfl, rfl, trivial⟩
            obtain ⟨F, hS⟩ := hS
            try dsimp only [RS.sub, SF.sub, CF.sub, csub, Anc.sub, stCells, List.map, List.length_cons, List.length_nil, Nat.reduceAdd, List.drop_succ_cons, List.drop_zero, List.drop_nil, List.take_succ_cons, List.take_zero, List.take_nil, List.cons_append, List.nil_append, zCF, ldSF] at hS
            refine block_n ?_
            refine then_n ?_
            refine region_seq hS (by kernel_rfl)
                (Chain.cons (Cert.free rfl (o_move .t (by rfl))) ⟨rfl, trivial⟩ trivial
                (Chain.cons (Cert.free rfl (o_add .t (.ci (by kernel_rfl)))) ⟨rfl, trivial⟩ trivial
                (Chain.cons (Cert.free rfl (o_assign .t (by rfl))) ⟨rfl, trivial⟩ trivial
                Chain.nil)))
                (by kernel_rfl) (by rw [hB]; kernel_rfl) ?_
            clear hS; intro a w F hS
            replace hS := hS.norm [(0, _), (3, _), (4, _), (5, _), (6, _), (7, _), (8, _), (9, _), (10, _), (31, _), (32, _), (33, _), (34, _), (35, _), (36, _), (37, _), (38, _), (39, _), (40, _), (41, _), (42, _), (43, _), (44, _), (45, _), (46, _), (47, _), (48, _), (49, _), (50, _), (51, _), (59, _), (60, _), (61, _), (62, _), (63, _), (64, _), (65, _), (66, _), (67, _), (68, _), (69, _), (70, _), (71, _), (72, _), (73, _), (74, _), (75, _), (76, _), (77, _), (78, _), (79, _), (80, _), (81, _), (82, _), (83, _), (84, _), (85, _), (86, _), (87, _), (88, _), (89, _), (90, _), (91, _), (92, _), (93, _), (94, _), (95, _), (96, _), (98, _), (99, _)] [(0, _), (60, _)] ⟨rfl, rfl, rfl, rfl, rfl, rfl, rfl, rfl, rfl, rfl, rfl, rfl, rfl, rfl, rfl, rfl, rfl, rfl, rfl, rfl, rfl, rfl, rfl, rfl, rfl, rfl, rfl, rfl, rfl, rfl, rfl, rfl, rfl, rfl, rfl, rfl, rfl, rfl, rfl, rfl, rfl, rfl, rfl, rfl, rfl, rfl, rfl, rfl, rfl, rfl, rfl, rfl, rfl, rfl, rfl, rfl, rfl, rfl, rfl, rfl, rfl, rfl, rfl, rfl, rfl, rfl, rfl, rfl, rfl, rfl, trivial⟩ ⟨rfl, rfl, trivial⟩
            obtain ⟨F, hS⟩ := hS
            try dsimp only [RS.sub, SF.sub, CF.sub, csub, Anc.sub, stCells, List.map, List.length_cons, List.length_nil, Nat.reduceAdd, List.drop_succ_cons, List.drop_zero, List.drop_nil, List.take_succ_cons, List.take_zero, List.take_nil, List.cons_append, List.nil_append, zCF, ldSF] at hS
            refine then_n ?_
            replace hS := hS.ent (i := 7) (s' := .pv (.int .i64 ((i + 1 : Nat) : Int))) rfl (.int (wrap_succ (by omega)))
            replace hS := hS.ent (i := 6) (s' := .pv (.int .i64 ((k + 1 : Nat) : Int))) rfl (.int (wrap_succ (by omega)))
            replace hS := hS.norm [(0, _), (3, _), (4, _), (5, _), (6, _), (7, _)] [(0, _), (60, _)] ⟨rfl, rfl, rfl, rfl, rfl, rfl, trivial⟩ ⟨rfl, rfl, trivial⟩
            obtain ⟨F, hS⟩ := hS
            exact ⟨(i + 1, k + 1, []), F, ⟨hM2, by dsimp only; omega, by dsimp only; omega⟩, hS, by dsimp only; omega⟩
      · skip
        have hkk : k = l.length := mx_end hM (by
          simp only [Bool.and_eq_false_iff, decide_eq_false_iff_not] at hc2
          omega)
        rw [hkk, List.take_length] at hS
        refine wp_exit ?_
        refine then_x ?_
        refine then_x ?_
        refine block_x ?_
        refine then_n ?_
        refine wp_seq ?_
        refine region_seq hS (by kernel_rfl)
            (Chain.cons (Cert.free rfl (o_move .t (by rfl))) ⟨rfl, trivial⟩ trivial
            (Chain.cons (Cert.free rfl (o_move .t (by rfl))) ⟨rfl, trivial⟩ trivial
            (Chain.cons (Cert.free rfl (o_len_sl Try.underlying24 .t)) ⟨rfl, trivial⟩ trivial
            (Chain.cons (Cert.free rfl (o_eql .t .t)) ⟨rfl, rfl, trivial⟩ trivial
            (Chain.cons (Cert.free rfl (o_move .t (by rfl))) ⟨rfl, trivial⟩ trivial
            (Chain.cons (Cert.cond rfl rfl (fun h => o_move .t (by rfl))) ⟨rfl, rfl, trivial⟩ trivial
            (Chain.cons (Cert.cond rfl rfl (fun h => o_callR (cells := [.pv _, .pv _]) 60 (svalue_c (sumF 0 l) l.length) (fun _ _ _ _ _ h => h) rfl Try.func35 rfl (by kernel_rfl) (ArgsLent.one (.w h .is)))) ⟨rfl, rfl, trivial⟩ ⟨rfl, trivial⟩
            (Chain.cons (Cert.cond rfl rfl (fun h => o_move .t (by rfl))) ⟨rfl, rfl, trivial⟩ trivial
            (Chain.cons (Cert.cond rfl rfl (fun h => o_callP (ints_c l (by omega)) Try.func31 rfl (by kernel_rfl) (Args.one (.w h)))) ⟨rfl, rfl, trivial⟩ trivial
            (Chain.cons (Cert.cond rfl rfl (fun h => o_eql (.w h) (.w h))) ⟨rfl, rfl, rfl, trivial⟩ trivial
            (Chain.cons (Cert.free rfl (o_and2 .t .t)) ⟨rfl, rfl, trivial⟩ trivial
            (Chain.cons (Cert.free rfl (o_move .t (by rfl))) ⟨rfl, trivial⟩ trivial
            (Chain.cons (Cert.cond rfl rfl (fun h => o_move .t (by rfl))) ⟨rfl, rfl, trivial⟩ trivial
            (Chain.cons (Cert.cond rfl rfl (fun h => o_callR (cells := [.pv _, .pv _]) 60 (slen_c (sumF 0 l) l.length) (fun _ _ _ _ _ h => h) rfl Try.func36 rfl (by kernel_rfl) (ArgsLent.one (.w h .is)))) ⟨rfl, rfl, trivial⟩ ⟨rfl, trivial⟩
            (Chain.cons (Cert.cond rfl rfl (fun h => o_move .t (by rfl))) ⟨rfl, rfl, trivial⟩ trivial
            (Chain.cons (Cert.cond rfl rfl (fun h => o_len_sl Try.underlying24 (.w h))) ⟨rfl, rfl, trivial⟩ trivial
            (Chain.cons (Cert.cond rfl rfl (fun h => o_eql (.w h) (.w h))) ⟨rfl, rfl, rfl, trivial⟩ trivial
            (Chain.cons (Cert.free rfl (o_and2 .t .t)) ⟨rfl, rfl, trivial⟩ trivial
            (Chain.cons (Cert.free rfl (o_assign .t (by rfl))) ⟨rfl, trivial⟩ trivial
            Chain.nil)))))))))))))))))))
            (by kernel_rfl) (by rw [hB]; kernel_rfl) ?_
        clear hS; intro a w F hS
        replace hS := hS.norm [(2, _)] [(0, _), (60, _)] ⟨rfl, trivial⟩ ⟨rfl, rfl, trivial⟩
        obtain ⟨F, hS⟩ := hS
        try dsimp only [RS.sub, SF.sub, CF.sub, csub, Anc.sub, stCells, List.map, List.length_cons, List.length_nil, Nat.reduceAdd, List.drop_succ_cons, List.drop_zero, List.drop_nil, List.take_succ_cons, List.take_zero, List.take_nil, List.cons_append, List.nil_append, zCF, ldSF] at hS
        refine then_n ?_
        refine wp_ret ?_
        refine ret_P hfr hS rfl (.tmp rfl .nil) (.one (.bool (by first | rfl | (unfold intsF; simp))))

end Go.Proofs.Ytjfelobhdjjgaaa
