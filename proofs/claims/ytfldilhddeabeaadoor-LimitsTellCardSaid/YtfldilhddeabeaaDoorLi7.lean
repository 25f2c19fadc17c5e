/- Limits there and back. No condition beyond those that each theorem says. -/
import Derived.Test.YtfldilhddeabeaaDoorLi6
namespace Go.Proofs.YtfldilhddeabeaaDoor
open Go Go.Gm
set_option linter.unusedVariables false
set_option linter.unusedSimpArgs false
set_option maxHeartbeats 4000000
set_option maxRecDepth 8000


theorem digit_ok {c : UInt8} (h : digit c = true) : 32 < c.toNat ∧ c.toNat < 127 := by
  unfold digit at h
  simp at h
  omega
theorem text_fine {n : Int} (h : 0 ≤ n) : FineW (textL n) := by
  refine ⟨textL_ne n, fun k hk => ?_⟩
  have hd := (digL_read n.natAbs).2.1
  have e : textL n = (digL n.natAbs).map toB := by unfold textL; rw [if_neg (by omega)]
  rw [e] at hk ⊢
  exact digit_ok (List.all_eq_true.1 hd _ (nth_mem hk))
theorem lim_fine : FineW [108, 105, 109, 105, 116, 115] := by
  refine ⟨by simp, fun k hk => ?_⟩
  match k, hk with
  | 0, _ => decide
  | 1, _ => decide
  | 2, _ => decide
  | 3, _ => decide
  | 4, _ => decide
  | 5, _ => decide
theorem limWords_fine {l : LimD} (h : RightQ l) : ∀ j, j < (limWords l).length → FineW (nth (limWords l) j) := by
  intro j hj
  have hm := nth_mem hj
  generalize nth (limWords l) j = x at hm ⊢
  unfold limWords at hm
  rcases List.mem_cons.1 hm with e | hm
  · rw [e]; exact lim_fine
  · obtain ⟨n, hn, e⟩ := List.mem_map.1 hm
    rw [← e]
    exact text_fine (right_range h n hn).1
theorem limR_text {l : LimD} (h : RightQ l) : limR (textLim l) = (l, 0) := by
  have hw := words_join (limWords_fine h)
  have hrng := right_range h
  rw [textLim_join h]
  have hz : ∀ n ∈ listL l, readR (textL n) = (n, 0) := fun n hn => by
    have := hrng n hn
    rw [read_text this.1, if_neg (by omega)]
  have e5 : ((limWords l).drop 1).map (fun x => (readR x).1) = listL l := by
    unfold limWords
    rw [List.drop_one, List.tail_cons, List.map_map]
    conv => rhs; rw [← List.map_id (listL l)]
    exact List.map_congr_left fun n hn => by simp [hz n hn]
  rw [limR_done (by rw [hw]) (by rw [hw]; rfl) (by rw [hw]; rfl), hw, e5, ofL_list, if_pos h]
  rw [hw]
  intro j hj
  have hm : nth ((limWords l).drop 1) j ∈ (listL l).map textL := nth_mem (q := (limWords l).drop 1) (by unfold limWords listL; simpa using hj)
  obtain ⟨n, hn, e⟩ := List.mem_map.1 hm
  rw [← e, hz n hn]
theorem bad_zero : ∀ {l : List (List UInt8)}, badR l = 0 → ∀ x ∈ l, (readR x).2 = 0
  | [], _, x, hx => by simp at hx
  | y :: r, h, x, hx => by
    rw [badR] at h
    by_cases hy : (readR y).2 ≠ 0
    · rw [if_pos hy] at h; exact absurd h hy
    · rw [if_neg hy] at h
      rcases List.mem_cons.1 hx with rfl | hx
      · simpa using hy
      · exact bad_zero h x hx
theorem limR_cases (s : List UInt8) : (limR s).2 ≠ 0 ∧ (limR s).1 = zeroL ∨ (limR s).2 = 0 ∧ RightQ (limR s).1 ∧ textLim (limR s).1 = s := by
  by_cases h0 : (wordsR s).2 = 0
  · by_cases h1 : (wordsR s).1 = []
    · rw [limR_none h0 h1]; exact .inl ⟨by decide, rfl⟩
    · by_cases h2 : nth (wordsR s).1 0 = [108, 105, 109, 105, 116, 115]
      · by_cases h3 : (wordsR s).1.length < 6
        · rw [limR_short h0 h1 h2 h3]; exact .inl ⟨by decide, rfl⟩
        · by_cases h4 : 6 < (wordsR s).1.length
          · rw [limR_more h0 h1 h2 h4]; exact .inl ⟨by decide, rfl⟩
          · by_cases hb : badR ((wordsR s).1.drop 1) = 0
            · have hz := bad_zero hb
              have hd5 : ((wordsR s).1.drop 1).length = 5 := by simp; omega
              rw [limR_done h0 h2 (by omega) (fun j hj => hz _ (nth_mem (by omega)))]
              by_cases hr : RightQ (ofL (((wordsR s).1.drop 1).map fun x => (readR x).1))
              · rw [if_pos hr]
                refine .inr ⟨rfl, hr, ?_⟩
                rw [textLim_join hr]
                have e : limWords (ofL (((wordsR s).1.drop 1).map fun x => (readR x).1)) = (wordsR s).1 := by
                  unfold limWords
                  obtain ⟨x0, x1, x2, x3, x4, e⟩ := five (l := ((wordsR s).1.drop 1).map fun x => (readR x).1) (by rw [List.length_map]; exact hd5)
                  have e2 : listL (ofL (((wordsR s).1.drop 1).map fun x => (readR x).1)) = ((wordsR s).1.drop 1).map fun x => (readR x).1 := by rw [e]; rfl
                  rw [e2, List.map_map]
                  have e3 : ((wordsR s).1.drop 1).map (textL ∘ fun x => (readR x).1) = (wordsR s).1.drop 1 := by
                    conv => rhs; rw [← List.map_id ((wordsR s).1.drop 1)]
                    exact List.map_congr_left fun x hx => (read_back (hz x hx)).1
                  rw [e3, ← h2]
                  match hw : (wordsR s).1, h1 with
                  | x :: r, _ => rfl
                rw [e]
                exact join_words h0
              · rw [if_neg hr]; exact .inl ⟨by decide, rfl⟩
            · left
              unfold limR
              rw [if_neg (by simp [h0]), if_neg h1, if_neg (by simp [h2]), if_neg h3, if_neg h4, if_pos hb]
              exact ⟨hb, rfl⟩
      · rw [limR_word h0 h1 h2]; exact .inl ⟨by decide, rfl⟩
  · rw [limR_why h0]; exact .inl ⟨h0, rfl⟩
theorem textLim_len {l : LimD} : (textLim l).length ≤ 1000 := by
  by_cases h : RightQ l
  · rw [textLim_join h]
    have h1 := join_len (limWords l)
    have h2 := limWords_sum h
    rw [limWords_len] at h1
    omega
  · unfold textLim; rw [if_neg h]; simp
theorem right_most : RightQ mostL := by decide

end Go.Proofs.YtfldilhddeabeaaDoor
