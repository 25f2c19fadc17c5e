/- Plain laws of words. No condition beyond those that each theorem says. -/
import Derived.Test.YtjdcnjemhjldoaaDoorLx6
namespace Go.Proofs.YtjdcnjemhjldoaaDoor
open Go Go.Gm
set_option linter.unusedVariables false
set_option linter.unusedSimpArgs false
set_option maxHeartbeats 4000000
set_option maxRecDepth 8000


theorem split_sum (c : UInt8) : ∀ s, sumL (splitL c s) ≤ s.length
  | [] => by simp [splitL, sumL]
  | b :: r => by
    have ih := split_sum c r
    rw [splitL_eq]
    split
    · simp only [sumL, List.map_cons, List.sum_cons, List.length_nil, List.length_cons] at ih ⊢
      omega
    · match hs : splitL c r with
      | [] => exact absurd hs (split_ne c r)
      | x :: t =>
        rw [hs] at ih
        simp only [sumL, List.map_cons, List.sum_cons, List.length_cons] at ih ⊢
        omega
theorem words_cases (s : List UInt8) : (wordsR s = ([], 0) ∧ s = []) ∨ wordsR s = ([], 14) ∨ wordsR s = (splitL 32 s, 0) := by
  unfold wordsR
  split
  · rename_i h; exact .inl ⟨rfl, h⟩
  · split
    · exact .inr (.inl rfl)
    · split
      · exact .inr (.inl rfl)
      · exact .inr (.inr rfl)
theorem words_small (s : List UInt8) : (wordsR s).1.length ≤ s.length + 1 ∧ sumL (wordsR s).1 ≤ s.length := by
  have h1 := split_len 32 s
  have h2 := List.count_le_length (a := 32) (l := s)
  rcases words_cases s with ⟨h, _⟩ | h | h <;> rw [h]
  · simp [sumL]
  · simp [sumL]
  · exact ⟨by dsimp only; omega, split_sum 32 s⟩
theorem join_words {s : List UInt8} (h : (wordsR s).2 = 0) : joinL (wordsR s).1 = s := by
  rcases words_cases s with ⟨h1, h2⟩ | h1 | h1
  · rw [h1, h2]; rfl
  · rw [h1] at h; simp at h
  · rw [h1]; exact join_split s
def FineW (w : List UInt8) : Prop := w ≠ [] ∧ ∀ k, k < w.length → 32 < (nth w k).toNat ∧ (nth w k).toNat < 127
theorem join_all : ∀ l : List (List UInt8), (∀ x ∈ l, x.all okB = true) → (joinL l).all okB = true
  | [], _ => rfl
  | [x], h => h x (by simp)
  | x :: y :: r, h => by
    have h1 := h x (by simp)
    have h2 := join_all (y :: r) fun z hz => h z (by simp only [List.mem_cons] at hz ⊢; exact .inr hz)
    rw [joinL, List.all_append, h1, List.all_cons, h2]
    rfl
theorem words_join {ws : List (List UInt8)} (h : ∀ j, j < ws.length → FineW (nth ws j)) : wordsR (joinL ws) = (ws, 0) := by
  have hm : ∀ x ∈ ws, FineW x := fun x hx => by
    obtain ⟨j, hj, rfl⟩ := List.getElem_of_mem hx
    rw [← nth_eq hj]
    exact h j hj
  have hc : ∀ x ∈ ws, ∀ c ∈ x, 32 < c.toNat ∧ c.toNat < 127 := fun x hx c hc => by
    obtain ⟨k, hk, rfl⟩ := List.getElem_of_mem hc
    rw [← nth_eq hk]
    exact (hm x hx).2 k hk
  by_cases h0 : ws = []
  · subst h0; rfl
  · have hs := split_join ws h0 fun x hx hb => by have := (hc x hx 32 hb).1; simp at this
    have hne : joinL ws ≠ [] := by
      match ws, h0, hm with
      | [x], _, hm => exact (hm x (by simp)).1
      | x :: y :: r, _, _ => simp [joinL]
    refine words_fine' hne (join_all ws fun x hx => ?_) hs.symm fun x hx => (hm x hx).1
    rw [List.all_eq_true]
    intro c hcx
    have := hc x hx c hcx
    unfold okB
    simp
    omega
def catL (l : List (List UInt8)) : List UInt8 := l.flatMap fun x => x ++ [10]
theorem cat_split : ∀ s, catL (splitL 10 s) = s ++ [10]
  | [] => rfl
  | b :: r => by
    have ih := cat_split r
    rw [splitL_eq]
    by_cases h : b = 10
    · rw [if_pos h, catL, List.flatMap_cons, ← catL, ih, h]; rfl
    · rw [if_neg h]
      match hs : splitL 10 r with
      | [] => exact absurd hs (split_ne 10 r)
      | x :: t =>
        rw [hs] at ih
        rw [catL, List.flatMap_cons] at ih ⊢
        rw [List.cons_append, List.cons_append, List.cons_append, ih]
theorem cat_take {l : List (List UInt8)} {i : Nat} (h : i < l.length) : catL (l.take (i + 1)) = catL (l.take i) ++ (nth l i ++ [10]) := by
  rw [List.take_succ_eq_append_getElem h, nth_eq h, catL, List.flatMap_append]
  simp [catL]
theorem cat_len (l : List (List UInt8)) (i : Nat) : (catL (l.take i)).length ≤ (catL l).length := by
  conv => rhs; rw [← List.take_append_drop i l]
  unfold catL
  rw [List.flatMap_append, List.length_append]
  omega
theorem lines_len (s : List UInt8) : (linesR s).length ≤ s.length + 1 := by
  have h1 := split_len 10 s
  have h2 := List.count_le_length (a := 10) (l := s)
  unfold linesR
  split
  · rw [List.length_take]; omega
  · omega
theorem cat_lines (s : List UInt8) : catL (linesR s) = s ∨ catL (linesR s) = s ++ [10] := by
  unfold linesR
  split
  · rename_i h
    left
    have hp : 0 < (splitL 10 s).length := by rw [split_len]; omega
    have h2 := cat_take (l := splitL 10 s) (i := (splitL 10 s).length - 1) (by omega)
    rw [show (splitL 10 s).length - 1 + 1 = (splitL 10 s).length by omega, List.take_length, cat_split, h] at h2
    exact (List.append_inj_left' h2 (by simp)).symm
  · right
    exact cat_split s

end Go.Proofs.YtjdcnjemhjldoaaDoor
