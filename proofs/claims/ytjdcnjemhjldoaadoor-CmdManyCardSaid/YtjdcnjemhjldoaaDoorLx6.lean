/- The document's answer. No condition beyond those that each theorem says. -/
import Derived.Test.YtjdcnjemhjldoaaDoorLx5
namespace Go.Proofs.YtjdcnjemhjldoaaDoor
open Go Go.Gm
set_option linter.unusedVariables false
set_option linter.unusedSimpArgs false
set_option maxHeartbeats 4000000
set_option maxRecDepth 8000


theorem not_in {c : UInt8} {s : List UInt8} {k i : Nat} (h2 : i ≤ s.length) (h4 : ∀ j, k ≤ j → j < i → nth s j ≠ c) : c ∉ (s.take i).drop k := by
  intro hm
  obtain ⟨j, hj, e⟩ := List.getElem_of_mem hm
  rw [List.length_drop, List.length_take] at hj
  refine h4 (k + j) (by omega) (by omega) ?_
  rw [nth_eq (by omega), ← e]
  simp
theorem split_at {c : UInt8} {s : List UInt8} {k i : Nat} (h1 : k ≤ i) (h2 : i < s.length) (h3 : nth s i = c) (h4 : ∀ j, k ≤ j → j < i → nth s j ≠ c) : splitL c (s.drop k) = (s.take i).drop k :: splitL c (s.drop (i + 1)) := by
  have e : s.drop k = (s.take i).drop k ++ c :: s.drop (i + 1) := by
    conv => lhs; rw [← List.take_append_drop i s]
    rw [List.drop_append_of_le_length (by rw [List.length_take]; omega), List.drop_eq_getElem_cons h2, ← nth_eq h2, h3]
  rw [e, split_app _ _ _ (not_in (by omega) h4), split_hit]
  simp [preL]
theorem split_end {c : UInt8} {s : List UInt8} {k : Nat} (h4 : ∀ j, k ≤ j → j < s.length → nth s j ≠ c) : splitL c (s.drop k) = [s.drop k] := by
  have h := not_in (Nat.le_refl _) h4
  rw [List.take_length] at h
  have := split_app c (s.drop k) [] h
  rw [List.append_nil] at this
  rw [this]
  simp [splitL, preL]
theorem words_hole {s : List UInt8} (hs : s ≠ []) (he : [] ∈ splitL 32 s) : wordsR s = ([], 14) := by
  have h : (splitL 32 s).all (fun w => decide (w ≠ [])) = false := by
    rw [List.all_eq_false]
    exact ⟨_, he, by simp⟩
  unfold wordsR
  rw [if_neg hs, h]
  split <;> simp
theorem words_fine' {s : List UInt8} {q : List (List UInt8)} (hs : s ≠ []) (hall : s.all okB = true) (hq : q = splitL 32 s) (h : ∀ x ∈ q, x ≠ []) : wordsR s = (q, 0) := by
  rw [hq] at h ⊢
  exact words_fine hs hall fun j hj => h _ (nth_mem hj)
theorem lines_at {s : List UInt8} {q : List (List UInt8)} {k : Nat} (hq : q ++ splitL 10 (s.drop k) = splitL 10 s) (h4 : ∀ j, k ≤ j → j < s.length → nth s j ≠ 10) : linesR s = if k < s.length then q ++ [s.drop k] else q := by
  rw [split_end h4] at hq
  unfold linesR
  rw [← hq, show (q ++ [s.drop k]).length - 1 = q.length by simp, show nth (q ++ [s.drop k]) q.length = s.drop k by rw [nth_eq (by simp)]; simp]
  by_cases h : k < s.length
  · rw [if_pos h, if_neg (by intro e; have := congrArg List.length e; rw [List.length_drop, List.length_nil] at this; omega)]
  · rw [if_neg h, if_pos (List.drop_of_length_le (by omega))]
    simp
theorem join_step {l : List (List UInt8)} {i : Nat} (h : i < l.length) : joinL (l.take (i + 1)) = (if 0 < i then joinL (l.take i) ++ [32] else joinL (l.take i)) ++ nth l i := by
  match i, h with
  | 0, h => rw [← join_one h]; simp [joinL]
  | i + 1, h =>
    rw [if_pos (Nat.succ_pos i), List.take_succ_eq_append_getElem h, join_snoc _ _ (by intro e; have := congrArg List.length e; rw [List.length_take, List.length_nil] at this; omega), nth_eq h]
theorem same_of {a b : List (List UInt8)} (h : a.length = b.length) (k : ∀ j, j < a.length → nth a j = nth b j) : a = b := by
  refine List.ext_getElem h fun j h1 h2 => ?_
  rw [← nth_eq h1, ← nth_eq h2]
  exact k j h1
theorem okB_of {c : UInt8} (h1 : ¬ ((c.toNat : Nat) : Int) < 32) (h2 : ¬ 126 < ((c.toNat : Nat) : Int)) : okB c = true := by unfold okB; simp; omega
theorem okB_not {c : UInt8} (h1 : ((c.toNat : Nat) : Int) < 32 ∨ 126 < ((c.toNat : Nat) : Int)) : okB c = false := by unfold okB; simp; omega
theorem is_byte {c d : UInt8} (h : ((c.toNat : Nat) : Int) = ((d.toNat : Nat) : Int)) : c = d := by apply UInt8.toNat_inj.1; omega

end Go.Proofs.YtjdcnjemhjldoaaDoor
