/- Plain laws of words. No condition beyond those that each theorem says. -/
import Derived.Test.YtjdcnjemhjldoaaGreatDoorLx6
namespace Go.Proofs.YtjdcnjemhjldoaaGreatDoor
open Go Go.Gm
set_option linter.unusedVariables false
set_option linter.unusedSimpArgs false
set_option maxHeartbeats 4000000
set_option maxRecDepth 8000


theorem split_sum (c : UInt8) : ∀ s, sumL (splitL c s) ≤ s.length
  | [] => by simp [splitL, sumL]
  | b :: r => by
    have ih := split_sum c r
    rw [splitL_eq]
    split
    · simp only [sumL, List.map_cons, List.sum_cons, List.length_nil, List.length_cons] at ih ⊢
      omega
    · match hs : splitL c r with
      | [] => exact absurd hs (split_ne c r)
      | x :: t =>
        rw [hs] at ih
        simp only [sumL, List.map_cons, List.sum_cons, List.length_cons] at ih ⊢
        omega
theorem words_cases (s : List UInt8) : (wordsR s = ([], 0) ∧ s = []) ∨ wordsR s = ([], 14) ∨ wordsR s = (splitL 32 s, 0) := by
  unfold wordsR
  split
  · rename_i h; exact .inl ⟨rfl, h⟩
  · split
    · exact .inr (.inl rfl)
    · split
      · exact .inr (.inl rfl)
      · exact .inr (.inr rfl)
theorem words_small (s : List UInt8) : (wordsR s).1.length ≤ s.length + 1 ∧ sumL (wordsR s).1 ≤ s.length := by
  have h1 := split_len 32 s
  have h2 := List.count_le_length (a := 32) (l := s)
  rcases words_cases s with ⟨h, _⟩ | h | h <;> rw [h]
  · simp [sumL]
  · simp [sumL]
  · exact ⟨by dsimp only; omega, split_sum 32 s⟩
def FineW (w : List UInt8) : Prop := w ≠ [] ∧ ∀ k, k < w.length → 32 < (nth w k).toNat ∧ (nth w k).toNat < 127
end Go.Proofs.YtjdcnjemhjldoaaGreatDoor
