/- Maps: List. No condition beyond those that each theorem says. -/
import Derived.Test.YtdfpljecogijaaaAv6
namespace Go.Proofs.Ytdfpljecogijaaa
open Go Go.Gm
set_option linter.unusedVariables false
set_option linter.unusedSimpArgs false
set_option maxHeartbeats 4000000
set_option maxRecDepth 8000


theorem snoc_of {α : Type} {l : List α} (h : 0 < l.length) : ∃ l' e, l = l' ++ [e] := by
  have : l ≠ [] := fun h' => by rw [h'] at h; simp at h
  exact ⟨l.dropLast, l.getLast this, (List.dropLast_concat_getLast this).symm⟩
theorem nth_snoc {α : Type} [Inhabited α] (l : List α) (e : α) : Go.Gm.nth (l ++ [e]) l.length = e := by rw [nth_eq (by simp)]; simp

end Go.Proofs.Ytdfpljecogijaaa
