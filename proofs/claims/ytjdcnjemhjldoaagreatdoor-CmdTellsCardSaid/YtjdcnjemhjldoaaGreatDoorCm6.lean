/- Commands there and back. No condition beyond those that each theorem says. -/
import Derived.Test.YtjdcnjemhjldoaaGreatDoorCm4
import Derived.Test.YtjdcnjemhjldoaaGreatDoorCm5
import Derived.Test.YtjdcnjemhjldoaaGreatDoorOpT
import Derived.Test.YtjdcnjemhjldoaaGreatDoorNuT
import Derived.Test.YtjdcnjemhjldoaaGreatDoorLxW
namespace Go.Proofs.YtjdcnjemhjldoaaGreatDoor
open Go Go.Gm
set_option linter.unusedVariables false
set_option linter.unusedSimpArgs false
set_option maxHeartbeats 4000000
set_option maxRecDepth 8000


theorem joinL_flat : ∀ (r : List (List UInt8)) (x : List UInt8), joinL (x :: r) = x ++ r.flatMap fun y => 32 :: y
  | [], x => by simp [joinL]
  | y :: r, x => by rw [joinL, joinL_flat r y, List.flatMap_cons]; simp
theorem words_join_take (l : List Int) : ∀ i, i ≤ l.length → wordsTo l i = joinL ((l.map textL).take i)
  | 0, _ => rfl
  | i + 1, h => by
    have hi : i < l.length := by omega
    rw [wordsTo, words_join_take l i (by omega), join_step (by simpa using hi), show nth (l.map textL) i = textL (nth l i) by rw [nth_eq (by simpa using hi), nth_eq hi]; simp]
    split <;> simp
theorem wordsL_join (l : List Int) : wordsL l = joinL (l.map textL) := by
  unfold wordsL
  rw [words_join_take l _ (Nat.le_refl _), show l.length = (l.map textL).length by simp, List.take_length]
theorem fine_of {x : List UInt8} (h : x ≠ []) (k : ∀ b ∈ x, 32 < b.toNat ∧ b.toNat < 127) : FineW x := ⟨h, fun j hj => k _ (nth_mem hj)⟩
theorem said_fine {k : Int} (h : 1 ≤ k ∧ k ≤ 12) : FineW (saidR k).s := by
  have : (saidR k).s ≠ [] ∧ (saidR k).s.all (fun b => decide (32 < b.toNat) && decide (b.toNat < 127)) = true := by
    rcases kinds h with rfl | rfl | rfl | rfl | rfl | rfl | rfl | rfl | rfl | rfl | rfl | rfl <;> decide +kernel
  refine fine_of this.1 fun b hb => ?_
  have h9 := List.all_eq_true.1 this.2 b hb
  simpa using h9
end Go.Proofs.YtjdcnjemhjldoaaGreatDoor
