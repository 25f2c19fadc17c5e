/- Orders: the plain law. No condition beyond those that each theorem says. -/
import Derived.Test.YtpnaolljmhhdbaaPr1
namespace Go.Proofs.Ytpnaolljmhhdbaa
open Go Go.Gm
set_option linter.unusedVariables false
set_option linter.unusedSimpArgs false
set_option maxHeartbeats 4000000
set_option maxRecDepth 8000

/-- A right order. -/
def RightO (l : List Int) : Prop := (∀ x ∈ l, 1 ≤ x ∧ x ≤ 1048575) ∧ l.Nodup
instance (l : List Int) : Decidable (RightO l) := by unfold RightO; exact inferInstance
theorem RightO.take {l : List Int} (h : RightO l) (i : Nat) : RightO (l.take i) := ⟨fun x hx => h.1 x (List.mem_of_mem_take hx), h.2.sublist (List.take_sublist i l)⟩
def leI (x y : Int) : Bool := decide (x ≤ y)
theorem sort_perm {a b : List Int} : a.mergeSort leI = b.mergeSort leI ↔ a.Perm b := by
  constructor
  · intro h
    exact (List.mergeSort_perm a leI).symm.trans (h ▸ List.mergeSort_perm b leI)
  · intro h
    have hs : ∀ l : List Int, List.Pairwise (fun x y => x ≤ y) (l.mergeSort leI) := fun l => by
      have := List.pairwise_mergeSort (le := leI) (fun a b c h1 h2 => by simp [leI] at *; omega) (fun a b => by simp [leI]; omega) l
      exact this.imp fun h => by simpa [leI] using h
    exact List.Perm.eq_of_pairwise (fun x y _ _ h1 h2 => Int.le_antisymm h1 h2) (hs a) (hs b) (((List.mergeSort_perm a leI).trans h).trans (List.mergeSort_perm b leI).symm)
def OkSteps (a b : List Int) : Prop := RightO a ∧ RightO b ∧ a.Perm b
instance (a b : List Int) : Decidable (OkSteps a b) := by unfold OkSteps; exact inferInstance
end Go.Proofs.Ytpnaolljmhhdbaa
