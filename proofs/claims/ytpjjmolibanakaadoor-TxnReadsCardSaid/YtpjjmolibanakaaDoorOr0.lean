/- Orders: the plain law. No condition beyond those that each theorem says. -/
import Derived.Test.YtpjjmolibanakaaDoorPr1
namespace Go.Proofs.YtpjjmolibanakaaDoor
open Go Go.Gm
set_option linter.unusedVariables false
set_option linter.unusedSimpArgs false
set_option maxHeartbeats 4000000
set_option maxRecDepth 8000

/-- A right order. -/
def RightO (l : List Int) : Prop := (∀ x ∈ l, 1 ≤ x ∧ x ≤ 1048575) ∧ l.Nodup
instance (l : List Int) : Decidable (RightO l) := by unfold RightO; exact inferInstance
theorem RightO.take {l : List Int} (h : RightO l) (i : Nat) : RightO (l.take i) := ⟨fun x hx => h.1 x (List.mem_of_mem_take hx), h.2.sublist (List.take_sublist i l)⟩
def leI (x y : Int) : Bool := decide (x ≤ y)
def OkSteps (a b : List Int) : Prop := RightO a ∧ RightO b ∧ a.Perm b
instance (a b : List Int) : Decidable (OkSteps a b) := by unfold OkSteps; exact inferInstance
end Go.Proofs.YtpjjmolibanakaaDoor
