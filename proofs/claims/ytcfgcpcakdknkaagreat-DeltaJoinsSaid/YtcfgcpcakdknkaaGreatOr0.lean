/- Orders: the plain law. No condition beyond those that each theorem says. -/
import Derived.Test.YtcfgcpcakdknkaaGreatPrX
namespace Go.Proofs.YtcfgcpcakdknkaaGreat
open Go Go.Gm
set_option linter.unusedVariables false
set_option linter.unusedSimpArgs false
set_option maxHeartbeats 4000000
set_option maxRecDepth 8000

/-- Where a number stands first. -/
def idxL (v : Int) : List Int → Int
  | [] => -1
  | x :: l => if x = v then 0 else if idxL v l < 0 then -1 else idxL v l + 1
theorem idxL_none {v : Int} : ∀ {l : List Int}, (∀ k, k < l.length → Go.Gm.nth l k ≠ v) → idxL v l = -1
  | [], _ => rfl
  | x :: l, h => by
    have h0 : x ≠ v := h 0 (by simp)
    rw [idxL, if_neg h0, idxL_none (l := l) fun k hk => by have := h (k + 1) (by simpa using hk); exact this, if_pos (by decide)]
theorem idxL_mem {v : Int} {l : List Int} (h : v ∈ l) : ∃ i : Nat, idxL v l = i ∧ i < l.length ∧ Go.Gm.nth l i = v ∧ ∀ k, k < i → Go.Gm.nth l k ≠ v := by
  induction l with
  | nil => cases h
  | cons x l ih =>
    by_cases hx : x = v
    · exact ⟨0, by rw [idxL, if_pos hx]; rfl, by simp, hx, fun k hk => absurd hk (Nat.not_lt_zero k)⟩
    · obtain ⟨i, h1, h2, h3, h4⟩ := ih (by rcases List.mem_cons.1 h with h | h; exact absurd h.symm hx; exact h)
      refine ⟨i + 1, by rw [idxL, if_neg hx, h1, if_neg (by omega)]; omega, by simpa using h2, h3, fun k hk => ?_⟩
      cases k with
      | zero => exact hx
      | succ k => exact h4 k (by omega)
theorem idxL_not {v : Int} {l : List Int} (h : v ∉ l) : idxL v l = -1 := idxL_none fun k hk e => h (e ▸ nth_mem hk)
theorem idxL_range (v : Int) (l : List Int) : -1 ≤ idxL v l ∧ idxL v l < l.length := by
  by_cases h : v ∈ l
  · obtain ⟨i, h1, h2, _⟩ := idxL_mem h
    omega
  · rw [idxL_not h]; omega
theorem idxL_pos {v : Int} {l : List Int} : 0 ≤ idxL v l ↔ v ∈ l := by
  constructor
  · intro h
    by_cases hm : v ∈ l
    · exact hm
    · rw [idxL_not hm] at h; omega
  · intro h
    obtain ⟨i, h1, _⟩ := idxL_mem h
    omega
def insL (l : List Int) (j x : Int) : List Int := if 0 ≤ j ∧ j ≤ l.length then l.take j.toNat ++ x :: l.drop j.toNat else l
/-- A right order. -/
def RightO (l : List Int) : Prop := (∀ x ∈ l, 1 ≤ x ∧ x ≤ 1048575) ∧ l.Nodup
instance (l : List Int) : Decidable (RightO l) := by unfold RightO; exact inferInstance
theorem RightO.take {l : List Int} (h : RightO l) (i : Nat) : RightO (l.take i) := ⟨fun x hx => h.1 x (List.mem_of_mem_take hx), h.2.sublist (List.take_sublist i l)⟩
def leI (x y : Int) : Bool := decide (x ≤ y)
theorem sort_perm {a b : List Int} : a.mergeSort leI = b.mergeSort leI ↔ a.Perm b := by
  constructor
  · intro h
    exact (List.mergeSort_perm a leI).symm.trans (h ▸ List.mergeSort_perm b leI)
  · intro h
    have hs : ∀ l : List Int, List.Pairwise (fun x y => x ≤ y) (l.mergeSort leI) := fun l => by
      have := List.pairwise_mergeSort (le := leI) (fun a b c h1 h2 => by simp [leI] at *; omega) (fun a b => by simp [leI]; omega) l
      exact this.imp fun h => by simpa [leI] using h
    exact List.Perm.eq_of_pairwise (fun x y _ _ h1 h2 => Int.le_antisymm h1 h2) (hs a) (hs b) (((List.mergeSort_perm a leI).trans h).trans (List.mergeSort_perm b leI).symm)
def withO (l : List Int) (tx : Int) : List Int := if tx ∈ l then l else l ++ [tx]
def withoutO (l : List Int) (tx : Int) : List Int := l.filter fun x => decide (x ≠ tx)
def moveO (l : List Int) (tx place : Int) : List Int × Int := if idxL tx l < 0 then ([], 3) else if ¬ (0 ≤ place ∧ place < l.length) then ([], 1) else (insL (l.eraseIdx (idxL tx l).toNat) place tx, 0)
def OkSteps (a b : List Int) : Prop := RightO a ∧ RightO b ∧ a.Perm b
instance (a b : List Int) : Decidable (OkSteps a b) := by unfold OkSteps; exact inferInstance
theorem erase_of_idx {v : Int} {l : List Int} (h : v ∈ l) : l.eraseIdx (idxL v l).toNat = l.erase v := by
  induction l with
  | nil => cases h
  | cons x l ih =>
    by_cases hx : x = v
    · subst hx
      rw [idxL, if_pos rfl]; simp
    · have hm : v ∈ l := by rcases List.mem_cons.1 h with h | h; exact absurd h.symm hx; exact h
      obtain ⟨i, h1, h2, _⟩ := idxL_mem hm
      rw [idxL, if_neg hx, if_neg (by omega), h1, List.erase_cons_tail (by simpa using hx), ← ih hm, h1]
      rw [show ((i : Int) + 1).toNat = i + 1 by omega, Int.toNat_natCast, List.eraseIdx_cons_succ]
theorem insL_perm {l : List Int} {j x : Int} (h : 0 ≤ j ∧ j ≤ l.length) : (insL l j x).Perm (x :: l) := by
  unfold insL
  rw [if_pos h]
  have := (List.perm_middle (a := x) (l₁ := l.take j.toNat) (l₂ := l.drop j.toNat))
  rwa [List.take_append_drop] at this
theorem moveO_ok {l : List Int} {tx place : Int} (h : tx ∈ l) (hp : 0 ≤ place ∧ place < l.length) : moveO l tx place = (insL (l.erase tx) place tx, 0) := by
  unfold moveO
  rw [if_neg (by have := idxL_pos.2 h; omega), if_neg (by simpa using hp), erase_of_idx h]
theorem moveO_perm {l : List Int} {tx place : Int} (h : tx ∈ l) (hp : 0 ≤ place ∧ place < l.length) : (moveO l tx place).1.Perm l := by
  rw [moveO_ok h hp]
  have hl : (l.erase tx).length = l.length - 1 := List.length_erase_of_mem h
  exact (insL_perm (by omega)).trans (List.perm_cons_erase h).symm
end Go.Proofs.YtcfgcpcakdknkaaGreat
