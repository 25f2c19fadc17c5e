/- Slices: Clone, IndexFunc, DeleteFunc. No condition beyond those that each theorem says. -/
import Derived.Test.YtpjjmolibanakaaDoorOr0
import Derived.Test.YtpjjmolibanakaaDoorSrt
namespace Go.Proofs.YtpjjmolibanakaaDoor
open Go Go.Gm
set_option linter.unusedVariables false
set_option linter.unusedSimpArgs false
set_option maxHeartbeats 4000000
set_option maxRecDepth 8000

theorem filter_step {α : Type} [Inhabited α] {p : α → Bool} {l : List α} {j : Nat} (h : j < l.length) : (l.take (j + 1)).filter p = (l.take j).filter p ++ if p (Go.Gm.nth l j) = true then [Go.Gm.nth l j] else [] := by
  rw [take_nth h, List.filter_append]
  congr 1
  by_cases e : p (Go.Gm.nth l j) = true
  · rw [if_pos e]; simp [e]
  · rw [if_neg e]; simp at e; simp [e]
def foundAt {α : Type} [Inhabited α] (p : α → Bool) (l : List α) : Int := match l.findIdx? p with
  | some i => i
  | none => -1
theorem foundAt_none {α : Type} [Inhabited α] {p : α → Bool} {l : List α} (h : ∀ k, k < l.length → p (Go.Gm.nth l k) = false) : foundAt p l = -1 := by
  unfold foundAt
  have : l.findIdx? p = none := List.findIdx?_eq_none_iff.2 fun x hx => by
    obtain ⟨k, hk, rfl⟩ := List.mem_iff_getElem.1 hx
    rw [← nth_eq hk]; exact h k hk
  rw [this]
theorem foundAt_at {α : Type} [Inhabited α] {p : α → Bool} {l : List α} {i : Nat} (hi : i < l.length) (h : p (Go.Gm.nth l i) = true) (h2 : ∀ k, k < i → p (Go.Gm.nth l k) = false) : foundAt p l = i := by
  unfold foundAt
  have : l.findIdx? p = some i := List.findIdx?_eq_some_iff_getElem.2 ⟨hi, by rw [← nth_eq hi]; exact h, fun k hk => by rw [← nth_eq (by omega), h2 k hk]; decide⟩
  rw [this]
theorem foundAt_spec {α : Type} [Inhabited α] (p : α → Bool) (l : List α) : (foundAt p l = -1 ∧ ∀ k, k < l.length → p (Go.Gm.nth l k) = false) ∨ ∃ i : Nat, foundAt p l = i ∧ i < l.length ∧ p (Go.Gm.nth l i) = true ∧ ∀ k, k < i → p (Go.Gm.nth l k) = false := by
  cases h : l.findIdx? p with
  | none =>
    left
    refine ⟨by unfold foundAt; rw [h], fun k hk => ?_⟩
    have := List.findIdx?_eq_none_iff.1 h l[k] (List.getElem_mem hk)
    rw [nth_eq hk]; exact this
  | some i =>
    right
    obtain ⟨h1, h2, h3⟩ := List.findIdx?_eq_some_iff_getElem.1 h
    refine ⟨i, by unfold foundAt; rw [h], h1, by rw [nth_eq h1]; exact h2, fun k hk => ?_⟩
    rw [nth_eq (by omega)]
    simpa using h3 k hk
theorem filter_all {α : Type} [Inhabited α] {p : α → Bool} {l : List α} (h : ∀ k, k < l.length → p (Go.Gm.nth l k) = false) : l.filter (fun x => !p x) = l := by
  rw [List.filter_eq_self]
  intro x hx
  obtain ⟨k, hk, rfl⟩ := List.mem_iff_getElem.1 hx
  rw [← nth_eq hk, h k hk]; rfl
theorem filter_pre {α : Type} [Inhabited α] {p : α → Bool} {l : List α} {i : Nat} (hi : i < l.length) (hip : p (Go.Gm.nth l i) = true) (hib : ∀ k, k < i → p (Go.Gm.nth l k) = false) : l.take i = (l.take (i + 1)).filter fun x => !p x := by
  have h : (l.take i).filter (fun x => !p x) = l.take i := filter_all fun k hk => by
    rw [List.length_take] at hk
    rw [nth_eq (by rw [List.length_take]; omega), List.getElem_take, ← nth_eq (by omega)]
    exact hib k (by omega)
  rw [filter_step (p := fun x => !p x) hi, hip, h]; simp
theorem inR0 : inR .i64 0 := by show IntKind.min .i64 ≤ 0 ∧ 0 ≤ IntKind.max .i64; decide

end Go.Proofs.YtpjjmolibanakaaDoor
