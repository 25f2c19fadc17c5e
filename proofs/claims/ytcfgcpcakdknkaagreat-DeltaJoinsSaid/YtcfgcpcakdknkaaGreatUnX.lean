/- Un1, Un2, Un3, in one text. -/
import Derived.Test.YtcfgcpcakdknkaaGreatDaX
import Derived.Test.YtcfgcpcakdknkaaGreatLibW
import Derived.Test.YtcfgcpcakdknkaaGreatDl0
import Derived.Test.YtcfgcpcakdknkaaGreatDl3
namespace Go.Proofs.YtcfgcpcakdknkaaGreat
open Go Go.Gm
set_option linter.unusedVariables false
set_option linter.unusedSimpArgs false
set_option maxHeartbeats 4000000
set_option maxRecDepth 8000

theorem ring_ne {n f j k : Nat} (h1 : j < k) (h2 : k < n) : (f + j) % n ≠ (f + k) % n := by
  intro e
  have h := Nat.sub_mod_eq_zero_of_mod_eq e.symm
  rw [show f + k - (f + j) = k - j by omega, Nat.mod_eq_of_lt (by omega)] at h
  omega
theorem nth_apL {α : Type} [Inhabited α] {q r : List α} {i : Nat} (h : i < q.length) : Go.Gm.nth (q ++ r) i = Go.Gm.nth q i := by
  rw [nth_eq h, nth_eq (by simp; omega), List.getElem_append_left h]
theorem nth_apE {α : Type} [Inhabited α] {q r : List α} {c : α} : Go.Gm.nth (q ++ c :: r) q.length = c := by rw [nth_eq (by simp)]; simp
theorem nth_set {α : Type} [Inhabited α] {q : List α} {c : α} {i j : Nat} (h : j < q.length) : Go.Gm.nth (q.set i c) j = if i = j then c else Go.Gm.nth q j := by
  rw [nth_eq (by simpa using h), nth_eq h, List.getElem_set]
structure LogOk (n : Nat) (c : List DeltaD) (f : Nat) (S : List DeltaD) : Prop where
  room : n ≤ 4096
  len : c.length = n
  first : f ≤ n
  fits : S.length ≤ n
  cell : ∀ j, j < S.length → Go.Gm.nth c ((f + j) % n) = Go.Gm.nth S j
  ok : ∀ j, j < S.length → DOk (Go.Gm.nth S j)
theorem LogOk.take {n : Nat} {c : List DeltaD} {f : Nat} {S T : List DeltaD} (h : LogOk n c f (S ++ T)) : LogOk n c f S := by
  obtain ⟨h1, h2, h3, h4, h5, h6⟩ := h
  rw [List.length_append] at h4 h5 h6
  refine ⟨h1, h2, h3, by omega, fun j hj => ?_, fun j hj => ?_⟩
  · rw [h5 j (by omega), nth_apL hj]
  · have := h6 j (by omega); rwa [nth_apL hj] at this
theorem LogOk.tail {n : Nat} {c : List DeltaD} {f : Nat} {x : DeltaD} {S : List DeltaD} (h : LogOk n c f (x :: S)) : LogOk n c ((f + 1) % n) S := by
  obtain ⟨h1, h2, h3, h4, h5, h6⟩ := h
  rw [List.length_cons] at h4 h5 h6
  have e : ∀ j, j < S.length → Go.Gm.nth (x :: S) (j + 1) = Go.Gm.nth S j := fun j hj => by rw [nth_eq (by simpa using hj), nth_eq hj]; rfl
  refine ⟨h1, h2, Nat.le_of_lt (Nat.mod_lt _ (by omega)), by omega, fun j hj => ?_, fun j hj => ?_⟩
  · rw [Nat.mod_add_mod, ← e j hj, ← h5 (j + 1) (by omega)]
    congr 2
    omega
  · rw [← e j hj]; exact h6 _ (by omega)
theorem LogOk.put {n : Nat} {c : List DeltaD} {f : Nat} {S : List DeltaD} {d : DeltaD} (h : LogOk n c f S) (hS : S.length < n) (hd : DOk d) : LogOk n (c.set ((f + S.length) % n) d) f (S ++ [d]) := by
  obtain ⟨h1, h2, h3, h4, h5, h6⟩ := h
  have hm : ∀ j, (f + j) % n < c.length := fun j => by rw [h2]; exact Nat.mod_lt _ (by omega)
  refine ⟨h1, by rw [List.length_set]; exact h2, h3, by simp; omega, fun j hj => ?_, fun j hj => ?_⟩ <;> rw [List.length_append, List.length_singleton] at hj <;> rcases Nat.lt_or_eq_of_le (Nat.le_of_lt_succ hj) with hj | hj
  · rw [nth_set (hm j), if_neg (Ne.symm (ring_ne hj hS)), h5 j hj, nth_apL hj]
  · subst hj; rw [nth_set (hm _), if_pos rfl, nth_apE]
  · rw [nth_apL hj]; exact h6 j hj
  · subst hj; rw [nth_apE]; exact hd
def pushD (n : Nat) (D : List DeltaD) (d : DeltaD) : List DeltaD := if n < (D ++ [d]).length then (D ++ [d]).drop 1 else D ++ [d]
/-- What a push makes. -/
theorem LogOk.push {n : Nat} {c : List DeltaD} {f : Nat} {D V : List DeltaD} {d : DeltaD} (h : LogOk n c f (D ++ V.reverse)) (hd : DOk d) (hn : D.length < n) : LogOk n (c.set ((f + D.length) % n) d) f (pushD n D d ++ ([] : List DeltaD).reverse) ∧ (pushD n D d).length = D.length + 1 := by
  have e : pushD n D d = D ++ [d] := if_neg (by simp; omega)
  rw [e, List.reverse_nil, List.append_nil]
  exact ⟨h.take.put hn hd, by simp⟩
end Go.Proofs.YtcfgcpcakdknkaaGreat
namespace Go.Proofs.YtcfgcpcakdknkaaGreat
open Go Go.Gm
set_option linter.unusedVariables false
set_option linter.unusedSimpArgs false
set_option maxHeartbeats 4000000
set_option maxRecDepth 8000

end Go.Proofs.YtcfgcpcakdknkaaGreat
namespace Go.Proofs.YtcfgcpcakdknkaaGreat
open Go Go.Gm
set_option linter.unusedVariables false
set_option linter.unusedSimpArgs false
set_option maxHeartbeats 4000000
set_option maxRecDepth 8000

end Go.Proofs.YtcfgcpcakdknkaaGreat
