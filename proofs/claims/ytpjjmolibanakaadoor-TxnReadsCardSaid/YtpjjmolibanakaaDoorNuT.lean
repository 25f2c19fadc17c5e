/- Texts read again. No condition beyond those that each theorem says. -/
import Derived.Test.YtpjjmolibanakaaDoorNu7
import Derived.Test.YtpjjmolibanakaaDoorNu1
namespace Go.Proofs.YtpjjmolibanakaaDoor
open Go Go.Gm
set_option linter.unusedVariables false
set_option linter.unusedSimpArgs false
set_option maxHeartbeats 4000000
set_option maxRecDepth 8000

theorem val_snoc (s : List UInt8) (c : UInt8) : valOf (s ++ [c]) = valOf s * 10 + (c.toNat - 48) := by unfold valOf; rw [List.foldl_append]; rfl
theorem dig_byte {d : Nat} (h : d < 10) : (toB ((48 + d : Nat) : Int)).toNat = 48 + d := by
  have := toB_val (x := ((48 + d : Nat) : Int)) (by simp [inR, IntKind.min, IntKind.max, IntKind.signed, IntKind.bits]; omega)
  omega
theorem dig_is {d : Nat} (h : d < 10) : digit (toB ((48 + d : Nat) : Int)) = true := by
  unfold digit
  rw [dig_byte h, Bool.and_eq_true, decide_eq_true_eq, decide_eq_true_eq]
  omega
theorem digZ_all (n : Nat) : ∀ u : Nat, u ≤ n → valOf ((digZ u).map toB) = u ∧ ((digZ u).map toB).all digit = true ∧ (u ≠ 0 → nth ((digZ u).map toB) 0 ≠ 48 ∧ 0 < (digZ u).length) := by
  induction n with
  | zero => intro u hu; rw [show u = 0 by omega, digZ_0]; exact ⟨rfl, rfl, fun h => absurd rfl h⟩
  | succ n ih =>
    intro u hu
    by_cases h0 : u = 0
    · rw [h0, digZ_0]; exact ⟨rfl, rfl, fun h => absurd rfl h⟩
    · obtain ⟨h1, h2, h3⟩ := ih (u / 10) (by omega)
      rw [digZ_pos h0]
      unfold digL
      rw [List.map_append]
      refine ⟨?_, ?_, fun _ => ⟨?_, by simp⟩⟩
      · show valOf ((digZ (u / 10)).map toB ++ [toB _]) = u
        rw [val_snoc, h1, dig_byte (by omega)]; omega
      · rw [List.all_append, h2]
        simp only [List.map_cons, List.map_nil, List.all_cons, List.all_nil, Bool.and_true, Bool.true_and]
        exact dig_is (by omega)
      · by_cases h4 : u / 10 = 0
        · rw [h4, digZ_0]
          show nth [toB _] 0 ≠ 48
          intro hh
          have := congrArg UInt8.toNat hh
          simp only [nth, List.getD_cons_zero] at this
          rw [dig_byte (by omega)] at this
          have e48 : (48 : UInt8).toNat = 48 := rfl
          omega
        · obtain ⟨h5, h6⟩ := h3 h4
          intro hh
          refine h5 ?_
          have hl : 0 < ((digZ (u / 10)).map toB).length := by simpa using h6
          rw [nth_eq hl]
          rw [nth_eq (by rw [List.length_append]; omega), List.getElem_append_left hl] at hh
          exact hh
theorem digL_read (u : Nat) : valOf ((digL u).map toB) = u ∧ ((digL u).map toB).all digit = true ∧ ¬ (1 < ((digL u).map toB).length ∧ nth ((digL u).map toB) 0 = 48) := by
  by_cases h0 : u = 0
  · subst h0
    unfold digL
    rw [show (0 : Nat) / 10 = 0 from rfl, digZ_0]
    refine ⟨by rw [List.nil_append, List.map_cons, List.map_nil, ← List.nil_append [toB _], val_snoc, dig_byte (by decide)]; rfl, by simp only [List.nil_append, List.map_cons, List.map_nil, List.all_cons, List.all_nil, Bool.and_true]; exact dig_is (by decide), fun h => by simp at h⟩
  · obtain ⟨h1, h2, h3⟩ := digZ_all u u (Nat.le_refl _)
    rw [← digZ_pos h0]
    exact ⟨h1, h2, fun h => (h3 h0).1 h.2⟩
theorem read_text {n : Int} (h0 : 0 ≤ n) : readR (textL n) = if 2147483647 < n then (0, 1) else (n, 0) := by
  obtain ⟨h1, h2, h3⟩ := digL_read n.natAbs
  have e : textL n = (digL n.natAbs).map toB := if_neg (by omega)
  have hne : ¬ ((digL n.natAbs).map toB = [] ∨ (1 < ((digL n.natAbs).map toB).length ∧ nth ((digL n.natAbs).map toB) 0 = 48)) := by
    rintro (h | h)
    · exact digL_ne n.natAbs (by simpa using h)
    · exact h3 h
  unfold readR
  rw [e, if_neg hne, if_neg (by rw [h2]; decide), h1]
  by_cases h : 2147483647 < n
  · rw [if_pos (by omega), if_pos h]
  · rw [if_neg (by omega), if_neg h]
    congr 1
    omega
end Go.Proofs.YtpjjmolibanakaaDoor
