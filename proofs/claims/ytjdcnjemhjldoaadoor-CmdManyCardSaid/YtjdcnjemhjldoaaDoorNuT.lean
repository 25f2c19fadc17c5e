/- Texts read again. No condition beyond those that each theorem says. -/
import Derived.Test.YtjdcnjemhjldoaaDoorNu7
import Derived.Test.YtjdcnjemhjldoaaDoorNu1
namespace Go.Proofs.YtjdcnjemhjldoaaDoor
open Go Go.Gm
set_option linter.unusedVariables false
set_option linter.unusedSimpArgs false
set_option maxHeartbeats 4000000
set_option maxRecDepth 8000


theorem val_snoc (s : List UInt8) (c : UInt8) : valOf (s ++ [c]) = valOf s * 10 + (c.toNat - 48) := by unfold valOf; rw [List.foldl_append]; rfl
theorem dig_byte {d : Nat} (h : d < 10) : (toB ((48 + d : Nat) : Int)).toNat = 48 + d := by
  have := toB_val (x := ((48 + d : Nat) : Int)) (by simp [inR, IntKind.min, IntKind.max, IntKind.signed, IntKind.bits]; omega)
  omega
theorem dig_is {d : Nat} (h : d < 10) : digit (toB ((48 + d : Nat) : Int)) = true := by
  unfold digit
  rw [dig_byte h, Bool.and_eq_true, decide_eq_true_eq, decide_eq_true_eq]
  omega
theorem digZ_all (n : Nat) : ∀ u : Nat, u ≤ n → valOf ((digZ u).map toB) = u ∧ ((digZ u).map toB).all digit = true ∧ (u ≠ 0 → nth ((digZ u).map toB) 0 ≠ 48 ∧ 0 < (digZ u).length) := by
  induction n with
  | zero => intro u hu; rw [show u = 0 by omega, digZ_0]; exact ⟨rfl, rfl, fun h => absurd rfl h⟩
  | succ n ih =>
    intro u hu
    by_cases h0 : u = 0
    · rw [h0, digZ_0]; exact ⟨rfl, rfl, fun h => absurd rfl h⟩
    · obtain ⟨h1, h2, h3⟩ := ih (u / 10) (by omega)
      rw [digZ_pos h0]
      unfold digL
      rw [List.map_append]
      refine ⟨?_, ?_, fun _ => ⟨?_, by simp⟩⟩
      · show valOf ((digZ (u / 10)).map toB ++ [toB _]) = u
        rw [val_snoc, h1, dig_byte (by omega)]; omega
      · rw [List.all_append, h2]
        simp only [List.map_cons, List.map_nil, List.all_cons, List.all_nil, Bool.and_true, Bool.true_and]
        exact dig_is (by omega)
      · by_cases h4 : u / 10 = 0
        · rw [h4, digZ_0]
          show nth [toB _] 0 ≠ 48
          intro hh
          have := congrArg UInt8.toNat hh
          simp only [nth, List.getD_cons_zero] at this
          rw [dig_byte (by omega)] at this
          have e48 : (48 : UInt8).toNat = 48 := rfl
          omega
        · obtain ⟨h5, h6⟩ := h3 h4
          intro hh
          refine h5 ?_
          have hl : 0 < ((digZ (u / 10)).map toB).length := by simpa using h6
          rw [nth_eq hl]
          rw [nth_eq (by rw [List.length_append]; omega), List.getElem_append_left hl] at hh
          exact hh
theorem digL_read (u : Nat) : valOf ((digL u).map toB) = u ∧ ((digL u).map toB).all digit = true ∧ ¬ (1 < ((digL u).map toB).length ∧ nth ((digL u).map toB) 0 = 48) := by
  by_cases h0 : u = 0
  · subst h0
    unfold digL
    rw [show (0 : Nat) / 10 = 0 from rfl, digZ_0]
    refine ⟨by rw [List.nil_append, List.map_cons, List.map_nil, ← List.nil_append [toB _], val_snoc, dig_byte (by decide)]; rfl, by simp only [List.nil_append, List.map_cons, List.map_nil, List.all_cons, List.all_nil, Bool.and_true]; exact dig_is (by decide), fun h => by simp at h⟩
  · obtain ⟨h1, h2, h3⟩ := digZ_all u u (Nat.le_refl _)
    rw [← digZ_pos h0]
    exact ⟨h1, h2, fun h => (h3 h0).1 h.2⟩
theorem read_text {n : Int} (h0 : 0 ≤ n) : readR (textL n) = if 2147483647 < n then (0, 1) else (n, 0) := by
  obtain ⟨h1, h2, h3⟩ := digL_read n.natAbs
  have e : textL n = (digL n.natAbs).map toB := if_neg (by omega)
  have hne : ¬ ((digL n.natAbs).map toB = [] ∨ (1 < ((digL n.natAbs).map toB).length ∧ nth ((digL n.natAbs).map toB) 0 = 48)) := by
    rintro (h | h)
    · exact digL_ne n.natAbs (by simpa using h)
    · exact h3 h
  unfold readR
  rw [e, if_neg hne, if_neg (by rw [h2]; decide), h1]
  by_cases h : 2147483647 < n
  · rw [if_pos (by omega), if_pos h]
  · rw [if_neg (by omega), if_neg h]
    congr 1
    omega
theorem read_minus {n : Int} (h0 : n < 0) : readR (textL n) = (0, 10) := by
  have e : textL n = 45 :: (digL n.natAbs).map toB := if_pos h0
  unfold readR
  rw [e, if_neg, if_pos]
  · simp only [List.all_cons]
    rw [show digit 45 = false by decide]; rfl
  · rintro (h | ⟨_, h⟩)
    · cases h
    · simp only [nth, List.getD_cons_zero] at h
      exact absurd h (by decide)
theorem val_pos {s : List UInt8} (hd : s.all digit = true) (h0 : nth s 0 ≠ 48) : ∀ k, 1 ≤ k → k ≤ s.length → 0 < valOf (s.take k)
  | 0, h, _ => absurd h (by decide)
  | k + 1, _, h => by
    rw [val_next (by omega)]
    by_cases hk : k = 0
    · subst hk
      have hx : digit (nth s 0) = true := by
        rw [nth_eq (by omega)]
        exact List.all_eq_true.1 hd _ (List.getElem_mem _)
      unfold digit at hx
      rw [Bool.and_eq_true, decide_eq_true_eq, decide_eq_true_eq] at hx
      have : (nth s 0).toNat ≠ 48 := fun hh => h0 (UInt8.toNat_inj.1 hh)
      omega
    · have := val_pos hd h0 k (by omega) (by omega)
      omega
theorem text_val {s : List UInt8} (hd : s.all digit = true) (h0 : s.length = 1 ∨ nth s 0 ≠ 48) : ∀ k, 1 ≤ k → k ≤ s.length → (digL (valOf (s.take k))).map toB = s.take k
  | 0, h, _ => absurd h (by decide)
  | k + 1, _, h => by
    have hx : digit (nth s k) = true := by
      rw [nth_eq (by omega)]
      exact List.all_eq_true.1 hd _ (List.getElem_mem _)
    unfold digit at hx
    rw [Bool.and_eq_true, decide_eq_true_eq, decide_eq_true_eq] at hx
    have hc : toB ((48 + ((nth s k).toNat - 48) : Nat) : Int) = nth s k := by
      apply UInt8.toNat_inj.1
      rw [dig_byte (by omega)]
      omega
    have hz : (digZ (valOf (s.take k))).map toB = s.take k := by
      by_cases hk : k = 0
      · subst hk
        rw [show valOf (s.take 0) = 0 by simp [valOf], digZ_0]; simp
      · have h1 : nth s 0 ≠ 48 := by rcases h0 with h0 | h0; omega; exact h0
        rw [digZ_pos (by have := val_pos hd h1 k (by omega) (by omega); omega)]
        exact text_val hd h0 k (by omega) (by omega)
    unfold digL
    rw [val_next (by omega), List.map_append, show (valOf (s.take k) * 10 + ((nth s k).toNat - 48)) / 10 = valOf (s.take k) by omega, show (valOf (s.take k) * 10 + ((nth s k).toNat - 48)) % 10 = (nth s k).toNat - 48 by omega, hz, List.map_cons, List.map_nil, hc]
    rw [nth_eq (by omega), List.take_succ_eq_append_getElem (by omega)]
theorem read_back {s : List UInt8} (h : (readR s).2 = 0) : textL (readR s).1 = s ∧ 0 ≤ (readR s).1 ∧ (readR s).1 ≤ 2147483647 := by
  unfold readR at h ⊢
  split at h
  · cases h
  · rename_i h1
    rw [if_neg h1]
    split at h
    · cases h
    · rename_i h2
      rw [if_neg h2]
      split at h
      · cases h
      · rename_i h3
        rw [if_neg h3]
        have hd : s.all digit = true := by simpa using h2
        have hl : 1 ≤ s.length := by
          rcases Nat.eq_zero_or_pos s.length with h4 | h4
          · exact absurd (.inl (List.eq_nil_of_length_eq_zero h4)) h1
          · exact h4
        have hh : s.length = 1 ∨ nth s 0 ≠ 48 := by
          by_cases h5 : s.length = 1
          · exact .inl h5
          · exact .inr fun h6 => h1 (.inr ⟨by omega, h6⟩)
        have := text_val hd hh s.length hl (Nat.le_refl _)
        rw [List.take_length] at this
        refine ⟨?_, by simp only; omega, by simp only; omega⟩
        show textL ((valOf s : Nat) : Int) = s
        unfold textL
        rw [if_neg (by omega), Int.natAbs_natCast]
        exact this

end Go.Proofs.YtjdcnjemhjldoaaDoor
