/- Edits undone: the plain law. No condition beyond those that each theorem says. -/
import Derived.Test.YtcfgcpcakdknkaaGreatUnX
import Derived.Test.YtcfgcpcakdknkaaGreatDl4
import Derived.Test.YtcfgcpcakdknkaaGreatEdY
namespace Go.Proofs.YtcfgcpcakdknkaaGreat
open Go Go.Gm
set_option linter.unusedVariables false
set_option linter.unusedSimpArgs false
set_option maxHeartbeats 4000000
set_option maxRecDepth 8000

/-- What has been done, and the deltas of it that are kept. -/
structure UB (n i : Nat) (L : List HistD) (D : List DeltaD) : Prop where
  ne : 0 < L.length
  le : L.length ≤ i + 1
  fit : ∀ k, k < L.length → Fit i (Go.Gm.nth L k)
  right : ∀ k, k < L.length → RightH (Go.Gm.nth L k)
  len : D.length = min n (L.length - 1)
  del : ∀ j, j < D.length → Go.Gm.nth D (D.length - 1 - j) = (ofD (Go.Gm.nth L (L.length - 2 - j)) (Go.Gm.nth L (L.length - 1 - j))).1
theorem UB.zero {n : Nat} : UB n 0 [zeroH] [] := by
  refine ⟨by simp, by simp, fun k hk => ?_, fun k hk => ?_, by simp, fun j hj => absurd hj (Nat.not_lt_zero j)⟩ <;> obtain rfl : k = 0 := by simpa using hk
  · exact Fit.zero
  · exact zero_right
theorem UB.skip {n i : Nat} {L : List HistD} {D : List DeltaD} (h : UB n i L D) : UB n (i + 1) L D := ⟨h.ne, by have := h.le; omega, fun k hk => (h.fit k hk).up, h.right, h.len, h.del⟩
theorem pushD_len {n : Nat} {D : List DeltaD} {d : DeltaD} (h : D.length ≤ n) : (pushD n D d).length = min n (D.length + 1) := by
  unfold pushD
  split
  · rename_i h1; rw [List.length_append, List.length_singleton] at h1; rw [List.length_drop, List.length_append, List.length_singleton]; omega
  · rename_i h1; rw [List.length_append, List.length_singleton] at h1 ⊢; omega
theorem pushD_end {n : Nat} {D : List DeltaD} {d : DeltaD} {j : Nat} (hj : j < (pushD n D d).length) : Go.Gm.nth (pushD n D d) ((pushD n D d).length - 1 - j) = Go.Gm.nth (D ++ [d]) (D.length - j) := by
  unfold pushD at hj ⊢
  split
  · rename_i h1
    rw [if_pos h1] at hj
    rw [List.length_drop, List.length_append, List.length_singleton] at hj
    rw [List.length_drop, List.length_append, List.length_singleton, nth_dp]; congr 1; omega
  · rename_i h1
    rw [if_neg h1] at hj
    rw [List.length_append, List.length_singleton] at hj
    rw [List.length_append, List.length_singleton]; congr 1
theorem UB.push {n i : Nat} {L : List HistD} {D : List DeltaD} {e : EdD} (h : UB n i L D) (he : lightE e) (hi : i < 24) (hd : (doH (Go.Gm.nth L (L.length - 1)) e).2 = 0) :
    UB n (i + 1) (L ++ [(doH (Go.Gm.nth L (L.length - 1)) e).1]) (pushD n D (ofD (Go.Gm.nth L (L.length - 1)) (doH (Go.Gm.nth L (L.length - 1)) e).1).1) := by
  obtain ⟨g, hg⟩ : ∃ g, g = Go.Gm.nth L (L.length - 1) := ⟨_, rfl⟩
  rw [← hg] at hd ⊢
  obtain ⟨g2, hg2⟩ : ∃ g2, g2 = (doH g e).1 := ⟨_, rfl⟩
  have h0 := h.ne
  have hfg : Fit i g := by rw [hg]; exact h.fit _ (by omega)
  have hrg : RightH g2 := by rw [hg2]; exact do_right (hfg.small (by omega)) hd
  have hfg2 : Fit (i + 1) g2 := by rw [hg2]; exact hfg.doH he
  rw [← hg2]
  have hll : (L ++ [g2]).length = L.length + 1 := by simp
  have hDn : D.length ≤ n := by have := h.len; omega
  have hlt : ∀ k, k < L.length → Go.Gm.nth (L ++ [g2]) k = Go.Gm.nth L k := fun k hk => by rw [nth_app, if_pos hk]
  have hlast : Go.Gm.nth (L ++ [g2]) L.length = g2 := by rw [nth_app, if_neg (by omega), Nat.sub_self]; rfl
  refine ⟨by omega, by have := h.le; omega, fun k hk => ?_, fun k hk => ?_, ?_, fun j hj => ?_⟩
  · rcases Nat.lt_or_ge k L.length with h1 | h1
    · rw [hlt k h1]; exact (h.fit k h1).up
    · rw [show k = L.length by omega, hlast]; exact hfg2
  · rcases Nat.lt_or_ge k L.length with h1 | h1
    · rw [hlt k h1]; exact h.right k h1
    · rw [show k = L.length by omega, hlast]; exact hrg
  · rw [pushD_len hDn, h.len, hll]; omega
  · rw [pushD_end hj, hll]
    rw [pushD_len hDn] at hj
    have hDl := h.len
    by_cases h1 : j = 0
    · subst h1
      rw [nth_app, if_neg (by omega), show D.length - 0 - D.length = 0 by omega, show L.length + 1 - 2 - 0 = L.length - 1 by omega, show L.length + 1 - 1 - 0 = L.length by omega, hlast, hlt _ (by omega), ← hg]; rfl
    · rw [nth_app, if_pos (by omega), show D.length - j = D.length - 1 - (j - 1) by omega, h.del (j - 1) (by omega), hlt _ (by omega), hlt _ (by omega)]
      congr 3 <;> omega
theorem turn_of {g g2 : HistD} (h1 : RightH g) (h2 : RightH g2) : turnD g (ofD g g2).1 = g2 := by
  have r1 := h1.rise
  have r2 := h2.rise
  unfold ofD turnD
  rw [if_pos ⟨h1, h2⟩]
  dsimp only
  rw [turn_less r1.1 r2.1, turn_less r1.2 r2.2]
theorem of_shd {g g2 : HistD} (h1 : RightH g) (h2 : RightH g2) (s1 : Small g) (s2 : Small g2) : SmallHD g (ofD g g2).1 := by
  refine ⟨s1, ?_, by rw [turn_of h1 h2]; exact s2⟩
  unfold ofD
  rw [if_pos ⟨h1, h2⟩]
  exact betD_small s1 s2
theorem UB.back {n i : Nat} {L : List HistD} {D : List DeltaD} (h : UB n i L D) (hi : i ≤ 24) {j : Nat} (hj : j < D.length) : applyD (Go.Gm.nth L (L.length - 1 - j)) (inv (Go.Gm.nth D (D.length - 1 - j))) = (Go.Gm.nth L (L.length - 1 - j - 1), 0) ∧ SmallHD (Go.Gm.nth L (L.length - 1 - j)) (inv (Go.Gm.nth D (D.length - 1 - j))) ∧
    applyD (Go.Gm.nth L (L.length - 1 - j - 1)) (Go.Gm.nth D (D.length - 1 - j)) = (Go.Gm.nth L (L.length - 1 - j), 0) ∧ SmallHD (Go.Gm.nth L (L.length - 1 - j - 1)) (Go.Gm.nth D (D.length - 1 - j)) := by
  have hl := h.len
  have e : L.length - 2 - j = L.length - 1 - j - 1 := by omega
  have r1 := h.right (L.length - 1 - j - 1) (by omega)
  have r2 := h.right (L.length - 1 - j) (by omega)
  have s1 := (h.fit (L.length - 1 - j - 1) (by omega)).small (by omega)
  have s2 := (h.fit (L.length - 1 - j) (by omega)).small (by omega)
  rw [h.del j hj, e, inv_of r1 r2]
  exact ⟨apply_of r2 r1, of_shd r2 r1 s2 s1, apply_of r1 r2, of_shd r1 r2 s1 s2⟩

end Go.Proofs.YtcfgcpcakdknkaaGreat
