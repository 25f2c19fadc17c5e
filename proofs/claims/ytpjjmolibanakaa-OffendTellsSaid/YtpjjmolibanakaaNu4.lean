/- Digits. No condition beyond those that each theorem says. -/
import Derived.Test.YtpjjmolibanakaaNu0
namespace Go.Proofs.Ytpjjmolibanakaa
open Go Go.Gm
set_option linter.unusedVariables false
set_option linter.unusedSimpArgs false
set_option maxHeartbeats 4000000
set_option maxRecDepth 8000


/-- A number's digits. -/
def digZ (u : Nat) : List Int := if h : u = 0 then [] else digZ (u / 10) ++ [((48 + u % 10 : Nat) : Int)]
  termination_by u
  decreasing_by omega
def digL (u : Nat) : List Int := digZ (u / 10) ++ [((48 + u % 10 : Nat) : Int)]
theorem digZ_0 : digZ 0 = [] := by unfold digZ; simp
structure DigOk (u0 i u : Nat) (l : List Int) : Prop where
  hl : l.length = 20
  hi : i ≤ 20
  hu : u < 10 ^ i
  hb : u ≤ 18446744073709551615
  ok : (i = 20 ∧ u = u0) ∨ (i < 20 ∧ digZ u ++ l.drop i = digL u0)
theorem DigOk.start {u0 : Nat} (h : u0 ≤ 18446744073709551615) : DigOk u0 20 u0 [0, 0, 0, 0, 0, 0, 0, 0, 0, 0, 0, 0, 0, 0, 0, 0, 0, 0, 0, 0] := ⟨rfl, Nat.le_refl _, by omega, h, .inl ⟨rfl, rfl⟩⟩
theorem DigOk.pos {u0 i u : Nat} {l : List Int} (h : DigOk u0 i u l) (hc : i = 20 ∨ 0 < u) : 1 ≤ i := by
  rcases hc with hc | hc
  · omega
  · rcases Nat.eq_zero_or_pos i with h0 | h0
    · have := h.hu; rw [h0] at this; omega
    · exact h0
theorem DigOk.done {u0 i u : Nat} {l : List Int} (h : DigOk u0 i u l) (h1 : i ≠ 20) (h2 : u = 0) : l.drop i = digL u0 := by
  rcases h.ok with ⟨h3, _⟩ | ⟨_, h3⟩
  · exact absurd h3 h1
  · rw [h2, digZ_0] at h3; simpa using h3

end Go.Proofs.Ytpjjmolibanakaa
