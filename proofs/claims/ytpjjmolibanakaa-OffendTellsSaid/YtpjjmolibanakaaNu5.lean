/- Text. No condition beyond those that each theorem says. -/
import Derived.Test.YtpjjmolibanakaaNu4
namespace Go.Proofs.Ytpjjmolibanakaa
open Go Go.Gm
set_option linter.unusedVariables false
set_option linter.unusedSimpArgs false
set_option maxHeartbeats 4000000
set_option maxRecDepth 8000


structure RefOk (u0 i x : Nat) (l : List UInt8) : Prop where
  hl : l.length = i
  hi : i ≤ 20
  hx : x < 10 ^ (20 - i)
  hb : x ≤ 18446744073709551615
  ok : (i = 0 ∧ x = u0 ∧ l = []) ∨ (0 < i ∧ (digZ x).map toB ++ l = (digL u0).map toB)
theorem RefOk.start {u0 : Nat} (h : u0 ≤ 18446744073709551615) : RefOk u0 0 u0 [] := ⟨rfl, by decide, by omega, h, .inl ⟨rfl, rfl, rfl⟩⟩
theorem RefOk.done {u0 i x : Nat} {l : List UInt8} (h : RefOk u0 i x l) (h1 : i ≠ 0) (h2 : x = 0) : l = (digL u0).map toB := by
  rcases h.ok with ⟨h3, _⟩ | ⟨_, h3⟩
  · exact absurd h3 h1
  · rw [h2, digZ_0] at h3; simpa using h3

end Go.Proofs.Ytpjjmolibanakaa
