/- Light histories. No condition beyond those that each theorem says. -/
import Derived.Test.YtpjjmolibanakaaGreatHi0
namespace Go.Proofs.YtpjjmolibanakaaGreat
open Go Go.Gm
set_option linter.unusedVariables false
set_option linter.unusedSimpArgs false
set_option maxHeartbeats 4000000
set_option maxRecDepth 8000


theorem PVs.lenAt {α : Type} {R : α → List PV} {l : List α} {v : Value} {w : World} {y : Ys} (h : (PV.sl R l).p v w y) : l.length ≤ 9223372036854775807 := by
  obtain ⟨_, cap, _, h1, h2, _⟩ := h
  unfold maxLen at h2
  omega
theorem Sat.lenHist {B : Base} {E : En} {a : Act} {w : World} {F : Fp} (h : Sat B E a w F) {i : Nat} {u : HistD} (hl : Go.Gm.look E.s i = some (SF.pv (PV.agg (rHist u)))) : u.txs.length ≤ 9223372036854775807 ∧ u.orders.length ≤ 9223372036854775807 := by
  obtain ⟨vs, _, hp⟩ := h.s i _ hl
  match vs, hp with
  | [x, y], hp => exact ⟨PVs.lenAt hp.1.2, PVs.lenAt hp.2.1.2⟩
def HLight (h : HistD) : Prop := h.txs.length ≤ 12 ∧ h.orders.length ≤ 24 ∧ (∀ j, j < h.txs.length → (Go.Gm.nth h.txs j).ops.length ≤ 24) ∧ ∀ j, j < h.orders.length → (Go.Gm.nth h.orders j).txs.length ≤ 24
instance (h : HistD) : Decidable (HLight h) := by unfold HLight; exact inferInstance
theorem HLight.small {h : HistD} (hl : HLight h) : Small h := by
  obtain ⟨h1, h2, h3, h4⟩ := hl
  refine ⟨⟨by omega, fun t ht => ?_⟩, by omega, fun o ho => ?_⟩
  · obtain ⟨j, hj, e⟩ := List.getElem_of_mem ht
    have := h3 j hj
    rw [nth_eq hj, e] at this; omega
  · obtain ⟨j, hj, e⟩ := List.getElem_of_mem ho
    have := h4 j hj
    rw [nth_eq hj, e] at this; omega

end Go.Proofs.YtpjjmolibanakaaGreat
