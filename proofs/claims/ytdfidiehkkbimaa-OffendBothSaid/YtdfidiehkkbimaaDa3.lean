/- Histories and deltas held against each other. No condition beyond those that each theorem says. -/
import Derived.Test.YtdfidiehkkbimaaDa2
namespace Go.Proofs.Ytdfidiehkkbimaa
open Go Go.Gm
set_option linter.unusedVariables false
set_option linter.unusedSimpArgs false
set_option maxHeartbeats 4000000
set_option maxRecDepth 8000

theorem PVs.lenAt {α : Type} {R : α → List PV} {l : List α} {v : Value} {w : World} {y : Ys} (h : (PV.sl R l).p v w y) : l.length ≤ 9223372036854775807 := by
  obtain ⟨_, cap, _, h1, h2, _⟩ := h
  unfold maxLen at h2
  omega
theorem Sat.lenHist {B : Base} {E : En} {a : Act} {w : World} {F : Fp} (h : Sat B E a w F) {i : Nat} {u : HistD} (hl : Go.Gm.look E.s i = some (SF.pv (PV.agg (rHist u)))) : u.txs.length ≤ 9223372036854775807 ∧ u.orders.length ≤ 9223372036854775807 := by
  obtain ⟨vs, _, hp⟩ := h.s i _ hl
  match vs, hp with
  | [x, y], hp => exact ⟨PVs.lenAt hp.1.2, PVs.lenAt hp.2.1.2⟩

end Go.Proofs.Ytdfidiehkkbimaa
