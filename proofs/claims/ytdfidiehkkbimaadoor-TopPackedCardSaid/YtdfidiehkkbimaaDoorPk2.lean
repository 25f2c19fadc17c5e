/- Versions as numbers. No condition beyond those that each theorem says. -/
import Derived.Test.YtdfidiehkkbimaaDoorPk1
namespace Go.Proofs.YtdfidiehkkbimaaDoor
open Go Go.Gm
set_option linter.unusedVariables false
set_option linter.unusedSimpArgs false
set_option maxHeartbeats 4000000
set_option maxRecDepth 8000


theorem bad_rightV (v : VerD) : ((!(decide (v.tx = 0) && decide (v.nth = 0)) && ((!idB v.tx || decide (v.nth < 1)) || decide (4095 < v.nth))) || !idB v.key) = !rightV v := by
  unfold rightV
  by_cases h : v.tx = 0
  · rw [if_pos h, decide_eq_true h]
    have hi : idB v.tx = false := by rw [h]; rfl
    rw [hi]
    cases decide (v.nth = 0) <;> cases idB v.key <;> simp
  · rw [if_neg h, decide_eq_false h, not_lt_one, not_le_lt 4095]
    cases idB v.tx <;> cases idB v.key <;> cases decide (1 ≤ v.nth) <;> cases decide (v.nth ≤ 4095) <;> rfl

end Go.Proofs.YtdfidiehkkbimaaDoor
