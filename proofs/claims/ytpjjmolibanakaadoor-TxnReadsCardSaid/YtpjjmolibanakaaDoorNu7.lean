/- Words. No condition beyond those that each theorem says. -/
import Derived.Test.YtpjjmolibanakaaDoorNu6
namespace Go.Proofs.YtpjjmolibanakaaDoor
open Go Go.Gm
set_option linter.unusedVariables false
set_option linter.unusedSimpArgs false
set_option maxHeartbeats 4000000
set_option maxRecDepth 8000

theorem digL_ne (u : Nat) : digL u ≠ [] := by unfold digL; simp
theorem textL_ne (n : Int) : textL n ≠ [] := by
  unfold textL
  split
  · simp
  · simpa using digL_ne _
theorem textL_len {n : Int} (h : -9223372036854775808 ≤ n ∧ n ≤ 9223372036854775807) : (textL n).length ≤ 21 := by
  have := digL_len (abs_u64 h)
  unfold textL
  split <;> simp <;> omega

end Go.Proofs.YtpjjmolibanakaaDoor
