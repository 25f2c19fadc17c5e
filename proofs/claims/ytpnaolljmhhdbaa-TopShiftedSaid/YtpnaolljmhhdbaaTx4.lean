/- The document's keys. No condition beyond those that each theorem says. -/
import Derived.Test.YtpnaolljmhhdbaaTx1
namespace Go.Proofs.Ytpnaolljmhhdbaa
open Go Go.Gm
set_option linter.unusedVariables false
set_option linter.unusedSimpArgs false
set_option maxHeartbeats 4000000
set_option maxRecDepth 8000

theorem keysL_len (l : List Int) : (keysL l).length ≤ l.length := by
  have key : ∀ (l acc : List Int), (l.foldl putI acc).length ≤ acc.length + l.length := fun l => by
    induction l with
    | nil => intro acc; simp
    | cons x l ih =>
      intro acc
      have h1 := ih (putI acc x)
      have h2 : (putI acc x).length ≤ acc.length + 1 := putIR_len acc false
      rw [List.foldl_cons, List.length_cons]; omega
  have := key l []
  simpa [keysL] using this

end Go.Proofs.Ytpnaolljmhhdbaa
