/- Plain law of layer 3. No condition beyond those that each theorem says. -/
import Derived.Test.YtpjjmolibanakaaBa0
import Derived.Laws.BitsLemmas
import Derived.Laws.MathBits
namespace Go.Proofs.Ytpjjmolibanakaa
open Go Go.Gm
set_option linter.unusedVariables false
set_option linter.unusedSimpArgs false
set_option maxHeartbeats 4000000
set_option maxRecDepth 8000


def valOf (s : List UInt8) : Nat := s.foldl (fun a c => a * 10 + (c.toNat - 48)) 0
end Go.Proofs.Ytpjjmolibanakaa
