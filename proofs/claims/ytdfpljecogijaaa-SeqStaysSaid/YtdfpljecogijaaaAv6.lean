/- Maps are read. No condition beyond those that each theorem says. -/
import Derived.Test.YtdfpljecogijaaaAv2
import Derived.Test.YtdfpljecogijaaaAv4
namespace Go.Proofs.Ytdfpljecogijaaa
open Go Go.Gm
set_option linter.unusedVariables false
set_option linter.unusedSimpArgs false
set_option maxHeartbeats 4000000
set_option maxRecDepth 8000


def lookT (k : Int) : Tree → Int × Bool
  | .nil => (0, false)
  | .node l p r => if k < p.key then lookT k l else if p.key < k then lookT k r else (p.val, true)
end Go.Proofs.Ytdfpljecogijaaa
