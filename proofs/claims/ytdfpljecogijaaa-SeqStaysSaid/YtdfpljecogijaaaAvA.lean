/- Maps: Move. No condition beyond those that each theorem says. -/
import Derived.Test.YtdfpljecogijaaaAv9
namespace Go.Proofs.Ytdfpljecogijaaa
open Go Go.Gm
set_option linter.unusedVariables false
set_option linter.unusedSimpArgs false
set_option maxHeartbeats 4000000
set_option maxRecDepth 8000


def moveM (room2 : Int) (q2 : List Cell) (t : Tree) : St := toldM q2.length (allS room2 ((tList t).length + 1) q2 0 (tList t))

end Go.Proofs.Ytdfpljecogijaaa
