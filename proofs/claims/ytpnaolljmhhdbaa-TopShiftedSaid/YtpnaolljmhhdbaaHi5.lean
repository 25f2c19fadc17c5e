/- The document's right histories. No condition beyond those that each theorem says. -/
import Derived.Test.YtpnaolljmhhdbaaHi3
import Derived.Test.YtpnaolljmhhdbaaOr4
namespace Go.Proofs.Ytpnaolljmhhdbaa
open Go Go.Gm
set_option linter.unusedVariables false
set_option linter.unusedSimpArgs false
set_option maxHeartbeats 4000000
set_option maxRecDepth 8000



end Go.Proofs.Ytpnaolljmhhdbaa
