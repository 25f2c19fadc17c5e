/- Right operations, versions of reads, texts. No condition beyond those that each theorem says. -/
import Derived.Test.YtpjjmolibanakaaDoorTx1
import Derived.Test.YtpjjmolibanakaaDoorNu7
import Derived.Test.YtpjjmolibanakaaDoorPk2
import Derived.Test.YtpjjmolibanakaaDoorOp0
import Derived.Test.YtpjjmolibanakaaDoorOp4
import Derived.Test.YtpjjmolibanakaaDoorOpT
namespace Go.Proofs.YtpjjmolibanakaaDoor
open Go Go.Gm
set_option linter.unusedVariables false
set_option linter.unusedSimpArgs false
set_option maxHeartbeats 4000000
set_option maxRecDepth 8000


end Go.Proofs.YtpjjmolibanakaaDoor
