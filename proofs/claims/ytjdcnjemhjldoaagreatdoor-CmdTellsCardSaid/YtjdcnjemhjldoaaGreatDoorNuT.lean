/- Texts read again. No condition beyond those that each theorem says. -/
import Derived.Test.YtjdcnjemhjldoaaGreatDoorNu7
import Derived.Test.YtjdcnjemhjldoaaGreatDoorNu1
namespace Go.Proofs.YtjdcnjemhjldoaaGreatDoor
open Go Go.Gm
set_option linter.unusedVariables false
set_option linter.unusedSimpArgs false
set_option maxHeartbeats 4000000
set_option maxRecDepth 8000


end Go.Proofs.YtjdcnjemhjldoaaGreatDoor
