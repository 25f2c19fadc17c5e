/- Pr0,Pr1,in one text. -/
import Derived.Test.YtcfgcpcakdknkaaGreatBa0
import Derived.Test.YtcfgcpcakdknkaaGreatLibL
namespace Go.Proofs.YtcfgcpcakdknkaaGreat
open Go Go.Gm
set_option linter.unusedVariables false
set_option linter.unusedSimpArgs false
set_option maxHeartbeats 4000000
set_option maxRecDepth 8000
structure PairD where
 key:Int
 val:Int
 deriving DecidableEq,Inhabited
section
variable {out t T:List PairD} {k x:Int} {e:PairD} {d:Bool}
end
end Go.Proofs.YtcfgcpcakdknkaaGreat
namespace Go.Proofs.YtcfgcpcakdknkaaGreat
open Go Go.Gm
set_option linter.unusedVariables false
set_option linter.unusedSimpArgs false
set_option maxHeartbeats 4000000
set_option maxRecDepth 8000
end Go.Proofs.YtcfgcpcakdknkaaGreat
