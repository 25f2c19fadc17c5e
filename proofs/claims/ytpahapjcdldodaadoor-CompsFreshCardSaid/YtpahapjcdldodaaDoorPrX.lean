/- Pr0, Pr1, in one text. -/
import Derived.Test.YtpahapjcdldodaaDoorRwY
import Derived.Test.YtpahapjcdldodaaDoorLibG
namespace Go.Proofs.YtpahapjcdldodaaDoor
open Go Go.Gm
set_option linter.unusedVariables false
set_option linter.unusedSimpArgs false
set_option maxHeartbeats 4000000
set_option maxRecDepth 8000


structure PairD where
  key : Int
  val : Int
  deriving DecidableEq, Inhabited
def rPair (p : PairD) : List PV := [.int .i64 p.key, .int .i64 p.val]
section
variable {out t T : List PairD} {k x : Int} {e : PairD} {d : Bool}
end

end Go.Proofs.YtpahapjcdldodaaDoor
namespace Go.Proofs.YtpahapjcdldodaaDoor
open Go Go.Gm
set_option linter.unusedVariables false
set_option linter.unusedSimpArgs false
set_option maxHeartbeats 4000000
set_option maxRecDepth 8000




end Go.Proofs.YtpahapjcdldodaaDoor
