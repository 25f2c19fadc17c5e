/- Walks: contracts that lean on a table. No condition. -/
import Derived.Test.YtolmpgbpdapaiaaGreatLibX
import Derived.ChangeArms
import Derived.FnData
import Derived.LaidMore
import Derived.SevenTiedAt
import Derived.Stop.Joined
namespace Go.Gm
set_option linter.unusedVariables false
set_option linter.unusedSimpArgs false
open Go.RowKit Go.WideShapes Go.ChangeShapes
section
variable {P:Program} {p:PV} {u:Value} {d:Option Nat} {t ty:TypeId} {pos:String} {af:Array Edge} {g:Option (Nat×Bool)} {x y:Operand} {ps qs:List (Nat×SF)}
end
section
variable {P:Program}
end
section
variable {P:Program}
end
end Go.Gm
