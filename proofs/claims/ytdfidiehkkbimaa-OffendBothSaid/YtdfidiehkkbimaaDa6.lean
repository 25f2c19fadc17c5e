/- Deltas copied and turned round. No condition beyond those that each theorem says. -/
import Derived.Test.YtdfidiehkkbimaaDa5
namespace Go.Proofs.Ytdfidiehkkbimaa
open Go Go.Gm
set_option linter.unusedVariables false
set_option linter.unusedSimpArgs false
set_option maxHeartbeats 4000000
set_option maxRecDepth 8000

def TxsOk (l : List TxD) : Prop := l.length ≤ 1000000 ∧ ∀ t ∈ l, t.ops.length ≤ 1000000
def OrdsOk (l : List OrdD) : Prop := l.length ≤ 1000000 ∧ ∀ t ∈ l, t.txs.length ≤ 1000000
structure DOk (d : DeltaD) : Prop where
  was : TxsOk d.was
  now : TxsOk d.now
  old : OrdsOk d.old
  new : OrdsOk d.new
end Go.Proofs.Ytdfidiehkkbimaa
