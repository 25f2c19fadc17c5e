/- Deltas copied and turned round. No condition beyond those that each theorem says. -/
import Derived.Test.YtfldilhddeabeaaDoorDa5
namespace Go.Proofs.YtfldilhddeabeaaDoor
open Go Go.Gm
set_option linter.unusedVariables false
set_option linter.unusedSimpArgs false
set_option maxHeartbeats 4000000
set_option maxRecDepth 8000


def TxsOk (l : List TxD) : Prop := l.length ≤ 1000000 ∧ ∀ t ∈ l, t.ops.length ≤ 1000000
def OrdsOk (l : List OrdD) : Prop := l.length ≤ 1000000 ∧ ∀ t ∈ l, t.txs.length ≤ 1000000
structure DOk (d : DeltaD) : Prop where
  was : TxsOk d.was
  now : TxsOk d.now
  old : OrdsOk d.old
  new : OrdsOk d.new
def inv (d : DeltaD) : DeltaD := ⟨d.now, d.was, d.new, d.old⟩
theorem inv_inv (d : DeltaD) : inv (inv d) = d := rfl
theorem DOk.inv {d : DeltaD} (h : DOk d) : DOk (inv d) := ⟨h.now, h.was, h.new, h.old⟩

end Go.Proofs.YtfldilhddeabeaaDoor
