/- strings.Builder. No condition beyond those that each theorem says. -/
import Derived.Test.YtpjjmolibanakaaNu5
import Derived.Test.YtpjjmolibanakaaLibW
namespace Go.Proofs.Ytpjjmolibanakaa
open Go Go.Gm
set_option linter.unusedVariables false
set_option linter.unusedSimpArgs false
set_option maxHeartbeats 4000000
set_option maxRecDepth 8000


theorem FnG.cases {P : Program} {f : FuncId} {args : List PV} {h h1 h2 : HP} {q : PV} {qr : Value → List HP} (hh : ∀ w fb y, h.p w fb y → h1.p w fb y ∨ h2.p w fb y) (k1 : FnG P f 1 args [h1] q qr) (k2 : FnG P f 1 args [h2] q qr) : FnG P f 1 args [h] q qr := fun w F vs hw hle hvs hpr => by
  rcases hh w (F 1) (U F) (hpr 0 h rfl) with hx | hx
  · exact k1 w F vs hw hle hvs (fun i h' hi => by
      match i, hi with
      | 0, hi => simp at hi; subst hi; exact hx)
  · exact k2 w F vs hw hle hvs (fun i h' hi => by
      match i, hi with
      | 0, hi => simp at hi; subst hi; exact hx)
end Go.Proofs.Ytpjjmolibanakaa
