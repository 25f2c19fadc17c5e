/- Maps against the document: whatever is done. No condition beyond those that each theorem says. -/
import Derived.Test.YtdfpljecogijaaaAvG
namespace Go.Proofs.Ytdfpljecogijaaa
open Go Go.Gm
set_option linter.unusedVariables false
set_option linter.unusedSimpArgs false
set_option maxHeartbeats 4000000
set_option maxRecDepth 8000


def famH (x : Nat × Int × List Cell) : HP := arH (some x.1) x.2.1 x.2.2
theorem arV_inj (b b' : Nat) (h : arV (some b) = arV (some b')) : b = b' := by simpa [arV] using h
/-- The family grows. -/
def FamLe (L L2 : List (Nat × Int × List Cell)) : Prop := ∀ (i : Nat) b r q, L[i]? = some (b, r, q) → ∃ e, L2[i]? = some (b, r, q ++ e)
def OnesOk (L : List (Nat × Int × List Cell)) (n : Int) (all : List OneM) : Prop := ∀ e ∈ all, ∃ rm q, L[e.j]? = some (e.b, rm, q) ∧ OneOk q e.root e.t e.l n
theorem OnesOk.le {L L2 : List (Nat × Int × List Cell)} {n m : Int} {all : List OneM} (h : OnesOk L n all) (hl : FamLe L L2) (hm : n ≤ m) : OnesOk L2 m all := fun e he => by
  obtain ⟨rm, q, h1, h2⟩ := h e he
  obtain ⟨x, hx⟩ := hl _ _ _ _ h1
  exact ⟨rm, q ++ x, hx, h2.app hm⟩
theorem OnesOk.add {L : List (Nat × Int × List Cell)} {n : Int} {all : List OneM} {e : OneM} {rm : Int} {q : List Cell} (h : OnesOk L n all) (h1 : L[e.j]? = some (e.b, rm, q)) (h2 : OneOk q e.root e.t e.l n) : OnesOk L n (all ++ [e]) := fun x hx => by
  rcases List.mem_append.1 hx with hx | hx
  · exact h x hx
  · rw [List.mem_singleton.1 hx]; exact ⟨rm, q, h1, h2⟩
section
variable {B : Base} {E : En} {a : Act} {w : World} {F : Fp}
end

end Go.Proofs.Ytdfpljecogijaaa
