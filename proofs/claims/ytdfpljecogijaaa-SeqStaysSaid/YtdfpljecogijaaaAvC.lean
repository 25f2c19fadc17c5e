/- Maps: lives. No condition beyond those that each theorem says. -/
import Derived.Test.YtdfpljecogijaaaAvA
import Derived.Test.YtdfpljecogijaaaAvB
namespace Go.Proofs.Ytdfpljecogijaaa
open Go Go.Gm
set_option linter.unusedVariables false
set_option linter.unusedSimpArgs false
set_option maxHeartbeats 4000000
set_option maxRecDepth 8000


theorem arNamed_open {b : Nat} {room : Int} {q : List Cell} {w : World} {f y : Ys} (h : (HP.named (fun b => arV (some b)) (fun b => arH (some b) room q) (arV (some b))).p w f y) : (arH (some b) room q).p w f y := by
  obtain ⟨b', e, h⟩ := h
  have e2 : b = b' := by simpa [arV] using e
  subst e2; exact h
theorem arNamed_ptr {v : Value} {room : Int} {q : List Cell} {w : World} {f y : Ys} (h : (HP.named (fun b => arV (some b)) (fun b => arH (some b) room q) v).p w f y) : ∃ b, v = arV (some b) := by
  obtain ⟨b, e, _⟩ := h
  exact ⟨b, e⟩
theorem aNew_c (n room : Int) (hr : refRoom n = room) : FnG Try.prog 9 1 [.int .i64 n] [.star []] PV.ptr (fun v => [HP.named (fun b => arV (some b)) (fun b => arH (some b) room []) v]) := by
  subst hr
  exact FnG.newNamed (arNew_c n) fun v w f y h => by obtain ⟨b, rfl⟩ := arenaH_ptr h; exact ⟨b, rfl, h⟩
abbrev lM (o : Option Nat) (root : Int) : PV := .agg [.is (arV o), .int .i64 root]
section
variable (b : Nat)
end

end Go.Proofs.Ytdfpljecogijaaa
