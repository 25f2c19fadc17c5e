/- Maps stay. No condition beyond those that each theorem says. -/
import Derived.Test.YtdfpljecogijaaaAvD
namespace Go.Proofs.Ytdfpljecogijaaa
open Go Go.Gm
set_option linter.unusedVariables false
set_option linter.unusedSimpArgs false
set_option maxHeartbeats 4000000
set_option maxRecDepth 8000


structure DeedM where
  kind : Int
  src : Int
  key : Int
  val : Int
  deriving DecidableEq, Inhabited
def MapsOk (q : List Cell) (n : Nat) (ms : List (Int × Tree)) : Prop := ∀ e ∈ ms, MapOk q e.2 e.1 ∧ tSize e.2 ≤ n
theorem MapsOk.add {q q2 e : List Cell} {n : Nat} {ms : List (Int × Tree)} {x : Int × Tree} (h : MapsOk q n ms) (hq : q2 = q ++ e) (hx : MapOk q2 x.2 x.1) (hs : tSize x.2 ≤ ((n + 1 : Nat) : Int)) : MapsOk q2 (n + 1) (ms ++ [x]) := fun y hy => by
  rcases List.mem_append.1 hy with hy | hy
  · have := h y hy
    exact ⟨by rw [hq]; exact this.1.app, by omega⟩
  · rw [List.mem_singleton.1 hy]; exact ⟨hx, hs⟩
theorem nth_map2 {α β : Type} [Inhabited α] [Inhabited β] (f : α → β) {l : List α} {i : Nat} (h : i < l.length) : Go.Gm.nth (l.map f) i = f (Go.Gm.nth l i) := by
  rw [nth_eq (by simpa using h), nth_eq h, List.getElem_map]

end Go.Proofs.Ytdfpljecogijaaa
