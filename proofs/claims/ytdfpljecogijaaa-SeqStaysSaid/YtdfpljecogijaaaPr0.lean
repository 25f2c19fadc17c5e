/- Pairs. No condition beyond those that each theorem says. -/
import Derived.Test.YtdfpljecogijaaaBa0
import Derived.Test.YtdfpljecogijaaaLibL
namespace Go.Proofs.Ytdfpljecogijaaa
open Go Go.Gm
set_option linter.unusedVariables false
set_option linter.unusedSimpArgs false
set_option maxHeartbeats 4000000
set_option maxRecDepth 8000


structure PairD where
  key : Int
  val : Int
  deriving DecidableEq, Inhabited
def rPair (p : PairD) : List PV := [.int .i64 p.key, .int .i64 p.val]
def putPR (k v : Int) : List PairD → Bool → List PairD
  | [], d => if d then [] else [⟨k, v⟩]
  | p :: l, d => (if d = false ∧ k ≤ p.key then [⟨k, v⟩] else []) ++ (if p.key = k then [] else [p]) ++ putPR k v l (d || decide (k ≤ p.key))
def putP (l : List PairD) (k v : Int) : List PairD := putPR k v l false
def delP (l : List PairD) (k : Int) : List PairD := l.filter fun p => !decide (p.key = k)
def hasP (l : List PairD) (k : Int) : Bool := l.any fun p => decide (p.key = k)
theorem putPR_low {k v : Int} {l : List PairD} (h : ∀ p ∈ l, k < p.key) : putPR k v l false = ⟨k, v⟩ :: l := by
  have done : ∀ l : List PairD, (∀ p ∈ l, k < p.key) → putPR k v l true = l := by
    intro l
    induction l with
    | nil => intro _; rfl
    | cons p l ih =>
      intro h
      have := h p (by simp)
      rw [putPR, Bool.true_or, ih fun x hx => h x (by simp [hx]), if_neg (by simp), if_neg (by omega)]
      rfl
  cases l with
  | nil => rfl
  | cons p l =>
    have h1 := h p (by simp)
    rw [putPR, show (false || decide (k ≤ p.key)) = true by simp; omega, done l fun x hx => h x (by simp [hx])]
    rw [if_pos ⟨rfl, by omega⟩, if_neg (by omega)]
    rfl
section
variable {out t T : List PairD} {k x : Int} {e : PairD} {d : Bool}
end

end Go.Proofs.Ytdfpljecogijaaa
