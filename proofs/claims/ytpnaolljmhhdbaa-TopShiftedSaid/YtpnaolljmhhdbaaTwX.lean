/- Tw0, Tw1, in one text. -/
import Derived.Test.YtpnaolljmhhdbaaDsX
import Derived.Test.YtpnaolljmhhdbaaPs4
namespace Go.Proofs.Ytpnaolljmhhdbaa
open Go Go.Gm
set_option linter.unusedVariables false
set_option linter.unusedSimpArgs false
set_option maxHeartbeats 4000000
set_option maxRecDepth 8000

theorem rightTL_cons {id : Int} {s r : List OpD} {o : OpD} : rightTL id s (o :: r) = if rightO o = false then 1 else if o.read = true ∧ o.tx = id ∧ (wcnt s o.key : Int) < o.nth then 6 else rightTL id (s ++ [o]) r := by rw [rightTL]
end Go.Proofs.Ytpnaolljmhhdbaa
namespace Go.Proofs.Ytpnaolljmhhdbaa
open Go Go.Gm
set_option linter.unusedVariables false
set_option linter.unusedSimpArgs false
set_option maxHeartbeats 4000000
set_option maxRecDepth 8000

theorem hvG_unique {α : Type} {lt : α → α → Bool} (h : STO lt) : ∀ {l m : List α}, IncG lt l → IncG lt m → (∀ x, x ∈ l ↔ x ∈ m) → l = m
  | [], [], _, _, _ => rfl
  | [], y :: m, _, _, he => by have := (he y).2 (by simp); cases this
  | x :: l, [], _, _, he => by have := (he x).1 (by simp); cases this
  | x :: l, y :: m, hl, hm, he => by
    obtain ⟨h1, h2⟩ := List.pairwise_cons.1 hl
    obtain ⟨h3, h4⟩ := List.pairwise_cons.1 hm
    have hxy : x = y := by
      rcases List.mem_cons.1 ((he x).1 (by simp)) with e | hx
      · exact e
      · rcases List.mem_cons.1 ((he y).2 (by simp)) with e | hy
        · exact e.symm
        · have a1 := h1 y hy
          have a2 := h3 x hx
          have a3 := h.tr x y x a1 a2
          rw [h.irr x] at a3; cases a3
    subst hxy
    congr 1
    refine hvG_unique h h2 h4 fun z => ⟨fun hz => ?_, fun hz => ?_⟩
    · rcases List.mem_cons.1 ((he z).1 (List.mem_cons_of_mem _ hz)) with e | h9
      · subst e
        have := h1 z hz
        rw [h.irr z] at this; cases this
      · exact h9
    · rcases List.mem_cons.1 ((he z).2 (List.mem_cons_of_mem _ hz)) with e | h9
      · subst e
        have := h3 z hz
        rw [h.irr z] at this; cases this
      · exact h9
theorem keysG_congr {l m : List EdgeD} (he : ∀ x, x ∈ l ↔ x ∈ m) : keysG ltE l = keysG ltE m :=
  hvG_unique ltE_sto (keysG_inc ltE_sto l).1 (keysG_inc ltE_sto m).1 fun x => by rw [(keysG_inc ltE_sto l).2, (keysG_inc ltE_sto m).2, he x]
/-- Edges, each with how often there is a reason for it. -/
structure HvD where
  edge : EdgeD
  cnt : Int
  deriving DecidableEq, Inhabited
def rHv (x : HvD) : List PV := [.int .i64 x.edge.src, .int .i64 x.edge.dst, .int .i64 x.edge.kind, .int .i64 x.edge.key, .int .i64 x.cnt]
def cntA (A : List (EdgeD × Int)) (R : List EdgeD) (e : EdgeD) : Int := asgF A e + (R.count e : Int)
def allE (A : List (EdgeD × Int)) (R : List EdgeD) : List EdgeD := A.map Prod.fst ++ R
def edgesL (A : List (EdgeD × Int)) (R : List EdgeD) : List HvD := (keysG ltE (allE A R)).map fun e => ⟨e, cntA A R e⟩
theorem keysG_edges {es : List (GE EdgeD Int)} {A : List (EdgeD × Int)} {R ks : List EdgeD} (hE : EdgV es A R) (hk : ks.Perm (es.map (·.key))) : keysG ltE ks = keysG ltE (allE A R) := keysG_congr fun x => by
  unfold allE
  rw [hk.mem_iff, List.mem_append, ← hE.key x, gGet_mem]
theorem edgesL_nth {A : List (EdgeD × Int)} {R : List EdgeD} {i : Nat} (hi : i < (keysG ltE (allE A R)).length) : Go.Gm.nth (edgesL A R) i = ⟨Go.Gm.nth (keysG ltE (allE A R)) i, cntA A R (Go.Gm.nth (keysG ltE (allE A R)) i)⟩ := nth_map hi
theorem edgesL_len {A : List (EdgeD × Int)} {R : List EdgeD} : (edgesL A R).length = (keysG ltE (allE A R)).length := List.length_map _
end Go.Proofs.Ytpnaolljmhhdbaa
