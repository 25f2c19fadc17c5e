/- Maps against the document. No condition beyond those that each theorem says. -/
import Derived.Test.YtdfpljecogijaaaAv6
namespace Go.Proofs.Ytdfpljecogijaaa
open Go Go.Gm
set_option linter.unusedVariables false
set_option linter.unusedSimpArgs false
set_option maxHeartbeats 4000000
set_option maxRecDepth 8000


def getL (k : Int) : List PairD → Int × Bool
  | [] => (0, false)
  | p :: l => if p.key = k then (p.val, true) else getL k l
theorem getL_app_none {k : Int} {m : List PairD} : ∀ {l : List PairD}, (∀ p ∈ l, p.key ≠ k) → getL k (l ++ m) = getL k m
  | [], _ => rfl
  | p :: l, h => by rw [List.cons_append, getL, if_neg (h p (by simp)), getL_app_none fun x hx => h x (by simp [hx])]
theorem getL_none {k : Int} {l : List PairD} (h : ∀ p ∈ l, p.key ≠ k) : getL k l = (0, false) := by
  have := getL_app_none (m := []) h
  rwa [List.append_nil] at this
theorem getL_app_hi {k : Int} {m : List PairD} (hm : ∀ p ∈ m, p.key ≠ k) : ∀ l : List PairD, getL k (l ++ m) = getL k l
  | [] => getL_none hm
  | p :: l => by rw [List.cons_append, getL, getL, getL_app_hi hm l]
theorem lookT_list (k : Int) : ∀ {t : Tree}, Inc (tList t) → lookT k t = getL k (tList t)
  | .nil, _ => rfl
  | .node l p r, h => by
    obtain ⟨h1, h2, h3, h4⟩ := Inc.parts h
    show _ = getL k (tList l ++ p :: tList r)
    unfold lookT
    split
    · rename_i hk
      rw [lookT_list k h1, getL_app_hi fun x hx => by
        rcases List.mem_cons.1 hx with rfl | hx
        · omega
        · have := h4 x hx; omega]
    · rename_i hk
      rw [getL_app_none fun x hx => by have := h3 x hx; omega, getL]
      split
      · rw [if_neg (by omega), lookT_list k h2]
      · rw [if_pos (by omega)]
end Go.Proofs.Ytdfpljecogijaaa
