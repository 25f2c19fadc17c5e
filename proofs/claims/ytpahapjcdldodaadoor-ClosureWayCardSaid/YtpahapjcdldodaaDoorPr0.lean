/- Pairs. No condition beyond those that each theorem says. -/
import Derived.Test.YtpahapjcdldodaaDoorRw11
import Derived.Test.YtpahapjcdldodaaDoorLibG
namespace Go.Proofs.YtpahapjcdldodaaDoor
open Go Go.Gm
set_option linter.unusedVariables false
set_option linter.unusedSimpArgs false
set_option maxHeartbeats 4000000
set_option maxRecDepth 8000


structure PairD where
  key : Int
  val : Int
  deriving DecidableEq, Inhabited
def rPair (p : PairD) : List PV := [.int .i64 p.key, .int .i64 p.val]
def putPR (k v : Int) : List PairD → Bool → List PairD
  | [], d => if d then [] else [⟨k, v⟩]
  | p :: l, d => (if d = false ∧ k ≤ p.key then [⟨k, v⟩] else []) ++ (if p.key = k then [] else [p]) ++ putPR k v l (d || decide (k ≤ p.key))
def putP (l : List PairD) (k v : Int) : List PairD := putPR k v l false
def delP (l : List PairD) (k : Int) : List PairD := l.filter fun p => !decide (p.key = k)
def hasP (l : List PairD) (k : Int) : Bool := l.any fun p => decide (p.key = k)
theorem putPR_low {k v : Int} {l : List PairD} (h : ∀ p ∈ l, k < p.key) : putPR k v l false = ⟨k, v⟩ :: l := by
  have done : ∀ l : List PairD, (∀ p ∈ l, k < p.key) → putPR k v l true = l := by
    intro l
    induction l with
    | nil => intro _; rfl
    | cons p l ih =>
      intro h
      have := h p (by simp)
      rw [putPR, Bool.true_or, ih fun x hx => h x (by simp [hx]), if_neg (by simp), if_neg (by omega)]
      rfl
  cases l with
  | nil => rfl
  | cons p l =>
    have h1 := h p (by simp)
    rw [putPR, show (false || decide (k ≤ p.key)) = true by simp; omega, done l fun x hx => h x (by simp [hx])]
    rw [if_pos ⟨rfl, by omega⟩, if_neg (by omega)]
    rfl
theorem del_low {k : Int} {l : List PairD} (h : ∀ p ∈ l, k < p.key) : delP l k = l := by
  unfold delP
  rw [List.filter_eq_self]
  intro p hp
  have := h p hp
  simp; omega
theorem pairD_eq {u v : PairD} (h : (!((decide (u.key = v.key)) && (decide (u.val = v.val) && true))) = false) : u = v := by
  cases u; cases v
  simp at h
  simp [h]
theorem putPR_len (k v : Int) : ∀ (l : List PairD) (d : Bool), (putPR k v l d).length ≤ l.length + (if d then 0 else 1)
  | [], d => by cases d <;> simp [putPR]
  | p :: l, d => by
    have h1 : (putPR k v l true).length ≤ l.length := by simpa using putPR_len k v l true
    have h2 : (putPR k v l false).length ≤ l.length + 1 := by simpa using putPR_len k v l false
    rw [putPR, List.length_append, List.length_append, List.length_cons]
    cases d <;> by_cases hx : k ≤ p.key <;> by_cases h3 : p.key = k <;> simp [hx, h3] <;> omega
theorem putP_len (l : List PairD) (k v : Int) : (putP l k v).length ≤ l.length + 1 := by have h := putPR_len k v l false; unfold putP; simpa using h
section
variable {out t T : List PairD} {k x : Int} {e : PairD} {d : Bool}
theorem pp_TT (h : out ++ putPR k x (e :: t) d = T) (hA : d = false ∧ k ≤ e.key) (hB : ¬ e.key = k) : out ++ [⟨k, x⟩] ++ [e] ++ putPR k x t true = T := by
  rw [← h, putPR, hA.1]; simp [hA.2, hB]
theorem pp_TF (h : out ++ putPR k x (e :: t) d = T) (hA : d = false ∧ k ≤ e.key) (hB : e.key = k) : out ++ [⟨k, x⟩] ++ putPR k x t true = T := by
  rw [← h, putPR, hA.1]; simp [hA.2, hB]
theorem pp_FT (h : out ++ putPR k x (e :: t) d = T) (hA : ¬ (d = false ∧ k ≤ e.key)) (hB : ¬ e.key = k) : out ++ [e] ++ putPR k x t d = T := by
  rw [← h, putPR, if_neg hA]
  cases d
  · have : ¬ k ≤ e.key := fun h => hA ⟨rfl, h⟩
    simp [this, hB]
  · simp [hB]
theorem pp_FF (h : out ++ putPR k x (e :: t) d = T) (hA : ¬ (d = false ∧ k ≤ e.key)) (hB : e.key = k) : out ++ putPR k x t d = T := by
  rw [← h, putPR, if_neg hA]
  cases d
  · exact absurd ⟨rfl, by omega⟩ hA
  · simp [hB]
end

end Go.Proofs.YtpahapjcdldodaaDoor
