/- CkD, CkE, CkF, in one text. -/
import Derived.Test.YtpahapjcdldodaaDoorCkC
namespace Go.Proofs.YtpahapjcdldodaaDoor
open Go Go.Gm
set_option linter.unusedVariables false
set_option linter.unusedSimpArgs false
set_option maxHeartbeats 4000000
set_option maxRecDepth 8000


theorem add_lit (b n : Nat) (q : List PairD) (last : List Int) (u v : Int) (q' : List PairD) (last' : List Int) (e : Int) (h : stepQ n q ⟨0, u, v⟩ = (q', e)) (h2 : lastD n q last ⟨0, u, v⟩ = last') (hl : q.length < 1000000) : FnG Tryd.prog 12 1 [.is (.pointer (some ⟨b, 0, none⟩)), .int .i64 u, .int .i64 v] [clH (.pointer (some ⟨b, 0, none⟩)) n q last] (.int .i64 e) (fun _ => [clH (.pointer (some ⟨b, 0, none⟩)) n q' last']) := by
  have k := add_c b n q last u v hl
  rw [h, h2] at k; exact k
end Go.Proofs.YtpahapjcdldodaaDoor
namespace Go.Proofs.YtpahapjcdldodaaDoor
open Go Go.Gm
set_option linter.unusedVariables false
set_option linter.unusedSimpArgs false
set_option maxHeartbeats 4000000
set_option maxRecDepth 8000


theorem stepQ_kind0 {n : Nat} {q : List PairD} {d : Deed4} (h : d.kind = 0) : stepQ n q ⟨0, d.u, d.v⟩ = stepQ n q d := by cases d; subst h; rfl
theorem stepQ_kind1 {n : Nat} {q : List PairD} {d : Deed4} (h : ¬ d.kind = 0) : stepQ n q ⟨1, d.u, d.v⟩ = stepQ n q d := by
  unfold stepQ
  simp only [h, if_false, show ¬ (1 : Int) = 0 by decide]
theorem stepQ_same {n : Nat} {q : List PairD} {d : Deed4} (h : ¬ (stepQ n q d).2 = 0) : (stepQ n q d).1 = q := by
  unfold stepQ at *
  split at h
  · rename_i c
    rw [if_pos c]
    split at h
    · exact absurd rfl h
    · rename_i c1
      rw [if_neg c1]
      split at h
      · rename_i c2; rw [if_pos c2]
      · exact absurd rfl h
  · rename_i c; rw [if_neg c]
theorem stepQ_len (n : Nat) (q : List PairD) (d : Deed4) : (stepQ n q d).1.length ≤ q.length + 1 := by
  unfold stepQ
  split
  · split
    · simp
    · split
      · exact Nat.le_succ _
      · exact Nat.le_trans List.length_erase_le (Nat.le_succ _)
  · exact Nat.le_succ _
theorem stepQ_in {n : Nat} {q : List PairD} {d : Deed4} (h : InN n q) : InN n (stepQ n q d).1 := by
  unfold stepQ
  split
  · rename_i c
    split
    · exact h.add c.1 c.2
    · split
      · exact h
      · exact h.erase
  · exact h
end Go.Proofs.YtpahapjcdldodaaDoor
namespace Go.Proofs.YtpahapjcdldodaaDoor
open Go Go.Gm
set_option linter.unusedVariables false
set_option linter.unusedSimpArgs false
set_option maxHeartbeats 4000000
set_option maxRecDepth 8000


/-- Arcs that may be there. -/
def okP (N : Nat) (p : PairD) : Bool := decide (There N p.key ∧ There N p.val)
theorem okP_iff {N : Nat} {p : PairD} : okP N p = true ↔ There N p.key ∧ There N p.val := decide_eq_true_iff
theorem add_no {N : Nat} {q : List PairD} {p : PairD} (h : ¬ okP N p = true) : stepQ N q ⟨0, p.key, p.val⟩ = (q, 1) := stepQ_out fun k => h (okP_iff.2 k)
theorem add_zero {N : Nat} {q : List PairD} {p : PairD} (h : (stepQ N q ⟨0, p.key, p.val⟩).2 = 0) : okP N p = true := by
  by_cases k : okP N p = true
  · exact k
  · rw [add_no k] at h; simp at h
/-- Arcs of two lists. -/
structure WayA (N : Nat) (q A B : List PairD) (k : Nat) : Prop where
  inn : InN N q
  cnt : ∀ p, q.count p = A.count p + B.count p
  len : q.length ≤ k
theorem WayA.left {N : Nat} {q A B : List PairD} {k : Nat} {p : PairD} (h : WayA N q A B k) (hp : okP N p = true) : WayA N (q ++ [p]) (A ++ [p]) B (k + 1) :=
  ⟨h.inn.add (okP_iff.1 hp).1 (okP_iff.1 hp).2, fun x => by rw [List.count_append, List.count_append, h.cnt x]; omega, by rw [List.length_append, List.length_singleton]; have := h.len; omega⟩
theorem WayA.right {N : Nat} {q A B : List PairD} {k : Nat} {p : PairD} (h : WayA N q A B k) (hp : okP N p = true) : WayA N (q ++ [p]) A (B ++ [p]) (k + 1) :=
  ⟨h.inn.add (okP_iff.1 hp).1 (okP_iff.1 hp).2, fun x => by rw [List.count_append, List.count_append, h.cnt x]; omega, by rw [List.length_append, List.length_singleton]; have := h.len; omega⟩
theorem WayA.more {N : Nat} {q A B : List PairD} {k m : Nat} (h : WayA N q A B k) (hm : k ≤ m) : WayA N q A B m := ⟨h.inn, h.cnt, Nat.le_trans h.len hm⟩
theorem WayA.drop {N : Nat} {q A B : List PairD} {k : Nat} {p : PairD} (h : WayA N q A (p :: B) k) : WayA N (q.erase p) A B k ∧ 0 < q.count p := by
  have h0 : 0 < q.count p := by rw [h.cnt p]; simp; omega
  refine ⟨⟨h.inn.erase, fun x => ?_, Nat.le_trans List.length_erase_le h.len⟩, h0⟩
  have hx := h.cnt x
  by_cases e : x = p
  · subst e; rw [List.count_erase_self]; simp at hx; omega
  · rw [List.count_erase_of_ne e, hx, List.count_cons_of_ne fun k => e k.symm]
theorem reach_trans {q : List PairD} {u v w : Int} (h1 : v ∈ reachQ q u) (h2 : w ∈ reachQ q v) : w ∈ reachQ q u := ((reachQ_spec q u).2 w).2 ((((reachQ_spec q u).2 v).1 h1).trans (((reachQ_spec q v).2 w).1 h2))
theorem rowB_in {n : Nat} {q : List PairD} {u : Int} (h : There n u) : rowB n q u = reachQ q u := if_pos h

end Go.Proofs.YtpahapjcdldodaaDoor
