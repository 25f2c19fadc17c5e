/- Components: the plain law. No condition beyond those that each theorem says. -/
import Derived.Test.YtpahapjcdldodaaDoorCkY
namespace Go.Proofs.YtpahapjcdldodaaDoor
open Go Go.Gm
set_option linter.unusedVariables false
set_option linter.unusedSimpArgs false
set_option maxHeartbeats 4000000
set_option maxRecDepth 8000


/-- In one component. -/
def MutQ (q : List PairD) (x u : Int) : Prop := x = u ∨ (x ∈ reachQ q u ∧ u ∈ reachQ q x)
instance (q : List PairD) (x u : Int) : Decidable (MutQ q x u) := by unfold MutQ; infer_instance
theorem MutQ.symm {q : List PairD} {x u : Int} (h : MutQ q x u) : MutQ q u x := h.imp Eq.symm And.symm
theorem MutQ.trans {q : List PairD} {x u v : Int} (h : MutQ q x u) (k : MutQ q u v) : MutQ q x v := by
  rcases h with rfl | ⟨h1, h2⟩
  · exact k
  · rcases k with rfl | ⟨k1, k2⟩
    · exact .inr ⟨h1, h2⟩
    · exact .inr ⟨reach_trans k1 h1, reach_trans h2 k2⟩
def compQ (n : Nat) (q : List PairD) (u : Int) : List Int := ((List.range n).map fun j : Nat => (j : Int)).filter fun x => decide (MutQ q x u)
theorem compQ_up (n : Nat) (q : List PairD) (u : Int) : Up n (compQ n q u) := ⟨(range_up n).1.filter _, fun i hi => (range_up n).2 i (List.mem_filter.1 hi).1⟩
theorem mem_compQ {n : Nat} {q : List PairD} {u x : Int} : x ∈ compQ n q u ↔ There n x ∧ MutQ q x u := by
  unfold compQ
  rw [List.mem_filter, mem_range_up, decide_eq_true_eq]
theorem compQ_self {n : Nat} {q : List PairD} {u : Int} (h : There n u) : u ∈ compQ n q u := mem_compQ.2 ⟨h, .inl rfl⟩
theorem compQ_same {n : Nat} {q : List PairD} {u x : Int} (h : MutQ q x u) : compQ n q x = compQ n q u := by
  unfold compQ
  refine List.filter_congr fun y _ => ?_
  rw [decide_eq_decide]
  exact ⟨fun k => k.trans h, fun k => k.trans h.symm⟩
def labQ (n : Nat) (q : List PairD) (u : Int) : Int := Go.Gm.nth (compQ n q u) 0
theorem compQ_pos {n : Nat} {q : List PairD} {u : Int} (h : There n u) : 0 < (compQ n q u).length := List.length_pos_of_mem (compQ_self h)
theorem labQ_mem {n : Nat} {q : List PairD} {u : Int} (h : There n u) : labQ n q u ∈ compQ n q u := nth_mem (compQ_pos h)
theorem labQ_mut {n : Nat} {q : List PairD} {u : Int} (h : There n u) : MutQ q (labQ n q u) u := (mem_compQ.1 (labQ_mem h)).2
theorem labQ_there {n : Nat} {q : List PairD} {u : Int} (h : There n u) : There n (labQ n q u) := (mem_compQ.1 (labQ_mem h)).1
theorem labQ_iff {n : Nat} {q : List PairD} {u x : Int} (hu : There n u) (hx : There n x) : labQ n q x = labQ n q u ↔ MutQ q x u := by
  constructor
  · intro h
    have h1 := labQ_mut (q := q) hx
    rw [h] at h1
    exact h1.symm.trans (labQ_mut hu)
  · intro h; unfold labQ; rw [compQ_same h]
theorem labQ_idem {n : Nat} {q : List PairD} {u : Int} (h : There n u) : labQ n q (labQ n q u) = labQ n q u := (labQ_iff h (labQ_there h)).2 (labQ_mut h)
/-- Who is the least so far. -/
def labP (q : List PairD) (i m : Nat) : Int := Go.Gm.nth (((List.range' m (i + 1 - m)).map fun j : Nat => (j : Int)).filter fun x => decide (MutQ q x (i : Int))) 0
theorem labP_start (q : List PairD) (i : Nat) : labP q i i = (i : Int) := by
  unfold labP
  rw [show i + 1 - i = 1 by omega]
  simp [MutQ, nth_eq]
theorem labP_step {q : List PairD} {i m : Nat} (h : m < i) : labP q i m = if MutQ q (m : Int) (i : Int) then (m : Int) else labP q i (m + 1) := by
  unfold labP
  rw [show i + 1 - m = (i + 1 - (m + 1)) + 1 by omega, List.range'_succ, List.map_cons, List.filter_cons]
  by_cases k : MutQ q (m : Int) (i : Int)
  · rw [if_pos (by simpa using k), if_pos k]; exact nth_eq (by simp)
  · rw [if_neg (by simpa using k), if_neg k]
theorem labP_end {n : Nat} {q : List PairD} {i : Nat} (h : i < n) : labP q i 0 = labQ n q (i : Int) := by
  unfold labP labQ compQ
  have e : List.range n = List.range' 0 (i + 1) ++ List.range' (i + 1) (n - (i + 1)) := by
    have h9 := @List.range'_append_1 0 (i + 1) (n - (i + 1))
    rw [Nat.zero_add] at h9
    rw [List.range_eq_range', h9]
    congr 1; omega
  rw [e, List.map_append, List.filter_append, Nat.sub_zero, nth_append_left]
  refine List.length_pos_of_mem (a := (i : Int)) (List.mem_filter.2 ⟨List.mem_map.2 ⟨i, by simp, rfl⟩, by simp [MutQ]⟩)
def labsQ (n : Nat) (q : List PairD) : List Int := (List.range n).map fun i : Nat => labQ n q (i : Int)
theorem labsQ_len (n : Nat) (q : List PairD) : (labsQ n q).length = n := by unfold labsQ; rw [List.length_map, List.length_range]
theorem labsQ_nth {n : Nat} {q : List PairD} {i : Nat} (h : i < n) : Go.Gm.nth (labsQ n q) i = labQ n q (i : Int) := by
  rw [nth_eq (by rw [labsQ_len]; exact h)]; simp [labsQ]
theorem labsQ_at {n : Nat} {q : List PairD} {x : Int} (h : There n x) : Go.Gm.nth (labsQ n q) x.toNat = labQ n q x := by
  rw [labsQ_nth (by have := h.1; have := h.2; omega), Int.toNat_of_nonneg h.1]
def membersD (L : List Int) (x : Int) : List Int := ((List.range L.length).filter fun i => decide (Go.Gm.nth L i = x)).map fun i : Nat => (i : Int)
def membersP (L : List Int) (x : Int) (k : Nat) : List Int := ((List.range k).filter fun i => decide (Go.Gm.nth L i = x)).map fun i : Nat => (i : Int)
theorem membersP_next (L : List Int) (x : Int) (k : Nat) : membersP L x (k + 1) = membersP L x k ++ (if Go.Gm.nth L k = x then [(k : Int)] else []) := by
  unfold membersP
  rw [List.range_succ, List.filter_append, List.map_append]
  congr 1
  by_cases h : Go.Gm.nth L k = x <;> simp [h]
theorem membersP_len (L : List Int) (x : Int) (k : Nat) : (membersP L x k).length ≤ k := by
  unfold membersP
  rw [List.length_map]
  exact Nat.le_trans (List.length_filter_le _ _) (by simp)
theorem membersD_comp {n : Nat} {q : List PairD} {i : Nat} (h : i < n) (hl : labQ n q (i : Int) = (i : Int)) : membersD (labsQ n q) (i : Int) = compQ n q (i : Int) := by
  have hi : There n (i : Int) := ⟨by omega, by omega⟩
  refine up_ext ?_ (compQ_up n q _).1 fun x => ?_
  · unfold membersD
    rw [List.pairwise_map]
    exact (List.pairwise_lt_range.filter _).imp fun h => by omega
  · unfold membersD
    rw [mem_compQ, labsQ_len, List.mem_map]
    constructor
    · rintro ⟨j, hj, rfl⟩
      rw [List.mem_filter, List.mem_range, decide_eq_true_eq] at hj
      have hj' : There n (j : Int) := ⟨by omega, by omega⟩
      rw [labsQ_nth hj.1] at hj
      exact ⟨hj', (labQ_iff hi hj').1 (by rw [hj.2, hl])⟩
    · rintro ⟨hx, hm⟩
      refine ⟨x.toNat, ?_, Int.toNat_of_nonneg hx.1⟩
      rw [List.mem_filter, List.mem_range, decide_eq_true_eq]
      exact ⟨by have := hx.1; have := hx.2; omega, by rw [labsQ_at hx, (labQ_iff hi hx).2 hm, hl]⟩
def roundP (q : List PairD) (k : Nat) : List Int := ((List.range k).filter fun i : Nat => decide ((i : Int) ∈ reachQ q (i : Int))).map fun i : Nat => (i : Int)
theorem roundP_next (q : List PairD) (k : Nat) : roundP q (k + 1) = roundP q k ++ (if (k : Int) ∈ reachQ q (k : Int) then [(k : Int)] else []) := by
  unfold roundP
  rw [List.range_succ, List.filter_append, List.map_append]
  congr 1
  by_cases h : (k : Int) ∈ reachQ q (k : Int) <;> simp [h]
theorem roundP_len (q : List PairD) (k : Nat) : (roundP q k).length ≤ k := by
  unfold roundP
  rw [List.length_map]
  exact Nat.le_trans (List.length_filter_le _ _) (by simp)
theorem mem_round {n : Nat} {q : List PairD} {u : Int} : u ∈ roundP q n ↔ There n u ∧ u ∈ reachQ q u := by
  unfold roundP
  rw [List.mem_map]
  constructor
  · rintro ⟨j, hj, rfl⟩
    rw [List.mem_filter, List.mem_range, decide_eq_true_eq] at hj
    exact ⟨⟨by omega, by omega⟩, hj.2⟩
  · rintro ⟨h1, h2⟩
    refine ⟨u.toNat, ?_, Int.toNat_of_nonneg h1.1⟩
    rw [List.mem_filter, List.mem_range, decide_eq_true_eq, Int.toNat_of_nonneg h1.1]
    exact ⟨by have := h1.1; have := h1.2; omega, h2⟩
/-- The parts. -/
structure PartD where
  nodes : List Int
  arcs : List ArcD
  deriving DecidableEq, Inhabited
def rPart (p : PartD) : List PV := [.sl rInt p.nodes, .sl rArc p.arcs]
def inArc (n : Nat) (q : List PairD) (i : Int) (a : ArcD) : Bool := decide (labQ n q a.src = i) && decide (labQ n q a.dst = i)
def arcsIn (n : Nat) (q : List PairD) (i : Int) : List ArcD := (arcsQ q).filter (inArc n q i)
def partQ (n : Nat) (q : List PairD) (i : Nat) : PartD := ⟨compQ n q (i : Int), arcsIn n q (i : Int)⟩
def partsP (n : Nat) (q : List PairD) (k : Nat) : List PartD := ((List.range k).filter fun i : Nat => decide (labQ n q (i : Int) = (i : Int))).map (partQ n q)
theorem partsP_next (n : Nat) (q : List PairD) (k : Nat) : partsP n q (k + 1) = partsP n q k ++ (if labQ n q (k : Int) = (k : Int) then [partQ n q k] else []) := by
  unfold partsP
  rw [List.range_succ, List.filter_append, List.map_append]
  congr 1
  by_cases h : labQ n q (k : Int) = (k : Int) <;> simp [h]
theorem partsP_len (n : Nat) (q : List PairD) (k : Nat) : (partsP n q k).length ≤ k := by
  unfold partsP
  rw [List.length_map]
  exact Nat.le_trans (List.length_filter_le _ _) (by simp)
abbrev partsQ (n : Nat) (q : List PairD) : List PartD := partsP n q n
theorem mem_parts {n : Nat} {q : List PairD} {p : PartD} : p ∈ partsQ n q ↔ ∃ i : Nat, i < n ∧ labQ n q (i : Int) = (i : Int) ∧ p = partQ n q i := by
  unfold partsQ partsP
  rw [List.mem_map]
  constructor
  · rintro ⟨i, hi, rfl⟩
    rw [List.mem_filter, List.mem_range, decide_eq_true_eq] at hi
    exact ⟨i, hi.1, hi.2, rfl⟩
  · rintro ⟨i, h1, h2, rfl⟩
    exact ⟨i, List.mem_filter.2 ⟨List.mem_range.2 h1, by simpa using h2⟩, rfl⟩
theorem arcs_there {n : Nat} {q : List PairD} (h : InN n q) {a : ArcD} (ha : a ∈ arcsQ q) : There n a.src ∧ There n a.dst := by
  unfold arcsQ at ha
  rw [(keysG_inc cmpA_sto _).2] at ha
  obtain ⟨p, hp, rfl⟩ := List.mem_map.1 ha
  exact h p hp
def staleD (was is : List PartD) : List Int := (is.filter fun p => !was.any fun w => decide (p = w)).map fun p => Go.Gm.nth p.nodes 0
def staleP (was is : List PartD) (k : Nat) : List Int := ((is.take k).filter fun p => !was.any fun w => decide (p = w)).map fun p => Go.Gm.nth p.nodes 0
theorem staleP_next {was is : List PartD} {k : Nat} (h : k < is.length) : staleP was is (k + 1) = staleP was is k ++ (if was.any (fun w => decide (Go.Gm.nth is k = w)) = true then [] else [Go.Gm.nth (Go.Gm.nth is k).nodes 0]) := by
  unfold staleP
  rw [take_nth h, List.filter_append, List.map_append]
  congr 1
  by_cases e : was.any (fun w => decide (Go.Gm.nth is k = w)) = true <;> simp [List.filter_cons, e]
theorem staleP_len (was is : List PartD) (k : Nat) : (staleP was is k).length ≤ k := by
  unfold staleP
  rw [List.length_map]
  exact Nat.le_trans (List.length_filter_le _ _) (by rw [List.length_take]; omega)
def ofD (l : List PartD) (u : Int) : List Int := match l.find? (fun p => decide (u ∈ p.nodes)) with
  | some p => p.nodes
  | none => []
theorem ofD_drop {l : List PartD} {u : Int} {i : Nat} (h : i < l.length) : ofD (l.drop i) u = if u ∈ (Go.Gm.nth l i).nodes then (Go.Gm.nth l i).nodes else ofD (l.drop (i + 1)) u := by
  rw [drop_nth h]
  unfold ofD
  rw [List.find?_cons]
  by_cases e : u ∈ (Go.Gm.nth l i).nodes <;> simp [e]
theorem part_of {n : Nat} {q : List PairD} {u : Int} (h : There n u) : ofD (partsQ n q) u = compQ n q u := by
  unfold ofD
  have hlt := labQ_there (q := q) h
  have hidx : partQ n q (labQ n q u).toNat ∈ partsQ n q := mem_parts.2 ⟨_, by have := hlt.1; have := hlt.2; omega, by rw [Int.toNat_of_nonneg hlt.1]; exact labQ_idem h, rfl⟩
  have hin : u ∈ (partQ n q (labQ n q u).toNat).nodes := by
    show u ∈ compQ n q (((labQ n q u).toNat : Nat) : Int)
    rw [Int.toNat_of_nonneg hlt.1, compQ_same (labQ_mut h)]; exact compQ_self h
  cases hf : (partsQ n q).find? (fun p => decide (u ∈ p.nodes)) with
  | none => have := List.find?_eq_none.1 hf _ hidx; simp at this; exact absurd hin this
  | some p =>
    have h1 : u ∈ p.nodes := by have := List.find?_some hf; simpa using this
    obtain ⟨i, hi, hl, rfl⟩ := mem_parts.1 (List.mem_of_find?_eq_some hf)
    exact (compQ_same (mem_compQ.1 h1).2).symm
theorem part_no {n : Nat} {q : List PairD} {u : Int} (h : ¬ There n u) : ofD (partsQ n q) u = [] := by
  unfold ofD
  cases hf : (partsQ n q).find? (fun p => decide (u ∈ p.nodes)) with
  | none => rfl
  | some p =>
    have h1 : u ∈ p.nodes := by have := List.find?_some hf; simpa using this
    obtain ⟨i, hi, hl, rfl⟩ := mem_parts.1 (List.mem_of_find?_eq_some hf)
    exact absurd (mem_compQ.1 h1).1 h
def memB (n : Nat) (q : List PairD) (u : Int) : List Int := if There n u then compQ n q u else []
theorem memB_of (n : Nat) (q : List PairD) (u : Int) : ofD (partsQ n q) u = memB n q u := by
  unfold memB
  split
  · rename_i h; exact part_of h
  · rename_i h; exact part_no h

end Go.Proofs.YtpahapjcdldodaaDoor
