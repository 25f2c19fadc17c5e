/- Reads that may not be: the plain law. No condition beyond those that each theorem says. -/
import Derived.Test.YtdfidiehkkbimaaHi6
import Derived.Test.YtdfidiehkkbimaaPk3
namespace Go.Proofs.Ytdfidiehkkbimaa
open Go Go.Gm
set_option linter.unusedVariables false
set_option linter.unusedSimpArgs false
set_option maxHeartbeats 4000000
set_option maxRecDepth 8000

structure BadD where
  tx : Int
  place : Int
  vof : VerD
  deriving DecidableEq, Inhabited
def rBad (b : BadD) : List PV := [.int .i64 b.tx, .int .i64 b.place, .int .i64 b.vof.tx, .int .i64 b.vof.key, .int .i64 b.vof.nth]
def uOf (g : HistD) (o : OpD) : TxD := (findT g.txs o.tx).getD zeroT
def judgeB (t u : TxD) (o : OpD) (phen : Int) : Bool := t.done && (if phen = 2 then !u.done else decide (phen = 3) && decide (o.nth < (wcnt u.ops o.key : Int)))
def badB (g : HistD) (phen : Int) (t : TxD) (o : OpD) : Bool := needO t.id o && judgeB t (uOf g o) o phen
def badsOf (g : HistD) (phen : Int) (p : Int → Bool) (t : TxD) (l : List OpD) : List BadD := (l.zipIdx.filter fun x => p x.1.key && badB g phen t x.1).map fun x => ⟨t.id, (x.2 : Int), ofO x.1⟩
theorem badsOf_step {g : HistD} {phen : Int} {p : Int → Bool} {t : TxD} {l : List OpD} {j : Nat} (hj : j < l.length) : badsOf g phen p t (l.take (j + 1)) = badsOf g phen p t (l.take j) ++ if (p (Go.Gm.nth l j).key && badB g phen t (Go.Gm.nth l j)) = true then [⟨t.id, j, ofO (Go.Gm.nth l j)⟩] else [] := by
  unfold badsOf
  rw [take_nth hj, List.zipIdx_append, List.filter_append, List.map_append]
  congr 1
  rw [List.length_take, show min j l.length = j by omega]
  by_cases h : (p (Go.Gm.nth l j).key && badB g phen t (Go.Gm.nth l j)) = true
  · rw [if_pos h, List.zipIdx_cons, List.filter_cons_of_pos (by simpa using h)]; simp
  · rw [if_neg h, List.zipIdx_cons, List.filter_cons_of_neg (by simpa using h)]; simp
theorem badsOf_len (g : HistD) (phen : Int) (p : Int → Bool) (t : TxD) (l : List OpD) : (badsOf g phen p t l).length ≤ l.length := by
  unfold badsOf
  rw [List.length_map]
  exact Nat.le_trans (List.length_filter_le _ _) (by simp)
def badsG (g : HistD) (phen : Int) (p : Int → Bool) (l : List TxD) : List BadD := l.flatMap fun t => badsOf g phen p t t.ops
theorem badsG_step {g : HistD} {phen : Int} {p : Int → Bool} {l : List TxD} {i : Nat} (hi : i < l.length) : badsG g phen p (l.take (i + 1)) = badsG g phen p (l.take i) ++ badsOf g phen p (Go.Gm.nth l i) (Go.Gm.nth l i).ops := by
  unfold badsG
  rw [take_nth hi, List.flatMap_append]
  simp
theorem badsG_le {g : HistD} {phen : Int} {p : Int → Bool} {l : List TxD} (h : SmallT l) (i : Nat) : (badsG g phen p (l.take i)).length ≤ 1000 * i := by
  have key : ∀ l : List TxD, (∀ t ∈ l, t.ops.length ≤ 1000) → (badsG g phen p l).length ≤ 1000 * l.length := by
    intro l
    induction l with
    | nil => intro _; simp [badsG]
    | cons t l ih =>
      intro h
      have h1 := ih fun x hx => h x (by simp [hx])
      have h2 := h t (by simp)
      have h3 := badsOf_len g phen p t t.ops
      unfold badsG at h1 ⊢
      rw [List.flatMap_cons, List.length_append, List.length_cons]
      omega
  have h1 := key (l.take i) fun t ht => h.2 t (List.mem_of_mem_take ht)
  have h2 : (l.take i).length ≤ i := by rw [List.length_take]; omega
  exact Nat.le_trans h1 (Nat.mul_le_mul_left _ h2)
def badsH (g : HistD) (phen : Int) (p : Int → Bool) : List BadD := if RightH g then badsG g phen p g.txs else []
/-- Ids rise. -/
theorem ids_inc {g : HistD} (hr : ∀ i, i < g.txs.length → TxOk g i) : IncI (g.txs.map TxD.id) := inc_adj fun i hi h0 => by
  have hi' : i < g.txs.length := by simpa using hi
  rw [nth_map (by omega), nth_map hi']
  exact (hr i hi').1 h0
theorem ids_ne {g : HistD} (hr : ∀ i, i < g.txs.length → TxOk g i) {i k : Nat} (hi : i < g.txs.length) (hk : k < i) : (Go.Gm.nth g.txs k).id < (Go.Gm.nth g.txs i).id := by
  have h := List.pairwise_iff_getElem.1 (ids_inc hr) k i (by simp; omega) (by simpa using hi) hk
  rw [nth_eq hi, nth_eq (by omega)]
  simpa using h
/-- The code's map of transactions by ids. -/
def ByInv (es : List (GE Int TxD)) (l : List TxD) : Prop := ∀ id, gGet id es = findT l id
theorem by_step {g : HistD} (hr : ∀ i, i < g.txs.length → TxOk g i) {es : List (GE Int TxD)} {ck i : Nat} (h : ByInv es (g.txs.take i)) (hi : i < g.txs.length) : ByInv (gPut (Go.Gm.nth g.txs i).id (Go.Gm.nth g.txs i) (es, ck)).1 (g.txs.take (i + 1)) := fun id => by
  rw [gGet_put, h id]
  unfold findT
  rw [take_nth hi, List.find?_append]
  by_cases e : id = (Go.Gm.nth g.txs i).id
  · subst e
    have hn : (g.txs.take i).find? (fun t => decide (t.id = (Go.Gm.nth g.txs i).id)) = none := by
      rw [List.find?_eq_none]
      intro x hx
      obtain ⟨k, hk, e⟩ := List.getElem_of_mem hx
      rw [List.length_take] at hk
      have := ids_ne hr hi (show k < i by omega)
      rw [nth_eq (by omega)] at this
      rw [List.getElem_take] at e
      rw [e] at this
      simp; omega
    simp [hn]
  · rw [if_neg e]
    have hn : [Go.Gm.nth g.txs i].find? (fun t => decide (t.id = id)) = none := by simp; exact fun h => e h.symm
    rw [hn]; simp
theorem need_key {id : Int} {o : OpD} (h : needO id o = true) : (ofO o).key = o.key := by
  unfold needO at h
  simp at h
  unfold ofO
  rw [if_pos h.1.1]
/-- Those of a key. -/
theorem bads_key (g : HistD) (phen key : Int) : badsH g phen (fun k => decide (k = key)) = (badsH g phen fun _ => true).filter fun b => decide (b.vof.key = key) := by
  unfold badsH
  split
  · unfold badsG
    rw [List.filter_flatMap]
    congr 1
    funext t
    unfold badsOf
    rw [List.filter_map, List.filter_filter]
    congr 1
    refine List.filter_congr fun x _ => ?_
    simp only [Function.comp_def, Bool.true_and]
    cases hb : badB g phen t x.1 with
    | false => simp
    | true =>
      have : needO t.id x.1 = true := by unfold badB at hb; rw [Bool.and_eq_true] at hb; exact hb.1
      rw [need_key this]
  · rfl
theorem bads_len {g : HistD} (h : SmallT g.txs) (phen : Int) (p : Int → Bool) : (badsH g phen p).length ≤ 1000000 := by
  unfold badsH
  split
  · have h1 := badsG_le (g := g) (phen := phen) (p := p) h g.txs.length
    rw [List.take_length] at h1
    have := h.1
    omega
  · simp
theorem badD_eq {u v : BadD} (h : (!(decide (u.tx = v.tx) && (decide (u.place = v.place) && (decide (u.vof.tx = v.vof.tx) && (decide (u.vof.key = v.vof.key) && (decide (u.vof.nth = v.vof.nth) && true)))))) = false) : u = v := by
  obtain ⟨a, b, c, d, e⟩ := u; obtain ⟨a', b', c', d', e'⟩ := v
  simp at h
  simp [h]
theorem badD_is {u v : BadD} {r : Bool} (h : (decide (u.tx = v.tx) && (decide (u.place = v.place) && (decide (u.vof.tx = v.vof.tx) && (decide (u.vof.key = v.vof.key) && (decide (u.vof.nth = v.vof.nth) && true))))) = r) : r = decide (u = v) := by
  obtain ⟨a, b, c, d, e⟩ := u; obtain ⟨a', b', c', d', e'⟩ := v
  rw [← h, Bool.eq_iff_iff]
  simp
def numsB (b : BadD) : List Int := [b.tx, b.place, b.vof.tx, b.vof.key, b.vof.nth]
def lessB (a b : BadD) : Bool := if a.tx ≠ b.tx then decide (a.tx < b.tx) else if a.place ≠ b.place then decide (a.place < b.place) else if a.vof.tx ≠ b.vof.tx then decide (a.vof.tx < b.vof.tx) else if a.vof.key ≠ b.vof.key then decide (a.vof.key < b.vof.key) else decide (a.vof.nth < b.vof.nth)
theorem less_cmp (a b : BadD) : decide (cmpL (numsB a) (numsB b) < 0) = lessB a b := by
  have hc : ∀ x y : Int, x ≠ y → decide (cmpI x y < 0) = decide (x < y) := fun x y h => by
    rw [decide_eq_decide]; unfold cmpI; split
    · rename_i h1; simp [h1]
    · rename_i h1; split <;> simp [h1]
  have hc0 : ∀ x y : Int, decide (cmpL [x] [y] < 0) = decide (x < y) := fun x y => by
    unfold cmpL
    split
    · rename_i h; subst h; simp [cmpL]
    · rename_i h; exact hc x y h
  unfold lessB numsB
  unfold cmpL
  by_cases h1 : a.tx = b.tx
  · rw [if_pos h1, if_neg (by simpa using h1)]
    unfold cmpL
    by_cases h2 : a.place = b.place
    · rw [if_pos h2, if_neg (by simpa using h2)]
      unfold cmpL
      by_cases h3 : a.vof.tx = b.vof.tx
      · rw [if_pos h3, if_neg (by simpa using h3)]
        unfold cmpL
        by_cases h4 : a.vof.key = b.vof.key
        · rw [if_pos h4, if_neg (by simpa using h4)]
          exact hc0 _ _
        · rw [if_neg h4, if_pos h4]; exact hc _ _ h4
      · rw [if_neg h3, if_pos h3]; exact hc _ _ h3
    · rw [if_neg h2, if_pos h2]; exact hc _ _ h2
  · rw [if_neg h1, if_pos h1]; exact hc _ _ h1

end Go.Proofs.Ytdfidiehkkbimaa
