/- Plain law of layer 38. No condition beyond those that each theorem says. -/
import Derived.Test.YtfldilhddeabeaaDoorLx6
import Derived.Test.YtfldilhddeabeaaDoorNu7
import Derived.Test.YtfldilhddeabeaaDoorDa7
import Derived.Test.YtfldilhddeabeaaDoorLibW
namespace Go.Proofs.YtfldilhddeabeaaDoor
open Go Go.Gm
set_option linter.unusedVariables false
set_option linter.unusedSimpArgs false
set_option maxHeartbeats 4000000
set_option maxRecDepth 8000


structure LimD where
  txs : Int
  ops : Int
  room : Int
  undo : Int
  line : Int
  deriving DecidableEq, Inhabited
structure BndD where
  n : Int
  least : Int
  most : Int
  deriving DecidableEq, Inhabited
def rLim (l : LimD) : List PV := [.int .i64 l.txs, .int .i64 l.ops, .int .i64 l.room, .int .i64 l.undo, .int .i64 l.line]
def rB (b : BndD) : List PV := [.int .i64 b.n, .int .i64 b.least, .int .i64 b.most]
def zeroL : LimD := ⟨0, 0, 0, 0, 0⟩
def ofL (l : List Int) : LimD := ⟨nth l 0, nth l 1, nth l 2, nth l 3, nth l 4⟩
def listL (l : LimD) : List Int := [l.txs, l.ops, l.room, l.undo, l.line]
def boundsL (l : LimD) : List BndD := [⟨l.txs, 1, 4096⟩, ⟨l.ops, 1, 4095⟩, ⟨l.room, 1, 1048576⟩, ⟨l.undo, 0, 4096⟩, ⟨l.line, 64, 65536⟩]
def mostL : LimD := ⟨4096, 4095, 1048576, 4096, 65536⟩
def RightP (l : LimD) : Prop := ∀ j, j < 5 → (nth (boundsL l) j).least ≤ (nth (boundsL l) j).n ∧ (nth (boundsL l) j).n ≤ (nth (boundsL l) j).most
def RightQ (l : LimD) : Prop := (1 ≤ l.txs ∧ l.txs ≤ 4096) ∧ (1 ≤ l.ops ∧ l.ops ≤ 4095) ∧ (1 ≤ l.room ∧ l.room ≤ 1048576) ∧ (0 ≤ l.undo ∧ l.undo ≤ 4096) ∧ (64 ≤ l.line ∧ l.line ≤ 65536)
instance (l : LimD) : Decidable (RightQ l) := by unfold RightQ; exact inferInstance
theorem right_iff (l : LimD) : RightP l ↔ RightQ l := by
  unfold RightP RightQ boundsL
  constructor
  · intro h
    exact ⟨h 0 (by decide), h 1 (by decide), h 2 (by decide), h 3 (by decide), h 4 (by decide)⟩
  · rintro ⟨h0, h1, h2, h3, h4⟩ j hj
    match j, hj with
    | 0, _ => exact h0
    | 1, _ => exact h1
    | 2, _ => exact h2
    | 3, _ => exact h3
    | 4, _ => exact h4
theorem limD_eq (u v : LimD) : (decide (u.txs = v.txs) && (decide (u.ops = v.ops) && (decide (u.room = v.room) && (decide (u.undo = v.undo) && (decide (u.line = v.line) && true))))) = decide (u = v) := by
  cases u; cases v
  rw [Bool.eq_iff_iff]
  simp
def textLim (l : LimD) : List UInt8 := if RightQ l then [108, 105, 109, 105, 116, 115] ++ 32 :: wordsL (listL l) else []
def badR : List (List UInt8) → Int
  | [] => 0
  | x :: r => if (readR x).2 ≠ 0 then (readR x).2 else badR r
def limR (s : List UInt8) : LimD × Int :=
  if (wordsR s).2 ≠ 0 then (zeroL, (wordsR s).2) else if (wordsR s).1 = [] then (zeroL, 12) else if nth (wordsR s).1 0 ≠ [108, 105, 109, 105, 116, 115] then (zeroL, 11)
  else if (wordsR s).1.length < 6 then (zeroL, 12) else if 6 < (wordsR s).1.length then (zeroL, 13)
  else if badR ((wordsR s).1.drop 1) ≠ 0 then (zeroL, badR ((wordsR s).1.drop 1))
  else if RightQ (ofL (((wordsR s).1.drop 1).map fun x => (readR x).1)) then (ofL (((wordsR s).1.drop 1).map fun x => (readR x).1), 0) else (zeroL, 1)
theorem bad_at : ∀ {l : List (List UInt8)} {i : Nat}, i < l.length → (∀ j, j < i → (readR (nth l j)).2 = 0) → (readR (nth l i)).2 ≠ 0 → badR l = (readR (nth l i)).2
  | [], i, h, _, _ => by simp at h
  | x :: r, 0, _, _, h => by rw [badR, show nth (x :: r) 0 = x from rfl, if_pos (show (readR x).2 ≠ 0 from h)]
  | x :: r, i + 1, h, k, hb => by
    have h0 := k 0 (by omega)
    rw [badR, if_neg (by rw [show nth (x :: r) 0 = x from rfl] at h0; simp [h0])]
    exact bad_at (l := r) (i := i) (by simpa using h) (fun j hj => k (j + 1) (by omega)) hb
theorem bad_none : ∀ {l : List (List UInt8)}, (∀ j, j < l.length → (readR (nth l j)).2 = 0) → badR l = 0
  | [], _ => rfl
  | x :: r, k => by
    have h0 := k 0 (by simp)
    rw [badR, if_neg (by rw [show nth (x :: r) 0 = x from rfl] at h0; simp [h0])]
    exact bad_none (l := r) fun j hj => k (j + 1) (by simpa using hj)
theorem words_join_take (l : List Int) : ∀ i, i ≤ l.length → wordsTo l i = joinL ((l.map textL).take i)
  | 0, _ => rfl
  | i + 1, h => by
    have hi : i < l.length := by omega
    rw [wordsTo, words_join_take l i (by omega), join_step (by simpa using hi), show nth (l.map textL) i = textL (nth l i) by rw [nth_eq (by simpa using hi), nth_eq hi]; simp]
    split <;> simp
theorem join_words_head (x : List UInt8) (l : List Int) (h : l ≠ []) : joinL (x :: l.map textL) = x ++ 32 :: wordsL l := by
  unfold wordsL
  rw [words_join_take l _ (Nat.le_refl _), show l.length = (l.map textL).length by simp, List.take_length]
  match l, h with
  | n :: r, _ => rfl
theorem ofL_list (l : LimD) : ofL (listL l) = l := rfl
theorem five {l : List Int} (h : l.length = 5) : ∃ x0 x1 x2 x3 x4, l = [x0, x1, x2, x3, x4] := by
  match l, h with
  | [x0, x1, x2, x3, x4], _ => exact ⟨x0, x1, x2, x3, x4, rfl⟩
theorem nth_set {q : List Int} {i j : Nat} {v : Int} (h : i < q.length) : nth (q.set i v) j = if j = i then v else nth q j := by
  unfold nth
  rw [List.getD_eq_getElem?_getD, List.getD_eq_getElem?_getD, List.getElem?_set]
  by_cases e : i = j
  · subst e; simp [h]
  · rw [if_neg e, if_neg (fun h => e h.symm)]
def opsN (l : List TxD) : Nat := (l.map fun t => t.ops.length + 1).sum
theorem ops_take (l : List TxD) (i : Nat) (h : i < l.length) : opsN (l.take (i + 1)) = opsN (l.take i) + ((nth l i).ops.length + 1) := by
  unfold opsN
  rw [List.take_succ_eq_append_getElem h, nth_eq h]
  simp only [List.map_append, List.sum_append, List.map_cons, List.map_nil, List.sum_cons, List.sum_nil, Nat.add_zero]
theorem ops_bound : ∀ {l : List TxD} (i : Nat), i ≤ l.length → (∀ j, j < l.length → (nth l j).ops.length ≤ 24) → opsN (l.take i) ≤ 25 * i
  | l, 0, _, _ => by simp [opsN]
  | l, i + 1, h, k => by
    have := ops_bound i (by omega) k
    have h2 := k i (by omega)
    rw [ops_take l i (by omega)]
    omega
def fitsR (l : LimD) (h : HistD) : Int := if l.txs < (h.txs.length : Int) ∨ l.room < (opsN h.txs : Int) then 2 else 0
def txR (l : LimD) (t : TxD) : Int := if l.ops < (t.ops.length : Int) then 9 else 0

end Go.Proofs.YtfldilhddeabeaaDoor
