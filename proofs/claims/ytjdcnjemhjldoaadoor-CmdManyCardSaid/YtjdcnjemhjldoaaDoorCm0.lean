/- Plain law of layer 37. No condition beyond those that each theorem says. -/
import Derived.Test.YtjdcnjemhjldoaaDoorOp5
import Derived.Test.YtjdcnjemhjldoaaDoorOpS
import Derived.Test.YtjdcnjemhjldoaaDoorOpT
import Derived.Test.YtjdcnjemhjldoaaDoorNu7
import Derived.Test.YtjdcnjemhjldoaaDoorDa1
import Derived.Test.YtjdcnjemhjldoaaDoorLxW
import Derived.Test.YtjdcnjemhjldoaaDoorLibX
namespace Go.Proofs.YtjdcnjemhjldoaaDoor
open Go Go.Gm
set_option linter.unusedVariables false
set_option linter.unusedSimpArgs false
set_option maxHeartbeats 4000000
set_option maxRecDepth 8000


structure CmdD where
  kind : Int
  tx : TxD
  order : OrdD
  key : Int
  id : Int
  place : Int
  phen : Int
  deriving DecidableEq, Inhabited
structure WordD where
  s : List UInt8
  least : Int
  most : Int
def rCmd (c : CmdD) : List PV := [.int .i64 c.kind, .int .i64 c.tx.id, .bool c.tx.done, .sl rOp c.tx.ops, .int .i64 c.order.key, .sl rInt c.order.txs, .int .i64 c.key, .int .i64 c.id, .int .i64 c.place, .int .i64 c.phen]
def rWd (d : WordD) : List PV := [.bs d.s, .int .i64 d.least, .int .i64 d.most]
def zeroT : TxD := ⟨0, false, []⟩
def zeroC (k : Int) : CmdD := ⟨k, zeroT, ⟨0, []⟩, 0, 0, 0, 0⟩
def wAdd : List UInt8 := [97, 100, 100]
def wSet : List UInt8 := [115, 101, 116]
def wDel : List UInt8 := [100, 101, 108]
def wOrd : List UInt8 := [111, 114, 100]
def wMov : List UInt8 := [109, 111, 118]
def wUndo : List UInt8 := [117, 110, 100, 111]
def wRedo : List UInt8 := [114, 101, 100, 111]
def wAsk : List UInt8 := [97, 115, 107]
def wWhy : List UInt8 := [119, 104, 121]
def wTell : List UInt8 := [116, 101, 108, 108]
def wSize : List UInt8 := [115, 105, 122, 101]
def wDump : List UInt8 := [100, 117, 109, 112]
def saidR (k : Int) : WordD :=
  if k = 1 then ⟨wAdd, 3, 1073741824⟩ else if k = 2 then ⟨wSet, 3, 1073741824⟩ else if k = 3 then ⟨wDel, 2, 2⟩ else if k = 4 then ⟨wOrd, 2, 1073741824⟩
  else if k = 5 then ⟨wMov, 4, 4⟩ else if k = 6 then ⟨wUndo, 1, 1⟩ else if k = 7 then ⟨wRedo, 1, 1⟩ else if k = 8 then ⟨wAsk, 1, 1⟩
  else if k = 9 then ⟨wWhy, 2, 2⟩ else if k = 10 then ⟨wTell, 2, 2⟩ else if k = 11 then ⟨wSize, 1, 1⟩ else if k = 12 then ⟨wDump, 1, 1⟩ else ⟨[], 0, 0⟩
def findFrom (w : List UInt8) : Nat → Nat → Int
  | _, 0 => 0
  | i, n + 1 => if (saidR (i : Int)).s = w then (i : Int) else findFrom w (i + 1) n
def findK (w : List UInt8) : Int := findFrom w 1 12
def codeR (p : Int) : List UInt8 := if p = 1 then [103, 48] else if p = 2 then [103, 49, 97] else if p = 3 then [103, 49, 98] else if p = 4 then [103, 49, 99] else if p = 5 then [103, 50] else []
def nameR (p : Int) : List UInt8 := if p = 1 then [71, 48] else if p = 2 then [71, 49, 97] else if p = 3 then [71, 49, 98] else if p = 4 then [71, 49, 99] else if p = 5 then [71, 50, 45, 105, 116, 101, 109] else []
def phenFrom (w : List UInt8) : Nat → Nat → Int
  | _, 0 => 0
  | i, n + 1 => if codeR (i : Int) = w then (i : Int) else phenFrom w (i + 1) n
def phenR (w : List UInt8) : Int := phenFrom w 1 5
def numsR (l : List (List UInt8)) : List Int × Int := if badR l ≠ 0 then ([], badR l) else (valsR l, 0)
def badO : List (List UInt8) → Int
  | [] => 0
  | x :: r => if (opR x).2 ≠ 0 then (opR x).2 else badO r
def opsR (l : List (List UInt8)) : List OpD := l.map fun x => (opR x).1
def txR (l : List (List UInt8)) : TxD × Int :=
  if 4097 < l.length then (zeroT, 9) else if (readR (nth l 0)).2 ≠ 0 then (zeroT, (readR (nth l 0)).2) else if nth l 1 ≠ [99] ∧ nth l 1 ≠ [97] then (zeroT, 11)
  else if badO (l.drop 2) ≠ 0 then (zeroT, badO (l.drop 2)) else (⟨(readR (nth l 0)).1, decide (nth l 1 = [99]), opsR (l.drop 2)⟩, 0)
def fillR (k : Int) (l : List (List UInt8)) : CmdD × Int :=
  if k = 1 ∨ k = 2 then ({zeroC k with tx := (txR l).1}, (txR l).2) else if k = 9 then ({zeroC k with phen := phenR (nth l 0)}, if phenR (nth l 0) = 0 then 11 else 0)
  else if (numsR l).2 ≠ 0 then (zeroC k, (numsR l).2) else if k = 3 ∨ k = 10 then ({zeroC k with id := nth (numsR l).1 0}, 0)
  else if k = 4 then ({zeroC k with order := ⟨nth (numsR l).1 0, (numsR l).1.drop 1⟩}, 0)
  else if k = 5 then ({zeroC k with key := nth (numsR l).1 0, id := nth (numsR l).1 1, place := nth (numsR l).1 2}, 0) else (zeroC k, 0)
def parseW (l : List (List UInt8)) : CmdD × Int :=
  if l = [] then (zeroC 0, 12) else if findK (nth l 0) = 0 then (zeroC 0, 11) else if (l.length : Int) < (saidR (findK (nth l 0))).least then (zeroC 0, 12)
  else if (saidR (findK (nth l 0))).most < (l.length : Int) then (zeroC 0, 13) else if (fillR (findK (nth l 0)) (l.drop 1)).2 ≠ 0 then (zeroC 0, (fillR (findK (nth l 0)) (l.drop 1)).2)
  else ((fillR (findK (nth l 0)) (l.drop 1)).1, 0)
def parseR (s : List UInt8) : CmdD × Int := if (wordsR s).2 ≠ 0 then (zeroC 0, (wordsR s).2) else parseW (wordsR s).1
def usedR (c : CmdD) : CmdD :=
  if c.kind = 1 ∨ c.kind = 2 then {zeroC c.kind with tx := c.tx} else if c.kind = 3 ∨ c.kind = 10 then {zeroC c.kind with id := c.id} else if c.kind = 4 then {zeroC c.kind with order := c.order}
  else if c.kind = 5 then {zeroC c.kind with key := c.key, id := c.id, place := c.place} else if c.kind = 9 then {zeroC c.kind with phen := c.phen} else zeroC c.kind
def numB (n : Int) : Bool := decide (0 ≤ n) && decide (n ≤ 2147483647)
def numsC (c : CmdD) : List Int := [c.tx.id, c.id, c.order.key, c.key, c.place] ++ c.order.txs
def headC (c : CmdD) : Prop := (saidR c.kind).s ≠ [] ∧ c = usedR c ∧ c.tx.ops.length ≤ 4095 ∧ ¬ (c.kind = 9 ∧ codeR c.phen = [])
instance (c : CmdD) : Decidable (headC c) := by unfold headC; exact inferInstance
def rightC (c : CmdD) : Bool := decide (headC c) && ((numsC c).all numB && c.tx.ops.all rightO)
def opsT (l : List OpD) : List UInt8 := l.flatMap fun o => 32 :: textO o
def headT (t : TxD) : List UInt8 := textL t.id ++ (if t.done = true then [32, 99] else [32, 97])
def textT (t : TxD) : List UInt8 := headT t ++ opsT t.ops
def restC (c : CmdD) : List (List UInt8) :=
  if c.kind = 1 ∨ c.kind = 2 then [textT c.tx] else if c.kind = 3 ∨ c.kind = 10 then [textL c.id] else if c.kind = 4 then [wordsL (c.order.key :: c.order.txs)]
  else if c.kind = 5 then [wordsL [c.key, c.id, c.place]] else if c.kind = 9 then [codeR c.phen] else []
def textC (c : CmdD) : List UInt8 := if rightC c = false then [] else joinL ((saidR c.kind).s :: restC c)
theorem cmdD_eq (u v : CmdD) : (((((((decide (u.kind = v.kind) && decide (u.tx = v.tx)) && decide (u.order.key = v.order.key)) && decide (u.order.txs = v.order.txs)) && decide (u.key = v.key)) && decide (u.id = v.id)) && decide (u.place = v.place)) && decide (u.phen = v.phen)) = decide (u = v) := by
  obtain ⟨a1, a2, ⟨a3, a4⟩, a5, a6, a7, a8⟩ := u
  obtain ⟨b1, b2, ⟨b3, b4⟩, b5, b6, b7, b8⟩ := v
  rw [Bool.eq_iff_iff]
  simp [and_assoc]
theorem find_range (w : List UInt8) : ∀ (n i : Nat), findFrom w i n = 0 ∨ ((i : Int) ≤ findFrom w i n ∧ findFrom w i n < (i + n : Nat) ∧ (saidR (findFrom w i n)).s = w)
  | 0, i => .inl rfl
  | n + 1, i => by
    unfold findFrom
    split
    · rename_i h; exact .inr ⟨Int.le_refl _, by omega, h⟩
    · rcases find_range w n (i + 1) with h | ⟨h1, h2, h3⟩
      · exact .inl h
      · exact .inr ⟨by omega, by omega, h3⟩
theorem findK_range (w : List UInt8) : findK w = 0 ∨ ((1 ≤ findK w ∧ findK w ≤ 12) ∧ (saidR (findK w)).s = w) := by
  rcases find_range w 12 1 with h | ⟨h1, h2, h3⟩
  · exact .inl h
  · exact .inr ⟨⟨h1, by unfold findK; omega⟩, h3⟩
theorem kinds {k : Int} (h : 1 ≤ k ∧ k ≤ 12) : k = 1 ∨ k = 2 ∨ k = 3 ∨ k = 4 ∨ k = 5 ∨ k = 6 ∨ k = 7 ∨ k = 8 ∨ k = 9 ∨ k = 10 ∨ k = 11 ∨ k = 12 := by omega
theorem findK_said {k : Int} (h : 1 ≤ k ∧ k ≤ 12) : findK (saidR k).s = k := by
  rcases kinds h with rfl | rfl | rfl | rfl | rfl | rfl | rfl | rfl | rfl | rfl | rfl | rfl <;> decide +kernel
theorem said_kind {k : Int} (h : (saidR k).s ≠ []) : 1 ≤ k ∧ k ≤ 12 := by
  rcases Classical.em (1 ≤ k ∧ k ≤ 12) with hk | hk
  · exact hk
  · exfalso
    apply h
    unfold saidR
    rw [if_neg (by omega), if_neg (by omega), if_neg (by omega), if_neg (by omega), if_neg (by omega), if_neg (by omega), if_neg (by omega), if_neg (by omega), if_neg (by omega), if_neg (by omega), if_neg (by omega), if_neg (by omega)]
theorem phen_range (w : List UInt8) : ∀ (n i : Nat), phenFrom w i n = 0 ∨ ((i : Int) ≤ phenFrom w i n ∧ phenFrom w i n < (i + n : Nat) ∧ codeR (phenFrom w i n) = w)
  | 0, i => .inl rfl
  | n + 1, i => by
    unfold phenFrom
    split
    · rename_i h; exact .inr ⟨Int.le_refl _, by omega, h⟩
    · rcases phen_range w n (i + 1) with h | ⟨h1, h2, h3⟩
      · exact .inl h
      · exact .inr ⟨by omega, by omega, h3⟩
theorem phenR_range (w : List UInt8) : phenR w = 0 ∨ ((1 ≤ phenR w ∧ phenR w ≤ 5) ∧ codeR (phenR w) = w) := by
  rcases phen_range w 5 1 with h | ⟨h1, h2, h3⟩
  · exact .inl h
  · exact .inr ⟨⟨h1, by unfold phenR; omega⟩, h3⟩
theorem code_phen {p : Int} (h : codeR p ≠ []) : (1 ≤ p ∧ p ≤ 5) ∧ phenR (codeR p) = p := by
  have hp : 1 ≤ p ∧ p ≤ 5 := by
    rcases Classical.em (1 ≤ p ∧ p ≤ 5) with hk | hk
    · exact hk
    · exfalso
      apply h
      unfold codeR
      rw [if_neg (by omega), if_neg (by omega), if_neg (by omega), if_neg (by omega), if_neg (by omega)]
  refine ⟨hp, ?_⟩
  have : p = 1 ∨ p = 2 ∨ p = 3 ∨ p = 4 ∨ p = 5 := by omega
  rcases this with rfl | rfl | rfl | rfl | rfl <;> decide +kernel
theorem badO_at : ∀ {l : List (List UInt8)} {i : Nat}, i < l.length → (∀ j, j < i → (opR (nth l j)).2 = 0) → (opR (nth l i)).2 ≠ 0 → badO l = (opR (nth l i)).2
  | [], i, h, _, _ => by simp at h
  | x :: r, 0, _, _, h => by rw [badO, show nth (x :: r) 0 = x from rfl, if_pos (show (opR x).2 ≠ 0 from h)]
  | x :: r, i + 1, h, k, hb => by
    have h0 := k 0 (by omega)
    rw [badO, if_neg (by rw [show nth (x :: r) 0 = x from rfl] at h0; simp [h0])]
    exact badO_at (l := r) (i := i) (by simpa using h) (fun j hj => k (j + 1) (by omega)) hb
theorem badO_none : ∀ {l : List (List UInt8)}, (∀ j, j < l.length → (opR (nth l j)).2 = 0) → badO l = 0
  | [], _ => rfl
  | x :: r, k => by
    have h0 := k 0 (by simp)
    rw [badO, if_neg (by rw [show nth (x :: r) 0 = x from rfl] at h0; simp [h0])]
    exact badO_none (l := r) fun j hj => k (j + 1) (by simpa using hj)
theorem badO_zero : ∀ {l : List (List UInt8)}, badO l = 0 → ∀ x ∈ l, (opR x).2 = 0
  | [], _, x, hx => by simp at hx
  | y :: r, h, x, hx => by
    rw [badO] at h
    by_cases hy : (opR y).2 ≠ 0
    · rw [if_pos hy] at h; exact absurd h hy
    · rw [if_neg hy] at h
      rcases List.mem_cons.1 hx with rfl | hx
      · simpa using hy
      · exact badO_zero h x hx
theorem vals_len (l : List (List UInt8)) : (valsR l).length = l.length := by unfold valsR; rw [List.length_map]
theorem nums_len {l : List (List UInt8)} (h : (numsR l).2 = 0) : (numsR l).1 = valsR l ∧ badR l = 0 := by
  unfold numsR at h ⊢
  by_cases hb : badR l ≠ 0
  · rw [if_pos hb] at h; exact absurd h hb
  · rw [if_neg hb]; exact ⟨rfl, by simpa using hb⟩
theorem opsT_len : ∀ l : List OpD, (opsT l).length ≤ 101 * l.length
  | [] => by simp [opsT]
  | o :: l => by
    have h1 := opsT_len l
    have h2 : (textO o).length ≤ 100 := by
      by_cases hk : rightO o = true
      · exact textO_len hk
      · unfold textO; rw [if_pos (by simpa using hk)]; simp
    unfold opsT at h1 ⊢
    rw [List.flatMap_cons, List.length_append, List.length_cons, List.length_cons, Nat.mul_add]
    omega
theorem opsT_next {l : List OpD} {i : Nat} (h : i < l.length) : opsT (l.take (i + 1)) = opsT (l.take i) ++ 32 :: textO (nth l i) := by
  unfold opsT
  rw [List.take_succ_eq_append_getElem h, List.flatMap_append, nth_eq h]
  simp
theorem numB_iff {n : Int} : numB n = true ↔ 0 ≤ n ∧ n ≤ 2147483647 := by unfold numB; rw [Bool.and_eq_true, decide_eq_true_eq, decide_eq_true_eq]

end Go.Proofs.YtjdcnjemhjldoaaDoor
