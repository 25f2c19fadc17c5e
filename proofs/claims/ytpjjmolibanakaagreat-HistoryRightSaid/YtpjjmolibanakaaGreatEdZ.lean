/- Ed9, EdA, in one text. -/
import Derived.Test.YtpjjmolibanakaaGreatEdY
import Derived.Test.YtpjjmolibanakaaGreatHiL
import Derived.Test.YtpjjmolibanakaaGreatHi5
import Derived.Test.YtpjjmolibanakaaGreatOr6
namespace Go.Proofs.YtpjjmolibanakaaGreat
open Go Go.Gm
set_option linter.unusedVariables false
set_option linter.unusedSimpArgs false
set_option maxHeartbeats 4000000
set_option maxRecDepth 8000


section
set_option linter.unusedSectionVars false
variable {α : Type} {κ : α → Int} {t x : α} {l out r : List α} {d : Bool}
/-- A list with one put by its key, as the document does it. -/
def putGR (κ : α → Int) (t : α) : List α → Bool → List α
  | [], d => if d = true then [] else [t]
  | x :: l, d => (if d = false ∧ κ t ≤ κ x then [t] else []) ++ (if κ x = κ t then [] else [x]) ++ putGR κ t l (d || decide (κ t ≤ κ x))
theorem putGR_true : ∀ l : List α, putGR κ t l true = l.filter fun x => !decide (κ x = κ t)
  | [] => rfl
  | x :: l => by
    rw [putGR, if_neg (by simp), List.nil_append, Bool.true_or, putGR_true l]
    split
    · rename_i h; rw [List.filter_cons_of_neg (by simpa using h)]; rfl
    · rename_i h; rw [List.filter_cons_of_pos (by simpa using h)]; rfl
theorem filter_over {k : Int} (h : ∀ x ∈ l, k < κ x) : (l.filter fun x => !decide (κ x = k)) = l := by
  rw [List.filter_eq_self]
  intro x hx
  have := h x hx
  simp; omega
theorem lowK_cons {k : Int} : lowK κ k (x :: l) = if κ x < k then lowK κ k l + 1 else 0 := by
  unfold lowK
  split
  · rename_i h1; rw [List.takeWhile_cons_of_pos (by simpa using h1), List.length_cons]
  · rename_i h1; rw [List.takeWhile_cons_of_neg (by simpa using h1)]; rfl
theorem isK_cons {k : Int} : isK κ k (x :: l) = (decide (κ x = k) || isK κ k l) := by unfold isK; rw [List.any_cons]
theorem isK_over {k : Int} (h : ∀ x ∈ l, k < κ x) : isK κ k l = false := by
  unfold isK
  rw [List.any_eq_false]
  intro x hx
  have := h x hx
  simp; omega
theorem putGR_new (hs : l.Pairwise fun a b => κ a < κ b) (hk : isK κ (κ t) l = false) : putGR κ t l false = l.take (lowK κ (κ t) l) ++ [t] ++ l.drop (lowK κ (κ t) l) := by
  induction l with
  | nil => rfl
  | cons x l ih =>
    rw [List.pairwise_cons] at hs
    rw [isK_cons, Bool.or_eq_false_iff, decide_eq_false_iff_not] at hk
    rw [putGR, if_neg hk.1, lowK_cons]
    by_cases h : κ x < κ t
    · rw [if_neg (by omega), if_pos h, show (false || decide (κ t ≤ κ x)) = false by simp; omega, ih hs.2 hk.2]; simp
    · rw [if_pos ⟨rfl, by omega⟩, if_neg h, show (false || decide (κ t ≤ κ x)) = true by simp; omega, putGR_true, filter_over fun y hy => by have := hs.1 y hy; omega]; simp
theorem putGR_old (hs : l.Pairwise fun a b => κ a < κ b) (hk : isK κ (κ t) l = true) : putGR κ t l false = l.set (lowK κ (κ t) l) t := by
  induction l with
  | nil => simp [isK] at hk
  | cons x l ih =>
    rw [List.pairwise_cons] at hs
    rw [putGR, lowK_cons]
    by_cases h : κ x < κ t
    · rw [isK_cons, decide_eq_false (by omega), Bool.false_or] at hk
      rw [if_neg (by omega), if_neg (by omega), if_pos h, show (false || decide (κ t ≤ κ x)) = false by simp; omega, ih hs.2 hk]; rfl
    · rw [if_pos ⟨rfl, by omega⟩, if_neg h, show (false || decide (κ t ≤ κ x)) = true by simp; omega, putGR_true, filter_over fun y hy => by have := hs.1 y hy; omega]
      have hx : κ x = κ t := by
        refine Decidable.byContradiction fun h9 => ?_
        rw [isK_cons, decide_eq_false h9, Bool.false_or, isK_over fun y hy => by have := hs.1 y hy; omega] at hk
        cases hk
      rw [if_pos hx]; rfl
theorem filter_low {k : Int} (hs : l.Pairwise fun a b => κ a < κ b) (hk : isK κ k l = true) : (l.filter fun x => !decide (κ x = k)) = l.take (lowK κ k l) ++ l.drop (lowK κ k l + 1) := by
  induction l with
  | nil => simp [isK] at hk
  | cons x l ih =>
    rw [List.pairwise_cons] at hs
    rw [lowK_cons]
    by_cases h : κ x < k
    · rw [isK_cons, decide_eq_false (by omega), Bool.false_or] at hk
      rw [List.filter_cons_of_pos (by simp; omega), if_pos h, ih hs.2 hk]; rfl
    · have hx : κ x = k := by
        refine Decidable.byContradiction fun h9 => ?_
        rw [isK_cons, decide_eq_false h9, Bool.false_or, isK_over fun y hy => by have := hs.1 y hy; omega] at hk
        cases hk
      rw [List.filter_cons_of_neg (by simpa using hx), if_neg h, filter_over fun y hy => by have := hs.1 y hy; omega]; simp
theorem putGR_mem {y : α} (h : y ∈ putGR κ t l d) : (y = t ∧ d = false) ∨ (y ∈ l ∧ κ y ≠ κ t) := by
  induction l generalizing d with
  | nil => cases d <;> simp [putGR] at h; exact .inl ⟨h, rfl⟩
  | cons x l ih =>
    rw [putGR, List.mem_append, List.mem_append] at h
    rcases h with (h | h) | h
    · split at h
      · rename_i h1; exact .inl ⟨by simpa using h, h1.1⟩
      · cases h
    · split at h
      · cases h
      · rename_i h1
        have e : y = x := by simpa using h
        subst e
        exact .inr ⟨by simp, h1⟩
    · rcases ih h with ⟨h1, h2⟩ | ⟨h1, h2⟩
      · rw [Bool.or_eq_false_iff] at h2; exact .inl ⟨h1, h2.1⟩
      · exact .inr ⟨by simp [h1], h2⟩
theorem putGR_rise (hs : l.Pairwise fun a b => κ a < κ b) : (putGR κ t l d).Pairwise fun a b => κ a < κ b := by
  induction l generalizing d with
  | nil => cases d <;> simp [putGR]
  | cons x l ih =>
    rw [List.pairwise_cons] at hs
    have hf := hs.2.filter fun x => !decide (κ x = κ t)
    rw [putGR]
    by_cases hA : d = false ∧ κ t ≤ κ x
    · rw [if_pos hA, show (d || decide (κ t ≤ κ x)) = true by simp [hA.2], putGR_true]
      have h1 : ∀ y ∈ l.filter (fun x => !decide (κ x = κ t)), κ x < κ y := fun y hy => hs.1 y (List.mem_filter.1 hy).1
      split
      · rw [List.append_nil, List.singleton_append, List.pairwise_cons]
        exact ⟨fun y hy => by have := h1 y hy; omega, hf⟩
      · rename_i h2
        rw [List.append_assoc, List.singleton_append, List.singleton_append, List.pairwise_cons, List.pairwise_cons]
        refine ⟨fun y hy => ?_, h1, hf⟩
        rcases List.mem_cons.1 hy with rfl | hy
        · omega
        · have := h1 y hy; omega
    · rw [if_neg hA, List.nil_append]
      have ih2 := ih (d := d || decide (κ t ≤ κ x)) hs.2
      split
      · simpa using ih2
      · rename_i h2
        rw [List.singleton_append, List.pairwise_cons]
        refine ⟨fun y hy => ?_, ih2⟩
        rcases putGR_mem hy with ⟨rfl, h3⟩ | ⟨h3, _⟩
        · rw [Bool.or_eq_false_iff] at h3
          have := of_decide_eq_false h3.2
          omega
        · exact hs.1 y h3
end
/-- The list of a key. -/
def getO (os : List OrdD) (k : Int) : List Int := ((os.find? fun o => decide (o.key = k)).map OrdD.txs).getD []
theorem getO_cons {o : OrdD} {os : List OrdD} {k : Int} : getO (o :: os) k = if o.key = k then o.txs else getO os k := by
  unfold getO
  rw [List.find?_cons]
  by_cases h : o.key = k <;> simp [h]
theorem getO_none {os : List OrdD} {k : Int} (h : ∀ o ∈ os, o.key ≠ k) : getO os k = [] := by
  unfold getO
  rw [List.find?_eq_none.2 fun o ho => by simpa using h o ho]; rfl
theorem getO_mem {os : List OrdD} {o : OrdD} (hs : os.Pairwise fun a b => a.key < b.key) (h : o ∈ os) : getO os o.key = o.txs := by
  induction os with
  | nil => cases h
  | cons x os ih =>
    rw [List.pairwise_cons] at hs
    rw [getO_cons]
    rcases List.mem_cons.1 h with rfl | h
    · rw [if_pos rfl]
    · have := hs.1 o h
      rw [if_neg (by omega), ih hs.2 h]
theorem getO_in {os : List OrdD} {k : Int} (h : getO os k ≠ []) : (⟨k, getO os k⟩ : OrdD) ∈ os := by
  induction os with
  | nil => exact absurd rfl h
  | cons x os ih =>
    rw [getO_cons] at h ⊢
    by_cases e : x.key = k
    · rw [if_pos e]; subst e; simp
    · rw [if_neg e] at h ⊢; simp [ih h]
def NE (os : List OrdD) : Prop := ∀ o ∈ os, o.txs ≠ []
/-- What becomes of a key's list. -/
def listF (t : TxD) (l : List Int) (k : Int) : List Int := if t.done = true ∧ 0 < wcnt t.ops k then withO l t.id else withoutO l t.id
theorem getO_filter {os : List OrdD} (hs : os.Pairwise fun a b => a.key < b.key) (k : Int) : getO (os.filter fun o => !decide (o.txs = [])) k = getO os k := by
  induction os with
  | nil => rfl
  | cons x os ih =>
    rw [List.pairwise_cons] at hs
    rw [getO_cons]
    by_cases e : x.txs = []
    · rw [List.filter_cons_of_neg (by simpa using e), ih hs.2]
      split
      · rename_i hk
        rw [e, getO_none fun o ho => by have := hs.1 o ho; omega]
      · rfl
    · rw [List.filter_cons_of_pos (by simpa using e), getO_cons, ih hs.2]
theorem getO_map {t : TxD} {os : List OrdD} {k : Int} : getO (os.map (ordF t)) k = if isK OrdD.key k os = true then listF t (getO os k) k else [] := by
  induction os with
  | nil => simp [getO, isK]
  | cons x os ih =>
    rw [List.map_cons, getO_cons, getO_cons, isK_cons, ih]
    by_cases e : x.key = k
    · subst e
      rw [if_pos (show (ordF t x).key = x.key from rfl), if_pos rfl]
      simp [ordF, listF]
    · rw [if_neg (show ¬ (ordF t x).key = k from e), if_neg e, decide_eq_false e, Bool.false_or]
theorem getO_putK {k' k : Int} : ∀ {os : List OrdD}, (os.Pairwise fun a b => a.key < b.key) → getO (putK k' os) k = getO os k
  | [], _ => by unfold putK; rw [getO_cons]; split <;> rfl
  | x :: os, h => by
    rw [List.pairwise_cons] at h
    unfold putK
    split
    · rw [getO_cons, getO_cons, getO_putK h.2]
    · split
      · rfl
      · rw [getO_cons]
        split
        · rename_i h1 h2 h3
          have h3 : k' = k := h3
          subst h3
          refine (getO_none fun o ho => ?_).symm
          rcases List.mem_cons.1 ho with rfl | ho
          · exact h2
          · have := h.1 o ho; omega
        · rfl
theorem isK_putK {k' k : Int} : ∀ {os : List OrdD}, isK OrdD.key k (putK k' os) = (isK OrdD.key k os || decide (k' = k))
  | [] => by simp [putK, isK]
  | x :: os => by
    unfold putK
    split
    · rw [isK_cons, isK_cons, isK_putK, Bool.or_assoc]
    · split
      · rename_i h2
        rw [isK_cons]
        by_cases e : k' = k
        · simp [h2, e]
        · simp [e]
      · rw [isK_cons, Bool.or_comm]
theorem insF_get : ∀ (ks : List Int) {os : List OrdD} (k : Int), Rise OrdD.key os → getO (ks.foldl insK os) k = getO os k ∧ isK OrdD.key k (ks.foldl insK os) = (isK OrdD.key k os || decide (k ∈ ks))
  | [], os, k, _ => by simp
  | k' :: ks, os, k, h => by
    obtain ⟨h1, h2⟩ := insF_get ks k (insK_rise k' h)
    rw [List.foldl_cons, h1, h2, insK_put k' h, getO_putK (rise_iff.1 h), isK_putK]
    refine ⟨rfl, ?_⟩
    rw [Bool.or_assoc]
    congr 1
    rw [Bool.eq_iff_iff]
    simp only [Bool.or_eq_true, decide_eq_true_eq, List.mem_cons]
    exact ⟨fun h => h.elim (fun h => .inl h.symm) .inr, fun h => h.elim (fun h => .inl h.symm) .inr⟩
theorem isK_get {os : List OrdD} {k : Int} (h : isK OrdD.key k os = false) : getO os k = [] := by
  refine getO_none fun o ho e => ?_
  unfold isK at h
  rw [List.any_eq_false] at h
  exact h o ho (by simpa using e)
theorem settle_get {t : TxD} {os : List OrdD} (h : Rise OrdD.key os) (k : Int) : getO (settleO t os) k = listF t (getO os k) k := by
  unfold settleO
  have hins : getO (insS t os (keysT t)) k = getO os k ∧ isK OrdD.key k (insS t os (keysT t)) = (isK OrdD.key k os || (t.done && decide (k ∈ keysT t))) ∧ Rise OrdD.key (insS t os (keysT t)) := by
    unfold insS
    split
    · rename_i hd
      obtain ⟨h1, h2⟩ := insF_get (keysT t) k h
      refine ⟨h1, by rw [h2, hd, Bool.true_and], ?_⟩
      have key : ∀ (ks : List Int) (os : List OrdD), Rise OrdD.key os → Rise OrdD.key (ks.foldl insK os) := by
        intro ks
        induction ks with
        | nil => intro os h; exact h
        | cons k ks ih => intro os h; exact ih _ (insK_rise k h)
      exact key _ _ h
    · rename_i hd
      exact ⟨rfl, by simp [hd], h⟩
  obtain ⟨h1, h2, h3⟩ := hins
  have hm : ((insS t os (keysT t)).map (ordF t)).Pairwise fun a b => a.key < b.key := List.pairwise_map.2 ((rise_iff.1 h3).imp fun h => h)
  rw [getO_filter hm, getO_map, h1, h2]
  split
  · rfl
  · rename_i hk
    simp only [Bool.or_eq_true, not_or, Bool.and_eq_true, decide_eq_true_eq] at hk
    have hk1 : isK OrdD.key k os = false := by simpa using hk.1
    rw [isK_get hk1]
    unfold listF
    rw [if_neg fun h9 => hk.2 ⟨h9.1, keysT_mem.2 h9.2⟩]; rfl
theorem settle_rise {t : TxD} {os : List OrdD} (h : Rise OrdD.key os) (hs : SmallO os) : (settleO t os).Pairwise (fun a b => a.key < b.key) ∧ NE (settleO t os) := by
  have h3 := (insS_facts (t := t) h hs (keysT t)).1
  have hm : ((insS t os (keysT t)).map (ordF t)).Pairwise fun a b => a.key < b.key := List.pairwise_map.2 ((rise_iff.1 h3).imp fun h => h)
  refine ⟨hm.filter _, fun o ho => ?_⟩
  have := (List.mem_filter.1 ho).2
  simpa using this
theorem getO_put {o : OrdD} {os : List OrdD} {d : Bool} (hs : os.Pairwise fun a b => a.key < b.key) (k : Int) : getO (putGR OrdD.key o os d) k = if k = o.key then (if d = true then [] else o.txs) else getO os k := by
  have hf : ∀ os : List OrdD, getO (os.filter fun x => !decide (x.key = o.key)) k = if k = o.key then [] else getO os k := by
    intro os
    induction os with
    | nil => split <;> rfl
    | cons x os ih =>
      by_cases e : x.key = o.key
      · rw [List.filter_cons_of_neg (by simpa using e), ih, getO_cons]
        split
        · rfl
        · rename_i h; rw [if_neg (by omega)]
      · rw [List.filter_cons_of_pos (by simpa using e), getO_cons, getO_cons, ih]
        split
        · rename_i h; rw [if_neg (by omega)]
        · rfl
  cases d with
  | true => rw [putGR_true, hf]; simp
  | false =>
    simp only [Bool.false_eq_true, if_false]
    induction os with
    | nil =>
      show getO [o] k = _
      rw [getO_cons]
      by_cases e : o.key = k
      · rw [if_pos e, if_pos e.symm]
      · rw [if_neg e, if_neg fun h => e h.symm]
    | cons x os ih =>
      rw [List.pairwise_cons] at hs
      rw [putGR]
      by_cases hA : o.key ≤ x.key
      · rw [if_pos ⟨rfl, hA⟩, show (false || decide (o.key ≤ x.key)) = true by simp [hA], putGR_true, List.append_assoc, List.singleton_append, getO_cons]
        by_cases e : o.key = k
        · rw [if_pos e, if_pos e.symm]
        · have e' : ¬ k = o.key := fun h => e h.symm
          rw [if_neg e, if_neg e', getO_cons]
          by_cases e2 : x.key = o.key
          · rw [if_pos e2, List.nil_append, hf, if_neg e', if_neg (show ¬ x.key = k by omega)]
          · rw [if_neg e2, List.singleton_append, getO_cons, hf, if_neg e']
      · rw [if_neg fun h => hA h.2, if_neg (by omega), List.nil_append, List.singleton_append, show (false || decide (o.key ≤ x.key)) = false by simp; omega, getO_cons, getO_cons, ih hs.2]
        split
        · rename_i h; rw [if_neg (by omega)]
        · rfl
theorem getO_at {os : List OrdD} {k : Int} {i : Nat} (hi : i < os.length) (h : (Go.Gm.nth os i).key = k) (hq : ∀ q, q < i → (Go.Gm.nth os q).key ≠ k) : getO os k = (Go.Gm.nth os i).txs := by
  unfold getO
  rw [List.find?_eq_some_iff_getElem.2 ⟨by simpa using h, i, hi, (nth_eq hi).symm, fun j hj => by have := hq j hj; rw [nth_eq (by omega)] at this; simpa using this⟩]; rfl
theorem getO_no {os : List OrdD} {k : Int} (hq : ∀ q, q < os.length → (Go.Gm.nth os q).key ≠ k) : getO os k = [] := getO_none fun o ho => by
  obtain ⟨j, hj, e⟩ := List.getElem_of_mem ho
  have := hq j hj
  rwa [nth_eq hj, e] at this
end Go.Proofs.YtpjjmolibanakaaGreat
namespace Go.Proofs.YtpjjmolibanakaaGreat
open Go Go.Gm
set_option linter.unusedVariables false
set_option linter.unusedSimpArgs false
set_option maxHeartbeats 4000000
set_option maxRecDepth 8000


theorem find_is {l : List TxD} {id : Int} : (findT l id).isSome = isK TxD.id id l := by
  unfold findT isK
  rw [Bool.eq_iff_iff, List.find?_isSome, List.any_eq_true]
theorem right_ne {g : HistD} (h : RightH g) : NE g.orders := fun o ho => by
  have h2 := (ord_same g).2 h.2.2
  obtain ⟨j, hj, e⟩ := List.getElem_of_mem ho
  have := (h2.2 j hj).2.1
  rwa [nth_eq hj, e] at this
theorem get_is {os : List OrdD} {k : Int} (hr : Rise OrdD.key os) (h : isK OrdD.key k os = true) : getO os k = (Go.Gm.nth os (lowK OrdD.key k os)).txs := by
  obtain ⟨h1, h2⟩ := isK_low hr h
  have := getO_mem (rise_iff.1 hr) (nth_mem h1)
  rwa [h2] at this
theorem get_nil {os : List OrdD} {k : Int} (hr : Rise OrdD.key os) (hn : NE os) : getO os k = [] ↔ isK OrdD.key k os = false := by
  constructor
  · intro h
    cases hk : isK OrdD.key k os with
    | false => rfl
    | true =>
      rw [get_is hr hk] at h
      exact absurd h (hn _ (nth_mem (isK_low hr hk).1))
  · exact isK_get
theorem turn_1 {g : HistD} {key : Int} {rule : List Int → List Int × Int} (h : ¬ RightH g) : turnedH g key rule = (zeroH, 5) := if_pos h
theorem turn_2 {g : HistD} {key : Int} {rule : List Int → List Int × Int} (h : RightH g) (h2 : getO g.orders key = []) : turnedH g key rule = (zeroH, 3) := by
  unfold turnedH
  rw [if_neg (Decidable.not_not.2 h), if_pos ((get_nil (right_rise h).2 (right_ne h)).1 h2)]
theorem turn_is {g : HistD} {key : Int} (h : RightH g) (h2 : getO g.orders key ≠ []) : isK OrdD.key key g.orders = true := by
  cases hk : isK OrdD.key key g.orders with
  | true => rfl
  | false => exact absurd ((get_nil (right_rise h).2 (right_ne h)).2 hk) h2
theorem turn_3 {g : HistD} {key : Int} {rule : List Int → List Int × Int} (h : RightH g) (h2 : getO g.orders key ≠ []) (h3 : (rule (getO g.orders key)).2 ≠ 0) : turnedH g key rule = (zeroH, (rule (getO g.orders key)).2) := by
  have hk := turn_is h h2
  have hg := get_is (right_rise h).2 hk
  unfold turnedH
  rw [if_neg (Decidable.not_not.2 h), if_neg (by simp [hk]), ← hg, if_pos h3]
theorem turn_4 {g : HistD} {key : Int} {rule : List Int → List Int × Int} (h : RightH g) (h2 : getO g.orders key ≠ []) (h3 : (rule (getO g.orders key)).2 = 0) (h4 : (rule (getO g.orders key)).1 ≠ []) : turnedH g key rule = (⟨g.txs, putGR OrdD.key ⟨key, (rule (getO g.orders key)).1⟩ g.orders (decide ((rule (getO g.orders key)).1 = []))⟩, 0) := by
  have hk := turn_is h h2
  have hr := (right_rise h).2
  have hg := get_is hr hk
  unfold turnedH
  rw [if_neg (Decidable.not_not.2 h), if_neg (by simp [hk]), ← hg, if_neg (by simp [h3]), decide_eq_false h4, putGR_old (κ := OrdD.key) (t := ⟨key, (rule (getO g.orders key)).1⟩) (rise_iff.1 hr) hk, (isK_low hr hk).2]
theorem move_perm {l : List Int} {id place : Int} (h : (moveO l id place).2 = 0) : (moveO l id place).1.Perm l := by
  have h9 := h
  unfold moveO at h9
  split at h9
  · simp at h9
  · rename_i h1
    split at h9
    · simp at h9
    · rename_i h2
      refine moveO_perm ?_ (Decidable.not_not.1 h2)
      refine Decidable.byContradiction fun hm => h1 ?_
      rw [idxL_not hm]; decide
/-- An edit. -/
structure EdD where
  kind : Int
  t : TxD
  o : OrdD
  place : Int
  deriving DecidableEq, Inhabited
def rEd (e : EdD) : List PV := [.int .i64 e.kind, .int .i64 e.t.id, .bool e.t.done, .sl rOp e.t.ops, .int .i64 e.o.key, .sl rInt e.o.txs, .int .i64 e.place]
def doH (g : HistD) (e : EdD) : HistD × Int := if e.kind = 0 then insertH g e.t else if e.kind = 1 then deleteH g e.t.id else if e.kind = 2 then amendH g e.t else if e.kind = 3 then reorderH g e.o else if e.kind = 4 then moveH g e.o.key e.t.id e.place else (zeroH, 5)
def lightE (e : EdD) : Prop := e.t.ops.length ≤ 24 ∧ e.o.txs.length ≤ 24
instance (e : EdD) : Decidable (lightE e) := by unfold lightE; exact inferInstance
def lightL (l : List EdD) : Prop := l.length ≤ 24 ∧ ∀ e ∈ l, lightE e
instance (l : List EdD) : Decidable (lightL l) := by unfold lightL; exact inferInstance
def playStep (g : HistD) (e : EdD) : HistD := if (doH g e).2 = 0 then (doH g e).1 else g
end Go.Proofs.YtpjjmolibanakaaGreat
