/- Ed9, EdA, in one text. -/
import Derived.Test.YtpjjmolibanakaaGreatEdY
import Derived.Test.YtpjjmolibanakaaGreatHiL
import Derived.Test.YtpjjmolibanakaaGreatHi5
import Derived.Test.YtpjjmolibanakaaGreatOr6
namespace Go.Proofs.YtpjjmolibanakaaGreat
open Go Go.Gm
set_option linter.unusedVariables false
set_option linter.unusedSimpArgs false
set_option maxHeartbeats 4000000
set_option maxRecDepth 8000


section
set_option linter.unusedSectionVars false
variable {α : Type} {κ : α → Int} {t x : α} {l out r : List α} {d : Bool}
/-- A list with one put by its key, as the document does it. -/
def putGR (κ : α → Int) (t : α) : List α → Bool → List α
  | [], d => if d = true then [] else [t]
  | x :: l, d => (if d = false ∧ κ t ≤ κ x then [t] else []) ++ (if κ x = κ t then [] else [x]) ++ putGR κ t l (d || decide (κ t ≤ κ x))
theorem putGR_TT (hA : d = false ∧ κ t ≤ κ x) (hB : ¬ κ x = κ t) (h : out ++ putGR κ t (x :: l) d = r) : out ++ [t] ++ [x] ++ putGR κ t l true = r := by
  rw [← h, putGR, if_pos hA, if_neg hB]; simp [hA.2]
theorem putGR_TF (hA : d = false ∧ κ t ≤ κ x) (hB : κ x = κ t) (h : out ++ putGR κ t (x :: l) d = r) : out ++ [t] ++ putGR κ t l true = r := by
  rw [← h, putGR, if_pos hA, if_pos hB]; simp [hA.2]
theorem putGR_d (hA : ¬ (d = false ∧ κ t ≤ κ x)) : (d || decide (κ t ≤ κ x)) = d := by
  cases d
  · simp at hA ⊢; omega
  · rfl
theorem putGR_FT (hA : ¬ (d = false ∧ κ t ≤ κ x)) (hB : ¬ κ x = κ t) (h : out ++ putGR κ t (x :: l) d = r) : out ++ [x] ++ putGR κ t l d = r := by
  rw [← h, putGR, if_neg hA, if_neg hB, putGR_d hA]; simp
theorem putGR_FF (hA : ¬ (d = false ∧ κ t ≤ κ x)) (hB : κ x = κ t) (h : out ++ putGR κ t (x :: l) d = r) : out ++ putGR κ t l d = r := by
  rw [← h, putGR, if_neg hA, if_pos hB, putGR_d hA]; simp
theorem putGR_true : ∀ l : List α, putGR κ t l true = l.filter fun x => !decide (κ x = κ t)
  | [] => rfl
  | x :: l => by
    rw [putGR, if_neg (by simp), List.nil_append, Bool.true_or, putGR_true l]
    split
    · rename_i h; rw [List.filter_cons_of_neg (by simpa using h)]; rfl
    · rename_i h; rw [List.filter_cons_of_pos (by simpa using h)]; rfl
theorem putGR_len (l : List α) (d : Bool) : (putGR κ t l d).length ≤ l.length + 1 := by
  have h2 : ∀ l : List α, (putGR κ t l true).length ≤ l.length := fun l => by rw [putGR_true]; exact List.length_filter_le _ _
  induction l generalizing d with
  | nil => cases d <;> simp [putGR]
  | cons x l ih =>
    have h1 := ih (d || decide (κ t ≤ κ x))
    rw [putGR, List.length_append, List.length_append]
    have h3 := h2 l
    by_cases hA : d = false ∧ κ t ≤ κ x
    · rw [show (d || decide (κ t ≤ κ x)) = true by simp [hA.2], if_pos hA]
      split <;> simp <;> omega
    · rw [if_neg hA]
      split <;> simp <;> omega
theorem filter_over {k : Int} (h : ∀ x ∈ l, k < κ x) : (l.filter fun x => !decide (κ x = k)) = l := by
  rw [List.filter_eq_self]
  intro x hx
  have := h x hx
  simp; omega
theorem lowK_cons {k : Int} : lowK κ k (x :: l) = if κ x < k then lowK κ k l + 1 else 0 := by
  unfold lowK
  split
  · rename_i h1; rw [List.takeWhile_cons_of_pos (by simpa using h1), List.length_cons]
  · rename_i h1; rw [List.takeWhile_cons_of_neg (by simpa using h1)]; rfl
theorem isK_cons {k : Int} : isK κ k (x :: l) = (decide (κ x = k) || isK κ k l) := by unfold isK; rw [List.any_cons]
theorem isK_over {k : Int} (h : ∀ x ∈ l, k < κ x) : isK κ k l = false := by
  unfold isK
  rw [List.any_eq_false]
  intro x hx
  have := h x hx
  simp; omega
theorem putGR_new (hs : l.Pairwise fun a b => κ a < κ b) (hk : isK κ (κ t) l = false) : putGR κ t l false = l.take (lowK κ (κ t) l) ++ [t] ++ l.drop (lowK κ (κ t) l) := by
  induction l with
  | nil => rfl
  | cons x l ih =>
    rw [List.pairwise_cons] at hs
    rw [isK_cons, Bool.or_eq_false_iff, decide_eq_false_iff_not] at hk
    rw [putGR, if_neg hk.1, lowK_cons]
    by_cases h : κ x < κ t
    · rw [if_neg (by omega), if_pos h, show (false || decide (κ t ≤ κ x)) = false by simp; omega, ih hs.2 hk.2]; simp
    · rw [if_pos ⟨rfl, by omega⟩, if_neg h, show (false || decide (κ t ≤ κ x)) = true by simp; omega, putGR_true, filter_over fun y hy => by have := hs.1 y hy; omega]; simp
theorem putGR_old (hs : l.Pairwise fun a b => κ a < κ b) (hk : isK κ (κ t) l = true) : putGR κ t l false = l.set (lowK κ (κ t) l) t := by
  induction l with
  | nil => simp [isK] at hk
  | cons x l ih =>
    rw [List.pairwise_cons] at hs
    rw [putGR, lowK_cons]
    by_cases h : κ x < κ t
    · rw [isK_cons, decide_eq_false (by omega), Bool.false_or] at hk
      rw [if_neg (by omega), if_neg (by omega), if_pos h, show (false || decide (κ t ≤ κ x)) = false by simp; omega, ih hs.2 hk]; rfl
    · rw [if_pos ⟨rfl, by omega⟩, if_neg h, show (false || decide (κ t ≤ κ x)) = true by simp; omega, putGR_true, filter_over fun y hy => by have := hs.1 y hy; omega]
      have hx : κ x = κ t := by
        refine Decidable.byContradiction fun h9 => ?_
        rw [isK_cons, decide_eq_false h9, Bool.false_or, isK_over fun y hy => by have := hs.1 y hy; omega] at hk
        cases hk
      rw [if_pos hx]; rfl
theorem filter_low {k : Int} (hs : l.Pairwise fun a b => κ a < κ b) (hk : isK κ k l = true) : (l.filter fun x => !decide (κ x = k)) = l.take (lowK κ k l) ++ l.drop (lowK κ k l + 1) := by
  induction l with
  | nil => simp [isK] at hk
  | cons x l ih =>
    rw [List.pairwise_cons] at hs
    rw [lowK_cons]
    by_cases h : κ x < k
    · rw [isK_cons, decide_eq_false (by omega), Bool.false_or] at hk
      rw [List.filter_cons_of_pos (by simp; omega), if_pos h, ih hs.2 hk]; rfl
    · have hx : κ x = k := by
        refine Decidable.byContradiction fun h9 => ?_
        rw [isK_cons, decide_eq_false h9, Bool.false_or, isK_over fun y hy => by have := hs.1 y hy; omega] at hk
        cases hk
      rw [List.filter_cons_of_neg (by simpa using hx), if_neg h, filter_over fun y hy => by have := hs.1 y hy; omega]; simp
theorem putGR_mem {y : α} (h : y ∈ putGR κ t l d) : (y = t ∧ d = false) ∨ (y ∈ l ∧ κ y ≠ κ t) := by
  induction l generalizing d with
  | nil => cases d <;> simp [putGR] at h; exact .inl ⟨h, rfl⟩
  | cons x l ih =>
    rw [putGR, List.mem_append, List.mem_append] at h
    rcases h with (h | h) | h
    · split at h
      · rename_i h1; exact .inl ⟨by simpa using h, h1.1⟩
      · cases h
    · split at h
      · cases h
      · rename_i h1
        have e : y = x := by simpa using h
        subst e
        exact .inr ⟨by simp, h1⟩
    · rcases ih h with ⟨h1, h2⟩ | ⟨h1, h2⟩
      · rw [Bool.or_eq_false_iff] at h2; exact .inl ⟨h1, h2.1⟩
      · exact .inr ⟨by simp [h1], h2⟩
theorem putGR_rise (hs : l.Pairwise fun a b => κ a < κ b) : (putGR κ t l d).Pairwise fun a b => κ a < κ b := by
  induction l generalizing d with
  | nil => cases d <;> simp [putGR]
  | cons x l ih =>
    rw [List.pairwise_cons] at hs
    have hf := hs.2.filter fun x => !decide (κ x = κ t)
    rw [putGR]
    by_cases hA : d = false ∧ κ t ≤ κ x
    · rw [if_pos hA, show (d || decide (κ t ≤ κ x)) = true by simp [hA.2], putGR_true]
      have h1 : ∀ y ∈ l.filter (fun x => !decide (κ x = κ t)), κ x < κ y := fun y hy => hs.1 y (List.mem_filter.1 hy).1
      split
      · rw [List.append_nil, List.singleton_append, List.pairwise_cons]
        exact ⟨fun y hy => by have := h1 y hy; omega, hf⟩
      · rename_i h2
        rw [List.append_assoc, List.singleton_append, List.singleton_append, List.pairwise_cons, List.pairwise_cons]
        refine ⟨fun y hy => ?_, h1, hf⟩
        rcases List.mem_cons.1 hy with rfl | hy
        · omega
        · have := h1 y hy; omega
    · rw [if_neg hA, List.nil_append]
      have ih2 := ih (d := d || decide (κ t ≤ κ x)) hs.2
      split
      · simpa using ih2
      · rename_i h2
        rw [List.singleton_append, List.pairwise_cons]
        refine ⟨fun y hy => ?_, ih2⟩
        rcases putGR_mem hy with ⟨rfl, h3⟩ | ⟨h3, _⟩
        · rw [Bool.or_eq_false_iff] at h3
          have := of_decide_eq_false h3.2
          omega
        · exact hs.1 y h3
end
/-- The list of a key. -/
def getO (os : List OrdD) (k : Int) : List Int := ((os.find? fun o => decide (o.key = k)).map OrdD.txs).getD []
theorem getO_cons {o : OrdD} {os : List OrdD} {k : Int} : getO (o :: os) k = if o.key = k then o.txs else getO os k := by
  unfold getO
  rw [List.find?_cons]
  by_cases h : o.key = k <;> simp [h]
theorem getO_none {os : List OrdD} {k : Int} (h : ∀ o ∈ os, o.key ≠ k) : getO os k = [] := by
  unfold getO
  rw [List.find?_eq_none.2 fun o ho => by simpa using h o ho]; rfl
theorem getO_mem {os : List OrdD} {o : OrdD} (hs : os.Pairwise fun a b => a.key < b.key) (h : o ∈ os) : getO os o.key = o.txs := by
  induction os with
  | nil => cases h
  | cons x os ih =>
    rw [List.pairwise_cons] at hs
    rw [getO_cons]
    rcases List.mem_cons.1 h with rfl | h
    · rw [if_pos rfl]
    · have := hs.1 o h
      rw [if_neg (by omega), ih hs.2 h]
theorem getO_in {os : List OrdD} {k : Int} (h : getO os k ≠ []) : (⟨k, getO os k⟩ : OrdD) ∈ os := by
  induction os with
  | nil => exact absurd rfl h
  | cons x os ih =>
    rw [getO_cons] at h ⊢
    by_cases e : x.key = k
    · rw [if_pos e]; subst e; simp
    · rw [if_neg e] at h ⊢; simp [ih h]
def NE (os : List OrdD) : Prop := ∀ o ∈ os, o.txs ≠ []
theorem ord_ext : ∀ {a b : List OrdD}, (a.Pairwise fun x y => x.key < y.key) → (b.Pairwise fun x y => x.key < y.key) → (∀ o, o ∈ a ↔ o ∈ b) → a = b
  | [], [], _, _, _ => rfl
  | [], y :: b, _, _, h => by have := (h y).2 (by simp); cases this
  | x :: a, [], _, _, h => by have := (h x).1 (by simp); cases this
  | x :: a, y :: b, ha, hb, h => by
    rw [List.pairwise_cons] at ha hb
    have e : x = y := by
      rcases List.mem_cons.1 ((h x).1 (by simp)) with e | h1
      · exact e
      · rcases List.mem_cons.1 ((h y).2 (by simp)) with e | h2
        · exact e.symm
        · have := ha.1 y h2; have := hb.1 x h1; omega
    subst e
    rw [ord_ext (a := a) (b := b) ha.2 hb.2 fun o => ?_]
    constructor
    · intro ho
      rcases List.mem_cons.1 ((h o).1 (by simp [ho])) with e | h1
      · have := ha.1 o ho; rw [e] at this; omega
      · exact h1
    · intro ho
      rcases List.mem_cons.1 ((h o).2 (by simp [ho])) with e | h1
      · have := hb.1 o ho; rw [e] at this; omega
      · exact h1
theorem ord_get {a b : List OrdD} (ha : a.Pairwise fun x y => x.key < y.key) (hb : b.Pairwise fun x y => x.key < y.key) (na : NE a) (nb : NE b) (h : ∀ k, getO a k = getO b k) : a = b := by
  refine ord_ext ha hb fun o => ⟨fun ho => ?_, fun ho => ?_⟩
  · have h1 := getO_mem ha ho
    have h2 : getO b o.key ≠ [] := by rw [← h, h1]; exact na o ho
    have h3 := getO_in h2
    rw [← h, h1] at h3; exact h3
  · have h1 := getO_mem hb ho
    have h2 : getO a o.key ≠ [] := by rw [h, h1]; exact nb o ho
    have h3 := getO_in h2
    rw [h, h1] at h3; exact h3
/-- What becomes of a key's list. -/
def listF (t : TxD) (l : List Int) (k : Int) : List Int := if t.done = true ∧ 0 < wcnt t.ops k then withO l t.id else withoutO l t.id
theorem getO_filter {os : List OrdD} (hs : os.Pairwise fun a b => a.key < b.key) (k : Int) : getO (os.filter fun o => !decide (o.txs = [])) k = getO os k := by
  induction os with
  | nil => rfl
  | cons x os ih =>
    rw [List.pairwise_cons] at hs
    rw [getO_cons]
    by_cases e : x.txs = []
    · rw [List.filter_cons_of_neg (by simpa using e), ih hs.2]
      split
      · rename_i hk
        rw [e, getO_none fun o ho => by have := hs.1 o ho; omega]
      · rfl
    · rw [List.filter_cons_of_pos (by simpa using e), getO_cons, ih hs.2]
theorem getO_map {t : TxD} {os : List OrdD} {k : Int} : getO (os.map (ordF t)) k = if isK OrdD.key k os = true then listF t (getO os k) k else [] := by
  induction os with
  | nil => simp [getO, isK]
  | cons x os ih =>
    rw [List.map_cons, getO_cons, getO_cons, isK_cons, ih]
    by_cases e : x.key = k
    · subst e
      rw [if_pos (show (ordF t x).key = x.key from rfl), if_pos rfl]
      simp [ordF, listF]
    · rw [if_neg (show ¬ (ordF t x).key = k from e), if_neg e, decide_eq_false e, Bool.false_or]
theorem getO_putK {k' k : Int} : ∀ {os : List OrdD}, (os.Pairwise fun a b => a.key < b.key) → getO (putK k' os) k = getO os k
  | [], _ => by unfold putK; rw [getO_cons]; split <;> rfl
  | x :: os, h => by
    rw [List.pairwise_cons] at h
    unfold putK
    split
    · rw [getO_cons, getO_cons, getO_putK h.2]
    · split
      · rfl
      · rw [getO_cons]
        split
        · rename_i h1 h2 h3
          have h3 : k' = k := h3
          subst h3
          refine (getO_none fun o ho => ?_).symm
          rcases List.mem_cons.1 ho with rfl | ho
          · exact h2
          · have := h.1 o ho; omega
        · rfl
theorem isK_putK {k' k : Int} : ∀ {os : List OrdD}, isK OrdD.key k (putK k' os) = (isK OrdD.key k os || decide (k' = k))
  | [] => by simp [putK, isK]
  | x :: os => by
    unfold putK
    split
    · rw [isK_cons, isK_cons, isK_putK, Bool.or_assoc]
    · split
      · rename_i h2
        rw [isK_cons]
        by_cases e : k' = k
        · simp [h2, e]
        · simp [e]
      · rw [isK_cons, Bool.or_comm]
theorem insF_get : ∀ (ks : List Int) {os : List OrdD} (k : Int), Rise OrdD.key os → getO (ks.foldl insK os) k = getO os k ∧ isK OrdD.key k (ks.foldl insK os) = (isK OrdD.key k os || decide (k ∈ ks))
  | [], os, k, _ => by simp
  | k' :: ks, os, k, h => by
    obtain ⟨h1, h2⟩ := insF_get ks k (insK_rise k' h)
    rw [List.foldl_cons, h1, h2, insK_put k' h, getO_putK (rise_iff.1 h), isK_putK]
    refine ⟨rfl, ?_⟩
    rw [Bool.or_assoc]
    congr 1
    rw [Bool.eq_iff_iff]
    simp only [Bool.or_eq_true, decide_eq_true_eq, List.mem_cons]
    exact ⟨fun h => h.elim (fun h => .inl h.symm) .inr, fun h => h.elim (fun h => .inl h.symm) .inr⟩
theorem isK_get {os : List OrdD} {k : Int} (h : isK OrdD.key k os = false) : getO os k = [] := by
  refine getO_none fun o ho e => ?_
  unfold isK at h
  rw [List.any_eq_false] at h
  exact h o ho (by simpa using e)
theorem settle_get {t : TxD} {os : List OrdD} (h : Rise OrdD.key os) (k : Int) : getO (settleO t os) k = listF t (getO os k) k := by
  unfold settleO
  have hins : getO (insS t os (keysT t)) k = getO os k ∧ isK OrdD.key k (insS t os (keysT t)) = (isK OrdD.key k os || (t.done && decide (k ∈ keysT t))) ∧ Rise OrdD.key (insS t os (keysT t)) := by
    unfold insS
    split
    · rename_i hd
      obtain ⟨h1, h2⟩ := insF_get (keysT t) k h
      refine ⟨h1, by rw [h2, hd, Bool.true_and], ?_⟩
      have key : ∀ (ks : List Int) (os : List OrdD), Rise OrdD.key os → Rise OrdD.key (ks.foldl insK os) := by
        intro ks
        induction ks with
        | nil => intro os h; exact h
        | cons k ks ih => intro os h; exact ih _ (insK_rise k h)
      exact key _ _ h
    · rename_i hd
      exact ⟨rfl, by simp [hd], h⟩
  obtain ⟨h1, h2, h3⟩ := hins
  have hm : ((insS t os (keysT t)).map (ordF t)).Pairwise fun a b => a.key < b.key := List.pairwise_map.2 ((rise_iff.1 h3).imp fun h => h)
  rw [getO_filter hm, getO_map, h1, h2]
  split
  · rfl
  · rename_i hk
    simp only [Bool.or_eq_true, not_or, Bool.and_eq_true, decide_eq_true_eq] at hk
    have hk1 : isK OrdD.key k os = false := by simpa using hk.1
    rw [isK_get hk1]
    unfold listF
    rw [if_neg fun h9 => hk.2 ⟨h9.1, keysT_mem.2 h9.2⟩]; rfl
theorem settle_rise {t : TxD} {os : List OrdD} (h : Rise OrdD.key os) (hs : SmallO os) : (settleO t os).Pairwise (fun a b => a.key < b.key) ∧ NE (settleO t os) := by
  have h3 := (insS_facts (t := t) h hs (keysT t)).1
  have hm : ((insS t os (keysT t)).map (ordF t)).Pairwise fun a b => a.key < b.key := List.pairwise_map.2 ((rise_iff.1 h3).imp fun h => h)
  refine ⟨hm.filter _, fun o ho => ?_⟩
  have := (List.mem_filter.1 ho).2
  simpa using this
/-- The document's. -/
def docStep (t : TxD) (os out : List OrdD) (k : Int) : List OrdD := putGR OrdD.key ⟨k, listF t (getO os k) k⟩ out (decide (listF t (getO os k) k = []))
def docKeys (t : TxD) (os : List OrdD) : List Int := (keysT t).foldl putI (keysL (os.map OrdD.key))
def docSettle (t : TxD) (os : List OrdD) : List OrdD := (docKeys t os).foldl (docStep t os) os
theorem getO_put {o : OrdD} {os : List OrdD} {d : Bool} (hs : os.Pairwise fun a b => a.key < b.key) (k : Int) : getO (putGR OrdD.key o os d) k = if k = o.key then (if d = true then [] else o.txs) else getO os k := by
  have hf : ∀ os : List OrdD, getO (os.filter fun x => !decide (x.key = o.key)) k = if k = o.key then [] else getO os k := by
    intro os
    induction os with
    | nil => split <;> rfl
    | cons x os ih =>
      by_cases e : x.key = o.key
      · rw [List.filter_cons_of_neg (by simpa using e), ih, getO_cons]
        split
        · rfl
        · rename_i h; rw [if_neg (by omega)]
      · rw [List.filter_cons_of_pos (by simpa using e), getO_cons, getO_cons, ih]
        split
        · rename_i h; rw [if_neg (by omega)]
        · rfl
  cases d with
  | true => rw [putGR_true, hf]; simp
  | false =>
    simp only [Bool.false_eq_true, if_false]
    induction os with
    | nil =>
      show getO [o] k = _
      rw [getO_cons]
      by_cases e : o.key = k
      · rw [if_pos e, if_pos e.symm]
      · rw [if_neg e, if_neg fun h => e h.symm]
    | cons x os ih =>
      rw [List.pairwise_cons] at hs
      rw [putGR]
      by_cases hA : o.key ≤ x.key
      · rw [if_pos ⟨rfl, hA⟩, show (false || decide (o.key ≤ x.key)) = true by simp [hA], putGR_true, List.append_assoc, List.singleton_append, getO_cons]
        by_cases e : o.key = k
        · rw [if_pos e, if_pos e.symm]
        · have e' : ¬ k = o.key := fun h => e h.symm
          rw [if_neg e, if_neg e', getO_cons]
          by_cases e2 : x.key = o.key
          · rw [if_pos e2, List.nil_append, hf, if_neg e', if_neg (show ¬ x.key = k by omega)]
          · rw [if_neg e2, List.singleton_append, getO_cons, hf, if_neg e']
      · rw [if_neg fun h => hA h.2, if_neg (by omega), List.nil_append, List.singleton_append, show (false || decide (o.key ≤ x.key)) = false by simp; omega, getO_cons, getO_cons, ih hs.2]
        split
        · rename_i h; rw [if_neg (by omega)]
        · rfl
theorem doc_fold {t : TxD} {os : List OrdD} : ∀ (ks : List Int) {out : List OrdD}, (out.Pairwise fun a b => a.key < b.key) → NE out → ks.Nodup → ((ks.foldl (docStep t os) out).Pairwise fun a b => a.key < b.key) ∧ NE (ks.foldl (docStep t os) out) ∧ ∀ k, getO (ks.foldl (docStep t os) out) k = if k ∈ ks then listF t (getO os k) k else getO out k
  | [], out, h1, h2, _ => ⟨h1, h2, fun k => by simp⟩
  | k' :: ks, out, h1, h2, hn => by
    rw [List.nodup_cons] at hn
    have hst : NE (docStep t os out k') := fun o ho => by
      rcases putGR_mem ho with ⟨rfl, h3⟩ | ⟨h3, _⟩
      · simpa using h3
      · exact h2 o h3
    obtain ⟨g1, g2, g3⟩ := doc_fold ks (out := docStep t os out k') (putGR_rise h1) hst hn.2
    refine ⟨g1, g2, fun k => ?_⟩
    rw [List.foldl_cons, g3]
    by_cases hk : k ∈ ks
    · rw [if_pos hk, if_pos (by simp [hk])]
    · rw [if_neg hk]
      unfold docStep
      rw [getO_put h1]
      by_cases e : k = k'
      · subst e
        rw [if_pos rfl, if_pos (show k ∈ k :: ks by simp)]
        show (if decide (listF t (getO os k) k = []) = true then [] else listF t (getO os k) k) = _
        split
        · rename_i h; exact (of_decide_eq_true h).symm
        · rfl
      · rw [if_neg e, if_neg (by simp [e, hk])]
theorem foldP_inc : ∀ (b : List Int) {a : List Int}, IncI a → IncI (b.foldl putI a) ∧ ∀ x, x ∈ b.foldl putI a ↔ x ∈ a ∨ x ∈ b
  | [], a, h => ⟨h, fun x => by simp⟩
  | y :: b, a, h => by
    obtain ⟨h1, h2⟩ := putI_inc (n := y) h
    obtain ⟨g1, g2⟩ := foldP_inc b h1
    exact ⟨g1, fun x => by rw [List.foldl_cons, g2, h2]; simp [or_assoc]⟩
theorem settle_doc {t : TxD} {os : List OrdD} (h : Rise OrdD.key os) (hs : SmallO os) (hn : NE os) : docSettle t os = settleO t os := by
  obtain ⟨s1, s2⟩ := settle_rise (t := t) h hs
  obtain ⟨k1, k2⟩ := foldP_inc (keysT t) (keysL_inc (os.map OrdD.key)).1
  obtain ⟨d1, d2, d3⟩ := doc_fold (t := t) (os := os) (docKeys t os) (rise_iff.1 h) hn (k1.imp fun h => Int.ne_of_lt h)
  refine ord_get d1 s1 d2 s2 fun k => ?_
  rw [show getO (docSettle t os) k = _ from d3 k, settle_get h]
  split
  · rfl
  · rename_i hk
    have hk2 := fun h9 => hk ((k2 k).2 h9)
    have e1 : getO os k = [] := getO_none fun o ho e => hk2 (.inl ((keysL_inc _).2 k |>.2 (by rw [List.mem_map]; exact ⟨o, ho, e⟩)))
    rw [e1]
    unfold listF
    rw [if_neg fun h9 => hk2 (.inr (keysT_mem.2 h9.2))]; rfl

theorem putTx_c (l : List TxD) (t : TxD) (hl : l.length ≤ 1000000) : FnP Tryz.prog 90 [.sl rTx l, .agg (rTx t)] (.sl rTx (putGR TxD.id t l false)) := by
  refine FnP.mk Tryz.func90 rfl Tryz.ntmps90 rfl ?_
  intro B a w F hB hfr hS
  refine wp_seq ?_
  refine region_q hS
    (cF rfl (oX 101 (.conv .t .agg)) r1 trivial
    (cF rfl (oN (.c rfl)) trivial trivial
    Chain.nil))
    hB ?_
  clear hS; intro a w F hS
  replace hS := hS.sub
  obtain ⟨F, hS⟩ := hS.nm [4, 3, 0] [101, 0] rfl rfl
  try dsimp only [RS.sub, SF.sub, CF.sub, csub, Anc.sub, List.map, zCF, rHist, rTx, rOrd, rVer, rInt, rOp] at hS
  generalize Act.tau a 3 = v3 at hS
  refine then_n (wp_seq ?_)
  refine region_q hS
    (cF rfl (oN (.c rfl)) trivial trivial
    Chain.nil)
    hB ?_
  clear hS; intro a w F hS
  obtain ⟨F, hS⟩ := hS.nm [5, 4, 3, 0] [101, 0] rfl rfl
  try dsimp only [rHist, rTx, rOrd, rVer, rInt, rOp] at hS
  refine then_n (wp_seq ?_)
  refine region_q hS
    (cF rfl (oN .cb) trivial trivial
    Chain.nil)
    hB ?_
  clear hS; intro a w F hS
  obtain ⟨F, hS⟩ := hS.nm [6, 5, 4, 3, 0] [101, 0] rfl rfl
  try dsimp only [rHist, rTx, rOrd, rVer, rInt, rOp] at hS
  refine then_n (wp_seq (wp_seq ?_))
  refine region_q hS
    (cF rfl (oM .t) r1 trivial
    (cF rfl (o_len_sl Tryz.underlying22 .t) r1 trivial
    (cF rfl (oM (.ci (by kernel_rfl))) trivial trivial
    Chain.nil)))
    hB ?_
  clear hS; intro a w F hS
  obtain ⟨F, hS⟩ := hS.nm [11, 10, 9, 6, 5, 4, 3] [101, 0] rfl rfl
  try dsimp only [rHist, rTx, rOrd, rVer, rInt, rOp] at hS
  refine then_n (wp_block ?_)
  replace hS := hS.fresh 50 rfl
  replace hS := hS.turn 50 rfl (nilRow (T := 32) (sz := 3) (R := rTx))
  refine loop_keep (σ := (Nat) × (Bool) × (Value) × (List TxD)) [3, 4, 9, 10] [0, 101] (fun s => [(11, .pv (.int .i64 (s.1 : Int))), (6, .pv (.bool s.2.1)), (5, .pv (.is s.2.2.1))]) (fun s => [(50, .ob (.val s.2.2.1) (rowH 32 3 rTx s.2.2.2))]) (fun s => s.1 ≤ l.length ∧ (s.2.2.2 ++ putGR TxD.id t (l.drop s.1) s.2.1 = putGR TxD.id t l false)) (fun s => l.length - s.1) ((0), (false), (.slice none 0 0), ([])) hS ⟨rfl, rfl, rfl, rfl, rfl, rfl, rfl, trivial⟩ ⟨rfl, rfl, rfl, trivial⟩ ⟨Nat.zero_le _, rfl⟩ ?_
  clear hS; intro s a w F hC hS
  obtain ⟨i, d, v, out⟩ := s
  try dsimp only at hC
  obtain ⟨F, hS⟩ := hS.nm [11, 10, 9, 6, 5, 4, 3] [101, 50, 0] rfl rfl
  try dsimp only at hS
  obtain ⟨hi, hq⟩ := hC
  have hol := congrArg List.length hq
  rw [List.length_append] at hol
  have htl : (putGR TxD.id t l false).length ≤ l.length + 1 := putGR_len l _
  refine wp_seq ?_
  refine region_q hS
    (cF rfl (o_lss .t .t) r2 trivial
    Chain.nil)
    hB ?_
  clear hS; intro a w F hS
  obtain ⟨F, hS⟩ := hS.nm [12, 11, 10, 9, 6, 5, 4, 3] [101, 50, 0] rfl rfl
  try dsimp only [rHist, rTx, rOrd, rVer, rInt, rOp] at hS
  refine then_n (wp_seq ?_)
  refine cond_b hS rfl (fun hc0 => ?_) (fun hc0 => ?_)
  ·skip
   have hil : i < l.length := by simp at hc0; omega
   refine wp_skip (then_n (wp_seq (wp_block (wp_seq ?_))))
   refine region_q hS
     (cF rfl (o_indexAddr_sl (sz := 3) (.mk Tryz.underlying22 (by kernel_rfl)) (by intro x; rfl) .t .t (by omega) (by omega)) r2 trivial
     (cF rfl (oR true 3 .t) r1 trivial
     (cF rfl (oH [.int .i64 0, .bool false, .slice none 0 0] 102) trivial trivial
     (cF rfl (oA 3 102 .same .t) r2 r1
     Chain.nil))))
     hB ?_
   clear hS; intro a w F hS
   replace hS := hS.sub
   obtain ⟨F, hS⟩ := hS.nm [14, 13, 12, 11, 10, 9, 8, 6, 5, 4, 3] [102, 101, 50, 0] rfl rfl
   try dsimp only [RS.sub, SF.sub, CF.sub, csub, Anc.sub, List.map, stCells, xL, xM, Nat.reduceAdd, xD, xE, xT, xU, xC, xN, zCF, ldSF, rHist, rTx, rOrd, rVer, rInt, rOp] at hS
   generalize Act.tau a 8 = v8 at hS
   try simp only [Int.toNat_natCast] at hS
   refine then_n (wp_seq (wp_seq ?_))
   refine region_q hS
     (cF rfl (oM .t) r1 trivial
     (cF rfl (o_not .t) r1 trivial
     (cF rfl (oM .t) r1 trivial
     (Chain.cons (Cert.cond rfl rfl (fun h => o_fieldAddr (off := 0) 102 .is (by kernel_rfl) (by rfl))) r2 r1
     (Chain.cons (Cert.cond rfl rfl (fun h => o_load (ag := false) (sz := 1) 102 (.w h .adr) (by kernel_rfl) (by kernel_rfl) (by kernel_rfl) (by rfl))) r2 r1
     (Chain.cons (Cert.cond rfl rfl (fun h => o_fieldAddr (off := 0) 101 .is (by kernel_rfl) (by rfl))) r2 r1
     (Chain.cons (Cert.cond rfl rfl (fun h => o_load (ag := false) (sz := 1) 101 (.w h .adr) (by kernel_rfl) (by kernel_rfl) (by kernel_rfl) (by rfl))) r2 r1
     (Chain.cons (Cert.cond rfl rfl (fun h => o_geq (.w h) (.w h))) r3 trivial
     (cF rfl (o_and2 .t .t) r2 trivial
     Chain.nil)))))))))
     hB ?_
   clear hS; intro a w F hS
   obtain ⟨F, hS⟩ := hS.nm [23, 22, 21, 20, 19, 18, 17, 16, 15, 14, 13, 12, 11, 10, 9, 8, 6, 5, 4, 3] [102, 101, 50, 0] rfl rfl
   try dsimp only [List.map, xD, xE, xT, xU, ldSF, rHist, rTx, rOrd, rVer, rInt, rOp] at hS
   refine then_n ?_
   refine cond_b hS rfl (fun hc1 => ?_) (fun hc1 => ?_)
   ·skip
    have hA : d = false ∧ TxD.id t ≤ TxD.id (Go.Gm.nth l i) := by simpa using hc1
    refine wp_seq ?_
    refine region_q hS
      (cF rfl (oM .t) r1 trivial
      (cF rfl (oL true 3 101 .is) r1 r1
      (cF rfl (o_buildSliceE (sz := 3) (zs := [.int .i64 0, .bool false, .slice none 0 0]) (r := [(0, .tmp 25)]) (l := [_, _, _]) Tryz.underlying22 (by kernel_rfl) (by kernel_rfl) (by kernel_rfl) (by kernel_rfl) rfl rfl (.agg rfl .t (by kernel_rfl) (by kernel_rfl) .nil) rfl) r1 trivial
      (cF rfl (o_append (sz := 3) (bs := 40) 50 (.mk' Tryz.underlying22 (by kernel_rfl) (by kernel_rfl)) (by intro x; rfl) .is (.arr (l' := [t]) .t) (by simp only [List.length_append, List.length_cons, List.length_nil]; omega) (by decide)) ⟨rfl, rfl, trivial⟩ ⟨rfl, trivial⟩
      (cF rfl (oN .t) r1 trivial
      Chain.nil)))))
      hB ?_
    clear hS; intro a w F hS
    replace hS := hS.sub
    obtain ⟨F, hS⟩ := hS.nm [27, 26, 25, 24, 23, 22, 21, 20, 19, 18, 17, 16, 15, 14, 13, 12, 11, 10, 9, 8, 6, 5, 4, 3] [102, 101, 50, 0] rfl rfl
    try dsimp only [RS.sub, SF.sub, CF.sub, csub, Anc.sub, List.map, stCells, xL, xM, Nat.reduceAdd, xD, xE, xT, xU, xC, xN, zCF, ldSF, rHist, rTx, rOrd, rVer, rInt, rOp] at hS
    generalize Act.tau a 27 = v27 at hS
    refine then_n ?_
    refine region_q hS
      (cF rfl (oN .cb) trivial trivial
      Chain.nil)
      hB ?_
    clear hS; intro a w F hS
    obtain ⟨F, hS⟩ := hS.nm [27, 26, 25, 24, 23, 22, 21, 20, 19, 18, 17, 16, 15, 14, 13, 12, 11, 10, 9, 8, 6, 5, 4, 3] [102, 101, 50, 0] rfl rfl
    try dsimp only [rHist, rTx, rOrd, rVer, rInt, rOp] at hS
    refine then_n (wp_seq ?_)
    refine region_q hS
      (cF rfl (oF 0 102 .is) r1 r1
      (cF rfl (oL false 1 102 .adr) r1 r1
      (cF rfl (oF 0 101 .is) r1 r1
      (cF rfl (oL false 1 101 .adr) r1 r1
      (cF rfl (o_neq .t .t) r2 trivial
      Chain.nil)))))
      hB ?_
    clear hS; intro a w F hS
    obtain ⟨F, hS⟩ := hS.nm [32, 31, 30, 29, 28, 27, 26, 25, 24, 23, 22, 21, 20, 19, 18, 17, 16, 15, 14, 13, 12, 11, 10, 9, 8, 6, 5, 4, 3] [102, 101, 50, 0] rfl rfl
    try dsimp only [List.map, xD, xE, xT, xU, ldSF, rHist, rTx, rOrd, rVer, rInt, rOp] at hS
    refine then_n ?_
    refine cond_b hS rfl (fun hc2 => ?_) (fun hc2 => ?_)
    ·skip
     have hBq : ¬ TxD.id (Go.Gm.nth l i) = TxD.id t := by simpa using hc2
     refine region_q hS
       (cF rfl (oM .t) r1 trivial
       (cF rfl (oL true 3 102 .is) r1 r1
       (cF rfl (o_buildSliceE (sz := 3) (zs := [.int .i64 0, .bool false, .slice none 0 0]) (r := [(0, .tmp 34)]) (l := [_, _, _]) Tryz.underlying22 (by kernel_rfl) (by kernel_rfl) (by kernel_rfl) (by kernel_rfl) rfl rfl (.agg rfl .t (by kernel_rfl) (by kernel_rfl) .nil) rfl) r1 trivial
       (cF rfl (o_append (sz := 3) (bs := 40) 50 (.mk' Tryz.underlying22 (by kernel_rfl) (by kernel_rfl)) (by intro x; rfl) .is (.arr (l' := [(Go.Gm.nth l i)]) .t) (by simp only [List.length_append, List.length_cons, List.length_nil]; omega) (by decide)) ⟨rfl, rfl, trivial⟩ ⟨rfl, trivial⟩
       (cF rfl (oN .t) r1 trivial
       Chain.nil)))))
       hB ?_
     clear hS; intro a w F hS
     replace hS := hS.sub
     obtain ⟨F, hS⟩ := hS.nm [36, 35, 34, 33, 32, 31, 30, 29, 28, 27, 26, 25, 24, 23, 22, 21, 20, 19, 18, 17, 16, 15, 14, 13, 12, 11, 10, 9, 8, 6, 5, 4, 3] [102, 101, 50, 0] rfl rfl
     try dsimp only [RS.sub, SF.sub, CF.sub, csub, Anc.sub, List.map, stCells, xL, xM, Nat.reduceAdd, xD, xE, xT, xU, xC, xN, zCF, ldSF, rHist, rTx, rOrd, rVer, rInt, rOp] at hS
     generalize Act.tau a 36 = v36 at hS
     refine block_n (then_n ?_)
     refine region_q hS
       (cF rfl (o_add .t (.ci (by kernel_rfl))) r1 trivial
       (cF rfl (oM .t) r1 trivial
       Chain.nil))
       hB ?_
     clear hS; intro a w F hS
     obtain ⟨F, hS⟩ := hS.nm [37, 36, 35, 34, 33, 32, 31, 30, 29, 28, 27, 26, 25, 24, 23, 22, 21, 20, 19, 18, 17, 16, 15, 14, 13, 12, 11, 10, 9, 8, 6, 5, 4, 3] [102, 101, 50, 0] rfl rfl
     try dsimp only [rHist, rTx, rOrd, rVer, rInt, rOp] at hS
     refine then_n ?_
     replace hS := hS.ent (i := 11) (s' := .pv (.int .i64 ((i + 1 : Nat) : Int))) rfl (.int (wrap_succ (by omega)))
     obtain ⟨F, hS⟩ := hS.nm [10, 9, 4, 3, 5, 6, 11] [101, 0, 50] rfl rfl
     exact ⟨((i + 1), _, _, _), F, ⟨by omega, (by rw [drop_nth hil] at hq; first | exact putGR_TT hA hBq hq | exact putGR_TF hA hBq hq | exact putGR_FT hA hBq hq | exact putGR_FF hA hBq hq)⟩, hS, by omega⟩
    have hBq : TxD.id (Go.Gm.nth l i) = TxD.id t := by simpa using hc2
    refine wp_skip (block_n (then_n ?_))
    refine region_q hS
      (cF rfl (o_add .t (.ci (by kernel_rfl))) r1 trivial
      (cF rfl (oM .t) r1 trivial
      Chain.nil))
      hB ?_
    clear hS; intro a w F hS
    obtain ⟨F, hS⟩ := hS.nm [37, 32, 31, 30, 29, 28, 27, 26, 25, 24, 23, 22, 21, 20, 19, 18, 17, 16, 15, 14, 13, 12, 11, 10, 9, 8, 6, 5, 4, 3] [102, 101, 50, 0] rfl rfl
    try dsimp only [rHist, rTx, rOrd, rVer, rInt, rOp] at hS
    refine then_n ?_
    replace hS := hS.ent (i := 11) (s' := .pv (.int .i64 ((i + 1 : Nat) : Int))) rfl (.int (wrap_succ (by omega)))
    obtain ⟨F, hS⟩ := hS.nm [10, 9, 4, 3, 5, 6, 11] [101, 0, 50] rfl rfl
    exact ⟨((i + 1), _, _, _), F, ⟨by omega, (by rw [drop_nth hil] at hq; first | exact putGR_TT hA hBq hq | exact putGR_TF hA hBq hq | exact putGR_FT hA hBq hq | exact putGR_FF hA hBq hq)⟩, hS, by omega⟩
   have hA : ¬ (d = false ∧ TxD.id t ≤ TxD.id (Go.Gm.nth l i)) := by rintro ⟨h1, h2⟩; subst h1; have h9 := hc1; simp at h9; omega
   refine wp_skip (then_n (wp_seq ?_))
   refine region_q hS
     (cF rfl (oF 0 102 .is) r1 r1
     (cF rfl (oL false 1 102 .adr) r1 r1
     (cF rfl (oF 0 101 .is) r1 r1
     (cF rfl (oL false 1 101 .adr) r1 r1
     (cF rfl (o_neq .t .t) r2 trivial
     Chain.nil)))))
     hB ?_
   clear hS; intro a w F hS
   obtain ⟨F, hS⟩ := hS.nm [32, 31, 30, 29, 28, 23, 22, 21, 20, 19, 18, 17, 16, 15, 14, 13, 12, 11, 10, 9, 8, 6, 5, 4, 3] [102, 101, 50, 0] rfl rfl
   try dsimp only [List.map, xD, xE, xT, xU, ldSF, rHist, rTx, rOrd, rVer, rInt, rOp] at hS
   refine then_n ?_
   refine cond_b hS rfl (fun hc3 => ?_) (fun hc3 => ?_)
   ·skip
    have hBq : ¬ TxD.id (Go.Gm.nth l i) = TxD.id t := by simpa using hc3
    refine region_q hS
      (cF rfl (oM .t) r1 trivial
      (cF rfl (oL true 3 102 .is) r1 r1
      (cF rfl (o_buildSliceE (sz := 3) (zs := [.int .i64 0, .bool false, .slice none 0 0]) (r := [(0, .tmp 34)]) (l := [_, _, _]) Tryz.underlying22 (by kernel_rfl) (by kernel_rfl) (by kernel_rfl) (by kernel_rfl) rfl rfl (.agg rfl .t (by kernel_rfl) (by kernel_rfl) .nil) rfl) r1 trivial
      (cF rfl (o_append (sz := 3) (bs := 40) 50 (.mk' Tryz.underlying22 (by kernel_rfl) (by kernel_rfl)) (by intro x; rfl) .is (.arr (l' := [(Go.Gm.nth l i)]) .t) (by simp only [List.length_append, List.length_cons, List.length_nil]; omega) (by decide)) ⟨rfl, rfl, trivial⟩ ⟨rfl, trivial⟩
      (cF rfl (oN .t) r1 trivial
      Chain.nil)))))
      hB ?_
    clear hS; intro a w F hS
    replace hS := hS.sub
    obtain ⟨F, hS⟩ := hS.nm [36, 35, 34, 33, 32, 31, 30, 29, 28, 23, 22, 21, 20, 19, 18, 17, 16, 15, 14, 13, 12, 11, 10, 9, 8, 6, 5, 4, 3] [102, 101, 50, 0] rfl rfl
    try dsimp only [RS.sub, SF.sub, CF.sub, csub, Anc.sub, List.map, stCells, xL, xM, Nat.reduceAdd, xD, xE, xT, xU, xC, xN, zCF, ldSF, rHist, rTx, rOrd, rVer, rInt, rOp] at hS
    generalize Act.tau a 36 = v36 at hS
    refine block_n (then_n ?_)
    refine region_q hS
      (cF rfl (o_add .t (.ci (by kernel_rfl))) r1 trivial
      (cF rfl (oM .t) r1 trivial
      Chain.nil))
      hB ?_
    clear hS; intro a w F hS
    obtain ⟨F, hS⟩ := hS.nm [37, 36, 35, 34, 33, 32, 31, 30, 29, 28, 23, 22, 21, 20, 19, 18, 17, 16, 15, 14, 13, 12, 11, 10, 9, 8, 6, 5, 4, 3] [102, 101, 50, 0] rfl rfl
    try dsimp only [rHist, rTx, rOrd, rVer, rInt, rOp] at hS
    refine then_n ?_
    replace hS := hS.ent (i := 11) (s' := .pv (.int .i64 ((i + 1 : Nat) : Int))) rfl (.int (wrap_succ (by omega)))
    obtain ⟨F, hS⟩ := hS.nm [10, 9, 4, 3, 5, 6, 11] [101, 0, 50] rfl rfl
    exact ⟨((i + 1), _, _, _), F, ⟨by omega, (by rw [drop_nth hil] at hq; first | exact putGR_TT hA hBq hq | exact putGR_TF hA hBq hq | exact putGR_FT hA hBq hq | exact putGR_FF hA hBq hq)⟩, hS, by omega⟩
   have hBq : TxD.id (Go.Gm.nth l i) = TxD.id t := by simpa using hc3
   refine wp_skip (block_n (then_n ?_))
   refine region_q hS
     (cF rfl (o_add .t (.ci (by kernel_rfl))) r1 trivial
     (cF rfl (oM .t) r1 trivial
     Chain.nil))
     hB ?_
   clear hS; intro a w F hS
   obtain ⟨F, hS⟩ := hS.nm [37, 32, 31, 30, 29, 28, 23, 22, 21, 20, 19, 18, 17, 16, 15, 14, 13, 12, 11, 10, 9, 8, 6, 5, 4, 3] [102, 101, 50, 0] rfl rfl
   try dsimp only [rHist, rTx, rOrd, rVer, rInt, rOp] at hS
   refine then_n ?_
   replace hS := hS.ent (i := 11) (s' := .pv (.int .i64 ((i + 1 : Nat) : Int))) rfl (.int (wrap_succ (by omega)))
   obtain ⟨F, hS⟩ := hS.nm [10, 9, 4, 3, 5, 6, 11] [101, 0, 50] rfl rfl
   exact ⟨((i + 1), _, _, _), F, ⟨by omega, (by rw [drop_nth hil] at hq; first | exact putGR_TT hA hBq hq | exact putGR_TF hA hBq hq | exact putGR_FT hA hBq hq | exact putGR_FF hA hBq hq)⟩, hS, by omega⟩
  have hil : i = l.length := by simp at hc0; omega
  refine wp_exit (then_x (then_x (block_x (then_n (wp_seq (wp_seq ?_))))))
  refine region_q hS
    (cF rfl (oM .t) r1 trivial
    (cF rfl (o_not .t) r1 trivial
    Chain.nil))
    hB ?_
  clear hS; intro a w F hS
  obtain ⟨F, hS⟩ := hS.nm [39, 5, 4, 3] [101, 50, 0] rfl rfl
  try dsimp only [rHist, rTx, rOrd, rVer, rInt, rOp] at hS
  refine then_n ?_
  refine cond_b hS rfl (fun hc4 => ?_) (fun hc4 => ?_)
  ·skip
   have hfin : out ++ [t] = putGR TxD.id t l false := by rw [hil, List.drop_length] at hq; cases d with | true => simp at hc4 | false => exact hq
   refine region_q hS
     (cF rfl (oM .t) r1 trivial
     (cF rfl (oL true 3 101 .is) r1 r1
     (cF rfl (o_buildSliceE (sz := 3) (zs := [.int .i64 0, .bool false, .slice none 0 0]) (r := [(0, .tmp 41)]) (l := [_, _, _]) Tryz.underlying22 (by kernel_rfl) (by kernel_rfl) (by kernel_rfl) (by kernel_rfl) rfl rfl (.agg rfl .t (by kernel_rfl) (by kernel_rfl) .nil) rfl) r1 trivial
     (cF rfl (o_append (sz := 3) (bs := 40) 50 (.mk' Tryz.underlying22 (by kernel_rfl) (by kernel_rfl)) (by intro x; rfl) .is (.arr (l' := [t]) .t) (by simp only [List.length_append, List.length_cons, List.length_nil]; omega) (by decide)) ⟨rfl, rfl, trivial⟩ ⟨rfl, trivial⟩
     (cF rfl (oN .t) r1 trivial
     Chain.nil)))))
     hB ?_
   clear hS; intro a w F hS
   replace hS := hS.sub
   obtain ⟨F, hS⟩ := hS.nm [5, 4] [101, 50, 0] rfl rfl
   try dsimp only [RS.sub, SF.sub, CF.sub, csub, Anc.sub, List.map, stCells, xL, xM, Nat.reduceAdd, xD, xE, xT, xU, xC, xN, zCF, ldSF, rHist, rTx, rOrd, rVer, rInt, rOp] at hS
   generalize Act.tau a 43 = v43 at hS
   refine then_n (wp_seq ?_)
   refine region_q hS
     (cF rfl (oM .t) r1 trivial
     (cF rfl (oN .t) r1 trivial
     Chain.nil))
     hB ?_
   clear hS; intro a w F hS
   obtain ⟨F, hS⟩ := hS.nm [4] [101, 50, 0] rfl rfl
   try dsimp only [rHist, rTx, rOrd, rVer, rInt, rOp] at hS
   refine then_n (wp_ret ?_)
   obtain ⟨F, hS⟩ := hS.give 50 4 rfl rfl
   refine ret_P hfr hS rfl (.tmp rfl .nil) (.one (.sl hfin))
  have hfin : out = putGR TxD.id t l false := by rw [hil, List.drop_length] at hq; cases d with | false => simp at hc4 | true => simpa [putGR] using hq
  refine wp_skip (then_n (wp_seq ?_))
  refine region_q hS
    (cF rfl (oM .t) r1 trivial
    (cF rfl (oN .t) r1 trivial
    Chain.nil))
    hB ?_
  clear hS; intro a w F hS
  obtain ⟨F, hS⟩ := hS.nm [4] [101, 50, 0] rfl rfl
  try dsimp only [rHist, rTx, rOrd, rVer, rInt, rOp] at hS
  refine then_n (wp_ret ?_)
  obtain ⟨F, hS⟩ := hS.give 50 4 rfl rfl
  refine ret_P hfr hS rfl (.tmp rfl .nil) (.one (.sl hfin))

theorem putOrder_c (l : List OrdD) (t : OrdD) (hl : l.length ≤ 1000000) : FnP Tryz.prog 93 [.sl rOrd l, .agg (rOrd t)] (.sl rOrd (putGR OrdD.key t l (decide (t.txs = [])))) := by
  refine FnP.mk Tryz.func93 rfl Tryz.ntmps93 rfl ?_
  intro B a w F hB hfr hS
  refine wp_seq ?_
  refine region_q hS
    (cF rfl (oX 101 (.conv .t .agg)) r1 trivial
    (cF rfl (oN (.c rfl)) trivial trivial
    Chain.nil))
    hB ?_
  clear hS; intro a w F hS
  replace hS := hS.sub
  obtain ⟨F, hS⟩ := hS.nm [4, 3, 0] [101, 0] rfl rfl
  try dsimp only [RS.sub, SF.sub, CF.sub, csub, Anc.sub, List.map, zCF, rHist, rTx, rOrd, rVer, rInt, rOp] at hS
  generalize Act.tau a 3 = v3 at hS
  refine then_n (wp_seq ?_)
  refine region_q hS
    (cF rfl (oN (.c rfl)) trivial trivial
    Chain.nil)
    hB ?_
  clear hS; intro a w F hS
  obtain ⟨F, hS⟩ := hS.nm [5, 4, 3, 0] [101, 0] rfl rfl
  try dsimp only [rHist, rTx, rOrd, rVer, rInt, rOp] at hS
  refine then_n (wp_seq ?_)
  refine region_q hS
    (cF rfl (oF 1 101 .is) r1 r1
    (cF rfl (oL false 1 101 .adr) r1 r1
    (cF rfl (o_len_sl Tryz.underlying37 .t) r1 trivial
    (cF rfl (o_eql .t (.ci (by kernel_rfl))) r1 trivial
    (cF rfl (oN .t) r1 trivial
    Chain.nil)))))
    hB ?_
  clear hS; intro a w F hS
  obtain ⟨F, hS⟩ := hS.nm [6, 5, 4, 3, 0] [101, 0] rfl rfl
  try dsimp only [List.map, xD, xE, xT, xU, ldSF, rHist, rTx, rOrd, rVer, rInt, rOp] at hS
  refine then_n (wp_seq (wp_seq ?_))
  refine region_q hS
    (cF rfl (oM .t) r1 trivial
    (cF rfl (o_len_sl Tryz.underlying23 .t) r1 trivial
    (cF rfl (oM (.ci (by kernel_rfl))) trivial trivial
    Chain.nil)))
    hB ?_
  clear hS; intro a w F hS
  obtain ⟨F, hS⟩ := hS.nm [15, 14, 13, 6, 5, 4, 3] [101, 0] rfl rfl
  try dsimp only [rHist, rTx, rOrd, rVer, rInt, rOp] at hS
  refine then_n (wp_block ?_)
  replace hS := hS.fresh 50 rfl
  replace hS := hS.turn 50 rfl (nilRow (T := 46) (sz := 2) (R := rOrd))
  replace hS := hS.ent (i := 6) (s' := .pv (.bool (decide (t.txs = [])))) rfl ((.bool (by rw [Bool.eq_iff_iff]; simp)))
  refine loop_keep (σ := (Nat) × (Bool) × (Value) × (List OrdD)) [3, 4, 13, 14] [0, 101] (fun s => [(15, .pv (.int .i64 (s.1 : Int))), (6, .pv (.bool s.2.1)), (5, .pv (.is s.2.2.1))]) (fun s => [(50, .ob (.val s.2.2.1) (rowH 46 2 rOrd s.2.2.2))]) (fun s => s.1 ≤ l.length ∧ (s.2.2.2 ++ putGR OrdD.key t (l.drop s.1) s.2.1 = putGR OrdD.key t l (decide (t.txs = [])))) (fun s => l.length - s.1) ((0), ((decide (t.txs = []))), (.slice none 0 0), ([])) hS ⟨rfl, rfl, rfl, rfl, rfl, rfl, rfl, trivial⟩ ⟨rfl, rfl, rfl, trivial⟩ ⟨Nat.zero_le _, rfl⟩ ?_
  clear hS; intro s a w F hC hS
  obtain ⟨i, d, v, out⟩ := s
  try dsimp only at hC
  obtain ⟨F, hS⟩ := hS.nm [15, 14, 13, 6, 5, 4, 3] [101, 50, 0] rfl rfl
  try dsimp only at hS
  obtain ⟨hi, hq⟩ := hC
  have hol := congrArg List.length hq
  rw [List.length_append] at hol
  have htl : (putGR OrdD.key t l (decide (t.txs = []))).length ≤ l.length + 1 := putGR_len l _
  refine wp_seq ?_
  refine region_q hS
    (cF rfl (o_lss .t .t) r2 trivial
    Chain.nil)
    hB ?_
  clear hS; intro a w F hS
  obtain ⟨F, hS⟩ := hS.nm [16, 15, 14, 13, 6, 5, 4, 3] [101, 50, 0] rfl rfl
  try dsimp only [rHist, rTx, rOrd, rVer, rInt, rOp] at hS
  refine then_n (wp_seq ?_)
  refine cond_b hS rfl (fun hc0 => ?_) (fun hc0 => ?_)
  ·skip
   have hil : i < l.length := by simp at hc0; omega
   refine wp_skip (then_n (wp_seq (wp_block (wp_seq ?_))))
   refine region_q hS
     (cF rfl (o_indexAddr_sl (sz := 2) (.mk Tryz.underlying23 (by kernel_rfl)) (by intro x; rfl) .t .t (by omega) (by omega)) r2 trivial
     (cF rfl (oR true 2 .t) r1 trivial
     (cF rfl (oH [.int .i64 0, .slice none 0 0] 102) trivial trivial
     (cF rfl (oA 2 102 .same .t) r2 r1
     Chain.nil))))
     hB ?_
   clear hS; intro a w F hS
   replace hS := hS.sub
   obtain ⟨F, hS⟩ := hS.nm [18, 17, 16, 15, 14, 13, 8, 6, 5, 4, 3] [102, 101, 50, 0] rfl rfl
   try dsimp only [RS.sub, SF.sub, CF.sub, csub, Anc.sub, List.map, stCells, xL, xM, Nat.reduceAdd, xD, xE, xT, xU, xC, xN, zCF, ldSF, rHist, rTx, rOrd, rVer, rInt, rOp] at hS
   generalize Act.tau a 8 = v8 at hS
   try simp only [Int.toNat_natCast] at hS
   refine then_n (wp_seq (wp_seq ?_))
   refine region_q hS
     (cF rfl (oM .t) r1 trivial
     (cF rfl (o_not .t) r1 trivial
     (cF rfl (oM .t) r1 trivial
     (Chain.cons (Cert.cond rfl rfl (fun h => o_fieldAddr (off := 0) 102 .is (by kernel_rfl) (by rfl))) r2 r1
     (Chain.cons (Cert.cond rfl rfl (fun h => o_load (ag := false) (sz := 1) 102 (.w h .adr) (by kernel_rfl) (by kernel_rfl) (by kernel_rfl) (by rfl))) r2 r1
     (Chain.cons (Cert.cond rfl rfl (fun h => o_fieldAddr (off := 0) 101 .is (by kernel_rfl) (by rfl))) r2 r1
     (Chain.cons (Cert.cond rfl rfl (fun h => o_load (ag := false) (sz := 1) 101 (.w h .adr) (by kernel_rfl) (by kernel_rfl) (by kernel_rfl) (by rfl))) r2 r1
     (Chain.cons (Cert.cond rfl rfl (fun h => o_geq (.w h) (.w h))) r3 trivial
     (cF rfl (o_and2 .t .t) r2 trivial
     Chain.nil)))))))))
     hB ?_
   clear hS; intro a w F hS
   obtain ⟨F, hS⟩ := hS.nm [27, 26, 25, 24, 23, 22, 21, 20, 19, 18, 17, 16, 15, 14, 13, 8, 6, 5, 4, 3] [102, 101, 50, 0] rfl rfl
   try dsimp only [List.map, xD, xE, xT, xU, ldSF, rHist, rTx, rOrd, rVer, rInt, rOp] at hS
   refine then_n ?_
   refine cond_b hS rfl (fun hc1 => ?_) (fun hc1 => ?_)
   ·skip
    have hA : d = false ∧ OrdD.key t ≤ OrdD.key (Go.Gm.nth l i) := by simpa using hc1
    refine wp_seq ?_
    refine region_q hS
      (cF rfl (oM .t) r1 trivial
      (cF rfl (oL true 2 101 .is) r1 r1
      (cF rfl (o_buildSliceE (sz := 2) (zs := [.int .i64 0, .slice none 0 0]) (r := [(0, .tmp 29)]) (l := [_, _]) Tryz.underlying23 (by kernel_rfl) (by kernel_rfl) (by kernel_rfl) (by kernel_rfl) rfl rfl (.agg rfl .t (by kernel_rfl) (by kernel_rfl) .nil) rfl) r1 trivial
      (cF rfl (o_append (sz := 2) (bs := 32) 50 (.mk' Tryz.underlying23 (by kernel_rfl) (by kernel_rfl)) (by intro x; rfl) .is (.arr (l' := [t]) .t) (by simp only [List.length_append, List.length_cons, List.length_nil]; omega) (by decide)) ⟨rfl, rfl, trivial⟩ ⟨rfl, trivial⟩
      (cF rfl (oN .t) r1 trivial
      Chain.nil)))))
      hB ?_
    clear hS; intro a w F hS
    replace hS := hS.sub
    obtain ⟨F, hS⟩ := hS.nm [31, 30, 29, 28, 27, 26, 25, 24, 23, 22, 21, 20, 19, 18, 17, 16, 15, 14, 13, 8, 6, 5, 4, 3] [102, 101, 50, 0] rfl rfl
    try dsimp only [RS.sub, SF.sub, CF.sub, csub, Anc.sub, List.map, stCells, xL, xM, Nat.reduceAdd, xD, xE, xT, xU, xC, xN, zCF, ldSF, rHist, rTx, rOrd, rVer, rInt, rOp] at hS
    generalize Act.tau a 31 = v31 at hS
    refine then_n ?_
    refine region_q hS
      (cF rfl (oN .cb) trivial trivial
      Chain.nil)
      hB ?_
    clear hS; intro a w F hS
    obtain ⟨F, hS⟩ := hS.nm [31, 30, 29, 28, 27, 26, 25, 24, 23, 22, 21, 20, 19, 18, 17, 16, 15, 14, 13, 8, 6, 5, 4, 3] [102, 101, 50, 0] rfl rfl
    try dsimp only [rHist, rTx, rOrd, rVer, rInt, rOp] at hS
    refine then_n (wp_seq ?_)
    refine region_q hS
      (cF rfl (oF 0 102 .is) r1 r1
      (cF rfl (oL false 1 102 .adr) r1 r1
      (cF rfl (oF 0 101 .is) r1 r1
      (cF rfl (oL false 1 101 .adr) r1 r1
      (cF rfl (o_neq .t .t) r2 trivial
      Chain.nil)))))
      hB ?_
    clear hS; intro a w F hS
    obtain ⟨F, hS⟩ := hS.nm [36, 35, 34, 33, 32, 31, 30, 29, 28, 27, 26, 25, 24, 23, 22, 21, 20, 19, 18, 17, 16, 15, 14, 13, 8, 6, 5, 4, 3] [102, 101, 50, 0] rfl rfl
    try dsimp only [List.map, xD, xE, xT, xU, ldSF, rHist, rTx, rOrd, rVer, rInt, rOp] at hS
    refine then_n ?_
    refine cond_b hS rfl (fun hc2 => ?_) (fun hc2 => ?_)
    ·skip
     have hBq : ¬ OrdD.key (Go.Gm.nth l i) = OrdD.key t := by simpa using hc2
     refine region_q hS
       (cF rfl (oM .t) r1 trivial
       (cF rfl (oL true 2 102 .is) r1 r1
       (cF rfl (o_buildSliceE (sz := 2) (zs := [.int .i64 0, .slice none 0 0]) (r := [(0, .tmp 38)]) (l := [_, _]) Tryz.underlying23 (by kernel_rfl) (by kernel_rfl) (by kernel_rfl) (by kernel_rfl) rfl rfl (.agg rfl .t (by kernel_rfl) (by kernel_rfl) .nil) rfl) r1 trivial
       (cF rfl (o_append (sz := 2) (bs := 32) 50 (.mk' Tryz.underlying23 (by kernel_rfl) (by kernel_rfl)) (by intro x; rfl) .is (.arr (l' := [(Go.Gm.nth l i)]) .t) (by simp only [List.length_append, List.length_cons, List.length_nil]; omega) (by decide)) ⟨rfl, rfl, trivial⟩ ⟨rfl, trivial⟩
       (cF rfl (oN .t) r1 trivial
       Chain.nil)))))
       hB ?_
     clear hS; intro a w F hS
     replace hS := hS.sub
     obtain ⟨F, hS⟩ := hS.nm [40, 39, 38, 37, 36, 35, 34, 33, 32, 31, 30, 29, 28, 27, 26, 25, 24, 23, 22, 21, 20, 19, 18, 17, 16, 15, 14, 13, 8, 6, 5, 4, 3] [102, 101, 50, 0] rfl rfl
     try dsimp only [RS.sub, SF.sub, CF.sub, csub, Anc.sub, List.map, stCells, xL, xM, Nat.reduceAdd, xD, xE, xT, xU, xC, xN, zCF, ldSF, rHist, rTx, rOrd, rVer, rInt, rOp] at hS
     generalize Act.tau a 40 = v40 at hS
     refine block_n (then_n ?_)
     refine region_q hS
       (cF rfl (o_add .t (.ci (by kernel_rfl))) r1 trivial
       (cF rfl (oM .t) r1 trivial
       Chain.nil))
       hB ?_
     clear hS; intro a w F hS
     obtain ⟨F, hS⟩ := hS.nm [41, 40, 39, 38, 37, 36, 35, 34, 33, 32, 31, 30, 29, 28, 27, 26, 25, 24, 23, 22, 21, 20, 19, 18, 17, 16, 15, 14, 13, 8, 6, 5, 4, 3] [102, 101, 50, 0] rfl rfl
     try dsimp only [rHist, rTx, rOrd, rVer, rInt, rOp] at hS
     refine then_n ?_
     replace hS := hS.ent (i := 15) (s' := .pv (.int .i64 ((i + 1 : Nat) : Int))) rfl (.int (wrap_succ (by omega)))
     obtain ⟨F, hS⟩ := hS.nm [14, 13, 4, 3, 5, 6, 15] [101, 0, 50] rfl rfl
     exact ⟨((i + 1), _, _, _), F, ⟨by omega, (by rw [drop_nth hil] at hq; first | exact putGR_TT hA hBq hq | exact putGR_TF hA hBq hq | exact putGR_FT hA hBq hq | exact putGR_FF hA hBq hq)⟩, hS, by omega⟩
    have hBq : OrdD.key (Go.Gm.nth l i) = OrdD.key t := by simpa using hc2
    refine wp_skip (block_n (then_n ?_))
    refine region_q hS
      (cF rfl (o_add .t (.ci (by kernel_rfl))) r1 trivial
      (cF rfl (oM .t) r1 trivial
      Chain.nil))
      hB ?_
    clear hS; intro a w F hS
    obtain ⟨F, hS⟩ := hS.nm [41, 36, 35, 34, 33, 32, 31, 30, 29, 28, 27, 26, 25, 24, 23, 22, 21, 20, 19, 18, 17, 16, 15, 14, 13, 8, 6, 5, 4, 3] [102, 101, 50, 0] rfl rfl
    try dsimp only [rHist, rTx, rOrd, rVer, rInt, rOp] at hS
    refine then_n ?_
    replace hS := hS.ent (i := 15) (s' := .pv (.int .i64 ((i + 1 : Nat) : Int))) rfl (.int (wrap_succ (by omega)))
    obtain ⟨F, hS⟩ := hS.nm [14, 13, 4, 3, 5, 6, 15] [101, 0, 50] rfl rfl
    exact ⟨((i + 1), _, _, _), F, ⟨by omega, (by rw [drop_nth hil] at hq; first | exact putGR_TT hA hBq hq | exact putGR_TF hA hBq hq | exact putGR_FT hA hBq hq | exact putGR_FF hA hBq hq)⟩, hS, by omega⟩
   have hA : ¬ (d = false ∧ OrdD.key t ≤ OrdD.key (Go.Gm.nth l i)) := by rintro ⟨h1, h2⟩; subst h1; have h9 := hc1; simp at h9; omega
   refine wp_skip (then_n (wp_seq ?_))
   refine region_q hS
     (cF rfl (oF 0 102 .is) r1 r1
     (cF rfl (oL false 1 102 .adr) r1 r1
     (cF rfl (oF 0 101 .is) r1 r1
     (cF rfl (oL false 1 101 .adr) r1 r1
     (cF rfl (o_neq .t .t) r2 trivial
     Chain.nil)))))
     hB ?_
   clear hS; intro a w F hS
   obtain ⟨F, hS⟩ := hS.nm [36, 35, 34, 33, 32, 27, 26, 25, 24, 23, 22, 21, 20, 19, 18, 17, 16, 15, 14, 13, 8, 6, 5, 4, 3] [102, 101, 50, 0] rfl rfl
   try dsimp only [List.map, xD, xE, xT, xU, ldSF, rHist, rTx, rOrd, rVer, rInt, rOp] at hS
   refine then_n ?_
   refine cond_b hS rfl (fun hc3 => ?_) (fun hc3 => ?_)
   ·skip
    have hBq : ¬ OrdD.key (Go.Gm.nth l i) = OrdD.key t := by simpa using hc3
    refine region_q hS
      (cF rfl (oM .t) r1 trivial
      (cF rfl (oL true 2 102 .is) r1 r1
      (cF rfl (o_buildSliceE (sz := 2) (zs := [.int .i64 0, .slice none 0 0]) (r := [(0, .tmp 38)]) (l := [_, _]) Tryz.underlying23 (by kernel_rfl) (by kernel_rfl) (by kernel_rfl) (by kernel_rfl) rfl rfl (.agg rfl .t (by kernel_rfl) (by kernel_rfl) .nil) rfl) r1 trivial
      (cF rfl (o_append (sz := 2) (bs := 32) 50 (.mk' Tryz.underlying23 (by kernel_rfl) (by kernel_rfl)) (by intro x; rfl) .is (.arr (l' := [(Go.Gm.nth l i)]) .t) (by simp only [List.length_append, List.length_cons, List.length_nil]; omega) (by decide)) ⟨rfl, rfl, trivial⟩ ⟨rfl, trivial⟩
      (cF rfl (oN .t) r1 trivial
      Chain.nil)))))
      hB ?_
    clear hS; intro a w F hS
    replace hS := hS.sub
    obtain ⟨F, hS⟩ := hS.nm [40, 39, 38, 37, 36, 35, 34, 33, 32, 27, 26, 25, 24, 23, 22, 21, 20, 19, 18, 17, 16, 15, 14, 13, 8, 6, 5, 4, 3] [102, 101, 50, 0] rfl rfl
    try dsimp only [RS.sub, SF.sub, CF.sub, csub, Anc.sub, List.map, stCells, xL, xM, Nat.reduceAdd, xD, xE, xT, xU, xC, xN, zCF, ldSF, rHist, rTx, rOrd, rVer, rInt, rOp] at hS
    generalize Act.tau a 40 = v40 at hS
    refine block_n (then_n ?_)
    refine region_q hS
      (cF rfl (o_add .t (.ci (by kernel_rfl))) r1 trivial
      (cF rfl (oM .t) r1 trivial
      Chain.nil))
      hB ?_
    clear hS; intro a w F hS
    obtain ⟨F, hS⟩ := hS.nm [41, 40, 39, 38, 37, 36, 35, 34, 33, 32, 27, 26, 25, 24, 23, 22, 21, 20, 19, 18, 17, 16, 15, 14, 13, 8, 6, 5, 4, 3] [102, 101, 50, 0] rfl rfl
    try dsimp only [rHist, rTx, rOrd, rVer, rInt, rOp] at hS
    refine then_n ?_
    replace hS := hS.ent (i := 15) (s' := .pv (.int .i64 ((i + 1 : Nat) : Int))) rfl (.int (wrap_succ (by omega)))
    obtain ⟨F, hS⟩ := hS.nm [14, 13, 4, 3, 5, 6, 15] [101, 0, 50] rfl rfl
    exact ⟨((i + 1), _, _, _), F, ⟨by omega, (by rw [drop_nth hil] at hq; first | exact putGR_TT hA hBq hq | exact putGR_TF hA hBq hq | exact putGR_FT hA hBq hq | exact putGR_FF hA hBq hq)⟩, hS, by omega⟩
   have hBq : OrdD.key (Go.Gm.nth l i) = OrdD.key t := by simpa using hc3
   refine wp_skip (block_n (then_n ?_))
   refine region_q hS
     (cF rfl (o_add .t (.ci (by kernel_rfl))) r1 trivial
     (cF rfl (oM .t) r1 trivial
     Chain.nil))
     hB ?_
   clear hS; intro a w F hS
   obtain ⟨F, hS⟩ := hS.nm [41, 36, 35, 34, 33, 32, 27, 26, 25, 24, 23, 22, 21, 20, 19, 18, 17, 16, 15, 14, 13, 8, 6, 5, 4, 3] [102, 101, 50, 0] rfl rfl
   try dsimp only [rHist, rTx, rOrd, rVer, rInt, rOp] at hS
   refine then_n ?_
   replace hS := hS.ent (i := 15) (s' := .pv (.int .i64 ((i + 1 : Nat) : Int))) rfl (.int (wrap_succ (by omega)))
   obtain ⟨F, hS⟩ := hS.nm [14, 13, 4, 3, 5, 6, 15] [101, 0, 50] rfl rfl
   exact ⟨((i + 1), _, _, _), F, ⟨by omega, (by rw [drop_nth hil] at hq; first | exact putGR_TT hA hBq hq | exact putGR_TF hA hBq hq | exact putGR_FT hA hBq hq | exact putGR_FF hA hBq hq)⟩, hS, by omega⟩
  have hil : i = l.length := by simp at hc0; omega
  refine wp_exit (then_x (then_x (block_x (then_n (wp_seq (wp_seq ?_))))))
  refine region_q hS
    (cF rfl (oM .t) r1 trivial
    (cF rfl (o_not .t) r1 trivial
    Chain.nil))
    hB ?_
  clear hS; intro a w F hS
  obtain ⟨F, hS⟩ := hS.nm [43, 5, 4, 3] [101, 50, 0] rfl rfl
  try dsimp only [rHist, rTx, rOrd, rVer, rInt, rOp] at hS
  refine then_n ?_
  refine cond_b hS rfl (fun hc4 => ?_) (fun hc4 => ?_)
  ·skip
   have hfin : out ++ [t] = putGR OrdD.key t l (decide (t.txs = [])) := by rw [hil, List.drop_length] at hq; cases d with | true => simp at hc4 | false => exact hq
   refine region_q hS
     (cF rfl (oM .t) r1 trivial
     (cF rfl (oL true 2 101 .is) r1 r1
     (cF rfl (o_buildSliceE (sz := 2) (zs := [.int .i64 0, .slice none 0 0]) (r := [(0, .tmp 45)]) (l := [_, _]) Tryz.underlying23 (by kernel_rfl) (by kernel_rfl) (by kernel_rfl) (by kernel_rfl) rfl rfl (.agg rfl .t (by kernel_rfl) (by kernel_rfl) .nil) rfl) r1 trivial
     (cF rfl (o_append (sz := 2) (bs := 32) 50 (.mk' Tryz.underlying23 (by kernel_rfl) (by kernel_rfl)) (by intro x; rfl) .is (.arr (l' := [t]) .t) (by simp only [List.length_append, List.length_cons, List.length_nil]; omega) (by decide)) ⟨rfl, rfl, trivial⟩ ⟨rfl, trivial⟩
     (cF rfl (oN .t) r1 trivial
     Chain.nil)))))
     hB ?_
   clear hS; intro a w F hS
   replace hS := hS.sub
   obtain ⟨F, hS⟩ := hS.nm [5, 4] [101, 50, 0] rfl rfl
   try dsimp only [RS.sub, SF.sub, CF.sub, csub, Anc.sub, List.map, stCells, xL, xM, Nat.reduceAdd, xD, xE, xT, xU, xC, xN, zCF, ldSF, rHist, rTx, rOrd, rVer, rInt, rOp] at hS
   generalize Act.tau a 47 = v47 at hS
   refine then_n (wp_seq ?_)
   refine region_q hS
     (cF rfl (oM .t) r1 trivial
     (cF rfl (oN .t) r1 trivial
     Chain.nil))
     hB ?_
   clear hS; intro a w F hS
   obtain ⟨F, hS⟩ := hS.nm [4] [101, 50, 0] rfl rfl
   try dsimp only [rHist, rTx, rOrd, rVer, rInt, rOp] at hS
   refine then_n (wp_ret ?_)
   obtain ⟨F, hS⟩ := hS.give 50 4 rfl rfl
   refine ret_P hfr hS rfl (.tmp rfl .nil) (.one (.sl hfin))
  have hfin : out = putGR OrdD.key t l (decide (t.txs = [])) := by rw [hil, List.drop_length] at hq; cases d with | false => simp at hc4 | true => simpa [putGR] using hq
  refine wp_skip (then_n (wp_seq ?_))
  refine region_q hS
    (cF rfl (oM .t) r1 trivial
    (cF rfl (oN .t) r1 trivial
    Chain.nil))
    hB ?_
  clear hS; intro a w F hS
  obtain ⟨F, hS⟩ := hS.nm [4] [101, 50, 0] rfl rfl
  try dsimp only [rHist, rTx, rOrd, rVer, rInt, rOp] at hS
  refine then_n (wp_ret ?_)
  obtain ⟨F, hS⟩ := hS.give 50 4 rfl rfl
  refine ret_P hfr hS rfl (.tmp rfl .nil) (.one (.sl hfin))

theorem getO_at {os : List OrdD} {k : Int} {i : Nat} (hi : i < os.length) (h : (Go.Gm.nth os i).key = k) (hq : ∀ q, q < i → (Go.Gm.nth os q).key ≠ k) : getO os k = (Go.Gm.nth os i).txs := by
  unfold getO
  rw [List.find?_eq_some_iff_getElem.2 ⟨by simpa using h, i, hi, (nth_eq hi).symm, fun j hj => by have := hq j hj; rw [nth_eq (by omega)] at this; simpa using this⟩]; rfl
theorem getO_no {os : List OrdD} {k : Int} (hq : ∀ q, q < os.length → (Go.Gm.nth os q).key ≠ k) : getO os k = [] := getO_none fun o ho => by
  obtain ⟨j, hj, e⟩ := List.getElem_of_mem ho
  have := hq j hj
  rwa [nth_eq hj, e] at this
theorem getO_len {os : List OrdD} (h : SmallO os) (k : Int) : (getO os k).length ≤ 1000 := by
  by_cases e : getO os k = []
  · rw [e]; simp
  · exact h.2 _ (getO_in e)
theorem docF_len {t : TxD} {os : List OrdD} : ∀ (ks : List Int) (out : List OrdD), (ks.foldl (docStep t os) out).length ≤ out.length + ks.length
  | [], out => by simp
  | k :: ks, out => by
    have h1 := docF_len (t := t) (os := os) ks (docStep t os out k)
    have h2 : (docStep t os out k).length ≤ out.length + 1 := putGR_len _ _
    rw [List.foldl_cons, List.length_cons]; omega

theorem refOrder_c (g : HistD) (key : Int) : FnP Tryz.prog 16 [.agg (rHist g), .int .i64 key] (.sl rInt (getO g.orders key)) := by
  refine FnP.mk Tryz.func16 rfl Tryz.ntmps16 rfl ?_
  intro B a w F hB hfr hS
  obtain ⟨hxl, hyl⟩ := Sat.lenHist hS (i := 0) rfl
  refine wp_seq ?_
  refine region_q hS
    (cF rfl (oX 101 (.conv .t .agg)) r1 trivial
    (cF rfl (oN (.c rfl)) trivial trivial
    Chain.nil))
    hB ?_
  clear hS; intro a w F hS
  replace hS := hS.sub
  obtain ⟨F, hS⟩ := hS.nm [4, 2, 1] [101, 0] rfl rfl
  try dsimp only [RS.sub, SF.sub, CF.sub, csub, Anc.sub, List.map, zCF, rHist, rTx, rOrd, rVer, rInt, rOp] at hS
  generalize Act.tau a 2 = v2 at hS
  refine then_n (wp_seq (wp_seq ?_))
  refine region_q hS
    (cF rfl (oF 1 101 .is) r1 r1
    (cF rfl (oL false 1 101 .adr) r1 r1
    (cF rfl (o_len_sl Tryz.underlying23 .t) r1 trivial
    (cF rfl (oM (.ci (by kernel_rfl))) trivial trivial
    Chain.nil))))
    hB ?_
  clear hS; intro a w F hS
  obtain ⟨F, hS⟩ := hS.nm [10, 9, 8, 4, 1] [101, 0] rfl rfl
  try dsimp only [List.map, xD, xE, xT, xU, ldSF, rHist, rTx, rOrd, rVer, rInt, rOp] at hS
  refine then_n (wp_block ?_)
  refine loop_keep (σ := (Nat)) [1, 4, 8, 9] [0, 101] (fun s => [(10, .pv (.int .i64 (s : Int)))]) (fun s => []) (fun s => s ≤ g.orders.length ∧ (∀ q, q < s → (Go.Gm.nth g.orders q).key ≠ key)) (fun s => g.orders.length - s) (0) hS ⟨rfl, rfl, rfl, rfl, rfl, trivial⟩ ⟨rfl, rfl, trivial⟩ ⟨Nat.zero_le _, fun q hq => absurd hq (Nat.not_lt_zero q)⟩ ?_
  clear hS; intro i a w F hC hS
  try dsimp only at hC
  obtain ⟨F, hS⟩ := hS.nm [10, 9, 8, 4, 1] [101, 0] rfl rfl
  try dsimp only at hS
  obtain ⟨hi, hq⟩ := hC
  refine wp_seq ?_
  refine region_q hS
    (cF rfl (o_lss .t .t) r2 trivial
    Chain.nil)
    hB ?_
  clear hS; intro a w F hS
  obtain ⟨F, hS⟩ := hS.nm [11, 10, 9, 8, 4, 1] [101, 0] rfl rfl
  try dsimp only [rHist, rTx, rOrd, rVer, rInt, rOp] at hS
  refine then_n (wp_seq ?_)
  refine cond_b hS rfl (fun hc0 => ?_) (fun hc0 => ?_)
  ·skip
   have hil : i < g.orders.length := by simp at hc0; omega
   refine wp_skip (then_n (wp_seq (wp_block (wp_seq ?_))))
   refine region_q hS
     (cF rfl (o_indexAddr_sl (sz := 2) (.mk Tryz.underlying23 (by kernel_rfl)) (by intro x; rfl) .t .t (by omega) (by omega)) r2 trivial
     (cF rfl (oR true 2 .t) r1 trivial
     (cF rfl (oH [.int .i64 0, .slice none 0 0] 102) trivial trivial
     (cF rfl (oA 2 102 .same .t) r2 r1
     Chain.nil))))
     hB ?_
   clear hS; intro a w F hS
   replace hS := hS.sub
   obtain ⟨F, hS⟩ := hS.nm [13, 12, 11, 10, 9, 8, 6, 4, 1] [102, 101, 0] rfl rfl
   try dsimp only [RS.sub, SF.sub, CF.sub, csub, Anc.sub, List.map, stCells, xL, xM, Nat.reduceAdd, xD, xE, xT, xU, xC, xN, zCF, ldSF, rHist, rTx, rOrd, rVer, rInt, rOp] at hS
   generalize Act.tau a 6 = v6 at hS
   try simp only [Int.toNat_natCast] at hS
   refine then_n (wp_seq ?_)
   refine region_q hS
     (cF rfl (oF 0 102 .is) r1 r1
     (cF rfl (oL false 1 102 .adr) r1 r1
     (cF rfl (oM .t) r1 trivial
     (cF rfl (o_eql .t .t) r2 trivial
     Chain.nil))))
     hB ?_
   clear hS; intro a w F hS
   obtain ⟨F, hS⟩ := hS.nm [17, 16, 15, 14, 13, 12, 11, 10, 9, 8, 6, 4, 1] [102, 101, 0] rfl rfl
   try dsimp only [List.map, xD, xE, xT, xU, ldSF, rHist, rTx, rOrd, rVer, rInt, rOp] at hS
   refine then_n ?_
   refine cond_b hS rfl (fun hc1 => ?_) (fun hc1 => ?_)
   ·skip
    have hg : (Go.Gm.nth g.orders i).txs = getO g.orders key := (getO_at hil (by simpa using hc1) hq).symm
    refine wp_seq ?_
    refine region_q hS
      (cF rfl (oF 1 102 .is) r1 r1
      (cF rfl (oL false 1 102 .adr) r1 r1
      (cF rfl (oN .t) r1 trivial
      Chain.nil)))
      hB ?_
    clear hS; intro a w F hS
    obtain ⟨F, hS⟩ := hS.nm [19, 18, 17, 16, 15, 14, 13, 12, 11, 10, 9, 8, 6, 4, 1] [102, 101, 0] rfl rfl
    try dsimp only [List.map, xD, xE, xT, xU, ldSF, rHist, rTx, rOrd, rVer, rInt, rOp] at hS
    refine then_n (wp_ret (block_r (then_r (then_r (block_r (then_r ?_))))))
    refine ret_P hfr hS rfl (.tmp rfl .nil) (.one (by first | exact .sl hg | (rw [← hg]; exact .nilSl)))
   have hne : (Go.Gm.nth g.orders i).key ≠ key := by simpa using hc1
   refine wp_skip (block_n (then_n ?_))
   refine region_q hS
     (cF rfl (o_add .t (.ci (by kernel_rfl))) r1 trivial
     (cF rfl (oM .t) r1 trivial
     Chain.nil))
     hB ?_
   clear hS; intro a w F hS
   obtain ⟨F, hS⟩ := hS.nm [20, 17, 16, 15, 14, 13, 12, 11, 10, 9, 8, 6, 4, 1] [102, 101, 0] rfl rfl
   try dsimp only [rHist, rTx, rOrd, rVer, rInt, rOp] at hS
   refine then_n ?_
   replace hS := hS.ent (i := 10) (s' := .pv (.int .i64 ((i + 1 : Nat) : Int))) rfl (.int (wrap_succ (by omega)))
   obtain ⟨F, hS⟩ := hS.nm [9, 8, 4, 1, 10] [101, 0] rfl rfl
   exact ⟨(i + 1), F, ⟨by omega, (fun q h9 => by rcases Nat.lt_or_eq_of_le (Nat.le_of_lt_succ h9) with h8 | h8; exact hq q h8; rw [h8]; exact hne)⟩, hS, by omega⟩
  have hil : i = g.orders.length := by simp at hc0; omega
  have hg : [] = getO g.orders key := (getO_no (by rw [← hil]; exact hq)).symm
  refine wp_exit (then_x (then_x (block_x (then_n (wp_seq ?_)))))
  refine region_q hS
    (cF rfl (oN (.c rfl)) trivial trivial
    Chain.nil)
    hB ?_
  clear hS; intro a w F hS
  obtain ⟨F, hS⟩ := hS.nm [4] [101, 0] rfl rfl
  try dsimp only [rHist, rTx, rOrd, rVer, rInt, rOp] at hS
  refine then_n (wp_ret ?_)
  refine ret_P hfr hS rfl (.tmp rfl .nil) (.one (by first | exact .sl hg | (rw [← hg]; exact .nilSl)))

theorem refSettle_c (os : List OrdD) (t : TxD) (hs : SmallO os) (ht : t.ops.length ≤ 1000) : FnP Tryz.prog 91 [.sl rOrd os, .agg (rTx t)] (.sl rOrd (docSettle t os)) := by
  refine FnP.mk Tryz.func91 rfl Tryz.ntmps91 rfl ?_
  intro B a w F hB hfr hS
  have hso := hs.1
  have hkt := keysT_len t
  refine wp_seq ?_
  refine region_q hS
    (cF rfl (oX 101 (.conv .t .agg)) r1 trivial
    (cF rfl (oN (.c rfl)) trivial trivial
    Chain.nil))
    hB ?_
  clear hS; intro a w F hS
  replace hS := hS.sub
  obtain ⟨F, hS⟩ := hS.nm [4, 3, 0] [101, 0] rfl rfl
  try dsimp only [RS.sub, SF.sub, CF.sub, csub, Anc.sub, List.map, zCF, rHist, rTx, rOrd, rVer, rInt, rOp] at hS
  generalize Act.tau a 3 = v3 at hS
  refine then_n (wp_seq ?_)
  refine region_q hS
    (cF rfl (oN (.c rfl)) trivial trivial
    Chain.nil)
    hB ?_
  clear hS; intro a w F hS
  obtain ⟨F, hS⟩ := hS.nm [5, 4, 3, 0] [101, 0] rfl rfl
  try dsimp only [rHist, rTx, rOrd, rVer, rInt, rOp] at hS
  refine then_n (wp_seq (wp_seq ?_))
  refine region_q hS
    (cF rfl (oM .t) r1 trivial
    (cF rfl (o_len_sl Tryz.underlying23 .t) r1 trivial
    (cF rfl (oM (.ci (by kernel_rfl))) trivial trivial
    Chain.nil)))
    hB ?_
  clear hS; intro a w F hS
  obtain ⟨F, hS⟩ := hS.nm [16, 15, 14, 5, 4, 3, 0] [101, 0] rfl rfl
  try dsimp only [rHist, rTx, rOrd, rVer, rInt, rOp] at hS
  refine then_n (wp_block ?_)
  replace hS := hS.ent (i := 5) (s' := .pv (.sl rInt (((os.map OrdD.key).take 0).foldl putI []))) rfl (.nilSl)
  refine loop_keep (σ := (Nat)) [0, 3, 4, 14, 15] [0, 101] (fun s => [(16, .pv (.int .i64 (s : Int))), (5, .pv (.sl rInt (((os.map OrdD.key).take s).foldl putI [])))]) (fun s => []) (fun s => s ≤ os.length ∧ (True)) (fun s => os.length - s) (0) hS ⟨rfl, rfl, rfl, rfl, rfl, rfl, rfl, trivial⟩ ⟨rfl, rfl, trivial⟩ ⟨Nat.zero_le _, trivial⟩ ?_
  clear hS; intro i a w F hC hS
  try dsimp only at hC
  obtain ⟨F, hS⟩ := hS.nm [16, 15, 14, 5, 4, 3, 0] [101, 0] rfl rfl
  try dsimp only at hS
  obtain ⟨hi, hq⟩ := hC
  have hkl := keysF_len [] ((os.map OrdD.key).take i)
  rw [List.length_take] at hkl
  simp only [List.length_nil, Nat.zero_add] at hkl
  refine wp_seq ?_
  refine region_q hS
    (cF rfl (o_lss .t .t) r2 trivial
    Chain.nil)
    hB ?_
  clear hS; intro a w F hS
  obtain ⟨F, hS⟩ := hS.nm [17, 16, 15, 14, 5, 4, 3, 0] [101, 0] rfl rfl
  try dsimp only [rHist, rTx, rOrd, rVer, rInt, rOp] at hS
  refine then_n (wp_seq ?_)
  refine cond_b hS rfl (fun hc0 => ?_) (fun hc0 => ?_)
  ·skip
   have hil : i < os.length := by simp at hc0; omega
   refine wp_skip (then_n (wp_seq (wp_block (wp_seq ?_))))
   refine region_q hS
     (cF rfl (o_indexAddr_sl (sz := 2) (.mk Tryz.underlying23 (by kernel_rfl)) (by intro x; rfl) .t .t (by omega) (by omega)) r2 trivial
     (cF rfl (oR true 2 .t) r1 trivial
     (cF rfl (oH [.int .i64 0, .slice none 0 0] 102) trivial trivial
     (cF rfl (oA 2 102 .same .t) r2 r1
     Chain.nil))))
     hB ?_
   clear hS; intro a w F hS
   replace hS := hS.sub
   obtain ⟨F, hS⟩ := hS.nm [19, 18, 17, 16, 15, 14, 7, 5, 4, 3, 0] [102, 101, 0] rfl rfl
   try dsimp only [RS.sub, SF.sub, CF.sub, csub, Anc.sub, List.map, stCells, xL, xM, Nat.reduceAdd, xD, xE, xT, xU, xC, xN, zCF, ldSF, rHist, rTx, rOrd, rVer, rInt, rOp] at hS
   generalize Act.tau a 7 = v7 at hS
   try simp only [Int.toNat_natCast] at hS
   refine then_n ?_
   refine region_q hS
     (cF rfl (oM .t) r1 trivial
     (cF rfl (oF 0 102 .is) r1 r1
     (cF rfl (oL false 1 102 .adr) r1 r1
     (cF rfl (oP (refPut_c _ (Go.Gm.nth os i).key (by omega)) Tryz.func87 (Args.two .t .t)) r2 trivial
     (cF rfl (oN .t) r1 trivial
     Chain.nil)))))
     hB ?_
   clear hS; intro a w F hS
   obtain ⟨F, hS⟩ := hS.nm [23, 22, 21, 20, 19, 18, 17, 16, 15, 14, 7, 5, 4, 3, 0] [102, 101, 0] rfl rfl
   try dsimp only [List.map, xD, xE, xT, xU, ldSF, rHist, rTx, rOrd, rVer, rInt, rOp] at hS
   refine block_n (then_n ?_)
   refine region_q hS
     (cF rfl (o_add .t (.ci (by kernel_rfl))) r1 trivial
     (cF rfl (oM .t) r1 trivial
     Chain.nil))
     hB ?_
   clear hS; intro a w F hS
   obtain ⟨F, hS⟩ := hS.nm [24, 23, 22, 21, 20, 19, 18, 17, 16, 15, 14, 7, 5, 4, 3, 0] [102, 101, 0] rfl rfl
   try dsimp only [rHist, rTx, rOrd, rVer, rInt, rOp] at hS
   refine then_n ?_
   replace hS := hS.ent (i := 16) (s' := .pv (.int .i64 ((i + 1 : Nat) : Int))) rfl (.int (wrap_succ (by omega)))
   replace hS := hS.ent (i := 5) (s' := .pv (.sl rInt (((os.map OrdD.key).take (i + 1)).foldl putI []))) rfl ((.sl (by rw [take_nth (by simpa using hil), List.foldl_append, nth_map hil]; rfl)))
   obtain ⟨F, hS⟩ := hS.nm [15, 14, 4, 3, 0, 5, 16] [101, 0] rfl rfl
   exact ⟨(i + 1), F, ⟨by omega, trivial⟩, hS, by omega⟩
  have hil : i = os.length := by simp at hc0; omega
  have hk0 : (((os.map OrdD.key).take i).foldl putI []) = keysL (os.map OrdD.key) := by rw [hil, List.take_of_length_le (by simp)]; rfl
  have hk00 := keysL_len (os.map OrdD.key)
  rw [List.length_map] at hk00
  refine wp_exit (then_x (then_x (block_x (then_n (wp_seq (wp_seq ?_))))))
  refine region_q hS
    (cF rfl (oL true 3 101 .is) r1 r1
    (cF rfl (oP (rkeys_c t false (by omega)) Tryz.func86 (Args.two (.pagg .t) .cb)) r1 trivial
    (cF rfl (o_len_sl Tryz.underlying37 .t) r1 trivial
    (cF rfl (oM (.ci (by kernel_rfl))) trivial trivial
    Chain.nil))))
    hB ?_
  clear hS; intro a w F hS
  obtain ⟨F, hS⟩ := hS.nm [28, 27, 26, 5, 4, 3, 0] [101, 0] rfl rfl
  try dsimp only [List.map, xD, xE, xT, xU, ldSF, rHist, rTx, rOrd, rVer, rInt, rOp] at hS
  rw [show keysL ((t.ops.filter fun o => false || !o.read).map OpD.key) = keysT t from rfl] at hS
  refine then_n (wp_block ?_)
  replace hS := hS.ent (i := 5) (s' := .pv (.sl rInt (((keysT t).take 0).foldl putI (keysL (os.map OrdD.key))))) rfl ((.sl hk0))
  refine loop_keep (σ := (Nat)) [0, 3, 4, 26, 27] [0, 101] (fun s => [(28, .pv (.int .i64 (s : Int))), (5, .pv (.sl rInt (((keysT t).take s).foldl putI (keysL (os.map OrdD.key)))))]) (fun s => []) (fun s => s ≤ (keysT t).length ∧ (True)) (fun s => (keysT t).length - s) (0) hS ⟨rfl, rfl, rfl, rfl, rfl, rfl, rfl, trivial⟩ ⟨rfl, rfl, trivial⟩ ⟨Nat.zero_le _, trivial⟩ ?_
  clear hS; intro i a w F hC hS
  try dsimp only at hC
  obtain ⟨F, hS⟩ := hS.nm [28, 27, 26, 5, 4, 3, 0] [101, 0] rfl rfl
  try dsimp only at hS
  obtain ⟨hi, hq⟩ := hC
  have hkl := keysF_len (keysL (os.map OrdD.key)) ((keysT t).take i)
  rw [List.length_take] at hkl
  refine wp_seq ?_
  refine region_q hS
    (cF rfl (o_lss .t .t) r2 trivial
    Chain.nil)
    hB ?_
  clear hS; intro a w F hS
  obtain ⟨F, hS⟩ := hS.nm [29, 28, 27, 26, 5, 4, 3, 0] [101, 0] rfl rfl
  try dsimp only [rHist, rTx, rOrd, rVer, rInt, rOp] at hS
  refine then_n (wp_seq ?_)
  refine cond_b hS rfl (fun hc1 => ?_) (fun hc1 => ?_)
  ·skip
   have hil : i < (keysT t).length := by simp at hc1; omega
   refine wp_skip (then_n (wp_seq (wp_block (wp_seq ?_))))
   refine region_q hS
     (cF rfl (o_indexAddr_sl (sz := 1) (.mk Tryz.underlying37 (by kernel_rfl)) (by intro x; rfl) .t .t (by omega) (by omega)) r2 trivial
     (cF rfl (oR false 1 .t) r1 trivial
     (cF rfl (oN .t) r1 trivial
     Chain.nil)))
     hB ?_
   clear hS; intro a w F hS
   obtain ⟨F, hS⟩ := hS.nm [31, 30, 29, 28, 27, 26, 9, 5, 4, 3, 0] [101, 0] rfl rfl
   try dsimp only [List.map, xD, xE, xT, xU, ldSF, rHist, rTx, rOrd, rVer, rInt, rOp] at hS
   try simp only [Int.toNat_natCast] at hS
   refine then_n ?_
   refine region_q hS
     (cF rfl (oM .t) r1 trivial
     (cF rfl (oM .t) r1 trivial
     (cF rfl (oP (refPut_c _ (Go.Gm.nth (keysT t) i) (by omega)) Tryz.func87 (Args.two .t .t)) r2 trivial
     (cF rfl (oN .t) r1 trivial
     Chain.nil))))
     hB ?_
   clear hS; intro a w F hS
   obtain ⟨F, hS⟩ := hS.nm [34, 33, 32, 31, 30, 29, 28, 27, 26, 9, 5, 4, 3, 0] [101, 0] rfl rfl
   try dsimp only [rHist, rTx, rOrd, rVer, rInt, rOp] at hS
   refine block_n (then_n ?_)
   refine region_q hS
     (cF rfl (o_add .t (.ci (by kernel_rfl))) r1 trivial
     (cF rfl (oM .t) r1 trivial
     Chain.nil))
     hB ?_
   clear hS; intro a w F hS
   obtain ⟨F, hS⟩ := hS.nm [35, 34, 33, 32, 31, 30, 29, 28, 27, 26, 9, 5, 4, 3, 0] [101, 0] rfl rfl
   try dsimp only [rHist, rTx, rOrd, rVer, rInt, rOp] at hS
   refine then_n ?_
   replace hS := hS.ent (i := 28) (s' := .pv (.int .i64 ((i + 1 : Nat) : Int))) rfl (.int (wrap_succ (by omega)))
   replace hS := hS.ent (i := 5) (s' := .pv (.sl rInt (((keysT t).take (i + 1)).foldl putI (keysL (os.map OrdD.key))))) rfl ((.sl (by rw [take_nth hil, List.foldl_append]; rfl)))
   obtain ⟨F, hS⟩ := hS.nm [27, 26, 4, 3, 0, 5, 28] [101, 0] rfl rfl
   exact ⟨(i + 1), F, ⟨by omega, trivial⟩, hS, by omega⟩
  have hil : i = (keysT t).length := by simp at hc1; omega
  rw [hil, List.take_length] at hS
  rw [show (keysT t).foldl putI (keysL (os.map OrdD.key)) = docKeys t os from rfl] at hS
  have hdk : (docKeys t os).length ≤ 2000 := by have := keysF_len (keysL (os.map OrdD.key)) (keysT t); unfold docKeys; omega
  refine wp_exit (then_x (then_x (block_x (then_n (wp_seq ?_)))))
  refine region_q hS
    (cF rfl (oM .t) r1 trivial
    (cF rfl (oN .t) r1 trivial
    Chain.nil))
    hB ?_
  clear hS; intro a w F hS
  obtain ⟨F, hS⟩ := hS.nm [10, 5, 4, 3, 0] [101, 0] rfl rfl
  try dsimp only [rHist, rTx, rOrd, rVer, rInt, rOp] at hS
  refine then_n (wp_seq (wp_seq ?_))
  refine region_q hS
    (cF rfl (oM .t) r1 trivial
    (cF rfl (o_len_sl Tryz.underlying37 .t) r1 trivial
    (cF rfl (oM (.ci (by kernel_rfl))) trivial trivial
    Chain.nil)))
    hB ?_
  clear hS; intro a w F hS
  obtain ⟨F, hS⟩ := hS.nm [39, 38, 37, 10, 4, 3, 0] [101, 0] rfl rfl
  try dsimp only [rHist, rTx, rOrd, rVer, rInt, rOp] at hS
  refine then_n (wp_block ?_)
  replace hS := hS.ent (i := 10) (s' := .pv (.sl rOrd (((docKeys t os).take 0).foldl (docStep t os) os))) rfl (.refl)
  refine loop_keep (σ := (Nat)) [0, 3, 4, 37, 38] [0, 101] (fun s => [(39, .pv (.int .i64 (s : Int))), (10, .pv (.sl rOrd (((docKeys t os).take s).foldl (docStep t os) os)))]) (fun s => []) (fun s => s ≤ (docKeys t os).length ∧ (True)) (fun s => (docKeys t os).length - s) (0) hS ⟨rfl, rfl, rfl, rfl, rfl, rfl, rfl, trivial⟩ ⟨rfl, rfl, trivial⟩ ⟨Nat.zero_le _, trivial⟩ ?_
  clear hS; intro i a w F hC hS
  try dsimp only at hC
  obtain ⟨F, hS⟩ := hS.nm [39, 38, 37, 10, 4, 3, 0] [101, 0] rfl rfl
  try dsimp only at hS
  obtain ⟨hi, hq⟩ := hC
  have hdl := docF_len (t := t) (os := os) ((docKeys t os).take i) os
  rw [List.length_take] at hdl
  refine wp_seq ?_
  refine region_q hS
    (cF rfl (o_lss .t .t) r2 trivial
    Chain.nil)
    hB ?_
  clear hS; intro a w F hS
  obtain ⟨F, hS⟩ := hS.nm [40, 39, 38, 37, 10, 4, 3, 0] [101, 0] rfl rfl
  try dsimp only [rHist, rTx, rOrd, rVer, rInt, rOp] at hS
  refine then_n (wp_seq ?_)
  refine cond_b hS rfl (fun hc2 => ?_) (fun hc2 => ?_)
  ·skip
   have hil : i < (docKeys t os).length := by simp at hc2; omega
   have hio := hil
   have hgl := getO_len hs (Go.Gm.nth (docKeys t os) i)
   refine wp_skip (then_n (wp_seq (wp_block (wp_seq ?_))))
   refine region_q hS
     (cF rfl (o_indexAddr_sl (sz := 1) (.mk Tryz.underlying37 (by kernel_rfl)) (by intro x; rfl) .t .t (by omega) (by omega)) r2 trivial
     (cF rfl (oR false 1 .t) r1 trivial
     (cF rfl (oN .t) r1 trivial
     Chain.nil)))
     hB ?_
   clear hS; intro a w F hS
   obtain ⟨F, hS⟩ := hS.nm [42, 41, 40, 39, 38, 37, 12, 10, 4, 3, 0] [101, 0] rfl rfl
   try dsimp only [List.map, xD, xE, xT, xU, ldSF, rHist, rTx, rOrd, rVer, rInt, rOp] at hS
   try simp only [Int.toNat_natCast] at hS
   refine then_n (wp_seq ?_)
   refine region_q hS
     (cF rfl (oM .t) r1 trivial
     (cF rfl (oB [(1, .tmp 43)] [.slice none 0 0, .slice none 0 0] [(0, 1), (1, 1)] (.one rfl .t one_sl (by kernel_rfl) .nil)) r1 trivial
     (cF rfl (oM .t) r1 trivial
     (cF rfl (oP (refOrder_c ⟨[], os⟩ (Go.Gm.nth (docKeys t os) i)) Tryz.func16 (Args.two (.conv (.pagg .t) (Ent.paggLe (l := [.is (.slice none 0 0), .sl rOrd os]) (l' := rHist ⟨[], os⟩) ⟨PVLe.nilSl, PVLe.refl, trivial⟩)) .t)) r2 trivial
     (cF rfl (oN .t) r1 trivial
     Chain.nil)))))
     hB ?_
   clear hS; intro a w F hS
   obtain ⟨F, hS⟩ := hS.nm [46, 45, 44, 43, 42, 41, 40, 39, 38, 37, 13, 12, 10, 4, 3, 0] [101, 0] rfl rfl
   try dsimp only [List.map, stCells, xL, xM, Nat.reduceAdd, xD, xE, xT, xU, xC, xN, zCF, rHist, rTx, rOrd, rVer, rInt, rOp] at hS
   refine then_n (wp_seq ?_)
   refine region_q hS
     (cF rfl (oF 1 101 .is) r1 r1
     (cF rfl (oL false 1 101 .adr) r1 r1
     (cF rfl (oM .t) r1 trivial
     (Chain.cons (Cert.cond rfl rfl (fun h => o_fieldAddr (off := 2) 101 .is (by kernel_rfl) (by rfl))) r2 r1
     (Chain.cons (Cert.cond rfl rfl (fun h => o_load (ag := false) (sz := 1) 101 (.w h .adr) (by kernel_rfl) (by kernel_rfl) (by kernel_rfl) (by rfl))) r2 r1
     (Chain.cons (Cert.cond rfl rfl (fun h => o_move .t (by rfl))) r2 trivial
     (Chain.cons (Cert.cond rfl rfl (fun h => o_callP (rwrites_c t.ops (Go.Gm.nth (docKeys t os) i) (by omega)) Tryz.func50 rfl (by kernel_rfl) (Args.two (.w h) (.w h)))) r3 trivial
     (Chain.cons (Cert.cond rfl rfl (fun h => o_gtr (.w h) (.ci (by kernel_rfl)))) r2 trivial
     (cF rfl (o_and2 .t .t) r2 trivial
     Chain.nil)))))))))
     hB ?_
   clear hS; intro a w F hS
   obtain ⟨F, hS⟩ := hS.nm [55, 54, 53, 52, 51, 50, 49, 48, 47, 46, 45, 44, 43, 42, 41, 40, 39, 38, 37, 13, 12, 10, 4, 3, 0] [101, 0] rfl rfl
   try dsimp only [List.map, xD, xE, xT, xU, ldSF, rHist, rTx, rOrd, rVer, rInt, rOp] at hS
   refine then_n ?_
   refine cond_b hS rfl (fun hc3 => ?_) (fun hc3 => ?_)
   ·skip
    have hst9 : putGR OrdD.key (⟨(Go.Gm.nth (docKeys t os) i), withO (getO os (Go.Gm.nth (docKeys t os) i)) t.id⟩ : OrdD) (((docKeys t os).take i).foldl (docStep t os) os) (decide (((⟨(Go.Gm.nth (docKeys t os) i), withO (getO os (Go.Gm.nth (docKeys t os) i)) t.id⟩ : OrdD)).txs = [])) = (((docKeys t os).take (i + 1)).foldl (docStep t os) os) := by rw [take_nth hio, List.foldl_append]; show _ = docStep t os _ _; unfold docStep listF; rw [if_pos (by have h9 := hc3; unfold wcnt; simpa using h9)]
    refine region_q hS
      (cF rfl (oM .t) r1 trivial
      (cF rfl (oM .t) r1 trivial
      (cF rfl (oM .t) r1 trivial
      (cF rfl (oF 0 101 .is) r1 r1
      (cF rfl (oL false 1 101 .adr) r1 r1
      (cF rfl (oP (with11_c (getO os (Go.Gm.nth (docKeys t os) i)) t.id (by omega)) Tryz.func121 (Args.two .t .t)) r2 trivial
      (cF rfl (oB [(0, .tmp 57), (1, .tmp 61)] [.int .i64 0, .slice none 0 0] [(0, 1), (1, 1)] (.one rfl .t one_int (by kernel_rfl) (.one rfl .t one_sl (by kernel_rfl) .nil))) r2 trivial
      (cF rfl (oP (putOrder_c (((docKeys t os).take i).foldl (docStep t os) os) (⟨(Go.Gm.nth (docKeys t os) i), withO (getO os (Go.Gm.nth (docKeys t os) i)) t.id⟩ : OrdD) (by omega)) Tryz.func93 (Args.two .t (.pagg .t))) r2 trivial
      (cF rfl (oN .t) r1 trivial
      Chain.nil)))))))))
      hB ?_
    clear hS; intro a w F hS
    obtain ⟨F, hS⟩ := hS.nm [63, 62, 61, 60, 59, 58, 57, 56, 55, 54, 53, 52, 51, 50, 49, 48, 47, 46, 45, 44, 43, 42, 41, 40, 39, 38, 37, 13, 12, 10, 4, 3, 0] [101, 0] rfl rfl
    try dsimp only [List.map, stCells, xL, xM, Nat.reduceAdd, xD, xE, xT, xU, xC, xN, zCF, ldSF, rHist, rTx, rOrd, rVer, rInt, rOp] at hS
    refine block_n (then_n ?_)
    refine region_q hS
      (cF rfl (o_add .t (.ci (by kernel_rfl))) r1 trivial
      (cF rfl (oM .t) r1 trivial
      Chain.nil))
      hB ?_
    clear hS; intro a w F hS
    obtain ⟨F, hS⟩ := hS.nm [72, 63, 62, 61, 60, 59, 58, 57, 56, 55, 54, 53, 52, 51, 50, 49, 48, 47, 46, 45, 44, 43, 42, 41, 40, 39, 38, 37, 13, 12, 10, 4, 3, 0] [101, 0] rfl rfl
    try dsimp only [rHist, rTx, rOrd, rVer, rInt, rOp] at hS
    refine then_n ?_
    replace hS := hS.ent (i := 39) (s' := .pv (.int .i64 ((i + 1 : Nat) : Int))) rfl (.int (wrap_succ (by omega)))
    replace hS := hS.ent (i := 10) (s' := .pv (.sl rOrd (((docKeys t os).take (i + 1)).foldl (docStep t os) os))) rfl ((.sl hst9))
    obtain ⟨F, hS⟩ := hS.nm [38, 37, 4, 3, 0, 10, 39] [101, 0] rfl rfl
    exact ⟨(i + 1), F, ⟨by omega, trivial⟩, hS, by omega⟩
   have hst9 : putGR OrdD.key (⟨(Go.Gm.nth (docKeys t os) i), withoutO (getO os (Go.Gm.nth (docKeys t os) i)) t.id⟩ : OrdD) (((docKeys t os).take i).foldl (docStep t os) os) (decide (((⟨(Go.Gm.nth (docKeys t os) i), withoutO (getO os (Go.Gm.nth (docKeys t os) i)) t.id⟩ : OrdD)).txs = [])) = (((docKeys t os).take (i + 1)).foldl (docStep t os) os) := by rw [take_nth hio, List.foldl_append]; show _ = docStep t os _ _; unfold docStep listF; rw [if_neg (by have h9 := hc3; unfold wcnt; intro e; simp [e.1, e.2] at h9)]
   refine region_q hS
     (cF rfl (oM .t) r1 trivial
     (cF rfl (oM .t) r1 trivial
     (cF rfl (oM .t) r1 trivial
     (cF rfl (oF 0 101 .is) r1 r1
     (cF rfl (oL false 1 101 .adr) r1 r1
     (cF rfl (oP (without11_c (getO os (Go.Gm.nth (docKeys t os) i)) t.id (by omega)) Tryz.func122 (Args.two .t .t)) r2 trivial
     (cF rfl (oB [(0, .tmp 65), (1, .tmp 69)] [.int .i64 0, .slice none 0 0] [(0, 1), (1, 1)] (.one rfl .t one_int (by kernel_rfl) (.one rfl .t one_sl (by kernel_rfl) .nil))) r2 trivial
     (cF rfl (oP (putOrder_c (((docKeys t os).take i).foldl (docStep t os) os) (⟨(Go.Gm.nth (docKeys t os) i), withoutO (getO os (Go.Gm.nth (docKeys t os) i)) t.id⟩ : OrdD) (by omega)) Tryz.func93 (Args.two .t (.pagg .t))) r2 trivial
     (cF rfl (oN .t) r1 trivial
     Chain.nil)))))))))
     hB ?_
   clear hS; intro a w F hS
   obtain ⟨F, hS⟩ := hS.nm [71, 70, 69, 68, 67, 66, 65, 64, 55, 54, 53, 52, 51, 50, 49, 48, 47, 46, 45, 44, 43, 42, 41, 40, 39, 38, 37, 13, 12, 10, 4, 3, 0] [101, 0] rfl rfl
   try dsimp only [List.map, stCells, xL, xM, Nat.reduceAdd, xD, xE, xT, xU, xC, xN, zCF, ldSF, rHist, rTx, rOrd, rVer, rInt, rOp] at hS
   refine block_n (then_n ?_)
   refine region_q hS
     (cF rfl (o_add .t (.ci (by kernel_rfl))) r1 trivial
     (cF rfl (oM .t) r1 trivial
     Chain.nil))
     hB ?_
   clear hS; intro a w F hS
   obtain ⟨F, hS⟩ := hS.nm [72, 71, 70, 69, 68, 67, 66, 65, 64, 55, 54, 53, 52, 51, 50, 49, 48, 47, 46, 45, 44, 43, 42, 41, 40, 39, 38, 37, 13, 12, 10, 4, 3, 0] [101, 0] rfl rfl
   try dsimp only [rHist, rTx, rOrd, rVer, rInt, rOp] at hS
   refine then_n ?_
   replace hS := hS.ent (i := 39) (s' := .pv (.int .i64 ((i + 1 : Nat) : Int))) rfl (.int (wrap_succ (by omega)))
   replace hS := hS.ent (i := 10) (s' := .pv (.sl rOrd (((docKeys t os).take (i + 1)).foldl (docStep t os) os))) rfl ((.sl hst9))
   obtain ⟨F, hS⟩ := hS.nm [38, 37, 4, 3, 0, 10, 39] [101, 0] rfl rfl
   exact ⟨(i + 1), F, ⟨by omega, trivial⟩, hS, by omega⟩
  have hil : i = (docKeys t os).length := by simp at hc2; omega
  refine wp_exit (then_x (then_x (block_x (then_n (wp_seq ?_)))))
  refine region_q hS
    (cF rfl (oM .t) r1 trivial
    (cF rfl (oN .t) r1 trivial
    Chain.nil))
    hB ?_
  clear hS; intro a w F hS
  obtain ⟨F, hS⟩ := hS.nm [4] [101, 0] rfl rfl
  try dsimp only [rHist, rTx, rOrd, rVer, rInt, rOp] at hS
  refine then_n (wp_ret ?_)
  refine ret_P hfr hS rfl (.tmp rfl .nil) (.one (.sl (by rw [hil, List.take_length]; rfl)))

theorem refUsed_c (g : HistD) (t : TxD) (hs : SmallT g.txs) (ht : t.ops.length ≤ 1000) : FnP Tryz.prog 92 [.agg (rHist g), .agg (rTx t)] (.bool (usedH g t)) := by
  refine FnP.mk Tryz.func92 rfl Tryz.ntmps92 rfl ?_
  intro B a w F hB hfr hS
  have hsl := hs.1
  have hnl : ∀ x : TxD, x.ops.length ≤ 1000 → (needsT x).length ≤ 1000 := fun x hx => by have := needsL_len x.id x.ops x.ops.length; rw [List.take_length] at this; unfold needsT; omega
  refine wp_seq ?_
  refine region_q hS
    (cF rfl (oX 101 (.conv .t .agg)) r1 trivial
    (cF rfl (oX 102 (.conv .t .agg)) r1 trivial
    (cF rfl (oN .cb) trivial trivial
    Chain.nil)))
    hB ?_
  clear hS; intro a w F hS
  replace hS := hS.sub
  obtain ⟨F, hS⟩ := hS.nm [4, 3, 2] [102, 101, 0] rfl rfl
  try dsimp only [RS.sub, SF.sub, CF.sub, csub, Anc.sub, List.map, zCF, rHist, rTx, rOrd, rVer, rInt, rOp] at hS
  generalize Act.tau a 2 = v2 at hS
  generalize Act.tau a 3 = v3 at hS
  refine then_n (wp_seq (wp_seq ?_))
  refine region_q hS
    (cF rfl (oF 0 101 .is) r1 r1
    (cF rfl (oL false 1 101 .adr) r1 r1
    (cF rfl (o_len_sl Tryz.underlying22 .t) r1 trivial
    (cF rfl (oM (.ci (by kernel_rfl))) trivial trivial
    Chain.nil))))
    hB ?_
  clear hS; intro a w F hS
  obtain ⟨F, hS⟩ := hS.nm [12, 11, 10, 4, 3] [102, 101, 0] rfl rfl
  try dsimp only [List.map, xD, xE, xT, xU, ldSF, rHist, rTx, rOrd, rVer, rInt, rOp] at hS
  refine then_n (wp_block ?_)
  refine loop_keep (σ := (Nat)) [3, 4, 10, 11] [0, 101, 102] (fun s => [(12, .pv (.int .i64 (s : Int)))]) (fun s => []) (fun s => s ≤ g.txs.length ∧ (∀ q, q < s → usedX t (Go.Gm.nth g.txs q) = false)) (fun s => g.txs.length - s) (0) hS ⟨rfl, rfl, rfl, rfl, rfl, trivial⟩ ⟨rfl, rfl, rfl, trivial⟩ ⟨Nat.zero_le _, fun q hq => absurd hq (Nat.not_lt_zero q)⟩ ?_
  clear hS; intro i a w F hC hS
  try dsimp only at hC
  obtain ⟨F, hS⟩ := hS.nm [12, 11, 10, 4, 3] [102, 101, 0] rfl rfl
  try dsimp only at hS
  obtain ⟨hi, hq⟩ := hC
  refine wp_seq ?_
  refine region_q hS
    (cF rfl (o_lss .t .t) r2 trivial
    Chain.nil)
    hB ?_
  clear hS; intro a w F hS
  obtain ⟨F, hS⟩ := hS.nm [13, 12, 11, 10, 4, 3] [102, 101, 0] rfl rfl
  try dsimp only [rHist, rTx, rOrd, rVer, rInt, rOp] at hS
  refine then_n (wp_seq ?_)
  refine cond_b hS rfl (fun hc0 => ?_) (fun hc0 => ?_)
  ·skip
   have hil : i < g.txs.length := by simp at hc0; omega
   have hio := hil
   have hqo := hq
   have hnl2 := hnl (Go.Gm.nth g.txs i) (by have := hs.at hio; omega)
   refine wp_skip (then_n (wp_seq (wp_block (wp_seq ?_))))
   refine region_q hS
     (cF rfl (o_indexAddr_sl (sz := 3) (.mk Tryz.underlying22 (by kernel_rfl)) (by intro x; rfl) .t .t (by omega) (by omega)) r2 trivial
     (cF rfl (oR true 3 .t) r1 trivial
     (cF rfl (oH [.int .i64 0, .bool false, .slice none 0 0] 103) trivial trivial
     (cF rfl (oA 3 103 .same .t) r2 r1
     Chain.nil))))
     hB ?_
   clear hS; intro a w F hS
   replace hS := hS.sub
   obtain ⟨F, hS⟩ := hS.nm [15, 14, 13, 12, 11, 10, 6, 4, 3] [103, 102, 101, 0] rfl rfl
   try dsimp only [RS.sub, SF.sub, CF.sub, csub, Anc.sub, List.map, stCells, xL, xM, Nat.reduceAdd, xD, xE, xT, xU, xC, xN, zCF, ldSF, rHist, rTx, rOrd, rVer, rInt, rOp] at hS
   generalize Act.tau a 6 = v6 at hS
   try simp only [Int.toNat_natCast] at hS
   refine then_n (wp_seq (wp_seq ?_))
   refine region_q hS
     (cF rfl (oF 0 103 .is) r1 r1
     (cF rfl (oL false 1 103 .adr) r1 r1
     (cF rfl (oF 0 102 .is) r1 r1
     (cF rfl (oL false 1 102 .adr) r1 r1
     (cF rfl (o_eql .t .t) r2 trivial
     Chain.nil)))))
     hB ?_
   clear hS; intro a w F hS
   obtain ⟨F, hS⟩ := hS.nm [20, 19, 18, 17, 16, 15, 14, 13, 12, 11, 10, 6, 4, 3] [103, 102, 101, 0] rfl rfl
   try dsimp only [List.map, xD, xE, xT, xU, ldSF, rHist, rTx, rOrd, rVer, rInt, rOp] at hS
   refine then_n ?_
   refine cond_b hS rfl (fun hc1 => ?_) (fun hc1 => ?_)
   ·skip
    have hno : usedX t (Go.Gm.nth g.txs i) = false := by unfold usedX; rw [decide_eq_false (by simpa using hc1), Bool.false_and]
    refine wp_exit (then_x (block_x (then_n ?_)))
    refine region_q hS
      (cF rfl (o_add .t (.ci (by kernel_rfl))) r1 trivial
      (cF rfl (oM .t) r1 trivial
      Chain.nil))
      hB ?_
    clear hS; intro a w F hS
    obtain ⟨F, hS⟩ := hS.nm [44, 20, 19, 18, 17, 16, 15, 14, 13, 12, 11, 10, 6, 4, 3] [103, 102, 101, 0] rfl rfl
    try dsimp only [rHist, rTx, rOrd, rVer, rInt, rOp] at hS
    refine then_n ?_
    replace hS := hS.ent (i := 12) (s' := .pv (.int .i64 ((i + 1 : Nat) : Int))) rfl (.int (wrap_succ (by omega)))
    obtain ⟨F, hS⟩ := hS.nm [11, 10, 4, 3, 12] [102, 101, 0] rfl rfl
    exact ⟨(i + 1), F, ⟨by omega, (fun q h9 => by rcases Nat.lt_or_eq_of_le (Nat.le_of_lt_succ h9) with h8 | h8; exact hqo q h8; rw [h8]; exact hno)⟩, hS, by omega⟩
   have hne : (Go.Gm.nth g.txs i).id ≠ t.id := by simpa using hc1
   refine wp_skip (then_n (wp_seq ?_))
   refine region_q hS
     (cF rfl (oL true 3 103 .is) r1 r1
     (cF rfl (oP (refNeeds_c (Go.Gm.nth g.txs i) (by have := hs.at hio; omega)) Tryz.func85 (Args.one (.pagg .t))) r1 trivial
     (cF rfl (o_len_sl Tryz.underlying99 .t) r1 trivial
     (cF rfl (oM (.ci (by kernel_rfl))) trivial trivial
     Chain.nil))))
     hB ?_
   clear hS; intro a w F hS
   obtain ⟨F, hS⟩ := hS.nm [24, 23, 22, 21, 20, 19, 18, 17, 16, 15, 14, 13, 12, 11, 10, 6, 4, 3] [103, 102, 101, 0] rfl rfl
   try dsimp only [List.map, xD, xE, xT, xU, ldSF, rHist, rTx, rOrd, rVer, rInt, rOp] at hS
   refine then_n (wp_block ?_)
   refine loop_keep (σ := (Nat)) [3, 4, 6, 10, 11, 12, 13, 14, 15, 16, 17, 18, 19, 20, 21, 22, 23] [0, 101, 102, 103] (fun s => [(24, .pv (.int .i64 (s : Int)))]) (fun s => []) (fun s => s ≤ (needsT (Go.Gm.nth g.txs i)).length ∧ (∀ q, q < s → usedV t (Go.Gm.nth (needsT (Go.Gm.nth g.txs i)) q) = false)) (fun s => (needsT (Go.Gm.nth g.txs i)).length - s) (0) hS ⟨rfl, rfl, rfl, rfl, rfl, rfl, rfl, rfl, rfl, rfl, rfl, rfl, rfl, rfl, rfl, rfl, rfl, rfl, trivial⟩ ⟨rfl, rfl, rfl, rfl, trivial⟩ ⟨Nat.zero_le _, fun q hq => absurd hq (Nat.not_lt_zero q)⟩ ?_
   clear hS; intro j a w F hC hS
   try dsimp only at hC
   obtain ⟨F, hS⟩ := hS.nm [24, 23, 22, 21, 20, 19, 18, 17, 16, 15, 14, 13, 12, 11, 10, 6, 4, 3] [103, 102, 101, 0] rfl rfl
   try dsimp only at hS
   obtain ⟨hi, hq⟩ := hC
   have hq2 := hq
   refine wp_seq ?_
   refine region_q hS
     (cF rfl (o_lss .t .t) r2 trivial
     Chain.nil)
     hB ?_
   clear hS; intro a w F hS
   obtain ⟨F, hS⟩ := hS.nm [25, 24, 23, 22, 21, 20, 19, 18, 17, 16, 15, 14, 13, 12, 11, 10, 6, 4, 3] [103, 102, 101, 0] rfl rfl
   try dsimp only [rHist, rTx, rOrd, rVer, rInt, rOp] at hS
   refine then_n (wp_seq ?_)
   refine cond_b hS rfl (fun hc2 => ?_) (fun hc2 => ?_)
   ·skip
    have hil : j < (needsT (Go.Gm.nth g.txs i)).length := by simp at hc2; omega
    have hjo := hil
    refine wp_skip (then_n (wp_seq (wp_block (wp_seq ?_))))
    refine region_q hS
      (cF rfl (o_indexAddr_sl (sz := 3) (.mk Tryz.underlying99 (by kernel_rfl)) (by intro x; rfl) .t .t (by omega) (by omega)) r2 trivial
      (cF rfl (oR true 3 .t) r1 trivial
      (cF rfl (oH [.int .i64 0, .int .i64 0, .int .i64 0] 104) trivial trivial
      (cF rfl (oA 3 104 .same .t) r2 r1
      Chain.nil))))
      hB ?_
    clear hS; intro a w F hS
    replace hS := hS.sub
    obtain ⟨F, hS⟩ := hS.nm [27, 26, 25, 24, 23, 22, 21, 20, 19, 18, 17, 16, 15, 14, 13, 12, 11, 10, 8, 6, 4, 3] [104, 103, 102, 101, 0] rfl rfl
    try dsimp only [RS.sub, SF.sub, CF.sub, csub, Anc.sub, List.map, stCells, xL, xM, Nat.reduceAdd, xD, xE, xT, xU, xC, xN, zCF, ldSF, rHist, rTx, rOrd, rVer, rInt, rOp] at hS
    generalize Act.tau a 8 = v8 at hS
    try simp only [Int.toNat_natCast] at hS
    refine then_n (wp_seq ?_)
    refine region_any (by kernel_rfl) hS (by kernel_rfl)
      (cF rfl (oF 0 104 .is) r1 r1
      (cF rfl (oL false 1 104 .adr) r1 r1
      (cF rfl (oF 0 102 .is) r1 r1
      (cF rfl (oL false 1 102 .adr) r1 r1
      (cF rfl (o_eql .t .t) r2 trivial
      (cF rfl (oM .t) r1 trivial
      (Chain.cons (Cert.cond rfl rfl (fun h => o_fieldAddr (off := 2) 104 .is (by kernel_rfl) (by rfl))) r2 r1
      (Chain.cons (Cert.cond rfl rfl (fun h => o_load (ag := false) (sz := 1) 104 (.w h .adr) (by kernel_rfl) (by kernel_rfl) (by kernel_rfl) (by rfl))) r2 r1
      (Chain.cons (Cert.cond rfl rfl (fun h => o_fieldAddr (off := 2) 102 .is (by kernel_rfl) (by rfl))) r2 r1
      (Chain.cons (Cert.cond rfl rfl (fun h => o_load (ag := false) (sz := 1) 102 (.w h .adr) (by kernel_rfl) (by kernel_rfl) (by kernel_rfl) (by rfl))) r2 r1
      (Chain.cons (Cert.cond rfl rfl (fun h => o_fieldAddr (off := 1) 104 .is (by kernel_rfl) (by rfl))) r2 r1
      (Chain.cons (Cert.cond rfl rfl (fun h => o_load (ag := false) (sz := 1) 104 (.w h .adr) (by kernel_rfl) (by kernel_rfl) (by kernel_rfl) (by rfl))) r2 r1
      (Chain.cons (Cert.cond rfl rfl (fun h => o_callP (rwrites_c t.ops (Go.Gm.nth (needsT (Go.Gm.nth g.txs i)) j).key (by omega)) Tryz.func50 rfl (by kernel_rfl) (Args.two (.w h) (.w h)))) r3 trivial
      (Chain.cons (Cert.cond rfl rfl (fun h => o_gtr (.w h) (.w h))) r3 trivial
      (cF rfl (o_and2 .t .t) r2 trivial
      Chain.nil)))))))))))))))
      (by kernel_rfl) (by rw [hB]; kernel_rfl) ?_
    clear hS; intro a w F hS
    obtain ⟨F, hS⟩ := hS.nm [42, 41, 40, 39, 38, 37, 36, 35, 34, 33, 32, 31, 30, 29, 28, 27, 26, 25, 24, 23, 22, 21, 20, 19, 18, 17, 16, 15, 14, 13, 12, 11, 10, 8, 6, 4, 3] [104, 103, 102, 101, 0] rfl rfl
    try dsimp only [List.map, xD, xE, xT, xU, ldSF, rHist, rTx, rOrd, rVer, rInt, rOp] at hS
    refine then_n ?_
    refine cond_b hS rfl (fun hc3 => ?_) (fun hc3 => ?_)
    ·skip
     have hg : true = usedH g t := (any_some hio (by
       have h9 := hc3
       simp at h9
       unfold usedX
       rw [decide_eq_true hne, Bool.true_and]
       refine any_some hjo ?_
       unfold usedV wcnt
       simp [h9.1]
       first | exact h9.2 | (have := h9.2; omega))).symm
     refine wp_seq ?_
     refine region_q hS
       (cF rfl (oN .cb) trivial trivial
       Chain.nil)
       hB ?_
     clear hS; intro a w F hS
     obtain ⟨F, hS⟩ := hS.nm [42, 41, 40, 39, 38, 37, 36, 35, 34, 33, 32, 31, 30, 29, 28, 27, 26, 25, 24, 23, 22, 21, 20, 19, 18, 17, 16, 15, 14, 13, 12, 11, 10, 8, 6, 4, 3] [104, 103, 102, 101, 0] rfl rfl
     try dsimp only [rHist, rTx, rOrd, rVer, rInt, rOp] at hS
     refine then_n (wp_ret (block_r (then_r (then_r (block_r (block_r (then_r (then_r (block_r (then_r ?_))))))))))
     refine ret_P hfr hS rfl (.tmp rfl .nil) (.one (.bool hg))
    have hnv : usedV t (Go.Gm.nth (needsT (Go.Gm.nth g.txs i)) j) = false := by
      have h9 := hc3
      unfold usedV wcnt
      simp at h9 ⊢
      first | exact h9 | (intro e; have := h9 e; omega)
    refine wp_skip (block_n (then_n ?_))
    refine region_q hS
      (cF rfl (o_add .t (.ci (by kernel_rfl))) r1 trivial
      (cF rfl (oM .t) r1 trivial
      Chain.nil))
      hB ?_
    clear hS; intro a w F hS
    obtain ⟨F, hS⟩ := hS.nm [43, 42, 41, 40, 39, 38, 37, 36, 35, 34, 33, 32, 31, 30, 29, 28, 27, 26, 25, 24, 23, 22, 21, 20, 19, 18, 17, 16, 15, 14, 13, 12, 11, 10, 8, 6, 4, 3] [104, 103, 102, 101, 0] rfl rfl
    try dsimp only [rHist, rTx, rOrd, rVer, rInt, rOp] at hS
    refine then_n ?_
    replace hS := hS.ent (i := 24) (s' := .pv (.int .i64 ((j + 1 : Nat) : Int))) rfl (.int (wrap_succ (by omega)))
    obtain ⟨F, hS⟩ := hS.nm [23, 22, 21, 20, 19, 18, 17, 16, 15, 14, 13, 12, 11, 10, 6, 4, 3, 24] [103, 102, 101, 0] rfl rfl
    exact ⟨(j + 1), F, ⟨by omega, (fun q h9 => by rcases Nat.lt_or_eq_of_le (Nat.le_of_lt_succ h9) with h8 | h8; exact hq2 q h8; rw [h8]; exact hnv)⟩, hS, by omega⟩
   have hil : j = (needsT (Go.Gm.nth g.txs i)).length := by simp at hc2; omega
   have hno : usedX t (Go.Gm.nth g.txs i) = false := by unfold usedX; rw [any_none (by rw [← hil]; exact hq2), Bool.and_false]
   refine wp_exit (then_x (then_x (block_x (block_n (then_n ?_)))))
   refine region_q hS
     (cF rfl (o_add .t (.ci (by kernel_rfl))) r1 trivial
     (cF rfl (oM .t) r1 trivial
     Chain.nil))
     hB ?_
   clear hS; intro a w F hS
   obtain ⟨F, hS⟩ := hS.nm [44, 25, 24, 23, 22, 21, 20, 19, 18, 17, 16, 15, 14, 13, 12, 11, 10, 6, 4, 3] [103, 102, 101, 0] rfl rfl
   try dsimp only [rHist, rTx, rOrd, rVer, rInt, rOp] at hS
   refine then_n ?_
   replace hS := hS.ent (i := 12) (s' := .pv (.int .i64 ((i + 1 : Nat) : Int))) rfl (.int (wrap_succ (by omega)))
   obtain ⟨F, hS⟩ := hS.nm [11, 10, 4, 3, 12] [102, 101, 0] rfl rfl
   exact ⟨(i + 1), F, ⟨by omega, (fun q h9 => by rcases Nat.lt_or_eq_of_le (Nat.le_of_lt_succ h9) with h8 | h8; exact hqo q h8; rw [h8]; exact hno)⟩, hS, by omega⟩
  have hil : i = g.txs.length := by simp at hc0; omega
  have hg : false = usedH g t := (any_none (by rw [← hil]; exact hq)).symm
  refine wp_exit (then_x (then_x (block_x (then_n (wp_seq ?_)))))
  refine region_q hS
    (cF rfl (oN .cb) trivial trivial
    Chain.nil)
    hB ?_
  clear hS; intro a w F hS
  obtain ⟨F, hS⟩ := hS.nm [4] [102, 101, 0] rfl rfl
  try dsimp only [rHist, rTx, rOrd, rVer, rInt, rOp] at hS
  refine then_n (wp_ret ?_)
  refine ret_P hfr hS rfl (.tmp rfl .nil) (.one (.bool hg))

end Go.Proofs.YtpjjmolibanakaaGreat
namespace Go.Proofs.YtpjjmolibanakaaGreat
open Go Go.Gm
set_option linter.unusedVariables false
set_option linter.unusedSimpArgs false
set_option maxHeartbeats 4000000
set_option maxRecDepth 8000


theorem find_is {l : List TxD} {id : Int} : (findT l id).isSome = isK TxD.id id l := by
  unfold findT isK
  rw [Bool.eq_iff_iff, List.find?_isSome, List.any_eq_true]
theorem right_ne {g : HistD} (h : RightH g) : NE g.orders := fun o ho => by
  have h2 := (ord_same g).2 h.2.2
  obtain ⟨j, hj, e⟩ := List.getElem_of_mem ho
  have := (h2.2 j hj).2.1
  rwa [nth_eq hj, e] at this
theorem may_1 {g : HistD} {t : TxD} {there : Int} {wanted : Bool} (h : ¬ RightH g) : mayH g t there wanted = (0, 5) := if_pos h
theorem may_2 {g : HistD} {t : TxD} {there : Int} {wanted : Bool} (h : RightH g) (h2 : rightT t ≠ 0) : mayH g t there wanted = (0, rightT t) := by unfold mayH; rw [if_neg (Decidable.not_not.2 h), if_pos h2]
theorem may_3 {g : HistD} {t : TxD} {there : Int} {wanted : Bool} (h : RightH g) (h2 : rightT t = 0) (h3 : isK TxD.id t.id g.txs ≠ wanted) : mayH g t there wanted = (0, there) := by unfold mayH; rw [if_neg (Decidable.not_not.2 h), if_neg (Decidable.not_not.2 h2), if_pos h3]
theorem may_4 {g : HistD} {t : TxD} {there : Int} {wanted : Bool} (h : RightH g) (h2 : rightT t = 0) (h3 : isK TxD.id t.id g.txs = wanted) (h4 : needsH g t = false) : mayH g t there wanted = (0, 6) := by unfold mayH; rw [if_neg (Decidable.not_not.2 h), if_neg (Decidable.not_not.2 h2), if_neg (Decidable.not_not.2 h3), if_pos h4]
theorem may_5 {g : HistD} {t : TxD} {there : Int} {wanted : Bool} (h : RightH g) (h2 : rightT t = 0) (h3 : isK TxD.id t.id g.txs = wanted) (h4 : needsH g t = true) : mayH g t there wanted = (((lowK TxD.id t.id g.txs : Nat) : Int), 0) := by unfold mayH; rw [if_neg (Decidable.not_not.2 h), if_neg (Decidable.not_not.2 h2), if_neg (Decidable.not_not.2 h3), if_neg (by simp [h4])]
theorem ins_bad {g : HistD} {t : TxD} {e : Int} (h : mayH g t 4 false = (0, e)) (he : e ≠ 0) : insertH g t = (zeroH, e) := by unfold insertH; rw [h]; exact if_pos he
theorem am_bad {g : HistD} {t : TxD} {e : Int} (h : mayH g t 3 true = (0, e)) (he : e ≠ 0) : amendH g t = (zeroH, e) := by unfold amendH; rw [h]; exact if_pos he
theorem ins_full {g : HistD} {t : TxD} (h : RightH g) (h2 : rightT t = 0) (h3 : isK TxD.id t.id g.txs = false) (h4 : needsH g t = true) (h5 : 4096 ≤ g.txs.length) : insertH g t = (zeroH, 2) := by
  have := h.1
  unfold insertH
  rw [may_5 h h2 h3 h4, if_neg (by simp), if_pos (by omega)]
theorem ins_good {g : HistD} {t : TxD} (hs : SmallO g.orders) (h : RightH g) (h2 : rightT t = 0) (h3 : isK TxD.id t.id g.txs = false) (h4 : needsH g t = true) (h5 : ¬ 4096 ≤ g.txs.length) : insertH g t = (⟨putGR TxD.id t g.txs false, docSettle t g.orders⟩, 0) := by
  have hr := right_rise h
  unfold insertH
  rw [may_5 h h2 h3 h4, if_neg (by simp), if_neg (by omega), settle_doc hr.2 hs (right_ne h), putGR_new (rise_iff.1 hr.1) h3]
theorem am_used {g : HistD} {t : TxD} (h : RightH g) (h2 : rightT t = 0) (h3 : isK TxD.id t.id g.txs = true) (h4 : needsH g t = true) (h5 : usedH g t = true) : amendH g t = (zeroH, 7) := by
  unfold amendH
  rw [may_5 h h2 h3 h4, if_neg (by simp), if_pos h5]
theorem am_good {g : HistD} {t : TxD} (hs : SmallO g.orders) (h : RightH g) (h2 : rightT t = 0) (h3 : isK TxD.id t.id g.txs = true) (h4 : needsH g t = true) (h5 : usedH g t = false) : amendH g t = (⟨putGR TxD.id t g.txs false, docSettle t g.orders⟩, 0) := by
  have hr := right_rise h
  unfold amendH
  rw [may_5 h h2 h3 h4, if_neg (by simp), if_neg (by simp [h5]), settle_doc hr.2 hs (right_ne h), putGR_old (rise_iff.1 hr.1) h3]
theorem del_1 {g : HistD} {id : Int} (h : ¬ RightH g) : deleteH g id = (zeroH, 5) := if_pos h
theorem del_2 {g : HistD} {id : Int} (h : RightH g) (h2 : isK TxD.id id g.txs = false) : deleteH g id = (zeroH, 3) := by unfold deleteH; rw [if_neg (Decidable.not_not.2 h), if_pos h2]
theorem del_3 {g : HistD} {id : Int} (h : RightH g) (h2 : isK TxD.id id g.txs = true) (h3 : usedH g (noneT id) = true) : deleteH g id = (zeroH, 7) := by unfold deleteH; rw [if_neg (Decidable.not_not.2 h), if_neg (by simp [h2]), if_pos h3]
theorem del_4 {g : HistD} {id : Int} (hs : SmallO g.orders) (h : RightH g) (h2 : isK TxD.id id g.txs = true) (h3 : usedH g (noneT id) = false) : deleteH g id = (⟨g.txs.filter fun x => !decide (x.id = id), docSettle (noneT id) g.orders⟩, 0) := by
  have hr := right_rise h
  unfold deleteH
  rw [if_neg (Decidable.not_not.2 h), if_neg (by simp [h2]), if_neg (by simp [h3]), settle_doc hr.2 hs (right_ne h), filter_low (rise_iff.1 hr.1) h2]
theorem get_is {os : List OrdD} {k : Int} (hr : Rise OrdD.key os) (h : isK OrdD.key k os = true) : getO os k = (Go.Gm.nth os (lowK OrdD.key k os)).txs := by
  obtain ⟨h1, h2⟩ := isK_low hr h
  have := getO_mem (rise_iff.1 hr) (nth_mem h1)
  rwa [h2] at this
theorem get_nil {os : List OrdD} {k : Int} (hr : Rise OrdD.key os) (hn : NE os) : getO os k = [] ↔ isK OrdD.key k os = false := by
  constructor
  · intro h
    cases hk : isK OrdD.key k os with
    | false => rfl
    | true =>
      rw [get_is hr hk] at h
      exact absurd h (hn _ (nth_mem (isK_low hr hk).1))
  · exact isK_get
theorem turn_1 {g : HistD} {key : Int} {rule : List Int → List Int × Int} (h : ¬ RightH g) : turnedH g key rule = (zeroH, 5) := if_pos h
theorem turn_2 {g : HistD} {key : Int} {rule : List Int → List Int × Int} (h : RightH g) (h2 : getO g.orders key = []) : turnedH g key rule = (zeroH, 3) := by
  unfold turnedH
  rw [if_neg (Decidable.not_not.2 h), if_pos ((get_nil (right_rise h).2 (right_ne h)).1 h2)]
theorem turn_is {g : HistD} {key : Int} (h : RightH g) (h2 : getO g.orders key ≠ []) : isK OrdD.key key g.orders = true := by
  cases hk : isK OrdD.key key g.orders with
  | true => rfl
  | false => exact absurd ((get_nil (right_rise h).2 (right_ne h)).2 hk) h2
theorem turn_3 {g : HistD} {key : Int} {rule : List Int → List Int × Int} (h : RightH g) (h2 : getO g.orders key ≠ []) (h3 : (rule (getO g.orders key)).2 ≠ 0) : turnedH g key rule = (zeroH, (rule (getO g.orders key)).2) := by
  have hk := turn_is h h2
  have hg := get_is (right_rise h).2 hk
  unfold turnedH
  rw [if_neg (Decidable.not_not.2 h), if_neg (by simp [hk]), ← hg, if_pos h3]
theorem turn_4 {g : HistD} {key : Int} {rule : List Int → List Int × Int} (h : RightH g) (h2 : getO g.orders key ≠ []) (h3 : (rule (getO g.orders key)).2 = 0) (h4 : (rule (getO g.orders key)).1 ≠ []) : turnedH g key rule = (⟨g.txs, putGR OrdD.key ⟨key, (rule (getO g.orders key)).1⟩ g.orders (decide ((rule (getO g.orders key)).1 = []))⟩, 0) := by
  have hk := turn_is h h2
  have hr := (right_rise h).2
  have hg := get_is hr hk
  unfold turnedH
  rw [if_neg (Decidable.not_not.2 h), if_neg (by simp [hk]), ← hg, if_neg (by simp [h3]), decide_eq_false h4, putGR_old (κ := OrdD.key) (t := ⟨key, (rule (getO g.orders key)).1⟩) (rise_iff.1 hr) hk, (isK_low hr hk).2]
theorem move_perm {l : List Int} {id place : Int} (h : (moveO l id place).2 = 0) : (moveO l id place).1.Perm l := by
  have h9 := h
  unfold moveO at h9
  split at h9
  · simp at h9
  · rename_i h1
    split at h9
    · simp at h9
    · rename_i h2
      refine moveO_perm ?_ (Decidable.not_not.1 h2)
      refine Decidable.byContradiction fun hm => h1 ?_
      rw [idxL_not hm]; decide
/-- An edit. -/
structure EdD where
  kind : Int
  t : TxD
  o : OrdD
  place : Int
  deriving DecidableEq, Inhabited
def rEd (e : EdD) : List PV := [.int .i64 e.kind, .int .i64 e.t.id, .bool e.t.done, .sl rOp e.t.ops, .int .i64 e.o.key, .sl rInt e.o.txs, .int .i64 e.place]
def doH (g : HistD) (e : EdD) : HistD × Int := if e.kind = 0 then insertH g e.t else if e.kind = 1 then deleteH g e.t.id else if e.kind = 2 then amendH g e.t else if e.kind = 3 then reorderH g e.o else if e.kind = 4 then moveH g e.o.key e.t.id e.place else (zeroH, 5)
def lightE (e : EdD) : Prop := e.t.ops.length ≤ 24 ∧ e.o.txs.length ≤ 24
instance (e : EdD) : Decidable (lightE e) := by unfold lightE; exact inferInstance
def lightL (l : List EdD) : Prop := l.length ≤ 24 ∧ ∀ e ∈ l, lightE e
instance (l : List EdD) : Decidable (lightL l) := by unfold lightL; exact inferInstance
def playStep (g : HistD) (e : EdD) : HistD := if (doH g e).2 = 0 then (doH g e).1 else g
def playH (l : List EdD) : HistD := l.foldl playStep zeroH

theorem refInsert_c (g : HistD) (t : TxD) (hs : Small g) (ht : t.ops.length ≤ 1000) : FnP Tryz.prog 59 [.agg (rHist g), .agg (rTx t)] (.tup [.agg (rHist (insertH g t).1), .int .i64 (insertH g t).2]) := by
  refine FnP.mk Tryz.func59 rfl Tryz.ntmps59 rfl ?_
  intro B a w F hB hfr hS
  have hsl := hs.1.1
  refine wp_seq ?_
  refine region_q hS
    (cF rfl (oX 101 (.conv .t .agg)) r1 trivial
    (cF rfl (oX 102 (.conv .t .agg)) r1 trivial
    (cF rfl (oH [.slice none 0 0, .slice none 0 0] 103) trivial trivial
    (cF rfl (oN (.ci (by kernel_rfl))) trivial trivial
    Chain.nil))))
    hB ?_
  clear hS; intro a w F hS
  replace hS := hS.sub
  obtain ⟨F, hS⟩ := hS.nm [5, 4, 3, 2] [103, 102, 101, 0] rfl rfl
  try dsimp only [RS.sub, SF.sub, CF.sub, csub, Anc.sub, List.map, zCF, rHist, rTx, rOrd, rVer, rInt, rOp] at hS
  generalize Act.tau a 2 = v2 at hS
  generalize Act.tau a 3 = v3 at hS
  generalize Act.tau a 4 = v4 at hS
  refine then_n (wp_seq (wp_seq ?_))
  refine region_q hS
    (cF rfl (oL true 2 101 .is) r1 r1
    (cF rfl (oP (refRightH_c g hs) Tryz.func13 (Args.one (.pagg .t))) r1 trivial
    (cF rfl (o_not .t) r1 trivial
    Chain.nil)))
    hB ?_
  clear hS; intro a w F hS
  obtain ⟨F, hS⟩ := hS.nm [11, 5, 4, 3, 2] [103, 102, 101, 0] rfl rfl
  try dsimp only [List.map, xD, xE, xT, xU, ldSF, rHist, rTx, rOrd, rVer, rInt, rOp] at hS
  refine then_n ?_
  refine cond_b hS rfl (fun hc0 => ?_) (fun hc0 => ?_)
  ·skip
   have hr : ¬ RightH g := by simpa using hc0
   have hg := ins_bad (t := t) (may_1 hr) (by decide)
   refine wp_seq ?_
   refine region_q hS
     (cF rfl (oB [] [.slice none 0 0, .slice none 0 0] [(0, 1), (1, 1)] .nil) trivial trivial
     (cF rfl (oA 2 103 .is .t) r2 r1
     (cF rfl (oN (.ci (by kernel_rfl))) trivial trivial
     Chain.nil)))
     hB ?_
   clear hS; intro a w F hS
   obtain ⟨F, hS⟩ := hS.nm [5, 4, 3, 2] [103, 102, 101, 0] rfl rfl
   try dsimp only [List.map, stCells, xL, xM, Nat.reduceAdd, xD, xE, xT, xU, xC, xN, zCF, rHist, rTx, rOrd, rVer, rInt, rOp] at hS
   refine then_n (wp_ret (then_r ?_))
   refine ret_P hfr hS rfl (.cell (n := 103) (ag := true) (sz := 2) rfl .is rfl (by kernel_rfl) (by kernel_rfl) (by kernel_rfl) (.tmp rfl .nil)) (.two (by rw [hg]; first | exact .aggU rfl rfl | exact .aggLe rfl ⟨PVLe.nilSl, PVLe.nilSl, trivial⟩) (.int (by rw [hg])))
  have hr : RightH g := by simpa using hc0
  refine wp_skip (then_n (wp_seq (wp_seq ?_)))
  refine region_q hS
    (cF rfl (oL true 3 102 .is) r1 r1
    (cF rfl (oP (refTxRight_c t) Tryz.func40 (Args.one (.pagg .t))) r1 trivial
    (cF rfl (oN .t) r1 trivial
    Chain.nil)))
    hB ?_
  clear hS; intro a w F hS
  obtain ⟨F, hS⟩ := hS.nm [6, 5, 4, 3, 2] [103, 102, 101, 0] rfl rfl
  try dsimp only [List.map, xD, xE, xT, xU, ldSF, rHist, rTx, rOrd, rVer, rInt, rOp] at hS
  refine then_n (wp_seq ?_)
  refine region_q hS
    (cF rfl (oM .t) r1 trivial
    (cF rfl (o_neq .t (.ci (by kernel_rfl))) r1 trivial
    Chain.nil))
    hB ?_
  clear hS; intro a w F hS
  obtain ⟨F, hS⟩ := hS.nm [16, 6, 5, 4, 3, 2] [103, 102, 101, 0] rfl rfl
  try dsimp only [rHist, rTx, rOrd, rVer, rInt, rOp] at hS
  refine then_n ?_
  refine cond_b hS rfl (fun hc1 => ?_) (fun hc1 => ?_)
  ·skip
   have hrt : rightT t ≠ 0 := by simpa using hc1
   have hg := ins_bad (may_2 hr hrt) hrt
   refine wp_seq ?_
   refine region_q hS
     (cF rfl (oB [] [.slice none 0 0, .slice none 0 0] [(0, 1), (1, 1)] .nil) trivial trivial
     (cF rfl (oM .t) r1 trivial
     (cF rfl (oA 2 103 .is .t) r2 r1
     (cF rfl (oN .t) r1 trivial
     Chain.nil))))
     hB ?_
   clear hS; intro a w F hS
   obtain ⟨F, hS⟩ := hS.nm [5, 4, 3, 2] [103, 102, 101, 0] rfl rfl
   try dsimp only [List.map, stCells, xL, xM, Nat.reduceAdd, xD, xE, xT, xU, xC, xN, zCF, rHist, rTx, rOrd, rVer, rInt, rOp] at hS
   refine then_n (wp_ret (then_r ?_))
   refine ret_P hfr hS rfl (.cell (n := 103) (ag := true) (sz := 2) rfl .is rfl (by kernel_rfl) (by kernel_rfl) (by kernel_rfl) (.tmp rfl .nil)) (.two (by rw [hg]; first | exact .aggU rfl rfl | exact .aggLe rfl ⟨PVLe.nilSl, PVLe.nilSl, trivial⟩) (.int (by rw [hg])))
  have hrt : rightT t = 0 := by simpa using hc1
  refine wp_skip (then_n (wp_seq (wp_seq ?_)))
  refine region_q hS
    (cF rfl (oL true 2 101 .is) r1 r1
    (cF rfl (oF 0 102 .is) r1 r1
    (cF rfl (oL false 1 102 .adr) r1 r1
    (cF rfl (oP (refFind_c g t.id hs.1) Tryz.func10 (Args.two (.pagg .t) .t)) r2 trivial
    (cF rfl (oM .t) r1 trivial
    (cF rfl (o_extract .t rfl) r1 trivial
    (cF rfl (o_extract .t rfl) r1 trivial
    (cF rfl (oH [.int .i64 0, .bool false, .slice none 0 0] 104) trivial trivial
    (cF rfl (oA 3 104 .same (.conv .t .agg)) r2 r1
    (cF rfl (oN .t) r1 trivial
    Chain.nil))))))))))
    hB ?_
  clear hS; intro a w F hS
  replace hS := hS.sub
  obtain ⟨F, hS⟩ := hS.nm [8, 5, 4, 3, 2] [104, 103, 102, 101, 0] rfl rfl
  try dsimp only [RS.sub, SF.sub, CF.sub, csub, Anc.sub, List.map, stCells, xL, xM, Nat.reduceAdd, xD, xE, xT, xU, xC, xN, zCF, ldSF, rHist, rTx, rOrd, rVer, rInt, rOp] at hS
  generalize Act.tau a 7 = v7 at hS
  refine then_n (wp_seq ?_)
  refine region_q hS
    (cF rfl (oM .t) r1 trivial
    Chain.nil)
    hB ?_
  clear hS; intro a w F hS
  obtain ⟨F, hS⟩ := hS.nm [26, 5, 4, 3, 2] [104, 103, 102, 101, 0] rfl rfl
  try dsimp only [rHist, rTx, rOrd, rVer, rInt, rOp] at hS
  refine then_n ?_
  refine cond_b hS rfl (fun hc2 => ?_) (fun hc2 => ?_)
  ·skip
   have hik : isK TxD.id t.id g.txs = true := by rw [← find_is]; simpa using hc2
   have hg := ins_bad (may_3 hr hrt (by rw [hik]; decide)) (by decide)
   refine wp_seq ?_
   refine region_q hS
     (cF rfl (oB [] [.slice none 0 0, .slice none 0 0] [(0, 1), (1, 1)] .nil) trivial trivial
     (cF rfl (oA 2 103 .is .t) r2 r1
     (cF rfl (oN (.ci (by kernel_rfl))) trivial trivial
     Chain.nil)))
     hB ?_
   clear hS; intro a w F hS
   obtain ⟨F, hS⟩ := hS.nm [5, 4, 3, 2] [104, 103, 102, 101, 0] rfl rfl
   try dsimp only [List.map, stCells, xL, xM, Nat.reduceAdd, xD, xE, xT, xU, xC, xN, zCF, rHist, rTx, rOrd, rVer, rInt, rOp] at hS
   refine then_n (wp_ret (then_r ?_))
   refine ret_P hfr hS rfl (.cell (n := 103) (ag := true) (sz := 2) rfl .is rfl (by kernel_rfl) (by kernel_rfl) (by kernel_rfl) (.tmp rfl .nil)) (.two (by rw [hg]; first | exact .aggU rfl rfl | exact .aggLe rfl ⟨PVLe.nilSl, PVLe.nilSl, trivial⟩) (.int (by rw [hg])))
  have hik : isK TxD.id t.id g.txs = false := by rw [← find_is]; simpa using hc2
  refine wp_skip (then_n (wp_seq (wp_seq ?_)))
  refine region_q hS
    (cF rfl (oL true 2 101 .is) r1 r1
    (cF rfl (oL true 3 102 .is) r1 r1
    (cF rfl (oP (refNeedsH_c g t hs.1 ht) Tryz.func41 (Args.two (.pagg .t) (.pagg .t))) r2 trivial
    (cF rfl (o_not .t) r1 trivial
    Chain.nil))))
    hB ?_
  clear hS; intro a w F hS
  obtain ⟨F, hS⟩ := hS.nm [31, 5, 4, 3, 2] [104, 103, 102, 101, 0] rfl rfl
  try dsimp only [List.map, xD, xE, xT, xU, ldSF, rHist, rTx, rOrd, rVer, rInt, rOp] at hS
  refine then_n ?_
  refine cond_b hS rfl (fun hc3 => ?_) (fun hc3 => ?_)
  ·skip
   have hg := ins_bad (may_4 hr hrt hik (by simpa using hc3)) (by decide)
   refine wp_seq ?_
   refine region_q hS
     (cF rfl (oB [] [.slice none 0 0, .slice none 0 0] [(0, 1), (1, 1)] .nil) trivial trivial
     (cF rfl (oA 2 103 .is .t) r2 r1
     (cF rfl (oN (.ci (by kernel_rfl))) trivial trivial
     Chain.nil)))
     hB ?_
   clear hS; intro a w F hS
   obtain ⟨F, hS⟩ := hS.nm [5, 4, 3, 2] [104, 103, 102, 101, 0] rfl rfl
   try dsimp only [List.map, stCells, xL, xM, Nat.reduceAdd, xD, xE, xT, xU, xC, xN, zCF, rHist, rTx, rOrd, rVer, rInt, rOp] at hS
   refine then_n (wp_ret (then_r ?_))
   refine ret_P hfr hS rfl (.cell (n := 103) (ag := true) (sz := 2) rfl .is rfl (by kernel_rfl) (by kernel_rfl) (by kernel_rfl) (.tmp rfl .nil)) (.two (by rw [hg]; first | exact .aggU rfl rfl | exact .aggLe rfl ⟨PVLe.nilSl, PVLe.nilSl, trivial⟩) (.int (by rw [hg])))
  have hnd : needsH g t = true := by simpa using hc3
  refine wp_skip (then_n (wp_seq (wp_seq ?_)))
  refine region_q hS
    (cF rfl (oF 0 101 .is) r1 r1
    (cF rfl (oL false 1 101 .adr) r1 r1
    (cF rfl (o_len_sl Tryz.underlying22 .t) r1 trivial
    (cF rfl (o_geq .t (.ci (by kernel_rfl))) r1 trivial
    Chain.nil))))
    hB ?_
  clear hS; intro a w F hS
  obtain ⟨F, hS⟩ := hS.nm [36, 5, 4, 3, 2] [104, 103, 102, 101, 0] rfl rfl
  try dsimp only [List.map, xD, xE, xT, xU, ldSF, rHist, rTx, rOrd, rVer, rInt, rOp] at hS
  refine then_n ?_
  refine cond_b hS rfl (fun hc4 => ?_) (fun hc4 => ?_)
  ·skip
   have hg := ins_full hr hrt hik hnd (by simp at hc4; omega)
   refine wp_seq ?_
   refine region_q hS
     (cF rfl (oB [] [.slice none 0 0, .slice none 0 0] [(0, 1), (1, 1)] .nil) trivial trivial
     (cF rfl (oA 2 103 .is .t) r2 r1
     (cF rfl (oN (.ci (by kernel_rfl))) trivial trivial
     Chain.nil)))
     hB ?_
   clear hS; intro a w F hS
   obtain ⟨F, hS⟩ := hS.nm [5, 4, 3, 2] [104, 103, 102, 101, 0] rfl rfl
   try dsimp only [List.map, stCells, xL, xM, Nat.reduceAdd, xD, xE, xT, xU, xC, xN, zCF, rHist, rTx, rOrd, rVer, rInt, rOp] at hS
   refine then_n (wp_ret (then_r ?_))
   refine ret_P hfr hS rfl (.cell (n := 103) (ag := true) (sz := 2) rfl .is rfl (by kernel_rfl) (by kernel_rfl) (by kernel_rfl) (.tmp rfl .nil)) (.two (by rw [hg]; first | exact .aggU rfl rfl | exact .aggLe rfl ⟨PVLe.nilSl, PVLe.nilSl, trivial⟩) (.int (by rw [hg])))
  have hg := ins_good hs.2 hr hrt hik hnd (by simp at hc4; omega)
  refine wp_skip (then_n (wp_seq ?_))
  refine region_any (by kernel_rfl) hS (by kernel_rfl)
    (cF rfl (oF 0 101 .is) r1 r1
    (cF rfl (oL false 1 101 .adr) r1 r1
    (cF rfl (oL true 3 102 .is) r1 r1
    (cF rfl (oP (putTx_c g.txs t (by omega)) Tryz.func90 (Args.two .t (.pagg .t))) r2 trivial
    (cF rfl (oF 1 101 .is) r1 r1
    (cF rfl (oL false 1 101 .adr) r1 r1
    (cF rfl (oL true 3 102 .is) r1 r1
    (cF rfl (oP (refSettle_c g.orders t hs.2 ht) Tryz.func91 (Args.two .t (.pagg .t))) r2 trivial
    (cF rfl (oB [(0, .tmp 41), (1, .tmp 45)] [.slice none 0 0, .slice none 0 0] [(0, 1), (1, 1)] (.one rfl .t one_sl (by kernel_rfl) (.one rfl .t one_sl (by kernel_rfl) .nil))) r2 trivial
    (cF rfl (oA 2 103 .is .t) r2 r1
    (cF rfl (oN (.ci (by kernel_rfl))) trivial trivial
    Chain.nil)))))))))))
    (by kernel_rfl) (by rw [hB]; kernel_rfl) ?_
  clear hS; intro a w F hS
  obtain ⟨F, hS⟩ := hS.nm [5, 4] [104, 103, 102, 101, 0] rfl rfl
  try dsimp only [List.map, stCells, xL, xM, Nat.reduceAdd, xD, xE, xT, xU, xC, xN, zCF, ldSF, rHist, rTx, rOrd, rVer, rInt, rOp] at hS
  refine then_n (wp_ret ?_)
  refine ret_P hfr hS rfl (.cell (n := 103) (ag := true) (sz := 2) rfl .is rfl (by kernel_rfl) (by kernel_rfl) (by kernel_rfl) (.tmp rfl .nil)) (.two (by rw [hg]; first | exact .aggU rfl rfl | exact .aggLe rfl ⟨PVLe.nilSl, PVLe.nilSl, trivial⟩) (.int (by rw [hg])))

theorem refAmend_c (g : HistD) (t : TxD) (hs : Small g) (ht : t.ops.length ≤ 1000) : FnP Tryz.prog 61 [.agg (rHist g), .agg (rTx t)] (.tup [.agg (rHist (amendH g t).1), .int .i64 (amendH g t).2]) := by
  refine FnP.mk Tryz.func61 rfl Tryz.ntmps61 rfl ?_
  intro B a w F hB hfr hS
  have hsl := hs.1.1
  refine wp_seq ?_
  refine region_q hS
    (cF rfl (oX 101 (.conv .t .agg)) r1 trivial
    (cF rfl (oX 102 (.conv .t .agg)) r1 trivial
    (cF rfl (oH [.slice none 0 0, .slice none 0 0] 103) trivial trivial
    (cF rfl (oN (.ci (by kernel_rfl))) trivial trivial
    Chain.nil))))
    hB ?_
  clear hS; intro a w F hS
  replace hS := hS.sub
  obtain ⟨F, hS⟩ := hS.nm [5, 4, 3, 2] [103, 102, 101, 0] rfl rfl
  try dsimp only [RS.sub, SF.sub, CF.sub, csub, Anc.sub, List.map, zCF, rHist, rTx, rOrd, rVer, rInt, rOp] at hS
  generalize Act.tau a 2 = v2 at hS
  generalize Act.tau a 3 = v3 at hS
  generalize Act.tau a 4 = v4 at hS
  refine then_n (wp_seq (wp_seq ?_))
  refine region_q hS
    (cF rfl (oL true 2 101 .is) r1 r1
    (cF rfl (oP (refRightH_c g hs) Tryz.func13 (Args.one (.pagg .t))) r1 trivial
    (cF rfl (o_not .t) r1 trivial
    Chain.nil)))
    hB ?_
  clear hS; intro a w F hS
  obtain ⟨F, hS⟩ := hS.nm [11, 5, 4, 3, 2] [103, 102, 101, 0] rfl rfl
  try dsimp only [List.map, xD, xE, xT, xU, ldSF, rHist, rTx, rOrd, rVer, rInt, rOp] at hS
  refine then_n ?_
  refine cond_b hS rfl (fun hc0 => ?_) (fun hc0 => ?_)
  ·skip
   have hr : ¬ RightH g := by simpa using hc0
   have hg := am_bad (t := t) (may_1 hr) (by decide)
   refine wp_seq ?_
   refine region_q hS
     (cF rfl (oB [] [.slice none 0 0, .slice none 0 0] [(0, 1), (1, 1)] .nil) trivial trivial
     (cF rfl (oA 2 103 .is .t) r2 r1
     (cF rfl (oN (.ci (by kernel_rfl))) trivial trivial
     Chain.nil)))
     hB ?_
   clear hS; intro a w F hS
   obtain ⟨F, hS⟩ := hS.nm [5, 4, 3, 2] [103, 102, 101, 0] rfl rfl
   try dsimp only [List.map, stCells, xL, xM, Nat.reduceAdd, xD, xE, xT, xU, xC, xN, zCF, rHist, rTx, rOrd, rVer, rInt, rOp] at hS
   refine then_n (wp_ret (then_r ?_))
   refine ret_P hfr hS rfl (.cell (n := 103) (ag := true) (sz := 2) rfl .is rfl (by kernel_rfl) (by kernel_rfl) (by kernel_rfl) (.tmp rfl .nil)) (.two (by rw [hg]; first | exact .aggU rfl rfl | exact .aggLe rfl ⟨PVLe.nilSl, PVLe.nilSl, trivial⟩) (.int (by rw [hg])))
  have hr : RightH g := by simpa using hc0
  refine wp_skip (then_n (wp_seq (wp_seq ?_)))
  refine region_q hS
    (cF rfl (oL true 3 102 .is) r1 r1
    (cF rfl (oP (refTxRight_c t) Tryz.func40 (Args.one (.pagg .t))) r1 trivial
    (cF rfl (oN .t) r1 trivial
    Chain.nil)))
    hB ?_
  clear hS; intro a w F hS
  obtain ⟨F, hS⟩ := hS.nm [6, 5, 4, 3, 2] [103, 102, 101, 0] rfl rfl
  try dsimp only [List.map, xD, xE, xT, xU, ldSF, rHist, rTx, rOrd, rVer, rInt, rOp] at hS
  refine then_n (wp_seq ?_)
  refine region_q hS
    (cF rfl (oM .t) r1 trivial
    (cF rfl (o_neq .t (.ci (by kernel_rfl))) r1 trivial
    Chain.nil))
    hB ?_
  clear hS; intro a w F hS
  obtain ⟨F, hS⟩ := hS.nm [16, 6, 5, 4, 3, 2] [103, 102, 101, 0] rfl rfl
  try dsimp only [rHist, rTx, rOrd, rVer, rInt, rOp] at hS
  refine then_n ?_
  refine cond_b hS rfl (fun hc1 => ?_) (fun hc1 => ?_)
  ·skip
   have hrt : rightT t ≠ 0 := by simpa using hc1
   have hg := am_bad (may_2 hr hrt) hrt
   refine wp_seq ?_
   refine region_q hS
     (cF rfl (oB [] [.slice none 0 0, .slice none 0 0] [(0, 1), (1, 1)] .nil) trivial trivial
     (cF rfl (oM .t) r1 trivial
     (cF rfl (oA 2 103 .is .t) r2 r1
     (cF rfl (oN .t) r1 trivial
     Chain.nil))))
     hB ?_
   clear hS; intro a w F hS
   obtain ⟨F, hS⟩ := hS.nm [5, 4, 3, 2] [103, 102, 101, 0] rfl rfl
   try dsimp only [List.map, stCells, xL, xM, Nat.reduceAdd, xD, xE, xT, xU, xC, xN, zCF, rHist, rTx, rOrd, rVer, rInt, rOp] at hS
   refine then_n (wp_ret (then_r ?_))
   refine ret_P hfr hS rfl (.cell (n := 103) (ag := true) (sz := 2) rfl .is rfl (by kernel_rfl) (by kernel_rfl) (by kernel_rfl) (.tmp rfl .nil)) (.two (by rw [hg]; first | exact .aggU rfl rfl | exact .aggLe rfl ⟨PVLe.nilSl, PVLe.nilSl, trivial⟩) (.int (by rw [hg])))
  have hrt : rightT t = 0 := by simpa using hc1
  refine wp_skip (then_n (wp_seq (wp_seq ?_)))
  refine region_q hS
    (cF rfl (oL true 2 101 .is) r1 r1
    (cF rfl (oF 0 102 .is) r1 r1
    (cF rfl (oL false 1 102 .adr) r1 r1
    (cF rfl (oP (refFind_c g t.id hs.1) Tryz.func10 (Args.two (.pagg .t) .t)) r2 trivial
    (cF rfl (oM .t) r1 trivial
    (cF rfl (o_extract .t rfl) r1 trivial
    (cF rfl (o_extract .t rfl) r1 trivial
    (cF rfl (oH [.int .i64 0, .bool false, .slice none 0 0] 104) trivial trivial
    (cF rfl (oA 3 104 .same (.conv .t .agg)) r2 r1
    (cF rfl (oN .t) r1 trivial
    Chain.nil))))))))))
    hB ?_
  clear hS; intro a w F hS
  replace hS := hS.sub
  obtain ⟨F, hS⟩ := hS.nm [8, 5, 4, 3, 2] [104, 103, 102, 101, 0] rfl rfl
  try dsimp only [RS.sub, SF.sub, CF.sub, csub, Anc.sub, List.map, stCells, xL, xM, Nat.reduceAdd, xD, xE, xT, xU, xC, xN, zCF, ldSF, rHist, rTx, rOrd, rVer, rInt, rOp] at hS
  generalize Act.tau a 7 = v7 at hS
  refine then_n (wp_seq ?_)
  refine region_q hS
    (cF rfl (oM .t) r1 trivial
    (cF rfl (o_not .t) r1 trivial
    Chain.nil))
    hB ?_
  clear hS; intro a w F hS
  obtain ⟨F, hS⟩ := hS.nm [27, 5, 4, 3, 2] [104, 103, 102, 101, 0] rfl rfl
  try dsimp only [rHist, rTx, rOrd, rVer, rInt, rOp] at hS
  refine then_n ?_
  refine cond_b hS rfl (fun hc2 => ?_) (fun hc2 => ?_)
  ·skip
   have hik : isK TxD.id t.id g.txs = false := by rw [← find_is]; simpa using hc2
   have hg := am_bad (may_3 hr hrt (by rw [hik]; decide)) (by decide)
   refine wp_seq ?_
   refine region_q hS
     (cF rfl (oB [] [.slice none 0 0, .slice none 0 0] [(0, 1), (1, 1)] .nil) trivial trivial
     (cF rfl (oA 2 103 .is .t) r2 r1
     (cF rfl (oN (.ci (by kernel_rfl))) trivial trivial
     Chain.nil)))
     hB ?_
   clear hS; intro a w F hS
   obtain ⟨F, hS⟩ := hS.nm [5, 4, 3, 2] [104, 103, 102, 101, 0] rfl rfl
   try dsimp only [List.map, stCells, xL, xM, Nat.reduceAdd, xD, xE, xT, xU, xC, xN, zCF, rHist, rTx, rOrd, rVer, rInt, rOp] at hS
   refine then_n (wp_ret (then_r ?_))
   refine ret_P hfr hS rfl (.cell (n := 103) (ag := true) (sz := 2) rfl .is rfl (by kernel_rfl) (by kernel_rfl) (by kernel_rfl) (.tmp rfl .nil)) (.two (by rw [hg]; first | exact .aggU rfl rfl | exact .aggLe rfl ⟨PVLe.nilSl, PVLe.nilSl, trivial⟩) (.int (by rw [hg])))
  have hik : isK TxD.id t.id g.txs = true := by rw [← find_is]; simpa using hc2
  refine wp_skip (then_n (wp_seq (wp_seq ?_)))
  refine region_q hS
    (cF rfl (oL true 2 101 .is) r1 r1
    (cF rfl (oL true 3 102 .is) r1 r1
    (cF rfl (oP (refNeedsH_c g t hs.1 ht) Tryz.func41 (Args.two (.pagg .t) (.pagg .t))) r2 trivial
    (cF rfl (o_not .t) r1 trivial
    Chain.nil))))
    hB ?_
  clear hS; intro a w F hS
  obtain ⟨F, hS⟩ := hS.nm [32, 5, 4, 3, 2] [104, 103, 102, 101, 0] rfl rfl
  try dsimp only [List.map, xD, xE, xT, xU, ldSF, rHist, rTx, rOrd, rVer, rInt, rOp] at hS
  refine then_n ?_
  refine cond_b hS rfl (fun hc3 => ?_) (fun hc3 => ?_)
  ·skip
   have hg := am_bad (may_4 hr hrt hik (by simpa using hc3)) (by decide)
   refine wp_seq ?_
   refine region_q hS
     (cF rfl (oB [] [.slice none 0 0, .slice none 0 0] [(0, 1), (1, 1)] .nil) trivial trivial
     (cF rfl (oA 2 103 .is .t) r2 r1
     (cF rfl (oN (.ci (by kernel_rfl))) trivial trivial
     Chain.nil)))
     hB ?_
   clear hS; intro a w F hS
   obtain ⟨F, hS⟩ := hS.nm [5, 4, 3, 2] [104, 103, 102, 101, 0] rfl rfl
   try dsimp only [List.map, stCells, xL, xM, Nat.reduceAdd, xD, xE, xT, xU, xC, xN, zCF, rHist, rTx, rOrd, rVer, rInt, rOp] at hS
   refine then_n (wp_ret (then_r ?_))
   refine ret_P hfr hS rfl (.cell (n := 103) (ag := true) (sz := 2) rfl .is rfl (by kernel_rfl) (by kernel_rfl) (by kernel_rfl) (.tmp rfl .nil)) (.two (by rw [hg]; first | exact .aggU rfl rfl | exact .aggLe rfl ⟨PVLe.nilSl, PVLe.nilSl, trivial⟩) (.int (by rw [hg])))
  have hnd : needsH g t = true := by simpa using hc3
  refine wp_skip (then_n (wp_seq (wp_seq ?_)))
  refine region_q hS
    (cF rfl (oL true 2 101 .is) r1 r1
    (cF rfl (oL true 3 102 .is) r1 r1
    (cF rfl (oP (refUsed_c g t hs.1 ht) Tryz.func92 (Args.two (.pagg .t) (.pagg .t))) r2 trivial
    Chain.nil)))
    hB ?_
  clear hS; intro a w F hS
  obtain ⟨F, hS⟩ := hS.nm [36, 5, 4, 3, 2] [104, 103, 102, 101, 0] rfl rfl
  try dsimp only [List.map, xD, xE, xT, xU, ldSF, rHist, rTx, rOrd, rVer, rInt, rOp] at hS
  refine then_n ?_
  refine cond_b hS rfl (fun hc4 => ?_) (fun hc4 => ?_)
  ·skip
   have hg := am_used hr hrt hik hnd (by simpa using hc4)
   refine wp_seq ?_
   refine region_q hS
     (cF rfl (oB [] [.slice none 0 0, .slice none 0 0] [(0, 1), (1, 1)] .nil) trivial trivial
     (cF rfl (oA 2 103 .is .t) r2 r1
     (cF rfl (oN (.ci (by kernel_rfl))) trivial trivial
     Chain.nil)))
     hB ?_
   clear hS; intro a w F hS
   obtain ⟨F, hS⟩ := hS.nm [5, 4, 3, 2] [104, 103, 102, 101, 0] rfl rfl
   try dsimp only [List.map, stCells, xL, xM, Nat.reduceAdd, xD, xE, xT, xU, xC, xN, zCF, rHist, rTx, rOrd, rVer, rInt, rOp] at hS
   refine then_n (wp_ret (then_r ?_))
   refine ret_P hfr hS rfl (.cell (n := 103) (ag := true) (sz := 2) rfl .is rfl (by kernel_rfl) (by kernel_rfl) (by kernel_rfl) (.tmp rfl .nil)) (.two (by rw [hg]; first | exact .aggU rfl rfl | exact .aggLe rfl ⟨PVLe.nilSl, PVLe.nilSl, trivial⟩) (.int (by rw [hg])))
  have hg := am_good hs.2 hr hrt hik hnd (by simpa using hc4)
  refine wp_skip (then_n (wp_seq ?_))
  refine region_any (by kernel_rfl) hS (by kernel_rfl)
    (cF rfl (oF 0 101 .is) r1 r1
    (cF rfl (oL false 1 101 .adr) r1 r1
    (cF rfl (oL true 3 102 .is) r1 r1
    (cF rfl (oP (putTx_c g.txs t (by omega)) Tryz.func90 (Args.two .t (.pagg .t))) r2 trivial
    (cF rfl (oF 1 101 .is) r1 r1
    (cF rfl (oL false 1 101 .adr) r1 r1
    (cF rfl (oL true 3 102 .is) r1 r1
    (cF rfl (oP (refSettle_c g.orders t hs.2 ht) Tryz.func91 (Args.two .t (.pagg .t))) r2 trivial
    (cF rfl (oB [(0, .tmp 41), (1, .tmp 45)] [.slice none 0 0, .slice none 0 0] [(0, 1), (1, 1)] (.one rfl .t one_sl (by kernel_rfl) (.one rfl .t one_sl (by kernel_rfl) .nil))) r2 trivial
    (cF rfl (oA 2 103 .is .t) r2 r1
    (cF rfl (oN (.ci (by kernel_rfl))) trivial trivial
    Chain.nil)))))))))))
    (by kernel_rfl) (by rw [hB]; kernel_rfl) ?_
  clear hS; intro a w F hS
  obtain ⟨F, hS⟩ := hS.nm [5, 4] [104, 103, 102, 101, 0] rfl rfl
  try dsimp only [List.map, stCells, xL, xM, Nat.reduceAdd, xD, xE, xT, xU, xC, xN, zCF, ldSF, rHist, rTx, rOrd, rVer, rInt, rOp] at hS
  refine then_n (wp_ret ?_)
  refine ret_P hfr hS rfl (.cell (n := 103) (ag := true) (sz := 2) rfl .is rfl (by kernel_rfl) (by kernel_rfl) (by kernel_rfl) (.tmp rfl .nil)) (.two (by rw [hg]; first | exact .aggU rfl rfl | exact .aggLe rfl ⟨PVLe.nilSl, PVLe.nilSl, trivial⟩) (.int (by rw [hg])))

theorem refDelete_c (g : HistD) (id : Int) (hs : Small g) : FnP Tryz.prog 60 [.agg (rHist g), .int .i64 id] (.tup [.agg (rHist (deleteH g id).1), .int .i64 (deleteH g id).2]) := by
  refine FnP.mk Tryz.func60 rfl Tryz.ntmps60 rfl ?_
  intro B a w F hB hfr hS
  have hsl := hs.1.1
  refine wp_seq ?_
  refine region_q hS
    (cF rfl (oX 101 (.conv .t .agg)) r1 trivial
    (cF rfl (oH [.slice none 0 0, .slice none 0 0] 102) trivial trivial
    (cF rfl (oN (.ci (by kernel_rfl))) trivial trivial
    Chain.nil)))
    hB ?_
  clear hS; intro a w F hS
  replace hS := hS.sub
  obtain ⟨F, hS⟩ := hS.nm [5, 4, 2, 1] [102, 101, 0] rfl rfl
  try dsimp only [RS.sub, SF.sub, CF.sub, csub, Anc.sub, List.map, zCF, rHist, rTx, rOrd, rVer, rInt, rOp] at hS
  generalize Act.tau a 2 = v2 at hS
  generalize Act.tau a 4 = v4 at hS
  refine then_n (wp_seq (wp_seq ?_))
  refine region_q hS
    (cF rfl (oL true 2 101 .is) r1 r1
    (cF rfl (oP (refRightH_c g hs) Tryz.func13 (Args.one (.pagg .t))) r1 trivial
    (cF rfl (o_not .t) r1 trivial
    Chain.nil)))
    hB ?_
  clear hS; intro a w F hS
  obtain ⟨F, hS⟩ := hS.nm [13, 5, 4, 2, 1] [102, 101, 0] rfl rfl
  try dsimp only [List.map, xD, xE, xT, xU, ldSF, rHist, rTx, rOrd, rVer, rInt, rOp] at hS
  refine then_n ?_
  refine cond_b hS rfl (fun hc0 => ?_) (fun hc0 => ?_)
  ·skip
   have hr : ¬ RightH g := by simpa using hc0
   have hg := del_1 (id := id) hr
   refine wp_seq ?_
   refine region_q hS
     (cF rfl (oB [] [.slice none 0 0, .slice none 0 0] [(0, 1), (1, 1)] .nil) trivial trivial
     (cF rfl (oA 2 102 .is .t) r2 r1
     (cF rfl (oN (.ci (by kernel_rfl))) trivial trivial
     Chain.nil)))
     hB ?_
   clear hS; intro a w F hS
   obtain ⟨F, hS⟩ := hS.nm [5, 4, 2, 1] [102, 101, 0] rfl rfl
   try dsimp only [List.map, stCells, xL, xM, Nat.reduceAdd, xD, xE, xT, xU, xC, xN, zCF, rHist, rTx, rOrd, rVer, rInt, rOp] at hS
   refine then_n (wp_ret (then_r ?_))
   refine ret_P hfr hS rfl (.cell (n := 102) (ag := true) (sz := 2) rfl .is rfl (by kernel_rfl) (by kernel_rfl) (by kernel_rfl) (.tmp rfl .nil)) (.two (by rw [hg]; first | exact .aggU rfl rfl | exact .aggLe rfl ⟨PVLe.nilSl, PVLe.nilSl, trivial⟩) (.int (by rw [hg])))
  have hr : RightH g := by simpa using hc0
  refine wp_skip (then_n (wp_seq (wp_seq ?_)))
  refine region_q hS
    (cF rfl (oL true 2 101 .is) r1 r1
    (cF rfl (oM .t) r1 trivial
    (cF rfl (oP (refFind_c g id hs.1) Tryz.func10 (Args.two (.pagg .t) .t)) r2 trivial
    (cF rfl (oM .t) r1 trivial
    (cF rfl (o_extract .t rfl) r1 trivial
    (cF rfl (o_extract .t rfl) r1 trivial
    (cF rfl (oH [.int .i64 0, .bool false, .slice none 0 0] 103) trivial trivial
    (cF rfl (oA 3 103 .same (.conv .t .agg)) r2 r1
    (cF rfl (oN .t) r1 trivial
    Chain.nil)))))))))
    hB ?_
  clear hS; intro a w F hS
  replace hS := hS.sub
  obtain ⟨F, hS⟩ := hS.nm [7, 5, 4, 2, 1] [103, 102, 101, 0] rfl rfl
  try dsimp only [RS.sub, SF.sub, CF.sub, csub, Anc.sub, List.map, stCells, xL, xM, Nat.reduceAdd, xD, xE, xT, xU, xC, xN, zCF, ldSF, rHist, rTx, rOrd, rVer, rInt, rOp] at hS
  generalize Act.tau a 6 = v6 at hS
  refine then_n (wp_seq ?_)
  refine region_q hS
    (cF rfl (oM .t) r1 trivial
    (cF rfl (o_not .t) r1 trivial
    Chain.nil))
    hB ?_
  clear hS; intro a w F hS
  obtain ⟨F, hS⟩ := hS.nm [22, 5, 4, 2, 1] [103, 102, 101, 0] rfl rfl
  try dsimp only [rHist, rTx, rOrd, rVer, rInt, rOp] at hS
  refine then_n ?_
  refine cond_b hS rfl (fun hc1 => ?_) (fun hc1 => ?_)
  ·skip
   have hg := del_2 (id := id) hr (by rw [← find_is]; simpa using hc1)
   refine wp_seq ?_
   refine region_q hS
     (cF rfl (oB [] [.slice none 0 0, .slice none 0 0] [(0, 1), (1, 1)] .nil) trivial trivial
     (cF rfl (oA 2 102 .is .t) r2 r1
     (cF rfl (oN (.ci (by kernel_rfl))) trivial trivial
     Chain.nil)))
     hB ?_
   clear hS; intro a w F hS
   obtain ⟨F, hS⟩ := hS.nm [5, 4, 2, 1] [103, 102, 101, 0] rfl rfl
   try dsimp only [List.map, stCells, xL, xM, Nat.reduceAdd, xD, xE, xT, xU, xC, xN, zCF, rHist, rTx, rOrd, rVer, rInt, rOp] at hS
   refine then_n (wp_ret (then_r ?_))
   refine ret_P hfr hS rfl (.cell (n := 102) (ag := true) (sz := 2) rfl .is rfl (by kernel_rfl) (by kernel_rfl) (by kernel_rfl) (.tmp rfl .nil)) (.two (by rw [hg]; first | exact .aggU rfl rfl | exact .aggLe rfl ⟨PVLe.nilSl, PVLe.nilSl, trivial⟩) (.int (by rw [hg])))
  have hik : isK TxD.id id g.txs = true := by rw [← find_is]; simpa using hc1
  refine wp_skip (then_n (wp_seq (wp_seq ?_)))
  refine region_q hS
    (cF rfl (oL true 2 101 .is) r1 r1
    (cF rfl (oM .t) r1 trivial
    (cF rfl (oB [(0, .tmp 25)] [.int .i64 0, .bool false, .slice none 0 0] [(0, 1), (1, 1), (2, 1)] (.one rfl .t one_int (by kernel_rfl) .nil)) r1 trivial
    (cF rfl (oP (refUsed_c g (noneT id) hs.1 (by simp [noneT])) Tryz.func92 (Args.two (.pagg .t) (.conv (.pagg .t) (Ent.paggLe (l := [.int .i64 id, .bool false, .is (.slice none 0 0)]) (l' := [.int .i64 id, .bool false, .sl rOp []]) ⟨PVLe.refl, PVLe.refl, PVLe.nilSl, trivial⟩)))) r2 trivial
    Chain.nil))))
    hB ?_
  clear hS; intro a w F hS
  obtain ⟨F, hS⟩ := hS.nm [27, 5, 4, 2, 1] [103, 102, 101, 0] rfl rfl
  try dsimp only [List.map, stCells, xL, xM, Nat.reduceAdd, xD, xE, xT, xU, xC, xN, zCF, ldSF, rHist, rTx, rOrd, rVer, rInt, rOp] at hS
  refine then_n ?_
  refine cond_b hS rfl (fun hc2 => ?_) (fun hc2 => ?_)
  ·skip
   have hg := del_3 (id := id) hr hik (by simpa using hc2)
   refine wp_seq ?_
   refine region_q hS
     (cF rfl (oB [] [.slice none 0 0, .slice none 0 0] [(0, 1), (1, 1)] .nil) trivial trivial
     (cF rfl (oA 2 102 .is .t) r2 r1
     (cF rfl (oN (.ci (by kernel_rfl))) trivial trivial
     Chain.nil)))
     hB ?_
   clear hS; intro a w F hS
   obtain ⟨F, hS⟩ := hS.nm [5, 4, 2, 1] [103, 102, 101, 0] rfl rfl
   try dsimp only [List.map, stCells, xL, xM, Nat.reduceAdd, xD, xE, xT, xU, xC, xN, zCF, rHist, rTx, rOrd, rVer, rInt, rOp] at hS
   refine then_n (wp_ret (then_r ?_))
   refine ret_P hfr hS rfl (.cell (n := 102) (ag := true) (sz := 2) rfl .is rfl (by kernel_rfl) (by kernel_rfl) (by kernel_rfl) (.tmp rfl .nil)) (.two (by rw [hg]; first | exact .aggU rfl rfl | exact .aggLe rfl ⟨PVLe.nilSl, PVLe.nilSl, trivial⟩) (.int (by rw [hg])))
  have hud : usedH g (noneT id) = false := by simpa using hc2
  refine wp_skip (then_n (wp_seq ?_))
  refine region_q hS
    (cF rfl (oN (.c rfl)) trivial trivial
    Chain.nil)
    hB ?_
  clear hS; intro a w F hS
  obtain ⟨F, hS⟩ := hS.nm [8, 5, 4, 2, 1] [103, 102, 101, 0] rfl rfl
  try dsimp only [rHist, rTx, rOrd, rVer, rInt, rOp] at hS
  refine then_n (wp_seq (wp_seq ?_))
  refine region_q hS
    (cF rfl (oF 0 101 .is) r1 r1
    (cF rfl (oL false 1 101 .adr) r1 r1
    (cF rfl (o_len_sl Tryz.underlying22 .t) r1 trivial
    (cF rfl (oM (.ci (by kernel_rfl))) trivial trivial
    Chain.nil))))
    hB ?_
  clear hS; intro a w F hS
  obtain ⟨F, hS⟩ := hS.nm [32, 31, 30, 8, 5, 4, 2, 1] [103, 102, 101, 0] rfl rfl
  try dsimp only [List.map, xD, xE, xT, xU, ldSF, rHist, rTx, rOrd, rVer, rInt, rOp] at hS
  refine then_n (wp_block ?_)
  replace hS := hS.fresh 50 rfl
  replace hS := hS.turn 50 rfl (nilRow (T := 32) (sz := 3) (R := rTx))
  refine loop_keep (σ := (Nat) × (Value) × (List TxD)) [1, 2, 4, 5, 30, 31] [0, 101, 102, 103] (fun s => [(32, .pv (.int .i64 (s.1 : Int))), (8, .pv (.is s.2.1))]) (fun s => [(50, .ob (.val s.2.1) (rowH 32 3 rTx s.2.2))]) (fun s => s.1 ≤ g.txs.length ∧ (s.2.2 = ((g.txs.take s.1).filter fun x => !decide (x.id = id)))) (fun s => g.txs.length - s.1) ((0), (.slice none 0 0), ([])) hS ⟨rfl, rfl, rfl, rfl, rfl, rfl, rfl, rfl, trivial⟩ ⟨rfl, rfl, rfl, rfl, rfl, trivial⟩ ⟨Nat.zero_le _, rfl⟩ ?_
  clear hS; intro s a w F hC hS
  obtain ⟨i, v, out⟩ := s
  try dsimp only at hC
  obtain ⟨F, hS⟩ := hS.nm [32, 31, 30, 8, 5, 4, 2, 1] [103, 102, 101, 50, 0] rfl rfl
  try dsimp only at hS
  obtain ⟨hi, hq⟩ := hC
  have hol : out.length ≤ i := by rw [hq]; exact Nat.le_trans (List.length_filter_le _ _) (by rw [List.length_take]; omega)
  refine wp_seq ?_
  refine region_q hS
    (cF rfl (o_lss .t .t) r2 trivial
    Chain.nil)
    hB ?_
  clear hS; intro a w F hS
  obtain ⟨F, hS⟩ := hS.nm [33, 32, 31, 30, 8, 5, 4, 2, 1] [103, 102, 101, 50, 0] rfl rfl
  try dsimp only [rHist, rTx, rOrd, rVer, rInt, rOp] at hS
  refine then_n (wp_seq ?_)
  refine cond_b hS rfl (fun hc3 => ?_) (fun hc3 => ?_)
  ·skip
   have hil : i < g.txs.length := by simp at hc3; omega
   refine wp_skip (then_n (wp_seq (wp_block (wp_seq ?_))))
   refine region_q hS
     (cF rfl (o_indexAddr_sl (sz := 3) (.mk Tryz.underlying22 (by kernel_rfl)) (by intro x; rfl) .t .t (by omega) (by omega)) r2 trivial
     (cF rfl (oR true 3 .t) r1 trivial
     (cF rfl (oH [.int .i64 0, .bool false, .slice none 0 0] 104) trivial trivial
     (cF rfl (oA 3 104 .same .t) r2 r1
     Chain.nil))))
     hB ?_
   clear hS; intro a w F hS
   replace hS := hS.sub
   obtain ⟨F, hS⟩ := hS.nm [35, 34, 33, 32, 31, 30, 10, 8, 5, 4, 2, 1] [104, 103, 102, 101, 50, 0] rfl rfl
   try dsimp only [RS.sub, SF.sub, CF.sub, csub, Anc.sub, List.map, stCells, xL, xM, Nat.reduceAdd, xD, xE, xT, xU, xC, xN, zCF, ldSF, rHist, rTx, rOrd, rVer, rInt, rOp] at hS
   generalize Act.tau a 10 = v10 at hS
   try simp only [Int.toNat_natCast] at hS
   refine then_n (wp_seq ?_)
   refine region_q hS
     (cF rfl (oF 0 104 .is) r1 r1
     (cF rfl (oL false 1 104 .adr) r1 r1
     (cF rfl (oM .t) r1 trivial
     (cF rfl (o_neq .t .t) r2 trivial
     Chain.nil))))
     hB ?_
   clear hS; intro a w F hS
   obtain ⟨F, hS⟩ := hS.nm [39, 38, 37, 36, 35, 34, 33, 32, 31, 30, 10, 8, 5, 4, 2, 1] [104, 103, 102, 101, 50, 0] rfl rfl
   try dsimp only [List.map, xD, xE, xT, xU, ldSF, rHist, rTx, rOrd, rVer, rInt, rOp] at hS
   refine then_n ?_
   refine cond_b hS rfl (fun hc4 => ?_) (fun hc4 => ?_)
   ·skip
    have hst9 : out ++ [(Go.Gm.nth g.txs i)] = ((g.txs.take (i + 1)).filter fun x => !decide (x.id = id)) := by rw [take_nth hil, List.filter_append, ← hq, List.filter_cons_of_pos (by simpa using hc4)]; rfl
    refine region_q hS
      (cF rfl (oM .t) r1 trivial
      (cF rfl (oL true 3 104 .is) r1 r1
      (cF rfl (o_buildSliceE (sz := 3) (zs := [.int .i64 0, .bool false, .slice none 0 0]) (r := [(0, .tmp 41)]) (l := [_, _, _]) Tryz.underlying22 (by kernel_rfl) (by kernel_rfl) (by kernel_rfl) (by kernel_rfl) rfl rfl (.agg rfl .t (by kernel_rfl) (by kernel_rfl) .nil) rfl) r1 trivial
      (cF rfl (o_append (sz := 3) (bs := 40) 50 (.mk' Tryz.underlying22 (by kernel_rfl) (by kernel_rfl)) (by intro x; rfl) .is (.arr (l' := [(Go.Gm.nth g.txs i)]) .t) (by simp only [List.length_append, List.length_cons, List.length_nil]; omega) (by decide)) ⟨rfl, rfl, trivial⟩ ⟨rfl, trivial⟩
      (cF rfl (oN .t) r1 trivial
      Chain.nil)))))
      hB ?_
    clear hS; intro a w F hS
    replace hS := hS.sub
    obtain ⟨F, hS⟩ := hS.nm [43, 42, 41, 40, 39, 38, 37, 36, 35, 34, 33, 32, 31, 30, 10, 8, 5, 4, 2, 1] [104, 103, 102, 101, 50, 0] rfl rfl
    try dsimp only [RS.sub, SF.sub, CF.sub, csub, Anc.sub, List.map, stCells, xL, xM, Nat.reduceAdd, xD, xE, xT, xU, xC, xN, zCF, ldSF, rHist, rTx, rOrd, rVer, rInt, rOp] at hS
    generalize Act.tau a 43 = v43 at hS
    refine block_n (then_n ?_)
    refine region_q hS
      (cF rfl (o_add .t (.ci (by kernel_rfl))) r1 trivial
      (cF rfl (oM .t) r1 trivial
      Chain.nil))
      hB ?_
    clear hS; intro a w F hS
    obtain ⟨F, hS⟩ := hS.nm [44, 43, 42, 41, 40, 39, 38, 37, 36, 35, 34, 33, 32, 31, 30, 10, 8, 5, 4, 2, 1] [104, 103, 102, 101, 50, 0] rfl rfl
    try dsimp only [rHist, rTx, rOrd, rVer, rInt, rOp] at hS
    refine then_n ?_
    replace hS := hS.ent (i := 32) (s' := .pv (.int .i64 ((i + 1 : Nat) : Int))) rfl (.int (wrap_succ (by omega)))
    obtain ⟨F, hS⟩ := hS.nm [31, 30, 5, 4, 2, 1, 8, 32] [103, 102, 101, 0, 50] rfl rfl
    exact ⟨((i + 1), _, _), F, ⟨by omega, hst9⟩, hS, by omega⟩
   have hst9 : out = ((g.txs.take (i + 1)).filter fun x => !decide (x.id = id)) := by rw [take_nth hil, List.filter_append, ← hq, List.filter_cons_of_neg (by simpa using hc4), List.filter_nil, List.append_nil]
   refine wp_skip (block_n (then_n ?_))
   refine region_q hS
     (cF rfl (o_add .t (.ci (by kernel_rfl))) r1 trivial
     (cF rfl (oM .t) r1 trivial
     Chain.nil))
     hB ?_
   clear hS; intro a w F hS
   obtain ⟨F, hS⟩ := hS.nm [44, 39, 38, 37, 36, 35, 34, 33, 32, 31, 30, 10, 8, 5, 4, 2, 1] [104, 103, 102, 101, 50, 0] rfl rfl
   try dsimp only [rHist, rTx, rOrd, rVer, rInt, rOp] at hS
   refine then_n ?_
   replace hS := hS.ent (i := 32) (s' := .pv (.int .i64 ((i + 1 : Nat) : Int))) rfl (.int (wrap_succ (by omega)))
   obtain ⟨F, hS⟩ := hS.nm [31, 30, 5, 4, 2, 1, 8, 32] [103, 102, 101, 0, 50] rfl rfl
   exact ⟨((i + 1), _, _), F, ⟨by omega, hst9⟩, hS, by omega⟩
  have hil : i = g.txs.length := by simp at hc3; omega
  have hout : out = g.txs.filter fun x => !decide (x.id = id) := by rw [hq, hil, List.take_length]
  subst hout
  have hg := del_4 (id := id) hs.2 hr hik hud
  refine wp_exit (then_x (then_x (block_x (then_n (wp_seq ?_)))))
  obtain ⟨F, hS⟩ := hS.give 50 8 rfl rfl
  obtain ⟨F, hS⟩ := hS.nm [33, 32, 31, 30, 8, 5, 4, 2, 1] [103, 102, 101, 0] rfl rfl
  refine region_q hS
    (cF rfl (oM .t) r1 trivial
    (cF rfl (oF 1 101 .is) r1 r1
    (cF rfl (oL false 1 101 .adr) r1 r1
    (cF rfl (oM .t) r1 trivial
    (cF rfl (oB [(0, .tmp 48)] [.int .i64 0, .bool false, .slice none 0 0] [(0, 1), (1, 1), (2, 1)] (.one rfl .t one_int (by kernel_rfl) .nil)) r1 trivial
    (cF rfl (oP (refSettle_c g.orders (noneT id) hs.2 (by simp [noneT])) Tryz.func91 (Args.two .t (.conv (.pagg .t) (Ent.paggLe (l := [.int .i64 id, .bool false, .is (.slice none 0 0)]) (l' := [.int .i64 id, .bool false, .sl rOp []]) ⟨PVLe.refl, PVLe.refl, PVLe.nilSl, trivial⟩)))) r2 trivial
    (cF rfl (oB [(0, .tmp 45), (1, .tmp 50)] [.slice none 0 0, .slice none 0 0] [(0, 1), (1, 1)] (.one rfl .t one_sl (by kernel_rfl) (.one rfl .t one_sl (by kernel_rfl) .nil))) r2 trivial
    (cF rfl (oA 2 102 .is .t) r2 r1
    (cF rfl (oN (.ci (by kernel_rfl))) trivial trivial
    Chain.nil)))))))))
    hB ?_
  clear hS; intro a w F hS
  obtain ⟨F, hS⟩ := hS.nm [5, 4] [103, 102, 101, 0] rfl rfl
  try dsimp only [List.map, stCells, xL, xM, Nat.reduceAdd, xD, xE, xT, xU, xC, xN, zCF, ldSF, rHist, rTx, rOrd, rVer, rInt, rOp] at hS
  refine then_n (wp_ret ?_)
  refine ret_P hfr hS rfl (.cell (n := 102) (ag := true) (sz := 2) rfl .is rfl (by kernel_rfl) (by kernel_rfl) (by kernel_rfl) (.tmp rfl .nil)) (.two (by rw [hg]; first | exact .aggU rfl rfl | exact .aggLe rfl ⟨PVLe.nilSl, PVLe.nilSl, trivial⟩) (.int (by rw [hg])))

theorem refReorder_c (g : HistD) (o : OrdD) (hs : Small g) (ho : o.txs.length ≤ 1000) : FnP Tryz.prog 62 [.agg (rHist g), .agg (rOrd o)] (.tup [.agg (rHist (reorderH g o).1), .int .i64 (reorderH g o).2]) := by
  refine FnP.mk Tryz.func62 rfl Tryz.ntmps62 rfl ?_
  intro B a w F hB hfr hS
  have hso := hs.2.1
  refine wp_seq ?_
  refine region_q hS
    (cF rfl (oX 101 (.conv .t .agg)) r1 trivial
    (cF rfl (oX 102 (.conv .t .agg)) r1 trivial
    (cF rfl (oH [.slice none 0 0, .slice none 0 0] 103) trivial trivial
    (cF rfl (oN (.ci (by kernel_rfl))) trivial trivial
    Chain.nil))))
    hB ?_
  clear hS; intro a w F hS
  replace hS := hS.sub
  obtain ⟨F, hS⟩ := hS.nm [5, 4, 3, 2] [103, 102, 101, 0] rfl rfl
  try dsimp only [RS.sub, SF.sub, CF.sub, csub, Anc.sub, List.map, zCF, rHist, rTx, rOrd, rVer, rInt, rOp] at hS
  generalize Act.tau a 2 = v2 at hS
  generalize Act.tau a 3 = v3 at hS
  generalize Act.tau a 4 = v4 at hS
  refine then_n (wp_seq (wp_seq ?_))
  refine region_q hS
    (cF rfl (oL true 2 101 .is) r1 r1
    (cF rfl (oP (refRightH_c g hs) Tryz.func13 (Args.one (.pagg .t))) r1 trivial
    (cF rfl (o_not .t) r1 trivial
    Chain.nil)))
    hB ?_
  clear hS; intro a w F hS
  obtain ⟨F, hS⟩ := hS.nm [9, 5, 4, 3, 2] [103, 102, 101, 0] rfl rfl
  try dsimp only [List.map, xD, xE, xT, xU, ldSF, rHist, rTx, rOrd, rVer, rInt, rOp] at hS
  refine then_n ?_
  refine cond_b hS rfl (fun hc0 => ?_) (fun hc0 => ?_)
  ·skip
   have hr : ¬ RightH g := by simpa using hc0
   have hg : reorderH g o = (zeroH, 5) := turn_1 hr
   refine wp_seq ?_
   refine region_q hS
     (cF rfl (oB [] [.slice none 0 0, .slice none 0 0] [(0, 1), (1, 1)] .nil) trivial trivial
     (cF rfl (oA 2 103 .is .t) r2 r1
     (cF rfl (oN (.ci (by kernel_rfl))) trivial trivial
     Chain.nil)))
     hB ?_
   clear hS; intro a w F hS
   obtain ⟨F, hS⟩ := hS.nm [5, 4, 3, 2] [103, 102, 101, 0] rfl rfl
   try dsimp only [List.map, stCells, xL, xM, Nat.reduceAdd, xD, xE, xT, xU, xC, xN, zCF, rHist, rTx, rOrd, rVer, rInt, rOp] at hS
   refine then_n (wp_ret (then_r ?_))
   refine ret_P hfr hS rfl (.cell (n := 103) (ag := true) (sz := 2) rfl .is rfl (by kernel_rfl) (by kernel_rfl) (by kernel_rfl) (.tmp rfl .nil)) (.two (by rw [hg]; first | exact .aggU rfl rfl | exact .aggLe rfl ⟨PVLe.nilSl, PVLe.nilSl, trivial⟩) (.int (by rw [hg])))
  have hr : RightH g := by simpa using hc0
  refine wp_skip (then_n (wp_seq ?_))
  refine region_q hS
    (cF rfl (oL true 2 101 .is) r1 r1
    (cF rfl (oF 0 102 .is) r1 r1
    (cF rfl (oL false 1 102 .adr) r1 r1
    (cF rfl (oP (refOrder_c g o.key) Tryz.func16 (Args.two (.pagg .t) .t)) r2 trivial
    (cF rfl (oN .t) r1 trivial
    Chain.nil)))))
    hB ?_
  clear hS; intro a w F hS
  obtain ⟨F, hS⟩ := hS.nm [6, 5, 4, 3, 2] [103, 102, 101, 0] rfl rfl
  try dsimp only [List.map, xD, xE, xT, xU, ldSF, rHist, rTx, rOrd, rVer, rInt, rOp] at hS
  refine then_n (wp_seq (wp_seq ?_))
  refine region_q hS
    (cF rfl (oM .t) r1 trivial
    (cF rfl (o_len_sl Tryz.underlying37 .t) r1 trivial
    (cF rfl (o_eql .t (.ci (by kernel_rfl))) r1 trivial
    Chain.nil)))
    hB ?_
  clear hS; intro a w F hS
  obtain ⟨F, hS⟩ := hS.nm [17, 6, 5, 4, 3, 2] [103, 102, 101, 0] rfl rfl
  try dsimp only [rHist, rTx, rOrd, rVer, rInt, rOp] at hS
  refine then_n ?_
  refine cond_b hS rfl (fun hc1 => ?_) (fun hc1 => ?_)
  ·skip
   have hg : reorderH g o = (zeroH, 3) := turn_2 hr (by simpa using hc1)
   refine wp_seq ?_
   refine region_q hS
     (cF rfl (oB [] [.slice none 0 0, .slice none 0 0] [(0, 1), (1, 1)] .nil) trivial trivial
     (cF rfl (oA 2 103 .is .t) r2 r1
     (cF rfl (oN (.ci (by kernel_rfl))) trivial trivial
     Chain.nil)))
     hB ?_
   clear hS; intro a w F hS
   obtain ⟨F, hS⟩ := hS.nm [6, 5, 4, 3, 2] [103, 102, 101, 0] rfl rfl
   try dsimp only [List.map, stCells, xL, xM, Nat.reduceAdd, xD, xE, xT, xU, xC, xN, zCF, rHist, rTx, rOrd, rVer, rInt, rOp] at hS
   refine then_n (wp_ret (then_r ?_))
   refine ret_P hfr hS rfl (.cell (n := 103) (ag := true) (sz := 2) rfl .is rfl (by kernel_rfl) (by kernel_rfl) (by kernel_rfl) (.tmp rfl .nil)) (.two (by rw [hg]; first | exact .aggU rfl rfl | exact .aggLe rfl ⟨PVLe.nilSl, PVLe.nilSl, trivial⟩) (.int (by rw [hg])))
  have hgn : (getO g.orders o.key) ≠ [] := by simpa using hc1
  have hwl := getO_len hs.2 o.key
  refine wp_skip (then_n (wp_seq (wp_seq ?_)))
  refine region_q hS
    (cF rfl (oM .t) r1 trivial
    (cF rfl (oF 1 102 .is) r1 r1
    (cF rfl (oL false 1 102 .adr) r1 r1
    (cF rfl (oP (perm11_c (getO g.orders o.key) o.txs) Tryz.func43 (Args.two .t .t)) r2 trivial
    (cF rfl (o_not .t) r1 trivial
    Chain.nil)))))
    hB ?_
  clear hS; intro a w F hS
  obtain ⟨F, hS⟩ := hS.nm [23, 5, 4, 3, 2] [103, 102, 101, 0] rfl rfl
  try dsimp only [List.map, xD, xE, xT, xU, ldSF, rHist, rTx, rOrd, rVer, rInt, rOp] at hS
  refine then_n ?_
  refine cond_b hS rfl (fun hc2 => ?_) (fun hc2 => ?_)
  ·skip
   have hp : ¬ (getO g.orders o.key).Perm o.txs := by simpa using hc2
   have hru : ruleR o (getO g.orders o.key) = ([], 8) := if_neg hp
   have hg : reorderH g o = (zeroH, 8) := by have := turn_3 (rule := ruleR o) hr hgn (by rw [hru]; decide); rw [hru] at this; exact this
   refine wp_seq ?_
   refine region_q hS
     (cF rfl (oB [] [.slice none 0 0, .slice none 0 0] [(0, 1), (1, 1)] .nil) trivial trivial
     (cF rfl (oA 2 103 .is .t) r2 r1
     (cF rfl (oN (.ci (by kernel_rfl))) trivial trivial
     Chain.nil)))
     hB ?_
   clear hS; intro a w F hS
   obtain ⟨F, hS⟩ := hS.nm [5, 4, 3, 2] [103, 102, 101, 0] rfl rfl
   try dsimp only [List.map, stCells, xL, xM, Nat.reduceAdd, xD, xE, xT, xU, xC, xN, zCF, rHist, rTx, rOrd, rVer, rInt, rOp] at hS
   refine then_n (wp_ret (then_r ?_))
   refine ret_P hfr hS rfl (.cell (n := 103) (ag := true) (sz := 2) rfl .is rfl (by kernel_rfl) (by kernel_rfl) (by kernel_rfl) (.tmp rfl .nil)) (.two (by rw [hg]; first | exact .aggU rfl rfl | exact .aggLe rfl ⟨PVLe.nilSl, PVLe.nilSl, trivial⟩) (.int (by rw [hg])))
  have hp : (getO g.orders o.key).Perm o.txs := by simpa using hc2
  have hru : ruleR o (getO g.orders o.key) = (o.txs, 0) := if_pos hp
  have hg : reorderH g o = (⟨g.txs, putGR OrdD.key o g.orders (decide (o.txs = []))⟩, 0) := by have := turn_4 (rule := ruleR o) hr hgn (by rw [hru]) (by rw [hru]; intro e; have e : o.txs = [] := e; rw [e] at hp; exact hgn hp.eq_nil); rw [hru] at this; exact this
  refine wp_skip (then_n (wp_seq ?_))
  refine region_any (by kernel_rfl) hS (by kernel_rfl)
    (cF rfl (oF 0 101 .is) r1 r1
    (cF rfl (oL false 1 101 .adr) r1 r1
    (cF rfl (oF 1 101 .is) r1 r1
    (cF rfl (oL false 1 101 .adr) r1 r1
    (cF rfl (oL true 2 102 .is) r1 r1
    (cF rfl (oP (putOrder_c g.orders o (by omega)) Tryz.func93 (Args.two .t (.pagg .t))) r2 trivial
    (cF rfl (oB [(0, .tmp 26), (1, .tmp 30)] [.slice none 0 0, .slice none 0 0] [(0, 1), (1, 1)] (.one rfl .t one_sl (by kernel_rfl) (.one rfl .t one_sl (by kernel_rfl) .nil))) r2 trivial
    (cF rfl (oA 2 103 .is .t) r2 r1
    (cF rfl (oN (.ci (by kernel_rfl))) trivial trivial
    Chain.nil)))))))))
    (by kernel_rfl) (by rw [hB]; kernel_rfl) ?_
  clear hS; intro a w F hS
  obtain ⟨F, hS⟩ := hS.nm [5, 4] [103, 102, 101, 0] rfl rfl
  try dsimp only [List.map, stCells, xL, xM, Nat.reduceAdd, xD, xE, xT, xU, xC, xN, zCF, ldSF, rHist, rTx, rOrd, rVer, rInt, rOp] at hS
  refine then_n (wp_ret ?_)
  refine ret_P hfr hS rfl (.cell (n := 103) (ag := true) (sz := 2) rfl .is rfl (by kernel_rfl) (by kernel_rfl) (by kernel_rfl) (.tmp rfl .nil)) (.two (by rw [hg]; first | exact .aggU rfl rfl | exact .aggLe rfl ⟨PVLe.nilSl, PVLe.nilSl, trivial⟩) (.int (by rw [hg])))

theorem refMove_c (g : HistD) (key id place : Int) (hs : Small g) : FnP Tryz.prog 63 [.agg (rHist g), .int .i64 key, .int .i64 id, .int .i64 place] (.tup [.agg (rHist (moveH g key id place).1), .int .i64 (moveH g key id place).2]) := by
  refine FnP.mk Tryz.func63 rfl Tryz.ntmps63 rfl ?_
  intro B a w F hB hfr hS
  have hso := hs.2.1
  refine wp_seq ?_
  refine region_q hS
    (cF rfl (oX 101 (.conv .t .agg)) r1 trivial
    (cF rfl (oH [.slice none 0 0, .slice none 0 0] 102) trivial trivial
    (cF rfl (oN (.ci (by kernel_rfl))) trivial trivial
    Chain.nil)))
    hB ?_
  clear hS; intro a w F hS
  replace hS := hS.sub
  obtain ⟨F, hS⟩ := hS.nm [9, 8, 4, 3, 2, 1] [102, 101, 0] rfl rfl
  try dsimp only [RS.sub, SF.sub, CF.sub, csub, Anc.sub, List.map, zCF, rHist, rTx, rOrd, rVer, rInt, rOp] at hS
  generalize Act.tau a 4 = v4 at hS
  generalize Act.tau a 8 = v8 at hS
  refine then_n (wp_seq (wp_seq ?_))
  refine region_q hS
    (cF rfl (oL true 2 101 .is) r1 r1
    (cF rfl (oP (refRightH_c g hs) Tryz.func13 (Args.one (.pagg .t))) r1 trivial
    (cF rfl (o_not .t) r1 trivial
    Chain.nil)))
    hB ?_
  clear hS; intro a w F hS
  obtain ⟨F, hS⟩ := hS.nm [15, 9, 8, 4, 3, 2, 1] [102, 101, 0] rfl rfl
  try dsimp only [List.map, xD, xE, xT, xU, ldSF, rHist, rTx, rOrd, rVer, rInt, rOp] at hS
  refine then_n ?_
  refine cond_b hS rfl (fun hc0 => ?_) (fun hc0 => ?_)
  ·skip
   have hr : ¬ RightH g := by simpa using hc0
   have hg : moveH g key id place = (zeroH, 5) := turn_1 hr
   refine wp_seq ?_
   refine region_q hS
     (cF rfl (oB [] [.slice none 0 0, .slice none 0 0] [(0, 1), (1, 1)] .nil) trivial trivial
     (cF rfl (oA 2 102 .is .t) r2 r1
     (cF rfl (oN (.ci (by kernel_rfl))) trivial trivial
     Chain.nil)))
     hB ?_
   clear hS; intro a w F hS
   obtain ⟨F, hS⟩ := hS.nm [9, 8, 4, 3, 2, 1] [102, 101, 0] rfl rfl
   try dsimp only [List.map, stCells, xL, xM, Nat.reduceAdd, xD, xE, xT, xU, xC, xN, zCF, rHist, rTx, rOrd, rVer, rInt, rOp] at hS
   refine then_n (wp_ret (then_r ?_))
   refine ret_P hfr hS rfl (.cell (n := 102) (ag := true) (sz := 2) rfl .is rfl (by kernel_rfl) (by kernel_rfl) (by kernel_rfl) (.tmp rfl .nil)) (.two (by rw [hg]; first | exact .aggU rfl rfl | exact .aggLe rfl ⟨PVLe.nilSl, PVLe.nilSl, trivial⟩) (.int (by rw [hg])))
  have hr : RightH g := by simpa using hc0
  have hwl := getO_len hs.2 key
  refine wp_skip (then_n (wp_seq ?_))
  refine region_q hS
    (cF rfl (oL true 2 101 .is) r1 r1
    (cF rfl (oM .t) r1 trivial
    (cF rfl (oP (refOrder_c g key) Tryz.func16 (Args.two (.pagg .t) .t)) r2 trivial
    (cF rfl (oN .t) r1 trivial
    Chain.nil))))
    hB ?_
  clear hS; intro a w F hS
  obtain ⟨F, hS⟩ := hS.nm [10, 9, 8, 4, 3, 2, 1] [102, 101, 0] rfl rfl
  try dsimp only [List.map, xD, xE, xT, xU, ldSF, rHist, rTx, rOrd, rVer, rInt, rOp] at hS
  refine then_n (wp_seq (wp_seq ?_))
  refine region_q hS
    (cF rfl (oM .t) r1 trivial
    (cF rfl (o_len_sl Tryz.underlying37 .t) r1 trivial
    (cF rfl (o_eql .t (.ci (by kernel_rfl))) r1 trivial
    Chain.nil)))
    hB ?_
  clear hS; intro a w F hS
  obtain ⟨F, hS⟩ := hS.nm [22, 10, 9, 8, 4, 3, 2, 1] [102, 101, 0] rfl rfl
  try dsimp only [rHist, rTx, rOrd, rVer, rInt, rOp] at hS
  refine then_n ?_
  refine cond_b hS rfl (fun hc1 => ?_) (fun hc1 => ?_)
  ·skip
   have hg : moveH g key id place = (zeroH, 3) := turn_2 hr (by simpa using hc1)
   refine wp_seq ?_
   refine region_q hS
     (cF rfl (oB [] [.slice none 0 0, .slice none 0 0] [(0, 1), (1, 1)] .nil) trivial trivial
     (cF rfl (oA 2 102 .is .t) r2 r1
     (cF rfl (oN (.ci (by kernel_rfl))) trivial trivial
     Chain.nil)))
     hB ?_
   clear hS; intro a w F hS
   obtain ⟨F, hS⟩ := hS.nm [10, 9, 8, 4, 3, 2, 1] [102, 101, 0] rfl rfl
   try dsimp only [List.map, stCells, xL, xM, Nat.reduceAdd, xD, xE, xT, xU, xC, xN, zCF, rHist, rTx, rOrd, rVer, rInt, rOp] at hS
   refine then_n (wp_ret (then_r ?_))
   refine ret_P hfr hS rfl (.cell (n := 102) (ag := true) (sz := 2) rfl .is rfl (by kernel_rfl) (by kernel_rfl) (by kernel_rfl) (.tmp rfl .nil)) (.two (by rw [hg]; first | exact .aggU rfl rfl | exact .aggLe rfl ⟨PVLe.nilSl, PVLe.nilSl, trivial⟩) (.int (by rw [hg])))
  have hgn : (getO g.orders key) ≠ [] := by simpa using hc1
  refine wp_skip (then_n (wp_seq ?_))
  refine region_q hS
    (cF rfl (oM .t) r1 trivial
    (cF rfl (oM .t) r1 trivial
    (cF rfl (oM .t) r1 trivial
    (cF rfl (oP (move11_c (getO g.orders key) id place (by omega)) Tryz.func94 (Args.three .t .t .t)) r3 trivial
    (cF rfl (oM .t) r1 trivial
    (cF rfl (o_extract .t rfl) r1 trivial
    (cF rfl (o_extract .t rfl) r1 trivial
    (cF rfl (oN .t) r1 trivial
    (cF rfl (oN .t) r1 trivial
    Chain.nil)))))))))
    hB ?_
  clear hS; intro a w F hS
  obtain ⟨F, hS⟩ := hS.nm [12, 11, 9, 8, 4, 1] [102, 101, 0] rfl rfl
  try dsimp only [rHist, rTx, rOrd, rVer, rInt, rOp] at hS
  refine then_n (wp_seq (wp_seq ?_))
  refine region_q hS
    (cF rfl (oM .t) r1 trivial
    (cF rfl (o_neq .t (.ci (by kernel_rfl))) r1 trivial
    Chain.nil))
    hB ?_
  clear hS; intro a w F hS
  obtain ⟨F, hS⟩ := hS.nm [32, 12, 11, 9, 8, 4, 1] [102, 101, 0] rfl rfl
  try dsimp only [rHist, rTx, rOrd, rVer, rInt, rOp] at hS
  refine then_n ?_
  refine cond_b hS rfl (fun hc2 => ?_) (fun hc2 => ?_)
  ·skip
   have hg : moveH g key id place = (zeroH, (moveO (getO g.orders key) id place).2) := turn_3 (rule := fun l => moveO l id place) hr hgn (by simpa using hc2)
   refine wp_seq ?_
   refine region_q hS
     (cF rfl (oB [] [.slice none 0 0, .slice none 0 0] [(0, 1), (1, 1)] .nil) trivial trivial
     (cF rfl (oM .t) r1 trivial
     (cF rfl (oA 2 102 .is .t) r2 r1
     (cF rfl (oN .t) r1 trivial
     Chain.nil))))
     hB ?_
   clear hS; intro a w F hS
   obtain ⟨F, hS⟩ := hS.nm [11, 9, 8, 4, 1] [102, 101, 0] rfl rfl
   try dsimp only [List.map, stCells, xL, xM, Nat.reduceAdd, xD, xE, xT, xU, xC, xN, zCF, rHist, rTx, rOrd, rVer, rInt, rOp] at hS
   refine then_n (wp_ret (then_r ?_))
   refine ret_P hfr hS rfl (.cell (n := 102) (ag := true) (sz := 2) rfl .is rfl (by kernel_rfl) (by kernel_rfl) (by kernel_rfl) (.tmp rfl .nil)) (.two (by rw [hg]; first | exact .aggU rfl rfl | exact .aggLe rfl ⟨PVLe.nilSl, PVLe.nilSl, trivial⟩) (.int (by rw [hg])))
  have hm0 : (moveO (getO g.orders key) id place).2 = 0 := by simpa using hc2
  have hg : moveH g key id place = (⟨g.txs, putGR OrdD.key ⟨key, (moveO (getO g.orders key) id place).1⟩ g.orders (decide ((moveO (getO g.orders key) id place).1 = []))⟩, 0) := turn_4 (rule := fun l => moveO l id place) hr hgn hm0 (fun e => hgn (by have hp := move_perm hm0; rw [e] at hp; exact hp.symm.eq_nil))
  refine wp_skip (then_n (wp_seq ?_))
  refine region_any (by kernel_rfl) hS (by kernel_rfl)
    (cF rfl (oF 0 101 .is) r1 r1
    (cF rfl (oL false 1 101 .adr) r1 r1
    (cF rfl (oF 1 101 .is) r1 r1
    (cF rfl (oL false 1 101 .adr) r1 r1
    (cF rfl (oM .t) r1 trivial
    (cF rfl (oM .t) r1 trivial
    (cF rfl (oB [(0, .tmp 39), (1, .tmp 40)] [.int .i64 0, .slice none 0 0] [(0, 1), (1, 1)] (.one rfl .t one_int (by kernel_rfl) (.one rfl .t one_sl (by kernel_rfl) .nil))) r2 trivial
    (cF rfl (oP (putOrder_c g.orders ⟨key, (moveO (getO g.orders key) id place).1⟩ (by omega)) Tryz.func93 (Args.two .t (.pagg .t))) r2 trivial
    (cF rfl (oB [(0, .tmp 36), (1, .tmp 42)] [.slice none 0 0, .slice none 0 0] [(0, 1), (1, 1)] (.one rfl .t one_sl (by kernel_rfl) (.one rfl .t one_sl (by kernel_rfl) .nil))) r2 trivial
    (cF rfl (oA 2 102 .is .t) r2 r1
    (cF rfl (oN (.ci (by kernel_rfl))) trivial trivial
    Chain.nil)))))))))))
    (by kernel_rfl) (by rw [hB]; kernel_rfl) ?_
  clear hS; intro a w F hS
  obtain ⟨F, hS⟩ := hS.nm [9, 8] [102, 101, 0] rfl rfl
  try dsimp only [List.map, stCells, xL, xM, Nat.reduceAdd, xD, xE, xT, xU, xC, xN, zCF, ldSF, rHist, rTx, rOrd, rVer, rInt, rOp] at hS
  refine then_n (wp_ret ?_)
  refine ret_P hfr hS rfl (.cell (n := 102) (ag := true) (sz := 2) rfl .is rfl (by kernel_rfl) (by kernel_rfl) (by kernel_rfl) (.tmp rfl .nil)) (.two (by rw [hg]; first | exact .aggU rfl rfl | exact .aggLe rfl ⟨PVLe.nilSl, PVLe.nilSl, trivial⟩) (.int (by rw [hg])))

end Go.Proofs.YtpjjmolibanakaaGreat
