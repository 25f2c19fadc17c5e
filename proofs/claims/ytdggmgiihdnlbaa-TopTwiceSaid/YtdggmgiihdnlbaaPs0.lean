/- Edges in order: the plain law. No condition beyond those that each theorem says. -/
import Derived.Test.YtdggmgiihdnlbaaPkX
import Derived.Test.YtdggmgiihdnlbaaLibL
namespace Go.Proofs.Ytdggmgiihdnlbaa
open Go Go.Gm
set_option linter.unusedVariables false
set_option linter.unusedSimpArgs false
set_option maxHeartbeats 4000000
set_option maxRecDepth 8000

theorem inR0 : inR .i64 0 := by show IntKind.min .i64 ≤ 0 ∧ 0 ≤ IntKind.max .i64; decide

/-- Neighbours that are alike, once. -/
def compactG {α : Type} [DecidableEq α] : List α → List α
  | [] => []
  | [x] => [x]
  | x :: y :: l => if x = y then compactG (y :: l) else x :: compactG (y :: l)
theorem compactG_snoc {α : Type} [DecidableEq α] (a b : α) : ∀ l : List α, compactG (l ++ [a, b]) = if a = b then compactG (l ++ [a]) else compactG (l ++ [a]) ++ [b]
  | [] => by
    show (if a = b then [b] else a :: [b]) = if a = b then [a] else [a] ++ [b]
    split
    · rename_i h; rw [h]
    · rfl
  | [x] => by
    have ih := compactG_snoc a b []
    show (if x = a then compactG ([] ++ [a, b]) else x :: compactG ([] ++ [a, b])) = if a = b then (if x = a then compactG ([] ++ [a]) else x :: compactG ([] ++ [a])) else (if x = a then compactG ([] ++ [a]) else x :: compactG ([] ++ [a])) ++ [b]
    rw [ih]
    by_cases h1 : x = a <;> by_cases h2 : a = b <;> simp [h1, h2]
  | x :: y :: l => by
    have ih := compactG_snoc a b (y :: l)
    show (if x = y then compactG (y :: l ++ [a, b]) else x :: compactG (y :: l ++ [a, b])) = if a = b then (if x = y then compactG (y :: l ++ [a]) else x :: compactG (y :: l ++ [a])) else (if x = y then compactG (y :: l ++ [a]) else x :: compactG (y :: l ++ [a])) ++ [b]
    rw [ih]
    by_cases h1 : x = y <;> by_cases h2 : a = b <;> simp [h1, h2]
theorem compactG_step {α : Type} [DecidableEq α] [Inhabited α] {l : List α} {p : Nat} (h1 : 1 ≤ p) (h2 : p < l.length) : compactG (l.take (p + 1)) = if Go.Gm.nth l (p - 1) = Go.Gm.nth l p then compactG (l.take p) else compactG (l.take p) ++ [Go.Gm.nth l p] := by
  obtain ⟨q, rfl⟩ : ∃ q, p = q + 1 := ⟨p - 1, by omega⟩
  rw [take_nth h2, take_nth (show q < l.length by omega), List.append_assoc]
  exact compactG_snoc _ _ _
theorem compactG_one {α : Type} [DecidableEq α] : ∀ {l : List α}, l.length ≤ 1 → compactG l = l
  | [], _ => rfl
  | [x], _ => rfl
  | x :: y :: l, h => by simp at h

/-- A strict order that parts whatever two are not one. -/
structure STO {α : Type} (lt : α → α → Bool) : Prop where
  irr : ∀ a, lt a a = false
  tr : ∀ a b c, lt a b = true → lt b c = true → lt a c = true
  tot : ∀ a b, lt a b = false → lt b a = false → a = b
section
variable {α : Type} {lt : α → α → Bool}
theorem STO.asym (h : STO lt) {a b : α} (k : lt a b = true) : lt b a = false := by
  cases e : lt b a with
  | false => rfl
  | true => have := h.tr a b a k e; rw [h.irr] at this; cases this
theorem STO.ne (h : STO lt) {a b : α} (k : lt a b = true) : a ≠ b := fun e => by subst e; rw [h.irr] at k; cases k
theorem STO.le (h : STO lt) {a b c : α} (h1 : lt a b = true) (h2 : lt c b = false) : lt a c = true := by
  cases e : lt a c with
  | true => rfl
  | false =>
    cases e2 : lt c a with
    | true => have := h.tr c a b e2 h1; rw [h2] at this; cases this
    | false => have := h.tot a c e e2; subst this; rw [h1] at h2; cases h2
abbrev IncG (lt : α → α → Bool) (l : List α) : Prop := l.Pairwise fun a b => lt a b = true
theorem incG_unique (h : STO lt) : ∀ {a b : List α}, IncG lt a → IncG lt b → (∀ x, x ∈ a ↔ x ∈ b) → a = b
  | [], [], _, _, _ => rfl
  | [], y :: b, _, _, k => by have := (k y).2 (by simp); cases this
  | x :: a, [], _, _, k => by have := (k x).1 (by simp); cases this
  | x :: a, y :: b, ha, hb, k => by
    have ha' := List.pairwise_cons.1 ha
    have hb' := List.pairwise_cons.1 hb
    have e : x = y := by
      rcases List.mem_cons.1 ((k x).1 (by simp)) with e | e
      · exact e
      · rcases List.mem_cons.1 ((k y).2 (by simp)) with e2 | e2
        · exact e2.symm
        · have h1 := h.asym (hb'.1 x e); rw [ha'.1 y e2] at h1; cases h1
    subst e
    congr 1
    refine incG_unique h ha'.2 hb'.2 fun z => ⟨fun hz => ?_, fun hz => ?_⟩
    · rcases List.mem_cons.1 ((k z).1 (by simp [hz])) with e | e
      · exact absurd e.symm (h.ne (ha'.1 z hz))
      · exact e
    · rcases List.mem_cons.1 ((k z).2 (by simp [hz])) with e | e
      · exact absurd e.symm (h.ne (hb'.1 z hz))
      · exact e
theorem sortG_le (h : STO lt) (l : List α) : (l.mergeSort fun x y => !lt y x).Pairwise (fun a b => lt b a = false) := by
  have := List.pairwise_mergeSort (le := fun x y => !lt y x) (fun a b c h1 h2 => by
    simp at h1 h2 ⊢
    cases e : lt c a with
    | false => rfl
    | true => have := h.le e h1; rw [h2] at this; cases this) (fun a b => by
    cases e : lt b a with
    | false => simp
    | true => simp [h.asym e]) l
  exact this.imp fun h => by simpa using h
variable [DecidableEq α]
/-- What the document puts into an order. -/
def putRG (lt : α → α → Bool) (e : α) : List α → Bool → List α
  | [], d => if d then [] else [e]
  | x :: l, d => (if d = false ∧ lt x e = false then [e] else []) ++ (if x = e then [] else [x]) ++ putRG lt e l (d || !lt x e)
def putG (lt : α → α → Bool) (l : List α) (e : α) : List α := putRG lt e l false
theorem putRG_len (lt : α → α → Bool) (e : α) : ∀ (l : List α) (d : Bool), (putRG lt e l d).length ≤ l.length + (if d then 0 else 1)
  | [], d => by cases d <;> simp [putRG]
  | x :: l, d => by
    have ih := putRG_len lt e l (d || !lt x e)
    have h1 : (if x = e then ([] : List α) else [x]).length ≤ 1 := by split <;> simp
    have h2 : (if d = false ∧ lt x e = false then [e] else ([] : List α)).length + (if (d || !lt x e) = true then 0 else 1) ≤ if d = true then 0 else 1 := by
      cases d <;> cases lt x e <;> simp
    rw [putRG, List.length_append, List.length_append, List.length_cons]
    omega
theorem putRG_done (h : STO lt) {e : α} : ∀ {l : List α}, (∀ x ∈ l, lt e x = true) → putRG lt e l true = l
  | [], _ => rfl
  | x :: l, k => by
    have h1 := k x (by simp)
    rw [putRG, Bool.true_or, putRG_done h fun y hy => k y (by simp [hy]), if_neg (by simp), if_neg (h.ne h1).symm]
    rfl
theorem putG_inc (h : STO lt) {e : α} : ∀ {l : List α}, IncG lt l → IncG lt (putG lt l e) ∧ ∀ x, x ∈ putG lt l e ↔ x ∈ l ∨ x = e
  | [], _ => by simp [putG, putRG]
  | y :: l, k => by
    have h' := List.pairwise_cons.1 k
    unfold putG
    cases h1 : lt y e with
    | true =>
      have e1 : putRG lt e (y :: l) false = y :: putRG lt e l false := by
        rw [putRG, if_neg (by rw [h1]; simp), if_neg (h.ne h1), h1]; rfl
      have ih := putG_inc h (e := e) h'.2
      rw [e1]
      refine ⟨List.pairwise_cons.2 ⟨fun p hp => ?_, ih.1⟩, fun x => ?_⟩
      · rcases (ih.2 p).1 hp with hp | rfl
        · exact h'.1 p hp
        · exact h1
      · have := ih.2 x
        unfold putG at this
        simp only [List.mem_cons, this, or_assoc]
    | false =>
      by_cases h2 : y = e
      · subst h2
        rw [putRG, if_pos ⟨rfl, h1⟩, if_pos rfl, h1, show (false || !false) = true from rfl, putRG_done h h'.1]
        exact ⟨k, fun x => by simp; intro e; exact .inl e⟩
      · have h3 : lt e y = true := by
          cases e3 : lt e y with
          | true => rfl
          | false => exact absurd (h.tot y e h1 e3) h2
        rw [putRG, if_pos ⟨rfl, h1⟩, if_neg h2, h1, show (false || !false) = true from rfl, putRG_done h fun x hx => h.tr e y x h3 (h'.1 x hx)]
        refine ⟨List.pairwise_cons.2 ⟨fun p hp => ?_, k⟩, fun x => by simp; constructor <;> (rintro (h | h | h) <;> simp [h])⟩
        rcases List.mem_cons.1 hp with rfl | hp
        · exact h3
        · exact h.tr e y p h3 (h'.1 p hp)
def keysG (lt : α → α → Bool) (l : List α) : List α := l.foldl (putG lt) []
theorem keysG_inc (h : STO lt) (l : List α) : IncG lt (keysG lt l) ∧ ∀ x, x ∈ keysG lt l ↔ x ∈ l := by
  have key : ∀ (l acc : List α), IncG lt acc → IncG lt (l.foldl (putG lt) acc) ∧ ∀ x, x ∈ l.foldl (putG lt) acc ↔ x ∈ acc ∨ x ∈ l := by
    intro l
    induction l with
    | nil => intro acc k; exact ⟨k, fun x => by simp⟩
    | cons y l ih =>
      intro acc k
      have h1 := putG_inc h (e := y) k
      have h2 := ih (putG lt acc y) h1.1
      refine ⟨h2.1, fun x => ?_⟩
      rw [List.foldl_cons, h2.2 x, h1.2 x, List.mem_cons, or_assoc]
  have := key l [] List.Pairwise.nil
  exact ⟨this.1, fun x => by rw [show keysG lt l = l.foldl (putG lt) [] from rfl, this.2 x]; simp⟩
theorem compactG_inc (h : STO lt) : ∀ {l : List α}, l.Pairwise (fun a b => lt b a = false) → IncG lt (compactG l) ∧ ∀ x, x ∈ compactG l ↔ x ∈ l
  | [], _ => by simp [compactG]
  | [x], _ => by simp [compactG]
  | x :: y :: l, k => by
    have h' := List.pairwise_cons.1 k
    have ih := compactG_inc h h'.2
    show IncG lt (if x = y then compactG (y :: l) else x :: compactG (y :: l)) ∧ ∀ z, z ∈ (if x = y then compactG (y :: l) else x :: compactG (y :: l)) ↔ _
    split
    · rename_i e
      subst e
      exact ⟨ih.1, fun z => by rw [ih.2 z]; simp⟩
    · rename_i e
      have hxy : lt x y = true := by
        cases e2 : lt x y with
        | true => rfl
        | false => exact absurd (h.tot x y e2 (h'.1 y (by simp))) e
      refine ⟨List.pairwise_cons.2 ⟨fun z hz => ?_, ih.1⟩, fun z => by rw [List.mem_cons, ih.2 z, ← List.mem_cons]⟩
      rcases List.mem_cons.1 ((ih.2 z).1 hz) with rfl | hz2
      · exact hxy
      · exact h.le hxy ((List.pairwise_cons.1 h'.2).1 z hz2)
theorem keysG_sorted (h : STO lt) (l : List α) : compactG (l.mergeSort fun x y => !lt y x) = keysG lt l :=
  incG_unique h (compactG_inc h (sortG_le h l)).1 (keysG_inc h l).1 fun x => by rw [(compactG_inc h (sortG_le h l)).2, (keysG_inc h l).2]; exact (List.mergeSort_perm l _).mem_iff
end
theorem eqED (d e : EdgeD) : (decide (d.src = e.src) && (decide (d.dst = e.dst) && (decide (d.kind = e.kind) && (decide (d.key = e.key) && true)))) = decide (d = e) := by
  cases d; cases e
  rw [Bool.eq_iff_iff]
  simp
def ltE (a b : EdgeD) : Bool := decide (cmpE a b < 0)
theorem cmpE_iff (a b : EdgeD) : (cmpE a b < 0 ↔ a.src < b.src ∨ a.src = b.src ∧ (a.kind < b.kind ∨ a.kind = b.kind ∧ (a.key < b.key ∨ a.key = b.key ∧ a.dst < b.dst))) := by
  unfold cmpE keyL cmpL
  by_cases h1 : a.src = b.src
  · rw [if_pos h1]
    unfold cmpL
    by_cases h2 : a.kind = b.kind
    · rw [if_pos h2]
      unfold cmpL
      by_cases h3 : a.key = b.key
      · rw [if_pos h3]
        unfold cmpL
        by_cases h4 : a.dst = b.dst
        · rw [if_pos h4]; unfold cmpL; simp; omega
        · rw [if_neg h4]; unfold cmpI; split <;> (try split) <;> omega
      · rw [if_neg h3]; unfold cmpI; split <;> (try split) <;> omega
    · rw [if_neg h2]; unfold cmpI; split <;> (try split) <;> omega
  · rw [if_neg h1]; unfold cmpI; split <;> (try split) <;> omega
theorem ltE_iff (a b : EdgeD) : ltE a b = true ↔ a.src < b.src ∨ a.src = b.src ∧ (a.kind < b.kind ∨ a.kind = b.kind ∧ (a.key < b.key ∨ a.key = b.key ∧ a.dst < b.dst)) := by unfold ltE; rw [decide_eq_true_eq, cmpE_iff]
theorem ltE_not (a b : EdgeD) : ltE a b = false ↔ ¬ (a.src < b.src ∨ a.src = b.src ∧ (a.kind < b.kind ∨ a.kind = b.kind ∧ (a.key < b.key ∨ a.key = b.key ∧ a.dst < b.dst))) := by unfold ltE; rw [decide_eq_false_iff_not, cmpE_iff]
theorem ltE_sto : STO ltE where
  irr a := by rw [ltE_not]; omega
  tr a b c h1 h2 := by rw [ltE_iff] at *; omega
  tot a b h1 h2 := by
    rw [ltE_not] at h1 h2
    cases a; cases b
    simp only [EdgeD.mk.injEq] at *
    omega
def sortE (l : List EdgeD) : List EdgeD := l.mergeSort fun x y => !ltE y x
theorem sortE_keys (l : List EdgeD) : compactG (sortE l) = keysG ltE l := keysG_sorted ltE_sto l
theorem sortE_len (l : List EdgeD) : (sortE l).length = l.length := List.length_mergeSort l
end Go.Proofs.Ytdggmgiihdnlbaa
