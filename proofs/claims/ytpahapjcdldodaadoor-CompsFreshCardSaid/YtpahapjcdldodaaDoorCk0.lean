/- Who reaches whom: the plain law. No condition beyond those that each theorem says. -/
import Derived.Test.YtpahapjcdldodaaDoorPrX
namespace Go.Proofs.YtpahapjcdldodaaDoor
open Go Go.Gm
set_option linter.unusedVariables false
set_option linter.unusedSimpArgs false
set_option maxHeartbeats 4000000
set_option maxRecDepth 8000


/-- Rising numbers, each once, with one more. -/
def putIR (n : Int) : List Int → Bool → List Int
  | [], d => if d then [] else [n]
  | x :: l, d => (if d = false ∧ n ≤ x then [n] else []) ++ (if x = n then [] else [x]) ++ putIR n l (d || decide (n ≤ x))
def putI (l : List Int) (n : Int) : List Int := putIR n l false
abbrev IncI (l : List Int) : Prop := l.Pairwise fun a b => a < b
theorem putIR_done {n : Int} : ∀ {l : List Int}, (∀ x ∈ l, n < x) → putIR n l true = l
  | [], _ => rfl
  | x :: l, h => by
    have := h x (by simp)
    rw [putIR, Bool.true_or, putIR_done fun y hy => h y (by simp [hy]), if_neg (by simp), if_neg (by omega)]
    rfl
theorem putI_inc {n : Int} : ∀ {l : List Int}, IncI l → IncI (putI l n) ∧ ∀ x, x ∈ putI l n ↔ x ∈ l ∨ x = n
  | [], _ => by simp [putI, putIR]
  | y :: l, h => by
    have h' := List.pairwise_cons.1 h
    unfold putI
    by_cases h1 : y < n
    · have e : putIR n (y :: l) false = y :: putIR n l false := by
        rw [putIR, if_neg (by omega), if_neg (by omega), show (false || decide (n ≤ y)) = false by simp; omega]; rfl
      have ih := putI_inc (n := n) h'.2
      rw [e]
      refine ⟨List.pairwise_cons.2 ⟨fun p hp => ?_, ih.1⟩, fun x => ?_⟩
      · rcases (ih.2 p).1 hp with hp | rfl
        · exact h'.1 p hp
        · exact h1
      · have := ih.2 x
        unfold putI at this
        simp only [List.mem_cons, this]
        constructor
        · rintro (h | h | h)
          · exact .inl (.inl h)
          · exact .inl (.inr h)
          · exact .inr h
        · rintro ((h | h) | h)
          · exact .inl h
          · exact .inr (.inl h)
          · exact .inr (.inr h)
    · by_cases h2 : y = n
      · subst h2
        rw [putIR, if_pos ⟨rfl, Int.le_refl _⟩, if_pos rfl, show (false || decide (y ≤ y)) = true by simp, putIR_done h'.1]
        exact ⟨h, fun x => by simp; intro e; exact .inl e⟩
      · rw [putIR, if_pos ⟨rfl, by omega⟩, if_neg h2, show (false || decide (n ≤ y)) = true by simp; omega, putIR_done fun x hx => by have := h'.1 x hx; omega]
        refine ⟨List.pairwise_cons.2 ⟨fun p hp => ?_, h⟩, fun x => by simp; constructor <;> (rintro (h | h | h) <;> simp [h])⟩
        rcases List.mem_cons.1 hp with rfl | hp
        · omega
        · have := h'.1 p hp; omega
theorem inc_unique : ∀ {a b : List Int}, IncI a → IncI b → (∀ x, x ∈ a ↔ x ∈ b) → a = b
  | [], [], _, _, _ => rfl
  | [], y :: b, _, _, h => by have := (h y).2 (by simp); cases this
  | x :: a, [], _, _, h => by have := (h x).1 (by simp); cases this
  | x :: a, y :: b, ha, hb, h => by
    have ha' := List.pairwise_cons.1 ha
    have hb' := List.pairwise_cons.1 hb
    have e : x = y := by
      rcases List.mem_cons.1 ((h x).1 (by simp)) with e | e
      · exact e
      · rcases List.mem_cons.1 ((h y).2 (by simp)) with e2 | e2
        · exact e2.symm
        · have := hb'.1 x e; have := ha'.1 y e2; omega
    subst e
    congr 1
    refine inc_unique ha'.2 hb'.2 fun z => ⟨fun hz => ?_, fun hz => ?_⟩
    · rcases List.mem_cons.1 ((h z).1 (by simp [hz])) with e | e
      · have := ha'.1 z hz; omega
      · exact e
    · rcases List.mem_cons.1 ((h z).2 (by simp [hz])) with e | e
      · have := hb'.1 z hz; omega
      · exact e
/-- Neighbours that are alike, once. -/

theorem putIR_TT {n x : Int} {l out r : List Int} {d : Bool} (hA : d = false ∧ n ≤ x) (hB : ¬ x = n) (h : out ++ putIR n (x :: l) d = r) : out ++ [n] ++ [x] ++ putIR n l true = r := by
  rw [← h, putIR, if_pos hA, if_neg hB]; simp [hA.2]
theorem putIR_TF {n x : Int} {l out r : List Int} {d : Bool} (hA : d = false ∧ n ≤ x) (hB : x = n) (h : out ++ putIR n (x :: l) d = r) : out ++ [n] ++ putIR n l true = r := by
  rw [← h, putIR, if_pos hA, if_pos hB]; simp [hA.2]
theorem putIR_d {n x : Int} {d : Bool} (hA : ¬ (d = false ∧ n ≤ x)) : (d || decide (n ≤ x)) = d := by
  cases d
  · simp at hA ⊢; omega
  · rfl
theorem putIR_FT {n x : Int} {l out r : List Int} {d : Bool} (hA : ¬ (d = false ∧ n ≤ x)) (hB : ¬ x = n) (h : out ++ putIR n (x :: l) d = r) : out ++ [x] ++ putIR n l d = r := by
  rw [← h, putIR, if_neg hA, if_neg hB, putIR_d hA]; simp
theorem putIR_FF {n x : Int} {l out r : List Int} {d : Bool} (hA : ¬ (d = false ∧ n ≤ x)) (hB : x = n) (h : out ++ putIR n (x :: l) d = r) : out ++ putIR n l d = r := by
  rw [← h, putIR, if_neg hA, if_pos hB, putIR_d hA]; simp
theorem putIR_len {n : Int} : ∀ (l : List Int) (d : Bool), (putIR n l d).length ≤ l.length + 1
  | [], d => by cases d <;> simp [putIR]
  | x :: l, d => by
    have h1 := putIR_len (n := n) l (d || decide (n ≤ x))
    have h2 : ∀ l : List Int, (putIR n l true).length ≤ l.length := fun l => by
      induction l with
      | nil => simp [putIR]
      | cons y l ih =>
        rw [putIR, if_neg (by simp), List.length_append, List.length_append, Bool.true_or]
        split <;> simp <;> omega
    rw [putIR, List.length_append, List.length_append]
    have h3 := h2 l
    by_cases hA : d = false ∧ n ≤ x
    · rw [show (d || decide (n ≤ x)) = true by simp [hA.2], if_pos hA]
      split <;> simp <;> omega
    · rw [if_neg hA]
      split <;> simp <;> omega

/-- A strict order that parts whatever two are not one. -/
structure STO {α : Type} (lt : α → α → Bool) : Prop where
  irr : ∀ a, lt a a = false
  tr : ∀ a b c, lt a b = true → lt b c = true → lt a c = true
  tot : ∀ a b, lt a b = false → lt b a = false → a = b
section
variable {α : Type} {lt : α → α → Bool}
theorem STO.asym (h : STO lt) {a b : α} (k : lt a b = true) : lt b a = false := by
  cases e : lt b a with
  | false => rfl
  | true => have := h.tr a b a k e; rw [h.irr] at this; cases this
theorem STO.ne (h : STO lt) {a b : α} (k : lt a b = true) : a ≠ b := fun e => by subst e; rw [h.irr] at k; cases k
theorem STO.le (h : STO lt) {a b c : α} (h1 : lt a b = true) (h2 : lt c b = false) : lt a c = true := by
  cases e : lt a c with
  | true => rfl
  | false =>
    cases e2 : lt c a with
    | true => have := h.tr c a b e2 h1; rw [h2] at this; cases this
    | false => have := h.tot a c e e2; subst this; rw [h1] at h2; cases h2
abbrev IncG (lt : α → α → Bool) (l : List α) : Prop := l.Pairwise fun a b => lt a b = true
theorem incG_unique (h : STO lt) : ∀ {a b : List α}, IncG lt a → IncG lt b → (∀ x, x ∈ a ↔ x ∈ b) → a = b
  | [], [], _, _, _ => rfl
  | [], y :: b, _, _, k => by have := (k y).2 (by simp); cases this
  | x :: a, [], _, _, k => by have := (k x).1 (by simp); cases this
  | x :: a, y :: b, ha, hb, k => by
    have ha' := List.pairwise_cons.1 ha
    have hb' := List.pairwise_cons.1 hb
    have e : x = y := by
      rcases List.mem_cons.1 ((k x).1 (by simp)) with e | e
      · exact e
      · rcases List.mem_cons.1 ((k y).2 (by simp)) with e2 | e2
        · exact e2.symm
        · have h1 := h.asym (hb'.1 x e); rw [ha'.1 y e2] at h1; cases h1
    subst e
    congr 1
    refine incG_unique h ha'.2 hb'.2 fun z => ⟨fun hz => ?_, fun hz => ?_⟩
    · rcases List.mem_cons.1 ((k z).1 (by simp [hz])) with e | e
      · exact absurd e.symm (h.ne (ha'.1 z hz))
      · exact e
    · rcases List.mem_cons.1 ((k z).2 (by simp [hz])) with e | e
      · exact absurd e.symm (h.ne (hb'.1 z hz))
      · exact e
variable [DecidableEq α]
/-- What the document puts into an order. -/
def putRG (lt : α → α → Bool) (e : α) : List α → Bool → List α
  | [], d => if d then [] else [e]
  | x :: l, d => (if d = false ∧ lt x e = false then [e] else []) ++ (if x = e then [] else [x]) ++ putRG lt e l (d || !lt x e)
def putG (lt : α → α → Bool) (l : List α) (e : α) : List α := putRG lt e l false
theorem putRG_len (lt : α → α → Bool) (e : α) : ∀ (l : List α) (d : Bool), (putRG lt e l d).length ≤ l.length + (if d then 0 else 1)
  | [], d => by cases d <;> simp [putRG]
  | x :: l, d => by
    have ih := putRG_len lt e l (d || !lt x e)
    have h1 : (if x = e then ([] : List α) else [x]).length ≤ 1 := by split <;> simp
    have h2 : (if d = false ∧ lt x e = false then [e] else ([] : List α)).length + (if (d || !lt x e) = true then 0 else 1) ≤ if d = true then 0 else 1 := by
      cases d <;> cases lt x e <;> simp
    rw [putRG, List.length_append, List.length_append, List.length_cons]
    omega
theorem putRG_done (h : STO lt) {e : α} : ∀ {l : List α}, (∀ x ∈ l, lt e x = true) → putRG lt e l true = l
  | [], _ => rfl
  | x :: l, k => by
    have h1 := k x (by simp)
    rw [putRG, Bool.true_or, putRG_done h fun y hy => k y (by simp [hy]), if_neg (by simp), if_neg (h.ne h1).symm]
    rfl
theorem putG_inc (h : STO lt) {e : α} : ∀ {l : List α}, IncG lt l → IncG lt (putG lt l e) ∧ ∀ x, x ∈ putG lt l e ↔ x ∈ l ∨ x = e
  | [], _ => by simp [putG, putRG]
  | y :: l, k => by
    have h' := List.pairwise_cons.1 k
    unfold putG
    cases h1 : lt y e with
    | true =>
      have e1 : putRG lt e (y :: l) false = y :: putRG lt e l false := by
        rw [putRG, if_neg (by rw [h1]; simp), if_neg (h.ne h1), h1]; rfl
      have ih := putG_inc h (e := e) h'.2
      rw [e1]
      refine ⟨List.pairwise_cons.2 ⟨fun p hp => ?_, ih.1⟩, fun x => ?_⟩
      · rcases (ih.2 p).1 hp with hp | rfl
        · exact h'.1 p hp
        · exact h1
      · have := ih.2 x
        unfold putG at this
        simp only [List.mem_cons, this, or_assoc]
    | false =>
      by_cases h2 : y = e
      · subst h2
        rw [putRG, if_pos ⟨rfl, h1⟩, if_pos rfl, h1, show (false || !false) = true from rfl, putRG_done h h'.1]
        exact ⟨k, fun x => by simp; intro e; exact .inl e⟩
      · have h3 : lt e y = true := by
          cases e3 : lt e y with
          | true => rfl
          | false => exact absurd (h.tot y e h1 e3) h2
        rw [putRG, if_pos ⟨rfl, h1⟩, if_neg h2, h1, show (false || !false) = true from rfl, putRG_done h fun x hx => h.tr e y x h3 (h'.1 x hx)]
        refine ⟨List.pairwise_cons.2 ⟨fun p hp => ?_, k⟩, fun x => by simp; constructor <;> (rintro (h | h | h) <;> simp [h])⟩
        rcases List.mem_cons.1 hp with rfl | hp
        · exact h3
        · exact h.tr e y p h3 (h'.1 p hp)
def keysG (lt : α → α → Bool) (l : List α) : List α := l.foldl (putG lt) []
theorem keysG_inc (h : STO lt) (l : List α) : IncG lt (keysG lt l) ∧ ∀ x, x ∈ keysG lt l ↔ x ∈ l := by
  have key : ∀ (l acc : List α), IncG lt acc → IncG lt (l.foldl (putG lt) acc) ∧ ∀ x, x ∈ l.foldl (putG lt) acc ↔ x ∈ acc ∨ x ∈ l := by
    intro l
    induction l with
    | nil => intro acc k; exact ⟨k, fun x => by simp⟩
    | cons y l ih =>
      intro acc k
      have h1 := putG_inc h (e := y) k
      have h2 := ih (putG lt acc y) h1.1
      refine ⟨h2.1, fun x => ?_⟩
      rw [List.foldl_cons, h2.2 x, h1.2 x, List.mem_cons, or_assoc]
  have := key l [] List.Pairwise.nil
  exact ⟨this.1, fun x => by rw [show keysG lt l = l.foldl (putG lt) [] from rfl, this.2 x]; simp⟩

end

/-- Who reaches whom along a relation, by a step at least. -/
inductive Rch (E : Int → Int → Prop) (u : Int) : Int → Prop
  | one {v : Int} (h : E u v) : Rch E u v
  | step {v w : Int} (h : Rch E u v) (k : E v w) : Rch E u w
theorem Rch.trans {E : Int → Int → Prop} {u v w : Int} (h : Rch E u v) (k : Rch E v w) : Rch E u w := by
  induction k with
  | one k => exact .step h k
  | step _ k ih => exact .step ih k
theorem Rch.mono {E E' : Int → Int → Prop} (hE : ∀ a b, E a b → E' a b) {u v : Int} (h : Rch E u v) : Rch E' u v := by
  induction h with
  | one h => exact .one (hE _ _ h)
  | step _ k ih => exact .step ih (hE _ _ k)
theorem Rch.congr {E E' : Int → Int → Prop} (hE : ∀ a b, E a b ↔ E' a b) {u v : Int} : Rch E u v ↔ Rch E' u v := ⟨Rch.mono fun a b => (hE a b).1, Rch.mono fun a b => (hE a b).2⟩
theorem Rch.last {E : Int → Int → Prop} {u v : Int} (h : Rch E u v) : ∃ a, E a v := by
  cases h with
  | one h => exact ⟨_, h⟩
  | step _ k => exact ⟨_, k⟩
theorem Rch.first {E : Int → Int → Prop} {u v : Int} (h : Rch E u v) : ∃ b, E u b := by
  induction h with
  | one h => exact ⟨_, h⟩
  | step _ _ ih => exact ih
/-- With one arc more. -/
theorem Rch.add {E E' : Int → Int → Prop} {u v : Int} (hE : ∀ a b, E' a b ↔ E a b ∨ (a = u ∧ b = v)) {a b : Int} : Rch E' a b ↔ Rch E a b ∨ ((a = u ∨ Rch E a u) ∧ (b = v ∨ Rch E v b)) := by
  have hm : ∀ {x y : Int}, Rch E x y → Rch E' x y := fun h => h.mono fun a b k => (hE a b).2 (.inl k)
  have huv : E' u v := (hE u v).2 (.inr ⟨rfl, rfl⟩)
  constructor
  · intro h
    induction h with
    | one h =>
      rcases (hE _ _).1 h with h | ⟨rfl, rfl⟩
      · exact .inl (.one h)
      · exact .inr ⟨.inl rfl, .inl rfl⟩
    | step _ k ih =>
      rcases (hE _ _).1 k with k | ⟨rfl, rfl⟩
      · rcases ih with h | ⟨h1, h2⟩
        · exact .inl (.step h k)
        · refine .inr ⟨h1, .inr ?_⟩
          rcases h2 with rfl | h2
          · exact .one k
          · exact .step h2 k
      · rcases ih with h | ⟨h1, h2⟩
        · exact .inr ⟨.inr h, .inl rfl⟩
        · exact .inr ⟨h1, .inl rfl⟩
  · rintro (h | ⟨h1, h2⟩)
    · exact hm h
    · have h3 : Rch E' a v := by
        rcases h1 with rfl | h1
        · exact .one huv
        · exact .step (hm h1) huv
      rcases h2 with rfl | h2
      · exact h3
      · exact h3.trans (hm h2)
/-- An arc that is there already by another way is of no matter. -/
theorem Rch.add_same {E E' : Int → Int → Prop} {u v : Int} (hE : ∀ a b, E' a b ↔ E a b ∨ (a = u ∧ b = v)) (h : Rch E u v) {a b : Int} : Rch E' a b ↔ Rch E a b := by
  rw [Rch.add hE]
  constructor
  · rintro (k | ⟨h1, h2⟩)
    · exact k
    · have h3 : Rch E a v := by
        rcases h1 with rfl | h1
        · exact h
        · exact h1.trans h
      rcases h2 with rfl | h2
      · exact h3
      · exact h3.trans h2
  · exact .inl
/-- Who did not reach where an arc began reaches what it reached without it. -/
theorem Rch.drop_same {E E' : Int → Int → Prop} {u v : Int} (hE : ∀ a b, E a b ↔ E' a b ∨ (a = u ∧ b = v)) {a b : Int} (ha : ¬ (a = u ∨ Rch E a u)) : Rch E' a b ↔ Rch E a b := by
  have hm : ∀ {x y : Int}, Rch E' x y → Rch E x y := fun h => h.mono fun a b k => (hE a b).2 (.inl k)
  rw [Rch.add hE]
  constructor
  · exact .inl
  · rintro (k | ⟨h1, _⟩)
    · exact k
    · exact absurd (h1.imp id hm) ha
/-- An arc as chapter 22 has it. -/
structure ArcD where
  src : Int
  dst : Int
  kind : Int
  label : Int
  deriving DecidableEq, Inhabited
def rArc (a : ArcD) : List PV := [.int .i64 a.src, .int .i64 a.dst, .int .i64 a.kind, .int .i64 a.label]
def cmpA (a b : ArcD) : Bool := decide (a.src < b.src) || (decide (a.src = b.src) && (decide (a.kind < b.kind) || (decide (a.kind = b.kind) && (decide (a.label < b.label) || (decide (a.label = b.label) && decide (a.dst < b.dst))))))
theorem cmpA_iff (a b : ArcD) : cmpA a b = true ↔ a.src < b.src ∨ a.src = b.src ∧ (a.kind < b.kind ∨ a.kind = b.kind ∧ (a.label < b.label ∨ a.label = b.label ∧ a.dst < b.dst)) := by
  unfold cmpA
  simp only [Bool.or_eq_true, Bool.and_eq_true, decide_eq_true_eq]
theorem cmpA_not (a b : ArcD) : cmpA a b = false ↔ ¬ (a.src < b.src ∨ a.src = b.src ∧ (a.kind < b.kind ∨ a.kind = b.kind ∧ (a.label < b.label ∨ a.label = b.label ∧ a.dst < b.dst))) := by rw [← cmpA_iff]; cases cmpA a b <;> simp
theorem cmpA_sto : STO cmpA where
  irr a := by rw [cmpA_not]; omega
  tr a b c h1 h2 := by rw [cmpA_iff] at *; omega
  tot a b h1 h2 := by
    rw [cmpA_not] at *
    obtain ⟨s, d, k, l⟩ := a
    obtain ⟨s2, d2, k2, l2⟩ := b
    simp only [ArcD.mk.injEq] at *
    omega
theorem eqAD (a b : ArcD) : (decide (a.src = b.src) && (decide (a.dst = b.dst) && (decide (a.kind = b.kind) && (decide (a.label = b.label) && true)))) = decide (a = b) := by
  cases a; cases b
  rw [Bool.eq_iff_iff]
  simp
/-- Along arcs. -/
def EA (l : List ArcD) (a b : Int) : Prop := ∃ x ∈ l, x.src = a ∧ x.dst = b
def nextStep (from_ : Int) (o : List Int) (a : ArcD) : List Int := if a.src = from_ then putI o a.dst else o
def nextA (l : List ArcD) (u : Int) : List Int := l.foldl (nextStep u) []
def reachStep (o : List Int) (a : ArcD) : List Int := if a.src ∈ o ∧ a.dst ∉ o then putI o a.dst else o
def roundA (l : List ArcD) (o : List Int) : List Int := l.foldl reachStep o
def iterA (l : List ArcD) : Nat → List Int → List Int
  | 0, o => o
  | n + 1, o => roundA l (iterA l n o)
def reachA (l : List ArcD) (u : Int) : List Int := iterA l (l.length + 1) (nextA l u)
theorem nextA_fold (u : Int) : ∀ (l : List ArcD) (o : List Int), IncI o → IncI (l.foldl (nextStep u) o) ∧ ∀ v, v ∈ l.foldl (nextStep u) o ↔ v ∈ o ∨ EA l u v
  | [], o, h => ⟨h, fun v => ⟨.inl, fun k => by rcases k with k | ⟨x, hx, _⟩; exact k; cases hx⟩⟩
  | a :: l, o, h => by
    have h1 : IncI (nextStep u o a) ∧ ∀ v, v ∈ nextStep u o a ↔ v ∈ o ∨ (a.src = u ∧ a.dst = v) := by
      unfold nextStep
      split
      · rename_i e
        refine ⟨(putI_inc h).1, fun v => ?_⟩
        rw [(putI_inc h).2]
        constructor
        · rintro (k | k)
          · exact .inl k
          · exact .inr ⟨e, k.symm⟩
        · rintro (k | k)
          · exact .inl k
          · exact .inr k.2.symm
      · rename_i e
        exact ⟨h, fun v => ⟨.inl, fun k => by rcases k with k | k; exact k; exact absurd k.1 e⟩⟩
    obtain ⟨h2, h3⟩ := nextA_fold u l (nextStep u o a) h1.1
    refine ⟨h2, fun v => ?_⟩
    rw [List.foldl_cons, h3, h1.2]
    constructor
    · rintro ((k | k) | ⟨x, hx, k⟩)
      · exact .inl k
      · exact .inr ⟨a, by simp, k⟩
      · exact .inr ⟨x, by simp [hx], k⟩
    · rintro (k | ⟨x, hx, k⟩)
      · exact .inl (.inl k)
      · rcases List.mem_cons.1 hx with rfl | hx
        · exact .inl (.inr k)
        · exact .inr ⟨x, hx, k⟩
theorem nextA_inc (l : List ArcD) (u : Int) : IncI (nextA l u) ∧ ∀ v, v ∈ nextA l u ↔ EA l u v := by
  have h := nextA_fold u l [] List.Pairwise.nil
  exact ⟨h.1, fun v => by rw [show nextA l u = l.foldl (nextStep u) [] from rfl, h.2]; simp⟩
theorem putI_len' {o : List Int} (h : IncI o) {x : Int} (hx : x ∉ o) : (putI o x).length = o.length + 1 := by
  have h1 := putI_inc (n := x) h
  have e : (putI o x).Perm (x :: o) := (List.perm_ext_iff_of_nodup (h1.1.imp fun h => by omega) (List.nodup_cons.2 ⟨hx, h.imp fun h => by omega⟩)).2 fun y => by rw [h1.2, List.mem_cons]; exact ⟨Or.symm, Or.symm⟩
  simpa using e.length_eq
/-- What one round does. -/
theorem roundA_spec {P : Int → Prop} : ∀ (l : List ArcD) (o : List Int), IncI o → (∀ v ∈ o, P v) → (∀ a ∈ l, P a.src → P a.dst) →
    IncI (roundA l o) ∧ (∀ v ∈ roundA l o, P v) ∧ (∀ v ∈ o, v ∈ roundA l o) ∧ (∀ v ∈ roundA l o, v ∈ o ∨ ∃ a ∈ l, a.dst = v) ∧ (roundA l o = o ∨ o.length < (roundA l o).length) ∧ (roundA l o = o → ∀ a ∈ l, a.src ∈ o → a.dst ∈ o)
  | [], o, h, hp, _ => ⟨h, hp, fun _ h => h, fun _ h => .inl h, .inl rfl, fun _ a ha => by cases ha⟩
  | a :: l, o, h, hp, hl => by
    have e : roundA (a :: l) o = roundA l (reachStep o a) := rfl
    rw [e]
    by_cases hc : a.src ∈ o ∧ a.dst ∉ o
    · have e2 : reachStep o a = putI o a.dst := if_pos hc
      have hi := putI_inc (n := a.dst) h
      have hlen := putI_len' h hc.2
      rw [e2]
      obtain ⟨g1, g2, g3, g4, g5, g6⟩ := roundA_spec l (putI o a.dst) hi.1 (fun v hv => by
        rcases (hi.2 v).1 hv with hv | rfl
        · exact hp v hv
        · exact hl a (by simp) (hp _ hc.1)) (fun x hx => hl x (by simp [hx]))
      have hgt : o.length < (roundA l (putI o a.dst)).length := by
        rcases g5 with g5 | g5
        · rw [g5]; omega
        · omega
      refine ⟨g1, g2, fun v hv => g3 v ((hi.2 v).2 (.inl hv)), fun v hv => ?_, .inr hgt, fun e => ?_⟩
      · rcases g4 v hv with hv | ⟨x, hx, k⟩
        · rcases (hi.2 v).1 hv with hv | rfl
          · exact .inl hv
          · exact .inr ⟨a, by simp, rfl⟩
        · exact .inr ⟨x, by simp [hx], k⟩
      · rw [e] at hgt; exact absurd hgt (Nat.lt_irrefl _)
    · have e2 : reachStep o a = o := if_neg hc
      rw [e2]
      obtain ⟨g1, g2, g3, g4, g5, g6⟩ := roundA_spec l o h hp (fun x hx => hl x (by simp [hx]))
      refine ⟨g1, g2, g3, fun v hv => ?_, g5, fun e x hx hs => ?_⟩
      · rcases g4 v hv with hv | ⟨x, hx, k⟩
        · exact .inl hv
        · exact .inr ⟨x, by simp [hx], k⟩
      · rcases List.mem_cons.1 hx with rfl | hx
        · exact Decidable.byContradiction fun h => hc ⟨hs, h⟩
        · exact g6 e x hx hs
theorem iterA_spec {P : Int → Prop} {l : List ArcD} (hl : ∀ a ∈ l, P a.src → P a.dst) : ∀ (n : Nat) (o : List Int), IncI o → (∀ v ∈ o, P v) → (∀ v ∈ o, ∃ a ∈ l, a.dst = v) →
    IncI (iterA l n o) ∧ (∀ v ∈ iterA l n o, P v) ∧ (∀ v ∈ o, v ∈ iterA l n o) ∧ (∀ v ∈ iterA l n o, ∃ a ∈ l, a.dst = v) ∧ (roundA l (iterA l n o) = iterA l n o ∨ n ≤ (iterA l n o).length)
  | 0, o, h, hp, hd => ⟨h, hp, fun _ h => h, hd, .inr (Nat.zero_le _)⟩
  | n + 1, o, h, hp, hd => by
    obtain ⟨h1, h2, h3, h4, h5⟩ := iterA_spec hl n o h hp hd
    obtain ⟨g1, g2, g3, g4, g5, g6⟩ := roundA_spec l _ h1 h2 hl
    refine ⟨g1, g2, fun v hv => g3 v (h3 v hv), fun v hv => ?_, ?_⟩
    · rcases g4 v hv with hv | hv
      · exact h4 v hv
      · exact hv
    · show roundA l (roundA l (iterA l n o)) = roundA l (iterA l n o) ∨ n + 1 ≤ (roundA l (iterA l n o)).length
      rcases g5 with g5 | g5
      · exact .inl (by rw [g5, g5])
      · rcases h5 with h5 | h5
        · exact .inl (by rw [h5, h5])
        · exact .inr (by omega)
theorem nodup_sub_len : ∀ {o d : List Int}, o.Nodup → (∀ v ∈ o, v ∈ d) → o.length ≤ d.length
  | [], _, _, _ => Nat.zero_le _
  | x :: o, d, h, hs => by
    rw [List.nodup_cons] at h
    have hx := hs x (by simp)
    have ih := nodup_sub_len (o := o) (d := d.erase x) h.2 fun v hv => (List.mem_erase_of_ne fun e => h.1 (by rw [← e]; exact hv)).2 (hs v (by simp [hv]))
    rw [List.length_erase_of_mem hx] at ih
    have := List.length_pos_of_mem hx
    rw [List.length_cons]; omega
theorem inc_sub_len {o d : List Int} (h : IncI o) (hs : ∀ v ∈ o, v ∈ d) : o.length ≤ d.length := nodup_sub_len (h.imp fun h => by omega) hs
/-- What is reached. -/
theorem reachA_spec (l : List ArcD) (u : Int) : IncI (reachA l u) ∧ ∀ v, v ∈ reachA l u ↔ Rch (EA l) u v := by
  obtain ⟨hn1, hn2⟩ := nextA_inc l u
  have hl : ∀ a ∈ l, Rch (EA l) u a.src → Rch (EA l) u a.dst := fun a ha h => .step h ⟨a, ha, rfl, rfl⟩
  obtain ⟨h1, h2, h3, h4, h5⟩ := iterA_spec (P := Rch (EA l) u) hl (l.length + 1) (nextA l u) hn1 (fun v hv => .one ((hn2 v).1 hv)) (fun v hv => by obtain ⟨a, ha, _, k⟩ := (hn2 v).1 hv; exact ⟨a, ha, k⟩)
  have hfix : roundA l (reachA l u) = reachA l u := by
    rcases h5 with h5 | h5
    · exact h5
    · have hle := inc_sub_len (d := l.map ArcD.dst) h1 fun v hv => by obtain ⟨a, ha, k⟩ := h4 v hv; exact List.mem_map.2 ⟨a, ha, k⟩
      rw [List.length_map] at hle
      omega
  have hcl := (roundA_spec (P := fun _ => True) l (reachA l u) h1 (fun _ _ => trivial) (fun _ _ _ => trivial)).2.2.2.2.2 hfix
  refine ⟨h1, fun v => ⟨h2 v, fun h => ?_⟩⟩
  induction h with
  | one h => exact h3 _ ((hn2 _).2 h)
  | step _ k ih =>
    obtain ⟨a, ha, e1, e2⟩ := k
    subst e1; subst e2
    exact hcl a ha ih
/-- The arcs of pairs. -/
def arcP (p : PairD) : ArcD := ⟨p.key, p.val, 1, 0⟩
def arcsQ (q : List PairD) : List ArcD := keysG cmpA (q.map arcP)
def EQ_ (q : List PairD) (a b : Int) : Prop := (⟨a, b⟩ : PairD) ∈ q
theorem EA_arcs {q : List PairD} {a b : Int} : EA (arcsQ q) a b ↔ EQ_ q a b := by
  unfold EA EQ_ arcsQ
  constructor
  · rintro ⟨x, hx, rfl, rfl⟩
    rw [(keysG_inc cmpA_sto _).2] at hx
    obtain ⟨p, hp, rfl⟩ := List.mem_map.1 hx
    exact hp
  · intro h
    exact ⟨arcP ⟨a, b⟩, by rw [(keysG_inc cmpA_sto _).2]; exact List.mem_map.2 ⟨_, h, rfl⟩, rfl, rfl⟩
def reachQ (q : List PairD) (u : Int) : List Int := reachA (arcsQ q) u
theorem reachQ_spec (q : List PairD) (u : Int) : IncI (reachQ q u) ∧ ∀ v, v ∈ reachQ q u ↔ Rch (EQ_ q) u v := by
  obtain ⟨h1, h2⟩ := reachA_spec (arcsQ q) u
  exact ⟨h1, fun v => (h2 v).trans (Rch.congr fun a b => EA_arcs)⟩
theorem reachQ_eq {q r : List PairD} {u : Int} (h : ∀ v, Rch (EQ_ q) u v ↔ Rch (EQ_ r) u v) : reachQ q u = reachQ r u := inc_unique (reachQ_spec q u).1 (reachQ_spec r u).1 fun v => by rw [(reachQ_spec q u).2, (reachQ_spec r u).2, h]
theorem reachQ_congr {q r : List PairD} (h : ∀ p, p ∈ q ↔ p ∈ r) (u : Int) : reachQ q u = reachQ r u := reachQ_eq fun v => Rch.congr fun a b => h _
/-- All arcs are between nodes that are there. -/
def InN (n : Nat) (q : List PairD) : Prop := ∀ p ∈ q, (0 ≤ p.key ∧ p.key < n) ∧ 0 ≤ p.val ∧ p.val < n
theorem reachQ_up {n : Nat} {q : List PairD} (h : InN n q) (u : Int) : Up n (reachQ q u) := ⟨(reachQ_spec q u).1, fun v hv => by
  obtain ⟨a, ha⟩ := ((reachQ_spec q u).2 v |>.1 hv).last
  exact (h _ ha).2⟩
/-- Where arcs go to. -/
def nextQ (q : List PairD) (n : Nat) (u : Int) : List Int := ((List.range n).map fun j : Nat => (j : Int)).filter fun v => decide ((⟨u, v⟩ : PairD) ∈ q)
theorem range_up (n : Nat) : Up n ((List.range n).map fun j : Nat => (j : Int)) := ⟨by
  rw [List.pairwise_map]
  exact List.pairwise_lt_range.imp fun h => by omega, fun i hi => by
  obtain ⟨j, hj, rfl⟩ := List.mem_map.1 hi
  have := List.mem_range.1 hj
  omega⟩
theorem mem_range_up {n : Nat} {v : Int} : v ∈ ((List.range n).map fun j : Nat => (j : Int)) ↔ 0 ≤ v ∧ v < n := by
  rw [List.mem_map]
  constructor
  · rintro ⟨j, hj, rfl⟩; have := List.mem_range.1 hj; omega
  · rintro ⟨h1, h2⟩; exact ⟨v.toNat, List.mem_range.2 (by omega), by omega⟩
theorem nextQ_up (q : List PairD) (n : Nat) (u : Int) : Up n (nextQ q n u) := ⟨(range_up n).1.filter _, fun i hi => (range_up n).2 i (List.mem_filter.1 hi).1⟩
theorem mem_nextQ {q : List PairD} {n : Nat} {u v : Int} (h : InN n q) : v ∈ nextQ q n u ↔ EQ_ q u v := by
  unfold nextQ EQ_
  rw [List.mem_filter, mem_range_up, decide_eq_true_eq]
  exact ⟨fun k => k.2, fun k => ⟨(h _ k).2, k⟩⟩
theorem nextQ_congr {q r : List PairD} {n : Nat} {u : Int} (h : ∀ v, (⟨u, v⟩ : PairD) ∈ q ↔ (⟨u, v⟩ : PairD) ∈ r) : nextQ q n u = nextQ r n u := by
  unfold nextQ
  congr 1
  funext v
  rw [decide_eq_decide]; exact h v

theorem pe_TT {e x : ArcD} {d : Bool} {out l q : List ArcD} (hq : out ++ putRG cmpA e (x :: l) d = q) (hA : d = false ∧ cmpA x e = false) (hB : x ≠ e) : (out ++ [e] ++ [x]) ++ putRG cmpA e l true = q := by
  rw [putRG, if_pos hA, if_neg hB, hA.2] at hq
  rw [← hq, show (d || !false) = true by cases d <;> rfl]; simp
theorem pe_TF {e x : ArcD} {d : Bool} {out l q : List ArcD} (hq : out ++ putRG cmpA e (x :: l) d = q) (hA : d = false ∧ cmpA x e = false) (hB : ¬ x ≠ e) : (out ++ [e]) ++ putRG cmpA e l true = q := by
  rw [putRG, if_pos hA, if_pos (Decidable.not_not.1 hB), hA.2] at hq
  rw [← hq, show (d || !false) = true by cases d <;> rfl]; simp
theorem pe_FT {e x : ArcD} {d : Bool} {out l q : List ArcD} (hq : out ++ putRG cmpA e (x :: l) d = q) (hA : ¬ (d = false ∧ cmpA x e = false)) (hB : x ≠ e) : (out ++ [x]) ++ putRG cmpA e l d = q := by
  rw [putRG, if_neg hA, if_neg hB] at hq
  rw [← hq, show (d || !cmpA x e) = d by cases d <;> cases h : cmpA x e <;> simp_all]; simp
theorem pe_FF {e x : ArcD} {d : Bool} {out l q : List ArcD} (hq : out ++ putRG cmpA e (x :: l) d = q) (hA : ¬ (d = false ∧ cmpA x e = false)) (hB : ¬ x ≠ e) : out ++ putRG cmpA e l d = q := by
  rw [putRG, if_neg hA, if_pos (Decidable.not_not.1 hB)] at hq
  rw [← hq, show (d || !cmpA x e) = d by cases d <;> cases h : cmpA x e <;> simp_all]; simp

end Go.Proofs.YtpahapjcdldodaaDoor
