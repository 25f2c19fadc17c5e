/- Keys: the plain law; put. No condition beyond those that each theorem says. -/
import Derived.Test.YtcfgcpcakdknkaaGreatCp1
namespace Go.Proofs.YtcfgcpcakdknkaaGreat
open Go Go.Gm
set_option linter.unusedVariables false
set_option linter.unusedSimpArgs false
set_option maxHeartbeats 4000000
set_option maxRecDepth 8000

/-- Rising numbers, each once, with one more. -/
def putIR (n : Int) : List Int → Bool → List Int
  | [], d => if d then [] else [n]
  | x :: l, d => (if d = false ∧ n ≤ x then [n] else []) ++ (if x = n then [] else [x]) ++ putIR n l (d || decide (n ≤ x))
def putI (l : List Int) (n : Int) : List Int := putIR n l false
abbrev IncI (l : List Int) : Prop := l.Pairwise fun a b => a < b
theorem putIR_done {n : Int} : ∀ {l : List Int}, (∀ x ∈ l, n < x) → putIR n l true = l
  | [], _ => rfl
  | x :: l, h => by
    have := h x (by simp)
    rw [putIR, Bool.true_or, putIR_done fun y hy => h y (by simp [hy]), if_neg (by simp), if_neg (by omega)]
    rfl
theorem putI_inc {n : Int} : ∀ {l : List Int}, IncI l → IncI (putI l n) ∧ ∀ x, x ∈ putI l n ↔ x ∈ l ∨ x = n
  | [], _ => by simp [putI, putIR]
  | y :: l, h => by
    have h' := List.pairwise_cons.1 h
    unfold putI
    by_cases h1 : y < n
    · have e : putIR n (y :: l) false = y :: putIR n l false := by
        rw [putIR, if_neg (by omega), if_neg (by omega), show (false || decide (n ≤ y)) = false by simp; omega]; rfl
      have ih := putI_inc (n := n) h'.2
      rw [e]
      refine ⟨List.pairwise_cons.2 ⟨fun p hp => ?_, ih.1⟩, fun x => ?_⟩
      · rcases (ih.2 p).1 hp with hp | rfl
        · exact h'.1 p hp
        · exact h1
      · have := ih.2 x
        unfold putI at this
        simp only [List.mem_cons, this]
        constructor
        · rintro (h | h | h)
          · exact .inl (.inl h)
          · exact .inl (.inr h)
          · exact .inr h
        · rintro ((h | h) | h)
          · exact .inl h
          · exact .inr (.inl h)
          · exact .inr (.inr h)
    · by_cases h2 : y = n
      · subst h2
        rw [putIR, if_pos ⟨rfl, Int.le_refl _⟩, if_pos rfl, show (false || decide (y ≤ y)) = true by simp, putIR_done h'.1]
        exact ⟨h, fun x => by simp; intro e; exact .inl e⟩
      · rw [putIR, if_pos ⟨rfl, by omega⟩, if_neg h2, show (false || decide (n ≤ y)) = true by simp; omega, putIR_done fun x hx => by have := h'.1 x hx; omega]
        refine ⟨List.pairwise_cons.2 ⟨fun p hp => ?_, h⟩, fun x => by simp; constructor <;> (rintro (h | h | h) <;> simp [h])⟩
        rcases List.mem_cons.1 hp with rfl | hp
        · omega
        · have := h'.1 p hp; omega
def keysL (l : List Int) : List Int := l.foldl putI []
theorem keysL_inc (l : List Int) : IncI (keysL l) ∧ ∀ x, x ∈ keysL l ↔ x ∈ l := by
  have key : ∀ (l acc : List Int), IncI acc → IncI (l.foldl putI acc) ∧ ∀ x, x ∈ l.foldl putI acc ↔ x ∈ acc ∨ x ∈ l := by
    intro l
    induction l with
    | nil => intro acc h; exact ⟨h, fun x => by simp⟩
    | cons y l ih =>
      intro acc h
      have h1 := putI_inc (n := y) h
      have h2 := ih (putI acc y) h1.1
      refine ⟨h2.1, fun x => ?_⟩
      rw [List.foldl_cons, h2.2 x, h1.2 x, List.mem_cons]
      constructor
      · rintro ((h | h) | h)
        · exact .inl h
        · exact .inr (.inl h)
        · exact .inr (.inr h)
      · rintro (h | h | h)
        · exact .inl (.inl h)
        · exact .inl (.inr h)
        · exact .inr h
  have := key l [] List.Pairwise.nil
  exact ⟨this.1, fun x => by rw [show keysL l = l.foldl putI [] from rfl, this.2 x]; simp⟩
theorem inc_unique : ∀ {a b : List Int}, IncI a → IncI b → (∀ x, x ∈ a ↔ x ∈ b) → a = b
  | [], [], _, _, _ => rfl
  | [], y :: b, _, _, h => by have := (h y).2 (by simp); cases this
  | x :: a, [], _, _, h => by have := (h x).1 (by simp); cases this
  | x :: a, y :: b, ha, hb, h => by
    have ha' := List.pairwise_cons.1 ha
    have hb' := List.pairwise_cons.1 hb
    have e : x = y := by
      rcases List.mem_cons.1 ((h x).1 (by simp)) with e | e
      · exact e
      · rcases List.mem_cons.1 ((h y).2 (by simp)) with e2 | e2
        · exact e2.symm
        · have := hb'.1 x e; have := ha'.1 y e2; omega
    subst e
    congr 1
    refine inc_unique ha'.2 hb'.2 fun z => ⟨fun hz => ?_, fun hz => ?_⟩
    · rcases List.mem_cons.1 ((h z).1 (by simp [hz])) with e | e
      · have := ha'.1 z hz; omega
      · exact e
    · rcases List.mem_cons.1 ((h z).2 (by simp [hz])) with e | e
      · have := hb'.1 z hz; omega
      · exact e
/-- Neighbours that are alike, once. -/
def compactL : List Int → List Int
  | [] => []
  | x :: l => match compactL l with
    | [] => [x]
    | y :: m => if x = y then y :: m else x :: y :: m
theorem compactL_head : ∀ (x : Int) (l : List Int), ∃ m, compactL (x :: l) = x :: m
  | x, [] => ⟨[], rfl⟩
  | x, y :: l => by
    obtain ⟨m, hm⟩ := compactL_head y l
    unfold compactL
    rw [hm]
    by_cases h : x = y
    · subst h; exact ⟨m, if_pos rfl⟩
    · exact ⟨y :: m, if_neg h⟩
theorem compactL_cons (x y : Int) (l : List Int) : compactL (x :: y :: l) = if x = y then compactL (y :: l) else x :: compactL (y :: l) := by
  obtain ⟨m, hm⟩ := compactL_head y l
  conv => lhs; unfold compactL
  rw [hm]
theorem compactL_inc : ∀ {l : List Int}, l.Pairwise (fun a b => a ≤ b) → IncI (compactL l) ∧ ∀ x, x ∈ compactL l ↔ x ∈ l
  | [], _ => by simp [compactL]
  | [x], _ => by simp [compactL]
  | x :: y :: l, h => by
    have h' := List.pairwise_cons.1 h
    have ih := compactL_inc h'.2
    rw [compactL_cons]
    split
    · rename_i e
      subst e
      exact ⟨ih.1, fun z => by rw [ih.2 z]; simp⟩
    · rename_i e
      refine ⟨List.pairwise_cons.2 ⟨fun z hz => ?_, ih.1⟩, fun z => by rw [List.mem_cons, ih.2 z, ← List.mem_cons]⟩
      have h1 := h'.1 y (by simp)
      rcases List.mem_cons.1 ((ih.2 z).1 hz) with rfl | hz2
      · omega
      · have := (List.pairwise_cons.1 h'.2).1 z hz2
        omega
theorem sort_le (l : List Int) : List.Pairwise (fun x y => x ≤ y) (l.mergeSort leI) := by
  have := List.pairwise_mergeSort (le := leI) (fun a b c h1 h2 => by simp [leI] at *; omega) (fun a b => by simp [leI]; omega) l
  exact this.imp fun h => by simpa [leI] using h
theorem keys_sorted (l : List Int) : compactL (l.mergeSort leI) = keysL l :=
  inc_unique (compactL_inc (sort_le l)).1 (keysL_inc l).1 fun x => by rw [(compactL_inc (sort_le l)).2, (keysL_inc l).2]; exact (List.mergeSort_perm l leI).mem_iff

theorem compactG_L : ∀ l : List Int, compactG l = compactL l
  | [] => rfl
  | [x] => rfl
  | x :: y :: l => by
    rw [compactL_cons, ← compactG_L (y :: l)]; rfl
theorem putIR_len {n : Int} : ∀ (l : List Int) (d : Bool), (putIR n l d).length ≤ l.length + 1
  | [], d => by cases d <;> simp [putIR]
  | x :: l, d => by
    have h1 := putIR_len (n := n) l (d || decide (n ≤ x))
    have h2 : ∀ l : List Int, (putIR n l true).length ≤ l.length := fun l => by
      induction l with
      | nil => simp [putIR]
      | cons y l ih =>
        rw [putIR, if_neg (by simp), List.length_append, List.length_append, Bool.true_or]
        split <;> simp <;> omega
    rw [putIR, List.length_append, List.length_append]
    have h3 := h2 l
    by_cases hA : d = false ∧ n ≤ x
    · rw [show (d || decide (n ≤ x)) = true by simp [hA.2], if_pos hA]
      split <;> simp <;> omega
    · rw [if_neg hA]
      split <;> simp <;> omega

end Go.Proofs.YtcfgcpcakdknkaaGreat
