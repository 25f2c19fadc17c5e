/- Rows of places as lists. No condition beyond those that each theorem says. -/
import Derived.Test.YtpahapjcdldodaaDoorBr3
import Derived.Test.YtpahapjcdldodaaDoorLibL
namespace Go.Proofs.YtpahapjcdldodaaDoor
open Go Go.Gm
set_option linter.unusedVariables false
set_option linter.unusedSimpArgs false
set_option maxHeartbeats 4000000
set_option maxRecDepth 8000


theorem bitAt_out {ws : List Int} {j : Nat} (h : ws.length * 64 ≤ j) : bitAt ws j = false := by
  unfold bitAt
  rw [nth_out (by omega)]
  simp
/-- The places that are set. -/
def places (n : Nat) (ws : List Int) : List Int := ((List.range n).filter fun j => bitAt ws j).map fun j : Nat => (j : Int)
def Clean (n : Nat) (ws : List Int) : Prop := ∀ j, n ≤ j → bitAt ws j = false
def Up (n : Nat) (x : List Int) : Prop := x.Pairwise (· < ·) ∧ ∀ i ∈ x, 0 ≤ i ∧ i < n
structure IsSet (n : Nat) (ws : List Int) (x : List Int) : Prop where
  ok : RowOk n ws
  clean : Clean n ws
  up : Up n x
  mem : ∀ j : Nat, bitAt ws j = true ↔ (j : Int) ∈ x
theorem mem_places {n : Nat} {ws : List Int} {i : Int} : i ∈ places n ws ↔ 0 ≤ i ∧ i < n ∧ bitAt ws i.toNat = true := by
  unfold places
  rw [List.mem_map]
  constructor
  · rintro ⟨j, hj, rfl⟩
    rw [List.mem_filter, List.mem_range] at hj
    exact ⟨by omega, by omega, by simpa using hj.2⟩
  · rintro ⟨h1, h2, h3⟩
    exact ⟨i.toNat, by rw [List.mem_filter, List.mem_range]; exact ⟨by omega, by simpa using h3⟩, by omega⟩
theorem places_up (n : Nat) (ws : List Int) : Up n (places n ws) := by
  refine ⟨?_, fun i hi => by have := mem_places.1 hi; omega⟩
  unfold places
  rw [List.pairwise_map]
  refine List.Pairwise.imp (R := fun a b : Nat => a < b) (fun h => by omega) ?_
  exact List.Pairwise.filter _ List.pairwise_lt_range
theorem up_ext : ∀ {x y : List Int}, x.Pairwise (· < ·) → y.Pairwise (· < ·) → (∀ i, i ∈ x ↔ i ∈ y) → x = y
  | [], [], _, _, _ => rfl
  | [], b :: y, _, _, h => by have := (h b).2 (by simp); simp at this
  | a :: x, [], _, _, h => by have := (h a).1 (by simp); simp at this
  | a :: x, b :: y, hx, hy, h => by
    rw [List.pairwise_cons] at hx hy
    have e : a = b := by
      have h1 := (h a).1 (by simp)
      have h2 := (h b).2 (by simp)
      rcases List.mem_cons.1 h1 with h1 | h1
      · exact h1
      · rcases List.mem_cons.1 h2 with h2 | h2
        · exact h2.symm
        · have := hy.1 a h1
          have := hx.1 b h2
          omega
    subst e
    rw [up_ext hx.2 hy.2 fun i => ?_]
    constructor
    · intro hi
      have := (h i).1 (List.mem_cons_of_mem _ hi)
      rcases List.mem_cons.1 this with e | h'
      · subst e; have := hx.1 _ hi; omega
      · exact h'
    · intro hi
      have := (h i).2 (List.mem_cons_of_mem _ hi)
      rcases List.mem_cons.1 this with e | h'
      · subst e; have := hy.1 _ hi; omega
      · exact h'
theorem IsSet.mk' {n : Nat} {ws x : List Int} (hok : RowOk n ws) (hc : Clean n ws) (hu : Up n x) (h : ∀ j : Nat, j < n → (bitAt ws j = true ↔ (j : Int) ∈ x)) : IsSet n ws x := by
  refine ⟨hok, hc, hu, fun j => ?_⟩
  by_cases hj : j < n
  · exact h j hj
  · rw [hc j (by omega)]
    constructor
    · intro h; cases h
    · intro hm; have := hu.2 _ hm; omega
theorem IsSet.uniq {n : Nat} {ws x y : List Int} (h : IsSet n ws x) (k : IsSet n ws y) : x = y :=
  up_ext h.up.1 k.up.1 fun i => by
    constructor
    · intro hi
      have h1 := h.up.2 i hi
      have := (k.mem i.toNat).1 ((h.mem i.toNat).2 (by rw [Int.toNat_of_nonneg h1.1]; exact hi))
      rwa [Int.toNat_of_nonneg h1.1] at this
    · intro hi
      have h1 := k.up.2 i hi
      have := (h.mem i.toNat).1 ((k.mem i.toNat).2 (by rw [Int.toNat_of_nonneg h1.1]; exact hi))
      rwa [Int.toNat_of_nonneg h1.1] at this
theorem bits_ext {n : Nat} {ws us : List Int} (h : RowOk n ws) (k : RowOk n us) (hb : ∀ j, bitAt ws j = bitAt us j) : ws = us := by
  apply List.ext_getElem (by rw [h.len, k.len])
  intro i h1 h2
  have e1 := h.wd i
  have e2 := k.wd i
  rw [nth_eq h1] at e1
  rw [nth_eq h2] at e2
  have key : ws[i].toNat = us[i].toNat := by
    apply Nat.eq_of_testBit_eq
    intro t
    by_cases ht : t < 64
    · have := hb (i * 64 + t)
      unfold bitAt at this
      rw [show (i * 64 + t) / 64 = i by omega, show (i * 64 + t) % 64 = t by omega, nth_eq h1, nth_eq h2] at this
      exact this
    · rw [Nat.testBit_lt_two_pow (Nat.lt_of_lt_of_le (by omega : ws[i].toNat < 2 ^ 64) (Nat.pow_le_pow_right (by decide) (by omega))), Nat.testBit_lt_two_pow (Nat.lt_of_lt_of_le (by omega : us[i].toNat < 2 ^ 64) (Nat.pow_le_pow_right (by decide) (by omega)))]
  omega
theorem IsSet.words {n : Nat} {ws us x : List Int} (h : IsSet n ws x) (k : IsSet n us x) : ws = us :=
  bits_ext h.ok k.ok fun j => by
    have h1 := h.mem j
    have h2 := k.mem j
    rw [← h2] at h1
    cases e1 : bitAt ws j <;> cases e2 : bitAt us j <;> simp_all
theorem IsSet.in {n : Nat} {ws x : List Int} (h : IsSet n ws x) (i : Int) : hasW n ws i = decide (i ∈ x) := by
  unfold hasW
  by_cases hb : 0 ≤ i ∧ i < n
  · have := h.mem i.toNat
    rw [Int.toNat_of_nonneg hb.1] at this
    rw [show (decide (0 ≤ i) && decide (i < (n : Int))) = true by simp [hb], Bool.true_and]
    by_cases hm : i ∈ x
    · rw [decide_eq_true hm, this.2 hm]
    · rw [decide_eq_false hm]
      cases e : bitAt ws i.toNat
      · rfl
      · exact absurd (this.1 e) hm
  · rw [not_and_yes hb, Bool.false_and, eq_comm, decide_eq_false_iff_not]
    intro hm
    exact hb (h.up.2 i hm)
theorem IsSet.zero (m : Int) : IsSet (rowN m) (zeroW m) [] := by
  have hz : ∀ j, bitAt (zeroW m) j = false := fun j => by unfold bitAt zeroW; rw [nth_rep]; simp
  exact ⟨zeroW_ok m, fun j _ => hz j, ⟨List.Pairwise.nil, by simp⟩, fun j => by simp [hz j]⟩
/-- A place put in, or taken out, of what lies in order. -/
def putR (i : Int) : List Int → Bool → List Int
  | [], d => if d then [] else [i]
  | x :: l, d => (if d = false ∧ i ≤ x then [i] else []) ++ (if x = i then [] else [x]) ++ putR i l (d || decide (i ≤ x))
def putL (l : List Int) (n i : Int) (on : Bool) : List Int := putR i l (!on || decide (i < 0) || decide (n ≤ i))
theorem mem_putR (i j : Int) : ∀ (l : List Int) (d : Bool), j ∈ putR i l d ↔ (j ≠ i ∧ j ∈ l) ∨ (j = i ∧ d = false)
  | [], d => by cases d <;> simp [putR]
  | x :: l, d => by
    rw [putR, List.mem_append, List.mem_append, mem_putR i j l]
    by_cases h1 : i ≤ x <;> cases d <;> by_cases h2 : x = i <;> by_cases h3 : j = i <;> simp_all
    all_goals (try omega)
theorem putR_done (i : Int) : ∀ l : List Int, putR i l true = l.filter (fun x => decide (x ≠ i))
  | [] => rfl
  | x :: l => by
    rw [putR, Bool.true_or, putR_done i l]
    by_cases h : x = i <;> simp [h]
theorem putR_up (i : Int) : ∀ (l : List Int) (d : Bool), l.Pairwise (· < ·) → (putR i l d).Pairwise (· < ·)
  | [], d, _ => by cases d <;> simp [putR]
  | x :: l, d, h => by
    rw [List.pairwise_cons] at h
    have ih := putR_up i l (d || decide (i ≤ x)) h.2
    rw [putR]
    by_cases h1 : i ≤ x
    · have hm : ∀ j, j ∈ putR i l (d || decide (i ≤ x)) → x < j ∧ j ≠ i := by
        intro j hj
        rw [mem_putR] at hj
        rcases hj with hj | hj
        · exact ⟨h.1 j hj.2, hj.1⟩
        · simp [h1] at hj
      generalize (d || decide (i ≤ x)) = d' at hm ih ⊢
      cases d <;> by_cases h2 : x = i
      · subst h2
        simp only [Int.le_refl, and_self, if_true, List.nil_append, List.append_nil, List.singleton_append, List.pairwise_cons]
        exact ⟨fun j hj => (hm j hj).1, ih⟩
      · simp only [h1, and_self, if_true, h2, if_false, List.singleton_append, List.cons_append, List.nil_append, List.pairwise_cons, List.mem_cons]
        refine ⟨?_, fun j hj => (hm j hj).1, ih⟩
        rintro j (rfl | hj)
        · omega
        · have := hm j hj; omega
      · simp only [h2, if_true, List.append_nil, Bool.true_eq_false, false_and, if_false, List.nil_append]
        subst h2; exact ih
      · simp only [h2, if_false, Bool.true_eq_false, false_and, List.nil_append, List.singleton_append, List.pairwise_cons]
        exact ⟨fun j hj => (hm j hj).1, ih⟩
    · have hm : ∀ j, j ∈ putR i l (d || decide (i ≤ x)) → x < j := by
        intro j hj
        rw [mem_putR] at hj
        rcases hj with hj | hj
        · exact h.1 j hj.2
        · omega
      generalize (d || decide (i ≤ x)) = d' at hm ih ⊢
      have h2 : ¬ x = i := by omega
      simp only [h1, and_false, if_false, h2, List.nil_append, List.singleton_append, List.pairwise_cons]
      exact ⟨hm, ih⟩
theorem mem_putL {l : List Int} {n i j : Int} {on : Bool} : j ∈ putL l n i on ↔ (j ≠ i ∧ j ∈ l) ∨ (j = i ∧ on = true ∧ 0 ≤ i ∧ i < n) := by
  unfold putL
  rw [mem_putR]
  cases on <;> simp <;> omega
theorem putL_up {n : Nat} {l : List Int} (h : Up n l) (i : Int) (on : Bool) : Up n (putL l n i on) := by
  refine ⟨putR_up _ _ _ h.1, fun j hj => ?_⟩
  rw [mem_putL] at hj
  rcases hj with hj | hj
  · exact h.2 j hj.2
  · omega
theorem setW_bit {n : Nat} {ws : List Int} (hI : RowOk n ws) (i : Int) (on : Bool) (j : Nat) : bitAt (setW n ws i on) j = if 0 ≤ i ∧ i < n ∧ i = j then on else bitAt ws j := by
  unfold setW setB hasW
  by_cases hb : 0 ≤ i ∧ i < n
  · rw [show (decide (0 ≤ i) && decide (i < (n : Int))) = true by simp [hb], Bool.true_and, Bool.true_and]
    have hq := hI.at i hb.1 hb.2
    have flip : ∀ j, bitAt (flipW ws i.toNat) j = if i = j then !bitAt ws j else bitAt ws j := by
      intro j
      unfold bitAt flipW
      by_cases hj : j / 64 < ws.length
      · rw [nth_setI hj]
        by_cases he : i.toNat / 64 = j / 64
        · rw [if_pos he, Int.toNat_natCast, Nat.testBit_xor, Nat.testBit_two_pow, he]
          by_cases e2 : i = j
          · subst e2; simp
          · rw [if_neg e2, show decide (i.toNat % 64 = j % 64) = false by simp; omega, Bool.xor_false]
        · rw [if_neg he, if_neg (fun e => he (by omega))]
      · rw [nth_out (by rw [List.length_set]; omega), nth_out (by omega), if_neg (fun e => hj (by omega))]
    by_cases h1 : (bitAt ws i.toNat != on) = true
    · rw [if_pos h1, flip j]
      by_cases e : i = j
      · rw [if_pos e, if_pos ⟨hb.1, hb.2, e⟩]
        subst e
        rw [Int.toNat_natCast] at h1
        cases hx : bitAt ws j <;> rw [hx] at h1 <;> cases on <;> simp_all
      · rw [if_neg e, if_neg (fun h => e h.2.2)]
    · rw [if_neg h1]
      by_cases e : i = j
      · rw [if_pos ⟨hb.1, hb.2, e⟩]
        subst e
        rw [Int.toNat_natCast] at h1
        cases hx : bitAt ws j <;> rw [hx] at h1 <;> cases on <;> simp_all
      · rw [if_neg (fun h => e h.2.2)]
  · rw [not_and_yes hb, Bool.false_and, if_neg (by simp), if_neg (fun h => hb ⟨h.1, h.2.1⟩)]
theorem IsSet.set {n : Nat} {ws x : List Int} (h : IsSet n ws x) (i : Int) (on : Bool) : IsSet n (setW n ws i on) (putL x n i on) := by
  refine IsSet.mk' (h.ok.setW i on) (fun j hj => ?_) (putL_up h.up i on) (fun j hj => ?_)
  · rw [setW_bit h.ok, if_neg (by omega), h.clean j hj]
  · rw [setW_bit h.ok, mem_putL]
    have := h.mem j
    by_cases e : 0 ≤ i ∧ i < n ∧ i = j
    · rw [if_pos e]
      constructor
      · intro ho; exact .inr ⟨e.2.2.symm, ho, e.1, e.2.1⟩
      · rintro (⟨h1, _⟩ | ⟨_, h2, _⟩)
        · exact absurd e.2.2.symm h1
        · exact h2
    · rw [if_neg e, this]
      constructor
      · intro hm
        refine .inl ⟨fun e' => e ?_, hm⟩
        omega
      · rintro (⟨_, h2⟩ | ⟨h1, _, h3, h4⟩)
        · exact h2
        · exact absurd ⟨h3, h4, h1.symm⟩ e
theorem IsSet.setB {n : Nat} {ws x : List Int} (h : IsSet n ws x) (i : Int) (on : Bool) : setB n ws i on = !decide (x = putL x n i on) := by
  have k := h.set i on
  by_cases e : x = putL x n i on
  · rw [decide_eq_true e]
    have k' : IsSet n (setW n ws i on) x := by rw [e]; rw [← e]; rw [← e] at k; exact k
    have hw := h.words k'
    unfold Go.Proofs.YtpahapjcdldodaaDoor.setB
    by_cases hb : 0 ≤ i ∧ i < n
    · have hb2 := setW_bit h.ok i on i.toNat
      rw [← hw, if_pos ⟨hb.1, hb.2, by omega⟩] at hb2
      unfold hasW
      rw [show (decide (0 ≤ i) && decide (i < (n : Int))) = true by simp [hb], hb2]
      simp
    · rw [not_and_yes hb]; rfl
  · rw [decide_eq_false e]
    cases hs : Go.Proofs.YtpahapjcdldodaaDoor.setB n ws i on with
    | true => rfl
    | false =>
      have : setW n ws i on = ws := by unfold setW; rw [hs]; rfl
      rw [this] at k
      exact absurd (h.uniq k) e
def ofL (m : Int) (l : List Int) : List Int := l.foldl (fun x i => putL x (rowN m) i true) []
theorem IsSet.of (m : Int) (l : List Int) : IsSet (rowN m) (ofW m l) (ofL m l) := by
  unfold ofW ofL
  have : ∀ (l : List Int) (ws x : List Int), IsSet (rowN m) ws x → IsSet (rowN m) (l.foldl (fun ws i => setW (rowN m) ws i true) ws) (l.foldl (fun x i => putL x (rowN m) i true) x) := by
    intro l
    induction l with
    | nil => intro ws x h; exact h
    | cons i l ih => intro ws x h; exact ih _ _ (h.set i true)
  exact this l _ _ (IsSet.zero m)

end Go.Proofs.YtpahapjcdldodaaDoor
