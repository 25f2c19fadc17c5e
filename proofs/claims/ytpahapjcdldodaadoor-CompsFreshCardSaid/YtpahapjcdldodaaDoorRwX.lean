/- Rw0, Rw1, Rw2, in one text. -/
import Derived.Test.YtpahapjcdldodaaDoorBrX
import Derived.Test.YtpahapjcdldodaaDoorLibL
import Derived.Lib.TrailingZeros
namespace Go.Proofs.YtpahapjcdldodaaDoor
open Go Go.Gm
set_option linter.unusedVariables false
set_option linter.unusedSimpArgs false
set_option maxHeartbeats 4000000
set_option maxRecDepth 8000


theorem bitAt_out {ws : List Int} {j : Nat} (h : ws.length * 64 ≤ j) : bitAt ws j = false := by
  unfold bitAt
  rw [nth_out (by omega)]
  simp
/-- The places that are set. -/
def places (n : Nat) (ws : List Int) : List Int := ((List.range n).filter fun j => bitAt ws j).map fun j : Nat => (j : Int)
def Clean (n : Nat) (ws : List Int) : Prop := ∀ j, n ≤ j → bitAt ws j = false
def Up (n : Nat) (x : List Int) : Prop := x.Pairwise (· < ·) ∧ ∀ i ∈ x, 0 ≤ i ∧ i < n
structure IsSet (n : Nat) (ws : List Int) (x : List Int) : Prop where
  ok : RowOk n ws
  clean : Clean n ws
  up : Up n x
  mem : ∀ j : Nat, bitAt ws j = true ↔ (j : Int) ∈ x
theorem mem_places {n : Nat} {ws : List Int} {i : Int} : i ∈ places n ws ↔ 0 ≤ i ∧ i < n ∧ bitAt ws i.toNat = true := by
  unfold places
  rw [List.mem_map]
  constructor
  · rintro ⟨j, hj, rfl⟩
    rw [List.mem_filter, List.mem_range] at hj
    exact ⟨by omega, by omega, by simpa using hj.2⟩
  · rintro ⟨h1, h2, h3⟩
    exact ⟨i.toNat, by rw [List.mem_filter, List.mem_range]; exact ⟨by omega, by simpa using h3⟩, by omega⟩
theorem places_up (n : Nat) (ws : List Int) : Up n (places n ws) := by
  refine ⟨?_, fun i hi => by have := mem_places.1 hi; omega⟩
  unfold places
  rw [List.pairwise_map]
  refine List.Pairwise.imp (R := fun a b : Nat => a < b) (fun h => by omega) ?_
  exact List.Pairwise.filter _ List.pairwise_lt_range
theorem up_ext : ∀ {x y : List Int}, x.Pairwise (· < ·) → y.Pairwise (· < ·) → (∀ i, i ∈ x ↔ i ∈ y) → x = y
  | [], [], _, _, _ => rfl
  | [], b :: y, _, _, h => by have := (h b).2 (by simp); simp at this
  | a :: x, [], _, _, h => by have := (h a).1 (by simp); simp at this
  | a :: x, b :: y, hx, hy, h => by
    rw [List.pairwise_cons] at hx hy
    have e : a = b := by
      have h1 := (h a).1 (by simp)
      have h2 := (h b).2 (by simp)
      rcases List.mem_cons.1 h1 with h1 | h1
      · exact h1
      · rcases List.mem_cons.1 h2 with h2 | h2
        · exact h2.symm
        · have := hy.1 a h1
          have := hx.1 b h2
          omega
    subst e
    rw [up_ext hx.2 hy.2 fun i => ?_]
    constructor
    · intro hi
      have := (h i).1 (List.mem_cons_of_mem _ hi)
      rcases List.mem_cons.1 this with e | h'
      · subst e; have := hx.1 _ hi; omega
      · exact h'
    · intro hi
      have := (h i).2 (List.mem_cons_of_mem _ hi)
      rcases List.mem_cons.1 this with e | h'
      · subst e; have := hy.1 _ hi; omega
      · exact h'
theorem IsSet.mk' {n : Nat} {ws x : List Int} (hok : RowOk n ws) (hc : Clean n ws) (hu : Up n x) (h : ∀ j : Nat, j < n → (bitAt ws j = true ↔ (j : Int) ∈ x)) : IsSet n ws x := by
  refine ⟨hok, hc, hu, fun j => ?_⟩
  by_cases hj : j < n
  · exact h j hj
  · rw [hc j (by omega)]
    constructor
    · intro h; cases h
    · intro hm; have := hu.2 _ hm; omega
theorem IsSet.uniq {n : Nat} {ws x y : List Int} (h : IsSet n ws x) (k : IsSet n ws y) : x = y :=
  up_ext h.up.1 k.up.1 fun i => by
    constructor
    · intro hi
      have h1 := h.up.2 i hi
      have := (k.mem i.toNat).1 ((h.mem i.toNat).2 (by rw [Int.toNat_of_nonneg h1.1]; exact hi))
      rwa [Int.toNat_of_nonneg h1.1] at this
    · intro hi
      have h1 := k.up.2 i hi
      have := (h.mem i.toNat).1 ((k.mem i.toNat).2 (by rw [Int.toNat_of_nonneg h1.1]; exact hi))
      rwa [Int.toNat_of_nonneg h1.1] at this
theorem bits_ext {n : Nat} {ws us : List Int} (h : RowOk n ws) (k : RowOk n us) (hb : ∀ j, bitAt ws j = bitAt us j) : ws = us := by
  apply List.ext_getElem (by rw [h.len, k.len])
  intro i h1 h2
  have e1 := h.wd i
  have e2 := k.wd i
  rw [nth_eq h1] at e1
  rw [nth_eq h2] at e2
  have key : ws[i].toNat = us[i].toNat := by
    apply Nat.eq_of_testBit_eq
    intro t
    by_cases ht : t < 64
    · have := hb (i * 64 + t)
      unfold bitAt at this
      rw [show (i * 64 + t) / 64 = i by omega, show (i * 64 + t) % 64 = t by omega, nth_eq h1, nth_eq h2] at this
      exact this
    · rw [Nat.testBit_lt_two_pow (Nat.lt_of_lt_of_le (by omega : ws[i].toNat < 2 ^ 64) (Nat.pow_le_pow_right (by decide) (by omega))), Nat.testBit_lt_two_pow (Nat.lt_of_lt_of_le (by omega : us[i].toNat < 2 ^ 64) (Nat.pow_le_pow_right (by decide) (by omega)))]
  omega
theorem IsSet.words {n : Nat} {ws us x : List Int} (h : IsSet n ws x) (k : IsSet n us x) : ws = us :=
  bits_ext h.ok k.ok fun j => by
    have h1 := h.mem j
    have h2 := k.mem j
    rw [← h2] at h1
    cases e1 : bitAt ws j <;> cases e2 : bitAt us j <;> simp_all
theorem IsSet.in {n : Nat} {ws x : List Int} (h : IsSet n ws x) (i : Int) : hasW n ws i = decide (i ∈ x) := by
  unfold hasW
  by_cases hb : 0 ≤ i ∧ i < n
  · have := h.mem i.toNat
    rw [Int.toNat_of_nonneg hb.1] at this
    rw [show (decide (0 ≤ i) && decide (i < (n : Int))) = true by simp [hb], Bool.true_and]
    by_cases hm : i ∈ x
    · rw [decide_eq_true hm, this.2 hm]
    · rw [decide_eq_false hm]
      cases e : bitAt ws i.toNat
      · rfl
      · exact absurd (this.1 e) hm
  · rw [not_and_yes hb, Bool.false_and, eq_comm, decide_eq_false_iff_not]
    intro hm
    exact hb (h.up.2 i hm)
theorem IsSet.zero (m : Int) : IsSet (rowN m) (zeroW m) [] := by
  have hz : ∀ j, bitAt (zeroW m) j = false := fun j => by unfold bitAt zeroW; rw [nth_rep]; simp
  exact ⟨zeroW_ok m, fun j _ => hz j, ⟨List.Pairwise.nil, by simp⟩, fun j => by simp [hz j]⟩
/-- A place put in, or taken out, of what lies in order. -/
def putR (i : Int) : List Int → Bool → List Int
  | [], d => if d then [] else [i]
  | x :: l, d => (if d = false ∧ i ≤ x then [i] else []) ++ (if x = i then [] else [x]) ++ putR i l (d || decide (i ≤ x))
def putL (l : List Int) (n i : Int) (on : Bool) : List Int := putR i l (!on || decide (i < 0) || decide (n ≤ i))
theorem mem_putR (i j : Int) : ∀ (l : List Int) (d : Bool), j ∈ putR i l d ↔ (j ≠ i ∧ j ∈ l) ∨ (j = i ∧ d = false)
  | [], d => by cases d <;> simp [putR]
  | x :: l, d => by
    rw [putR, List.mem_append, List.mem_append, mem_putR i j l]
    by_cases h1 : i ≤ x <;> cases d <;> by_cases h2 : x = i <;> by_cases h3 : j = i <;> simp_all
    all_goals (try omega)
theorem putR_up (i : Int) : ∀ (l : List Int) (d : Bool), l.Pairwise (· < ·) → (putR i l d).Pairwise (· < ·)
  | [], d, _ => by cases d <;> simp [putR]
  | x :: l, d, h => by
    rw [List.pairwise_cons] at h
    have ih := putR_up i l (d || decide (i ≤ x)) h.2
    rw [putR]
    by_cases h1 : i ≤ x
    · have hm : ∀ j, j ∈ putR i l (d || decide (i ≤ x)) → x < j ∧ j ≠ i := by
        intro j hj
        rw [mem_putR] at hj
        rcases hj with hj | hj
        · exact ⟨h.1 j hj.2, hj.1⟩
        · simp [h1] at hj
      generalize (d || decide (i ≤ x)) = d' at hm ih ⊢
      cases d <;> by_cases h2 : x = i
      · subst h2
        simp only [Int.le_refl, and_self, if_true, List.nil_append, List.append_nil, List.singleton_append, List.pairwise_cons]
        exact ⟨fun j hj => (hm j hj).1, ih⟩
      · simp only [h1, and_self, if_true, h2, if_false, List.singleton_append, List.cons_append, List.nil_append, List.pairwise_cons, List.mem_cons]
        refine ⟨?_, fun j hj => (hm j hj).1, ih⟩
        rintro j (rfl | hj)
        · omega
        · have := hm j hj; omega
      · simp only [h2, if_true, List.append_nil, Bool.true_eq_false, false_and, if_false, List.nil_append]
        subst h2; exact ih
      · simp only [h2, if_false, Bool.true_eq_false, false_and, List.nil_append, List.singleton_append, List.pairwise_cons]
        exact ⟨fun j hj => (hm j hj).1, ih⟩
    · have hm : ∀ j, j ∈ putR i l (d || decide (i ≤ x)) → x < j := by
        intro j hj
        rw [mem_putR] at hj
        rcases hj with hj | hj
        · exact h.1 j hj.2
        · omega
      generalize (d || decide (i ≤ x)) = d' at hm ih ⊢
      have h2 : ¬ x = i := by omega
      simp only [h1, and_false, if_false, h2, List.nil_append, List.singleton_append, List.pairwise_cons]
      exact ⟨hm, ih⟩
theorem mem_putL {l : List Int} {n i j : Int} {on : Bool} : j ∈ putL l n i on ↔ (j ≠ i ∧ j ∈ l) ∨ (j = i ∧ on = true ∧ 0 ≤ i ∧ i < n) := by
  unfold putL
  rw [mem_putR]
  cases on <;> simp <;> omega
theorem putL_up {n : Nat} {l : List Int} (h : Up n l) (i : Int) (on : Bool) : Up n (putL l n i on) := by
  refine ⟨putR_up _ _ _ h.1, fun j hj => ?_⟩
  rw [mem_putL] at hj
  rcases hj with hj | hj
  · exact h.2 j hj.2
  · omega
theorem setW_bit {n : Nat} {ws : List Int} (hI : RowOk n ws) (i : Int) (on : Bool) (j : Nat) : bitAt (setW n ws i on) j = if 0 ≤ i ∧ i < n ∧ i = j then on else bitAt ws j := by
  unfold setW setB hasW
  by_cases hb : 0 ≤ i ∧ i < n
  · rw [show (decide (0 ≤ i) && decide (i < (n : Int))) = true by simp [hb], Bool.true_and, Bool.true_and]
    have hq := hI.at i hb.1 hb.2
    have flip : ∀ j, bitAt (flipW ws i.toNat) j = if i = j then !bitAt ws j else bitAt ws j := by
      intro j
      unfold bitAt flipW
      by_cases hj : j / 64 < ws.length
      · rw [nth_setI hj]
        by_cases he : i.toNat / 64 = j / 64
        · rw [if_pos he, Int.toNat_natCast, Nat.testBit_xor, Nat.testBit_two_pow, he]
          by_cases e2 : i = j
          · subst e2; simp
          · rw [if_neg e2, show decide (i.toNat % 64 = j % 64) = false by simp; omega, Bool.xor_false]
        · rw [if_neg he, if_neg (fun e => he (by omega))]
      · rw [nth_out (by rw [List.length_set]; omega), nth_out (by omega), if_neg (fun e => hj (by omega))]
    by_cases h1 : (bitAt ws i.toNat != on) = true
    · rw [if_pos h1, flip j]
      by_cases e : i = j
      · rw [if_pos e, if_pos ⟨hb.1, hb.2, e⟩]
        subst e
        rw [Int.toNat_natCast] at h1
        cases hx : bitAt ws j <;> rw [hx] at h1 <;> cases on <;> simp_all
      · rw [if_neg e, if_neg (fun h => e h.2.2)]
    · rw [if_neg h1]
      by_cases e : i = j
      · rw [if_pos ⟨hb.1, hb.2, e⟩]
        subst e
        rw [Int.toNat_natCast] at h1
        cases hx : bitAt ws j <;> rw [hx] at h1 <;> cases on <;> simp_all
      · rw [if_neg (fun h => e h.2.2)]
  · rw [not_and_yes hb, Bool.false_and, if_neg (by simp), if_neg (fun h => hb ⟨h.1, h.2.1⟩)]
theorem IsSet.set {n : Nat} {ws x : List Int} (h : IsSet n ws x) (i : Int) (on : Bool) : IsSet n (setW n ws i on) (putL x n i on) := by
  refine IsSet.mk' (h.ok.setW i on) (fun j hj => ?_) (putL_up h.up i on) (fun j hj => ?_)
  · rw [setW_bit h.ok, if_neg (by omega), h.clean j hj]
  · rw [setW_bit h.ok, mem_putL]
    have := h.mem j
    by_cases e : 0 ≤ i ∧ i < n ∧ i = j
    · rw [if_pos e]
      constructor
      · intro ho; exact .inr ⟨e.2.2.symm, ho, e.1, e.2.1⟩
      · rintro (⟨h1, _⟩ | ⟨_, h2, _⟩)
        · exact absurd e.2.2.symm h1
        · exact h2
    · rw [if_neg e, this]
      constructor
      · intro hm
        refine .inl ⟨fun e' => e ?_, hm⟩
        omega
      · rintro (⟨_, h2⟩ | ⟨h1, _, h3, h4⟩)
        · exact h2
        · exact absurd ⟨h3, h4, h1.symm⟩ e
theorem IsSet.setB {n : Nat} {ws x : List Int} (h : IsSet n ws x) (i : Int) (on : Bool) : setB n ws i on = !decide (x = putL x n i on) := by
  have k := h.set i on
  by_cases e : x = putL x n i on
  · rw [decide_eq_true e]
    have k' : IsSet n (setW n ws i on) x := by rw [e]; rw [← e]; rw [← e] at k; exact k
    have hw := h.words k'
    unfold Go.Proofs.YtpahapjcdldodaaDoor.setB
    by_cases hb : 0 ≤ i ∧ i < n
    · have hb2 := setW_bit h.ok i on i.toNat
      rw [← hw, if_pos ⟨hb.1, hb.2, by omega⟩] at hb2
      unfold hasW
      rw [show (decide (0 ≤ i) && decide (i < (n : Int))) = true by simp [hb], hb2]
      simp
    · rw [not_and_yes hb]; rfl
  · rw [decide_eq_false e]
    cases hs : Go.Proofs.YtpahapjcdldodaaDoor.setB n ws i on with
    | true => rfl
    | false =>
      have : setW n ws i on = ws := by unfold setW; rw [hs]; rfl
      rw [this] at k
      exact absurd (h.uniq k) e
def ofL (m : Int) (l : List Int) : List Int := l.foldl (fun x i => putL x (rowN m) i true) []
theorem IsSet.of (m : Int) (l : List Int) : IsSet (rowN m) (ofW m l) (ofL m l) := by
  unfold ofW ofL
  have : ∀ (l : List Int) (ws x : List Int), IsSet (rowN m) ws x → IsSet (rowN m) (l.foldl (fun ws i => setW (rowN m) ws i true) ws) (l.foldl (fun x i => putL x (rowN m) i true) x) := by
    intro l
    induction l with
    | nil => intro ws x h; exact h
    | cons i l ih => intro ws x h; exact ih _ _ (h.set i true)
  exact this l _ _ (IsSet.zero m)

end Go.Proofs.YtpahapjcdldodaaDoor
namespace Go.Proofs.YtpahapjcdldodaaDoor
open Go Go.Gm
set_option linter.unusedVariables false
set_option linter.unusedSimpArgs false
set_option maxHeartbeats 4000000
set_option maxRecDepth 8000


/-- A number's bytes, the lowest one first. -/
def valB : List Nat → Nat
  | [] => 0
  | b :: l => b + 256 * valB l
def repB (m : Nat) : Nat → Nat
  | 0 => 0
  | k + 1 => m + 256 * repB m k
theorem and_byte (b y m M : Nat) (hb : b < 256) (hm : m < 256) : (b + 256 * y) &&& (m + 256 * M) = (b &&& m) + 256 * (y &&& M) := by
  have h1 : ((b + 256 * y) &&& (m + 256 * M)) % 2 ^ 8 = b &&& m := by
    rw [Nat.and_mod_two_pow, show (b + 256 * y) % 2 ^ 8 = b by omega, show (m + 256 * M) % 2 ^ 8 = m by omega]
  have h2 : ((b + 256 * y) &&& (m + 256 * M)) / 2 ^ 8 = y &&& M := by
    rw [← Nat.shiftRight_eq_div_pow, Nat.shiftRight_and_distrib, Nat.shiftRight_eq_div_pow, Nat.shiftRight_eq_div_pow, show (b + 256 * y) / 2 ^ 8 = y by omega, show (m + 256 * M) / 2 ^ 8 = M by omega]
  have h3 := Nat.div_add_mod ((b + 256 * y) &&& (m + 256 * M)) (2 ^ 8)
  rw [h1, h2] at h3
  omega
def s1 (b : Nat) : Nat := (b / 2 &&& 85) + (b &&& 85)
def s2 (b : Nat) : Nat := (b / 4 &&& 51) + (b &&& 51)
def s3 (b : Nat) : Nat := (b / 16 + b) &&& 15
theorem stage1 : ∀ bs : List Nat, (∀ b ∈ bs, b < 256) → (valB bs / 2 &&& repB 85 bs.length) + (valB bs &&& repB 85 bs.length) = valB (bs.map s1)
  | [], _ => rfl
  | b :: l, h => by
    have ih := stage1 l fun x hx => h x (by simp [hx])
    have hb := h b (by simp)
    simp only [valB, List.length_cons, repB, List.map_cons]
    have e : (b + 256 * valB l) / 2 = (b / 2 + 128 * (valB l % 2)) + 256 * (valB l / 2) := by omega
    rw [e, and_byte _ _ _ _ (by omega) (by decide), and_byte _ _ _ _ hb (by decide)]
    have k : ∀ (b : Fin 256) (t : Fin 2), (b.val / 2 + 128 * t.val) &&& 85 = b.val / 2 &&& 85 := by decide +kernel
    have := k ⟨b, hb⟩ ⟨valB l % 2, Nat.mod_lt _ (by decide)⟩
    simp only at this
    rw [this, s1]
    omega
theorem stage2 : ∀ bs : List Nat, (∀ b ∈ bs, b < 256) → (valB bs / 4 &&& repB 51 bs.length) + (valB bs &&& repB 51 bs.length) = valB (bs.map s2)
  | [], _ => rfl
  | b :: l, h => by
    have ih := stage2 l fun x hx => h x (by simp [hx])
    have hb := h b (by simp)
    simp only [valB, List.length_cons, repB, List.map_cons]
    have e : (b + 256 * valB l) / 4 = (b / 4 + 64 * (valB l % 4)) + 256 * (valB l / 4) := by omega
    rw [e, and_byte _ _ _ _ (by omega) (by decide), and_byte _ _ _ _ hb (by decide)]
    have k : ∀ (b : Fin 256) (t : Fin 4), (b.val / 4 + 64 * t.val) &&& 51 = b.val / 4 &&& 51 := by decide +kernel
    have := k ⟨b, hb⟩ ⟨valB l % 4, Nat.mod_lt _ (by decide)⟩
    simp only at this
    rw [this, s2]
    omega
theorem stage3 : ∀ bs : List Nat, (∀ b ∈ bs, b / 16 ≤ 4 ∧ b % 16 ≤ 4) → (valB bs / 16 + valB bs) &&& repB 15 bs.length = valB (bs.map s3) ∧ valB bs % 16 ≤ 4
  | [], _ => ⟨rfl, by decide⟩
  | b :: l, h => by
    have ih := stage3 l fun x hx => h x (by simp [hx])
    have hb := h b (by simp)
    simp only [valB, List.length_cons, repB, List.map_cons]
    refine ⟨?_, by omega⟩
    have e : (b + 256 * valB l) / 16 + (b + 256 * valB l) = (b / 16 + b + 16 * (valB l % 16)) + 256 * (valB l / 16 + valB l) := by omega
    rw [e, and_byte _ _ _ _ (by omega) (by decide), ih.1]
    have k : ∀ (b : Fin 128) (t : Fin 5), (b.val / 16 + b.val + 16 * t.val) &&& 15 = (b.val / 16 + b.val) &&& 15 := by decide +kernel
    have := k ⟨b, by omega⟩ ⟨valB l % 16, by omega⟩
    simp only at this
    rw [this, s3]
def popB (b : Nat) : Nat := (List.range 8).countP fun j => b.testBit j
theorem s321 : ∀ b : Fin 256, s3 (s2 (s1 b.val)) = popB b.val ∧ s1 b.val < 256 ∧ s2 (s1 b.val) / 16 ≤ 4 ∧ s2 (s1 b.val) % 16 ≤ 4 ∧ popB b.val ≤ 8 := by decide +kernel
/-- A number below 2^64 in its eight bytes. -/
def bytes8 (x : Nat) : List Nat := [x % 256, x / 256 % 256, x / 65536 % 256, x / 16777216 % 256, x / 4294967296 % 256, x / 1099511627776 % 256, x / 281474976710656 % 256, x / 72057594037927936]
theorem bytes8_val (x : Nat) : valB (bytes8 x) = x := by simp only [bytes8, valB]; omega
theorem bytes8_lt {x : Nat} (h : x < 18446744073709551616) : ∀ b ∈ bytes8 x, b < 256 := by
  intro b hb
  simp only [bytes8, List.mem_cons, List.not_mem_nil, or_false] at hb
  rcases hb with h | h | h | h | h | h | h | h <;> omega
theorem dig1 (a r : Nat) (ha : a < 256) : (a + 256 * r) / 256 = r := by omega
theorem dig2 (a b r : Nat) (ha : a < 256) (hb : b < 256) : (a + 256 * (b + 256 * r)) / 65536 = r := by omega
theorem dig4 (a b c d r : Nat) (ha : a < 256) (hb : b < 256) (hc : c < 256) (hd : d < 256) : (a + 256 * (b + 256 * (c + 256 * (d + 256 * r)))) / 4294967296 = r := by omega
theorem sum81 (d0 d1 d2 d3 d4 d5 d6 d7 : Nat) : valB [d0, d1, d2, d3, d4, d5, d6, d7] + valB [d1, d2, d3, d4, d5, d6, d7] = valB [d0 + d1, d1 + d2, d2 + d3, d3 + d4, d4 + d5, d5 + d6, d6 + d7, d7] := by simp only [valB]; omega
theorem sum82 (d0 d1 d2 d3 d4 d5 d6 d7 : Nat) : valB [d0, d1, d2, d3, d4, d5, d6, d7] + valB [d2, d3, d4, d5, d6, d7] = valB [d0 + d2, d1 + d3, d2 + d4, d3 + d5, d4 + d6, d5 + d7, d6, d7] := by simp only [valB]; omega
theorem sum84 (d0 d1 d2 d3 d4 d5 d6 d7 : Nat) : valB [d0, d1, d2, d3, d4, d5, d6, d7] + valB [d4, d5, d6, d7] = valB [d0 + d4, d1 + d5, d2 + d6, d3 + d7, d4, d5, d6, d7] := by simp only [valB]; omega
theorem last8 (g0 g1 g2 g3 g4 g5 g6 g7 : Nat) (h0 : g0 ≤ 64) (h1 : g1 ≤ 64) (h2 : g2 ≤ 64) (h3 : g3 ≤ 64) (h4 : g4 ≤ 64) (h5 : g5 ≤ 64) (h6 : g6 ≤ 64) (h7 : g7 ≤ 64) : valB [g0, g1, g2, g3, g4, g5, g6, g7] % 128 = g0 ∧ valB [g0, g1, g2, g3, g4, g5, g6, g7] < 18446744073709551616 := by
  refine ⟨?_, ?_⟩
  · show (g0 + 256 * valB [g1, g2, g3, g4, g5, g6, g7]) % 128 = g0
    generalize valB [g1, g2, g3, g4, g5, g6, g7] = r
    clear h1 h2 h3 h4 h5 h6 h7
    omega
  · simp only [valB]; omega
theorem stage4 (d0 d1 d2 d3 d4 d5 d6 d7 : Nat) (h0 : d0 ≤ 8) (h1 : d1 ≤ 8) (h2 : d2 ≤ 8) (h3 : d3 ≤ 8) (h4 : d4 ≤ 8) (h5 : d5 ≤ 8) (h6 : d6 ≤ 8) (h7 : d7 ≤ 8) (x y z u : Nat)
    (hx : x = valB [d0, d1, d2, d3, d4, d5, d6, d7]) (hy : y = x + x / 256) (hz : z = y + y / 65536) (hu : u = z + z / 4294967296) : u % 128 = d0 + d1 + d2 + d3 + d4 + d5 + d6 + d7 ∧ u < 18446744073709551616 := by
  have hx1 : x / 256 = valB [d1, d2, d3, d4, d5, d6, d7] := by rw [hx]; exact dig1 _ _ (by omega)
  rw [hx1, hx, sum81] at hy
  have hy1 : y / 65536 = valB [d2 + d3, d3 + d4, d4 + d5, d5 + d6, d6 + d7, d7] := by rw [hy]; exact dig2 _ _ _ (by omega) (by omega)
  rw [hy1, hy, sum82] at hz
  have hz1 : z / 4294967296 = valB [d4 + d5 + (d6 + d7), d5 + d6 + d7, d6 + d7, d7] := by rw [hz]; exact dig4 _ _ _ _ _ (by omega) (by omega) (by omega) (by omega)
  rw [hz1, hz, sum84] at hu
  have := last8 (d0 + d1 + (d2 + d3) + (d4 + d5 + (d6 + d7))) (d1 + d2 + (d3 + d4) + (d5 + d6 + d7)) (d2 + d3 + (d4 + d5) + (d6 + d7)) (d3 + d4 + (d5 + d6) + d7) (d4 + d5 + (d6 + d7)) (d5 + d6 + d7) (d6 + d7) d7 (by omega) (by omega) (by omega) (by omega) (by omega) (by omega) (by omega) (by omega)
  rw [hu]
  exact ⟨by rw [this.1]; omega, this.2⟩
theorem bits_and_nat (x m : Nat) (hx : x < 18446744073709551616) (hm : m < 18446744073709551616) : bits .and .u64 (x : Int) (m : Int) = ((x &&& m : Nat) : Int) := by
  have h1 : (BitVec.ofInt 64 (x : Int)).toNat = x := by rw [BitVec.toNat_ofInt]; omega
  have h2 : (BitVec.ofInt 64 (m : Int)).toNat = m := by rw [BitVec.toNat_ofInt]; omega
  show IntKind.wrap .u64 (((BitVec.ofInt 64 (x : Int) &&& BitVec.ofInt 64 (m : Int)).toNat : Nat) : Int) = _
  rw [BitVec.toNat_and, h1, h2]
  exact wrap_u64 (by have := Nat.and_lt_two_pow (n := 64) x (y := m) (by omega); omega)
theorem shrF_nat (x k : Nat) (hk : k < 64) : shrF (x : Int) (k : Int) = ((x / 2 ^ k : Nat) : Int) := by
  unfold shrF
  rw [Int.toNat_natCast, show min k (IntKind.bits .u64) = k by simp only [IntKind.bits]; omega, Int.fdiv_eq_ediv_of_nonneg _ (by exact_mod_cast Nat.zero_le _)]
  norm_cast
theorem and_le_right' (x m : Nat) : x &&& m ≤ m := Nat.and_le_right
/-- How many bits of a word are set. -/
theorem onesF_eq {x : Nat} (h : x < 18446744073709551616) : onesF (x : Int) = ((((bytes8 x).map popB).sum : Nat) : Int) := by
  have e1 : ones1 (x : Int) = ((valB ((bytes8 x).map s1) : Nat) : Int) := by
    rw [← stage1 _ (bytes8_lt h), bytes8_val]
    unfold ones1
    rw [show (1 : Int) = ((1 : Nat) : Int) from rfl, shrF_nat x 1 (by decide)]
    rw [show (6148914691236517205 : Int) = ((6148914691236517205 : Nat) : Int) from rfl, bits_and_nat _ _ (by omega) (by decide), bits_and_nat _ _ h (by decide)]
    have l1 := and_le_right' (x / 2 ^ 1) 6148914691236517205
    have l2 := and_le_right' x 6148914691236517205
    rw [wrap_u64 (by omega)]
    have er : repB 85 (bytes8 x).length = 6148914691236517205 := by show repB 85 8 = _; decide
    rw [er]
    simp only [Nat.pow_one]
    omega
  have hb : ∀ b ∈ bytes8 x, s3 (s2 (s1 b)) = popB b ∧ s1 b < 256 ∧ s2 (s1 b) / 16 ≤ 4 ∧ s2 (s1 b) % 16 ≤ 4 ∧ popB b ≤ 8 := fun b hb => s321 ⟨b, bytes8_lt h b hb⟩
  have e2 : ones2 (ones1 (x : Int)) = ((valB (((bytes8 x).map s1).map s2) : Nat) : Int) := by
    have hl : ∀ b ∈ (bytes8 x).map s1, b < 256 := by
      intro b hm
      obtain ⟨c, hc, rfl⟩ := List.mem_map.1 hm
      exact (hb c hc).2.1
    have hv : valB ((bytes8 x).map s1) < 18446744073709551616 := by
      have : ∀ l : List Nat, (∀ b ∈ l, b < 256) → valB l < 256 ^ l.length := by
        intro l
        induction l with
        | nil => intro _; decide
        | cons b l ih =>
          intro hh
          have := ih fun x hx => hh x (by simp [hx])
          have := hh b (by simp)
          simp only [valB, List.length_cons, Nat.pow_succ]
          omega
      have := this _ hl
      have e : (256 : Nat) ^ (bytes8 x).length = 18446744073709551616 := by show 256 ^ 8 = _; decide
      rw [List.length_map, e] at this
      exact this
    rw [e1, ← stage2 _ hl]
    generalize valB ((bytes8 x).map s1) = y at hv
    unfold ones2
    rw [show (2 : Int) = ((2 : Nat) : Int) from rfl, shrF_nat y 2 (by decide)]
    rw [show (3689348814741910323 : Int) = ((3689348814741910323 : Nat) : Int) from rfl, bits_and_nat _ _ (by omega) (by decide), bits_and_nat _ _ hv (by decide)]
    have l1 := and_le_right' (y / 2 ^ 2) 3689348814741910323
    have l2 := and_le_right' y 3689348814741910323
    rw [wrap_u64 (by omega)]
    have er : repB 51 ((bytes8 x).map s1).length = 3689348814741910323 := by rw [List.length_map]; show repB 51 8 = _; decide
    rw [er]
    simp only [show 2 ^ 2 = 4 from rfl]
    omega
  have e3 : ones3 (ones2 (ones1 (x : Int))) = ((valB ((bytes8 x).map popB) : Nat) : Int) := by
    have hl : ∀ b ∈ ((bytes8 x).map s1).map s2, b / 16 ≤ 4 ∧ b % 16 ≤ 4 := by
      intro b hm
      obtain ⟨c, hc, rfl⟩ := List.mem_map.1 hm
      obtain ⟨d, hd, rfl⟩ := List.mem_map.1 hc
      exact ⟨(hb d hd).2.2.1, (hb d hd).2.2.2.1⟩
    have hv : valB (((bytes8 x).map s1).map s2) < 5000000000000000000 := by
      have : ∀ l : List Nat, (∀ b ∈ l, b / 16 ≤ 4 ∧ b % 16 ≤ 4) → valB l * 255 ≤ 68 * (256 ^ l.length - 1) := by
        intro l
        induction l with
        | nil => intro _; decide
        | cons b l ih =>
          intro hh
          have h1 := ih fun x hx => hh x (by simp [hx])
          have h2 := hh b (by simp)
          have h3 : 0 < 256 ^ l.length := Nat.pow_pos (by decide)
          simp only [valB, List.length_cons, Nat.pow_succ]
          omega
      have := this _ hl
      rw [List.length_map, List.length_map] at this
      have e : (256 : Nat) ^ (bytes8 x).length = 18446744073709551616 := by show 256 ^ 8 = _; decide
      rw [e] at this
      omega
    have hp : (((bytes8 x).map s1).map s2).map s3 = (bytes8 x).map popB := by
      rw [List.map_map, List.map_map]
      exact List.map_congr_left fun b hm => (hb b hm).1
    rw [e2, ← hp, ← (stage3 _ hl).1]
    generalize valB (((bytes8 x).map s1).map s2) = y at hv
    unfold ones3
    rw [show (4 : Int) = ((4 : Nat) : Int) from rfl, shrF_nat y 4 (by decide)]
    rw [show (1085102592571150095 : Int) = ((1085102592571150095 : Nat) : Int) from rfl, wrap_u64 (by omega), ← Int.natCast_add, bits_and_nat _ _ (by omega) (by decide)]
    have er : repB 15 (((bytes8 x).map s1).map s2).length = 1085102592571150095 := by rw [List.length_map, List.length_map]; show repB 15 8 = _; decide
    rw [er]
  unfold onesF
  rw [e3]
  have hd : ∀ b ∈ (bytes8 x).map popB, b ≤ 8 := by
    intro b hm
    obtain ⟨c, hc, rfl⟩ := List.mem_map.1 hm
    exact (hb c hc).2.2.2.2
  simp only [bytes8, List.map_cons, List.map_nil, List.mem_cons, List.not_mem_nil, or_false, forall_eq_or_imp, forall_eq] at hd
  obtain ⟨h0, h1, h2, h3, h4, h5, h6, h7⟩ := hd
  have hsum : ((bytes8 x).map popB).sum = popB (x % 256) + popB (x / 256 % 256) + popB (x / 65536 % 256) + popB (x / 16777216 % 256) + popB (x / 4294967296 % 256) + popB (x / 1099511627776 % 256) + popB (x / 281474976710656 % 256) + popB (x / 72057594037927936) := by
    simp only [bytes8, List.map_cons, List.map_nil, List.sum_cons, List.sum_nil]
    omega
  rw [hsum]
  obtain ⟨X, hX⟩ : ∃ X, X = valB ((bytes8 x).map popB) := ⟨_, rfl⟩
  obtain ⟨y, hy⟩ : ∃ y, y = X + X / 256 := ⟨_, rfl⟩
  obtain ⟨z, hz⟩ : ∃ z, z = y + y / 65536 := ⟨_, rfl⟩
  obtain ⟨u, hu⟩ : ∃ u, u = z + z / 4294967296 := ⟨_, rfl⟩
  obtain ⟨g1, g2⟩ := stage4 _ _ _ _ _ _ _ _ h0 h1 h2 h3 h4 h5 h6 h7 X y z u hX hy hz hu
  rw [← g1, ← hX]
  clear hX h0 h1 h2 h3 h4 h5 h6 h7 hsum g1 hb e1 e2 e3
  have o4 : ∀ (y k : Nat), k < 64 → y + y / 2 ^ k < 18446744073709551616 → ones4 (y : Int) (k : Int) = ((y + y / 2 ^ k : Nat) : Int) := by
    intro y k hk hy
    unfold ones4
    rw [shrF_nat y k hk]
    generalize y / 2 ^ k = r at hy ⊢
    rw [wrap_u64 (by omega)]
    omega
  have o1 : ones4 (X : Int) 8 = (y : Int) := by rw [hy]; exact o4 X 8 (by decide) (by show X + X / 256 < _; omega)
  have o2 : ones4 (y : Int) 16 = (z : Int) := by rw [hz]; exact o4 y 16 (by decide) (by show y + y / 65536 < _; omega)
  have o3 : ones4 (z : Int) 32 = (u : Int) := by rw [hu]; exact o4 z 32 (by decide) (by show z + z / 4294967296 < _; omega)
  rw [o1, o2, o3]
  have e : bits .and .i64 (IntKind.wrap .i64 (u : Int)) 127 = ((u % 128 : Nat) : Int) := by
    have h2 : (BitVec.ofInt 64 (127 : Int)).toNat = 2 ^ 7 - 1 := by decide
    show IntKind.wrap .i64 (((BitVec.ofInt 64 (IntKind.wrap .i64 (u : Int)) &&& BitVec.ofInt 64 127).toNat : Nat) : Int) = _
    rw [BitVec.toNat_and, h2, Nat.and_two_pow_sub_one_eq_mod]
    have h1 : (BitVec.ofInt 64 (IntKind.wrap .i64 (u : Int))).toNat % 2 ^ 7 = u % 128 := by
      rw [BitVec.toNat_ofInt]
      simp only [IntKind.wrap, IntKind.bits, IntKind.signed, Bool.true_and, decide_eq_true_eq]
      split <;> omega
    rw [h1, wrap_i64 (by omega)]
  exact e
/-- The bits of a word, counted byte by byte. -/
theorem cnt_byte (b y k : Nat) (hb : b < 256) : (List.range (8 + k)).countP (fun j => (b + 256 * y).testBit j) = popB b + (List.range k).countP (fun j => y.testBit j) := by
  rw [List.range_add, List.countP_append, List.countP_map]
  congr 1
  · unfold popB
    refine List.countP_congr fun j hj => ?_
    rw [List.mem_range] at hj
    have : (b + 256 * y).testBit j = b.testBit j := by
      have := Nat.testBit_mod_two_pow (b + 256 * y) 8 j
      rw [show (b + 256 * y) % 2 ^ 8 = b by omega] at this
      rw [this]; simp [hj]
    rw [this]
  · refine List.countP_congr fun j _ => ?_
    have : (b + 256 * y).testBit (8 + j) = y.testBit j := by
      rw [show b + 256 * y = 2 ^ 8 * y + b by omega, Nat.add_comm 8 j, Nat.testBit_two_pow_mul_add y (by omega : b < 2 ^ 8), if_neg (by omega), Nat.add_sub_cancel]
    simp only [Function.comp_apply, this]
theorem cnt_word {x : Nat} (h : x < 18446744073709551616) : ((bytes8 x).map popB).sum = (List.range 64).countP (fun j => x.testBit j) := by
  have hv := bytes8_val x
  have hl := bytes8_lt h
  have key : ∀ l : List Nat, (∀ b ∈ l, b < 256) → (l.map popB).sum = (List.range (8 * l.length)).countP (fun j => (valB l).testBit j) := by
    intro l
    induction l with
    | nil => intro _; rfl
    | cons b l ih =>
      intro hh
      rw [List.map_cons, List.sum_cons, ih fun x hx => hh x (by simp [hx]), List.length_cons, show 8 * (l.length + 1) = 8 + 8 * l.length by omega, valB, cnt_byte _ _ _ (hh b (by simp))]
  have := key _ hl
  rw [hv] at this
  exact this
theorem countP_range_add (p : Nat → Bool) (a b : Nat) : (List.range (a + b)).countP p = (List.range a).countP p + (List.range b).countP fun j => p (a + j) := by
  rw [List.range_add, List.countP_append, List.countP_map]
  rfl
theorem countP_none (p : Nat → Bool) (b : Nat) (h : ∀ j, j < b → p j = false) : (List.range b).countP p = 0 := by
  rw [List.countP_eq_zero]
  intro j hj
  rw [List.mem_range] at hj
  simp [h j hj]
theorem cntW_bits : ∀ ws : List Int, (∀ x ∈ ws, 0 ≤ x ∧ x < 18446744073709551616) → cntW ws = (((List.range (64 * ws.length)).countP fun j => bitAt ws j : Nat) : Int)
  | [], _ => rfl
  | x :: ws, h => by
    have hx := h x (by simp)
    have ih := cntW_bits ws fun y hy => h y (by simp [hy])
    have e : ∀ (l : List Int) (s : Int), l.foldl (fun s x => s + onesF x) s = s + l.foldl (fun s x => s + onesF x) 0 := by
      intro l
      induction l with
      | nil => intro s; simp
      | cons y l ih => intro s; rw [List.foldl_cons, List.foldl_cons, ih (s + onesF y), ih (0 + onesF y)]; omega
    obtain ⟨X, rfl⟩ := Int.eq_ofNat_of_zero_le hx.1
    unfold cntW at ih ⊢
    rw [List.foldl_cons, e, ih, onesF_eq (by omega), cnt_word (by omega), List.length_cons, show 64 * (ws.length + 1) = 64 + 64 * ws.length by omega, countP_range_add]
    have e1 : (List.range 64).countP (fun j => bitAt ((X : Int) :: ws) j) = (List.range 64).countP (fun j => X.testBit j) := by
      refine List.countP_congr fun j hj => ?_
      rw [List.mem_range] at hj
      unfold bitAt
      rw [show j / 64 = 0 by omega, show j % 64 = j by omega]
      simp [Go.Gm.nth]
    have e2 : (fun j => bitAt ((X : Int) :: ws) (64 + j)) = fun j => bitAt ws j := by
      funext j
      unfold bitAt
      rw [show (64 + j) / 64 = j / 64 + 1 by omega, show (64 + j) % 64 = j % 64 by omega]
      simp [Go.Gm.nth]
    rw [e1, e2]
    omega
theorem IsSet.count {n : Nat} {ws x : List Int} (h : IsSet n ws x) : cntW ws = (x.length : Int) := by
  have e : x = places n ws := up_ext h.up.1 (places_up n ws).1 fun i => by
    rw [mem_places]
    constructor
    · intro hi
      have h1 := h.up.2 i hi
      exact ⟨h1.1, h1.2, (h.mem i.toNat).2 (by rw [Int.toNat_of_nonneg h1.1]; exact hi)⟩
    · rintro ⟨h1, _, h3⟩
      have := (h.mem i.toNat).1 h3
      rwa [Int.toNat_of_nonneg h1] at this
  rw [cntW_bits ws (fun x hx => by
    obtain ⟨k, hk, rfl⟩ := List.getElem_of_mem hx
    have := h.ok.wd k
    rwa [nth_eq hk] at this), e]
  unfold places
  rw [List.length_map, ← List.countP_eq_length_filter]
  have hl := h.ok.len
  obtain ⟨d, hd⟩ : ∃ d, 64 * ws.length = n + d := ⟨64 * ws.length - n, by omega⟩
  rw [hd, countP_range_add, countP_none (fun j => bitAt ws (n + j)) d (fun j _ => h.clean _ (by omega))]
  rfl

end Go.Proofs.YtpahapjcdldodaaDoor
namespace Go.Proofs.YtpahapjcdldodaaDoor
open Go Go.Gm
set_option linter.unusedVariables false
set_option linter.unusedSimpArgs false
set_option maxHeartbeats 4000000
set_option maxRecDepth 8000


/-- math/bits.deBruijn64tab, as its initialiser lays it. -/
def deBrI : List Int := Lib.deBruijn64tab.map fun c : Nat => (c : Int)
def tabP : PV := .ref (deBrI.map fun c => PV.int .u8 c)
def tabV : Value := .pointer (some ⟨0, 0, none⟩)
/-- A row of n places of which those of x are set, and the table that the library reads. -/
def setH (v : Value) (n : Nat) (x : List Int) : HP := .ex fun ws : List Int => .and (IsSet n ws x) (.star [RS.hp (bitsH v n ws), RS.hp (gH tabP tabV)])
/-- .. one that is only read. -/
def setR (n : Nat) (x : List Int) : PV := ⟨fun u w y => (∃ ws, IsSet n ws x ∧ (PV.ref [.int .i64 n, .sl rU64 ws]).p u w y) ∧ tabP.p tabV w y,
  fun h ⟨⟨ws, h1, h2⟩, h3⟩ => ⟨⟨ws, h1, PV.mono _ h h2⟩, PV.mono _ h h3⟩⟩
theorem setH_iff {v : Value} {n : Nat} {x : List Int} {w : World} {f y : Ys} : (setH v n x).p w f y ↔ ∃ ws, IsSet n ws x ∧ (bitsH v n ws).p w f y ∧ tabP.p tabV w y := by
  constructor
  · rintro ⟨ws, h1, h2⟩
    obtain ⟨h3, h4⟩ := (starG rfl).1 h2
    exact ⟨ws, h1, h3, h4⟩
  · rintro ⟨ws, h1, h3, h4⟩
    exact ⟨ws, h1, (starG rfl).2 ⟨h3, h4⟩⟩
theorem setH_ptr {v : Value} {n : Nat} {x : List Int} {w : World} {f y : Ys} (h : (setH v n x).p w f y) : ∃ b, v = .pointer (some ⟨b, 0, none⟩) := by
  obtain ⟨ws, _, h, _⟩ := setH_iff.1 h
  exact (bitsH_ptr h).2
theorem setH_up {v : Value} {n : Nat} {x : List Int} {w : World} {f y : Ys} (h : (setH v n x).p w f y) : n ≤ 65536 ∧ Up n x := by
  obtain ⟨ws, h, _, _⟩ := setH_iff.1 h
  exact ⟨h.ok.hi, h.up⟩
theorem bitsH_free (v : Value) (n : Nat) (ws : List Int) : FreeH (bitsH v n ws) := by
  rintro w f y y' ⟨wv, hI, f1, f2, e1, e2, e3, ⟨b, vs, h1, h2, h3, h4⟩, f3, f4, e4, e5, e6, ⟨xs, h5, h6, h7⟩, h8⟩
  refine ⟨wv, hI, f1, f2, e1, e2, e3, ⟨b, vs, h1, h2, h3, ?_⟩, f3, f4, e4, e5, e6, ⟨xs, h5, ?_, h7⟩, h8⟩
  · generalize vs.toList = us at h4
    match us, h4 with
    | [u1, u2], h4 => exact h4
  · have : ∀ (l : List Int) (us : List Value), PVs (l.flatMap rU64) us w y → PVs (l.flatMap rU64) us w y' := by
      intro l
      induction l with
      | nil =>
        intro us h
        match us, h with
        | [], _ => trivial
      | cons a l ih =>
        intro us h
        match us, h with
        | u :: us, h => exact ⟨h.1, ih us h.2⟩
    exact this _ _ h6
/-- .. where what the table is told by is not owned. -/
theorem setH_lend {v : Value} {n : Nat} {x : List Int} : Lend (setH v n x) v (setR n x) := by
  intro w f y y' h hle hf hb
  obtain ⟨ws, h1, h2, h3⟩ := setH_iff.1 h
  refine ⟨⟨ws, h1, ?_⟩, PV.mono _ (Ev.less w hle) h3⟩
  obtain ⟨wv, hI, f1, f2, e1, e2, e3, ⟨b, vs, k1, k2, k3, k4⟩, f3, f4, e4, e5, e6, ⟨xs, k5, k6, k7⟩, k8⟩ := h2
  refine ⟨b, 0, vs.toList, k1, hf b ((e1 b).2 (.inl ((k3 b).2 rfl))), hb b ((e1 b).2 (.inl ((k3 b).2 rfl))), cellsAt.mk fun j u hj => ?_, ?_⟩
  · simp only [Nat.zero_add]
    simp [World.cell?, k2]
    simpa using hj
  · generalize vs.toList = us at k4
    match us, k4 with
    | [u1, u2], k4 =>
      refine ⟨k4.1, ⟨k4.2.1.1, ?_⟩, trivial⟩
      have e : u2 = wv := k4.2.1.2.1
      subst e
      obtain ⟨ad, cap, e8, h8, h9, h10⟩ := row_shape k5
      refine ⟨ad, cap, e8, h8, h9, ?_⟩
      rcases h10 with h10 | ⟨b', rfl, h11, h12⟩
      · exact .inl (List.eq_nil_of_length_eq_zero h10)
      · have hb' : f b' := (e1 b').2 (.inr ((e4 b').2 (.inl ((k7 b').2 h11))))
        exact .inr ⟨b', 0, xs, rfl, hf b' hb', hb b' hb', h12, PVs.mono (Ev.less w hle) k6⟩
/-- Contracts of words as contracts of places. -/
theorem FnP.ofWords {f : FuncId} {args : List PV} {q : PV} {n : Nat} {x : List Int} (h : ∀ ws, IsSet n ws x → FnPg Tryd.prog tabP tabV f (.ref [.int .i64 n, .sl rU64 ws] :: args) q) : FnP Tryd.prog f (setR n x :: args) q := fun w y vs hy hv => by
  match vs, hv with
  | u :: us, hv =>
    obtain ⟨⟨ws, h1, h2⟩, h3⟩ := hv.1
    exact h ws h1 w y (u :: us) hy h3 ⟨h2, hv.2⟩
theorem FnP.ofWords2 {f : FuncId} {args : List PV} {q : PV} {n m : Nat} {x z : List Int} (h : ∀ ws us, IsSet n ws x → IsSet m us z → FnPg Tryd.prog tabP tabV f (.ref [.int .i64 n, .sl rU64 ws] :: .ref [.int .i64 m, .sl rU64 us] :: args) q) : FnP Tryd.prog f (setR n x :: setR m z :: args) q := fun w y vs hy hv => by
  match vs, hv with
  | u :: v :: us, hv =>
    obtain ⟨⟨ws, h1, h2⟩, h3⟩ := hv.1
    obtain ⟨⟨us', h4, h5⟩, h6⟩ := hv.2.1
    exact h ws us' h1 h4 w y (u :: v :: us) hy h3 ⟨h2, h5, hv.2.2⟩
theorem stp_tab {W : List Nat} {w w' : World} {F F' : Fp} (h : Stp W w F w' F') (k : tabP.p tabV w (U F)) : tabP.p tabV w' (U F') := tabP.mono h.ev k
theorem FnG.ofWords {f : FuncId} {args : List PV} {q : PV} {v : Value} {n : Nat} {x x' : List Int} (h : ∀ ws, IsSet n ws x → ∃ ws', IsSet n ws' x' ∧ FnG Tryd.prog f 1 args [bitsH v n ws] q (fun _ => [bitsH v n ws'])) : FnG Tryd.prog f 1 args [setH v n x] q (fun _ => [setH v n x']) := fun w F vs hw hle hv hp => by
  obtain ⟨ws, h1, h2, h3⟩ := setH_iff.1 (hp 0 _ rfl)
  obtain ⟨ws', h4, hc⟩ := h ws h1
  refine (hc w F vs hw hle hv (fun i k hi => by
    match i, hi with
    | 0, hi => simp at hi; subst hi; exact h2)).mono ?_
  rintro e w' ⟨u, F', rfl, a1, a2, a3, a4, a5⟩
  refine ⟨u, F', rfl, a1, a2, a3, a4, fun i k hi => ?_⟩
  match i, hi with
  | 0, hi => simp at hi; subst hi; exact setH_iff.2 ⟨ws', h4, a5 0 _ rfl, stp_tab a2 h3⟩
/-- .. where the second argument is a row that is only read. -/
theorem FnG.ofWords2 {f : FuncId} {args : List PV} {p1 q : PV} {v : Value} {n m : Nat} {x z x' : List Int} (h : ∀ ws us, IsSet n ws x → IsSet m us z → ∃ ws', IsSet n ws' x' ∧ FnG Tryd.prog f 1 (p1 :: .ref [.int .i64 m, .sl rU64 us] :: args) [bitsH v n ws] q (fun _ => [bitsH v n ws'])) : FnG Tryd.prog f 1 (p1 :: setR m z :: args) [setH v n x] q (fun _ => [setH v n x']) := fun w F vs hw hle hv hp => by
  obtain ⟨ws, h1, h2, h3⟩ := setH_iff.1 (hp 0 _ rfl)
  match vs, hv with
  | u1 :: u2 :: us, hv =>
    obtain ⟨⟨zs, k1, k2⟩, _⟩ := hv.2.1
    obtain ⟨ws', h4, hc⟩ := h ws zs h1 k1
    refine (hc w F (u1 :: u2 :: us) hw hle ⟨hv.1, k2, hv.2.2⟩ (fun i k hi => by
      match i, hi with
      | 0, hi => simp at hi; subst hi; exact h2)).mono ?_
    rintro e w' ⟨u, F', rfl, a1, a2, a3, a4, a5⟩
    refine ⟨u, F', rfl, a1, a2, a3, a4, fun i k hi => ?_⟩
    match i, hi with
    | 0, hi => simp at hi; subst hi; exact setH_iff.2 ⟨ws', h4, a5 0 _ rfl, stp_tab a2 h3⟩
theorem FnG.newSet {f : FuncId} {args : List PV} {q : PV} {n : Nat} {ws x : List Int} (hs : IsSet n ws x) (h : FnG Tryd.prog f 1 args [HP.star []] q (fun v => [bitsH v n ws])) : FnG Tryd.prog f 1 args [gH tabP tabV] q (fun v => [setH v n x]) := fun w F vs hw hle hv hp => by
  obtain ⟨h1, h2⟩ := hp 0 _ rfl
  refine (h w F vs hw hle hv (fun i k hi => by
    match i, hi with
    | 0, hi => simp at hi; subst hi; exact h1)).mono ?_
  rintro e w' ⟨u, F', rfl, a1, a2, a3, a4, a5⟩
  refine ⟨u, F', rfl, a1, a2, a3, a4, fun i k hi => ?_⟩
  match i, hi with
  | 0, hi => simp at hi; subst hi; exact setH_iff.2 ⟨ws, hs, a5 0 _ rfl, stp_tab a2 h2⟩
/-- The table's fact, out of a row. -/
theorem Sat.tabOf {B : Base} {E : En} {a : Act} {w : World} {F : Fp} {v : Value} {n : Nat} {x : List Int} (h : Sat B E a w F) (i m : Nat) (hi : Go.Gm.look E.r i = some (RS.hp (setH v n x))) (hm : Go.Gm.look E.r m = none) : Sat B ⟨E.s, (m, RS.hp (gH tabP tabV)) :: E.r⟩ a w F := by
  have hF : ∀ b, ¬ F m b := fun b hb => by obtain ⟨r, hr⟩ := h.em m b hb; rw [hm] at hr; cases hr
  have hs : (setH v n x).p w (F i) (U F) := h.r i _ hi
  obtain ⟨_, _, _, hg⟩ := setH_iff.1 hs
  refine h.repart F (fun _ => Iff.rfl) h.wf.dis (fun k r hk => ?_) (fun k b hb => ?_)
  · rw [look_cons] at hk
    split at hk
    · rename_i e
      simp only [Option.some.injEq] at hk; subst hk; subst e
      exact ⟨hF, hg⟩
    · exact h.r k r hk
  · rw [look_cons]
    split
    · exact ⟨_, rfl⟩
    · exact h.em k b hb
theorem setH_free {v v' : Value} {n n' : Nat} {x x' : List Int} {w w' : World} {f0 f y y1 y' : Ys} (h : (setH v n x).p w f0 y) (hev : Ev w y w' y') (k : (setH v' n' x').p w' f y1) : (setH v' n' x').p w' f y' := by
  obtain ⟨_, _, _, h3⟩ := setH_iff.1 h
  obtain ⟨ws, k1, k2, _⟩ := setH_iff.1 k
  exact setH_iff.2 ⟨ws, k1, bitsH_free _ _ _ _ _ _ _ k2, tabP.mono hev h3⟩
/-- The document's answers. -/
def nextL (l : List Int) (i : Int) : Int := (l.find? fun x => decide (i ≤ x)).getD (-1)
def orL (l : List Int) (n : Int) (o : List Int) : List Int := o.foldl (fun l x => putL l n x true) l
def minusL (l o : List Int) : List Int := l.filter fun x => !decide (x ∈ o)
def andL (l o : List Int) : List Int := l.filter fun x => decide (x ∈ o)
theorem mem_orL {l o : List Int} {n : Nat} {j : Int} (hl : Up n l) : j ∈ orL l n o ↔ j ∈ l ∨ (j ∈ o ∧ 0 ≤ j ∧ j < n) := by
  unfold orL
  induction o generalizing l with
  | nil => simp
  | cons x o ih =>
    rw [List.foldl_cons, ih (putL_up hl x true), mem_putL]
    by_cases e : j = x
    · subst e
      constructor
      · rintro ((h | h) | h)
        · exact absurd rfl h.1
        · exact .inr ⟨by simp, h.2.2.1, h.2.2.2⟩
        · exact .inr ⟨by simp [h.1], h.2⟩
      · rintro (h | h)
        · have := hl.2 j h; exact .inl (.inr ⟨rfl, rfl, this.1, this.2⟩)
        · exact .inl (.inr ⟨rfl, rfl, h.2.1, h.2.2⟩)
    · simp [e]
theorem orL_up {n : Nat} {l : List Int} (h : Up n l) (o : List Int) : Up n (orL l n o) := by
  unfold orL
  induction o generalizing l with
  | nil => exact h
  | cons x o ih => exact ih (putL_up h x true)
theorem filter_up {n : Nat} {l : List Int} (h : Up n l) (p : Int → Bool) : Up n (l.filter p) := ⟨h.1.filter p, fun i hi => h.2 i (List.mem_filter.1 hi).1⟩
end Go.Proofs.YtpahapjcdldodaaDoor
