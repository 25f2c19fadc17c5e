/- Words put together and moved. No condition beyond those that each theorem says. -/
import Derived.Test.YtpahapjcdldodaaDoorRw4
namespace Go.Proofs.YtpahapjcdldodaaDoor
open Go Go.Gm
set_option linter.unusedVariables false
set_option linter.unusedSimpArgs false
set_option maxHeartbeats 4000000
set_option maxRecDepth 8000


def trimW (n : Nat) (c : Int) : Int := if n % 64 = 0 then c else ((c.toNat % 2 ^ (n % 64) : Nat) : Int)
def trimL (n : Nat) (ws : List Int) : List Int := ws.set (ws.length - 1) (trimW n (Go.Gm.nth ws (ws.length - 1)))
theorem trimL_len (n : Nat) (ws : List Int) : (trimL n ws).length = ws.length := by simp [trimL]
theorem bitAt_trimL {n : Nat} {ws : List Int} (hl : ws.length = (n + 63) / 64) (j : Nat) : bitAt (trimL n ws) j = (decide (j < n) && bitAt ws j) := by
  unfold bitAt trimL
  by_cases hj : j / 64 < ws.length
  · rw [nth_setI hj]
    by_cases he : ws.length - 1 = j / 64
    · rw [if_pos he, he]
      unfold trimW
      by_cases h0 : n % 64 = 0
      · rw [if_pos h0, decide_eq_true (by omega), Bool.true_and]
      · rw [if_neg h0, Int.toNat_natCast, Nat.testBit_mod_two_pow]
        congr 1
        exact decide_eq_decide.2 (by omega)
    · rw [if_neg he, decide_eq_true (by omega), Bool.true_and]
  · rw [nth_out (by rw [List.length_set]; omega), nth_out (by omega)]
    simp
theorem RowOk.trim {n : Nat} {ws : List Int} (h : RowOk n ws) : RowOk n (trimL n ws) := by
  refine ⟨h.hi, by rw [trimL_len]; exact h.len, fun k => ?_⟩
  by_cases hk : k < ws.length
  · unfold trimL
    rw [nth_setI hk]
    split
    · unfold trimW
      have := h.wd (ws.length - 1)
      split
      · exact this
      · have hm := Nat.mod_le (Go.Gm.nth ws (ws.length - 1)).toNat (2 ^ (n % 64))
        omega
    · exact h.wd k
  · rw [nth_out (by rw [trimL_len]; omega)]; omega
theorem Clean.trim {n : Nat} {ws : List Int} (hl : ws.length = (n + 63) / 64) : Clean n (trimL n ws) := fun j hj => by
  rw [bitAt_trimL hl, decide_eq_false (by omega), Bool.false_and]
def mapW (len : Nat) (f : Nat → Int) : List Int := (List.range len).map f
theorem mapW_len (len : Nat) (f : Nat → Int) : (mapW len f).length = len := by simp [mapW]
theorem nth_mapW {len : Nat} {f : Nat → Int} {i : Nat} (h : i < len) : Go.Gm.nth (mapW len f) i = f i := by
  rw [nth_eq (by rw [mapW_len]; exact h)]; simp [mapW]
theorem RowOk.map {n len : Nat} (h1 : n ≤ 65536) (h2 : len = (n + 63) / 64) {f : Nat → Int} (h : ∀ i, i < len → 0 ≤ f i ∧ f i < 18446744073709551616) : RowOk n (mapW len f) := by
  refine ⟨h1, by rw [mapW_len]; exact h2, fun k => ?_⟩
  by_cases hk : k < len
  · rw [nth_mapW hk]; exact h k hk
  · rw [nth_out (by rw [mapW_len]; omega)]; omega
theorem bitAt_mapW {len : Nat} {f : Nat → Int} {j : Nat} (h : j / 64 < len) : bitAt (mapW len f) j = (f (j / 64)).toNat.testBit (j % 64) := by
  unfold bitAt; rw [nth_mapW h]
/-- What lies between two lists of one length. -/
theorem set_mid {A B : List Int} {i : Nat} {c : Int} (hl : A.length = B.length) (hi : i < B.length) (hc : Go.Gm.nth A i = c) : (A.take i ++ B.drop i).set i c = A.take (i + 1) ++ B.drop (i + 1) := by
  rw [List.set_append_right i c (by rw [List.length_take]; omega), take_nth (by omega), hc, List.append_assoc, drop_nth hi, List.length_take, show i - min i A.length = 0 by omega]
  rfl
structure BitOp (f : Int → Int → Int) (g : Bool → Bool → Bool) : Prop where
  rg : ∀ a b, 0 ≤ a ∧ a < 18446744073709551616 → 0 ≤ b ∧ b < 18446744073709551616 → 0 ≤ f a b ∧ f a b < 18446744073709551616
  bit : ∀ a b, 0 ≤ a ∧ a < 18446744073709551616 → 0 ≤ b ∧ b < 18446744073709551616 → ∀ t, t < 64 → (f a b).toNat.testBit t = g (a.toNat.testBit t) (b.toNat.testBit t)
theorem ofInt_bit {x : Int} (h : 0 ≤ x ∧ x < 18446744073709551616) (t : Nat) : (BitVec.ofInt 64 x).getLsbD t = x.toNat.testBit t := by
  obtain ⟨X, rfl⟩ := Int.eq_ofNat_of_zero_le h.1
  have h1 : (BitVec.ofInt 64 (X : Int)).toNat = X := by rw [BitVec.toNat_ofInt]; omega
  rw [← BitVec.testBit_toNat, h1]; rfl
theorem u64_toNat (b : BitVec 64) : IntKind.wrap .u64 ((b.toNat : Nat) : Int) = ((b.toNat : Nat) : Int) := wrap_u64 (by have := b.isLt; omega)
theorem bitop_of {f : Int → Int → Int} {g : Bool → Bool → Bool} (h : BitVec 64 → BitVec 64 → BitVec 64) (e : ∀ a b, f a b = IntKind.wrap .u64 (((h (BitVec.ofInt 64 a) (BitVec.ofInt 64 b)).toNat : Nat) : Int)) (hb : ∀ x y t, t < 64 → (h x y).getLsbD t = g (x.getLsbD t) (y.getLsbD t)) : BitOp f g := by
  refine ⟨fun a b _ _ => ?_, fun a b ha hb' t ht => ?_⟩
  · rw [e, u64_toNat]
    have := (h (BitVec.ofInt 64 a) (BitVec.ofInt 64 b)).isLt
    omega
  · rw [e, u64_toNat, Int.toNat_natCast, BitVec.testBit_toNat, hb _ _ t ht, ofInt_bit ha, ofInt_bit hb']
theorem bitop_or : BitOp (fun a b => bits .or .u64 a b) (fun p q => p || q) := bitop_of (fun x y => x ||| y) (fun _ _ => rfl) (fun x y t _ => by simp)
theorem bitop_and : BitOp (fun a b => bits .and .u64 a b) (fun p q => p && q) := bitop_of (fun x y => x &&& y) (fun _ _ => rfl) (fun x y t _ => by simp)
theorem bitop_andNot : BitOp (fun a b => bits .andNot .u64 a b) (fun p q => p && !q) := bitop_of (fun x y => x &&& ~~~y) (fun _ _ => rfl) (fun x y t ht => by simp [ht])
def rawW (f : Int → Int → Int) (ws us : List Int) : List Int := mapW ws.length fun i => f (Go.Gm.nth ws i) (Go.Gm.nth us i)
/-- Each word put together with another row's. -/
def eachW (f : Int → Int → Int) (n : Nat) (ws us : List Int) : List Int := trimL n (rawW f ws us)
theorem eachW_len (f : Int → Int → Int) (n : Nat) (ws us : List Int) : (eachW f n ws us).length = ws.length := by unfold eachW rawW; rw [trimL_len, mapW_len]
theorem eachW_nth {f : Int → Int → Int} {n : Nat} {ws us : List Int} {i : Nat} (h : i < ws.length) (hne : i + 1 ≠ ws.length) : Go.Gm.nth (eachW f n ws us) i = f (Go.Gm.nth ws i) (Go.Gm.nth us i) := by
  unfold eachW trimL
  rw [nth_setI (by unfold rawW; rw [mapW_len]; exact h), if_neg (by unfold rawW; rw [mapW_len]; omega)]
  exact nth_mapW h
theorem eachW_last {f : Int → Int → Int} {n : Nat} {ws us : List Int} {i : Nat} (h : i + 1 = ws.length) : Go.Gm.nth (eachW f n ws us) i = trimW n (f (Go.Gm.nth ws i) (Go.Gm.nth us i)) := by
  have hl : (rawW f ws us).length = ws.length := by unfold rawW; rw [mapW_len]
  unfold eachW trimL
  rw [nth_setI (by rw [hl]; omega), if_pos (by rw [hl]; omega), hl, show ws.length - 1 = i by omega]
  unfold rawW
  rw [nth_mapW (by omega)]
/-- The rows on the way. -/
def midW (f : Int → Int → Int) (n : Nat) (ws us : List Int) (i : Nat) : List Int := (eachW f n ws us).take i ++ ws.drop i
theorem midW_zero (f : Int → Int → Int) (n : Nat) (ws us : List Int) : midW f n ws us 0 = ws := by simp [midW]
theorem midW_end (f : Int → Int → Int) (n : Nat) (ws us : List Int) : midW f n ws us ws.length = eachW f n ws us := by simp [midW, List.take_of_length_le (Nat.le_of_eq (eachW_len f n ws us))]
theorem midW_len {f : Int → Int → Int} {n : Nat} {ws us : List Int} {i : Nat} (h : i ≤ ws.length) : (midW f n ws us i).length = ws.length := by
  unfold midW; rw [List.length_append, List.length_take, List.length_drop, eachW_len]; omega
theorem midW_nth {f : Int → Int → Int} {n : Nat} {ws us : List Int} {i : Nat} (h : i < ws.length) : Go.Gm.nth (midW f n ws us i) i = Go.Gm.nth ws i := by
  have hl := eachW_len f n ws us
  rw [nth_eq (by rw [midW_len (by omega)]; exact h), nth_eq h]
  unfold midW
  rw [List.getElem_append_right (by rw [List.length_take]; omega)]
  simp only [List.length_take, List.getElem_drop]
  congr 1
  omega
theorem midW_set {f : Int → Int → Int} {n : Nat} {ws us : List Int} {i : Nat} (h : i < ws.length) (hne : i + 1 ≠ ws.length) : (midW f n ws us i).set i (f (Go.Gm.nth ws i) (Go.Gm.nth us i)) = midW f n ws us (i + 1) := set_mid (eachW_len f n ws us) h (eachW_nth h hne)
theorem midW_trim {f : Int → Int → Int} {n : Nat} {ws us : List Int} {i : Nat} (h : i + 1 = ws.length) : trimL n ((midW f n ws us i).set i (f (Go.Gm.nth ws i) (Go.Gm.nth us i))) = midW f n ws us (i + 1) := by
  have hl := midW_len (f := f) (n := n) (us := us) (ws := ws) (i := i) (by omega)
  unfold trimL
  rw [List.length_set, hl, show ws.length - 1 = i by omega, nth_setI (by rw [hl]; omega), if_pos rfl, List.set_set]
  exact set_mid (eachW_len f n ws us) (by omega) (eachW_last h)
theorem midW_nth1 {f : Int → Int → Int} {n : Nat} {ws us : List Int} {i : Nat} (h : i < ws.length) : Go.Gm.nth (midW f n ws us (i + 1)) i = Go.Gm.nth (eachW f n ws us) i := by
  have hl := eachW_len f n ws us
  rw [nth_eq (by rw [midW_len (by omega)]; exact h), nth_eq (by rw [hl]; exact h)]
  unfold midW
  rw [List.getElem_append_left (by rw [List.length_take]; omega)]
  simp
theorem RowOk.of_words {n : Nat} {ws us : List Int} (h : RowOk n ws) (hl : us.length = ws.length) (hw : ∀ k, k < ws.length → 0 ≤ Go.Gm.nth us k ∧ Go.Gm.nth us k < 18446744073709551616) : RowOk n us := by
  refine ⟨h.hi, by rw [hl]; exact h.len, fun k => ?_⟩
  by_cases hk : k < ws.length
  · exact hw k hk
  · rw [nth_out (by omega)]; omega
theorem eachW_ok {f : Int → Int → Int} {g : Bool → Bool → Bool} (hf : BitOp f g) {n : Nat} {ws us : List Int} (h : RowOk n ws) (hu : ∀ k, 0 ≤ Go.Gm.nth us k ∧ Go.Gm.nth us k < 18446744073709551616) : RowOk n (eachW f n ws us) :=
  RowOk.trim (RowOk.map h.hi h.len fun i _ => hf.rg _ _ (h.wd i) (hu i))
theorem midW_ok {f : Int → Int → Int} {g : Bool → Bool → Bool} (hf : BitOp f g) {n : Nat} {ws us : List Int} (h : RowOk n ws) (hu : ∀ k, 0 ≤ Go.Gm.nth us k ∧ Go.Gm.nth us k < 18446744073709551616) {i : Nat} (hi : i ≤ ws.length) : RowOk n (midW f n ws us i) := by
  have he := eachW_ok hf h hu
  have hl := eachW_len f n ws us
  refine h.of_words (midW_len hi) fun k hk => ?_
  rw [nth_eq (by rw [midW_len hi]; exact hk)]
  unfold midW
  by_cases hki : k < i
  · rw [List.getElem_append_left (by rw [List.length_take]; omega), List.getElem_take]
    have := he.wd k
    rwa [nth_eq (by omega)] at this
  · rw [List.getElem_append_right (by rw [List.length_take]; omega), List.getElem_drop]
    simp only [List.length_take]
    have := h.wd k
    rw [nth_eq hk] at this
    have e : i + (k - min i (eachW f n ws us).length) = k := by omega
    simp only [e]
    exact this
theorem RowOk.setN {n : Nat} {ws : List Int} (h : RowOk n ws) (i : Nat) {c : Int} (hc : 0 ≤ c ∧ c < 18446744073709551616) : RowOk n (ws.set i c) :=
  h.of_words (by simp) fun k hk => by
    rw [nth_setI hk]
    split
    · exact hc
    · exact h.wd k
theorem eachW_bit {f : Int → Int → Int} {g : Bool → Bool → Bool} (hf : BitOp f g) {n : Nat} {ws us : List Int} (h : RowOk n ws) (hu : ∀ k, 0 ≤ Go.Gm.nth us k ∧ Go.Gm.nth us k < 18446744073709551616) (j : Nat) : bitAt (eachW f n ws us) j = (decide (j < n) && g (bitAt ws j) (bitAt us j)) := by
  unfold eachW rawW
  rw [bitAt_trimL (by rw [mapW_len]; exact h.len)]
  by_cases hj : j < n
  · rw [decide_eq_true hj, Bool.true_and, Bool.true_and, bitAt_mapW (by have := h.len; omega), hf.bit _ _ (h.wd _) (hu _) _ (Nat.mod_lt _ (by decide))]
    rfl
  · rw [decide_eq_false hj, Bool.false_and, Bool.false_and]
theorem IsSet.each {f : Int → Int → Int} {g : Bool → Bool → Bool} (hf : BitOp f g) {n m : Nat} {ws us x y x' : List Int} (h : IsSet n ws x) (k : IsSet m us y) (hx : Up n x') (hm : ∀ i : Int, 0 ≤ i → i < n → (g (decide (i ∈ x)) (decide (i ∈ y)) = true ↔ i ∈ x')) : IsSet n (eachW f n ws us) x' := by
  refine IsSet.mk' (eachW_ok hf h.ok k.ok.wd) (fun j hj => by rw [eachW_bit hf h.ok k.ok.wd, decide_eq_false (by omega), Bool.false_and]) hx fun j hj => ?_
  rw [eachW_bit hf h.ok k.ok.wd, decide_eq_true hj, Bool.true_and, ← hm (j : Int) (by omega) (by omega)]
  have e1 : bitAt ws j = decide ((j : Int) ∈ x) := by rw [eq_comm, ← Bool.coe_iff_coe, decide_eq_true_eq]; exact (h.mem j).symm
  have e2 : bitAt us j = decide ((j : Int) ∈ y) := by rw [eq_comm, ← Bool.coe_iff_coe, decide_eq_true_eq]; exact (k.mem j).symm
  rw [e1, e2]
theorem IsSet.same {n : Nat} {ws us x y : List Int} (h : IsSet n ws x) (k : IsSet n us y) : decide (ws = us) = decide (x = y) := by
  rw [decide_eq_decide]
  constructor
  · intro e; subst e; exact h.uniq k
  · intro e; subst e; exact h.words k
/-- Without another row. -/
theorem IsSet.none : IsSet 0 [] [] := ⟨⟨by omega, rfl, fun k => by simp [Go.Gm.nth]⟩, fun j _ => by simp [bitAt, Go.Gm.nth], ⟨List.Pairwise.nil, by simp⟩, fun j => by simp [bitAt, Go.Gm.nth]⟩
theorem IsSet.or {n m : Nat} {ws us x y : List Int} (h : IsSet n ws x) (k : IsSet m us y) : IsSet n (eachW (fun a b => bits .or .u64 a b) n ws us) (orL x n y) :=
  h.each bitop_or k (orL_up h.up y) fun i h0 h1 => by
    rw [mem_orL h.up]
    simp [h0, h1]
theorem IsSet.minus {n m : Nat} {ws us x y : List Int} (h : IsSet n ws x) (k : IsSet m us y) : IsSet n (eachW (fun a b => bits .andNot .u64 a b) n ws us) (minusL x y) :=
  h.each bitop_andNot k (filter_up h.up _) fun i h0 h1 => by
    unfold minusL
    rw [List.mem_filter]
    simp
theorem IsSet.and {n m : Nat} {ws us x y : List Int} (h : IsSet n ws x) (k : IsSet m us y) : IsSet n (eachW (fun a b => bits .and .u64 a b) n ws us) (andL x y) :=
  h.each bitop_and k (filter_up h.up _) fun i h0 h1 => by
    unfold andL
    rw [List.mem_filter]
    simp
theorem trim_word {n : Nat} (h0 : 0 < n % 64) {x : Int} (hx : 0 ≤ x ∧ x < 18446744073709551616) : bits .and .u64 x (IntKind.wrap .u64 (IntKind.wrap .u64 (1 * 2 ^ min (IntKind.wrap .u64 ((n : Int) % 64)).toNat (IntKind.bits .u64)) - 1)) = trimW n x := by
  obtain ⟨X, rfl⟩ := Int.eq_ofNat_of_zero_le hx.1
  have h2 : 2 ^ (n % 64) < 2 ^ 64 := Nat.pow_lt_pow_right (by decide) (Nat.mod_lt _ (by decide))
  have h3 : 0 < 2 ^ (n % 64) := Nat.pow_pos (by decide)
  rw [wrap_u64 (by omega : 0 ≤ ((n : Int) % 64) ∧ (n : Int) % 64 ≤ _)]
  have e1 : min ((n : Int) % 64).toNat (IntKind.bits .u64) = n % 64 := by simp only [IntKind.bits]; omega
  have e2 : (1 : Int) * 2 ^ (n % 64) = ((2 ^ (n % 64) : Nat) : Int) := by rw [Int.one_mul]; norm_cast
  rw [e1, e2]
  unfold trimW
  rw [if_neg (by omega), Int.toNat_natCast]
  have e3 : IntKind.wrap .u64 (IntKind.wrap .u64 ((2 ^ (n % 64) : Nat) : Int) - 1) = ((2 ^ (n % 64) - 1 : Nat) : Int) := by
    generalize 2 ^ (n % 64) = q at h2 h3 ⊢
    rw [wrap_u64 (by omega : 0 ≤ (q : Int) ∧ (q : Int) ≤ _), wrap_u64 (by omega)]
    omega
  have h4 : 2 ^ (n % 64) - 1 < 18446744073709551616 := by
    generalize 2 ^ (n % 64) = q at h2 h3 ⊢
    omega
  rw [e3, bits_and_nat _ _ (by omega) h4, Nat.and_two_pow_sub_one_eq_mod]
theorem chg_step {E ws : List Int} {i : Nat} (hl : E.length = ws.length) (hi : i < ws.length) : (!decide (ws.take i = E.take i) || !decide (Go.Gm.nth E i = Go.Gm.nth ws i)) = !decide (ws.take (i + 1) = E.take (i + 1)) := by
  rw [take_nth hi, take_nth (by omega), ← Bool.not_and, ← Bool.decide_and]
  congr 1
  rw [decide_eq_decide]
  constructor
  · rintro ⟨h1, h2⟩; rw [h1, h2]
  · intro h
    have := List.append_inj' h rfl
    exact ⟨this.1, by have := this.2; simp at this; exact this.symm⟩

end Go.Proofs.YtpahapjcdldodaaDoor
