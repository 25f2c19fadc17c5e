/- How many bits are set. No condition beyond those that each theorem says. -/
import Derived.Test.YtpahapjcdldodaaDoorRw0
namespace Go.Proofs.YtpahapjcdldodaaDoor
open Go Go.Gm
set_option linter.unusedVariables false
set_option linter.unusedSimpArgs false
set_option maxHeartbeats 4000000
set_option maxRecDepth 8000


/-- A number's bytes, the lowest one first. -/
def valB : List Nat → Nat
  | [] => 0
  | b :: l => b + 256 * valB l
def repB (m : Nat) : Nat → Nat
  | 0 => 0
  | k + 1 => m + 256 * repB m k
theorem and_byte (b y m M : Nat) (hb : b < 256) (hm : m < 256) : (b + 256 * y) &&& (m + 256 * M) = (b &&& m) + 256 * (y &&& M) := by
  have h1 : ((b + 256 * y) &&& (m + 256 * M)) % 2 ^ 8 = b &&& m := by
    rw [Nat.and_mod_two_pow, show (b + 256 * y) % 2 ^ 8 = b by omega, show (m + 256 * M) % 2 ^ 8 = m by omega]
  have h2 : ((b + 256 * y) &&& (m + 256 * M)) / 2 ^ 8 = y &&& M := by
    rw [← Nat.shiftRight_eq_div_pow, Nat.shiftRight_and_distrib, Nat.shiftRight_eq_div_pow, Nat.shiftRight_eq_div_pow, show (b + 256 * y) / 2 ^ 8 = y by omega, show (m + 256 * M) / 2 ^ 8 = M by omega]
  have h3 := Nat.div_add_mod ((b + 256 * y) &&& (m + 256 * M)) (2 ^ 8)
  rw [h1, h2] at h3
  omega
def s1 (b : Nat) : Nat := (b / 2 &&& 85) + (b &&& 85)
def s2 (b : Nat) : Nat := (b / 4 &&& 51) + (b &&& 51)
def s3 (b : Nat) : Nat := (b / 16 + b) &&& 15
theorem stage1 : ∀ bs : List Nat, (∀ b ∈ bs, b < 256) → (valB bs / 2 &&& repB 85 bs.length) + (valB bs &&& repB 85 bs.length) = valB (bs.map s1)
  | [], _ => rfl
  | b :: l, h => by
    have ih := stage1 l fun x hx => h x (by simp [hx])
    have hb := h b (by simp)
    simp only [valB, List.length_cons, repB, List.map_cons]
    have e : (b + 256 * valB l) / 2 = (b / 2 + 128 * (valB l % 2)) + 256 * (valB l / 2) := by omega
    rw [e, and_byte _ _ _ _ (by omega) (by decide), and_byte _ _ _ _ hb (by decide)]
    have k : ∀ (b : Fin 256) (t : Fin 2), (b.val / 2 + 128 * t.val) &&& 85 = b.val / 2 &&& 85 := by decide +kernel
    have := k ⟨b, hb⟩ ⟨valB l % 2, Nat.mod_lt _ (by decide)⟩
    simp only at this
    rw [this, s1]
    omega
theorem stage2 : ∀ bs : List Nat, (∀ b ∈ bs, b < 256) → (valB bs / 4 &&& repB 51 bs.length) + (valB bs &&& repB 51 bs.length) = valB (bs.map s2)
  | [], _ => rfl
  | b :: l, h => by
    have ih := stage2 l fun x hx => h x (by simp [hx])
    have hb := h b (by simp)
    simp only [valB, List.length_cons, repB, List.map_cons]
    have e : (b + 256 * valB l) / 4 = (b / 4 + 64 * (valB l % 4)) + 256 * (valB l / 4) := by omega
    rw [e, and_byte _ _ _ _ (by omega) (by decide), and_byte _ _ _ _ hb (by decide)]
    have k : ∀ (b : Fin 256) (t : Fin 4), (b.val / 4 + 64 * t.val) &&& 51 = b.val / 4 &&& 51 := by decide +kernel
    have := k ⟨b, hb⟩ ⟨valB l % 4, Nat.mod_lt _ (by decide)⟩
    simp only at this
    rw [this, s2]
    omega
theorem stage3 : ∀ bs : List Nat, (∀ b ∈ bs, b / 16 ≤ 4 ∧ b % 16 ≤ 4) → (valB bs / 16 + valB bs) &&& repB 15 bs.length = valB (bs.map s3) ∧ valB bs % 16 ≤ 4
  | [], _ => ⟨rfl, by decide⟩
  | b :: l, h => by
    have ih := stage3 l fun x hx => h x (by simp [hx])
    have hb := h b (by simp)
    simp only [valB, List.length_cons, repB, List.map_cons]
    refine ⟨?_, by omega⟩
    have e : (b + 256 * valB l) / 16 + (b + 256 * valB l) = (b / 16 + b + 16 * (valB l % 16)) + 256 * (valB l / 16 + valB l) := by omega
    rw [e, and_byte _ _ _ _ (by omega) (by decide), ih.1]
    have k : ∀ (b : Fin 128) (t : Fin 5), (b.val / 16 + b.val + 16 * t.val) &&& 15 = (b.val / 16 + b.val) &&& 15 := by decide +kernel
    have := k ⟨b, by omega⟩ ⟨valB l % 16, by omega⟩
    simp only at this
    rw [this, s3]
def popB (b : Nat) : Nat := (List.range 8).countP fun j => b.testBit j
theorem s321 : ∀ b : Fin 256, s3 (s2 (s1 b.val)) = popB b.val ∧ s1 b.val < 256 ∧ s2 (s1 b.val) / 16 ≤ 4 ∧ s2 (s1 b.val) % 16 ≤ 4 ∧ popB b.val ≤ 8 := by decide +kernel
/-- A number below 2^64 in its eight bytes. -/
def bytes8 (x : Nat) : List Nat := [x % 256, x / 256 % 256, x / 65536 % 256, x / 16777216 % 256, x / 4294967296 % 256, x / 1099511627776 % 256, x / 281474976710656 % 256, x / 72057594037927936]
theorem bytes8_val (x : Nat) : valB (bytes8 x) = x := by simp only [bytes8, valB]; omega
theorem bytes8_lt {x : Nat} (h : x < 18446744073709551616) : ∀ b ∈ bytes8 x, b < 256 := by
  intro b hb
  simp only [bytes8, List.mem_cons, List.not_mem_nil, or_false] at hb
  rcases hb with h | h | h | h | h | h | h | h <;> omega
theorem dig1 (a r : Nat) (ha : a < 256) : (a + 256 * r) / 256 = r := by omega
theorem dig2 (a b r : Nat) (ha : a < 256) (hb : b < 256) : (a + 256 * (b + 256 * r)) / 65536 = r := by omega
theorem dig4 (a b c d r : Nat) (ha : a < 256) (hb : b < 256) (hc : c < 256) (hd : d < 256) : (a + 256 * (b + 256 * (c + 256 * (d + 256 * r)))) / 4294967296 = r := by omega
theorem sum81 (d0 d1 d2 d3 d4 d5 d6 d7 : Nat) : valB [d0, d1, d2, d3, d4, d5, d6, d7] + valB [d1, d2, d3, d4, d5, d6, d7] = valB [d0 + d1, d1 + d2, d2 + d3, d3 + d4, d4 + d5, d5 + d6, d6 + d7, d7] := by simp only [valB]; omega
theorem sum82 (d0 d1 d2 d3 d4 d5 d6 d7 : Nat) : valB [d0, d1, d2, d3, d4, d5, d6, d7] + valB [d2, d3, d4, d5, d6, d7] = valB [d0 + d2, d1 + d3, d2 + d4, d3 + d5, d4 + d6, d5 + d7, d6, d7] := by simp only [valB]; omega
theorem sum84 (d0 d1 d2 d3 d4 d5 d6 d7 : Nat) : valB [d0, d1, d2, d3, d4, d5, d6, d7] + valB [d4, d5, d6, d7] = valB [d0 + d4, d1 + d5, d2 + d6, d3 + d7, d4, d5, d6, d7] := by simp only [valB]; omega
theorem last8 (g0 g1 g2 g3 g4 g5 g6 g7 : Nat) (h0 : g0 ≤ 64) (h1 : g1 ≤ 64) (h2 : g2 ≤ 64) (h3 : g3 ≤ 64) (h4 : g4 ≤ 64) (h5 : g5 ≤ 64) (h6 : g6 ≤ 64) (h7 : g7 ≤ 64) : valB [g0, g1, g2, g3, g4, g5, g6, g7] % 128 = g0 ∧ valB [g0, g1, g2, g3, g4, g5, g6, g7] < 18446744073709551616 := by
  refine ⟨?_, ?_⟩
  · show (g0 + 256 * valB [g1, g2, g3, g4, g5, g6, g7]) % 128 = g0
    generalize valB [g1, g2, g3, g4, g5, g6, g7] = r
    clear h1 h2 h3 h4 h5 h6 h7
    omega
  · simp only [valB]; omega
theorem stage4 (d0 d1 d2 d3 d4 d5 d6 d7 : Nat) (h0 : d0 ≤ 8) (h1 : d1 ≤ 8) (h2 : d2 ≤ 8) (h3 : d3 ≤ 8) (h4 : d4 ≤ 8) (h5 : d5 ≤ 8) (h6 : d6 ≤ 8) (h7 : d7 ≤ 8) (x y z u : Nat)
    (hx : x = valB [d0, d1, d2, d3, d4, d5, d6, d7]) (hy : y = x + x / 256) (hz : z = y + y / 65536) (hu : u = z + z / 4294967296) : u % 128 = d0 + d1 + d2 + d3 + d4 + d5 + d6 + d7 ∧ u < 18446744073709551616 := by
  have hx1 : x / 256 = valB [d1, d2, d3, d4, d5, d6, d7] := by rw [hx]; exact dig1 _ _ (by omega)
  rw [hx1, hx, sum81] at hy
  have hy1 : y / 65536 = valB [d2 + d3, d3 + d4, d4 + d5, d5 + d6, d6 + d7, d7] := by rw [hy]; exact dig2 _ _ _ (by omega) (by omega)
  rw [hy1, hy, sum82] at hz
  have hz1 : z / 4294967296 = valB [d4 + d5 + (d6 + d7), d5 + d6 + d7, d6 + d7, d7] := by rw [hz]; exact dig4 _ _ _ _ _ (by omega) (by omega) (by omega) (by omega)
  rw [hz1, hz, sum84] at hu
  have := last8 (d0 + d1 + (d2 + d3) + (d4 + d5 + (d6 + d7))) (d1 + d2 + (d3 + d4) + (d5 + d6 + d7)) (d2 + d3 + (d4 + d5) + (d6 + d7)) (d3 + d4 + (d5 + d6) + d7) (d4 + d5 + (d6 + d7)) (d5 + d6 + d7) (d6 + d7) d7 (by omega) (by omega) (by omega) (by omega) (by omega) (by omega) (by omega) (by omega)
  rw [hu]
  exact ⟨by rw [this.1]; omega, this.2⟩
theorem bits_and_nat (x m : Nat) (hx : x < 18446744073709551616) (hm : m < 18446744073709551616) : bits .and .u64 (x : Int) (m : Int) = ((x &&& m : Nat) : Int) := by
  have h1 : (BitVec.ofInt 64 (x : Int)).toNat = x := by rw [BitVec.toNat_ofInt]; omega
  have h2 : (BitVec.ofInt 64 (m : Int)).toNat = m := by rw [BitVec.toNat_ofInt]; omega
  show IntKind.wrap .u64 (((BitVec.ofInt 64 (x : Int) &&& BitVec.ofInt 64 (m : Int)).toNat : Nat) : Int) = _
  rw [BitVec.toNat_and, h1, h2]
  exact wrap_u64 (by have := Nat.and_lt_two_pow (n := 64) x (y := m) (by omega); omega)
theorem shrF_nat (x k : Nat) (hk : k < 64) : shrF (x : Int) (k : Int) = ((x / 2 ^ k : Nat) : Int) := by
  unfold shrF
  rw [Int.toNat_natCast, show min k (IntKind.bits .u64) = k by simp only [IntKind.bits]; omega, Int.fdiv_eq_ediv_of_nonneg _ (by exact_mod_cast Nat.zero_le _)]
  norm_cast
theorem and_le_right' (x m : Nat) : x &&& m ≤ m := Nat.and_le_right
/-- How many bits of a word are set. -/
theorem onesF_eq {x : Nat} (h : x < 18446744073709551616) : onesF (x : Int) = ((((bytes8 x).map popB).sum : Nat) : Int) := by
  have e1 : ones1 (x : Int) = ((valB ((bytes8 x).map s1) : Nat) : Int) := by
    rw [← stage1 _ (bytes8_lt h), bytes8_val]
    unfold ones1
    rw [show (1 : Int) = ((1 : Nat) : Int) from rfl, shrF_nat x 1 (by decide)]
    rw [show (6148914691236517205 : Int) = ((6148914691236517205 : Nat) : Int) from rfl, bits_and_nat _ _ (by omega) (by decide), bits_and_nat _ _ h (by decide)]
    have l1 := and_le_right' (x / 2 ^ 1) 6148914691236517205
    have l2 := and_le_right' x 6148914691236517205
    rw [wrap_u64 (by omega)]
    have er : repB 85 (bytes8 x).length = 6148914691236517205 := by show repB 85 8 = _; decide
    rw [er]
    simp only [Nat.pow_one]
    omega
  have hb : ∀ b ∈ bytes8 x, s3 (s2 (s1 b)) = popB b ∧ s1 b < 256 ∧ s2 (s1 b) / 16 ≤ 4 ∧ s2 (s1 b) % 16 ≤ 4 ∧ popB b ≤ 8 := fun b hb => s321 ⟨b, bytes8_lt h b hb⟩
  have e2 : ones2 (ones1 (x : Int)) = ((valB (((bytes8 x).map s1).map s2) : Nat) : Int) := by
    have hl : ∀ b ∈ (bytes8 x).map s1, b < 256 := by
      intro b hm
      obtain ⟨c, hc, rfl⟩ := List.mem_map.1 hm
      exact (hb c hc).2.1
    have hv : valB ((bytes8 x).map s1) < 18446744073709551616 := by
      have : ∀ l : List Nat, (∀ b ∈ l, b < 256) → valB l < 256 ^ l.length := by
        intro l
        induction l with
        | nil => intro _; decide
        | cons b l ih =>
          intro hh
          have := ih fun x hx => hh x (by simp [hx])
          have := hh b (by simp)
          simp only [valB, List.length_cons, Nat.pow_succ]
          omega
      have := this _ hl
      have e : (256 : Nat) ^ (bytes8 x).length = 18446744073709551616 := by show 256 ^ 8 = _; decide
      rw [List.length_map, e] at this
      exact this
    rw [e1, ← stage2 _ hl]
    generalize valB ((bytes8 x).map s1) = y at hv
    unfold ones2
    rw [show (2 : Int) = ((2 : Nat) : Int) from rfl, shrF_nat y 2 (by decide)]
    rw [show (3689348814741910323 : Int) = ((3689348814741910323 : Nat) : Int) from rfl, bits_and_nat _ _ (by omega) (by decide), bits_and_nat _ _ hv (by decide)]
    have l1 := and_le_right' (y / 2 ^ 2) 3689348814741910323
    have l2 := and_le_right' y 3689348814741910323
    rw [wrap_u64 (by omega)]
    have er : repB 51 ((bytes8 x).map s1).length = 3689348814741910323 := by rw [List.length_map]; show repB 51 8 = _; decide
    rw [er]
    simp only [show 2 ^ 2 = 4 from rfl]
    omega
  have e3 : ones3 (ones2 (ones1 (x : Int))) = ((valB ((bytes8 x).map popB) : Nat) : Int) := by
    have hl : ∀ b ∈ ((bytes8 x).map s1).map s2, b / 16 ≤ 4 ∧ b % 16 ≤ 4 := by
      intro b hm
      obtain ⟨c, hc, rfl⟩ := List.mem_map.1 hm
      obtain ⟨d, hd, rfl⟩ := List.mem_map.1 hc
      exact ⟨(hb d hd).2.2.1, (hb d hd).2.2.2.1⟩
    have hv : valB (((bytes8 x).map s1).map s2) < 5000000000000000000 := by
      have : ∀ l : List Nat, (∀ b ∈ l, b / 16 ≤ 4 ∧ b % 16 ≤ 4) → valB l * 255 ≤ 68 * (256 ^ l.length - 1) := by
        intro l
        induction l with
        | nil => intro _; decide
        | cons b l ih =>
          intro hh
          have h1 := ih fun x hx => hh x (by simp [hx])
          have h2 := hh b (by simp)
          have h3 : 0 < 256 ^ l.length := Nat.pow_pos (by decide)
          simp only [valB, List.length_cons, Nat.pow_succ]
          omega
      have := this _ hl
      rw [List.length_map, List.length_map] at this
      have e : (256 : Nat) ^ (bytes8 x).length = 18446744073709551616 := by show 256 ^ 8 = _; decide
      rw [e] at this
      omega
    have hp : (((bytes8 x).map s1).map s2).map s3 = (bytes8 x).map popB := by
      rw [List.map_map, List.map_map]
      exact List.map_congr_left fun b hm => (hb b hm).1
    rw [e2, ← hp, ← (stage3 _ hl).1]
    generalize valB (((bytes8 x).map s1).map s2) = y at hv
    unfold ones3
    rw [show (4 : Int) = ((4 : Nat) : Int) from rfl, shrF_nat y 4 (by decide)]
    rw [show (1085102592571150095 : Int) = ((1085102592571150095 : Nat) : Int) from rfl, wrap_u64 (by omega), ← Int.natCast_add, bits_and_nat _ _ (by omega) (by decide)]
    have er : repB 15 (((bytes8 x).map s1).map s2).length = 1085102592571150095 := by rw [List.length_map, List.length_map]; show repB 15 8 = _; decide
    rw [er]
  unfold onesF
  rw [e3]
  have hd : ∀ b ∈ (bytes8 x).map popB, b ≤ 8 := by
    intro b hm
    obtain ⟨c, hc, rfl⟩ := List.mem_map.1 hm
    exact (hb c hc).2.2.2.2
  simp only [bytes8, List.map_cons, List.map_nil, List.mem_cons, List.not_mem_nil, or_false, forall_eq_or_imp, forall_eq] at hd
  obtain ⟨h0, h1, h2, h3, h4, h5, h6, h7⟩ := hd
  have hsum : ((bytes8 x).map popB).sum = popB (x % 256) + popB (x / 256 % 256) + popB (x / 65536 % 256) + popB (x / 16777216 % 256) + popB (x / 4294967296 % 256) + popB (x / 1099511627776 % 256) + popB (x / 281474976710656 % 256) + popB (x / 72057594037927936) := by
    simp only [bytes8, List.map_cons, List.map_nil, List.sum_cons, List.sum_nil]
    omega
  rw [hsum]
  obtain ⟨X, hX⟩ : ∃ X, X = valB ((bytes8 x).map popB) := ⟨_, rfl⟩
  obtain ⟨y, hy⟩ : ∃ y, y = X + X / 256 := ⟨_, rfl⟩
  obtain ⟨z, hz⟩ : ∃ z, z = y + y / 65536 := ⟨_, rfl⟩
  obtain ⟨u, hu⟩ : ∃ u, u = z + z / 4294967296 := ⟨_, rfl⟩
  obtain ⟨g1, g2⟩ := stage4 _ _ _ _ _ _ _ _ h0 h1 h2 h3 h4 h5 h6 h7 X y z u hX hy hz hu
  rw [← g1, ← hX]
  clear hX h0 h1 h2 h3 h4 h5 h6 h7 hsum g1 hb e1 e2 e3
  have o4 : ∀ (y k : Nat), k < 64 → y + y / 2 ^ k < 18446744073709551616 → ones4 (y : Int) (k : Int) = ((y + y / 2 ^ k : Nat) : Int) := by
    intro y k hk hy
    unfold ones4
    rw [shrF_nat y k hk]
    generalize y / 2 ^ k = r at hy ⊢
    rw [wrap_u64 (by omega)]
    omega
  have o1 : ones4 (X : Int) 8 = (y : Int) := by rw [hy]; exact o4 X 8 (by decide) (by show X + X / 256 < _; omega)
  have o2 : ones4 (y : Int) 16 = (z : Int) := by rw [hz]; exact o4 y 16 (by decide) (by show y + y / 65536 < _; omega)
  have o3 : ones4 (z : Int) 32 = (u : Int) := by rw [hu]; exact o4 z 32 (by decide) (by show z + z / 4294967296 < _; omega)
  rw [o1, o2, o3]
  have e : bits .and .i64 (IntKind.wrap .i64 (u : Int)) 127 = ((u % 128 : Nat) : Int) := by
    have h2 : (BitVec.ofInt 64 (127 : Int)).toNat = 2 ^ 7 - 1 := by decide
    show IntKind.wrap .i64 (((BitVec.ofInt 64 (IntKind.wrap .i64 (u : Int)) &&& BitVec.ofInt 64 127).toNat : Nat) : Int) = _
    rw [BitVec.toNat_and, h2, Nat.and_two_pow_sub_one_eq_mod]
    have h1 : (BitVec.ofInt 64 (IntKind.wrap .i64 (u : Int))).toNat % 2 ^ 7 = u % 128 := by
      rw [BitVec.toNat_ofInt]
      simp only [IntKind.wrap, IntKind.bits, IntKind.signed, Bool.true_and, decide_eq_true_eq]
      split <;> omega
    rw [h1, wrap_i64 (by omega)]
  exact e
/-- The bits of a word, counted byte by byte. -/
theorem cnt_byte (b y k : Nat) (hb : b < 256) : (List.range (8 + k)).countP (fun j => (b + 256 * y).testBit j) = popB b + (List.range k).countP (fun j => y.testBit j) := by
  rw [List.range_add, List.countP_append, List.countP_map]
  congr 1
  · unfold popB
    refine List.countP_congr fun j hj => ?_
    rw [List.mem_range] at hj
    have : (b + 256 * y).testBit j = b.testBit j := by
      have := Nat.testBit_mod_two_pow (b + 256 * y) 8 j
      rw [show (b + 256 * y) % 2 ^ 8 = b by omega] at this
      rw [this]; simp [hj]
    rw [this]
  · refine List.countP_congr fun j _ => ?_
    have : (b + 256 * y).testBit (8 + j) = y.testBit j := by
      rw [show b + 256 * y = 2 ^ 8 * y + b by omega, Nat.add_comm 8 j, Nat.testBit_two_pow_mul_add y (by omega : b < 2 ^ 8), if_neg (by omega), Nat.add_sub_cancel]
    simp only [Function.comp_apply, this]
theorem cnt_word {x : Nat} (h : x < 18446744073709551616) : ((bytes8 x).map popB).sum = (List.range 64).countP (fun j => x.testBit j) := by
  have hv := bytes8_val x
  have hl := bytes8_lt h
  have key : ∀ l : List Nat, (∀ b ∈ l, b < 256) → (l.map popB).sum = (List.range (8 * l.length)).countP (fun j => (valB l).testBit j) := by
    intro l
    induction l with
    | nil => intro _; rfl
    | cons b l ih =>
      intro hh
      rw [List.map_cons, List.sum_cons, ih fun x hx => hh x (by simp [hx]), List.length_cons, show 8 * (l.length + 1) = 8 + 8 * l.length by omega, valB, cnt_byte _ _ _ (hh b (by simp))]
  have := key _ hl
  rw [hv] at this
  exact this
theorem countP_range_add (p : Nat → Bool) (a b : Nat) : (List.range (a + b)).countP p = (List.range a).countP p + (List.range b).countP fun j => p (a + j) := by
  rw [List.range_add, List.countP_append, List.countP_map]
  rfl
theorem countP_none (p : Nat → Bool) (b : Nat) (h : ∀ j, j < b → p j = false) : (List.range b).countP p = 0 := by
  rw [List.countP_eq_zero]
  intro j hj
  rw [List.mem_range] at hj
  simp [h j hj]
theorem cntW_bits : ∀ ws : List Int, (∀ x ∈ ws, 0 ≤ x ∧ x < 18446744073709551616) → cntW ws = (((List.range (64 * ws.length)).countP fun j => bitAt ws j : Nat) : Int)
  | [], _ => rfl
  | x :: ws, h => by
    have hx := h x (by simp)
    have ih := cntW_bits ws fun y hy => h y (by simp [hy])
    have e : ∀ (l : List Int) (s : Int), l.foldl (fun s x => s + onesF x) s = s + l.foldl (fun s x => s + onesF x) 0 := by
      intro l
      induction l with
      | nil => intro s; simp
      | cons y l ih => intro s; rw [List.foldl_cons, List.foldl_cons, ih (s + onesF y), ih (0 + onesF y)]; omega
    obtain ⟨X, rfl⟩ := Int.eq_ofNat_of_zero_le hx.1
    unfold cntW at ih ⊢
    rw [List.foldl_cons, e, ih, onesF_eq (by omega), cnt_word (by omega), List.length_cons, show 64 * (ws.length + 1) = 64 + 64 * ws.length by omega, countP_range_add]
    have e1 : (List.range 64).countP (fun j => bitAt ((X : Int) :: ws) j) = (List.range 64).countP (fun j => X.testBit j) := by
      refine List.countP_congr fun j hj => ?_
      rw [List.mem_range] at hj
      unfold bitAt
      rw [show j / 64 = 0 by omega, show j % 64 = j by omega]
      simp [Go.Gm.nth]
    have e2 : (fun j => bitAt ((X : Int) :: ws) (64 + j)) = fun j => bitAt ws j := by
      funext j
      unfold bitAt
      rw [show (64 + j) / 64 = j / 64 + 1 by omega, show (64 + j) % 64 = j % 64 by omega]
      simp [Go.Gm.nth]
    rw [e1, e2]
    omega
theorem IsSet.count {n : Nat} {ws x : List Int} (h : IsSet n ws x) : cntW ws = (x.length : Int) := by
  have e : x = places n ws := up_ext h.up.1 (places_up n ws).1 fun i => by
    rw [mem_places]
    constructor
    · intro hi
      have h1 := h.up.2 i hi
      exact ⟨h1.1, h1.2, (h.mem i.toNat).2 (by rw [Int.toNat_of_nonneg h1.1]; exact hi)⟩
    · rintro ⟨h1, _, h3⟩
      have := (h.mem i.toNat).1 h3
      rwa [Int.toNat_of_nonneg h1] at this
  rw [cntW_bits ws (fun x hx => by
    obtain ⟨k, hk, rfl⟩ := List.getElem_of_mem hx
    have := h.ok.wd k
    rwa [nth_eq hk] at this), e]
  unfold places
  rw [List.length_map, ← List.countP_eq_length_filter]
  have hl := h.ok.len
  obtain ⟨d, hd⟩ : ∃ d, 64 * ws.length = n + d := ⟨64 * ws.length - n, by omega⟩
  rw [hd, countP_range_add, countP_none (fun j => bitAt ws (n + j)) d (fun j _ => h.clean _ (by omega))]
  rfl

end Go.Proofs.YtpahapjcdldodaaDoor
