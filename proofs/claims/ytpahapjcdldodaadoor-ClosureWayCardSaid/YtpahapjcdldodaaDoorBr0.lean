/- Rows of places: the model. No condition beyond those that each theorem says. -/
import Derived.Test.YtpahapjcdldodaaDoorBa0
import Derived.Test.YtpahapjcdldodaaDoorLibW
import Derived.Laws.BitsLemmas
namespace Go.Proofs.YtpahapjcdldodaaDoor
open Go Go.Gm
set_option linter.unusedVariables false
set_option linter.unusedSimpArgs false
set_option maxHeartbeats 4000000
set_option maxRecDepth 8000


def rU64 (x : Int) : List PV := [.int .u64 x]
/-- The bit of a place. -/
def bitAt (ws : List Int) (j : Nat) : Bool := (Go.Gm.nth ws (j / 64)).toNat.testBit (j % 64)
def flipW (ws : List Int) (j : Nat) : List Int := ws.set (j / 64) (((Go.Gm.nth ws (j / 64)).toNat ^^^ 2 ^ (j % 64) : Nat) : Int)
def hasW (n : Nat) (ws : List Int) (i : Int) : Bool := (decide (0 ≤ i) && decide (i < n)) && bitAt ws i.toNat
def setB (n : Nat) (ws : List Int) (i : Int) (on : Bool) : Bool := (decide (0 ≤ i) && decide (i < n)) && (hasW n ws i != on)
def setW (n : Nat) (ws : List Int) (i : Int) (on : Bool) : List Int := if setB n ws i on then flipW ws i.toNat else ws
structure RowOk (n : Nat) (ws : List Int) : Prop where
  hi : n ≤ 65536
  len : ws.length = (n + 63) / 64
  wd : ∀ k, 0 ≤ Go.Gm.nth ws k ∧ Go.Gm.nth ws k < 18446744073709551616
def bitParts (v wv : Value) (n : Nat) (ws : List Int) : List RS := [.pt (.val v) 105 [.pv (.int .i64 n), .pv (.is wv)], .ob (.val wv) (rowH 107 1 rU64 ws)]
def bitsH (v : Value) (n : Nat) (ws : List Int) : HP := .ex fun wv : Value => .and (RowOk n ws) (.star (bitParts v wv n ws))
theorem bitsH_ptr {v : Value} {n : Nat} {ws : List Int} {w : World} {f y : Ys} (h : (bitsH v n ws).p w f y) : RowOk n ws ∧ ∃ b, v = .pointer (some ⟨b, 0, none⟩) := by
  obtain ⟨_, hI, h⟩ := h
  exact ⟨hI, HP.star_pt h⟩
theorem shr6 (i : Int) : i.fdiv (2 ^ min (6 : Int).toNat (IntKind.bits .i64)) = i / 64 := Int.fdiv_eq_ediv_of_nonneg i (by decide)
theorem and63 (i : Int) (h : 0 ≤ i ∧ i ≤ 9223372036854775807) : bits .and .i64 i 63 = i % 64 := by
  obtain ⟨X, rfl⟩ := Int.eq_ofNat_of_zero_le h.1
  have h1 : (BitVec.ofInt 64 (X : Int)).toNat = X := by rw [BitVec.toNat_ofInt]; omega
  have h2 : (BitVec.ofInt 64 (63 : Int)).toNat = 2 ^ 6 - 1 := by decide
  show IntKind.wrap .i64 (((BitVec.ofInt 64 (X : Int) &&& BitVec.ofInt 64 63).toNat : Nat) : Int) = _
  rw [BitVec.toNat_and, h1, h2, Nat.and_two_pow_sub_one_eq_mod, wrap_i64 (by omega)]
  omega
theorem and1 (x : Int) (h : 0 ≤ x ∧ x < 18446744073709551616) : bits .and .u64 x 1 = x % 2 := by
  obtain ⟨X, rfl⟩ := Int.eq_ofNat_of_zero_le h.1
  have h1 : (BitVec.ofInt 64 (X : Int)).toNat = X := by rw [BitVec.toNat_ofInt]; omega
  have h2 : (BitVec.ofInt 64 (1 : Int)).toNat = 2 ^ 1 - 1 := by decide
  show IntKind.wrap .u64 (((BitVec.ofInt 64 (X : Int) &&& BitVec.ofInt 64 1).toNat : Nat) : Int) = _
  rw [BitVec.toNat_and, h1, h2, Nat.and_two_pow_sub_one_eq_mod, wrap_u64 (by omega)]
  omega
theorem xor64 (x y : Nat) (hx : x < 18446744073709551616) (hy : y < 18446744073709551616) : bits .xor .u64 (x : Int) (y : Int) = ((x ^^^ y : Nat) : Int) := by
  have h1 : (BitVec.ofInt 64 (x : Int)).toNat = x := by rw [BitVec.toNat_ofInt]; omega
  have h2 : (BitVec.ofInt 64 (y : Int)).toNat = y := by rw [BitVec.toNat_ofInt]; omega
  show IntKind.wrap .u64 (((BitVec.ofInt 64 (x : Int) ^^^ BitVec.ofInt 64 (y : Int)).toNat : Nat) : Int) = _
  rw [BitVec.toNat_xor, h1, h2]
  exact wrap_u64 (by have := Nat.xor_lt_two_pow (n := 64) hx hy; omega)
/-- A word's bit, as the code asks for it. -/
theorem ask_bit {x : Int} (h : 0 ≤ x ∧ x < 18446744073709551616) (i : Int) (hi : 0 ≤ i ∧ i ≤ 9223372036854775807) : decide (bits .and .u64 (x.fdiv (2 ^ min (IntKind.wrap .u64 (bits .and .i64 i 63)).toNat (IntKind.bits .u64))) 1 = 1) = x.toNat.testBit (i.toNat % 64) := by
  obtain ⟨X, rfl⟩ := Int.eq_ofNat_of_zero_le h.1
  obtain ⟨I, rfl⟩ := Int.eq_ofNat_of_zero_le hi.1
  rw [and63 _ hi, wrap_u64 (by omega), Int.toNat_natCast, Int.toNat_natCast]
  have e1 : min ((I : Int) % 64).toNat (IntKind.bits .u64) = I % 64 := by simp only [IntKind.bits]; omega
  rw [e1, Int.fdiv_eq_ediv_of_nonneg _ (by exact_mod_cast Nat.zero_le _)]
  have e2 : (X : Int) / 2 ^ (I % 64) = ((X / 2 ^ (I % 64) : Nat) : Int) := by norm_cast
  have hle : X / 2 ^ (I % 64) ≤ X := Nat.div_le_self _ _
  rw [e2, Nat.testBit_eq_decide_div_mod_eq]
  generalize X / 2 ^ (I % 64) = q at hle ⊢
  rw [and1 _ (by omega)]
  exact decide_eq_decide.2 (by omega)

end Go.Proofs.YtpahapjcdldodaaDoor
