/- Numbers of edges and versions. No condition beyond those that each theorem says. -/
import Derived.Test.YtpnaolljmhhdbaaBa0
namespace Go.Proofs.Ytpnaolljmhhdbaa
open Go Go.Gm
set_option linter.unusedVariables false
set_option linter.unusedSimpArgs false
set_option maxHeartbeats 4000000
set_option maxRecDepth 8000

structure EdgeD where
  src : Int
  dst : Int
  kind : Int
  key : Int
  deriving DecidableEq, Inhabited
structure VerD where
  tx : Int
  key : Int
  nth : Int
  deriving DecidableEq, Inhabited
def rEdge (e : EdgeD) : List PV := [.int .i64 e.src, .int .i64 e.dst, .int .i64 e.kind, .int .i64 e.key]
def rVer (v : VerD) : List PV := [.int .i64 v.tx, .int .i64 v.key, .int .i64 v.nth]
def noE : EdgeD := ⟨0, 0, 0, 0⟩
def noV : VerD := ⟨0, 0, 0⟩
def idB (n : Int) : Bool := decide (1 ≤ n) && decide (n ≤ 1048575)
def rightV (v : VerD) : Bool := if v.tx = 0 then idB v.key && decide (v.nth = 0) else ((idB v.tx && idB v.key) && decide (1 ≤ v.nth)) && decide (v.nth ≤ 4095)
def verN (v : VerD) : Int := (v.tx * 1048576 + v.key) * 4096 + v.nth
def verR (v : VerD) : Int × Int := if rightV v then (verN v, 0) else (0, 1)
theorem idB_iff {n : Int} : idB n = true ↔ 1 ≤ n ∧ n ≤ 1048575 := by unfold idB; rw [Bool.and_eq_true, decide_eq_true_eq, decide_eq_true_eq]
theorem not_lt_one (k : Int) : decide (k < 1) = !decide (1 ≤ k) := by rw [← decide_not]; exact decide_eq_decide.2 (by omega)
theorem not_le_lt (m k : Int) : decide (m < k) = !decide (k ≤ m) := by rw [← decide_not]; exact decide_eq_decide.2 (by omega)
theorem or64 (x y : Nat) (hx : x < 18446744073709551616) (hy : y < 18446744073709551616) : bits .or .u64 (x : Int) (y : Int) = ((x ||| y : Nat) : Int) := by
  have h1 : (BitVec.ofInt 64 (x : Int)).toNat = x := by rw [BitVec.toNat_ofInt]; omega
  have h2 : (BitVec.ofInt 64 (y : Int)).toNat = y := by rw [BitVec.toNat_ofInt]; omega
  show IntKind.wrap .u64 (((BitVec.ofInt 64 (x : Int) ||| BitVec.ofInt 64 (y : Int)).toNat : Nat) : Int) = _
  rw [BitVec.toNat_or, h1, h2]
  exact wrap_u64 (by have := Nat.or_lt_two_pow (n := 64) hx hy; omega)
theorem wrapN {q : Nat} (h : q < 18446744073709551616) : IntKind.wrap .u64 (q : Int) = q := wrap_u64 (by omega)
theorem or_shl {K : Int} (k : Nat) (hk : min K.toNat (IntKind.bits .u64) = k) (x y : Int) (hx : 0 ≤ x) (hy : 0 ≤ y) (hyk : y < 2 ^ k) (hb : x * 2 ^ k + y < 18446744073709551616) : bits .or .u64 (IntKind.wrap .u64 (x * 2 ^ min K.toNat (IntKind.bits .u64))) y = x * 2 ^ k + y := by
  obtain ⟨X, rfl⟩ := Int.eq_ofNat_of_zero_le hx
  obtain ⟨Y, rfl⟩ := Int.eq_ofNat_of_zero_le hy
  rw [hk]
  have e2 : (X : Int) * 2 ^ k = ((X * 2 ^ k : Nat) : Int) := by rw [Int.natCast_mul, Int.natCast_pow]; rfl
  have hY : Y < 2 ^ k := by exact_mod_cast hyk
  have hor : X * 2 ^ k ||| Y = X * 2 ^ k + Y := by rw [Nat.mul_comm]; exact (Nat.two_pow_add_eq_or_of_lt hY X).symm
  rw [e2] at hb ⊢
  generalize X * 2 ^ k = Q at hb hor ⊢
  rw [wrapN (by omega), or64 _ _ (by omega) (by omega), hor]
  omega
theorem ver_word {v : VerD} (h : rightV v = true) : bits .or .u64 (IntKind.wrap .u64 (bits .or .u64 (IntKind.wrap .u64 (IntKind.wrap .u64 v.tx * 2 ^ min (20 : Int).toNat (IntKind.bits .u64))) (IntKind.wrap .u64 v.key) * 2 ^ min (12 : Int).toNat (IntKind.bits .u64))) (IntKind.wrap .u64 v.nth) = verN v := by
  have hb : (0 ≤ v.tx ∧ v.tx ≤ 1048575) ∧ (1 ≤ v.key ∧ v.key ≤ 1048575) ∧ (0 ≤ v.nth ∧ v.nth ≤ 4095) := by
    unfold rightV at h
    split at h <;> simp only [Bool.and_eq_true, decide_eq_true_eq, idB_iff] at h <;> omega
  obtain ⟨h1, h2, h3⟩ := hb
  rw [wrap_u64 (x := v.tx) (by omega), wrap_u64 (x := v.key) (by omega), wrap_u64 (x := v.nth) (by omega)]
  rw [or_shl 20 rfl v.tx v.key (by omega) (by omega) (by omega) (by omega), or_shl 12 rfl (v.tx * 2 ^ 20 + v.key) v.nth (by omega) (by omega) (by omega) (by omega)]
  unfold verN
  omega
end Go.Proofs.Ytpnaolljmhhdbaa
