/- Numbers of edges and versions. No condition beyond those that each theorem says. -/
import Derived.Test.YtfdjjfplhdpclaaBa0
namespace Go.Proofs.Ytfdjjfplhdpclaa
open Go Go.Gm
set_option linter.unusedVariables false
set_option linter.unusedSimpArgs false
set_option maxHeartbeats 4000000
set_option maxRecDepth 8000


structure EdgeD where
  src : Int
  dst : Int
  kind : Int
  key : Int
  deriving DecidableEq, Inhabited
structure VerD where
  tx : Int
  key : Int
  nth : Int
  deriving DecidableEq, Inhabited
def rEdge (e : EdgeD) : List PV := [.int .i64 e.src, .int .i64 e.dst, .int .i64 e.kind, .int .i64 e.key]
def rVer (v : VerD) : List PV := [.int .i64 v.tx, .int .i64 v.key, .int .i64 v.nth]
def noE : EdgeD := ⟨0, 0, 0, 0⟩
def noV : VerD := ⟨0, 0, 0⟩
def idB (n : Int) : Bool := decide (1 ≤ n) && decide (n ≤ 1048575)
def rightB (e : EdgeD) : Bool := (((idB e.src && idB e.dst) && decide (1 ≤ e.kind)) && decide (e.kind ≤ 3)) && idB e.key
def edgeN (e : EdgeD) : Int := ((e.src * 4 + e.kind) * 1048576 + e.key) * 1048576 + e.dst
def edgeR (e : EdgeD) : Int × Int := if rightB e then (edgeN e, 0) else (0, 1)
def edgeOf (x : Int) : EdgeD := ⟨x / 4398046511104, x % 1048576, x / 1099511627776 % 4, x / 1048576 % 1048576⟩
def unedgeR (x : Int) : EdgeD × Int := if 1048575 < x / 4398046511104 then (noE, 5) else if rightB (edgeOf x) then (edgeOf x, 0) else (noE, 5)
def edgeOfR (x : Int) : EdgeD × Bool := if 1048575 < x / 4398046511104 then (noE, false) else if rightB (edgeOf x) then (edgeOf x, true) else (noE, false)
def rightV (v : VerD) : Bool := if v.tx = 0 then idB v.key && decide (v.nth = 0) else ((idB v.tx && idB v.key) && decide (1 ≤ v.nth)) && decide (v.nth ≤ 4095)
def verN (v : VerD) : Int := (v.tx * 1048576 + v.key) * 4096 + v.nth
def verR (v : VerD) : Int × Int := if rightV v then (verN v, 0) else (0, 1)
def verOf (x : Int) : VerD := ⟨x / 4294967296, x / 4096 % 1048576, x % 4096⟩
def unverR (x : Int) : VerD × Int := if 1048575 < x / 4294967296 then (noV, 5) else if rightV (verOf x) then (verOf x, 0) else (noV, 5)
def verOfR (x : Int) : VerD × Bool := if 1048575 < x / 4294967296 then (noV, false) else if rightV (verOf x) then (verOf x, true) else (noV, false)
theorem idB_iff {n : Int} : idB n = true ↔ 1 ≤ n ∧ n ≤ 1048575 := by unfold idB; rw [Bool.and_eq_true, decide_eq_true_eq, decide_eq_true_eq]
theorem rightB_iff {e : EdgeD} : rightB e = true ↔ (1 ≤ e.src ∧ e.src ≤ 1048575) ∧ (1 ≤ e.dst ∧ e.dst ≤ 1048575) ∧ (1 ≤ e.kind ∧ e.kind ≤ 3) ∧ (1 ≤ e.key ∧ e.key ≤ 1048575) := by
  unfold rightB
  simp only [Bool.and_eq_true, decide_eq_true_eq, idB_iff]
  omega
theorem not_lt_one (k : Int) : decide (k < 1) = !decide (1 ≤ k) := by rw [← decide_not]; exact decide_eq_decide.2 (by omega)
theorem not_le_lt (m k : Int) : decide (m < k) = !decide (k ≤ m) := by rw [← decide_not]; exact decide_eq_decide.2 (by omega)
theorem bad_right (e : EdgeD) : ((((!idB e.src || !idB e.dst) || decide (e.kind < 1)) || decide (3 < e.kind)) || !idB e.key) = !rightB e := by
  unfold rightB
  rw [not_lt_one, not_le_lt 3]
  cases idB e.src <;> cases idB e.dst <;> cases decide (1 ≤ e.kind) <;> cases decide (e.kind ≤ 3) <;> cases idB e.key <;> rfl
theorem or64 (x y : Nat) (hx : x < 18446744073709551616) (hy : y < 18446744073709551616) : bits .or .u64 (x : Int) (y : Int) = ((x ||| y : Nat) : Int) := by
  have h1 : (BitVec.ofInt 64 (x : Int)).toNat = x := by rw [BitVec.toNat_ofInt]; omega
  have h2 : (BitVec.ofInt 64 (y : Int)).toNat = y := by rw [BitVec.toNat_ofInt]; omega
  show IntKind.wrap .u64 (((BitVec.ofInt 64 (x : Int) ||| BitVec.ofInt 64 (y : Int)).toNat : Nat) : Int) = _
  rw [BitVec.toNat_or, h1, h2]
  exact wrap_u64 (by have := Nat.or_lt_two_pow (n := 64) hx hy; omega)
theorem wrapN {q : Nat} (h : q < 18446744073709551616) : IntKind.wrap .u64 (q : Int) = q := wrap_u64 (by omega)
theorem ofN {q : Nat} (h : q < 18446744073709551616) : (BitVec.ofInt 64 (q : Int)).toNat = q := by rw [BitVec.toNat_ofInt]; omega
theorem or_shl {K : Int} (k : Nat) (hk : min K.toNat (IntKind.bits .u64) = k) (x y : Int) (hx : 0 ≤ x) (hy : 0 ≤ y) (hyk : y < 2 ^ k) (hb : x * 2 ^ k + y < 18446744073709551616) : bits .or .u64 (IntKind.wrap .u64 (x * 2 ^ min K.toNat (IntKind.bits .u64))) y = x * 2 ^ k + y := by
  obtain ⟨X, rfl⟩ := Int.eq_ofNat_of_zero_le hx
  obtain ⟨Y, rfl⟩ := Int.eq_ofNat_of_zero_le hy
  rw [hk]
  have e2 : (X : Int) * 2 ^ k = ((X * 2 ^ k : Nat) : Int) := by rw [Int.natCast_mul, Int.natCast_pow]; rfl
  have hY : Y < 2 ^ k := by exact_mod_cast hyk
  have hor : X * 2 ^ k ||| Y = X * 2 ^ k + Y := by rw [Nat.mul_comm]; exact (Nat.two_pow_add_eq_or_of_lt hY X).symm
  rw [e2] at hb ⊢
  generalize X * 2 ^ k = Q at hb hor ⊢
  rw [wrapN (by omega), or64 _ _ (by omega) (by omega), hor]
  omega
theorem edge_word {e : EdgeD} (h : rightB e = true) : bits .or .u64 (IntKind.wrap .u64 (bits .or .u64 (IntKind.wrap .u64 (bits .or .u64 (IntKind.wrap .u64 (IntKind.wrap .u64 e.src * 2 ^ min (2 : Int).toNat (IntKind.bits .u64))) (IntKind.wrap .u64 e.kind) * 2 ^ min (20 : Int).toNat (IntKind.bits .u64))) (IntKind.wrap .u64 e.key) * 2 ^ min (20 : Int).toNat (IntKind.bits .u64))) (IntKind.wrap .u64 e.dst) = edgeN e := by
  obtain ⟨h1, h2, h3, h4⟩ := rightB_iff.1 h
  rw [wrap_u64 (x := e.src) (by omega), wrap_u64 (x := e.kind) (by omega), wrap_u64 (x := e.key) (by omega), wrap_u64 (x := e.dst) (by omega)]
  rw [or_shl 2 rfl e.src e.kind (by omega) (by omega) (by omega) (by omega), or_shl 20 rfl (e.src * 2 ^ 2 + e.kind) e.key (by omega) (by omega) (by omega) (by omega), or_shl 20 rfl ((e.src * 2 ^ 2 + e.kind) * 2 ^ 20 + e.key) e.dst (by omega) (by omega) (by omega) (by omega)]
  unfold edgeN
  omega
theorem ver_word {v : VerD} (h : rightV v = true) : bits .or .u64 (IntKind.wrap .u64 (bits .or .u64 (IntKind.wrap .u64 (IntKind.wrap .u64 v.tx * 2 ^ min (20 : Int).toNat (IntKind.bits .u64))) (IntKind.wrap .u64 v.key) * 2 ^ min (12 : Int).toNat (IntKind.bits .u64))) (IntKind.wrap .u64 v.nth) = verN v := by
  have hb : (0 ≤ v.tx ∧ v.tx ≤ 1048575) ∧ (1 ≤ v.key ∧ v.key ≤ 1048575) ∧ (0 ≤ v.nth ∧ v.nth ≤ 4095) := by
    unfold rightV at h
    split at h <;> simp only [Bool.and_eq_true, decide_eq_true_eq, idB_iff] at h <;> omega
  obtain ⟨h1, h2, h3⟩ := hb
  rw [wrap_u64 (x := v.tx) (by omega), wrap_u64 (x := v.key) (by omega), wrap_u64 (x := v.nth) (by omega)]
  rw [or_shl 20 rfl v.tx v.key (by omega) (by omega) (by omega) (by omega), or_shl 12 rfl (v.tx * 2 ^ 20 + v.key) v.nth (by omega) (by omega) (by omega) (by omega)]
  unfold verN
  omega
theorem mask {x : Int} (h : 0 ≤ x ∧ x ≤ 18446744073709551615) {K : Int} (k : Nat) (hk : min K.toNat (IntKind.bits .u64) = k) (hk2 : k < 64) : bits .and .u64 x (IntKind.wrap .u64 (IntKind.wrap .u64 (1 * 2 ^ min K.toNat (IntKind.bits .u64)) - 1)) = x % 2 ^ k := by
  obtain ⟨X, rfl⟩ := Int.eq_ofNat_of_zero_le h.1
  rw [hk, Int.one_mul]
  have hp1 : 2 ^ k < 2 ^ 64 := Nat.pow_lt_pow_right (by decide) hk2
  have hp : 2 ^ k < 18446744073709551616 := hp1
  have hp0 : 0 < 2 ^ k := Nat.two_pow_pos k
  have e2 : (2 : Int) ^ k = ((2 ^ k : Nat) : Int) := by norm_cast
  have e3 : ∀ q : Nat, 0 < q → (q : Int) - 1 = ((q - 1 : Nat) : Int) := fun q h => by omega
  rw [e2, wrapN hp, e3 _ hp0, wrapN (by omega)]
  show IntKind.wrap .u64 (((BitVec.ofInt 64 (X : Int) &&& BitVec.ofInt 64 ((2 ^ k - 1 : Nat) : Int)).toNat : Nat) : Int) = _
  rw [BitVec.toNat_and, ofN (by omega), ofN (by omega), Nat.and_two_pow_sub_one_eq_mod]
  have hm := Nat.mod_le X (2 ^ k)
  rw [wrapN (by omega)]
  norm_cast
theorem shr_u {x : Int} {K : Int} (k : Nat) (hk : min K.toNat (IntKind.bits .u64) = k) : x.fdiv (2 ^ min K.toNat (IntKind.bits .u64)) = x / 2 ^ k := by
  rw [hk, Int.fdiv_eq_ediv_of_nonneg _ (Int.le_of_lt (Int.pow_pos (by decide)))]

end Go.Proofs.Ytfdjjfplhdpclaa
