/- Of, Count. No condition beyond those that each theorem says. -/
import Derived.Test.YtdfidiehkkbimaaDoorBr2
namespace Go.Proofs.YtdfidiehkkbimaaDoor
open Go Go.Gm
set_option linter.unusedVariables false
set_option linter.unusedSimpArgs false
set_option maxHeartbeats 4000000
set_option maxRecDepth 8000


def ofW (m : Int) (l : List Int) : List Int := l.foldl (fun ws i => setW (rowN m) ws i true) (zeroW m)
theorem ofW_next (m : Int) {l : List Int} {k : Nat} (h : k < l.length) : setW (rowN m) (ofW m (l.take k)) (Go.Gm.nth l k) true = ofW m (l.take (k + 1)) := by
  unfold ofW
  rw [nth_eq h, List.take_succ_eq_append_getElem h, List.foldl_append]
  rfl
theorem ofW_ok (m : Int) (l : List Int) : RowOk (rowN m) (ofW m l) := by
  unfold ofW
  have : ∀ (l : List Int) (ws : List Int), RowOk (rowN m) ws → RowOk (rowN m) (l.foldl (fun ws i => setW (rowN m) ws i true) ws) := by
    intro l
    induction l with
    | nil => intro ws h; exact h
    | cons x l ih => intro ws h; exact ih _ (h.setW x true)
  exact this l _ (zeroW_ok m)

def shrF (x : Int) (k : Int) : Int := x.fdiv (2 ^ min k.toNat (IntKind.bits .u64))
def ones1 (x : Int) : Int := IntKind.wrap .u64 (bits .and .u64 (shrF x 1) 6148914691236517205 + bits .and .u64 x 6148914691236517205)
def ones2 (x : Int) : Int := IntKind.wrap .u64 (bits .and .u64 (shrF x 2) 3689348814741910323 + bits .and .u64 x 3689348814741910323)
def ones3 (x : Int) : Int := bits .and .u64 (IntKind.wrap .u64 (shrF x 4 + x)) 1085102592571150095
def ones4 (x : Int) (k : Int) : Int := IntKind.wrap .u64 (x + shrF x k)
def onesF (x : Int) : Int := bits .and .i64 (IntKind.wrap .i64 (ones4 (ones4 (ones4 (ones3 (ones2 (ones1 x))) 8) 16) 32)) 127

theorem onesF_in (x : Int) : 0 ≤ onesF x ∧ onesF x ≤ 127 := by
  unfold onesF
  generalize IntKind.wrap .i64 _ = y
  have h2 : (BitVec.ofInt 64 (127 : Int)).toNat = 2 ^ 7 - 1 := by decide
  have e : bits .and .i64 y 127 = IntKind.wrap .i64 (((BitVec.ofInt 64 y &&& BitVec.ofInt 64 127).toNat : Nat) : Int) := rfl
  rw [e, BitVec.toNat_and, h2, Nat.and_two_pow_sub_one_eq_mod]
  have := Nat.mod_lt (BitVec.ofInt 64 y).toNat (show 0 < 2 ^ 7 by decide)
  rw [wrap_i64 (by omega)]
  omega
def cntW (ws : List Int) : Int := ws.foldl (fun s x => s + onesF x) 0
theorem cntW_next {ws : List Int} {k : Nat} (h : k < ws.length) : cntW (ws.take (k + 1)) = cntW (ws.take k) + onesF (Go.Gm.nth ws k) := by
  unfold cntW
  rw [nth_eq h, List.take_succ_eq_append_getElem h, List.foldl_append]
  rfl
theorem cntW_in (ws : List Int) : ∀ k, k ≤ ws.length → 0 ≤ cntW (ws.take k) ∧ cntW (ws.take k) ≤ 127 * (k : Int)
  | 0, _ => by simp [cntW]
  | k + 1, h => by
    have h1 := cntW_in ws k (by omega)
    have h2 := onesF_in (Go.Gm.nth ws k)
    rw [cntW_next (by omega)]
    omega

end Go.Proofs.YtdfidiehkkbimaaDoor
