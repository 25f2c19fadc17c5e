/- Plain law of layer 3. No condition beyond those that each theorem says. -/
import Derived.Test.YtpjjmolibanakaaDoorBa0
import Derived.Laws.BitsLemmas
import Derived.Laws.MathBits
namespace Go.Proofs.YtpjjmolibanakaaDoor
open Go Go.Gm
set_option linter.unusedVariables false
set_option linter.unusedSimpArgs false
set_option maxHeartbeats 4000000
set_option maxRecDepth 8000

theorem u8_wrap (x : Int) : IntKind.wrap .u8 x = x % 256 := by simp [IntKind.wrap, IntKind.bits, IntKind.signed]
/-- A text's digits, as a number. -/
def digit (c : UInt8) : Bool := decide (48 ≤ c.toNat) && decide (c.toNat ≤ 57)
def valOf (s : List UInt8) : Nat := s.foldl (fun a c => a * 10 + (c.toNat - 48)) 0
def readR (s : List UInt8) : Int × Int :=
  if s = [] ∨ (1 < s.length ∧ nth s 0 = 48) then (0, 10) else if s.all digit = false then (0, 10) else if 2147483647 < valOf s then (0, 1) else ((valOf s : Int), 0)
theorem val_next {s : List UInt8} {i : Nat} (h : i < s.length) : valOf (s.take (i + 1)) = valOf (s.take i) * 10 + ((nth s i).toNat - 48) := by
  unfold valOf
  rw [nth_eq h, List.take_succ_eq_append_getElem h, List.foldl_append]
  rfl
theorem all_next {s : List UInt8} {i : Nat} (h : i < s.length) : (s.take (i + 1)).all digit = ((s.take i).all digit && digit (nth s i)) := by
  rw [nth_eq h, List.take_succ_eq_append_getElem h, List.all_append]
  simp only [List.all_cons, List.all_nil, Bool.and_true]
theorem all_not {s : List UInt8} {i : Nat} (h : i < s.length) (hd : digit (nth s i) = false) : s.all digit = false := by
  rw [List.all_eq_false]
  exact ⟨nth s i, by rw [nth_eq h]; exact List.getElem_mem h, by simp [hd]⟩
end Go.Proofs.YtpjjmolibanakaaDoor
