/- Maps: an even tree of pairs. No condition beyond those that each theorem says. -/
import Derived.Test.YtdfpljecogijaaaAv7
import Derived.Test.YtdfpljecogijaaaAv8
namespace Go.Proofs.Ytdfpljecogijaaa
open Go Go.Gm
set_option linter.unusedVariables false
set_option linter.unusedSimpArgs false
set_option maxHeartbeats 4000000
set_option maxRecDepth 8000


theorem ret_G2c {P : Program} {B : Base} {F0 : Fp} (hG : BaseG B F0 2) {E : En} {a : Act} {w : World} {F : Fp} {fn : Func} {q : PV} {k1 k2 : HP} {ss : List SF} (hS : Sat B E a w F) (h0 : Go.Gm.look E.r 0 = some (frame B)) (hr : ROk P E fn.results.toList ss) (hq : Tells ss q)
    (h1 : Go.Gm.look E.r 1 = some (RS.hp k1)) (h2 : Go.Gm.look E.r 2 = some (RS.hp k2)) : bodyPost P fn (RG B F0 2 q (fun _ => [k1, k2])) .ret a w :=
  ret_G hG hS h0 hr hq fun v τ y hv i h hi => by
    match i, hi with
    | 0, hi => simp at hi; subst hi; exact ⟨_, h1, by omega, fun _ _ _ h => h⟩
    | 1, hi => simp at hi; subst hi; exact ⟨_, h2, by omega, fun _ _ _ h => h⟩
/-- An even tree of pairs. -/
def allT : Nat → List PairD → Tree
  | 0, _ => .nil
  | n + 1, l => if l = [] then .nil else .node (allT n (l.take (l.length / 2))) (Go.Gm.nth l (l.length / 2)) (allT n (l.drop (l.length / 2 + 1)))
def allS (room : Int) : Nat → List Cell → Int → List PairD → St
  | 0, q, why, _ => (q, why, 0)
  | n + 1, q, why, l => if l = [] then (q, why, 0) else
    madeS room (allS room n (allS room n q why (l.take (l.length / 2))).1 (allS room n q why (l.take (l.length / 2))).2.1 (l.drop (l.length / 2 + 1))).1 (allS room n (allS room n q why (l.take (l.length / 2))).1 (allS room n q why (l.take (l.length / 2))).2.1 (l.drop (l.length / 2 + 1))).2.1 (allS room n q why (l.take (l.length / 2))).2.2 (allS room n (allS room n q why (l.take (l.length / 2))).1 (allS room n q why (l.take (l.length / 2))).2.1 (l.drop (l.length / 2 + 1))).2.2 (Go.Gm.nth l (l.length / 2))
theorem allT_list : ∀ (n : Nat) (l : List PairD), l.length < n → tList (allT n l) = l
  | 0, l, h => by omega
  | n + 1, l, h => by
    unfold allT
    split
    · rename_i h; rw [h]; rfl
    · rename_i hl
      have hp : 0 < l.length := List.length_pos_iff.2 hl
      show tList _ ++ _ :: tList _ = l
      rw [allT_list n _ (by rw [List.length_take]; omega), allT_list n _ (by rw [List.length_drop]; omega)]
      rw [← drop_nth (show l.length / 2 < l.length by omega), List.take_append_drop]
def bitsL (m : Nat) : Int := if h : m = 0 then 0 else bitsL (m / 2) + 1
termination_by m
decreasing_by omega
theorem bitsL_mono : ∀ (b a : Nat), a ≤ b → bitsL a ≤ bitsL b ∧ 0 ≤ bitsL a
  | b, a, h => by
    rw [bitsL.eq_def a, bitsL.eq_def b]
    by_cases ha : a = 0
    · by_cases hb : b = 0
      · rw [dif_pos ha, dif_pos hb]; omega
      · rw [dif_pos ha, dif_neg hb]
        have := bitsL_mono (b / 2) (b / 2) (Nat.le_refl _)
        omega
    · rw [dif_neg ha, dif_neg (by omega)]
      have := bitsL_mono (b / 2) (a / 2) (by omega)
      omega
termination_by b => b
decreasing_by all_goals omega
theorem bitsL_succ (a : Nat) : bitsL (a + 1) ≤ bitsL a + 1 := by
  rw [bitsL.eq_def (a + 1), dif_neg (by omega)]
  have := bitsL_mono a ((a + 1) / 2) (by omega)
  omega
theorem allT_high : ∀ (n : Nat) (l : List PairD), l.length < n → tHigh (allT n l) = bitsL l.length ∧ Bal (allT n l)
  | 0, l, h => by omega
  | n + 1, l, h => by
    unfold allT
    split
    · rename_i h; rw [h]; exact ⟨by rw [bitsL.eq_def]; rfl, trivial⟩
    · rename_i hl
      have hp : 0 < l.length := List.length_pos_iff.2 hl
      have a := allT_high n (l.take (l.length / 2)) (by rw [List.length_take]; omega)
      have b := allT_high n (l.drop (l.length / 2 + 1)) (by rw [List.length_drop]; omega)
      rw [List.length_take, Nat.min_eq_left (by omega)] at a
      rw [List.length_drop] at b
      have c := bitsL_mono (l.length / 2) (l.length - (l.length / 2 + 1)) (by omega)
      have d := bitsL_succ (l.length - (l.length / 2 + 1))
      have e := bitsL_mono (l.length - (l.length / 2 + 1) + 1) (l.length / 2) (by omega)
      refine ⟨?_, a.2, b.2, by omega, by omega⟩
      show max _ _ + 1 = _
      rw [a.1, b.1, bitsL.eq_def l.length, dif_neg (by omega)]
      omega
theorem allS_good {kf : Int → Int} {room : Int} : ∀ (n : Nat) (q : List Cell) (l : List PairD), l.length < n → l.length ≤ 1000000 → (∀ p ∈ l, kf p.key = p.key) → Good kf room q l.length l.length (allS room n q 0 l) (allT n l)
  | 0, q, l, h, _, _ => by omega
  | n + 1, q, l, h, hs, hk => by
    unfold allS allT
    split
    · rename_i h; rw [h]; exact ⟨[], (List.append_nil q).symm, by simp, .inl ⟨rfl, rfl, by simp⟩⟩
    · rename_i hl
      have hp : 0 < l.length := List.length_pos_iff.2 hl
      have lt : (l.take (l.length / 2)).length = l.length / 2 := by rw [List.length_take]; omega
      have ld : (l.drop (l.length / 2 + 1)).length = l.length - (l.length / 2 + 1) := List.length_drop ..
      have h1 := allS_good (room := room) n q (l.take (l.length / 2)) (by omega) (by omega) fun p hp => hk p (List.mem_of_mem_take hp)
      have t1 := tSize_list (allT n (l.take (l.length / 2)))
      rw [allT_list n _ (by omega)] at t1
      have t2 := tSize_list (allT n (l.drop (l.length / 2 + 1)))
      rw [allT_list n _ (by omega)] at t2
      have bad : ∀ (n : Nat) (q : List Cell) (why : Int) (l : List PairD), why ≠ 0 → allS room n q why l = (q, why, 0) := by
        intro n
        induction n with
        | zero => intro q why l _; rfl
        | succ n ih =>
          intro q why l hw
          unfold allS
          split
          · rfl
          · simp only [ih _ _ _ hw, madeS_bad hw]
      refine (Good.bind (lo' := (l.drop (l.length / 2 + 1)).length + 1) (m := (l.drop (l.length / 2 + 1)).length + 1) h1 (by omega) (fun e e1 e3 e4 => ?_) fun hw => ?_).weak (by omega) (by omega)
      · rw [e3]
        have h2 := allS_good (room := room) n (allS room n q 0 (l.take (l.length / 2))).1 (l.drop (l.length / 2 + 1)) (by omega) (by omega) fun p hp => hk p (List.mem_of_mem_drop hp)
        refine Good.bind (lo' := 1) (m := 1) h2 (by omega) (fun f f1 f3 f4 => ?_) fun hw => madeS_bad hw
        rw [f3]
        exact madeS_good (by rw [f1]; exact e4.app f) f4 (hk _ (nth_mem (by omega))) (by omega)
      · rw [bad _ _ _ _ hw, madeS_bad hw]

end Go.Proofs.Ytdfpljecogijaaa
