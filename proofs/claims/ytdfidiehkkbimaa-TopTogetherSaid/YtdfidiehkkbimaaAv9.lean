/- Maps: an even tree of pairs. No condition beyond those that each theorem says. -/
import Derived.Test.YtdfidiehkkbimaaAv7
import Derived.Test.YtdfidiehkkbimaaAv8
namespace Go.Proofs.Ytdfidiehkkbimaa
open Go Go.Gm
set_option linter.unusedVariables false
set_option linter.unusedSimpArgs false
set_option maxHeartbeats 4000000
set_option maxRecDepth 8000


theorem ret_G2c {P : Program} {B : Base} {F0 : Fp} (hG : BaseG B F0 2) {E : En} {a : Act} {w : World} {F : Fp} {fn : Func} {q : PV} {k1 k2 : HP} {ss : List SF} (hS : Sat B E a w F) (h0 : Go.Gm.look E.r 0 = some (frame B)) (hr : ROk P E fn.results.toList ss) (hq : Tells ss q)
    (h1 : Go.Gm.look E.r 1 = some (RS.hp k1)) (h2 : Go.Gm.look E.r 2 = some (RS.hp k2)) : bodyPost P fn (RG B F0 2 q (fun _ => [k1, k2])) .ret a w :=
  ret_G hG hS h0 hr hq fun v τ y hv i h hi => by
    match i, hi with
    | 0, hi => simp at hi; subst hi; exact ⟨_, h1, by omega, fun _ _ _ h => h⟩
    | 1, hi => simp at hi; subst hi; exact ⟨_, h2, by omega, fun _ _ _ h => h⟩
/-- An even tree of pairs. -/
def allT : Nat → List PairD → Tree
  | 0, _ => .nil
  | n + 1, l => if l = [] then .nil else .node (allT n (l.take (l.length / 2))) (Go.Gm.nth l (l.length / 2)) (allT n (l.drop (l.length / 2 + 1)))
def allS (room : Int) : Nat → List Cell → Int → List PairD → St
  | 0, q, why, _ => (q, why, 0)
  | n + 1, q, why, l => if l = [] then (q, why, 0) else
    madeS room (allS room n (allS room n q why (l.take (l.length / 2))).1 (allS room n q why (l.take (l.length / 2))).2.1 (l.drop (l.length / 2 + 1))).1 (allS room n (allS room n q why (l.take (l.length / 2))).1 (allS room n q why (l.take (l.length / 2))).2.1 (l.drop (l.length / 2 + 1))).2.1 (allS room n q why (l.take (l.length / 2))).2.2 (allS room n (allS room n q why (l.take (l.length / 2))).1 (allS room n q why (l.take (l.length / 2))).2.1 (l.drop (l.length / 2 + 1))).2.2 (Go.Gm.nth l (l.length / 2))
theorem allT_list : ∀ (n : Nat) (l : List PairD), l.length < n → tList (allT n l) = l
  | 0, l, h => by omega
  | n + 1, l, h => by
    unfold allT
    split
    · rename_i h; rw [h]; rfl
    · rename_i hl
      have hp : 0 < l.length := List.length_pos_iff.2 hl
      show tList _ ++ _ :: tList _ = l
      rw [allT_list n _ (by rw [List.length_take]; omega), allT_list n _ (by rw [List.length_drop]; omega)]
      rw [← drop_nth (show l.length / 2 < l.length by omega), List.take_append_drop]
def bitsL (m : Nat) : Int := if h : m = 0 then 0 else bitsL (m / 2) + 1
termination_by m
decreasing_by omega
theorem bitsL_mono : ∀ (b a : Nat), a ≤ b → bitsL a ≤ bitsL b ∧ 0 ≤ bitsL a
  | b, a, h => by
    rw [bitsL.eq_def a, bitsL.eq_def b]
    by_cases ha : a = 0
    · by_cases hb : b = 0
      · rw [dif_pos ha, dif_pos hb]; omega
      · rw [dif_pos ha, dif_neg hb]
        have := bitsL_mono (b / 2) (b / 2) (Nat.le_refl _)
        omega
    · rw [dif_neg ha, dif_neg (by omega)]
      have := bitsL_mono (b / 2) (a / 2) (by omega)
      omega
termination_by b => b
decreasing_by all_goals omega
theorem bitsL_succ (a : Nat) : bitsL (a + 1) ≤ bitsL a + 1 := by
  rw [bitsL.eq_def (a + 1), dif_neg (by omega)]
  have := bitsL_mono a ((a + 1) / 2) (by omega)
  omega
theorem allT_high : ∀ (n : Nat) (l : List PairD), l.length < n → tHigh (allT n l) = bitsL l.length ∧ Bal (allT n l)
  | 0, l, h => by omega
  | n + 1, l, h => by
    unfold allT
    split
    · rename_i h; rw [h]; exact ⟨by rw [bitsL.eq_def]; rfl, trivial⟩
    · rename_i hl
      have hp : 0 < l.length := List.length_pos_iff.2 hl
      have a := allT_high n (l.take (l.length / 2)) (by rw [List.length_take]; omega)
      have b := allT_high n (l.drop (l.length / 2 + 1)) (by rw [List.length_drop]; omega)
      rw [List.length_take, Nat.min_eq_left (by omega)] at a
      rw [List.length_drop] at b
      have c := bitsL_mono (l.length / 2) (l.length - (l.length / 2 + 1)) (by omega)
      have d := bitsL_succ (l.length - (l.length / 2 + 1))
      have e := bitsL_mono (l.length - (l.length / 2 + 1) + 1) (l.length / 2) (by omega)
      refine ⟨?_, a.2, b.2, by omega, by omega⟩
      show max _ _ + 1 = _
      rw [a.1, b.1, bitsL.eq_def l.length, dif_neg (by omega)]
      omega
theorem allS_good {kf : Int → Int} {room : Int} : ∀ (n : Nat) (q : List Cell) (l : List PairD), l.length < n → l.length ≤ 1000000 → (∀ p ∈ l, kf p.key = p.key) → Good kf room q l.length l.length (allS room n q 0 l) (allT n l)
  | 0, q, l, h, _, _ => by omega
  | n + 1, q, l, h, hs, hk => by
    unfold allS allT
    split
    · rename_i h; rw [h]; exact ⟨[], (List.append_nil q).symm, by simp, .inl ⟨rfl, rfl, by simp⟩⟩
    · rename_i hl
      have hp : 0 < l.length := List.length_pos_iff.2 hl
      have lt : (l.take (l.length / 2)).length = l.length / 2 := by rw [List.length_take]; omega
      have ld : (l.drop (l.length / 2 + 1)).length = l.length - (l.length / 2 + 1) := List.length_drop ..
      have h1 := allS_good (room := room) n q (l.take (l.length / 2)) (by omega) (by omega) fun p hp => hk p (List.mem_of_mem_take hp)
      have t1 := tSize_list (allT n (l.take (l.length / 2)))
      rw [allT_list n _ (by omega)] at t1
      have t2 := tSize_list (allT n (l.drop (l.length / 2 + 1)))
      rw [allT_list n _ (by omega)] at t2
      have bad : ∀ (n : Nat) (q : List Cell) (why : Int) (l : List PairD), why ≠ 0 → allS room n q why l = (q, why, 0) := by
        intro n
        induction n with
        | zero => intro q why l _; rfl
        | succ n ih =>
          intro q why l hw
          unfold allS
          split
          · rfl
          · simp only [ih _ _ _ hw, madeS_bad hw]
      refine (Good.bind (lo' := (l.drop (l.length / 2 + 1)).length + 1) (m := (l.drop (l.length / 2 + 1)).length + 1) h1 (by omega) (fun e e1 e3 e4 => ?_) fun hw => ?_).weak (by omega) (by omega)
      · rw [e3]
        have h2 := allS_good (room := room) n (allS room n q 0 (l.take (l.length / 2))).1 (l.drop (l.length / 2 + 1)) (by omega) (by omega) fun p hp => hk p (List.mem_of_mem_drop hp)
        refine Good.bind (lo' := 1) (m := 1) h2 (by omega) (fun f f1 f3 f4 => ?_) fun hw => madeS_bad hw
        rw [f3]
        exact madeS_good (by rw [f1]; exact e4.app f) f4 (hk _ (nth_mem (by omega))) (by omega)
      · rw [bad _ _ _ _ hw, madeS_bad hw]

theorem mall_s (b : Nat) (o : Option Nat) (root why room : Int) (q : List Cell) (n : Nat) (ih : ∀ (q : List Cell) (why : Int) (l : List PairD), l.length < n → FnG Try.prog 92 1 [.is (.pointer (some ⟨b, 0, none⟩)), .sl rPair l] [bldH 157 (.pointer (some ⟨b, 0, none⟩)) o root why room q] (.int .i64 (allS room n q why l).2.2) (fun _ => [bldH 157 (.pointer (some ⟨b, 0, none⟩)) o root (allS room n q why l).2.1 room (allS room n q why l).1])) (l : List PairD) (hl : l.length < n + 1) : FnG Try.prog 92 1 [.is (.pointer (some ⟨b, 0, none⟩)), .sl rPair l] [bldH 157 (.pointer (some ⟨b, 0, none⟩)) o root why room q] (.int .i64 (allS room (n + 1) q why l).2.2) (fun _ => [bldH 157 (.pointer (some ⟨b, 0, none⟩)) o root (allS room (n + 1) q why l).2.1 room (allS room (n + 1) q why l).1]) := by
  refine FnG.mk Try.func92 rfl Try.ntmps92 rfl (by kernel_rfl) ?_
  intro B F0 a w F hB hG hS
  have hll := Sat.lenSl hS (i := 1) rfl
  refine wp_seq ?_
  refine region_q hS
    (cF rfl (oN (.ci (by kernel_rfl))) trivial trivial
    Chain.nil)
    hB ?_
  clear hS; intro a w F hS
  obtain ⟨F, hS⟩ := hS.nm [4, 1, 0] [1, 0] rfl rfl
  try dsimp only [rCell, rPair] at hS
  refine then_n (wp_seq (wp_seq ?_))
  refine region_q hS
    (cF rfl (oM .t) r1 trivial
    (cF rfl (o_len_sl Try.underlying78 .t) r1 trivial
    (cF rfl (o_eql .t (.ci (by kernel_rfl))) r1 trivial
    Chain.nil)))
    hB ?_
  clear hS; intro a w F hS
  obtain ⟨F, hS⟩ := hS.nm [8, 4, 1, 0] [1, 0] rfl rfl
  try dsimp only [rCell, rPair] at hS
  refine then_n ?_
  refine cond_b hS rfl (fun hc0 => ?_) (fun hc0 => ?_)
  ·skip
   have hz : l = [] := List.eq_nil_of_length_eq_zero (by simp only [decide_eq_true_eq] at hc0; omega)
   have hg : (allS room (n + 1) q why l) = (q, why, 0) := if_pos hz
   refine wp_seq ?_
   refine region_q hS
     (cF rfl (oN (.ci (by kernel_rfl))) trivial trivial
     Chain.nil)
     hB ?_
   clear hS; intro a w F hS
   obtain ⟨F, hS⟩ := hS.nm [4, 1, 0] [1, 0] rfl rfl
   try dsimp only [rCell, rPair] at hS
   refine then_n (wp_ret (then_r ?_))
   have hS := hS.turn 1 rfl (r' := RS.hp (bldH 157 (.pointer (some ⟨b, 0, none⟩)) o root (allS room (n + 1) q why l).2.1 room (allS room (n + 1) q why l).1)) (fun _ _ _ _ h => by rw [hg]; exact h)
   refine ret_G1 hG hS rfl (.tmp rfl .nil) (.one (.int (by first | (rw [hg]; done) | (rw [hg]; rfl)))) rfl
  have hz : ¬ l = [] := by intro hz; rw [hz] at hc0; simp at hc0
  have hp : 0 < l.length := List.length_pos_iff.2 hz
  have hq2 : IntKind.wrap .i64 (Int.tdiv (l.length : Int) 2) = ((l.length / 2 : Nat) : Int) := by rw [Int.tdiv_eq_ediv_of_nonneg (by omega), wrap_i64 (by omega)]; omega
  have hk1 : IntKind.wrap .i64 (((l.length / 2 : Nat) : Int) + 1) = ((l.length / 2 + 1 : Nat) : Int) := by rw [wrap_i64 (by omega)]; omega
  have hg : (allS room (n + 1) q why l) = (madeS room (allS room n (allS room n q why (l.take (l.length / 2))).1 (allS room n q why (l.take (l.length / 2))).2.1 (l.drop (IntKind.wrap .i64 (((l.length / 2 : Nat) : Int) + 1)).toNat)).1 (allS room n (allS room n q why (l.take (l.length / 2))).1 (allS room n q why (l.take (l.length / 2))).2.1 (l.drop (IntKind.wrap .i64 (((l.length / 2 : Nat) : Int) + 1)).toNat)).2.1 (allS room n q why (l.take (l.length / 2))).2.2 (allS room n (allS room n q why (l.take (l.length / 2))).1 (allS room n q why (l.take (l.length / 2))).2.1 (l.drop (IntKind.wrap .i64 (((l.length / 2 : Nat) : Int) + 1)).toNat)).2.2 (Go.Gm.nth l (l.length / 2))) := by rw [hk1, Int.toNat_natCast]; exact if_neg hz
  refine wp_skip (then_n (wp_seq ?_))
  refine region_q hS
    (cF rfl (oM .t) r1 trivial
    (cF rfl (o_len_sl Try.underlying78 .t) r1 trivial
    (cF rfl (o_quo .t (.ci (by kernel_rfl)) (by decide)) r1 trivial
    (cF rfl (oN .t) r1 trivial
    Chain.nil))))
    hB ?_
  clear hS; intro a w F hS
  obtain ⟨F, hS⟩ := hS.nm [5, 4, 1, 0] [1, 0] rfl rfl
  try dsimp only [rCell, rPair] at hS
  rw [hq2] at hS
  refine then_n (wp_seq ?_)
  refine region_any (by kernel_rfl) hS (by kernel_rfl)
    (cF rfl (oM .t) r1 trivial
    (cF rfl (oM .t) r1 trivial
    (cF rfl (oM .t) r1 trivial
    (cF rfl (oM .t) r1 trivial
    (cF rfl (o_slice_hi (sz := 2) (.mk Try.underlying78 (by kernel_rfl)) (by intro x; rfl) .t .t (by omega) (by omega)) r2 trivial
    (cF rfl (o_callG1 1 (ih q why (l.take (l.length / 2)) (by rw [List.length_take]; omega)) Try.func92 rfl (by kernel_rfl) (Args.two .t .t)) r2 r1
    (cF rfl (oM .t) r1 trivial
    (cF rfl (oM .t) r1 trivial
    (cF rfl (oM .t) r1 trivial
    (cF rfl (o_add .t (.ci (by kernel_rfl))) r1 trivial
    (cF rfl (o_slice_lo (sz := 2) (.mk Try.underlying78 (by kernel_rfl)) (by intro x; rfl) .t .t (by rw [hk1]; omega) (by rw [hk1]; omega)) r2 trivial
    (cF rfl (o_callG1 1 (ih (allS room n q why (l.take (l.length / 2))).1 (allS room n q why (l.take (l.length / 2))).2.1 (l.drop (IntKind.wrap .i64 (((l.length / 2 : Nat) : Int) + 1)).toNat) (by rw [List.length_drop, hk1]; omega)) Try.func92 rfl (by kernel_rfl) (Args.two .t .t)) r2 r1
    (cF rfl (oM .t) r1 trivial
    (cF rfl (oM .t) r1 trivial
    (cF rfl (o_indexAddr_sl (sz := 2) (.mk Try.underlying78 (by kernel_rfl)) (by intro x; rfl) .t .t (by omega) (by omega)) r2 trivial
    (cF rfl (oR true 2 .t) r1 trivial
    (cF rfl (o_callG1 1 (mmade_c b o root (allS room n (allS room n q why (l.take (l.length / 2))).1 (allS room n q why (l.take (l.length / 2))).2.1 (l.drop (IntKind.wrap .i64 (((l.length / 2 : Nat) : Int) + 1)).toNat)).2.1 room (allS room n (allS room n q why (l.take (l.length / 2))).1 (allS room n q why (l.take (l.length / 2))).2.1 (l.drop (IntKind.wrap .i64 (((l.length / 2 : Nat) : Int) + 1)).toNat)).1 (allS room n q why (l.take (l.length / 2))).2.2 (allS room n (allS room n q why (l.take (l.length / 2))).1 (allS room n q why (l.take (l.length / 2))).2.1 (l.drop (IntKind.wrap .i64 (((l.length / 2 : Nat) : Int) + 1)).toNat)).2.2 (Go.Gm.nth l (l.length / 2))) Try.func127 rfl (by kernel_rfl) (Args.four .t .t .t (.pagg .t))) r4 r1
    (cF rfl (oN .t) r1 trivial
    Chain.nil))))))))))))))))))
    (by kernel_rfl) (by rw [hB]; kernel_rfl) ?_
  clear hS; intro a w F hS
  obtain ⟨F, hS⟩ := hS.nm [4] [1, 0] rfl rfl
  try dsimp only [List.map, xD, xE, xT, xU, ldSF, rCell, rPair] at hS
  try simp only [Int.toNat_natCast] at hS
  refine then_n (wp_ret ?_)
  have hS := hS.turn 1 rfl (r' := RS.hp (bldH 157 (.pointer (some ⟨b, 0, none⟩)) o root (allS room (n + 1) q why l).2.1 room (allS room (n + 1) q why l).1)) (fun _ _ _ _ h => by rw [hg]; exact h)
  refine ret_G1 hG hS rfl (.tmp rfl .nil) (.one (.int (by first | (rw [hg]; done) | (rw [hg]; rfl)))) rfl

theorem mall_c (b : Nat) (o : Option Nat) (root room : Int) : ∀ (n : Nat) (q : List Cell) (why : Int) (l : List PairD), l.length < n → FnG Try.prog 92 1 [.is (.pointer (some ⟨b, 0, none⟩)), .sl rPair l] [bldH 157 (.pointer (some ⟨b, 0, none⟩)) o root why room q] (.int .i64 (allS room n q why l).2.2) (fun _ => [bldH 157 (.pointer (some ⟨b, 0, none⟩)) o root (allS room n q why l).2.1 room (allS room n q why l).1]) := fun n => by
  induction n with
  | zero => intro q why l h; omega
  | succ n ih => intro q why l h; exact mall_s b o root why room q n ih l h

end Go.Proofs.Ytdfidiehkkbimaa
