/- Slices of ints: Insert, BinarySearch. No condition beyond those that each theorem says. -/
import Derived.Test.YtpahapjcdldodaaDoorCo0
import Derived.Test.YtpahapjcdldodaaDoorLibE
namespace Go.Proofs.YtpahapjcdldodaaDoor
open Go Go.Gm
set_option linter.unusedVariables false
set_option linter.unusedSimpArgs false
set_option maxHeartbeats 4000000
set_option maxRecDepth 8000


theorem ins_end {α : Type} {l : List α} {i : Nat} {x : α} (h : i = l.length) : l.take i ++ [x] ++ l.drop i = l ++ [x] := by rw [h]; simp
theorem ins_grow {α : Type} {l l2 l3 : List α} {i : Nat} {x z : α} (hi : i < l.length) (h2 : l2 = l.take i ++ List.replicate (l.length + 1 - i) z) (h3 : l3 = l2.take i ++ [x] ++ l2.drop (i + [x].length)) :
    l.take i ++ [x] ++ l.drop i = l3.take (i + 1) ++ l.drop i ++ l3.drop (i + 1 + (l.drop i).length) := by
  have e1 : l2.take i = l.take i := by
    rw [h2, List.take_append_of_le_length (by rw [List.length_take]; omega), List.take_take, Nat.min_self]
  have e0 : l2.length = l.length + 1 := by rw [h2, List.length_append, List.length_take, List.length_replicate]; omega
  have e2 : l3.take (i + 1) = l.take i ++ [x] := by
    rw [h3, e1, List.take_append_of_le_length (by rw [List.length_append, List.length_take]; simp; omega), List.take_of_length_le (by rw [List.length_append, List.length_take]; simp; omega)]
  have e3 : l3.length = l.length + 1 := by
    rw [h3, e1, List.length_append, List.length_append, List.length_take, List.length_drop, e0]; simp; omega
  have e4 : l3.drop (i + 1 + (l.drop i).length) = [] := List.drop_eq_nil_of_le (by rw [e3, List.length_drop]; omega)
  rw [e2, e4, List.append_nil]
theorem ins_place {α : Type} {l l4 : List α} {i : Nat} {x : α} (hi : i < l.length) (h4 : l4 = l.take (i + 1) ++ l.drop i) : l.take i ++ [x] ++ l.drop i = l4.take i ++ [x] ++ l4.drop (i + [x].length) := by
  have e1 : l4.take i = l.take i := by
    rw [h4, List.take_append_of_le_length (by rw [List.length_take]; omega), List.take_take, Nat.min_eq_left (by omega)]
  have e2 : l4.drop (i + [x].length) = l.drop i := by
    rw [h4, show i + [x].length = i + 1 from rfl, List.drop_append_of_le_length (by rw [List.length_take]; omega), List.drop_eq_nil_of_le (by rw [List.length_take]; omega), List.nil_append]
  rw [e1, e2]

theorem insI_c (v : Value) (l : List Int) (i : Nat) (x : Int) (hll : l.length ≤ 1000000) (hi : i ≤ l.length) : FnG Tryd.prog 62 1 [.is v, .int .i64 i, .sl rInt [x]] [rowH 3 1 rInt l v] (PV.one) (fun v => [rowH 3 1 rInt (l.take i ++ [x] ++ l.drop i) v]) := by
  refine FnG.mk Tryd.func62 rfl Tryd.ntmps62 rfl (by kernel_rfl) ?_
  intro B F0 a w F hB hG hS
  replace hS := hS.turn 1 rfl (r' := .ob (.val v) (rowH 3 1 rInt l)) (fun _ _ _ _ h => h)
  refine wp_seq ?_
  refine region_q hS
    (cF rfl (oN (.c rfl)) trivial trivial
    Chain.nil)
    hB ?_
  clear hS; intro a w F hS
  obtain ⟨F, hS⟩ := hS.nm [6, 2, 1, 0] [1, 0] rfl rfl
  try dsimp only [rInt] at hS
  refine then_n (wp_seq ?_)
  refine region_q hS
    (cF rfl (oM .t) r1 trivial
    (cF rfl (oM .t) r1 trivial
    (cF rfl (o_sub_any (sz := 1) 1 (.mk Tryd.underlying30 (by kernel_rfl)) .is .t (by omega) (by omega)) r2 r1
    Chain.nil)))
    hB ?_
  clear hS; intro a w F hS
  obtain ⟨F, hS⟩ := hS.nm [6, 2, 1, 0] [1, 0] rfl rfl
  try dsimp only [rInt] at hS
  refine then_n (wp_seq ?_)
  refine region_q hS
    (cF rfl (oM .t) r1 trivial
    (cF rfl (o_len_sl Tryd.underlying30 .t) r1 trivial
    (cF rfl (oN .t) r1 trivial
    Chain.nil)))
    hB ?_
  clear hS; intro a w F hS
  obtain ⟨F, hS⟩ := hS.nm [7, 6, 2, 1, 0] [1, 0] rfl rfl
  try dsimp only [rInt] at hS
  replace hS := hS.ent (i := 7) (s' := .pv (.int .i64 1)) rfl (.int rfl)
  obtain ⟨F, hS⟩ := hS.nm [7, 6, 2, 1, 0] [1, 0] rfl rfl
  refine then_n (wp_seq (wp_seq ?_))
  refine region_q hS
    (cF rfl (oM .t) r1 trivial
    (cF rfl (o_eql .t (.ci (by kernel_rfl))) r1 trivial
    Chain.nil))
    hB ?_
  clear hS; intro a w F hS
  obtain ⟨F, hS⟩ := hS.nm [16, 7, 6, 2, 1, 0] [1, 0] rfl rfl
  try dsimp only [rInt] at hS
  refine then_n ?_
  refine cond_b hS rfl (fun hc0 => ?_) (fun hc0 => ?_)
  ·skip
   simp at hc0
  refine wp_skip (then_n (wp_seq ?_))
  refine region_q hS
    (cF rfl (oM .t) r1 trivial
    (cF rfl (o_len_row 1 Tryd.underlying30 .is) r1 r1
    (cF rfl (oN .t) r1 trivial
    Chain.nil)))
    hB ?_
  clear hS; intro a w F hS
  obtain ⟨F, hS⟩ := hS.nm [8, 7, 6, 2, 1, 0] [1, 0] rfl rfl
  try dsimp only [rInt] at hS
  refine then_n (wp_seq (wp_seq ?_))
  refine region_q hS
    (cF rfl (oM .t) r1 trivial
    (cF rfl (oM .t) r1 trivial
    (cF rfl (o_eql .t .t) r2 trivial
    Chain.nil)))
    hB ?_
  clear hS; intro a w F hS
  obtain ⟨F, hS⟩ := hS.nm [22, 8, 7, 6, 2, 1, 0] [1, 0] rfl rfl
  try dsimp only [rInt] at hS
  refine then_n ?_
  refine cond_b hS rfl (fun hc1 => ?_) (fun hc1 => ?_)
  ·skip
   have hg := ins_end (x := x) (by have h9 := hc1; simp at h9; omega : i = l.length)
   refine wp_seq ?_
   refine region_q hS
     (cF rfl (oM .t) r1 trivial
     (cF rfl (oM .t) r1 trivial
     (cF rfl (o_append (sz := 1) (bs := 8) 1 (.mk' Tryd.underlying30 (by kernel_rfl) (by kernel_rfl)) (by intro x; rfl) .is (.sl .t) (by simp only [List.length_cons, List.length_nil]; omega) (by decide)) ⟨rfl, rfl, trivial⟩ ⟨rfl, trivial⟩
     (cF rfl (oN .t) r1 trivial
     Chain.nil))))
     hB ?_
   clear hS; intro a w F hS
   replace hS := hS.sub
   obtain ⟨F, hS⟩ := hS.nm [8, 7, 6, 2, 1, 0] [1, 0] rfl rfl
   try dsimp only [RS.sub, SF.sub, CF.sub, csub, Anc.sub, List.map, xC, xN, rInt] at hS
   generalize Act.tau a 25 = v25 at hS
   refine then_n (wp_ret (then_r ?_))
   have hS := hS.turn 1 rfl (r' := RS.hp (rowH 3 1 rInt (l.take i ++ [x] ++ l.drop i) v25)) (fun _ _ _ _ h => by rw [hg]; exact h)
   refine ret_N1 (h' := fun v => rowH 3 1 rInt (l.take i ++ [x] ++ l.drop i) v) hG hS rfl (.tmp rfl .nil) (.one .one) rfl
  have hil : i < l.length := by simp at hc1; omega
  have hw1 : IntKind.wrap .i64 ((i : Int) + 1) = ((i + 1 : Nat) : Int) := wrap_succ (by omega)
  have hwn : IntKind.wrap .i64 ((l.length : Int) + 1) = ((l.length + 1 : Nat) : Int) := wrap_succ (by omega)
  refine wp_skip (then_n (wp_seq (wp_seq ?_)))
  refine region_q hS
    (cF rfl (oM .t) r1 trivial
    (cF rfl (oM .t) r1 trivial
    (cF rfl (o_add .t .t) r2 trivial
    (cF rfl (oM .t) r1 trivial
    (cF rfl (o_cap_row 1 Tryd.underlying30 .is) r1 r1
    (cF rfl (o_gtr .t .t) r2 trivial
    Chain.nil))))))
    hB ?_
  clear hS; intro a w F hS
  obtain ⟨F, hS⟩ := hS.nm [31, 8, 7, 6, 2, 1, 0] [1, 0] rfl rfl
  try dsimp only [rInt] at hS
  refine then_n ?_
  refine cond_b hS rfl (fun hc2 => ?_) (fun hc2 => ?_)
  ·skip
   have hcap : capV v < l.length + 1 := by rw [hwn] at hc2; simp at hc2; omega
   have hw : IntKind.wrap .i64 (IntKind.wrap .i64 ((l.length : Int) + 1) - (i : Int)) = ((l.length + 1 - i : Nat) : Int) := by rw [hwn, wrap_i64 (by omega)]; omega
   refine wp_seq ?_
   refine region_q hS
     (cF rfl (oM .t) r1 trivial
     (cF rfl (oM .t) r1 trivial
     (cF rfl (o_head_row (sz := 1) 1 (.mk Tryd.underlying30 (by kernel_rfl)) .is .t (by omega) (by omega)) r2 r1
     (cF rfl (oM .t) r1 trivial
     (cF rfl (oM .t) r1 trivial
     (cF rfl (o_add .t .t) r2 trivial
     (cF rfl (oM .t) r1 trivial
     (cF rfl (o_sub .t .t) r2 trivial
     (cF rfl (o_append_zeros (R := rInt) (z := (0 : Int)) (bs := 8) (sz := 1) (zs := [.int .i64 0]) 1 101 Tryd.underlying30 Tryd.underlying3 (by kernel_rfl) (by kernel_rfl) (by kernel_rfl) (by intro x; rfl) (fun _ _ => ⟨⟨rfl, rfl, inR0⟩, trivial⟩) .t .t (by omega) (by rw [hw]; omega) (by rw [hw]; omega) (by rw [hw]; omega) (by rw [hw]; omega)) ⟨rfl, rfl, trivial⟩ ⟨rfl, trivial⟩
     (cF rfl (oN .t) r1 trivial
     Chain.nil))))))))))
     hB ?_
   clear hS; intro a w F hS
   replace hS := hS.sub
   obtain ⟨F, hS⟩ := hS.nm [9, 8, 7, 6, 2, 1, 0] [101, 1, 0] rfl rfl
   try dsimp only [RS.sub, SF.sub, CF.sub, csub, Anc.sub, List.map, xC, xN, rInt] at hS
   generalize Act.tau a 40 = v40 at hS
   rw [hw] at hS
   simp only [Int.toNat_natCast] at hS
   obtain ⟨l2, hl2⟩ : ∃ y, y = l.take i ++ List.replicate (l.length + 1 - i) (0 : Int) := ⟨_, rfl⟩
   rw [← hl2] at hS
   have hl2n : l2.length = l.length + 1 := by rw [hl2, List.length_append, List.length_take, List.length_replicate]; omega
   obtain ⟨F, hS⟩ := hS.give 1 0 rfl rfl
   obtain ⟨F, hS⟩ := hS.nm [9, 8, 7, 6, 2, 1, 0] [101, 0] rfl rfl
   refine then_n (wp_seq ?_)
   refine region_q hS
     (cF rfl (oM .t) r1 trivial
     (cF rfl (oM .t) r1 trivial
     (cF rfl (o_sub_row (sz := 1) 101 (.mk Tryd.underlying30 (by kernel_rfl)) .is .t (by omega) (by omega)) r2 r1
     (cF rfl (oM .t) r1 trivial
     (cF rfl (o_copy_sub 101 Tryd.underlying30 (by kernel_rfl) (by intro x; rfl) .t .t (by simp) (by simp; omega)) r2 r1
     Chain.nil)))))
     hB ?_
   clear hS; intro a w F hS
   obtain ⟨F, hS⟩ := hS.nm [9, 8, 7, 6, 2, 1, 0] [101, 0] rfl rfl
   try dsimp only [rInt] at hS
   simp only [Int.toNat_natCast] at hS
   obtain ⟨l3, hl3⟩ : ∃ y, y = l2.take i ++ [x] ++ l2.drop (i + [x].length) := ⟨_, rfl⟩
   rw [← hl3] at hS
   have hl3n : l3.length = l.length + 1 := by rw [hl3, List.length_append, List.length_append, List.length_take, List.length_drop, hl2n]; simp; omega
   refine then_n (wp_seq ?_)
   refine region_any (by kernel_rfl) hS (by kernel_rfl)
     (cF rfl (oM .t) r1 trivial
     (cF rfl (oM .t) r1 trivial
     (cF rfl (oM .t) r1 trivial
     (cF rfl (o_add .t .t) r2 trivial
     (cF rfl (o_sub_row (sz := 1) 101 (.mk Tryd.underlying30 (by kernel_rfl)) .is .t (by rw [hw1]; omega) (by rw [hw1]; omega)) r2 r1
     (cF rfl (oM .t) r1 trivial
     (cF rfl (oM .t) r1 trivial
     (cF rfl (o_slice_lo (sz := 1) (.mk Tryd.underlying30 (by kernel_rfl)) (by intro x; rfl) .t .t (by omega) (by omega)) r2 trivial
     (cF rfl (o_copy_sub 101 Tryd.underlying30 (by kernel_rfl) (by intro x; rfl) .t .t (by intro h9; have := congrArg List.length h9; simp at this; omega) (by rw [hw1, List.length_drop]; omega)) r2 r1
     Chain.nil)))))))))
     (by kernel_rfl) (by rw [hB]; kernel_rfl) ?_
   clear hS; intro a w F hS
   obtain ⟨F, hS⟩ := hS.nm [9, 8, 7, 6, 2, 1, 0] [101, 0] rfl rfl
   try dsimp only [rInt] at hS
   rw [hw1] at hS
   simp only [Int.toNat_natCast] at hS
   have hg := ins_grow (x := x) hil hl2 hl3
   refine then_n (wp_seq ?_)
   refine region_q hS
     (cF rfl (oM .t) r1 trivial
     (cF rfl (oN .t) r1 trivial
     Chain.nil))
     hB ?_
   clear hS; intro a w F hS
   obtain ⟨F, hS⟩ := hS.nm [8, 7, 6, 2, 1, 0] [101, 0] rfl rfl
   try dsimp only [rInt] at hS
   refine then_n (wp_ret (then_r ?_))
   obtain ⟨F, hS⟩ := hS.rename 101 1 rfl rfl
   have hS := hS.turn 1 rfl (r' := RS.hp (rowH 3 1 rInt (l.take i ++ [x] ++ l.drop i) v40)) (fun _ _ _ _ h => by rw [hg]; exact h)
   refine ret_N1 (h' := fun v => rowH 3 1 rInt (l.take i ++ [x] ++ l.drop i) v) hG hS rfl (.tmp rfl .nil) (.one .one) rfl
  have hcap : l.length + 1 ≤ capV v := by rw [hwn] at hc2; simp at hc2; omega
  refine wp_skip (then_n (wp_seq ?_))
  refine region_q hS
    (cF rfl (oM .t) r1 trivial
    (cF rfl (oM .t) r1 trivial
    (cF rfl (oM .t) r1 trivial
    (cF rfl (o_add .t .t) r2 trivial
    (cF rfl (o_grow_row (sz := 1) 1 (.mk Tryd.underlying30 (by kernel_rfl)) .is .t (by rw [hwn]; omega) (by omega)) r2 r1
    (cF rfl (oN .t) r1 trivial
    Chain.nil))))))
    hB ?_
  clear hS; intro a w F hS
  replace hS := hS.sub
  obtain ⟨F, hS⟩ := hS.nm [8, 7, 6, 2, 1, 0] [1, 0] rfl rfl
  try dsimp only [RS.sub, SF.sub, CF.sub, csub, Anc.sub, List.map, rInt] at hS
  generalize Act.tau a 60 = v60 at hS
  refine then_n (wp_seq (wp_seq ?_))
  refine region_q hS
    (cF rfl (oM .t) r1 trivial
    (cF rfl (oM .t) r1 trivial
    (cF rfl (oM .t) r1 trivial
    (cF rfl (oM .t) r1 trivial
    (cF rfl (o_add .t .t) r2 trivial
    (cF rfl (o_sub_rowU (sz := 1) 1 (.mk Tryd.underlying30 (by kernel_rfl)) .is .t (by rw [hw1]; omega) (by rw [hw1]; omega)) r2 r1
    (cF rfl (o_overlaps 1 Tryd.func77 (by kernel_rfl) (by kernel_rfl) (by kernel_rfl) rfl Tryd.underlying30 (by kernel_rfl) (by intro x; rfl) .t .t (by rw [hw1]; omega)) r2 r1
    (cF rfl (o_not .t) r1 trivial
    Chain.nil))))))))
    hB ?_
  clear hS; intro a w F hS
  obtain ⟨F, hS⟩ := hS.nm [68, 8, 7, 6, 2, 1, 0] [1, 0] rfl rfl
  try dsimp only [rInt] at hS
  refine then_n ?_
  refine cond_b hS rfl (fun hc3 => ?_) (fun hc3 => ?_)
  ·skip
   refine wp_seq ?_
   refine region_any (by kernel_rfl) hS (by kernel_rfl)
     (cF rfl (oM .t) r1 trivial
     (cF rfl (oM .t) r1 trivial
     (cF rfl (oM .t) r1 trivial
     (cF rfl (o_add .t .t) r2 trivial
     (cF rfl (o_sub_rowU (sz := 1) 1 (.mk Tryd.underlying30 (by kernel_rfl)) .is .t (by rw [hw1]; omega) (by rw [hw1]; omega)) r2 r1
     (cF rfl (oM .t) r1 trivial
     (cF rfl (oM .t) r1 trivial
     (cF rfl (o_sub_rowU (sz := 1) 1 (.mk Tryd.underlying30 (by kernel_rfl)) .is .t (by omega) (by omega)) r2 r1
     (cF rfl (o_copy_shift (k := i) 1 Tryd.underlying30 (by kernel_rfl) (by intro x; rfl) .t .t (by rw [hw1]; rfl) rfl (by omega)) r2 r1
     Chain.nil)))))))))
     (by kernel_rfl) (by rw [hB]; kernel_rfl) ?_
   clear hS; intro a w F hS
   obtain ⟨F, hS⟩ := hS.nm [8, 7, 6, 2, 1, 0] [1, 0] rfl rfl
   try dsimp only [rInt] at hS
   obtain ⟨l4, hl4⟩ : ∃ y, y = l.take (i + 1) ++ l.drop i := ⟨_, rfl⟩
   rw [← hl4] at hS
   have hl4n : l4.length = l.length + 1 := by rw [hl4, List.length_append, List.length_take, List.length_drop]; omega
   refine then_n (wp_seq ?_)
   refine region_q hS
     (cF rfl (oM .t) r1 trivial
     (cF rfl (oM .t) r1 trivial
     (cF rfl (o_sub_row (sz := 1) 1 (.mk Tryd.underlying30 (by kernel_rfl)) .is .t (by omega) (by omega)) r2 r1
     (cF rfl (oM .t) r1 trivial
     (cF rfl (o_copy_sub 1 Tryd.underlying30 (by kernel_rfl) (by intro x; rfl) .t .t (by simp) (by simp; omega)) r2 r1
     Chain.nil)))))
     hB ?_
   clear hS; intro a w F hS
   obtain ⟨F, hS⟩ := hS.nm [8, 7, 6, 2, 1, 0] [1, 0] rfl rfl
   try dsimp only [rInt] at hS
   simp only [Int.toNat_natCast] at hS
   have hg := ins_place (x := x) hil hl4
   refine then_n (wp_seq ?_)
   refine region_q hS
     (cF rfl (oM .t) r1 trivial
     (cF rfl (oN .t) r1 trivial
     Chain.nil))
     hB ?_
   clear hS; intro a w F hS
   obtain ⟨F, hS⟩ := hS.nm [8, 7, 6, 2, 1, 0] [1, 0] rfl rfl
   try dsimp only [rInt] at hS
   refine then_n (wp_ret (then_r ?_))
   have hS := hS.turn 1 rfl (r' := RS.hp (rowH 3 1 rInt (l.take i ++ [x] ++ l.drop i) v60)) (fun _ _ _ _ h => by rw [hg]; exact h)
   refine ret_N1 (h' := fun v => rowH 3 1 rInt (l.take i ++ [x] ++ l.drop i) v) hG hS rfl (.tmp rfl .nil) (.one .one) rfl
  simp at hc3

theorem wrapU {x : Int} (h : 0 ≤ x ∧ x ≤ 18446744073709551615) : IntKind.wrap .u64 x = x := wrap_id ⟨by simp [IntKind.min, IntKind.signed, IntKind.bits]; omega, by simp [IntKind.max, IntKind.signed, IntKind.bits]; omega⟩
theorem mid_shr {i j : Nat} (h : i + j ≤ 2000000) : IntKind.wrap .i64 ((IntKind.wrap .u64 (IntKind.wrap .i64 ((i : Int) + (j : Int)))).fdiv (2 ^ min (1 : Int).toNat (IntKind.bits .u64))) = (((i + j) / 2 : Nat) : Int) := by
  rw [wrap_i64 (x := (i : Int) + (j : Int)) (by omega), wrapU (by omega), show (2 : Int) ^ min (1 : Int).toNat (IntKind.bits .u64) = 2 by decide, Int.fdiv_eq_ediv_of_nonneg _ (by decide), wrap_i64 (by omega)]
  omega
/-- The rising of keys, and the place of one. -/
def Rise {α : Type} [Inhabited α] (κ : α → Int) (l : List α) : Prop := ∀ a b, a < b → b < l.length → κ (Go.Gm.nth l a) < κ (Go.Gm.nth l b)
def lowK {α : Type} (κ : α → Int) (k : Int) (l : List α) : Nat := (l.takeWhile fun x => decide (κ x < k)).length
theorem lowK_eq {α : Type} [Inhabited α] {κ : α → Int} {k : Int} : ∀ {l : List α} {i : Nat}, i ≤ l.length → (∀ q, q < i → κ (Go.Gm.nth l q) < k) → (∀ q, i ≤ q → q < l.length → k ≤ κ (Go.Gm.nth l q)) → lowK κ k l = i
  | [], i, hi, _, _ => by simp at hi; subst hi; rfl
  | x :: l, 0, _, _, h2 => by
    have := h2 0 (Nat.le_refl _) (by simp)
    rw [nth_eq (by simp)] at this
    unfold lowK
    rw [List.takeWhile_cons_of_neg (by simpa using this)]; rfl
  | x :: l, i + 1, hi, h1, h2 => by
    have hx := h1 0 (by omega)
    rw [nth_eq (by simp)] at hx
    have ih := lowK_eq (κ := κ) (k := k) (l := l) (i := i) (by simpa using hi) (fun q hq => by
      have := h1 (q + 1) (by omega)
      rw [nth_eq (by simp at hi ⊢; omega)] at this
      rw [nth_eq (by simp at hi; omega)]; simpa using this) (fun q hq hq2 => by
      have := h2 (q + 1) (by omega) (by simp; omega)
      rw [nth_eq (by simp; omega)] at this
      rw [nth_eq hq2]; simpa using this)
    unfold lowK at ih ⊢
    rw [List.takeWhile_cons_of_pos (by simpa using hx), List.length_cons, ih]
theorem rise_le {α : Type} [Inhabited α] {κ : α → Int} {l : List α} (hs : Rise κ l) {a b : Nat} (h : a ≤ b) (hb : b < l.length) : κ (Go.Gm.nth l a) ≤ κ (Go.Gm.nth l b) := by
  rcases Nat.lt_or_eq_of_le h with h | h
  · exact Int.le_of_lt (hs a b h hb)
  · subst h; exact Int.le_refl _

theorem isNaNA_c (x : Int) : FnP Tryd.prog 86 [.int .i64 x] (.bool false) := by
  refine FnP.mk Tryd.func86 rfl Tryd.ntmps86 rfl ?_
  intro B a w F hB hfr hS
  refine wp_seq ?_
  refine region_q hS
    (cF rfl (oN .cb) trivial trivial
    Chain.nil)
    hB ?_
  clear hS; intro a w F hS
  obtain ⟨F, hS⟩ := hS.nm [2, 0] [0] rfl rfl
  try dsimp only [rInt] at hS
  refine then_n (wp_seq ?_)
  refine region_q hS
    (cF rfl (oM .t) r1 trivial
    (cF rfl (oM .t) r1 trivial
    (cF rfl (o_neq .t .t) r2 trivial
    (cF rfl (oN .t) r1 trivial
    Chain.nil))))
    hB ?_
  clear hS; intro a w F hS
  obtain ⟨F, hS⟩ := hS.nm [2] [0] rfl rfl
  try dsimp only [rInt] at hS
  refine then_n (wp_ret ?_)
  refine ret_P hfr hS rfl (.tmp rfl .nil) (.one (.bool (by simp)))

theorem isNaNB_c (x : Int) : FnP Tryd.prog 76 [.int .i64 x] (.bool false) := by
  refine FnP.mk Tryd.func76 rfl Tryd.ntmps76 rfl ?_
  intro B a w F hB hfr hS
  refine wp_seq ?_
  refine region_q hS
    (cF rfl (oN .cb) trivial trivial
    Chain.nil)
    hB ?_
  clear hS; intro a w F hS
  obtain ⟨F, hS⟩ := hS.nm [2, 0] [0] rfl rfl
  try dsimp only [rInt] at hS
  refine then_n (wp_seq ?_)
  refine region_q hS
    (cF rfl (oM .t) r1 trivial
    (cF rfl (oM .t) r1 trivial
    (cF rfl (o_neq .t .t) r2 trivial
    (cF rfl (oN .t) r1 trivial
    Chain.nil))))
    hB ?_
  clear hS; intro a w F hS
  obtain ⟨F, hS⟩ := hS.nm [2] [0] rfl rfl
  try dsimp only [rInt] at hS
  refine then_n (wp_ret ?_)
  refine ret_P hfr hS rfl (.tmp rfl .nil) (.one (.bool (by simp)))

theorem lessI_c (x y : Int) : FnP Tryd.prog 75 [.int .i64 x, .int .i64 y] (.bool (decide (x < y))) := by
  refine FnP.mk Tryd.func75 rfl Tryd.ntmps75 rfl ?_
  intro B a w F hB hfr hS
  refine wp_seq ?_
  refine region_q hS
    (cF rfl (oN .cb) trivial trivial
    Chain.nil)
    hB ?_
  clear hS; intro a w F hS
  obtain ⟨F, hS⟩ := hS.nm [4, 1, 0] [0] rfl rfl
  try dsimp only [rInt] at hS
  refine then_n (wp_seq ?_)
  refine region_q hS
    (cF rfl (oM .t) r1 trivial
    (cF rfl (oP (isNaNA_c x) Tryd.func86 (Args.one .t)) r1 trivial
    (cF rfl (oM .t) r1 trivial
    (Chain.cons (Cert.cond rfl rfl (fun h => o_move .t (by rfl))) r2 trivial
    (Chain.cons (Cert.cond rfl rfl (fun h => o_callP (isNaNA_c y) Tryd.func86 rfl (by kernel_rfl) (Args.one (.w h)))) r2 trivial
    (Chain.cons (Cert.cond rfl rfl (fun h => o_not (.w h))) r2 trivial
    (cF rfl (o_and2 .t .t) r2 trivial
    (cF rfl (oM .t) r1 trivial
    (Chain.cons (Cert.cond rfl rfl (fun h => o_move .t (by rfl))) r2 trivial
    (Chain.cons (Cert.cond rfl rfl (fun h => o_move .t (by rfl))) r2 trivial
    (Chain.cons (Cert.cond rfl rfl (fun h => o_lss (.w h) (.w h))) r3 trivial
    (cF rfl (o_or2 .t .t) r2 trivial
    (cF rfl (oN .t) r1 trivial
    Chain.nil)))))))))))))
    hB ?_
  clear hS; intro a w F hS
  obtain ⟨F, hS⟩ := hS.nm [4] [0] rfl rfl
  try dsimp only [rInt] at hS
  refine then_n (wp_ret ?_)
  refine ret_P hfr hS rfl (.tmp rfl .nil) (.one (.bool (by simp)))

theorem bsI_c (l : List Int) (k : Int) (hll : l.length ≤ 1000000) (hs : Rise (fun x : Int => x) l) : FnP Tryd.prog 61 [.sl rInt l, .int .i64 k] (.tup [.int .i64 (lowK (fun x : Int => x) k l), .any]) := by
  refine FnP.mk Tryd.func61 rfl Tryd.ntmps61 rfl ?_
  intro B a w F hB hfr hS
  refine wp_seq ?_
  refine region_q hS
    (cF rfl (oN (.ci (by kernel_rfl))) trivial trivial
    (cF rfl (oN .cb) trivial trivial
    Chain.nil))
    hB ?_
  clear hS; intro a w F hS
  obtain ⟨F, hS⟩ := hS.nm [5, 4, 1, 0] [0] rfl rfl
  try dsimp only [rInt] at hS
  refine then_n (wp_seq ?_)
  refine region_q hS
    (cF rfl (oM .t) r1 trivial
    (cF rfl (o_len_sl Tryd.underlying30 .t) r1 trivial
    (cF rfl (oN .t) r1 trivial
    Chain.nil)))
    hB ?_
  clear hS; intro a w F hS
  obtain ⟨F, hS⟩ := hS.nm [6, 5, 4, 1, 0] [0] rfl rfl
  try dsimp only [rInt] at hS
  refine then_n (wp_seq ?_)
  refine region_q hS
    (cF rfl (oM .t) r1 trivial
    (cF rfl (oN (.ci (by kernel_rfl))) trivial trivial
    (cF rfl (oN .t) r1 trivial
    Chain.nil)))
    hB ?_
  clear hS; intro a w F hS
  obtain ⟨F, hS⟩ := hS.nm [8, 7, 6, 5, 4, 1, 0] [0] rfl rfl
  try dsimp only [rInt] at hS
  refine then_n (wp_seq (wp_block ?_))
  refine loop_keep (σ := Nat × Nat) [0, 1, 4, 5, 6] [0] (fun s => [(7, .pv (.int .i64 (s.1 : Int))), (8, .pv (.int .i64 (s.2 : Int)))]) (fun s => []) (fun s => s.1 ≤ s.2 ∧ s.2 ≤ l.length ∧ (∀ q, q < s.1 → Go.Gm.nth l q < k) ∧ ∀ q, s.2 ≤ q → q < l.length → k ≤ Go.Gm.nth l q) (fun s => s.2 - s.1) ((0), (l.length)) hS ⟨rfl, rfl, rfl, rfl, rfl, rfl, rfl, trivial⟩ ⟨rfl, trivial⟩ ⟨Nat.zero_le _, Nat.le_refl _, fun q hq => absurd hq (Nat.not_lt_zero q), fun q h1 h2 => by omega⟩ ?_
  clear hS; intro s a w F hC hS
  obtain ⟨i, j⟩ := s
  try dsimp only at hC
  obtain ⟨F, hS⟩ := hS.nm [8, 7, 6, 5, 4, 1, 0] [0] rfl rfl
  try dsimp only at hS
  obtain ⟨hij, hjl, hlo, hhi⟩ := hC
  have hgl := lowK_eq (κ := fun x : Int => x) (i := i) (by omega) hlo
  refine wp_seq (wp_seq ?_)
  refine region_q hS
    (cF rfl (oM .t) r1 trivial
    (cF rfl (oM .t) r1 trivial
    (cF rfl (o_lss .t .t) r2 trivial
    Chain.nil)))
    hB ?_
  clear hS; intro a w F hS
  obtain ⟨F, hS⟩ := hS.nm [15, 14, 13, 8, 7, 6, 5, 4, 1, 0] [0] rfl rfl
  try dsimp only [rInt] at hS
  refine then_n ?_
  refine cond_b hS rfl (fun hc0 => ?_) (fun hc0 => ?_)
  ·skip
   have hlt : i < j := by simp at hc0; omega
   refine wp_skip (then_n (wp_block (wp_seq ?_)))
   refine region_q hS
     (cF rfl (oM .t) r1 trivial
     (cF rfl (oM .t) r1 trivial
     (cF rfl (o_add .t .t) r2 trivial
     (cF rfl (o_conv Tryd.underlying103 (by kernel_rfl) .t) r1 trivial
     (cF rfl (o_shr .t (.ci (by kernel_rfl)) (by decide)) r1 trivial
     (cF rfl (o_conv Tryd.underlying3 (by kernel_rfl) .t) r1 trivial
     (cF rfl (oN .t) r1 trivial
     Chain.nil)))))))
     hB ?_
   clear hS; intro a w F hS
   obtain ⟨F, hS⟩ := hS.nm [21, 20, 19, 18, 17, 16, 15, 14, 13, 9, 8, 7, 6, 5, 4, 1, 0] [0] rfl rfl
   try dsimp only [rInt] at hS
   obtain ⟨m, hm⟩ : ∃ m : Nat, m = (i + j) / 2 := ⟨_, rfl⟩
   replace hS := hS.ent (i := 9) (s' := .pv (.int .i64 (m : Int))) rfl (.int (by rw [hm]; exact mid_shr (by omega)))
   obtain ⟨F, hS⟩ := hS.nm [21, 20, 19, 18, 17, 16, 15, 14, 13, 9, 8, 7, 6, 5, 4, 1, 0] [0] rfl rfl
   refine then_n (wp_seq ?_)
   refine region_q hS
     (cF rfl (oM .t) r1 trivial
     (cF rfl (oM .t) r1 trivial
     (cF rfl (o_indexAddr_sl (sz := 1) (.mk Tryd.underlying30 (by kernel_rfl)) (by intro x; rfl) .t .t (by omega) (by omega)) r2 trivial
     (cF rfl (oR false 1 .t) r1 trivial
     (cF rfl (oM .t) r1 trivial
     (cF rfl (oP (lessI_c (Go.Gm.nth l m) k) Tryd.func75 (Args.two .t .t)) r2 trivial
     Chain.nil))))))
     hB ?_
   clear hS; intro a w F hS
   obtain ⟨F, hS⟩ := hS.nm [27, 26, 25, 24, 23, 22, 21, 20, 19, 18, 17, 16, 15, 14, 13, 9, 8, 7, 6, 5, 4, 1, 0] [0] rfl rfl
   try dsimp only [List.map, xD, xE, xT, xU, ldSF, rInt] at hS
   try simp only [Int.toNat_natCast] at hS
   refine then_n ?_
   refine cond_b hS rfl (fun hc1 => ?_) (fun hc1 => ?_)
   ·skip
    have hmk : (Go.Gm.nth l m) < k := by simpa using hc1
    obtain ⟨i2, hi2e⟩ : ∃ z, z = m + 1 := ⟨_, rfl⟩
    obtain ⟨j2, hj2e⟩ : ∃ z, z = j := ⟨_, rfl⟩
    have hi2 : IntKind.wrap .i64 ((m : Int) + 1) = (i2 : Int) := by rw [hi2e]; exact wrap_succ (by omega)
    have hj2 : (j : Int) = (j2 : Int) := by rw [hj2e]
    have hmu : j2 - i2 < j - i := by omega
    have hC2 : i2 ≤ j2 ∧ j2 ≤ l.length ∧ (∀ q, q < i2 → Go.Gm.nth l q < k) ∧ ∀ q, j2 ≤ q → q < l.length → k ≤ Go.Gm.nth l q := ⟨by omega, by omega, fun q hq => Int.lt_of_le_of_lt (rise_le (κ := fun x : Int => x) hs (by omega) (by omega)) hmk, by rw [hj2e]; exact hhi⟩
    refine region_q hS
      (cF rfl (oM .t) r1 trivial
      (cF rfl (o_add .t (.ci (by kernel_rfl))) r1 trivial
      (cF rfl (oN .t) r1 trivial
      Chain.nil)))
      hB ?_
    clear hS; intro a w F hS
    obtain ⟨F, hS⟩ := hS.nm [29, 28, 27, 26, 25, 24, 23, 22, 21, 20, 19, 18, 17, 16, 15, 14, 13, 9, 8, 7, 6, 5, 4, 1, 0] [0] rfl rfl
    try dsimp only [rInt] at hS
    refine block_n (then_n ?_)
    replace hS := hS.ent (i := 7) (s' := .pv (.int .i64 (i2 : Int))) rfl (.int hi2)
    replace hS := hS.ent (i := 8) (s' := .pv (.int .i64 (j2 : Int))) rfl (.int hj2)
    obtain ⟨F, hS⟩ := hS.nm [6, 5, 4, 1, 0, 8, 7] [0] rfl rfl
    exact ⟨((i2), (j2)), F, hC2, hS, hmu⟩
   have hmk : k ≤ (Go.Gm.nth l m) := Int.not_lt.1 (show ¬ (Go.Gm.nth l m) < k by simpa using hc1)
   obtain ⟨i2, hi2e⟩ : ∃ z, z = i := ⟨_, rfl⟩
   obtain ⟨j2, hj2e⟩ : ∃ z, z = m := ⟨_, rfl⟩
   have hi2 : (i : Int) = (i2 : Int) := by rw [hi2e]
   have hj2 : (m : Int) = (j2 : Int) := by rw [hj2e]
   have hmu : j2 - i2 < j - i := by omega
   have hC2 : i2 ≤ j2 ∧ j2 ≤ l.length ∧ (∀ q, q < i2 → Go.Gm.nth l q < k) ∧ ∀ q, j2 ≤ q → q < l.length → k ≤ Go.Gm.nth l q := ⟨by omega, by omega, by rw [hi2e]; exact hlo, fun q h1 h2 => Int.le_trans hmk (rise_le (κ := fun x : Int => x) hs (by omega) h2)⟩
   refine region_q hS
     (cF rfl (oM .t) r1 trivial
     (cF rfl (oN .t) r1 trivial
     Chain.nil))
     hB ?_
   clear hS; intro a w F hS
   obtain ⟨F, hS⟩ := hS.nm [30, 27, 26, 25, 24, 23, 22, 21, 20, 19, 18, 17, 16, 15, 14, 13, 9, 8, 7, 6, 5, 4, 1, 0] [0] rfl rfl
   try dsimp only [rInt] at hS
   refine block_n (then_n ?_)
   replace hS := hS.ent (i := 7) (s' := .pv (.int .i64 (i2 : Int))) rfl (.int hi2)
   replace hS := hS.ent (i := 8) (s' := .pv (.int .i64 (j2 : Int))) rfl (.int hj2)
   obtain ⟨F, hS⟩ := hS.nm [6, 5, 4, 1, 0, 8, 7] [0] rfl rfl
   exact ⟨((i2), (j2)), F, hC2, hS, hmu⟩
  have hjj : i = j := by simp at hc0; omega
  subst hjj
  have hgl2 := hgl hhi
  refine wp_exit (then_x (then_x (block_x (then_n (wp_seq ?_)))))
  refine region_q hS
    (cF rfl (oM .t) r1 trivial
    (cF rfl (oM .t) r1 trivial
    (cF rfl (oM .t) r1 trivial
    (cF rfl (o_lss .t .t) r2 trivial
    (cF rfl (oM .t) r1 trivial
    (Chain.cons (Cert.cond rfl rfl (fun h => o_move .t (by rfl))) r2 trivial
    (Chain.cons (Cert.cond rfl rfl (fun h => o_move .t (by rfl))) r2 trivial
    (Chain.cons (Cert.cond rfl rfl (fun h => o_indexAddr_sl (sz := 1) (.mk Tryd.underlying30 (by kernel_rfl)) (by intro x; rfl) (.w h) (.w h) (by omega) (by have := of_decide_eq_true h; omega))) r3 trivial
    (Chain.cons (Cert.cond rfl rfl (fun h => o_load_ref (ag := false) (sz := 1) (.w h) (by kernel_rfl) (by kernel_rfl) (by kernel_rfl))) r2 trivial
    (Chain.cons (Cert.cond rfl rfl (fun h => o_move .t (by rfl))) r2 trivial
    (Chain.cons (Cert.cond rfl rfl (fun h => o_eql (.w h) (.w h))) r3 trivial
    (Chain.cons (Cert.cond rfl rfl (fun h => o_move (.w h) (by rfl))) r2 trivial
    (Chain.cons (Cert.cond2 rfl rfl (fun h => o_move .t (by rfl))) r2 trivial
    (Chain.cons (Cert.cond2 rfl rfl (fun h => o_move .t (by rfl))) r2 trivial
    (Chain.cons (Cert.cond2 rfl rfl (fun h => o_indexAddr_sl (sz := 1) (.mk Tryd.underlying30 (by kernel_rfl)) (by intro x; rfl) (.w h) (.w h) (by omega) (by have := of_decide_eq_true h.1; omega))) r3 trivial
    (Chain.cons (Cert.cond2 rfl rfl (fun h => o_load_ref (ag := false) (sz := 1) (.w h) (by kernel_rfl) (by kernel_rfl) (by kernel_rfl))) r2 trivial
    (Chain.cons (Cert.cond2 rfl rfl (fun h => o_callP (isNaNB_c _) Tryd.func76 rfl (by kernel_rfl) (Args.one (.w h)))) r2 trivial
    (Chain.cons (Cert.cond2 rfl rfl (fun h => o_move (.w h) (by rfl))) r2 trivial
    (Chain.cons (Cert.cond2 rfl rfl (fun h => o_move .t (by rfl))) r2 trivial
    (Chain.cons (Cert.cond2 rfl rfl (fun h => o_callP (isNaNB_c _) Tryd.func76 rfl (by kernel_rfl) (Args.one (.w h)))) r2 trivial
    (Chain.cons (Cert.cond2 rfl rfl (fun h => o_and2 (.w h) (.wc h))) r3 trivial
    (Chain.cons (Cert.cond rfl rfl (fun h => o_or2 (.w h) (.wc h))) r3 trivial
    (cF rfl (o_and2 .t .t) r2 trivial
    (cF rfl (oN .t) r1 trivial
    (cF rfl (oN .t) r1 trivial
    Chain.nil)))))))))))))))))))))))))
    hB ?_
  clear hS; intro a w F hS
  obtain ⟨F, hS⟩ := hS.nm [5, 4] [0] rfl rfl
  try dsimp only [List.map, xD, xE, xT, xU, ldSF, rInt] at hS
  try simp only [Int.toNat_natCast] at hS
  refine then_n (wp_ret ?_)
  refine ret_P hfr hS rfl (.tmp rfl (.tmp rfl .nil)) (.two (.int (by rw [hgl2])) .any)

end Go.Proofs.YtpahapjcdldodaaDoor
