/- A builder with room. No condition beyond those that each theorem says. -/
import Derived.Test.YtjdcnjemhjldoaaDoorLx3
namespace Go.Proofs.YtjdcnjemhjldoaaDoor
open Go Go.Gm
set_option linter.unusedVariables false
set_option linter.unusedSimpArgs false
set_option maxHeartbeats 4000000
set_option maxRecDepth 8000


def bZ (v ad : Value) : HP := .star [.pt (.val v) 87 [.pv (.is ad), .pv (.is (.slice none 0 0))], .ob (.val (.slice none 0 0)) (rowH 5 1 rC [])]
def bW (v : Value) (l : List UInt8) : HP := .ex fun rv => .star [.pt (.val v) 87 [.pv (.is v), .pv (.is rv)], .ob (.val rv) (rowH 5 1 rC l)]
def sumL (l : List (List UInt8)) : Nat := (l.map List.length).sum
theorem sum_take (l : List (List UInt8)) (i : Nat) (h : i < l.length) : sumL (l.take (i + 1)) = sumL (l.take i) + (nth l i).length := by
  unfold sumL
  rw [List.take_succ_eq_append_getElem h, nth_eq h]
  simp only [List.map_append, List.sum_append, List.map_cons, List.map_nil, List.sum_cons, List.sum_nil, Nat.add_zero]
theorem sum_le (l : List (List UInt8)) (i : Nat) : sumL (l.take i) ≤ sumL l := by
  conv => rhs; rw [← List.take_append_drop i l]
  unfold sumL
  rw [List.map_append, List.sum_append]
  omega
theorem len_le {l : List (List UInt8)} {i : Nat} (h : i < l.length) : (nth l i).length ≤ sumL l := by
  have h1 := sum_take l i h
  have h2 := sum_le l (i + 1)
  omega
theorem join_len : ∀ l : List (List UInt8), (joinL l).length ≤ sumL l + l.length
  | [] => by simp [joinL]
  | [x] => by simp [joinL, sumL]
  | x :: y :: r => by
    have := join_len (y :: r)
    simp [joinL, sumL] at this ⊢
    omega
theorem join_snoc : ∀ (l : List (List UInt8)) (x : List UInt8), l ≠ [] → joinL (l ++ [x]) = joinL l ++ [32] ++ x
  | [], x, h => absurd rfl h
  | [a], x, _ => by simp [joinL]
  | a :: b :: r, x, _ => by
    have := join_snoc (b :: r) x (by simp)
    simp only [List.cons_append] at this ⊢
    rw [joinL, this, joinL]
    simp
theorem join_take {l : List (List UInt8)} {i : Nat} (h : i + 1 < l.length) : joinL (l.take (i + 2)) = joinL (l.take (i + 1)) ++ [32] ++ nth (l.drop 1) i := by
  rw [show i + 2 = (i + 1) + 1 from rfl, List.take_succ_eq_append_getElem h, join_snoc _ _ (by intro e; have := congrArg List.length e; rw [List.length_take, List.length_nil] at this; omega)]
  congr 1
  rw [nth_eq (by simp; omega)]
  simp [Nat.add_comm]
theorem quo_big {k : Int} (h : 1 ≤ k) (h2 : k ≤ 1000000) : 2 ≤ IntKind.wrap .i64 (Int.tdiv 9223372036854775807 k) := by
  rw [Int.tdiv_eq_ediv_of_nonneg (by decide)]
  have h3 : 9223372036854 ≤ (9223372036854775807 : Int) / k := (Int.le_ediv_iff_mul_le (by omega)).2 (by omega)
  have h4 : (9223372036854775807 : Int) / k ≤ 9223372036854775807 := Int.ediv_le_self _ (by decide)
  rw [wrap_i64 (by omega)]
  omega

theorem copyZ (b : Nat) : FnG Tryd.prog 62 1 [.is (.pointer (some ⟨b, 0, none⟩))] [bZ (.pointer (some ⟨b, 0, none⟩)) (.pointer none)] (.any) (fun _ => [bZ (.pointer (some ⟨b, 0, none⟩)) (.pointer (some ⟨b, 0, none⟩))]) := by
  refine FnG.mk Tryd.func62 rfl Tryd.ntmps62 rfl (by kernel_rfl) ?_
  intro B F0 a w F hB hG hS
  obtain ⟨F, hS⟩ := hS.peel 1 2 rfl rfl
  obtain ⟨F, hS⟩ := hS.peel 1 3 rfl rfl
  obtain ⟨F, hS⟩ := hS.norm [(0, _)] [(0, _), (2, _), (3, _)] r1 r3
  refine wp_seq ?_
  refine region_seq hS (by kernel_rfl)
    (cF rfl (o_move .t (by rfl)) r1 trivial
    (cF rfl (o_nilCheck 2 .is (by rfl)) r1 r1
    (cF rfl (o_fieldAddr (off := 0) 2 .adr (by kernel_rfl) (by rfl)) r1 r1
    (cF rfl (o_load (ag := false) (sz := 1) 2 .adr (by kernel_rfl) (by kernel_rfl) (by kernel_rfl) (by rfl)) r1 r1
    (cF rfl (o_nil_eql _ Tryd.underlying85 rfl .t) r1 trivial
    Chain.nil)))))
    (by kernel_rfl) (by rw [hB]; kernel_rfl) ?_
  clear hS; intro a w F hS
  obtain ⟨F, hS⟩ := hS.norm [(0, _), (6, _)] [(0, _), (2, _), (3, _)] r2 r3
  try dsimp only [List.map, List.drop_succ_cons, List.drop_zero, List.drop_nil, List.take_succ_cons, List.take_zero, List.take_nil, ldSF] at hS
  refine then_n ?_
  refine cond_b hS rfl (fun hc0 => ?_) (fun hc0 => ?_)
  ·skip
   refine region_seq hS (by kernel_rfl)
     (cF rfl (o_move .t (by rfl)) r1 trivial
     (cF rfl (o_move .t (by rfl)) r1 trivial
     (cF rfl (o_conv_unsafe 2 Tryd.underlying85 Tryd.underlying115 (by kernel_rfl) (by kernel_rfl) .t) r1 r1
     (cF rfl (o_noEscape Tryd.func73 (by kernel_rfl) (by kernel_rfl) (by kernel_rfl) (by kernel_rfl) .t) r1 trivial
     (cF rfl (o_conv_safe 2 Tryd.underlying115 Tryd.underlying85 (by kernel_rfl) (by kernel_rfl) .t) r1 r1
     (cF rfl (o_nilCheck 2 .is (by rfl)) r1 r1
     (cF rfl (o_fieldAddr (off := 0) 2 .adr (by kernel_rfl) (by rfl)) r1 r1
     (cF rfl (o_store1 2 .adr .t one_is (by kernel_rfl) (by kernel_rfl)) r2 r1
     Chain.nil))))))))
     (by kernel_rfl) (by rw [hB]; kernel_rfl) ?_
   clear hS; intro a w F hS
   obtain ⟨F, hS⟩ := hS.norm [] [(0, _), (2, _), (3, _)] trivial r3
   try dsimp only [List.map, stCells, List.length_cons, List.length_nil, Nat.reduceAdd, List.drop_succ_cons, List.drop_zero, List.drop_nil, List.take_succ_cons, List.take_zero, List.take_nil, List.cons_append, List.nil_append, zCF] at hS
   have hS := hS.fresh 1 rfl
   obtain ⟨F, hS⟩ := hS.push 1 3 rfl rfl rfl (by kernel_rfl)
   obtain ⟨F, hS⟩ := hS.push 1 2 rfl rfl rfl (by kernel_rfl)
   have hS := hS.turn 1 rfl (r' := RS.hp (bZ (.pointer (some ⟨b, 0, none⟩)) (.pointer (some ⟨b, 0, none⟩)))) (fun _ _ _ _ h => h)
   refine ret_G1 hG hS rfl .nil Tells.any rfl
  ·skip
   simp at hc0

theorem copyW (b : Nat) (l : List UInt8) : FnG Tryd.prog 62 1 [.is (.pointer (some ⟨b, 0, none⟩))] [bW (.pointer (some ⟨b, 0, none⟩)) l] (.any) (fun _ => [bW (.pointer (some ⟨b, 0, none⟩)) l]) := by
  refine FnG.mk Tryd.func62 rfl Tryd.ntmps62 rfl (by kernel_rfl) ?_
  intro B F0 a w F hB hG hS
  obtain ⟨rv, hS⟩ := hS.open_ex 1 rfl
  obtain ⟨F, hS⟩ := hS.peel 1 2 rfl rfl
  obtain ⟨F, hS⟩ := hS.peel 1 3 rfl rfl
  obtain ⟨F, hS⟩ := hS.norm [(0, _)] [(0, _), (2, _), (3, _)] r1 r3
  refine wp_seq ?_
  refine region_seq hS (by kernel_rfl)
    (cF rfl (o_move .t (by rfl)) r1 trivial
    (cF rfl (o_nilCheck 2 .is (by rfl)) r1 r1
    (cF rfl (o_fieldAddr (off := 0) 2 .adr (by kernel_rfl) (by rfl)) r1 r1
    (cF rfl (o_load (ag := false) (sz := 1) 2 .adr (by kernel_rfl) (by kernel_rfl) (by kernel_rfl) (by rfl)) r1 r1
    (cF rfl (o_nil_eql _ Tryd.underlying85 rfl .t) r1 trivial
    Chain.nil)))))
    (by kernel_rfl) (by rw [hB]; kernel_rfl) ?_
  clear hS; intro a w F hS
  obtain ⟨F, hS⟩ := hS.norm [(0, _), (6, _)] [(0, _), (2, _), (3, _)] r2 r3
  try dsimp only [List.map, List.drop_succ_cons, List.drop_zero, List.drop_nil, List.take_succ_cons, List.take_zero, List.take_nil, ldSF] at hS
  refine then_n ?_
  refine cond_b hS rfl (fun hc0 => ?_) (fun hc0 => ?_)
  ·skip
   simp at hc0
  ·skip
   refine wp_seq ?_
   refine region_seq hS (by kernel_rfl)
     (cF rfl (o_move .t (by rfl)) r1 trivial
     (cF rfl (o_nilCheck 2 .is (by rfl)) r1 r1
     (cF rfl (o_fieldAddr (off := 0) 2 .adr (by kernel_rfl) (by rfl)) r1 r1
     (cF rfl (o_load (ag := false) (sz := 1) 2 .adr (by kernel_rfl) (by kernel_rfl) (by kernel_rfl) (by rfl)) r1 r1
     (cF rfl (o_move .t (by rfl)) r1 trivial
     (cF rfl (o_neq_same Tryd.underlying85 (by kernel_rfl) .t .t) r2 trivial
     Chain.nil))))))
     (by kernel_rfl) (by rw [hB]; kernel_rfl) ?_
   clear hS; intro a w F hS
   obtain ⟨F, hS⟩ := hS.norm [(19, _)] [(0, _), (2, _), (3, _)] r1 r3
   try dsimp only [List.map, List.drop_succ_cons, List.drop_zero, List.drop_nil, List.take_succ_cons, List.take_zero, List.take_nil, ldSF] at hS
   refine then_n ?_
   refine cond_b hS rfl (fun hc1 => ?_) (fun hc1 => ?_)
   ·skip
    simp at hc1
   ·skip
    refine wp_skip ?_
    have hS := hS.fresh 1 rfl
    obtain ⟨F, hS⟩ := hS.push 1 3 rfl rfl rfl (by kernel_rfl)
    obtain ⟨F, hS⟩ := hS.push 1 2 rfl rfl rfl (by kernel_rfl)
    have hS := hS.turn 1 rfl (r' := RS.hp (bW (.pointer (some ⟨b, 0, none⟩)) l)) (fun _ _ _ _ h => ⟨_, h⟩)
    refine ret_G1 hG hS rfl .nil Tells.any rfl

theorem writeW (b : Nat) (l x : List UInt8) (hl : l.length ≤ 1000000000) (hx : x.length ≤ 1000000000) : FnG Tryd.prog 50 1 [.is (.pointer (some ⟨b, 0, none⟩)), .bs x] [bW (.pointer (some ⟨b, 0, none⟩)) l] (.any) (fun _ => [bW (.pointer (some ⟨b, 0, none⟩)) (l ++ x)]) := by
  refine FnG.mk Tryd.func50 rfl Tryd.ntmps50 rfl (by kernel_rfl) ?_
  intro B F0 a w F hB hG hS
  refine wp_seq ?_
  refine region_seq hS (by kernel_rfl)
    (cF rfl (o_assign (.ci (by kernel_rfl)) (by rfl)) trivial trivial
    (cF rfl (o_assign (.c rfl) (by rfl)) trivial trivial
    Chain.nil))
    (by kernel_rfl) (by rw [hB]; kernel_rfl) ?_
  clear hS; intro a w F hS
  obtain ⟨F, hS⟩ := hS.norm [(0, _), (1, _), (4, _), (5, _)] [(0, _), (1, _)] r4 r2
  refine then_n ?_
  refine wp_seq ?_
  refine region_seq hS (by kernel_rfl)
    (cF rfl (o_move .t (by rfl)) r1 trivial
    (cF rfl (o_callG1 1 (copyW b l) Tryd.func62 rfl (by kernel_rfl) (Args.one .t)) r1 r1
    Chain.nil))
    (by kernel_rfl) (by rw [hB]; kernel_rfl) ?_
  clear hS; intro a w F hS
  obtain ⟨F, hS⟩ := hS.norm [(0, _), (1, _), (4, _), (5, _)] [(0, _), (1, _)] r4 r2
  obtain ⟨rv, hS⟩ := hS.open_ex 1 rfl
  obtain ⟨F, hS⟩ := hS.peel 1 2 rfl rfl
  obtain ⟨F, hS⟩ := hS.peel 1 3 rfl rfl
  obtain ⟨F, hS⟩ := hS.norm [(0, _), (1, _), (4, _), (5, _)] [(0, _), (2, _), (3, _)] r4 r3
  refine then_n ?_
  refine wp_seq ?_
  refine region_seq hS (by kernel_rfl)
    (cF rfl (o_move .t (by rfl)) r1 trivial
    (cF rfl (o_move .t (by rfl)) r1 trivial
    (cF rfl (o_nilCheck 2 .is (by rfl)) r1 r1
    (cF rfl (o_fieldAddr (off := 1) 2 .adr (by kernel_rfl) (by rfl)) r1 r1
    (cF rfl (o_load (ag := false) (sz := 1) 2 .adr (by kernel_rfl) (by kernel_rfl) (by kernel_rfl) (by rfl)) r1 r1
    (cF rfl (o_move .t (by rfl)) r1 trivial
    (cF rfl (o_append_str 3 Tryd.underlying51 Tryd.underlying9 (by kernel_rfl) .is .t (by omega)) ⟨rfl, rfl, trivial⟩ ⟨rfl, trivial⟩
    (cF rfl (o_nilCheck 2 .is (by rfl)) r1 r1
    (cF rfl (o_fieldAddr (off := 1) 2 .adr (by kernel_rfl) (by rfl)) r1 r1
    (cF rfl (o_storeS 2 .adr (by kernel_rfl) (by kernel_rfl)) r2 r1
    Chain.nil))))))))))
    (by kernel_rfl) (by rw [hB]; kernel_rfl) ?_
  clear hS; intro a w F hS
  replace hS := hS.sub
  obtain ⟨F, hS⟩ := hS.norm [(1, _), (4, _), (5, _)] [(0, _), (2, _), (3, _)] r3 r3
  try dsimp only [RS.sub, SF.sub, CF.sub, csub, Anc.sub, List.map, stCells, List.length_cons, List.length_nil, Nat.reduceAdd, List.drop_succ_cons, List.drop_zero, List.drop_nil, List.take_succ_cons, List.take_zero, List.take_nil, List.cons_append, List.nil_append, zCF, ldSF] at hS
  generalize Act.tau a 14 = v14 at hS
  refine then_n ?_
  refine wp_seq ?_
  refine region_seq hS (by kernel_rfl)
    (cF rfl (o_move .t (by rfl)) r1 trivial
    (cF rfl (o_len_bs Tryd.underlying9 .t) r1 trivial
    (cF rfl (o_assign .t (by rfl)) r1 trivial
    (cF rfl (o_assign (.c rfl) (by rfl)) trivial trivial
    Chain.nil))))
    (by kernel_rfl) (by rw [hB]; kernel_rfl) ?_
  clear hS; intro a w F hS
  obtain ⟨F, hS⟩ := hS.norm [(4, _), (5, _)] [(0, _), (2, _), (3, _)] r2 r3
  refine then_n ?_
  refine wp_ret ?_
  have hS := hS.fresh 1 rfl
  obtain ⟨F, hS⟩ := hS.push 1 3 rfl rfl rfl (by kernel_rfl)
  obtain ⟨F, hS⟩ := hS.push 1 2 rfl rfl rfl (by kernel_rfl)
  have hS := hS.turn 1 rfl (r' := RS.hp (bW (.pointer (some ⟨b, 0, none⟩)) (l ++ x))) (fun _ _ _ _ h => ⟨_, h⟩)
  refine ret_G1 hG hS rfl (.tmp rfl (.tmp rfl .nil)) Tells.any rfl

theorem stringW (b : Nat) (l : List UInt8) (hne : l ≠ []) : FnG Tryd.prog 51 1 [.is (.pointer (some ⟨b, 0, none⟩))] [bW (.pointer (some ⟨b, 0, none⟩)) l] (.bs l) (fun _ => [HP.star []]) := by
  refine FnG.mk Tryd.func51 rfl Tryd.ntmps51 rfl (by kernel_rfl) ?_
  intro B F0 a w F hB hG hS
  obtain ⟨rv, hS⟩ := hS.open_ex 1 rfl
  obtain ⟨F, hS⟩ := hS.peel 1 2 rfl rfl
  obtain ⟨F, hS⟩ := hS.peel 1 3 rfl rfl
  obtain ⟨F, hS⟩ := hS.norm [(0, _)] [(0, _), (2, _), (3, _)] r1 r3
  refine wp_seq ?_
  refine region_seq hS (by kernel_rfl)
    (cF rfl (o_assign (.cs (by kernel_rfl)) (by rfl)) trivial trivial
    Chain.nil)
    (by kernel_rfl) (by rw [hB]; kernel_rfl) ?_
  clear hS; intro a w F hS
  obtain ⟨F, hS⟩ := hS.norm [(0, _), (2, _)] [(0, _), (2, _), (3, _)] r2 r3
  refine then_n ?_
  refine wp_seq ?_
  refine region_any (by kernel_rfl) hS (by kernel_rfl)
    (cF rfl (o_move .t (by rfl)) r1 trivial
    (cF rfl (o_nilCheck 2 .is (by rfl)) r1 r1
    (cF rfl (o_fieldAddr (off := 1) 2 .adr (by kernel_rfl) (by rfl)) r1 r1
    (cF rfl (o_load (ag := false) (sz := 1) 2 .adr (by kernel_rfl) (by kernel_rfl) (by kernel_rfl) (by rfl)) r1 r1
    (cF rfl (o_sliceData 3 hne .is (by rfl)) r1 r1
    (cF rfl (o_move .t (by rfl)) r1 trivial
    (cF rfl (o_nilCheck 2 .is (by rfl)) r1 r1
    (cF rfl (o_fieldAddr (off := 1) 2 .adr (by kernel_rfl) (by rfl)) r1 r1
    (cF rfl (o_load (ag := false) (sz := 1) 2 .adr (by kernel_rfl) (by kernel_rfl) (by kernel_rfl) (by rfl)) r1 r1
    (cF rfl (o_len_row 3 Tryd.underlying51 .is) r1 r1
    (cF rfl (o_unsafeString 3 Tryd.underlying104 (by kernel_rfl) hne .t) r2 r1
    (cF rfl (o_assign .t (by rfl)) r1 trivial
    Chain.nil))))))))))))
    (by kernel_rfl) (by rw [hB]; kernel_rfl) ?_
  clear hS; intro a w F hS
  obtain ⟨F, hS⟩ := hS.norm [(2, _)] [(0, _), (2, _), (3, _)] r1 r3
  try dsimp only [List.map, List.drop_succ_cons, List.drop_zero, List.drop_nil, List.take_succ_cons, List.take_zero, List.take_nil, ldSF] at hS
  refine then_n ?_
  refine wp_ret ?_
  have hS := hS.fresh 1 rfl
  refine ret_G1 (h' := HP.star []) hG hS rfl (.tmp rfl .nil) (.one .refl) rfl

theorem growW (b : Nat) (n : Int) (h0 : 1 ≤ n) (h1 : n ≤ 1000000000) : FnG Tryd.prog 74 1 [.is (.pointer (some ⟨b, 0, none⟩)), .int .i64 n] [bZ (.pointer (some ⟨b, 0, none⟩)) (.pointer (some ⟨b, 0, none⟩))] (.any) (fun _ => [bW (.pointer (some ⟨b, 0, none⟩)) []]) := by
  refine FnG.mk Tryd.func74 rfl Tryd.ntmps74 rfl (by kernel_rfl) ?_
  intro B F0 a w F hB hG hS
  have hw : IntKind.wrap .i64 (IntKind.wrap .i64 (2 * 0) + n) = n := by rw [show IntKind.wrap .i64 (2 * 0) = 0 from rfl, Int.zero_add]; exact wrap_i64 (by omega)
  obtain ⟨F, hS⟩ := hS.peel 1 2 rfl rfl
  obtain ⟨F, hS⟩ := hS.peel 1 3 rfl rfl
  obtain ⟨F, hS⟩ := hS.norm [(0, _), (1, _)] [(0, _), (2, _), (3, _)] r2 r3
  refine wp_seq ?_
  refine region_any (by kernel_rfl) hS (by kernel_rfl)
    (cF rfl (o_move .t (by rfl)) r1 trivial
    (cF rfl (o_nilCheck 2 .is (by rfl)) r1 r1
    (cF rfl (o_fieldAddr (off := 1) 2 .adr (by kernel_rfl) (by rfl)) r1 r1
    (cF rfl (o_load (ag := false) (sz := 1) 2 .adr (by kernel_rfl) (by kernel_rfl) (by kernel_rfl) (by rfl)) r1 r1
    (cF rfl (o_cap_nil Tryd.underlying51 .t) r1 trivial
    (cF rfl (o_mul (.ci (by kernel_rfl)) .t) r1 trivial
    (cF rfl (o_move .t (by rfl)) r1 trivial
    (cF rfl (o_add .t .t) r2 trivial
    (cF rfl (o_makeNoZero 101 Tryd.func86 (by kernel_rfl) (by kernel_rfl) (by kernel_rfl) rfl Tryd.underlying51 .t (by rw [hw]; omega) (by rw [hw]; omega)) r1 trivial
    (cF rfl (o_move .t (by rfl)) r1 trivial
    (cF rfl (o_nilCheck 2 .is (by rfl)) r1 r1
    (cF rfl (o_fieldAddr (off := 1) 2 .adr (by kernel_rfl) (by rfl)) r1 r1
    (cF rfl (o_load (ag := false) (sz := 1) 2 .adr (by kernel_rfl) (by kernel_rfl) (by kernel_rfl) (by rfl)) r1 r1
    (cF rfl (o_len_row 3 Tryd.underlying51 .is) r1 r1
    (cF rfl (o_cut_row (sz := 1) 101 (.mk Tryd.underlying51 (by kernel_rfl)) (by intro x; rfl) .same .t (by decide) (by simp; omega)) r2 r1
    (cF rfl (o_assign .t (by rfl)) r1 trivial
    Chain.nil))))))))))))))))
    (by kernel_rfl) (by rw [hB]; kernel_rfl) ?_
  clear hS; intro a w F hS
  replace hS := hS.sub
  obtain ⟨F, hS⟩ := hS.norm [(0, _), (4, _)] [(0, _), (2, _), (3, _), (101, _)] r2 r4
  try dsimp only [RS.sub, SF.sub, CF.sub, csub, Anc.sub, List.map, List.drop_succ_cons, List.drop_zero, List.drop_nil, List.take_succ_cons, List.take_zero, List.take_nil, ldSF] at hS
  generalize Act.tau a 19 = v19 at hS
  replace hS := hS.turn 101 rfl (r' := RS.ob (.val v19) (rowH 5 1 rC [])) (fun τ w f y h => row_none (R := rAny) τ w f y (by simpa using h))
  refine then_n ?_
  refine wp_seq ?_
  refine region_seq hS (by kernel_rfl)
    (cF rfl (o_move .t (by rfl)) r1 trivial
    (cF rfl (o_move .t (by rfl)) r1 trivial
    (cF rfl (o_nilCheck 2 .is (by rfl)) r1 r1
    (cF rfl (o_fieldAddr (off := 1) 2 .adr (by kernel_rfl) (by rfl)) r1 r1
    (cF rfl (o_load (ag := false) (sz := 1) 2 .adr (by kernel_rfl) (by kernel_rfl) (by kernel_rfl) (by rfl)) r1 r1
    (cF rfl (o_copy0 101 Tryd.underlying51 (by kernel_rfl) .is .t) r2 r1
    Chain.nil))))))
    (by kernel_rfl) (by rw [hB]; kernel_rfl) ?_
  clear hS; intro a w F hS
  obtain ⟨F, hS⟩ := hS.norm [(0, _), (4, _)] [(0, _), (2, _), (3, _), (101, _)] r2 r4
  try dsimp only [List.map, List.drop_succ_cons, List.drop_zero, List.drop_nil, List.take_succ_cons, List.take_zero, List.take_nil, ldSF] at hS
  refine then_n ?_
  refine region_seq hS (by kernel_rfl)
    (cF rfl (o_move .t (by rfl)) r1 trivial
    (cF rfl (o_move .t (by rfl)) r1 trivial
    (cF rfl (o_nilCheck 2 .is (by rfl)) r1 r1
    (cF rfl (o_fieldAddr (off := 1) 2 .adr (by kernel_rfl) (by rfl)) r1 r1
    (cF rfl (o_store1 2 .adr .t one_is (by kernel_rfl) (by kernel_rfl)) r2 r1
    Chain.nil)))))
    (by kernel_rfl) (by rw [hB]; kernel_rfl) ?_
  clear hS; intro a w F hS
  obtain ⟨F, hS⟩ := hS.norm [] [(0, _), (2, _), (3, _), (101, _)] trivial r4
  try dsimp only [List.map, stCells, List.length_cons, List.length_nil, Nat.reduceAdd, List.drop_succ_cons, List.drop_zero, List.drop_nil, List.take_succ_cons, List.take_zero, List.take_nil, List.cons_append, List.nil_append, zCF] at hS
  have hS := hS.fresh 1 rfl
  obtain ⟨F, hS⟩ := hS.push 1 101 rfl rfl rfl (by kernel_rfl)
  obtain ⟨F, hS⟩ := hS.push 1 2 rfl rfl rfl (by kernel_rfl)
  have hS := hS.turn 1 rfl (r' := RS.hp (bW (.pointer (some ⟨b, 0, none⟩)) [])) (fun _ _ _ _ h => ⟨_, h⟩)
  refine ret_G1 hG hS rfl .nil Tells.any rfl

theorem roomW (b : Nat) (n : Int) (h0 : 1 ≤ n) (h1 : n ≤ 1000000000) : FnG Tryd.prog 63 1 [.is (.pointer (some ⟨b, 0, none⟩)), .int .i64 n] [bZ (.pointer (some ⟨b, 0, none⟩)) (.pointer none)] (.any) (fun _ => [bW (.pointer (some ⟨b, 0, none⟩)) []]) := by
  refine FnG.mk Tryd.func63 rfl Tryd.ntmps63 rfl (by kernel_rfl) ?_
  intro B F0 a w F hB hG hS
  refine wp_seq ?_
  refine region_seq hS (by kernel_rfl)
    (cF rfl (o_move .t (by rfl)) r1 trivial
    (cF rfl (o_callG1 1 (copyZ b) Tryd.func62 rfl (by kernel_rfl) (Args.one .t)) r1 r1
    Chain.nil))
    (by kernel_rfl) (by rw [hB]; kernel_rfl) ?_
  clear hS; intro a w F hS
  obtain ⟨F, hS⟩ := hS.norm [(0, _), (1, _)] [(0, _), (1, _)] r2 r2
  obtain ⟨F, hS⟩ := hS.peel 1 2 rfl rfl
  obtain ⟨F, hS⟩ := hS.peel 1 3 rfl rfl
  obtain ⟨F, hS⟩ := hS.norm [(0, _), (1, _)] [(0, _), (2, _), (3, _)] r2 r3
  refine then_n ?_
  refine wp_seq ?_
  refine wp_seq ?_
  refine region_seq hS (by kernel_rfl)
    (cF rfl (o_move .t (by rfl)) r1 trivial
    (cF rfl (o_lss .t (.ci (by kernel_rfl))) r1 trivial
    Chain.nil))
    (by kernel_rfl) (by rw [hB]; kernel_rfl) ?_
  clear hS; intro a w F hS
  obtain ⟨F, hS⟩ := hS.norm [(0, _), (1, _), (7, _)] [(0, _), (2, _), (3, _)] r3 r3
  refine then_n ?_
  refine cond_b hS rfl (fun hc0 => ?_) (fun hc0 => ?_)
  ·skip
   simp at hc0; omega
  ·skip
   refine wp_skip ?_
   refine then_n ?_
   refine wp_seq ?_
   refine region_any (by kernel_rfl) hS (by kernel_rfl)
     (cF rfl (o_move .t (by rfl)) r1 trivial
     (cF rfl (o_nilCheck 2 .is (by rfl)) r1 r1
     (cF rfl (o_fieldAddr (off := 1) 2 .adr (by kernel_rfl) (by rfl)) r1 r1
     (cF rfl (o_load (ag := false) (sz := 1) 2 .adr (by kernel_rfl) (by kernel_rfl) (by kernel_rfl) (by rfl)) r1 r1
     (cF rfl (o_cap_nil Tryd.underlying51 .t) r1 trivial
     (cF rfl (o_move .t (by rfl)) r1 trivial
     (cF rfl (o_nilCheck 2 .is (by rfl)) r1 r1
     (cF rfl (o_fieldAddr (off := 1) 2 .adr (by kernel_rfl) (by rfl)) r1 r1
     (cF rfl (o_load (ag := false) (sz := 1) 2 .adr (by kernel_rfl) (by kernel_rfl) (by kernel_rfl) (by rfl)) r1 r1
     (cF rfl (o_len_row 3 Tryd.underlying51 .is) r1 r1
     (cF rfl (o_sub .t .t) r2 trivial
     (cF rfl (o_move .t (by rfl)) r1 trivial
     (cF rfl (o_lss .t .t) r2 trivial
     Chain.nil)))))))))))))
     (by kernel_rfl) (by rw [hB]; kernel_rfl) ?_
   clear hS; intro a w F hS
   obtain ⟨F, hS⟩ := hS.norm [(0, _), (1, _), (21, _)] [(0, _), (2, _), (3, _)] r3 r3
   try dsimp only [List.map, List.drop_succ_cons, List.drop_zero, List.drop_nil, List.take_succ_cons, List.take_zero, List.take_nil, ldSF] at hS
   refine then_n ?_
   refine cond_b hS rfl (fun hc1 => ?_) (fun hc1 => ?_)
   ·skip
    replace hS := hS.fresh 1 rfl
    obtain ⟨F, hS⟩ := hS.push 1 3 rfl rfl rfl (by kernel_rfl)
    obtain ⟨F, hS⟩ := hS.push 1 2 rfl rfl rfl (by kernel_rfl)
    replace hS := hS.turn 1 rfl (r' := RS.hp (bZ (.pointer (some ⟨b, 0, none⟩)) (.pointer (some ⟨b, 0, none⟩)))) (fun _ _ _ _ h => h)
    obtain ⟨F, hS⟩ := hS.norm [(0, _), (1, _), (21, _)] [(0, _), (1, _)] r3 r2
    refine region_seq hS (by kernel_rfl)
      (cF rfl (o_move .t (by rfl)) r1 trivial
      (cF rfl (o_move .t (by rfl)) r1 trivial
      (cF rfl (o_callG1 1 (growW b n h0 h1) Tryd.func74 rfl (by kernel_rfl) (Args.two .t .t)) r2 r1
      Chain.nil)))
      (by kernel_rfl) (by rw [hB]; kernel_rfl) ?_
    clear hS; intro a w F hS
    obtain ⟨F, hS⟩ := hS.norm [] [(0, _), (1, _)] trivial r2
    refine ret_G1 hG hS rfl .nil Tells.any rfl
   ·skip
    have h9 : ¬ (0 : Int) < n := of_decide_eq_false hc1
    omega

end Go.Proofs.YtjdcnjemhjldoaaDoor
