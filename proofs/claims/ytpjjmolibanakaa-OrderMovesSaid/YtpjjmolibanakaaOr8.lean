/- Orders: lives. No condition beyond those that each theorem says. -/
import Derived.Test.YtpjjmolibanakaaOr7
namespace Go.Proofs.Ytpjjmolibanakaa
open Go Go.Gm
set_option linter.unusedVariables false
set_option linter.unusedSimpArgs false
set_option maxHeartbeats 4000000
set_option maxRecDepth 8000


theorem idx_nth {l : List Int} (h : l.Nodup) {i : Nat} (hi : i < l.length) : idxL (Go.Gm.nth l i) l = i := idxL_at hi rfl fun k hk e => by
  rw [nth_eq hi, nth_eq (by omega)] at e
  exact List.pairwise_iff_getElem.1 h k i (by omega) hi hk e
/-- The one before place i. -/
def atO (l : List Int) : Nat → Int
  | 0 => 0
  | i + 1 => Go.Gm.nth l i
theorem RightO.nth {l : List Int} (h : RightO l) {i : Nat} (hi : i < l.length) : Go.Gm.nth l i ≠ 0 := by
  have := (h.1 _ (nth_mem hi)).1
  omega
theorem nextO_at {l : List Int} (h : RightO l) {i : Nat} (hi : i < l.length) : nextO l (atO l i) = (Go.Gm.nth l i, true) := by
  cases i with
  | zero =>
    have : ¬ ((l.length : Int) ≤ -1 + 1) := by omega
    unfold nextO atO
    rw [if_neg (by simp), if_pos rfl, if_neg this]; rfl
  | succ j =>
    have hx := idx_nth h.2 (i := j) (by omega)
    have h0 := h.nth (i := j) (by omega)
    show nextO l (Go.Gm.nth l j) = _
    unfold nextO
    rw [hx, if_neg (by omega), if_neg h0, if_neg (by omega)]
    rw [show ((j : Int) + 1).toNat = j + 1 by omega]
theorem nextO_end {l : List Int} (h : RightO l) {i : Nat} (hi : i = l.length) : nextO l (atO l i) = (0, false) := by
  cases i with
  | zero =>
    unfold nextO atO
    rw [if_neg (by simp), if_pos rfl, if_pos (by omega)]
  | succ j =>
    have hx := idx_nth h.2 (i := j) (by omega)
    have h0 := h.nth (i := j) (by omega)
    show nextO l (Go.Gm.nth l j) = _
    unfold nextO
    rw [hx, if_neg (by omega), if_neg h0, if_pos (by omega)]
theorem prevO_at {l : List Int} (h : RightO l) {i : Nat} (hi : i < l.length) : prevO l (Go.Gm.nth l i) = (atO l i, !decide (i = 0)) := by
  unfold prevO
  rw [idx_nth h.2 hi]
  cases i with
  | zero => rfl
  | succ j => rw [if_neg (by omega), show (((j + 1 : Nat) : Int) - 1).toNat = j by omega]; rfl
theorem atO_zero {l : List Int} (h : RightO l) {i : Nat} (hi : i < l.length) : atO l i = 0 ↔ i = 0 := by
  cases i with
  | zero => simp [atO]
  | succ j => simp [atO, h.nth (i := j) (by omega)]

theorem lives11_c  : FnP Try.prog 16 [] (.bool true) := by
  refine FnP.mk Try.func16 rfl Try.ntmps16 rfl ?_
  intro B a w F hB hfr hS
  refine wp_seq ?_
  refine region_seq hS (by kernel_rfl)
    (cF rfl (o_assign .cb (by rfl)) trivial trivial
    Chain.nil)
    (by kernel_rfl) (by rw [hB]; kernel_rfl) ?_
  clear hS; intro a w F hS
  obtain ⟨F, hS⟩ := hS.norm [(0, _)] [(0, _)] r1 r1
  try dsimp only [rInt, rPair] at hS
  refine then_n ?_
  refine wp_seq ?_
  refine region_seq hS (by kernel_rfl)
    (cF rfl (o_buildSliceE (sz := 1) (zs := [.int .i64 0]) (r := [(0, _), (1, _), (2, _)]) (l := [_, _, _]) Try.underlying30 (by kernel_rfl) (by kernel_rfl) (by kernel_rfl) (by kernel_rfl) rfl rfl (.one rfl (.ci (by kernel_rfl)) one_int (by kernel_rfl) (.one rfl (.ci (by kernel_rfl)) one_int (by kernel_rfl) (.one rfl (.ci (by kernel_rfl)) one_int (by kernel_rfl) .nil))) rfl) trivial trivial
    (cF rfl (o_assign .t (by rfl)) r1 trivial
    Chain.nil))
    (by kernel_rfl) (by rw [hB]; kernel_rfl) ?_
  clear hS; intro a w F hS
  obtain ⟨F, hS⟩ := hS.norm [(0, _), (1, _)] [(0, _)] r2 r1
  try dsimp only [List.map, stCells, List.length_cons, List.length_nil, Nat.reduceAdd, List.drop_succ_cons, List.drop_zero, List.drop_nil, List.take_succ_cons, List.take_zero, List.take_nil, List.cons_append, List.nil_append, zCF, rInt, rPair] at hS
  refine then_n ?_
  refine wp_seq ?_
  refine region_seq hS (by kernel_rfl)
    (cF rfl (o_move .t (by rfl)) r1 trivial
    (cF rfl (o_callP (onext_c [(1), (2), (3)] (0)) Try.func17 rfl (by kernel_rfl) (Args.two (.conv .t (Ent.arrSl (R := rInt) (l := [(1), (2), (3)]) rfl)) (.ci (by kernel_rfl)))) r1 trivial
    (cF rfl (o_move .t (by rfl)) r1 trivial
    (cF rfl (o_extract .t rfl) r1 trivial
    (cF rfl (o_extract .t rfl) r1 trivial
    (cF rfl (o_assign .t (by rfl)) r1 trivial
    (cF rfl (o_assign .t (by rfl)) r1 trivial
    Chain.nil)))))))
    (by kernel_rfl) (by rw [hB]; kernel_rfl) ?_
  clear hS; intro a w F hS
  obtain ⟨F, hS⟩ := hS.norm [(0, _), (1, _), (2, _), (3, _)] [(0, _)] r4 r1
  try dsimp only [rInt, rPair] at hS
  refine then_n ?_
  refine wp_seq ?_
  refine region_seq hS (by kernel_rfl)
    (cF rfl (o_move .t (by rfl)) r1 trivial
    (cF rfl (o_callP (onext_c [(1), (2), (3)] (2)) Try.func17 rfl (by kernel_rfl) (Args.two (.conv .t (Ent.arrSl (R := rInt) (l := [(1), (2), (3)]) rfl)) (.ci (by kernel_rfl)))) r1 trivial
    (cF rfl (o_move .t (by rfl)) r1 trivial
    (cF rfl (o_extract .t rfl) r1 trivial
    (cF rfl (o_extract .t rfl) r1 trivial
    (cF rfl (o_assign .t (by rfl)) r1 trivial
    (cF rfl (o_assign .t (by rfl)) r1 trivial
    Chain.nil)))))))
    (by kernel_rfl) (by rw [hB]; kernel_rfl) ?_
  clear hS; intro a w F hS
  obtain ⟨F, hS⟩ := hS.norm [(0, _), (1, _), (2, _), (3, _), (4, _), (5, _)] [(0, _)] r6 r1
  try dsimp only [rInt, rPair] at hS
  refine then_n ?_
  refine wp_seq ?_
  refine region_seq hS (by kernel_rfl)
    (cF rfl (o_move .t (by rfl)) r1 trivial
    (cF rfl (o_callP (onext_c [(1), (2), (3)] (3)) Try.func17 rfl (by kernel_rfl) (Args.two (.conv .t (Ent.arrSl (R := rInt) (l := [(1), (2), (3)]) rfl)) (.ci (by kernel_rfl)))) r1 trivial
    (cF rfl (o_move .t (by rfl)) r1 trivial
    (cF rfl (o_extract .t rfl) r1 trivial
    (cF rfl (o_extract .t rfl) r1 trivial
    (cF rfl (o_assign .t (by rfl)) r1 trivial
    (cF rfl (o_assign .t (by rfl)) r1 trivial
    Chain.nil)))))))
    (by kernel_rfl) (by rw [hB]; kernel_rfl) ?_
  clear hS; intro a w F hS
  obtain ⟨F, hS⟩ := hS.norm [(0, _), (1, _), (2, _), (3, _), (4, _), (5, _), (7, _)] [(0, _)] r7 r1
  try dsimp only [rInt, rPair] at hS
  refine then_n ?_
  refine wp_seq ?_
  refine region_seq hS (by kernel_rfl)
    (cF rfl (o_move .t (by rfl)) r1 trivial
    (cF rfl (o_callP (onext_c [(1), (2), (3)] (9)) Try.func17 rfl (by kernel_rfl) (Args.two (.conv .t (Ent.arrSl (R := rInt) (l := [(1), (2), (3)]) rfl)) (.ci (by kernel_rfl)))) r1 trivial
    (cF rfl (o_move .t (by rfl)) r1 trivial
    (cF rfl (o_extract .t rfl) r1 trivial
    (cF rfl (o_extract .t rfl) r1 trivial
    (cF rfl (o_assign .t (by rfl)) r1 trivial
    (cF rfl (o_assign .t (by rfl)) r1 trivial
    Chain.nil)))))))
    (by kernel_rfl) (by rw [hB]; kernel_rfl) ?_
  clear hS; intro a w F hS
  obtain ⟨F, hS⟩ := hS.norm [(0, _), (1, _), (2, _), (3, _), (4, _), (5, _), (7, _), (9, _)] [(0, _)] r8 r1
  try dsimp only [rInt, rPair] at hS
  refine then_n ?_
  refine wp_seq ?_
  refine region_seq hS (by kernel_rfl)
    (cF rfl (o_move .t (by rfl)) r1 trivial
    (cF rfl (o_callP (oprev_c [(1), (2), (3)] (2)) Try.func19 rfl (by kernel_rfl) (Args.two (.conv .t (Ent.arrSl (R := rInt) (l := [(1), (2), (3)]) rfl)) (.ci (by kernel_rfl)))) r1 trivial
    (cF rfl (o_move .t (by rfl)) r1 trivial
    (cF rfl (o_extract .t rfl) r1 trivial
    (cF rfl (o_extract .t rfl) r1 trivial
    (cF rfl (o_assign .t (by rfl)) r1 trivial
    (cF rfl (o_assign .t (by rfl)) r1 trivial
    Chain.nil)))))))
    (by kernel_rfl) (by rw [hB]; kernel_rfl) ?_
  clear hS; intro a w F hS
  obtain ⟨F, hS⟩ := hS.norm [(0, _), (1, _), (2, _), (3, _), (4, _), (5, _), (7, _), (9, _), (10, _), (11, _)] [(0, _)] ⟨rfl, rfl, rfl, rfl, rfl, rfl, rfl, rfl, rfl, rfl, trivial⟩ r1
  try dsimp only [rInt, rPair] at hS
  refine then_n ?_
  refine wp_seq ?_
  refine region_seq hS (by kernel_rfl)
    (cF rfl (o_move .t (by rfl)) r1 trivial
    (cF rfl (o_callP (oprev_c [(1), (2), (3)] (1)) Try.func19 rfl (by kernel_rfl) (Args.two (.conv .t (Ent.arrSl (R := rInt) (l := [(1), (2), (3)]) rfl)) (.ci (by kernel_rfl)))) r1 trivial
    (cF rfl (o_move .t (by rfl)) r1 trivial
    (cF rfl (o_extract .t rfl) r1 trivial
    (cF rfl (o_extract .t rfl) r1 trivial
    (cF rfl (o_assign .t (by rfl)) r1 trivial
    (cF rfl (o_assign .t (by rfl)) r1 trivial
    Chain.nil)))))))
    (by kernel_rfl) (by rw [hB]; kernel_rfl) ?_
  clear hS; intro a w F hS
  obtain ⟨F, hS⟩ := hS.norm [(0, _), (1, _), (2, _), (3, _), (4, _), (5, _), (7, _), (9, _), (10, _), (11, _), (13, _)] [(0, _)] ⟨rfl, rfl, rfl, rfl, rfl, rfl, rfl, rfl, rfl, rfl, rfl, trivial⟩ r1
  try dsimp only [rInt, rPair] at hS
  refine then_n ?_
  refine wp_seq ?_
  refine region_seq hS (by kernel_rfl)
    (cF rfl (o_move .t (by rfl)) r1 trivial
    (cF rfl (o_callP (omove_c [(1), (2), (3)] (3) (0) (by decide)) Try.func21 rfl (by kernel_rfl) (Args.three (.conv .t (Ent.arrSl (R := rInt) (l := [(1), (2), (3)]) rfl)) (.ci (by kernel_rfl)) (.ci (by kernel_rfl)))) r1 trivial
    (cF rfl (o_move .t (by rfl)) r1 trivial
    (cF rfl (o_extract .t rfl) r1 trivial
    (cF rfl (o_extract .t rfl) r1 trivial
    (cF rfl (o_assign .t (by rfl)) r1 trivial
    (cF rfl (o_assign .t (by rfl)) r1 trivial
    Chain.nil)))))))
    (by kernel_rfl) (by rw [hB]; kernel_rfl) ?_
  clear hS; intro a w F hS
  obtain ⟨F, hS⟩ := hS.norm [(0, _), (1, _), (2, _), (3, _), (4, _), (5, _), (7, _), (9, _), (10, _), (11, _), (13, _), (14, _), (15, _)] [(0, _)] ⟨rfl, rfl, rfl, rfl, rfl, rfl, rfl, rfl, rfl, rfl, rfl, rfl, rfl, trivial⟩ r1
  try dsimp only [rInt, rPair] at hS
  refine then_n ?_
  refine wp_seq ?_
  refine region_seq hS (by kernel_rfl)
    (cF rfl (o_move .t (by rfl)) r1 trivial
    (cF rfl (o_callP (omove_c [(1), (2), (3)] (9) (0) (by decide)) Try.func21 rfl (by kernel_rfl) (Args.three (.conv .t (Ent.arrSl (R := rInt) (l := [(1), (2), (3)]) rfl)) (.ci (by kernel_rfl)) (.ci (by kernel_rfl)))) r1 trivial
    (cF rfl (o_move .t (by rfl)) r1 trivial
    (cF rfl (o_extract .t rfl) r1 trivial
    (cF rfl (o_extract .t rfl) r1 trivial
    (cF rfl (o_assign .t (by rfl)) r1 trivial
    (cF rfl (o_assign .t (by rfl)) r1 trivial
    Chain.nil)))))))
    (by kernel_rfl) (by rw [hB]; kernel_rfl) ?_
  clear hS; intro a w F hS
  obtain ⟨F, hS⟩ := hS.norm [(0, _), (1, _), (2, _), (3, _), (4, _), (5, _), (7, _), (9, _), (10, _), (11, _), (13, _), (14, _), (15, _), (17, _)] [(0, _)] ⟨rfl, rfl, rfl, rfl, rfl, rfl, rfl, rfl, rfl, rfl, rfl, rfl, rfl, rfl, trivial⟩ r1
  try dsimp only [rInt, rPair] at hS
  refine then_n ?_
  refine wp_seq ?_
  refine region_seq hS (by kernel_rfl)
    (cF rfl (o_move .t (by rfl)) r1 trivial
    (cF rfl (o_callP (omove_c [(1), (2), (3)] (3) (3) (by decide)) Try.func21 rfl (by kernel_rfl) (Args.three (.conv .t (Ent.arrSl (R := rInt) (l := [(1), (2), (3)]) rfl)) (.ci (by kernel_rfl)) (.ci (by kernel_rfl)))) r1 trivial
    (cF rfl (o_move .t (by rfl)) r1 trivial
    (cF rfl (o_extract .t rfl) r1 trivial
    (cF rfl (o_extract .t rfl) r1 trivial
    (cF rfl (o_assign .t (by rfl)) r1 trivial
    (cF rfl (o_assign .t (by rfl)) r1 trivial
    Chain.nil)))))))
    (by kernel_rfl) (by rw [hB]; kernel_rfl) ?_
  clear hS; intro a w F hS
  obtain ⟨F, hS⟩ := hS.norm [(0, _), (1, _), (2, _), (3, _), (4, _), (5, _), (7, _), (9, _), (10, _), (11, _), (13, _), (14, _), (15, _), (17, _), (19, _)] [(0, _)] ⟨rfl, rfl, rfl, rfl, rfl, rfl, rfl, rfl, rfl, rfl, rfl, rfl, rfl, rfl, rfl, trivial⟩ r1
  try dsimp only [rInt, rPair] at hS
  refine then_n ?_
  refine wp_seq ?_
  refine region_seq hS (by kernel_rfl)
    (cF rfl (o_move .t (by rfl)) r1 trivial
    (cF rfl (o_buildSliceE (sz := 1) (zs := [.int .i64 0]) (r := [(0, _), (1, _), (2, _)]) (l := [_, _, _]) Try.underlying30 (by kernel_rfl) (by kernel_rfl) (by kernel_rfl) (by kernel_rfl) rfl rfl (.one rfl (.ci (by kernel_rfl)) one_int (by kernel_rfl) (.one rfl (.ci (by kernel_rfl)) one_int (by kernel_rfl) (.one rfl (.ci (by kernel_rfl)) one_int (by kernel_rfl) .nil))) rfl) trivial trivial
    (cF rfl (o_callP (osteps_c [(1), (2), (3)] [(3), (1), (2)] (by decide) (by decide)) Try.func23 rfl (by kernel_rfl) (Args.two (.conv .t (Ent.arrSl (R := rInt) (l := [(1), (2), (3)]) rfl)) (.conv .t (Ent.arrSl (R := rInt) (l := [(3), (1), (2)]) rfl)))) r2 trivial
    (cF rfl (o_move .t (by rfl)) r1 trivial
    (cF rfl (o_extract .t rfl) r1 trivial
    (cF rfl (o_extract .t rfl) r1 trivial
    (cF rfl (o_assign .t (by rfl)) r1 trivial
    (cF rfl (o_assign .t (by rfl)) r1 trivial
    Chain.nil))))))))
    (by kernel_rfl) (by rw [hB]; kernel_rfl) ?_
  clear hS; intro a w F hS
  obtain ⟨F, hS⟩ := hS.norm [(0, _), (1, _), (2, _), (3, _), (4, _), (5, _), (7, _), (9, _), (10, _), (11, _), (13, _), (14, _), (15, _), (17, _), (19, _), (20, _), (21, _)] [(0, _)] ⟨rfl, rfl, rfl, rfl, rfl, rfl, rfl, rfl, rfl, rfl, rfl, rfl, rfl, rfl, rfl, rfl, rfl, trivial⟩ r1
  try dsimp only [List.map, stCells, List.length_cons, List.length_nil, Nat.reduceAdd, List.drop_succ_cons, List.drop_zero, List.drop_nil, List.take_succ_cons, List.take_zero, List.take_nil, List.cons_append, List.nil_append, zCF, rInt, rPair] at hS
  refine then_n ?_
  refine wp_seq ?_
  refine region_seq hS (by kernel_rfl)
    (cF rfl (o_move .t (by rfl)) r1 trivial
    (cF rfl (o_buildSliceE (sz := 1) (zs := [.int .i64 0]) (r := [(0, _), (1, _)]) (l := [_, _]) Try.underlying30 (by kernel_rfl) (by kernel_rfl) (by kernel_rfl) (by kernel_rfl) rfl rfl (.one rfl (.ci (by kernel_rfl)) one_int (by kernel_rfl) (.one rfl (.ci (by kernel_rfl)) one_int (by kernel_rfl) .nil)) rfl) trivial trivial
    (cF rfl (o_callP (osteps_c [(1), (2), (3)] [(1), (2)] (by decide) (by decide)) Try.func23 rfl (by kernel_rfl) (Args.two (.conv .t (Ent.arrSl (R := rInt) (l := [(1), (2), (3)]) rfl)) (.conv .t (Ent.arrSl (R := rInt) (l := [(1), (2)]) rfl)))) r2 trivial
    (cF rfl (o_move .t (by rfl)) r1 trivial
    (cF rfl (o_extract .t rfl) r1 trivial
    (cF rfl (o_extract .t rfl) r1 trivial
    (cF rfl (o_assign .t (by rfl)) r1 trivial
    (cF rfl (o_assign .t (by rfl)) r1 trivial
    Chain.nil))))))))
    (by kernel_rfl) (by rw [hB]; kernel_rfl) ?_
  clear hS; intro a w F hS
  obtain ⟨F, hS⟩ := hS.norm [(0, _), (1, _), (2, _), (3, _), (4, _), (5, _), (7, _), (9, _), (10, _), (11, _), (13, _), (14, _), (15, _), (17, _), (19, _), (20, _), (21, _), (23, _)] [(0, _)] ⟨rfl, rfl, rfl, rfl, rfl, rfl, rfl, rfl, rfl, rfl, rfl, rfl, rfl, rfl, rfl, rfl, rfl, rfl, trivial⟩ r1
  try dsimp only [List.map, stCells, List.length_cons, List.length_nil, Nat.reduceAdd, List.drop_succ_cons, List.drop_zero, List.drop_nil, List.take_succ_cons, List.take_zero, List.take_nil, List.cons_append, List.nil_append, zCF, rInt, rPair] at hS
  refine then_n ?_
  refine wp_seq ?_
  refine region_seq hS (by kernel_rfl)
    (cF rfl (o_move .t (by rfl)) r1 trivial
    (cF rfl (o_move .t (by rfl)) r1 trivial
    (cF rfl (o_callP (osteps_c [(1), (2), (3)] [(1), (2), (3)] (by decide) (by decide)) Try.func23 rfl (by kernel_rfl) (Args.two (.conv .t (Ent.arrSl (R := rInt) (l := [(1), (2), (3)]) rfl)) (.conv .t (Ent.arrSl (R := rInt) (l := [(1), (2), (3)]) rfl)))) r2 trivial
    (cF rfl (o_move .t (by rfl)) r1 trivial
    (cF rfl (o_extract .t rfl) r1 trivial
    (cF rfl (o_extract .t rfl) r1 trivial
    (cF rfl (o_assign .t (by rfl)) r1 trivial
    (cF rfl (o_assign .t (by rfl)) r1 trivial
    Chain.nil))))))))
    (by kernel_rfl) (by rw [hB]; kernel_rfl) ?_
  clear hS; intro a w F hS
  obtain ⟨F, hS⟩ := hS.norm [(0, _), (1, _), (2, _), (3, _), (4, _), (5, _), (7, _), (9, _), (10, _), (11, _), (13, _), (14, _), (15, _), (17, _), (19, _), (20, _), (21, _), (23, _), (24, _), (25, _)] [(0, _)] ⟨rfl, rfl, rfl, rfl, rfl, rfl, rfl, rfl, rfl, rfl, rfl, rfl, rfl, rfl, rfl, rfl, rfl, rfl, rfl, rfl, trivial⟩ r1
  try dsimp only [rInt, rPair] at hS
  refine then_n ?_
  refine wp_seq ?_
  refine region_seqN hS (by kernel_rfl)
    (cG rfl (o_move .t (by rfl)) r1 trivial
    (cG rfl (o_eql .t (.ci (by kernel_rfl))) r1 trivial
    (cG rfl (o_move .t (by rfl)) r1 trivial
    (ChainN.cons (Cert.cond rfl rfl (fun h => o_move .t (by rfl))) r2 trivial
    (cG rfl (o_and2 .t .t) r2 trivial
    (cG rfl (o_move .t (by rfl)) r1 trivial
    (ChainN.cons (Cert.cond rfl rfl (fun h => o_move .t (by rfl))) r2 trivial
    (ChainN.cons (Cert.cond rfl rfl (fun h => o_eql (.w h) (.ci (by kernel_rfl)))) r2 trivial
    (cG rfl (o_and2 .t .t) r2 trivial
    (cG rfl (o_move .t (by rfl)) r1 trivial
    (ChainN.cons (Cert.cond rfl rfl (fun h => o_move .t (by rfl))) r2 trivial
    (cG rfl (o_and2 .t .t) r2 trivial
    (cG rfl (o_move .t (by rfl)) r1 trivial
    (ChainN.cons (Cert.cond rfl rfl (fun h => o_move .t (by rfl))) r2 trivial
    (ChainN.cons (Cert.cond rfl rfl (fun h => o_not (.w h))) r2 trivial
    (cG rfl (o_and2 .t .t) r2 trivial
    (cG rfl (o_move .t (by rfl)) r1 trivial
    (ChainN.cons (Cert.cond rfl rfl (fun h => o_move .t (by rfl))) r2 trivial
    (ChainN.cons (Cert.cond rfl rfl (fun h => o_not (.w h))) r2 trivial
    (cG rfl (o_and2 .t .t) r2 trivial
    (cG rfl (o_move .t (by rfl)) r1 trivial
    (ChainN.cons (Cert.cond rfl rfl (fun h => o_move .t (by rfl))) r2 trivial
    (ChainN.cons (Cert.cond rfl rfl (fun h => o_eql (.w h) (.ci (by kernel_rfl)))) r2 trivial
    (cG rfl (o_and2 .t .t) r2 trivial
    (ChainN.norm [(0, _), (1, _), (11, _), (13, _), (14, _), (15, _), (17, _), (19, _), (20, _), (21, _), (23, _), (24, _), (25, _), (113, _)] [(0, _)] ⟨rfl, rfl, rfl, rfl, rfl, rfl, rfl, rfl, rfl, rfl, rfl, rfl, rfl, rfl, trivial⟩ r1
    (cG rfl (o_move .t (by rfl)) r1 trivial
    (ChainN.cons (Cert.cond rfl rfl (fun h => o_move .t (by rfl))) r2 trivial
    (cG rfl (o_and2 .t .t) r2 trivial
    (cG rfl (o_move .t (by rfl)) r1 trivial
    (ChainN.cons (Cert.cond rfl rfl (fun h => o_move .t (by rfl))) r2 trivial
    (ChainN.cons (Cert.cond rfl rfl (fun h => o_not (.w h))) r2 trivial
    (cG rfl (o_and2 .t .t) r2 trivial
    (cG rfl (o_move .t (by rfl)) r1 trivial
    (ChainN.cons (Cert.cond rfl rfl (fun h => o_move .t (by rfl))) r2 trivial
    (ChainN.cons (Cert.cond rfl rfl (fun h => o_eql (.w h) (.ci (by kernel_rfl)))) r2 trivial
    (cG rfl (o_and2 .t .t) r2 trivial
    (cG rfl (o_move .t (by rfl)) r1 trivial
    (ChainN.cons (Cert.cond rfl rfl (fun h => o_move .t (by rfl))) r2 trivial
    (ChainN.cons (Cert.cond rfl rfl (fun h => o_buildSliceE (sz := 1) (zs := [.int .i64 0]) (r := [(0, _), (1, _), (2, _)]) (l := [_, _, _]) Try.underlying30 (by kernel_rfl) (by kernel_rfl) (by kernel_rfl) (by kernel_rfl) rfl rfl (.one rfl (.ci (by kernel_rfl)) one_int (by kernel_rfl) (.one rfl (.ci (by kernel_rfl)) one_int (by kernel_rfl) (.one rfl (.ci (by kernel_rfl)) one_int (by kernel_rfl) .nil))) rfl)) r1 trivial
    (ChainN.cons (Cert.cond rfl rfl (fun h => o_callP (osame_c _ [(3), (1), (2)]) Try.func31 rfl (by kernel_rfl) (Args.two (.w h) (.conv (.w h) (Ent.arrSl (R := rInt) (l := [(3), (1), (2)]) rfl))))) r3 trivial
    (cG rfl (o_and2 .t .t) r2 trivial
    (cG rfl (o_move .t (by rfl)) r1 trivial
    (ChainN.cons (Cert.cond rfl rfl (fun h => o_move .t (by rfl))) r2 trivial
    (ChainN.cons (Cert.cond rfl rfl (fun h => o_eql (.w h) (.ci (by kernel_rfl)))) r2 trivial
    (cG rfl (o_and2 .t .t) r2 trivial
    (cG rfl (o_move .t (by rfl)) r1 trivial
    (ChainN.cons (Cert.cond rfl rfl (fun h => o_move .t (by rfl))) r2 trivial
    (ChainN.cons (Cert.cond rfl rfl (fun h => o_eql (.w h) (.ci (by kernel_rfl)))) r2 trivial
    (cG rfl (o_and2 .t .t) r2 trivial
    (ChainN.norm [(0, _), (1, _), (20, _), (21, _), (23, _), (24, _), (25, _), (137, _)] [(0, _)] r8 r1
    (cG rfl (o_move .t (by rfl)) r1 trivial
    (ChainN.cons (Cert.cond rfl rfl (fun h => o_move .t (by rfl))) r2 trivial
    (ChainN.cons (Cert.cond rfl rfl (fun h => o_eql (.w h) (.ci (by kernel_rfl)))) r2 trivial
    (cG rfl (o_and2 .t .t) r2 trivial
    (cG rfl (o_move .t (by rfl)) r1 trivial
    (ChainN.cons (Cert.cond rfl rfl (fun h => o_move .t (by rfl))) r2 trivial
    (ChainN.cons (Cert.cond rfl rfl (fun h => o_build (r := [(0, _)]) (zs := [.int .i64 0, .int .i64 0]) (pl := [(0, 1), (1, 1)]) (by kernel_rfl) (by kernel_rfl) (.one rfl (.ci (by kernel_rfl)) one_int (by kernel_rfl) .nil) (by rfl))) r1 trivial
    (ChainN.cons (Cert.cond rfl rfl (fun h => o_buildSliceE (sz := 2) (zs := [.int .i64 0, .int .i64 0]) (r := [(0, .tmp 144)]) (l := [_, _]) Try.underlying36 (by kernel_rfl) (by kernel_rfl) (by kernel_rfl) (by kernel_rfl) rfl rfl (.agg rfl (.w h) (by kernel_rfl) (by kernel_rfl) .nil) rfl)) r2 trivial
    (ChainN.cons (Cert.cond rfl rfl (fun h => o_callP (same06_c _ [⟨(3), 0⟩]) Try.func26 rfl (by kernel_rfl) (Args.two (.w h) (.conv (.w h) (Ent.arrSl (R := rPair) (l := [⟨(3), 0⟩]) rfl))))) r3 trivial
    (cG rfl (o_and2 .t .t) r2 trivial
    (cG rfl (o_move .t (by rfl)) r1 trivial
    (ChainN.cons (Cert.cond rfl rfl (fun h => o_move .t (by rfl))) r2 trivial
    (ChainN.cons (Cert.cond rfl rfl (fun h => o_eql (.w h) (.ci (by kernel_rfl)))) r2 trivial
    (cG rfl (o_and2 .t .t) r2 trivial
    (cG rfl (o_move .t (by rfl)) r1 trivial
    (ChainN.cons (Cert.cond rfl rfl (fun h => o_move .t (by rfl))) r2 trivial
    (ChainN.cons (Cert.cond rfl rfl (fun h => o_len_sl Try.underlying36 (.w h))) r2 trivial
    (ChainN.cons (Cert.cond rfl rfl (fun h => o_eql (.w h) (.ci (by kernel_rfl)))) r2 trivial
    (cG rfl (o_and2 .t .t) r2 trivial
    (cG rfl (o_move .t (by rfl)) r1 trivial
    (ChainN.cons (Cert.cond rfl rfl (fun h => o_move .t (by rfl))) r2 trivial
    (ChainN.cons (Cert.cond rfl rfl (fun h => o_eql (.w h) (.ci (by kernel_rfl)))) r2 trivial
    (cG rfl (o_and2 .t .t) r2 trivial
    (cG rfl (o_move .t (by rfl)) r1 trivial
    (ChainN.norm [(0, _), (1, _), (161, _)] [(0, _)] r3 r1
    (ChainN.cons (Cert.cond rfl rfl (fun h => o_move .t (by rfl))) r2 trivial
    (ChainN.cons (Cert.cond rfl rfl (fun h => o_callP (oright_c [(1), (2), (3)]) Try.func27 rfl (by kernel_rfl) (Args.one (.conv (.w h) (Ent.arrSl (R := rInt) (l := [(1), (2), (3)]) rfl))))) r2 trivial
    (cG rfl (o_and2 .t .t) r2 trivial
    (cG rfl (o_move .t (by rfl)) r1 trivial
    (ChainN.cons (Cert.cond rfl rfl (fun h => o_buildSliceE (sz := 1) (zs := [.int .i64 0]) (r := [(0, _), (1, _)]) (l := [_, _]) Try.underlying30 (by kernel_rfl) (by kernel_rfl) (by kernel_rfl) (by kernel_rfl) rfl rfl (.one rfl (.ci (by kernel_rfl)) one_int (by kernel_rfl) (.one rfl (.ci (by kernel_rfl)) one_int (by kernel_rfl) .nil)) rfl)) r1 trivial
    (ChainN.cons (Cert.cond rfl rfl (fun h => o_callP (oright_c [(1), (1)]) Try.func27 rfl (by kernel_rfl) (Args.one (.conv (.w h) (Ent.arrSl (R := rInt) (l := [(1), (1)]) rfl))))) r2 trivial
    (ChainN.cons (Cert.cond rfl rfl (fun h => o_not (.w h))) r2 trivial
    (cG rfl (o_and2 .t .t) r2 trivial
    (cG rfl (o_move .t (by rfl)) r1 trivial
    (ChainN.cons (Cert.cond rfl rfl (fun h => o_buildSliceE (sz := 1) (zs := [.int .i64 0]) (r := [(0, _)]) (l := [_]) Try.underlying30 (by kernel_rfl) (by kernel_rfl) (by kernel_rfl) (by kernel_rfl) rfl rfl (.one rfl (.ci (by kernel_rfl)) one_int (by kernel_rfl) .nil) rfl)) r1 trivial
    (ChainN.cons (Cert.cond rfl rfl (fun h => o_callP (oright_c [(0)]) Try.func27 rfl (by kernel_rfl) (Args.one (.conv (.w h) (Ent.arrSl (R := rInt) (l := [(0)]) rfl))))) r2 trivial
    (ChainN.cons (Cert.cond rfl rfl (fun h => o_not (.w h))) r2 trivial
    (cG rfl (o_and2 .t .t) r2 trivial
    (cG rfl (o_move .t (by rfl)) r1 trivial
    (ChainN.cons (Cert.cond rfl rfl (fun h => o_callP (oright_c []) Try.func27 rfl (by kernel_rfl) (Args.one (.conv (.c rfl) (.nilSl (R := rInt)))))) r1 trivial
    (cG rfl (o_and2 .t .t) r2 trivial
    (cG rfl (o_move .t (by rfl)) r1 trivial
    (ChainN.cons (Cert.cond rfl rfl (fun h => o_move .t (by rfl))) r2 trivial
    (ChainN.cons (Cert.cond rfl rfl (fun h => o_buildSliceE (sz := 1) (zs := [.int .i64 0]) (r := [(0, _), (1, _), (2, _)]) (l := [_, _, _]) Try.underlying30 (by kernel_rfl) (by kernel_rfl) (by kernel_rfl) (by kernel_rfl) rfl rfl (.one rfl (.ci (by kernel_rfl)) one_int (by kernel_rfl) (.one rfl (.ci (by kernel_rfl)) one_int (by kernel_rfl) (.one rfl (.ci (by kernel_rfl)) one_int (by kernel_rfl) .nil))) rfl)) r1 trivial
    (ChainN.cons (Cert.cond rfl rfl (fun h => o_callP (perm_c [(1), (2), (3)] [(3), (2), (1)] (by decide) (by decide)) Try.func29 rfl (by kernel_rfl) (Args.two (.conv (.w h) (Ent.arrSl (R := rInt) (l := [(1), (2), (3)]) rfl)) (.conv (.w h) (Ent.arrSl (R := rInt) (l := [(3), (2), (1)]) rfl))))) r3 trivial
    (cG rfl (o_and2 .t .t) r2 trivial
    (cG rfl (o_move .t (by rfl)) r1 trivial
    (ChainN.cons (Cert.cond rfl rfl (fun h => o_buildSliceE (sz := 1) (zs := [.int .i64 0]) (r := [(0, _), (1, _), (2, _)]) (l := [_, _, _]) Try.underlying30 (by kernel_rfl) (by kernel_rfl) (by kernel_rfl) (by kernel_rfl) rfl rfl (.one rfl (.ci (by kernel_rfl)) one_int (by kernel_rfl) (.one rfl (.ci (by kernel_rfl)) one_int (by kernel_rfl) (.one rfl (.ci (by kernel_rfl)) one_int (by kernel_rfl) .nil))) rfl)) r1 trivial
    (ChainN.cons (Cert.cond rfl rfl (fun h => o_buildSliceE (sz := 1) (zs := [.int .i64 0]) (r := [(0, _), (1, _), (2, _)]) (l := [_, _, _]) Try.underlying30 (by kernel_rfl) (by kernel_rfl) (by kernel_rfl) (by kernel_rfl) rfl rfl (.one rfl (.ci (by kernel_rfl)) one_int (by kernel_rfl) (.one rfl (.ci (by kernel_rfl)) one_int (by kernel_rfl) (.one rfl (.ci (by kernel_rfl)) one_int (by kernel_rfl) .nil))) rfl)) r1 trivial
    (ChainN.norm [(0, _), (1, _), (183, _), (184, _), (185, _)] [(0, _)] r5 r1
    (ChainN.cons (Cert.cond rfl rfl (fun h => o_callP (perm_c [(1), (1), (2)] [(1), (2), (2)] (by decide) (by decide)) Try.func29 rfl (by kernel_rfl) (Args.two (.conv (.w h) (Ent.arrSl (R := rInt) (l := [(1), (1), (2)]) rfl)) (.conv (.w h) (Ent.arrSl (R := rInt) (l := [(1), (2), (2)]) rfl))))) r3 trivial
    (ChainN.cons (Cert.cond rfl rfl (fun h => o_not (.w h))) r2 trivial
    (cG rfl (o_and2 .t .t) r2 trivial
    (cG rfl (o_move .t (by rfl)) r1 trivial
    (ChainN.cons (Cert.cond rfl rfl (fun h => o_move .t (by rfl))) r2 trivial
    (ChainN.cons (Cert.cond rfl rfl (fun h => o_callP (owith_c [(1), (2), (3)] (4) (by decide)) Try.func32 rfl (by kernel_rfl) (Args.two (.conv (.w h) (Ent.arrSl (R := rInt) (l := [(1), (2), (3)]) rfl)) (.ci (by kernel_rfl))))) r2 trivial
    (ChainN.cons (Cert.cond rfl rfl (fun h => o_buildSliceE (sz := 1) (zs := [.int .i64 0]) (r := [(0, _), (1, _), (2, _), (3, _)]) (l := [_, _, _, _]) Try.underlying30 (by kernel_rfl) (by kernel_rfl) (by kernel_rfl) (by kernel_rfl) rfl rfl (.one rfl (.ci (by kernel_rfl)) one_int (by kernel_rfl) (.one rfl (.ci (by kernel_rfl)) one_int (by kernel_rfl) (.one rfl (.ci (by kernel_rfl)) one_int (by kernel_rfl) (.one rfl (.ci (by kernel_rfl)) one_int (by kernel_rfl) .nil)))) rfl)) r1 trivial
    (ChainN.cons (Cert.cond rfl rfl (fun h => o_callP (osame_c _ [(1), (2), (3), (4)]) Try.func31 rfl (by kernel_rfl) (Args.two (.w h) (.conv (.w h) (Ent.arrSl (R := rInt) (l := [(1), (2), (3), (4)]) rfl))))) r3 trivial
    (cG rfl (o_and2 .t .t) r2 trivial
    (cG rfl (o_move .t (by rfl)) r1 trivial
    (ChainN.cons (Cert.cond rfl rfl (fun h => o_move .t (by rfl))) r2 trivial
    (ChainN.cons (Cert.cond rfl rfl (fun h => o_callP (owith_c [(1), (2), (3)] (2) (by decide)) Try.func32 rfl (by kernel_rfl) (Args.two (.conv (.w h) (Ent.arrSl (R := rInt) (l := [(1), (2), (3)]) rfl)) (.ci (by kernel_rfl))))) r2 trivial
    (ChainN.cons (Cert.cond rfl rfl (fun h => o_move .t (by rfl))) r2 trivial
    (ChainN.cons (Cert.cond rfl rfl (fun h => o_callP (osame_c _ [(1), (2), (3)]) Try.func31 rfl (by kernel_rfl) (Args.two (.w h) (.conv (.w h) (Ent.arrSl (R := rInt) (l := [(1), (2), (3)]) rfl))))) r3 trivial
    (cG rfl (o_and2 .t .t) r2 trivial
    (cG rfl (o_move .t (by rfl)) r1 trivial
    (ChainN.cons (Cert.cond rfl rfl (fun h => o_buildSliceE (sz := 1) (zs := [.int .i64 0]) (r := [(0, _), (1, _), (2, _)]) (l := [_, _, _]) Try.underlying30 (by kernel_rfl) (by kernel_rfl) (by kernel_rfl) (by kernel_rfl) rfl rfl (.one rfl (.ci (by kernel_rfl)) one_int (by kernel_rfl) (.one rfl (.ci (by kernel_rfl)) one_int (by kernel_rfl) (.one rfl (.ci (by kernel_rfl)) one_int (by kernel_rfl) .nil))) rfl)) r1 trivial
    (ChainN.cons (Cert.cond rfl rfl (fun h => o_callP (owithout_c [(1), (2), (1)] (1) (by decide)) Try.func34 rfl (by kernel_rfl) (Args.two (.conv (.w h) (Ent.arrSl (R := rInt) (l := [(1), (2), (1)]) rfl)) (.ci (by kernel_rfl))))) r2 trivial
    (ChainN.cons (Cert.cond rfl rfl (fun h => o_buildSliceE (sz := 1) (zs := [.int .i64 0]) (r := [(0, _)]) (l := [_]) Try.underlying30 (by kernel_rfl) (by kernel_rfl) (by kernel_rfl) (by kernel_rfl) rfl rfl (.one rfl (.ci (by kernel_rfl)) one_int (by kernel_rfl) .nil) rfl)) r1 trivial
    (ChainN.cons (Cert.cond rfl rfl (fun h => o_callP (osame_c _ [(2)]) Try.func31 rfl (by kernel_rfl) (Args.two (.w h) (.conv (.w h) (Ent.arrSl (R := rInt) (l := [(2)]) rfl))))) r3 trivial
    (cG rfl (o_and2 .t .t) r2 trivial
    (cG rfl (o_assign .t (by rfl)) r1 trivial
    ChainN.nil))))))))))))))))))))))))))))))))))))))))))))))))))))))))))))))))))))))))))))))))))))))))))))))))))))))))))))))))))))))))))
    (by kernel_rfl) (by rw [hB]; kernel_rfl) ?_
  clear hS; intro a w F hS
  obtain ⟨F, hS⟩ := hS.norm [(0, _)] [(0, _)] r1 r1
  try dsimp only [List.map, stCells, List.length_cons, List.length_nil, Nat.reduceAdd, List.drop_succ_cons, List.drop_zero, List.drop_nil, List.take_succ_cons, List.take_zero, List.take_nil, List.cons_append, List.nil_append, zCF, rInt, rPair] at hS
  refine then_n ?_
  refine wp_ret ?_
  refine ret_P hfr hS rfl (.tmp rfl .nil) (.one (.bool (by decide +kernel)))

end Go.Proofs.Ytpjjmolibanakaa
