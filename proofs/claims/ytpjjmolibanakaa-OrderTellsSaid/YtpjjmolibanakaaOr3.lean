/- Neighbours. No condition beyond those that each theorem says. -/
import Derived.Test.YtpjjmolibanakaaOr2
namespace Go.Proofs.Ytpjjmolibanakaa
open Go Go.Gm
set_option linter.unusedVariables false
set_option linter.unusedSimpArgs false
set_option maxHeartbeats 4000000
set_option maxRecDepth 8000


theorem onext_c (l : List Int) (tx : Int) : FnP Try.prog 17 [.sl rInt l, .int .i64 tx] (.tup [.int .i64 (nextO l tx).1, .bool (nextO l tx).2]) := by
  refine FnP.mk Try.func17 rfl Try.ntmps17 rfl ?_
  intro B a w F hB hfr hS
  have hll := Sat.lenSl hS (i := 0) rfl
  have hxr := idxL_range tx l
  have hxw : IntKind.wrap .i64 (idxL tx l + 1) = idxL tx l + 1 := wrap_i64 (by omega)
  have hxv : IntKind.wrap .i64 (idxL tx l - 1) = idxL tx l - 1 := wrap_i64 (by omega)
  refine wp_seq ?_
  refine region_seq hS (by kernel_rfl)
    (cF rfl (o_assign (.ci (by kernel_rfl)) (by rfl)) trivial trivial
    (cF rfl (o_assign .cb (by rfl)) trivial trivial
    Chain.nil))
    (by kernel_rfl) (by rw [hB]; kernel_rfl) ?_
  clear hS; intro a w F hS
  obtain ⟨F, hS⟩ := hS.norm [(0, _), (1, _), (4, _), (5, _)] [(0, _)] r4 r1
  try dsimp only [rInt] at hS
  refine then_n ?_
  refine wp_seq ?_
  refine region_seq hS (by kernel_rfl)
    (cF rfl (o_assign (.ci (by kernel_rfl)) (by rfl)) trivial trivial
    Chain.nil)
    (by kernel_rfl) (by rw [hB]; kernel_rfl) ?_
  clear hS; intro a w F hS
  obtain ⟨F, hS⟩ := hS.norm [(0, _), (1, _), (4, _), (5, _), (6, _)] [(0, _)] r5 r1
  try dsimp only [rInt] at hS
  refine then_n ?_
  refine wp_seq ?_
  refine wp_seq ?_
  refine region_seq hS (by kernel_rfl)
    (cF rfl (o_move .t (by rfl)) r1 trivial
    (cF rfl (o_neq .t (.ci (by kernel_rfl))) r1 trivial
    Chain.nil))
    (by kernel_rfl) (by rw [hB]; kernel_rfl) ?_
  clear hS; intro a w F hS
  obtain ⟨F, hS⟩ := hS.norm [(0, _), (1, _), (4, _), (5, _), (6, _), (8, _)] [(0, _)] r6 r1
  try dsimp only [rInt] at hS
  refine then_n ?_
  refine cond_b hS rfl (fun hc0 => ?_) (fun hc0 => ?_)
  ·skip
   have ht : tx ≠ 0 := by simpa using hc0
   refine wp_seq ?_
   refine region_seq hS (by kernel_rfl)
     (cF rfl (o_move .t (by rfl)) r1 trivial
     (cF rfl (o_move .t (by rfl)) r1 trivial
     (cF rfl (o_callP (index_c l tx) Try.func75 rfl (by kernel_rfl) (Args.two .t .t)) r2 trivial
     (cF rfl (o_add .t (.ci (by kernel_rfl))) r1 trivial
     (cF rfl (o_assign .t (by rfl)) r1 trivial
     Chain.nil)))))
     (by kernel_rfl) (by rw [hB]; kernel_rfl) ?_
   clear hS; intro a w F hS
   obtain ⟨F, hS⟩ := hS.norm [(0, _), (4, _), (5, _), (6, _)] [(0, _)] r4 r1
   try dsimp only [rInt] at hS
   refine then_n ?_
   refine wp_seq ?_
   refine region_seq hS (by kernel_rfl)
     (cF rfl (o_move .t (by rfl)) r1 trivial
     (cF rfl (o_eql .t (.ci (by kernel_rfl))) r1 trivial
     Chain.nil))
     (by kernel_rfl) (by rw [hB]; kernel_rfl) ?_
   clear hS; intro a w F hS
   obtain ⟨F, hS⟩ := hS.norm [(0, _), (4, _), (5, _), (6, _), (14, _)] [(0, _)] r5 r1
   try dsimp only [rInt] at hS
   refine then_n ?_
   refine cond_b hS rfl (fun hc1 => ?_) (fun hc1 => ?_)
   ·skip
    have hix : idxL tx l < 0 := by simp [hxw] at hc1; omega
    have hg : nextO l tx = (0, false) := by unfold nextO; rw [if_pos ⟨ht, hix⟩]
    refine wp_seq ?_
    refine region_seq hS (by kernel_rfl)
      (cF rfl (o_assign (.ci (by kernel_rfl)) (by rfl)) trivial trivial
      (cF rfl (o_assign .cb (by rfl)) trivial trivial
      Chain.nil))
      (by kernel_rfl) (by rw [hB]; kernel_rfl) ?_
    clear hS; intro a w F hS
    obtain ⟨F, hS⟩ := hS.norm [(0, _), (4, _), (5, _), (6, _)] [(0, _)] r4 r1
    try dsimp only [rInt] at hS
    refine then_n ?_
    refine wp_ret ?_
    refine then_r ?_
    refine ret_P hfr hS rfl (.tmp rfl (.tmp rfl .nil)) (.two (.int (by rw [hg]; first | done | rfl | (rw [hxw]; done) | (rw [hxv]; done) | (rw [show IntKind.wrap .i64 (-1 + 1) = 0 by decide]; done))) (.bool (by rw [hg])))
   ·skip
    have hix : 0 ≤ idxL tx l := by simp [hxw] at hc1; omega
    refine wp_skip ?_
    refine then_n ?_
    refine wp_seq ?_
    refine wp_seq ?_
    refine region_seq hS (by kernel_rfl)
      (cF rfl (o_move .t (by rfl)) r1 trivial
      (cF rfl (o_move .t (by rfl)) r1 trivial
      (cF rfl (o_len_sl Try.underlying30 .t) r1 trivial
      (cF rfl (o_eql .t .t) r2 trivial
      Chain.nil))))
      (by kernel_rfl) (by rw [hB]; kernel_rfl) ?_
    clear hS; intro a w F hS
    obtain ⟨F, hS⟩ := hS.norm [(0, _), (4, _), (5, _), (6, _), (18, _)] [(0, _)] r5 r1
    try dsimp only [rInt] at hS
    refine then_n ?_
    refine cond_b hS rfl (fun hc2 => ?_) (fun hc2 => ?_)
    ·skip
     have hlx := hc2
     first | rw [hxw] at hlx | skip
     have hg : nextO l tx = (0, false) := by unfold nextO; first | (rw [if_neg (by omega), if_neg ht, if_pos (by simp at hlx; omega)]; done) | (rw [if_neg (by omega), if_pos ht, if_pos (by simp at hlx; omega)])
     refine wp_seq ?_
     refine region_seq hS (by kernel_rfl)
       (cF rfl (o_assign (.ci (by kernel_rfl)) (by rfl)) trivial trivial
       (cF rfl (o_assign .cb (by rfl)) trivial trivial
       Chain.nil))
       (by kernel_rfl) (by rw [hB]; kernel_rfl) ?_
     clear hS; intro a w F hS
     obtain ⟨F, hS⟩ := hS.norm [(0, _), (4, _), (5, _), (6, _)] [(0, _)] r4 r1
     try dsimp only [rInt] at hS
     refine then_n ?_
     refine wp_ret ?_
     refine then_r ?_
     refine ret_P hfr hS rfl (.tmp rfl (.tmp rfl .nil)) (.two (.int (by rw [hg]; first | done | rfl | (rw [hxw]; done) | (rw [hxv]; done) | (rw [show IntKind.wrap .i64 (-1 + 1) = 0 by decide]; done))) (.bool (by rw [hg])))
    ·skip
     have hlx := hc2
     first | rw [hxw] at hlx | skip
     have hln := List.length_pos_iff (l := l)
     have hlx2 := hlx
     simp at hlx
     have hg : nextO l tx = (Go.Gm.nth l (if tx = 0 then 0 else idxL tx l + 1).toNat, true) := by unfold nextO; first | (rw [if_neg (by omega), if_neg ht, if_neg ht, if_neg (by omega)]; done) | (rw [if_neg (by omega), if_pos ht, if_pos ht, if_neg (by first | omega | (intro h0; have : l.length = 0 := by omega; simp_all))]; rfl)
     first | rw [if_neg ht] at hg | rw [if_pos ht] at hg
     try (have hl1 : 0 < l.length := by rcases Nat.eq_zero_or_pos l.length with h0 | h0; simp_all; exact h0)
     refine wp_skip ?_
     refine then_n ?_
     refine wp_seq ?_
     refine region_seq hS (by kernel_rfl)
       (cF rfl (o_move .t (by rfl)) r1 trivial
       (cF rfl (o_move .t (by rfl)) r1 trivial
       (cF rfl (o_indexAddr_sl (sz := 1) (.mk Try.underlying30 (by kernel_rfl)) (by intro x; rfl) .t .t (by first | omega | (rw [hxw]; omega)) (by first | omega | (rw [hxw]; omega))) r2 trivial
       (cF rfl (o_load_ref (ag := false) (sz := 1) .t (by kernel_rfl) (by kernel_rfl) (by kernel_rfl)) r1 trivial
       (cF rfl (o_assign .t (by rfl)) r1 trivial
       (cF rfl (o_assign .cb (by rfl)) trivial trivial
       Chain.nil))))))
       (by kernel_rfl) (by rw [hB]; kernel_rfl) ?_
     clear hS; intro a w F hS
     obtain ⟨F, hS⟩ := hS.norm [(4, _), (5, _)] [(0, _)] r2 r1
     try dsimp only [List.map, List.drop_succ_cons, List.drop_zero, List.drop_nil, List.take_succ_cons, List.take_zero, List.take_nil, ldSF, rInt] at hS
     try simp only [Int.toNat_natCast] at hS
     refine then_n ?_
     refine wp_ret ?_
     refine ret_P hfr hS rfl (.tmp rfl (.tmp rfl .nil)) (.two (.int (by rw [hg]; first | done | rfl | (rw [hxw]; done) | (rw [hxv]; done) | (rw [show IntKind.wrap .i64 (-1 + 1) = 0 by decide]; done))) (.bool (by rw [hg])))
  ·skip
   have ht : tx = 0 := by simpa using hc0
   refine wp_skip ?_
   refine then_n ?_
   refine wp_seq ?_
   refine wp_seq ?_
   refine region_seq hS (by kernel_rfl)
     (cF rfl (o_move .t (by rfl)) r1 trivial
     (cF rfl (o_move .t (by rfl)) r1 trivial
     (cF rfl (o_len_sl Try.underlying30 .t) r1 trivial
     (cF rfl (o_eql .t .t) r2 trivial
     Chain.nil))))
     (by kernel_rfl) (by rw [hB]; kernel_rfl) ?_
   clear hS; intro a w F hS
   obtain ⟨F, hS⟩ := hS.norm [(0, _), (4, _), (5, _), (6, _), (18, _)] [(0, _)] r5 r1
   try dsimp only [rInt] at hS
   refine then_n ?_
   refine cond_b hS rfl (fun hc3 => ?_) (fun hc3 => ?_)
   ·skip
    have hlx := hc3
    first | rw [hxw] at hlx | skip
    have hg : nextO l tx = (0, false) := by unfold nextO; first | (rw [if_neg (by omega), if_neg ht, if_pos (by simp at hlx; omega)]; done) | (rw [if_neg (by omega), if_pos ht, if_pos (by simp at hlx; omega)])
    refine wp_seq ?_
    refine region_seq hS (by kernel_rfl)
      (cF rfl (o_assign (.ci (by kernel_rfl)) (by rfl)) trivial trivial
      (cF rfl (o_assign .cb (by rfl)) trivial trivial
      Chain.nil))
      (by kernel_rfl) (by rw [hB]; kernel_rfl) ?_
    clear hS; intro a w F hS
    obtain ⟨F, hS⟩ := hS.norm [(0, _), (4, _), (5, _), (6, _)] [(0, _)] r4 r1
    try dsimp only [rInt] at hS
    refine then_n ?_
    refine wp_ret ?_
    refine then_r ?_
    refine ret_P hfr hS rfl (.tmp rfl (.tmp rfl .nil)) (.two (.int (by rw [hg]; first | done | rfl | (rw [hxw]; done) | (rw [hxv]; done) | (rw [show IntKind.wrap .i64 (-1 + 1) = 0 by decide]; done))) (.bool (by rw [hg])))
   ·skip
    have hlx := hc3
    first | rw [hxw] at hlx | skip
    have hln := List.length_pos_iff (l := l)
    have hlx2 := hlx
    simp at hlx
    have hg : nextO l tx = (Go.Gm.nth l (if tx = 0 then 0 else idxL tx l + 1).toNat, true) := by unfold nextO; first | (rw [if_neg (by omega), if_neg ht, if_neg ht, if_neg (by omega)]; done) | (rw [if_neg (by omega), if_pos ht, if_pos ht, if_neg (by first | omega | (intro h0; have : l.length = 0 := by omega; simp_all))]; rfl)
    first | rw [if_neg ht] at hg | rw [if_pos ht] at hg
    try (have hl1 : 0 < l.length := by rcases Nat.eq_zero_or_pos l.length with h0 | h0; simp_all; exact h0)
    refine wp_skip ?_
    refine then_n ?_
    refine wp_seq ?_
    refine region_seq hS (by kernel_rfl)
      (cF rfl (o_move .t (by rfl)) r1 trivial
      (cF rfl (o_move .t (by rfl)) r1 trivial
      (cF rfl (o_indexAddr_sl (sz := 1) (.mk Try.underlying30 (by kernel_rfl)) (by intro x; rfl) .t .t (by first | omega | (rw [hxw]; omega)) (by first | omega | (rw [hxw]; omega))) r2 trivial
      (cF rfl (o_load_ref (ag := false) (sz := 1) .t (by kernel_rfl) (by kernel_rfl) (by kernel_rfl)) r1 trivial
      (cF rfl (o_assign .t (by rfl)) r1 trivial
      (cF rfl (o_assign .cb (by rfl)) trivial trivial
      Chain.nil))))))
      (by kernel_rfl) (by rw [hB]; kernel_rfl) ?_
    clear hS; intro a w F hS
    obtain ⟨F, hS⟩ := hS.norm [(4, _), (5, _)] [(0, _)] r2 r1
    try dsimp only [List.map, List.drop_succ_cons, List.drop_zero, List.drop_nil, List.take_succ_cons, List.take_zero, List.take_nil, ldSF, rInt] at hS
    try simp only [Int.toNat_natCast] at hS
    refine then_n ?_
    refine wp_ret ?_
    refine ret_P hfr hS rfl (.tmp rfl (.tmp rfl .nil)) (.two (.int (by rw [hg]; first | done | rfl | (rw [hxw]; done) | (rw [hxv]; done) | (rw [show IntKind.wrap .i64 (-1 + 1) = 0 by decide]; done))) (.bool (by rw [hg])))

theorem next11_c (l : List Int) (tx : Int) : FnP Try.prog 18 [.sl rInt l, .int .i64 tx] (.tup [.int .i64 (nextO l tx).1, .bool (nextO l tx).2]) := by
  refine FnP.mk Try.func18 rfl Try.ntmps18 rfl ?_
  intro B a w F hB hfr hS
  have hll := Sat.lenSl hS (i := 0) rfl
  have hxr := idxL_range tx l
  have hxw : IntKind.wrap .i64 (idxL tx l + 1) = idxL tx l + 1 := wrap_i64 (by omega)
  have hxv : IntKind.wrap .i64 (idxL tx l - 1) = idxL tx l - 1 := wrap_i64 (by omega)
  refine wp_seq ?_
  refine region_seq hS (by kernel_rfl)
    (cF rfl (o_assign (.ci (by kernel_rfl)) (by rfl)) trivial trivial
    (cF rfl (o_assign .cb (by rfl)) trivial trivial
    Chain.nil))
    (by kernel_rfl) (by rw [hB]; kernel_rfl) ?_
  clear hS; intro a w F hS
  obtain ⟨F, hS⟩ := hS.norm [(0, _), (1, _), (4, _), (5, _)] [(0, _)] r4 r1
  try dsimp only [rInt] at hS
  refine then_n ?_
  refine wp_seq ?_
  refine region_seq hS (by kernel_rfl)
    (cF rfl (o_move .t (by rfl)) r1 trivial
    (cF rfl (o_move .t (by rfl)) r1 trivial
    (cF rfl (o_callP (index07_c l tx) Try.func76 rfl (by kernel_rfl) (Args.two .t .t)) r2 trivial
    (cF rfl (o_assign .t (by rfl)) r1 trivial
    Chain.nil))))
    (by kernel_rfl) (by rw [hB]; kernel_rfl) ?_
  clear hS; intro a w F hS
  obtain ⟨F, hS⟩ := hS.norm [(0, _), (1, _), (4, _), (5, _), (6, _)] [(0, _)] r5 r1
  try dsimp only [rInt] at hS
  refine then_n ?_
  refine wp_seq ?_
  refine wp_seq ?_
  refine region_seq hS (by kernel_rfl)
    (cF rfl (o_move .t (by rfl)) r1 trivial
    (cF rfl (o_eql .t (.ci (by kernel_rfl))) r1 trivial
    Chain.nil))
    (by kernel_rfl) (by rw [hB]; kernel_rfl) ?_
  clear hS; intro a w F hS
  obtain ⟨F, hS⟩ := hS.norm [(0, _), (4, _), (5, _), (6, _), (11, _)] [(0, _)] r5 r1
  try dsimp only [rInt] at hS
  refine then_n ?_
  refine cond_b hS rfl (fun hc0 => ?_) (fun hc0 => ?_)
  ·skip
   have ht : tx = 0 := by simpa using hc0
   refine region_seq hS (by kernel_rfl)
     (cF rfl (o_assign (.ci (by kernel_rfl)) (by rfl)) trivial trivial
     Chain.nil)
     (by kernel_rfl) (by rw [hB]; kernel_rfl) ?_
   clear hS; intro a w F hS
   obtain ⟨F, hS⟩ := hS.norm [(0, _), (4, _), (5, _), (6, _)] [(0, _)] r4 r1
   try dsimp only [rInt] at hS
   refine then_n ?_
   refine wp_seq ?_
   refine wp_seq ?_
   refine region_seq hS (by kernel_rfl)
     (cF rfl (o_move .t (by rfl)) r1 trivial
     (cF rfl (o_add .t (.ci (by kernel_rfl))) r1 trivial
     (cF rfl (o_move .t (by rfl)) r1 trivial
     (cF rfl (o_len_sl Try.underlying30 .t) r1 trivial
     (cF rfl (o_geq .t .t) r2 trivial
     Chain.nil)))))
     (by kernel_rfl) (by rw [hB]; kernel_rfl) ?_
   clear hS; intro a w F hS
   obtain ⟨F, hS⟩ := hS.norm [(0, _), (4, _), (5, _), (6, _), (18, _)] [(0, _)] r5 r1
   try dsimp only [rInt] at hS
   refine then_n ?_
   refine cond_b hS rfl (fun hc1 => ?_) (fun hc1 => ?_)
   ·skip
    have hlx := hc1
    first | rw [hxw] at hlx | rw [show IntKind.wrap .i64 (-1 + 1) = 0 by decide] at hlx | skip
    simp only [decide_eq_true_eq] at hlx
    have hg : nextO l tx = (0, false) := by unfold nextO; first | (rw [if_neg (by omega), if_neg ht, if_pos (by omega)]; done) | (rw [if_neg (by omega), if_pos ht, if_pos (by omega)])
    refine wp_seq ?_
    refine region_seq hS (by kernel_rfl)
      (cF rfl (o_assign (.ci (by kernel_rfl)) (by rfl)) trivial trivial
      (cF rfl (o_assign .cb (by rfl)) trivial trivial
      Chain.nil))
      (by kernel_rfl) (by rw [hB]; kernel_rfl) ?_
    clear hS; intro a w F hS
    obtain ⟨F, hS⟩ := hS.norm [(0, _), (4, _), (5, _), (6, _)] [(0, _)] r4 r1
    try dsimp only [rInt] at hS
    refine then_n ?_
    refine wp_ret ?_
    refine then_r ?_
    refine ret_P hfr hS rfl (.tmp rfl (.tmp rfl .nil)) (.two (.int (by rw [hg]; first | done | rfl | (rw [hxw]; done) | (rw [hxv]; done) | (rw [show IntKind.wrap .i64 (-1 + 1) = 0 by decide]; done))) (.bool (by rw [hg])))
   ·skip
    have hlx := hc1
    first | rw [hxw] at hlx | rw [show IntKind.wrap .i64 (-1 + 1) = 0 by decide] at hlx | skip
    simp only [decide_eq_false_iff_not] at hlx
    have hg : nextO l tx = (Go.Gm.nth l (if tx = 0 then 0 else idxL tx l + 1).toNat, true) := by unfold nextO; first | (rw [if_neg (by omega), if_neg ht, if_neg ht, if_neg (by omega)]; done) | (rw [if_neg (by omega), if_pos ht, if_pos ht, if_neg (by omega)]; rfl)
    first | rw [if_neg ht] at hg | rw [if_pos ht] at hg
    have hw0 : IntKind.wrap .i64 (-1 + 1) = 0 := by decide
    refine wp_skip ?_
    refine then_n ?_
    refine wp_seq ?_
    refine region_seq hS (by kernel_rfl)
      (cF rfl (o_move .t (by rfl)) r1 trivial
      (cF rfl (o_move .t (by rfl)) r1 trivial
      (cF rfl (o_add .t (.ci (by kernel_rfl))) r1 trivial
      (cF rfl (o_indexAddr_sl (sz := 1) (.mk Try.underlying30 (by kernel_rfl)) (by intro x; rfl) .t .t (by first | omega | (rw [hxw]; omega)) (by first | omega | (rw [hxw]; omega))) r2 trivial
      (cF rfl (o_load_ref (ag := false) (sz := 1) .t (by kernel_rfl) (by kernel_rfl) (by kernel_rfl)) r1 trivial
      (cF rfl (o_assign .t (by rfl)) r1 trivial
      (cF rfl (o_assign .cb (by rfl)) trivial trivial
      Chain.nil)))))))
      (by kernel_rfl) (by rw [hB]; kernel_rfl) ?_
    clear hS; intro a w F hS
    obtain ⟨F, hS⟩ := hS.norm [(4, _), (5, _)] [(0, _)] r2 r1
    try dsimp only [List.map, List.drop_succ_cons, List.drop_zero, List.drop_nil, List.take_succ_cons, List.take_zero, List.take_nil, ldSF, rInt] at hS
    try simp only [Int.toNat_natCast] at hS
    refine then_n ?_
    refine wp_ret ?_
    refine ret_P hfr hS rfl (.tmp rfl (.tmp rfl .nil)) (.two (.int (by rw [hg]; first | done | rfl | (rw [hxw]; done) | (rw [hxv]; done) | (rw [show IntKind.wrap .i64 (-1 + 1) = 0 by decide]; done))) (.bool (by rw [hg])))
  ·skip
   have ht : tx ≠ 0 := by simpa using hc0
   refine wp_seq ?_
   refine region_seq hS (by kernel_rfl)
     (cF rfl (o_move .t (by rfl)) r1 trivial
     (cF rfl (o_lss .t (.ci (by kernel_rfl))) r1 trivial
     Chain.nil))
     (by kernel_rfl) (by rw [hB]; kernel_rfl) ?_
   clear hS; intro a w F hS
   obtain ⟨F, hS⟩ := hS.norm [(0, _), (4, _), (5, _), (6, _), (13, _)] [(0, _)] r5 r1
   try dsimp only [rInt] at hS
   refine then_n ?_
   refine cond_b hS rfl (fun hc2 => ?_) (fun hc2 => ?_)
   ·skip
    have hix : idxL tx l < 0 := by simpa using hc2
    have hg : nextO l tx = (0, false) := by unfold nextO; rw [if_pos ⟨ht, hix⟩]
    refine wp_seq ?_
    refine region_seq hS (by kernel_rfl)
      (cF rfl (o_assign (.ci (by kernel_rfl)) (by rfl)) trivial trivial
      (cF rfl (o_assign .cb (by rfl)) trivial trivial
      Chain.nil))
      (by kernel_rfl) (by rw [hB]; kernel_rfl) ?_
    clear hS; intro a w F hS
    obtain ⟨F, hS⟩ := hS.norm [(0, _), (4, _), (5, _), (6, _)] [(0, _)] r4 r1
    try dsimp only [rInt] at hS
    refine then_n ?_
    refine wp_ret ?_
    refine then_r ?_
    refine ret_P hfr hS rfl (.tmp rfl (.tmp rfl .nil)) (.two (.int (by rw [hg]; first | done | rfl | (rw [hxw]; done) | (rw [hxv]; done) | (rw [show IntKind.wrap .i64 (-1 + 1) = 0 by decide]; done))) (.bool (by rw [hg])))
   ·skip
    have hix : ¬ idxL tx l < 0 := by simpa using hc2
    refine wp_skip ?_
    refine then_n ?_
    refine wp_seq ?_
    refine wp_seq ?_
    refine region_seq hS (by kernel_rfl)
      (cF rfl (o_move .t (by rfl)) r1 trivial
      (cF rfl (o_add .t (.ci (by kernel_rfl))) r1 trivial
      (cF rfl (o_move .t (by rfl)) r1 trivial
      (cF rfl (o_len_sl Try.underlying30 .t) r1 trivial
      (cF rfl (o_geq .t .t) r2 trivial
      Chain.nil)))))
      (by kernel_rfl) (by rw [hB]; kernel_rfl) ?_
    clear hS; intro a w F hS
    obtain ⟨F, hS⟩ := hS.norm [(0, _), (4, _), (5, _), (6, _), (18, _)] [(0, _)] r5 r1
    try dsimp only [rInt] at hS
    refine then_n ?_
    refine cond_b hS rfl (fun hc3 => ?_) (fun hc3 => ?_)
    ·skip
     have hlx := hc3
     first | rw [hxw] at hlx | rw [show IntKind.wrap .i64 (-1 + 1) = 0 by decide] at hlx | skip
     simp only [decide_eq_true_eq] at hlx
     have hg : nextO l tx = (0, false) := by unfold nextO; first | (rw [if_neg (by omega), if_neg ht, if_pos (by omega)]; done) | (rw [if_neg (by omega), if_pos ht, if_pos (by omega)])
     refine wp_seq ?_
     refine region_seq hS (by kernel_rfl)
       (cF rfl (o_assign (.ci (by kernel_rfl)) (by rfl)) trivial trivial
       (cF rfl (o_assign .cb (by rfl)) trivial trivial
       Chain.nil))
       (by kernel_rfl) (by rw [hB]; kernel_rfl) ?_
     clear hS; intro a w F hS
     obtain ⟨F, hS⟩ := hS.norm [(0, _), (4, _), (5, _), (6, _)] [(0, _)] r4 r1
     try dsimp only [rInt] at hS
     refine then_n ?_
     refine wp_ret ?_
     refine then_r ?_
     refine ret_P hfr hS rfl (.tmp rfl (.tmp rfl .nil)) (.two (.int (by rw [hg]; first | done | rfl | (rw [hxw]; done) | (rw [hxv]; done) | (rw [show IntKind.wrap .i64 (-1 + 1) = 0 by decide]; done))) (.bool (by rw [hg])))
    ·skip
     have hlx := hc3
     first | rw [hxw] at hlx | rw [show IntKind.wrap .i64 (-1 + 1) = 0 by decide] at hlx | skip
     simp only [decide_eq_false_iff_not] at hlx
     have hg : nextO l tx = (Go.Gm.nth l (if tx = 0 then 0 else idxL tx l + 1).toNat, true) := by unfold nextO; first | (rw [if_neg (by omega), if_neg ht, if_neg ht, if_neg (by omega)]; done) | (rw [if_neg (by omega), if_pos ht, if_pos ht, if_neg (by omega)]; rfl)
     first | rw [if_neg ht] at hg | rw [if_pos ht] at hg
     have hw0 : IntKind.wrap .i64 (-1 + 1) = 0 := by decide
     refine wp_skip ?_
     refine then_n ?_
     refine wp_seq ?_
     refine region_seq hS (by kernel_rfl)
       (cF rfl (o_move .t (by rfl)) r1 trivial
       (cF rfl (o_move .t (by rfl)) r1 trivial
       (cF rfl (o_add .t (.ci (by kernel_rfl))) r1 trivial
       (cF rfl (o_indexAddr_sl (sz := 1) (.mk Try.underlying30 (by kernel_rfl)) (by intro x; rfl) .t .t (by first | omega | (rw [hxw]; omega)) (by first | omega | (rw [hxw]; omega))) r2 trivial
       (cF rfl (o_load_ref (ag := false) (sz := 1) .t (by kernel_rfl) (by kernel_rfl) (by kernel_rfl)) r1 trivial
       (cF rfl (o_assign .t (by rfl)) r1 trivial
       (cF rfl (o_assign .cb (by rfl)) trivial trivial
       Chain.nil)))))))
       (by kernel_rfl) (by rw [hB]; kernel_rfl) ?_
     clear hS; intro a w F hS
     obtain ⟨F, hS⟩ := hS.norm [(4, _), (5, _)] [(0, _)] r2 r1
     try dsimp only [List.map, List.drop_succ_cons, List.drop_zero, List.drop_nil, List.take_succ_cons, List.take_zero, List.take_nil, ldSF, rInt] at hS
     try simp only [Int.toNat_natCast] at hS
     refine then_n ?_
     refine wp_ret ?_
     refine ret_P hfr hS rfl (.tmp rfl (.tmp rfl .nil)) (.two (.int (by rw [hg]; first | done | rfl | (rw [hxw]; done) | (rw [hxv]; done) | (rw [show IntKind.wrap .i64 (-1 + 1) = 0 by decide]; done))) (.bool (by rw [hg])))

theorem oprev_c (l : List Int) (tx : Int) : FnP Try.prog 19 [.sl rInt l, .int .i64 tx] (.tup [.int .i64 (prevO l tx).1, .bool (prevO l tx).2]) := by
  refine FnP.mk Try.func19 rfl Try.ntmps19 rfl ?_
  intro B a w F hB hfr hS
  have hll := Sat.lenSl hS (i := 0) rfl
  have hxr := idxL_range tx l
  have hxw : IntKind.wrap .i64 (idxL tx l + 1) = idxL tx l + 1 := wrap_i64 (by omega)
  have hxv : IntKind.wrap .i64 (idxL tx l - 1) = idxL tx l - 1 := wrap_i64 (by omega)
  refine wp_seq ?_
  refine region_seq hS (by kernel_rfl)
    (cF rfl (o_assign (.ci (by kernel_rfl)) (by rfl)) trivial trivial
    (cF rfl (o_assign .cb (by rfl)) trivial trivial
    Chain.nil))
    (by kernel_rfl) (by rw [hB]; kernel_rfl) ?_
  clear hS; intro a w F hS
  obtain ⟨F, hS⟩ := hS.norm [(0, _), (1, _), (4, _), (5, _)] [(0, _)] r4 r1
  try dsimp only [rInt] at hS
  refine then_n ?_
  refine wp_seq ?_
  refine region_seq hS (by kernel_rfl)
    (cF rfl (o_move .t (by rfl)) r1 trivial
    (cF rfl (o_move .t (by rfl)) r1 trivial
    (cF rfl (o_callP (index_c l tx) Try.func75 rfl (by kernel_rfl) (Args.two .t .t)) r2 trivial
    (cF rfl (o_assign .t (by rfl)) r1 trivial
    Chain.nil))))
    (by kernel_rfl) (by rw [hB]; kernel_rfl) ?_
  clear hS; intro a w F hS
  obtain ⟨F, hS⟩ := hS.norm [(0, _), (4, _), (5, _), (6, _)] [(0, _)] r4 r1
  try dsimp only [rInt] at hS
  refine then_n ?_
  refine wp_seq ?_
  refine wp_seq ?_
  refine region_seq hS (by kernel_rfl)
    (cF rfl (o_move .t (by rfl)) r1 trivial
    (cF rfl (o_lss .t (.ci (by kernel_rfl))) r1 trivial
    Chain.nil))
    (by kernel_rfl) (by rw [hB]; kernel_rfl) ?_
  clear hS; intro a w F hS
  obtain ⟨F, hS⟩ := hS.norm [(0, _), (4, _), (5, _), (6, _), (11, _)] [(0, _)] r5 r1
  try dsimp only [rInt] at hS
  refine then_n ?_
  refine cond_b hS rfl (fun hc0 => ?_) (fun hc0 => ?_)
  ·skip
   have hix : idxL tx l < 1 := by simpa using hc0
   have hg : prevO l tx = (0, false) := by unfold prevO; rw [if_pos hix]
   refine wp_seq ?_
   refine region_seq hS (by kernel_rfl)
     (cF rfl (o_assign (.ci (by kernel_rfl)) (by rfl)) trivial trivial
     (cF rfl (o_assign .cb (by rfl)) trivial trivial
     Chain.nil))
     (by kernel_rfl) (by rw [hB]; kernel_rfl) ?_
   clear hS; intro a w F hS
   obtain ⟨F, hS⟩ := hS.norm [(0, _), (4, _), (5, _), (6, _)] [(0, _)] r4 r1
   try dsimp only [rInt] at hS
   refine then_n ?_
   refine wp_ret ?_
   refine then_r ?_
   refine ret_P hfr hS rfl (.tmp rfl (.tmp rfl .nil)) (.two (.int (by rw [hg]; first | done | rfl | (rw [hxw]; done) | (rw [hxv]; done) | (rw [show IntKind.wrap .i64 (-1 + 1) = 0 by decide]; done))) (.bool (by rw [hg])))
  ·skip
   have hix : ¬ idxL tx l < 1 := by simpa using hc0
   have hg : prevO l tx = (Go.Gm.nth l (idxL tx l - 1).toNat, true) := by unfold prevO; rw [if_neg hix]
   refine wp_skip ?_
   refine then_n ?_
   refine wp_seq ?_
   refine region_seq hS (by kernel_rfl)
     (cF rfl (o_move .t (by rfl)) r1 trivial
     (cF rfl (o_move .t (by rfl)) r1 trivial
     (cF rfl (o_sub .t (.ci (by kernel_rfl))) r1 trivial
     (cF rfl (o_indexAddr_sl (sz := 1) (.mk Try.underlying30 (by kernel_rfl)) (by intro x; rfl) .t .t (by rw [hxv]; omega) (by rw [hxv]; omega)) r2 trivial
     (cF rfl (o_load_ref (ag := false) (sz := 1) .t (by kernel_rfl) (by kernel_rfl) (by kernel_rfl)) r1 trivial
     (cF rfl (o_assign .t (by rfl)) r1 trivial
     (cF rfl (o_assign .cb (by rfl)) trivial trivial
     Chain.nil)))))))
     (by kernel_rfl) (by rw [hB]; kernel_rfl) ?_
   clear hS; intro a w F hS
   obtain ⟨F, hS⟩ := hS.norm [(4, _), (5, _)] [(0, _)] r2 r1
   try dsimp only [List.map, List.drop_succ_cons, List.drop_zero, List.drop_nil, List.take_succ_cons, List.take_zero, List.take_nil, ldSF, rInt] at hS
   try simp only [Int.toNat_natCast] at hS
   refine then_n ?_
   refine wp_ret ?_
   refine ret_P hfr hS rfl (.tmp rfl (.tmp rfl .nil)) (.two (.int (by rw [hg]; first | done | rfl | (rw [hxw]; done) | (rw [hxv]; done) | (rw [show IntKind.wrap .i64 (-1 + 1) = 0 by decide]; done))) (.bool (by rw [hg])))

theorem prev11_c (l : List Int) (tx : Int) : FnP Try.prog 20 [.sl rInt l, .int .i64 tx] (.tup [.int .i64 (prevO l tx).1, .bool (prevO l tx).2]) := by
  refine FnP.mk Try.func20 rfl Try.ntmps20 rfl ?_
  intro B a w F hB hfr hS
  have hll := Sat.lenSl hS (i := 0) rfl
  have hxr := idxL_range tx l
  have hxw : IntKind.wrap .i64 (idxL tx l + 1) = idxL tx l + 1 := wrap_i64 (by omega)
  have hxv : IntKind.wrap .i64 (idxL tx l - 1) = idxL tx l - 1 := wrap_i64 (by omega)
  refine wp_seq ?_
  refine region_seq hS (by kernel_rfl)
    (cF rfl (o_assign (.ci (by kernel_rfl)) (by rfl)) trivial trivial
    (cF rfl (o_assign .cb (by rfl)) trivial trivial
    Chain.nil))
    (by kernel_rfl) (by rw [hB]; kernel_rfl) ?_
  clear hS; intro a w F hS
  obtain ⟨F, hS⟩ := hS.norm [(0, _), (1, _), (4, _), (5, _)] [(0, _)] r4 r1
  try dsimp only [rInt] at hS
  refine then_n ?_
  refine wp_seq ?_
  refine region_seq hS (by kernel_rfl)
    (cF rfl (o_move .t (by rfl)) r1 trivial
    (cF rfl (o_move .t (by rfl)) r1 trivial
    (cF rfl (o_callP (index07_c l tx) Try.func76 rfl (by kernel_rfl) (Args.two .t .t)) r2 trivial
    (cF rfl (o_assign .t (by rfl)) r1 trivial
    Chain.nil))))
    (by kernel_rfl) (by rw [hB]; kernel_rfl) ?_
  clear hS; intro a w F hS
  obtain ⟨F, hS⟩ := hS.norm [(0, _), (4, _), (5, _), (6, _)] [(0, _)] r4 r1
  try dsimp only [rInt] at hS
  refine then_n ?_
  refine wp_seq ?_
  refine wp_seq ?_
  refine region_seq hS (by kernel_rfl)
    (cF rfl (o_move .t (by rfl)) r1 trivial
    (cF rfl (o_lss .t (.ci (by kernel_rfl))) r1 trivial
    Chain.nil))
    (by kernel_rfl) (by rw [hB]; kernel_rfl) ?_
  clear hS; intro a w F hS
  obtain ⟨F, hS⟩ := hS.norm [(0, _), (4, _), (5, _), (6, _), (11, _)] [(0, _)] r5 r1
  try dsimp only [rInt] at hS
  refine then_n ?_
  refine cond_b hS rfl (fun hc0 => ?_) (fun hc0 => ?_)
  ·skip
   have hix : idxL tx l < 1 := by simpa using hc0
   have hg : prevO l tx = (0, false) := by unfold prevO; rw [if_pos hix]
   refine wp_seq ?_
   refine region_seq hS (by kernel_rfl)
     (cF rfl (o_assign (.ci (by kernel_rfl)) (by rfl)) trivial trivial
     (cF rfl (o_assign .cb (by rfl)) trivial trivial
     Chain.nil))
     (by kernel_rfl) (by rw [hB]; kernel_rfl) ?_
   clear hS; intro a w F hS
   obtain ⟨F, hS⟩ := hS.norm [(0, _), (4, _), (5, _), (6, _)] [(0, _)] r4 r1
   try dsimp only [rInt] at hS
   refine then_n ?_
   refine wp_ret ?_
   refine then_r ?_
   refine ret_P hfr hS rfl (.tmp rfl (.tmp rfl .nil)) (.two (.int (by rw [hg]; first | done | rfl | (rw [hxw]; done) | (rw [hxv]; done) | (rw [show IntKind.wrap .i64 (-1 + 1) = 0 by decide]; done))) (.bool (by rw [hg])))
  ·skip
   have hix : ¬ idxL tx l < 1 := by simpa using hc0
   have hg : prevO l tx = (Go.Gm.nth l (idxL tx l - 1).toNat, true) := by unfold prevO; rw [if_neg hix]
   refine wp_skip ?_
   refine then_n ?_
   refine wp_seq ?_
   refine region_seq hS (by kernel_rfl)
     (cF rfl (o_move .t (by rfl)) r1 trivial
     (cF rfl (o_move .t (by rfl)) r1 trivial
     (cF rfl (o_sub .t (.ci (by kernel_rfl))) r1 trivial
     (cF rfl (o_indexAddr_sl (sz := 1) (.mk Try.underlying30 (by kernel_rfl)) (by intro x; rfl) .t .t (by rw [hxv]; omega) (by rw [hxv]; omega)) r2 trivial
     (cF rfl (o_load_ref (ag := false) (sz := 1) .t (by kernel_rfl) (by kernel_rfl) (by kernel_rfl)) r1 trivial
     (cF rfl (o_assign .t (by rfl)) r1 trivial
     (cF rfl (o_assign .cb (by rfl)) trivial trivial
     Chain.nil)))))))
     (by kernel_rfl) (by rw [hB]; kernel_rfl) ?_
   clear hS; intro a w F hS
   obtain ⟨F, hS⟩ := hS.norm [(4, _), (5, _)] [(0, _)] r2 r1
   try dsimp only [List.map, List.drop_succ_cons, List.drop_zero, List.drop_nil, List.take_succ_cons, List.take_zero, List.take_nil, ldSF, rInt] at hS
   try simp only [Int.toNat_natCast] at hS
   refine then_n ?_
   refine wp_ret ?_
   refine ret_P hfr hS rfl (.tmp rfl (.tmp rfl .nil)) (.two (.int (by rw [hg]; first | done | rfl | (rw [hxw]; done) | (rw [hxv]; done) | (rw [show IntKind.wrap .i64 (-1 + 1) = 0 by decide]; done))) (.bool (by rw [hg])))

end Go.Proofs.Ytpjjmolibanakaa
