/- Move. No condition beyond those that each theorem says. -/
import Derived.Test.YtpjjmolibanakaaGreatOr5
namespace Go.Proofs.YtpjjmolibanakaaGreat
open Go Go.Gm
set_option linter.unusedVariables false
set_option linter.unusedSimpArgs false
set_option maxHeartbeats 4000000
set_option maxRecDepth 8000


theorem moveO_fwd {l : List Int} {tx place : Int} (h0 : 0 ≤ idxL tx l) (h1 : idxL tx l < place) (h2 : place < l.length) : (l.take (idxL tx l).toNat ++ (l.take (place + 1).toNat).drop (idxL tx l + 1).toNat ++ l.drop place.toNat).set place.toNat tx = (moveO l tx place).1 := by
  unfold moveO
  rw [if_neg (by omega), if_neg (by simp; omega)]
  have := move_fwd (l := l) (i := (idxL tx l).toNat) (p := place.toNat) (x := tx) (by omega) (by omega)
  rw [Int.toNat_of_nonneg (by omega)] at this
  rw [show (place + 1).toNat = place.toNat + 1 by omega, show (idxL tx l + 1).toNat = (idxL tx l).toNat + 1 by omega, List.drop_take, show place.toNat + 1 - ((idxL tx l).toNat + 1) = place.toNat - (idxL tx l).toNat by omega, this]
theorem moveO_bwd {l : List Int} {tx place : Int} (h0 : 0 ≤ place) (h1 : place ≤ idxL tx l) (h2 : idxL tx l < l.length) : (l.take (place + 1).toNat ++ (l.take (idxL tx l).toNat).drop place.toNat ++ l.drop (idxL tx l + 1).toNat).set place.toNat tx = (moveO l tx place).1 := by
  unfold moveO
  rw [if_neg (by omega), if_neg (by simp; omega)]
  have := move_bwd (l := l) (i := (idxL tx l).toNat) (p := place.toNat) (x := tx) (by omega) (by omega)
  rw [Int.toNat_of_nonneg (by omega)] at this
  rw [show (place + 1).toNat = place.toNat + 1 by omega, show (idxL tx l + 1).toNat = (idxL tx l).toNat + 1 by omega, List.drop_take, this]
theorem moveO_len (l : List Int) (tx place : Int) : (moveO l tx place).1.length ≤ l.length := by
  unfold moveO
  split
  · simp
  · split
    · simp
    · rename_i h1 h2
      have hr := idxL_range tx l
      have h3 : (l.eraseIdx (idxL tx l).toNat).length = l.length - 1 := by rw [List.length_eraseIdx, if_pos (by omega)]
      show (insL _ _ _).length ≤ _
      unfold insL
      split
      · rw [List.length_append, List.length_cons, List.length_take, List.length_drop]; omega
      · omega
theorem omove_c (l : List Int) (tx place : Int) (hl : l.length ≤ 1000000) : FnP Tryz.prog 75 [.sl rInt l, .int .i64 tx, .int .i64 place] (.tup [.sl rInt (moveO l tx place).1, .int .i64 (moveO l tx place).2]) := by
  refine FnP.mk Tryz.func75 rfl Tryz.ntmps75 rfl ?_
  intro B a w F hB hfr hS
  have hll := Sat.lenSl hS (i := 0) rfl
  have hxr := idxL_range tx l
  have hxw : IntKind.wrap .i64 (idxL tx l + 1) = idxL tx l + 1 := wrap_i64 (by omega)
  refine wp_seq ?_
  refine region_q hS
    (cF rfl (oN (.c rfl)) trivial trivial
    (cF rfl (oN (.ci (by kernel_rfl))) trivial trivial
    Chain.nil))
    hB ?_
  clear hS; intro a w F hS
  obtain ⟨F, hS⟩ := hS.nm [7, 6, 2, 1, 0] [0] rfl rfl
  try dsimp only [rInt] at hS
  refine then_n (wp_seq ?_)
  refine region_q hS
    (cF rfl (oM .t) r1 trivial
    (cF rfl (oM .t) r1 trivial
    (cF rfl (oP (index_c l tx) Tryz.func108 (Args.two .t .t)) r2 trivial
    (cF rfl (oN .t) r1 trivial
    Chain.nil))))
    hB ?_
  clear hS; intro a w F hS
  obtain ⟨F, hS⟩ := hS.nm [8, 7, 6, 2, 1, 0] [0] rfl rfl
  try dsimp only [rInt] at hS
  refine then_n (wp_seq (wp_block (wp_seq ?_)))
  refine region_q hS
    (cF rfl (oM .t) r1 trivial
    (cF rfl (o_lss .t (.ci (by kernel_rfl))) r1 trivial
    (cF rfl (oN .t) r1 trivial
    Chain.nil)))
    hB ?_
  clear hS; intro a w F hS
  obtain ⟨F, hS⟩ := hS.nm [13, 8, 7, 6, 2, 1, 0] [0] rfl rfl
  try dsimp only [rInt] at hS
  refine then_n ?_
  refine cond_b hS rfl (fun hc0 => ?_) (fun hc0 => ?_)
  ·skip
   have hix : idxL tx l < 0 := by simpa using hc0
   have hm : moveO l tx place = ([], 3) := if_pos hix
   refine wp_seq ?_
   refine region_q hS
     (cF rfl (oN (.c rfl)) trivial trivial
     (cF rfl (oN (.ci (by kernel_rfl))) trivial trivial
     Chain.nil))
     hB ?_
   clear hS; intro a w F hS
   obtain ⟨F, hS⟩ := hS.nm [8, 7, 6, 2, 1, 0] [0] rfl rfl
   try dsimp only [rInt] at hS
   refine then_n (wp_ret (block_r (then_r ?_)))
   refine ret_P hfr hS rfl (.tmp rfl (.tmp rfl .nil)) (.two (.trans .nilSl (.sl (by first | (rw [hm]; done) | exact hm1))) (.int (by first | (rw [hm]; done) | exact hm2)))
  have hix : 0 ≤ idxL tx l := by simp at hc0; omega
  refine wp_seq ?_
  refine region_q hS
    (cF rfl (oM .t) r1 trivial
    (cF rfl (o_lss .t (.ci (by kernel_rfl))) r1 trivial
    (cF rfl (oM .t) r1 trivial
    (Chain.cons (Cert.cond rfl rfl (fun h => o_move .t (by rfl))) r2 trivial
    (Chain.cons (Cert.cond rfl rfl (fun h => o_move .t (by rfl))) r2 trivial
    (Chain.cons (Cert.cond rfl rfl (fun h => o_len_sl Tryz.underlying37 (.w h))) r2 trivial
    (Chain.cons (Cert.cond rfl rfl (fun h => o_geq (.w h) (.w h))) r3 trivial
    (cF rfl (o_or2 .t .t) r2 trivial
    (cF rfl (oN .t) r1 trivial
    Chain.nil)))))))))
    hB ?_
  clear hS; intro a w F hS
  obtain ⟨F, hS⟩ := hS.nm [16, 8, 7, 6, 2, 1, 0] [0] rfl rfl
  try dsimp only [rInt] at hS
  refine then_n ?_
  refine cond_b hS rfl (fun hc1 => ?_) (fun hc1 => ?_)
  ·skip
   have hpl : ¬ (0 ≤ place ∧ place < l.length) := by simp at hc1; omega
   have hm : moveO l tx place = ([], 1) := (if_neg (by omega)).trans (if_pos hpl)
   refine wp_seq ?_
   refine region_q hS
     (cF rfl (oN (.c rfl)) trivial trivial
     (cF rfl (oN (.ci (by kernel_rfl))) trivial trivial
     Chain.nil))
     hB ?_
   clear hS; intro a w F hS
   obtain ⟨F, hS⟩ := hS.nm [8, 7, 6, 2, 1, 0] [0] rfl rfl
   try dsimp only [rInt] at hS
   refine then_n (wp_ret (block_r (then_r ?_)))
   refine ret_P hfr hS rfl (.tmp rfl (.tmp rfl .nil)) (.two (.trans .nilSl (.sl (by first | (rw [hm]; done) | exact hm1))) (.int (by first | (rw [hm]; done) | exact hm2)))
  have hpl : 0 ≤ place ∧ place < l.length := by simp at hc1; omega
  have hpw : IntKind.wrap .i64 (place + 1) = place + 1 := wrap_i64 (by omega)
  have hm2 : 0 = (moveO l tx place).2 := by unfold moveO; rw [if_neg (by omega), if_neg (by simp; omega)]
  refine wp_skip (block_n (then_n (wp_seq ?_)))
  replace hS := hS.fresh 101 rfl
  refine region_q hS
    (cF rfl (oM .t) r1 trivial
    (cF rfl (o_callN 101 (cloneI_c l hl) Tryz.func47 rfl (by kernel_rfl) (Args.one .t) pvOne1) r1 r1
    (cF rfl (oN .t) r1 trivial
    Chain.nil)))
    hB ?_
  clear hS; intro a w F hS
  replace hS := hS.sub
  obtain ⟨F, hS⟩ := hS.nm [9, 8, 7, 6, 2, 1, 0] [101, 0] rfl rfl
  try dsimp only [RS.sub, SF.sub, CF.sub, csub, Anc.sub, List.map, rInt] at hS
  generalize Act.tau a 26 = v26 at hS
  refine then_n (wp_seq (wp_seq ?_))
  refine region_q hS
    (cF rfl (oM .t) r1 trivial
    (cF rfl (oM .t) r1 trivial
    (cF rfl (o_lss .t .t) r2 trivial
    Chain.nil)))
    hB ?_
  clear hS; intro a w F hS
  obtain ⟨F, hS⟩ := hS.nm [29, 9, 8, 7, 6, 2, 1, 0] [101, 0] rfl rfl
  try dsimp only [rInt] at hS
  refine then_n ?_
  refine cond_b hS rfl (fun hc2 => ?_) (fun hc2 => ?_)
  ·skip
   have hip : idxL tx l < place := by simpa using hc2
   refine region_any (by kernel_rfl) hS (by kernel_rfl)
     (cF rfl (oM .t) r1 trivial
     (cF rfl (oM .t) r1 trivial
     (cF rfl (oM .t) r1 trivial
     (cF rfl (o_sub_lh 101 (.mk Tryz.underlying37 (by kernel_rfl)) .is .t .t (by first | omega | (rw [hxw, hpw]; omega) | (rw [hpw]; omega) | (rw [hxw]; omega)) (by first | omega | (rw [hxw, hpw]; omega) | (rw [hpw]; omega) | (rw [hxw]; omega)) (by first | omega | (rw [hxw, hpw]; omega) | (rw [hpw]; omega) | (rw [hxw]; omega)) (by first | omega | (rw [hxw, hpw]; omega) | (rw [hpw]; omega) | (rw [hxw]; omega))) r3 r1
     (cF rfl (oM .t) r1 trivial
     (cF rfl (oM .t) r1 trivial
     (cF rfl (o_add .t (.ci (by kernel_rfl))) r1 trivial
     (cF rfl (oM .t) r1 trivial
     (cF rfl (o_add .t (.ci (by kernel_rfl))) r1 trivial
     (cF rfl (o_slice_lh (sz := 1) (.mk Tryz.underlying37 (by kernel_rfl)) (by intro x; rfl) .t .t .t (by first | omega | (rw [hxw, hpw]; omega) | (rw [hpw]; omega) | (rw [hxw]; omega)) (by first | omega | (rw [hxw, hpw]; omega) | (rw [hpw]; omega) | (rw [hxw]; omega)) (by first | omega | (rw [hxw, hpw]; omega) | (rw [hpw]; omega) | (rw [hxw]; omega))) r3 trivial
     (cF rfl (o_copy_lh 101 Tryz.underlying37 (by kernel_rfl) (by intro x; rfl) .t .t (by first | omega | (rw [hxw, hpw]; omega) | (rw [hpw]; omega) | (rw [hxw]; omega)) (by first | omega | (rw [hxw, hpw]; omega) | (rw [hpw]; omega) | (rw [hxw]; omega)) (by first | omega | (rw [hxw, hpw]; omega) | (rw [hpw]; omega) | (rw [hxw]; omega)) (by simp only [hxw, hpw, List.length_take, List.length_drop]; omega)) r2 r1
     Chain.nil)))))))))))
     (by kernel_rfl) (by rw [hB]; kernel_rfl) ?_
   clear hS; intro a w F hS
   obtain ⟨F, hS⟩ := hS.nm [9, 7, 6, 2, 1] [101, 0] rfl rfl
   try dsimp only [rInt] at hS
   rw [hxw, hpw] at hS
   obtain ⟨l2, hl2⟩ : ∃ l2, l2 = l.take (idxL tx l).toNat ++ (l.take (place + 1).toNat).drop (idxL tx l + 1).toNat ++ l.drop place.toNat := ⟨_, rfl⟩
   rw [← hl2] at hS
   have hll2 : l2.length = l.length := by rw [hl2]; simp only [List.length_append, List.length_take, List.length_drop]; omega
   have hm1 : l2.set place.toNat tx = (moveO l tx place).1 := by rw [hl2]; exact moveO_fwd (by omega) hip (by omega)
   refine then_n (wp_seq ?_)
   refine region_q hS
     (cF rfl (oM .t) r1 trivial
     (cF rfl (oM .t) r1 trivial
     (cF rfl (oM .t) r1 trivial
     (cF rfl (o_indexAddr_row (sz := 1) 101 (.mk Tryz.underlying37 (by kernel_rfl)) .is .t (by omega) (by omega) (by rfl)) r2 r1
     (cF rfl (o_store_row1 (R := rInt) (sz := 1) (v := tx) 101 .t (by intro x; rfl) (by omega) .t rfl one_int (by kernel_rfl)) r2 r1
     Chain.nil)))))
     hB ?_
   clear hS; intro a w F hS
   obtain ⟨F, hS⟩ := hS.nm [9, 7, 6] [101, 0] rfl rfl
   try dsimp only [List.map, stCells, xL, xM, Nat.reduceAdd, xD, xE, xT, xU, xC, xN, zCF, rInt] at hS
   try simp only [Int.toNat_natCast] at hS
   refine then_n (wp_seq ?_)
   refine region_q hS
     (cF rfl (oM .t) r1 trivial
     (cF rfl (oN .t) r1 trivial
     (cF rfl (oN (.ci (by kernel_rfl))) trivial trivial
     Chain.nil)))
     hB ?_
   clear hS; intro a w F hS
   obtain ⟨F, hS⟩ := hS.nm [7, 6] [101, 0] rfl rfl
   try dsimp only [rInt] at hS
   refine then_n (wp_ret ?_)
   obtain ⟨F, hS⟩ := hS.give 101 6 rfl rfl
   refine ret_P hfr hS rfl (.tmp rfl (.tmp rfl .nil)) (.two (.sl (by first | (rw [hm]; done) | exact hm1)) (.int (by first | (rw [hm]; done) | exact hm2)))
  have hip : place ≤ idxL tx l := by simp at hc2; omega
  refine region_any (by kernel_rfl) hS (by kernel_rfl)
    (cF rfl (oM .t) r1 trivial
    (cF rfl (oM .t) r1 trivial
    (cF rfl (o_add .t (.ci (by kernel_rfl))) r1 trivial
    (cF rfl (oM .t) r1 trivial
    (cF rfl (o_add .t (.ci (by kernel_rfl))) r1 trivial
    (cF rfl (o_sub_lh 101 (.mk Tryz.underlying37 (by kernel_rfl)) .is .t .t (by first | omega | (rw [hxw, hpw]; omega) | (rw [hpw]; omega) | (rw [hxw]; omega)) (by first | omega | (rw [hxw, hpw]; omega) | (rw [hpw]; omega) | (rw [hxw]; omega)) (by first | omega | (rw [hxw, hpw]; omega) | (rw [hpw]; omega) | (rw [hxw]; omega)) (by first | omega | (rw [hxw, hpw]; omega) | (rw [hpw]; omega) | (rw [hxw]; omega))) r3 r1
    (cF rfl (oM .t) r1 trivial
    (cF rfl (oM .t) r1 trivial
    (cF rfl (oM .t) r1 trivial
    (cF rfl (o_slice_lh (sz := 1) (.mk Tryz.underlying37 (by kernel_rfl)) (by intro x; rfl) .t .t .t (by first | omega | (rw [hxw, hpw]; omega) | (rw [hpw]; omega) | (rw [hxw]; omega)) (by first | omega | (rw [hxw, hpw]; omega) | (rw [hpw]; omega) | (rw [hxw]; omega)) (by first | omega | (rw [hxw, hpw]; omega) | (rw [hpw]; omega) | (rw [hxw]; omega))) r3 trivial
    (cF rfl (o_copy_lh 101 Tryz.underlying37 (by kernel_rfl) (by intro x; rfl) .t .t (by first | omega | (rw [hxw, hpw]; omega) | (rw [hpw]; omega) | (rw [hxw]; omega)) (by first | omega | (rw [hxw, hpw]; omega) | (rw [hpw]; omega) | (rw [hxw]; omega)) (by first | omega | (rw [hxw, hpw]; omega) | (rw [hpw]; omega) | (rw [hxw]; omega)) (by simp only [hxw, hpw, List.length_take, List.length_drop]; omega)) r2 r1
    Chain.nil)))))))))))
    (by kernel_rfl) (by rw [hB]; kernel_rfl) ?_
  clear hS; intro a w F hS
  obtain ⟨F, hS⟩ := hS.nm [9, 7, 6, 2, 1] [101, 0] rfl rfl
  try dsimp only [rInt] at hS
  rw [hxw, hpw] at hS
  obtain ⟨l2, hl2⟩ : ∃ l2, l2 = l.take (place + 1).toNat ++ (l.take (idxL tx l).toNat).drop place.toNat ++ l.drop (idxL tx l + 1).toNat := ⟨_, rfl⟩
  rw [← hl2] at hS
  have hll2 : l2.length = l.length := by rw [hl2]; simp only [List.length_append, List.length_take, List.length_drop]; omega
  have hm1 : l2.set place.toNat tx = (moveO l tx place).1 := by rw [hl2]; exact moveO_bwd (by omega) hip (by omega)
  refine then_n (wp_seq ?_)
  refine region_q hS
    (cF rfl (oM .t) r1 trivial
    (cF rfl (oM .t) r1 trivial
    (cF rfl (oM .t) r1 trivial
    (cF rfl (o_indexAddr_row (sz := 1) 101 (.mk Tryz.underlying37 (by kernel_rfl)) .is .t (by omega) (by omega) (by rfl)) r2 r1
    (cF rfl (o_store_row1 (R := rInt) (sz := 1) (v := tx) 101 .t (by intro x; rfl) (by omega) .t rfl one_int (by kernel_rfl)) r2 r1
    Chain.nil)))))
    hB ?_
  clear hS; intro a w F hS
  obtain ⟨F, hS⟩ := hS.nm [9, 7, 6] [101, 0] rfl rfl
  try dsimp only [List.map, stCells, xL, xM, Nat.reduceAdd, xD, xE, xT, xU, xC, xN, zCF, rInt] at hS
  try simp only [Int.toNat_natCast] at hS
  refine then_n (wp_seq ?_)
  refine region_q hS
    (cF rfl (oM .t) r1 trivial
    (cF rfl (oN .t) r1 trivial
    (cF rfl (oN (.ci (by kernel_rfl))) trivial trivial
    Chain.nil)))
    hB ?_
  clear hS; intro a w F hS
  obtain ⟨F, hS⟩ := hS.nm [7, 6] [101, 0] rfl rfl
  try dsimp only [rInt] at hS
  refine then_n (wp_ret ?_)
  obtain ⟨F, hS⟩ := hS.give 101 6 rfl rfl
  refine ret_P hfr hS rfl (.tmp rfl (.tmp rfl .nil)) (.two (.sl (by first | (rw [hm]; done) | exact hm1)) (.int (by first | (rw [hm]; done) | exact hm2)))

theorem move11_c (l : List Int) (tx place : Int) (hl : l.length ≤ 1000000) : FnP Tryz.prog 94 [.sl rInt l, .int .i64 tx, .int .i64 place] (.tup [.sl rInt (moveO l tx place).1, .int .i64 (moveO l tx place).2]) := by
  refine FnP.mk Tryz.func94 rfl Tryz.ntmps94 rfl ?_
  intro B a w F hB hfr hS
  have hll := Sat.lenSl hS (i := 0) rfl
  have hxr := idxL_range tx l
  have hxw : IntKind.wrap .i64 (idxL tx l + 1) = idxL tx l + 1 := wrap_i64 (by omega)
  refine wp_seq ?_
  refine region_q hS
    (cF rfl (oN (.c rfl)) trivial trivial
    (cF rfl (oN (.ci (by kernel_rfl))) trivial trivial
    Chain.nil))
    hB ?_
  clear hS; intro a w F hS
  obtain ⟨F, hS⟩ := hS.nm [7, 6, 2, 1, 0] [0] rfl rfl
  try dsimp only [rInt] at hS
  refine then_n (wp_seq ?_)
  refine region_q hS
    (cF rfl (oM .t) r1 trivial
    (cF rfl (oM .t) r1 trivial
    (cF rfl (oP (index07_c l tx) Tryz.func123 (Args.two .t .t)) r2 trivial
    (cF rfl (oN .t) r1 trivial
    Chain.nil))))
    hB ?_
  clear hS; intro a w F hS
  obtain ⟨F, hS⟩ := hS.nm [8, 7, 6, 2, 1, 0] [0] rfl rfl
  try dsimp only [rInt] at hS
  refine then_n (wp_seq (wp_seq ?_))
  refine region_q hS
    (cF rfl (oM .t) r1 trivial
    (cF rfl (o_lss .t (.ci (by kernel_rfl))) r1 trivial
    Chain.nil))
    hB ?_
  clear hS; intro a w F hS
  obtain ⟨F, hS⟩ := hS.nm [15, 8, 7, 6, 2, 1, 0] [0] rfl rfl
  try dsimp only [rInt] at hS
  refine then_n ?_
  refine cond_b hS rfl (fun hc0 => ?_) (fun hc0 => ?_)
  ·skip
   have hix : idxL tx l < 0 := by simpa using hc0
   have hm : moveO l tx place = ([], 3) := if_pos hix
   refine wp_seq ?_
   refine region_q hS
     (cF rfl (oN (.c rfl)) trivial trivial
     (cF rfl (oN (.ci (by kernel_rfl))) trivial trivial
     Chain.nil))
     hB ?_
   clear hS; intro a w F hS
   obtain ⟨F, hS⟩ := hS.nm [8, 7, 6, 2, 1, 0] [0] rfl rfl
   try dsimp only [rInt] at hS
   refine then_n (wp_ret (then_r ?_))
   refine ret_P hfr hS rfl (.tmp rfl (.tmp rfl .nil)) (.two (.trans .nilSl (.sl (by first | (rw [hm]; done) | exact hm1))) (.int (by first | (rw [hm]; done) | exact hm2)))
  have hix : 0 ≤ idxL tx l := by simp at hc0; omega
  refine wp_skip (then_n (wp_seq (wp_seq ?_)))
  refine region_q hS
    (cF rfl (oM .t) r1 trivial
    (cF rfl (oM .t) r1 trivial
    (cF rfl (oP (there07_c l place) Tryz.func124 (Args.two .t .t)) r2 trivial
    (cF rfl (o_not .t) r1 trivial
    Chain.nil))))
    hB ?_
  clear hS; intro a w F hS
  obtain ⟨F, hS⟩ := hS.nm [19, 8, 7, 6, 2, 1, 0] [0] rfl rfl
  try dsimp only [rInt] at hS
  refine then_n ?_
  refine cond_b hS rfl (fun hc1 => ?_) (fun hc1 => ?_)
  ·skip
   have hpl : ¬ (0 ≤ place ∧ place < l.length) := by simp at hc1; omega
   have hm : moveO l tx place = ([], 1) := (if_neg (by omega)).trans (if_pos hpl)
   refine wp_seq ?_
   refine region_q hS
     (cF rfl (oN (.c rfl)) trivial trivial
     (cF rfl (oN (.ci (by kernel_rfl))) trivial trivial
     Chain.nil))
     hB ?_
   clear hS; intro a w F hS
   obtain ⟨F, hS⟩ := hS.nm [8, 7, 6, 2, 1, 0] [0] rfl rfl
   try dsimp only [rInt] at hS
   refine then_n (wp_ret (then_r ?_))
   refine ret_P hfr hS rfl (.tmp rfl (.tmp rfl .nil)) (.two (.trans .nilSl (.sl (by first | (rw [hm]; done) | exact hm1))) (.int (by first | (rw [hm]; done) | exact hm2)))
  have hpl : 0 ≤ place ∧ place < l.length := by simp at hc1; omega
  have hm : moveO l tx place = (insL (l.eraseIdx (idxL tx l).toNat) place tx, 0) := (if_neg (by omega)).trans (if_neg (by simp; omega))
  refine wp_skip (then_n (wp_seq ?_))
  refine region_q hS
    (cF rfl (oM .t) r1 trivial
    (cF rfl (oM .t) r1 trivial
    (cF rfl (oP (del07_c l (idxL tx l) hl (by omega)) Tryz.func126 (Args.two .t .t)) r2 trivial
    (cF rfl (oM .t) r1 trivial
    (cF rfl (oM .t) r1 trivial
    (cF rfl (oP (ins07_c (l.eraseIdx (idxL tx l).toNat) place tx (by rw [List.length_eraseIdx]; split <;> omega)) Tryz.func125 (Args.three .t .t .t)) r3 trivial
    (cF rfl (oM .t) r1 trivial
    (cF rfl (o_extract .t rfl) r1 trivial
    (cF rfl (o_extract .t rfl) r1 trivial
    (cF rfl (oN .t) r1 trivial
    (cF rfl (oN .t) r1 trivial
    Chain.nil)))))))))))
    hB ?_
  clear hS; intro a w F hS
  obtain ⟨F, hS⟩ := hS.nm [9, 7, 6] [0] rfl rfl
  try dsimp only [rInt] at hS
  refine then_n (wp_seq ?_)
  refine region_q hS
    (cF rfl (oM .t) r1 trivial
    (cF rfl (oN .t) r1 trivial
    (cF rfl (oN (.ci (by kernel_rfl))) trivial trivial
    Chain.nil)))
    hB ?_
  clear hS; intro a w F hS
  obtain ⟨F, hS⟩ := hS.nm [7, 6] [0] rfl rfl
  try dsimp only [rInt] at hS
  refine then_n (wp_ret ?_)
  refine ret_P hfr hS rfl (.tmp rfl (.tmp rfl .nil)) (.two (.sl (by first | (rw [hm]; done) | exact hm1)) (.int (by first | (rw [hm]; done) | exact hm2)))

end Go.Proofs.YtpjjmolibanakaaGreat
