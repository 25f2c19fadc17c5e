/- Numbers and transactions of words. No condition beyond those that each theorem says. -/
import Derived.Test.YtjdcnjemhjldoaaDoorCm1
namespace Go.Proofs.YtjdcnjemhjldoaaDoor
open Go Go.Gm
set_option linter.unusedVariables false
set_option linter.unusedSimpArgs false
set_option maxHeartbeats 4000000
set_option maxRecDepth 8000


theorem numbers_c (l : List (List UInt8)) (hs : ∀ x ∈ l, x.length ≤ 1000000) (hn : l.length ≤ 1000000) : FnP Tryd.prog 58 [.sl rS l] (.tup [.sl rInt (numsR l).1, .int .i64 (numsR l).2]) := by
  refine FnP.mk Tryd.func58 rfl Tryd.ntmps58 rfl ?_
  intro B a w F hB hfr hS
  refine wp_seq ?_
  refine region_seq hS (by kernel_rfl)
    (cF rfl (o_assign (.c rfl) (by rfl)) trivial trivial
    (cF rfl (o_assign (.ci (by kernel_rfl)) (by rfl)) trivial trivial
    Chain.nil))
    (by kernel_rfl) (by rw [hB]; kernel_rfl) ?_
  clear hS; intro a w F hS
  obtain ⟨F, hS⟩ := hS.norm [(0, _), (2, _), (3, _)] [(0, _)] r3 r1
  refine then_n ?_
  refine wp_seq ?_
  refine region_seq hS (by kernel_rfl)
    (cF rfl (o_assign (.c rfl) (by rfl)) trivial trivial
    Chain.nil)
    (by kernel_rfl) (by rw [hB]; kernel_rfl) ?_
  clear hS; intro a w F hS
  obtain ⟨F, hS⟩ := hS.norm [(0, _), (2, _), (3, _), (4, _)] [(0, _)] r4 r1
  refine then_n ?_
  refine wp_seq ?_
  refine wp_seq ?_
  refine region_seq hS (by kernel_rfl)
    (cF rfl (o_move .t (by rfl)) r1 trivial
    (cF rfl (o_len_sl Tryd.underlying53 .t) r1 trivial
    (cF rfl (o_move (.ci (by kernel_rfl)) (by rfl)) trivial trivial
    Chain.nil)))
    (by kernel_rfl) (by rw [hB]; kernel_rfl) ?_
  clear hS; intro a w F hS
  obtain ⟨F, hS⟩ := hS.norm [(2, _), (3, _), (4, _), (9, _), (10, _), (11, _)] [(0, _)] r6 r1
  refine then_n ?_
  refine wp_block ?_
  replace hS := hS.fresh 50 rfl
  replace hS := hS.turn 50 rfl (nilRow (T := 3) (sz := 1) (R := rInt))
  obtain ⟨F, hS⟩ := hS.norm [(4, _), (9, _), (10, _), (11, _)] [(0, _), (50, _)] r4 r2
  refine loop_inv (σ := (Nat × Value)) (fun s => (⟨[(4, .pv (.is s.2)), (9, .pv (.sl rS l)), (10, .pv (.int .i64 (l.length : Nat))), (11, .pv (.int .i64 (s.1 : Nat)))], [(0, frame B), (50, .ob (.val s.2) (rowH 3 1 rInt ((valsR l).take s.1)))]⟩ : En)) (fun s => s.1 ≤ l.length ∧ ∀ j, j < s.1 → (readR (nth l j)).2 = 0) (fun s => l.length - s.1) (0, .slice none 0 0) hS ⟨Nat.zero_le _, fun j hj => absurd hj (Nat.not_lt_zero _)⟩ ?_
  clear hS; intro s a w F hC hS
  obtain ⟨i, v⟩ := s
  try dsimp only at hC
  try dsimp only at hS
  obtain ⟨hi0, hz⟩ := hC
  try dsimp only at hi0 hz
  refine wp_seq ?_
  refine region_seq hS (by kernel_rfl)
    (cF rfl (o_lss .t .t) r2 trivial
    Chain.nil)
    (by kernel_rfl) (by rw [hB]; kernel_rfl) ?_
  clear hS; intro a w F hS
  obtain ⟨F, hS⟩ := hS.norm [(4, _), (9, _), (10, _), (11, _), (12, _)] [(0, _), (50, _)] r5 r2
  refine then_n ?_
  refine wp_seq ?_
  refine cond_b hS rfl (fun hc0 => ?_) (fun hc0 => ?_)
  ·skip
   have hi : i < l.length := by have h9 := of_decide_eq_true hc0; omega
   refine wp_skip ?_
   refine then_n ?_
   refine wp_seq ?_
   refine wp_block ?_
   refine wp_seq ?_
   refine region_seq hS (by kernel_rfl)
     (cF rfl (o_indexAddr_sl (sz := 1) (.mk Tryd.underlying53 (by kernel_rfl)) (by intro x; rfl) .t .t (by omega) (by omega)) r2 trivial
     (cF rfl (o_load_ref (ag := false) (sz := 1) .t (by kernel_rfl) (by kernel_rfl) (by kernel_rfl)) r1 trivial
     (cF rfl (o_assign .t (by rfl)) r1 trivial
     Chain.nil)))
     (by kernel_rfl) (by rw [hB]; kernel_rfl) ?_
   clear hS; intro a w F hS
   obtain ⟨F, hS⟩ := hS.norm [(4, _), (6, _), (9, _), (10, _), (11, _), (12, _), (13, _), (14, _)] [(0, _), (50, _)] r8 r2
   try dsimp only [List.map, List.drop_succ_cons, List.drop_zero, List.drop_nil, List.take_succ_cons, List.take_zero, List.take_nil, ldSF] at hS
   rw [Int.toNat_natCast] at hS
   refine then_n ?_
   refine wp_seq ?_
   refine region_seq hS (by kernel_rfl)
     (cF rfl (o_move .t (by rfl)) r1 trivial
     (cF rfl (o_callP (read_c (nth l i) (by have h9 := hs _ (nth_mem hi); omega)) Tryd.func24 rfl (by kernel_rfl) (Args.one .t)) r1 trivial
     (cF rfl (o_move .t (by rfl)) r1 trivial
     (cF rfl (o_extract .t rfl) r1 trivial
     (cF rfl (o_extract .t rfl) r1 trivial
     (cF rfl (o_assign .t (by rfl)) r1 trivial
     (cF rfl (o_assign .t (by rfl)) r1 trivial
     Chain.nil)))))))
     (by kernel_rfl) (by rw [hB]; kernel_rfl) ?_
   clear hS; intro a w F hS
   obtain ⟨F, hS⟩ := hS.norm [(4, _), (6, _), (7, _), (8, _), (9, _), (10, _), (11, _), (12, _), (13, _), (14, _), (15, _), (16, _), (17, _), (18, _), (19, _)] [(0, _), (50, _)] ⟨rfl, rfl, rfl, rfl, rfl, rfl, rfl, rfl, rfl, rfl, rfl, rfl, rfl, rfl, rfl, trivial⟩ r2
   refine then_n ?_
   refine wp_seq ?_
   refine wp_seq ?_
   refine region_seq hS (by kernel_rfl)
     (cF rfl (o_move .t (by rfl)) r1 trivial
     (cF rfl (o_neq .t (.ci (by kernel_rfl))) r1 trivial
     Chain.nil))
     (by kernel_rfl) (by rw [hB]; kernel_rfl) ?_
   clear hS; intro a w F hS
   obtain ⟨F, hS⟩ := hS.norm [(4, _), (6, _), (7, _), (8, _), (9, _), (10, _), (11, _), (12, _), (13, _), (14, _), (15, _), (16, _), (17, _), (18, _), (19, _), (20, _), (21, _)] [(0, _), (50, _)] ⟨rfl, rfl, rfl, rfl, rfl, rfl, rfl, rfl, rfl, rfl, rfl, rfl, rfl, rfl, rfl, rfl, rfl, trivial⟩ r2
   refine then_n ?_
   refine cond_b hS rfl (fun hc1 => ?_) (fun hc1 => ?_)
   ·skip
    have hw : (readR (nth l i)).2 ≠ 0 := by simpa using hc1
    have hb := bad_at hi hz hw
    have hr : numsR l = ([], (readR (nth l i)).2) := by unfold numsR; rw [if_pos (by rw [hb]; exact hw), hb]
    refine wp_seq ?_
    refine region_seq hS (by kernel_rfl)
      (cF rfl (o_move .t (by rfl)) r1 trivial
      (cF rfl (o_assign (.c rfl) (by rfl)) trivial trivial
      (cF rfl (o_assign .t (by rfl)) r1 trivial
      Chain.nil)))
      (by kernel_rfl) (by rw [hB]; kernel_rfl) ?_
    clear hS; intro a w F hS
    obtain ⟨F, hS⟩ := hS.norm [(2, _), (3, _), (4, _), (6, _), (7, _), (8, _), (9, _), (10, _), (11, _), (12, _), (13, _), (14, _), (15, _), (16, _), (17, _), (18, _), (19, _), (20, _), (21, _), (22, _)] [(0, _), (50, _)] ⟨rfl, rfl, rfl, rfl, rfl, rfl, rfl, rfl, rfl, rfl, rfl, rfl, rfl, rfl, rfl, rfl, rfl, rfl, rfl, rfl, trivial⟩ r2
    refine then_n ?_
    refine wp_ret ?_
    refine then_r ?_
    refine block_r ?_
    refine then_r ?_
    refine then_r ?_
    refine block_r ?_
    refine then_r ?_
    refine ret_P hfr hS rfl (.tmp rfl (.tmp rfl .nil)) (.two (.trans .nilSl (.sl (by rw [hr]))) (.int (by rw [hr])))
   ·skip
    have hzi : (readR (nth l i)).2 = 0 := by simpa using hc1
    refine wp_skip ?_
    refine then_n ?_
    refine region_seq hS (by kernel_rfl)
      (cF rfl (o_move .t (by rfl)) r1 trivial
      (cF rfl (o_move .t (by rfl)) r1 trivial
      (cF rfl (o_buildSliceE (sz := 1) (zs := [.int .i64 0]) (r := [(0, .tmp 24)]) (l := [_]) Tryd.underlying40 (by kernel_rfl) (by kernel_rfl) (by kernel_rfl) (by kernel_rfl) rfl rfl (.one rfl .t one_int (by kernel_rfl) .nil) rfl) r1 trivial
      (cF rfl (o_append (sz := 1) (bs := 8) 50 (.mk' Tryd.underlying40 (by kernel_rfl) (by kernel_rfl)) (by intro x; rfl) .is (.arr (l' := [(readR (nth l i)).1]) .t) (by simp only [List.length_cons, List.length_nil, List.length_take]; rw [vals_len]; omega) (by decide)) ⟨rfl, rfl, trivial⟩ ⟨rfl, trivial⟩
      (cF rfl (o_assign .t (by rfl)) r1 trivial
      Chain.nil)))))
      (by kernel_rfl) (by rw [hB]; kernel_rfl) ?_
    clear hS; intro a w F hS
    replace hS := hS.sub
    obtain ⟨F, hS⟩ := hS.norm [(4, _), (6, _), (7, _), (8, _), (9, _), (10, _), (11, _), (12, _), (13, _), (14, _), (15, _), (16, _), (17, _), (18, _), (19, _), (20, _), (21, _), (23, _), (24, _), (25, _), (26, _)] [(0, _), (50, _)] ⟨rfl, rfl, rfl, rfl, rfl, rfl, rfl, rfl, rfl, rfl, rfl, rfl, rfl, rfl, rfl, rfl, rfl, rfl, rfl, rfl, rfl, trivial⟩ r2
    try dsimp only [RS.sub, SF.sub, CF.sub, csub, Anc.sub, List.map, stCells, List.length_cons, List.length_nil, Nat.reduceAdd, List.drop_succ_cons, List.drop_zero, List.drop_nil, List.take_succ_cons, List.take_zero, List.take_nil, List.cons_append, List.nil_append, zCF] at hS
    generalize Act.tau a 26 = v26 at hS
    refine block_n ?_
    refine then_n ?_
    refine region_seq hS (by kernel_rfl)
      (cF rfl (o_add .t (.ci (by kernel_rfl))) r1 trivial
      (cF rfl (o_move .t (by rfl)) r1 trivial
      Chain.nil))
      (by kernel_rfl) (by rw [hB]; kernel_rfl) ?_
    clear hS; intro a w F hS
    obtain ⟨F, hS⟩ := hS.norm [(4, _), (6, _), (7, _), (8, _), (9, _), (10, _), (11, _), (12, _), (13, _), (14, _), (15, _), (16, _), (17, _), (18, _), (19, _), (20, _), (21, _), (23, _), (24, _), (25, _), (26, _), (27, _)] [(0, _), (50, _)] ⟨rfl, rfl, rfl, rfl, rfl, rfl, rfl, rfl, rfl, rfl, rfl, rfl, rfl, rfl, rfl, rfl, rfl, rfl, rfl, rfl, rfl, rfl, trivial⟩ r2
    refine then_n ?_
    rw [show (valsR l).take i ++ [(readR (nth l i)).1] = (valsR l).take (i + 1) from map_take_next (f := fun x => (readR x).1) (by omega)] at hS
    replace hS := hS.ent (i := 11) (s' := .pv (.int .i64 ((i + 1 : Nat) : Int))) rfl (.int (wrap_succ (by omega)))
    obtain ⟨F, hS⟩ := hS.norm [(4, _), (9, _), (10, _), (11, _)] [(0, _), (50, _)] r4 r2
    exact ⟨(i + 1, v26), F, ⟨by dsimp only; omega, fun j hj => (Nat.lt_or_ge j i).elim (hz j) (fun h1 => (show i = j by dsimp only at hj; omega) ▸ hzi)⟩, hS, by dsimp only; omega⟩
  ·skip
   have hil : i = l.length := by have h9 := of_decide_eq_false hc0; omega
   have hbz := bad_none (l := l) (fun j hj => hz j (by omega))
   have hr : numsR l = (valsR l, 0) := by unfold numsR; rw [if_neg (by rw [hbz]; decide)]
   rw [show (valsR l).take i = valsR l from List.take_of_length_le (by rw [vals_len]; omega)] at hS
   refine wp_exit ?_
   refine then_x ?_
   refine then_x ?_
   refine block_x ?_
   refine then_n ?_
   refine wp_seq ?_
   obtain ⟨F, hS⟩ := hS.give 50 4 rfl rfl
   obtain ⟨F, hS⟩ := hS.norm [(4, _), (9, _), (10, _), (11, _), (12, _)] [(0, _)] r5 r1
   refine region_seq hS (by kernel_rfl)
     (cF rfl (o_move .t (by rfl)) r1 trivial
     (cF rfl (o_assign .t (by rfl)) r1 trivial
     (cF rfl (o_assign (.ci (by kernel_rfl)) (by rfl)) trivial trivial
     Chain.nil)))
     (by kernel_rfl) (by rw [hB]; kernel_rfl) ?_
   clear hS; intro a w F hS
   obtain ⟨F, hS⟩ := hS.norm [(2, _), (3, _)] [(0, _)] r2 r1
   refine then_n ?_
   refine wp_ret ?_
   refine ret_P hfr hS rfl (.tmp rfl (.tmp rfl .nil)) (.two (.sl (by rw [hr])) (.int (by rw [hr])))

theorem transaction_c (l : List (List UInt8)) (hs : ∀ x ∈ l, x.length ≤ 1000000) (hn : l.length ≤ 1000000) (h2 : 2 ≤ l.length) : FnP Tryd.prog 56 [.sl rS l] (.tup [.agg (rTx (txR l).1), .int .i64 (txR l).2]) := by
  refine FnP.mk Tryd.func56 rfl Tryd.ntmps56 rfl ?_
  intro B a w F hB hfr hS
  refine wp_seq ?_
  refine region_seq hS (by kernel_rfl)
    (cF rfl (o_alloc (zs := [.int .i64 0, .bool false, .slice none 0 0]) 101 (by kernel_rfl)) trivial trivial
    (cF rfl (o_assign (.ci (by kernel_rfl)) (by rfl)) trivial trivial
    Chain.nil))
    (by kernel_rfl) (by rw [hB]; kernel_rfl) ?_
  clear hS; intro a w F hS
  replace hS := hS.sub
  obtain ⟨F, hS⟩ := hS.norm [(0, _), (2, _), (3, _)] [(0, _), (101, _)] r3 r2
  try dsimp only [RS.sub, SF.sub, CF.sub, csub, Anc.sub, List.map, zCF] at hS
  generalize Act.tau a 2 = v2 at hS
  refine then_n ?_
  refine wp_seq ?_
  refine wp_seq ?_
  refine region_seq hS (by kernel_rfl)
    (cF rfl (o_move .t (by rfl)) r1 trivial
    (cF rfl (o_len_sl Tryd.underlying53 .t) r1 trivial
    (cF rfl (o_sub .t (.ci (by kernel_rfl))) r1 trivial
    (cF rfl (o_gtr .t (.ci (by kernel_rfl))) r1 trivial
    Chain.nil))))
    (by kernel_rfl) (by rw [hB]; kernel_rfl) ?_
  clear hS; intro a w F hS
  obtain ⟨F, hS⟩ := hS.norm [(0, _), (2, _), (3, _), (14, _)] [(0, _), (101, _)] r4 r2
  refine then_n ?_
  refine cond_b hS rfl (fun hc0 => ?_) (fun hc0 => ?_)
  ·skip
   have hr : txR l = (zeroT, 9) := by unfold txR; rw [if_pos (by have h9 := of_decide_eq_true hc0; rw [wrap_i64 (by omega)] at h9; omega)]
   refine wp_seq ?_
   refine region_seq hS (by kernel_rfl)
     (cF rfl (o_build (r := []) (zs := [.int .i64 0, .bool false, .slice none 0 0]) (pl := [(0, 1), (1, 1), (2, 1)]) (by kernel_rfl) (by kernel_rfl) .nil (by rfl)) trivial trivial
     (cF rfl (o_storeA (sz := 3) 101 .is .t (by kernel_rfl) (by kernel_rfl) (by kernel_rfl)) r2 r1
     (cF rfl (o_assign (.ci (by kernel_rfl)) (by rfl)) trivial trivial
     Chain.nil)))
     (by kernel_rfl) (by rw [hB]; kernel_rfl) ?_
   clear hS; intro a w F hS
   obtain ⟨F, hS⟩ := hS.norm [(0, _), (2, _), (3, _)] [(0, _), (101, _)] r3 r2
   try dsimp only [List.map, stCells, List.length_cons, List.length_nil, Nat.reduceAdd, List.drop_succ_cons, List.drop_zero, List.drop_nil, List.take_succ_cons, List.take_zero, List.take_nil, List.cons_append, List.nil_append, zCF] at hS
   refine then_n ?_
   refine wp_ret ?_
   refine then_r ?_
   refine ret_P hfr hS rfl (.cell (n := 101) (ag := true) (sz := 3) rfl .is rfl (by kernel_rfl) (by kernel_rfl) (by kernel_rfl) (.tmp rfl .nil)) (.two (.aggLe rfl (by rw [hr]; exact ⟨.refl, .refl, .nilSl, trivial⟩)) (.int (by rw [hr])))
  ·skip
   have hl4 : ¬ 4097 < l.length := by have h9 := of_decide_eq_false hc0; rw [wrap_i64 (by omega)] at h9; omega
   have hd2 : (l.drop 2).length = l.length - 2 := by rw [List.length_drop]
   refine wp_skip ?_
   refine then_n ?_
   refine wp_seq ?_
   refine region_seq hS (by kernel_rfl)
     (cF rfl (o_move .t (by rfl)) r1 trivial
     (cF rfl (o_indexAddr_sl (sz := 1) (.mk Tryd.underlying53 (by kernel_rfl)) (by intro x; rfl) .t (.ci (by kernel_rfl)) (by decide) (by omega)) r1 trivial
     (cF rfl (o_load_ref (ag := false) (sz := 1) .t (by kernel_rfl) (by kernel_rfl) (by kernel_rfl)) r1 trivial
     (cF rfl (o_callP (read_c (nth l 0) (by have h9 := hs _ (nth_mem (show 0 < l.length by omega)); omega)) Tryd.func24 rfl (by kernel_rfl) (Args.one .t)) r1 trivial
     (cF rfl (o_move .t (by rfl)) r1 trivial
     (cF rfl (o_extract .t rfl) r1 trivial
     (cF rfl (o_extract .t rfl) r1 trivial
     (cF rfl (o_assign .t (by rfl)) r1 trivial
     (cF rfl (o_assign .t (by rfl)) r1 trivial
     Chain.nil)))))))))
     (by kernel_rfl) (by rw [hB]; kernel_rfl) ?_
   clear hS; intro a w F hS
   obtain ⟨F, hS⟩ := hS.norm [(0, _), (2, _), (3, _), (4, _), (5, _)] [(0, _), (101, _)] r5 r2
   try dsimp only [List.map, List.drop_succ_cons, List.drop_zero, List.drop_nil, List.take_succ_cons, List.take_zero, List.take_nil, ldSF] at hS
   refine then_n ?_
   refine wp_seq ?_
   refine wp_block ?_
   refine wp_seq ?_
   refine region_seq hS (by kernel_rfl)
     (cF rfl (o_move .t (by rfl)) r1 trivial
     (cF rfl (o_neq .t (.ci (by kernel_rfl))) r1 trivial
     (cF rfl (o_assign .t (by rfl)) r1 trivial
     Chain.nil)))
     (by kernel_rfl) (by rw [hB]; kernel_rfl) ?_
   clear hS; intro a w F hS
   obtain ⟨F, hS⟩ := hS.norm [(0, _), (2, _), (3, _), (4, _), (5, _), (23, _)] [(0, _), (101, _)] r6 r2
   refine then_n ?_
   refine cond_b hS rfl (fun hc1 => ?_) (fun hc1 => ?_)
   ·skip
    have hw : (readR (nth l 0)).2 ≠ 0 := by simpa using hc1
    have hr : txR l = (zeroT, (readR (nth l 0)).2) := by unfold txR; rw [if_neg hl4, if_pos hw]
    refine wp_seq ?_
    refine region_seq hS (by kernel_rfl)
      (cF rfl (o_build (r := []) (zs := [.int .i64 0, .bool false, .slice none 0 0]) (pl := [(0, 1), (1, 1), (2, 1)]) (by kernel_rfl) (by kernel_rfl) .nil (by rfl)) trivial trivial
      (cF rfl (o_move .t (by rfl)) r1 trivial
      (cF rfl (o_storeA (sz := 3) 101 .is .t (by kernel_rfl) (by kernel_rfl) (by kernel_rfl)) r2 r1
      (cF rfl (o_assign .t (by rfl)) r1 trivial
      Chain.nil))))
      (by kernel_rfl) (by rw [hB]; kernel_rfl) ?_
    clear hS; intro a w F hS
    obtain ⟨F, hS⟩ := hS.norm [(0, _), (2, _), (3, _), (4, _)] [(0, _), (101, _)] r4 r2
    try dsimp only [List.map, stCells, List.length_cons, List.length_nil, Nat.reduceAdd, List.drop_succ_cons, List.drop_zero, List.drop_nil, List.take_succ_cons, List.take_zero, List.take_nil, List.cons_append, List.nil_append, zCF] at hS
    refine then_n ?_
    refine wp_ret ?_
    refine block_r ?_
    refine then_r ?_
    refine ret_P hfr hS rfl (.cell (n := 101) (ag := true) (sz := 3) rfl .is rfl (by kernel_rfl) (by kernel_rfl) (by kernel_rfl) (.tmp rfl .nil)) (.two (.aggLe rfl (by rw [hr]; exact ⟨.refl, .refl, .nilSl, trivial⟩)) (.int (by rw [hr])))
   ·skip
    have h0 : ¬ (readR (nth l 0)).2 ≠ 0 := by simpa using hc1
    refine wp_seq ?_
    refine region_seq hS (by kernel_rfl)
      (cF rfl (o_move .t (by rfl)) r1 trivial
      (cF rfl (o_indexAddr_sl (sz := 1) (.mk Tryd.underlying53 (by kernel_rfl)) (by intro x; rfl) .t (.ci (by kernel_rfl)) (by decide) (by omega)) r1 trivial
      (cF rfl (o_load_ref (ag := false) (sz := 1) .t (by kernel_rfl) (by kernel_rfl) (by kernel_rfl)) r1 trivial
      (cF rfl (o_neq_bs Tryd.underlying9 .t (.cs (by kernel_rfl))) r1 trivial
      (cF rfl (o_move .t (by rfl)) r1 trivial
      (Chain.cons (Cert.cond rfl rfl (fun h => o_move .t (by rfl))) r2 trivial
      (Chain.cons (Cert.cond rfl rfl (fun h => o_indexAddr_sl (sz := 1) (.mk Tryd.underlying53 (by kernel_rfl)) (by intro x; rfl) (.w h) (.ci (by kernel_rfl)) (by decide) (by omega))) r2 trivial
      (Chain.cons (Cert.cond rfl rfl (fun h => o_load_ref (ag := false) (sz := 1) (.w h) (by kernel_rfl) (by kernel_rfl) (by kernel_rfl))) r2 trivial
      (Chain.cons (Cert.cond rfl rfl (fun h => o_neq_bs Tryd.underlying9 (.w h) (.cs (by kernel_rfl)))) r2 trivial
      (cF rfl (o_and2 .t .t) r2 trivial
      (cF rfl (o_assign .t (by rfl)) r1 trivial
      Chain.nil)))))))))))
      (by kernel_rfl) (by rw [hB]; kernel_rfl) ?_
    clear hS; intro a w F hS
    obtain ⟨F, hS⟩ := hS.norm [(0, _), (2, _), (3, _), (4, _), (28, _)] [(0, _), (101, _)] r5 r2
    try dsimp only [List.map, List.drop_succ_cons, List.drop_zero, List.drop_nil, List.take_succ_cons, List.take_zero, List.take_nil, ldSF] at hS
    refine then_n ?_
    refine cond_b hS rfl (fun hc2 => ?_) (fun hc2 => ?_)
    ·skip
     have h1 : nth l 1 ≠ [99] ∧ nth l 1 ≠ [97] := by simpa using hc2
     have hr : txR l = (zeroT, 11) := by unfold txR; rw [if_neg hl4, if_neg h0, if_pos h1]
     refine wp_seq ?_
     refine region_seq hS (by kernel_rfl)
       (cF rfl (o_build (r := []) (zs := [.int .i64 0, .bool false, .slice none 0 0]) (pl := [(0, 1), (1, 1), (2, 1)]) (by kernel_rfl) (by kernel_rfl) .nil (by rfl)) trivial trivial
       (cF rfl (o_storeA (sz := 3) 101 .is .t (by kernel_rfl) (by kernel_rfl) (by kernel_rfl)) r2 r1
       (cF rfl (o_assign (.ci (by kernel_rfl)) (by rfl)) trivial trivial
       Chain.nil)))
       (by kernel_rfl) (by rw [hB]; kernel_rfl) ?_
     clear hS; intro a w F hS
     obtain ⟨F, hS⟩ := hS.norm [(0, _), (2, _), (3, _), (4, _)] [(0, _), (101, _)] r4 r2
     try dsimp only [List.map, stCells, List.length_cons, List.length_nil, Nat.reduceAdd, List.drop_succ_cons, List.drop_zero, List.drop_nil, List.take_succ_cons, List.take_zero, List.take_nil, List.cons_append, List.nil_append, zCF] at hS
     refine then_n ?_
     refine wp_ret ?_
     refine block_r ?_
     refine then_r ?_
     refine ret_P hfr hS rfl (.cell (n := 101) (ag := true) (sz := 3) rfl .is rfl (by kernel_rfl) (by kernel_rfl) (by kernel_rfl) (.tmp rfl .nil)) (.two (.aggLe rfl (by rw [hr]; exact ⟨.refl, .refl, .nilSl, trivial⟩)) (.int (by rw [hr])))
    ·skip
     have h1 : ¬ (nth l 1 ≠ [99] ∧ nth l 1 ≠ [97]) := by
       rintro ⟨g1, g2⟩
       rw [Bool.eq_false_iff] at hc2
       refine hc2 ?_
       simp only [Bool.and_eq_true, Bool.not_eq_true', decide_eq_false_iff_not]
       exact ⟨g1, g2⟩
     refine wp_skip ?_
     refine block_n ?_
     refine then_n ?_
     refine wp_seq ?_
     refine region_seq hS (by kernel_rfl)
       (cF rfl (o_move .t (by rfl)) r1 trivial
       (cF rfl (o_move .t (by rfl)) r1 trivial
       (cF rfl (o_indexAddr_sl (sz := 1) (.mk Tryd.underlying53 (by kernel_rfl)) (by intro x; rfl) .t (.ci (by kernel_rfl)) (by decide) (by omega)) r1 trivial
       (cF rfl (o_load_ref (ag := false) (sz := 1) .t (by kernel_rfl) (by kernel_rfl) (by kernel_rfl)) r1 trivial
       (cF rfl (o_eql_bs Tryd.underlying9 .t (.cs (by kernel_rfl))) r1 trivial
       (cF rfl (o_build (r := [(0, .tmp 40), (1, .tmp 44)]) (zs := [.int .i64 0, .bool false, .slice none 0 0]) (pl := [(0, 1), (1, 1), (2, 1)]) (by kernel_rfl) (by kernel_rfl) (.one rfl .t one_int (by kernel_rfl) (.one rfl .t one_bool (by kernel_rfl) .nil)) (by rfl)) r2 trivial
       (cF rfl (o_alloc (zs := [.int .i64 0, .bool false, .slice none 0 0]) 102 (by kernel_rfl)) trivial trivial
       (cF rfl (o_storeA (sz := 3) 102 .same .t (by kernel_rfl) (by kernel_rfl) (by kernel_rfl)) r2 r1
       Chain.nil))))))))
       (by kernel_rfl) (by rw [hB]; kernel_rfl) ?_
     clear hS; intro a w F hS
     replace hS := hS.sub
     obtain ⟨F, hS⟩ := hS.norm [(0, _), (2, _), (3, _), (6, _)] [(0, _), (101, _), (102, _)] r4 r3
     try dsimp only [RS.sub, SF.sub, CF.sub, csub, Anc.sub, List.map, stCells, List.length_cons, List.length_nil, Nat.reduceAdd, List.drop_succ_cons, List.drop_zero, List.drop_nil, List.take_succ_cons, List.take_zero, List.take_nil, List.cons_append, List.nil_append, zCF, ldSF] at hS
     generalize Act.tau a 6 = v6 at hS
     refine then_n ?_
     refine wp_seq ?_
     refine wp_seq ?_
     refine region_seq hS (by kernel_rfl)
       (cF rfl (o_move .t (by rfl)) r1 trivial
       (cF rfl (o_slice_lo (sz := 1) (.mk Tryd.underlying53 (by kernel_rfl)) (by intro x; rfl) .t (.ci (by kernel_rfl)) (by decide) (by omega)) r1 trivial
       (cF rfl (o_len_sl Tryd.underlying53 .t) r1 trivial
       (cF rfl (o_move (.ci (by kernel_rfl)) (by rfl)) trivial trivial
       Chain.nil))))
       (by kernel_rfl) (by rw [hB]; kernel_rfl) ?_
     clear hS; intro a w F hS
     obtain ⟨F, hS⟩ := hS.norm [(2, _), (3, _), (6, _), (47, _), (48, _), (49, _)] [(0, _), (101, _), (102, _)] r6 r3
     refine then_n ?_
     refine wp_block ?_
     replace hS := hS.fresh 50 rfl
     replace hS := hS.turn 50 rfl (nilRow (T := 23) (sz := 4) (R := rOp))
     obtain ⟨F, hS⟩ := hS.norm [(2, _), (6, _), (47, _), (48, _), (49, _)] [(0, _), (50, _), (101, _), (102, _)] r5 r4
     refine loop_inv (σ := (Nat × Value)) (fun s => (⟨[(2, .pv (.is v2)), (6, .pv (.is v6)), (47, .pv (.sl rS (l.drop 2))), (48, .pv (.int .i64 ((l.drop 2).length : Nat))), (49, .pv (.int .i64 (s.1 : Nat)))], [(0, frame B), (50, .ob (.val s.2) (rowH 23 4 rOp ((opsR (l.drop 2)).take s.1))), (101, .pt (.val v2) 39 [.pv (.int .i64 0), .pv (.bool false), .pv (.is (.slice none 0 0))]), (102, .pt (.val v6) 39 [.pv (.int .i64 (readR (nth l 0)).1), .pv (.bool (decide (nth l 1 = [99]))), .pv (.is s.2)])]⟩ : En)) (fun s => s.1 ≤ (l.drop 2).length ∧ ∀ j, j < s.1 → (opR (nth (l.drop 2) j)).2 = 0) (fun s => (l.drop 2).length - s.1) (0, .slice none 0 0) hS ⟨Nat.zero_le _, fun j hj => absurd hj (Nat.not_lt_zero _)⟩ ?_
     clear hS; intro s a w F hC hS
     obtain ⟨i, v⟩ := s
     try dsimp only at hC
     try dsimp only at hS
     obtain ⟨hi0, hz⟩ := hC
     try dsimp only at hi0 hz
     refine wp_seq ?_
     refine region_seq hS (by kernel_rfl)
       (cF rfl (o_lss .t .t) r2 trivial
       Chain.nil)
       (by kernel_rfl) (by rw [hB]; kernel_rfl) ?_
     clear hS; intro a w F hS
     obtain ⟨F, hS⟩ := hS.norm [(2, _), (6, _), (47, _), (48, _), (49, _), (50, _)] [(0, _), (50, _), (101, _), (102, _)] r6 r4
     refine then_n ?_
     refine wp_seq ?_
     refine cond_b hS rfl (fun hc3 => ?_) (fun hc3 => ?_)
     ·skip
      have hi : i < (l.drop 2).length := by have h9 := of_decide_eq_true hc3; omega
      refine wp_skip ?_
      refine then_n ?_
      refine wp_seq ?_
      refine wp_block ?_
      refine wp_seq ?_
      refine region_seq hS (by kernel_rfl)
        (cF rfl (o_indexAddr_sl (sz := 1) (.mk Tryd.underlying53 (by kernel_rfl)) (by intro x; rfl) .t .t (by omega) (by omega)) r2 trivial
        (cF rfl (o_load_ref (ag := false) (sz := 1) .t (by kernel_rfl) (by kernel_rfl) (by kernel_rfl)) r1 trivial
        (cF rfl (o_assign .t (by rfl)) r1 trivial
        Chain.nil)))
        (by kernel_rfl) (by rw [hB]; kernel_rfl) ?_
      clear hS; intro a w F hS
      obtain ⟨F, hS⟩ := hS.norm [(2, _), (6, _), (8, _), (47, _), (48, _), (49, _), (50, _), (51, _), (52, _)] [(0, _), (50, _), (101, _), (102, _)] ⟨rfl, rfl, rfl, rfl, rfl, rfl, rfl, rfl, rfl, trivial⟩ r4
      try dsimp only [List.map, List.drop_succ_cons, List.drop_zero, List.drop_nil, List.take_succ_cons, List.take_zero, List.take_nil, ldSF] at hS
      rw [Int.toNat_natCast] at hS
      refine then_n ?_
      refine wp_seq ?_
      refine region_seq hS (by kernel_rfl)
        (cF rfl (o_move .t (by rfl)) r1 trivial
        (cF rfl (o_callP (opRead_c (nth (l.drop 2) i) (by have h9 := hs _ (List.mem_of_mem_drop (nth_mem hi)); omega)) Tryd.func8 rfl (by kernel_rfl) (Args.one .t)) r1 trivial
        (cF rfl (o_move .t (by rfl)) r1 trivial
        (cF rfl (o_extract .t rfl) r1 trivial
        (cF rfl (o_extract .t rfl) r1 trivial
        (cF rfl (o_alloc (zs := [.bool false, .int .i64 0, .int .i64 0, .int .i64 0]) 103 (by kernel_rfl)) trivial trivial
        (cF rfl (o_storeA (sz := 4) 103 .same (.conv .t .agg) (by kernel_rfl) (by kernel_rfl) (by kernel_rfl)) r2 r1
        (cF rfl (o_assign .t (by rfl)) r1 trivial
        Chain.nil))))))))
        (by kernel_rfl) (by rw [hB]; kernel_rfl) ?_
      clear hS; intro a w F hS
      replace hS := hS.sub
      obtain ⟨F, hS⟩ := hS.norm [(2, _), (6, _), (8, _), (9, _), (10, _), (47, _), (48, _), (49, _), (50, _), (51, _), (52, _), (53, _), (54, _), (55, _), (56, _), (57, _)] [(0, _), (50, _), (101, _), (102, _), (103, _)] ⟨rfl, rfl, rfl, rfl, rfl, rfl, rfl, rfl, rfl, rfl, rfl, rfl, rfl, rfl, rfl, rfl, trivial⟩ r5
      try dsimp only [RS.sub, SF.sub, CF.sub, csub, Anc.sub, List.map, stCells, List.length_cons, List.length_nil, Nat.reduceAdd, List.drop_succ_cons, List.drop_zero, List.drop_nil, List.take_succ_cons, List.take_zero, List.take_nil, List.cons_append, List.nil_append, zCF] at hS
      generalize Act.tau a 9 = v9 at hS
      refine then_n ?_
      refine wp_seq ?_
      refine wp_seq ?_
      refine region_seq hS (by kernel_rfl)
        (cF rfl (o_move .t (by rfl)) r1 trivial
        (cF rfl (o_neq .t (.ci (by kernel_rfl))) r1 trivial
        Chain.nil))
        (by kernel_rfl) (by rw [hB]; kernel_rfl) ?_
      clear hS; intro a w F hS
      obtain ⟨F, hS⟩ := hS.norm [(2, _), (6, _), (8, _), (9, _), (10, _), (47, _), (48, _), (49, _), (50, _), (51, _), (52, _), (53, _), (54, _), (55, _), (56, _), (57, _), (58, _), (59, _)] [(0, _), (50, _), (101, _), (102, _), (103, _)] ⟨rfl, rfl, rfl, rfl, rfl, rfl, rfl, rfl, rfl, rfl, rfl, rfl, rfl, rfl, rfl, rfl, rfl, rfl, trivial⟩ r5
      refine then_n ?_
      refine cond_b hS rfl (fun hc4 => ?_) (fun hc4 => ?_)
      ·skip
       have hw : (opR (nth (l.drop 2) i)).2 ≠ 0 := by simpa using hc4
       have hb := badO_at hi hz hw
       have hr : txR l = (zeroT, (opR (nth (l.drop 2) i)).2) := by unfold txR; rw [if_neg hl4, if_neg h0, if_neg h1, if_pos (by rw [hb]; exact hw), hb]
       refine wp_seq ?_
       refine region_seq hS (by kernel_rfl)
         (cF rfl (o_build (r := []) (zs := [.int .i64 0, .bool false, .slice none 0 0]) (pl := [(0, 1), (1, 1), (2, 1)]) (by kernel_rfl) (by kernel_rfl) .nil (by rfl)) trivial trivial
         (cF rfl (o_move .t (by rfl)) r1 trivial
         (cF rfl (o_storeA (sz := 3) 101 .is .t (by kernel_rfl) (by kernel_rfl) (by kernel_rfl)) r2 r1
         (cF rfl (o_assign .t (by rfl)) r1 trivial
         Chain.nil))))
         (by kernel_rfl) (by rw [hB]; kernel_rfl) ?_
       clear hS; intro a w F hS
       obtain ⟨F, hS⟩ := hS.norm [(2, _), (3, _), (6, _), (8, _), (9, _), (10, _), (47, _), (48, _), (49, _), (50, _), (51, _), (52, _), (53, _), (54, _), (55, _), (56, _), (57, _), (58, _), (59, _), (60, _), (61, _)] [(0, _), (50, _), (101, _), (102, _), (103, _)] ⟨rfl, rfl, rfl, rfl, rfl, rfl, rfl, rfl, rfl, rfl, rfl, rfl, rfl, rfl, rfl, rfl, rfl, rfl, rfl, rfl, rfl, trivial⟩ r5
       try dsimp only [List.map, stCells, List.length_cons, List.length_nil, Nat.reduceAdd, List.drop_succ_cons, List.drop_zero, List.drop_nil, List.take_succ_cons, List.take_zero, List.take_nil, List.cons_append, List.nil_append, zCF] at hS
       refine then_n ?_
       refine wp_ret ?_
       refine then_r ?_
       refine block_r ?_
       refine then_r ?_
       refine then_r ?_
       refine block_r ?_
       refine then_r ?_
       refine ret_P hfr hS rfl (.cell (n := 101) (ag := true) (sz := 3) rfl .is rfl (by kernel_rfl) (by kernel_rfl) (by kernel_rfl) (.tmp rfl .nil)) (.two (.aggLe rfl (by rw [hr]; exact ⟨.refl, .refl, .nilSl, trivial⟩)) (.int (by rw [hr])))
      ·skip
       have hzi : (opR (nth (l.drop 2) i)).2 = 0 := by simpa using hc4
       refine wp_skip ?_
       refine then_n ?_
       refine region_seq hS (by kernel_rfl)
         (cF rfl (o_fieldAddr (off := 2) 102 .is (by kernel_rfl) (by rfl)) r1 r1
         (cF rfl (o_load (ag := false) (sz := 1) 102 .adr (by kernel_rfl) (by kernel_rfl) (by kernel_rfl) (by rfl)) r1 r1
         (cF rfl (o_load (ag := true) (sz := 4) 103 .is (by kernel_rfl) (by kernel_rfl) (by kernel_rfl) (by rfl)) r1 r1
         (cF rfl (o_buildSliceE (sz := 4) (zs := [.bool false, .int .i64 0, .int .i64 0, .int .i64 0]) (r := [(0, .tmp 64)]) (l := [_, _, _, _]) Tryd.underlying24 (by kernel_rfl) (by kernel_rfl) (by kernel_rfl) (by kernel_rfl) rfl rfl (.agg rfl .t (by kernel_rfl) (by kernel_rfl) .nil) rfl) r1 trivial
         (cF rfl (o_append (sz := 4) (bs := 32) 50 (.mk' Tryd.underlying24 (by kernel_rfl) (by kernel_rfl)) (by intro x; rfl) .is (.arr (l' := [(opR (nth (l.drop 2) i)).1]) .t) (by simp only [List.length_cons, List.length_nil, List.length_take]; unfold opsR; rw [List.length_map]; omega) (by decide)) ⟨rfl, rfl, trivial⟩ ⟨rfl, trivial⟩
         (cF rfl (o_fieldAddr (off := 2) 102 .is (by kernel_rfl) (by rfl)) r1 r1
         (cF rfl (o_storeS 102 .adr (by kernel_rfl) (by kernel_rfl)) r2 r1
         Chain.nil)))))))
         (by kernel_rfl) (by rw [hB]; kernel_rfl) ?_
       clear hS; intro a w F hS
       replace hS := hS.sub
       obtain ⟨F, hS⟩ := hS.norm [(2, _), (6, _), (8, _), (9, _), (10, _), (47, _), (48, _), (49, _), (50, _), (51, _), (52, _), (53, _), (54, _), (55, _), (56, _), (57, _), (58, _), (59, _), (62, _), (63, _), (64, _), (65, _), (66, _), (67, _)] [(0, _), (50, _), (101, _), (102, _), (103, _)] ⟨rfl, rfl, rfl, rfl, rfl, rfl, rfl, rfl, rfl, rfl, rfl, rfl, rfl, rfl, rfl, rfl, rfl, rfl, rfl, rfl, rfl, rfl, rfl, rfl, trivial⟩ r5
       try dsimp only [RS.sub, SF.sub, CF.sub, csub, Anc.sub, List.map, stCells, List.length_cons, List.length_nil, Nat.reduceAdd, List.drop_succ_cons, List.drop_zero, List.drop_nil, List.take_succ_cons, List.take_zero, List.take_nil, List.cons_append, List.nil_append, zCF, ldSF] at hS
       generalize Act.tau a 66 = v66 at hS
       refine block_n ?_
       refine then_n ?_
       refine region_seq hS (by kernel_rfl)
         (cF rfl (o_add .t (.ci (by kernel_rfl))) r1 trivial
         (cF rfl (o_move .t (by rfl)) r1 trivial
         Chain.nil))
         (by kernel_rfl) (by rw [hB]; kernel_rfl) ?_
       clear hS; intro a w F hS
       obtain ⟨F, hS⟩ := hS.norm [(2, _), (6, _), (8, _), (9, _), (10, _), (47, _), (48, _), (49, _), (50, _), (51, _), (52, _), (53, _), (54, _), (55, _), (56, _), (57, _), (58, _), (59, _), (62, _), (63, _), (64, _), (65, _), (66, _), (67, _), (68, _)] [(0, _), (50, _), (101, _), (102, _), (103, _)] ⟨rfl, rfl, rfl, rfl, rfl, rfl, rfl, rfl, rfl, rfl, rfl, rfl, rfl, rfl, rfl, rfl, rfl, rfl, rfl, rfl, rfl, rfl, rfl, rfl, rfl, trivial⟩ r5
       refine then_n ?_
       rw [show (opsR (l.drop 2)).take i ++ [(opR (nth (l.drop 2) i)).1] = (opsR (l.drop 2)).take (i + 1) from map_take_next (f := fun x => (opR x).1) (by omega)] at hS
       replace hS := hS.ent (i := 49) (s' := .pv (.int .i64 ((i + 1 : Nat) : Int))) rfl (.int (wrap_succ (by omega)))
       obtain ⟨F, hS⟩ := hS.norm [(2, _), (6, _), (47, _), (48, _), (49, _)] [(0, _), (50, _), (101, _), (102, _)] r5 r4
       exact ⟨(i + 1, v66), F, ⟨by dsimp only; omega, fun j hj => (Nat.lt_or_ge j i).elim (hz j) (fun h1 => (show i = j by dsimp only at hj; omega) ▸ hzi)⟩, hS, by dsimp only; omega⟩
     ·skip
      have hil : i = (l.drop 2).length := by have h9 := of_decide_eq_false hc3; omega
      have hbz := badO_none (l := (l.drop 2)) (fun j hj => hz j (by omega))
      have hr : txR l = (⟨(readR (nth l 0)).1, decide (nth l 1 = [99]), opsR (l.drop 2)⟩, 0) := by unfold txR; rw [if_neg hl4, if_neg h0, if_neg h1, if_neg (by rw [hbz]; decide)]
      rw [show (opsR (l.drop 2)).take i = opsR (l.drop 2) from List.take_of_length_le (by unfold opsR; rw [List.length_map]; omega)] at hS
      refine wp_exit ?_
      refine then_x ?_
      refine then_x ?_
      refine block_x ?_
      refine then_n ?_
      refine wp_seq ?_
      obtain ⟨F, hS⟩ := hS.giveCell 50 102 2 rfl rfl rfl rfl rfl
      try dsimp only [List.set] at hS
      obtain ⟨F, hS⟩ := hS.norm [(2, _), (6, _), (47, _), (48, _), (49, _), (50, _)] [(0, _), (101, _), (102, _)] r6 r3
      refine region_seq hS (by kernel_rfl)
        (cF rfl (o_load (ag := true) (sz := 3) 102 .is (by kernel_rfl) (by kernel_rfl) (by kernel_rfl) (by rfl)) r1 r1
        (cF rfl (o_storeA (sz := 3) 101 .is .t (by kernel_rfl) (by kernel_rfl) (by kernel_rfl)) r2 r1
        (cF rfl (o_assign (.ci (by kernel_rfl)) (by rfl)) trivial trivial
        Chain.nil)))
        (by kernel_rfl) (by rw [hB]; kernel_rfl) ?_
      clear hS; intro a w F hS
      obtain ⟨F, hS⟩ := hS.norm [(2, _), (3, _)] [(0, _), (101, _), (102, _)] r2 r3
      try dsimp only [List.map, stCells, List.length_cons, List.length_nil, Nat.reduceAdd, List.drop_succ_cons, List.drop_zero, List.drop_nil, List.take_succ_cons, List.take_zero, List.take_nil, List.cons_append, List.nil_append, zCF, ldSF] at hS
      refine then_n ?_
      refine wp_ret ?_
      refine ret_P hfr hS rfl (.cell (n := 101) (ag := true) (sz := 3) rfl .is rfl (by kernel_rfl) (by kernel_rfl) (by kernel_rfl) (.tmp rfl .nil)) (.two (.aggU rfl (by rw [hr] <;> rfl)) (.int (by rw [hr])))

end Go.Proofs.YtjdcnjemhjldoaaDoor
