/- Right orders. No condition beyond those that each theorem says. -/
import Derived.Test.YtcfgcpcakdknkaaGreatOr4
import Derived.Test.YtcfgcpcakdknkaaGreatLibP
namespace Go.Proofs.YtcfgcpcakdknkaaGreat
open Go Go.Gm
set_option linter.unusedVariables false
set_option linter.unusedSimpArgs false
set_option maxHeartbeats 4000000
set_option maxRecDepth 8000

theorem there07_c (l : List Int) (j : Int) : FnP Tryz.prog 135 [.sl rInt l, .int .i64 j] (.bool (decide (0 ≤ j ∧ j < l.length))) := by
  refine FnP.mk Tryz.func135 rfl Tryz.ntmps135 rfl ?_
  intro B a w F hB hfr hS
  refine wp_seq ?_
  refine region_z hS (qf (oN .cb) trivial qz qZ) hB [4, 1, 0] [0] rfl rfl ?_
  clear hS; intro a w F hS
  refine then_n (wp_seq ?_)
  refine region_z hS (qM rfl rfl (qf (o_geq .t qi) r1 qz (qM rfl rfl (qm rfl rfl rfl rfl (qm rfl rfl rfl rfl (qk rfl (fun h => o_len_sl Tryz.underlying35 (.w h)) r2 qz (qk rfl (fun h => o_lss (.w h) (.w h)) r3 qz (qf (o_and2 .t .t) r2 qz (qN rfl rfl qZ))))))))) hB [4] [0] rfl rfl ?_
  clear hS; intro a w F hS
  refine then_n (wp_ret ?_)
  refine ret_P hfr hS rfl (.tmp rfl .nil) (.one (.bool (by simp)))

theorem ins07_c (l : List Int) (j x : Int) (hl : l.length ≤ 1000000) : FnP Tryz.prog 136 [.sl rInt l, .int .i64 j, .int .i64 x] (.tup [.sl rInt (insL l j x), .bool (decide (0 ≤ j ∧ j ≤ l.length))]) := by
  refine FnP.mk Tryz.func136 rfl Tryz.ntmps136 rfl ?_
  intro B a w F hB hfr hS
  refine wp_seq ?_
  refine region_z hS (qf (oN (.c rfl)) trivial qz (qf (oN .cb) trivial qz qZ)) hB [7, 6, 2, 1, 0] [0] rfl rfl ?_
  clear hS; intro a w F hS
  refine then_n (wp_seq (wp_seq ?_))
  refine region_z hS (qM rfl rfl (qf (o_lss .t qi) r1 qz (qM rfl rfl (qm rfl rfl rfl rfl (qm rfl rfl rfl rfl (qk rfl (fun h => o_len_sl Tryz.underlying35 (.w h)) r2 qz (qk rfl (fun h => o_gtr (.w h) (.w h)) r3 qz (qf (o_or2 .t .t) r2 qz qZ)))))))) hB [16, 7, 6, 2, 1, 0] [0] rfl rfl ?_
  clear hS; intro a w F hS
  refine then_n ?_
  refine cond_b hS rfl (fun hc0 => ?_) (fun hc0 => ?_)
  ·skip
   have hj : ¬ (0 ≤ j ∧ j ≤ l.length) := by simp at hc0; omega
   have hfin : l = insL l j x := (if_neg hj).symm
   have hfin2 : false = decide (0 ≤ j ∧ j ≤ l.length) := (decide_eq_false hj).symm
   refine wp_seq ?_
   refine region_z hS (qM rfl rfl (qN rfl rfl (qf (oN .cb) trivial qz qZ))) hB [7, 6, 2, 1, 0] [0] rfl rfl ?_
   clear hS; intro a w F hS
   refine then_n (wp_ret (then_r ?_))
   refine ret_P hfr hS rfl (.tmp rfl (.tmp rfl .nil)) (.two (.sl hfin) (.bool hfin2))
  have hj : 0 ≤ j ∧ j ≤ l.length := by simp at hc0; omega
  have hfin : [] ++ l.take j.toNat ++ [x] ++ l.drop j.toNat = insL l j x := by unfold insL; rw [if_pos hj]; simp
  have hfin2 : true = decide (0 ≤ j ∧ j ≤ l.length) := (decide_eq_true hj).symm
  refine wp_skip (then_n (wp_seq ?_))
  refine region_q hS (qf (o_buildSlice0 (R := rInt) (sz := 1) 101 Tryz.underlying35 (by kernel_rfl)) trivial qz (qM rfl rfl (qM rfl rfl (qf (o_slice_hi (sz := 1) (.mk Tryz.underlying35 (by kernel_rfl)) (by intro x; rfl) .t .t (by omega) (by omega)) r2 qz (qf (o_append (sz := 1) (bs := 8) 101 (.mk' Tryz.underlying35 (by kernel_rfl) (by kernel_rfl)) (by intro x; rfl) .same (.sl .t) (by simp only [List.length_append, List.length_cons, List.length_nil, List.length_take, List.length_drop]; omega) (by decide)) ⟨rfl, rfl, trivial⟩ ⟨rfl, trivial⟩ (qN rfl rfl qZ)))))) hB ?_
  clear hS; intro a w F hS
  replace hS := hS.sub
  obtain ⟨F, hS⟩ := hS.nm [8, 7, 6, 2, 1, 0] [101, 0] rfl rfl
  try dsimp only [RS.sub, SF.sub, CF.sub, csub, Anc.sub, List.map, stCells, xL, xM, Nat.reduceAdd, xD, xE, xT, xU, xC, xN, zCF, rInt] at hS
  generalize Act.tau a 22 = v22 at hS
  refine then_n (wp_seq ?_)
  refine region_q hS (qM rfl rfl (qM rfl rfl (qf (o_buildSliceE (sz := 1) (zs := [.int .i64 0]) (r := [(0, .tmp 24)]) (l := [_]) Tryz.underlying35 (by kernel_rfl) (by kernel_rfl) (by kernel_rfl) (by kernel_rfl) rfl rfl (.one rfl .t one_int (by kernel_rfl) .nil) rfl) r1 qz (qf (o_append (sz := 1) (bs := 8) 101 (.mk' Tryz.underlying35 (by kernel_rfl) (by kernel_rfl)) (by intro x; rfl) .is (.arr (l' := [x]) .t) (by simp only [List.length_append, List.length_cons, List.length_nil, List.length_take, List.length_drop]; omega) (by decide)) ⟨rfl, rfl, trivial⟩ ⟨rfl, trivial⟩ (qN rfl rfl qZ))))) hB ?_
  clear hS; intro a w F hS
  replace hS := hS.sub
  obtain ⟨F, hS⟩ := hS.nm [8, 7, 6, 1, 0] [101, 0] rfl rfl
  try dsimp only [RS.sub, SF.sub, CF.sub, csub, Anc.sub, List.map, stCells, xL, xM, Nat.reduceAdd, xD, xE, xT, xU, xC, xN, zCF, rInt] at hS
  generalize Act.tau a 26 = v26 at hS
  refine then_n (wp_seq ?_)
  refine region_q hS (qM rfl rfl (qM rfl rfl (qM rfl rfl (qf (o_slice_lo (sz := 1) (.mk Tryz.underlying35 (by kernel_rfl)) (by intro x; rfl) .t .t (by omega) (by omega)) r2 qz (qf (o_append (sz := 1) (bs := 8) 101 (.mk' Tryz.underlying35 (by kernel_rfl) (by kernel_rfl)) (by intro x; rfl) .is (.sl .t) (by simp only [List.length_append, List.length_cons, List.length_nil, List.length_take, List.length_drop]; omega) (by decide)) ⟨rfl, rfl, trivial⟩ ⟨rfl, trivial⟩ (qN rfl rfl qZ)))))) hB ?_
  clear hS; intro a w F hS
  replace hS := hS.sub
  obtain ⟨F, hS⟩ := hS.nm [8, 7, 6] [101, 0] rfl rfl
  try dsimp only [RS.sub, SF.sub, CF.sub, csub, Anc.sub, List.map, xC, xN, rInt] at hS
  generalize Act.tau a 31 = v31 at hS
  refine then_n (wp_seq ?_)
  refine region_z hS (qM rfl rfl (qN rfl rfl (qf (oN .cb) trivial qz qZ))) hB [7, 6] [101, 0] rfl rfl ?_
  clear hS; intro a w F hS
  refine then_n (wp_ret ?_)
  obtain ⟨F, hS⟩ := hS.give 101 6 rfl rfl
  refine ret_P hfr hS rfl (.tmp rfl (.tmp rfl .nil)) (.two (.sl hfin) (.bool hfin2))

theorem del07_c (l : List Int) (j : Int) (hl : l.length ≤ 1000000) (hj : 0 ≤ j ∧ j < l.length) : FnP Tryz.prog 137 [.sl rInt l, .int .i64 j] (.sl rInt (l.eraseIdx j.toNat)) := by
  refine FnP.mk Tryz.func137 rfl Tryz.ntmps137 rfl ?_
  intro B a w F hB hfr hS
  have hw : IntKind.wrap .i64 (j + 1) = j + 1 := wrap_i64 (by omega)
  have hfin : [] ++ l.take j.toNat ++ l.drop (IntKind.wrap .i64 (j + 1)).toNat = l.eraseIdx j.toNat := by rw [hw, List.eraseIdx_eq_take_drop_succ, List.nil_append, show (j + 1).toNat = j.toNat + 1 by omega]
  refine wp_seq ?_
  refine region_z hS (qf (oN (.c rfl)) trivial qz qZ) hB [4, 1, 0] [0] rfl rfl ?_
  clear hS; intro a w F hS
  refine then_n (wp_seq ?_)
  refine region_q hS (qf (o_buildSlice0 (R := rInt) (sz := 1) 101 Tryz.underlying35 (by kernel_rfl)) trivial qz (qM rfl rfl (qM rfl rfl (qf (o_slice_hi (sz := 1) (.mk Tryz.underlying35 (by kernel_rfl)) (by intro x; rfl) .t .t (by omega) (by omega)) r2 qz (qf (o_append (sz := 1) (bs := 8) 101 (.mk' Tryz.underlying35 (by kernel_rfl) (by kernel_rfl)) (by intro x; rfl) .same (.sl .t) (by simp only [List.length_append, List.length_cons, List.length_nil, List.length_take, List.length_drop]; omega) (by decide)) ⟨rfl, rfl, trivial⟩ ⟨rfl, trivial⟩ (qN rfl rfl qZ)))))) hB ?_
  clear hS; intro a w F hS
  replace hS := hS.sub
  obtain ⟨F, hS⟩ := hS.nm [5, 4, 1, 0] [101, 0] rfl rfl
  try dsimp only [RS.sub, SF.sub, CF.sub, csub, Anc.sub, List.map, stCells, xL, xM, Nat.reduceAdd, xD, xE, xT, xU, xC, xN, zCF, rInt] at hS
  generalize Act.tau a 10 = v10 at hS
  refine then_n (wp_seq ?_)
  refine region_q hS (qM rfl rfl (qM rfl rfl (qM rfl rfl (qf (o_add .t qi) r1 qz (qf (o_slice_lo (sz := 1) (.mk Tryz.underlying35 (by kernel_rfl)) (by intro x; rfl) .t .t (by rw [hw]; omega) (by rw [hw]; omega)) r2 qz (qf (o_append (sz := 1) (bs := 8) 101 (.mk' Tryz.underlying35 (by kernel_rfl) (by kernel_rfl)) (by intro x; rfl) .is (.sl .t) (by simp only [List.length_append, List.length_cons, List.length_nil, List.length_take, List.length_drop]; omega) (by decide)) ⟨rfl, rfl, trivial⟩ ⟨rfl, trivial⟩ (qN rfl rfl qZ))))))) hB ?_
  clear hS; intro a w F hS
  replace hS := hS.sub
  obtain ⟨F, hS⟩ := hS.nm [4] [101, 0] rfl rfl
  try dsimp only [RS.sub, SF.sub, CF.sub, csub, Anc.sub, List.map, xC, xN, rInt] at hS
  generalize Act.tau a 16 = v16 at hS
  refine then_n (wp_ret ?_)
  obtain ⟨F, hS⟩ := hS.give 101 4 rfl rfl
  refine ret_P hfr hS rfl (.tmp rfl .nil) (.one (.sl hfin))

end Go.Proofs.YtcfgcpcakdknkaaGreat
