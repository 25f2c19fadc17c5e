/- Two alike in order, once. No condition beyond those that each theorem says. -/
import Derived.Test.YtdfidiehkkbimaaDoorPk4
namespace Go.Proofs.YtdfidiehkkbimaaDoor
open Go Go.Gm
set_option linter.unusedVariables false
set_option linter.unusedSimpArgs false
set_option maxHeartbeats 4000000
set_option maxRecDepth 8000


theorem noE_zero (w : World) (yy : Ys) : PVs (rEdge noE) [.int .i64 0, .int .i64 0, .int .i64 0, .int .i64 0] w yy := by
  have h : inR .i64 0 := by simp [inR, IntKind.min, IntKind.max, IntKind.signed, IntKind.bits]
  exact ⟨⟨rfl, rfl, h⟩, ⟨rfl, rfl, h⟩, ⟨rfl, rfl, h⟩, ⟨rfl, rfl, h⟩, trivial⟩

theorem compact_c (v : Value) (e : EdgeD) : FnG Tryd.prog 44 1 [.is v] [rowH 55 4 rEdge [e, e] v] (PV.oneC) (fun u => [rowH 55 4 rEdge [e] u]) := by
  refine FnG.mk Tryd.func44 rfl Tryd.ntmps44 rfl (by kernel_rfl) ?_
  intro B F0 a w F hB hG hS
  have hS := hS.turn 1 rfl (r' := RS.ob (.val v) (rowH 55 4 rEdge [e, e])) (fun _ _ _ _ h => h)
  obtain ⟨F, hS⟩ := hS.nm [0] [1, 0] rfl rfl
  have hw : IntKind.wrap .i64 (1 - 1) = 0 := by decide
  refine wp_seq ?_
  refine region_q hS
    (cF rfl (oN (.c rfl)) trivial trivial
    Chain.nil)
    hB ?_
  clear hS; intro a w F hS
  obtain ⟨F, hS⟩ := hS.nm [2, 0] [1, 0] rfl rfl
  refine then_n (wp_seq (wp_seq ?_))
  refine region_q hS
    (cF rfl (oM .t) r1 trivial
    (cF rfl (o_len_row 1 Tryd.underlying50 .is) r1 r1
    (cF rfl (o_lss .t (.ci (by kernel_rfl))) r1 trivial
    Chain.nil)))
    hB ?_
  clear hS; intro a w F hS
  obtain ⟨F, hS⟩ := hS.nm [8, 2, 0] [1, 0] rfl rfl
  refine then_n ?_
  refine cond_b hS rfl (fun hc0 => ?_) (fun hc0 => ?_)
  ·skip
   simp at hc0
  refine wp_skip (then_n (wp_seq (wp_seq ?_)))
  refine region_q hS
    (cF rfl (oN (.ci (by kernel_rfl))) trivial trivial
    Chain.nil)
    hB ?_
  clear hS; intro a w F hS
  obtain ⟨F, hS⟩ := hS.nm [3, 2, 0] [1, 0] rfl rfl
  refine then_n (wp_block ?_)
  obtain ⟨F, hS⟩ := hS.nm [3, 0] [1, 0] rfl rfl
  refine loop_inv (σ := Unit) (fun s => (⟨[(0, .pv (.is v)), (3, .pv (.int .i64 1))], [(0, frame B), (1, .ob (.val v) (rowH 55 4 rEdge [e, e]))]⟩ : En)) (fun s => True) (fun s => 0) () hS trivial ?_
  clear hS; intro u a w F hC hS
  try dsimp only at hC
  try dsimp only at hS
  refine wp_seq (wp_seq ?_)
  refine region_q hS
    (cF rfl (oM .t) r1 trivial
    (cF rfl (oM .t) r1 trivial
    (cF rfl (o_len_row 1 Tryd.underlying50 .is) r1 r1
    (cF rfl (o_lss .t .t) r2 trivial
    Chain.nil))))
    hB ?_
  clear hS; intro a w F hS
  obtain ⟨F, hS⟩ := hS.nm [13, 12, 11, 10, 3, 0] [1, 0] rfl rfl
  refine then_n ?_
  refine cond_b hS rfl (fun hc1 => ?_) (fun hc1 => ?_)
  ·skip
   refine wp_skip (then_n (wp_seq (wp_block (wp_seq ?_))))
   refine region_any (by kernel_rfl) hS (by kernel_rfl)
     (cF rfl (oM .t) r1 trivial
     (cF rfl (oM .t) r1 trivial
     (cF rfl (o_indexAddr_row (sz := 4) 1 (.mk Tryd.underlying50 (by kernel_rfl)) .is .t (by decide) (by simp) (by rfl)) r2 r1
     (cF rfl (o_load_row0 (ag := true) (sz' := 4) (sz := 4) 1 .t (by intro x; rfl) (by simp) (by kernel_rfl) (by kernel_rfl) (by kernel_rfl)) r1 r1
     (cF rfl (oM .t) r1 trivial
     (cF rfl (oM .t) r1 trivial
     (cF rfl (o_sub .t (.ci (by kernel_rfl))) r1 trivial
     (cF rfl (o_indexAddr_row (sz := 4) 1 (.mk Tryd.underlying50 (by kernel_rfl)) .is .t (by rw [hw]; decide) (by rw [hw]; simp) (by rfl)) r2 r1
     (cF rfl (o_load_row0 (ag := true) (sz' := 4) (sz := 4) 1 .t (by intro x; rfl) (by rw [hw]; simp) (by kernel_rfl) (by kernel_rfl) (by kernel_rfl)) r1 r1
     (cF rfl (o_eqlS (ks := [true, true, true, true]) (by kernel_rfl) .t .t (.int (.int (.int (.int .nil))))) r2 trivial
     Chain.nil))))))))))
     (by kernel_rfl) (by rw [hB]; kernel_rfl) ?_
   clear hS; intro a w F hS
   obtain ⟨F, hS⟩ := hS.nm [25, 24, 23, 22, 21, 20, 19, 18, 17, 16, 13, 12, 11, 10, 3, 0] [1, 0] rfl rfl
   try dsimp only [List.map, xD, xE, xT, xU, ldSF] at hS
   refine then_n ?_
   refine cond_b hS rfl (fun hc2 => ?_) (fun hc2 => ?_)
   ·skip
    refine wp_seq ?_
    refine region_q hS
      (cF rfl (oM .t) r1 trivial
      (cF rfl (oM .t) r1 trivial
      (cF rfl (o_sub_row (sz := 4) 1 (.mk Tryd.underlying50 (by kernel_rfl)) .is .t (by decide) (by simp)) r2 r1
      (cF rfl (oN .t) r1 trivial
      Chain.nil))))
      hB ?_
    clear hS; intro a w F hS
    obtain ⟨F, hS⟩ := hS.nm [28, 27, 26, 25, 24, 23, 22, 21, 20, 19, 18, 17, 16, 13, 12, 11, 10, 4, 3, 0] [1, 0] rfl rfl
    refine then_n (wp_seq (wp_seq ?_))
    refine region_q hS
      (cF rfl (oN (.ci (by kernel_rfl))) trivial trivial
      Chain.nil)
      hB ?_
    clear hS; intro a w F hS
    obtain ⟨F, hS⟩ := hS.nm [28, 27, 26, 25, 24, 23, 22, 21, 20, 19, 18, 17, 16, 13, 12, 11, 10, 5, 4, 3, 0] [1, 0] rfl rfl
    refine then_n (wp_block ?_)
    obtain ⟨F, hS⟩ := hS.nm [5, 4, 3, 0] [1, 0] rfl rfl
    refine loop_inv (σ := Unit) (fun s => (⟨[(0, .pv (.is v)), (3, .pv (.int .i64 1)), (4, .pv (.is (subV 4 (1 : Int).toNat v))), (5, .pv (.int .i64 1))], [(0, frame B), (1, .ob (.val v) (rowH 55 4 rEdge [e, e]))]⟩ : En)) (fun s => True) (fun s => 0) () hS trivial ?_
    clear hS; intro u a w F hC hS
    try dsimp only at hC
    try dsimp only at hS
    refine wp_seq (wp_seq ?_)
    refine region_q hS
      (cF rfl (oM .t) r1 trivial
      (cF rfl (oM .t) r1 trivial
      (cF rfl (o_len_sub 1 Tryd.underlying50 .t (by simp)) r1 r1
      (cF rfl (o_lss .t .t) r2 trivial
      Chain.nil))))
      hB ?_
    clear hS; intro a w F hS
    obtain ⟨F, hS⟩ := hS.nm [32, 31, 30, 29, 5, 4, 3, 0] [1, 0] rfl rfl
    refine then_n ?_
    refine cond_b hS rfl (fun hc3 => ?_) (fun hc3 => ?_)
    ·skip
     simp at hc3
    refine wp_exit (then_x (then_x (block_x (then_n (wp_seq ?_)))))
    refine region_q hS
      (cF rfl (oM .t) r1 trivial
      (cF rfl (oM .t) r1 trivial
      (cF rfl (o_sub_row (sz := 4) 1 (.mk Tryd.underlying50 (by kernel_rfl)) .is .t (by decide) (by simp)) r2 r1
      (cF rfl (o_clear_row (R := rEdge) (z := noE) (zs := [.int .i64 0, .int .i64 0, .int .i64 0, .int .i64 0]) 1 Tryd.underlying50 (by kernel_rfl) rfl rfl noE_zero (by intro x; rfl) .t (by simp)) r1 r1
      Chain.nil))))
      hB ?_
    clear hS; intro a w F hS
    obtain ⟨F, hS⟩ := hS.nm [56, 55, 54, 32, 31, 30, 29, 5, 4, 3, 0] [1, 0] rfl rfl
    refine then_n (wp_seq ?_)
    refine region_q hS
      (cF rfl (oM .t) r1 trivial
      (cF rfl (oM .t) r1 trivial
      (cF rfl (o_cut_row (sz := 4) 1 (.mk Tryd.underlying50 (by kernel_rfl)) (by intro x; rfl) .is .t (by decide) (by simp)) r2 r1
      (cF rfl (oN .t) r1 trivial
      Chain.nil))))
      hB ?_
    clear hS; intro a w F hS
    replace hS := hS.sub
    obtain ⟨F, hS⟩ := hS.nm [59, 58, 57, 56, 55, 54, 32, 31, 30, 29, 5, 4, 3, 2, 0] [1, 0] rfl rfl
    try dsimp only [RS.sub, SF.sub, CF.sub, csub, Anc.sub, List.map] at hS
    generalize Act.tau a 59 = v59 at hS
    refine then_n (wp_ret (block_r (then_r (then_r (block_r (then_r ?_))))))
    have hS := hS.turn 1 rfl (r' := RS.hp (rowH 55 4 rEdge [e] v59)) (fun _ _ _ _ h => h)
    refine ret_N1 (h' := fun u => rowH 55 4 rEdge [e] u) hG hS rfl (.tmp rfl .nil) (.one .oneC) rfl
   rw [hw, show Go.Gm.nth [e, e] (Int.toNat 1) = e from rfl, show Go.Gm.nth [e, e] (Int.toNat 0) = e from rfl] at hc2
   simp at hc2
  simp at hc1

theorem cmpE_self (e : EdgeD) : cmpE e e = 0 := cmpL_all _ _ rfl fun _ _ => rfl
theorem sorted2 (e : EdgeD) : ∀ j, 0 < j → j < [e, e].length → ¬ cmpE (Go.Gm.nth [e, e] j) (Go.Gm.nth [e, e] (j - 1)) < 0 := by
  intro j h0 h1
  have : j = 1 := by simp at h1; omega
  subst this
  show ¬ cmpE e e < 0
  rw [cmpE_self]
  decide

theorem sort2_c (e : EdgeD) : FnP Tryd.prog 24 [.sl rEdge [e, e]] (.sl rEdge [e]) := by
  refine FnP.mk Tryd.func24 rfl Tryd.ntmps24 rfl ?_
  intro B a w F hB hfr hS
  refine wp_seq ?_
  refine region_q hS
    (cF rfl (oN (.c rfl)) trivial trivial
    Chain.nil)
    hB ?_
  clear hS; intro a w F hS
  obtain ⟨F, hS⟩ := hS.nm [2, 0] [0] rfl rfl
  refine then_n (wp_seq ?_)
  replace hS := hS.fresh 101 rfl
  refine region_q hS
    (cF rfl (oM .t) r1 trivial
    (cF rfl (o_callN 101 (cloneE_c [e, e] (by simp)) Tryd.func41 rfl (by kernel_rfl) (Args.one .t) PV.oneC_one) r1 r1
    (cF rfl (oN .t) r1 trivial
    Chain.nil)))
    hB ?_
  clear hS; intro a w F hS
  replace hS := hS.sub
  obtain ⟨F, hS⟩ := hS.nm [3, 2] [101, 0] rfl rfl
  try dsimp only [RS.sub, SF.sub, CF.sub, csub, Anc.sub, List.map] at hS
  generalize Act.tau a 5 = v5 at hS
  replace hS := hS.turn 101 rfl (r' := RS.hp (HP.star [.ob (.val v5) (rowH 55 4 rEdge [e, e])])) (fun _ _ _ _ h => h)
  obtain ⟨F, hS⟩ := hS.peel 101 70 rfl rfl
  obtain ⟨F, hS⟩ := hS.nm [3, 2] [70, 0] rfl rfl
  refine then_n (wp_seq ?_)
  refine region_q hS
    (cF rfl (oM .t) r1 trivial
    (cF rfl (o_callRow 70 (sortFunc_c _ [e, e] (by simp) (sorted2 e)) Tryd.func42 rfl (by kernel_rfl) (Args.two .t .f)) r1 r1
    Chain.nil))
    hB ?_
  clear hS; intro a w F hS
  obtain ⟨F, hS⟩ := hS.nm [3, 2] [70, 0] rfl rfl
  refine then_n (wp_seq ?_)
  refine region_q hS
    (cF rfl (oM .t) r1 trivial
    (cF rfl (o_callRowN 70 (compact_c _ e) Tryd.func44 rfl (by kernel_rfl) (Args.one .t) PV.oneC_one) r1 r1
    (cF rfl (oN .t) r1 trivial
    Chain.nil)))
    hB ?_
  clear hS; intro a w F hS
  replace hS := hS.sub
  obtain ⟨F, hS⟩ := hS.nm [2] [70, 0] rfl rfl
  try dsimp only [RS.sub, SF.sub, CF.sub, csub, Anc.sub, List.map] at hS
  generalize Act.tau a 9 = v9 at hS
  obtain ⟨F, hS⟩ := hS.give 70 2 rfl rfl
  obtain ⟨F, hS⟩ := hS.nm [2] [0] rfl rfl
  refine then_n (wp_ret ?_)
  refine ret_P hfr hS rfl (.tmp rfl .nil) (.one .refl)

end Go.Proofs.YtdfidiehkkbimaaDoor
