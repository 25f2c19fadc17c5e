/- Sorting what is in order. No condition beyond those that each theorem says. -/
import Derived.Test.YtdfidiehkkbimaaDoorPk3
namespace Go.Proofs.YtdfidiehkkbimaaDoor
open Go Go.Gm
set_option linter.unusedVariables false
set_option linter.unusedSimpArgs false
set_option maxHeartbeats 4000000
set_option maxRecDepth 8000


theorem cloneE_c (l : List EdgeD) (hl : l.length ≤ 1000000) : FnG Tryd.prog 41 1 [.sl rEdge l] [.star []] (PV.oneC) (fun v => [HP.star [.ob (.val v) (rowH 55 4 rEdge l)]]) := by
  refine FnG.mk Tryd.func41 rfl Tryd.ntmps41 rfl (by kernel_rfl) ?_
  intro B F0 a w F hB hG hS
  refine wp_seq ?_
  refine region_q hS
    (cF rfl (oN (.c rfl)) trivial trivial
    Chain.nil)
    hB ?_
  clear hS; intro a w F hS
  obtain ⟨F, hS⟩ := hS.nm [2, 0] [1, 0] rfl rfl
  refine then_n (wp_seq (wp_seq ?_))
  refine region_q hS
    (cF rfl (oM .t) r1 trivial
    (cF rfl (o_eql_nilsl Tryd.underlying50 .t) r1 trivial
    Chain.nil))
    hB ?_
  clear hS; intro a w F hS
  obtain ⟨F, hS⟩ := hS.nm [4, 2, 0] [1, 0] rfl rfl
  obtain ⟨β4, hβ4, hS⟩ := hS.pickBool 4 rfl
  obtain ⟨F, hS⟩ := hS.nm [4, 2, 0] [1, 0] rfl rfl
  refine then_n ?_
  refine cond_b hS rfl (fun hc0 => ?_) (fun hc0 => ?_)
  ·skip
   refine wp_seq ?_
   refine region_q hS
     (cF rfl (oN (.c rfl)) trivial trivial
     Chain.nil)
     hB ?_
   clear hS; intro a w F hS
   obtain ⟨F, hS⟩ := hS.nm [2, 0] [1, 0] rfl rfl
   refine then_n (wp_ret (then_r ?_))
   have hl0 : l = [] := hβ4 (by simpa using hc0)
   subst hl0
   replace hS := hS.fresh 50 rfl
   replace hS := hS.turn 50 rfl (nilRow (T := 55) (sz := 4) (R := rEdge))
   obtain ⟨F, hS⟩ := hS.push 1 50 rfl rfl rfl (by kernel_rfl)
   refine ret_N1 (h' := fun v => HP.star [.ob (.val v) (rowH 55 4 rEdge [])]) hG hS rfl (.tmp rfl .nil) (.one .oneC) rfl
  refine wp_skip (then_n (wp_seq ?_))
  refine region_q hS
    (cF rfl (o_buildSlice0 (R := rEdge) (sz := 4) 101 Tryd.underlying50 (by kernel_rfl)) trivial trivial
    (cF rfl (oM .t) r1 trivial
    (cF rfl (o_append (sz := 4) (bs := 32) 101 (.mk' Tryd.underlying50 (by kernel_rfl) (by kernel_rfl)) (by intro x; rfl) .same (.sl .t) (by simp only [List.length_nil]; omega) (by decide)) ⟨rfl, rfl, trivial⟩ ⟨rfl, trivial⟩
    (cF rfl (oN .t) r1 trivial
    Chain.nil))))
    hB ?_
  clear hS; intro a w F hS
  replace hS := hS.sub
  obtain ⟨F, hS⟩ := hS.nm [2] [101, 1, 0] rfl rfl
  try dsimp only [RS.sub, SF.sub, CF.sub, csub, Anc.sub, List.map, stCells, xL, xM, Nat.reduceAdd, xD, xE, xT, xU, xC, xN, zCF] at hS
  generalize Act.tau a 7 = v7 at hS
  refine then_n (wp_ret ?_)
  obtain ⟨F, hS⟩ := hS.push 1 101 rfl rfl rfl (by kernel_rfl)
  refine ret_N1 (h' := fun v => HP.star [.ob (.val v) (rowH 55 4 rEdge l)]) hG hS rfl (.tmp rfl .nil) (.one .oneC) rfl

theorem len64_c (x : Int) (hx : 0 ≤ x ∧ x < 256) : FnP Tryd.prog 72 [.int .u64 x] (.any) := by
  refine FnP.mk Tryd.func72 rfl Tryd.ntmps72 rfl ?_
  intro B a w F hB hfr hS
  have u8w : IntKind.wrap .u8 x = x := wrap_id ⟨by simp [IntKind.min, IntKind.signed, IntKind.bits]; omega, by simp [IntKind.max, IntKind.signed, IntKind.bits]; omega⟩
  have hx256 : x < (256 : Nat) := by omega
  refine wp_seq ?_
  refine region_q hS
    (cF rfl (oN (.ci (by kernel_rfl))) trivial trivial
    Chain.nil)
    hB ?_
  clear hS; intro a w F hS
  obtain ⟨F, hS⟩ := hS.nm [2, 0] [0] rfl rfl
  refine then_n (wp_seq (wp_seq ?_))
  refine region_q hS
    (cF rfl (oM .t) r1 trivial
    (cF rfl (o_geq .t (.ci (by kernel_rfl))) r1 trivial
    Chain.nil))
    hB ?_
  clear hS; intro a w F hS
  obtain ⟨F, hS⟩ := hS.nm [4, 2, 0] [0] rfl rfl
  refine then_n ?_
  refine cond_b hS rfl (fun hc0 => ?_) (fun hc0 => ?_)
  ·skip
   simp at hc0; omega
  refine wp_skip (then_n (wp_seq (wp_seq ?_)))
  refine region_q hS
    (cF rfl (oM .t) r1 trivial
    (cF rfl (o_geq .t (.ci (by kernel_rfl))) r1 trivial
    Chain.nil))
    hB ?_
  clear hS; intro a w F hS
  obtain ⟨F, hS⟩ := hS.nm [8, 2, 0] [0] rfl rfl
  refine then_n ?_
  refine cond_b hS rfl (fun hc1 => ?_) (fun hc1 => ?_)
  ·skip
   simp at hc1; omega
  refine wp_skip (then_n (wp_seq (wp_seq ?_)))
  refine region_q hS
    (cF rfl (oM .t) r1 trivial
    (cF rfl (o_geq .t (.ci (by kernel_rfl))) r1 trivial
    Chain.nil))
    hB ?_
  clear hS; intro a w F hS
  obtain ⟨F, hS⟩ := hS.nm [14, 2, 0] [0] rfl rfl
  refine then_n ?_
  refine cond_b hS rfl (fun hc2 => ?_) (fun hc2 => ?_)
  ·skip
   simp at hc2; omega
  refine wp_skip (then_n (wp_seq ?_))
  refine region_q hS
    (cF rfl (oM .t) r1 trivial
    (cF rfl (oM .t) r1 trivial
    (cF rfl (o_conv Tryd.underlying5 (by kernel_rfl) .t) r1 trivial
    (cF rfl (o_index_bs Tryd.underlying9 (.cs (by kernel_rfl)) .t (by rw [u8w]; omega) (by rw [u8w]; exact hx256)) r1 trivial
    (cF rfl (o_conv Tryd.underlying3 (by kernel_rfl) .t) r1 trivial
    (cF rfl (o_add .t .t) r2 trivial
    (cF rfl (oN .t) r1 trivial
    Chain.nil)))))))
    hB ?_
  clear hS; intro a w F hS
  obtain ⟨F, hS⟩ := hS.nm [2] [0] rfl rfl
  refine then_n (wp_ret ?_)
  refine ret_P hfr hS rfl (.tmp rfl .nil) (.one .any)

theorem bitLen_c (x : Int) (hx : 0 ≤ x ∧ x < 256) : FnP Tryd.prog 56 [.int .u64 x] (.any) := by
  refine FnP.mk Tryd.func56 rfl Tryd.ntmps56 rfl ?_
  intro B a w F hB hfr hS
  refine wp_seq ?_
  refine region_q hS
    (cF rfl (oN (.ci (by kernel_rfl))) trivial trivial
    Chain.nil)
    hB ?_
  clear hS; intro a w F hS
  obtain ⟨F, hS⟩ := hS.nm [2, 0] [0] rfl rfl
  refine then_n (wp_seq ?_)
  refine wp_cond (by rfl) ?_
  refine wp_skip (then_n (wp_seq ?_))
  refine region_q hS
    (cF rfl (oM .t) r1 trivial
    (cF rfl (oP (len64_c x hx) Tryd.func72 (Args.one .t)) r1 trivial
    (cF rfl (oN .t) r1 trivial
    Chain.nil)))
    hB ?_
  clear hS; intro a w F hS
  obtain ⟨F, hS⟩ := hS.nm [2] [0] rfl rfl
  refine then_n (wp_ret ?_)
  refine ret_P hfr hS rfl (.tmp rfl .nil) (.one .any)

theorem insert_c (v : Value) (l : List EdgeD) (hl : l.length ≤ 12) (hs : ∀ j, 0 < j → j < l.length → ¬ cmpE (Go.Gm.nth l j) (Go.Gm.nth l (j - 1)) < 0) : FnG Tryd.prog 63 1 [.is v, .int .i64 0, .int .i64 l.length, .is (.func (.func 43) #[] #[])] [rowH 55 4 rEdge l v] (.tup []) (fun _ => [rowH 55 4 rEdge l v]) := by
  refine FnG.mk Tryd.func63 rfl Tryd.ntmps63 rfl (by kernel_rfl) ?_
  intro B F0 a w F hB hG hS
  have hS := hS.turn 1 rfl (r' := RS.ob (.val v) (rowH 55 4 rEdge l)) (fun _ _ _ _ h => h)
  obtain ⟨F, hS⟩ := hS.nm [3, 2, 1, 0] [1, 0] rfl rfl
  refine wp_seq ?_
  refine region_q hS
    (cF rfl (oM .t) r1 trivial
    (cF rfl (o_add .t (.ci (by kernel_rfl))) r1 trivial
    (cF rfl (oN .t) r1 trivial
    Chain.nil)))
    hB ?_
  clear hS; intro a w F hS
  obtain ⟨F, hS⟩ := hS.nm [8, 3, 2, 1, 0] [1, 0] rfl rfl
  refine then_n (wp_block ?_)
  replace hS := hS.ent (i := 8) (s' := .pv (.int .i64 ((1 : Nat) : Int))) rfl (.int (by decide))
  obtain ⟨F, hS⟩ := hS.nm [8, 3, 2, 1, 0] [1, 0] rfl rfl
  refine loop_inv (σ := Nat) (fun s => (⟨[(0, .pv (.is v)), (1, .pv (.int .i64 0)), (2, .pv (.int .i64 l.length)), (3, .pv (.is (.func (.func 43) #[] #[]))), (8, .pv (.int .i64 s))], [(0, frame B), (1, .ob (.val v) (rowH 55 4 rEdge l))]⟩ : En)) (fun s => 1 ≤ s ∧ s ≤ 13) (fun s => 13 - s) 1 hS ⟨by decide, by decide⟩ ?_
  clear hS; intro i a w F hC hS
  try dsimp only at hC
  try dsimp only at hS
  obtain ⟨hi1, hi2⟩ := hC
  have hw : IntKind.wrap .i64 ((i : Int) - 1) = ((i - 1 : Nat) : Int) := by rw [wrap_i64 (by omega)]; omega
  refine wp_seq (wp_seq ?_)
  refine region_q hS
    (cF rfl (oM .t) r1 trivial
    (cF rfl (oM .t) r1 trivial
    (cF rfl (o_lss .t .t) r2 trivial
    Chain.nil)))
    hB ?_
  clear hS; intro a w F hS
  obtain ⟨F, hS⟩ := hS.nm [14, 13, 12, 8, 3, 2, 1, 0] [1, 0] rfl rfl
  refine then_n ?_
  refine cond_b hS rfl (fun hc0 => ?_) (fun hc0 => ?_)
  ·skip
   have hil : i < l.length := by simp at hc0; omega
   refine wp_skip (then_n (wp_seq (wp_block (wp_seq ?_))))
   refine region_q hS
     (cF rfl (oM .t) r1 trivial
     (cF rfl (oN .t) r1 trivial
     Chain.nil))
     hB ?_
   clear hS; intro a w F hS
   obtain ⟨F, hS⟩ := hS.nm [17, 14, 13, 12, 9, 8, 3, 2, 1, 0] [1, 0] rfl rfl
   refine then_n (wp_block ?_)
   obtain ⟨F, hS⟩ := hS.nm [9, 8, 3, 2, 1, 0] [1, 0] rfl rfl
   refine loop_inv (σ := Unit) (fun s => (⟨[(0, .pv (.is v)), (1, .pv (.int .i64 0)), (2, .pv (.int .i64 l.length)), (3, .pv (.is (.func (.func 43) #[] #[]))), (8, .pv (.int .i64 i)), (9, .pv (.int .i64 i))], [(0, frame B), (1, .ob (.val v) (rowH 55 4 rEdge l))]⟩ : En)) (fun s => True) (fun s => 0) () hS trivial ?_
   clear hS; intro u a w F hC hS
   try dsimp only at hC
   try dsimp only at hS
   refine wp_seq (wp_seq ?_)
   refine region_any (by kernel_rfl) hS (by kernel_rfl)
     (cF rfl (oM .t) r1 trivial
     (cF rfl (oM .t) r1 trivial
     (cF rfl (o_gtr .t .t) r2 trivial
     (cF rfl (oM .t) r1 trivial
     (Chain.cons (Cert.cond rfl rfl (fun h => o_move .t (by rfl))) r2 trivial
     (Chain.cons (Cert.cond rfl rfl (fun h => o_move .t (by rfl))) r2 trivial
     (Chain.cons (Cert.cond rfl rfl (fun h => o_move .t (by rfl))) r2 trivial
     (Chain.cons (Cert.cond rfl rfl (fun h => o_indexAddr_row (sz := 4) 1 (.mk Tryd.underlying50 (by kernel_rfl)) (.w h .is) (.w h) (by omega) (by omega) (by rfl))) r3 r1
     (Chain.cons (Cert.cond rfl rfl (fun h => o_load_row0 (ag := true) (sz' := 4) (sz := 4) 1 (.w h) (by intro x; rfl) (by omega) (by kernel_rfl) (by kernel_rfl) (by kernel_rfl))) r2 r1
     (Chain.cons (Cert.cond rfl rfl (fun h => o_move .t (by rfl))) r2 trivial
     (Chain.cons (Cert.cond rfl rfl (fun h => o_move .t (by rfl))) r2 trivial
     (Chain.cons (Cert.cond rfl rfl (fun h => o_sub (.w h) (.ci (by kernel_rfl)))) r2 trivial
     (Chain.cons (Cert.cond rfl rfl (fun h => o_indexAddr_row (sz := 4) 1 (.mk Tryd.underlying50 (by kernel_rfl)) (.w h .is) (.w h) (by rw [hw]; omega) (by rw [hw]; omega) (by rfl))) r3 r1
     (Chain.cons (Cert.cond rfl rfl (fun h => o_load_row0 (ag := true) (sz' := 4) (sz := 4) 1 (.w h) (by intro x; rfl) (by rw [hw]; omega) (by kernel_rfl) (by kernel_rfl) (by kernel_rfl))) r2 r1
     (Chain.cons (Cert.cond rfl rfl (fun h => o_callPV (.w h) (compare_c _ _) Tryd.func43 rfl (by kernel_rfl) (Args.two (.pagg (.w h)) (.pagg (.w h))))) r4 trivial
     (Chain.cons (Cert.cond rfl rfl (fun h => o_lss (.w h) (.ci (by kernel_rfl)))) r2 trivial
     (cF rfl (o_and2 .t .t) r2 trivial
     Chain.nil)))))))))))))))))
     (by kernel_rfl) (by rw [hB]; kernel_rfl) ?_
   clear hS; intro a w F hS
   obtain ⟨F, hS⟩ := hS.nm [34, 33, 32, 31, 30, 29, 28, 27, 26, 25, 24, 23, 22, 21, 20, 19, 18, 9, 8, 3, 2, 1, 0] [1, 0] rfl rfl
   try dsimp only [List.map, xD, xE, xT, xU, ldSF] at hS
   refine then_n ?_
   refine cond_b hS rfl (fun hc1 => ?_) (fun hc1 => ?_)
   ·skip
    simp only [Bool.and_eq_true, decide_eq_true_eq, Int.toNat_natCast, hw] at hc1
    exact (hs i (by omega) (by omega) hc1.2).elim
   refine wp_exit (then_x (then_x (block_x (block_n (then_n ?_)))))
   refine region_q hS
     (cF rfl (oM .t) r1 trivial
     (cF rfl (o_add .t (.ci (by kernel_rfl))) r1 trivial
     (cF rfl (oN .t) r1 trivial
     Chain.nil)))
     hB ?_
   clear hS; intro a w F hS
   obtain ⟨F, hS⟩ := hS.nm [34, 33, 32, 31, 30, 29, 28, 27, 26, 25, 24, 23, 22, 21, 20, 19, 18, 16, 15, 9, 8, 3, 2, 1, 0] [1, 0] rfl rfl
   refine then_n ?_
   replace hS := hS.ent (i := 8) (s' := .pv (.int .i64 ((i + 1 : Nat) : Int))) rfl (.int (wrap_succ (by omega)))
   obtain ⟨F, hS⟩ := hS.nm [8, 3, 2, 1, 0] [1, 0] rfl rfl
   exact ⟨i + 1, F, ⟨by omega, by omega⟩, hS, by omega⟩
  refine wp_exit (then_x (then_x (block_x ?_)))
  have hS := hS.turn 1 rfl (r' := RS.hp (rowH 55 4 rEdge l v)) (fun _ _ _ _ h => h)
  refine ret_G1 hG hS rfl .nil Tells.none rfl

theorem pdq_c (v : Value) (l : List EdgeD) (hl : l.length ≤ 12) (hs : ∀ j, 0 < j → j < l.length → ¬ cmpE (Go.Gm.nth l j) (Go.Gm.nth l (j - 1)) < 0) : FnG Tryd.prog 55 1 [.is v, .int .i64 0, .int .i64 l.length, .any, .is (.func (.func 43) #[] #[])] [rowH 55 4 rEdge l v] (.tup []) (fun _ => [rowH 55 4 rEdge l v]) := by
  refine FnG.mk Tryd.func55 rfl Tryd.ntmps55 rfl (by kernel_rfl) ?_
  intro B F0 a w F hB hG hS
  have hS := hS.turn 1 rfl (r' := RS.ob (.val v) (rowH 55 4 rEdge l)) (fun _ _ _ _ h => h)
  obtain ⟨F, hS⟩ := hS.nm [4, 3, 2, 1, 0] [1, 0] rfl rfl
  refine wp_seq ?_
  refine region_q hS
    (cF rfl (oN .cb) trivial trivial
    Chain.nil)
    hB ?_
  clear hS; intro a w F hS
  obtain ⟨F, hS⟩ := hS.nm [10, 4, 3, 2, 1, 0] [1, 0] rfl rfl
  refine then_n (wp_seq ?_)
  refine region_q hS
    (cF rfl (oN .cb) trivial trivial
    Chain.nil)
    hB ?_
  clear hS; intro a w F hS
  obtain ⟨F, hS⟩ := hS.nm [11, 10, 4, 3, 2, 1, 0] [1, 0] rfl rfl
  refine then_n (wp_block ?_)
  obtain ⟨F, hS⟩ := hS.nm [4, 2, 1, 0] [1, 0] rfl rfl
  refine loop_inv (σ := Unit) (fun s => (⟨[(0, .pv (.is v)), (1, .pv (.int .i64 0)), (2, .pv (.int .i64 l.length)), (4, .pv (.is (.func (.func 43) #[] #[])))], [(0, frame B), (1, .ob (.val v) (rowH 55 4 rEdge l))]⟩ : En)) (fun s => True) (fun s => 0) () hS trivial ?_
  clear hS; intro u a w F hC hS
  try dsimp only at hC
  try dsimp only at hS
  refine wp_block (wp_seq ?_)
  refine region_q hS
    (cF rfl (oM .t) r1 trivial
    (cF rfl (oM .t) r1 trivial
    (cF rfl (o_sub .t .t) r2 trivial
    (cF rfl (oN .t) r1 trivial
    Chain.nil))))
    hB ?_
  clear hS; intro a w F hS
  obtain ⟨F, hS⟩ := hS.nm [23, 22, 21, 12, 4, 2, 1, 0] [1, 0] rfl rfl
  skip
  refine then_n (wp_seq (wp_seq ?_))
  refine region_q hS
    (cF rfl (oM .t) r1 trivial
    (cF rfl (o_leq .t (.ci (by kernel_rfl))) r1 trivial
    Chain.nil))
    hB ?_
  clear hS; intro a w F hS
  obtain ⟨F, hS⟩ := hS.nm [25, 24, 23, 22, 21, 12, 4, 2, 1, 0] [1, 0] rfl rfl
  refine then_n ?_
  refine cond_b hS rfl (fun hc0 => ?_) (fun hc0 => ?_)
  ·skip
   refine wp_seq ?_
   refine region_q hS
     (cF rfl (oM .t) r1 trivial
     (cF rfl (oM .t) r1 trivial
     (cF rfl (oM .t) r1 trivial
     (cF rfl (oM .t) r1 trivial
     (cF rfl (o_callRow 1 (insert_c v l hl hs) Tryd.func63 rfl (by kernel_rfl) (Args.four .t .t .t .t)) r4 r1
     Chain.nil)))))
     hB ?_
   clear hS; intro a w F hS
   obtain ⟨F, hS⟩ := hS.nm [29, 28, 27, 26, 25, 24, 23, 22, 21, 12, 4, 2, 1, 0] [1, 0] rfl rfl
   refine then_n (wp_ret (then_r (block_r (then_r (block_r ?_)))))
   have hS := hS.turn 1 rfl (r' := RS.hp (rowH 55 4 rEdge l v)) (fun _ _ _ _ h => h)
   refine ret_G1 hG hS rfl .nil Tells.none rfl
  rw [wrap_i64 (by omega)] at hc0
  simp at hc0
  omega

theorem sortFunc_c (v : Value) (l : List EdgeD) (hl : l.length ≤ 12) (hs : ∀ j, 0 < j → j < l.length → ¬ cmpE (Go.Gm.nth l j) (Go.Gm.nth l (j - 1)) < 0) : FnG Tryd.prog 42 1 [.is v, .is (.func (.func 43) #[] #[])] [rowH 55 4 rEdge l v] (.tup []) (fun _ => [rowH 55 4 rEdge l v]) := by
  refine FnG.mk Tryd.func42 rfl Tryd.ntmps42 rfl (by kernel_rfl) ?_
  intro B F0 a w F hB hG hS
  have hS := hS.turn 1 rfl (r' := RS.ob (.val v) (rowH 55 4 rEdge l)) (fun _ _ _ _ h => h)
  obtain ⟨F, hS⟩ := hS.nm [1, 0] [1, 0] rfl rfl
  refine wp_seq ?_
  refine region_q hS
    (cF rfl (oM .t) r1 trivial
    (cF rfl (o_len_row 1 Tryd.underlying50 .is) r1 r1
    (cF rfl (oN .t) r1 trivial
    Chain.nil)))
    hB ?_
  clear hS; intro a w F hS
  obtain ⟨F, hS⟩ := hS.nm [4, 1, 0] [1, 0] rfl rfl
  have hxl : 0 ≤ IntKind.wrap .u64 (l.length : Int) ∧ IntKind.wrap .u64 (l.length : Int) < 256 := by rw [u64_wrap]; omega
  refine then_n ?_
  refine region_q hS
    (cF rfl (oM .t) r1 trivial
    (cF rfl (oM .t) r1 trivial
    (cF rfl (oM .t) r1 trivial
    (cF rfl (o_conv Tryd.underlying79 (by kernel_rfl) .t) r1 trivial
    (cF rfl (oP (bitLen_c _ hxl) Tryd.func56 (Args.one .t)) r1 trivial
    (cF rfl (oM .t) r1 trivial
    (cF rfl (o_callRow 1 (pdq_c v l hl hs) Tryd.func55 rfl (by kernel_rfl) (Args.five .t (.ci (by kernel_rfl)) .t .t .t)) r4 r1
    Chain.nil)))))))
    hB ?_
  clear hS; intro a w F hS
  obtain ⟨F, hS⟩ := hS.nm [] [1, 0] rfl rfl
  have hS := hS.turn 1 rfl (r' := RS.hp (rowH 55 4 rEdge l v)) (fun _ _ _ _ h => h)
  refine ret_G1 hG hS rfl .nil Tells.none rfl

end Go.Proofs.YtdfidiehkkbimaaDoor
