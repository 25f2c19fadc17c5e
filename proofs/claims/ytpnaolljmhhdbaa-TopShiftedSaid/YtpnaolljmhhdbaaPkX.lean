/- Pk4, Pk5, Pk6, in one text. -/
import Derived.Test.YtpnaolljmhhdbaaPk3
import Derived.Test.YtpnaolljmhhdbaaLibL
namespace Go.Proofs.Ytpnaolljmhhdbaa
open Go Go.Gm
set_option linter.unusedVariables false
set_option linter.unusedSimpArgs false
set_option maxHeartbeats 4000000
set_option maxRecDepth 8000

theorem len64_c (x : Int) (hx : 0 ≤ x ∧ x < 256) : FnP Try.prog 101 [.int .u64 x] (.any) := by
  refine FnP.mk Try.func101 rfl Try.ntmps101 rfl ?_
  intro B a w F hB hfr hS
  have u8w : IntKind.wrap .u8 x = x := wrap_id ⟨by simp [IntKind.min, IntKind.signed, IntKind.bits]; omega, by simp [IntKind.max, IntKind.signed, IntKind.bits]; omega⟩
  have hx256 : x < (256 : Nat) := by omega
  refine wp_seq ?_
  refine region_q hS
    (cF rfl (oN (.ci (by kernel_rfl))) trivial trivial
    Chain.nil)
    hB ?_
  clear hS; intro a w F hS
  obtain ⟨F, hS⟩ := hS.nm [2, 0] [0] rfl rfl
  refine then_n (wp_seq (wp_seq ?_))
  refine region_q hS
    (cF rfl (oM .t) r1 trivial
    (cF rfl (o_geq .t (.ci (by kernel_rfl))) r1 trivial
    Chain.nil))
    hB ?_
  clear hS; intro a w F hS
  obtain ⟨F, hS⟩ := hS.nm [4, 2, 0] [0] rfl rfl
  refine then_n ?_
  refine cond_b hS rfl (fun hc0 => ?_) (fun hc0 => ?_)
  ·skip
   simp at hc0; omega
  refine wp_skip (then_n (wp_seq (wp_seq ?_)))
  refine region_q hS
    (cF rfl (oM .t) r1 trivial
    (cF rfl (o_geq .t (.ci (by kernel_rfl))) r1 trivial
    Chain.nil))
    hB ?_
  clear hS; intro a w F hS
  obtain ⟨F, hS⟩ := hS.nm [8, 2, 0] [0] rfl rfl
  refine then_n ?_
  refine cond_b hS rfl (fun hc1 => ?_) (fun hc1 => ?_)
  ·skip
   simp at hc1; omega
  refine wp_skip (then_n (wp_seq (wp_seq ?_)))
  refine region_q hS
    (cF rfl (oM .t) r1 trivial
    (cF rfl (o_geq .t (.ci (by kernel_rfl))) r1 trivial
    Chain.nil))
    hB ?_
  clear hS; intro a w F hS
  obtain ⟨F, hS⟩ := hS.nm [14, 2, 0] [0] rfl rfl
  refine then_n ?_
  refine cond_b hS rfl (fun hc2 => ?_) (fun hc2 => ?_)
  ·skip
   simp at hc2; omega
  refine wp_skip (then_n (wp_seq ?_))
  refine region_q hS
    (cF rfl (oM .t) r1 trivial
    (cF rfl (oM .t) r1 trivial
    (cF rfl (o_conv Try.underlying5 (by kernel_rfl) .t) r1 trivial
    (cF rfl (o_index_bs Try.underlying9 (.cs (by kernel_rfl)) .t (by rw [u8w]; omega) (by rw [u8w]; exact hx256)) r1 trivial
    (cF rfl (o_conv Try.underlying3 (by kernel_rfl) .t) r1 trivial
    (cF rfl (o_add .t .t) r2 trivial
    (cF rfl (oN .t) r1 trivial
    Chain.nil)))))))
    hB ?_
  clear hS; intro a w F hS
  obtain ⟨F, hS⟩ := hS.nm [2] [0] rfl rfl
  refine then_n (wp_ret ?_)
  refine ret_P hfr hS rfl (.tmp rfl .nil) (.one .any)

theorem bitLen_c (x : Int) (hx : 0 ≤ x ∧ x < 256) : FnP Try.prog 75 [.int .u64 x] (.any) := by
  refine FnP.mk Try.func75 rfl Try.ntmps75 rfl ?_
  intro B a w F hB hfr hS
  refine wp_seq ?_
  refine region_q hS
    (cF rfl (oN (.ci (by kernel_rfl))) trivial trivial
    Chain.nil)
    hB ?_
  clear hS; intro a w F hS
  obtain ⟨F, hS⟩ := hS.nm [2, 0] [0] rfl rfl
  refine then_n (wp_seq ?_)
  refine wp_cond (by rfl) ?_
  refine wp_skip (then_n (wp_seq ?_))
  refine region_q hS
    (cF rfl (oM .t) r1 trivial
    (cF rfl (oP (len64_c x hx) Try.func101 (Args.one .t)) r1 trivial
    (cF rfl (oN .t) r1 trivial
    Chain.nil)))
    hB ?_
  clear hS; intro a w F hS
  obtain ⟨F, hS⟩ := hS.nm [2] [0] rfl rfl
  refine then_n (wp_ret ?_)
  refine ret_P hfr hS rfl (.tmp rfl .nil) (.one .any)

theorem insert_c (v : Value) (l : List EdgeD) (hl : l.length ≤ 12) (hs : ∀ j, 0 < j → j < l.length → ¬ cmpE (Go.Gm.nth l j) (Go.Gm.nth l (j - 1)) < 0) : FnG Try.prog 126 1 [.is v, .int .i64 0, .int .i64 l.length, .is (.func (.func 86) #[] #[])] [rowH 24 4 rEdge l v] (.tup []) (fun _ => [rowH 24 4 rEdge l v]) := by
  refine FnG.mk Try.func126 rfl Try.ntmps126 rfl (by kernel_rfl) ?_
  intro B F0 a w F hB hG hS
  have hS := hS.turn 1 rfl (r' := RS.ob (.val v) (rowH 24 4 rEdge l)) (fun _ _ _ _ h => h)
  obtain ⟨F, hS⟩ := hS.nm [3, 2, 1, 0] [1, 0] rfl rfl
  refine wp_seq ?_
  refine region_q hS
    (cF rfl (oM .t) r1 trivial
    (cF rfl (o_add .t (.ci (by kernel_rfl))) r1 trivial
    (cF rfl (oN .t) r1 trivial
    Chain.nil)))
    hB ?_
  clear hS; intro a w F hS
  obtain ⟨F, hS⟩ := hS.nm [8, 3, 2, 1, 0] [1, 0] rfl rfl
  refine then_n (wp_block ?_)
  replace hS := hS.ent (i := 8) (s' := .pv (.int .i64 ((1 : Nat) : Int))) rfl (.int (by decide))
  obtain ⟨F, hS⟩ := hS.nm [8, 3, 2, 1, 0] [1, 0] rfl rfl
  refine loop_inv (σ := Nat) (fun s => (⟨[(0, .pv (.is v)), (1, .pv (.int .i64 0)), (2, .pv (.int .i64 l.length)), (3, .pv (.is (.func (.func 86) #[] #[]))), (8, .pv (.int .i64 s))], [(0, frame B), (1, .ob (.val v) (rowH 24 4 rEdge l))]⟩ : En)) (fun s => 1 ≤ s ∧ s ≤ 13) (fun s => 13 - s) 1 hS ⟨by decide, by decide⟩ ?_
  clear hS; intro i a w F hC hS
  try dsimp only at hC
  try dsimp only at hS
  obtain ⟨hi1, hi2⟩ := hC
  have hw : IntKind.wrap .i64 ((i : Int) - 1) = ((i - 1 : Nat) : Int) := by rw [wrap_i64 (by omega)]; omega
  refine wp_seq (wp_seq ?_)
  refine region_q hS
    (cF rfl (oM .t) r1 trivial
    (cF rfl (oM .t) r1 trivial
    (cF rfl (o_lss .t .t) r2 trivial
    Chain.nil)))
    hB ?_
  clear hS; intro a w F hS
  obtain ⟨F, hS⟩ := hS.nm [14, 13, 12, 8, 3, 2, 1, 0] [1, 0] rfl rfl
  refine then_n ?_
  refine cond_b hS rfl (fun hc0 => ?_) (fun hc0 => ?_)
  ·skip
   have hil : i < l.length := by simp at hc0; omega
   refine wp_skip (then_n (wp_seq (wp_block (wp_seq ?_))))
   refine region_q hS
     (cF rfl (oM .t) r1 trivial
     (cF rfl (oN .t) r1 trivial
     Chain.nil))
     hB ?_
   clear hS; intro a w F hS
   obtain ⟨F, hS⟩ := hS.nm [17, 14, 13, 12, 9, 8, 3, 2, 1, 0] [1, 0] rfl rfl
   refine then_n (wp_block ?_)
   obtain ⟨F, hS⟩ := hS.nm [9, 8, 3, 2, 1, 0] [1, 0] rfl rfl
   refine loop_inv (σ := Unit) (fun s => (⟨[(0, .pv (.is v)), (1, .pv (.int .i64 0)), (2, .pv (.int .i64 l.length)), (3, .pv (.is (.func (.func 86) #[] #[]))), (8, .pv (.int .i64 i)), (9, .pv (.int .i64 i))], [(0, frame B), (1, .ob (.val v) (rowH 24 4 rEdge l))]⟩ : En)) (fun s => True) (fun s => 0) () hS trivial ?_
   clear hS; intro u a w F hC hS
   try dsimp only at hC
   try dsimp only at hS
   refine wp_seq (wp_seq ?_)
   refine region_any (by kernel_rfl) hS (by kernel_rfl)
     (cF rfl (oM .t) r1 trivial
     (cF rfl (oM .t) r1 trivial
     (cF rfl (o_gtr .t .t) r2 trivial
     (cF rfl (oM .t) r1 trivial
     (Chain.cons (Cert.cond rfl rfl (fun h => o_move .t (by rfl))) r2 trivial
     (Chain.cons (Cert.cond rfl rfl (fun h => o_move .t (by rfl))) r2 trivial
     (Chain.cons (Cert.cond rfl rfl (fun h => o_move .t (by rfl))) r2 trivial
     (Chain.cons (Cert.cond rfl rfl (fun h => o_indexAddr_row (sz := 4) 1 (.mk Try.underlying114 (by kernel_rfl)) (.w h .is) (.w h) (by omega) (by omega) (by rfl))) r3 r1
     (Chain.cons (Cert.cond rfl rfl (fun h => o_load_row0 (ag := true) (sz' := 4) (sz := 4) 1 (.w h) (by intro x; rfl) (by omega) (by kernel_rfl) (by kernel_rfl) (by kernel_rfl))) r2 r1
     (Chain.cons (Cert.cond rfl rfl (fun h => o_move .t (by rfl))) r2 trivial
     (Chain.cons (Cert.cond rfl rfl (fun h => o_move .t (by rfl))) r2 trivial
     (Chain.cons (Cert.cond rfl rfl (fun h => o_sub (.w h) (.ci (by kernel_rfl)))) r2 trivial
     (Chain.cons (Cert.cond rfl rfl (fun h => o_indexAddr_row (sz := 4) 1 (.mk Try.underlying114 (by kernel_rfl)) (.w h .is) (.w h) (by rw [hw]; omega) (by rw [hw]; omega) (by rfl))) r3 r1
     (Chain.cons (Cert.cond rfl rfl (fun h => o_load_row0 (ag := true) (sz' := 4) (sz := 4) 1 (.w h) (by intro x; rfl) (by rw [hw]; omega) (by kernel_rfl) (by kernel_rfl) (by kernel_rfl))) r2 r1
     (Chain.cons (Cert.cond rfl rfl (fun h => o_callPV (.w h) (compare_c _ _) Try.func86 rfl (by kernel_rfl) (Args.two (.pagg (.w h)) (.pagg (.w h))))) r4 trivial
     (Chain.cons (Cert.cond rfl rfl (fun h => o_lss (.w h) (.ci (by kernel_rfl)))) r2 trivial
     (cF rfl (o_and2 .t .t) r2 trivial
     Chain.nil)))))))))))))))))
     (by kernel_rfl) (by rw [hB]; kernel_rfl) ?_
   clear hS; intro a w F hS
   obtain ⟨F, hS⟩ := hS.nm [34, 33, 32, 31, 30, 29, 28, 27, 26, 25, 24, 23, 22, 21, 20, 19, 18, 9, 8, 3, 2, 1, 0] [1, 0] rfl rfl
   try dsimp only [List.map, xD, xE, xT, xU, ldSF] at hS
   refine then_n ?_
   refine cond_b hS rfl (fun hc1 => ?_) (fun hc1 => ?_)
   ·skip
    simp only [Bool.and_eq_true, decide_eq_true_eq, Int.toNat_natCast, hw] at hc1
    exact (hs i (by omega) (by omega) hc1.2).elim
   refine wp_exit (then_x (then_x (block_x (block_n (then_n ?_)))))
   refine region_q hS
     (cF rfl (oM .t) r1 trivial
     (cF rfl (o_add .t (.ci (by kernel_rfl))) r1 trivial
     (cF rfl (oN .t) r1 trivial
     Chain.nil)))
     hB ?_
   clear hS; intro a w F hS
   obtain ⟨F, hS⟩ := hS.nm [34, 33, 32, 31, 30, 29, 28, 27, 26, 25, 24, 23, 22, 21, 20, 19, 18, 16, 15, 9, 8, 3, 2, 1, 0] [1, 0] rfl rfl
   refine then_n ?_
   replace hS := hS.ent (i := 8) (s' := .pv (.int .i64 ((i + 1 : Nat) : Int))) rfl (.int (wrap_succ (by omega)))
   obtain ⟨F, hS⟩ := hS.nm [8, 3, 2, 1, 0] [1, 0] rfl rfl
   exact ⟨i + 1, F, ⟨by omega, by omega⟩, hS, by omega⟩
  refine wp_exit (then_x (then_x (block_x ?_)))
  have hS := hS.turn 1 rfl (r' := RS.hp (rowH 24 4 rEdge l v)) (fun _ _ _ _ h => h)
  refine ret_G1 hG hS rfl .nil Tells.none rfl

theorem pdq_c (v : Value) (l : List EdgeD) (hl : l.length ≤ 12) (hs : ∀ j, 0 < j → j < l.length → ¬ cmpE (Go.Gm.nth l j) (Go.Gm.nth l (j - 1)) < 0) : FnG Try.prog 113 1 [.is v, .int .i64 0, .int .i64 l.length, .any, .is (.func (.func 86) #[] #[])] [rowH 24 4 rEdge l v] (.tup []) (fun _ => [rowH 24 4 rEdge l v]) := by
  refine FnG.mk Try.func113 rfl Try.ntmps113 rfl (by kernel_rfl) ?_
  intro B F0 a w F hB hG hS
  have hS := hS.turn 1 rfl (r' := RS.ob (.val v) (rowH 24 4 rEdge l)) (fun _ _ _ _ h => h)
  obtain ⟨F, hS⟩ := hS.nm [4, 3, 2, 1, 0] [1, 0] rfl rfl
  refine wp_seq ?_
  refine region_q hS
    (cF rfl (oN .cb) trivial trivial
    Chain.nil)
    hB ?_
  clear hS; intro a w F hS
  obtain ⟨F, hS⟩ := hS.nm [10, 4, 3, 2, 1, 0] [1, 0] rfl rfl
  refine then_n (wp_seq ?_)
  refine region_q hS
    (cF rfl (oN .cb) trivial trivial
    Chain.nil)
    hB ?_
  clear hS; intro a w F hS
  obtain ⟨F, hS⟩ := hS.nm [11, 10, 4, 3, 2, 1, 0] [1, 0] rfl rfl
  refine then_n (wp_block ?_)
  obtain ⟨F, hS⟩ := hS.nm [4, 2, 1, 0] [1, 0] rfl rfl
  refine loop_inv (σ := Unit) (fun s => (⟨[(0, .pv (.is v)), (1, .pv (.int .i64 0)), (2, .pv (.int .i64 l.length)), (4, .pv (.is (.func (.func 86) #[] #[])))], [(0, frame B), (1, .ob (.val v) (rowH 24 4 rEdge l))]⟩ : En)) (fun s => True) (fun s => 0) () hS trivial ?_
  clear hS; intro u a w F hC hS
  try dsimp only at hC
  try dsimp only at hS
  refine wp_block (wp_seq ?_)
  refine region_q hS
    (cF rfl (oM .t) r1 trivial
    (cF rfl (oM .t) r1 trivial
    (cF rfl (o_sub .t .t) r2 trivial
    (cF rfl (oN .t) r1 trivial
    Chain.nil))))
    hB ?_
  clear hS; intro a w F hS
  obtain ⟨F, hS⟩ := hS.nm [23, 22, 21, 12, 4, 2, 1, 0] [1, 0] rfl rfl
  skip
  refine then_n (wp_seq (wp_seq ?_))
  refine region_q hS
    (cF rfl (oM .t) r1 trivial
    (cF rfl (o_leq .t (.ci (by kernel_rfl))) r1 trivial
    Chain.nil))
    hB ?_
  clear hS; intro a w F hS
  obtain ⟨F, hS⟩ := hS.nm [25, 24, 23, 22, 21, 12, 4, 2, 1, 0] [1, 0] rfl rfl
  refine then_n ?_
  refine cond_b hS rfl (fun hc0 => ?_) (fun hc0 => ?_)
  ·skip
   refine wp_seq ?_
   refine region_q hS
     (cF rfl (oM .t) r1 trivial
     (cF rfl (oM .t) r1 trivial
     (cF rfl (oM .t) r1 trivial
     (cF rfl (oM .t) r1 trivial
     (cF rfl (o_callRow 1 (insert_c v l hl hs) Try.func126 rfl (by kernel_rfl) (Args.four .t .t .t .t)) r4 r1
     Chain.nil)))))
     hB ?_
   clear hS; intro a w F hS
   obtain ⟨F, hS⟩ := hS.nm [29, 28, 27, 26, 25, 24, 23, 22, 21, 12, 4, 2, 1, 0] [1, 0] rfl rfl
   refine then_n (wp_ret (then_r (block_r (then_r (block_r ?_)))))
   have hS := hS.turn 1 rfl (r' := RS.hp (rowH 24 4 rEdge l v)) (fun _ _ _ _ h => h)
   refine ret_G1 hG hS rfl .nil Tells.none rfl
  rw [wrap_i64 (by omega)] at hc0
  simp at hc0
  omega

theorem sortFunc_c (v : Value) (l : List EdgeD) (hl : l.length ≤ 12) (hs : ∀ j, 0 < j → j < l.length → ¬ cmpE (Go.Gm.nth l j) (Go.Gm.nth l (j - 1)) < 0) : FnG Try.prog 85 1 [.is v, .is (.func (.func 86) #[] #[])] [rowH 24 4 rEdge l v] (.tup []) (fun _ => [rowH 24 4 rEdge l v]) := by
  refine FnG.mk Try.func85 rfl Try.ntmps85 rfl (by kernel_rfl) ?_
  intro B F0 a w F hB hG hS
  have hS := hS.turn 1 rfl (r' := RS.ob (.val v) (rowH 24 4 rEdge l)) (fun _ _ _ _ h => h)
  obtain ⟨F, hS⟩ := hS.nm [1, 0] [1, 0] rfl rfl
  refine wp_seq ?_
  refine region_q hS
    (cF rfl (oM .t) r1 trivial
    (cF rfl (o_len_row 1 Try.underlying114 .is) r1 r1
    (cF rfl (oN .t) r1 trivial
    Chain.nil)))
    hB ?_
  clear hS; intro a w F hS
  obtain ⟨F, hS⟩ := hS.nm [4, 1, 0] [1, 0] rfl rfl
  have hxl : 0 ≤ IntKind.wrap .u64 (l.length : Int) ∧ IntKind.wrap .u64 (l.length : Int) < 256 := by rw [u64_wrap]; omega
  refine then_n ?_
  refine region_q hS
    (cF rfl (oM .t) r1 trivial
    (cF rfl (oM .t) r1 trivial
    (cF rfl (oM .t) r1 trivial
    (cF rfl (o_conv Try.underlying90 (by kernel_rfl) .t) r1 trivial
    (cF rfl (oP (bitLen_c _ hxl) Try.func75 (Args.one .t)) r1 trivial
    (cF rfl (oM .t) r1 trivial
    (cF rfl (o_callRow 1 (pdq_c v l hl hs) Try.func113 rfl (by kernel_rfl) (Args.five .t (.ci (by kernel_rfl)) .t .t .t)) r4 r1
    Chain.nil)))))))
    hB ?_
  clear hS; intro a w F hS
  obtain ⟨F, hS⟩ := hS.nm [] [1, 0] rfl rfl
  have hS := hS.turn 1 rfl (r' := RS.hp (rowH 24 4 rEdge l v)) (fun _ _ _ _ h => h)
  refine ret_G1 hG hS rfl .nil Tells.none rfl

end Go.Proofs.Ytpnaolljmhhdbaa
namespace Go.Proofs.Ytpnaolljmhhdbaa
open Go Go.Gm
set_option linter.unusedVariables false
set_option linter.unusedSimpArgs false
set_option maxHeartbeats 4000000
set_option maxRecDepth 8000

theorem noE_zero (w : World) (yy : Ys) : PVs (rEdge noE) [.int .i64 0, .int .i64 0, .int .i64 0, .int .i64 0] w yy := by
  have h : inR .i64 0 := by simp [inR, IntKind.min, IntKind.max, IntKind.signed, IntKind.bits]
  exact ⟨⟨rfl, rfl, h⟩, ⟨rfl, rfl, h⟩, ⟨rfl, rfl, h⟩, ⟨rfl, rfl, h⟩, trivial⟩

end Go.Proofs.Ytpnaolljmhhdbaa
namespace Go.Proofs.Ytpnaolljmhhdbaa
open Go Go.Gm
set_option linter.unusedVariables false
set_option linter.unusedSimpArgs false
set_option maxHeartbeats 4000000
set_option maxRecDepth 8000



end Go.Proofs.Ytpnaolljmhhdbaa
