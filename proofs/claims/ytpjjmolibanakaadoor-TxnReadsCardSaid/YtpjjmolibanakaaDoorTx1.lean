/- Slices of operations: Clone, IndexFunc. No condition beyond those that each theorem says. -/
import Derived.Test.YtpjjmolibanakaaDoorTx0
import Derived.Test.YtpjjmolibanakaaDoorDa1
namespace Go.Proofs.YtpjjmolibanakaaDoor
open Go Go.Gm
set_option linter.unusedVariables false
set_option linter.unusedSimpArgs false
set_option maxHeartbeats 4000000
set_option maxRecDepth 8000

theorem cloneO_c (l : List OpD) (hl : l.length ≤ 1000000) : FnG Tryd.prog 30 1 [.sl rOp l] [.star []] (PV.one) (fun v => [rowH 30 4 rOp l v]) := by
  refine FnG.mk Tryd.func30 rfl Tryd.ntmps30 rfl (by kernel_rfl) ?_
  intro B F0 a w F hB hG hS
  obtain ⟨F, hS⟩ := hS.nm [0] [0] rfl rfl
  refine wp_seq ?_
  refine region_q hS
    (cF rfl (oN (.c rfl)) trivial trivial
    Chain.nil)
    hB ?_
  clear hS; intro a w F hS
  obtain ⟨F, hS⟩ := hS.nm [2, 0] [0] rfl rfl
  try dsimp only [rOp] at hS
  refine then_n (wp_seq (wp_seq ?_))
  refine region_q hS
    (cF rfl (oM .t) r1 trivial
    (cF rfl (o_eql_nilsl Tryd.underlying22 .t) r1 trivial
    Chain.nil))
    hB ?_
  clear hS; intro a w F hS
  obtain ⟨F, hS⟩ := hS.nm [4, 2, 0] [0] rfl rfl
  try dsimp only [rOp] at hS
  obtain ⟨β4, hβ4, hS⟩ := hS.pickBool 4 rfl
  obtain ⟨F, hS⟩ := hS.nm [4, 2, 0] [0] rfl rfl
  refine then_n ?_
  refine cond_b hS rfl (fun hc0 => ?_) (fun hc0 => ?_)
  ·skip
   have hg : l = [] := hβ4 hc0
   refine wp_seq ?_
   refine region_q hS
     (cF rfl (oN (.c rfl)) trivial trivial
     Chain.nil)
     hB ?_
   clear hS; intro a w F hS
   obtain ⟨F, hS⟩ := hS.nm [2, 0] [0] rfl rfl
   try dsimp only [rOp] at hS
   refine then_n (wp_ret (then_r ?_))
   have hS := hS.fresh 1 rfl
   have hS := hS.turn 1 rfl (nilRow (T := 30) (sz := 4) (R := rOp))
   have hS := hS.turn 1 rfl (r' := RS.hp (rowH 30 4 rOp l (.slice none 0 0))) (fun _ _ _ _ h => by rw [hg]; exact h)
   refine ret_N1 (h' := fun v => rowH 30 4 rOp l v) hG hS rfl (.tmp rfl .nil) (.one .one) rfl
  have hg : l = [] ++ l := rfl
  refine wp_skip (then_n (wp_seq ?_))
  refine region_q hS
    (cF rfl (o_buildSlice0 (R := rOp) (sz := 4) 101 Tryd.underlying22 (by kernel_rfl)) trivial trivial
    (cF rfl (oM .t) r1 trivial
    (cF rfl (o_append (sz := 4) (bs := 32) 101 (.mk' Tryd.underlying22 (by kernel_rfl) (by kernel_rfl)) (by intro x; rfl) .same (.sl .t) (by simp only [List.length_append, List.length_nil]; omega) (by decide)) ⟨rfl, rfl, trivial⟩ ⟨rfl, trivial⟩
    (cF rfl (oN .t) r1 trivial
    Chain.nil))))
    hB ?_
  clear hS; intro a w F hS
  replace hS := hS.sub
  obtain ⟨F, hS⟩ := hS.nm [2] [101, 0] rfl rfl
  try dsimp only [RS.sub, SF.sub, CF.sub, csub, Anc.sub, List.map, stCells, xL, xM, Nat.reduceAdd, xD, xE, xT, xU, xC, xN, zCF, rOp] at hS
  generalize Act.tau a 7 = v7 at hS
  refine then_n (wp_ret ?_)
  obtain ⟨F, hS⟩ := hS.rename 101 1 rfl rfl
  have hS := hS.turn 1 rfl (r' := RS.hp (rowH 30 4 rOp l v7)) (fun _ _ _ _ h => by rw [hg]; exact h)
  refine ret_N1 (h' := fun v => rowH 30 4 rOp l v) hG hS rfl (.tmp rfl .nil) (.one .one) rfl

theorem idxFO_c (l : List OpD) (p : OpD → Bool) (f : FuncId) (fn : Func) (cps : List PV) (hf : Tryd.prog.funcs[f]? = some fn) (hb : fn.body.isSome = true) (hnn : (fn.name == "runtime.NumGoroutine") = false) (hw : ∀ x, FnP Tryd.prog f (.agg (rOp x) :: cps) (.bool (p x))) : FnP Tryd.prog 40 [.sl rOp l, .clos f cps] (.int .i64 (foundAt p l)) := by
  refine FnP.mk Tryd.func40 rfl Tryd.ntmps40 rfl ?_
  intro B a w F hB hfr hS
  have hll := Sat.lenSl hS (i := 0) rfl
  refine wp_seq ?_
  refine region_q hS
    (cF rfl (oN (.ci (by kernel_rfl))) trivial trivial
    Chain.nil)
    hB ?_
  clear hS; intro a w F hS
  obtain ⟨F, hS⟩ := hS.nm [4, 1, 0] [0] rfl rfl
  try dsimp only [rOp] at hS
  refine then_n (wp_seq (wp_seq ?_))
  refine region_q hS
    (cF rfl (oM .t) r1 trivial
    (cF rfl (o_len_sl Tryd.underlying22 .t) r1 trivial
    (cF rfl (oM (.ci (by kernel_rfl))) trivial trivial
    Chain.nil)))
    hB ?_
  clear hS; intro a w F hS
  obtain ⟨F, hS⟩ := hS.nm [8, 7, 4, 1, 0] [0] rfl rfl
  try dsimp only [rOp] at hS
  refine then_n (wp_block ?_)
  refine loop_keep (σ := (Nat)) [0, 1, 4, 7] [0] (fun s => [(8, .pv (.int .i64 (s : Int)))]) (fun s => []) (fun s => s ≤ l.length ∧ (∀ k, k < s → p (Go.Gm.nth l k) = false)) (fun s => l.length - s) (0) hS ⟨rfl, rfl, rfl, rfl, rfl, trivial⟩ ⟨rfl, trivial⟩ ⟨Nat.zero_le _, fun k hk => absurd hk (Nat.not_lt_zero k)⟩ ?_
  clear hS; intro i a w F hC hS
  try dsimp only at hC
  obtain ⟨F, hS⟩ := hS.nm [8, 7, 4, 1, 0] [0] rfl rfl
  try dsimp only at hS
  obtain ⟨hi, hq⟩ := hC
  refine wp_seq ?_
  refine region_q hS
    (cF rfl (o_lss .t .t) r2 trivial
    Chain.nil)
    hB ?_
  clear hS; intro a w F hS
  obtain ⟨F, hS⟩ := hS.nm [9, 8, 7, 4, 1, 0] [0] rfl rfl
  try dsimp only [rOp] at hS
  refine then_n (wp_seq ?_)
  refine cond_b hS rfl (fun hc0 => ?_) (fun hc0 => ?_)
  ·skip
   have hil : i < l.length := by simp at hc0; omega
   refine wp_skip (then_n (wp_seq (wp_block (wp_seq ?_))))
   refine region_q hS
     (cF rfl (oM .t) r1 trivial
     (cF rfl (oN .t) r1 trivial
     Chain.nil))
     hB ?_
   clear hS; intro a w F hS
   obtain ⟨F, hS⟩ := hS.nm [10, 9, 8, 7, 5, 4, 1, 0] [0] rfl rfl
   try dsimp only [rOp] at hS
   refine then_n (wp_seq ?_)
   refine region_q hS
     (cF rfl (oM .t) r1 trivial
     (cF rfl (oM .t) r1 trivial
     (cF rfl (oM .t) r1 trivial
     (cF rfl (o_indexAddr_sl (sz := 4) (.mk Tryd.underlying22 (by kernel_rfl)) (by intro x; rfl) .t .t (by omega) (by omega)) r2 trivial
     (cF rfl (oR true 4 .t) r1 trivial
     (cF rfl (o_callClosP (avs := [.agg (rOp (Go.Gm.nth l i))]) .t (hw (Go.Gm.nth l i)) hf hb hnn (Args.one (.pagg .t))) r2 trivial
     Chain.nil))))))
     hB ?_
   clear hS; intro a w F hS
   obtain ⟨F, hS⟩ := hS.nm [16, 15, 14, 13, 12, 11, 10, 9, 8, 7, 5, 4, 1, 0] [0] rfl rfl
   try dsimp only [List.map, xD, xE, xT, xU, ldSF, rOp] at hS
   try simp only [Int.toNat_natCast] at hS
   refine then_n ?_
   refine cond_b hS rfl (fun hc1 => ?_) (fun hc1 => ?_)
   ·skip
    have hg : (i : Int) = foundAt p l := (foundAt_at hil hc1 hq).symm
    refine wp_seq ?_
    refine region_q hS
      (cF rfl (oM .t) r1 trivial
      (cF rfl (oN .t) r1 trivial
      Chain.nil))
      hB ?_
    clear hS; intro a w F hS
    obtain ⟨F, hS⟩ := hS.nm [17, 16, 15, 14, 13, 12, 11, 10, 9, 8, 7, 5, 4, 1, 0] [0] rfl rfl
    try dsimp only [rOp] at hS
    refine then_n (wp_ret (block_r (then_r (then_r (block_r (then_r ?_))))))
    refine ret_P hfr hS rfl (.tmp rfl .nil) (.one (.int hg))
   have hne : p (Go.Gm.nth l i) = false := hc1
   refine wp_skip (block_n (then_n ?_))
   refine region_q hS
     (cF rfl (o_add .t (.ci (by kernel_rfl))) r1 trivial
     (cF rfl (oM .t) r1 trivial
     Chain.nil))
     hB ?_
   clear hS; intro a w F hS
   obtain ⟨F, hS⟩ := hS.nm [18, 16, 15, 14, 13, 12, 11, 10, 9, 8, 7, 5, 4, 1, 0] [0] rfl rfl
   try dsimp only [rOp] at hS
   refine then_n ?_
   replace hS := hS.ent (i := 8) (s' := .pv (.int .i64 ((i + 1 : Nat) : Int))) rfl (.int (wrap_succ (by omega)))
   obtain ⟨F, hS⟩ := hS.nm [7, 4, 1, 0, 8] [0] rfl rfl
   exact ⟨(i + 1), F, ⟨by omega, (fun k hk => by rcases Nat.lt_or_eq_of_le (Nat.le_of_lt_succ hk) with h | h; exact hq k h; rw [h]; exact hne)⟩, hS, by omega⟩
  have hil : i = l.length := by simp at hc0; omega
  have hg : -1 = foundAt p l := (foundAt_none fun k hk => hq k (by simp at hc0; omega)).symm
  refine wp_exit (then_x (then_x (block_x (then_n (wp_seq ?_)))))
  refine region_q hS
    (cF rfl (oN (.ci (by kernel_rfl))) trivial trivial
    Chain.nil)
    hB ?_
  clear hS; intro a w F hS
  obtain ⟨F, hS⟩ := hS.nm [4] [0] rfl rfl
  try dsimp only [rOp] at hS
  refine then_n (wp_ret ?_)
  refine ret_P hfr hS rfl (.tmp rfl .nil) (.one (.int hg))

end Go.Proofs.YtpjjmolibanakaaDoor
