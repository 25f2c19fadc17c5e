/- What a transaction needs. No condition beyond those that each theorem says. -/
import Derived.Test.YtpnaolljmhhdbaaHi1
namespace Go.Proofs.Ytpnaolljmhhdbaa
open Go Go.Gm
set_option linter.unusedVariables false
set_option linter.unusedSimpArgs false
set_option maxHeartbeats 4000000
set_option maxRecDepth 8000

theorem found_any {α : Type} [Inhabited α] {p : α → Bool} {l : List α} : decide (0 ≤ foundAt p l) = l.any p := by
  rcases foundAt_spec p l with ⟨h1, h2⟩ | ⟨i, h1, h2, h3, h4⟩
  · rw [h1, eq_comm, show decide ((0 : Int) ≤ -1) = false by decide, List.any_eq_false]
    intro x hx
    obtain ⟨k, hk, e⟩ := List.getElem_of_mem hx
    have := h2 k hk
    rw [nth_eq hk, e] at this
    simp [this]
  · rw [h1, show decide ((0 : Int) ≤ (i : Int)) = true by simp, eq_comm, List.any_eq_true]
    exact ⟨_, nth_mem h2, h3⟩
theorem any_not {α : Type} {p : α → Bool} {l : List α} : (!l.any fun v => !p v) = l.all p := by
  induction l with
  | nil => rfl
  | cons x l ih => rw [List.any_cons, List.all_cons, ← ih]; cases p x <;> simp

theorem idxFV_c (l : List VerD) (p : VerD → Bool) (f : FuncId) (fn : Func) (cps : List PV) (hf : Try.prog.funcs[f]? = some fn) (hb : fn.body.isSome = true) (hnn : (fn.name == "runtime.NumGoroutine") = false) (hw : ∀ x, FnP Try.prog f (.agg (rVer x) :: cps) (.bool (p x))) : FnP Try.prog 78 [.sl rVer l, .clos f cps] (.int .i64 (foundAt p l)) := by
  refine FnP.mk Try.func78 rfl Try.ntmps78 rfl ?_
  intro B a w F hB hfr hS
  have hll := Sat.lenSl hS (i := 0) rfl
  refine wp_seq ?_
  refine region_q hS
    (cF rfl (oN (.ci (by kernel_rfl))) trivial trivial
    Chain.nil)
    hB ?_
  clear hS; intro a w F hS
  obtain ⟨F, hS⟩ := hS.nm [4, 1, 0] [0] rfl rfl
  try dsimp only [rVer] at hS
  refine then_n (wp_seq (wp_seq ?_))
  refine region_q hS
    (cF rfl (oM .t) r1 trivial
    (cF rfl (o_len_sl Try.underlying105 .t) r1 trivial
    (cF rfl (oM (.ci (by kernel_rfl))) trivial trivial
    Chain.nil)))
    hB ?_
  clear hS; intro a w F hS
  obtain ⟨F, hS⟩ := hS.nm [8, 7, 4, 1, 0] [0] rfl rfl
  try dsimp only [rVer] at hS
  refine then_n (wp_block ?_)
  refine loop_keep (σ := (Nat)) [0, 1, 4, 7] [0] (fun s => [(8, .pv (.int .i64 (s : Int)))]) (fun s => []) (fun s => s ≤ l.length ∧ (∀ k, k < s → p (Go.Gm.nth l k) = false)) (fun s => l.length - s) (0) hS ⟨rfl, rfl, rfl, rfl, rfl, trivial⟩ ⟨rfl, trivial⟩ ⟨Nat.zero_le _, fun k hk => absurd hk (Nat.not_lt_zero k)⟩ ?_
  clear hS; intro i a w F hC hS
  try dsimp only at hC
  obtain ⟨F, hS⟩ := hS.nm [8, 7, 4, 1, 0] [0] rfl rfl
  try dsimp only at hS
  obtain ⟨hi, hq⟩ := hC
  refine wp_seq ?_
  refine region_q hS
    (cF rfl (o_lss .t .t) r2 trivial
    Chain.nil)
    hB ?_
  clear hS; intro a w F hS
  obtain ⟨F, hS⟩ := hS.nm [9, 8, 7, 4, 1, 0] [0] rfl rfl
  try dsimp only [rVer] at hS
  refine then_n (wp_seq ?_)
  refine cond_b hS rfl (fun hc0 => ?_) (fun hc0 => ?_)
  ·skip
   have hil : i < l.length := by simp at hc0; omega
   refine wp_skip (then_n (wp_seq (wp_block (wp_seq ?_))))
   refine region_q hS
     (cF rfl (oM .t) r1 trivial
     (cF rfl (oN .t) r1 trivial
     Chain.nil))
     hB ?_
   clear hS; intro a w F hS
   obtain ⟨F, hS⟩ := hS.nm [10, 9, 8, 7, 5, 4, 1, 0] [0] rfl rfl
   try dsimp only [rVer] at hS
   refine then_n (wp_seq ?_)
   refine region_q hS
     (cF rfl (oM .t) r1 trivial
     (cF rfl (oM .t) r1 trivial
     (cF rfl (oM .t) r1 trivial
     (cF rfl (o_indexAddr_sl (sz := 3) (.mk Try.underlying105 (by kernel_rfl)) (by intro x; rfl) .t .t (by omega) (by omega)) r2 trivial
     (cF rfl (oR true 3 .t) r1 trivial
     (cF rfl (o_callClosP (avs := [.agg (rVer (Go.Gm.nth l i))]) .t (hw (Go.Gm.nth l i)) hf hb hnn (Args.one (.pagg .t))) r2 trivial
     Chain.nil))))))
     hB ?_
   clear hS; intro a w F hS
   obtain ⟨F, hS⟩ := hS.nm [16, 15, 14, 13, 12, 11, 10, 9, 8, 7, 5, 4, 1, 0] [0] rfl rfl
   try dsimp only [List.map, xD, xE, xT, xU, ldSF, rVer] at hS
   try simp only [Int.toNat_natCast] at hS
   refine then_n ?_
   refine cond_b hS rfl (fun hc1 => ?_) (fun hc1 => ?_)
   ·skip
    have hg : (i : Int) = foundAt p l := (foundAt_at hil hc1 hq).symm
    refine wp_seq ?_
    refine region_q hS
      (cF rfl (oM .t) r1 trivial
      (cF rfl (oN .t) r1 trivial
      Chain.nil))
      hB ?_
    clear hS; intro a w F hS
    obtain ⟨F, hS⟩ := hS.nm [17, 16, 15, 14, 13, 12, 11, 10, 9, 8, 7, 5, 4, 1, 0] [0] rfl rfl
    try dsimp only [rVer] at hS
    refine then_n (wp_ret (block_r (then_r (then_r (block_r (then_r ?_))))))
    refine ret_P hfr hS rfl (.tmp rfl .nil) (.one (.int hg))
   have hne : p (Go.Gm.nth l i) = false := hc1
   refine wp_skip (block_n (then_n ?_))
   refine region_q hS
     (cF rfl (o_add .t (.ci (by kernel_rfl))) r1 trivial
     (cF rfl (oM .t) r1 trivial
     Chain.nil))
     hB ?_
   clear hS; intro a w F hS
   obtain ⟨F, hS⟩ := hS.nm [18, 16, 15, 14, 13, 12, 11, 10, 9, 8, 7, 5, 4, 1, 0] [0] rfl rfl
   try dsimp only [rVer] at hS
   refine then_n ?_
   replace hS := hS.ent (i := 8) (s' := .pv (.int .i64 ((i + 1 : Nat) : Int))) rfl (.int (wrap_succ (by omega)))
   obtain ⟨F, hS⟩ := hS.nm [7, 4, 1, 0, 8] [0] rfl rfl
   exact ⟨(i + 1), F, ⟨by omega, (fun k hk => by rcases Nat.lt_or_eq_of_le (Nat.le_of_lt_succ hk) with h | h; exact hq k h; rw [h]; exact hne)⟩, hS, by omega⟩
  have hil : i = l.length := by simp at hc0; omega
  have hg : -1 = foundAt p l := (foundAt_none fun k hk => hq k (by simp at hc0; omega)).symm
  refine wp_exit (then_x (then_x (block_x (then_n (wp_seq ?_)))))
  refine region_q hS
    (cF rfl (oN (.ci (by kernel_rfl))) trivial trivial
    Chain.nil)
    hB ?_
  clear hS; intro a w F hS
  obtain ⟨F, hS⟩ := hS.nm [4] [0] rfl rfl
  try dsimp only [rVer] at hS
  refine then_n (wp_ret ?_)
  refine ret_P hfr hS rfl (.tmp rfl .nil) (.one (.int hg))

theorem anyFV_c (l : List VerD) (p : VerD → Bool) (f : FuncId) (fn : Func) (cps : List PV) (hf : Try.prog.funcs[f]? = some fn) (hb : fn.body.isSome = true) (hnn : (fn.name == "runtime.NumGoroutine") = false) (hw : ∀ x, FnP Try.prog f (.agg (rVer x) :: cps) (.bool (p x))) : FnP Try.prog 55 [.sl rVer l, .clos f cps] (.bool (l.any p)) := by
  refine FnP.mk Try.func55 rfl Try.ntmps55 rfl ?_
  intro B a w F hB hfr hS
  refine wp_seq ?_
  refine region_q hS
    (cF rfl (oN .cb) trivial trivial
    Chain.nil)
    hB ?_
  clear hS; intro a w F hS
  obtain ⟨F, hS⟩ := hS.nm [4, 1, 0] [0] rfl rfl
  try dsimp only [rVer] at hS
  refine then_n (wp_seq ?_)
  refine region_q hS
    (cF rfl (oM .t) r1 trivial
    (cF rfl (oM .t) r1 trivial
    (cF rfl (oP (idxFV_c l p f fn cps hf hb hnn hw) Try.func78 (Args.two .t .t)) r2 trivial
    (cF rfl (o_geq .t (.ci (by kernel_rfl))) r1 trivial
    (cF rfl (oN .t) r1 trivial
    Chain.nil)))))
    hB ?_
  clear hS; intro a w F hS
  obtain ⟨F, hS⟩ := hS.nm [4] [0] rfl rfl
  try dsimp only [rVer] at hS
  refine then_n (wp_ret ?_)
  refine ret_P hfr hS rfl (.tmp rfl .nil) (.one (.bool (by rw [found_any])))

theorem needed1_c (v : VerD) (g : HistD) (hs : SmallT g.txs) : FnP Try.prog 57 [.agg (rVer v), .ref (rHist g)] (.bool (!hasH g v)) := by
  refine FnP.mk Try.func57 rfl Try.ntmps57 rfl ?_
  intro B a w F hB hfr hS
  refine wp_seq ?_
  refine region_q hS
    (cF rfl (oX 101 (.conv .t .agg)) r1 trivial
    (cF rfl (oN .cb) trivial trivial
    Chain.nil))
    hB ?_
  clear hS; intro a w F hS
  replace hS := hS.sub
  obtain ⟨F, hS⟩ := hS.nm [3, 2, 1] [101, 0] rfl rfl
  try dsimp only [RS.sub, SF.sub, CF.sub, csub, Anc.sub, List.map, zCF, rHist, rTx, rOrd, rVer, rInt, rOp] at hS
  generalize Act.tau a 2 = v2 at hS
  refine then_n (wp_seq ?_)
  refine region_q hS
    (cF rfl (oR true 2 .t) r1 trivial
    (cF rfl (oL true 3 101 .is) r1 r1
    (cF rfl (oP (has_c g v hs) Try.func58 (Args.two (.pagg .t) (.pagg .t))) r2 trivial
    (cF rfl (o_not .t) r1 trivial
    (cF rfl (oN .t) r1 trivial
    Chain.nil)))))
    hB ?_
  clear hS; intro a w F hS
  obtain ⟨F, hS⟩ := hS.nm [3] [101, 0] rfl rfl
  try dsimp only [List.map, xD, xE, xT, xU, ldSF, rHist, rTx, rOrd, rVer, rInt, rOp] at hS
  refine then_n (wp_ret ?_)
  refine ret_P hfr hS rfl (.tmp rfl .nil) (.one .refl)

theorem needed_c (g : HistD) (t : TxD) (hs : SmallT g.txs) (ht : t.ops.length ≤ 1000) : FnP Try.prog 38 [.agg (rHist g), .agg (rTx t)] (.bool (needsH g t)) := by
  refine FnP.mk Try.func38 rfl Try.ntmps38 rfl ?_
  intro B a w F hB hfr hS
  refine wp_seq ?_
  refine region_q hS
    (cF rfl (oX 101 (.conv .t .agg)) r1 trivial
    (cF rfl (oX 102 (.conv .t .agg)) r1 trivial
    (cF rfl (oN .cb) trivial trivial
    Chain.nil)))
    hB ?_
  clear hS; intro a w F hS
  replace hS := hS.sub
  obtain ⟨F, hS⟩ := hS.nm [4, 3, 2] [102, 101, 0] rfl rfl
  try dsimp only [RS.sub, SF.sub, CF.sub, csub, Anc.sub, List.map, zCF, rHist, rTx, rOrd, rVer, rInt, rOp] at hS
  generalize Act.tau a 2 = v2 at hS
  generalize Act.tau a 3 = v3 at hS
  refine then_n (wp_seq ?_)
  refine part_first 2 hS (by kernel_rfl)
    (cG rfl (oL true 3 102 .is) r1 r1
    (cG rfl (oP (txNeeds_c t (by omega)) Try.func56 (Args.one (.pagg .t))) r1 trivial
    ChainN.nil))
    (by kernel_rfl) (by rw [hB]; kernel_rfl) ?_
  clear hS; intro a w F hS
  obtain ⟨F, hS⟩ := hS.nm [6, 4, 2] [102, 101, 0] rfl rfl
  try dsimp only [List.map, xD, xE, xT, xU, ldSF, rHist, rTx, rOrd, rVer, rInt, rOp] at hS
  obtain ⟨F, hS⟩ := hS.giveRef 101 2 rfl rfl rfl
  obtain ⟨F, hS⟩ := hS.nm [6, 4, 2] [102, 0] rfl rfl
  try dsimp only [Go.Gm.unCF] at hS
  refine part_last hS (by kernel_rfl)
    (cG rfl (o_makeFunc (Args.one .t)) r1 trivial
    (cG rfl (oP (anyFV_c (needsT t) (fun v => !hasH g v) 57 Try.f57 [.ref (rHist g)] Try.func57 rfl (by kernel_rfl) (fun v => needed1_c v g hs)) Try.func55 (Args.two .t .t)) r2 trivial
    (cG rfl (o_not .t) r1 trivial
    (cG rfl (oN .t) r1 trivial
    ChainN.nil))))
    (by kernel_rfl) (by rw [hB]; kernel_rfl) ?_
  clear hS; intro a w F hS
  obtain ⟨F, hS⟩ := hS.nm [4] [102, 0] rfl rfl
  try dsimp only [rHist, rTx, rOrd, rVer, rInt, rOp] at hS
  refine then_n (wp_ret ?_)
  refine ret_P hfr hS rfl (.tmp rfl .nil) (.one (.bool (by rw [any_not]; rfl)))

end Go.Proofs.Ytpnaolljmhhdbaa
