/- What a transaction needs. No condition beyond those that each theorem says. -/
import Derived.Test.YtpjjmolibanakaaHi1
namespace Go.Proofs.Ytpjjmolibanakaa
open Go Go.Gm
set_option linter.unusedVariables false
set_option linter.unusedSimpArgs false
set_option maxHeartbeats 4000000
set_option maxRecDepth 8000


theorem found_any {α : Type} [Inhabited α] {p : α → Bool} {l : List α} : decide (0 ≤ foundAt p l) = l.any p := by
  rcases foundAt_spec p l with ⟨h1, h2⟩ | ⟨i, h1, h2, h3, h4⟩
  · rw [h1, eq_comm, show decide ((0 : Int) ≤ -1) = false by decide, List.any_eq_false]
    intro x hx
    obtain ⟨k, hk, e⟩ := List.getElem_of_mem hx
    have := h2 k hk
    rw [nth_eq hk, e] at this
    simp [this]
  · rw [h1, show decide ((0 : Int) ≤ (i : Int)) = true by simp, eq_comm, List.any_eq_true]
    exact ⟨_, nth_mem h2, h3⟩
theorem any_not {α : Type} {p : α → Bool} {l : List α} : (!l.any fun v => !p v) = l.all p := by
  induction l with
  | nil => rfl
  | cons x l ih => rw [List.any_cons, List.all_cons, ← ih]; cases p x <;> simp

theorem idxFV_c (l : List VerD) (p : VerD → Bool) (f : FuncId) (fn : Func) (cps : List PV) (hf : Try.prog.funcs[f]? = some fn) (hb : fn.body.isSome = true) (hnn : (fn.name == "runtime.NumGoroutine") = false) (hw : ∀ x, FnP Try.prog f (.agg (rVer x) :: cps) (.bool (p x))) : FnP Try.prog 174 [.sl rVer l, .clos f cps] (.int .i64 (foundAt p l)) := by
  refine FnP.mk Try.func174 rfl Try.ntmps174 rfl ?_
  intro B a w F hB hfr hS
  have hll := Sat.lenSl hS (i := 0) rfl
  refine wp_seq ?_
  refine region_seq hS (by kernel_rfl)
    (cF rfl (o_assign (.ci (by kernel_rfl)) (by rfl)) trivial trivial
    Chain.nil)
    (by kernel_rfl) (by rw [hB]; kernel_rfl) ?_
  clear hS; intro a w F hS
  obtain ⟨F, hS⟩ := hS.norm [(0, _), (1, _), (4, _)] [(0, _)] r3 r1
  try dsimp only [rVer] at hS
  refine then_n ?_
  refine wp_seq ?_
  refine wp_seq ?_
  refine region_seq hS (by kernel_rfl)
    (cF rfl (o_move .t (by rfl)) r1 trivial
    (cF rfl (o_len_sl Try.underlying55 .t) r1 trivial
    (cF rfl (o_move (.ci (by kernel_rfl)) (by rfl)) trivial trivial
    Chain.nil)))
    (by kernel_rfl) (by rw [hB]; kernel_rfl) ?_
  clear hS; intro a w F hS
  obtain ⟨F, hS⟩ := hS.norm [(0, _), (1, _), (4, _), (7, _), (8, _)] [(0, _)] r5 r1
  try dsimp only [rVer] at hS
  refine then_n ?_
  refine wp_block ?_
  refine loop_keep (σ := (Nat)) [0, 1, 4, 7] [0] (fun s => [(8, .pv (.int .i64 (s : Int)))]) (fun s => []) (fun s => s ≤ l.length ∧ (∀ k, k < s → p (Go.Gm.nth l k) = false)) (fun s => l.length - s) (0) hS ⟨rfl, rfl, rfl, rfl, rfl, trivial⟩ ⟨rfl, trivial⟩ ⟨Nat.zero_le _, fun k hk => absurd hk (Nat.not_lt_zero k)⟩ ?_
  clear hS; intro i a w F hC hS
  try dsimp only at hC
  obtain ⟨F, hS⟩ := hS.norm [(0, _), (1, _), (4, _), (7, _), (8, _)] [(0, _)] r5 r1
  try dsimp only at hS
  obtain ⟨hi, hq⟩ := hC
  refine wp_seq ?_
  refine region_seq hS (by kernel_rfl)
    (cF rfl (o_lss .t .t) r2 trivial
    Chain.nil)
    (by kernel_rfl) (by rw [hB]; kernel_rfl) ?_
  clear hS; intro a w F hS
  obtain ⟨F, hS⟩ := hS.norm [(0, _), (1, _), (4, _), (7, _), (8, _), (9, _)] [(0, _)] r6 r1
  try dsimp only [rVer] at hS
  refine then_n ?_
  refine wp_seq ?_
  refine cond_b hS rfl (fun hc0 => ?_) (fun hc0 => ?_)
  ·skip
   have hil : i < l.length := by simp at hc0; omega
   refine wp_skip ?_
   refine then_n ?_
   refine wp_seq ?_
   refine wp_block ?_
   refine wp_seq ?_
   refine region_seq hS (by kernel_rfl)
     (cF rfl (o_move .t (by rfl)) r1 trivial
     (cF rfl (o_assign .t (by rfl)) r1 trivial
     Chain.nil))
     (by kernel_rfl) (by rw [hB]; kernel_rfl) ?_
   clear hS; intro a w F hS
   obtain ⟨F, hS⟩ := hS.norm [(0, _), (1, _), (4, _), (5, _), (7, _), (8, _), (9, _), (10, _)] [(0, _)] r8 r1
   try dsimp only [rVer] at hS
   refine then_n ?_
   refine wp_seq ?_
   refine region_seq hS (by kernel_rfl)
     (cF rfl (o_move .t (by rfl)) r1 trivial
     (cF rfl (o_move .t (by rfl)) r1 trivial
     (cF rfl (o_move .t (by rfl)) r1 trivial
     (cF rfl (o_indexAddr_sl (sz := 3) (.mk Try.underlying55 (by kernel_rfl)) (by intro x; rfl) .t .t (by omega) (by omega)) r2 trivial
     (cF rfl (o_load_ref (ag := true) (sz := 3) .t (by kernel_rfl) (by kernel_rfl) (by kernel_rfl)) r1 trivial
     (cF rfl (o_callClosP (avs := [.agg (rVer (Go.Gm.nth l i))]) .t (hw (Go.Gm.nth l i)) hf hb hnn (Args.one (.pagg .t))) r2 trivial
     Chain.nil))))))
     (by kernel_rfl) (by rw [hB]; kernel_rfl) ?_
   clear hS; intro a w F hS
   obtain ⟨F, hS⟩ := hS.norm [(0, _), (1, _), (4, _), (5, _), (7, _), (8, _), (9, _), (10, _), (11, _), (12, _), (13, _), (14, _), (15, _), (16, _)] [(0, _)] ⟨rfl, rfl, rfl, rfl, rfl, rfl, rfl, rfl, rfl, rfl, rfl, rfl, rfl, rfl, trivial⟩ r1
   try dsimp only [List.map, List.drop_succ_cons, List.drop_zero, List.drop_nil, List.take_succ_cons, List.take_zero, List.take_nil, ldSF, rVer] at hS
   try simp only [Int.toNat_natCast] at hS
   refine then_n ?_
   refine cond_b hS rfl (fun hc1 => ?_) (fun hc1 => ?_)
   ·skip
    have hg : (i : Int) = foundAt p l := (foundAt_at hil hc1 hq).symm
    refine wp_seq ?_
    refine region_seq hS (by kernel_rfl)
      (cF rfl (o_move .t (by rfl)) r1 trivial
      (cF rfl (o_assign .t (by rfl)) r1 trivial
      Chain.nil))
      (by kernel_rfl) (by rw [hB]; kernel_rfl) ?_
    clear hS; intro a w F hS
    obtain ⟨F, hS⟩ := hS.norm [(0, _), (1, _), (4, _), (5, _), (7, _), (8, _), (9, _), (10, _), (11, _), (12, _), (13, _), (14, _), (15, _), (16, _), (17, _)] [(0, _)] ⟨rfl, rfl, rfl, rfl, rfl, rfl, rfl, rfl, rfl, rfl, rfl, rfl, rfl, rfl, rfl, trivial⟩ r1
    try dsimp only [rVer] at hS
    refine then_n ?_
    refine wp_ret ?_
    refine block_r ?_
    refine then_r ?_
    refine then_r ?_
    refine block_r ?_
    refine then_r ?_
    refine ret_P hfr hS rfl (.tmp rfl .nil) (.one (.int hg))
   ·skip
    have hne : p (Go.Gm.nth l i) = false := hc1
    refine wp_skip ?_
    refine block_n ?_
    refine then_n ?_
    refine region_seq hS (by kernel_rfl)
      (cF rfl (o_add .t (.ci (by kernel_rfl))) r1 trivial
      (cF rfl (o_move .t (by rfl)) r1 trivial
      Chain.nil))
      (by kernel_rfl) (by rw [hB]; kernel_rfl) ?_
    clear hS; intro a w F hS
    obtain ⟨F, hS⟩ := hS.norm [(0, _), (1, _), (4, _), (5, _), (7, _), (8, _), (9, _), (10, _), (11, _), (12, _), (13, _), (14, _), (15, _), (16, _), (18, _)] [(0, _)] ⟨rfl, rfl, rfl, rfl, rfl, rfl, rfl, rfl, rfl, rfl, rfl, rfl, rfl, rfl, rfl, trivial⟩ r1
    try dsimp only [rVer] at hS
    refine then_n ?_
    replace hS := hS.ent (i := 8) (s' := .pv (.int .i64 ((i + 1 : Nat) : Int))) rfl (.int (wrap_succ (by omega)))
    obtain ⟨F, hS⟩ := hS.norm [(8, _), (0, _), (1, _), (4, _), (7, _)] [(0, _)] ⟨rfl, rfl, rfl, rfl, rfl, trivial⟩ ⟨rfl, trivial⟩
    exact ⟨(i + 1), F, ⟨by omega, (fun k hk => by rcases Nat.lt_or_eq_of_le (Nat.le_of_lt_succ hk) with h | h; exact hq k h; rw [h]; exact hne)⟩, hS, by omega⟩
  ·skip
   have hil : i = l.length := by simp at hc0; omega
   have hg : -1 = foundAt p l := (foundAt_none fun k hk => hq k (by simp at hc0; omega)).symm
   refine wp_exit ?_
   refine then_x ?_
   refine then_x ?_
   refine block_x ?_
   refine then_n ?_
   refine wp_seq ?_
   refine region_seq hS (by kernel_rfl)
     (cF rfl (o_assign (.ci (by kernel_rfl)) (by rfl)) trivial trivial
     Chain.nil)
     (by kernel_rfl) (by rw [hB]; kernel_rfl) ?_
   clear hS; intro a w F hS
   obtain ⟨F, hS⟩ := hS.norm [(4, _)] [(0, _)] r1 r1
   try dsimp only [rVer] at hS
   refine then_n ?_
   refine wp_ret ?_
   refine ret_P hfr hS rfl (.tmp rfl .nil) (.one (.int hg))

theorem anyFV_c (l : List VerD) (p : VerD → Bool) (f : FuncId) (fn : Func) (cps : List PV) (hf : Try.prog.funcs[f]? = some fn) (hb : fn.body.isSome = true) (hnn : (fn.name == "runtime.NumGoroutine") = false) (hw : ∀ x, FnP Try.prog f (.agg (rVer x) :: cps) (.bool (p x))) : FnP Try.prog 169 [.sl rVer l, .clos f cps] (.bool (l.any p)) := by
  refine FnP.mk Try.func169 rfl Try.ntmps169 rfl ?_
  intro B a w F hB hfr hS
  refine wp_seq ?_
  refine region_seq hS (by kernel_rfl)
    (cF rfl (o_assign .cb (by rfl)) trivial trivial
    Chain.nil)
    (by kernel_rfl) (by rw [hB]; kernel_rfl) ?_
  clear hS; intro a w F hS
  obtain ⟨F, hS⟩ := hS.norm [(0, _), (1, _), (4, _)] [(0, _)] r3 r1
  try dsimp only [rVer] at hS
  refine then_n ?_
  refine wp_seq ?_
  refine region_seq hS (by kernel_rfl)
    (cF rfl (o_move .t (by rfl)) r1 trivial
    (cF rfl (o_move .t (by rfl)) r1 trivial
    (cF rfl (o_callP (idxFV_c l p f fn cps hf hb hnn hw) Try.func174 rfl (by kernel_rfl) (Args.two .t .t)) r2 trivial
    (cF rfl (o_geq .t (.ci (by kernel_rfl))) r1 trivial
    (cF rfl (o_assign .t (by rfl)) r1 trivial
    Chain.nil)))))
    (by kernel_rfl) (by rw [hB]; kernel_rfl) ?_
  clear hS; intro a w F hS
  obtain ⟨F, hS⟩ := hS.norm [(4, _)] [(0, _)] r1 r1
  try dsimp only [rVer] at hS
  refine then_n ?_
  refine wp_ret ?_
  refine ret_P hfr hS rfl (.tmp rfl .nil) (.one (.bool (by rw [found_any])))

theorem needed1_c (v : VerD) (g : HistD) (hs : SmallT g.txs) : FnP Try.prog 170 [.agg (rVer v), .ref (rHist g)] (.bool (!hasH g v)) := by
  refine FnP.mk Try.func170 rfl Try.ntmps170 rfl ?_
  intro B a w F hB hfr hS
  refine wp_seq ?_
  refine region_seq hS (by kernel_rfl)
    (cF rfl (o_boxA 101 (.conv .t .agg) (by kernel_rfl)) r1 trivial
    (cF rfl (o_assign .cb (by rfl)) trivial trivial
    Chain.nil))
    (by kernel_rfl) (by rw [hB]; kernel_rfl) ?_
  clear hS; intro a w F hS
  replace hS := hS.sub
  obtain ⟨F, hS⟩ := hS.norm [(1, _), (2, _), (3, _)] [(0, _), (101, _)] r3 r2
  try dsimp only [RS.sub, SF.sub, CF.sub, csub, Anc.sub, List.map, zCF, rHist, rTx, rOrd, rVer, rInt, rOp] at hS
  generalize Act.tau a 2 = v2 at hS
  refine then_n ?_
  refine wp_seq ?_
  refine region_seq hS (by kernel_rfl)
    (cF rfl (o_load_ref (ag := true) (sz := 2) .t (by kernel_rfl) (by kernel_rfl) (by kernel_rfl)) r1 trivial
    (cF rfl (o_load (ag := true) (sz := 3) 101 .is (by kernel_rfl) (by kernel_rfl) (by kernel_rfl) (by rfl)) r1 r1
    (cF rfl (o_callP (has_c g v hs) Try.func171 rfl (by kernel_rfl) (Args.two (.pagg .t) (.pagg .t))) r2 trivial
    (cF rfl (o_not .t) r1 trivial
    (cF rfl (o_assign .t (by rfl)) r1 trivial
    Chain.nil)))))
    (by kernel_rfl) (by rw [hB]; kernel_rfl) ?_
  clear hS; intro a w F hS
  obtain ⟨F, hS⟩ := hS.norm [(3, _)] [(0, _), (101, _)] r1 r2
  try dsimp only [List.map, List.drop_succ_cons, List.drop_zero, List.drop_nil, List.take_succ_cons, List.take_zero, List.take_nil, ldSF, rHist, rTx, rOrd, rVer, rInt, rOp] at hS
  refine then_n ?_
  refine wp_ret ?_
  refine ret_P hfr hS rfl (.tmp rfl .nil) (.one .refl)

theorem needed_c (g : HistD) (t : TxD) (hs : SmallT g.txs) (ht : t.ops.length ≤ 1000) : FnP Try.prog 159 [.agg (rHist g), .agg (rTx t)] (.bool (needsH g t)) := by
  refine FnP.mk Try.func159 rfl Try.ntmps159 rfl ?_
  intro B a w F hB hfr hS
  refine wp_seq ?_
  refine region_seq hS (by kernel_rfl)
    (cF rfl (o_boxA 101 (.conv .t .agg) (by kernel_rfl)) r1 trivial
    (cF rfl (o_boxA 102 (.conv .t .agg) (by kernel_rfl)) r1 trivial
    (cF rfl (o_assign .cb (by rfl)) trivial trivial
    Chain.nil)))
    (by kernel_rfl) (by rw [hB]; kernel_rfl) ?_
  clear hS; intro a w F hS
  replace hS := hS.sub
  obtain ⟨F, hS⟩ := hS.norm [(2, _), (3, _), (4, _)] [(0, _), (101, _), (102, _)] r3 r3
  try dsimp only [RS.sub, SF.sub, CF.sub, csub, Anc.sub, List.map, zCF, rHist, rTx, rOrd, rVer, rInt, rOp] at hS
  generalize Act.tau a 2 = v2 at hS
  generalize Act.tau a 3 = v3 at hS
  refine then_n ?_
  refine wp_seq ?_
  refine part_first 2 hS (by kernel_rfl)
    (cG rfl (o_load (ag := true) (sz := 3) 102 .is (by kernel_rfl) (by kernel_rfl) (by kernel_rfl) (by rfl)) r1 r1
    (cG rfl (o_callP (txNeeds_c t (by omega)) Try.func45 rfl (by kernel_rfl) (Args.one (.pagg .t))) r1 trivial
    ChainN.nil))
    (by kernel_rfl) (by rw [hB]; kernel_rfl) ?_
  clear hS; intro a w F hS
  obtain ⟨F, hS⟩ := hS.norm [(2, _), (4, _), (6, _)] [(0, _), (101, _), (102, _)] r3 r3
  try dsimp only [List.map, List.drop_succ_cons, List.drop_zero, List.drop_nil, List.take_succ_cons, List.take_zero, List.take_nil, ldSF, rHist, rTx, rOrd, rVer, rInt, rOp] at hS
  obtain ⟨F, hS⟩ := hS.giveRef 101 2 rfl rfl rfl
  obtain ⟨F, hS⟩ := hS.norm [(2, _), (4, _), (6, _)] [(0, _), (102, _)] r3 r2
  try dsimp only [Go.Gm.unCF] at hS
  refine part_last hS (by kernel_rfl)
    (cG rfl (o_makeFunc (Args.one .t)) r1 trivial
    (cG rfl (o_callP (anyFV_c (needsT t) (fun v => !hasH g v) 170 Try.f170 [.ref (rHist g)] Try.func170 rfl (by kernel_rfl) (fun v => needed1_c v g hs)) Try.func169 rfl (by kernel_rfl) (Args.two .t .t)) r2 trivial
    (cG rfl (o_not .t) r1 trivial
    (cG rfl (o_assign .t (by rfl)) r1 trivial
    ChainN.nil))))
    (by kernel_rfl) (by rw [hB]; kernel_rfl) ?_
  clear hS; intro a w F hS
  obtain ⟨F, hS⟩ := hS.norm [(4, _)] [(0, _), (102, _)] r1 r2
  try dsimp only [rHist, rTx, rOrd, rVer, rInt, rOp] at hS
  refine then_n ?_
  refine wp_ret ?_
  refine ret_P hfr hS rfl (.tmp rfl .nil) (.one (.bool (by rw [any_not]; rfl)))

theorem refNeedsH_c (g : HistD) (t : TxD) (hs : SmallT g.txs) (ht : t.ops.length ≤ 1000) : FnP Try.prog 129 [.agg (rHist g), .agg (rTx t)] (.bool (needsH g t)) := by
  refine FnP.mk Try.func129 rfl Try.ntmps129 rfl ?_
  intro B a w F hB hfr hS
  have hnl : (needsT t).length ≤ 1000 := by have := needsL_len t.id t.ops t.ops.length; rw [List.take_length] at this; unfold needsT; omega
  refine wp_seq ?_
  refine region_seq hS (by kernel_rfl)
    (cF rfl (o_boxA 101 (.conv .t .agg) (by kernel_rfl)) r1 trivial
    (cF rfl (o_boxA 102 (.conv .t .agg) (by kernel_rfl)) r1 trivial
    (cF rfl (o_assign .cb (by rfl)) trivial trivial
    Chain.nil)))
    (by kernel_rfl) (by rw [hB]; kernel_rfl) ?_
  clear hS; intro a w F hS
  replace hS := hS.sub
  obtain ⟨F, hS⟩ := hS.norm [(2, _), (3, _), (4, _)] [(0, _), (101, _), (102, _)] r3 r3
  try dsimp only [RS.sub, SF.sub, CF.sub, csub, Anc.sub, List.map, zCF, rHist, rTx, rOrd, rVer, rInt, rOp] at hS
  generalize Act.tau a 2 = v2 at hS
  generalize Act.tau a 3 = v3 at hS
  refine then_n ?_
  refine wp_seq ?_
  refine wp_seq ?_
  refine region_seq hS (by kernel_rfl)
    (cF rfl (o_load (ag := true) (sz := 3) 102 .is (by kernel_rfl) (by kernel_rfl) (by kernel_rfl) (by rfl)) r1 r1
    (cF rfl (o_callP (refNeeds_c t (by omega)) Try.func46 rfl (by kernel_rfl) (Args.one (.pagg .t))) r1 trivial
    (cF rfl (o_len_sl Try.underlying55 .t) r1 trivial
    (cF rfl (o_move (.ci (by kernel_rfl)) (by rfl)) trivial trivial
    Chain.nil))))
    (by kernel_rfl) (by rw [hB]; kernel_rfl) ?_
  clear hS; intro a w F hS
  obtain ⟨F, hS⟩ := hS.norm [(2, _), (4, _), (8, _), (9, _), (10, _)] [(0, _), (101, _), (102, _)] r5 r3
  try dsimp only [List.map, List.drop_succ_cons, List.drop_zero, List.drop_nil, List.take_succ_cons, List.take_zero, List.take_nil, ldSF, rHist, rTx, rOrd, rVer, rInt, rOp] at hS
  refine then_n ?_
  refine wp_block ?_
  refine loop_keep (σ := (Nat)) [2, 4, 8, 9] [0, 101, 102] (fun s => [(10, .pv (.int .i64 (s : Int)))]) (fun s => []) (fun s => s ≤ (needsT t).length ∧ (∀ k, k < s → hasH g (Go.Gm.nth (needsT t) k) = true)) (fun s => (needsT t).length - s) (0) hS ⟨rfl, rfl, rfl, rfl, rfl, trivial⟩ ⟨rfl, rfl, rfl, trivial⟩ ⟨Nat.zero_le _, fun k hk => absurd hk (Nat.not_lt_zero k)⟩ ?_
  clear hS; intro i a w F hC hS
  try dsimp only at hC
  obtain ⟨F, hS⟩ := hS.norm [(2, _), (4, _), (8, _), (9, _), (10, _)] [(0, _), (101, _), (102, _)] r5 r3
  try dsimp only at hS
  obtain ⟨hi, hq⟩ := hC
  refine wp_seq ?_
  refine region_seq hS (by kernel_rfl)
    (cF rfl (o_lss .t .t) r2 trivial
    Chain.nil)
    (by kernel_rfl) (by rw [hB]; kernel_rfl) ?_
  clear hS; intro a w F hS
  obtain ⟨F, hS⟩ := hS.norm [(2, _), (4, _), (8, _), (9, _), (10, _), (11, _)] [(0, _), (101, _), (102, _)] r6 r3
  try dsimp only [rHist, rTx, rOrd, rVer, rInt, rOp] at hS
  refine then_n ?_
  refine wp_seq ?_
  refine cond_b hS rfl (fun hc0 => ?_) (fun hc0 => ?_)
  ·skip
   have hil : i < (needsT t).length := by simp at hc0; omega
   refine wp_skip ?_
   refine then_n ?_
   refine wp_seq ?_
   refine wp_block ?_
   refine wp_seq ?_
   refine region_seq hS (by kernel_rfl)
     (cF rfl (o_indexAddr_sl (sz := 3) (.mk Try.underlying55 (by kernel_rfl)) (by intro x; rfl) .t .t (by omega) (by omega)) r2 trivial
     (cF rfl (o_load_ref (ag := true) (sz := 3) .t (by kernel_rfl) (by kernel_rfl) (by kernel_rfl)) r1 trivial
     (cF rfl (o_alloc (zs := [.int .i64 0, .int .i64 0, .int .i64 0]) 103 (by kernel_rfl)) trivial trivial
     (cF rfl (o_storeA (sz := 3) 103 .same .t (by kernel_rfl) (by kernel_rfl) (by kernel_rfl)) r2 r1
     Chain.nil))))
     (by kernel_rfl) (by rw [hB]; kernel_rfl) ?_
   clear hS; intro a w F hS
   replace hS := hS.sub
   obtain ⟨F, hS⟩ := hS.norm [(2, _), (4, _), (6, _), (8, _), (9, _), (10, _), (11, _), (12, _), (13, _)] [(0, _), (101, _), (102, _), (103, _)] ⟨rfl, rfl, rfl, rfl, rfl, rfl, rfl, rfl, rfl, trivial⟩ r4
   try dsimp only [RS.sub, SF.sub, CF.sub, csub, Anc.sub, List.map, stCells, List.length_cons, List.length_nil, Nat.reduceAdd, List.drop_succ_cons, List.drop_zero, List.drop_nil, List.take_succ_cons, List.take_zero, List.take_nil, List.cons_append, List.nil_append, zCF, ldSF, rHist, rTx, rOrd, rVer, rInt, rOp] at hS
   generalize Act.tau a 6 = v6 at hS
   try simp only [Int.toNat_natCast] at hS
   refine then_n ?_
   refine wp_seq ?_
   refine region_seq hS (by kernel_rfl)
     (cF rfl (o_load (ag := true) (sz := 2) 101 .is (by kernel_rfl) (by kernel_rfl) (by kernel_rfl) (by rfl)) r1 r1
     (cF rfl (o_load (ag := true) (sz := 3) 103 .is (by kernel_rfl) (by kernel_rfl) (by kernel_rfl) (by rfl)) r1 r1
     (cF rfl (o_callP (refHas_c g (Go.Gm.nth (needsT t) i) hs) Try.func157 rfl (by kernel_rfl) (Args.two (.pagg .t) (.pagg .t))) r2 trivial
     (cF rfl (o_not .t) r1 trivial
     Chain.nil))))
     (by kernel_rfl) (by rw [hB]; kernel_rfl) ?_
   clear hS; intro a w F hS
   obtain ⟨F, hS⟩ := hS.norm [(2, _), (4, _), (6, _), (8, _), (9, _), (10, _), (11, _), (12, _), (13, _), (14, _), (15, _), (16, _), (17, _)] [(0, _), (101, _), (102, _), (103, _)] ⟨rfl, rfl, rfl, rfl, rfl, rfl, rfl, rfl, rfl, rfl, rfl, rfl, rfl, trivial⟩ r4
   try dsimp only [List.map, List.drop_succ_cons, List.drop_zero, List.drop_nil, List.take_succ_cons, List.take_zero, List.take_nil, ldSF, rHist, rTx, rOrd, rVer, rInt, rOp] at hS
   refine then_n ?_
   refine cond_b hS rfl (fun hc1 => ?_) (fun hc1 => ?_)
   ·skip
    have hg : false = needsH g t := (needsH_false hil (by simpa using hc1)).symm
    refine wp_seq ?_
    refine region_seq hS (by kernel_rfl)
      (cF rfl (o_assign .cb (by rfl)) trivial trivial
      Chain.nil)
      (by kernel_rfl) (by rw [hB]; kernel_rfl) ?_
    clear hS; intro a w F hS
    obtain ⟨F, hS⟩ := hS.norm [(2, _), (4, _), (6, _), (8, _), (9, _), (10, _), (11, _), (12, _), (13, _), (14, _), (15, _), (16, _), (17, _)] [(0, _), (101, _), (102, _), (103, _)] ⟨rfl, rfl, rfl, rfl, rfl, rfl, rfl, rfl, rfl, rfl, rfl, rfl, rfl, trivial⟩ r4
    try dsimp only [rHist, rTx, rOrd, rVer, rInt, rOp] at hS
    refine then_n ?_
    refine wp_ret ?_
    refine block_r ?_
    refine then_r ?_
    refine then_r ?_
    refine block_r ?_
    refine then_r ?_
    refine ret_P hfr hS rfl (.tmp rfl .nil) (.one (.bool hg))
   ·skip
    have hne : hasH g (Go.Gm.nth (needsT t) i) = true := by simpa using hc1
    refine wp_skip ?_
    refine block_n ?_
    refine then_n ?_
    refine region_seq hS (by kernel_rfl)
      (cF rfl (o_add .t (.ci (by kernel_rfl))) r1 trivial
      (cF rfl (o_move .t (by rfl)) r1 trivial
      Chain.nil))
      (by kernel_rfl) (by rw [hB]; kernel_rfl) ?_
    clear hS; intro a w F hS
    obtain ⟨F, hS⟩ := hS.norm [(2, _), (4, _), (6, _), (8, _), (9, _), (10, _), (11, _), (12, _), (13, _), (14, _), (15, _), (16, _), (17, _), (18, _)] [(0, _), (101, _), (102, _), (103, _)] ⟨rfl, rfl, rfl, rfl, rfl, rfl, rfl, rfl, rfl, rfl, rfl, rfl, rfl, rfl, trivial⟩ r4
    try dsimp only [rHist, rTx, rOrd, rVer, rInt, rOp] at hS
    refine then_n ?_
    replace hS := hS.ent (i := 10) (s' := .pv (.int .i64 ((i + 1 : Nat) : Int))) rfl (.int (wrap_succ (by omega)))
    obtain ⟨F, hS⟩ := hS.norm [(10, _), (2, _), (4, _), (8, _), (9, _)] [(0, _), (101, _), (102, _)] ⟨rfl, rfl, rfl, rfl, rfl, trivial⟩ ⟨rfl, rfl, rfl, trivial⟩
    exact ⟨(i + 1), F, ⟨by omega, (fun k hk => by rcases Nat.lt_or_eq_of_le (Nat.le_of_lt_succ hk) with h9 | h9; exact hq k h9; rw [h9]; exact hne)⟩, hS, by omega⟩
  ·skip
   have hil : i = (needsT t).length := by simp at hc0; omega
   have hg : true = needsH g t := (needsH_true (by rw [← hil]; exact hq)).symm
   refine wp_exit ?_
   refine then_x ?_
   refine then_x ?_
   refine block_x ?_
   refine then_n ?_
   refine wp_seq ?_
   refine region_seq hS (by kernel_rfl)
     (cF rfl (o_assign .cb (by rfl)) trivial trivial
     Chain.nil)
     (by kernel_rfl) (by rw [hB]; kernel_rfl) ?_
   clear hS; intro a w F hS
   obtain ⟨F, hS⟩ := hS.norm [(4, _)] [(0, _), (101, _), (102, _)] r1 r3
   try dsimp only [rHist, rTx, rOrd, rVer, rInt, rOp] at hS
   refine then_n ?_
   refine wp_ret ?_
   refine ret_P hfr hS rfl (.tmp rfl .nil) (.one (.bool hg))

end Go.Proofs.Ytpjjmolibanakaa
