/- Slices of operations: DeleteFunc. No condition beyond those that each theorem says. -/
import Derived.Test.YtpjjmolibanakaaDoorTx1
namespace Go.Proofs.YtpjjmolibanakaaDoor
open Go Go.Gm
set_option linter.unusedVariables false
set_option linter.unusedSimpArgs false
set_option maxHeartbeats 4000000
set_option maxRecDepth 8000

theorem delFO_c (v : Value) (l : List OpD) (hll : l.length ≤ 1000000) (p : OpD → Bool) (f : FuncId) (fn : Func) (cps : List PV) (hf : Tryd.prog.funcs[f]? = some fn) (hb : fn.body.isSome = true) (hnn : (fn.name == "runtime.NumGoroutine") = false) (hw : ∀ x, FnP Tryd.prog f (.agg (rOp x) :: cps) (.bool (p x))) : FnG Tryd.prog 29 1 [.is v, .clos f cps] [rowH 30 4 rOp l v] (PV.one) (fun v => [rowH 30 4 rOp (l.filter fun x => !p x) v]) := by
  refine FnG.mk Tryd.func29 rfl Tryd.ntmps29 rfl (by kernel_rfl) ?_
  intro B F0 a w F hB hG hS
  replace hS := hS.turn 1 rfl (r' := .ob (.val v) (rowH 30 4 rOp l)) (fun _ _ _ _ h => h)
  refine wp_seq ?_
  refine region_q hS
    (cF rfl (oN (.c rfl)) trivial trivial
    Chain.nil)
    hB ?_
  clear hS; intro a w F hS
  obtain ⟨F, hS⟩ := hS.nm [4, 1, 0] [1, 0] rfl rfl
  try dsimp only [rOp] at hS
  refine then_n (wp_seq ?_)
  refine region_q hS
    (cF rfl (oM .t) r1 trivial
    (cF rfl (oM .t) r1 trivial
    (cF rfl (OpC.lendRow 1 [8] (oP (idxFO_c l p f fn cps hf hb hnn hw) Tryd.func40 (Args.two .t .t)) ⟨rfl, trivial, trivial⟩ (.pv (fun _ _ _ _ h => h)) trivial (by rfl)) r2 r1
    (cF rfl (oN .t) r1 trivial
    Chain.nil))))
    hB ?_
  clear hS; intro a w F hS
  obtain ⟨F, hS⟩ := hS.nm [5, 4, 1, 0] [1, 0] rfl rfl
  try dsimp only [rOp] at hS
  refine then_n (wp_seq (wp_seq ?_))
  refine region_q hS
    (cF rfl (oM .t) r1 trivial
    (cF rfl (o_eql .t (.ci (by kernel_rfl))) r1 trivial
    Chain.nil))
    hB ?_
  clear hS; intro a w F hS
  obtain ⟨F, hS⟩ := hS.nm [12, 5, 4, 1, 0] [1, 0] rfl rfl
  try dsimp only [rOp] at hS
  refine then_n ?_
  refine cond_b hS rfl (fun hc0 => ?_) (fun hc0 => ?_)
  ·skip
   have hno := (foundAt_spec p l).resolve_right (by rintro ⟨i, h1, _⟩; simp at hc0; omega)
   have hg : (l.filter fun x => !p x) = l := filter_all hno.2
   refine wp_seq ?_
   refine region_q hS
     (cF rfl (oM .t) r1 trivial
     (cF rfl (oN .t) r1 trivial
     Chain.nil))
     hB ?_
   clear hS; intro a w F hS
   obtain ⟨F, hS⟩ := hS.nm [5, 4, 1, 0] [1, 0] rfl rfl
   try dsimp only [rOp] at hS
   refine then_n (wp_ret (then_r ?_))
   have hS := hS.turn 1 rfl (r' := RS.hp (rowH 30 4 rOp (l.filter fun x => !p x) v)) (fun _ _ _ _ h => by rw [hg]; exact h)
   refine ret_N1 (h' := fun v => rowH 30 4 rOp (l.filter fun x => !p x) v) hG hS rfl (.tmp rfl .nil) (.one .one) rfl
  obtain ⟨i0, hi0, hi1, hip, hib⟩ := (foundAt_spec p l).resolve_left (by rintro ⟨h1, _⟩; simp [h1] at hc0)
  have hst0 := filter_pre hi1 hip hib
  refine wp_skip (then_n (wp_seq (wp_seq ?_)))
  refine region_q hS
    (cF rfl (oM .t) r1 trivial
    (cF rfl (o_add .t (.ci (by kernel_rfl))) r1 trivial
    (cF rfl (oN .t) r1 trivial
    Chain.nil)))
    hB ?_
  clear hS; intro a w F hS
  obtain ⟨F, hS⟩ := hS.nm [6, 5, 4, 1, 0] [1, 0] rfl rfl
  try dsimp only [rOp] at hS
  refine then_n (wp_block ?_)
  have hC0 : i0 < i0 + 1 ∧ i0 + 1 ≤ l.length ∧ l.length = l.length ∧ l.take i0 = (l.take (i0 + 1)).filter (fun x => !p x) ∧ ∀ k, i0 + 1 ≤ k → k < l.length → Go.Gm.nth l k = Go.Gm.nth l k := ⟨by omega, by omega, rfl, hst0, fun k _ _ => rfl⟩
  replace hS := hS.ent (i := 5) (s' := .pv (.int .i64 (i0 : Int))) rfl (.int hi0)
  replace hS := hS.ent (i := 6) (s' := .pv (.int .i64 ((i0 + 1 : Nat) : Int))) rfl (.int (by rw [hi0, wrap_i64 (by omega)]; omega))
  refine loop_keep (σ := Nat × Nat × List OpD) [0, 1, 4] [0] (fun s => [(5, .pv (.int .i64 (s.1 : Int))), (6, .pv (.int .i64 (s.2.1 : Int)))]) (fun s => [(1, .ob (.val v) (rowH 30 4 rOp s.2.2))]) (fun s => s.1 < s.2.1 ∧ s.2.1 ≤ l.length ∧ s.2.2.length = l.length ∧ s.2.2.take s.1 = (l.take s.2.1).filter (fun x => !p x) ∧ ∀ k, s.2.1 ≤ k → k < l.length → Go.Gm.nth s.2.2 k = Go.Gm.nth l k) (fun s => l.length - s.2.1) ((i0), (i0 + 1), (l)) hS ⟨rfl, rfl, rfl, rfl, rfl, trivial⟩ ⟨rfl, rfl, trivial⟩ hC0 ?_
  clear hS; intro s a w F hC hS
  obtain ⟨i, j, l1⟩ := s
  try dsimp only at hC
  obtain ⟨F, hS⟩ := hS.nm [6, 5, 4, 1, 0] [1, 0] rfl rfl
  try dsimp only at hS
  obtain ⟨hij, hj, hll1, htk, hrest⟩ := hC
  refine wp_seq (wp_seq ?_)
  refine region_q hS
    (cF rfl (oM .t) r1 trivial
    (cF rfl (oM .t) r1 trivial
    (cF rfl (o_len_row 1 Tryd.underlying22 .is) r1 r1
    (cF rfl (o_lss .t .t) r2 trivial
    Chain.nil))))
    hB ?_
  clear hS; intro a w F hS
  obtain ⟨F, hS⟩ := hS.nm [19, 18, 17, 16, 6, 5, 4, 1, 0] [1, 0] rfl rfl
  try dsimp only [rOp] at hS
  refine then_n ?_
  refine cond_b hS rfl (fun hc1 => ?_) (fun hc1 => ?_)
  ·skip
   have hjl : j < l.length := by simp at hc1; omega
   have hnj : Go.Gm.nth l1 j = (Go.Gm.nth l j) := hrest j (Nat.le_refl _) hjl
   have hfs := filter_step (p := fun x => !p x) hjl
   refine wp_skip (then_n (wp_seq (wp_block (wp_seq ?_))))
   refine region_q hS
     (cF rfl (oM .t) r1 trivial
     (cF rfl (oM .t) r1 trivial
     (cF rfl (o_indexAddr_row (sz := 4) 1 (.mk Tryd.underlying22 (by kernel_rfl)) .is .t (by omega) (by omega) (by rfl)) r2 r1
     (cF rfl (o_load_row0 (ag := true) (sz' := 4) (sz := 4) 1 .t (by intro x; rfl) (by omega) (by kernel_rfl) (by kernel_rfl) (by kernel_rfl)) r1 r1
     (cF rfl (oH [.bool false, .int .i64 0, .int .i64 0, .int .i64 0] 101) trivial trivial
     (cF rfl (oA 4 101 .same .t) r2 r1
     Chain.nil))))))
     hB ?_
   clear hS; intro a w F hS
   replace hS := hS.sub
   obtain ⟨F, hS⟩ := hS.nm [25, 24, 23, 22, 19, 18, 17, 16, 7, 6, 5, 4, 1, 0] [101, 1, 0] rfl rfl
   try dsimp only [RS.sub, SF.sub, CF.sub, csub, Anc.sub, List.map, stCells, xL, xM, Nat.reduceAdd, xD, xE, xT, xU, xC, xN, zCF, ldSF, rOp] at hS
   generalize Act.tau a 7 = v7 at hS
   try simp only [Int.toNat_natCast] at hS
   rw [hnj] at hS
   refine then_n (wp_seq ?_)
   refine region_q hS
     (cF rfl (oM .t) r1 trivial
     (cF rfl (oL true 4 101 .is) r1 r1
     (cF rfl (o_callClosP (avs := [.agg (rOp (Go.Gm.nth l j))]) .t (hw (Go.Gm.nth l j)) hf hb hnn (Args.one (.pagg .t))) r2 trivial
     (cF rfl (o_not .t) r1 trivial
     Chain.nil))))
     hB ?_
   clear hS; intro a w F hS
   obtain ⟨F, hS⟩ := hS.nm [29, 28, 27, 26, 25, 24, 23, 22, 19, 18, 17, 16, 7, 6, 5, 4, 1, 0] [101, 1, 0] rfl rfl
   try dsimp only [List.map, xD, xE, xT, xU, ldSF, rOp] at hS
   refine then_n ?_
   refine cond_b hS rfl (fun hc2 => ?_) (fun hc2 => ?_)
   ·skip
    have hp : p (Go.Gm.nth l j) = false := by simpa using hc2
    obtain ⟨i2, hi2e⟩ : ∃ i2, i2 = i + 1 := ⟨_, rfl⟩
    have hi2 : IntKind.wrap .i64 ((i : Int) + 1) = (i2 : Int) := by rw [hi2e]; exact wrap_succ (by omega)
    obtain ⟨l2, hl2⟩ : ∃ l2, l2 = l1.set i (Go.Gm.nth l j) := ⟨_, rfl⟩
    have hC2 : i2 < j + 1 ∧ j + 1 ≤ l.length ∧ l2.length = l.length ∧ l2.take i2 = (l.take (j + 1)).filter (fun x => !p x) ∧ ∀ k, j + 1 ≤ k → k < l.length → Go.Gm.nth l2 k = Go.Gm.nth l k := ⟨by omega, by omega, by rw [hl2, List.length_set]; exact hll1, by rw [hl2, hi2e, hfs, hp, ← htk, take_nth (by rw [List.length_set]; omega), List.take_set_of_le (Nat.le_refl _), nth_eq (by rw [List.length_set]; omega), List.getElem_set_self]; rfl, fun k hk hk2 => by rw [hl2, nth_eq (by rw [List.length_set]; omega), List.getElem_set_ne (by omega), ← nth_eq (by omega)]; exact hrest k (by omega) hk2⟩
    refine wp_seq ?_
    refine region_q hS
      (cF rfl (oM .t) r1 trivial
      (cF rfl (oM .t) r1 trivial
      (cF rfl (oL true 4 101 .is) r1 r1
      (cF rfl (o_indexAddr_row (sz := 4) 1 (.mk Tryd.underlying22 (by kernel_rfl)) .is .t (by omega) (by omega) (by rfl)) r2 r1
      (cF rfl (o_store_row (sz := 4) 1 .t (by intro x; rfl) (by omega) (.conv .t (Ent.aggU (l := rOp (Go.Gm.nth l j)) rfl rfl)) (by kernel_rfl)) r2 r1
      Chain.nil)))))
      hB ?_
    clear hS; intro a w F hS
    obtain ⟨F, hS⟩ := hS.nm [33, 32, 31, 30, 29, 28, 27, 26, 25, 24, 23, 22, 19, 18, 17, 16, 7, 6, 5, 4, 1, 0] [101, 1, 0] rfl rfl
    try dsimp only [List.map, stCells, xL, xM, Nat.reduceAdd, xD, xE, xT, xU, xC, xN, zCF, ldSF, rOp] at hS
    try simp only [Int.toNat_natCast] at hS
    rw [← hl2] at hS
    refine then_n ?_
    refine region_q hS
      (cF rfl (oM .t) r1 trivial
      (cF rfl (o_add .t (.ci (by kernel_rfl))) r1 trivial
      (cF rfl (oN .t) r1 trivial
      Chain.nil)))
      hB ?_
    clear hS; intro a w F hS
    obtain ⟨F, hS⟩ := hS.nm [35, 34, 33, 32, 31, 30, 29, 28, 27, 26, 25, 24, 23, 22, 19, 18, 17, 16, 7, 6, 5, 4, 1, 0] [101, 1, 0] rfl rfl
    try dsimp only [rOp] at hS
    refine block_n (then_n ?_)
    refine region_q hS
      (cF rfl (oM .t) r1 trivial
      (cF rfl (o_add .t (.ci (by kernel_rfl))) r1 trivial
      (cF rfl (oN .t) r1 trivial
      Chain.nil)))
      hB ?_
    clear hS; intro a w F hS
    obtain ⟨F, hS⟩ := hS.nm [35, 34, 33, 32, 31, 30, 29, 28, 27, 26, 25, 24, 23, 22, 21, 20, 19, 18, 17, 16, 7, 6, 5, 4, 1, 0] [101, 1, 0] rfl rfl
    try dsimp only [rOp] at hS
    refine then_n ?_
    have hmu : l.length - (j + 1) < l.length - j := by omega
    replace hS := hS.ent (i := 5) (s' := .pv (.int .i64 (i2 : Int))) rfl (.int hi2)
    replace hS := hS.ent (i := 6) (s' := .pv (.int .i64 ((j + 1 : Nat) : Int))) rfl (.int (wrap_succ (by omega)))
    obtain ⟨F, hS⟩ := hS.nm [4, 1, 0, 6, 5] [0, 1] rfl rfl
    exact ⟨((i2), (j + 1), (l2)), F, hC2, hS, hmu⟩
   have hp : p (Go.Gm.nth l j) = true := by simpa using hc2
   obtain ⟨i2, hi2e⟩ : ∃ i2, i2 = i := ⟨_, rfl⟩
   have hi2 : (i : Int) = (i2 : Int) := by rw [hi2e]
   obtain ⟨l2, hl2⟩ : ∃ l2, l2 = l1 := ⟨_, rfl⟩
   rw [← hl2] at hS
   have hC2 : i2 < j + 1 ∧ j + 1 ≤ l.length ∧ l2.length = l.length ∧ l2.take i2 = (l.take (j + 1)).filter (fun x => !p x) ∧ ∀ k, j + 1 ≤ k → k < l.length → Go.Gm.nth l2 k = Go.Gm.nth l k := ⟨by omega, by omega, by rw [hl2]; exact hll1, by rw [hl2, hi2e, hfs, hp, htk]; simp, fun k hk hk2 => by rw [hl2]; exact hrest k (by omega) hk2⟩
   refine wp_skip (block_n (then_n ?_))
   refine region_q hS
     (cF rfl (oM .t) r1 trivial
     (cF rfl (o_add .t (.ci (by kernel_rfl))) r1 trivial
     (cF rfl (oN .t) r1 trivial
     Chain.nil)))
     hB ?_
   clear hS; intro a w F hS
   obtain ⟨F, hS⟩ := hS.nm [29, 28, 27, 26, 25, 24, 23, 22, 21, 20, 19, 18, 17, 16, 7, 6, 5, 4, 1, 0] [101, 1, 0] rfl rfl
   try dsimp only [rOp] at hS
   refine then_n ?_
   have hmu : l.length - (j + 1) < l.length - j := by omega
   replace hS := hS.ent (i := 5) (s' := .pv (.int .i64 (i2 : Int))) rfl (.int hi2)
   replace hS := hS.ent (i := 6) (s' := .pv (.int .i64 ((j + 1 : Nat) : Int))) rfl (.int (wrap_succ (by omega)))
   obtain ⟨F, hS⟩ := hS.nm [4, 1, 0, 6, 5] [0, 1] rfl rfl
   exact ⟨((i2), (j + 1), (l2)), F, hC2, hS, hmu⟩
  have hjl : j = l.length := by simp at hc1; omega
  have hil2 : i < l.length := by omega
  have hg : (l.filter fun x => !p x) = (l1.take i ++ List.replicate (l1.length - i) (⟨false, 0, 0, 0⟩ : OpD)).take i := by rw [List.take_append_of_le_length (by rw [List.length_take]; omega), List.take_take, Nat.min_self, htk, hjl, List.take_length]
  refine wp_exit (then_x (then_x (block_x (then_n (wp_seq ?_)))))
  refine region_q hS
    (cF rfl (oM .t) r1 trivial
    (cF rfl (oM .t) r1 trivial
    (cF rfl (o_sub_row (sz := 4) 1 (.mk Tryd.underlying22 (by kernel_rfl)) .is .t (by omega) (by omega)) r2 r1
    (cF rfl (o_clear_row (R := rOp) (z := (⟨false, 0, 0, 0⟩ : OpD)) (zs := [.bool false, .int .i64 0, .int .i64 0, .int .i64 0]) 1 Tryd.underlying22 (by kernel_rfl) rfl rfl (fun _ _ => ⟨⟨rfl, rfl⟩, ⟨rfl, rfl, inR0⟩, ⟨rfl, rfl, inR0⟩, ⟨rfl, rfl, inR0⟩, trivial⟩) (by intro x; rfl) .t (by simp; omega)) r1 r1
    Chain.nil))))
    hB ?_
  clear hS; intro a w F hS
  obtain ⟨F, hS⟩ := hS.nm [5, 4, 0] [1, 0] rfl rfl
  try dsimp only [rOp] at hS
  refine then_n (wp_seq ?_)
  refine region_q hS
    (cF rfl (oM .t) r1 trivial
    (cF rfl (oM .t) r1 trivial
    (cF rfl (o_cut_row (sz := 4) 1 (.mk Tryd.underlying22 (by kernel_rfl)) (by intro x; rfl) .is .t (by omega) (by simp; omega)) r2 r1
    (cF rfl (oN .t) r1 trivial
    Chain.nil))))
    hB ?_
  clear hS; intro a w F hS
  replace hS := hS.sub
  obtain ⟨F, hS⟩ := hS.nm [4] [1, 0] rfl rfl
  try dsimp only [RS.sub, SF.sub, CF.sub, csub, Anc.sub, List.map, rOp] at hS
  generalize Act.tau a 41 = v41 at hS
  refine then_n (wp_ret ?_)
  have hS := hS.turn 1 rfl (r' := RS.hp (rowH 30 4 rOp (l.filter fun x => !p x) v41)) (fun _ _ _ _ h => by rw [hg]; exact h)
  refine ret_N1 (h' := fun v => rowH 30 4 rOp (l.filter fun x => !p x) v) hG hS rfl (.tmp rfl .nil) (.one .one) rfl

end Go.Proofs.YtpjjmolibanakaaDoor
