/- Ed1, Ed2, Ed3, Ed4, Ed5, in one text. -/
import Derived.Test.YtpjjmolibanakaaGreatHi0
import Derived.Test.YtpjjmolibanakaaGreatOr1
import Derived.Test.YtpjjmolibanakaaGreatLibE
import Derived.Test.YtpjjmolibanakaaGreatTx5
import Derived.Test.YtpjjmolibanakaaGreatHi1
import Derived.Test.YtpjjmolibanakaaGreatTx6
import Derived.Test.YtpjjmolibanakaaGreatOr4
import Derived.Test.YtpjjmolibanakaaGreatHi2
namespace Go.Proofs.YtpjjmolibanakaaGreat
open Go Go.Gm
set_option linter.unusedVariables false
set_option linter.unusedSimpArgs false
set_option maxHeartbeats 4000000
set_option maxRecDepth 8000


theorem idxFR_c (l : List OrdD) (p : OrdD → Bool) (f : FuncId) (fn : Func) (cps : List PV) (hf : Tryz.prog.funcs[f]? = some fn) (hb : fn.body.isSome = true) (hnn : (fn.name == "runtime.NumGoroutine") = false) (hw : ∀ x, FnP Tryz.prog f (.agg (rOrd x) :: cps) (.bool (p x))) : FnP Tryz.prog 45 [.sl rOrd l, .clos f cps] (.int .i64 (foundAt p l)) := by
  refine FnP.mk Tryz.func45 rfl Tryz.ntmps45 rfl ?_
  intro B a w F hB hfr hS
  have hll := Sat.lenSl hS (i := 0) rfl
  refine wp_seq ?_
  refine region_q hS
    (cF rfl (oN (.ci (by kernel_rfl))) trivial trivial
    Chain.nil)
    hB ?_
  clear hS; intro a w F hS
  obtain ⟨F, hS⟩ := hS.nm [4, 1, 0] [0] rfl rfl
  try dsimp only [rOrd] at hS
  refine then_n (wp_seq (wp_seq ?_))
  refine region_q hS
    (cF rfl (oM .t) r1 trivial
    (cF rfl (o_len_sl Tryz.underlying23 .t) r1 trivial
    (cF rfl (oM (.ci (by kernel_rfl))) trivial trivial
    Chain.nil)))
    hB ?_
  clear hS; intro a w F hS
  obtain ⟨F, hS⟩ := hS.nm [8, 7, 4, 1, 0] [0] rfl rfl
  try dsimp only [rOrd] at hS
  refine then_n (wp_block ?_)
  refine loop_keep (σ := (Nat)) [0, 1, 4, 7] [0] (fun s => [(8, .pv (.int .i64 (s : Int)))]) (fun s => []) (fun s => s ≤ l.length ∧ (∀ k, k < s → p (Go.Gm.nth l k) = false)) (fun s => l.length - s) (0) hS ⟨rfl, rfl, rfl, rfl, rfl, trivial⟩ ⟨rfl, trivial⟩ ⟨Nat.zero_le _, fun k hk => absurd hk (Nat.not_lt_zero k)⟩ ?_
  clear hS; intro i a w F hC hS
  try dsimp only at hC
  obtain ⟨F, hS⟩ := hS.nm [8, 7, 4, 1, 0] [0] rfl rfl
  try dsimp only at hS
  obtain ⟨hi, hq⟩ := hC
  refine wp_seq ?_
  refine region_q hS
    (cF rfl (o_lss .t .t) r2 trivial
    Chain.nil)
    hB ?_
  clear hS; intro a w F hS
  obtain ⟨F, hS⟩ := hS.nm [9, 8, 7, 4, 1, 0] [0] rfl rfl
  try dsimp only [rOrd] at hS
  refine then_n (wp_seq ?_)
  refine cond_b hS rfl (fun hc0 => ?_) (fun hc0 => ?_)
  ·skip
   have hil : i < l.length := by simp at hc0; omega
   refine wp_skip (then_n (wp_seq (wp_block (wp_seq ?_))))
   refine region_q hS
     (cF rfl (oM .t) r1 trivial
     (cF rfl (oN .t) r1 trivial
     Chain.nil))
     hB ?_
   clear hS; intro a w F hS
   obtain ⟨F, hS⟩ := hS.nm [10, 9, 8, 7, 5, 4, 1, 0] [0] rfl rfl
   try dsimp only [rOrd] at hS
   refine then_n (wp_seq ?_)
   refine region_q hS
     (cF rfl (oM .t) r1 trivial
     (cF rfl (oM .t) r1 trivial
     (cF rfl (oM .t) r1 trivial
     (cF rfl (o_indexAddr_sl (sz := 2) (.mk Tryz.underlying23 (by kernel_rfl)) (by intro x; rfl) .t .t (by omega) (by omega)) r2 trivial
     (cF rfl (oR true 2 .t) r1 trivial
     (cF rfl (o_callClosP (avs := [.agg (rOrd (Go.Gm.nth l i))]) .t (hw (Go.Gm.nth l i)) hf hb hnn (Args.one (.pagg .t))) r2 trivial
     Chain.nil))))))
     hB ?_
   clear hS; intro a w F hS
   obtain ⟨F, hS⟩ := hS.nm [16, 15, 14, 13, 12, 11, 10, 9, 8, 7, 5, 4, 1, 0] [0] rfl rfl
   try dsimp only [List.map, xD, xE, xT, xU, ldSF, rOrd] at hS
   try simp only [Int.toNat_natCast] at hS
   refine then_n ?_
   refine cond_b hS rfl (fun hc1 => ?_) (fun hc1 => ?_)
   ·skip
    have hg : (i : Int) = foundAt p l := (foundAt_at hil hc1 hq).symm
    refine wp_seq ?_
    refine region_q hS
      (cF rfl (oM .t) r1 trivial
      (cF rfl (oN .t) r1 trivial
      Chain.nil))
      hB ?_
    clear hS; intro a w F hS
    obtain ⟨F, hS⟩ := hS.nm [17, 16, 15, 14, 13, 12, 11, 10, 9, 8, 7, 5, 4, 1, 0] [0] rfl rfl
    try dsimp only [rOrd] at hS
    refine then_n (wp_ret (block_r (then_r (then_r (block_r (then_r ?_))))))
    refine ret_P hfr hS rfl (.tmp rfl .nil) (.one (.int hg))
   have hne : p (Go.Gm.nth l i) = false := hc1
   refine wp_skip (block_n (then_n ?_))
   refine region_q hS
     (cF rfl (o_add .t (.ci (by kernel_rfl))) r1 trivial
     (cF rfl (oM .t) r1 trivial
     Chain.nil))
     hB ?_
   clear hS; intro a w F hS
   obtain ⟨F, hS⟩ := hS.nm [18, 16, 15, 14, 13, 12, 11, 10, 9, 8, 7, 5, 4, 1, 0] [0] rfl rfl
   try dsimp only [rOrd] at hS
   refine then_n ?_
   replace hS := hS.ent (i := 8) (s' := .pv (.int .i64 ((i + 1 : Nat) : Int))) rfl (.int (wrap_succ (by omega)))
   obtain ⟨F, hS⟩ := hS.nm [7, 4, 1, 0, 8] [0] rfl rfl
   exact ⟨(i + 1), F, ⟨by omega, (fun k hk => by rcases Nat.lt_or_eq_of_le (Nat.le_of_lt_succ hk) with h | h; exact hq k h; rw [h]; exact hne)⟩, hS, by omega⟩
  have hil : i = l.length := by simp at hc0; omega
  have hg : -1 = foundAt p l := (foundAt_none fun k hk => hq k (by simp at hc0; omega)).symm
  refine wp_exit (then_x (then_x (block_x (then_n (wp_seq ?_)))))
  refine region_q hS
    (cF rfl (oN (.ci (by kernel_rfl))) trivial trivial
    Chain.nil)
    hB ?_
  clear hS; intro a w F hS
  obtain ⟨F, hS⟩ := hS.nm [4] [0] rfl rfl
  try dsimp only [rOrd] at hS
  refine then_n (wp_ret ?_)
  refine ret_P hfr hS rfl (.tmp rfl .nil) (.one (.int hg))

theorem delFR_c (v : Value) (l : List OrdD) (hll : l.length ≤ 1000000) (p : OrdD → Bool) (f : FuncId) (fn : Func) (cps : List PV) (hf : Tryz.prog.funcs[f]? = some fn) (hb : fn.body.isSome = true) (hnn : (fn.name == "runtime.NumGoroutine") = false) (hw : ∀ x, FnP Tryz.prog f (.agg (rOrd x) :: cps) (.bool (p x))) : FnG Tryz.prog 103 1 [.is v, .clos f cps] [rowH 46 2 rOrd l v] (PV.one) (fun v => [rowH 46 2 rOrd (l.filter fun x => !p x) v]) := by
  refine FnG.mk Tryz.func103 rfl Tryz.ntmps103 rfl (by kernel_rfl) ?_
  intro B F0 a w F hB hG hS
  replace hS := hS.turn 1 rfl (r' := .ob (.val v) (rowH 46 2 rOrd l)) (fun _ _ _ _ h => h)
  refine wp_seq ?_
  refine region_q hS
    (cF rfl (oN (.c rfl)) trivial trivial
    Chain.nil)
    hB ?_
  clear hS; intro a w F hS
  obtain ⟨F, hS⟩ := hS.nm [4, 1, 0] [1, 0] rfl rfl
  try dsimp only [rOrd] at hS
  refine then_n (wp_seq ?_)
  refine region_q hS
    (cF rfl (oM .t) r1 trivial
    (cF rfl (oM .t) r1 trivial
    (cF rfl (OpC.lendRow 1 [8] (oP (idxFR_c l p f fn cps hf hb hnn hw) Tryz.func45 (Args.two .t .t)) ⟨rfl, trivial, trivial⟩ (.pv (fun _ _ _ _ h => h)) trivial (by rfl)) r2 r1
    (cF rfl (oN .t) r1 trivial
    Chain.nil))))
    hB ?_
  clear hS; intro a w F hS
  obtain ⟨F, hS⟩ := hS.nm [5, 4, 1, 0] [1, 0] rfl rfl
  try dsimp only [rOrd] at hS
  refine then_n (wp_seq (wp_seq ?_))
  refine region_q hS
    (cF rfl (oM .t) r1 trivial
    (cF rfl (o_eql .t (.ci (by kernel_rfl))) r1 trivial
    Chain.nil))
    hB ?_
  clear hS; intro a w F hS
  obtain ⟨F, hS⟩ := hS.nm [12, 5, 4, 1, 0] [1, 0] rfl rfl
  try dsimp only [rOrd] at hS
  refine then_n ?_
  refine cond_b hS rfl (fun hc0 => ?_) (fun hc0 => ?_)
  ·skip
   have hno := (foundAt_spec p l).resolve_right (by rintro ⟨i, h1, _⟩; simp at hc0; omega)
   have hg : (l.filter fun x => !p x) = l := filter_all hno.2
   refine wp_seq ?_
   refine region_q hS
     (cF rfl (oM .t) r1 trivial
     (cF rfl (oN .t) r1 trivial
     Chain.nil))
     hB ?_
   clear hS; intro a w F hS
   obtain ⟨F, hS⟩ := hS.nm [5, 4, 1, 0] [1, 0] rfl rfl
   try dsimp only [rOrd] at hS
   refine then_n (wp_ret (then_r ?_))
   have hS := hS.turn 1 rfl (r' := RS.hp (rowH 46 2 rOrd (l.filter fun x => !p x) v)) (fun _ _ _ _ h => by rw [hg]; exact h)
   refine ret_N1 (h' := fun v => rowH 46 2 rOrd (l.filter fun x => !p x) v) hG hS rfl (.tmp rfl .nil) (.one .one) rfl
  obtain ⟨i0, hi0, hi1, hip, hib⟩ := (foundAt_spec p l).resolve_left (by rintro ⟨h1, _⟩; simp [h1] at hc0)
  have hst0 := filter_pre hi1 hip hib
  refine wp_skip (then_n (wp_seq (wp_seq ?_)))
  refine region_q hS
    (cF rfl (oM .t) r1 trivial
    (cF rfl (o_add .t (.ci (by kernel_rfl))) r1 trivial
    (cF rfl (oN .t) r1 trivial
    Chain.nil)))
    hB ?_
  clear hS; intro a w F hS
  obtain ⟨F, hS⟩ := hS.nm [6, 5, 4, 1, 0] [1, 0] rfl rfl
  try dsimp only [rOrd] at hS
  refine then_n (wp_block ?_)
  have hC0 : i0 < i0 + 1 ∧ i0 + 1 ≤ l.length ∧ l.length = l.length ∧ l.take i0 = (l.take (i0 + 1)).filter (fun x => !p x) ∧ ∀ k, i0 + 1 ≤ k → k < l.length → Go.Gm.nth l k = Go.Gm.nth l k := ⟨by omega, by omega, rfl, hst0, fun k _ _ => rfl⟩
  replace hS := hS.ent (i := 5) (s' := .pv (.int .i64 (i0 : Int))) rfl (.int hi0)
  replace hS := hS.ent (i := 6) (s' := .pv (.int .i64 ((i0 + 1 : Nat) : Int))) rfl (.int (by rw [hi0, wrap_i64 (by omega)]; omega))
  refine loop_keep (σ := Nat × Nat × List OrdD) [0, 1, 4] [0] (fun s => [(5, .pv (.int .i64 (s.1 : Int))), (6, .pv (.int .i64 (s.2.1 : Int)))]) (fun s => [(1, .ob (.val v) (rowH 46 2 rOrd s.2.2))]) (fun s => s.1 < s.2.1 ∧ s.2.1 ≤ l.length ∧ s.2.2.length = l.length ∧ s.2.2.take s.1 = (l.take s.2.1).filter (fun x => !p x) ∧ ∀ k, s.2.1 ≤ k → k < l.length → Go.Gm.nth s.2.2 k = Go.Gm.nth l k) (fun s => l.length - s.2.1) ((i0), (i0 + 1), (l)) hS ⟨rfl, rfl, rfl, rfl, rfl, trivial⟩ ⟨rfl, rfl, trivial⟩ hC0 ?_
  clear hS; intro s a w F hC hS
  obtain ⟨i, j, l1⟩ := s
  try dsimp only at hC
  obtain ⟨F, hS⟩ := hS.nm [6, 5, 4, 1, 0] [1, 0] rfl rfl
  try dsimp only at hS
  obtain ⟨hij, hj, hll1, htk, hrest⟩ := hC
  refine wp_seq (wp_seq ?_)
  refine region_q hS
    (cF rfl (oM .t) r1 trivial
    (cF rfl (oM .t) r1 trivial
    (cF rfl (o_len_row 1 Tryz.underlying23 .is) r1 r1
    (cF rfl (o_lss .t .t) r2 trivial
    Chain.nil))))
    hB ?_
  clear hS; intro a w F hS
  obtain ⟨F, hS⟩ := hS.nm [19, 18, 17, 16, 6, 5, 4, 1, 0] [1, 0] rfl rfl
  try dsimp only [rOrd] at hS
  refine then_n ?_
  refine cond_b hS rfl (fun hc1 => ?_) (fun hc1 => ?_)
  ·skip
   have hjl : j < l.length := by simp at hc1; omega
   have hnj : Go.Gm.nth l1 j = (Go.Gm.nth l j) := hrest j (Nat.le_refl _) hjl
   have hfs := filter_step (p := fun x => !p x) hjl
   refine wp_skip (then_n (wp_seq (wp_block (wp_seq ?_))))
   refine region_q hS
     (cF rfl (oM .t) r1 trivial
     (cF rfl (oM .t) r1 trivial
     (cF rfl (o_indexAddr_row (sz := 2) 1 (.mk Tryz.underlying23 (by kernel_rfl)) .is .t (by omega) (by omega) (by rfl)) r2 r1
     (cF rfl (o_load_row0 (ag := true) (sz' := 2) (sz := 2) 1 .t (by intro x; rfl) (by omega) (by kernel_rfl) (by kernel_rfl) (by kernel_rfl)) r1 r1
     (cF rfl (oH [.int .i64 0, .slice none 0 0] 101) trivial trivial
     (cF rfl (oA 2 101 .same .t) r2 r1
     Chain.nil))))))
     hB ?_
   clear hS; intro a w F hS
   replace hS := hS.sub
   obtain ⟨F, hS⟩ := hS.nm [25, 24, 23, 22, 19, 18, 17, 16, 7, 6, 5, 4, 1, 0] [101, 1, 0] rfl rfl
   try dsimp only [RS.sub, SF.sub, CF.sub, csub, Anc.sub, List.map, stCells, xL, xM, Nat.reduceAdd, xD, xE, xT, xU, xC, xN, zCF, ldSF, rOrd] at hS
   generalize Act.tau a 7 = v7 at hS
   try simp only [Int.toNat_natCast] at hS
   rw [hnj] at hS
   refine then_n (wp_seq ?_)
   refine region_q hS
     (cF rfl (oM .t) r1 trivial
     (cF rfl (oL true 2 101 .is) r1 r1
     (cF rfl (o_callClosP (avs := [.agg (rOrd (Go.Gm.nth l j))]) .t (hw (Go.Gm.nth l j)) hf hb hnn (Args.one (.pagg .t))) r2 trivial
     (cF rfl (o_not .t) r1 trivial
     Chain.nil))))
     hB ?_
   clear hS; intro a w F hS
   obtain ⟨F, hS⟩ := hS.nm [29, 28, 27, 26, 25, 24, 23, 22, 19, 18, 17, 16, 7, 6, 5, 4, 1, 0] [101, 1, 0] rfl rfl
   try dsimp only [List.map, xD, xE, xT, xU, ldSF, rOrd] at hS
   refine then_n ?_
   refine cond_b hS rfl (fun hc2 => ?_) (fun hc2 => ?_)
   ·skip
    have hp : p (Go.Gm.nth l j) = false := by simpa using hc2
    obtain ⟨i2, hi2e⟩ : ∃ i2, i2 = i + 1 := ⟨_, rfl⟩
    have hi2 : IntKind.wrap .i64 ((i : Int) + 1) = (i2 : Int) := by rw [hi2e]; exact wrap_succ (by omega)
    obtain ⟨l2, hl2⟩ : ∃ l2, l2 = l1.set i (Go.Gm.nth l j) := ⟨_, rfl⟩
    have hC2 : i2 < j + 1 ∧ j + 1 ≤ l.length ∧ l2.length = l.length ∧ l2.take i2 = (l.take (j + 1)).filter (fun x => !p x) ∧ ∀ k, j + 1 ≤ k → k < l.length → Go.Gm.nth l2 k = Go.Gm.nth l k := ⟨by omega, by omega, by rw [hl2, List.length_set]; exact hll1, by rw [hl2, hi2e, hfs, hp, ← htk, take_nth (by rw [List.length_set]; omega), List.take_set_of_le (Nat.le_refl _), nth_eq (by rw [List.length_set]; omega), List.getElem_set_self]; rfl, fun k hk hk2 => by rw [hl2, nth_eq (by rw [List.length_set]; omega), List.getElem_set_ne (by omega), ← nth_eq (by omega)]; exact hrest k (by omega) hk2⟩
    refine wp_seq ?_
    refine region_q hS
      (cF rfl (oM .t) r1 trivial
      (cF rfl (oM .t) r1 trivial
      (cF rfl (oL true 2 101 .is) r1 r1
      (cF rfl (o_indexAddr_row (sz := 2) 1 (.mk Tryz.underlying23 (by kernel_rfl)) .is .t (by omega) (by omega) (by rfl)) r2 r1
      (cF rfl (o_store_row (sz := 2) 1 .t (by intro x; rfl) (by omega) (.conv .t (Ent.aggU (l := rOrd (Go.Gm.nth l j)) rfl rfl)) (by kernel_rfl)) r2 r1
      Chain.nil)))))
      hB ?_
    clear hS; intro a w F hS
    obtain ⟨F, hS⟩ := hS.nm [33, 32, 31, 30, 29, 28, 27, 26, 25, 24, 23, 22, 19, 18, 17, 16, 7, 6, 5, 4, 1, 0] [101, 1, 0] rfl rfl
    try dsimp only [List.map, stCells, xL, xM, Nat.reduceAdd, xD, xE, xT, xU, xC, xN, zCF, ldSF, rOrd] at hS
    try simp only [Int.toNat_natCast] at hS
    rw [← hl2] at hS
    refine then_n ?_
    refine region_q hS
      (cF rfl (oM .t) r1 trivial
      (cF rfl (o_add .t (.ci (by kernel_rfl))) r1 trivial
      (cF rfl (oN .t) r1 trivial
      Chain.nil)))
      hB ?_
    clear hS; intro a w F hS
    obtain ⟨F, hS⟩ := hS.nm [35, 34, 33, 32, 31, 30, 29, 28, 27, 26, 25, 24, 23, 22, 19, 18, 17, 16, 7, 6, 5, 4, 1, 0] [101, 1, 0] rfl rfl
    try dsimp only [rOrd] at hS
    refine block_n (then_n ?_)
    refine region_q hS
      (cF rfl (oM .t) r1 trivial
      (cF rfl (o_add .t (.ci (by kernel_rfl))) r1 trivial
      (cF rfl (oN .t) r1 trivial
      Chain.nil)))
      hB ?_
    clear hS; intro a w F hS
    obtain ⟨F, hS⟩ := hS.nm [35, 34, 33, 32, 31, 30, 29, 28, 27, 26, 25, 24, 23, 22, 21, 20, 19, 18, 17, 16, 7, 6, 5, 4, 1, 0] [101, 1, 0] rfl rfl
    try dsimp only [rOrd] at hS
    refine then_n ?_
    have hmu : l.length - (j + 1) < l.length - j := by omega
    replace hS := hS.ent (i := 5) (s' := .pv (.int .i64 (i2 : Int))) rfl (.int hi2)
    replace hS := hS.ent (i := 6) (s' := .pv (.int .i64 ((j + 1 : Nat) : Int))) rfl (.int (wrap_succ (by omega)))
    obtain ⟨F, hS⟩ := hS.nm [4, 1, 0, 6, 5] [0, 1] rfl rfl
    exact ⟨((i2), (j + 1), (l2)), F, hC2, hS, hmu⟩
   have hp : p (Go.Gm.nth l j) = true := by simpa using hc2
   obtain ⟨i2, hi2e⟩ : ∃ i2, i2 = i := ⟨_, rfl⟩
   have hi2 : (i : Int) = (i2 : Int) := by rw [hi2e]
   obtain ⟨l2, hl2⟩ : ∃ l2, l2 = l1 := ⟨_, rfl⟩
   rw [← hl2] at hS
   have hC2 : i2 < j + 1 ∧ j + 1 ≤ l.length ∧ l2.length = l.length ∧ l2.take i2 = (l.take (j + 1)).filter (fun x => !p x) ∧ ∀ k, j + 1 ≤ k → k < l.length → Go.Gm.nth l2 k = Go.Gm.nth l k := ⟨by omega, by omega, by rw [hl2]; exact hll1, by rw [hl2, hi2e, hfs, hp, htk]; simp, fun k hk hk2 => by rw [hl2]; exact hrest k (by omega) hk2⟩
   refine wp_skip (block_n (then_n ?_))
   refine region_q hS
     (cF rfl (oM .t) r1 trivial
     (cF rfl (o_add .t (.ci (by kernel_rfl))) r1 trivial
     (cF rfl (oN .t) r1 trivial
     Chain.nil)))
     hB ?_
   clear hS; intro a w F hS
   obtain ⟨F, hS⟩ := hS.nm [29, 28, 27, 26, 25, 24, 23, 22, 21, 20, 19, 18, 17, 16, 7, 6, 5, 4, 1, 0] [101, 1, 0] rfl rfl
   try dsimp only [rOrd] at hS
   refine then_n ?_
   have hmu : l.length - (j + 1) < l.length - j := by omega
   replace hS := hS.ent (i := 5) (s' := .pv (.int .i64 (i2 : Int))) rfl (.int hi2)
   replace hS := hS.ent (i := 6) (s' := .pv (.int .i64 ((j + 1 : Nat) : Int))) rfl (.int (wrap_succ (by omega)))
   obtain ⟨F, hS⟩ := hS.nm [4, 1, 0, 6, 5] [0, 1] rfl rfl
   exact ⟨((i2), (j + 1), (l2)), F, hC2, hS, hmu⟩
  have hjl : j = l.length := by simp at hc1; omega
  have hil2 : i < l.length := by omega
  have hg : (l.filter fun x => !p x) = (l1.take i ++ List.replicate (l1.length - i) (⟨0, []⟩ : OrdD)).take i := by rw [List.take_append_of_le_length (by rw [List.length_take]; omega), List.take_take, Nat.min_self, htk, hjl, List.take_length]
  refine wp_exit (then_x (then_x (block_x (then_n (wp_seq ?_)))))
  refine region_q hS
    (cF rfl (oM .t) r1 trivial
    (cF rfl (oM .t) r1 trivial
    (cF rfl (o_sub_row (sz := 2) 1 (.mk Tryz.underlying23 (by kernel_rfl)) .is .t (by omega) (by omega)) r2 r1
    (cF rfl (o_clear_row (R := rOrd) (z := (⟨0, []⟩ : OrdD)) (zs := [.int .i64 0, .slice none 0 0]) 1 Tryz.underlying23 (by kernel_rfl) rfl rfl (fun _ _ => ⟨⟨rfl, rfl, inR0⟩, ⟨rfl, sl_nil⟩, trivial⟩) (by intro x; rfl) .t (by simp; omega)) r1 r1
    Chain.nil))))
    hB ?_
  clear hS; intro a w F hS
  obtain ⟨F, hS⟩ := hS.nm [5, 4, 0] [1, 0] rfl rfl
  try dsimp only [rOrd] at hS
  refine then_n (wp_seq ?_)
  refine region_q hS
    (cF rfl (oM .t) r1 trivial
    (cF rfl (oM .t) r1 trivial
    (cF rfl (o_cut_row (sz := 2) 1 (.mk Tryz.underlying23 (by kernel_rfl)) (by intro x; rfl) .is .t (by omega) (by simp; omega)) r2 r1
    (cF rfl (oN .t) r1 trivial
    Chain.nil))))
    hB ?_
  clear hS; intro a w F hS
  replace hS := hS.sub
  obtain ⟨F, hS⟩ := hS.nm [4] [1, 0] rfl rfl
  try dsimp only [RS.sub, SF.sub, CF.sub, csub, Anc.sub, List.map, rOrd] at hS
  generalize Act.tau a 41 = v41 at hS
  refine then_n (wp_ret ?_)
  have hS := hS.turn 1 rfl (r' := RS.hp (rowH 46 2 rOrd (l.filter fun x => !p x) v41)) (fun _ _ _ _ h => by rw [hg]; exact h)
  refine ret_N1 (h' := fun v => rowH 46 2 rOrd (l.filter fun x => !p x) v) hG hS rfl (.tmp rfl .nil) (.one .one) rfl

end Go.Proofs.YtpjjmolibanakaaGreat
namespace Go.Proofs.YtpjjmolibanakaaGreat
open Go Go.Gm
set_option linter.unusedVariables false
set_option linter.unusedSimpArgs false
set_option maxHeartbeats 4000000
set_option maxRecDepth 8000


theorem cells_made {α : Type} {R : α → List PV} {zs : List Value} {sz : Nat} {v : α} (hz : zs.length = sz) (h0 : 0 < sz) (hp : ∀ w yy, PVs (R v) zs w yy) (n : Nat) : ∀ u ∈ (madeCells zs.toArray (n * sz)).toList, u.oneCell' = true :=
  (made_pvs (R := R) (v := v) hz h0 (hp (default : World) (fun _ => False)) n).one
theorem ins_end {α : Type} {l : List α} {i : Nat} {x : α} (h : i = l.length) : l.take i ++ [x] ++ l.drop i = l ++ [x] := by rw [h]; simp
theorem ins_grow {α : Type} {l l2 l3 : List α} {i : Nat} {x z : α} (hi : i < l.length) (h2 : l2 = l.take i ++ List.replicate (l.length + 1 - i) z) (h3 : l3 = l2.take i ++ [x] ++ l2.drop (i + [x].length)) :
    l.take i ++ [x] ++ l.drop i = l3.take (i + 1) ++ l.drop i ++ l3.drop (i + 1 + (l.drop i).length) := by
  have e1 : l2.take i = l.take i := by
    rw [h2, List.take_append_of_le_length (by rw [List.length_take]; omega), List.take_take, Nat.min_self]
  have e0 : l2.length = l.length + 1 := by rw [h2, List.length_append, List.length_take, List.length_replicate]; omega
  have e2 : l3.take (i + 1) = l.take i ++ [x] := by
    rw [h3, e1, List.take_append_of_le_length (by rw [List.length_append, List.length_take]; simp; omega), List.take_of_length_le (by rw [List.length_append, List.length_take]; simp; omega)]
  have e3 : l3.length = l.length + 1 := by
    rw [h3, e1, List.length_append, List.length_append, List.length_take, List.length_drop, e0]; simp; omega
  have e4 : l3.drop (i + 1 + (l.drop i).length) = [] := List.drop_eq_nil_of_le (by rw [e3, List.length_drop]; omega)
  rw [e2, e4, List.append_nil]
theorem ins_place {α : Type} {l l4 : List α} {i : Nat} {x : α} (hi : i < l.length) (h4 : l4 = l.take (i + 1) ++ l.drop i) : l.take i ++ [x] ++ l.drop i = l4.take i ++ [x] ++ l4.drop (i + [x].length) := by
  have e1 : l4.take i = l.take i := by
    rw [h4, List.take_append_of_le_length (by rw [List.length_take]; omega), List.take_take, Nat.min_eq_left (by omega)]
  have e2 : l4.drop (i + [x].length) = l.drop i := by
    rw [h4, show i + [x].length = i + 1 from rfl, List.drop_append_of_le_length (by rw [List.length_take]; omega), List.drop_eq_nil_of_le (by rw [List.length_take]; omega), List.nil_append]
  rw [e1, e2]

theorem insT_c (v : Value) (l : List TxD) (i : Nat) (x : TxD) (hll : l.length ≤ 1000000) (hi : i ≤ l.length) : FnG Tryz.prog 67 1 [.is v, .int .i64 i, .sl rTx [x]] [rowH 32 3 rTx l v] (PV.one) (fun v => [rowH 32 3 rTx (l.take i ++ [x] ++ l.drop i) v]) := by
  refine FnG.mk Tryz.func67 rfl Tryz.ntmps67 rfl (by kernel_rfl) ?_
  intro B F0 a w F hB hG hS
  replace hS := hS.turn 1 rfl (r' := .ob (.val v) (rowH 32 3 rTx l)) (fun _ _ _ _ h => h)
  refine wp_seq ?_
  refine region_q hS
    (cF rfl (oN (.c rfl)) trivial trivial
    Chain.nil)
    hB ?_
  clear hS; intro a w F hS
  obtain ⟨F, hS⟩ := hS.nm [6, 2, 1, 0] [1, 0] rfl rfl
  try dsimp only [rTx] at hS
  refine then_n (wp_seq ?_)
  refine region_q hS
    (cF rfl (oM .t) r1 trivial
    (cF rfl (oM .t) r1 trivial
    (cF rfl (o_sub_any (sz := 3) 1 (.mk Tryz.underlying22 (by kernel_rfl)) .is .t (by omega) (by omega)) r2 r1
    Chain.nil)))
    hB ?_
  clear hS; intro a w F hS
  obtain ⟨F, hS⟩ := hS.nm [6, 2, 1, 0] [1, 0] rfl rfl
  try dsimp only [rTx] at hS
  refine then_n (wp_seq ?_)
  refine region_q hS
    (cF rfl (oM .t) r1 trivial
    (cF rfl (o_len_sl Tryz.underlying22 .t) r1 trivial
    (cF rfl (oN .t) r1 trivial
    Chain.nil)))
    hB ?_
  clear hS; intro a w F hS
  obtain ⟨F, hS⟩ := hS.nm [7, 6, 2, 1, 0] [1, 0] rfl rfl
  try dsimp only [rTx] at hS
  replace hS := hS.ent (i := 7) (s' := .pv (.int .i64 1)) rfl (.int rfl)
  obtain ⟨F, hS⟩ := hS.nm [7, 6, 2, 1, 0] [1, 0] rfl rfl
  refine then_n (wp_seq (wp_seq ?_))
  refine region_q hS
    (cF rfl (oM .t) r1 trivial
    (cF rfl (o_eql .t (.ci (by kernel_rfl))) r1 trivial
    Chain.nil))
    hB ?_
  clear hS; intro a w F hS
  obtain ⟨F, hS⟩ := hS.nm [16, 7, 6, 2, 1, 0] [1, 0] rfl rfl
  try dsimp only [rTx] at hS
  refine then_n ?_
  refine cond_b hS rfl (fun hc0 => ?_) (fun hc0 => ?_)
  ·skip
   simp at hc0
  refine wp_skip (then_n (wp_seq ?_))
  refine region_q hS
    (cF rfl (oM .t) r1 trivial
    (cF rfl (o_len_row 1 Tryz.underlying22 .is) r1 r1
    (cF rfl (oN .t) r1 trivial
    Chain.nil)))
    hB ?_
  clear hS; intro a w F hS
  obtain ⟨F, hS⟩ := hS.nm [8, 7, 6, 2, 1, 0] [1, 0] rfl rfl
  try dsimp only [rTx] at hS
  refine then_n (wp_seq (wp_seq ?_))
  refine region_q hS
    (cF rfl (oM .t) r1 trivial
    (cF rfl (oM .t) r1 trivial
    (cF rfl (o_eql .t .t) r2 trivial
    Chain.nil)))
    hB ?_
  clear hS; intro a w F hS
  obtain ⟨F, hS⟩ := hS.nm [22, 8, 7, 6, 2, 1, 0] [1, 0] rfl rfl
  try dsimp only [rTx] at hS
  refine then_n ?_
  refine cond_b hS rfl (fun hc1 => ?_) (fun hc1 => ?_)
  ·skip
   have hg := ins_end (x := x) (by have h9 := hc1; simp at h9; omega : i = l.length)
   refine wp_seq ?_
   refine region_q hS
     (cF rfl (oM .t) r1 trivial
     (cF rfl (oM .t) r1 trivial
     (cF rfl (o_append (sz := 3) (bs := 40) 1 (.mk' Tryz.underlying22 (by kernel_rfl) (by kernel_rfl)) (by intro x; rfl) .is (.sl .t) (by simp only [List.length_cons, List.length_nil]; omega) (by decide)) ⟨rfl, rfl, trivial⟩ ⟨rfl, trivial⟩
     (cF rfl (oN .t) r1 trivial
     Chain.nil))))
     hB ?_
   clear hS; intro a w F hS
   replace hS := hS.sub
   obtain ⟨F, hS⟩ := hS.nm [8, 7, 6, 2, 1, 0] [1, 0] rfl rfl
   try dsimp only [RS.sub, SF.sub, CF.sub, csub, Anc.sub, List.map, xC, xN, rTx] at hS
   generalize Act.tau a 25 = v25 at hS
   refine then_n (wp_ret (then_r ?_))
   have hS := hS.turn 1 rfl (r' := RS.hp (rowH 32 3 rTx (l.take i ++ [x] ++ l.drop i) v25)) (fun _ _ _ _ h => by rw [hg]; exact h)
   refine ret_N1 (h' := fun v => rowH 32 3 rTx (l.take i ++ [x] ++ l.drop i) v) hG hS rfl (.tmp rfl .nil) (.one .one) rfl
  have hil : i < l.length := by simp at hc1; omega
  have hw1 : IntKind.wrap .i64 ((i : Int) + 1) = ((i + 1 : Nat) : Int) := wrap_succ (by omega)
  have hwn : IntKind.wrap .i64 ((l.length : Int) + 1) = ((l.length + 1 : Nat) : Int) := wrap_succ (by omega)
  refine wp_skip (then_n (wp_seq (wp_seq ?_)))
  refine region_q hS
    (cF rfl (oM .t) r1 trivial
    (cF rfl (oM .t) r1 trivial
    (cF rfl (o_add .t .t) r2 trivial
    (cF rfl (oM .t) r1 trivial
    (cF rfl (o_cap_row 1 Tryz.underlying22 .is) r1 r1
    (cF rfl (o_gtr .t .t) r2 trivial
    Chain.nil))))))
    hB ?_
  clear hS; intro a w F hS
  obtain ⟨F, hS⟩ := hS.nm [31, 8, 7, 6, 2, 1, 0] [1, 0] rfl rfl
  try dsimp only [rTx] at hS
  refine then_n ?_
  refine cond_b hS rfl (fun hc2 => ?_) (fun hc2 => ?_)
  ·skip
   have hcap : capV v < l.length + 1 := by rw [hwn] at hc2; simp at hc2; omega
   have hw : IntKind.wrap .i64 (IntKind.wrap .i64 ((l.length : Int) + 1) - (i : Int)) = ((l.length + 1 - i : Nat) : Int) := by rw [hwn, wrap_i64 (by omega)]; omega
   refine wp_seq ?_
   refine region_q hS
     (cF rfl (oM .t) r1 trivial
     (cF rfl (oM .t) r1 trivial
     (cF rfl (o_head_row (sz := 3) 1 (.mk Tryz.underlying22 (by kernel_rfl)) .is .t (by omega) (by omega)) r2 r1
     (cF rfl (oM .t) r1 trivial
     (cF rfl (oM .t) r1 trivial
     (cF rfl (o_add .t .t) r2 trivial
     (cF rfl (oM .t) r1 trivial
     (cF rfl (o_sub .t .t) r2 trivial
     (cF rfl (o_append_zeros (R := rTx) (z := (⟨0, false, []⟩ : TxD)) (bs := 40) (sz := 3) (zs := [.int .i64 0, .bool false, .slice none 0 0]) 1 101 Tryz.underlying22 Tryz.underlying3 (by kernel_rfl) (by kernel_rfl) (by kernel_rfl) (by intro x; rfl) (fun _ _ => ⟨⟨rfl, rfl, inR0⟩, ⟨rfl, rfl⟩, ⟨rfl, sl_nil⟩, trivial⟩) .t .t (by omega) (by rw [hw]; omega) (by rw [hw]; omega) (by rw [hw]; omega) (by rw [hw]; omega)) ⟨rfl, rfl, trivial⟩ ⟨rfl, trivial⟩
     (cF rfl (oN .t) r1 trivial
     Chain.nil))))))))))
     hB ?_
   clear hS; intro a w F hS
   replace hS := hS.sub
   obtain ⟨F, hS⟩ := hS.nm [9, 8, 7, 6, 2, 1, 0] [101, 1, 0] rfl rfl
   try dsimp only [RS.sub, SF.sub, CF.sub, csub, Anc.sub, List.map, xC, xN, rTx] at hS
   generalize Act.tau a 40 = v40 at hS
   rw [hw] at hS
   simp only [Int.toNat_natCast] at hS
   obtain ⟨l2, hl2⟩ : ∃ y, y = l.take i ++ List.replicate (l.length + 1 - i) (⟨0, false, []⟩ : TxD) := ⟨_, rfl⟩
   rw [← hl2] at hS
   have hl2n : l2.length = l.length + 1 := by rw [hl2, List.length_append, List.length_take, List.length_replicate]; omega
   obtain ⟨F, hS⟩ := hS.give 1 0 rfl rfl
   obtain ⟨F, hS⟩ := hS.nm [9, 8, 7, 6, 2, 1, 0] [101, 0] rfl rfl
   refine then_n (wp_seq ?_)
   refine region_q hS
     (cF rfl (oM .t) r1 trivial
     (cF rfl (oM .t) r1 trivial
     (cF rfl (o_sub_row (sz := 3) 101 (.mk Tryz.underlying22 (by kernel_rfl)) .is .t (by omega) (by omega)) r2 r1
     (cF rfl (oM .t) r1 trivial
     (cF rfl (o_copy_sub 101 Tryz.underlying22 (by kernel_rfl) (by intro x; rfl) .t .t (by simp) (by simp; omega)) r2 r1
     Chain.nil)))))
     hB ?_
   clear hS; intro a w F hS
   obtain ⟨F, hS⟩ := hS.nm [9, 8, 7, 6, 2, 1, 0] [101, 0] rfl rfl
   try dsimp only [rTx] at hS
   simp only [Int.toNat_natCast] at hS
   obtain ⟨l3, hl3⟩ : ∃ y, y = l2.take i ++ [x] ++ l2.drop (i + [x].length) := ⟨_, rfl⟩
   rw [← hl3] at hS
   have hl3n : l3.length = l.length + 1 := by rw [hl3, List.length_append, List.length_append, List.length_take, List.length_drop, hl2n]; simp; omega
   refine then_n (wp_seq ?_)
   refine region_any (by kernel_rfl) hS (by kernel_rfl)
     (cF rfl (oM .t) r1 trivial
     (cF rfl (oM .t) r1 trivial
     (cF rfl (oM .t) r1 trivial
     (cF rfl (o_add .t .t) r2 trivial
     (cF rfl (o_sub_row (sz := 3) 101 (.mk Tryz.underlying22 (by kernel_rfl)) .is .t (by rw [hw1]; omega) (by rw [hw1]; omega)) r2 r1
     (cF rfl (oM .t) r1 trivial
     (cF rfl (oM .t) r1 trivial
     (cF rfl (o_slice_lo (sz := 3) (.mk Tryz.underlying22 (by kernel_rfl)) (by intro x; rfl) .t .t (by omega) (by omega)) r2 trivial
     (cF rfl (o_copy_sub 101 Tryz.underlying22 (by kernel_rfl) (by intro x; rfl) .t .t (by intro h9; have := congrArg List.length h9; simp at this; omega) (by rw [hw1, List.length_drop]; omega)) r2 r1
     Chain.nil)))))))))
     (by kernel_rfl) (by rw [hB]; kernel_rfl) ?_
   clear hS; intro a w F hS
   obtain ⟨F, hS⟩ := hS.nm [9, 8, 7, 6, 2, 1, 0] [101, 0] rfl rfl
   try dsimp only [rTx] at hS
   rw [hw1] at hS
   simp only [Int.toNat_natCast] at hS
   have hg := ins_grow (x := x) hil hl2 hl3
   refine then_n (wp_seq ?_)
   refine region_q hS
     (cF rfl (oM .t) r1 trivial
     (cF rfl (oN .t) r1 trivial
     Chain.nil))
     hB ?_
   clear hS; intro a w F hS
   obtain ⟨F, hS⟩ := hS.nm [8, 7, 6, 2, 1, 0] [101, 0] rfl rfl
   try dsimp only [rTx] at hS
   refine then_n (wp_ret (then_r ?_))
   obtain ⟨F, hS⟩ := hS.rename 101 1 rfl rfl
   have hS := hS.turn 1 rfl (r' := RS.hp (rowH 32 3 rTx (l.take i ++ [x] ++ l.drop i) v40)) (fun _ _ _ _ h => by rw [hg]; exact h)
   refine ret_N1 (h' := fun v => rowH 32 3 rTx (l.take i ++ [x] ++ l.drop i) v) hG hS rfl (.tmp rfl .nil) (.one .one) rfl
  have hcap : l.length + 1 ≤ capV v := by rw [hwn] at hc2; simp at hc2; omega
  refine wp_skip (then_n (wp_seq ?_))
  refine region_q hS
    (cF rfl (oM .t) r1 trivial
    (cF rfl (oM .t) r1 trivial
    (cF rfl (oM .t) r1 trivial
    (cF rfl (o_add .t .t) r2 trivial
    (cF rfl (o_grow_row (sz := 3) 1 (.mk Tryz.underlying22 (by kernel_rfl)) .is .t (by rw [hwn]; omega) (by omega)) r2 r1
    (cF rfl (oN .t) r1 trivial
    Chain.nil))))))
    hB ?_
  clear hS; intro a w F hS
  replace hS := hS.sub
  obtain ⟨F, hS⟩ := hS.nm [8, 7, 6, 2, 1, 0] [1, 0] rfl rfl
  try dsimp only [RS.sub, SF.sub, CF.sub, csub, Anc.sub, List.map, rTx] at hS
  generalize Act.tau a 60 = v60 at hS
  refine then_n (wp_seq (wp_seq ?_))
  refine region_q hS
    (cF rfl (oM .t) r1 trivial
    (cF rfl (oM .t) r1 trivial
    (cF rfl (oM .t) r1 trivial
    (cF rfl (oM .t) r1 trivial
    (cF rfl (o_add .t .t) r2 trivial
    (cF rfl (o_sub_rowU (sz := 3) 1 (.mk Tryz.underlying22 (by kernel_rfl)) .is .t (by rw [hw1]; omega) (by rw [hw1]; omega)) r2 r1
    (cF rfl (o_overlaps 1 Tryz.func96 (by kernel_rfl) (by kernel_rfl) (by kernel_rfl) rfl Tryz.underlying22 (by kernel_rfl) (by intro x; rfl) .t .t (by rw [hw1]; omega)) r2 r1
    (cF rfl (o_not .t) r1 trivial
    Chain.nil))))))))
    hB ?_
  clear hS; intro a w F hS
  obtain ⟨F, hS⟩ := hS.nm [68, 8, 7, 6, 2, 1, 0] [1, 0] rfl rfl
  try dsimp only [rTx] at hS
  refine then_n ?_
  refine cond_b hS rfl (fun hc3 => ?_) (fun hc3 => ?_)
  ·skip
   refine wp_seq ?_
   refine region_any (by kernel_rfl) hS (by kernel_rfl)
     (cF rfl (oM .t) r1 trivial
     (cF rfl (oM .t) r1 trivial
     (cF rfl (oM .t) r1 trivial
     (cF rfl (o_add .t .t) r2 trivial
     (cF rfl (o_sub_rowU (sz := 3) 1 (.mk Tryz.underlying22 (by kernel_rfl)) .is .t (by rw [hw1]; omega) (by rw [hw1]; omega)) r2 r1
     (cF rfl (oM .t) r1 trivial
     (cF rfl (oM .t) r1 trivial
     (cF rfl (o_sub_rowU (sz := 3) 1 (.mk Tryz.underlying22 (by kernel_rfl)) .is .t (by omega) (by omega)) r2 r1
     (cF rfl (o_copy_shift (k := i) 1 Tryz.underlying22 (by kernel_rfl) (by intro x; rfl) .t .t (by rw [hw1]; rfl) rfl (by omega)) r2 r1
     Chain.nil)))))))))
     (by kernel_rfl) (by rw [hB]; kernel_rfl) ?_
   clear hS; intro a w F hS
   obtain ⟨F, hS⟩ := hS.nm [8, 7, 6, 2, 1, 0] [1, 0] rfl rfl
   try dsimp only [rTx] at hS
   obtain ⟨l4, hl4⟩ : ∃ y, y = l.take (i + 1) ++ l.drop i := ⟨_, rfl⟩
   rw [← hl4] at hS
   have hl4n : l4.length = l.length + 1 := by rw [hl4, List.length_append, List.length_take, List.length_drop]; omega
   refine then_n (wp_seq ?_)
   refine region_q hS
     (cF rfl (oM .t) r1 trivial
     (cF rfl (oM .t) r1 trivial
     (cF rfl (o_sub_row (sz := 3) 1 (.mk Tryz.underlying22 (by kernel_rfl)) .is .t (by omega) (by omega)) r2 r1
     (cF rfl (oM .t) r1 trivial
     (cF rfl (o_copy_sub 1 Tryz.underlying22 (by kernel_rfl) (by intro x; rfl) .t .t (by simp) (by simp; omega)) r2 r1
     Chain.nil)))))
     hB ?_
   clear hS; intro a w F hS
   obtain ⟨F, hS⟩ := hS.nm [8, 7, 6, 2, 1, 0] [1, 0] rfl rfl
   try dsimp only [rTx] at hS
   simp only [Int.toNat_natCast] at hS
   have hg := ins_place (x := x) hil hl4
   refine then_n (wp_seq ?_)
   refine region_q hS
     (cF rfl (oM .t) r1 trivial
     (cF rfl (oN .t) r1 trivial
     Chain.nil))
     hB ?_
   clear hS; intro a w F hS
   obtain ⟨F, hS⟩ := hS.nm [8, 7, 6, 2, 1, 0] [1, 0] rfl rfl
   try dsimp only [rTx] at hS
   refine then_n (wp_ret (then_r ?_))
   have hS := hS.turn 1 rfl (r' := RS.hp (rowH 32 3 rTx (l.take i ++ [x] ++ l.drop i) v60)) (fun _ _ _ _ h => by rw [hg]; exact h)
   refine ret_N1 (h' := fun v => rowH 32 3 rTx (l.take i ++ [x] ++ l.drop i) v) hG hS rfl (.tmp rfl .nil) (.one .one) rfl
  simp at hc3

theorem insR_c (v : Value) (l : List OrdD) (i : Nat) (x : OrdD) (hll : l.length ≤ 1000000) (hi : i ≤ l.length) : FnG Tryz.prog 100 1 [.is v, .int .i64 i, .sl rOrd [x]] [rowH 46 2 rOrd l v] (PV.one) (fun v => [rowH 46 2 rOrd (l.take i ++ [x] ++ l.drop i) v]) := by
  refine FnG.mk Tryz.func100 rfl Tryz.ntmps100 rfl (by kernel_rfl) ?_
  intro B F0 a w F hB hG hS
  replace hS := hS.turn 1 rfl (r' := .ob (.val v) (rowH 46 2 rOrd l)) (fun _ _ _ _ h => h)
  refine wp_seq ?_
  refine region_q hS
    (cF rfl (oN (.c rfl)) trivial trivial
    Chain.nil)
    hB ?_
  clear hS; intro a w F hS
  obtain ⟨F, hS⟩ := hS.nm [6, 2, 1, 0] [1, 0] rfl rfl
  try dsimp only [rOrd] at hS
  refine then_n (wp_seq ?_)
  refine region_q hS
    (cF rfl (oM .t) r1 trivial
    (cF rfl (oM .t) r1 trivial
    (cF rfl (o_sub_any (sz := 2) 1 (.mk Tryz.underlying23 (by kernel_rfl)) .is .t (by omega) (by omega)) r2 r1
    Chain.nil)))
    hB ?_
  clear hS; intro a w F hS
  obtain ⟨F, hS⟩ := hS.nm [6, 2, 1, 0] [1, 0] rfl rfl
  try dsimp only [rOrd] at hS
  refine then_n (wp_seq ?_)
  refine region_q hS
    (cF rfl (oM .t) r1 trivial
    (cF rfl (o_len_sl Tryz.underlying23 .t) r1 trivial
    (cF rfl (oN .t) r1 trivial
    Chain.nil)))
    hB ?_
  clear hS; intro a w F hS
  obtain ⟨F, hS⟩ := hS.nm [7, 6, 2, 1, 0] [1, 0] rfl rfl
  try dsimp only [rOrd] at hS
  replace hS := hS.ent (i := 7) (s' := .pv (.int .i64 1)) rfl (.int rfl)
  obtain ⟨F, hS⟩ := hS.nm [7, 6, 2, 1, 0] [1, 0] rfl rfl
  refine then_n (wp_seq (wp_seq ?_))
  refine region_q hS
    (cF rfl (oM .t) r1 trivial
    (cF rfl (o_eql .t (.ci (by kernel_rfl))) r1 trivial
    Chain.nil))
    hB ?_
  clear hS; intro a w F hS
  obtain ⟨F, hS⟩ := hS.nm [16, 7, 6, 2, 1, 0] [1, 0] rfl rfl
  try dsimp only [rOrd] at hS
  refine then_n ?_
  refine cond_b hS rfl (fun hc0 => ?_) (fun hc0 => ?_)
  ·skip
   simp at hc0
  refine wp_skip (then_n (wp_seq ?_))
  refine region_q hS
    (cF rfl (oM .t) r1 trivial
    (cF rfl (o_len_row 1 Tryz.underlying23 .is) r1 r1
    (cF rfl (oN .t) r1 trivial
    Chain.nil)))
    hB ?_
  clear hS; intro a w F hS
  obtain ⟨F, hS⟩ := hS.nm [8, 7, 6, 2, 1, 0] [1, 0] rfl rfl
  try dsimp only [rOrd] at hS
  refine then_n (wp_seq (wp_seq ?_))
  refine region_q hS
    (cF rfl (oM .t) r1 trivial
    (cF rfl (oM .t) r1 trivial
    (cF rfl (o_eql .t .t) r2 trivial
    Chain.nil)))
    hB ?_
  clear hS; intro a w F hS
  obtain ⟨F, hS⟩ := hS.nm [22, 8, 7, 6, 2, 1, 0] [1, 0] rfl rfl
  try dsimp only [rOrd] at hS
  refine then_n ?_
  refine cond_b hS rfl (fun hc1 => ?_) (fun hc1 => ?_)
  ·skip
   have hg := ins_end (x := x) (by have h9 := hc1; simp at h9; omega : i = l.length)
   refine wp_seq ?_
   refine region_q hS
     (cF rfl (oM .t) r1 trivial
     (cF rfl (oM .t) r1 trivial
     (cF rfl (o_append (sz := 2) (bs := 32) 1 (.mk' Tryz.underlying23 (by kernel_rfl) (by kernel_rfl)) (by intro x; rfl) .is (.sl .t) (by simp only [List.length_cons, List.length_nil]; omega) (by decide)) ⟨rfl, rfl, trivial⟩ ⟨rfl, trivial⟩
     (cF rfl (oN .t) r1 trivial
     Chain.nil))))
     hB ?_
   clear hS; intro a w F hS
   replace hS := hS.sub
   obtain ⟨F, hS⟩ := hS.nm [8, 7, 6, 2, 1, 0] [1, 0] rfl rfl
   try dsimp only [RS.sub, SF.sub, CF.sub, csub, Anc.sub, List.map, xC, xN, rOrd] at hS
   generalize Act.tau a 25 = v25 at hS
   refine then_n (wp_ret (then_r ?_))
   have hS := hS.turn 1 rfl (r' := RS.hp (rowH 46 2 rOrd (l.take i ++ [x] ++ l.drop i) v25)) (fun _ _ _ _ h => by rw [hg]; exact h)
   refine ret_N1 (h' := fun v => rowH 46 2 rOrd (l.take i ++ [x] ++ l.drop i) v) hG hS rfl (.tmp rfl .nil) (.one .one) rfl
  have hil : i < l.length := by simp at hc1; omega
  have hw1 : IntKind.wrap .i64 ((i : Int) + 1) = ((i + 1 : Nat) : Int) := wrap_succ (by omega)
  have hwn : IntKind.wrap .i64 ((l.length : Int) + 1) = ((l.length + 1 : Nat) : Int) := wrap_succ (by omega)
  refine wp_skip (then_n (wp_seq (wp_seq ?_)))
  refine region_q hS
    (cF rfl (oM .t) r1 trivial
    (cF rfl (oM .t) r1 trivial
    (cF rfl (o_add .t .t) r2 trivial
    (cF rfl (oM .t) r1 trivial
    (cF rfl (o_cap_row 1 Tryz.underlying23 .is) r1 r1
    (cF rfl (o_gtr .t .t) r2 trivial
    Chain.nil))))))
    hB ?_
  clear hS; intro a w F hS
  obtain ⟨F, hS⟩ := hS.nm [31, 8, 7, 6, 2, 1, 0] [1, 0] rfl rfl
  try dsimp only [rOrd] at hS
  refine then_n ?_
  refine cond_b hS rfl (fun hc2 => ?_) (fun hc2 => ?_)
  ·skip
   have hcap : capV v < l.length + 1 := by rw [hwn] at hc2; simp at hc2; omega
   have hw : IntKind.wrap .i64 (IntKind.wrap .i64 ((l.length : Int) + 1) - (i : Int)) = ((l.length + 1 - i : Nat) : Int) := by rw [hwn, wrap_i64 (by omega)]; omega
   refine wp_seq ?_
   refine region_q hS
     (cF rfl (oM .t) r1 trivial
     (cF rfl (oM .t) r1 trivial
     (cF rfl (o_head_row (sz := 2) 1 (.mk Tryz.underlying23 (by kernel_rfl)) .is .t (by omega) (by omega)) r2 r1
     (cF rfl (oM .t) r1 trivial
     (cF rfl (oM .t) r1 trivial
     (cF rfl (o_add .t .t) r2 trivial
     (cF rfl (oM .t) r1 trivial
     (cF rfl (o_sub .t .t) r2 trivial
     (cF rfl (o_append_zeros (R := rOrd) (z := (⟨0, []⟩ : OrdD)) (bs := 32) (sz := 2) (zs := [.int .i64 0, .slice none 0 0]) 1 101 Tryz.underlying23 Tryz.underlying3 (by kernel_rfl) (by kernel_rfl) (by kernel_rfl) (by intro x; rfl) (fun _ _ => ⟨⟨rfl, rfl, inR0⟩, ⟨rfl, sl_nil⟩, trivial⟩) .t .t (by omega) (by rw [hw]; omega) (by rw [hw]; omega) (by rw [hw]; omega) (by rw [hw]; omega)) ⟨rfl, rfl, trivial⟩ ⟨rfl, trivial⟩
     (cF rfl (oN .t) r1 trivial
     Chain.nil))))))))))
     hB ?_
   clear hS; intro a w F hS
   replace hS := hS.sub
   obtain ⟨F, hS⟩ := hS.nm [9, 8, 7, 6, 2, 1, 0] [101, 1, 0] rfl rfl
   try dsimp only [RS.sub, SF.sub, CF.sub, csub, Anc.sub, List.map, xC, xN, rOrd] at hS
   generalize Act.tau a 40 = v40 at hS
   rw [hw] at hS
   simp only [Int.toNat_natCast] at hS
   obtain ⟨l2, hl2⟩ : ∃ y, y = l.take i ++ List.replicate (l.length + 1 - i) (⟨0, []⟩ : OrdD) := ⟨_, rfl⟩
   rw [← hl2] at hS
   have hl2n : l2.length = l.length + 1 := by rw [hl2, List.length_append, List.length_take, List.length_replicate]; omega
   obtain ⟨F, hS⟩ := hS.give 1 0 rfl rfl
   obtain ⟨F, hS⟩ := hS.nm [9, 8, 7, 6, 2, 1, 0] [101, 0] rfl rfl
   refine then_n (wp_seq ?_)
   refine region_q hS
     (cF rfl (oM .t) r1 trivial
     (cF rfl (oM .t) r1 trivial
     (cF rfl (o_sub_row (sz := 2) 101 (.mk Tryz.underlying23 (by kernel_rfl)) .is .t (by omega) (by omega)) r2 r1
     (cF rfl (oM .t) r1 trivial
     (cF rfl (o_copy_sub 101 Tryz.underlying23 (by kernel_rfl) (by intro x; rfl) .t .t (by simp) (by simp; omega)) r2 r1
     Chain.nil)))))
     hB ?_
   clear hS; intro a w F hS
   obtain ⟨F, hS⟩ := hS.nm [9, 8, 7, 6, 2, 1, 0] [101, 0] rfl rfl
   try dsimp only [rOrd] at hS
   simp only [Int.toNat_natCast] at hS
   obtain ⟨l3, hl3⟩ : ∃ y, y = l2.take i ++ [x] ++ l2.drop (i + [x].length) := ⟨_, rfl⟩
   rw [← hl3] at hS
   have hl3n : l3.length = l.length + 1 := by rw [hl3, List.length_append, List.length_append, List.length_take, List.length_drop, hl2n]; simp; omega
   refine then_n (wp_seq ?_)
   refine region_any (by kernel_rfl) hS (by kernel_rfl)
     (cF rfl (oM .t) r1 trivial
     (cF rfl (oM .t) r1 trivial
     (cF rfl (oM .t) r1 trivial
     (cF rfl (o_add .t .t) r2 trivial
     (cF rfl (o_sub_row (sz := 2) 101 (.mk Tryz.underlying23 (by kernel_rfl)) .is .t (by rw [hw1]; omega) (by rw [hw1]; omega)) r2 r1
     (cF rfl (oM .t) r1 trivial
     (cF rfl (oM .t) r1 trivial
     (cF rfl (o_slice_lo (sz := 2) (.mk Tryz.underlying23 (by kernel_rfl)) (by intro x; rfl) .t .t (by omega) (by omega)) r2 trivial
     (cF rfl (o_copy_sub 101 Tryz.underlying23 (by kernel_rfl) (by intro x; rfl) .t .t (by intro h9; have := congrArg List.length h9; simp at this; omega) (by rw [hw1, List.length_drop]; omega)) r2 r1
     Chain.nil)))))))))
     (by kernel_rfl) (by rw [hB]; kernel_rfl) ?_
   clear hS; intro a w F hS
   obtain ⟨F, hS⟩ := hS.nm [9, 8, 7, 6, 2, 1, 0] [101, 0] rfl rfl
   try dsimp only [rOrd] at hS
   rw [hw1] at hS
   simp only [Int.toNat_natCast] at hS
   have hg := ins_grow (x := x) hil hl2 hl3
   refine then_n (wp_seq ?_)
   refine region_q hS
     (cF rfl (oM .t) r1 trivial
     (cF rfl (oN .t) r1 trivial
     Chain.nil))
     hB ?_
   clear hS; intro a w F hS
   obtain ⟨F, hS⟩ := hS.nm [8, 7, 6, 2, 1, 0] [101, 0] rfl rfl
   try dsimp only [rOrd] at hS
   refine then_n (wp_ret (then_r ?_))
   obtain ⟨F, hS⟩ := hS.rename 101 1 rfl rfl
   have hS := hS.turn 1 rfl (r' := RS.hp (rowH 46 2 rOrd (l.take i ++ [x] ++ l.drop i) v40)) (fun _ _ _ _ h => by rw [hg]; exact h)
   refine ret_N1 (h' := fun v => rowH 46 2 rOrd (l.take i ++ [x] ++ l.drop i) v) hG hS rfl (.tmp rfl .nil) (.one .one) rfl
  have hcap : l.length + 1 ≤ capV v := by rw [hwn] at hc2; simp at hc2; omega
  refine wp_skip (then_n (wp_seq ?_))
  refine region_q hS
    (cF rfl (oM .t) r1 trivial
    (cF rfl (oM .t) r1 trivial
    (cF rfl (oM .t) r1 trivial
    (cF rfl (o_add .t .t) r2 trivial
    (cF rfl (o_grow_row (sz := 2) 1 (.mk Tryz.underlying23 (by kernel_rfl)) .is .t (by rw [hwn]; omega) (by omega)) r2 r1
    (cF rfl (oN .t) r1 trivial
    Chain.nil))))))
    hB ?_
  clear hS; intro a w F hS
  replace hS := hS.sub
  obtain ⟨F, hS⟩ := hS.nm [8, 7, 6, 2, 1, 0] [1, 0] rfl rfl
  try dsimp only [RS.sub, SF.sub, CF.sub, csub, Anc.sub, List.map, rOrd] at hS
  generalize Act.tau a 60 = v60 at hS
  refine then_n (wp_seq (wp_seq ?_))
  refine region_q hS
    (cF rfl (oM .t) r1 trivial
    (cF rfl (oM .t) r1 trivial
    (cF rfl (oM .t) r1 trivial
    (cF rfl (oM .t) r1 trivial
    (cF rfl (o_add .t .t) r2 trivial
    (cF rfl (o_sub_rowU (sz := 2) 1 (.mk Tryz.underlying23 (by kernel_rfl)) .is .t (by rw [hw1]; omega) (by rw [hw1]; omega)) r2 r1
    (cF rfl (o_overlaps 1 Tryz.func128 (by kernel_rfl) (by kernel_rfl) (by kernel_rfl) rfl Tryz.underlying23 (by kernel_rfl) (by intro x; rfl) .t .t (by rw [hw1]; omega)) r2 r1
    (cF rfl (o_not .t) r1 trivial
    Chain.nil))))))))
    hB ?_
  clear hS; intro a w F hS
  obtain ⟨F, hS⟩ := hS.nm [68, 8, 7, 6, 2, 1, 0] [1, 0] rfl rfl
  try dsimp only [rOrd] at hS
  refine then_n ?_
  refine cond_b hS rfl (fun hc3 => ?_) (fun hc3 => ?_)
  ·skip
   refine wp_seq ?_
   refine region_any (by kernel_rfl) hS (by kernel_rfl)
     (cF rfl (oM .t) r1 trivial
     (cF rfl (oM .t) r1 trivial
     (cF rfl (oM .t) r1 trivial
     (cF rfl (o_add .t .t) r2 trivial
     (cF rfl (o_sub_rowU (sz := 2) 1 (.mk Tryz.underlying23 (by kernel_rfl)) .is .t (by rw [hw1]; omega) (by rw [hw1]; omega)) r2 r1
     (cF rfl (oM .t) r1 trivial
     (cF rfl (oM .t) r1 trivial
     (cF rfl (o_sub_rowU (sz := 2) 1 (.mk Tryz.underlying23 (by kernel_rfl)) .is .t (by omega) (by omega)) r2 r1
     (cF rfl (o_copy_shift (k := i) 1 Tryz.underlying23 (by kernel_rfl) (by intro x; rfl) .t .t (by rw [hw1]; rfl) rfl (by omega)) r2 r1
     Chain.nil)))))))))
     (by kernel_rfl) (by rw [hB]; kernel_rfl) ?_
   clear hS; intro a w F hS
   obtain ⟨F, hS⟩ := hS.nm [8, 7, 6, 2, 1, 0] [1, 0] rfl rfl
   try dsimp only [rOrd] at hS
   obtain ⟨l4, hl4⟩ : ∃ y, y = l.take (i + 1) ++ l.drop i := ⟨_, rfl⟩
   rw [← hl4] at hS
   have hl4n : l4.length = l.length + 1 := by rw [hl4, List.length_append, List.length_take, List.length_drop]; omega
   refine then_n (wp_seq ?_)
   refine region_q hS
     (cF rfl (oM .t) r1 trivial
     (cF rfl (oM .t) r1 trivial
     (cF rfl (o_sub_row (sz := 2) 1 (.mk Tryz.underlying23 (by kernel_rfl)) .is .t (by omega) (by omega)) r2 r1
     (cF rfl (oM .t) r1 trivial
     (cF rfl (o_copy_sub 1 Tryz.underlying23 (by kernel_rfl) (by intro x; rfl) .t .t (by simp) (by simp; omega)) r2 r1
     Chain.nil)))))
     hB ?_
   clear hS; intro a w F hS
   obtain ⟨F, hS⟩ := hS.nm [8, 7, 6, 2, 1, 0] [1, 0] rfl rfl
   try dsimp only [rOrd] at hS
   simp only [Int.toNat_natCast] at hS
   have hg := ins_place (x := x) hil hl4
   refine then_n (wp_seq ?_)
   refine region_q hS
     (cF rfl (oM .t) r1 trivial
     (cF rfl (oN .t) r1 trivial
     Chain.nil))
     hB ?_
   clear hS; intro a w F hS
   obtain ⟨F, hS⟩ := hS.nm [8, 7, 6, 2, 1, 0] [1, 0] rfl rfl
   try dsimp only [rOrd] at hS
   refine then_n (wp_ret (then_r ?_))
   have hS := hS.turn 1 rfl (r' := RS.hp (rowH 46 2 rOrd (l.take i ++ [x] ++ l.drop i) v60)) (fun _ _ _ _ h => by rw [hg]; exact h)
   refine ret_N1 (h' := fun v => rowH 46 2 rOrd (l.take i ++ [x] ++ l.drop i) v) hG hS rfl (.tmp rfl .nil) (.one .one) rfl
  simp at hc3

theorem delT_c (v : Value) (l : List TxD) (i : Nat) (hll : l.length ≤ 1000000) (hi : i < l.length) : FnG Tryz.prog 71 1 [.is v, .int .i64 i, .int .i64 ((i + 1 : Nat) : Int)] [rowH 32 3 rTx l v] (PV.one) (fun v => [rowH 32 3 rTx (l.take i ++ l.drop (i + 1)) v]) := by
  refine FnG.mk Tryz.func71 rfl Tryz.ntmps71 rfl (by kernel_rfl) ?_
  intro B F0 a w F hB hG hS
  replace hS := hS.turn 1 rfl (r' := .ob (.val v) (rowH 32 3 rTx l)) (fun _ _ _ _ h => h)
  have hrc := (hS.rowCap (n := 1) rfl).1
  refine wp_seq ?_
  refine region_q hS
    (cF rfl (oN (.c rfl)) trivial trivial
    Chain.nil)
    hB ?_
  clear hS; intro a w F hS
  obtain ⟨F, hS⟩ := hS.nm [6, 2, 1, 0] [1, 0] rfl rfl
  try dsimp only [rTx] at hS
  refine then_n (wp_seq ?_)
  refine region_q hS
    (cF rfl (oM .t) r1 trivial
    (cF rfl (oM .t) r1 trivial
    (cF rfl (oM .t) r1 trivial
    (cF rfl (oM .t) r1 trivial
    (cF rfl (o_len_row 1 Tryz.underlying22 .is) r1 r1
    (cF rfl (o_slice3 (sz := 3) 1 (.mk Tryz.underlying22 (by kernel_rfl)) .is .t .t .t (by omega) (by omega) (by omega) (by omega)) r4 r1
    Chain.nil))))))
    hB ?_
  clear hS; intro a w F hS
  obtain ⟨F, hS⟩ := hS.nm [6, 2, 1, 0] [1, 0] rfl rfl
  try dsimp only [rTx] at hS
  refine then_n (wp_seq (wp_seq ?_))
  refine region_q hS
    (cF rfl (oM .t) r1 trivial
    (cF rfl (oM .t) r1 trivial
    (cF rfl (o_eql .t .t) r2 trivial
    Chain.nil)))
    hB ?_
  clear hS; intro a w F hS
  obtain ⟨F, hS⟩ := hS.nm [16, 6, 2, 1, 0] [1, 0] rfl rfl
  try dsimp only [rTx] at hS
  refine then_n ?_
  refine cond_b hS rfl (fun hc0 => ?_) (fun hc0 => ?_)
  ·skip
   simp at hc0; omega
  refine wp_skip (then_n (wp_seq ?_))
  refine region_q hS
    (cF rfl (oM .t) r1 trivial
    (cF rfl (o_len_row 1 Tryz.underlying22 .is) r1 r1
    (cF rfl (oN .t) r1 trivial
    Chain.nil)))
    hB ?_
  clear hS; intro a w F hS
  obtain ⟨F, hS⟩ := hS.nm [7, 6, 2, 1, 0] [1, 0] rfl rfl
  try dsimp only [rTx] at hS
  refine then_n (wp_seq ?_)
  refine region_any (by kernel_rfl) hS (by kernel_rfl)
    (cF rfl (oM .t) r1 trivial
    (cF rfl (oM .t) r1 trivial
    (cF rfl (o_head_row (sz := 3) 1 (.mk Tryz.underlying22 (by kernel_rfl)) .is .t (by omega) (by omega)) r2 r1
    (cF rfl (oM .t) r1 trivial
    (cF rfl (oM .t) r1 trivial
    (cF rfl (o_sub_row_le (sz := 3) 1 (.mk Tryz.underlying22 (by kernel_rfl)) .is .t (by omega) (by omega) (by omega)) r2 r1
    (cF rfl (o_append_part 1 Tryz.underlying22 (by kernel_rfl) (by intro x; rfl) .t .t (by omega) (by omega) (by omega)) ⟨rfl, rfl, trivial⟩ ⟨rfl, trivial⟩
    (cF rfl (oN .t) r1 trivial
    Chain.nil))))))))
    (by kernel_rfl) (by rw [hB]; kernel_rfl) ?_
  clear hS; intro a w F hS
  obtain ⟨F, hS⟩ := hS.nm [7, 6, 0] [1, 0] rfl rfl
  try dsimp only [xC, xN, rTx] at hS
  simp only [Int.toNat_natCast] at hS
  obtain ⟨v2, hv2⟩ : ∃ y, y = headV (i + (l.length - (i + 1))) v := ⟨_, rfl⟩
  rw [← hv2] at hS
  have hcv : capV v2 = capV v := by rw [hv2]; exact capV_head _ _
  obtain ⟨l4, hl4⟩ : ∃ y, y = l.take i ++ l.drop (i + 1) := ⟨_, rfl⟩
  rw [← hl4] at hS
  have hl4n : l4.length + 1 = l.length := by rw [hl4, List.length_append, List.length_take, List.length_drop]; omega
  have hg := hl4.symm
  refine then_n (wp_seq ?_)
  refine region_q hS
    (cF rfl (oM .t) r1 trivial
    (cF rfl (oM .t) r1 trivial
    (cF rfl (o_len_row 1 Tryz.underlying22 .is) r1 r1
    (cF rfl (oM .t) r1 trivial
    (cF rfl (o_spare (sz := 3) 1 (.mk Tryz.underlying22 (by kernel_rfl)) .is .t .t (by omega) (by omega) (by rw [hcv]; omega)) r3 r1
    (cF rfl (o_clear_spare (zs := [.int .i64 0, .bool false, .slice none 0 0]) 1 Tryz.underlying22 rfl rfl (cells_made (zs := [.int .i64 0, .bool false, .slice none 0 0]) (R := rTx) (v := (⟨0, false, []⟩ : TxD)) rfl (by decide) (fun _ _ => ⟨⟨rfl, rfl, inR0⟩, ⟨rfl, rfl⟩, ⟨rfl, sl_nil⟩, trivial⟩) _) .t (by omega) (by rw [hcv]; omega)) r1 r1
    Chain.nil))))))
    hB ?_
  clear hS; intro a w F hS
  obtain ⟨F, hS⟩ := hS.nm [6, 0] [1, 0] rfl rfl
  try dsimp only [rTx] at hS
  refine then_n (wp_seq ?_)
  refine region_q hS
    (cF rfl (oM .t) r1 trivial
    (cF rfl (oN .t) r1 trivial
    Chain.nil))
    hB ?_
  clear hS; intro a w F hS
  obtain ⟨F, hS⟩ := hS.nm [6] [1, 0] rfl rfl
  try dsimp only [rTx] at hS
  refine then_n (wp_ret ?_)
  have hS := hS.turn 1 rfl (r' := RS.hp (rowH 32 3 rTx (l.take i ++ l.drop (i + 1)) v2)) (fun _ _ _ _ h => by rw [hg]; exact h)
  refine ret_N1 (h' := fun v => rowH 32 3 rTx (l.take i ++ l.drop (i + 1)) v) hG hS rfl (.tmp rfl .nil) (.one .one) rfl

end Go.Proofs.YtpjjmolibanakaaGreat
namespace Go.Proofs.YtpjjmolibanakaaGreat
open Go Go.Gm
set_option linter.unusedVariables false
set_option linter.unusedSimpArgs false
set_option maxHeartbeats 4000000
set_option maxRecDepth 8000


def cmpZ (x y : Int) : Int := if x < y then -1 else if y < x then 1 else 0
theorem cmpZ_lt {x y : Int} : cmpZ x y < 0 ↔ x < y := by unfold cmpZ; split <;> (try split) <;> omega
theorem cmpZ_eq {x y : Int} : cmpZ x y = 0 ↔ x = y := by unfold cmpZ; split <;> (try split) <;> omega
theorem wrapU {x : Int} (h : 0 ≤ x ∧ x ≤ 18446744073709551615) : IntKind.wrap .u64 x = x := wrap_id ⟨by simp [IntKind.min, IntKind.signed, IntKind.bits]; omega, by simp [IntKind.max, IntKind.signed, IntKind.bits]; omega⟩
theorem mid_shr {i j : Nat} (h : i + j ≤ 2000000) : IntKind.wrap .i64 ((IntKind.wrap .u64 (IntKind.wrap .i64 ((i : Int) + (j : Int)))).fdiv (2 ^ min (1 : Int).toNat (IntKind.bits .u64))) = (((i + j) / 2 : Nat) : Int) := by
  rw [wrap_i64 (x := (i : Int) + (j : Int)) (by omega), wrapU (by omega), show (2 : Int) ^ min (1 : Int).toNat (IntKind.bits .u64) = 2 by decide, Int.fdiv_eq_ediv_of_nonneg _ (by decide), wrap_i64 (by omega)]
  omega
/-- The rising of keys, and the place of one. -/
def Rise {α : Type} [Inhabited α] (κ : α → Int) (l : List α) : Prop := ∀ a b, a < b → b < l.length → κ (Go.Gm.nth l a) < κ (Go.Gm.nth l b)
def lowK {α : Type} (κ : α → Int) (k : Int) (l : List α) : Nat := (l.takeWhile fun x => decide (κ x < k)).length
def isK {α : Type} (κ : α → Int) (k : Int) (l : List α) : Bool := l.any fun x => decide (κ x = k)
theorem lowK_eq {α : Type} [Inhabited α] {κ : α → Int} {k : Int} : ∀ {l : List α} {i : Nat}, i ≤ l.length → (∀ q, q < i → κ (Go.Gm.nth l q) < k) → (∀ q, i ≤ q → q < l.length → k ≤ κ (Go.Gm.nth l q)) → lowK κ k l = i
  | [], i, hi, _, _ => by simp at hi; subst hi; rfl
  | x :: l, 0, _, _, h2 => by
    have := h2 0 (Nat.le_refl _) (by simp)
    rw [nth_eq (by simp)] at this
    unfold lowK
    rw [List.takeWhile_cons_of_neg (by simpa using this)]; rfl
  | x :: l, i + 1, hi, h1, h2 => by
    have hx := h1 0 (by omega)
    rw [nth_eq (by simp)] at hx
    have ih := lowK_eq (κ := κ) (k := k) (l := l) (i := i) (by simpa using hi) (fun q hq => by
      have := h1 (q + 1) (by omega)
      rw [nth_eq (by simp at hi ⊢; omega)] at this
      rw [nth_eq (by simp at hi; omega)]; simpa using this) (fun q hq hq2 => by
      have := h2 (q + 1) (by omega) (by simp; omega)
      rw [nth_eq (by simp; omega)] at this
      rw [nth_eq hq2]; simpa using this)
    unfold lowK at ih ⊢
    rw [List.takeWhile_cons_of_pos (by simpa using hx), List.length_cons, ih]
theorem isK_eq {α : Type} [Inhabited α] {κ : α → Int} {k : Int} {l : List α} {i : Nat} (hi : i ≤ l.length) (hs : Rise κ l) (h1 : ∀ q, q < i → κ (Go.Gm.nth l q) < k) (h2 : ∀ q, i ≤ q → q < l.length → k ≤ κ (Go.Gm.nth l q)) : isK κ k l = true ↔ i < l.length ∧ κ (Go.Gm.nth l i) = k := by
  unfold isK
  rw [List.any_eq_true]
  constructor
  · rintro ⟨x, hx, hk⟩
    obtain ⟨q, hq, e⟩ := List.getElem_of_mem hx
    have hk' : κ (Go.Gm.nth l q) = k := by rw [nth_eq hq, e]; simpa using hk
    have hiq : i ≤ q := Nat.le_of_not_lt fun h => by have := h1 q h; omega
    rcases Nat.lt_or_eq_of_le hiq with h | h
    · have a1 := hs i q h hq
      have a2 := h2 i (Nat.le_refl _) (by omega)
      omega
    · subst h; exact ⟨hq, hk'⟩
  · rintro ⟨h3, h4⟩
    exact ⟨_, nth_mem h3, by simpa using h4⟩
theorem rise_le {α : Type} [Inhabited α] {κ : α → Int} {l : List α} (hs : Rise κ l) {a b : Nat} (h : a ≤ b) (hb : b < l.length) : κ (Go.Gm.nth l a) ≤ κ (Go.Gm.nth l b) := by
  rcases Nat.lt_or_eq_of_le h with h | h
  · exact Int.le_of_lt (hs a b h hb)
  · subst h; exact Int.le_refl _

theorem isNaNZ_c (x : Int) : FnP Tryz.prog 133 [.int .i64 x] (.bool false) := by
  refine FnP.mk Tryz.func133 rfl Tryz.ntmps133 rfl ?_
  intro B a w F hB hfr hS
  refine wp_seq ?_
  refine region_q hS
    (cF rfl (oN .cb) trivial trivial
    Chain.nil)
    hB ?_
  clear hS; intro a w F hS
  obtain ⟨F, hS⟩ := hS.nm [2, 0] [0] rfl rfl
  try dsimp only [rInt] at hS
  refine then_n (wp_seq ?_)
  refine region_q hS
    (cF rfl (oM .t) r1 trivial
    (cF rfl (oM .t) r1 trivial
    (cF rfl (o_neq .t .t) r2 trivial
    (cF rfl (oN .t) r1 trivial
    Chain.nil))))
    hB ?_
  clear hS; intro a w F hS
  obtain ⟨F, hS⟩ := hS.nm [2] [0] rfl rfl
  try dsimp only [rInt] at hS
  refine then_n (wp_ret ?_)
  refine ret_P hfr hS rfl (.tmp rfl .nil) (.one (.bool (by simp)))

theorem cmpZ_c (x y : Int) : FnP Tryz.prog 107 [.int .i64 x, .int .i64 y] (.int .i64 (cmpZ x y)) := by
  refine FnP.mk Tryz.func107 rfl Tryz.ntmps107 rfl ?_
  intro B a w F hB hfr hS
  refine wp_seq ?_
  refine region_q hS
    (cF rfl (oN (.ci (by kernel_rfl))) trivial trivial
    Chain.nil)
    hB ?_
  clear hS; intro a w F hS
  obtain ⟨F, hS⟩ := hS.nm [4, 1, 0] [0] rfl rfl
  try dsimp only [rInt] at hS
  refine then_n (wp_seq ?_)
  refine region_q hS
    (cF rfl (oM .t) r1 trivial
    (cF rfl (oP (isNaNZ_c x) Tryz.func133 (Args.one .t)) r1 trivial
    (cF rfl (oN .t) r1 trivial
    Chain.nil)))
    hB ?_
  clear hS; intro a w F hS
  obtain ⟨F, hS⟩ := hS.nm [5, 4, 1, 0] [0] rfl rfl
  try dsimp only [rInt] at hS
  refine then_n (wp_seq ?_)
  refine region_q hS
    (cF rfl (oM .t) r1 trivial
    (cF rfl (oP (isNaNZ_c y) Tryz.func133 (Args.one .t)) r1 trivial
    (cF rfl (oN .t) r1 trivial
    Chain.nil)))
    hB ?_
  clear hS; intro a w F hS
  obtain ⟨F, hS⟩ := hS.nm [6, 5, 4, 1, 0] [0] rfl rfl
  try dsimp only [rInt] at hS
  refine then_n (wp_seq (wp_seq ?_))
  refine region_q hS
    (cF rfl (oM .t) r1 trivial
    Chain.nil)
    hB ?_
  clear hS; intro a w F hS
  obtain ⟨F, hS⟩ := hS.nm [11, 6, 4, 1, 0] [0] rfl rfl
  try dsimp only [rInt] at hS
  refine then_n ?_
  refine cond_b hS rfl (fun hc0 => ?_) (fun hc0 => ?_)
  ·skip
   simp at hc0
  refine wp_skip (then_n (wp_seq (wp_seq ?_)))
  refine region_q hS
    (cF rfl (oM .t) r1 trivial
    Chain.nil)
    hB ?_
  clear hS; intro a w F hS
  obtain ⟨F, hS⟩ := hS.nm [13, 4, 1, 0] [0] rfl rfl
  try dsimp only [rInt] at hS
  refine then_n ?_
  refine cond_b hS rfl (fun hc1 => ?_) (fun hc1 => ?_)
  ·skip
   simp at hc1
  refine wp_skip (then_n (wp_seq (wp_seq ?_)))
  refine region_q hS
    (cF rfl (oM .t) r1 trivial
    (cF rfl (oM .t) r1 trivial
    (cF rfl (o_lss .t .t) r2 trivial
    Chain.nil)))
    hB ?_
  clear hS; intro a w F hS
  obtain ⟨F, hS⟩ := hS.nm [16, 4, 1, 0] [0] rfl rfl
  try dsimp only [rInt] at hS
  refine then_n ?_
  refine cond_b hS rfl (fun hc2 => ?_) (fun hc2 => ?_)
  ·skip
   have hg : (-1 : Int) = cmpZ x y := by unfold cmpZ; rw [if_pos (by simpa using hc2)]
   refine wp_seq ?_
   refine region_q hS
     (cF rfl (oN (.ci (by kernel_rfl))) trivial trivial
     Chain.nil)
     hB ?_
   clear hS; intro a w F hS
   obtain ⟨F, hS⟩ := hS.nm [4, 1, 0] [0] rfl rfl
   try dsimp only [rInt] at hS
   refine then_n (wp_ret (then_r ?_))
   refine ret_P hfr hS rfl (.tmp rfl .nil) (.one (.int hg))
  have h1 : ¬ x < y := by simpa using hc2
  refine wp_skip (then_n (wp_seq (wp_seq ?_)))
  refine region_q hS
    (cF rfl (oM .t) r1 trivial
    (cF rfl (oM .t) r1 trivial
    (cF rfl (o_gtr .t .t) r2 trivial
    Chain.nil)))
    hB ?_
  clear hS; intro a w F hS
  obtain ⟨F, hS⟩ := hS.nm [19, 4] [0] rfl rfl
  try dsimp only [rInt] at hS
  refine then_n ?_
  refine cond_b hS rfl (fun hc3 => ?_) (fun hc3 => ?_)
  ·skip
   have hg : (1 : Int) = cmpZ x y := by unfold cmpZ; rw [if_neg h1, if_pos (by simpa using hc3)]
   refine wp_seq ?_
   refine region_q hS
     (cF rfl (oN (.ci (by kernel_rfl))) trivial trivial
     Chain.nil)
     hB ?_
   clear hS; intro a w F hS
   obtain ⟨F, hS⟩ := hS.nm [4] [0] rfl rfl
   try dsimp only [rInt] at hS
   refine then_n (wp_ret (then_r ?_))
   refine ret_P hfr hS rfl (.tmp rfl .nil) (.one (.int hg))
  have hg : (0 : Int) = cmpZ x y := by unfold cmpZ; rw [if_neg h1, if_neg (by simpa using hc3)]
  refine wp_skip (then_n (wp_seq ?_))
  refine region_q hS
    (cF rfl (oN (.ci (by kernel_rfl))) trivial trivial
    Chain.nil)
    hB ?_
  clear hS; intro a w F hS
  obtain ⟨F, hS⟩ := hS.nm [4] [0] rfl rfl
  try dsimp only [rInt] at hS
  refine then_n (wp_ret ?_)
  refine ret_P hfr hS rfl (.tmp rfl .nil) (.one (.int hg))

theorem place1_c (x : TxD) (k : Int) : FnP Tryz.prog 106 [.agg (rTx x), .int .i64 k] (.int .i64 (cmpZ x.id k)) := by
  refine FnP.mk Tryz.func106 rfl Tryz.ntmps106 rfl ?_
  intro B a w F hB hfr hS
  refine wp_seq ?_
  refine region_q hS
    (cF rfl (oX 101 (.conv .t .agg)) r1 trivial
    (cF rfl (oN (.ci (by kernel_rfl))) trivial trivial
    Chain.nil))
    hB ?_
  clear hS; intro a w F hS
  replace hS := hS.sub
  obtain ⟨F, hS⟩ := hS.nm [4, 2, 1] [101, 0] rfl rfl
  try dsimp only [RS.sub, SF.sub, CF.sub, csub, Anc.sub, List.map, zCF, rTx] at hS
  generalize Act.tau a 2 = v2 at hS
  refine then_n (wp_seq ?_)
  refine region_q hS
    (cF rfl (oF 0 101 .is) r1 r1
    (cF rfl (oL false 1 101 .adr) r1 r1
    (cF rfl (oM .t) r1 trivial
    (cF rfl (oP (cmpZ_c x.id k) Tryz.func107 (Args.two .t .t)) r2 trivial
    (cF rfl (oN .t) r1 trivial
    Chain.nil)))))
    hB ?_
  clear hS; intro a w F hS
  obtain ⟨F, hS⟩ := hS.nm [4] [0] rfl rfl
  try dsimp only [List.map, xD, xE, xT, xU, ldSF, rTx] at hS
  refine then_n (wp_ret ?_)
  refine ret_P hfr hS rfl (.tmp rfl .nil) (.one (.int rfl))

theorem byKey_c (x : OrdD) (k : Int) : FnP Tryz.prog 99 [.agg (rOrd x), .int .i64 k] (.int .i64 (cmpZ x.key k)) := by
  refine FnP.mk Tryz.func99 rfl Tryz.ntmps99 rfl ?_
  intro B a w F hB hfr hS
  refine wp_seq ?_
  refine region_q hS
    (cF rfl (oX 101 (.conv .t .agg)) r1 trivial
    (cF rfl (oN (.ci (by kernel_rfl))) trivial trivial
    Chain.nil))
    hB ?_
  clear hS; intro a w F hS
  replace hS := hS.sub
  obtain ⟨F, hS⟩ := hS.nm [4, 2, 1] [101, 0] rfl rfl
  try dsimp only [RS.sub, SF.sub, CF.sub, csub, Anc.sub, List.map, zCF, rOrd] at hS
  generalize Act.tau a 2 = v2 at hS
  refine then_n (wp_seq ?_)
  refine region_q hS
    (cF rfl (oF 0 101 .is) r1 r1
    (cF rfl (oL false 1 101 .adr) r1 r1
    (cF rfl (oM .t) r1 trivial
    (cF rfl (oP (cmpZ_c x.key k) Tryz.func107 (Args.two .t .t)) r2 trivial
    (cF rfl (oN .t) r1 trivial
    Chain.nil)))))
    hB ?_
  clear hS; intro a w F hS
  obtain ⟨F, hS⟩ := hS.nm [4] [0] rfl rfl
  try dsimp only [List.map, xD, xE, xT, xU, ldSF, rOrd] at hS
  refine then_n (wp_ret ?_)
  refine ret_P hfr hS rfl (.tmp rfl .nil) (.one (.int rfl))

theorem bsT_c (l : List TxD) (k : Int) (hll : l.length ≤ 1000000) (hs : Rise TxD.id l) (f : FuncId) (fn : Func) (cps : List PV) (hf : Tryz.prog.funcs[f]? = some fn) (hb : fn.body.isSome = true) (hnn : (fn.name == "runtime.NumGoroutine") = false) (hw : ∀ x : TxD, FnP Tryz.prog f (.agg (rTx x) :: .int .i64 k :: cps) (.int .i64 (cmpZ (TxD.id x) k))) : FnP Tryz.prog 105 [.sl rTx l, .int .i64 k, .clos f cps] (.tup [.int .i64 (lowK TxD.id k l), .bool (isK TxD.id k l)]) := by
  refine FnP.mk Tryz.func105 rfl Tryz.ntmps105 rfl ?_
  intro B a w F hB hfr hS
  refine wp_seq ?_
  refine region_q hS
    (cF rfl (oN (.ci (by kernel_rfl))) trivial trivial
    (cF rfl (oN .cb) trivial trivial
    Chain.nil))
    hB ?_
  clear hS; intro a w F hS
  obtain ⟨F, hS⟩ := hS.nm [7, 6, 2, 1, 0] [0] rfl rfl
  try dsimp only [rTx] at hS
  refine then_n (wp_seq ?_)
  refine region_q hS
    (cF rfl (oM .t) r1 trivial
    (cF rfl (o_len_sl Tryz.underlying22 .t) r1 trivial
    (cF rfl (oN .t) r1 trivial
    Chain.nil)))
    hB ?_
  clear hS; intro a w F hS
  obtain ⟨F, hS⟩ := hS.nm [8, 7, 6, 2, 1, 0] [0] rfl rfl
  try dsimp only [rTx] at hS
  refine then_n (wp_seq ?_)
  refine region_q hS
    (cF rfl (oM .t) r1 trivial
    (cF rfl (oN (.ci (by kernel_rfl))) trivial trivial
    (cF rfl (oN .t) r1 trivial
    Chain.nil)))
    hB ?_
  clear hS; intro a w F hS
  obtain ⟨F, hS⟩ := hS.nm [10, 9, 8, 7, 6, 2, 1, 0] [0] rfl rfl
  try dsimp only [rTx] at hS
  refine then_n (wp_seq (wp_block ?_))
  refine loop_keep (σ := Nat × Nat) [0, 1, 2, 6, 7, 8] [0] (fun s => [(9, .pv (.int .i64 (s.1 : Int))), (10, .pv (.int .i64 (s.2 : Int)))]) (fun s => []) (fun s => s.1 ≤ s.2 ∧ s.2 ≤ l.length ∧ (∀ q, q < s.1 → TxD.id (Go.Gm.nth l q) < k) ∧ ∀ q, s.2 ≤ q → q < l.length → k ≤ TxD.id (Go.Gm.nth l q)) (fun s => s.2 - s.1) ((0), (l.length)) hS ⟨rfl, rfl, rfl, rfl, rfl, rfl, rfl, rfl, trivial⟩ ⟨rfl, trivial⟩ ⟨Nat.zero_le _, Nat.le_refl _, fun q hq => absurd hq (Nat.not_lt_zero q), fun q h1 h2 => by omega⟩ ?_
  clear hS; intro s a w F hC hS
  obtain ⟨i, j⟩ := s
  try dsimp only at hC
  obtain ⟨F, hS⟩ := hS.nm [10, 9, 8, 7, 6, 2, 1, 0] [0] rfl rfl
  try dsimp only at hS
  obtain ⟨hij, hjl, hlo, hhi⟩ := hC
  have hgs := isK_eq (i := i) (by omega) hs hlo
  have hgl := lowK_eq (i := i) (by omega) hlo
  refine wp_seq (wp_seq ?_)
  refine region_q hS
    (cF rfl (oM .t) r1 trivial
    (cF rfl (oM .t) r1 trivial
    (cF rfl (o_lss .t .t) r2 trivial
    Chain.nil)))
    hB ?_
  clear hS; intro a w F hS
  obtain ⟨F, hS⟩ := hS.nm [17, 16, 15, 10, 9, 8, 7, 6, 2, 1, 0] [0] rfl rfl
  try dsimp only [rTx] at hS
  refine then_n ?_
  refine cond_b hS rfl (fun hc0 => ?_) (fun hc0 => ?_)
  ·skip
   have hlt : i < j := by simp at hc0; omega
   refine wp_skip (then_n (wp_block (wp_seq ?_)))
   refine region_q hS
     (cF rfl (oM .t) r1 trivial
     (cF rfl (oM .t) r1 trivial
     (cF rfl (o_add .t .t) r2 trivial
     (cF rfl (o_conv Tryz.underlying130 (by kernel_rfl) .t) r1 trivial
     (cF rfl (o_shr .t (.ci (by kernel_rfl)) (by decide)) r1 trivial
     (cF rfl (o_conv Tryz.underlying3 (by kernel_rfl) .t) r1 trivial
     (cF rfl (oN .t) r1 trivial
     Chain.nil)))))))
     hB ?_
   clear hS; intro a w F hS
   obtain ⟨F, hS⟩ := hS.nm [23, 22, 21, 20, 19, 18, 17, 16, 15, 11, 10, 9, 8, 7, 6, 2, 1, 0] [0] rfl rfl
   try dsimp only [rTx] at hS
   obtain ⟨m, hm⟩ : ∃ m : Nat, m = (i + j) / 2 := ⟨_, rfl⟩
   replace hS := hS.ent (i := 11) (s' := .pv (.int .i64 (m : Int))) rfl (.int (by rw [hm]; exact mid_shr (by omega)))
   obtain ⟨F, hS⟩ := hS.nm [23, 22, 21, 20, 19, 18, 17, 16, 15, 11, 10, 9, 8, 7, 6, 2, 1, 0] [0] rfl rfl
   refine then_n (wp_seq ?_)
   refine region_q hS
     (cF rfl (oM .t) r1 trivial
     (cF rfl (oM .t) r1 trivial
     (cF rfl (oM .t) r1 trivial
     (cF rfl (o_indexAddr_sl (sz := 3) (.mk Tryz.underlying22 (by kernel_rfl)) (by intro x; rfl) .t .t (by omega) (by omega)) r2 trivial
     (cF rfl (oR true 3 .t) r1 trivial
     (cF rfl (oM .t) r1 trivial
     (cF rfl (o_callClosP (avs := [.agg (rTx (Go.Gm.nth l m)), .int .i64 k]) .t (hw (Go.Gm.nth l m)) hf hb hnn (Args.two (.pagg .t) .t)) r3 trivial
     (cF rfl (o_lss .t (.ci (by kernel_rfl))) r1 trivial
     Chain.nil))))))))
     hB ?_
   clear hS; intro a w F hS
   obtain ⟨F, hS⟩ := hS.nm [31, 30, 29, 28, 27, 26, 25, 24, 23, 22, 21, 20, 19, 18, 17, 16, 15, 11, 10, 9, 8, 7, 6, 2, 1, 0] [0] rfl rfl
   try dsimp only [List.map, xD, xE, xT, xU, ldSF, rTx] at hS
   try simp only [Int.toNat_natCast] at hS
   refine then_n ?_
   refine cond_b hS rfl (fun hc1 => ?_) (fun hc1 => ?_)
   ·skip
    have hmk : TxD.id (Go.Gm.nth l m) < k := cmpZ_lt.1 (by simpa using hc1)
    obtain ⟨i2, hi2e⟩ : ∃ z, z = m + 1 := ⟨_, rfl⟩
    obtain ⟨j2, hj2e⟩ : ∃ z, z = j := ⟨_, rfl⟩
    have hi2 : IntKind.wrap .i64 ((m : Int) + 1) = (i2 : Int) := by rw [hi2e]; exact wrap_succ (by omega)
    have hj2 : (j : Int) = (j2 : Int) := by rw [hj2e]
    have hmu : j2 - i2 < j - i := by omega
    have hC2 : i2 ≤ j2 ∧ j2 ≤ l.length ∧ (∀ q, q < i2 → TxD.id (Go.Gm.nth l q) < k) ∧ ∀ q, j2 ≤ q → q < l.length → k ≤ TxD.id (Go.Gm.nth l q) := ⟨by omega, by omega, fun q hq => Int.lt_of_le_of_lt (rise_le hs (by omega) (by omega)) hmk, by rw [hj2e]; exact hhi⟩
    refine region_q hS
      (cF rfl (oM .t) r1 trivial
      (cF rfl (o_add .t (.ci (by kernel_rfl))) r1 trivial
      (cF rfl (oN .t) r1 trivial
      Chain.nil)))
      hB ?_
    clear hS; intro a w F hS
    obtain ⟨F, hS⟩ := hS.nm [33, 32, 31, 30, 29, 28, 27, 26, 25, 24, 23, 22, 21, 20, 19, 18, 17, 16, 15, 11, 10, 9, 8, 7, 6, 2, 1, 0] [0] rfl rfl
    try dsimp only [rTx] at hS
    refine block_n (then_n ?_)
    replace hS := hS.ent (i := 9) (s' := .pv (.int .i64 (i2 : Int))) rfl (.int hi2)
    replace hS := hS.ent (i := 10) (s' := .pv (.int .i64 (j2 : Int))) rfl (.int hj2)
    obtain ⟨F, hS⟩ := hS.nm [8, 7, 6, 2, 1, 0, 10, 9] [0] rfl rfl
    exact ⟨((i2), (j2)), F, hC2, hS, hmu⟩
   have hmk : k ≤ TxD.id (Go.Gm.nth l m) := Int.not_lt.1 fun e => (show ¬ cmpZ (TxD.id (Go.Gm.nth l m)) k < 0 by simpa using hc1) (cmpZ_lt.2 e)
   obtain ⟨i2, hi2e⟩ : ∃ z, z = i := ⟨_, rfl⟩
   obtain ⟨j2, hj2e⟩ : ∃ z, z = m := ⟨_, rfl⟩
   have hi2 : (i : Int) = (i2 : Int) := by rw [hi2e]
   have hj2 : (m : Int) = (j2 : Int) := by rw [hj2e]
   have hmu : j2 - i2 < j - i := by omega
   have hC2 : i2 ≤ j2 ∧ j2 ≤ l.length ∧ (∀ q, q < i2 → TxD.id (Go.Gm.nth l q) < k) ∧ ∀ q, j2 ≤ q → q < l.length → k ≤ TxD.id (Go.Gm.nth l q) := ⟨by omega, by omega, by rw [hi2e]; exact hlo, fun q h1 h2 => Int.le_trans hmk (rise_le hs (by omega) h2)⟩
   refine region_q hS
     (cF rfl (oM .t) r1 trivial
     (cF rfl (oN .t) r1 trivial
     Chain.nil))
     hB ?_
   clear hS; intro a w F hS
   obtain ⟨F, hS⟩ := hS.nm [34, 31, 30, 29, 28, 27, 26, 25, 24, 23, 22, 21, 20, 19, 18, 17, 16, 15, 11, 10, 9, 8, 7, 6, 2, 1, 0] [0] rfl rfl
   try dsimp only [rTx] at hS
   refine block_n (then_n ?_)
   replace hS := hS.ent (i := 9) (s' := .pv (.int .i64 (i2 : Int))) rfl (.int hi2)
   replace hS := hS.ent (i := 10) (s' := .pv (.int .i64 (j2 : Int))) rfl (.int hj2)
   obtain ⟨F, hS⟩ := hS.nm [8, 7, 6, 2, 1, 0, 10, 9] [0] rfl rfl
   exact ⟨((i2), (j2)), F, hC2, hS, hmu⟩
  have hjj : i = j := by simp at hc0; omega
  subst hjj
  have hgl2 := hgl hhi
  have hgs2 := hgs hhi
  have hb2 : (decide ((i : Int) < (l.length : Int)) && decide (cmpZ (TxD.id (Go.Gm.nth l i)) k = 0)) = isK TxD.id k l := by
    rw [Bool.eq_iff_iff, hgs2]
    simp [cmpZ_eq]
  refine wp_exit (then_x (then_x (block_x (then_n (wp_seq ?_)))))
  refine region_q hS
    (cF rfl (oM .t) r1 trivial
    (cF rfl (oM .t) r1 trivial
    (cF rfl (oM .t) r1 trivial
    (cF rfl (o_lss .t .t) r2 trivial
    (cF rfl (oM .t) r1 trivial
    (Chain.cons (Cert.cond rfl rfl (fun h => o_move .t (by rfl))) r2 trivial
    (Chain.cons (Cert.cond rfl rfl (fun h => o_move .t (by rfl))) r2 trivial
    (Chain.cons (Cert.cond rfl rfl (fun h => o_move .t (by rfl))) r2 trivial
    (Chain.cons (Cert.cond rfl rfl (fun h => o_indexAddr_sl (sz := 3) (.mk Tryz.underlying22 (by kernel_rfl)) (by intro x; rfl) (.w h) (.w h) (by omega) (by have := of_decide_eq_true h; omega))) r3 trivial
    (Chain.cons (Cert.cond rfl rfl (fun h => o_load_ref (ag := true) (sz := 3) (.w h) (by kernel_rfl) (by kernel_rfl) (by kernel_rfl))) r2 trivial
    (Chain.cons (Cert.cond rfl rfl (fun h => o_move .t (by rfl))) r2 trivial
    (Chain.cons (Cert.cond rfl rfl (fun h => o_callClosP (avs := [.agg (rTx (Go.Gm.nth l i)), .int .i64 k]) (.w h) (hw (Go.Gm.nth l i)) hf hb hnn (Args.two (.pagg (.w h)) (.w h)))) r4 trivial
    (Chain.cons (Cert.cond rfl rfl (fun h => o_eql (.w h) (.ci (by kernel_rfl)))) r2 trivial
    (cF rfl (o_and2 .t .t) r2 trivial
    (cF rfl (oN .t) r1 trivial
    (cF rfl (oN .t) r1 trivial
    Chain.nil))))))))))))))))
    hB ?_
  clear hS; intro a w F hS
  obtain ⟨F, hS⟩ := hS.nm [7, 6] [0] rfl rfl
  try dsimp only [List.map, xD, xE, xT, xU, ldSF, rTx] at hS
  try simp only [Int.toNat_natCast] at hS
  refine then_n (wp_ret ?_)
  refine ret_P hfr hS rfl (.tmp rfl (.tmp rfl .nil)) (.two (.int (by rw [hgl2])) (.bool hb2))

theorem bsR_c (l : List OrdD) (k : Int) (hll : l.length ≤ 1000000) (hs : Rise OrdD.key l) (f : FuncId) (fn : Func) (cps : List PV) (hf : Tryz.prog.funcs[f]? = some fn) (hb : fn.body.isSome = true) (hnn : (fn.name == "runtime.NumGoroutine") = false) (hw : ∀ x : OrdD, FnP Tryz.prog f (.agg (rOrd x) :: .int .i64 k :: cps) (.int .i64 (cmpZ (OrdD.key x) k))) : FnP Tryz.prog 98 [.sl rOrd l, .int .i64 k, .clos f cps] (.tup [.int .i64 (lowK OrdD.key k l), .bool (isK OrdD.key k l)]) := by
  refine FnP.mk Tryz.func98 rfl Tryz.ntmps98 rfl ?_
  intro B a w F hB hfr hS
  refine wp_seq ?_
  refine region_q hS
    (cF rfl (oN (.ci (by kernel_rfl))) trivial trivial
    (cF rfl (oN .cb) trivial trivial
    Chain.nil))
    hB ?_
  clear hS; intro a w F hS
  obtain ⟨F, hS⟩ := hS.nm [7, 6, 2, 1, 0] [0] rfl rfl
  try dsimp only [rOrd] at hS
  refine then_n (wp_seq ?_)
  refine region_q hS
    (cF rfl (oM .t) r1 trivial
    (cF rfl (o_len_sl Tryz.underlying23 .t) r1 trivial
    (cF rfl (oN .t) r1 trivial
    Chain.nil)))
    hB ?_
  clear hS; intro a w F hS
  obtain ⟨F, hS⟩ := hS.nm [8, 7, 6, 2, 1, 0] [0] rfl rfl
  try dsimp only [rOrd] at hS
  refine then_n (wp_seq ?_)
  refine region_q hS
    (cF rfl (oM .t) r1 trivial
    (cF rfl (oN (.ci (by kernel_rfl))) trivial trivial
    (cF rfl (oN .t) r1 trivial
    Chain.nil)))
    hB ?_
  clear hS; intro a w F hS
  obtain ⟨F, hS⟩ := hS.nm [10, 9, 8, 7, 6, 2, 1, 0] [0] rfl rfl
  try dsimp only [rOrd] at hS
  refine then_n (wp_seq (wp_block ?_))
  refine loop_keep (σ := Nat × Nat) [0, 1, 2, 6, 7, 8] [0] (fun s => [(9, .pv (.int .i64 (s.1 : Int))), (10, .pv (.int .i64 (s.2 : Int)))]) (fun s => []) (fun s => s.1 ≤ s.2 ∧ s.2 ≤ l.length ∧ (∀ q, q < s.1 → OrdD.key (Go.Gm.nth l q) < k) ∧ ∀ q, s.2 ≤ q → q < l.length → k ≤ OrdD.key (Go.Gm.nth l q)) (fun s => s.2 - s.1) ((0), (l.length)) hS ⟨rfl, rfl, rfl, rfl, rfl, rfl, rfl, rfl, trivial⟩ ⟨rfl, trivial⟩ ⟨Nat.zero_le _, Nat.le_refl _, fun q hq => absurd hq (Nat.not_lt_zero q), fun q h1 h2 => by omega⟩ ?_
  clear hS; intro s a w F hC hS
  obtain ⟨i, j⟩ := s
  try dsimp only at hC
  obtain ⟨F, hS⟩ := hS.nm [10, 9, 8, 7, 6, 2, 1, 0] [0] rfl rfl
  try dsimp only at hS
  obtain ⟨hij, hjl, hlo, hhi⟩ := hC
  have hgs := isK_eq (i := i) (by omega) hs hlo
  have hgl := lowK_eq (i := i) (by omega) hlo
  refine wp_seq (wp_seq ?_)
  refine region_q hS
    (cF rfl (oM .t) r1 trivial
    (cF rfl (oM .t) r1 trivial
    (cF rfl (o_lss .t .t) r2 trivial
    Chain.nil)))
    hB ?_
  clear hS; intro a w F hS
  obtain ⟨F, hS⟩ := hS.nm [17, 16, 15, 10, 9, 8, 7, 6, 2, 1, 0] [0] rfl rfl
  try dsimp only [rOrd] at hS
  refine then_n ?_
  refine cond_b hS rfl (fun hc0 => ?_) (fun hc0 => ?_)
  ·skip
   have hlt : i < j := by simp at hc0; omega
   refine wp_skip (then_n (wp_block (wp_seq ?_)))
   refine region_q hS
     (cF rfl (oM .t) r1 trivial
     (cF rfl (oM .t) r1 trivial
     (cF rfl (o_add .t .t) r2 trivial
     (cF rfl (o_conv Tryz.underlying130 (by kernel_rfl) .t) r1 trivial
     (cF rfl (o_shr .t (.ci (by kernel_rfl)) (by decide)) r1 trivial
     (cF rfl (o_conv Tryz.underlying3 (by kernel_rfl) .t) r1 trivial
     (cF rfl (oN .t) r1 trivial
     Chain.nil)))))))
     hB ?_
   clear hS; intro a w F hS
   obtain ⟨F, hS⟩ := hS.nm [23, 22, 21, 20, 19, 18, 17, 16, 15, 11, 10, 9, 8, 7, 6, 2, 1, 0] [0] rfl rfl
   try dsimp only [rOrd] at hS
   obtain ⟨m, hm⟩ : ∃ m : Nat, m = (i + j) / 2 := ⟨_, rfl⟩
   replace hS := hS.ent (i := 11) (s' := .pv (.int .i64 (m : Int))) rfl (.int (by rw [hm]; exact mid_shr (by omega)))
   obtain ⟨F, hS⟩ := hS.nm [23, 22, 21, 20, 19, 18, 17, 16, 15, 11, 10, 9, 8, 7, 6, 2, 1, 0] [0] rfl rfl
   refine then_n (wp_seq ?_)
   refine region_q hS
     (cF rfl (oM .t) r1 trivial
     (cF rfl (oM .t) r1 trivial
     (cF rfl (oM .t) r1 trivial
     (cF rfl (o_indexAddr_sl (sz := 2) (.mk Tryz.underlying23 (by kernel_rfl)) (by intro x; rfl) .t .t (by omega) (by omega)) r2 trivial
     (cF rfl (oR true 2 .t) r1 trivial
     (cF rfl (oM .t) r1 trivial
     (cF rfl (o_callClosP (avs := [.agg (rOrd (Go.Gm.nth l m)), .int .i64 k]) .t (hw (Go.Gm.nth l m)) hf hb hnn (Args.two (.pagg .t) .t)) r3 trivial
     (cF rfl (o_lss .t (.ci (by kernel_rfl))) r1 trivial
     Chain.nil))))))))
     hB ?_
   clear hS; intro a w F hS
   obtain ⟨F, hS⟩ := hS.nm [31, 30, 29, 28, 27, 26, 25, 24, 23, 22, 21, 20, 19, 18, 17, 16, 15, 11, 10, 9, 8, 7, 6, 2, 1, 0] [0] rfl rfl
   try dsimp only [List.map, xD, xE, xT, xU, ldSF, rOrd] at hS
   try simp only [Int.toNat_natCast] at hS
   refine then_n ?_
   refine cond_b hS rfl (fun hc1 => ?_) (fun hc1 => ?_)
   ·skip
    have hmk : OrdD.key (Go.Gm.nth l m) < k := cmpZ_lt.1 (by simpa using hc1)
    obtain ⟨i2, hi2e⟩ : ∃ z, z = m + 1 := ⟨_, rfl⟩
    obtain ⟨j2, hj2e⟩ : ∃ z, z = j := ⟨_, rfl⟩
    have hi2 : IntKind.wrap .i64 ((m : Int) + 1) = (i2 : Int) := by rw [hi2e]; exact wrap_succ (by omega)
    have hj2 : (j : Int) = (j2 : Int) := by rw [hj2e]
    have hmu : j2 - i2 < j - i := by omega
    have hC2 : i2 ≤ j2 ∧ j2 ≤ l.length ∧ (∀ q, q < i2 → OrdD.key (Go.Gm.nth l q) < k) ∧ ∀ q, j2 ≤ q → q < l.length → k ≤ OrdD.key (Go.Gm.nth l q) := ⟨by omega, by omega, fun q hq => Int.lt_of_le_of_lt (rise_le hs (by omega) (by omega)) hmk, by rw [hj2e]; exact hhi⟩
    refine region_q hS
      (cF rfl (oM .t) r1 trivial
      (cF rfl (o_add .t (.ci (by kernel_rfl))) r1 trivial
      (cF rfl (oN .t) r1 trivial
      Chain.nil)))
      hB ?_
    clear hS; intro a w F hS
    obtain ⟨F, hS⟩ := hS.nm [33, 32, 31, 30, 29, 28, 27, 26, 25, 24, 23, 22, 21, 20, 19, 18, 17, 16, 15, 11, 10, 9, 8, 7, 6, 2, 1, 0] [0] rfl rfl
    try dsimp only [rOrd] at hS
    refine block_n (then_n ?_)
    replace hS := hS.ent (i := 9) (s' := .pv (.int .i64 (i2 : Int))) rfl (.int hi2)
    replace hS := hS.ent (i := 10) (s' := .pv (.int .i64 (j2 : Int))) rfl (.int hj2)
    obtain ⟨F, hS⟩ := hS.nm [8, 7, 6, 2, 1, 0, 10, 9] [0] rfl rfl
    exact ⟨((i2), (j2)), F, hC2, hS, hmu⟩
   have hmk : k ≤ OrdD.key (Go.Gm.nth l m) := Int.not_lt.1 fun e => (show ¬ cmpZ (OrdD.key (Go.Gm.nth l m)) k < 0 by simpa using hc1) (cmpZ_lt.2 e)
   obtain ⟨i2, hi2e⟩ : ∃ z, z = i := ⟨_, rfl⟩
   obtain ⟨j2, hj2e⟩ : ∃ z, z = m := ⟨_, rfl⟩
   have hi2 : (i : Int) = (i2 : Int) := by rw [hi2e]
   have hj2 : (m : Int) = (j2 : Int) := by rw [hj2e]
   have hmu : j2 - i2 < j - i := by omega
   have hC2 : i2 ≤ j2 ∧ j2 ≤ l.length ∧ (∀ q, q < i2 → OrdD.key (Go.Gm.nth l q) < k) ∧ ∀ q, j2 ≤ q → q < l.length → k ≤ OrdD.key (Go.Gm.nth l q) := ⟨by omega, by omega, by rw [hi2e]; exact hlo, fun q h1 h2 => Int.le_trans hmk (rise_le hs (by omega) h2)⟩
   refine region_q hS
     (cF rfl (oM .t) r1 trivial
     (cF rfl (oN .t) r1 trivial
     Chain.nil))
     hB ?_
   clear hS; intro a w F hS
   obtain ⟨F, hS⟩ := hS.nm [34, 31, 30, 29, 28, 27, 26, 25, 24, 23, 22, 21, 20, 19, 18, 17, 16, 15, 11, 10, 9, 8, 7, 6, 2, 1, 0] [0] rfl rfl
   try dsimp only [rOrd] at hS
   refine block_n (then_n ?_)
   replace hS := hS.ent (i := 9) (s' := .pv (.int .i64 (i2 : Int))) rfl (.int hi2)
   replace hS := hS.ent (i := 10) (s' := .pv (.int .i64 (j2 : Int))) rfl (.int hj2)
   obtain ⟨F, hS⟩ := hS.nm [8, 7, 6, 2, 1, 0, 10, 9] [0] rfl rfl
   exact ⟨((i2), (j2)), F, hC2, hS, hmu⟩
  have hjj : i = j := by simp at hc0; omega
  subst hjj
  have hgl2 := hgl hhi
  have hgs2 := hgs hhi
  have hb2 : (decide ((i : Int) < (l.length : Int)) && decide (cmpZ (OrdD.key (Go.Gm.nth l i)) k = 0)) = isK OrdD.key k l := by
    rw [Bool.eq_iff_iff, hgs2]
    simp [cmpZ_eq]
  refine wp_exit (then_x (then_x (block_x (then_n (wp_seq ?_)))))
  refine region_q hS
    (cF rfl (oM .t) r1 trivial
    (cF rfl (oM .t) r1 trivial
    (cF rfl (oM .t) r1 trivial
    (cF rfl (o_lss .t .t) r2 trivial
    (cF rfl (oM .t) r1 trivial
    (Chain.cons (Cert.cond rfl rfl (fun h => o_move .t (by rfl))) r2 trivial
    (Chain.cons (Cert.cond rfl rfl (fun h => o_move .t (by rfl))) r2 trivial
    (Chain.cons (Cert.cond rfl rfl (fun h => o_move .t (by rfl))) r2 trivial
    (Chain.cons (Cert.cond rfl rfl (fun h => o_indexAddr_sl (sz := 2) (.mk Tryz.underlying23 (by kernel_rfl)) (by intro x; rfl) (.w h) (.w h) (by omega) (by have := of_decide_eq_true h; omega))) r3 trivial
    (Chain.cons (Cert.cond rfl rfl (fun h => o_load_ref (ag := true) (sz := 2) (.w h) (by kernel_rfl) (by kernel_rfl) (by kernel_rfl))) r2 trivial
    (Chain.cons (Cert.cond rfl rfl (fun h => o_move .t (by rfl))) r2 trivial
    (Chain.cons (Cert.cond rfl rfl (fun h => o_callClosP (avs := [.agg (rOrd (Go.Gm.nth l i)), .int .i64 k]) (.w h) (hw (Go.Gm.nth l i)) hf hb hnn (Args.two (.pagg (.w h)) (.w h)))) r4 trivial
    (Chain.cons (Cert.cond rfl rfl (fun h => o_eql (.w h) (.ci (by kernel_rfl)))) r2 trivial
    (cF rfl (o_and2 .t .t) r2 trivial
    (cF rfl (oN .t) r1 trivial
    (cF rfl (oN .t) r1 trivial
    Chain.nil))))))))))))))))
    hB ?_
  clear hS; intro a w F hS
  obtain ⟨F, hS⟩ := hS.nm [7, 6] [0] rfl rfl
  try dsimp only [List.map, xD, xE, xT, xU, ldSF, rOrd] at hS
  try simp only [Int.toNat_natCast] at hS
  refine then_n (wp_ret ?_)
  refine ret_P hfr hS rfl (.tmp rfl (.tmp rfl .nil)) (.two (.int (by rw [hgl2])) (.bool hb2))

theorem place_c (g : HistD) (id : Int) (hs : SmallT g.txs) (hr : Rise TxD.id g.txs) : FnP Tryz.prog 69 [.agg (rHist g), .int .i64 id] (.tup [.int .i64 (lowK TxD.id id g.txs), .bool (isK TxD.id id g.txs)]) := by
  refine FnP.mk Tryz.func69 rfl Tryz.ntmps69 rfl ?_
  intro B a w F hB hfr hS
  have hsl := hs.1
  refine wp_seq ?_
  refine region_q hS
    (cF rfl (oX 101 (.conv .t .agg)) r1 trivial
    (cF rfl (oN (.ci (by kernel_rfl))) trivial trivial
    (cF rfl (oN .cb) trivial trivial
    Chain.nil)))
    hB ?_
  clear hS; intro a w F hS
  replace hS := hS.sub
  obtain ⟨F, hS⟩ := hS.nm [5, 4, 2, 1] [101, 0] rfl rfl
  try dsimp only [RS.sub, SF.sub, CF.sub, csub, Anc.sub, List.map, zCF, rHist, rTx, rOrd, rVer, rInt, rOp] at hS
  generalize Act.tau a 2 = v2 at hS
  refine then_n (wp_seq ?_)
  refine region_q hS
    (cF rfl (oF 0 101 .is) r1 r1
    (cF rfl (oL false 1 101 .adr) r1 r1
    (cF rfl (oM .t) r1 trivial
    (cF rfl (oP (bsT_c g.txs id (by omega) hr 106 Tryz.f106 [] Tryz.func106 rfl (by kernel_rfl) (fun x => place1_c x id)) Tryz.func105 (Args.three .t .t (.conv .f (Ent.fnClos)))) r2 trivial
    (cF rfl (o_extract .t rfl) r1 trivial
    (cF rfl (o_extract .t rfl) r1 trivial
    (cF rfl (oN .t) r1 trivial
    (cF rfl (oN .t) r1 trivial
    Chain.nil))))))))
    hB ?_
  clear hS; intro a w F hS
  obtain ⟨F, hS⟩ := hS.nm [5, 4] [101, 0] rfl rfl
  try dsimp only [List.map, xD, xE, xT, xU, ldSF, rHist, rTx, rOrd, rVer, rInt, rOp] at hS
  refine then_n (wp_ret ?_)
  refine ret_P hfr hS rfl (.tmp rfl (.tmp rfl .nil)) (.two .refl .refl)

end Go.Proofs.YtpjjmolibanakaaGreat
namespace Go.Proofs.YtpjjmolibanakaaGreat
open Go Go.Gm
set_option linter.unusedVariables false
set_option linter.unusedSimpArgs false
set_option maxHeartbeats 4000000
set_option maxRecDepth 8000


theorem cloneIP_c (l : List Int) (hl : l.length ≤ 1000000) : FnP Tryz.prog 47 [.sl rInt l] (.sl rInt l) := by
  refine FnP.mk Tryz.func47 rfl Tryz.ntmps47 rfl ?_
  intro B a w F hB hfr hS
  refine wp_seq ?_
  refine region_q hS
    (cF rfl (oN (.c rfl)) trivial trivial
    Chain.nil)
    hB ?_
  clear hS; intro a w F hS
  obtain ⟨F, hS⟩ := hS.nm [2, 0] [0] rfl rfl
  try dsimp only [rInt] at hS
  refine then_n (wp_seq (wp_seq ?_))
  refine region_q hS
    (cF rfl (oM .t) r1 trivial
    (cF rfl (o_eql_nilsl Tryz.underlying37 .t) r1 trivial
    Chain.nil))
    hB ?_
  clear hS; intro a w F hS
  obtain ⟨F, hS⟩ := hS.nm [4, 2, 0] [0] rfl rfl
  try dsimp only [rInt] at hS
  obtain ⟨β4, hβ4, hS⟩ := hS.pickBool 4 rfl
  obtain ⟨F, hS⟩ := hS.nm [4, 2, 0] [0] rfl rfl
  refine then_n ?_
  refine cond_b hS rfl (fun hc0 => ?_) (fun hc0 => ?_)
  ·skip
   have hg : l = [] := hβ4 hc0
   refine wp_seq ?_
   refine region_q hS
     (cF rfl (oN (.c rfl)) trivial trivial
     Chain.nil)
     hB ?_
   clear hS; intro a w F hS
   obtain ⟨F, hS⟩ := hS.nm [2, 0] [0] rfl rfl
   try dsimp only [rInt] at hS
   refine then_n (wp_ret (then_r ?_))
   refine ret_P hfr hS rfl (.tmp rfl .nil) (.one (.trans .nilSl (.sl (by rw [hg]))))
  have hg : l = [] ++ l := rfl
  refine wp_skip (then_n (wp_seq ?_))
  refine region_q hS
    (cF rfl (o_buildSlice0 (R := rInt) (sz := 1) 101 Tryz.underlying37 (by kernel_rfl)) trivial trivial
    (cF rfl (oM .t) r1 trivial
    (cF rfl (o_append (sz := 1) (bs := 8) 101 (.mk' Tryz.underlying37 (by kernel_rfl) (by kernel_rfl)) (by intro x; rfl) .same (.sl .t) (by simp only [List.length_append, List.length_nil]; omega) (by decide)) ⟨rfl, rfl, trivial⟩ ⟨rfl, trivial⟩
    (cF rfl (oN .t) r1 trivial
    Chain.nil))))
    hB ?_
  clear hS; intro a w F hS
  replace hS := hS.sub
  obtain ⟨F, hS⟩ := hS.nm [2] [101, 0] rfl rfl
  try dsimp only [RS.sub, SF.sub, CF.sub, csub, Anc.sub, List.map, stCells, xL, xM, Nat.reduceAdd, xD, xE, xT, xU, xC, xN, zCF, rInt] at hS
  generalize Act.tau a 7 = v7 at hS
  refine then_n (wp_ret ?_)
  obtain ⟨F, hS⟩ := hS.give 101 2 rfl rfl
  refine ret_P hfr hS rfl (.tmp rfl .nil) (.one (.sl (by rw [hg])))

theorem clone_c (g : HistD) (hs : Small g) : FnG Tryz.prog 66 1 [.agg (rHist g)] [.star []] (PV.self pairQ) (fun v => [pairH (rowH 32 3 rTx g.txs) (rowH 46 2 rOrd g.orders) v]) := by
  refine FnG.mk Tryz.func66 rfl Tryz.ntmps66 rfl (by kernel_rfl) ?_
  intro B F0 a w F hB hG hS
  have hsl := hs.1.1
  have hso := hs.2.1
  obtain ⟨F, hS⟩ := hS.nm [0] [0] rfl rfl
  refine wp_seq ?_
  refine region_q hS
    (cF rfl (oX 101 (.conv .t .agg)) r1 trivial
    (cF rfl (oH [.slice none 0 0, .slice none 0 0] 102) trivial trivial
    Chain.nil))
    hB ?_
  clear hS; intro a w F hS
  replace hS := hS.sub
  obtain ⟨F, hS⟩ := hS.nm [2, 1] [102, 101, 0] rfl rfl
  try dsimp only [RS.sub, SF.sub, CF.sub, csub, Anc.sub, List.map, zCF, rHist, rTx, rOrd, rVer, rInt, rOp] at hS
  generalize Act.tau a 1 = v1 at hS
  generalize Act.tau a 2 = v2 at hS
  refine then_n (wp_seq ?_)
  refine region_q hS
    (cF rfl (oH [.slice none 0 0, .slice none 0 0] 103) trivial trivial
    Chain.nil)
    hB ?_
  clear hS; intro a w F hS
  replace hS := hS.sub
  obtain ⟨F, hS⟩ := hS.nm [3, 2, 1] [103, 102, 101, 0] rfl rfl
  try dsimp only [RS.sub, SF.sub, CF.sub, csub, Anc.sub, List.map, zCF, rHist, rTx, rOrd, rVer, rInt, rOp] at hS
  generalize Act.tau a 3 = v3 at hS
  refine then_n (wp_seq (wp_seq ?_))
  refine region_q hS
    (cF rfl (oF 0 101 .is) r1 r1
    (cF rfl (oL false 1 101 .adr) r1 r1
    (cF rfl (o_len_sl Tryz.underlying22 .t) r1 trivial
    (cF rfl (oM (.ci (by kernel_rfl))) trivial trivial
    Chain.nil))))
    hB ?_
  clear hS; intro a w F hS
  obtain ⟨F, hS⟩ := hS.nm [11, 10, 9, 3, 2, 1] [103, 102, 101, 0] rfl rfl
  try dsimp only [List.map, xD, xE, xT, xU, ldSF, rHist, rTx, rOrd, rVer, rInt, rOp] at hS
  refine then_n (wp_block ?_)
  replace hS := hS.fresh 50 rfl
  replace hS := hS.turn 50 rfl (nilRow (T := 32) (sz := 3) (R := rTx))
  refine loop_keep (σ := (Nat) × (Value) × (List TxD)) [1, 2, 3, 9, 10] [0, 101, 102] (fun s => [(11, .pv (.int .i64 (s.1 : Int)))]) (fun s => [(103, .pt (.val v3) 25 [.pv (.is s.2.1), .pv (.is (.slice none 0 0))]), (50, .ob (.val s.2.1) (rowH 32 3 rTx s.2.2))]) (fun s => s.1 ≤ g.txs.length ∧ (s.2.2 = g.txs.take s.1)) (fun s => g.txs.length - s.1) ((0), (.slice none 0 0), ([])) hS ⟨rfl, rfl, rfl, rfl, rfl, rfl, trivial⟩ ⟨rfl, rfl, rfl, rfl, rfl, trivial⟩ ⟨Nat.zero_le _, rfl⟩ ?_
  clear hS; intro s a w F hC hS
  obtain ⟨i, va, oa⟩ := s
  try dsimp only at hC
  obtain ⟨F, hS⟩ := hS.nm [11, 10, 9, 3, 2, 1] [103, 102, 101, 50, 0] rfl rfl
  try dsimp only at hS
  obtain ⟨hi, hq⟩ := hC
  have hol : oa.length ≤ i := by rw [hq, List.length_take]; omega
  refine wp_seq ?_
  refine region_q hS
    (cF rfl (o_lss .t .t) r2 trivial
    Chain.nil)
    hB ?_
  clear hS; intro a w F hS
  obtain ⟨F, hS⟩ := hS.nm [12, 11, 10, 9, 3, 2, 1] [103, 102, 101, 50, 0] rfl rfl
  try dsimp only [rHist, rTx, rOrd, rVer, rInt, rOp] at hS
  refine then_n (wp_seq ?_)
  refine cond_b hS rfl (fun hc0 => ?_) (fun hc0 => ?_)
  ·skip
   have hil : i < g.txs.length := by simp at hc0; omega
   have hio := hil
   refine wp_skip (then_n (wp_seq (wp_block (wp_seq ?_))))
   refine region_q hS
     (cF rfl (o_indexAddr_sl (sz := 3) (.mk Tryz.underlying22 (by kernel_rfl)) (by intro x; rfl) .t .t (by omega) (by omega)) r2 trivial
     (cF rfl (oR true 3 .t) r1 trivial
     (cF rfl (oH [.int .i64 0, .bool false, .slice none 0 0] 104) trivial trivial
     (cF rfl (oA 3 104 .same .t) r2 r1
     Chain.nil))))
     hB ?_
   clear hS; intro a w F hS
   replace hS := hS.sub
   obtain ⟨F, hS⟩ := hS.nm [14, 13, 12, 11, 10, 9, 5, 3, 2, 1] [104, 103, 102, 101, 50, 0] rfl rfl
   try dsimp only [RS.sub, SF.sub, CF.sub, csub, Anc.sub, List.map, stCells, xL, xM, Nat.reduceAdd, xD, xE, xT, xU, xC, xN, zCF, ldSF, rHist, rTx, rOrd, rVer, rInt, rOp] at hS
   generalize Act.tau a 5 = v5 at hS
   try simp only [Int.toNat_natCast] at hS
   refine then_n ?_
   refine region_any (by kernel_rfl) hS (by kernel_rfl)
     (cF rfl (oF 0 103 .is) r1 r1
     (cF rfl (oL false 1 103 .adr) r1 r1
     (cF rfl (oL true 3 104 .is) r1 r1
     (cF rfl (oP (copied_c (Go.Gm.nth g.txs i) (by have := hs.1.at hio; omega)) Tryz.func34 (Args.one (.pagg .t))) r1 trivial
     (cF rfl (o_buildSliceE (sz := 3) (zs := [.int .i64 0, .bool false, .slice none 0 0]) (r := [(0, .tmp 18)]) (l := [_, _, _]) Tryz.underlying22 (by kernel_rfl) (by kernel_rfl) (by kernel_rfl) (by kernel_rfl) rfl rfl (.agg rfl (.conv .t .agg) (by kernel_rfl) (by kernel_rfl) .nil) rfl) r1 trivial
     (cF rfl (o_append (sz := 3) (bs := 40) 50 (.mk' Tryz.underlying22 (by kernel_rfl) (by kernel_rfl)) (by intro x; rfl) .is (.arr (l' := [(Go.Gm.nth g.txs i)]) .t) (by simp only [List.length_append, List.length_cons, List.length_nil]; omega) (by decide)) ⟨rfl, rfl, trivial⟩ ⟨rfl, trivial⟩
     (cF rfl (oF 0 103 .is) r1 r1
     (cF rfl (o_storeS 103 .adr (by kernel_rfl) (by kernel_rfl)) r2 r1
     Chain.nil))))))))
     (by kernel_rfl) (by rw [hB]; kernel_rfl) ?_
   clear hS; intro a w F hS
   replace hS := hS.sub
   obtain ⟨F, hS⟩ := hS.nm [21, 20, 19, 18, 17, 16, 15, 14, 13, 12, 11, 10, 9, 5, 3, 2, 1] [104, 103, 102, 101, 50, 0] rfl rfl
   try dsimp only [RS.sub, SF.sub, CF.sub, csub, Anc.sub, List.map, stCells, xL, xM, Nat.reduceAdd, xD, xE, xT, xU, xC, xN, zCF, ldSF, rHist, rTx, rOrd, rVer, rInt, rOp] at hS
   generalize Act.tau a 20 = v20 at hS
   refine block_n (then_n ?_)
   refine region_q hS
     (cF rfl (o_add .t (.ci (by kernel_rfl))) r1 trivial
     (cF rfl (oM .t) r1 trivial
     Chain.nil))
     hB ?_
   clear hS; intro a w F hS
   obtain ⟨F, hS⟩ := hS.nm [22, 21, 20, 19, 18, 17, 16, 15, 14, 13, 12, 11, 10, 9, 5, 3, 2, 1] [104, 103, 102, 101, 50, 0] rfl rfl
   try dsimp only [rHist, rTx, rOrd, rVer, rInt, rOp] at hS
   refine then_n ?_
   replace hS := hS.ent (i := 11) (s' := .pv (.int .i64 ((i + 1 : Nat) : Int))) rfl (.int (wrap_succ (by omega)))
   obtain ⟨F, hS⟩ := hS.nm [10, 9, 3, 2, 1, 11] [102, 101, 0, 50, 103] rfl rfl
   exact ⟨((i + 1), _, _), F, ⟨by omega, (by rw [take_nth hil, ← hq])⟩, hS, by omega⟩
  have hil : i = g.txs.length := by simp at hc0; omega
  have hqa : oa = g.txs := by rw [hq, hil, List.take_length]
  subst hqa
  refine wp_exit (then_x (then_x (block_x (then_n (wp_seq (wp_seq ?_))))))
  refine region_q hS
    (cF rfl (oF 1 101 .is) r1 r1
    (cF rfl (oL false 1 101 .adr) r1 r1
    (cF rfl (o_len_sl Tryz.underlying23 .t) r1 trivial
    (cF rfl (oM (.ci (by kernel_rfl))) trivial trivial
    Chain.nil))))
    hB ?_
  clear hS; intro a w F hS
  obtain ⟨F, hS⟩ := hS.nm [26, 25, 24, 3, 2] [103, 102, 101, 50, 0] rfl rfl
  try dsimp only [List.map, xD, xE, xT, xU, ldSF, rHist, rTx, rOrd, rVer, rInt, rOp] at hS
  refine then_n (wp_block ?_)
  replace hS := hS.fresh 51 rfl
  replace hS := hS.turn 51 rfl (nilRow (T := 46) (sz := 2) (R := rOrd))
  refine loop_keep (σ := (Nat) × (Value) × (List OrdD)) [2, 3, 24, 25] [0, 50, 101, 102] (fun s => [(26, .pv (.int .i64 (s.1 : Int)))]) (fun s => [(103, .pt (.val v3) 25 [.pv (.is va), .pv (.is s.2.1)]), (51, .ob (.val s.2.1) (rowH 46 2 rOrd s.2.2))]) (fun s => s.1 ≤ g.orders.length ∧ (s.2.2 = g.orders.take s.1)) (fun s => g.orders.length - s.1) ((0), (.slice none 0 0), ([])) hS ⟨rfl, rfl, rfl, rfl, rfl, trivial⟩ ⟨rfl, rfl, rfl, rfl, rfl, rfl, trivial⟩ ⟨Nat.zero_le _, rfl⟩ ?_
  clear hS; intro s a w F hC hS
  obtain ⟨i, vb, ob⟩ := s
  try dsimp only at hC
  obtain ⟨F, hS⟩ := hS.nm [26, 25, 24, 3, 2] [103, 102, 101, 51, 50, 0] rfl rfl
  try dsimp only at hS
  obtain ⟨hi, hq⟩ := hC
  have hol : ob.length ≤ i := by rw [hq, List.length_take]; omega
  refine wp_seq ?_
  refine region_q hS
    (cF rfl (o_lss .t .t) r2 trivial
    Chain.nil)
    hB ?_
  clear hS; intro a w F hS
  obtain ⟨F, hS⟩ := hS.nm [27, 26, 25, 24, 3, 2] [103, 102, 101, 51, 50, 0] rfl rfl
  try dsimp only [rHist, rTx, rOrd, rVer, rInt, rOp] at hS
  refine then_n (wp_seq ?_)
  refine cond_b hS rfl (fun hc1 => ?_) (fun hc1 => ?_)
  ·skip
   have hil : i < g.orders.length := by simp at hc1; omega
   have hio := hil
   refine wp_skip (then_n (wp_seq (wp_block (wp_seq ?_))))
   refine region_q hS
     (cF rfl (o_indexAddr_sl (sz := 2) (.mk Tryz.underlying23 (by kernel_rfl)) (by intro x; rfl) .t .t (by omega) (by omega)) r2 trivial
     (cF rfl (oR true 2 .t) r1 trivial
     (cF rfl (oH [.int .i64 0, .slice none 0 0] 105) trivial trivial
     (cF rfl (oA 2 105 .same .t) r2 r1
     Chain.nil))))
     hB ?_
   clear hS; intro a w F hS
   replace hS := hS.sub
   obtain ⟨F, hS⟩ := hS.nm [29, 28, 27, 26, 25, 24, 7, 3, 2] [105, 103, 102, 101, 51, 50, 0] rfl rfl
   try dsimp only [RS.sub, SF.sub, CF.sub, csub, Anc.sub, List.map, stCells, xL, xM, Nat.reduceAdd, xD, xE, xT, xU, xC, xN, zCF, ldSF, rHist, rTx, rOrd, rVer, rInt, rOp] at hS
   generalize Act.tau a 7 = v7 at hS
   try simp only [Int.toNat_natCast] at hS
   refine then_n ?_
   refine region_any (by kernel_rfl) hS (by kernel_rfl)
     (cF rfl (oF 1 103 .is) r1 r1
     (cF rfl (oL false 1 103 .adr) r1 r1
     (cF rfl (oF 0 105 .is) r1 r1
     (cF rfl (oL false 1 105 .adr) r1 r1
     (cF rfl (oF 1 105 .is) r1 r1
     (cF rfl (oL false 1 105 .adr) r1 r1
     (cF rfl (oP (cloneIP_c (Go.Gm.nth g.orders i).txs (by have := hs.2.at hio; omega)) Tryz.func47 (Args.one .t)) r1 trivial
     (cF rfl (oB [(0, .tmp 33), (1, .tmp 36)] [.int .i64 0, .slice none 0 0] [(0, 1), (1, 1)] (.one rfl .t one_int (by kernel_rfl) (.one rfl .t one_sl (by kernel_rfl) .nil))) r2 trivial
     (cF rfl (o_buildSliceE (sz := 2) (zs := [.int .i64 0, .slice none 0 0]) (r := [(0, .tmp 37)]) (l := [_, _]) Tryz.underlying23 (by kernel_rfl) (by kernel_rfl) (by kernel_rfl) (by kernel_rfl) rfl rfl (.agg rfl .t (by kernel_rfl) (by kernel_rfl) .nil) rfl) r1 trivial
     (cF rfl (o_append (sz := 2) (bs := 32) 51 (.mk' Tryz.underlying23 (by kernel_rfl) (by kernel_rfl)) (by intro x; rfl) .is (.arr (l' := [(Go.Gm.nth g.orders i)]) .t) (by simp only [List.length_append, List.length_cons, List.length_nil]; omega) (by decide)) ⟨rfl, rfl, trivial⟩ ⟨rfl, trivial⟩
     (cF rfl (oF 1 103 .is) r1 r1
     (cF rfl (o_storeS 103 .adr (by kernel_rfl) (by kernel_rfl)) r2 r1
     Chain.nil))))))))))))
     (by kernel_rfl) (by rw [hB]; kernel_rfl) ?_
   clear hS; intro a w F hS
   replace hS := hS.sub
   obtain ⟨F, hS⟩ := hS.nm [40, 39, 38, 37, 36, 35, 34, 33, 32, 31, 30, 29, 28, 27, 26, 25, 24, 7, 3, 2] [105, 103, 102, 101, 51, 50, 0] rfl rfl
   try dsimp only [RS.sub, SF.sub, CF.sub, csub, Anc.sub, List.map, stCells, xL, xM, Nat.reduceAdd, xD, xE, xT, xU, xC, xN, zCF, ldSF, rHist, rTx, rOrd, rVer, rInt, rOp] at hS
   generalize Act.tau a 39 = v39 at hS
   refine block_n (then_n ?_)
   refine region_q hS
     (cF rfl (o_add .t (.ci (by kernel_rfl))) r1 trivial
     (cF rfl (oM .t) r1 trivial
     Chain.nil))
     hB ?_
   clear hS; intro a w F hS
   obtain ⟨F, hS⟩ := hS.nm [41, 40, 39, 38, 37, 36, 35, 34, 33, 32, 31, 30, 29, 28, 27, 26, 25, 24, 7, 3, 2] [105, 103, 102, 101, 51, 50, 0] rfl rfl
   try dsimp only [rHist, rTx, rOrd, rVer, rInt, rOp] at hS
   refine then_n ?_
   replace hS := hS.ent (i := 26) (s' := .pv (.int .i64 ((i + 1 : Nat) : Int))) rfl (.int (wrap_succ (by omega)))
   obtain ⟨F, hS⟩ := hS.nm [25, 24, 3, 2, 26] [102, 101, 50, 0, 51, 103] rfl rfl
   exact ⟨((i + 1), _, _), F, ⟨by omega, (by rw [take_nth hil, ← hq])⟩, hS, by omega⟩
  have hil : i = g.orders.length := by simp at hc1; omega
  have hqb : ob = g.orders := by rw [hq, hil, List.take_length]
  subst hqb
  refine wp_exit (then_x (then_x (block_x (then_n (wp_seq ?_)))))
  refine region_q hS
    (cF rfl (oL true 2 103 .is) r1 r1
    (cF rfl (oA 2 102 .is .t) r2 r1
    Chain.nil))
    hB ?_
  clear hS; intro a w F hS
  obtain ⟨F, hS⟩ := hS.nm [2] [103, 102, 101, 51, 50, 0] rfl rfl
  try dsimp only [List.map, stCells, xL, xM, Nat.reduceAdd, xD, xE, xT, xU, xC, xN, zCF, ldSF, rHist, rTx, rOrd, rVer, rInt, rOp] at hS
  refine then_n (wp_ret ?_)
  have hS := hS.fresh 1 rfl
  obtain ⟨F, hS⟩ := hS.push 1 51 rfl rfl rfl rfl
  obtain ⟨F, hS⟩ := hS.push 1 50 rfl rfl rfl rfl
  refine ret_GA hG hS rfl (.cell (n := 102) (ag := true) (sz := 2) rfl .is rfl (by kernel_rfl) (by kernel_rfl) (by kernel_rfl) .nil) (.one (.aggU rfl rfl)) rfl

end Go.Proofs.YtpjjmolibanakaaGreat
namespace Go.Proofs.YtpjjmolibanakaaGreat
open Go Go.Gm
set_option linter.unusedVariables false
set_option linter.unusedSimpArgs false
set_option maxHeartbeats 4000000
set_option maxRecDepth 8000


/-- An order more, if there is none of the key. -/
def insK (os : List OrdD) (k : Int) : List OrdD := if isK OrdD.key k os = true then os else os.take (lowK OrdD.key k os) ++ [⟨k, []⟩] ++ os.drop (lowK OrdD.key k os)
def putK (k : Int) : List OrdD → List OrdD
  | [] => [⟨k, []⟩]
  | o :: os => if o.key < k then o :: putK k os else if o.key = k then o :: os else ⟨k, []⟩ :: o :: os
theorem lowK_le {α : Type} {κ : α → Int} {k : Int} (l : List α) : lowK κ k l ≤ l.length := by
  unfold lowK
  exact (List.takeWhile_sublist _).length_le
theorem rise_iff {α : Type} [Inhabited α] {κ : α → Int} {l : List α} : Rise κ l ↔ l.Pairwise fun a b => κ a < κ b := by
  rw [List.pairwise_iff_getElem]
  constructor
  · intro h i j hi hj hij
    have := h i j hij hj
    rwa [nth_eq hi, nth_eq hj] at this
  · intro h a b hab hb
    rw [nth_eq (by omega), nth_eq hb]
    exact h a b (by omega) hb hab
theorem insK_put (k : Int) : ∀ {os : List OrdD}, Rise OrdD.key os → insK os k = putK k os
  | [], _ => rfl
  | o :: os, h => by
    rw [rise_iff, List.pairwise_cons] at h
    have ih := insK_put k (os := os) (rise_iff.2 h.2)
    have e1 : lowK OrdD.key k (o :: os) = if o.key < k then lowK OrdD.key k os + 1 else 0 := by
      unfold lowK
      split
      · rename_i h1
        rw [List.takeWhile_cons_of_pos (by simpa using h1), List.length_cons]
      · rename_i h1
        rw [List.takeWhile_cons_of_neg (by simpa using h1)]; rfl
    have e2 : isK OrdD.key k (o :: os) = (decide (o.key = k) || isK OrdD.key k os) := by unfold isK; rw [List.any_cons]
    by_cases h1 : o.key < k
    · rw [if_pos h1] at e1
      have e3 : isK OrdD.key k (o :: os) = isK OrdD.key k os := by rw [e2, decide_eq_false (by omega), Bool.false_or]
      unfold insK at ih ⊢
      unfold putK
      rw [if_pos h1, e3, e1]
      split
      · rename_i h2; rw [if_pos h2] at ih; exact congrArg (o :: ·) ih
      · rename_i h2; rw [if_neg h2] at ih; rw [← ih]; simp
    · rw [if_neg h1] at e1
      unfold insK putK
      rw [if_neg h1, e1]
      by_cases h3 : o.key = k
      · rw [if_pos h3, if_pos (by rw [e2, decide_eq_true h3, Bool.true_or])]
      · rw [if_neg h3, if_neg]
        · simp
        · rw [e2, decide_eq_false h3, Bool.false_or]
          unfold isK
          rw [List.any_eq_true]
          rintro ⟨x, hx, hk⟩
          have := h.1 x hx
          simp at hk
          omega
theorem putK_mem {k : Int} {o : OrdD} : ∀ {os : List OrdD}, o ∈ putK k os → o ∈ os ∨ o = ⟨k, []⟩
  | [], h => by simp [putK] at h; exact .inr h
  | x :: os, h => by
    unfold putK at h
    split at h
    · rcases List.mem_cons.1 h with h | h
      · exact .inl (by simp [h])
      · rcases putK_mem h with h | h
        · exact .inl (by simp [h])
        · exact .inr h
    · split at h
      · exact .inl h
      · rcases List.mem_cons.1 h with h | h
        · exact .inr h
        · exact .inl h
theorem putK_rise {k : Int} : ∀ {os : List OrdD}, (os.Pairwise fun a b => a.key < b.key) → (putK k os).Pairwise fun a b => a.key < b.key
  | [], _ => by simp [putK]
  | x :: os, h => by
    rw [List.pairwise_cons] at h
    unfold putK
    split
    · rename_i h1
      rw [List.pairwise_cons]
      refine ⟨fun o ho => ?_, putK_rise h.2⟩
      rcases putK_mem ho with h3 | h3
      · exact h.1 o h3
      · rw [h3]; exact h1
    · split
      · rw [List.pairwise_cons]; exact h
      · rw [List.pairwise_cons, List.pairwise_cons]
        refine ⟨fun o ho => ?_, h⟩
        rcases List.mem_cons.1 ho with h3 | h3
        · rw [h3]; show k < x.key; omega
        · have := h.1 o h3; show k < o.key; omega
theorem insK_rise {os : List OrdD} (k : Int) (h : Rise OrdD.key os) : Rise OrdD.key (insK os k) := by
  rw [insK_put k h, rise_iff]
  exact putK_rise (rise_iff.1 h)
theorem insK_len (os : List OrdD) (k : Int) : (insK os k).length ≤ os.length + 1 := by
  unfold insK
  split
  · omega
  · rw [List.length_append, List.length_append, List.length_take, List.length_drop]; simp; omega
theorem insK_mem {os : List OrdD} {k : Int} {o : OrdD} (h : o ∈ insK os k) : o ∈ os ∨ o = ⟨k, []⟩ := by
  unfold insK at h
  split at h
  · exact .inl h
  · rw [List.mem_append, List.mem_append] at h
    rcases h with (h | h) | h
    · exact .inl (List.mem_of_mem_take h)
    · exact .inr (by simpa using h)
    · exact .inl (List.mem_of_mem_drop h)
def insS (t : TxD) (os : List OrdD) (ks : List Int) : List OrdD := if t.done = true then ks.foldl insK os else os
theorem insS_facts {t : TxD} {os : List OrdD} (h : Rise OrdD.key os) (hs : SmallO os) (ks : List Int) : Rise OrdD.key (insS t os ks) ∧ (insS t os ks).length ≤ os.length + ks.length ∧ ∀ o ∈ insS t os ks, o.txs.length ≤ 1000 := by
  unfold insS
  split
  · have key : ∀ (ks : List Int) (os : List OrdD), Rise OrdD.key os → (∀ o ∈ os, o.txs.length ≤ 1000) → Rise OrdD.key (ks.foldl insK os) ∧ (ks.foldl insK os).length ≤ os.length + ks.length ∧ ∀ o ∈ ks.foldl insK os, o.txs.length ≤ 1000 := by
      intro ks
      induction ks with
      | nil => intro os h1 h2; exact ⟨h1, by simp, h2⟩
      | cons k ks ih =>
        intro os h1 h2
        obtain ⟨g1, g2, g3⟩ := ih (insK os k) (insK_rise k h1) (fun o ho => by
          rcases insK_mem ho with h | h
          · exact h2 o h
          · rw [h]; simp)
        have := insK_len os k
        exact ⟨g1, by rw [List.foldl_cons, List.length_cons]; omega, g3⟩
    exact key ks os h hs.2
  · exact ⟨h, by omega, hs.2⟩
theorem insS_step {t : TxD} {os : List OrdD} {ks : List Int} {i : Nat} (hi : i < ks.length) (hc : t.done = true ∧ isK OrdD.key (Go.Gm.nth ks i) (insS t os (ks.take i)) = false) :
    (insS t os (ks.take i)).take (lowK OrdD.key (Go.Gm.nth ks i) (insS t os (ks.take i))) ++ [⟨Go.Gm.nth ks i, []⟩] ++ (insS t os (ks.take i)).drop (lowK OrdD.key (Go.Gm.nth ks i) (insS t os (ks.take i))) = insS t os (ks.take (i + 1)) := by
  have e : insS t os (ks.take (i + 1)) = insK (insS t os (ks.take i)) (Go.Gm.nth ks i) := by
    unfold insS
    rw [if_pos hc.1, if_pos hc.1, take_nth hi, List.foldl_append]; rfl
  rw [e]; unfold insK; rw [if_neg (by rw [hc.2]; simp)]
theorem insS_skip {t : TxD} {os : List OrdD} {ks : List Int} {i : Nat} (hi : i < ks.length) (hc : ¬ (t.done = true ∧ isK OrdD.key (Go.Gm.nth ks i) (insS t os (ks.take i)) = false)) : insS t os (ks.take i) = insS t os (ks.take (i + 1)) := by
  unfold insS at hc ⊢
  by_cases hd : t.done = true
  · rw [if_pos hd] at hc
    rw [if_pos hd, if_pos hd, take_nth hi, List.foldl_append]
    have hx : ∀ X k, isK OrdD.key k X = true → insK X k = X := fun X k h => by unfold insK; rw [if_pos h]
    show _ = insK _ _
    rw [hx]
    cases h : isK OrdD.key (Go.Gm.nth ks i) ((ks.take i).foldl insK os) with
    | true => rfl
    | false => exact absurd ⟨hd, h⟩ hc
  · rw [if_neg hd, if_neg hd]
def ordF (t : TxD) (o : OrdD) : OrdD := ⟨o.key, if t.done = true ∧ 0 < wcnt t.ops o.key then withO o.txs t.id else withoutO o.txs t.id⟩
def settleO (t : TxD) (os : List OrdD) : List OrdD := ((insS t os (keysT t)).map (ordF t)).filter fun o => !decide (o.txs = [])
theorem map_at {α : Type} [Inhabited α] {f : α → α} {l l2 : List α} {i : Nat} (hi : i < l.length) (h : l2 = (l.take i).map f ++ l.drop i) : Go.Gm.nth l2 i = Go.Gm.nth l i ∧ l2.length = l.length := by
  have h2 : l2.length = l.length := by rw [h, List.length_append, List.length_map, List.length_take, List.length_drop]; omega
  refine ⟨?_, h2⟩
  rw [nth_eq (by omega), nth_eq hi]
  subst h
  rw [List.getElem_append_right (by rw [List.length_map, List.length_take]; omega)]
  simp only [List.length_map, List.length_take, List.getElem_drop]
  congr 1
  omega
theorem map_set {α : Type} [Inhabited α] {f : α → α} {l l2 : List α} {i : Nat} (hi : i < l.length) (h : l2 = (l.take i).map f ++ l.drop i) : l2.set i (f (Go.Gm.nth l i)) = (l.take (i + 1)).map f ++ l.drop (i + 1) := by
  have hd : l.drop i = Go.Gm.nth l i :: l.drop (i + 1) := by rw [nth_eq hi]; exact List.drop_eq_getElem_cons hi
  rw [h, take_nth hi, List.map_append, List.append_assoc, List.set_append_right _ _ (by rw [List.length_map, List.length_take]; omega)]
  congr 1
  have : i - ((l.take i).map f).length = 0 := by rw [List.length_map, List.length_take]; omega
  rw [this, hd]; rfl
/-- A history's block: its transactions' row is kept, that of its orders is owned. -/
abbrev bookH (T TR : TypeId) (p va : Value) (os : List OrdD) : HP := HP.ex fun vb : Value => HP.star [.pt (.val p) T [.pv (.is va), .pv (.is vb)], .ob (.val vb) (rowH TR 2 rOrd os)]
theorem free_ib {k : IntKind} {a : Int} {b : Bool} (v : Value) (w : World) (y y' : Ys) (h : (PV.tup [.int k a, .bool b]).p v w y) : (PV.tup [.int k a, .bool b]).p v w y' := by
  obtain ⟨vs, e, h⟩ := h
  match vs, h with
  | [_, _], h => exact ⟨_, e, h⟩
theorem entArr {α : Type} {R : α → List PV} {l : List PV} {l' : List α} (h : Nat.ble l'.length maxLen = true) (e : PVsLe l (l'.flatMap R)) : Ent (.pv (.arr l'.length l)) (.pv (.sl R l')) := fun _ w y v k => PVLe.arrSl h e v w y k

theorem settle1_c (o : OrdD) : FnP Tryz.prog 104 [.agg (rOrd o)] (.bool (decide (o.txs = []))) := by
  refine FnP.mk Tryz.func104 rfl Tryz.ntmps104 rfl ?_
  intro B a w F hB hfr hS
  refine wp_seq ?_
  refine region_q hS
    (cF rfl (oX 101 (.conv .t .agg)) r1 trivial
    (cF rfl (oN .cb) trivial trivial
    Chain.nil))
    hB ?_
  clear hS; intro a w F hS
  replace hS := hS.sub
  obtain ⟨F, hS⟩ := hS.nm [2, 1] [101, 0] rfl rfl
  try dsimp only [RS.sub, SF.sub, CF.sub, csub, Anc.sub, List.map, zCF, rOrd, rInt] at hS
  generalize Act.tau a 1 = v1 at hS
  refine then_n (wp_seq ?_)
  refine region_q hS
    (cF rfl (oF 1 101 .is) r1 r1
    (cF rfl (oL false 1 101 .adr) r1 r1
    (cF rfl (o_len_sl Tryz.underlying37 .t) r1 trivial
    (cF rfl (o_eql .t (.ci (by kernel_rfl))) r1 trivial
    (cF rfl (oN .t) r1 trivial
    Chain.nil)))))
    hB ?_
  clear hS; intro a w F hS
  obtain ⟨F, hS⟩ := hS.nm [2] [0] rfl rfl
  try dsimp only [List.map, xD, xE, xT, xU, ldSF, rOrd, rInt] at hS
  refine then_n (wp_ret ?_)
  refine ret_P hfr hS rfl (.tmp rfl .nil) (.one (.bool (by rw [Bool.eq_iff_iff]; simp)))

theorem settle_c (p va : Value) (os : List OrdD) (t : TxD) (hs : SmallO os) (hr : Rise OrdD.key os) (ht : t.ops.length ≤ 1000) : FnG Tryz.prog 68 1 [.is p, .agg (rTx t)] [bookH 25 46 p va os] (.tup []) (fun _ => [bookH 25 46 p va (settleO t os)]) := by
  refine FnG.mk Tryz.func68 rfl Tryz.ntmps68 rfl (by kernel_rfl) ?_
  intro B F0 a w F hB hG hS
  have hso := hs.1
  have hkl := keysT_len t
  replace hS := hS.turn 1 rfl (r' := RS.hp (HP.ex fun vb : Value => HP.star [.pt (.val p) 25 [.pv (.is va), .pv (.is vb)], .ob (.val vb) (rowH 46 2 rOrd os)])) (fun _ _ _ _ h => h)
  obtain ⟨vb0, hS⟩ := hS.open_ex 1 rfl
  obtain ⟨F, hS⟩ := hS.peel 1 61 rfl rfl
  obtain ⟨F, hS⟩ := hS.peel 1 62 rfl rfl
  obtain ⟨F, hS⟩ := hS.nm [1, 0] [62, 61, 1, 0] rfl rfl
  refine wp_seq ?_
  refine region_q hS
    (cF rfl (oX 101 (.conv .t .agg)) r1 trivial
    Chain.nil)
    hB ?_
  clear hS; intro a w F hS
  replace hS := hS.sub
  obtain ⟨F, hS⟩ := hS.nm [3, 0] [101, 62, 61, 1, 0] rfl rfl
  try dsimp only [RS.sub, SF.sub, CF.sub, csub, Anc.sub, List.map, zCF, rHist, rTx, rOrd, rVer, rInt, rOp] at hS
  generalize Act.tau a 3 = v3 at hS
  refine then_n (wp_seq (wp_seq ?_))
  refine region_q hS
    (cF rfl (oL true 3 101 .is) r1 r1
    (cF rfl (oP (tKeys_c t (by omega)) Tryz.func81 (Args.one (.pagg .t))) r1 trivial
    (cF rfl (o_len_sl Tryz.underlying37 .t) r1 trivial
    (cF rfl (oM (.ci (by kernel_rfl))) trivial trivial
    Chain.nil))))
    hB ?_
  clear hS; intro a w F hS
  obtain ⟨F, hS⟩ := hS.nm [13, 12, 11, 3, 0] [101, 62, 61, 1, 0] rfl rfl
  try dsimp only [List.map, xD, xE, xT, xU, ldSF, rHist, rTx, rOrd, rVer, rInt, rOp] at hS
  rw [show keysL ((t.ops.filter fun o => !o.read).map OpD.key) = keysT t from rfl] at hS
  refine then_n (wp_block ?_)
  refine loop_keep (σ := (Nat) × (Value) × (List OrdD)) [0, 3, 11, 12] [0, 1, 101] (fun s => [(13, .pv (.int .i64 (s.1 : Int)))]) (fun s => [(61, .pt (.val p) 25 [.pv (.is va), .pv (.is s.2.1)]), (62, .ob (.val s.2.1) (rowH 46 2 rOrd s.2.2))]) (fun s => s.1 ≤ (keysT t).length ∧ (s.2.2 = insS t os ((keysT t).take s.1))) (fun s => (keysT t).length - s.1) ((0), (vb0), (os)) hS ⟨rfl, rfl, rfl, rfl, rfl, trivial⟩ ⟨rfl, rfl, rfl, rfl, rfl, trivial⟩ ⟨Nat.zero_le _, (by unfold insS; split <;> rfl)⟩ ?_
  clear hS; intro s a w F hC hS
  obtain ⟨i, vb, ol⟩ := s
  try dsimp only at hC
  obtain ⟨F, hS⟩ := hS.nm [13, 12, 11, 3, 0] [101, 62, 61, 1, 0] rfl rfl
  try dsimp only at hS
  obtain ⟨hi, hq⟩ := hC
  obtain ⟨hf1, hf2, hf3⟩ := insS_facts (t := t) hr hs ((keysT t).take i)
  rw [List.length_take, ← hq] at hf2
  rw [← hq] at hf1 hf3
  have hst := fun h => insS_step (t := t) (os := os) (ks := (keysT t)) (i := i) h
  have hsk := fun h => insS_skip (t := t) (os := os) (ks := (keysT t)) (i := i) h
  rw [← hq] at hst hsk
  have hlk := lowK_le (κ := OrdD.key) (k := (Go.Gm.nth (keysT t) i)) ol
  refine wp_seq ?_
  refine region_q hS
    (cF rfl (o_lss .t .t) r2 trivial
    Chain.nil)
    hB ?_
  clear hS; intro a w F hS
  obtain ⟨F, hS⟩ := hS.nm [14, 13, 12, 11, 3, 0] [101, 62, 61, 1, 0] rfl rfl
  try dsimp only [rHist, rTx, rOrd, rVer, rInt, rOp] at hS
  refine then_n (wp_seq ?_)
  refine cond_b hS rfl (fun hc0 => ?_) (fun hc0 => ?_)
  ·skip
   have hil : i < (keysT t).length := by simp at hc0; omega
   have hio := hil
   refine wp_skip (then_n (wp_seq (wp_block (wp_seq ?_))))
   refine region_q hS
     (cF rfl (o_indexAddr_sl (sz := 1) (.mk Tryz.underlying37 (by kernel_rfl)) (by intro x; rfl) .t .t (by omega) (by omega)) r2 trivial
     (cF rfl (oR false 1 .t) r1 trivial
     (cF rfl (oN .t) r1 trivial
     Chain.nil)))
     hB ?_
   clear hS; intro a w F hS
   obtain ⟨F, hS⟩ := hS.nm [16, 15, 14, 13, 12, 11, 5, 3, 0] [101, 62, 61, 1, 0] rfl rfl
   try dsimp only [List.map, xD, xE, xT, xU, ldSF, rHist, rTx, rOrd, rVer, rInt, rOp] at hS
   try simp only [Int.toNat_natCast] at hS
   refine then_n (wp_seq ?_)
   refine region_q hS
     (cF rfl (oM .t) r1 trivial
     (cF rfl (o_nilCheck 61 .is (by rfl)) r1 r1
     (cF rfl (oF 1 61 .adr) r1 r1
     (cF rfl (oL false 1 61 .adr) r1 r1
     (cF rfl (oM .t) r1 trivial
     (cF rfl (OpC.lendRow 62 [21] (oP (bsR_c ol (Go.Gm.nth (keysT t) i) (by omega) hf1 99 Tryz.f99 [] Tryz.func99 rfl (by kernel_rfl) (fun x => byKey_c x (Go.Gm.nth (keysT t) i))) Tryz.func98 (Args.three .t .t (.conv .f (Ent.fnClos)))) ⟨rfl, trivial, trivial⟩ (.pv free_ib) trivial (by rfl)) r2 r1
     (cF rfl (oM .t) r1 trivial
     (cF rfl (o_extract .t rfl) r1 trivial
     (cF rfl (o_extract .t rfl) r1 trivial
     (cF rfl (oN .t) r1 trivial
     (cF rfl (oN .t) r1 trivial
     Chain.nil)))))))))))
     hB ?_
   clear hS; intro a w F hS
   obtain ⟨F, hS⟩ := hS.nm [25, 24, 23, 22, 21, 20, 19, 18, 17, 16, 15, 14, 13, 12, 11, 7, 6, 5, 3, 0] [101, 62, 61, 1, 0] rfl rfl
   try dsimp only [List.map, xD, xE, xT, xU, ldSF, rHist, rTx, rOrd, rVer, rInt, rOp] at hS
   refine then_n (wp_seq ?_)
   refine region_q hS
     (cF rfl (oF 1 101 .is) r1 r1
     (cF rfl (oL false 1 101 .adr) r1 r1
     (cF rfl (oM .t) r1 trivial
     (Chain.cons (Cert.cond rfl rfl (fun h => o_move .t (by rfl))) r2 trivial
     (Chain.cons (Cert.cond rfl rfl (fun h => o_not (.w h))) r2 trivial
     (cF rfl (o_and2 .t .t) r2 trivial
     Chain.nil))))))
     hB ?_
   clear hS; intro a w F hS
   obtain ⟨F, hS⟩ := hS.nm [31, 30, 29, 28, 27, 26, 25, 24, 23, 22, 21, 20, 19, 18, 17, 16, 15, 14, 13, 12, 11, 7, 6, 5, 3, 0] [101, 62, 61, 1, 0] rfl rfl
   try dsimp only [List.map, xD, xE, xT, xU, ldSF, rHist, rTx, rOrd, rVer, rInt, rOp] at hS
   refine then_n ?_
   refine cond_b hS rfl (fun hc1 => ?_) (fun hc1 => ?_)
   ·skip
    have hq9 := hst hio (by simpa using hc1)
    refine region_q hS
      (cF rfl (oM .t) r1 trivial
      (cF rfl (oM .t) r1 trivial
      (cF rfl (o_nilCheck 61 .is (by rfl)) r1 r1
      (cF rfl (oF 1 61 .adr) r1 r1
      (cF rfl (oL false 1 61 .adr) r1 r1
      (cF rfl (oM .t) r1 trivial
      (cF rfl (oM .t) r1 trivial
      (cF rfl (oB [(0, .tmp 38)] [.int .i64 0, .slice none 0 0] [(0, 1), (1, 1)] (.one rfl .t one_int (by kernel_rfl) .nil)) r1 trivial
      (cF rfl (o_buildSliceE (sz := 2) (zs := [.int .i64 0, .slice none 0 0]) (r := [(0, .tmp 39)]) (l := [_, _]) Tryz.underlying23 (by kernel_rfl) (by kernel_rfl) (by kernel_rfl) (by kernel_rfl) rfl rfl (.agg rfl .t (by kernel_rfl) (by kernel_rfl) .nil) rfl) r1 trivial
      (cF rfl (o_callRowN 62 (insR_c vb ol (lowK OrdD.key (Go.Gm.nth (keysT t) i) ol) ⟨(Go.Gm.nth (keysT t) i), []⟩ (by omega) hlk) Tryz.func100 rfl (by kernel_rfl) (Args.three .t .t (.conv .t (entArr (l := [.int .i64 (Go.Gm.nth (keysT t) i), .is (.slice none 0 0)]) (R := rOrd) (l' := [⟨(Go.Gm.nth (keysT t) i), []⟩]) rfl ⟨PVLe.refl, PVLe.nilSl, trivial⟩))) pvOne1) r3 r1
      (cF rfl (o_nilCheck 61 .is (by rfl)) r1 r1
      (cF rfl (oF 1 61 .adr) r1 r1
      (cF rfl (o_storeS 61 .adr (by kernel_rfl) (by kernel_rfl)) r2 r1
      Chain.nil)))))))))))))
      hB ?_
    clear hS; intro a w F hS
    replace hS := hS.sub
    obtain ⟨F, hS⟩ := hS.nm [43, 42, 41, 40, 39, 38, 37, 36, 35, 34, 33, 32, 31, 30, 29, 28, 27, 26, 25, 24, 23, 22, 21, 20, 19, 18, 17, 16, 15, 14, 13, 12, 11, 7, 6, 5, 3, 0] [101, 62, 61, 1, 0] rfl rfl
    try dsimp only [RS.sub, SF.sub, CF.sub, csub, Anc.sub, List.map, stCells, xL, xM, Nat.reduceAdd, xD, xE, xT, xU, xC, xN, zCF, ldSF, rHist, rTx, rOrd, rVer, rInt, rOp] at hS
    generalize Act.tau a 41 = v41 at hS
    refine block_n (then_n ?_)
    refine region_q hS
      (cF rfl (o_add .t (.ci (by kernel_rfl))) r1 trivial
      (cF rfl (oM .t) r1 trivial
      Chain.nil))
      hB ?_
    clear hS; intro a w F hS
    obtain ⟨F, hS⟩ := hS.nm [44, 43, 42, 41, 40, 39, 38, 37, 36, 35, 34, 33, 32, 31, 30, 29, 28, 27, 26, 25, 24, 23, 22, 21, 20, 19, 18, 17, 16, 15, 14, 13, 12, 11, 7, 6, 5, 3, 0] [101, 62, 61, 1, 0] rfl rfl
    try dsimp only [rHist, rTx, rOrd, rVer, rInt, rOp] at hS
    refine then_n ?_
    replace hS := hS.ent (i := 13) (s' := .pv (.int .i64 ((i + 1 : Nat) : Int))) rfl (.int (wrap_succ (by omega)))
    obtain ⟨F, hS⟩ := hS.nm [12, 11, 3, 0, 13] [101, 1, 0, 62, 61] rfl rfl
    exact ⟨((i + 1), _, _), F, ⟨by omega, hq9⟩, hS, by omega⟩
   have hq9 := hsk hio (by intro e; simp [e.1, e.2] at hc1)
   refine wp_skip (block_n (then_n ?_))
   refine region_q hS
     (cF rfl (o_add .t (.ci (by kernel_rfl))) r1 trivial
     (cF rfl (oM .t) r1 trivial
     Chain.nil))
     hB ?_
   clear hS; intro a w F hS
   obtain ⟨F, hS⟩ := hS.nm [44, 31, 30, 29, 28, 27, 26, 25, 24, 23, 22, 21, 20, 19, 18, 17, 16, 15, 14, 13, 12, 11, 7, 6, 5, 3, 0] [101, 62, 61, 1, 0] rfl rfl
   try dsimp only [rHist, rTx, rOrd, rVer, rInt, rOp] at hS
   refine then_n ?_
   replace hS := hS.ent (i := 13) (s' := .pv (.int .i64 ((i + 1 : Nat) : Int))) rfl (.int (wrap_succ (by omega)))
   obtain ⟨F, hS⟩ := hS.nm [12, 11, 3, 0, 13] [101, 1, 0, 62, 61] rfl rfl
   exact ⟨((i + 1), _, _), F, ⟨by omega, hq9⟩, hS, by omega⟩
  have hil : i = (keysT t).length := by simp at hc0; omega
  have hq0 : ol = insS t os (keysT t) := by rw [hq, hil, List.take_length]
  refine wp_exit (then_x (then_x (block_x (then_n (wp_seq (wp_seq ?_))))))
  refine region_q hS
    (cF rfl (oM .t) r1 trivial
    (cF rfl (o_nilCheck 61 .is (by rfl)) r1 r1
    (cF rfl (oF 1 61 .adr) r1 r1
    (cF rfl (oL false 1 61 .adr) r1 r1
    (cF rfl (o_len_row 62 Tryz.underlying23 .is) r1 r1
    (cF rfl (oM (.ci (by kernel_rfl))) trivial trivial
    Chain.nil))))))
    hB ?_
  clear hS; intro a w F hS
  obtain ⟨F, hS⟩ := hS.nm [50, 49, 3, 0] [101, 62, 61, 1, 0] rfl rfl
  try dsimp only [List.map, xD, xE, xT, xU, ldSF, rHist, rTx, rOrd, rVer, rInt, rOp] at hS
  refine then_n (wp_block ?_)
  refine loop_keep (σ := (Nat) × (List OrdD)) [0, 3, 49] [0, 1, 61, 101] (fun s => [(50, .pv (.int .i64 (s.1 : Int)))]) (fun s => [(62, .ob (.val vb) (rowH 46 2 rOrd s.2))]) (fun s => s.1 ≤ ol.length ∧ (s.2 = (ol.take s.1).map (ordF t) ++ ol.drop s.1)) (fun s => ol.length - s.1) ((0), (ol)) hS ⟨rfl, rfl, rfl, rfl, trivial⟩ ⟨rfl, rfl, rfl, rfl, rfl, trivial⟩ ⟨Nat.zero_le _, (by simp)⟩ ?_
  clear hS; intro s a w F hC hS
  obtain ⟨i, o2⟩ := s
  try dsimp only at hC
  obtain ⟨F, hS⟩ := hS.nm [50, 49, 3, 0] [101, 62, 61, 1, 0] rfl rfl
  try dsimp only at hS
  obtain ⟨hi, hq⟩ := hC
  have hm := fun h => map_at (f := ordF t) (l := ol) (i := i) h hq
  have hms := fun h => map_set (f := ordF t) (l := ol) (i := i) h hq
  refine wp_seq ?_
  refine region_q hS
    (cF rfl (o_lss .t .t) r2 trivial
    Chain.nil)
    hB ?_
  clear hS; intro a w F hS
  obtain ⟨F, hS⟩ := hS.nm [51, 50, 49, 3, 0] [101, 62, 61, 1, 0] rfl rfl
  try dsimp only [rHist, rTx, rOrd, rVer, rInt, rOp] at hS
  refine then_n (wp_seq ?_)
  refine cond_b hS rfl (fun hc2 => ?_) (fun hc2 => ?_)
  ·skip
   have hil : i < ol.length := by simp at hc2; omega
   have hio := hil
   have hol := hf3 _ (nth_mem hio)
   have hmn := (hm hio).1
   have hms2 := hms hio
   have hol2 : (Go.Gm.nth o2 i).txs.length ≤ 1000 := by rw [hmn]; exact hol
   refine wp_skip (then_n (wp_seq (wp_block (wp_seq ?_))))
   refine region_q hS
     (cF rfl (oM .t) r1 trivial
     (cF rfl (oN .t) r1 trivial
     Chain.nil))
     hB ?_
   clear hS; intro a w F hS
   obtain ⟨F, hS⟩ := hS.nm [52, 51, 50, 49, 8, 3, 0] [101, 62, 61, 1, 0] rfl rfl
   try dsimp only [rHist, rTx, rOrd, rVer, rInt, rOp] at hS
   refine then_n (wp_seq ?_)
   refine region_q hS
     (cF rfl (oM .t) r1 trivial
     (cF rfl (o_nilCheck 61 .is (by rfl)) r1 r1
     (cF rfl (oF 1 61 .adr) r1 r1
     (cF rfl (oL false 1 61 .adr) r1 r1
     (cF rfl (oM .t) r1 trivial
     (cF rfl (o_indexAddr_row (sz := 2) 62 (.mk Tryz.underlying23 (by kernel_rfl)) .is .t (by omega) (by omega) (by rfl)) r2 r1
     (cF rfl (oN .t) r1 trivial
     Chain.nil)))))))
     hB ?_
   clear hS; intro a w F hS
   obtain ⟨F, hS⟩ := hS.nm [58, 57, 56, 55, 54, 53, 52, 51, 50, 49, 9, 8, 3, 0] [101, 62, 61, 1, 0] rfl rfl
   try dsimp only [List.map, xD, xE, xT, xU, ldSF, rHist, rTx, rOrd, rVer, rInt, rOp] at hS
   try simp only [Int.toNat_natCast] at hS
   refine then_n (wp_seq ?_)
   refine region_any (by kernel_rfl) hS (by kernel_rfl)
     (cF rfl (oF 1 101 .is) r1 r1
     (cF rfl (oL false 1 101 .adr) r1 r1
     (cF rfl (oM .t) r1 trivial
     (Chain.cons (Cert.cond rfl rfl (fun h => o_load (ag := true) (sz := 3) 101 .is (by kernel_rfl) (by kernel_rfl) (by kernel_rfl) (by rfl))) r2 r1
     (Chain.cons (Cert.cond rfl rfl (fun h => o_move .t (by rfl))) r2 trivial
     (Chain.cons (Cert.cond rfl rfl (fun h => o_nilCheck_row0 (sz := 2) 62 (.w h) (by intro x; rfl) (by have := (hm hil).2; omega))) r2 r1
     (Chain.cons (Cert.cond rfl rfl (fun h => o_fieldAddr_row (off := 0) (sz := 2) 62 (.w h) (by have := (hm hil).2; omega) (by kernel_rfl) (by rfl))) r2 r1
     (Chain.cons (Cert.cond rfl rfl (fun h => o_load_row (ag := false) (sz' := 1) (sz := 2) 62 (.w h) (by intro x; rfl) (by have := (hm hil).2; omega) (by kernel_rfl) (by kernel_rfl) (by kernel_rfl))) r2 r1
     (Chain.cons (Cert.cond rfl rfl (fun h => o_callP (twrites_c t (Go.Gm.nth o2 i).key (by omega)) Tryz.func48 rfl (by kernel_rfl) (Args.two (.pagg (.w h)) (.w h)))) r3 trivial
     (Chain.cons (Cert.cond rfl rfl (fun h => o_gtr (.w h) (.ci (by kernel_rfl)))) r2 trivial
     (cF rfl (o_and2 .t .t) r2 trivial
     Chain.nil)))))))))))
     (by kernel_rfl) (by rw [hB]; kernel_rfl) ?_
   clear hS; intro a w F hS
   obtain ⟨F, hS⟩ := hS.nm [69, 68, 67, 66, 65, 64, 63, 62, 61, 60, 59, 58, 57, 56, 55, 54, 53, 52, 51, 50, 49, 9, 8, 3, 0] [101, 62, 61, 1, 0] rfl rfl
   try dsimp only [List.map, xD, xE, xT, xU, ldSF, rHist, rTx, rOrd, rVer, rInt, rOp] at hS
   refine then_n ?_
   refine cond_b hS rfl (fun hc3 => ?_) (fun hc3 => ?_)
   ·skip
    have hq9 : o2.set i ⟨(Go.Gm.nth o2 i).key, withO (Go.Gm.nth o2 i).txs t.id⟩ = (ol.take (i + 1)).map (ordF t) ++ ol.drop (i + 1) := by rw [← hms2, hmn]; unfold ordF; rw [if_pos (by have h9 := hc3; unfold wcnt; simpa [hmn] using h9)]
    refine region_any (by kernel_rfl) hS (by kernel_rfl)
      (cF rfl (oM .t) r1 trivial
      (cF rfl (oM .t) r1 trivial
      (cF rfl (o_nilCheck_row0 (sz := 2) 62 .t (by intro x; rfl) (by have := (hm hil).2; omega)) r1 r1
      (cF rfl (o_fieldAddr_row (off := 1) (sz := 2) 62 .t (by have := (hm hil).2; omega) (by kernel_rfl) (by rfl)) r1 r1
      (cF rfl (o_load_row (ag := false) (sz' := 1) (sz := 2) 62 .t (by intro x; rfl) (by have := (hm hil).2; omega) (by kernel_rfl) (by kernel_rfl) (by kernel_rfl)) r1 r1
      (cF rfl (oF 0 101 .is) r1 r1
      (cF rfl (oL false 1 101 .adr) r1 r1
      (cF rfl (oP (owith_c (Go.Gm.nth o2 i).txs t.id (by omega)) Tryz.func101 (Args.two .t .t)) r2 trivial
      (cF rfl (o_nilCheck_row0 (sz := 2) 62 .t (by intro x; rfl) (by have := (hm hil).2; omega)) r1 r1
      (cF rfl (o_fieldAddr_row (off := 1) (sz := 2) 62 .t (by have := (hm hil).2; omega) (by kernel_rfl) (by rfl)) r1 r1
      (cF rfl (o_store_rowF (R := rOrd) (sz := 2) (off := 1) (v' := (⟨(Go.Gm.nth o2 i).key, withO (Go.Gm.nth o2 i).txs t.id⟩ : OrdD)) 62 .t (by intro x; rfl) (by have := (hm hil).2; omega) (by decide) .t one_sl rfl (by kernel_rfl)) r2 r1
      Chain.nil)))))))))))
      (by kernel_rfl) (by rw [hB]; kernel_rfl) ?_
    clear hS; intro a w F hS
    obtain ⟨F, hS⟩ := hS.nm [79, 78, 77, 76, 75, 74, 73, 72, 71, 70, 69, 68, 67, 66, 65, 64, 63, 62, 61, 60, 59, 58, 57, 56, 55, 54, 53, 52, 51, 50, 49, 9, 8, 3, 0] [101, 62, 61, 1, 0] rfl rfl
    try dsimp only [List.map, stCells, xL, xM, Nat.reduceAdd, xD, xE, xT, xU, xC, xN, zCF, ldSF, rHist, rTx, rOrd, rVer, rInt, rOp] at hS
    refine block_n (then_n ?_)
    refine region_q hS
      (cF rfl (o_add .t (.ci (by kernel_rfl))) r1 trivial
      (cF rfl (oM .t) r1 trivial
      Chain.nil))
      hB ?_
    clear hS; intro a w F hS
    obtain ⟨F, hS⟩ := hS.nm [90, 79, 78, 77, 76, 75, 74, 73, 72, 71, 70, 69, 68, 67, 66, 65, 64, 63, 62, 61, 60, 59, 58, 57, 56, 55, 54, 53, 52, 51, 50, 49, 9, 8, 3, 0] [101, 62, 61, 1, 0] rfl rfl
    try dsimp only [rHist, rTx, rOrd, rVer, rInt, rOp] at hS
    refine then_n ?_
    replace hS := hS.ent (i := 50) (s' := .pv (.int .i64 ((i + 1 : Nat) : Int))) rfl (.int (wrap_succ (by omega)))
    obtain ⟨F, hS⟩ := hS.nm [49, 3, 0, 50] [101, 61, 1, 0, 62] rfl rfl
    exact ⟨((i + 1), _), F, ⟨by omega, hq9⟩, hS, by omega⟩
   have hq9 : o2.set i ⟨(Go.Gm.nth o2 i).key, withoutO (Go.Gm.nth o2 i).txs t.id⟩ = (ol.take (i + 1)).map (ordF t) ++ ol.drop (i + 1) := by rw [← hms2, hmn]; unfold ordF; rw [if_neg (by have h9 := hc3; unfold wcnt; intro e; rw [← hmn] at e; simp [e.1, e.2] at h9)]
   refine region_any (by kernel_rfl) hS (by kernel_rfl)
     (cF rfl (oM .t) r1 trivial
     (cF rfl (oM .t) r1 trivial
     (cF rfl (o_nilCheck_row0 (sz := 2) 62 .t (by intro x; rfl) (by have := (hm hil).2; omega)) r1 r1
     (cF rfl (o_fieldAddr_row (off := 1) (sz := 2) 62 .t (by have := (hm hil).2; omega) (by kernel_rfl) (by rfl)) r1 r1
     (cF rfl (o_load_row (ag := false) (sz' := 1) (sz := 2) 62 .t (by intro x; rfl) (by have := (hm hil).2; omega) (by kernel_rfl) (by kernel_rfl) (by kernel_rfl)) r1 r1
     (cF rfl (oF 0 101 .is) r1 r1
     (cF rfl (oL false 1 101 .adr) r1 r1
     (cF rfl (oP (owithout_c (Go.Gm.nth o2 i).txs t.id (by omega)) Tryz.func102 (Args.two .t .t)) r2 trivial
     (cF rfl (o_nilCheck_row0 (sz := 2) 62 .t (by intro x; rfl) (by have := (hm hil).2; omega)) r1 r1
     (cF rfl (o_fieldAddr_row (off := 1) (sz := 2) 62 .t (by have := (hm hil).2; omega) (by kernel_rfl) (by rfl)) r1 r1
     (cF rfl (o_store_rowF (R := rOrd) (sz := 2) (off := 1) (v' := (⟨(Go.Gm.nth o2 i).key, withoutO (Go.Gm.nth o2 i).txs t.id⟩ : OrdD)) 62 .t (by intro x; rfl) (by have := (hm hil).2; omega) (by decide) .t one_sl rfl (by kernel_rfl)) r2 r1
     Chain.nil)))))))))))
     (by kernel_rfl) (by rw [hB]; kernel_rfl) ?_
   clear hS; intro a w F hS
   obtain ⟨F, hS⟩ := hS.nm [89, 88, 87, 86, 85, 84, 83, 82, 81, 80, 69, 68, 67, 66, 65, 64, 63, 62, 61, 60, 59, 58, 57, 56, 55, 54, 53, 52, 51, 50, 49, 9, 8, 3, 0] [101, 62, 61, 1, 0] rfl rfl
   try dsimp only [List.map, stCells, xL, xM, Nat.reduceAdd, xD, xE, xT, xU, xC, xN, zCF, ldSF, rHist, rTx, rOrd, rVer, rInt, rOp] at hS
   refine block_n (then_n ?_)
   refine region_q hS
     (cF rfl (o_add .t (.ci (by kernel_rfl))) r1 trivial
     (cF rfl (oM .t) r1 trivial
     Chain.nil))
     hB ?_
   clear hS; intro a w F hS
   obtain ⟨F, hS⟩ := hS.nm [90, 89, 88, 87, 86, 85, 84, 83, 82, 81, 80, 69, 68, 67, 66, 65, 64, 63, 62, 61, 60, 59, 58, 57, 56, 55, 54, 53, 52, 51, 50, 49, 9, 8, 3, 0] [101, 62, 61, 1, 0] rfl rfl
   try dsimp only [rHist, rTx, rOrd, rVer, rInt, rOp] at hS
   refine then_n ?_
   replace hS := hS.ent (i := 50) (s' := .pv (.int .i64 ((i + 1 : Nat) : Int))) rfl (.int (wrap_succ (by omega)))
   obtain ⟨F, hS⟩ := hS.nm [49, 3, 0, 50] [101, 61, 1, 0, 62] rfl rfl
   exact ⟨((i + 1), _), F, ⟨by omega, hq9⟩, hS, by omega⟩
  have hil : i = ol.length := by simp at hc2; omega
  have hfin : (o2.filter fun o => !decide (o.txs = [])) = settleO t os := by rw [hq, hil, List.take_length, List.drop_length, List.append_nil, hq0]; rfl
  have ho2 : o2.length = ol.length := by rw [hq, hil]; simp
  refine wp_exit (then_x (then_x (block_x (then_n ?_))))
  refine region_q hS
    (cF rfl (oM .t) r1 trivial
    (cF rfl (oM .t) r1 trivial
    (cF rfl (o_nilCheck 61 .is (by rfl)) r1 r1
    (cF rfl (oF 1 61 .adr) r1 r1
    (cF rfl (oL false 1 61 .adr) r1 r1
    (cF rfl (o_callRowN 62 (delFR_c vb o2 (by omega) (fun o => decide (o.txs = [])) 104 Tryz.f104 [] Tryz.func104 rfl (by kernel_rfl) (fun o => settle1_c o)) Tryz.func103 rfl (by kernel_rfl) (Args.two .t (.conv .f (Ent.fnClos))) pvOne1) r1 r1
    (cF rfl (o_nilCheck 61 .is (by rfl)) r1 r1
    (cF rfl (oF 1 61 .adr) r1 r1
    (cF rfl (o_storeS 61 .adr (by kernel_rfl) (by kernel_rfl)) r2 r1
    Chain.nil)))))))))
    hB ?_
  clear hS; intro a w F hS
  replace hS := hS.sub
  obtain ⟨F, hS⟩ := hS.nm [] [101, 62, 61, 1, 0] rfl rfl
  try dsimp only [RS.sub, SF.sub, CF.sub, csub, Anc.sub, List.map, stCells, xL, xM, Nat.reduceAdd, xD, xE, xT, xU, xC, xN, zCF, ldSF, rHist, rTx, rOrd, rVer, rInt, rOp] at hS
  generalize Act.tau a 96 = v96 at hS
  obtain ⟨F, hS⟩ := hS.push 1 62 rfl rfl rfl rfl
  obtain ⟨F, hS⟩ := hS.push 1 61 rfl rfl rfl rfl
  have hS := hS.turn 1 rfl (r' := RS.hp (bookH 25 46 p va (settleO t os))) (fun _ _ _ _ h => ⟨v96, by rw [hfin] at h; exact h⟩)
  refine ret_G1 hG hS rfl .nil .none rfl

end Go.Proofs.YtpjjmolibanakaaGreat
