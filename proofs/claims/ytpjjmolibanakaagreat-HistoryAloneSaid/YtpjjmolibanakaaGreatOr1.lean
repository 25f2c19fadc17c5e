/- Slices: Clone, IndexFunc, DeleteFunc. No condition beyond those that each theorem says. -/
import Derived.Test.YtpjjmolibanakaaGreatOr0
import Derived.Test.YtpjjmolibanakaaGreatSrt
namespace Go.Proofs.YtpjjmolibanakaaGreat
open Go Go.Gm
set_option linter.unusedVariables false
set_option linter.unusedSimpArgs false
set_option maxHeartbeats 4000000
set_option maxRecDepth 8000


theorem filter_step {α : Type} [Inhabited α] {p : α → Bool} {l : List α} {j : Nat} (h : j < l.length) : (l.take (j + 1)).filter p = (l.take j).filter p ++ if p (Go.Gm.nth l j) = true then [Go.Gm.nth l j] else [] := by
  rw [take_nth h, List.filter_append]
  congr 1
  by_cases e : p (Go.Gm.nth l j) = true
  · rw [if_pos e]; simp [e]
  · rw [if_neg e]; simp at e; simp [e]
def foundAt {α : Type} [Inhabited α] (p : α → Bool) (l : List α) : Int := match l.findIdx? p with
  | some i => i
  | none => -1
theorem foundAt_none {α : Type} [Inhabited α] {p : α → Bool} {l : List α} (h : ∀ k, k < l.length → p (Go.Gm.nth l k) = false) : foundAt p l = -1 := by
  unfold foundAt
  have : l.findIdx? p = none := List.findIdx?_eq_none_iff.2 fun x hx => by
    obtain ⟨k, hk, rfl⟩ := List.mem_iff_getElem.1 hx
    rw [← nth_eq hk]; exact h k hk
  rw [this]
theorem foundAt_at {α : Type} [Inhabited α] {p : α → Bool} {l : List α} {i : Nat} (hi : i < l.length) (h : p (Go.Gm.nth l i) = true) (h2 : ∀ k, k < i → p (Go.Gm.nth l k) = false) : foundAt p l = i := by
  unfold foundAt
  have : l.findIdx? p = some i := List.findIdx?_eq_some_iff_getElem.2 ⟨hi, by rw [← nth_eq hi]; exact h, fun k hk => by rw [← nth_eq (by omega), h2 k hk]; decide⟩
  rw [this]
theorem foundAt_spec {α : Type} [Inhabited α] (p : α → Bool) (l : List α) : (foundAt p l = -1 ∧ ∀ k, k < l.length → p (Go.Gm.nth l k) = false) ∨ ∃ i : Nat, foundAt p l = i ∧ i < l.length ∧ p (Go.Gm.nth l i) = true ∧ ∀ k, k < i → p (Go.Gm.nth l k) = false := by
  cases h : l.findIdx? p with
  | none =>
    left
    refine ⟨by unfold foundAt; rw [h], fun k hk => ?_⟩
    have := List.findIdx?_eq_none_iff.1 h l[k] (List.getElem_mem hk)
    rw [nth_eq hk]; exact this
  | some i =>
    right
    obtain ⟨h1, h2, h3⟩ := List.findIdx?_eq_some_iff_getElem.1 h
    refine ⟨i, by unfold foundAt; rw [h], h1, by rw [nth_eq h1]; exact h2, fun k hk => ?_⟩
    rw [nth_eq (by omega)]
    simpa using h3 k hk
theorem filter_all {α : Type} [Inhabited α] {p : α → Bool} {l : List α} (h : ∀ k, k < l.length → p (Go.Gm.nth l k) = false) : l.filter (fun x => !p x) = l := by
  rw [List.filter_eq_self]
  intro x hx
  obtain ⟨k, hk, rfl⟩ := List.mem_iff_getElem.1 hx
  rw [← nth_eq hk, h k hk]; rfl
theorem filter_pre {α : Type} [Inhabited α] {p : α → Bool} {l : List α} {i : Nat} (hi : i < l.length) (hip : p (Go.Gm.nth l i) = true) (hib : ∀ k, k < i → p (Go.Gm.nth l k) = false) : l.take i = (l.take (i + 1)).filter fun x => !p x := by
  have h : (l.take i).filter (fun x => !p x) = l.take i := filter_all fun k hk => by
    rw [List.length_take] at hk
    rw [nth_eq (by rw [List.length_take]; omega), List.getElem_take, ← nth_eq (by omega)]
    exact hib k (by omega)
  rw [filter_step (p := fun x => !p x) hi, hip, h]; simp
theorem inR0 : inR .i64 0 := by show IntKind.min .i64 ≤ 0 ∧ 0 ≤ IntKind.max .i64; decide

theorem cloneI_c (l : List Int) (hl : l.length ≤ 1000000) : FnG Tryz.prog 47 1 [.sl rInt l] [.star []] (PV.one) (fun v => [rowH 3 1 rInt l v]) := by
  refine FnG.mk Tryz.func47 rfl Tryz.ntmps47 rfl (by kernel_rfl) ?_
  intro B F0 a w F hB hG hS
  obtain ⟨F, hS⟩ := hS.nm [0] [0] rfl rfl
  refine wp_seq ?_
  refine region_q hS
    (cF rfl (oN (.c rfl)) trivial trivial
    Chain.nil)
    hB ?_
  clear hS; intro a w F hS
  obtain ⟨F, hS⟩ := hS.nm [2, 0] [0] rfl rfl
  try dsimp only [rInt] at hS
  refine then_n (wp_seq (wp_seq ?_))
  refine region_q hS
    (cF rfl (oM .t) r1 trivial
    (cF rfl (o_eql_nilsl Tryz.underlying37 .t) r1 trivial
    Chain.nil))
    hB ?_
  clear hS; intro a w F hS
  obtain ⟨F, hS⟩ := hS.nm [4, 2, 0] [0] rfl rfl
  try dsimp only [rInt] at hS
  obtain ⟨β4, hβ4, hS⟩ := hS.pickBool 4 rfl
  obtain ⟨F, hS⟩ := hS.nm [4, 2, 0] [0] rfl rfl
  refine then_n ?_
  refine cond_b hS rfl (fun hc0 => ?_) (fun hc0 => ?_)
  ·skip
   have hg : l = [] := hβ4 hc0
   refine wp_seq ?_
   refine region_q hS
     (cF rfl (oN (.c rfl)) trivial trivial
     Chain.nil)
     hB ?_
   clear hS; intro a w F hS
   obtain ⟨F, hS⟩ := hS.nm [2, 0] [0] rfl rfl
   try dsimp only [rInt] at hS
   refine then_n (wp_ret (then_r ?_))
   have hS := hS.fresh 1 rfl
   have hS := hS.turn 1 rfl (nilRow (T := 3) (sz := 1) (R := rInt))
   have hS := hS.turn 1 rfl (r' := RS.hp (rowH 3 1 rInt l (.slice none 0 0))) (fun _ _ _ _ h => by rw [hg]; exact h)
   refine ret_N1 (h' := fun v => rowH 3 1 rInt l v) hG hS rfl (.tmp rfl .nil) (.one .one) rfl
  have hg : l = [] ++ l := rfl
  refine wp_skip (then_n (wp_seq ?_))
  refine region_q hS
    (cF rfl (o_buildSlice0 (R := rInt) (sz := 1) 101 Tryz.underlying37 (by kernel_rfl)) trivial trivial
    (cF rfl (oM .t) r1 trivial
    (cF rfl (o_append (sz := 1) (bs := 8) 101 (.mk' Tryz.underlying37 (by kernel_rfl) (by kernel_rfl)) (by intro x; rfl) .same (.sl .t) (by simp only [List.length_append, List.length_nil]; omega) (by decide)) ⟨rfl, rfl, trivial⟩ ⟨rfl, trivial⟩
    (cF rfl (oN .t) r1 trivial
    Chain.nil))))
    hB ?_
  clear hS; intro a w F hS
  replace hS := hS.sub
  obtain ⟨F, hS⟩ := hS.nm [2] [101, 0] rfl rfl
  try dsimp only [RS.sub, SF.sub, CF.sub, csub, Anc.sub, List.map, stCells, xL, xM, Nat.reduceAdd, xD, xE, xT, xU, xC, xN, zCF, rInt] at hS
  generalize Act.tau a 7 = v7 at hS
  refine then_n (wp_ret ?_)
  obtain ⟨F, hS⟩ := hS.rename 101 1 rfl rfl
  have hS := hS.turn 1 rfl (r' := RS.hp (rowH 3 1 rInt l v7)) (fun _ _ _ _ h => by rw [hg]; exact h)
  refine ret_N1 (h' := fun v => rowH 3 1 rInt l v) hG hS rfl (.tmp rfl .nil) (.one .one) rfl

theorem idxFI_c (l : List Int) (p : Int → Bool) (f : FuncId) (fn : Func) (cps : List PV) (hf : Tryz.prog.funcs[f]? = some fn) (hb : fn.body.isSome = true) (hnn : (fn.name == "runtime.NumGoroutine") = false) (hw : ∀ x, FnP Tryz.prog f (.int .i64 x :: cps) (.bool (p x))) : FnP Tryz.prog 149 [.sl rInt l, .clos f cps] (.int .i64 (foundAt p l)) := by
  refine FnP.mk Tryz.func149 rfl Tryz.ntmps149 rfl ?_
  intro B a w F hB hfr hS
  have hll := Sat.lenSl hS (i := 0) rfl
  refine wp_seq ?_
  refine region_q hS
    (cF rfl (oN (.ci (by kernel_rfl))) trivial trivial
    Chain.nil)
    hB ?_
  clear hS; intro a w F hS
  obtain ⟨F, hS⟩ := hS.nm [4, 1, 0] [0] rfl rfl
  try dsimp only [rInt] at hS
  refine then_n (wp_seq (wp_seq ?_))
  refine region_q hS
    (cF rfl (oM .t) r1 trivial
    (cF rfl (o_len_sl Tryz.underlying37 .t) r1 trivial
    (cF rfl (oM (.ci (by kernel_rfl))) trivial trivial
    Chain.nil)))
    hB ?_
  clear hS; intro a w F hS
  obtain ⟨F, hS⟩ := hS.nm [8, 7, 4, 1, 0] [0] rfl rfl
  try dsimp only [rInt] at hS
  refine then_n (wp_block ?_)
  refine loop_keep (σ := (Nat)) [0, 1, 4, 7] [0] (fun s => [(8, .pv (.int .i64 (s : Int)))]) (fun s => []) (fun s => s ≤ l.length ∧ (∀ k, k < s → p (Go.Gm.nth l k) = false)) (fun s => l.length - s) (0) hS ⟨rfl, rfl, rfl, rfl, rfl, trivial⟩ ⟨rfl, trivial⟩ ⟨Nat.zero_le _, fun k hk => absurd hk (Nat.not_lt_zero k)⟩ ?_
  clear hS; intro i a w F hC hS
  try dsimp only at hC
  obtain ⟨F, hS⟩ := hS.nm [8, 7, 4, 1, 0] [0] rfl rfl
  try dsimp only at hS
  obtain ⟨hi, hq⟩ := hC
  refine wp_seq ?_
  refine region_q hS
    (cF rfl (o_lss .t .t) r2 trivial
    Chain.nil)
    hB ?_
  clear hS; intro a w F hS
  obtain ⟨F, hS⟩ := hS.nm [9, 8, 7, 4, 1, 0] [0] rfl rfl
  try dsimp only [rInt] at hS
  refine then_n (wp_seq ?_)
  refine cond_b hS rfl (fun hc0 => ?_) (fun hc0 => ?_)
  ·skip
   have hil : i < l.length := by simp at hc0; omega
   refine wp_skip (then_n (wp_seq (wp_block (wp_seq ?_))))
   refine region_q hS
     (cF rfl (oM .t) r1 trivial
     (cF rfl (oN .t) r1 trivial
     Chain.nil))
     hB ?_
   clear hS; intro a w F hS
   obtain ⟨F, hS⟩ := hS.nm [10, 9, 8, 7, 5, 4, 1, 0] [0] rfl rfl
   try dsimp only [rInt] at hS
   refine then_n (wp_seq ?_)
   refine region_q hS
     (cF rfl (oM .t) r1 trivial
     (cF rfl (oM .t) r1 trivial
     (cF rfl (oM .t) r1 trivial
     (cF rfl (o_indexAddr_sl (sz := 1) (.mk Tryz.underlying37 (by kernel_rfl)) (by intro x; rfl) .t .t (by omega) (by omega)) r2 trivial
     (cF rfl (oR false 1 .t) r1 trivial
     (cF rfl (o_callClosP (avs := [.int .i64 (Go.Gm.nth l i)]) .t (hw (Go.Gm.nth l i)) hf hb hnn (Args.one .t)) r2 trivial
     Chain.nil))))))
     hB ?_
   clear hS; intro a w F hS
   obtain ⟨F, hS⟩ := hS.nm [16, 15, 14, 13, 12, 11, 10, 9, 8, 7, 5, 4, 1, 0] [0] rfl rfl
   try dsimp only [List.map, xD, xE, xT, xU, ldSF, rInt] at hS
   try simp only [Int.toNat_natCast] at hS
   refine then_n ?_
   refine cond_b hS rfl (fun hc1 => ?_) (fun hc1 => ?_)
   ·skip
    have hg : (i : Int) = foundAt p l := (foundAt_at hil hc1 hq).symm
    refine wp_seq ?_
    refine region_q hS
      (cF rfl (oM .t) r1 trivial
      (cF rfl (oN .t) r1 trivial
      Chain.nil))
      hB ?_
    clear hS; intro a w F hS
    obtain ⟨F, hS⟩ := hS.nm [17, 16, 15, 14, 13, 12, 11, 10, 9, 8, 7, 5, 4, 1, 0] [0] rfl rfl
    try dsimp only [rInt] at hS
    refine then_n (wp_ret (block_r (then_r (then_r (block_r (then_r ?_))))))
    refine ret_P hfr hS rfl (.tmp rfl .nil) (.one (.int hg))
   have hne : p (Go.Gm.nth l i) = false := hc1
   refine wp_skip (block_n (then_n ?_))
   refine region_q hS
     (cF rfl (o_add .t (.ci (by kernel_rfl))) r1 trivial
     (cF rfl (oM .t) r1 trivial
     Chain.nil))
     hB ?_
   clear hS; intro a w F hS
   obtain ⟨F, hS⟩ := hS.nm [18, 16, 15, 14, 13, 12, 11, 10, 9, 8, 7, 5, 4, 1, 0] [0] rfl rfl
   try dsimp only [rInt] at hS
   refine then_n ?_
   replace hS := hS.ent (i := 8) (s' := .pv (.int .i64 ((i + 1 : Nat) : Int))) rfl (.int (wrap_succ (by omega)))
   obtain ⟨F, hS⟩ := hS.nm [7, 4, 1, 0, 8] [0] rfl rfl
   exact ⟨(i + 1), F, ⟨by omega, (fun k hk => by rcases Nat.lt_or_eq_of_le (Nat.le_of_lt_succ hk) with h | h; exact hq k h; rw [h]; exact hne)⟩, hS, by omega⟩
  have hil : i = l.length := by simp at hc0; omega
  have hg : -1 = foundAt p l := (foundAt_none fun k hk => hq k (by simp at hc0; omega)).symm
  refine wp_exit (then_x (then_x (block_x (then_n (wp_seq ?_)))))
  refine region_q hS
    (cF rfl (oN (.ci (by kernel_rfl))) trivial trivial
    Chain.nil)
    hB ?_
  clear hS; intro a w F hS
  obtain ⟨F, hS⟩ := hS.nm [4] [0] rfl rfl
  try dsimp only [rInt] at hS
  refine then_n (wp_ret ?_)
  refine ret_P hfr hS rfl (.tmp rfl .nil) (.one (.int hg))

theorem delFI_c (v : Value) (l : List Int) (hll : l.length ≤ 1000000) (p : Int → Bool) (f : FuncId) (fn : Func) (cps : List PV) (hf : Tryz.prog.funcs[f]? = some fn) (hb : fn.body.isSome = true) (hnn : (fn.name == "runtime.NumGoroutine") = false) (hw : ∀ x, FnP Tryz.prog f (.int .i64 x :: cps) (.bool (p x))) : FnG Tryz.prog 131 1 [.is v, .clos f cps] [rowH 3 1 rInt l v] (PV.one) (fun v => [rowH 3 1 rInt (l.filter fun x => !p x) v]) := by
  refine FnG.mk Tryz.func131 rfl Tryz.ntmps131 rfl (by kernel_rfl) ?_
  intro B F0 a w F hB hG hS
  replace hS := hS.turn 1 rfl (r' := .ob (.val v) (rowH 3 1 rInt l)) (fun _ _ _ _ h => h)
  refine wp_seq ?_
  refine region_q hS
    (cF rfl (oN (.c rfl)) trivial trivial
    Chain.nil)
    hB ?_
  clear hS; intro a w F hS
  obtain ⟨F, hS⟩ := hS.nm [4, 1, 0] [1, 0] rfl rfl
  try dsimp only [rInt] at hS
  refine then_n (wp_seq ?_)
  refine region_q hS
    (cF rfl (oM .t) r1 trivial
    (cF rfl (oM .t) r1 trivial
    (cF rfl (OpC.lendRow 1 [8] (oP (idxFI_c l p f fn cps hf hb hnn hw) Tryz.func149 (Args.two .t .t)) ⟨rfl, trivial, trivial⟩ (.pv (fun _ _ _ _ h => h)) trivial (by rfl)) r2 r1
    (cF rfl (oN .t) r1 trivial
    Chain.nil))))
    hB ?_
  clear hS; intro a w F hS
  obtain ⟨F, hS⟩ := hS.nm [5, 4, 1, 0] [1, 0] rfl rfl
  try dsimp only [rInt] at hS
  refine then_n (wp_seq (wp_seq ?_))
  refine region_q hS
    (cF rfl (oM .t) r1 trivial
    (cF rfl (o_eql .t (.ci (by kernel_rfl))) r1 trivial
    Chain.nil))
    hB ?_
  clear hS; intro a w F hS
  obtain ⟨F, hS⟩ := hS.nm [12, 5, 4, 1, 0] [1, 0] rfl rfl
  try dsimp only [rInt] at hS
  refine then_n ?_
  refine cond_b hS rfl (fun hc0 => ?_) (fun hc0 => ?_)
  ·skip
   have hno := (foundAt_spec p l).resolve_right (by rintro ⟨i, h1, _⟩; simp at hc0; omega)
   have hg : (l.filter fun x => !p x) = l := filter_all hno.2
   refine wp_seq ?_
   refine region_q hS
     (cF rfl (oM .t) r1 trivial
     (cF rfl (oN .t) r1 trivial
     Chain.nil))
     hB ?_
   clear hS; intro a w F hS
   obtain ⟨F, hS⟩ := hS.nm [5, 4, 1, 0] [1, 0] rfl rfl
   try dsimp only [rInt] at hS
   refine then_n (wp_ret (then_r ?_))
   have hS := hS.turn 1 rfl (r' := RS.hp (rowH 3 1 rInt (l.filter fun x => !p x) v)) (fun _ _ _ _ h => by rw [hg]; exact h)
   refine ret_N1 (h' := fun v => rowH 3 1 rInt (l.filter fun x => !p x) v) hG hS rfl (.tmp rfl .nil) (.one .one) rfl
  obtain ⟨i0, hi0, hi1, hip, hib⟩ := (foundAt_spec p l).resolve_left (by rintro ⟨h1, _⟩; simp [h1] at hc0)
  have hst0 := filter_pre hi1 hip hib
  refine wp_skip (then_n (wp_seq (wp_seq ?_)))
  refine region_q hS
    (cF rfl (oM .t) r1 trivial
    (cF rfl (o_add .t (.ci (by kernel_rfl))) r1 trivial
    (cF rfl (oN .t) r1 trivial
    Chain.nil)))
    hB ?_
  clear hS; intro a w F hS
  obtain ⟨F, hS⟩ := hS.nm [6, 5, 4, 1, 0] [1, 0] rfl rfl
  try dsimp only [rInt] at hS
  refine then_n (wp_block ?_)
  have hC0 : i0 < i0 + 1 ∧ i0 + 1 ≤ l.length ∧ l.length = l.length ∧ l.take i0 = (l.take (i0 + 1)).filter (fun x => !p x) ∧ ∀ k, i0 + 1 ≤ k → k < l.length → Go.Gm.nth l k = Go.Gm.nth l k := ⟨by omega, by omega, rfl, hst0, fun k _ _ => rfl⟩
  replace hS := hS.ent (i := 5) (s' := .pv (.int .i64 (i0 : Int))) rfl (.int hi0)
  replace hS := hS.ent (i := 6) (s' := .pv (.int .i64 ((i0 + 1 : Nat) : Int))) rfl (.int (by rw [hi0, wrap_i64 (by omega)]; omega))
  refine loop_keep (σ := Nat × Nat × List Int) [0, 1, 4] [0] (fun s => [(5, .pv (.int .i64 (s.1 : Int))), (6, .pv (.int .i64 (s.2.1 : Int)))]) (fun s => [(1, .ob (.val v) (rowH 3 1 rInt s.2.2))]) (fun s => s.1 < s.2.1 ∧ s.2.1 ≤ l.length ∧ s.2.2.length = l.length ∧ s.2.2.take s.1 = (l.take s.2.1).filter (fun x => !p x) ∧ ∀ k, s.2.1 ≤ k → k < l.length → Go.Gm.nth s.2.2 k = Go.Gm.nth l k) (fun s => l.length - s.2.1) ((i0), (i0 + 1), (l)) hS ⟨rfl, rfl, rfl, rfl, rfl, trivial⟩ ⟨rfl, rfl, trivial⟩ hC0 ?_
  clear hS; intro s a w F hC hS
  obtain ⟨i, j, l1⟩ := s
  try dsimp only at hC
  obtain ⟨F, hS⟩ := hS.nm [6, 5, 4, 1, 0] [1, 0] rfl rfl
  try dsimp only at hS
  obtain ⟨hij, hj, hll1, htk, hrest⟩ := hC
  refine wp_seq (wp_seq ?_)
  refine region_q hS
    (cF rfl (oM .t) r1 trivial
    (cF rfl (oM .t) r1 trivial
    (cF rfl (o_len_row 1 Tryz.underlying37 .is) r1 r1
    (cF rfl (o_lss .t .t) r2 trivial
    Chain.nil))))
    hB ?_
  clear hS; intro a w F hS
  obtain ⟨F, hS⟩ := hS.nm [19, 18, 17, 16, 6, 5, 4, 1, 0] [1, 0] rfl rfl
  try dsimp only [rInt] at hS
  refine then_n ?_
  refine cond_b hS rfl (fun hc1 => ?_) (fun hc1 => ?_)
  ·skip
   have hjl : j < l.length := by simp at hc1; omega
   have hnj : Go.Gm.nth l1 j = (Go.Gm.nth l j) := hrest j (Nat.le_refl _) hjl
   have hfs := filter_step (p := fun x => !p x) hjl
   refine wp_skip (then_n (wp_seq (wp_block (wp_seq ?_))))
   refine region_q hS
     (cF rfl (oM .t) r1 trivial
     (cF rfl (oM .t) r1 trivial
     (cF rfl (o_indexAddr_row (sz := 1) 1 (.mk Tryz.underlying37 (by kernel_rfl)) .is .t (by omega) (by omega) (by rfl)) r2 r1
     (cF rfl (o_load_row0 (ag := false) (sz' := 1) (sz := 1) 1 .t (by intro x; rfl) (by omega) (by kernel_rfl) (by kernel_rfl) (by kernel_rfl)) r1 r1
     (cF rfl (oN .t) r1 trivial
     Chain.nil)))))
     hB ?_
   clear hS; intro a w F hS
   obtain ⟨F, hS⟩ := hS.nm [25, 24, 23, 22, 19, 18, 17, 16, 7, 6, 5, 4, 1, 0] [1, 0] rfl rfl
   try dsimp only [List.map, xD, xE, xT, xU, ldSF, rInt] at hS
   try simp only [Int.toNat_natCast] at hS
   rw [hnj] at hS
   refine then_n (wp_seq ?_)
   refine region_q hS
     (cF rfl (oM .t) r1 trivial
     (cF rfl (oM .t) r1 trivial
     (cF rfl (o_callClosP (avs := [.int .i64 (Go.Gm.nth l j)]) .t (hw (Go.Gm.nth l j)) hf hb hnn (Args.one .t)) r2 trivial
     (cF rfl (o_not .t) r1 trivial
     Chain.nil))))
     hB ?_
   clear hS; intro a w F hS
   obtain ⟨F, hS⟩ := hS.nm [29, 28, 27, 26, 25, 24, 23, 22, 19, 18, 17, 16, 7, 6, 5, 4, 1, 0] [1, 0] rfl rfl
   try dsimp only [rInt] at hS
   refine then_n ?_
   refine cond_b hS rfl (fun hc2 => ?_) (fun hc2 => ?_)
   ·skip
    have hp : p (Go.Gm.nth l j) = false := by simpa using hc2
    obtain ⟨i2, hi2e⟩ : ∃ i2, i2 = i + 1 := ⟨_, rfl⟩
    have hi2 : IntKind.wrap .i64 ((i : Int) + 1) = (i2 : Int) := by rw [hi2e]; exact wrap_succ (by omega)
    obtain ⟨l2, hl2⟩ : ∃ l2, l2 = l1.set i (Go.Gm.nth l j) := ⟨_, rfl⟩
    have hC2 : i2 < j + 1 ∧ j + 1 ≤ l.length ∧ l2.length = l.length ∧ l2.take i2 = (l.take (j + 1)).filter (fun x => !p x) ∧ ∀ k, j + 1 ≤ k → k < l.length → Go.Gm.nth l2 k = Go.Gm.nth l k := ⟨by omega, by omega, by rw [hl2, List.length_set]; exact hll1, by rw [hl2, hi2e, hfs, hp, ← htk, take_nth (by rw [List.length_set]; omega), List.take_set_of_le (Nat.le_refl _), nth_eq (by rw [List.length_set]; omega), List.getElem_set_self]; rfl, fun k hk hk2 => by rw [hl2, nth_eq (by rw [List.length_set]; omega), List.getElem_set_ne (by omega), ← nth_eq (by omega)]; exact hrest k (by omega) hk2⟩
    refine wp_seq ?_
    refine region_q hS
      (cF rfl (oM .t) r1 trivial
      (cF rfl (oM .t) r1 trivial
      (cF rfl (oM .t) r1 trivial
      (cF rfl (o_indexAddr_row (sz := 1) 1 (.mk Tryz.underlying37 (by kernel_rfl)) .is .t (by omega) (by omega) (by rfl)) r2 r1
      (cF rfl (o_store_row1 (R := rInt) (sz := 1) (v := (Go.Gm.nth l j)) 1 .t (by intro x; rfl) (by omega) .t rfl one_int (by kernel_rfl)) r2 r1
      Chain.nil)))))
      hB ?_
    clear hS; intro a w F hS
    obtain ⟨F, hS⟩ := hS.nm [33, 32, 31, 30, 29, 28, 27, 26, 25, 24, 23, 22, 19, 18, 17, 16, 7, 6, 5, 4, 1, 0] [1, 0] rfl rfl
    try dsimp only [List.map, stCells, xL, xM, Nat.reduceAdd, xD, xE, xT, xU, xC, xN, zCF, rInt] at hS
    try simp only [Int.toNat_natCast] at hS
    rw [← hl2] at hS
    refine then_n ?_
    refine region_q hS
      (cF rfl (oM .t) r1 trivial
      (cF rfl (o_add .t (.ci (by kernel_rfl))) r1 trivial
      (cF rfl (oN .t) r1 trivial
      Chain.nil)))
      hB ?_
    clear hS; intro a w F hS
    obtain ⟨F, hS⟩ := hS.nm [35, 34, 33, 32, 31, 30, 29, 28, 27, 26, 25, 24, 23, 22, 19, 18, 17, 16, 7, 6, 5, 4, 1, 0] [1, 0] rfl rfl
    try dsimp only [rInt] at hS
    refine block_n (then_n ?_)
    refine region_q hS
      (cF rfl (oM .t) r1 trivial
      (cF rfl (o_add .t (.ci (by kernel_rfl))) r1 trivial
      (cF rfl (oN .t) r1 trivial
      Chain.nil)))
      hB ?_
    clear hS; intro a w F hS
    obtain ⟨F, hS⟩ := hS.nm [35, 34, 33, 32, 31, 30, 29, 28, 27, 26, 25, 24, 23, 22, 21, 20, 19, 18, 17, 16, 7, 6, 5, 4, 1, 0] [1, 0] rfl rfl
    try dsimp only [rInt] at hS
    refine then_n ?_
    have hmu : l.length - (j + 1) < l.length - j := by omega
    replace hS := hS.ent (i := 5) (s' := .pv (.int .i64 (i2 : Int))) rfl (.int hi2)
    replace hS := hS.ent (i := 6) (s' := .pv (.int .i64 ((j + 1 : Nat) : Int))) rfl (.int (wrap_succ (by omega)))
    obtain ⟨F, hS⟩ := hS.nm [4, 1, 0, 6, 5] [0, 1] rfl rfl
    exact ⟨((i2), (j + 1), (l2)), F, hC2, hS, hmu⟩
   have hp : p (Go.Gm.nth l j) = true := by simpa using hc2
   obtain ⟨i2, hi2e⟩ : ∃ i2, i2 = i := ⟨_, rfl⟩
   have hi2 : (i : Int) = (i2 : Int) := by rw [hi2e]
   obtain ⟨l2, hl2⟩ : ∃ l2, l2 = l1 := ⟨_, rfl⟩
   rw [← hl2] at hS
   have hC2 : i2 < j + 1 ∧ j + 1 ≤ l.length ∧ l2.length = l.length ∧ l2.take i2 = (l.take (j + 1)).filter (fun x => !p x) ∧ ∀ k, j + 1 ≤ k → k < l.length → Go.Gm.nth l2 k = Go.Gm.nth l k := ⟨by omega, by omega, by rw [hl2]; exact hll1, by rw [hl2, hi2e, hfs, hp, htk]; simp, fun k hk hk2 => by rw [hl2]; exact hrest k (by omega) hk2⟩
   refine wp_skip (block_n (then_n ?_))
   refine region_q hS
     (cF rfl (oM .t) r1 trivial
     (cF rfl (o_add .t (.ci (by kernel_rfl))) r1 trivial
     (cF rfl (oN .t) r1 trivial
     Chain.nil)))
     hB ?_
   clear hS; intro a w F hS
   obtain ⟨F, hS⟩ := hS.nm [29, 28, 27, 26, 25, 24, 23, 22, 21, 20, 19, 18, 17, 16, 7, 6, 5, 4, 1, 0] [1, 0] rfl rfl
   try dsimp only [rInt] at hS
   refine then_n ?_
   have hmu : l.length - (j + 1) < l.length - j := by omega
   replace hS := hS.ent (i := 5) (s' := .pv (.int .i64 (i2 : Int))) rfl (.int hi2)
   replace hS := hS.ent (i := 6) (s' := .pv (.int .i64 ((j + 1 : Nat) : Int))) rfl (.int (wrap_succ (by omega)))
   obtain ⟨F, hS⟩ := hS.nm [4, 1, 0, 6, 5] [0, 1] rfl rfl
   exact ⟨((i2), (j + 1), (l2)), F, hC2, hS, hmu⟩
  have hjl : j = l.length := by simp at hc1; omega
  have hil2 : i < l.length := by omega
  have hg : (l.filter fun x => !p x) = (l1.take i ++ List.replicate (l1.length - i) (0 : Int)).take i := by rw [List.take_append_of_le_length (by rw [List.length_take]; omega), List.take_take, Nat.min_self, htk, hjl, List.take_length]
  refine wp_exit (then_x (then_x (block_x (then_n (wp_seq ?_)))))
  refine region_q hS
    (cF rfl (oM .t) r1 trivial
    (cF rfl (oM .t) r1 trivial
    (cF rfl (o_sub_row (sz := 1) 1 (.mk Tryz.underlying37 (by kernel_rfl)) .is .t (by omega) (by omega)) r2 r1
    (cF rfl (o_clear_row (R := rInt) (z := (0 : Int)) (zs := [.int .i64 0]) 1 Tryz.underlying37 (by kernel_rfl) rfl rfl (fun _ _ => ⟨⟨rfl, rfl, inR0⟩, trivial⟩) (by intro x; rfl) .t (by simp; omega)) r1 r1
    Chain.nil))))
    hB ?_
  clear hS; intro a w F hS
  obtain ⟨F, hS⟩ := hS.nm [5, 4, 0] [1, 0] rfl rfl
  try dsimp only [rInt] at hS
  refine then_n (wp_seq ?_)
  refine region_q hS
    (cF rfl (oM .t) r1 trivial
    (cF rfl (oM .t) r1 trivial
    (cF rfl (o_cut_row (sz := 1) 1 (.mk Tryz.underlying37 (by kernel_rfl)) (by intro x; rfl) .is .t (by omega) (by simp; omega)) r2 r1
    (cF rfl (oN .t) r1 trivial
    Chain.nil))))
    hB ?_
  clear hS; intro a w F hS
  replace hS := hS.sub
  obtain ⟨F, hS⟩ := hS.nm [4] [1, 0] rfl rfl
  try dsimp only [RS.sub, SF.sub, CF.sub, csub, Anc.sub, List.map, rInt] at hS
  generalize Act.tau a 41 = v41 at hS
  refine then_n (wp_ret ?_)
  have hS := hS.turn 1 rfl (r' := RS.hp (rowH 3 1 rInt (l.filter fun x => !p x) v41)) (fun _ _ _ _ h => by rw [hg]; exact h)
  refine ret_N1 (h' := fun v => rowH 3 1 rInt (l.filter fun x => !p x) v) hG hS rfl (.tmp rfl .nil) (.one .one) rfl

end Go.Proofs.YtpjjmolibanakaaGreat
