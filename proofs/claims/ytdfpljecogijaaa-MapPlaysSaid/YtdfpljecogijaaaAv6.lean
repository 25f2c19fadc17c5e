/- Maps are read. No condition beyond those that each theorem says. -/
import Derived.Test.YtdfpljecogijaaaAv2
import Derived.Test.YtdfpljecogijaaaAv4
namespace Go.Proofs.Ytdfpljecogijaaa
open Go Go.Gm
set_option linter.unusedVariables false
set_option linter.unusedSimpArgs false
set_option maxHeartbeats 4000000
set_option maxRecDepth 8000


def cmpI (a b : Int) : Int := if a < b then -1 else if b < a then 1 else 0
theorem cmpI_zero {a b : Int} : cmpI a b = 0 ↔ a = b := by unfold cmpI; split; omega; split <;> omega
theorem cmpI_neg {a b : Int} : cmpI a b = -1 ↔ a < b := by unfold cmpI; split; omega; split <;> omega
def lookT (k : Int) : Tree → Int × Bool
  | .nil => (0, false)
  | .node l p r => if k < p.key then lookT k l else if p.key < k then lookT k r else (p.val, true)
def rankT (k : Int) : Tree → Int
  | .nil => 0
  | .node l p r => if k ≤ p.key then rankT k l else tSize l + 1 + rankT k r
theorem rankT_in (k : Int) : ∀ t, 0 ≤ rankT k t ∧ rankT k t ≤ tSize t
  | .nil => ⟨Int.le_refl _, Int.le_refl _⟩
  | .node l p r => by
    have h1 := rankT_in k l
    have h2 := rankT_in k r
    have := tSize_nn l
    have := tSize_nn r
    have e : tSize (.node l p r) = tSize l + tSize r + 1 := rfl
    unfold rankT
    split <;> omega
def atT (j : Int) : Tree → PairD
  | .nil => default
  | .node l p r => if j < tSize l then atT j l else if j = tSize l then p else atT (j - tSize l - 1) r
def atR (j : Int) (t : Tree) : PairD × Bool := if 0 ≤ j ∧ j < tSize t then (atT j t, true) else (default, false)

theorem isnan_c (x : Int) : FnP Try.prog 79 [.int .i64 x] (.bool false) := by
  refine FnP.mk Try.func79 rfl Try.ntmps79 rfl ?_
  intro B a w F hB hfr hS
  refine wp_seq ?_
  refine region_seq hS (by kernel_rfl)
    (cF rfl (o_assign .cb (by rfl)) trivial trivial
    Chain.nil)
    (by kernel_rfl) (by rw [hB]; kernel_rfl) ?_
  clear hS; intro a w F hS
  obtain ⟨F, hS⟩ := hS.norm [(0, _), (2, _)] [(0, _)] r2 r1
  try dsimp only [rCell, rPair] at hS
  refine then_n ?_
  refine wp_seq ?_
  refine region_seq hS (by kernel_rfl)
    (cF rfl (o_move .t (by rfl)) r1 trivial
    (cF rfl (o_move .t (by rfl)) r1 trivial
    (cF rfl (o_neq .t .t) r2 trivial
    (cF rfl (o_assign .t (by rfl)) r1 trivial
    Chain.nil))))
    (by kernel_rfl) (by rw [hB]; kernel_rfl) ?_
  clear hS; intro a w F hS
  obtain ⟨F, hS⟩ := hS.norm [(2, _)] [(0, _)] r1 r1
  try dsimp only [rCell, rPair] at hS
  refine then_n ?_
  refine wp_ret ?_
  refine ret_P hfr hS rfl (.tmp rfl .nil) (.one (.bool (by simp)))

theorem cmp_c (x y : Int) : FnP Try.prog 72 [.int .i64 x, .int .i64 y] (.int .i64 (cmpI x y)) := by
  refine FnP.mk Try.func72 rfl Try.ntmps72 rfl ?_
  intro B a w F hB hfr hS
  refine wp_seq ?_
  refine region_seq hS (by kernel_rfl)
    (cF rfl (o_assign (.ci (by kernel_rfl)) (by rfl)) trivial trivial
    Chain.nil)
    (by kernel_rfl) (by rw [hB]; kernel_rfl) ?_
  clear hS; intro a w F hS
  obtain ⟨F, hS⟩ := hS.norm [(0, _), (1, _), (4, _)] [(0, _)] r3 r1
  try dsimp only [rCell, rPair] at hS
  refine then_n ?_
  refine wp_seq ?_
  refine region_seq hS (by kernel_rfl)
    (cF rfl (o_move .t (by rfl)) r1 trivial
    (cF rfl (o_callP (isnan_c x) Try.func79 rfl (by kernel_rfl) (Args.one .t)) r1 trivial
    (cF rfl (o_assign .t (by rfl)) r1 trivial
    Chain.nil)))
    (by kernel_rfl) (by rw [hB]; kernel_rfl) ?_
  clear hS; intro a w F hS
  obtain ⟨F, hS⟩ := hS.norm [(0, _), (1, _), (4, _), (5, _)] [(0, _)] r4 r1
  try dsimp only [rCell, rPair] at hS
  refine then_n ?_
  refine wp_seq ?_
  refine region_seq hS (by kernel_rfl)
    (cF rfl (o_move .t (by rfl)) r1 trivial
    (cF rfl (o_callP (isnan_c y) Try.func79 rfl (by kernel_rfl) (Args.one .t)) r1 trivial
    (cF rfl (o_assign .t (by rfl)) r1 trivial
    Chain.nil)))
    (by kernel_rfl) (by rw [hB]; kernel_rfl) ?_
  clear hS; intro a w F hS
  obtain ⟨F, hS⟩ := hS.norm [(0, _), (1, _), (4, _), (5, _), (6, _)] [(0, _)] r5 r1
  try dsimp only [rCell, rPair] at hS
  refine then_n ?_
  refine wp_seq ?_
  refine wp_seq ?_
  refine region_seq hS (by kernel_rfl)
    (cF rfl (o_move .t (by rfl)) r1 trivial
    Chain.nil)
    (by kernel_rfl) (by rw [hB]; kernel_rfl) ?_
  clear hS; intro a w F hS
  obtain ⟨F, hS⟩ := hS.norm [(0, _), (1, _), (4, _), (6, _), (11, _)] [(0, _)] r5 r1
  try dsimp only [rCell, rPair] at hS
  refine then_n ?_
  refine cond_b hS rfl (fun hc0 => ?_) (fun hc0 => ?_)
  ·skip
   simp at hc0
  ·skip
   refine wp_skip ?_
   refine then_n ?_
   refine wp_seq ?_
   refine wp_seq ?_
   refine region_seq hS (by kernel_rfl)
     (cF rfl (o_move .t (by rfl)) r1 trivial
     Chain.nil)
     (by kernel_rfl) (by rw [hB]; kernel_rfl) ?_
   clear hS; intro a w F hS
   obtain ⟨F, hS⟩ := hS.norm [(0, _), (1, _), (4, _), (13, _)] [(0, _)] r4 r1
   try dsimp only [rCell, rPair] at hS
   refine then_n ?_
   refine cond_b hS rfl (fun hc1 => ?_) (fun hc1 => ?_)
   ·skip
    simp at hc1
   ·skip
    refine wp_skip ?_
    refine then_n ?_
    refine wp_seq ?_
    refine wp_seq ?_
    refine region_seq hS (by kernel_rfl)
      (cF rfl (o_move .t (by rfl)) r1 trivial
      (cF rfl (o_move .t (by rfl)) r1 trivial
      (cF rfl (o_lss .t .t) r2 trivial
      Chain.nil)))
      (by kernel_rfl) (by rw [hB]; kernel_rfl) ?_
    clear hS; intro a w F hS
    obtain ⟨F, hS⟩ := hS.norm [(0, _), (1, _), (4, _), (16, _)] [(0, _)] r4 r1
    try dsimp only [rCell, rPair] at hS
    refine then_n ?_
    refine cond_b hS rfl (fun hc2 => ?_) (fun hc2 => ?_)
    ·skip
     have hg : (-1 : Int) = cmpI x y := (cmpI_neg.2 (by simpa using hc2)).symm
     refine wp_seq ?_
     refine region_seq hS (by kernel_rfl)
       (cF rfl (o_assign (.ci (by kernel_rfl)) (by rfl)) trivial trivial
       Chain.nil)
       (by kernel_rfl) (by rw [hB]; kernel_rfl) ?_
     clear hS; intro a w F hS
     obtain ⟨F, hS⟩ := hS.norm [(0, _), (1, _), (4, _)] [(0, _)] r3 r1
     try dsimp only [rCell, rPair] at hS
     refine then_n ?_
     refine wp_ret ?_
     refine then_r ?_
     refine ret_P hfr hS rfl (.tmp rfl .nil) (.one (.int hg))
    ·skip
     have h1 : ¬ x < y := by simpa using hc2
     refine wp_skip ?_
     refine then_n ?_
     refine wp_seq ?_
     refine wp_seq ?_
     refine region_seq hS (by kernel_rfl)
       (cF rfl (o_move .t (by rfl)) r1 trivial
       (cF rfl (o_move .t (by rfl)) r1 trivial
       (cF rfl (o_gtr .t .t) r2 trivial
       Chain.nil)))
       (by kernel_rfl) (by rw [hB]; kernel_rfl) ?_
     clear hS; intro a w F hS
     obtain ⟨F, hS⟩ := hS.norm [(4, _), (19, _)] [(0, _)] r2 r1
     try dsimp only [rCell, rPair] at hS
     refine then_n ?_
     refine cond_b hS rfl (fun hc3 => ?_) (fun hc3 => ?_)
     ·skip
      have h2 : y < x := by simpa using hc3
      have hg : (1 : Int) = cmpI x y := by unfold cmpI; rw [if_neg h1, if_pos h2]
      refine wp_seq ?_
      refine region_seq hS (by kernel_rfl)
        (cF rfl (o_assign (.ci (by kernel_rfl)) (by rfl)) trivial trivial
        Chain.nil)
        (by kernel_rfl) (by rw [hB]; kernel_rfl) ?_
      clear hS; intro a w F hS
      obtain ⟨F, hS⟩ := hS.norm [(4, _)] [(0, _)] r1 r1
      try dsimp only [rCell, rPair] at hS
      refine then_n ?_
      refine wp_ret ?_
      refine then_r ?_
      refine ret_P hfr hS rfl (.tmp rfl .nil) (.one (.int hg))
     ·skip
      have h2 : ¬ y < x := by simpa using hc3
      have hg : (0 : Int) = cmpI x y := by unfold cmpI; rw [if_neg h1, if_neg h2]
      refine wp_skip ?_
      refine then_n ?_
      refine wp_seq ?_
      refine region_seq hS (by kernel_rfl)
        (cF rfl (o_assign (.ci (by kernel_rfl)) (by rfl)) trivial trivial
        Chain.nil)
        (by kernel_rfl) (by rw [hB]; kernel_rfl) ?_
      clear hS; intro a w F hS
      obtain ⟨F, hS⟩ := hS.norm [(4, _)] [(0, _)] r1 r1
      try dsimp only [rCell, rPair] at hS
      refine then_n ?_
      refine wp_ret ?_
      refine ret_P hfr hS rfl (.tmp rfl .nil) (.one (.int hg))

theorem mlen_c (o : Option Nat) (room : Int) (q : List Cell) (root : Int) : FnG Try.prog 30 1 [.agg [.is (arV o), .int .i64 root]] [arH o room q] (.int .i64 (getC q root).size) (fun _ => [arH o room q]) := by
  refine FnG.mk Try.func30 rfl Try.ntmps30 rfl (by kernel_rfl) ?_
  intro B F0 a w F hB hG hS
  refine wp_seq ?_
  refine region_seq hS (by kernel_rfl)
    (cF rfl (o_boxA 101 (.conv .t .agg) (by kernel_rfl)) r1 trivial
    (cF rfl (o_assign (.ci (by kernel_rfl)) (by rfl)) trivial trivial
    Chain.nil))
    (by kernel_rfl) (by rw [hB]; kernel_rfl) ?_
  clear hS; intro a w F hS
  replace hS := hS.sub
  obtain ⟨F, hS⟩ := hS.norm [(1, _), (2, _)] [(0, _), (1, _), (101, _)] r2 r3
  try dsimp only [RS.sub, SF.sub, CF.sub, csub, Anc.sub, List.map, zCF, rCell, rPair] at hS
  generalize Act.tau a 1 = v1 at hS
  refine then_n ?_
  refine wp_seq ?_
  refine region_seq hS (by kernel_rfl)
    (cF rfl (o_load (ag := true) (sz := 2) 101 .is (by kernel_rfl) (by kernel_rfl) (by kernel_rfl) (by rfl)) r1 r1
    (cF rfl (o_fieldAddr (off := 1) 101 .is (by kernel_rfl) (by rfl)) r1 r1
    (cF rfl (o_load (ag := false) (sz := 1) 101 .adr (by kernel_rfl) (by kernel_rfl) (by kernel_rfl) (by rfl)) r1 r1
    (cF rfl (o_callG1 1 (mcell_c o room q root root) Try.func62 rfl (by kernel_rfl) (Args.two (.pagg .t) .t)) r2 r1
    (cF rfl (o_field1 (ft := 3) (off := 4) (by kernel_rfl) (by kernel_rfl) .t rfl) r1 trivial
    (cF rfl (o_assign .t (by rfl)) r1 trivial
    Chain.nil))))))
    (by kernel_rfl) (by rw [hB]; kernel_rfl) ?_
  clear hS; intro a w F hS
  obtain ⟨F, hS⟩ := hS.norm [(2, _)] [(0, _), (1, _)] r1 r2
  try dsimp only [List.map, List.drop_succ_cons, List.drop_zero, List.drop_nil, List.take_succ_cons, List.take_zero, List.take_nil, ldSF, rCell, rPair] at hS
  refine then_n ?_
  refine wp_ret ?_
  refine ret_G1 hG hS rfl (.tmp rfl .nil) (.one (.int rfl)) rfl

theorem mhigh_c (o : Option Nat) (room : Int) (q : List Cell) (root : Int) : FnG Try.prog 29 1 [.agg [.is (arV o), .int .i64 root]] [arH o room q] (.int .i64 (getC q root).high) (fun _ => [arH o room q]) := by
  refine FnG.mk Try.func29 rfl Try.ntmps29 rfl (by kernel_rfl) ?_
  intro B F0 a w F hB hG hS
  refine wp_seq ?_
  refine region_seq hS (by kernel_rfl)
    (cF rfl (o_boxA 101 (.conv .t .agg) (by kernel_rfl)) r1 trivial
    (cF rfl (o_assign (.ci (by kernel_rfl)) (by rfl)) trivial trivial
    Chain.nil))
    (by kernel_rfl) (by rw [hB]; kernel_rfl) ?_
  clear hS; intro a w F hS
  replace hS := hS.sub
  obtain ⟨F, hS⟩ := hS.norm [(1, _), (2, _)] [(0, _), (1, _), (101, _)] r2 r3
  try dsimp only [RS.sub, SF.sub, CF.sub, csub, Anc.sub, List.map, zCF, rCell, rPair] at hS
  generalize Act.tau a 1 = v1 at hS
  refine then_n ?_
  refine wp_seq ?_
  refine region_seq hS (by kernel_rfl)
    (cF rfl (o_load (ag := true) (sz := 2) 101 .is (by kernel_rfl) (by kernel_rfl) (by kernel_rfl) (by rfl)) r1 r1
    (cF rfl (o_fieldAddr (off := 1) 101 .is (by kernel_rfl) (by rfl)) r1 r1
    (cF rfl (o_load (ag := false) (sz := 1) 101 .adr (by kernel_rfl) (by kernel_rfl) (by kernel_rfl) (by rfl)) r1 r1
    (cF rfl (o_callG1 1 (mcell_c o room q root root) Try.func62 rfl (by kernel_rfl) (Args.two (.pagg .t) .t)) r2 r1
    (cF rfl (o_field1 (ft := 3) (off := 5) (by kernel_rfl) (by kernel_rfl) .t rfl) r1 trivial
    (cF rfl (o_assign .t (by rfl)) r1 trivial
    Chain.nil))))))
    (by kernel_rfl) (by rw [hB]; kernel_rfl) ?_
  clear hS; intro a w F hS
  obtain ⟨F, hS⟩ := hS.norm [(2, _)] [(0, _), (1, _)] r1 r2
  try dsimp only [List.map, List.drop_succ_cons, List.drop_zero, List.drop_nil, List.take_succ_cons, List.take_zero, List.take_nil, ldSF, rCell, rPair] at hS
  refine then_n ?_
  refine wp_ret ?_
  refine ret_G1 hG hS rfl (.tmp rfl .nil) (.one (.int rfl)) rfl

theorem mget_c (o : Option Nat) (room : Int) (q : List Cell) (root : Int) (k : Int) (t0 : Tree) (hr0 : Rep id q t0 root) : FnG Try.prog 53 1 [.agg [.is (arV o), .int .i64 root], .int .i64 k] [arH o room q] (.tup [.int .i64 (lookT k t0).1, .bool (lookT k t0).2]) (fun _ => [arH o room q]) := by
  refine FnG.mk Try.func53 rfl Try.ntmps53 rfl (by kernel_rfl) ?_
  intro B F0 a w F hB hG hS
  refine wp_seq ?_
  refine region_seq hS (by kernel_rfl)
    (cF rfl (o_boxA 101 (.conv .t .agg) (by kernel_rfl)) r1 trivial
    (cF rfl (o_assign (.ci (by kernel_rfl)) (by rfl)) trivial trivial
    (cF rfl (o_assign .cb (by rfl)) trivial trivial
    Chain.nil)))
    (by kernel_rfl) (by rw [hB]; kernel_rfl) ?_
  clear hS; intro a w F hS
  replace hS := hS.sub
  obtain ⟨F, hS⟩ := hS.norm [(1, _), (2, _), (4, _), (5, _)] [(0, _), (1, _), (101, _)] r4 r3
  try dsimp only [RS.sub, SF.sub, CF.sub, csub, Anc.sub, List.map, zCF, rCell, rPair] at hS
  generalize Act.tau a 2 = v2 at hS
  refine then_n ?_
  refine wp_seq ?_
  refine wp_seq ?_
  refine region_seq hS (by kernel_rfl)
    (cF rfl (o_fieldAddr (off := 1) 101 .is (by kernel_rfl) (by rfl)) r1 r1
    (cF rfl (o_load (ag := false) (sz := 1) 101 .adr (by kernel_rfl) (by kernel_rfl) (by kernel_rfl) (by rfl)) r1 r1
    (cF rfl (o_assign .t (by rfl)) r1 trivial
    Chain.nil)))
    (by kernel_rfl) (by rw [hB]; kernel_rfl) ?_
  clear hS; intro a w F hS
  obtain ⟨F, hS⟩ := hS.norm [(1, _), (2, _), (4, _), (5, _), (6, _)] [(0, _), (1, _), (101, _)] r5 r3
  try dsimp only [List.map, List.drop_succ_cons, List.drop_zero, List.drop_nil, List.take_succ_cons, List.take_zero, List.take_nil, ldSF, rCell, rPair] at hS
  refine then_n ?_
  refine wp_block ?_
  refine loop_keep (σ := Int × Tree) [1, 2, 4, 5] [0, 1, 101] (fun s => [(6, .pv (.int .i64 s.1))]) (fun s => []) (fun s => Rep id q s.2 s.1 ∧ lookT k s.2 = lookT k t0) (fun s => (tSize s.2).toNat) ((root), (t0)) hS ⟨rfl, rfl, rfl, rfl, rfl, trivial⟩ ⟨rfl, rfl, rfl, trivial⟩ ⟨hr0, rfl⟩ ?_
  clear hS; intro s a w F hC hS
  obtain ⟨i, t⟩ := s
  try dsimp only at hC
  obtain ⟨F, hS⟩ := hS.norm [(1, _), (2, _), (4, _), (5, _), (6, _)] [(0, _), (1, _), (101, _)] r5 r3
  try dsimp only at hS
  obtain ⟨hr, hk⟩ := hC
  refine wp_seq ?_
  refine wp_seq ?_
  refine region_seq hS (by kernel_rfl)
    (cF rfl (o_move .t (by rfl)) r1 trivial
    (cF rfl (o_gtr .t (.ci (by kernel_rfl))) r1 trivial
    Chain.nil))
    (by kernel_rfl) (by rw [hB]; kernel_rfl) ?_
  clear hS; intro a w F hS
  obtain ⟨F, hS⟩ := hS.norm [(1, _), (2, _), (4, _), (5, _), (6, _), (10, _), (11, _)] [(0, _), (1, _), (101, _)] r7 r3
  try dsimp only [rCell, rPair] at hS
  refine then_n ?_
  refine cond_b hS rfl (fun hc0 => ?_) (fun hc0 => ?_)
  ·skip
   have hi : 0 < i := by simpa using hc0
   obtain ⟨l, x, r, ht⟩ := hr.node (show i ≠ 0 by omega)
   rw [ht] at hr hk
   have hkx := hr.2.2.2.1
   refine wp_skip ?_
   refine then_n ?_
   refine wp_block ?_
   refine wp_seq ?_
   refine region_seq hS (by kernel_rfl)
     (cF rfl (o_load (ag := true) (sz := 2) 101 .is (by kernel_rfl) (by kernel_rfl) (by kernel_rfl) (by rfl)) r1 r1
     (cF rfl (o_move .t (by rfl)) r1 trivial
     (cF rfl (o_callG1 1 (mcell_c o room q root i) Try.func62 rfl (by kernel_rfl) (Args.two (.pagg .t) .t)) r2 r1
     (cF rfl (o_alloc (zs := [.int .i64 0, .int .i64 0, .int .i64 0, .int .i64 0, .int .i64 0, .int .i64 0]) 102 (by kernel_rfl)) trivial trivial
     (cF rfl (o_storeA (sz := 6) 102 .same (.conv .t .agg) (by kernel_rfl) (by kernel_rfl) (by kernel_rfl)) r2 r1
     Chain.nil)))))
     (by kernel_rfl) (by rw [hB]; kernel_rfl) ?_
   clear hS; intro a w F hS
   replace hS := hS.sub
   obtain ⟨F, hS⟩ := hS.norm [(1, _), (2, _), (4, _), (5, _), (6, _), (7, _), (10, _), (11, _), (12, _), (13, _), (14, _)] [(0, _), (1, _), (101, _), (102, _)] ⟨rfl, rfl, rfl, rfl, rfl, rfl, rfl, rfl, rfl, rfl, rfl, trivial⟩ r4
   try dsimp only [RS.sub, SF.sub, CF.sub, csub, Anc.sub, List.map, stCells, List.length_cons, List.length_nil, Nat.reduceAdd, List.drop_succ_cons, List.drop_zero, List.drop_nil, List.take_succ_cons, List.take_zero, List.take_nil, List.cons_append, List.nil_append, zCF, ldSF, rCell, rPair] at hS
   generalize Act.tau a 7 = v7 at hS
   refine then_n ?_
   refine wp_seq ?_
   refine region_seq hS (by kernel_rfl)
     (cF rfl (o_move .t (by rfl)) r1 trivial
     (cF rfl (o_fieldAddr (off := 2) 102 .is (by kernel_rfl) (by rfl)) r1 r1
     (cF rfl (o_load (ag := false) (sz := 1) 102 .adr (by kernel_rfl) (by kernel_rfl) (by kernel_rfl) (by rfl)) r1 r1
     (cF rfl (o_callP (cmp_c k (getC q i).key) Try.func72 rfl (by kernel_rfl) (Args.two .t .t)) r2 trivial
     Chain.nil))))
     (by kernel_rfl) (by rw [hB]; kernel_rfl) ?_
   clear hS; intro a w F hS
   obtain ⟨F, hS⟩ := hS.norm [(1, _), (2, _), (4, _), (5, _), (6, _), (7, _), (10, _), (11, _), (12, _), (13, _), (14, _), (15, _), (16, _), (17, _), (18, _)] [(0, _), (1, _), (101, _), (102, _)] ⟨rfl, rfl, rfl, rfl, rfl, rfl, rfl, rfl, rfl, rfl, rfl, rfl, rfl, rfl, rfl, trivial⟩ r4
   try dsimp only [List.map, List.drop_succ_cons, List.drop_zero, List.drop_nil, List.take_succ_cons, List.take_zero, List.take_nil, ldSF, rCell, rPair] at hS
   refine then_n ?_
   refine wp_block ?_
   refine wp_seq ?_
   refine region_seq hS (by kernel_rfl)
     (cF rfl (o_eql .t (.ci (by kernel_rfl))) r1 trivial
     (cF rfl (o_assign .t (by rfl)) r1 trivial
     Chain.nil))
     (by kernel_rfl) (by rw [hB]; kernel_rfl) ?_
   clear hS; intro a w F hS
   obtain ⟨F, hS⟩ := hS.norm [(1, _), (2, _), (4, _), (5, _), (6, _), (7, _), (10, _), (11, _), (12, _), (13, _), (14, _), (15, _), (16, _), (17, _), (18, _), (21, _), (22, _)] [(0, _), (1, _), (101, _), (102, _)] ⟨rfl, rfl, rfl, rfl, rfl, rfl, rfl, rfl, rfl, rfl, rfl, rfl, rfl, rfl, rfl, rfl, rfl, trivial⟩ r4
   try dsimp only [rCell, rPair] at hS
   refine then_n ?_
   refine cond_b hS rfl (fun hc1 => ?_) (fun hc1 => ?_)
   ·skip
    have h1 : k = x.key := by rw [← hkx]; exact cmpI_zero.1 (by simpa using hc1)
    have hg : lookT k t0 = ((getC q i).val, true) := by rw [← hk]; unfold lookT; rw [if_neg (by omega), if_neg (by omega), hr.2.2.2.2.2.1]
    refine wp_seq ?_
    refine region_seq hS (by kernel_rfl)
      (cF rfl (o_fieldAddr (off := 3) 102 .is (by kernel_rfl) (by rfl)) r1 r1
      (cF rfl (o_load (ag := false) (sz := 1) 102 .adr (by kernel_rfl) (by kernel_rfl) (by kernel_rfl) (by rfl)) r1 r1
      (cF rfl (o_assign .t (by rfl)) r1 trivial
      (cF rfl (o_assign .cb (by rfl)) trivial trivial
      Chain.nil))))
      (by kernel_rfl) (by rw [hB]; kernel_rfl) ?_
    clear hS; intro a w F hS
    obtain ⟨F, hS⟩ := hS.norm [(1, _), (2, _), (4, _), (5, _), (6, _), (7, _), (10, _), (11, _), (12, _), (13, _), (14, _), (15, _), (16, _), (17, _), (18, _), (21, _), (22, _), (23, _), (24, _)] [(0, _), (1, _), (101, _), (102, _)] ⟨rfl, rfl, rfl, rfl, rfl, rfl, rfl, rfl, rfl, rfl, rfl, rfl, rfl, rfl, rfl, rfl, rfl, rfl, rfl, trivial⟩ r4
    try dsimp only [List.map, List.drop_succ_cons, List.drop_zero, List.drop_nil, List.take_succ_cons, List.take_zero, List.take_nil, ldSF, rCell, rPair] at hS
    refine then_n ?_
    refine wp_ret ?_
    refine block_r ?_
    refine block_r ?_
    refine then_r ?_
    refine block_r ?_
    refine then_r ?_
    refine ret_G1 hG hS rfl (.tmp rfl (.tmp rfl .nil)) (.two (.int (by rw [hg])) (.bool (by rw [hg]))) rfl
   ·skip
    have h1 : ¬ k = x.key := by rw [← hkx]; intro hh; simp [cmpI_zero.2 hh] at hc1
    refine wp_seq ?_
    refine region_seq hS (by kernel_rfl)
      (cF rfl (o_eql .t (.ci (by kernel_rfl))) r1 trivial
      (cF rfl (o_assign .t (by rfl)) r1 trivial
      Chain.nil))
      (by kernel_rfl) (by rw [hB]; kernel_rfl) ?_
    clear hS; intro a w F hS
    obtain ⟨F, hS⟩ := hS.norm [(1, _), (2, _), (4, _), (5, _), (6, _), (7, _), (10, _), (11, _), (12, _), (13, _), (14, _), (15, _), (16, _), (17, _), (18, _), (21, _), (22, _), (25, _), (26, _)] [(0, _), (1, _), (101, _), (102, _)] ⟨rfl, rfl, rfl, rfl, rfl, rfl, rfl, rfl, rfl, rfl, rfl, rfl, rfl, rfl, rfl, rfl, rfl, rfl, rfl, trivial⟩ r4
    try dsimp only [rCell, rPair] at hS
    refine then_n ?_
    refine cond_b hS rfl (fun hc2 => ?_) (fun hc2 => ?_)
    ·skip
     have h2 : k < x.key := by rw [← hkx]; exact cmpI_neg.1 (by simpa using hc2)
     obtain ⟨t2, ht2⟩ : ∃ t2, t2 = l := ⟨_, rfl⟩
     have hC2 : Rep id q t2 (getC q i).left ∧ lookT k t2 = lookT k t0 := ⟨by rw [ht2]; exact hr.2.1, by rw [← hk, ht2]; exact (if_pos h2).symm⟩
     have hmu : (tSize t2).toNat < (tSize t).toNat := by rw [ht]; rw [ht2]; have := tSize_nn l; have := tSize_nn r; show _ < (tSize l + tSize r + 1).toNat; omega
     refine region_seq hS (by kernel_rfl)
       (cF rfl (o_fieldAddr (off := 0) 102 .is (by kernel_rfl) (by rfl)) r1 r1
       (cF rfl (o_load (ag := false) (sz := 1) 102 .adr (by kernel_rfl) (by kernel_rfl) (by kernel_rfl) (by rfl)) r1 r1
       (cF rfl (o_assign .t (by rfl)) r1 trivial
       Chain.nil)))
       (by kernel_rfl) (by rw [hB]; kernel_rfl) ?_
     clear hS; intro a w F hS
     obtain ⟨F, hS⟩ := hS.norm [(1, _), (2, _), (4, _), (5, _), (6, _), (7, _), (10, _), (11, _), (12, _), (13, _), (14, _), (15, _), (16, _), (17, _), (18, _), (21, _), (22, _), (25, _), (26, _), (27, _), (28, _)] [(0, _), (1, _), (101, _), (102, _)] ⟨rfl, rfl, rfl, rfl, rfl, rfl, rfl, rfl, rfl, rfl, rfl, rfl, rfl, rfl, rfl, rfl, rfl, rfl, rfl, rfl, rfl, trivial⟩ r4
     try dsimp only [List.map, List.drop_succ_cons, List.drop_zero, List.drop_nil, List.take_succ_cons, List.take_zero, List.take_nil, ldSF, rCell, rPair] at hS
     refine block_n ?_
     refine block_n ?_
     refine then_n ?_
     obtain ⟨F, hS⟩ := hS.norm [(6, _), (1, _), (2, _), (4, _), (5, _)] [(0, _), (1, _), (101, _)] ⟨rfl, rfl, rfl, rfl, rfl, trivial⟩ ⟨rfl, rfl, rfl, trivial⟩
     exact ⟨(_, (t2)), F, hC2, hS, hmu⟩
    ·skip
     have h2 : ¬ k < x.key := by rw [← hkx]; intro hh; simp [cmpI_neg.2 hh] at hc2
     obtain ⟨t2, ht2⟩ : ∃ t2, t2 = r := ⟨_, rfl⟩
     have hC2 : Rep id q t2 (getC q i).right ∧ lookT k t2 = lookT k t0 := ⟨by rw [ht2]; exact hr.2.2.1, by rw [← hk, ht2]; exact ((if_neg h2).trans (if_pos (by omega))).symm⟩
     have hmu : (tSize t2).toNat < (tSize t).toNat := by rw [ht]; rw [ht2]; have := tSize_nn l; have := tSize_nn r; show _ < (tSize l + tSize r + 1).toNat; omega
     refine region_seq hS (by kernel_rfl)
       (cF rfl (o_fieldAddr (off := 1) 102 .is (by kernel_rfl) (by rfl)) r1 r1
       (cF rfl (o_load (ag := false) (sz := 1) 102 .adr (by kernel_rfl) (by kernel_rfl) (by kernel_rfl) (by rfl)) r1 r1
       (cF rfl (o_assign .t (by rfl)) r1 trivial
       Chain.nil)))
       (by kernel_rfl) (by rw [hB]; kernel_rfl) ?_
     clear hS; intro a w F hS
     obtain ⟨F, hS⟩ := hS.norm [(1, _), (2, _), (4, _), (5, _), (6, _), (7, _), (10, _), (11, _), (12, _), (13, _), (14, _), (15, _), (16, _), (17, _), (18, _), (19, _), (20, _), (21, _), (22, _), (25, _), (26, _)] [(0, _), (1, _), (101, _), (102, _)] ⟨rfl, rfl, rfl, rfl, rfl, rfl, rfl, rfl, rfl, rfl, rfl, rfl, rfl, rfl, rfl, rfl, rfl, rfl, rfl, rfl, rfl, trivial⟩ r4
     try dsimp only [List.map, List.drop_succ_cons, List.drop_zero, List.drop_nil, List.take_succ_cons, List.take_zero, List.take_nil, ldSF, rCell, rPair] at hS
     refine block_n ?_
     refine block_n ?_
     refine then_n ?_
     obtain ⟨F, hS⟩ := hS.norm [(6, _), (1, _), (2, _), (4, _), (5, _)] [(0, _), (1, _), (101, _)] ⟨rfl, rfl, rfl, rfl, rfl, trivial⟩ ⟨rfl, rfl, rfl, trivial⟩
     exact ⟨(_, (t2)), F, hC2, hS, hmu⟩
  ·skip
   have hi : ¬ 0 < i := by simpa using hc0
   have hi0 := hr.range
   have hi2 : i = 0 := by omega
   subst hi2
   have hg : lookT k t0 = (0, false) := by rw [← hk, hr.zero]; rfl
   refine wp_exit ?_
   refine then_x ?_
   refine then_x ?_
   refine block_x ?_
   refine then_n ?_
   refine wp_seq ?_
   refine region_seq hS (by kernel_rfl)
     (cF rfl (o_assign (.ci (by kernel_rfl)) (by rfl)) trivial trivial
     (cF rfl (o_assign .cb (by rfl)) trivial trivial
     Chain.nil))
     (by kernel_rfl) (by rw [hB]; kernel_rfl) ?_
   clear hS; intro a w F hS
   obtain ⟨F, hS⟩ := hS.norm [(4, _), (5, _)] [(0, _), (1, _)] r2 r2
   try dsimp only [rCell, rPair] at hS
   refine then_n ?_
   refine wp_ret ?_
   refine ret_G1 hG hS rfl (.tmp rfl (.tmp rfl .nil)) (.two (.int (by rw [hg])) (.bool (by rw [hg]))) rfl

theorem mrank_c (o : Option Nat) (room : Int) (q : List Cell) (root : Int) (k : Int) (t0 : Tree) (hr0 : Rep id q t0 root) (hs : tSize t0 ≤ 1000000) : FnG Try.prog 32 1 [.agg [.is (arV o), .int .i64 root], .int .i64 k] [arH o room q] (.int .i64 (rankT k t0)) (fun _ => [arH o room q]) := by
  refine FnG.mk Try.func32 rfl Try.ntmps32 rfl (by kernel_rfl) ?_
  intro B F0 a w F hB hG hS
  refine wp_seq ?_
  refine region_seq hS (by kernel_rfl)
    (cF rfl (o_boxA 101 (.conv .t .agg) (by kernel_rfl)) r1 trivial
    (cF rfl (o_assign (.ci (by kernel_rfl)) (by rfl)) trivial trivial
    Chain.nil))
    (by kernel_rfl) (by rw [hB]; kernel_rfl) ?_
  clear hS; intro a w F hS
  replace hS := hS.sub
  obtain ⟨F, hS⟩ := hS.norm [(1, _), (2, _), (4, _)] [(0, _), (1, _), (101, _)] r3 r3
  try dsimp only [RS.sub, SF.sub, CF.sub, csub, Anc.sub, List.map, zCF, rCell, rPair] at hS
  generalize Act.tau a 2 = v2 at hS
  refine then_n ?_
  refine wp_seq ?_
  refine region_seq hS (by kernel_rfl)
    (cF rfl (o_assign (.ci (by kernel_rfl)) (by rfl)) trivial trivial
    Chain.nil)
    (by kernel_rfl) (by rw [hB]; kernel_rfl) ?_
  clear hS; intro a w F hS
  obtain ⟨F, hS⟩ := hS.norm [(1, _), (2, _), (4, _), (5, _)] [(0, _), (1, _), (101, _)] r4 r3
  try dsimp only [rCell, rPair] at hS
  refine then_n ?_
  refine wp_seq ?_
  refine wp_seq ?_
  refine region_seq hS (by kernel_rfl)
    (cF rfl (o_fieldAddr (off := 1) 101 .is (by kernel_rfl) (by rfl)) r1 r1
    (cF rfl (o_load (ag := false) (sz := 1) 101 .adr (by kernel_rfl) (by kernel_rfl) (by kernel_rfl) (by rfl)) r1 r1
    (cF rfl (o_assign .t (by rfl)) r1 trivial
    Chain.nil)))
    (by kernel_rfl) (by rw [hB]; kernel_rfl) ?_
  clear hS; intro a w F hS
  obtain ⟨F, hS⟩ := hS.norm [(1, _), (2, _), (4, _), (5, _), (6, _)] [(0, _), (1, _), (101, _)] r5 r3
  try dsimp only [List.map, List.drop_succ_cons, List.drop_zero, List.drop_nil, List.take_succ_cons, List.take_zero, List.take_nil, ldSF, rCell, rPair] at hS
  refine then_n ?_
  refine wp_block ?_
  refine loop_keep (σ := Int × Int × Tree) [1, 2, 4] [0, 1, 101] (fun s => [(6, .pv (.int .i64 s.1)), (5, .pv (.int .i64 s.2.1))]) (fun s => []) (fun s => Rep id q s.2.2 s.1 ∧ s.2.1 + rankT k s.2.2 = rankT k t0 ∧ 0 ≤ s.2.1 ∧ tSize s.2.2 ≤ 1000000) (fun s => (tSize s.2.2).toNat) ((root), (0), (t0)) hS ⟨rfl, rfl, rfl, rfl, rfl, trivial⟩ ⟨rfl, rfl, rfl, trivial⟩ ⟨hr0, Int.zero_add _, Int.le_refl 0, hs⟩ ?_
  clear hS; intro s a w F hC hS
  obtain ⟨i, n, t⟩ := s
  try dsimp only at hC
  obtain ⟨F, hS⟩ := hS.norm [(1, _), (2, _), (4, _), (5, _), (6, _)] [(0, _), (1, _), (101, _)] r5 r3
  try dsimp only at hS
  obtain ⟨hr, hk, hn, hts⟩ := hC
  refine wp_seq ?_
  refine wp_seq ?_
  refine region_seq hS (by kernel_rfl)
    (cF rfl (o_move .t (by rfl)) r1 trivial
    (cF rfl (o_gtr .t (.ci (by kernel_rfl))) r1 trivial
    Chain.nil))
    (by kernel_rfl) (by rw [hB]; kernel_rfl) ?_
  clear hS; intro a w F hS
  obtain ⟨F, hS⟩ := hS.norm [(1, _), (2, _), (4, _), (5, _), (6, _), (10, _), (11, _)] [(0, _), (1, _), (101, _)] r7 r3
  try dsimp only [rCell, rPair] at hS
  refine then_n ?_
  refine cond_b hS rfl (fun hc0 => ?_) (fun hc0 => ?_)
  ·skip
   have hi : 0 < i := by simpa using hc0
   obtain ⟨l, x, r, ht⟩ := hr.node (show i ≠ 0 by omega)
   rw [ht] at hr hk hts
   have hkx := hr.2.2.2.1
   have e : tSize (.node l x r) = tSize l + tSize r + 1 := rfl
   have := tSize_nn l
   have := tSize_nn r
   have hri := rankT_in k r
   have hr0i := rankT_in k t0
   refine wp_skip ?_
   refine then_n ?_
   refine wp_block ?_
   refine wp_seq ?_
   refine region_seq hS (by kernel_rfl)
     (cF rfl (o_load (ag := true) (sz := 2) 101 .is (by kernel_rfl) (by kernel_rfl) (by kernel_rfl) (by rfl)) r1 r1
     (cF rfl (o_move .t (by rfl)) r1 trivial
     (cF rfl (o_callG1 1 (mcell_c o room q root i) Try.func62 rfl (by kernel_rfl) (Args.two (.pagg .t) .t)) r2 r1
     (cF rfl (o_alloc (zs := [.int .i64 0, .int .i64 0, .int .i64 0, .int .i64 0, .int .i64 0, .int .i64 0]) 102 (by kernel_rfl)) trivial trivial
     (cF rfl (o_storeA (sz := 6) 102 .same (.conv .t .agg) (by kernel_rfl) (by kernel_rfl) (by kernel_rfl)) r2 r1
     Chain.nil)))))
     (by kernel_rfl) (by rw [hB]; kernel_rfl) ?_
   clear hS; intro a w F hS
   replace hS := hS.sub
   obtain ⟨F, hS⟩ := hS.norm [(1, _), (2, _), (4, _), (5, _), (6, _), (7, _), (10, _), (11, _), (12, _), (13, _), (14, _)] [(0, _), (1, _), (101, _), (102, _)] ⟨rfl, rfl, rfl, rfl, rfl, rfl, rfl, rfl, rfl, rfl, rfl, trivial⟩ r4
   try dsimp only [RS.sub, SF.sub, CF.sub, csub, Anc.sub, List.map, stCells, List.length_cons, List.length_nil, Nat.reduceAdd, List.drop_succ_cons, List.drop_zero, List.drop_nil, List.take_succ_cons, List.take_zero, List.take_nil, List.cons_append, List.nil_append, zCF, ldSF, rCell, rPair] at hS
   generalize Act.tau a 7 = v7 at hS
   refine then_n ?_
   refine wp_seq ?_
   refine wp_seq ?_
   refine region_seq hS (by kernel_rfl)
     (cF rfl (o_move .t (by rfl)) r1 trivial
     (cF rfl (o_fieldAddr (off := 2) 102 .is (by kernel_rfl) (by rfl)) r1 r1
     (cF rfl (o_load (ag := false) (sz := 1) 102 .adr (by kernel_rfl) (by kernel_rfl) (by kernel_rfl) (by rfl)) r1 r1
     (cF rfl (o_leq .t .t) r2 trivial
     Chain.nil))))
     (by kernel_rfl) (by rw [hB]; kernel_rfl) ?_
   clear hS; intro a w F hS
   obtain ⟨F, hS⟩ := hS.norm [(1, _), (2, _), (4, _), (5, _), (6, _), (7, _), (10, _), (11, _), (12, _), (13, _), (14, _), (15, _), (16, _), (17, _), (18, _)] [(0, _), (1, _), (101, _), (102, _)] ⟨rfl, rfl, rfl, rfl, rfl, rfl, rfl, rfl, rfl, rfl, rfl, rfl, rfl, rfl, rfl, trivial⟩ r4
   try dsimp only [List.map, List.drop_succ_cons, List.drop_zero, List.drop_nil, List.take_succ_cons, List.take_zero, List.take_nil, ldSF, rCell, rPair] at hS
   refine then_n ?_
   refine cond_b hS rfl (fun hc1 => ?_) (fun hc1 => ?_)
   ·skip
    have h1 : k ≤ x.key := by rw [← hkx]; simpa using hc1
    obtain ⟨t2, ht2⟩ : ∃ t2, t2 = l := ⟨_, rfl⟩
    have hC2 : Rep id q t2 (getC q i).left ∧ n + rankT k t2 = rankT k t0 ∧ 0 ≤ n ∧ tSize t2 ≤ 1000000 := ⟨by rw [ht2]; exact hr.2.1, by rw [← hk, ht2, show rankT k (.node l x r) = rankT k l from if_pos h1], hn, by rw [ht2]; omega⟩
    have hmu : (tSize t2).toNat < (tSize t).toNat := by rw [ht]; rw [ht2]; have := tSize_nn l; have := tSize_nn r; show _ < (tSize l + tSize r + 1).toNat; omega
    refine wp_seq ?_
    refine region_seq hS (by kernel_rfl)
      (cF rfl (o_fieldAddr (off := 0) 102 .is (by kernel_rfl) (by rfl)) r1 r1
      (cF rfl (o_load (ag := false) (sz := 1) 102 .adr (by kernel_rfl) (by kernel_rfl) (by kernel_rfl) (by rfl)) r1 r1
      (cF rfl (o_assign .t (by rfl)) r1 trivial
      Chain.nil)))
      (by kernel_rfl) (by rw [hB]; kernel_rfl) ?_
    clear hS; intro a w F hS
    obtain ⟨F, hS⟩ := hS.norm [(1, _), (2, _), (4, _), (5, _), (6, _), (7, _), (10, _), (11, _), (12, _), (13, _), (14, _), (15, _), (16, _), (17, _), (18, _), (19, _), (20, _)] [(0, _), (1, _), (101, _), (102, _)] ⟨rfl, rfl, rfl, rfl, rfl, rfl, rfl, rfl, rfl, rfl, rfl, rfl, rfl, rfl, rfl, rfl, rfl, trivial⟩ r4
    try dsimp only [List.map, List.drop_succ_cons, List.drop_zero, List.drop_nil, List.take_succ_cons, List.take_zero, List.take_nil, ldSF, rCell, rPair] at hS
    refine then_n ?_
    refine wp_exit ?_
    refine then_x ?_
    refine block_x ?_
    refine then_n ?_
    obtain ⟨F, hS⟩ := hS.norm [(6, _), (5, _), (1, _), (2, _), (4, _)] [(0, _), (1, _), (101, _)] ⟨rfl, rfl, rfl, rfl, rfl, trivial⟩ ⟨rfl, rfl, rfl, trivial⟩
    exact ⟨(_, _, (t2)), F, hC2, hS, hmu⟩
   ·skip
    have h1 : ¬ k ≤ x.key := by rw [← hkx]; simpa using hc1
    have hk2 : rankT k (.node l x r) = tSize l + 1 + rankT k r := if_neg h1
    obtain ⟨t2, ht2⟩ : ∃ t2, t2 = r := ⟨_, rfl⟩
    have hC2 : Rep id q t2 (getC q i).right ∧ (n + (tSize l + 1)) + rankT k t2 = rankT k t0 ∧ 0 ≤ (n + (tSize l + 1)) ∧ tSize t2 ≤ 1000000 := ⟨by rw [ht2]; exact hr.2.2.1, by rw [← hk, ht2]; omega, by omega, by rw [ht2]; omega⟩
    have hmu : (tSize t2).toNat < (tSize t).toNat := by rw [ht]; rw [ht2]; have := tSize_nn l; have := tSize_nn r; show _ < (tSize l + tSize r + 1).toNat; omega
    refine wp_skip ?_
    refine then_n ?_
    refine wp_seq ?_
    refine region_seq hS (by kernel_rfl)
      (cF rfl (o_move .t (by rfl)) r1 trivial
      (cF rfl (o_load (ag := true) (sz := 2) 101 .is (by kernel_rfl) (by kernel_rfl) (by kernel_rfl) (by rfl)) r1 r1
      (cF rfl (o_fieldAddr (off := 0) 102 .is (by kernel_rfl) (by rfl)) r1 r1
      (cF rfl (o_load (ag := false) (sz := 1) 102 .adr (by kernel_rfl) (by kernel_rfl) (by kernel_rfl) (by rfl)) r1 r1
      (cF rfl (o_callG1 1 (mcell_c o room q root (getC q i).left) Try.func62 rfl (by kernel_rfl) (Args.two (.pagg .t) .t)) r2 r1
      (cF rfl (o_field1 (ft := 3) (off := 4) (by kernel_rfl) (by kernel_rfl) .t rfl) r1 trivial
      (cF rfl (o_add .t (.ci (by kernel_rfl))) r1 trivial
      (cF rfl (o_add .t .t) r2 trivial
      (cF rfl (o_assign .t (by rfl)) r1 trivial
      Chain.nil)))))))))
      (by kernel_rfl) (by rw [hB]; kernel_rfl) ?_
    clear hS; intro a w F hS
    obtain ⟨F, hS⟩ := hS.norm [(1, _), (2, _), (4, _), (5, _), (6, _), (7, _), (10, _), (11, _), (12, _), (13, _), (14, _), (15, _), (16, _), (17, _), (18, _), (21, _), (22, _), (23, _), (24, _), (25, _), (26, _), (27, _), (28, _)] [(0, _), (1, _), (101, _), (102, _)] ⟨rfl, rfl, rfl, rfl, rfl, rfl, rfl, rfl, rfl, rfl, rfl, rfl, rfl, rfl, rfl, rfl, rfl, rfl, rfl, rfl, rfl, rfl, rfl, trivial⟩ r4
    try dsimp only [List.map, List.drop_succ_cons, List.drop_zero, List.drop_nil, List.take_succ_cons, List.take_zero, List.take_nil, ldSF, rCell, rPair] at hS
    rw [hr.2.1.size, wrap_i64 (x := tSize l + 1) (by omega), wrap_i64 (by omega)] at hS
    refine then_n ?_
    refine region_seq hS (by kernel_rfl)
      (cF rfl (o_fieldAddr (off := 1) 102 .is (by kernel_rfl) (by rfl)) r1 r1
      (cF rfl (o_load (ag := false) (sz := 1) 102 .adr (by kernel_rfl) (by kernel_rfl) (by kernel_rfl) (by rfl)) r1 r1
      (cF rfl (o_assign .t (by rfl)) r1 trivial
      Chain.nil)))
      (by kernel_rfl) (by rw [hB]; kernel_rfl) ?_
    clear hS; intro a w F hS
    obtain ⟨F, hS⟩ := hS.norm [(1, _), (2, _), (4, _), (5, _), (6, _), (7, _), (10, _), (11, _), (12, _), (13, _), (14, _), (15, _), (16, _), (17, _), (18, _), (21, _), (22, _), (23, _), (24, _), (25, _), (26, _), (27, _), (28, _), (29, _), (30, _)] [(0, _), (1, _), (101, _), (102, _)] ⟨rfl, rfl, rfl, rfl, rfl, rfl, rfl, rfl, rfl, rfl, rfl, rfl, rfl, rfl, rfl, rfl, rfl, rfl, rfl, rfl, rfl, rfl, rfl, rfl, rfl, trivial⟩ r4
    try dsimp only [List.map, List.drop_succ_cons, List.drop_zero, List.drop_nil, List.take_succ_cons, List.take_zero, List.take_nil, ldSF, rCell, rPair] at hS
    refine block_n ?_
    refine then_n ?_
    obtain ⟨F, hS⟩ := hS.norm [(6, _), (5, _), (1, _), (2, _), (4, _)] [(0, _), (1, _), (101, _)] ⟨rfl, rfl, rfl, rfl, rfl, trivial⟩ ⟨rfl, rfl, rfl, trivial⟩
    exact ⟨(_, _, (t2)), F, hC2, hS, hmu⟩
  ·skip
   have hi : ¬ 0 < i := by simpa using hc0
   have hi0 := hr.range
   have hi2 : i = 0 := by omega
   subst hi2
   have hg : n = rankT k t0 := by rw [hr.zero] at hk; have : rankT k Tree.nil = 0 := rfl; omega
   refine wp_exit ?_
   refine then_x ?_
   refine then_x ?_
   refine block_x ?_
   refine then_n ?_
   refine wp_seq ?_
   refine region_seq hS (by kernel_rfl)
     (cF rfl (o_move .t (by rfl)) r1 trivial
     (cF rfl (o_assign .t (by rfl)) r1 trivial
     Chain.nil))
     (by kernel_rfl) (by rw [hB]; kernel_rfl) ?_
   clear hS; intro a w F hS
   obtain ⟨F, hS⟩ := hS.norm [(4, _)] [(0, _), (1, _)] r1 r2
   try dsimp only [rCell, rPair] at hS
   refine then_n ?_
   refine wp_ret ?_
   refine ret_G1 hG hS rfl (.tmp rfl .nil) (.one (.int hg)) rfl

theorem mat_c (o : Option Nat) (room : Int) (q : List Cell) (root : Int) (k : Int) (t0 : Tree) (hr0 : Rep id q t0 root) (hs : tSize t0 ≤ 1000000) : FnG Try.prog 31 1 [.agg [.is (arV o), .int .i64 root], .int .i64 k] [arH o room q] (.tup [.agg (rPair (atR k t0).1), .bool (atR k t0).2]) (fun _ => [arH o room q]) := by
  refine FnG.mk Try.func31 rfl Try.ntmps31 rfl (by kernel_rfl) ?_
  intro B F0 a w F hB hG hS
  refine wp_seq ?_
  refine region_seq hS (by kernel_rfl)
    (cF rfl (o_boxA 101 (.conv .t .agg) (by kernel_rfl)) r1 trivial
    (cF rfl (o_alloc (zs := [.int .i64 0, .int .i64 0]) 102 (by kernel_rfl)) trivial trivial
    (cF rfl (o_assign .cb (by rfl)) trivial trivial
    Chain.nil)))
    (by kernel_rfl) (by rw [hB]; kernel_rfl) ?_
  clear hS; intro a w F hS
  replace hS := hS.sub
  obtain ⟨F, hS⟩ := hS.norm [(1, _), (2, _), (4, _), (5, _)] [(0, _), (1, _), (101, _), (102, _)] r4 r4
  try dsimp only [RS.sub, SF.sub, CF.sub, csub, Anc.sub, List.map, zCF, rCell, rPair] at hS
  generalize Act.tau a 2 = v2 at hS
  generalize Act.tau a 4 = v4 at hS
  refine then_n ?_
  refine wp_seq ?_
  refine wp_seq ?_
  refine region_seq hS (by kernel_rfl)
    (cF rfl (o_move .t (by rfl)) r1 trivial
    (cF rfl (o_lss .t (.ci (by kernel_rfl))) r1 trivial
    (cF rfl (o_move .t (by rfl)) r1 trivial
    (Chain.cons (Cert.cond rfl rfl (fun h => o_move .t (by rfl))) r2 trivial
    (Chain.cons (Cert.cond rfl rfl (fun h => o_load (ag := true) (sz := 2) 101 .is (by kernel_rfl) (by kernel_rfl) (by kernel_rfl) (by rfl))) r2 r1
    (Chain.cons (Cert.condR rfl rfl (by rfl) (fun h => o_callG1 1 (mlen_c o room q root) Try.func30 rfl (by kernel_rfl) (Args.one (.pagg (.w h))))) r2 r1
    (Chain.cons (Cert.cond rfl rfl (fun h => o_geq (.w h) (.w h))) r3 trivial
    (cF rfl (o_or2 .t .t) r2 trivial
    Chain.nil))))))))
    (by kernel_rfl) (by rw [hB]; kernel_rfl) ?_
  clear hS; intro a w F hS
  obtain ⟨F, hS⟩ := hS.norm [(1, _), (2, _), (4, _), (5, _), (16, _)] [(0, _), (1, _), (101, _), (102, _)] r5 r4
  try dsimp only [List.map, List.drop_succ_cons, List.drop_zero, List.drop_nil, List.take_succ_cons, List.take_zero, List.take_nil, ldSF, rCell, rPair] at hS
  refine then_n ?_
  refine cond_b hS rfl (fun hc0 => ?_) (fun hc0 => ?_)
  ·skip
   have hkb : ¬ (0 ≤ k ∧ k < tSize t0) := by rw [← hr0.size]; simp at hc0; omega
   have hg : atR k t0 = (default, false) := if_neg hkb
   refine wp_seq ?_
   refine region_seq hS (by kernel_rfl)
     (cF rfl (o_build (r := []) (zs := [.int .i64 0, .int .i64 0]) (pl := [(0, 1), (1, 1)]) (by kernel_rfl) (by kernel_rfl) .nil (by rfl)) trivial trivial
     (cF rfl (o_storeA (sz := 2) 102 .is .t (by kernel_rfl) (by kernel_rfl) (by kernel_rfl)) r2 r1
     (cF rfl (o_assign .cb (by rfl)) trivial trivial
     Chain.nil)))
     (by kernel_rfl) (by rw [hB]; kernel_rfl) ?_
   clear hS; intro a w F hS
   obtain ⟨F, hS⟩ := hS.norm [(1, _), (2, _), (4, _), (5, _)] [(0, _), (1, _), (101, _), (102, _)] r4 r4
   try dsimp only [List.map, stCells, List.length_cons, List.length_nil, Nat.reduceAdd, List.drop_succ_cons, List.drop_zero, List.drop_nil, List.take_succ_cons, List.take_zero, List.take_nil, List.cons_append, List.nil_append, zCF, rCell, rPair] at hS
   refine then_n ?_
   refine wp_ret ?_
   refine then_r ?_
   refine ret_G1 hG hS rfl (.cell (n := 102) (ag := true) (sz := 2) rfl .is rfl (by kernel_rfl) (by kernel_rfl) (by kernel_rfl) (.tmp rfl .nil)) (.two (.aggU rfl (by rw [hg]; rfl)) (.bool (by rw [hg]))) rfl
  ·skip
   have hkb : 0 ≤ k ∧ k < tSize t0 := by rw [← hr0.size]; simp at hc0; omega
   have hg0 : atR k t0 = (atT k t0, true) := if_pos hkb
   refine wp_skip ?_
   refine then_n ?_
   refine wp_seq ?_
   refine region_seq hS (by kernel_rfl)
     (cF rfl (o_fieldAddr (off := 1) 101 .is (by kernel_rfl) (by rfl)) r1 r1
     (cF rfl (o_load (ag := false) (sz := 1) 101 .adr (by kernel_rfl) (by kernel_rfl) (by kernel_rfl) (by rfl)) r1 r1
     (cF rfl (o_assign .t (by rfl)) r1 trivial
     Chain.nil)))
     (by kernel_rfl) (by rw [hB]; kernel_rfl) ?_
   clear hS; intro a w F hS
   obtain ⟨F, hS⟩ := hS.norm [(1, _), (2, _), (4, _), (5, _), (6, _)] [(0, _), (1, _), (101, _), (102, _)] r5 r4
   try dsimp only [List.map, List.drop_succ_cons, List.drop_zero, List.drop_nil, List.take_succ_cons, List.take_zero, List.take_nil, ldSF, rCell, rPair] at hS
   refine then_n ?_
   refine wp_block ?_
   refine loop_keep (σ := Int × Int × Tree) [2, 4, 5] [0, 1, 101, 102] (fun s => [(6, .pv (.int .i64 s.1)), (1, .pv (.int .i64 s.2.1))]) (fun s => []) (fun s => Rep id q s.2.2 s.1 ∧ 0 ≤ s.2.1 ∧ s.2.1 < tSize s.2.2 ∧ atT s.2.1 s.2.2 = atT k t0 ∧ tSize s.2.2 ≤ 1000000) (fun s => (tSize s.2.2).toNat) ((root), (k), (t0)) hS ⟨rfl, rfl, rfl, rfl, rfl, trivial⟩ ⟨rfl, rfl, rfl, rfl, trivial⟩ ⟨hr0, hkb.1, hkb.2, rfl, hs⟩ ?_
   clear hS; intro s a w F hC hS
   obtain ⟨i, j, t⟩ := s
   try dsimp only at hC
   obtain ⟨F, hS⟩ := hS.norm [(1, _), (2, _), (4, _), (5, _), (6, _)] [(0, _), (1, _), (101, _), (102, _)] r5 r4
   try dsimp only at hS
   obtain ⟨hr, hj, hj2, hk, hts⟩ := hC
   have hi : i ≠ 0 := fun hi => by rw [hi] at hr; rw [hr.zero] at hj2; have : tSize Tree.nil = 0 := rfl; omega
   obtain ⟨l, x, r, ht⟩ := hr.node (show i ≠ 0 by omega)
   rw [ht] at hr hj2 hk hts
   have hkx := hr.2.2.2.1
   have e : tSize (.node l x r) = tSize l + tSize r + 1 := rfl
   have := tSize_nn l
   have := tSize_nn r
   have hls := hr.2.1.size
   refine wp_block ?_
   refine wp_seq ?_
   refine region_seq hS (by kernel_rfl)
     (cF rfl (o_load (ag := true) (sz := 2) 101 .is (by kernel_rfl) (by kernel_rfl) (by kernel_rfl) (by rfl)) r1 r1
     (cF rfl (o_move .t (by rfl)) r1 trivial
     (cF rfl (o_callG1 1 (mcell_c o room q root i) Try.func62 rfl (by kernel_rfl) (Args.two (.pagg .t) .t)) r2 r1
     (cF rfl (o_alloc (zs := [.int .i64 0, .int .i64 0, .int .i64 0, .int .i64 0, .int .i64 0, .int .i64 0]) 103 (by kernel_rfl)) trivial trivial
     (cF rfl (o_storeA (sz := 6) 103 .same (.conv .t .agg) (by kernel_rfl) (by kernel_rfl) (by kernel_rfl)) r2 r1
     Chain.nil)))))
     (by kernel_rfl) (by rw [hB]; kernel_rfl) ?_
   clear hS; intro a w F hS
   replace hS := hS.sub
   obtain ⟨F, hS⟩ := hS.norm [(1, _), (2, _), (4, _), (5, _), (6, _), (7, _), (20, _), (21, _), (22, _)] [(0, _), (1, _), (101, _), (102, _), (103, _)] ⟨rfl, rfl, rfl, rfl, rfl, rfl, rfl, rfl, rfl, trivial⟩ r5
   try dsimp only [RS.sub, SF.sub, CF.sub, csub, Anc.sub, List.map, stCells, List.length_cons, List.length_nil, Nat.reduceAdd, List.drop_succ_cons, List.drop_zero, List.drop_nil, List.take_succ_cons, List.take_zero, List.take_nil, List.cons_append, List.nil_append, zCF, ldSF, rCell, rPair] at hS
   generalize Act.tau a 7 = v7 at hS
   refine then_n ?_
   refine wp_seq ?_
   refine region_seq hS (by kernel_rfl)
     (cF rfl (o_load (ag := true) (sz := 2) 101 .is (by kernel_rfl) (by kernel_rfl) (by kernel_rfl) (by rfl)) r1 r1
     (cF rfl (o_fieldAddr (off := 0) 103 .is (by kernel_rfl) (by rfl)) r1 r1
     (cF rfl (o_load (ag := false) (sz := 1) 103 .adr (by kernel_rfl) (by kernel_rfl) (by kernel_rfl) (by rfl)) r1 r1
     (cF rfl (o_callG1 1 (mcell_c o room q root (getC q i).left) Try.func62 rfl (by kernel_rfl) (Args.two (.pagg .t) .t)) r2 r1
     (cF rfl (o_field1 (ft := 3) (off := 4) (by kernel_rfl) (by kernel_rfl) .t rfl) r1 trivial
     (cF rfl (o_assign .t (by rfl)) r1 trivial
     Chain.nil))))))
     (by kernel_rfl) (by rw [hB]; kernel_rfl) ?_
   clear hS; intro a w F hS
   obtain ⟨F, hS⟩ := hS.norm [(1, _), (2, _), (4, _), (5, _), (6, _), (7, _), (8, _), (20, _), (21, _), (22, _), (23, _), (24, _), (25, _), (26, _), (27, _)] [(0, _), (1, _), (101, _), (102, _), (103, _)] ⟨rfl, rfl, rfl, rfl, rfl, rfl, rfl, rfl, rfl, rfl, rfl, rfl, rfl, rfl, rfl, trivial⟩ r5
   try dsimp only [List.map, List.drop_succ_cons, List.drop_zero, List.drop_nil, List.take_succ_cons, List.take_zero, List.take_nil, ldSF, rCell, rPair] at hS
   refine then_n ?_
   refine wp_block ?_
   refine wp_seq ?_
   refine region_seq hS (by kernel_rfl)
     (cF rfl (o_move .t (by rfl)) r1 trivial
     (cF rfl (o_move .t (by rfl)) r1 trivial
     (cF rfl (o_lss .t .t) r2 trivial
     (cF rfl (o_assign .t (by rfl)) r1 trivial
     Chain.nil))))
     (by kernel_rfl) (by rw [hB]; kernel_rfl) ?_
   clear hS; intro a w F hS
   obtain ⟨F, hS⟩ := hS.norm [(1, _), (2, _), (4, _), (5, _), (6, _), (7, _), (8, _), (20, _), (21, _), (22, _), (23, _), (24, _), (25, _), (26, _), (27, _), (34, _), (35, _), (36, _), (37, _)] [(0, _), (1, _), (101, _), (102, _), (103, _)] ⟨rfl, rfl, rfl, rfl, rfl, rfl, rfl, rfl, rfl, rfl, rfl, rfl, rfl, rfl, rfl, rfl, rfl, rfl, rfl, trivial⟩ r5
   try dsimp only [rCell, rPair] at hS
   refine then_n ?_
   refine cond_b hS rfl (fun hc1 => ?_) (fun hc1 => ?_)
   ·skip
    have h1 : j < tSize l := by rw [← hls]; simpa using hc1
    obtain ⟨t2, ht2⟩ : ∃ t2, t2 = l := ⟨_, rfl⟩
    have hC2 : Rep id q t2 (getC q i).left ∧ 0 ≤ j ∧ j < tSize t2 ∧ atT j t2 = atT k t0 ∧ tSize t2 ≤ 1000000 := ⟨by rw [ht2]; exact hr.2.1, hj, by rw [ht2]; exact h1, by rw [← hk, ht2]; exact (if_pos h1).symm, by rw [ht2]; omega⟩
    have hmu : (tSize t2).toNat < (tSize t).toNat := by rw [ht]; rw [ht2]; have := tSize_nn l; have := tSize_nn r; show _ < (tSize l + tSize r + 1).toNat; omega
    refine region_seq hS (by kernel_rfl)
      (cF rfl (o_fieldAddr (off := 0) 103 .is (by kernel_rfl) (by rfl)) r1 r1
      (cF rfl (o_load (ag := false) (sz := 1) 103 .adr (by kernel_rfl) (by kernel_rfl) (by kernel_rfl) (by rfl)) r1 r1
      (cF rfl (o_assign .t (by rfl)) r1 trivial
      Chain.nil)))
      (by kernel_rfl) (by rw [hB]; kernel_rfl) ?_
    clear hS; intro a w F hS
    obtain ⟨F, hS⟩ := hS.norm [(1, _), (2, _), (4, _), (5, _), (6, _), (7, _), (8, _), (20, _), (21, _), (22, _), (23, _), (24, _), (25, _), (26, _), (27, _), (34, _), (35, _), (36, _), (37, _), (38, _), (39, _)] [(0, _), (1, _), (101, _), (102, _), (103, _)] ⟨rfl, rfl, rfl, rfl, rfl, rfl, rfl, rfl, rfl, rfl, rfl, rfl, rfl, rfl, rfl, rfl, rfl, rfl, rfl, rfl, rfl, trivial⟩ r5
    try dsimp only [List.map, List.drop_succ_cons, List.drop_zero, List.drop_nil, List.take_succ_cons, List.take_zero, List.take_nil, ldSF, rCell, rPair] at hS
    refine block_n ?_
    refine block_n ?_
    refine then_n ?_
    obtain ⟨F, hS⟩ := hS.norm [(6, _), (1, _), (2, _), (4, _), (5, _)] [(0, _), (1, _), (101, _), (102, _)] ⟨rfl, rfl, rfl, rfl, rfl, trivial⟩ ⟨rfl, rfl, rfl, rfl, trivial⟩
    exact ⟨(_, _, (t2)), F, hC2, hS, hmu⟩
   ·skip
    have h1 : ¬ j < tSize l := by rw [← hls]; simpa using hc1
    refine wp_seq ?_
    refine region_seq hS (by kernel_rfl)
      (cF rfl (o_move .t (by rfl)) r1 trivial
      (cF rfl (o_move .t (by rfl)) r1 trivial
      (cF rfl (o_eql .t .t) r2 trivial
      (cF rfl (o_assign .t (by rfl)) r1 trivial
      Chain.nil))))
      (by kernel_rfl) (by rw [hB]; kernel_rfl) ?_
    clear hS; intro a w F hS
    obtain ⟨F, hS⟩ := hS.norm [(1, _), (2, _), (4, _), (5, _), (6, _), (7, _), (8, _), (20, _), (21, _), (22, _), (23, _), (24, _), (25, _), (26, _), (27, _), (34, _), (35, _), (36, _), (37, _), (40, _), (41, _), (42, _), (43, _)] [(0, _), (1, _), (101, _), (102, _), (103, _)] ⟨rfl, rfl, rfl, rfl, rfl, rfl, rfl, rfl, rfl, rfl, rfl, rfl, rfl, rfl, rfl, rfl, rfl, rfl, rfl, rfl, rfl, rfl, rfl, trivial⟩ r5
    try dsimp only [rCell, rPair] at hS
    refine then_n ?_
    refine cond_b hS rfl (fun hc2 => ?_) (fun hc2 => ?_)
    ·skip
     have h2 : j = tSize l := by rw [← hls]; simpa using hc2
     have hx : x = ⟨(getC q i).key, (getC q i).val⟩ := by rw [hkx, hr.2.2.2.2.2.1]
     have hg : atR k t0 = (⟨(getC q i).key, (getC q i).val⟩, true) := by rw [hg0, ← hk, ← hx]; unfold atT; rw [if_neg h1, if_pos h2]
     refine wp_seq ?_
     refine region_seq hS (by kernel_rfl)
       (cF rfl (o_fieldAddr (off := 2) 103 .is (by kernel_rfl) (by rfl)) r1 r1
       (cF rfl (o_load (ag := false) (sz := 1) 103 .adr (by kernel_rfl) (by kernel_rfl) (by kernel_rfl) (by rfl)) r1 r1
       (cF rfl (o_fieldAddr (off := 3) 103 .is (by kernel_rfl) (by rfl)) r1 r1
       (cF rfl (o_load (ag := false) (sz := 1) 103 .adr (by kernel_rfl) (by kernel_rfl) (by kernel_rfl) (by rfl)) r1 r1
       (cF rfl (o_build (r := [(0, .tmp 45), (1, .tmp 47)]) (zs := [.int .i64 0, .int .i64 0]) (pl := [(0, 1), (1, 1)]) (by kernel_rfl) (by kernel_rfl) (.one rfl .t one_int (by kernel_rfl) (.one rfl .t one_int (by kernel_rfl) .nil)) (by rfl)) r2 trivial
       (cF rfl (o_storeA (sz := 2) 102 .is .t (by kernel_rfl) (by kernel_rfl) (by kernel_rfl)) r2 r1
       (cF rfl (o_assign .cb (by rfl)) trivial trivial
       Chain.nil)))))))
       (by kernel_rfl) (by rw [hB]; kernel_rfl) ?_
     clear hS; intro a w F hS
     obtain ⟨F, hS⟩ := hS.norm [(1, _), (2, _), (4, _), (5, _), (6, _), (7, _), (8, _), (20, _), (21, _), (22, _), (23, _), (24, _), (25, _), (26, _), (27, _), (34, _), (35, _), (36, _), (37, _), (40, _), (41, _), (42, _), (43, _), (44, _), (45, _), (46, _), (47, _), (48, _)] [(0, _), (1, _), (101, _), (102, _), (103, _)] ⟨rfl, rfl, rfl, rfl, rfl, rfl, rfl, rfl, rfl, rfl, rfl, rfl, rfl, rfl, rfl, rfl, rfl, rfl, rfl, rfl, rfl, rfl, rfl, rfl, rfl, rfl, rfl, rfl, trivial⟩ r5
     try dsimp only [List.map, stCells, List.length_cons, List.length_nil, Nat.reduceAdd, List.drop_succ_cons, List.drop_zero, List.drop_nil, List.take_succ_cons, List.take_zero, List.take_nil, List.cons_append, List.nil_append, zCF, ldSF, rCell, rPair] at hS
     refine then_n ?_
     refine wp_ret ?_
     refine block_r ?_
     refine block_r ?_
     refine then_r ?_
     refine block_r ?_
     refine ret_G1 hG hS rfl (.cell (n := 102) (ag := true) (sz := 2) rfl .is rfl (by kernel_rfl) (by kernel_rfl) (by kernel_rfl) (.tmp rfl .nil)) (.two (.aggU rfl (by rw [hg]; rfl)) (.bool (by rw [hg]))) rfl
    ·skip
     have h2 : ¬ j = tSize l := by rw [← hls]; simpa using hc2
     obtain ⟨t2, ht2⟩ : ∃ t2, t2 = r := ⟨_, rfl⟩
     have hC2 : Rep id q t2 (getC q i).right ∧ 0 ≤ j - tSize l - 1 ∧ j - tSize l - 1 < tSize t2 ∧ atT (j - tSize l - 1) t2 = atT k t0 ∧ tSize t2 ≤ 1000000 := ⟨by rw [ht2]; exact hr.2.2.1, by omega, by rw [ht2]; omega, by rw [← hk, ht2]; exact ((if_neg h1).trans (if_neg h2)).symm, by rw [ht2]; omega⟩
     have hmu : (tSize t2).toNat < (tSize t).toNat := by rw [ht]; rw [ht2]; have := tSize_nn l; have := tSize_nn r; show _ < (tSize l + tSize r + 1).toNat; omega
     refine region_any (by kernel_rfl) hS (by kernel_rfl)
       (cF rfl (o_move .t (by rfl)) r1 trivial
       (cF rfl (o_move .t (by rfl)) r1 trivial
       (cF rfl (o_sub .t .t) r2 trivial
       (cF rfl (o_sub .t (.ci (by kernel_rfl))) r1 trivial
       (cF rfl (o_fieldAddr (off := 1) 103 .is (by kernel_rfl) (by rfl)) r1 r1
       (cF rfl (o_load (ag := false) (sz := 1) 103 .adr (by kernel_rfl) (by kernel_rfl) (by kernel_rfl) (by rfl)) r1 r1
       (cF rfl (o_assign .t (by rfl)) r1 trivial
       (cF rfl (o_assign .t (by rfl)) r1 trivial
       Chain.nil))))))))
       (by kernel_rfl) (by rw [hB]; kernel_rfl) ?_
     clear hS; intro a w F hS
     obtain ⟨F, hS⟩ := hS.norm [(1, _), (2, _), (4, _), (5, _), (6, _), (7, _), (8, _), (20, _), (21, _), (22, _), (23, _), (24, _), (25, _), (26, _), (27, _), (28, _), (29, _), (30, _), (31, _), (32, _), (33, _), (34, _), (35, _), (36, _), (37, _), (40, _), (41, _), (42, _), (43, _)] [(0, _), (1, _), (101, _), (102, _), (103, _)] ⟨rfl, rfl, rfl, rfl, rfl, rfl, rfl, rfl, rfl, rfl, rfl, rfl, rfl, rfl, rfl, rfl, rfl, rfl, rfl, rfl, rfl, rfl, rfl, rfl, rfl, rfl, rfl, rfl, rfl, trivial⟩ r5
     try dsimp only [List.map, List.drop_succ_cons, List.drop_zero, List.drop_nil, List.take_succ_cons, List.take_zero, List.take_nil, ldSF, rCell, rPair] at hS
     rw [hls, wrap_i64 (x := j - tSize l) (by omega), wrap_i64 (by omega)] at hS
     refine block_n ?_
     refine block_n ?_
     refine then_n ?_
     obtain ⟨F, hS⟩ := hS.norm [(6, _), (1, _), (2, _), (4, _), (5, _)] [(0, _), (1, _), (101, _), (102, _)] ⟨rfl, rfl, rfl, rfl, rfl, trivial⟩ ⟨rfl, rfl, rfl, rfl, trivial⟩
     exact ⟨(_, _, (t2)), F, hC2, hS, hmu⟩

end Go.Proofs.Ytdfpljecogijaaa
