/- Sequences: lives. No condition beyond those that each theorem says. -/
import Derived.Test.YtdfpljecogijaaaSq5
import Derived.Test.YtdfpljecogijaaaAvC
namespace Go.Proofs.Ytdfpljecogijaaa
open Go Go.Gm
set_option linter.unusedVariables false
set_option linter.unusedSimpArgs false
set_option maxHeartbeats 4000000
set_option maxRecDepth 8000


def dc1 : Cell := ⟨0, 0, 0, 7, 1, 1⟩
def dc2 : Cell := ⟨0, 0, 0, 8, 1, 1⟩
def dc3 : Cell := ⟨2, 0, 0, 7, 2, 2⟩
def dc4 : Cell := ⟨2, 0, 0, 6, 2, 2⟩
def sq3 : List Cell := [dc1, dc2, dc3]
def sq4 : List Cell := [dc1, dc2, dc3, dc4]
def sq5 : List Cell := [dc1, dc2, dc3, dc4, dc1]
def su : List Cell := [dc2, ⟨1, 0, 0, 7, 2, 2⟩]
def st1 : Tree := .node .nil ⟨0, 7⟩ .nil
def st8 : Tree := .node .nil ⟨0, 8⟩ .nil
def st2 : Tree := .node st8 ⟨0, 7⟩ .nil
def st3 : Tree := .node st8 ⟨0, 6⟩ .nil
theorem s_ins1 : qInsM 40 [] 7 .nil 0 0 = ([dc1], 0, 1) := by decide +kernel
theorem s_ins2 : qInsM 40 [dc1] 8 st1 1 0 = (sq3, 0, 3) := by decide +kernel
theorem s_ins3 : qInsM 40 sq3 9 st2 3 3 = (sq3, 1, 0) := by decide +kernel
theorem s_set1 : qSetM 40 sq3 6 st2 3 1 = (sq4, 0, 4) := by decide +kernel
theorem s_set2 : qSetM 40 sq4 6 st2 3 2 = (sq4, 1, 0) := by decide +kernel
theorem s_del1 : qDelM 40 sq4 st2 3 (-1) = (sq4, 1, 0) := by decide +kernel
theorem s_del2 : qDelM 40 sq4 st2 3 0 = (sq5, 0, 5) := by decide +kernel
theorem s_mv1 : qOfM 2 [] [8, 7] = (su, 0, 2) := by decide +kernel
theorem s_mv2 : qOfM 1 [] [8, 7] = ([], 2, 0) := by decide +kernel
theorem s_ins0 : qInsM 0 [] 1 .nil 0 0 = ([], 2, 0) := by decide +kernel
theorem s_leaf {q : List Cell} {i v : Int} (h0 : 1 ≤ i ∧ i ≤ q.length) (h : getC q i = ⟨0, 0, 0, v, 1, 1⟩) : Rep kz q (.node .nil ⟨0, v⟩ .nil) i := ⟨by omega, by rw [h]; rfl, by rw [h]; rfl, by rw [h], rfl, by rw [h], by rw [h]; rfl, by rw [h]; rfl⟩
theorem s_two {q : List Cell} {i v l lv : Int} (h0 : 1 ≤ i ∧ i ≤ q.length) (h : getC q i = ⟨l, 0, 0, v, 2, 2⟩) (hl : Rep kz q (.node .nil ⟨0, lv⟩ .nil) l) : Rep kz q (.node (.node .nil ⟨0, lv⟩ .nil) ⟨0, v⟩ .nil) i := ⟨by omega, by rw [h]; exact hl, by rw [h]; rfl, by rw [h], rfl, by rw [h], by rw [h]; rfl, by rw [h]; rfl⟩
theorem s_rep1 : Rep kz [dc1] st1 1 := s_leaf (by decide) (by decide)
theorem s_rep3 : Rep kz sq3 st2 3 := s_two (by decide) (by decide) (s_leaf (i := 2) (by decide) (by decide))
theorem s_rep4 : Rep kz sq4 st2 3 := s_two (by decide) (by decide) (s_leaf (i := 2) (by decide) (by decide))
theorem s_rep5 : Rep kz sq5 st2 3 := s_two (by decide) (by decide) (s_leaf (i := 2) (by decide) (by decide))
theorem s_repz : Rep kz sq5 st3 4 := s_two (by decide) (by decide) (s_leaf (i := 2) (by decide) (by decide))
theorem s_repu : Rep kz su st2 2 := s_two (by decide) (by decide) (s_leaf (i := 1) (by decide) (by decide))
abbrev lS (o : Option Nat) (root : Int) : PV := .agg [.is (arV o), .int .i64 root]
section
variable (b : Nat)
theorem kIns1 : FnG Try.prog 15 1 [lS (some b) 0, .int .i64 0, .int .i64 7] [arH (some b) 40 []] (.tup [lS (some b) 1, .int .i64 0]) (fun _ => [arH (some b) 40 [dc1]]) := by
  have := sINS_c (some b) 40 [] 0 .nil rfl (by decide) 0 7
  rw [s_ins1] at this; exact this
theorem kIns2 : FnG Try.prog 15 1 [lS (some b) 1, .int .i64 0, .int .i64 8] [arH (some b) 40 [dc1]] (.tup [lS (some b) 3, .int .i64 0]) (fun _ => [arH (some b) 40 sq3]) := by
  have := sINS_c (some b) 40 [dc1] 1 st1 s_rep1 (by decide) 0 8
  rw [s_ins2] at this; exact this
theorem kIns3 : FnG Try.prog 15 1 [lS (some b) 3, .int .i64 3, .int .i64 9] [arH (some b) 40 sq3] (.tup [lS (some b) 0, .int .i64 1]) (fun _ => [arH (some b) 40 sq3]) := by
  have := sINS_c (some b) 40 sq3 3 st2 s_rep3 (by decide) 3 9
  rw [s_ins3] at this; exact this
theorem kIns0 : FnG Try.prog 15 1 [lS none 0, .int .i64 0, .int .i64 1] [arH none 0 []] (.tup [lS none 0, .int .i64 2]) (fun _ => [arH none 0 []]) := by
  have := sINS_c none 0 [] 0 .nil rfl (by decide) 0 1
  rw [s_ins0] at this; exact this
theorem kSet1 : FnG Try.prog 33 1 [lS (some b) 3, .int .i64 1, .int .i64 6] [arH (some b) 40 sq3] (.tup [lS (some b) 4, .int .i64 0]) (fun _ => [arH (some b) 40 sq4]) := by
  have := sSET_c (some b) 40 sq3 3 st2 s_rep3 (by decide) 1 6
  rw [s_set1] at this; exact this
theorem kSet2 : FnG Try.prog 33 1 [lS (some b) 3, .int .i64 2, .int .i64 6] [arH (some b) 40 sq4] (.tup [lS (some b) 0, .int .i64 1]) (fun _ => [arH (some b) 40 sq4]) := by
  have := sSET_c (some b) 40 sq4 3 st2 s_rep4 (by decide) 2 6
  rw [s_set2] at this; exact this
theorem kDel1 : FnG Try.prog 16 1 [lS (some b) 3, .int .i64 (-1)] [arH (some b) 40 sq4] (.tup [lS (some b) 0, .int .i64 1]) (fun _ => [arH (some b) 40 sq4]) := by
  have := sDEL_c (some b) 40 sq4 3 st2 s_rep4 (by decide) (-1)
  rw [s_del1] at this; exact this
theorem kDel2 : FnG Try.prog 16 1 [lS (some b) 3, .int .i64 0] [arH (some b) 40 sq4] (.tup [lS (some b) 5, .int .i64 0]) (fun _ => [arH (some b) 40 sq5]) := by
  have := sDEL_c (some b) 40 sq4 3 st2 s_rep4 (by decide) 0
  rw [s_del2] at this; exact this
theorem kAt1 : FnG Try.prog 34 1 [lS (some b) 3, .int .i64 1] [arH (some b) 40 sq5] (.tup [.int .i64 7, .bool true]) (fun _ => [arH (some b) 40 sq5]) := sAt_c (some b) 40 sq5 3 1 st2 s_rep5 (by decide)
theorem kAt2 : FnG Try.prog 34 1 [lS (some b) 3, .int .i64 2] [arH (some b) 40 sq5] (.tup [.int .i64 0, .bool false]) (fun _ => [arH (some b) 40 sq5]) := sAt_c (some b) 40 sq5 3 2 st2 s_rep5 (by decide)
theorem kMv (rm : Int) (u : List Cell) (r w : Int) (h : qOfM rm [] [8, 7] = (u, w, r)) (v : Value) : FnG Try.prog 35 2 [lS (some b) 3, .is v] [arH (some b) 40 sq5, HP.named (fun b => arV (some b)) (fun b => arH (some b) rm []) v] (.tup [.agg [.is v, .int .i64 r], .int .i64 w]) (fun _ => [arH (some b) 40 sq5, HP.named (fun b => arV (some b)) (fun b => arH (some b) rm u) v]) :=
  FnG.named2 (g := fun b => arV (some b)) (avs := fun v => [lS (some b) 3, .is v]) (q := fun v => .tup [.agg [.is v, .int .i64 r], .int .i64 w]) (fun b2 => by
    have := sMove_c (some b) 40 sq5 3 st2 s_rep5 (by decide) (some b2) rm []
    rw [show tVals st2 = [8, 7] from rfl, h] at this; exact this) v
theorem kLenY : FnG Try.prog 14 1 [lS (some b) 3] [arH (some b) 40 sq5] (.int .i64 2) (fun _ => [arH (some b) 40 sq5]) := slen_c (some b) 40 sq5 3 st2 s_rep5
theorem kLen0 : FnG Try.prog 14 1 [lS (some b) 0] [arH (some b) 40 sq5] (.int .i64 0) (fun _ => [arH (some b) 40 sq5]) := slen_c (some b) 40 sq5 0 .nil rfl
theorem kHigh0 : FnG Try.prog 19 1 [lS (some b) 0] [arH (some b) 40 sq5] (.int .i64 0) (fun _ => [arH (some b) 40 sq5]) := shigh_c (some b) 40 sq5 0 .nil rfl
theorem kIdx (v r : Int) (h : idxL v [8, 7] = r) : FnG Try.prog 36 1 [lS (some b) 3, .int .i64 v] [arH (some b) 40 sq5] (.int .i64 r) (fun _ => [arH (some b) 40 sq5]) := by
  have := sIndex_c (some b) 40 sq5 3 v st2 s_rep5 (by decide)
  rwa [show tVals st2 = [8, 7] from rfl, h] at this
theorem kListZ : FnG Try.prog 18 1 [lS (some b) 4] [arH (some b) 40 sq5] (.sl rInt [8, 6]) (fun _ => [arH (some b) 40 sq5]) := sList_c (some b) 40 sq5 4 st3 s_repz (by decide)
theorem kListY : FnG Try.prog 18 1 [lS (some b) 3] [arH (some b) 40 sq5] (.sl rInt [8, 7]) (fun _ => [arH (some b) 40 sq5]) := sList_c (some b) 40 sq5 3 st2 s_rep5 (by decide)
theorem kListU : FnG Try.prog 18 1 [lS (some b) 2] [arH (some b) 2 su] (.sl rInt [8, 7]) (fun _ => [arH (some b) 2 su]) := sList_c (some b) 2 su 2 st2 s_repu (by decide)
end

theorem lives07_c  : FnP Try.prog 8 [] (.bool true) := by
  refine FnP.mk Try.func8 rfl Try.ntmps8 rfl ?_
  intro B a w F hB hfr hS
  refine wp_seq ?_
  refine region_seq hS (by kernel_rfl)
    (cF rfl (o_assign .cb (by rfl)) trivial trivial
    Chain.nil)
    (by kernel_rfl) (by rw [hB]; kernel_rfl) ?_
  clear hS; intro a w F hS
  obtain ⟨F, hS⟩ := hS.norm [(0, _)] [(0, _)] r1 r1
  try dsimp only [rInt] at hS
  refine then_n ?_
  refine wp_seq ?_
  replace hS := hS.fresh 101 rfl
  refine region_seq hS (by kernel_rfl)
    (cF rfl (o_callN 101 (aNew_c 40 40 (by decide)) Try.func9 rfl (by kernel_rfl) (Args.one (.ci (by kernel_rfl))) PV.ptr_one) trivial r1
    (cF rfl (o_assign .t (by rfl)) r1 trivial
    Chain.nil))
    (by kernel_rfl) (by rw [hB]; kernel_rfl) ?_
  clear hS; intro a w F hS
  replace hS := hS.sub
  obtain ⟨F, hS⟩ := hS.norm [(0, _), (1, _)] [(0, _), (101, _)] r2 r2
  try dsimp only [RS.sub, SF.sub, CF.sub, csub, Anc.sub, List.map, rInt] at hS
  generalize Act.tau a 27 = v27 at hS
  obtain ⟨_, _, _, ho⟩ := hS.obGet 101 rfl
  obtain ⟨b, rfl⟩ := arNamed_ptr ho
  clear ho
  replace hS := hS.turn 101 rfl (r' := RS.hp (arH (some b) 40 [])) (fun _ _ _ _ h => arNamed_open h)
  obtain ⟨F, hS⟩ := hS.norm [(0, _), (1, _)] [(0, _), (101, _)] r2 r2
  refine then_n ?_
  refine wp_seq ?_
  refine wp_seq ?_
  refine region_seq hS (by kernel_rfl)
    (cF rfl (o_move .t (by rfl)) r1 trivial
    (cF rfl (o_nil_eql _ Try.underlying24 rfl .t) r1 trivial
    Chain.nil))
    (by kernel_rfl) (by rw [hB]; kernel_rfl) ?_
  clear hS; intro a w F hS
  obtain ⟨F, hS⟩ := hS.norm [(0, _), (1, _), (29, _)] [(0, _), (101, _)] r3 r2
  try dsimp only [rInt] at hS
  refine then_n ?_
  refine cond_b hS rfl (fun hc0 => ?_) (fun hc0 => ?_)
  ·skip
   simp at hc0
  ·skip
   refine wp_skip ?_
   refine then_n ?_
   refine wp_seq ?_
   refine region_seq hS (by kernel_rfl)
     (cF rfl (o_move .t (by rfl)) r1 trivial
     (cF rfl (o_callP (snew_c (some b)) Try.func10 rfl (by kernel_rfl) (Args.one .t)) r1 trivial
     (cF rfl (o_alloc (zs := [.pointer none, .int .i64 0]) 102 (by kernel_rfl)) trivial trivial
     (cF rfl (o_storeA (sz := 2) 102 .same (.conv .t .agg) (by kernel_rfl) (by kernel_rfl) (by kernel_rfl)) r2 r1
     Chain.nil))))
     (by kernel_rfl) (by rw [hB]; kernel_rfl) ?_
   clear hS; intro a w F hS
   replace hS := hS.sub
   obtain ⟨F, hS⟩ := hS.norm [(0, _), (2, _)] [(0, _), (101, _), (102, _)] r2 r3
   try dsimp only [RS.sub, SF.sub, CF.sub, csub, Anc.sub, List.map, stCells, List.length_cons, List.length_nil, Nat.reduceAdd, List.drop_succ_cons, List.drop_zero, List.drop_nil, List.take_succ_cons, List.take_zero, List.take_nil, List.cons_append, List.nil_append, zCF, rInt] at hS
   generalize Act.tau a 2 = v2 at hS
   refine then_n ?_
   refine wp_seq ?_
   refine region_seq hS (by kernel_rfl)
     (cF rfl (o_load (ag := true) (sz := 2) 102 .is (by kernel_rfl) (by kernel_rfl) (by kernel_rfl) (by rfl)) r1 r1
     (cF rfl (o_callG1 101 (kIns1 b) Try.func15 rfl (by kernel_rfl) (Args.three (.pagg .t) (.ci (by kernel_rfl)) (.ci (by kernel_rfl)))) r1 r1
     (cF rfl (o_move .t (by rfl)) r1 trivial
     (cF rfl (o_extract .t rfl) r1 trivial
     (cF rfl (o_extract .t rfl) r1 trivial
     (cF rfl (o_alloc (zs := [.pointer none, .int .i64 0]) 103 (by kernel_rfl)) trivial trivial
     (cF rfl (o_storeA (sz := 2) 103 .same (.conv .t .agg) (by kernel_rfl) (by kernel_rfl) (by kernel_rfl)) r2 r1
     (cF rfl (o_assign .t (by rfl)) r1 trivial
     Chain.nil))))))))
     (by kernel_rfl) (by rw [hB]; kernel_rfl) ?_
   clear hS; intro a w F hS
   replace hS := hS.sub
   obtain ⟨F, hS⟩ := hS.norm [(0, _), (2, _), (3, _), (4, _)] [(0, _), (101, _), (102, _), (103, _)] r4 r4
   try dsimp only [RS.sub, SF.sub, CF.sub, csub, Anc.sub, List.map, stCells, List.length_cons, List.length_nil, Nat.reduceAdd, List.drop_succ_cons, List.drop_zero, List.drop_nil, List.take_succ_cons, List.take_zero, List.take_nil, List.cons_append, List.nil_append, zCF, ldSF, rInt] at hS
   generalize Act.tau a 3 = v3 at hS
   refine then_n ?_
   refine wp_seq ?_
   refine region_seq hS (by kernel_rfl)
     (cF rfl (o_load (ag := true) (sz := 2) 103 .is (by kernel_rfl) (by kernel_rfl) (by kernel_rfl) (by rfl)) r1 r1
     (cF rfl (o_callG1 101 (kIns2 b) Try.func15 rfl (by kernel_rfl) (Args.three (.pagg .t) (.ci (by kernel_rfl)) (.ci (by kernel_rfl)))) r1 r1
     (cF rfl (o_move .t (by rfl)) r1 trivial
     (cF rfl (o_extract .t rfl) r1 trivial
     (cF rfl (o_extract .t rfl) r1 trivial
     (cF rfl (o_alloc (zs := [.pointer none, .int .i64 0]) 104 (by kernel_rfl)) trivial trivial
     (cF rfl (o_storeA (sz := 2) 104 .same (.conv .t .agg) (by kernel_rfl) (by kernel_rfl) (by kernel_rfl)) r2 r1
     (cF rfl (o_assign .t (by rfl)) r1 trivial
     Chain.nil))))))))
     (by kernel_rfl) (by rw [hB]; kernel_rfl) ?_
   clear hS; intro a w F hS
   replace hS := hS.sub
   obtain ⟨F, hS⟩ := hS.norm [(0, _), (2, _), (4, _), (5, _), (6, _)] [(0, _), (101, _), (102, _), (104, _)] r5 r4
   try dsimp only [RS.sub, SF.sub, CF.sub, csub, Anc.sub, List.map, stCells, List.length_cons, List.length_nil, Nat.reduceAdd, List.drop_succ_cons, List.drop_zero, List.drop_nil, List.take_succ_cons, List.take_zero, List.take_nil, List.cons_append, List.nil_append, zCF, ldSF, rInt] at hS
   generalize Act.tau a 5 = v5 at hS
   refine then_n ?_
   refine wp_seq ?_
   refine region_seq hS (by kernel_rfl)
     (cF rfl (o_load (ag := true) (sz := 2) 104 .is (by kernel_rfl) (by kernel_rfl) (by kernel_rfl) (by rfl)) r1 r1
     (cF rfl (o_callG1 101 (kIns3 b) Try.func15 rfl (by kernel_rfl) (Args.three (.pagg .t) (.ci (by kernel_rfl)) (.ci (by kernel_rfl)))) r1 r1
     (cF rfl (o_move .t (by rfl)) r1 trivial
     (cF rfl (o_extract .t rfl) r1 trivial
     (cF rfl (o_extract .t rfl) r1 trivial
     (cF rfl (o_alloc (zs := [.pointer none, .int .i64 0]) 105 (by kernel_rfl)) trivial trivial
     (cF rfl (o_storeA (sz := 2) 105 .same (.conv .t .agg) (by kernel_rfl) (by kernel_rfl) (by kernel_rfl)) r2 r1
     (cF rfl (o_assign .t (by rfl)) r1 trivial
     Chain.nil))))))))
     (by kernel_rfl) (by rw [hB]; kernel_rfl) ?_
   clear hS; intro a w F hS
   replace hS := hS.sub
   obtain ⟨F, hS⟩ := hS.norm [(0, _), (2, _), (4, _), (5, _), (6, _), (8, _)] [(0, _), (101, _), (102, _), (104, _)] r6 r4
   try dsimp only [RS.sub, SF.sub, CF.sub, csub, Anc.sub, List.map, stCells, List.length_cons, List.length_nil, Nat.reduceAdd, List.drop_succ_cons, List.drop_zero, List.drop_nil, List.take_succ_cons, List.take_zero, List.take_nil, List.cons_append, List.nil_append, zCF, ldSF, rInt] at hS
   generalize Act.tau a 7 = v7 at hS
   refine then_n ?_
   refine wp_seq ?_
   refine region_seq hS (by kernel_rfl)
     (cF rfl (o_load (ag := true) (sz := 2) 104 .is (by kernel_rfl) (by kernel_rfl) (by kernel_rfl) (by rfl)) r1 r1
     (cF rfl (o_callG1 101 (kSet1 b) Try.func33 rfl (by kernel_rfl) (Args.three (.pagg .t) (.ci (by kernel_rfl)) (.ci (by kernel_rfl)))) r1 r1
     (cF rfl (o_move .t (by rfl)) r1 trivial
     (cF rfl (o_extract .t rfl) r1 trivial
     (cF rfl (o_extract .t rfl) r1 trivial
     (cF rfl (o_alloc (zs := [.pointer none, .int .i64 0]) 106 (by kernel_rfl)) trivial trivial
     (cF rfl (o_storeA (sz := 2) 106 .same (.conv .t .agg) (by kernel_rfl) (by kernel_rfl) (by kernel_rfl)) r2 r1
     (cF rfl (o_assign .t (by rfl)) r1 trivial
     Chain.nil))))))))
     (by kernel_rfl) (by rw [hB]; kernel_rfl) ?_
   clear hS; intro a w F hS
   replace hS := hS.sub
   obtain ⟨F, hS⟩ := hS.norm [(0, _), (2, _), (4, _), (5, _), (6, _), (8, _), (9, _), (10, _)] [(0, _), (101, _), (102, _), (104, _), (106, _)] r8 r5
   try dsimp only [RS.sub, SF.sub, CF.sub, csub, Anc.sub, List.map, stCells, List.length_cons, List.length_nil, Nat.reduceAdd, List.drop_succ_cons, List.drop_zero, List.drop_nil, List.take_succ_cons, List.take_zero, List.take_nil, List.cons_append, List.nil_append, zCF, ldSF, rInt] at hS
   generalize Act.tau a 9 = v9 at hS
   refine then_n ?_
   refine wp_seq ?_
   refine region_seq hS (by kernel_rfl)
     (cF rfl (o_load (ag := true) (sz := 2) 104 .is (by kernel_rfl) (by kernel_rfl) (by kernel_rfl) (by rfl)) r1 r1
     (cF rfl (o_callG1 101 (kSet2 b) Try.func33 rfl (by kernel_rfl) (Args.three (.pagg .t) (.ci (by kernel_rfl)) (.ci (by kernel_rfl)))) r1 r1
     (cF rfl (o_move .t (by rfl)) r1 trivial
     (cF rfl (o_extract .t rfl) r1 trivial
     (cF rfl (o_extract .t rfl) r1 trivial
     (cF rfl (o_alloc (zs := [.pointer none, .int .i64 0]) 107 (by kernel_rfl)) trivial trivial
     (cF rfl (o_storeA (sz := 2) 107 .same (.conv .t .agg) (by kernel_rfl) (by kernel_rfl) (by kernel_rfl)) r2 r1
     (cF rfl (o_assign .t (by rfl)) r1 trivial
     Chain.nil))))))))
     (by kernel_rfl) (by rw [hB]; kernel_rfl) ?_
   clear hS; intro a w F hS
   replace hS := hS.sub
   obtain ⟨F, hS⟩ := hS.norm [(0, _), (2, _), (4, _), (5, _), (6, _), (8, _), (9, _), (10, _), (12, _)] [(0, _), (101, _), (102, _), (104, _), (106, _)] ⟨rfl, rfl, rfl, rfl, rfl, rfl, rfl, rfl, rfl, trivial⟩ r5
   try dsimp only [RS.sub, SF.sub, CF.sub, csub, Anc.sub, List.map, stCells, List.length_cons, List.length_nil, Nat.reduceAdd, List.drop_succ_cons, List.drop_zero, List.drop_nil, List.take_succ_cons, List.take_zero, List.take_nil, List.cons_append, List.nil_append, zCF, ldSF, rInt] at hS
   generalize Act.tau a 11 = v11 at hS
   refine then_n ?_
   refine wp_seq ?_
   refine region_seq hS (by kernel_rfl)
     (cF rfl (o_load (ag := true) (sz := 2) 104 .is (by kernel_rfl) (by kernel_rfl) (by kernel_rfl) (by rfl)) r1 r1
     (cF rfl (o_callG1 101 (kDel1 b) Try.func16 rfl (by kernel_rfl) (Args.two (.pagg .t) (.ci (by kernel_rfl)))) r1 r1
     (cF rfl (o_move .t (by rfl)) r1 trivial
     (cF rfl (o_extract .t rfl) r1 trivial
     (cF rfl (o_extract .t rfl) r1 trivial
     (cF rfl (o_alloc (zs := [.pointer none, .int .i64 0]) 108 (by kernel_rfl)) trivial trivial
     (cF rfl (o_storeA (sz := 2) 108 .same (.conv .t .agg) (by kernel_rfl) (by kernel_rfl) (by kernel_rfl)) r2 r1
     (cF rfl (o_assign .t (by rfl)) r1 trivial
     Chain.nil))))))))
     (by kernel_rfl) (by rw [hB]; kernel_rfl) ?_
   clear hS; intro a w F hS
   replace hS := hS.sub
   obtain ⟨F, hS⟩ := hS.norm [(0, _), (2, _), (4, _), (5, _), (6, _), (8, _), (9, _), (10, _), (12, _), (14, _)] [(0, _), (101, _), (102, _), (104, _), (106, _)] ⟨rfl, rfl, rfl, rfl, rfl, rfl, rfl, rfl, rfl, rfl, trivial⟩ r5
   try dsimp only [RS.sub, SF.sub, CF.sub, csub, Anc.sub, List.map, stCells, List.length_cons, List.length_nil, Nat.reduceAdd, List.drop_succ_cons, List.drop_zero, List.drop_nil, List.take_succ_cons, List.take_zero, List.take_nil, List.cons_append, List.nil_append, zCF, ldSF, rInt] at hS
   generalize Act.tau a 13 = v13 at hS
   refine then_n ?_
   refine wp_seq ?_
   refine region_seq hS (by kernel_rfl)
     (cF rfl (o_load (ag := true) (sz := 2) 104 .is (by kernel_rfl) (by kernel_rfl) (by kernel_rfl) (by rfl)) r1 r1
     (cF rfl (o_callG1 101 (kDel2 b) Try.func16 rfl (by kernel_rfl) (Args.two (.pagg .t) (.ci (by kernel_rfl)))) r1 r1
     (cF rfl (o_move .t (by rfl)) r1 trivial
     (cF rfl (o_extract .t rfl) r1 trivial
     (cF rfl (o_extract .t rfl) r1 trivial
     (cF rfl (o_alloc (zs := [.pointer none, .int .i64 0]) 109 (by kernel_rfl)) trivial trivial
     (cF rfl (o_storeA (sz := 2) 109 .same (.conv .t .agg) (by kernel_rfl) (by kernel_rfl) (by kernel_rfl)) r2 r1
     (cF rfl (o_assign .t (by rfl)) r1 trivial
     Chain.nil))))))))
     (by kernel_rfl) (by rw [hB]; kernel_rfl) ?_
   clear hS; intro a w F hS
   replace hS := hS.sub
   obtain ⟨F, hS⟩ := hS.norm [(0, _), (2, _), (4, _), (5, _), (6, _), (8, _), (9, _), (10, _), (12, _), (14, _), (16, _)] [(0, _), (101, _), (102, _), (104, _), (106, _)] ⟨rfl, rfl, rfl, rfl, rfl, rfl, rfl, rfl, rfl, rfl, rfl, trivial⟩ r5
   try dsimp only [RS.sub, SF.sub, CF.sub, csub, Anc.sub, List.map, stCells, List.length_cons, List.length_nil, Nat.reduceAdd, List.drop_succ_cons, List.drop_zero, List.drop_nil, List.take_succ_cons, List.take_zero, List.take_nil, List.cons_append, List.nil_append, zCF, ldSF, rInt] at hS
   generalize Act.tau a 15 = v15 at hS
   refine then_n ?_
   refine wp_seq ?_
   refine region_seq hS (by kernel_rfl)
     (cF rfl (o_load (ag := true) (sz := 2) 104 .is (by kernel_rfl) (by kernel_rfl) (by kernel_rfl) (by rfl)) r1 r1
     (cF rfl (o_callG1 101 (kAt1 b) Try.func34 rfl (by kernel_rfl) (Args.two (.pagg .t) (.ci (by kernel_rfl)))) r1 r1
     (cF rfl (o_move .t (by rfl)) r1 trivial
     (cF rfl (o_extract .t rfl) r1 trivial
     (cF rfl (o_extract .t rfl) r1 trivial
     (cF rfl (o_assign .t (by rfl)) r1 trivial
     (cF rfl (o_assign .t (by rfl)) r1 trivial
     Chain.nil)))))))
     (by kernel_rfl) (by rw [hB]; kernel_rfl) ?_
   clear hS; intro a w F hS
   obtain ⟨F, hS⟩ := hS.norm [(0, _), (2, _), (4, _), (5, _), (6, _), (8, _), (9, _), (10, _), (12, _), (14, _), (16, _), (17, _), (18, _)] [(0, _), (101, _), (102, _), (104, _), (106, _)] ⟨rfl, rfl, rfl, rfl, rfl, rfl, rfl, rfl, rfl, rfl, rfl, rfl, rfl, trivial⟩ r5
   try dsimp only [List.map, List.drop_succ_cons, List.drop_zero, List.drop_nil, List.take_succ_cons, List.take_zero, List.take_nil, ldSF, rInt] at hS
   refine then_n ?_
   refine wp_seq ?_
   refine region_seq hS (by kernel_rfl)
     (cF rfl (o_load (ag := true) (sz := 2) 104 .is (by kernel_rfl) (by kernel_rfl) (by kernel_rfl) (by rfl)) r1 r1
     (cF rfl (o_callG1 101 (kAt2 b) Try.func34 rfl (by kernel_rfl) (Args.two (.pagg .t) (.ci (by kernel_rfl)))) r1 r1
     (cF rfl (o_move .t (by rfl)) r1 trivial
     (cF rfl (o_extract .t rfl) r1 trivial
     (cF rfl (o_extract .t rfl) r1 trivial
     (cF rfl (o_assign .t (by rfl)) r1 trivial
     (cF rfl (o_assign .t (by rfl)) r1 trivial
     Chain.nil)))))))
     (by kernel_rfl) (by rw [hB]; kernel_rfl) ?_
   clear hS; intro a w F hS
   obtain ⟨F, hS⟩ := hS.norm [(0, _), (2, _), (4, _), (5, _), (6, _), (8, _), (9, _), (10, _), (12, _), (14, _), (16, _), (17, _), (18, _), (20, _)] [(0, _), (101, _), (102, _), (104, _), (106, _)] ⟨rfl, rfl, rfl, rfl, rfl, rfl, rfl, rfl, rfl, rfl, rfl, rfl, rfl, rfl, trivial⟩ r5
   try dsimp only [List.map, List.drop_succ_cons, List.drop_zero, List.drop_nil, List.take_succ_cons, List.take_zero, List.take_nil, ldSF, rInt] at hS
   refine then_n ?_
   refine wp_seq ?_
   replace hS := hS.fresh 110 rfl
   refine region_any (by kernel_rfl) hS (by kernel_rfl)
     (cF rfl (o_load (ag := true) (sz := 2) 104 .is (by kernel_rfl) (by kernel_rfl) (by kernel_rfl) (by rfl)) r1 r1
     (cF rfl (o_callN 110 (aNew_c 2 2 (by decide)) Try.func9 rfl (by kernel_rfl) (Args.one (.ci (by kernel_rfl))) PV.ptr_one) trivial r1
     (cF rfl (o_callF2 79 101 110 (kMv b 2 su 2 0 s_mv1) Try.func35 rfl (by kernel_rfl) rfl rfl (ArgsF.two (.of (.pagg .t)) .same)) r2 r2
     (cF rfl (o_move .t (by rfl)) r1 trivial
     (cF rfl (o_extractF (fun _ => rfl) (by rfl)) r1 trivial
     (cF rfl (o_extractFc (fun _ => rfl)) r1 trivial
     (cF rfl (o_alloc (zs := [.pointer none, .int .i64 0]) 111 (by kernel_rfl)) trivial trivial
     (cF rfl (o_storeA (sz := 2) 111 .same (.conv .t (Ent.fnAgg (.same (.pv .nil)))) (by kernel_rfl) (by kernel_rfl) (by kernel_rfl)) r2 r1
     (cF rfl (o_assign .t (by rfl)) r1 trivial
     Chain.nil)))))))))
     (by kernel_rfl) (by rw [hB]; kernel_rfl) ?_
   clear hS; intro a w F hS
   replace hS := hS.sub
   obtain ⟨F, hS⟩ := hS.norm [(0, _), (2, _), (4, _), (5, _), (6, _), (8, _), (9, _), (10, _), (12, _), (14, _), (16, _), (17, _), (18, _), (20, _), (21, _), (22, _)] [(0, _), (101, _), (102, _), (104, _), (106, _), (110, _), (111, _)] ⟨rfl, rfl, rfl, rfl, rfl, rfl, rfl, rfl, rfl, rfl, rfl, rfl, rfl, rfl, rfl, rfl, trivial⟩ r7
   try dsimp only [RS.sub, SF.sub, CF.sub, csub, Anc.sub, List.map, stCells, List.length_cons, List.length_nil, Nat.reduceAdd, List.drop_succ_cons, List.drop_zero, List.drop_nil, List.take_succ_cons, List.take_zero, List.take_nil, List.cons_append, List.nil_append, zCF, ldSF, rInt] at hS
   generalize Act.tau a 21 = v21 at hS
   generalize Act.tau a 79 = v79 at hS
   obtain ⟨_, _, _, ho⟩ := hS.obGet 110 rfl
   obtain ⟨b2, rfl⟩ := arNamed_ptr ho
   clear ho
   replace hS := hS.turn 110 rfl (r' := RS.hp (arH (some b2) 2 su)) (fun _ _ _ _ h => arNamed_open h)
   obtain ⟨F, hS⟩ := hS.norm [(0, _), (2, _), (4, _), (5, _), (6, _), (8, _), (9, _), (10, _), (12, _), (14, _), (16, _), (17, _), (18, _), (20, _), (21, _), (22, _)] [(0, _), (101, _), (102, _), (104, _), (106, _), (110, _), (111, _)] ⟨rfl, rfl, rfl, rfl, rfl, rfl, rfl, rfl, rfl, rfl, rfl, rfl, rfl, rfl, rfl, rfl, trivial⟩ r7
   refine then_n ?_
   refine wp_seq ?_
   replace hS := hS.fresh 112 rfl
   refine region_any (by kernel_rfl) hS (by kernel_rfl)
     (cF rfl (o_load (ag := true) (sz := 2) 104 .is (by kernel_rfl) (by kernel_rfl) (by kernel_rfl) (by rfl)) r1 r1
     (cF rfl (o_callN 112 (aNew_c 1 1 (by decide)) Try.func9 rfl (by kernel_rfl) (Args.one (.ci (by kernel_rfl))) PV.ptr_one) trivial r1
     (cF rfl (o_callF2 85 101 112 (kMv b 1 [] 0 2 s_mv2) Try.func35 rfl (by kernel_rfl) rfl rfl (ArgsF.two (.of (.pagg .t)) .same)) r2 r2
     (cF rfl (o_move .t (by rfl)) r1 trivial
     (cF rfl (o_extractF (fun _ => rfl) (by rfl)) r1 trivial
     (cF rfl (o_extractFc (fun _ => rfl)) r1 trivial
     (cF rfl (o_alloc (zs := [.pointer none, .int .i64 0]) 113 (by kernel_rfl)) trivial trivial
     (cF rfl (o_storeA (sz := 2) 113 .same (.conv .t (Ent.fnAgg (.same (.pv .nil)))) (by kernel_rfl) (by kernel_rfl) (by kernel_rfl)) r2 r1
     (cF rfl (o_assign .t (by rfl)) r1 trivial
     Chain.nil)))))))))
     (by kernel_rfl) (by rw [hB]; kernel_rfl) ?_
   clear hS; intro a w F hS
   replace hS := hS.sub
   obtain ⟨F, hS⟩ := hS.norm [(0, _), (2, _), (4, _), (5, _), (6, _), (8, _), (9, _), (10, _), (12, _), (14, _), (16, _), (17, _), (18, _), (20, _), (21, _), (22, _), (24, _)] [(0, _), (101, _), (102, _), (104, _), (106, _), (110, _), (111, _), (112, _)] ⟨rfl, rfl, rfl, rfl, rfl, rfl, rfl, rfl, rfl, rfl, rfl, rfl, rfl, rfl, rfl, rfl, rfl, trivial⟩ r8
   try dsimp only [RS.sub, SF.sub, CF.sub, csub, Anc.sub, List.map, stCells, List.length_cons, List.length_nil, Nat.reduceAdd, List.drop_succ_cons, List.drop_zero, List.drop_nil, List.take_succ_cons, List.take_zero, List.take_nil, List.cons_append, List.nil_append, zCF, ldSF, rInt] at hS
   generalize Act.tau a 85 = v85 at hS
   generalize Act.tau a 23 = v23 at hS
   obtain ⟨_, _, _, ho⟩ := hS.obGet 112 rfl
   obtain ⟨b3, rfl⟩ := arNamed_ptr ho
   clear ho
   replace hS := hS.turn 112 rfl (r' := RS.hp (arH (some b3) 1 [])) (fun _ _ _ _ h => arNamed_open h)
   obtain ⟨F, hS⟩ := hS.norm [(0, _), (2, _), (4, _), (5, _), (6, _), (8, _), (9, _), (10, _), (12, _), (14, _), (16, _), (17, _), (18, _), (20, _), (21, _), (22, _), (24, _)] [(0, _), (101, _), (102, _), (104, _), (106, _), (110, _), (111, _), (112, _)] ⟨rfl, rfl, rfl, rfl, rfl, rfl, rfl, rfl, rfl, rfl, rfl, rfl, rfl, rfl, rfl, rfl, rfl, trivial⟩ r8
   refine then_n ?_
   refine wp_seq ?_
   replace hS := hS.fresh 41 rfl
   replace hS := hS.turn 41 rfl (r' := RS.hp (arH none 0 [])) (fun _ _ _ _ h => ⟨⟨rfl, rfl⟩, h⟩)
   obtain ⟨F, hS⟩ := hS.norm [(0, _), (2, _), (4, _), (5, _), (6, _), (8, _), (9, _), (10, _), (12, _), (14, _), (16, _), (17, _), (18, _), (20, _), (21, _), (22, _), (24, _)] [(0, _), (41, _), (101, _), (102, _), (104, _), (106, _), (110, _), (111, _), (112, _)] ⟨rfl, rfl, rfl, rfl, rfl, rfl, rfl, rfl, rfl, rfl, rfl, rfl, rfl, rfl, rfl, rfl, rfl, trivial⟩ ⟨rfl, rfl, rfl, rfl, rfl, rfl, rfl, rfl, rfl, trivial⟩
   refine region_seq hS (by kernel_rfl)
     (cF rfl (o_build (r := []) (zs := [.pointer none, .int .i64 0]) (pl := [(0, 1), (1, 1)]) (by kernel_rfl) (by kernel_rfl) .nil (by rfl)) trivial trivial
     (cF rfl (o_callG1 41 (kIns0) Try.func15 rfl (by kernel_rfl) (Args.three (.pagg .t) (.ci (by kernel_rfl)) (.ci (by kernel_rfl)))) r1 r1
     (cF rfl (o_move .t (by rfl)) r1 trivial
     (cF rfl (o_extract .t rfl) r1 trivial
     (cF rfl (o_extract .t rfl) r1 trivial
     (cF rfl (o_alloc (zs := [.pointer none, .int .i64 0]) 114 (by kernel_rfl)) trivial trivial
     (cF rfl (o_storeA (sz := 2) 114 .same (.conv .t .agg) (by kernel_rfl) (by kernel_rfl) (by kernel_rfl)) r2 r1
     (cF rfl (o_assign .t (by rfl)) r1 trivial
     Chain.nil))))))))
     (by kernel_rfl) (by rw [hB]; kernel_rfl) ?_
   clear hS; intro a w F hS
   replace hS := hS.sub
   obtain ⟨F, hS⟩ := hS.norm [(0, _), (2, _), (4, _), (5, _), (6, _), (8, _), (9, _), (10, _), (12, _), (14, _), (16, _), (17, _), (18, _), (20, _), (21, _), (22, _), (24, _), (26, _)] [(0, _), (41, _), (101, _), (102, _), (104, _), (106, _), (110, _), (111, _), (112, _)] ⟨rfl, rfl, rfl, rfl, rfl, rfl, rfl, rfl, rfl, rfl, rfl, rfl, rfl, rfl, rfl, rfl, rfl, rfl, trivial⟩ ⟨rfl, rfl, rfl, rfl, rfl, rfl, rfl, rfl, rfl, trivial⟩
   try dsimp only [RS.sub, SF.sub, CF.sub, csub, Anc.sub, List.map, stCells, List.length_cons, List.length_nil, Nat.reduceAdd, List.drop_succ_cons, List.drop_zero, List.drop_nil, List.take_succ_cons, List.take_zero, List.take_nil, List.cons_append, List.nil_append, zCF, rInt] at hS
   generalize Act.tau a 25 = v25 at hS
   refine then_n ?_
   refine wp_seq ?_
   refine region_any (by kernel_rfl) hS (by kernel_rfl)
     (cF rfl (o_move .t (by rfl)) r1 trivial
     (cF rfl (o_eql .t (.ci (by kernel_rfl))) r1 trivial
     (cF rfl (o_move .t (by rfl)) r1 trivial
     (Chain.cons (Cert.cond rfl rfl (fun h => o_move .t (by rfl))) r2 trivial
     (Chain.cons (Cert.cond rfl rfl (fun h => o_eql (.w h) (.ci (by kernel_rfl)))) r2 trivial
     (cF rfl (o_and2 .t .t) r2 trivial
     (cF rfl (o_move .t (by rfl)) r1 trivial
     (Chain.cons (Cert.cond rfl rfl (fun h => o_move .t (by rfl))) r2 trivial
     (Chain.cons (Cert.cond rfl rfl (fun h => o_eql (.w h) (.ci (by kernel_rfl)))) r2 trivial
     (cF rfl (o_and2 .t .t) r2 trivial
     (cF rfl (o_move .t (by rfl)) r1 trivial
     (Chain.cons (Cert.cond rfl rfl (fun h => o_move .t (by rfl))) r2 trivial
     (Chain.cons (Cert.cond rfl rfl (fun h => o_eql (.w h) (.ci (by kernel_rfl)))) r2 trivial
     (cF rfl (o_and2 .t .t) r2 trivial
     (cF rfl (o_move .t (by rfl)) r1 trivial
     (Chain.cons (Cert.cond rfl rfl (fun h => o_load (ag := true) (sz := 2) 106 .is (by kernel_rfl) (by kernel_rfl) (by kernel_rfl) (by rfl))) r2 r1
     (Chain.cons (Cert.condR rfl rfl (by rfl) (fun h => o_callG1 101 (kListZ b) Try.func18 rfl (by kernel_rfl) (Args.one (.pagg (.w h))))) r2 r1
     (Chain.cons (Cert.cond rfl rfl (fun h => o_buildSliceE (sz := 1) (zs := [.int .i64 0]) (r := [(0, _), (1, _)]) (l := [_, _]) Try.underlying29 (by kernel_rfl) (by kernel_rfl) (by kernel_rfl) (by kernel_rfl) rfl rfl (.one rfl (.ci (by kernel_rfl)) one_int (by kernel_rfl) (.one rfl (.ci (by kernel_rfl)) one_int (by kernel_rfl) .nil)) rfl)) r1 trivial
     (Chain.cons (Cert.cond rfl rfl (fun h => o_callP (sameInts_c _ _) Try.func17 rfl (by kernel_rfl) (Args.two (.w h) (.conv (.w h) (Ent.arrSl (R := rInt) (l := [8, 6]) rfl))))) r3 trivial
     (cF rfl (o_and2 .t .t) r2 trivial
     (cF rfl (o_move .t (by rfl)) r1 trivial
     (Chain.cons (Cert.cond rfl rfl (fun h => o_move .t (by rfl))) r2 trivial
     (Chain.cons (Cert.cond rfl rfl (fun h => o_eql (.w h) (.ci (by kernel_rfl)))) r2 trivial
     (cF rfl (o_and2 .t .t) r2 trivial
     (cF rfl (o_move .t (by rfl)) r1 trivial
     (Chain.cons (Cert.cond rfl rfl (fun h => o_move .t (by rfl))) r2 trivial
     (Chain.cons (Cert.cond rfl rfl (fun h => o_eql (.w h) (.ci (by kernel_rfl)))) r2 trivial
     (cF rfl (o_and2 .t .t) r2 trivial
     (cF rfl (o_move .t (by rfl)) r1 trivial
     (Chain.cons (Cert.cond rfl rfl (fun h => o_move .t (by rfl))) r2 trivial
     (Chain.cons (Cert.cond rfl rfl (fun h => o_eql (.w h) (.ci (by kernel_rfl)))) r2 trivial
     (Chain.cons (Cert.cond rfl rfl (fun h => o_move (.w h) (by rfl))) r2 trivial
     (Chain.cons (Cert.cond2 rfl rfl (fun h => o_move .t (by rfl))) r2 trivial
     (Chain.cons (Cert.cond2 rfl rfl (fun h => o_eql (.w h) (.ci (by kernel_rfl)))) r2 trivial
     (Chain.cons (Cert.cond rfl rfl (fun h => o_or2 (.w h) (.wc h))) r3 trivial
     (cF rfl (o_and2 .t .t) r2 trivial
     (cF rfl (o_move .t (by rfl)) r1 trivial
     (Chain.cons (Cert.cond rfl rfl (fun h => o_move .t (by rfl))) r2 trivial
     (Chain.cons (Cert.cond rfl rfl (fun h => o_eql (.w h) (.ci (by kernel_rfl)))) r2 trivial
     (cF rfl (o_and2 .t .t) r2 trivial
     (cF rfl (o_move .t (by rfl)) r1 trivial
     (Chain.cons (Cert.cond rfl rfl (fun h => o_move .t (by rfl))) r2 trivial
     (cF rfl (o_and2 .t .t) r2 trivial
     (cF rfl (o_move .t (by rfl)) r1 trivial
     (Chain.cons (Cert.cond rfl rfl (fun h => o_move .t (by rfl))) r2 trivial
     (Chain.cons (Cert.cond rfl rfl (fun h => o_not (.w h))) r2 trivial
     (cF rfl (o_and2 .t .t) r2 trivial
     (cF rfl (o_move .t (by rfl)) r1 trivial
     (Chain.cons (Cert.cond rfl rfl (fun h => o_load (ag := true) (sz := 2) 104 .is (by kernel_rfl) (by kernel_rfl) (by kernel_rfl) (by rfl))) r2 r1
     (Chain.cons (Cert.condR rfl rfl (by rfl) (fun h => o_callG1 101 (kListY b) Try.func18 rfl (by kernel_rfl) (Args.one (.pagg (.w h))))) r2 r1
     (Chain.cons (Cert.cond rfl rfl (fun h => o_buildSliceE (sz := 1) (zs := [.int .i64 0]) (r := [(0, _), (1, _)]) (l := [_, _]) Try.underlying29 (by kernel_rfl) (by kernel_rfl) (by kernel_rfl) (by kernel_rfl) rfl rfl (.one rfl (.ci (by kernel_rfl)) one_int (by kernel_rfl) (.one rfl (.ci (by kernel_rfl)) one_int (by kernel_rfl) .nil)) rfl)) r1 trivial
     (Chain.cons (Cert.cond rfl rfl (fun h => o_callP (sameInts_c _ _) Try.func17 rfl (by kernel_rfl) (Args.two (.w h) (.conv (.w h) (Ent.arrSl (R := rInt) (l := [8, 7]) rfl))))) r3 trivial
     (cF rfl (o_and2 .t .t) r2 trivial
     (cF rfl (o_move .t (by rfl)) r1 trivial
     (Chain.cons (Cert.cond rfl rfl (fun h => o_load (ag := true) (sz := 2) 104 .is (by kernel_rfl) (by kernel_rfl) (by kernel_rfl) (by rfl))) r2 r1
     (Chain.cons (Cert.condR rfl rfl (by rfl) (fun h => o_callG1 101 (kIdx b 7 1 (by decide)) Try.func36 rfl (by kernel_rfl) (Args.two (.pagg (.w h)) (.ci (by kernel_rfl))))) r2 r1
     (Chain.cons (Cert.cond rfl rfl (fun h => o_eql (.w h) (.ci (by kernel_rfl)))) r2 trivial
     (cF rfl (o_and2 .t .t) r2 trivial
     (cF rfl (o_move .t (by rfl)) r1 trivial
     (Chain.cons (Cert.cond rfl rfl (fun h => o_load (ag := true) (sz := 2) 104 .is (by kernel_rfl) (by kernel_rfl) (by kernel_rfl) (by rfl))) r2 r1
     (Chain.cons (Cert.condR rfl rfl (by rfl) (fun h => o_callG1 101 (kIdx b 5 (-1) (by decide)) Try.func36 rfl (by kernel_rfl) (Args.two (.pagg (.w h)) (.ci (by kernel_rfl))))) r2 r1
     (Chain.cons (Cert.cond rfl rfl (fun h => o_eql (.w h) (.ci (by kernel_rfl)))) r2 trivial
     (cF rfl (o_and2 .t .t) r2 trivial
     (cF rfl (o_move .t (by rfl)) r1 trivial
     (Chain.cons (Cert.cond rfl rfl (fun h => o_load (ag := true) (sz := 2) 104 .is (by kernel_rfl) (by kernel_rfl) (by kernel_rfl) (by rfl))) r2 r1
     (Chain.cons (Cert.condR rfl rfl (by rfl) (fun h => o_callG1 101 (kLenY b) Try.func14 rfl (by kernel_rfl) (Args.one (.pagg (.w h))))) r2 r1
     (Chain.cons (Cert.cond rfl rfl (fun h => o_eql (.w h) (.ci (by kernel_rfl)))) r2 trivial
     (cF rfl (o_and2 .t .t) r2 trivial
     (cF rfl (o_move .t (by rfl)) r1 trivial
     (Chain.cons (Cert.cond rfl rfl (fun h => o_load (ag := true) (sz := 2) 102 .is (by kernel_rfl) (by kernel_rfl) (by kernel_rfl) (by rfl))) r2 r1
     (Chain.cons (Cert.condR rfl rfl (by rfl) (fun h => o_callG1 101 (kLen0 b) Try.func14 rfl (by kernel_rfl) (Args.one (.pagg (.w h))))) r2 r1
     (Chain.cons (Cert.cond rfl rfl (fun h => o_eql (.w h) (.ci (by kernel_rfl)))) r2 trivial
     (cF rfl (o_and2 .t .t) r2 trivial
     (cF rfl (o_move .t (by rfl)) r1 trivial
     (Chain.cons (Cert.cond rfl rfl (fun h => o_load (ag := true) (sz := 2) 102 .is (by kernel_rfl) (by kernel_rfl) (by kernel_rfl) (by rfl))) r2 r1
     (Chain.cons (Cert.condR rfl rfl (by rfl) (fun h => o_callG1 101 (kHigh0 b) Try.func19 rfl (by kernel_rfl) (Args.one (.pagg (.w h))))) r2 r1
     (Chain.cons (Cert.cond rfl rfl (fun h => o_eql (.w h) (.ci (by kernel_rfl)))) r2 trivial
     (cF rfl (o_and2 .t .t) r2 trivial
     (cF rfl (o_move .t (by rfl)) r1 trivial
     (Chain.cons (Cert.cond rfl rfl (fun h => o_move .t (by rfl))) r2 trivial
     (Chain.cons (Cert.cond rfl rfl (fun h => o_eql (.w h) (.ci (by kernel_rfl)))) r2 trivial
     (cF rfl (o_and2 .t .t) r2 trivial
     (cF rfl (o_move .t (by rfl)) r1 trivial
     (Chain.cons (Cert.cond rfl rfl (fun h => o_load (ag := true) (sz := 2) 111 .is (by kernel_rfl) (by kernel_rfl) (by kernel_rfl) (by rfl))) r2 r1
     (Chain.cons (Cert.condR rfl rfl (by rfl) (fun h => o_callG1 110 (kListU b2) Try.func18 rfl (by kernel_rfl) (Args.one (.pagg (.w h))))) r2 r1
     (Chain.cons (Cert.cond rfl rfl (fun h => o_load (ag := true) (sz := 2) 104 .is (by kernel_rfl) (by kernel_rfl) (by kernel_rfl) (by rfl))) r2 r1
     (Chain.cons (Cert.condR rfl rfl (by rfl) (fun h => o_callG1 101 (kListY b) Try.func18 rfl (by kernel_rfl) (Args.one (.pagg (.w h))))) r2 r1
     (Chain.cons (Cert.cond rfl rfl (fun h => o_callP (sameInts_c _ _) Try.func17 rfl (by kernel_rfl) (Args.two (.w h) (.w h)))) r3 trivial
     (cF rfl (o_and2 .t .t) r2 trivial
     (cF rfl (o_move .t (by rfl)) r1 trivial
     (Chain.cons (Cert.cond rfl rfl (fun h => o_move .t (by rfl))) r2 trivial
     (Chain.cons (Cert.cond rfl rfl (fun h => o_eql (.w h) (.ci (by kernel_rfl)))) r2 trivial
     (cF rfl (o_and2 .t .t) r2 trivial
     (cF rfl (o_move .t (by rfl)) r1 trivial
     (Chain.cons (Cert.cond rfl rfl (fun h => o_move .t (by rfl))) r2 trivial
     (Chain.cons (Cert.cond rfl rfl (fun h => o_eql (.w h) (.ci (by kernel_rfl)))) r2 trivial
     (cF rfl (o_and2 .t .t) r2 trivial
     (cF rfl (o_assign .t (by rfl)) r1 trivial
     Chain.nil))))))))))))))))))))))))))))))))))))))))))))))))))))))))))))))))))))))))))))))))))))))))))))))))))
     (by kernel_rfl) (by rw [hB]; kernel_rfl) ?_
   clear hS; intro a w F hS
   obtain ⟨F, hS⟩ := hS.norm [(0, _)] [(0, _), (41, _), (101, _), (110, _), (112, _)] r1 r5
   try dsimp only [List.map, stCells, List.length_cons, List.length_nil, Nat.reduceAdd, List.drop_succ_cons, List.drop_zero, List.drop_nil, List.take_succ_cons, List.take_zero, List.take_nil, List.cons_append, List.nil_append, zCF, ldSF, rInt] at hS
   refine then_n ?_
   refine wp_ret ?_
   refine ret_P hfr hS rfl (.tmp rfl .nil) (.one (.bool (by decide +kernel)))

end Go.Proofs.Ytdfpljecogijaaa
