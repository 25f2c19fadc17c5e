/- Maps: lives. No condition beyond those that each theorem says. -/
import Derived.Test.YtdfpljecogijaaaAvA
import Derived.Test.YtdfpljecogijaaaAvB
namespace Go.Proofs.Ytdfpljecogijaaa
open Go Go.Gm
set_option linter.unusedVariables false
set_option linter.unusedSimpArgs false
set_option maxHeartbeats 4000000
set_option maxRecDepth 8000


/-- What lives asks for. -/
def lc1 : Cell := ⟨0, 0, 1, 5, 1, 1⟩
def lc2 : Cell := ⟨0, 0, 2, 6, 1, 1⟩
def lc3 : Cell := ⟨0, 2, 1, 5, 2, 2⟩
def lt1 : Tree := .node .nil ⟨1, 5⟩ .nil
theorem l_put1 : putM 64 [] ⟨1, 5⟩ .nil 0 = ([lc1], 0, 1) := by decide +kernel
theorem l_put2 : putM 64 [lc1] ⟨2, 6⟩ lt1 1 = ([lc1, lc2, lc3], 0, 3) := by decide +kernel
theorem l_del2 : delM 64 [lc1, lc2, lc3] 2 lt1 1 = ([lc1, lc2, lc3], 3, 0) := by decide +kernel
theorem l_del1 : delM 64 [lc1, lc2, lc3] 1 lt1 1 = ([lc1, lc2, lc3], 0, 0) := by decide +kernel
theorem l_mv1 : moveM 1 [] lt1 = ([lc1], 0, 1) := by decide +kernel
theorem l_mv0 : moveM 0 [] lt1 = ([], 2, 0) := by decide +kernel
theorem l_put0 : putM 0 [] ⟨1, 1⟩ .nil 0 = ([], 2, 0) := by decide +kernel
theorem l_rep1 : Rep id [lc1, lc2, lc3] lt1 1 := ⟨by decide, by unfold Rep; decide +kernel, by unfold Rep; decide +kernel, by decide +kernel, rfl, by decide +kernel, by decide +kernel, by decide +kernel⟩
theorem l_rep0 : Rep id [lc1] lt1 1 := ⟨by decide, by unfold Rep; decide +kernel, by unfold Rep; decide +kernel, by decide +kernel, rfl, by decide +kernel, by decide +kernel, by decide +kernel⟩

theorem arNamed_open {b : Nat} {room : Int} {q : List Cell} {w : World} {f y : Ys} (h : (HP.named (fun b => arV (some b)) (fun b => arH (some b) room q) (arV (some b))).p w f y) : (arH (some b) room q).p w f y := by
  obtain ⟨b', e, h⟩ := h
  have e2 : b = b' := by simpa [arV] using e
  subst e2; exact h
theorem arNamed_ptr {v : Value} {room : Int} {q : List Cell} {w : World} {f y : Ys} (h : (HP.named (fun b => arV (some b)) (fun b => arH (some b) room q) v).p w f y) : ∃ b, v = arV (some b) := by
  obtain ⟨b, e, _⟩ := h
  exact ⟨b, e⟩
theorem aNew_c (n room : Int) (hr : refRoom n = room) : FnG Try.prog 9 1 [.int .i64 n] [.star []] PV.ptr (fun v => [HP.named (fun b => arV (some b)) (fun b => arH (some b) room []) v]) := by
  subst hr
  exact FnG.newNamed (arNew_c n) fun v w f y h => by obtain ⟨b, rfl⟩ := arenaH_ptr h; exact ⟨b, rfl, h⟩
def lq : List Cell := [lc1, lc2, lc3]
abbrev lM (o : Option Nat) (root : Int) : PV := .agg [.is (arV o), .int .i64 root]
section
variable (b : Nat)
theorem lPut1 : FnG Try.prog 25 1 [lM (some b) 0, .int .i64 1, .int .i64 5] [arH (some b) 64 []] (.tup [lM (some b) 1, .int .i64 0]) (fun _ => [arH (some b) 64 [lc1]]) := by
  have := mPut_c (some b) 64 [] 0 1 5 .nil rfl
  rw [l_put1] at this; exact this
theorem lPut2 : FnG Try.prog 25 1 [lM (some b) 1, .int .i64 2, .int .i64 6] [arH (some b) 64 [lc1]] (.tup [lM (some b) 3, .int .i64 0]) (fun _ => [arH (some b) 64 lq]) := by
  have := mPut_c (some b) 64 [lc1] 1 2 6 lt1 l_rep0
  rw [l_put2] at this; exact this
theorem lPut0 : FnG Try.prog 25 1 [lM none 0, .int .i64 1, .int .i64 1] [arH none 0 []] (.tup [lM none 0, .int .i64 2]) (fun _ => [arH none 0 []]) := by
  have := mPut_c none 0 [] 0 1 1 .nil rfl
  rw [l_put0] at this; exact this
theorem lDel2 : FnG Try.prog 26 1 [lM (some b) 1, .int .i64 2] [arH (some b) 64 lq] (.tup [lM (some b) 0, .int .i64 3]) (fun _ => [arH (some b) 64 lq]) := by
  have := mDel_c (some b) 64 lq 1 2 lt1 l_rep1
  rw [show delM 64 lq 2 lt1 1 = (lq, 3, 0) from l_del2] at this; exact this
theorem lDel1 : FnG Try.prog 26 1 [lM (some b) 1, .int .i64 1] [arH (some b) 64 lq] (.tup [lM (some b) 0, .int .i64 0]) (fun _ => [arH (some b) 64 lq]) := by
  have := mDel_c (some b) 64 lq 1 1 lt1 l_rep1
  rw [show delM 64 lq 1 lt1 1 = (lq, 0, 0) from l_del1] at this; exact this
theorem lGet : FnG Try.prog 53 1 [lM (some b) 1, .int .i64 1] [arH (some b) 64 lq] (.tup [.int .i64 5, .bool true]) (fun _ => [arH (some b) 64 lq]) := mget_c (some b) 64 lq 1 1 lt1 l_rep1
theorem lAt0 : FnG Try.prog 31 1 [lM (some b) 1, .int .i64 0] [arH (some b) 64 lq] (.tup [.agg (rPair ⟨1, 5⟩), .bool true]) (fun _ => [arH (some b) 64 lq]) := mat_c (some b) 64 lq 1 0 lt1 l_rep1 (by decide)
theorem lAt1 : FnG Try.prog 31 1 [lM (some b) 1, .int .i64 1] [arH (some b) 64 lq] (.tup [.agg (rPair default), .bool false]) (fun _ => [arH (some b) 64 lq]) := mat_c (some b) 64 lq 1 1 lt1 l_rep1 (by decide)
theorem lMove (v : Value) : FnG Try.prog 54 2 [lM (some b) 1, .is v] [arH (some b) 64 lq, HP.named (fun b => arV (some b)) (fun b => arH (some b) 1 []) v] (.tup [.agg [.is v, .int .i64 1], .int .i64 0]) (fun _ => [arH (some b) 64 lq, HP.named (fun b => arV (some b)) (fun b => arH (some b) 1 [lc1]) v]) :=
  FnG.named2 (g := fun b => arV (some b)) (avs := fun v => [lM (some b) 1, .is v]) (q := fun v => .tup [.agg [.is v, .int .i64 1], .int .i64 0]) (fun b2 => by
    have := mMove_c (some b) 64 lq 1 lt1 l_rep1 (by decide) (some b2) 1 []
    rw [l_mv1] at this; exact this) v
theorem lMove0 : FnG Try.prog 54 2 [lM (some b) 1, .is (arV none)] [arH (some b) 64 lq, arH none 0 []] (.tup [lM none 0, .int .i64 2]) (fun _ => [arH (some b) 64 lq, arH none 0 []]) := by
  have := mMove_c (some b) 64 lq 1 lt1 l_rep1 (by decide) none 0 []
  rw [l_mv0] at this; exact this
theorem lLenY : FnG Try.prog 30 1 [lM (some b) 3] [arH (some b) 64 lq] (.int .i64 2) (fun _ => [arH (some b) 64 lq]) := mlen_c (some b) 64 lq 3
theorem lLen0 : FnG Try.prog 30 1 [lM (some b) 0] [arH (some b) 64 lq] (.int .i64 0) (fun _ => [arH (some b) 64 lq]) := mlen_c (some b) 64 lq 0
theorem lHigh1 : FnG Try.prog 29 1 [lM (some b) 1] [arH (some b) 64 lq] (.int .i64 1) (fun _ => [arH (some b) 64 lq]) := mhigh_c (some b) 64 lq 1
theorem lHigh0 : FnG Try.prog 29 1 [lM (some b) 0] [arH (some b) 64 lq] (.int .i64 0) (fun _ => [arH (some b) 64 lq]) := mhigh_c (some b) 64 lq 0
theorem lRank1 : FnG Try.prog 32 1 [lM (some b) 1, .int .i64 1] [arH (some b) 64 lq] (.int .i64 0) (fun _ => [arH (some b) 64 lq]) := mrank_c (some b) 64 lq 1 1 lt1 l_rep1 (by decide)
theorem lRank2 : FnG Try.prog 32 1 [lM (some b) 1, .int .i64 2] [arH (some b) 64 lq] (.int .i64 1) (fun _ => [arH (some b) 64 lq]) := mrank_c (some b) 64 lq 1 2 lt1 l_rep1 (by decide)
theorem lList : FnG Try.prog 27 1 [lM (some b) 1] [arH (some b) 64 lq] (.sl rPair [⟨1, 5⟩]) (fun _ => [arH (some b) 64 lq]) := mList_c (some b) 64 lq 1 lt1 l_rep1 (by decide)
theorem lListU : FnG Try.prog 27 1 [lM (some b) 1] [arH (some b) 1 [lc1]] (.sl rPair [⟨1, 5⟩]) (fun _ => [arH (some b) 1 [lc1]]) := mList_c (some b) 1 [lc1] 1 lt1 l_rep0 (by decide)
theorem lList0 : FnG Try.prog 27 1 [lM none 0] [arH none 0 []] (.sl rPair []) (fun _ => [arH none 0 []]) := mList_c none 0 [] 0 .nil rfl (by decide)
end

theorem lives06_c  : FnP Try.prog 20 [] (.bool true) := by
  refine FnP.mk Try.func20 rfl Try.ntmps20 rfl ?_
  intro B a w F hB hfr hS
  refine wp_seq ?_
  refine region_seq hS (by kernel_rfl)
    (cF rfl (o_assign .cb (by rfl)) trivial trivial
    Chain.nil)
    (by kernel_rfl) (by rw [hB]; kernel_rfl) ?_
  clear hS; intro a w F hS
  obtain ⟨F, hS⟩ := hS.norm [(0, _)] [(0, _)] r1 r1
  try dsimp only [rPair] at hS
  refine then_n ?_
  refine wp_seq ?_
  replace hS := hS.fresh 101 rfl
  refine region_seq hS (by kernel_rfl)
    (cF rfl (o_callN 101 (aNew_c 64 64 (by decide)) Try.func9 rfl (by kernel_rfl) (Args.one (.ci (by kernel_rfl))) PV.ptr_one) trivial r1
    (cF rfl (o_assign .t (by rfl)) r1 trivial
    Chain.nil))
    (by kernel_rfl) (by rw [hB]; kernel_rfl) ?_
  clear hS; intro a w F hS
  replace hS := hS.sub
  obtain ⟨F, hS⟩ := hS.norm [(0, _), (1, _)] [(0, _), (101, _)] r2 r2
  try dsimp only [RS.sub, SF.sub, CF.sub, csub, Anc.sub, List.map, rPair] at hS
  generalize Act.tau a 25 = v25 at hS
  obtain ⟨_, _, _, ho⟩ := hS.obGet 101 rfl
  obtain ⟨b, rfl⟩ := arNamed_ptr ho
  clear ho
  replace hS := hS.turn 101 rfl (r' := RS.hp (arH (some b) 64 [])) (fun _ _ _ _ h => arNamed_open h)
  obtain ⟨F, hS⟩ := hS.norm [(0, _), (1, _)] [(0, _), (101, _)] r2 r2
  refine then_n ?_
  refine wp_seq ?_
  refine wp_seq ?_
  refine region_seq hS (by kernel_rfl)
    (cF rfl (o_move .t (by rfl)) r1 trivial
    (cF rfl (o_nil_eql _ Try.underlying24 rfl .t) r1 trivial
    Chain.nil))
    (by kernel_rfl) (by rw [hB]; kernel_rfl) ?_
  clear hS; intro a w F hS
  obtain ⟨F, hS⟩ := hS.norm [(0, _), (1, _), (27, _)] [(0, _), (101, _)] r3 r2
  try dsimp only [rPair] at hS
  refine then_n ?_
  refine cond_b hS rfl (fun hc0 => ?_) (fun hc0 => ?_)
  ·skip
   simp at hc0
  ·skip
   refine wp_skip ?_
   refine then_n ?_
   refine wp_seq ?_
   refine region_seq hS (by kernel_rfl)
     (cF rfl (o_move .t (by rfl)) r1 trivial
     (cF rfl (o_callP (mnew_c (some b)) Try.func21 rfl (by kernel_rfl) (Args.one .t)) r1 trivial
     (cF rfl (o_alloc (zs := [.pointer none, .int .i64 0]) 102 (by kernel_rfl)) trivial trivial
     (cF rfl (o_storeA (sz := 2) 102 .same (.conv .t .agg) (by kernel_rfl) (by kernel_rfl) (by kernel_rfl)) r2 r1
     Chain.nil))))
     (by kernel_rfl) (by rw [hB]; kernel_rfl) ?_
   clear hS; intro a w F hS
   replace hS := hS.sub
   obtain ⟨F, hS⟩ := hS.norm [(0, _), (2, _)] [(0, _), (101, _), (102, _)] r2 r3
   try dsimp only [RS.sub, SF.sub, CF.sub, csub, Anc.sub, List.map, stCells, List.length_cons, List.length_nil, Nat.reduceAdd, List.drop_succ_cons, List.drop_zero, List.drop_nil, List.take_succ_cons, List.take_zero, List.take_nil, List.cons_append, List.nil_append, zCF, rPair] at hS
   generalize Act.tau a 2 = v2 at hS
   refine then_n ?_
   refine wp_seq ?_
   refine region_seq hS (by kernel_rfl)
     (cF rfl (o_load (ag := true) (sz := 2) 102 .is (by kernel_rfl) (by kernel_rfl) (by kernel_rfl) (by rfl)) r1 r1
     (cF rfl (o_callG1 101 (lPut1 b) Try.func25 rfl (by kernel_rfl) (Args.three (.pagg .t) (.ci (by kernel_rfl)) (.ci (by kernel_rfl)))) r1 r1
     (cF rfl (o_move .t (by rfl)) r1 trivial
     (cF rfl (o_extract .t rfl) r1 trivial
     (cF rfl (o_extract .t rfl) r1 trivial
     (cF rfl (o_alloc (zs := [.pointer none, .int .i64 0]) 103 (by kernel_rfl)) trivial trivial
     (cF rfl (o_storeA (sz := 2) 103 .same (.conv .t .agg) (by kernel_rfl) (by kernel_rfl) (by kernel_rfl)) r2 r1
     (cF rfl (o_assign .t (by rfl)) r1 trivial
     Chain.nil))))))))
     (by kernel_rfl) (by rw [hB]; kernel_rfl) ?_
   clear hS; intro a w F hS
   replace hS := hS.sub
   obtain ⟨F, hS⟩ := hS.norm [(0, _), (2, _), (3, _), (4, _)] [(0, _), (101, _), (102, _), (103, _)] r4 r4
   try dsimp only [RS.sub, SF.sub, CF.sub, csub, Anc.sub, List.map, stCells, List.length_cons, List.length_nil, Nat.reduceAdd, List.drop_succ_cons, List.drop_zero, List.drop_nil, List.take_succ_cons, List.take_zero, List.take_nil, List.cons_append, List.nil_append, zCF, ldSF, rPair] at hS
   generalize Act.tau a 3 = v3 at hS
   refine then_n ?_
   refine wp_seq ?_
   refine region_seq hS (by kernel_rfl)
     (cF rfl (o_load (ag := true) (sz := 2) 103 .is (by kernel_rfl) (by kernel_rfl) (by kernel_rfl) (by rfl)) r1 r1
     (cF rfl (o_callG1 101 (lPut2 b) Try.func25 rfl (by kernel_rfl) (Args.three (.pagg .t) (.ci (by kernel_rfl)) (.ci (by kernel_rfl)))) r1 r1
     (cF rfl (o_move .t (by rfl)) r1 trivial
     (cF rfl (o_extract .t rfl) r1 trivial
     (cF rfl (o_extract .t rfl) r1 trivial
     (cF rfl (o_alloc (zs := [.pointer none, .int .i64 0]) 104 (by kernel_rfl)) trivial trivial
     (cF rfl (o_storeA (sz := 2) 104 .same (.conv .t .agg) (by kernel_rfl) (by kernel_rfl) (by kernel_rfl)) r2 r1
     (cF rfl (o_assign .t (by rfl)) r1 trivial
     Chain.nil))))))))
     (by kernel_rfl) (by rw [hB]; kernel_rfl) ?_
   clear hS; intro a w F hS
   replace hS := hS.sub
   obtain ⟨F, hS⟩ := hS.norm [(0, _), (2, _), (3, _), (4, _), (5, _), (6, _)] [(0, _), (101, _), (102, _), (103, _), (104, _)] r6 r5
   try dsimp only [RS.sub, SF.sub, CF.sub, csub, Anc.sub, List.map, stCells, List.length_cons, List.length_nil, Nat.reduceAdd, List.drop_succ_cons, List.drop_zero, List.drop_nil, List.take_succ_cons, List.take_zero, List.take_nil, List.cons_append, List.nil_append, zCF, ldSF, rPair] at hS
   generalize Act.tau a 5 = v5 at hS
   refine then_n ?_
   refine wp_seq ?_
   refine region_seq hS (by kernel_rfl)
     (cF rfl (o_load (ag := true) (sz := 2) 103 .is (by kernel_rfl) (by kernel_rfl) (by kernel_rfl) (by rfl)) r1 r1
     (cF rfl (o_callG1 101 (lDel2 b) Try.func26 rfl (by kernel_rfl) (Args.two (.pagg .t) (.ci (by kernel_rfl)))) r1 r1
     (cF rfl (o_move .t (by rfl)) r1 trivial
     (cF rfl (o_extract .t rfl) r1 trivial
     (cF rfl (o_extract .t rfl) r1 trivial
     (cF rfl (o_alloc (zs := [.pointer none, .int .i64 0]) 105 (by kernel_rfl)) trivial trivial
     (cF rfl (o_storeA (sz := 2) 105 .same (.conv .t .agg) (by kernel_rfl) (by kernel_rfl) (by kernel_rfl)) r2 r1
     (cF rfl (o_assign .t (by rfl)) r1 trivial
     Chain.nil))))))))
     (by kernel_rfl) (by rw [hB]; kernel_rfl) ?_
   clear hS; intro a w F hS
   replace hS := hS.sub
   obtain ⟨F, hS⟩ := hS.norm [(0, _), (2, _), (3, _), (4, _), (5, _), (6, _), (8, _)] [(0, _), (101, _), (102, _), (103, _), (104, _)] r7 r5
   try dsimp only [RS.sub, SF.sub, CF.sub, csub, Anc.sub, List.map, stCells, List.length_cons, List.length_nil, Nat.reduceAdd, List.drop_succ_cons, List.drop_zero, List.drop_nil, List.take_succ_cons, List.take_zero, List.take_nil, List.cons_append, List.nil_append, zCF, ldSF, rPair] at hS
   generalize Act.tau a 7 = v7 at hS
   refine then_n ?_
   refine wp_seq ?_
   refine region_seq hS (by kernel_rfl)
     (cF rfl (o_load (ag := true) (sz := 2) 103 .is (by kernel_rfl) (by kernel_rfl) (by kernel_rfl) (by rfl)) r1 r1
     (cF rfl (o_callG1 101 (lDel1 b) Try.func26 rfl (by kernel_rfl) (Args.two (.pagg .t) (.ci (by kernel_rfl)))) r1 r1
     (cF rfl (o_move .t (by rfl)) r1 trivial
     (cF rfl (o_extract .t rfl) r1 trivial
     (cF rfl (o_extract .t rfl) r1 trivial
     (cF rfl (o_alloc (zs := [.pointer none, .int .i64 0]) 106 (by kernel_rfl)) trivial trivial
     (cF rfl (o_storeA (sz := 2) 106 .same (.conv .t .agg) (by kernel_rfl) (by kernel_rfl) (by kernel_rfl)) r2 r1
     (cF rfl (o_assign .t (by rfl)) r1 trivial
     Chain.nil))))))))
     (by kernel_rfl) (by rw [hB]; kernel_rfl) ?_
   clear hS; intro a w F hS
   replace hS := hS.sub
   obtain ⟨F, hS⟩ := hS.norm [(0, _), (2, _), (3, _), (4, _), (5, _), (6, _), (8, _), (9, _), (10, _)] [(0, _), (101, _), (102, _), (103, _), (104, _), (106, _)] ⟨rfl, rfl, rfl, rfl, rfl, rfl, rfl, rfl, rfl, trivial⟩ r6
   try dsimp only [RS.sub, SF.sub, CF.sub, csub, Anc.sub, List.map, stCells, List.length_cons, List.length_nil, Nat.reduceAdd, List.drop_succ_cons, List.drop_zero, List.drop_nil, List.take_succ_cons, List.take_zero, List.take_nil, List.cons_append, List.nil_append, zCF, ldSF, rPair] at hS
   generalize Act.tau a 9 = v9 at hS
   refine then_n ?_
   refine wp_seq ?_
   refine region_seq hS (by kernel_rfl)
     (cF rfl (o_load (ag := true) (sz := 2) 103 .is (by kernel_rfl) (by kernel_rfl) (by kernel_rfl) (by rfl)) r1 r1
     (cF rfl (o_callG1 101 (lGet b) Try.func53 rfl (by kernel_rfl) (Args.two (.pagg .t) (.ci (by kernel_rfl)))) r1 r1
     (cF rfl (o_move .t (by rfl)) r1 trivial
     (cF rfl (o_extract .t rfl) r1 trivial
     (cF rfl (o_extract .t rfl) r1 trivial
     (cF rfl (o_assign .t (by rfl)) r1 trivial
     (cF rfl (o_assign .t (by rfl)) r1 trivial
     Chain.nil)))))))
     (by kernel_rfl) (by rw [hB]; kernel_rfl) ?_
   clear hS; intro a w F hS
   obtain ⟨F, hS⟩ := hS.norm [(0, _), (2, _), (3, _), (4, _), (5, _), (6, _), (8, _), (9, _), (10, _), (11, _), (12, _)] [(0, _), (101, _), (102, _), (103, _), (104, _), (106, _)] ⟨rfl, rfl, rfl, rfl, rfl, rfl, rfl, rfl, rfl, rfl, rfl, trivial⟩ r6
   try dsimp only [List.map, List.drop_succ_cons, List.drop_zero, List.drop_nil, List.take_succ_cons, List.take_zero, List.take_nil, ldSF, rPair] at hS
   refine then_n ?_
   refine wp_seq ?_
   refine region_seq hS (by kernel_rfl)
     (cF rfl (o_load (ag := true) (sz := 2) 103 .is (by kernel_rfl) (by kernel_rfl) (by kernel_rfl) (by rfl)) r1 r1
     (cF rfl (o_callG1 101 (lAt0 b) Try.func31 rfl (by kernel_rfl) (Args.two (.pagg .t) (.ci (by kernel_rfl)))) r1 r1
     (cF rfl (o_move .t (by rfl)) r1 trivial
     (cF rfl (o_extract .t rfl) r1 trivial
     (cF rfl (o_extract .t rfl) r1 trivial
     (cF rfl (o_alloc (zs := [.int .i64 0, .int .i64 0]) 107 (by kernel_rfl)) trivial trivial
     (cF rfl (o_storeA (sz := 2) 107 .same (.conv .t .agg) (by kernel_rfl) (by kernel_rfl) (by kernel_rfl)) r2 r1
     (cF rfl (o_assign .t (by rfl)) r1 trivial
     Chain.nil))))))))
     (by kernel_rfl) (by rw [hB]; kernel_rfl) ?_
   clear hS; intro a w F hS
   replace hS := hS.sub
   obtain ⟨F, hS⟩ := hS.norm [(0, _), (2, _), (3, _), (4, _), (5, _), (6, _), (8, _), (9, _), (10, _), (11, _), (12, _), (13, _), (14, _)] [(0, _), (101, _), (102, _), (103, _), (104, _), (106, _), (107, _)] ⟨rfl, rfl, rfl, rfl, rfl, rfl, rfl, rfl, rfl, rfl, rfl, rfl, rfl, trivial⟩ r7
   try dsimp only [RS.sub, SF.sub, CF.sub, csub, Anc.sub, List.map, stCells, List.length_cons, List.length_nil, Nat.reduceAdd, List.drop_succ_cons, List.drop_zero, List.drop_nil, List.take_succ_cons, List.take_zero, List.take_nil, List.cons_append, List.nil_append, zCF, ldSF, rPair] at hS
   generalize Act.tau a 13 = v13 at hS
   refine then_n ?_
   refine wp_seq ?_
   refine region_seq hS (by kernel_rfl)
     (cF rfl (o_load (ag := true) (sz := 2) 103 .is (by kernel_rfl) (by kernel_rfl) (by kernel_rfl) (by rfl)) r1 r1
     (cF rfl (o_callG1 101 (lAt1 b) Try.func31 rfl (by kernel_rfl) (Args.two (.pagg .t) (.ci (by kernel_rfl)))) r1 r1
     (cF rfl (o_move .t (by rfl)) r1 trivial
     (cF rfl (o_extract .t rfl) r1 trivial
     (cF rfl (o_extract .t rfl) r1 trivial
     (cF rfl (o_alloc (zs := [.int .i64 0, .int .i64 0]) 108 (by kernel_rfl)) trivial trivial
     (cF rfl (o_storeA (sz := 2) 108 .same (.conv .t .agg) (by kernel_rfl) (by kernel_rfl) (by kernel_rfl)) r2 r1
     (cF rfl (o_assign .t (by rfl)) r1 trivial
     Chain.nil))))))))
     (by kernel_rfl) (by rw [hB]; kernel_rfl) ?_
   clear hS; intro a w F hS
   replace hS := hS.sub
   obtain ⟨F, hS⟩ := hS.norm [(0, _), (2, _), (3, _), (4, _), (5, _), (6, _), (8, _), (9, _), (10, _), (11, _), (12, _), (13, _), (14, _), (16, _)] [(0, _), (101, _), (102, _), (103, _), (104, _), (106, _), (107, _)] ⟨rfl, rfl, rfl, rfl, rfl, rfl, rfl, rfl, rfl, rfl, rfl, rfl, rfl, rfl, trivial⟩ r7
   try dsimp only [RS.sub, SF.sub, CF.sub, csub, Anc.sub, List.map, stCells, List.length_cons, List.length_nil, Nat.reduceAdd, List.drop_succ_cons, List.drop_zero, List.drop_nil, List.take_succ_cons, List.take_zero, List.take_nil, List.cons_append, List.nil_append, zCF, ldSF, rPair] at hS
   generalize Act.tau a 15 = v15 at hS
   refine then_n ?_
   refine wp_seq ?_
   replace hS := hS.fresh 109 rfl
   refine region_any (by kernel_rfl) hS (by kernel_rfl)
     (cF rfl (o_load (ag := true) (sz := 2) 103 .is (by kernel_rfl) (by kernel_rfl) (by kernel_rfl) (by rfl)) r1 r1
     (cF rfl (o_callN 109 (aNew_c 1 1 (by decide)) Try.func9 rfl (by kernel_rfl) (Args.one (.ci (by kernel_rfl))) PV.ptr_one) trivial r1
     (cF rfl (o_callF2 67 101 109 (lMove b) Try.func54 rfl (by kernel_rfl) rfl rfl (ArgsF.two (.of (.pagg .t)) .same)) r2 r2
     (cF rfl (o_move .t (by rfl)) r1 trivial
     (cF rfl (o_extractF (fun _ => rfl) (by rfl)) r1 trivial
     (cF rfl (o_extractFc (fun _ => rfl)) r1 trivial
     (cF rfl (o_alloc (zs := [.pointer none, .int .i64 0]) 110 (by kernel_rfl)) trivial trivial
     (cF rfl (o_storeA (sz := 2) 110 .same (.conv .t (Ent.fnAgg (.same (.pv .nil)))) (by kernel_rfl) (by kernel_rfl) (by kernel_rfl)) r2 r1
     (cF rfl (o_assign .t (by rfl)) r1 trivial
     Chain.nil)))))))))
     (by kernel_rfl) (by rw [hB]; kernel_rfl) ?_
   clear hS; intro a w F hS
   replace hS := hS.sub
   obtain ⟨F, hS⟩ := hS.norm [(0, _), (2, _), (3, _), (4, _), (5, _), (6, _), (8, _), (9, _), (10, _), (11, _), (12, _), (13, _), (14, _), (16, _), (17, _), (18, _)] [(0, _), (101, _), (102, _), (103, _), (104, _), (106, _), (107, _), (109, _), (110, _)] ⟨rfl, rfl, rfl, rfl, rfl, rfl, rfl, rfl, rfl, rfl, rfl, rfl, rfl, rfl, rfl, rfl, trivial⟩ ⟨rfl, rfl, rfl, rfl, rfl, rfl, rfl, rfl, rfl, trivial⟩
   try dsimp only [RS.sub, SF.sub, CF.sub, csub, Anc.sub, List.map, stCells, List.length_cons, List.length_nil, Nat.reduceAdd, List.drop_succ_cons, List.drop_zero, List.drop_nil, List.take_succ_cons, List.take_zero, List.take_nil, List.cons_append, List.nil_append, zCF, ldSF, rPair] at hS
   generalize Act.tau a 17 = v17 at hS
   generalize Act.tau a 67 = v67 at hS
   obtain ⟨_, _, _, ho⟩ := hS.obGet 109 rfl
   obtain ⟨b2, rfl⟩ := arNamed_ptr ho
   clear ho
   replace hS := hS.turn 109 rfl (r' := RS.hp (arH (some b2) 1 [lc1])) (fun _ _ _ _ h => arNamed_open h)
   obtain ⟨F, hS⟩ := hS.norm [(0, _), (2, _), (3, _), (4, _), (5, _), (6, _), (8, _), (9, _), (10, _), (11, _), (12, _), (13, _), (14, _), (16, _), (17, _), (18, _)] [(0, _), (101, _), (102, _), (103, _), (104, _), (106, _), (107, _), (109, _), (110, _)] ⟨rfl, rfl, rfl, rfl, rfl, rfl, rfl, rfl, rfl, rfl, rfl, rfl, rfl, rfl, rfl, rfl, trivial⟩ ⟨rfl, rfl, rfl, rfl, rfl, rfl, rfl, rfl, rfl, trivial⟩
   refine then_n ?_
   refine wp_seq ?_
   replace hS := hS.fresh 41 rfl
   replace hS := hS.turn 41 rfl (r' := RS.hp (arH none 0 [])) (fun _ _ _ _ h => ⟨⟨rfl, rfl⟩, h⟩)
   obtain ⟨F, hS⟩ := hS.norm [(0, _), (2, _), (3, _), (4, _), (5, _), (6, _), (8, _), (9, _), (10, _), (11, _), (12, _), (13, _), (14, _), (16, _), (17, _), (18, _)] [(0, _), (41, _), (101, _), (102, _), (103, _), (104, _), (106, _), (107, _), (109, _), (110, _)] ⟨rfl, rfl, rfl, rfl, rfl, rfl, rfl, rfl, rfl, rfl, rfl, rfl, rfl, rfl, rfl, rfl, trivial⟩ ⟨rfl, rfl, rfl, rfl, rfl, rfl, rfl, rfl, rfl, rfl, trivial⟩
   refine region_seq hS (by kernel_rfl)
     (cF rfl (o_load (ag := true) (sz := 2) 103 .is (by kernel_rfl) (by kernel_rfl) (by kernel_rfl) (by rfl)) r1 r1
     (cF rfl (o_callG2c 101 41 (lMove0 b) Try.func54 rfl (by kernel_rfl) rfl (Args.two (.pagg .t) (.c rfl))) r1 r2
     (cF rfl (o_move .t (by rfl)) r1 trivial
     (cF rfl (o_extract .t rfl) r1 trivial
     (cF rfl (o_extract .t rfl) r1 trivial
     (cF rfl (o_alloc (zs := [.pointer none, .int .i64 0]) 111 (by kernel_rfl)) trivial trivial
     (cF rfl (o_storeA (sz := 2) 111 .same (.conv .t .agg) (by kernel_rfl) (by kernel_rfl) (by kernel_rfl)) r2 r1
     (cF rfl (o_assign .t (by rfl)) r1 trivial
     Chain.nil))))))))
     (by kernel_rfl) (by rw [hB]; kernel_rfl) ?_
   clear hS; intro a w F hS
   replace hS := hS.sub
   obtain ⟨F, hS⟩ := hS.norm [(0, _), (2, _), (3, _), (4, _), (5, _), (6, _), (8, _), (9, _), (10, _), (11, _), (12, _), (13, _), (14, _), (16, _), (17, _), (18, _), (20, _)] [(0, _), (41, _), (101, _), (102, _), (103, _), (104, _), (106, _), (107, _), (109, _), (110, _)] ⟨rfl, rfl, rfl, rfl, rfl, rfl, rfl, rfl, rfl, rfl, rfl, rfl, rfl, rfl, rfl, rfl, rfl, trivial⟩ ⟨rfl, rfl, rfl, rfl, rfl, rfl, rfl, rfl, rfl, rfl, trivial⟩
   try dsimp only [RS.sub, SF.sub, CF.sub, csub, Anc.sub, List.map, stCells, List.length_cons, List.length_nil, Nat.reduceAdd, List.drop_succ_cons, List.drop_zero, List.drop_nil, List.take_succ_cons, List.take_zero, List.take_nil, List.cons_append, List.nil_append, zCF, ldSF, rPair] at hS
   generalize Act.tau a 19 = v19 at hS
   refine then_n ?_
   refine wp_seq ?_
   refine region_seq hS (by kernel_rfl)
     (cF rfl (o_callP (mnew_c none) Try.func21 rfl (by kernel_rfl) (Args.one (.c rfl))) trivial trivial
     (cF rfl (o_callG1 41 (lPut0) Try.func25 rfl (by kernel_rfl) (Args.three .t (.ci (by kernel_rfl)) (.ci (by kernel_rfl)))) r1 r1
     (cF rfl (o_move .t (by rfl)) r1 trivial
     (cF rfl (o_extract .t rfl) r1 trivial
     (cF rfl (o_extract .t rfl) r1 trivial
     (cF rfl (o_alloc (zs := [.pointer none, .int .i64 0]) 112 (by kernel_rfl)) trivial trivial
     (cF rfl (o_storeA (sz := 2) 112 .same (.conv .t .agg) (by kernel_rfl) (by kernel_rfl) (by kernel_rfl)) r2 r1
     (cF rfl (o_assign .t (by rfl)) r1 trivial
     Chain.nil))))))))
     (by kernel_rfl) (by rw [hB]; kernel_rfl) ?_
   clear hS; intro a w F hS
   replace hS := hS.sub
   obtain ⟨F, hS⟩ := hS.norm [(0, _), (2, _), (3, _), (4, _), (5, _), (6, _), (8, _), (9, _), (10, _), (11, _), (12, _), (13, _), (14, _), (16, _), (17, _), (18, _), (20, _), (22, _)] [(0, _), (41, _), (101, _), (102, _), (103, _), (104, _), (106, _), (107, _), (109, _), (110, _)] ⟨rfl, rfl, rfl, rfl, rfl, rfl, rfl, rfl, rfl, rfl, rfl, rfl, rfl, rfl, rfl, rfl, rfl, rfl, trivial⟩ ⟨rfl, rfl, rfl, rfl, rfl, rfl, rfl, rfl, rfl, rfl, trivial⟩
   try dsimp only [RS.sub, SF.sub, CF.sub, csub, Anc.sub, List.map, stCells, List.length_cons, List.length_nil, Nat.reduceAdd, List.drop_succ_cons, List.drop_zero, List.drop_nil, List.take_succ_cons, List.take_zero, List.take_nil, List.cons_append, List.nil_append, zCF, rPair] at hS
   generalize Act.tau a 21 = v21 at hS
   refine then_n ?_
   refine wp_seq ?_
   refine region_seq hS (by kernel_rfl)
     (cF rfl (o_build (r := []) (zs := [.pointer none, .int .i64 0]) (pl := [(0, 1), (1, 1)]) (by kernel_rfl) (by kernel_rfl) .nil (by rfl)) trivial trivial
     (cF rfl (o_callG1 41 (lPut0) Try.func25 rfl (by kernel_rfl) (Args.three (.pagg .t) (.ci (by kernel_rfl)) (.ci (by kernel_rfl)))) r1 r1
     (cF rfl (o_move .t (by rfl)) r1 trivial
     (cF rfl (o_extract .t rfl) r1 trivial
     (cF rfl (o_extract .t rfl) r1 trivial
     (cF rfl (o_alloc (zs := [.pointer none, .int .i64 0]) 113 (by kernel_rfl)) trivial trivial
     (cF rfl (o_storeA (sz := 2) 113 .same (.conv .t .agg) (by kernel_rfl) (by kernel_rfl) (by kernel_rfl)) r2 r1
     (cF rfl (o_assign .t (by rfl)) r1 trivial
     Chain.nil))))))))
     (by kernel_rfl) (by rw [hB]; kernel_rfl) ?_
   clear hS; intro a w F hS
   replace hS := hS.sub
   obtain ⟨F, hS⟩ := hS.norm [(0, _), (2, _), (3, _), (4, _), (5, _), (6, _), (8, _), (9, _), (10, _), (11, _), (12, _), (13, _), (14, _), (16, _), (17, _), (18, _), (20, _), (22, _), (24, _)] [(0, _), (41, _), (101, _), (102, _), (103, _), (104, _), (106, _), (107, _), (109, _), (110, _)] ⟨rfl, rfl, rfl, rfl, rfl, rfl, rfl, rfl, rfl, rfl, rfl, rfl, rfl, rfl, rfl, rfl, rfl, rfl, rfl, trivial⟩ ⟨rfl, rfl, rfl, rfl, rfl, rfl, rfl, rfl, rfl, rfl, trivial⟩
   try dsimp only [RS.sub, SF.sub, CF.sub, csub, Anc.sub, List.map, stCells, List.length_cons, List.length_nil, Nat.reduceAdd, List.drop_succ_cons, List.drop_zero, List.drop_nil, List.take_succ_cons, List.take_zero, List.take_nil, List.cons_append, List.nil_append, zCF, rPair] at hS
   generalize Act.tau a 23 = v23 at hS
   refine then_n ?_
   refine wp_seq ?_
   refine region_any (by kernel_rfl) hS (by kernel_rfl)
     (cF rfl (o_move .t (by rfl)) r1 trivial
     (cF rfl (o_eql .t (.ci (by kernel_rfl))) r1 trivial
     (cF rfl (o_move .t (by rfl)) r1 trivial
     (Chain.cons (Cert.cond rfl rfl (fun h => o_move .t (by rfl))) r2 trivial
     (Chain.cons (Cert.cond rfl rfl (fun h => o_eql (.w h) (.ci (by kernel_rfl)))) r2 trivial
     (cF rfl (o_and2 .t .t) r2 trivial
     (cF rfl (o_move .t (by rfl)) r1 trivial
     (Chain.cons (Cert.cond rfl rfl (fun h => o_load (ag := true) (sz := 2) 104 .is (by kernel_rfl) (by kernel_rfl) (by kernel_rfl) (by rfl))) r2 r1
     (Chain.cons (Cert.condR rfl rfl (by rfl) (fun h => o_callG1 101 (lLenY b) Try.func30 rfl (by kernel_rfl) (Args.one (.pagg (.w h))))) r2 r1
     (Chain.cons (Cert.cond rfl rfl (fun h => o_eql (.w h) (.ci (by kernel_rfl)))) r2 trivial
     (cF rfl (o_and2 .t .t) r2 trivial
     (cF rfl (o_move .t (by rfl)) r1 trivial
     (Chain.cons (Cert.cond rfl rfl (fun h => o_move .t (by rfl))) r2 trivial
     (Chain.cons (Cert.cond rfl rfl (fun h => o_eql (.w h) (.ci (by kernel_rfl)))) r2 trivial
     (cF rfl (o_and2 .t .t) r2 trivial
     (cF rfl (o_move .t (by rfl)) r1 trivial
     (Chain.cons (Cert.cond rfl rfl (fun h => o_move .t (by rfl))) r2 trivial
     (Chain.cons (Cert.cond rfl rfl (fun h => o_eql (.w h) (.ci (by kernel_rfl)))) r2 trivial
     (cF rfl (o_and2 .t .t) r2 trivial
     (cF rfl (o_move .t (by rfl)) r1 trivial
     (Chain.cons (Cert.cond rfl rfl (fun h => o_load (ag := true) (sz := 2) 106 .is (by kernel_rfl) (by kernel_rfl) (by kernel_rfl) (by rfl))) r2 r1
     (Chain.cons (Cert.condR rfl rfl (by rfl) (fun h => o_callG1 101 (lLen0 b) Try.func30 rfl (by kernel_rfl) (Args.one (.pagg (.w h))))) r2 r1
     (Chain.cons (Cert.cond rfl rfl (fun h => o_eql (.w h) (.ci (by kernel_rfl)))) r2 trivial
     (cF rfl (o_and2 .t .t) r2 trivial
     (cF rfl (o_move .t (by rfl)) r1 trivial
     (Chain.cons (Cert.cond rfl rfl (fun h => o_move .t (by rfl))) r2 trivial
     (Chain.cons (Cert.cond rfl rfl (fun h => o_eql (.w h) (.ci (by kernel_rfl)))) r2 trivial
     (cF rfl (o_and2 .t .t) r2 trivial
     (cF rfl (o_move .t (by rfl)) r1 trivial
     (Chain.cons (Cert.cond rfl rfl (fun h => o_move .t (by rfl))) r2 trivial
     (cF rfl (o_and2 .t .t) r2 trivial
     (cF rfl (o_move .t (by rfl)) r1 trivial
     (Chain.cons (Cert.cond rfl rfl (fun h => o_load (ag := true) (sz := 2) 107 .is (by kernel_rfl) (by kernel_rfl) (by kernel_rfl) (by rfl))) r2 r1
     (Chain.cons (Cert.cond rfl rfl (fun h => o_build (r := [(0, _), (1, _)]) (zs := [.int .i64 0, .int .i64 0]) (pl := [(0, 1), (1, 1)]) (by kernel_rfl) (by kernel_rfl) (.one rfl (.ci (by kernel_rfl)) one_int (by kernel_rfl) (.one rfl (.ci (by kernel_rfl)) one_int (by kernel_rfl) .nil)) (by rfl))) r1 trivial
     (Chain.cons (Cert.cond rfl rfl (fun h => o_eqlS (ks := [true, true]) (by kernel_rfl) (.w h) (.w h) (.int (.int .nil)))) r3 trivial
     (cF rfl (o_and2 .t .t) r2 trivial
     (cF rfl (o_move .t (by rfl)) r1 trivial
     (Chain.cons (Cert.cond rfl rfl (fun h => o_move .t (by rfl))) r2 trivial
     (cF rfl (o_and2 .t .t) r2 trivial
     (cF rfl (o_move .t (by rfl)) r1 trivial
     (Chain.cons (Cert.cond rfl rfl (fun h => o_move .t (by rfl))) r2 trivial
     (Chain.cons (Cert.cond rfl rfl (fun h => o_not (.w h))) r2 trivial
     (cF rfl (o_and2 .t .t) r2 trivial
     (cF rfl (o_move .t (by rfl)) r1 trivial
     (Chain.cons (Cert.cond rfl rfl (fun h => o_load (ag := true) (sz := 2) 103 .is (by kernel_rfl) (by kernel_rfl) (by kernel_rfl) (by rfl))) r2 r1
     (Chain.cons (Cert.condR rfl rfl (by rfl) (fun h => o_callG1 101 (lRank1 b) Try.func32 rfl (by kernel_rfl) (Args.two (.pagg (.w h)) (.ci (by kernel_rfl))))) r2 r1
     (Chain.cons (Cert.cond rfl rfl (fun h => o_eql (.w h) (.ci (by kernel_rfl)))) r2 trivial
     (cF rfl (o_and2 .t .t) r2 trivial
     (cF rfl (o_move .t (by rfl)) r1 trivial
     (Chain.cons (Cert.cond rfl rfl (fun h => o_load (ag := true) (sz := 2) 103 .is (by kernel_rfl) (by kernel_rfl) (by kernel_rfl) (by rfl))) r2 r1
     (Chain.cons (Cert.condR rfl rfl (by rfl) (fun h => o_callG1 101 (lRank2 b) Try.func32 rfl (by kernel_rfl) (Args.two (.pagg (.w h)) (.ci (by kernel_rfl))))) r2 r1
     (Chain.cons (Cert.cond rfl rfl (fun h => o_eql (.w h) (.ci (by kernel_rfl)))) r2 trivial
     (cF rfl (o_and2 .t .t) r2 trivial
     (cF rfl (o_move .t (by rfl)) r1 trivial
     (Chain.cons (Cert.cond rfl rfl (fun h => o_load (ag := true) (sz := 2) 103 .is (by kernel_rfl) (by kernel_rfl) (by kernel_rfl) (by rfl))) r2 r1
     (Chain.cons (Cert.condR rfl rfl (by rfl) (fun h => o_callG1 101 (lHigh1 b) Try.func29 rfl (by kernel_rfl) (Args.one (.pagg (.w h))))) r2 r1
     (Chain.cons (Cert.cond rfl rfl (fun h => o_eql (.w h) (.ci (by kernel_rfl)))) r2 trivial
     (cF rfl (o_and2 .t .t) r2 trivial
     (cF rfl (o_move .t (by rfl)) r1 trivial
     (Chain.cons (Cert.cond rfl rfl (fun h => o_load (ag := true) (sz := 2) 102 .is (by kernel_rfl) (by kernel_rfl) (by kernel_rfl) (by rfl))) r2 r1
     (Chain.cons (Cert.condR rfl rfl (by rfl) (fun h => o_callG1 101 (lHigh0 b) Try.func29 rfl (by kernel_rfl) (Args.one (.pagg (.w h))))) r2 r1
     (Chain.cons (Cert.cond rfl rfl (fun h => o_eql (.w h) (.ci (by kernel_rfl)))) r2 trivial
     (cF rfl (o_and2 .t .t) r2 trivial
     (cF rfl (o_move .t (by rfl)) r1 trivial
     (Chain.cons (Cert.cond rfl rfl (fun h => o_load (ag := true) (sz := 2) 102 .is (by kernel_rfl) (by kernel_rfl) (by kernel_rfl) (by rfl))) r2 r1
     (Chain.cons (Cert.condR rfl rfl (by rfl) (fun h => o_callG1 101 (lLen0 b) Try.func30 rfl (by kernel_rfl) (Args.one (.pagg (.w h))))) r2 r1
     (Chain.cons (Cert.cond rfl rfl (fun h => o_eql (.w h) (.ci (by kernel_rfl)))) r2 trivial
     (cF rfl (o_and2 .t .t) r2 trivial
     (cF rfl (o_move .t (by rfl)) r1 trivial
     (Chain.cons (Cert.cond rfl rfl (fun h => o_move .t (by rfl))) r2 trivial
     (Chain.cons (Cert.cond rfl rfl (fun h => o_eql (.w h) (.ci (by kernel_rfl)))) r2 trivial
     (cF rfl (o_and2 .t .t) r2 trivial
     (cF rfl (o_move .t (by rfl)) r1 trivial
     (Chain.cons (Cert.cond rfl rfl (fun h => o_load (ag := true) (sz := 2) 110 .is (by kernel_rfl) (by kernel_rfl) (by kernel_rfl) (by rfl))) r2 r1
     (Chain.cons (Cert.condR rfl rfl (by rfl) (fun h => o_callG1 109 (lListU b2) Try.func27 rfl (by kernel_rfl) (Args.one (.pagg (.w h))))) r2 r1
     (Chain.cons (Cert.cond rfl rfl (fun h => o_load (ag := true) (sz := 2) 103 .is (by kernel_rfl) (by kernel_rfl) (by kernel_rfl) (by rfl))) r2 r1
     (Chain.cons (Cert.condR rfl rfl (by rfl) (fun h => o_callG1 101 (lList b) Try.func27 rfl (by kernel_rfl) (Args.one (.pagg (.w h))))) r2 r1
     (Chain.cons (Cert.cond rfl rfl (fun h => o_callP (same06_c _ _) Try.func28 rfl (by kernel_rfl) (Args.two (.w h) (.w h)))) r3 trivial
     (cF rfl (o_and2 .t .t) r2 trivial
     (cF rfl (o_move .t (by rfl)) r1 trivial
     (Chain.cons (Cert.cond rfl rfl (fun h => o_move .t (by rfl))) r2 trivial
     (Chain.cons (Cert.cond rfl rfl (fun h => o_eql (.w h) (.ci (by kernel_rfl)))) r2 trivial
     (cF rfl (o_and2 .t .t) r2 trivial
     (cF rfl (o_move .t (by rfl)) r1 trivial
     (Chain.cons (Cert.cond rfl rfl (fun h => o_move .t (by rfl))) r2 trivial
     (Chain.cons (Cert.cond rfl rfl (fun h => o_eql (.w h) (.ci (by kernel_rfl)))) r2 trivial
     (cF rfl (o_and2 .t .t) r2 trivial
     (cF rfl (o_move .t (by rfl)) r1 trivial
     (Chain.cons (Cert.cond rfl rfl (fun h => o_move .t (by rfl))) r2 trivial
     (Chain.cons (Cert.cond rfl rfl (fun h => o_eql (.w h) (.ci (by kernel_rfl)))) r2 trivial
     (cF rfl (o_and2 .t .t) r2 trivial
     (cF rfl (o_move .t (by rfl)) r1 trivial
     (Chain.cons (Cert.cond rfl rfl (fun h => o_build (r := []) (zs := [.pointer none, .int .i64 0]) (pl := [(0, 1), (1, 1)]) (by kernel_rfl) (by kernel_rfl) .nil (by rfl))) r1 trivial
     (Chain.cons (Cert.condR rfl rfl (by rfl) (fun h => o_callG1 41 (lList0) Try.func27 rfl (by kernel_rfl) (Args.one (.pagg (.w h))))) r2 r1
     (Chain.cons (Cert.cond rfl rfl (fun h => o_len_sl Try.underlying55 (.w h))) r2 trivial
     (Chain.cons (Cert.cond rfl rfl (fun h => o_eql (.w h) (.ci (by kernel_rfl)))) r2 trivial
     (cF rfl (o_and2 .t .t) r2 trivial
     (cF rfl (o_assign .t (by rfl)) r1 trivial
     Chain.nil))))))))))))))))))))))))))))))))))))))))))))))))))))))))))))))))))))))))))))))))))))))))))))))))))
     (by kernel_rfl) (by rw [hB]; kernel_rfl) ?_
   clear hS; intro a w F hS
   obtain ⟨F, hS⟩ := hS.norm [(0, _)] [(0, _), (41, _), (101, _), (109, _)] r1 r4
   try dsimp only [List.map, stCells, List.length_cons, List.length_nil, Nat.reduceAdd, List.drop_succ_cons, List.drop_zero, List.drop_nil, List.take_succ_cons, List.take_zero, List.take_nil, List.cons_append, List.nil_append, zCF, ldSF, rPair] at hS
   refine then_n ?_
   refine wp_ret ?_
   refine ret_P hfr hS rfl (.tmp rfl .nil) (.one (.bool (by decide +kernel)))

end Go.Proofs.Ytdfpljecogijaaa
