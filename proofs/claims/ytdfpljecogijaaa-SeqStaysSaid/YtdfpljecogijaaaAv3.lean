/- The builder: made, even. No condition beyond those that each theorem says. -/
import Derived.Test.YtdfpljecogijaaaAv2
namespace Go.Proofs.Ytdfpljecogijaaa
open Go Go.Gm
set_option linter.unusedVariables false
set_option linter.unusedSimpArgs false
set_option maxHeartbeats 4000000
set_option maxRecDepth 8000


/-- What the builder is: its struct, and the arena. -/
def bldH (T : Nat) (v : Value) (o : Option Nat) (root why room : Int) (q : List Cell) : HP := .star [.pt (.val v) T [.pv (.is (arV o)), .pv (.int .i64 root), .pv (.int .i64 why)], RS.hp (arH o room q)]
def mCellS (q : List Cell) (l r x : Int) : Cell := ⟨l, r, 0, x, IntKind.wrap .i64 (IntKind.wrap .i64 ((getC q l).size + (getC q r).size) + 1), IntKind.wrap .i64 (1 + if (getC q l).high < (getC q r).high then (getC q r).high else (getC q l).high)⟩
theorem mCellS_eq (q : List Cell) (l r x : Int) : mCellS q l r x = mCell q l r ⟨0, x⟩ := by unfold mCellS mCell; rw [Int.add_comm 1 _]

theorem smade_c (b : Nat) (o : Option Nat) (root why room : Int) (q : List Cell) (l r : Int) (x : Int) : FnG Try.prog 70 1 [.is (.pointer (some ⟨b, 0, none⟩)), .int .i64 l, .int .i64 r, .int .i64 x] [bldH 118 (.pointer (some ⟨b, 0, none⟩)) o root why room q] (.int .i64 (madeS room q why l r ⟨0, x⟩).2.2) (fun _ => [bldH 118 (.pointer (some ⟨b, 0, none⟩)) o root (madeS room q why l r ⟨0, x⟩).2.1 room (madeS room q why l r ⟨0, x⟩).1]) := by
  refine FnG.mk Try.func70 rfl Try.ntmps70 rfl (by kernel_rfl) ?_
  intro B F0 a w F hB hG hS
  obtain ⟨F, hS⟩ := hS.peel 1 4 rfl rfl
  obtain ⟨F, hS⟩ := hS.peel 1 5 rfl rfl
  obtain ⟨F, hS⟩ := hS.norm [(0, _), (1, _), (2, _), (3, _)] [(0, _), (4, _), (5, _)] ⟨rfl, rfl, rfl, rfl, trivial⟩ ⟨rfl, rfl, rfl, trivial⟩
  refine wp_seq ?_
  refine region_seq hS (by kernel_rfl)
    (cF rfl (o_assign (.ci (by kernel_rfl)) (by rfl)) trivial trivial
    Chain.nil)
    (by kernel_rfl) (by rw [hB]; kernel_rfl) ?_
  clear hS; intro a w F hS
  obtain ⟨F, hS⟩ := hS.norm [(0, _), (1, _), (2, _), (3, _), (8, _)] [(0, _), (4, _), (5, _)] r5 r3
  try dsimp only [rCell, rPair, mCell, mCellS] at hS
  refine then_n ?_
  refine wp_seq ?_
  refine wp_seq ?_
  refine region_seq hS (by kernel_rfl)
    (cF rfl (o_move .t (by rfl)) r1 trivial
    (cF rfl (o_nilCheck 4 .is (by rfl)) r1 r1
    (cF rfl (o_fieldAddr (off := 2) 4 .adr (by kernel_rfl) (by rfl)) r1 r1
    (cF rfl (o_load (ag := false) (sz := 1) 4 .adr (by kernel_rfl) (by kernel_rfl) (by kernel_rfl) (by rfl)) r1 r1
    (cF rfl (o_neq .t (.ci (by kernel_rfl))) r1 trivial
    Chain.nil)))))
    (by kernel_rfl) (by rw [hB]; kernel_rfl) ?_
  clear hS; intro a w F hS
  obtain ⟨F, hS⟩ := hS.norm [(0, _), (1, _), (2, _), (3, _), (8, _), (17, _)] [(0, _), (4, _), (5, _)] r6 r3
  try dsimp only [List.map, List.drop_succ_cons, List.drop_zero, List.drop_nil, List.take_succ_cons, List.take_zero, List.take_nil, ldSF, rCell, rPair, mCell, mCellS] at hS
  refine then_n ?_
  refine cond_b hS rfl (fun hc0 => ?_) (fun hc0 => ?_)
  ·skip
   have hg : (madeS room q why l r ⟨0, x⟩) = (q, why, 0) := madeS_bad (by simpa using hc0)
   refine wp_seq ?_
   refine region_seq hS (by kernel_rfl)
     (cF rfl (o_assign (.ci (by kernel_rfl)) (by rfl)) trivial trivial
     Chain.nil)
     (by kernel_rfl) (by rw [hB]; kernel_rfl) ?_
   clear hS; intro a w F hS
   obtain ⟨F, hS⟩ := hS.norm [(0, _), (1, _), (2, _), (3, _), (8, _)] [(0, _), (4, _), (5, _)] r5 r3
   try dsimp only [rCell, rPair, mCell, mCellS] at hS
   refine then_n ?_
   refine wp_ret ?_
   refine then_r ?_
   have hS := hS.fresh 1 rfl
   obtain ⟨F, hS⟩ := hS.push 1 5 rfl rfl rfl (by kernel_rfl)
   obtain ⟨F, hS⟩ := hS.push 1 4 rfl rfl rfl (by kernel_rfl)
   have hS := hS.turn 1 rfl (r' := RS.hp (bldH 118 (.pointer (some ⟨b, 0, none⟩)) o root (madeS room q why l r ⟨0, x⟩).2.1 room (madeS room q why l r ⟨0, x⟩).1)) (fun _ _ _ _ h => by rw [hg]; exact h)
   refine ret_G1 hG hS rfl (.tmp rfl .nil) (.one (.int (by first | (rw [hg]; done) | (rw [hg]; rfl)))) rfl
  ·skip
   have hg : (madeS room q why l r ⟨0, x⟩) = ((arPut room q (mCellS q l r x)).1, (arPut room q (mCellS q l r x)).2.2, (arPut room q (mCellS q l r x)).2.1) := by rw [mCellS_eq]; exact if_neg (by simpa using hc0)
   refine wp_skip ?_
   refine then_n ?_
   refine wp_seq ?_
   refine region_any (by kernel_rfl) hS (by kernel_rfl)
     (cF rfl (o_move .t (by rfl)) r1 trivial
     (cF rfl (o_nilCheck 4 .is (by rfl)) r1 r1
     (cF rfl (o_fieldAddr (off := 0) 4 .adr (by kernel_rfl) (by rfl)) r1 r1
     (cF rfl (o_load (ag := true) (sz := 2) 4 .adr (by kernel_rfl) (by kernel_rfl) (by kernel_rfl) (by rfl)) r1 r1
     (cF rfl (o_move .t (by rfl)) r1 trivial
     (cF rfl (o_callG1 5 (scell_c o room q root l) Try.func47 rfl (by kernel_rfl) (Args.two (.pagg .t) .t)) r2 r1
     (cF rfl (o_move .t (by rfl)) r1 trivial
     (cF rfl (o_nilCheck 4 .is (by rfl)) r1 r1
     (cF rfl (o_fieldAddr (off := 0) 4 .adr (by kernel_rfl) (by rfl)) r1 r1
     (cF rfl (o_load (ag := true) (sz := 2) 4 .adr (by kernel_rfl) (by kernel_rfl) (by kernel_rfl) (by rfl)) r1 r1
     (cF rfl (o_move .t (by rfl)) r1 trivial
     (cF rfl (o_callG1 5 (scell_c o room q root r) Try.func47 rfl (by kernel_rfl) (Args.two (.pagg .t) .t)) r2 r1
     (cF rfl (o_alloc (zs := [.int .i64 0, .int .i64 0, .int .i64 0, .int .i64 0, .int .i64 0, .int .i64 0]) 101 (by kernel_rfl)) trivial trivial
     (cF rfl (o_alloc (zs := [.int .i64 0, .int .i64 0, .int .i64 0, .int .i64 0, .int .i64 0, .int .i64 0]) 102 (by kernel_rfl)) trivial trivial
     (cF rfl (o_storeA (sz := 6) 101 .same (.conv .t .agg) (by kernel_rfl) (by kernel_rfl) (by kernel_rfl)) r2 r1
     (cF rfl (o_storeA (sz := 6) 102 .same (.conv .t .agg) (by kernel_rfl) (by kernel_rfl) (by kernel_rfl)) r2 r1
     Chain.nil))))))))))))))))
     (by kernel_rfl) (by rw [hB]; kernel_rfl) ?_
   clear hS; intro a w F hS
   replace hS := hS.sub
   obtain ⟨F, hS⟩ := hS.norm [(0, _), (1, _), (2, _), (3, _), (8, _), (9, _), (10, _)] [(0, _), (4, _), (5, _), (101, _), (102, _)] r7 r5
   try dsimp only [RS.sub, SF.sub, CF.sub, csub, Anc.sub, List.map, stCells, List.length_cons, List.length_nil, Nat.reduceAdd, List.drop_succ_cons, List.drop_zero, List.drop_nil, List.take_succ_cons, List.take_zero, List.take_nil, List.cons_append, List.nil_append, zCF, ldSF, rCell, rPair, mCell, mCellS] at hS
   generalize Act.tau a 9 = v9 at hS
   generalize Act.tau a 10 = v10 at hS
   refine then_n ?_
   refine wp_seq ?_
   refine region_any (by kernel_rfl) hS (by kernel_rfl)
     (cF rfl (o_move .t (by rfl)) r1 trivial
     (cF rfl (o_nilCheck 4 .is (by rfl)) r1 r1
     (cF rfl (o_fieldAddr (off := 0) 4 .adr (by kernel_rfl) (by rfl)) r1 r1
     (cF rfl (o_fieldAddr (off := 0) 4 .adr (by kernel_rfl) (by rfl)) r1 r1
     (cF rfl (o_load (ag := false) (sz := 1) 4 .adr (by kernel_rfl) (by kernel_rfl) (by kernel_rfl) (by rfl)) r1 r1
     (cF rfl (o_move .t (by rfl)) r1 trivial
     (cF rfl (o_move .t (by rfl)) r1 trivial
     (cF rfl (o_move .t (by rfl)) r1 trivial
     (cF rfl (o_fieldAddr (off := 4) 101 .is (by kernel_rfl) (by rfl)) r1 r1
     (cF rfl (o_load (ag := false) (sz := 1) 101 .adr (by kernel_rfl) (by kernel_rfl) (by kernel_rfl) (by rfl)) r1 r1
     (cF rfl (o_fieldAddr (off := 4) 102 .is (by kernel_rfl) (by rfl)) r1 r1
     (cF rfl (o_load (ag := false) (sz := 1) 102 .adr (by kernel_rfl) (by kernel_rfl) (by kernel_rfl) (by rfl)) r1 r1
     (cF rfl (o_add .t .t) r2 trivial
     (cF rfl (o_add .t (.ci (by kernel_rfl))) r1 trivial
     (cF rfl (o_fieldAddr (off := 5) 101 .is (by kernel_rfl) (by rfl)) r1 r1
     (cF rfl (o_load (ag := false) (sz := 1) 101 .adr (by kernel_rfl) (by kernel_rfl) (by kernel_rfl) (by rfl)) r1 r1
     (cF rfl (o_fieldAddr (off := 5) 102 .is (by kernel_rfl) (by rfl)) r1 r1
     (cF rfl (o_load (ag := false) (sz := 1) 102 .adr (by kernel_rfl) (by kernel_rfl) (by kernel_rfl) (by rfl)) r1 r1
     (cF rfl (o_max .t .t) r2 trivial
     (cF rfl (o_add (.ci (by kernel_rfl)) .t) r1 trivial
     (cF rfl (o_build (r := [(0, .tmp 36), (1, .tmp 37), (3, .tmp 38), (4, .tmp 44), (5, .tmp 50)]) (zs := [.int .i64 0, .int .i64 0, .int .i64 0, .int .i64 0, .int .i64 0, .int .i64 0]) (pl := [(0, 1), (1, 1), (2, 1), (3, 1), (4, 1), (5, 1)]) (by kernel_rfl) (by kernel_rfl) (.one rfl .t one_int (by kernel_rfl) (.one rfl .t one_int (by kernel_rfl) (.one rfl .t one_int (by kernel_rfl) (.one rfl .t one_int (by kernel_rfl) (.one rfl .t one_int (by kernel_rfl) .nil))))) (by rfl)) r5 trivial
     (cF rfl (o_callG1 5 (aPut_c o room q (mCellS q l r x)) Try.func78 rfl (by kernel_rfl) (Args.two .t (.pagg .t))) r2 r1
     (cF rfl (o_move .t (by rfl)) r1 trivial
     (cF rfl (o_extract .t rfl) r1 trivial
     (cF rfl (o_extract .t rfl) r1 trivial
     (cF rfl (o_assign .t (by rfl)) r1 trivial
     (cF rfl (o_assign .t (by rfl)) r1 trivial
     Chain.nil)))))))))))))))))))))))))))
     (by kernel_rfl) (by rw [hB]; kernel_rfl) ?_
   clear hS; intro a w F hS
   obtain ⟨F, hS⟩ := hS.norm [(0, _), (8, _), (11, _), (12, _)] [(0, _), (4, _), (5, _)] r4 r3
   try dsimp only [List.map, stCells, List.length_cons, List.length_nil, Nat.reduceAdd, List.drop_succ_cons, List.drop_zero, List.drop_nil, List.take_succ_cons, List.take_zero, List.take_nil, List.cons_append, List.nil_append, zCF, ldSF, rCell, rPair, mCell, mCellS] at hS
   refine then_n ?_
   refine wp_seq ?_
   refine region_seq hS (by kernel_rfl)
     (cF rfl (o_move .t (by rfl)) r1 trivial
     (cF rfl (o_move .t (by rfl)) r1 trivial
     (cF rfl (o_nilCheck 4 .is (by rfl)) r1 r1
     (cF rfl (o_fieldAddr (off := 2) 4 .adr (by kernel_rfl) (by rfl)) r1 r1
     (cF rfl (o_store1 4 .adr .t one_int (by kernel_rfl) (by kernel_rfl)) r2 r1
     Chain.nil)))))
     (by kernel_rfl) (by rw [hB]; kernel_rfl) ?_
   clear hS; intro a w F hS
   obtain ⟨F, hS⟩ := hS.norm [(8, _), (11, _)] [(0, _), (4, _), (5, _)] r2 r3
   try dsimp only [List.map, stCells, List.length_cons, List.length_nil, Nat.reduceAdd, List.drop_succ_cons, List.drop_zero, List.drop_nil, List.take_succ_cons, List.take_zero, List.take_nil, List.cons_append, List.nil_append, zCF, rCell, rPair, mCell, mCellS] at hS
   refine then_n ?_
   refine wp_seq ?_
   refine region_seq hS (by kernel_rfl)
     (cF rfl (o_move .t (by rfl)) r1 trivial
     (cF rfl (o_assign .t (by rfl)) r1 trivial
     Chain.nil))
     (by kernel_rfl) (by rw [hB]; kernel_rfl) ?_
   clear hS; intro a w F hS
   obtain ⟨F, hS⟩ := hS.norm [(8, _)] [(0, _), (4, _), (5, _)] r1 r3
   try dsimp only [rCell, rPair, mCell, mCellS] at hS
   refine then_n ?_
   refine wp_ret ?_
   have hS := hS.fresh 1 rfl
   obtain ⟨F, hS⟩ := hS.push 1 5 rfl rfl rfl (by kernel_rfl)
   obtain ⟨F, hS⟩ := hS.push 1 4 rfl rfl rfl (by kernel_rfl)
   have hS := hS.turn 1 rfl (r' := RS.hp (bldH 118 (.pointer (some ⟨b, 0, none⟩)) o root (madeS room q why l r ⟨0, x⟩).2.1 room (madeS room q why l r ⟨0, x⟩).1)) (fun _ _ _ _ h => by rw [hg]; exact h)
   refine ret_G1 hG hS rfl (.tmp rfl .nil) (.one (.int (by first | (rw [hg]; done) | (rw [hg]; rfl)))) rfl

theorem seven_c (b : Nat) (o : Option Nat) (root why room : Int) (q : List Cell) (l r : Int) (x : Int) : FnG Try.prog 71 1 [.is (.pointer (some ⟨b, 0, none⟩)), .int .i64 l, .int .i64 r, .int .i64 x] [bldH 118 (.pointer (some ⟨b, 0, none⟩)) o root why room q] (.int .i64 (evenS (fun _ => 0) room q why l r ⟨0, x⟩).2.2) (fun _ => [bldH 118 (.pointer (some ⟨b, 0, none⟩)) o root (evenS (fun _ => 0) room q why l r ⟨0, x⟩).2.1 room (evenS (fun _ => 0) room q why l r ⟨0, x⟩).1]) := by
  refine FnG.mk Try.func71 rfl Try.ntmps71 rfl (by kernel_rfl) ?_
  intro B F0 a w F hB hG hS
  obtain ⟨F, hS⟩ := hS.peel 1 4 rfl rfl
  obtain ⟨F, hS⟩ := hS.peel 1 5 rfl rfl
  obtain ⟨F, hS⟩ := hS.norm [(0, _), (1, _), (2, _), (3, _)] [(0, _), (4, _), (5, _)] ⟨rfl, rfl, rfl, rfl, trivial⟩ ⟨rfl, rfl, rfl, trivial⟩
  refine wp_seq ?_
  refine region_seq hS (by kernel_rfl)
    (cF rfl (o_assign (.ci (by kernel_rfl)) (by rfl)) trivial trivial
    Chain.nil)
    (by kernel_rfl) (by rw [hB]; kernel_rfl) ?_
  clear hS; intro a w F hS
  obtain ⟨F, hS⟩ := hS.norm [(0, _), (1, _), (2, _), (3, _), (8, _)] [(0, _), (4, _), (5, _)] r5 r3
  try dsimp only [rCell, rPair, mCell, pairOf] at hS
  refine then_n ?_
  refine wp_seq ?_
  refine region_any (by kernel_rfl) hS (by kernel_rfl)
    (cF rfl (o_move .t (by rfl)) r1 trivial
    (cF rfl (o_nilCheck 4 .is (by rfl)) r1 r1
    (cF rfl (o_fieldAddr (off := 0) 4 .adr (by kernel_rfl) (by rfl)) r1 r1
    (cF rfl (o_load (ag := true) (sz := 2) 4 .adr (by kernel_rfl) (by kernel_rfl) (by kernel_rfl) (by rfl)) r1 r1
    (cF rfl (o_move .t (by rfl)) r1 trivial
    (cF rfl (o_callG1 5 (scell_c o room q root l) Try.func47 rfl (by kernel_rfl) (Args.two (.pagg .t) .t)) r2 r1
    (cF rfl (o_move .t (by rfl)) r1 trivial
    (cF rfl (o_nilCheck 4 .is (by rfl)) r1 r1
    (cF rfl (o_fieldAddr (off := 0) 4 .adr (by kernel_rfl) (by rfl)) r1 r1
    (cF rfl (o_load (ag := true) (sz := 2) 4 .adr (by kernel_rfl) (by kernel_rfl) (by kernel_rfl) (by rfl)) r1 r1
    (cF rfl (o_move .t (by rfl)) r1 trivial
    (cF rfl (o_callG1 5 (scell_c o room q root r) Try.func47 rfl (by kernel_rfl) (Args.two (.pagg .t) .t)) r2 r1
    (cF rfl (o_alloc (zs := [.int .i64 0, .int .i64 0, .int .i64 0, .int .i64 0, .int .i64 0, .int .i64 0]) 101 (by kernel_rfl)) trivial trivial
    (cF rfl (o_alloc (zs := [.int .i64 0, .int .i64 0, .int .i64 0, .int .i64 0, .int .i64 0, .int .i64 0]) 102 (by kernel_rfl)) trivial trivial
    (cF rfl (o_storeA (sz := 6) 101 .same (.conv .t .agg) (by kernel_rfl) (by kernel_rfl) (by kernel_rfl)) r2 r1
    (cF rfl (o_storeA (sz := 6) 102 .same (.conv .t .agg) (by kernel_rfl) (by kernel_rfl) (by kernel_rfl)) r2 r1
    Chain.nil))))))))))))))))
    (by kernel_rfl) (by rw [hB]; kernel_rfl) ?_
  clear hS; intro a w F hS
  replace hS := hS.sub
  obtain ⟨F, hS⟩ := hS.norm [(0, _), (1, _), (2, _), (3, _), (8, _), (9, _), (10, _)] [(0, _), (4, _), (5, _), (101, _), (102, _)] r7 r5
  try dsimp only [RS.sub, SF.sub, CF.sub, csub, Anc.sub, List.map, stCells, List.length_cons, List.length_nil, Nat.reduceAdd, List.drop_succ_cons, List.drop_zero, List.drop_nil, List.take_succ_cons, List.take_zero, List.take_nil, List.cons_append, List.nil_append, zCF, ldSF, rCell, rPair, mCell, pairOf] at hS
  generalize Act.tau a 9 = v9 at hS
  generalize Act.tau a 10 = v10 at hS
  refine then_n ?_
  refine wp_seq ?_
  refine wp_seq ?_
  refine region_seq hS (by kernel_rfl)
    (cF rfl (o_fieldAddr (off := 5) 101 .is (by kernel_rfl) (by rfl)) r1 r1
    (cF rfl (o_load (ag := false) (sz := 1) 101 .adr (by kernel_rfl) (by kernel_rfl) (by kernel_rfl) (by rfl)) r1 r1
    (cF rfl (o_fieldAddr (off := 5) 102 .is (by kernel_rfl) (by rfl)) r1 r1
    (cF rfl (o_load (ag := false) (sz := 1) 102 .adr (by kernel_rfl) (by kernel_rfl) (by kernel_rfl) (by rfl)) r1 r1
    (cF rfl (o_add .t (.ci (by kernel_rfl))) r1 trivial
    (cF rfl (o_gtr .t .t) r2 trivial
    Chain.nil))))))
    (by kernel_rfl) (by rw [hB]; kernel_rfl) ?_
  clear hS; intro a w F hS
  obtain ⟨F, hS⟩ := hS.norm [(0, _), (1, _), (2, _), (3, _), (8, _), (9, _), (10, _), (30, _)] [(0, _), (4, _), (5, _), (101, _), (102, _)] r8 r5
  try dsimp only [List.map, List.drop_succ_cons, List.drop_zero, List.drop_nil, List.take_succ_cons, List.take_zero, List.take_nil, ldSF, rCell, rPair, mCell, pairOf] at hS
  refine then_n ?_
  refine cond_b hS rfl (fun hc0 => ?_) (fun hc0 => ?_)
  ·skip
   have h1 : (IntKind.wrap .i64 ((getC q r).high + 1) < (getC q l).high) := by simp only [decide_eq_true_eq, decide_eq_false_iff_not] at hc0; omega
   refine wp_seq ?_
   refine region_any (by kernel_rfl) hS (by kernel_rfl)
     (cF rfl (o_move .t (by rfl)) r1 trivial
     (cF rfl (o_nilCheck 4 .is (by rfl)) r1 r1
     (cF rfl (o_fieldAddr (off := 0) 4 .adr (by kernel_rfl) (by rfl)) r1 r1
     (cF rfl (o_load (ag := true) (sz := 2) 4 .adr (by kernel_rfl) (by kernel_rfl) (by kernel_rfl) (by rfl)) r1 r1
     (cF rfl (o_fieldAddr (off := 1) 101 .is (by kernel_rfl) (by rfl)) r1 r1
     (cF rfl (o_load (ag := false) (sz := 1) 101 .adr (by kernel_rfl) (by kernel_rfl) (by kernel_rfl) (by rfl)) r1 r1
     (cF rfl (o_callG1 5 (scell_c o room q root (getC q l).right) Try.func47 rfl (by kernel_rfl) (Args.two (.pagg .t) .t)) r2 r1
     (cF rfl (o_alloc (zs := [.int .i64 0, .int .i64 0, .int .i64 0, .int .i64 0, .int .i64 0, .int .i64 0]) 103 (by kernel_rfl)) trivial trivial
     (cF rfl (o_storeA (sz := 6) 103 .same (.conv .t .agg) (by kernel_rfl) (by kernel_rfl) (by kernel_rfl)) r2 r1
     Chain.nil)))))))))
     (by kernel_rfl) (by rw [hB]; kernel_rfl) ?_
   clear hS; intro a w F hS
   replace hS := hS.sub
   obtain ⟨F, hS⟩ := hS.norm [(0, _), (1, _), (2, _), (3, _), (8, _), (9, _), (10, _), (11, _)] [(0, _), (4, _), (5, _), (101, _), (102, _), (103, _)] r8 r6
   try dsimp only [RS.sub, SF.sub, CF.sub, csub, Anc.sub, List.map, stCells, List.length_cons, List.length_nil, Nat.reduceAdd, List.drop_succ_cons, List.drop_zero, List.drop_nil, List.take_succ_cons, List.take_zero, List.take_nil, List.cons_append, List.nil_append, zCF, ldSF, rCell, rPair, mCell, pairOf] at hS
   generalize Act.tau a 11 = v11 at hS
   refine then_n ?_
   refine wp_seq ?_
   refine wp_seq ?_
   refine region_any (by kernel_rfl) hS (by kernel_rfl)
     (cF rfl (o_fieldAddr (off := 5) 103 .is (by kernel_rfl) (by rfl)) r1 r1
     (cF rfl (o_load (ag := false) (sz := 1) 103 .adr (by kernel_rfl) (by kernel_rfl) (by kernel_rfl) (by rfl)) r1 r1
     (cF rfl (o_move .t (by rfl)) r1 trivial
     (cF rfl (o_nilCheck 4 .is (by rfl)) r1 r1
     (cF rfl (o_fieldAddr (off := 0) 4 .adr (by kernel_rfl) (by rfl)) r1 r1
     (cF rfl (o_load (ag := true) (sz := 2) 4 .adr (by kernel_rfl) (by kernel_rfl) (by kernel_rfl) (by rfl)) r1 r1
     (cF rfl (o_fieldAddr (off := 0) 101 .is (by kernel_rfl) (by rfl)) r1 r1
     (cF rfl (o_load (ag := false) (sz := 1) 101 .adr (by kernel_rfl) (by kernel_rfl) (by kernel_rfl) (by rfl)) r1 r1
     (cF rfl (o_callG1 5 (scell_c o room q root (getC q l).left) Try.func47 rfl (by kernel_rfl) (Args.two (.pagg .t) .t)) r2 r1
     (cF rfl (o_field1 (ft := 3) (off := 5) (by kernel_rfl) (by kernel_rfl) .t rfl) r1 trivial
     (cF rfl (o_gtr .t .t) r2 trivial
     Chain.nil)))))))))))
     (by kernel_rfl) (by rw [hB]; kernel_rfl) ?_
   clear hS; intro a w F hS
   obtain ⟨F, hS⟩ := hS.norm [(0, _), (1, _), (2, _), (3, _), (8, _), (9, _), (10, _), (11, _), (48, _)] [(0, _), (4, _), (5, _), (101, _), (102, _), (103, _)] ⟨rfl, rfl, rfl, rfl, rfl, rfl, rfl, rfl, rfl, trivial⟩ r6
   try dsimp only [List.map, List.drop_succ_cons, List.drop_zero, List.drop_nil, List.take_succ_cons, List.take_zero, List.take_nil, ldSF, rCell, rPair, mCell, pairOf] at hS
   refine then_n ?_
   refine cond_b hS rfl (fun hc1 => ?_) (fun hc1 => ?_)
   ·skip
    have h3 : ¬ ((getC q (getC q l).right).high ≤ (getC q (getC q l).left).high) := by simp only [decide_eq_true_eq, decide_eq_false_iff_not] at hc1; omega
    have hg : (evenS (fun _ => 0) room q why l r ⟨0, x⟩) = (madeS room (madeS room (madeS room q why (getC q l).left (getC q (getC q l).right).left (⟨0, (getC q l).val⟩ : PairD)).1 (madeS room q why (getC q l).left (getC q (getC q l).right).left (⟨0, (getC q l).val⟩ : PairD)).2.1 (getC q (getC q l).right).right r ⟨0, x⟩).1 (madeS room (madeS room q why (getC q l).left (getC q (getC q l).right).left (⟨0, (getC q l).val⟩ : PairD)).1 (madeS room q why (getC q l).left (getC q (getC q l).right).left (⟨0, (getC q l).val⟩ : PairD)).2.1 (getC q (getC q l).right).right r ⟨0, x⟩).2.1 (madeS room q why (getC q l).left (getC q (getC q l).right).left (⟨0, (getC q l).val⟩ : PairD)).2.2 (madeS room (madeS room q why (getC q l).left (getC q (getC q l).right).left (⟨0, (getC q l).val⟩ : PairD)).1 (madeS room q why (getC q l).left (getC q (getC q l).right).left (⟨0, (getC q l).val⟩ : PairD)).2.1 (getC q (getC q l).right).right r ⟨0, x⟩).2.2 (⟨0, (getC q (getC q l).right).val⟩ : PairD)) := by unfold evenS; rw [if_pos h1, if_neg h3] <;> rfl
    refine wp_seq ?_
    have hS := hS.fresh 1 rfl
    obtain ⟨F, hS⟩ := hS.push 1 5 rfl rfl rfl (by kernel_rfl)
    obtain ⟨F, hS⟩ := hS.push 1 4 rfl rfl rfl (by kernel_rfl)
    have hS := hS.turn 1 rfl (r' := RS.hp (bldH 118 (.pointer (some ⟨b, 0, none⟩)) o root why room q)) (fun _ _ _ _ h => h)
    obtain ⟨F, hS⟩ := hS.norm [(0, _), (1, _), (2, _), (3, _), (8, _), (9, _), (10, _), (11, _), (48, _)] [(0, _), (1, _), (101, _), (102, _), (103, _)] ⟨rfl, rfl, rfl, rfl, rfl, rfl, rfl, rfl, rfl, trivial⟩ r5
    refine region_any (by kernel_rfl) hS (by kernel_rfl)
      (cF rfl (o_move .t (by rfl)) r1 trivial
      (cF rfl (o_move .t (by rfl)) r1 trivial
      (cF rfl (o_fieldAddr (off := 0) 101 .is (by kernel_rfl) (by rfl)) r1 r1
      (cF rfl (o_load (ag := false) (sz := 1) 101 .adr (by kernel_rfl) (by kernel_rfl) (by kernel_rfl) (by rfl)) r1 r1
      (cF rfl (o_fieldAddr (off := 0) 103 .is (by kernel_rfl) (by rfl)) r1 r1
      (cF rfl (o_load (ag := false) (sz := 1) 103 .adr (by kernel_rfl) (by kernel_rfl) (by kernel_rfl) (by rfl)) r1 r1
      (cF rfl (o_fieldAddr (off := 3) 101 .is (by kernel_rfl) (by rfl)) r1 r1
      (cF rfl (o_load (ag := false) (sz := 1) 101 .adr (by kernel_rfl) (by kernel_rfl) (by kernel_rfl) (by rfl)) r1 r1
      (cF rfl (o_callG1 1 (smade_c b o root why room q (getC q l).left (getC q (getC q l).right).left (getC q l).val) Try.func70 rfl (by kernel_rfl) (Args.four .t .t .t .t)) r4 r1
      (cF rfl (o_move .t (by rfl)) r1 trivial
      (cF rfl (o_fieldAddr (off := 1) 103 .is (by kernel_rfl) (by rfl)) r1 r1
      (cF rfl (o_load (ag := false) (sz := 1) 103 .adr (by kernel_rfl) (by kernel_rfl) (by kernel_rfl) (by rfl)) r1 r1
      (cF rfl (o_move .t (by rfl)) r1 trivial
      (cF rfl (o_move .t (by rfl)) r1 trivial
      (cF rfl (o_callG1 1 (smade_c b o root (madeS room q why (getC q l).left (getC q (getC q l).right).left (⟨0, (getC q l).val⟩ : PairD)).2.1 room (madeS room q why (getC q l).left (getC q (getC q l).right).left (⟨0, (getC q l).val⟩ : PairD)).1 (getC q (getC q l).right).right r x) Try.func70 rfl (by kernel_rfl) (Args.four .t .t .t .t)) r4 r1
      (cF rfl (o_fieldAddr (off := 3) 103 .is (by kernel_rfl) (by rfl)) r1 r1
      (cF rfl (o_load (ag := false) (sz := 1) 103 .adr (by kernel_rfl) (by kernel_rfl) (by kernel_rfl) (by rfl)) r1 r1
      (cF rfl (o_callG1 1 (smade_c b o root (madeS room (madeS room q why (getC q l).left (getC q (getC q l).right).left (⟨0, (getC q l).val⟩ : PairD)).1 (madeS room q why (getC q l).left (getC q (getC q l).right).left (⟨0, (getC q l).val⟩ : PairD)).2.1 (getC q (getC q l).right).right r ⟨0, x⟩).2.1 room (madeS room (madeS room q why (getC q l).left (getC q (getC q l).right).left (⟨0, (getC q l).val⟩ : PairD)).1 (madeS room q why (getC q l).left (getC q (getC q l).right).left (⟨0, (getC q l).val⟩ : PairD)).2.1 (getC q (getC q l).right).right r ⟨0, x⟩).1 (madeS room q why (getC q l).left (getC q (getC q l).right).left (⟨0, (getC q l).val⟩ : PairD)).2.2 (madeS room (madeS room q why (getC q l).left (getC q (getC q l).right).left (⟨0, (getC q l).val⟩ : PairD)).1 (madeS room q why (getC q l).left (getC q (getC q l).right).left (⟨0, (getC q l).val⟩ : PairD)).2.1 (getC q (getC q l).right).right r ⟨0, x⟩).2.2 (getC q (getC q l).right).val) Try.func70 rfl (by kernel_rfl) (Args.four .t .t .t .t)) r4 r1
      (cF rfl (o_assign .t (by rfl)) r1 trivial
      Chain.nil)))))))))))))))))))
      (by kernel_rfl) (by rw [hB]; kernel_rfl) ?_
    clear hS; intro a w F hS
    obtain ⟨F, hS⟩ := hS.norm [(0, _), (1, _), (2, _), (3, _), (8, _), (9, _), (10, _)] [(0, _), (1, _), (101, _), (102, _)] r7 r4
    try dsimp only [List.map, List.drop_succ_cons, List.drop_zero, List.drop_nil, List.take_succ_cons, List.take_zero, List.take_nil, ldSF, rCell, rPair, mCell, pairOf] at hS
    refine then_n ?_
    refine wp_ret ?_
    refine then_r ?_
    refine then_r ?_
    have hS := hS.turn 1 rfl (r' := RS.hp (bldH 118 (.pointer (some ⟨b, 0, none⟩)) o root (evenS (fun _ => 0) room q why l r ⟨0, x⟩).2.1 room (evenS (fun _ => 0) room q why l r ⟨0, x⟩).1)) (fun _ _ _ _ h => by rw [hg]; exact h)
    refine ret_G1 hG hS rfl (.tmp rfl .nil) (.one (.int (by first | (rw [hg]; done) | (rw [hg]; rfl)))) rfl
   ·skip
    have h3 : ((getC q (getC q l).right).high ≤ (getC q (getC q l).left).high) := by simp only [decide_eq_true_eq, decide_eq_false_iff_not] at hc1; omega
    have hg : (evenS (fun _ => 0) room q why l r ⟨0, x⟩) = (madeS room (madeS room q why (getC q l).right r ⟨0, x⟩).1 (madeS room q why (getC q l).right r ⟨0, x⟩).2.1 (getC q l).left (madeS room q why (getC q l).right r ⟨0, x⟩).2.2 (⟨0, (getC q l).val⟩ : PairD)) := by unfold evenS; rw [if_pos h1, if_pos h3] <;> rfl
    refine wp_skip ?_
    refine then_n ?_
    refine wp_seq ?_
    have hS := hS.fresh 1 rfl
    obtain ⟨F, hS⟩ := hS.push 1 5 rfl rfl rfl (by kernel_rfl)
    obtain ⟨F, hS⟩ := hS.push 1 4 rfl rfl rfl (by kernel_rfl)
    have hS := hS.turn 1 rfl (r' := RS.hp (bldH 118 (.pointer (some ⟨b, 0, none⟩)) o root why room q)) (fun _ _ _ _ h => h)
    obtain ⟨F, hS⟩ := hS.norm [(0, _), (1, _), (2, _), (3, _), (8, _), (9, _), (10, _), (11, _), (48, _)] [(0, _), (1, _), (101, _), (102, _), (103, _)] ⟨rfl, rfl, rfl, rfl, rfl, rfl, rfl, rfl, rfl, trivial⟩ r5
    refine region_any (by kernel_rfl) hS (by kernel_rfl)
      (cF rfl (o_move .t (by rfl)) r1 trivial
      (cF rfl (o_fieldAddr (off := 0) 101 .is (by kernel_rfl) (by rfl)) r1 r1
      (cF rfl (o_load (ag := false) (sz := 1) 101 .adr (by kernel_rfl) (by kernel_rfl) (by kernel_rfl) (by rfl)) r1 r1
      (cF rfl (o_move .t (by rfl)) r1 trivial
      (cF rfl (o_fieldAddr (off := 1) 101 .is (by kernel_rfl) (by rfl)) r1 r1
      (cF rfl (o_load (ag := false) (sz := 1) 101 .adr (by kernel_rfl) (by kernel_rfl) (by kernel_rfl) (by rfl)) r1 r1
      (cF rfl (o_move .t (by rfl)) r1 trivial
      (cF rfl (o_move .t (by rfl)) r1 trivial
      (cF rfl (o_callG1 1 (smade_c b o root why room q (getC q l).right r x) Try.func70 rfl (by kernel_rfl) (Args.four .t .t .t .t)) r4 r1
      (cF rfl (o_fieldAddr (off := 3) 101 .is (by kernel_rfl) (by rfl)) r1 r1
      (cF rfl (o_load (ag := false) (sz := 1) 101 .adr (by kernel_rfl) (by kernel_rfl) (by kernel_rfl) (by rfl)) r1 r1
      (cF rfl (o_callG1 1 (smade_c b o root (madeS room q why (getC q l).right r ⟨0, x⟩).2.1 room (madeS room q why (getC q l).right r ⟨0, x⟩).1 (getC q l).left (madeS room q why (getC q l).right r ⟨0, x⟩).2.2 (getC q l).val) Try.func70 rfl (by kernel_rfl) (Args.four .t .t .t .t)) r4 r1
      (cF rfl (o_assign .t (by rfl)) r1 trivial
      Chain.nil)))))))))))))
      (by kernel_rfl) (by rw [hB]; kernel_rfl) ?_
    clear hS; intro a w F hS
    obtain ⟨F, hS⟩ := hS.norm [(0, _), (1, _), (2, _), (3, _), (8, _), (9, _), (10, _)] [(0, _), (1, _), (101, _), (102, _)] r7 r4
    try dsimp only [List.map, List.drop_succ_cons, List.drop_zero, List.drop_nil, List.take_succ_cons, List.take_zero, List.take_nil, ldSF, rCell, rPair, mCell, pairOf] at hS
    refine then_n ?_
    refine wp_ret ?_
    refine then_r ?_
    have hS := hS.turn 1 rfl (r' := RS.hp (bldH 118 (.pointer (some ⟨b, 0, none⟩)) o root (evenS (fun _ => 0) room q why l r ⟨0, x⟩).2.1 room (evenS (fun _ => 0) room q why l r ⟨0, x⟩).1)) (fun _ _ _ _ h => by rw [hg]; exact h)
    refine ret_G1 hG hS rfl (.tmp rfl .nil) (.one (.int (by first | (rw [hg]; done) | (rw [hg]; rfl)))) rfl
  ·skip
   have h1 : ¬ (IntKind.wrap .i64 ((getC q r).high + 1) < (getC q l).high) := by simp only [decide_eq_true_eq, decide_eq_false_iff_not] at hc0; omega
   refine wp_skip ?_
   refine then_n ?_
   refine wp_seq ?_
   refine wp_seq ?_
   refine region_seq hS (by kernel_rfl)
     (cF rfl (o_fieldAddr (off := 5) 102 .is (by kernel_rfl) (by rfl)) r1 r1
     (cF rfl (o_load (ag := false) (sz := 1) 102 .adr (by kernel_rfl) (by kernel_rfl) (by kernel_rfl) (by rfl)) r1 r1
     (cF rfl (o_fieldAddr (off := 5) 101 .is (by kernel_rfl) (by rfl)) r1 r1
     (cF rfl (o_load (ag := false) (sz := 1) 101 .adr (by kernel_rfl) (by kernel_rfl) (by kernel_rfl) (by rfl)) r1 r1
     (cF rfl (o_add .t (.ci (by kernel_rfl))) r1 trivial
     (cF rfl (o_gtr .t .t) r2 trivial
     Chain.nil))))))
     (by kernel_rfl) (by rw [hB]; kernel_rfl) ?_
   clear hS; intro a w F hS
   obtain ⟨F, hS⟩ := hS.norm [(0, _), (1, _), (2, _), (3, _), (8, _), (10, _), (84, _)] [(0, _), (4, _), (5, _), (102, _)] r7 r4
   try dsimp only [List.map, List.drop_succ_cons, List.drop_zero, List.drop_nil, List.take_succ_cons, List.take_zero, List.take_nil, ldSF, rCell, rPair, mCell, pairOf] at hS
   refine then_n ?_
   refine cond_b hS rfl (fun hc2 => ?_) (fun hc2 => ?_)
   ·skip
    have h2 : (IntKind.wrap .i64 ((getC q l).high + 1) < (getC q r).high) := by simp only [decide_eq_true_eq, decide_eq_false_iff_not] at hc2; omega
    refine wp_seq ?_
    refine region_any (by kernel_rfl) hS (by kernel_rfl)
      (cF rfl (o_move .t (by rfl)) r1 trivial
      (cF rfl (o_nilCheck 4 .is (by rfl)) r1 r1
      (cF rfl (o_fieldAddr (off := 0) 4 .adr (by kernel_rfl) (by rfl)) r1 r1
      (cF rfl (o_load (ag := true) (sz := 2) 4 .adr (by kernel_rfl) (by kernel_rfl) (by kernel_rfl) (by rfl)) r1 r1
      (cF rfl (o_fieldAddr (off := 0) 102 .is (by kernel_rfl) (by rfl)) r1 r1
      (cF rfl (o_load (ag := false) (sz := 1) 102 .adr (by kernel_rfl) (by kernel_rfl) (by kernel_rfl) (by rfl)) r1 r1
      (cF rfl (o_callG1 5 (scell_c o room q root (getC q r).left) Try.func47 rfl (by kernel_rfl) (Args.two (.pagg .t) .t)) r2 r1
      (cF rfl (o_alloc (zs := [.int .i64 0, .int .i64 0, .int .i64 0, .int .i64 0, .int .i64 0, .int .i64 0]) 104 (by kernel_rfl)) trivial trivial
      (cF rfl (o_storeA (sz := 6) 104 .same (.conv .t .agg) (by kernel_rfl) (by kernel_rfl) (by kernel_rfl)) r2 r1
      Chain.nil)))))))))
      (by kernel_rfl) (by rw [hB]; kernel_rfl) ?_
    clear hS; intro a w F hS
    replace hS := hS.sub
    obtain ⟨F, hS⟩ := hS.norm [(0, _), (1, _), (2, _), (3, _), (8, _), (10, _), (12, _)] [(0, _), (4, _), (5, _), (102, _), (104, _)] r7 r5
    try dsimp only [RS.sub, SF.sub, CF.sub, csub, Anc.sub, List.map, stCells, List.length_cons, List.length_nil, Nat.reduceAdd, List.drop_succ_cons, List.drop_zero, List.drop_nil, List.take_succ_cons, List.take_zero, List.take_nil, List.cons_append, List.nil_append, zCF, ldSF, rCell, rPair, mCell, pairOf] at hS
    generalize Act.tau a 12 = v12 at hS
    refine then_n ?_
    refine wp_seq ?_
    refine wp_seq ?_
    refine region_any (by kernel_rfl) hS (by kernel_rfl)
      (cF rfl (o_fieldAddr (off := 5) 104 .is (by kernel_rfl) (by rfl)) r1 r1
      (cF rfl (o_load (ag := false) (sz := 1) 104 .adr (by kernel_rfl) (by kernel_rfl) (by kernel_rfl) (by rfl)) r1 r1
      (cF rfl (o_move .t (by rfl)) r1 trivial
      (cF rfl (o_nilCheck 4 .is (by rfl)) r1 r1
      (cF rfl (o_fieldAddr (off := 0) 4 .adr (by kernel_rfl) (by rfl)) r1 r1
      (cF rfl (o_load (ag := true) (sz := 2) 4 .adr (by kernel_rfl) (by kernel_rfl) (by kernel_rfl) (by rfl)) r1 r1
      (cF rfl (o_fieldAddr (off := 1) 102 .is (by kernel_rfl) (by rfl)) r1 r1
      (cF rfl (o_load (ag := false) (sz := 1) 102 .adr (by kernel_rfl) (by kernel_rfl) (by kernel_rfl) (by rfl)) r1 r1
      (cF rfl (o_callG1 5 (scell_c o room q root (getC q r).right) Try.func47 rfl (by kernel_rfl) (Args.two (.pagg .t) .t)) r2 r1
      (cF rfl (o_field1 (ft := 3) (off := 5) (by kernel_rfl) (by kernel_rfl) .t rfl) r1 trivial
      (cF rfl (o_gtr .t .t) r2 trivial
      Chain.nil)))))))))))
      (by kernel_rfl) (by rw [hB]; kernel_rfl) ?_
    clear hS; intro a w F hS
    obtain ⟨F, hS⟩ := hS.norm [(0, _), (1, _), (2, _), (3, _), (8, _), (10, _), (12, _), (102, _)] [(0, _), (4, _), (5, _), (102, _), (104, _)] r8 r5
    try dsimp only [List.map, List.drop_succ_cons, List.drop_zero, List.drop_nil, List.take_succ_cons, List.take_zero, List.take_nil, ldSF, rCell, rPair, mCell, pairOf] at hS
    refine then_n ?_
    refine cond_b hS rfl (fun hc3 => ?_) (fun hc3 => ?_)
    ·skip
     have h3 : ¬ ((getC q (getC q r).left).high ≤ (getC q (getC q r).right).high) := by simp only [decide_eq_true_eq, decide_eq_false_iff_not] at hc3; omega
     have hg : (evenS (fun _ => 0) room q why l r ⟨0, x⟩) = (madeS room (madeS room (madeS room q why l (getC q (getC q r).left).left ⟨0, x⟩).1 (madeS room q why l (getC q (getC q r).left).left ⟨0, x⟩).2.1 (getC q (getC q r).left).right (getC q r).right (⟨0, (getC q r).val⟩ : PairD)).1 (madeS room (madeS room q why l (getC q (getC q r).left).left ⟨0, x⟩).1 (madeS room q why l (getC q (getC q r).left).left ⟨0, x⟩).2.1 (getC q (getC q r).left).right (getC q r).right (⟨0, (getC q r).val⟩ : PairD)).2.1 (madeS room q why l (getC q (getC q r).left).left ⟨0, x⟩).2.2 (madeS room (madeS room q why l (getC q (getC q r).left).left ⟨0, x⟩).1 (madeS room q why l (getC q (getC q r).left).left ⟨0, x⟩).2.1 (getC q (getC q r).left).right (getC q r).right (⟨0, (getC q r).val⟩ : PairD)).2.2 (⟨0, (getC q (getC q r).left).val⟩ : PairD)) := by unfold evenS; rw [if_neg h1, if_pos h2, if_neg h3] <;> rfl
     refine wp_seq ?_
     have hS := hS.fresh 1 rfl
     obtain ⟨F, hS⟩ := hS.push 1 5 rfl rfl rfl (by kernel_rfl)
     obtain ⟨F, hS⟩ := hS.push 1 4 rfl rfl rfl (by kernel_rfl)
     have hS := hS.turn 1 rfl (r' := RS.hp (bldH 118 (.pointer (some ⟨b, 0, none⟩)) o root why room q)) (fun _ _ _ _ h => h)
     obtain ⟨F, hS⟩ := hS.norm [(0, _), (1, _), (2, _), (3, _), (8, _), (10, _), (12, _), (102, _)] [(0, _), (1, _), (102, _), (104, _)] r8 r4
     refine region_any (by kernel_rfl) hS (by kernel_rfl)
       (cF rfl (o_move .t (by rfl)) r1 trivial
       (cF rfl (o_move .t (by rfl)) r1 trivial
       (cF rfl (o_move .t (by rfl)) r1 trivial
       (cF rfl (o_fieldAddr (off := 0) 104 .is (by kernel_rfl) (by rfl)) r1 r1
       (cF rfl (o_load (ag := false) (sz := 1) 104 .adr (by kernel_rfl) (by kernel_rfl) (by kernel_rfl) (by rfl)) r1 r1
       (cF rfl (o_move .t (by rfl)) r1 trivial
       (cF rfl (o_callG1 1 (smade_c b o root why room q l (getC q (getC q r).left).left x) Try.func70 rfl (by kernel_rfl) (Args.four .t .t .t .t)) r4 r1
       (cF rfl (o_move .t (by rfl)) r1 trivial
       (cF rfl (o_fieldAddr (off := 1) 104 .is (by kernel_rfl) (by rfl)) r1 r1
       (cF rfl (o_load (ag := false) (sz := 1) 104 .adr (by kernel_rfl) (by kernel_rfl) (by kernel_rfl) (by rfl)) r1 r1
       (cF rfl (o_fieldAddr (off := 1) 102 .is (by kernel_rfl) (by rfl)) r1 r1
       (cF rfl (o_load (ag := false) (sz := 1) 102 .adr (by kernel_rfl) (by kernel_rfl) (by kernel_rfl) (by rfl)) r1 r1
       (cF rfl (o_fieldAddr (off := 3) 102 .is (by kernel_rfl) (by rfl)) r1 r1
       (cF rfl (o_load (ag := false) (sz := 1) 102 .adr (by kernel_rfl) (by kernel_rfl) (by kernel_rfl) (by rfl)) r1 r1
       (cF rfl (o_callG1 1 (smade_c b o root (madeS room q why l (getC q (getC q r).left).left ⟨0, x⟩).2.1 room (madeS room q why l (getC q (getC q r).left).left ⟨0, x⟩).1 (getC q (getC q r).left).right (getC q r).right (getC q r).val) Try.func70 rfl (by kernel_rfl) (Args.four .t .t .t .t)) r4 r1
       (cF rfl (o_fieldAddr (off := 3) 104 .is (by kernel_rfl) (by rfl)) r1 r1
       (cF rfl (o_load (ag := false) (sz := 1) 104 .adr (by kernel_rfl) (by kernel_rfl) (by kernel_rfl) (by rfl)) r1 r1
       (cF rfl (o_callG1 1 (smade_c b o root (madeS room (madeS room q why l (getC q (getC q r).left).left ⟨0, x⟩).1 (madeS room q why l (getC q (getC q r).left).left ⟨0, x⟩).2.1 (getC q (getC q r).left).right (getC q r).right (⟨0, (getC q r).val⟩ : PairD)).2.1 room (madeS room (madeS room q why l (getC q (getC q r).left).left ⟨0, x⟩).1 (madeS room q why l (getC q (getC q r).left).left ⟨0, x⟩).2.1 (getC q (getC q r).left).right (getC q r).right (⟨0, (getC q r).val⟩ : PairD)).1 (madeS room q why l (getC q (getC q r).left).left ⟨0, x⟩).2.2 (madeS room (madeS room q why l (getC q (getC q r).left).left ⟨0, x⟩).1 (madeS room q why l (getC q (getC q r).left).left ⟨0, x⟩).2.1 (getC q (getC q r).left).right (getC q r).right (⟨0, (getC q r).val⟩ : PairD)).2.2 (getC q (getC q r).left).val) Try.func70 rfl (by kernel_rfl) (Args.four .t .t .t .t)) r4 r1
       (cF rfl (o_assign .t (by rfl)) r1 trivial
       Chain.nil)))))))))))))))))))
       (by kernel_rfl) (by rw [hB]; kernel_rfl) ?_
     clear hS; intro a w F hS
     obtain ⟨F, hS⟩ := hS.norm [(0, _), (1, _), (2, _), (3, _), (8, _), (10, _)] [(0, _), (1, _), (102, _)] r6 r3
     try dsimp only [List.map, List.drop_succ_cons, List.drop_zero, List.drop_nil, List.take_succ_cons, List.take_zero, List.take_nil, ldSF, rCell, rPair, mCell, pairOf] at hS
     refine then_n ?_
     refine wp_ret ?_
     refine then_r ?_
     refine then_r ?_
     have hS := hS.turn 1 rfl (r' := RS.hp (bldH 118 (.pointer (some ⟨b, 0, none⟩)) o root (evenS (fun _ => 0) room q why l r ⟨0, x⟩).2.1 room (evenS (fun _ => 0) room q why l r ⟨0, x⟩).1)) (fun _ _ _ _ h => by rw [hg]; exact h)
     refine ret_G1 hG hS rfl (.tmp rfl .nil) (.one (.int (by first | (rw [hg]; done) | (rw [hg]; rfl)))) rfl
    ·skip
     have h3 : ((getC q (getC q r).left).high ≤ (getC q (getC q r).right).high) := by simp only [decide_eq_true_eq, decide_eq_false_iff_not] at hc3; omega
     have hg : (evenS (fun _ => 0) room q why l r ⟨0, x⟩) = (madeS room (madeS room q why l (getC q r).left ⟨0, x⟩).1 (madeS room q why l (getC q r).left ⟨0, x⟩).2.1 (madeS room q why l (getC q r).left ⟨0, x⟩).2.2 (getC q r).right (⟨0, (getC q r).val⟩ : PairD)) := by unfold evenS; rw [if_neg h1, if_pos h2, if_pos h3] <;> rfl
     refine wp_skip ?_
     refine then_n ?_
     refine wp_seq ?_
     have hS := hS.fresh 1 rfl
     obtain ⟨F, hS⟩ := hS.push 1 5 rfl rfl rfl (by kernel_rfl)
     obtain ⟨F, hS⟩ := hS.push 1 4 rfl rfl rfl (by kernel_rfl)
     have hS := hS.turn 1 rfl (r' := RS.hp (bldH 118 (.pointer (some ⟨b, 0, none⟩)) o root why room q)) (fun _ _ _ _ h => h)
     obtain ⟨F, hS⟩ := hS.norm [(0, _), (1, _), (2, _), (3, _), (8, _), (10, _), (12, _), (102, _)] [(0, _), (1, _), (102, _), (104, _)] r8 r4
     refine region_any (by kernel_rfl) hS (by kernel_rfl)
       (cF rfl (o_move .t (by rfl)) r1 trivial
       (cF rfl (o_move .t (by rfl)) r1 trivial
       (cF rfl (o_move .t (by rfl)) r1 trivial
       (cF rfl (o_fieldAddr (off := 0) 102 .is (by kernel_rfl) (by rfl)) r1 r1
       (cF rfl (o_load (ag := false) (sz := 1) 102 .adr (by kernel_rfl) (by kernel_rfl) (by kernel_rfl) (by rfl)) r1 r1
       (cF rfl (o_move .t (by rfl)) r1 trivial
       (cF rfl (o_callG1 1 (smade_c b o root why room q l (getC q r).left x) Try.func70 rfl (by kernel_rfl) (Args.four .t .t .t .t)) r4 r1
       (cF rfl (o_fieldAddr (off := 1) 102 .is (by kernel_rfl) (by rfl)) r1 r1
       (cF rfl (o_load (ag := false) (sz := 1) 102 .adr (by kernel_rfl) (by kernel_rfl) (by kernel_rfl) (by rfl)) r1 r1
       (cF rfl (o_fieldAddr (off := 3) 102 .is (by kernel_rfl) (by rfl)) r1 r1
       (cF rfl (o_load (ag := false) (sz := 1) 102 .adr (by kernel_rfl) (by kernel_rfl) (by kernel_rfl) (by rfl)) r1 r1
       (cF rfl (o_callG1 1 (smade_c b o root (madeS room q why l (getC q r).left ⟨0, x⟩).2.1 room (madeS room q why l (getC q r).left ⟨0, x⟩).1 (madeS room q why l (getC q r).left ⟨0, x⟩).2.2 (getC q r).right (getC q r).val) Try.func70 rfl (by kernel_rfl) (Args.four .t .t .t .t)) r4 r1
       (cF rfl (o_assign .t (by rfl)) r1 trivial
       Chain.nil)))))))))))))
       (by kernel_rfl) (by rw [hB]; kernel_rfl) ?_
     clear hS; intro a w F hS
     obtain ⟨F, hS⟩ := hS.norm [(0, _), (1, _), (2, _), (3, _), (8, _)] [(0, _), (1, _)] r5 r2
     try dsimp only [List.map, List.drop_succ_cons, List.drop_zero, List.drop_nil, List.take_succ_cons, List.take_zero, List.take_nil, ldSF, rCell, rPair, mCell, pairOf] at hS
     refine then_n ?_
     refine wp_ret ?_
     refine then_r ?_
     have hS := hS.turn 1 rfl (r' := RS.hp (bldH 118 (.pointer (some ⟨b, 0, none⟩)) o root (evenS (fun _ => 0) room q why l r ⟨0, x⟩).2.1 room (evenS (fun _ => 0) room q why l r ⟨0, x⟩).1)) (fun _ _ _ _ h => by rw [hg]; exact h)
     refine ret_G1 hG hS rfl (.tmp rfl .nil) (.one (.int (by first | (rw [hg]; done) | (rw [hg]; rfl)))) rfl
   ·skip
    have h2 : ¬ (IntKind.wrap .i64 ((getC q l).high + 1) < (getC q r).high) := by simp only [decide_eq_true_eq, decide_eq_false_iff_not] at hc2; omega
    have hg : (evenS (fun _ => 0) room q why l r ⟨0, x⟩) = (madeS room q why l r ⟨0, x⟩) := by unfold evenS; rw [if_neg h1, if_neg h2] <;> rfl
    refine wp_skip ?_
    refine then_n ?_
    refine wp_seq ?_
    have hS := hS.fresh 1 rfl
    obtain ⟨F, hS⟩ := hS.push 1 5 rfl rfl rfl (by kernel_rfl)
    obtain ⟨F, hS⟩ := hS.push 1 4 rfl rfl rfl (by kernel_rfl)
    have hS := hS.turn 1 rfl (r' := RS.hp (bldH 118 (.pointer (some ⟨b, 0, none⟩)) o root why room q)) (fun _ _ _ _ h => h)
    obtain ⟨F, hS⟩ := hS.norm [(0, _), (1, _), (2, _), (3, _), (8, _), (10, _), (84, _)] [(0, _), (1, _), (102, _)] r7 r3
    refine region_seq hS (by kernel_rfl)
      (cF rfl (o_move .t (by rfl)) r1 trivial
      (cF rfl (o_move .t (by rfl)) r1 trivial
      (cF rfl (o_move .t (by rfl)) r1 trivial
      (cF rfl (o_move .t (by rfl)) r1 trivial
      (cF rfl (o_callG1 1 (smade_c b o root why room q l r x) Try.func70 rfl (by kernel_rfl) (Args.four .t .t .t .t)) r4 r1
      (cF rfl (o_assign .t (by rfl)) r1 trivial
      Chain.nil))))))
      (by kernel_rfl) (by rw [hB]; kernel_rfl) ?_
    clear hS; intro a w F hS
    obtain ⟨F, hS⟩ := hS.norm [(8, _)] [(0, _), (1, _)] r1 r2
    try dsimp only [rCell, rPair, mCell, pairOf] at hS
    refine then_n ?_
    refine wp_ret ?_
    have hS := hS.turn 1 rfl (r' := RS.hp (bldH 118 (.pointer (some ⟨b, 0, none⟩)) o root (evenS (fun _ => 0) room q why l r ⟨0, x⟩).2.1 room (evenS (fun _ => 0) room q why l r ⟨0, x⟩).1)) (fun _ _ _ _ h => by rw [hg]; exact h)
    refine ret_G1 hG hS rfl (.tmp rfl .nil) (.one (.int (by first | (rw [hg]; done) | (rw [hg]; rfl)))) rfl

end Go.Proofs.Ytdfpljecogijaaa
