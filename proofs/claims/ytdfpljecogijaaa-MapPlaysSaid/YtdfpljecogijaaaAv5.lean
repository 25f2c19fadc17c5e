/- The builder of maps: put, first, del. No condition beyond those that each theorem says. -/
import Derived.Test.YtdfpljecogijaaaAv3
import Derived.Test.YtdfpljecogijaaaAv4
namespace Go.Proofs.Ytdfpljecogijaaa
open Go Go.Gm
set_option linter.unusedVariables false
set_option linter.unusedSimpArgs false
set_option maxHeartbeats 4000000
set_option maxRecDepth 8000


theorem mput_s (b : Nat) (o : Option Nat) (root why room : Int) (q : List Cell) (p : PairD) (t : Tree) (ih : ∀ t', tSize t' < tSize t → ∀ i, Rep id q t' i → FnG Try.prog 60 1 [.is (.pointer (some ⟨b, 0, none⟩)), .int .i64 i, .agg (rPair p)] [bldH 111 (.pointer (some ⟨b, 0, none⟩)) o root why room q] (.int .i64 (putS id room q why p t' i).2.2) (fun _ => [bldH 111 (.pointer (some ⟨b, 0, none⟩)) o root (putS id room q why p t' i).2.1 room (putS id room q why p t' i).1])) (i : Int) (hr : Rep id q t i) : FnG Try.prog 60 1 [.is (.pointer (some ⟨b, 0, none⟩)), .int .i64 i, .agg (rPair p)] [bldH 111 (.pointer (some ⟨b, 0, none⟩)) o root why room q] (.int .i64 (putS id room q why p t i).2.2) (fun _ => [bldH 111 (.pointer (some ⟨b, 0, none⟩)) o root (putS id room q why p t i).2.1 room (putS id room q why p t i).1]) := by
  refine FnG.mk Try.func60 rfl Try.ntmps60 rfl (by kernel_rfl) ?_
  intro B F0 a w F hB hG hS
  obtain ⟨F, hS⟩ := hS.peel 1 4 rfl rfl
  obtain ⟨F, hS⟩ := hS.peel 1 5 rfl rfl
  obtain ⟨F, hS⟩ := hS.norm [(0, _), (1, _), (2, _)] [(0, _), (4, _), (5, _)] ⟨rfl, rfl, rfl, trivial⟩ ⟨rfl, rfl, rfl, trivial⟩
  refine wp_seq ?_
  refine region_seq hS (by kernel_rfl)
    (cF rfl (o_boxA 101 (.conv .t .agg) (by kernel_rfl)) r1 trivial
    (cF rfl (o_assign (.ci (by kernel_rfl)) (by rfl)) trivial trivial
    Chain.nil))
    (by kernel_rfl) (by rw [hB]; kernel_rfl) ?_
  clear hS; intro a w F hS
  replace hS := hS.sub
  obtain ⟨F, hS⟩ := hS.norm [(0, _), (1, _), (5, _), (6, _)] [(0, _), (4, _), (5, _), (101, _)] r4 r4
  try dsimp only [RS.sub, SF.sub, CF.sub, csub, Anc.sub, List.map, zCF, rCell, rPair, pairOf] at hS
  generalize Act.tau a 5 = v5 at hS
  refine then_n ?_
  refine wp_seq ?_
  refine region_seq hS (by kernel_rfl)
    (cF rfl (o_move .t (by rfl)) r1 trivial
    (cF rfl (o_nilCheck 4 .is (by rfl)) r1 r1
    (cF rfl (o_fieldAddr (off := 0) 4 .adr (by kernel_rfl) (by rfl)) r1 r1
    (cF rfl (o_load (ag := true) (sz := 2) 4 .adr (by kernel_rfl) (by kernel_rfl) (by kernel_rfl) (by rfl)) r1 r1
    (cF rfl (o_move .t (by rfl)) r1 trivial
    (cF rfl (o_callG1 5 (mcell_c o room q root i) Try.func62 rfl (by kernel_rfl) (Args.two (.pagg .t) .t)) r2 r1
    (cF rfl (o_alloc (zs := [.int .i64 0, .int .i64 0, .int .i64 0, .int .i64 0, .int .i64 0, .int .i64 0]) 102 (by kernel_rfl)) trivial trivial
    (cF rfl (o_storeA (sz := 6) 102 .same (.conv .t .agg) (by kernel_rfl) (by kernel_rfl) (by kernel_rfl)) r2 r1
    Chain.nil))))))))
    (by kernel_rfl) (by rw [hB]; kernel_rfl) ?_
  clear hS; intro a w F hS
  replace hS := hS.sub
  obtain ⟨F, hS⟩ := hS.norm [(0, _), (1, _), (5, _), (6, _), (7, _)] [(0, _), (4, _), (5, _), (101, _), (102, _)] r5 r5
  try dsimp only [RS.sub, SF.sub, CF.sub, csub, Anc.sub, List.map, stCells, List.length_cons, List.length_nil, Nat.reduceAdd, List.drop_succ_cons, List.drop_zero, List.drop_nil, List.take_succ_cons, List.take_zero, List.take_nil, List.cons_append, List.nil_append, zCF, ldSF, rCell, rPair, pairOf] at hS
  generalize Act.tau a 7 = v7 at hS
  refine then_n ?_
  refine wp_seq ?_
  refine wp_block ?_
  refine wp_seq ?_
  refine region_seq hS (by kernel_rfl)
    (cF rfl (o_move .t (by rfl)) r1 trivial
    (cF rfl (o_eql .t (.ci (by kernel_rfl))) r1 trivial
    (cF rfl (o_assign .t (by rfl)) r1 trivial
    Chain.nil)))
    (by kernel_rfl) (by rw [hB]; kernel_rfl) ?_
  clear hS; intro a w F hS
  obtain ⟨F, hS⟩ := hS.norm [(0, _), (5, _), (6, _), (7, _), (14, _)] [(0, _), (4, _), (5, _), (101, _), (102, _)] r5 r5
  try dsimp only [rCell, rPair, pairOf] at hS
  refine then_n ?_
  refine cond_b hS rfl (fun hc0 => ?_) (fun hc0 => ?_)
  ·skip
   have hi0 : i = 0 := by simpa using hc0
   have ht : t = .nil := by rw [hi0] at hr; exact hr.zero
   have hg : (putS id room q why p t i) = (madeS room q why 0 0 p) := by rw [ht]; rfl
   refine wp_seq ?_
   have hS := hS.fresh 1 rfl
   obtain ⟨F, hS⟩ := hS.push 1 5 rfl rfl rfl (by kernel_rfl)
   obtain ⟨F, hS⟩ := hS.push 1 4 rfl rfl rfl (by kernel_rfl)
   have hS := hS.turn 1 rfl (r' := RS.hp (bldH 111 (.pointer (some ⟨b, 0, none⟩)) o root why room q)) (fun _ _ _ _ h => h)
   obtain ⟨F, hS⟩ := hS.norm [(0, _), (5, _), (6, _), (7, _), (14, _)] [(0, _), (1, _), (101, _), (102, _)] r5 r4
   refine region_seq hS (by kernel_rfl)
     (cF rfl (o_move .t (by rfl)) r1 trivial
     (cF rfl (o_load (ag := true) (sz := 2) 101 .is (by kernel_rfl) (by kernel_rfl) (by kernel_rfl) (by rfl)) r1 r1
     (cF rfl (o_callG1 1 (mmade_c b o root why room q 0 0 p) Try.func74 rfl (by kernel_rfl) (Args.four .t (.ci (by kernel_rfl)) (.ci (by kernel_rfl)) (.pagg .t))) r2 r1
     (cF rfl (o_assign .t (by rfl)) r1 trivial
     Chain.nil))))
     (by kernel_rfl) (by rw [hB]; kernel_rfl) ?_
   clear hS; intro a w F hS
   obtain ⟨F, hS⟩ := hS.norm [(0, _), (5, _), (6, _), (7, _)] [(0, _), (1, _), (101, _), (102, _)] r4 r4
   try dsimp only [List.map, List.drop_succ_cons, List.drop_zero, List.drop_nil, List.take_succ_cons, List.take_zero, List.take_nil, ldSF, rCell, rPair, pairOf] at hS
   refine then_n ?_
   refine wp_ret ?_
   refine block_r ?_
   refine then_r ?_
   have hS := hS.turn 1 rfl (r' := RS.hp (bldH 111 (.pointer (some ⟨b, 0, none⟩)) o root (putS id room q why p t i).2.1 room (putS id room q why p t i).1)) (fun _ _ _ _ h => by rw [hg]; exact h)
   refine ret_G1 hG hS rfl (.tmp rfl .nil) (.one (.int (by first | (rw [hg]; done) | (rw [hg]; rfl)))) rfl
  ·skip
   have hi0 : i ≠ 0 := by simpa using hc0
   obtain ⟨l, x, r, ht⟩ := hr.node hi0
   have hn : Rep id q (.node l x r) i := by rw [← ht]; exact hr
   have hkx := hn.2.2.2.1
   refine wp_seq ?_
   refine region_seq hS (by kernel_rfl)
     (cF rfl (o_fieldAddr (off := 0) 101 .is (by kernel_rfl) (by rfl)) r1 r1
     (cF rfl (o_load (ag := false) (sz := 1) 101 .adr (by kernel_rfl) (by kernel_rfl) (by kernel_rfl) (by rfl)) r1 r1
     (cF rfl (o_fieldAddr (off := 2) 102 .is (by kernel_rfl) (by rfl)) r1 r1
     (cF rfl (o_load (ag := false) (sz := 1) 102 .adr (by kernel_rfl) (by kernel_rfl) (by kernel_rfl) (by rfl)) r1 r1
     (cF rfl (o_lss .t .t) r2 trivial
     (cF rfl (o_assign .t (by rfl)) r1 trivial
     Chain.nil))))))
     (by kernel_rfl) (by rw [hB]; kernel_rfl) ?_
   clear hS; intro a w F hS
   obtain ⟨F, hS⟩ := hS.norm [(0, _), (5, _), (6, _), (7, _), (20, _)] [(0, _), (4, _), (5, _), (101, _), (102, _)] r5 r5
   try dsimp only [List.map, List.drop_succ_cons, List.drop_zero, List.drop_nil, List.take_succ_cons, List.take_zero, List.take_nil, ldSF, rCell, rPair, pairOf] at hS
   refine then_n ?_
   refine cond_b hS rfl (fun hc1 => ?_) (fun hc1 => ?_)
   ·skip
    have h1 : (p.key < (getC q i).key) := by simp only [decide_eq_true_eq, decide_eq_false_iff_not] at hc1; omega
    have hg : (putS id room q why p t i) = (evenS id room (putS id room q why p l ((getC q i).left)).1 (putS id room q why p l ((getC q i).left)).2.1 (putS id room q why p l ((getC q i).left)).2.2 (getC q i).right (pairOf id (getC q i))) := by rw [ht]; (conv => lhs; unfold putS); rw [if_pos h1] <;> rfl
    refine wp_seq ?_
    have hS := hS.fresh 1 rfl
    obtain ⟨F, hS⟩ := hS.push 1 5 rfl rfl rfl (by kernel_rfl)
    obtain ⟨F, hS⟩ := hS.push 1 4 rfl rfl rfl (by kernel_rfl)
    have hS := hS.turn 1 rfl (r' := RS.hp (bldH 111 (.pointer (some ⟨b, 0, none⟩)) o root why room q)) (fun _ _ _ _ h => h)
    obtain ⟨F, hS⟩ := hS.norm [(0, _), (5, _), (6, _), (7, _), (20, _)] [(0, _), (1, _), (101, _), (102, _)] r5 r4
    refine region_any (by kernel_rfl) hS (by kernel_rfl)
      (cF rfl (o_move .t (by rfl)) r1 trivial
      (cF rfl (o_move .t (by rfl)) r1 trivial
      (cF rfl (o_fieldAddr (off := 0) 102 .is (by kernel_rfl) (by rfl)) r1 r1
      (cF rfl (o_load (ag := false) (sz := 1) 102 .adr (by kernel_rfl) (by kernel_rfl) (by kernel_rfl) (by rfl)) r1 r1
      (cF rfl (o_load (ag := true) (sz := 2) 101 .is (by kernel_rfl) (by kernel_rfl) (by kernel_rfl) (by rfl)) r1 r1
      (cF rfl (o_callG1 1 (ih l (by rw [ht]; exact tSize_l) (getC q i).left hn.2.1) Try.func60 rfl (by kernel_rfl) (Args.three .t .t (.pagg .t))) r3 r1
      (cF rfl (o_fieldAddr (off := 1) 102 .is (by kernel_rfl) (by rfl)) r1 r1
      (cF rfl (o_load (ag := false) (sz := 1) 102 .adr (by kernel_rfl) (by kernel_rfl) (by kernel_rfl) (by rfl)) r1 r1
      (cF rfl (o_load (ag := true) (sz := 6) 102 .is (by kernel_rfl) (by kernel_rfl) (by kernel_rfl) (by rfl)) r1 r1
      (cF rfl (o_callP (pair_c (getC q i)) Try.func76 rfl (by kernel_rfl) (Args.one (.pagg .t))) r1 trivial
      (cF rfl (o_callG1 1 (meven_c b o root (putS id room q why p l ((getC q i).left)).2.1 room (putS id room q why p l ((getC q i).left)).1 (putS id room q why p l ((getC q i).left)).2.2 (getC q i).right (pairOf id (getC q i))) Try.func75 rfl (by kernel_rfl) (Args.four .t .t .t .t)) r4 r1
      (cF rfl (o_assign .t (by rfl)) r1 trivial
      Chain.nil))))))))))))
      (by kernel_rfl) (by rw [hB]; kernel_rfl) ?_
    clear hS; intro a w F hS
    obtain ⟨F, hS⟩ := hS.norm [(0, _), (5, _), (6, _), (7, _)] [(0, _), (1, _), (101, _), (102, _)] r4 r4
    try dsimp only [List.map, List.drop_succ_cons, List.drop_zero, List.drop_nil, List.take_succ_cons, List.take_zero, List.take_nil, ldSF, rCell, rPair, pairOf] at hS
    refine then_n ?_
    refine wp_ret ?_
    refine block_r ?_
    refine then_r ?_
    have hS := hS.turn 1 rfl (r' := RS.hp (bldH 111 (.pointer (some ⟨b, 0, none⟩)) o root (putS id room q why p t i).2.1 room (putS id room q why p t i).1)) (fun _ _ _ _ h => by rw [hg]; exact h)
    refine ret_G1 hG hS rfl (.tmp rfl .nil) (.one (.int (by first | (rw [hg]; done) | (rw [hg]; rfl)))) rfl
   ·skip
    have h1 : ¬ (p.key < (getC q i).key) := by simp only [decide_eq_true_eq, decide_eq_false_iff_not] at hc1; omega
    refine wp_seq ?_
    refine region_seq hS (by kernel_rfl)
      (cF rfl (o_fieldAddr (off := 0) 101 .is (by kernel_rfl) (by rfl)) r1 r1
      (cF rfl (o_load (ag := false) (sz := 1) 101 .adr (by kernel_rfl) (by kernel_rfl) (by kernel_rfl) (by rfl)) r1 r1
      (cF rfl (o_fieldAddr (off := 2) 102 .is (by kernel_rfl) (by rfl)) r1 r1
      (cF rfl (o_load (ag := false) (sz := 1) 102 .adr (by kernel_rfl) (by kernel_rfl) (by kernel_rfl) (by rfl)) r1 r1
      (cF rfl (o_gtr .t .t) r2 trivial
      (cF rfl (o_assign .t (by rfl)) r1 trivial
      Chain.nil))))))
      (by kernel_rfl) (by rw [hB]; kernel_rfl) ?_
    clear hS; intro a w F hS
    obtain ⟨F, hS⟩ := hS.norm [(0, _), (5, _), (6, _), (7, _), (37, _)] [(0, _), (4, _), (5, _), (101, _), (102, _)] r5 r5
    try dsimp only [List.map, List.drop_succ_cons, List.drop_zero, List.drop_nil, List.take_succ_cons, List.take_zero, List.take_nil, ldSF, rCell, rPair, pairOf] at hS
    refine then_n ?_
    refine cond_b hS rfl (fun hc2 => ?_) (fun hc2 => ?_)
    ·skip
     have h2 : ((getC q i).key < p.key) := by simp only [decide_eq_true_eq, decide_eq_false_iff_not] at hc2; omega
     have hg : (putS id room q why p t i) = (evenS id room (putS id room q why p r ((getC q i).right)).1 (putS id room q why p r ((getC q i).right)).2.1 (getC q i).left (putS id room q why p r ((getC q i).right)).2.2 (pairOf id (getC q i))) := by rw [ht]; (conv => lhs; unfold putS); rw [if_neg h1, if_pos h2] <;> rfl
     refine wp_seq ?_
     have hS := hS.fresh 1 rfl
     obtain ⟨F, hS⟩ := hS.push 1 5 rfl rfl rfl (by kernel_rfl)
     obtain ⟨F, hS⟩ := hS.push 1 4 rfl rfl rfl (by kernel_rfl)
     have hS := hS.turn 1 rfl (r' := RS.hp (bldH 111 (.pointer (some ⟨b, 0, none⟩)) o root why room q)) (fun _ _ _ _ h => h)
     obtain ⟨F, hS⟩ := hS.norm [(0, _), (5, _), (6, _), (7, _), (37, _)] [(0, _), (1, _), (101, _), (102, _)] r5 r4
     refine region_any (by kernel_rfl) hS (by kernel_rfl)
       (cF rfl (o_move .t (by rfl)) r1 trivial
       (cF rfl (o_fieldAddr (off := 0) 102 .is (by kernel_rfl) (by rfl)) r1 r1
       (cF rfl (o_load (ag := false) (sz := 1) 102 .adr (by kernel_rfl) (by kernel_rfl) (by kernel_rfl) (by rfl)) r1 r1
       (cF rfl (o_move .t (by rfl)) r1 trivial
       (cF rfl (o_fieldAddr (off := 1) 102 .is (by kernel_rfl) (by rfl)) r1 r1
       (cF rfl (o_load (ag := false) (sz := 1) 102 .adr (by kernel_rfl) (by kernel_rfl) (by kernel_rfl) (by rfl)) r1 r1
       (cF rfl (o_load (ag := true) (sz := 2) 101 .is (by kernel_rfl) (by kernel_rfl) (by kernel_rfl) (by rfl)) r1 r1
       (cF rfl (o_callG1 1 (ih r (by rw [ht]; exact tSize_r) (getC q i).right hn.2.2.1) Try.func60 rfl (by kernel_rfl) (Args.three .t .t (.pagg .t))) r3 r1
       (cF rfl (o_load (ag := true) (sz := 6) 102 .is (by kernel_rfl) (by kernel_rfl) (by kernel_rfl) (by rfl)) r1 r1
       (cF rfl (o_callP (pair_c (getC q i)) Try.func76 rfl (by kernel_rfl) (Args.one (.pagg .t))) r1 trivial
       (cF rfl (o_callG1 1 (meven_c b o root (putS id room q why p r ((getC q i).right)).2.1 room (putS id room q why p r ((getC q i).right)).1 (getC q i).left (putS id room q why p r ((getC q i).right)).2.2 (pairOf id (getC q i))) Try.func75 rfl (by kernel_rfl) (Args.four .t .t .t .t)) r4 r1
       (cF rfl (o_assign .t (by rfl)) r1 trivial
       Chain.nil))))))))))))
       (by kernel_rfl) (by rw [hB]; kernel_rfl) ?_
     clear hS; intro a w F hS
     obtain ⟨F, hS⟩ := hS.norm [(0, _), (5, _), (6, _), (7, _)] [(0, _), (1, _), (101, _), (102, _)] r4 r4
     try dsimp only [List.map, List.drop_succ_cons, List.drop_zero, List.drop_nil, List.take_succ_cons, List.take_zero, List.take_nil, ldSF, rCell, rPair, pairOf] at hS
     refine then_n ?_
     refine wp_ret ?_
     refine block_r ?_
     refine then_r ?_
     have hS := hS.turn 1 rfl (r' := RS.hp (bldH 111 (.pointer (some ⟨b, 0, none⟩)) o root (putS id room q why p t i).2.1 room (putS id room q why p t i).1)) (fun _ _ _ _ h => by rw [hg]; exact h)
     refine ret_G1 hG hS rfl (.tmp rfl .nil) (.one (.int (by first | (rw [hg]; done) | (rw [hg]; rfl)))) rfl
    ·skip
     have h2 : ¬ ((getC q i).key < p.key) := by simp only [decide_eq_true_eq, decide_eq_false_iff_not] at hc2; omega
     have hg : (putS id room q why p t i) = (madeS room q why (getC q i).left (getC q i).right p) := by rw [ht]; (conv => lhs; unfold putS); rw [if_neg h1, if_neg h2] <;> rfl
     refine wp_skip ?_
     refine block_n ?_
     refine then_n ?_
     refine wp_seq ?_
     have hS := hS.fresh 1 rfl
     obtain ⟨F, hS⟩ := hS.push 1 5 rfl rfl rfl (by kernel_rfl)
     obtain ⟨F, hS⟩ := hS.push 1 4 rfl rfl rfl (by kernel_rfl)
     have hS := hS.turn 1 rfl (r' := RS.hp (bldH 111 (.pointer (some ⟨b, 0, none⟩)) o root why room q)) (fun _ _ _ _ h => h)
     obtain ⟨F, hS⟩ := hS.norm [(0, _), (5, _), (6, _), (7, _), (37, _)] [(0, _), (1, _), (101, _), (102, _)] r5 r4
     refine region_seq hS (by kernel_rfl)
       (cF rfl (o_move .t (by rfl)) r1 trivial
       (cF rfl (o_fieldAddr (off := 0) 102 .is (by kernel_rfl) (by rfl)) r1 r1
       (cF rfl (o_load (ag := false) (sz := 1) 102 .adr (by kernel_rfl) (by kernel_rfl) (by kernel_rfl) (by rfl)) r1 r1
       (cF rfl (o_fieldAddr (off := 1) 102 .is (by kernel_rfl) (by rfl)) r1 r1
       (cF rfl (o_load (ag := false) (sz := 1) 102 .adr (by kernel_rfl) (by kernel_rfl) (by kernel_rfl) (by rfl)) r1 r1
       (cF rfl (o_load (ag := true) (sz := 2) 101 .is (by kernel_rfl) (by kernel_rfl) (by kernel_rfl) (by rfl)) r1 r1
       (cF rfl (o_callG1 1 (mmade_c b o root why room q (getC q i).left (getC q i).right p) Try.func74 rfl (by kernel_rfl) (Args.four .t .t .t (.pagg .t))) r4 r1
       (cF rfl (o_assign .t (by rfl)) r1 trivial
       Chain.nil))))))))
       (by kernel_rfl) (by rw [hB]; kernel_rfl) ?_
     clear hS; intro a w F hS
     obtain ⟨F, hS⟩ := hS.norm [(6, _)] [(0, _), (1, _)] r1 r2
     try dsimp only [List.map, List.drop_succ_cons, List.drop_zero, List.drop_nil, List.take_succ_cons, List.take_zero, List.take_nil, ldSF, rCell, rPair, pairOf] at hS
     refine then_n ?_
     refine wp_ret ?_
     have hS := hS.turn 1 rfl (r' := RS.hp (bldH 111 (.pointer (some ⟨b, 0, none⟩)) o root (putS id room q why p t i).2.1 room (putS id room q why p t i).1)) (fun _ _ _ _ h => by rw [hg]; exact h)
     refine ret_G1 hG hS rfl (.tmp rfl .nil) (.one (.int (by first | (rw [hg]; done) | (rw [hg]; rfl)))) rfl

theorem mput_c (b : Nat) (o : Option Nat) (root why room : Int) (q : List Cell) (p : PairD) (t : Tree) (i : Int) (hr : Rep id q t i) : FnG Try.prog 60 1 [.is (.pointer (some ⟨b, 0, none⟩)), .int .i64 i, .agg (rPair p)] [bldH 111 (.pointer (some ⟨b, 0, none⟩)) o root why room q] (.int .i64 (putS id room q why p t i).2.2) (fun _ => [bldH 111 (.pointer (some ⟨b, 0, none⟩)) o root (putS id room q why p t i).2.1 room (putS id room q why p t i).1]) := recT (P := fun t => ∀ i, Rep id q t i → FnG Try.prog 60 1 [.is (.pointer (some ⟨b, 0, none⟩)), .int .i64 i, .agg (rPair p)] [bldH 111 (.pointer (some ⟨b, 0, none⟩)) o root why room q] (.int .i64 (putS id room q why p t i).2.2) (fun _ => [bldH 111 (.pointer (some ⟨b, 0, none⟩)) o root (putS id room q why p t i).2.1 room (putS id room q why p t i).1])) (fun t ih i hr => mput_s b o root why room q p t ih i hr) t i hr

theorem mfirst_s (b : Nat) (o : Option Nat) (root why room : Int) (q : List Cell) (t : Tree) (ih : ∀ t', tSize t' < tSize t → ∀ i, Rep id q t' i → FnG Try.prog 77 1 [.is (.pointer (some ⟨b, 0, none⟩)), .int .i64 i] [bldH 111 (.pointer (some ⟨b, 0, none⟩)) o root why room q] (.tup [.agg (rPair (firstS id room q why t' i).1), .int .i64 (firstS id room q why t' i).2.2.2]) (fun _ => [bldH 111 (.pointer (some ⟨b, 0, none⟩)) o root (firstS id room q why t' i).2.2.1 room (firstS id room q why t' i).2.1])) (i : Int) (hr : Rep id q t i) : FnG Try.prog 77 1 [.is (.pointer (some ⟨b, 0, none⟩)), .int .i64 i] [bldH 111 (.pointer (some ⟨b, 0, none⟩)) o root why room q] (.tup [.agg (rPair (firstS id room q why t i).1), .int .i64 (firstS id room q why t i).2.2.2]) (fun _ => [bldH 111 (.pointer (some ⟨b, 0, none⟩)) o root (firstS id room q why t i).2.2.1 room (firstS id room q why t i).2.1]) := by
  refine FnG.mk Try.func77 rfl Try.ntmps77 rfl (by kernel_rfl) ?_
  intro B F0 a w F hB hG hS
  obtain ⟨F, hS⟩ := hS.peel 1 4 rfl rfl
  obtain ⟨F, hS⟩ := hS.peel 1 5 rfl rfl
  obtain ⟨F, hS⟩ := hS.norm [(0, _), (1, _)] [(0, _), (4, _), (5, _)] ⟨rfl, rfl, trivial⟩ ⟨rfl, rfl, rfl, trivial⟩
  refine wp_seq ?_
  refine region_seq hS (by kernel_rfl)
    (cF rfl (o_alloc (zs := [.int .i64 0, .int .i64 0]) 101 (by kernel_rfl)) trivial trivial
    (cF rfl (o_assign (.ci (by kernel_rfl)) (by rfl)) trivial trivial
    Chain.nil))
    (by kernel_rfl) (by rw [hB]; kernel_rfl) ?_
  clear hS; intro a w F hS
  replace hS := hS.sub
  obtain ⟨F, hS⟩ := hS.norm [(0, _), (1, _), (4, _), (5, _)] [(0, _), (4, _), (5, _), (101, _)] r4 r4
  try dsimp only [RS.sub, SF.sub, CF.sub, csub, Anc.sub, List.map, zCF, rCell, rPair, pairOf] at hS
  generalize Act.tau a 4 = v4 at hS
  refine then_n ?_
  refine wp_seq ?_
  refine region_seq hS (by kernel_rfl)
    (cF rfl (o_move .t (by rfl)) r1 trivial
    (cF rfl (o_nilCheck 4 .is (by rfl)) r1 r1
    (cF rfl (o_fieldAddr (off := 0) 4 .adr (by kernel_rfl) (by rfl)) r1 r1
    (cF rfl (o_load (ag := true) (sz := 2) 4 .adr (by kernel_rfl) (by kernel_rfl) (by kernel_rfl) (by rfl)) r1 r1
    (cF rfl (o_move .t (by rfl)) r1 trivial
    (cF rfl (o_callG1 5 (mcell_c o room q root i) Try.func62 rfl (by kernel_rfl) (Args.two (.pagg .t) .t)) r2 r1
    (cF rfl (o_alloc (zs := [.int .i64 0, .int .i64 0, .int .i64 0, .int .i64 0, .int .i64 0, .int .i64 0]) 102 (by kernel_rfl)) trivial trivial
    (cF rfl (o_storeA (sz := 6) 102 .same (.conv .t .agg) (by kernel_rfl) (by kernel_rfl) (by kernel_rfl)) r2 r1
    Chain.nil))))))))
    (by kernel_rfl) (by rw [hB]; kernel_rfl) ?_
  clear hS; intro a w F hS
  replace hS := hS.sub
  obtain ⟨F, hS⟩ := hS.norm [(0, _), (4, _), (5, _), (6, _)] [(0, _), (4, _), (5, _), (101, _), (102, _)] r4 r5
  try dsimp only [RS.sub, SF.sub, CF.sub, csub, Anc.sub, List.map, stCells, List.length_cons, List.length_nil, Nat.reduceAdd, List.drop_succ_cons, List.drop_zero, List.drop_nil, List.take_succ_cons, List.take_zero, List.take_nil, List.cons_append, List.nil_append, zCF, ldSF, rCell, rPair, pairOf] at hS
  generalize Act.tau a 6 = v6 at hS
  refine then_n ?_
  refine wp_seq ?_
  refine wp_seq ?_
  refine region_seq hS (by kernel_rfl)
    (cF rfl (o_fieldAddr (off := 0) 102 .is (by kernel_rfl) (by rfl)) r1 r1
    (cF rfl (o_load (ag := false) (sz := 1) 102 .adr (by kernel_rfl) (by kernel_rfl) (by kernel_rfl) (by rfl)) r1 r1
    (cF rfl (o_eql .t (.ci (by kernel_rfl))) r1 trivial
    Chain.nil)))
    (by kernel_rfl) (by rw [hB]; kernel_rfl) ?_
  clear hS; intro a w F hS
  obtain ⟨F, hS⟩ := hS.norm [(0, _), (4, _), (5, _), (6, _), (17, _)] [(0, _), (4, _), (5, _), (101, _), (102, _)] r5 r5
  try dsimp only [List.map, List.drop_succ_cons, List.drop_zero, List.drop_nil, List.take_succ_cons, List.take_zero, List.take_nil, ldSF, rCell, rPair, pairOf] at hS
  refine then_n ?_
  refine cond_b hS rfl (fun hc0 => ?_) (fun hc0 => ?_)
  ·skip
   have hz : (getC q i).left = 0 := by simpa using hc0
   have hg : (firstS id room q why t i) = (pairOf id (getC q i), q, why, (getC q i).right) := by cases t with | nil => rfl | node l x r => exact if_pos hz
   refine wp_seq ?_
   refine region_any (by kernel_rfl) hS (by kernel_rfl)
     (cF rfl (o_load (ag := true) (sz := 6) 102 .is (by kernel_rfl) (by kernel_rfl) (by kernel_rfl) (by rfl)) r1 r1
     (cF rfl (o_callP (pair_c (getC q i)) Try.func76 rfl (by kernel_rfl) (Args.one (.pagg .t))) r1 trivial
     (cF rfl (o_fieldAddr (off := 1) 102 .is (by kernel_rfl) (by rfl)) r1 r1
     (cF rfl (o_load (ag := false) (sz := 1) 102 .adr (by kernel_rfl) (by kernel_rfl) (by kernel_rfl) (by rfl)) r1 r1
     (cF rfl (o_storeA (sz := 2) 101 .is (.conv .t .agg) (by kernel_rfl) (by kernel_rfl) (by kernel_rfl)) r2 r1
     (cF rfl (o_assign .t (by rfl)) r1 trivial
     Chain.nil))))))
     (by kernel_rfl) (by rw [hB]; kernel_rfl) ?_
   clear hS; intro a w F hS
   obtain ⟨F, hS⟩ := hS.norm [(0, _), (4, _), (5, _), (6, _)] [(0, _), (4, _), (5, _), (101, _), (102, _)] r4 r5
   try dsimp only [List.map, stCells, List.length_cons, List.length_nil, Nat.reduceAdd, List.drop_succ_cons, List.drop_zero, List.drop_nil, List.take_succ_cons, List.take_zero, List.take_nil, List.cons_append, List.nil_append, zCF, ldSF, rCell, rPair, pairOf] at hS
   refine then_n ?_
   refine wp_ret ?_
   refine then_r ?_
   have hS := hS.fresh 1 rfl
   obtain ⟨F, hS⟩ := hS.push 1 5 rfl rfl rfl (by kernel_rfl)
   obtain ⟨F, hS⟩ := hS.push 1 4 rfl rfl rfl (by kernel_rfl)
   have hS := hS.turn 1 rfl (r' := RS.hp (bldH 111 (.pointer (some ⟨b, 0, none⟩)) o root (firstS id room q why t i).2.2.1 room (firstS id room q why t i).2.1)) (fun _ _ _ _ h => by rw [hg]; exact h)
   refine ret_G1 hG hS rfl (.cell (n := 101) (ag := true) (sz := 2) rfl .is rfl (by kernel_rfl) (by kernel_rfl) (by kernel_rfl) (.tmp rfl .nil)) (.two (.aggU rfl (by rw [hg]; rfl)) (.int (by first | (rw [hg]; done) | (rw [hg]; rfl)))) rfl
  ·skip
   have hz : ¬ (getC q i).left = 0 := by simpa using hc0
   obtain ⟨l, x, r, ht⟩ := hr.node (fun h => hz (by rw [h, getC_zero]; rfl))
   have hn : Rep id q (.node l x r) i := by rw [← ht]; exact hr
   have hkx := hn.2.2.2.1
   have hg : (firstS id room q why t i) = ((firstS id room q why l (getC q i).left).1, evenS id room (firstS id room q why l (getC q i).left).2.1 (firstS id room q why l (getC q i).left).2.2.1 (firstS id room q why l (getC q i).left).2.2.2 (getC q i).right (pairOf id (getC q i))) := by rw [ht]; exact if_neg hz
   refine wp_skip ?_
   refine then_n ?_
   refine wp_seq ?_
   have hS := hS.fresh 1 rfl
   obtain ⟨F, hS⟩ := hS.push 1 5 rfl rfl rfl (by kernel_rfl)
   obtain ⟨F, hS⟩ := hS.push 1 4 rfl rfl rfl (by kernel_rfl)
   have hS := hS.turn 1 rfl (r' := RS.hp (bldH 111 (.pointer (some ⟨b, 0, none⟩)) o root why room q)) (fun _ _ _ _ h => h)
   obtain ⟨F, hS⟩ := hS.norm [(0, _), (4, _), (5, _), (6, _), (17, _)] [(0, _), (1, _), (101, _), (102, _)] r5 r4
   refine region_seq hS (by kernel_rfl)
     (cF rfl (o_move .t (by rfl)) r1 trivial
     (cF rfl (o_fieldAddr (off := 0) 102 .is (by kernel_rfl) (by rfl)) r1 r1
     (cF rfl (o_load (ag := false) (sz := 1) 102 .adr (by kernel_rfl) (by kernel_rfl) (by kernel_rfl) (by rfl)) r1 r1
     (cF rfl (o_callG1 1 (ih l (by rw [ht]; exact tSize_l) (getC q i).left hn.2.1) Try.func77 rfl (by kernel_rfl) (Args.two .t .t)) r2 r1
     (cF rfl (o_move .t (by rfl)) r1 trivial
     (cF rfl (o_extract .t rfl) r1 trivial
     (cF rfl (o_extract .t rfl) r1 trivial
     (cF rfl (o_alloc (zs := [.int .i64 0, .int .i64 0]) 103 (by kernel_rfl)) trivial trivial
     (cF rfl (o_storeA (sz := 2) 103 .same (.conv .t .agg) (by kernel_rfl) (by kernel_rfl) (by kernel_rfl)) r2 r1
     (cF rfl (o_assign .t (by rfl)) r1 trivial
     Chain.nil))))))))))
     (by kernel_rfl) (by rw [hB]; kernel_rfl) ?_
   clear hS; intro a w F hS
   replace hS := hS.sub
   obtain ⟨F, hS⟩ := hS.norm [(0, _), (4, _), (5, _), (6, _), (7, _), (8, _)] [(0, _), (1, _), (101, _), (102, _), (103, _)] r6 r5
   try dsimp only [RS.sub, SF.sub, CF.sub, csub, Anc.sub, List.map, stCells, List.length_cons, List.length_nil, Nat.reduceAdd, List.drop_succ_cons, List.drop_zero, List.drop_nil, List.take_succ_cons, List.take_zero, List.take_nil, List.cons_append, List.nil_append, zCF, ldSF, rCell, rPair, pairOf] at hS
   generalize Act.tau a 7 = v7 at hS
   refine then_n ?_
   refine wp_seq ?_
   refine region_any (by kernel_rfl) hS (by kernel_rfl)
     (cF rfl (o_load (ag := true) (sz := 2) 103 .is (by kernel_rfl) (by kernel_rfl) (by kernel_rfl) (by rfl)) r1 r1
     (cF rfl (o_move .t (by rfl)) r1 trivial
     (cF rfl (o_move .t (by rfl)) r1 trivial
     (cF rfl (o_fieldAddr (off := 1) 102 .is (by kernel_rfl) (by rfl)) r1 r1
     (cF rfl (o_load (ag := false) (sz := 1) 102 .adr (by kernel_rfl) (by kernel_rfl) (by kernel_rfl) (by rfl)) r1 r1
     (cF rfl (o_load (ag := true) (sz := 6) 102 .is (by kernel_rfl) (by kernel_rfl) (by kernel_rfl) (by rfl)) r1 r1
     (cF rfl (o_callP (pair_c (getC q i)) Try.func76 rfl (by kernel_rfl) (Args.one (.pagg .t))) r1 trivial
     (cF rfl (o_callG1 1 (meven_c b o root (firstS id room q why l (getC q i).left).2.2.1 room (firstS id room q why l (getC q i).left).2.1 (firstS id room q why l (getC q i).left).2.2.2 (getC q i).right (pairOf id (getC q i))) Try.func75 rfl (by kernel_rfl) (Args.four .t .t .t .t)) r4 r1
     (cF rfl (o_storeA (sz := 2) 101 .is .t (by kernel_rfl) (by kernel_rfl) (by kernel_rfl)) r2 r1
     (cF rfl (o_assign .t (by rfl)) r1 trivial
     Chain.nil))))))))))
     (by kernel_rfl) (by rw [hB]; kernel_rfl) ?_
   clear hS; intro a w F hS
   obtain ⟨F, hS⟩ := hS.norm [(4, _), (5, _)] [(0, _), (1, _), (101, _)] r2 r3
   try dsimp only [List.map, stCells, List.length_cons, List.length_nil, Nat.reduceAdd, List.drop_succ_cons, List.drop_zero, List.drop_nil, List.take_succ_cons, List.take_zero, List.take_nil, List.cons_append, List.nil_append, zCF, ldSF, rCell, rPair, pairOf] at hS
   refine then_n ?_
   refine wp_ret ?_
   have hS := hS.turn 1 rfl (r' := RS.hp (bldH 111 (.pointer (some ⟨b, 0, none⟩)) o root (firstS id room q why t i).2.2.1 room (firstS id room q why t i).2.1)) (fun _ _ _ _ h => by rw [hg]; exact h)
   refine ret_G1 hG hS rfl (.cell (n := 101) (ag := true) (sz := 2) rfl .is rfl (by kernel_rfl) (by kernel_rfl) (by kernel_rfl) (.tmp rfl .nil)) (.two (.aggU rfl (by rw [hg]; rfl)) (.int (by first | (rw [hg]; done) | (rw [hg]; rfl)))) rfl

theorem mfirst_c (b : Nat) (o : Option Nat) (root why room : Int) (q : List Cell) (t : Tree) (i : Int) (hr : Rep id q t i) : FnG Try.prog 77 1 [.is (.pointer (some ⟨b, 0, none⟩)), .int .i64 i] [bldH 111 (.pointer (some ⟨b, 0, none⟩)) o root why room q] (.tup [.agg (rPair (firstS id room q why t i).1), .int .i64 (firstS id room q why t i).2.2.2]) (fun _ => [bldH 111 (.pointer (some ⟨b, 0, none⟩)) o root (firstS id room q why t i).2.2.1 room (firstS id room q why t i).2.1]) := recT (P := fun t => ∀ i, Rep id q t i → FnG Try.prog 77 1 [.is (.pointer (some ⟨b, 0, none⟩)), .int .i64 i] [bldH 111 (.pointer (some ⟨b, 0, none⟩)) o root why room q] (.tup [.agg (rPair (firstS id room q why t i).1), .int .i64 (firstS id room q why t i).2.2.2]) (fun _ => [bldH 111 (.pointer (some ⟨b, 0, none⟩)) o root (firstS id room q why t i).2.2.1 room (firstS id room q why t i).2.1])) (fun t ih i hr => mfirst_s b o root why room q t ih i hr) t i hr

theorem mdel_s (b : Nat) (o : Option Nat) (root why room : Int) (q : List Cell) (k : Int) (t : Tree) (ih : ∀ t', tSize t' < tSize t → ∀ i, Rep id q t' i → HasT k t' → FnG Try.prog 61 1 [.is (.pointer (some ⟨b, 0, none⟩)), .int .i64 i, .int .i64 k] [bldH 111 (.pointer (some ⟨b, 0, none⟩)) o root why room q] (.int .i64 (delS id room q why k t' i).2.2) (fun _ => [bldH 111 (.pointer (some ⟨b, 0, none⟩)) o root (delS id room q why k t' i).2.1 room (delS id room q why k t' i).1])) (i : Int) (hr : Rep id q t i) (hh : HasT k t) : FnG Try.prog 61 1 [.is (.pointer (some ⟨b, 0, none⟩)), .int .i64 i, .int .i64 k] [bldH 111 (.pointer (some ⟨b, 0, none⟩)) o root why room q] (.int .i64 (delS id room q why k t i).2.2) (fun _ => [bldH 111 (.pointer (some ⟨b, 0, none⟩)) o root (delS id room q why k t i).2.1 room (delS id room q why k t i).1]) := by
  refine FnG.mk Try.func61 rfl Try.ntmps61 rfl (by kernel_rfl) ?_
  intro B F0 a w F hB hG hS
  obtain ⟨l, x, r, ht⟩ : ∃ l x r, t = .node l x r := by cases t with | nil => exact hh.elim | node l x r => exact ⟨l, x, r, rfl⟩
  have hn : Rep id q (.node l x r) i := by rw [← ht]; exact hr
  have hkx := hn.2.2.2.1
  obtain ⟨F, hS⟩ := hS.peel 1 4 rfl rfl
  obtain ⟨F, hS⟩ := hS.peel 1 5 rfl rfl
  obtain ⟨F, hS⟩ := hS.norm [(0, _), (1, _), (2, _)] [(0, _), (4, _), (5, _)] ⟨rfl, rfl, rfl, trivial⟩ ⟨rfl, rfl, rfl, trivial⟩
  refine wp_seq ?_
  refine region_seq hS (by kernel_rfl)
    (cF rfl (o_assign (.ci (by kernel_rfl)) (by rfl)) trivial trivial
    Chain.nil)
    (by kernel_rfl) (by rw [hB]; kernel_rfl) ?_
  clear hS; intro a w F hS
  obtain ⟨F, hS⟩ := hS.norm [(0, _), (1, _), (2, _), (6, _)] [(0, _), (4, _), (5, _)] r4 r3
  try dsimp only [rCell, rPair, pairOf] at hS
  refine then_n ?_
  refine wp_seq ?_
  refine region_seq hS (by kernel_rfl)
    (cF rfl (o_move .t (by rfl)) r1 trivial
    (cF rfl (o_nilCheck 4 .is (by rfl)) r1 r1
    (cF rfl (o_fieldAddr (off := 0) 4 .adr (by kernel_rfl) (by rfl)) r1 r1
    (cF rfl (o_load (ag := true) (sz := 2) 4 .adr (by kernel_rfl) (by kernel_rfl) (by kernel_rfl) (by rfl)) r1 r1
    (cF rfl (o_move .t (by rfl)) r1 trivial
    (cF rfl (o_callG1 5 (mcell_c o room q root i) Try.func62 rfl (by kernel_rfl) (Args.two (.pagg .t) .t)) r2 r1
    (cF rfl (o_alloc (zs := [.int .i64 0, .int .i64 0, .int .i64 0, .int .i64 0, .int .i64 0, .int .i64 0]) 101 (by kernel_rfl)) trivial trivial
    (cF rfl (o_storeA (sz := 6) 101 .same (.conv .t .agg) (by kernel_rfl) (by kernel_rfl) (by kernel_rfl)) r2 r1
    Chain.nil))))))))
    (by kernel_rfl) (by rw [hB]; kernel_rfl) ?_
  clear hS; intro a w F hS
  replace hS := hS.sub
  obtain ⟨F, hS⟩ := hS.norm [(0, _), (2, _), (6, _), (7, _)] [(0, _), (4, _), (5, _), (101, _)] r4 r4
  try dsimp only [RS.sub, SF.sub, CF.sub, csub, Anc.sub, List.map, stCells, List.length_cons, List.length_nil, Nat.reduceAdd, List.drop_succ_cons, List.drop_zero, List.drop_nil, List.take_succ_cons, List.take_zero, List.take_nil, List.cons_append, List.nil_append, zCF, ldSF, rCell, rPair, pairOf] at hS
  generalize Act.tau a 7 = v7 at hS
  refine then_n ?_
  refine wp_seq ?_
  refine wp_block ?_
  refine wp_seq ?_
  refine region_seq hS (by kernel_rfl)
    (cF rfl (o_move .t (by rfl)) r1 trivial
    (cF rfl (o_fieldAddr (off := 2) 101 .is (by kernel_rfl) (by rfl)) r1 r1
    (cF rfl (o_load (ag := false) (sz := 1) 101 .adr (by kernel_rfl) (by kernel_rfl) (by kernel_rfl) (by rfl)) r1 r1
    (cF rfl (o_lss .t .t) r2 trivial
    (cF rfl (o_assign .t (by rfl)) r1 trivial
    Chain.nil)))))
    (by kernel_rfl) (by rw [hB]; kernel_rfl) ?_
  clear hS; intro a w F hS
  obtain ⟨F, hS⟩ := hS.norm [(0, _), (2, _), (6, _), (7, _), (16, _)] [(0, _), (4, _), (5, _), (101, _)] r5 r4
  try dsimp only [List.map, List.drop_succ_cons, List.drop_zero, List.drop_nil, List.take_succ_cons, List.take_zero, List.take_nil, ldSF, rCell, rPair, pairOf] at hS
  refine then_n ?_
  refine cond_b hS rfl (fun hc0 => ?_) (fun hc0 => ?_)
  ·skip
   have h1 : (k < (getC q i).key) := by simp only [decide_eq_true_eq, decide_eq_false_iff_not] at hc0; omega
   have h9 : HasT k l := by rw [ht] at hh; unfold HasT at hh; rwa [if_pos (by omega)] at hh
   have hg : (delS id room q why k t i) = (evenS id room (delS id room q why k l (getC q i).left).1 (delS id room q why k l (getC q i).left).2.1 (delS id room q why k l (getC q i).left).2.2 (getC q i).right (pairOf id (getC q i))) := by rw [ht]; (conv => lhs; unfold delS); rw [if_pos h1] <;> rfl
   refine wp_seq ?_
   have hS := hS.fresh 1 rfl
   obtain ⟨F, hS⟩ := hS.push 1 5 rfl rfl rfl (by kernel_rfl)
   obtain ⟨F, hS⟩ := hS.push 1 4 rfl rfl rfl (by kernel_rfl)
   have hS := hS.turn 1 rfl (r' := RS.hp (bldH 111 (.pointer (some ⟨b, 0, none⟩)) o root why room q)) (fun _ _ _ _ h => h)
   obtain ⟨F, hS⟩ := hS.norm [(0, _), (2, _), (6, _), (7, _), (16, _)] [(0, _), (1, _), (101, _)] r5 r3
   refine region_any (by kernel_rfl) hS (by kernel_rfl)
     (cF rfl (o_move .t (by rfl)) r1 trivial
     (cF rfl (o_move .t (by rfl)) r1 trivial
     (cF rfl (o_fieldAddr (off := 0) 101 .is (by kernel_rfl) (by rfl)) r1 r1
     (cF rfl (o_load (ag := false) (sz := 1) 101 .adr (by kernel_rfl) (by kernel_rfl) (by kernel_rfl) (by rfl)) r1 r1
     (cF rfl (o_move .t (by rfl)) r1 trivial
     (cF rfl (o_callG1 1 (ih l (by rw [ht]; exact tSize_l) (getC q i).left hn.2.1 h9) Try.func61 rfl (by kernel_rfl) (Args.three .t .t .t)) r3 r1
     (cF rfl (o_fieldAddr (off := 1) 101 .is (by kernel_rfl) (by rfl)) r1 r1
     (cF rfl (o_load (ag := false) (sz := 1) 101 .adr (by kernel_rfl) (by kernel_rfl) (by kernel_rfl) (by rfl)) r1 r1
     (cF rfl (o_load (ag := true) (sz := 6) 101 .is (by kernel_rfl) (by kernel_rfl) (by kernel_rfl) (by rfl)) r1 r1
     (cF rfl (o_callP (pair_c (getC q i)) Try.func76 rfl (by kernel_rfl) (Args.one (.pagg .t))) r1 trivial
     (cF rfl (o_callG1 1 (meven_c b o root (delS id room q why k l (getC q i).left).2.1 room (delS id room q why k l (getC q i).left).1 (delS id room q why k l (getC q i).left).2.2 (getC q i).right (pairOf id (getC q i))) Try.func75 rfl (by kernel_rfl) (Args.four .t .t .t .t)) r4 r1
     (cF rfl (o_assign .t (by rfl)) r1 trivial
     Chain.nil))))))))))))
     (by kernel_rfl) (by rw [hB]; kernel_rfl) ?_
   clear hS; intro a w F hS
   obtain ⟨F, hS⟩ := hS.norm [(0, _), (6, _), (7, _)] [(0, _), (1, _), (101, _)] r3 r3
   try dsimp only [List.map, List.drop_succ_cons, List.drop_zero, List.drop_nil, List.take_succ_cons, List.take_zero, List.take_nil, ldSF, rCell, rPair, pairOf] at hS
   refine then_n ?_
   refine wp_ret ?_
   refine block_r ?_
   refine then_r ?_
   have hS := hS.turn 1 rfl (r' := RS.hp (bldH 111 (.pointer (some ⟨b, 0, none⟩)) o root (delS id room q why k t i).2.1 room (delS id room q why k t i).1)) (fun _ _ _ _ h => by rw [hg]; exact h)
   refine ret_G1 hG hS rfl (.tmp rfl .nil) (.one (.int (by first | (rw [hg]; done) | (rw [hg]; rfl)))) rfl
  ·skip
   have h1 : ¬ (k < (getC q i).key) := by simp only [decide_eq_true_eq, decide_eq_false_iff_not] at hc0; omega
   refine wp_seq ?_
   refine region_seq hS (by kernel_rfl)
     (cF rfl (o_move .t (by rfl)) r1 trivial
     (cF rfl (o_fieldAddr (off := 2) 101 .is (by kernel_rfl) (by rfl)) r1 r1
     (cF rfl (o_load (ag := false) (sz := 1) 101 .adr (by kernel_rfl) (by kernel_rfl) (by kernel_rfl) (by rfl)) r1 r1
     (cF rfl (o_gtr .t .t) r2 trivial
     (cF rfl (o_assign .t (by rfl)) r1 trivial
     Chain.nil)))))
     (by kernel_rfl) (by rw [hB]; kernel_rfl) ?_
   clear hS; intro a w F hS
   obtain ⟨F, hS⟩ := hS.norm [(0, _), (2, _), (6, _), (7, _), (32, _)] [(0, _), (4, _), (5, _), (101, _)] r5 r4
   try dsimp only [List.map, List.drop_succ_cons, List.drop_zero, List.drop_nil, List.take_succ_cons, List.take_zero, List.take_nil, ldSF, rCell, rPair, pairOf] at hS
   refine then_n ?_
   refine cond_b hS rfl (fun hc1 => ?_) (fun hc1 => ?_)
   ·skip
    have h2 : ((getC q i).key < k) := by simp only [decide_eq_true_eq, decide_eq_false_iff_not] at hc1; omega
    have h9 : HasT k r := by rw [ht] at hh; unfold HasT at hh; rwa [if_neg (by omega), if_pos (by omega)] at hh
    have hg : (delS id room q why k t i) = (evenS id room (delS id room q why k r (getC q i).right).1 (delS id room q why k r (getC q i).right).2.1 (getC q i).left (delS id room q why k r (getC q i).right).2.2 (pairOf id (getC q i))) := by rw [ht]; (conv => lhs; unfold delS); rw [if_neg h1, if_pos h2] <;> rfl
    refine wp_seq ?_
    have hS := hS.fresh 1 rfl
    obtain ⟨F, hS⟩ := hS.push 1 5 rfl rfl rfl (by kernel_rfl)
    obtain ⟨F, hS⟩ := hS.push 1 4 rfl rfl rfl (by kernel_rfl)
    have hS := hS.turn 1 rfl (r' := RS.hp (bldH 111 (.pointer (some ⟨b, 0, none⟩)) o root why room q)) (fun _ _ _ _ h => h)
    obtain ⟨F, hS⟩ := hS.norm [(0, _), (2, _), (6, _), (7, _), (32, _)] [(0, _), (1, _), (101, _)] r5 r3
    refine region_any (by kernel_rfl) hS (by kernel_rfl)
      (cF rfl (o_move .t (by rfl)) r1 trivial
      (cF rfl (o_fieldAddr (off := 0) 101 .is (by kernel_rfl) (by rfl)) r1 r1
      (cF rfl (o_load (ag := false) (sz := 1) 101 .adr (by kernel_rfl) (by kernel_rfl) (by kernel_rfl) (by rfl)) r1 r1
      (cF rfl (o_move .t (by rfl)) r1 trivial
      (cF rfl (o_fieldAddr (off := 1) 101 .is (by kernel_rfl) (by rfl)) r1 r1
      (cF rfl (o_load (ag := false) (sz := 1) 101 .adr (by kernel_rfl) (by kernel_rfl) (by kernel_rfl) (by rfl)) r1 r1
      (cF rfl (o_move .t (by rfl)) r1 trivial
      (cF rfl (o_callG1 1 (ih r (by rw [ht]; exact tSize_r) (getC q i).right hn.2.2.1 h9) Try.func61 rfl (by kernel_rfl) (Args.three .t .t .t)) r3 r1
      (cF rfl (o_load (ag := true) (sz := 6) 101 .is (by kernel_rfl) (by kernel_rfl) (by kernel_rfl) (by rfl)) r1 r1
      (cF rfl (o_callP (pair_c (getC q i)) Try.func76 rfl (by kernel_rfl) (Args.one (.pagg .t))) r1 trivial
      (cF rfl (o_callG1 1 (meven_c b o root (delS id room q why k r (getC q i).right).2.1 room (delS id room q why k r (getC q i).right).1 (getC q i).left (delS id room q why k r (getC q i).right).2.2 (pairOf id (getC q i))) Try.func75 rfl (by kernel_rfl) (Args.four .t .t .t .t)) r4 r1
      (cF rfl (o_assign .t (by rfl)) r1 trivial
      Chain.nil))))))))))))
      (by kernel_rfl) (by rw [hB]; kernel_rfl) ?_
    clear hS; intro a w F hS
    obtain ⟨F, hS⟩ := hS.norm [(0, _), (6, _), (7, _)] [(0, _), (1, _), (101, _)] r3 r3
    try dsimp only [List.map, List.drop_succ_cons, List.drop_zero, List.drop_nil, List.take_succ_cons, List.take_zero, List.take_nil, ldSF, rCell, rPair, pairOf] at hS
    refine then_n ?_
    refine wp_ret ?_
    refine block_r ?_
    refine then_r ?_
    have hS := hS.turn 1 rfl (r' := RS.hp (bldH 111 (.pointer (some ⟨b, 0, none⟩)) o root (delS id room q why k t i).2.1 room (delS id room q why k t i).1)) (fun _ _ _ _ h => by rw [hg]; exact h)
    refine ret_G1 hG hS rfl (.tmp rfl .nil) (.one (.int (by first | (rw [hg]; done) | (rw [hg]; rfl)))) rfl
   ·skip
    have h2 : ¬ ((getC q i).key < k) := by simp only [decide_eq_true_eq, decide_eq_false_iff_not] at hc1; omega
    refine wp_seq ?_
    refine region_seq hS (by kernel_rfl)
      (cF rfl (o_fieldAddr (off := 0) 101 .is (by kernel_rfl) (by rfl)) r1 r1
      (cF rfl (o_load (ag := false) (sz := 1) 101 .adr (by kernel_rfl) (by kernel_rfl) (by kernel_rfl) (by rfl)) r1 r1
      (cF rfl (o_eql .t (.ci (by kernel_rfl))) r1 trivial
      (cF rfl (o_assign .t (by rfl)) r1 trivial
      Chain.nil))))
      (by kernel_rfl) (by rw [hB]; kernel_rfl) ?_
    clear hS; intro a w F hS
    obtain ⟨F, hS⟩ := hS.norm [(0, _), (6, _), (7, _), (48, _)] [(0, _), (4, _), (5, _), (101, _)] r4 r4
    try dsimp only [List.map, List.drop_succ_cons, List.drop_zero, List.drop_nil, List.take_succ_cons, List.take_zero, List.take_nil, ldSF, rCell, rPair, pairOf] at hS
    refine then_n ?_
    refine cond_b hS rfl (fun hc2 => ?_) (fun hc2 => ?_)
    ·skip
     have hz : (getC q i).left = 0 := by simpa using hc2
     have hg : (delS id room q why k t i) = (q, why, (getC q i).right) := by rw [ht]; (conv => lhs; unfold delS); rw [if_neg h1, if_neg h2, if_pos hz] <;> rfl
     refine wp_seq ?_
     refine region_seq hS (by kernel_rfl)
       (cF rfl (o_fieldAddr (off := 1) 101 .is (by kernel_rfl) (by rfl)) r1 r1
       (cF rfl (o_load (ag := false) (sz := 1) 101 .adr (by kernel_rfl) (by kernel_rfl) (by kernel_rfl) (by rfl)) r1 r1
       (cF rfl (o_assign .t (by rfl)) r1 trivial
       Chain.nil)))
       (by kernel_rfl) (by rw [hB]; kernel_rfl) ?_
     clear hS; intro a w F hS
     obtain ⟨F, hS⟩ := hS.norm [(0, _), (6, _), (7, _)] [(0, _), (4, _), (5, _), (101, _)] r3 r4
     try dsimp only [List.map, List.drop_succ_cons, List.drop_zero, List.drop_nil, List.take_succ_cons, List.take_zero, List.take_nil, ldSF, rCell, rPair, pairOf] at hS
     refine then_n ?_
     refine wp_ret ?_
     refine block_r ?_
     refine then_r ?_
     have hS := hS.fresh 1 rfl
     obtain ⟨F, hS⟩ := hS.push 1 5 rfl rfl rfl (by kernel_rfl)
     obtain ⟨F, hS⟩ := hS.push 1 4 rfl rfl rfl (by kernel_rfl)
     have hS := hS.turn 1 rfl (r' := RS.hp (bldH 111 (.pointer (some ⟨b, 0, none⟩)) o root (delS id room q why k t i).2.1 room (delS id room q why k t i).1)) (fun _ _ _ _ h => by rw [hg]; exact h)
     refine ret_G1 hG hS rfl (.tmp rfl .nil) (.one (.int (by first | (rw [hg]; done) | (rw [hg]; rfl)))) rfl
    ·skip
     have hz : ¬ (getC q i).left = 0 := by simpa using hc2
     refine wp_seq ?_
     refine region_seq hS (by kernel_rfl)
       (cF rfl (o_fieldAddr (off := 1) 101 .is (by kernel_rfl) (by rfl)) r1 r1
       (cF rfl (o_load (ag := false) (sz := 1) 101 .adr (by kernel_rfl) (by kernel_rfl) (by kernel_rfl) (by rfl)) r1 r1
       (cF rfl (o_eql .t (.ci (by kernel_rfl))) r1 trivial
       (cF rfl (o_assign .t (by rfl)) r1 trivial
       Chain.nil))))
       (by kernel_rfl) (by rw [hB]; kernel_rfl) ?_
     clear hS; intro a w F hS
     obtain ⟨F, hS⟩ := hS.norm [(0, _), (6, _), (7, _), (54, _)] [(0, _), (4, _), (5, _), (101, _)] r4 r4
     try dsimp only [List.map, List.drop_succ_cons, List.drop_zero, List.drop_nil, List.take_succ_cons, List.take_zero, List.take_nil, ldSF, rCell, rPair, pairOf] at hS
     refine then_n ?_
     refine cond_b hS rfl (fun hc3 => ?_) (fun hc3 => ?_)
     ·skip
      have hz2 : (getC q i).right = 0 := by simpa using hc3
      have hg : (delS id room q why k t i) = (q, why, (getC q i).left) := by rw [ht]; (conv => lhs; unfold delS); rw [if_neg h1, if_neg h2, if_neg hz, if_pos hz2] <;> rfl
      refine wp_seq ?_
      refine region_seq hS (by kernel_rfl)
        (cF rfl (o_fieldAddr (off := 0) 101 .is (by kernel_rfl) (by rfl)) r1 r1
        (cF rfl (o_load (ag := false) (sz := 1) 101 .adr (by kernel_rfl) (by kernel_rfl) (by kernel_rfl) (by rfl)) r1 r1
        (cF rfl (o_assign .t (by rfl)) r1 trivial
        Chain.nil)))
        (by kernel_rfl) (by rw [hB]; kernel_rfl) ?_
      clear hS; intro a w F hS
      obtain ⟨F, hS⟩ := hS.norm [(0, _), (6, _), (7, _)] [(0, _), (4, _), (5, _), (101, _)] r3 r4
      try dsimp only [List.map, List.drop_succ_cons, List.drop_zero, List.drop_nil, List.take_succ_cons, List.take_zero, List.take_nil, ldSF, rCell, rPair, pairOf] at hS
      refine then_n ?_
      refine wp_ret ?_
      refine block_r ?_
      refine then_r ?_
      have hS := hS.fresh 1 rfl
      obtain ⟨F, hS⟩ := hS.push 1 5 rfl rfl rfl (by kernel_rfl)
      obtain ⟨F, hS⟩ := hS.push 1 4 rfl rfl rfl (by kernel_rfl)
      have hS := hS.turn 1 rfl (r' := RS.hp (bldH 111 (.pointer (some ⟨b, 0, none⟩)) o root (delS id room q why k t i).2.1 room (delS id room q why k t i).1)) (fun _ _ _ _ h => by rw [hg]; exact h)
      refine ret_G1 hG hS rfl (.tmp rfl .nil) (.one (.int (by first | (rw [hg]; done) | (rw [hg]; rfl)))) rfl
     ·skip
      have hz2 : ¬ (getC q i).right = 0 := by simpa using hc3
      have hg : (delS id room q why k t i) = (evenS id room (firstS id room q why r (getC q i).right).2.1 (firstS id room q why r (getC q i).right).2.2.1 (getC q i).left (firstS id room q why r (getC q i).right).2.2.2 (firstS id room q why r (getC q i).right).1) := by rw [ht]; (conv => lhs; unfold delS); rw [if_neg h1, if_neg h2, if_neg hz, if_neg hz2] <;> rfl
      refine wp_skip ?_
      refine block_n ?_
      refine then_n ?_
      refine wp_seq ?_
      have hS := hS.fresh 1 rfl
      obtain ⟨F, hS⟩ := hS.push 1 5 rfl rfl rfl (by kernel_rfl)
      obtain ⟨F, hS⟩ := hS.push 1 4 rfl rfl rfl (by kernel_rfl)
      have hS := hS.turn 1 rfl (r' := RS.hp (bldH 111 (.pointer (some ⟨b, 0, none⟩)) o root why room q)) (fun _ _ _ _ h => h)
      obtain ⟨F, hS⟩ := hS.norm [(0, _), (6, _), (7, _), (54, _)] [(0, _), (1, _), (101, _)] r4 r3
      refine region_seq hS (by kernel_rfl)
        (cF rfl (o_move .t (by rfl)) r1 trivial
        (cF rfl (o_fieldAddr (off := 1) 101 .is (by kernel_rfl) (by rfl)) r1 r1
        (cF rfl (o_load (ag := false) (sz := 1) 101 .adr (by kernel_rfl) (by kernel_rfl) (by kernel_rfl) (by rfl)) r1 r1
        (cF rfl (o_callG1 1 (mfirst_c b o root why room q r (getC q i).right hn.2.2.1) Try.func77 rfl (by kernel_rfl) (Args.two .t .t)) r2 r1
        (cF rfl (o_move .t (by rfl)) r1 trivial
        (cF rfl (o_extract .t rfl) r1 trivial
        (cF rfl (o_extract .t rfl) r1 trivial
        (cF rfl (o_alloc (zs := [.int .i64 0, .int .i64 0]) 102 (by kernel_rfl)) trivial trivial
        (cF rfl (o_storeA (sz := 2) 102 .same (.conv .t .agg) (by kernel_rfl) (by kernel_rfl) (by kernel_rfl)) r2 r1
        (cF rfl (o_assign .t (by rfl)) r1 trivial
        Chain.nil))))))))))
        (by kernel_rfl) (by rw [hB]; kernel_rfl) ?_
      clear hS; intro a w F hS
      replace hS := hS.sub
      obtain ⟨F, hS⟩ := hS.norm [(0, _), (6, _), (7, _), (8, _), (9, _)] [(0, _), (1, _), (101, _), (102, _)] r5 r4
      try dsimp only [RS.sub, SF.sub, CF.sub, csub, Anc.sub, List.map, stCells, List.length_cons, List.length_nil, Nat.reduceAdd, List.drop_succ_cons, List.drop_zero, List.drop_nil, List.take_succ_cons, List.take_zero, List.take_nil, List.cons_append, List.nil_append, zCF, ldSF, rCell, rPair, pairOf] at hS
      generalize Act.tau a 8 = v8 at hS
      refine then_n ?_
      refine wp_seq ?_
      refine region_seq hS (by kernel_rfl)
        (cF rfl (o_move .t (by rfl)) r1 trivial
        (cF rfl (o_fieldAddr (off := 0) 101 .is (by kernel_rfl) (by rfl)) r1 r1
        (cF rfl (o_load (ag := false) (sz := 1) 101 .adr (by kernel_rfl) (by kernel_rfl) (by kernel_rfl) (by rfl)) r1 r1
        (cF rfl (o_move .t (by rfl)) r1 trivial
        (cF rfl (o_load (ag := true) (sz := 2) 102 .is (by kernel_rfl) (by kernel_rfl) (by kernel_rfl) (by rfl)) r1 r1
        (cF rfl (o_callG1 1 (meven_c b o root (firstS id room q why r (getC q i).right).2.2.1 room (firstS id room q why r (getC q i).right).2.1 (getC q i).left (firstS id room q why r (getC q i).right).2.2.2 (firstS id room q why r (getC q i).right).1) Try.func75 rfl (by kernel_rfl) (Args.four .t .t .t (.pagg .t))) r4 r1
        (cF rfl (o_assign .t (by rfl)) r1 trivial
        Chain.nil)))))))
        (by kernel_rfl) (by rw [hB]; kernel_rfl) ?_
      clear hS; intro a w F hS
      obtain ⟨F, hS⟩ := hS.norm [(6, _)] [(0, _), (1, _)] r1 r2
      try dsimp only [List.map, List.drop_succ_cons, List.drop_zero, List.drop_nil, List.take_succ_cons, List.take_zero, List.take_nil, ldSF, rCell, rPair, pairOf] at hS
      refine then_n ?_
      refine wp_ret ?_
      have hS := hS.turn 1 rfl (r' := RS.hp (bldH 111 (.pointer (some ⟨b, 0, none⟩)) o root (delS id room q why k t i).2.1 room (delS id room q why k t i).1)) (fun _ _ _ _ h => by rw [hg]; exact h)
      refine ret_G1 hG hS rfl (.tmp rfl .nil) (.one (.int (by first | (rw [hg]; done) | (rw [hg]; rfl)))) rfl

theorem mdel_c (b : Nat) (o : Option Nat) (root why room : Int) (q : List Cell) (k : Int) (t : Tree) (i : Int) (hr : Rep id q t i) (hh : HasT k t) : FnG Try.prog 61 1 [.is (.pointer (some ⟨b, 0, none⟩)), .int .i64 i, .int .i64 k] [bldH 111 (.pointer (some ⟨b, 0, none⟩)) o root why room q] (.int .i64 (delS id room q why k t i).2.2) (fun _ => [bldH 111 (.pointer (some ⟨b, 0, none⟩)) o root (delS id room q why k t i).2.1 room (delS id room q why k t i).1]) := recT (P := fun t => ∀ i, Rep id q t i → HasT k t → FnG Try.prog 61 1 [.is (.pointer (some ⟨b, 0, none⟩)), .int .i64 i, .int .i64 k] [bldH 111 (.pointer (some ⟨b, 0, none⟩)) o root why room q] (.int .i64 (delS id room q why k t i).2.2) (fun _ => [bldH 111 (.pointer (some ⟨b, 0, none⟩)) o root (delS id room q why k t i).2.1 room (delS id room q why k t i).1])) (fun t ih i hr => mdel_s b o root why room q k t ih i hr) t i hr hh

end Go.Proofs.Ytdfpljecogijaaa
