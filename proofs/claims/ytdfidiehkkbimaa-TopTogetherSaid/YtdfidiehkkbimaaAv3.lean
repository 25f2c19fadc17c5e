/- The builder: made, even. No condition beyond those that each theorem says. -/
import Derived.Test.YtdfidiehkkbimaaAv2
namespace Go.Proofs.Ytdfidiehkkbimaa
open Go Go.Gm
set_option linter.unusedVariables false
set_option linter.unusedSimpArgs false
set_option maxHeartbeats 4000000
set_option maxRecDepth 8000


/-- What the builder is: its struct, and the arena. -/
def bldH (T : Nat) (v : Value) (o : Option Nat) (root why room : Int) (q : List Cell) : HP := .star [.pt (.val v) T [.pv (.is (arV o)), .pv (.int .i64 root), .pv (.int .i64 why)], RS.hp (arH o room q)]
def mCellS (q : List Cell) (l r x : Int) : Cell := ⟨l, r, 0, x, IntKind.wrap .i64 (IntKind.wrap .i64 ((getC q l).size + (getC q r).size) + 1), IntKind.wrap .i64 (1 + if (getC q l).high < (getC q r).high then (getC q r).high else (getC q l).high)⟩
theorem mCellS_eq (q : List Cell) (l r x : Int) : mCellS q l r x = mCell q l r ⟨0, x⟩ := by unfold mCellS mCell; rw [Int.add_comm 1 _]

theorem pair_c (c : Cell) : FnP Try.prog 129 [.agg (rCell c)] (.agg (rPair (pairOf id c))) := by
  refine FnP.mk Try.func129 rfl Try.ntmps129 rfl ?_
  intro B a w F hB hfr hS
  refine wp_seq ?_
  refine region_q hS
    (cF rfl (oX 101 (.conv .t .agg)) r1 trivial
    (cF rfl (oH [.int .i64 0, .int .i64 0] 102) trivial trivial
    Chain.nil))
    hB ?_
  clear hS; intro a w F hS
  replace hS := hS.sub
  obtain ⟨F, hS⟩ := hS.nm [2, 1] [102, 101, 0] rfl rfl
  try dsimp only [RS.sub, SF.sub, CF.sub, csub, Anc.sub, List.map, zCF, rCell, rPair, pairOf] at hS
  generalize Act.tau a 1 = v1 at hS
  generalize Act.tau a 2 = v2 at hS
  refine then_n (wp_seq ?_)
  refine region_q hS
    (cF rfl (oF 2 101 .is) r1 r1
    (cF rfl (oL false 1 101 .adr) r1 r1
    (cF rfl (oF 3 101 .is) r1 r1
    (cF rfl (oL false 1 101 .adr) r1 r1
    (cF rfl (oB [(0, .tmp 4), (1, .tmp 6)] [.int .i64 0, .int .i64 0] [(0, 1), (1, 1)] (.one rfl .t one_int (by kernel_rfl) (.one rfl .t one_int (by kernel_rfl) .nil))) r2 trivial
    (cF rfl (oA 2 102 .is .t) r2 r1
    Chain.nil))))))
    hB ?_
  clear hS; intro a w F hS
  obtain ⟨F, hS⟩ := hS.nm [2] [102, 0] rfl rfl
  try dsimp only [List.map, stCells, xL, xM, Nat.reduceAdd, xD, xE, xT, xU, xC, xN, zCF, ldSF, rCell, rPair, pairOf] at hS
  refine then_n (wp_ret ?_)
  refine ret_P hfr hS rfl (.cell (n := 102) (ag := true) (sz := 2) rfl .is rfl (by kernel_rfl) (by kernel_rfl) (by kernel_rfl) .nil) (.one (.aggU rfl rfl))

theorem mmade_c (b : Nat) (o : Option Nat) (root why room : Int) (q : List Cell) (l r : Int) (p : PairD) : FnG Try.prog 127 1 [.is (.pointer (some ⟨b, 0, none⟩)), .int .i64 l, .int .i64 r, .agg (rPair p)] [bldH 157 (.pointer (some ⟨b, 0, none⟩)) o root why room q] (.int .i64 (madeS room q why l r p).2.2) (fun _ => [bldH 157 (.pointer (some ⟨b, 0, none⟩)) o root (madeS room q why l r p).2.1 room (madeS room q why l r p).1]) := by
  refine FnG.mk Try.func127 rfl Try.ntmps127 rfl (by kernel_rfl) ?_
  intro B F0 a w F hB hG hS
  obtain ⟨F, hS⟩ := hS.peel 1 4 rfl rfl
  obtain ⟨F, hS⟩ := hS.peel 1 5 rfl rfl
  obtain ⟨F, hS⟩ := hS.nm [3, 2, 1, 0] [5, 4, 0] rfl rfl
  refine wp_seq ?_
  refine region_q hS
    (cF rfl (oX 101 (.conv .t .agg)) r1 trivial
    (cF rfl (oN (.ci (by kernel_rfl))) trivial trivial
    Chain.nil))
    hB ?_
  clear hS; intro a w F hS
  replace hS := hS.sub
  obtain ⟨F, hS⟩ := hS.nm [8, 7, 2, 1, 0] [101, 5, 4, 0] rfl rfl
  try dsimp only [RS.sub, SF.sub, CF.sub, csub, Anc.sub, List.map, zCF, rCell, rPair, mCell, mCellS] at hS
  generalize Act.tau a 7 = v7 at hS
  refine then_n (wp_seq (wp_seq ?_))
  refine region_q hS
    (cF rfl (oM .t) r1 trivial
    (cF rfl (o_nilCheck 4 .is (by rfl)) r1 r1
    (cF rfl (oF 2 4 .adr) r1 r1
    (cF rfl (oL false 1 4 .adr) r1 r1
    (cF rfl (o_neq .t (.ci (by kernel_rfl))) r1 trivial
    Chain.nil)))))
    hB ?_
  clear hS; intro a w F hS
  obtain ⟨F, hS⟩ := hS.nm [18, 8, 7, 2, 1, 0] [101, 5, 4, 0] rfl rfl
  try dsimp only [List.map, xD, xE, xT, xU, ldSF, rCell, rPair, mCell, mCellS] at hS
  refine then_n ?_
  refine cond_b hS rfl (fun hc0 => ?_) (fun hc0 => ?_)
  ·skip
   have hg : (madeS room q why l r p) = (q, why, 0) := madeS_bad (by simpa using hc0)
   refine wp_seq ?_
   refine region_q hS
     (cF rfl (oN (.ci (by kernel_rfl))) trivial trivial
     Chain.nil)
     hB ?_
   clear hS; intro a w F hS
   obtain ⟨F, hS⟩ := hS.nm [8, 7, 2, 1, 0] [101, 5, 4, 0] rfl rfl
   try dsimp only [rCell, rPair, mCell, mCellS] at hS
   refine then_n (wp_ret (then_r ?_))
   have hS := hS.fresh 1 rfl
   obtain ⟨F, hS⟩ := hS.push 1 5 rfl rfl rfl (by kernel_rfl)
   obtain ⟨F, hS⟩ := hS.push 1 4 rfl rfl rfl (by kernel_rfl)
   have hS := hS.turn 1 rfl (r' := RS.hp (bldH 157 (.pointer (some ⟨b, 0, none⟩)) o root (madeS room q why l r p).2.1 room (madeS room q why l r p).1)) (fun _ _ _ _ h => by rw [hg]; exact h)
   refine ret_G1 hG hS rfl (.tmp rfl .nil) (.one (.int (by first | (rw [hg]; done) | (rw [hg]; rfl)))) rfl
  have hg : (madeS room q why l r p) = ((arPut room q (mCell q l r p)).1, (arPut room q (mCell q l r p)).2.2, (arPut room q (mCell q l r p)).2.1) := by exact if_neg (by simpa using hc0)
  refine wp_skip (then_n (wp_seq ?_))
  refine region_any (by kernel_rfl) hS (by kernel_rfl)
    (cF rfl (oM .t) r1 trivial
    (cF rfl (o_nilCheck 4 .is (by rfl)) r1 r1
    (cF rfl (oF 0 4 .adr) r1 r1
    (cF rfl (oL true 2 4 .adr) r1 r1
    (cF rfl (oM .t) r1 trivial
    (cF rfl (o_callG1 5 (mcell_c o room q root l) Try.func93 rfl (by kernel_rfl) (Args.two (.pagg .t) .t)) r2 r1
    (cF rfl (oM .t) r1 trivial
    (cF rfl (o_nilCheck 4 .is (by rfl)) r1 r1
    (cF rfl (oF 0 4 .adr) r1 r1
    (cF rfl (oL true 2 4 .adr) r1 r1
    (cF rfl (oM .t) r1 trivial
    (cF rfl (o_callG1 5 (mcell_c o room q root r) Try.func93 rfl (by kernel_rfl) (Args.two (.pagg .t) .t)) r2 r1
    (cF rfl (oH [.int .i64 0, .int .i64 0, .int .i64 0, .int .i64 0, .int .i64 0, .int .i64 0] 102) trivial trivial
    (cF rfl (oH [.int .i64 0, .int .i64 0, .int .i64 0, .int .i64 0, .int .i64 0, .int .i64 0] 103) trivial trivial
    (cF rfl (oA 6 102 .same (.conv .t .agg)) r2 r1
    (cF rfl (oA 6 103 .same (.conv .t .agg)) r2 r1
    Chain.nil))))))))))))))))
    (by kernel_rfl) (by rw [hB]; kernel_rfl) ?_
  clear hS; intro a w F hS
  replace hS := hS.sub
  obtain ⟨F, hS⟩ := hS.nm [10, 9, 8, 7, 2, 1, 0] [103, 102, 101, 5, 4, 0] rfl rfl
  try dsimp only [RS.sub, SF.sub, CF.sub, csub, Anc.sub, List.map, stCells, xL, xM, Nat.reduceAdd, xD, xE, xT, xU, xC, xN, zCF, ldSF, rCell, rPair, mCell, mCellS] at hS
  generalize Act.tau a 9 = v9 at hS
  generalize Act.tau a 10 = v10 at hS
  refine then_n (wp_seq ?_)
  refine region_q hS
    (cF rfl (oM .t) r1 trivial
    (cF rfl (oM .t) r1 trivial
    (cF rfl (oF 0 101 .is) r1 r1
    (cF rfl (oL false 1 101 .adr) r1 r1
    (cF rfl (oF 1 101 .is) r1 r1
    (cF rfl (oL false 1 101 .adr) r1 r1
    (cF rfl (oF 4 102 .is) r1 r1
    (cF rfl (oL false 1 102 .adr) r1 r1
    (cF rfl (oF 4 103 .is) r1 r1
    (cF rfl (oL false 1 103 .adr) r1 r1
    (cF rfl (o_add .t .t) r2 trivial
    (cF rfl (o_add .t (.ci (by kernel_rfl))) r1 trivial
    (cF rfl (oF 5 102 .is) r1 r1
    (cF rfl (oL false 1 102 .adr) r1 r1
    (cF rfl (oF 5 103 .is) r1 r1
    (cF rfl (oL false 1 103 .adr) r1 r1
    (cF rfl (o_max .t .t) r2 trivial
    (cF rfl (o_add .t (.ci (by kernel_rfl))) r1 trivial
    (cF rfl (oB [(0, .tmp 31), (1, .tmp 32), (2, .tmp 34), (3, .tmp 36), (4, .tmp 42), (5, .tmp 48)] [.int .i64 0, .int .i64 0, .int .i64 0, .int .i64 0, .int .i64 0, .int .i64 0] [(0, 1), (1, 1), (2, 1), (3, 1), (4, 1), (5, 1)] (.one rfl .t one_int (by kernel_rfl) (.one rfl .t one_int (by kernel_rfl) (.one rfl .t one_int (by kernel_rfl) (.one rfl .t one_int (by kernel_rfl) (.one rfl .t one_int (by kernel_rfl) (.one rfl .t one_int (by kernel_rfl) .nil))))))) r6 trivial
    (cF rfl (oH [.int .i64 0, .int .i64 0, .int .i64 0, .int .i64 0, .int .i64 0, .int .i64 0] 104) trivial trivial
    (cF rfl (oA 6 104 .same .t) r2 r1
    Chain.nil)))))))))))))))))))))
    hB ?_
  clear hS; intro a w F hS
  replace hS := hS.sub
  obtain ⟨F, hS⟩ := hS.nm [11, 8, 0] [104, 5, 4, 0] rfl rfl
  try dsimp only [RS.sub, SF.sub, CF.sub, csub, Anc.sub, List.map, stCells, xL, xM, Nat.reduceAdd, xD, xE, xT, xU, xC, xN, zCF, ldSF, rCell, rPair, mCell, mCellS] at hS
  generalize Act.tau a 11 = v11 at hS
  refine then_n (wp_seq ?_)
  refine region_any (by kernel_rfl) hS (by kernel_rfl)
    (cF rfl (oM .t) r1 trivial
    (cF rfl (o_nilCheck 4 .is (by rfl)) r1 r1
    (cF rfl (oF 0 4 .adr) r1 r1
    (cF rfl (oF 0 4 .adr) r1 r1
    (cF rfl (oL false 1 4 .adr) r1 r1
    (cF rfl (oL true 6 104 .is) r1 r1
    (cF rfl (o_callG1 5 (aPut_c o room q (mCell q l r p)) Try.func145 rfl (by kernel_rfl) (Args.two .t (.pagg .t))) r2 r1
    (cF rfl (oM .t) r1 trivial
    (cF rfl (o_extract .t rfl) r1 trivial
    (cF rfl (o_extract .t rfl) r1 trivial
    (cF rfl (oN .t) r1 trivial
    (cF rfl (oN .t) r1 trivial
    Chain.nil))))))))))))
    (by kernel_rfl) (by rw [hB]; kernel_rfl) ?_
  clear hS; intro a w F hS
  obtain ⟨F, hS⟩ := hS.nm [13, 12, 8, 0] [5, 4, 0] rfl rfl
  try dsimp only [List.map, xD, xE, xT, xU, ldSF, rCell, rPair, mCell, mCellS] at hS
  refine then_n (wp_seq ?_)
  refine region_q hS
    (cF rfl (oM .t) r1 trivial
    (cF rfl (oM .t) r1 trivial
    (cF rfl (o_nilCheck 4 .is (by rfl)) r1 r1
    (cF rfl (oF 2 4 .adr) r1 r1
    (cF rfl (o_store1 4 .adr .t one_int (by kernel_rfl) (by kernel_rfl)) r2 r1
    Chain.nil)))))
    hB ?_
  clear hS; intro a w F hS
  obtain ⟨F, hS⟩ := hS.nm [12, 8] [5, 4, 0] rfl rfl
  try dsimp only [List.map, stCells, xL, xM, Nat.reduceAdd, xD, xE, xT, xU, xC, xN, zCF, rCell, rPair, mCell, mCellS] at hS
  refine then_n (wp_seq ?_)
  refine region_q hS
    (cF rfl (oM .t) r1 trivial
    (cF rfl (oN .t) r1 trivial
    Chain.nil))
    hB ?_
  clear hS; intro a w F hS
  obtain ⟨F, hS⟩ := hS.nm [8] [5, 4, 0] rfl rfl
  try dsimp only [rCell, rPair, mCell, mCellS] at hS
  refine then_n (wp_ret ?_)
  have hS := hS.fresh 1 rfl
  obtain ⟨F, hS⟩ := hS.push 1 5 rfl rfl rfl (by kernel_rfl)
  obtain ⟨F, hS⟩ := hS.push 1 4 rfl rfl rfl (by kernel_rfl)
  have hS := hS.turn 1 rfl (r' := RS.hp (bldH 157 (.pointer (some ⟨b, 0, none⟩)) o root (madeS room q why l r p).2.1 room (madeS room q why l r p).1)) (fun _ _ _ _ h => by rw [hg]; exact h)
  refine ret_G1 hG hS rfl (.tmp rfl .nil) (.one (.int (by first | (rw [hg]; done) | (rw [hg]; rfl)))) rfl

theorem meven_c (b : Nat) (o : Option Nat) (root why room : Int) (q : List Cell) (l r : Int) (p : PairD) : FnG Try.prog 128 1 [.is (.pointer (some ⟨b, 0, none⟩)), .int .i64 l, .int .i64 r, .agg (rPair p)] [bldH 157 (.pointer (some ⟨b, 0, none⟩)) o root why room q] (.int .i64 (evenS id room q why l r p).2.2) (fun _ => [bldH 157 (.pointer (some ⟨b, 0, none⟩)) o root (evenS id room q why l r p).2.1 room (evenS id room q why l r p).1]) := by
  refine FnG.mk Try.func128 rfl Try.ntmps128 rfl (by kernel_rfl) ?_
  intro B F0 a w F hB hG hS
  obtain ⟨F, hS⟩ := hS.peel 1 4 rfl rfl
  obtain ⟨F, hS⟩ := hS.peel 1 5 rfl rfl
  obtain ⟨F, hS⟩ := hS.nm [3, 2, 1, 0] [5, 4, 0] rfl rfl
  refine wp_seq ?_
  refine region_q hS
    (cF rfl (oX 101 (.conv .t .agg)) r1 trivial
    (cF rfl (oN (.ci (by kernel_rfl))) trivial trivial
    Chain.nil))
    hB ?_
  clear hS; intro a w F hS
  replace hS := hS.sub
  obtain ⟨F, hS⟩ := hS.nm [8, 7, 2, 1, 0] [101, 5, 4, 0] rfl rfl
  try dsimp only [RS.sub, SF.sub, CF.sub, csub, Anc.sub, List.map, zCF, rCell, rPair, mCell, pairOf] at hS
  generalize Act.tau a 7 = v7 at hS
  refine then_n (wp_seq ?_)
  refine region_any (by kernel_rfl) hS (by kernel_rfl)
    (cF rfl (oM .t) r1 trivial
    (cF rfl (o_nilCheck 4 .is (by rfl)) r1 r1
    (cF rfl (oF 0 4 .adr) r1 r1
    (cF rfl (oL true 2 4 .adr) r1 r1
    (cF rfl (oM .t) r1 trivial
    (cF rfl (o_callG1 5 (mcell_c o room q root l) Try.func93 rfl (by kernel_rfl) (Args.two (.pagg .t) .t)) r2 r1
    (cF rfl (oM .t) r1 trivial
    (cF rfl (o_nilCheck 4 .is (by rfl)) r1 r1
    (cF rfl (oF 0 4 .adr) r1 r1
    (cF rfl (oL true 2 4 .adr) r1 r1
    (cF rfl (oM .t) r1 trivial
    (cF rfl (o_callG1 5 (mcell_c o room q root r) Try.func93 rfl (by kernel_rfl) (Args.two (.pagg .t) .t)) r2 r1
    (cF rfl (oH [.int .i64 0, .int .i64 0, .int .i64 0, .int .i64 0, .int .i64 0, .int .i64 0] 102) trivial trivial
    (cF rfl (oH [.int .i64 0, .int .i64 0, .int .i64 0, .int .i64 0, .int .i64 0, .int .i64 0] 103) trivial trivial
    (cF rfl (oA 6 102 .same (.conv .t .agg)) r2 r1
    (cF rfl (oA 6 103 .same (.conv .t .agg)) r2 r1
    Chain.nil))))))))))))))))
    (by kernel_rfl) (by rw [hB]; kernel_rfl) ?_
  clear hS; intro a w F hS
  replace hS := hS.sub
  obtain ⟨F, hS⟩ := hS.nm [10, 9, 8, 7, 2, 1, 0] [103, 102, 101, 5, 4, 0] rfl rfl
  try dsimp only [RS.sub, SF.sub, CF.sub, csub, Anc.sub, List.map, stCells, xL, xM, Nat.reduceAdd, xD, xE, xT, xU, xC, xN, zCF, ldSF, rCell, rPair, mCell, pairOf] at hS
  generalize Act.tau a 9 = v9 at hS
  generalize Act.tau a 10 = v10 at hS
  refine then_n (wp_seq (wp_block (wp_seq ?_)))
  refine region_q hS
    (cF rfl (oF 5 102 .is) r1 r1
    (cF rfl (oL false 1 102 .adr) r1 r1
    (cF rfl (oF 5 103 .is) r1 r1
    (cF rfl (oL false 1 103 .adr) r1 r1
    (cF rfl (o_add .t (.ci (by kernel_rfl))) r1 trivial
    (cF rfl (o_gtr .t .t) r2 trivial
    (cF rfl (oN .t) r1 trivial
    Chain.nil)))))))
    hB ?_
  clear hS; intro a w F hS
  obtain ⟨F, hS⟩ := hS.nm [25, 10, 9, 8, 7, 2, 1, 0] [103, 102, 101, 5, 4, 0] rfl rfl
  try dsimp only [List.map, xD, xE, xT, xU, ldSF, rCell, rPair, mCell, pairOf] at hS
  refine then_n ?_
  refine cond_b hS rfl (fun hc0 => ?_) (fun hc0 => ?_)
  ·skip
   have h1 : (IntKind.wrap .i64 ((getC q r).high + 1) < (getC q l).high) := by simp only [decide_eq_true_eq, decide_eq_false_iff_not] at hc0; omega
   refine wp_seq ?_
   refine region_any (by kernel_rfl) hS (by kernel_rfl)
     (cF rfl (oM .t) r1 trivial
     (cF rfl (o_nilCheck 4 .is (by rfl)) r1 r1
     (cF rfl (oF 0 4 .adr) r1 r1
     (cF rfl (oL true 2 4 .adr) r1 r1
     (cF rfl (oF 1 102 .is) r1 r1
     (cF rfl (oL false 1 102 .adr) r1 r1
     (cF rfl (o_callG1 5 (mcell_c o room q root (getC q l).right) Try.func93 rfl (by kernel_rfl) (Args.two (.pagg .t) .t)) r2 r1
     (cF rfl (oH [.int .i64 0, .int .i64 0, .int .i64 0, .int .i64 0, .int .i64 0, .int .i64 0] 104) trivial trivial
     (cF rfl (oA 6 104 .same (.conv .t .agg)) r2 r1
     Chain.nil)))))))))
     (by kernel_rfl) (by rw [hB]; kernel_rfl) ?_
   clear hS; intro a w F hS
   replace hS := hS.sub
   obtain ⟨F, hS⟩ := hS.nm [11, 9, 8, 7, 2, 1, 0] [104, 102, 101, 5, 4, 0] rfl rfl
   try dsimp only [RS.sub, SF.sub, CF.sub, csub, Anc.sub, List.map, stCells, xL, xM, Nat.reduceAdd, xD, xE, xT, xU, xC, xN, zCF, ldSF, rCell, rPair, mCell, pairOf] at hS
   generalize Act.tau a 11 = v11 at hS
   refine then_n (wp_seq (wp_seq ?_))
   refine region_any (by kernel_rfl) hS (by kernel_rfl)
     (cF rfl (oM .t) r1 trivial
     (cF rfl (o_nilCheck 4 .is (by rfl)) r1 r1
     (cF rfl (oF 0 4 .adr) r1 r1
     (cF rfl (oL true 2 4 .adr) r1 r1
     (cF rfl (oF 0 102 .is) r1 r1
     (cF rfl (oL false 1 102 .adr) r1 r1
     (cF rfl (o_callG1 5 (mcell_c o room q root (getC q l).left) Try.func93 rfl (by kernel_rfl) (Args.two (.pagg .t) .t)) r2 r1
     (cF rfl (o_field1 (ft := 3) (off := 5) (by kernel_rfl) (by kernel_rfl) .t rfl) r1 trivial
     (cF rfl (oF 5 104 .is) r1 r1
     (cF rfl (oL false 1 104 .adr) r1 r1
     (cF rfl (o_geq .t .t) r2 trivial
     Chain.nil)))))))))))
     (by kernel_rfl) (by rw [hB]; kernel_rfl) ?_
   clear hS; intro a w F hS
   obtain ⟨F, hS⟩ := hS.nm [49, 11, 9, 8, 7, 2, 1, 0] [104, 102, 101, 5, 4, 0] rfl rfl
   try dsimp only [List.map, xD, xE, xT, xU, ldSF, rCell, rPair, mCell, pairOf] at hS
   refine then_n ?_
   refine cond_b hS rfl (fun hc1 => ?_) (fun hc1 => ?_)
   ·skip
    have h3 : ((getC q (getC q l).right).high ≤ (getC q (getC q l).left).high) := by simp only [decide_eq_true_eq, decide_eq_false_iff_not] at hc1; omega
    have hg : (evenS id room q why l r p) = (madeS room (madeS room q why (getC q l).right r p).1 (madeS room q why (getC q l).right r p).2.1 (getC q l).left (madeS room q why (getC q l).right r p).2.2 (pairOf id (getC q l))) := by unfold evenS; rw [if_pos h1, if_pos h3] <;> rfl
    refine wp_seq ?_
    have hS := hS.fresh 1 rfl
    obtain ⟨F, hS⟩ := hS.push 1 5 rfl rfl rfl (by kernel_rfl)
    obtain ⟨F, hS⟩ := hS.push 1 4 rfl rfl rfl (by kernel_rfl)
    have hS := hS.turn 1 rfl (r' := RS.hp (bldH 157 (.pointer (some ⟨b, 0, none⟩)) o root why room q)) (fun _ _ _ _ h => h)
    obtain ⟨F, hS⟩ := hS.nm [49, 11, 9, 8, 7, 2, 1, 0] [104, 102, 101, 1, 0] rfl rfl
    refine region_any (by kernel_rfl) hS (by kernel_rfl)
      (cF rfl (oM .t) r1 trivial
      (cF rfl (oF 0 102 .is) r1 r1
      (cF rfl (oL false 1 102 .adr) r1 r1
      (cF rfl (oM .t) r1 trivial
      (cF rfl (oF 1 102 .is) r1 r1
      (cF rfl (oL false 1 102 .adr) r1 r1
      (cF rfl (oM .t) r1 trivial
      (cF rfl (oL true 2 101 .is) r1 r1
      (cF rfl (o_callG1 1 (mmade_c b o root why room q (getC q l).right r p) Try.func127 rfl (by kernel_rfl) (Args.four .t .t .t (.pagg .t))) r4 r1
      (cF rfl (oL true 6 102 .is) r1 r1
      (cF rfl (oP (pair_c (getC q l)) Try.func129 (Args.one (.pagg .t))) r1 trivial
      (cF rfl (o_callG1 1 (mmade_c b o root (madeS room q why (getC q l).right r p).2.1 room (madeS room q why (getC q l).right r p).1 (getC q l).left (madeS room q why (getC q l).right r p).2.2 (pairOf id (getC q l))) Try.func127 rfl (by kernel_rfl) (Args.four .t .t .t .t)) r4 r1
      (cF rfl (oN .t) r1 trivial
      Chain.nil)))))))))))))
      (by kernel_rfl) (by rw [hB]; kernel_rfl) ?_
    clear hS; intro a w F hS
    obtain ⟨F, hS⟩ := hS.nm [11, 9, 8, 7, 2, 1, 0] [104, 102, 101, 1, 0] rfl rfl
    try dsimp only [List.map, xD, xE, xT, xU, ldSF, rCell, rPair, mCell, pairOf] at hS
    refine then_n (wp_ret (then_r (block_r (then_r ?_))))
    have hS := hS.turn 1 rfl (r' := RS.hp (bldH 157 (.pointer (some ⟨b, 0, none⟩)) o root (evenS id room q why l r p).2.1 room (evenS id room q why l r p).1)) (fun _ _ _ _ h => by rw [hg]; exact h)
    refine ret_G1 hG hS rfl (.tmp rfl .nil) (.one (.int (by first | (rw [hg]; done) | (rw [hg]; rfl)))) rfl
   have h3 : ¬ ((getC q (getC q l).right).high ≤ (getC q (getC q l).left).high) := by simp only [decide_eq_true_eq, decide_eq_false_iff_not] at hc1; omega
   have hg : (evenS id room q why l r p) = (madeS room (madeS room (madeS room q why (getC q l).left (getC q (getC q l).right).left (pairOf id (getC q l))).1 (madeS room q why (getC q l).left (getC q (getC q l).right).left (pairOf id (getC q l))).2.1 (getC q (getC q l).right).right r p).1 (madeS room (madeS room q why (getC q l).left (getC q (getC q l).right).left (pairOf id (getC q l))).1 (madeS room q why (getC q l).left (getC q (getC q l).right).left (pairOf id (getC q l))).2.1 (getC q (getC q l).right).right r p).2.1 (madeS room q why (getC q l).left (getC q (getC q l).right).left (pairOf id (getC q l))).2.2 (madeS room (madeS room q why (getC q l).left (getC q (getC q l).right).left (pairOf id (getC q l))).1 (madeS room q why (getC q l).left (getC q (getC q l).right).left (pairOf id (getC q l))).2.1 (getC q (getC q l).right).right r p).2.2 (pairOf id (getC q (getC q l).right))) := by unfold evenS; rw [if_pos h1, if_neg h3] <;> rfl
   refine wp_skip (then_n (wp_seq ?_))
   have hS := hS.fresh 1 rfl
   obtain ⟨F, hS⟩ := hS.push 1 5 rfl rfl rfl (by kernel_rfl)
   obtain ⟨F, hS⟩ := hS.push 1 4 rfl rfl rfl (by kernel_rfl)
   have hS := hS.turn 1 rfl (r' := RS.hp (bldH 157 (.pointer (some ⟨b, 0, none⟩)) o root why room q)) (fun _ _ _ _ h => h)
   obtain ⟨F, hS⟩ := hS.nm [49, 11, 9, 8, 7, 2, 1, 0] [104, 102, 101, 1, 0] rfl rfl
   refine region_any (by kernel_rfl) hS (by kernel_rfl)
     (cF rfl (oM .t) r1 trivial
     (cF rfl (oM .t) r1 trivial
     (cF rfl (oF 0 102 .is) r1 r1
     (cF rfl (oL false 1 102 .adr) r1 r1
     (cF rfl (oF 0 104 .is) r1 r1
     (cF rfl (oL false 1 104 .adr) r1 r1
     (cF rfl (oL true 6 102 .is) r1 r1
     (cF rfl (oP (pair_c (getC q l)) Try.func129 (Args.one (.pagg .t))) r1 trivial
     (cF rfl (o_callG1 1 (mmade_c b o root why room q (getC q l).left (getC q (getC q l).right).left (pairOf id (getC q l))) Try.func127 rfl (by kernel_rfl) (Args.four .t .t .t .t)) r4 r1
     (cF rfl (oM .t) r1 trivial
     (cF rfl (oF 1 104 .is) r1 r1
     (cF rfl (oL false 1 104 .adr) r1 r1
     (cF rfl (oM .t) r1 trivial
     (cF rfl (oL true 2 101 .is) r1 r1
     (cF rfl (o_callG1 1 (mmade_c b o root (madeS room q why (getC q l).left (getC q (getC q l).right).left (pairOf id (getC q l))).2.1 room (madeS room q why (getC q l).left (getC q (getC q l).right).left (pairOf id (getC q l))).1 (getC q (getC q l).right).right r p) Try.func127 rfl (by kernel_rfl) (Args.four .t .t .t (.pagg .t))) r4 r1
     (cF rfl (oL true 6 104 .is) r1 r1
     (cF rfl (oP (pair_c (getC q (getC q l).right)) Try.func129 (Args.one (.pagg .t))) r1 trivial
     (cF rfl (o_callG1 1 (mmade_c b o root (madeS room (madeS room q why (getC q l).left (getC q (getC q l).right).left (pairOf id (getC q l))).1 (madeS room q why (getC q l).left (getC q (getC q l).right).left (pairOf id (getC q l))).2.1 (getC q (getC q l).right).right r p).2.1 room (madeS room (madeS room q why (getC q l).left (getC q (getC q l).right).left (pairOf id (getC q l))).1 (madeS room q why (getC q l).left (getC q (getC q l).right).left (pairOf id (getC q l))).2.1 (getC q (getC q l).right).right r p).1 (madeS room q why (getC q l).left (getC q (getC q l).right).left (pairOf id (getC q l))).2.2 (madeS room (madeS room q why (getC q l).left (getC q (getC q l).right).left (pairOf id (getC q l))).1 (madeS room q why (getC q l).left (getC q (getC q l).right).left (pairOf id (getC q l))).2.1 (getC q (getC q l).right).right r p).2.2 (pairOf id (getC q (getC q l).right))) Try.func127 rfl (by kernel_rfl) (Args.four .t .t .t .t)) r4 r1
     (cF rfl (oN .t) r1 trivial
     Chain.nil)))))))))))))))))))
     (by kernel_rfl) (by rw [hB]; kernel_rfl) ?_
   clear hS; intro a w F hS
   obtain ⟨F, hS⟩ := hS.nm [8, 7, 2, 1, 0] [101, 1, 0] rfl rfl
   try dsimp only [List.map, xD, xE, xT, xU, ldSF, rCell, rPair, mCell, pairOf] at hS
   refine then_n (wp_ret (block_r (then_r ?_)))
   have hS := hS.turn 1 rfl (r' := RS.hp (bldH 157 (.pointer (some ⟨b, 0, none⟩)) o root (evenS id room q why l r p).2.1 room (evenS id room q why l r p).1)) (fun _ _ _ _ h => by rw [hg]; exact h)
   refine ret_G1 hG hS rfl (.tmp rfl .nil) (.one (.int (by first | (rw [hg]; done) | (rw [hg]; rfl)))) rfl
  have h1 : ¬ (IntKind.wrap .i64 ((getC q r).high + 1) < (getC q l).high) := by simp only [decide_eq_true_eq, decide_eq_false_iff_not] at hc0; omega
  refine wp_seq ?_
  refine region_q hS
    (cF rfl (oF 5 103 .is) r1 r1
    (cF rfl (oL false 1 103 .adr) r1 r1
    (cF rfl (oF 5 102 .is) r1 r1
    (cF rfl (oL false 1 102 .adr) r1 r1
    (cF rfl (o_add .t (.ci (by kernel_rfl))) r1 trivial
    (cF rfl (o_gtr .t .t) r2 trivial
    (cF rfl (oN .t) r1 trivial
    Chain.nil)))))))
    hB ?_
  clear hS; intro a w F hS
  obtain ⟨F, hS⟩ := hS.nm [80, 10, 8, 7, 2, 1, 0] [103, 101, 5, 4, 0] rfl rfl
  try dsimp only [List.map, xD, xE, xT, xU, ldSF, rCell, rPair, mCell, pairOf] at hS
  refine then_n ?_
  refine cond_b hS rfl (fun hc2 => ?_) (fun hc2 => ?_)
  ·skip
   have h2 : (IntKind.wrap .i64 ((getC q l).high + 1) < (getC q r).high) := by simp only [decide_eq_true_eq, decide_eq_false_iff_not] at hc2; omega
   refine wp_seq ?_
   refine region_any (by kernel_rfl) hS (by kernel_rfl)
     (cF rfl (oM .t) r1 trivial
     (cF rfl (o_nilCheck 4 .is (by rfl)) r1 r1
     (cF rfl (oF 0 4 .adr) r1 r1
     (cF rfl (oL true 2 4 .adr) r1 r1
     (cF rfl (oF 0 103 .is) r1 r1
     (cF rfl (oL false 1 103 .adr) r1 r1
     (cF rfl (o_callG1 5 (mcell_c o room q root (getC q r).left) Try.func93 rfl (by kernel_rfl) (Args.two (.pagg .t) .t)) r2 r1
     (cF rfl (oH [.int .i64 0, .int .i64 0, .int .i64 0, .int .i64 0, .int .i64 0, .int .i64 0] 105) trivial trivial
     (cF rfl (oA 6 105 .same (.conv .t .agg)) r2 r1
     Chain.nil)))))))))
     (by kernel_rfl) (by rw [hB]; kernel_rfl) ?_
   clear hS; intro a w F hS
   replace hS := hS.sub
   obtain ⟨F, hS⟩ := hS.nm [12, 10, 8, 7, 2, 1, 0] [105, 103, 101, 5, 4, 0] rfl rfl
   try dsimp only [RS.sub, SF.sub, CF.sub, csub, Anc.sub, List.map, stCells, xL, xM, Nat.reduceAdd, xD, xE, xT, xU, xC, xN, zCF, ldSF, rCell, rPair, mCell, pairOf] at hS
   generalize Act.tau a 12 = v12 at hS
   refine then_n (wp_seq (wp_seq ?_))
   refine region_any (by kernel_rfl) hS (by kernel_rfl)
     (cF rfl (oM .t) r1 trivial
     (cF rfl (o_nilCheck 4 .is (by rfl)) r1 r1
     (cF rfl (oF 0 4 .adr) r1 r1
     (cF rfl (oL true 2 4 .adr) r1 r1
     (cF rfl (oF 1 103 .is) r1 r1
     (cF rfl (oL false 1 103 .adr) r1 r1
     (cF rfl (o_callG1 5 (mcell_c o room q root (getC q r).right) Try.func93 rfl (by kernel_rfl) (Args.two (.pagg .t) .t)) r2 r1
     (cF rfl (o_field1 (ft := 3) (off := 5) (by kernel_rfl) (by kernel_rfl) .t rfl) r1 trivial
     (cF rfl (oF 5 105 .is) r1 r1
     (cF rfl (oL false 1 105 .adr) r1 r1
     (cF rfl (o_geq .t .t) r2 trivial
     Chain.nil)))))))))))
     (by kernel_rfl) (by rw [hB]; kernel_rfl) ?_
   clear hS; intro a w F hS
   obtain ⟨F, hS⟩ := hS.nm [104, 12, 10, 8, 7, 2, 1, 0] [105, 103, 101, 5, 4, 0] rfl rfl
   try dsimp only [List.map, xD, xE, xT, xU, ldSF, rCell, rPair, mCell, pairOf] at hS
   refine then_n ?_
   refine cond_b hS rfl (fun hc3 => ?_) (fun hc3 => ?_)
   ·skip
    have h3 : ((getC q (getC q r).left).high ≤ (getC q (getC q r).right).high) := by simp only [decide_eq_true_eq, decide_eq_false_iff_not] at hc3; omega
    have hg : (evenS id room q why l r p) = (madeS room (madeS room q why l (getC q r).left p).1 (madeS room q why l (getC q r).left p).2.1 (madeS room q why l (getC q r).left p).2.2 (getC q r).right (pairOf id (getC q r))) := by unfold evenS; rw [if_neg h1, if_pos h2, if_pos h3] <;> rfl
    refine wp_seq ?_
    have hS := hS.fresh 1 rfl
    obtain ⟨F, hS⟩ := hS.push 1 5 rfl rfl rfl (by kernel_rfl)
    obtain ⟨F, hS⟩ := hS.push 1 4 rfl rfl rfl (by kernel_rfl)
    have hS := hS.turn 1 rfl (r' := RS.hp (bldH 157 (.pointer (some ⟨b, 0, none⟩)) o root why room q)) (fun _ _ _ _ h => h)
    obtain ⟨F, hS⟩ := hS.nm [104, 12, 10, 8, 7, 2, 1, 0] [105, 103, 101, 1, 0] rfl rfl
    refine region_any (by kernel_rfl) hS (by kernel_rfl)
      (cF rfl (oM .t) r1 trivial
      (cF rfl (oM .t) r1 trivial
      (cF rfl (oM .t) r1 trivial
      (cF rfl (oF 0 103 .is) r1 r1
      (cF rfl (oL false 1 103 .adr) r1 r1
      (cF rfl (oL true 2 101 .is) r1 r1
      (cF rfl (o_callG1 1 (mmade_c b o root why room q l (getC q r).left p) Try.func127 rfl (by kernel_rfl) (Args.four .t .t .t (.pagg .t))) r4 r1
      (cF rfl (oF 1 103 .is) r1 r1
      (cF rfl (oL false 1 103 .adr) r1 r1
      (cF rfl (oL true 6 103 .is) r1 r1
      (cF rfl (oP (pair_c (getC q r)) Try.func129 (Args.one (.pagg .t))) r1 trivial
      (cF rfl (o_callG1 1 (mmade_c b o root (madeS room q why l (getC q r).left p).2.1 room (madeS room q why l (getC q r).left p).1 (madeS room q why l (getC q r).left p).2.2 (getC q r).right (pairOf id (getC q r))) Try.func127 rfl (by kernel_rfl) (Args.four .t .t .t .t)) r4 r1
      (cF rfl (oN .t) r1 trivial
      Chain.nil)))))))))))))
      (by kernel_rfl) (by rw [hB]; kernel_rfl) ?_
    clear hS; intro a w F hS
    obtain ⟨F, hS⟩ := hS.nm [12, 10, 8, 7, 2, 1, 0] [105, 103, 101, 1, 0] rfl rfl
    try dsimp only [List.map, xD, xE, xT, xU, ldSF, rCell, rPair, mCell, pairOf] at hS
    refine then_n (wp_ret (then_r (block_r (then_r ?_))))
    have hS := hS.turn 1 rfl (r' := RS.hp (bldH 157 (.pointer (some ⟨b, 0, none⟩)) o root (evenS id room q why l r p).2.1 room (evenS id room q why l r p).1)) (fun _ _ _ _ h => by rw [hg]; exact h)
    refine ret_G1 hG hS rfl (.tmp rfl .nil) (.one (.int (by first | (rw [hg]; done) | (rw [hg]; rfl)))) rfl
   have h3 : ¬ ((getC q (getC q r).left).high ≤ (getC q (getC q r).right).high) := by simp only [decide_eq_true_eq, decide_eq_false_iff_not] at hc3; omega
   have hg : (evenS id room q why l r p) = (madeS room (madeS room (madeS room q why l (getC q (getC q r).left).left p).1 (madeS room q why l (getC q (getC q r).left).left p).2.1 (getC q (getC q r).left).right (getC q r).right (pairOf id (getC q r))).1 (madeS room (madeS room q why l (getC q (getC q r).left).left p).1 (madeS room q why l (getC q (getC q r).left).left p).2.1 (getC q (getC q r).left).right (getC q r).right (pairOf id (getC q r))).2.1 (madeS room q why l (getC q (getC q r).left).left p).2.2 (madeS room (madeS room q why l (getC q (getC q r).left).left p).1 (madeS room q why l (getC q (getC q r).left).left p).2.1 (getC q (getC q r).left).right (getC q r).right (pairOf id (getC q r))).2.2 (pairOf id (getC q (getC q r).left))) := by unfold evenS; rw [if_neg h1, if_pos h2, if_neg h3] <;> rfl
   refine wp_skip (then_n (wp_seq ?_))
   have hS := hS.fresh 1 rfl
   obtain ⟨F, hS⟩ := hS.push 1 5 rfl rfl rfl (by kernel_rfl)
   obtain ⟨F, hS⟩ := hS.push 1 4 rfl rfl rfl (by kernel_rfl)
   have hS := hS.turn 1 rfl (r' := RS.hp (bldH 157 (.pointer (some ⟨b, 0, none⟩)) o root why room q)) (fun _ _ _ _ h => h)
   obtain ⟨F, hS⟩ := hS.nm [104, 12, 10, 8, 7, 2, 1, 0] [105, 103, 101, 1, 0] rfl rfl
   refine region_any (by kernel_rfl) hS (by kernel_rfl)
     (cF rfl (oM .t) r1 trivial
     (cF rfl (oM .t) r1 trivial
     (cF rfl (oM .t) r1 trivial
     (cF rfl (oF 0 105 .is) r1 r1
     (cF rfl (oL false 1 105 .adr) r1 r1
     (cF rfl (oL true 2 101 .is) r1 r1
     (cF rfl (o_callG1 1 (mmade_c b o root why room q l (getC q (getC q r).left).left p) Try.func127 rfl (by kernel_rfl) (Args.four .t .t .t (.pagg .t))) r4 r1
     (cF rfl (oM .t) r1 trivial
     (cF rfl (oF 1 105 .is) r1 r1
     (cF rfl (oL false 1 105 .adr) r1 r1
     (cF rfl (oF 1 103 .is) r1 r1
     (cF rfl (oL false 1 103 .adr) r1 r1
     (cF rfl (oL true 6 103 .is) r1 r1
     (cF rfl (oP (pair_c (getC q r)) Try.func129 (Args.one (.pagg .t))) r1 trivial
     (cF rfl (o_callG1 1 (mmade_c b o root (madeS room q why l (getC q (getC q r).left).left p).2.1 room (madeS room q why l (getC q (getC q r).left).left p).1 (getC q (getC q r).left).right (getC q r).right (pairOf id (getC q r))) Try.func127 rfl (by kernel_rfl) (Args.four .t .t .t .t)) r4 r1
     (cF rfl (oL true 6 105 .is) r1 r1
     (cF rfl (oP (pair_c (getC q (getC q r).left)) Try.func129 (Args.one (.pagg .t))) r1 trivial
     (cF rfl (o_callG1 1 (mmade_c b o root (madeS room (madeS room q why l (getC q (getC q r).left).left p).1 (madeS room q why l (getC q (getC q r).left).left p).2.1 (getC q (getC q r).left).right (getC q r).right (pairOf id (getC q r))).2.1 room (madeS room (madeS room q why l (getC q (getC q r).left).left p).1 (madeS room q why l (getC q (getC q r).left).left p).2.1 (getC q (getC q r).left).right (getC q r).right (pairOf id (getC q r))).1 (madeS room q why l (getC q (getC q r).left).left p).2.2 (madeS room (madeS room q why l (getC q (getC q r).left).left p).1 (madeS room q why l (getC q (getC q r).left).left p).2.1 (getC q (getC q r).left).right (getC q r).right (pairOf id (getC q r))).2.2 (pairOf id (getC q (getC q r).left))) Try.func127 rfl (by kernel_rfl) (Args.four .t .t .t .t)) r4 r1
     (cF rfl (oN .t) r1 trivial
     Chain.nil)))))))))))))))))))
     (by kernel_rfl) (by rw [hB]; kernel_rfl) ?_
   clear hS; intro a w F hS
   obtain ⟨F, hS⟩ := hS.nm [8, 7, 2, 1, 0] [101, 1, 0] rfl rfl
   try dsimp only [List.map, xD, xE, xT, xU, ldSF, rCell, rPair, mCell, pairOf] at hS
   refine then_n (wp_ret (block_r (then_r ?_)))
   have hS := hS.turn 1 rfl (r' := RS.hp (bldH 157 (.pointer (some ⟨b, 0, none⟩)) o root (evenS id room q why l r p).2.1 room (evenS id room q why l r p).1)) (fun _ _ _ _ h => by rw [hg]; exact h)
   refine ret_G1 hG hS rfl (.tmp rfl .nil) (.one (.int (by first | (rw [hg]; done) | (rw [hg]; rfl)))) rfl
  have h2 : ¬ (IntKind.wrap .i64 ((getC q l).high + 1) < (getC q r).high) := by simp only [decide_eq_true_eq, decide_eq_false_iff_not] at hc2; omega
  have hg : (evenS id room q why l r p) = (madeS room q why l r p) := by unfold evenS; rw [if_neg h1, if_neg h2] <;> rfl
  refine wp_skip (block_n (then_n (wp_seq ?_)))
  have hS := hS.fresh 1 rfl
  obtain ⟨F, hS⟩ := hS.push 1 5 rfl rfl rfl (by kernel_rfl)
  obtain ⟨F, hS⟩ := hS.push 1 4 rfl rfl rfl (by kernel_rfl)
  have hS := hS.turn 1 rfl (r' := RS.hp (bldH 157 (.pointer (some ⟨b, 0, none⟩)) o root why room q)) (fun _ _ _ _ h => h)
  obtain ⟨F, hS⟩ := hS.nm [80, 10, 8, 7, 2, 1, 0] [103, 101, 1, 0] rfl rfl
  refine region_q hS
    (cF rfl (oM .t) r1 trivial
    (cF rfl (oM .t) r1 trivial
    (cF rfl (oM .t) r1 trivial
    (cF rfl (oL true 2 101 .is) r1 r1
    (cF rfl (o_callG1 1 (mmade_c b o root why room q l r p) Try.func127 rfl (by kernel_rfl) (Args.four .t .t .t (.pagg .t))) r4 r1
    (cF rfl (oN .t) r1 trivial
    Chain.nil))))))
    hB ?_
  clear hS; intro a w F hS
  obtain ⟨F, hS⟩ := hS.nm [8] [1, 0] rfl rfl
  try dsimp only [List.map, xD, xE, xT, xU, ldSF, rCell, rPair, mCell, pairOf] at hS
  refine then_n (wp_ret ?_)
  have hS := hS.turn 1 rfl (r' := RS.hp (bldH 157 (.pointer (some ⟨b, 0, none⟩)) o root (evenS id room q why l r p).2.1 room (evenS id room q why l r p).1)) (fun _ _ _ _ h => by rw [hg]; exact h)
  refine ret_G1 hG hS rfl (.tmp rfl .nil) (.one (.int (by first | (rw [hg]; done) | (rw [hg]; rfl)))) rfl

theorem smade_c (b : Nat) (o : Option Nat) (root why room : Int) (q : List Cell) (l r : Int) (x : Int) : FnG Try.prog 124 1 [.is (.pointer (some ⟨b, 0, none⟩)), .int .i64 l, .int .i64 r, .int .i64 x] [bldH 190 (.pointer (some ⟨b, 0, none⟩)) o root why room q] (.int .i64 (madeS room q why l r ⟨0, x⟩).2.2) (fun _ => [bldH 190 (.pointer (some ⟨b, 0, none⟩)) o root (madeS room q why l r ⟨0, x⟩).2.1 room (madeS room q why l r ⟨0, x⟩).1]) := by
  refine FnG.mk Try.func124 rfl Try.ntmps124 rfl (by kernel_rfl) ?_
  intro B F0 a w F hB hG hS
  obtain ⟨F, hS⟩ := hS.peel 1 4 rfl rfl
  obtain ⟨F, hS⟩ := hS.peel 1 5 rfl rfl
  obtain ⟨F, hS⟩ := hS.nm [3, 2, 1, 0] [5, 4, 0] rfl rfl
  refine wp_seq ?_
  refine region_q hS
    (cF rfl (oN (.ci (by kernel_rfl))) trivial trivial
    Chain.nil)
    hB ?_
  clear hS; intro a w F hS
  obtain ⟨F, hS⟩ := hS.nm [8, 3, 2, 1, 0] [5, 4, 0] rfl rfl
  try dsimp only [rCell, rPair, mCell, mCellS] at hS
  refine then_n (wp_seq (wp_seq ?_))
  refine region_q hS
    (cF rfl (oM .t) r1 trivial
    (cF rfl (o_nilCheck 4 .is (by rfl)) r1 r1
    (cF rfl (oF 2 4 .adr) r1 r1
    (cF rfl (oL false 1 4 .adr) r1 r1
    (cF rfl (o_neq .t (.ci (by kernel_rfl))) r1 trivial
    Chain.nil)))))
    hB ?_
  clear hS; intro a w F hS
  obtain ⟨F, hS⟩ := hS.nm [17, 8, 3, 2, 1, 0] [5, 4, 0] rfl rfl
  try dsimp only [List.map, xD, xE, xT, xU, ldSF, rCell, rPair, mCell, mCellS] at hS
  refine then_n ?_
  refine cond_b hS rfl (fun hc0 => ?_) (fun hc0 => ?_)
  ·skip
   have hg : (madeS room q why l r ⟨0, x⟩) = (q, why, 0) := madeS_bad (by simpa using hc0)
   refine wp_seq ?_
   refine region_q hS
     (cF rfl (oN (.ci (by kernel_rfl))) trivial trivial
     Chain.nil)
     hB ?_
   clear hS; intro a w F hS
   obtain ⟨F, hS⟩ := hS.nm [8, 3, 2, 1, 0] [5, 4, 0] rfl rfl
   try dsimp only [rCell, rPair, mCell, mCellS] at hS
   refine then_n (wp_ret (then_r ?_))
   have hS := hS.fresh 1 rfl
   obtain ⟨F, hS⟩ := hS.push 1 5 rfl rfl rfl (by kernel_rfl)
   obtain ⟨F, hS⟩ := hS.push 1 4 rfl rfl rfl (by kernel_rfl)
   have hS := hS.turn 1 rfl (r' := RS.hp (bldH 190 (.pointer (some ⟨b, 0, none⟩)) o root (madeS room q why l r ⟨0, x⟩).2.1 room (madeS room q why l r ⟨0, x⟩).1)) (fun _ _ _ _ h => by rw [hg]; exact h)
   refine ret_G1 hG hS rfl (.tmp rfl .nil) (.one (.int (by first | (rw [hg]; done) | (rw [hg]; rfl)))) rfl
  have hg : (madeS room q why l r ⟨0, x⟩) = ((arPut room q (mCellS q l r x)).1, (arPut room q (mCellS q l r x)).2.2, (arPut room q (mCellS q l r x)).2.1) := by rw [mCellS_eq]; exact if_neg (by simpa using hc0)
  refine wp_skip (then_n (wp_seq ?_))
  refine region_any (by kernel_rfl) hS (by kernel_rfl)
    (cF rfl (oM .t) r1 trivial
    (cF rfl (o_nilCheck 4 .is (by rfl)) r1 r1
    (cF rfl (oF 0 4 .adr) r1 r1
    (cF rfl (oL true 2 4 .adr) r1 r1
    (cF rfl (oM .t) r1 trivial
    (cF rfl (o_callG1 5 (scell_c o room q root l) Try.func87 rfl (by kernel_rfl) (Args.two (.pagg .t) .t)) r2 r1
    (cF rfl (oM .t) r1 trivial
    (cF rfl (o_nilCheck 4 .is (by rfl)) r1 r1
    (cF rfl (oF 0 4 .adr) r1 r1
    (cF rfl (oL true 2 4 .adr) r1 r1
    (cF rfl (oM .t) r1 trivial
    (cF rfl (o_callG1 5 (scell_c o room q root r) Try.func87 rfl (by kernel_rfl) (Args.two (.pagg .t) .t)) r2 r1
    (cF rfl (oH [.int .i64 0, .int .i64 0, .int .i64 0, .int .i64 0, .int .i64 0, .int .i64 0] 101) trivial trivial
    (cF rfl (oH [.int .i64 0, .int .i64 0, .int .i64 0, .int .i64 0, .int .i64 0, .int .i64 0] 102) trivial trivial
    (cF rfl (oA 6 101 .same (.conv .t .agg)) r2 r1
    (cF rfl (oA 6 102 .same (.conv .t .agg)) r2 r1
    Chain.nil))))))))))))))))
    (by kernel_rfl) (by rw [hB]; kernel_rfl) ?_
  clear hS; intro a w F hS
  replace hS := hS.sub
  obtain ⟨F, hS⟩ := hS.nm [10, 9, 8, 3, 2, 1, 0] [102, 101, 5, 4, 0] rfl rfl
  try dsimp only [RS.sub, SF.sub, CF.sub, csub, Anc.sub, List.map, stCells, xL, xM, Nat.reduceAdd, xD, xE, xT, xU, xC, xN, zCF, ldSF, rCell, rPair, mCell, mCellS] at hS
  generalize Act.tau a 9 = v9 at hS
  generalize Act.tau a 10 = v10 at hS
  refine then_n (wp_seq ?_)
  refine region_any (by kernel_rfl) hS (by kernel_rfl)
    (cF rfl (oM .t) r1 trivial
    (cF rfl (o_nilCheck 4 .is (by rfl)) r1 r1
    (cF rfl (oF 0 4 .adr) r1 r1
    (cF rfl (oF 0 4 .adr) r1 r1
    (cF rfl (oL false 1 4 .adr) r1 r1
    (cF rfl (oM .t) r1 trivial
    (cF rfl (oM .t) r1 trivial
    (cF rfl (oM .t) r1 trivial
    (cF rfl (oF 4 101 .is) r1 r1
    (cF rfl (oL false 1 101 .adr) r1 r1
    (cF rfl (oF 4 102 .is) r1 r1
    (cF rfl (oL false 1 102 .adr) r1 r1
    (cF rfl (o_add .t .t) r2 trivial
    (cF rfl (o_add .t (.ci (by kernel_rfl))) r1 trivial
    (cF rfl (oF 5 101 .is) r1 r1
    (cF rfl (oL false 1 101 .adr) r1 r1
    (cF rfl (oF 5 102 .is) r1 r1
    (cF rfl (oL false 1 102 .adr) r1 r1
    (cF rfl (o_max .t .t) r2 trivial
    (cF rfl (o_add (.ci (by kernel_rfl)) .t) r1 trivial
    (cF rfl (oB [(0, .tmp 36), (1, .tmp 37), (3, .tmp 38), (4, .tmp 44), (5, .tmp 50)] [.int .i64 0, .int .i64 0, .int .i64 0, .int .i64 0, .int .i64 0, .int .i64 0] [(0, 1), (1, 1), (2, 1), (3, 1), (4, 1), (5, 1)] (.one rfl .t one_int (by kernel_rfl) (.one rfl .t one_int (by kernel_rfl) (.one rfl .t one_int (by kernel_rfl) (.one rfl .t one_int (by kernel_rfl) (.one rfl .t one_int (by kernel_rfl) .nil)))))) r5 trivial
    (cF rfl (o_callG1 5 (aPut_c o room q (mCellS q l r x)) Try.func145 rfl (by kernel_rfl) (Args.two .t (.pagg .t))) r2 r1
    (cF rfl (oM .t) r1 trivial
    (cF rfl (o_extract .t rfl) r1 trivial
    (cF rfl (o_extract .t rfl) r1 trivial
    (cF rfl (oN .t) r1 trivial
    (cF rfl (oN .t) r1 trivial
    Chain.nil)))))))))))))))))))))))))))
    (by kernel_rfl) (by rw [hB]; kernel_rfl) ?_
  clear hS; intro a w F hS
  obtain ⟨F, hS⟩ := hS.nm [12, 11, 8, 0] [5, 4, 0] rfl rfl
  try dsimp only [List.map, stCells, xL, xM, Nat.reduceAdd, xD, xE, xT, xU, xC, xN, zCF, ldSF, rCell, rPair, mCell, mCellS] at hS
  refine then_n (wp_seq ?_)
  refine region_q hS
    (cF rfl (oM .t) r1 trivial
    (cF rfl (oM .t) r1 trivial
    (cF rfl (o_nilCheck 4 .is (by rfl)) r1 r1
    (cF rfl (oF 2 4 .adr) r1 r1
    (cF rfl (o_store1 4 .adr .t one_int (by kernel_rfl) (by kernel_rfl)) r2 r1
    Chain.nil)))))
    hB ?_
  clear hS; intro a w F hS
  obtain ⟨F, hS⟩ := hS.nm [11, 8] [5, 4, 0] rfl rfl
  try dsimp only [List.map, stCells, xL, xM, Nat.reduceAdd, xD, xE, xT, xU, xC, xN, zCF, rCell, rPair, mCell, mCellS] at hS
  refine then_n (wp_seq ?_)
  refine region_q hS
    (cF rfl (oM .t) r1 trivial
    (cF rfl (oN .t) r1 trivial
    Chain.nil))
    hB ?_
  clear hS; intro a w F hS
  obtain ⟨F, hS⟩ := hS.nm [8] [5, 4, 0] rfl rfl
  try dsimp only [rCell, rPair, mCell, mCellS] at hS
  refine then_n (wp_ret ?_)
  have hS := hS.fresh 1 rfl
  obtain ⟨F, hS⟩ := hS.push 1 5 rfl rfl rfl (by kernel_rfl)
  obtain ⟨F, hS⟩ := hS.push 1 4 rfl rfl rfl (by kernel_rfl)
  have hS := hS.turn 1 rfl (r' := RS.hp (bldH 190 (.pointer (some ⟨b, 0, none⟩)) o root (madeS room q why l r ⟨0, x⟩).2.1 room (madeS room q why l r ⟨0, x⟩).1)) (fun _ _ _ _ h => by rw [hg]; exact h)
  refine ret_G1 hG hS rfl (.tmp rfl .nil) (.one (.int (by first | (rw [hg]; done) | (rw [hg]; rfl)))) rfl

theorem seven_c (b : Nat) (o : Option Nat) (root why room : Int) (q : List Cell) (l r : Int) (x : Int) : FnG Try.prog 125 1 [.is (.pointer (some ⟨b, 0, none⟩)), .int .i64 l, .int .i64 r, .int .i64 x] [bldH 190 (.pointer (some ⟨b, 0, none⟩)) o root why room q] (.int .i64 (evenS (fun _ => 0) room q why l r ⟨0, x⟩).2.2) (fun _ => [bldH 190 (.pointer (some ⟨b, 0, none⟩)) o root (evenS (fun _ => 0) room q why l r ⟨0, x⟩).2.1 room (evenS (fun _ => 0) room q why l r ⟨0, x⟩).1]) := by
  refine FnG.mk Try.func125 rfl Try.ntmps125 rfl (by kernel_rfl) ?_
  intro B F0 a w F hB hG hS
  obtain ⟨F, hS⟩ := hS.peel 1 4 rfl rfl
  obtain ⟨F, hS⟩ := hS.peel 1 5 rfl rfl
  obtain ⟨F, hS⟩ := hS.nm [3, 2, 1, 0] [5, 4, 0] rfl rfl
  refine wp_seq ?_
  refine region_q hS
    (cF rfl (oN (.ci (by kernel_rfl))) trivial trivial
    Chain.nil)
    hB ?_
  clear hS; intro a w F hS
  obtain ⟨F, hS⟩ := hS.nm [8, 3, 2, 1, 0] [5, 4, 0] rfl rfl
  try dsimp only [rCell, rPair, mCell, pairOf] at hS
  refine then_n (wp_seq ?_)
  refine region_any (by kernel_rfl) hS (by kernel_rfl)
    (cF rfl (oM .t) r1 trivial
    (cF rfl (o_nilCheck 4 .is (by rfl)) r1 r1
    (cF rfl (oF 0 4 .adr) r1 r1
    (cF rfl (oL true 2 4 .adr) r1 r1
    (cF rfl (oM .t) r1 trivial
    (cF rfl (o_callG1 5 (scell_c o room q root l) Try.func87 rfl (by kernel_rfl) (Args.two (.pagg .t) .t)) r2 r1
    (cF rfl (oM .t) r1 trivial
    (cF rfl (o_nilCheck 4 .is (by rfl)) r1 r1
    (cF rfl (oF 0 4 .adr) r1 r1
    (cF rfl (oL true 2 4 .adr) r1 r1
    (cF rfl (oM .t) r1 trivial
    (cF rfl (o_callG1 5 (scell_c o room q root r) Try.func87 rfl (by kernel_rfl) (Args.two (.pagg .t) .t)) r2 r1
    (cF rfl (oH [.int .i64 0, .int .i64 0, .int .i64 0, .int .i64 0, .int .i64 0, .int .i64 0] 101) trivial trivial
    (cF rfl (oH [.int .i64 0, .int .i64 0, .int .i64 0, .int .i64 0, .int .i64 0, .int .i64 0] 102) trivial trivial
    (cF rfl (oA 6 101 .same (.conv .t .agg)) r2 r1
    (cF rfl (oA 6 102 .same (.conv .t .agg)) r2 r1
    Chain.nil))))))))))))))))
    (by kernel_rfl) (by rw [hB]; kernel_rfl) ?_
  clear hS; intro a w F hS
  replace hS := hS.sub
  obtain ⟨F, hS⟩ := hS.nm [10, 9, 8, 3, 2, 1, 0] [102, 101, 5, 4, 0] rfl rfl
  try dsimp only [RS.sub, SF.sub, CF.sub, csub, Anc.sub, List.map, stCells, xL, xM, Nat.reduceAdd, xD, xE, xT, xU, xC, xN, zCF, ldSF, rCell, rPair, mCell, pairOf] at hS
  generalize Act.tau a 9 = v9 at hS
  generalize Act.tau a 10 = v10 at hS
  refine then_n (wp_seq (wp_seq ?_))
  refine region_q hS
    (cF rfl (oF 5 101 .is) r1 r1
    (cF rfl (oL false 1 101 .adr) r1 r1
    (cF rfl (oF 5 102 .is) r1 r1
    (cF rfl (oL false 1 102 .adr) r1 r1
    (cF rfl (o_add .t (.ci (by kernel_rfl))) r1 trivial
    (cF rfl (o_gtr .t .t) r2 trivial
    Chain.nil))))))
    hB ?_
  clear hS; intro a w F hS
  obtain ⟨F, hS⟩ := hS.nm [30, 10, 9, 8, 3, 2, 1, 0] [102, 101, 5, 4, 0] rfl rfl
  try dsimp only [List.map, xD, xE, xT, xU, ldSF, rCell, rPair, mCell, pairOf] at hS
  refine then_n ?_
  refine cond_b hS rfl (fun hc0 => ?_) (fun hc0 => ?_)
  ·skip
   have h1 : (IntKind.wrap .i64 ((getC q r).high + 1) < (getC q l).high) := by simp only [decide_eq_true_eq, decide_eq_false_iff_not] at hc0; omega
   refine wp_seq ?_
   refine region_any (by kernel_rfl) hS (by kernel_rfl)
     (cF rfl (oM .t) r1 trivial
     (cF rfl (o_nilCheck 4 .is (by rfl)) r1 r1
     (cF rfl (oF 0 4 .adr) r1 r1
     (cF rfl (oL true 2 4 .adr) r1 r1
     (cF rfl (oF 1 101 .is) r1 r1
     (cF rfl (oL false 1 101 .adr) r1 r1
     (cF rfl (o_callG1 5 (scell_c o room q root (getC q l).right) Try.func87 rfl (by kernel_rfl) (Args.two (.pagg .t) .t)) r2 r1
     (cF rfl (oH [.int .i64 0, .int .i64 0, .int .i64 0, .int .i64 0, .int .i64 0, .int .i64 0] 103) trivial trivial
     (cF rfl (oA 6 103 .same (.conv .t .agg)) r2 r1
     Chain.nil)))))))))
     (by kernel_rfl) (by rw [hB]; kernel_rfl) ?_
   clear hS; intro a w F hS
   replace hS := hS.sub
   obtain ⟨F, hS⟩ := hS.nm [11, 10, 9, 8, 3, 2, 1, 0] [103, 102, 101, 5, 4, 0] rfl rfl
   try dsimp only [RS.sub, SF.sub, CF.sub, csub, Anc.sub, List.map, stCells, xL, xM, Nat.reduceAdd, xD, xE, xT, xU, xC, xN, zCF, ldSF, rCell, rPair, mCell, pairOf] at hS
   generalize Act.tau a 11 = v11 at hS
   refine then_n (wp_seq (wp_seq ?_))
   refine region_any (by kernel_rfl) hS (by kernel_rfl)
     (cF rfl (oF 5 103 .is) r1 r1
     (cF rfl (oL false 1 103 .adr) r1 r1
     (cF rfl (oM .t) r1 trivial
     (cF rfl (o_nilCheck 4 .is (by rfl)) r1 r1
     (cF rfl (oF 0 4 .adr) r1 r1
     (cF rfl (oL true 2 4 .adr) r1 r1
     (cF rfl (oF 0 101 .is) r1 r1
     (cF rfl (oL false 1 101 .adr) r1 r1
     (cF rfl (o_callG1 5 (scell_c o room q root (getC q l).left) Try.func87 rfl (by kernel_rfl) (Args.two (.pagg .t) .t)) r2 r1
     (cF rfl (o_field1 (ft := 3) (off := 5) (by kernel_rfl) (by kernel_rfl) .t rfl) r1 trivial
     (cF rfl (o_gtr .t .t) r2 trivial
     Chain.nil)))))))))))
     (by kernel_rfl) (by rw [hB]; kernel_rfl) ?_
   clear hS; intro a w F hS
   obtain ⟨F, hS⟩ := hS.nm [48, 11, 10, 9, 8, 3, 2, 1, 0] [103, 102, 101, 5, 4, 0] rfl rfl
   try dsimp only [List.map, xD, xE, xT, xU, ldSF, rCell, rPair, mCell, pairOf] at hS
   refine then_n ?_
   refine cond_b hS rfl (fun hc1 => ?_) (fun hc1 => ?_)
   ·skip
    have h3 : ¬ ((getC q (getC q l).right).high ≤ (getC q (getC q l).left).high) := by simp only [decide_eq_true_eq, decide_eq_false_iff_not] at hc1; omega
    have hg : (evenS (fun _ => 0) room q why l r ⟨0, x⟩) = (madeS room (madeS room (madeS room q why (getC q l).left (getC q (getC q l).right).left (⟨0, (getC q l).val⟩ : PairD)).1 (madeS room q why (getC q l).left (getC q (getC q l).right).left (⟨0, (getC q l).val⟩ : PairD)).2.1 (getC q (getC q l).right).right r ⟨0, x⟩).1 (madeS room (madeS room q why (getC q l).left (getC q (getC q l).right).left (⟨0, (getC q l).val⟩ : PairD)).1 (madeS room q why (getC q l).left (getC q (getC q l).right).left (⟨0, (getC q l).val⟩ : PairD)).2.1 (getC q (getC q l).right).right r ⟨0, x⟩).2.1 (madeS room q why (getC q l).left (getC q (getC q l).right).left (⟨0, (getC q l).val⟩ : PairD)).2.2 (madeS room (madeS room q why (getC q l).left (getC q (getC q l).right).left (⟨0, (getC q l).val⟩ : PairD)).1 (madeS room q why (getC q l).left (getC q (getC q l).right).left (⟨0, (getC q l).val⟩ : PairD)).2.1 (getC q (getC q l).right).right r ⟨0, x⟩).2.2 (⟨0, (getC q (getC q l).right).val⟩ : PairD)) := by unfold evenS; rw [if_pos h1, if_neg h3] <;> rfl
    refine wp_seq ?_
    have hS := hS.fresh 1 rfl
    obtain ⟨F, hS⟩ := hS.push 1 5 rfl rfl rfl (by kernel_rfl)
    obtain ⟨F, hS⟩ := hS.push 1 4 rfl rfl rfl (by kernel_rfl)
    have hS := hS.turn 1 rfl (r' := RS.hp (bldH 190 (.pointer (some ⟨b, 0, none⟩)) o root why room q)) (fun _ _ _ _ h => h)
    obtain ⟨F, hS⟩ := hS.nm [48, 11, 10, 9, 8, 3, 2, 1, 0] [103, 102, 101, 1, 0] rfl rfl
    refine region_any (by kernel_rfl) hS (by kernel_rfl)
      (cF rfl (oM .t) r1 trivial
      (cF rfl (oM .t) r1 trivial
      (cF rfl (oF 0 101 .is) r1 r1
      (cF rfl (oL false 1 101 .adr) r1 r1
      (cF rfl (oF 0 103 .is) r1 r1
      (cF rfl (oL false 1 103 .adr) r1 r1
      (cF rfl (oF 3 101 .is) r1 r1
      (cF rfl (oL false 1 101 .adr) r1 r1
      (cF rfl (o_callG1 1 (smade_c b o root why room q (getC q l).left (getC q (getC q l).right).left (getC q l).val) Try.func124 rfl (by kernel_rfl) (Args.four .t .t .t .t)) r4 r1
      (cF rfl (oM .t) r1 trivial
      (cF rfl (oF 1 103 .is) r1 r1
      (cF rfl (oL false 1 103 .adr) r1 r1
      (cF rfl (oM .t) r1 trivial
      (cF rfl (oM .t) r1 trivial
      (cF rfl (o_callG1 1 (smade_c b o root (madeS room q why (getC q l).left (getC q (getC q l).right).left (⟨0, (getC q l).val⟩ : PairD)).2.1 room (madeS room q why (getC q l).left (getC q (getC q l).right).left (⟨0, (getC q l).val⟩ : PairD)).1 (getC q (getC q l).right).right r x) Try.func124 rfl (by kernel_rfl) (Args.four .t .t .t .t)) r4 r1
      (cF rfl (oF 3 103 .is) r1 r1
      (cF rfl (oL false 1 103 .adr) r1 r1
      (cF rfl (o_callG1 1 (smade_c b o root (madeS room (madeS room q why (getC q l).left (getC q (getC q l).right).left (⟨0, (getC q l).val⟩ : PairD)).1 (madeS room q why (getC q l).left (getC q (getC q l).right).left (⟨0, (getC q l).val⟩ : PairD)).2.1 (getC q (getC q l).right).right r ⟨0, x⟩).2.1 room (madeS room (madeS room q why (getC q l).left (getC q (getC q l).right).left (⟨0, (getC q l).val⟩ : PairD)).1 (madeS room q why (getC q l).left (getC q (getC q l).right).left (⟨0, (getC q l).val⟩ : PairD)).2.1 (getC q (getC q l).right).right r ⟨0, x⟩).1 (madeS room q why (getC q l).left (getC q (getC q l).right).left (⟨0, (getC q l).val⟩ : PairD)).2.2 (madeS room (madeS room q why (getC q l).left (getC q (getC q l).right).left (⟨0, (getC q l).val⟩ : PairD)).1 (madeS room q why (getC q l).left (getC q (getC q l).right).left (⟨0, (getC q l).val⟩ : PairD)).2.1 (getC q (getC q l).right).right r ⟨0, x⟩).2.2 (getC q (getC q l).right).val) Try.func124 rfl (by kernel_rfl) (Args.four .t .t .t .t)) r4 r1
      (cF rfl (oN .t) r1 trivial
      Chain.nil)))))))))))))))))))
      (by kernel_rfl) (by rw [hB]; kernel_rfl) ?_
    clear hS; intro a w F hS
    obtain ⟨F, hS⟩ := hS.nm [10, 9, 8, 3, 2, 1, 0] [102, 101, 1, 0] rfl rfl
    try dsimp only [List.map, xD, xE, xT, xU, ldSF, rCell, rPair, mCell, pairOf] at hS
    refine then_n (wp_ret (then_r (then_r ?_)))
    have hS := hS.turn 1 rfl (r' := RS.hp (bldH 190 (.pointer (some ⟨b, 0, none⟩)) o root (evenS (fun _ => 0) room q why l r ⟨0, x⟩).2.1 room (evenS (fun _ => 0) room q why l r ⟨0, x⟩).1)) (fun _ _ _ _ h => by rw [hg]; exact h)
    refine ret_G1 hG hS rfl (.tmp rfl .nil) (.one (.int (by first | (rw [hg]; done) | (rw [hg]; rfl)))) rfl
   have h3 : ((getC q (getC q l).right).high ≤ (getC q (getC q l).left).high) := by simp only [decide_eq_true_eq, decide_eq_false_iff_not] at hc1; omega
   have hg : (evenS (fun _ => 0) room q why l r ⟨0, x⟩) = (madeS room (madeS room q why (getC q l).right r ⟨0, x⟩).1 (madeS room q why (getC q l).right r ⟨0, x⟩).2.1 (getC q l).left (madeS room q why (getC q l).right r ⟨0, x⟩).2.2 (⟨0, (getC q l).val⟩ : PairD)) := by unfold evenS; rw [if_pos h1, if_pos h3] <;> rfl
   refine wp_skip (then_n (wp_seq ?_))
   have hS := hS.fresh 1 rfl
   obtain ⟨F, hS⟩ := hS.push 1 5 rfl rfl rfl (by kernel_rfl)
   obtain ⟨F, hS⟩ := hS.push 1 4 rfl rfl rfl (by kernel_rfl)
   have hS := hS.turn 1 rfl (r' := RS.hp (bldH 190 (.pointer (some ⟨b, 0, none⟩)) o root why room q)) (fun _ _ _ _ h => h)
   obtain ⟨F, hS⟩ := hS.nm [48, 11, 10, 9, 8, 3, 2, 1, 0] [103, 102, 101, 1, 0] rfl rfl
   refine region_any (by kernel_rfl) hS (by kernel_rfl)
     (cF rfl (oM .t) r1 trivial
     (cF rfl (oF 0 101 .is) r1 r1
     (cF rfl (oL false 1 101 .adr) r1 r1
     (cF rfl (oM .t) r1 trivial
     (cF rfl (oF 1 101 .is) r1 r1
     (cF rfl (oL false 1 101 .adr) r1 r1
     (cF rfl (oM .t) r1 trivial
     (cF rfl (oM .t) r1 trivial
     (cF rfl (o_callG1 1 (smade_c b o root why room q (getC q l).right r x) Try.func124 rfl (by kernel_rfl) (Args.four .t .t .t .t)) r4 r1
     (cF rfl (oF 3 101 .is) r1 r1
     (cF rfl (oL false 1 101 .adr) r1 r1
     (cF rfl (o_callG1 1 (smade_c b o root (madeS room q why (getC q l).right r ⟨0, x⟩).2.1 room (madeS room q why (getC q l).right r ⟨0, x⟩).1 (getC q l).left (madeS room q why (getC q l).right r ⟨0, x⟩).2.2 (getC q l).val) Try.func124 rfl (by kernel_rfl) (Args.four .t .t .t .t)) r4 r1
     (cF rfl (oN .t) r1 trivial
     Chain.nil)))))))))))))
     (by kernel_rfl) (by rw [hB]; kernel_rfl) ?_
   clear hS; intro a w F hS
   obtain ⟨F, hS⟩ := hS.nm [10, 9, 8, 3, 2, 1, 0] [102, 101, 1, 0] rfl rfl
   try dsimp only [List.map, xD, xE, xT, xU, ldSF, rCell, rPair, mCell, pairOf] at hS
   refine then_n (wp_ret (then_r ?_))
   have hS := hS.turn 1 rfl (r' := RS.hp (bldH 190 (.pointer (some ⟨b, 0, none⟩)) o root (evenS (fun _ => 0) room q why l r ⟨0, x⟩).2.1 room (evenS (fun _ => 0) room q why l r ⟨0, x⟩).1)) (fun _ _ _ _ h => by rw [hg]; exact h)
   refine ret_G1 hG hS rfl (.tmp rfl .nil) (.one (.int (by first | (rw [hg]; done) | (rw [hg]; rfl)))) rfl
  have h1 : ¬ (IntKind.wrap .i64 ((getC q r).high + 1) < (getC q l).high) := by simp only [decide_eq_true_eq, decide_eq_false_iff_not] at hc0; omega
  refine wp_skip (then_n (wp_seq (wp_seq ?_)))
  refine region_q hS
    (cF rfl (oF 5 102 .is) r1 r1
    (cF rfl (oL false 1 102 .adr) r1 r1
    (cF rfl (oF 5 101 .is) r1 r1
    (cF rfl (oL false 1 101 .adr) r1 r1
    (cF rfl (o_add .t (.ci (by kernel_rfl))) r1 trivial
    (cF rfl (o_gtr .t .t) r2 trivial
    Chain.nil))))))
    hB ?_
  clear hS; intro a w F hS
  obtain ⟨F, hS⟩ := hS.nm [84, 10, 8, 3, 2, 1, 0] [102, 5, 4, 0] rfl rfl
  try dsimp only [List.map, xD, xE, xT, xU, ldSF, rCell, rPair, mCell, pairOf] at hS
  refine then_n ?_
  refine cond_b hS rfl (fun hc2 => ?_) (fun hc2 => ?_)
  ·skip
   have h2 : (IntKind.wrap .i64 ((getC q l).high + 1) < (getC q r).high) := by simp only [decide_eq_true_eq, decide_eq_false_iff_not] at hc2; omega
   refine wp_seq ?_
   refine region_any (by kernel_rfl) hS (by kernel_rfl)
     (cF rfl (oM .t) r1 trivial
     (cF rfl (o_nilCheck 4 .is (by rfl)) r1 r1
     (cF rfl (oF 0 4 .adr) r1 r1
     (cF rfl (oL true 2 4 .adr) r1 r1
     (cF rfl (oF 0 102 .is) r1 r1
     (cF rfl (oL false 1 102 .adr) r1 r1
     (cF rfl (o_callG1 5 (scell_c o room q root (getC q r).left) Try.func87 rfl (by kernel_rfl) (Args.two (.pagg .t) .t)) r2 r1
     (cF rfl (oH [.int .i64 0, .int .i64 0, .int .i64 0, .int .i64 0, .int .i64 0, .int .i64 0] 104) trivial trivial
     (cF rfl (oA 6 104 .same (.conv .t .agg)) r2 r1
     Chain.nil)))))))))
     (by kernel_rfl) (by rw [hB]; kernel_rfl) ?_
   clear hS; intro a w F hS
   replace hS := hS.sub
   obtain ⟨F, hS⟩ := hS.nm [12, 10, 8, 3, 2, 1, 0] [104, 102, 5, 4, 0] rfl rfl
   try dsimp only [RS.sub, SF.sub, CF.sub, csub, Anc.sub, List.map, stCells, xL, xM, Nat.reduceAdd, xD, xE, xT, xU, xC, xN, zCF, ldSF, rCell, rPair, mCell, pairOf] at hS
   generalize Act.tau a 12 = v12 at hS
   refine then_n (wp_seq (wp_seq ?_))
   refine region_any (by kernel_rfl) hS (by kernel_rfl)
     (cF rfl (oF 5 104 .is) r1 r1
     (cF rfl (oL false 1 104 .adr) r1 r1
     (cF rfl (oM .t) r1 trivial
     (cF rfl (o_nilCheck 4 .is (by rfl)) r1 r1
     (cF rfl (oF 0 4 .adr) r1 r1
     (cF rfl (oL true 2 4 .adr) r1 r1
     (cF rfl (oF 1 102 .is) r1 r1
     (cF rfl (oL false 1 102 .adr) r1 r1
     (cF rfl (o_callG1 5 (scell_c o room q root (getC q r).right) Try.func87 rfl (by kernel_rfl) (Args.two (.pagg .t) .t)) r2 r1
     (cF rfl (o_field1 (ft := 3) (off := 5) (by kernel_rfl) (by kernel_rfl) .t rfl) r1 trivial
     (cF rfl (o_gtr .t .t) r2 trivial
     Chain.nil)))))))))))
     (by kernel_rfl) (by rw [hB]; kernel_rfl) ?_
   clear hS; intro a w F hS
   obtain ⟨F, hS⟩ := hS.nm [102, 12, 10, 8, 3, 2, 1, 0] [104, 102, 5, 4, 0] rfl rfl
   try dsimp only [List.map, xD, xE, xT, xU, ldSF, rCell, rPair, mCell, pairOf] at hS
   refine then_n ?_
   refine cond_b hS rfl (fun hc3 => ?_) (fun hc3 => ?_)
   ·skip
    have h3 : ¬ ((getC q (getC q r).left).high ≤ (getC q (getC q r).right).high) := by simp only [decide_eq_true_eq, decide_eq_false_iff_not] at hc3; omega
    have hg : (evenS (fun _ => 0) room q why l r ⟨0, x⟩) = (madeS room (madeS room (madeS room q why l (getC q (getC q r).left).left ⟨0, x⟩).1 (madeS room q why l (getC q (getC q r).left).left ⟨0, x⟩).2.1 (getC q (getC q r).left).right (getC q r).right (⟨0, (getC q r).val⟩ : PairD)).1 (madeS room (madeS room q why l (getC q (getC q r).left).left ⟨0, x⟩).1 (madeS room q why l (getC q (getC q r).left).left ⟨0, x⟩).2.1 (getC q (getC q r).left).right (getC q r).right (⟨0, (getC q r).val⟩ : PairD)).2.1 (madeS room q why l (getC q (getC q r).left).left ⟨0, x⟩).2.2 (madeS room (madeS room q why l (getC q (getC q r).left).left ⟨0, x⟩).1 (madeS room q why l (getC q (getC q r).left).left ⟨0, x⟩).2.1 (getC q (getC q r).left).right (getC q r).right (⟨0, (getC q r).val⟩ : PairD)).2.2 (⟨0, (getC q (getC q r).left).val⟩ : PairD)) := by unfold evenS; rw [if_neg h1, if_pos h2, if_neg h3] <;> rfl
    refine wp_seq ?_
    have hS := hS.fresh 1 rfl
    obtain ⟨F, hS⟩ := hS.push 1 5 rfl rfl rfl (by kernel_rfl)
    obtain ⟨F, hS⟩ := hS.push 1 4 rfl rfl rfl (by kernel_rfl)
    have hS := hS.turn 1 rfl (r' := RS.hp (bldH 190 (.pointer (some ⟨b, 0, none⟩)) o root why room q)) (fun _ _ _ _ h => h)
    obtain ⟨F, hS⟩ := hS.nm [102, 12, 10, 8, 3, 2, 1, 0] [104, 102, 1, 0] rfl rfl
    refine region_any (by kernel_rfl) hS (by kernel_rfl)
      (cF rfl (oM .t) r1 trivial
      (cF rfl (oM .t) r1 trivial
      (cF rfl (oM .t) r1 trivial
      (cF rfl (oF 0 104 .is) r1 r1
      (cF rfl (oL false 1 104 .adr) r1 r1
      (cF rfl (oM .t) r1 trivial
      (cF rfl (o_callG1 1 (smade_c b o root why room q l (getC q (getC q r).left).left x) Try.func124 rfl (by kernel_rfl) (Args.four .t .t .t .t)) r4 r1
      (cF rfl (oM .t) r1 trivial
      (cF rfl (oF 1 104 .is) r1 r1
      (cF rfl (oL false 1 104 .adr) r1 r1
      (cF rfl (oF 1 102 .is) r1 r1
      (cF rfl (oL false 1 102 .adr) r1 r1
      (cF rfl (oF 3 102 .is) r1 r1
      (cF rfl (oL false 1 102 .adr) r1 r1
      (cF rfl (o_callG1 1 (smade_c b o root (madeS room q why l (getC q (getC q r).left).left ⟨0, x⟩).2.1 room (madeS room q why l (getC q (getC q r).left).left ⟨0, x⟩).1 (getC q (getC q r).left).right (getC q r).right (getC q r).val) Try.func124 rfl (by kernel_rfl) (Args.four .t .t .t .t)) r4 r1
      (cF rfl (oF 3 104 .is) r1 r1
      (cF rfl (oL false 1 104 .adr) r1 r1
      (cF rfl (o_callG1 1 (smade_c b o root (madeS room (madeS room q why l (getC q (getC q r).left).left ⟨0, x⟩).1 (madeS room q why l (getC q (getC q r).left).left ⟨0, x⟩).2.1 (getC q (getC q r).left).right (getC q r).right (⟨0, (getC q r).val⟩ : PairD)).2.1 room (madeS room (madeS room q why l (getC q (getC q r).left).left ⟨0, x⟩).1 (madeS room q why l (getC q (getC q r).left).left ⟨0, x⟩).2.1 (getC q (getC q r).left).right (getC q r).right (⟨0, (getC q r).val⟩ : PairD)).1 (madeS room q why l (getC q (getC q r).left).left ⟨0, x⟩).2.2 (madeS room (madeS room q why l (getC q (getC q r).left).left ⟨0, x⟩).1 (madeS room q why l (getC q (getC q r).left).left ⟨0, x⟩).2.1 (getC q (getC q r).left).right (getC q r).right (⟨0, (getC q r).val⟩ : PairD)).2.2 (getC q (getC q r).left).val) Try.func124 rfl (by kernel_rfl) (Args.four .t .t .t .t)) r4 r1
      (cF rfl (oN .t) r1 trivial
      Chain.nil)))))))))))))))))))
      (by kernel_rfl) (by rw [hB]; kernel_rfl) ?_
    clear hS; intro a w F hS
    obtain ⟨F, hS⟩ := hS.nm [10, 8, 3, 2, 1, 0] [102, 1, 0] rfl rfl
    try dsimp only [List.map, xD, xE, xT, xU, ldSF, rCell, rPair, mCell, pairOf] at hS
    refine then_n (wp_ret (then_r (then_r ?_)))
    have hS := hS.turn 1 rfl (r' := RS.hp (bldH 190 (.pointer (some ⟨b, 0, none⟩)) o root (evenS (fun _ => 0) room q why l r ⟨0, x⟩).2.1 room (evenS (fun _ => 0) room q why l r ⟨0, x⟩).1)) (fun _ _ _ _ h => by rw [hg]; exact h)
    refine ret_G1 hG hS rfl (.tmp rfl .nil) (.one (.int (by first | (rw [hg]; done) | (rw [hg]; rfl)))) rfl
   have h3 : ((getC q (getC q r).left).high ≤ (getC q (getC q r).right).high) := by simp only [decide_eq_true_eq, decide_eq_false_iff_not] at hc3; omega
   have hg : (evenS (fun _ => 0) room q why l r ⟨0, x⟩) = (madeS room (madeS room q why l (getC q r).left ⟨0, x⟩).1 (madeS room q why l (getC q r).left ⟨0, x⟩).2.1 (madeS room q why l (getC q r).left ⟨0, x⟩).2.2 (getC q r).right (⟨0, (getC q r).val⟩ : PairD)) := by unfold evenS; rw [if_neg h1, if_pos h2, if_pos h3] <;> rfl
   refine wp_skip (then_n (wp_seq ?_))
   have hS := hS.fresh 1 rfl
   obtain ⟨F, hS⟩ := hS.push 1 5 rfl rfl rfl (by kernel_rfl)
   obtain ⟨F, hS⟩ := hS.push 1 4 rfl rfl rfl (by kernel_rfl)
   have hS := hS.turn 1 rfl (r' := RS.hp (bldH 190 (.pointer (some ⟨b, 0, none⟩)) o root why room q)) (fun _ _ _ _ h => h)
   obtain ⟨F, hS⟩ := hS.nm [102, 12, 10, 8, 3, 2, 1, 0] [104, 102, 1, 0] rfl rfl
   refine region_any (by kernel_rfl) hS (by kernel_rfl)
     (cF rfl (oM .t) r1 trivial
     (cF rfl (oM .t) r1 trivial
     (cF rfl (oM .t) r1 trivial
     (cF rfl (oF 0 102 .is) r1 r1
     (cF rfl (oL false 1 102 .adr) r1 r1
     (cF rfl (oM .t) r1 trivial
     (cF rfl (o_callG1 1 (smade_c b o root why room q l (getC q r).left x) Try.func124 rfl (by kernel_rfl) (Args.four .t .t .t .t)) r4 r1
     (cF rfl (oF 1 102 .is) r1 r1
     (cF rfl (oL false 1 102 .adr) r1 r1
     (cF rfl (oF 3 102 .is) r1 r1
     (cF rfl (oL false 1 102 .adr) r1 r1
     (cF rfl (o_callG1 1 (smade_c b o root (madeS room q why l (getC q r).left ⟨0, x⟩).2.1 room (madeS room q why l (getC q r).left ⟨0, x⟩).1 (madeS room q why l (getC q r).left ⟨0, x⟩).2.2 (getC q r).right (getC q r).val) Try.func124 rfl (by kernel_rfl) (Args.four .t .t .t .t)) r4 r1
     (cF rfl (oN .t) r1 trivial
     Chain.nil)))))))))))))
     (by kernel_rfl) (by rw [hB]; kernel_rfl) ?_
   clear hS; intro a w F hS
   obtain ⟨F, hS⟩ := hS.nm [8, 3, 2, 1, 0] [1, 0] rfl rfl
   try dsimp only [List.map, xD, xE, xT, xU, ldSF, rCell, rPair, mCell, pairOf] at hS
   refine then_n (wp_ret (then_r ?_))
   have hS := hS.turn 1 rfl (r' := RS.hp (bldH 190 (.pointer (some ⟨b, 0, none⟩)) o root (evenS (fun _ => 0) room q why l r ⟨0, x⟩).2.1 room (evenS (fun _ => 0) room q why l r ⟨0, x⟩).1)) (fun _ _ _ _ h => by rw [hg]; exact h)
   refine ret_G1 hG hS rfl (.tmp rfl .nil) (.one (.int (by first | (rw [hg]; done) | (rw [hg]; rfl)))) rfl
  have h2 : ¬ (IntKind.wrap .i64 ((getC q l).high + 1) < (getC q r).high) := by simp only [decide_eq_true_eq, decide_eq_false_iff_not] at hc2; omega
  have hg : (evenS (fun _ => 0) room q why l r ⟨0, x⟩) = (madeS room q why l r ⟨0, x⟩) := by unfold evenS; rw [if_neg h1, if_neg h2] <;> rfl
  refine wp_skip (then_n (wp_seq ?_))
  have hS := hS.fresh 1 rfl
  obtain ⟨F, hS⟩ := hS.push 1 5 rfl rfl rfl (by kernel_rfl)
  obtain ⟨F, hS⟩ := hS.push 1 4 rfl rfl rfl (by kernel_rfl)
  have hS := hS.turn 1 rfl (r' := RS.hp (bldH 190 (.pointer (some ⟨b, 0, none⟩)) o root why room q)) (fun _ _ _ _ h => h)
  obtain ⟨F, hS⟩ := hS.nm [84, 10, 8, 3, 2, 1, 0] [102, 1, 0] rfl rfl
  refine region_q hS
    (cF rfl (oM .t) r1 trivial
    (cF rfl (oM .t) r1 trivial
    (cF rfl (oM .t) r1 trivial
    (cF rfl (oM .t) r1 trivial
    (cF rfl (o_callG1 1 (smade_c b o root why room q l r x) Try.func124 rfl (by kernel_rfl) (Args.four .t .t .t .t)) r4 r1
    (cF rfl (oN .t) r1 trivial
    Chain.nil))))))
    hB ?_
  clear hS; intro a w F hS
  obtain ⟨F, hS⟩ := hS.nm [8] [1, 0] rfl rfl
  try dsimp only [rCell, rPair, mCell, pairOf] at hS
  refine then_n (wp_ret ?_)
  have hS := hS.turn 1 rfl (r' := RS.hp (bldH 190 (.pointer (some ⟨b, 0, none⟩)) o root (evenS (fun _ => 0) room q why l r ⟨0, x⟩).2.1 room (evenS (fun _ => 0) room q why l r ⟨0, x⟩).1)) (fun _ _ _ _ h => by rw [hg]; exact h)
  refine ret_G1 hG hS rfl (.tmp rfl .nil) (.one (.int (by first | (rw [hg]; done) | (rw [hg]; rfl)))) rfl

end Go.Proofs.Ytdfidiehkkbimaa
