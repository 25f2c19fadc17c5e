/- The builder of maps: put, first, del. No condition beyond those that each theorem says. -/
import Derived.Test.YtdfidiehkkbimaaAv3
import Derived.Test.YtdfidiehkkbimaaAv4
namespace Go.Proofs.Ytdfidiehkkbimaa
open Go Go.Gm
set_option linter.unusedVariables false
set_option linter.unusedSimpArgs false
set_option maxHeartbeats 4000000
set_option maxRecDepth 8000


theorem mput_s (b : Nat) (o : Option Nat) (root why room : Int) (q : List Cell) (p : PairD) (t : Tree) (ih : ∀ t', tSize t' < tSize t → ∀ i, Rep id q t' i → FnG Try.prog 91 1 [.is (.pointer (some ⟨b, 0, none⟩)), .int .i64 i, .agg (rPair p)] [bldH 157 (.pointer (some ⟨b, 0, none⟩)) o root why room q] (.int .i64 (putS id room q why p t' i).2.2) (fun _ => [bldH 157 (.pointer (some ⟨b, 0, none⟩)) o root (putS id room q why p t' i).2.1 room (putS id room q why p t' i).1])) (i : Int) (hr : Rep id q t i) : FnG Try.prog 91 1 [.is (.pointer (some ⟨b, 0, none⟩)), .int .i64 i, .agg (rPair p)] [bldH 157 (.pointer (some ⟨b, 0, none⟩)) o root why room q] (.int .i64 (putS id room q why p t i).2.2) (fun _ => [bldH 157 (.pointer (some ⟨b, 0, none⟩)) o root (putS id room q why p t i).2.1 room (putS id room q why p t i).1]) := by
  refine FnG.mk Try.func91 rfl Try.ntmps91 rfl (by kernel_rfl) ?_
  intro B F0 a w F hB hG hS
  obtain ⟨F, hS⟩ := hS.peel 1 4 rfl rfl
  obtain ⟨F, hS⟩ := hS.peel 1 5 rfl rfl
  obtain ⟨F, hS⟩ := hS.nm [2, 1, 0] [5, 4, 0] rfl rfl
  refine wp_seq ?_
  refine region_q hS
    (cF rfl (oX 101 (.conv .t .agg)) r1 trivial
    (cF rfl (oN (.ci (by kernel_rfl))) trivial trivial
    Chain.nil))
    hB ?_
  clear hS; intro a w F hS
  replace hS := hS.sub
  obtain ⟨F, hS⟩ := hS.nm [6, 5, 1, 0] [101, 5, 4, 0] rfl rfl
  try dsimp only [RS.sub, SF.sub, CF.sub, csub, Anc.sub, List.map, zCF, rCell, rPair, pairOf] at hS
  generalize Act.tau a 5 = v5 at hS
  refine then_n (wp_seq ?_)
  refine region_q hS
    (cF rfl (oM .t) r1 trivial
    (cF rfl (o_nilCheck 4 .is (by rfl)) r1 r1
    (cF rfl (oF 0 4 .adr) r1 r1
    (cF rfl (oL true 2 4 .adr) r1 r1
    (cF rfl (oM .t) r1 trivial
    (cF rfl (o_callG1 5 (mcell_c o room q root i) Try.func93 rfl (by kernel_rfl) (Args.two (.pagg .t) .t)) r2 r1
    (cF rfl (oH [.int .i64 0, .int .i64 0, .int .i64 0, .int .i64 0, .int .i64 0, .int .i64 0] 102) trivial trivial
    (cF rfl (oA 6 102 .same (.conv .t .agg)) r2 r1
    Chain.nil))))))))
    hB ?_
  clear hS; intro a w F hS
  replace hS := hS.sub
  obtain ⟨F, hS⟩ := hS.nm [7, 6, 5, 1, 0] [102, 101, 5, 4, 0] rfl rfl
  try dsimp only [RS.sub, SF.sub, CF.sub, csub, Anc.sub, List.map, stCells, xL, xM, Nat.reduceAdd, xD, xE, xT, xU, xC, xN, zCF, ldSF, rCell, rPair, pairOf] at hS
  generalize Act.tau a 7 = v7 at hS
  refine then_n (wp_seq (wp_block (wp_seq ?_)))
  refine region_q hS
    (cF rfl (oM .t) r1 trivial
    (cF rfl (o_eql .t (.ci (by kernel_rfl))) r1 trivial
    (cF rfl (oN .t) r1 trivial
    Chain.nil)))
    hB ?_
  clear hS; intro a w F hS
  obtain ⟨F, hS⟩ := hS.nm [14, 7, 6, 5, 0] [102, 101, 5, 4, 0] rfl rfl
  try dsimp only [rCell, rPair, pairOf] at hS
  refine then_n ?_
  refine cond_b hS rfl (fun hc0 => ?_) (fun hc0 => ?_)
  ·skip
   have hi0 : i = 0 := by simpa using hc0
   have ht : t = .nil := by rw [hi0] at hr; exact hr.zero
   have hg : (putS id room q why p t i) = (madeS room q why 0 0 p) := by rw [ht]; rfl
   refine wp_seq ?_
   have hS := hS.fresh 1 rfl
   obtain ⟨F, hS⟩ := hS.push 1 5 rfl rfl rfl (by kernel_rfl)
   obtain ⟨F, hS⟩ := hS.push 1 4 rfl rfl rfl (by kernel_rfl)
   have hS := hS.turn 1 rfl (r' := RS.hp (bldH 157 (.pointer (some ⟨b, 0, none⟩)) o root why room q)) (fun _ _ _ _ h => h)
   obtain ⟨F, hS⟩ := hS.nm [14, 7, 6, 5, 0] [102, 101, 1, 0] rfl rfl
   refine region_q hS
     (cF rfl (oM .t) r1 trivial
     (cF rfl (oL true 2 101 .is) r1 r1
     (cF rfl (o_callG1 1 (mmade_c b o root why room q 0 0 p) Try.func127 rfl (by kernel_rfl) (Args.four .t (.ci (by kernel_rfl)) (.ci (by kernel_rfl)) (.pagg .t))) r2 r1
     (cF rfl (oN .t) r1 trivial
     Chain.nil))))
     hB ?_
   clear hS; intro a w F hS
   obtain ⟨F, hS⟩ := hS.nm [7, 6, 5, 0] [102, 101, 1, 0] rfl rfl
   try dsimp only [List.map, xD, xE, xT, xU, ldSF, rCell, rPair, pairOf] at hS
   refine then_n (wp_ret (block_r (then_r ?_)))
   have hS := hS.turn 1 rfl (r' := RS.hp (bldH 157 (.pointer (some ⟨b, 0, none⟩)) o root (putS id room q why p t i).2.1 room (putS id room q why p t i).1)) (fun _ _ _ _ h => by rw [hg]; exact h)
   refine ret_G1 hG hS rfl (.tmp rfl .nil) (.one (.int (by first | (rw [hg]; done) | (rw [hg]; rfl)))) rfl
  have hi0 : i ≠ 0 := by simpa using hc0
  obtain ⟨l, x, r, ht⟩ := hr.node hi0
  have hn : Rep id q (.node l x r) i := by rw [← ht]; exact hr
  have hkx := hn.2.2.2.1
  refine wp_seq ?_
  refine region_q hS
    (cF rfl (oF 0 101 .is) r1 r1
    (cF rfl (oL false 1 101 .adr) r1 r1
    (cF rfl (oF 2 102 .is) r1 r1
    (cF rfl (oL false 1 102 .adr) r1 r1
    (cF rfl (o_lss .t .t) r2 trivial
    (cF rfl (oN .t) r1 trivial
    Chain.nil))))))
    hB ?_
  clear hS; intro a w F hS
  obtain ⟨F, hS⟩ := hS.nm [20, 7, 6, 5, 0] [102, 101, 5, 4, 0] rfl rfl
  try dsimp only [List.map, xD, xE, xT, xU, ldSF, rCell, rPair, pairOf] at hS
  refine then_n ?_
  refine cond_b hS rfl (fun hc1 => ?_) (fun hc1 => ?_)
  ·skip
   have h1 : (p.key < (getC q i).key) := by simp only [decide_eq_true_eq, decide_eq_false_iff_not] at hc1; omega
   have hg : (putS id room q why p t i) = (evenS id room (putS id room q why p l ((getC q i).left)).1 (putS id room q why p l ((getC q i).left)).2.1 (putS id room q why p l ((getC q i).left)).2.2 (getC q i).right (pairOf id (getC q i))) := by rw [ht]; (conv => lhs; unfold putS); rw [if_pos h1] <;> rfl
   refine wp_seq ?_
   have hS := hS.fresh 1 rfl
   obtain ⟨F, hS⟩ := hS.push 1 5 rfl rfl rfl (by kernel_rfl)
   obtain ⟨F, hS⟩ := hS.push 1 4 rfl rfl rfl (by kernel_rfl)
   have hS := hS.turn 1 rfl (r' := RS.hp (bldH 157 (.pointer (some ⟨b, 0, none⟩)) o root why room q)) (fun _ _ _ _ h => h)
   obtain ⟨F, hS⟩ := hS.nm [20, 7, 6, 5, 0] [102, 101, 1, 0] rfl rfl
   refine region_any (by kernel_rfl) hS (by kernel_rfl)
     (cF rfl (oM .t) r1 trivial
     (cF rfl (oM .t) r1 trivial
     (cF rfl (oF 0 102 .is) r1 r1
     (cF rfl (oL false 1 102 .adr) r1 r1
     (cF rfl (oL true 2 101 .is) r1 r1
     (cF rfl (o_callG1 1 (ih l (by rw [ht]; exact tSize_l) (getC q i).left hn.2.1) Try.func91 rfl (by kernel_rfl) (Args.three .t .t (.pagg .t))) r3 r1
     (cF rfl (oF 1 102 .is) r1 r1
     (cF rfl (oL false 1 102 .adr) r1 r1
     (cF rfl (oL true 6 102 .is) r1 r1
     (cF rfl (oP (pair_c (getC q i)) Try.func129 (Args.one (.pagg .t))) r1 trivial
     (cF rfl (o_callG1 1 (meven_c b o root (putS id room q why p l ((getC q i).left)).2.1 room (putS id room q why p l ((getC q i).left)).1 (putS id room q why p l ((getC q i).left)).2.2 (getC q i).right (pairOf id (getC q i))) Try.func128 rfl (by kernel_rfl) (Args.four .t .t .t .t)) r4 r1
     (cF rfl (oN .t) r1 trivial
     Chain.nil))))))))))))
     (by kernel_rfl) (by rw [hB]; kernel_rfl) ?_
   clear hS; intro a w F hS
   obtain ⟨F, hS⟩ := hS.nm [7, 6, 5, 0] [102, 101, 1, 0] rfl rfl
   try dsimp only [List.map, xD, xE, xT, xU, ldSF, rCell, rPair, pairOf] at hS
   refine then_n (wp_ret (block_r (then_r ?_)))
   have hS := hS.turn 1 rfl (r' := RS.hp (bldH 157 (.pointer (some ⟨b, 0, none⟩)) o root (putS id room q why p t i).2.1 room (putS id room q why p t i).1)) (fun _ _ _ _ h => by rw [hg]; exact h)
   refine ret_G1 hG hS rfl (.tmp rfl .nil) (.one (.int (by first | (rw [hg]; done) | (rw [hg]; rfl)))) rfl
  have h1 : ¬ (p.key < (getC q i).key) := by simp only [decide_eq_true_eq, decide_eq_false_iff_not] at hc1; omega
  refine wp_seq ?_
  refine region_q hS
    (cF rfl (oF 0 101 .is) r1 r1
    (cF rfl (oL false 1 101 .adr) r1 r1
    (cF rfl (oF 2 102 .is) r1 r1
    (cF rfl (oL false 1 102 .adr) r1 r1
    (cF rfl (o_gtr .t .t) r2 trivial
    (cF rfl (oN .t) r1 trivial
    Chain.nil))))))
    hB ?_
  clear hS; intro a w F hS
  obtain ⟨F, hS⟩ := hS.nm [37, 7, 6, 5, 0] [102, 101, 5, 4, 0] rfl rfl
  try dsimp only [List.map, xD, xE, xT, xU, ldSF, rCell, rPair, pairOf] at hS
  refine then_n ?_
  refine cond_b hS rfl (fun hc2 => ?_) (fun hc2 => ?_)
  ·skip
   have h2 : ((getC q i).key < p.key) := by simp only [decide_eq_true_eq, decide_eq_false_iff_not] at hc2; omega
   have hg : (putS id room q why p t i) = (evenS id room (putS id room q why p r ((getC q i).right)).1 (putS id room q why p r ((getC q i).right)).2.1 (getC q i).left (putS id room q why p r ((getC q i).right)).2.2 (pairOf id (getC q i))) := by rw [ht]; (conv => lhs; unfold putS); rw [if_neg h1, if_pos h2] <;> rfl
   refine wp_seq ?_
   have hS := hS.fresh 1 rfl
   obtain ⟨F, hS⟩ := hS.push 1 5 rfl rfl rfl (by kernel_rfl)
   obtain ⟨F, hS⟩ := hS.push 1 4 rfl rfl rfl (by kernel_rfl)
   have hS := hS.turn 1 rfl (r' := RS.hp (bldH 157 (.pointer (some ⟨b, 0, none⟩)) o root why room q)) (fun _ _ _ _ h => h)
   obtain ⟨F, hS⟩ := hS.nm [37, 7, 6, 5, 0] [102, 101, 1, 0] rfl rfl
   refine region_any (by kernel_rfl) hS (by kernel_rfl)
     (cF rfl (oM .t) r1 trivial
     (cF rfl (oF 0 102 .is) r1 r1
     (cF rfl (oL false 1 102 .adr) r1 r1
     (cF rfl (oM .t) r1 trivial
     (cF rfl (oF 1 102 .is) r1 r1
     (cF rfl (oL false 1 102 .adr) r1 r1
     (cF rfl (oL true 2 101 .is) r1 r1
     (cF rfl (o_callG1 1 (ih r (by rw [ht]; exact tSize_r) (getC q i).right hn.2.2.1) Try.func91 rfl (by kernel_rfl) (Args.three .t .t (.pagg .t))) r3 r1
     (cF rfl (oL true 6 102 .is) r1 r1
     (cF rfl (oP (pair_c (getC q i)) Try.func129 (Args.one (.pagg .t))) r1 trivial
     (cF rfl (o_callG1 1 (meven_c b o root (putS id room q why p r ((getC q i).right)).2.1 room (putS id room q why p r ((getC q i).right)).1 (getC q i).left (putS id room q why p r ((getC q i).right)).2.2 (pairOf id (getC q i))) Try.func128 rfl (by kernel_rfl) (Args.four .t .t .t .t)) r4 r1
     (cF rfl (oN .t) r1 trivial
     Chain.nil))))))))))))
     (by kernel_rfl) (by rw [hB]; kernel_rfl) ?_
   clear hS; intro a w F hS
   obtain ⟨F, hS⟩ := hS.nm [7, 6, 5, 0] [102, 101, 1, 0] rfl rfl
   try dsimp only [List.map, xD, xE, xT, xU, ldSF, rCell, rPair, pairOf] at hS
   refine then_n (wp_ret (block_r (then_r ?_)))
   have hS := hS.turn 1 rfl (r' := RS.hp (bldH 157 (.pointer (some ⟨b, 0, none⟩)) o root (putS id room q why p t i).2.1 room (putS id room q why p t i).1)) (fun _ _ _ _ h => by rw [hg]; exact h)
   refine ret_G1 hG hS rfl (.tmp rfl .nil) (.one (.int (by first | (rw [hg]; done) | (rw [hg]; rfl)))) rfl
  have h2 : ¬ ((getC q i).key < p.key) := by simp only [decide_eq_true_eq, decide_eq_false_iff_not] at hc2; omega
  have hg : (putS id room q why p t i) = (madeS room q why (getC q i).left (getC q i).right p) := by rw [ht]; (conv => lhs; unfold putS); rw [if_neg h1, if_neg h2] <;> rfl
  refine wp_skip (block_n (then_n (wp_seq ?_)))
  have hS := hS.fresh 1 rfl
  obtain ⟨F, hS⟩ := hS.push 1 5 rfl rfl rfl (by kernel_rfl)
  obtain ⟨F, hS⟩ := hS.push 1 4 rfl rfl rfl (by kernel_rfl)
  have hS := hS.turn 1 rfl (r' := RS.hp (bldH 157 (.pointer (some ⟨b, 0, none⟩)) o root why room q)) (fun _ _ _ _ h => h)
  obtain ⟨F, hS⟩ := hS.nm [37, 7, 6, 5, 0] [102, 101, 1, 0] rfl rfl
  refine region_q hS
    (cF rfl (oM .t) r1 trivial
    (cF rfl (oF 0 102 .is) r1 r1
    (cF rfl (oL false 1 102 .adr) r1 r1
    (cF rfl (oF 1 102 .is) r1 r1
    (cF rfl (oL false 1 102 .adr) r1 r1
    (cF rfl (oL true 2 101 .is) r1 r1
    (cF rfl (o_callG1 1 (mmade_c b o root why room q (getC q i).left (getC q i).right p) Try.func127 rfl (by kernel_rfl) (Args.four .t .t .t (.pagg .t))) r4 r1
    (cF rfl (oN .t) r1 trivial
    Chain.nil))))))))
    hB ?_
  clear hS; intro a w F hS
  obtain ⟨F, hS⟩ := hS.nm [6] [1, 0] rfl rfl
  try dsimp only [List.map, xD, xE, xT, xU, ldSF, rCell, rPair, pairOf] at hS
  refine then_n (wp_ret ?_)
  have hS := hS.turn 1 rfl (r' := RS.hp (bldH 157 (.pointer (some ⟨b, 0, none⟩)) o root (putS id room q why p t i).2.1 room (putS id room q why p t i).1)) (fun _ _ _ _ h => by rw [hg]; exact h)
  refine ret_G1 hG hS rfl (.tmp rfl .nil) (.one (.int (by first | (rw [hg]; done) | (rw [hg]; rfl)))) rfl

theorem mput_c (b : Nat) (o : Option Nat) (root why room : Int) (q : List Cell) (p : PairD) (t : Tree) (i : Int) (hr : Rep id q t i) : FnG Try.prog 91 1 [.is (.pointer (some ⟨b, 0, none⟩)), .int .i64 i, .agg (rPair p)] [bldH 157 (.pointer (some ⟨b, 0, none⟩)) o root why room q] (.int .i64 (putS id room q why p t i).2.2) (fun _ => [bldH 157 (.pointer (some ⟨b, 0, none⟩)) o root (putS id room q why p t i).2.1 room (putS id room q why p t i).1]) := recT (P := fun t => ∀ i, Rep id q t i → FnG Try.prog 91 1 [.is (.pointer (some ⟨b, 0, none⟩)), .int .i64 i, .agg (rPair p)] [bldH 157 (.pointer (some ⟨b, 0, none⟩)) o root why room q] (.int .i64 (putS id room q why p t i).2.2) (fun _ => [bldH 157 (.pointer (some ⟨b, 0, none⟩)) o root (putS id room q why p t i).2.1 room (putS id room q why p t i).1])) (fun t ih i hr => mput_s b o root why room q p t ih i hr) t i hr

end Go.Proofs.Ytdfidiehkkbimaa
