/- Sequences: the edit. No condition beyond those that each theorem says. -/
import Derived.Test.YtdfidiehkkbimaaSq0
import Derived.Test.YtdfidiehkkbimaaAv3
namespace Go.Proofs.Ytdfidiehkkbimaa
open Go Go.Gm
set_option linter.unusedVariables false
set_option linter.unusedSimpArgs false
set_option maxHeartbeats 4000000
set_option maxRecDepth 8000


theorem snew_c (o : Option Nat) : FnP Try.prog 28 [.is (arV o)] (.agg [.is (arV o), .int .i64 0]) := by
  refine FnP.mk Try.func28 rfl Try.ntmps28 rfl ?_
  intro B a w F hB hfr hS
  refine wp_seq ?_
  refine region_q hS
    (cF rfl (oH [.pointer none, .int .i64 0] 101) trivial trivial
    Chain.nil)
    hB ?_
  clear hS; intro a w F hS
  replace hS := hS.sub
  obtain ⟨F, hS⟩ := hS.nm [2, 0] [101, 0] rfl rfl
  try dsimp only [RS.sub, SF.sub, CF.sub, csub, Anc.sub, List.map, zCF, rCell, rPair] at hS
  generalize Act.tau a 2 = v2 at hS
  refine then_n (wp_seq ?_)
  refine region_q hS
    (cF rfl (oM .t) r1 trivial
    (cF rfl (oB [(0, .tmp 3)] [.pointer none, .int .i64 0] [(0, 1), (1, 1)] (.one rfl .t one_is (by kernel_rfl) .nil)) r1 trivial
    (cF rfl (oA 2 101 .is .t) r2 r1
    Chain.nil)))
    hB ?_
  clear hS; intro a w F hS
  obtain ⟨F, hS⟩ := hS.nm [2] [101, 0] rfl rfl
  try dsimp only [List.map, stCells, xL, xM, Nat.reduceAdd, xD, xE, xT, xU, xC, xN, zCF, rCell, rPair] at hS
  refine then_n (wp_ret ?_)
  refine ret_P hfr hS rfl (.cell (n := 101) (ag := true) (sz := 2) rfl .is rfl (by kernel_rfl) (by kernel_rfl) (by kernel_rfl) .nil) (.one (.aggU rfl rfl))

theorem slen0_c (o : Option Nat) (room : Int) (q : List Cell) (root : Int) : FnG Try.prog 37 1 [.agg [.is (arV o), .int .i64 root]] [arH o room q] (.int .i64 (getC q root).size) (fun _ => [arH o room q]) := by
  refine FnG.mk Try.func37 rfl Try.ntmps37 rfl (by kernel_rfl) ?_
  intro B F0 a w F hB hG hS
  refine wp_seq ?_
  refine region_q hS
    (cF rfl (oX 101 (.conv .t .agg)) r1 trivial
    (cF rfl (oN (.ci (by kernel_rfl))) trivial trivial
    Chain.nil))
    hB ?_
  clear hS; intro a w F hS
  replace hS := hS.sub
  obtain ⟨F, hS⟩ := hS.nm [2, 1] [101, 1, 0] rfl rfl
  try dsimp only [RS.sub, SF.sub, CF.sub, csub, Anc.sub, List.map, zCF, rCell, rPair] at hS
  generalize Act.tau a 1 = v1 at hS
  refine then_n (wp_seq ?_)
  refine region_q hS
    (cF rfl (oL true 2 101 .is) r1 r1
    (cF rfl (oF 1 101 .is) r1 r1
    (cF rfl (oL false 1 101 .adr) r1 r1
    (cF rfl (o_callG1 1 (scell_c o room q root root) Try.func87 rfl (by kernel_rfl) (Args.two (.pagg .t) .t)) r2 r1
    (cF rfl (o_field1 (ft := 3) (off := 4) (by kernel_rfl) (by kernel_rfl) .t rfl) r1 trivial
    (cF rfl (oN .t) r1 trivial
    Chain.nil))))))
    hB ?_
  clear hS; intro a w F hS
  obtain ⟨F, hS⟩ := hS.nm [2] [1, 0] rfl rfl
  try dsimp only [List.map, xD, xE, xT, xU, ldSF, rCell, rPair] at hS
  refine then_n (wp_ret ?_)
  refine ret_G1 hG hS rfl (.tmp rfl .nil) (.one (.int rfl)) rfl

def chgM (th : Bool) (q : List Cell) (m : St) : St := if th = true then toldM q.length m else (q, 1, 0)
def kp (x : Int) : PairD := ⟨0, x⟩
def allQ (room : Int) : Nat → List Cell → Int → List Int → St
  | 0, q, why, _ => (q, why, 0)
  | n + 1, q, why, l => if l = [] then (q, why, 0) else
    madeS room (allQ room n (allQ room n q why (l.take (l.length / 2))).1 (allQ room n q why (l.take (l.length / 2))).2.1 (l.drop (l.length / 2 + 1))).1 (allQ room n (allQ room n q why (l.take (l.length / 2))).1 (allQ room n q why (l.take (l.length / 2))).2.1 (l.drop (l.length / 2 + 1))).2.1 (allQ room n q why (l.take (l.length / 2))).2.2 (allQ room n (allQ room n q why (l.take (l.length / 2))).1 (allQ room n q why (l.take (l.length / 2))).2.1 (l.drop (l.length / 2 + 1))).2.2 ⟨0, Go.Gm.nth l (l.length / 2)⟩
theorem nth_kp {l : List Int} {i : Nat} (h : i < l.length) : Go.Gm.nth (l.map kp) i = ⟨0, Go.Gm.nth l i⟩ := by rw [nth_eq (by simpa using h), nth_eq h, List.getElem_map]; rfl
theorem allQ_eq (room : Int) : ∀ (n : Nat) (q : List Cell) (why : Int) (l : List Int), allQ room n q why l = allS room n q why (l.map kp)
  | 0, q, why, l => rfl
  | n + 1, q, why, l => by
    unfold allQ allS
    by_cases h : l = []
    · rw [if_pos h, if_pos (by rw [h]; rfl)]
    · have hp : 0 < l.length := List.length_pos_iff.2 h
      rw [if_neg h, if_neg (by simpa using h), List.length_map, ← List.map_take, ← List.map_drop, nth_kp (by omega)]
      simp only [allQ_eq room n]
theorem shr1 (l : List Int) : Int.fdiv (l.length : Int) (2 ^ min (1 : Int).toNat (IntKind.bits .i64)) = ((l.length / 2 : Nat) : Int) := by
  have : min (1 : Int).toNat (IntKind.bits .i64) = 1 := by decide
  rw [this, Int.fdiv_eq_ediv_of_nonneg _ (by decide)]
  omega
theorem slen_c (o : Option Nat) (room : Int) (q : List Cell) (root : Int) (t : Tree) (hr : Rep kz q t root) : FnG Try.prog 37 1 [.agg [.is (arV o), .int .i64 root]] [arH o room q] (.int .i64 (tSize t)) (fun _ => [arH o room q]) := by
  have := slen0_c o room q root
  rwa [hr.size] at this
theorem sinsert_s (b : Nat) (o : Option Nat) (root why room : Int) (q : List Cell) (x : Int) (t : Tree) (ih : ∀ t', tSize t' < tSize t → ∀ i j, Rep kz q t' i → 0 ≤ j → j ≤ tSize t' → tSize t' ≤ 1000000 → FnG Try.prog 81 1 [.is (.pointer (some ⟨b, 0, none⟩)), .int .i64 i, .int .i64 j, .int .i64 x] [bldH 190 (.pointer (some ⟨b, 0, none⟩)) o root why room q] (.int .i64 (insS room q why x t' i j).2.2) (fun _ => [bldH 190 (.pointer (some ⟨b, 0, none⟩)) o root (insS room q why x t' i j).2.1 room (insS room q why x t' i j).1])) (i j : Int) (hr : Rep kz q t i) (hj0 : 0 ≤ j) (hj1 : j ≤ tSize t) (hsz : tSize t ≤ 1000000) : FnG Try.prog 81 1 [.is (.pointer (some ⟨b, 0, none⟩)), .int .i64 i, .int .i64 j, .int .i64 x] [bldH 190 (.pointer (some ⟨b, 0, none⟩)) o root why room q] (.int .i64 (insS room q why x t i j).2.2) (fun _ => [bldH 190 (.pointer (some ⟨b, 0, none⟩)) o root (insS room q why x t i j).2.1 room (insS room q why x t i j).1]) := by
  refine FnG.mk Try.func81 rfl Try.ntmps81 rfl (by kernel_rfl) ?_
  intro B F0 a w F hB hG hS
  obtain ⟨F, hS⟩ := hS.peel 1 4 rfl rfl
  obtain ⟨F, hS⟩ := hS.peel 1 5 rfl rfl
  obtain ⟨F, hS⟩ := hS.nm [3, 2, 1, 0] [5, 4, 0] rfl rfl
  refine wp_seq ?_
  refine region_q hS
    (cF rfl (oN (.ci (by kernel_rfl))) trivial trivial
    Chain.nil)
    hB ?_
  clear hS; intro a w F hS
  obtain ⟨F, hS⟩ := hS.nm [8, 3, 2, 1, 0] [5, 4, 0] rfl rfl
  try dsimp only [rCell, rPair] at hS
  refine then_n (wp_seq (wp_seq ?_))
  refine region_q hS
    (cF rfl (oM .t) r1 trivial
    (cF rfl (o_eql .t (.ci (by kernel_rfl))) r1 trivial
    Chain.nil))
    hB ?_
  clear hS; intro a w F hS
  obtain ⟨F, hS⟩ := hS.nm [12, 8, 3, 2, 1, 0] [5, 4, 0] rfl rfl
  try dsimp only [rCell, rPair] at hS
  refine then_n ?_
  refine cond_b hS rfl (fun hc0 => ?_) (fun hc0 => ?_)
  ·skip
   have hi0 : i = 0 := by simpa using hc0
   have ht : t = .nil := by rw [hi0] at hr; exact hr.zero
   have hg : (insS room q why x t i j) = madeS room q why 0 0 ⟨0, x⟩ := by rw [ht]; rfl
   refine wp_seq ?_
   have hS := hS.fresh 1 rfl
   obtain ⟨F, hS⟩ := hS.push 1 5 rfl rfl rfl (by kernel_rfl)
   obtain ⟨F, hS⟩ := hS.push 1 4 rfl rfl rfl (by kernel_rfl)
   have hS := hS.turn 1 rfl (r' := RS.hp (bldH 190 (.pointer (some ⟨b, 0, none⟩)) o root why room q)) (fun _ _ _ _ h => h)
   obtain ⟨F, hS⟩ := hS.nm [12, 8, 3, 2, 1, 0] [1, 0] rfl rfl
   refine region_q hS
     (cF rfl (oM .t) r1 trivial
     (cF rfl (oM .t) r1 trivial
     (cF rfl (o_callG1 1 (smade_c b o root why room q 0 0 x) Try.func124 rfl (by kernel_rfl) (Args.four .t (.ci (by kernel_rfl)) (.ci (by kernel_rfl)) .t)) r2 r1
     (cF rfl (oN .t) r1 trivial
     Chain.nil))))
     hB ?_
   clear hS; intro a w F hS
   obtain ⟨F, hS⟩ := hS.nm [8, 3, 2, 1, 0] [1, 0] rfl rfl
   try dsimp only [rCell, rPair] at hS
   refine then_n (wp_ret (then_r ?_))
   have hS := hS.turn 1 rfl (r' := RS.hp (bldH 190 (.pointer (some ⟨b, 0, none⟩)) o root (insS room q why x t i j).2.1 room (insS room q why x t i j).1)) (fun _ _ _ _ h => by rw [hg]; exact h)
   refine ret_G1 hG hS rfl (.tmp rfl .nil) (.one (.int (by first | (rw [hg]; done) | (rw [hg]; rfl)))) rfl
  have hi0 : i ≠ 0 := by simpa using hc0
  obtain ⟨l, pp, r, ht⟩ := hr.node hi0
  have hn : Rep kz q (.node l pp r) i := by rw [← ht]; exact hr
  have hts : tSize t = tSize l + tSize r + 1 := by rw [ht]; rfl
  have hl0 := tSize_nn l
  have hr0 := tSize_nn r
  refine wp_skip (then_n (wp_seq ?_))
  refine region_q hS
    (cF rfl (oM .t) r1 trivial
    (cF rfl (o_nilCheck 4 .is (by rfl)) r1 r1
    (cF rfl (oF 0 4 .adr) r1 r1
    (cF rfl (oL true 2 4 .adr) r1 r1
    (cF rfl (oM .t) r1 trivial
    (cF rfl (o_callG1 5 (scell_c o room q root i) Try.func87 rfl (by kernel_rfl) (Args.two (.pagg .t) .t)) r2 r1
    (cF rfl (oH [.int .i64 0, .int .i64 0, .int .i64 0, .int .i64 0, .int .i64 0, .int .i64 0] 101) trivial trivial
    (cF rfl (oA 6 101 .same (.conv .t .agg)) r2 r1
    Chain.nil))))))))
    hB ?_
  clear hS; intro a w F hS
  replace hS := hS.sub
  obtain ⟨F, hS⟩ := hS.nm [9, 8, 3, 2, 0] [101, 5, 4, 0] rfl rfl
  try dsimp only [RS.sub, SF.sub, CF.sub, csub, Anc.sub, List.map, stCells, xL, xM, Nat.reduceAdd, xD, xE, xT, xU, xC, xN, zCF, ldSF, rCell, rPair] at hS
  generalize Act.tau a 9 = v9 at hS
  refine then_n (wp_seq ?_)
  refine region_any (by kernel_rfl) hS (by kernel_rfl)
    (cF rfl (oM .t) r1 trivial
    (cF rfl (o_nilCheck 4 .is (by rfl)) r1 r1
    (cF rfl (oF 0 4 .adr) r1 r1
    (cF rfl (oL true 2 4 .adr) r1 r1
    (cF rfl (oF 0 101 .is) r1 r1
    (cF rfl (oL false 1 101 .adr) r1 r1
    (cF rfl (o_callG1 5 (scell_c o room q root (getC q i).left) Try.func87 rfl (by kernel_rfl) (Args.two (.pagg .t) .t)) r2 r1
    (cF rfl (o_field1 (ft := 3) (off := 4) (by kernel_rfl) (by kernel_rfl) .t rfl) r1 trivial
    (cF rfl (oN .t) r1 trivial
    Chain.nil)))))))))
    (by kernel_rfl) (by rw [hB]; kernel_rfl) ?_
  clear hS; intro a w F hS
  obtain ⟨F, hS⟩ := hS.nm [10, 9, 8, 3, 2, 0] [101, 5, 4, 0] rfl rfl
  try dsimp only [List.map, xD, xE, xT, xU, ldSF, rCell, rPair] at hS
  rw [hn.2.1.size] at hS
  refine then_n (wp_seq (wp_seq ?_))
  refine region_q hS
    (cF rfl (oM .t) r1 trivial
    (cF rfl (oM .t) r1 trivial
    (cF rfl (o_leq .t .t) r2 trivial
    Chain.nil)))
    hB ?_
  clear hS; intro a w F hS
  obtain ⟨F, hS⟩ := hS.nm [32, 10, 9, 8, 3, 2, 0] [101, 5, 4, 0] rfl rfl
  try dsimp only [rCell, rPair] at hS
  refine then_n ?_
  refine cond_b hS rfl (fun hc1 => ?_) (fun hc1 => ?_)
  ·skip
   have h1 : (j ≤ tSize l) := by simp only [decide_eq_true_eq, decide_eq_false_iff_not] at hc1; omega
   have hg : (insS room q why x t i j) = (evenS kz room (insS room q why x l (getC q i).left j).1 (insS room q why x l (getC q i).left j).2.1 (insS room q why x l (getC q i).left j).2.2 (getC q i).right (⟨0, (getC q i).val⟩ : PairD)) := by rw [ht]; (conv => lhs; unfold insS); rw [if_pos h1] <;> rfl
   refine wp_seq ?_
   have hS := hS.fresh 1 rfl
   obtain ⟨F, hS⟩ := hS.push 1 5 rfl rfl rfl (by kernel_rfl)
   obtain ⟨F, hS⟩ := hS.push 1 4 rfl rfl rfl (by kernel_rfl)
   have hS := hS.turn 1 rfl (r' := RS.hp (bldH 190 (.pointer (some ⟨b, 0, none⟩)) o root why room q)) (fun _ _ _ _ h => h)
   obtain ⟨F, hS⟩ := hS.nm [32, 10, 9, 8, 3, 2, 0] [101, 1, 0] rfl rfl
   refine region_any (by kernel_rfl) hS (by kernel_rfl)
     (cF rfl (oM .t) r1 trivial
     (cF rfl (oM .t) r1 trivial
     (cF rfl (oF 0 101 .is) r1 r1
     (cF rfl (oL false 1 101 .adr) r1 r1
     (cF rfl (oM .t) r1 trivial
     (cF rfl (oM .t) r1 trivial
     (cF rfl (o_callG1 1 (ih l (by rw [ht]; exact tSize_l) (getC q i).left j hn.2.1 hj0 h1 (by omega)) Try.func81 rfl (by kernel_rfl) (Args.four .t .t .t .t)) r4 r1
     (cF rfl (oF 1 101 .is) r1 r1
     (cF rfl (oL false 1 101 .adr) r1 r1
     (cF rfl (oF 3 101 .is) r1 r1
     (cF rfl (oL false 1 101 .adr) r1 r1
     (cF rfl (o_callG1 1 (seven_c b o root (insS room q why x l (getC q i).left j).2.1 room (insS room q why x l (getC q i).left j).1 (insS room q why x l (getC q i).left j).2.2 (getC q i).right (getC q i).val) Try.func125 rfl (by kernel_rfl) (Args.four .t .t .t .t)) r4 r1
     (cF rfl (oN .t) r1 trivial
     Chain.nil)))))))))))))
     (by kernel_rfl) (by rw [hB]; kernel_rfl) ?_
   clear hS; intro a w F hS
   obtain ⟨F, hS⟩ := hS.nm [10, 9, 8, 3, 2, 0] [101, 1, 0] rfl rfl
   try dsimp only [List.map, xD, xE, xT, xU, ldSF, rCell, rPair] at hS
   refine then_n (wp_ret (then_r ?_))
   have hS := hS.turn 1 rfl (r' := RS.hp (bldH 190 (.pointer (some ⟨b, 0, none⟩)) o root (insS room q why x t i j).2.1 room (insS room q why x t i j).1)) (fun _ _ _ _ h => by rw [hg]; exact h)
   refine ret_G1 hG hS rfl (.tmp rfl .nil) (.one (.int (by first | (rw [hg]; done) | (rw [hg]; rfl)))) rfl
  have h1 : ¬ (j ≤ tSize l) := by simp only [decide_eq_true_eq, decide_eq_false_iff_not] at hc1; omega
  have hw : (IntKind.wrap .i64 (IntKind.wrap .i64 (j - tSize l) - 1)) = j - tSize l - 1 := by rw [wrap_i64 (x := j - tSize l) (by omega), wrap_i64 (by omega)]
  have hg : (insS room q why x t i j) = (evenS kz room (insS room q why x r (getC q i).right (IntKind.wrap .i64 (IntKind.wrap .i64 (j - tSize l) - 1))).1 (insS room q why x r (getC q i).right (IntKind.wrap .i64 (IntKind.wrap .i64 (j - tSize l) - 1))).2.1 (getC q i).left (insS room q why x r (getC q i).right (IntKind.wrap .i64 (IntKind.wrap .i64 (j - tSize l) - 1))).2.2 (⟨0, (getC q i).val⟩ : PairD)) := by rw [ht]; (conv => lhs; unfold insS); rw [hw]; rw [if_neg h1] <;> rfl
  refine wp_skip (then_n (wp_seq ?_))
  have hS := hS.fresh 1 rfl
  obtain ⟨F, hS⟩ := hS.push 1 5 rfl rfl rfl (by kernel_rfl)
  obtain ⟨F, hS⟩ := hS.push 1 4 rfl rfl rfl (by kernel_rfl)
  have hS := hS.turn 1 rfl (r' := RS.hp (bldH 190 (.pointer (some ⟨b, 0, none⟩)) o root why room q)) (fun _ _ _ _ h => h)
  obtain ⟨F, hS⟩ := hS.nm [32, 10, 9, 8, 3, 2, 0] [101, 1, 0] rfl rfl
  refine region_any (by kernel_rfl) hS (by kernel_rfl)
    (cF rfl (oM .t) r1 trivial
    (cF rfl (oF 0 101 .is) r1 r1
    (cF rfl (oL false 1 101 .adr) r1 r1
    (cF rfl (oM .t) r1 trivial
    (cF rfl (oF 1 101 .is) r1 r1
    (cF rfl (oL false 1 101 .adr) r1 r1
    (cF rfl (oM .t) r1 trivial
    (cF rfl (oM .t) r1 trivial
    (cF rfl (o_sub .t .t) r2 trivial
    (cF rfl (o_sub .t (.ci (by kernel_rfl))) r1 trivial
    (cF rfl (oM .t) r1 trivial
    (cF rfl (o_callG1 1 (ih r (by rw [ht]; exact tSize_r) (getC q i).right (IntKind.wrap .i64 (IntKind.wrap .i64 (j - tSize l) - 1)) hn.2.2.1 (by rw [hw]; omega) (by rw [hw]; omega) (by omega)) Try.func81 rfl (by kernel_rfl) (Args.four .t .t .t .t)) r4 r1
    (cF rfl (oF 3 101 .is) r1 r1
    (cF rfl (oL false 1 101 .adr) r1 r1
    (cF rfl (o_callG1 1 (seven_c b o root (insS room q why x r (getC q i).right (IntKind.wrap .i64 (IntKind.wrap .i64 (j - tSize l) - 1))).2.1 room (insS room q why x r (getC q i).right (IntKind.wrap .i64 (IntKind.wrap .i64 (j - tSize l) - 1))).1 (getC q i).left (insS room q why x r (getC q i).right (IntKind.wrap .i64 (IntKind.wrap .i64 (j - tSize l) - 1))).2.2 (getC q i).val) Try.func125 rfl (by kernel_rfl) (Args.four .t .t .t .t)) r4 r1
    (cF rfl (oN .t) r1 trivial
    Chain.nil))))))))))))))))
    (by kernel_rfl) (by rw [hB]; kernel_rfl) ?_
  clear hS; intro a w F hS
  obtain ⟨F, hS⟩ := hS.nm [8] [1, 0] rfl rfl
  try dsimp only [List.map, xD, xE, xT, xU, ldSF, rCell, rPair] at hS
  refine then_n (wp_ret ?_)
  have hS := hS.turn 1 rfl (r' := RS.hp (bldH 190 (.pointer (some ⟨b, 0, none⟩)) o root (insS room q why x t i j).2.1 room (insS room q why x t i j).1)) (fun _ _ _ _ h => by rw [hg]; exact h)
  refine ret_G1 hG hS rfl (.tmp rfl .nil) (.one (.int (by first | (rw [hg]; done) | (rw [hg]; rfl)))) rfl

theorem sinsert_c (b : Nat) (o : Option Nat) (root why room : Int) (q : List Cell) (x : Int) (t : Tree) (i j : Int) (hr : Rep kz q t i) (hj0 : 0 ≤ j) (hj1 : j ≤ tSize t) (hsz : tSize t ≤ 1000000) : FnG Try.prog 81 1 [.is (.pointer (some ⟨b, 0, none⟩)), .int .i64 i, .int .i64 j, .int .i64 x] [bldH 190 (.pointer (some ⟨b, 0, none⟩)) o root why room q] (.int .i64 (insS room q why x t i j).2.2) (fun _ => [bldH 190 (.pointer (some ⟨b, 0, none⟩)) o root (insS room q why x t i j).2.1 room (insS room q why x t i j).1]) := recT (P := fun t => ∀ i j, Rep kz q t i → 0 ≤ j → j ≤ tSize t → tSize t ≤ 1000000 → FnG Try.prog 81 1 [.is (.pointer (some ⟨b, 0, none⟩)), .int .i64 i, .int .i64 j, .int .i64 x] [bldH 190 (.pointer (some ⟨b, 0, none⟩)) o root why room q] (.int .i64 (insS room q why x t i j).2.2) (fun _ => [bldH 190 (.pointer (some ⟨b, 0, none⟩)) o root (insS room q why x t i j).2.1 room (insS room q why x t i j).1])) (fun t ih i j h1 h2 h3 h4 => sinsert_s b o root why room q x t ih i j h1 h2 h3 h4) t i j hr hj0 hj1 hsz

end Go.Proofs.Ytdfidiehkkbimaa
