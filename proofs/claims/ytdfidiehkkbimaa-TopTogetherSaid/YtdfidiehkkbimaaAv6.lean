/- Maps are read. No condition beyond those that each theorem says. -/
import Derived.Test.YtdfidiehkkbimaaAv2
import Derived.Test.YtdfidiehkkbimaaAv4
namespace Go.Proofs.Ytdfidiehkkbimaa
open Go Go.Gm
set_option linter.unusedVariables false
set_option linter.unusedSimpArgs false
set_option maxHeartbeats 4000000
set_option maxRecDepth 8000


def cmpI (a b : Int) : Int := if a < b then -1 else if b < a then 1 else 0
theorem cmpI_zero {a b : Int} : cmpI a b = 0 ↔ a = b := by unfold cmpI; split; omega; split <;> omega
theorem cmpI_neg {a b : Int} : cmpI a b = -1 ↔ a < b := by unfold cmpI; split; omega; split <;> omega
def lookT (k : Int) : Tree → Int × Bool
  | .nil => (0, false)
  | .node l p r => if k < p.key then lookT k l else if p.key < k then lookT k r else (p.val, true)
def rankT (k : Int) : Tree → Int
  | .nil => 0
  | .node l p r => if k ≤ p.key then rankT k l else tSize l + 1 + rankT k r
theorem rankT_in (k : Int) : ∀ t, 0 ≤ rankT k t ∧ rankT k t ≤ tSize t
  | .nil => ⟨Int.le_refl _, Int.le_refl _⟩
  | .node l p r => by
    have h1 := rankT_in k l
    have h2 := rankT_in k r
    have := tSize_nn l
    have := tSize_nn r
    have e : tSize (.node l p r) = tSize l + tSize r + 1 := rfl
    unfold rankT
    split <;> omega
def atT (j : Int) : Tree → PairD
  | .nil => default
  | .node l p r => if j < tSize l then atT j l else if j = tSize l then p else atT (j - tSize l - 1) r
def atR (j : Int) (t : Tree) : PairD × Bool := if 0 ≤ j ∧ j < tSize t then (atT j t, true) else (default, false)

theorem isnan_c (x : Int) : FnP Try.prog 144 [.int .i64 x] (.bool false) := by
  refine FnP.mk Try.func144 rfl Try.ntmps144 rfl ?_
  intro B a w F hB hfr hS
  refine wp_seq ?_
  refine region_q hS
    (cF rfl (oN .cb) trivial trivial
    Chain.nil)
    hB ?_
  clear hS; intro a w F hS
  obtain ⟨F, hS⟩ := hS.nm [2, 0] [0] rfl rfl
  try dsimp only [rCell, rPair] at hS
  refine then_n (wp_seq ?_)
  refine region_q hS
    (cF rfl (oM .t) r1 trivial
    (cF rfl (oM .t) r1 trivial
    (cF rfl (o_neq .t .t) r2 trivial
    (cF rfl (oN .t) r1 trivial
    Chain.nil))))
    hB ?_
  clear hS; intro a w F hS
  obtain ⟨F, hS⟩ := hS.nm [2] [0] rfl rfl
  try dsimp only [rCell, rPair] at hS
  refine then_n (wp_ret ?_)
  refine ret_P hfr hS rfl (.tmp rfl .nil) (.one (.bool (by simp)))

theorem cmp_c (x y : Int) : FnP Try.prog 117 [.int .i64 x, .int .i64 y] (.int .i64 (cmpI x y)) := by
  refine FnP.mk Try.func117 rfl Try.ntmps117 rfl ?_
  intro B a w F hB hfr hS
  refine wp_seq ?_
  refine region_q hS
    (cF rfl (oN (.ci (by kernel_rfl))) trivial trivial
    Chain.nil)
    hB ?_
  clear hS; intro a w F hS
  obtain ⟨F, hS⟩ := hS.nm [4, 1, 0] [0] rfl rfl
  try dsimp only [rCell, rPair] at hS
  refine then_n (wp_seq ?_)
  refine region_q hS
    (cF rfl (oM .t) r1 trivial
    (cF rfl (oP (isnan_c x) Try.func144 (Args.one .t)) r1 trivial
    (cF rfl (oN .t) r1 trivial
    Chain.nil)))
    hB ?_
  clear hS; intro a w F hS
  obtain ⟨F, hS⟩ := hS.nm [5, 4, 1, 0] [0] rfl rfl
  try dsimp only [rCell, rPair] at hS
  refine then_n (wp_seq ?_)
  refine region_q hS
    (cF rfl (oM .t) r1 trivial
    (cF rfl (oP (isnan_c y) Try.func144 (Args.one .t)) r1 trivial
    (cF rfl (oN .t) r1 trivial
    Chain.nil)))
    hB ?_
  clear hS; intro a w F hS
  obtain ⟨F, hS⟩ := hS.nm [6, 5, 4, 1, 0] [0] rfl rfl
  try dsimp only [rCell, rPair] at hS
  refine then_n (wp_seq (wp_seq ?_))
  refine region_q hS
    (cF rfl (oM .t) r1 trivial
    Chain.nil)
    hB ?_
  clear hS; intro a w F hS
  obtain ⟨F, hS⟩ := hS.nm [11, 6, 4, 1, 0] [0] rfl rfl
  try dsimp only [rCell, rPair] at hS
  refine then_n ?_
  refine cond_b hS rfl (fun hc0 => ?_) (fun hc0 => ?_)
  ·skip
   simp at hc0
  refine wp_skip (then_n (wp_seq (wp_seq ?_)))
  refine region_q hS
    (cF rfl (oM .t) r1 trivial
    Chain.nil)
    hB ?_
  clear hS; intro a w F hS
  obtain ⟨F, hS⟩ := hS.nm [13, 4, 1, 0] [0] rfl rfl
  try dsimp only [rCell, rPair] at hS
  refine then_n ?_
  refine cond_b hS rfl (fun hc1 => ?_) (fun hc1 => ?_)
  ·skip
   simp at hc1
  refine wp_skip (then_n (wp_seq (wp_seq ?_)))
  refine region_q hS
    (cF rfl (oM .t) r1 trivial
    (cF rfl (oM .t) r1 trivial
    (cF rfl (o_lss .t .t) r2 trivial
    Chain.nil)))
    hB ?_
  clear hS; intro a w F hS
  obtain ⟨F, hS⟩ := hS.nm [16, 4, 1, 0] [0] rfl rfl
  try dsimp only [rCell, rPair] at hS
  refine then_n ?_
  refine cond_b hS rfl (fun hc2 => ?_) (fun hc2 => ?_)
  ·skip
   have hg : (-1 : Int) = cmpI x y := (cmpI_neg.2 (by simpa using hc2)).symm
   refine wp_seq ?_
   refine region_q hS
     (cF rfl (oN (.ci (by kernel_rfl))) trivial trivial
     Chain.nil)
     hB ?_
   clear hS; intro a w F hS
   obtain ⟨F, hS⟩ := hS.nm [4, 1, 0] [0] rfl rfl
   try dsimp only [rCell, rPair] at hS
   refine then_n (wp_ret (then_r ?_))
   refine ret_P hfr hS rfl (.tmp rfl .nil) (.one (.int hg))
  have h1 : ¬ x < y := by simpa using hc2
  refine wp_skip (then_n (wp_seq (wp_seq ?_)))
  refine region_q hS
    (cF rfl (oM .t) r1 trivial
    (cF rfl (oM .t) r1 trivial
    (cF rfl (o_gtr .t .t) r2 trivial
    Chain.nil)))
    hB ?_
  clear hS; intro a w F hS
  obtain ⟨F, hS⟩ := hS.nm [19, 4] [0] rfl rfl
  try dsimp only [rCell, rPair] at hS
  refine then_n ?_
  refine cond_b hS rfl (fun hc3 => ?_) (fun hc3 => ?_)
  ·skip
   have h2 : y < x := by simpa using hc3
   have hg : (1 : Int) = cmpI x y := by unfold cmpI; rw [if_neg h1, if_pos h2]
   refine wp_seq ?_
   refine region_q hS
     (cF rfl (oN (.ci (by kernel_rfl))) trivial trivial
     Chain.nil)
     hB ?_
   clear hS; intro a w F hS
   obtain ⟨F, hS⟩ := hS.nm [4] [0] rfl rfl
   try dsimp only [rCell, rPair] at hS
   refine then_n (wp_ret (then_r ?_))
   refine ret_P hfr hS rfl (.tmp rfl .nil) (.one (.int hg))
  have h2 : ¬ y < x := by simpa using hc3
  have hg : (0 : Int) = cmpI x y := by unfold cmpI; rw [if_neg h1, if_neg h2]
  refine wp_skip (then_n (wp_seq ?_))
  refine region_q hS
    (cF rfl (oN (.ci (by kernel_rfl))) trivial trivial
    Chain.nil)
    hB ?_
  clear hS; intro a w F hS
  obtain ⟨F, hS⟩ := hS.nm [4] [0] rfl rfl
  try dsimp only [rCell, rPair] at hS
  refine then_n (wp_ret ?_)
  refine ret_P hfr hS rfl (.tmp rfl .nil) (.one (.int hg))

theorem mlen_c (o : Option Nat) (room : Int) (q : List Cell) (root : Int) : FnG Try.prog 77 1 [.agg [.is (arV o), .int .i64 root]] [arH o room q] (.int .i64 (getC q root).size) (fun _ => [arH o room q]) := by
  refine FnG.mk Try.func77 rfl Try.ntmps77 rfl (by kernel_rfl) ?_
  intro B F0 a w F hB hG hS
  refine wp_seq ?_
  refine region_q hS
    (cF rfl (oX 101 (.conv .t .agg)) r1 trivial
    (cF rfl (oN (.ci (by kernel_rfl))) trivial trivial
    Chain.nil))
    hB ?_
  clear hS; intro a w F hS
  replace hS := hS.sub
  obtain ⟨F, hS⟩ := hS.nm [2, 1] [101, 1, 0] rfl rfl
  try dsimp only [RS.sub, SF.sub, CF.sub, csub, Anc.sub, List.map, zCF, rCell, rPair] at hS
  generalize Act.tau a 1 = v1 at hS
  refine then_n (wp_seq ?_)
  refine region_q hS
    (cF rfl (oL true 2 101 .is) r1 r1
    (cF rfl (oF 1 101 .is) r1 r1
    (cF rfl (oL false 1 101 .adr) r1 r1
    (cF rfl (o_callG1 1 (mcell_c o room q root root) Try.func93 rfl (by kernel_rfl) (Args.two (.pagg .t) .t)) r2 r1
    (cF rfl (o_field1 (ft := 3) (off := 4) (by kernel_rfl) (by kernel_rfl) .t rfl) r1 trivial
    (cF rfl (oN .t) r1 trivial
    Chain.nil))))))
    hB ?_
  clear hS; intro a w F hS
  obtain ⟨F, hS⟩ := hS.nm [2] [1, 0] rfl rfl
  try dsimp only [List.map, xD, xE, xT, xU, ldSF, rCell, rPair] at hS
  refine then_n (wp_ret ?_)
  refine ret_G1 hG hS rfl (.tmp rfl .nil) (.one (.int rfl)) rfl

end Go.Proofs.Ytdfidiehkkbimaa
