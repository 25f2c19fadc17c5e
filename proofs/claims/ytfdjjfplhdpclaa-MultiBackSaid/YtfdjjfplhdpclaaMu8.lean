/- Bags: the numbers in order. No condition beyond those that each theorem says. -/
import Derived.Test.YtfdjjfplhdpclaaMu7
import Derived.Test.YtfdjjfplhdpclaaMu1
import Derived.Test.YtfdjjfplhdpclaaKc3
namespace Go.Proofs.Ytfdjjfplhdpclaa
open Go Go.Gm
set_option linter.unusedVariables false
set_option linter.unusedSimpArgs false
set_option maxHeartbeats 4000000
set_option maxRecDepth 8000


theorem mkeys_c (mv : Value) : FnP Try.prog 28 [.is mv] (.clos 38 [.ref [.is mv]]) := by
  refine FnP.mk Try.func28 rfl Try.ntmps28 rfl ?_
  intro B a w F hB hfr hS
  refine wp_seq ?_
  refine region_q hS
    (cF rfl (o_box1 101 .t one_is) r1 trivial
    (cF rfl (oN (.c rfl)) trivial trivial
    Chain.nil))
    hB ?_
  clear hS; intro a w F hS
  replace hS := hS.sub
  obtain ⟨F, hS⟩ := hS.nm [2, 1] [101, 0] rfl rfl
  try dsimp only [RS.sub, SF.sub, CF.sub, csub, Anc.sub, List.map, zCF] at hS
  generalize Act.tau a 1 = v1 at hS
  obtain ⟨F, hS⟩ := hS.giveRef 101 1 rfl rfl rfl
  obtain ⟨F, hS⟩ := hS.nm [2, 1] [0] rfl rfl
  try dsimp only [Go.Gm.unCF] at hS
  refine then_n (wp_seq ?_)
  refine region_q hS
    (cF rfl (o_makeFunc (Args.one .t)) r1 trivial
    (cF rfl (oN .t) r1 trivial
    Chain.nil))
    hB ?_
  clear hS; intro a w F hS
  obtain ⟨F, hS⟩ := hS.nm [2] [0] rfl rfl
  refine then_n (wp_ret ?_)
  refine ret_P hfr hS rfl (.tmp rfl .nil) (.one .refl)

theorem sorted_c (mv : Value) (es : List (GE Int Int)) (ck : Nat) (bg : List HvD) (hBg : BagOk bg) (hc : CntM es bg) (hl9 : bg.length ≤ 100000) : FnG Try.prog 27 2 [.clos 38 [.ref [.is mv]]] [MP1 es ck mv, .star []] (PV.one) (fun v => [MP1 es ck mv, rowH 49 1 rU64 (numsOf (fun _ => true) bg) v]) := by
  refine FnG.mk Try.func27 rfl Try.ntmps27 rfl (by kernel_rfl) ?_
  intro B F0 a w F hB hG hS
  refine wp_seq ?_
  refine region_q hS
    (cF rfl (oN (.c rfl)) trivial trivial
    Chain.nil)
    hB ?_
  clear hS; intro a w F hS
  obtain ⟨F, hS⟩ := hS.nm [2, 0] [2, 1, 0] rfl rfl
  try dsimp only [rU64] at hS
  refine then_n (wp_seq ?_)
  refine region_q hS
    (cF rfl (oM .t) r1 trivial
    (cF rfl (o_callG2N 1 2 (kcCollect_c (fun n : Int => PV.int .i32 n) mv es ck (by have := hc.len hBg; omega) (hc.inr hBg)) Try.func36 rfl (by kernel_rfl) rfl (Args.one .t) pvOne1) r1 r2
    (cF rfl (oN .t) r1 trivial
    Chain.nil)))
    hB ?_
  clear hS; intro a w F hS
  replace hS := hS.sub
  obtain ⟨F, hS⟩ := hS.nm [3, 2] [2, 1, 0] rfl rfl
  try dsimp only [RS.sub, SF.sub, CF.sub, csub, Anc.sub, List.map, rU64] at hS
  generalize Act.tau a 5 = v5 at hS
  replace hS := hS.turn 2 rfl (r' := RS.hp (HP.ex fun l : List Int => HP.and (l.Perm (es.map fun z : GE Int Int => z.key)) (rowH 49 1 rU64 l v5))) (fun _ _ _ _ h => h)
  obtain ⟨ks, hS⟩ := hS.open_ex 2 rfl
  obtain ⟨hks, hS⟩ := hS.open_and 2 rfl
  replace hS := hS.turn 2 rfl (r' := .ob (.val v5) (rowH 49 1 rU64 ks)) (fun _ _ _ _ h => h)
  have hkl : ks.length ≤ 1000000 := by have h1 := hks.length_eq; have h2 := hc.len hBg; rw [List.length_map] at h1; omega
  obtain ⟨F, hS⟩ := hS.nm [3, 2] [2, 1, 0] rfl rfl
  refine then_n (wp_seq ?_)
  refine region_q hS
    (cF rfl (oM .t) r1 trivial
    (cF rfl (o_callRow 2 (sortU_c _ ks hkl) Try.func37 rfl (by kernel_rfl) (Args.one .t)) r1 r1
    Chain.nil))
    hB ?_
  clear hS; intro a w F hS
  obtain ⟨F, hS⟩ := hS.nm [3, 2] [2, 1, 0] rfl rfl
  try dsimp only [rU64] at hS
  rw [sorted_keys hBg hc hks] at hS
  refine then_n (wp_seq ?_)
  refine region_q hS
    (cF rfl (oM .t) r1 trivial
    (cF rfl (oN .t) r1 trivial
    Chain.nil))
    hB ?_
  clear hS; intro a w F hS
  obtain ⟨F, hS⟩ := hS.nm [2] [2, 1, 0] rfl rfl
  try dsimp only [rU64] at hS
  refine then_n (wp_ret ?_)
  have hS := hS.turn 2 rfl (r' := RS.hp (rowH 49 1 rU64 (numsOf (fun _ => true) bg) v5)) (fun _ _ _ _ h => h)
  refine ret_N2 (k2 := fun v => rowH 49 1 rU64 (numsOf (fun _ => true) bg) v) hG hS rfl (.tmp rfl .nil) (.one .one) rfl rfl

end Go.Proofs.Ytfdjjfplhdpclaa
