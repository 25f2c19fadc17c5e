/- pack.Sort. No condition beyond those that each theorem says. -/
import Derived.Test.YtpnaolljmhhdbaaPsX
import Derived.Test.YtpnaolljmhhdbaaPs3
namespace Go.Proofs.Ytpnaolljmhhdbaa
open Go Go.Gm
set_option linter.unusedVariables false
set_option linter.unusedSimpArgs false
set_option maxHeartbeats 4000000
set_option maxRecDepth 8000

theorem sortEd_c (l : List EdgeD) (hl : l.length ≤ 1000000) : FnP Try.prog 63 [.sl rEdge l] (.sl rEdge (keysG ltE l)) := by
  refine FnP.mk Try.func63 rfl Try.ntmps63 rfl ?_
  intro B a w F hB hfr hS
  have hll := Sat.lenSl hS (i := 0) rfl
  refine wp_seq ?_
  refine region_q hS
    (cF rfl (oN (.c rfl)) trivial trivial
    Chain.nil)
    hB ?_
  clear hS; intro a w F hS
  obtain ⟨F, hS⟩ := hS.nm [2, 0] [0] rfl rfl
  try dsimp only [rEdge] at hS
  refine then_n (wp_seq ?_)
  replace hS := hS.fresh 101 rfl
  refine region_q hS
    (cF rfl (oM .t) r1 trivial
    (cF rfl (o_callN 101 (cloneEd_c l (by omega)) Try.func84 rfl (by kernel_rfl) (Args.one .t) pvOne1) r1 r1
    (cF rfl (oN .t) r1 trivial
    Chain.nil)))
    hB ?_
  clear hS; intro a w F hS
  replace hS := hS.sub
  obtain ⟨F, hS⟩ := hS.nm [3, 2] [101, 0] rfl rfl
  try dsimp only [RS.sub, SF.sub, CF.sub, csub, Anc.sub, List.map, rEdge] at hS
  generalize Act.tau a 5 = v5 at hS
  refine then_n (wp_seq ?_)
  refine region_q hS
    (cF rfl (oM .t) r1 trivial
    (cF rfl (o_callRow 101 (sortE_c _ l (by omega)) Try.func85 rfl (by kernel_rfl) (Args.two .t .f)) r1 r1
    Chain.nil))
    hB ?_
  clear hS; intro a w F hS
  obtain ⟨F, hS⟩ := hS.nm [3, 2] [101, 0] rfl rfl
  try dsimp only [rEdge] at hS
  refine then_n (wp_seq ?_)
  refine region_q hS
    (cF rfl (oM .t) r1 trivial
    (cF rfl (o_callRowN 101 (compactEd_c _ _ (by rw [sortE_len]; omega)) Try.func87 rfl (by kernel_rfl) (Args.one .t) pvOne1) r1 r1
    (cF rfl (oN .t) r1 trivial
    Chain.nil)))
    hB ?_
  clear hS; intro a w F hS
  replace hS := hS.sub
  obtain ⟨F, hS⟩ := hS.nm [2] [101, 0] rfl rfl
  try dsimp only [RS.sub, SF.sub, CF.sub, csub, Anc.sub, List.map, rEdge] at hS
  generalize Act.tau a 9 = v9 at hS
  refine then_n (wp_ret ?_)
  obtain ⟨F, hS⟩ := hS.give 101 2 rfl rfl
  refine ret_P hfr hS rfl (.tmp rfl .nil) (.one (.sl (sortE_keys l)))

end Go.Proofs.Ytpnaolljmhhdbaa
