/- Edges as numbers. No condition beyond those that each theorem says. -/
import Derived.Test.YtpnaolljmhhdbaaPk0
namespace Go.Proofs.Ytpnaolljmhhdbaa
open Go Go.Gm
set_option linter.unusedVariables false
set_option linter.unusedSimpArgs false
set_option maxHeartbeats 4000000
set_option maxRecDepth 8000

theorem id_c (n : Int) : FnP Try.prog 46 [.int .i64 n] (.bool (idB n)) := by
  refine FnP.mk Try.func46 rfl Try.ntmps46 rfl ?_
  intro B a w F hB hfr hS
  refine wp_seq ?_
  refine region_q hS
    (cF rfl (oN .cb) trivial trivial
    Chain.nil)
    hB ?_
  clear hS; intro a w F hS
  obtain ⟨F, hS⟩ := hS.nm [2, 0] [0] rfl rfl
  refine then_n (wp_seq ?_)
  refine region_q hS
    (cF rfl (oM .t) r1 trivial
    (cF rfl (o_geq .t (.ci (by kernel_rfl))) r1 trivial
    (cF rfl (oM .t) r1 trivial
    (Chain.cons (Cert.cond rfl rfl (fun h => o_move .t (by rfl))) r2 trivial
    (Chain.cons (Cert.cond rfl rfl (fun h => o_leq (.w h) (.ci (by kernel_rfl)))) r2 trivial
    (cF rfl (o_and2 .t .t) r2 trivial
    (cF rfl (oN .t) r1 trivial
    Chain.nil)))))))
    hB ?_
  clear hS; intro a w F hS
  obtain ⟨F, hS⟩ := hS.nm [2] [0] rfl rfl
  refine then_n (wp_ret ?_)
  refine ret_P hfr hS rfl (.tmp rfl .nil) (.one .refl)

end Go.Proofs.Ytpnaolljmhhdbaa
