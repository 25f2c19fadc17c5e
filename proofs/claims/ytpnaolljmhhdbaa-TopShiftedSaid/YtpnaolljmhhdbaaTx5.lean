/- Keys, Touched. No condition beyond those that each theorem says. -/
import Derived.Test.YtpnaolljmhhdbaaTx3
import Derived.Test.YtpnaolljmhhdbaaTx4
namespace Go.Proofs.Ytpnaolljmhhdbaa
open Go Go.Gm
set_option linter.unusedVariables false
set_option linter.unusedSimpArgs false
set_option maxHeartbeats 4000000
set_option maxRecDepth 8000

theorem Ent.fnClos {f : FuncId} : Ent (.pv (.is (.func (.func f) #[] #[]))) (.pv (.clos f [])) := fun τ w y v h => ⟨[], h.1, trivial⟩

theorem keys1_c (o : OpD) : FnP Try.prog 82 [.agg (rOp o)] (.bool (!o.read)) := by
  refine FnP.mk Try.func82 rfl Try.ntmps82 rfl ?_
  intro B a w F hB hfr hS
  refine wp_seq ?_
  refine region_q hS
    (cF rfl (oX 101 (.conv .t .agg)) r1 trivial
    (cF rfl (oN .cb) trivial trivial
    Chain.nil))
    hB ?_
  clear hS; intro a w F hS
  replace hS := hS.sub
  obtain ⟨F, hS⟩ := hS.nm [2, 1] [101, 0] rfl rfl
  try dsimp only [RS.sub, SF.sub, CF.sub, csub, Anc.sub, List.map, zCF, rOp] at hS
  generalize Act.tau a 1 = v1 at hS
  refine then_n (wp_seq ?_)
  refine region_q hS
    (cF rfl (oF 0 101 .is) r1 r1
    (cF rfl (oL false 1 101 .adr) r1 r1
    (cF rfl (o_not .t) r1 trivial
    (cF rfl (oN .t) r1 trivial
    Chain.nil))))
    hB ?_
  clear hS; intro a w F hS
  obtain ⟨F, hS⟩ := hS.nm [2] [0] rfl rfl
  try dsimp only [List.map, xD, xE, xT, xU, ldSF, rOp] at hS
  refine then_n (wp_ret ?_)
  refine ret_P hfr hS rfl (.tmp rfl .nil) (.one (.bool rfl))

theorem tKeys_c (t : TxD) (hl : t.ops.length ≤ 1000000) : FnP Try.prog 59 [.agg (rTx t)] (.sl rInt (keysL ((t.ops.filter fun o => !o.read).map OpD.key))) := by
  refine FnP.mk Try.func59 rfl Try.ntmps59 rfl ?_
  intro B a w F hB hfr hS
  refine wp_seq ?_
  refine region_q hS
    (cF rfl (oX 101 (.conv .t .agg)) r1 trivial
    (cF rfl (oN (.c rfl)) trivial trivial
    Chain.nil))
    hB ?_
  clear hS; intro a w F hS
  replace hS := hS.sub
  obtain ⟨F, hS⟩ := hS.nm [2, 1] [101, 0] rfl rfl
  try dsimp only [RS.sub, SF.sub, CF.sub, csub, Anc.sub, List.map, zCF, rTx, rInt] at hS
  generalize Act.tau a 1 = v1 at hS
  refine then_n (wp_seq ?_)
  refine region_q hS
    (cF rfl (oL true 3 101 .is) r1 r1
    (cF rfl (oP (tkeys_c t hl (fun o => !o.read) 82 Try.f82 [] Try.func82 rfl (by kernel_rfl) (fun o => keys1_c o)) Try.func81 (Args.two (.pagg .t) (.conv .f (Ent.fnClos)))) r1 trivial
    (cF rfl (oN .t) r1 trivial
    Chain.nil)))
    hB ?_
  clear hS; intro a w F hS
  obtain ⟨F, hS⟩ := hS.nm [2] [0] rfl rfl
  try dsimp only [List.map, xD, xE, xT, xU, ldSF, rTx, rInt] at hS
  refine then_n (wp_ret ?_)
  refine ret_P hfr hS rfl (.tmp rfl .nil) (.one (.sl rfl))

end Go.Proofs.Ytpnaolljmhhdbaa
