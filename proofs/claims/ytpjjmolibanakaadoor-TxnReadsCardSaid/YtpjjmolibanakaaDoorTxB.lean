/- Without reads. No condition beyond those that each theorem says. -/
import Derived.Test.YtpjjmolibanakaaDoorTx9
import Derived.Test.YtpjjmolibanakaaDoorTx2
namespace Go.Proofs.YtpjjmolibanakaaDoor
open Go Go.Gm
set_option linter.unusedVariables false
set_option linter.unusedSimpArgs false
set_option maxHeartbeats 4000000
set_option maxRecDepth 8000

theorem bare1_c (o : OpD) : FnP Tryd.prog 31 [.agg (rOp o)] (.bool o.read) := by
  refine FnP.mk Tryd.func31 rfl Tryd.ntmps31 rfl ?_
  intro B a w F hB hfr hS
  refine wp_seq ?_
  refine region_q hS
    (cF rfl (oX 101 (.conv .t .agg)) r1 trivial
    (cF rfl (oN .cb) trivial trivial
    Chain.nil))
    hB ?_
  clear hS; intro a w F hS
  replace hS := hS.sub
  obtain ⟨F, hS⟩ := hS.nm [2, 1] [101, 0] rfl rfl
  try dsimp only [RS.sub, SF.sub, CF.sub, csub, Anc.sub, List.map, zCF, rOp] at hS
  generalize Act.tau a 1 = v1 at hS
  refine then_n (wp_seq ?_)
  refine region_q hS
    (cF rfl (oF 0 101 .is) r1 r1
    (cF rfl (oL false 1 101 .adr) r1 r1
    (cF rfl (oN .t) r1 trivial
    Chain.nil)))
    hB ?_
  clear hS; intro a w F hS
  obtain ⟨F, hS⟩ := hS.nm [2] [0] rfl rfl
  try dsimp only [List.map, xD, xE, xT, xU, ldSF, rOp] at hS
  refine then_n (wp_ret ?_)
  refine ret_P hfr hS rfl (.tmp rfl .nil) (.one .refl)

theorem txBare_c (t : TxD) (hl : t.ops.length ≤ 1000000) : FnP Tryd.prog 16 [.agg (rTx t)] (.agg (rTx (bareT t))) := by
  refine FnP.mk Tryd.func16 rfl Tryd.ntmps16 rfl ?_
  intro B a w F hB hfr hS
  refine wp_seq ?_
  refine region_q hS
    (cF rfl (oX 101 (.conv .t .agg)) r1 trivial
    (cF rfl (oH [.int .i64 0, .bool false, .slice none 0 0] 102) trivial trivial
    Chain.nil))
    hB ?_
  clear hS; intro a w F hS
  replace hS := hS.sub
  obtain ⟨F, hS⟩ := hS.nm [2, 1] [102, 101, 0] rfl rfl
  try dsimp only [RS.sub, SF.sub, CF.sub, csub, Anc.sub, List.map, zCF, rTx, rInt] at hS
  generalize Act.tau a 1 = v1 at hS
  generalize Act.tau a 2 = v2 at hS
  refine then_n (wp_seq ?_)
  replace hS := hS.fresh 103 rfl
  refine region_q hS
    (cF rfl (oF 2 101 .is) r1 r1
    (cF rfl (oL false 1 101 .adr) r1 r1
    (cF rfl (o_callN 103 (cloneO_c t.ops hl) Tryd.func30 rfl (by kernel_rfl) (Args.one .t) pvOne1) r1 r1
    (cF rfl (o_callFN 5 103 (fun v => delFO_c _ t.ops hl (fun o => o.read) 31 Tryd.f31 [] Tryd.func31 rfl (by kernel_rfl) (fun o => bare1_c o)) Tryd.func29 rfl (by kernel_rfl) (ArgsF.two .same (.of (.conv .f (Ent.fnClos)))) pvOne1) r1 r1
    (cF rfl (oF 2 101 .is) r1 r1
    (cF rfl (o_storeS 101 .adr (by kernel_rfl) (by kernel_rfl)) r2 r1
    Chain.nil))))))
    hB ?_
  clear hS; intro a w F hS
  replace hS := hS.sub
  obtain ⟨F, hS⟩ := hS.nm [2, 1] [103, 102, 101, 0] rfl rfl
  try dsimp only [RS.sub, SF.sub, CF.sub, csub, Anc.sub, List.map, stCells, xL, xM, Nat.reduceAdd, xD, xE, xT, xU, xC, xN, zCF, ldSF, rTx, rInt] at hS
  generalize Act.tau a 6 = v6 at hS
  obtain ⟨F, hS⟩ := hS.giveCell 103 101 2 rfl rfl rfl rfl rfl
  try dsimp only [List.set] at hS
  obtain ⟨F, hS⟩ := hS.nm [2, 1] [102, 101, 0] rfl rfl
  refine then_n (wp_seq ?_)
  refine region_q hS
    (cF rfl (oL true 3 101 .is) r1 r1
    (cF rfl (oA 3 102 .is .t) r2 r1
    Chain.nil))
    hB ?_
  clear hS; intro a w F hS
  obtain ⟨F, hS⟩ := hS.nm [2] [102, 101, 0] rfl rfl
  try dsimp only [List.map, stCells, xL, xM, Nat.reduceAdd, xD, xE, xT, xU, xC, xN, zCF, ldSF, rTx, rInt] at hS
  refine then_n (wp_ret ?_)
  refine ret_P hfr hS rfl (.cell (n := 102) (ag := true) (sz := 3) rfl .is rfl (by kernel_rfl) (by kernel_rfl) (by kernel_rfl) .nil) (.one (.aggU rfl rfl))

end Go.Proofs.YtpjjmolibanakaaDoor
