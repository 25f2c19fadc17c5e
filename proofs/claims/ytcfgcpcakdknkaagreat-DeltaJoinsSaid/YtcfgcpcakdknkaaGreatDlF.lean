/- DeltaJoins. No condition beyond those that each theorem says. -/
import Derived.Test.YtcfgcpcakdknkaaGreatDlE
namespace Go.Proofs.YtcfgcpcakdknkaaGreat
open Go Go.Gm
set_option linter.unusedVariables false
set_option linter.unusedSimpArgs false
set_option maxHeartbeats 4000000
set_option maxRecDepth 8000

theorem deltaJoins_c (g1 g2 g3 : HistD) : FnP Tryz.prog 6 [.agg (rHist g1), .agg (rHist g2), .agg (rHist g3)] (.bool true) := by
  refine FnP.mk Tryz.func6 rfl Tryz.ntmps6 rfl ?_
  intro B a w F hB hfr hS
  refine wp_seq ?_
  refine region_q hS (qf (oX 101 (.conv .t .agg)) r1 qz (qf (oX 102 (.conv .t .agg)) r1 qz (qf (oX 103 (.conv .t .agg)) r1 qz (qf (oN .cb) trivial qz qZ)))) hB ?_
  clear hS; intro a w F hS
  replace hS := hS.sub
  obtain ⟨F, hS⟩ := hS.nm [6, 5, 4, 3] [103, 102, 101, 0] rfl rfl
  try dsimp only [RS.sub, SF.sub, CF.sub, csub, Anc.sub, List.map, zCF, rHist, rTx, rOrd, rVer, rInt, rOp, rDelta] at hS
  generalize Act.tau a 3 = v3 at hS
  generalize Act.tau a 4 = v4 at hS
  generalize Act.tau a 5 = v5 at hS
  refine then_n (wp_seq (wp_seq ?_))
  refine region_z hS (qf (oP (lives14_c) Tryz.func22 Args.nil) trivial qz (qf (o_not .t) r1 qz qZ)) hB [16, 6, 5, 4, 3] [103, 102, 101, 0] rfl rfl ?_
  clear hS; intro a w F hS
  refine then_n ?_
  refine cond_b hS rfl (fun hc0 => ?_) (fun hc0 => ?_)
  ·skip
   simp at hc0
  refine wp_skip (then_n (wp_seq (wp_seq ?_)))
  refine region_z hS (qf (oL true 2 101 .is) r1 r1 (qf (oP (lightH_c g1) Tryz.func20 (Args.one (.pagg .t))) r1 qz (qf (o_not .t) r1 qz (qM rfl rfl (qk rfl (fun h => oL true 2 102 .is) r2 r1 (qk rfl (fun h => oP (lightH_c g2) Tryz.func20 (Args.one (.pagg (.w h)))) r2 qz (qk rfl (fun h => o_not (.w h)) r2 qz (qf (o_or2 .t .t) r2 qz (qM rfl rfl (qk rfl (fun h => oL true 2 103 .is) r2 r1 (qk rfl (fun h => oP (lightH_c g3) Tryz.func20 (Args.one (.pagg (.w h)))) r2 qz (qk rfl (fun h => o_not (.w h)) r2 qz (qf (o_or2 .t .t) r2 qz qZ))))))))))))) hB [29, 6, 5, 4, 3] [103, 102, 101, 0] rfl rfl ?_
  clear hS; intro a w F hS
  refine then_n ?_
  refine cond_b hS rfl (fun hc1 => ?_) (fun hc1 => ?_)
  ·skip
   refine wp_seq ?_
   refine region_z hS (qf (oN .cb) trivial qz qZ) hB [6, 5, 4, 3] [103, 102, 101, 0] rfl rfl ?_
   clear hS; intro a w F hS
   refine then_n (wp_ret (then_r ?_))
   refine ret_P hfr hS rfl (.tmp rfl .nil) (.one (.bool (by first | rfl | (rw [hjo, of_ok hr1.1 hr2.2]; simp; done) | (simp; done))))
  have h9 := hc1
  simp at h9
  have hs1 : Small g1 := HLight.small h9.1.1
  have hs2 : Small g2 := HLight.small h9.1.2
  have hs3 : Small g3 := HLight.small h9.2
  refine wp_skip (then_n (wp_seq ?_))
  refine region_q hS (qf (oL true 2 101 .is) r1 r1 (qf (oL true 2 102 .is) r1 r1 (qf (oP (ofD_c g1 g2 hs1 hs2) Tryz.func23 (Args.two (.pagg .t) (.pagg .t))) r2 qz (qM rfl rfl (qf (o_extract .t rfl) r1 qz (qf (o_extract .t rfl) r1 qz (qf (oH [.slice none 0 0, .slice none 0 0, .slice none 0 0, .slice none 0 0] 104) trivial qz (qf (oA 4 104 .same (.conv .t .agg)) r2 r1 (qN rfl rfl qZ))))))))) hB ?_
  clear hS; intro a w F hS
  replace hS := hS.sub
  obtain ⟨F, hS⟩ := hS.nm [8, 7, 6, 5, 4, 3] [104, 103, 102, 101, 0] rfl rfl
  try dsimp only [RS.sub, SF.sub, CF.sub, csub, Anc.sub, List.map, stCells, xL, xM, Nat.reduceAdd, xD, xE, xT, xU, xC, xN, zCF, ldSF, rHist, rTx, rOrd, rVer, rInt, rOp, rDelta] at hS
  generalize Act.tau a 7 = v7 at hS
  refine then_n (wp_seq ?_)
  refine region_q hS (qf (oL true 2 102 .is) r1 r1 (qf (oL true 2 103 .is) r1 r1 (qf (oP (ofD_c g2 g3 hs2 hs3) Tryz.func23 (Args.two (.pagg .t) (.pagg .t))) r2 qz (qM rfl rfl (qf (o_extract .t rfl) r1 qz (qf (o_extract .t rfl) r1 qz (qf (oH [.slice none 0 0, .slice none 0 0, .slice none 0 0, .slice none 0 0] 105) trivial qz (qf (oA 4 105 .same (.conv .t .agg)) r2 r1 (qN rfl rfl qZ))))))))) hB ?_
  clear hS; intro a w F hS
  replace hS := hS.sub
  obtain ⟨F, hS⟩ := hS.nm [10, 9, 8, 7, 6, 5, 3] [105, 104, 103, 102, 101, 0] rfl rfl
  try dsimp only [RS.sub, SF.sub, CF.sub, csub, Anc.sub, List.map, stCells, xL, xM, Nat.reduceAdd, xD, xE, xT, xU, xC, xN, zCF, ldSF, rHist, rTx, rOrd, rVer, rInt, rOp, rDelta] at hS
  generalize Act.tau a 9 = v9 at hS
  refine then_n (wp_seq ?_)
  refine region_q hS (qf (oL true 2 101 .is) r1 r1 (qf (oL true 2 103 .is) r1 r1 (qf (oP (ofD_c g1 g3 hs1 hs3) Tryz.func23 (Args.two (.pagg .t) (.pagg .t))) r2 qz (qM rfl rfl (qf (o_extract .t rfl) r1 qz (qf (o_extract .t rfl) r1 qz (qf (oH [.slice none 0 0, .slice none 0 0, .slice none 0 0, .slice none 0 0] 106) trivial qz (qf (oA 4 106 .same (.conv .t .agg)) r2 r1 (qN rfl rfl qZ))))))))) hB ?_
  clear hS; intro a w F hS
  replace hS := hS.sub
  obtain ⟨F, hS⟩ := hS.nm [12, 11, 10, 9, 8, 7, 6] [106, 105, 104, 103, 102, 101, 0] rfl rfl
  try dsimp only [RS.sub, SF.sub, CF.sub, csub, Anc.sub, List.map, stCells, xL, xM, Nat.reduceAdd, xD, xE, xT, xU, xC, xN, zCF, ldSF, rHist, rTx, rOrd, rVer, rInt, rOp, rDelta] at hS
  generalize Act.tau a 11 = v11 at hS
  refine then_n (wp_seq (wp_seq ?_))
  refine region_z hS (qM rfl rfl (qf (o_neq .t qi) r1 qz (qM rfl rfl (qm rfl rfl rfl rfl (qk rfl (fun h => o_neq (.w h) qi) r2 qz (qf (o_or2 .t .t) r2 qz qZ)))))) hB [53, 12, 11, 9, 7, 6] [106, 105, 104, 103, 102, 101, 0] rfl rfl ?_
  clear hS; intro a w F hS
  refine then_n ?_
  refine cond_b hS rfl (fun hc2 => ?_) (fun hc2 => ?_)
  ·skip
   refine wp_seq ?_
   refine region_z hS (qf (oN .cb) trivial qz qZ) hB [12, 11, 9, 7, 6] [106, 105, 104, 103, 102, 101, 0] rfl rfl ?_
   clear hS; intro a w F hS
   refine then_n (wp_ret (then_r ?_))
   refine ret_P hfr hS rfl (.tmp rfl .nil) (.one (.bool (by first | rfl | (rw [hjo, of_ok hr1.1 hr2.2]; simp; done) | (simp; done))))
  have h8 := hc2
  simp at h8
  have hr1 := of_good h8.1
  have hr2 := of_good h8.2
  have hjo := joins hr1.1 hr1.2 hr2.2
  refine wp_skip (then_n (wp_seq ?_))
  refine region_q hS (qf (oL true 4 104 .is) r1 r1 (qf (oL true 4 105 .is) r1 r1 (qf (oP (joinD_c (ofD g1 g2).1 (ofD g2 g3).1 (of_shd hr1.1 hr1.2 hs1 hs2).2.1 (of_shd hr2.1 hr2.2 hs2 hs3).2.1) Tryz.func25 (Args.two (.pagg .t) (.pagg .t))) r2 qz (qM rfl rfl (qf (o_extract .t rfl) r1 qz (qf (o_extract .t rfl) r1 qz (qf (oH [.slice none 0 0, .slice none 0 0, .slice none 0 0, .slice none 0 0] 107) trivial qz (qf (oA 4 107 .same (.conv .t .agg)) r2 r1 (qN rfl rfl qZ))))))))) hB ?_
  clear hS; intro a w F hS
  replace hS := hS.sub
  obtain ⟨F, hS⟩ := hS.nm [14, 13, 12, 11, 6] [107, 106, 105, 104, 103, 102, 101, 0] rfl rfl
  try dsimp only [RS.sub, SF.sub, CF.sub, csub, Anc.sub, List.map, stCells, xL, xM, Nat.reduceAdd, xD, xE, xT, xU, xC, xN, zCF, ldSF, rHist, rTx, rOrd, rVer, rInt, rOp, rDelta] at hS
  generalize Act.tau a 13 = v13 at hS
  refine then_n (wp_seq ?_)
  refine region_z hS (qM rfl rfl (qf (o_eql .t qi) r1 qz (qM rfl rfl (qm rfl rfl rfl rfl (qk rfl (fun h => o_eql (.w h) qi) r2 qz (qf (o_and2 .t .t) r2 qz (qM rfl rfl (qk rfl (fun h => oL true 4 107 .is) r2 r1 (qk rfl (fun h => oL true 4 106 .is) r2 r1 (qk rfl (fun h => oP (sameD_c (joinD (ofD g1 g2).1 (ofD g2 g3).1).1 (ofD g1 g3).1) Tryz.func37 (Args.two (.pagg (.w h)) (.pagg (.w h)))) r3 qz (qf (o_and2 .t .t) r2 qz (qN rfl rfl qZ)))))))))))) hB [6] [107, 106, 105, 104, 103, 102, 101, 0] rfl rfl ?_
  clear hS; intro a w F hS
  refine then_n (wp_ret ?_)
  refine ret_P hfr hS rfl (.tmp rfl .nil) (.one (.bool (by first | rfl | (rw [hjo, of_ok hr1.1 hr2.2]; simp; done) | (simp; done))))

end Go.Proofs.YtcfgcpcakdknkaaGreat
