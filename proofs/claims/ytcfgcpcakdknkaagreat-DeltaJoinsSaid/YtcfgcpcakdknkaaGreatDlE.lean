/- DeltaBack. No condition beyond those that each theorem says. -/
import Derived.Test.YtcfgcpcakdknkaaGreatDlD
import Derived.Test.YtcfgcpcakdknkaaGreatUb0
import Derived.Test.YtcfgcpcakdknkaaGreatDaX
namespace Go.Proofs.YtcfgcpcakdknkaaGreat
open Go Go.Gm
set_option linter.unusedVariables false
set_option linter.unusedSimpArgs false
set_option maxHeartbeats 4000000
set_option maxRecDepth 8000

theorem of_bad {g1 g2 : HistD} (h : ¬ (ofD g1 g2).2 = 0) : ofD g1 g2 = (noD, 5) := by
  unfold ofD at h ⊢
  by_cases h1 : RightH g1 ∧ RightH g2
  · rw [if_pos h1] at h; exact absurd rfl h
  · rw [if_neg h1]
theorem of_good {g1 g2 : HistD} (h : (ofD g1 g2).2 = 0) : RightH g1 ∧ RightH g2 := by
  unfold ofD at h
  by_cases h1 : RightH g1 ∧ RightH g2
  · exact h1
  · rw [if_neg h1] at h; simp at h

theorem deltaBack_c (g1 g2 : HistD) : FnP Tryz.prog 5 [.agg (rHist g1), .agg (rHist g2)] (.bool true) := by
  refine FnP.mk Tryz.func5 rfl Tryz.ntmps5 rfl ?_
  intro B a w F hB hfr hS
  refine wp_seq ?_
  refine region_q hS (qf (oX 101 (.conv .t .agg)) r1 qz (qf (oX 102 (.conv .t .agg)) r1 qz (qf (oN .cb) trivial qz qZ))) hB ?_
  clear hS; intro a w F hS
  replace hS := hS.sub
  obtain ⟨F, hS⟩ := hS.nm [4, 3, 2] [102, 101, 0] rfl rfl
  try dsimp only [RS.sub, SF.sub, CF.sub, csub, Anc.sub, List.map, zCF, rHist, rTx, rOrd, rVer, rInt, rOp, rDelta] at hS
  generalize Act.tau a 2 = v2 at hS
  generalize Act.tau a 3 = v3 at hS
  refine then_n (wp_seq (wp_seq ?_))
  refine region_z hS (qf (oP (lives14_c) Tryz.func22 Args.nil) trivial qz (qf (o_not .t) r1 qz qZ)) hB [14, 4, 3, 2] [102, 101, 0] rfl rfl ?_
  clear hS; intro a w F hS
  refine then_n ?_
  refine cond_b hS rfl (fun hc0 => ?_) (fun hc0 => ?_)
  ·skip
   simp at hc0
  refine wp_skip (then_n (wp_seq (wp_seq ?_)))
  refine region_z hS (qf (oL true 2 101 .is) r1 r1 (qf (oP (lightH_c g1) Tryz.func20 (Args.one (.pagg .t))) r1 qz (qf (o_not .t) r1 qz (qM rfl rfl (qk rfl (fun h => oL true 2 102 .is) r2 r1 (qk rfl (fun h => oP (lightH_c g2) Tryz.func20 (Args.one (.pagg (.w h)))) r2 qz (qk rfl (fun h => o_not (.w h)) r2 qz (qf (o_or2 .t .t) r2 qz qZ)))))))) hB [22, 4, 3, 2] [102, 101, 0] rfl rfl ?_
  clear hS; intro a w F hS
  refine then_n ?_
  refine cond_b hS rfl (fun hc1 => ?_) (fun hc1 => ?_)
  ·skip
   refine wp_seq ?_
   refine region_z hS (qf (oN .cb) trivial qz qZ) hB [4, 3, 2] [102, 101, 0] rfl rfl ?_
   clear hS; intro a w F hS
   refine then_n (wp_ret (then_r ?_))
   refine ret_P hfr hS rfl (.tmp rfl .nil) (.one (.bool (by first | rfl | (rw [inv_of hr.1 hr.2, of_ok hr.2 hr.1, empty_of hr.1 hr.2]; simp; done) | (simp; done) | decide)))
  have h9 := hc1
  simp at h9
  have hs1 : Small g1 := HLight.small h9.1
  have hs2 : Small g2 := HLight.small h9.2
  refine wp_skip (then_n (wp_seq ?_))
  refine region_q hS (qf (oL true 2 101 .is) r1 r1 (qf (oL true 2 102 .is) r1 r1 (qf (oP (ofD_c g1 g2 hs1 hs2) Tryz.func23 (Args.two (.pagg .t) (.pagg .t))) r2 qz (qM rfl rfl (qf (o_extract .t rfl) r1 qz (qf (o_extract .t rfl) r1 qz (qf (oH [.slice none 0 0, .slice none 0 0, .slice none 0 0, .slice none 0 0] 103) trivial qz (qf (oA 4 103 .same (.conv .t .agg)) r2 r1 (qN rfl rfl qZ))))))))) hB ?_
  clear hS; intro a w F hS
  replace hS := hS.sub
  obtain ⟨F, hS⟩ := hS.nm [6, 5, 4, 3, 2] [103, 102, 101, 0] rfl rfl
  try dsimp only [RS.sub, SF.sub, CF.sub, csub, Anc.sub, List.map, stCells, xL, xM, Nat.reduceAdd, xD, xE, xT, xU, xC, xN, zCF, ldSF, rHist, rTx, rOrd, rVer, rInt, rOp, rDelta] at hS
  generalize Act.tau a 5 = v5 at hS
  refine then_n (wp_seq (wp_seq ?_))
  refine region_z hS (qM rfl rfl (qf (o_neq .t qi) r1 qz qZ)) hB [30, 6, 5, 4, 3, 2] [103, 102, 101, 0] rfl rfl ?_
  clear hS; intro a w F hS
  refine then_n ?_
  refine cond_b hS rfl (fun hc2 => ?_) (fun hc2 => ?_)
  ·skip
   have hnr := of_bad (show ¬ (ofD g1 g2).2 = 0 by simpa using hc2)
   rw [hnr] at hS
   dsimp only at hS
   refine wp_seq ?_
   refine region_z hS (qM rfl rfl (qf (o_eql .t qi) r1 qz (qM rfl rfl (qk rfl (fun h => oL true 4 103 .is) r2 r1 (qk rfl (fun h => oP (emptyD_c noD (DLight.ok (by decide))) Tryz.func30 (Args.one (.pagg (.w h)))) r2 qz (qf (o_and2 .t .t) r2 qz (qN rfl rfl qZ))))))) hB [5, 4, 3, 2] [103, 102, 101, 0] rfl rfl ?_
   clear hS; intro a w F hS
   refine then_n (wp_ret (then_r ?_))
   refine ret_P hfr hS rfl (.tmp rfl .nil) (.one (.bool (by first | rfl | (rw [inv_of hr.1 hr.2, of_ok hr.2 hr.1, empty_of hr.1 hr.2]; simp; done) | (simp; done) | decide)))
  have hr := of_good (show (ofD g1 g2).2 = 0 by simpa using hc2)
  have hshd1 := of_shd hr.1 hr.2 hs1 hs2
  have hshd2 : SmallHD g2 (inv (ofD g1 g2).1) := by rw [inv_of hr.1 hr.2]; exact of_shd hr.2 hr.1 hs2 hs1
  have hap2 : applyD g2 (inv (ofD g1 g2).1) = (g1, 0) := by rw [inv_of hr.1 hr.2]; exact apply_of hr.2 hr.1
  refine wp_skip (then_n (wp_seq ?_))
  refine region_q hS (qf (oL true 2 101 .is) r1 r1 (qf (oL true 4 103 .is) r1 r1 (qf (oP (applyD_c g1 (ofD g1 g2).1 hshd1) Tryz.func16 (Args.two (.pagg .t) (.pagg .t))) r2 qz (qM rfl rfl (qf (o_extract .t rfl) r1 qz (qf (o_extract .t rfl) r1 qz (qf (oH [.slice none 0 0, .slice none 0 0] 104) trivial qz (qf (oA 2 104 .same (.conv .t .agg)) r2 r1 (qN rfl rfl qZ))))))))) hB ?_
  clear hS; intro a w F hS
  replace hS := hS.sub
  obtain ⟨F, hS⟩ := hS.nm [8, 7, 5, 4, 3, 2] [104, 103, 102, 101, 0] rfl rfl
  try dsimp only [RS.sub, SF.sub, CF.sub, csub, Anc.sub, List.map, stCells, xL, xM, Nat.reduceAdd, xD, xE, xT, xU, xC, xN, zCF, ldSF, rHist, rTx, rOrd, rVer, rInt, rOp, rDelta] at hS
  generalize Act.tau a 7 = v7 at hS
  rw [apply_of hr.1 hr.2] at hS
  dsimp only at hS
  refine then_n (wp_seq ?_)
  refine region_any (by kernel_rfl) hS (by kernel_rfl) (qf (oL true 2 102 .is) r1 r1 (qf (oL true 4 103 .is) r1 r1 (qf (oP (invert_c (ofD g1 g2).1 hshd1.2.1.ok) Tryz.func35 (Args.one (.pagg .t))) r1 qz (qf (oP (applyD_c g2 (inv (ofD g1 g2).1) hshd2) Tryz.func16 (Args.two (.pagg .t) .t)) r2 qz (qM rfl rfl (qf (o_extract .t rfl) r1 qz (qf (o_extract .t rfl) r1 qz (qf (oH [.slice none 0 0, .slice none 0 0] 105) trivial qz (qf (oA 2 105 .same (.conv .t .agg)) r2 r1 (qN rfl rfl qZ)))))))))) (by kernel_rfl) (by rw [hB]; kernel_rfl) ?_
  clear hS; intro a w F hS
  replace hS := hS.sub
  obtain ⟨F, hS⟩ := hS.nm [10, 9, 8, 7, 5, 4, 3, 2] [105, 104, 103, 102, 101, 0] rfl rfl
  try dsimp only [RS.sub, SF.sub, CF.sub, csub, Anc.sub, List.map, stCells, xL, xM, Nat.reduceAdd, xD, xE, xT, xU, xC, xN, zCF, ldSF, rHist, rTx, rOrd, rVer, rInt, rOp, rDelta] at hS
  generalize Act.tau a 9 = v9 at hS
  rw [hap2] at hS
  dsimp only at hS
  refine then_n (wp_seq ?_)
  refine region_q hS (qf (oL true 2 102 .is) r1 r1 (qf (oL true 2 101 .is) r1 r1 (qf (oP (ofD_c g2 g1 hs2 hs1) Tryz.func23 (Args.two (.pagg .t) (.pagg .t))) r2 qz (qM rfl rfl (qf (o_extract .t rfl) r1 qz (qf (o_extract .t rfl) r1 qz (qf (oH [.slice none 0 0, .slice none 0 0, .slice none 0 0, .slice none 0 0] 106) trivial qz (qf (oA 4 106 .same (.conv .t .agg)) r2 r1 (qN rfl rfl qZ))))))))) hB ?_
  clear hS; intro a w F hS
  replace hS := hS.sub
  obtain ⟨F, hS⟩ := hS.nm [12, 11, 10, 9, 8, 7, 5, 4, 3, 2] [106, 105, 104, 103, 102, 101, 0] rfl rfl
  try dsimp only [RS.sub, SF.sub, CF.sub, csub, Anc.sub, List.map, stCells, xL, xM, Nat.reduceAdd, xD, xE, xT, xU, xC, xN, zCF, ldSF, rHist, rTx, rOrd, rVer, rInt, rOp, rDelta] at hS
  generalize Act.tau a 11 = v11 at hS
  refine then_n (wp_seq ?_)
  refine region_any (by kernel_rfl) hS (by kernel_rfl) (qM rfl rfl (qf (o_eql .t qi) r1 qz (qM rfl rfl (qk rfl (fun h => oL true 2 104 .is) r2 r1 (qk rfl (fun h => oL true 2 102 .is) r2 r1 (qk rfl (fun h => oP (sameHist_c g2 g2) Tryz.func17 (Args.two (.pagg (.w h)) (.pagg (.w h)))) r3 qz (qf (o_and2 .t .t) r2 qz (qM rfl rfl (qm rfl rfl rfl rfl (qk rfl (fun h => o_eql (.w h) qi) r2 qz (qf (o_and2 .t .t) r2 qz (qM rfl rfl (qk rfl (fun h => oL true 2 105 .is) r2 r1 (qk rfl (fun h => oL true 2 101 .is) r2 r1 (qk rfl (fun h => oP (sameHist_c g1 g1) Tryz.func17 (Args.two (.pagg (.w h)) (.pagg (.w h)))) r3 qz (qf (o_and2 .t .t) r2 qz (qM rfl rfl (qm rfl rfl rfl rfl (qk rfl (fun h => o_eql (.w h) qi) r2 qz (qf (o_and2 .t .t) r2 qz (qM rfl rfl (qk rfl (fun h => oL true 4 106 .is) r2 r1 (qk rfl (fun h => oL true 4 103 .is) r2 r1 (qk rfl (fun h => oP (invert_c (ofD g1 g2).1 hshd1.2.1.ok) Tryz.func35 (Args.one (.pagg (.w h)))) r2 qz (qk rfl (fun h => oP (sameD_c (ofD g2 g1).1 (inv (ofD g1 g2).1)) Tryz.func37 (Args.two (.pagg (.w h)) (.w h))) r3 qz (qf (o_and2 .t .t) r2 qz (qM rfl rfl (qk rfl (fun h => oL true 4 103 .is) r2 r1 (qk rfl (fun h => oP (emptyD_c (ofD g1 g2).1 hshd1.2.1.ok) Tryz.func30 (Args.one (.pagg (.w h)))) r2 qz (qk rfl (fun h => oL true 2 101 .is) r2 r1 (qk rfl (fun h => oL true 2 102 .is) r2 r1 (qk rfl (fun h => oP (sameHist_c g1 g2) Tryz.func17 (Args.two (.pagg (.w h)) (.pagg (.w h)))) r3 qz (qk rfl (fun h => o_eqlB Tryz.underlying4 (.w h) (.w h)) r3 qz (qf (o_and2 .t .t) r2 qz (qN rfl rfl qZ))))))))))))))))))))))))))))))))))) (by kernel_rfl) (by rw [hB]; kernel_rfl) ?_
  clear hS; intro a w F hS
  obtain ⟨F, hS⟩ := hS.nm [4] [106, 105, 104, 103, 102, 101, 0] rfl rfl
  try dsimp only [List.map, xD, xE, xT, xU, ldSF, rHist, rTx, rOrd, rVer, rInt, rOp, rDelta] at hS
  refine then_n (wp_ret ?_)
  refine ret_P hfr hS rfl (.tmp rfl .nil) (.one (.bool (by first | rfl | (rw [inv_of hr.1 hr.2, of_ok hr.2 hr.1, empty_of hr.1 hr.2]; simp; done) | (simp; done) | decide)))

end Go.Proofs.YtcfgcpcakdknkaaGreat
