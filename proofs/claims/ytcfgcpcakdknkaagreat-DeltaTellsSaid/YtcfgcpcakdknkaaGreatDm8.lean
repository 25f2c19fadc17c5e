/- DeltaTells. No condition beyond those that each theorem says. -/
import Derived.Test.YtcfgcpcakdknkaaGreatDmY
import Derived.Test.YtcfgcpcakdknkaaGreatDmX
import Derived.Test.YtcfgcpcakdknkaaGreatDlD
import Derived.Test.YtcfgcpcakdknkaaGreatDaX
namespace Go.Proofs.YtcfgcpcakdknkaaGreat
open Go Go.Gm
set_option linter.unusedVariables false
set_option linter.unusedSimpArgs false
set_option maxHeartbeats 4000000
set_option maxRecDepth 8000
theorem deltaTells_c (g1 g2:HistD) (d e:DeltaD):FnP Tryz.prog 4 [.agg (rHist g1),.agg (rHist g2),.agg (rDelta d),.agg (rDelta e)] (.bool true):=by
 refine FnP.mk Tryz.func4 rfl Tryz.ntmps4 rfl ?_
 intro B a w F hB hfr hS
 refine wp_seq ?_
 refine region_q hS (qf (oX 101 (.conv .t .agg)) r1 qz (qf (oX 102 (.conv .t .agg)) r1 qz (qf (oX 103 (.conv .t .agg)) r1 qz (qf (oX 104 (.conv .t .agg)) r1 qz (qf (oN .cb) trivial qz qZ))))) hB ?_
 clear hS;intro a w F hS
 replace hS:=hS.sub
 obtain ⟨F,hS⟩:=hS.nm [8,7,6,5,4] [104,103,102,101,0] rfl rfl
 try dsimp only [RS.sub,SF.sub,CF.sub,csub,Anc.sub,List.map,zCF,rHist,rTx,rOrd,rVer,rInt,rOp,rDelta] at hS
 generalize Act.tau a 4=v4 at hS
 generalize Act.tau a 5=v5 at hS
 generalize Act.tau a 6=v6 at hS
 generalize Act.tau a 7=v7 at hS
 refine then_n (wp_seq (wp_seq ?_))
 refine region_z hS (qf (oL true 2 101 .is) r1 r1 (qf (oP (lightH_c g1) Tryz.func20 (Args.one (.pagg .t))) r1 qz (qf (o_not .t) r1 qz (qM rfl rfl (qk rfl (fun h=>oL true 2 102 .is) r2 r1 (qk rfl (fun h=>oP (lightH_c g2) Tryz.func20 (Args.one (.pagg (.w h)))) r2 qz (qk rfl (fun h=>o_not (.w h)) r2 qz (qf (o_or2 .t .t) r2 qz (qM rfl rfl (qk rfl (fun h=>oL true 4 103 .is) r2 r1 (qk rfl (fun h=>oP (lightD_c d) Tryz.func21 (Args.one (.pagg (.w h)))) r2 qz (qk rfl (fun h=>o_not (.w h)) r2 qz (qf (o_or2 .t .t) r2 qz (qM rfl rfl (qk rfl (fun h=>oL true 4 104 .is) r2 r1 (qk rfl (fun h=>oP (lightD_c e) Tryz.func21 (Args.one (.pagg (.w h)))) r2 qz (qk rfl (fun h=>o_not (.w h)) r2 qz (qf (o_or2 .t .t) r2 qz qZ)))))))))))))))))) hB [38,8,7,6,5,4] [104,103,102,101,0] rfl rfl ?_
 clear hS;intro a w F hS
 refine then_n ?_
 refine cond_b hS rfl (fun hc0=>?_) (fun hc0=>?_)
 ·skip
  refine wp_seq ?_
  refine region_z hS (qf (oP (lives14_c) Tryz.func22 Args.nil) trivial qz (qN rfl rfl qZ)) hB [8,7,6,5,4] [104,103,102,101,0] rfl rfl ?_
  clear hS;intro a w F hS
  refine then_n (wp_ret (then_r ?_))
  refine ret_P hfr hS rfl (.tmp rfl .nil) (.one (.bool (by first | rfl | simp)))
 have h9:=hc0
 simp at h9
 have hl1:=h9.1.1.1
 have hl2:=h9.1.1.2
 have hl3:=h9.1.2
 have hl4:=h9.2
 have hs1:Small g1:=HLight.small hl1
 have hs2:Small g2:=HLight.small hl2
 have hd1:SmallD d:=⟨HLight.small hl3.1,HLight.small hl3.2⟩
 have hd2:SmallD e:=⟨HLight.small hl4.1,HLight.small hl4.2⟩
 have ha1:=hl1.1
 have ha2:=hl1.2.1
 have ha3:=hl3.2.1
 have ha4:=hl3.2.2.1
 have ha5:=hl3.1.1
 dsimp only at ha3 ha4 ha5
 have hsd:SmallHD g1 d:=.of hs1 hd1 (by omega) (by omega)
 have hkl:d.was.length+d.now.length≤500:=by omega
 refine wp_skip (then_n (wp_seq ?_))
 refine region_q hS (qf (oL true 2 101 .is) r1 r1 (qf (oL true 2 102 .is) r1 r1 (qf (oP (ofD_c g1 g2 hs1 hs2) Tryz.func23 (Args.two (.pagg .t) (.pagg .t))) r2 qz (qM rfl rfl (qf (o_extract .t rfl) r1 qz (qf (o_extract .t rfl) r1 qz (qf (oH [.slice none 0 0,.slice none 0 0,.slice none 0 0,.slice none 0 0] 105) trivial qz (qf (oA 4 105 .same (.conv .t .agg)) r2 r1 (qN rfl rfl qZ))))))))) hB ?_
 clear hS;intro a w F hS
 replace hS:=hS.sub
 obtain ⟨F,hS⟩:=hS.nm [10,9,8,7,6,5,4] [105,104,103,102,101,0] rfl rfl
 try dsimp only [RS.sub,SF.sub,CF.sub,csub,Anc.sub,List.map,stCells,xL,xM,Nat.reduceAdd,xD,xE,xT,xU,xC,xN,zCF,ldSF,rHist,rTx,rOrd,rVer,rInt,rOp,rDelta] at hS
 generalize Act.tau a 9=v9 at hS
 refine then_n (wp_seq ?_)
 refine region_q hS (qf (oL true 2 101 .is) r1 r1 (qf (oL true 2 102 .is) r1 r1 (qf (oP (of14_c g1 g2 hs1 hs2) Tryz.func11 (Args.two (.pagg .t) (.pagg .t))) r2 qz (qM rfl rfl (qf (o_extract .t rfl) r1 qz (qf (o_extract .t rfl) r1 qz (qf (oH [.slice none 0 0,.slice none 0 0,.slice none 0 0,.slice none 0 0] 106) trivial qz (qf (oA 4 106 .same (.conv .t .agg)) r2 r1 (qN rfl rfl qZ))))))))) hB ?_
 clear hS;intro a w F hS
 replace hS:=hS.sub
 obtain ⟨F,hS⟩:=hS.nm [12,11,10,9,8,7,6,4] [106,105,104,103,102,101,0] rfl rfl
 try dsimp only [RS.sub,SF.sub,CF.sub,csub,Anc.sub,List.map,stCells,xL,xM,Nat.reduceAdd,xD,xE,xT,xU,xC,xN,zCF,ldSF,rHist,rTx,rOrd,rVer,rInt,rOp,rDelta] at hS
 generalize Act.tau a 11=v11 at hS
 refine then_n (wp_seq ?_)
 refine region_q hS (qf (oL true 2 101 .is) r1 r1 (qf (oL true 4 103 .is) r1 r1 (qf (oP (applyD_c g1 d hsd) Tryz.func16 (Args.two (.pagg .t) (.pagg .t))) r2 qz (qM rfl rfl (qf (o_extract .t rfl) r1 qz (qf (o_extract .t rfl) r1 qz (qf (oH [.slice none 0 0,.slice none 0 0] 107) trivial qz (qf (oA 2 107 .same (.conv .t .agg)) r2 r1 (qN rfl rfl qZ))))))))) hB ?_
 clear hS;intro a w F hS
 replace hS:=hS.sub
 obtain ⟨F,hS⟩:=hS.nm [14,13,12,11,10,9,8,7,6,4] [107,106,105,104,103,102,101,0] rfl rfl
 try dsimp only [RS.sub,SF.sub,CF.sub,csub,Anc.sub,List.map,stCells,xL,xM,Nat.reduceAdd,xD,xE,xT,xU,xC,xN,zCF,ldSF,rHist,rTx,rOrd,rVer,rInt,rOp,rDelta] at hS
 generalize Act.tau a 13=v13 at hS
 refine then_n (wp_seq ?_)
 refine region_q hS (qf (oL true 2 101 .is) r1 r1 (qf (oL true 4 103 .is) r1 r1 (qf (oP (apply14_c g1 d hsd) Tryz.func24 (Args.two (.pagg .t) (.pagg .t))) r2 qz (qM rfl rfl (qf (o_extract .t rfl) r1 qz (qf (o_extract .t rfl) r1 qz (qf (oH [.slice none 0 0,.slice none 0 0] 108) trivial qz (qf (oA 2 108 .same (.conv .t .agg)) r2 r1 (qN rfl rfl qZ))))))))) hB ?_
 clear hS;intro a w F hS
 replace hS:=hS.sub
 obtain ⟨F,hS⟩:=hS.nm [16,15,14,13,12,11,10,9,8,7,6] [108,107,106,105,104,103,102,101,0] rfl rfl
 try dsimp only [RS.sub,SF.sub,CF.sub,csub,Anc.sub,List.map,stCells,xL,xM,Nat.reduceAdd,xD,xE,xT,xU,xC,xN,zCF,ldSF,rHist,rTx,rOrd,rVer,rInt,rOp,rDelta] at hS
 generalize Act.tau a 15=v15 at hS
 refine then_n (wp_seq ?_)
 refine region_q hS (qf (oL true 4 103 .is) r1 r1 (qf (oL true 4 104 .is) r1 r1 (qf (oP (joinD_c d e hd1 hd2) Tryz.func25 (Args.two (.pagg .t) (.pagg .t))) r2 qz (qM rfl rfl (qf (o_extract .t rfl) r1 qz (qf (o_extract .t rfl) r1 qz (qf (oH [.slice none 0 0,.slice none 0 0,.slice none 0 0,.slice none 0 0] 109) trivial qz (qf (oA 4 109 .same (.conv .t .agg)) r2 r1 (qN rfl rfl qZ))))))))) hB ?_
 clear hS;intro a w F hS
 replace hS:=hS.sub
 obtain ⟨F,hS⟩:=hS.nm [18,17,16,15,14,13,12,11,10,9,8,7,6] [109,108,107,106,105,104,103,102,101,0] rfl rfl
 try dsimp only [RS.sub,SF.sub,CF.sub,csub,Anc.sub,List.map,stCells,xL,xM,Nat.reduceAdd,xD,xE,xT,xU,xC,xN,zCF,ldSF,rHist,rTx,rOrd,rVer,rInt,rOp,rDelta] at hS
 generalize Act.tau a 17=v17 at hS
 refine then_n (wp_seq ?_)
 refine region_q hS (qf (oL true 4 103 .is) r1 r1 (qf (oL true 4 104 .is) r1 r1 (qf (oP (join14_c d e hd1 hd2) Tryz.func26 (Args.two (.pagg .t) (.pagg .t))) r2 qz (qM rfl rfl (qf (o_extract .t rfl) r1 qz (qf (o_extract .t rfl) r1 qz (qf (oH [.slice none 0 0,.slice none 0 0,.slice none 0 0,.slice none 0 0] 110) trivial qz (qf (oA 4 110 .same (.conv .t .agg)) r2 r1 (qN rfl rfl qZ))))))))) hB ?_
 clear hS;intro a w F hS
 replace hS:=hS.sub
 obtain ⟨F,hS⟩:=hS.nm [20,19,18,17,16,15,14,13,12,11,10,9,8,7,6] [110,109,108,107,106,105,104,103,102,101,0] rfl rfl
 try dsimp only [RS.sub,SF.sub,CF.sub,csub,Anc.sub,List.map,stCells,xL,xM,Nat.reduceAdd,xD,xE,xT,xU,xC,xN,zCF,ldSF,rHist,rTx,rOrd,rVer,rInt,rOp,rDelta] at hS
 generalize Act.tau a 19=v19 at hS
 refine then_n (wp_seq (wp_seq ?_))
 refine region_z hS (qM rfl rfl (qM rfl rfl (qf (o_neq .t .t) r2 qz (qM rfl rfl (qk rfl (fun h=>oL true 4 105 .is) r2 r1 (qk rfl (fun h=>oL true 4 106 .is) r2 r1 (qk rfl (fun h=>oP (sameDelta_c _ _) Tryz.func27 (Args.two (.pagg (.w h)) (.pagg (.w h)))) r3 qz (qk rfl (fun h=>o_not (.w h)) r2 qz (qf (o_or2 .t .t) r2 qz (qM rfl rfl (qm rfl rfl rfl rfl (qm rfl rfl rfl rfl (qk rfl (fun h=>o_neq (.w h) (.w h)) r3 qz (qf (o_or2 .t .t) r2 qz (qM rfl rfl (qk rfl (fun h=>oL true 2 107 .is) r2 r1 (qk rfl (fun h=>oL true 2 108 .is) r2 r1 (qk rfl (fun h=>oP (sameHist_c _ _) Tryz.func17 (Args.two (.pagg (.w h)) (.pagg (.w h)))) r3 qz (qk rfl (fun h=>o_not (.w h)) r2 qz (qf (o_or2 .t .t) r2 qz (qM rfl rfl (qm rfl rfl rfl rfl (qm rfl rfl rfl rfl (qk rfl (fun h=>o_neq (.w h) (.w h)) r3 qz (qf (o_or2 .t .t) r2 qz (qM rfl rfl (qk rfl (fun h=>oL true 4 109 .is) r2 r1 (qk rfl (fun h=>oL true 4 110 .is) r2 r1 (qk rfl (fun h=>oP (sameDelta_c _ _) Tryz.func27 (Args.two (.pagg (.w h)) (.pagg (.w h)))) r3 qz (qk rfl (fun h=>o_not (.w h)) r2 qz (qf (o_or2 .t .t) r2 qz qZ))))))))))))))))))))))))))))))) hB [106,8,7,6] [110,109,108,107,106,105,104,103,102,101,0] rfl rfl ?_
 clear hS;intro a w F hS
 refine then_n ?_
 refine cond_b hS rfl (fun hc1=>?_) (fun hc1=>?_)
 ·skip
  simp at hc1
 refine wp_skip (then_n (wp_seq ?_))
 refine region_any (by kernel_rfl) hS (by kernel_rfl) (qf (oL true 4 103 .is) r1 r1 (qf (oP (rightD_c d hd1.ok) Tryz.func28 (Args.one (.pagg .t))) r1 qz (qf (oL true 4 103 .is) r1 r1 (qf (oP (right14_c d) Tryz.func29 (Args.one (.pagg .t))) r1 qz (qf (o_eqlB Tryz.underlying4 .t .t) r2 qz (qM rfl rfl (qk rfl (fun h=>oL true 4 103 .is) r2 r1 (qk rfl (fun h=>oP (emptyD_c d hd1.ok) Tryz.func30 (Args.one (.pagg (.w h)))) r2 qz (qk rfl (fun h=>oL true 4 103 .is) r2 r1 (qk rfl (fun h=>oP (empty14_c d) Tryz.func31 (Args.one (.pagg (.w h)))) r2 qz (qk rfl (fun h=>o_eqlB Tryz.underlying4 (.w h) (.w h)) r3 qz (qf (o_and2 .t .t) r2 qz (qM rfl rfl (qk rfl (fun h=>oL true 4 103 .is) r2 r1 (qk rfl (fun h=>oP (keysD_c d hd1 hkl) Tryz.func33 (Args.one (.pagg (.w h)))) r2 qz (qk rfl (fun h=>oL true 4 103 .is) r2 r1 (qk rfl (fun h=>oP (keys14_c d hd1 hkl) Tryz.func34 (Args.one (.pagg (.w h)))) r2 qz (qk rfl (fun h=>oP (sameInts_c _ _) Tryz.func32 (Args.two (.w h) (.w h))) r3 qz (qf (o_and2 .t .t) r2 qz (qM rfl rfl (qk rfl (fun h=>oL true 4 103 .is) r2 r1 (qk rfl (fun h=>oP (invert_c d hd1.ok) Tryz.func35 (Args.one (.pagg (.w h)))) r2 qz (qk rfl (fun h=>oL true 4 103 .is) r2 r1 (qk rfl (fun h=>oP (refInvert_c d) Tryz.func36 (Args.one (.pagg (.w h)))) r2 qz (qk rfl (fun h=>oP (sameDelta_c _ _) Tryz.func27 (Args.two (.w h) (.w h))) r3 qz (qf (o_and2 .t .t) r2 qz (qM rfl rfl (qk rfl (fun h=>oL true 4 103 .is) r2 r1 (qk rfl (fun h=>oL true 4 104 .is) r2 r1 (qk rfl (fun h=>oP (sameD_c d e) Tryz.func37 (Args.two (.pagg (.w h)) (.pagg (.w h)))) r3 qz (qk rfl (fun h=>oL true 4 103 .is) r2 r1 (qk rfl (fun h=>oL true 4 104 .is) r2 r1 (qk rfl (fun h=>oP (sameDelta_c d e) Tryz.func27 (Args.two (.pagg (.w h)) (.pagg (.w h)))) r3 qz (qk rfl (fun h=>o_eqlB Tryz.underlying4 (.w h) (.w h)) r3 qz (qf (o_and2 .t .t) r2 qz (qM rfl rfl (qk rfl (fun h=>oP (lives14_c) Tryz.func22 Args.nil) r1 qz (qf (o_and2 .t .t) r2 qz (qN rfl rfl qZ))))))))))))))))))))))))))))))))))))))) (by kernel_rfl) (by rw [hB];kernel_rfl) ?_
 clear hS;intro a w F hS
 obtain ⟨F,hS⟩:=hS.nm [8] [110,109,108,107,106,105,104,103,102,101,0] rfl rfl
 try dsimp only [List.map,xD,xE,xT,xU,ldSF,rHist,rTx,rOrd,rVer,rInt,rOp,rDelta] at hS
 refine then_n (wp_ret ?_)
 refine ret_P hfr hS rfl (.tmp rfl .nil) (.one (.bool (by first | rfl | simp)))
end Go.Proofs.YtcfgcpcakdknkaaGreat
