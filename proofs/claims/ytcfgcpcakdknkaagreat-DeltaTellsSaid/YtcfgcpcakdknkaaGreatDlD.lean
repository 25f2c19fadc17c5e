/- Deltas: lives. No condition beyond those that each theorem says. -/
import Derived.Test.YtcfgcpcakdknkaaGreatDlA
import Derived.Test.YtcfgcpcakdknkaaGreatDlC
import Derived.Test.YtcfgcpcakdknkaaGreatDl6
import Derived.Test.YtcfgcpcakdknkaaGreatEdY
import Derived.Test.YtcfgcpcakdknkaaGreatDaX
namespace Go.Proofs.YtcfgcpcakdknkaaGreat
open Go Go.Gm
set_option linter.unusedVariables false
set_option linter.unusedSimpArgs false
set_option maxHeartbeats 4000000
set_option maxRecDepth 8000
instance (d:DeltaD):Decidable (SmallD d):=by unfold SmallD;exact inferInstance
theorem sort_one {α:Type} {κ:α→Int} (x:α):sortZ κ [x] = [x]:=(sortZ_eq (List.Perm.refl _) (List.pairwise_singleton _ _)).symm
theorem sort_no {α:Type} {κ:α→Int} : sortZ κ ([]:List α) = []:=(sortZ_eq (List.Perm.refl _) List.Pairwise.nil).symm
theorem la_right:RightH (⟨[(⟨1,true,[⟨false,5,0,0⟩]⟩:TxD)],[⟨5,[1]⟩]⟩:HistD):=by decide +kernel
theorem lz_right:RightH (⟨[],[]⟩:HistD):=by decide +kernel
theorem lx1:ofD (⟨[],[]⟩:HistD) (⟨[(⟨1,true,[⟨false,5,0,0⟩]⟩:TxD)],[⟨5,[1]⟩]⟩:HistD)=((⟨[],[(⟨1,true,[⟨false,5,0,0⟩]⟩:TxD)],[],[⟨5,[1]⟩]⟩:DeltaD),0):=by decide +kernel
theorem lx1i:ofD (⟨[(⟨1,true,[⟨false,5,0,0⟩]⟩:TxD)],[⟨5,[1]⟩]⟩:HistD) (⟨[],[]⟩:HistD)=((⟨[(⟨1,true,[⟨false,5,0,0⟩]⟩:TxD)],[],[⟨5,[1]⟩],[]⟩:DeltaD),0):=by decide +kernel
theorem lx2:applyD (⟨[],[]⟩:HistD) (⟨[],[(⟨1,true,[⟨false,5,0,0⟩]⟩:TxD)],[],[⟨5,[1]⟩]⟩:DeltaD)=((⟨[(⟨1,true,[⟨false,5,0,0⟩]⟩:TxD)],[⟨5,[1]⟩]⟩:HistD),0):=by have h:=apply_of lz_right la_right;rwa [lx1] at h
theorem lx3:applyD (⟨[(⟨1,true,[⟨false,5,0,0⟩]⟩:TxD)],[⟨5,[1]⟩]⟩:HistD) (⟨[],[(⟨1,true,[⟨false,5,0,0⟩]⟩:TxD)],[],[⟨5,[1]⟩]⟩:DeltaD)=((⟨[],[]⟩:HistD),17):=by decide +kernel
theorem lx4:applyD (⟨[(⟨1,true,[⟨false,5,0,0⟩]⟩:TxD)],[⟨5,[1]⟩]⟩:HistD) (inv (⟨[],[(⟨1,true,[⟨false,5,0,0⟩]⟩:TxD)],[],[⟨5,[1]⟩]⟩:DeltaD))=((⟨[],[]⟩:HistD),0):=by have h:=apply_of la_right lz_right;rwa [lx1i] at h
theorem lx5:ofD (⟨[(⟨1,true,[⟨false,5,0,0⟩]⟩:TxD)],[⟨5,[1]⟩]⟩:HistD) (⟨[(⟨1,true,[⟨false,5,0,0⟩]⟩:TxD)],[]⟩:HistD)=((⟨[],[],[],[]⟩:DeltaD),5):=by decide +kernel
theorem lx6:joinD (⟨[],[(⟨1,true,[⟨false,5,0,0⟩]⟩:TxD)],[],[⟨5,[1]⟩]⟩:DeltaD) (inv (⟨[],[(⟨1,true,[⟨false,5,0,0⟩]⟩:TxD)],[],[⟨5,[1]⟩]⟩:DeltaD))=((⟨[],[],[],[]⟩:DeltaD),0):=by decide +kernel
theorem lx7:joinD (⟨[],[(⟨1,true,[⟨false,5,0,0⟩]⟩:TxD)],[],[⟨5,[1]⟩]⟩:DeltaD) (⟨[],[(⟨1,true,[⟨false,5,0,0⟩]⟩:TxD)],[],[⟨5,[1]⟩]⟩:DeltaD)=((⟨[],[],[],[]⟩:DeltaD),17):=by decide +kernel
theorem lx8t:turnD (⟨[],[]⟩:HistD) (⟨[],[(⟨1,true,[⟨false,5,0,0⟩]⟩:TxD)],[],[]⟩:DeltaD)=(⟨[(⟨1,true,[⟨false,5,0,0⟩]⟩:TxD)],[]⟩:HistD):=by
 unfold turnD turnK
 dsimp only [List.filter_nil,xN]
 rw [sort_one,sort_no]
theorem lx8:applyD (⟨[],[]⟩:HistD) (⟨[],[(⟨1,true,[⟨false,5,0,0⟩]⟩:TxD)],[],[]⟩:DeltaD)=((⟨[],[]⟩:HistD),8):=by
 unfold applyD
 rw [if_neg (by decide +kernel),if_neg (by decide +kernel),lx8t,if_neg (by decide +kernel)];rfl
theorem lx9:joinD (⟨[],[(⟨1,true,[⟨false,5,0,0⟩]⟩:TxD)],[],[⟨5,[1]⟩]⟩:DeltaD) (⟨[(⟨1,true,[⟨false,5,0,0⟩]⟩:TxD),(⟨1,true,[⟨false,5,0,0⟩]⟩:TxD)],[],[],[]⟩:DeltaD)=((⟨[],[],[],[]⟩:DeltaD),5):=by decide +kernel
theorem lxs2:SmallHD (⟨[],[]⟩:HistD) (⟨[],[(⟨1,true,[⟨false,5,0,0⟩]⟩:TxD)],[],[⟨5,[1]⟩]⟩:DeltaD):=.of (by decide) (by decide) (by decide) (by decide)
theorem lxs3:SmallHD (⟨[(⟨1,true,[⟨false,5,0,0⟩]⟩:TxD)],[⟨5,[1]⟩]⟩:HistD) (⟨[],[(⟨1,true,[⟨false,5,0,0⟩]⟩:TxD)],[],[⟨5,[1]⟩]⟩:DeltaD):=.of (by decide) (by decide) (by decide) (by decide)
theorem lxs4:SmallHD (⟨[(⟨1,true,[⟨false,5,0,0⟩]⟩:TxD)],[⟨5,[1]⟩]⟩:HistD) (inv (⟨[],[(⟨1,true,[⟨false,5,0,0⟩]⟩:TxD)],[],[⟨5,[1]⟩]⟩:DeltaD)):=.of (by decide) (by decide) (by decide) (by decide)
theorem lxs8:SmallHD (⟨[],[]⟩:HistD) (⟨[],[(⟨1,true,[⟨false,5,0,0⟩]⟩:TxD)],[],[]⟩:DeltaD):=.of (by decide) (by decide) (by decide) (by decide)
theorem lives14_c  : FnP Tryz.prog 22 [] (.bool true):=by
 refine FnP.mk Tryz.func22 rfl Tryz.ntmps22 rfl ?_
 intro B a w F hB hfr hS
 refine wp_seq ?_
 refine region_z hS (qf (oN .cb) trivial qz qZ) hB [0] [0] rfl rfl ?_
 clear hS;intro a w F hS
 refine then_n (wp_seq ?_)
 refine region_q hS (qf (oB [(1,_)] [.bool false,.int .i64 0,.int .i64 0,.int .i64 0] [(0,1),(1,1),(2,1),(3,1)] (.one rfl qi one_int (by kernel_rfl) .nil)) trivial qz (qf (o_buildSliceE (sz:=4) (zs:=[.bool false,.int .i64 0,.int .i64 0,.int .i64 0]) (r:=[(0,.tmp 22)]) (l:=[_,_,_,_]) Tryz.underlying32 (by kernel_rfl) (by kernel_rfl) (by kernel_rfl) (by kernel_rfl) rfl rfl (.agg rfl .t (by kernel_rfl) (by kernel_rfl) .nil) rfl) r1 qz (qf (oB [(0,_),(1,_),(2,.tmp 23)] [.int .i64 0,.bool false,.slice none 0 0] [(0,1),(1,1),(2,1)] (.one rfl qi one_int (by kernel_rfl) (.one rfl .cb one_bool (by kernel_rfl) (.one rfl .t one_arr (by kernel_rfl) .nil)))) r1 qz (qf (oH [.int .i64 0,.bool false,.slice none 0 0] 101) trivial qz (qf (oA 3 101 .same .t) r2 r1 qZ))))) hB ?_
 clear hS;intro a w F hS
 replace hS:=hS.sub
 obtain ⟨F,hS⟩:=hS.nm [1,0] [101,0] rfl rfl
 try dsimp only [RS.sub,SF.sub,CF.sub,csub,Anc.sub,List.map,stCells,xL,xM,Nat.reduceAdd,xD,xE,xT,xU,xC,xN,zCF,rHist,rTx,rOrd,rVer,rInt,rOp,rDelta] at hS
 generalize Act.tau a 1=v1 at hS
 replace hS:=hS.turn 101 rfl (r':=RS.pt (.val v1) 34 [.pv (.int .i64 1),.pv (.bool true),.pv (.sl rOp ([⟨false,5,0,0⟩]:List OpD))]) (ptLe rfl rfl ⟨PVLe.refl,PVLe.refl,PVLe.arrSl (R:=rOp) (l':=([⟨false,5,0,0⟩]:List OpD)) rfl PVsLe.refl,trivial⟩)
 obtain ⟨F,hS⟩:=hS.nm [1,0] [101,0] rfl rfl
 refine then_n (wp_seq ?_)
 refine region_q hS (qf (oL true 3 101 .is) r1 r1 (qf (o_buildSliceE (sz:=3) (zs:=[.int .i64 0,.bool false,.slice none 0 0]) (r:=[(0,.tmp 25)]) (l:=[_,_,_]) Tryz.underlying27 (by kernel_rfl) (by kernel_rfl) (by kernel_rfl) (by kernel_rfl) rfl rfl (.agg rfl .t (by kernel_rfl) (by kernel_rfl) .nil) rfl) r1 qz (qf (o_buildSliceE (sz:=1) (zs:=[.int .i64 0]) (r:=[(0,_)]) (l:=[_]) Tryz.underlying35 (by kernel_rfl) (by kernel_rfl) (by kernel_rfl) (by kernel_rfl) rfl rfl (.one rfl qi one_int (by kernel_rfl) .nil) rfl) trivial qz (qf (oB [(0,_),(1,.tmp 27)] [.int .i64 0,.slice none 0 0] [(0,1),(1,1)] (.one rfl qi one_int (by kernel_rfl) (.one rfl .t one_arr (by kernel_rfl) .nil))) r1 qz (qf (o_buildSliceE (sz:=2) (zs:=[.int .i64 0,.slice none 0 0]) (r:=[(0,.tmp 28)]) (l:=[_,_]) Tryz.underlying28 (by kernel_rfl) (by kernel_rfl) (by kernel_rfl) (by kernel_rfl) rfl rfl (.agg rfl .t (by kernel_rfl) (by kernel_rfl) .nil) rfl) r1 qz (qf (oB [(0,.tmp 26),(1,.tmp 29)] [.slice none 0 0,.slice none 0 0] [(0,1),(1,1)] (.one rfl .t one_arr (by kernel_rfl) (.one rfl .t one_arr (by kernel_rfl) .nil))) r2 qz (qf (oH [.slice none 0 0,.slice none 0 0] 102) trivial qz (qf (oA 2 102 .same .t) r2 r1 qZ)))))))) hB ?_
 clear hS;intro a w F hS
 replace hS:=hS.sub
 obtain ⟨F,hS⟩:=hS.nm [2,1,0] [102,101,0] rfl rfl
 try dsimp only [RS.sub,SF.sub,CF.sub,csub,Anc.sub,List.map,stCells,xL,xM,Nat.reduceAdd,xD,xE,xT,xU,xC,xN,zCF,ldSF,rHist,rTx,rOrd,rVer,rInt,rOp,rDelta] at hS
 generalize Act.tau a 2=v2 at hS
 replace hS:=hS.turn 102 rfl (r':=RS.pt (.val v2) 30 [.pv (.sl rTx [(⟨1,true,[⟨false,5,0,0⟩]⟩:TxD)]),.pv (.sl rOrd [⟨5,[1]⟩])]) (ptLe rfl rfl ⟨PVLe.arrSl (R:=rTx) (l':=[(⟨1,true,[⟨false,5,0,0⟩]⟩:TxD)]) rfl PVsLe.refl,PVLe.arrSl (R:=rOrd) (l':=[⟨5,[1]⟩]) rfl ⟨PVLe.refl,PVLe.arrSl (R:=rInt) (l':=[1]) rfl PVsLe.refl,trivial⟩,trivial⟩)
 obtain ⟨F,hS⟩:=hS.nm [2,1,0] [102,101,0] rfl rfl
 refine then_n (wp_seq ?_)
 refine region_q hS (qf (oB [] [.slice none 0 0,.slice none 0 0] [(0,1),(1,1)] .nil) trivial qz (qf (oL true 2 102 .is) r1 r1 (qf (oP (ofD_c (⟨[],[]⟩:HistD) (⟨[(⟨1,true,[⟨false,5,0,0⟩]⟩:TxD)],[⟨5,[1]⟩]⟩:HistD) (by decide) (by decide)) Tryz.func23 (Args.two (.conv (.pagg .t) (Ent.paggLe (l:=[.is (.slice none 0 0),.is (.slice none 0 0)]) (l':=rHist (⟨[],[]⟩:HistD)) ⟨PVLe.nilSl,PVLe.nilSl,trivial⟩)) (.pagg .t))) r2 qz (qM rfl rfl (qf (o_extract .t rfl) r1 qz (qf (o_extract .t rfl) r1 qz (qf (oH [.slice none 0 0,.slice none 0 0,.slice none 0 0,.slice none 0 0] 103) trivial qz (qf (oA 4 103 .same (.conv .t .agg)) r2 r1 (qN rfl rfl qZ))))))))) hB ?_
 clear hS;intro a w F hS
 replace hS:=hS.sub
 obtain ⟨F,hS⟩:=hS.nm [4,3,2,1,0] [103,102,101,0] rfl rfl
 try dsimp only [RS.sub,SF.sub,CF.sub,csub,Anc.sub,List.map,stCells,xL,xM,Nat.reduceAdd,xD,xE,xT,xU,xC,xN,zCF,ldSF,rHist,rTx,rOrd,rVer,rInt,rOp,rDelta] at hS
 generalize Act.tau a 3=v3 at hS
 rw [lx1] at hS
 dsimp only at hS
 refine then_n (wp_seq ?_)
 refine region_q hS (qf (oB [] [.slice none 0 0,.slice none 0 0] [(0,1),(1,1)] .nil) trivial qz (qf (oL true 4 103 .is) r1 r1 (qf (oP (applyD_c (⟨[],[]⟩:HistD) (⟨[],[(⟨1,true,[⟨false,5,0,0⟩]⟩:TxD)],[],[⟨5,[1]⟩]⟩:DeltaD) lxs2) Tryz.func16 (Args.two (.conv (.pagg .t) (Ent.paggLe (l:=[.is (.slice none 0 0),.is (.slice none 0 0)]) (l':=rHist (⟨[],[]⟩:HistD)) ⟨PVLe.nilSl,PVLe.nilSl,trivial⟩)) (.pagg .t))) r2 qz (qM rfl rfl (qf (o_extract .t rfl) r1 qz (qf (o_extract .t rfl) r1 qz (qf (oH [.slice none 0 0,.slice none 0 0] 104) trivial qz (qf (oA 2 104 .same (.conv .t .agg)) r2 r1 (qN rfl rfl qZ))))))))) hB ?_
 clear hS;intro a w F hS
 replace hS:=hS.sub
 obtain ⟨F,hS⟩:=hS.nm [6,5,4,3,2,1,0] [104,103,102,101,0] rfl rfl
 try dsimp only [RS.sub,SF.sub,CF.sub,csub,Anc.sub,List.map,stCells,xL,xM,Nat.reduceAdd,xD,xE,xT,xU,xC,xN,zCF,ldSF,rHist,rTx,rOrd,rVer,rInt,rOp,rDelta] at hS
 generalize Act.tau a 5=v5 at hS
 rw [lx2] at hS
 dsimp only at hS
 refine then_n (wp_seq ?_)
 refine region_q hS (qf (oL true 2 102 .is) r1 r1 (qf (oL true 4 103 .is) r1 r1 (qf (oP (applyD_c (⟨[(⟨1,true,[⟨false,5,0,0⟩]⟩:TxD)],[⟨5,[1]⟩]⟩:HistD) (⟨[],[(⟨1,true,[⟨false,5,0,0⟩]⟩:TxD)],[],[⟨5,[1]⟩]⟩:DeltaD) lxs3) Tryz.func16 (Args.two (.pagg .t) (.pagg .t))) r2 qz (qM rfl rfl (qf (o_extract .t rfl) r1 qz (qf (o_extract .t rfl) r1 qz (qf (oH [.slice none 0 0,.slice none 0 0] 105) trivial qz (qf (oA 2 105 .same (.conv .t .agg)) r2 r1 (qN rfl rfl qZ))))))))) hB ?_
 clear hS;intro a w F hS
 replace hS:=hS.sub
 obtain ⟨F,hS⟩:=hS.nm [8,6,5,4,3,2,1,0] [105,104,103,102,101,0] rfl rfl
 try dsimp only [RS.sub,SF.sub,CF.sub,csub,Anc.sub,List.map,stCells,xL,xM,Nat.reduceAdd,xD,xE,xT,xU,xC,xN,zCF,ldSF,rHist,rTx,rOrd,rVer,rInt,rOp,rDelta] at hS
 generalize Act.tau a 7=v7 at hS
 rw [lx3] at hS
 dsimp only at hS
 refine then_n (wp_seq ?_)
 refine region_any (by kernel_rfl) hS (by kernel_rfl) (qf (oL true 2 102 .is) r1 r1 (qf (oL true 4 103 .is) r1 r1 (qf (oP (invert_c (⟨[],[(⟨1,true,[⟨false,5,0,0⟩]⟩:TxD)],[],[⟨5,[1]⟩]⟩:DeltaD) (by decide:SmallD (⟨[],[(⟨1,true,[⟨false,5,0,0⟩]⟩:TxD)],[],[⟨5,[1]⟩]⟩:DeltaD)).ok) Tryz.func35 (Args.one (.pagg .t))) r1 qz (qf (oP (applyD_c (⟨[(⟨1,true,[⟨false,5,0,0⟩]⟩:TxD)],[⟨5,[1]⟩]⟩:HistD) (inv (⟨[],[(⟨1,true,[⟨false,5,0,0⟩]⟩:TxD)],[],[⟨5,[1]⟩]⟩:DeltaD)) lxs4) Tryz.func16 (Args.two (.pagg .t) .t)) r2 qz (qM rfl rfl (qf (o_extract .t rfl) r1 qz (qf (o_extract .t rfl) r1 qz (qf (oH [.slice none 0 0,.slice none 0 0] 106) trivial qz (qf (oA 2 106 .same (.conv .t .agg)) r2 r1 (qN rfl rfl qZ)))))))))) (by kernel_rfl) (by rw [hB];kernel_rfl) ?_
 clear hS;intro a w F hS
 replace hS:=hS.sub
 obtain ⟨F,hS⟩:=hS.nm [10,9,8,6,5,4,3,2,1,0] [106,105,104,103,102,101,0] rfl rfl
 try dsimp only [RS.sub,SF.sub,CF.sub,csub,Anc.sub,List.map,stCells,xL,xM,Nat.reduceAdd,xD,xE,xT,xU,xC,xN,zCF,ldSF,rHist,rTx,rOrd,rVer,rInt,rOp,rDelta] at hS
 generalize Act.tau a 9=v9 at hS
 rw [lx4] at hS
 dsimp only at hS
 refine then_n (wp_seq ?_)
 refine region_q hS (qf (oL true 2 102 .is) r1 r1 (qf (oL true 3 101 .is) r1 r1 (qf (o_buildSliceE (sz:=3) (zs:=[.int .i64 0,.bool false,.slice none 0 0]) (r:=[(0,.tmp 58)]) (l:=[_,_,_]) Tryz.underlying27 (by kernel_rfl) (by kernel_rfl) (by kernel_rfl) (by kernel_rfl) rfl rfl (.agg rfl .t (by kernel_rfl) (by kernel_rfl) .nil) rfl) r1 qz (qf (oB [(0,.tmp 59)] [.slice none 0 0,.slice none 0 0] [(0,1),(1,1)] (.one rfl .t one_arr (by kernel_rfl) .nil)) r1 qz (qf (oP (ofD_c (⟨[(⟨1,true,[⟨false,5,0,0⟩]⟩:TxD)],[⟨5,[1]⟩]⟩:HistD) (⟨[(⟨1,true,[⟨false,5,0,0⟩]⟩:TxD)],[]⟩:HistD) (by decide) (by decide)) Tryz.func23 (Args.two (.pagg .t) (.conv (.pagg .t) (Ent.paggLe (l:=[.arr 1 (([(⟨1,true,[⟨false,5,0,0⟩]⟩:TxD)]:List TxD).flatMap rTx),.is (.slice none 0 0)]) (l':=rHist (⟨[(⟨1,true,[⟨false,5,0,0⟩]⟩:TxD)],[]⟩:HistD)) ⟨PVLe.arrSl (R:=rTx) (l':=[(⟨1,true,[⟨false,5,0,0⟩]⟩:TxD)]) rfl PVsLe.refl,PVLe.nilSl,trivial⟩)))) r2 qz (qM rfl rfl (qf (o_extract .t rfl) r1 qz (qf (o_extract .t rfl) r1 qz (qf (oH [.slice none 0 0,.slice none 0 0,.slice none 0 0,.slice none 0 0] 107) trivial qz (qf (oA 4 107 .same (.conv .t .agg)) r2 r1 (qN rfl rfl qZ))))))))))) hB ?_
 clear hS;intro a w F hS
 replace hS:=hS.sub
 obtain ⟨F,hS⟩:=hS.nm [12,10,9,8,6,5,4,3,2,1,0] [107,106,105,104,103,102,101,0] rfl rfl
 try dsimp only [RS.sub,SF.sub,CF.sub,csub,Anc.sub,List.map,stCells,xL,xM,Nat.reduceAdd,xD,xE,xT,xU,xC,xN,zCF,ldSF,rHist,rTx,rOrd,rVer,rInt,rOp,rDelta] at hS
 generalize Act.tau a 11=v11 at hS
 rw [lx5] at hS
 dsimp only at hS
 refine then_n (wp_seq ?_)
 refine region_any (by kernel_rfl) hS (by kernel_rfl) (qf (oL true 4 103 .is) r1 r1 (qf (oL true 4 103 .is) r1 r1 (qf (oP (invert_c (⟨[],[(⟨1,true,[⟨false,5,0,0⟩]⟩:TxD)],[],[⟨5,[1]⟩]⟩:DeltaD) (by decide:SmallD (⟨[],[(⟨1,true,[⟨false,5,0,0⟩]⟩:TxD)],[],[⟨5,[1]⟩]⟩:DeltaD)).ok) Tryz.func35 (Args.one (.pagg .t))) r1 qz (qf (oP (joinD_c (⟨[],[(⟨1,true,[⟨false,5,0,0⟩]⟩:TxD)],[],[⟨5,[1]⟩]⟩:DeltaD) (inv (⟨[],[(⟨1,true,[⟨false,5,0,0⟩]⟩:TxD)],[],[⟨5,[1]⟩]⟩:DeltaD)) (by decide) (by decide)) Tryz.func25 (Args.two (.pagg .t) .t)) r2 qz (qM rfl rfl (qf (o_extract .t rfl) r1 qz (qf (o_extract .t rfl) r1 qz (qf (oH [.slice none 0 0,.slice none 0 0,.slice none 0 0,.slice none 0 0] 108) trivial qz (qf (oA 4 108 .same (.conv .t .agg)) r2 r1 (qN rfl rfl qZ)))))))))) (by kernel_rfl) (by rw [hB];kernel_rfl) ?_
 clear hS;intro a w F hS
 replace hS:=hS.sub
 obtain ⟨F,hS⟩:=hS.nm [14,13,12,10,9,8,6,5,4,3,2,1,0] [108,107,106,105,104,103,102,101,0] rfl rfl
 try dsimp only [RS.sub,SF.sub,CF.sub,csub,Anc.sub,List.map,stCells,xL,xM,Nat.reduceAdd,xD,xE,xT,xU,xC,xN,zCF,ldSF,rHist,rTx,rOrd,rVer,rInt,rOp,rDelta] at hS
 generalize Act.tau a 13=v13 at hS
 rw [lx6] at hS
 dsimp only at hS
 refine then_n (wp_seq ?_)
 refine region_q hS (qf (oL true 4 103 .is) r1 r1 (qf (oL true 4 103 .is) r1 r1 (qf (oP (joinD_c (⟨[],[(⟨1,true,[⟨false,5,0,0⟩]⟩:TxD)],[],[⟨5,[1]⟩]⟩:DeltaD) (⟨[],[(⟨1,true,[⟨false,5,0,0⟩]⟩:TxD)],[],[⟨5,[1]⟩]⟩:DeltaD) (by decide) (by decide)) Tryz.func25 (Args.two (.pagg .t) (.pagg .t))) r2 qz (qM rfl rfl (qf (o_extract .t rfl) r1 qz (qf (o_extract .t rfl) r1 qz (qf (oH [.slice none 0 0,.slice none 0 0,.slice none 0 0,.slice none 0 0] 109) trivial qz (qf (oA 4 109 .same (.conv .t .agg)) r2 r1 (qN rfl rfl qZ))))))))) hB ?_
 clear hS;intro a w F hS
 replace hS:=hS.sub
 obtain ⟨F,hS⟩:=hS.nm [16,14,13,12,10,9,8,6,5,4,3,2,1,0] [109,108,107,106,105,104,103,102,101,0] rfl rfl
 try dsimp only [RS.sub,SF.sub,CF.sub,csub,Anc.sub,List.map,stCells,xL,xM,Nat.reduceAdd,xD,xE,xT,xU,xC,xN,zCF,ldSF,rHist,rTx,rOrd,rVer,rInt,rOp,rDelta] at hS
 generalize Act.tau a 15=v15 at hS
 rw [lx7] at hS
 dsimp only at hS
 refine then_n (wp_seq ?_)
 refine region_q hS (qf (oB [] [.slice none 0 0,.slice none 0 0] [(0,1),(1,1)] .nil) trivial qz (qf (oL true 3 101 .is) r1 r1 (qf (o_buildSliceE (sz:=3) (zs:=[.int .i64 0,.bool false,.slice none 0 0]) (r:=[(0,.tmp 79)]) (l:=[_,_,_]) Tryz.underlying27 (by kernel_rfl) (by kernel_rfl) (by kernel_rfl) (by kernel_rfl) rfl rfl (.agg rfl .t (by kernel_rfl) (by kernel_rfl) .nil) rfl) r1 qz (qf (oB [(1,.tmp 80)] [.slice none 0 0,.slice none 0 0,.slice none 0 0,.slice none 0 0] [(0,1),(1,1),(2,1),(3,1)] (.one rfl .t one_arr (by kernel_rfl) .nil)) r1 qz (qf (oP (applyD_c (⟨[],[]⟩:HistD) (⟨[],[(⟨1,true,[⟨false,5,0,0⟩]⟩:TxD)],[],[]⟩:DeltaD) lxs8) Tryz.func16 (Args.two (.conv (.pagg .t) (Ent.paggLe (l:=[.is (.slice none 0 0),.is (.slice none 0 0)]) (l':=rHist (⟨[],[]⟩:HistD)) ⟨PVLe.nilSl,PVLe.nilSl,trivial⟩)) (.conv (.pagg .t) (Ent.paggLe (l:=[.is (.slice none 0 0),.arr 1 (([(⟨1,true,[⟨false,5,0,0⟩]⟩:TxD)]:List TxD).flatMap rTx),.is (.slice none 0 0),.is (.slice none 0 0)]) (l':=rDelta (⟨[],[(⟨1,true,[⟨false,5,0,0⟩]⟩:TxD)],[],[]⟩:DeltaD)) ⟨PVLe.nilSl,PVLe.arrSl (R:=rTx) (l':=[(⟨1,true,[⟨false,5,0,0⟩]⟩:TxD)]) rfl PVsLe.refl,PVLe.nilSl,PVLe.nilSl,trivial⟩)))) r2 qz (qM rfl rfl (qf (o_extract .t rfl) r1 qz (qf (o_extract .t rfl) r1 qz (qf (oH [.slice none 0 0,.slice none 0 0] 110) trivial qz (qf (oA 2 110 .same (.conv .t .agg)) r2 r1 (qN rfl rfl qZ))))))))))) hB ?_
 clear hS;intro a w F hS
 replace hS:=hS.sub
 obtain ⟨F,hS⟩:=hS.nm [18,16,14,13,12,10,9,8,6,5,4,3,2,1,0] [110,109,108,107,106,105,104,103,102,101,0] rfl rfl
 try dsimp only [RS.sub,SF.sub,CF.sub,csub,Anc.sub,List.map,stCells,xL,xM,Nat.reduceAdd,xD,xE,xT,xU,xC,xN,zCF,ldSF,rHist,rTx,rOrd,rVer,rInt,rOp,rDelta] at hS
 generalize Act.tau a 17=v17 at hS
 rw [lx8] at hS
 dsimp only at hS
 refine then_n (wp_seq ?_)
 refine region_q hS (qf (oL true 3 101 .is) r1 r1 (qf (oL true 3 101 .is) r1 r1 (qf (o_buildSliceE (sz:=3) (zs:=[.int .i64 0,.bool false,.slice none 0 0]) (r:=[(0,.tmp 85),(1,.tmp 86)]) (l:=[_,_,_,_,_,_]) Tryz.underlying27 (by kernel_rfl) (by kernel_rfl) (by kernel_rfl) (by kernel_rfl) rfl rfl (.agg rfl .t (by kernel_rfl) (by kernel_rfl) (.agg rfl .t (by kernel_rfl) (by kernel_rfl) .nil)) rfl) r2 qz (qf (oB [(0,.tmp 87)] [.slice none 0 0,.slice none 0 0,.slice none 0 0,.slice none 0 0] [(0,1),(1,1),(2,1),(3,1)] (.one rfl .t one_arr (by kernel_rfl) .nil)) r1 qz (qf (oH [.slice none 0 0,.slice none 0 0,.slice none 0 0,.slice none 0 0] 111) trivial qz (qf (oA 4 111 .same .t) r2 r1 qZ)))))) hB ?_
 clear hS;intro a w F hS
 replace hS:=hS.sub
 obtain ⟨F,hS⟩:=hS.nm [19,18,16,14,13,12,10,9,8,6,5,4,3,2,0] [111,110,109,108,107,106,105,104,103,102,101,0] rfl rfl
 try dsimp only [RS.sub,SF.sub,CF.sub,csub,Anc.sub,List.map,stCells,xL,xM,Nat.reduceAdd,xD,xE,xT,xU,xC,xN,zCF,ldSF,rHist,rTx,rOrd,rVer,rInt,rOp,rDelta] at hS
 generalize Act.tau a 19=v19 at hS
 replace hS:=hS.turn 111 rfl (r':=RS.pt (.val v19) 44 [.pv (.sl rTx [(⟨1,true,[⟨false,5,0,0⟩]⟩:TxD),(⟨1,true,[⟨false,5,0,0⟩]⟩:TxD)]),.pv (.sl rTx []),.pv (.sl rOrd []),.pv (.sl rOrd [])]) (ptLe rfl rfl ⟨PVLe.arrSl (R:=rTx) (l':=[(⟨1,true,[⟨false,5,0,0⟩]⟩:TxD),(⟨1,true,[⟨false,5,0,0⟩]⟩:TxD)]) rfl PVsLe.refl,PVLe.nilSl,PVLe.nilSl,PVLe.nilSl,trivial⟩)
 obtain ⟨F,hS⟩:=hS.nm [19,18,16,14,13,12,10,9,8,6,5,4,3,2,0] [111,110,109,108,107,106,105,104,103,102,101,0] rfl rfl
 refine then_n (wp_seq ?_)
 refine region_q hS (qf (oL true 4 103 .is) r1 r1 (qf (oL true 4 111 .is) r1 r1 (qf (oP (joinD_c (⟨[],[(⟨1,true,[⟨false,5,0,0⟩]⟩:TxD)],[],[⟨5,[1]⟩]⟩:DeltaD) (⟨[(⟨1,true,[⟨false,5,0,0⟩]⟩:TxD),(⟨1,true,[⟨false,5,0,0⟩]⟩:TxD)],[],[],[]⟩:DeltaD) (by decide) (by decide)) Tryz.func25 (Args.two (.pagg .t) (.pagg .t))) r2 qz (qM rfl rfl (qf (o_extract .t rfl) r1 qz (qf (o_extract .t rfl) r1 qz (qf (oH [.slice none 0 0,.slice none 0 0,.slice none 0 0,.slice none 0 0] 112) trivial qz (qf (oA 4 112 .same (.conv .t .agg)) r2 r1 (qN rfl rfl qZ))))))))) hB ?_
 clear hS;intro a w F hS
 replace hS:=hS.sub
 obtain ⟨F,hS⟩:=hS.nm [21,19,18,16,14,13,12,10,9,8,6,5,4,3,2,0] [112,111,110,109,108,107,106,105,104,103,102,101,0] rfl rfl
 try dsimp only [RS.sub,SF.sub,CF.sub,csub,Anc.sub,List.map,stCells,xL,xM,Nat.reduceAdd,xD,xE,xT,xU,xC,xN,zCF,ldSF,rHist,rTx,rOrd,rVer,rInt,rOp,rDelta] at hS
 generalize Act.tau a 20=v20 at hS
 rw [lx9] at hS
 dsimp only at hS
 refine then_n (wp_seq ?_)
 refine region_seqN hS (by kernel_rfl) (cG rfl (oM .t) r1 trivial (cG rfl (o_eql .t (.ci (by kernel_rfl))) r1 trivial (cG rfl (oM .t) r1 trivial (ChainN.cons (Cert.cond rfl rfl (fun h=>o_fieldAddr (off:=1) 103 .is (by kernel_rfl) (by rfl))) r2 r1 (ChainN.cons (Cert.cond rfl rfl (fun h=>o_load (ag:=false) (sz:=1) 103 (.w h .adr) (by kernel_rfl) (by kernel_rfl) (by kernel_rfl) (by rfl))) r2 r1 (ChainN.cons (Cert.cond rfl rfl (fun h=>o_len_sl Tryz.underlying27 (.w h))) r2 trivial (ChainN.cons (Cert.cond rfl rfl (fun h=>o_eql (.w h) (.ci (by kernel_rfl)))) r2 trivial (cG rfl (o_and2 .t .t) r2 trivial (cG rfl (oM .t) r1 trivial (ChainN.cons (Cert.cond rfl rfl (fun h=>o_fieldAddr (off:=3) 103 .is (by kernel_rfl) (by rfl))) r2 r1 (ChainN.cons (Cert.cond rfl rfl (fun h=>o_load (ag:=false) (sz:=1) 103 (.w h .adr) (by kernel_rfl) (by kernel_rfl) (by kernel_rfl) (by rfl))) r2 r1 (ChainN.cons (Cert.cond rfl rfl (fun h=>o_len_sl Tryz.underlying28 (.w h))) r2 trivial (ChainN.cons (Cert.cond rfl rfl (fun h=>o_eql (.w h) (.ci (by kernel_rfl)))) r2 trivial (cG rfl (o_and2 .t .t) r2 trivial (cG rfl (oM .t) r1 trivial (ChainN.cons (Cert.cond rfl rfl (fun h=>o_fieldAddr (off:=0) 103 .is (by kernel_rfl) (by rfl))) r2 r1 (ChainN.cons (Cert.cond rfl rfl (fun h=>o_load (ag:=false) (sz:=1) 103 (.w h .adr) (by kernel_rfl) (by kernel_rfl) (by kernel_rfl) (by rfl))) r2 r1 (ChainN.cons (Cert.cond rfl rfl (fun h=>o_len_sl Tryz.underlying27 (.w h))) r2 trivial (ChainN.cons (Cert.cond rfl rfl (fun h=>o_eql (.w h) (.ci (by kernel_rfl)))) r2 trivial (cG rfl (o_and2 .t .t) r2 trivial (ChainN.norm [(0,_),(2,_),(3,_),(5,_),(6,_),(8,_),(9,_),(10,_),(12,_),(13,_),(14,_),(16,_),(18,_),(19,_),(21,_),(114,_)] [(0,_),(101,_),(102,_),(103,_),(104,_),(105,_),(106,_),(107,_),(108,_),(109,_),(110,_),(111,_),(112,_)] ⟨rfl,rfl,rfl,rfl,rfl,rfl,rfl,rfl,rfl,rfl,rfl,rfl,rfl,rfl,rfl,rfl,trivial⟩ ⟨rfl,rfl,rfl,rfl,rfl,rfl,rfl,rfl,rfl,rfl,rfl,rfl,rfl,trivial⟩ (cG rfl (oM .t) r1 trivial (ChainN.cons (Cert.cond rfl rfl (fun h=>o_load (ag:=true) (sz:=4) 103 .is (by kernel_rfl) (by kernel_rfl) (by kernel_rfl) (by rfl))) r2 r1 (ChainN.cons (Cert.cond rfl rfl (fun h=>o_callP (keysD_c (⟨[],[(⟨1,true,[⟨false,5,0,0⟩]⟩:TxD)],[],[⟨5,[1]⟩]⟩:DeltaD) (by decide) (by decide)) Tryz.func33 rfl (by kernel_rfl) (Args.one (.pagg (.w h))))) r2 trivial (ChainN.cons (Cert.cond rfl rfl (fun h=>o_buildSliceE (sz:=1) (zs:=[.int .i64 0]) (r:=[(0,_)]) (l:=[_]) Tryz.underlying35 (by kernel_rfl) (by kernel_rfl) (by kernel_rfl) (by kernel_rfl) rfl rfl (.one rfl (.ci (by kernel_rfl)) one_int (by kernel_rfl) .nil) rfl)) r1 trivial (ChainN.cons (Cert.cond rfl rfl (fun h=>o_callP (sameInts_c _ [5]) Tryz.func32 rfl (by kernel_rfl) (Args.two (.w h) (.conv (.w h) (Ent.arrSl (R:=rInt) (l:=[5]) rfl))))) r3 trivial (cG rfl (o_and2 .t .t) r2 trivial (cG rfl (oM .t) r1 trivial (ChainN.cons (Cert.cond rfl rfl (fun h=>o_move .t (by rfl))) r2 trivial (ChainN.cons (Cert.cond rfl rfl (fun h=>o_eql (.w h) (.ci (by kernel_rfl)))) r2 trivial (cG rfl (o_and2 .t .t) r2 trivial (cG rfl (oM .t) r1 trivial (ChainN.cons (Cert.cond rfl rfl (fun h=>o_load (ag:=true) (sz:=2) 104 .is (by kernel_rfl) (by kernel_rfl) (by kernel_rfl) (by rfl))) r2 r1 (ChainN.cons (Cert.cond rfl rfl (fun h=>o_load (ag:=true) (sz:=2) 102 .is (by kernel_rfl) (by kernel_rfl) (by kernel_rfl) (by rfl))) r2 r1 (ChainN.cons (Cert.cond rfl rfl (fun h=>o_callP (sameHist_c (⟨[(⟨1,true,[⟨false,5,0,0⟩]⟩:TxD)],[⟨5,[1]⟩]⟩:HistD) (⟨[(⟨1,true,[⟨false,5,0,0⟩]⟩:TxD)],[⟨5,[1]⟩]⟩:HistD)) Tryz.func17 rfl (by kernel_rfl) (Args.two (.pagg (.w h)) (.pagg (.w h))))) r3 trivial (cG rfl (o_and2 .t .t) r2 trivial (cG rfl (oM .t) r1 trivial (ChainN.cons (Cert.cond rfl rfl (fun h=>o_move .t (by rfl))) r2 trivial (ChainN.cons (Cert.cond rfl rfl (fun h=>o_eql (.w h) (.ci (by kernel_rfl)))) r2 trivial (cG rfl (o_and2 .t .t) r2 trivial (cG rfl (oM .t) r1 trivial (ChainN.norm [(0,_),(3,_),(9,_),(10,_),(12,_),(13,_),(14,_),(16,_),(18,_),(19,_),(21,_),(134,_)] [(0,_),(101,_),(102,_),(103,_),(104,_),(105,_),(106,_),(107,_),(108,_),(109,_),(110,_),(111,_),(112,_)] ⟨rfl,rfl,rfl,rfl,rfl,rfl,rfl,rfl,rfl,rfl,rfl,rfl,trivial⟩ ⟨rfl,rfl,rfl,rfl,rfl,rfl,rfl,rfl,rfl,rfl,rfl,rfl,rfl,trivial⟩ (ChainN.cons (Cert.cond rfl rfl (fun h=>o_move .t (by rfl))) r2 trivial (ChainN.cons (Cert.cond rfl rfl (fun h=>o_eql (.w h) (.ci (by kernel_rfl)))) r2 trivial (cG rfl (o_and2 .t .t) r2 trivial (cG rfl (oM .t) r1 trivial (ChainN.cons (Cert.cond rfl rfl (fun h=>o_load (ag:=true) (sz:=2) 106 .is (by kernel_rfl) (by kernel_rfl) (by kernel_rfl) (by rfl))) r2 r1 (ChainN.cons (Cert.cond rfl rfl (fun h=>o_build (r:=[]) (zs:=[.slice none 0 0,.slice none 0 0]) (pl:=[(0,1),(1,1)]) (by kernel_rfl) (by kernel_rfl) .nil (by rfl))) r1 trivial (ChainN.cons (Cert.cond rfl rfl (fun h=>o_callP (sameHist_c (⟨[],[]⟩:HistD) (⟨[],[]⟩:HistD)) Tryz.func17 rfl (by kernel_rfl) (Args.two (.pagg (.w h)) (.conv (.pagg (.w h)) (Ent.paggLe (l:=[.is (.slice none 0 0),.is (.slice none 0 0)]) (l':=rHist (⟨[],[]⟩:HistD)) ⟨PVLe.nilSl,PVLe.nilSl,trivial⟩))))) r3 trivial (cG rfl (o_and2 .t .t) r2 trivial (cG rfl (oM .t) r1 trivial (ChainN.cons (Cert.cond rfl rfl (fun h=>o_move .t (by rfl))) r2 trivial (ChainN.cons (Cert.cond rfl rfl (fun h=>o_eql (.w h) (.ci (by kernel_rfl)))) r2 trivial (cG rfl (o_and2 .t .t) r2 trivial (cG rfl (oM .t) r1 trivial (ChainN.cons (Cert.cond rfl rfl (fun h=>o_move .t (by rfl))) r2 trivial (ChainN.cons (Cert.cond rfl rfl (fun h=>o_eql (.w h) (.ci (by kernel_rfl)))) r2 trivial (cG rfl (o_and2 .t .t) r2 trivial (cG rfl (oM .t) r1 trivial (ChainN.cons (Cert.cond rfl rfl (fun h=>o_load (ag:=true) (sz:=4) 108 .is (by kernel_rfl) (by kernel_rfl) (by kernel_rfl) (by rfl))) r2 r1 (ChainN.cons (Cert.cond rfl rfl (fun h=>o_callP (emptyD_c (⟨[],[],[],[]⟩:DeltaD) (by decide:SmallD (⟨[],[],[],[]⟩:DeltaD)).ok) Tryz.func30 rfl (by kernel_rfl) (Args.one (.pagg (.w h))))) r2 trivial (cG rfl (o_and2 .t .t) r2 trivial (ChainN.norm [(0,_),(3,_),(13,_),(16,_),(18,_),(19,_),(21,_),(154,_)] [(0,_),(101,_),(102,_),(103,_),(104,_),(105,_),(106,_),(107,_),(108,_),(109,_),(110,_),(111,_),(112,_)] r8 ⟨rfl,rfl,rfl,rfl,rfl,rfl,rfl,rfl,rfl,rfl,rfl,rfl,rfl,trivial⟩ (cG rfl (oM .t) r1 trivial (ChainN.cons (Cert.cond rfl rfl (fun h=>o_move .t (by rfl))) r2 trivial (ChainN.cons (Cert.cond rfl rfl (fun h=>o_eql (.w h) (.ci (by kernel_rfl)))) r2 trivial (cG rfl (o_and2 .t .t) r2 trivial (cG rfl (oM .t) r1 trivial (ChainN.cons (Cert.cond rfl rfl (fun h=>o_move .t (by rfl))) r2 trivial (ChainN.cons (Cert.cond rfl rfl (fun h=>o_eql (.w h) (.ci (by kernel_rfl)))) r2 trivial (cG rfl (o_and2 .t .t) r2 trivial (cG rfl (oM .t) r1 trivial (ChainN.cons (Cert.cond rfl rfl (fun h=>o_move .t (by rfl))) r2 trivial (ChainN.cons (Cert.cond rfl rfl (fun h=>o_eql (.w h) (.ci (by kernel_rfl)))) r2 trivial (cG rfl (o_and2 .t .t) r2 trivial (cG rfl (oM .t) r1 trivial (ChainN.cons (Cert.cond rfl rfl (fun h=>o_load (ag:=true) (sz:=4) 111 .is (by kernel_rfl) (by kernel_rfl) (by kernel_rfl) (by rfl))) r2 r1 (ChainN.cons (Cert.cond rfl rfl (fun h=>o_callP (rightD_c (⟨[(⟨1,true,[⟨false,5,0,0⟩]⟩:TxD),(⟨1,true,[⟨false,5,0,0⟩]⟩:TxD)],[],[],[]⟩:DeltaD) (by decide:SmallD (⟨[(⟨1,true,[⟨false,5,0,0⟩]⟩:TxD),(⟨1,true,[⟨false,5,0,0⟩]⟩:TxD)],[],[],[]⟩:DeltaD)).ok) Tryz.func28 rfl (by kernel_rfl) (Args.one (.pagg (.w h))))) r2 trivial (ChainN.cons (Cert.cond rfl rfl (fun h=>o_not (.w h))) r2 trivial (cG rfl (o_and2 .t .t) r2 trivial (cG rfl (oM .t) r1 trivial (ChainN.cons (Cert.cond rfl rfl (fun h=>o_load (ag:=true) (sz:=4) 103 .is (by kernel_rfl) (by kernel_rfl) (by kernel_rfl) (by rfl))) r2 r1 (ChainN.cons (Cert.cond rfl rfl (fun h=>o_callP (rightD_c (⟨[],[(⟨1,true,[⟨false,5,0,0⟩]⟩:TxD)],[],[⟨5,[1]⟩]⟩:DeltaD) (by decide:SmallD (⟨[],[(⟨1,true,[⟨false,5,0,0⟩]⟩:TxD)],[],[⟨5,[1]⟩]⟩:DeltaD)).ok) Tryz.func28 rfl (by kernel_rfl) (Args.one (.pagg (.w h))))) r2 trivial (ChainN.norm [(0,_),(3,_),(13,_),(172,_),(174,_)] [(0,_),(101,_),(102,_),(103,_),(104,_),(105,_),(106,_),(107,_),(108,_),(109,_),(110,_),(111,_),(112,_)] r5 ⟨rfl,rfl,rfl,rfl,rfl,rfl,rfl,rfl,rfl,rfl,rfl,rfl,rfl,trivial⟩ (cG rfl (o_and2 .t .t) r2 trivial (cG rfl (oM .t) r1 trivial (ChainN.cons (Cert.cond rfl rfl (fun h=>o_load (ag:=true) (sz:=4) 103 .is (by kernel_rfl) (by kernel_rfl) (by kernel_rfl) (by rfl))) r2 r1 (ChainN.cons (Cert.cond rfl rfl (fun h=>o_callP (emptyD_c (⟨[],[(⟨1,true,[⟨false,5,0,0⟩]⟩:TxD)],[],[⟨5,[1]⟩]⟩:DeltaD) (by decide:SmallD (⟨[],[(⟨1,true,[⟨false,5,0,0⟩]⟩:TxD)],[],[⟨5,[1]⟩]⟩:DeltaD)).ok) Tryz.func30 rfl (by kernel_rfl) (Args.one (.pagg (.w h))))) r2 trivial (ChainN.cons (Cert.cond rfl rfl (fun h=>o_not (.w h))) r2 trivial (cG rfl (o_and2 .t .t) r2 trivial (cG rfl (oM .t) r1 trivial (ChainN.cons (Cert.cond rfl rfl (fun h=>o_load (ag:=true) (sz:=4) 103 .is (by kernel_rfl) (by kernel_rfl) (by kernel_rfl) (by rfl))) r2 r1 (ChainN.cons (Cert.cond rfl rfl (fun h=>o_load (ag:=true) (sz:=4) 103 .is (by kernel_rfl) (by kernel_rfl) (by kernel_rfl) (by rfl))) r2 r1 (ChainN.cons (Cert.cond rfl rfl (fun h=>o_callP (sameD_c (⟨[],[(⟨1,true,[⟨false,5,0,0⟩]⟩:TxD)],[],[⟨5,[1]⟩]⟩:DeltaD) (⟨[],[(⟨1,true,[⟨false,5,0,0⟩]⟩:TxD)],[],[⟨5,[1]⟩]⟩:DeltaD)) Tryz.func37 rfl (by kernel_rfl) (Args.two (.pagg (.w h)) (.pagg (.w h))))) r3 trivial (cG rfl (o_and2 .t .t) r2 trivial (cG rfl (oM .t) r1 trivial (ChainN.cons (Cert.cond rfl rfl (fun h=>o_load (ag:=true) (sz:=4) 103 .is (by kernel_rfl) (by kernel_rfl) (by kernel_rfl) (by rfl))) r2 r1 (ChainN.cons (Cert.cond rfl rfl (fun h=>o_load (ag:=true) (sz:=4) 108 .is (by kernel_rfl) (by kernel_rfl) (by kernel_rfl) (by rfl))) r2 r1 (ChainN.cons (Cert.cond rfl rfl (fun h=>o_callP (sameD_c (⟨[],[(⟨1,true,[⟨false,5,0,0⟩]⟩:TxD)],[],[⟨5,[1]⟩]⟩:DeltaD) (⟨[],[],[],[]⟩:DeltaD)) Tryz.func37 rfl (by kernel_rfl) (Args.two (.pagg (.w h)) (.pagg (.w h))))) r3 trivial (ChainN.cons (Cert.cond rfl rfl (fun h=>o_not (.w h))) r2 trivial (cG rfl (o_and2 .t .t) r2 trivial (cG rfl (oN .t) r1 trivial ChainN.nil)))))))))))))))))))))))))))))))))))))))))))))))))))))))))))))))))))))))))))))))))))))))))))))))))))))) (by kernel_rfl) (by rw [hB];kernel_rfl) ?_
 clear hS;intro a w F hS
 obtain ⟨F,hS⟩:=hS.nm [0] [112,111,110,109,108,107,106,105,104,103,102,101,0] rfl rfl
 try dsimp only [List.map,stCells,xL,xM,Nat.reduceAdd,xD,xE,xT,xU,xC,xN,zCF,ldSF,rHist,rTx,rOrd,rVer,rInt,rOp,rDelta] at hS
 refine then_n (wp_ret ?_)
 refine ret_P hfr hS rfl (.tmp rfl .nil) (.one (.bool (by decide +kernel)))
end Go.Proofs.YtcfgcpcakdknkaaGreat
