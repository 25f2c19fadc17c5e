/- Deltas: turned. No condition beyond those that each theorem says. -/
import Derived.Test.YtcfgcpcakdknkaaGreatDl1
import Derived.Test.YtcfgcpcakdknkaaGreatSt2
import Derived.Test.YtcfgcpcakdknkaaGreatSt4
namespace Go.Proofs.YtcfgcpcakdknkaaGreat
open Go Go.Gm
set_option linter.unusedVariables false
set_option linter.unusedSimpArgs false
set_option maxHeartbeats 4000000
set_option maxRecDepth 8000
theorem turned1T_c (x y:TxD):FnP Tryz.prog 110 [.agg (rTx x),.agg (rTx y),.ref [.clos 51 []]] (.int .i64 (cmpZ (TxD.id x) (TxD.id y))):=by
 refine FnP.mk Tryz.func110 rfl Tryz.ntmps110 rfl ?_
 intro B a w F hB hfr hS
 refine wp_seq ?_
 refine region_q hS (qf (oX 101 (.conv .t .agg)) r1 qz (qf (oX 102 (.conv .t .agg)) r1 qz (qf (oN qi) trivial qz qZ))) hB ?_
 clear hS;intro a w F hS
 replace hS:=hS.sub
 obtain ⟨F,hS⟩:=hS.nm [5,4,3,2] [102,101,0] rfl rfl
 try dsimp only [RS.sub,SF.sub,CF.sub,csub,Anc.sub,List.map,zCF,rHist,rTx,rOrd,rVer,rInt,rOp] at hS
 generalize Act.tau a 3=v3 at hS
 generalize Act.tau a 4=v4 at hS
 refine then_n (wp_seq ?_)
 refine region_any (by kernel_rfl) hS (by kernel_rfl) (qf (oR false 1 .t) r1 qz (qf (oL true 3 101 .is) r1 r1 (qf (o_callClosP (avs:=[.agg (rTx x)]) .t (idT_c x) Tryz.func51 rfl (by kernel_rfl) (Args.one (.pagg .t))) r2 qz (qf (oR false 1 .t) r1 qz (qf (oL true 3 102 .is) r1 r1 (qf (o_callClosP (avs:=[.agg (rTx y)]) .t (idT_c y) Tryz.func51 rfl (by kernel_rfl) (Args.one (.pagg .t))) r2 qz (qf (oP (cmpZ_c (TxD.id x) (TxD.id y)) Tryz.func111 (Args.two .t .t)) r2 qz (qN rfl rfl qZ)))))))) (by kernel_rfl) (by rw [hB];kernel_rfl) ?_
 clear hS;intro a w F hS
 obtain ⟨F,hS⟩:=hS.nm [5] [102,101,0] rfl rfl
 try dsimp only [List.map,xD,xE,xT,xU,ldSF,rHist,rTx,rOrd,rVer,rInt,rOp] at hS
 refine then_n (wp_ret ?_)
 refine ret_P hfr hS rfl (.tmp rfl .nil) (.one (.int rfl))
theorem turnedT_c (l was now:List TxD) (hll:l.length≤1000) (hnl:now.length≤1000) (hu:Unl TxD.id ((l.filter fun x=>(seekK TxD.id was (TxD.id x)).isNone)++now)):FnP Tryz.prog 56 [.sl rTx l,.sl rTx was,.sl rTx now,.clos 51 []] (.sl rTx (turnK TxD.id l was now)):=by
 refine FnP.mk Tryz.func56 rfl Tryz.ntmps56 rfl ?_
 intro B a w F hB hfr hS
 refine wp_seq ?_
 refine region_q hS (qf (o_box1 101 .t one_clos) r1 qz (qf (oN (.c rfl)) trivial qz qZ)) hB ?_
 clear hS;intro a w F hS
 replace hS:=hS.sub
 obtain ⟨F,hS⟩:=hS.nm [8,7,2,1,0] [101,0] rfl rfl
 try dsimp only [RS.sub,SF.sub,CF.sub,csub,Anc.sub,List.map,zCF,rHist,rTx,rOrd,rVer,rInt,rOp] at hS
 generalize Act.tau a 7=v7 at hS
 obtain ⟨F,hS⟩:=hS.giveRef 101 7 rfl rfl rfl
 obtain ⟨F,hS⟩:=hS.nm [8,7,2,1,0] [0] rfl rfl
 try dsimp only [Go.Gm.unCF] at hS
 refine then_n (wp_seq ?_)
 refine region_z hS (qf (oN (.c rfl)) trivial qz qZ) hB [9,8,7,2,1,0] [0] rfl rfl ?_
 clear hS;intro a w F hS
 refine then_n (wp_seq (wp_seq ?_))
 refine region_z hS (qM rfl rfl (qf (o_len_sl Tryz.underlying27 .t) r1 qz (qf (oM qi) trivial qz qZ))) hB [16,15,14,9,8,7,2,1] [0] rfl rfl ?_
 clear hS;intro a w F hS
 refine then_n (wp_block ?_)
 replace hS:=hS.fresh 50 rfl
 replace hS:=hS.turn 50 rfl (nilRow (T:=34) (sz:=3) (R:=rTx))
 refine loop_keep (σ:=(Nat)×(Value)×(List TxD)) [1,2,7,8,14,15] [0] (fun s=>[(16,.pv (.int .i64 (s.1:Int))),(9,.pv (.is s.2.1))]) (fun s=>[(50,.ob (.val s.2.1) (rowH 34 3 rTx s.2.2))]) (fun s=>s.1≤l.length∧(s.2.2=((l.take s.1).filter fun x=>(seekK TxD.id was (TxD.id x)).isNone))) (fun s=>l.length - s.1) ((0),(.slice none 0 0),([])) hS ⟨rfl,rfl,rfl,rfl,rfl,rfl,rfl,rfl,trivial⟩ ⟨rfl,rfl,trivial⟩ ⟨Nat.zero_le _,rfl⟩ ?_
 clear hS;intro s a w F hC hS
 obtain ⟨i,v,out⟩:=s
 try dsimp only at hC
 obtain ⟨F,hS⟩:=hS.nm [16,15,14,9,8,7,2,1] [50,0] rfl rfl
 try dsimp only at hS
 obtain ⟨hi,hq⟩:=hC
 have hol:out.length≤i:=by rw [hq];exact Nat.le_trans (List.length_filter_le _ _) (by rw [List.length_take];omega)
 refine wp_seq ?_
 refine region_z hS (qf (o_lss .t .t) r2 qz qZ) hB [17,16,15,14,9,8,7,2,1] [50,0] rfl rfl ?_
 clear hS;intro a w F hS
 refine then_n (wp_seq ?_)
 refine cond_b hS rfl (fun hc0=>?_) (fun hc0=>?_)
 ·skip
  have hil:i<l.length:=by simp at hc0;omega
  refine wp_skip (then_n (wp_seq (wp_block (wp_seq ?_))))
  refine region_q hS (qf (o_indexAddr_sl (sz:=3) (.mk Tryz.underlying27 (by kernel_rfl)) (by intro x;rfl) .t .t (by omega) (by omega)) r2 qz (qf (oR true 3 .t) r1 qz (qf (oH [.int .i64 0,.bool false,.slice none 0 0] 102) trivial qz (qf (oA 3 102 .same .t) r2 r1 qZ)))) hB ?_
  clear hS;intro a w F hS
  replace hS:=hS.sub
  obtain ⟨F,hS⟩:=hS.nm [19,18,17,16,15,14,11,9,8,7,2,1] [102,50,0] rfl rfl
  try dsimp only [RS.sub,SF.sub,CF.sub,csub,Anc.sub,List.map,stCells,xL,xM,Nat.reduceAdd,xD,xE,xT,xU,xC,xN,zCF,ldSF,rHist,rTx,rOrd,rVer,rInt,rOp] at hS
  generalize Act.tau a 11=v11 at hS
  try simp only [Int.toNat_natCast] at hS
  refine then_n (wp_seq ?_)
  refine region_any (by kernel_rfl) hS (by kernel_rfl) (qM rfl rfl (qf (oR false 1 .t) r1 qz (qf (oL true 3 102 .is) r1 r1 (qf (o_callClosP (avs:=[.agg (rTx (Go.Gm.nth l i))]) .t (idT_c (Go.Gm.nth l i)) Tryz.func51 rfl (by kernel_rfl) (Args.one (.pagg .t))) r2 qz (qf (oR false 1 .t) r1 qz (qf (oP (seekT_c was (TxD.id (Go.Gm.nth l i))) Tryz.func105 (Args.three .t .t .t)) r3 qz (qM rfl rfl (qf (o_extract .t rfl) r1 qz (qf (o_extract .t rfl) r1 qz (qf (oH [.int .i64 0,.bool false,.slice none 0 0] 103) trivial qz (qf (oA 3 103 .same (.conv .t .agg)) r2 r1 (qN rfl rfl qZ)))))))))))) (by kernel_rfl) (by rw [hB];kernel_rfl) ?_
  clear hS;intro a w F hS
  replace hS:=hS.sub
  obtain ⟨F,hS⟩:=hS.nm [28,27,26,25,24,23,22,21,20,19,18,17,16,15,14,13,12,11,9,8,7,2,1] [103,102,50,0] rfl rfl
  try dsimp only [RS.sub,SF.sub,CF.sub,csub,Anc.sub,List.map,stCells,xL,xM,Nat.reduceAdd,xD,xE,xT,xU,xC,xN,zCF,ldSF,rHist,rTx,rOrd,rVer,rInt,rOp] at hS
  generalize Act.tau a 12=v12 at hS
  refine then_n (wp_seq ?_)
  refine region_z hS (qM rfl rfl (qf (o_not .t) r1 qz qZ)) hB [30,29,28,27,26,25,24,23,22,21,20,19,18,17,16,15,14,13,12,11,9,8,7,2,1] [103,102,50,0] rfl rfl ?_
  clear hS;intro a w F hS
  refine then_n ?_
  refine cond_b hS rfl (fun hc1=>?_) (fun hc1=>?_)
  ·skip
   have h9:(seekK TxD.id was (TxD.id (Go.Gm.nth l i))).isNone=true:=by have h8:(!(seekK TxD.id was (TxD.id (Go.Gm.nth l i))).isSome)=true:=hc1;cases e:(seekK TxD.id was (TxD.id (Go.Gm.nth l i))) with | none=>rfl | some z=>rw [e] at h8;cases h8
   have hst9:out ++ [(Go.Gm.nth l i)] = ((l.take (i+1)).filter fun x=>(seekK TxD.id was (TxD.id x)).isNone):=by rw [hq,filter_step hil,if_pos h9]
   refine region_q hS (qM rfl rfl (qf (oL true 3 102 .is) r1 r1 (qf (o_buildSliceE (sz:=3) (zs:=[.int .i64 0,.bool false,.slice none 0 0]) (r:=[(0,.tmp 32)]) (l:=[_,_,_]) Tryz.underlying27 (by kernel_rfl) (by kernel_rfl) (by kernel_rfl) (by kernel_rfl) rfl rfl (.agg rfl .t (by kernel_rfl) (by kernel_rfl) .nil) rfl) r1 qz (qf (o_append (sz:=3) (bs:=40) 50 (.mk' Tryz.underlying27 (by kernel_rfl) (by kernel_rfl)) (by intro x;rfl) .is (.arr (l':=[(Go.Gm.nth l i)]) .t) (by simp only [List.length_append,List.length_cons,List.length_nil];omega) (by decide)) ⟨rfl,rfl,trivial⟩ ⟨rfl,trivial⟩ (qN rfl rfl qZ))))) hB ?_
   clear hS;intro a w F hS
   replace hS:=hS.sub
   obtain ⟨F,hS⟩:=hS.nm [34,33,32,31,30,29,28,27,26,25,24,23,22,21,20,19,18,17,16,15,14,13,12,11,9,8,7,2,1] [103,102,50,0] rfl rfl
   try dsimp only [RS.sub,SF.sub,CF.sub,csub,Anc.sub,List.map,stCells,xL,xM,Nat.reduceAdd,xD,xE,xT,xU,xC,xN,zCF,ldSF,rHist,rTx,rOrd,rVer,rInt,rOp] at hS
   generalize Act.tau a 34=v34 at hS
   refine block_n (then_n ?_)
   refine region_z hS (qf (o_add .t qi) r1 qz (qM rfl rfl qZ)) hB [35,34,33,32,31,30,29,28,27,26,25,24,23,22,21,20,19,18,17,16,15,14,13,12,11,9,8,7,2,1] [103,102,50,0] rfl rfl ?_
   clear hS;intro a w F hS
   refine then_n ?_
   replace hS:=hS.ent (i:=16) (s':=.pv (.int .i64 ((i+1:Nat):Int))) rfl (.int (wrap_succ (by omega)))
   obtain ⟨F,hS⟩:=hS.nm [15,14,8,7,2,1,9,16] [0,50] rfl rfl
   exact ⟨((i+1),_,_),F,⟨by omega,hst9⟩,hS,by omega⟩
  have h9:(seekK TxD.id was (TxD.id (Go.Gm.nth l i))).isNone=false:=by have h8:(!(seekK TxD.id was (TxD.id (Go.Gm.nth l i))).isSome)=false:=hc1;cases e:(seekK TxD.id was (TxD.id (Go.Gm.nth l i))) with | none=>rw [e] at h8;cases h8 | some z=>rfl
  have hst9:out=((l.take (i+1)).filter fun x=>(seekK TxD.id was (TxD.id x)).isNone):=by rw [hq,filter_step hil,if_neg (by rw [h9];simp),List.append_nil]
  refine wp_skip (block_n (then_n ?_))
  refine region_z hS (qf (o_add .t qi) r1 qz (qM rfl rfl qZ)) hB [35,30,29,28,27,26,25,24,23,22,21,20,19,18,17,16,15,14,13,12,11,9,8,7,2,1] [103,102,50,0] rfl rfl ?_
  clear hS;intro a w F hS
  refine then_n ?_
  replace hS:=hS.ent (i:=16) (s':=.pv (.int .i64 ((i+1:Nat):Int))) rfl (.int (wrap_succ (by omega)))
  obtain ⟨F,hS⟩:=hS.nm [15,14,8,7,2,1,9,16] [0,50] rfl rfl
  exact ⟨((i+1),_,_),F,⟨by omega,hst9⟩,hS,by omega⟩
 have hil:i=l.length:=by simp at hc0;omega
 have hq0:out=(l.filter fun x=>(seekK TxD.id was (TxD.id x)).isNone):=by rw [hq,hil,List.take_length]
 have hg:sortZ TxD.id (out++now)=turnK TxD.id l was now:=by rw [hq0];rfl
 refine wp_exit (then_x (then_x (block_x (then_n (wp_seq ?_)))))
 refine region_q hS (qM rfl rfl (qM rfl rfl (qf (o_append (sz:=3) (bs:=40) 50 (.mk' Tryz.underlying27 (by kernel_rfl) (by kernel_rfl)) (by intro x;rfl) .is (.sl .t) (by omega) (by decide)) ⟨rfl,rfl,trivial⟩ ⟨rfl,trivial⟩ (qN rfl rfl qZ)))) hB ?_
 clear hS;intro a w F hS
 replace hS:=hS.sub
 obtain ⟨F,hS⟩:=hS.nm [9,8,7] [50,0] rfl rfl
 try dsimp only [RS.sub,SF.sub,CF.sub,csub,Anc.sub,List.map,xC,xN,rHist,rTx,rOrd,rVer,rInt,rOp] at hS
 generalize Act.tau a 38=v38 at hS
 refine then_n (wp_seq ?_)
 refine region_z hS (qM rfl rfl (qf (o_makeFunc (Args.one .t)) r1 qz (qf (o_callRow 50 (sortST v38 (out++now) (by rw [List.length_append];omega) (by rw [hq0];exact hu) 110 Tryz.f110 [.ref [.clos 51 []]] Tryz.func110 rfl (by kernel_rfl) (fun x y=>turned1T_c x y)) Tryz.func109 rfl (by kernel_rfl) (Args.two .t .t)) r2 r1 qZ))) hB [9,8] [50,0] rfl rfl ?_
 clear hS;intro a w F hS
 refine then_n (wp_seq ?_)
 refine region_z hS (qM rfl rfl (qN rfl rfl qZ)) hB [8] [50,0] rfl rfl ?_
 clear hS;intro a w F hS
 refine then_n (wp_ret ?_)
 obtain ⟨F,hS⟩:=hS.give 50 8 rfl rfl
 refine ret_P hfr hS rfl (.tmp rfl .nil) (.one (.sl (by rw [hg])))
theorem turned1R_c (x y:OrdD):FnP Tryz.prog 113 [.agg (rOrd x),.agg (rOrd y),.ref [.clos 54 []]] (.int .i64 (cmpZ (OrdD.key x) (OrdD.key y))):=by
 refine FnP.mk Tryz.func113 rfl Tryz.ntmps113 rfl ?_
 intro B a w F hB hfr hS
 refine wp_seq ?_
 refine region_q hS (qf (oX 101 (.conv .t .agg)) r1 qz (qf (oX 102 (.conv .t .agg)) r1 qz (qf (oN qi) trivial qz qZ))) hB ?_
 clear hS;intro a w F hS
 replace hS:=hS.sub
 obtain ⟨F,hS⟩:=hS.nm [5,4,3,2] [102,101,0] rfl rfl
 try dsimp only [RS.sub,SF.sub,CF.sub,csub,Anc.sub,List.map,zCF,rHist,rTx,rOrd,rVer,rInt,rOp] at hS
 generalize Act.tau a 3=v3 at hS
 generalize Act.tau a 4=v4 at hS
 refine then_n (wp_seq ?_)
 refine region_any (by kernel_rfl) hS (by kernel_rfl) (qf (oR false 1 .t) r1 qz (qf (oL true 2 101 .is) r1 r1 (qf (o_callClosP (avs:=[.agg (rOrd x)]) .t (idR_c x) Tryz.func54 rfl (by kernel_rfl) (Args.one (.pagg .t))) r2 qz (qf (oR false 1 .t) r1 qz (qf (oL true 2 102 .is) r1 r1 (qf (o_callClosP (avs:=[.agg (rOrd y)]) .t (idR_c y) Tryz.func54 rfl (by kernel_rfl) (Args.one (.pagg .t))) r2 qz (qf (oP (cmpZ_c (OrdD.key x) (OrdD.key y)) Tryz.func111 (Args.two .t .t)) r2 qz (qN rfl rfl qZ)))))))) (by kernel_rfl) (by rw [hB];kernel_rfl) ?_
 clear hS;intro a w F hS
 obtain ⟨F,hS⟩:=hS.nm [5] [102,101,0] rfl rfl
 try dsimp only [List.map,xD,xE,xT,xU,ldSF,rHist,rTx,rOrd,rVer,rInt,rOp] at hS
 refine then_n (wp_ret ?_)
 refine ret_P hfr hS rfl (.tmp rfl .nil) (.one (.int rfl))
theorem turnedR_c (l was now:List OrdD) (hll:l.length≤1000) (hnl:now.length≤1000) (hu:Unl OrdD.key ((l.filter fun x=>(seekK OrdD.key was (OrdD.key x)).isNone)++now)):FnP Tryz.prog 57 [.sl rOrd l,.sl rOrd was,.sl rOrd now,.clos 54 []] (.sl rOrd (turnK OrdD.key l was now)):=by
 refine FnP.mk Tryz.func57 rfl Tryz.ntmps57 rfl ?_
 intro B a w F hB hfr hS
 refine wp_seq ?_
 refine region_q hS (qf (o_box1 101 .t one_clos) r1 qz (qf (oN (.c rfl)) trivial qz qZ)) hB ?_
 clear hS;intro a w F hS
 replace hS:=hS.sub
 obtain ⟨F,hS⟩:=hS.nm [8,7,2,1,0] [101,0] rfl rfl
 try dsimp only [RS.sub,SF.sub,CF.sub,csub,Anc.sub,List.map,zCF,rHist,rTx,rOrd,rVer,rInt,rOp] at hS
 generalize Act.tau a 7=v7 at hS
 obtain ⟨F,hS⟩:=hS.giveRef 101 7 rfl rfl rfl
 obtain ⟨F,hS⟩:=hS.nm [8,7,2,1,0] [0] rfl rfl
 try dsimp only [Go.Gm.unCF] at hS
 refine then_n (wp_seq ?_)
 refine region_z hS (qf (oN (.c rfl)) trivial qz qZ) hB [9,8,7,2,1,0] [0] rfl rfl ?_
 clear hS;intro a w F hS
 refine then_n (wp_seq (wp_seq ?_))
 refine region_z hS (qM rfl rfl (qf (o_len_sl Tryz.underlying28 .t) r1 qz (qf (oM qi) trivial qz qZ))) hB [16,15,14,9,8,7,2,1] [0] rfl rfl ?_
 clear hS;intro a w F hS
 refine then_n (wp_block ?_)
 replace hS:=hS.fresh 50 rfl
 replace hS:=hS.turn 50 rfl (nilRow (T:=37) (sz:=2) (R:=rOrd))
 refine loop_keep (σ:=(Nat)×(Value)×(List OrdD)) [1,2,7,8,14,15] [0] (fun s=>[(16,.pv (.int .i64 (s.1:Int))),(9,.pv (.is s.2.1))]) (fun s=>[(50,.ob (.val s.2.1) (rowH 37 2 rOrd s.2.2))]) (fun s=>s.1≤l.length∧(s.2.2=((l.take s.1).filter fun x=>(seekK OrdD.key was (OrdD.key x)).isNone))) (fun s=>l.length - s.1) ((0),(.slice none 0 0),([])) hS ⟨rfl,rfl,rfl,rfl,rfl,rfl,rfl,rfl,trivial⟩ ⟨rfl,rfl,trivial⟩ ⟨Nat.zero_le _,rfl⟩ ?_
 clear hS;intro s a w F hC hS
 obtain ⟨i,v,out⟩:=s
 try dsimp only at hC
 obtain ⟨F,hS⟩:=hS.nm [16,15,14,9,8,7,2,1] [50,0] rfl rfl
 try dsimp only at hS
 obtain ⟨hi,hq⟩:=hC
 have hol:out.length≤i:=by rw [hq];exact Nat.le_trans (List.length_filter_le _ _) (by rw [List.length_take];omega)
 refine wp_seq ?_
 refine region_z hS (qf (o_lss .t .t) r2 qz qZ) hB [17,16,15,14,9,8,7,2,1] [50,0] rfl rfl ?_
 clear hS;intro a w F hS
 refine then_n (wp_seq ?_)
 refine cond_b hS rfl (fun hc0=>?_) (fun hc0=>?_)
 ·skip
  have hil:i<l.length:=by simp at hc0;omega
  refine wp_skip (then_n (wp_seq (wp_block (wp_seq ?_))))
  refine region_q hS (qf (o_indexAddr_sl (sz:=2) (.mk Tryz.underlying28 (by kernel_rfl)) (by intro x;rfl) .t .t (by omega) (by omega)) r2 qz (qf (oR true 2 .t) r1 qz (qf (oH [.int .i64 0,.slice none 0 0] 102) trivial qz (qf (oA 2 102 .same .t) r2 r1 qZ)))) hB ?_
  clear hS;intro a w F hS
  replace hS:=hS.sub
  obtain ⟨F,hS⟩:=hS.nm [19,18,17,16,15,14,11,9,8,7,2,1] [102,50,0] rfl rfl
  try dsimp only [RS.sub,SF.sub,CF.sub,csub,Anc.sub,List.map,stCells,xL,xM,Nat.reduceAdd,xD,xE,xT,xU,xC,xN,zCF,ldSF,rHist,rTx,rOrd,rVer,rInt,rOp] at hS
  generalize Act.tau a 11=v11 at hS
  try simp only [Int.toNat_natCast] at hS
  refine then_n (wp_seq ?_)
  refine region_any (by kernel_rfl) hS (by kernel_rfl) (qM rfl rfl (qf (oR false 1 .t) r1 qz (qf (oL true 2 102 .is) r1 r1 (qf (o_callClosP (avs:=[.agg (rOrd (Go.Gm.nth l i))]) .t (idR_c (Go.Gm.nth l i)) Tryz.func54 rfl (by kernel_rfl) (Args.one (.pagg .t))) r2 qz (qf (oR false 1 .t) r1 qz (qf (oP (seekR_c was (OrdD.key (Go.Gm.nth l i))) Tryz.func107 (Args.three .t .t .t)) r3 qz (qM rfl rfl (qf (o_extract .t rfl) r1 qz (qf (o_extract .t rfl) r1 qz (qf (oH [.int .i64 0,.slice none 0 0] 103) trivial qz (qf (oA 2 103 .same (.conv .t .agg)) r2 r1 (qN rfl rfl qZ)))))))))))) (by kernel_rfl) (by rw [hB];kernel_rfl) ?_
  clear hS;intro a w F hS
  replace hS:=hS.sub
  obtain ⟨F,hS⟩:=hS.nm [28,27,26,25,24,23,22,21,20,19,18,17,16,15,14,13,12,11,9,8,7,2,1] [103,102,50,0] rfl rfl
  try dsimp only [RS.sub,SF.sub,CF.sub,csub,Anc.sub,List.map,stCells,xL,xM,Nat.reduceAdd,xD,xE,xT,xU,xC,xN,zCF,ldSF,rHist,rTx,rOrd,rVer,rInt,rOp] at hS
  generalize Act.tau a 12=v12 at hS
  refine then_n (wp_seq ?_)
  refine region_z hS (qM rfl rfl (qf (o_not .t) r1 qz qZ)) hB [30,29,28,27,26,25,24,23,22,21,20,19,18,17,16,15,14,13,12,11,9,8,7,2,1] [103,102,50,0] rfl rfl ?_
  clear hS;intro a w F hS
  refine then_n ?_
  refine cond_b hS rfl (fun hc1=>?_) (fun hc1=>?_)
  ·skip
   have h9:(seekK OrdD.key was (OrdD.key (Go.Gm.nth l i))).isNone=true:=by have h8:(!(seekK OrdD.key was (OrdD.key (Go.Gm.nth l i))).isSome)=true:=hc1;cases e:(seekK OrdD.key was (OrdD.key (Go.Gm.nth l i))) with | none=>rfl | some z=>rw [e] at h8;cases h8
   have hst9:out ++ [(Go.Gm.nth l i)] = ((l.take (i+1)).filter fun x=>(seekK OrdD.key was (OrdD.key x)).isNone):=by rw [hq,filter_step hil,if_pos h9]
   refine region_q hS (qM rfl rfl (qf (oL true 2 102 .is) r1 r1 (qf (o_buildSliceE (sz:=2) (zs:=[.int .i64 0,.slice none 0 0]) (r:=[(0,.tmp 32)]) (l:=[_,_]) Tryz.underlying28 (by kernel_rfl) (by kernel_rfl) (by kernel_rfl) (by kernel_rfl) rfl rfl (.agg rfl .t (by kernel_rfl) (by kernel_rfl) .nil) rfl) r1 qz (qf (o_append (sz:=2) (bs:=32) 50 (.mk' Tryz.underlying28 (by kernel_rfl) (by kernel_rfl)) (by intro x;rfl) .is (.arr (l':=[(Go.Gm.nth l i)]) .t) (by simp only [List.length_append,List.length_cons,List.length_nil];omega) (by decide)) ⟨rfl,rfl,trivial⟩ ⟨rfl,trivial⟩ (qN rfl rfl qZ))))) hB ?_
   clear hS;intro a w F hS
   replace hS:=hS.sub
   obtain ⟨F,hS⟩:=hS.nm [34,33,32,31,30,29,28,27,26,25,24,23,22,21,20,19,18,17,16,15,14,13,12,11,9,8,7,2,1] [103,102,50,0] rfl rfl
   try dsimp only [RS.sub,SF.sub,CF.sub,csub,Anc.sub,List.map,stCells,xL,xM,Nat.reduceAdd,xD,xE,xT,xU,xC,xN,zCF,ldSF,rHist,rTx,rOrd,rVer,rInt,rOp] at hS
   generalize Act.tau a 34=v34 at hS
   refine block_n (then_n ?_)
   refine region_z hS (qf (o_add .t qi) r1 qz (qM rfl rfl qZ)) hB [35,34,33,32,31,30,29,28,27,26,25,24,23,22,21,20,19,18,17,16,15,14,13,12,11,9,8,7,2,1] [103,102,50,0] rfl rfl ?_
   clear hS;intro a w F hS
   refine then_n ?_
   replace hS:=hS.ent (i:=16) (s':=.pv (.int .i64 ((i+1:Nat):Int))) rfl (.int (wrap_succ (by omega)))
   obtain ⟨F,hS⟩:=hS.nm [15,14,8,7,2,1,9,16] [0,50] rfl rfl
   exact ⟨((i+1),_,_),F,⟨by omega,hst9⟩,hS,by omega⟩
  have h9:(seekK OrdD.key was (OrdD.key (Go.Gm.nth l i))).isNone=false:=by have h8:(!(seekK OrdD.key was (OrdD.key (Go.Gm.nth l i))).isSome)=false:=hc1;cases e:(seekK OrdD.key was (OrdD.key (Go.Gm.nth l i))) with | none=>rw [e] at h8;cases h8 | some z=>rfl
  have hst9:out=((l.take (i+1)).filter fun x=>(seekK OrdD.key was (OrdD.key x)).isNone):=by rw [hq,filter_step hil,if_neg (by rw [h9];simp),List.append_nil]
  refine wp_skip (block_n (then_n ?_))
  refine region_z hS (qf (o_add .t qi) r1 qz (qM rfl rfl qZ)) hB [35,30,29,28,27,26,25,24,23,22,21,20,19,18,17,16,15,14,13,12,11,9,8,7,2,1] [103,102,50,0] rfl rfl ?_
  clear hS;intro a w F hS
  refine then_n ?_
  replace hS:=hS.ent (i:=16) (s':=.pv (.int .i64 ((i+1:Nat):Int))) rfl (.int (wrap_succ (by omega)))
  obtain ⟨F,hS⟩:=hS.nm [15,14,8,7,2,1,9,16] [0,50] rfl rfl
  exact ⟨((i+1),_,_),F,⟨by omega,hst9⟩,hS,by omega⟩
 have hil:i=l.length:=by simp at hc0;omega
 have hq0:out=(l.filter fun x=>(seekK OrdD.key was (OrdD.key x)).isNone):=by rw [hq,hil,List.take_length]
 have hg:sortZ OrdD.key (out++now)=turnK OrdD.key l was now:=by rw [hq0];rfl
 refine wp_exit (then_x (then_x (block_x (then_n (wp_seq ?_)))))
 refine region_q hS (qM rfl rfl (qM rfl rfl (qf (o_append (sz:=2) (bs:=32) 50 (.mk' Tryz.underlying28 (by kernel_rfl) (by kernel_rfl)) (by intro x;rfl) .is (.sl .t) (by omega) (by decide)) ⟨rfl,rfl,trivial⟩ ⟨rfl,trivial⟩ (qN rfl rfl qZ)))) hB ?_
 clear hS;intro a w F hS
 replace hS:=hS.sub
 obtain ⟨F,hS⟩:=hS.nm [9,8,7] [50,0] rfl rfl
 try dsimp only [RS.sub,SF.sub,CF.sub,csub,Anc.sub,List.map,xC,xN,rHist,rTx,rOrd,rVer,rInt,rOp] at hS
 generalize Act.tau a 38=v38 at hS
 refine then_n (wp_seq ?_)
 refine region_z hS (qM rfl rfl (qf (o_makeFunc (Args.one .t)) r1 qz (qf (o_callRow 50 (sortSR v38 (out++now) (by rw [List.length_append];omega) (by rw [hq0];exact hu) 113 Tryz.f113 [.ref [.clos 54 []]] Tryz.func113 rfl (by kernel_rfl) (fun x y=>turned1R_c x y)) Tryz.func112 rfl (by kernel_rfl) (Args.two .t .t)) r2 r1 qZ))) hB [9,8] [50,0] rfl rfl ?_
 clear hS;intro a w F hS
 refine then_n (wp_seq ?_)
 refine region_z hS (qM rfl rfl (qN rfl rfl qZ)) hB [8] [50,0] rfl rfl ?_
 clear hS;intro a w F hS
 refine then_n (wp_ret ?_)
 obtain ⟨F,hS⟩:=hS.give 50 8 rfl rfl
 refine ret_P hfr hS rfl (.tmp rfl .nil) (.one (.sl (by rw [hg])))
end Go.Proofs.YtcfgcpcakdknkaaGreat
