/- Deltas: the document. No condition beyond those that each theorem says. -/
import Derived.Test.YtcfgcpcakdknkaaGreatDl3
import Derived.Test.YtcfgcpcakdknkaaGreatDaX
import Derived.Test.YtcfgcpcakdknkaaGreatHiX
namespace Go.Proofs.YtcfgcpcakdknkaaGreat
open Go Go.Gm
set_option linter.unusedVariables false
set_option linter.unusedSimpArgs false
set_option maxHeartbeats 4000000
set_option maxRecDepth 8000
theorem tx14_c (l:List TxD) (n:Int) (hs:SmallT l):FnP Tryz.prog 99 [.sl rTx l,.int .i64 n] (.tup [.agg (rTx ((seekK TxD.id l n).getD zeroT)),.bool (seekK TxD.id l n).isSome]):=by
 refine FnP.mk Tryz.func99 rfl Tryz.ntmps99 rfl ?_
 intro B a w F hB hfr hS
 refine wp_seq ?_
 refine region_q hS (qf (oH [.int .i64 0,.bool false,.slice none 0 0] 101) trivial qz (qf (oN .cb) trivial qz qZ)) hB ?_
 clear hS;intro a w F hS
 replace hS:=hS.sub
 obtain ⟨F,hS⟩:=hS.nm [5,4,1,0] [101,0] rfl rfl
 try dsimp only [RS.sub,SF.sub,CF.sub,csub,Anc.sub,List.map,zCF,rHist,rTx,rOrd,rVer,rInt,rOp] at hS
 generalize Act.tau a 4=v4 at hS
 refine then_n (wp_seq ?_)
 refine region_z hS (qM rfl rfl (qf (oB [(0,.tmp 6)] [.slice none 0 0,.slice none 0 0] [(0,1),(1,1)] (.one rfl .t one_sl (by kernel_rfl) .nil)) r1 qz (qM rfl rfl (qf (oP (refFind_c ⟨l,[]⟩ n hs) Tryz.func88 (Args.two (.conv (.pagg .t) (Ent.paggLe (l:=[.sl rTx l,.is (.slice none 0 0)]) (l':=rHist ⟨l,[]⟩) ⟨PVLe.refl,PVLe.nilSl,trivial⟩)) .t)) r2 qz (qf (o_extract .t rfl) r1 qz (qf (o_extract .t rfl) r1 qz (qf (oA 3 101 .is (.conv .t .agg)) r2 r1 (qN rfl rfl qZ)))))))) hB [5,4] [101,0] rfl rfl ?_
 clear hS;intro a w F hS
 refine then_n (wp_ret ?_)
 refine ret_P hfr hS rfl (.cell (n:=101) (ag:=true) (sz:=3) rfl .is rfl (by kernel_rfl) (by kernel_rfl) (by kernel_rfl) (.tmp rfl .nil)) (.two (.aggU rfl rfl) (.bool rfl))
theorem ord14_c (l:List OrdD) (n:Int):FnP Tryz.prog 100 [.sl rOrd l,.int .i64 n] (.tup [.agg (rOrd ((seekK OrdD.key l n).getD zeroR)),.bool (seekK OrdD.key l n).isSome]):=by
 refine FnP.mk Tryz.func100 rfl Tryz.ntmps100 rfl ?_
 intro B a w F hB hfr hS
 have hxl:=Sat.lenSl hS (i:=0) rfl
 refine wp_seq ?_
 refine region_q hS (qf (oH [.int .i64 0,.slice none 0 0] 101) trivial qz (qf (oN .cb) trivial qz qZ)) hB ?_
 clear hS;intro a w F hS
 replace hS:=hS.sub
 obtain ⟨F,hS⟩:=hS.nm [5,4,1,0] [101,0] rfl rfl
 try dsimp only [RS.sub,SF.sub,CF.sub,csub,Anc.sub,List.map,zCF,rHist,rTx,rOrd,rVer,rInt,rOp] at hS
 generalize Act.tau a 4=v4 at hS
 refine then_n (wp_seq (wp_seq ?_))
 refine region_z hS (qM rfl rfl (qf (o_len_sl Tryz.underlying28 .t) r1 qz (qf (oM qi) trivial qz qZ))) hB [10,9,8,5,4,1] [101,0] rfl rfl ?_
 clear hS;intro a w F hS
 refine then_n (wp_block ?_)
 refine loop_keep (σ:=(Nat)) [1,4,5,8,9] [0,101] (fun s=>[(10,.pv (.int .i64 (s:Int)))]) (fun s=>[]) (fun s=>s≤l.length∧(∀ k,k<s→OrdD.key (Go.Gm.nth l k)≠n)) (fun s=>l.length - s) (0) hS ⟨rfl,rfl,rfl,rfl,rfl,rfl,trivial⟩ ⟨rfl,rfl,trivial⟩ ⟨Nat.zero_le _,fun k hk=>absurd hk (Nat.not_lt_zero k)⟩ ?_
 clear hS;intro i a w F hC hS
 try dsimp only at hC
 obtain ⟨F,hS⟩:=hS.nm [10,9,8,5,4,1] [101,0] rfl rfl
 try dsimp only at hS
 obtain ⟨hi,hq⟩:=hC
 refine wp_seq ?_
 refine region_z hS (qf (o_lss .t .t) r2 qz qZ) hB [11,10,9,8,5,4,1] [101,0] rfl rfl ?_
 clear hS;intro a w F hS
 refine then_n (wp_seq ?_)
 refine cond_b hS rfl (fun hc0=>?_) (fun hc0=>?_)
 ·skip
  have hil:i<l.length:=by simp at hc0;omega
  refine wp_skip (then_n (wp_seq (wp_block (wp_seq ?_))))
  refine region_q hS (qf (o_indexAddr_sl (sz:=2) (.mk Tryz.underlying28 (by kernel_rfl)) (by intro x;rfl) .t .t (by omega) (by omega)) r2 qz (qf (oR true 2 .t) r1 qz (qf (oH [.int .i64 0,.slice none 0 0] 102) trivial qz (qf (oA 2 102 .same .t) r2 r1 qZ)))) hB ?_
  clear hS;intro a w F hS
  replace hS:=hS.sub
  obtain ⟨F,hS⟩:=hS.nm [13,12,11,10,9,8,7,5,4,1] [102,101,0] rfl rfl
  try dsimp only [RS.sub,SF.sub,CF.sub,csub,Anc.sub,List.map,stCells,xL,xM,Nat.reduceAdd,xD,xE,xT,xU,xC,xN,zCF,ldSF,rHist,rTx,rOrd,rVer,rInt,rOp] at hS
  generalize Act.tau a 7=v7 at hS
  try simp only [Int.toNat_natCast] at hS
  refine then_n (wp_seq ?_)
  refine region_z hS (qf (oF 0 102 .is) r1 r1 (qf (oL false 1 102 .adr) r1 r1 (qM rfl rfl (qf (o_eql .t .t) r2 qz qZ)))) hB [17,16,15,14,13,12,11,10,9,8,7,5,4,1] [102,101,0] rfl rfl ?_
  clear hS;intro a w F hS
  refine then_n ?_
  refine cond_b hS rfl (fun hc1=>?_) (fun hc1=>?_)
  ·skip
   have hg:seekK OrdD.key l n=some (Go.Gm.nth l i):=seekK_at hil (by simpa using hc1) hq
   refine wp_seq ?_
   refine region_z hS (qf (oL true 2 102 .is) r1 r1 (qf (oA 2 101 .is .t) r2 r1 (qf (oN .cb) trivial qz qZ))) hB [18,17,16,15,14,13,12,11,10,9,8,7,5,4,1] [102,101,0] rfl rfl ?_
   clear hS;intro a w F hS
   refine then_n (wp_ret (block_r (then_r (then_r (block_r (then_r ?_))))))
   refine ret_P hfr hS rfl (.cell (n:=101) (ag:=true) (sz:=2) rfl .is rfl (by kernel_rfl) (by kernel_rfl) (by kernel_rfl) (.tmp rfl .nil)) (.two (by rw [hg];first | exact .aggU rfl rfl | exact .aggLe rfl ⟨.refl,.nilSl,trivial⟩) (.bool (by rw [hg];rfl)))
  have hne:OrdD.key (Go.Gm.nth l i)≠n:=by simpa using hc1
  refine wp_skip (block_n (then_n ?_))
  refine region_z hS (qf (o_add .t qi) r1 qz (qM rfl rfl qZ)) hB [19,17,16,15,14,13,12,11,10,9,8,7,5,4,1] [102,101,0] rfl rfl ?_
  clear hS;intro a w F hS
  refine then_n ?_
  replace hS:=hS.ent (i:=10) (s':=.pv (.int .i64 ((i+1:Nat):Int))) rfl (.int (wrap_succ (by omega)))
  obtain ⟨F,hS⟩:=hS.nm [9,8,5,4,1,10] [101,0] rfl rfl
  exact ⟨(i+1),F,⟨by omega,(fun k hk=>by rcases Nat.lt_or_eq_of_le (Nat.le_of_lt_succ hk) with h9 | h9;exact hq k h9;rw [h9];exact hne)⟩,hS,by omega⟩
 have hil:i=l.length:=by simp at hc0;omega
 have hg:seekK OrdD.key l n=none:=seekK_none (by rw [← hil];exact hq)
 refine wp_exit (then_x (then_x (block_x (then_n (wp_seq ?_)))))
 refine region_z hS (qf (oB [] [.int .i64 0,.slice none 0 0] [(0,1),(1,1)] .nil) trivial qz (qf (oA 2 101 .is .t) r2 r1 (qf (oN .cb) trivial qz qZ))) hB [5,4] [101,0] rfl rfl ?_
 clear hS;intro a w F hS
 refine then_n (wp_ret ?_)
 refine ret_P hfr hS rfl (.cell (n:=101) (ag:=true) (sz:=2) rfl .is rfl (by kernel_rfl) (by kernel_rfl) (by kernel_rfl) (.tmp rfl .nil)) (.two (by rw [hg];first | exact .aggU rfl rfl | exact .aggLe rfl ⟨.refl,.nilSl,trivial⟩) (.bool (by rw [hg];rfl)))
theorem lessT14_c (c d:List TxD) (hll:c.length≤1000000) (hsd:SmallT d):FnP Tryz.prog 45 [.sl rTx c,.sl rTx d] (.sl rTx (lessK TxD.id c d)):=by
 refine FnP.mk Tryz.func45 rfl Tryz.ntmps45 rfl ?_
 intro B a w F hB hfr hS
 refine wp_seq ?_
 refine region_z hS (qf (oN (.c rfl)) trivial qz qZ) hB [4,1,0] [0] rfl rfl ?_
 clear hS;intro a w F hS
 refine then_n (wp_seq ?_)
 refine region_z hS (qf (oN (.c rfl)) trivial qz qZ) hB [5,4,1,0] [0] rfl rfl ?_
 clear hS;intro a w F hS
 refine then_n (wp_seq (wp_seq ?_))
 refine region_z hS (qM rfl rfl (qf (o_len_sl Tryz.underlying27 .t) r1 qz (qf (oM qi) trivial qz qZ))) hB [12,11,10,5,4,1] [0] rfl rfl ?_
 clear hS;intro a w F hS
 refine then_n (wp_block ?_)
 replace hS:=hS.fresh 50 rfl
 replace hS:=hS.turn 50 rfl (nilRow (T:=34) (sz:=3) (R:=rTx))
 refine loop_keep (σ:=(Nat)×(Value)×(List TxD)) [1,4,10,11] [0] (fun s=>[(12,.pv (.int .i64 (s.1:Int))),(5,.pv (.is s.2.1))]) (fun s=>[(50,.ob (.val s.2.1) (rowH 34 3 rTx s.2.2))]) (fun s=>s.1≤c.length∧(s.2.2=lessK TxD.id (c.take s.1) d)) (fun s=>c.length - s.1) ((0),(.slice none 0 0),([])) hS ⟨rfl,rfl,rfl,rfl,rfl,rfl,trivial⟩ ⟨rfl,rfl,trivial⟩ ⟨Nat.zero_le _,rfl⟩ ?_
 clear hS;intro s a w F hC hS
 obtain ⟨i,v,out⟩:=s
 try dsimp only at hC
 obtain ⟨F,hS⟩:=hS.nm [12,11,10,5,4,1] [50,0] rfl rfl
 try dsimp only at hS
 obtain ⟨hi,hq⟩:=hC
 have hol:out.length≤i:=by rw [hq];exact Nat.le_trans (lessK_len _ _) (by rw [List.length_take];omega)
 refine wp_seq ?_
 refine region_z hS (qf (o_lss .t .t) r2 qz qZ) hB [13,12,11,10,5,4,1] [50,0] rfl rfl ?_
 clear hS;intro a w F hS
 refine then_n (wp_seq ?_)
 refine cond_b hS rfl (fun hc0=>?_) (fun hc0=>?_)
 ·skip
  have hil:i<c.length:=by simp at hc0;omega
  have hcd:(!(seekK TxD.id d (TxD.id (Go.Gm.nth c i))).isSome || !decide ((Go.Gm.nth c i)=(seekK TxD.id d (TxD.id (Go.Gm.nth c i))).getD zeroT))=decide ((seekK TxD.id d (TxD.id (Go.Gm.nth c i)))≠some (Go.Gm.nth c i)):=by cases hsk:(seekK TxD.id d (TxD.id (Go.Gm.nth c i))) with | none=>simp | some z=>rw [Bool.eq_iff_iff];simp;exact not_congr ⟨Eq.symm,Eq.symm⟩
  refine wp_skip (then_n (wp_seq (wp_block (wp_seq ?_))))
  refine region_q hS (qf (o_indexAddr_sl (sz:=3) (.mk Tryz.underlying27 (by kernel_rfl)) (by intro x;rfl) .t .t (by omega) (by omega)) r2 qz (qf (oR true 3 .t) r1 qz (qf (oH [.int .i64 0,.bool false,.slice none 0 0] 101) trivial qz (qf (oA 3 101 .same .t) r2 r1 qZ)))) hB ?_
  clear hS;intro a w F hS
  replace hS:=hS.sub
  obtain ⟨F,hS⟩:=hS.nm [15,14,13,12,11,10,7,5,4,1] [101,50,0] rfl rfl
  try dsimp only [RS.sub,SF.sub,CF.sub,csub,Anc.sub,List.map,stCells,xL,xM,Nat.reduceAdd,xD,xE,xT,xU,xC,xN,zCF,ldSF,rHist,rTx,rOrd,rVer,rInt,rOp] at hS
  generalize Act.tau a 7=v7 at hS
  try simp only [Int.toNat_natCast] at hS
  refine then_n (wp_seq ?_)
  refine region_q hS (qM rfl rfl (qf (oF 0 101 .is) r1 r1 (qf (oL false 1 101 .adr) r1 r1 (qf (oP (tx14_c d (TxD.id (Go.Gm.nth c i)) hsd) Tryz.func99 (Args.two .t .t)) r2 qz (qM rfl rfl (qf (o_extract .t rfl) r1 qz (qf (o_extract .t rfl) r1 qz (qf (oH [.int .i64 0,.bool false,.slice none 0 0] 102) trivial qz (qf (oA 3 102 .same (.conv .t .agg)) r2 r1 (qN rfl rfl qZ)))))))))) hB ?_
  clear hS;intro a w F hS
  replace hS:=hS.sub
  obtain ⟨F,hS⟩:=hS.nm [22,21,20,19,18,17,16,15,14,13,12,11,10,9,8,7,5,4,1] [102,101,50,0] rfl rfl
  try dsimp only [RS.sub,SF.sub,CF.sub,csub,Anc.sub,List.map,stCells,xL,xM,Nat.reduceAdd,xD,xE,xT,xU,xC,xN,zCF,ldSF,rHist,rTx,rOrd,rVer,rInt,rOp] at hS
  generalize Act.tau a 8=v8 at hS
  refine then_n (wp_seq ?_)
  refine region_z hS (qM rfl rfl (qf (o_not .t) r1 qz (qM rfl rfl (qk rfl (fun h=>oL true 3 101 .is) r2 r1 (qk rfl (fun h=>oL true 3 102 .is) r2 r1 (qk rfl (fun h=>oP (refTxSame_c (Go.Gm.nth c i) ((seekK TxD.id d (TxD.id (Go.Gm.nth c i))).getD zeroT)) Tryz.func60 (Args.two (.pagg (.w h)) (.pagg (.w h)))) r3 qz (qk rfl (fun h=>o_not (.w h)) r2 qz (qf (o_or2 .t .t) r2 qz qZ)))))))) hB [30,29,28,27,26,25,24,23,22,21,20,19,18,17,16,15,14,13,12,11,10,9,8,7,5,4,1] [102,101,50,0] rfl rfl ?_
  clear hS;intro a w F hS
  refine then_n ?_
  refine cond_b hS rfl (fun hc1=>?_) (fun hc1=>?_)
  ·skip
   have h9:(!(seekK TxD.id d (TxD.id (Go.Gm.nth c i))).isSome || !decide ((Go.Gm.nth c i)=(seekK TxD.id d (TxD.id (Go.Gm.nth c i))).getD zeroT))=true:=hc1
   rw [hcd] at h9
   have hst9:out ++ [(Go.Gm.nth c i)] = lessK TxD.id (c.take (i+1)) d:=by rw [hq];unfold lessK;rw [filter_step hil,if_pos h9]
   refine region_q hS (qM rfl rfl (qf (oL true 3 101 .is) r1 r1 (qf (o_buildSliceE (sz:=3) (zs:=[.int .i64 0,.bool false,.slice none 0 0]) (r:=[(0,.tmp 32)]) (l:=[_,_,_]) Tryz.underlying27 (by kernel_rfl) (by kernel_rfl) (by kernel_rfl) (by kernel_rfl) rfl rfl (.agg rfl .t (by kernel_rfl) (by kernel_rfl) .nil) rfl) r1 qz (qf (o_append (sz:=3) (bs:=40) 50 (.mk' Tryz.underlying27 (by kernel_rfl) (by kernel_rfl)) (by intro x;rfl) .is (.arr (l':=[(Go.Gm.nth c i)]) .t) (by simp only [List.length_append,List.length_cons,List.length_nil];omega) (by decide)) ⟨rfl,rfl,trivial⟩ ⟨rfl,trivial⟩ (qN rfl rfl qZ))))) hB ?_
   clear hS;intro a w F hS
   replace hS:=hS.sub
   obtain ⟨F,hS⟩:=hS.nm [34,33,32,31,30,29,28,27,26,25,24,23,22,21,20,19,18,17,16,15,14,13,12,11,10,9,8,7,5,4,1] [102,101,50,0] rfl rfl
   try dsimp only [RS.sub,SF.sub,CF.sub,csub,Anc.sub,List.map,stCells,xL,xM,Nat.reduceAdd,xD,xE,xT,xU,xC,xN,zCF,ldSF,rHist,rTx,rOrd,rVer,rInt,rOp] at hS
   generalize Act.tau a 34=v34 at hS
   refine block_n (then_n ?_)
   refine region_z hS (qf (o_add .t qi) r1 qz (qM rfl rfl qZ)) hB [35,34,33,32,31,30,29,28,27,26,25,24,23,22,21,20,19,18,17,16,15,14,13,12,11,10,9,8,7,5,4,1] [102,101,50,0] rfl rfl ?_
   clear hS;intro a w F hS
   refine then_n ?_
   replace hS:=hS.ent (i:=12) (s':=.pv (.int .i64 ((i+1:Nat):Int))) rfl (.int (wrap_succ (by omega)))
   obtain ⟨F,hS⟩:=hS.nm [11,10,4,1,5,12] [0,50] rfl rfl
   exact ⟨((i+1),_,_),F,⟨by omega,hst9⟩,hS,by omega⟩
  have h9:(!(seekK TxD.id d (TxD.id (Go.Gm.nth c i))).isSome || !decide ((Go.Gm.nth c i)=(seekK TxD.id d (TxD.id (Go.Gm.nth c i))).getD zeroT))=false:=hc1
  rw [hcd] at h9
  have hst9:out=lessK TxD.id (c.take (i+1)) d:=by rw [hq];unfold lessK;rw [filter_step hil,if_neg (by rw [h9];simp),List.append_nil]
  refine wp_skip (block_n (then_n ?_))
  refine region_z hS (qf (o_add .t qi) r1 qz (qM rfl rfl qZ)) hB [35,30,29,28,27,26,25,24,23,22,21,20,19,18,17,16,15,14,13,12,11,10,9,8,7,5,4,1] [102,101,50,0] rfl rfl ?_
  clear hS;intro a w F hS
  refine then_n ?_
  replace hS:=hS.ent (i:=12) (s':=.pv (.int .i64 ((i+1:Nat):Int))) rfl (.int (wrap_succ (by omega)))
  obtain ⟨F,hS⟩:=hS.nm [11,10,4,1,5,12] [0,50] rfl rfl
  exact ⟨((i+1),_,_),F,⟨by omega,hst9⟩,hS,by omega⟩
 have hil:i=c.length:=by simp at hc0;omega
 have hg:out=lessK TxD.id c d:=by rw [hq,hil,List.take_length]
 refine wp_exit (then_x (then_x (block_x (then_n (wp_seq ?_)))))
 refine region_z hS (qM rfl rfl (qN rfl rfl qZ)) hB [4] [50,0] rfl rfl ?_
 clear hS;intro a w F hS
 refine then_n (wp_ret ?_)
 obtain ⟨F,hS⟩:=hS.give 50 4 rfl rfl
 refine ret_P hfr hS rfl (.tmp rfl .nil) (.one (.sl (by rw [hg])))
theorem lessR14_c (c d:List OrdD) (hll:c.length≤1000000):FnP Tryz.prog 46 [.sl rOrd c,.sl rOrd d] (.sl rOrd (lessK OrdD.key c d)):=by
 refine FnP.mk Tryz.func46 rfl Tryz.ntmps46 rfl ?_
 intro B a w F hB hfr hS
 refine wp_seq ?_
 refine region_z hS (qf (oN (.c rfl)) trivial qz qZ) hB [4,1,0] [0] rfl rfl ?_
 clear hS;intro a w F hS
 refine then_n (wp_seq ?_)
 refine region_z hS (qf (oN (.c rfl)) trivial qz qZ) hB [5,4,1,0] [0] rfl rfl ?_
 clear hS;intro a w F hS
 refine then_n (wp_seq (wp_seq ?_))
 refine region_z hS (qM rfl rfl (qf (o_len_sl Tryz.underlying28 .t) r1 qz (qf (oM qi) trivial qz qZ))) hB [12,11,10,5,4,1] [0] rfl rfl ?_
 clear hS;intro a w F hS
 refine then_n (wp_block ?_)
 replace hS:=hS.fresh 50 rfl
 replace hS:=hS.turn 50 rfl (nilRow (T:=37) (sz:=2) (R:=rOrd))
 refine loop_keep (σ:=(Nat)×(Value)×(List OrdD)) [1,4,10,11] [0] (fun s=>[(12,.pv (.int .i64 (s.1:Int))),(5,.pv (.is s.2.1))]) (fun s=>[(50,.ob (.val s.2.1) (rowH 37 2 rOrd s.2.2))]) (fun s=>s.1≤c.length∧(s.2.2=lessK OrdD.key (c.take s.1) d)) (fun s=>c.length - s.1) ((0),(.slice none 0 0),([])) hS ⟨rfl,rfl,rfl,rfl,rfl,rfl,trivial⟩ ⟨rfl,rfl,trivial⟩ ⟨Nat.zero_le _,rfl⟩ ?_
 clear hS;intro s a w F hC hS
 obtain ⟨i,v,out⟩:=s
 try dsimp only at hC
 obtain ⟨F,hS⟩:=hS.nm [12,11,10,5,4,1] [50,0] rfl rfl
 try dsimp only at hS
 obtain ⟨hi,hq⟩:=hC
 have hol:out.length≤i:=by rw [hq];exact Nat.le_trans (lessK_len _ _) (by rw [List.length_take];omega)
 refine wp_seq ?_
 refine region_z hS (qf (o_lss .t .t) r2 qz qZ) hB [13,12,11,10,5,4,1] [50,0] rfl rfl ?_
 clear hS;intro a w F hS
 refine then_n (wp_seq ?_)
 refine cond_b hS rfl (fun hc0=>?_) (fun hc0=>?_)
 ·skip
  have hil:i<c.length:=by simp at hc0;omega
  have hcd:(!(seekK OrdD.key d (OrdD.key (Go.Gm.nth c i))).isSome || !decide ((Go.Gm.nth c i)=(seekK OrdD.key d (OrdD.key (Go.Gm.nth c i))).getD zeroR))=decide ((seekK OrdD.key d (OrdD.key (Go.Gm.nth c i)))≠some (Go.Gm.nth c i)):=by cases hsk:(seekK OrdD.key d (OrdD.key (Go.Gm.nth c i))) with | none=>simp | some z=>rw [Bool.eq_iff_iff];simp;exact not_congr ⟨Eq.symm,Eq.symm⟩
  refine wp_skip (then_n (wp_seq (wp_block (wp_seq ?_))))
  refine region_q hS (qf (o_indexAddr_sl (sz:=2) (.mk Tryz.underlying28 (by kernel_rfl)) (by intro x;rfl) .t .t (by omega) (by omega)) r2 qz (qf (oR true 2 .t) r1 qz (qf (oH [.int .i64 0,.slice none 0 0] 101) trivial qz (qf (oA 2 101 .same .t) r2 r1 qZ)))) hB ?_
  clear hS;intro a w F hS
  replace hS:=hS.sub
  obtain ⟨F,hS⟩:=hS.nm [15,14,13,12,11,10,7,5,4,1] [101,50,0] rfl rfl
  try dsimp only [RS.sub,SF.sub,CF.sub,csub,Anc.sub,List.map,stCells,xL,xM,Nat.reduceAdd,xD,xE,xT,xU,xC,xN,zCF,ldSF,rHist,rTx,rOrd,rVer,rInt,rOp] at hS
  generalize Act.tau a 7=v7 at hS
  try simp only [Int.toNat_natCast] at hS
  refine then_n (wp_seq ?_)
  refine region_q hS (qM rfl rfl (qf (oF 0 101 .is) r1 r1 (qf (oL false 1 101 .adr) r1 r1 (qf (oP (ord14_c d (OrdD.key (Go.Gm.nth c i))) Tryz.func100 (Args.two .t .t)) r2 qz (qM rfl rfl (qf (o_extract .t rfl) r1 qz (qf (o_extract .t rfl) r1 qz (qf (oH [.int .i64 0,.slice none 0 0] 102) trivial qz (qf (oA 2 102 .same (.conv .t .agg)) r2 r1 (qN rfl rfl qZ)))))))))) hB ?_
  clear hS;intro a w F hS
  replace hS:=hS.sub
  obtain ⟨F,hS⟩:=hS.nm [22,21,20,19,18,17,16,15,14,13,12,11,10,9,8,7,5,4,1] [102,101,50,0] rfl rfl
  try dsimp only [RS.sub,SF.sub,CF.sub,csub,Anc.sub,List.map,stCells,xL,xM,Nat.reduceAdd,xD,xE,xT,xU,xC,xN,zCF,ldSF,rHist,rTx,rOrd,rVer,rInt,rOp] at hS
  generalize Act.tau a 8=v8 at hS
  refine then_n (wp_seq ?_)
  refine region_z hS (qM rfl rfl (qf (o_not .t) r1 qz (qM rfl rfl (qk rfl (fun h=>oL true 2 101 .is) r2 r1 (qk rfl (fun h=>oL true 2 102 .is) r2 r1 (qk rfl (fun h=>oP (sameOrder_c (Go.Gm.nth c i) ((seekK OrdD.key d (OrdD.key (Go.Gm.nth c i))).getD zeroR)) Tryz.func61 (Args.two (.pagg (.w h)) (.pagg (.w h)))) r3 qz (qk rfl (fun h=>o_not (.w h)) r2 qz (qf (o_or2 .t .t) r2 qz qZ)))))))) hB [30,29,28,27,26,25,24,23,22,21,20,19,18,17,16,15,14,13,12,11,10,9,8,7,5,4,1] [102,101,50,0] rfl rfl ?_
  clear hS;intro a w F hS
  refine then_n ?_
  refine cond_b hS rfl (fun hc1=>?_) (fun hc1=>?_)
  ·skip
   have h9:(!(seekK OrdD.key d (OrdD.key (Go.Gm.nth c i))).isSome || !decide ((Go.Gm.nth c i)=(seekK OrdD.key d (OrdD.key (Go.Gm.nth c i))).getD zeroR))=true:=hc1
   rw [hcd] at h9
   have hst9:out ++ [(Go.Gm.nth c i)] = lessK OrdD.key (c.take (i+1)) d:=by rw [hq];unfold lessK;rw [filter_step hil,if_pos h9]
   refine region_q hS (qM rfl rfl (qf (oL true 2 101 .is) r1 r1 (qf (o_buildSliceE (sz:=2) (zs:=[.int .i64 0,.slice none 0 0]) (r:=[(0,.tmp 32)]) (l:=[_,_]) Tryz.underlying28 (by kernel_rfl) (by kernel_rfl) (by kernel_rfl) (by kernel_rfl) rfl rfl (.agg rfl .t (by kernel_rfl) (by kernel_rfl) .nil) rfl) r1 qz (qf (o_append (sz:=2) (bs:=32) 50 (.mk' Tryz.underlying28 (by kernel_rfl) (by kernel_rfl)) (by intro x;rfl) .is (.arr (l':=[(Go.Gm.nth c i)]) .t) (by simp only [List.length_append,List.length_cons,List.length_nil];omega) (by decide)) ⟨rfl,rfl,trivial⟩ ⟨rfl,trivial⟩ (qN rfl rfl qZ))))) hB ?_
   clear hS;intro a w F hS
   replace hS:=hS.sub
   obtain ⟨F,hS⟩:=hS.nm [34,33,32,31,30,29,28,27,26,25,24,23,22,21,20,19,18,17,16,15,14,13,12,11,10,9,8,7,5,4,1] [102,101,50,0] rfl rfl
   try dsimp only [RS.sub,SF.sub,CF.sub,csub,Anc.sub,List.map,stCells,xL,xM,Nat.reduceAdd,xD,xE,xT,xU,xC,xN,zCF,ldSF,rHist,rTx,rOrd,rVer,rInt,rOp] at hS
   generalize Act.tau a 34=v34 at hS
   refine block_n (then_n ?_)
   refine region_z hS (qf (o_add .t qi) r1 qz (qM rfl rfl qZ)) hB [35,34,33,32,31,30,29,28,27,26,25,24,23,22,21,20,19,18,17,16,15,14,13,12,11,10,9,8,7,5,4,1] [102,101,50,0] rfl rfl ?_
   clear hS;intro a w F hS
   refine then_n ?_
   replace hS:=hS.ent (i:=12) (s':=.pv (.int .i64 ((i+1:Nat):Int))) rfl (.int (wrap_succ (by omega)))
   obtain ⟨F,hS⟩:=hS.nm [11,10,4,1,5,12] [0,50] rfl rfl
   exact ⟨((i+1),_,_),F,⟨by omega,hst9⟩,hS,by omega⟩
  have h9:(!(seekK OrdD.key d (OrdD.key (Go.Gm.nth c i))).isSome || !decide ((Go.Gm.nth c i)=(seekK OrdD.key d (OrdD.key (Go.Gm.nth c i))).getD zeroR))=false:=hc1
  rw [hcd] at h9
  have hst9:out=lessK OrdD.key (c.take (i+1)) d:=by rw [hq];unfold lessK;rw [filter_step hil,if_neg (by rw [h9];simp),List.append_nil]
  refine wp_skip (block_n (then_n ?_))
  refine region_z hS (qf (o_add .t qi) r1 qz (qM rfl rfl qZ)) hB [35,30,29,28,27,26,25,24,23,22,21,20,19,18,17,16,15,14,13,12,11,10,9,8,7,5,4,1] [102,101,50,0] rfl rfl ?_
  clear hS;intro a w F hS
  refine then_n ?_
  replace hS:=hS.ent (i:=12) (s':=.pv (.int .i64 ((i+1:Nat):Int))) rfl (.int (wrap_succ (by omega)))
  obtain ⟨F,hS⟩:=hS.nm [11,10,4,1,5,12] [0,50] rfl rfl
  exact ⟨((i+1),_,_),F,⟨by omega,hst9⟩,hS,by omega⟩
 have hil:i=c.length:=by simp at hc0;omega
 have hg:out=lessK OrdD.key c d:=by rw [hq,hil,List.take_length]
 refine wp_exit (then_x (then_x (block_x (then_n (wp_seq ?_)))))
 refine region_z hS (qM rfl rfl (qN rfl rfl qZ)) hB [4] [50,0] rfl rfl ?_
 clear hS;intro a w F hS
 refine then_n (wp_ret ?_)
 obtain ⟨F,hS⟩:=hS.give 50 4 rfl rfl
 refine ret_P hfr hS rfl (.tmp rfl .nil) (.one (.sl (by rw [hg])))
theorem of14_c (g1 g2:HistD) (h1:Small g1) (h2:Small g2):FnP Tryz.prog 11 [.agg (rHist g1),.agg (rHist g2)] (.tup [.agg (rDelta (ofD g1 g2).1),.int .i64 (ofD g1 g2).2]):=by
 refine FnP.mk Tryz.func11 rfl Tryz.ntmps11 rfl ?_
 intro B a w F hB hfr hS
 refine wp_seq ?_
 refine region_q hS (qf (oX 101 (.conv .t .agg)) r1 qz (qf (oX 102 (.conv .t .agg)) r1 qz (qf (oH [.slice none 0 0,.slice none 0 0,.slice none 0 0,.slice none 0 0] 103) trivial qz (qf (oN qi) trivial qz qZ)))) hB ?_
 clear hS;intro a w F hS
 replace hS:=hS.sub
 obtain ⟨F,hS⟩:=hS.nm [5,4,3,2] [103,102,101,0] rfl rfl
 try dsimp only [RS.sub,SF.sub,CF.sub,csub,Anc.sub,List.map,zCF,rHist,rTx,rOrd,rVer,rInt,rOp,rDelta] at hS
 generalize Act.tau a 2=v2 at hS
 generalize Act.tau a 3=v3 at hS
 generalize Act.tau a 4=v4 at hS
 refine then_n (wp_seq (wp_seq ?_))
 refine region_z hS (qf (oL true 2 101 .is) r1 r1 (qf (oP (refRightH_c g1 h1) Tryz.func44 (Args.one (.pagg .t))) r1 qz (qf (o_not .t) r1 qz (qM rfl rfl (qk rfl (fun h=>oL true 2 102 .is) r2 r1 (qk rfl (fun h=>oP (refRightH_c g2 h2) Tryz.func44 (Args.one (.pagg (.w h)))) r2 qz (qk rfl (fun h=>o_not (.w h)) r2 qz (qf (o_or2 .t .t) r2 qz qZ)))))))) hB [13,5,4,3,2] [103,102,101,0] rfl rfl ?_
 clear hS;intro a w F hS
 refine then_n ?_
 refine cond_b hS rfl (fun hc0=>?_) (fun hc0=>?_)
 ·skip
  have h9:(!decide (RightH g1) || !decide (RightH g2))=true:=hc0
  have hg:ofD g1 g2=(noD,5):=by unfold ofD;rw [if_neg (by rintro ⟨e1,e2⟩;rw [decide_eq_true e1,decide_eq_true e2] at h9;cases h9)]
  refine wp_seq ?_
  refine region_z hS (qf (oB [] [.slice none 0 0,.slice none 0 0,.slice none 0 0,.slice none 0 0] [(0,1),(1,1),(2,1),(3,1)] .nil) trivial qz (qf (oA 4 103 .is .t) r2 r1 (qf (oN qi) trivial qz qZ))) hB [5,4,3,2] [103,102,101,0] rfl rfl ?_
  clear hS;intro a w F hS
  refine then_n (wp_ret (then_r ?_))
  refine ret_P hfr hS rfl (.cell (n:=103) (ag:=true) (sz:=4) rfl .is rfl (by kernel_rfl) (by kernel_rfl) (by kernel_rfl) (.tmp rfl .nil)) (.two (by rw [hg];first | exact .aggU rfl rfl | exact .aggLe rfl noD_le) (.int (by rw [hg])))
 have h9:(!decide (RightH g1) || !decide (RightH g2))=false:=hc0
 have hr:RightH g1∧RightH g2:=by simpa using h9
 have hg:ofD g1 g2=(betD g1 g2,0):=by unfold ofD;rw [if_pos hr];rfl
 refine wp_skip (then_n (wp_seq ?_))
 refine region_any (by kernel_rfl) hS (by kernel_rfl) (qf (oF 0 101 .is) r1 r1 (qf (oL false 1 101 .adr) r1 r1 (qf (oF 0 102 .is) r1 r1 (qf (oL false 1 102 .adr) r1 r1 (qf (oP (lessT14_c g1.txs g2.txs (by have:=h1.1.1;omega) h2.1) Tryz.func45 (Args.two .t .t)) r2 qz (qf (oF 0 102 .is) r1 r1 (qf (oL false 1 102 .adr) r1 r1 (qf (oF 0 101 .is) r1 r1 (qf (oL false 1 101 .adr) r1 r1 (qf (oP (lessT14_c g2.txs g1.txs (by have:=h2.1.1;omega) h1.1) Tryz.func45 (Args.two .t .t)) r2 qz (qf (oF 1 101 .is) r1 r1 (qf (oL false 1 101 .adr) r1 r1 (qf (oF 1 102 .is) r1 r1 (qf (oL false 1 102 .adr) r1 r1 (qf (oP (lessR14_c g1.orders g2.orders (by have:=h1.2.1;omega)) Tryz.func46 (Args.two .t .t)) r2 qz (qf (oF 1 102 .is) r1 r1 (qf (oL false 1 102 .adr) r1 r1 (qf (oF 1 101 .is) r1 r1 (qf (oL false 1 101 .adr) r1 r1 (qf (oP (lessR14_c g2.orders g1.orders (by have:=h2.2.1;omega)) Tryz.func46 (Args.two .t .t)) r2 qz (qf (oB [(0,.tmp 19),(1,.tmp 24),(2,.tmp 29),(3,.tmp 34)] [.slice none 0 0,.slice none 0 0,.slice none 0 0,.slice none 0 0] [(0,1),(1,1),(2,1),(3,1)] (.one rfl .t one_sl (by kernel_rfl) (.one rfl .t one_sl (by kernel_rfl) (.one rfl .t one_sl (by kernel_rfl) (.one rfl .t one_sl (by kernel_rfl) .nil))))) r4 qz (qf (oA 4 103 .is .t) r2 r1 (qf (oN qi) trivial qz qZ))))))))))))))))))))))) (by kernel_rfl) (by rw [hB];kernel_rfl) ?_
 clear hS;intro a w F hS
 obtain ⟨F,hS⟩:=hS.nm [5,4] [103,102,101,0] rfl rfl
 try dsimp only [List.map,stCells,xL,xM,Nat.reduceAdd,xD,xE,xT,xU,xC,xN,zCF,ldSF,rHist,rTx,rOrd,rVer,rInt,rOp,rDelta] at hS
 refine then_n (wp_ret ?_)
 refine ret_P hfr hS rfl (.cell (n:=103) (ag:=true) (sz:=4) rfl .is rfl (by kernel_rfl) (by kernel_rfl) (by kernel_rfl) (.tmp rfl .nil)) (.two (by rw [hg];first | exact .aggU rfl rfl | exact .aggLe rfl noD_le) (.int (by rw [hg])))
end Go.Proofs.YtcfgcpcakdknkaaGreat
