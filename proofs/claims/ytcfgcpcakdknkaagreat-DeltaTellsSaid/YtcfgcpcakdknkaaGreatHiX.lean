/- Hi1,Hi2,Hi3,Hi4,Hi5,Hi6,in one text. -/
import Derived.Test.YtcfgcpcakdknkaaGreatHi0
import Derived.Test.YtcfgcpcakdknkaaGreatTxX
import Derived.Test.YtcfgcpcakdknkaaGreatLibG
import Derived.Test.YtcfgcpcakdknkaaGreatOrX
namespace Go.Proofs.YtcfgcpcakdknkaaGreat
open Go Go.Gm
set_option linter.unusedVariables false
set_option linter.unusedSimpArgs false
set_option maxHeartbeats 4000000
set_option maxRecDepth 8000
theorem copied_c (t:TxD) (hl:t.ops.length≤1000000):FnP Tryz.prog 183 [.agg (rTx t)] (.agg (rTx t)):=by
 refine FnP.mk Tryz.func183 rfl Tryz.ntmps183 rfl ?_
 intro B a w F hB hfr hS
 refine wp_seq ?_
 refine region_q hS (qf (oX 101 (.conv .t .agg)) r1 qz (qf (oH [.int .i64 0,.bool false,.slice none 0 0] 102) trivial qz qZ)) hB ?_
 clear hS;intro a w F hS
 replace hS:=hS.sub
 obtain ⟨F,hS⟩:=hS.nm [2,1] [102,101,0] rfl rfl
 try dsimp only [RS.sub,SF.sub,CF.sub,csub,Anc.sub,List.map,zCF,rHist,rTx,rOrd,rVer,rInt,rOp] at hS
 generalize Act.tau a 1=v1 at hS
 generalize Act.tau a 2=v2 at hS
 refine then_n (wp_seq ?_)
 replace hS:=hS.fresh 103 rfl
 refine region_q hS (qf (oF 2 101 .is) r1 r1 (qf (oL false 1 101 .adr) r1 r1 (qf (o_callN 103 (cloneO_c t.ops hl) Tryz.func114 rfl (by kernel_rfl) (Args.one .t) pvOne1) r1 r1 (qf (oF 2 101 .is) r1 r1 (qf (o_storeS 101 .adr (by kernel_rfl) (by kernel_rfl)) r2 r1 qZ))))) hB ?_
 clear hS;intro a w F hS
 replace hS:=hS.sub
 obtain ⟨F,hS⟩:=hS.nm [2,1] [103,102,101,0] rfl rfl
 try dsimp only [RS.sub,SF.sub,CF.sub,csub,Anc.sub,List.map,stCells,xL,xM,Nat.reduceAdd,xD,xE,xT,xU,xC,xN,zCF,ldSF,rHist,rTx,rOrd,rVer,rInt,rOp] at hS
 generalize Act.tau a 5=v5 at hS
 obtain ⟨F,hS⟩:=hS.giveCell 103 101 2 rfl rfl rfl rfl rfl
 try dsimp only [List.set] at hS
 obtain ⟨F,hS⟩:=hS.nm [2,1] [102,101,0] rfl rfl
 refine then_n (wp_seq ?_)
 refine region_z hS (qf (oL true 3 101 .is) r1 r1 (qf (oA 3 102 .is .t) r2 r1 qZ)) hB [2] [102,101,0] rfl rfl ?_
 clear hS;intro a w F hS
 refine then_n (wp_ret ?_)
 refine ret_P hfr hS rfl (.cell (n:=102) (ag:=true) (sz:=3) rfl .is rfl (by kernel_rfl) (by kernel_rfl) (by kernel_rfl) .nil) (.one (.aggU rfl rfl))
theorem find_c (g:HistD) (id:Int) (hs:SmallT g.txs):FnP Tryz.prog 169 [.agg (rHist g),.int .i64 id] (.tup [.agg (rTx ((findT g.txs id).getD zeroT)),.bool (findT g.txs id).isSome]):=by
 refine FnP.mk Tryz.func169 rfl Tryz.ntmps169 rfl ?_
 intro B a w F hB hfr hS
 have hsl:=hs.1
 refine wp_seq ?_
 refine region_q hS (qf (oX 101 (.conv .t .agg)) r1 qz (qf (oH [.int .i64 0,.bool false,.slice none 0 0] 102) trivial qz (qf (oN .cb) trivial qz qZ))) hB ?_
 clear hS;intro a w F hS
 replace hS:=hS.sub
 obtain ⟨F,hS⟩:=hS.nm [5,4,2,1] [102,101,0] rfl rfl
 try dsimp only [RS.sub,SF.sub,CF.sub,csub,Anc.sub,List.map,zCF,rHist,rTx,rOrd,rVer,rInt,rOp] at hS
 generalize Act.tau a 2=v2 at hS
 generalize Act.tau a 4=v4 at hS
 refine then_n (wp_seq (wp_seq ?_))
 refine region_z hS (qf (oF 0 101 .is) r1 r1 (qf (oL false 1 101 .adr) r1 r1 (qf (o_len_sl Tryz.underlying27 .t) r1 qz (qf (oM qi) trivial qz qZ)))) hB [11,10,9,5,4,1] [102,101,0] rfl rfl ?_
 clear hS;intro a w F hS
 refine then_n (wp_block ?_)
 refine loop_keep (σ:=(Nat)) [1,4,5,9,10] [0,101,102] (fun s=>[(11,.pv (.int .i64 (s:Int)))]) (fun s=>[]) (fun s=>s≤g.txs.length∧(∀ k,k<s→(Go.Gm.nth g.txs k).id≠id)) (fun s=>g.txs.length - s) (0) hS ⟨rfl,rfl,rfl,rfl,rfl,rfl,trivial⟩ ⟨rfl,rfl,rfl,trivial⟩ ⟨Nat.zero_le _,fun k hk=>absurd hk (Nat.not_lt_zero k)⟩ ?_
 clear hS;intro i a w F hC hS
 try dsimp only at hC
 obtain ⟨F,hS⟩:=hS.nm [11,10,9,5,4,1] [102,101,0] rfl rfl
 try dsimp only at hS
 obtain ⟨hi,hq⟩:=hC
 refine wp_seq ?_
 refine region_z hS (qf (o_lss .t .t) r2 qz qZ) hB [12,11,10,9,5,4,1] [102,101,0] rfl rfl ?_
 clear hS;intro a w F hS
 refine then_n (wp_seq ?_)
 refine cond_b hS rfl (fun hc0=>?_) (fun hc0=>?_)
 ·skip
  have hil:i<g.txs.length:=by simp at hc0;omega
  refine wp_skip (then_n (wp_seq (wp_block (wp_seq ?_))))
  refine region_q hS (qf (o_indexAddr_sl (sz:=3) (.mk Tryz.underlying27 (by kernel_rfl)) (by intro x;rfl) .t .t (by omega) (by omega)) r2 qz (qf (oR true 3 .t) r1 qz (qf (oH [.int .i64 0,.bool false,.slice none 0 0] 103) trivial qz (qf (oA 3 103 .same .t) r2 r1 qZ)))) hB ?_
  clear hS;intro a w F hS
  replace hS:=hS.sub
  obtain ⟨F,hS⟩:=hS.nm [14,13,12,11,10,9,7,5,4,1] [103,102,101,0] rfl rfl
  try dsimp only [RS.sub,SF.sub,CF.sub,csub,Anc.sub,List.map,stCells,xL,xM,Nat.reduceAdd,xD,xE,xT,xU,xC,xN,zCF,ldSF,rHist,rTx,rOrd,rVer,rInt,rOp] at hS
  generalize Act.tau a 7=v7 at hS
  try simp only [Int.toNat_natCast] at hS
  refine then_n (wp_seq ?_)
  refine region_z hS (qf (oF 0 103 .is) r1 r1 (qf (oL false 1 103 .adr) r1 r1 (qM rfl rfl (qf (o_eql .t .t) r2 qz qZ)))) hB [18,17,16,15,14,13,12,11,10,9,7,5,4,1] [103,102,101,0] rfl rfl ?_
  clear hS;intro a w F hS
  refine then_n ?_
  refine cond_b hS rfl (fun hc1=>?_) (fun hc1=>?_)
  ·skip
   have hg:findT g.txs id=some (Go.Gm.nth g.txs i):=findT_at hil (by simpa using hc1) hq
   refine wp_seq ?_
   refine region_z hS (qf (oL true 3 103 .is) r1 r1 (qf (oP (copied_c (Go.Gm.nth g.txs i) (by have:=hs.at hil;omega)) Tryz.func183 (Args.one (.pagg .t))) r1 qz (qf (oA 3 102 .is (.conv .t .agg)) r2 r1 (qf (oN .cb) trivial qz qZ)))) hB [20,19,18,17,16,15,14,13,12,11,10,9,7,5,4,1] [103,102,101,0] rfl rfl ?_
   clear hS;intro a w F hS
   refine then_n (wp_ret (block_r (then_r (then_r (block_r (then_r ?_))))))
   refine ret_P hfr hS rfl (.cell (n:=102) (ag:=true) (sz:=3) rfl .is rfl (by kernel_rfl) (by kernel_rfl) (by kernel_rfl) (.tmp rfl .nil)) (.two (by rw [hg];first | exact .aggU rfl rfl | exact .aggLe rfl ⟨.refl,.refl,.nilSl,trivial⟩) (.bool (by rw [hg];rfl)))
  have hne:(Go.Gm.nth g.txs i).id≠id:=by simpa using hc1
  refine wp_skip (block_n (then_n ?_))
  refine region_z hS (qf (o_add .t qi) r1 qz (qM rfl rfl qZ)) hB [21,18,17,16,15,14,13,12,11,10,9,7,5,4,1] [103,102,101,0] rfl rfl ?_
  clear hS;intro a w F hS
  refine then_n ?_
  replace hS:=hS.ent (i:=11) (s':=.pv (.int .i64 ((i+1:Nat):Int))) rfl (.int (wrap_succ (by omega)))
  obtain ⟨F,hS⟩:=hS.nm [10,9,5,4,1,11] [102,101,0] rfl rfl
  exact ⟨(i+1),F,⟨by omega,(fun k hk=>by rcases Nat.lt_or_eq_of_le (Nat.le_of_lt_succ hk) with h9 | h9;exact hq k h9;rw [h9];exact hne)⟩,hS,by omega⟩
 have hil:i=g.txs.length:=by simp at hc0;omega
 have hg:findT g.txs id=none:=findT_none (by rw [← hil];exact hq)
 refine wp_exit (then_x (then_x (block_x (then_n (wp_seq ?_)))))
 refine region_z hS (qf (oB [] [.int .i64 0,.bool false,.slice none 0 0] [(0,1),(1,1),(2,1)] .nil) trivial qz (qf (oA 3 102 .is .t) r2 r1 (qf (oN .cb) trivial qz qZ))) hB [5,4] [102,101,0] rfl rfl ?_
 clear hS;intro a w F hS
 refine then_n (wp_ret ?_)
 refine ret_P hfr hS rfl (.cell (n:=102) (ag:=true) (sz:=3) rfl .is rfl (by kernel_rfl) (by kernel_rfl) (by kernel_rfl) (.tmp rfl .nil)) (.two (by rw [hg];first | exact .aggU rfl rfl | exact .aggLe rfl ⟨.refl,.refl,.nilSl,trivial⟩) (.bool (by rw [hg];rfl)))
theorem refFind_c (g:HistD) (id:Int) (hs:SmallT g.txs):FnP Tryz.prog 88 [.agg (rHist g),.int .i64 id] (.tup [.agg (rTx ((findT g.txs id).getD zeroT)),.bool (findT g.txs id).isSome]):=by
 refine FnP.mk Tryz.func88 rfl Tryz.ntmps88 rfl ?_
 intro B a w F hB hfr hS
 have hsl:=hs.1
 refine wp_seq ?_
 refine region_q hS (qf (oX 101 (.conv .t .agg)) r1 qz (qf (oH [.int .i64 0,.bool false,.slice none 0 0] 102) trivial qz (qf (oN .cb) trivial qz qZ))) hB ?_
 clear hS;intro a w F hS
 replace hS:=hS.sub
 obtain ⟨F,hS⟩:=hS.nm [5,4,2,1] [102,101,0] rfl rfl
 try dsimp only [RS.sub,SF.sub,CF.sub,csub,Anc.sub,List.map,zCF,rHist,rTx,rOrd,rVer,rInt,rOp] at hS
 generalize Act.tau a 2=v2 at hS
 generalize Act.tau a 4=v4 at hS
 refine then_n (wp_seq (wp_seq ?_))
 refine region_z hS (qf (oF 0 101 .is) r1 r1 (qf (oL false 1 101 .adr) r1 r1 (qf (o_len_sl Tryz.underlying27 .t) r1 qz (qf (oM qi) trivial qz qZ)))) hB [11,10,9,5,4,1] [102,101,0] rfl rfl ?_
 clear hS;intro a w F hS
 refine then_n (wp_block ?_)
 refine loop_keep (σ:=(Nat)) [1,4,5,9,10] [0,101,102] (fun s=>[(11,.pv (.int .i64 (s:Int)))]) (fun s=>[]) (fun s=>s≤g.txs.length∧(∀ k,k<s→(Go.Gm.nth g.txs k).id≠id)) (fun s=>g.txs.length - s) (0) hS ⟨rfl,rfl,rfl,rfl,rfl,rfl,trivial⟩ ⟨rfl,rfl,rfl,trivial⟩ ⟨Nat.zero_le _,fun k hk=>absurd hk (Nat.not_lt_zero k)⟩ ?_
 clear hS;intro i a w F hC hS
 try dsimp only at hC
 obtain ⟨F,hS⟩:=hS.nm [11,10,9,5,4,1] [102,101,0] rfl rfl
 try dsimp only at hS
 obtain ⟨hi,hq⟩:=hC
 refine wp_seq ?_
 refine region_z hS (qf (o_lss .t .t) r2 qz qZ) hB [12,11,10,9,5,4,1] [102,101,0] rfl rfl ?_
 clear hS;intro a w F hS
 refine then_n (wp_seq ?_)
 refine cond_b hS rfl (fun hc0=>?_) (fun hc0=>?_)
 ·skip
  have hil:i<g.txs.length:=by simp at hc0;omega
  refine wp_skip (then_n (wp_seq (wp_block (wp_seq ?_))))
  refine region_q hS (qf (o_indexAddr_sl (sz:=3) (.mk Tryz.underlying27 (by kernel_rfl)) (by intro x;rfl) .t .t (by omega) (by omega)) r2 qz (qf (oR true 3 .t) r1 qz (qf (oH [.int .i64 0,.bool false,.slice none 0 0] 103) trivial qz (qf (oA 3 103 .same .t) r2 r1 qZ)))) hB ?_
  clear hS;intro a w F hS
  replace hS:=hS.sub
  obtain ⟨F,hS⟩:=hS.nm [14,13,12,11,10,9,7,5,4,1] [103,102,101,0] rfl rfl
  try dsimp only [RS.sub,SF.sub,CF.sub,csub,Anc.sub,List.map,stCells,xL,xM,Nat.reduceAdd,xD,xE,xT,xU,xC,xN,zCF,ldSF,rHist,rTx,rOrd,rVer,rInt,rOp] at hS
  generalize Act.tau a 7=v7 at hS
  try simp only [Int.toNat_natCast] at hS
  refine then_n (wp_seq ?_)
  refine region_z hS (qf (oF 0 103 .is) r1 r1 (qf (oL false 1 103 .adr) r1 r1 (qM rfl rfl (qf (o_eql .t .t) r2 qz qZ)))) hB [18,17,16,15,14,13,12,11,10,9,7,5,4,1] [103,102,101,0] rfl rfl ?_
  clear hS;intro a w F hS
  refine then_n ?_
  refine cond_b hS rfl (fun hc1=>?_) (fun hc1=>?_)
  ·skip
   have hg:findT g.txs id=some (Go.Gm.nth g.txs i):=findT_at hil (by simpa using hc1) hq
   refine wp_seq ?_
   refine region_z hS (qf (oL true 3 103 .is) r1 r1 (qf (oA 3 102 .is .t) r2 r1 (qf (oN .cb) trivial qz qZ))) hB [19,18,17,16,15,14,13,12,11,10,9,7,5,4,1] [103,102,101,0] rfl rfl ?_
   clear hS;intro a w F hS
   refine then_n (wp_ret (block_r (then_r (then_r (block_r (then_r ?_))))))
   refine ret_P hfr hS rfl (.cell (n:=102) (ag:=true) (sz:=3) rfl .is rfl (by kernel_rfl) (by kernel_rfl) (by kernel_rfl) (.tmp rfl .nil)) (.two (by rw [hg];first | exact .aggU rfl rfl | exact .aggLe rfl ⟨.refl,.refl,.nilSl,trivial⟩) (.bool (by rw [hg];rfl)))
  have hne:(Go.Gm.nth g.txs i).id≠id:=by simpa using hc1
  refine wp_skip (block_n (then_n ?_))
  refine region_z hS (qf (o_add .t qi) r1 qz (qM rfl rfl qZ)) hB [20,18,17,16,15,14,13,12,11,10,9,7,5,4,1] [103,102,101,0] rfl rfl ?_
  clear hS;intro a w F hS
  refine then_n ?_
  replace hS:=hS.ent (i:=11) (s':=.pv (.int .i64 ((i+1:Nat):Int))) rfl (.int (wrap_succ (by omega)))
  obtain ⟨F,hS⟩:=hS.nm [10,9,5,4,1,11] [102,101,0] rfl rfl
  exact ⟨(i+1),F,⟨by omega,(fun k hk=>by rcases Nat.lt_or_eq_of_le (Nat.le_of_lt_succ hk) with h9 | h9;exact hq k h9;rw [h9];exact hne)⟩,hS,by omega⟩
 have hil:i=g.txs.length:=by simp at hc0;omega
 have hg:findT g.txs id=none:=findT_none (by rw [← hil];exact hq)
 refine wp_exit (then_x (then_x (block_x (then_n (wp_seq ?_)))))
 refine region_z hS (qf (oB [] [.int .i64 0,.bool false,.slice none 0 0] [(0,1),(1,1),(2,1)] .nil) trivial qz (qf (oA 3 102 .is .t) r2 r1 (qf (oN .cb) trivial qz qZ))) hB [5,4] [102,101,0] rfl rfl ?_
 clear hS;intro a w F hS
 refine then_n (wp_ret ?_)
 refine ret_P hfr hS rfl (.cell (n:=102) (ag:=true) (sz:=3) rfl .is rfl (by kernel_rfl) (by kernel_rfl) (by kernel_rfl) (.tmp rfl .nil)) (.two (by rw [hg];first | exact .aggU rfl rfl | exact .aggLe rfl ⟨.refl,.refl,.nilSl,trivial⟩) (.bool (by rw [hg];rfl)))
theorem has_c (g:HistD) (v:VerD) (hs:SmallT g.txs):FnP Tryz.prog 142 [.agg (rHist g),.agg (rVer v)] (.bool (hasH g v)):=by
 refine FnP.mk Tryz.func142 rfl Tryz.ntmps142 rfl ?_
 intro B a w F hB hfr hS
 refine wp_seq ?_
 refine region_q hS (qf (oX 101 (.conv .t .agg)) r1 qz (qf (oX 102 (.conv .t .agg)) r1 qz (qf (oN .cb) trivial qz qZ))) hB ?_
 clear hS;intro a w F hS
 replace hS:=hS.sub
 obtain ⟨F,hS⟩:=hS.nm [4,3,2] [102,101,0] rfl rfl
 try dsimp only [RS.sub,SF.sub,CF.sub,csub,Anc.sub,List.map,zCF,rHist,rTx,rOrd,rVer,rInt,rOp] at hS
 generalize Act.tau a 2=v2 at hS
 generalize Act.tau a 3=v3 at hS
 refine then_n (wp_seq (wp_seq ?_))
 refine region_z hS (qf (oF 0 102 .is) r1 r1 (qf (oL false 1 102 .adr) r1 r1 (qf (o_eql .t qi) r1 qz (qM rfl rfl (qk rfl (fun h=>oF 2 102 .is) r2 r1 (qk rfl (fun h=>oL false 1 102 (.w h .adr)) r2 r1 (qk rfl (fun h=>o_eql (.w h) qi) r2 qz (qf (o_and2 .t .t) r2 qz qZ)))))))) hB [14,4,3,2] [102,101,0] rfl rfl ?_
 clear hS;intro a w F hS
 refine then_n ?_
 refine cond_b hS rfl (fun hc0=>?_) (fun hc0=>?_)
 ·skip
  have h0:(v.tx=0∧v.nth=0):=by simpa using hc0
  have hu:hasH g v=decide (1≤v.key∧v.key≤1048575):=by unfold hasH;rw [if_pos h0]
  refine wp_seq ?_
  refine region_z hS (qf (oF 1 102 .is) r1 r1 (qf (oL false 1 102 .adr) r1 r1 (qf (o_geq .t qi) r1 qz (qM rfl rfl (qk rfl (fun h=>oF 1 102 .is) r2 r1 (qk rfl (fun h=>oL false 1 102 (.w h .adr)) r2 r1 (qk rfl (fun h=>o_leq (.w h) qi) r2 qz (qf (o_and2 .t .t) r2 qz (qN rfl rfl qZ))))))))) hB [4,3,2] [102,101,0] rfl rfl ?_
  clear hS;intro a w F hS
  refine then_n (wp_ret (then_r ?_))
  refine ret_P hfr hS rfl (.tmp rfl .nil) (.one (.bool (by first | (rw [hu,Bool.decide_and];done) | (rw [hu];unfold idB;rw [Bool.decide_and];done) | (unfold hasH wcnt;rw [if_neg h0,Bool.and_assoc]))))
 have h0:¬ (v.tx=0∧v.nth=0):=by simpa using hc0
 have hfl:((findT g.txs v.tx).getD zeroT).ops.length≤1000:=by cases hf:findT g.txs v.tx with | none=>simp [zeroT] | some t=>exact hs.2 _ (findT_mem hf).1
 refine wp_skip (then_n (wp_seq ?_))
 refine region_q hS (qf (oL true 2 101 .is) r1 r1 (qf (oF 0 102 .is) r1 r1 (qf (oL false 1 102 .adr) r1 r1 (qf (oP (find_c g v.tx hs) Tryz.func169 (Args.two (.pagg .t) .t)) r2 qz (qM rfl rfl (qf (o_extract .t rfl) r1 qz (qf (o_extract .t rfl) r1 qz (qf (oH [.int .i64 0,.bool false,.slice none 0 0] 103) trivial qz (qf (oA 3 103 .same (.conv .t .agg)) r2 r1 (qN rfl rfl qZ)))))))))) hB ?_
 clear hS;intro a w F hS
 replace hS:=hS.sub
 obtain ⟨F,hS⟩:=hS.nm [6,5,4,3] [103,102,101,0] rfl rfl
 try dsimp only [RS.sub,SF.sub,CF.sub,csub,Anc.sub,List.map,stCells,xL,xM,Nat.reduceAdd,xD,xE,xT,xU,xC,xN,zCF,ldSF,rHist,rTx,rOrd,rVer,rInt,rOp] at hS
 generalize Act.tau a 5=v5 at hS
 refine then_n (wp_seq ?_)
 refine region_any (by kernel_rfl) hS (by kernel_rfl) (qM rfl rfl (qM rfl rfl (qk rfl (fun h=>oF 2 102 .is) r2 r1 (qk rfl (fun h=>oL false 1 102 (.w h .adr)) r2 r1 (qk rfl (fun h=>o_geq (.w h) qi) r2 qz (qf (o_and2 .t .t) r2 qz (qM rfl rfl (qk rfl (fun h=>oL true 3 103 .is) r2 r1 (qk rfl (fun h=>oF 1 102 .is) r2 r1 (qk rfl (fun h=>oL false 1 102 (.w h .adr)) r2 r1 (qk rfl (fun h=>oP (twrites_c ((findT g.txs v.tx).getD zeroT) v.key (by omega)) Tryz.func170 (Args.two (.pagg (.w h)) (.w h))) r3 qz (qk rfl (fun h=>oF 2 102 .is) r2 r1 (qk rfl (fun h=>oL false 1 102 (.w h .adr)) r2 r1 (qk rfl (fun h=>o_geq (.w h) (.w h)) r3 qz (qf (o_and2 .t .t) r2 qz (qN rfl rfl qZ)))))))))))))))) (by kernel_rfl) (by rw [hB];kernel_rfl) ?_
 clear hS;intro a w F hS
 obtain ⟨F,hS⟩:=hS.nm [4] [103,102,101,0] rfl rfl
 try dsimp only [List.map,xD,xE,xT,xU,ldSF,rHist,rTx,rOrd,rVer,rInt,rOp] at hS
 refine then_n (wp_ret ?_)
 refine ret_P hfr hS rfl (.tmp rfl .nil) (.one (.bool (by first | (rw [hu,Bool.decide_and];done) | (rw [hu];unfold idB;rw [Bool.decide_and];done) | (unfold hasH wcnt;rw [if_neg h0,Bool.and_assoc]))))
theorem refHas_c (g:HistD) (v:VerD) (hs:SmallT g.txs):FnP Tryz.prog 129 [.agg (rHist g),.agg (rVer v)] (.bool (hasH g v)):=by
 refine FnP.mk Tryz.func129 rfl Tryz.ntmps129 rfl ?_
 intro B a w F hB hfr hS
 refine wp_seq ?_
 refine region_q hS (qf (oX 101 (.conv .t .agg)) r1 qz (qf (oX 102 (.conv .t .agg)) r1 qz (qf (oN .cb) trivial qz qZ))) hB ?_
 clear hS;intro a w F hS
 replace hS:=hS.sub
 obtain ⟨F,hS⟩:=hS.nm [4,3,2] [102,101,0] rfl rfl
 try dsimp only [RS.sub,SF.sub,CF.sub,csub,Anc.sub,List.map,zCF,rHist,rTx,rOrd,rVer,rInt,rOp] at hS
 generalize Act.tau a 2=v2 at hS
 generalize Act.tau a 3=v3 at hS
 refine then_n (wp_seq (wp_seq ?_))
 refine region_z hS (qf (oF 0 102 .is) r1 r1 (qf (oL false 1 102 .adr) r1 r1 (qf (o_eql .t qi) r1 qz (qM rfl rfl (qk rfl (fun h=>oF 2 102 .is) r2 r1 (qk rfl (fun h=>oL false 1 102 (.w h .adr)) r2 r1 (qk rfl (fun h=>o_eql (.w h) qi) r2 qz (qf (o_and2 .t .t) r2 qz qZ)))))))) hB [14,4,3,2] [102,101,0] rfl rfl ?_
 clear hS;intro a w F hS
 refine then_n ?_
 refine cond_b hS rfl (fun hc0=>?_) (fun hc0=>?_)
 ·skip
  have h0:(v.tx=0∧v.nth=0):=by simpa using hc0
  have hu:hasH g v=decide (1≤v.key∧v.key≤1048575):=by unfold hasH;rw [if_pos h0]
  refine wp_seq ?_
  refine region_z hS (qf (oF 1 102 .is) r1 r1 (qf (oL false 1 102 .adr) r1 r1 (qf (oP (refId_c v.key) Tryz.func125 (Args.one .t)) r1 qz (qN rfl rfl qZ)))) hB [4,3,2] [102,101,0] rfl rfl ?_
  clear hS;intro a w F hS
  refine then_n (wp_ret (then_r ?_))
  refine ret_P hfr hS rfl (.tmp rfl .nil) (.one (.bool (by first | (rw [hu,Bool.decide_and];done) | (rw [hu];unfold idB;rw [Bool.decide_and];done) | (unfold hasH wcnt;rw [if_neg h0,Bool.and_assoc]))))
 have h0:¬ (v.tx=0∧v.nth=0):=by simpa using hc0
 have hfl:((findT g.txs v.tx).getD zeroT).ops.length≤1000:=by cases hf:findT g.txs v.tx with | none=>simp [zeroT] | some t=>exact hs.2 _ (findT_mem hf).1
 refine wp_skip (then_n (wp_seq ?_))
 refine region_q hS (qf (oL true 2 101 .is) r1 r1 (qf (oF 0 102 .is) r1 r1 (qf (oL false 1 102 .adr) r1 r1 (qf (oP (refFind_c g v.tx hs) Tryz.func88 (Args.two (.pagg .t) .t)) r2 qz (qM rfl rfl (qf (o_extract .t rfl) r1 qz (qf (o_extract .t rfl) r1 qz (qf (oH [.int .i64 0,.bool false,.slice none 0 0] 103) trivial qz (qf (oA 3 103 .same (.conv .t .agg)) r2 r1 (qN rfl rfl qZ)))))))))) hB ?_
 clear hS;intro a w F hS
 replace hS:=hS.sub
 obtain ⟨F,hS⟩:=hS.nm [6,5,4,3] [103,102,101,0] rfl rfl
 try dsimp only [RS.sub,SF.sub,CF.sub,csub,Anc.sub,List.map,stCells,xL,xM,Nat.reduceAdd,xD,xE,xT,xU,xC,xN,zCF,ldSF,rHist,rTx,rOrd,rVer,rInt,rOp] at hS
 generalize Act.tau a 5=v5 at hS
 refine then_n (wp_seq ?_)
 refine region_any (by kernel_rfl) hS (by kernel_rfl) (qM rfl rfl (qM rfl rfl (qk rfl (fun h=>oF 2 102 .is) r2 r1 (qk rfl (fun h=>oL false 1 102 (.w h .adr)) r2 r1 (qk rfl (fun h=>o_geq (.w h) qi) r2 qz (qf (o_and2 .t .t) r2 qz (qM rfl rfl (qk rfl (fun h=>oF 2 103 .is) r2 r1 (qk rfl (fun h=>oL false 1 103 (.w h .adr)) r2 r1 (qk rfl (fun h=>oF 1 102 .is) r2 r1 (qk rfl (fun h=>oL false 1 102 (.w h .adr)) r2 r1 (qk rfl (fun h=>oP (rwrites_c ((findT g.txs v.tx).getD zeroT).ops v.key (by omega)) Tryz.func127 (Args.two (.w h) (.w h))) r3 qz (qk rfl (fun h=>oF 2 102 .is) r2 r1 (qk rfl (fun h=>oL false 1 102 (.w h .adr)) r2 r1 (qk rfl (fun h=>o_geq (.w h) (.w h)) r3 qz (qf (o_and2 .t .t) r2 qz (qN rfl rfl qZ))))))))))))))))) (by kernel_rfl) (by rw [hB];kernel_rfl) ?_
 clear hS;intro a w F hS
 obtain ⟨F,hS⟩:=hS.nm [4] [103,102,101,0] rfl rfl
 try dsimp only [List.map,xD,xE,xT,xU,ldSF,rHist,rTx,rOrd,rVer,rInt,rOp] at hS
 refine then_n (wp_ret ?_)
 refine ret_P hfr hS rfl (.tmp rfl .nil) (.one (.bool (by first | (rw [hu,Bool.decide_and];done) | (rw [hu];unfold idB;rw [Bool.decide_and];done) | (unfold hasH wcnt;rw [if_neg h0,Bool.and_assoc]))))
end Go.Proofs.YtcfgcpcakdknkaaGreat
namespace Go.Proofs.YtcfgcpcakdknkaaGreat
open Go Go.Gm
set_option linter.unusedVariables false
set_option linter.unusedSimpArgs false
set_option maxHeartbeats 4000000
set_option maxRecDepth 8000
theorem found_any {α:Type} [Inhabited α] {p:α→Bool} {l:List α} : decide (0≤foundAt p l)=l.any p:=by
 rcases foundAt_spec p l with ⟨h1,h2⟩ | ⟨i,h1,h2,h3,h4⟩
 · rw [h1,eq_comm,show decide ((0:Int) ≤ -1)=false by decide,List.any_eq_false]
   intro x hx
   obtain ⟨k,hk,e⟩:=List.getElem_of_mem hx
   have:=h2 k hk
   rw [nth_eq hk,e] at this
   simp [this]
 · rw [h1,show decide ((0:Int)≤(i:Int))=true by simp,eq_comm,List.any_eq_true]
   exact ⟨_,nth_mem h2,h3⟩
theorem any_not {α:Type} {p:α→Bool} {l:List α} : (!l.any fun v=>!p v)=l.all p:=by
 induction l with
 | nil=>rfl
 | cons x l ih=>rw [List.any_cons,List.all_cons,← ih];cases p x <;> simp
theorem idxFV_c (l : List VerD) (p : VerD → Bool) (f : FuncId) (fn : Func) (cps : List PV) (hf : Tryz.prog.funcs[f]? = some fn) (hb : fn.body.isSome = true) (hnn : (fn.name == "runtime.NumGoroutine") = false) (hw : ∀ x, FnP Tryz.prog f (.agg (rVer x) :: cps) (.bool (p x))) : FnP Tryz.prog 168 [.sl rVer l, .clos f cps] (.int .i64 (foundAt p l)) := by
 refine FnP.mk Tryz.func168 rfl Tryz.ntmps168 rfl ?_
 intro B a w F hB hfr hS
 have hll:=Sat.lenSl hS (i:=0) rfl
 refine wp_seq ?_
 refine region_z hS (qf (oN qi) trivial qz qZ) hB [4,1,0] [0] rfl rfl ?_
 clear hS;intro a w F hS
 refine then_n (wp_seq (wp_seq ?_))
 refine region_z hS (qM rfl rfl (qf (o_len_sl Tryz.underlying150 .t) r1 qz (qf (oM qi) trivial qz qZ))) hB [8,7,4,1,0] [0] rfl rfl ?_
 clear hS;intro a w F hS
 refine then_n (wp_block ?_)
 refine loop_keep (σ:=(Nat)) [0,1,4,7] [0] (fun s=>[(8,.pv (.int .i64 (s:Int)))]) (fun s=>[]) (fun s=>s≤l.length∧(∀ k,k<s→p (Go.Gm.nth l k)=false)) (fun s=>l.length - s) (0) hS ⟨rfl,rfl,rfl,rfl,rfl,trivial⟩ ⟨rfl,trivial⟩ ⟨Nat.zero_le _,fun k hk=>absurd hk (Nat.not_lt_zero k)⟩ ?_
 clear hS;intro i a w F hC hS
 try dsimp only at hC
 obtain ⟨F,hS⟩:=hS.nm [8,7,4,1,0] [0] rfl rfl
 try dsimp only at hS
 obtain ⟨hi,hq⟩:=hC
 refine wp_seq ?_
 refine region_z hS (qf (o_lss .t .t) r2 qz qZ) hB [9,8,7,4,1,0] [0] rfl rfl ?_
 clear hS;intro a w F hS
 refine then_n (wp_seq ?_)
 refine cond_b hS rfl (fun hc0=>?_) (fun hc0=>?_)
 ·skip
  have hil:i<l.length:=by simp at hc0;omega
  refine wp_skip (then_n (wp_seq (wp_block (wp_seq ?_))))
  refine region_z hS (qM rfl rfl (qN rfl rfl qZ)) hB [10,9,8,7,5,4,1,0] [0] rfl rfl ?_
  clear hS;intro a w F hS
  refine then_n (wp_seq ?_)
  refine region_z hS (qM rfl rfl (qM rfl rfl (qM rfl rfl (qf (o_indexAddr_sl (sz:=3) (.mk Tryz.underlying150 (by kernel_rfl)) (by intro x;rfl) .t .t (by omega) (by omega)) r2 qz (qf (oR true 3 .t) r1 qz (qf (o_callClosP (avs:=[.agg (rVer (Go.Gm.nth l i))]) .t (hw (Go.Gm.nth l i)) hf hb hnn (Args.one (.pagg .t))) r2 qz qZ)))))) hB [16,15,14,13,12,11,10,9,8,7,5,4,1,0] [0] rfl rfl ?_
  clear hS;intro a w F hS
  try simp only [Int.toNat_natCast] at hS
  refine then_n ?_
  refine cond_b hS rfl (fun hc1=>?_) (fun hc1=>?_)
  ·skip
   have hg:(i:Int)=foundAt p l:=(foundAt_at hil hc1 hq).symm
   refine wp_seq ?_
   refine region_z hS (qM rfl rfl (qN rfl rfl qZ)) hB [17,16,15,14,13,12,11,10,9,8,7,5,4,1,0] [0] rfl rfl ?_
   clear hS;intro a w F hS
   refine then_n (wp_ret (block_r (then_r (then_r (block_r (then_r ?_))))))
   refine ret_P hfr hS rfl (.tmp rfl .nil) (.one (.int hg))
  have hne:p (Go.Gm.nth l i)=false:=hc1
  refine wp_skip (block_n (then_n ?_))
  refine region_z hS (qf (o_add .t qi) r1 qz (qM rfl rfl qZ)) hB [18,16,15,14,13,12,11,10,9,8,7,5,4,1,0] [0] rfl rfl ?_
  clear hS;intro a w F hS
  refine then_n ?_
  replace hS:=hS.ent (i:=8) (s':=.pv (.int .i64 ((i+1:Nat):Int))) rfl (.int (wrap_succ (by omega)))
  obtain ⟨F,hS⟩:=hS.nm [7,4,1,0,8] [0] rfl rfl
  exact ⟨(i+1),F,⟨by omega,(fun k hk=>by rcases Nat.lt_or_eq_of_le (Nat.le_of_lt_succ hk) with h | h;exact hq k h;rw [h];exact hne)⟩,hS,by omega⟩
 have hil:i=l.length:=by simp at hc0;omega
 have hg : -1=foundAt p l:=(foundAt_none fun k hk=>hq k (by simp at hc0;omega)).symm
 refine wp_exit (then_x (then_x (block_x (then_n (wp_seq ?_)))))
 refine region_z hS (qf (oN qi) trivial qz qZ) hB [4] [0] rfl rfl ?_
 clear hS;intro a w F hS
 refine then_n (wp_ret ?_)
 refine ret_P hfr hS rfl (.tmp rfl .nil) (.one (.int hg))
theorem anyFV_c (l : List VerD) (p : VerD → Bool) (f : FuncId) (fn : Func) (cps : List PV) (hf : Tryz.prog.funcs[f]? = some fn) (hb : fn.body.isSome = true) (hnn : (fn.name == "runtime.NumGoroutine") = false) (hw : ∀ x, FnP Tryz.prog f (.agg (rVer x) :: cps) (.bool (p x))) : FnP Tryz.prog 139 [.sl rVer l, .clos f cps] (.bool (l.any p)) := by
 refine FnP.mk Tryz.func139 rfl Tryz.ntmps139 rfl ?_
 intro B a w F hB hfr hS
 refine wp_seq ?_
 refine region_z hS (qf (oN .cb) trivial qz qZ) hB [4,1,0] [0] rfl rfl ?_
 clear hS;intro a w F hS
 refine then_n (wp_seq ?_)
 refine region_z hS (qM rfl rfl (qM rfl rfl (qf (oP (idxFV_c l p f fn cps hf hb hnn hw) Tryz.func168 (Args.two .t .t)) r2 qz (qf (o_geq .t qi) r1 qz (qN rfl rfl qZ))))) hB [4] [0] rfl rfl ?_
 clear hS;intro a w F hS
 refine then_n (wp_ret ?_)
 refine ret_P hfr hS rfl (.tmp rfl .nil) (.one (.bool (by rw [found_any])))
theorem needed1_c (v:VerD) (g:HistD) (hs:SmallT g.txs):FnP Tryz.prog 141 [.agg (rVer v),.ref (rHist g)] (.bool (!hasH g v)):=by
 refine FnP.mk Tryz.func141 rfl Tryz.ntmps141 rfl ?_
 intro B a w F hB hfr hS
 refine wp_seq ?_
 refine region_q hS (qf (oX 101 (.conv .t .agg)) r1 qz (qf (oN .cb) trivial qz qZ)) hB ?_
 clear hS;intro a w F hS
 replace hS:=hS.sub
 obtain ⟨F,hS⟩:=hS.nm [3,2,1] [101,0] rfl rfl
 try dsimp only [RS.sub,SF.sub,CF.sub,csub,Anc.sub,List.map,zCF,rHist,rTx,rOrd,rVer,rInt,rOp] at hS
 generalize Act.tau a 2=v2 at hS
 refine then_n (wp_seq ?_)
 refine region_z hS (qf (oR true 2 .t) r1 qz (qf (oL true 3 101 .is) r1 r1 (qf (oP (has_c g v hs) Tryz.func142 (Args.two (.pagg .t) (.pagg .t))) r2 qz (qf (o_not .t) r1 qz (qN rfl rfl qZ))))) hB [3] [101,0] rfl rfl ?_
 clear hS;intro a w F hS
 refine then_n (wp_ret ?_)
 refine ret_P hfr hS rfl (.tmp rfl .nil) (.one .refl)
theorem needed_c (g:HistD) (t:TxD) (hs:SmallT g.txs) (ht:t.ops.length≤1000):FnP Tryz.prog 102 [.agg (rHist g),.agg (rTx t)] (.bool (needsH g t)):=by
 refine FnP.mk Tryz.func102 rfl Tryz.ntmps102 rfl ?_
 intro B a w F hB hfr hS
 refine wp_seq ?_
 refine region_q hS (qf (oX 101 (.conv .t .agg)) r1 qz (qf (oX 102 (.conv .t .agg)) r1 qz (qf (oN .cb) trivial qz qZ))) hB ?_
 clear hS;intro a w F hS
 replace hS:=hS.sub
 obtain ⟨F,hS⟩:=hS.nm [4,3,2] [102,101,0] rfl rfl
 try dsimp only [RS.sub,SF.sub,CF.sub,csub,Anc.sub,List.map,zCF,rHist,rTx,rOrd,rVer,rInt,rOp] at hS
 generalize Act.tau a 2=v2 at hS
 generalize Act.tau a 3=v3 at hS
 refine then_n (wp_seq ?_)
 refine part_first 2 hS (by kernel_rfl) (cG rfl (oL true 3 102 .is) r1 r1 (cG rfl (oP (txNeeds_c t (by omega)) Tryz.func140 (Args.one (.pagg .t))) r1 trivial ChainN.nil)) (by kernel_rfl) (by rw [hB];kernel_rfl) ?_
 clear hS;intro a w F hS
 obtain ⟨F,hS⟩:=hS.nm [6,4,2] [102,101,0] rfl rfl
 try dsimp only [List.map,xD,xE,xT,xU,ldSF,rHist,rTx,rOrd,rVer,rInt,rOp] at hS
 obtain ⟨F,hS⟩:=hS.giveRef 101 2 rfl rfl rfl
 obtain ⟨F,hS⟩:=hS.nm [6,4,2] [102,0] rfl rfl
 try dsimp only [Go.Gm.unCF] at hS
 refine part_last hS (by kernel_rfl) (cG rfl (o_makeFunc (Args.one .t)) r1 trivial (cG rfl (oP (anyFV_c (needsT t) (fun v=>!hasH g v) 141 Tryz.f141 [.ref (rHist g)] Tryz.func141 rfl (by kernel_rfl) (fun v=>needed1_c v g hs)) Tryz.func139 (Args.two .t .t)) r2 trivial (cG rfl (o_not .t) r1 trivial (cG rfl (oN .t) r1 trivial ChainN.nil)))) (by kernel_rfl) (by rw [hB];kernel_rfl) ?_
 clear hS;intro a w F hS
 obtain ⟨F,hS⟩:=hS.nm [4] [102,0] rfl rfl
 try dsimp only [rHist,rTx,rOrd,rVer,rInt,rOp] at hS
 refine then_n (wp_ret ?_)
 refine ret_P hfr hS rfl (.tmp rfl .nil) (.one (.bool (by rw [any_not];rfl)))
theorem refNeedsH_c (g:HistD) (t:TxD) (hs:SmallT g.txs) (ht:t.ops.length≤1000):FnP Tryz.prog 89 [.agg (rHist g),.agg (rTx t)] (.bool (needsH g t)):=by
 refine FnP.mk Tryz.func89 rfl Tryz.ntmps89 rfl ?_
 intro B a w F hB hfr hS
 have hnl:(needsT t).length≤1000:=by have:=needsL_len t.id t.ops t.ops.length;rw [List.take_length] at this;unfold needsT;omega
 refine wp_seq ?_
 refine region_q hS (qf (oX 101 (.conv .t .agg)) r1 qz (qf (oX 102 (.conv .t .agg)) r1 qz (qf (oN .cb) trivial qz qZ))) hB ?_
 clear hS;intro a w F hS
 replace hS:=hS.sub
 obtain ⟨F,hS⟩:=hS.nm [4,3,2] [102,101,0] rfl rfl
 try dsimp only [RS.sub,SF.sub,CF.sub,csub,Anc.sub,List.map,zCF,rHist,rTx,rOrd,rVer,rInt,rOp] at hS
 generalize Act.tau a 2=v2 at hS
 generalize Act.tau a 3=v3 at hS
 refine then_n (wp_seq (wp_seq ?_))
 refine region_z hS (qf (oL true 3 102 .is) r1 r1 (qf (oP (refNeeds_c t (by omega)) Tryz.func128 (Args.one (.pagg .t))) r1 qz (qf (o_len_sl Tryz.underlying150 .t) r1 qz (qf (oM qi) trivial qz qZ)))) hB [10,9,8,4,2] [102,101,0] rfl rfl ?_
 clear hS;intro a w F hS
 refine then_n (wp_block ?_)
 refine loop_keep (σ:=(Nat)) [2,4,8,9] [0,101,102] (fun s=>[(10,.pv (.int .i64 (s:Int)))]) (fun s=>[]) (fun s=>s≤(needsT t).length∧(∀ k,k<s→hasH g (Go.Gm.nth (needsT t) k)=true)) (fun s=>(needsT t).length - s) (0) hS ⟨rfl,rfl,rfl,rfl,rfl,trivial⟩ ⟨rfl,rfl,rfl,trivial⟩ ⟨Nat.zero_le _,fun k hk=>absurd hk (Nat.not_lt_zero k)⟩ ?_
 clear hS;intro i a w F hC hS
 try dsimp only at hC
 obtain ⟨F,hS⟩:=hS.nm [10,9,8,4,2] [102,101,0] rfl rfl
 try dsimp only at hS
 obtain ⟨hi,hq⟩:=hC
 refine wp_seq ?_
 refine region_z hS (qf (o_lss .t .t) r2 qz qZ) hB [11,10,9,8,4,2] [102,101,0] rfl rfl ?_
 clear hS;intro a w F hS
 refine then_n (wp_seq ?_)
 refine cond_b hS rfl (fun hc0=>?_) (fun hc0=>?_)
 ·skip
  have hil:i<(needsT t).length:=by simp at hc0;omega
  refine wp_skip (then_n (wp_seq (wp_block (wp_seq ?_))))
  refine region_q hS (qf (o_indexAddr_sl (sz:=3) (.mk Tryz.underlying150 (by kernel_rfl)) (by intro x;rfl) .t .t (by omega) (by omega)) r2 qz (qf (oR true 3 .t) r1 qz (qf (oH [.int .i64 0,.int .i64 0,.int .i64 0] 103) trivial qz (qf (oA 3 103 .same .t) r2 r1 qZ)))) hB ?_
  clear hS;intro a w F hS
  replace hS:=hS.sub
  obtain ⟨F,hS⟩:=hS.nm [13,12,11,10,9,8,6,4,2] [103,102,101,0] rfl rfl
  try dsimp only [RS.sub,SF.sub,CF.sub,csub,Anc.sub,List.map,stCells,xL,xM,Nat.reduceAdd,xD,xE,xT,xU,xC,xN,zCF,ldSF,rHist,rTx,rOrd,rVer,rInt,rOp] at hS
  generalize Act.tau a 6=v6 at hS
  try simp only [Int.toNat_natCast] at hS
  refine then_n (wp_seq ?_)
  refine region_z hS (qf (oL true 2 101 .is) r1 r1 (qf (oL true 3 103 .is) r1 r1 (qf (oP (refHas_c g (Go.Gm.nth (needsT t) i) hs) Tryz.func129 (Args.two (.pagg .t) (.pagg .t))) r2 qz (qf (o_not .t) r1 qz qZ)))) hB [17,16,15,14,13,12,11,10,9,8,6,4,2] [103,102,101,0] rfl rfl ?_
  clear hS;intro a w F hS
  refine then_n ?_
  refine cond_b hS rfl (fun hc1=>?_) (fun hc1=>?_)
  ·skip
   have hg:false=needsH g t:=(needsH_false hil (by simpa using hc1)).symm
   refine wp_seq ?_
   refine region_z hS (qf (oN .cb) trivial qz qZ) hB [17,16,15,14,13,12,11,10,9,8,6,4,2] [103,102,101,0] rfl rfl ?_
   clear hS;intro a w F hS
   refine then_n (wp_ret (block_r (then_r (then_r (block_r (then_r ?_))))))
   refine ret_P hfr hS rfl (.tmp rfl .nil) (.one (.bool hg))
  have hne:hasH g (Go.Gm.nth (needsT t) i)=true:=by simpa using hc1
  refine wp_skip (block_n (then_n ?_))
  refine region_z hS (qf (o_add .t qi) r1 qz (qM rfl rfl qZ)) hB [18,17,16,15,14,13,12,11,10,9,8,6,4,2] [103,102,101,0] rfl rfl ?_
  clear hS;intro a w F hS
  refine then_n ?_
  replace hS:=hS.ent (i:=10) (s':=.pv (.int .i64 ((i+1:Nat):Int))) rfl (.int (wrap_succ (by omega)))
  obtain ⟨F,hS⟩:=hS.nm [9,8,4,2,10] [102,101,0] rfl rfl
  exact ⟨(i+1),F,⟨by omega,(fun k hk=>by rcases Nat.lt_or_eq_of_le (Nat.le_of_lt_succ hk) with h9 | h9;exact hq k h9;rw [h9];exact hne)⟩,hS,by omega⟩
 have hil:i=(needsT t).length:=by simp at hc0;omega
 have hg:true=needsH g t:=(needsH_true (by rw [← hil];exact hq)).symm
 refine wp_exit (then_x (then_x (block_x (then_n (wp_seq ?_)))))
 refine region_z hS (qf (oN .cb) trivial qz qZ) hB [4] [102,101,0] rfl rfl ?_
 clear hS;intro a w F hS
 refine then_n (wp_ret ?_)
 refine ret_P hfr hS rfl (.tmp rfl .nil) (.one (.bool hg))
end Go.Proofs.YtcfgcpcakdknkaaGreat
namespace Go.Proofs.YtcfgcpcakdknkaaGreat
open Go Go.Gm
set_option linter.unusedVariables false
set_option linter.unusedSimpArgs false
set_option maxHeartbeats 4000000
set_option maxRecDepth 8000
theorem refWriters_c (g:HistD) (k:Int) (hs:SmallT g.txs):FnP Tryz.prog 98 [.agg (rHist g),.int .i64 k] (.sl rInt (writersH g.txs k)):=by
 refine FnP.mk Tryz.func98 rfl Tryz.ntmps98 rfl ?_
 intro B a w F hB hfr hS
 have hsl:=hs.1
 refine wp_seq ?_
 refine region_q hS (qf (oX 101 (.conv .t .agg)) r1 qz (qf (oN (.c rfl)) trivial qz qZ)) hB ?_
 clear hS;intro a w F hS
 replace hS:=hS.sub
 obtain ⟨F,hS⟩:=hS.nm [4,2,1] [101,0] rfl rfl
 try dsimp only [RS.sub,SF.sub,CF.sub,csub,Anc.sub,List.map,zCF,rHist,rTx,rOrd,rVer,rInt,rOp] at hS
 generalize Act.tau a 2=v2 at hS
 refine then_n (wp_seq ?_)
 refine region_z hS (qf (oN (.c rfl)) trivial qz qZ) hB [5,4,2,1] [101,0] rfl rfl ?_
 clear hS;intro a w F hS
 refine then_n (wp_seq (wp_seq ?_))
 refine region_z hS (qf (oF 0 101 .is) r1 r1 (qf (oL false 1 101 .adr) r1 r1 (qf (o_len_sl Tryz.underlying27 .t) r1 qz (qf (oM qi) trivial qz qZ)))) hB [11,10,9,5,4,1] [101,0] rfl rfl ?_
 clear hS;intro a w F hS
 refine then_n (wp_block ?_)
 replace hS:=hS.fresh 50 rfl
 replace hS:=hS.turn 50 rfl (nilRow (T:=3) (sz:=1) (R:=rInt))
 refine loop_keep (σ:=(Nat)×(Value)×(List Int)) [1,4,9,10] [0,101] (fun s=>[(11,.pv (.int .i64 (s.1:Int))),(5,.pv (.is s.2.1))]) (fun s=>[(50,.ob (.val s.2.1) (rowH 3 1 rInt s.2.2))]) (fun s=>s.1≤g.txs.length∧(s.2.2=writersH (g.txs.take s.1) k)) (fun s=>g.txs.length - s.1) ((0),(.slice none 0 0),([])) hS ⟨rfl,rfl,rfl,rfl,rfl,rfl,trivial⟩ ⟨rfl,rfl,rfl,trivial⟩ ⟨Nat.zero_le _,rfl⟩ ?_
 clear hS;intro s a w F hC hS
 obtain ⟨i,v,out⟩:=s
 try dsimp only at hC
 obtain ⟨F,hS⟩:=hS.nm [11,10,9,5,4,1] [101,50,0] rfl rfl
 try dsimp only at hS
 obtain ⟨hi,hq⟩:=hC
 have hol:out.length≤i:=by rw [hq];exact Nat.le_trans (writersH_len _ _) (by rw [List.length_take];omega)
 have hxl:=fun hil:i<g.txs.length=>hs.at hil
 refine wp_seq ?_
 refine region_z hS (qf (o_lss .t .t) r2 qz qZ) hB [12,11,10,9,5,4,1] [101,50,0] rfl rfl ?_
 clear hS;intro a w F hS
 refine then_n (wp_seq ?_)
 refine cond_b hS rfl (fun hc0=>?_) (fun hc0=>?_)
 ·skip
  have hil:i<g.txs.length:=by simp at hc0;omega
  refine wp_skip (then_n (wp_seq (wp_block (wp_seq ?_))))
  refine region_q hS (qf (o_indexAddr_sl (sz:=3) (.mk Tryz.underlying27 (by kernel_rfl)) (by intro x;rfl) .t .t (by omega) (by omega)) r2 qz (qf (oR true 3 .t) r1 qz (qf (oH [.int .i64 0,.bool false,.slice none 0 0] 102) trivial qz (qf (oA 3 102 .same .t) r2 r1 qZ)))) hB ?_
  clear hS;intro a w F hS
  replace hS:=hS.sub
  obtain ⟨F,hS⟩:=hS.nm [14,13,12,11,10,9,7,5,4,1] [102,101,50,0] rfl rfl
  try dsimp only [RS.sub,SF.sub,CF.sub,csub,Anc.sub,List.map,stCells,xL,xM,Nat.reduceAdd,xD,xE,xT,xU,xC,xN,zCF,ldSF,rHist,rTx,rOrd,rVer,rInt,rOp] at hS
  generalize Act.tau a 7=v7 at hS
  try simp only [Int.toNat_natCast] at hS
  refine then_n (wp_seq ?_)
  refine region_z hS (qf (oF 1 102 .is) r1 r1 (qf (oL false 1 102 .adr) r1 r1 (qM rfl rfl (qk rfl (fun h=>oF 2 102 .is) r2 r1 (qk rfl (fun h=>oL false 1 102 (.w h .adr)) r2 r1 (qm rfl rfl rfl rfl (qk rfl (fun h=>oP (rwrites_c (Go.Gm.nth g.txs i).ops k (by have:=hxl hil;omega)) Tryz.func127 (Args.two (.w h) (.w h))) r3 qz (qk rfl (fun h=>o_gtr (.w h) qi) r2 qz (qf (o_and2 .t .t) r2 qz qZ))))))))) hB [23,22,21,20,19,18,17,16,15,14,13,12,11,10,9,7,5,4,1] [102,101,50,0] rfl rfl ?_
  clear hS;intro a w F hS
  refine then_n ?_
  refine cond_b hS rfl (fun hc1=>?_) (fun hc1=>?_)
  ·skip
   have hBq:((Go.Gm.nth g.txs i).done=true∧0<wcnt (Go.Gm.nth g.txs i).ops k):=by
     have h8:=hc1
     rw [Bool.and_eq_true,decide_eq_true_eq] at h8
     exact ⟨h8.1,by unfold wcnt;exact_mod_cast h8.2⟩
   refine region_q hS (qM rfl rfl (qf (oF 0 102 .is) r1 r1 (qf (oL false 1 102 .adr) r1 r1 (qf (o_buildSliceE (sz:=1) (zs:=[.int .i64 0]) (r:=[(0,.tmp 26)]) (l:=[_]) Tryz.underlying35 (by kernel_rfl) (by kernel_rfl) (by kernel_rfl) (by kernel_rfl) rfl rfl (.one rfl .t one_int (by kernel_rfl) .nil) rfl) r1 qz (qf (o_append (sz:=1) (bs:=8) 50 (.mk' Tryz.underlying35 (by kernel_rfl) (by kernel_rfl)) (by intro x;rfl) .is (.arr (l':=[_]) .t) (by simp only [List.length_append,List.length_cons,List.length_nil,List.length_take,List.length_drop];omega) (by decide)) ⟨rfl,rfl,trivial⟩ ⟨rfl,trivial⟩ (qN rfl rfl qZ)))))) hB ?_
   clear hS;intro a w F hS
   replace hS:=hS.sub
   obtain ⟨F,hS⟩:=hS.nm [28,27,26,25,24,23,22,21,20,19,18,17,16,15,14,13,12,11,10,9,7,5,4,1] [102,101,50,0] rfl rfl
   try dsimp only [RS.sub,SF.sub,CF.sub,csub,Anc.sub,List.map,stCells,xL,xM,Nat.reduceAdd,xD,xE,xT,xU,xC,xN,zCF,ldSF,rHist,rTx,rOrd,rVer,rInt,rOp] at hS
   generalize Act.tau a 28=v28 at hS
   refine block_n (then_n ?_)
   refine region_z hS (qf (o_add .t qi) r1 qz (qM rfl rfl qZ)) hB [29,28,27,26,25,24,23,22,21,20,19,18,17,16,15,14,13,12,11,10,9,7,5,4,1] [102,101,50,0] rfl rfl ?_
   clear hS;intro a w F hS
   refine then_n ?_
   replace hS:=hS.ent (i:=11) (s':=.pv (.int .i64 ((i+1:Nat):Int))) rfl (.int (wrap_succ (by omega)))
   obtain ⟨F,hS⟩:=hS.nm [10,9,4,1,5,11] [101,0,50] rfl rfl
   exact ⟨((i+1),_,_),F,⟨by omega,(by rw [writersH_step hil,← hq];first | (rw [if_pos hBq];done) | (rw [if_neg hBq,List.append_nil]))⟩,hS,by omega⟩
  have hBq:¬ ((Go.Gm.nth g.txs i).done=true∧0<wcnt (Go.Gm.nth g.txs i).ops k):=by
    rintro ⟨g1,g2⟩
    have h8:=hc1
    rw [g1,Bool.true_and,decide_eq_false_iff_not] at h8
    exact h8 (by unfold wcnt at g2;exact_mod_cast g2)
  refine wp_skip (block_n (then_n ?_))
  refine region_z hS (qf (o_add .t qi) r1 qz (qM rfl rfl qZ)) hB [29,23,22,21,20,19,18,17,16,15,14,13,12,11,10,9,7,5,4,1] [102,101,50,0] rfl rfl ?_
  clear hS;intro a w F hS
  refine then_n ?_
  replace hS:=hS.ent (i:=11) (s':=.pv (.int .i64 ((i+1:Nat):Int))) rfl (.int (wrap_succ (by omega)))
  obtain ⟨F,hS⟩:=hS.nm [10,9,4,1,5,11] [101,0,50] rfl rfl
  exact ⟨((i+1),_,_),F,⟨by omega,(by rw [writersH_step hil,← hq];first | (rw [if_pos hBq];done) | (rw [if_neg hBq,List.append_nil]))⟩,hS,by omega⟩
 have hil:i=g.txs.length:=by simp at hc0;omega
 refine wp_exit (then_x (then_x (block_x (then_n (wp_seq ?_)))))
 refine region_z hS (qM rfl rfl (qN rfl rfl qZ)) hB [4] [101,50,0] rfl rfl ?_
 clear hS;intro a w F hS
 refine then_n (wp_ret ?_)
 obtain ⟨F,hS⟩:=hS.give 50 4 rfl rfl
 refine ret_P hfr hS rfl (.tmp rfl .nil) (.one (.sl (by rw [hq,hil,List.take_length])))
theorem refPut_c (l:List Int) (n:Int) (hl:l.length≤1000000):FnP Tryz.prog 84 [.sl rInt l,.int .i64 n] (.sl rInt (putI l n)):=by
 refine FnP.mk Tryz.func84 rfl Tryz.ntmps84 rfl ?_
 intro B a w F hB hfr hS
 refine wp_seq ?_
 refine region_z hS (qf (oN (.c rfl)) trivial qz qZ) hB [4,1,0] [0] rfl rfl ?_
 clear hS;intro a w F hS
 refine then_n (wp_seq ?_)
 refine region_z hS (qM rfl rfl (qM rfl rfl (qf (oP (put10_c l n hl) Tryz.func124 (Args.two .t .t)) r2 qz (qN rfl rfl qZ)))) hB [4] [0] rfl rfl ?_
 clear hS;intro a w F hS
 refine then_n (wp_ret ?_)
 refine ret_P hfr hS rfl (.tmp rfl .nil) (.one .refl)
theorem refKeysH_c (g:HistD) (hs:SmallT g.txs):FnP Tryz.prog 97 [.agg (rHist g)] (.sl rInt (keysH g.txs)):=by
 refine FnP.mk Tryz.func97 rfl Tryz.ntmps97 rfl ?_
 intro B a w F hB hfr hS
 have hsl:=hs.1
 refine wp_seq ?_
 refine region_q hS (qf (oX 101 (.conv .t .agg)) r1 qz (qf (oN (.c rfl)) trivial qz qZ)) hB ?_
 clear hS;intro a w F hS
 replace hS:=hS.sub
 obtain ⟨F,hS⟩:=hS.nm [2,1] [101,0] rfl rfl
 try dsimp only [RS.sub,SF.sub,CF.sub,csub,Anc.sub,List.map,zCF,rHist,rTx,rOrd,rVer,rInt,rOp] at hS
 generalize Act.tau a 1=v1 at hS
 refine then_n (wp_seq ?_)
 refine region_z hS (qf (oN (.c rfl)) trivial qz qZ) hB [3,2,1] [101,0] rfl rfl ?_
 clear hS;intro a w F hS
 refine then_n (wp_seq (wp_seq ?_))
 refine region_z hS (qf (oF 0 101 .is) r1 r1 (qf (oL false 1 101 .adr) r1 r1 (qf (o_len_sl Tryz.underlying27 .t) r1 qz (qf (oM qi) trivial qz qZ)))) hB [11,10,9,3,2] [101,0] rfl rfl ?_
 clear hS;intro a w F hS
 refine then_n (wp_block ?_)
 replace hS:=hS.ent (i:=3) (s':=.pv (.sl rInt (keysH (g.txs.take 0)))) rfl (.nilSl)
 refine loop_keep (σ:=(Nat)) [2,9,10] [0,101] (fun s=>[(11,.pv (.int .i64 (s:Int))),(3,.pv (.sl rInt (keysH (g.txs.take s))))]) (fun s=>[]) (fun s=>s≤g.txs.length∧(True)) (fun s=>g.txs.length - s) (0) hS ⟨rfl,rfl,rfl,rfl,rfl,trivial⟩ ⟨rfl,rfl,trivial⟩ ⟨Nat.zero_le _,trivial⟩ ?_
 clear hS;intro i a w F hC hS
 try dsimp only at hC
 obtain ⟨F,hS⟩:=hS.nm [11,10,9,3,2] [101,0] rfl rfl
 try dsimp only at hS
 obtain ⟨hi,hq⟩:=hC
 have hxl:=fun hil:i<g.txs.length=>hs.at hil
 have hkl:(keysH (g.txs.take i)).length≤1000*i:=keysH_le hs i
 refine wp_seq ?_
 refine region_z hS (qf (o_lss .t .t) r2 qz qZ) hB [12,11,10,9,3,2] [101,0] rfl rfl ?_
 clear hS;intro a w F hS
 refine then_n (wp_seq ?_)
 refine cond_b hS rfl (fun hc0=>?_) (fun hc0=>?_)
 ·skip
  have hil:i<g.txs.length:=by simp at hc0;omega
  have hio:=hil
  have htl:=hxl hil
  have hkt:=keysT_len (Go.Gm.nth g.txs i)
  have hsl:=hs.1
  refine wp_skip (then_n (wp_seq (wp_block (wp_seq ?_))))
  refine region_q hS (qf (o_indexAddr_sl (sz:=3) (.mk Tryz.underlying27 (by kernel_rfl)) (by intro x;rfl) .t .t (by omega) (by omega)) r2 qz (qf (oR true 3 .t) r1 qz (qf (oH [.int .i64 0,.bool false,.slice none 0 0] 102) trivial qz (qf (oA 3 102 .same .t) r2 r1 qZ)))) hB ?_
  clear hS;intro a w F hS
  replace hS:=hS.sub
  obtain ⟨F,hS⟩:=hS.nm [14,13,12,11,10,9,5,3,2] [102,101,0] rfl rfl
  try dsimp only [RS.sub,SF.sub,CF.sub,csub,Anc.sub,List.map,stCells,xL,xM,Nat.reduceAdd,xD,xE,xT,xU,xC,xN,zCF,ldSF,rHist,rTx,rOrd,rVer,rInt,rOp] at hS
  generalize Act.tau a 5=v5 at hS
  try simp only [Int.toNat_natCast] at hS
  refine then_n (wp_seq ?_)
  refine region_z hS (qf (oF 1 102 .is) r1 r1 (qf (oL false 1 102 .adr) r1 r1 qZ)) hB [16,15,14,13,12,11,10,9,5,3,2] [102,101,0] rfl rfl ?_
  clear hS;intro a w F hS
  refine then_n ?_
  refine cond_b hS rfl (fun hc1=>?_) (fun hc1=>?_)
  ·skip
   have hdn:(Go.Gm.nth g.txs i).done=true:=hc1
   refine wp_seq ?_
   refine region_z hS (qf (oL true 3 102 .is) r1 r1 (qf (oP (rkeys_c (Go.Gm.nth g.txs i) false (by have:=hxl hil;omega)) Tryz.func130 (Args.two (.pagg .t) .cb)) r1 qz (qf (o_len_sl Tryz.underlying35 .t) r1 qz (qf (oM qi) trivial qz qZ)))) hB [20,19,18,17,16,15,14,13,12,11,10,9,5,3,2] [102,101,0] rfl rfl ?_
   clear hS;intro a w F hS
   rw [show keysL (((Go.Gm.nth g.txs i).ops.filter fun o=>false || !o.read).map OpD.key)=keysT (Go.Gm.nth g.txs i) from rfl] at hS
   refine then_n (wp_block ?_)
   replace hS:=hS.ent (i:=3) (s':=.pv (.sl rInt (((keysT (Go.Gm.nth g.txs i)).take 0).foldl putI (keysH (g.txs.take i))))) rfl (.refl)
   refine loop_keep (σ:=(Nat)) [2,5,9,10,11,12,13,14,15,16,17,18,19] [0,101,102] (fun s=>[(20,.pv (.int .i64 (s:Int))),(3,.pv (.sl rInt (((keysT (Go.Gm.nth g.txs i)).take s).foldl putI (keysH (g.txs.take i)))))]) (fun s=>[]) (fun s=>s≤(keysT (Go.Gm.nth g.txs i)).length∧(True)) (fun s=>(keysT (Go.Gm.nth g.txs i)).length - s) (0) hS ⟨rfl,rfl,rfl,rfl,rfl,rfl,rfl,rfl,rfl,rfl,rfl,rfl,rfl,rfl,rfl,trivial⟩ ⟨rfl,rfl,rfl,trivial⟩ ⟨Nat.zero_le _,trivial⟩ ?_
   clear hS;intro j a w F hC hS
   try dsimp only at hC
   obtain ⟨F,hS⟩:=hS.nm [20,19,18,17,16,15,14,13,12,11,10,9,5,3,2] [102,101,0] rfl rfl
   try dsimp only at hS
   obtain ⟨hi,hq⟩:=hC
   have hjb:=keysF_len (keysH (g.txs.take i)) ((keysT (Go.Gm.nth g.txs i)).take j)
   rw [List.length_take] at hjb
   refine wp_seq ?_
   refine region_z hS (qf (o_lss .t .t) r2 qz qZ) hB [21,20,19,18,17,16,15,14,13,12,11,10,9,5,3,2] [102,101,0] rfl rfl ?_
   clear hS;intro a w F hS
   refine then_n (wp_seq ?_)
   refine cond_b hS rfl (fun hc2=>?_) (fun hc2=>?_)
   ·skip
    have hil:j<(keysT (Go.Gm.nth g.txs i)).length:=by simp at hc2;omega
    refine wp_skip (then_n (wp_seq (wp_block (wp_seq ?_))))
    refine region_z hS (qf (o_indexAddr_sl (sz:=1) (.mk Tryz.underlying35 (by kernel_rfl)) (by intro x;rfl) .t .t (by omega) (by omega)) r2 qz (qf (oR false 1 .t) r1 qz (qN rfl rfl qZ))) hB [23,22,21,20,19,18,17,16,15,14,13,12,11,10,9,7,5,3,2] [102,101,0] rfl rfl ?_
    clear hS;intro a w F hS
    try simp only [Int.toNat_natCast] at hS
    refine then_n ?_
    refine region_z hS (qM rfl rfl (qM rfl rfl (qf (oP (refPut_c (((keysT (Go.Gm.nth g.txs i)).take j).foldl putI (keysH (g.txs.take i))) _ (by omega)) Tryz.func84 (Args.two .t .t)) r2 qz (qN rfl rfl qZ)))) hB [26,25,24,23,22,21,20,19,18,17,16,15,14,13,12,11,10,9,7,5,3,2] [102,101,0] rfl rfl ?_
    clear hS;intro a w F hS
    refine block_n (then_n ?_)
    refine region_z hS (qf (o_add .t qi) r1 qz (qM rfl rfl qZ)) hB [27,26,25,24,23,22,21,20,19,18,17,16,15,14,13,12,11,10,9,7,5,3,2] [102,101,0] rfl rfl ?_
    clear hS;intro a w F hS
    refine then_n ?_
    replace hS:=hS.ent (i:=20) (s':=.pv (.int .i64 ((j+1:Nat):Int))) rfl (.int (wrap_succ (by omega)))
    replace hS:=hS.ent (i:=3) (s':=.pv (.sl rInt (((keysT (Go.Gm.nth g.txs i)).take (j+1)).foldl putI (keysH (g.txs.take i))))) rfl ((.sl (by rw [take_nth hil,List.foldl_append];rfl)))
    obtain ⟨F,hS⟩:=hS.nm [19,18,17,16,15,14,13,12,11,10,9,5,2,3,20] [102,101,0] rfl rfl
    exact ⟨(j+1),F,⟨by omega,trivial⟩,hS,by omega⟩
   have hil:j=(keysT (Go.Gm.nth g.txs i)).length:=by simp at hc2;omega
   replace hS:=hS.ent (i:=3) (s':=.pv (.sl rInt (keysH (g.txs.take (i+1))))) rfl (.sl (by rw [keysH_step hio,if_pos hdn,hil,List.take_length]))
   refine wp_exit (then_x (then_x (block_x (block_n (then_n ?_)))))
   refine region_z hS (qf (o_add .t qi) r1 qz (qM rfl rfl qZ)) hB [28,21,20,19,18,17,16,15,14,13,12,11,10,9,5,3,2] [102,101,0] rfl rfl ?_
   clear hS;intro a w F hS
   refine then_n ?_
   replace hS:=hS.ent (i:=11) (s':=.pv (.int .i64 ((i+1:Nat):Int))) rfl (.int (wrap_succ (by omega)))
   obtain ⟨F,hS⟩:=hS.nm [10,9,2,3,11] [101,0] rfl rfl
   exact ⟨(i+1),F,⟨by omega,trivial⟩,hS,by omega⟩
  have hdn:¬ (Go.Gm.nth g.txs i).done=true:=by rw [hc1];simp
  replace hS:=hS.ent (i:=3) (s':=.pv (.sl rInt (keysH (g.txs.take (i+1))))) rfl (.sl (by rw [keysH_step hio,if_neg hdn]))
  refine wp_skip (block_n (then_n ?_))
  refine region_z hS (qf (o_add .t qi) r1 qz (qM rfl rfl qZ)) hB [28,16,15,14,13,12,11,10,9,5,3,2] [102,101,0] rfl rfl ?_
  clear hS;intro a w F hS
  refine then_n ?_
  replace hS:=hS.ent (i:=11) (s':=.pv (.int .i64 ((i+1:Nat):Int))) rfl (.int (wrap_succ (by omega)))
  obtain ⟨F,hS⟩:=hS.nm [10,9,2,3,11] [101,0] rfl rfl
  exact ⟨(i+1),F,⟨by omega,trivial⟩,hS,by omega⟩
 have hil:i=g.txs.length:=by simp at hc0;omega
 refine wp_exit (then_x (then_x (block_x (then_n (wp_seq ?_)))))
 refine region_z hS (qM rfl rfl (qN rfl rfl qZ)) hB [2] [101,0] rfl rfl ?_
 clear hS;intro a w F hS
 refine then_n (wp_ret ?_)
 refine ret_P hfr hS rfl (.tmp rfl .nil) (.one (.sl (by rw [hil,List.take_length])))
end Go.Proofs.YtcfgcpcakdknkaaGreat
namespace Go.Proofs.YtcfgcpcakdknkaaGreat
open Go Go.Gm
set_option linter.unusedVariables false
set_option linter.unusedSimpArgs false
set_option maxHeartbeats 4000000
set_option maxRecDepth 8000
theorem writers_c (g:HistD) (hs:SmallT g.txs):FnG Tryz.prog 103 1 [.agg (rHist g)] [.star []] (PV.one) (fun v=>[HP.ex fun s:List (GE Int (List Int))×Nat=>HP.and (WrL s.1 g.txs) (mapG (fun l:List Int=>PV.sl rInt l) (fun _=>True) (fun n:Int=>Value.int .i64 n) s.1 s.2 v)]):=by
 refine FnG.mk Tryz.func103 rfl Tryz.ntmps103 rfl (by kernel_rfl) ?_
 intro B F0 a w F hB hG hS
 have hsl:=hs.1
 obtain ⟨F,hS⟩:=hS.nm [0] [0] rfl rfl
 refine wp_seq ?_
 refine region_q hS (qf (oX 101 (.conv .t .agg)) r1 qz (qf (oN (.c rfl)) trivial qz qZ)) hB ?_
 clear hS;intro a w F hS
 replace hS:=hS.sub
 obtain ⟨F,hS⟩:=hS.nm [2,1] [101,0] rfl rfl
 try dsimp only [RS.sub,SF.sub,CF.sub,csub,Anc.sub,List.map,zCF,rHist,rTx,rOrd,rVer,rInt,rOp] at hS
 generalize Act.tau a 1=v1 at hS
 refine then_n (wp_seq ?_)
 refine region_q hS (qf (o_makeMapG (ek:=(fun p:Value×List Int=>PV.is p.1)) (ok:=(fun _=>True)) (kv:=(fun n:Int=>Value.int .i64 n)) 102) trivial qz (qN rfl rfl qZ)) hB ?_
 clear hS;intro a w F hS
 replace hS:=hS.sub
 obtain ⟨F,hS⟩:=hS.nm [3,2,1] [102,101,0] rfl rfl
 try dsimp only [RS.sub,SF.sub,CF.sub,csub,Anc.sub,List.map,stCells,xL,xM,Nat.reduceAdd,xD,xE,xT,xU,xC,xN,zCF,rHist,rTx,rOrd,rVer,rInt,rOp] at hS
 generalize Act.tau a 8=v8 at hS
 replace hS:=hS.fresh 60 rfl
 replace hS:=hS.turn 60 rfl (r':=famG 3 1 rInt ([]:List (GE Int (Value×List Int)))) (fun _ _ _ _ h=>h)
 obtain ⟨F,hS⟩:=hS.nm [3,2,1] [102,101,60,0] rfl rfl
 refine then_n (wp_seq (wp_seq ?_))
 refine region_z hS (qf (oF 0 101 .is) r1 r1 (qf (oL false 1 101 .adr) r1 r1 (qf (o_len_sl Tryz.underlying27 .t) r1 qz (qf (oM qi) trivial qz qZ)))) hB [12,11,10,3,2] [102,101,60,0] rfl rfl ?_
 clear hS;intro a w F hS
 refine then_n (wp_block ?_)
 refine loop_keep (σ:=(Nat)×(List (GE Int (Value×List Int)))×(Nat)) [2,3,10,11] [0,101] (fun s=>[(12,.pv (.int .i64 (s.1:Int)))]) (fun s=>[(102,.ob (.val v8) (mapG (fun p:Value×List Int=>PV.is p.1) (fun _=>True) (fun n:Int=>Value.int .i64 n) s.2.1 s.2.2)),(60,famG 3 1 rInt s.2.1)]) (fun s=>s.1≤g.txs.length∧(WrV s.2.1 (g.txs.take s.1) 0 [])) (fun s=>g.txs.length - s.1) ((0),([]),(0)) hS ⟨rfl,rfl,rfl,rfl,rfl,trivial⟩ ⟨rfl,rfl,rfl,rfl,trivial⟩ ⟨Nat.zero_le _,wr_zero⟩ ?_
 clear hS;intro s a w F hC hS
 obtain ⟨i,es,ck⟩:=s
 try dsimp only at hC
 obtain ⟨F,hS⟩:=hS.nm [12,11,10,3,2] [102,101,60,0] rfl rfl
 try dsimp only at hS
 obtain ⟨hi,hq⟩:=hC
 have hxl:=fun hil:i<g.txs.length=>hs.at hil
 refine wp_seq ?_
 refine region_z hS (qf (o_lss .t .t) r2 qz qZ) hB [13,12,11,10,3,2] [102,101,60,0] rfl rfl ?_
 clear hS;intro a w F hS
 refine then_n (wp_seq ?_)
 refine cond_b hS rfl (fun hc0=>?_) (fun hc0=>?_)
 ·skip
  have hil:i<g.txs.length:=by simp at hc0;omega
  have hio:=hil
  have hw0:=hq
  have htl:=hxl hil
  have hkt:=keysT_len (Go.Gm.nth g.txs i)
  have hsl:=hs.1
  refine wp_skip (then_n (wp_seq (wp_block (wp_seq ?_))))
  refine region_q hS (qf (o_indexAddr_sl (sz:=3) (.mk Tryz.underlying27 (by kernel_rfl)) (by intro x;rfl) .t .t (by omega) (by omega)) r2 qz (qf (oR true 3 .t) r1 qz (qf (oH [.int .i64 0,.bool false,.slice none 0 0] 103) trivial qz (qf (oA 3 103 .same .t) r2 r1 qZ)))) hB ?_
  clear hS;intro a w F hS
  replace hS:=hS.sub
  obtain ⟨F,hS⟩:=hS.nm [15,14,13,12,11,10,5,3,2] [103,102,101,60,0] rfl rfl
  try dsimp only [RS.sub,SF.sub,CF.sub,csub,Anc.sub,List.map,stCells,xL,xM,Nat.reduceAdd,xD,xE,xT,xU,xC,xN,zCF,ldSF,rHist,rTx,rOrd,rVer,rInt,rOp] at hS
  generalize Act.tau a 5=v5 at hS
  try simp only [Int.toNat_natCast] at hS
  refine then_n (wp_seq (wp_seq ?_))
  refine region_z hS (qf (oF 1 103 .is) r1 r1 (qf (oL false 1 103 .adr) r1 r1 (qf (o_not .t) r1 qz qZ))) hB [18,17,16,15,14,13,12,11,10,5,3,2] [103,102,101,60,0] rfl rfl ?_
  clear hS;intro a w F hS
  refine then_n ?_
  refine cond_b hS rfl (fun hc1=>?_) (fun hc1=>?_)
  ·skip
   have hdn:(Go.Gm.nth g.txs i).done=false:=by simpa using hc1
   obtain ⟨es2,he2⟩:∃ z,z=es:=⟨_,rfl⟩
   obtain ⟨ck2,hc2⟩:∃ z,z=ck:=⟨_,rfl⟩
   have hR2:WrV es2 (g.txs.take (i+1)) 0 []:=by rw [he2];exact wr_skip hw0 hio hdn
   rw [← he2,← hc2] at hS
   refine wp_exit (then_x (block_x (then_n ?_)))
   refine region_z hS (qf (o_add .t qi) r1 qz (qM rfl rfl qZ)) hB [36,18,17,16,15,14,13,12,11,10,5,3,2] [103,102,101,60,0] rfl rfl ?_
   clear hS;intro a w F hS
   refine then_n ?_
   replace hS:=hS.ent (i:=12) (s':=.pv (.int .i64 ((i+1:Nat):Int))) rfl (.int (wrap_succ (by omega)))
   obtain ⟨F,hS⟩:=hS.nm [11,10,3,2,12] [101,0,60,102] rfl rfl
   exact ⟨((i+1),(es2),(ck2)),F,⟨by omega,hR2⟩,hS,by omega⟩
  have hdn:(Go.Gm.nth g.txs i).done=true:=by simpa using hc1
  refine wp_skip (then_n (wp_seq ?_))
  refine region_z hS (qf (oL true 3 103 .is) r1 r1 (qf (oP (tKeys_c (Go.Gm.nth g.txs i) (by have:=hxl hio;omega)) Tryz.func143 (Args.one (.pagg .t))) r1 qz (qf (o_len_sl Tryz.underlying35 .t) r1 qz (qf (oM qi) trivial qz qZ)))) hB [22,21,20,19,18,17,16,15,14,13,12,11,10,5,3,2] [103,102,101,60,0] rfl rfl ?_
  clear hS;intro a w F hS
  rw [show keysL (((Go.Gm.nth g.txs i).ops.filter fun o=>!o.read).map OpD.key)=keysT (Go.Gm.nth g.txs i) from rfl] at hS
  refine then_n (wp_block ?_)
  refine loop_keep (σ:=(Nat)×(List (GE Int (Value×List Int)))×(Nat)) [2,3,5,10,11,12,13,14,15,16,17,18,19,20,21] [0,101,103] (fun s=>[(22,.pv (.int .i64 (s.1:Int)))]) (fun s=>[(102,.ob (.val v8) (mapG (fun p:Value×List Int=>PV.is p.1) (fun _=>True) (fun n:Int=>Value.int .i64 n) s.2.1 s.2.2)),(60,famG 3 1 rInt s.2.1)]) (fun s=>s.1≤(keysT (Go.Gm.nth g.txs i)).length∧(WrV s.2.1 (g.txs.take i) (Go.Gm.nth g.txs i).id ((keysT (Go.Gm.nth g.txs i)).take s.1))) (fun s=>(keysT (Go.Gm.nth g.txs i)).length - s.1) ((0),(es),(ck)) hS ⟨rfl,rfl,rfl,rfl,rfl,rfl,rfl,rfl,rfl,rfl,rfl,rfl,rfl,rfl,rfl,rfl,trivial⟩ ⟨rfl,rfl,rfl,rfl,rfl,trivial⟩ ⟨Nat.zero_le _,(by simpa using wr_other hw0)⟩ ?_
  clear hS;intro s a w F hC hS
  obtain ⟨j,es,ck⟩:=s
  try dsimp only at hC
  obtain ⟨F,hS⟩:=hS.nm [22,21,20,19,18,17,16,15,14,13,12,11,10,5,3,2] [103,102,101,60,0] rfl rfl
  try dsimp only at hS
  obtain ⟨hi,hq⟩:=hC
  refine wp_seq ?_
  refine region_z hS (qf (o_lss .t .t) r2 qz qZ) hB [23,22,21,20,19,18,17,16,15,14,13,12,11,10,5,3,2] [103,102,101,60,0] rfl rfl ?_
  clear hS;intro a w F hS
  refine then_n (wp_seq ?_)
  refine cond_b hS rfl (fun hc2=>?_) (fun hc2=>?_)
  ·skip
   have hil:j<(keysT (Go.Gm.nth g.txs i)).length:=by simp at hc2;omega
   have hwo:=wr_old hq (keysT_nodup _) hil
   have hwn:=writersH_len (g.txs.take i) (Go.Gm.nth (keysT (Go.Gm.nth g.txs i)) j)
   rw [List.length_take] at hwn
   rw [← hwo] at hwn
   refine wp_skip (then_n (wp_seq (wp_block (wp_seq ?_))))
   refine region_z hS (qf (o_indexAddr_sl (sz:=1) (.mk Tryz.underlying35 (by kernel_rfl)) (by intro x;rfl) .t .t (by omega) (by omega)) r2 qz (qf (oR false 1 .t) r1 qz (qN rfl rfl qZ))) hB [25,24,23,22,21,20,19,18,17,16,15,14,13,12,11,10,7,5,3,2] [103,102,101,60,0] rfl rfl ?_
   clear hS;intro a w F hS
   try simp only [Int.toNat_natCast] at hS
   refine then_n ?_
   refine part_first 5 hS (by kernel_rfl) (cG rfl (oM .t) r1 trivial (cG rfl (oM .t) r1 trivial (cG rfl (oM .t) r1 trivial (cG rfl (oM .t) r1 trivial (cG rfl (o_lookupG (ek:=(fun p:Value×List Int=>PV.is p.1)) (z0:=noRow) 102 Tryz.underlying124 (key_intG Tryz.underlying3) (by kernel_rfl) (fun _ _=>⟨rfl,rfl⟩) .is (IsKeyOf.int .t rfl)) r2 r1 ChainN.nil))))) (by kernel_rfl) (by rw [hB];kernel_rfl) ?_
   clear hS;intro a w F hS
   obtain ⟨F,hS⟩:=hS.nm [30,29,28,27,26,25,24,23,22,21,20,19,18,17,16,15,14,13,12,11,10,7,5,3,2] [103,102,101,60,0] rfl rfl
   try dsimp only [rHist,rTx,rOrd,rVer,rInt,rOp] at hS
   obtain ⟨F,hS⟩:=hS.takeKey (T:=3) (sz:=1) (R:=rInt) 60 61 (Go.Gm.nth (keysT (Go.Gm.nth g.txs i)) j) rfl rfl
   obtain ⟨F,hS⟩:=hS.nm [30,29,28,27,26,25,24,23,22,21,20,19,18,17,16,15,14,13,12,11,10,7,5,3,2] [103,102,101,61,60,0] rfl rfl
   refine part_next 4 hS (by kernel_rfl) (cG rfl (oF 0 103 .is) r1 r1 (cG rfl (oL false 1 103 .adr) r1 r1 (cG rfl (o_buildSliceE (sz:=1) (zs:=[.int .i64 0]) (r:=[(0,.tmp 32)]) (l:=[_]) Tryz.underlying35 (by kernel_rfl) (by kernel_rfl) (by kernel_rfl) (by kernel_rfl) rfl rfl (.one rfl .t one_int (by kernel_rfl) .nil) rfl) r1 trivial (cG rfl (o_append (sz:=1) (bs:=8) 61 (.mk' Tryz.underlying35 (by kernel_rfl) (by kernel_rfl)) (by intro x;rfl) .is (.arr (l':=[_]) .t) (by simp only [List.length_append,List.length_cons,List.length_nil];omega) (by decide)) ⟨rfl,rfl,trivial⟩ ⟨rfl,trivial⟩ ChainN.nil)))) (by kernel_rfl) (by rw [hB];kernel_rfl) ?_
   clear hS;intro a w F hS
   replace hS:=hS.sub
   obtain ⟨F,hS⟩:=hS.nm [34,33,32,31,30,29,28,27,26,25,24,23,22,21,20,19,18,17,16,15,14,13,12,11,10,7,5,3,2] [103,102,101,61,60,0] rfl rfl
   try dsimp only [RS.sub,SF.sub,CF.sub,csub,Anc.sub,List.map,stCells,xL,xM,Nat.reduceAdd,xD,xE,xT,xU,xC,xN,zCF,ldSF,rHist,rTx,rOrd,rVer,rInt,rOp] at hS
   generalize Act.tau a 34=v34 at hS
   refine part_last hS (by kernel_rfl) (cG rfl (o_mapUpdateG (ek:=(fun p:Value×List Int=>PV.is p.1)) (v:=((v34,((gGet (Go.Gm.nth (keysT (Go.Gm.nth g.txs i)) j) es).getD noRow).2 ++ [(Go.Gm.nth g.txs i).id]):Value×List Int)) 102 Tryz.underlying124 (key_intG Tryz.underlying3) .is (IsKeyOf.int .t rfl) .t) r3 r1 ChainN.nil) (by kernel_rfl) (by rw [hB];kernel_rfl) ?_
   clear hS;intro a w F hS
   obtain ⟨F,hS⟩:=hS.nm [34,33,32,31,30,29,28,27,26,25,24,23,22,21,20,19,18,17,16,15,14,13,12,11,10,7,5,3,2] [103,102,101,61,60,0] rfl rfl
   try dsimp only [rHist,rTx,rOrd,rVer,rInt,rOp] at hS
   refine block_n (then_n ?_)
   refine region_z hS (qf (o_add .t qi) r1 qz (qM rfl rfl qZ)) hB [35,34,33,32,31,30,29,28,27,26,25,24,23,22,21,20,19,18,17,16,15,14,13,12,11,10,7,5,3,2] [103,102,101,61,60,0] rfl rfl ?_
   clear hS;intro a w F hS
   refine then_n ?_
   obtain ⟨F,hS⟩:=hS.putKey (T:=3) (sz:=1) (R:=rInt) 60 61 (Go.Gm.nth (keysT (Go.Gm.nth g.txs i)) j) ck rfl rfl rfl
   replace hS:=hS.ent (i:=22) (s':=.pv (.int .i64 ((j+1:Nat):Int))) rfl (.int (wrap_succ (by omega)))
   obtain ⟨F,hS⟩:=hS.nm [21,20,19,18,17,16,15,14,13,12,11,10,5,3,2,22] [103,101,0,60,102] rfl rfl
   exact ⟨((j+1),((gPut (Go.Gm.nth (keysT (Go.Gm.nth g.txs i)) j) (v34,((gGet (Go.Gm.nth (keysT (Go.Gm.nth g.txs i)) j) es).getD noRow).2 ++ [(Go.Gm.nth g.txs i).id]) (es,ck)).1),((gPut (Go.Gm.nth (keysT (Go.Gm.nth g.txs i)) j) (v34,((gGet (Go.Gm.nth (keysT (Go.Gm.nth g.txs i)) j) es).getD noRow).2 ++ [(Go.Gm.nth g.txs i).id]) (es,ck)).2)),F,⟨by omega,wr_step hq (keysT_nodup _) hil⟩,hS,by omega⟩
  have hil:j=(keysT (Go.Gm.nth g.txs i)).length:=by simp at hc2;omega
  obtain ⟨es2,he2⟩:∃ z,z=es:=⟨_,rfl⟩
  obtain ⟨ck2,hc2⟩:∃ z,z=ck:=⟨_,rfl⟩
  rw [hil,List.take_length] at hq
  have hR2:WrV es2 (g.txs.take (i+1)) 0 []:=by rw [he2];exact wr_done hq hio hdn
  rw [← he2,← hc2] at hS
  refine wp_exit (then_x (then_x (block_x (block_n (then_n ?_)))))
  refine region_z hS (qf (o_add .t qi) r1 qz (qM rfl rfl qZ)) hB [36,23,22,21,20,19,18,17,16,15,14,13,12,11,10,5,3,2] [103,102,101,60,0] rfl rfl ?_
  clear hS;intro a w F hS
  refine then_n ?_
  replace hS:=hS.ent (i:=12) (s':=.pv (.int .i64 ((i+1:Nat):Int))) rfl (.int (wrap_succ (by omega)))
  obtain ⟨F,hS⟩:=hS.nm [11,10,3,2,12] [101,0,60,102] rfl rfl
  exact ⟨((i+1),(es2),(ck2)),F,⟨by omega,hR2⟩,hS,by omega⟩
 have hil:i=g.txs.length:=by simp at hc0;omega
 have hwl:=wr_lists hq
 rw [hil,List.take_length] at hwl
 refine wp_exit (then_x (then_x (block_x (then_n (wp_seq ?_)))))
 refine region_z hS (qM rfl rfl (qN rfl rfl qZ)) hB [2] [102,101,60,0] rfl rfl ?_
 clear hS;intro a w F hS
 refine then_n (wp_ret ?_)
 obtain ⟨F,hS⟩:=hS.giveMap 102 60 rfl rfl rfl
 obtain ⟨F,hS⟩:=hS.rename 102 1 rfl rfl
 have hS:=hS.turn 1 rfl (r':=RS.hp (HP.ex fun s:List (GE Int (List Int))×Nat=>HP.and (WrL s.1 g.txs) (mapG (fun l:List Int=>PV.sl rInt l) (fun _=>True) (fun n:Int=>Value.int .i64 n) s.1 s.2 v8))) (fun _ _ _ _ h=>⟨(gLists es,ck),hwl,h⟩)
 refine ret_N1 (h':=fun v=>HP.ex fun s:List (GE Int (List Int))×Nat=>HP.and (WrL s.1 g.txs) (mapG (fun l:List Int=>PV.sl rInt l) (fun _=>True) (fun n:Int=>Value.int .i64 n) s.1 s.2 v)) hG hS rfl (.tmp rfl .nil) (.one .one) rfl
end Go.Proofs.YtcfgcpcakdknkaaGreat
namespace Go.Proofs.YtcfgcpcakdknkaaGreat
open Go Go.Gm
set_option linter.unusedVariables false
set_option linter.unusedSimpArgs false
set_option maxHeartbeats 4000000
set_option maxRecDepth 8000
theorem refRightH_c (g:HistD) (hs:Small g):FnP Tryz.prog 44 [.agg (rHist g)] (.bool (decide (RightH g))):=by
 refine FnP.mk Tryz.func44 rfl Tryz.ntmps44 rfl ?_
 intro B a w F hB hfr hS
 have hsl:=hs.1.1
 have hso:=hs.2.1
 refine wp_seq ?_
 refine region_q hS (qf (oX 101 (.conv .t .agg)) r1 qz (qf (oN .cb) trivial qz qZ)) hB ?_
 clear hS;intro a w F hS
 replace hS:=hS.sub
 obtain ⟨F,hS⟩:=hS.nm [2,1] [101,0] rfl rfl
 try dsimp only [RS.sub,SF.sub,CF.sub,csub,Anc.sub,List.map,zCF,rHist,rTx,rOrd,rVer,rInt,rOp] at hS
 generalize Act.tau a 1=v1 at hS
 refine then_n (wp_seq (wp_seq ?_))
 refine region_z hS (qf (oF 0 101 .is) r1 r1 (qf (oL false 1 101 .adr) r1 r1 (qf (o_len_sl Tryz.underlying27 .t) r1 qz (qf (o_gtr .t qi) r1 qz qZ)))) hB [11,2,1] [101,0] rfl rfl ?_
 clear hS;intro a w F hS
 refine then_n ?_
 refine cond_b hS rfl (fun hc0=>?_) (fun hc0=>?_)
 ·skip
  have hg:=right_bad_long (h:=g) (by simp at hc0;omega)
  refine wp_seq ?_
  refine region_z hS (qf (oN .cb) trivial qz qZ) hB [2,1] [101,0] rfl rfl ?_
  clear hS;intro a w F hS
  refine then_n (wp_ret (then_r ?_))
  refine ret_P hfr hS rfl (.tmp rfl .nil) (.one (.bool hg))
 have hlong:g.txs.length≤4096:=by simp at hc0;omega
 refine wp_skip (then_n (wp_seq (wp_seq ?_)))
 refine region_z hS (qf (oF 0 101 .is) r1 r1 (qf (oL false 1 101 .adr) r1 r1 (qf (o_len_sl Tryz.underlying27 .t) r1 qz (qf (oM qi) trivial qz qZ)))) hB [15,14,13,2,1] [101,0] rfl rfl ?_
 clear hS;intro a w F hS
 refine then_n (wp_block ?_)
 refine loop_keep (σ:=(Nat)) [1,2,13,14] [0,101] (fun s=>[(15,.pv (.int .i64 (s:Int)))]) (fun s=>[]) (fun s=>s≤g.txs.length∧(∀ k,k<s→TxOk g k)) (fun s=>g.txs.length - s) (0) hS ⟨rfl,rfl,rfl,rfl,rfl,trivial⟩ ⟨rfl,rfl,trivial⟩ ⟨Nat.zero_le _,fun k hk=>absurd hk (Nat.not_lt_zero k)⟩ ?_
 clear hS;intro i a w F hC hS
 try dsimp only at hC
 obtain ⟨F,hS⟩:=hS.nm [15,14,13,2,1] [101,0] rfl rfl
 try dsimp only at hS
 obtain ⟨hi,hq⟩:=hC
 have hxl:=fun hil:i<g.txs.length=>hs.1.at hil
 have hiw:0<i→IntKind.wrap .i64 ((i:Int) - 1)=((i - 1:Nat):Int):=fun h0=>by rw [wrap_i64 (by omega)];omega
 refine wp_seq ?_
 refine region_z hS (qf (o_lss .t .t) r2 qz qZ) hB [16,15,14,13,2,1] [101,0] rfl rfl ?_
 clear hS;intro a w F hS
 refine then_n (wp_seq ?_)
 refine cond_b hS rfl (fun hc1=>?_) (fun hc1=>?_)
 ·skip
  have hil:i<g.txs.length:=by simp at hc1;omega
  refine wp_skip (then_n (wp_seq (wp_block (wp_seq ?_))))
  refine region_q hS (qM rfl rfl (qf (o_indexAddr_sl (sz:=3) (.mk Tryz.underlying27 (by kernel_rfl)) (by intro x;rfl) .t .t (by omega) (by omega)) r2 qz (qf (oR true 3 .t) r1 qz (qf (oH [.int .i64 0,.bool false,.slice none 0 0] 102) trivial qz (qN rfl rfl (qf (oA 3 102 .same .t) r2 r1 qZ)))))) hB ?_
  clear hS;intro a w F hS
  replace hS:=hS.sub
  obtain ⟨F,hS⟩:=hS.nm [19,18,17,16,15,14,13,4,3,2,1] [102,101,0] rfl rfl
  try dsimp only [RS.sub,SF.sub,CF.sub,csub,Anc.sub,List.map,stCells,xL,xM,Nat.reduceAdd,xD,xE,xT,xU,xC,xN,zCF,ldSF,rHist,rTx,rOrd,rVer,rInt,rOp] at hS
  generalize Act.tau a 4=v4 at hS
  try simp only [Int.toNat_natCast] at hS
  refine then_n (wp_seq ?_)
  refine region_any (by kernel_rfl) hS (by kernel_rfl) (qM rfl rfl (qf (o_gtr .t qi) r1 qz (qM rfl rfl (qk rfl (fun h=>oF 0 101 .is) r2 r1 (qk rfl (fun h=>oL false 1 101 (.w h .adr)) r2 r1 (qm rfl rfl rfl rfl (qk rfl (fun h=>o_sub (.w h) qi) r2 qz (qk rfl (fun h=>o_indexAddr_sl (sz:=3) (.mk Tryz.underlying27 (by kernel_rfl)) (by intro x;rfl) (.w h) (.w h) (by rw [hiw (by simpa using h)];omega) (by rw [hiw (by simpa using h)];omega)) r3 qz (qk rfl (fun h=>oG 0 (.w h)) r2 qz (qk rfl (fun h=>oR false 1 (.w h)) r2 qz (qk rfl (fun h=>oF 0 102 .is) r2 r1 (qk rfl (fun h=>oL false 1 102 (.w h .adr)) r2 r1 (qk rfl (fun h=>o_geq (.w h) (.w h)) r3 qz (qf (o_and2 .t .t) r2 qz (qM rfl rfl (qk rfl (fun h=>oL true 3 102 .is) r2 r1 (qk rfl (fun h=>oP (refTxRight_c (Go.Gm.nth g.txs i)) Tryz.func87 (Args.one (.pagg (.w h)))) r2 qz (qk rfl (fun h=>o_neq (.w h) qi) r2 qz (qf (o_or2 .t .t) r2 qz (qM rfl rfl (qk rfl (fun h=>oL true 2 101 .is) r2 r1 (qk rfl (fun h=>oL true 3 102 .is) r2 r1 (qk rfl (fun h=>oP (refNeedsH_c g (Go.Gm.nth g.txs i) hs.1 (by have:=hxl hil;omega)) Tryz.func89 (Args.two (.pagg (.w h)) (.pagg (.w h)))) r3 qz (qk rfl (fun h=>o_not (.w h)) r2 qz (qf (o_or2 .t .t) r2 qz qZ))))))))))))))))))))))))) (by kernel_rfl) (by rw [hB];kernel_rfl) ?_
  clear hS;intro a w F hS
  obtain ⟨F,hS⟩:=hS.nm [44,43,42,41,40,39,38,37,36,35,34,33,32,31,30,29,28,27,26,25,24,23,22,21,20,19,18,17,16,15,14,13,4,3,2,1] [102,101,0] rfl rfl
  try dsimp only [List.map,xD,xE,xT,xU,ldSF,rHist,rTx,rOrd,rVer,rInt,rOp] at hS
  try simp only [Int.toNat_natCast] at hS
  refine then_n ?_
  refine cond_b hS rfl (fun hc2=>?_) (fun hc2=>?_)
  ·skip
   have hbad:¬ TxOk g i:=by
     rintro ⟨g1,g2,g3⟩
     have h9:=hc2
     by_cases hi0:0<i
     · rw [hiw hi0,Int.toNat_natCast] at h9
       have:=g1 hi0
       simp [g2,g3] at h9
       omega
     · have hi1:i=0:=by omega
       subst hi1
       simp [g2,g3] at h9
   have hg:=right_bad_tx hil hbad
   refine wp_seq ?_
   refine region_z hS (qf (oN .cb) trivial qz qZ) hB [44,43,42,41,40,39,38,37,36,35,34,33,32,31,30,29,28,27,26,25,24,23,22,21,20,19,18,17,16,15,14,13,4,3,2,1] [102,101,0] rfl rfl ?_
   clear hS;intro a w F hS
   refine then_n (wp_ret (block_r (then_r (then_r (block_r (then_r ?_))))))
   refine ret_P hfr hS rfl (.tmp rfl .nil) (.one (.bool hg))
  have hgood:TxOk g i:=by
    have h9:=hc2
    by_cases hi0:0<i
    · rw [hiw hi0,Int.toNat_natCast] at h9
      simp at h9
      exact ⟨fun _=>by omega,by omega,h9.2⟩
    · have hi1:i=0:=by omega
      subst hi1
      simp at h9
      exact ⟨fun h0=>absurd h0 (Nat.lt_irrefl 0),h9.1,h9.2⟩
  refine wp_skip (block_n (then_n ?_))
  refine region_z hS (qf (o_add .t qi) r1 qz (qM rfl rfl qZ)) hB [45,44,43,42,41,40,39,38,37,36,35,34,33,32,31,30,29,28,27,26,25,24,23,22,21,20,19,18,17,16,15,14,13,4,3,2,1] [102,101,0] rfl rfl ?_
  clear hS;intro a w F hS
  refine then_n ?_
  replace hS:=hS.ent (i:=15) (s':=.pv (.int .i64 ((i+1:Nat):Int))) rfl (.int (wrap_succ (by omega)))
  obtain ⟨F,hS⟩:=hS.nm [14,13,2,1,15] [101,0] rfl rfl
  exact ⟨(i+1),F,⟨by omega,(fun k hk=>by rcases Nat.lt_or_eq_of_le (Nat.le_of_lt_succ hk) with h9 | h9;exact hq k h9;rw [h9];exact hgood)⟩,hS,by omega⟩
 have hil:i=g.txs.length:=by simp at hc1;omega
 have hall:∀ k,k<g.txs.length→TxOk g k:=by rw [← hil];exact hq
 have hkn:=keysH_len hs.1
 refine wp_exit (then_x (then_x (block_x (then_n (wp_seq ?_)))))
 refine region_z hS (qf (oL true 2 101 .is) r1 r1 (qf (oP (refKeysH_c g hs.1) Tryz.func97 (Args.one (.pagg .t))) r1 qz (qN rfl rfl qZ))) hB [5,2,1] [101,0] rfl rfl ?_
 clear hS;intro a w F hS
 refine then_n (wp_seq (wp_seq ?_))
 refine region_z hS (qf (oF 1 101 .is) r1 r1 (qf (oL false 1 101 .adr) r1 r1 (qf (o_len_sl Tryz.underlying28 .t) r1 qz (qM rfl rfl (qf (o_len_sl Tryz.underlying35 .t) r1 qz (qf (o_neq .t .t) r2 qz qZ)))))) hB [53,5,2,1] [101,0] rfl rfl ?_
 clear hS;intro a w F hS
 refine then_n ?_
 refine cond_b hS rfl (fun hc3=>?_) (fun hc3=>?_)
 ·skip
  have hg:=right_bad_len (h:=g) (by simp at hc3;omega)
  refine wp_seq ?_
  refine region_z hS (qf (oN .cb) trivial qz qZ) hB [5,2,1] [101,0] rfl rfl ?_
  clear hS;intro a w F hS
  refine then_n (wp_ret (then_r ?_))
  refine ret_P hfr hS rfl (.tmp rfl .nil) (.one (.bool hg))
 have hle:g.orders.length=(keysH g.txs).length:=by simp at hc3;omega
 refine wp_skip (then_n (wp_seq (wp_seq ?_)))
 refine region_z hS (qf (oF 1 101 .is) r1 r1 (qf (oL false 1 101 .adr) r1 r1 (qf (o_len_sl Tryz.underlying28 .t) r1 qz (qf (oM qi) trivial qz qZ)))) hB [57,56,55,5,2,1] [101,0] rfl rfl ?_
 clear hS;intro a w F hS
 refine then_n (wp_block ?_)
 refine loop_keep (σ:=(Nat)) [1,2,5,55,56] [0,101] (fun s=>[(57,.pv (.int .i64 (s:Int)))]) (fun s=>[]) (fun s=>s≤g.orders.length∧(∀ k,k<s→OrdOk g k)) (fun s=>g.orders.length - s) (0) hS ⟨rfl,rfl,rfl,rfl,rfl,rfl,trivial⟩ ⟨rfl,rfl,trivial⟩ ⟨Nat.zero_le _,fun k hk=>absurd hk (Nat.not_lt_zero k)⟩ ?_
 clear hS;intro i a w F hC hS
 try dsimp only at hC
 obtain ⟨F,hS⟩:=hS.nm [57,56,55,5,2,1] [101,0] rfl rfl
 try dsimp only at hS
 obtain ⟨hi,hq⟩:=hC
 have hol:=fun hil:i<g.orders.length=>hs.2.at hil
 have hwl:=fun k=>writersH_len g.txs k
 refine wp_seq ?_
 refine region_z hS (qf (o_lss .t .t) r2 qz qZ) hB [58,57,56,55,5,2,1] [101,0] rfl rfl ?_
 clear hS;intro a w F hS
 refine then_n (wp_seq ?_)
 refine cond_b hS rfl (fun hc4=>?_) (fun hc4=>?_)
 ·skip
  have hil:i<g.orders.length:=by simp at hc4;omega
  refine wp_skip (then_n (wp_seq (wp_block (wp_seq ?_))))
  refine region_q hS (qM rfl rfl (qf (o_indexAddr_sl (sz:=2) (.mk Tryz.underlying28 (by kernel_rfl)) (by intro x;rfl) .t .t (by omega) (by omega)) r2 qz (qf (oR true 2 .t) r1 qz (qf (oH [.int .i64 0,.slice none 0 0] 103) trivial qz (qN rfl rfl (qf (oA 2 103 .same .t) r2 r1 qZ)))))) hB ?_
  clear hS;intro a w F hS
  replace hS:=hS.sub
  obtain ⟨F,hS⟩:=hS.nm [61,60,59,58,57,56,55,7,6,5,2,1] [103,101,0] rfl rfl
  try dsimp only [RS.sub,SF.sub,CF.sub,csub,Anc.sub,List.map,stCells,xL,xM,Nat.reduceAdd,xD,xE,xT,xU,xC,xN,zCF,ldSF,rHist,rTx,rOrd,rVer,rInt,rOp] at hS
  generalize Act.tau a 7=v7 at hS
  try simp only [Int.toNat_natCast] at hS
  refine then_n (wp_seq ?_)
  refine region_any (by kernel_rfl) hS (by kernel_rfl) (qf (oF 0 103 .is) r1 r1 (qf (oL false 1 103 .adr) r1 r1 (qM rfl rfl (qM rfl rfl (qf (o_indexAddr_sl (sz:=1) (.mk Tryz.underlying35 (by kernel_rfl)) (by intro x;rfl) .t .t (by omega) (by omega)) r2 qz (qf (oR false 1 .t) r1 qz (qf (o_neq .t .t) r2 qz (qM rfl rfl (qk rfl (fun h=>oF 1 103 .is) r2 r1 (qk rfl (fun h=>oL false 1 103 (.w h .adr)) r2 r1 (qk rfl (fun h=>oL true 2 101 .is) r2 r1 (qk rfl (fun h=>oF 0 103 .is) r2 r1 (qk rfl (fun h=>oL false 1 103 (.w h .adr)) r2 r1 (qk rfl (fun h=>oP (refWriters_c g (Go.Gm.nth g.orders i).key hs.1) Tryz.func98 (Args.two (.pagg (.w h)) (.w h))) r3 qz (qk rfl (fun h=>oP (perm11_c (Go.Gm.nth g.orders i).txs _) Tryz.func94 (Args.two (.w h) (.w h))) r3 qz (qk rfl (fun h=>o_not (.w h)) r2 qz (qf (o_or2 .t .t) r2 qz qZ))))))))))))))))) (by kernel_rfl) (by rw [hB];kernel_rfl) ?_
  clear hS;intro a w F hS
  obtain ⟨F,hS⟩:=hS.nm [78,77,76,75,74,73,72,71,70,69,68,67,66,65,64,63,62,61,60,59,58,57,56,55,7,6,5,2,1] [103,101,0] rfl rfl
  try dsimp only [List.map,xD,xE,xT,xU,ldSF,rHist,rTx,rOrd,rVer,rInt,rOp] at hS
  try simp only [Int.toNat_natCast] at hS
  refine then_n ?_
  refine cond_b hS rfl (fun hc5=>?_) (fun hc5=>?_)
  ·skip
   have hbad:¬ OrdOk g i:=by rintro ⟨g1,g2⟩;have h9:=hc5;simp [g1] at h9;rw [← g1] at h9;exact h9 g2
   have hg:=right_bad_ord hil hbad
   refine wp_seq ?_
   refine region_z hS (qf (oN .cb) trivial qz qZ) hB [78,77,76,75,74,73,72,71,70,69,68,67,66,65,64,63,62,61,60,59,58,57,56,55,7,6,5,2,1] [103,101,0] rfl rfl ?_
   clear hS;intro a w F hS
   refine then_n (wp_ret (block_r (then_r (then_r (block_r (then_r ?_))))))
   refine ret_P hfr hS rfl (.tmp rfl .nil) (.one (.bool hg))
  have hgood:OrdOk g i:=by have h9:=hc5;simp at h9;exact ⟨h9.1,h9.2⟩
  refine wp_skip (block_n (then_n ?_))
  refine region_z hS (qf (o_add .t qi) r1 qz (qM rfl rfl qZ)) hB [79,78,77,76,75,74,73,72,71,70,69,68,67,66,65,64,63,62,61,60,59,58,57,56,55,7,6,5,2,1] [103,101,0] rfl rfl ?_
  clear hS;intro a w F hS
  refine then_n ?_
  replace hS:=hS.ent (i:=57) (s':=.pv (.int .i64 ((i+1:Nat):Int))) rfl (.int (wrap_succ (by omega)))
  obtain ⟨F,hS⟩:=hS.nm [56,55,5,2,1,57] [101,0] rfl rfl
  exact ⟨(i+1),F,⟨by omega,(fun k hk=>by rcases Nat.lt_or_eq_of_le (Nat.le_of_lt_succ hk) with h9 | h9;exact hq k h9;rw [h9];exact hgood)⟩,hS,by omega⟩
 have hil:i=g.orders.length:=by simp at hc4;omega
 have hg:=right_good hlong hall (by omega) (by rw [← hil];exact hq)
 refine wp_exit (then_x (then_x (block_x (then_n (wp_seq ?_)))))
 refine region_z hS (qf (oN .cb) trivial qz qZ) hB [2] [101,0] rfl rfl ?_
 clear hS;intro a w F hS
 refine then_n (wp_ret ?_)
 refine ret_P hfr hS rfl (.tmp rfl .nil) (.one (.bool hg))
end Go.Proofs.YtcfgcpcakdknkaaGreat
namespace Go.Proofs.YtcfgcpcakdknkaaGreat
open Go Go.Gm
set_option linter.unusedVariables false
set_option linter.unusedSimpArgs false
set_option maxHeartbeats 4000000
set_option maxRecDepth 8000
theorem rightH_c (g:HistD) (hs:Small g):FnP Tryz.prog 49 [.agg (rHist g)] (.bool (decide (RightH g))):=by
 refine FnP.mk Tryz.func49 rfl Tryz.ntmps49 rfl ?_
 intro B a w F hB hfr hS
 have hsl:=hs.1.1
 have hso:=hs.2.1
 refine wp_seq ?_
 refine region_q hS (qf (oX 101 (.conv .t .agg)) r1 qz (qf (oN .cb) trivial qz qZ)) hB ?_
 clear hS;intro a w F hS
 replace hS:=hS.sub
 obtain ⟨F,hS⟩:=hS.nm [2,1] [101,0] rfl rfl
 try dsimp only [RS.sub,SF.sub,CF.sub,csub,Anc.sub,List.map,zCF,rHist,rTx,rOrd,rVer,rInt,rOp] at hS
 generalize Act.tau a 1=v1 at hS
 refine then_n (wp_seq (wp_seq ?_))
 refine region_z hS (qf (oF 0 101 .is) r1 r1 (qf (oL false 1 101 .adr) r1 r1 (qf (o_len_sl Tryz.underlying27 .t) r1 qz (qf (o_gtr .t qi) r1 qz qZ)))) hB [11,2,1] [101,0] rfl rfl ?_
 clear hS;intro a w F hS
 refine then_n ?_
 refine cond_b hS rfl (fun hc0=>?_) (fun hc0=>?_)
 ·skip
  have hg:=right_bad_long (h:=g) (by simp at hc0;omega)
  refine wp_seq ?_
  refine region_z hS (qf (oN .cb) trivial qz qZ) hB [2,1] [101,0] rfl rfl ?_
  clear hS;intro a w F hS
  refine then_n (wp_ret (then_r ?_))
  refine ret_P hfr hS rfl (.tmp rfl .nil) (.one (.bool hg))
 have hlong:g.txs.length≤4096:=by simp at hc0;omega
 refine wp_skip (then_n (wp_seq (wp_seq ?_)))
 refine region_z hS (qf (oF 0 101 .is) r1 r1 (qf (oL false 1 101 .adr) r1 r1 (qf (o_len_sl Tryz.underlying27 .t) r1 qz (qf (oM qi) trivial qz qZ)))) hB [15,14,13,2,1] [101,0] rfl rfl ?_
 clear hS;intro a w F hS
 refine then_n (wp_block ?_)
 refine loop_keep (σ:=(Nat)) [1,2,13,14] [0,101] (fun s=>[(15,.pv (.int .i64 (s:Int)))]) (fun s=>[]) (fun s=>s≤g.txs.length∧(∀ k,k<s→TxOk g k)) (fun s=>g.txs.length - s) (0) hS ⟨rfl,rfl,rfl,rfl,rfl,trivial⟩ ⟨rfl,rfl,trivial⟩ ⟨Nat.zero_le _,fun k hk=>absurd hk (Nat.not_lt_zero k)⟩ ?_
 clear hS;intro i a w F hC hS
 try dsimp only at hC
 obtain ⟨F,hS⟩:=hS.nm [15,14,13,2,1] [101,0] rfl rfl
 try dsimp only at hS
 obtain ⟨hi,hq⟩:=hC
 have hxl:=fun hil:i<g.txs.length=>hs.1.at hil
 have hiw:0<i→IntKind.wrap .i64 ((i:Int) - 1)=((i - 1:Nat):Int):=fun h0=>by rw [wrap_i64 (by omega)];omega
 refine wp_seq ?_
 refine region_z hS (qf (o_lss .t .t) r2 qz qZ) hB [16,15,14,13,2,1] [101,0] rfl rfl ?_
 clear hS;intro a w F hS
 refine then_n (wp_seq ?_)
 refine cond_b hS rfl (fun hc1=>?_) (fun hc1=>?_)
 ·skip
  have hil:i<g.txs.length:=by simp at hc1;omega
  refine wp_skip (then_n (wp_seq (wp_block (wp_seq ?_))))
  refine region_q hS (qM rfl rfl (qf (o_indexAddr_sl (sz:=3) (.mk Tryz.underlying27 (by kernel_rfl)) (by intro x;rfl) .t .t (by omega) (by omega)) r2 qz (qf (oR true 3 .t) r1 qz (qf (oH [.int .i64 0,.bool false,.slice none 0 0] 102) trivial qz (qN rfl rfl (qf (oA 3 102 .same .t) r2 r1 qZ)))))) hB ?_
  clear hS;intro a w F hS
  replace hS:=hS.sub
  obtain ⟨F,hS⟩:=hS.nm [19,18,17,16,15,14,13,4,3,2,1] [102,101,0] rfl rfl
  try dsimp only [RS.sub,SF.sub,CF.sub,csub,Anc.sub,List.map,stCells,xL,xM,Nat.reduceAdd,xD,xE,xT,xU,xC,xN,zCF,ldSF,rHist,rTx,rOrd,rVer,rInt,rOp] at hS
  generalize Act.tau a 4=v4 at hS
  try simp only [Int.toNat_natCast] at hS
  refine then_n (wp_seq ?_)
  refine region_any (by kernel_rfl) hS (by kernel_rfl) (qM rfl rfl (qf (o_gtr .t qi) r1 qz (qM rfl rfl (qk rfl (fun h=>oF 0 101 .is) r2 r1 (qk rfl (fun h=>oL false 1 101 (.w h .adr)) r2 r1 (qm rfl rfl rfl rfl (qk rfl (fun h=>o_sub (.w h) qi) r2 qz (qk rfl (fun h=>o_indexAddr_sl (sz:=3) (.mk Tryz.underlying27 (by kernel_rfl)) (by intro x;rfl) (.w h) (.w h) (by rw [hiw (by simpa using h)];omega) (by rw [hiw (by simpa using h)];omega)) r3 qz (qk rfl (fun h=>oG 0 (.w h)) r2 qz (qk rfl (fun h=>oR false 1 (.w h)) r2 qz (qk rfl (fun h=>oF 0 102 .is) r2 r1 (qk rfl (fun h=>oL false 1 102 (.w h .adr)) r2 r1 (qk rfl (fun h=>o_geq (.w h) (.w h)) r3 qz (qf (o_and2 .t .t) r2 qz (qM rfl rfl (qk rfl (fun h=>oL true 3 102 .is) r2 r1 (qk rfl (fun h=>oP (txRight_c (Go.Gm.nth g.txs i)) Tryz.func101 (Args.one (.pagg (.w h)))) r2 qz (qk rfl (fun h=>o_neq (.w h) qi) r2 qz (qf (o_or2 .t .t) r2 qz (qM rfl rfl (qk rfl (fun h=>oL true 2 101 .is) r2 r1 (qk rfl (fun h=>oL true 3 102 .is) r2 r1 (qk rfl (fun h=>oP (needed_c g (Go.Gm.nth g.txs i) hs.1 (by have:=hxl hil;omega)) Tryz.func102 (Args.two (.pagg (.w h)) (.pagg (.w h)))) r3 qz (qk rfl (fun h=>o_not (.w h)) r2 qz (qf (o_or2 .t .t) r2 qz qZ))))))))))))))))))))))))) (by kernel_rfl) (by rw [hB];kernel_rfl) ?_
  clear hS;intro a w F hS
  obtain ⟨F,hS⟩:=hS.nm [44,43,42,41,40,39,38,37,36,35,34,33,32,31,30,29,28,27,26,25,24,23,22,21,20,19,18,17,16,15,14,13,4,3,2,1] [102,101,0] rfl rfl
  try dsimp only [List.map,xD,xE,xT,xU,ldSF,rHist,rTx,rOrd,rVer,rInt,rOp] at hS
  try simp only [Int.toNat_natCast] at hS
  refine then_n ?_
  refine cond_b hS rfl (fun hc2=>?_) (fun hc2=>?_)
  ·skip
   have hbad:¬ TxOk g i:=by
     rintro ⟨g1,g2,g3⟩
     have h9:=hc2
     by_cases hi0:0<i
     · rw [hiw hi0,Int.toNat_natCast] at h9
       have:=g1 hi0
       simp [g2,g3] at h9
       omega
     · have hi1:i=0:=by omega
       subst hi1
       simp [g2,g3] at h9
   have hg:=right_bad_tx hil hbad
   refine wp_seq ?_
   refine region_z hS (qf (oN .cb) trivial qz qZ) hB [44,43,42,41,40,39,38,37,36,35,34,33,32,31,30,29,28,27,26,25,24,23,22,21,20,19,18,17,16,15,14,13,4,3,2,1] [102,101,0] rfl rfl ?_
   clear hS;intro a w F hS
   refine then_n (wp_ret (block_r (then_r (then_r (block_r (then_r ?_))))))
   refine ret_P hfr hS rfl (.tmp rfl .nil) (.one (.bool hg))
  have hgood:TxOk g i:=by
    have h9:=hc2
    by_cases hi0:0<i
    · rw [hiw hi0,Int.toNat_natCast] at h9
      simp at h9
      exact ⟨fun _=>by omega,by omega,h9.2⟩
    · have hi1:i=0:=by omega
      subst hi1
      simp at h9
      exact ⟨fun h0=>absurd h0 (Nat.lt_irrefl 0),h9.1,h9.2⟩
  refine wp_skip (block_n (then_n ?_))
  refine region_z hS (qf (o_add .t qi) r1 qz (qM rfl rfl qZ)) hB [45,44,43,42,41,40,39,38,37,36,35,34,33,32,31,30,29,28,27,26,25,24,23,22,21,20,19,18,17,16,15,14,13,4,3,2,1] [102,101,0] rfl rfl ?_
  clear hS;intro a w F hS
  refine then_n ?_
  replace hS:=hS.ent (i:=15) (s':=.pv (.int .i64 ((i+1:Nat):Int))) rfl (.int (wrap_succ (by omega)))
  obtain ⟨F,hS⟩:=hS.nm [14,13,2,1,15] [101,0] rfl rfl
  exact ⟨(i+1),F,⟨by omega,(fun k hk=>by rcases Nat.lt_or_eq_of_le (Nat.le_of_lt_succ hk) with h9 | h9;exact hq k h9;rw [h9];exact hgood)⟩,hS,by omega⟩
 have hil:i=g.txs.length:=by simp at hc1;omega
 have hall:∀ k,k<g.txs.length→TxOk g k:=by rw [← hil];exact hq
 have hkn:=keysH_len hs.1
 refine wp_exit (then_x (then_x (block_x (then_n (wp_seq ?_)))))
 replace hS:=hS.fresh 103 rfl
 refine region_q hS (qf (oL true 2 101 .is) r1 r1 (qf (o_callN 103 (writers_c g hs.1) Tryz.func103 rfl (by kernel_rfl) (Args.one (.pagg .t)) pvOne1) r1 r1 (qN rfl rfl qZ))) hB ?_
 clear hS;intro a w F hS
 replace hS:=hS.sub
 obtain ⟨F,hS⟩:=hS.nm [5,2,1] [103,101,0] rfl rfl
 try dsimp only [RS.sub,SF.sub,CF.sub,csub,Anc.sub,List.map,xD,xE,xT,xU,ldSF,rHist,rTx,rOrd,rVer,rInt,rOp] at hS
 generalize Act.tau a 47=v47 at hS
 replace hS:=hS.turn 103 rfl (r':=RS.hp (HP.ex fun s:List (GE Int (List Int))×Nat=>HP.and (WrL s.1 g.txs) (mapG (fun l:List Int=>PV.sl rInt l) (fun _=>True) (fun n:Int=>Value.int .i64 n) s.1 s.2 v47))) (fun _ _ _ _ h=>h)
 obtain ⟨sm,hS⟩:=hS.open_ex 103 rfl
 obtain ⟨hwm,hS⟩:=hS.open_and 103 rfl
 obtain ⟨es,ck⟩:=sm
 try dsimp only at hwm hS
 replace hS:=hS.turn 103 rfl (r':=.ob (.val v47) (mapG (fun l:List Int=>PV.sl rInt l) (fun _=>True) (fun n:Int=>Value.int .i64 n) es ck)) (fun _ _ _ _ h=>h)
 have hgw:=wr_get hwm
 have hml:=wr_len hwm
 obtain ⟨F,hS⟩:=hS.nm [5,2,1] [103,101,0] rfl rfl
 refine then_n (wp_seq (wp_seq ?_))
 refine region_z hS (qM rfl rfl (qf (o_len_mapG 103 Tryz.underlying124 .is (by omega)) r1 r1 (qf (oF 1 101 .is) r1 r1 (qf (oL false 1 101 .adr) r1 r1 (qf (o_len_sl Tryz.underlying28 .t) r1 qz (qf (o_neq .t .t) r2 qz qZ)))))) hB [53,5,2,1] [103,101,0] rfl rfl ?_
 clear hS;intro a w F hS
 refine then_n ?_
 refine cond_b hS rfl (fun hc3=>?_) (fun hc3=>?_)
 ·skip
  have hg:=right_bad_len (h:=g) (by simp at hc3;omega)
  refine wp_seq ?_
  refine region_z hS (qf (oN .cb) trivial qz qZ) hB [5,2,1] [103,101,0] rfl rfl ?_
  clear hS;intro a w F hS
  refine then_n (wp_ret (then_r ?_))
  refine ret_P hfr hS rfl (.tmp rfl .nil) (.one (.bool hg))
 have hle:g.orders.length=(keysH g.txs).length:=by simp at hc3;omega
 refine wp_skip (then_n (wp_seq (wp_seq ?_)))
 refine region_z hS (qf (oF 1 101 .is) r1 r1 (qf (oL false 1 101 .adr) r1 r1 (qf (o_len_sl Tryz.underlying28 .t) r1 qz (qf (oM qi) trivial qz qZ)))) hB [57,56,55,5,2,1] [103,101,0] rfl rfl ?_
 clear hS;intro a w F hS
 refine then_n (wp_block ?_)
 refine loop_keep (σ:=(Nat)) [1,2,5,55,56] [0,101,103] (fun s=>[(57,.pv (.int .i64 (s:Int)))]) (fun s=>[]) (fun s=>s≤g.orders.length∧(∀ k,k<s→OrdOk2 g k)) (fun s=>g.orders.length - s) (0) hS ⟨rfl,rfl,rfl,rfl,rfl,rfl,trivial⟩ ⟨rfl,rfl,rfl,trivial⟩ ⟨Nat.zero_le _,fun k hk=>absurd hk (Nat.not_lt_zero k)⟩ ?_
 clear hS;intro i a w F hC hS
 try dsimp only at hC
 obtain ⟨F,hS⟩:=hS.nm [57,56,55,5,2,1] [103,101,0] rfl rfl
 try dsimp only at hS
 obtain ⟨hi,hq⟩:=hC
 have hol:=fun hil:i<g.orders.length=>hs.2.at hil
 have hwl:=fun k=>writersH_len g.txs k
 have hiw:0<i→IntKind.wrap .i64 ((i:Int) - 1)=((i - 1:Nat):Int):=fun h0=>by rw [wrap_i64 (by omega)];omega
 refine wp_seq ?_
 refine region_z hS (qf (o_lss .t .t) r2 qz qZ) hB [58,57,56,55,5,2,1] [103,101,0] rfl rfl ?_
 clear hS;intro a w F hS
 refine then_n (wp_seq ?_)
 refine cond_b hS rfl (fun hc4=>?_) (fun hc4=>?_)
 ·skip
  have hil:i<g.orders.length:=by simp at hc4;omega
  refine wp_skip (then_n (wp_seq (wp_block (wp_seq ?_))))
  refine region_q hS (qM rfl rfl (qf (o_indexAddr_sl (sz:=2) (.mk Tryz.underlying28 (by kernel_rfl)) (by intro x;rfl) .t .t (by omega) (by omega)) r2 qz (qf (oR true 2 .t) r1 qz (qf (oH [.int .i64 0,.slice none 0 0] 104) trivial qz (qN rfl rfl (qf (oA 2 104 .same .t) r2 r1 qZ)))))) hB ?_
  clear hS;intro a w F hS
  replace hS:=hS.sub
  obtain ⟨F,hS⟩:=hS.nm [61,60,59,58,57,56,55,7,6,5,2,1] [104,103,101,0] rfl rfl
  try dsimp only [RS.sub,SF.sub,CF.sub,csub,Anc.sub,List.map,stCells,xL,xM,Nat.reduceAdd,xD,xE,xT,xU,xC,xN,zCF,ldSF,rHist,rTx,rOrd,rVer,rInt,rOp] at hS
  generalize Act.tau a 7=v7 at hS
  try simp only [Int.toNat_natCast] at hS
  refine then_n (wp_seq ?_)
  refine region_any (by kernel_rfl) hS (by kernel_rfl) (qM rfl rfl (qf (o_gtr .t qi) r1 qz (qM rfl rfl (qk rfl (fun h=>oF 1 101 .is) r2 r1 (qk rfl (fun h=>oL false 1 101 (.w h .adr)) r2 r1 (qm rfl rfl rfl rfl (qk rfl (fun h=>o_sub (.w h) qi) r2 qz (qk rfl (fun h=>o_indexAddr_sl (sz:=2) (.mk Tryz.underlying28 (by kernel_rfl)) (by intro x;rfl) (.w h) (.w h) (by rw [hiw (by simpa using h)];omega) (by rw [hiw (by simpa using h)];omega)) r3 qz (qk rfl (fun h=>oG 0 (.w h)) r2 qz (qk rfl (fun h=>oR false 1 (.w h)) r2 qz (qk rfl (fun h=>oF 0 104 .is) r2 r1 (qk rfl (fun h=>oL false 1 104 (.w h .adr)) r2 r1 (qk rfl (fun h=>o_geq (.w h) (.w h)) r3 qz (qf (o_and2 .t .t) r2 qz (qM rfl rfl (qk rfl (fun h=>oF 1 104 .is) r2 r1 (qk rfl (fun h=>oL false 1 104 (.w h .adr)) r2 r1 (qk rfl (fun h=>o_len_sl Tryz.underlying35 (.w h)) r2 qz (qk rfl (fun h=>o_eql (.w h) qi) r2 qz (qf (o_or2 .t .t) r2 qz (qM rfl rfl (qk rfl (fun h=>oF 1 104 .is) r2 r1 (qk rfl (fun h=>oL false 1 104 (.w h .adr)) r2 r1 (qm rfl rfl rfl rfl (qk rfl (fun h=>oF 0 104 .is) r2 r1 (qk rfl (fun h=>oL false 1 104 (.w h .adr)) r2 r1 (qk rfl (fun h=>o_lookupG (ek:=(fun l:List Int=>PV.sl rInt l)) (z0:=([]:List Int)) 103 Tryz.underlying124 (key_intG Tryz.underlying3) (by kernel_rfl) (fun _ _=>sl_nil) (.w h .is) (IsKeyOf.int (.w h) rfl)) r3 r1 (qk rfl (fun h=>oP (perm_c (Go.Gm.nth g.orders i).txs _ (by have:=hol hil;omega) (by rw [hgw];have:=hwl (Go.Gm.nth g.orders i).key;omega)) Tryz.func104 (Args.two (.w h) (.w h))) r3 qz (qk rfl (fun h=>o_not (.w h)) r2 qz (qf (o_or2 .t .t) r2 qz qZ)))))))))))))))))))))))))))))) (by kernel_rfl) (by rw [hB];kernel_rfl) ?_
  clear hS;intro a w F hS
  obtain ⟨F,hS⟩:=hS.nm [91,90,89,88,87,86,85,84,83,82,81,80,79,78,77,76,75,74,73,72,71,70,69,68,67,66,65,64,63,62,61,60,59,58,57,56,55,7,6,5,2,1] [104,103,101,0] rfl rfl
  try dsimp only [List.map,xD,xE,xT,xU,ldSF,rHist,rTx,rOrd,rVer,rInt,rOp] at hS
  try simp only [Int.toNat_natCast] at hS
  refine then_n ?_
  refine cond_b hS rfl (fun hc5=>?_) (fun hc5=>?_)
  ·skip
   have hbad:¬ OrdOk2 g i:=by
     rintro ⟨g1,g2,g3⟩
     have h9:=hc5
     rw [hgw] at h9
     have g4:(Go.Gm.nth g.orders i).txs.length≠0:=fun e=>g2 (List.eq_nil_of_length_eq_zero e)
     by_cases hi0:0<i
     · rw [hiw hi0,Int.toNat_natCast] at h9
       have:=g1 hi0
       simp [g2,g3] at h9
       omega
     · have hi1:i=0:=by omega
       subst hi1
       simp [g2,g3] at h9
   have hg:=right_bad_ord2 hil hbad
   refine wp_seq ?_
   refine region_z hS (qf (oN .cb) trivial qz qZ) hB [91,90,89,88,87,86,85,84,83,82,81,80,79,78,77,76,75,74,73,72,71,70,69,68,67,66,65,64,63,62,61,60,59,58,57,56,55,7,6,5,2,1] [104,103,101,0] rfl rfl ?_
   clear hS;intro a w F hS
   refine then_n (wp_ret (block_r (then_r (then_r (block_r (then_r ?_))))))
   refine ret_P hfr hS rfl (.tmp rfl .nil) (.one (.bool hg))
  have hgood:OrdOk2 g i:=by
    have h9:=hc5
    rw [hgw] at h9
    by_cases hi0:0<i
    · rw [hiw hi0,Int.toNat_natCast] at h9
      simp at h9
      exact ⟨fun _=>by omega,h9.1.2,h9.2⟩
    · have hi1:i=0:=by omega
      subst hi1
      simp at h9
      exact ⟨fun h0=>absurd h0 (Nat.lt_irrefl 0),h9.1,h9.2⟩
  refine wp_skip (block_n (then_n ?_))
  refine region_z hS (qf (o_add .t qi) r1 qz (qM rfl rfl qZ)) hB [92,91,90,89,88,87,86,85,84,83,82,81,80,79,78,77,76,75,74,73,72,71,70,69,68,67,66,65,64,63,62,61,60,59,58,57,56,55,7,6,5,2,1] [104,103,101,0] rfl rfl ?_
  clear hS;intro a w F hS
  refine then_n ?_
  replace hS:=hS.ent (i:=57) (s':=.pv (.int .i64 ((i+1:Nat):Int))) rfl (.int (wrap_succ (by omega)))
  obtain ⟨F,hS⟩:=hS.nm [56,55,5,2,1,57] [103,101,0] rfl rfl
  exact ⟨(i+1),F,⟨by omega,(fun k hk=>by rcases Nat.lt_or_eq_of_le (Nat.le_of_lt_succ hk) with h9 | h9;exact hq k h9;rw [h9];exact hgood)⟩,hS,by omega⟩
 have hil:i=g.orders.length:=by simp at hc4;omega
 have hg:=right_good2 hlong hall (by omega) (by rw [← hil];exact hq)
 refine wp_exit (then_x (then_x (block_x (then_n (wp_seq ?_)))))
 refine region_z hS (qf (oN .cb) trivial qz qZ) hB [2] [103,101,0] rfl rfl ?_
 clear hS;intro a w F hS
 refine then_n (wp_ret ?_)
 refine ret_P hfr hS rfl (.tmp rfl .nil) (.one (.bool hg))
end Go.Proofs.YtcfgcpcakdknkaaGreat
