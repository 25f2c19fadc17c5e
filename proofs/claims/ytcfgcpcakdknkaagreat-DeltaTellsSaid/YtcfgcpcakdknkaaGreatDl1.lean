/- Deltas: seek,less,fits. No condition beyond those that each theorem says. -/
import Derived.Test.YtcfgcpcakdknkaaGreatDl0
import Derived.Test.YtcfgcpcakdknkaaGreatTxX
import Derived.Test.YtcfgcpcakdknkaaGreatOr2
namespace Go.Proofs.YtcfgcpcakdknkaaGreat
open Go Go.Gm
set_option linter.unusedVariables false
set_option linter.unusedSimpArgs false
set_option maxHeartbeats 4000000
set_option maxRecDepth 8000
def zeroR:OrdD:=⟨0,[]⟩
theorem dsameR_c (u v:OrdD):FnP Tryz.prog 55 [.agg (rOrd u),.agg (rOrd v)] (.bool (decide (u=v))):=by
 refine FnP.mk Tryz.func55 rfl Tryz.ntmps55 rfl ?_
 intro B a w F hB hfr hS
 refine wp_seq ?_
 refine region_q hS (qf (oX 101 (.conv .t .agg)) r1 qz (qf (oX 102 (.conv .t .agg)) r1 qz (qf (oN .cb) trivial qz qZ))) hB ?_
 clear hS;intro a w F hS
 replace hS:=hS.sub
 obtain ⟨F,hS⟩:=hS.nm [4,3,2] [102,101,0] rfl rfl
 try dsimp only [RS.sub,SF.sub,CF.sub,csub,Anc.sub,List.map,zCF,rHist,rTx,rOrd,rVer,rInt,rOp] at hS
 generalize Act.tau a 2=v2 at hS
 generalize Act.tau a 3=v3 at hS
 refine then_n (wp_seq ?_)
 refine region_z hS (qf (oF 0 101 .is) r1 r1 (qf (oL false 1 101 .adr) r1 r1 (qf (oF 0 102 .is) r1 r1 (qf (oL false 1 102 .adr) r1 r1 (qf (o_eql .t .t) r2 qz (qM rfl rfl (qk rfl (fun h=>oF 1 101 .is) r2 r1 (qk rfl (fun h=>oL false 1 101 (.w h .adr)) r2 r1 (qk rfl (fun h=>oF 1 102 .is) r2 r1 (qk rfl (fun h=>oL false 1 102 (.w h .adr)) r2 r1 (qk rfl (fun h=>oP (osame_c u.txs v.txs) Tryz.func108 (Args.two (.w h) (.w h))) r3 qz (qf (o_and2 .t .t) r2 qz (qN rfl rfl qZ))))))))))))) hB [4] [102,101,0] rfl rfl ?_
 clear hS;intro a w F hS
 refine then_n (wp_ret ?_)
 refine ret_P hfr hS rfl (.tmp rfl .nil) (.one (.bool ordD_is))
theorem idT_c (x:TxD):FnP Tryz.prog 51 [.agg (rTx x)] (.int .i64 x.id):=by
 refine FnP.mk Tryz.func51 rfl Tryz.ntmps51 rfl ?_
 intro B a w F hB hfr hS
 refine wp_seq ?_
 refine region_q hS (qf (oX 101 (.conv .t .agg)) r1 qz (qf (oN qi) trivial qz qZ)) hB ?_
 clear hS;intro a w F hS
 replace hS:=hS.sub
 obtain ⟨F,hS⟩:=hS.nm [2,1] [101,0] rfl rfl
 try dsimp only [RS.sub,SF.sub,CF.sub,csub,Anc.sub,List.map,zCF,rHist,rTx,rOrd,rVer,rInt,rOp] at hS
 generalize Act.tau a 1=v1 at hS
 refine then_n (wp_seq ?_)
 refine region_z hS (qf (oF 0 101 .is) r1 r1 (qf (oL false 1 101 .adr) r1 r1 (qN rfl rfl qZ))) hB [2] [101,0] rfl rfl ?_
 clear hS;intro a w F hS
 refine then_n (wp_ret ?_)
 refine ret_P hfr hS rfl (.tmp rfl .nil) (.one (.int rfl))
theorem idR_c (x:OrdD):FnP Tryz.prog 54 [.agg (rOrd x)] (.int .i64 x.key):=by
 refine FnP.mk Tryz.func54 rfl Tryz.ntmps54 rfl ?_
 intro B a w F hB hfr hS
 refine wp_seq ?_
 refine region_q hS (qf (oX 101 (.conv .t .agg)) r1 qz (qf (oN qi) trivial qz qZ)) hB ?_
 clear hS;intro a w F hS
 replace hS:=hS.sub
 obtain ⟨F,hS⟩:=hS.nm [2,1] [101,0] rfl rfl
 try dsimp only [RS.sub,SF.sub,CF.sub,csub,Anc.sub,List.map,zCF,rHist,rTx,rOrd,rVer,rInt,rOp] at hS
 generalize Act.tau a 1=v1 at hS
 refine then_n (wp_seq ?_)
 refine region_z hS (qf (oF 0 101 .is) r1 r1 (qf (oL false 1 101 .adr) r1 r1 (qN rfl rfl qZ))) hB [2] [101,0] rfl rfl ?_
 clear hS;intro a w F hS
 refine then_n (wp_ret ?_)
 refine ret_P hfr hS rfl (.tmp rfl .nil) (.one (.int rfl))
theorem risesT_c (l:List TxD) (hll:l.length≤1000000):FnP Tryz.prog 76 [.sl rTx l,.clos 51 []] (.bool (decide (RiseK TxD.id l))):=by
 refine FnP.mk Tryz.func76 rfl Tryz.ntmps76 rfl ?_
 intro B a w F hB hfr hS
 refine wp_seq ?_
 refine region_z hS (qf (oN .cb) trivial qz qZ) hB [4,1,0] [0] rfl rfl ?_
 clear hS;intro a w F hS
 refine then_n (wp_seq (wp_seq ?_))
 refine region_z hS (qf (oN qi) trivial qz qZ) hB [5,4,1,0] [0] rfl rfl ?_
 clear hS;intro a w F hS
 refine then_n (wp_block ?_)
 replace hS:=hS.ent (i:=5) (s':=.pv (.int .i64 ((0+1:Nat):Int))) rfl (.int rfl)
 refine loop_keep (σ:=Nat) [0,1,4] [0] (fun s=>[(5,.pv (.int .i64 ((s+1:Nat):Int)))]) (fun s=>[]) (fun s=>∀ q,q<s→q+1<l.length→TxD.id (Go.Gm.nth l q)<TxD.id (Go.Gm.nth l (q+1))) (fun s=>l.length - s) (0) hS ⟨rfl,rfl,rfl,rfl,trivial⟩ ⟨rfl,trivial⟩ (fun q hq=>absurd hq (Nat.not_lt_zero q)) ?_
 clear hS;intro i a w F hC hS
 try dsimp only at hC
 obtain ⟨F,hS⟩:=hS.nm [5,4,1,0] [0] rfl rfl
 try dsimp only at hS
 have hq:=hC
 refine wp_seq (wp_seq ?_)
 refine region_z hS (qM rfl rfl (qM rfl rfl (qf (o_len_sl Tryz.underlying27 .t) r1 qz (qf (o_lss .t .t) r2 qz qZ)))) hB [9,8,7,6,5,4,1,0] [0] rfl rfl ?_
 clear hS;intro a w F hS
 refine then_n ?_
 refine cond_b hS rfl (fun hc0=>?_) (fun hc0=>?_)
 ·skip
  have hil:i+1<l.length:=by simp at hc0;omega
  have hwi:IntKind.wrap .i64 (((i+1:Nat):Int) - 1)=(i:Int):=by rw [wrap_i64 (by omega)];omega
  refine wp_skip (then_n (wp_seq (wp_block (wp_seq ?_))))
  refine region_any (by kernel_rfl) hS (by kernel_rfl) (qM rfl rfl (qM rfl rfl (qM rfl rfl (qf (o_sub .t qi) r1 qz (qf (o_indexAddr_sl (sz:=3) (.mk Tryz.underlying27 (by kernel_rfl)) (by intro x;rfl) .t .t (by rw [hwi];omega) (by rw [hwi];omega)) r2 qz (qf (oR true 3 .t) r1 qz (qf (o_callClosP (avs:=[.agg (rTx (Go.Gm.nth l (IntKind.wrap .i64 (((i+1:Nat):Int) - 1)).toNat))]) .t (idT_c (Go.Gm.nth l (IntKind.wrap .i64 (((i+1:Nat):Int) - 1)).toNat)) Tryz.func51 rfl (by kernel_rfl) (Args.one (.pagg .t))) r2 qz (qM rfl rfl (qM rfl rfl (qM rfl rfl (qf (o_indexAddr_sl (sz:=3) (.mk Tryz.underlying27 (by kernel_rfl)) (by intro x;rfl) .t .t (by omega) (by omega)) r2 qz (qf (oR true 3 .t) r1 qz (qf (o_callClosP (avs:=[.agg (rTx (Go.Gm.nth l (((i+1:Nat):Int)).toNat))]) .t (idT_c (Go.Gm.nth l (((i+1:Nat):Int)).toNat)) Tryz.func51 rfl (by kernel_rfl) (Args.one (.pagg .t))) r2 qz (qf (o_geq .t .t) r2 qz qZ)))))))))))))) (by kernel_rfl) (by rw [hB];kernel_rfl) ?_
  clear hS;intro a w F hS
  obtain ⟨F,hS⟩:=hS.nm [25,24,23,22,21,20,19,18,17,16,15,14,13,12,9,8,7,6,5,4,1,0] [0] rfl rfl
  try dsimp only [List.map,xD,xE,xT,xU,ldSF,rHist,rTx,rOrd,rVer,rInt,rOp] at hS
  try simp only [Int.toNat_natCast] at hS
  refine then_n ?_
  refine cond_b hS rfl (fun hc1=>?_) (fun hc1=>?_)
  ·skip
   have h9:TxD.id (Go.Gm.nth l (i+1))≤TxD.id (Go.Gm.nth l i):=by have h8:=hc1;try rw [hwi] at h8;simpa using h8
   have hg:false=decide (RiseK TxD.id l):=(decide_eq_false fun e=>by have:=rise_nth e hil;omega).symm
   refine wp_seq ?_
   refine region_z hS (qf (oN .cb) trivial qz qZ) hB [25,24,23,22,21,20,19,18,17,16,15,14,13,12,9,8,7,6,5,4,1,0] [0] rfl rfl ?_
   clear hS;intro a w F hS
   refine then_n (wp_ret (block_r (then_r (then_r (block_r (then_r ?_))))))
   refine ret_P hfr hS rfl (.tmp rfl .nil) (.one (.bool hg))
  have h9:TxD.id (Go.Gm.nth l i)<TxD.id (Go.Gm.nth l (i+1)):=by have h8:=hc1;try rw [hwi] at h8;simpa using h8
  have hC2:∀ q,q<i+1→q+1<l.length→TxD.id (Go.Gm.nth l q)<TxD.id (Go.Gm.nth l (q+1)):=fun q h1 h2=>by rcases Nat.lt_or_eq_of_le (Nat.le_of_lt_succ h1) with h8 | h8;exact hq q h8 h2;rw [h8];exact h9
  refine wp_skip (block_n (then_n ?_))
  refine region_z hS (qM rfl rfl (qf (o_add .t qi) r1 qz (qN rfl rfl qZ))) hB [25,24,23,22,21,20,19,18,17,16,15,14,13,12,11,10,9,8,7,6,5,4,1,0] [0] rfl rfl ?_
  clear hS;intro a w F hS
  refine then_n ?_
  replace hS:=hS.ent (i:=5) (s':=.pv (.int .i64 ((i+1+1:Nat):Int))) rfl (.int (wrap_succ (by omega)))
  obtain ⟨F,hS⟩:=hS.nm [4,1,0,5] [0] rfl rfl
  exact ⟨(i+1),F,hC2,hS,by omega⟩
 have hg:true=decide (RiseK TxD.id l):=(decide_eq_true (rise_adj fun q hq2=>hq q (by simp at hc0;omega) hq2)).symm
 refine wp_exit (then_x (then_x (block_x (then_n (wp_seq ?_)))))
 refine region_z hS (qf (oN .cb) trivial qz qZ) hB [4] [0] rfl rfl ?_
 clear hS;intro a w F hS
 refine then_n (wp_ret ?_)
 refine ret_P hfr hS rfl (.tmp rfl .nil) (.one (.bool hg))
theorem risesR_c (l:List OrdD) (hll:l.length≤1000000):FnP Tryz.prog 77 [.sl rOrd l,.clos 54 []] (.bool (decide (RiseK OrdD.key l))):=by
 refine FnP.mk Tryz.func77 rfl Tryz.ntmps77 rfl ?_
 intro B a w F hB hfr hS
 refine wp_seq ?_
 refine region_z hS (qf (oN .cb) trivial qz qZ) hB [4,1,0] [0] rfl rfl ?_
 clear hS;intro a w F hS
 refine then_n (wp_seq (wp_seq ?_))
 refine region_z hS (qf (oN qi) trivial qz qZ) hB [5,4,1,0] [0] rfl rfl ?_
 clear hS;intro a w F hS
 refine then_n (wp_block ?_)
 replace hS:=hS.ent (i:=5) (s':=.pv (.int .i64 ((0+1:Nat):Int))) rfl (.int rfl)
 refine loop_keep (σ:=Nat) [0,1,4] [0] (fun s=>[(5,.pv (.int .i64 ((s+1:Nat):Int)))]) (fun s=>[]) (fun s=>∀ q,q<s→q+1<l.length→OrdD.key (Go.Gm.nth l q)<OrdD.key (Go.Gm.nth l (q+1))) (fun s=>l.length - s) (0) hS ⟨rfl,rfl,rfl,rfl,trivial⟩ ⟨rfl,trivial⟩ (fun q hq=>absurd hq (Nat.not_lt_zero q)) ?_
 clear hS;intro i a w F hC hS
 try dsimp only at hC
 obtain ⟨F,hS⟩:=hS.nm [5,4,1,0] [0] rfl rfl
 try dsimp only at hS
 have hq:=hC
 refine wp_seq (wp_seq ?_)
 refine region_z hS (qM rfl rfl (qM rfl rfl (qf (o_len_sl Tryz.underlying28 .t) r1 qz (qf (o_lss .t .t) r2 qz qZ)))) hB [9,8,7,6,5,4,1,0] [0] rfl rfl ?_
 clear hS;intro a w F hS
 refine then_n ?_
 refine cond_b hS rfl (fun hc0=>?_) (fun hc0=>?_)
 ·skip
  have hil:i+1<l.length:=by simp at hc0;omega
  have hwi:IntKind.wrap .i64 (((i+1:Nat):Int) - 1)=(i:Int):=by rw [wrap_i64 (by omega)];omega
  refine wp_skip (then_n (wp_seq (wp_block (wp_seq ?_))))
  refine region_any (by kernel_rfl) hS (by kernel_rfl) (qM rfl rfl (qM rfl rfl (qM rfl rfl (qf (o_sub .t qi) r1 qz (qf (o_indexAddr_sl (sz:=2) (.mk Tryz.underlying28 (by kernel_rfl)) (by intro x;rfl) .t .t (by rw [hwi];omega) (by rw [hwi];omega)) r2 qz (qf (oR true 2 .t) r1 qz (qf (o_callClosP (avs:=[.agg (rOrd (Go.Gm.nth l (IntKind.wrap .i64 (((i+1:Nat):Int) - 1)).toNat))]) .t (idR_c (Go.Gm.nth l (IntKind.wrap .i64 (((i+1:Nat):Int) - 1)).toNat)) Tryz.func54 rfl (by kernel_rfl) (Args.one (.pagg .t))) r2 qz (qM rfl rfl (qM rfl rfl (qM rfl rfl (qf (o_indexAddr_sl (sz:=2) (.mk Tryz.underlying28 (by kernel_rfl)) (by intro x;rfl) .t .t (by omega) (by omega)) r2 qz (qf (oR true 2 .t) r1 qz (qf (o_callClosP (avs:=[.agg (rOrd (Go.Gm.nth l (((i+1:Nat):Int)).toNat))]) .t (idR_c (Go.Gm.nth l (((i+1:Nat):Int)).toNat)) Tryz.func54 rfl (by kernel_rfl) (Args.one (.pagg .t))) r2 qz (qf (o_geq .t .t) r2 qz qZ)))))))))))))) (by kernel_rfl) (by rw [hB];kernel_rfl) ?_
  clear hS;intro a w F hS
  obtain ⟨F,hS⟩:=hS.nm [25,24,23,22,21,20,19,18,17,16,15,14,13,12,9,8,7,6,5,4,1,0] [0] rfl rfl
  try dsimp only [List.map,xD,xE,xT,xU,ldSF,rHist,rTx,rOrd,rVer,rInt,rOp] at hS
  try simp only [Int.toNat_natCast] at hS
  refine then_n ?_
  refine cond_b hS rfl (fun hc1=>?_) (fun hc1=>?_)
  ·skip
   have h9:OrdD.key (Go.Gm.nth l (i+1))≤OrdD.key (Go.Gm.nth l i):=by have h8:=hc1;try rw [hwi] at h8;simpa using h8
   have hg:false=decide (RiseK OrdD.key l):=(decide_eq_false fun e=>by have:=rise_nth e hil;omega).symm
   refine wp_seq ?_
   refine region_z hS (qf (oN .cb) trivial qz qZ) hB [25,24,23,22,21,20,19,18,17,16,15,14,13,12,9,8,7,6,5,4,1,0] [0] rfl rfl ?_
   clear hS;intro a w F hS
   refine then_n (wp_ret (block_r (then_r (then_r (block_r (then_r ?_))))))
   refine ret_P hfr hS rfl (.tmp rfl .nil) (.one (.bool hg))
  have h9:OrdD.key (Go.Gm.nth l i)<OrdD.key (Go.Gm.nth l (i+1)):=by have h8:=hc1;try rw [hwi] at h8;simpa using h8
  have hC2:∀ q,q<i+1→q+1<l.length→OrdD.key (Go.Gm.nth l q)<OrdD.key (Go.Gm.nth l (q+1)):=fun q h1 h2=>by rcases Nat.lt_or_eq_of_le (Nat.le_of_lt_succ h1) with h8 | h8;exact hq q h8 h2;rw [h8];exact h9
  refine wp_skip (block_n (then_n ?_))
  refine region_z hS (qM rfl rfl (qf (o_add .t qi) r1 qz (qN rfl rfl qZ))) hB [25,24,23,22,21,20,19,18,17,16,15,14,13,12,11,10,9,8,7,6,5,4,1,0] [0] rfl rfl ?_
  clear hS;intro a w F hS
  refine then_n ?_
  replace hS:=hS.ent (i:=5) (s':=.pv (.int .i64 ((i+1+1:Nat):Int))) rfl (.int (wrap_succ (by omega)))
  obtain ⟨F,hS⟩:=hS.nm [4,1,0,5] [0] rfl rfl
  exact ⟨(i+1),F,hC2,hS,by omega⟩
 have hg:true=decide (RiseK OrdD.key l):=(decide_eq_true (rise_adj fun q hq2=>hq q (by simp at hc0;omega) hq2)).symm
 refine wp_exit (then_x (then_x (block_x (then_n (wp_seq ?_)))))
 refine region_z hS (qf (oN .cb) trivial qz qZ) hB [4] [0] rfl rfl ?_
 clear hS;intro a w F hS
 refine then_n (wp_ret ?_)
 refine ret_P hfr hS rfl (.tmp rfl .nil) (.one (.bool hg))
theorem seekT_c (l:List TxD) (n:Int):FnP Tryz.prog 105 [.sl rTx l,.int .i64 n,.clos 51 []] (.tup [.agg (rTx ((seekK TxD.id l n).getD zeroT)),.bool (seekK TxD.id l n).isSome]):=by
 refine FnP.mk Tryz.func105 rfl Tryz.ntmps105 rfl ?_
 intro B a w F hB hfr hS
 have hxl:=Sat.lenSl hS (i:=0) rfl
 refine wp_seq ?_
 refine region_q hS (qf (oH [.int .i64 0,.bool false,.slice none 0 0] 101) trivial qz (qf (oN .cb) trivial qz qZ)) hB ?_
 clear hS;intro a w F hS
 replace hS:=hS.sub
 obtain ⟨F,hS⟩:=hS.nm [7,6,2,1,0] [101,0] rfl rfl
 try dsimp only [RS.sub,SF.sub,CF.sub,csub,Anc.sub,List.map,zCF,rHist,rTx,rOrd,rVer,rInt,rOp] at hS
 generalize Act.tau a 6=v6 at hS
 refine then_n (wp_seq (wp_seq ?_))
 refine region_z hS (qM rfl rfl (qf (o_len_sl Tryz.underlying27 .t) r1 qz (qf (oM qi) trivial qz qZ))) hB [13,12,11,7,6,2,1] [101,0] rfl rfl ?_
 clear hS;intro a w F hS
 refine then_n (wp_block ?_)
 refine loop_keep (σ:=(Nat)) [1,2,6,7,11,12] [0,101] (fun s=>[(13,.pv (.int .i64 (s:Int)))]) (fun s=>[]) (fun s=>s≤l.length∧(∀ k,k<s→TxD.id (Go.Gm.nth l k)≠n)) (fun s=>l.length - s) (0) hS ⟨rfl,rfl,rfl,rfl,rfl,rfl,rfl,trivial⟩ ⟨rfl,rfl,trivial⟩ ⟨Nat.zero_le _,fun k hk=>absurd hk (Nat.not_lt_zero k)⟩ ?_
 clear hS;intro i a w F hC hS
 try dsimp only at hC
 obtain ⟨F,hS⟩:=hS.nm [13,12,11,7,6,2,1] [101,0] rfl rfl
 try dsimp only at hS
 obtain ⟨hi,hq⟩:=hC
 refine wp_seq ?_
 refine region_z hS (qf (o_lss .t .t) r2 qz qZ) hB [14,13,12,11,7,6,2,1] [101,0] rfl rfl ?_
 clear hS;intro a w F hS
 refine then_n (wp_seq ?_)
 refine cond_b hS rfl (fun hc0=>?_) (fun hc0=>?_)
 ·skip
  have hil:i<l.length:=by simp at hc0;omega
  refine wp_skip (then_n (wp_seq (wp_block (wp_seq ?_))))
  refine region_q hS (qf (o_indexAddr_sl (sz:=3) (.mk Tryz.underlying27 (by kernel_rfl)) (by intro x;rfl) .t .t (by omega) (by omega)) r2 qz (qf (oR true 3 .t) r1 qz (qf (oH [.int .i64 0,.bool false,.slice none 0 0] 102) trivial qz (qf (oA 3 102 .same .t) r2 r1 qZ)))) hB ?_
  clear hS;intro a w F hS
  replace hS:=hS.sub
  obtain ⟨F,hS⟩:=hS.nm [16,15,14,13,12,11,9,7,6,2,1] [102,101,0] rfl rfl
  try dsimp only [RS.sub,SF.sub,CF.sub,csub,Anc.sub,List.map,stCells,xL,xM,Nat.reduceAdd,xD,xE,xT,xU,xC,xN,zCF,ldSF,rHist,rTx,rOrd,rVer,rInt,rOp] at hS
  generalize Act.tau a 9=v9 at hS
  try simp only [Int.toNat_natCast] at hS
  refine then_n (wp_seq ?_)
  refine region_z hS (qM rfl rfl (qf (oL true 3 102 .is) r1 r1 (qf (o_callClosP (avs:=[.agg (rTx (Go.Gm.nth l i))]) .t (idT_c (Go.Gm.nth l i)) Tryz.func51 rfl (by kernel_rfl) (Args.one (.pagg .t))) r2 qz (qM rfl rfl (qf (o_eql .t .t) r2 qz qZ))))) hB [21,20,19,18,17,16,15,14,13,12,11,9,7,6,2,1] [102,101,0] rfl rfl ?_
  clear hS;intro a w F hS
  refine then_n ?_
  refine cond_b hS rfl (fun hc1=>?_) (fun hc1=>?_)
  ·skip
   have hg:seekK TxD.id l n=some (Go.Gm.nth l i):=seekK_at hil (by simpa using hc1) hq
   refine wp_seq ?_
   refine region_z hS (qf (oL true 3 102 .is) r1 r1 (qf (oA 3 101 .is .t) r2 r1 (qf (oN .cb) trivial qz qZ))) hB [22,21,20,19,18,17,16,15,14,13,12,11,9,7,6,2,1] [102,101,0] rfl rfl ?_
   clear hS;intro a w F hS
   refine then_n (wp_ret (block_r (then_r (then_r (block_r (then_r ?_))))))
   refine ret_P hfr hS rfl (.cell (n:=101) (ag:=true) (sz:=3) rfl .is rfl (by kernel_rfl) (by kernel_rfl) (by kernel_rfl) (.tmp rfl .nil)) (.two (by rw [hg];first | exact .aggU rfl rfl | exact .aggLe rfl ⟨.refl,.refl,.nilSl,trivial⟩) (.bool (by rw [hg];rfl)))
  have hne:TxD.id (Go.Gm.nth l i)≠n:=by simpa using hc1
  refine wp_skip (block_n (then_n ?_))
  refine region_z hS (qf (o_add .t qi) r1 qz (qM rfl rfl qZ)) hB [23,21,20,19,18,17,16,15,14,13,12,11,9,7,6,2,1] [102,101,0] rfl rfl ?_
  clear hS;intro a w F hS
  refine then_n ?_
  replace hS:=hS.ent (i:=13) (s':=.pv (.int .i64 ((i+1:Nat):Int))) rfl (.int (wrap_succ (by omega)))
  obtain ⟨F,hS⟩:=hS.nm [12,11,7,6,2,1,13] [101,0] rfl rfl
  exact ⟨(i+1),F,⟨by omega,(fun k hk=>by rcases Nat.lt_or_eq_of_le (Nat.le_of_lt_succ hk) with h9 | h9;exact hq k h9;rw [h9];exact hne)⟩,hS,by omega⟩
 have hil:i=l.length:=by simp at hc0;omega
 have hg:seekK TxD.id l n=none:=seekK_none (by rw [← hil];exact hq)
 refine wp_exit (then_x (then_x (block_x (then_n (wp_seq ?_)))))
 refine region_q hS (qf (oH [.int .i64 0,.bool false,.slice none 0 0] 103) trivial qz qZ) hB ?_
 clear hS;intro a w F hS
 replace hS:=hS.sub
 obtain ⟨F,hS⟩:=hS.nm [10,7,6] [103,101,0] rfl rfl
 try dsimp only [RS.sub,SF.sub,CF.sub,csub,Anc.sub,List.map,zCF,rHist,rTx,rOrd,rVer,rInt,rOp] at hS
 generalize Act.tau a 10=v10 at hS
 refine then_n (wp_seq ?_)
 refine region_z hS (qf (oL true 3 103 .is) r1 r1 (qf (oA 3 101 .is .t) r2 r1 (qf (oN .cb) trivial qz qZ))) hB [7,6] [103,101,0] rfl rfl ?_
 clear hS;intro a w F hS
 refine then_n (wp_ret ?_)
 refine ret_P hfr hS rfl (.cell (n:=101) (ag:=true) (sz:=3) rfl .is rfl (by kernel_rfl) (by kernel_rfl) (by kernel_rfl) (.tmp rfl .nil)) (.two (by rw [hg];first | exact .aggU rfl rfl | exact .aggLe rfl ⟨.refl,.refl,.nilSl,trivial⟩) (.bool (by rw [hg];rfl)))
theorem seekR_c (l:List OrdD) (n:Int):FnP Tryz.prog 107 [.sl rOrd l,.int .i64 n,.clos 54 []] (.tup [.agg (rOrd ((seekK OrdD.key l n).getD zeroR)),.bool (seekK OrdD.key l n).isSome]):=by
 refine FnP.mk Tryz.func107 rfl Tryz.ntmps107 rfl ?_
 intro B a w F hB hfr hS
 have hxl:=Sat.lenSl hS (i:=0) rfl
 refine wp_seq ?_
 refine region_q hS (qf (oH [.int .i64 0,.slice none 0 0] 101) trivial qz (qf (oN .cb) trivial qz qZ)) hB ?_
 clear hS;intro a w F hS
 replace hS:=hS.sub
 obtain ⟨F,hS⟩:=hS.nm [7,6,2,1,0] [101,0] rfl rfl
 try dsimp only [RS.sub,SF.sub,CF.sub,csub,Anc.sub,List.map,zCF,rHist,rTx,rOrd,rVer,rInt,rOp] at hS
 generalize Act.tau a 6=v6 at hS
 refine then_n (wp_seq (wp_seq ?_))
 refine region_z hS (qM rfl rfl (qf (o_len_sl Tryz.underlying28 .t) r1 qz (qf (oM qi) trivial qz qZ))) hB [13,12,11,7,6,2,1] [101,0] rfl rfl ?_
 clear hS;intro a w F hS
 refine then_n (wp_block ?_)
 refine loop_keep (σ:=(Nat)) [1,2,6,7,11,12] [0,101] (fun s=>[(13,.pv (.int .i64 (s:Int)))]) (fun s=>[]) (fun s=>s≤l.length∧(∀ k,k<s→OrdD.key (Go.Gm.nth l k)≠n)) (fun s=>l.length - s) (0) hS ⟨rfl,rfl,rfl,rfl,rfl,rfl,rfl,trivial⟩ ⟨rfl,rfl,trivial⟩ ⟨Nat.zero_le _,fun k hk=>absurd hk (Nat.not_lt_zero k)⟩ ?_
 clear hS;intro i a w F hC hS
 try dsimp only at hC
 obtain ⟨F,hS⟩:=hS.nm [13,12,11,7,6,2,1] [101,0] rfl rfl
 try dsimp only at hS
 obtain ⟨hi,hq⟩:=hC
 refine wp_seq ?_
 refine region_z hS (qf (o_lss .t .t) r2 qz qZ) hB [14,13,12,11,7,6,2,1] [101,0] rfl rfl ?_
 clear hS;intro a w F hS
 refine then_n (wp_seq ?_)
 refine cond_b hS rfl (fun hc0=>?_) (fun hc0=>?_)
 ·skip
  have hil:i<l.length:=by simp at hc0;omega
  refine wp_skip (then_n (wp_seq (wp_block (wp_seq ?_))))
  refine region_q hS (qf (o_indexAddr_sl (sz:=2) (.mk Tryz.underlying28 (by kernel_rfl)) (by intro x;rfl) .t .t (by omega) (by omega)) r2 qz (qf (oR true 2 .t) r1 qz (qf (oH [.int .i64 0,.slice none 0 0] 102) trivial qz (qf (oA 2 102 .same .t) r2 r1 qZ)))) hB ?_
  clear hS;intro a w F hS
  replace hS:=hS.sub
  obtain ⟨F,hS⟩:=hS.nm [16,15,14,13,12,11,9,7,6,2,1] [102,101,0] rfl rfl
  try dsimp only [RS.sub,SF.sub,CF.sub,csub,Anc.sub,List.map,stCells,xL,xM,Nat.reduceAdd,xD,xE,xT,xU,xC,xN,zCF,ldSF,rHist,rTx,rOrd,rVer,rInt,rOp] at hS
  generalize Act.tau a 9=v9 at hS
  try simp only [Int.toNat_natCast] at hS
  refine then_n (wp_seq ?_)
  refine region_z hS (qM rfl rfl (qf (oL true 2 102 .is) r1 r1 (qf (o_callClosP (avs:=[.agg (rOrd (Go.Gm.nth l i))]) .t (idR_c (Go.Gm.nth l i)) Tryz.func54 rfl (by kernel_rfl) (Args.one (.pagg .t))) r2 qz (qM rfl rfl (qf (o_eql .t .t) r2 qz qZ))))) hB [21,20,19,18,17,16,15,14,13,12,11,9,7,6,2,1] [102,101,0] rfl rfl ?_
  clear hS;intro a w F hS
  refine then_n ?_
  refine cond_b hS rfl (fun hc1=>?_) (fun hc1=>?_)
  ·skip
   have hg:seekK OrdD.key l n=some (Go.Gm.nth l i):=seekK_at hil (by simpa using hc1) hq
   refine wp_seq ?_
   refine region_z hS (qf (oL true 2 102 .is) r1 r1 (qf (oA 2 101 .is .t) r2 r1 (qf (oN .cb) trivial qz qZ))) hB [22,21,20,19,18,17,16,15,14,13,12,11,9,7,6,2,1] [102,101,0] rfl rfl ?_
   clear hS;intro a w F hS
   refine then_n (wp_ret (block_r (then_r (then_r (block_r (then_r ?_))))))
   refine ret_P hfr hS rfl (.cell (n:=101) (ag:=true) (sz:=2) rfl .is rfl (by kernel_rfl) (by kernel_rfl) (by kernel_rfl) (.tmp rfl .nil)) (.two (by rw [hg];first | exact .aggU rfl rfl | exact .aggLe rfl ⟨.refl,.nilSl,trivial⟩) (.bool (by rw [hg];rfl)))
  have hne:OrdD.key (Go.Gm.nth l i)≠n:=by simpa using hc1
  refine wp_skip (block_n (then_n ?_))
  refine region_z hS (qf (o_add .t qi) r1 qz (qM rfl rfl qZ)) hB [23,21,20,19,18,17,16,15,14,13,12,11,9,7,6,2,1] [102,101,0] rfl rfl ?_
  clear hS;intro a w F hS
  refine then_n ?_
  replace hS:=hS.ent (i:=13) (s':=.pv (.int .i64 ((i+1:Nat):Int))) rfl (.int (wrap_succ (by omega)))
  obtain ⟨F,hS⟩:=hS.nm [12,11,7,6,2,1,13] [101,0] rfl rfl
  exact ⟨(i+1),F,⟨by omega,(fun k hk=>by rcases Nat.lt_or_eq_of_le (Nat.le_of_lt_succ hk) with h9 | h9;exact hq k h9;rw [h9];exact hne)⟩,hS,by omega⟩
 have hil:i=l.length:=by simp at hc0;omega
 have hg:seekK OrdD.key l n=none:=seekK_none (by rw [← hil];exact hq)
 refine wp_exit (then_x (then_x (block_x (then_n (wp_seq ?_)))))
 refine region_q hS (qf (oH [.int .i64 0,.slice none 0 0] 103) trivial qz qZ) hB ?_
 clear hS;intro a w F hS
 replace hS:=hS.sub
 obtain ⟨F,hS⟩:=hS.nm [10,7,6] [103,101,0] rfl rfl
 try dsimp only [RS.sub,SF.sub,CF.sub,csub,Anc.sub,List.map,zCF,rHist,rTx,rOrd,rVer,rInt,rOp] at hS
 generalize Act.tau a 10=v10 at hS
 refine then_n (wp_seq ?_)
 refine region_z hS (qf (oL true 2 103 .is) r1 r1 (qf (oA 2 101 .is .t) r2 r1 (qf (oN .cb) trivial qz qZ))) hB [7,6] [103,101,0] rfl rfl ?_
 clear hS;intro a w F hS
 refine then_n (wp_ret ?_)
 refine ret_P hfr hS rfl (.cell (n:=101) (ag:=true) (sz:=2) rfl .is rfl (by kernel_rfl) (by kernel_rfl) (by kernel_rfl) (.tmp rfl .nil)) (.two (by rw [hg];first | exact .aggU rfl rfl | exact .aggLe rfl ⟨.refl,.nilSl,trivial⟩) (.bool (by rw [hg];rfl)))
theorem lessT_c (c d:List TxD) (hll:c.length≤1000000):FnP Tryz.prog 63 [.sl rTx c,.sl rTx d,.clos 51 [],.clos 52 []] (.sl rTx (lessK TxD.id c d)):=by
 refine FnP.mk Tryz.func63 rfl Tryz.ntmps63 rfl ?_
 intro B a w F hB hfr hS
 refine wp_seq ?_
 refine region_z hS (qf (oN (.c rfl)) trivial qz qZ) hB [8,3,2,1,0] [0] rfl rfl ?_
 clear hS;intro a w F hS
 refine then_n (wp_seq ?_)
 refine region_z hS (qf (oN (.c rfl)) trivial qz qZ) hB [9,8,3,2,1,0] [0] rfl rfl ?_
 clear hS;intro a w F hS
 refine then_n (wp_seq (wp_seq ?_))
 refine region_z hS (qM rfl rfl (qf (o_len_sl Tryz.underlying27 .t) r1 qz (qf (oM qi) trivial qz qZ))) hB [16,15,14,9,8,3,2,1] [0] rfl rfl ?_
 clear hS;intro a w F hS
 refine then_n (wp_block ?_)
 replace hS:=hS.fresh 50 rfl
 replace hS:=hS.turn 50 rfl (nilRow (T:=34) (sz:=3) (R:=rTx))
 refine loop_keep (σ:=(Nat)×(Value)×(List TxD)) [1,2,3,8,14,15] [0] (fun s=>[(16,.pv (.int .i64 (s.1:Int))),(9,.pv (.is s.2.1))]) (fun s=>[(50,.ob (.val s.2.1) (rowH 34 3 rTx s.2.2))]) (fun s=>s.1≤c.length∧(s.2.2=lessK TxD.id (c.take s.1) d)) (fun s=>c.length - s.1) ((0),(.slice none 0 0),([])) hS ⟨rfl,rfl,rfl,rfl,rfl,rfl,rfl,rfl,trivial⟩ ⟨rfl,rfl,trivial⟩ ⟨Nat.zero_le _,rfl⟩ ?_
 clear hS;intro s a w F hC hS
 obtain ⟨i,v,out⟩:=s
 try dsimp only at hC
 obtain ⟨F,hS⟩:=hS.nm [16,15,14,9,8,3,2,1] [50,0] rfl rfl
 try dsimp only at hS
 obtain ⟨hi,hq⟩:=hC
 have hol:out.length≤i:=by rw [hq];exact Nat.le_trans (lessK_len _ _) (by rw [List.length_take];omega)
 refine wp_seq ?_
 refine region_z hS (qf (o_lss .t .t) r2 qz qZ) hB [17,16,15,14,9,8,3,2,1] [50,0] rfl rfl ?_
 clear hS;intro a w F hS
 refine then_n (wp_seq ?_)
 refine cond_b hS rfl (fun hc0=>?_) (fun hc0=>?_)
 ·skip
  have hil:i<c.length:=by simp at hc0;omega
  have hcd:(!(seekK TxD.id d (TxD.id (Go.Gm.nth c i))).isSome || !decide ((Go.Gm.nth c i)=(seekK TxD.id d (TxD.id (Go.Gm.nth c i))).getD zeroT))=decide ((seekK TxD.id d (TxD.id (Go.Gm.nth c i)))≠some (Go.Gm.nth c i)):=by cases hsk:(seekK TxD.id d (TxD.id (Go.Gm.nth c i))) with | none=>simp | some z=>rw [Bool.eq_iff_iff];simp;exact not_congr ⟨Eq.symm,Eq.symm⟩
  refine wp_skip (then_n (wp_seq (wp_block (wp_seq ?_))))
  refine region_q hS (qf (o_indexAddr_sl (sz:=3) (.mk Tryz.underlying27 (by kernel_rfl)) (by intro x;rfl) .t .t (by omega) (by omega)) r2 qz (qf (oR true 3 .t) r1 qz (qf (oH [.int .i64 0,.bool false,.slice none 0 0] 101) trivial qz (qf (oA 3 101 .same .t) r2 r1 qZ)))) hB ?_
  clear hS;intro a w F hS
  replace hS:=hS.sub
  obtain ⟨F,hS⟩:=hS.nm [19,18,17,16,15,14,11,9,8,3,2,1] [101,50,0] rfl rfl
  try dsimp only [RS.sub,SF.sub,CF.sub,csub,Anc.sub,List.map,stCells,xL,xM,Nat.reduceAdd,xD,xE,xT,xU,xC,xN,zCF,ldSF,rHist,rTx,rOrd,rVer,rInt,rOp] at hS
  generalize Act.tau a 11=v11 at hS
  try simp only [Int.toNat_natCast] at hS
  refine then_n (wp_seq ?_)
  refine region_q hS (qM rfl rfl (qM rfl rfl (qf (oL true 3 101 .is) r1 r1 (qf (o_callClosP (avs:=[.agg (rTx (Go.Gm.nth c i))]) .t (idT_c (Go.Gm.nth c i)) Tryz.func51 rfl (by kernel_rfl) (Args.one (.pagg .t))) r2 qz (qM rfl rfl (qf (oP (seekT_c d (TxD.id (Go.Gm.nth c i))) Tryz.func105 (Args.three .t .t .t)) r3 qz (qM rfl rfl (qf (o_extract .t rfl) r1 qz (qf (o_extract .t rfl) r1 qz (qf (oH [.int .i64 0,.bool false,.slice none 0 0] 102) trivial qz (qf (oA 3 102 .same (.conv .t .agg)) r2 r1 (qN rfl rfl qZ)))))))))))) hB ?_
  clear hS;intro a w F hS
  replace hS:=hS.sub
  obtain ⟨F,hS⟩:=hS.nm [28,27,26,25,24,23,22,21,20,19,18,17,16,15,14,13,12,11,9,8,3,2,1] [102,101,50,0] rfl rfl
  try dsimp only [RS.sub,SF.sub,CF.sub,csub,Anc.sub,List.map,stCells,xL,xM,Nat.reduceAdd,xD,xE,xT,xU,xC,xN,zCF,ldSF,rHist,rTx,rOrd,rVer,rInt,rOp] at hS
  generalize Act.tau a 12=v12 at hS
  refine then_n (wp_seq ?_)
  refine region_z hS (qM rfl rfl (qf (o_not .t) r1 qz (qM rfl rfl (qm rfl rfl rfl rfl (qk rfl (fun h=>oL true 3 101 .is) r2 r1 (qk rfl (fun h=>oL true 3 102 .is) r2 r1 (qk rfl (fun h=>o_callClosP (avs:=[.agg (rTx (Go.Gm.nth c i)),.agg (rTx ((seekK TxD.id d (TxD.id (Go.Gm.nth c i))).getD zeroT))]) (.w h) (txSame_c (Go.Gm.nth c i) ((seekK TxD.id d (TxD.id (Go.Gm.nth c i))).getD zeroT)) Tryz.func52 rfl (by kernel_rfl) (Args.two (.pagg (.w h)) (.pagg (.w h)))) r4 qz (qk rfl (fun h=>o_not (.w h)) r2 qz (qf (o_or2 .t .t) r2 qz qZ))))))))) hB [37,36,35,34,33,32,31,30,29,28,27,26,25,24,23,22,21,20,19,18,17,16,15,14,13,12,11,9,8,3,2,1] [102,101,50,0] rfl rfl ?_
  clear hS;intro a w F hS
  refine then_n ?_
  refine cond_b hS rfl (fun hc1=>?_) (fun hc1=>?_)
  ·skip
   have h9:(!(seekK TxD.id d (TxD.id (Go.Gm.nth c i))).isSome || !decide ((Go.Gm.nth c i)=(seekK TxD.id d (TxD.id (Go.Gm.nth c i))).getD zeroT))=true:=hc1
   rw [hcd] at h9
   have hst9:out ++ [(Go.Gm.nth c i)] = lessK TxD.id (c.take (i+1)) d:=by rw [hq];unfold lessK;rw [filter_step hil,if_pos h9]
   refine region_q hS (qM rfl rfl (qf (oL true 3 101 .is) r1 r1 (qf (o_buildSliceE (sz:=3) (zs:=[.int .i64 0,.bool false,.slice none 0 0]) (r:=[(0,.tmp 39)]) (l:=[_,_,_]) Tryz.underlying27 (by kernel_rfl) (by kernel_rfl) (by kernel_rfl) (by kernel_rfl) rfl rfl (.agg rfl .t (by kernel_rfl) (by kernel_rfl) .nil) rfl) r1 qz (qf (o_append (sz:=3) (bs:=40) 50 (.mk' Tryz.underlying27 (by kernel_rfl) (by kernel_rfl)) (by intro x;rfl) .is (.arr (l':=[(Go.Gm.nth c i)]) .t) (by simp only [List.length_append,List.length_cons,List.length_nil];omega) (by decide)) ⟨rfl,rfl,trivial⟩ ⟨rfl,trivial⟩ (qN rfl rfl qZ))))) hB ?_
   clear hS;intro a w F hS
   replace hS:=hS.sub
   obtain ⟨F,hS⟩:=hS.nm [41,40,39,38,37,36,35,34,33,32,31,30,29,28,27,26,25,24,23,22,21,20,19,18,17,16,15,14,13,12,11,9,8,3,2,1] [102,101,50,0] rfl rfl
   try dsimp only [RS.sub,SF.sub,CF.sub,csub,Anc.sub,List.map,stCells,xL,xM,Nat.reduceAdd,xD,xE,xT,xU,xC,xN,zCF,ldSF,rHist,rTx,rOrd,rVer,rInt,rOp] at hS
   generalize Act.tau a 41=v41 at hS
   refine block_n (then_n ?_)
   refine region_z hS (qf (o_add .t qi) r1 qz (qM rfl rfl qZ)) hB [42,41,40,39,38,37,36,35,34,33,32,31,30,29,28,27,26,25,24,23,22,21,20,19,18,17,16,15,14,13,12,11,9,8,3,2,1] [102,101,50,0] rfl rfl ?_
   clear hS;intro a w F hS
   refine then_n ?_
   replace hS:=hS.ent (i:=16) (s':=.pv (.int .i64 ((i+1:Nat):Int))) rfl (.int (wrap_succ (by omega)))
   obtain ⟨F,hS⟩:=hS.nm [15,14,8,3,2,1,9,16] [0,50] rfl rfl
   exact ⟨((i+1),_,_),F,⟨by omega,hst9⟩,hS,by omega⟩
  have h9:(!(seekK TxD.id d (TxD.id (Go.Gm.nth c i))).isSome || !decide ((Go.Gm.nth c i)=(seekK TxD.id d (TxD.id (Go.Gm.nth c i))).getD zeroT))=false:=hc1
  rw [hcd] at h9
  have hst9:out=lessK TxD.id (c.take (i+1)) d:=by rw [hq];unfold lessK;rw [filter_step hil,if_neg (by rw [h9];simp),List.append_nil]
  refine wp_skip (block_n (then_n ?_))
  refine region_z hS (qf (o_add .t qi) r1 qz (qM rfl rfl qZ)) hB [42,37,36,35,34,33,32,31,30,29,28,27,26,25,24,23,22,21,20,19,18,17,16,15,14,13,12,11,9,8,3,2,1] [102,101,50,0] rfl rfl ?_
  clear hS;intro a w F hS
  refine then_n ?_
  replace hS:=hS.ent (i:=16) (s':=.pv (.int .i64 ((i+1:Nat):Int))) rfl (.int (wrap_succ (by omega)))
  obtain ⟨F,hS⟩:=hS.nm [15,14,8,3,2,1,9,16] [0,50] rfl rfl
  exact ⟨((i+1),_,_),F,⟨by omega,hst9⟩,hS,by omega⟩
 have hil:i=c.length:=by simp at hc0;omega
 have hg:out=lessK TxD.id c d:=by rw [hq,hil,List.take_length]
 refine wp_exit (then_x (then_x (block_x (then_n (wp_seq ?_)))))
 refine region_z hS (qM rfl rfl (qN rfl rfl qZ)) hB [8] [50,0] rfl rfl ?_
 clear hS;intro a w F hS
 refine then_n (wp_ret ?_)
 obtain ⟨F,hS⟩:=hS.give 50 8 rfl rfl
 refine ret_P hfr hS rfl (.tmp rfl .nil) (.one (.sl (by rw [hg])))
theorem lessR_c (c d:List OrdD) (hll:c.length≤1000000):FnP Tryz.prog 64 [.sl rOrd c,.sl rOrd d,.clos 54 [],.clos 55 []] (.sl rOrd (lessK OrdD.key c d)):=by
 refine FnP.mk Tryz.func64 rfl Tryz.ntmps64 rfl ?_
 intro B a w F hB hfr hS
 refine wp_seq ?_
 refine region_z hS (qf (oN (.c rfl)) trivial qz qZ) hB [8,3,2,1,0] [0] rfl rfl ?_
 clear hS;intro a w F hS
 refine then_n (wp_seq ?_)
 refine region_z hS (qf (oN (.c rfl)) trivial qz qZ) hB [9,8,3,2,1,0] [0] rfl rfl ?_
 clear hS;intro a w F hS
 refine then_n (wp_seq (wp_seq ?_))
 refine region_z hS (qM rfl rfl (qf (o_len_sl Tryz.underlying28 .t) r1 qz (qf (oM qi) trivial qz qZ))) hB [16,15,14,9,8,3,2,1] [0] rfl rfl ?_
 clear hS;intro a w F hS
 refine then_n (wp_block ?_)
 replace hS:=hS.fresh 50 rfl
 replace hS:=hS.turn 50 rfl (nilRow (T:=37) (sz:=2) (R:=rOrd))
 refine loop_keep (σ:=(Nat)×(Value)×(List OrdD)) [1,2,3,8,14,15] [0] (fun s=>[(16,.pv (.int .i64 (s.1:Int))),(9,.pv (.is s.2.1))]) (fun s=>[(50,.ob (.val s.2.1) (rowH 37 2 rOrd s.2.2))]) (fun s=>s.1≤c.length∧(s.2.2=lessK OrdD.key (c.take s.1) d)) (fun s=>c.length - s.1) ((0),(.slice none 0 0),([])) hS ⟨rfl,rfl,rfl,rfl,rfl,rfl,rfl,rfl,trivial⟩ ⟨rfl,rfl,trivial⟩ ⟨Nat.zero_le _,rfl⟩ ?_
 clear hS;intro s a w F hC hS
 obtain ⟨i,v,out⟩:=s
 try dsimp only at hC
 obtain ⟨F,hS⟩:=hS.nm [16,15,14,9,8,3,2,1] [50,0] rfl rfl
 try dsimp only at hS
 obtain ⟨hi,hq⟩:=hC
 have hol:out.length≤i:=by rw [hq];exact Nat.le_trans (lessK_len _ _) (by rw [List.length_take];omega)
 refine wp_seq ?_
 refine region_z hS (qf (o_lss .t .t) r2 qz qZ) hB [17,16,15,14,9,8,3,2,1] [50,0] rfl rfl ?_
 clear hS;intro a w F hS
 refine then_n (wp_seq ?_)
 refine cond_b hS rfl (fun hc0=>?_) (fun hc0=>?_)
 ·skip
  have hil:i<c.length:=by simp at hc0;omega
  have hcd:(!(seekK OrdD.key d (OrdD.key (Go.Gm.nth c i))).isSome || !decide ((Go.Gm.nth c i)=(seekK OrdD.key d (OrdD.key (Go.Gm.nth c i))).getD zeroR))=decide ((seekK OrdD.key d (OrdD.key (Go.Gm.nth c i)))≠some (Go.Gm.nth c i)):=by cases hsk:(seekK OrdD.key d (OrdD.key (Go.Gm.nth c i))) with | none=>simp | some z=>rw [Bool.eq_iff_iff];simp;exact not_congr ⟨Eq.symm,Eq.symm⟩
  refine wp_skip (then_n (wp_seq (wp_block (wp_seq ?_))))
  refine region_q hS (qf (o_indexAddr_sl (sz:=2) (.mk Tryz.underlying28 (by kernel_rfl)) (by intro x;rfl) .t .t (by omega) (by omega)) r2 qz (qf (oR true 2 .t) r1 qz (qf (oH [.int .i64 0,.slice none 0 0] 101) trivial qz (qf (oA 2 101 .same .t) r2 r1 qZ)))) hB ?_
  clear hS;intro a w F hS
  replace hS:=hS.sub
  obtain ⟨F,hS⟩:=hS.nm [19,18,17,16,15,14,11,9,8,3,2,1] [101,50,0] rfl rfl
  try dsimp only [RS.sub,SF.sub,CF.sub,csub,Anc.sub,List.map,stCells,xL,xM,Nat.reduceAdd,xD,xE,xT,xU,xC,xN,zCF,ldSF,rHist,rTx,rOrd,rVer,rInt,rOp] at hS
  generalize Act.tau a 11=v11 at hS
  try simp only [Int.toNat_natCast] at hS
  refine then_n (wp_seq ?_)
  refine region_q hS (qM rfl rfl (qM rfl rfl (qf (oL true 2 101 .is) r1 r1 (qf (o_callClosP (avs:=[.agg (rOrd (Go.Gm.nth c i))]) .t (idR_c (Go.Gm.nth c i)) Tryz.func54 rfl (by kernel_rfl) (Args.one (.pagg .t))) r2 qz (qM rfl rfl (qf (oP (seekR_c d (OrdD.key (Go.Gm.nth c i))) Tryz.func107 (Args.three .t .t .t)) r3 qz (qM rfl rfl (qf (o_extract .t rfl) r1 qz (qf (o_extract .t rfl) r1 qz (qf (oH [.int .i64 0,.slice none 0 0] 102) trivial qz (qf (oA 2 102 .same (.conv .t .agg)) r2 r1 (qN rfl rfl qZ)))))))))))) hB ?_
  clear hS;intro a w F hS
  replace hS:=hS.sub
  obtain ⟨F,hS⟩:=hS.nm [28,27,26,25,24,23,22,21,20,19,18,17,16,15,14,13,12,11,9,8,3,2,1] [102,101,50,0] rfl rfl
  try dsimp only [RS.sub,SF.sub,CF.sub,csub,Anc.sub,List.map,stCells,xL,xM,Nat.reduceAdd,xD,xE,xT,xU,xC,xN,zCF,ldSF,rHist,rTx,rOrd,rVer,rInt,rOp] at hS
  generalize Act.tau a 12=v12 at hS
  refine then_n (wp_seq ?_)
  refine region_z hS (qM rfl rfl (qf (o_not .t) r1 qz (qM rfl rfl (qm rfl rfl rfl rfl (qk rfl (fun h=>oL true 2 101 .is) r2 r1 (qk rfl (fun h=>oL true 2 102 .is) r2 r1 (qk rfl (fun h=>o_callClosP (avs:=[.agg (rOrd (Go.Gm.nth c i)),.agg (rOrd ((seekK OrdD.key d (OrdD.key (Go.Gm.nth c i))).getD zeroR))]) (.w h) (dsameR_c (Go.Gm.nth c i) ((seekK OrdD.key d (OrdD.key (Go.Gm.nth c i))).getD zeroR)) Tryz.func55 rfl (by kernel_rfl) (Args.two (.pagg (.w h)) (.pagg (.w h)))) r4 qz (qk rfl (fun h=>o_not (.w h)) r2 qz (qf (o_or2 .t .t) r2 qz qZ))))))))) hB [37,36,35,34,33,32,31,30,29,28,27,26,25,24,23,22,21,20,19,18,17,16,15,14,13,12,11,9,8,3,2,1] [102,101,50,0] rfl rfl ?_
  clear hS;intro a w F hS
  refine then_n ?_
  refine cond_b hS rfl (fun hc1=>?_) (fun hc1=>?_)
  ·skip
   have h9:(!(seekK OrdD.key d (OrdD.key (Go.Gm.nth c i))).isSome || !decide ((Go.Gm.nth c i)=(seekK OrdD.key d (OrdD.key (Go.Gm.nth c i))).getD zeroR))=true:=hc1
   rw [hcd] at h9
   have hst9:out ++ [(Go.Gm.nth c i)] = lessK OrdD.key (c.take (i+1)) d:=by rw [hq];unfold lessK;rw [filter_step hil,if_pos h9]
   refine region_q hS (qM rfl rfl (qf (oL true 2 101 .is) r1 r1 (qf (o_buildSliceE (sz:=2) (zs:=[.int .i64 0,.slice none 0 0]) (r:=[(0,.tmp 39)]) (l:=[_,_]) Tryz.underlying28 (by kernel_rfl) (by kernel_rfl) (by kernel_rfl) (by kernel_rfl) rfl rfl (.agg rfl .t (by kernel_rfl) (by kernel_rfl) .nil) rfl) r1 qz (qf (o_append (sz:=2) (bs:=32) 50 (.mk' Tryz.underlying28 (by kernel_rfl) (by kernel_rfl)) (by intro x;rfl) .is (.arr (l':=[(Go.Gm.nth c i)]) .t) (by simp only [List.length_append,List.length_cons,List.length_nil];omega) (by decide)) ⟨rfl,rfl,trivial⟩ ⟨rfl,trivial⟩ (qN rfl rfl qZ))))) hB ?_
   clear hS;intro a w F hS
   replace hS:=hS.sub
   obtain ⟨F,hS⟩:=hS.nm [41,40,39,38,37,36,35,34,33,32,31,30,29,28,27,26,25,24,23,22,21,20,19,18,17,16,15,14,13,12,11,9,8,3,2,1] [102,101,50,0] rfl rfl
   try dsimp only [RS.sub,SF.sub,CF.sub,csub,Anc.sub,List.map,stCells,xL,xM,Nat.reduceAdd,xD,xE,xT,xU,xC,xN,zCF,ldSF,rHist,rTx,rOrd,rVer,rInt,rOp] at hS
   generalize Act.tau a 41=v41 at hS
   refine block_n (then_n ?_)
   refine region_z hS (qf (o_add .t qi) r1 qz (qM rfl rfl qZ)) hB [42,41,40,39,38,37,36,35,34,33,32,31,30,29,28,27,26,25,24,23,22,21,20,19,18,17,16,15,14,13,12,11,9,8,3,2,1] [102,101,50,0] rfl rfl ?_
   clear hS;intro a w F hS
   refine then_n ?_
   replace hS:=hS.ent (i:=16) (s':=.pv (.int .i64 ((i+1:Nat):Int))) rfl (.int (wrap_succ (by omega)))
   obtain ⟨F,hS⟩:=hS.nm [15,14,8,3,2,1,9,16] [0,50] rfl rfl
   exact ⟨((i+1),_,_),F,⟨by omega,hst9⟩,hS,by omega⟩
  have h9:(!(seekK OrdD.key d (OrdD.key (Go.Gm.nth c i))).isSome || !decide ((Go.Gm.nth c i)=(seekK OrdD.key d (OrdD.key (Go.Gm.nth c i))).getD zeroR))=false:=hc1
  rw [hcd] at h9
  have hst9:out=lessK OrdD.key (c.take (i+1)) d:=by rw [hq];unfold lessK;rw [filter_step hil,if_neg (by rw [h9];simp),List.append_nil]
  refine wp_skip (block_n (then_n ?_))
  refine region_z hS (qf (o_add .t qi) r1 qz (qM rfl rfl qZ)) hB [42,37,36,35,34,33,32,31,30,29,28,27,26,25,24,23,22,21,20,19,18,17,16,15,14,13,12,11,9,8,3,2,1] [102,101,50,0] rfl rfl ?_
  clear hS;intro a w F hS
  refine then_n ?_
  replace hS:=hS.ent (i:=16) (s':=.pv (.int .i64 ((i+1:Nat):Int))) rfl (.int (wrap_succ (by omega)))
  obtain ⟨F,hS⟩:=hS.nm [15,14,8,3,2,1,9,16] [0,50] rfl rfl
  exact ⟨((i+1),_,_),F,⟨by omega,hst9⟩,hS,by omega⟩
 have hil:i=c.length:=by simp at hc0;omega
 have hg:out=lessK OrdD.key c d:=by rw [hq,hil,List.take_length]
 refine wp_exit (then_x (then_x (block_x (then_n (wp_seq ?_)))))
 refine region_z hS (qM rfl rfl (qN rfl rfl qZ)) hB [8] [50,0] rfl rfl ?_
 clear hS;intro a w F hS
 refine then_n (wp_ret ?_)
 obtain ⟨F,hS⟩:=hS.give 50 8 rfl rfl
 refine ret_P hfr hS rfl (.tmp rfl .nil) (.one (.sl (by rw [hg])))
theorem fitsT_c (l was now:List TxD) (hwl:was.length≤1000000):FnP Tryz.prog 50 [.sl rTx l,.sl rTx was,.sl rTx now,.clos 51 [],.clos 52 []] (.bool (fitsK TxD.id l was now)):=by
 refine FnP.mk Tryz.func50 rfl Tryz.ntmps50 rfl ?_
 intro B a w F hB hfr hS
 have hxl:=Sat.lenSl hS (i:=2) rfl
 refine wp_seq ?_
 refine region_z hS (qf (oN .cb) trivial qz qZ) hB [10,4,3,2,1,0] [0] rfl rfl ?_
 clear hS;intro a w F hS
 refine then_n (wp_seq (wp_seq ?_))
 refine region_z hS (qM rfl rfl (qM rfl rfl (qM rfl rfl (qM rfl rfl (qf (oP (lessT_c was l hwl) Tryz.func63 (Args.four .t .t .t .t)) r4 qz (qf (o_len_sl Tryz.underlying27 .t) r1 qz (qf (o_gtr .t qi) r1 qz qZ))))))) hB [23,10,3,2,1,0] [0] rfl rfl ?_
 clear hS;intro a w F hS
 refine then_n ?_
 refine cond_b hS rfl (fun hc0=>?_) (fun hc0=>?_)
 ·skip
  have hg:false=fitsK TxD.id l was now:=by unfold fitsK;rw [decide_eq_false (by intro e;rw [e] at hc0;simp at hc0),Bool.false_and]
  refine wp_seq ?_
  refine region_z hS (qf (oN .cb) trivial qz qZ) hB [10,3,2,1,0] [0] rfl rfl ?_
  clear hS;intro a w F hS
  refine then_n (wp_ret (then_r ?_))
  refine ret_P hfr hS rfl (.tmp rfl .nil) (.one (.bool hg))
 have hl0:lessK TxD.id was l = []:=Decidable.byContradiction fun e=>by have h7:=List.length_pos_iff.2 e;have h8:=of_decide_eq_false hc0;omega
 refine wp_skip (then_n (wp_seq (wp_seq ?_)))
 refine region_z hS (qM rfl rfl (qf (o_len_sl Tryz.underlying27 .t) r1 qz (qf (oM qi) trivial qz qZ))) hB [26,25,24,10,3,1,0] [0] rfl rfl ?_
 clear hS;intro a w F hS
 refine then_n (wp_block ?_)
 refine loop_keep (σ:=(Nat)) [0,1,3,10,24,25] [0] (fun s=>[(26,.pv (.int .i64 (s:Int)))]) (fun s=>[]) (fun s=>s≤now.length∧(∀ q,q<s→((seekK TxD.id l (TxD.id (Go.Gm.nth now q))).isSome && !(seekK TxD.id was (TxD.id (Go.Gm.nth now q))).isSome)=false)) (fun s=>now.length - s) (0) hS ⟨rfl,rfl,rfl,rfl,rfl,rfl,rfl,trivial⟩ ⟨rfl,trivial⟩ ⟨Nat.zero_le _,fun q hq=>absurd hq (Nat.not_lt_zero q)⟩ ?_
 clear hS;intro i a w F hC hS
 try dsimp only at hC
 obtain ⟨F,hS⟩:=hS.nm [26,25,24,10,3,1,0] [0] rfl rfl
 try dsimp only at hS
 obtain ⟨hi,hq⟩:=hC
 refine wp_seq ?_
 refine region_z hS (qf (o_lss .t .t) r2 qz qZ) hB [27,26,25,24,10,3,1,0] [0] rfl rfl ?_
 clear hS;intro a w F hS
 refine then_n (wp_seq ?_)
 refine cond_b hS rfl (fun hc1=>?_) (fun hc1=>?_)
 ·skip
  have hil:i<now.length:=by simp at hc1;omega
  refine wp_skip (then_n (wp_seq (wp_block (wp_seq ?_))))
  refine region_q hS (qf (o_indexAddr_sl (sz:=3) (.mk Tryz.underlying27 (by kernel_rfl)) (by intro x;rfl) .t .t (by omega) (by omega)) r2 qz (qf (oR true 3 .t) r1 qz (qf (oH [.int .i64 0,.bool false,.slice none 0 0] 101) trivial qz (qf (oA 3 101 .same .t) r2 r1 qZ)))) hB ?_
  clear hS;intro a w F hS
  replace hS:=hS.sub
  obtain ⟨F,hS⟩:=hS.nm [29,28,27,26,25,24,12,10,3,1,0] [101,0] rfl rfl
  try dsimp only [RS.sub,SF.sub,CF.sub,csub,Anc.sub,List.map,stCells,xL,xM,Nat.reduceAdd,xD,xE,xT,xU,xC,xN,zCF,ldSF,rHist,rTx,rOrd,rVer,rInt,rOp] at hS
  generalize Act.tau a 12=v12 at hS
  try simp only [Int.toNat_natCast] at hS
  refine then_n (wp_seq ?_)
  refine region_q hS (qM rfl rfl (qM rfl rfl (qf (oL true 3 101 .is) r1 r1 (qf (o_callClosP (avs:=[.agg (rTx (Go.Gm.nth now i))]) .t (idT_c (Go.Gm.nth now i)) Tryz.func51 rfl (by kernel_rfl) (Args.one (.pagg .t))) r2 qz (qM rfl rfl (qf (oP (seekT_c l (TxD.id (Go.Gm.nth now i))) Tryz.func105 (Args.three .t .t .t)) r3 qz (qM rfl rfl (qf (o_extract .t rfl) r1 qz (qf (o_extract .t rfl) r1 qz (qf (oH [.int .i64 0,.bool false,.slice none 0 0] 102) trivial qz (qf (oA 3 102 .same (.conv .t .agg)) r2 r1 (qN rfl rfl qZ)))))))))))) hB ?_
  clear hS;intro a w F hS
  replace hS:=hS.sub
  obtain ⟨F,hS⟩:=hS.nm [38,37,36,35,34,33,32,31,30,29,28,27,26,25,24,14,13,12,10,3,1,0] [102,101,0] rfl rfl
  try dsimp only [RS.sub,SF.sub,CF.sub,csub,Anc.sub,List.map,stCells,xL,xM,Nat.reduceAdd,xD,xE,xT,xU,xC,xN,zCF,ldSF,rHist,rTx,rOrd,rVer,rInt,rOp] at hS
  generalize Act.tau a 13=v13 at hS
  refine then_n (wp_seq ?_)
  refine region_q hS (qM rfl rfl (qM rfl rfl (qf (oL true 3 101 .is) r1 r1 (qf (o_callClosP (avs:=[.agg (rTx (Go.Gm.nth now i))]) .t (idT_c (Go.Gm.nth now i)) Tryz.func51 rfl (by kernel_rfl) (Args.one (.pagg .t))) r2 qz (qM rfl rfl (qf (oP (seekT_c was (TxD.id (Go.Gm.nth now i))) Tryz.func105 (Args.three .t .t .t)) r3 qz (qM rfl rfl (qf (o_extract .t rfl) r1 qz (qf (o_extract .t rfl) r1 qz (qf (oH [.int .i64 0,.bool false,.slice none 0 0] 103) trivial qz (qf (oA 3 103 .same (.conv .t .agg)) r2 r1 (qN rfl rfl qZ)))))))))))) hB ?_
  clear hS;intro a w F hS
  replace hS:=hS.sub
  obtain ⟨F,hS⟩:=hS.nm [47,46,45,44,43,42,41,40,39,38,37,36,35,34,33,32,31,30,29,28,27,26,25,24,16,15,14,13,12,10,3,1,0] [103,102,101,0] rfl rfl
  try dsimp only [RS.sub,SF.sub,CF.sub,csub,Anc.sub,List.map,stCells,xL,xM,Nat.reduceAdd,xD,xE,xT,xU,xC,xN,zCF,ldSF,rHist,rTx,rOrd,rVer,rInt,rOp] at hS
  generalize Act.tau a 15=v15 at hS
  refine then_n (wp_seq ?_)
  refine region_z hS (qM rfl rfl (qM rfl rfl (qm rfl rfl rfl rfl (qk rfl (fun h=>o_not (.w h)) r2 qz (qf (o_and2 .t .t) r2 qz qZ))))) hB [52,51,50,49,48,47,46,45,44,43,42,41,40,39,38,37,36,35,34,33,32,31,30,29,28,27,26,25,24,16,15,14,13,12,10,3,1,0] [103,102,101,0] rfl rfl ?_
  clear hS;intro a w F hS
  refine then_n ?_
  refine cond_b hS rfl (fun hc2=>?_) (fun hc2=>?_)
  ·skip
   have h9:((seekK TxD.id l (TxD.id (Go.Gm.nth now i))).isSome && !(seekK TxD.id was (TxD.id (Go.Gm.nth now i))).isSome)=true:=hc2
   have hg:false=fitsK TxD.id l was now:=by
     unfold fitsK
     rw [eq_comm,Bool.and_eq_false_iff]
     exact .inr (List.all_eq_false.2 ⟨_,nth_mem hil,by rw [h9];simp⟩)
   refine wp_seq ?_
   refine region_z hS (qf (oN .cb) trivial qz qZ) hB [52,51,50,49,48,47,46,45,44,43,42,41,40,39,38,37,36,35,34,33,32,31,30,29,28,27,26,25,24,16,15,14,13,12,10,3,1,0] [103,102,101,0] rfl rfl ?_
   clear hS;intro a w F hS
   refine then_n (wp_ret (block_r (then_r (then_r (block_r (then_r ?_))))))
   refine ret_P hfr hS rfl (.tmp rfl .nil) (.one (.bool hg))
  have hne:((seekK TxD.id l (TxD.id (Go.Gm.nth now i))).isSome && !(seekK TxD.id was (TxD.id (Go.Gm.nth now i))).isSome)=false:=hc2
  refine wp_skip (block_n (then_n ?_))
  refine region_z hS (qf (o_add .t qi) r1 qz (qM rfl rfl qZ)) hB [53,52,51,50,49,48,47,46,45,44,43,42,41,40,39,38,37,36,35,34,33,32,31,30,29,28,27,26,25,24,16,15,14,13,12,10,3,1,0] [103,102,101,0] rfl rfl ?_
  clear hS;intro a w F hS
  refine then_n ?_
  replace hS:=hS.ent (i:=26) (s':=.pv (.int .i64 ((i+1:Nat):Int))) rfl (.int (wrap_succ (by omega)))
  obtain ⟨F,hS⟩:=hS.nm [25,24,10,3,1,0,26] [0] rfl rfl
  exact ⟨(i+1),F,⟨by omega,(fun q h9=>by rcases Nat.lt_or_eq_of_le (Nat.le_of_lt_succ h9) with h8 | h8;exact hq q h8;rw [h8];exact hne)⟩,hS,by omega⟩
 have hil:i=now.length:=by simp at hc1;omega
 have hg:true=fitsK TxD.id l was now:=by
   unfold fitsK
   rw [decide_eq_true hl0,Bool.true_and,eq_comm,List.all_eq_true]
   intro z hz
   obtain ⟨q,hq1,e⟩:=List.getElem_of_mem hz
   have h9:=hq q (by omega)
   rw [nth_eq hq1,e] at h9
   rw [h9];rfl
 refine wp_exit (then_x (then_x (block_x (then_n (wp_seq ?_)))))
 refine region_z hS (qf (oN .cb) trivial qz qZ) hB [10] [0] rfl rfl ?_
 clear hS;intro a w F hS
 refine then_n (wp_ret ?_)
 refine ret_P hfr hS rfl (.tmp rfl .nil) (.one (.bool hg))
theorem fitsR_c (l was now:List OrdD) (hwl:was.length≤1000000):FnP Tryz.prog 53 [.sl rOrd l,.sl rOrd was,.sl rOrd now,.clos 54 [],.clos 55 []] (.bool (fitsK OrdD.key l was now)):=by
 refine FnP.mk Tryz.func53 rfl Tryz.ntmps53 rfl ?_
 intro B a w F hB hfr hS
 have hxl:=Sat.lenSl hS (i:=2) rfl
 refine wp_seq ?_
 refine region_z hS (qf (oN .cb) trivial qz qZ) hB [10,4,3,2,1,0] [0] rfl rfl ?_
 clear hS;intro a w F hS
 refine then_n (wp_seq (wp_seq ?_))
 refine region_z hS (qM rfl rfl (qM rfl rfl (qM rfl rfl (qM rfl rfl (qf (oP (lessR_c was l hwl) Tryz.func64 (Args.four .t .t .t .t)) r4 qz (qf (o_len_sl Tryz.underlying28 .t) r1 qz (qf (o_gtr .t qi) r1 qz qZ))))))) hB [23,10,3,2,1,0] [0] rfl rfl ?_
 clear hS;intro a w F hS
 refine then_n ?_
 refine cond_b hS rfl (fun hc0=>?_) (fun hc0=>?_)
 ·skip
  have hg:false=fitsK OrdD.key l was now:=by unfold fitsK;rw [decide_eq_false (by intro e;rw [e] at hc0;simp at hc0),Bool.false_and]
  refine wp_seq ?_
  refine region_z hS (qf (oN .cb) trivial qz qZ) hB [10,3,2,1,0] [0] rfl rfl ?_
  clear hS;intro a w F hS
  refine then_n (wp_ret (then_r ?_))
  refine ret_P hfr hS rfl (.tmp rfl .nil) (.one (.bool hg))
 have hl0:lessK OrdD.key was l = []:=Decidable.byContradiction fun e=>by have h7:=List.length_pos_iff.2 e;have h8:=of_decide_eq_false hc0;omega
 refine wp_skip (then_n (wp_seq (wp_seq ?_)))
 refine region_z hS (qM rfl rfl (qf (o_len_sl Tryz.underlying28 .t) r1 qz (qf (oM qi) trivial qz qZ))) hB [26,25,24,10,3,1,0] [0] rfl rfl ?_
 clear hS;intro a w F hS
 refine then_n (wp_block ?_)
 refine loop_keep (σ:=(Nat)) [0,1,3,10,24,25] [0] (fun s=>[(26,.pv (.int .i64 (s:Int)))]) (fun s=>[]) (fun s=>s≤now.length∧(∀ q,q<s→((seekK OrdD.key l (OrdD.key (Go.Gm.nth now q))).isSome && !(seekK OrdD.key was (OrdD.key (Go.Gm.nth now q))).isSome)=false)) (fun s=>now.length - s) (0) hS ⟨rfl,rfl,rfl,rfl,rfl,rfl,rfl,trivial⟩ ⟨rfl,trivial⟩ ⟨Nat.zero_le _,fun q hq=>absurd hq (Nat.not_lt_zero q)⟩ ?_
 clear hS;intro i a w F hC hS
 try dsimp only at hC
 obtain ⟨F,hS⟩:=hS.nm [26,25,24,10,3,1,0] [0] rfl rfl
 try dsimp only at hS
 obtain ⟨hi,hq⟩:=hC
 refine wp_seq ?_
 refine region_z hS (qf (o_lss .t .t) r2 qz qZ) hB [27,26,25,24,10,3,1,0] [0] rfl rfl ?_
 clear hS;intro a w F hS
 refine then_n (wp_seq ?_)
 refine cond_b hS rfl (fun hc1=>?_) (fun hc1=>?_)
 ·skip
  have hil:i<now.length:=by simp at hc1;omega
  refine wp_skip (then_n (wp_seq (wp_block (wp_seq ?_))))
  refine region_q hS (qf (o_indexAddr_sl (sz:=2) (.mk Tryz.underlying28 (by kernel_rfl)) (by intro x;rfl) .t .t (by omega) (by omega)) r2 qz (qf (oR true 2 .t) r1 qz (qf (oH [.int .i64 0,.slice none 0 0] 101) trivial qz (qf (oA 2 101 .same .t) r2 r1 qZ)))) hB ?_
  clear hS;intro a w F hS
  replace hS:=hS.sub
  obtain ⟨F,hS⟩:=hS.nm [29,28,27,26,25,24,12,10,3,1,0] [101,0] rfl rfl
  try dsimp only [RS.sub,SF.sub,CF.sub,csub,Anc.sub,List.map,stCells,xL,xM,Nat.reduceAdd,xD,xE,xT,xU,xC,xN,zCF,ldSF,rHist,rTx,rOrd,rVer,rInt,rOp] at hS
  generalize Act.tau a 12=v12 at hS
  try simp only [Int.toNat_natCast] at hS
  refine then_n (wp_seq ?_)
  refine region_q hS (qM rfl rfl (qM rfl rfl (qf (oL true 2 101 .is) r1 r1 (qf (o_callClosP (avs:=[.agg (rOrd (Go.Gm.nth now i))]) .t (idR_c (Go.Gm.nth now i)) Tryz.func54 rfl (by kernel_rfl) (Args.one (.pagg .t))) r2 qz (qM rfl rfl (qf (oP (seekR_c l (OrdD.key (Go.Gm.nth now i))) Tryz.func107 (Args.three .t .t .t)) r3 qz (qM rfl rfl (qf (o_extract .t rfl) r1 qz (qf (o_extract .t rfl) r1 qz (qf (oH [.int .i64 0,.slice none 0 0] 102) trivial qz (qf (oA 2 102 .same (.conv .t .agg)) r2 r1 (qN rfl rfl qZ)))))))))))) hB ?_
  clear hS;intro a w F hS
  replace hS:=hS.sub
  obtain ⟨F,hS⟩:=hS.nm [38,37,36,35,34,33,32,31,30,29,28,27,26,25,24,14,13,12,10,3,1,0] [102,101,0] rfl rfl
  try dsimp only [RS.sub,SF.sub,CF.sub,csub,Anc.sub,List.map,stCells,xL,xM,Nat.reduceAdd,xD,xE,xT,xU,xC,xN,zCF,ldSF,rHist,rTx,rOrd,rVer,rInt,rOp] at hS
  generalize Act.tau a 13=v13 at hS
  refine then_n (wp_seq ?_)
  refine region_q hS (qM rfl rfl (qM rfl rfl (qf (oL true 2 101 .is) r1 r1 (qf (o_callClosP (avs:=[.agg (rOrd (Go.Gm.nth now i))]) .t (idR_c (Go.Gm.nth now i)) Tryz.func54 rfl (by kernel_rfl) (Args.one (.pagg .t))) r2 qz (qM rfl rfl (qf (oP (seekR_c was (OrdD.key (Go.Gm.nth now i))) Tryz.func107 (Args.three .t .t .t)) r3 qz (qM rfl rfl (qf (o_extract .t rfl) r1 qz (qf (o_extract .t rfl) r1 qz (qf (oH [.int .i64 0,.slice none 0 0] 103) trivial qz (qf (oA 2 103 .same (.conv .t .agg)) r2 r1 (qN rfl rfl qZ)))))))))))) hB ?_
  clear hS;intro a w F hS
  replace hS:=hS.sub
  obtain ⟨F,hS⟩:=hS.nm [47,46,45,44,43,42,41,40,39,38,37,36,35,34,33,32,31,30,29,28,27,26,25,24,16,15,14,13,12,10,3,1,0] [103,102,101,0] rfl rfl
  try dsimp only [RS.sub,SF.sub,CF.sub,csub,Anc.sub,List.map,stCells,xL,xM,Nat.reduceAdd,xD,xE,xT,xU,xC,xN,zCF,ldSF,rHist,rTx,rOrd,rVer,rInt,rOp] at hS
  generalize Act.tau a 15=v15 at hS
  refine then_n (wp_seq ?_)
  refine region_z hS (qM rfl rfl (qM rfl rfl (qm rfl rfl rfl rfl (qk rfl (fun h=>o_not (.w h)) r2 qz (qf (o_and2 .t .t) r2 qz qZ))))) hB [52,51,50,49,48,47,46,45,44,43,42,41,40,39,38,37,36,35,34,33,32,31,30,29,28,27,26,25,24,16,15,14,13,12,10,3,1,0] [103,102,101,0] rfl rfl ?_
  clear hS;intro a w F hS
  refine then_n ?_
  refine cond_b hS rfl (fun hc2=>?_) (fun hc2=>?_)
  ·skip
   have h9:((seekK OrdD.key l (OrdD.key (Go.Gm.nth now i))).isSome && !(seekK OrdD.key was (OrdD.key (Go.Gm.nth now i))).isSome)=true:=hc2
   have hg:false=fitsK OrdD.key l was now:=by
     unfold fitsK
     rw [eq_comm,Bool.and_eq_false_iff]
     exact .inr (List.all_eq_false.2 ⟨_,nth_mem hil,by rw [h9];simp⟩)
   refine wp_seq ?_
   refine region_z hS (qf (oN .cb) trivial qz qZ) hB [52,51,50,49,48,47,46,45,44,43,42,41,40,39,38,37,36,35,34,33,32,31,30,29,28,27,26,25,24,16,15,14,13,12,10,3,1,0] [103,102,101,0] rfl rfl ?_
   clear hS;intro a w F hS
   refine then_n (wp_ret (block_r (then_r (then_r (block_r (then_r ?_))))))
   refine ret_P hfr hS rfl (.tmp rfl .nil) (.one (.bool hg))
  have hne:((seekK OrdD.key l (OrdD.key (Go.Gm.nth now i))).isSome && !(seekK OrdD.key was (OrdD.key (Go.Gm.nth now i))).isSome)=false:=hc2
  refine wp_skip (block_n (then_n ?_))
  refine region_z hS (qf (o_add .t qi) r1 qz (qM rfl rfl qZ)) hB [53,52,51,50,49,48,47,46,45,44,43,42,41,40,39,38,37,36,35,34,33,32,31,30,29,28,27,26,25,24,16,15,14,13,12,10,3,1,0] [103,102,101,0] rfl rfl ?_
  clear hS;intro a w F hS
  refine then_n ?_
  replace hS:=hS.ent (i:=26) (s':=.pv (.int .i64 ((i+1:Nat):Int))) rfl (.int (wrap_succ (by omega)))
  obtain ⟨F,hS⟩:=hS.nm [25,24,10,3,1,0,26] [0] rfl rfl
  exact ⟨(i+1),F,⟨by omega,(fun q h9=>by rcases Nat.lt_or_eq_of_le (Nat.le_of_lt_succ h9) with h8 | h8;exact hq q h8;rw [h8];exact hne)⟩,hS,by omega⟩
 have hil:i=now.length:=by simp at hc1;omega
 have hg:true=fitsK OrdD.key l was now:=by
   unfold fitsK
   rw [decide_eq_true hl0,Bool.true_and,eq_comm,List.all_eq_true]
   intro z hz
   obtain ⟨q,hq1,e⟩:=List.getElem_of_mem hz
   have h9:=hq q (by omega)
   rw [nth_eq hq1,e] at h9
   rw [h9];rfl
 refine wp_exit (then_x (then_x (block_x (then_n (wp_seq ?_)))))
 refine region_z hS (qf (oN .cb) trivial qz qZ) hB [10] [0] rfl rfl ?_
 clear hS;intro a w F hS
 refine then_n (wp_ret ?_)
 refine ret_P hfr hS rfl (.tmp rfl .nil) (.one (.bool hg))
end Go.Proofs.YtcfgcpcakdknkaaGreat
