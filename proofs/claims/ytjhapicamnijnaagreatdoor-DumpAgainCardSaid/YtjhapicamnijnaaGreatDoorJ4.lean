/- Texts put together. No condition beyond those that each theorem says. -/
import Derived.Test.YtjhapicamnijnaaGreatDoorJ3
import Derived.Test.YtjhapicamnijnaaGreatDoorJ2
import Derived.Test.YtjhapicamnijnaaGreatDoorLibE
import Derived.Test.YtjhapicamnijnaaGreatDoorLibG
namespace Go.Proofs.YtjhapicamnijnaaGreatDoor
open Go Go.Gm
set_option linter.unusedVariables false
set_option linter.unusedSimpArgs false
set_option maxHeartbeats 4000000
set_option maxRecDepth 8000
theorem Ze3 (t:TxD) (hl:t.ops.length≤1000000):FnP Tryz.prog 95 [.agg (rTx t)] (.agg (rTx t)):=by
 refine FnP.mk Tryz.func95 rfl Tryz.ntmps95 rfl ?_
 intro B a w F hB hfr hS
 refine wp_seq ?_
 refine Zc hS (qx 101 r1 (qf (oH [.int .i64 0,.bool false,.slice none 0 0] 102) trivial qz qZ)) hB [2,1] [102,101,0] (fun _=>rfl) (fun _=>rfl) fun τ a w F hS=>?_
 try dsimp only [RS.sub,SF.sub,CF.sub,csub,Anc.sub,List.map,zCF,Zo,rTx,Zz,ZQ,rInt,rOp] at hS
 generalize τ 1=v1 at hS
 generalize τ 2=v2 at hS
 refine Zb (wp_seq ?_)
 replace hS:=hS.fresh 103 rfl
 refine Zc hS (qg 2 101 r1 r1 (qa 101 r1 r1 (qf (Zbz 103 (ZhJ t.ops hl) Tryz.func29 rfl (by kernel_rfl) (Args.one .t) Za3) r1 r1 (qg 2 101 r1 r1 (qf (Zaz 101 .adr (by kernel_rfl) (by kernel_rfl)) r2 r1 qZ))))) hB [2,1] [103,102,101,0] (fun _=>rfl) (fun _=>rfl) fun τ a w F hS=>?_
 try dsimp only [RS.sub,SF.sub,CF.sub,csub,Anc.sub,List.map,Zg,xL,xM,Nat.reduceAdd,xD,xE,xT,xU,xC,xN,zCF,ldSF,Zo,rTx,Zz,ZQ,rInt,rOp] at hS
 generalize τ 5=v5 at hS
 obtain ⟨F,hS⟩:=hS.giveCell 103 101 2 rfl rfl rfl rfl rfl
 try dsimp only [List.set] at hS
 obtain ⟨F,hS⟩:=hS.nm [2,1] [102,101,0] rfl rfl
 refine Zb (wp_seq ?_)
 refine Za hS (qe 3 101 r1 r1 (qs 3 102 r2 r1 qZ)) hB [2] [102,101,0] rfl rfl fun a w F hS=>Zb (wp_ret ?_)
 refine Zr hfr hS rfl (.cl 102 true 3 rfl rfl .nil) (.one (.aggU rfl rfl))
theorem ZqA (g:HistD) (id:Int) (hs:ZbG g.txs):FnP Tryz.prog 107 [.agg (Zo g),.int .i64 id] (.tup [.agg (rTx ((ZK g.txs id).getD zeroT)),.bool (ZK g.txs id).isSome]):=by
 refine FnP.mk Tryz.func107 rfl Tryz.ntmps107 rfl ?_
 intro B a w F hB hfr hS
 have hsl:=hs.1
 refine wp_seq ?_
 refine Zc hS (qx 101 r1 (qf (oH [.int .i64 0,.bool false,.slice none 0 0] 102) trivial qz qB)) hB [5,4,2,1] [102,101,0] (fun _=>rfl) (fun _=>rfl) fun τ a w F hS=>?_
 try dsimp only [RS.sub,SF.sub,CF.sub,csub,Anc.sub,List.map,zCF,Zo,rTx,Zz,ZQ,rInt,rOp] at hS
 generalize τ 2=v2 at hS
 generalize τ 4=v4 at hS
 refine Zb (wp_seq (wp_seq ?_))
 refine Za hS (qg 0 101 r1 r1 (qa 101 r1 r1 (qu Tryz.underlying22 r1 (qJ qZ)))) hB [11,10,9,5,4,1] [102,101,0] rfl rfl fun a w F hS=>Zb (wp_block ?_)
 refine Zp (σ:=(Nat)) [1,4,5,9,10] [0,101,102] (fun s=>[(11,.pv (.int .i64 (s:Int)))]) (fun s=>[]) (fun s=>s≤g.txs.length∧(∀ k,k<s→(Go.Gm.nth g.txs k).id≠id)) (fun s=>g.txs.length - s) (0) hS ⟨rfl,rfl,rfl,rfl,rfl,rfl,trivial⟩ ⟨rfl,rfl,rfl,trivial⟩ ⟨Nat.zero_le _,fun k hk=>absurd hk (Nat.not_lt_zero k)⟩ ?_
 clear hS;intro i a w F hC hS
 try dsimp only at hC
 obtain ⟨F,hS⟩:=hS.nm [11,10,9,5,4,1] [102,101,0] rfl rfl
 try dsimp only at hS
 obtain ⟨hi,hq⟩:=hC
 refine wp_seq ?_
 refine Za hS (qL r2) hB [12,11,10,9,5,4,1] [102,101,0] rfl rfl fun a w F hS=>Zb (wp_seq ?_)
 refine Zd hS rfl (fun hc0=>?_) (fun hc0=>?_)
 ·skip
  have hil:i<g.txs.length:=by simp at hc0;omega
  refine wp_skip (Zb (wp_seq (wp_block (wp_seq ?_))))
  refine Zc hS (qy 3 Tryz.underlying22 r2 (qf (oR true 3 .t) r1 qz (qf (oH [.int .i64 0,.bool false,.slice none 0 0] 103) trivial qz (qS 3 103 r2 r1 qZ)))) hB [11,10,9,7,5,4,1] [103,102,101,0] (fun _=>rfl) (fun _=>rfl) fun τ a w F hS=>?_
  try dsimp only [RS.sub,SF.sub,CF.sub,csub,Anc.sub,List.map,Zg,xL,xM,Nat.reduceAdd,xD,xE,xT,xU,xC,xN,zCF,ldSF,Zo,rTx,Zz,ZQ,rInt,rOp] at hS
  generalize τ 7=v7 at hS
  try simp only [Int.toNat_natCast] at hS
  refine Zb (wp_seq ?_)
  refine Za hS (qg 0 103 r1 r1 (qa 103 r1 r1 (qM rfl rfl (qf (o_eql .t .t) r2 qz qZ)))) hB [18,11,10,9,7,5,4,1] [103,102,101,0] rfl rfl fun a w F hS=>Zb ?_
  refine Zd hS rfl (fun hc1=>?_) (fun hc1=>?_)
  ·skip
   have hg:ZK g.txs id=some (Go.Gm.nth g.txs i):=Zpn hil (by simpa using hc1) hq
   refine wp_seq ?_
   refine Za hS (qe 3 103 r1 r1 (qf (oP (Ze3 (Go.Gm.nth g.txs i) (by have:=hs.at hil;omega)) Tryz.func95 (Args.one (.pagg .t))) r1 qz (qf (oA 3 102 .is (.conv .t .agg)) r2 r1 qB))) hB [11,10,9,5,4,1] [103,102,101,0] rfl rfl fun a w F hS=>Zb (wp_ret (Zf (Ze (Ze (Zf (Ze ?_))))))
   refine Zr hfr hS rfl (.cl 102 true 3 rfl rfl (.tmp rfl .nil)) (.two (by rw [hg];first | exact .aggU rfl rfl | exact .aggLe rfl ⟨.refl,.refl,.nilSl,trivial⟩) (.bool (by rw [hg];rfl)))
  have hne:(Go.Gm.nth g.txs i).id≠id:=by simpa using hc1
  refine wp_skip (Zh (Zb ?_))
  refine Za hS (qp r1 (qM rfl rfl qZ)) hB [11,10,9,5,4,1] [103,102,101,0] rfl rfl fun a w F hS=>Zb ?_
  replace hS:=hS.ent (i:=11) (s':=.pv (.int .i64 ((i+1:Nat):Int))) rfl (.int (wrap_succ (by omega)))
  obtain ⟨F,hS⟩:=hS.nm [10,9,5,4,1,11] [102,101,0] rfl rfl
  exact ⟨(i+1),F,⟨by omega,(fun k hk=>by rcases Nat.lt_or_eq_of_le (Nat.le_of_lt_succ hk) with h9 | h9;exact hq k h9;rw [h9];exact hne)⟩,hS,by omega⟩
 have hil:i=g.txs.length:=by simp at hc0;omega
 have hg:ZK g.txs id=none:=Zmj (by rw [← hil];exact hq)
 refine wp_exit (Zi (Zi (Zl (Zb (wp_seq ?_)))))
 refine Za hS (qf (oB [] [.int .i64 0,.bool false,.slice none 0 0] [(0,1),(1,1),(2,1)] .nil) trivial qz (qs 3 102 r2 r1 qB)) hB [5,4] [102,101,0] rfl rfl fun a w F hS=>Zb (wp_ret ?_)
 refine Zr hfr hS rfl (.cl 102 true 3 rfl rfl (.tmp rfl .nil)) (.two (by rw [hg];first | exact .aggU rfl rfl | exact .aggLe rfl ⟨.refl,.refl,.nilSl,trivial⟩) (.bool (by rw [hg];rfl)))
theorem ZsW (g:HistD) (v:ZbQ) (hs:ZbG g.txs):FnP Tryz.prog 62 [.agg (Zo g),.agg (ZQ v)] (.bool (Zgv g v)):=by
 refine FnP.mk Tryz.func62 rfl Tryz.ntmps62 rfl ?_
 intro B a w F hB hfr hS
 refine wp_seq ?_
 refine Zc hS (qx 101 r1 (qx 102 r1 qB)) hB [4,3,2] [102,101,0] (fun _=>rfl) (fun _=>rfl) fun τ a w F hS=>?_
 try dsimp only [RS.sub,SF.sub,CF.sub,csub,Anc.sub,List.map,zCF,Zo,rTx,Zz,ZQ,rInt,rOp] at hS
 generalize τ 2=v2 at hS
 generalize τ 3=v3 at hS
 refine Zb (wp_seq (wp_seq ?_))
 refine Za hS (qg 0 102 r1 r1 (qa 102 r1 r1 (qf (o_eql .t qi) r1 qz (qM rfl rfl (qv 2 102 rfl r2 r1 (qw 102 rfl r2 r1 (qk rfl (fun h=>o_eql (.w h) qi) r2 qz (qf (ZI .t .t) r2 qz qZ)))))))) hB [14,4,3,2] [102,101,0] rfl rfl fun a w F hS=>Zb ?_
 refine Zd hS rfl (fun hc0=>?_) (fun hc0=>?_)
 ·skip
  have h0:(v.tx=0∧v.nth=0):=by simpa using hc0
  have hu:Zgv g v=decide (1≤v.key∧v.key≤1048575):=by unfold Zgv;rw [if_pos h0]
  refine wp_seq ?_
  refine Za hS (qg 1 102 r1 r1 (qa 102 r1 r1 (qf (ZdO .t qi) r1 qz (qM rfl rfl (qv 1 102 rfl r2 r1 (qw 102 rfl r2 r1 (qk rfl (fun h=>ZrT (.w h) qi) r2 qz (qf (ZI .t .t) r2 qz (qN rfl rfl qZ))))))))) hB [4,3,2] [102,101,0] rfl rfl fun a w F hS=>Zb (wp_ret (Ze ?_))
  refine Zm hfr hS rfl rfl rfl (.bool (by first | (rw [hu,Bool.decide_and];done) | (rw [hu];unfold idB;rw [Bool.decide_and];done) | (unfold Zgv wcnt;rw [if_neg h0,Bool.and_assoc])))
 have h0:¬ (v.tx=0∧v.nth=0):=by simpa using hc0
 have hfl:((ZK g.txs v.tx).getD zeroT).ops.length≤1000:=by cases hf:ZK g.txs v.tx with | none=>simp [zeroT] | some t=>exact hs.2 _ (findT_mem hf).1
 refine wp_skip (Zb (wp_seq ?_))
 refine Zc hS (qe 2 101 r1 r1 (qg 0 102 r1 r1 (qa 102 r1 r1 (qf (oP (ZqA g v.tx hs) Tryz.func107 (Args.two (.pagg .t) .t)) r2 qz (qM rfl rfl (qf (o_extract .t rfl) r1 qz (qf (o_extract .t rfl) r1 qz (qf (oH [.int .i64 0,.bool false,.slice none 0 0] 103) trivial qz (qf (oA 3 103 .same (.conv .t .agg)) r2 r1 (qN rfl rfl qZ)))))))))) hB [6,5,4,3] [103,102,101,0] (fun _=>rfl) (fun _=>rfl) fun τ a w F hS=>?_
 try dsimp only [RS.sub,SF.sub,CF.sub,csub,Anc.sub,List.map,Zg,xL,xM,Nat.reduceAdd,xD,xE,xT,xU,xC,xN,zCF,ldSF,Zo,rTx,Zz,ZQ,rInt,rOp] at hS
 generalize τ 5=v5 at hS
 refine Zb (wp_seq ?_)
 refine Zw hS (qM rfl rfl (qM rfl rfl (qv 2 102 rfl r2 r1 (qw 102 rfl r2 r1 (qk rfl (fun h=>ZdO (.w h) qi) r2 qz (qf (ZI .t .t) r2 qz (qM rfl rfl (qk rfl (fun h=>oL true 3 103 .is) r2 r1 (qv 1 102 rfl r2 r1 (qw 102 rfl r2 r1 (qk rfl (fun h=>oP (Zf9 ((ZK g.txs v.tx).getD zeroT) v.key (by omega)) Tryz.func108 (Args.two (.pagg (.w h)) (.w h))) r3 qz (qv 2 102 rfl r2 r1 (qw 102 rfl r2 r1 (qk rfl (fun h=>ZdO (.w h) (.w h)) r3 qz (qf (ZI .t .t) r2 qz (qN rfl rfl qZ)))))))))))))))) hB [4] [103,102,101,0] rfl rfl fun a w F hS=>?_
 try dsimp only [List.map,xD,xE,xT,xU,ldSF,Zo,rTx,Zz,ZQ,rInt,rOp] at hS
 refine Zb (wp_ret ?_)
 refine Zm hfr hS rfl rfl rfl (.bool (by first | (rw [hu,Bool.decide_and];done) | (rw [hu];unfold idB;rw [Bool.decide_and];done) | (unfold Zgv wcnt;rw [if_neg h0,Bool.and_assoc])))
theorem ZiA (l:List Int) (hl:l.length≤1000000):FnP Tryz.prog 64 [.sl rInt l] (.sl rInt l):=by
 refine FnP.mk Tryz.func64 rfl Tryz.ntmps64 rfl ?_
 intro B a w F hB hfr hS
 refine wp_seq ?_
 refine Za hS (qC qZ) hB [2,0] [0] rfl rfl fun a w F hS=>Zb (wp_seq (wp_seq ?_))
 refine Za hS (qM rfl rfl (qf (Zdo Tryz.underlying39 .t) r1 qz qZ)) hB [4,2,0] [0] rfl rfl fun a w F hS=>?_
 obtain ⟨β4,hβ4,hS⟩:=hS.pickBool 4 rfl
 obtain ⟨F,hS⟩:=hS.nm [4,2,0] [0] rfl rfl
 refine Zb ?_
 refine Zd hS rfl (fun hc0=>?_) (fun hc0=>?_)
 ·skip
  have hg:l = []:=hβ4 hc0
  refine wp_seq ?_
  refine Za hS (qC qZ) hB [2,0] [0] rfl rfl fun a w F hS=>Zb (wp_ret (Ze ?_))
  refine Zm hfr hS rfl rfl rfl (.trans .nilSl (.sl (by rw [hg])))
 have hg:l = [] ++ l:=rfl
 refine wp_skip (Zb (wp_seq ?_))
 refine Zc hS (qf (Zck (R:=rInt) (sz:=1) 101 Tryz.underlying39 (by kernel_rfl)) trivial qz (qM rfl rfl (qf (o_append (sz:=1) (bs:=8) 101 (.mk' Tryz.underlying39 (by kernel_rfl) (by kernel_rfl)) (by intro x;rfl) .same (.sl .t) (by simp only [List.length_append,List.length_nil];omega) (by decide)) ⟨rfl,rfl,trivial⟩ ⟨rfl,trivial⟩ (qN rfl rfl qZ)))) hB [2] [101,0] (fun _=>rfl) (fun _=>rfl) fun τ a w F hS=>?_
 try dsimp only [RS.sub,SF.sub,CF.sub,csub,Anc.sub,List.map,Zg,xL,xM,Nat.reduceAdd,xD,xE,xT,xU,xC,xN,zCF,rInt] at hS
 generalize τ 7=v7 at hS
 refine Zb (wp_ret ?_)
 obtain ⟨F,hS⟩:=hS.give 101 2 rfl rfl
 refine Zm hfr hS rfl rfl rfl (.sl (by rw [hg]))
theorem Zho (g:HistD) (hs:Za0 g):FnG Tryz.prog 93 1 [.agg (Zo g)] [.star []] (PV.self ZrW) (fun v=>[ZqX (Zu 38 3 rTx g.txs) (Zu 41 2 Zz g.orders) v]):=by
 refine FnG.mk Tryz.func93 rfl Tryz.ntmps93 rfl (by kernel_rfl) ?_
 intro B F0 a w F hB hG hS
 have hsl:=hs.1.1
 have hso:=hs.2.1
 obtain ⟨F,hS⟩:=hS.nm [0] [0] rfl rfl
 refine wp_seq ?_
 refine Zc hS (qx 101 r1 (qf (oH [.slice none 0 0,.slice none 0 0] 102) trivial qz qZ)) hB [2,1] [102,101,0] (fun _=>rfl) (fun _=>rfl) fun τ a w F hS=>?_
 try dsimp only [RS.sub,SF.sub,CF.sub,csub,Anc.sub,List.map,zCF,Zo,rTx,Zz,ZQ,rInt,rOp] at hS
 generalize τ 1=v1 at hS
 generalize τ 2=v2 at hS
 refine Zb (wp_seq ?_)
 refine Zc hS (qf (oH [.slice none 0 0,.slice none 0 0] 103) trivial qz qZ) hB [3,2,1] [103,102,101,0] (fun _=>rfl) (fun _=>rfl) fun τ a w F hS=>?_
 try dsimp only [RS.sub,SF.sub,CF.sub,csub,Anc.sub,List.map,zCF,Zo,rTx,Zz,ZQ,rInt,rOp] at hS
 generalize τ 3=v3 at hS
 refine Zb (wp_seq (wp_seq ?_))
 refine Za hS (qg 0 101 r1 r1 (qa 101 r1 r1 (qu Tryz.underlying22 r1 (qJ qZ)))) hB [11,10,9,3,2,1] [103,102,101,0] rfl rfl fun a w F hS=>Zb (wp_block ?_)
 replace hS:=hS.fresh 50 rfl
 replace hS:=hS.turn 50 rfl (Zbh (T:=38) (sz:=3) (R:=rTx))
 refine Zp (σ:=(Nat)×(Value)×(List TxD)) [1,2,3,9,10] [0,101,102] (fun s=>[(11,.pv (.int .i64 (s.1:Int)))]) (fun s=>[(103,.pt (.val v3) 25 [.pv (.is s.2.1),.pv (.is (.slice none 0 0))]),(50,.ob (.val s.2.1) (Zu 38 3 rTx s.2.2))]) (fun s=>s.1≤g.txs.length∧(s.2.2=g.txs.take s.1)) (fun s=>g.txs.length - s.1) ((0),(.slice none 0 0),([])) hS ⟨rfl,rfl,rfl,rfl,rfl,rfl,trivial⟩ ⟨rfl,rfl,rfl,rfl,rfl,trivial⟩ ⟨Nat.zero_le _,rfl⟩ ?_
 clear hS;intro s a w F hC hS
 obtain ⟨i,va,oa⟩:=s
 try dsimp only at hC
 obtain ⟨F,hS⟩:=hS.nm [11,10,9,3,2,1] [103,102,101,50,0] rfl rfl
 try dsimp only at hS
 obtain ⟨hi,hq⟩:=hC
 have hol:oa.length≤i:=by rw [hq,List.length_take];omega
 refine wp_seq ?_
 refine Za hS (qL r2) hB [12,11,10,9,3,2,1] [103,102,101,50,0] rfl rfl fun a w F hS=>Zb (wp_seq ?_)
 refine Zd hS rfl (fun hc0=>?_) (fun hc0=>?_)
 ·skip
  have hil:i<g.txs.length:=by simp at hc0;omega
  have hio:=hil
  refine wp_skip (Zb (wp_seq (wp_block (wp_seq ?_))))
  refine Zc hS (qy 3 Tryz.underlying22 r2 (qf (oR true 3 .t) r1 qz (qf (oH [.int .i64 0,.bool false,.slice none 0 0] 104) trivial qz (qS 3 104 r2 r1 qZ)))) hB [11,10,9,5,3,2,1] [104,103,102,101,50,0] (fun _=>rfl) (fun _=>rfl) fun τ a w F hS=>?_
  try dsimp only [RS.sub,SF.sub,CF.sub,csub,Anc.sub,List.map,Zg,xL,xM,Nat.reduceAdd,xD,xE,xT,xU,xC,xN,zCF,ldSF,Zo,rTx,Zz,ZQ,rInt,rOp] at hS
  generalize τ 5=v5 at hS
  try simp only [Int.toNat_natCast] at hS
  refine Zb ?_
  refine ZdF hS (qg 0 103 r1 r1 (qa 103 r1 r1 (qe 3 104 r1 r1 (qf (oP (Ze3 (Go.Gm.nth g.txs i) (by have:=hs.1.at hio;omega)) Tryz.func95 (Args.one (.pagg .t))) r1 qz (qf (Zk (sz:=3) (zs:=[.int .i64 0,.bool false,.slice none 0 0]) (r:=[(0,.tmp 18)]) (l:=[_,_,_]) Tryz.underlying22 (by kernel_rfl) (by kernel_rfl) (by kernel_rfl) (by kernel_rfl) rfl rfl (.agg rfl (.conv .t .agg) (by kernel_rfl) (by kernel_rfl) .nil) rfl) r1 qz (qf (o_append (sz:=3) (bs:=40) 50 (.mk' Tryz.underlying22 (by kernel_rfl) (by kernel_rfl)) (by intro x;rfl) .is (.arr (l':=[(Go.Gm.nth g.txs i)]) .t) (by simp only [List.length_append,List.length_cons,List.length_nil];omega) (by decide)) ⟨rfl,rfl,trivial⟩ ⟨rfl,trivial⟩ (qg 0 103 r1 r1 (qf (Zaz 103 .adr (by kernel_rfl) (by kernel_rfl)) r2 r1 qZ)))))))) hB [11,10,9,3,2,1] [104,103,102,101,50,0] (fun _=>rfl) (fun _=>rfl) fun τ a w F hS=>?_
  try dsimp only [RS.sub,SF.sub,CF.sub,csub,Anc.sub,List.map,Zg,xL,xM,Nat.reduceAdd,xD,xE,xT,xU,xC,xN,zCF,ldSF,Zo,rTx,Zz,ZQ,rInt,rOp] at hS
  generalize τ 20=v20 at hS
  refine Zh (Zb ?_)
  refine Za hS (qp r1 (qM rfl rfl qZ)) hB [11,10,9,3,2,1] [104,103,102,101,50,0] rfl rfl fun a w F hS=>Zb ?_
  replace hS:=hS.ent (i:=11) (s':=.pv (.int .i64 ((i+1:Nat):Int))) rfl (.int (wrap_succ (by omega)))
  obtain ⟨F,hS⟩:=hS.nm [10,9,3,2,1,11] [102,101,0,50,103] rfl rfl
  exact ⟨((i+1),_,_),F,⟨by omega,(by rw [ZF hil,← hq])⟩,hS,by omega⟩
 have hil:i=g.txs.length:=by simp at hc0;omega
 have hqa:oa=g.txs:=by rw [hq,hil,List.take_length]
 subst hqa
 refine wp_exit (Zi (Zi (Zl (Zb (wp_seq (wp_seq ?_))))))
 refine Za hS (qg 1 101 r1 r1 (qa 101 r1 r1 (qu Tryz.underlying23 r1 (qJ qZ)))) hB [26,25,24,3,2] [103,102,101,50,0] rfl rfl fun a w F hS=>Zb (wp_block ?_)
 replace hS:=hS.fresh 51 rfl
 replace hS:=hS.turn 51 rfl (Zbh (T:=41) (sz:=2) (R:=Zz))
 refine Zp (σ:=(Nat)×(Value)×(List OrdD)) [2,3,24,25] [0,50,101,102] (fun s=>[(26,.pv (.int .i64 (s.1:Int)))]) (fun s=>[(103,.pt (.val v3) 25 [.pv (.is va),.pv (.is s.2.1)]),(51,.ob (.val s.2.1) (Zu 41 2 Zz s.2.2))]) (fun s=>s.1≤g.orders.length∧(s.2.2=g.orders.take s.1)) (fun s=>g.orders.length - s.1) ((0),(.slice none 0 0),([])) hS ⟨rfl,rfl,rfl,rfl,rfl,trivial⟩ ⟨rfl,rfl,rfl,rfl,rfl,rfl,trivial⟩ ⟨Nat.zero_le _,rfl⟩ ?_
 clear hS;intro s a w F hC hS
 obtain ⟨i,vb,ob⟩:=s
 try dsimp only at hC
 obtain ⟨F,hS⟩:=hS.nm [26,25,24,3,2] [103,102,101,51,50,0] rfl rfl
 try dsimp only at hS
 obtain ⟨hi,hq⟩:=hC
 have hol:ob.length≤i:=by rw [hq,List.length_take];omega
 refine wp_seq ?_
 refine Za hS (qL r2) hB [27,26,25,24,3,2] [103,102,101,51,50,0] rfl rfl fun a w F hS=>Zb (wp_seq ?_)
 refine Zd hS rfl (fun hc1=>?_) (fun hc1=>?_)
 ·skip
  have hil:i<g.orders.length:=by simp at hc1;omega
  have hio:=hil
  refine wp_skip (Zb (wp_seq (wp_block (wp_seq ?_))))
  refine Zc hS (qy 2 Tryz.underlying23 r2 (qf (oR true 2 .t) r1 qz (qf (oH [.int .i64 0,.slice none 0 0] 105) trivial qz (qS 2 105 r2 r1 qZ)))) hB [26,25,24,7,3,2] [105,103,102,101,51,50,0] (fun _=>rfl) (fun _=>rfl) fun τ a w F hS=>?_
  try dsimp only [RS.sub,SF.sub,CF.sub,csub,Anc.sub,List.map,Zg,xL,xM,Nat.reduceAdd,xD,xE,xT,xU,xC,xN,zCF,ldSF,Zo,rTx,Zz,ZQ,rInt,rOp] at hS
  generalize τ 7=v7 at hS
  try simp only [Int.toNat_natCast] at hS
  refine Zb ?_
  refine ZdF hS (qg 1 103 r1 r1 (qa 103 r1 r1 (qg 0 105 r1 r1 (qa 105 r1 r1 (qg 1 105 r1 r1 (qa 105 r1 r1 (qf (oP (ZiA (Go.Gm.nth g.orders i).txs (by have:=hs.2.at hio;omega)) Tryz.func64 (Args.one .t)) r1 qz (qf (oB [(0,.tmp 33),(1,.tmp 36)] [.int .i64 0,.slice none 0 0] [(0,1),(1,1)] (.one rfl .t one_int (by kernel_rfl) (.one rfl .t one_sl (by kernel_rfl) .nil))) r2 qz (qf (Zk (sz:=2) (zs:=[.int .i64 0,.slice none 0 0]) (r:=[(0,.tmp 37)]) (l:=[_,_]) Tryz.underlying23 (by kernel_rfl) (by kernel_rfl) (by kernel_rfl) (by kernel_rfl) rfl rfl (.agg rfl .t (by kernel_rfl) (by kernel_rfl) .nil) rfl) r1 qz (qf (o_append (sz:=2) (bs:=32) 51 (.mk' Tryz.underlying23 (by kernel_rfl) (by kernel_rfl)) (by intro x;rfl) .is (.arr (l':=[(Go.Gm.nth g.orders i)]) .t) (by simp only [List.length_append,List.length_cons,List.length_nil];omega) (by decide)) ⟨rfl,rfl,trivial⟩ ⟨rfl,trivial⟩ (qg 1 103 r1 r1 (qf (Zaz 103 .adr (by kernel_rfl) (by kernel_rfl)) r2 r1 qZ)))))))))))) hB [26,25,24,3,2] [105,103,102,101,51,50,0] (fun _=>rfl) (fun _=>rfl) fun τ a w F hS=>?_
  try dsimp only [RS.sub,SF.sub,CF.sub,csub,Anc.sub,List.map,Zg,xL,xM,Nat.reduceAdd,xD,xE,xT,xU,xC,xN,zCF,ldSF,Zo,rTx,Zz,ZQ,rInt,rOp] at hS
  generalize τ 39=v39 at hS
  refine Zh (Zb ?_)
  refine Za hS (qp r1 (qM rfl rfl qZ)) hB [26,25,24,3,2] [105,103,102,101,51,50,0] rfl rfl fun a w F hS=>Zb ?_
  replace hS:=hS.ent (i:=26) (s':=.pv (.int .i64 ((i+1:Nat):Int))) rfl (.int (wrap_succ (by omega)))
  obtain ⟨F,hS⟩:=hS.nm [25,24,3,2,26] [102,101,50,0,51,103] rfl rfl
  exact ⟨((i+1),_,_),F,⟨by omega,(by rw [ZF hil,← hq])⟩,hS,by omega⟩
 have hil:i=g.orders.length:=by simp at hc1;omega
 have hqb:ob=g.orders:=by rw [hq,hil,List.take_length]
 subst hqb
 refine wp_exit (Zi (Zi (Zl (Zb (wp_seq ?_)))))
 refine Za hS (qe 2 103 r1 r1 (qs 2 102 r2 r1 qZ)) hB [2] [103,102,101,51,50,0] rfl rfl fun a w F hS=>Zb (wp_ret ?_)
 have hS:=hS.fresh 1 rfl
 obtain ⟨F,hS⟩:=hS.push 1 51 rfl rfl rfl rfl
 obtain ⟨F,hS⟩:=hS.push 1 50 rfl rfl rfl rfl
 refine Zsz hG hS rfl (.cl 102 true 2 rfl rfl .nil) (.one (.aggU rfl rfl)) rfl
theorem ZqE (l:List Int) (tx:Int) (hl:l.length≤1000000):FnP Tryz.prog 130 [.sl rInt l,.int .i64 tx] (.sl rInt (withO l tx)):=by
 refine FnP.mk Tryz.func130 rfl Tryz.ntmps130 rfl ?_
 intro B a w F hB hfr hS
 have hll:=Sat.lenSl hS (i:=0) rfl
 refine wp_seq ?_
 refine Za hS (qC qZ) hB [4,1,0] [0] rfl rfl fun a w F hS=>Zb (wp_seq ?_)
 replace hS:=hS.fresh 101 rfl
 refine Zc hS (qM rfl rfl (qf (Zbz 101 (Zc2 l hl) Tryz.func64 rfl (by kernel_rfl) (Args.one .t) Za3) r1 r1 (qN rfl rfl qZ))) hB [5,4,1,0] [101,0] (fun _=>rfl) (fun _=>rfl) fun τ a w F hS=>?_
 try dsimp only [RS.sub,SF.sub,CF.sub,csub,Anc.sub,List.map,rInt] at hS
 generalize τ 7=v7 at hS
 refine Zb (wp_seq (wp_seq ?_))
 refine Za hS (qM rfl rfl (qM rfl rfl (qf (oP (Zj0 l tx) Tryz.func160 (Args.two .t .t)) r2 qz qZ))) hB [10,5,4,1] [101,0] rfl rfl fun a w F hS=>Zb ?_
 refine Zd hS rfl (fun hc0=>?_) (fun hc0=>?_)
 ·skip
  have hm:tx ∈ l:=by simpa using hc0
  have hg:l=withO l tx:=(if_pos hm).symm
  refine wp_seq ?_
  refine Za hS (qM rfl rfl (qN rfl rfl qZ)) hB [5,4,1] [101,0] rfl rfl fun a w F hS=>Zb (wp_ret (Ze ?_))
  obtain ⟨F,hS⟩:=hS.give 101 4 rfl rfl
  refine Zm hfr hS rfl rfl rfl (.sl hg)
 have hm:¬ tx ∈ l:=by simpa using hc0
 have hg:l ++ [tx] = withO l tx:=(if_neg hm).symm
 refine wp_skip (Zb (wp_seq ?_))
 refine Zc hS (qM rfl rfl (qM rfl rfl (qf (Zk (sz:=1) (zs:=[.int .i64 0]) (r:=[(0,.tmp 13)]) (l:=[_]) Tryz.underlying39 (by kernel_rfl) (by kernel_rfl) (by kernel_rfl) (by kernel_rfl) rfl rfl (.one rfl .t one_int (by kernel_rfl) .nil) rfl) r1 qz (qf (o_append (sz:=1) (bs:=8) 101 (.mk' Tryz.underlying39 (by kernel_rfl) (by kernel_rfl)) (by intro x;rfl) .is (.arr (l':=[_]) .t) (by simp only [List.length_append,List.length_cons,List.length_nil,List.length_take,List.length_drop];omega) (by decide)) ⟨rfl,rfl,trivial⟩ ⟨rfl,trivial⟩ (qN rfl rfl qZ))))) hB [4] [101,0] (fun _=>rfl) (fun _=>rfl) fun τ a w F hS=>?_
 try dsimp only [RS.sub,SF.sub,CF.sub,csub,Anc.sub,List.map,Zg,xL,xM,Nat.reduceAdd,xD,xE,xT,xU,xC,xN,zCF,rInt] at hS
 generalize τ 15=v15 at hS
 refine Zb (wp_ret ?_)
 obtain ⟨F,hS⟩:=hS.give 101 4 rfl rfl
 refine Zm hfr hS rfl rfl rfl (.sl hg)
theorem Zl8 (x tx:Int):FnP Tryz.prog 162 [.int .i64 x,.ref [.int .i64 tx]] (.bool (decide (x=tx))):=by
 refine FnP.mk Tryz.func162 rfl Tryz.ntmps162 rfl ?_
 intro B a w F hB hfr hS
 refine wp_seq ?_
 refine Za hS qB hB [3,1,0] [0] rfl rfl fun a w F hS=>Zb (wp_seq ?_)
 refine Za hS (qM rfl rfl (qf (oR false 1 .t) r1 qz (qf (o_eql .t .t) r2 qz (qN rfl rfl qZ)))) hB [3] [0] rfl rfl fun a w F hS=>Zb (wp_ret ?_)
 refine Zm hfr hS rfl rfl rfl .refl
theorem Zl5 (l:List Int) (tx:Int) (hl:l.length≤1000000):FnP Tryz.prog 131 [.sl rInt l,.int .i64 tx] (.sl rInt (withoutO l tx)):=by
 refine FnP.mk Tryz.func131 rfl Tryz.ntmps131 rfl ?_
 intro B a w F hB hfr hS
 have hll:=Sat.lenSl hS (i:=0) rfl
 refine wp_seq ?_
 refine Zc hS (qf (ZkG 101 .t one_int) r1 qz (qC qZ)) hB [4,3,0] [101,0] (fun _=>rfl) (fun _=>rfl) fun τ a w F hS=>?_
 try dsimp only [RS.sub,SF.sub,CF.sub,csub,Anc.sub,List.map,zCF,rInt] at hS
 generalize τ 3=v3 at hS
 obtain ⟨F,hS⟩:=hS.giveRef 101 3 rfl rfl rfl
 obtain ⟨F,hS⟩:=hS.nm [4,3,0] [0] rfl rfl
 try dsimp only [Go.Gm.unCF] at hS
 refine Zb (wp_seq ?_)
 replace hS:=hS.fresh 102 rfl
 refine Zdy hS (by kernel_rfl) (nM rfl rfl (nf (Zbz 102 (Zc2 l hl) Tryz.func64 rfl (by kernel_rfl) (Args.one .t) Za3) r1 r1 (nn [6,4,3] [102,0] rfl rfl (nf (ZbU (Args.one .t)) r1 trivial (nf (ZkX 6 102 (fun v=>ZqN _ l hl (fun x=>decide (x=tx)) 162 Tryz.f162 [.ref [.int .i64 tx]] Tryz.func162 rfl (by kernel_rfl) (fun x=>Zl8 x tx)) Tryz.func161 rfl (by kernel_rfl) (Zhr.two .same (.of .t)) Za3) r2 r1 (nn [8,4] [102,0] rfl rfl (nN rfl rfl ZP.nil))))))) (by kernel_rfl) (by rw [hB];kernel_rfl) fun a w F hS=>?_
 replace hS:=hS.sub
 obtain ⟨F,hS⟩:=hS.nm [4] [102,0] rfl rfl
 try dsimp only [RS.sub,SF.sub,CF.sub,csub,Anc.sub,List.map,rInt] at hS
 generalize Act.tau a 8=v8 at hS
 refine Zb (wp_ret ?_)
 obtain ⟨F,hS⟩:=hS.give 102 4 rfl rfl
 refine Zm hfr hS rfl rfl rfl (.sl (by simp [withoutO]))
theorem ZiX {α:Type} [Inhabited α] {p:α→Bool} {l:List α} : decide (0≤Z9 p l)=l.any p:=by
 rcases Zar p l with ⟨h1,h2⟩ | ⟨i,h1,h2,h3,h4⟩
 · rw [h1,eq_comm,show decide ((0:Int) ≤ -1)=false by decide,List.any_eq_false]
   intro x hx
   obtain ⟨k,hk,e⟩:=List.getElem_of_mem hx
   have:=h2 k hk
   rw [Zn hk,e] at this
   simp [this]
 · rw [h1,show decide ((0:Int)≤(i:Int))=true by simp,eq_comm,List.any_eq_true]
   exact ⟨_,ZB h2,h3⟩
theorem ZrP {α:Type} {p:α→Bool} {l:List α} : (!l.any fun v=>!p v)=l.all p:=by
 induction l with
 | nil=>rfl
 | cons x l ih=>rw [List.any_cons,List.all_cons,← ih];cases p x <;> simp
theorem Zrs (l : List ZbQ) (p : ZbQ → Bool) (f : FuncId) (fn : Func) (cps : List PV) (hf : Tryz.prog.funcs[f]? = some fn) (hb : fn.body.isSome = true) (hnn : (fn.name == "runtime.NumGoroutine") = false) (hw : ∀ x, FnP Tryz.prog f (.agg (ZQ x) :: cps) (.bool (p x))) : FnP Tryz.prog 106 [.sl ZQ l, .clos f cps] (.int .i64 (Z9 p l)) := by
 refine FnP.mk Tryz.func106 rfl Tryz.ntmps106 rfl ?_
 intro B a w F hB hfr hS
 have hll:=Sat.lenSl hS (i:=0) rfl
 refine wp_seq ?_
 refine Za hS (qI qZ) hB [4,1,0] [0] rfl rfl fun a w F hS=>Zb (wp_seq (wp_seq ?_))
 refine Za hS (qM rfl rfl (qu Tryz.underlying103 r1 (qJ qZ))) hB [8,7,4,1,0] [0] rfl rfl fun a w F hS=>Zb (wp_block ?_)
 refine Zp (σ:=(Nat)) [0,1,4,7] [0] (fun s=>[(8,.pv (.int .i64 (s:Int)))]) (fun s=>[]) (fun s=>s≤l.length∧(∀ k,k<s→p (Go.Gm.nth l k)=false)) (fun s=>l.length - s) (0) hS ⟨rfl,rfl,rfl,rfl,rfl,trivial⟩ ⟨rfl,trivial⟩ ⟨Nat.zero_le _,fun k hk=>absurd hk (Nat.not_lt_zero k)⟩ ?_
 clear hS;intro i a w F hC hS
 try dsimp only at hC
 obtain ⟨F,hS⟩:=hS.nm [8,7,4,1,0] [0] rfl rfl
 try dsimp only at hS
 obtain ⟨hi,hq⟩:=hC
 refine wp_seq ?_
 refine Za hS (qL r2) hB [9,8,7,4,1,0] [0] rfl rfl fun a w F hS=>Zb (wp_seq ?_)
 refine Zd hS rfl (fun hc0=>?_) (fun hc0=>?_)
 ·skip
  have hil:i<l.length:=by simp at hc0;omega
  refine wp_skip (Zb (wp_seq (wp_block (wp_seq ?_))))
  refine Za hS (qM rfl rfl (qN rfl rfl qZ)) hB [8,7,5,4,1,0] [0] rfl rfl fun a w F hS=>Zb (wp_seq ?_)
  refine Za hS (qM rfl rfl (qM rfl rfl (qM rfl rfl (qy 3 Tryz.underlying103 r2 (qf (oR true 3 .t) r1 qz (qf (ZM (avs:=[.agg (ZQ (Go.Gm.nth l i))]) .t (hw (Go.Gm.nth l i)) hf hb hnn (Args.one (.pagg .t))) r2 qz qZ)))))) hB [16,8,7,5,4,1,0] [0] rfl rfl fun a w F hS=>?_
  try simp only [Int.toNat_natCast] at hS
  refine Zb ?_
  refine Zd hS rfl (fun hc1=>?_) (fun hc1=>?_)
  ·skip
   have hg:(i:Int)=Z9 p l:=(ZcT hil hc1 hq).symm
   refine wp_seq ?_
   refine Za hS (qM rfl rfl (qN rfl rfl qZ)) hB [8,7,4,1,0] [0] rfl rfl fun a w F hS=>Zb (wp_ret (Zf (Ze (Ze (Zf (Ze ?_))))))
   refine Zm hfr hS rfl rfl rfl (.int hg)
  have hne:p (Go.Gm.nth l i)=false:=hc1
  refine wp_skip (Zh (Zb ?_))
  refine Za hS (qp r1 (qM rfl rfl qZ)) hB [8,7,4,1,0] [0] rfl rfl fun a w F hS=>Zb ?_
  replace hS:=hS.ent (i:=8) (s':=.pv (.int .i64 ((i+1:Nat):Int))) rfl (.int (wrap_succ (by omega)))
  obtain ⟨F,hS⟩:=hS.nm [7,4,1,0,8] [0] rfl rfl
  exact ⟨(i+1),F,⟨by omega,(fun k hk=>by rcases Nat.lt_or_eq_of_le (Nat.le_of_lt_succ hk) with h | h;exact hq k h;rw [h];exact hne)⟩,hS,by omega⟩
 have hil:i=l.length:=by simp at hc0;omega
 have hg : -1=Z9 p l:=(ZbD fun k hk=>hq k (by simp at hc0;omega)).symm
 refine wp_exit (Zi (Zi (Zl (Zb (wp_seq ?_)))))
 refine Za hS (qI qZ) hB [4] [0] rfl rfl fun a w F hS=>Zb (wp_ret ?_)
 refine Zm hfr hS rfl rfl rfl (.int hg)
theorem ZqP (l : List ZbQ) (p : ZbQ → Bool) (f : FuncId) (fn : Func) (cps : List PV) (hf : Tryz.prog.funcs[f]? = some fn) (hb : fn.body.isSome = true) (hnn : (fn.name == "runtime.NumGoroutine") = false) (hw : ∀ x, FnP Tryz.prog f (.agg (ZQ x) :: cps) (.bool (p x))) : FnP Tryz.prog 59 [.sl ZQ l, .clos f cps] (.bool (l.any p)) := by
 refine FnP.mk Tryz.func59 rfl Tryz.ntmps59 rfl ?_
 intro B a w F hB hfr hS
 refine wp_seq ?_
 refine Za hS qB hB [4,1,0] [0] rfl rfl fun a w F hS=>Zb (wp_seq ?_)
 refine Za hS (qM rfl rfl (qM rfl rfl (qf (oP (Zrs l p f fn cps hf hb hnn hw) Tryz.func106 (Args.two .t .t)) r2 qz (qf (ZdO .t qi) r1 qz (qN rfl rfl qZ))))) hB [4] [0] rfl rfl fun a w F hS=>Zb (wp_ret ?_)
 refine Zm hfr hS rfl rfl rfl (.bool (by rw [ZiX]))
theorem ZnS (v:ZbQ) (g:HistD) (hs:ZbG g.txs):FnP Tryz.prog 61 [.agg (ZQ v),.ref (Zo g)] (.bool (!Zgv g v)):=by
 refine FnP.mk Tryz.func61 rfl Tryz.ntmps61 rfl ?_
 intro B a w F hB hfr hS
 refine wp_seq ?_
 refine Zc hS (qx 101 r1 qB) hB [3,2,1] [101,0] (fun _=>rfl) (fun _=>rfl) fun τ a w F hS=>?_
 try dsimp only [RS.sub,SF.sub,CF.sub,csub,Anc.sub,List.map,zCF,Zo,rTx,Zz,ZQ,rInt,rOp] at hS
 generalize τ 2=v2 at hS
 refine Zb (wp_seq ?_)
 refine Za hS (qf (oR true 2 .t) r1 qz (qe 3 101 r1 r1 (qf (oP (ZsW g v hs) Tryz.func62 (Args.two (.pagg .t) (.pagg .t))) r2 qz (qf (o_not .t) r1 qz (qN rfl rfl qZ))))) hB [3] [101,0] rfl rfl fun a w F hS=>Zb (wp_ret ?_)
 refine Zm hfr hS rfl rfl rfl .refl
theorem ZkJ (g:HistD) (t:TxD) (hs:ZbG g.txs) (ht:t.ops.length≤1000):FnP Tryz.prog 24 [.agg (Zo g),.agg (rTx t)] (.bool (Zbi g t)):=by
 refine FnP.mk Tryz.func24 rfl Tryz.ntmps24 rfl ?_
 intro B a w F hB hfr hS
 refine wp_seq ?_
 refine Zc hS (qx 101 r1 (qx 102 r1 qB)) hB [4,3,2] [102,101,0] (fun _=>rfl) (fun _=>rfl) fun τ a w F hS=>?_
 try dsimp only [RS.sub,SF.sub,CF.sub,csub,Anc.sub,List.map,zCF,Zo,rTx,Zz,ZQ,rInt,rOp] at hS
 generalize τ 2=v2 at hS
 generalize τ 3=v3 at hS
 refine Zb (wp_seq ?_)
 refine ZcW 2 hS (by kernel_rfl) (cG rfl (oL true 3 102 .is) r1 r1 (cG rfl (oP (ZiE t (by omega)) Tryz.func60 (Args.one (.pagg .t))) r1 trivial ZP.nil)) (by kernel_rfl) (by rw [hB];kernel_rfl) fun a w F hS=>?_
 obtain ⟨F,hS⟩:=hS.nm [6,4,2] [102,101,0] rfl rfl
 try dsimp only [List.map,xD,xE,xT,xU,ldSF,Zo,rTx,Zz,ZQ,rInt,rOp] at hS
 obtain ⟨F,hS⟩:=hS.giveRef 101 2 rfl rfl rfl
 obtain ⟨F,hS⟩:=hS.nm [6,4,2] [102,0] rfl rfl
 try dsimp only [Go.Gm.unCF] at hS
 refine Zd0 hS (by kernel_rfl) (cG rfl (ZbU (Args.one .t)) r1 trivial (cG rfl (oP (ZqP (Zas t) (fun v=>!Zgv g v) 61 Tryz.f61 [.ref (Zo g)] Tryz.func61 rfl (by kernel_rfl) (fun v=>ZnS v g hs)) Tryz.func59 (Args.two .t .t)) r2 trivial (cG rfl (o_not .t) r1 trivial (cG rfl (oN .t) r1 trivial ZP.nil)))) (by kernel_rfl) (by rw [hB];kernel_rfl) fun a w F hS=>?_
 obtain ⟨F,hS⟩:=hS.nm [4] [102,0] rfl rfl
 try dsimp only [Zo,rTx,Zz,ZQ,rInt,rOp] at hS
 refine Zb (wp_ret ?_)
 refine Zm hfr hS rfl rfl rfl (.bool (by rw [ZrP];rfl))
def ZeO (os:List OrdD) (k:Int):List OrdD:=if isK OrdD.key k os=true then os else os.take (lowK OrdD.key k os) ++ [⟨k,[]⟩] ++ os.drop (lowK OrdD.key k os)
def Zjs (k:Int):List OrdD→List OrdD
 | []=>[⟨k,[]⟩]
 | o :: os=>if o.key<k then o :: Zjs k os else if o.key=k then o :: os else ⟨k,[]⟩ :: o :: os
theorem Zjv {α:Type} {κ:α→Int} {k:Int} (l:List α):lowK κ k l≤l.length:=by
 unfold lowK
 exact (List.takeWhile_sublist _).length_le
theorem Zs {α:Type} [Inhabited α] {κ:α→Int} {l:List α} : ZbP κ l ↔ l.Pairwise fun a b=>κ a<κ b:=by
 rw [List.pairwise_iff_getElem]
 constructor
 · intro h i j hi hj hij
   have:=h i j hij hj
   rwa [Zn hi,Zn hj] at this
 · intro h a b hab hb
   rw [Zn (by omega),Zn hb]
   exact h a b (by omega) hb hab
theorem Zh0 (k:Int):∀ {os:List OrdD},ZbP OrdD.key os→ZeO os k=Zjs k os
 | [],_=>rfl
 | o :: os,h=>by
   rw [Zs,List.pairwise_cons] at h
   have ih:=Zh0 k (os:=os) (Zs.2 h.2)
   have e1:lowK OrdD.key k (o :: os)=if o.key<k then lowK OrdD.key k os+1 else 0:=by
     unfold lowK
     split
     · rename_i h1
       rw [List.takeWhile_cons_of_pos (by simpa using h1),List.length_cons]
     · rename_i h1
       rw [List.takeWhile_cons_of_neg (by simpa using h1)];rfl
   have e2:isK OrdD.key k (o :: os)=(decide (o.key=k) || isK OrdD.key k os):=by unfold isK;rw [List.any_cons]
   by_cases h1:o.key<k
   · rw [if_pos h1] at e1
     have e3:isK OrdD.key k (o :: os)=isK OrdD.key k os:=by rw [e2,decide_eq_false (by omega),Bool.false_or]
     unfold ZeO at ih ⊢
     unfold Zjs
     rw [if_pos h1,e3,e1]
     split
     · rename_i h2;rw [if_pos h2] at ih;exact congrArg (o :: ·) ih
     · rename_i h2;rw [if_neg h2] at ih;rw [← ih];simp
   · rw [if_neg h1] at e1
     unfold ZeO Zjs
     rw [if_neg h1,e1]
     by_cases h3:o.key=k
     · rw [if_pos h3,if_pos (by rw [e2,decide_eq_true h3,Bool.true_or])]
     · rw [if_neg h3,if_neg]
       · simp
       · rw [e2,decide_eq_false h3,Bool.false_or]
         unfold isK
         rw [List.any_eq_true]
         rintro ⟨x,hx,hk⟩
         have:=h.1 x hx
         simp at hk
         omega
theorem ZlF {k:Int} {o:OrdD} : ∀ {os:List OrdD},o ∈ Zjs k os→o ∈ os∨o = ⟨k,[]⟩
 | [],h=>by simp [Zjs] at h;exact .inr h
 | x :: os,h=>by
   unfold Zjs at h
   split at h
   · rcases List.mem_cons.1 h with h | h
     · exact .inl (by simp [h])
     · rcases ZlF h with h | h
       · exact .inl (by simp [h])
       · exact .inr h
   · split at h
     · exact .inl h
     · rcases List.mem_cons.1 h with h | h
       · exact .inr h
       · exact .inl h
theorem Ziu {k:Int} : ∀ {os:List OrdD},(os.Pairwise fun a b=>a.key<b.key)→(Zjs k os).Pairwise fun a b=>a.key<b.key
 | [],_=>by simp [Zjs]
 | x :: os,h=>by
   rw [List.pairwise_cons] at h
   unfold Zjs
   split
   · rename_i h1
     rw [List.pairwise_cons]
     refine ⟨fun o ho=>?_,Ziu h.2⟩
     rcases ZlF ho with h3 | h3
     · exact h.1 o h3
     · rw [h3];exact h1
   · split
     · rw [List.pairwise_cons];exact h
     · rw [List.pairwise_cons,List.pairwise_cons]
       refine ⟨fun o ho=>?_,h⟩
       rcases List.mem_cons.1 ho with h3 | h3
       · rw [h3];show k<x.key;omega
       · have:=h.1 o h3;show k<o.key;omega
theorem insK_rise {os:List OrdD} (k:Int) (h:ZbP OrdD.key os):ZbP OrdD.key (ZeO os k):=by
 rw [Zh0 k h,Zs]
 exact Ziu (Zs.1 h)
theorem ZkH (os:List OrdD) (k:Int):(ZeO os k).length≤os.length+1:=by
 unfold ZeO
 split
 · omega
 · rw [List.length_append,List.length_append,List.length_take,List.length_drop];simp;omega
theorem Zlk {os:List OrdD} {k:Int} {o:OrdD} (h:o ∈ ZeO os k):o ∈ os∨o = ⟨k,[]⟩:=by
 unfold ZeO at h
 split at h
 · exact .inl h
 · rw [List.mem_append,List.mem_append] at h
   rcases h with (h | h) | h
   · exact .inl (List.mem_of_mem_take h)
   · exact .inr (by simpa using h)
   · exact .inl (List.mem_of_mem_drop h)
def Zdj (t:TxD) (os:List OrdD) (ks:List Int):List OrdD:=if t.done=true then ks.foldl ZeO os else os
theorem ZgJ {t:TxD} {os:List OrdD} (h:ZbP OrdD.key os) (hs:Zda os) (ks:List Int):ZbP OrdD.key (Zdj t os ks)∧(Zdj t os ks).length≤os.length+ks.length ∧ ∀ o ∈ Zdj t os ks,o.txs.length≤1000:=by
 unfold Zdj
 split
 · have key:∀ (ks:List Int) (os:List OrdD),ZbP OrdD.key os→(∀ o ∈ os,o.txs.length≤1000)→ZbP OrdD.key (ks.foldl ZeO os)∧(ks.foldl ZeO os).length≤os.length+ks.length ∧ ∀ o ∈ ks.foldl ZeO os,o.txs.length≤1000:=by
     intro ks
     induction ks with
     | nil=>intro os h1 h2;exact ⟨h1,by simp,h2⟩
     | cons k ks ih=>
       intro os h1 h2
       obtain ⟨g1,g2,g3⟩:=ih (ZeO os k) (insK_rise k h1) (fun o ho=>by
         rcases Zlk ho with h | h
         · exact h2 o h
         · rw [h];simp)
       have:=ZkH os k
       exact ⟨g1,by rw [List.foldl_cons,List.length_cons];omega,g3⟩
   exact key ks os h hs.2
 · exact ⟨h,by omega,hs.2⟩
theorem ZmM {t:TxD} {os:List OrdD} {ks:List Int} {i:Nat} (hi:i<ks.length) (hc:t.done=true∧isK OrdD.key (Go.Gm.nth ks i) (Zdj t os (ks.take i))=false) :
   (Zdj t os (ks.take i)).take (lowK OrdD.key (Go.Gm.nth ks i) (Zdj t os (ks.take i))) ++ [⟨Go.Gm.nth ks i,[]⟩] ++ (Zdj t os (ks.take i)).drop (lowK OrdD.key (Go.Gm.nth ks i) (Zdj t os (ks.take i)))=Zdj t os (ks.take (i+1)):=by
 have e:Zdj t os (ks.take (i+1))=ZeO (Zdj t os (ks.take i)) (Go.Gm.nth ks i):=by
   unfold Zdj
   rw [if_pos hc.1,if_pos hc.1,ZF hi,List.foldl_append];rfl
 rw [e];unfold ZeO;rw [if_neg (by rw [hc.2];simp)]
theorem ZmW {t:TxD} {os:List OrdD} {ks:List Int} {i:Nat} (hi:i<ks.length) (hc:¬ (t.done=true∧isK OrdD.key (Go.Gm.nth ks i) (Zdj t os (ks.take i))=false)):Zdj t os (ks.take i)=Zdj t os (ks.take (i+1)):=by
 unfold Zdj at hc ⊢
 by_cases hd:t.done=true
 · rw [if_pos hd] at hc
   rw [if_pos hd,if_pos hd,ZF hi,List.foldl_append]
   have hx:∀ X k,isK OrdD.key k X=true→ZeO X k=X:=fun X k h=>by unfold ZeO;rw [if_pos h]
   show _=ZeO _ _
   rw [hx]
   cases h:isK OrdD.key (Go.Gm.nth ks i) ((ks.take i).foldl ZeO os) with
   | true=>rfl
   | false=>exact absurd ⟨hd,h⟩ hc
 · rw [if_neg hd,if_neg hd]
def ZjV (t:TxD) (o:OrdD):OrdD:=⟨o.key,if t.done=true∧0<wcnt t.ops o.key then withO o.txs t.id else withoutO o.txs t.id⟩
def settleO (t:TxD) (os:List OrdD):List OrdD:=((Zdj t os (ZY t)).map (ZjV t)).filter fun o=>!decide (o.txs = [])
theorem Zsr {α:Type} [Inhabited α] {f:α→α} {l l2:List α} {i:Nat} (hi:i<l.length) (h:l2=(l.take i).map f++l.drop i):Go.Gm.nth l2 i=Go.Gm.nth l i∧l2.length=l.length:=by
 have h2:l2.length=l.length:=by rw [h,List.length_append,List.length_map,List.length_take,List.length_drop];omega
 refine ⟨?_,h2⟩
 rw [Zn (by omega),Zn hi]
 subst h
 rw [List.getElem_append_right (by rw [List.length_map,List.length_take];omega)]
 simp only [List.length_map,List.length_take,List.getElem_drop]
 congr 1
 omega
theorem Zru {α:Type} [Inhabited α] {f:α→α} {l l2:List α} {i:Nat} (hi:i<l.length) (h:l2=(l.take i).map f++l.drop i):l2.set i (f (Go.Gm.nth l i))=(l.take (i+1)).map f++l.drop (i+1):=by
 have hd:l.drop i=Go.Gm.nth l i :: l.drop (i+1):=by rw [Zn hi];exact List.drop_eq_getElem_cons hi
 rw [h,ZF hi,List.map_append,List.append_assoc,List.set_append_right _ _ (by rw [List.length_map,List.length_take];omega)]
 congr 1
 have:i - ((l.take i).map f).length=0:=by rw [List.length_map,List.length_take];omega
 rw [this,hd];rfl
abbrev Zl1 (T TR:TypeId) (p va:Value) (os:List OrdD):HP:=HP.ex fun vb:Value=>HP.star [.pt (.val p) T [.pv (.is va),.pv (.is vb)],.ob (.val vb) (Zu TR 2 Zz os)]
theorem ZqW {k:IntKind} {a:Int} {b:Bool} (v:Value) (w:World) (y y':Ys) (h:(PV.tup [.int k a,.bool b]).p v w y):(PV.tup [.int k a,.bool b]).p v w y':=by
 obtain ⟨vs,e,h⟩:=h
 match vs,h with
 | [_,_],h=>exact ⟨_,e,h⟩
theorem entArr {α:Type} {R:α→List PV} {l:List PV} {l':List α} (h:Nat.ble l'.length maxLen=true) (e:ZdN l (l'.flatMap R)):Ent (.pv (.arr l'.length l)) (.pv (.sl R l')):=fun _ w y v k=>PVLe.arrSl h e v w y k
theorem ZnP (o:OrdD):FnP Tryz.prog 133 [.agg (Zz o)] (.bool (decide (o.txs = []))):=by
 refine FnP.mk Tryz.func133 rfl Tryz.ntmps133 rfl ?_
 intro B a w F hB hfr hS
 refine wp_seq ?_
 refine Zc hS (qx 101 r1 qB) hB [2,1] [101,0] (fun _=>rfl) (fun _=>rfl) fun τ a w F hS=>?_
 try dsimp only [RS.sub,SF.sub,CF.sub,csub,Anc.sub,List.map,zCF,Zz,rInt] at hS
 generalize τ 1=v1 at hS
 refine Zb (wp_seq ?_)
 refine Za hS (qg 1 101 r1 r1 (qa 101 r1 r1 (qu Tryz.underlying39 r1 (qf (o_eql .t qi) r1 qz (qN rfl rfl qZ))))) hB [2] [0] rfl rfl fun a w F hS=>Zb (wp_ret ?_)
 refine Zm hfr hS rfl rfl rfl (.bool (by rw [Bool.eq_iff_iff];simp))
theorem ZhV (p va:Value) (os:List OrdD) (t:TxD) (hs:Zda os) (hr:ZbP OrdD.key os) (ht:t.ops.length≤1000):FnG Tryz.prog 96 1 [.is p,.agg (rTx t)] [Zl1 25 41 p va os] (.tup []) (fun _=>[Zl1 25 41 p va (settleO t os)]):=by
 refine FnG.mk Tryz.func96 rfl Tryz.ntmps96 rfl (by kernel_rfl) ?_
 intro B F0 a w F hB hG hS
 have hso:=hs.1
 have hkl:=Zcz t
 replace hS:=hS.turn 1 rfl (r':=RS.hp (HP.ex fun vb:Value=>HP.star [.pt (.val p) 25 [.pv (.is va),.pv (.is vb)],.ob (.val vb) (Zu 41 2 Zz os)])) (fun _ _ _ _ h=>h)
 obtain ⟨vb0,hS⟩:=hS.open_ex 1 rfl
 obtain ⟨F,hS⟩:=hS.peel 1 61 rfl rfl
 obtain ⟨F,hS⟩:=hS.peel 1 62 rfl rfl
 obtain ⟨F,hS⟩:=hS.nm [1,0] [62,61,1,0] rfl rfl
 refine wp_seq ?_
 refine Zc hS (qx 101 r1 qZ) hB [3,0] [101,62,61,1,0] (fun _=>rfl) (fun _=>rfl) fun τ a w F hS=>?_
 try dsimp only [RS.sub,SF.sub,CF.sub,csub,Anc.sub,List.map,zCF,Zo,rTx,Zz,ZQ,rInt,rOp] at hS
 generalize τ 3=v3 at hS
 refine Zb (wp_seq (wp_seq ?_))
 refine Za hS (qe 3 101 r1 r1 (qf (oP (ZmU t (by omega)) Tryz.func63 (Args.one (.pagg .t))) r1 qz (qu Tryz.underlying39 r1 (qJ qZ)))) hB [13,12,11,3,0] [101,62,61,1,0] rfl rfl fun a w F hS=>?_
 rw [show Zdh ((t.ops.filter fun o=>!o.read).map OpD.key)=ZY t from rfl] at hS
 refine Zb (wp_block ?_)
 refine Zp (σ:=(Nat)×(Value)×(List OrdD)) [0,3,11,12] [0,1,101] (fun s=>[(13,.pv (.int .i64 (s.1:Int)))]) (fun s=>[(61,.pt (.val p) 25 [.pv (.is va),.pv (.is s.2.1)]),(62,.ob (.val s.2.1) (Zu 41 2 Zz s.2.2))]) (fun s=>s.1≤(ZY t).length∧(s.2.2=Zdj t os ((ZY t).take s.1))) (fun s=>(ZY t).length - s.1) ((0),(vb0),(os)) hS ⟨rfl,rfl,rfl,rfl,rfl,trivial⟩ ⟨rfl,rfl,rfl,rfl,rfl,trivial⟩ ⟨Nat.zero_le _,(by unfold Zdj;split <;> rfl)⟩ ?_
 clear hS;intro s a w F hC hS
 obtain ⟨i,vb,ol⟩:=s
 try dsimp only at hC
 obtain ⟨F,hS⟩:=hS.nm [13,12,11,3,0] [101,62,61,1,0] rfl rfl
 try dsimp only at hS
 obtain ⟨hi,hq⟩:=hC
 obtain ⟨hf1,hf2,hf3⟩:=ZgJ (t:=t) hr hs ((ZY t).take i)
 rw [List.length_take,← hq] at hf2
 rw [← hq] at hf1 hf3
 have hst:=fun h=>ZmM (t:=t) (os:=os) (ks:=(ZY t)) (i:=i) h
 have hsk:=fun h=>ZmW (t:=t) (os:=os) (ks:=(ZY t)) (i:=i) h
 rw [← hq] at hst hsk
 have hlk:=Zjv (κ:=OrdD.key) (k:=(Go.Gm.nth (ZY t) i)) ol
 refine wp_seq ?_
 refine Za hS (qL r2) hB [14,13,12,11,3,0] [101,62,61,1,0] rfl rfl fun a w F hS=>Zb (wp_seq ?_)
 refine Zd hS rfl (fun hc0=>?_) (fun hc0=>?_)
 ·skip
  have hil:i<(ZY t).length:=by simp at hc0;omega
  have hio:=hil
  refine wp_skip (Zb (wp_seq (wp_block (wp_seq ?_))))
  refine Za hS (qy 1 Tryz.underlying39 r2 (qf (oR false 1 .t) r1 qz (qN rfl rfl qZ))) hB [13,12,11,5,3,0] [101,62,61,1,0] rfl rfl fun a w F hS=>?_
  try simp only [Int.toNat_natCast] at hS
  refine Zb (wp_seq ?_)
  refine Za hS (qM rfl rfl (qf (o_nilCheck 61 .is (by rfl)) r1 r1 (qf (oF 1 61 .adr) r1 r1 (qa 61 r1 r1 (qM rfl rfl (qf (OpC.lendRow 62 [21] (oP (Zsu ol (Go.Gm.nth (ZY t) i) (by omega) hf1 128 Tryz.f128 [] Tryz.func128 rfl (by kernel_rfl) (fun x=>Zm1 x (Go.Gm.nth (ZY t) i))) Tryz.func127 (Args.three .t .t (.conv .f (Ent.fnClos)))) ⟨rfl,trivial,trivial⟩ (.pv ZqW) trivial (by rfl)) r2 r1 (qM rfl rfl (qf (o_extract .t rfl) r1 qz (qf (o_extract .t rfl) r1 qz (qN rfl rfl (qN rfl rfl qZ))))))))))) hB [13,12,11,7,6,5,3,0] [101,62,61,1,0] rfl rfl fun a w F hS=>Zb (wp_seq ?_)
  refine Za hS (qg 1 101 r1 r1 (qa 101 r1 r1 (qM rfl rfl (qm rfl rfl rfl rfl (qk rfl (fun h=>o_not (.w h)) r2 qz (qf (ZI .t .t) r2 qz qZ)))))) hB [31,13,12,11,6,5,3,0] [101,62,61,1,0] rfl rfl fun a w F hS=>Zb ?_
  refine Zd hS rfl (fun hc1=>?_) (fun hc1=>?_)
  ·skip
   have hq9:=hst hio (by simpa using hc1)
   refine Zc hS (qM rfl rfl (qM rfl rfl (qf (o_nilCheck 61 .is (by rfl)) r1 r1 (qf (oF 1 61 .adr) r1 r1 (qa 61 r1 r1 (qM rfl rfl (qM rfl rfl (qf (oB [(0,.tmp 38)] [.int .i64 0,.slice none 0 0] [(0,1),(1,1)] (.one rfl .t one_int (by kernel_rfl) .nil)) r1 qz (qf (Zk (sz:=2) (zs:=[.int .i64 0,.slice none 0 0]) (r:=[(0,.tmp 39)]) (l:=[_,_]) Tryz.underlying23 (by kernel_rfl) (by kernel_rfl) (by kernel_rfl) (by kernel_rfl) rfl rfl (.agg rfl .t (by kernel_rfl) (by kernel_rfl) .nil) rfl) r1 qz (qf (Zbo 62 (Zsv vb ol (lowK OrdD.key (Go.Gm.nth (ZY t) i) ol) ⟨(Go.Gm.nth (ZY t) i),[]⟩ (by omega) hlk) Tryz.func129 rfl (by kernel_rfl) (Args.three .t .t (.conv .t (entArr (l:=[.int .i64 (Go.Gm.nth (ZY t) i),.is (.slice none 0 0)]) (R:=Zz) (l':=[⟨(Go.Gm.nth (ZY t) i),[]⟩]) rfl ⟨PVLe.refl,PVLe.nilSl,trivial⟩))) Za3) r3 r1 (qf (o_nilCheck 61 .is (by rfl)) r1 r1 (qf (oF 1 61 .adr) r1 r1 (qf (Zaz 61 .adr (by kernel_rfl) (by kernel_rfl)) r2 r1 qZ))))))))))))) hB [13,12,11,3,0] [101,62,61,1,0] (fun _=>rfl) (fun _=>rfl) fun τ a w F hS=>?_
   try dsimp only [RS.sub,SF.sub,CF.sub,csub,Anc.sub,List.map,Zg,xL,xM,Nat.reduceAdd,xD,xE,xT,xU,xC,xN,zCF,ldSF,Zo,rTx,Zz,ZQ,rInt,rOp] at hS
   generalize τ 41=v41 at hS
   refine Zh (Zb ?_)
   refine Za hS (qp r1 (qM rfl rfl qZ)) hB [13,12,11,3,0] [101,62,61,1,0] rfl rfl fun a w F hS=>Zb ?_
   replace hS:=hS.ent (i:=13) (s':=.pv (.int .i64 ((i+1:Nat):Int))) rfl (.int (wrap_succ (by omega)))
   obtain ⟨F,hS⟩:=hS.nm [12,11,3,0,13] [101,1,0,62,61] rfl rfl
   exact ⟨((i+1),_,_),F,⟨by omega,hq9⟩,hS,by omega⟩
  have hq9:=hsk hio (by intro e;simp [e.1,e.2] at hc1)
  refine wp_skip (Zh (Zb ?_))
  refine Za hS (qp r1 (qM rfl rfl qZ)) hB [13,12,11,3,0] [101,62,61,1,0] rfl rfl fun a w F hS=>Zb ?_
  replace hS:=hS.ent (i:=13) (s':=.pv (.int .i64 ((i+1:Nat):Int))) rfl (.int (wrap_succ (by omega)))
  obtain ⟨F,hS⟩:=hS.nm [12,11,3,0,13] [101,1,0,62,61] rfl rfl
  exact ⟨((i+1),_,_),F,⟨by omega,hq9⟩,hS,by omega⟩
 have hil:i=(ZY t).length:=by simp at hc0;omega
 have hq0:ol=Zdj t os (ZY t):=by rw [hq,hil,List.take_length]
 refine wp_exit (Zi (Zi (Zl (Zb (wp_seq (wp_seq ?_))))))
 refine Za hS (qM rfl rfl (qf (o_nilCheck 61 .is (by rfl)) r1 r1 (qf (oF 1 61 .adr) r1 r1 (qa 61 r1 r1 (qf (ZZ 62 Tryz.underlying23 .is) r1 r1 (qJ qZ)))))) hB [50,49,3,0] [101,62,61,1,0] rfl rfl fun a w F hS=>Zb (wp_block ?_)
 refine Zp (σ:=(Nat)×(List OrdD)) [0,3,49] [0,1,61,101] (fun s=>[(50,.pv (.int .i64 (s.1:Int)))]) (fun s=>[(62,.ob (.val vb) (Zu 41 2 Zz s.2))]) (fun s=>s.1≤ol.length∧(s.2=(ol.take s.1).map (ZjV t)++ol.drop s.1)) (fun s=>ol.length - s.1) ((0),(ol)) hS ⟨rfl,rfl,rfl,rfl,trivial⟩ ⟨rfl,rfl,rfl,rfl,rfl,trivial⟩ ⟨Nat.zero_le _,(by simp)⟩ ?_
 clear hS;intro s a w F hC hS
 obtain ⟨i,o2⟩:=s
 try dsimp only at hC
 obtain ⟨F,hS⟩:=hS.nm [50,49,3,0] [101,62,61,1,0] rfl rfl
 try dsimp only at hS
 obtain ⟨hi,hq⟩:=hC
 have hm:=fun h=>Zsr (f:=ZjV t) (l:=ol) (i:=i) h hq
 have hms:=fun h=>Zru (f:=ZjV t) (l:=ol) (i:=i) h hq
 refine wp_seq ?_
 refine Za hS (qL r2) hB [51,50,49,3,0] [101,62,61,1,0] rfl rfl fun a w F hS=>Zb (wp_seq ?_)
 refine Zd hS rfl (fun hc2=>?_) (fun hc2=>?_)
 ·skip
  have hil:i<ol.length:=by simp at hc2;omega
  have hio:=hil
  have hol:=hf3 _ (ZB hio)
  have hmn:=(hm hio).1
  have hms2:=hms hio
  have hol2:(Go.Gm.nth o2 i).txs.length≤1000:=by rw [hmn];exact hol
  refine wp_skip (Zb (wp_seq (wp_block (wp_seq ?_))))
  refine Za hS (qM rfl rfl (qN rfl rfl qZ)) hB [50,49,8,3,0] [101,62,61,1,0] rfl rfl fun a w F hS=>Zb (wp_seq ?_)
  refine Za hS (qM rfl rfl (qf (o_nilCheck 61 .is (by rfl)) r1 r1 (qf (oF 1 61 .adr) r1 r1 (qa 61 r1 r1 (qM rfl rfl (qf (o_indexAddr_row (sz:=2) 62 (.mk Tryz.underlying23 (by kernel_rfl)) .is .t (by omega) (by omega) (by rfl)) r2 r1 (qN rfl rfl qZ))))))) hB [50,49,9,3,0] [101,62,61,1,0] rfl rfl fun a w F hS=>?_
  try simp only [Int.toNat_natCast] at hS
  refine Zb (wp_seq ?_)
  refine Zw hS (qg 1 101 r1 r1 (qa 101 r1 r1 (qM rfl rfl (qk rfl (fun h=>oL true 3 101 .is) r2 r1 (qm rfl rfl rfl rfl (qk rfl (fun h=>Zaw (sz:=2) 62 (.w h) (by intro x;rfl) (by have:=(hm hil).2;omega)) r2 r1 (qk rfl (fun h=>Zag (off:=0) (sz:=2) 62 (.w h) (by have:=(hm hil).2;omega) (by kernel_rfl) (by rfl)) r2 r1 (qk rfl (fun h=>Zc5 (ag:=false) (sz':=1) (sz:=2) 62 (.w h) (by intro x;rfl) (by have:=(hm hil).2;omega) (by kernel_rfl) (by kernel_rfl) (by kernel_rfl)) r2 r1 (qk rfl (fun h=>oP (Zf9 t (Go.Gm.nth o2 i).key (by omega)) Tryz.func108 (Args.two (.pagg (.w h)) (.w h))) r3 qz (qk rfl (fun h=>ZaJ (.w h) qi) r2 qz (qf (ZI .t .t) r2 qz qZ))))))))))) hB [69,50,49,9,3,0] [101,62,61,1,0] rfl rfl fun a w F hS=>?_
  try dsimp only [List.map,xD,xE,xT,xU,ldSF,Zo,rTx,Zz,ZQ,rInt,rOp] at hS
  refine Zb ?_
  refine Zd hS rfl (fun hc3=>?_) (fun hc3=>?_)
  ·skip
   have hq9:o2.set i ⟨(Go.Gm.nth o2 i).key,withO (Go.Gm.nth o2 i).txs t.id⟩ = (ol.take (i+1)).map (ZjV t)++ol.drop (i+1):=by rw [← hms2,hmn];unfold ZjV;rw [if_pos (by have h9:=hc3;unfold wcnt;simpa [hmn] using h9)]
   refine Zw hS (qM rfl rfl (qM rfl rfl (qf (Zaw (sz:=2) 62 .t (by intro x;rfl) (by have:=(hm hil).2;omega)) r1 r1 (qf (Zag (off:=1) (sz:=2) 62 .t (by have:=(hm hil).2;omega) (by kernel_rfl) (by rfl)) r1 r1 (qf (Zc5 (ag:=false) (sz':=1) (sz:=2) 62 .t (by intro x;rfl) (by have:=(hm hil).2;omega) (by kernel_rfl) (by kernel_rfl) (by kernel_rfl)) r1 r1 (qg 0 101 r1 r1 (qa 101 r1 r1 (qf (oP (ZqE (Go.Gm.nth o2 i).txs t.id (by omega)) Tryz.func130 (Args.two .t .t)) r2 qz (qf (Zaw (sz:=2) 62 .t (by intro x;rfl) (by have:=(hm hil).2;omega)) r1 r1 (qf (Zag (off:=1) (sz:=2) 62 .t (by have:=(hm hil).2;omega) (by kernel_rfl) (by rfl)) r1 r1 (qf (ZcN (R:=Zz) (sz:=2) (off:=1) (v':=(⟨(Go.Gm.nth o2 i).key,withO (Go.Gm.nth o2 i).txs t.id⟩:OrdD)) 62 .t (by intro x;rfl) (by have:=(hm hil).2;omega) (by decide) .t one_sl rfl (by kernel_rfl)) r2 r1 qZ))))))))))) hB [50,49,3,0] [101,62,61,1,0] rfl rfl fun a w F hS=>?_
   try dsimp only [List.map,Zg,xL,xM,Nat.reduceAdd,xD,xE,xT,xU,xC,xN,zCF,ldSF,Zo,rTx,Zz,ZQ,rInt,rOp] at hS
   refine Zh (Zb ?_)
   refine Za hS (qp r1 (qM rfl rfl qZ)) hB [50,49,3,0] [101,62,61,1,0] rfl rfl fun a w F hS=>Zb ?_
   replace hS:=hS.ent (i:=50) (s':=.pv (.int .i64 ((i+1:Nat):Int))) rfl (.int (wrap_succ (by omega)))
   obtain ⟨F,hS⟩:=hS.nm [49,3,0,50] [101,61,1,0,62] rfl rfl
   exact ⟨((i+1),_),F,⟨by omega,hq9⟩,hS,by omega⟩
  have hq9:o2.set i ⟨(Go.Gm.nth o2 i).key,withoutO (Go.Gm.nth o2 i).txs t.id⟩ = (ol.take (i+1)).map (ZjV t)++ol.drop (i+1):=by rw [← hms2,hmn];unfold ZjV;rw [if_neg (by have h9:=hc3;unfold wcnt;intro e;rw [← hmn] at e;simp [e.1,e.2] at h9)]
  refine Zw hS (qM rfl rfl (qM rfl rfl (qf (Zaw (sz:=2) 62 .t (by intro x;rfl) (by have:=(hm hil).2;omega)) r1 r1 (qf (Zag (off:=1) (sz:=2) 62 .t (by have:=(hm hil).2;omega) (by kernel_rfl) (by rfl)) r1 r1 (qf (Zc5 (ag:=false) (sz':=1) (sz:=2) 62 .t (by intro x;rfl) (by have:=(hm hil).2;omega) (by kernel_rfl) (by kernel_rfl) (by kernel_rfl)) r1 r1 (qg 0 101 r1 r1 (qa 101 r1 r1 (qf (oP (Zl5 (Go.Gm.nth o2 i).txs t.id (by omega)) Tryz.func131 (Args.two .t .t)) r2 qz (qf (Zaw (sz:=2) 62 .t (by intro x;rfl) (by have:=(hm hil).2;omega)) r1 r1 (qf (Zag (off:=1) (sz:=2) 62 .t (by have:=(hm hil).2;omega) (by kernel_rfl) (by rfl)) r1 r1 (qf (ZcN (R:=Zz) (sz:=2) (off:=1) (v':=(⟨(Go.Gm.nth o2 i).key,withoutO (Go.Gm.nth o2 i).txs t.id⟩:OrdD)) 62 .t (by intro x;rfl) (by have:=(hm hil).2;omega) (by decide) .t one_sl rfl (by kernel_rfl)) r2 r1 qZ))))))))))) hB [50,49,3,0] [101,62,61,1,0] rfl rfl fun a w F hS=>?_
  try dsimp only [List.map,Zg,xL,xM,Nat.reduceAdd,xD,xE,xT,xU,xC,xN,zCF,ldSF,Zo,rTx,Zz,ZQ,rInt,rOp] at hS
  refine Zh (Zb ?_)
  refine Za hS (qp r1 (qM rfl rfl qZ)) hB [50,49,3,0] [101,62,61,1,0] rfl rfl fun a w F hS=>Zb ?_
  replace hS:=hS.ent (i:=50) (s':=.pv (.int .i64 ((i+1:Nat):Int))) rfl (.int (wrap_succ (by omega)))
  obtain ⟨F,hS⟩:=hS.nm [49,3,0,50] [101,61,1,0,62] rfl rfl
  exact ⟨((i+1),_),F,⟨by omega,hq9⟩,hS,by omega⟩
 have hil:i=ol.length:=by simp at hc2;omega
 have hfin:(o2.filter fun o=>!decide (o.txs = []))=settleO t os:=by rw [hq,hil,List.take_length,List.drop_length,List.append_nil,hq0];rfl
 have ho2:o2.length=ol.length:=by rw [hq,hil];simp
 refine wp_exit (Zi (Zi (Zl (Zb ?_))))
 refine Zc hS (qM rfl rfl (qM rfl rfl (qf (o_nilCheck 61 .is (by rfl)) r1 r1 (qf (oF 1 61 .adr) r1 r1 (qa 61 r1 r1 (qf (Zbo 62 (ZrF vb o2 (by omega) (fun o=>decide (o.txs = [])) 133 Tryz.f133 [] Tryz.func133 rfl (by kernel_rfl) (fun o=>ZnP o)) Tryz.func132 rfl (by kernel_rfl) (Args.two .t (.conv .f (Ent.fnClos))) Za3) r1 r1 (qf (o_nilCheck 61 .is (by rfl)) r1 r1 (qf (oF 1 61 .adr) r1 r1 (qf (Zaz 61 .adr (by kernel_rfl) (by kernel_rfl)) r2 r1 qZ))))))))) hB [] [101,62,61,1,0] (fun _=>rfl) (fun _=>rfl) fun τ a w F hS=>?_
 try dsimp only [RS.sub,SF.sub,CF.sub,csub,Anc.sub,List.map,Zg,xL,xM,Nat.reduceAdd,xD,xE,xT,xU,xC,xN,zCF,ldSF,Zo,rTx,Zz,ZQ,rInt,rOp] at hS
 generalize τ 96=v96 at hS
 obtain ⟨F,hS⟩:=hS.push 1 62 rfl rfl rfl rfl
 obtain ⟨F,hS⟩:=hS.push 1 61 rfl rfl rfl rfl
 have hS:=hS.turn 1 rfl (r':=RS.hp (Zl1 25 41 p va (settleO t os))) (fun _ _ _ _ h=>⟨v96,by rw [hfin] at h;exact h⟩)
 refine Zau hG hS rfl .nil .none rfl
theorem Zox (g:HistD) (hs:ZbG g.txs):FnG Tryz.prog 25 1 [.agg (Zo g)] [.star []] (PV.one) (fun v=>[HP.ex fun s:List (GE Int (List Int))×Nat=>HP.and (WrL s.1 g.txs) (ZdC (fun l:List Int=>PV.sl rInt l) (fun _=>True) (fun n:Int=>Value.int .i64 n) s.1 s.2 v)]):=by
 refine FnG.mk Tryz.func25 rfl Tryz.ntmps25 rfl (by kernel_rfl) ?_
 intro B F0 a w F hB hG hS
 have hsl:=hs.1
 obtain ⟨F,hS⟩:=hS.nm [0] [0] rfl rfl
 refine wp_seq ?_
 refine Zc hS (qx 101 r1 (qC qZ)) hB [2,1] [101,0] (fun _=>rfl) (fun _=>rfl) fun τ a w F hS=>?_
 try dsimp only [RS.sub,SF.sub,CF.sub,csub,Anc.sub,List.map,zCF,Zo,rTx,Zz,ZQ,rInt,rOp] at hS
 generalize τ 1=v1 at hS
 refine Zb (wp_seq ?_)
 refine Zc hS (qf (Zek (ek:=(fun p:Value×List Int=>PV.is p.1)) (ok:=(fun _=>True)) (kv:=(fun n:Int=>Value.int .i64 n)) 102) trivial qz (qN rfl rfl qZ)) hB [3,2,1] [102,101,0] (fun _=>rfl) (fun _=>rfl) fun τ a w F hS=>?_
 try dsimp only [RS.sub,SF.sub,CF.sub,csub,Anc.sub,List.map,Zg,xL,xM,Nat.reduceAdd,xD,xE,xT,xU,xC,xN,zCF,Zo,rTx,Zz,ZQ,rInt,rOp] at hS
 generalize τ 8=v8 at hS
 replace hS:=hS.fresh 60 rfl
 replace hS:=hS.turn 60 rfl (r':=ZpG 3 1 rInt ([]:List (GE Int (Value×List Int)))) (fun _ _ _ _ h=>h)
 obtain ⟨F,hS⟩:=hS.nm [3,2,1] [102,101,60,0] rfl rfl
 refine Zb (wp_seq (wp_seq ?_))
 refine Za hS (qg 0 101 r1 r1 (qa 101 r1 r1 (qu Tryz.underlying22 r1 (qJ qZ)))) hB [12,11,10,3,2] [102,101,60,0] rfl rfl fun a w F hS=>Zb (wp_block ?_)
 refine Zp (σ:=(Nat)×(List (GE Int (Value×List Int)))×(Nat)) [2,3,10,11] [0,101] (fun s=>[(12,.pv (.int .i64 (s.1:Int)))]) (fun s=>[(102,.ob (.val v8) (ZdC (fun p:Value×List Int=>PV.is p.1) (fun _=>True) (fun n:Int=>Value.int .i64 n) s.2.1 s.2.2)),(60,ZpG 3 1 rInt s.2.1)]) (fun s=>s.1≤g.txs.length∧(WrV s.2.1 (g.txs.take s.1) 0 [])) (fun s=>g.txs.length - s.1) ((0),([]),(0)) hS ⟨rfl,rfl,rfl,rfl,rfl,trivial⟩ ⟨rfl,rfl,rfl,rfl,trivial⟩ ⟨Nat.zero_le _,Zrl⟩ ?_
 clear hS;intro s a w F hC hS
 obtain ⟨i,es,ck⟩:=s
 try dsimp only at hC
 obtain ⟨F,hS⟩:=hS.nm [12,11,10,3,2] [102,101,60,0] rfl rfl
 try dsimp only at hS
 obtain ⟨hi,hq⟩:=hC
 have hxl:=fun hil:i<g.txs.length=>hs.at hil
 refine wp_seq ?_
 refine Za hS (qL r2) hB [13,12,11,10,3,2] [102,101,60,0] rfl rfl fun a w F hS=>Zb (wp_seq ?_)
 refine Zd hS rfl (fun hc0=>?_) (fun hc0=>?_)
 ·skip
  have hil:i<g.txs.length:=by simp at hc0;omega
  have hio:=hil
  have hw0:=hq
  have htl:=hxl hil
  have hkt:=Zcz (Go.Gm.nth g.txs i)
  have hsl:=hs.1
  refine wp_skip (Zb (wp_seq (wp_block (wp_seq ?_))))
  refine Zc hS (qy 3 Tryz.underlying22 r2 (qf (oR true 3 .t) r1 qz (qf (oH [.int .i64 0,.bool false,.slice none 0 0] 103) trivial qz (qS 3 103 r2 r1 qZ)))) hB [12,11,10,5,3,2] [103,102,101,60,0] (fun _=>rfl) (fun _=>rfl) fun τ a w F hS=>?_
  try dsimp only [RS.sub,SF.sub,CF.sub,csub,Anc.sub,List.map,Zg,xL,xM,Nat.reduceAdd,xD,xE,xT,xU,xC,xN,zCF,ldSF,Zo,rTx,Zz,ZQ,rInt,rOp] at hS
  generalize τ 5=v5 at hS
  try simp only [Int.toNat_natCast] at hS
  refine Zb (wp_seq (wp_seq ?_))
  refine Za hS (qg 1 103 r1 r1 (qa 103 r1 r1 (qf (o_not .t) r1 qz qZ))) hB [18,12,11,10,5,3,2] [103,102,101,60,0] rfl rfl fun a w F hS=>Zb ?_
  refine Zd hS rfl (fun hc1=>?_) (fun hc1=>?_)
  ·skip
   have hdn:(Go.Gm.nth g.txs i).done=false:=by simpa using hc1
   obtain ⟨es2,he2⟩:∃ z,z=es:=⟨_,rfl⟩
   obtain ⟨ck2,hc2⟩:∃ z,z=ck:=⟨_,rfl⟩
   have hR2:WrV es2 (g.txs.take (i+1)) 0 []:=by rw [he2];exact Zro hw0 hio hdn
   rw [← he2,← hc2] at hS
   refine wp_exit (Zi (Zl (Zb ?_)))
   refine Za hS (qp r1 (qM rfl rfl qZ)) hB [12,11,10,3,2] [103,102,101,60,0] rfl rfl fun a w F hS=>Zb ?_
   replace hS:=hS.ent (i:=12) (s':=.pv (.int .i64 ((i+1:Nat):Int))) rfl (.int (wrap_succ (by omega)))
   obtain ⟨F,hS⟩:=hS.nm [11,10,3,2,12] [101,0,60,102] rfl rfl
   exact ⟨((i+1),(es2),(ck2)),F,⟨by omega,hR2⟩,hS,by omega⟩
  have hdn:(Go.Gm.nth g.txs i).done=true:=by simpa using hc1
  refine wp_skip (Zb (wp_seq ?_))
  refine Za hS (qe 3 103 r1 r1 (qf (oP (ZmU (Go.Gm.nth g.txs i) (by have:=hxl hio;omega)) Tryz.func63 (Args.one (.pagg .t))) r1 qz (qu Tryz.underlying39 r1 (qJ qZ)))) hB [22,21,20,12,11,10,5,3,2] [103,102,101,60,0] rfl rfl fun a w F hS=>?_
  rw [show Zdh (((Go.Gm.nth g.txs i).ops.filter fun o=>!o.read).map OpD.key)=ZY (Go.Gm.nth g.txs i) from rfl] at hS
  refine Zb (wp_block ?_)
  refine Zp (σ:=(Nat)×(List (GE Int (Value×List Int)))×(Nat)) [2,3,5,10,11,12,20,21] [0,101,103] (fun s=>[(22,.pv (.int .i64 (s.1:Int)))]) (fun s=>[(102,.ob (.val v8) (ZdC (fun p:Value×List Int=>PV.is p.1) (fun _=>True) (fun n:Int=>Value.int .i64 n) s.2.1 s.2.2)),(60,ZpG 3 1 rInt s.2.1)]) (fun s=>s.1≤(ZY (Go.Gm.nth g.txs i)).length∧(WrV s.2.1 (g.txs.take i) (Go.Gm.nth g.txs i).id ((ZY (Go.Gm.nth g.txs i)).take s.1))) (fun s=>(ZY (Go.Gm.nth g.txs i)).length - s.1) ((0),(es),(ck)) hS ⟨rfl,rfl,rfl,rfl,rfl,rfl,rfl,rfl,rfl,trivial⟩ ⟨rfl,rfl,rfl,rfl,rfl,trivial⟩ ⟨Nat.zero_le _,(by simpa using ZpK hw0)⟩ ?_
  clear hS;intro s a w F hC hS
  obtain ⟨j,es,ck⟩:=s
  try dsimp only at hC
  obtain ⟨F,hS⟩:=hS.nm [22,21,20,12,11,10,5,3,2] [103,102,101,60,0] rfl rfl
  try dsimp only at hS
  obtain ⟨hi,hq⟩:=hC
  refine wp_seq ?_
  refine Za hS (qL r2) hB [23,22,21,20,12,11,10,5,3,2] [103,102,101,60,0] rfl rfl fun a w F hS=>Zb (wp_seq ?_)
  refine Zd hS rfl (fun hc2=>?_) (fun hc2=>?_)
  ·skip
   have hil:j<(ZY (Go.Gm.nth g.txs i)).length:=by simp at hc2;omega
   have hwo:=Zqd hq (Zfm _) hil
   have hwn:=ZbJ (g.txs.take i) (Go.Gm.nth (ZY (Go.Gm.nth g.txs i)) j)
   rw [List.length_take] at hwn
   rw [← hwo] at hwn
   refine wp_skip (Zb (wp_seq (wp_block (wp_seq ?_))))
   refine Za hS (qy 1 Tryz.underlying39 r2 (qf (oR false 1 .t) r1 qz (qN rfl rfl qZ))) hB [22,21,20,12,11,10,7,5,3,2] [103,102,101,60,0] rfl rfl fun a w F hS=>?_
   try simp only [Int.toNat_natCast] at hS
   refine Zb ?_
   refine ZcW 5 hS (by kernel_rfl) (cG rfl (oM .t) r1 trivial (cG rfl (oM .t) r1 trivial (cG rfl (oM .t) r1 trivial (cG rfl (oM .t) r1 trivial (cG rfl (Zbw (ek:=(fun p:Value×List Int=>PV.is p.1)) (z0:=ZhK) 102 Tryz.underlying60 (ZhG Tryz.underlying3) (by kernel_rfl) (fun _ _=>⟨rfl,rfl⟩) .is (ZX.int .t rfl)) r2 r1 ZP.nil))))) (by kernel_rfl) (by rw [hB];kernel_rfl) fun a w F hS=>?_
   obtain ⟨F,hS⟩:=hS.nm [30,27,26,22,21,20,12,11,10,5,3,2] [103,102,101,60,0] rfl rfl
   try dsimp only [Zo,rTx,Zz,ZQ,rInt,rOp] at hS
   obtain ⟨F,hS⟩:=hS.takeKey (T:=3) (sz:=1) (R:=rInt) 60 61 (Go.Gm.nth (ZY (Go.Gm.nth g.txs i)) j) rfl rfl
   obtain ⟨F,hS⟩:=hS.nm [30,27,26,22,21,20,12,11,10,5,3,2] [103,102,101,61,60,0] rfl rfl
   refine ZiY 4 hS (by kernel_rfl) (cG rfl (oF 0 103 .is) r1 r1 (cG rfl (oL false 1 103 .adr) r1 r1 (cG rfl (Zk (sz:=1) (zs:=[.int .i64 0]) (r:=[(0,.tmp 32)]) (l:=[_]) Tryz.underlying39 (by kernel_rfl) (by kernel_rfl) (by kernel_rfl) (by kernel_rfl) rfl rfl (.one rfl .t one_int (by kernel_rfl) .nil) rfl) r1 trivial (cG rfl (o_append (sz:=1) (bs:=8) 61 (.mk' Tryz.underlying39 (by kernel_rfl) (by kernel_rfl)) (by intro x;rfl) .is (.arr (l':=[_]) .t) (by simp only [List.length_append,List.length_cons,List.length_nil];omega) (by decide)) ⟨rfl,rfl,trivial⟩ ⟨rfl,trivial⟩ ZP.nil)))) (by kernel_rfl) (by rw [hB];kernel_rfl) fun a w F hS=>?_
   replace hS:=hS.sub
   obtain ⟨F,hS⟩:=hS.nm [34,27,26,22,21,20,12,11,10,5,3,2] [103,102,101,61,60,0] rfl rfl
   try dsimp only [RS.sub,SF.sub,CF.sub,csub,Anc.sub,List.map,Zg,xL,xM,Nat.reduceAdd,xD,xE,xT,xU,xC,xN,zCF,ldSF,Zo,rTx,Zz,ZQ,rInt,rOp] at hS
   generalize Act.tau a 34=v34 at hS
   refine Zd0 hS (by kernel_rfl) (cG rfl (Zey (ek:=(fun p:Value×List Int=>PV.is p.1)) (v:=((v34,((gGet (Go.Gm.nth (ZY (Go.Gm.nth g.txs i)) j) es).getD ZhK).2 ++ [(Go.Gm.nth g.txs i).id]):Value×List Int)) 102 Tryz.underlying60 (ZhG Tryz.underlying3) .is (ZX.int .t rfl) .t) r3 r1 ZP.nil) (by kernel_rfl) (by rw [hB];kernel_rfl) fun a w F hS=>?_
   obtain ⟨F,hS⟩:=hS.nm [22,21,20,12,11,10,5,3,2] [103,102,101,61,60,0] rfl rfl
   try dsimp only [Zo,rTx,Zz,ZQ,rInt,rOp] at hS
   refine Zh (Zb ?_)
   refine Za hS (qp r1 (qM rfl rfl qZ)) hB [22,21,20,12,11,10,5,3,2] [103,102,101,61,60,0] rfl rfl fun a w F hS=>Zb ?_
   obtain ⟨F,hS⟩:=hS.putKey (T:=3) (sz:=1) (R:=rInt) 60 61 (Go.Gm.nth (ZY (Go.Gm.nth g.txs i)) j) ck rfl rfl rfl
   replace hS:=hS.ent (i:=22) (s':=.pv (.int .i64 ((j+1:Nat):Int))) rfl (.int (wrap_succ (by omega)))
   obtain ⟨F,hS⟩:=hS.nm [21,20,12,11,10,5,3,2,22] [103,101,0,60,102] rfl rfl
   exact ⟨((j+1),((gPut (Go.Gm.nth (ZY (Go.Gm.nth g.txs i)) j) (v34,((gGet (Go.Gm.nth (ZY (Go.Gm.nth g.txs i)) j) es).getD ZhK).2 ++ [(Go.Gm.nth g.txs i).id]) (es,ck)).1),((gPut (Go.Gm.nth (ZY (Go.Gm.nth g.txs i)) j) (v34,((gGet (Go.Gm.nth (ZY (Go.Gm.nth g.txs i)) j) es).getD ZhK).2 ++ [(Go.Gm.nth g.txs i).id]) (es,ck)).2)),F,⟨by omega,Zrp hq (Zfm _) hil⟩,hS,by omega⟩
  have hil:j=(ZY (Go.Gm.nth g.txs i)).length:=by simp at hc2;omega
  obtain ⟨es2,he2⟩:∃ z,z=es:=⟨_,rfl⟩
  obtain ⟨ck2,hc2⟩:∃ z,z=ck:=⟨_,rfl⟩
  rw [hil,List.take_length] at hq
  have hR2:WrV es2 (g.txs.take (i+1)) 0 []:=by rw [he2];exact Zrc hq hio hdn
  rw [← he2,← hc2] at hS
  refine wp_exit (Zi (Zi (Zl (Zh (Zb ?_)))))
  refine Za hS (qp r1 (qM rfl rfl qZ)) hB [12,11,10,3,2] [103,102,101,60,0] rfl rfl fun a w F hS=>Zb ?_
  replace hS:=hS.ent (i:=12) (s':=.pv (.int .i64 ((i+1:Nat):Int))) rfl (.int (wrap_succ (by omega)))
  obtain ⟨F,hS⟩:=hS.nm [11,10,3,2,12] [101,0,60,102] rfl rfl
  exact ⟨((i+1),(es2),(ck2)),F,⟨by omega,hR2⟩,hS,by omega⟩
 have hil:i=g.txs.length:=by simp at hc0;omega
 have hwl:=Zo4 hq
 rw [hil,List.take_length] at hwl
 refine wp_exit (Zi (Zi (Zl (Zb (wp_seq ?_)))))
 refine Za hS (qM rfl rfl (qN rfl rfl qZ)) hB [2] [102,101,60,0] rfl rfl fun a w F hS=>Zb (wp_ret ?_)
 obtain ⟨F,hS⟩:=hS.giveMap 102 60 rfl rfl rfl
 obtain ⟨F,hS⟩:=hS.rename 102 1 rfl rfl
 have hS:=hS.turn 1 rfl (r':=RS.hp (HP.ex fun s:List (GE Int (List Int))×Nat=>HP.and (WrL s.1 g.txs) (ZdC (fun l:List Int=>PV.sl rInt l) (fun _=>True) (fun n:Int=>Value.int .i64 n) s.1 s.2 v8))) (fun _ _ _ _ h=>⟨(ZeI es,ck),hwl,h⟩)
 refine ZaG (h':=fun v=>HP.ex fun s:List (GE Int (List Int))×Nat=>HP.and (WrL s.1 g.txs) (ZdC (fun l:List Int=>PV.sl rInt l) (fun _=>True) (fun n:Int=>Value.int .i64 n) s.1 s.2 v)) hG hS rfl (.tmp rfl .nil) (.one .one) rfl
theorem Zd4 (g:HistD) (hs:Za0 g):FnP Tryz.prog 7 [.agg (Zo g)] (.bool (decide (Zx g))):=by
 refine FnP.mk Tryz.func7 rfl Tryz.ntmps7 rfl ?_
 intro B a w F hB hfr hS
 have hsl:=hs.1.1
 have hso:=hs.2.1
 refine wp_seq ?_
 refine Zc hS (qx 101 r1 qB) hB [2,1] [101,0] (fun _=>rfl) (fun _=>rfl) fun τ a w F hS=>?_
 try dsimp only [RS.sub,SF.sub,CF.sub,csub,Anc.sub,List.map,zCF,Zo,rTx,Zz,ZQ,rInt,rOp] at hS
 generalize τ 1=v1 at hS
 refine Zb (wp_seq (wp_seq ?_))
 refine Za hS (qg 0 101 r1 r1 (qa 101 r1 r1 (qu Tryz.underlying22 r1 (qf (ZaJ .t qi) r1 qz qZ)))) hB [11,2,1] [101,0] rfl rfl fun a w F hS=>Zb ?_
 refine Zd hS rfl (fun hc0=>?_) (fun hc0=>?_)
 ·skip
  have hg:=Zgm (h:=g) (by simp at hc0;omega)
  refine wp_seq ?_
  refine Za hS qB hB [2,1] [101,0] rfl rfl fun a w F hS=>Zb (wp_ret (Ze ?_))
  refine Zm hfr hS rfl rfl rfl (.bool hg)
 have hlong:g.txs.length≤4096:=by simp at hc0;omega
 refine wp_skip (Zb (wp_seq (wp_seq ?_)))
 refine Za hS (qg 0 101 r1 r1 (qa 101 r1 r1 (qu Tryz.underlying22 r1 (qJ qZ)))) hB [15,14,13,2,1] [101,0] rfl rfl fun a w F hS=>Zb (wp_block ?_)
 refine Zp (σ:=(Nat)) [1,2,13,14] [0,101] (fun s=>[(15,.pv (.int .i64 (s:Int)))]) (fun s=>[]) (fun s=>s≤g.txs.length∧(∀ k,k<s→ZpD g k)) (fun s=>g.txs.length - s) (0) hS ⟨rfl,rfl,rfl,rfl,rfl,trivial⟩ ⟨rfl,rfl,trivial⟩ ⟨Nat.zero_le _,fun k hk=>absurd hk (Nat.not_lt_zero k)⟩ ?_
 clear hS;intro i a w F hC hS
 try dsimp only at hC
 obtain ⟨F,hS⟩:=hS.nm [15,14,13,2,1] [101,0] rfl rfl
 try dsimp only at hS
 obtain ⟨hi,hq⟩:=hC
 have hxl:=fun hil:i<g.txs.length=>hs.1.at hil
 have hiw:0<i→IntKind.wrap .i64 ((i:Int) - 1)=((i - 1:Nat):Int):=fun h0=>by rw [ZA (by omega)];omega
 refine wp_seq ?_
 refine Za hS (qL r2) hB [16,15,14,13,2,1] [101,0] rfl rfl fun a w F hS=>Zb (wp_seq ?_)
 refine Zd hS rfl (fun hc1=>?_) (fun hc1=>?_)
 ·skip
  have hil:i<g.txs.length:=by simp at hc1;omega
  refine wp_skip (Zb (wp_seq (wp_block (wp_seq ?_))))
  refine Zc hS (qM rfl rfl (qy 3 Tryz.underlying22 r2 (qf (oR true 3 .t) r1 qz (qf (oH [.int .i64 0,.bool false,.slice none 0 0] 102) trivial qz (qN rfl rfl (qS 3 102 r2 r1 qZ)))))) hB [15,14,13,4,3,2,1] [102,101,0] (fun _=>rfl) (fun _=>rfl) fun τ a w F hS=>?_
  try dsimp only [RS.sub,SF.sub,CF.sub,csub,Anc.sub,List.map,Zg,xL,xM,Nat.reduceAdd,xD,xE,xT,xU,xC,xN,zCF,ldSF,Zo,rTx,Zz,ZQ,rInt,rOp] at hS
  generalize τ 4=v4 at hS
  try simp only [Int.toNat_natCast] at hS
  refine Zb (wp_seq ?_)
  refine Zw hS (qM rfl rfl (qf (ZaJ .t qi) r1 qz (qM rfl rfl (qv 0 101 rfl r2 r1 (qw 101 rfl r2 r1 (qm rfl rfl rfl rfl (qk rfl (fun h=>o_sub (.w h) qi) r2 qz (qk rfl (fun h=>o_indexAddr_sl (sz:=3) (.mk Tryz.underlying22 (by kernel_rfl)) (by intro x;rfl) (.w h) (.w h) (by rw [hiw (by simpa using h)];omega) (by rw [hiw (by simpa using h)];omega)) r3 qz (qk rfl (fun h=>oG 0 (.w h)) r2 qz (qk rfl (fun h=>oR false 1 (.w h)) r2 qz (qv 0 102 rfl r2 r1 (qw 102 rfl r2 r1 (qk rfl (fun h=>ZdO (.w h) (.w h)) r3 qz (qf (ZI .t .t) r2 qz (qM rfl rfl (qk rfl (fun h=>oL true 3 102 .is) r2 r1 (qk rfl (fun h=>oP (ZiJ (Go.Gm.nth g.txs i)) Tryz.func23 (Args.one (.pagg (.w h)))) r2 qz (qk rfl (fun h=>o_neq (.w h) qi) r2 qz (qf (ZaC .t .t) r2 qz (qM rfl rfl (qk rfl (fun h=>oL true 2 101 .is) r2 r1 (qk rfl (fun h=>oL true 3 102 .is) r2 r1 (qk rfl (fun h=>oP (ZkJ g (Go.Gm.nth g.txs i) hs.1 (by have:=hxl hil;omega)) Tryz.func24 (Args.two (.pagg (.w h)) (.pagg (.w h)))) r3 qz (qk rfl (fun h=>o_not (.w h)) r2 qz (qf (ZaC .t .t) r2 qz qZ))))))))))))))))))))))))) hB [44,15,14,13,2,1] [102,101,0] rfl rfl fun a w F hS=>?_
  try dsimp only [List.map,xD,xE,xT,xU,ldSF,Zo,rTx,Zz,ZQ,rInt,rOp] at hS
  try simp only [Int.toNat_natCast] at hS
  refine Zb ?_
  refine Zd hS rfl (fun hc2=>?_) (fun hc2=>?_)
  ·skip
   have hbad:¬ ZpD g i:=by
     rintro ⟨g1,g2,g3⟩
     have h9:=hc2
     by_cases hi0:0<i
     · rw [hiw hi0,Int.toNat_natCast] at h9
       have:=g1 hi0
       simp [g2,g3] at h9
       omega
     · have hi1:i=0:=by omega
       subst hi1
       simp [g2,g3] at h9
   have hg:=Zio hil hbad
   refine wp_seq ?_
   refine Za hS qB hB [15,14,13,2,1] [102,101,0] rfl rfl fun a w F hS=>Zb (wp_ret (Zf (Ze (Ze (Zf (Ze ?_))))))
   refine Zm hfr hS rfl rfl rfl (.bool hg)
  have hgood:ZpD g i:=by
    have h9:=hc2
    by_cases hi0:0<i
    · rw [hiw hi0,Int.toNat_natCast] at h9
      simp at h9
      exact ⟨fun _=>by omega,by omega,h9.2⟩
    · have hi1:i=0:=by omega
      subst hi1
      simp at h9
      exact ⟨fun h0=>absurd h0 (Nat.lt_irrefl 0),h9.1,h9.2⟩
  refine wp_skip (Zh (Zb ?_))
  refine Za hS (qp r1 (qM rfl rfl qZ)) hB [15,14,13,2,1] [102,101,0] rfl rfl fun a w F hS=>Zb ?_
  replace hS:=hS.ent (i:=15) (s':=.pv (.int .i64 ((i+1:Nat):Int))) rfl (.int (wrap_succ (by omega)))
  obtain ⟨F,hS⟩:=hS.nm [14,13,2,1,15] [101,0] rfl rfl
  exact ⟨(i+1),F,⟨by omega,(fun k hk=>by rcases Nat.lt_or_eq_of_le (Nat.le_of_lt_succ hk) with h9 | h9;exact hq k h9;rw [h9];exact hgood)⟩,hS,by omega⟩
 have hil:i=g.txs.length:=by simp at hc1;omega
 have hall:∀ k,k<g.txs.length→ZpD g k:=by rw [← hil];exact hq
 have hkn:=Zn0 hs.1
 refine wp_exit (Zi (Zi (Zl (Zb (wp_seq ?_)))))
 replace hS:=hS.fresh 103 rfl
 refine Zc hS (qe 2 101 r1 r1 (qf (Zbz 103 (Zox g hs.1) Tryz.func25 rfl (by kernel_rfl) (Args.one (.pagg .t)) Za3) r1 r1 (qN rfl rfl qZ))) hB [5,2,1] [103,101,0] (fun _=>rfl) (fun _=>rfl) fun τ a w F hS=>?_
 try dsimp only [RS.sub,SF.sub,CF.sub,csub,Anc.sub,List.map,xD,xE,xT,xU,ldSF,Zo,rTx,Zz,ZQ,rInt,rOp] at hS
 generalize τ 47=v47 at hS
 replace hS:=hS.turn 103 rfl (r':=RS.hp (HP.ex fun s:List (GE Int (List Int))×Nat=>HP.and (WrL s.1 g.txs) (ZdC (fun l:List Int=>PV.sl rInt l) (fun _=>True) (fun n:Int=>Value.int .i64 n) s.1 s.2 v47))) (fun _ _ _ _ h=>h)
 obtain ⟨sm,hS⟩:=hS.open_ex 103 rfl
 obtain ⟨hwm,hS⟩:=hS.open_and 103 rfl
 obtain ⟨es,ck⟩:=sm
 try dsimp only at hwm hS
 replace hS:=hS.turn 103 rfl (r':=.ob (.val v47) (ZdC (fun l:List Int=>PV.sl rInt l) (fun _=>True) (fun n:Int=>Value.int .i64 n) es ck)) (fun _ _ _ _ h=>h)
 have hgw:=ZsA hwm
 have hml:=Zsc hwm
 obtain ⟨F,hS⟩:=hS.nm [5,2,1] [103,101,0] rfl rfl
 refine Zb (wp_seq (wp_seq ?_))
 refine Za hS (qM rfl rfl (qf (Zma 103 Tryz.underlying60 .is (by omega)) r1 r1 (qg 1 101 r1 r1 (qa 101 r1 r1 (qu Tryz.underlying23 r1 (qf (o_neq .t .t) r2 qz qZ)))))) hB [53,5,2,1] [103,101,0] rfl rfl fun a w F hS=>Zb ?_
 refine Zd hS rfl (fun hc3=>?_) (fun hc3=>?_)
 ·skip
  have hg:=ZhR (h:=g) (by simp at hc3;omega)
  refine wp_seq ?_
  refine Za hS qB hB [5,2,1] [103,101,0] rfl rfl fun a w F hS=>Zb (wp_ret (Ze ?_))
  refine Zm hfr hS rfl rfl rfl (.bool hg)
 have hle:g.orders.length=(ZbK g.txs).length:=by simp at hc3;omega
 refine wp_skip (Zb (wp_seq (wp_seq ?_)))
 refine Za hS (qg 1 101 r1 r1 (qa 101 r1 r1 (qu Tryz.underlying23 r1 (qJ qZ)))) hB [57,56,55,5,2,1] [103,101,0] rfl rfl fun a w F hS=>Zb (wp_block ?_)
 refine Zp (σ:=(Nat)) [1,2,5,55,56] [0,101,103] (fun s=>[(57,.pv (.int .i64 (s:Int)))]) (fun s=>[]) (fun s=>s≤g.orders.length∧(∀ k,k<s→ZfB g k)) (fun s=>g.orders.length - s) (0) hS ⟨rfl,rfl,rfl,rfl,rfl,rfl,trivial⟩ ⟨rfl,rfl,rfl,trivial⟩ ⟨Nat.zero_le _,fun k hk=>absurd hk (Nat.not_lt_zero k)⟩ ?_
 clear hS;intro i a w F hC hS
 try dsimp only at hC
 obtain ⟨F,hS⟩:=hS.nm [57,56,55,5,2,1] [103,101,0] rfl rfl
 try dsimp only at hS
 obtain ⟨hi,hq⟩:=hC
 have hol:=fun hil:i<g.orders.length=>hs.2.at hil
 have hwl:=fun k=>ZbJ g.txs k
 have hiw:0<i→IntKind.wrap .i64 ((i:Int) - 1)=((i - 1:Nat):Int):=fun h0=>by rw [ZA (by omega)];omega
 refine wp_seq ?_
 refine Za hS (qL r2) hB [58,57,56,55,5,2,1] [103,101,0] rfl rfl fun a w F hS=>Zb (wp_seq ?_)
 refine Zd hS rfl (fun hc4=>?_) (fun hc4=>?_)
 ·skip
  have hil:i<g.orders.length:=by simp at hc4;omega
  refine wp_skip (Zb (wp_seq (wp_block (wp_seq ?_))))
  refine Zc hS (qM rfl rfl (qy 2 Tryz.underlying23 r2 (qf (oR true 2 .t) r1 qz (qf (oH [.int .i64 0,.slice none 0 0] 104) trivial qz (qN rfl rfl (qS 2 104 r2 r1 qZ)))))) hB [57,56,55,7,6,5,2,1] [104,103,101,0] (fun _=>rfl) (fun _=>rfl) fun τ a w F hS=>?_
  try dsimp only [RS.sub,SF.sub,CF.sub,csub,Anc.sub,List.map,Zg,xL,xM,Nat.reduceAdd,xD,xE,xT,xU,xC,xN,zCF,ldSF,Zo,rTx,Zz,ZQ,rInt,rOp] at hS
  generalize τ 7=v7 at hS
  try simp only [Int.toNat_natCast] at hS
  refine Zb (wp_seq ?_)
  refine Zw hS (qM rfl rfl (qf (ZaJ .t qi) r1 qz (qM rfl rfl (qv 1 101 rfl r2 r1 (qw 101 rfl r2 r1 (qm rfl rfl rfl rfl (qk rfl (fun h=>o_sub (.w h) qi) r2 qz (qk rfl (fun h=>o_indexAddr_sl (sz:=2) (.mk Tryz.underlying23 (by kernel_rfl)) (by intro x;rfl) (.w h) (.w h) (by rw [hiw (by simpa using h)];omega) (by rw [hiw (by simpa using h)];omega)) r3 qz (qk rfl (fun h=>oG 0 (.w h)) r2 qz (qk rfl (fun h=>oR false 1 (.w h)) r2 qz (qv 0 104 rfl r2 r1 (qw 104 rfl r2 r1 (qk rfl (fun h=>ZdO (.w h) (.w h)) r3 qz (qf (ZI .t .t) r2 qz (qM rfl rfl (qv 1 104 rfl r2 r1 (qw 104 rfl r2 r1 (qk rfl (fun h=>ZaI Tryz.underlying39 (.w h)) r2 qz (qk rfl (fun h=>o_eql (.w h) qi) r2 qz (qf (ZaC .t .t) r2 qz (qM rfl rfl (qv 1 104 rfl r2 r1 (qw 104 rfl r2 r1 (qm rfl rfl rfl rfl (qv 0 104 rfl r2 r1 (qw 104 rfl r2 r1 (qk rfl (fun h=>Zbw (ek:=(fun l:List Int=>PV.sl rInt l)) (z0:=([]:List Int)) 103 Tryz.underlying60 (ZhG Tryz.underlying3) (by kernel_rfl) (fun _ _=>Zjh) (.w h .is) (ZX.int (.w h) rfl)) r3 r1 (qk rfl (fun h=>oP (Zns (Go.Gm.nth g.orders i).txs _ (by have:=hol hil;omega) (by rw [hgw];have:=hwl (Go.Gm.nth g.orders i).key;omega)) Tryz.func26 (Args.two (.w h) (.w h))) r3 qz (qk rfl (fun h=>o_not (.w h)) r2 qz (qf (ZaC .t .t) r2 qz qZ)))))))))))))))))))))))))))))) hB [91,57,56,55,5,2,1] [104,103,101,0] rfl rfl fun a w F hS=>?_
  try dsimp only [List.map,xD,xE,xT,xU,ldSF,Zo,rTx,Zz,ZQ,rInt,rOp] at hS
  try simp only [Int.toNat_natCast] at hS
  refine Zb ?_
  refine Zd hS rfl (fun hc5=>?_) (fun hc5=>?_)
  ·skip
   have hbad:¬ ZfB g i:=by
     rintro ⟨g1,g2,g3⟩
     have h9:=hc5
     rw [hgw] at h9
     have g4:(Go.Gm.nth g.orders i).txs.length≠0:=fun e=>g2 (List.eq_nil_of_length_eq_zero e)
     by_cases hi0:0<i
     · rw [hiw hi0,Int.toNat_natCast] at h9
       have:=g1 hi0
       simp [g2,g3] at h9
       omega
     · have hi1:i=0:=by omega
       subst hi1
       simp [g2,g3] at h9
   have hg:=Zgp hil hbad
   refine wp_seq ?_
   refine Za hS qB hB [57,56,55,5,2,1] [104,103,101,0] rfl rfl fun a w F hS=>Zb (wp_ret (Zf (Ze (Ze (Zf (Ze ?_))))))
   refine Zm hfr hS rfl rfl rfl (.bool hg)
  have hgood:ZfB g i:=by
    have h9:=hc5
    rw [hgw] at h9
    by_cases hi0:0<i
    · rw [hiw hi0,Int.toNat_natCast] at h9
      simp at h9
      exact ⟨fun _=>by omega,h9.1.2,h9.2⟩
    · have hi1:i=0:=by omega
      subst hi1
      simp at h9
      exact ⟨fun h0=>absurd h0 (Nat.lt_irrefl 0),h9.1,h9.2⟩
  refine wp_skip (Zh (Zb ?_))
  refine Za hS (qp r1 (qM rfl rfl qZ)) hB [57,56,55,5,2,1] [104,103,101,0] rfl rfl fun a w F hS=>Zb ?_
  replace hS:=hS.ent (i:=57) (s':=.pv (.int .i64 ((i+1:Nat):Int))) rfl (.int (wrap_succ (by omega)))
  obtain ⟨F,hS⟩:=hS.nm [56,55,5,2,1,57] [103,101,0] rfl rfl
  exact ⟨(i+1),F,⟨by omega,(fun k hk=>by rcases Nat.lt_or_eq_of_le (Nat.le_of_lt_succ hk) with h9 | h9;exact hq k h9;rw [h9];exact hgood)⟩,hS,by omega⟩
 have hil:i=g.orders.length:=by simp at hc4;omega
 have hg:=ZjB hlong hall (by omega) (by rw [← hil];exact hq)
 refine wp_exit (Zi (Zi (Zl (Zb (wp_seq ?_)))))
 refine Za hS qB hB [2] [103,101,0] rfl rfl fun a w F hS=>Zb (wp_ret ?_)
 refine Zm hfr hS rfl rfl rfl (.bool hg)
def zeroH:HistD:=⟨[],[]⟩
theorem Zq {g:HistD} (h:Zx g):ZbP TxD.id g.txs∧ZbP OrdD.key g.orders:=by
 constructor
 · have hi:ZdR (g.txs.map TxD.id):=ZhW fun i hi h0=>by
     have hi':i<g.txs.length:=by simpa using hi
     rw [ZbH (by omega),ZbH hi']
     exact (h.2.1 i hi').1 h0
   rw [Zs]
   exact List.pairwise_map.1 hi
 · have h2:=(ZcQ g).2 h.2.2
   have hi:ZdR (g.orders.map OrdD.key):=ZhW fun i hi h0=>by
     have hi':i<g.orders.length:=by simpa using hi
     rw [ZbH (by omega),ZbH hi']
     exact (h2.2 i hi').1 h0
   rw [Zs]
   exact List.pairwise_map.1 hi
def Zj5 (t:TxD) (v:ZbQ):Bool:=decide (v.tx=t.id) && decide ((wcnt t.ops v.key:Int)<v.nth)
def Zka (t x:TxD):Bool:=decide (x.id≠t.id) && (Zas x).any (Zj5 t)
def Zen (g:HistD) (t:TxD):Bool:=g.txs.any (Zka t)
theorem ZkF {α:Type} [Inhabited α] {p:α→Bool} {l:List α} (h:∀ q,q<l.length→p (Go.Gm.nth l q)=false):l.any p=false:=by
 rw [List.any_eq_false]
 intro x hx
 obtain ⟨k,hk,e⟩:=List.getElem_of_mem hx
 have:=h k hk
 rw [Zn hk,e] at this
 simp [this]
theorem Zk4 {α:Type} [Inhabited α] {p:α→Bool} {l:List α} {i:Nat} (hi:i<l.length) (h:p (Go.Gm.nth l i)=true):l.any p=true:=by
 rw [List.any_eq_true]
 exact ⟨_,ZB hi,h⟩
def mayH (g:HistD) (t:TxD) (there:Int) (wanted:Bool):Int×Int:=if ¬ Zx g then (0,5) else if ZU t≠0 then (0,ZU t) else if isK TxD.id t.id g.txs≠wanted then (0,there) else if Zbi g t=false then (0,6) else (lowK TxD.id t.id g.txs,0)
def Zam (g:HistD) (t:TxD):HistD×Int:=if (mayH g t 4 false).2≠0 then (zeroH,(mayH g t 4 false).2) else if g.txs.length=4096 then (zeroH,2) else (⟨g.txs.take (lowK TxD.id t.id g.txs) ++ [t] ++ g.txs.drop (lowK TxD.id t.id g.txs),settleO t g.orders⟩,0)
def Zc8 (id:Int):TxD:=⟨id,false,[]⟩
def Zad (g:HistD) (id:Int):HistD×Int:=if ¬ Zx g then (zeroH,5) else if isK TxD.id id g.txs=false then (zeroH,3) else if Zen g (Zc8 id)=true then (zeroH,7) else (⟨g.txs.take (lowK TxD.id id g.txs)++g.txs.drop (lowK TxD.id id g.txs+1),settleO (Zc8 id) g.orders⟩,0)
def Za4 (g:HistD) (t:TxD):HistD×Int:=if (mayH g t 3 true).2≠0 then (zeroH,(mayH g t 3 true).2) else if Zen g t=true then (zeroH,7) else (⟨g.txs.set (lowK TxD.id t.id g.txs) t,settleO t g.orders⟩,0)
theorem Zli {g:HistD} {t:TxD} {there:Int} {wanted:Bool} (ht:there≠0) (h:(mayH g t there wanted).2=0):Zx g∧ZU t=0∧isK TxD.id t.id g.txs=wanted∧Zbi g t=true∧(mayH g t there wanted).1=lowK TxD.id t.id g.txs:=by
 unfold mayH at h ⊢
 split at h
 · simp at h
 · rename_i h1
   split at h
   · rename_i h2;exact absurd h h2
   · rename_i h2
     split at h
     · exact absurd h ht
     · rename_i h3
       split at h
       · simp at h
       · rename_i h4
         rw [if_neg h1,if_neg h2,if_neg h3,if_neg h4]
         exact ⟨Decidable.not_not.1 h1,Decidable.not_not.1 h2,Decidable.not_not.1 h3,by simpa using h4,rfl⟩
theorem Zdk {α:Type} [Inhabited α] {κ:α→Int} {k:Int} {l:List α} (hs:ZbP κ l) (h:isK κ k l=true):lowK κ k l<l.length∧κ (Go.Gm.nth l (lowK κ k l))=k:=by
 obtain ⟨x,hx,hk⟩:=List.any_eq_true.1 h
 obtain ⟨q,hq,e⟩:=List.getElem_of_mem hx
 have hk':κ (Go.Gm.nth l q)=k:=by rw [Zn hq,e];simpa using hk
 have hl:=ZhF (κ:=κ) (k:=k) (l:=l) (i:=q) (Nat.le_of_lt hq) (fun p hp=>by have:=hs p q hp hq;omega) (fun p hp hp2=>by have:=ZfL hs hp hp2;omega)
 rw [hl]
 exact ⟨hq,hk'⟩
theorem Zoe (g:HistD) (t:TxD) (hs:ZbG g.txs) (ht:t.ops.length≤1000):FnP Tryz.prog 97 [.agg (Zo g),.agg (rTx t)] (.bool (Zen g t)):=by
 refine FnP.mk Tryz.func97 rfl Tryz.ntmps97 rfl ?_
 intro B a w F hB hfr hS
 have hsl:=hs.1
 have hnl:∀ x:TxD,x.ops.length≤1000→(Zas x).length≤1000:=fun x hx=>by have:=ZgM x.id x.ops x.ops.length;rw [List.take_length] at this;unfold Zas;omega
 refine wp_seq ?_
 refine Zc hS (qx 101 r1 (qx 102 r1 qB)) hB [4,3,2] [102,101,0] (fun _=>rfl) (fun _=>rfl) fun τ a w F hS=>?_
 try dsimp only [RS.sub,SF.sub,CF.sub,csub,Anc.sub,List.map,zCF,Zo,rTx,Zz,ZQ,rInt,rOp] at hS
 generalize τ 2=v2 at hS
 generalize τ 3=v3 at hS
 refine Zb (wp_seq (wp_seq ?_))
 refine Za hS (qg 0 101 r1 r1 (qa 101 r1 r1 (qu Tryz.underlying22 r1 (qJ qZ)))) hB [12,11,10,4,3] [102,101,0] rfl rfl fun a w F hS=>Zb (wp_block ?_)
 refine Zp (σ:=(Nat)) [3,4,10,11] [0,101,102] (fun s=>[(12,.pv (.int .i64 (s:Int)))]) (fun s=>[]) (fun s=>s≤g.txs.length∧(∀ q,q<s→Zka t (Go.Gm.nth g.txs q)=false)) (fun s=>g.txs.length - s) (0) hS ⟨rfl,rfl,rfl,rfl,rfl,trivial⟩ ⟨rfl,rfl,rfl,trivial⟩ ⟨Nat.zero_le _,fun q hq=>absurd hq (Nat.not_lt_zero q)⟩ ?_
 clear hS;intro i a w F hC hS
 try dsimp only at hC
 obtain ⟨F,hS⟩:=hS.nm [12,11,10,4,3] [102,101,0] rfl rfl
 try dsimp only at hS
 obtain ⟨hi,hq⟩:=hC
 refine wp_seq ?_
 refine Za hS (qL r2) hB [13,12,11,10,4,3] [102,101,0] rfl rfl fun a w F hS=>Zb (wp_seq ?_)
 refine Zd hS rfl (fun hc0=>?_) (fun hc0=>?_)
 ·skip
  have hil:i<g.txs.length:=by simp at hc0;omega
  have hio:=hil
  have hqo:=hq
  have hnl2:=hnl (Go.Gm.nth g.txs i) (by have:=hs.at hio;omega)
  refine wp_skip (Zb (wp_seq (wp_block (wp_seq ?_))))
  refine Zc hS (qy 3 Tryz.underlying22 r2 (qf (oR true 3 .t) r1 qz (qf (oH [.int .i64 0,.bool false,.slice none 0 0] 103) trivial qz (qS 3 103 r2 r1 qZ)))) hB [12,11,10,6,4,3] [103,102,101,0] (fun _=>rfl) (fun _=>rfl) fun τ a w F hS=>?_
  try dsimp only [RS.sub,SF.sub,CF.sub,csub,Anc.sub,List.map,Zg,xL,xM,Nat.reduceAdd,xD,xE,xT,xU,xC,xN,zCF,ldSF,Zo,rTx,Zz,ZQ,rInt,rOp] at hS
  generalize τ 6=v6 at hS
  try simp only [Int.toNat_natCast] at hS
  refine Zb (wp_seq ?_)
  refine Za hS (qe 3 103 r1 r1 (qf (oP (ZiE (Go.Gm.nth g.txs i) (by have:=hs.at hio;omega)) Tryz.func60 (Args.one (.pagg .t))) r1 qz (qu Tryz.underlying103 r1 (qJ qZ)))) hB [19,18,17,12,11,10,6,4,3] [103,102,101,0] rfl rfl fun a w F hS=>Zb (wp_block ?_)
  refine Zp (σ:=(Nat)) [3,4,6,10,11,12,17,18] [0,101,102,103] (fun s=>[(19,.pv (.int .i64 (s:Int)))]) (fun s=>[]) (fun s=>s≤(Zas (Go.Gm.nth g.txs i)).length∧((Go.Gm.nth g.txs i).id≠t.id → ∀ q,q<s→Zj5 t (Go.Gm.nth (Zas (Go.Gm.nth g.txs i)) q)=false)) (fun s=>(Zas (Go.Gm.nth g.txs i)).length - s) (0) hS ⟨rfl,rfl,rfl,rfl,rfl,rfl,rfl,rfl,rfl,trivial⟩ ⟨rfl,rfl,rfl,rfl,trivial⟩ ⟨Nat.zero_le _,fun _ q hq=>absurd hq (Nat.not_lt_zero q)⟩ ?_
  clear hS;intro j a w F hC hS
  try dsimp only at hC
  obtain ⟨F,hS⟩:=hS.nm [19,18,17,12,11,10,6,4,3] [103,102,101,0] rfl rfl
  try dsimp only at hS
  obtain ⟨hi,hq⟩:=hC
  have hq2:=hq
  refine wp_seq ?_
  refine Za hS (qL r2) hB [20,19,18,17,12,11,10,6,4,3] [103,102,101,0] rfl rfl fun a w F hS=>Zb (wp_seq ?_)
  refine Zd hS rfl (fun hc1=>?_) (fun hc1=>?_)
  ·skip
   have hil:j<(Zas (Go.Gm.nth g.txs i)).length:=by simp at hc1;omega
   have hjo:=hil
   refine wp_skip (Zb (wp_seq (wp_block (wp_seq ?_))))
   refine Zc hS (qy 3 Tryz.underlying103 r2 (qf (oR true 3 .t) r1 qz (qf (oH [.int .i64 0,.int .i64 0,.int .i64 0] 104) trivial qz (qS 3 104 r2 r1 qZ)))) hB [19,18,17,12,11,10,8,6,4,3] [104,103,102,101,0] (fun _=>rfl) (fun _=>rfl) fun τ a w F hS=>?_
   try dsimp only [RS.sub,SF.sub,CF.sub,csub,Anc.sub,List.map,Zg,xL,xM,Nat.reduceAdd,xD,xE,xT,xU,xC,xN,zCF,ldSF,Zo,rTx,Zz,ZQ,rInt,rOp] at hS
   generalize τ 8=v8 at hS
   try simp only [Int.toNat_natCast] at hS
   refine Zb (wp_seq ?_)
   refine Zw hS (qg 0 103 r1 r1 (qa 103 r1 r1 (qg 0 102 r1 r1 (qa 102 r1 r1 (qf (o_neq .t .t) r2 qz (qM rfl rfl (qv 0 104 rfl r2 r1 (qw 104 rfl r2 r1 (qv 0 102 rfl r2 r1 (qw 102 rfl r2 r1 (qk rfl (fun h=>o_eql (.w h) (.w h)) r3 qz (qf (ZI .t .t) r2 qz (qM rfl rfl (qv 2 104 rfl r2 r1 (qw 104 rfl r2 r1 (qk rfl (fun h=>oL true 3 102 .is) r2 r1 (qv 1 104 rfl r2 r1 (qw 104 rfl r2 r1 (qk rfl (fun h=>oP (Zf9 t (Go.Gm.nth (Zas (Go.Gm.nth g.txs i)) j).key (by omega)) Tryz.func108 (Args.two (.pagg (.w h)) (.w h))) r3 qz (qk rfl (fun h=>ZaJ (.w h) (.w h)) r3 qz (qf (ZI .t .t) r2 qz qZ))))))))))))))))))))) hB [43,19,18,17,12,11,10,6,4,3] [104,103,102,101,0] rfl rfl fun a w F hS=>?_
   try dsimp only [List.map,xD,xE,xT,xU,ldSF,Zo,rTx,Zz,ZQ,rInt,rOp] at hS
   refine Zb ?_
   refine Zd hS rfl (fun hc2=>?_) (fun hc2=>?_)
   ·skip
    have hg:true=Zen g t:=(Zk4 hio (by
      have h9:=hc2
      simp at h9
      unfold Zka
      rw [decide_eq_true h9.1.1,Bool.true_and]
      refine Zk4 hjo ?_
      unfold Zj5 wcnt
      simp [h9.1.2]
      first | exact h9.2 | (have:=h9.2;omega))).symm
    refine wp_seq ?_
    refine Za hS qB hB [19,18,17,12,11,10,6,4,3] [104,103,102,101,0] rfl rfl fun a w F hS=>Zb (wp_ret (Zf (Ze (Ze (Zf (Zf (Ze (Ze (Zf (Ze ?_))))))))))
    refine Zm hfr hS rfl rfl rfl (.bool hg)
   have hnv:(Go.Gm.nth g.txs i).id≠t.id→Zj5 t (Go.Gm.nth (Zas (Go.Gm.nth g.txs i)) j)=false:=by
     intro hne
     have h9:=hc2
     unfold Zj5 wcnt
     simp [hne] at h9 ⊢
     first | exact h9 | (intro e;have:=h9 e;omega)
   refine wp_skip (Zh (Zb ?_))
   refine Za hS (qp r1 (qM rfl rfl qZ)) hB [19,18,17,12,11,10,6,4,3] [104,103,102,101,0] rfl rfl fun a w F hS=>Zb ?_
   replace hS:=hS.ent (i:=19) (s':=.pv (.int .i64 ((j+1:Nat):Int))) rfl (.int (wrap_succ (by omega)))
   obtain ⟨F,hS⟩:=hS.nm [18,17,12,11,10,6,4,3,19] [103,102,101,0] rfl rfl
   exact ⟨(j+1),F,⟨by omega,(fun hne q h9=>by rcases Nat.lt_or_eq_of_le (Nat.le_of_lt_succ h9) with h8 | h8;exact hq2 hne q h8;rw [h8];exact hnv hne)⟩,hS,by omega⟩
  have hil:j=(Zas (Go.Gm.nth g.txs i)).length:=by simp at hc1;omega
  have hno:Zka t (Go.Gm.nth g.txs i)=false:=by
    unfold Zka
    by_cases hne:(Go.Gm.nth g.txs i).id≠t.id
    · rw [ZkF (by rw [← hil];exact hq2 hne),Bool.and_false]
    · rw [decide_eq_false hne,Bool.false_and]
  refine wp_exit (Zi (Zi (Zl (Zh (Zb ?_)))))
  refine Za hS (qp r1 (qM rfl rfl qZ)) hB [12,11,10,4,3] [103,102,101,0] rfl rfl fun a w F hS=>Zb ?_
  replace hS:=hS.ent (i:=12) (s':=.pv (.int .i64 ((i+1:Nat):Int))) rfl (.int (wrap_succ (by omega)))
  obtain ⟨F,hS⟩:=hS.nm [11,10,4,3,12] [102,101,0] rfl rfl
  exact ⟨(i+1),F,⟨by omega,(fun q h9=>by rcases Nat.lt_or_eq_of_le (Nat.le_of_lt_succ h9) with h8 | h8;exact hqo q h8;rw [h8];exact hno)⟩,hS,by omega⟩
 have hil:i=g.txs.length:=by simp at hc0;omega
 have hg:false=Zen g t:=(ZkF (by rw [← hil];exact hq)).symm
 refine wp_exit (Zi (Zi (Zl (Zb (wp_seq ?_)))))
 refine Za hS qB hB [4] [102,101,0] rfl rfl fun a w F hS=>Zb (wp_ret ?_)
 refine Zm hfr hS rfl rfl rfl (.bool hg)
theorem Zr7 (g:HistD) (t:TxD) (there:Int) (wanted:Bool) (hs:Za0 g) (ht:t.ops.length≤1000):FnP Tryz.prog 92 [.agg (Zo g),.agg (rTx t),.int .i64 there,.bool wanted] (.tup [.int .i64 (mayH g t there wanted).1,.int .i64 (mayH g t there wanted).2]):=by
 refine FnP.mk Tryz.func92 rfl Tryz.ntmps92 rfl ?_
 intro B a w F hB hfr hS
 have hsl:=hs.1.1
 refine wp_seq ?_
 refine Zc hS (qx 101 r1 (qx 102 r1 (qI (qI qZ)))) hB [9,8,5,4,3,2] [102,101,0] (fun _=>rfl) (fun _=>rfl) fun τ a w F hS=>?_
 try dsimp only [RS.sub,SF.sub,CF.sub,csub,Anc.sub,List.map,zCF,Zo,rTx,Zz,ZQ,rInt,rOp] at hS
 generalize τ 4=v4 at hS
 generalize τ 5=v5 at hS
 refine Zb (wp_seq (wp_seq ?_))
 refine Za hS (qe 2 101 r1 r1 (qf (oP (Zd4 g hs) Tryz.func7 (Args.one (.pagg .t))) r1 qz (qf (o_not .t) r1 qz qZ))) hB [15,9,8,5,4,3,2] [102,101,0] rfl rfl fun a w F hS=>Zb ?_
 refine Zd hS rfl (fun hc0=>?_) (fun hc0=>?_)
 ·skip
  have hr:¬ Zx g:=by simpa using hc0
  have hg:mayH g t there wanted=(0,5):=by unfold mayH;rw [if_pos hr]
  refine wp_seq ?_
  refine Za hS (qI (qI qZ)) hB [9,8,5,4,3,2] [102,101,0] rfl rfl fun a w F hS=>Zb (wp_ret (Ze ?_))
  refine Zr hfr hS rfl (.tmp rfl (.tmp rfl .nil)) (.two (.int (by rw [hg])) (.int (by rw [hg])))
 have hr:Zx g:=by simpa using hc0
 have hrr:=Zq hr
 refine wp_skip (Zb (wp_seq (wp_seq ?_)))
 refine Za hS (qe 3 102 r1 r1 (qf (oP (ZiJ t) Tryz.func23 (Args.one (.pagg .t))) r1 qz (qN rfl rfl qZ))) hB [10,9,8,5,4,3,2] [102,101,0] rfl rfl fun a w F hS=>Zb (wp_seq ?_)
 refine Za hS (qM rfl rfl (qf (o_neq .t qi) r1 qz qZ)) hB [19,10,9,8,5,4,3,2] [102,101,0] rfl rfl fun a w F hS=>Zb ?_
 refine Zd hS rfl (fun hc1=>?_) (fun hc1=>?_)
 ·skip
  have hrt:ZU t≠0:=by simpa using hc1
  have hg:mayH g t there wanted=(0,ZU t):=by unfold mayH;rw [if_neg (Decidable.not_not.2 hr),if_pos hrt]
  refine wp_seq ?_
  refine Za hS (qM rfl rfl (qI (qN rfl rfl qZ))) hB [9,8,5,4,3,2] [102,101,0] rfl rfl fun a w F hS=>Zb (wp_ret (Ze ?_))
  refine Zr hfr hS rfl (.tmp rfl (.tmp rfl .nil)) (.two (.int (by rw [hg])) (.int (by rw [hg])))
 have hrt:¬ ZU t≠0:=by simpa using hc1
 refine wp_skip (Zb (wp_seq ?_))
 refine Za hS (qe 2 101 r1 r1 (qg 0 102 r1 r1 (qa 102 r1 r1 (qf (oP (Zon g t.id hs.1 hrr.1) Tryz.func98 (Args.two (.pagg .t) .t)) r2 qz (qM rfl rfl (qf (o_extract .t rfl) r1 qz (qf (o_extract .t rfl) r1 qz (qN rfl rfl (qN rfl rfl qZ))))))))) hB [12,11,9,8,5,4,3,2] [102,101,0] rfl rfl fun a w F hS=>Zb (wp_seq (wp_block (wp_seq ?_)))
 refine Za hS (qM rfl rfl (qM rfl rfl (qf (Zqg Tryz.underlying4 .t .t) r2 qz (qN rfl rfl qZ)))) hB [28,11,9,8,5,4,2] [102,101,0] rfl rfl fun a w F hS=>Zb ?_
 refine Zd hS rfl (fun hc2=>?_) (fun hc2=>?_)
 ·skip
  have hwt:isK TxD.id t.id g.txs≠wanted:=by simpa using hc2
  have hg:mayH g t there wanted=(0,there):=by unfold mayH;rw [if_neg (Decidable.not_not.2 hr),if_neg hrt,if_pos hwt]
  refine wp_seq ?_
  refine Za hS (qM rfl rfl (qI (qN rfl rfl qZ))) hB [11,9,8] [102,101,0] rfl rfl fun a w F hS=>Zb (wp_ret (Zf (Ze ?_)))
  refine Zr hfr hS rfl (.tmp rfl (.tmp rfl .nil)) (.two (.int (by rw [hg])) (.int (by rw [hg])))
 have hwt:¬ isK TxD.id t.id g.txs≠wanted:=by simpa using hc2
 refine wp_seq ?_
 refine Za hS (qe 2 101 r1 r1 (qe 3 102 r1 r1 (qf (oP (ZkJ g t hs.1 ht) Tryz.func24 (Args.two (.pagg .t) (.pagg .t))) r2 qz (qf (o_not .t) r1 qz (qN rfl rfl qZ))))) hB [33,11,9,8] [102,101,0] rfl rfl fun a w F hS=>Zb ?_
 refine Zd hS rfl (fun hc3=>?_) (fun hc3=>?_)
 ·skip
  have hg:mayH g t there wanted=(0,6):=by unfold mayH;rw [if_neg (Decidable.not_not.2 hr),if_neg hrt,if_neg hwt,if_pos (by simpa using hc3)]
  refine wp_seq ?_
  refine Za hS (qI (qI qZ)) hB [11,9,8] [102,101,0] rfl rfl fun a w F hS=>Zb (wp_ret (Zf (Ze ?_)))
  refine Zr hfr hS rfl (.tmp rfl (.tmp rfl .nil)) (.two (.int (by rw [hg])) (.int (by rw [hg])))
 have hg:mayH g t there wanted=(((lowK TxD.id t.id g.txs:Nat):Int),0):=by unfold mayH;rw [if_neg (Decidable.not_not.2 hr),if_neg hrt,if_neg hwt,if_neg (by simpa using hc3)]
 refine wp_skip (Zh (Zb (wp_seq ?_)))
 refine Za hS (qM rfl rfl (qN rfl rfl (qI qZ))) hB [9,8] [102,101,0] rfl rfl fun a w F hS=>Zb (wp_ret ?_)
 refine Zr hfr hS rfl (.tmp rfl (.tmp rfl .nil)) (.two (.int (by rw [hg])) (.int (by rw [hg])))
end Go.Proofs.YtjhapicamnijnaaGreatDoor
