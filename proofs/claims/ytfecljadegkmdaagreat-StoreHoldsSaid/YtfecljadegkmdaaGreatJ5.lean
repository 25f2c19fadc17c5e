/- Laws and walks. No condition beyond what each says. -/
import Derived.Test.YtfecljadegkmdaaGreatJ4
namespace Go.Proofs.YtfecljadegkmdaaGreat
open Go Go.Gm Tryz
set_option linter.unusedVariables false
set_option linter.unusedSimpArgs false
set_option maxHeartbeats 4000000
set_option maxRecDepth 8000
def ZkV:Zr:=⟨0,[]⟩
theorem Znm (u v:Zr):FnP prog 80 [.agg (ZB u),.agg (ZB v)] (.bool (decide (u=v))):=by
 refine FnP.mk func80 Z ntmps80 Z fun B a w F V hfr O=>Ya ?_
 refine Zb O (qx 101 r1 (qx 102 r1 qB)) V [4,3,2] [102,101,0] (fun _=>rfl) (fun _=>rfl) fun τ a w F O=>?_
 try dsimp only [RS.sub,SF.sub,CF.sub,csub,Anc.sub,List.map,zCF,Zs,rTx,ZB,Zaq,ZG,rOp] at O
 generalize τ 2=v2,τ 3=v3 at O
 refine Za (Ya (rZ O (qg 0 101 r1 r1 (qa 101 r1 r1 (qg 0 102 r1 r1 (qa 102 r1 r1 (qf (o_eql .t .t) r2 qz (qR rr (qv 1 101 Z r2 r1 (qw 101 Z r2 r1 (qv 1 102 Z r2 r1 (qw 102 Z r2 r1 (qk Z (fun h=>oP (ZoB u.txs v.txs) func143 (Args.two (.w h) (.w h))) r3 qz (qf (ZT .t .t) r2 qz (qO rr qZ))))))))))))) V [4] [102,101,0] fun O=>Yi ?_))
 refine ZP hfr O Z Z Z (.bool Zo9)
theorem ZgX (x:TxD):FnP prog 77 [.agg (rTx x)] (.int .i64 x.id):=by
 refine FnP.mk func77 Z ntmps77 Z fun B a w F V hfr O=>Ya ?_
 refine Zb O (qx 101 r1 (qI qZ)) V [2,1] [101,0] (fun _=>rfl) (fun _=>rfl) fun τ a w F O=>?_
 try dsimp only [RS.sub,SF.sub,CF.sub,csub,Anc.sub,List.map,zCF,Zs,rTx,ZB,Zaq,ZG,rOp] at O
 generalize τ 1=v1 at O
 refine Za (Ya (rZ O (qg 0 101 r1 r1 (qa 101 r1 r1 (qO rr qZ))) V [2] [101,0] fun O=>Yi ?_))
 refine ZP hfr O Z Z Z (.int Z)
theorem ZgT (x:Zr):FnP prog 79 [.agg (ZB x)] (.int .i64 x.key):=by
 refine FnP.mk func79 Z ntmps79 Z fun B a w F V hfr O=>Ya ?_
 refine Zb O (qx 101 r1 (qI qZ)) V [2,1] [101,0] (fun _=>rfl) (fun _=>rfl) fun τ a w F O=>?_
 try dsimp only [RS.sub,SF.sub,CF.sub,csub,Anc.sub,List.map,zCF,Zs,rTx,ZB,Zaq,ZG,rOp] at O
 generalize τ 1=v1 at O
 refine Za (Ya (rZ O (qg 0 101 r1 r1 (qa 101 r1 r1 (qO rr qZ))) V [2] [101,0] fun O=>Yi ?_))
 refine ZP hfr O Z Z Z (.int Z)
theorem Zj8 (l:List TxD) (hll:l.length≤1000000):FnP prog 176 [.sl rTx l,.clos 77 []] (.bool (decide (ZY TxD.id l))):=by
 refine FnP.mk func176 Z ntmps176 Z fun B a w F V hfr O=>Ya ?_
 refine rZ O qB V [4,1,0] [0] fun O=>(Ya (Ya ?_))
 refine rZ O (qI qZ) V [5,4,1,0] [0] fun O=>Ye ?_
 replace O:=O.ent (i:=5) (s':=.pv (.int .i64 ((0+1:Nat):Int))) Z (.int Z)
 refine Zo (σ:=Nat) [0,1,4] [0] (fun s=>[(5,.pv (.int .i64 ((s+1:Nat):Int)))]) (fun s=>[]) (fun s=>∀ q,q<s→q+1<l.length→TxD.id (Nn l q)<TxD.id (Nn l (q+1))) (fun s=>l.length - s) (0) O ⟨rfl,rfl,rfl,rfl,tv⟩ ⟨rfl,tv⟩ (fun q hq=>absurd hq (YR q)) ?_
 clear O;intro i a w F hC O
 try dsimp only at hC
 obtain ⟨F,O⟩:=O.nM [5,4,1,0] [0]
 try dsimp only at O
 have hq:=hC
 refine Ya (Ya (rZ O (qR rr (qR rr (qu Ybw r1 (qL r2)))) V [9,5,4,1,0] [0] fun O=>?_))
 refine Zd O Z (fun hc0=>?_) (fun hc0=>?_)
 ·have hil:i+1<l.length:=by simp at hc0;omega
  have hwi:IntKind.wrap .i64 (((i+1:Nat):Int) - 1)=(i:Int):=by rw [Zc ow];omega
  refine Yf (Za (Ya (Ye (Ya (Zq O (qR rr (qR rr (qR rr (qf (o_sub .t qi) r1 qz (qf (ZaS (sz:=3) (.mk Ybw kr) (by intro x;rfl) .t .t (by rw [hwi];omega) (by rw [hwi];omega)) r2 qz (qf (oR true 3 .t) r1 qz (qf (o_callClosP (avs:=[.agg (rTx (Nn l (IntKind.wrap .i64 (((i+1:Nat):Int) - 1)).toNat))]) .t (ZgX (Nn l (IntKind.wrap .i64 (((i+1:Nat):Int) - 1)).toNat)) func77 Z kr (Args.one (.pagg .t))) r2 qz (qR rr (qR rr (qR rr (qy 3 Ybw r2 (qf (oR true 3 .t) r1 qz (qf (o_callClosP (avs:=[.agg (rTx (Nn l (((i+1:Nat):Int)).toNat))]) .t (ZgX (Nn l (((i+1:Nat):Int)).toNat)) func77 Z kr (Args.one (.pagg .t))) r2 qz (qf (ZeG .t .t) r2 qz qZ)))))))))))))) V [25,5,4,1,0] [0] Z Z fun a w F O=>?_)))))
  try dsimp only [List.map,xD,xE,xT,xU,ldSF,Zs,rTx,ZB,Zaq,ZG,rOp] at O
  try simp only [Yg] at O
  refine Za (Zd O Z (fun hc1=>?_) (fun hc1=>?_))
  ·have h9:TxD.id (Nn l (i+1))≤TxD.id (Nn l i):=by have h8:=hc1;try rw [hwi] at h8;simpa using h8
   have hg:false=decide (ZY TxD.id l):=(YK fun e=>by have:=ZjQ e hil;omega).symm
   refine Ya (rZ O qB V [5,4,1,0] [0] fun O=>(Yi (ZC (Zk (Zk (ZC (Zk ?_)))))))
   refine ZP hfr O Z Z Z (.bool hg)
  have h9:TxD.id (Nn l i)<TxD.id (Nn l (i+1)):=by have h8:=hc1;try rw [hwi] at h8;simpa using h8
  have hC2:∀ q,q<i+1→q+1<l.length→TxD.id (Nn l q)<TxD.id (Nn l (q+1)):=fun q h1 h2=>by rcases YG (YN h1) with h8 | h8;exact hq q h8 h2;rw [h8];exact h9
  refine Yf (Zm (Za (rZ O (qR rr (qp r1 (qO rr qZ))) V [5,4,1,0] [0] fun O=>?_)))
  replace O:=O.ent (i:=5) (s':=.pv (.int .i64 ((i+1+1:Nat):Int))) Z (.int (Zl ow))
  obtain ⟨F,O⟩:=O.nM [4,1,0,5] [0]
  exact ⟨(i+1),F,hC2,O,by omega⟩
 have hg:true=decide (ZY TxD.id l):=(YX (ZeQ fun q hq2=>hq q (by simp at hc0;omega) hq2)).symm
 refine Yr (Zj (Zj (Zv (Za (Ya (rZ O qB V [4] [0] fun O=>Yi ?_))))))
 refine ZP hfr O Z Z Z (.bool hg)
theorem Zka (l:List Zr) (hll:l.length≤1000000):FnP prog 177 [.sl ZB l,.clos 79 []] (.bool (decide (ZY Zr.key l))):=by
 refine FnP.mk func177 Z ntmps177 Z fun B a w F V hfr O=>Ya ?_
 refine rZ O qB V [4,1,0] [0] fun O=>(Ya (Ya ?_))
 refine rZ O (qI qZ) V [5,4,1,0] [0] fun O=>Ye ?_
 replace O:=O.ent (i:=5) (s':=.pv (.int .i64 ((0+1:Nat):Int))) Z (.int Z)
 refine Zo (σ:=Nat) [0,1,4] [0] (fun s=>[(5,.pv (.int .i64 ((s+1:Nat):Int)))]) (fun s=>[]) (fun s=>∀ q,q<s→q+1<l.length→Zr.key (Nn l q)<Zr.key (Nn l (q+1))) (fun s=>l.length - s) (0) O ⟨rfl,rfl,rfl,rfl,tv⟩ ⟨rfl,tv⟩ (fun q hq=>absurd hq (YR q)) ?_
 clear O;intro i a w F hC O
 try dsimp only at hC
 obtain ⟨F,O⟩:=O.nM [5,4,1,0] [0]
 try dsimp only at O
 have hq:=hC
 refine Ya (Ya (rZ O (qR rr (qR rr (qu Ybx r1 (qL r2)))) V [9,5,4,1,0] [0] fun O=>?_))
 refine Zd O Z (fun hc0=>?_) (fun hc0=>?_)
 ·have hil:i+1<l.length:=by simp at hc0;omega
  have hwi:IntKind.wrap .i64 (((i+1:Nat):Int) - 1)=(i:Int):=by rw [Zc ow];omega
  refine Yf (Za (Ya (Ye (Ya (Zq O (qR rr (qR rr (qR rr (qf (o_sub .t qi) r1 qz (qf (ZaS (sz:=2) (.mk Ybx kr) (by intro x;rfl) .t .t (by rw [hwi];omega) (by rw [hwi];omega)) r2 qz (qf (oR true 2 .t) r1 qz (qf (o_callClosP (avs:=[.agg (ZB (Nn l (IntKind.wrap .i64 (((i+1:Nat):Int) - 1)).toNat))]) .t (ZgT (Nn l (IntKind.wrap .i64 (((i+1:Nat):Int) - 1)).toNat)) func79 Z kr (Args.one (.pagg .t))) r2 qz (qR rr (qR rr (qR rr (qy 2 Ybx r2 (qf (oR true 2 .t) r1 qz (qf (o_callClosP (avs:=[.agg (ZB (Nn l (((i+1:Nat):Int)).toNat))]) .t (ZgT (Nn l (((i+1:Nat):Int)).toNat)) func79 Z kr (Args.one (.pagg .t))) r2 qz (qf (ZeG .t .t) r2 qz qZ)))))))))))))) V [25,5,4,1,0] [0] Z Z fun a w F O=>?_)))))
  try dsimp only [List.map,xD,xE,xT,xU,ldSF,Zs,rTx,ZB,Zaq,ZG,rOp] at O
  try simp only [Yg] at O
  refine Za (Zd O Z (fun hc1=>?_) (fun hc1=>?_))
  ·have h9:Zr.key (Nn l (i+1))≤Zr.key (Nn l i):=by have h8:=hc1;try rw [hwi] at h8;simpa using h8
   have hg:false=decide (ZY Zr.key l):=(YK fun e=>by have:=ZjQ e hil;omega).symm
   refine Ya (rZ O qB V [5,4,1,0] [0] fun O=>(Yi (ZC (Zk (Zk (ZC (Zk ?_)))))))
   refine ZP hfr O Z Z Z (.bool hg)
  have h9:Zr.key (Nn l i)<Zr.key (Nn l (i+1)):=by have h8:=hc1;try rw [hwi] at h8;simpa using h8
  have hC2:∀ q,q<i+1→q+1<l.length→Zr.key (Nn l q)<Zr.key (Nn l (q+1)):=fun q h1 h2=>by rcases YG (YN h1) with h8 | h8;exact hq q h8 h2;rw [h8];exact h9
  refine Yf (Zm (Za (rZ O (qR rr (qp r1 (qO rr qZ))) V [5,4,1,0] [0] fun O=>?_)))
  replace O:=O.ent (i:=5) (s':=.pv (.int .i64 ((i+1+1:Nat):Int))) Z (.int (Zl ow))
  obtain ⟨F,O⟩:=O.nM [4,1,0,5] [0]
  exact ⟨(i+1),F,hC2,O,by omega⟩
 have hg:true=decide (ZY Zr.key l):=(YX (ZeQ fun q hq2=>hq q (by simp at hc0;omega) hq2)).symm
 refine Yr (Zj (Zj (Zv (Za (Ya (rZ O qB V [4] [0] fun O=>Yi ?_))))))
 refine ZP hfr O Z Z Z (.bool hg)
theorem Zhf (l:List TxD) (n:Int):FnP prog 141 [.sl rTx l,.int .i64 n,.clos 77 []] (.tup [.agg (rTx ((ZO TxD.id l n).getD zeroT)),.bool (ZO TxD.id l n).isSome]):=by
 refine FnP.mk func141 Z ntmps141 Z fun B a w F V hfr O=>?_
 have hxl:=Sat.lenSl O (i:=0) rfl
 refine Ya (Zb O (qf (oH [.int .i64 0,.bool false,.slice none 0 0] 101) trivial qz qB) V [7,6,2,1,0] [101,0] (fun _=>rfl) (fun _=>rfl) fun τ a w F O=>?_)
 try dsimp only [RS.sub,SF.sub,CF.sub,csub,Anc.sub,List.map,zCF,Zs,rTx,ZB,Zaq,ZG,rOp] at O
 generalize τ 6=v6 at O
 refine Za (Ya (Ya (rZ O (qR rr (qu Ybw r1 (qJ qZ))) V [13,12,11,7,6,2,1] [101,0] fun O=>Ye ?_)))
 refine Zo (σ:=(Nat)) [1,2,6,7,11,12] [0,101] (fun s=>[(13,.pv (.int .i64 (s:Int)))]) (fun s=>[]) (fun s=>s≤l.length∧(∀ k,k<s→TxD.id (Nn l k)≠n)) (fun s=>l.length - s) (0) O ⟨rfl,rfl,rfl,rfl,rfl,rfl,rfl,tv⟩ ⟨rfl,rfl,tv⟩ ⟨Yz _,fun k hk=>absurd hk (YR k)⟩ ?_
 clear O;intro i a w F hC O
 try dsimp only at hC
 obtain ⟨F,O⟩:=O.nM [13,12,11,7,6,2,1] [101,0]
 try dsimp only at O
 obtain ⟨hi,hq⟩:=hC
 refine Ya (rZ O (qL r2) V [14,13,12,11,7,6,2,1] [101,0] fun O=>Ya ?_)
 refine Zd O Z (fun hc0=>?_) (fun hc0=>?_)
 ·have hil:i<l.length:=by simp at hc0;omega
  refine Yf (Za (Ya (Ye (Ya (Zb O (qy 3 Ybw r2 (qf (oR true 3 .t) r1 qz (qf (oH [.int .i64 0,.bool false,.slice none 0 0] 102) trivial qz (qS 3 102 r2 r1 qZ)))) V [13,12,11,9,7,6,2,1] [102,101,0] (fun _=>rfl) (fun _=>rfl) fun τ a w F O=>?_)))))
  try dsimp only [RS.sub,SF.sub,CF.sub,csub,Anc.sub,List.map,Ze,xL,xM,Nat.reduceAdd,xD,xE,xT,xU,xC,xN,zCF,ldSF,Zs,rTx,ZB,Zaq,ZG,rOp] at O
  generalize τ 9=v9 at O
  try simp only [Yg] at O
  refine Za (Ya (rZ O (qR rr (qe 3 102 r1 r1 (qf (o_callClosP (avs:=[.agg (rTx (Nn l i))]) .t (ZgX (Nn l i)) func77 Z kr (Args.one (.pagg .t))) r2 qz (qR rr (qf (o_eql .t .t) r2 qz qZ))))) V [21,13,12,11,9,7,6,2,1] [102,101,0] fun O=>?_))
  refine Zd O Z (fun hc1=>?_) (fun hc1=>?_)
  ·have hg:ZO TxD.id l n=some (Nn l i):=Zjt hil (by simpa using hc1) hq
   refine Ya (rZ O (qe 3 102 r1 r1 (qs 3 101 r2 r1 qB)) V [13,12,11,7,6,2,1] [102,101,0] fun O=>(Yi (ZC (Zk (Zk (ZC (Zk ?_)))))))
   refine Za4 hfr O Z (.cl 101 true 3 Z Z (.tmp Z .nil)) (.two (by rw [hg];first | exact .aggU Z Z | exact .aggLe Z ⟨.refl,.refl,.nilSl,tv⟩) (.bool (by rw [hg];rfl)))
  have hne:TxD.id (Nn l i)≠n:=by simpa using hc1
  refine Yf (Zm (Za (rZ O (qp r1 (qR rr qZ)) V [13,12,11,7,6,2,1] [102,101,0] fun O=>?_)))
  replace O:=O.ent (i:=13) (s':=.pv (.int .i64 ((i+1:Nat):Int))) Z (.int (Zl ow))
  obtain ⟨F,O⟩:=O.nM [12,11,7,6,2,1,13] [101,0]
  exact ⟨(i+1),F,⟨by omega,(fun k hk=>by rcases YG (YN hk) with h9 | h9;exact hq k h9;rw [h9];exact hne)⟩,O,by omega⟩
 have hil:i=l.length:=by simp at hc0;omega
 have hg:ZO TxD.id l n=none:=Zgh (by rw [← hil];exact hq)
 refine Yr (Zj (Zj (Zv (Za (Ya (Zb O (qf (oH [.int .i64 0,.bool false,.slice none 0 0] 103) trivial qz qZ) V [10,7,6] [103,101,0] (fun _=>rfl) (fun _=>rfl) fun τ a w F O=>?_))))))
 try dsimp only [RS.sub,SF.sub,CF.sub,csub,Anc.sub,List.map,zCF,Zs,rTx,ZB,Zaq,ZG,rOp] at O
 generalize τ 10=v10 at O
 refine Za (Ya (rZ O (qe 3 103 r1 r1 (qs 3 101 r2 r1 qB)) V [7,6] [103,101,0] fun O=>Yi ?_))
 refine Za4 hfr O Z (.cl 101 true 3 Z Z (.tmp Z .nil)) (.two (by rw [hg];first | exact .aggU Z Z | exact .aggLe Z ⟨.refl,.refl,.nilSl,tv⟩) (.bool (by rw [hg];rfl)))
theorem Zg3 (l:List Zr) (n:Int):FnP prog 142 [.sl ZB l,.int .i64 n,.clos 79 []] (.tup [.agg (ZB ((ZO Zr.key l n).getD ZkV)),.bool (ZO Zr.key l n).isSome]):=by
 refine FnP.mk func142 Z ntmps142 Z fun B a w F V hfr O=>?_
 have hxl:=Sat.lenSl O (i:=0) rfl
 refine Ya (Zb O (qf (oH [.int .i64 0,.slice none 0 0] 101) trivial qz qB) V [7,6,2,1,0] [101,0] (fun _=>rfl) (fun _=>rfl) fun τ a w F O=>?_)
 try dsimp only [RS.sub,SF.sub,CF.sub,csub,Anc.sub,List.map,zCF,Zs,rTx,ZB,Zaq,ZG,rOp] at O
 generalize τ 6=v6 at O
 refine Za (Ya (Ya (rZ O (qR rr (qu Ybx r1 (qJ qZ))) V [13,12,11,7,6,2,1] [101,0] fun O=>Ye ?_)))
 refine Zo (σ:=(Nat)) [1,2,6,7,11,12] [0,101] (fun s=>[(13,.pv (.int .i64 (s:Int)))]) (fun s=>[]) (fun s=>s≤l.length∧(∀ k,k<s→Zr.key (Nn l k)≠n)) (fun s=>l.length - s) (0) O ⟨rfl,rfl,rfl,rfl,rfl,rfl,rfl,tv⟩ ⟨rfl,rfl,tv⟩ ⟨Yz _,fun k hk=>absurd hk (YR k)⟩ ?_
 clear O;intro i a w F hC O
 try dsimp only at hC
 obtain ⟨F,O⟩:=O.nM [13,12,11,7,6,2,1] [101,0]
 try dsimp only at O
 obtain ⟨hi,hq⟩:=hC
 refine Ya (rZ O (qL r2) V [14,13,12,11,7,6,2,1] [101,0] fun O=>Ya ?_)
 refine Zd O Z (fun hc0=>?_) (fun hc0=>?_)
 ·have hil:i<l.length:=by simp at hc0;omega
  refine Yf (Za (Ya (Ye (Ya (Zb O (qy 2 Ybx r2 (qf (oR true 2 .t) r1 qz (qf (oH [.int .i64 0,.slice none 0 0] 102) trivial qz (qS 2 102 r2 r1 qZ)))) V [13,12,11,9,7,6,2,1] [102,101,0] (fun _=>rfl) (fun _=>rfl) fun τ a w F O=>?_)))))
  try dsimp only [RS.sub,SF.sub,CF.sub,csub,Anc.sub,List.map,Ze,xL,xM,Nat.reduceAdd,xD,xE,xT,xU,xC,xN,zCF,ldSF,Zs,rTx,ZB,Zaq,ZG,rOp] at O
  generalize τ 9=v9 at O
  try simp only [Yg] at O
  refine Za (Ya (rZ O (qR rr (qe 2 102 r1 r1 (qf (o_callClosP (avs:=[.agg (ZB (Nn l i))]) .t (ZgT (Nn l i)) func79 Z kr (Args.one (.pagg .t))) r2 qz (qR rr (qf (o_eql .t .t) r2 qz qZ))))) V [21,13,12,11,9,7,6,2,1] [102,101,0] fun O=>?_))
  refine Zd O Z (fun hc1=>?_) (fun hc1=>?_)
  ·have hg:ZO Zr.key l n=some (Nn l i):=Zjt hil (by simpa using hc1) hq
   refine Ya (rZ O (qe 2 102 r1 r1 (qs 2 101 r2 r1 qB)) V [13,12,11,7,6,2,1] [102,101,0] fun O=>(Yi (ZC (Zk (Zk (ZC (Zk ?_)))))))
   refine Za4 hfr O Z (.cl 101 true 2 Z Z (.tmp Z .nil)) (.two (by rw [hg];first | exact .aggU Z Z | exact .aggLe Z ⟨.refl,.nilSl,tv⟩) (.bool (by rw [hg];rfl)))
  have hne:Zr.key (Nn l i)≠n:=by simpa using hc1
  refine Yf (Zm (Za (rZ O (qp r1 (qR rr qZ)) V [13,12,11,7,6,2,1] [102,101,0] fun O=>?_)))
  replace O:=O.ent (i:=13) (s':=.pv (.int .i64 ((i+1:Nat):Int))) Z (.int (Zl ow))
  obtain ⟨F,O⟩:=O.nM [12,11,7,6,2,1,13] [101,0]
  exact ⟨(i+1),F,⟨by omega,(fun k hk=>by rcases YG (YN hk) with h9 | h9;exact hq k h9;rw [h9];exact hne)⟩,O,by omega⟩
 have hil:i=l.length:=by simp at hc0;omega
 have hg:ZO Zr.key l n=none:=Zgh (by rw [← hil];exact hq)
 refine Yr (Zj (Zj (Zv (Za (Ya (Zb O (qf (oH [.int .i64 0,.slice none 0 0] 103) trivial qz qZ) V [10,7,6] [103,101,0] (fun _=>rfl) (fun _=>rfl) fun τ a w F O=>?_))))))
 try dsimp only [RS.sub,SF.sub,CF.sub,csub,Anc.sub,List.map,zCF,Zs,rTx,ZB,Zaq,ZG,rOp] at O
 generalize τ 10=v10 at O
 refine Za (Ya (rZ O (qe 2 103 r1 r1 (qs 2 101 r2 r1 qB)) V [7,6] [103,101,0] fun O=>Yi ?_))
 refine Za4 hfr O Z (.cl 101 true 2 Z Z (.tmp Z .nil)) (.two (by rw [hg];first | exact .aggU Z Z | exact .aggLe Z ⟨.refl,.nilSl,tv⟩) (.bool (by rw [hg];rfl)))
theorem Zpb (c d:List TxD) (hll:c.length≤1000000):FnP prog 76 [.sl rTx c,.sl rTx d,.clos 77 [],.clos 42 []] (.sl rTx (Zay TxD.id c d)):=by
 refine FnP.mk func76 Z ntmps76 Z fun B a w F V hfr O=>Ya ?_
 refine rZ O (qC qZ) V [8,3,2,1,0] [0] fun O=>Ya ?_
 refine rZ O (qC qZ) V [9,8,3,2,1,0] [0] fun O=>(Ya (Ya ?_))
 refine rZ O (qR rr (qu Ybw r1 (qJ qZ))) V [16,15,14,9,8,3,2,1] [0] fun O=>Ye ?_
 replace O:=O.fresh 50 rfl
 replace O:=O.turn 50 Z (ZaI (T:=36) (sz:=3) (R:=rTx))
 refine Zo (σ:=(Nat)×(Value)×(List TxD)) [1,2,3,8,14,15] [0] (fun s=>[(16,.pv (.int .i64 (s.1:Int))),(9,.pv (.is s.2.1))]) (fun s=>[(50,.ob (.val s.2.1) (ZJ 36 3 rTx s.2.2))]) (fun s=>s.1≤c.length∧(s.2.2=Zay TxD.id (c.take s.1) d)) (fun s=>c.length - s.1) ((0),(.slice none 0 0),([])) O ⟨rfl,rfl,rfl,rfl,rfl,rfl,rfl,rfl,tv⟩ ⟨rfl,rfl,tv⟩ ⟨Yz _,rfl⟩ ?_
 clear O;intro s a w F hC O
 obtain ⟨i,v,out⟩:=s
 try dsimp only at hC
 obtain ⟨F,O⟩:=O.nM [16,15,14,9,8,3,2,1] [50,0]
 try dsimp only at O
 obtain ⟨hi,hq⟩:=hC
 have hol:out.length≤i:=by rw [hq];exact Yac (Zis _ _) (by rw [Yk];omega)
 refine Ya (rZ O (qL r2) V [17,16,15,14,9,8,3,2,1] [50,0] fun O=>Ya ?_)
 refine Zd O Z (fun hc0=>?_) (fun hc0=>?_)
 ·have hil:i<c.length:=by simp at hc0;omega
  have hcd:(!(ZO TxD.id d (TxD.id (Nn c i))).isSome || !decide ((Nn c i)=(ZO TxD.id d (TxD.id (Nn c i))).getD zeroT))=decide ((ZO TxD.id d (TxD.id (Nn c i)))≠some (Nn c i)):=by cases hsk:(ZO TxD.id d (TxD.id (Nn c i))) with | none=>simp | some z=>rw [Yap];simp;exact not_congr ⟨Eq.symm,Eq.symm⟩
  refine Yf (Za (Ya (Ye (Ya (Zb O (qy 3 Ybw r2 (qf (oR true 3 .t) r1 qz (qf (oH [.int .i64 0,.bool false,.slice none 0 0] 101) trivial qz (qS 3 101 r2 r1 qZ)))) V [16,15,14,11,9,8,3,2,1] [101,50,0] (fun _=>rfl) (fun _=>rfl) fun τ a w F O=>?_)))))
  try dsimp only [RS.sub,SF.sub,CF.sub,csub,Anc.sub,List.map,Ze,xL,xM,Nat.reduceAdd,xD,xE,xT,xU,xC,xN,zCF,ldSF,Zs,rTx,ZB,Zaq,ZG,rOp] at O
  generalize τ 11=v11 at O
  try simp only [Yg] at O
  refine Za (Ya (Zb O (qR rr (qR rr (qe 3 101 r1 r1 (qf (o_callClosP (avs:=[.agg (rTx (Nn c i))]) .t (ZgX (Nn c i)) func77 Z kr (Args.one (.pagg .t))) r2 qz (qR rr (qf (oP (Zhf d (TxD.id (Nn c i))) func141 (Args.three .t .t .t)) r3 qz (qR rr (qf (o_extract .t Z) r1 qz (qf (o_extract .t Z) r1 qz (qf (oH [.int .i64 0,.bool false,.slice none 0 0] 102) trivial qz (qf (oA 3 102 .same (.conv .t .agg)) r2 r1 (qO rr qZ)))))))))))) V [16,15,14,13,12,11,9,8,3,2,1] [102,101,50,0] (fun _=>rfl) (fun _=>rfl) fun τ a w F O=>?_))
  try dsimp only [RS.sub,SF.sub,CF.sub,csub,Anc.sub,List.map,Ze,xL,xM,Nat.reduceAdd,xD,xE,xT,xU,xC,xN,zCF,ldSF,Zs,rTx,ZB,Zaq,ZG,rOp] at O
  generalize τ 12=v12 at O
  refine Za (Ya (rZ O (qR rr (qf (ZaA .t) r1 qz (qR rr (qm Z Z Z Z (qk Z (fun h=>oL true 3 101 .is) r2 r1 (qk Z (fun h=>oL true 3 102 .is) r2 r1 (qk Z (fun h=>o_callClosP (avs:=[.agg (rTx (Nn c i)),.agg (rTx ((ZO TxD.id d (TxD.id (Nn c i))).getD zeroT))]) (.w h) (Zob (Nn c i) ((ZO TxD.id d (TxD.id (Nn c i))).getD zeroT)) func42 Z kr (Args.two (.pagg (.w h)) (.pagg (.w h)))) r4 qz (qk Z (fun h=>ZaA (.w h)) r2 qz (qf (ZaQ .t .t) r2 qz qZ))))))))) V [37,16,15,14,11,9,8,3,2,1] [102,101,50,0] fun O=>?_))
  refine Zd O Z (fun hc1=>?_) (fun hc1=>?_)
  ·have h9:(!(ZO TxD.id d (TxD.id (Nn c i))).isSome || !decide ((Nn c i)=(ZO TxD.id d (TxD.id (Nn c i))).getD zeroT))=true:=hc1
   rw [hcd] at h9
   have hst9:out ++ [(Nn c i)] = Zay TxD.id (c.take (i+1)) d:=by rw [hq];unfold Zay;rw [ZaM hil,Yd h9]
   refine Zb O (qR rr (qe 3 101 r1 r1 (qf (Zy (sz:=3) (zs:=[.int .i64 0,.bool false,.slice none 0 0]) (r:=[(0,.tmp 39)]) (l:=[_,_,_]) Ybw kr kr kr kr Z Z (.agg Z .t kr kr .nil) Z) r1 qz (qf (Z1 (sz:=3) (bs:=40) 50 (.mk' Ybw kr kr) (by intro x;rfl) .is (.arr (l':=[(Nn c i)]) .t) (by simp only [Yb,Yp,Yx];omega) (by decide)) ⟨rfl,rfl,tv⟩ ⟨rfl,tv⟩ (qO rr qZ))))) V [16,15,14,9,8,3,2,1] [102,101,50,0] (fun _=>rfl) (fun _=>rfl) fun τ a w F O=>?_
   try dsimp only [RS.sub,SF.sub,CF.sub,csub,Anc.sub,List.map,Ze,xL,xM,Nat.reduceAdd,xD,xE,xT,xU,xC,xN,zCF,ldSF,Zs,rTx,ZB,Zaq,ZG,rOp] at O
   generalize τ 41=v41 at O
   refine Zm (Za (rZ O (qp r1 (qR rr qZ)) V [16,15,14,9,8,3,2,1] [102,101,50,0] fun O=>?_))
   replace O:=O.ent (i:=16) (s':=.pv (.int .i64 ((i+1:Nat):Int))) Z (.int (Zl ow))
   obtain ⟨F,O⟩:=O.nM [15,14,8,3,2,1,9,16] [0,50]
   exact ⟨((i+1),_,_),F,⟨by omega,hst9⟩,O,by omega⟩
  have h9:(!(ZO TxD.id d (TxD.id (Nn c i))).isSome || !decide ((Nn c i)=(ZO TxD.id d (TxD.id (Nn c i))).getD zeroT))=false:=hc1
  rw [hcd] at h9
  have hst9:out=Zay TxD.id (c.take (i+1)) d:=by rw [hq];unfold Zay;rw [ZaM hil,Yc (by rw [h9];simp),YD]
  refine Yf (Zm (Za (rZ O (qp r1 (qR rr qZ)) V [16,15,14,9,8,3,2,1] [102,101,50,0] fun O=>?_)))
  replace O:=O.ent (i:=16) (s':=.pv (.int .i64 ((i+1:Nat):Int))) Z (.int (Zl ow))
  obtain ⟨F,O⟩:=O.nM [15,14,8,3,2,1,9,16] [0,50]
  exact ⟨((i+1),_,_),F,⟨by omega,hst9⟩,O,by omega⟩
 have hil:i=c.length:=by simp at hc0;omega
 have hg:out=Zay TxD.id c d:=by rw [hq,hil,YM]
 refine Yr (Zj (Zj (Zv (Za (Ya (rZ O (qR rr (qO rr qZ)) V [8] [50,0] fun O=>Yi ?_))))))
 obtain ⟨F,O⟩:=O.give 50 8 Z rfl
 refine ZP hfr O Z Z Z (.sl (by rw [hg]))
theorem ZoV (c d:List Zr) (hll:c.length≤1000000):FnP prog 78 [.sl ZB c,.sl ZB d,.clos 79 [],.clos 80 []] (.sl ZB (Zay Zr.key c d)):=by
 refine FnP.mk func78 Z ntmps78 Z fun B a w F V hfr O=>Ya ?_
 refine rZ O (qC qZ) V [8,3,2,1,0] [0] fun O=>Ya ?_
 refine rZ O (qC qZ) V [9,8,3,2,1,0] [0] fun O=>(Ya (Ya ?_))
 refine rZ O (qR rr (qu Ybx r1 (qJ qZ))) V [16,15,14,9,8,3,2,1] [0] fun O=>Ye ?_
 replace O:=O.fresh 50 rfl
 replace O:=O.turn 50 Z (ZaI (T:=39) (sz:=2) (R:=ZB))
 refine Zo (σ:=(Nat)×(Value)×(List Zr)) [1,2,3,8,14,15] [0] (fun s=>[(16,.pv (.int .i64 (s.1:Int))),(9,.pv (.is s.2.1))]) (fun s=>[(50,.ob (.val s.2.1) (ZJ 39 2 ZB s.2.2))]) (fun s=>s.1≤c.length∧(s.2.2=Zay Zr.key (c.take s.1) d)) (fun s=>c.length - s.1) ((0),(.slice none 0 0),([])) O ⟨rfl,rfl,rfl,rfl,rfl,rfl,rfl,rfl,tv⟩ ⟨rfl,rfl,tv⟩ ⟨Yz _,rfl⟩ ?_
 clear O;intro s a w F hC O
 obtain ⟨i,v,out⟩:=s
 try dsimp only at hC
 obtain ⟨F,O⟩:=O.nM [16,15,14,9,8,3,2,1] [50,0]
 try dsimp only at O
 obtain ⟨hi,hq⟩:=hC
 have hol:out.length≤i:=by rw [hq];exact Yac (Zis _ _) (by rw [Yk];omega)
 refine Ya (rZ O (qL r2) V [17,16,15,14,9,8,3,2,1] [50,0] fun O=>Ya ?_)
 refine Zd O Z (fun hc0=>?_) (fun hc0=>?_)
 ·have hil:i<c.length:=by simp at hc0;omega
  have hcd:(!(ZO Zr.key d (Zr.key (Nn c i))).isSome || !decide ((Nn c i)=(ZO Zr.key d (Zr.key (Nn c i))).getD ZkV))=decide ((ZO Zr.key d (Zr.key (Nn c i)))≠some (Nn c i)):=by cases hsk:(ZO Zr.key d (Zr.key (Nn c i))) with | none=>simp | some z=>rw [Yap];simp;exact not_congr ⟨Eq.symm,Eq.symm⟩
  refine Yf (Za (Ya (Ye (Ya (Zb O (qy 2 Ybx r2 (qf (oR true 2 .t) r1 qz (qf (oH [.int .i64 0,.slice none 0 0] 101) trivial qz (qS 2 101 r2 r1 qZ)))) V [16,15,14,11,9,8,3,2,1] [101,50,0] (fun _=>rfl) (fun _=>rfl) fun τ a w F O=>?_)))))
  try dsimp only [RS.sub,SF.sub,CF.sub,csub,Anc.sub,List.map,Ze,xL,xM,Nat.reduceAdd,xD,xE,xT,xU,xC,xN,zCF,ldSF,Zs,rTx,ZB,Zaq,ZG,rOp] at O
  generalize τ 11=v11 at O
  try simp only [Yg] at O
  refine Za (Ya (Zb O (qR rr (qR rr (qe 2 101 r1 r1 (qf (o_callClosP (avs:=[.agg (ZB (Nn c i))]) .t (ZgT (Nn c i)) func79 Z kr (Args.one (.pagg .t))) r2 qz (qR rr (qf (oP (Zg3 d (Zr.key (Nn c i))) func142 (Args.three .t .t .t)) r3 qz (qR rr (qf (o_extract .t Z) r1 qz (qf (o_extract .t Z) r1 qz (qf (oH [.int .i64 0,.slice none 0 0] 102) trivial qz (qf (oA 2 102 .same (.conv .t .agg)) r2 r1 (qO rr qZ)))))))))))) V [16,15,14,13,12,11,9,8,3,2,1] [102,101,50,0] (fun _=>rfl) (fun _=>rfl) fun τ a w F O=>?_))
  try dsimp only [RS.sub,SF.sub,CF.sub,csub,Anc.sub,List.map,Ze,xL,xM,Nat.reduceAdd,xD,xE,xT,xU,xC,xN,zCF,ldSF,Zs,rTx,ZB,Zaq,ZG,rOp] at O
  generalize τ 12=v12 at O
  refine Za (Ya (rZ O (qR rr (qf (ZaA .t) r1 qz (qR rr (qm Z Z Z Z (qk Z (fun h=>oL true 2 101 .is) r2 r1 (qk Z (fun h=>oL true 2 102 .is) r2 r1 (qk Z (fun h=>o_callClosP (avs:=[.agg (ZB (Nn c i)),.agg (ZB ((ZO Zr.key d (Zr.key (Nn c i))).getD ZkV))]) (.w h) (Znm (Nn c i) ((ZO Zr.key d (Zr.key (Nn c i))).getD ZkV)) func80 Z kr (Args.two (.pagg (.w h)) (.pagg (.w h)))) r4 qz (qk Z (fun h=>ZaA (.w h)) r2 qz (qf (ZaQ .t .t) r2 qz qZ))))))))) V [37,16,15,14,11,9,8,3,2,1] [102,101,50,0] fun O=>?_))
  refine Zd O Z (fun hc1=>?_) (fun hc1=>?_)
  ·have h9:(!(ZO Zr.key d (Zr.key (Nn c i))).isSome || !decide ((Nn c i)=(ZO Zr.key d (Zr.key (Nn c i))).getD ZkV))=true:=hc1
   rw [hcd] at h9
   have hst9:out ++ [(Nn c i)] = Zay Zr.key (c.take (i+1)) d:=by rw [hq];unfold Zay;rw [ZaM hil,Yd h9]
   refine Zb O (qR rr (qe 2 101 r1 r1 (qf (Zy (sz:=2) (zs:=[.int .i64 0,.slice none 0 0]) (r:=[(0,.tmp 39)]) (l:=[_,_]) Ybx kr kr kr kr Z Z (.agg Z .t kr kr .nil) Z) r1 qz (qf (Z1 (sz:=2) (bs:=32) 50 (.mk' Ybx kr kr) (by intro x;rfl) .is (.arr (l':=[(Nn c i)]) .t) (by simp only [Yb,Yp,Yx];omega) (by decide)) ⟨rfl,rfl,tv⟩ ⟨rfl,tv⟩ (qO rr qZ))))) V [16,15,14,9,8,3,2,1] [102,101,50,0] (fun _=>rfl) (fun _=>rfl) fun τ a w F O=>?_
   try dsimp only [RS.sub,SF.sub,CF.sub,csub,Anc.sub,List.map,Ze,xL,xM,Nat.reduceAdd,xD,xE,xT,xU,xC,xN,zCF,ldSF,Zs,rTx,ZB,Zaq,ZG,rOp] at O
   generalize τ 41=v41 at O
   refine Zm (Za (rZ O (qp r1 (qR rr qZ)) V [16,15,14,9,8,3,2,1] [102,101,50,0] fun O=>?_))
   replace O:=O.ent (i:=16) (s':=.pv (.int .i64 ((i+1:Nat):Int))) Z (.int (Zl ow))
   obtain ⟨F,O⟩:=O.nM [15,14,8,3,2,1,9,16] [0,50]
   exact ⟨((i+1),_,_),F,⟨by omega,hst9⟩,O,by omega⟩
  have h9:(!(ZO Zr.key d (Zr.key (Nn c i))).isSome || !decide ((Nn c i)=(ZO Zr.key d (Zr.key (Nn c i))).getD ZkV))=false:=hc1
  rw [hcd] at h9
  have hst9:out=Zay Zr.key (c.take (i+1)) d:=by rw [hq];unfold Zay;rw [ZaM hil,Yc (by rw [h9];simp),YD]
  refine Yf (Zm (Za (rZ O (qp r1 (qR rr qZ)) V [16,15,14,9,8,3,2,1] [102,101,50,0] fun O=>?_)))
  replace O:=O.ent (i:=16) (s':=.pv (.int .i64 ((i+1:Nat):Int))) Z (.int (Zl ow))
  obtain ⟨F,O⟩:=O.nM [15,14,8,3,2,1,9,16] [0,50]
  exact ⟨((i+1),_,_),F,⟨by omega,hst9⟩,O,by omega⟩
 have hil:i=c.length:=by simp at hc0;omega
 have hg:out=Zay Zr.key c d:=by rw [hq,hil,YM]
 refine Yr (Zj (Zj (Zv (Za (Ya (rZ O (qR rr (qO rr qZ)) V [8] [50,0] fun O=>Yi ?_))))))
 obtain ⟨F,O⟩:=O.give 50 8 Z rfl
 refine ZP hfr O Z Z Z (.sl (by rw [hg]))
theorem Zpm (l was now:List TxD) (hwl:was.length≤1000000):FnP prog 111 [.sl rTx l,.sl rTx was,.sl rTx now,.clos 77 [],.clos 42 []] (.bool (ZaV TxD.id l was now)):=by
 refine FnP.mk func111 Z ntmps111 Z fun B a w F V hfr O=>?_
 have hxl:=Sat.lenSl O (i:=2) rfl
 refine Ya (rZ O qB V [10,4,3,2,1,0] [0] fun O=>(Ya (Ya ?_)))
 refine rZ O (qR rr (qR rr (qR rr (qR rr (qf (oP (Zpb was l hwl) func76 (Args.four .t .t .t .t)) r4 qz (qu Ybw r1 (qf (Zas .t qi) r1 qz qZ))))))) V [23,10,3,2,1,0] [0] fun O=>?_
 refine Zd O Z (fun hc0=>?_) (fun hc0=>?_)
 ·have hg:false=ZaV TxD.id l was now:=by unfold ZaV;rw [YK (by intro e;rw [e] at hc0;simp at hc0),Bool.false_and]
  refine Ya (rZ O qB V [10,3,2,1,0] [0] fun O=>(Yi (Zk ?_)))
  refine ZP hfr O Z Z Z (.bool hg)
 have hl0:Zay TxD.id was l = []:=YaA fun e=>by have h7:=Yaq.2 e;have h8:=of_decide_eq_false hc0;omega
 refine Yf (Za (Ya (Ya (rZ O (qR rr (qu Ybw r1 (qJ qZ))) V [26,25,24,10,3,1,0] [0] fun O=>Ye ?_))))
 refine Zo (σ:=(Nat)) [0,1,3,10,24,25] [0] (fun s=>[(26,.pv (.int .i64 (s:Int)))]) (fun s=>[]) (fun s=>s≤now.length∧(∀ q,q<s→((ZO TxD.id l (TxD.id (Nn now q))).isSome && !(ZO TxD.id was (TxD.id (Nn now q))).isSome)=false)) (fun s=>now.length - s) (0) O ⟨rfl,rfl,rfl,rfl,rfl,rfl,rfl,tv⟩ ⟨rfl,tv⟩ ⟨Yz _,fun q hq=>absurd hq (YR q)⟩ ?_
 clear O;intro i a w F hC O
 try dsimp only at hC
 obtain ⟨F,O⟩:=O.nM [26,25,24,10,3,1,0] [0]
 try dsimp only at O
 obtain ⟨hi,hq⟩:=hC
 refine Ya (rZ O (qL r2) V [27,26,25,24,10,3,1,0] [0] fun O=>Ya ?_)
 refine Zd O Z (fun hc1=>?_) (fun hc1=>?_)
 ·have hil:i<now.length:=by simp at hc1;omega
  refine Yf (Za (Ya (Ye (Ya (Zb O (qy 3 Ybw r2 (qf (oR true 3 .t) r1 qz (qf (oH [.int .i64 0,.bool false,.slice none 0 0] 101) trivial qz (qS 3 101 r2 r1 qZ)))) V [26,25,24,12,10,3,1,0] [101,0] (fun _=>rfl) (fun _=>rfl) fun τ a w F O=>?_)))))
  try dsimp only [RS.sub,SF.sub,CF.sub,csub,Anc.sub,List.map,Ze,xL,xM,Nat.reduceAdd,xD,xE,xT,xU,xC,xN,zCF,ldSF,Zs,rTx,ZB,Zaq,ZG,rOp] at O
  generalize τ 12=v12 at O
  try simp only [Yg] at O
  refine Za (Ya (Zb O (qR rr (qR rr (qe 3 101 r1 r1 (qf (o_callClosP (avs:=[.agg (rTx (Nn now i))]) .t (ZgX (Nn now i)) func77 Z kr (Args.one (.pagg .t))) r2 qz (qR rr (qf (oP (Zhf l (TxD.id (Nn now i))) func141 (Args.three .t .t .t)) r3 qz (qR rr (qf (o_extract .t Z) r1 qz (qf (o_extract .t Z) r1 qz (qf (oH [.int .i64 0,.bool false,.slice none 0 0] 102) trivial qz (qf (oA 3 102 .same (.conv .t .agg)) r2 r1 (qO rr qZ)))))))))))) V [26,25,24,14,12,10,3,1,0] [102,101,0] (fun _=>rfl) (fun _=>rfl) fun τ a w F O=>?_))
  try dsimp only [RS.sub,SF.sub,CF.sub,csub,Anc.sub,List.map,Ze,xL,xM,Nat.reduceAdd,xD,xE,xT,xU,xC,xN,zCF,ldSF,Zs,rTx,ZB,Zaq,ZG,rOp] at O
  generalize τ 13=v13 at O
  refine Za (Ya (Zb O (qR rr (qR rr (qe 3 101 r1 r1 (qf (o_callClosP (avs:=[.agg (rTx (Nn now i))]) .t (ZgX (Nn now i)) func77 Z kr (Args.one (.pagg .t))) r2 qz (qR rr (qf (oP (Zhf was (TxD.id (Nn now i))) func141 (Args.three .t .t .t)) r3 qz (qR rr (qf (o_extract .t Z) r1 qz (qf (o_extract .t Z) r1 qz (qf (oH [.int .i64 0,.bool false,.slice none 0 0] 103) trivial qz (qf (oA 3 103 .same (.conv .t .agg)) r2 r1 (qO rr qZ)))))))))))) V [26,25,24,16,14,10,3,1,0] [103,102,101,0] (fun _=>rfl) (fun _=>rfl) fun τ a w F O=>?_))
  try dsimp only [RS.sub,SF.sub,CF.sub,csub,Anc.sub,List.map,Ze,xL,xM,Nat.reduceAdd,xD,xE,xT,xU,xC,xN,zCF,ldSF,Zs,rTx,ZB,Zaq,ZG,rOp] at O
  generalize τ 15=v15 at O
  refine Za (Ya (rZ O (qR rr (qR rr (qm Z Z Z Z (qk Z (fun h=>ZaA (.w h)) r2 qz (qf (ZT .t .t) r2 qz qZ))))) V [52,26,25,24,10,3,1,0] [103,102,101,0] fun O=>?_))
  refine Zd O Z (fun hc2=>?_) (fun hc2=>?_)
  ·have h9:((ZO TxD.id l (TxD.id (Nn now i))).isSome && !(ZO TxD.id was (TxD.id (Nn now i))).isSome)=true:=hc2
   have hg:false=ZaV TxD.id l was now:=by
    unfold ZaV
    rw [Yab,Bool.and_eq_false_iff]
    exact .inr (List.all_eq_false.2 ⟨_,Z8 hil,by rw [h9];simp⟩)
   refine Ya (rZ O qB V [26,25,24,10,3,1,0] [103,102,101,0] fun O=>(Yi (ZC (Zk (Zk (ZC (Zk ?_)))))))
   refine ZP hfr O Z Z Z (.bool hg)
  have hne:((ZO TxD.id l (TxD.id (Nn now i))).isSome && !(ZO TxD.id was (TxD.id (Nn now i))).isSome)=false:=hc2
  refine Yf (Zm (Za (rZ O (qp r1 (qR rr qZ)) V [26,25,24,10,3,1,0] [103,102,101,0] fun O=>?_)))
  replace O:=O.ent (i:=26) (s':=.pv (.int .i64 ((i+1:Nat):Int))) Z (.int (Zl ow))
  obtain ⟨F,O⟩:=O.nM [25,24,10,3,1,0,26] [0]
  exact ⟨(i+1),F,⟨by omega,(fun q h9=>by rcases YG (YN h9) with h8 | h8;exact hq q h8;rw [h8];exact hne)⟩,O,by omega⟩
 have hil:i=now.length:=by simp at hc1;omega
 have hg:true=ZaV TxD.id l was now:=by
   unfold ZaV
   rw [YX hl0,Bool.true_and,Yab,Yas]
   intro z hz
   obtain ⟨q,hq1,e⟩:=Y6 hz
   have h9:=hq q ow
   rw [ZE hq1,e] at h9
   rw [h9];rfl
 refine Yr (Zj (Zj (Zv (Za (Ya (rZ O qB V [10] [0] fun O=>Yi ?_))))))
 refine ZP hfr O Z Z Z (.bool hg)
theorem ZoP (l was now:List Zr) (hwl:was.length≤1000000):FnP prog 112 [.sl ZB l,.sl ZB was,.sl ZB now,.clos 79 [],.clos 80 []] (.bool (ZaV Zr.key l was now)):=by
 refine FnP.mk func112 Z ntmps112 Z fun B a w F V hfr O=>?_
 have hxl:=Sat.lenSl O (i:=2) rfl
 refine Ya (rZ O qB V [10,4,3,2,1,0] [0] fun O=>(Ya (Ya ?_)))
 refine rZ O (qR rr (qR rr (qR rr (qR rr (qf (oP (ZoV was l hwl) func78 (Args.four .t .t .t .t)) r4 qz (qu Ybx r1 (qf (Zas .t qi) r1 qz qZ))))))) V [23,10,3,2,1,0] [0] fun O=>?_
 refine Zd O Z (fun hc0=>?_) (fun hc0=>?_)
 ·have hg:false=ZaV Zr.key l was now:=by unfold ZaV;rw [YK (by intro e;rw [e] at hc0;simp at hc0),Bool.false_and]
  refine Ya (rZ O qB V [10,3,2,1,0] [0] fun O=>(Yi (Zk ?_)))
  refine ZP hfr O Z Z Z (.bool hg)
 have hl0:Zay Zr.key was l = []:=YaA fun e=>by have h7:=Yaq.2 e;have h8:=of_decide_eq_false hc0;omega
 refine Yf (Za (Ya (Ya (rZ O (qR rr (qu Ybx r1 (qJ qZ))) V [26,25,24,10,3,1,0] [0] fun O=>Ye ?_))))
 refine Zo (σ:=(Nat)) [0,1,3,10,24,25] [0] (fun s=>[(26,.pv (.int .i64 (s:Int)))]) (fun s=>[]) (fun s=>s≤now.length∧(∀ q,q<s→((ZO Zr.key l (Zr.key (Nn now q))).isSome && !(ZO Zr.key was (Zr.key (Nn now q))).isSome)=false)) (fun s=>now.length - s) (0) O ⟨rfl,rfl,rfl,rfl,rfl,rfl,rfl,tv⟩ ⟨rfl,tv⟩ ⟨Yz _,fun q hq=>absurd hq (YR q)⟩ ?_
 clear O;intro i a w F hC O
 try dsimp only at hC
 obtain ⟨F,O⟩:=O.nM [26,25,24,10,3,1,0] [0]
 try dsimp only at O
 obtain ⟨hi,hq⟩:=hC
 refine Ya (rZ O (qL r2) V [27,26,25,24,10,3,1,0] [0] fun O=>Ya ?_)
 refine Zd O Z (fun hc1=>?_) (fun hc1=>?_)
 ·have hil:i<now.length:=by simp at hc1;omega
  refine Yf (Za (Ya (Ye (Ya (Zb O (qy 2 Ybx r2 (qf (oR true 2 .t) r1 qz (qf (oH [.int .i64 0,.slice none 0 0] 101) trivial qz (qS 2 101 r2 r1 qZ)))) V [26,25,24,12,10,3,1,0] [101,0] (fun _=>rfl) (fun _=>rfl) fun τ a w F O=>?_)))))
  try dsimp only [RS.sub,SF.sub,CF.sub,csub,Anc.sub,List.map,Ze,xL,xM,Nat.reduceAdd,xD,xE,xT,xU,xC,xN,zCF,ldSF,Zs,rTx,ZB,Zaq,ZG,rOp] at O
  generalize τ 12=v12 at O
  try simp only [Yg] at O
  refine Za (Ya (Zb O (qR rr (qR rr (qe 2 101 r1 r1 (qf (o_callClosP (avs:=[.agg (ZB (Nn now i))]) .t (ZgT (Nn now i)) func79 Z kr (Args.one (.pagg .t))) r2 qz (qR rr (qf (oP (Zg3 l (Zr.key (Nn now i))) func142 (Args.three .t .t .t)) r3 qz (qR rr (qf (o_extract .t Z) r1 qz (qf (o_extract .t Z) r1 qz (qf (oH [.int .i64 0,.slice none 0 0] 102) trivial qz (qf (oA 2 102 .same (.conv .t .agg)) r2 r1 (qO rr qZ)))))))))))) V [26,25,24,14,12,10,3,1,0] [102,101,0] (fun _=>rfl) (fun _=>rfl) fun τ a w F O=>?_))
  try dsimp only [RS.sub,SF.sub,CF.sub,csub,Anc.sub,List.map,Ze,xL,xM,Nat.reduceAdd,xD,xE,xT,xU,xC,xN,zCF,ldSF,Zs,rTx,ZB,Zaq,ZG,rOp] at O
  generalize τ 13=v13 at O
  refine Za (Ya (Zb O (qR rr (qR rr (qe 2 101 r1 r1 (qf (o_callClosP (avs:=[.agg (ZB (Nn now i))]) .t (ZgT (Nn now i)) func79 Z kr (Args.one (.pagg .t))) r2 qz (qR rr (qf (oP (Zg3 was (Zr.key (Nn now i))) func142 (Args.three .t .t .t)) r3 qz (qR rr (qf (o_extract .t Z) r1 qz (qf (o_extract .t Z) r1 qz (qf (oH [.int .i64 0,.slice none 0 0] 103) trivial qz (qf (oA 2 103 .same (.conv .t .agg)) r2 r1 (qO rr qZ)))))))))))) V [26,25,24,16,14,10,3,1,0] [103,102,101,0] (fun _=>rfl) (fun _=>rfl) fun τ a w F O=>?_))
  try dsimp only [RS.sub,SF.sub,CF.sub,csub,Anc.sub,List.map,Ze,xL,xM,Nat.reduceAdd,xD,xE,xT,xU,xC,xN,zCF,ldSF,Zs,rTx,ZB,Zaq,ZG,rOp] at O
  generalize τ 15=v15 at O
  refine Za (Ya (rZ O (qR rr (qR rr (qm Z Z Z Z (qk Z (fun h=>ZaA (.w h)) r2 qz (qf (ZT .t .t) r2 qz qZ))))) V [52,26,25,24,10,3,1,0] [103,102,101,0] fun O=>?_))
  refine Zd O Z (fun hc2=>?_) (fun hc2=>?_)
  ·have h9:((ZO Zr.key l (Zr.key (Nn now i))).isSome && !(ZO Zr.key was (Zr.key (Nn now i))).isSome)=true:=hc2
   have hg:false=ZaV Zr.key l was now:=by
    unfold ZaV
    rw [Yab,Bool.and_eq_false_iff]
    exact .inr (List.all_eq_false.2 ⟨_,Z8 hil,by rw [h9];simp⟩)
   refine Ya (rZ O qB V [26,25,24,10,3,1,0] [103,102,101,0] fun O=>(Yi (ZC (Zk (Zk (ZC (Zk ?_)))))))
   refine ZP hfr O Z Z Z (.bool hg)
  have hne:((ZO Zr.key l (Zr.key (Nn now i))).isSome && !(ZO Zr.key was (Zr.key (Nn now i))).isSome)=false:=hc2
  refine Yf (Zm (Za (rZ O (qp r1 (qR rr qZ)) V [26,25,24,10,3,1,0] [103,102,101,0] fun O=>?_)))
  replace O:=O.ent (i:=26) (s':=.pv (.int .i64 ((i+1:Nat):Int))) Z (.int (Zl ow))
  obtain ⟨F,O⟩:=O.nM [25,24,10,3,1,0,26] [0]
  exact ⟨(i+1),F,⟨by omega,(fun q h9=>by rcases YG (YN h9) with h8 | h8;exact hq q h8;rw [h8];exact hne)⟩,O,by omega⟩
 have hil:i=now.length:=by simp at hc1;omega
 have hg:true=ZaV Zr.key l was now:=by
   unfold ZaV
   rw [YX hl0,Bool.true_and,Yab,Yas]
   intro z hz
   obtain ⟨q,hq1,e⟩:=Y6 hz
   have h9:=hq q ow
   rw [ZE hq1,e] at h9
   rw [h9];rfl
 refine Yr (Zj (Zj (Zv (Za (Ya (rZ O qB V [10] [0] fun O=>Yi ?_))))))
 refine ZP hfr O Z Z Z (.bool hg)
theorem Zqz (v:Value) (l:List TxD) (ka kb kn:Nat) (hll:l.length≤1000000) (h1:ka+kn≤kb) (h2:kb+kn≤l.length) (f:FuncId) (cps:List PV):FnG prog 282 1 [.is v,.int .i64 ka,.int .i64 kb,.int .i64 kn,.clos f cps] [ZJ 36 3 rTx l v] (.tup []) (fun _=>[ZJ 36 3 rTx (Zc5 l ka kb kn) v]):=by
 refine FnG.mk func282 Z ntmps282 Z kr fun B F0 a w F V hG O=>?_
 replace O:=O.turn 1 Z (r':=.ob (.val v) (ZJ 36 3 rTx l)) (fun _ _ _ _ h=>h)
 refine Ya (rZ O (qI qZ) V [10,3,2,1,0] [1,0] fun O=>Ye ?_)
 have hc0:0≤kn∧l=Zc5 l ka kb 0:=⟨Yz _,(Zht ow ow).symm⟩
 refine Zo (σ:=Nat×List TxD) [0,1,2,3] [0] (fun s=>[(10,.pv (.int .i64 (s.1:Int)))]) (fun s=>[(1,.ob (.val v) (ZJ 36 3 rTx s.2))]) (fun s=>s.1≤kn∧s.2=Zc5 l ka kb s.1) (fun s=>kn - s.1) ((0),(l)) O ⟨rfl,rfl,rfl,rfl,rfl,tv⟩ ⟨rfl,rfl,tv⟩ hc0 ?_
 clear O;intro s a w F hC O
 obtain ⟨i,l1⟩:=s
 try dsimp only at hC
 obtain ⟨F,O⟩:=O.nM [10,3,2,1,0] [1,0]
 try dsimp only at O
 obtain ⟨hin,hl1⟩:=hC
 have hn1:l1.length=l.length:=by rw [hl1];exact ZbB ow ow
 have hwa:IntKind.wrap .i64 ((ka:Int)+(i:Int))=((ka+i:Nat):Int):=by rw [Zc ow];omega
 have hwb:IntKind.wrap .i64 ((kb:Int)+(i:Int))=((kb+i:Nat):Int):=by rw [Zc ow];omega
 refine Ya (Ya (rZ O (qR rr (qR rr (qL r2))) V [13,10,3,2,1,0] [1,0] fun O=>?_))
 refine Zd O Z (fun hc0=>?_) (fun hc0=>?_)
 ·have hil:i<kn:=by simp at hc0;omega
  refine Yf (Za (Ya (Ye (Zq O (qR rr (qR rr (qR rr (qf (o_add .t .t) r2 qz (qR rr (qR rr (qR rr (qf (o_add .t .t) r2 qz (qR rr (qR rr (qR rr (qf (o_add .t .t) r2 qz (qf (o_indexAddr_row (sz:=3) 1 (.mk Ybw kr) .is .t (by rw [hwb];omega) (by rw [hwb];omega) (by rfl)) r2 r1 (qf (Zn (ag:=true) (sz':=3) (sz:=3) 1 .t (by intro x;rfl) (by rw [hwb];omega) kr kr kr) r1 r1 (qR rr (qR rr (qR rr (qf (o_add .t .t) r2 qz (qf (o_indexAddr_row (sz:=3) 1 (.mk Ybw kr) .is .t (by rw [hwa];omega) (by rw [hwa];omega) (by rfl)) r2 r1 (qf (Zn (ag:=true) (sz':=3) (sz:=3) 1 .t (by intro x;rfl) (by rw [hwa];omega) kr kr kr) r1 r1 (qf (o_indexAddr_row (sz:=3) 1 (.mk Ybw kr) .is .t (by rw [hwa];omega) (by rw [hwa];omega) (by rfl)) r2 r1 (qf (ZU (sz:=3) 1 .t (by intro x;rfl) (by rw [hwa];omega) (.conv .t (Ent.aggU (l:=rTx (Nn l1 (IntKind.wrap .i64 ((kb:Int)+(i:Int))).toNat)) Z Z)) kr) r2 r1 (qf (o_indexAddr_row (sz:=3) 1 (.mk Ybw kr) .is .t (by rw [hwb];omega) (by rw [YE,hwb];omega) (by rfl)) r2 r1 (qf (ZU (sz:=3) 1 .t (by intro x;rfl) (by rw [YE,hwb];omega) (.conv .t (Ent.aggU (l:=rTx (Nn l1 (IntKind.wrap .i64 ((ka:Int)+(i:Int))).toNat)) Z Z)) kr) r2 r1 qZ)))))))))))))))))))))))) V [10,3,2,1,0] [1,0] Z Z fun a w F O=>?_))))
  try dsimp only [List.map,Ze,xL,xM,Nat.reduceAdd,xD,xE,xT,xU,xC,xN,zCF,ldSF,rTx] at O
  try simp only [Yg] at O
  rw [hwa,hwb] at O
  simp only [Yg] at O
  obtain ⟨l2,hl2⟩:∃ z,z=Zc5 l ka kb (i+1):=⟨_,rfl⟩
  rw [show (l1.set (ka+i) (Nn l1 (kb+i))).set (kb+i) (Nn l1 (ka+i))=l2 from by rw [hl2,← ZhD (n:=kn) hil h1 h2,← hl1];rfl] at O
  refine Zm (Za (rZ O (qR rr (qp r1 (qO rr qZ))) V [10,3,2,1,0] [1,0] fun O=>?_))
  replace O:=O.ent (i:=10) (s':=.pv (.int .i64 ((i+1:Nat):Int))) Z (.int (Zl ow))
  obtain ⟨F,O⟩:=O.nM [3,2,1,0,10] [0,1]
  exact ⟨((i+1),(l2)),F,⟨by omega,hl2⟩,O,by omega⟩
 have hg:Zc5 l ka kb kn=l1:=by rw [hl1,show i=kn by simp at hc0;omega]
 refine Yr (Zj (Zj (Zv ?_)))
 have O:=O.turn 1 Z (r':=RS.hp (ZJ 36 3 rTx (Zc5 l ka kb kn) v)) (fun _ _ _ _ h=>by rw [hg];exact h)
 refine ZA hG O Z .nil .none rfl
theorem Zp0 (v : Value) (l : List TxD) (ka kb : Nat) (hll : l.length ≤ 1000000) (h1 : ka ≤ kb) (h2 : kb ≤ l.length) (hu : Unl TxD.id l) (f : FuncId) (fn : Func) (cps : List PV) (hf : prog.funcs[f]? = some fn) (hbd : fn.body.isSome = true) (hnn : (fn.name == "runtime.NumGoroutine") = false) (hw : ∀ x y : TxD, FnP prog f (.agg (rTx x) :: .agg (rTx y) :: cps) (.int .i64 (Zcw (TxD.id x) (TxD.id y)))) : FnG prog 272 1 [.is v, .int .i64 ka, .int .i64 kb, .clos f cps] [ZJ 36 3 rTx l v] (.tup []) (fun _ => [ZJ 36 3 rTx (Zp TxD.id l ka kb) v]) := by
 refine FnG.mk func272 Z ntmps272 Z kr fun B F0 a w F V hG O=>?_
 replace O:=O.turn 1 Z (r':=.ob (.val v) (ZJ 36 3 rTx l)) (fun _ _ _ _ h=>h)
 refine Ya (rZ O (qR rr (qp r1 (qO rr qZ))) V [8,3,2,1,0] [1,0] fun O=>Ye ?_)
 have hc0:ka<ka+1∧(ka+1≤kb∧l=Zp TxD.id l ka (ka+1)∨kb≤ka∧l=l):=⟨by omega,by rcases Y5 ka kb with h | h;exact .inl ⟨h,(sortSeg_one l ow).symm⟩;exact .inr ⟨h,rfl⟩⟩
 replace O:=O.ent (i:=8) (s':=.pv (.int .i64 ((ka+1:Nat):Int))) Z (.int (Zl ow))
 refine Zo (σ:=Nat×List TxD) [0,1,2,3] [0] (fun s=>[(8,.pv (.int .i64 (s.1:Int)))]) (fun s=>[(1,.ob (.val v) (ZJ 36 3 rTx s.2))]) (fun s=>ka<s.1∧(s.1≤kb∧s.2=Zp TxD.id l ka s.1∨kb≤ka∧s.2=l)) (fun s=>kb - s.1) ((ka+1),(l)) O ⟨rfl,rfl,rfl,rfl,rfl,tv⟩ ⟨rfl,rfl,tv⟩ hc0 ?_
 clear O;intro s a w F hC O
 obtain ⟨i,l1⟩:=s
 try dsimp only at hC
 obtain ⟨F,O⟩:=O.nM [8,3,2,1,0] [1,0]
 try dsimp only at O
 obtain ⟨hai,hq⟩:=hC
 refine Ya (Ya (rZ O (qR rr (qR rr (qL r2))) V [14,8,3,2,1,0] [1,0] fun O=>?_))
 refine Zd O Z (fun hc0=>?_) (fun hc0=>?_)
 ·skip
  have hib:i<kb:=by simp at hc0;omega
  have hl1:l1=Zp TxD.id l ka i:=by rcases hq with hq | hq;exact hq.2;omega
  have hn1:l1.length=l.length:=by rw [hl1];exact Z0 ow
  refine Yf (Za (Ya (Ye (Ya (rZ O (qR rr (qO rr qZ)) V [9,8,3,2,1,0] [1,0] fun O=>Ye ?_)))))
  have hc1:ka≤i∧i≤i∧l1=ZeL l1 i i ∧ ∀ q,i≤q→q<i→TxD.id (Nn l1 i)<TxD.id (Nn l1 q):=⟨by omega,Yw _,(ZdP ow).symm,fun q h1 h2=>by omega⟩
  refine Zo (σ:=Nat×List TxD) [0,1,2,3,8] [0] (fun s=>[(9,.pv (.int .i64 (s.1:Int)))]) (fun s=>[(1,.ob (.val v) (ZJ 36 3 rTx s.2))]) (fun s=>ka≤s.1∧s.1≤i∧s.2=ZeL l1 s.1 i ∧ ∀ q,s.1≤q→q<i→TxD.id (Nn l1 i)<TxD.id (Nn l1 q)) (fun s=>s.1) ((i),(l1)) O ⟨rfl,rfl,rfl,rfl,rfl,rfl,tv⟩ ⟨rfl,rfl,tv⟩ hc1 ?_
  clear O;intro s a w F hC O
  obtain ⟨j,l2⟩:=s
  try dsimp only at hC
  obtain ⟨F,O⟩:=O.nM [9,8,3,2,1,0] [1,0]
  try dsimp only at O
  obtain ⟨haj,hji,hl2,hgt⟩:=hC
  have hn2:l2.length=l.length:=by rw [hl2,ZbA hji ow];exact hn1
  have hx0:Nn l2 j=Nn l1 i:=by rw [hl2,Zbw hji ow,Yd rfl]
  have hx1:ka<j→Nn l2 (j - 1)=Nn l1 (j - 1):=fun h=>by rw [hl2,Zbw hji ow,Yc ow,Yc ow]
  have hwj:ka<j→IntKind.wrap .i64 ((j:Int) - 1)=((j - 1:Nat):Int):=fun h=>by rw [Zc ow];omega
  refine Ya (Ya (Zq O (qR rr (qR rr (qf (Zas .t .t) r2 qz (qR rr (qm Z Z Z Z (qm Z Z Z Z (qm Z Z Z Z (qk Z (fun h=>o_indexAddr_row (sz:=3) 1 (.mk Ybw kr) (.w h .is) (.w h) ow ow (by rfl)) r3 r1 (qk Z (fun h=>Zn (ag:=true) (sz':=3) (sz:=3) 1 (.w h) (by intro x;rfl) ow kr kr kr) r2 r1 (qm Z Z Z Z (qm Z Z Z Z (qk Z (fun h=>o_sub (.w h) qi) r2 qz (qk Z (fun h=>o_indexAddr_row (sz:=3) 1 (.mk Ybw kr) (.w h .is) (.w h) (by have h9:=YV h;rw [hwj ow];omega) (by have h9:=YV h;rw [hwj ow];omega) (by rfl)) r3 r1 (qk Z (fun h=>Zn (ag:=true) (sz':=3) (sz:=3) 1 (.w h) (by intro x;rfl) (by have h9:=YV h;rw [hwj ow];omega) kr kr kr) r2 r1 (qk Z (fun h=>o_callClosP (avs:=[.agg (rTx (Nn l2 ((j:Int)).toNat)),.agg (rTx (Nn l2 (IntKind.wrap .i64 ((j:Int) - 1)).toNat))]) (.w h) (hw (Nn l2 ((j:Int)).toNat) (Nn l2 (IntKind.wrap .i64 ((j:Int) - 1)).toNat)) hf hbd hnn (Args.two (.pagg (.w h)) (.pagg (.w h)))) r4 qz (qk Z (fun h=>ZaG (.w h) qi) r2 qz (qf (ZT .t .t) r2 qz qZ))))))))))))))))) V [34,9,8,3,2,1,0] [1,0] Z Z fun a w F O=>?_))
  try dsimp only [List.map,xD,xE,xT,xU,ldSF,rTx] at O
  try simp only [Yg] at O
  refine Za (Zd O Z (fun hc1=>?_) (fun hc1=>?_))
  ·skip
   obtain ⟨haj2,h9⟩:ka<j∧Zcw (TxD.id (Nn l2 j)) (TxD.id (Nn l2 (IntKind.wrap .i64 ((j:Int) - 1)).toNat))<0:=by simpa using hc1
   rw [hwj haj2,Yg,hx0,hx1 haj2] at h9
   have h9:=ZaR.1 h9
   have hgt3:∀ q,j - 1≤q→q<i→TxD.id (Nn l1 i)<TxD.id (Nn l1 q):=fun q h1 h2=>by rcases Y5 q j with h | h;rw [show q=j - 1 by omega];exact h9;exact hgt q h h2
   refine Yf (Za (Ya (Ye (Zq O (qR rr (qR rr (qR rr (qR rr (qf (o_sub .t qi) r1 qz (qR rr (qR rr (qf (o_sub .t qi) r1 qz (qf (o_indexAddr_row (sz:=3) 1 (.mk Ybw kr) .is .t (by rw [hwj haj2];omega) (by rw [hwj haj2];omega) (by rfl)) r2 r1 (qf (Zn (ag:=true) (sz':=3) (sz:=3) 1 .t (by intro x;rfl) (by rw [hwj haj2];omega) kr kr kr) r1 r1 (qR rr (qR rr (qf (o_indexAddr_row (sz:=3) 1 (.mk Ybw kr) .is .t ow ow (by rfl)) r2 r1 (qf (Zn (ag:=true) (sz':=3) (sz:=3) 1 .t (by intro x;rfl) ow kr kr kr) r1 r1 (qf (o_indexAddr_row (sz:=3) 1 (.mk Ybw kr) .is .t ow ow (by rfl)) r2 r1 (qf (ZU (sz:=3) 1 .t (by intro x;rfl) ow (.conv .t (Ent.aggU (l:=rTx (Nn l2 (IntKind.wrap .i64 ((j:Int) - 1)).toNat)) Z Z)) kr) r2 r1 (qf (o_indexAddr_row (sz:=3) 1 (.mk Ybw kr) .is .t (by rw [hwj haj2];omega) (by rw [YE,hwj haj2];omega) (by rfl)) r2 r1 (qf (ZU (sz:=3) 1 .t (by intro x;rfl) (by rw [YE,hwj haj2];omega) (.conv .t (Ent.aggU (l:=rTx (Nn l2 ((j:Int)).toNat)) Z Z)) kr) r2 r1 qZ)))))))))))))))))) V [9,8,3,2,1,0] [1,0] Z Z fun a w F O=>?_))))
   try dsimp only [List.map,Ze,xL,xM,Nat.reduceAdd,xD,xE,xT,xU,xC,xN,zCF,ldSF,rTx] at O
   try simp only [Yg] at O
   rw [hwj haj2] at O
   simp only [Yg] at O
   obtain ⟨l3,hl3⟩:∃ z,z=ZeL l1 (j - 1) i:=⟨_,rfl⟩
   rw [show (l2.set j (Nn l2 (j - 1))).set (j - 1) (Nn l2 j)=l3 from by rw [hl3,← Zdx ow hji ow,← hl2];rfl] at O
   refine Zm (Za (rZ O (qR rr (qf (o_sub .t qi) r1 qz (qO rr qZ))) V [9,8,3,2,1,0] [1,0] fun O=>?_))
   replace O:=O.ent (i:=9) (s':=.pv (.int .i64 ((j - 1:Nat):Int))) Z (.int (hwj haj2))
   obtain ⟨F,O⟩:=O.nM [8,3,2,1,0,9] [0,1]
   exact ⟨((j - 1),(l3)),F,⟨by omega,by omega,hl3,hgt3⟩,O,by omega⟩
  have h9:¬ (ka<j∧Zcw (TxD.id (Nn l2 j)) (TxD.id (Nn l2 (IntKind.wrap .i64 ((j:Int) - 1)).toNat))<0):=by simpa using hc1
  have hend:l2=Zp TxD.id l ka (i+1):=by
    rw [hl2]
    refine ZhZ haj hji ow (Zek hu _ _) hl1 ?_ hgt
    rcases Y5 ka j with h | h
    · refine .inr (Zex (Zai (κ:=TxD.id) (a:=ka) (b:=i) ow hu |> fun z=>(by rw [hl1];exact z:Unl TxD.id l1)) (i:=i) (j:=j - 1) ow ow ow fun h8=>h9 ⟨h,?_⟩)
      rw [hwj h,Yg,hx0,hx1 h]
      exact ZaR.2 h8
    · exact .inl ow
  refine Yr (Zj (Zj (Zv (Zm (Za (rZ O (qR rr (qp r1 (qO rr qZ))) V [8,3,2,1,0] [1,0] fun O=>?_))))))
  replace O:=O.ent (i:=8) (s':=.pv (.int .i64 ((i+1:Nat):Int))) Z (.int (Zl ow))
  obtain ⟨F,O⟩:=O.nM [3,2,1,0,8] [0,1]
  exact ⟨((i+1),(l2)),F,⟨by omega,.inl ⟨by omega,hend⟩⟩,O,by omega⟩
 have hg:Zp TxD.id l ka kb=l1:=by
   rcases hq with hq | hq
   · rw [hq.2,show i=kb by simp at hc0;omega]
   · rw [hq.2,show kb=ka by omega];exact Za2 (Yw _) (by rw [Zej];exact List.Pairwise.nil)
 refine Yr (Zj (Zj (Zv ?_)))
 have O:=O.turn 1 Z (r':=RS.hp (ZJ 36 3 rTx (Zp TxD.id l ka kb) v)) (fun _ _ _ _ h=>by rw [hg];exact h)
 refine ZA hG O Z .nil .none rfl
theorem ZqU (v:Value) (l:List TxD) (ka km kb:Nat) (hll:l.length≤1000000) (h1:ka<km) (h2:km<kb) (h3:kb≤l.length) (f:FuncId) (cps:List PV):FnG prog 280 1 [.is v,.int .i64 ka,.int .i64 km,.int .i64 kb,.clos f cps] [ZJ 36 3 rTx l v] (.tup []) (fun _=>[ZJ 36 3 rTx (ZV l ka km kb) v]):=by
 refine FnG.mk func280 Z ntmps280 Z kr fun B F0 a w F V hG O=>?_
 replace O:=O.turn 1 Z (r':=.ob (.val v) (ZJ 36 3 rTx l)) (fun _ _ _ _ h=>h)
 refine Ya (rZ O (qR rr (qR rr (qf (o_sub .t .t) r2 qz (qO rr qZ)))) V [10,4,3,2,0] [1,0] fun O=>Ya ?_)
 refine rZ O (qR rr (qR rr (qf (o_sub .t .t) r2 qz (qO rr qZ)))) V [11,10,4,2,0] [1,0] fun O=>(Ya (Ye ?_))
 have hc0:0<km - ka∧0<kb - km∧ka+(km - ka)≤km∧km+(kb - km)≤kb∧l.length=l.length∧ZV l (km - (km - ka)) km (km+(kb - km))=ZV l ka km kb:=⟨by omega,by omega,by omega,by omega,rfl,by rw [show km - (km - ka)=ka by omega,show km+(kb - km)=kb by omega]⟩
 replace O:=O.ent (i:=10) (s':=.pv (.int .i64 ((km - ka:Nat):Int))) Z (.int (by rw [Zc ow];omega))
 replace O:=O.ent (i:=11) (s':=.pv (.int .i64 ((kb - km:Nat):Int))) Z (.int (by rw [Zc ow];omega))
 refine Zo (σ:=Nat×Nat×List TxD) [0,2,4] [0] (fun s=>[(10,.pv (.int .i64 (s.1:Int))),(11,.pv (.int .i64 (s.2.1:Int)))]) (fun s=>[(1,.ob (.val v) (ZJ 36 3 rTx s.2.2))]) (fun s=>0<s.1∧0<s.2.1∧ka+s.1≤km∧km+s.2.1≤kb∧s.2.2.length=l.length∧ZV s.2.2 (km - s.1) km (km+s.2.1)=ZV l ka km kb) (fun s=>s.1+s.2.1) ((km - ka),(kb - km),(l)) O ⟨rfl,rfl,rfl,rfl,rfl,tv⟩ ⟨rfl,rfl,tv⟩ hc0 ?_
 clear O;intro s a w F hC O
 obtain ⟨i,j,l1⟩:=s
 try dsimp only at hC
 obtain ⟨F,O⟩:=O.nM [11,10,4,2,0] [1,0]
 try dsimp only at O
 obtain ⟨hi0,hj0,hia,hjb,hn1,hq⟩:=hC
 have hwm:IntKind.wrap .i64 ((km:Int) - (i:Int))=((km - i:Nat):Int):=by rw [Zc ow];omega
 have hwn:i≤km+j→IntKind.wrap .i64 (IntKind.wrap .i64 ((km:Int)+(j:Int)) - (i:Int))=((km+j - i:Nat):Int):=fun h=>by rw [Zc (x:=(km:Int)+(j:Int)) ow,Zc ow];omega
 refine Ya (Ya (rZ O (qR rr (qR rr (qf (o_neq .t .t) r2 qz qZ))) V [20,11,10,4,2,0] [1,0] fun O=>?_))
 refine Zd O Z (fun hc0=>?_) (fun hc0=>?_)
 ·have hij:i≠j:=by simp at hc0;omega
  refine Yf (Za (Ye (Ya (rZ O (qR rr (qR rr (qf (Zas .t .t) r2 qz qZ))) V [23,11,10,4,2,0] [1,0] fun O=>?_))))
  refine Zd O Z (fun hc1=>?_) (fun hc1=>?_)
  ·have hlt:j<i:=by simp at hc1;omega
   obtain ⟨i2,i2e⟩:∃ z,z=i - j:=⟨_,rfl⟩
   obtain ⟨j2,j2e⟩:∃ z,z=j:=⟨_,rfl⟩
   obtain ⟨l2,l2e⟩:∃ z,z=Zc5 l1 (km - i) km j:=⟨_,rfl⟩
   have hi2:IntKind.wrap .i64 ((i:Int) - (j:Int))=(i2:Int):=by rw [Zc ow];omega
   have hj2:(j:Int)=(j2:Int):=by rw [j2e]
   have hmu:i2+j2<i+j:=by omega
   have hC2:0<i2∧0<j2∧ka+i2≤km∧km+j2≤kb∧l2.length=l.length∧ZV l2 (km - i2) km (km+j2)=ZV l ka km kb:=⟨by omega,by omega,by omega,by omega,by rw [l2e,ZbB ow ow,hn1],by rw [← hq,← ZmS (l:=l1) (s:=km - i) (m:=km) (e:=km+j) (j:=j) ow rfl ow,l2e,j2e,show km - i2=km - i+j by omega]⟩
   refine Ya (Zf O (qR rr (qR rr (qR rr (qf (o_sub .t .t) r2 qz (qR rr (qR rr (qR rr (qf (ZQ 1 (Zqz v l1 (km - i) km j ow ow ow f cps) func282 Z kr (Args.five .t (.conv .t (.int hwm)) .t .t .t)) r5 r1 qZ)))))))) V [11,10,4,2,0] [1,0] Z Z fun a w F O=>?_)
   rw [← l2e] at O
   refine Za (Zf O (qR rr (qR rr (qf (o_sub .t .t) r2 qz (qO rr qZ)))) V [11,10,4,2,0] [1,0] Z Z fun a w F O=>Zm (Za ?_))
   replace O:=O.ent (i:=10) (s':=.pv (.int .i64 (i2:Int))) Z (.int hi2)
   replace O:=O.ent (i:=11) (s':=.pv (.int .i64 (j2:Int))) Z (.int hj2)
   obtain ⟨F,O⟩:=O.nM [4,2,0,11,10] [0,1]
   exact ⟨((i2),(j2),(l2)),F,hC2,O,hmu⟩
  have hlt:i<j:=by simp at hc1;omega
  obtain ⟨i2,i2e⟩:∃ z,z=i:=⟨_,rfl⟩
  obtain ⟨j2,j2e⟩:∃ z,z=j - i:=⟨_,rfl⟩
  obtain ⟨l2,l2e⟩:∃ z,z=Zc5 l1 (km - i) (km+j - i) i:=⟨_,rfl⟩
  have hi2:(i:Int)=(i2:Int):=by rw [i2e]
  have hj2:IntKind.wrap .i64 ((j:Int) - (i:Int))=(j2:Int):=by rw [Zc ow];omega
  have hmu:i2+j2<i+j:=by omega
  have hC2:0<i2∧0<j2∧ka+i2≤km∧km+j2≤kb∧l2.length=l.length∧ZV l2 (km - i2) km (km+j2)=ZV l ka km kb:=⟨by omega,by omega,by omega,by omega,by rw [l2e,ZbB ow ow,hn1],by rw [← hq,← ZlR (l:=l1) (s:=km - i) (m:=km) (e:=km+j) (i:=i) ow ow ow,l2e,i2e,show km+j2=km+j - i by omega]⟩
  refine Ya (Zf O (qR rr (qR rr (qR rr (qf (o_sub .t .t) r2 qz (qR rr (qR rr (qf (o_add .t .t) r2 qz (qR rr (qf (o_sub .t .t) r2 qz (qR rr (qR rr (qf (ZQ 1 (Zqz v l1 (km - i) (km+j - i) i ow ow ow f cps) func282 Z kr (Args.five .t (.conv .t (.int hwm)) (.conv .t (.int (hwn ow))) .t .t)) r5 r1 qZ)))))))))))) V [11,10,4,2,0] [1,0] Z Z fun a w F O=>?_)
  rw [← l2e] at O
  refine Za (Zf O (qR rr (qR rr (qf (o_sub .t .t) r2 qz (qO rr qZ)))) V [11,10,4,2,0] [1,0] Z Z fun a w F O=>Zm (Za ?_))
  replace O:=O.ent (i:=10) (s':=.pv (.int .i64 (i2:Int))) Z (.int hi2)
  replace O:=O.ent (i:=11) (s':=.pv (.int .i64 (j2:Int))) Z (.int hj2)
  obtain ⟨F,O⟩:=O.nM [4,2,0,11,10] [0,1]
  exact ⟨((i2),(j2),(l2)),F,hC2,O,hmu⟩
 have hij:i=j:=by simp at hc0;omega
 have hg:ZV l ka km kb=Zc5 l1 (km - i) km i:=by rw [← hq,← hij];exact (Zmq ow rfl ow).symm
 refine Yr (Zj (Zj (Zv (Za (Zf O (qR rr (qR rr (qR rr (qf (o_sub .t .t) r2 qz (qR rr (qR rr (qR rr (qf (ZQ 1 (Zqz v l1 (km - i) km i ow ow ow f cps) func282 Z kr (Args.five .t (.conv .t (.int hwm)) .t .t .t)) r5 r1 qZ)))))))) V [] [1,0] Z Z fun a w F O=>?_)))))
 have O:=O.turn 1 Z (r':=RS.hp (ZJ 36 3 rTx (ZV l ka km kb) v)) (fun _ _ _ _ h=>by rw [hg];exact h)
 refine ZA hG O Z .nil .none rfl
end Go.Proofs.YtfecljadegkmdaaGreat
