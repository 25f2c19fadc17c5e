/- Laws and walks. No condition beyond what each says. -/
import Derived.Test.YtlkpllemoepamaaGreatJ14
namespace Go.Proofs.YtlkpllemoepamaaGreat
open Go Go.Gm Tryz
set_option linter.unusedVariables false
set_option linter.unusedSimpArgs false
set_option maxHeartbeats 4000000
set_option maxRecDepth 8000
theorem Zmn {g:Zq} {e:Ze} (hle:Zcx g e=true∧(e.kind=1→ZbX (getO g.orders e.key) e.src=(e.dst,true))) (hg:ZK g) (h:((decide (e.kind=1) && (!(ZbX (getO g.orders e.key) e.src).2 || !decide ((ZbX (getO g.orders e.key) e.src).1=e.dst))) || !(decide (ZK g) && Zcx g e))=true):False:=by
 rw [Yaf hg,hle.1] at h
 by_cases hk:e.kind=1
 ·rw [hle.2 hk] at h;simp at h
 ·simp [hk] at h
theorem Zhz (g:Zq):FnP prog 3 [.agg (Zx g)] (.bool true):=by
 refine FnP.mk func3 rfl ntmps3 rfl fun B a w F Z hfr G=>Ya ?_
 refine Zb G (qx 101 r1 qB) Z [2,1] [101,0] (fun _=>rfl) (fun _=>rfl) fun τ a w F G=>?_
 try dsimp only [RS.sub,SF.sub,CF.sub,csub,Anc.sub,List.map,zCF,Zx,rTx,ZV,ZQ,Zo,rOp,Zhr,Zn,rTx] at G
 generalize τ 1=v1 at G
 refine Za (Ya (Ya (rZ G (qf (oP (Zk4) func10 Args.nil) trivial qz (qf (o_not .t) r1 qz qZ)) Z [18,2,1] [101,0] fun G=>?_)))
 refine Zc G rfl (fun hc0=>?_) (fun hc0=>?_)
 ·simp at hc0
 refine Yf (Za (Ya (Ya (rZ G (qe 2 101 r1 r1 (qf (oP (ZoM g) func11 (Args.one (.pagg .t))) r1 qz (qf (o_not .t) r1 qz qZ))) Z [21,2,1] [101,0] fun G=>?_))))
 refine Zc G rfl (fun hc1=>?_) (fun hc1=>?_)
 ·refine Ya (rZ G qB Z [2,1] [101,0] fun G=>(Yh (Zm ?_)))
  refine Zw hfr G rfl rfl rfl (.bool rfl)
 have hlt:Zb1 g:=by simpa using hc1
 have hf:=Zn0 hlt
 obtain ⟨hsm,hAR⟩:=Zny hf (by decide)
 have hsl:=hsm.1.1
 obtain ⟨R1,hR1⟩:=Zg5 (Zap g) 1
 obtain ⟨R4,hR4⟩:=Zg5 (Zap g) 4
 have hw1:=Zez (g:=g) (p:=1) (R:=R1) (by decide)
 have hw4:=Zez (g:=g) (p:=4) (R:=R4) (by decide)
 refine Yf (Za (Ya (rZ G (qI qZ) Z [3,2,1] [101,0] fun G=>(Ya (Ya ?_)))))
 refine rZ G (qg 0 101 r1 r1 (qa 101 r1 r1 (qu Yb3 r1 (qJ qZ)))) Z [25,24,23,3,2,1] [101,0] fun G=>Yg ?_
 refine Zl (σ:=(Nat)) [1,2,23,24] [0,101] (fun s=>[(25,.pv (.int .i64 (s:Int))),(3,.pv (.int .i64 ((((g.txs.take (s)).filter TxD.done).length:Nat):Int)))]) (fun s=>[]) (fun s=>s≤g.txs.length∧(True)) (fun s=>g.txs.length - s) (0) G ⟨rfl,rfl,rfl,rfl,rfl,rfl,tv⟩ ⟨rfl,rfl,tv⟩ ⟨Yw _,tv⟩ ?_
 clear G;intro i a w F hC G
 try dsimp only at hC
 obtain ⟨F,G⟩:=G.nM [25,24,23,3,2,1] [101,0]
 try dsimp only at G
 obtain ⟨hi,hq⟩:=hC
 have hdl:=Zqb g.txs i
 refine Ya (rZ G (qL r2) Z [26,25,24,23,3,2,1] [101,0] fun G=>Ya ?_)
 refine Zc G rfl (fun hc2=>?_) (fun hc2=>?_)
 ·have hil:i<g.txs.length:=by simp at hc2;omega
  refine Yf (Za (Ya (Yg (Ya (Zb G (qy 3 Yb3 r2 (qf (oR true 3 .t) r1 qz (qf (oH [.int .i64 0,.bool false,.slice none 0 0] 102) trivial qz (qS 3 102 r2 r1 qZ)))) Z [25,24,23,5,3,2,1] [102,101,0] (fun _=>rfl) (fun _=>rfl) fun τ a w F G=>?_)))))
  try dsimp only [RS.sub,SF.sub,CF.sub,csub,Anc.sub,List.map,Zf,xL,xM,Nat.reduceAdd,xD,xE,xT,xU,xC,xN,zCF,ldSF,Zx,rTx,ZV,ZQ,Zo,rOp,Zhr,Zn,rTx] at G
  generalize τ 5=v5 at G
  try simp only [Yc] at G
  refine Za (Ya (rZ G (qg 1 102 r1 r1 (qa 102 r1 r1 qZ)) Z [30,25,24,23,3,2,1] [102,101,0] fun G=>?_))
  refine Zc G rfl (fun hc3=>?_) (fun hc3=>?_)
  ·have hdn:(Nn g.txs i).done=true:=hc3
   refine Zg G (qR rr (qp r1 (qO rr qZ))) Z [25,24,23,3,2,1] [102,101,0] rfl rfl fun a w F G=>Zk (Za ?_)
   refine rZ G (qp r1 (qR rr qZ)) Z [25,24,23,3,2,1] [102,101,0] fun G=>?_
   replace G:=G.ent (i:=25) (s':=.pv (.int .i64 ((i+1:Nat):Int))) rfl (.int (Zd ow))
   replace G:=G.ent (i:=3) (s':=.pv (.int .i64 ((((g.txs.take (i+1)).filter TxD.done).length:Nat):Int))) rfl (.int (by rw [ZnU hil hdn];exact Zd ow))
   obtain ⟨F,G⟩:=G.nM [24,23,2,1,3,25] [101,0]
   exact ⟨(i+1),F,⟨by omega,tv⟩,G,by omega⟩
  have hdn:(Nn g.txs i).done=false:=hc3
  refine Yf (Zk (Za (rZ G (qp r1 (qR rr qZ)) Z [25,24,23,3,2,1] [102,101,0] fun G=>?_)))
  replace G:=G.ent (i:=25) (s':=.pv (.int .i64 ((i+1:Nat):Int))) rfl (.int (Zd ow))
  replace G:=G.ent (i:=3) (s':=.pv (.int .i64 ((((g.txs.take (i+1)).filter TxD.done).length:Nat):Int))) rfl (.int (by rw [Zpr hil hdn]))
  obtain ⟨F,G⟩:=G.nM [24,23,2,1,3,25] [101,0]
  exact ⟨(i+1),F,⟨by omega,tv⟩,G,by omega⟩
 have hil:i=g.txs.length:=by simp at hc2;omega
 rw [hil,YC] at G
 have hdl:(g.txs.filter TxD.done).length≤g.txs.length:=Y3 _ _
 refine Yx (Zj (Zj (Zr (Za (Ya (Zb G (qe 2 101 r1 r1 (qf (oP (ZoZ g hsm hAR 1 R1 hR1) func12 (Args.two (.pagg .t) qi)) r1 qz (qR rr (qf (Zh .t rfl) r1 qz (qf (Zh .t rfl) r1 qz (qf (oH [.int .i64 0,.slice none 0 0,.int .i64 0,.int .i64 0,.int .i64 0,.int .i64 0,.int .i64 0] 103) trivial qz (qf (oA 7 103 .same (.conv .t .agg)) r2 r1 (qO rr qZ)))))))) Z [7,6,3,2,1] [103,101,0] (fun _=>rfl) (fun _=>rfl) fun τ a w F G=>?_))))))
 try dsimp only [RS.sub,SF.sub,CF.sub,csub,Anc.sub,List.map,Zf,xL,xM,Nat.reduceAdd,xD,xE,xT,xU,xC,xN,zCF,ldSF,Zx,rTx,ZV,ZQ,Zo,rOp,Zhr,Zn,rTx] at G
 generalize τ 6=v6 at G
 refine Za (Ya (Zb G (qe 2 101 r1 r1 (qf (oP (ZoZ g hsm hAR 4 R4 hR4) func12 (Args.two (.pagg .t) qi)) r1 qz (qR rr (qf (Zh .t rfl) r1 qz (qf (Zh .t rfl) r1 qz (qf (oH [.int .i64 0,.slice none 0 0,.int .i64 0,.int .i64 0,.int .i64 0,.int .i64 0,.int .i64 0] 104) trivial qz (qf (oA 7 104 .same (.conv .t .agg)) r2 r1 (qO rr qZ)))))))) Z [9,8,7,6,3,2,1] [104,103,101,0] (fun _=>rfl) (fun _=>rfl) fun τ a w F G=>?_))
 try dsimp only [RS.sub,SF.sub,CF.sub,csub,Anc.sub,List.map,Zf,xL,xM,Nat.reduceAdd,xD,xE,xT,xU,xC,xN,zCF,ldSF,Zx,rTx,ZV,ZQ,Zo,rOp,Zhr,Zn,rTx] at G
 generalize τ 8=v8 at G
 refine Za (Ya (Ya (Zg G (qR rr (qR rr (qm rfl rfl rfl rfl (qk rfl (fun h=>o_not (.w h)) r2 qz (qk rfl (fun h=>oM (.w h)) r2 qz (Zv.cons (Zan.cond2 rfl rfl (fun h=>ZT (off:=1) 104 .is kr (by rfl))) r2 r1 (Zv.cons (Zan.cond2 rfl rfl (fun h=>Za8 (ag:=false) (sz:=1) 104 (.w h .adr) kr kr kr (by rfl))) r2 r1 (Zv.cons (Zan.cond2 rfl rfl (fun h=>Zbe Yb0 (.w h))) r2 qz (Zv.cons (Zan.cond2 rfl rfl (fun h=>ZT (off:=1) 103 .is kr (by rfl))) r2 r1 (Zv.cons (Zan.cond2 rfl rfl (fun h=>Za8 (ag:=false) (sz:=1) 103 (.w h .adr) kr kr kr (by rfl))) r2 r1 (Zv.cons (Zan.cond2 rfl rfl (fun h=>Zbe Yb0 (.w h))) r2 qz (Zv.cons (Zan.cond2 rfl rfl (fun h=>ZaV (.w h) (.w h))) r3 qz (qk rfl (fun h=>Zab (.w h) (.wc h)) r3 qz (qf (ZH .t .t) r2 qz qZ)))))))))))))) Z [57,3,2,1] [104,103,101,0] rfl rfl fun a w F G=>?_)))
 try dsimp only [List.map,xD,xE,xT,xU,ldSF,Zx,rTx,ZV,ZQ,Zo,rOp,Zhr,Zn,rTx] at G
 refine Za (Zc G rfl (fun hc4=>?_) (fun hc4=>?_))
 ·rw [hw1.1,hw1.2,hw4.1,hw4.2] at hc4;by_cases hr1:R1 = [];simp [hr1] at hc4;obtain ⟨h8,h9⟩:=ZsG hR1 hR4 hr1;simp [hr1,h8] at hc4;omega
 refine Yf (Za (Ya (Ya (rZ G (qI qZ) Z [10,3,2,1] [104,103,101,0] fun G=>Yg ?_))))
 replace G:=G.ent (i:=10) (s':=.pv (.int .i64 ((1:Nat):Int))) rfl (.int rfl)
 refine Zl (σ:=Nat) [1,2,3] [0,101,103,104] (fun s=>[(10,.pv (.int .i64 (s:Int)))]) (fun s=>[]) (fun s=>1≤s∧s≤6) (fun s=>6 - s) (1) G ⟨rfl,rfl,rfl,rfl,tv⟩ ⟨rfl,rfl,rfl,rfl,tv⟩ ⟨by decide,by decide⟩ ?_
 clear G;intro p a w F hC G
 try dsimp only at hC
 obtain ⟨F,G⟩:=G.nM [10,3,2,1] [104,103,101,0]
 try dsimp only at G
 obtain ⟨hp1,hp2⟩:=hC
 refine Ya (Ya (rZ G (qR rr (qf (ZaD .t qi) r1 qz qZ)) Z [59,10,3,2,1] [104,103,101,0] fun G=>?_))
 refine Zc G rfl (fun hc5=>?_) (fun hc5=>?_)
 ·have hp6:p<6:=by have h9:=Yt hc5;omega
  obtain ⟨R,hR⟩:=Zg5 (Zap g) (p:Int)
  refine Yf (Za (Ya (Yg (Ya (Zb G (qe 2 101 r1 r1 (qR rr (qf (oP (ZoZ g hsm hAR (p:Int) R hR) func12 (Args.two (.pagg .t) .t)) r2 qz (qR rr (qf (Zh .t rfl) r1 qz (qf (Zh .t rfl) r1 qz (qf (oH [.int .i64 0,.slice none 0 0,.int .i64 0,.int .i64 0,.int .i64 0,.int .i64 0,.int .i64 0] 105) trivial qz (qf (oA 7 105 .same (.conv .t .agg)) r2 r1 (qO rr qZ))))))))) Z [12,11,10,3,2,1] [105,104,103,101,0] (fun _=>rfl) (fun _=>rfl) fun τ a w F G=>?_)))))
  try dsimp only [RS.sub,SF.sub,CF.sub,csub,Anc.sub,List.map,Zf,xL,xM,Nat.reduceAdd,xD,xE,xT,xU,xC,xN,zCF,ldSF,Zx,rTx,ZV,ZQ,Zo,rOp,Zhr,Zn,rTx] at G
  generalize τ 11=v11 at G
  refine Za (Ya (Ya (rZ G (qR rr (qf (o_not .t) r1 qz (qR rr (qm rfl rfl rfl rfl (qk rfl (fun h=>o_eql (.w h) qi) r2 qz (qf (Zab .t .t) r2 qz (qR rr (qm rfl rfl rfl rfl (qk rfl (fun h=>o_eql (.w h) qi) r2 qz (qf (Zab .t .t) r2 qz qZ)))))))))) Z [77,11,10,3,2,1] [105,104,103,101,0] fun G=>?_)))
  refine Zc G rfl (fun hc6=>?_) (fun hc6=>?_)
  ·refine Yx (Zj (Zr (Za (rZ G (qR rr (qp r1 (qO rr qZ))) Z [10,3,2,1] [105,104,103,101,0] fun G=>?_))))
   replace G:=G.ent (i:=10) (s':=.pv (.int .i64 ((p+1:Nat):Int))) rfl (.int (Zd ow))
   obtain ⟨F,G⟩:=G.nM [3,2,1,10] [104,103,101,0]
   exact ⟨(p+1),F,⟨by omega,by omega⟩,G,by omega⟩
  have h9:=hc6
  simp at h9
  have h23:¬ ((p:Int)=2∨(p:Int)=3):=by omega
  have hok:okH g (p:Int) R=true:=h9.1.1
  have hwf:=Zl6 hR hok h23
  have hRl:=hwf.2.2.1
  rw [(Zez h23).1] at G
  refine Yf (Za (Ya (Ya (rZ G (qg 1 105 r1 r1 (qa 105 r1 r1 (qu Yb0 r1 (qf (ZaD .t qi) r1 qz (qR rr (qv 1 105 rfl r2 r1 (qw 105 rfl r2 r1 (qk rfl (fun h=>Zbe Yb0 (.w h)) r2 qz (qm rfl rfl rfl rfl (qk rfl (fun h=>ZaV (.w h) (.w h)) r3 qz (qf (Zab .t .t) r2 qz (qR rr (qv 1 105 rfl r2 r1 (qw 105 rfl r2 r1 (qk rfl (fun h=>oP (ZmA R hwf.2.2.2.1) func13 (Args.one (.w h))) r2 qz (qk rfl (fun h=>o_not (.w h)) r2 qz (qf (Zab .t .t) r2 qz (qR rr (qv 1 105 rfl r2 r1 (qw 105 rfl r2 r1 (qk rfl (fun h=>oP (ZhC R (by have:=hwf.2.2.1;omega)) func14 (Args.one (.w h))) r2 qz (qk rfl (fun h=>o_not (.w h)) r2 qz (qf (Zab .t .t) r2 qz qZ))))))))))))))))))))))) Z [100,11,10,3,2,1] [105,104,103,101,0] fun G=>?_))))
  refine Zc G rfl (fun hc7=>?_) (fun hc7=>?_)
  ·obtain ⟨f1,f2,f3,f4,f5,f6⟩:=hwf;rw [f5] at hc7;simp at hc7;omega
  refine Yf (Za (Ya (rZ G (qg 1 105 r1 r1 (qa 105 r1 r1 (qu Yb0 r1 (qJ qZ)))) Z [104,103,102,10,3,2,1] [105,104,103,101,0] fun G=>Yg ?_)))
  refine Zl (σ:=(Nat)) [1,2,3,10,102,103] [0,101,103,104,105] (fun s=>[(104,.pv (.int .i64 (s:Int)))]) (fun s=>[]) (fun s=>s≤R.length∧(True)) (fun s=>R.length - s) (0) G ⟨rfl,rfl,rfl,rfl,rfl,rfl,rfl,tv⟩ ⟨rfl,rfl,rfl,rfl,rfl,tv⟩ ⟨Yw _,tv⟩ ?_
  clear G;intro i a w F hC G
  try dsimp only at hC
  obtain ⟨F,G⟩:=G.nM [104,103,102,10,3,2,1] [105,104,103,101,0]
  try dsimp only at G
  obtain ⟨hi,hq⟩:=hC
  refine Ya (rZ G (qL r2) Z [105,104,103,102,10,3,2,1] [105,104,103,101,0] fun G=>Ya ?_)
  refine Zc G rfl (fun hc8=>?_) (fun hc8=>?_)
  ·have hil:i<R.length:=by simp at hc8;omega
   have hle:=Zmd hwf.1 (hwf.2.2.2.2.2 _ (nth_mem hil))
   refine Yf (Za (Ya (Yg (Ya (Zb G (qy 4 Yb0 r2 (qf (oR true 4 .t) r1 qz (qf (oH [.int .i64 0,.int .i64 0,.int .i64 0,.int .i64 0] 106) trivial qz (qS 4 106 r2 r1 qZ)))) Z [104,103,102,14,10,3,2,1] [106,105,104,103,101,0] (fun _=>rfl) (fun _=>rfl) fun τ a w F G=>?_)))))
   try dsimp only [RS.sub,SF.sub,CF.sub,csub,Anc.sub,List.map,Zf,xL,xM,Nat.reduceAdd,xD,xE,xT,xU,xC,xN,zCF,ldSF,Zx,rTx,ZV,ZQ,Zo,rOp,Zhr,Zn,rTx] at G
   generalize τ 14=v14 at G
   try simp only [Yc] at G
   refine Za (Ya (Zz G (qe 2 101 r1 r1 (qg 3 106 r1 r1 (qa 106 r1 r1 (qf (oP (ZjL g (Nn R i).key hsm.2) func16 (Args.two (.pagg .t) .t)) r2 qz (qg 0 106 r1 r1 (qa 106 r1 r1 (qf (oP (ZmV (getO g.orders (Nn R i).key) (Nn R i).src) func15 (Args.two .t .t)) r2 qz (qR rr (qf (Zh .t rfl) r1 qz (qf (Zh .t rfl) r1 qz (qO rr (qO rr qZ)))))))))))) Z [104,103,102,16,15,14,10,3,2,1] [106,105,104,103,101,0] rfl rfl fun a w F G=>?_))
   try dsimp only [List.map,xD,xE,xT,xU,ldSF,Zx,rTx,ZV,ZQ,Zo,rOp,Zhr,Zn,rTx] at G
   refine Za (Ya (Zg G (qg 2 106 r1 r1 (qa 106 r1 r1 (qf (o_eql .t qi) r1 qz (qR rr (qm rfl rfl rfl rfl (qk rfl (fun h=>o_not (.w h)) r2 qz (qk rfl (fun h=>oM (.w h)) r2 qz (Zv.cons (Zan.cond2 rfl rfl (fun h=>ZaS .t (by rfl))) r2 qz (Zv.cons (Zan.cond2 rfl rfl (fun h=>ZT (off:=1) 106 .is kr (by rfl))) r2 r1 (Zv.cons (Zan.cond2 rfl rfl (fun h=>Za8 (ag:=false) (sz:=1) 106 (.w h .adr) kr kr kr (by rfl))) r2 r1 (Zv.cons (Zan.cond2 rfl rfl (fun h=>o_neq (.w h) (.w h))) r3 qz (qk rfl (fun h=>Zab (.w h) (.wc h)) r3 qz (qf (ZH .t .t) r2 qz (qR rr (qk rfl (fun h=>oL true 2 101 .is) r2 r1 (qk rfl (fun h=>oL true 4 106 .is) r2 r1 (qk rfl (fun h=>oP (Zq4 g (Nn R i) hsm) func17 (Args.two (.pagg (.w h)) (.pagg (.w h)))) r3 qz (qk rfl (fun h=>o_not (.w h)) r2 qz (qf (Zab .t .t) r2 qz qZ))))))))))))))))))) Z [136,104,103,102,10,3,2,1] [106,105,104,103,101,0] rfl rfl fun a w F G=>?_))
   try dsimp only [List.map,xD,xE,xT,xU,ldSF,Zx,rTx,ZV,ZQ,Zo,rOp,Zhr,Zn,rTx] at G
   refine Za (Zc G rfl (fun hc9=>?_) (fun hc9=>?_))
   ·exact (Zmn hle hwf.1 hc9).elim
   refine Yf (Zk (Za (rZ G (qp r1 (qR rr qZ)) Z [104,103,102,10,3,2,1] [106,105,104,103,101,0] fun G=>?_)))
   replace G:=G.ent (i:=104) (s':=.pv (.int .i64 ((i+1:Nat):Int))) rfl (.int (Zd ow))
   obtain ⟨F,G⟩:=G.nM [103,102,10,3,2,1,104] [105,104,103,101,0]
   exact ⟨(i+1),F,⟨by omega,tv⟩,G,by omega⟩
  have hil:i=R.length:=by simp at hc8;omega
  refine Yx (Zj (Zj (Zr (Zk (Za (rZ G (qR rr (qp r1 (qO rr qZ))) Z [10,3,2,1] [105,104,103,101,0] fun G=>?_))))))
  replace G:=G.ent (i:=10) (s':=.pv (.int .i64 ((p+1:Nat):Int))) rfl (.int (Zd ow))
  obtain ⟨F,G⟩:=G.nM [3,2,1,10] [104,103,101,0]
  exact ⟨(p+1),F,⟨by omega,by omega⟩,G,by omega⟩
 refine Yx (Zj (Zj (Zr (Za (Ya (rZ G qB Z [2] [104,103,101,0] fun G=>Yh ?_))))))
 refine Zw hfr G rfl rfl rfl (.bool rfl)
end Go.Proofs.YtlkpllemoepamaaGreat
