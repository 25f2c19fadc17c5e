/- Texts put together. No condition beyond those that each theorem says. -/
import Derived.Test.YtlkpllemoepamaaGreatJ1
import Derived.Test.YtlkpllemoepamaaGreatJ0
import Derived.Test.YtlkpllemoepamaaGreatLibE
import Derived.Test.YtlkpllemoepamaaGreatJ3
import Derived.Test.YtlkpllemoepamaaGreatJ2
import Derived.Test.YtlkpllemoepamaaGreatLibP
namespace Go.Proofs.YtlkpllemoepamaaGreat
open Go Go.Gm Tryz
set_option linter.unusedVariables false
set_option linter.unusedSimpArgs false
set_option maxHeartbeats 4000000
set_option maxRecDepth 8000
theorem ZpJ (l : List ZP) (p : ZP → Bool) (f : FuncId) (fn : Func) (cps : List PV) (hf : prog.funcs[f]? = some fn) (hb : fn.body.isSome = true) (hnn : (fn.name == "runtime.NumGoroutine") = false) (hw : ∀ x, FnP prog f (.agg (ZJ x) :: cps) (.bool (p x))) : FnP prog 40 [.sl ZJ l, .clos f cps] (.int .i64 (Z3 p l)) := by
 refine FnP.mk func40 rfl ntmps40 rfl fun B a w F V hfr G=>?_
 have hll:=Sat.lenSl G (i:=0) rfl
 refine Ya (rZ G (qI qZ) V [4,1,0] [0] fun G=>(Ya (Ya ?_)))
 refine rZ G (qR rr (qu underlying23 r1 (qJ qZ))) V [8,7,4,1,0] [0] fun G=>Yg ?_
 refine Zk (σ:=(Nat)) [0,1,4,7] [0] (fun s=>[(8,.pv (.int .i64 (s:Int)))]) (fun s=>[]) (fun s=>s≤l.length∧(∀ k,k<s→p (Nn l k)=false)) (fun s=>l.length - s) (0) G ⟨rfl,rfl,rfl,rfl,rfl,tv⟩ ⟨rfl,tv⟩ ⟨Yx _,fun k hk=>absurd hk (Y1 k)⟩ ?_
 clear G;intro i a w F hC G
 try dsimp only at hC
 obtain ⟨F,G⟩:=G.nM [8,7,4,1,0] [0]
 try dsimp only at G
 obtain ⟨hi,hq⟩:=hC
 refine Ya (rZ G (qL r2) V [9,8,7,4,1,0] [0] fun G=>Ya ?_)
 refine Zc G rfl (fun hc0=>?_) (fun hc0=>?_)
 ·skip
  have hil:i<l.length:=by simp at hc0;omega
  refine Ye (Za (Ya (Yg (Ya (rZ G (qR rr (qO rr qZ)) V [8,7,5,4,1,0] [0] fun G=>Ya ?_)))))
  refine Ze G (qR rr (qR rr (qR rr (qy 2 underlying23 r2 (qf (oR true 2 .t) r1 qz (qf (ZO (avs:=[.agg (ZJ (Nn l i))]) .t (hw (Nn l i)) hf hb hnn (Args.one (.pagg .t))) r2 qz qZ)))))) V [16,8,7,5,4,1,0] [0] rfl rfl fun a w F G=>?_
  try simp only [Yb] at G
  refine Za (Zc G rfl (fun hc1=>?_) (fun hc1=>?_))
  ·skip
   have hg:(i:Int)=Z3 p l:=(Zci hil hc1 hq).symm
   refine Ya (rZ G (qR rr (qO rr qZ)) V [8,7,4,1,0] [0] fun G=>(Yh (Zz (Zl (Zl (Zz (Zl ?_)))))))
   refine Zr hfr G rfl rfl rfl (.int hg)
  have hne:p (Nn l i)=false:=hc1
  refine Ye (Zh (Za (rZ G (qp r1 (qR rr qZ)) V [8,7,4,1,0] [0] fun G=>?_)))
  replace G:=G.ent (i:=8) (s':=.pv (.int .i64 ((i+1:Nat):Int))) rfl (.int (Zd ow))
  obtain ⟨F,G⟩:=G.nM [7,4,1,0,8] [0]
  exact ⟨(i+1),F,⟨by omega,(fun k hk=>by rcases YX (Y5 hk) with h | h;exact hq k h;rw [h];exact hne)⟩,G,by omega⟩
 have hil:i=l.length:=by simp at hc0;omega
 have hg : -1=Z3 p l:=(Zbh fun k hk=>hq k (by simp at hc0;omega)).symm
 refine Yv (Zi (Zi (Zo (Za (Ya (rZ G (qI qZ) V [4] [0] fun G=>Yh ?_))))))
 refine Zr hfr G rfl rfl rfl (.int hg)
theorem ZtV (v : Value) (l : List ZP) (hll : l.length ≤ 1000000) (p : ZP → Bool) (f : FuncId) (fn : Func) (cps : List PV) (hf : prog.funcs[f]? = some fn) (hb : fn.body.isSome = true) (hnn : (fn.name == "runtime.NumGoroutine") = false) (hw : ∀ x, FnP prog f (.agg (ZJ x) :: cps) (.bool (p x))) : FnG prog 106 1 [.is v, .clos f cps] [Zu 70 2 ZJ l v] (PV.one) (fun v => [Zu 70 2 ZJ (l.filter fun x => !p x) v]) := by
 refine FnG.mk func106 rfl ntmps106 rfl kr fun B F0 a w F V hG G=>?_
 replace G:=G.turn 1 rfl (r':=.ob (.val v) (Zu 70 2 ZJ l)) (fun _ _ _ _ h=>h)
 refine Ya (rZ G (qC qZ) V [4,1,0] [1,0] fun G=>Ya ?_)
 refine rZ G (qR rr (qR rr (qf (OpC.lendRow 1 [8] (oP (ZpJ l p f fn cps hf hb hnn hw) func40 (Args.two .t .t)) ⟨rfl,tv,tv⟩ (.pv (fun _ _ _ _ h=>h)) trivial (by rfl)) r2 r1 (qO rr qZ)))) V [5,4,1,0] [1,0] fun G=>(Ya (Ya ?_))
 refine rZ G (qR rr (qf (o_eql .t qi) r1 qz qZ)) V [12,5,4,1,0] [1,0] fun G=>?_
 refine Zc G rfl (fun hc0=>?_) (fun hc0=>?_)
 ·skip
  have hno:=(Zaw p l).resolve_right (by rintro ⟨i,h1,_⟩;simp at hc0;omega)
  have hg:(l.filter fun x=>!p x)=l:=Zds hno.2
  refine Ya (rZ G (qR rr (qO rr qZ)) V [5,4,1,0] [1,0] fun G=>(Yh (Zl ?_)))
  have G:=G.turn 1 rfl (r':=RS.hp (Zu 70 2 ZJ (l.filter fun x=>!p x) v)) (fun _ _ _ _ h=>by rw [hg];exact h)
  refine Z2 (h':=fun v=>Zu 70 2 ZJ (l.filter fun x=>!p x) v) hG G rfl (.tmp rfl .nil) (.one .one) rfl
 obtain ⟨i0,hi0,hi1,hip,hib⟩:=(Zaw p l).resolve_left (by rintro ⟨h1,_⟩;simp [h1] at hc0)
 have hst0:=Zes hi1 hip hib
 refine Ye (Za (Ya (Ya (rZ G (qR rr (qp r1 (qO rr qZ))) V [6,5,4,1,0] [1,0] fun G=>Yg ?_))))
 have hC0:i0<i0+1∧i0+1≤l.length∧l.length=l.length∧l.take i0=(l.take (i0+1)).filter (fun x=>!p x) ∧ ∀ k,i0+1≤k→k<l.length→Nn l k=Nn l k:=⟨by omega,by omega,rfl,hst0,fun k _ _=>rfl⟩
 replace G:=G.ent (i:=5) (s':=.pv (.int .i64 (i0:Int))) rfl (.int hi0)
 replace G:=G.ent (i:=6) (s':=.pv (.int .i64 ((i0+1:Nat):Int))) rfl (.int (by rw [hi0,ZA ow];omega))
 refine Zk (σ:=Nat×Nat×List ZP) [0,1,4] [0] (fun s=>[(5,.pv (.int .i64 (s.1:Int))),(6,.pv (.int .i64 (s.2.1:Int)))]) (fun s=>[(1,.ob (.val v) (Zu 70 2 ZJ s.2.2))]) (fun s=>s.1<s.2.1∧s.2.1≤l.length∧s.2.2.length=l.length∧s.2.2.take s.1=(l.take s.2.1).filter (fun x=>!p x) ∧ ∀ k,s.2.1≤k→k<l.length→Nn s.2.2 k=Nn l k) (fun s=>l.length - s.2.1) ((i0),(i0+1),(l)) G ⟨rfl,rfl,rfl,rfl,rfl,tv⟩ ⟨rfl,rfl,tv⟩ hC0 ?_
 clear G;intro s a w F hC G
 obtain ⟨i,j,l1⟩:=s
 try dsimp only at hC
 obtain ⟨F,G⟩:=G.nM [6,5,4,1,0] [1,0]
 try dsimp only at G
 obtain ⟨hij,hj,hll1,htk,hrest⟩:=hC
 refine Ya (Ya (rZ G (qR rr (qR rr (qf (ZS 1 underlying23 .is) r1 r1 (qL r2)))) V [19,6,5,4,1,0] [1,0] fun G=>?_))
 refine Zc G rfl (fun hc1=>?_) (fun hc1=>?_)
 ·skip
  have hjl:j<l.length:=by simp at hc1;omega
  have hnj:Nn l1 j=(Nn l j):=hrest j (YN _) hjl
  have hfs:=ZcD (p:=fun x=>!p x) hjl
  refine Ye (Za (Ya (Yg (Ya (Zb G (qR rr (qR rr (qf (o_indexAddr_row (sz:=2) 1 (.mk underlying23 kr) .is .t ow ow (by rfl)) r2 r1 (qf (Zt (ag:=true) (sz':=2) (sz:=2) 1 .t (by intro x;rfl) ow kr kr kr) r1 r1 (qf (oH [.int .i64 0,.slice none 0 0] 101) trivial qz (qS 2 101 r2 r1 qZ)))))) V [7,6,5,4,1,0] [101,1,0] (fun _=>rfl) (fun _=>rfl) fun τ a w F G=>?_)))))
  try dsimp only [RS.sub,SF.sub,CF.sub,csub,Anc.sub,List.map,Zf,xL,xM,Nat.reduceAdd,xD,xE,xT,xU,xC,xN,zCF,ldSF,ZJ] at G
  generalize τ 7=v7 at G
  try simp only [Yb] at G
  rw [hnj] at G
  refine Za (Ya (rZ G (qR rr (qe 2 101 r1 r1 (qf (ZO (avs:=[.agg (ZJ (Nn l j))]) .t (hw (Nn l j)) hf hb hnn (Args.one (.pagg .t))) r2 qz (qf (o_not .t) r1 qz qZ)))) V [29,7,6,5,4,1,0] [101,1,0] fun G=>?_))
  refine Zc G rfl (fun hc2=>?_) (fun hc2=>?_)
  ·skip
   have hp:p (Nn l j)=false:=by simpa using hc2
   obtain ⟨i2,hi2e⟩:∃ i2,i2=i+1:=⟨_,rfl⟩
   have hi2:IntKind.wrap .i64 ((i:Int)+1)=(i2:Int):=by rw [hi2e];exact Zd ow
   obtain ⟨l2,hl2⟩:∃ l2,l2=l1.set i (Nn l j):=⟨_,rfl⟩
   have hC2:i2<j+1∧j+1≤l.length∧l2.length=l.length∧l2.take i2=(l.take (j+1)).filter (fun x=>!p x) ∧ ∀ k,j+1≤k→k<l.length→Nn l2 k=Nn l k:=⟨by omega,by omega,by rw [hl2,YL];exact hll1,by rw [hl2,hi2e,hfs,hp,← htk,Zp (by rw [YL];omega),YbG (YN _),nth_eq (by rw [YL];omega),Ybc];rfl,fun k hk hk2=>by rw [hl2,nth_eq (by rw [YL];omega),YbH ow,← nth_eq ow];exact hrest k ow hk2⟩
   refine Ya (Ze G (qR rr (qR rr (qe 2 101 r1 r1 (qf (o_indexAddr_row (sz:=2) 1 (.mk underlying23 kr) .is .t ow ow (by rfl)) r2 r1 (qf (ZdD (sz:=2) 1 .t (by intro x;rfl) ow (.conv .t (Ent.aggU (l:=ZJ (Nn l j)) rfl rfl)) kr) r2 r1 qZ))))) V [6,5,4,1,0] [1,0] rfl rfl fun a w F G=>?_)
   try simp only [Yb] at G
   rw [← hl2] at G
   refine Za (Ze G (qR rr (qp r1 (qO rr qZ))) V [6,5,4,1,0] [1,0] rfl rfl fun a w F G=>Zh (Za ?_))
   refine rZ G (qR rr (qp r1 (qO rr qZ))) V [6,5,4,1,0] [1,0] fun G=>?_
   have hmu:l.length - (j+1)<l.length - j:=by omega
   replace G:=G.ent (i:=5) (s':=.pv (.int .i64 (i2:Int))) rfl (.int hi2)
   replace G:=G.ent (i:=6) (s':=.pv (.int .i64 ((j+1:Nat):Int))) rfl (.int (Zd ow))
   obtain ⟨F,G⟩:=G.nM [4,1,0,6,5] [0,1]
   exact ⟨((i2),(j+1),(l2)),F,hC2,G,hmu⟩
  have hp:p (Nn l j)=true:=by simpa using hc2
  obtain ⟨i2,hi2e⟩:∃ i2,i2=i:=⟨_,rfl⟩
  have hi2:(i:Int)=(i2:Int):=by rw [hi2e]
  obtain ⟨l2,hl2⟩:∃ l2,l2=l1:=⟨_,rfl⟩
  rw [← hl2] at G
  have hC2:i2<j+1∧j+1≤l.length∧l2.length=l.length∧l2.take i2=(l.take (j+1)).filter (fun x=>!p x) ∧ ∀ k,j+1≤k→k<l.length→Nn l2 k=Nn l k:=⟨by omega,by omega,by rw [hl2];exact hll1,by rw [hl2,hi2e,hfs,hp,htk];simp,fun k hk hk2=>by rw [hl2];exact hrest k ow hk2⟩
  refine Ye (Zh (Za (rZ G (qR rr (qp r1 (qO rr qZ))) V [6,5,4,1,0] [1,0] fun G=>?_)))
  have hmu:l.length - (j+1)<l.length - j:=by omega
  replace G:=G.ent (i:=5) (s':=.pv (.int .i64 (i2:Int))) rfl (.int hi2)
  replace G:=G.ent (i:=6) (s':=.pv (.int .i64 ((j+1:Nat):Int))) rfl (.int (Zd ow))
  obtain ⟨F,G⟩:=G.nM [4,1,0,6,5] [0,1]
  exact ⟨((i2),(j+1),(l2)),F,hC2,G,hmu⟩
 have hjl:j=l.length:=by simp at hc1;omega
 have hil2:i<l.length:=by omega
 have hg:(l.filter fun x=>!p x)=(l1.take i++List.replicate (l1.length - i) (⟨0,[]⟩:ZP)).take i:=by rw [YS (by rw [Yi];omega),YaJ,YbX,htk,hjl,Yz]
 refine Yv (Zi (Zi (Zo (Za (Ya (rZ G (qR rr (qR rr (qf (Zak (sz:=2) 1 (.mk underlying23 kr) .is .t ow ow) r2 r1 (qf (ZbO (R:=ZJ) (z:=(⟨0,[]⟩:ZP)) (zs:=[.int .i64 0,.slice none 0 0]) 1 underlying23 kr rfl rfl (fun _ _=>⟨⟨rfl,rfl,ZcY⟩,⟨rfl,Zip⟩,tv⟩) (by intro x;rfl) .t (by simp;omega)) r1 r1 qZ)))) V [5,4,0] [1,0] fun G=>Ya ?_))))))
 refine Zb G (qR rr (qR rr (qf (ZbE (sz:=2) 1 (.mk underlying23 kr) (by intro x;rfl) .is .t ow (by simp;omega)) r2 r1 (qO rr qZ)))) V [4] [1,0] (fun _=>rfl) (fun _=>rfl) fun τ a w F G=>?_
 try dsimp only [RS.sub,SF.sub,CF.sub,csub,Anc.sub,List.map,ZJ] at G
 generalize τ 41=v41 at G
 refine Za (Yh ?_)
 have G:=G.turn 1 rfl (r':=RS.hp (Zu 70 2 ZJ (l.filter fun x=>!p x) v41)) (fun _ _ _ _ h=>by rw [hg];exact h)
 refine Z2 (h':=fun v=>Zu 70 2 ZJ (l.filter fun x=>!p x) v) hG G rfl (.tmp rfl .nil) (.one .one) rfl
theorem cloneIP_c (l:List Int) (hl:l.length≤1000000):FnP prog 42 [.sl Zn l] (.sl Zn l):=by
 refine FnP.mk func42 rfl ntmps42 rfl fun B a w F V hfr G=>Ya ?_
 refine rZ G (qC qZ) V [2,0] [0] fun G=>(Ya (Ya ?_))
 refine Ze G (qR rr (qf (ZbH underlying45 .t) r1 qz qZ)) V [4,2,0] [0] rfl rfl fun a w F G=>?_
 obtain ⟨β4,hβ4,G⟩:=G.pickBool 4 rfl
 obtain ⟨F,G⟩:=G.nM [4,2,0] [0]
 refine Za (Zc G rfl (fun hc0=>?_) (fun hc0=>?_))
 ·have hg:l = []:=hβ4 hc0
  refine Ya (rZ G (qC qZ) V [2,0] [0] fun G=>(Yh (Zl ?_)))
  refine Zr hfr G rfl rfl rfl (.trans .nilSl (.sl (by rw [hg])))
 have hg:l = [] ++ l:=rfl
 refine Ye (Za (Ya (Zb G (qf (Za5 (R:=Zn) (sz:=1) 101 underlying45 kr) trivial qz (qR rr (qf (ZV (sz:=1) (bs:=8) 101 (.mk' underlying45 kr kr) (by intro x;rfl) .same (.sl .t) (by simp only [Yd,Yy];omega) (by decide)) ⟨rfl,rfl,tv⟩ ⟨rfl,tv⟩ (qO rr qZ)))) V [2] [101,0] (fun _=>rfl) (fun _=>rfl) fun τ a w F G=>?_)))
 try dsimp only [RS.sub,SF.sub,CF.sub,csub,Anc.sub,List.map,Zf,xL,xM,Nat.reduceAdd,xD,xE,xT,xU,xC,xN,zCF,Zn] at G
 generalize τ 7=v7 at G
 refine Za (Yh ?_)
 obtain ⟨F,G⟩:=G.give 101 2 rfl rfl
 refine Zr hfr G rfl rfl rfl (.sl (by rw [hg]))
theorem Zuo (g:Zw) (hs:Zbs g):FnG prog 60 1 [.agg (Zx g)] [.star []] (PV.self Zu6) (fun v=>[Zug (Zu 30 3 rTx g.txs) (Zu 70 2 ZJ g.orders) v]):=by
 refine FnG.mk func60 rfl ntmps60 rfl kr fun B F0 a w F V hG G=>?_
 have hsl:=hs.1.1
 have hso:=hs.2.1
 obtain ⟨F,G⟩:=G.nM [0] [0]
 refine Ya (Zb G (qx 101 r1 (qf (oH [.slice none 0 0,.slice none 0 0] 102) trivial qz qZ)) V [2,1] [102,101,0] (fun _=>rfl) (fun _=>rfl) fun τ a w F G=>?_)
 try dsimp only [RS.sub,SF.sub,CF.sub,csub,Anc.sub,List.map,zCF,Zx,rTx,ZJ,ZW,Zn,rOp] at G
 generalize τ 1=v1 at G
 generalize τ 2=v2 at G
 refine Za (Ya (Zb G (qf (oH [.slice none 0 0,.slice none 0 0] 103) trivial qz qZ) V [3,2,1] [103,102,101,0] (fun _=>rfl) (fun _=>rfl) fun τ a w F G=>?_))
 try dsimp only [RS.sub,SF.sub,CF.sub,csub,Anc.sub,List.map,zCF,Zx,rTx,ZJ,ZW,Zn,rOp] at G
 generalize τ 3=v3 at G
 refine Za (Ya (Ya (rZ G (qg 0 101 r1 r1 (qa 101 r1 r1 (qu underlying22 r1 (qJ qZ)))) V [11,10,9,3,2,1] [103,102,101,0] fun G=>Yg ?_)))
 replace G:=G.fresh 50 rfl
 replace G:=G.turn 50 rfl (ZaD (T:=30) (sz:=3) (R:=rTx))
 refine Zk (σ:=(Nat)×(Value)×(List TxD)) [1,2,3,9,10] [0,101,102] (fun s=>[(11,.pv (.int .i64 (s.1:Int)))]) (fun s=>[(103,.pt (.val v3) 25 [.pv (.is s.2.1),.pv (.is (.slice none 0 0))]),(50,.ob (.val s.2.1) (Zu 30 3 rTx s.2.2))]) (fun s=>s.1≤g.txs.length∧(s.2.2=g.txs.take s.1)) (fun s=>g.txs.length - s.1) ((0),(.slice none 0 0),([])) G ⟨rfl,rfl,rfl,rfl,rfl,rfl,tv⟩ ⟨rfl,rfl,rfl,rfl,rfl,tv⟩ ⟨Yx _,rfl⟩ ?_
 clear G;intro s a w F hC G
 obtain ⟨i,va,oa⟩:=s
 try dsimp only at hC
 obtain ⟨F,G⟩:=G.nM [11,10,9,3,2,1] [103,102,101,50,0]
 try dsimp only at G
 obtain ⟨hi,hq⟩:=hC
 have hol:oa.length≤i:=by rw [hq,Yi];omega
 refine Ya (rZ G (qL r2) V [12,11,10,9,3,2,1] [103,102,101,50,0] fun G=>Ya ?_)
 refine Zc G rfl (fun hc0=>?_) (fun hc0=>?_)
 ·have hil:i<g.txs.length:=by simp at hc0;omega
  have hio:=hil
  refine Ye (Za (Ya (Yg (Ya (Zb G (qy 3 underlying22 r2 (qf (oR true 3 .t) r1 qz (qf (oH [.int .i64 0,.bool false,.slice none 0 0] 104) trivial qz (qS 3 104 r2 r1 qZ)))) V [11,10,9,5,3,2,1] [104,103,102,101,50,0] (fun _=>rfl) (fun _=>rfl) fun τ a w F G=>?_)))))
  try dsimp only [RS.sub,SF.sub,CF.sub,csub,Anc.sub,List.map,Zf,xL,xM,Nat.reduceAdd,xD,xE,xT,xU,xC,xN,zCF,ldSF,Zx,rTx,ZJ,ZW,Zn,rOp] at G
  generalize τ 5=v5 at G
  try simp only [Yb] at G
  refine Za (ZaP G (qg 0 103 r1 r1 (qa 103 r1 r1 (qe 3 104 r1 r1 (qf (oP (ZlL (Nn g.txs i) (by have:=hs.1.at hio;omega)) func62 (Args.one (.pagg .t))) r1 qz (qf (o_buildSliceE (sz:=3) (zs:=[.int .i64 0,.bool false,.slice none 0 0]) (r:=[(0,.tmp 18)]) (l:=[_,_,_]) underlying22 kr kr kr kr rfl rfl (.agg rfl (.conv .t .agg) kr kr .nil) rfl) r1 qz (qf (ZV (sz:=3) (bs:=40) 50 (.mk' underlying22 kr kr) (by intro x;rfl) .is (.arr (l':=[(Nn g.txs i)]) .t) (by simp only [Yd,Yl,Yy];omega) (by decide)) ⟨rfl,rfl,tv⟩ ⟨rfl,tv⟩ (qg 0 103 r1 r1 (qf (o_storeS 103 .adr kr kr) r2 r1 qZ)))))))) V [11,10,9,3,2,1] [104,103,102,101,50,0] (fun _=>rfl) (fun _=>rfl) fun τ a w F G=>?_)
  try dsimp only [RS.sub,SF.sub,CF.sub,csub,Anc.sub,List.map,Zf,xL,xM,Nat.reduceAdd,xD,xE,xT,xU,xC,xN,zCF,ldSF,Zx,rTx,ZJ,ZW,Zn,rOp] at G
  generalize τ 20=v20 at G
  refine Zh (Za (rZ G (qp r1 (qR rr qZ)) V [11,10,9,3,2,1] [104,103,102,101,50,0] fun G=>?_))
  replace G:=G.ent (i:=11) (s':=.pv (.int .i64 ((i+1:Nat):Int))) rfl (.int (Zd ow))
  obtain ⟨F,G⟩:=G.nM [10,9,3,2,1,11] [102,101,0,50,103]
  exact ⟨((i+1),_,_),F,⟨by omega,(by rw [Zp hil,← hq])⟩,G,by omega⟩
 have hil:i=g.txs.length:=by simp at hc0;omega
 have hqa:oa=g.txs:=by rw [hq,hil,Yz]
 subst hqa
 refine Yv (Zi (Zi (Zo (Za (Ya (Ya (rZ G (qg 1 101 r1 r1 (qa 101 r1 r1 (qu underlying23 r1 (qJ qZ)))) V [26,25,24,3,2] [103,102,101,50,0] fun G=>Yg ?_)))))))
 replace G:=G.fresh 51 rfl
 replace G:=G.turn 51 rfl (ZaD (T:=70) (sz:=2) (R:=ZJ))
 refine Zk (σ:=(Nat)×(Value)×(List ZP)) [2,3,24,25] [0,50,101,102] (fun s=>[(26,.pv (.int .i64 (s.1:Int)))]) (fun s=>[(103,.pt (.val v3) 25 [.pv (.is va),.pv (.is s.2.1)]),(51,.ob (.val s.2.1) (Zu 70 2 ZJ s.2.2))]) (fun s=>s.1≤g.orders.length∧(s.2.2=g.orders.take s.1)) (fun s=>g.orders.length - s.1) ((0),(.slice none 0 0),([])) G ⟨rfl,rfl,rfl,rfl,rfl,tv⟩ ⟨rfl,rfl,rfl,rfl,rfl,rfl,tv⟩ ⟨Yx _,rfl⟩ ?_
 clear G;intro s a w F hC G
 obtain ⟨i,vb,ob⟩:=s
 try dsimp only at hC
 obtain ⟨F,G⟩:=G.nM [26,25,24,3,2] [103,102,101,51,50,0]
 try dsimp only at G
 obtain ⟨hi,hq⟩:=hC
 have hol:ob.length≤i:=by rw [hq,Yi];omega
 refine Ya (rZ G (qL r2) V [27,26,25,24,3,2] [103,102,101,51,50,0] fun G=>Ya ?_)
 refine Zc G rfl (fun hc1=>?_) (fun hc1=>?_)
 ·have hil:i<g.orders.length:=by simp at hc1;omega
  have hio:=hil
  refine Ye (Za (Ya (Yg (Ya (Zb G (qy 2 underlying23 r2 (qf (oR true 2 .t) r1 qz (qf (oH [.int .i64 0,.slice none 0 0] 105) trivial qz (qS 2 105 r2 r1 qZ)))) V [26,25,24,7,3,2] [105,103,102,101,51,50,0] (fun _=>rfl) (fun _=>rfl) fun τ a w F G=>?_)))))
  try dsimp only [RS.sub,SF.sub,CF.sub,csub,Anc.sub,List.map,Zf,xL,xM,Nat.reduceAdd,xD,xE,xT,xU,xC,xN,zCF,ldSF,Zx,rTx,ZJ,ZW,Zn,rOp] at G
  generalize τ 7=v7 at G
  try simp only [Yb] at G
  refine Za (ZaP G (qg 1 103 r1 r1 (qa 103 r1 r1 (qg 0 105 r1 r1 (qa 105 r1 r1 (qg 1 105 r1 r1 (qa 105 r1 r1 (qf (oP (cloneIP_c (Nn g.orders i).txs (by have:=hs.2.at hio;omega)) func42 (Args.one .t)) r1 qz (qf (oB [(0,.tmp 33),(1,.tmp 36)] [.int .i64 0,.slice none 0 0] [(0,1),(1,1)] (.one rfl .t one_int kr (.one rfl .t one_sl kr .nil))) r2 qz (qf (o_buildSliceE (sz:=2) (zs:=[.int .i64 0,.slice none 0 0]) (r:=[(0,.tmp 37)]) (l:=[_,_]) underlying23 kr kr kr kr rfl rfl (.agg rfl .t kr kr .nil) rfl) r1 qz (qf (ZV (sz:=2) (bs:=32) 51 (.mk' underlying23 kr kr) (by intro x;rfl) .is (.arr (l':=[(Nn g.orders i)]) .t) (by simp only [Yd,Yl,Yy];omega) (by decide)) ⟨rfl,rfl,tv⟩ ⟨rfl,tv⟩ (qg 1 103 r1 r1 (qf (o_storeS 103 .adr kr kr) r2 r1 qZ)))))))))))) V [26,25,24,3,2] [105,103,102,101,51,50,0] (fun _=>rfl) (fun _=>rfl) fun τ a w F G=>?_)
  try dsimp only [RS.sub,SF.sub,CF.sub,csub,Anc.sub,List.map,Zf,xL,xM,Nat.reduceAdd,xD,xE,xT,xU,xC,xN,zCF,ldSF,Zx,rTx,ZJ,ZW,Zn,rOp] at G
  generalize τ 39=v39 at G
  refine Zh (Za (rZ G (qp r1 (qR rr qZ)) V [26,25,24,3,2] [105,103,102,101,51,50,0] fun G=>?_))
  replace G:=G.ent (i:=26) (s':=.pv (.int .i64 ((i+1:Nat):Int))) rfl (.int (Zd ow))
  obtain ⟨F,G⟩:=G.nM [25,24,3,2,26] [102,101,50,0,51,103]
  exact ⟨((i+1),_,_),F,⟨by omega,(by rw [Zp hil,← hq])⟩,G,by omega⟩
 have hil:i=g.orders.length:=by simp at hc1;omega
 have hqb:ob=g.orders:=by rw [hq,hil,Yz]
 subst hqb
 refine Yv (Zi (Zi (Zo (Za (Ya (rZ G (qe 2 103 r1 r1 (qs 2 102 r2 r1 qZ)) V [2] [103,102,101,51,50,0] fun G=>Yh ?_))))))
 have G:=G.fresh 1 rfl
 obtain ⟨F,G⟩:=G.push 1 51 rfl rfl rfl rfl
 obtain ⟨F,G⟩:=G.push 1 50 rfl rfl rfl rfl
 refine ZuF hG G rfl (.cl 102 true 2 rfl rfl .nil) (.one (.aggU rfl rfl)) rfl
def Ze1 (os:List ZP) (k:Int):List ZP:=if isK ZP.key k os=true then os else os.take (Zbt ZP.key k os) ++ [⟨k,[]⟩] ++ os.drop (Zbt ZP.key k os)
def ZjS (k:Int):List ZP→List ZP
 | []=>[⟨k,[]⟩]
 | o :: os=>if o.key<k then o :: ZjS k os else if o.key=k then o :: os else ⟨k,[]⟩ :: o :: os
theorem Zkb {α:Type} {κ:α→Int} {k:Int} (l:List α):Zbt κ k l≤l.length:=by
 unfold Zbt
 exact (List.takeWhile_sublist _).length_le
theorem ZU {α:Type} [Inhabited α] {κ:α→Int} {l:List α} : ZcR κ l ↔ l.Pairwise fun a b=>κ a<κ b:=by
 rw [YaL]
 constructor
 ·intro h i j hi hj hij
  have:=h i j hij hj
  rwa [nth_eq hi,nth_eq hj] at this
 ·intro h a b hab hb
  rw [nth_eq ow,nth_eq hb]
  exact h a b ow hb hab
theorem Zh1 (k:Int):∀ {os:List ZP},ZcR ZP.key os→Ze1 os k=ZjS k os
 | [],_=>rfl
 | o :: os,h=>by
  rw [ZU,Yo] at h
  have ih:=Zh1 k (os:=os) (ZU.2 h.2)
  have e1:Zbt ZP.key k (o :: os)=if o.key<k then Zbt ZP.key k os+1 else 0:=by
   unfold Zbt
   split
   ·rename_i h1
    rw [Ybn (by simpa using h1),Yl]
   ·rename_i h1
    rw [List.takeWhile_cons_of_neg (by simpa using h1)];rfl
  have e2:isK ZP.key k (o :: os)=(decide (o.key=k) || isK ZP.key k os):=by unfold isK;rw [YbM]
  by_cases h1:o.key<k
  ·rw [Yf h1] at e1
   have e3:isK ZP.key k (o :: os)=isK ZP.key k os:=by rw [e2,YB ow,Ybf]
   unfold Ze1 at ih ⊢
   unfold ZjS
   rw [Yf h1,e3,e1]
   split
   ·rename_i h2;rw [Yf h2] at ih;exact Y7 (o :: ·) ih
   ·rename_i h2;rw [Yc h2] at ih;rw [← ih];simp
  ·rw [Yc h1] at e1
   unfold Ze1 ZjS
   rw [Yc h1,e1]
   by_cases h3:o.key=k
   ·rw [Yf h3,Yf (by rw [e2,Yac h3,YbY])]
   ·rw [Yc h3,Yc]
    ·simp
    ·rw [e2,YB h3,Ybf]
     unfold isK
     rw [Yay]
     rintro ⟨x,hx,hk⟩
     have:=h.1 x hx
     simp at hk
     omega
theorem ZlZ {k:Int} {o:ZP} : ∀ {os:List ZP},o ∈ ZjS k os→o ∈ os∨o = ⟨k,[]⟩
 | [],h=>by simp [ZjS] at h;exact .inr h
 | x :: os,h=>by
  unfold ZjS at h
  split at h
  ·rcases Yk.1 h with h | h
   ·exact .inl (by simp [h])
   ·rcases ZlZ h with h | h
    ·exact .inl (by simp [h])
    ·exact .inr h
  ·split at h
   ·exact .inl h
   ·rcases Yk.1 h with h | h
    ·exact .inr h
    ·exact .inl h
theorem ZiT {k:Int} : ∀ {os:List ZP},(os.Pairwise fun a b=>a.key<b.key)→(ZjS k os).Pairwise fun a b=>a.key<b.key
 | [],_=>by simp [ZjS]
 | x :: os,h=>by
  rw [Yo] at h
  unfold ZjS
  split
  ·rename_i h1
   rw [Yo]
   refine ⟨fun o ho=>?_,ZiT h.2⟩
   rcases ZlZ ho with h3 | h3
   ·exact h.1 o h3
   ·rw [h3];exact h1
  ·split
   ·rw [Yo];exact h
   ·rw [Yo,Yo]
    refine ⟨fun o ho=>?_,h⟩
    rcases Yk.1 ho with h3 | h3
    ·rw [h3];show k<x.key;omega
    ·have:=h.1 o h3;show k<o.key;omega
theorem insK_rise {os:List ZP} (k:Int) (h:ZcR ZP.key os):ZcR ZP.key (Ze1 os k):=by
 rw [Zh1 k h,ZU]
 exact ZiT (ZU.1 h)
theorem Zl2 (os:List ZP) (k:Int):(Ze1 os k).length≤os.length+1:=by
 unfold Ze1
 split
 ·omega
 ·rw [Yd,Yd,Yi,YE];simp;omega
theorem ZkK {os:List ZP} {k:Int} {o:ZP} (h:o ∈ Ze1 os k):o ∈ os∨o = ⟨k,[]⟩:=by
 unfold Ze1 at h
 split at h
 ·exact .inl h
 ·rw [YD,YD] at h
  rcases h with (h | h) | h
  ·exact .inl (YaM h)
  ·exact .inr (by simpa using h)
  ·exact .inl (YbO h)
def ZdF (t:TxD) (os:List ZP) (ks:List Int):List ZP:=if t.done=true then ks.foldl Ze1 os else os
theorem ZgQ {t:TxD} {os:List ZP} (h:ZcR ZP.key os) (hs:ZdB os) (ks:List Int):ZcR ZP.key (ZdF t os ks)∧(ZdF t os ks).length≤os.length+ks.length ∧ ∀ o ∈ ZdF t os ks,o.txs.length≤1000:=by
 unfold ZdF
 split
 ·have key:∀ (ks:List Int) (os:List ZP),ZcR ZP.key os→(∀ o ∈ os,o.txs.length≤1000)→ZcR ZP.key (ks.foldl Ze1 os)∧(ks.foldl Ze1 os).length≤os.length+ks.length ∧ ∀ o ∈ ks.foldl Ze1 os,o.txs.length≤1000:=by
   intro ks
   induction ks with
   | nil=>intro os h1 h2;exact ⟨h1,by simp,h2⟩
   | cons k ks ih=>
    intro os h1 h2
    obtain ⟨g1,g2,g3⟩:=ih (Ze1 os k) (insK_rise k h1) (fun o ho=>by
     rcases ZkK ho with h | h
     ·exact h2 o h
     ·rw [h];simp)
    have:=Zl2 os k
    exact ⟨g1,by rw [Yan,Yl];omega,g3⟩
  exact key ks os h hs.2
 ·exact ⟨h,by omega,hs.2⟩
theorem ZoG {t:TxD} {os:List ZP} {ks:List Int} {i:Nat} (hi:i<ks.length) (hc:t.done=true∧isK ZP.key (Nn ks i) (ZdF t os (ks.take i))=false) :
  (ZdF t os (ks.take i)).take (Zbt ZP.key (Nn ks i) (ZdF t os (ks.take i))) ++ [⟨Nn ks i,[]⟩] ++ (ZdF t os (ks.take i)).drop (Zbt ZP.key (Nn ks i) (ZdF t os (ks.take i)))=ZdF t os (ks.take (i+1)):=by
 have e:ZdF t os (ks.take (i+1))=Ze1 (ZdF t os (ks.take i)) (Nn ks i):=by
  unfold ZdF
  rw [Yf hc.1,Yf hc.1,Zp hi,Yau];rfl
 rw [e];unfold Ze1;rw [Yc (by rw [hc.2];simp)]
theorem ZoE {t:TxD} {os:List ZP} {ks:List Int} {i:Nat} (hi:i<ks.length) (hc:¬ (t.done=true∧isK ZP.key (Nn ks i) (ZdF t os (ks.take i))=false)):ZdF t os (ks.take i)=ZdF t os (ks.take (i+1)):=by
 unfold ZdF at hc ⊢
 by_cases hd:t.done=true
 ·rw [Yf hd] at hc
  rw [Yf hd,Yf hd,Zp hi,Yau]
  have hx:∀ X k,isK ZP.key k X=true→Ze1 X k=X:=fun X k h=>by unfold Ze1;rw [Yf h]
  show _=Ze1 _ _
  rw [hx]
  cases h:isK ZP.key (Nn ks i) ((ks.take i).foldl Ze1 os) with
  | true=>rfl
  | false=>exact absurd ⟨hd,h⟩ hc
 ·rw [Yc hd,Yc hd]
def Zj1 (t:TxD) (o:ZP):ZP:=⟨o.key,if t.done=true∧0<wcnt t.ops o.key then withO o.txs t.id else withoutO o.txs t.id⟩
def ZaU (t:TxD) (os:List ZP):List ZP:=((ZdF t os (Z7 t)).map (Zj1 t)).filter fun o=>!decide (o.txs = [])
theorem Zvf {α:Type} [Inhabited α] {f:α→α} {l l2:List α} {i:Nat} (hi:i<l.length) (h:l2=(l.take i).map f++l.drop i):Nn l2 i=Nn l i∧l2.length=l.length:=by
 have h2:l2.length=l.length:=by rw [h,Yd,YH,Yi,YE];omega
 refine ⟨?_,h2⟩
 rw [nth_eq ow,nth_eq hi]
 subst h
 rw [List.getElem_append_right (by rw [YH,Yi];omega)]
 simp only [YH,Yi,List.getElem_drop]
 congr 1
 omega
theorem ZtN {α:Type} [Inhabited α] {f:α→α} {l l2:List α} {i:Nat} (hi:i<l.length) (h:l2=(l.take i).map f++l.drop i):l2.set i (f (Nn l i))=(l.take (i+1)).map f++l.drop (i+1):=by
 have hd:l.drop i=Nn l i :: l.drop (i+1):=by rw [nth_eq hi];exact Yba hi
 rw [h,Zp hi,YP,YO,List.set_append_right _ _ (by rw [YH,Yi];omega)]
 congr 1
 have:i - ((l.take i).map f).length=0:=by rw [YH,Yi];omega
 rw [this,hd];rfl
abbrev ZqV (T TR:TypeId) (p va:Value) (os:List ZP):HP:=HP.ex fun vb:Value=>HP.star [.pt (.val p) T [.pv (.is va),.pv (.is vb)],.ob (.val vb) (Zu TR 2 ZJ os)]
theorem Zoo {k:IntKind} {a:Int} {b:Bool} (v:Value) (w:World) (y y':Ys) (h:(PV.tup [.int k a,.bool b]).p v w y):(PV.tup [.int k a,.bool b]).p v w y':=by
 obtain ⟨vs,e,h⟩:=h
 match vs,h with
 | [_,_],h=>exact ⟨_,e,h⟩
theorem Zu5 {α:Type} {R:α→List PV} {l:List PV} {l':List α} (h:Nat.ble l'.length maxLen=true) (e:Zeq l (l'.flatMap R)):Ent (.pv (.arr l'.length l)) (.pv (.sl R l')):=fun _ w y v k=>Ze4.arrSl h e v w y k
theorem Zo9 (o:ZP):FnP prog 107 [.agg (ZJ o)] (.bool (decide (o.txs = []))):=by
 refine FnP.mk func107 rfl ntmps107 rfl fun B a w F V hfr G=>Ya ?_
 refine Zb G (qx 101 r1 qB) V [2,1] [101,0] (fun _=>rfl) (fun _=>rfl) fun τ a w F G=>?_
 try dsimp only [RS.sub,SF.sub,CF.sub,csub,Anc.sub,List.map,zCF,ZJ,Zn] at G
 generalize τ 1=v1 at G
 refine Za (Ya (rZ G (qg 1 101 r1 r1 (qa 101 r1 r1 (qu underlying45 r1 (qf (o_eql .t qi) r1 qz (qO rr qZ))))) V [2] [0] fun G=>Yh ?_))
 refine Zr hfr G rfl rfl rfl (.bool (by rw [Yar];simp))
theorem Zrv (p va:Value) (os:List ZP) (t:TxD) (hs:ZdB os) (hr:ZcR ZP.key os) (ht:t.ops.length≤1000):FnG prog 63 1 [.is p,.agg (rTx t)] [ZqV 25 70 p va os] (.tup []) (fun _=>[ZqV 25 70 p va (ZaU t os)]):=by
 refine FnG.mk func63 rfl ntmps63 rfl kr fun B F0 a w F V hG G=>?_
 have hso:=hs.1
 have hkl:=Zea t
 replace G:=G.turn 1 rfl (r':=RS.hp (HP.ex fun vb:Value=>HP.star [.pt (.val p) 25 [.pv (.is va),.pv (.is vb)],.ob (.val vb) (Zu 70 2 ZJ os)])) (fun _ _ _ _ h=>h)
 obtain ⟨vb0,G⟩:=G.open_ex 1 rfl
 obtain ⟨F,G⟩:=G.peel 1 61 rfl rfl
 obtain ⟨F,G⟩:=G.peel 1 62 rfl rfl
 obtain ⟨F,G⟩:=G.nM [1,0] [62,61,1,0]
 refine Ya (Zb G (qx 101 r1 qZ) V [3,0] [101,62,61,1,0] (fun _=>rfl) (fun _=>rfl) fun τ a w F G=>?_)
 try dsimp only [RS.sub,SF.sub,CF.sub,csub,Anc.sub,List.map,zCF,Zx,rTx,ZJ,ZW,Zn,rOp] at G
 generalize τ 3=v3 at G
 refine Za (Ya (Ya (Ze G (qe 3 101 r1 r1 (qf (oP (ZoS t ow) func91 (Args.one (.pagg .t))) r1 qz (qu underlying45 r1 (qJ qZ)))) V [13,12,11,3,0] [101,62,61,1,0] rfl rfl fun a w F G=>?_)))
 rw [show Zbq ((t.ops.filter fun o=>!o.read).map OpD.key)=Z7 t from rfl] at G
 refine Za (Yg (Zk (σ:=(Nat)×(Value)×(List ZP)) [0,3,11,12] [0,1,101] (fun s=>[(13,.pv (.int .i64 (s.1:Int)))]) (fun s=>[(61,.pt (.val p) 25 [.pv (.is va),.pv (.is s.2.1)]),(62,.ob (.val s.2.1) (Zu 70 2 ZJ s.2.2))]) (fun s=>s.1≤(Z7 t).length∧(s.2.2=ZdF t os ((Z7 t).take s.1))) (fun s=>(Z7 t).length - s.1) ((0),(vb0),(os)) G ⟨rfl,rfl,rfl,rfl,rfl,tv⟩ ⟨rfl,rfl,rfl,rfl,rfl,tv⟩ ⟨Yx _,(by unfold ZdF;split <;> rfl)⟩ ?_))
 clear G;intro s a w F hC G
 obtain ⟨i,vb,ol⟩:=s
 try dsimp only at hC
 obtain ⟨F,G⟩:=G.nM [13,12,11,3,0] [101,62,61,1,0]
 try dsimp only at G
 obtain ⟨hi,hq⟩:=hC
 obtain ⟨hf1,hf2,hf3⟩:=ZgQ (t:=t) hr hs ((Z7 t).take i)
 rw [Yi,← hq] at hf2
 rw [← hq] at hf1 hf3
 have hst:=fun h=>ZoG (t:=t) (os:=os) (ks:=(Z7 t)) (i:=i) h
 have hsk:=fun h=>ZoE (t:=t) (os:=os) (ks:=(Z7 t)) (i:=i) h
 rw [← hq] at hst hsk
 have hlk:=Zkb (κ:=ZP.key) (k:=(Nn (Z7 t) i)) ol
 refine Ya (rZ G (qL r2) V [14,13,12,11,3,0] [101,62,61,1,0] fun G=>Ya ?_)
 refine Zc G rfl (fun hc0=>?_) (fun hc0=>?_)
 ·have hil:i<(Z7 t).length:=by simp at hc0;omega
  have hio:=hil
  refine Ye (Za (Ya (Yg (Ya (Ze G (qy 1 underlying45 r2 (qf (oR false 1 .t) r1 qz (qO rr qZ))) V [13,12,11,5,3,0] [101,62,61,1,0] rfl rfl fun a w F G=>?_)))))
  try simp only [Yb] at G
  refine Za (Ya (rZ G (qR rr (qf (o_nilCheck 61 .is (by rfl)) r1 r1 (qf (oF 1 61 .adr) r1 r1 (qa 61 r1 r1 (qR rr (qf (OpC.lendRow 62 [21] (oP (ZvG ol (Nn (Z7 t) i) ow hf1 98 f98 [] func98 rfl kr (fun x=>Ztp x (Nn (Z7 t) i))) func97 (Args.three .t .t (.conv .f (Ent.fnClos)))) ⟨rfl,tv,tv⟩ (.pv Zoo) trivial (by rfl)) r2 r1 (qR rr (qf (Zj .t rfl) r1 qz (qf (Zj .t rfl) r1 qz (qO rr (qO rr qZ))))))))))) V [13,12,11,7,6,5,3,0] [101,62,61,1,0] fun G=>Ya ?_))
  refine rZ G (qg 1 101 r1 r1 (qa 101 r1 r1 (qR rr (qm rfl rfl rfl rfl (qk rfl (fun h=>o_not (.w h)) r2 qz (qf (ZE .t .t) r2 qz qZ)))))) V [31,13,12,11,6,5,3,0] [101,62,61,1,0] fun G=>?_
  refine Zc G rfl (fun hc1=>?_) (fun hc1=>?_)
  ·have hq9:=hst hio (by simpa using hc1)
   refine Zb G (qR rr (qR rr (qf (o_nilCheck 61 .is (by rfl)) r1 r1 (qf (oF 1 61 .adr) r1 r1 (qa 61 r1 r1 (qR rr (qR rr (qf (oB [(0,.tmp 38)] [.int .i64 0,.slice none 0 0] [(0,1),(1,1)] (.one rfl .t one_int kr .nil)) r1 qz (qf (o_buildSliceE (sz:=2) (zs:=[.int .i64 0,.slice none 0 0]) (r:=[(0,.tmp 39)]) (l:=[_,_]) underlying23 kr kr kr kr rfl rfl (.agg rfl .t kr kr .nil) rfl) r1 qz (qf (o_callRowN 62 (Zu2 vb ol (Zbt ZP.key (Nn (Z7 t) i) ol) ⟨(Nn (Z7 t) i),[]⟩ ow hlk) func103 rfl kr (Args.three .t .t (.conv .t (Zu5 (l:=[.int .i64 (Nn (Z7 t) i),.is (.slice none 0 0)]) (R:=ZJ) (l':=[⟨(Nn (Z7 t) i),[]⟩]) rfl ⟨Ze4.refl,Ze4.nilSl,tv⟩))) pvOne1) r3 r1 (qf (o_nilCheck 61 .is (by rfl)) r1 r1 (qf (oF 1 61 .adr) r1 r1 (qf (o_storeS 61 .adr kr kr) r2 r1 qZ))))))))))))) V [13,12,11,3,0] [101,62,61,1,0] (fun _=>rfl) (fun _=>rfl) fun τ a w F G=>?_
   try dsimp only [RS.sub,SF.sub,CF.sub,csub,Anc.sub,List.map,Zf,xL,xM,Nat.reduceAdd,xD,xE,xT,xU,xC,xN,zCF,ldSF,Zx,rTx,ZJ,ZW,Zn,rOp] at G
   generalize τ 41=v41 at G
   refine Zh (Za (rZ G (qp r1 (qR rr qZ)) V [13,12,11,3,0] [101,62,61,1,0] fun G=>?_))
   replace G:=G.ent (i:=13) (s':=.pv (.int .i64 ((i+1:Nat):Int))) rfl (.int (Zd ow))
   obtain ⟨F,G⟩:=G.nM [12,11,3,0,13] [101,1,0,62,61]
   exact ⟨((i+1),_,_),F,⟨by omega,hq9⟩,G,by omega⟩
  have hq9:=hsk hio (by intro e;simp [e.1,e.2] at hc1)
  refine Ye (Zh (Za (rZ G (qp r1 (qR rr qZ)) V [13,12,11,3,0] [101,62,61,1,0] fun G=>?_)))
  replace G:=G.ent (i:=13) (s':=.pv (.int .i64 ((i+1:Nat):Int))) rfl (.int (Zd ow))
  obtain ⟨F,G⟩:=G.nM [12,11,3,0,13] [101,1,0,62,61]
  exact ⟨((i+1),_,_),F,⟨by omega,hq9⟩,G,by omega⟩
 have hil:i=(Z7 t).length:=by simp at hc0;omega
 have hq0:ol=ZdF t os (Z7 t):=by rw [hq,hil,Yz]
 refine Yv (Zi (Zi (Zo (Za (Ya (Ya (rZ G (qR rr (qf (o_nilCheck 61 .is (by rfl)) r1 r1 (qf (oF 1 61 .adr) r1 r1 (qa 61 r1 r1 (qf (ZS 62 underlying23 .is) r1 r1 (qJ qZ)))))) V [50,49,3,0] [101,62,61,1,0] fun G=>Yg ?_)))))))
 refine Zk (σ:=(Nat)×(List ZP)) [0,3,49] [0,1,61,101] (fun s=>[(50,.pv (.int .i64 (s.1:Int)))]) (fun s=>[(62,.ob (.val vb) (Zu 70 2 ZJ s.2))]) (fun s=>s.1≤ol.length∧(s.2=(ol.take s.1).map (Zj1 t)++ol.drop s.1)) (fun s=>ol.length - s.1) ((0),(ol)) G ⟨rfl,rfl,rfl,rfl,tv⟩ ⟨rfl,rfl,rfl,rfl,rfl,tv⟩ ⟨Yx _,(by simp)⟩ ?_
 clear G;intro s a w F hC G
 obtain ⟨i,o2⟩:=s
 try dsimp only at hC
 obtain ⟨F,G⟩:=G.nM [50,49,3,0] [101,62,61,1,0]
 try dsimp only at G
 obtain ⟨hi,hq⟩:=hC
 have hm:=fun h=>Zvf (f:=Zj1 t) (l:=ol) (i:=i) h hq
 have hms:=fun h=>ZtN (f:=Zj1 t) (l:=ol) (i:=i) h hq
 refine Ya (rZ G (qL r2) V [51,50,49,3,0] [101,62,61,1,0] fun G=>Ya ?_)
 refine Zc G rfl (fun hc2=>?_) (fun hc2=>?_)
 ·have hil:i<ol.length:=by simp at hc2;omega
  have hio:=hil
  have hol:=hf3 _ (nth_mem hio)
  have hmn:=(hm hio).1
  have hms2:=hms hio
  have hol2:(Nn o2 i).txs.length≤1000:=by rw [hmn];exact hol
  refine Ye (Za (Ya (Yg (Ya (rZ G (qR rr (qO rr qZ)) V [50,49,8,3,0] [101,62,61,1,0] fun G=>Ya ?_)))))
  refine Ze G (qR rr (qf (o_nilCheck 61 .is (by rfl)) r1 r1 (qf (oF 1 61 .adr) r1 r1 (qa 61 r1 r1 (qR rr (qf (o_indexAddr_row (sz:=2) 62 (.mk underlying23 kr) .is .t ow ow (by rfl)) r2 r1 (qO rr qZ))))))) V [50,49,9,3,0] [101,62,61,1,0] rfl rfl fun a w F G=>?_
  try simp only [Yb] at G
  refine Za (Ya (Zv G (qg 1 101 r1 r1 (qa 101 r1 r1 (qR rr (qk rfl (fun h=>oL true 3 101 .is) r2 r1 (qm rfl rfl rfl rfl (qk rfl (fun h=>o_nilCheck_row0 (sz:=2) 62 (.w h) (by intro x;rfl) (by have:=(hm hil).2;omega)) r2 r1 (qk rfl (fun h=>o_fieldAddr_row (off:=0) (sz:=2) 62 (.w h) (by have:=(hm hil).2;omega) kr (by rfl)) r2 r1 (qk rfl (fun h=>Zah (ag:=false) (sz':=1) (sz:=2) 62 (.w h) (by intro x;rfl) (by have:=(hm hil).2;omega) kr kr kr) r2 r1 (qk rfl (fun h=>oP (Zdf t (Nn o2 i).key ow) func29 (Args.two (.pagg (.w h)) (.w h))) r3 qz (qk rfl (fun h=>ZaR (.w h) qi) r2 qz (qf (ZE .t .t) r2 qz qZ))))))))))) V [69,50,49,9,3,0] [101,62,61,1,0] rfl rfl fun a w F G=>?_))
  try dsimp only [List.map,xD,xE,xT,xU,ldSF,Zx,rTx,ZJ,ZW,Zn,rOp] at G
  refine Za (Zc G rfl (fun hc3=>?_) (fun hc3=>?_))
  ·have hq9:o2.set i ⟨(Nn o2 i).key,withO (Nn o2 i).txs t.id⟩ = (ol.take (i+1)).map (Zj1 t)++ol.drop (i+1):=by rw [← hms2,hmn];unfold Zj1;rw [Yf (by have h9:=hc3;unfold wcnt;simpa [hmn] using h9)]
   refine Zv G (qR rr (qR rr (qf (o_nilCheck_row0 (sz:=2) 62 .t (by intro x;rfl) (by have:=(hm hil).2;omega)) r1 r1 (qf (o_fieldAddr_row (off:=1) (sz:=2) 62 .t (by have:=(hm hil).2;omega) kr (by rfl)) r1 r1 (qf (Zah (ag:=false) (sz':=1) (sz:=2) 62 .t (by intro x;rfl) (by have:=(hm hil).2;omega) kr kr kr) r1 r1 (qg 0 101 r1 r1 (qa 101 r1 r1 (qf (oP (ZsM (Nn o2 i).txs t.id ow) func104 (Args.two .t .t)) r2 qz (qf (o_nilCheck_row0 (sz:=2) 62 .t (by intro x;rfl) (by have:=(hm hil).2;omega)) r1 r1 (qf (o_fieldAddr_row (off:=1) (sz:=2) 62 .t (by have:=(hm hil).2;omega) kr (by rfl)) r1 r1 (qf (Zc4 (R:=ZJ) (sz:=2) (off:=1) (v':=(⟨(Nn o2 i).key,withO (Nn o2 i).txs t.id⟩:ZP)) 62 .t (by intro x;rfl) (by have:=(hm hil).2;omega) (by decide) .t one_sl rfl kr) r2 r1 qZ))))))))))) V [50,49,3,0] [101,62,61,1,0] rfl rfl fun a w F G=>?_
   try dsimp only [List.map,Zf,xL,xM,Nat.reduceAdd,xD,xE,xT,xU,xC,xN,zCF,ldSF,Zx,rTx,ZJ,ZW,Zn,rOp] at G
   refine Zh (Za (rZ G (qp r1 (qR rr qZ)) V [50,49,3,0] [101,62,61,1,0] fun G=>?_))
   replace G:=G.ent (i:=50) (s':=.pv (.int .i64 ((i+1:Nat):Int))) rfl (.int (Zd ow))
   obtain ⟨F,G⟩:=G.nM [49,3,0,50] [101,61,1,0,62]
   exact ⟨((i+1),_),F,⟨by omega,hq9⟩,G,by omega⟩
  have hq9:o2.set i ⟨(Nn o2 i).key,withoutO (Nn o2 i).txs t.id⟩ = (ol.take (i+1)).map (Zj1 t)++ol.drop (i+1):=by rw [← hms2,hmn];unfold Zj1;rw [Yc (by have h9:=hc3;unfold wcnt;intro e;rw [← hmn] at e;simp [e.1,e.2] at h9)]
  refine Zv G (qR rr (qR rr (qf (o_nilCheck_row0 (sz:=2) 62 .t (by intro x;rfl) (by have:=(hm hil).2;omega)) r1 r1 (qf (o_fieldAddr_row (off:=1) (sz:=2) 62 .t (by have:=(hm hil).2;omega) kr (by rfl)) r1 r1 (qf (Zah (ag:=false) (sz':=1) (sz:=2) 62 .t (by intro x;rfl) (by have:=(hm hil).2;omega) kr kr kr) r1 r1 (qg 0 101 r1 r1 (qa 101 r1 r1 (qf (oP (Zmg (Nn o2 i).txs t.id ow) func105 (Args.two .t .t)) r2 qz (qf (o_nilCheck_row0 (sz:=2) 62 .t (by intro x;rfl) (by have:=(hm hil).2;omega)) r1 r1 (qf (o_fieldAddr_row (off:=1) (sz:=2) 62 .t (by have:=(hm hil).2;omega) kr (by rfl)) r1 r1 (qf (Zc4 (R:=ZJ) (sz:=2) (off:=1) (v':=(⟨(Nn o2 i).key,withoutO (Nn o2 i).txs t.id⟩:ZP)) 62 .t (by intro x;rfl) (by have:=(hm hil).2;omega) (by decide) .t one_sl rfl kr) r2 r1 qZ))))))))))) V [50,49,3,0] [101,62,61,1,0] rfl rfl fun a w F G=>?_
  try dsimp only [List.map,Zf,xL,xM,Nat.reduceAdd,xD,xE,xT,xU,xC,xN,zCF,ldSF,Zx,rTx,ZJ,ZW,Zn,rOp] at G
  refine Zh (Za (rZ G (qp r1 (qR rr qZ)) V [50,49,3,0] [101,62,61,1,0] fun G=>?_))
  replace G:=G.ent (i:=50) (s':=.pv (.int .i64 ((i+1:Nat):Int))) rfl (.int (Zd ow))
  obtain ⟨F,G⟩:=G.nM [49,3,0,50] [101,61,1,0,62]
  exact ⟨((i+1),_),F,⟨by omega,hq9⟩,G,by omega⟩
 have hil:i=ol.length:=by simp at hc2;omega
 have hfin:(o2.filter fun o=>!decide (o.txs = []))=ZaU t os:=by rw [hq,hil,Yz,List.drop_length,YQ,hq0];rfl
 have ho2:o2.length=ol.length:=by rw [hq,hil];simp
 refine Yv (Zi (Zi (Zo (Za (Zb G (qR rr (qR rr (qf (o_nilCheck 61 .is (by rfl)) r1 r1 (qf (oF 1 61 .adr) r1 r1 (qa 61 r1 r1 (qf (o_callRowN 62 (ZtV vb o2 ow (fun o=>decide (o.txs = [])) 107 f107 [] func107 rfl kr (fun o=>Zo9 o)) func106 rfl kr (Args.two .t (.conv .f (Ent.fnClos))) pvOne1) r1 r1 (qf (o_nilCheck 61 .is (by rfl)) r1 r1 (qf (oF 1 61 .adr) r1 r1 (qf (o_storeS 61 .adr kr kr) r2 r1 qZ))))))))) V [] [101,62,61,1,0] (fun _=>rfl) (fun _=>rfl) fun τ a w F G=>?_)))))
 try dsimp only [RS.sub,SF.sub,CF.sub,csub,Anc.sub,List.map,Zf,xL,xM,Nat.reduceAdd,xD,xE,xT,xU,xC,xN,zCF,ldSF,Zx,rTx,ZJ,ZW,Zn,rOp] at G
 generalize τ 96=v96 at G
 obtain ⟨F,G⟩:=G.push 1 62 rfl rfl rfl rfl
 obtain ⟨F,G⟩:=G.push 1 61 rfl rfl rfl rfl
 have G:=G.turn 1 rfl (r':=RS.hp (ZqV 25 70 p va (ZaU t os))) (fun _ _ _ _ h=>⟨v96,by rw [hfin] at h;exact h⟩)
 refine Zad hG G rfl .nil .none rfl
def insE (l:List Z9) (e:Z9):List Z9:=l.take (Zbt Za2 (Za2 e) l) ++ [e] ++ l.drop (Zbt Za2 (Za2 e) l)
theorem putE_c (v:Value) (l:List Z9) (e:Z9) (hll:l.length≤1000000) (hs:ZcR Za2 l) (hl:∀ x ∈ l,okE x) (he:okE e):FnG prog 157 1 [.is v,.agg (Zau e)] [Zu 217 3 Zau l v] (PV.one) (fun v=>[Zu 217 3 Zau (insE l e) v]):=by
 refine FnG.mk func157 rfl ntmps157 rfl kr fun B F0 a w F V hG G=>?_
 replace G:=G.turn 1 rfl (r':=.ob (.val v) (Zu 217 3 Zau l)) (fun _ _ _ _ h=>h)
 refine Ya (Zb G (qx 101 r1 (qC qZ)) V [4,3,0] [101,1,0] (fun _=>rfl) (fun _=>rfl) fun τ a w F G=>?_)
 try dsimp only [RS.sub,SF.sub,CF.sub,csub,Anc.sub,List.map,zCF,Zau,Zav,Zn,Zao] at G
 generalize τ 3=v3 at G
 refine Za (Ya (rZ G (qR rr (qe 3 101 r1 r1 (qf (OpC.lendRow 1 [8] (oP (Zu3 l e (Za2 e) hll hs 196 f196 [] func196 rfl kr (fun x hx=>ZsK x e (hl x hx) he)) func195 (Args.three .t (.pagg .t) (.conv .f (Ent.fnClos)))) ⟨rfl,tv,tv⟩ (.pv Zoo) trivial (by rfl)) r2 r1 (qR rr (qf (Zj .t rfl) r1 qz (qf (Zj .t rfl) r1 qz (qO rr (qO rr qZ)))))))) V [5,4,3,0] [101,1,0] fun G=>Ya ?_))
 refine Zb G (qR rr (qR rr (qe 3 101 r1 r1 (qf (o_buildSliceE (sz:=3) (zs:=[.int .i64 0,.int .i64 0,.int .i64 0]) (r:=[(0,.tmp 15)]) (l:=[_,_,_]) underlying220 kr kr kr kr rfl rfl (.agg rfl .t kr kr .nil) rfl) r1 qz (qf (o_callRowN 1 (ZuS v l (Zbt Za2 (Za2 e) l) e hll (Zkb l)) func197 rfl kr (Args.three .t .t (.conv .t (Ent.arrSl (R:=Zau) (l:=[e]) rfl))) pvOne1) r3 r1 (qO rr qZ)))))) V [4] [1,0] (fun _=>rfl) (fun _=>rfl) fun τ a w F G=>?_
 try dsimp only [RS.sub,SF.sub,CF.sub,csub,Anc.sub,List.map,Zf,xL,xM,Nat.reduceAdd,xD,xE,xT,xU,xC,xN,zCF,ldSF,Zau,Zav,Zn,Zao] at G
 generalize τ 17=v17 at G
 have hg:insE l e=l.take (Zbt Za2 (Za2 e) l) ++ [e] ++ l.drop (Zbt Za2 (Za2 e) l):=rfl
 refine Za (Yh ?_)
 have G:=G.turn 1 rfl (r':=RS.hp (Zu 217 3 Zau (insE l e) v17)) (fun _ _ _ _ h=>by rw [hg];exact h)
 refine Z2 (h':=fun v=>Zu 217 3 Zau (insE l e) v) hG G rfl (.tmp rfl .nil) (.one .one) rfl
def Zvu (L:List (List Z9)):Prop:=∀ l ∈ L,l.length≤1000000∧ZcR Za2 l ∧ ∀ e ∈ l,okE e
def Zqa (O:List (List Z9)) (x:Zy):Bool:=ZaG O.length x && isK Za2 (Za2 (endO x)) (Nn O x.src.toNat)
theorem ZQ {n:Nat} {x:Zy} : ZaG n x=true ↔ (0≤x.src∧x.src<n)∧(0≤x.dst∧x.dst<n)∧(1≤x.kind∧x.kind≤3)∧0≤x.label∧x.label≤1048575:=by
 unfold ZaG
 simp only [Yr,Yu]
 constructor
 ·rintro ⟨⟨⟨⟨⟨a,b⟩,c⟩,d⟩,e⟩,f⟩;exact ⟨a,b,⟨c,d⟩,e,f⟩
 ·rintro ⟨a,b,⟨c,d⟩,e,f⟩;exact ⟨⟨⟨⟨⟨a,b⟩,c⟩,d⟩,e⟩,f⟩
theorem endO_ok {n:Nat} {x:Zy} (h:ZaG n x=true) (hn:n≤4096):okE (endO x):=by
 obtain ⟨h1,h2,h3,h4,h5⟩:=ZQ.1 h
 exact ⟨⟨h4,h5⟩,h2.1,show x.dst≤4095 by omega⟩
theorem endI_ok {n:Nat} {x:Zy} (h:ZaG n x=true) (hn:n≤4096):okE (endI x):=by
 obtain ⟨h1,h2,h3,h4,h5⟩:=ZQ.1 h
 exact ⟨⟨h4,h5⟩,h1.1,show x.src≤4095 by omega⟩
theorem ZsX (O I:List (List Z9)) (m:Nat) (x:Zy) (hO:Zvu O) (hn:O.length≤4096):FnP prog 155 [ZeJ O I m,.agg (Zao x)] (.bool (Zqa O x)):=by
 refine FnP.mk func155 rfl ntmps155 rfl fun B a w F V hfr G=>Ya ?_
 refine Zb G (qx 101 r1 qB) V [4,3,0] [101,0] (fun _=>rfl) (fun _=>rfl) fun τ a w F G=>?_
 try dsimp only [RS.sub,SF.sub,CF.sub,csub,Anc.sub,List.map,zCF,Zau,Zav,Zn,Zao] at G
 generalize τ 3=v3 at G
 refine Za (Ya (Ya (rZ G (qR rr (qe 4 101 r1 r1 (qf (oP (ZjE O I m x) func154 (Args.two .t (.pagg .t))) r2 qz (qf (o_not .t) r1 qz qZ)))) V [12,4,3,0] [101,0] fun G=>?_)))
 refine Zc G rfl (fun hc0=>?_) (fun hc0=>?_)
 ·have hrf:ZaG O.length x=false:=by simpa using hc0
  have hg:false=Zqa O x:=by unfold Zqa;rw [hrf];rfl
  refine Ya (rZ G qB V [4,3,0] [101,0] fun G=>(Yh (Zl ?_)))
  refine Zr hfr G rfl rfl rfl (.bool hg)
 have hrt:ZaG O.length x=true:=by simpa using hc0
 obtain ⟨hs1,hs2⟩:=(ZQ.1 hrt).1
 have hg:isK Za2 (Za2 (endO x)) (Nn O x.src.toNat)=Zqa O x:=by unfold Zqa;rw [hrt,Ya2]
 refine Ye (Za (Ya (Zb G (qe 4 101 r1 r1 (qf (oP (ZkP x) func156 (Args.one (.pagg .t))) r1 qz (qR rr (qf (Zj .t rfl) r1 qz (qf (Zj .t rfl) r1 qz (qf (oH [.int .i64 0,.int .i64 0,.int .i64 0] 102) trivial qz (qf (oH [.int .i64 0,.int .i64 0,.int .i64 0] 103) trivial qz (qf (oA 3 102 .same (.conv .t .agg)) r2 r1 (qf (oA 3 103 .same (.conv .t .agg)) r2 r1 qZ))))))))) V [5,4,3,0] [102,101,0] (fun _=>rfl) (fun _=>rfl) fun τ a w F G=>?_)))
 try dsimp only [RS.sub,SF.sub,CF.sub,csub,Anc.sub,List.map,Zf,xL,xM,Nat.reduceAdd,xD,xE,xT,xU,xC,xN,zCF,ldSF,Zau,Zav,Zn,Zao] at G
 generalize τ 5=v5 at G
 generalize τ 6=v6 at G
 refine Za (Ya (Zv G (qR rr (qf (ZD .t) r1 qz (qf (oG 0 .t) r1 qz (qf (oR false 1 .t) r1 qz (qg 0 101 r1 r1 (qa 101 r1 r1 (qy 1 underlying213 r2 (qf (oR false 1 .t) r1 qz (qe 3 102 r1 r1 (qf (oP (Zu3 (Nn O x.src.toNat) (endO x) (Za2 (endO x)) (hO _ (nth_mem ow)).1 (hO _ (nth_mem ow)).2.1 196 f196 [] func196 rfl kr (fun z hz=>ZsK z (endO x) ((hO _ (nth_mem ow)).2.2 z hz) (endO_ok hrt hn))) func195 (Args.three .t (.pagg .t) (.conv .f (Ent.fnClos)))) r2 qz (qR rr (qf (Zj .t rfl) r1 qz (qf (Zj .t rfl) r1 qz (qO rr (qO rr qZ))))))))))))))) V [8,4] [0] rfl rfl fun a w F G=>?_))
 try dsimp only [List.map,xD,xE,xT,xU,ldSF,Zau,Zav,Zn,Zao] at G
 try simp only [Yb] at G
 refine Za (Ya (rZ G (qR rr (qO rr qZ)) V [4] [0] fun G=>Yh ?_))
 refine Zr hfr G rfl rfl rfl (.bool hg)
theorem Zvz {α:Type} [Inhabited α] {l:List α} {k j:Nat} {v:α} (h:j<l.length):Nn (l.set k v) j=if k=j then v else Nn l j:=by
 rw [nth_eq (by simpa using h),YbT]
 split
 ·rfl
 ·exact (nth_eq h).symm
theorem ZlD {hs:List Value} {L:List (List Z9)} {k:Nat} {v:Value} {l:List Z9} (h2:hs.length=L.length):Ze0 (hs.set k v) (L.set k l)=(Ze0 hs L).set k (v,l):=by
 apply Ya6 (by simp [Ze0])
 intro j h3 h4
 have hj:j<hs.length:=by simpa [Ze0] using h3
 simp only [Ze0,List.getElem_map,List.getElem_range,YbT]
 rw [Zvz hj,Zvz ow]
 split <;> rfl
def ZeP (O I:List (List Z9)) (m:Nat) (x:Zy):List (List Z9)×List (List Z9)×Nat×Int:=
 if ZaG O.length x then if Zqa O x then (O,I,m,4) else (O.set x.src.toNat (insE (Nn O x.src.toNat) (endO x)),I.set x.dst.toNat (insE (Nn I x.dst.toNat) (endI x)),m+1,0) else (O,I,m,1)
theorem Zo0 (b:Nat) (O I:List (List Z9)) (m:Nat) (x:Zy) (hO:Zvu O) (hI:Zvu I) (hOI:I.length=O.length) (hn:O.length≤4096) (hm:m<1000000):FnG prog 116 1 [.is (Value.pointer (some { block:=b,off:=0 })),.agg (Zao x)] [Znm O I m (Value.pointer (some { block:=b,off:=0 }))] (.int .i64 (ZeP O I m x).2.2.2) (fun _=>[Znm (ZeP O I m x).1 (ZeP O I m x).2.1 (ZeP O I m x).2.2.1 (Value.pointer (some { block:=b,off:=0 }))]):=by
 refine FnG.mk func116 rfl ntmps116 rfl kr fun B F0 a w F V hG G=>Ya ?_
 refine Zb G (qx 101 r1 (qI qZ)) V [4,3,0] [101,1,0] (fun _=>rfl) (fun _=>rfl) fun τ a w F G=>?_
 try dsimp only [RS.sub,SF.sub,CF.sub,csub,Anc.sub,List.map,zCF,Zau,Zav,Zn,Zao] at G
 generalize τ 3=v3 at G
 refine Za (Ya (Yg (Ya (rZ G (qR rr (qe 4 101 r1 r1 (qf (OpC.lend 1 [8] Zfc (oP (ZjE O I m x) func154 (Args.two .t (.pagg .t))) ⟨rfl,tv,tv⟩ (.pv (fun _ _ _ _ h=>h)) trivial (by rfl)) r2 r1 (qf (o_not .t) r1 qz (qO rr qZ))))) V [7,4,3,0] [101,1,0] fun G=>?_))))
 refine Zc G rfl (fun hc0=>?_) (fun hc0=>?_)
 ·have hrf:ZaG O.length x=false:=by simpa using hc0
  have hg:ZeP O I m x=(O,I,m,1):=by unfold ZeP;rw [hrf];rfl
  refine Ya (rZ G (qI qZ) V [4,3,0] [101,1,0] fun G=>(Yh (Zz (Zl ?_))))
  rw [hg]
  refine Zad hG G rfl (.tmp rfl .nil) (.one .refl) rfl
 have hrt:ZaG O.length x=true:=by simpa using hc0
 obtain ⟨⟨hs1,hs2⟩,⟨hd1,hd2⟩,_⟩:=ZQ.1 hrt
 refine Ya (rZ G (qR rr (qe 4 101 r1 r1 (qf (OpC.lend 1 [13] Zfc (oP (ZsX O I m x hO hn) func155 (Args.two .t (.pagg .t))) ⟨rfl,tv,tv⟩ (.pv (fun _ _ _ _ h=>h)) trivial (by rfl)) r2 r1 (qO rr qZ)))) V [12,4,3,0] [101,1,0] fun G=>?_)
 refine Zc G rfl (fun hc1=>?_) (fun hc1=>?_)
 ·have hht:Zqa O x=true:=hc1
  have hg:ZeP O I m x=(O,I,m,4):=by unfold ZeP;rw [hrt,hht];rfl
  refine Ya (rZ G (qI qZ) V [4,3,0] [101,1,0] fun G=>(Yh (Zz (Zl ?_))))
  rw [hg]
  refine Zad hG G rfl (.tmp rfl .nil) (.one .refl) rfl
 have hhf:Zqa O x=false:=hc1
 have hg:ZeP O I m x=(O.set x.src.toNat (insE (Nn O x.src.toNat) (endO x)),I.set x.dst.toNat (insE (Nn I x.dst.toNat) (endI x)),m+1,0):=by unfold ZeP;rw [hrt,hhf];rfl
 refine Ye (Zh (Za (Ya (Zb G (qe 4 101 r1 r1 (qf (oP (ZkP x) func156 (Args.one (.pagg .t))) r1 qz (qR rr (qf (Zj .t rfl) r1 qz (qf (Zj .t rfl) r1 qz (qf (oH [.int .i64 0,.int .i64 0,.int .i64 0] 102) trivial qz (qf (oH [.int .i64 0,.int .i64 0,.int .i64 0] 103) trivial qz (qf (oA 3 102 .same (.conv .t .agg)) r2 r1 (qf (oA 3 103 .same (.conv .t .agg)) r2 r1 qZ))))))))) V [6,5,4,3,0] [103,102,101,1,0] (fun _=>rfl) (fun _=>rfl) fun τ a w F G=>?_))))
 try dsimp only [RS.sub,SF.sub,CF.sub,csub,Anc.sub,List.map,Zf,xL,xM,Nat.reduceAdd,xD,xE,xT,xU,xC,xN,zCF,ldSF,Zau,Zav,Zn,Zao] at G
 generalize τ 5=v5 at G
 generalize τ 6=v6 at G
 obtain ⟨ov,G⟩:=G.open_ex 1 rfl
 obtain ⟨iv,G⟩:=G.open_ex 1 rfl
 obtain ⟨F,G⟩:=G.peel 1 2 rfl rfl
 obtain ⟨F,G⟩:=G.peel 1 3 rfl rfl
 obtain ⟨F,G⟩:=G.peel 1 4 rfl rfl
 obtain ⟨hs,G⟩:=G.open_ex 3 rfl
 obtain ⟨hl1,G⟩:=G.open_and 3 rfl
 obtain ⟨F,G⟩:=G.peel 3 5 rfl rfl
 obtain ⟨F,G⟩:=G.peel 3 6 rfl rfl
 obtain ⟨js,G⟩:=G.open_ex 4 rfl
 obtain ⟨hl2,G⟩:=G.open_and 4 rfl
 obtain ⟨F,G⟩:=G.peel 4 7 rfl rfl
 obtain ⟨F,G⟩:=G.peel 4 8 rfl rfl
 obtain ⟨F,G⟩:=G.nM [6,5,4,3,0] [103,102,101,8,7,6,5,2,0]
 obtain ⟨F,G⟩:=G.takeAt Znl 6 61 (x.src.toNat) rfl rfl (ZoD ow)
 replace G:=G.turn 61 rfl (r':=.ob (.val (Nn hs x.src.toNat)) (Zu 217 3 Zau (Nn O x.src.toNat))) (fun _ _ _ _ h=>h)
 obtain ⟨F,G⟩:=G.nM [6,5,4,3,0] [103,102,101,61,8,7,6,5,2,0]
 obtain ⟨F,G⟩:=G.takeAt Znl 8 62 (x.dst.toNat) rfl rfl (ZoD ow)
 replace G:=G.turn 62 rfl (r':=.ob (.val (Nn js x.dst.toNat)) (Zu 217 3 Zau (Nn I x.dst.toNat))) (fun _ _ _ _ h=>h)
 obtain ⟨F,G⟩:=G.nM [6,5,4,3,0] [103,102,101,62,61,8,7,6,5,2,0]
 refine Za (Ya (ZaP G (qR rr (qf (o_nilCheck 2 .is (by rfl)) r1 r1 (qf (oF 0 2 .adr) r1 r1 (qa 2 r1 r1 (qg 0 101 r1 r1 (qa 101 r1 r1 (qR rr (qf (o_nilCheck 2 .is (by rfl)) r1 r1 (qf (oF 0 2 .adr) r1 r1 (qa 2 r1 r1 (qg 0 101 r1 r1 (qa 101 r1 r1 (qf (o_indexAddr_row (sz:=1) 5 (.mk underlying213 kr) .is .t ow ow (by rfl)) r2 r1 (qf (Zt (ag:=false) (sz':=1) (sz:=1) 5 .t (by intro x;rfl) ow kr kr kr) r1 r1 (qe 3 102 r1 r1 (qf (o_callRowN 61 (putE_c _ (Nn O x.src.toNat) (endO x) (hO _ (nth_mem ow)).1 (hO _ (nth_mem ow)).2.1 (hO _ (nth_mem ow)).2.2 (endO_ok hrt hn)) func157 rfl kr (Args.two .t (.pagg .t)) pvOne1) r2 r1 (qf (o_indexAddr_row (sz:=1) 5 (.mk underlying213 kr) .is .t ow ow (by rfl)) r2 r1 (qf (Zk7 (i:=36) (j:=36) (by rfl) (fun z=>ZH (R:=rV) (sz:=1) (v:=z) 5 .t (by intro x;rfl) ow .t rfl one_is kr)) r2 r1 qZ)))))))))))))))))) V [6,4,3,0] [103,101,62,61,8,7,6,5,2,0] (fun _=>rfl) (fun _=>rfl) fun τ a w F G=>?_))
 try dsimp only [RS.sub,SF.sub,CF.sub,csub,Anc.sub,List.map,Zf,xL,xM,Nat.reduceAdd,xD,xE,xT,xU,xC,xN,zCF,ldSF,Zau,Zav,Zn,Zao] at G
 generalize τ 36=v36 at G
 try simp only [Yb] at G
 replace G:=G.turn 61 rfl (r':=RS.hp (Znl (v36,insE (Nn O x.src.toNat) (endO x)))) (fun _ _ _ _ h=>h)
 obtain ⟨F,G⟩:=G.putAt Znl (L:=Ze0 hs O) (x:=(v36,insE (Nn O x.src.toNat) (endO x))) 6 61 (x.src.toNat) (by rw [Zlf];omega) rfl rfl rfl
 rw [← ZlD ow] at G
 obtain ⟨F,G⟩:=G.nM [6,4,3,0] [103,101,62,8,7,6,5,2,0]
 refine Za (Ya (ZaP G (qR rr (qf (o_nilCheck 2 .is (by rfl)) r1 r1 (qf (oF 1 2 .adr) r1 r1 (qa 2 r1 r1 (qg 1 101 r1 r1 (qa 101 r1 r1 (qR rr (qf (o_nilCheck 2 .is (by rfl)) r1 r1 (qf (oF 1 2 .adr) r1 r1 (qa 2 r1 r1 (qg 1 101 r1 r1 (qa 101 r1 r1 (qf (o_indexAddr_row (sz:=1) 7 (.mk underlying213 kr) .is .t ow ow (by rfl)) r2 r1 (qf (Zt (ag:=false) (sz':=1) (sz:=1) 7 .t (by intro x;rfl) ow kr kr kr) r1 r1 (qe 3 103 r1 r1 (qf (o_callRowN 62 (putE_c _ (Nn I x.dst.toNat) (endI x) (hI _ (nth_mem ow)).1 (hI _ (nth_mem ow)).2.1 (hI _ (nth_mem ow)).2.2 (endI_ok hrt hn)) func157 rfl kr (Args.two .t (.pagg .t)) pvOne1) r2 r1 (qf (o_indexAddr_row (sz:=1) 7 (.mk underlying213 kr) .is .t ow ow (by rfl)) r2 r1 (qf (Zk7 (i:=53) (j:=53) (by rfl) (fun z=>ZH (R:=rV) (sz:=1) (v:=z) 7 .t (by intro x;rfl) ow .t rfl one_is kr)) r2 r1 qZ)))))))))))))))))) V [4,0] [62,8,7,6,5,2,0] (fun _=>rfl) (fun _=>rfl) fun τ a w F G=>?_))
 try dsimp only [RS.sub,SF.sub,CF.sub,csub,Anc.sub,List.map,Zf,xL,xM,Nat.reduceAdd,xD,xE,xT,xU,xC,xN,zCF,ldSF,Zau,Zav,Zn,Zao] at G
 generalize τ 53=v53 at G
 try simp only [Yb] at G
 replace G:=G.turn 62 rfl (r':=RS.hp (Znl (v53,insE (Nn I x.dst.toNat) (endI x)))) (fun _ _ _ _ h=>h)
 obtain ⟨F,G⟩:=G.putAt Znl (L:=Ze0 js I) (x:=(v53,insE (Nn I x.dst.toNat) (endI x))) 8 62 (x.dst.toNat) (by rw [Zlf];omega) rfl rfl rfl
 rw [← ZlD ow] at G
 obtain ⟨F,G⟩:=G.nM [4,0] [8,7,6,5,2,0]
 refine Za (Ya (rZ G (qR rr (qf (o_nilCheck 2 .is (by rfl)) r1 r1 (qf (oF 2 2 .adr) r1 r1 (qa 2 r1 r1 (qp r1 (qf (o_nilCheck 2 .is (by rfl)) r1 r1 (qf (oF 2 2 .adr) r1 r1 (qf (Za4 2 .adr .t one_int kr kr) r2 r1 qZ)))))))) V [4] [8,7,6,5,2,0] fun G=>Ya ?_))
 refine rZ G (qI qZ) V [4] [8,7,6,5,2,0] fun G=>Yh ?_
 rw [Zd ow] at G
 have hl3:(hs.set x.src.toNat v36).length=(O.set x.src.toNat (insE (Nn O x.src.toNat) (endO x))).length:=by simp [hl1]
 have hl4:(js.set x.dst.toNat v53).length=(I.set x.dst.toNat (insE (Nn I x.dst.toNat) (endI x))).length:=by simp [hl2]
 have G:=G.fresh 3 rfl
 have G:=G.fresh 4 rfl
 have G:=G.fresh 1 rfl
 obtain ⟨F,G⟩:=G.push 3 6 rfl rfl rfl kr
 obtain ⟨F,G⟩:=G.push 3 5 rfl rfl rfl kr
 obtain ⟨F,G⟩:=G.push 4 8 rfl rfl rfl kr
 obtain ⟨F,G⟩:=G.push 4 7 rfl rfl rfl kr
 have G:=G.turn 3 rfl (r':=RS.hp (Zi8 _ ov)) (fun _ _ _ _ h=>⟨_,hl3,h⟩)
 have G:=G.turn 4 rfl (r':=RS.hp (Zi8 _ iv)) (fun _ _ _ _ h=>⟨_,hl4,h⟩)
 obtain ⟨F,G⟩:=G.push 1 4 rfl rfl rfl kr
 obtain ⟨F,G⟩:=G.push 1 3 rfl rfl rfl kr
 obtain ⟨F,G⟩:=G.push 1 2 rfl rfl rfl kr
 have G:=G.turn 1 rfl (r':=RS.hp (Znm (ZeP O I m x).1 (ZeP O I m x).2.1 (ZeP O I m x).2.2.1 (Value.pointer (some { block:=b,off:=0 })))) (fun _ _ _ _ h=>by rw [hg];exact ⟨_,_,h⟩)
 refine Zad hG G rfl (.tmp rfl .nil) (.one (.int (by rw [hg]))) rfl
def adjO (O:List (List Z9)) (mask u:Int):List Int:=if 0≤u∧u<O.length then Zbq (((Nn O u.toNat).filter fun e=>ofB mask e.kind).map Z9.node) else []
theorem dgNodesOf_c (l:List Z9) (mask:Int) (hl:l.length≤1000000):FnP prog 198 [.sl Zau l,.int .i64 mask] (.sl Zn (Zbq ((l.filter fun e=>ofB mask e.kind).map Z9.node))):=by
 refine FnP.mk func198 rfl ntmps198 rfl fun B a w F V hfr G=>Ya ?_
 refine rZ G (qC qZ) V [4,1,0] [0] fun G=>Ya ?_
 refine rZ G (qC qZ) V [5,4,1,0] [0] fun G=>(Ya (Ya ?_))
 refine rZ G (qR rr (qu underlying220 r1 (qJ qZ))) V [10,9,8,5,4,1] [0] fun G=>Yg ?_
 replace G:=G.fresh 50 rfl
 replace G:=G.turn 50 rfl (ZaD (T:=3) (sz:=1) (R:=Zn))
 refine Zk (σ:=(Nat)×(Value)×(List Int)) [1,4,8,9] [0] (fun s=>[(10,.pv (.int .i64 (s.1:Int))),(5,.pv (.is s.2.1))]) (fun s=>[(50,.ob (.val s.2.1) (Zu 3 1 Zn s.2.2))]) (fun s=>s.1≤l.length∧(s.2.2=(((l.take s.1).filter fun e=>ofB mask e.kind).map Z9.node))) (fun s=>l.length - s.1) ((0),(.slice none 0 0),([])) G ⟨rfl,rfl,rfl,rfl,rfl,rfl,tv⟩ ⟨rfl,rfl,tv⟩ ⟨Yx _,rfl⟩ ?_
 clear G;intro s a w F hC G
 obtain ⟨i,v,out⟩:=s
 try dsimp only at hC
 obtain ⟨F,G⟩:=G.nM [10,9,8,5,4,1] [50,0]
 try dsimp only at G
 obtain ⟨hi,hq⟩:=hC
 have hol:out.length≤i:=by rw [hq,YH];exact Y0 (Y6 _ _) (by rw [Yi];omega)
 refine Ya (rZ G (qL r2) V [11,10,9,8,5,4,1] [50,0] fun G=>Ya ?_)
 refine Zc G rfl (fun hc0=>?_) (fun hc0=>?_)
 ·have hil:i<l.length:=by simp at hc0;omega
  refine Ye (Za (Ya (Yg (Ya (Zb G (qy 3 underlying220 r2 (qf (oR true 3 .t) r1 qz (qf (oH [.int .i64 0,.int .i64 0,.int .i64 0] 101) trivial qz (qS 3 101 r2 r1 qZ)))) V [10,9,8,7,5,4,1] [101,50,0] (fun _=>rfl) (fun _=>rfl) fun τ a w F G=>?_)))))
  try dsimp only [RS.sub,SF.sub,CF.sub,csub,Anc.sub,List.map,Zf,xL,xM,Nat.reduceAdd,xD,xE,xT,xU,xC,xN,zCF,ldSF,Zau,Zav,Zn,Zao] at G
  generalize τ 7=v7 at G
  try simp only [Yb] at G
  refine Za (Ya (rZ G (qR rr (qg 0 101 r1 r1 (qa 101 r1 r1 (qf (oP (ZsD mask (Nn l i).kind) func210 (Args.two .t .t)) r2 qz qZ)))) V [17,10,9,8,7,5,4,1] [101,50,0] fun G=>?_))
  refine Zc G rfl (fun hc1=>?_) (fun hc1=>?_)
  ·have hBq:ofB mask (Nn l i).kind=true:=by simpa using hc1
   refine Zb G (qR rr (qg 2 101 r1 r1 (qa 101 r1 r1 (qf (o_buildSliceE (sz:=1) (zs:=[.int .i64 0]) (r:=[(0,.tmp 20)]) (l:=[_]) underlying45 kr kr kr kr rfl rfl (.one rfl .t one_int kr .nil) rfl) r1 qz (qf (ZV (sz:=1) (bs:=8) 50 (.mk' underlying45 kr kr) (by intro x;rfl) .is (.arr (l':=[_]) .t) (by simp only [Yd,Yl,Yy,Yi,YE];omega) (by decide)) ⟨rfl,rfl,tv⟩ ⟨rfl,tv⟩ (qO rr qZ)))))) V [10,9,8,5,4,1] [101,50,0] (fun _=>rfl) (fun _=>rfl) fun τ a w F G=>?_
   try dsimp only [RS.sub,SF.sub,CF.sub,csub,Anc.sub,List.map,Zf,xL,xM,Nat.reduceAdd,xD,xE,xT,xU,xC,xN,zCF,ldSF,Zau,Zav,Zn,Zao] at G
   generalize τ 22=v22 at G
   refine Zh (Za (rZ G (qp r1 (qR rr qZ)) V [10,9,8,5,4,1] [101,50,0] fun G=>?_))
   replace G:=G.ent (i:=10) (s':=.pv (.int .i64 ((i+1:Nat):Int))) rfl (.int (Zd ow))
   obtain ⟨F,G⟩:=G.nM [9,8,4,1,5,10] [0,50]
   exact ⟨((i+1),_,_),F,⟨by omega,(by rw [Zp hil,Yai,YP,← hq];simp [hBq])⟩,G,by omega⟩
  have hBq:ofB mask (Nn l i).kind=false:=by simpa using hc1
  refine Ye (Zh (Za (rZ G (qp r1 (qR rr qZ)) V [10,9,8,5,4,1] [101,50,0] fun G=>?_)))
  replace G:=G.ent (i:=10) (s':=.pv (.int .i64 ((i+1:Nat):Int))) rfl (.int (Zd ow))
  obtain ⟨F,G⟩:=G.nM [9,8,4,1,5,10] [0,50]
  exact ⟨((i+1),_,_),F,⟨by omega,(by rw [Zp hil,Yai,YP,← hq];simp [hBq])⟩,G,by omega⟩
 have hil:i=l.length:=by simp at hc0;omega
 refine Yv (Zi (Zi (Zo (Za (Ya (rZ G (qR rr (qf (Zbi 50 (Zjq _ out ow) func92 rfl kr (Args.one .t)) r1 r1 qZ)) V [5,4] [50,0] fun G=>Ya ?_))))))
 refine Zb G (qR rr (qf (o_callRowN 50 (Zkw _ _ (by rw [Ybt];omega)) func179 rfl kr (Args.one .t) pvOne1) r1 r1 (qO rr qZ))) V [4] [50,0] (fun _=>rfl) (fun _=>rfl) fun τ a w F G=>?_
 try dsimp only [RS.sub,SF.sub,CF.sub,csub,Anc.sub,List.map,Zau,Zav,Zn,Zao] at G
 generalize τ 27=v27 at G
 refine Za (Yh ?_)
 obtain ⟨F,G⟩:=G.give 50 4 rfl rfl
 refine Zr hfr G rfl rfl rfl (.sl (by rw [Zdn,ZdU,hq,hil,Yz]))
theorem ZqG (O I:List (List Z9)) (m:Nat) (u mask:Int) (hO:∀ l ∈ O,l.length≤1000000):FnP prog 160 [ZeJ O I m,.int .i64 u,.int .i64 mask] (.sl Zn (adjO O mask u)):=by
 refine FnP.mk func160 rfl ntmps160 rfl fun B a w F V hfr G=>Ya ?_
 refine rZ G (qC qZ) V [6,2,1,0] [0] fun G=>(Ya (Ya ?_))
 refine rZ G (qR rr (qR rr (qf (oP (Zec O I m u) func194 (Args.two .t .t)) r2 qz (qf (o_not .t) r1 qz qZ)))) V [10,6,2,1,0] [0] fun G=>?_
 refine Zc G rfl (fun hc0=>?_) (fun hc0=>?_)
 ·have hg:[] = adjO O mask u:=by unfold adjO;rw [Yc (by have h9:=hc0;simp at h9;omega)]
  refine Ya (rZ G (qC qZ) V [6,2,1,0] [0] fun G=>(Yh (Zl ?_)))
  refine Zr hfr G rfl rfl rfl (.trans .nilSl (.sl hg))
 have hth:0≤u∧u<O.length:=by simpa using hc0
 have hg:(Zbq (((Nn O u.toNat).filter fun e=>ofB mask e.kind).map Z9.node))=adjO O mask u:=by unfold adjO;rw [Yf hth]
 refine Ye (Za (Ya (Ze G (qR rr (qf (ZD .t) r1 qz (qf (oG 0 .t) r1 qz (qf (oR false 1 .t) r1 qz (qR rr (qf (o_indexAddr_sl (sz:=1) (.mk underlying213 kr) (by intro x;rfl) .t .t (by exact hth.1) (by exact hth.2)) r2 qz (qf (oR false 1 .t) r1 qz (qR rr (qf (oP (dgNodesOf_c (Nn O u.toNat) mask (hO _ (nth_mem ow))) func198 (Args.two .t .t)) r2 qz (qO rr qZ)))))))))) V [6] [0] rfl rfl fun a w F G=>?_)))
 try simp only [Yb] at G
 refine Za (Yh (Zr hfr G rfl rfl rfl (.sl hg)))
def ZhV:Zw:=⟨[],[]⟩
theorem Zaz {g:Zw} (h:ZT g):ZcR TxD.id g.txs∧ZcR ZP.key g.orders:=by
 constructor
 ·have hi:Zdz (g.txs.map TxD.id):=ZfH fun i hi h0=>by
   have hi':i<g.txs.length:=by simpa using hi
   rw [ZcL ow,ZcL hi']
   exact (h.2.1 i hi').1 h0
  rw [ZU]
  exact YaY.1 hi
 ·have h2:=(Zdo g).2 h.2.2
  have hi:Zdz (g.orders.map ZP.key):=ZfH fun i hi h0=>by
   have hi':i<g.orders.length:=by simpa using hi
   rw [ZcL ow,ZcL hi']
   exact (h2.2 i hi').1 h0
  rw [ZU]
  exact YaY.1 hi
def Zni (t:TxD) (v:ZbT):Bool:=decide (v.tx=t.id) && decide ((wcnt t.ops v.key:Int)<v.nth)
def Zmt (t x:TxD):Bool:=decide (x.id≠t.id) && (Zbn x).any (Zni t)
def Zhr (g:Zw) (t:TxD):Bool:=g.txs.any (Zmt t)
theorem ZlX {α:Type} [Inhabited α] {p:α→Bool} {l:List α} (h:∀ q,q<l.length→p (Nn l q)=false):l.any p=false:=by
 rw [Ybi]
 intro x hx
 obtain ⟨k,hk,e⟩:=Yaa hx
 have:=h k hk
 rw [nth_eq hk,e] at this
 simp [this]
theorem Zk4 {α:Type} [Inhabited α] {p:α→Bool} {l:List α} {i:Nat} (hi:i<l.length) (h:p (Nn l i)=true):l.any p=true:=by
 rw [Yay]
 exact ⟨_,nth_mem hi,h⟩
def ZcT (id:Int):TxD:=⟨id,false,[]⟩
def Z4 (g:Zw) (id:Int):Zw×Int:=if ¬ ZT g then (ZhV,5) else if isK TxD.id id g.txs=false then (ZhV,3) else if Zhr g (ZcT id)=true then (ZhV,7) else (⟨g.txs.take (Zbt TxD.id id g.txs)++g.txs.drop (Zbt TxD.id id g.txs+1),ZaU (ZcT id) g.orders⟩,0)
theorem Ztv {α:Type} [Inhabited α] {κ:α→Int} {k:Int} {l:List α} (hs:ZcR κ l) (h:isK κ k l=true):Zbt κ k l<l.length∧κ (Nn l (Zbt κ k l))=k:=by
 obtain ⟨x,hx,hk⟩:=Yay.1 h
 obtain ⟨q,hq,e⟩:=Yaa hx
 have hk':κ (Nn l q)=k:=by rw [nth_eq hq,e];simpa using hk
 have hl:=ZdO (κ:=κ) (k:=k) (l:=l) (i:=q) (Nat.le_of_lt hq) (fun p hp=>by have:=hs p q hp hq;omega) (fun p hp hp2=>by have:=ZbC hs hp hp2;omega)
 rw [hl]
 exact ⟨hq,hk'⟩
theorem ZuU (g:Zw) (t:TxD) (hs:ZaW g.txs) (ht:t.ops.length≤1000):FnP prog 65 [.agg (Zx g),.agg (rTx t)] (.bool (Zhr g t)):=by
 refine FnP.mk func65 rfl ntmps65 rfl fun B a w F V hfr G=>?_
 have hsl:=hs.1
 have hnl:∀ x:TxD,x.ops.length≤1000→(Zbn x).length≤1000:=fun x hx=>by have:=Zg4 x.id x.ops x.ops.length;rw [Yz] at this;unfold Zbn;omega
 refine Ya (Zb G (qx 101 r1 (qx 102 r1 qB)) V [4,3,2] [102,101,0] (fun _=>rfl) (fun _=>rfl) fun τ a w F G=>?_)
 try dsimp only [RS.sub,SF.sub,CF.sub,csub,Anc.sub,List.map,zCF,Zx,rTx,ZJ,ZW,Zn,rOp] at G
 generalize τ 2=v2 at G
 generalize τ 3=v3 at G
 refine Za (Ya (Ya (rZ G (qg 0 101 r1 r1 (qa 101 r1 r1 (qu underlying22 r1 (qJ qZ)))) V [12,11,10,4,3] [102,101,0] fun G=>Yg ?_)))
 refine Zk (σ:=(Nat)) [3,4,10,11] [0,101,102] (fun s=>[(12,.pv (.int .i64 (s:Int)))]) (fun s=>[]) (fun s=>s≤g.txs.length∧(∀ q,q<s→Zmt t (Nn g.txs q)=false)) (fun s=>g.txs.length - s) (0) G ⟨rfl,rfl,rfl,rfl,rfl,tv⟩ ⟨rfl,rfl,rfl,tv⟩ ⟨Yx _,fun q hq=>absurd hq (Y1 q)⟩ ?_
 clear G;intro i a w F hC G
 try dsimp only at hC
 obtain ⟨F,G⟩:=G.nM [12,11,10,4,3] [102,101,0]
 try dsimp only at G
 obtain ⟨hi,hq⟩:=hC
 refine Ya (rZ G (qL r2) V [13,12,11,10,4,3] [102,101,0] fun G=>Ya ?_)
 refine Zc G rfl (fun hc0=>?_) (fun hc0=>?_)
 ·have hil:i<g.txs.length:=by simp at hc0;omega
  have hio:=hil
  have hqo:=hq
  have hnl2:=hnl (Nn g.txs i) (by have:=hs.at hio;omega)
  refine Ye (Za (Ya (Yg (Ya (Zb G (qy 3 underlying22 r2 (qf (oR true 3 .t) r1 qz (qf (oH [.int .i64 0,.bool false,.slice none 0 0] 103) trivial qz (qS 3 103 r2 r1 qZ)))) V [12,11,10,6,4,3] [103,102,101,0] (fun _=>rfl) (fun _=>rfl) fun τ a w F G=>?_)))))
  try dsimp only [RS.sub,SF.sub,CF.sub,csub,Anc.sub,List.map,Zf,xL,xM,Nat.reduceAdd,xD,xE,xT,xU,xC,xN,zCF,ldSF,Zx,rTx,ZJ,ZW,Zn,rOp] at G
  generalize τ 6=v6 at G
  try simp only [Yb] at G
  refine Za (Ya (rZ G (qe 3 103 r1 r1 (qf (oP (ZjF (Nn g.txs i) (by have:=hs.at hio;omega)) func88 (Args.one (.pagg .t))) r1 qz (qu underlying139 r1 (qJ qZ)))) V [19,18,17,12,11,10,6,4,3] [103,102,101,0] fun G=>Yg ?_))
  refine Zk (σ:=(Nat)) [3,4,6,10,11,12,17,18] [0,101,102,103] (fun s=>[(19,.pv (.int .i64 (s:Int)))]) (fun s=>[]) (fun s=>s≤(Zbn (Nn g.txs i)).length∧((Nn g.txs i).id≠t.id → ∀ q,q<s→Zni t (Nn (Zbn (Nn g.txs i)) q)=false)) (fun s=>(Zbn (Nn g.txs i)).length - s) (0) G ⟨rfl,rfl,rfl,rfl,rfl,rfl,rfl,rfl,rfl,tv⟩ ⟨rfl,rfl,rfl,rfl,tv⟩ ⟨Yx _,fun _ q hq=>absurd hq (Y1 q)⟩ ?_
  clear G;intro j a w F hC G
  try dsimp only at hC
  obtain ⟨F,G⟩:=G.nM [19,18,17,12,11,10,6,4,3] [103,102,101,0]
  try dsimp only at G
  obtain ⟨hi,hq⟩:=hC
  have hq2:=hq
  refine Ya (rZ G (qL r2) V [20,19,18,17,12,11,10,6,4,3] [103,102,101,0] fun G=>Ya ?_)
  refine Zc G rfl (fun hc1=>?_) (fun hc1=>?_)
  ·have hil:j<(Zbn (Nn g.txs i)).length:=by simp at hc1;omega
   have hjo:=hil
   refine Ye (Za (Ya (Yg (Ya (Zb G (qy 3 underlying139 r2 (qf (oR true 3 .t) r1 qz (qf (oH [.int .i64 0,.int .i64 0,.int .i64 0] 104) trivial qz (qS 3 104 r2 r1 qZ)))) V [19,18,17,12,11,10,8,6,4,3] [104,103,102,101,0] (fun _=>rfl) (fun _=>rfl) fun τ a w F G=>?_)))))
   try dsimp only [RS.sub,SF.sub,CF.sub,csub,Anc.sub,List.map,Zf,xL,xM,Nat.reduceAdd,xD,xE,xT,xU,xC,xN,zCF,ldSF,Zx,rTx,ZJ,ZW,Zn,rOp] at G
   generalize τ 8=v8 at G
   try simp only [Yb] at G
   refine Za (Ya (Zv G (qg 0 103 r1 r1 (qa 103 r1 r1 (qg 0 102 r1 r1 (qa 102 r1 r1 (qf (o_neq .t .t) r2 qz (qR rr (qv 0 104 rfl r2 r1 (qw 104 rfl r2 r1 (qv 0 102 rfl r2 r1 (qw 102 rfl r2 r1 (qk rfl (fun h=>o_eql (.w h) (.w h)) r3 qz (qf (ZE .t .t) r2 qz (qR rr (qv 2 104 rfl r2 r1 (qw 104 rfl r2 r1 (qk rfl (fun h=>oL true 3 102 .is) r2 r1 (qv 1 104 rfl r2 r1 (qw 104 rfl r2 r1 (qk rfl (fun h=>oP (Zdf t (Nn (Zbn (Nn g.txs i)) j).key ow) func29 (Args.two (.pagg (.w h)) (.w h))) r3 qz (qk rfl (fun h=>ZaR (.w h) (.w h)) r3 qz (qf (ZE .t .t) r2 qz qZ))))))))))))))))))))) V [43,19,18,17,12,11,10,6,4,3] [104,103,102,101,0] rfl rfl fun a w F G=>?_))
   try dsimp only [List.map,xD,xE,xT,xU,ldSF,Zx,rTx,ZJ,ZW,Zn,rOp] at G
   refine Za (Zc G rfl (fun hc2=>?_) (fun hc2=>?_))
   ·have hg:true=Zhr g t:=(Zk4 hio (by
      have h9:=hc2
      simp at h9
      unfold Zmt
      rw [Yac h9.1.1,Ya2]
      refine Zk4 hjo ?_
      unfold Zni wcnt
      simp [h9.1.2]
      first | exact h9.2 | (have:=h9.2;omega))).symm
    refine Ya (rZ G qB V [19,18,17,12,11,10,6,4,3] [104,103,102,101,0] fun G=>(Yh (Zz (Zl (Zl (Zz (Zz (Zl (Zl (Zz (Zl ?_)))))))))))
    refine Zr hfr G rfl rfl rfl (.bool hg)
   have hnv:(Nn g.txs i).id≠t.id→Zni t (Nn (Zbn (Nn g.txs i)) j)=false:=by
     intro hne
     have h9:=hc2
     unfold Zni wcnt
     simp [hne] at h9 ⊢
     first | exact h9 | (intro e;have:=h9 e;omega)
   refine Ye (Zh (Za (rZ G (qp r1 (qR rr qZ)) V [19,18,17,12,11,10,6,4,3] [104,103,102,101,0] fun G=>?_)))
   replace G:=G.ent (i:=19) (s':=.pv (.int .i64 ((j+1:Nat):Int))) rfl (.int (Zd ow))
   obtain ⟨F,G⟩:=G.nM [18,17,12,11,10,6,4,3,19] [103,102,101,0]
   exact ⟨(j+1),F,⟨by omega,(fun hne q h9=>by rcases YX (Y5 h9) with h8 | h8;exact hq2 hne q h8;rw [h8];exact hnv hne)⟩,G,by omega⟩
  have hil:j=(Zbn (Nn g.txs i)).length:=by simp at hc1;omega
  have hno:Zmt t (Nn g.txs i)=false:=by
    unfold Zmt
    by_cases hne:(Nn g.txs i).id≠t.id
    ·rw [ZlX (by rw [← hil];exact hq2 hne),Bool.and_false]
    ·rw [YB hne,Bool.false_and]
  refine Yv (Zi (Zi (Zo (Zh (Za (rZ G (qp r1 (qR rr qZ)) V [12,11,10,4,3] [103,102,101,0] fun G=>?_))))))
  replace G:=G.ent (i:=12) (s':=.pv (.int .i64 ((i+1:Nat):Int))) rfl (.int (Zd ow))
  obtain ⟨F,G⟩:=G.nM [11,10,4,3,12] [102,101,0]
  exact ⟨(i+1),F,⟨by omega,(fun q h9=>by rcases YX (Y5 h9) with h8 | h8;exact hqo q h8;rw [h8];exact hno)⟩,G,by omega⟩
 have hil:i=g.txs.length:=by simp at hc0;omega
 have hg:false=Zhr g t:=(ZlX (by rw [← hil];exact hq)).symm
 refine Yv (Zi (Zi (Zo (Za (Ya (rZ G qB V [4] [102,101,0] fun G=>Yh ?_))))))
 refine Zr hfr G rfl rfl rfl (.bool hg)
theorem Zpo (g:Zw) (id:Int) (hs:Zbs g):FnP prog 30 [.agg (Zx g),.int .i64 id] (.tup [.agg (Zx (Z4 g id).1),.int .i64 (Z4 g id).2]):=by
 refine FnP.mk func30 rfl ntmps30 rfl fun B a w F V hfr G=>?_
 have hsl:=hs.1.1
 refine Ya (Zb G (qx 101 r1 (qf (oH [.slice none 0 0,.slice none 0 0] 102) trivial qz (qI qZ))) V [5,4,2,1] [102,101,0] (fun _=>rfl) (fun _=>rfl) fun τ a w F G=>?_)
 try dsimp only [RS.sub,SF.sub,CF.sub,csub,Anc.sub,List.map,zCF,Zx,rTx,ZJ,ZW,Zn,rOp] at G
 generalize τ 2=v2 at G
 generalize τ 4=v4 at G
 refine Za (Ya (Ya (rZ G (qe 2 101 r1 r1 (qf (oP (Zfe g hs) func19 (Args.one (.pagg .t))) r1 qz (qf (o_not .t) r1 qz qZ))) V [11,5,4,2,1] [102,101,0] fun G=>?_)))
 refine Zc G rfl (fun hc0=>?_) (fun hc0=>?_)
 ·have hr:¬ ZT g:=by simpa using hc0
  have hg:Z4 g id=(ZhV,5):=by unfold Z4;rw [Yf hr]
  refine Ya (rZ G (qf (oB [] [.slice none 0 0,.slice none 0 0] [(0,1),(1,1)] .nil) trivial qz (qs 2 102 r2 r1 (qI qZ))) V [5,4,2,1] [102,101,0] fun G=>(Yh (Zl ?_)))
  refine Zab hfr G rfl (.cl 102 true 2 rfl rfl (.tmp rfl .nil)) (.two (by rw [hg];first | exact .aggU rfl rfl | exact .aggLe rfl ⟨Ze4.nilSl,Ze4.nilSl,tv⟩) (.int (by rw [hg])))
 have hr:ZT g:=by simpa using hc0
 have hrr:=Zaz hr
 refine Ye (Za (Ya (rZ G (qe 2 101 r1 r1 (qR rr (qf (oP (ZsN g id hs.1 hrr.1) func64 (Args.two (.pagg .t) .t)) r2 qz (qR rr (qf (Zj .t rfl) r1 qz (qf (Zj .t rfl) r1 qz (qO rr (qO rr qZ)))))))) V [7,6,5,4,2,1] [102,101,0] fun G=>(Ya (Yg (Ya ?_))))))
 refine rZ G (qR rr (qf (o_not .t) r1 qz (qO rr qZ))) V [19,6,5,4,2,1] [102,101,0] fun G=>?_
 refine Zc G rfl (fun hc1=>?_) (fun hc1=>?_)
 ·have hik:isK TxD.id id g.txs=false:=by simpa using hc1
  have hg:Z4 g id=(ZhV,3):=by unfold Z4;rw [Yc (YaZ.2 hr),Yf hik]
  refine Ya (rZ G (qf (oB [] [.slice none 0 0,.slice none 0 0] [(0,1),(1,1)] .nil) trivial qz (qs 2 102 r2 r1 (qI qZ))) V [6,5,4,2,1] [102,101,0] fun G=>(Yh (Zz (Zl ?_))))
  refine Zab hfr G rfl (.cl 102 true 2 rfl rfl (.tmp rfl .nil)) (.two (by rw [hg];first | exact .aggU rfl rfl | exact .aggLe rfl ⟨Ze4.nilSl,Ze4.nilSl,tv⟩) (.int (by rw [hg])))
 have hik:isK TxD.id id g.txs=true:=by simpa using hc1
 have hlk:=(Ztv hrr.1 hik).1
 refine Ya (rZ G (qe 2 101 r1 r1 (qR rr (qf (oB [(0,.tmp 25)] [.int .i64 0,.bool false,.slice none 0 0] [(0,1),(1,1),(2,1)] (.one rfl .t one_int kr .nil)) r1 qz (qf (oP (ZuU g (ZcT id) hs.1 (by simp [ZcT])) func65 (Args.two (.pagg .t) (.conv (.pagg .t) (Ent.paggLe (l:=[.int .i64 id,.bool false,.is (.slice none 0 0)]) (l':=[.int .i64 id,.bool false,.sl rOp []]) ⟨Ze4.refl,Ze4.refl,Ze4.nilSl,tv⟩)))) r2 qz (qO rr qZ))))) V [23,6,5,4,2,1] [102,101,0] fun G=>?_)
 refine Zc G rfl (fun hc2=>?_) (fun hc2=>?_)
 ·have hg:Z4 g id=(ZhV,7):=by unfold Z4;rw [Yc (YaZ.2 hr),Yc (by rw [hik];simp),Yf (by simpa using hc2)]
  refine Ya (rZ G (qf (oB [] [.slice none 0 0,.slice none 0 0] [(0,1),(1,1)] .nil) trivial qz (qs 2 102 r2 r1 (qI qZ))) V [6,5,4,2,1] [102,101,0] fun G=>(Yh (Zz (Zl ?_))))
  refine Zab hfr G rfl (.cl 102 true 2 rfl rfl (.tmp rfl .nil)) (.two (by rw [hg];first | exact .aggU rfl rfl | exact .aggLe rfl ⟨Ze4.nilSl,Ze4.nilSl,tv⟩) (.int (by rw [hg])))
 have hg:Z4 g id=(⟨g.txs.take (Zbt TxD.id id g.txs)++g.txs.drop (Zbt TxD.id id g.txs+1),ZaU (ZcT id) g.orders⟩,0):=by unfold Z4;rw [Yc (YaZ.2 hr),Yc (by rw [hik];simp),Yc (by simpa using hc2)]
 refine Ye (Zh (Za (Ya ?_)))
 replace G:=G.fresh 103 rfl
 refine Zb G (qe 2 101 r1 r1 (qf (Zqn 103 (Zuo g hs) func60 rfl kr (Args.one (.pagg .t))) r1 r1 (qf (oH [.slice none 0 0,.slice none 0 0] 104) trivial qz (qf (oA 2 104 .same (.conv .t (Ent.fnAgg (.fn (.fn .nil))))) r2 r1 qZ)))) V [8,6,5,4,1] [104,103,102,101,0] (fun _=>rfl) (fun _=>rfl) fun τ a w F G=>?_
 try dsimp only [RS.sub,SF.sub,CF.sub,csub,Anc.sub,List.map,Zf,xL,xM,Nat.reduceAdd,xD,xE,xT,xU,xC,xN,zCF,ldSF,Zx,rTx,ZJ,ZW,Zn,rOp] at G
 generalize τ 8=v8 at G
 generalize τ 30=v30 at G
 replace G:=G.turn 103 rfl (r':=RS.hp (HP.star [.ob (.val (cellN 0 v30)) (Zu 30 3 rTx g.txs),.ob (.val (cellN 1 v30)) (Zu 70 2 ZJ g.orders)])) (fun _ _ _ _ h=>h)
 obtain ⟨F,G⟩:=G.peel 103 70 rfl rfl
 obtain ⟨F,G⟩:=G.peel 103 71 rfl rfl
 obtain ⟨F,G⟩:=G.nM [8,6,5,4,1] [104,102,101,71,70,0]
 generalize cellN 0 v30=va at G
 generalize cellN 1 v30=vb at G
 refine Za (Ya (Zb G (qg 0 104 r1 r1 (qa 104 r1 r1 (qR rr (qR rr (qp r1 (qf (o_callRowN 70 (ZuO va g.txs (Zbt TxD.id id g.txs) ow hlk) func66 rfl kr (Args.three .t .t (.conv .t (.int (Zd ow)))) pvOne1) r3 r1 (qg 0 104 r1 r1 (qf (o_storeS 104 .adr kr kr) r2 r1 qZ)))))))) V [8,5,4,1] [104,102,101,71,70,0] (fun _=>rfl) (fun _=>rfl) fun τ a w F G=>?_))
 try dsimp only [RS.sub,SF.sub,CF.sub,csub,Anc.sub,List.map,Zf,xL,xM,Nat.reduceAdd,xD,xE,xT,xU,xC,xN,zCF,ldSF,Zx,rTx,ZJ,ZW,Zn,rOp] at G
 generalize τ 36=v36 at G
 refine Za (Ya ?_)
 replace G:=G.fresh 72 rfl
 obtain ⟨F,G⟩:=G.push 72 71 rfl rfl rfl rfl
 obtain ⟨F,G⟩:=G.push 72 104 rfl rfl rfl rfl
 replace G:=G.turn 72 rfl (r':=RS.hp (ZqV 25 70 v8 v36 g.orders)) (fun _ _ _ _ h=>⟨vb,h⟩)
 obtain ⟨F,G⟩:=G.nM [8,5,4,1] [102,101,72,70,0]
 refine Ze G (qR rr (qf (oB [(0,.tmp 38)] [.int .i64 0,.bool false,.slice none 0 0] [(0,1),(1,1),(2,1)] (.one rfl .t one_int kr .nil)) r1 qz (qf (ZK 72 (Zrv v8 v36 g.orders (ZcT id) hs.2 hrr.2 (by simp [ZcT])) func63 rfl kr (Args.two .t (.conv (.pagg .t) (Ent.paggLe (l:=[.int .i64 id,.bool false,.is (.slice none 0 0)]) (l':=[.int .i64 id,.bool false,.sl rOp []]) ⟨Ze4.refl,Ze4.refl,Ze4.nilSl,tv⟩)))) r2 r1 qZ))) V [8,5,4] [102,101,72,70,0] rfl rfl fun a w F G=>?_
 replace G:=G.turn 72 rfl (r':=RS.hp (HP.ex fun vb:Value=>HP.star [.pt (.val v8) 25 [.pv (.is v36),.pv (.is vb)],.ob (.val vb) (Zu 70 2 ZJ (ZaU (ZcT id) g.orders))])) (fun _ _ _ _ h=>h)
 obtain ⟨vb2,G⟩:=G.open_ex 72 rfl
 obtain ⟨F,G⟩:=G.peel 72 73 rfl rfl
 obtain ⟨F,G⟩:=G.peel 72 74 rfl rfl
 obtain ⟨F,G⟩:=G.nM [8,5,4] [102,101,74,73,70,0]
 obtain ⟨F,G⟩:=G.giveCell 70 73 0 rfl rfl rfl rfl rfl
 try dsimp only [List.set] at G
 obtain ⟨F,G⟩:=G.nM [8,5,4] [102,101,74,73,0]
 obtain ⟨F,G⟩:=G.giveCell 74 73 1 rfl rfl rfl rfl rfl
 try dsimp only [List.set] at G
 obtain ⟨F,G⟩:=G.nM [8,5,4] [102,101,73,0]
 refine Za (Ya (rZ G (qe 2 73 r1 r1 (qs 2 102 r2 r1 (qI qZ))) V [5,4] [102,101,73,0] fun G=>Yh ?_))
 refine Zab hfr G rfl (.cl 102 true 2 rfl rfl (.tmp rfl .nil)) (.two (by rw [hg];first | exact .aggU rfl rfl | exact .aggLe rfl ⟨Ze4.nilSl,Ze4.nilSl,tv⟩) (.int (by rw [hg])))
section
set_option linter.unusedSectionVars false
variable {α:Type} {κ:α→Int} {t x:α} {l out r:List α} {d:Bool}
def ZfE (κ:α→Int) (t:α):List α→Bool→List α
 | [],d=>if d=true then [] else [t]
 | x :: l,d=>(if d=false∧κ t≤κ x then [t] else [])++(if κ x=κ t then [] else [x])++ZfE κ t l (d || decide (κ t≤κ x))
theorem ZeK:∀ l:List α,ZfE κ t l true=l.filter fun x=>!decide (κ x=κ t)
 | []=>rfl
 | x :: l=>by
  rw [ZfE,Yc (by simp),Yaw,YbY,ZeK l]
  split
  ·rename_i h;rw [Yag (by simpa using h)];rfl
  ·rename_i h;rw [Yae (by simpa using h)];rfl
theorem Zgo {k:Int} (h:∀ x ∈ l,k<κ x):(l.filter fun x=>!decide (κ x=k))=l:=by
 rw [Ybj]
 intro x hx
 have:=h x hx
 simp;omega
theorem Zij {k:Int} : Zbt κ k (x :: l)=if κ x<k then Zbt κ k l+1 else 0:=by
 unfold Zbt
 split
 ·rename_i h1;rw [Ybn (by simpa using h1),Yl]
 ·rename_i h1;rw [List.takeWhile_cons_of_neg (by simpa using h1)];rfl
theorem Zb3 {k:Int} : isK κ k (x :: l)=(decide (κ x=k) || isK κ k l):=by unfold isK;rw [YbM]
theorem Zsb {k:Int} (h:∀ x ∈ l,k<κ x):isK κ k l=false:=by
 unfold isK
 rw [Ybi]
 intro x hx
 have:=h x hx
 simp;omega
theorem Zpw (hs:l.Pairwise fun a b=>κ a<κ b) (hk:isK κ (κ t) l=false):ZfE κ t l false=l.take (Zbt κ (κ t) l) ++ [t] ++ l.drop (Zbt κ (κ t) l):=by
 induction l with
 | nil=>rfl
 | cons x l ih=>
  rw [Yo] at hs
  rw [Zb3,YbP,YK] at hk
  rw [ZfE,Yc hk.1,Zij]
  by_cases h:κ x<κ t
  ·rw [Yc ow,Yf h,show (false || decide (κ t≤κ x))=false by simp;omega,ih hs.2 hk.2];simp
  ·rw [Yf ⟨rfl,by omega⟩,Yc h,show (false || decide (κ t≤κ x))=true by simp;omega,ZeK,Zgo fun y hy=>by have:=hs.1 y hy;omega];simp
theorem Zhh {k:Int} (hs:l.Pairwise fun a b=>κ a<κ b) (hk:isK κ k l=true):(l.filter fun x=>!decide (κ x=k))=l.take (Zbt κ k l)++l.drop (Zbt κ k l+1):=by
 induction l with
 | nil=>simp [isK] at hk
 | cons x l ih=>
  rw [Yo] at hs
  rw [Zij]
  by_cases h:κ x<k
  ·rw [Zb3,YB ow,Ybf] at hk
   rw [Yae (by simp;omega),Yf h,ih hs.2 hk];rfl
  ·have hx:κ x=k:=by
    refine Decidable.byContradiction fun h9=>?_
    rw [Zb3,YB h9,Ybf,Zsb fun y hy=>by have:=hs.1 y hy;omega] at hk
    cases hk
   rw [Yag (by simpa using hx),Yc h,Zgo fun y hy=>by have:=hs.1 y hy;omega];simp
theorem ZpT {y:α} (h:y ∈ ZfE κ t l d):(y=t∧d=false)∨(y ∈ l∧κ y≠κ t):=by
 induction l generalizing d with
 | nil=>cases d <;> simp [ZfE] at h;exact .inl ⟨h,rfl⟩
 | cons x l ih=>
  rw [ZfE,YD,YD] at h
  rcases h with (h | h) | h
  ·split at h
   ·rename_i h1;exact .inl ⟨by simpa using h,h1.1⟩
   ·cases h
  ·split at h
   ·cases h
   ·rename_i h1
    have e:y=x:=by simpa using h
    subst e
    exact .inr ⟨by simp,h1⟩
  ·rcases ih h with ⟨h1,h2⟩ | ⟨h1,h2⟩
   ·rw [YbP] at h2;exact .inl ⟨h1,h2.1⟩
   ·exact .inr ⟨by simp [h1],h2⟩
theorem ZmZ (hs:l.Pairwise fun a b=>κ a<κ b):(ZfE κ t l d).Pairwise fun a b=>κ a<κ b:=by
 induction l generalizing d with
 | nil=>cases d <;> simp [ZfE]
 | cons x l ih=>
  rw [Yo] at hs
  have hf:=hs.2.filter fun x=>!decide (κ x=κ t)
  rw [ZfE]
  by_cases hA:d=false∧κ t≤κ x
  ·rw [Yf hA,show (d || decide (κ t≤κ x))=true by simp [hA.2],ZeK]
   have h1:∀ y ∈ l.filter (fun x=>!decide (κ x=κ t)),κ x<κ y:=fun y hy=>hs.1 y (YT.1 hy).1
   split
   ·rw [YQ,YaO,Yo]
    exact ⟨fun y hy=>by have:=h1 y hy;omega,hf⟩
   ·rename_i h2
    rw [YO,YaO,YaO,Yo,Yo]
    refine ⟨fun y hy=>?_,h1,hf⟩
    rcases Yk.1 hy with rfl | hy
    ·omega
    ·have:=h1 y hy;omega
  ·rw [Yc hA,Yaw]
   have ih2:=ih (d:=d || decide (κ t≤κ x)) hs.2
   split
   ·simpa using ih2
   ·rename_i h2
    rw [YaO,Yo]
    refine ⟨fun y hy=>?_,ih2⟩
    rcases ZpT hy with ⟨rfl,h3⟩ | ⟨h3,_⟩
    ·rw [YbP] at h3
     have:=YJ h3.2
     omega
    ·exact hs.1 y h3
end
def getO (os:List ZP) (k:Int):List Int:=((os.find? fun o=>decide (o.key=k)).map ZP.txs).getD []
theorem ZaZ {o:ZP} {os:List ZP} {k:Int} : getO (o :: os) k=if o.key=k then o.txs else getO os k:=by
 unfold getO
 rw [Yb2]
 by_cases h:o.key=k <;> simp [h]
theorem ZdZ {os:List ZP} {k:Int} (h:∀ o ∈ os,o.key≠k):getO os k = []:=by
 unfold getO
 rw [Ybu.2 fun o ho=>by simpa using h o ho];rfl
theorem Zel {os:List ZP} {o:ZP} (hs:os.Pairwise fun a b=>a.key<b.key) (h:o ∈ os):getO os o.key=o.txs:=by
 induction os with
 | nil=>cases h
 | cons x os ih=>
  rw [Yo] at hs
  rw [ZaZ]
  rcases Yk.1 h with rfl | h
  ·rw [Yf rfl]
  ·have:=hs.1 o h
   rw [Yc ow,ih hs.2 h]
theorem ZhQ {os:List ZP} {k:Int} (h:getO os k≠[]):(⟨k,getO os k⟩:ZP) ∈ os:=by
 induction os with
 | nil=>exact absurd rfl h
 | cons x os ih=>
  rw [ZaZ] at h ⊢
  by_cases e:x.key=k
  ·rw [Yf e];subst e;simp
  ·rw [Yc e] at h ⊢;simp [ih h]
def NE (os:List ZP):Prop:=∀ o ∈ os,o.txs≠[]
def Zjg (t:TxD) (l:List Int) (k:Int):List Int:=if t.done=true∧0<wcnt t.ops k then withO l t.id else withoutO l t.id
theorem Zj6 {os:List ZP} (hs:os.Pairwise fun a b=>a.key<b.key) (k:Int):getO (os.filter fun o=>!decide (o.txs = [])) k=getO os k:=by
 induction os with
 | nil=>rfl
 | cons x os ih=>
  rw [Yo] at hs
  rw [ZaZ]
  by_cases e:x.txs = []
  ·rw [Yag (by simpa using e),ih hs.2]
   split
   ·rename_i hk
    rw [e,ZdZ fun o ho=>by have:=hs.1 o ho;omega]
   ·rfl
  ·rw [Yae (by simpa using e),ZaZ,ih hs.2]
theorem Zqf {t:TxD} {os:List ZP} {k:Int} : getO (os.map (Zj1 t)) k=if isK ZP.key k os=true then Zjg t (getO os k) k else []:=by
 induction os with
 | nil=>simp [getO,isK]
 | cons x os ih=>
  rw [YU,ZaZ,ZaZ,Zb3,ih]
  by_cases e:x.key=k
  ·subst e
   rw [Yf (show (Zj1 t x).key=x.key from rfl),Yf rfl]
   simp [Zj1,Zjg]
  ·rw [Yc (show ¬ (Zj1 t x).key=k from e),Yc e,YB e,Ybf]
theorem ZiX {k' k:Int} : ∀ {os:List ZP},(os.Pairwise fun a b=>a.key<b.key)→getO (ZjS k' os) k=getO os k
 | [],_=>by unfold ZjS;rw [ZaZ];split <;> rfl
 | x :: os,h=>by
  rw [Yo] at h
  unfold ZjS
  split
  ·rw [ZaZ,ZaZ,ZiX h.2]
  ·split
   ·rfl
   ·rw [ZaZ]
    split
    ·rename_i h1 h2 h3
     have h3:k' = k:=h3
     subst h3
     refine (ZdZ fun o ho=>?_).symm
     rcases Yk.1 ho with rfl | ho
     ·exact h2
     ·have:=h.1 o ho;omega
    ·rfl
theorem Zly {k' k:Int} : ∀ {os:List ZP},isK ZP.key k (ZjS k' os)=(isK ZP.key k os || decide (k' = k))
 | []=>by simp [ZjS,isK]
 | x :: os=>by
  unfold ZjS
  split
  ·rw [Zb3,Zb3,Zly,Bool.or_assoc]
  ·split
   ·rename_i h2
    rw [Zb3]
    by_cases e:k' = k
    ·simp [h2,e]
    ·simp [e]
   ·rw [Zb3,Bool.or_comm]
theorem ZlI:∀ (ks:List Int) {os:List ZP} (k:Int),ZcR ZP.key os→getO (ks.foldl Ze1 os) k=getO os k∧isK ZP.key k (ks.foldl Ze1 os)=(isK ZP.key k os || decide (k ∈ ks))
 | [],os,k,_=>by simp
 | k' :: ks,os,k,h=>by
  obtain ⟨h1,h2⟩:=ZlI ks k (insK_rise k' h)
  rw [Yan,h1,h2,Zh1 k' h,ZiX (ZU.1 h),Zly]
  refine ⟨rfl,?_⟩
  rw [Bool.or_assoc]
  congr 1
  rw [Yar]
  simp only [YaN,Yu,Yk]
  exact ⟨fun h=>h.elim (fun h=>.inl h.symm) .inr,fun h=>h.elim (fun h=>.inl h.symm) .inr⟩
theorem Zuq {os:List ZP} {k:Int} (h:isK ZP.key k os=false):getO os k = []:=by
 refine ZdZ fun o ho e=>?_
 unfold isK at h
 rw [Ybi] at h
 exact h o ho (by simpa using e)
theorem ZgM {t:TxD} {os:List ZP} (h:ZcR ZP.key os) (k:Int):getO (ZaU t os) k=Zjg t (getO os k) k:=by
 unfold ZaU
 have hins:getO (ZdF t os (Z7 t)) k=getO os k∧isK ZP.key k (ZdF t os (Z7 t))=(isK ZP.key k os || (t.done && decide (k ∈ Z7 t)))∧ZcR ZP.key (ZdF t os (Z7 t)):=by
  unfold ZdF
  split
  ·rename_i hd
   obtain ⟨h1,h2⟩:=ZlI (Z7 t) k h
   refine ⟨h1,by rw [h2,hd,Ya2],?_⟩
   have key:∀ (ks:List Int) (os:List ZP),ZcR ZP.key os→ZcR ZP.key (ks.foldl Ze1 os):=by
    intro ks
    induction ks with
    | nil=>intro os h;exact h
    | cons k ks ih=>intro os h;exact ih _ (insK_rise k h)
   exact key _ _ h
  ·rename_i hd
   exact ⟨rfl,by simp [hd],h⟩
 obtain ⟨h1,h2,h3⟩:=hins
 have hm:((ZdF t os (Z7 t)).map (Zj1 t)).Pairwise fun a b=>a.key<b.key:=YaY.2 ((ZU.1 h3).imp fun h=>h)
 rw [Zj6 hm,Zqf,h1,h2]
 split
 ·rfl
 ·rename_i hk
  simp only [YaN,not_or,Yr,Yu] at hk
  have hk1:isK ZP.key k os=false:=by simpa using hk.1
  rw [Zuq hk1]
  unfold Zjg
  rw [Yc fun h9=>hk.2 ⟨h9.1,Zc7.2 h9.2⟩];rfl
theorem Zkf {t:TxD} {os:List ZP} (h:ZcR ZP.key os) (hs:ZdB os):(ZaU t os).Pairwise (fun a b=>a.key<b.key)∧NE (ZaU t os):=by
 have h3:=(ZgQ (t:=t) h hs (Z7 t)).1
 have hm:((ZdF t os (Z7 t)).map (Zj1 t)).Pairwise fun a b=>a.key<b.key:=YaY.2 ((ZU.1 h3).imp fun h=>h)
 refine ⟨hm.filter _,fun o ho=>?_⟩
 have:=(YT.1 ho).2
 simpa using this
theorem ZsQ {os:List ZP} {k:Int} {i:Nat} (hi:i<os.length) (h:(Nn os i).key=k) (hq:∀ q,q<i→(Nn os q).key≠k):getO os k=(Nn os i).txs:=by
 unfold getO
 rw [List.find?_eq_some_iff_getElem.2 ⟨by simpa using h,i,hi,(nth_eq hi).symm,fun j hj=>by have:=hq j hj;rw [nth_eq ow] at this;simpa using this⟩];rfl
theorem Ztu {os:List ZP} {k:Int} (hq:∀ q,q<os.length→(Nn os q).key≠k):getO os k = []:=ZdZ fun o ho=>by
 obtain ⟨j,hj,e⟩:=Yaa ho
 have:=hq j hj
 rwa [nth_eq hj,e] at this
end Go.Proofs.YtlkpllemoepamaaGreat
