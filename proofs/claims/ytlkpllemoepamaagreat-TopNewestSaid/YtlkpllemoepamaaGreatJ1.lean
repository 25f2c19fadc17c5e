/- Laws and walks. No condition beyond what each says. -/
import Derived.Test.YtlkpllemoepamaaGreatJ0
namespace Go.Proofs.YtlkpllemoepamaaGreat
open Go Go.Gm Tryz
set_option linter.unusedVariables false
set_option linter.unusedSimpArgs false
set_option maxHeartbeats 4000000
set_option maxRecDepth 8000
theorem Zom (g:Zp) (hs:ZaZ g.txs):FnG prog 46 1 [.agg (Zu g)] [.star []] (PV.one) (fun v=>[HP.ex fun s:List (GE Int (List Int))×Nat=>HP.and (WrL s.1 g.txs) (ZbH (fun l:List Int=>PV.sl Zm l) (fun _=>True) (fun n:Int=>Value.int .i64 n) s.1 s.2 v)]):=by
 refine FnG.mk func46 Z ntmps46 Z kr fun B F0 a w F V hG G=>?_
 have hsl:=hs.1
 obtain ⟨F,G⟩:=G.nM [0] [0]
 refine Ya (Zb G (qx 101 r1 (qC qZ)) V [2,1] [101,0] (fun _=>rfl) (fun _=>rfl) fun τ a w F G=>?_)
 try dsimp only [RS.sub,SF.sub,CF.sub,csub,Anc.sub,List.map,zCF,Zu,rTx,ZG,ZT,Zm,rOp] at G
 generalize τ 1=v1 at G
 refine Za (Ya (Zb G (qf (Za0 (ek:=(fun p:Value×List Int=>PV.is p.1)) (ok:=(fun _=>True)) (kv:=(fun n:Int=>Value.int .i64 n)) 102) trivial qz (qO rr qZ)) V [3,2,1] [102,101,0] (fun _=>rfl) (fun _=>rfl) fun τ a w F G=>?_))
 try dsimp only [RS.sub,SF.sub,CF.sub,csub,Anc.sub,List.map,Zf,xL,xM,Nat.reduceAdd,xD,xE,xT,xU,xC,xN,zCF,Zu,rTx,ZG,ZT,Zm,rOp] at G
 generalize τ 8=v8 at G
 replace G:=G.fresh 60 rfl
 replace G:=G.turn 60 Z (r':=Zr3 3 1 Zm ([]:List (GE Int (Value×List Int)))) (fun _ _ _ _ h=>h)
 obtain ⟨F,G⟩:=G.nM [3,2,1] [102,101,60,0]
 refine Za (Ya (Ya (rZ G (qg 0 101 r1 r1 (qa 101 r1 r1 (qu Ycg r1 (qJ qZ)))) V [12,11,10,3,2] [102,101,60,0] fun G=>Yg ?_)))
 refine Zj (σ:=(Nat)×(List (GE Int (Value×List Int)))×(Nat)) [2,3,10,11] [0,101] (fun s=>[(12,.pv (.int .i64 (s.1:Int)))]) (fun s=>[(102,.ob (.val v8) (ZbH (fun p:Value×List Int=>PV.is p.1) (fun _=>True) (fun n:Int=>Value.int .i64 n) s.2.1 s.2.2)),(60,Zr3 3 1 Zm s.2.1)]) (fun s=>s.1≤g.txs.length∧(WrV s.2.1 (g.txs.take s.1) 0 [])) (fun s=>g.txs.length - s.1) ((0),([]),(0)) G ⟨rfl,rfl,rfl,rfl,rfl,tv⟩ ⟨rfl,rfl,rfl,rfl,tv⟩ ⟨Yy _,ZtQ⟩ ?_
 clear G;intro s a w F hC G
 obtain ⟨i,es,ck⟩:=s
 try dsimp only at hC
 obtain ⟨F,G⟩:=G.nM [12,11,10,3,2] [102,101,60,0]
 try dsimp only at G
 obtain ⟨hi,hq⟩:=hC
 have hxl:=fun hil:i<g.txs.length=>hs.at hil
 refine Ya (rZ G (qL r2) V [13,12,11,10,3,2] [102,101,60,0] fun G=>Ya ?_)
 refine Zc G Z (fun hc0=>?_) (fun hc0=>?_)
 ·have hil:i<g.txs.length:=by simp at hc0;omega
  have hio:=hil
  have hw0:=hq
  have htl:=hxl hil
  have hkt:=Zen (Nn g.txs i)
  have hsl:=hs.1
  refine Ye (Za (Ya (Yg (Ya (Zb G (qy 3 Ycg r2 (qf (oR true 3 .t) r1 qz (qf (oH [.int .i64 0,.bool false,.slice none 0 0] 103) trivial qz (qS 3 103 r2 r1 qZ)))) V [12,11,10,5,3,2] [103,102,101,60,0] (fun _=>rfl) (fun _=>rfl) fun τ a w F G=>?_)))))
  try dsimp only [RS.sub,SF.sub,CF.sub,csub,Anc.sub,List.map,Zf,xL,xM,Nat.reduceAdd,xD,xE,xT,xU,xC,xN,zCF,ldSF,Zu,rTx,ZG,ZT,Zm,rOp] at G
  generalize τ 5=v5 at G
  try simp only [Yb] at G
  refine Za (Ya (Ya (rZ G (qg 1 103 r1 r1 (qa 103 r1 r1 (qf (o_not .t) r1 qz qZ))) V [18,12,11,10,5,3,2] [103,102,101,60,0] fun G=>?_)))
  refine Zc G Z (fun hc1=>?_) (fun hc1=>?_)
  ·have hdn:(Nn g.txs i).done=false:=by simpa using hc1
   obtain ⟨es2,he2⟩:∃ z,z=es:=⟨_,rfl⟩
   obtain ⟨ck2,hc2⟩:∃ z,z=ck:=⟨_,rfl⟩
   have hR2:WrV es2 (g.txs.take (i+1)) 0 []:=by rw [he2];exact Zuq hw0 hio hdn
   rw [← he2,← hc2] at G
   refine Yx (Zi (Zn (Za (rZ G (qp r1 (qR rr qZ)) V [12,11,10,3,2] [103,102,101,60,0] fun G=>?_))))
   replace G:=G.ent (i:=12) (s':=.pv (.int .i64 ((i+1:Nat):Int))) Z (.int (Zd ow))
   obtain ⟨F,G⟩:=G.nM [11,10,3,2,12] [101,0,60,102]
   exact ⟨((i+1),(es2),(ck2)),F,⟨by omega,hR2⟩,G,by omega⟩
  have hdn:(Nn g.txs i).done=true:=by simpa using hc1
  refine Ye (Za (Ya (Ze G (qe 3 103 r1 r1 (qf (oP (ZpZ (Nn g.txs i) (by have:=hxl hio;omega)) func91 (Args.one (.pagg .t))) r1 qz (qu Ycd r1 (qJ qZ)))) V [22,21,20,12,11,10,5,3,2] [103,102,101,60,0] Z Z fun a w F G=>?_)))
  rw [show Zbp (((Nn g.txs i).ops.filter fun o=>!o.read).map OpD.key)=Z7 (Nn g.txs i) from rfl] at G
  refine Za (Yg (Zj (σ:=(Nat)×(List (GE Int (Value×List Int)))×(Nat)) [2,3,5,10,11,12,20,21] [0,101,103] (fun s=>[(22,.pv (.int .i64 (s.1:Int)))]) (fun s=>[(102,.ob (.val v8) (ZbH (fun p:Value×List Int=>PV.is p.1) (fun _=>True) (fun n:Int=>Value.int .i64 n) s.2.1 s.2.2)),(60,Zr3 3 1 Zm s.2.1)]) (fun s=>s.1≤(Z7 (Nn g.txs i)).length∧(WrV s.2.1 (g.txs.take i) (Nn g.txs i).id ((Z7 (Nn g.txs i)).take s.1))) (fun s=>(Z7 (Nn g.txs i)).length - s.1) ((0),(es),(ck)) G ⟨rfl,rfl,rfl,rfl,rfl,rfl,rfl,rfl,rfl,tv⟩ ⟨rfl,rfl,rfl,rfl,rfl,tv⟩ ⟨Yy _,(by simpa using Zro hw0)⟩ ?_))
  clear G;intro s a w F hC G
  obtain ⟨j,es,ck⟩:=s
  try dsimp only at hC
  obtain ⟨F,G⟩:=G.nM [22,21,20,12,11,10,5,3,2] [103,102,101,60,0]
  try dsimp only at G
  obtain ⟨hi,hq⟩:=hC
  refine Ya (rZ G (qL r2) V [23,22,21,20,12,11,10,5,3,2] [103,102,101,60,0] fun G=>Ya ?_)
  refine Zc G Z (fun hc2=>?_) (fun hc2=>?_)
  ·have hil:j<(Z7 (Nn g.txs i)).length:=by simp at hc2;omega
   have hwo:=Zs8 hq (Zft _) hil
   have hwn:=ZeX (g.txs.take i) (Nn (Z7 (Nn g.txs i)) j)
   rw [Yi] at hwn
   rw [← hwo] at hwn
   refine Ye (Za (Ya (Yg (Ya (Ze G (qy 1 Ycd r2 (qf (oR false 1 .t) r1 qz (qO rr qZ))) V [22,21,20,12,11,10,7,5,3,2] [103,102,101,60,0] Z Z fun a w F G=>?_)))))
   try simp only [Yb] at G
   refine Za (Zap 5 G kr (cG Z (oM .t) r1 trivial (cG Z (oM .t) r1 trivial (cG Z (oM .t) r1 trivial (cG Z (oM .t) r1 trivial (cG Z (Zat (ek:=(fun p:Value×List Int=>PV.is p.1)) (z0:=ZhY) 102 underlying83 (ZcE Ycl) kr (fun _ _=>⟨rfl,rfl⟩) .is (ZK.int .t Z)) r2 r1 ChainN.nil))))) kr (by rw [V];kernel_rfl) fun a w F G=>?_)
   obtain ⟨F,G⟩:=G.nM [30,27,26,22,21,20,12,11,10,5,3,2] [103,102,101,60,0]
   try dsimp only [Zu,rTx,ZG,ZT,Zm,rOp] at G
   obtain ⟨F,G⟩:=G.takeKey (T:=3) (sz:=1) (R:=Zm) 60 61 (Nn (Z7 (Nn g.txs i)) j) Z rfl
   obtain ⟨F,G⟩:=G.nM [30,27,26,22,21,20,12,11,10,5,3,2] [103,102,101,61,60,0]
   refine Zi2 4 G kr (cG Z (oF 0 103 .is) r1 r1 (cG Z (oL false 1 103 .adr) r1 r1 (cG Z (o_buildSliceE (sz:=1) (zs:=[.int .i64 0]) (r:=[(0,.tmp 32)]) (l:=[_]) Ycd kr kr kr kr Z Z (.one Z .t one_int kr .nil) Z) r1 trivial (cG Z (ZP (sz:=1) (bs:=8) 61 (.mk' Ycd kr kr) (by intro x;rfl) .is (.arr (l':=[_]) .t) (by simp only [Yd,Yl,Yw];omega) (by decide)) ⟨rfl,rfl,tv⟩ ⟨rfl,tv⟩ ChainN.nil)))) kr (by rw [V];kernel_rfl) fun a w F G=>?_
   replace G:=G.sub
   obtain ⟨F,G⟩:=G.nM [34,27,26,22,21,20,12,11,10,5,3,2] [103,102,101,61,60,0]
   try dsimp only [RS.sub,SF.sub,CF.sub,csub,Anc.sub,List.map,Zf,xL,xM,Nat.reduceAdd,xD,xE,xT,xU,xC,xN,zCF,ldSF,Zu,rTx,ZG,ZT,Zm,rOp] at G
   generalize Act.tau a 34=v34 at G
   refine ZaH G kr (cG Z (o_mapUpdateG (ek:=(fun p:Value×List Int=>PV.is p.1)) (v:=((v34,((gGet (Nn (Z7 (Nn g.txs i)) j) es).getD ZhY).2 ++ [(Nn g.txs i).id]):Value×List Int)) 102 underlying83 (ZcE Ycl) .is (ZK.int .t Z) .t) r3 r1 ChainN.nil) kr (by rw [V];kernel_rfl) fun a w F G=>?_
   obtain ⟨F,G⟩:=G.nM [22,21,20,12,11,10,5,3,2] [103,102,101,61,60,0]
   try dsimp only [Zu,rTx,ZG,ZT,Zm,rOp] at G
   refine Zh (Za (rZ G (qp r1 (qR rr qZ)) V [22,21,20,12,11,10,5,3,2] [103,102,101,61,60,0] fun G=>?_))
   obtain ⟨F,G⟩:=G.putKey (T:=3) (sz:=1) (R:=Zm) 60 61 (Nn (Z7 (Nn g.txs i)) j) ck Z Z rfl
   replace G:=G.ent (i:=22) (s':=.pv (.int .i64 ((j+1:Nat):Int))) Z (.int (Zd ow))
   obtain ⟨F,G⟩:=G.nM [21,20,12,11,10,5,3,2,22] [103,101,0,60,102]
   exact ⟨((j+1),((gPut (Nn (Z7 (Nn g.txs i)) j) (v34,((gGet (Nn (Z7 (Nn g.txs i)) j) es).getD ZhY).2 ++ [(Nn g.txs i).id]) (es,ck)).1),((gPut (Nn (Z7 (Nn g.txs i)) j) (v34,((gGet (Nn (Z7 (Nn g.txs i)) j) es).getD ZhY).2 ++ [(Nn g.txs i).id]) (es,ck)).2)),F,⟨by omega,Zuk hq (Zft _) hil⟩,G,by omega⟩
  have hil:j=(Z7 (Nn g.txs i)).length:=by simp at hc2;omega
  obtain ⟨es2,he2⟩:∃ z,z=es:=⟨_,rfl⟩
  obtain ⟨ck2,hc2⟩:∃ z,z=ck:=⟨_,rfl⟩
  rw [hil,Yz] at hq
  have hR2:WrV es2 (g.txs.take (i+1)) 0 []:=by rw [he2];exact Ztm hq hio hdn
  rw [← he2,← hc2] at G
  refine Yx (Zi (Zi (Zn (Zh (Za (rZ G (qp r1 (qR rr qZ)) V [12,11,10,3,2] [103,102,101,60,0] fun G=>?_))))))
  replace G:=G.ent (i:=12) (s':=.pv (.int .i64 ((i+1:Nat):Int))) Z (.int (Zd ow))
  obtain ⟨F,G⟩:=G.nM [11,10,3,2,12] [101,0,60,102]
  exact ⟨((i+1),(es2),(ck2)),F,⟨by omega,hR2⟩,G,by omega⟩
 have hil:i=g.txs.length:=by simp at hc0;omega
 have hwl:=Zrv hq
 rw [hil,Yz] at hwl
 refine Yx (Zi (Zi (Zn (Za (Ya (rZ G (qR rr (qO rr qZ)) V [2] [102,101,60,0] fun G=>Yh ?_))))))
 obtain ⟨F,G⟩:=G.giveMap 102 60 Z Z rfl
 obtain ⟨F,G⟩:=G.rename 102 1 Z rfl
 have G:=G.turn 1 Z (r':=RS.hp (HP.ex fun s:List (GE Int (List Int))×Nat=>HP.and (WrL s.1 g.txs) (ZbH (fun l:List Int=>PV.sl Zm l) (fun _=>True) (fun n:Int=>Value.int .i64 n) s.1 s.2 v8))) (fun _ _ _ _ h=>⟨(ZeV es,ck),hwl,h⟩)
 refine Z2 (h':=fun v=>HP.ex fun s:List (GE Int (List Int))×Nat=>HP.and (WrL s.1 g.txs) (ZbH (fun l:List Int=>PV.sl Zm l) (fun _=>True) (fun n:Int=>Value.int .i64 n) s.1 s.2 v)) hG G Z (.tmp Z .nil) (.one .one) rfl
theorem Ztk (l:List Int) (tx:Int):FnP prog 15 [.sl Zm l,.int .i64 tx] (.tup [.int .i64 (Zei l tx).1,.bool (Zei l tx).2]):=by
 refine FnP.mk func15 Z ntmps15 Z fun B a w F V hfr G=>?_
 have hll:=Sat.lenSl G (i:=0) rfl
 have hxr:=ZgY tx l
 have hxw:IntKind.wrap .i64 (ZaC tx l+1)=ZaC tx l+1:=Zy ow
 have hxv:IntKind.wrap .i64 (ZaC tx l - 1)=ZaC tx l - 1:=Zy ow
 refine Ya (rZ G (qI qB) V [5,4,1,0] [0] fun G=>Ya ?_)
 refine rZ G (qI qZ) V [6,5,4,1,0] [0] fun G=>(Ya (Ya ?_))
 refine rZ G (qR rr (qf (o_neq .t qi) r1 qz qZ)) V [8,6,5,4,1,0] [0] fun G=>?_
 refine Zc G Z (fun hc0=>?_) (fun hc0=>?_)
 ·have ht:tx≠0:=by simpa using hc0
  refine Ya (rZ G (qR rr (qR rr (qf (oP (Zqk l tx) func39 (Args.two .t .t)) r2 qz (qp r1 (qO rr qZ))))) V [6,5,4,0] [0] fun G=>Ya ?_)
  refine rZ G (qR rr (qf (o_eql .t qi) r1 qz qZ)) V [14,6,5,4,0] [0] fun G=>?_
  refine Zc G Z (fun hc1=>?_) (fun hc1=>?_)
  ·have hix:ZaC tx l<0:=by simp [hxw] at hc1;omega
   have hg:Zei l tx=(0,false):=by unfold Zei;rw [Yf ⟨ht,hix⟩]
   refine Ya (rZ G (qI qB) V [6,5,4,0] [0] fun G=>(Yh (Zk ?_)))
   refine Z5 hfr G Z (.tmp Z (.tmp Z .nil)) (.two (.int (by rw [hg];first | done | rfl | (rw [hxw];done) | (rw [hxv];done) | (rw [show IntKind.wrap .i64 (-1+1)=0 by decide];done))) (.bool (by rw [hg])))
  have hix:0≤ZaC tx l:=by simp [hxw] at hc1;omega
  refine Ye (Za (Ya (Ya (rZ G (qR rr (qR rr (qu Ycd r1 (qf (o_eql .t .t) r2 qz qZ)))) V [18,6,5,4,0] [0] fun G=>?_))))
  refine Zc G Z (fun hc2=>?_) (fun hc2=>?_)
  ·have hlx:=hc2
   first | rw [hxw] at hlx | skip
   have hg:Zei l tx=(0,false):=by unfold Zei;first | (rw [Yc ow,Yc ht,Yf (by simp at hlx;omega)];done) | (rw [Yc ow,Yf ht,Yf (by simp at hlx;omega)])
   refine Ya (rZ G (qI qB) V [6,5,4,0] [0] fun G=>(Yh (Zk ?_)))
   refine Z5 hfr G Z (.tmp Z (.tmp Z .nil)) (.two (.int (by rw [hg];first | done | rfl | (rw [hxw];done) | (rw [hxv];done) | (rw [show IntKind.wrap .i64 (-1+1)=0 by decide];done))) (.bool (by rw [hg])))
  have hlx:=hc2
  first | rw [hxw] at hlx | skip
  have hln:=Yav (l:=l)
  have hlx2:=hlx
  simp at hlx
  have hg:Zei l tx=(Nn l (if tx=0 then 0 else ZaC tx l+1).toNat,true):=by unfold Zei;first | (rw [Yc ow,Yc ht,Yc ht,Yc ow];done) | (rw [Yc ow,Yf ht,Yf ht,Yc (by first | omega | (intro h0;have:l.length=0:=by omega;simp_all))];rfl)
  first | rw [Yc ht] at hg | rw [Yf ht] at hg
  try (have hl1:0<l.length:=by rcases Nat.eq_zero_or_pos l.length with h0 | h0;simp_all;exact h0)
  refine Ye (Za (Ya (Ze G (qR rr (qR rr (qf (o_indexAddr_sl (sz:=1) (.mk Ycd kr) (by intro x;rfl) .t .t (by first | omega | (rw [hxw];omega)) (by first | omega | (rw [hxw];omega))) r2 qz (qf (oR false 1 .t) r1 qz (qO rr qB))))) V [5,4] [0] Z Z fun a w F G=>?_)))
  try simp only [Yb] at G
  refine Za (Yh (Z5 hfr G Z (.tmp Z (.tmp Z .nil)) (.two (.int (by rw [hg];first | done | rfl | (rw [hxw];done) | (rw [hxv];done) | (rw [show IntKind.wrap .i64 (-1+1)=0 by decide];done))) (.bool (by rw [hg])))))
 have ht:tx=0:=by simpa using hc0
 refine Ye (Za (Ya (Ya (rZ G (qR rr (qR rr (qu Ycd r1 (qf (o_eql .t .t) r2 qz qZ)))) V [18,6,5,4,0] [0] fun G=>?_))))
 refine Zc G Z (fun hc3=>?_) (fun hc3=>?_)
 ·have hlx:=hc3
  first | rw [hxw] at hlx | skip
  have hg:Zei l tx=(0,false):=by unfold Zei;first | (rw [Yc ow,Yc ht,Yf (by simp at hlx;omega)];done) | (rw [Yc ow,Yf ht,Yf (by simp at hlx;omega)])
  refine Ya (rZ G (qI qB) V [6,5,4,0] [0] fun G=>(Yh (Zk ?_)))
  refine Z5 hfr G Z (.tmp Z (.tmp Z .nil)) (.two (.int (by rw [hg];first | done | rfl | (rw [hxw];done) | (rw [hxv];done) | (rw [show IntKind.wrap .i64 (-1+1)=0 by decide];done))) (.bool (by rw [hg])))
 have hlx:=hc3
 first | rw [hxw] at hlx | skip
 have hln:=Yav (l:=l)
 have hlx2:=hlx
 simp at hlx
 have hg:Zei l tx=(Nn l (if tx=0 then 0 else ZaC tx l+1).toNat,true):=by unfold Zei;first | (rw [Yc ow,Yc ht,Yc ht,Yc ow];done) | (rw [Yc ow,Yf ht,Yf ht,Yc (by first | omega | (intro h0;have:l.length=0:=by omega;simp_all))];rfl)
 first | rw [Yc ht] at hg | rw [Yf ht] at hg
 try (have hl1:0<l.length:=by rcases Nat.eq_zero_or_pos l.length with h0 | h0;simp_all;exact h0)
 refine Ye (Za (Ya (Ze G (qR rr (qR rr (qf (o_indexAddr_sl (sz:=1) (.mk Ycd kr) (by intro x;rfl) .t .t (by first | omega | (rw [hxw];omega)) (by first | omega | (rw [hxw];omega))) r2 qz (qf (oR false 1 .t) r1 qz (qO rr qB))))) V [5,4] [0] Z Z fun a w F G=>?_)))
 try simp only [Yb] at G
 refine Za (Yh (Z5 hfr G Z (.tmp Z (.tmp Z .nil)) (.two (.int (by rw [hg];first | done | rfl | (rw [hxw];done) | (rw [hxv];done) | (rw [show IntKind.wrap .i64 (-1+1)=0 by decide];done))) (.bool (by rw [hg])))))
theorem Ztg (l:List Int) (tx:Int) (hl:l.length≤1000000):FnP prog 104 [.sl Zm l,.int .i64 tx] (.sl Zm (withO l tx)):=by
 refine FnP.mk func104 Z ntmps104 Z fun B a w F V hfr G=>?_
 have hll:=Sat.lenSl G (i:=0) rfl
 refine Ya (rZ G (qC qZ) V [4,1,0] [0] fun G=>Ya ?_)
 replace G:=G.fresh 101 rfl
 refine Zb G (qR rr (qf (Zaq 101 (Zfe l hl) func42 Z kr (Args.one .t) pvOne1) r1 r1 (qO rr qZ))) V [5,4,1,0] [101,0] (fun _=>rfl) (fun _=>rfl) fun τ a w F G=>?_
 try dsimp only [RS.sub,SF.sub,CF.sub,csub,Anc.sub,List.map,Zm] at G
 generalize τ 7=v7 at G
 refine Za (Ya (Ya (rZ G (qR rr (qR rr (qf (oP (Zmz l tx) func148 (Args.two .t .t)) r2 qz qZ))) V [10,5,4,1] [101,0] fun G=>?_)))
 refine Zc G Z (fun hc0=>?_) (fun hc0=>?_)
 ·have hm:tx ∈ l:=by simpa using hc0
  have hg:l=withO l tx:=(Yf hm).symm
  refine Ya (rZ G (qR rr (qO rr qZ)) V [5,4,1] [101,0] fun G=>(Yh (Zk ?_)))
  obtain ⟨F,G⟩:=G.give 101 4 Z rfl
  refine Zs hfr G Z Z Z (.sl hg)
 have hm:¬ tx ∈ l:=by simpa using hc0
 have hg:l ++ [tx] = withO l tx:=(Yc hm).symm
 refine Ye (Za (Ya (Zb G (qR rr (qR rr (qf (o_buildSliceE (sz:=1) (zs:=[.int .i64 0]) (r:=[(0,.tmp 13)]) (l:=[_]) Ycd kr kr kr kr Z Z (.one Z .t one_int kr .nil) Z) r1 qz (qf (ZP (sz:=1) (bs:=8) 101 (.mk' Ycd kr kr) (by intro x;rfl) .is (.arr (l':=[_]) .t) (by simp only [Yd,Yl,Yw,Yi,YE];omega) (by decide)) ⟨rfl,rfl,tv⟩ ⟨rfl,tv⟩ (qO rr qZ))))) V [4] [101,0] (fun _=>rfl) (fun _=>rfl) fun τ a w F G=>?_)))
 try dsimp only [RS.sub,SF.sub,CF.sub,csub,Anc.sub,List.map,Zf,xL,xM,Nat.reduceAdd,xD,xE,xT,xU,xC,xN,zCF,Zm] at G
 generalize τ 15=v15 at G
 refine Za (Yh ?_)
 obtain ⟨F,G⟩:=G.give 101 4 Z rfl
 refine Zs hfr G Z Z Z (.sl hg)
theorem ZmI (x tx:Int):FnP prog 150 [.int .i64 x,.ref [.int .i64 tx]] (.bool (decide (x=tx))):=by
 refine FnP.mk func150 Z ntmps150 Z fun B a w F V hfr G=>Ya ?_
 refine rZ G qB V [3,1,0] [0] fun G=>Ya ?_
 refine rZ G (qR rr (qf (oR false 1 .t) r1 qz (qf (o_eql .t .t) r2 qz (qO rr qZ)))) V [3] [0] fun G=>Yh ?_
 refine Zs hfr G Z Z Z .refl
theorem Zmy (l:List Int) (tx:Int) (hl:l.length≤1000000):FnP prog 105 [.sl Zm l,.int .i64 tx] (.sl Zm (withoutO l tx)):=by
 refine FnP.mk func105 Z ntmps105 Z fun B a w F V hfr G=>?_
 have hll:=Sat.lenSl G (i:=0) rfl
 refine Ya (Zb G (qf (ZfT 101 .t one_int) r1 qz (qC qZ)) V [4,3,0] [101,0] (fun _=>rfl) (fun _=>rfl) fun τ a w F G=>?_)
 try dsimp only [RS.sub,SF.sub,CF.sub,csub,Anc.sub,List.map,zCF,Zm] at G
 generalize τ 3=v3 at G
 obtain ⟨F,G⟩:=G.giveRef 101 3 Z Z rfl
 obtain ⟨F,G⟩:=G.nM [4,3,0] [0]
 try dsimp only [Go.Gm.unCF] at G
 refine Za (Ya ?_)
 replace G:=G.fresh 102 rfl
 refine Zkr G kr (nM Z Z (nf (Zaq 102 (Zfe l hl) func42 Z kr (Args.one .t) pvOne1) r1 r1 (nn [6,4,3] [102,0] Z Z (nf (ZaO (Args.one .t)) r1 trivial (nf (Zl2 6 102 (fun v=>ZtO _ l hl (fun x=>decide (x=tx)) 150 f150 [.ref [.int .i64 tx]] func150 Z kr (fun x=>ZmI x tx)) func149 Z kr (ZnO.two .same (.of .t)) pvOne1) r2 r1 (nn [8,4] [102,0] Z Z (nN Z Z ChainN.nil))))))) kr (by rw [V];kernel_rfl) fun a w F G=>?_
 replace G:=G.sub
 obtain ⟨F,G⟩:=G.nM [4] [102,0]
 try dsimp only [RS.sub,SF.sub,CF.sub,csub,Anc.sub,List.map,Zm] at G
 generalize Act.tau a 8=v8 at G
 refine Za (Yh ?_)
 obtain ⟨F,G⟩:=G.give 102 4 Z rfl
 refine Zs hfr G Z Z Z (.sl (by simp [withoutO]))
theorem Zfc (g:Zp) (hs:Za7 g):FnP prog 19 [.agg (Zu g)] (.bool (decide (ZV g))):=by
 refine FnP.mk func19 Z ntmps19 Z fun B a w F V hfr G=>?_
 have hsl:=hs.1.1
 have hso:=hs.2.1
 refine Ya (Zb G (qx 101 r1 qB) V [2,1] [101,0] (fun _=>rfl) (fun _=>rfl) fun τ a w F G=>?_)
 try dsimp only [RS.sub,SF.sub,CF.sub,csub,Anc.sub,List.map,zCF,Zu,rTx,ZG,ZT,Zm,rOp] at G
 generalize τ 1=v1 at G
 refine Za (Ya (Ya (rZ G (qg 0 101 r1 r1 (qa 101 r1 r1 (qu Ycg r1 (qf (ZaG .t qi) r1 qz qZ)))) V [11,2,1] [101,0] fun G=>?_)))
 refine Zc G Z (fun hc0=>?_) (fun hc0=>?_)
 ·have hg:=ZgP (h:=g) (by simp at hc0;omega)
  refine Ya (rZ G qB V [2,1] [101,0] fun G=>(Yh (Zk ?_)))
  refine Zs hfr G Z Z Z (.bool hg)
 have hlong:g.txs.length≤4096:=by simp at hc0;omega
 refine Ye (Za (Ya (Ya (rZ G (qg 0 101 r1 r1 (qa 101 r1 r1 (qu Ycg r1 (qJ qZ)))) V [15,14,13,2,1] [101,0] fun G=>Yg ?_))))
 refine Zj (σ:=(Nat)) [1,2,13,14] [0,101] (fun s=>[(15,.pv (.int .i64 (s:Int)))]) (fun s=>[]) (fun s=>s≤g.txs.length∧(∀ k,k<s→ZnE g k)) (fun s=>g.txs.length - s) (0) G ⟨rfl,rfl,rfl,rfl,rfl,tv⟩ ⟨rfl,rfl,tv⟩ ⟨Yy _,fun k hk=>absurd hk (Y3 k)⟩ ?_
 clear G;intro i a w F hC G
 try dsimp only at hC
 obtain ⟨F,G⟩:=G.nM [15,14,13,2,1] [101,0]
 try dsimp only at G
 obtain ⟨hi,hq⟩:=hC
 have hxl:=fun hil:i<g.txs.length=>hs.1.at hil
 have hiw:0<i→IntKind.wrap .i64 ((i:Int) - 1)=((i - 1:Nat):Int):=fun h0=>by rw [Zy ow];omega
 refine Ya (rZ G (qL r2) V [16,15,14,13,2,1] [101,0] fun G=>Ya ?_)
 refine Zc G Z (fun hc1=>?_) (fun hc1=>?_)
 ·have hil:i<g.txs.length:=by simp at hc1;omega
  refine Ye (Za (Ya (Yg (Ya (Zb G (qR rr (qy 3 Ycg r2 (qf (oR true 3 .t) r1 qz (qf (oH [.int .i64 0,.bool false,.slice none 0 0] 102) trivial qz (qO rr (qS 3 102 r2 r1 qZ)))))) V [15,14,13,4,3,2,1] [102,101,0] (fun _=>rfl) (fun _=>rfl) fun τ a w F G=>?_)))))
  try dsimp only [RS.sub,SF.sub,CF.sub,csub,Anc.sub,List.map,Zf,xL,xM,Nat.reduceAdd,xD,xE,xT,xU,xC,xN,zCF,ldSF,Zu,rTx,ZG,ZT,Zm,rOp] at G
  generalize τ 4=v4 at G
  try simp only [Yb] at G
  refine Za (Ya (Zv G (qR rr (qf (ZaG .t qi) r1 qz (qR rr (qv 0 101 Z r2 r1 (qw 101 Z r2 r1 (qm Z Z Z Z (qk Z (fun h=>o_sub (.w h) qi) r2 qz (qk Z (fun h=>o_indexAddr_sl (sz:=3) (.mk Ycg kr) (by intro x;rfl) (.w h) (.w h) (by rw [hiw (by simpa using h)];omega) (by rw [hiw (by simpa using h)];omega)) r3 qz (qk Z (fun h=>oG 0 (.w h)) r2 qz (qk Z (fun h=>oR false 1 (.w h)) r2 qz (qv 0 102 Z r2 r1 (qw 102 Z r2 r1 (qk Z (fun h=>Zbq (.w h) (.w h)) r3 qz (qf (ZD .t .t) r2 qz (qR rr (qk Z (fun h=>oL true 3 102 .is) r2 r1 (qk Z (fun h=>oP (ZjW (Nn g.txs i)) func44 (Args.one (.pagg (.w h)))) r2 qz (qk Z (fun h=>o_neq (.w h) qi) r2 qz (qf (Zal .t .t) r2 qz (qR rr (qk Z (fun h=>oL true 2 101 .is) r2 r1 (qk Z (fun h=>oL true 3 102 .is) r2 r1 (qk Z (fun h=>oP (Zk8 g (Nn g.txs i) hs.1 (by have:=hxl hil;omega)) func45 (Args.two (.pagg (.w h)) (.pagg (.w h)))) r3 qz (qk Z (fun h=>o_not (.w h)) r2 qz (qf (Zal .t .t) r2 qz qZ))))))))))))))))))))))))) V [44,15,14,13,2,1] [102,101,0] Z Z fun a w F G=>?_))
  try dsimp only [List.map,xD,xE,xT,xU,ldSF,Zu,rTx,ZG,ZT,Zm,rOp] at G
  try simp only [Yb] at G
  refine Za (Zc G Z (fun hc2=>?_) (fun hc2=>?_))
  ·have hbad:¬ ZnE g i:=by
     rintro ⟨g1,g2,g3⟩
     have h9:=hc2
     by_cases hi0:0<i
     · rw [hiw hi0,Yb] at h9
       have:=g1 hi0
       simp [g2,g3] at h9
       omega
     · have hi1:i=0:=by omega
       subst hi1
       simp [g2,g3] at h9
   have hg:=ZiF hil hbad
   refine Ya (rZ G qB V [15,14,13,2,1] [102,101,0] fun G=>(Yh (Zz (Zk (Zk (Zz (Zk ?_)))))))
   refine Zs hfr G Z Z Z (.bool hg)
  have hgood:ZnE g i:=by
    have h9:=hc2
    by_cases hi0:0<i
    · rw [hiw hi0,Yb] at h9
      simp at h9
      exact ⟨fun _=>by omega,by omega,h9.2⟩
    · have hi1:i=0:=by omega
      subst hi1
      simp at h9
      exact ⟨fun h0=>absurd h0 (Nat.lt_irrefl 0),h9.1,h9.2⟩
  refine Ye (Zh (Za (rZ G (qp r1 (qR rr qZ)) V [15,14,13,2,1] [102,101,0] fun G=>?_)))
  replace G:=G.ent (i:=15) (s':=.pv (.int .i64 ((i+1:Nat):Int))) Z (.int (Zd ow))
  obtain ⟨F,G⟩:=G.nM [14,13,2,1,15] [101,0]
  exact ⟨(i+1),F,⟨by omega,(fun k hk=>by rcases Y0 (Y7 hk) with h9 | h9;exact hq k h9;rw [h9];exact hgood)⟩,G,by omega⟩
 have hil:i=g.txs.length:=by simp at hc1;omega
 have hall:∀ k,k<g.txs.length→ZnE g k:=by rw [← hil];exact hq
 have hkn:=Zqo hs.1
 refine Yx (Zi (Zi (Zn (Za (Ya ?_)))))
 replace G:=G.fresh 103 rfl
 refine Zb G (qe 2 101 r1 r1 (qf (Zaq 103 (Zom g hs.1) func46 Z kr (Args.one (.pagg .t)) pvOne1) r1 r1 (qO rr qZ))) V [5,2,1] [103,101,0] (fun _=>rfl) (fun _=>rfl) fun τ a w F G=>?_
 try dsimp only [RS.sub,SF.sub,CF.sub,csub,Anc.sub,List.map,xD,xE,xT,xU,ldSF,Zu,rTx,ZG,ZT,Zm,rOp] at G
 generalize τ 47=v47 at G
 replace G:=G.turn 103 Z (r':=RS.hp (HP.ex fun s:List (GE Int (List Int))×Nat=>HP.and (WrL s.1 g.txs) (ZbH (fun l:List Int=>PV.sl Zm l) (fun _=>True) (fun n:Int=>Value.int .i64 n) s.1 s.2 v47))) (fun _ _ _ _ h=>h)
 obtain ⟨sm,G⟩:=G.open_ex 103 rfl
 obtain ⟨hwm,G⟩:=G.open_and 103 rfl
 obtain ⟨es,ck⟩:=sm
 try dsimp only at hwm G
 replace G:=G.turn 103 Z (r':=.ob (.val v47) (ZbH (fun l:List Int=>PV.sl Zm l) (fun _=>True) (fun n:Int=>Value.int .i64 n) es ck)) (fun _ _ _ _ h=>h)
 have hgw:=ZvL hwm
 have hml:=Zvg hwm
 obtain ⟨F,G⟩:=G.nM [5,2,1] [103,101,0]
 refine Za (Ya (Ya (rZ G (qR rr (qf (ZmF 103 underlying83 .is ow) r1 r1 (qg 1 101 r1 r1 (qa 101 r1 r1 (qu Ycf r1 (qf (o_neq .t .t) r2 qz qZ)))))) V [53,5,2,1] [103,101,0] fun G=>?_)))
 refine Zc G Z (fun hc3=>?_) (fun hc3=>?_)
 ·have hg:=Zir (h:=g) (by simp at hc3;omega)
  refine Ya (rZ G qB V [5,2,1] [103,101,0] fun G=>(Yh (Zk ?_)))
  refine Zs hfr G Z Z Z (.bool hg)
 have hle:g.orders.length=(Zcu g.txs).length:=by simp at hc3;omega
 refine Ye (Za (Ya (Ya (rZ G (qg 1 101 r1 r1 (qa 101 r1 r1 (qu Ycf r1 (qJ qZ)))) V [57,56,55,5,2,1] [103,101,0] fun G=>Yg ?_))))
 refine Zj (σ:=(Nat)) [1,2,5,55,56] [0,101,103] (fun s=>[(57,.pv (.int .i64 (s:Int)))]) (fun s=>[]) (fun s=>s≤g.orders.length∧(∀ k,k<s→ZfR g k)) (fun s=>g.orders.length - s) (0) G ⟨rfl,rfl,rfl,rfl,rfl,rfl,tv⟩ ⟨rfl,rfl,rfl,tv⟩ ⟨Yy _,fun k hk=>absurd hk (Y3 k)⟩ ?_
 clear G;intro i a w F hC G
 try dsimp only at hC
 obtain ⟨F,G⟩:=G.nM [57,56,55,5,2,1] [103,101,0]
 try dsimp only at G
 obtain ⟨hi,hq⟩:=hC
 have hol:=fun hil:i<g.orders.length=>hs.2.at hil
 have hwl:=fun k=>ZeX g.txs k
 have hiw:0<i→IntKind.wrap .i64 ((i:Int) - 1)=((i - 1:Nat):Int):=fun h0=>by rw [Zy ow];omega
 refine Ya (rZ G (qL r2) V [58,57,56,55,5,2,1] [103,101,0] fun G=>Ya ?_)
 refine Zc G Z (fun hc4=>?_) (fun hc4=>?_)
 ·have hil:i<g.orders.length:=by simp at hc4;omega
  refine Ye (Za (Ya (Yg (Ya (Zb G (qR rr (qy 2 Ycf r2 (qf (oR true 2 .t) r1 qz (qf (oH [.int .i64 0,.slice none 0 0] 104) trivial qz (qO rr (qS 2 104 r2 r1 qZ)))))) V [57,56,55,7,6,5,2,1] [104,103,101,0] (fun _=>rfl) (fun _=>rfl) fun τ a w F G=>?_)))))
  try dsimp only [RS.sub,SF.sub,CF.sub,csub,Anc.sub,List.map,Zf,xL,xM,Nat.reduceAdd,xD,xE,xT,xU,xC,xN,zCF,ldSF,Zu,rTx,ZG,ZT,Zm,rOp] at G
  generalize τ 7=v7 at G
  try simp only [Yb] at G
  refine Za (Ya (Zv G (qR rr (qf (ZaG .t qi) r1 qz (qR rr (qv 1 101 Z r2 r1 (qw 101 Z r2 r1 (qm Z Z Z Z (qk Z (fun h=>o_sub (.w h) qi) r2 qz (qk Z (fun h=>o_indexAddr_sl (sz:=2) (.mk Ycf kr) (by intro x;rfl) (.w h) (.w h) (by rw [hiw (by simpa using h)];omega) (by rw [hiw (by simpa using h)];omega)) r3 qz (qk Z (fun h=>oG 0 (.w h)) r2 qz (qk Z (fun h=>oR false 1 (.w h)) r2 qz (qv 0 104 Z r2 r1 (qw 104 Z r2 r1 (qk Z (fun h=>Zbq (.w h) (.w h)) r3 qz (qf (ZD .t .t) r2 qz (qR rr (qv 1 104 Z r2 r1 (qw 104 Z r2 r1 (qk Z (fun h=>Zcw Ycd (.w h)) r2 qz (qk Z (fun h=>o_eql (.w h) qi) r2 qz (qf (Zal .t .t) r2 qz (qR rr (qv 1 104 Z r2 r1 (qw 104 Z r2 r1 (qm Z Z Z Z (qv 0 104 Z r2 r1 (qw 104 Z r2 r1 (qk Z (fun h=>Zat (ek:=(fun l:List Int=>PV.sl Zm l)) (z0:=([]:List Int)) 103 underlying83 (ZcE Ycl) kr (fun _ _=>Zi6) (.w h .is) (ZK.int (.w h) Z)) r3 r1 (qk Z (fun h=>oP (ZvC (Nn g.orders i).txs _ (by have:=hol hil;omega) (by rw [hgw];have:=hwl (Nn g.orders i).key;omega)) func47 (Args.two (.w h) (.w h))) r3 qz (qk Z (fun h=>o_not (.w h)) r2 qz (qf (Zal .t .t) r2 qz qZ)))))))))))))))))))))))))))))) V [91,57,56,55,5,2,1] [104,103,101,0] Z Z fun a w F G=>?_))
  try dsimp only [List.map,xD,xE,xT,xU,ldSF,Zu,rTx,ZG,ZT,Zm,rOp] at G
  try simp only [Yb] at G
  refine Za (Zc G Z (fun hc5=>?_) (fun hc5=>?_))
  ·have hbad:¬ ZfR g i:=by
     rintro ⟨g1,g2,g3⟩
     have h9:=hc5
     rw [hgw] at h9
     have g4:(Nn g.orders i).txs.length≠0:=fun e=>g2 (YQ e)
     by_cases hi0:0<i
     · rw [hiw hi0,Yb] at h9
       have:=g1 hi0
       simp [g2,g3] at h9
       omega
     · have hi1:i=0:=by omega
       subst hi1
       simp [g2,g3] at h9
   have hg:=ZgM hil hbad
   refine Ya (rZ G qB V [57,56,55,5,2,1] [104,103,101,0] fun G=>(Yh (Zz (Zk (Zk (Zz (Zk ?_)))))))
   refine Zs hfr G Z Z Z (.bool hg)
  have hgood:ZfR g i:=by
    have h9:=hc5
    rw [hgw] at h9
    by_cases hi0:0<i
    · rw [hiw hi0,Yb] at h9
      simp at h9
      exact ⟨fun _=>by omega,h9.1.2,h9.2⟩
    · have hi1:i=0:=by omega
      subst hi1
      simp at h9
      exact ⟨fun h0=>absurd h0 (Nat.lt_irrefl 0),h9.1,h9.2⟩
  refine Ye (Zh (Za (rZ G (qp r1 (qR rr qZ)) V [57,56,55,5,2,1] [104,103,101,0] fun G=>?_)))
  replace G:=G.ent (i:=57) (s':=.pv (.int .i64 ((i+1:Nat):Int))) Z (.int (Zd ow))
  obtain ⟨F,G⟩:=G.nM [56,55,5,2,1,57] [103,101,0]
  exact ⟨(i+1),F,⟨by omega,(fun k hk=>by rcases Y0 (Y7 hk) with h9 | h9;exact hq k h9;rw [h9];exact hgood)⟩,G,by omega⟩
 have hil:i=g.orders.length:=by simp at hc4;omega
 have hg:=ZkS hlong hall ow (by rw [← hil];exact hq)
 refine Yx (Zi (Zi (Zn (Za (Ya (rZ G qB V [2] [103,101,0] fun G=>Yh ?_))))))
 refine Zs hfr G Z Z Z (.bool hg)
theorem PVs.lenAt {α:Type} {R:α→List PV} {l:List α} {v:Value} {w:World} {y:Ys} (h:(PV.sl R l).p v w y):l.length≤9223372036854775807:=by
 obtain ⟨_,cap,_,h1,h2,_⟩:=h
 unfold maxLen at h2
 omega
theorem Sat.lenHist {B:Zbn} {E:En} {a:Act} {w:World} {F:Fp} (h:Sat B E a w F) {i:Nat} {u:Zp} (hl:Go.Gm.look E.s i=some (SF.pv (PV.agg (Zu u)))):u.txs.length≤9223372036854775807∧u.orders.length≤9223372036854775807:=by
 obtain ⟨vs,_,hp⟩:=h.s i _ hl
 match vs,hp with
 | [x,y],hp=>exact ⟨PVs.lenAt hp.1.2,PVs.lenAt hp.2.1.2⟩
def Zvm (l:List TxD):Prop:=l.length≤1000000 ∧ ∀ t ∈ l,t.ops.length≤1000000
def ZsJ (l:List OrdD):Prop:=l.length≤1000000 ∧ ∀ t ∈ l,t.txs.length≤1000000
structure DOk (d:Zhk):Prop where
 was:Zvm d.was
 now:Zvm d.now
 old:ZsJ d.old
 new:ZsJ d.new
def inv (d:Zhk):Zhk:=⟨d.now,d.was,d.new,d.old⟩
def Zco (h:Zp):Prop:=h.txs.length≤12∧h.orders.length≤24∧(∀ j,j<h.txs.length→(Nn h.txs j).ops.length≤24) ∧ ∀ j,j<h.orders.length→(Nn h.orders j).txs.length≤24
instance (h:Zp):Decidable (Zco h):=by unfold Zco;exact inferInstance
def Zlp (d:Zhk):Prop:=Zco ⟨d.was,d.old⟩∧Zco ⟨d.now,d.new⟩
instance (d:Zhk):Decidable (Zlp d):=by unfold Zlp;exact inferInstance
theorem ZuG {α:Type} [Inhabited α] {q:List α} {x:α} (h:x ∈ q):∃ j,j<q.length∧Nn q j=x:=by
 obtain ⟨j,hj,e⟩:=Yab h
 exact ⟨j,hj,by rw [nth_eq hj];exact e⟩
theorem Zlp.ok {d:Zhk} (h:Zlp d):DOk d:=by
 obtain ⟨⟨h1,h2,h3,h4⟩,h5,h6,h7,h8⟩:=h
 dsimp only at h1 h2 h3 h4 h5 h6 h7 h8
 refine ⟨⟨by omega,fun t ht=>?_⟩,⟨by omega,fun t ht=>?_⟩,⟨by omega,fun t ht=>?_⟩,⟨by omega,fun t ht=>?_⟩⟩ <;> obtain ⟨j,hj,rfl⟩:=ZuG ht
 ·have:=h3 j hj;omega
 ·have:=h7 j hj;omega
 ·have:=h4 j hj;omega
 ·have:=h8 j hj;omega
theorem Zrl (u:Zp):FnP prog 11 [.agg (Zu u)] (.bool (decide (Zco u))):=by
 refine FnP.mk func11 Z ntmps11 Z fun B a w F V hfr G=>?_
 obtain ⟨hxl,hyl⟩:=Sat.lenHist G (i:=0) rfl
 refine Ya (Zb G (qx 101 r1 qB) V [2,1] [101,0] (fun _=>rfl) (fun _=>rfl) fun τ a w F G=>?_)
 try dsimp only [RS.sub,SF.sub,CF.sub,csub,Anc.sub,List.map,zCF] at G
 generalize τ 1=v1 at G
 refine Za (Ya (Ya (rZ G (qg 0 101 r1 r1 (qa 101 r1 r1 (qu Ycg r1 (qf (ZaG .t qi) r1 qz (qR rr (qv 1 101 Z r2 r1 (qw 101 Z r2 r1 (qk Z (fun h=>Zcw Ycf (.w h)) r2 qz (qk Z (fun h=>ZaG (.w h) qi) r2 qz (qf (Zal .t .t) r2 qz qZ)))))))))) V [16,2,1] [101,0] fun G=>?_)))
 refine Zc G Z (fun hc0=>?_) (fun hc0=>?_)
 ·have hg:false=decide (Zco u):=by
    rw [Yaq,YD]
    rintro ⟨g1,g2,g3,g4⟩
    simp at hc0;omega
  refine Ya (rZ G qB V [2,1] [101,0] fun G=>(Yh (Zk ?_)))
  refine Zs hfr G Z Z Z (.bool hg)
 have hb:u.txs.length≤12∧u.orders.length≤24:=by simp at hc0;omega
 refine Ye (Za (Ya (Ya (rZ G (qg 0 101 r1 r1 (qa 101 r1 r1 (qu Ycg r1 (qJ qZ)))) V [20,19,18,2,1] [101,0] fun G=>Yg ?_))))
 obtain ⟨F,G⟩:=G.nM [20,19,18,1] [101,0]
 refine Zbf (σ:=Nat) (fun s=>(⟨[(1,.pv (.is v1)),(18,.pv (.sl rTx u.txs)),(19,.pv (.int .i64 u.txs.length)),(20,.pv (.int .i64 s))],[(0,frame B),(101,.pt (.val v1) 25 [.pv (.sl rTx u.txs),.pv (.sl ZG u.orders)])]⟩:En)) (fun s=>s≤u.txs.length ∧ ∀ j,j<s→(Nn u.txs j).ops.length≤24) (fun s=>u.txs.length - s) 0 G ⟨Yy _,fun j hj=>absurd hj (Y3 j)⟩ ?_
 clear G;intro i a w F hC G
 try dsimp only at hC
 try dsimp only at G
 obtain ⟨hi,hq⟩:=hC
 refine Ya (rZ G (qL r2) V [21,20,19,18,1] [101,0] fun G=>Ya ?_)
 refine Zc G Z (fun hc1=>?_) (fun hc1=>?_)
 ·have hil:i<u.txs.length:=by simp at hc1;omega
  refine Ye (Za (Ya (Yg (Ya (Zb G (qy 3 Ycg r2 (qf (oR true 3 .t) r1 qz (qf (oH [.int .i64 0,.bool false,.slice none 0 0] 102) trivial qz (qS 3 102 r2 r1 qZ)))) V [20,19,18,4,1] [102,101,0] (fun _=>rfl) (fun _=>rfl) fun τ a w F G=>?_)))))
  try dsimp only [RS.sub,SF.sub,CF.sub,csub,Anc.sub,List.map,Zf,xL,xM,Nat.reduceAdd,xD,xE,xT,xU,xC,xN,zCF,ldSF] at G
  generalize τ 4=v4 at G
  refine Za (Ya (rZ G (qg 2 102 r1 r1 (qa 102 r1 r1 (qu Yci r1 (qf (ZaG .t qi) r1 qz qZ)))) V [27,20,19,18,1] [101,0] fun G=>?_))
  refine Zc G Z (fun hc2=>?_) (fun hc2=>?_)
  ·have hg:false=decide (Zco u):=by
     rw [Yaq,YD]
     rintro ⟨g1,g2,g3,g4⟩
     have:=g3 i hil;rw [Yb] at hc2;simp at hc2;omega
   refine Ya (rZ G qB V [20,19,18,2,1] [101,0] fun G=>(Yh (Zz (Zk (Zk (Zz (Zk ?_)))))))
   refine Zs hfr G Z Z Z (.bool hg)
  have hqi:(Nn u.txs i).ops.length≤24:=by rw [Yb] at hc2;simp at hc2;omega
  refine Ye (Zh (Za (rZ G (qp r1 (qR rr qZ)) V [20,19,18,1] [101,0] fun G=>?_)))
  replace G:=G.ent (i:=20) (s':=.pv (.int .i64 ((i+1:Nat):Int))) Z (.int (Zd ow))
  obtain ⟨F,G⟩:=G.nM [20,19,18,1] [101,0]
  exact ⟨i+1,F,⟨by omega,fun j hj=>by rcases Y0 (Y7 hj) with h | h;exact hq j h;rw [h];exact hqi⟩,G,by omega⟩
 have hT:∀ j,j<u.txs.length→(Nn u.txs j).ops.length≤24:=fun j hj=>hq j (by simp at hc1;omega)
 clear hq hi
 refine Yx (Zi (Zi (Zn (Za (Ya (Ya (rZ G (qg 1 101 r1 r1 (qa 101 r1 r1 (qu Ycf r1 (qJ qZ)))) V [32,31,30] [0] fun G=>Yg ?_)))))))
 obtain ⟨F,G⟩:=G.nM [32,31,30] [0]
 refine Zbf (σ:=Nat) (fun s=>(⟨[(30,.pv (.sl ZG u.orders)),(31,.pv (.int .i64 u.orders.length)),(32,.pv (.int .i64 s))],[(0,frame B)]⟩:En)) (fun s=>s≤u.orders.length ∧ ∀ j,j<s→(Nn u.orders j).txs.length≤24) (fun s=>u.orders.length - s) 0 G ⟨Yy _,fun j hj=>absurd hj (Y3 j)⟩ ?_
 clear G;intro i a w F hC G
 try dsimp only at hC
 try dsimp only at G
 obtain ⟨hi,hq⟩:=hC
 refine Ya (rZ G (qL r2) V [33,32,31,30] [0] fun G=>Ya ?_)
 refine Zc G Z (fun hc3=>?_) (fun hc3=>?_)
 ·have hil:i<u.orders.length:=by simp at hc3;omega
  refine Ye (Za (Ya (Yg (Ya (Zb G (qy 2 Ycf r2 (qf (oR true 2 .t) r1 qz (qf (oH [.int .i64 0,.slice none 0 0] 103) trivial qz (qS 2 103 r2 r1 qZ)))) V [32,31,30,6] [103,0] (fun _=>rfl) (fun _=>rfl) fun τ a w F G=>?_)))))
  try dsimp only [RS.sub,SF.sub,CF.sub,csub,Anc.sub,List.map,Zf,xL,xM,Nat.reduceAdd,xD,xE,xT,xU,xC,xN,zCF,ldSF] at G
  generalize τ 6=v6 at G
  refine Za (Ya (rZ G (qg 1 103 r1 r1 (qa 103 r1 r1 (qu Ycd r1 (qf (ZaG .t qi) r1 qz qZ)))) V [39,32,31,30] [0] fun G=>?_))
  refine Zc G Z (fun hc4=>?_) (fun hc4=>?_)
  ·have hg:false=decide (Zco u):=by
     rw [Yaq,YD]
     rintro ⟨g1,g2,g3,g4⟩
     have:=g4 i hil;rw [Yb] at hc4;simp at hc4;omega
   refine Ya (rZ G qB V [32,31,30,2] [0] fun G=>(Yh (Zz (Zk (Zk (Zz (Zk ?_)))))))
   refine Zs hfr G Z Z Z (.bool hg)
  have hqi:(Nn u.orders i).txs.length≤24:=by rw [Yb] at hc4;simp at hc4;omega
  refine Ye (Zh (Za (rZ G (qp r1 (qR rr qZ)) V [32,31,30] [0] fun G=>?_)))
  replace G:=G.ent (i:=32) (s':=.pv (.int .i64 ((i+1:Nat):Int))) Z (.int (Zd ow))
  obtain ⟨F,G⟩:=G.nM [32,31,30] [0]
  exact ⟨i+1,F,⟨by omega,fun j hj=>by rcases Y0 (Y7 hj) with h | h;exact hq j h;rw [h];exact hqi⟩,G,by omega⟩
 have hO:∀ j,j<u.orders.length→(Nn u.orders j).txs.length≤24:=fun j hj=>hq j (by simp at hc3;omega)
 have hg:true=decide (Zco u):=by rw [Yaq,Yq];exact ⟨hb.1,hb.2,hT,hO⟩
 refine Yx (Zi (Zi (Zn (Za (Ya (rZ G qB V [2] [0] fun G=>Yh ?_))))))
 refine Zs hfr G Z Z Z (.bool hg)
instance (h:Zp):Decidable (Zco h):=by unfold Zco;exact inferInstance
theorem ZeY {P:Program} {w:World} {d:Nat} {e:TypeId} (he:P.underlying e=some (.int .i64)) {l m:List Int} : ∀ (is:List Nat),(∀ i ∈ is,i<l.length∧i<m.length)→(Op.eqItems (d+1) e 1 (l.map fun n=>Value.int .i64 n).toArray (m.map fun n=>Value.int .i64 n).toArray is).run P w = .ok (is.all fun i=>decide (l[i]? = m[i]?)) w
 | [],_=>by simp [Op.eqItems]
 | i :: is,h=>by
  have hag:P.aggB e=some false:=by unfold Program.aggB;rw [he]
  obtain ⟨h1,h2⟩:=h i (by simp)
  have p1:(part e (l.map fun n=>Value.int .i64 n).toArray (i*1)).run P w = .ok (.int .i64 l[i]) w:=by simp [part,run_isAgg hag,h1]
  have p2:(part e (m.map fun n=>Value.int .i64 n).toArray (i*1)).run P w = .ok (.int .i64 m[i]) w:=by simp [part,run_isAgg hag,h2]
  have p3:(Op.equalIn (d+1) e (.int .i64 l[i]) (.int .i64 m[i])).run P w = .ok (l[i] == m[i]) w:=run_equalIn_int w d e .i64 _ _ _ he
  have ih:=ZeY (P:=P) (w:=w) (d:=d) he is (fun j hj=>h j (YC _ hj))
  simp only [Op.eqItems,YB,p1,p2,p3,Yn]
  rw [List.all_cons,Yax h1,Yax h2]
  by_cases hab:l[i] = m[i]
  ·simp [hab,ih]
  ·simp [hab]
theorem Zpj {l m:List Int} {n:Nat} (hl:l.length=n) (hm:m.length=n):((List.range n).all fun i=>decide (l[i]? = m[i]?))=decide (l=m):=by
 rw [Yai,YaT,Yq]
 constructor
 ·intro h
  apply List.ext_getElem?
  intro i
  by_cases hi:i<n
  ·simpa using h i (Ya7.2 hi)
  ·rw [YbP ow,YbP ow]
 ·rintro rfl i _
  simp
theorem ZrG {P:Program} {κ:Type} [DecidableEq κ] {kt et:TypeId} {enc:κ→List Int} {n:Nat} (hl:∀ k,(enc k).length=n) (hi:∀ a b,enc a=enc b→a=b) (hu:P.underlying kt=some (.array n et)) (he:P.underlying et=some (.int .i64)) (hc:P.cellsOf et=1):Zny P kt (fun k=>∀ x ∈ enc k,inR .i64 x) (kvS enc) where
 check:=fun b k w _=>by
  obtain ⟨ti,hti⟩:∃ i,P.info? et=some i:=info_of_underlying he
  have hag:P.aggB et=some false:=by unfold Program.aggB;rw [he]
  unfold kvS
  rw [show (10000:Nat)=9998+1+1 from rfl,Instr.checkKey]
  simp only [YB,Ym hu,Yn]
  simp only [Std.Legacy.Range.forIn_eq_forIn_range',Std.Legacy.Range.size,YbZ,Nat.add_one_sub_one,Nat.div_one]
  have each:∀ i ∈ List.range' 0 n,i<(enc k).length:=by intro i h;rw [hl];simp [List.mem_range'] at h;omega
  generalize List.range' 0 n=is at each
  induction is with
  | nil=>simp
  | cons j is ih=>
   have h1:=each j (by simp)
   have p1:(part et ((enc k).map fun n=>Value.int .i64 n).toArray (j*1)).run P w = .ok (.int .i64 (enc k)[j]) w:=by simp [part,run_isAgg hag,h1]
   have p2:(Instr.checkKey b (9998+1) et (.int .i64 (enc k)[j])).run P w = .ok () w:=Go.MapKept.run_checkKey he (by simp [Go.MapKept.IsKey]) b 9998
   simp only [List.forIn_cons,YB,run_sizeOf w hti,hc,Yn,p1,p2,YI]
   exact ih (fun y hy=>each y (by simp [hy]))
 find:=fun es k w hok hks=>by
  obtain ⟨ti,hti⟩:∃ i,P.info? et=some i:=info_of_underlying he
  rw [run_findKey_eq (P:=P) (w:=w) (k:=kt) (by rw [hu]) (kvS enc k) (es.map (rEnc (kvS enc)))]
  have key:∀ (es:List (GE κ Value)) (j:Nat),(Instr.findAsking kt (kvS enc k) (es.map (rEnc (kvS enc))) j).run P w = .ok ((gIdx k es).map fun i=>(i+j,(gGet k es).getD undef)) w:=by
   intro es
   induction es with
   | nil=>intro j;simp [Instr.findAsking,gIdx]
   | cons e es ih=>
    intro j
    have hq:(Op.equal kt (kvS enc k) (kvS enc e.key)).run P w = .ok (decide (enc k=enc e.key)) w:=by
     unfold Op.equal Op.maxDepth kvS
     rw [show (10000:Nat)=9998+1+1 from rfl,run_equalIn_array w (9998+1) _ _ hu hti,hc,ZeY he _ (fun i h=>by rw [hl,hl];simpa using h),Zpj (hl _) (hl _)]
    rw [YT]
    unfold Instr.findAsking
    have ih':=ih (j+1)
    by_cases h:k=e.key
    ·have hek:enc k=enc e.key:=by rw [h]
     simp only [rEnc,YB,hq,hek,decide_true,Yn,Yv,YI]
     simp [gIdx,gGet,h]
    ·have hek:¬ enc k=enc e.key:=fun h'=>h (hi _ _ h')
     simp only [rEnc,YB,hq,YF hek,Yn,Ybs,Yp]
     rw [show (es.map fun e=>rEnc (kvS enc) e)=es.map (rEnc (kvS enc)) from rfl] at *
     rw [ih']
     simp only [gIdx,gGet,Yc h]
     cases hm:gIdx k es with
     | none=>rfl
     | some i=>simp;omega
  have:=key es 0
  simpa using this
 same:=fun k=>Zfp (enc k) 9999
def ZnI {κ:Type} [DecidableEq κ] (A:List (κ×Int)) (k:κ):Int:=A.foldl (fun x z=>if k=z.1 then z.2 else x) 0
theorem Zjj {κ:Type} [DecidableEq κ] {A:List (κ×Int)} {z:κ×Int} {k:κ} : ZnI (A ++ [z]) k=if k=z.1 then z.2 else ZnI A k:=by unfold ZnI;rw [Yat];rfl
theorem ZqH {κ:Type} [DecidableEq κ] {k:κ} (A:List (κ×Int)) (hA:∀ z ∈ A,z.2=1):0≤ZnI A k∧ZnI A k≤1:=by
 have key:∀ (A:List (κ×Int)) (x:Int),(∀ z ∈ A,z.2=1)→0≤x∧x≤1→0≤A.foldl (fun x z=>if k=z.1 then z.2 else x) x∧A.foldl (fun x z=>if k=z.1 then z.2 else x) x≤1:=by
  intro A
  induction A with
  | nil=>intro x _ h;exact h
  | cons z A ih=>
   intro x hz hx
   rw [Yan]
   refine ih _ (fun y hy=>hz y (YC _ hy)) ?_
   have:=hz z (by simp)
   split <;> omega
 exact key A 0 hA ow
structure ZdU where
 fst:Int
 snd:Int
 deriving DecidableEq,Inhabited
def Ze4 (k:ZdU):List Int:=[k.fst,k.snd]
def Zao (e:Zg):List Int:=[e.src,e.dst,e.kind,e.key]
def Zdx (l:List TxD):List (Int×Int):=(l.filter TxD.done).map fun t=>(t.id,1)
def ZbS (id:Int) (l:List OpD):List ZdU:=(l.filter fun o=>!o.read).map fun o=>⟨id,o.key⟩
def lastK (l:List TxD):List ZdU:=l.flatMap fun t=>if t.done=true then ZbS t.id t.ops else []
def atI (l:List Int) (j:Nat):Int:=if j=0 then 0 else Nn l (j - 1)
def nxO (o:OrdD) (j:Nat):List (ZdU×Int):=(List.range j).map fun i=>(⟨o.key,atI o.txs i⟩,Nn o.txs i)
def nxA (l:List OrdD):List (ZdU×Int):=l.flatMap fun o=>nxO o o.txs.length
theorem ZfS {l:List TxD} {i:Nat} (hi:i<l.length):Zdx (l.take (i+1))=Zdx (l.take i)++if (Nn l i).done=true then [((Nn l i).id,1)] else []:=by
 unfold Zdx
 rw [Zo hi,Yaa,YO]
 cases hd:(Nn l i).done <;> simp [hd]
theorem Zhp {l:List TxD} {i:Nat} (hi:i<l.length):lastK (l.take (i+1))=lastK (l.take i)++if (Nn l i).done=true then ZbS (Nn l i).id (Nn l i).ops else []:=by
 unfold lastK
 rw [Zo hi,YV]
 simp
theorem Zgh {id:Int} {l:List OpD} {j:Nat} (hj:j<l.length):ZbS id (l.take (j+1))=ZbS id (l.take j)++if (Nn l j).read=true then [] else [⟨id,(Nn l j).key⟩]:=by
 unfold ZbS
 rw [Zo hj,Yaa,YO]
 cases hd:(Nn l j).read <;> simp [hd]
theorem Zhn (id:Int) (l:List OpD):(ZbS id l).length≤l.length:=by unfold ZbS;rw [YG];exact Yac _ _
theorem Zqr {l:List TxD} (h:ZaZ l) (i:Nat):(lastK (l.take i)).length≤1000*i:=by
 have key:∀ l:List TxD,(∀ t ∈ l,t.ops.length≤1000)→(lastK l).length≤1000*l.length:=by
  intro l
  induction l with
  | nil=>intro _;simp [lastK]
  | cons t l ih=>
   intro h
   have h1:=ih fun x hx=>h x (by simp [hx])
   have h2:=h t (by simp)
   have h3:=Zhn t.id t.ops
   unfold lastK at h1 ⊢
   rw [YZ,Yd,Yl]
   split
   ·omega
   ·simp only [Yw];omega
 have h1:=key (l.take i) fun t ht=>h.2 t (Yak ht)
 have h2:(l.take i).length≤i:=by rw [Yi];omega
 exact Y2 h1 (Ybk _ h2)
theorem ZrC {o:OrdD} {j:Nat} : nxO o (j+1)=nxO o j ++ [(⟨o.key,atI o.txs j⟩,Nn o.txs j)]:=by unfold nxO;rw [List.range_succ,YO];rfl
theorem Zsi {l:List OrdD} {i:Nat} (hi:i<l.length):nxA (l.take (i+1))=nxA (l.take i)++nxO (Nn l i) (Nn l i).txs.length:=by
 unfold nxA
 rw [Zo hi,YV]
 simp
def ZnD {κ:Type} [DecidableEq κ] (es:List (GE κ Int)) (A:List (κ×Int)):Prop:=∀ k,(gGet k es).getD 0=ZnI A k
def Zqx {κ:Type} [DecidableEq κ] (es:List (GE κ Int)) (R:List κ):Prop:=∀ k,(gGet k es).getD 0=(R.count k:Int)
theorem Zpx {κ:Type} [DecidableEq κ] {es:List (GE κ Int)} {A:List (κ×Int)} {ck:Nat} {k:κ} {x:Int} (h:ZnD es A):ZnD (gPut k x (es,ck)).1 (A ++ [(k,x)]):=fun k'=>by
 rw [Zdk,Zjj,← h k']
 split <;> rfl
theorem ZtY {κ:Type} [DecidableEq κ] {es:List (GE κ Int)} {R:List κ} {ck:Nat} {k:κ} (h:Zqx es R) (hl:R.length≤100000000):Zqx (gSet k (IntKind.wrap .i64 ((gGet k es).getD 0+1)) (gEns 0 k (es,ck)).1) (R ++ [k]):=fun k'=>by
 have hc:R.count k≤R.length:=List.count_le_length
 rw [Zdr,h k,Zy ow,YbR]
 by_cases e:k' = k
 ·subst e;rw [Yf rfl];simp
 ·rw [Yc e,h k'];simp [List.count_cons,Ne.symm e]
def Zjv (g:Zp) (id:Int):Int:=ZnI (Zdx g.txs) id
def Znd (g:Zp) (id k:Int):Int:=((lastK g.txs).count ⟨id,k⟩:Int)
def nxI (g:Zp) (k x:Int):Int:=ZnI (nxA g.orders) ⟨k,x⟩
def ZsQ (g:Zp) (t:TxD) (o:OpD):Bool:=decide (o.tx=t.id) || (!decide (o.tx=0) && (decide (Zjv g o.tx=0) || !decide (Znd g o.tx o.key=o.nth)))
def rdA (t:TxD) (o:OpD):List Zg:=if o.tx=0 then [] else [⟨o.tx,t.id,2,o.key⟩]
def rdB (g:Zp) (t:TxD) (o:OpD):List Zg:=if nxI g o.key o.tx≠0∧nxI g o.key o.tx≠t.id then [⟨t.id,nxI g o.key o.tx,3,o.key⟩] else []
def rdO (g:Zp) (t:TxD) (o:OpD):List Zg:=if ZsQ g t o=true then [] else rdA t o++rdB g t o
theorem Zt5 (g:Zp) (t:TxD) (o:OpD):(rdO g t o).length≤2:=by
 unfold rdO rdA rdB
 split
 ·simp
 ·split <;> split <;> simp
def rdT (p:Int→Bool) (g:Zp) (t:TxD) (l:List OpD):List Zg:=l.flatMap fun o=>if (t.done && (o.read && p o.key))=true then rdO g t o else []
def rdH (p:Int→Bool) (g:Zp) (l:List TxD):List Zg:=l.flatMap fun t=>rdT p g t t.ops
theorem Zmv {p:Int→Bool} {g:Zp} {t:TxD} {l:List OpD} {j:Nat} (hj:j<l.length):rdT p g t (l.take (j+1))=rdT p g t (l.take j)++if (t.done && ((Nn l j).read && p (Nn l j).key))=true then rdO g t (Nn l j) else []:=by
 unfold rdT
 rw [Zo hj,YV]
 simp
theorem Zsm {p:Int→Bool} {g:Zp} {l:List TxD} {i:Nat} (hi:i<l.length):rdH p g (l.take (i+1))=rdH p g (l.take i)++rdT p g (Nn l i) (Nn l i).ops:=by
 unfold rdH
 rw [Zo hi,YV]
 simp
theorem Zod (p:Int→Bool) (g:Zp) (t:TxD) (l:List OpD):(rdT p g t l).length≤2*l.length:=by
 induction l with
 | nil=>simp [rdT]
 | cons o l ih=>
  have h1:=Zt5 g t o
  unfold rdT at ih ⊢
  rw [YZ,Yd,Yl]
  split
  ·omega
  ·simp only [Yw];omega
theorem ZnX {p:Int→Bool} {g:Zp} {l:List TxD} (h:ZaZ l) (i:Nat):(rdH p g (l.take i)).length≤2000*i:=by
 have key:∀ l:List TxD,(∀ t ∈ l,t.ops.length≤1000)→(rdH p g l).length≤2000*l.length:=by
  intro l
  induction l with
  | nil=>intro _;simp [rdH]
  | cons t l ih=>
   intro h
   have h1:=ih fun x hx=>h x (by simp [hx])
   have h2:=h t (by simp)
   have h3:=Zod p g t t.ops
   unfold rdH at h1 ⊢
   rw [YZ,Yd,Yl]
   omega
 have h1:=key (l.take i) fun t ht=>h.2 t (Yak ht)
 have h2:(l.take i).length≤i:=by rw [Yi];omega
 exact Y2 h1 (Ybk _ h2)
def wwO (o:OrdD) (j:Nat):List (Zg×Int):=(List.range j).map fun i=>(⟨Nn o.txs i,Nn o.txs (i+1),1,o.key⟩,1)
def wwA (p:Int→Bool) (l:List OrdD):List (Zg×Int):=l.flatMap fun o=>if p o.key=true then wwO o (o.txs.length - 1) else []
theorem ZrZ {o:OrdD} {j:Nat} : wwO o (j+1)=wwO o j ++ [(⟨Nn o.txs j,Nn o.txs (j+1),1,o.key⟩,1)]:=by unfold wwO;rw [List.range_succ,YO];rfl
theorem Zr9 {p:Int→Bool} {l:List OrdD} {i:Nat} (hi:i<l.length):wwA p (l.take (i+1))=wwA p (l.take i)++if p (Nn l i).key=true then wwO (Nn l i) ((Nn l i).txs.length - 1) else []:=by
 unfold wwA
 rw [Zo hi,YV]
 simp
theorem Zos {κ ν:Type} [DecidableEq κ] (k:κ) (v:ν):∀ es:List (GE κ ν),(gSet k v es).length=es.length
 | []=>rfl
 | e :: es=>by
  unfold gSet
  split
  ·rfl
  ·rw [Yl,Yl,Zos k v es]
theorem Zu0 {κ ν:Type} [DecidableEq κ] (k:κ) (v:ν) (s:List (GE κ ν)×Nat):(gPut k v s).1.length≤s.1.length+1:=by
 unfold gPut
 split
 ·show (gSet k v s.1).length≤_
  rw [Zos];omega
 ·show (s.1 ++ [_]).length≤_
  rw [Yd];simp
theorem Zvq {κ ν:Type} [DecidableEq κ] (z:ν) (k:κ) (s:List (GE κ ν)×Nat):(gEns z k s).1.length≤s.1.length+1:=by
 unfold gEns
 split
 ·omega
 ·show (s.1 ++ [_]).length≤_
  rw [Yd];simp
structure Zhv (es:List (GE Zg Int)) (A:List (Zg×Int)) (R:List Zg):Prop where
 val:∀ e,(gGet e es).getD 0=ZnI A e+(R.count e:Int)
 one:∀ z ∈ A,z.2=1
 key:∀ e,(gGet e es).isSome=true ↔ (e ∈ A.map Prod.fst∨e ∈ R)
 len:es.length≤A.length+R.length
theorem Zlr:Zhv [] [] []:=⟨fun _=>rfl,by simp,fun e=>by simp [gGet],Yy _⟩
theorem Ztz {es:List (GE Zg Int)} {A:List (Zg×Int)} {ck:Nat} {e:Zg} (h:Zhv es A []):Zhv (gPut e 1 (es,ck)).1 (A ++ [(e,1)]) []:=⟨fun k=>by
 have:=h.val k
 rw [Zdk,Zjj]
 split
 ·rfl
 ·rw [this],fun z hz=>by
 rcases YA.1 hz with h1 | h1
 ·exact h.one z h1
 ·simp at h1;rw [h1],fun k=>by
 rw [Zdk,YO,YA]
 by_cases hk:k=e
 ·rw [Yf hk];simp [hk]
 ·rw [Yc hk,h.key k];simp [hk],by
 have h1:=h.len
 have h2:=Zu0 e (1:Int) (es,ck)
 rw [Yd]
 simp only [Yl,Yw] at h1 h2 ⊢
 omega⟩
theorem ZkK {es:List (GE Zg Int)} {A:List (Zg×Int)} {R:List Zg} {ck:Nat} {e:Zg} (h:Zhv es A R) (hl:R.length≤100000000):Zhv (gSet e (IntKind.wrap .i64 ((gGet e es).getD 0+1)) (gEns 0 e (es,ck)).1) A (R ++ [e]):=⟨fun k=>by
 have hc:R.count e≤R.length:=List.count_le_length
 have h1:=ZqH (k:=e) A h.one
 rw [Zdr,h.val e,Zy ow,YbR]
 by_cases hk:k=e
 ·subst hk;rw [Yf rfl];simp;omega
 ·rw [Yc hk,h.val k];simp [List.count_cons,Ne.symm hk],h.one,fun k=>by
 rw [Zdr,YA]
 by_cases hk:k=e
 ·rw [Yf hk];simp [hk]
 ·rw [Yc hk,h.key k];simp [hk],by
 have h1:=h.len
 have h2:=Zvq (0:Int) e (es,ck)
 rw [Zos,Yd]
 simp only [Yl,Yw] at h1 h2 ⊢
 omega⟩
structure FS where
 mA:Value
 mB:Value
 mC:Value
 eA:List (GE Int Int)
 kA:Nat
 eB:List (GE ZdU Int)
 kB:Nat
 eC:List (GE ZdU Int)
 kC:Nat
structure Zwu (g:Zp) (s:FS):Prop where
 dn:ZnD s.eA (Zdx g.txs)
 la:Zqx s.eB (lastK g.txs)
 nx:ZnD s.eC (nxA g.orders)
theorem Zg1:Zny prog 250 (fun k=>∀ x ∈ Ze4 k,inR .i64 x) (kvS Ze4):=ZrG (et:=3) (n:=2) (fun _=>rfl) (fun a b h=>by cases a;cases b;simpa [Ze4] using h) kr kr kr
theorem Zc1:Zny prog 42 (fun k=>∀ x ∈ Zao k,inR .i64 x) (kvS Zao):=ZdT (n:=4) (fun _=>rfl) (fun a b h=>by cases a;cases b;simpa [Zao] using h) kr
def Zs3 (g:Zp) (s:FS) (v:Value):List RS:=[.pt (.val v) 249 [.pv (.sl rTx g.txs),.pv (.sl ZG g.orders),.pv (.is s.mA),.pv (.is s.mB),.pv (.is s.mC)],.ob (.val s.mA) (ZbH (fun n:Int=>PV.int .i64 n) (fun _=>True) (fun n:Int=>Value.int .i64 n) s.eA s.kA),.ob (.val s.mB) (ZbH (fun n:Int=>PV.int .i64 n) (fun k=>∀ x ∈ Ze4 k,inR .i64 x) (kvS Ze4) s.eB s.kB),.ob (.val s.mC) (ZbH (fun n:Int=>PV.int .i64 n) (fun k=>∀ x ∈ Ze4 k,inR .i64 x) (kvS Ze4) s.eC s.kC)]
def ZnC (g:Zp) (v:Value):HP:=.ex fun s:FS=>.and (Zwu g s) (.star (Zs3 g s v))
def Zgf (A:List (Zg×Int)) (R:List Zg) (v:Value):HP:=.ex fun s:List (GE Zg Int)×Nat=>.and (Zhv s.1 A R) (ZbH (fun n:Int=>PV.int .i64 n) (fun k=>∀ x ∈ Zao k,inR .i64 x) (kvS Zao) s.1 s.2 v)
theorem Zvv (g:Zp) (hsm:Za7 g):FnG prog 135 1 [.agg (Zu g)] [.star []] (PV.ptr) (fun v=>[ZnC g v]):=by
 refine FnG.mk func135 Z ntmps135 Z kr fun B F0 a w F V hG G=>?_
 have hs:=hsm.1
 have hsl:=hs.1
 have hso:=hsm.2
 have hol1:=hso.1
 refine Ya (Zb G (qx 101 r1 (qC qZ)) V [2,1] [101,1,0] (fun _=>rfl) (fun _=>rfl) fun τ a w F G=>?_)
 try dsimp only [RS.sub,SF.sub,CF.sub,csub,Anc.sub,List.map,zCF,Zu,rTx,ZG,ZT,Zm,rOp] at G
 generalize τ 1=v1 at G
 refine Za (Ya (Zb G (qe 2 101 r1 r1 (qf (Za0 (ek:=(fun n:Int=>PV.int .i64 n)) (ok:=(fun _=>True)) (kv:=(fun n:Int=>Value.int .i64 n)) 102) trivial qz (qf (Za0 (ek:=(fun n:Int=>PV.int .i64 n)) (ok:=(fun k=>∀ x ∈ Ze4 k,inR .i64 x)) (kv:=(kvS Ze4)) 103) trivial qz (qf (Za0 (ek:=(fun n:Int=>PV.int .i64 n)) (ok:=(fun k=>∀ x ∈ Ze4 k,inR .i64 x)) (kv:=(kvS Ze4)) 104) trivial qz (qf (oB [(0,.tmp 13),(1,.tmp 14),(2,.tmp 15),(3,.tmp 16)] [.slice none 0 0,.slice none 0 0,.map none,.map none,.map none] [(0,2),(2,1),(3,1),(4,1)] (.agg Z .t kr kr (.same Z kr (.same Z kr (.same Z kr .nil))))) r4 qz (qf (oX 105 .t) r1 qz (qO rr qZ))))))) V [3,2,1] [105,104,103,102,101,1,0] (fun _=>rfl) (fun _=>rfl) fun τ a w F G=>?_))
 try dsimp only [RS.sub,SF.sub,CF.sub,csub,Anc.sub,List.map,Zf,xL,xM,Nat.reduceAdd,xD,xE,xT,xU,xC,xN,zCF,ldSF,Zu,rTx,ZG,ZT,Zm,rOp] at G
 generalize τ 18=v18,τ 14=v14 at G
 generalize τ 15=v15,τ 16=v16 at G
 refine Za (Ya (Ya (rZ G (qg 0 101 r1 r1 (qa 101 r1 r1 (qu Ycg r1 (qJ qZ)))) V [22,21,20,3,2,1] [105,104,103,102,101,1,0] fun G=>Yg ?_)))
 refine Zj (σ:=(Nat)×(List (GE Int Int))×(Nat)×(List (GE ZdU Int))×(Nat)) [1,2,3,20,21] [0,1,101,104,105] (fun s=>[(22,.pv (.int .i64 (s.1:Int)))]) (fun s=>[(102,.ob (.val v14) (ZbH (fun n:Int=>PV.int .i64 n) (fun _=>True) (fun n:Int=>Value.int .i64 n) s.2.1 s.2.2.1)),(103,.ob (.val v15) (ZbH (fun n:Int=>PV.int .i64 n) (fun k=>∀ x ∈ Ze4 k,inR .i64 x) (kvS Ze4) s.2.2.2.1 s.2.2.2.2))]) (fun s=>s.1≤g.txs.length∧(ZnD s.2.1 (Zdx (g.txs.take s.1))∧Zqx s.2.2.2.1 (lastK (g.txs.take s.1)))) (fun s=>g.txs.length - s.1) ((0),([]),(0),([]),(0)) G ⟨rfl,rfl,rfl,rfl,rfl,rfl,tv⟩ ⟨rfl,rfl,rfl,rfl,rfl,rfl,rfl,tv⟩ ⟨Yy _,⟨fun _=>rfl,fun _=>rfl⟩⟩ ?_
 clear G;intro s a w F hC G
 obtain ⟨i,eA,kA,eB,kB⟩:=s
 try dsimp only at hC
 obtain ⟨F,G⟩:=G.nM [22,21,20,3,2,1] [105,104,103,102,101,1,0]
 try dsimp only at G
 obtain ⟨hi,hq⟩:=hC
 have hxl:=fun hil:i<g.txs.length=>hs.at hil
 refine Ya (rZ G (qL r2) V [23,22,21,20,3,2,1] [105,104,103,102,101,1,0] fun G=>Ya ?_)
 refine Zc G Z (fun hc0=>?_) (fun hc0=>?_)
 ·have hil:i<g.txs.length:=by simp at hc0;omega
  have hio:=hil
  have htl:=hxl hil
  have hsl:=hs.1
  have hdn0:=hq.1
  have hcn:=hq.2
  refine Ye (Za (Ya (Yg (Ya (Zb G (qy 3 Ycg r2 (qf (oR true 3 .t) r1 qz (qf (oH [.int .i64 0,.bool false,.slice none 0 0] 106) trivial qz (qS 3 106 r2 r1 qZ)))) V [22,21,20,5,3,2,1] [106,105,104,103,102,101,1,0] (fun _=>rfl) (fun _=>rfl) fun τ a w F G=>?_)))))
  try dsimp only [RS.sub,SF.sub,CF.sub,csub,Anc.sub,List.map,Zf,xL,xM,Nat.reduceAdd,xD,xE,xT,xU,xC,xN,zCF,ldSF,Zu,rTx,ZG,ZT,Zm,rOp] at G
  generalize τ 5=v5 at G
  try simp only [Yb] at G
  refine Za (Ya (Ya (rZ G (qg 1 106 r1 r1 (qa 106 r1 r1 (qf (o_not .t) r1 qz qZ))) V [28,22,21,20,5,3,2,1] [106,105,104,103,102,101,1,0] fun G=>?_)))
  refine Zc G Z (fun hc1=>?_) (fun hc1=>?_)
  ·have hdn:(Nn g.txs i).done=false:=by simpa using hc1
   obtain ⟨eA2,heA2⟩:∃ z,z=eA:=⟨_,rfl⟩
   obtain ⟨kA2,hkA2⟩:∃ z,z=kA:=⟨_,rfl⟩
   obtain ⟨eB2,heB2⟩:∃ z,z=eB:=⟨_,rfl⟩
   obtain ⟨kB2,hkB2⟩:∃ z,z=kB:=⟨_,rfl⟩
   rw [← heA2,← hkA2,← heB2,← hkB2] at G
   have hR2:ZnD eA2 (Zdx (g.txs.take (i+1)))∧Zqx eB2 (lastK (g.txs.take (i+1))):=by rw [heA2,heB2,ZfS hio,Zhp hio,Yc (by rw [hdn];simp),Yc (by rw [hdn];simp),YR,YR];exact ⟨hdn0,hcn⟩
   refine Yx (Zi (Zn (Za (rZ G (qp r1 (qR rr qZ)) V [22,21,20,3,2,1] [106,105,104,103,102,101,1,0] fun G=>?_))))
   replace G:=G.ent (i:=22) (s':=.pv (.int .i64 ((i+1:Nat):Int))) Z (.int (Zd ow))
   obtain ⟨F,G⟩:=G.nM [21,20,3,2,1,22] [105,104,101,1,0,103,102]
   exact ⟨((i+1),(eA2),(kA2),(eB2),(kB2)),F,⟨by omega,hR2⟩,G,by omega⟩
  have hdn:(Nn g.txs i).done=true:=by simpa using hc1
  refine Ye (Za (Ya (Zv G (qR rr (qf (o_nilCheck 105 .is (by rfl)) r1 r1 (qf (oF 2 105 .adr) r1 r1 (qa 105 r1 r1 (qg 0 106 r1 r1 (qa 106 r1 r1 (qf (o_mapUpdateG (ek:=(fun n:Int=>PV.int .i64 n)) 102 underlying75 (ZcE Ycl) .is (ZK.int .t Z) qi) r2 r1 qZ))))))) V [22,21,20,5,3,2,1] [106,105,104,103,102,101,1,0] Z Z fun a w F G=>?_)))
  try dsimp only [List.map,xD,xE,xT,xU,ldSF,Zu,rTx,ZG,ZT,Zm,rOp] at G
  obtain ⟨eA2,heA2⟩:∃ z,z=(gPut (Nn g.txs i).id 1 (eA,kA)).1:=⟨_,rfl⟩
  obtain ⟨kA2,hkA2⟩:∃ z,z=(gPut (Nn g.txs i).id 1 (eA,kA)).2:=⟨_,rfl⟩
  rw [← heA2,← hkA2] at G
  refine Za (Ya (rZ G (qg 2 106 r1 r1 (qa 106 r1 r1 (qu Yci r1 (qJ qZ)))) V [38,37,36,22,21,20,5,3,2,1] [106,105,104,103,102,101,1,0] fun G=>Yg ?_))
  refine Zj (σ:=(Nat)×(List (GE ZdU Int))×(Nat)) [1,2,3,5,20,21,22,36,37] [0,1,101,102,104,105,106] (fun s=>[(38,.pv (.int .i64 (s.1:Int)))]) (fun s=>[(103,.ob (.val v15) (ZbH (fun n:Int=>PV.int .i64 n) (fun k=>∀ x ∈ Ze4 k,inR .i64 x) (kvS Ze4) s.2.1 s.2.2))]) (fun s=>s.1≤(Nn g.txs i).ops.length∧(Zqx s.2.1 (lastK (g.txs.take i)++ZbS (Nn g.txs i).id ((Nn g.txs i).ops.take s.1)))) (fun s=>(Nn g.txs i).ops.length - s.1) ((0),(eB),(kB)) G ⟨rfl,rfl,rfl,rfl,rfl,rfl,rfl,rfl,rfl,rfl,tv⟩ ⟨rfl,rfl,rfl,rfl,rfl,rfl,rfl,rfl,tv⟩ ⟨Yy _,(by show Zqx _ (lastK (g.txs.take i) ++ []);rw [YR];exact hcn)⟩ ?_
  clear G;intro s a w F hC G
  obtain ⟨j,eB3,kB3⟩:=s
  try dsimp only at hC
  obtain ⟨F,G⟩:=G.nM [38,37,36,22,21,20,5,3,2,1] [106,105,104,103,102,101,1,0]
  try dsimp only at G
  obtain ⟨hi,hq⟩:=hC
  refine Ya (rZ G (qL r2) V [39,38,37,36,22,21,20,5,3,2,1] [106,105,104,103,102,101,1,0] fun G=>Ya ?_)
  refine Zc G Z (fun hc2=>?_) (fun hc2=>?_)
  ·have hil:j<(Nn g.txs i).ops.length:=by simp at hc2;omega
   refine Ye (Za (Ya (Yg (Ya (Zb G (qy 4 Yci r2 (qf (oR true 4 .t) r1 qz (qf (oH [.bool false,.int .i64 0,.int .i64 0,.int .i64 0] 107) trivial qz (qS 4 107 r2 r1 qZ)))) V [38,37,36,22,21,20,7,5,3,2,1] [107,106,105,104,103,102,101,1,0] (fun _=>rfl) (fun _=>rfl) fun τ a w F G=>?_)))))
   try dsimp only [RS.sub,SF.sub,CF.sub,csub,Anc.sub,List.map,Zf,xL,xM,Nat.reduceAdd,xD,xE,xT,xU,xC,xN,zCF,ldSF,Zu,rTx,ZG,ZT,Zm,rOp] at G
   generalize τ 7=v7 at G
   try simp only [Yb] at G
   refine Za (Ya (rZ G (qg 0 107 r1 r1 (qa 107 r1 r1 (qf (o_not .t) r1 qz qZ))) V [44,38,37,36,22,21,20,7,5,3,2,1] [107,106,105,104,103,102,101,1,0] fun G=>?_))
   refine Zc G Z (fun hc3=>?_) (fun hc3=>?_)
   ·have hrd:(Nn (Nn g.txs i).ops j).read=false:=by simpa using hc3
    replace G:=G.turnZ 103 (0) (⟨(Nn g.txs i).id,(Nn (Nn g.txs i).ops j).key⟩:ZdU) rfl
    refine Zbd 103 13 (m1:=1) (m2:=2) kr G kr (qR rr (qf (o_nilCheck 105 .is (by rfl)) r1 r1 (qf (oF 3 105 .adr) r1 r1 (qa 105 r1 r1 (qg 0 106 r1 r1 (qa 106 r1 r1 (qg 1 107 r1 r1 (qa 107 r1 r1 (qf (Zbr (sz:=1) (r:=[(0,.tmp 50),(1,.tmp 52)]) (zs:=[.int .i64 0,.int .i64 0]) (pl:=[(0,1),(1,1)]) Ycq kr kr Z (.one Z .t one_int kr (.one Z .t one_int kr .nil)) (by rfl)) r2 qz (qf (Zcg (ek:=(fun n:Int=>PV.int .i64 n)) (z0:=(0)) 103 Ycv Zg1 kr (fun _ _=>⟨rfl,ZcS⟩) .is (ZK.agg (enc:=Ze4) (k:=(⟨(Nn g.txs i).id,(Nn (Nn g.txs i).ops j).key⟩:ZdU)) (.pagg .t) Z)) r2 r1 (qp r1 (qf (Zbc (ek:=(fun n:Int=>PV.int .i64 n)) (z0:=(0)) 103 Ycv Zg1 kr (fun _ _=>⟨rfl,ZcS⟩) .is (ZK.agg (enc:=Ze4) (k:=(⟨(Nn g.txs i).id,(Nn (Nn g.txs i).ops j).key⟩:ZdU)) (.pagg .t) Z) (by intros;first | rfl | simp [Anc.v,upd])) r2 r1 (qf (o_extract .t Z) r1 qz (qf (ZaL 103 (ZbL _ _ _) .is .t .t) r3 r1 qZ)))))))))))))) kr kr kr Z Z Z (fun _ _ _ _ h=>.inr h) (by rw [V];kernel_rfl) fun a w F G=>?_
    obtain ⟨F,G⟩:=G.nM [38,37,36,22,21,20,5,3,2,1] [107,106,105,104,103,102,101,1,0]
    try dsimp only [List.map,Zf,xL,xM,Nat.reduceAdd,xD,xE,xT,xU,xC,xN,zCF,ldSF,Zu,rTx,ZG,ZT,Zm,rOp] at G
    obtain ⟨eB4,heB4⟩:∃ z,z=gSet (⟨(Nn g.txs i).id,(Nn (Nn g.txs i).ops j).key⟩:ZdU) (IntKind.wrap .i64 ((gGet (⟨(Nn g.txs i).id,(Nn (Nn g.txs i).ops j).key⟩:ZdU) eB3).getD 0+1)) (gEns 0 (⟨(Nn g.txs i).id,(Nn (Nn g.txs i).ops j).key⟩:ZdU) (eB3,kB3)).1:=⟨_,rfl⟩
    obtain ⟨kB4,hkB4⟩:∃ z,z=(gEns 0 (⟨(Nn g.txs i).id,(Nn (Nn g.txs i).ops j).key⟩:ZdU) (eB3,kB3)).2:=⟨_,rfl⟩
    rw [← heB4,← hkB4] at G
    have hR3:Zqx eB4 (lastK (g.txs.take i)++ZbS (Nn g.txs i).id ((Nn g.txs i).ops.take (j+1))):=by rw [heB4,Zgh hil,Yc (by rw [hrd];simp),← YN];exact ZtY hq (by have h1:=Zqr hs i;have h2:=Zhn (Nn g.txs i).id ((Nn g.txs i).ops.take j);rw [Yi] at h2;rw [Yd];omega)
    refine Zh (Za (rZ G (qp r1 (qR rr qZ)) V [38,37,36,22,21,20,5,3,2,1] [107,106,105,104,103,102,101,1,0] fun G=>?_))
    replace G:=G.ent (i:=38) (s':=.pv (.int .i64 ((j+1:Nat):Int))) Z (.int (Zd ow))
    obtain ⟨F,G⟩:=G.nM [37,36,22,21,20,5,3,2,1,38] [106,105,104,102,101,1,0,103]
    exact ⟨((j+1),(eB4),(kB4)),F,⟨by omega,hR3⟩,G,by omega⟩
   have hrd:(Nn (Nn g.txs i).ops j).read=true:=by simpa using hc3
   obtain ⟨eB4,heB4⟩:∃ z,z=eB3:=⟨_,rfl⟩
   obtain ⟨kB4,hkB4⟩:∃ z,z=kB3:=⟨_,rfl⟩
   rw [← heB4,← hkB4] at G
   have hR3:Zqx eB4 (lastK (g.txs.take i)++ZbS (Nn g.txs i).id ((Nn g.txs i).ops.take (j+1))):=by rw [heB4,Zgh hil,Yf hrd,YR];exact hq
   refine Ye (Zh (Za (rZ G (qp r1 (qR rr qZ)) V [38,37,36,22,21,20,5,3,2,1] [107,106,105,104,103,102,101,1,0] fun G=>?_)))
   replace G:=G.ent (i:=38) (s':=.pv (.int .i64 ((j+1:Nat):Int))) Z (.int (Zd ow))
   obtain ⟨F,G⟩:=G.nM [37,36,22,21,20,5,3,2,1,38] [106,105,104,102,101,1,0,103]
   exact ⟨((j+1),(eB4),(kB4)),F,⟨by omega,hR3⟩,G,by omega⟩
  have hil:j=(Nn g.txs i).ops.length:=by simp at hc2;omega
  rw [hil,Yz] at hq
  obtain ⟨eB2,heB2⟩:∃ z,z=eB3:=⟨_,rfl⟩
  obtain ⟨kB2,hkB2⟩:∃ z,z=kB3:=⟨_,rfl⟩
  rw [← heB2,← hkB2] at G
  have hR2:ZnD eA2 (Zdx (g.txs.take (i+1)))∧Zqx eB2 (lastK (g.txs.take (i+1))):=by rw [heA2,heB2,ZfS hio,Zhp hio,Yf hdn,Yf hdn];exact ⟨Zpx hdn0,hq⟩
  refine Yx (Zi (Zi (Zn (Zh (Za (rZ G (qp r1 (qR rr qZ)) V [22,21,20,3,2,1] [106,105,104,103,102,101,1,0] fun G=>?_))))))
  replace G:=G.ent (i:=22) (s':=.pv (.int .i64 ((i+1:Nat):Int))) Z (.int (Zd ow))
  obtain ⟨F,G⟩:=G.nM [21,20,3,2,1,22] [105,104,101,1,0,103,102]
  exact ⟨((i+1),(eA2),(kA2),(eB2),(kB2)),F,⟨by omega,hR2⟩,G,by omega⟩
 have hil:i=g.txs.length:=by simp at hc0;omega
 rw [hil,Yz] at hq
 have hdA:=hq.1
 have hdB:=hq.2
 refine Yx (Zi (Zi (Zn (Za (Ya (Ya (rZ G (qg 1 101 r1 r1 (qa 101 r1 r1 (qu Ycf r1 (qJ qZ)))) V [63,62,61,3,2] [105,104,103,102,101,1,0] fun G=>Yg ?_)))))))
 refine Zj (σ:=(Nat)×(List (GE ZdU Int))×(Nat)) [2,3,61,62] [0,1,101,102,103,105] (fun s=>[(63,.pv (.int .i64 (s.1:Int)))]) (fun s=>[(104,.ob (.val v16) (ZbH (fun n:Int=>PV.int .i64 n) (fun k=>∀ x ∈ Ze4 k,inR .i64 x) (kvS Ze4) s.2.1 s.2.2))]) (fun s=>s.1≤g.orders.length∧(ZnD s.2.1 (nxA (g.orders.take s.1)))) (fun s=>g.orders.length - s.1) ((0),([]),(0)) G ⟨rfl,rfl,rfl,rfl,rfl,tv⟩ ⟨rfl,rfl,rfl,rfl,rfl,rfl,rfl,tv⟩ ⟨Yy _,(fun _=>rfl)⟩ ?_
 clear G;intro s a w F hC G
 obtain ⟨i,eC,kC⟩:=s
 try dsimp only at hC
 obtain ⟨F,G⟩:=G.nM [63,62,61,3,2] [105,104,103,102,101,1,0]
 try dsimp only at G
 obtain ⟨hi,hq⟩:=hC
 have hol:=fun hil:i<g.orders.length=>hso.at hil
 refine Ya (rZ G (qL r2) V [64,63,62,61,3,2] [105,104,103,102,101,1,0] fun G=>Ya ?_)
 refine Zc G Z (fun hc4=>?_) (fun hc4=>?_)
 ·have hil:i<g.orders.length:=by simp at hc4;omega
  have hio:=hil
  have hcn:=hq
  have hox:=hol hil
  have hol1:=hso.1
  refine Ye (Za (Ya (Yg (Ya (Zb G (qy 2 Ycf r2 (qf (oR true 2 .t) r1 qz (qf (oH [.int .i64 0,.slice none 0 0] 108) trivial qz (qS 2 108 r2 r1 qZ)))) V [63,62,61,9,3,2] [108,105,104,103,102,101,1,0] (fun _=>rfl) (fun _=>rfl) fun τ a w F G=>?_)))))
  try dsimp only [RS.sub,SF.sub,CF.sub,csub,Anc.sub,List.map,Zf,xL,xM,Nat.reduceAdd,xD,xE,xT,xU,xC,xN,zCF,ldSF,Zu,rTx,ZG,ZT,Zm,rOp] at G
  generalize τ 9=v9 at G
  try simp only [Yb] at G
  refine Za (Ya (rZ G (qI qZ) V [63,62,61,10,9,3,2] [108,105,104,103,102,101,1,0] fun G=>Ya ?_))
  refine rZ G (qg 1 108 r1 r1 (qa 108 r1 r1 (qu Ycd r1 (qJ qZ)))) V [70,69,68,63,62,61,10,9,3,2] [108,105,104,103,102,101,1,0] fun G=>Yg ?_
  replace G:=G.ent (i:=10) (s':=.pv (.int .i64 (atI (Nn g.orders i).txs 0))) Z (.int Z)
  refine Zj (σ:=(Nat)×(List (GE ZdU Int))×(Nat)) [2,3,9,61,62,63,68,69] [0,1,101,102,103,105,108] (fun s=>[(70,.pv (.int .i64 (s.1:Int))),(10,.pv (.int .i64 (atI (Nn g.orders i).txs s.1)))]) (fun s=>[(104,.ob (.val v16) (ZbH (fun n:Int=>PV.int .i64 n) (fun k=>∀ x ∈ Ze4 k,inR .i64 x) (kvS Ze4) s.2.1 s.2.2))]) (fun s=>s.1≤(Nn g.orders i).txs.length∧(ZnD s.2.1 (nxA (g.orders.take i)++nxO (Nn g.orders i) s.1))) (fun s=>(Nn g.orders i).txs.length - s.1) ((0),(eC),(kC)) G ⟨rfl,rfl,rfl,rfl,rfl,rfl,rfl,rfl,rfl,rfl,tv⟩ ⟨rfl,rfl,rfl,rfl,rfl,rfl,rfl,rfl,tv⟩ ⟨Yy _,(by show ZnD _ (nxA (g.orders.take i) ++ []);rw [YR];exact hcn)⟩ ?_
  clear G;intro s a w F hC G
  obtain ⟨j,eC3,kC3⟩:=s
  try dsimp only at hC
  obtain ⟨F,G⟩:=G.nM [70,69,68,63,62,61,10,9,3,2] [108,105,104,103,102,101,1,0]
  try dsimp only at G
  obtain ⟨hi,hq⟩:=hC
  refine Ya (rZ G (qL r2) V [71,70,69,68,63,62,61,10,9,3,2] [108,105,104,103,102,101,1,0] fun G=>Ya ?_)
  refine Zc G Z (fun hc5=>?_) (fun hc5=>?_)
  ·have hil:j<(Nn g.orders i).txs.length:=by simp at hc5;omega
   refine Ye (Za (Ya (Yg (Ya (Ze G (qy 1 Ycd r2 (qf (oR false 1 .t) r1 qz (qO rr qZ))) V [70,69,68,63,62,61,12,10,9,3,2] [108,105,104,103,102,101,1,0] Z Z fun a w F G=>?_)))))
   try simp only [Yb] at G
   refine Za (Ya (Zv G (qR rr (qf (o_nilCheck 105 .is (by rfl)) r1 r1 (qf (oF 4 105 .adr) r1 r1 (qa 105 r1 r1 (qg 0 108 r1 r1 (qa 108 r1 r1 (qR rr (qf (Zbr (sz:=1) (r:=[(0,.tmp 79),(1,.tmp 80)]) (zs:=[.int .i64 0,.int .i64 0]) (pl:=[(0,1),(1,1)]) Ycq kr kr Z (.one Z .t one_int kr (.one Z .t one_int kr .nil)) (by rfl)) r2 qz (qR rr (qf (o_mapUpdateG (ek:=(fun n:Int=>PV.int .i64 n)) 104 Ycv Zg1 .is (ZK.agg (enc:=Ze4) (k:=(⟨(Nn g.orders i).key,atI (Nn g.orders i).txs j⟩:ZdU)) (.pagg .t) Z) .t) r3 r1 qZ)))))))))) V [70,69,68,63,62,61,12,10,9,3,2] [108,105,104,103,102,101,1,0] Z Z fun a w F G=>?_))
   try dsimp only [List.map,Zf,xL,xM,Nat.reduceAdd,xD,xE,xT,xU,xC,xN,zCF,ldSF,Zu,rTx,ZG,ZT,Zm,rOp] at G
   obtain ⟨eC4,heC4⟩:∃ z,z=(gPut (⟨(Nn g.orders i).key,atI (Nn g.orders i).txs j⟩:ZdU) (Nn (Nn g.orders i).txs j) (eC3,kC3)).1:=⟨_,rfl⟩
   obtain ⟨kC4,hkC4⟩:∃ z,z=(gPut (⟨(Nn g.orders i).key,atI (Nn g.orders i).txs j⟩:ZdU) (Nn (Nn g.orders i).txs j) (eC3,kC3)).2:=⟨_,rfl⟩
   rw [← heC4,← hkC4] at G
   have hR3:ZnD eC4 (nxA (g.orders.take i)++nxO (Nn g.orders i) (j+1)):=by rw [heC4,ZrC,← YN];exact Zpx hq
   refine Za (Ze G (qR rr (qO rr qZ)) V [70,69,68,63,62,61,10,9,3,2] [108,105,104,103,102,101,1,0] Z Z fun a w F G=>Zh (Za ?_))
   refine rZ G (qp r1 (qR rr qZ)) V [70,69,68,63,62,61,10,9,3,2] [108,105,104,103,102,101,1,0] fun G=>?_
   replace G:=G.ent (i:=70) (s':=.pv (.int .i64 ((j+1:Nat):Int))) Z (.int (Zd ow))
   replace G:=G.ent (i:=10) (s':=.pv (.int .i64 (atI (Nn g.orders i).txs (j+1)))) Z (.int (by simp [atI]))
   obtain ⟨F,G⟩:=G.nM [69,68,63,62,61,9,3,2,10,70] [108,105,103,102,101,1,0,104]
   exact ⟨((j+1),(eC4),(kC4)),F,⟨by omega,hR3⟩,G,by omega⟩
  have hil:j=(Nn g.orders i).txs.length:=by simp at hc5;omega
  rw [hil] at hq
  obtain ⟨eC2,heC2⟩:∃ z,z=eC3:=⟨_,rfl⟩
  obtain ⟨kC2,hkC2⟩:∃ z,z=kC3:=⟨_,rfl⟩
  rw [← heC2,← hkC2] at G
  have hR2:ZnD eC2 (nxA (g.orders.take (i+1))):=by rw [heC2,Zsi hio];exact hq
  refine Yx (Zi (Zi (Zn (Zh (Za (rZ G (qp r1 (qR rr qZ)) V [63,62,61,3,2] [108,105,104,103,102,101,1,0] fun G=>?_))))))
  replace G:=G.ent (i:=63) (s':=.pv (.int .i64 ((i+1:Nat):Int))) Z (.int (Zd ow))
  obtain ⟨F,G⟩:=G.nM [62,61,3,2,63] [105,103,102,101,1,0,104]
  exact ⟨((i+1),(eC2),(kC2)),F,⟨by omega,hR2⟩,G,by omega⟩
 have hil:i=g.orders.length:=by simp at hc4;omega
 rw [hil,Yz] at hq
 have hdC:=hq
 refine Yx (Zi (Zi (Zn (Za (Ya (rZ G (qR rr (qO rr qZ)) V [2] [105,104,103,102,101,1,0] fun G=>Yh ?_))))))
 obtain ⟨b,rfl⟩:=G.shape 105 rfl
 obtain ⟨F,G⟩:=G.push 1 104 Z Z Z kr
 obtain ⟨F,G⟩:=G.push 1 103 Z Z Z kr
 obtain ⟨F,G⟩:=G.push 1 102 Z Z Z kr
 obtain ⟨F,G⟩:=G.push 1 105 Z Z Z kr
 have G:=G.turn 1 Z (r':=RS.hp (ZnC g (.pointer (some ⟨b,0,none⟩)))) (fun _ _ _ _ h=>⟨(⟨v14,v15,v16,eA,kA,eB,kB,eC,kC⟩:FS),⟨hdA,hdB,hdC⟩,h⟩)
 refine Z2 (h':=fun v=>ZnC g v) hG G Z (.tmp Z .nil) (.one .ptr) rfl
theorem Zgq {P:Program} {B:Zbn} {F0:Fp} (hG:ZmP B F0 2) {E:En} {a:Act} {w:World} {F:Fp} {fn:Func} {q:PV} {k1 k2:HP} {ss:List SF} (G:Sat B E a w F) (h0:Go.Gm.look E.r 0=some (frame B)) (hr:ROk P E fn.results.toList ss) (hq:Za9 ss q)
  (h1:Go.Gm.look E.r 1=some (RS.hp k1)) (h2:Go.Gm.look E.r 2=some (RS.hp k2)):bodyPost P fn (RG B F0 2 q (fun _=>[k1,k2])) .ret a w:=
 Zsu hG G h0 hr hq fun v τ y hv i h hi=>by
  match i,hi with
  | 0,hi=>simp at hi;subst hi;exact ⟨_,h1,by omega,fun _ _ _ h=>h⟩
  | 1,hi=>simp at hi;subst hi;exact ⟨_,h2,by omega,fun _ _ _ h=>h⟩
theorem Zuz (b:Nat) (g:Zp) (t:TxD) (o:OpD) (mv:Value) (AA:List (Zg×Int)) (RR:List Zg) (hRR:RR.length≤10000000):FnG prog 136 2 [.is (.pointer (some ⟨b,0,none⟩)),.agg (rTx t),.agg (rOp o),.is mv] [ZnC g (.pointer (some ⟨b,0,none⟩)),Zgf AA RR mv] (.tup []) (fun _=>[ZnC g (.pointer (some ⟨b,0,none⟩)),Zgf AA (RR++rdO g t o) mv]):=by
 refine FnG.mk func136 Z ntmps136 Z kr fun B F0 a w F V hG G=>?_
 obtain ⟨⟨mA,mB,mC,eA,kA,eB,kB,eC,kC⟩,G⟩:=G.open_ex 1 rfl
 obtain ⟨hI,G⟩:=G.open_and 1 rfl
 try dsimp only [Zs3] at G
 obtain ⟨F,G⟩:=G.peel 1 3 Z rfl
 obtain ⟨F,G⟩:=G.peel 1 4 Z rfl
 obtain ⟨F,G⟩:=G.peel 1 5 Z rfl
 obtain ⟨F,G⟩:=G.peel 1 6 Z rfl
 obtain ⟨⟨es,ck⟩,G⟩:=G.open_ex 2 rfl
 obtain ⟨hq0,G⟩:=G.open_and 2 rfl
 replace G:=G.turn 2 Z (r':=.ob (.val mv) (ZbH (fun n:Int=>PV.int .i64 n) (fun k=>∀ x ∈ Zao k,inR .i64 x) (kvS Zao) es ck)) (fun _ _ _ _ h=>h)
 try dsimp only at hI hq0
 obtain ⟨F,G⟩:=G.nM [3,2,1,0] [6,5,4,3,2,0]
 refine Ya (Zb G (qx 101 r1 (qx 102 r1 qZ)) V [6,5,3,0] [102,101,6,5,4,3,2,0] (fun _=>rfl) (fun _=>rfl) fun τ a w F G=>?_)
 try dsimp only [RS.sub,SF.sub,CF.sub,csub,Anc.sub,List.map,zCF,Zu,rTx,ZG,ZT,Zm,rOp] at G
 generalize τ 5=v5,τ 6=v6 at G
 refine Za (Ya (Ya (Zv G (qg 2 102 r1 r1 (qa 102 r1 r1 (qg 0 101 r1 r1 (qa 101 r1 r1 (qf (o_eql .t .t) r2 qz (qR rr (qv 2 102 Z r2 r1 (qw 102 Z r2 r1 (qk Z (fun h=>o_neq (.w h) qi) r2 qz (qk Z (fun h=>oM (.w h)) r2 qz (ZA.cons (ZaE.cond2 Z Z (fun h=>Za2 .t (by rfl))) r2 qz (ZA.cons (ZaE.cond2 Z Z (fun h=>o_nilCheck 3 (.w h .is) (by rfl))) r2 r1 (ZA.cons (ZaE.cond2 Z Z (fun h=>Z8 (off:=2) 3 (.w h .adr) kr (by rfl))) r2 r1 (ZA.cons (ZaE.cond2 Z Z (fun h=>ZbT (ag:=false) (sz:=1) 3 (.w h .adr) kr kr kr (by rfl))) r2 r1 (ZA.cons (ZaE.cond2 Z Z (fun h=>Z8 (off:=2) 102 .is kr (by rfl))) r2 r1 (ZA.cons (ZaE.cond2 Z Z (fun h=>ZbT (ag:=false) (sz:=1) 102 (.w h .adr) kr kr kr (by rfl))) r2 r1 (ZA.cons (ZaE.cond2 Z Z (fun h=>Zat (ek:=(fun n:Int=>PV.int .i64 n)) (z0:=(0)) 4 underlying75 (ZcE Ycl) kr (fun _ _=>⟨rfl,ZcS⟩) (.w h .is) (ZK.int (.w h) Z))) r3 r1 (ZA.cons (ZaE.cond2 Z Z (fun h=>o_eql (.w h) qi)) r2 qz (ZA.cons (ZaE.cond2 Z Z (fun h=>Za2 (.w h) (by rfl))) r2 qz (ZA.cons (ZaE.cond2 Z Z (fun h=>Za2 .t (by rfl))) r2 qz (ZA.cons (ZaE.cond2 Z Z (fun h=>o_nilCheck 3 (.w h .is) (by rfl))) r2 r1 (ZA.cons (ZaE.cond2 Z Z (fun h=>Z8 (off:=3) 3 (.w h .adr) kr (by rfl))) r2 r1 (ZA.cons (ZaE.cond2 Z Z (fun h=>ZbT (ag:=false) (sz:=1) 3 (.w h .adr) kr kr kr (by rfl))) r2 r1 (ZA.cons (ZaE.cond2 Z Z (fun h=>Z8 (off:=2) 102 .is kr (by rfl))) r2 r1 (ZA.cons (ZaE.cond2 Z Z (fun h=>ZbT (ag:=false) (sz:=1) 102 (.w h .adr) kr kr kr (by rfl))) r2 r1 (ZA.cons (ZaE.cond2 Z Z (fun h=>Z8 (off:=1) 102 .is kr (by rfl))) r2 r1 (ZA.cons (ZaE.cond2 Z Z (fun h=>ZbT (ag:=false) (sz:=1) 102 (.w h .adr) kr kr kr (by rfl))) r2 r1 (ZA.cons (ZaE.cond2 Z Z (fun h=>Zbr (sz:=1) (r:=[(0,.tmp 33),(1,.tmp 35)]) (zs:=[.int .i64 0,.int .i64 0]) (pl:=[(0,1),(1,1)]) Ycq kr kr Z (.one Z (.w h) one_int kr (.one Z (.w h) one_int kr .nil)) (by rfl))) r3 qz (ZA.cons (ZaE.cond2 Z Z (fun h=>Zat (ek:=(fun n:Int=>PV.int .i64 n)) (z0:=(0)) 5 Ycv Zg1 kr (fun _ _=>⟨rfl,ZcS⟩) (.w h .is) (ZK.agg (enc:=Ze4) (k:=(⟨o.tx,o.key⟩:ZdU)) (.pagg (.w h)) Z))) r3 r1 (ZA.cons (ZaE.cond2 Z Z (fun h=>Z8 (off:=3) 102 .is kr (by rfl))) r2 r1 (ZA.cons (ZaE.cond2 Z Z (fun h=>ZbT (ag:=false) (sz:=1) 102 (.w h .adr) kr kr kr (by rfl))) r2 r1 (ZA.cons (ZaE.cond2 Z Z (fun h=>o_neq (.w h) (.w h))) r3 qz (ZA.cons (ZaE.cond2 Z Z (fun h=>Zal (.w h) (.wc h))) r3 qz (qk Z (fun h=>ZD (.w h) (.wc h)) r3 qz (qf (Zal .t .t) r2 qz qZ))))))))))))))))))))))))))))))))))) V [43,6,5,3,0] [102,101,6,5,4,3,2,0] Z Z fun a w F G=>?_)))
 try dsimp only [List.map,Zf,xL,xM,Nat.reduceAdd,xD,xE,xT,xU,xC,xN,zCF,ldSF,Zu,rTx,ZG,ZT,Zm,rOp] at G
 refine Za (Zc G Z (fun hc0=>?_) (fun hc0=>?_))
 ·have hno:ZsQ g t o=true:=by unfold ZsQ Zjv Znd;rw [← hI.dn,← hI.la];simpa using hc0
  obtain ⟨es3,hes3⟩:∃ z,z=es:=⟨_,rfl⟩
  obtain ⟨ck3,hck3⟩:∃ z,z=ck:=⟨_,rfl⟩
  rw [← hes3,← hck3] at G
  have hR9:Zhv es3 AA (RR++rdO g t o):=by rw [hes3];unfold rdO;rw [Yf hno,YR];exact hq0
  refine Yh (Zk ?_)
  have G:=G.fresh 1 rfl
  obtain ⟨F,G⟩:=G.push 1 6 Z Z Z kr
  obtain ⟨F,G⟩:=G.push 1 5 Z Z Z kr
  obtain ⟨F,G⟩:=G.push 1 4 Z Z Z kr
  obtain ⟨F,G⟩:=G.push 1 3 Z Z Z kr
  have G:=G.turn 1 Z (r':=RS.hp (ZnC g (.pointer (some ⟨b,0,none⟩)))) (fun _ _ _ _ h=>⟨(⟨mA,mB,mC,eA,kA,eB,kB,eC,kC⟩:FS),hI,h⟩)
  have G:=G.turn 2 Z (r':=RS.hp (Zgf AA (RR++rdO g t o) mv)) (fun _ _ _ _ h=>⟨(es3,ck3),hR9,h⟩)
  refine Zgq hG G Z .nil Za9.none Z rfl
 have hno:ZsQ g t o=false:=by unfold ZsQ Zjv Znd;rw [← hI.dn,← hI.la];simpa using hc0
 refine Ye (Za (Ya (Ya (rZ G (qg 2 102 r1 r1 (qa 102 r1 r1 (qf (o_neq .t qi) r1 qz qZ))) V [46,6,5,3,0] [102,101,6,5,4,3,2,0] fun G=>?_))))
 refine Zc G Z (fun hc1=>?_) (fun hc1=>?_)
 ·have h0:¬ o.tx=0:=by simpa using hc1
  replace G:=G.turnZ 2 (0) (⟨o.tx,t.id,2,o.key⟩:Zg) rfl
  refine Zbd 2 12 (m1:=1) (m2:=2) kr G kr (qR rr (qg 2 102 r1 r1 (qa 102 r1 r1 (qg 0 101 r1 r1 (qa 101 r1 r1 (qg 1 102 r1 r1 (qa 102 r1 r1 (qf (oB [(0,.tmp 49),(1,.tmp 51),(2,_),(3,.tmp 53)] [.int .i64 0,.int .i64 0,.int .i64 0,.int .i64 0] [(0,1),(1,1),(2,1),(3,1)] (.one Z .t one_int kr (.one Z .t one_int kr (.one Z qi one_int kr (.one Z .t one_int kr .nil))))) r3 qz (qf (Zcg (ek:=(fun n:Int=>PV.int .i64 n)) (z0:=(0)) 2 Ycr Zc1 kr (fun _ _=>⟨rfl,ZcS⟩) .is (ZK.agg (enc:=Zao) (k:=(⟨o.tx,t.id,2,o.key⟩:Zg)) (.pagg .t) Z)) r2 r1 (qp r1 (qf (Zbc (ek:=(fun n:Int=>PV.int .i64 n)) (z0:=(0)) 2 Ycr Zc1 kr (fun _ _=>⟨rfl,ZcS⟩) .is (ZK.agg (enc:=Zao) (k:=(⟨o.tx,t.id,2,o.key⟩:Zg)) (.pagg .t) Z) (by intros;first | rfl | simp [Anc.v,upd])) r2 r1 (qf (o_extract .t Z) r1 qz (qf (ZaL 2 (ZbL _ _ _) .is .t .t) r3 r1 qZ))))))))))))) kr kr kr Z Z Z (fun _ _ _ _ h=>.inr h) (by rw [V];kernel_rfl) fun a w F G=>?_
  obtain ⟨F,G⟩:=G.nM [6,5,3,0] [102,101,6,5,4,3,2,0]
  try dsimp only [List.map,Zf,xL,xM,Nat.reduceAdd,xD,xE,xT,xU,xC,xN,zCF,ldSF,Zu,rTx,ZG,ZT,Zm,rOp] at G
  obtain ⟨es2,hes2⟩:∃ z,z=gSet (⟨o.tx,t.id,2,o.key⟩:Zg) (IntKind.wrap .i64 ((gGet (⟨o.tx,t.id,2,o.key⟩:Zg) es).getD 0+1)) (gEns 0 (⟨o.tx,t.id,2,o.key⟩:Zg) (es,ck)).1:=⟨_,rfl⟩
  obtain ⟨ck2,hck2⟩:∃ z,z=(gEns 0 (⟨o.tx,t.id,2,o.key⟩:Zg) (es,ck)).2:=⟨_,rfl⟩
  rw [← hes2,← hck2] at G
  have hR2:Zhv es2 AA (RR++rdA t o):=by rw [hes2];unfold rdA;rw [Yc h0];exact ZkK hq0 ow
  refine Za (Ya (Zv G (qR rr (qf (o_nilCheck 3 .is (by rfl)) r1 r1 (qf (oF 4 3 .adr) r1 r1 (qa 3 r1 r1 (qg 1 102 r1 r1 (qa 102 r1 r1 (qg 2 102 r1 r1 (qa 102 r1 r1 (qf (Zbr (sz:=1) (r:=[(0,.tmp 64),(1,.tmp 66)]) (zs:=[.int .i64 0,.int .i64 0]) (pl:=[(0,1),(1,1)]) Ycq kr kr Z (.one Z .t one_int kr (.one Z .t one_int kr .nil)) (by rfl)) r2 qz (qf (Zat (ek:=(fun n:Int=>PV.int .i64 n)) (z0:=(0)) 6 Ycv Zg1 kr (fun _ _=>⟨rfl,ZcS⟩) .is (ZK.agg (enc:=Ze4) (k:=(⟨o.key,o.tx⟩:ZdU)) (.pagg .t) Z)) r2 r1 (qO rr qZ))))))))))) V [8,6,5,3] [102,101,6,5,4,3,2,0] Z Z fun a w F G=>?_))
  try dsimp only [List.map,Zf,xL,xM,Nat.reduceAdd,xD,xE,xT,xU,xC,xN,zCF,ldSF,Zu,rTx,ZG,ZT,Zm,rOp] at G
  rw [show (gGet (⟨o.key,o.tx⟩:ZdU) eC).getD 0=(nxI g o.key o.tx) from hI.nx _] at G
  refine Za (Ya (rZ G (qR rr (qf (o_neq .t qi) r1 qz (qR rr (qm Z Z Z Z (qv 0 101 Z r2 r1 (qw 101 Z r2 r1 (qk Z (fun h=>o_neq (.w h) (.w h)) r3 qz (qf (ZD .t .t) r2 qz qZ)))))))) V [76,8,6,5,3] [102,101,6,5,4,3,2,0] fun G=>?_))
  refine Zc G Z (fun hc2=>?_) (fun hc2=>?_)
  ·have h1:(nxI g o.key o.tx)≠0∧(nxI g o.key o.tx)≠t.id:=by simpa using hc2
   replace G:=G.turnZ 2 (0) (⟨t.id,(nxI g o.key o.tx),3,o.key⟩:Zg) rfl
   refine Zbd 2 11 (m1:=1) (m2:=2) kr G kr (qR rr (qg 0 101 r1 r1 (qa 101 r1 r1 (qR rr (qg 1 102 r1 r1 (qa 102 r1 r1 (qf (oB [(0,.tmp 79),(1,.tmp 80),(2,_),(3,.tmp 82)] [.int .i64 0,.int .i64 0,.int .i64 0,.int .i64 0] [(0,1),(1,1),(2,1),(3,1)] (.one Z .t one_int kr (.one Z .t one_int kr (.one Z qi one_int kr (.one Z .t one_int kr .nil))))) r3 qz (qf (Zcg (ek:=(fun n:Int=>PV.int .i64 n)) (z0:=(0)) 2 Ycr Zc1 kr (fun _ _=>⟨rfl,ZcS⟩) .is (ZK.agg (enc:=Zao) (k:=(⟨t.id,(nxI g o.key o.tx),3,o.key⟩:Zg)) (.pagg .t) Z)) r2 r1 (qp r1 (qf (Zbc (ek:=(fun n:Int=>PV.int .i64 n)) (z0:=(0)) 2 Ycr Zc1 kr (fun _ _=>⟨rfl,ZcS⟩) .is (ZK.agg (enc:=Zao) (k:=(⟨t.id,(nxI g o.key o.tx),3,o.key⟩:Zg)) (.pagg .t) Z) (by intros;first | rfl | simp [Anc.v,upd])) r2 r1 (qf (o_extract .t Z) r1 qz (qf (ZaL 2 (ZbL _ _ _) .is .t .t) r3 r1 qZ)))))))))))) kr kr kr Z Z Z (fun _ _ _ _ h=>.inr h) (by rw [V];kernel_rfl) fun a w F G=>?_
   obtain ⟨F,G⟩:=G.nM [] [102,101,6,5,4,3,2,0]
   try dsimp only [List.map,Zf,xL,xM,Nat.reduceAdd,xD,xE,xT,xU,xC,xN,zCF,ldSF,Zu,rTx,ZG,ZT,Zm,rOp] at G
   obtain ⟨es3,hes3⟩:∃ z,z=gSet (⟨t.id,(nxI g o.key o.tx),3,o.key⟩:Zg) (IntKind.wrap .i64 ((gGet (⟨t.id,(nxI g o.key o.tx),3,o.key⟩:Zg) es2).getD 0+1)) (gEns 0 (⟨t.id,(nxI g o.key o.tx),3,o.key⟩:Zg) (es2,ck2)).1:=⟨_,rfl⟩
   obtain ⟨ck3,hck3⟩:∃ z,z=(gEns 0 (⟨t.id,(nxI g o.key o.tx),3,o.key⟩:Zg) (es2,ck2)).2:=⟨_,rfl⟩
   rw [← hes3,← hck3] at G
   have hR9:Zhv es3 AA (RR++rdO g t o):=by rw [hes3];unfold rdO;rw [Yc (by rw [hno];simp)];unfold rdB;rw [Yf h1,← YN];exact ZkK hR2 (by have h9:(rdA t o).length≤1:=by { unfold rdA;split <;> simp };rw [Yd];omega)
   have G:=G.fresh 1 rfl
   obtain ⟨F,G⟩:=G.push 1 6 Z Z Z kr
   obtain ⟨F,G⟩:=G.push 1 5 Z Z Z kr
   obtain ⟨F,G⟩:=G.push 1 4 Z Z Z kr
   obtain ⟨F,G⟩:=G.push 1 3 Z Z Z kr
   have G:=G.turn 1 Z (r':=RS.hp (ZnC g (.pointer (some ⟨b,0,none⟩)))) (fun _ _ _ _ h=>⟨(⟨mA,mB,mC,eA,kA,eB,kB,eC,kC⟩:FS),hI,h⟩)
   have G:=G.turn 2 Z (r':=RS.hp (Zgf AA (RR++rdO g t o) mv)) (fun _ _ _ _ h=>⟨(es3,ck3),hR9,h⟩)
   refine Zgq hG G Z .nil Za9.none Z rfl
  have h1:¬ ((nxI g o.key o.tx)≠0∧(nxI g o.key o.tx)≠t.id):=by simpa using hc2
  obtain ⟨es3,hes3⟩:∃ z,z=es2:=⟨_,rfl⟩
  obtain ⟨ck3,hck3⟩:∃ z,z=ck2:=⟨_,rfl⟩
  rw [← hes3,← hck3] at G
  have hR9:Zhv es3 AA (RR++rdO g t o):=by rw [hes3];unfold rdO;rw [Yc (by rw [hno];simp)];unfold rdB;rw [Yc h1,YR];exact hR2
  refine Ye ?_
  have G:=G.fresh 1 rfl
  obtain ⟨F,G⟩:=G.push 1 6 Z Z Z kr
  obtain ⟨F,G⟩:=G.push 1 5 Z Z Z kr
  obtain ⟨F,G⟩:=G.push 1 4 Z Z Z kr
  obtain ⟨F,G⟩:=G.push 1 3 Z Z Z kr
  have G:=G.turn 1 Z (r':=RS.hp (ZnC g (.pointer (some ⟨b,0,none⟩)))) (fun _ _ _ _ h=>⟨(⟨mA,mB,mC,eA,kA,eB,kB,eC,kC⟩:FS),hI,h⟩)
  have G:=G.turn 2 Z (r':=RS.hp (Zgf AA (RR++rdO g t o) mv)) (fun _ _ _ _ h=>⟨(es3,ck3),hR9,h⟩)
  refine Zgq hG G Z .nil Za9.none Z rfl
 have h0:o.tx=0:=by simpa using hc1
 obtain ⟨es2,hes2⟩:∃ z,z=es:=⟨_,rfl⟩
 obtain ⟨ck2,hck2⟩:∃ z,z=ck:=⟨_,rfl⟩
 rw [← hes2,← hck2] at G
 have hR2:Zhv es2 AA (RR++rdA t o):=by rw [hes2];unfold rdA;rw [Yf h0,YR];exact hq0
 refine Ye (Za (Ya (Zv G (qR rr (qf (o_nilCheck 3 .is (by rfl)) r1 r1 (qf (oF 4 3 .adr) r1 r1 (qa 3 r1 r1 (qg 1 102 r1 r1 (qa 102 r1 r1 (qg 2 102 r1 r1 (qa 102 r1 r1 (qf (Zbr (sz:=1) (r:=[(0,.tmp 64),(1,.tmp 66)]) (zs:=[.int .i64 0,.int .i64 0]) (pl:=[(0,1),(1,1)]) Ycq kr kr Z (.one Z .t one_int kr (.one Z .t one_int kr .nil)) (by rfl)) r2 qz (qf (Zat (ek:=(fun n:Int=>PV.int .i64 n)) (z0:=(0)) 6 Ycv Zg1 kr (fun _ _=>⟨rfl,ZcS⟩) .is (ZK.agg (enc:=Ze4) (k:=(⟨o.key,o.tx⟩:ZdU)) (.pagg .t) Z)) r2 r1 (qO rr qZ))))))))))) V [8,6,5,3] [102,101,6,5,4,3,2,0] Z Z fun a w F G=>?_)))
 try dsimp only [List.map,Zf,xL,xM,Nat.reduceAdd,xD,xE,xT,xU,xC,xN,zCF,ldSF,Zu,rTx,ZG,ZT,Zm,rOp] at G
 rw [show (gGet (⟨o.key,o.tx⟩:ZdU) eC).getD 0=(nxI g o.key o.tx) from hI.nx _] at G
 refine Za (Ya (rZ G (qR rr (qf (o_neq .t qi) r1 qz (qR rr (qm Z Z Z Z (qv 0 101 Z r2 r1 (qw 101 Z r2 r1 (qk Z (fun h=>o_neq (.w h) (.w h)) r3 qz (qf (ZD .t .t) r2 qz qZ)))))))) V [76,8,6,5,3] [102,101,6,5,4,3,2,0] fun G=>?_))
 refine Zc G Z (fun hc3=>?_) (fun hc3=>?_)
 ·have h1:(nxI g o.key o.tx)≠0∧(nxI g o.key o.tx)≠t.id:=by simpa using hc3
  replace G:=G.turnZ 2 (0) (⟨t.id,(nxI g o.key o.tx),3,o.key⟩:Zg) rfl
  refine Zbd 2 11 (m1:=1) (m2:=2) kr G kr (qR rr (qg 0 101 r1 r1 (qa 101 r1 r1 (qR rr (qg 1 102 r1 r1 (qa 102 r1 r1 (qf (oB [(0,.tmp 79),(1,.tmp 80),(2,_),(3,.tmp 82)] [.int .i64 0,.int .i64 0,.int .i64 0,.int .i64 0] [(0,1),(1,1),(2,1),(3,1)] (.one Z .t one_int kr (.one Z .t one_int kr (.one Z qi one_int kr (.one Z .t one_int kr .nil))))) r3 qz (qf (Zcg (ek:=(fun n:Int=>PV.int .i64 n)) (z0:=(0)) 2 Ycr Zc1 kr (fun _ _=>⟨rfl,ZcS⟩) .is (ZK.agg (enc:=Zao) (k:=(⟨t.id,(nxI g o.key o.tx),3,o.key⟩:Zg)) (.pagg .t) Z)) r2 r1 (qp r1 (qf (Zbc (ek:=(fun n:Int=>PV.int .i64 n)) (z0:=(0)) 2 Ycr Zc1 kr (fun _ _=>⟨rfl,ZcS⟩) .is (ZK.agg (enc:=Zao) (k:=(⟨t.id,(nxI g o.key o.tx),3,o.key⟩:Zg)) (.pagg .t) Z) (by intros;first | rfl | simp [Anc.v,upd])) r2 r1 (qf (o_extract .t Z) r1 qz (qf (ZaL 2 (ZbL _ _ _) .is .t .t) r3 r1 qZ)))))))))))) kr kr kr Z Z Z (fun _ _ _ _ h=>.inr h) (by rw [V];kernel_rfl) fun a w F G=>?_
  obtain ⟨F,G⟩:=G.nM [] [102,101,6,5,4,3,2,0]
  try dsimp only [List.map,Zf,xL,xM,Nat.reduceAdd,xD,xE,xT,xU,xC,xN,zCF,ldSF,Zu,rTx,ZG,ZT,Zm,rOp] at G
  obtain ⟨es3,hes3⟩:∃ z,z=gSet (⟨t.id,(nxI g o.key o.tx),3,o.key⟩:Zg) (IntKind.wrap .i64 ((gGet (⟨t.id,(nxI g o.key o.tx),3,o.key⟩:Zg) es2).getD 0+1)) (gEns 0 (⟨t.id,(nxI g o.key o.tx),3,o.key⟩:Zg) (es2,ck2)).1:=⟨_,rfl⟩
  obtain ⟨ck3,hck3⟩:∃ z,z=(gEns 0 (⟨t.id,(nxI g o.key o.tx),3,o.key⟩:Zg) (es2,ck2)).2:=⟨_,rfl⟩
  rw [← hes3,← hck3] at G
  have hR9:Zhv es3 AA (RR++rdO g t o):=by rw [hes3];unfold rdO;rw [Yc (by rw [hno];simp)];unfold rdB;rw [Yf h1,← YN];exact ZkK hR2 (by have h9:(rdA t o).length≤1:=by { unfold rdA;split <;> simp };rw [Yd];omega)
  have G:=G.fresh 1 rfl
  obtain ⟨F,G⟩:=G.push 1 6 Z Z Z kr
  obtain ⟨F,G⟩:=G.push 1 5 Z Z Z kr
  obtain ⟨F,G⟩:=G.push 1 4 Z Z Z kr
  obtain ⟨F,G⟩:=G.push 1 3 Z Z Z kr
  have G:=G.turn 1 Z (r':=RS.hp (ZnC g (.pointer (some ⟨b,0,none⟩)))) (fun _ _ _ _ h=>⟨(⟨mA,mB,mC,eA,kA,eB,kB,eC,kC⟩:FS),hI,h⟩)
  have G:=G.turn 2 Z (r':=RS.hp (Zgf AA (RR++rdO g t o) mv)) (fun _ _ _ _ h=>⟨(es3,ck3),hR9,h⟩)
  refine Zgq hG G Z .nil Za9.none Z rfl
 have h1:¬ ((nxI g o.key o.tx)≠0∧(nxI g o.key o.tx)≠t.id):=by simpa using hc3
 obtain ⟨es3,hes3⟩:∃ z,z=es2:=⟨_,rfl⟩
 obtain ⟨ck3,hck3⟩:∃ z,z=ck2:=⟨_,rfl⟩
 rw [← hes3,← hck3] at G
 have hR9:Zhv es3 AA (RR++rdO g t o):=by rw [hes3];unfold rdO;rw [Yc (by rw [hno];simp)];unfold rdB;rw [Yc h1,YR];exact hR2
 refine Ye ?_
 have G:=G.fresh 1 rfl
 obtain ⟨F,G⟩:=G.push 1 6 Z Z Z kr
 obtain ⟨F,G⟩:=G.push 1 5 Z Z Z kr
 obtain ⟨F,G⟩:=G.push 1 4 Z Z Z kr
 obtain ⟨F,G⟩:=G.push 1 3 Z Z Z kr
 have G:=G.turn 1 Z (r':=RS.hp (ZnC g (.pointer (some ⟨b,0,none⟩)))) (fun _ _ _ _ h=>⟨(⟨mA,mB,mC,eA,kA,eB,kB,eC,kC⟩:FS),hI,h⟩)
 have G:=G.turn 2 Z (r':=RS.hp (Zgf AA (RR++rdO g t o) mv)) (fun _ _ _ _ h=>⟨(es3,ck3),hR9,h⟩)
 refine Zgq hG G Z .nil Za9.none Z rfl
def wwC (p:Int→Bool) (g:Zp):List (Zg×Int):=if ZV g then wwA p g.orders else []
def rdC (p:Int→Bool) (g:Zp):List Zg:=if ZV g then rdH p g g.txs else []
theorem ZrB {g:Zp} {v:Value} {w:World} {f y:Ys} (h:(ZnC g v).p w f y):∃ b,v = .pointer (some ⟨b,0,none⟩):=by
 obtain ⟨s,_,q⟩:=h
 exact HP.star_pt q
theorem ZoB (g : Zp) (hsm : Za7 g) (p : Int → Bool) (f : FuncId) (fn : Func) (cps : List PV) (hf : prog.funcs[f]? = some fn) (hb : fn.body.isSome = true) (hnn : (fn.name == "runtime.NumGoroutine") = false) (hw : ∀ x, FnP prog f (.int .i64 x :: cps) (.bool (p x))) : FnG prog 78 1 [.agg (Zu g), .clos f cps] [.star []] (PV.one) (fun v => [Zgf (wwC p g) (rdC p g) v]) := by
 refine FnG.mk func78 Z ntmps78 Z kr fun B F0 a w F V hG G=>?_
 have hs:=hsm.1
 have hsl:=hs.1
 have hso:=hsm.2
 have hol1:=hso.1
 obtain ⟨F,G⟩:=G.nM [1,0] [0]
 refine Ya (Zb G (qx 101 r1 (qC qZ)) V [4,2,1] [101,0] (fun _=>rfl) (fun _=>rfl) fun τ a w F G=>?_)
 try dsimp only [RS.sub,SF.sub,CF.sub,csub,Anc.sub,List.map,zCF,Zu,rTx,ZG,ZT,Zm,rOp] at G
 generalize τ 2=v2 at G
 refine Za (Ya (Zb G (qf (Za0 (ek:=(fun n:Int=>PV.int .i64 n)) (ok:=(fun k=>∀ x ∈ Zao k,inR .i64 x)) (kv:=(kvS Zao)) 102) trivial qz (qO rr qZ)) V [5,4,2,1] [102,101,0] (fun _=>rfl) (fun _=>rfl) fun τ a w F G=>?_))
 try dsimp only [RS.sub,SF.sub,CF.sub,csub,Anc.sub,List.map,Zf,xL,xM,Nat.reduceAdd,xD,xE,xT,xU,xC,xN,zCF,Zu,rTx,ZG,ZT,Zm,rOp] at G
 generalize τ 14=v14 at G
 refine Za (Ya (Ya (rZ G (qe 2 101 r1 r1 (qf (oP (Zfc g hsm) func19 (Args.one (.pagg .t))) r1 qz (qf (o_not .t) r1 qz qZ))) V [17,5,4,2,1] [102,101,0] fun G=>?_)))
 refine Zc G Z (fun hc0=>?_) (fun hc0=>?_)
 ·skip
  have hr:¬ ZV g:=by simpa using hc0
  have hgA:wwC p g = []:=Yc hr
  have hgR:rdC p g = []:=Yc hr
  replace G:=G.turn 102 Z (r':=RS.hp (Zgf (wwC p g) (rdC p g) v14)) (fun _ _ _ _ h=>⟨([],0),by rw [hgA,hgR];exact Zlr,h⟩)
  obtain ⟨F,G⟩:=G.nM [17,5,4,2,1] [102,101,0]
  refine Ya (rZ G (qR rr (qO rr qZ)) V [5,4,2,1] [102,101,0] fun G=>(Yh (Zk ?_)))
  obtain ⟨F,G⟩:=G.rename 102 1 Z rfl
  refine Z2 (h':=fun v=>Zgf (wwC p g) (rdC p g) v) hG G Z (.tmp Z .nil) (.one .one) rfl
 have hr:ZV g:=by simpa using hc0
 have hgA:wwC p g=wwA p g.orders:=Yf hr
 have hgR:rdC p g=rdH p g g.txs:=Yf hr
 refine Ye (Za (Ya ?_))
 replace G:=G.fresh 103 rfl
 refine Zb G (qe 2 101 r1 r1 (qf (Zaq 103 (Zvv g hsm) func135 Z kr (Args.one (.pagg .t)) PV.ptr_one) r1 r1 (qO rr qZ))) V [6,5,4,2,1] [103,102,101,0] (fun _=>rfl) (fun _=>rfl) fun τ a w F G=>?_
 try dsimp only [RS.sub,SF.sub,CF.sub,csub,Anc.sub,List.map,xD,xE,xT,xU,ldSF,Zu,rTx,ZG,ZT,Zm,rOp] at G
 generalize τ 20=v20 at G
 obtain ⟨_,_,_,ho⟩:=G.obGet 103 rfl
 obtain ⟨b,rfl⟩:=ZrB ho
 clear ho
 replace G:=G.turn 103 Z (r':=RS.hp (ZnC g (.pointer (some ⟨b,0,none⟩)))) (fun _ _ _ _ h=>h)
 obtain ⟨F,G⟩:=G.nM [6,5,4,2,1] [103,102,101,0]
 refine Za (Ya (Ya (rZ G (qg 1 101 r1 r1 (qa 101 r1 r1 (qu Ycf r1 (qJ qZ)))) V [24,23,22,6,5,4,2,1] [103,102,101,0] fun G=>Yg ?_)))
 refine Zj (σ:=(Nat)×(List (GE Zg Int))×(Nat)) [1,2,4,5,6,22,23] [0,101,103] (fun s=>[(24,.pv (.int .i64 (s.1:Int)))]) (fun s=>[(102,.ob (.val v14) (ZbH (fun n:Int=>PV.int .i64 n) (fun k=>∀ x ∈ Zao k,inR .i64 x) (kvS Zao) s.2.1 s.2.2))]) (fun s=>s.1≤g.orders.length∧(Zhv s.2.1 (wwA p (g.orders.take s.1)) [])) (fun s=>g.orders.length - s.1) ((0),([]),(0)) G ⟨rfl,rfl,rfl,rfl,rfl,rfl,rfl,rfl,tv⟩ ⟨rfl,rfl,rfl,rfl,tv⟩ ⟨Yy _,Zlr⟩ ?_
 clear G;intro s a w F hC G
 obtain ⟨i,es,ck⟩:=s
 try dsimp only at hC
 obtain ⟨F,G⟩:=G.nM [24,23,22,6,5,4,2,1] [103,102,101,0]
 try dsimp only at G
 obtain ⟨hi,hq⟩:=hC
 have hol:=fun hil:i<g.orders.length=>hso.at hil
 refine Ya (rZ G (qL r2) V [25,24,23,22,6,5,4,2,1] [103,102,101,0] fun G=>Ya ?_)
 refine Zc G Z (fun hc1=>?_) (fun hc1=>?_)
 ·skip
  have hil:i<g.orders.length:=by simp at hc1;omega
  have hio:=hil
  have hcn:=hq
  have hox:=hol hil
  refine Ye (Za (Ya (Yg (Ya (Zb G (qy 2 Ycf r2 (qf (oR true 2 .t) r1 qz (qf (oH [.int .i64 0,.slice none 0 0] 104) trivial qz (qS 2 104 r2 r1 qZ)))) V [24,23,22,8,6,5,4,2,1] [104,103,102,101,0] (fun _=>rfl) (fun _=>rfl) fun τ a w F G=>?_)))))
  try dsimp only [RS.sub,SF.sub,CF.sub,csub,Anc.sub,List.map,Zf,xL,xM,Nat.reduceAdd,xD,xE,xT,xU,xC,xN,zCF,ldSF,Zu,rTx,ZG,ZT,Zm,rOp] at G
  generalize τ 8=v8 at G
  try simp only [Yb] at G
  refine Za (Ya (rZ G (qI qZ) V [24,23,22,9,8,6,5,4,2,1] [104,103,102,101,0] fun G=>Yg ?_))
  replace G:=G.ent (i:=9) (s':=.pv (.int .i64 ((0+1:Nat):Int))) Z (.int Z)
  refine Zj (σ:=Nat×(List (GE Zg Int))×Nat) [1,2,4,5,6,8,22,23,24] [0,101,103,104] (fun s=>[(9,.pv (.int .i64 ((s.1+1:Nat):Int)))]) (fun s=>[(102,.ob (.val v14) (ZbH (fun n:Int=>PV.int .i64 n) (fun k=>∀ x ∈ Zao k,inR .i64 x) (kvS Zao) s.2.1 s.2.2))]) (fun s=>s.1≤(Nn g.orders i).txs.length∧(0<s.1→p (Nn g.orders i).key=true∧s.1+1≤(Nn g.orders i).txs.length)∧Zhv s.2.1 (wwA p (g.orders.take i)++wwO (Nn g.orders i) s.1) []) (fun s=>(Nn g.orders i).txs.length - s.1) ((0),(es),(ck)) G ⟨rfl,rfl,rfl,rfl,rfl,rfl,rfl,rfl,rfl,rfl,tv⟩ ⟨rfl,rfl,rfl,rfl,rfl,tv⟩ ⟨Yy _,fun h9=>absurd h9 (Nat.lt_irrefl 0),by show Zhv _ (wwA p (g.orders.take i) ++ []) [];rw [YR];exact hcn⟩ ?_
  clear G;intro s a w F hC G
  obtain ⟨j,es3,ck3⟩:=s
  try dsimp only at hC
  obtain ⟨F,G⟩:=G.nM [24,23,22,9,8,6,5,4,2,1] [104,103,102,101,0]
  try dsimp only at G
  obtain ⟨hj,hjp,hq⟩:=hC
  have hwj:IntKind.wrap .i64 (((j+1:Nat):Int) - 1)=(j:Int):=by rw [Zy ow];omega
  refine Ya (Ya (rZ G (qR rr (qg 1 104 r1 r1 (qa 104 r1 r1 (qu Ycd r1 (qf (ZaD .t .t) r2 qz (qR rr (qm Z Z Z Z (qv 0 104 Z r2 r1 (qw 104 Z r2 r1 (qk Z (fun h=>ZM (avs:=[.int .i64 (Nn g.orders i).key]) (.w h) (hw (Nn g.orders i).key) hf hb hnn (Args.one (.w h))) r3 qz (qf (ZD .t .t) r2 qz qZ))))))))))) V [38,24,23,22,9,8,6,5,4,2,1] [104,103,102,101,0] fun G=>?_))
  refine Zc G Z (fun hc2=>?_) (fun hc2=>?_)
  ·skip
   have hst:j+1<(Nn g.orders i).txs.length∧p (Nn g.orders i).key=true:=by have h9:=hc2;simp at h9;exact ⟨by omega,h9.2⟩
   refine Ye (Za (Ya (Yg (Zv G (qR rr (qg 1 104 r1 r1 (qa 104 r1 r1 (qR rr (qf (o_sub .t qi) r1 qz (qf (o_indexAddr_sl (sz:=1) (.mk Ycd kr) (by intro x;rfl) .t .t (by rw [hwj];omega) (by rw [hwj];omega)) r2 qz (qf (oR false 1 .t) r1 qz (qg 1 104 r1 r1 (qa 104 r1 r1 (qR rr (qy 1 Ycd r2 (qf (oR false 1 .t) r1 qz (qg 0 104 r1 r1 (qa 104 r1 r1 (qf (oB [(0,.tmp 47),(1,.tmp 52),(2,_),(3,.tmp 54)] [.int .i64 0,.int .i64 0,.int .i64 0,.int .i64 0] [(0,1),(1,1),(2,1),(3,1)] (.one Z .t one_int kr (.one Z .t one_int kr (.one Z qi one_int kr (.one Z .t one_int kr .nil))))) r3 qz (qf (o_mapUpdateG (ek:=(fun n:Int=>PV.int .i64 n)) 102 Ycr Zc1 .is (ZK.agg (enc:=Zao) (k:=(⟨Nn (Nn g.orders i).txs (IntKind.wrap .i64 (((j+1:Nat):Int) - 1)).toNat,Nn (Nn g.orders i).txs ((j+1:Nat):Int).toNat,1,(Nn g.orders i).key⟩:Zg)) (.pagg .t) Z) qi) r2 r1 qZ)))))))))))))))) V [24,23,22,9,8,6,5,4,2,1] [104,103,102,101,0] Z Z fun a w F G=>?_))))
   try dsimp only [List.map,Zf,xL,xM,Nat.reduceAdd,xD,xE,xT,xU,xC,xN,zCF,ldSF,Zu,rTx,ZG,ZT,Zm,rOp] at G
   try simp only [Yb] at G
   rw [hwj] at G
   try simp only [Yb] at G
   obtain ⟨es4,hes4⟩:∃ z,z=(gPut (⟨Nn (Nn g.orders i).txs j,Nn (Nn g.orders i).txs (j+1),1,(Nn g.orders i).key⟩:Zg) 1 (es3,ck3)).1:=⟨_,rfl⟩
   obtain ⟨ck4,hck4⟩:∃ z,z=(gPut (⟨Nn (Nn g.orders i).txs j,Nn (Nn g.orders i).txs (j+1),1,(Nn g.orders i).key⟩:Zg) 1 (es3,ck3)).2:=⟨_,rfl⟩
   rw [← hes4,← hck4] at G
   have hR3:Zhv es4 (wwA p (g.orders.take i)++wwO (Nn g.orders i) (j+1)) []:=by rw [hes4,ZrZ,← YN];exact Ztz hq
   refine Zh (Za (rZ G (qR rr (qp r1 (qO rr qZ))) V [24,23,22,9,8,6,5,4,2,1] [104,103,102,101,0] fun G=>?_))
   have hC2:j+1≤(Nn g.orders i).txs.length∧(0<j+1→p (Nn g.orders i).key=true∧j+1+1≤(Nn g.orders i).txs.length)∧Zhv es4 (wwA p (g.orders.take i)++wwO (Nn g.orders i) (j+1)) []:=⟨by omega,fun _=>⟨hst.2,by omega⟩,hR3⟩
   replace G:=G.ent (i:=9) (s':=.pv (.int .i64 ((j+1+1:Nat):Int))) Z (.int (Zd ow))
   obtain ⟨F,G⟩:=G.nM [24,23,22,8,6,5,4,2,1,9] [104,103,101,0,102]
   exact ⟨((j+1),(es4),(ck4)),F,hC2,G,by omega⟩
  have hst:p (Nn g.orders i).key=true→(Nn g.orders i).txs.length≤j+1:=fun hpk=>by have h9:=hc2;simp [hpk] at h9;omega
  obtain ⟨es2,hes2⟩:∃ z,z=es3:=⟨_,rfl⟩
  obtain ⟨ck2,hck2⟩:∃ z,z=ck3:=⟨_,rfl⟩
  rw [← hes2,← hck2] at G
  have hR2:Zhv es2 (wwA p (g.orders.take (i+1))) []:=by
    rw [hes2,Zr9 hio]
    by_cases hpk:p (Nn g.orders i).key=true
    · rw [Yf hpk,show (Nn g.orders i).txs.length - 1=j by (have:=hst hpk;by_cases hj0:0<j; (have:=(hjp hj0).2;omega);omega)];exact hq
    · rw [Yc hpk]
      have hj0:j=0:=by
        by_cases hj0:0<j
        · exact absurd (hjp hj0).1 hpk
        · omega
      rw [hj0] at hq;exact hq
  refine Yx (Zi (Zi (Zn (Zh (Za (rZ G (qp r1 (qR rr qZ)) V [24,23,22,6,5,4,2,1] [104,103,102,101,0] fun G=>?_))))))
  replace G:=G.ent (i:=24) (s':=.pv (.int .i64 ((i+1:Nat):Int))) Z (.int (Zd ow))
  obtain ⟨F,G⟩:=G.nM [23,22,6,5,4,2,1,24] [103,101,0,102]
  exact ⟨((i+1),(es2),(ck2)),F,⟨by omega,hR2⟩,G,by omega⟩
 have hil:i=g.orders.length:=by simp at hc1;omega
 rw [hil,Yz] at hq
 replace G:=G.turn 102 Z (r':=RS.hp (Zgf (wwA p g.orders) (rdH p g (g.txs.take 0)) v14)) (fun _ _ _ _ h=>⟨(es,ck),hq,h⟩)
 obtain ⟨F,G⟩:=G.nM [25,24,23,22,6,5,4,2,1] [103,102,101,0]
 refine Yx (Zi (Zi (Zn (Za (Ya (Ya (rZ G (qg 0 101 r1 r1 (qa 101 r1 r1 (qu Ycg r1 (qJ qZ)))) V [60,59,58,6,5,4,1] [103,102,101,0] fun G=>Yg ?_)))))))
 refine Zj (σ:=(Nat)) [1,4,5,6,58,59] [0,101,103] (fun s=>[(60,.pv (.int .i64 (s:Int)))]) (fun s=>[(102,RS.hp (Zgf (wwA p g.orders) (rdH p g (g.txs.take s)) v14))]) (fun s=>s≤g.txs.length∧(True)) (fun s=>g.txs.length - s) (0) G ⟨rfl,rfl,rfl,rfl,rfl,rfl,rfl,tv⟩ ⟨rfl,rfl,rfl,rfl,tv⟩ ⟨Yy _,tv⟩ ?_
 clear G;intro i a w F hC G
 try dsimp only at hC
 obtain ⟨F,G⟩:=G.nM [60,59,58,6,5,4,1] [103,102,101,0]
 try dsimp only at G
 obtain ⟨hi,hq⟩:=hC
 have hxl:=fun hil:i<g.txs.length=>hs.at hil
 refine Ya (rZ G (qL r2) V [61,60,59,58,6,5,4,1] [103,102,101,0] fun G=>Ya ?_)
 refine Zc G Z (fun hc3=>?_) (fun hc3=>?_)
 ·skip
  have hil:i<g.txs.length:=by simp at hc3;omega
  have hio:=hil
  have htl:=hxl hil
  have hsl:=hs.1
  have hrl:=ZnX (p:=p) (g:=g) hs i
  replace G:=G.turn 102 Z (r':=RS.hp (Zgf (wwA p g.orders) (rdH p g (g.txs.take i)++rdT p g (Nn g.txs i) ((Nn g.txs i).ops.take 0)) v14)) (fun _ _ _ _ h=>by rw [List.take_zero,show rdT p g (Nn g.txs i) [] = [] from rfl,YR];exact h)
  obtain ⟨F,G⟩:=G.nM [61,60,59,58,6,5,4,1] [103,102,101,0]
  refine Ye (Za (Ya (Yg (Ya (Zb G (qy 3 Ycg r2 (qf (oR true 3 .t) r1 qz (qf (oH [.int .i64 0,.bool false,.slice none 0 0] 105) trivial qz (qS 3 105 r2 r1 qZ)))) V [60,59,58,11,6,5,4,1] [105,103,102,101,0] (fun _=>rfl) (fun _=>rfl) fun τ a w F G=>?_)))))
  try dsimp only [RS.sub,SF.sub,CF.sub,csub,Anc.sub,List.map,Zf,xL,xM,Nat.reduceAdd,xD,xE,xT,xU,xC,xN,zCF,ldSF,Zu,rTx,ZG,ZT,Zm,rOp] at G
  generalize τ 11=v11 at G
  try simp only [Yb] at G
  refine Za (Ya (rZ G (qg 2 105 r1 r1 (qa 105 r1 r1 (qu Yci r1 (qJ qZ)))) V [67,66,65,60,59,58,11,6,5,4,1] [105,103,102,101,0] fun G=>Yg ?_))
  refine Zj (σ:=(Nat)) [1,4,5,6,11,58,59,60,65,66] [0,101,103,105] (fun s=>[(67,.pv (.int .i64 (s:Int)))]) (fun s=>[(102,RS.hp (Zgf (wwA p g.orders) (rdH p g (g.txs.take i)++rdT p g (Nn g.txs i) ((Nn g.txs i).ops.take s)) v14))]) (fun s=>s≤(Nn g.txs i).ops.length∧(True)) (fun s=>(Nn g.txs i).ops.length - s) (0) G ⟨rfl,rfl,rfl,rfl,rfl,rfl,rfl,rfl,rfl,rfl,rfl,tv⟩ ⟨rfl,rfl,rfl,rfl,rfl,tv⟩ ⟨Yy _,tv⟩ ?_
  clear G;intro j a w F hC G
  try dsimp only at hC
  obtain ⟨F,G⟩:=G.nM [67,66,65,60,59,58,11,6,5,4,1] [105,103,102,101,0]
  try dsimp only at G
  obtain ⟨hi,hq⟩:=hC
  refine Ya (rZ G (qL r2) V [68,67,66,65,60,59,58,11,6,5,4,1] [105,103,102,101,0] fun G=>Ya ?_)
  refine Zc G Z (fun hc4=>?_) (fun hc4=>?_)
  ·skip
   have hil:j<(Nn g.txs i).ops.length:=by simp at hc4;omega
   refine Ye (Za (Ya (Yg (Ya (Zb G (qy 4 Yci r2 (qf (oR true 4 .t) r1 qz (qf (oH [.bool false,.int .i64 0,.int .i64 0,.int .i64 0] 106) trivial qz (qS 4 106 r2 r1 qZ)))) V [67,66,65,60,59,58,13,11,6,5,4,1] [106,105,103,102,101,0] (fun _=>rfl) (fun _=>rfl) fun τ a w F G=>?_)))))
   try dsimp only [RS.sub,SF.sub,CF.sub,csub,Anc.sub,List.map,Zf,xL,xM,Nat.reduceAdd,xD,xE,xT,xU,xC,xN,zCF,ldSF,Zu,rTx,ZG,ZT,Zm,rOp] at G
   generalize τ 13=v13 at G
   try simp only [Yb] at G
   refine Za (Ya (rZ G (qg 1 105 r1 r1 (qa 105 r1 r1 (qR rr (qv 0 106 Z r2 r1 (qw 106 Z r2 r1 (qf (ZD .t .t) r2 qz (qR rr (qm Z Z Z Z (qv 1 106 Z r2 r1 (qw 106 Z r2 r1 (qk Z (fun h=>ZM (avs:=[.int .i64 (Nn (Nn g.txs i).ops j).key]) (.w h) (hw (Nn (Nn g.txs i).ops j).key) hf hb hnn (Args.one (.w h))) r3 qz (qf (ZD .t .t) r2 qz qZ)))))))))))) V [82,67,66,65,60,59,58,13,11,6,5,4,1] [106,105,103,102,101,0] fun G=>?_))
   refine Zc G Z (fun hc5=>?_) (fun hc5=>?_)
   ·skip
    have hpr:((Nn g.txs i).done && ((Nn (Nn g.txs i).ops j).read && p (Nn (Nn g.txs i).ops j).key))=true:=by have h9:=hc5;simp at h9;simp [h9]
    have hRR:(rdH p g (g.txs.take i)++rdT p g (Nn g.txs i) ((Nn g.txs i).ops.take j)).length≤10000000:=by have h9:=Zod p g (Nn g.txs i) ((Nn g.txs i).ops.take j);rw [Yi] at h9;rw [Yd];omega
    refine Ze G (qR rr (qe 3 105 r1 r1 (qe 4 106 r1 r1 (qR rr (qf (Zop 103 102 (Zuz b g (Nn g.txs i) (Nn (Nn g.txs i).ops j) _ _ _ hRR) func136 Z kr Z (Args.four .t (.pagg .t) (.pagg .t) .t)) r4 r2 qZ))))) V [67,66,65,60,59,58,11,6,5,4,1] [106,105,103,102,101,0] Z Z fun a w F G=>?_
    replace G:=G.turn 102 Z (r':=RS.hp (Zgf (wwA p g.orders) (rdH p g (g.txs.take i)++rdT p g (Nn g.txs i) ((Nn g.txs i).ops.take (j+1))) v14)) (fun _ _ _ _ h=>by rw [Zmv hil,Yf hpr,← YN];exact h)
    obtain ⟨F,G⟩:=G.nM [67,66,65,60,59,58,11,6,5,4,1] [106,105,103,102,101,0]
    refine Zh (Za (rZ G (qp r1 (qR rr qZ)) V [67,66,65,60,59,58,11,6,5,4,1] [106,105,103,102,101,0] fun G=>?_))
    replace G:=G.ent (i:=67) (s':=.pv (.int .i64 ((j+1:Nat):Int))) Z (.int (Zd ow))
    obtain ⟨F,G⟩:=G.nM [66,65,60,59,58,11,6,5,4,1,67] [105,103,101,0,102]
    exact ⟨(j+1),F,⟨by omega,tv⟩,G,by omega⟩
   have hpr:¬ ((Nn g.txs i).done && ((Nn (Nn g.txs i).ops j).read && p (Nn (Nn g.txs i).ops j).key))=true:=by intro h8;simp at h8;have h9:=hc5;simp [h8] at h9
   replace G:=G.turn 102 Z (r':=RS.hp (Zgf (wwA p g.orders) (rdH p g (g.txs.take i)++rdT p g (Nn g.txs i) ((Nn g.txs i).ops.take (j+1))) v14)) (fun _ _ _ _ h=>by rw [Zmv hil,Yc hpr,YR];exact h)
   obtain ⟨F,G⟩:=G.nM [82,67,66,65,60,59,58,13,11,6,5,4,1] [106,105,103,102,101,0]
   refine Ye (Zh (Za (rZ G (qp r1 (qR rr qZ)) V [67,66,65,60,59,58,11,6,5,4,1] [106,105,103,102,101,0] fun G=>?_)))
   replace G:=G.ent (i:=67) (s':=.pv (.int .i64 ((j+1:Nat):Int))) Z (.int (Zd ow))
   obtain ⟨F,G⟩:=G.nM [66,65,60,59,58,11,6,5,4,1,67] [105,103,101,0,102]
   exact ⟨(j+1),F,⟨by omega,tv⟩,G,by omega⟩
  have hil:j=(Nn g.txs i).ops.length:=by simp at hc4;omega
  replace G:=G.turn 102 Z (r':=RS.hp (Zgf (wwA p g.orders) (rdH p g (g.txs.take (i+1))) v14)) (fun _ _ _ _ h=>by rw [Zsm hio];rw [hil,Yz] at h;exact h)
  obtain ⟨F,G⟩:=G.nM [68,67,66,65,60,59,58,11,6,5,4,1] [105,103,102,101,0]
  refine Yx (Zi (Zi (Zn (Zh (Za (rZ G (qp r1 (qR rr qZ)) V [60,59,58,6,5,4,1] [105,103,102,101,0] fun G=>?_))))))
  replace G:=G.ent (i:=60) (s':=.pv (.int .i64 ((i+1:Nat):Int))) Z (.int (Zd ow))
  obtain ⟨F,G⟩:=G.nM [59,58,6,5,4,1,60] [103,101,0,102]
  exact ⟨(i+1),F,⟨by omega,tv⟩,G,by omega⟩
 have hil:i=g.txs.length:=by simp at hc3;omega
 replace G:=G.turn 102 Z (r':=RS.hp (Zgf (wwC p g) (rdC p g) v14)) (fun _ _ _ _ h=>by rw [hgA,hgR];rw [hil,Yz] at h;exact h)
 obtain ⟨F,G⟩:=G.nM [61,60,59,58,6,5,4,1] [103,102,101,0]
 refine Yx (Zi (Zi (Zn (Za (Ya (rZ G (qR rr (qO rr qZ)) V [4] [103,102,101,0] fun G=>Yh ?_))))))
 obtain ⟨F,G⟩:=G.rename 102 1 Z rfl
 refine Z2 (h':=fun v=>Zgf (wwC p g) (rdC p g) v) hG G Z (.tmp Z .nil) (.one .one) rfl
def Zdf (x y:Int):Int:=if x<y then -1 else if y<x then 1 else 0
theorem ZeD {x y:Int} : Zdf x y<0 ↔ x<y:=by unfold Zdf;split <;> (try split) <;> omega
theorem ZkU {x y:Int} : Zdf x y=0 ↔ x=y:=by unfold Zdf;split <;> (try split) <;> omega
theorem Zv0 {x:Int} (h:0≤x∧x≤18446744073709551615):IntKind.wrap .u64 x=x:=ZgB ⟨by simp [IntKind.min,IntKind.signed,IntKind.bits];omega,by simp [IntKind.max,IntKind.signed,IntKind.bits];omega⟩
theorem Zh7 {i j:Nat} (h:i+j≤2000000):IntKind.wrap .i64 ((IntKind.wrap .u64 (IntKind.wrap .i64 ((i:Int)+(j:Int)))).fdiv (2 ^ min (1:Int).toNat (IntKind.bits .u64)))=(((i+j) / 2:Nat):Int):=by
 rw [Zy (x:=(i:Int)+(j:Int)) ow,Zv0 ow,show (2:Int) ^ min (1:Int).toNat (IntKind.bits .u64)=2 by decide,YaQ _ (by decide),Zy ow]
 omega
def Zcq {α:Type} [Inhabited α] (κ:α→Int) (l:List α):Prop:=∀ a b,a<b→b<l.length→κ (Nn l a)<κ (Nn l b)
def lowK {α:Type} (κ:α→Int) (k:Int) (l:List α):Nat:=(l.takeWhile fun x=>decide (κ x<k)).length
def isK {α:Type} (κ:α→Int) (k:Int) (l:List α):Bool:=l.any fun x=>decide (κ x=k)
theorem ZdS {α:Type} [Inhabited α] {κ:α→Int} {k:Int} : ∀ {l:List α} {i:Nat},i≤l.length→(∀ q,q<i→κ (Nn l q)<k)→(∀ q,i≤q→q<l.length→k≤κ (Nn l q))→lowK κ k l=i
 | [],i,hi,_,_=>by simp at hi;subst hi;rfl
 | x :: l,0,_,_,h2=>by
  have:=h2 0 (YL _) (by simp)
  rw [nth_eq (by simp)] at this
  unfold lowK
  rw [List.takeWhile_cons_of_neg (by simpa using this)];rfl
 | x :: l,i+1,hi,h1,h2=>by
  have hx:=h1 0 ow
  rw [nth_eq (by simp)] at hx
  have ih:=ZdS (κ:=κ) (k:=k) (l:=l) (i:=i) (by simpa using hi) (fun q hq=>by
   have:=h1 (q+1) ow
   rw [nth_eq (by simp at hi ⊢;omega)] at this
   rw [nth_eq (by simp at hi;omega)];simpa using this) (fun q hq hq2=>by
   have:=h2 (q+1) ow (by simp;omega)
   rw [nth_eq (by simp;omega)] at this
   rw [nth_eq hq2];simpa using this)
  unfold lowK at ih ⊢
  rw [Ybo (by simpa using hx),Yl,ih]
theorem ZoK {α:Type} [Inhabited α] {κ:α→Int} {k:Int} {l:List α} {i:Nat} (hi:i≤l.length) (hs:Zcq κ l) (h1:∀ q,q<i→κ (Nn l q)<k) (h2:∀ q,i≤q→q<l.length→k≤κ (Nn l q)):isK κ k l=true ↔ i<l.length∧κ (Nn l i)=k:=by
 unfold isK
 rw [YaA]
 constructor
 ·rintro ⟨x,hx,hk⟩
  obtain ⟨q,hq,e⟩:=Yab hx
  have hk':κ (Nn l q)=k:=by rw [nth_eq hq,e];simpa using hk
  have hiq:i≤q:=Nat.le_of_not_lt fun h=>by have:=h1 q h;omega
  rcases Y0 hiq with h | h
  ·have a1:=hs i q h hq
   have a2:=h2 i (YL _) ow
   omega
  ·subst h;exact ⟨hq,hk'⟩
 ·rintro ⟨h3,h4⟩
  exact ⟨_,nth_mem h3,by simpa using h4⟩
theorem ZbK {α:Type} [Inhabited α] {κ:α→Int} {l:List α} (hs:Zcq κ l) {a b:Nat} (h:a≤b) (hb:b<l.length):κ (Nn l a)≤κ (Nn l b):=by
 rcases Y0 h with h | h
 ·exact Yb6 (hs a b h hb)
 ·subst h;exact Yao _
theorem Zln (x:Int):FnP prog 151 [.int .i64 x] (.bool false):=by
 refine FnP.mk func151 Z ntmps151 Z fun B a w F V hfr G=>Ya ?_
 refine rZ G qB V [2,0] [0] fun G=>Ya ?_
 refine rZ G (qR rr (qR rr (qf (o_neq .t .t) r2 qz (qO rr qZ)))) V [2] [0] fun G=>Yh ?_
 refine Zs hfr G Z Z Z (.bool (by simp))
theorem Zi4 (x y:Int):FnP prog 110 [.int .i64 x,.int .i64 y] (.int .i64 (Zdf x y)):=by
 refine FnP.mk func110 Z ntmps110 Z fun B a w F V hfr G=>Ya ?_
 refine rZ G (qI qZ) V [4,1,0] [0] fun G=>Ya ?_
 refine rZ G (qR rr (qf (oP (Zln x) func151 (Args.one .t)) r1 qz (qO rr qZ))) V [5,4,1,0] [0] fun G=>Ya ?_
 refine rZ G (qR rr (qf (oP (Zln y) func151 (Args.one .t)) r1 qz (qO rr qZ))) V [6,5,4,1,0] [0] fun G=>(Ya (Ya ?_))
 refine rZ G (qR rr qZ) V [11,6,4,1,0] [0] fun G=>?_
 refine Zc G Z (fun hc0=>?_) (fun hc0=>?_)
 ·simp at hc0
 refine Ye (Za (Ya (Ya (rZ G (qR rr qZ) V [13,4,1,0] [0] fun G=>?_))))
 refine Zc G Z (fun hc1=>?_) (fun hc1=>?_)
 ·simp at hc1
 refine Ye (Za (Ya (Ya (rZ G (qR rr (qR rr (qL r2))) V [16,4,1,0] [0] fun G=>?_))))
 refine Zc G Z (fun hc2=>?_) (fun hc2=>?_)
 ·have hg:(-1:Int)=Zdf x y:=by unfold Zdf;rw [Yf (by simpa using hc2)]
  refine Ya (rZ G (qI qZ) V [4,1,0] [0] fun G=>(Yh (Zk ?_)))
  refine Zs hfr G Z Z Z (.int hg)
 have h1:¬ x<y:=by simpa using hc2
 refine Ye (Za (Ya (Ya (rZ G (qR rr (qR rr (qf (ZaG .t .t) r2 qz qZ))) V [19,4] [0] fun G=>?_))))
 refine Zc G Z (fun hc3=>?_) (fun hc3=>?_)
 ·have hg:(1:Int)=Zdf x y:=by unfold Zdf;rw [Yc h1,Yf (by simpa using hc3)]
  refine Ya (rZ G (qI qZ) V [4] [0] fun G=>(Yh (Zk ?_)))
  refine Zs hfr G Z Z Z (.int hg)
 have hg:(0:Int)=Zdf x y:=by unfold Zdf;rw [Yc h1,Yc (by simpa using hc3)]
 refine Ye (Za (Ya (rZ G (qI qZ) V [4] [0] fun G=>Yh ?_)))
 refine Zs hfr G Z Z Z (.int hg)
theorem ZrU (x:TxD) (k:Int):FnP prog 109 [.agg (rTx x),.int .i64 k] (.int .i64 (Zdf x.id k)):=by
 refine FnP.mk func109 Z ntmps109 Z fun B a w F V hfr G=>Ya ?_
 refine Zb G (qx 101 r1 (qI qZ)) V [4,2,1] [101,0] (fun _=>rfl) (fun _=>rfl) fun τ a w F G=>?_
 try dsimp only [RS.sub,SF.sub,CF.sub,csub,Anc.sub,List.map,zCF,rTx] at G
 generalize τ 2=v2 at G
 refine Za (Ya (rZ G (qg 0 101 r1 r1 (qa 101 r1 r1 (qR rr (qf (oP (Zi4 x.id k) func110 (Args.two .t .t)) r2 qz (qO rr qZ))))) V [4] [0] fun G=>Yh ?_))
 refine Zs hfr G Z Z Z (.int Z)
theorem Zt3 (x:OrdD) (k:Int):FnP prog 98 [.agg (ZG x),.int .i64 k] (.int .i64 (Zdf x.key k)):=by
 refine FnP.mk func98 Z ntmps98 Z fun B a w F V hfr G=>Ya ?_
 refine Zb G (qx 101 r1 (qI qZ)) V [4,2,1] [101,0] (fun _=>rfl) (fun _=>rfl) fun τ a w F G=>?_
 try dsimp only [RS.sub,SF.sub,CF.sub,csub,Anc.sub,List.map,zCF,ZG] at G
 generalize τ 2=v2 at G
 refine Za (Ya (rZ G (qg 0 101 r1 r1 (qa 101 r1 r1 (qR rr (qf (oP (Zi4 x.key k) func110 (Args.two .t .t)) r2 qz (qO rr qZ))))) V [4] [0] fun G=>Yh ?_))
 refine Zs hfr G Z Z Z (.int Z)
theorem Zv4 (l : List TxD) (k : Int) (hll : l.length ≤ 1000000) (hs : Zcq TxD.id l) (f : FuncId) (fn : Func) (cps : List PV) (hf : prog.funcs[f]? = some fn) (hb : fn.body.isSome = true) (hnn : (fn.name == "runtime.NumGoroutine") = false) (hw : ∀ x : TxD, FnP prog f (.agg (rTx x) :: .int .i64 k :: cps) (.int .i64 (Zdf (TxD.id x) k))) : FnP prog 108 [.sl rTx l, .int .i64 k, .clos f cps] (.tup [.int .i64 (lowK TxD.id k l), .bool (isK TxD.id k l)]) := by
 refine FnP.mk func108 Z ntmps108 Z fun B a w F V hfr G=>Ya ?_
 refine rZ G (qI qB) V [7,6,2,1,0] [0] fun G=>Ya ?_
 refine rZ G (qR rr (qu Ycg r1 (qO rr qZ))) V [8,7,6,2,1,0] [0] fun G=>Ya ?_
 refine rZ G (qR rr (qI (qO rr qZ))) V [10,9,8,7,6,2,1,0] [0] fun G=>(Ya (Yg ?_))
 refine Zj (σ:=Nat×Nat) [0,1,2,6,7,8] [0] (fun s=>[(9,.pv (.int .i64 (s.1:Int))),(10,.pv (.int .i64 (s.2:Int)))]) (fun s=>[]) (fun s=>s.1≤s.2∧s.2≤l.length∧(∀ q,q<s.1→TxD.id (Nn l q)<k) ∧ ∀ q,s.2≤q→q<l.length→k≤TxD.id (Nn l q)) (fun s=>s.2 - s.1) ((0),(l.length)) G ⟨rfl,rfl,rfl,rfl,rfl,rfl,rfl,rfl,tv⟩ ⟨rfl,tv⟩ ⟨Yy _,YL _,fun q hq=>absurd hq (Y3 q),fun q h1 h2=>by omega⟩ ?_
 clear G;intro s a w F hC G
 obtain ⟨i,j⟩:=s
 try dsimp only at hC
 obtain ⟨F,G⟩:=G.nM [10,9,8,7,6,2,1,0] [0]
 try dsimp only at G
 obtain ⟨hij,hjl,hlo,hhi⟩:=hC
 have hgs:=ZoK (i:=i) ow hs hlo
 have hgl:=ZdS (i:=i) ow hlo
 refine Ya (Ya (rZ G (qR rr (qR rr (qL r2))) V [17,10,9,8,7,6,2,1,0] [0] fun G=>?_))
 refine Zc G Z (fun hc0=>?_) (fun hc0=>?_)
 ·skip
  have hlt:i<j:=by simp at hc0;omega
  refine Ye (Za (Yg (Ya (Ze G (qR rr (qR rr (qf (o_add .t .t) r2 qz (qf (o_conv Yck kr .t) r1 qz (qf (Zcb .t qi (by decide)) r1 qz (qf (o_conv Ycl kr .t) r1 qz (qO rr qZ))))))) V [11,10,9,8,7,6,2,1,0] [0] Z Z fun a w F G=>?_))))
  obtain ⟨m,hm⟩:∃ m:Nat,m=(i+j) / 2:=⟨_,rfl⟩
  replace G:=G.ent (i:=11) (s':=.pv (.int .i64 (m:Int))) Z (.int (by rw [hm];exact Zh7 ow))
  obtain ⟨F,G⟩:=G.nM [11,10,9,8,7,6,2,1,0] [0]
  refine Za (Ya (Ze G (qR rr (qR rr (qR rr (qy 3 Ycg r2 (qf (oR true 3 .t) r1 qz (qR rr (qf (ZM (avs:=[.agg (rTx (Nn l m)),.int .i64 k]) .t (hw (Nn l m)) hf hb hnn (Args.two (.pagg .t) .t)) r3 qz (qf (ZaD .t qi) r1 qz qZ)))))))) V [31,11,10,9,8,7,6,2,1,0] [0] Z Z fun a w F G=>?_))
  try simp only [Yb] at G
  refine Za (Zc G Z (fun hc1=>?_) (fun hc1=>?_))
  ·skip
   have hmk:TxD.id (Nn l m)<k:=ZeD.1 (by simpa using hc1)
   obtain ⟨i2,hi2e⟩:∃ z,z=m+1:=⟨_,rfl⟩
   obtain ⟨j2,hj2e⟩:∃ z,z=j:=⟨_,rfl⟩
   have hi2:IntKind.wrap .i64 ((m:Int)+1)=(i2:Int):=by rw [hi2e];exact Zd ow
   have hj2:(j:Int)=(j2:Int):=by rw [hj2e]
   have hmu:j2 - i2<j - i:=by omega
   have hC2:i2≤j2∧j2≤l.length∧(∀ q,q<i2→TxD.id (Nn l q)<k) ∧ ∀ q,j2≤q→q<l.length→k≤TxD.id (Nn l q):=⟨by omega,by omega,fun q hq=>Int.lt_of_le_of_lt (ZbK hs ow ow) hmk,by rw [hj2e];exact hhi⟩
   refine Ze G (qR rr (qp r1 (qO rr qZ))) V [10,9,8,7,6,2,1,0] [0] Z Z fun a w F G=>Zh (Za ?_)
   replace G:=G.ent (i:=9) (s':=.pv (.int .i64 (i2:Int))) Z (.int hi2)
   replace G:=G.ent (i:=10) (s':=.pv (.int .i64 (j2:Int))) Z (.int hj2)
   obtain ⟨F,G⟩:=G.nM [8,7,6,2,1,0,10,9] [0]
   exact ⟨((i2),(j2)),F,hC2,G,hmu⟩
  have hmk:k≤TxD.id (Nn l m):=Int.not_lt.1 fun e=>(show ¬ Zdf (TxD.id (Nn l m)) k<0 by simpa using hc1) (ZeD.2 e)
  obtain ⟨i2,hi2e⟩:∃ z,z=i:=⟨_,rfl⟩
  obtain ⟨j2,hj2e⟩:∃ z,z=m:=⟨_,rfl⟩
  have hi2:(i:Int)=(i2:Int):=by rw [hi2e]
  have hj2:(m:Int)=(j2:Int):=by rw [hj2e]
  have hmu:j2 - i2<j - i:=by omega
  have hC2:i2≤j2∧j2≤l.length∧(∀ q,q<i2→TxD.id (Nn l q)<k) ∧ ∀ q,j2≤q→q<l.length→k≤TxD.id (Nn l q):=⟨by omega,by omega,by rw [hi2e];exact hlo,fun q h1 h2=>YbO hmk (ZbK hs ow h2)⟩
  refine Ze G (qR rr (qO rr qZ)) V [10,9,8,7,6,2,1,0] [0] Z Z fun a w F G=>Zh (Za ?_)
  replace G:=G.ent (i:=9) (s':=.pv (.int .i64 (i2:Int))) Z (.int hi2)
  replace G:=G.ent (i:=10) (s':=.pv (.int .i64 (j2:Int))) Z (.int hj2)
  obtain ⟨F,G⟩:=G.nM [8,7,6,2,1,0,10,9] [0]
  exact ⟨((i2),(j2)),F,hC2,G,hmu⟩
 have hjj:i=j:=by simp at hc0;omega
 subst hjj
 have hgl2:=hgl hhi
 have hgs2:=hgs hhi
 have hb2:(decide ((i:Int)<(l.length:Int)) && decide (Zdf (TxD.id (Nn l i)) k=0))=isK TxD.id k l:=by
   rw [Yai,hgs2]
   simp [ZkU]
 refine Yx (Zi (Zi (Zn (Za (Ya (Ze G (qR rr (qR rr (qR rr (qf (ZaD .t .t) r2 qz (qR rr (qm Z Z Z Z (qm Z Z Z Z (qm Z Z Z Z (qk Z (fun h=>o_indexAddr_sl (sz:=3) (.mk Ycg kr) (by intro x;rfl) (.w h) (.w h) ow (by have:=Yr h;omega)) r3 qz (qk Z (fun h=>oR true 3 (.w h)) r2 qz (qm Z Z Z Z (qk Z (fun h=>ZM (avs:=[.agg (rTx (Nn l i)),.int .i64 k]) (.w h) (hw (Nn l i)) hf hb hnn (Args.two (.pagg (.w h)) (.w h))) r4 qz (qk Z (fun h=>o_eql (.w h) qi) r2 qz (qf (ZD .t .t) r2 qz (qO rr (qO rr qZ)))))))))))))))) V [7,6] [0] Z Z fun a w F G=>?_))))))
 try simp only [Yb] at G
 refine Za (Yh (Z5 hfr G Z (.tmp Z (.tmp Z .nil)) (.two (.int (by rw [hgl2])) (.bool hb2))))
theorem Zwd (l : List OrdD) (k : Int) (hll : l.length ≤ 1000000) (hs : Zcq OrdD.key l) (f : FuncId) (fn : Func) (cps : List PV) (hf : prog.funcs[f]? = some fn) (hb : fn.body.isSome = true) (hnn : (fn.name == "runtime.NumGoroutine") = false) (hw : ∀ x : OrdD, FnP prog f (.agg (ZG x) :: .int .i64 k :: cps) (.int .i64 (Zdf (OrdD.key x) k))) : FnP prog 97 [.sl ZG l, .int .i64 k, .clos f cps] (.tup [.int .i64 (lowK OrdD.key k l), .bool (isK OrdD.key k l)]) := by
 refine FnP.mk func97 Z ntmps97 Z fun B a w F V hfr G=>Ya ?_
 refine rZ G (qI qB) V [7,6,2,1,0] [0] fun G=>Ya ?_
 refine rZ G (qR rr (qu Ycf r1 (qO rr qZ))) V [8,7,6,2,1,0] [0] fun G=>Ya ?_
 refine rZ G (qR rr (qI (qO rr qZ))) V [10,9,8,7,6,2,1,0] [0] fun G=>(Ya (Yg ?_))
 refine Zj (σ:=Nat×Nat) [0,1,2,6,7,8] [0] (fun s=>[(9,.pv (.int .i64 (s.1:Int))),(10,.pv (.int .i64 (s.2:Int)))]) (fun s=>[]) (fun s=>s.1≤s.2∧s.2≤l.length∧(∀ q,q<s.1→OrdD.key (Nn l q)<k) ∧ ∀ q,s.2≤q→q<l.length→k≤OrdD.key (Nn l q)) (fun s=>s.2 - s.1) ((0),(l.length)) G ⟨rfl,rfl,rfl,rfl,rfl,rfl,rfl,rfl,tv⟩ ⟨rfl,tv⟩ ⟨Yy _,YL _,fun q hq=>absurd hq (Y3 q),fun q h1 h2=>by omega⟩ ?_
 clear G;intro s a w F hC G
 obtain ⟨i,j⟩:=s
 try dsimp only at hC
 obtain ⟨F,G⟩:=G.nM [10,9,8,7,6,2,1,0] [0]
 try dsimp only at G
 obtain ⟨hij,hjl,hlo,hhi⟩:=hC
 have hgs:=ZoK (i:=i) ow hs hlo
 have hgl:=ZdS (i:=i) ow hlo
 refine Ya (Ya (rZ G (qR rr (qR rr (qL r2))) V [17,10,9,8,7,6,2,1,0] [0] fun G=>?_))
 refine Zc G Z (fun hc0=>?_) (fun hc0=>?_)
 ·skip
  have hlt:i<j:=by simp at hc0;omega
  refine Ye (Za (Yg (Ya (Ze G (qR rr (qR rr (qf (o_add .t .t) r2 qz (qf (o_conv Yck kr .t) r1 qz (qf (Zcb .t qi (by decide)) r1 qz (qf (o_conv Ycl kr .t) r1 qz (qO rr qZ))))))) V [11,10,9,8,7,6,2,1,0] [0] Z Z fun a w F G=>?_))))
  obtain ⟨m,hm⟩:∃ m:Nat,m=(i+j) / 2:=⟨_,rfl⟩
  replace G:=G.ent (i:=11) (s':=.pv (.int .i64 (m:Int))) Z (.int (by rw [hm];exact Zh7 ow))
  obtain ⟨F,G⟩:=G.nM [11,10,9,8,7,6,2,1,0] [0]
  refine Za (Ya (Ze G (qR rr (qR rr (qR rr (qy 2 Ycf r2 (qf (oR true 2 .t) r1 qz (qR rr (qf (ZM (avs:=[.agg (ZG (Nn l m)),.int .i64 k]) .t (hw (Nn l m)) hf hb hnn (Args.two (.pagg .t) .t)) r3 qz (qf (ZaD .t qi) r1 qz qZ)))))))) V [31,11,10,9,8,7,6,2,1,0] [0] Z Z fun a w F G=>?_))
  try simp only [Yb] at G
  refine Za (Zc G Z (fun hc1=>?_) (fun hc1=>?_))
  ·skip
   have hmk:OrdD.key (Nn l m)<k:=ZeD.1 (by simpa using hc1)
   obtain ⟨i2,hi2e⟩:∃ z,z=m+1:=⟨_,rfl⟩
   obtain ⟨j2,hj2e⟩:∃ z,z=j:=⟨_,rfl⟩
   have hi2:IntKind.wrap .i64 ((m:Int)+1)=(i2:Int):=by rw [hi2e];exact Zd ow
   have hj2:(j:Int)=(j2:Int):=by rw [hj2e]
   have hmu:j2 - i2<j - i:=by omega
   have hC2:i2≤j2∧j2≤l.length∧(∀ q,q<i2→OrdD.key (Nn l q)<k) ∧ ∀ q,j2≤q→q<l.length→k≤OrdD.key (Nn l q):=⟨by omega,by omega,fun q hq=>Int.lt_of_le_of_lt (ZbK hs ow ow) hmk,by rw [hj2e];exact hhi⟩
   refine Ze G (qR rr (qp r1 (qO rr qZ))) V [10,9,8,7,6,2,1,0] [0] Z Z fun a w F G=>Zh (Za ?_)
   replace G:=G.ent (i:=9) (s':=.pv (.int .i64 (i2:Int))) Z (.int hi2)
   replace G:=G.ent (i:=10) (s':=.pv (.int .i64 (j2:Int))) Z (.int hj2)
   obtain ⟨F,G⟩:=G.nM [8,7,6,2,1,0,10,9] [0]
   exact ⟨((i2),(j2)),F,hC2,G,hmu⟩
  have hmk:k≤OrdD.key (Nn l m):=Int.not_lt.1 fun e=>(show ¬ Zdf (OrdD.key (Nn l m)) k<0 by simpa using hc1) (ZeD.2 e)
  obtain ⟨i2,hi2e⟩:∃ z,z=i:=⟨_,rfl⟩
  obtain ⟨j2,hj2e⟩:∃ z,z=m:=⟨_,rfl⟩
  have hi2:(i:Int)=(i2:Int):=by rw [hi2e]
  have hj2:(m:Int)=(j2:Int):=by rw [hj2e]
  have hmu:j2 - i2<j - i:=by omega
  have hC2:i2≤j2∧j2≤l.length∧(∀ q,q<i2→OrdD.key (Nn l q)<k) ∧ ∀ q,j2≤q→q<l.length→k≤OrdD.key (Nn l q):=⟨by omega,by omega,by rw [hi2e];exact hlo,fun q h1 h2=>YbO hmk (ZbK hs ow h2)⟩
  refine Ze G (qR rr (qO rr qZ)) V [10,9,8,7,6,2,1,0] [0] Z Z fun a w F G=>Zh (Za ?_)
  replace G:=G.ent (i:=9) (s':=.pv (.int .i64 (i2:Int))) Z (.int hi2)
  replace G:=G.ent (i:=10) (s':=.pv (.int .i64 (j2:Int))) Z (.int hj2)
  obtain ⟨F,G⟩:=G.nM [8,7,6,2,1,0,10,9] [0]
  exact ⟨((i2),(j2)),F,hC2,G,hmu⟩
 have hjj:i=j:=by simp at hc0;omega
 subst hjj
 have hgl2:=hgl hhi
 have hgs2:=hgs hhi
 have hb2:(decide ((i:Int)<(l.length:Int)) && decide (Zdf (OrdD.key (Nn l i)) k=0))=isK OrdD.key k l:=by
   rw [Yai,hgs2]
   simp [ZkU]
 refine Yx (Zi (Zi (Zn (Za (Ya (Ze G (qR rr (qR rr (qR rr (qf (ZaD .t .t) r2 qz (qR rr (qm Z Z Z Z (qm Z Z Z Z (qm Z Z Z Z (qk Z (fun h=>o_indexAddr_sl (sz:=2) (.mk Ycf kr) (by intro x;rfl) (.w h) (.w h) ow (by have:=Yr h;omega)) r3 qz (qk Z (fun h=>oR true 2 (.w h)) r2 qz (qm Z Z Z Z (qk Z (fun h=>ZM (avs:=[.agg (ZG (Nn l i)),.int .i64 k]) (.w h) (hw (Nn l i)) hf hb hnn (Args.two (.pagg (.w h)) (.w h))) r4 qz (qk Z (fun h=>o_eql (.w h) qi) r2 qz (qf (ZD .t .t) r2 qz (qO rr (qO rr qZ)))))))))))))))) V [7,6] [0] Z Z fun a w F G=>?_))))))
 try simp only [Yb] at G
 refine Za (Yh (Z5 hfr G Z (.tmp Z (.tmp Z .nil)) (.two (.int (by rw [hgl2])) (.bool hb2))))
theorem ZtA (g:Zp) (id:Int) (hs:ZaZ g.txs) (hr:Zcq TxD.id g.txs):FnP prog 64 [.agg (Zu g),.int .i64 id] (.tup [.int .i64 (lowK TxD.id id g.txs),.bool (isK TxD.id id g.txs)]):=by
 refine FnP.mk func64 Z ntmps64 Z fun B a w F V hfr G=>?_
 have hsl:=hs.1
 refine Ya (Zb G (qx 101 r1 (qI qB)) V [5,4,2,1] [101,0] (fun _=>rfl) (fun _=>rfl) fun τ a w F G=>?_)
 try dsimp only [RS.sub,SF.sub,CF.sub,csub,Anc.sub,List.map,zCF,Zu,rTx,ZG,ZT,Zm,rOp] at G
 generalize τ 2=v2 at G
 refine Za (Ya (rZ G (qg 0 101 r1 r1 (qa 101 r1 r1 (qR rr (qf (oP (Zv4 g.txs id ow hr 109 f109 [] func109 Z kr (fun x=>ZrU x id)) func108 (Args.three .t .t (.conv .f (Ent.fnClos)))) r2 qz (qf (o_extract .t Z) r1 qz (qf (o_extract .t Z) r1 qz (qO rr (qO rr qZ)))))))) V [5,4] [101,0] fun G=>Yh ?_))
 refine Z5 hfr G Z (.tmp Z (.tmp Z .nil)) (.two .refl .refl)
def orZ:List Int→Int
 | []=>0
 | x :: l=>if x=0 then orZ l else x
theorem ZsM:∀ {l:List Int} {i:Nat},i<l.length→(∀ q,q<i→Nn l q=0)→Nn l i≠0→orZ l=Nn l i
 | x :: l,0,h,_,hn=>by rw [nth_eq h] at hn ⊢;exact Yc hn
 | x :: l,i+1,h,hq,hn=>by
  have h':i<l.length:=by simpa using h
  have h0:=hq 0 ow
  rw [nth_eq (by simp)] at h0
  have e:Nn (x :: l) (i+1)=Nn l i:=by rw [nth_eq h,nth_eq h'];rfl
  rw [e] at hn ⊢
  rw [orZ,Yf (show x=0 from h0)]
  exact ZsM h' (fun q hq2=>by
   have:=hq (q+1) ow
   rwa [nth_eq (by simp;omega),List.getElem_cons_succ,← nth_eq ow] at this) hn
theorem Zmm:∀ {l:List Int},(∀ q,q<l.length→Nn l q=0)→orZ l=0
 | [],_=>rfl
 | x :: l,hq=>by
  have h0:=hq 0 (by simp)
  rw [nth_eq (by simp)] at h0
  rw [orZ,Yf (show x=0 from h0)]
  exact Zmm fun q hq2=>by
   have:=hq (q+1) (by simp;omega)
   rwa [nth_eq (by simp;omega),List.getElem_cons_succ,← nth_eq hq2] at this
def okE (e:Z9):Prop:=(0≤e.label∧e.label≤1048575)∧0≤e.node∧e.node≤4095
def Za1 (e:Z9):Int:=(e.kind*1048576+e.label)*4096+e.node
theorem ZrR {a b:Z9} (ha:okE a) (hb:okE b):orZ [Zdf a.kind b.kind,Zdf a.label b.label,Zdf a.node b.node] = Zdf (Za1 a) (Za1 b):=by
 obtain ⟨⟨a1,a2⟩,a3,a4⟩:=ha
 obtain ⟨⟨b1,b2⟩,b3,b4⟩:=hb
 unfold orZ orZ orZ orZ Za1 Zdf
 repeat' split
 all_goals omega
theorem keyE_inj {a b:Z9} (ha:okE a) (hb:okE b) (h:Za1 a=Za1 b):a=b:=by
 obtain ⟨⟨a1,a2⟩,a3,a4⟩:=ha
 obtain ⟨⟨b1,b2⟩,b3,b4⟩:=hb
 unfold Za1 at h
 cases a;cases b
 simp only at *
 congr 1 <;> omega
theorem Zv2 (l:List Int):FnP prog 218 [.sl Zm l] (.int .i64 (orZ l)):=by
 refine FnP.mk func218 Z ntmps218 Z fun B a w F V hfr G=>?_
 have hxl:=Sat.lenSl G (i:=0) rfl
 refine Ya (rZ G (qI qZ) V [2,0] [0] fun G=>Ya ?_)
 refine rZ G (qI qZ) V [3,2,0] [0] fun G=>(Ya (Ya ?_))
 refine rZ G (qR rr (qu Ycd r1 (qJ qZ))) V [8,7,6,3,2] [0] fun G=>Yg ?_
 refine Zj (σ:=(Nat)) [2,3,6,7] [0] (fun s=>[(8,.pv (.int .i64 (s:Int)))]) (fun s=>[]) (fun s=>s≤l.length∧(∀ q,q<s→Nn l q=0)) (fun s=>l.length - s) (0) G ⟨rfl,rfl,rfl,rfl,rfl,tv⟩ ⟨rfl,tv⟩ ⟨Yy _,fun q hq=>absurd hq (Y3 q)⟩ ?_
 clear G;intro i a w F hC G
 try dsimp only at hC
 obtain ⟨F,G⟩:=G.nM [8,7,6,3,2] [0]
 try dsimp only at G
 obtain ⟨hi,hq⟩:=hC
 refine Ya (rZ G (qL r2) V [9,8,7,6,3,2] [0] fun G=>Ya ?_)
 refine Zc G Z (fun hc0=>?_) (fun hc0=>?_)
 ·have hil:i<l.length:=by simp at hc0;omega
  refine Ye (Za (Ya (Yg (Ya (Ze G (qy 1 Ycd r2 (qf (oR false 1 .t) r1 qz (qO rr qZ))) V [8,7,6,5,3,2] [0] Z Z fun a w F G=>?_)))))
  try simp only [Yb] at G
  refine Za (Ya (rZ G (qR rr (qR rr (qf (o_neq .t .t) r2 qz qZ))) V [14,8,7,6,5,3,2] [0] fun G=>?_))
  refine Zc G Z (fun hc1=>?_) (fun hc1=>?_)
  ·have hg:Nn l i=orZ l:=(ZsM ow hq (by simpa using hc1)).symm
   refine Ya (rZ G (qR rr (qO rr qZ)) V [8,7,6,3,2] [0] fun G=>(Yh (Zz (Zk (Zk (Zz (Zk ?_)))))))
   refine Zs hfr G Z Z Z (.int hg)
  have hne:Nn l i=0:=by simpa using hc1
  refine Ye (Zh (Za (rZ G (qp r1 (qR rr qZ)) V [8,7,6,3,2] [0] fun G=>?_)))
  replace G:=G.ent (i:=8) (s':=.pv (.int .i64 ((i+1:Nat):Int))) Z (.int (Zd ow))
  obtain ⟨F,G⟩:=G.nM [7,6,3,2,8] [0]
  exact ⟨(i+1),F,⟨by omega,(fun q h9=>by rcases Y0 (Y7 h9) with h8 | h8;exact hq q h8;rw [h8];exact hne)⟩,G,by omega⟩
 have hil:i=l.length:=by simp at hc0;omega
 have hg:(0:Int)=orZ l:=(Zmm fun q h9=>hq q ow).symm
 refine Yx (Zi (Zi (Zn (Za (Ya (rZ G (qR rr (qO rr qZ)) V [2] [0] fun G=>Yh ?_))))))
 refine Zs hfr G Z Z Z (.int hg)
theorem Zs2 (x y:Z9) (hx:okE x) (hy:okE y):FnP prog 196 [.agg (Zau x),.agg (Zau y)] (.int .i64 (Zdf (Za1 x) (Za1 y))):=by
 refine FnP.mk func196 Z ntmps196 Z fun B a w F V hfr G=>Ya ?_
 refine Zb G (qx 101 r1 (qx 102 r1 (qI qZ))) V [4,3,2] [102,101,0] (fun _=>rfl) (fun _=>rfl) fun τ a w F G=>?_
 try dsimp only [RS.sub,SF.sub,CF.sub,csub,Anc.sub,List.map,zCF,Zau,Zav,Zm,Zan] at G
 generalize τ 2=v2,τ 3=v3 at G
 refine Za (Ya (Zv G (qg 0 101 r1 r1 (qa 101 r1 r1 (qg 0 102 r1 r1 (qa 102 r1 r1 (qf (oP (Zi4 x.kind y.kind) func110 (Args.two .t .t)) r2 qz (qg 1 101 r1 r1 (qa 101 r1 r1 (qg 1 102 r1 r1 (qa 102 r1 r1 (qf (oP (Zi4 x.label y.label) func110 (Args.two .t .t)) r2 qz (qg 2 101 r1 r1 (qa 101 r1 r1 (qg 2 102 r1 r1 (qa 102 r1 r1 (qf (oP (Zi4 x.node y.node) func110 (Args.two .t .t)) r2 qz (qf (o_buildSliceE (sz:=1) (zs:=[.int .i64 0]) (r:=[(0,.tmp 9),(1,.tmp 14),(2,.tmp 19)]) (l:=[_,_,_]) Ycd kr kr kr kr Z Z (.one Z .t one_int kr (.one Z .t one_int kr (.one Z .t one_int kr .nil))) Z) r3 qz (qf (oP (Zv2 [Zdf x.kind y.kind,Zdf x.label y.label,Zdf x.node y.node]) func218 (Args.one (.conv .t (Ent.arrSl (R:=Zm) (l:=[Zdf x.kind y.kind,Zdf x.label y.label,Zdf x.node y.node]) Z)))) r1 qz (qO rr qZ)))))))))))))))))) V [4] [0] Z Z fun a w F G=>?_))
 try dsimp only [List.map,Zf,xL,xM,Nat.reduceAdd,xD,xE,xT,xU,xC,xN,zCF,ldSF,Zau,Zav,Zm,Zan] at G
 refine Za (Yh (Zs hfr G Z Z Z (.int (ZrR hx hy))))
theorem ZkG {α:Type} {l:List α} {i:Nat} {x:α} (h:i=l.length):l.take i ++ [x] ++ l.drop i=l ++ [x]:=by rw [h];simp
theorem Zih {α:Type} {l l2 l3:List α} {i:Nat} {x z:α} (hi:i<l.length) (h2:l2=l.take i++List.replicate (l.length+1 - i) z) (h3:l3=l2.take i ++ [x] ++ l2.drop (i + [x].length)) :
  l.take i ++ [x] ++ l.drop i=l3.take (i+1)++l.drop i++l3.drop (i+1+(l.drop i).length):=by
 have e1:l2.take i=l.take i:=by
  rw [h2,YY (by rw [Yi];omega),YaS,Yb7]
 have e0:l2.length=l.length+1:=by rw [h2,Yd,Yi,YU];omega
 have e2:l3.take (i+1)=l.take i ++ [x]:=by
  rw [h3,e1,YY (by rw [Yd,Yi];simp;omega),Yad (by rw [Yd,Yi];simp;omega)]
 have e3:l3.length=l.length+1:=by
  rw [h3,e1,Yd,Yd,Yi,YE,e0];simp;omega
 have e4:l3.drop (i+1+(l.drop i).length) = []:=List.drop_eq_nil_of_le (by rw [e3,YE];omega)
 rw [e2,e4,YR]
theorem ZfE {α:Type} {l l4:List α} {i:Nat} {x:α} (hi:i<l.length) (h4:l4=l.take (i+1)++l.drop i):l.take i ++ [x] ++ l.drop i=l4.take i ++ [x] ++ l4.drop (i + [x].length):=by
 have e1:l4.take i=l.take i:=by
  rw [h4,YY (by rw [Yi];omega),YaS,YaZ ow]
 have e2:l4.drop (i + [x].length)=l.drop i:=by
  rw [h4,show i + [x].length=i+1 from rfl,List.drop_append_of_le_length (by rw [Yi];omega),List.drop_eq_nil_of_le (by rw [Yi];omega),Yaw]
 rw [e1,e2]
theorem Zvl (v:Value) (l:List TxD) (i:Nat) (x:TxD) (hll:l.length≤1000000) (hi:i≤l.length):FnG prog 61 1 [.is v,.int .i64 i,.sl rTx [x]] [Zw 30 3 rTx l v] (PV.one) (fun v=>[Zw 30 3 rTx (l.take i ++ [x] ++ l.drop i) v]):=by
 refine FnG.mk func61 Z ntmps61 Z kr fun B F0 a w F V hG G=>?_
 replace G:=G.turn 1 Z (r':=.ob (.val v) (Zw 30 3 rTx l)) (fun _ _ _ _ h=>h)
 refine Ya (rZ G (qC qZ) V [6,2,1,0] [1,0] fun G=>Ya ?_)
 refine rZ G (qR rr (qR rr (qf (ZgE (sz:=3) 1 (.mk Ycg kr) .is .t ow ow) r2 r1 qZ))) V [6,2,1,0] [1,0] fun G=>Ya ?_
 refine Ze G (qR rr (qu Ycg r1 (qO rr qZ))) V [7,6,2,1,0] [1,0] Z Z fun a w F G=>?_
 replace G:=G.ent (i:=7) (s':=.pv (.int .i64 1)) Z (.int Z)
 obtain ⟨F,G⟩:=G.nM [7,6,2,1,0] [1,0]
 refine Za (Ya (Ya (rZ G (qR rr (qf (o_eql .t qi) r1 qz qZ)) V [16,7,6,2,1,0] [1,0] fun G=>?_)))
 refine Zc G Z (fun hc0=>?_) (fun hc0=>?_)
 ·simp at hc0
 refine Ye (Za (Ya (rZ G (qR rr (qf (ZX 1 Ycg .is) r1 r1 (qO rr qZ))) V [8,7,6,2,1,0] [1,0] fun G=>(Ya (Ya ?_)))))
 refine rZ G (qR rr (qR rr (qf (o_eql .t .t) r2 qz qZ))) V [22,8,7,6,2,1,0] [1,0] fun G=>?_
 refine Zc G Z (fun hc1=>?_) (fun hc1=>?_)
 ·have hg:=ZkG (x:=x) (by have h9:=hc1;simp at h9;omega:i=l.length)
  refine Ya (Zb G (qR rr (qR rr (qf (ZP (sz:=3) (bs:=40) 1 (.mk' Ycg kr kr) (by intro x;rfl) .is (.sl .t) (by simp only [Yl,Yw];omega) (by decide)) ⟨rfl,rfl,tv⟩ ⟨rfl,tv⟩ (qO rr qZ)))) V [8,7,6,2,1,0] [1,0] (fun _=>rfl) (fun _=>rfl) fun τ a w F G=>?_)
  try dsimp only [RS.sub,SF.sub,CF.sub,csub,Anc.sub,List.map,xC,xN,rTx] at G
  generalize τ 25=v25 at G
  refine Za (Yh (Zk ?_))
  have G:=G.turn 1 Z (r':=RS.hp (Zw 30 3 rTx (l.take i ++ [x] ++ l.drop i) v25)) (fun _ _ _ _ h=>by rw [hg];exact h)
  refine Z2 (h':=fun v=>Zw 30 3 rTx (l.take i ++ [x] ++ l.drop i) v) hG G Z (.tmp Z .nil) (.one .one) rfl
 have hil:i<l.length:=by simp at hc1;omega
 have hw1:IntKind.wrap .i64 ((i:Int)+1)=((i+1:Nat):Int):=Zd ow
 have hwn:IntKind.wrap .i64 ((l.length:Int)+1)=((l.length+1:Nat):Int):=Zd ow
 refine Ye (Za (Ya (Ya (rZ G (qR rr (qR rr (qf (o_add .t .t) r2 qz (qR rr (qf (Zfw 1 Ycg .is) r1 r1 (qf (ZaG .t .t) r2 qz qZ)))))) V [31,8,7,6,2,1,0] [1,0] fun G=>?_))))
 refine Zc G Z (fun hc2=>?_) (fun hc2=>?_)
 ·have hcap:capV v<l.length+1:=by rw [hwn] at hc2;simp at hc2;omega
  have hw:IntKind.wrap .i64 (IntKind.wrap .i64 ((l.length:Int)+1) - (i:Int))=((l.length+1 - i:Nat):Int):=by rw [hwn,Zy ow];omega
  refine Ya (Zb G (qR rr (qR rr (qf (Zdg (sz:=3) 1 (.mk Ycg kr) .is .t ow ow) r2 r1 (qR rr (qR rr (qf (o_add .t .t) r2 qz (qR rr (qf (o_sub .t .t) r2 qz (qf (Zca (R:=rTx) (z:=(⟨0,false,[]⟩:TxD)) (bs:=40) (sz:=3) (zs:=[.int .i64 0,.bool false,.slice none 0 0]) 1 101 Ycg Ycl kr kr kr (by intro x;rfl) (fun _ _=>⟨⟨rfl,rfl,ZcS⟩,⟨rfl,rfl⟩,⟨rfl,Zi6⟩,tv⟩) .t .t ow (by rw [hw];omega) (by rw [hw];omega) (by rw [hw];omega) (by rw [hw];omega)) ⟨rfl,rfl,tv⟩ ⟨rfl,tv⟩ (qO rr qZ)))))))))) V [9,8,7,6,2,1,0] [101,1,0] (fun _=>rfl) (fun _=>rfl) fun τ a w F G=>?_)
  try dsimp only [RS.sub,SF.sub,CF.sub,csub,Anc.sub,List.map,xC,xN,rTx] at G
  generalize τ 40=v40 at G
  rw [hw] at G
  simp only [Yb] at G
  obtain ⟨l2,hl2⟩:∃ y,y=l.take i++List.replicate (l.length+1 - i) (⟨0,false,[]⟩:TxD):=⟨_,rfl⟩
  rw [← hl2] at G
  have hl2n:l2.length=l.length+1:=by rw [hl2,Yd,Yi,YU];omega
  obtain ⟨F,G⟩:=G.give 1 0 Z rfl
  obtain ⟨F,G⟩:=G.nM [9,8,7,6,2,1,0] [101,0]
  refine Za (Ya (Ze G (qR rr (qR rr (qf (Z6 (sz:=3) 101 (.mk Ycg kr) .is .t ow ow) r2 r1 (qR rr (qf (o_copy_sub 101 Ycg kr (by intro x;rfl) .t .t (by simp) (by simp;omega)) r2 r1 qZ))))) V [9,8,7,6,2,1,0] [101,0] Z Z fun a w F G=>?_))
  simp only [Yb] at G
  obtain ⟨l3,hl3⟩:∃ y,y=l2.take i ++ [x] ++ l2.drop (i + [x].length):=⟨_,rfl⟩
  rw [← hl3] at G
  have hl3n:l3.length=l.length+1:=by rw [hl3,Yd,Yd,Yi,YE,hl2n];simp;omega
  refine Za (Ya (Zv G (qR rr (qR rr (qR rr (qf (o_add .t .t) r2 qz (qf (Z6 (sz:=3) 101 (.mk Ycg kr) .is .t (by rw [hw1];omega) (by rw [hw1];omega)) r2 r1 (qR rr (qR rr (qf (o_slice_lo (sz:=3) (.mk Ycg kr) (by intro x;rfl) .t .t ow ow) r2 qz (qf (o_copy_sub 101 Ycg kr (by intro x;rfl) .t .t (by intro h9;have:=Y1 List.length h9;simp at this;omega) (by rw [hw1,YE];omega)) r2 r1 qZ))))))))) V [9,8,7,6,2,1,0] [101,0] Z Z fun a w F G=>?_))
  try dsimp only [rTx] at G
  rw [hw1] at G
  simp only [Yb] at G
  have hg:=Zih (x:=x) hil hl2 hl3
  refine Za (Ya (rZ G (qR rr (qO rr qZ)) V [8,7,6,2,1,0] [101,0] fun G=>(Yh (Zk ?_))))
  obtain ⟨F,G⟩:=G.rename 101 1 Z rfl
  have G:=G.turn 1 Z (r':=RS.hp (Zw 30 3 rTx (l.take i ++ [x] ++ l.drop i) v40)) (fun _ _ _ _ h=>by rw [hg];exact h)
  refine Z2 (h':=fun v=>Zw 30 3 rTx (l.take i ++ [x] ++ l.drop i) v) hG G Z (.tmp Z .nil) (.one .one) rfl
 have hcap:l.length+1≤capV v:=by rw [hwn] at hc2;simp at hc2;omega
 refine Ye (Za (Ya (Zb G (qR rr (qR rr (qR rr (qf (o_add .t .t) r2 qz (qf (Zez (sz:=3) 1 (.mk Ycg kr) .is .t (by rw [hwn];omega) ow) r2 r1 (qO rr qZ)))))) V [8,7,6,2,1,0] [1,0] (fun _=>rfl) (fun _=>rfl) fun τ a w F G=>?_)))
 try dsimp only [RS.sub,SF.sub,CF.sub,csub,Anc.sub,List.map,rTx] at G
 generalize τ 60=v60 at G
 refine Za (Ya (Ya (rZ G (qR rr (qR rr (qR rr (qR rr (qf (o_add .t .t) r2 qz (qf (ZaP (sz:=3) 1 (.mk Ycg kr) .is .t (by rw [hw1];omega) (by rw [hw1];omega)) r2 r1 (qf (Zew 1 func100 kr kr kr Z Ycg kr (by intro x;rfl) .t .t (by rw [hw1];omega)) r2 r1 (qf (o_not .t) r1 qz qZ)))))))) V [68,8,7,6,2,1,0] [1,0] fun G=>?_)))
 refine Zc G Z (fun hc3=>?_) (fun hc3=>?_)
 ·refine Ya (Zv G (qR rr (qR rr (qR rr (qf (o_add .t .t) r2 qz (qf (ZaP (sz:=3) 1 (.mk Ycg kr) .is .t (by rw [hw1];omega) (by rw [hw1];omega)) r2 r1 (qR rr (qR rr (qf (ZaP (sz:=3) 1 (.mk Ycg kr) .is .t ow ow) r2 r1 (qf (Zc8 (k:=i) 1 Ycg kr (by intro x;rfl) .t .t (by rw [hw1];rfl) Z ow) r2 r1 qZ))))))))) V [8,7,6,2,1,0] [1,0] Z Z fun a w F G=>?_)
  try dsimp only [rTx] at G
  obtain ⟨l4,hl4⟩:∃ y,y=l.take (i+1)++l.drop i:=⟨_,rfl⟩
  rw [← hl4] at G
  have hl4n:l4.length=l.length+1:=by rw [hl4,Yd,Yi,YE];omega
  refine Za (Ya (Ze G (qR rr (qR rr (qf (Z6 (sz:=3) 1 (.mk Ycg kr) .is .t ow ow) r2 r1 (qR rr (qf (o_copy_sub 1 Ycg kr (by intro x;rfl) .t .t (by simp) (by simp;omega)) r2 r1 qZ))))) V [8,7,6,2,1,0] [1,0] Z Z fun a w F G=>?_))
  simp only [Yb] at G
  have hg:=ZfE (x:=x) hil hl4
  refine Za (Ya (rZ G (qR rr (qO rr qZ)) V [8,7,6,2,1,0] [1,0] fun G=>(Yh (Zk ?_))))
  have G:=G.turn 1 Z (r':=RS.hp (Zw 30 3 rTx (l.take i ++ [x] ++ l.drop i) v60)) (fun _ _ _ _ h=>by rw [hg];exact h)
  refine Z2 (h':=fun v=>Zw 30 3 rTx (l.take i ++ [x] ++ l.drop i) v) hG G Z (.tmp Z .nil) (.one .one) rfl
 simp at hc3
theorem ZvO (v:Value) (l:List OrdD) (i:Nat) (x:OrdD) (hll:l.length≤1000000) (hi:i≤l.length):FnG prog 103 1 [.is v,.int .i64 i,.sl ZG [x]] [Zw 70 2 ZG l v] (PV.one) (fun v=>[Zw 70 2 ZG (l.take i ++ [x] ++ l.drop i) v]):=by
 refine FnG.mk func103 Z ntmps103 Z kr fun B F0 a w F V hG G=>?_
 replace G:=G.turn 1 Z (r':=.ob (.val v) (Zw 70 2 ZG l)) (fun _ _ _ _ h=>h)
 refine Ya (rZ G (qC qZ) V [6,2,1,0] [1,0] fun G=>Ya ?_)
 refine rZ G (qR rr (qR rr (qf (ZgE (sz:=2) 1 (.mk Ycf kr) .is .t ow ow) r2 r1 qZ))) V [6,2,1,0] [1,0] fun G=>Ya ?_
 refine Ze G (qR rr (qu Ycf r1 (qO rr qZ))) V [7,6,2,1,0] [1,0] Z Z fun a w F G=>?_
 replace G:=G.ent (i:=7) (s':=.pv (.int .i64 1)) Z (.int Z)
 obtain ⟨F,G⟩:=G.nM [7,6,2,1,0] [1,0]
 refine Za (Ya (Ya (rZ G (qR rr (qf (o_eql .t qi) r1 qz qZ)) V [16,7,6,2,1,0] [1,0] fun G=>?_)))
 refine Zc G Z (fun hc0=>?_) (fun hc0=>?_)
 ·simp at hc0
 refine Ye (Za (Ya (rZ G (qR rr (qf (ZX 1 Ycf .is) r1 r1 (qO rr qZ))) V [8,7,6,2,1,0] [1,0] fun G=>(Ya (Ya ?_)))))
 refine rZ G (qR rr (qR rr (qf (o_eql .t .t) r2 qz qZ))) V [22,8,7,6,2,1,0] [1,0] fun G=>?_
 refine Zc G Z (fun hc1=>?_) (fun hc1=>?_)
 ·have hg:=ZkG (x:=x) (by have h9:=hc1;simp at h9;omega:i=l.length)
  refine Ya (Zb G (qR rr (qR rr (qf (ZP (sz:=2) (bs:=32) 1 (.mk' Ycf kr kr) (by intro x;rfl) .is (.sl .t) (by simp only [Yl,Yw];omega) (by decide)) ⟨rfl,rfl,tv⟩ ⟨rfl,tv⟩ (qO rr qZ)))) V [8,7,6,2,1,0] [1,0] (fun _=>rfl) (fun _=>rfl) fun τ a w F G=>?_)
  try dsimp only [RS.sub,SF.sub,CF.sub,csub,Anc.sub,List.map,xC,xN,ZG] at G
  generalize τ 25=v25 at G
  refine Za (Yh (Zk ?_))
  have G:=G.turn 1 Z (r':=RS.hp (Zw 70 2 ZG (l.take i ++ [x] ++ l.drop i) v25)) (fun _ _ _ _ h=>by rw [hg];exact h)
  refine Z2 (h':=fun v=>Zw 70 2 ZG (l.take i ++ [x] ++ l.drop i) v) hG G Z (.tmp Z .nil) (.one .one) rfl
 have hil:i<l.length:=by simp at hc1;omega
 have hw1:IntKind.wrap .i64 ((i:Int)+1)=((i+1:Nat):Int):=Zd ow
 have hwn:IntKind.wrap .i64 ((l.length:Int)+1)=((l.length+1:Nat):Int):=Zd ow
 refine Ye (Za (Ya (Ya (rZ G (qR rr (qR rr (qf (o_add .t .t) r2 qz (qR rr (qf (Zfw 1 Ycf .is) r1 r1 (qf (ZaG .t .t) r2 qz qZ)))))) V [31,8,7,6,2,1,0] [1,0] fun G=>?_))))
 refine Zc G Z (fun hc2=>?_) (fun hc2=>?_)
 ·have hcap:capV v<l.length+1:=by rw [hwn] at hc2;simp at hc2;omega
  have hw:IntKind.wrap .i64 (IntKind.wrap .i64 ((l.length:Int)+1) - (i:Int))=((l.length+1 - i:Nat):Int):=by rw [hwn,Zy ow];omega
  refine Ya (Zb G (qR rr (qR rr (qf (Zdg (sz:=2) 1 (.mk Ycf kr) .is .t ow ow) r2 r1 (qR rr (qR rr (qf (o_add .t .t) r2 qz (qR rr (qf (o_sub .t .t) r2 qz (qf (Zca (R:=ZG) (z:=(⟨0,[]⟩:OrdD)) (bs:=32) (sz:=2) (zs:=[.int .i64 0,.slice none 0 0]) 1 101 Ycf Ycl kr kr kr (by intro x;rfl) (fun _ _=>⟨⟨rfl,rfl,ZcS⟩,⟨rfl,Zi6⟩,tv⟩) .t .t ow (by rw [hw];omega) (by rw [hw];omega) (by rw [hw];omega) (by rw [hw];omega)) ⟨rfl,rfl,tv⟩ ⟨rfl,tv⟩ (qO rr qZ)))))))))) V [9,8,7,6,2,1,0] [101,1,0] (fun _=>rfl) (fun _=>rfl) fun τ a w F G=>?_)
  try dsimp only [RS.sub,SF.sub,CF.sub,csub,Anc.sub,List.map,xC,xN,ZG] at G
  generalize τ 40=v40 at G
  rw [hw] at G
  simp only [Yb] at G
  obtain ⟨l2,hl2⟩:∃ y,y=l.take i++List.replicate (l.length+1 - i) (⟨0,[]⟩:OrdD):=⟨_,rfl⟩
  rw [← hl2] at G
  have hl2n:l2.length=l.length+1:=by rw [hl2,Yd,Yi,YU];omega
  obtain ⟨F,G⟩:=G.give 1 0 Z rfl
  obtain ⟨F,G⟩:=G.nM [9,8,7,6,2,1,0] [101,0]
  refine Za (Ya (Ze G (qR rr (qR rr (qf (Z6 (sz:=2) 101 (.mk Ycf kr) .is .t ow ow) r2 r1 (qR rr (qf (o_copy_sub 101 Ycf kr (by intro x;rfl) .t .t (by simp) (by simp;omega)) r2 r1 qZ))))) V [9,8,7,6,2,1,0] [101,0] Z Z fun a w F G=>?_))
  simp only [Yb] at G
  obtain ⟨l3,hl3⟩:∃ y,y=l2.take i ++ [x] ++ l2.drop (i + [x].length):=⟨_,rfl⟩
  rw [← hl3] at G
  have hl3n:l3.length=l.length+1:=by rw [hl3,Yd,Yd,Yi,YE,hl2n];simp;omega
  refine Za (Ya (Zv G (qR rr (qR rr (qR rr (qf (o_add .t .t) r2 qz (qf (Z6 (sz:=2) 101 (.mk Ycf kr) .is .t (by rw [hw1];omega) (by rw [hw1];omega)) r2 r1 (qR rr (qR rr (qf (o_slice_lo (sz:=2) (.mk Ycf kr) (by intro x;rfl) .t .t ow ow) r2 qz (qf (o_copy_sub 101 Ycf kr (by intro x;rfl) .t .t (by intro h9;have:=Y1 List.length h9;simp at this;omega) (by rw [hw1,YE];omega)) r2 r1 qZ))))))))) V [9,8,7,6,2,1,0] [101,0] Z Z fun a w F G=>?_))
  try dsimp only [ZG] at G
  rw [hw1] at G
  simp only [Yb] at G
  have hg:=Zih (x:=x) hil hl2 hl3
  refine Za (Ya (rZ G (qR rr (qO rr qZ)) V [8,7,6,2,1,0] [101,0] fun G=>(Yh (Zk ?_))))
  obtain ⟨F,G⟩:=G.rename 101 1 Z rfl
  have G:=G.turn 1 Z (r':=RS.hp (Zw 70 2 ZG (l.take i ++ [x] ++ l.drop i) v40)) (fun _ _ _ _ h=>by rw [hg];exact h)
  refine Z2 (h':=fun v=>Zw 70 2 ZG (l.take i ++ [x] ++ l.drop i) v) hG G Z (.tmp Z .nil) (.one .one) rfl
 have hcap:l.length+1≤capV v:=by rw [hwn] at hc2;simp at hc2;omega
 refine Ye (Za (Ya (Zb G (qR rr (qR rr (qR rr (qf (o_add .t .t) r2 qz (qf (Zez (sz:=2) 1 (.mk Ycf kr) .is .t (by rw [hwn];omega) ow) r2 r1 (qO rr qZ)))))) V [8,7,6,2,1,0] [1,0] (fun _=>rfl) (fun _=>rfl) fun τ a w F G=>?_)))
 try dsimp only [RS.sub,SF.sub,CF.sub,csub,Anc.sub,List.map,ZG] at G
 generalize τ 60=v60 at G
 refine Za (Ya (Ya (rZ G (qR rr (qR rr (qR rr (qR rr (qf (o_add .t .t) r2 qz (qf (ZaP (sz:=2) 1 (.mk Ycf kr) .is .t (by rw [hw1];omega) (by rw [hw1];omega)) r2 r1 (qf (Zew 1 func146 kr kr kr Z Ycf kr (by intro x;rfl) .t .t (by rw [hw1];omega)) r2 r1 (qf (o_not .t) r1 qz qZ)))))))) V [68,8,7,6,2,1,0] [1,0] fun G=>?_)))
 refine Zc G Z (fun hc3=>?_) (fun hc3=>?_)
 ·refine Ya (Zv G (qR rr (qR rr (qR rr (qf (o_add .t .t) r2 qz (qf (ZaP (sz:=2) 1 (.mk Ycf kr) .is .t (by rw [hw1];omega) (by rw [hw1];omega)) r2 r1 (qR rr (qR rr (qf (ZaP (sz:=2) 1 (.mk Ycf kr) .is .t ow ow) r2 r1 (qf (Zc8 (k:=i) 1 Ycf kr (by intro x;rfl) .t .t (by rw [hw1];rfl) Z ow) r2 r1 qZ))))))))) V [8,7,6,2,1,0] [1,0] Z Z fun a w F G=>?_)
  try dsimp only [ZG] at G
  obtain ⟨l4,hl4⟩:∃ y,y=l.take (i+1)++l.drop i:=⟨_,rfl⟩
  rw [← hl4] at G
  have hl4n:l4.length=l.length+1:=by rw [hl4,Yd,Yi,YE];omega
  refine Za (Ya (Ze G (qR rr (qR rr (qf (Z6 (sz:=2) 1 (.mk Ycf kr) .is .t ow ow) r2 r1 (qR rr (qf (o_copy_sub 1 Ycf kr (by intro x;rfl) .t .t (by simp) (by simp;omega)) r2 r1 qZ))))) V [8,7,6,2,1,0] [1,0] Z Z fun a w F G=>?_))
  simp only [Yb] at G
  have hg:=ZfE (x:=x) hil hl4
  refine Za (Ya (rZ G (qR rr (qO rr qZ)) V [8,7,6,2,1,0] [1,0] fun G=>(Yh (Zk ?_))))
  have G:=G.turn 1 Z (r':=RS.hp (Zw 70 2 ZG (l.take i ++ [x] ++ l.drop i) v60)) (fun _ _ _ _ h=>by rw [hg];exact h)
  refine Z2 (h':=fun v=>Zw 70 2 ZG (l.take i ++ [x] ++ l.drop i) v) hG G Z (.tmp Z .nil) (.one .one) rfl
 simp at hc3
theorem Zu4 (l : List Z9) (e : Z9) (k : Int) (hll : l.length ≤ 1000000) (hs : Zcq Za1 l) (f : FuncId) (fn : Func) (cps : List PV) (hf : prog.funcs[f]? = some fn) (hb : fn.body.isSome = true) (hnn : (fn.name == "runtime.NumGoroutine") = false) (hw : ∀ x ∈ l, FnP prog f (.agg (Zau x) :: .agg (Zau e) :: cps) (.int .i64 (Zdf (Za1 x) k))) : FnP prog 195 [.sl Zau l, .agg (Zau e), .clos f cps] (.tup [.int .i64 (lowK Za1 k l), .bool (isK Za1 k l)]) := by
 refine FnP.mk func195 Z ntmps195 Z fun B a w F V hfr G=>Ya ?_
 refine Zb G (qx 101 r1 (qI qB)) V [7,6,4,2,0] [101,0] (fun _=>rfl) (fun _=>rfl) fun τ a w F G=>?_
 try dsimp only [RS.sub,SF.sub,CF.sub,csub,Anc.sub,List.map,zCF,Zau] at G
 generalize τ 4=v4 at G
 refine Za (Ya (rZ G (qR rr (qu Ych r1 (qO rr qZ))) V [8,7,6,4,2,0] [101,0] fun G=>Ya ?_))
 refine rZ G (qR rr (qI (qO rr qZ))) V [10,9,8,7,6,4,2,0] [101,0] fun G=>(Ya (Yg ?_))
 refine Zj (σ:=Nat×Nat) [0,2,4,6,7,8] [0,101] (fun s=>[(9,.pv (.int .i64 (s.1:Int))),(10,.pv (.int .i64 (s.2:Int)))]) (fun s=>[]) (fun s=>s.1≤s.2∧s.2≤l.length∧(∀ q,q<s.1→Za1 (Nn l q)<k) ∧ ∀ q,s.2≤q→q<l.length→k≤Za1 (Nn l q)) (fun s=>s.2 - s.1) ((0),(l.length)) G ⟨rfl,rfl,rfl,rfl,rfl,rfl,rfl,rfl,tv⟩ ⟨rfl,rfl,tv⟩ ⟨Yy _,YL _,fun q hq=>absurd hq (Y3 q),fun q h1 h2=>by omega⟩ ?_
 clear G;intro s a w F hC G
 obtain ⟨i,j⟩:=s
 try dsimp only at hC
 obtain ⟨F,G⟩:=G.nM [10,9,8,7,6,4,2,0] [101,0]
 try dsimp only at G
 obtain ⟨hij,hjl,hlo,hhi⟩:=hC
 have hgs:=ZoK (i:=i) ow hs hlo
 have hgl:=ZdS (i:=i) ow hlo
 refine Ya (Ya (rZ G (qR rr (qR rr (qL r2))) V [17,10,9,8,7,6,4,2,0] [101,0] fun G=>?_))
 refine Zc G Z (fun hc0=>?_) (fun hc0=>?_)
 ·skip
  have hlt:i<j:=by simp at hc0;omega
  refine Ye (Za (Yg (Ya (Ze G (qR rr (qR rr (qf (o_add .t .t) r2 qz (qf (o_conv Yck kr .t) r1 qz (qf (Zcb .t qi (by decide)) r1 qz (qf (o_conv Ycl kr .t) r1 qz (qO rr qZ))))))) V [11,10,9,8,7,6,4,2,0] [101,0] Z Z fun a w F G=>?_))))
  obtain ⟨m,hm⟩:∃ m:Nat,m=(i+j) / 2:=⟨_,rfl⟩
  replace G:=G.ent (i:=11) (s':=.pv (.int .i64 (m:Int))) Z (.int (by rw [hm];exact Zh7 ow))
  obtain ⟨F,G⟩:=G.nM [11,10,9,8,7,6,4,2,0] [101,0]
  refine Za (Ya (Zv G (qR rr (qR rr (qR rr (qy 3 Ych r2 (qf (oR true 3 .t) r1 qz (qe 3 101 r1 r1 (qf (ZM (avs:=[.agg (Zau (Nn l m)),.agg (Zau e)]) .t (hw (Nn l m) (nth_mem ow)) hf hb hnn (Args.two (.pagg .t) (.pagg .t))) r3 qz (qf (ZaD .t qi) r1 qz qZ)))))))) V [31,11,10,9,8,7,6,4,2,0] [101,0] Z Z fun a w F G=>?_))
  try dsimp only [List.map,xD,xE,xT,xU,ldSF,Zau] at G
  try simp only [Yb] at G
  refine Za (Zc G Z (fun hc1=>?_) (fun hc1=>?_))
  ·skip
   have hmk:Za1 (Nn l m)<k:=ZeD.1 (by simpa using hc1)
   obtain ⟨i2,hi2e⟩:∃ z,z=m+1:=⟨_,rfl⟩
   obtain ⟨j2,hj2e⟩:∃ z,z=j:=⟨_,rfl⟩
   have hi2:IntKind.wrap .i64 ((m:Int)+1)=(i2:Int):=by rw [hi2e];exact Zd ow
   have hj2:(j:Int)=(j2:Int):=by rw [hj2e]
   have hmu:j2 - i2<j - i:=by omega
   have hC2:i2≤j2∧j2≤l.length∧(∀ q,q<i2→Za1 (Nn l q)<k) ∧ ∀ q,j2≤q→q<l.length→k≤Za1 (Nn l q):=⟨by omega,by omega,fun q hq=>Int.lt_of_le_of_lt (ZbK hs ow ow) hmk,by rw [hj2e];exact hhi⟩
   refine Ze G (qR rr (qp r1 (qO rr qZ))) V [10,9,8,7,6,4,2,0] [101,0] Z Z fun a w F G=>Zh (Za ?_)
   replace G:=G.ent (i:=9) (s':=.pv (.int .i64 (i2:Int))) Z (.int hi2)
   replace G:=G.ent (i:=10) (s':=.pv (.int .i64 (j2:Int))) Z (.int hj2)
   obtain ⟨F,G⟩:=G.nM [8,7,6,4,2,0,10,9] [101,0]
   exact ⟨((i2),(j2)),F,hC2,G,hmu⟩
  have hmk:k≤Za1 (Nn l m):=Int.not_lt.1 fun e=>(show ¬ Zdf (Za1 (Nn l m)) k<0 by simpa using hc1) (ZeD.2 e)
  obtain ⟨i2,hi2e⟩:∃ z,z=i:=⟨_,rfl⟩
  obtain ⟨j2,hj2e⟩:∃ z,z=m:=⟨_,rfl⟩
  have hi2:(i:Int)=(i2:Int):=by rw [hi2e]
  have hj2:(m:Int)=(j2:Int):=by rw [hj2e]
  have hmu:j2 - i2<j - i:=by omega
  have hC2:i2≤j2∧j2≤l.length∧(∀ q,q<i2→Za1 (Nn l q)<k) ∧ ∀ q,j2≤q→q<l.length→k≤Za1 (Nn l q):=⟨by omega,by omega,by rw [hi2e];exact hlo,fun q h1 h2=>YbO hmk (ZbK hs ow h2)⟩
  refine Ze G (qR rr (qO rr qZ)) V [10,9,8,7,6,4,2,0] [101,0] Z Z fun a w F G=>Zh (Za ?_)
  replace G:=G.ent (i:=9) (s':=.pv (.int .i64 (i2:Int))) Z (.int hi2)
  replace G:=G.ent (i:=10) (s':=.pv (.int .i64 (j2:Int))) Z (.int hj2)
  obtain ⟨F,G⟩:=G.nM [8,7,6,4,2,0,10,9] [101,0]
  exact ⟨((i2),(j2)),F,hC2,G,hmu⟩
 have hjj:i=j:=by simp at hc0;omega
 subst hjj
 have hgl2:=hgl hhi
 have hgs2:=hgs hhi
 have hb2:(decide ((i:Int)<(l.length:Int)) && decide (Zdf (Za1 (Nn l i)) k=0))=isK Za1 k l:=by
   rw [Yai,hgs2]
   simp [ZkU]
 refine Yx (Zi (Zi (Zn (Za (Ya (Zv G (qR rr (qR rr (qR rr (qf (ZaD .t .t) r2 qz (qR rr (qm Z Z Z Z (qm Z Z Z Z (qm Z Z Z Z (qk Z (fun h=>o_indexAddr_sl (sz:=3) (.mk Ych kr) (by intro x;rfl) (.w h) (.w h) ow (by have:=Yr h;omega)) r3 qz (qk Z (fun h=>oR true 3 (.w h)) r2 qz (qk Z (fun h=>oL true 3 101 .is) r2 r1 (qk Z (fun h=>ZM (avs:=[.agg (Zau (Nn l i)),.agg (Zau e)]) (.w h) (hw (Nn l i) (nth_mem (by have:=Yr h;omega))) hf hb hnn (Args.two (.pagg (.w h)) (.pagg (.w h)))) r4 qz (qk Z (fun h=>o_eql (.w h) qi) r2 qz (qf (ZD .t .t) r2 qz (qO rr (qO rr qZ)))))))))))))))) V [7,6] [0] Z Z fun a w F G=>?_))))))
 try dsimp only [List.map,xD,xE,xT,xU,ldSF,Zau] at G
 try simp only [Yb] at G
 refine Za (Yh (Z5 hfr G Z (.tmp Z (.tmp Z .nil)) (.two (.int (by rw [hgl2])) (.bool hb2))))
theorem Zva (v:Value) (l:List Z9) (i:Nat) (x:Z9) (hll:l.length≤1000000) (hi:i≤l.length):FnG prog 197 1 [.is v,.int .i64 i,.sl Zau [x]] [Zw 217 3 Zau l v] (PV.one) (fun v=>[Zw 217 3 Zau (l.take i ++ [x] ++ l.drop i) v]):=by
 refine FnG.mk func197 Z ntmps197 Z kr fun B F0 a w F V hG G=>?_
 replace G:=G.turn 1 Z (r':=.ob (.val v) (Zw 217 3 Zau l)) (fun _ _ _ _ h=>h)
 refine Ya (rZ G (qC qZ) V [6,2,1,0] [1,0] fun G=>Ya ?_)
 refine rZ G (qR rr (qR rr (qf (ZgE (sz:=3) 1 (.mk Ych kr) .is .t ow ow) r2 r1 qZ))) V [6,2,1,0] [1,0] fun G=>Ya ?_
 refine Ze G (qR rr (qu Ych r1 (qO rr qZ))) V [7,6,2,1,0] [1,0] Z Z fun a w F G=>?_
 replace G:=G.ent (i:=7) (s':=.pv (.int .i64 1)) Z (.int Z)
 obtain ⟨F,G⟩:=G.nM [7,6,2,1,0] [1,0]
 refine Za (Ya (Ya (rZ G (qR rr (qf (o_eql .t qi) r1 qz qZ)) V [16,7,6,2,1,0] [1,0] fun G=>?_)))
 refine Zc G Z (fun hc0=>?_) (fun hc0=>?_)
 ·simp at hc0
 refine Ye (Za (Ya (rZ G (qR rr (qf (ZX 1 Ych .is) r1 r1 (qO rr qZ))) V [8,7,6,2,1,0] [1,0] fun G=>(Ya (Ya ?_)))))
 refine rZ G (qR rr (qR rr (qf (o_eql .t .t) r2 qz qZ))) V [22,8,7,6,2,1,0] [1,0] fun G=>?_
 refine Zc G Z (fun hc1=>?_) (fun hc1=>?_)
 ·have hg:=ZkG (x:=x) (by have h9:=hc1;simp at h9;omega:i=l.length)
  refine Ya (Zb G (qR rr (qR rr (qf (ZP (sz:=3) (bs:=24) 1 (.mk' Ych kr kr) (by intro x;rfl) .is (.sl .t) (by simp only [Yl,Yw];omega) (by decide)) ⟨rfl,rfl,tv⟩ ⟨rfl,tv⟩ (qO rr qZ)))) V [8,7,6,2,1,0] [1,0] (fun _=>rfl) (fun _=>rfl) fun τ a w F G=>?_)
  try dsimp only [RS.sub,SF.sub,CF.sub,csub,Anc.sub,List.map,xC,xN,Zau] at G
  generalize τ 25=v25 at G
  refine Za (Yh (Zk ?_))
  have G:=G.turn 1 Z (r':=RS.hp (Zw 217 3 Zau (l.take i ++ [x] ++ l.drop i) v25)) (fun _ _ _ _ h=>by rw [hg];exact h)
  refine Z2 (h':=fun v=>Zw 217 3 Zau (l.take i ++ [x] ++ l.drop i) v) hG G Z (.tmp Z .nil) (.one .one) rfl
 have hil:i<l.length:=by simp at hc1;omega
 have hw1:IntKind.wrap .i64 ((i:Int)+1)=((i+1:Nat):Int):=Zd ow
 have hwn:IntKind.wrap .i64 ((l.length:Int)+1)=((l.length+1:Nat):Int):=Zd ow
 refine Ye (Za (Ya (Ya (rZ G (qR rr (qR rr (qf (o_add .t .t) r2 qz (qR rr (qf (Zfw 1 Ych .is) r1 r1 (qf (ZaG .t .t) r2 qz qZ)))))) V [31,8,7,6,2,1,0] [1,0] fun G=>?_))))
 refine Zc G Z (fun hc2=>?_) (fun hc2=>?_)
 ·have hcap:capV v<l.length+1:=by rw [hwn] at hc2;simp at hc2;omega
  have hw:IntKind.wrap .i64 (IntKind.wrap .i64 ((l.length:Int)+1) - (i:Int))=((l.length+1 - i:Nat):Int):=by rw [hwn,Zy ow];omega
  refine Ya (Zb G (qR rr (qR rr (qf (Zdg (sz:=3) 1 (.mk Ych kr) .is .t ow ow) r2 r1 (qR rr (qR rr (qf (o_add .t .t) r2 qz (qR rr (qf (o_sub .t .t) r2 qz (qf (Zca (R:=Zau) (z:=(⟨0,0,0⟩:Z9)) (bs:=24) (sz:=3) (zs:=[.int .i64 0,.int .i64 0,.int .i64 0]) 1 101 Ych Ycl kr kr kr (by intro x;rfl) (fun _ _=>⟨⟨rfl,rfl,ZcS⟩,⟨rfl,rfl,ZcS⟩,⟨rfl,rfl,ZcS⟩,tv⟩) .t .t ow (by rw [hw];omega) (by rw [hw];omega) (by rw [hw];omega) (by rw [hw];omega)) ⟨rfl,rfl,tv⟩ ⟨rfl,tv⟩ (qO rr qZ)))))))))) V [9,8,7,6,2,1,0] [101,1,0] (fun _=>rfl) (fun _=>rfl) fun τ a w F G=>?_)
  try dsimp only [RS.sub,SF.sub,CF.sub,csub,Anc.sub,List.map,xC,xN,Zau] at G
  generalize τ 40=v40 at G
  rw [hw] at G
  simp only [Yb] at G
  obtain ⟨l2,hl2⟩:∃ y,y=l.take i++List.replicate (l.length+1 - i) (⟨0,0,0⟩:Z9):=⟨_,rfl⟩
  rw [← hl2] at G
  have hl2n:l2.length=l.length+1:=by rw [hl2,Yd,Yi,YU];omega
  obtain ⟨F,G⟩:=G.give 1 0 Z rfl
  obtain ⟨F,G⟩:=G.nM [9,8,7,6,2,1,0] [101,0]
  refine Za (Ya (Ze G (qR rr (qR rr (qf (Z6 (sz:=3) 101 (.mk Ych kr) .is .t ow ow) r2 r1 (qR rr (qf (o_copy_sub 101 Ych kr (by intro x;rfl) .t .t (by simp) (by simp;omega)) r2 r1 qZ))))) V [9,8,7,6,2,1,0] [101,0] Z Z fun a w F G=>?_))
  simp only [Yb] at G
  obtain ⟨l3,hl3⟩:∃ y,y=l2.take i ++ [x] ++ l2.drop (i + [x].length):=⟨_,rfl⟩
  rw [← hl3] at G
  have hl3n:l3.length=l.length+1:=by rw [hl3,Yd,Yd,Yi,YE,hl2n];simp;omega
  refine Za (Ya (Zv G (qR rr (qR rr (qR rr (qf (o_add .t .t) r2 qz (qf (Z6 (sz:=3) 101 (.mk Ych kr) .is .t (by rw [hw1];omega) (by rw [hw1];omega)) r2 r1 (qR rr (qR rr (qf (o_slice_lo (sz:=3) (.mk Ych kr) (by intro x;rfl) .t .t ow ow) r2 qz (qf (o_copy_sub 101 Ych kr (by intro x;rfl) .t .t (by intro h9;have:=Y1 List.length h9;simp at this;omega) (by rw [hw1,YE];omega)) r2 r1 qZ))))))))) V [9,8,7,6,2,1,0] [101,0] Z Z fun a w F G=>?_))
  try dsimp only [Zau] at G
  rw [hw1] at G
  simp only [Yb] at G
  have hg:=Zih (x:=x) hil hl2 hl3
  refine Za (Ya (rZ G (qR rr (qO rr qZ)) V [8,7,6,2,1,0] [101,0] fun G=>(Yh (Zk ?_))))
  obtain ⟨F,G⟩:=G.rename 101 1 Z rfl
  have G:=G.turn 1 Z (r':=RS.hp (Zw 217 3 Zau (l.take i ++ [x] ++ l.drop i) v40)) (fun _ _ _ _ h=>by rw [hg];exact h)
  refine Z2 (h':=fun v=>Zw 217 3 Zau (l.take i ++ [x] ++ l.drop i) v) hG G Z (.tmp Z .nil) (.one .one) rfl
 have hcap:l.length+1≤capV v:=by rw [hwn] at hc2;simp at hc2;omega
 refine Ye (Za (Ya (Zb G (qR rr (qR rr (qR rr (qf (o_add .t .t) r2 qz (qf (Zez (sz:=3) 1 (.mk Ych kr) .is .t (by rw [hwn];omega) ow) r2 r1 (qO rr qZ)))))) V [8,7,6,2,1,0] [1,0] (fun _=>rfl) (fun _=>rfl) fun τ a w F G=>?_)))
 try dsimp only [RS.sub,SF.sub,CF.sub,csub,Anc.sub,List.map,Zau] at G
 generalize τ 60=v60 at G
 refine Za (Ya (Ya (rZ G (qR rr (qR rr (qR rr (qR rr (qf (o_add .t .t) r2 qz (qf (ZaP (sz:=3) 1 (.mk Ych kr) .is .t (by rw [hw1];omega) (by rw [hw1];omega)) r2 r1 (qf (Zew 1 func219 kr kr kr Z Ych kr (by intro x;rfl) .t .t (by rw [hw1];omega)) r2 r1 (qf (o_not .t) r1 qz qZ)))))))) V [68,8,7,6,2,1,0] [1,0] fun G=>?_)))
 refine Zc G Z (fun hc3=>?_) (fun hc3=>?_)
 ·refine Ya (Zv G (qR rr (qR rr (qR rr (qf (o_add .t .t) r2 qz (qf (ZaP (sz:=3) 1 (.mk Ych kr) .is .t (by rw [hw1];omega) (by rw [hw1];omega)) r2 r1 (qR rr (qR rr (qf (ZaP (sz:=3) 1 (.mk Ych kr) .is .t ow ow) r2 r1 (qf (Zc8 (k:=i) 1 Ych kr (by intro x;rfl) .t .t (by rw [hw1];rfl) Z ow) r2 r1 qZ))))))))) V [8,7,6,2,1,0] [1,0] Z Z fun a w F G=>?_)
  try dsimp only [Zau] at G
  obtain ⟨l4,hl4⟩:∃ y,y=l.take (i+1)++l.drop i:=⟨_,rfl⟩
  rw [← hl4] at G
  have hl4n:l4.length=l.length+1:=by rw [hl4,Yd,Yi,YE];omega
  refine Za (Ya (Ze G (qR rr (qR rr (qf (Z6 (sz:=3) 1 (.mk Ych kr) .is .t ow ow) r2 r1 (qR rr (qf (o_copy_sub 1 Ych kr (by intro x;rfl) .t .t (by simp) (by simp;omega)) r2 r1 qZ))))) V [8,7,6,2,1,0] [1,0] Z Z fun a w F G=>?_))
  simp only [Yb] at G
  have hg:=ZfE (x:=x) hil hl4
  refine Za (Ya (rZ G (qR rr (qO rr qZ)) V [8,7,6,2,1,0] [1,0] fun G=>(Yh (Zk ?_))))
  have G:=G.turn 1 Z (r':=RS.hp (Zw 217 3 Zau (l.take i ++ [x] ++ l.drop i) v60)) (fun _ _ _ _ h=>by rw [hg];exact h)
  refine Z2 (h':=fun v=>Zw 217 3 Zau (l.take i ++ [x] ++ l.drop i) v) hG G Z (.tmp Z .nil) (.one .one) rfl
 simp at hc3
theorem Zpf (l : List OrdD) (p : OrdD → Bool) (f : FuncId) (fn : Func) (cps : List PV) (hf : prog.funcs[f]? = some fn) (hb : fn.body.isSome = true) (hnn : (fn.name == "runtime.NumGoroutine") = false) (hw : ∀ x, FnP prog f (.agg (ZG x) :: cps) (.bool (p x))) : FnP prog 40 [.sl ZG l, .clos f cps] (.int .i64 (Z3 p l)) := by
 refine FnP.mk func40 Z ntmps40 Z fun B a w F V hfr G=>?_
 have hll:=Sat.lenSl G (i:=0) rfl
 refine Ya (rZ G (qI qZ) V [4,1,0] [0] fun G=>(Ya (Ya ?_)))
 refine rZ G (qR rr (qu Ycf r1 (qJ qZ))) V [8,7,4,1,0] [0] fun G=>Yg ?_
 refine Zj (σ:=(Nat)) [0,1,4,7] [0] (fun s=>[(8,.pv (.int .i64 (s:Int)))]) (fun s=>[]) (fun s=>s≤l.length∧(∀ k,k<s→p (Nn l k)=false)) (fun s=>l.length - s) (0) G ⟨rfl,rfl,rfl,rfl,rfl,tv⟩ ⟨rfl,tv⟩ ⟨Yy _,fun k hk=>absurd hk (Y3 k)⟩ ?_
 clear G;intro i a w F hC G
 try dsimp only at hC
 obtain ⟨F,G⟩:=G.nM [8,7,4,1,0] [0]
 try dsimp only at G
 obtain ⟨hi,hq⟩:=hC
 refine Ya (rZ G (qL r2) V [9,8,7,4,1,0] [0] fun G=>Ya ?_)
 refine Zc G Z (fun hc0=>?_) (fun hc0=>?_)
 ·skip
  have hil:i<l.length:=by simp at hc0;omega
  refine Ye (Za (Ya (Yg (Ya (rZ G (qR rr (qO rr qZ)) V [8,7,5,4,1,0] [0] fun G=>Ya ?_)))))
  refine Ze G (qR rr (qR rr (qR rr (qy 2 Ycf r2 (qf (oR true 2 .t) r1 qz (qf (ZM (avs:=[.agg (ZG (Nn l i))]) .t (hw (Nn l i)) hf hb hnn (Args.one (.pagg .t))) r2 qz qZ)))))) V [16,8,7,5,4,1,0] [0] Z Z fun a w F G=>?_
  try simp only [Yb] at G
  refine Za (Zc G Z (fun hc1=>?_) (fun hc1=>?_))
  ·skip
   have hg:(i:Int)=Z3 p l:=(Zcl hil hc1 hq).symm
   refine Ya (rZ G (qR rr (qO rr qZ)) V [8,7,4,1,0] [0] fun G=>(Yh (Zz (Zk (Zk (Zz (Zk ?_)))))))
   refine Zs hfr G Z Z Z (.int hg)
  have hne:p (Nn l i)=false:=hc1
  refine Ye (Zh (Za (rZ G (qp r1 (qR rr qZ)) V [8,7,4,1,0] [0] fun G=>?_)))
  replace G:=G.ent (i:=8) (s':=.pv (.int .i64 ((i+1:Nat):Int))) Z (.int (Zd ow))
  obtain ⟨F,G⟩:=G.nM [7,4,1,0,8] [0]
  exact ⟨(i+1),F,⟨by omega,(fun k hk=>by rcases Y0 (Y7 hk) with h | h;exact hq k h;rw [h];exact hne)⟩,G,by omega⟩
 have hil:i=l.length:=by simp at hc0;omega
 have hg : -1=Z3 p l:=(Zbm fun k hk=>hq k (by simp at hc0;omega)).symm
 refine Yx (Zi (Zi (Zn (Za (Ya (rZ G (qI qZ) V [4] [0] fun G=>Yh ?_))))))
 refine Zs hfr G Z Z Z (.int hg)
theorem ZuD (v : Value) (l : List OrdD) (hll : l.length ≤ 1000000) (p : OrdD → Bool) (f : FuncId) (fn : Func) (cps : List PV) (hf : prog.funcs[f]? = some fn) (hb : fn.body.isSome = true) (hnn : (fn.name == "runtime.NumGoroutine") = false) (hw : ∀ x, FnP prog f (.agg (ZG x) :: cps) (.bool (p x))) : FnG prog 106 1 [.is v, .clos f cps] [Zw 70 2 ZG l v] (PV.one) (fun v => [Zw 70 2 ZG (l.filter fun x => !p x) v]) := by
 refine FnG.mk func106 Z ntmps106 Z kr fun B F0 a w F V hG G=>?_
 replace G:=G.turn 1 Z (r':=.ob (.val v) (Zw 70 2 ZG l)) (fun _ _ _ _ h=>h)
 refine Ya (rZ G (qC qZ) V [4,1,0] [1,0] fun G=>Ya ?_)
 refine rZ G (qR rr (qR rr (qf (OpC.lendRow 1 [8] (oP (Zpf l p f fn cps hf hb hnn hw) func40 (Args.two .t .t)) ⟨rfl,tv,tv⟩ (.pv (fun _ _ _ _ h=>h)) trivial (by rfl)) r2 r1 (qO rr qZ)))) V [5,4,1,0] [1,0] fun G=>(Ya (Ya ?_))
 refine rZ G (qR rr (qf (o_eql .t qi) r1 qz qZ)) V [12,5,4,1,0] [1,0] fun G=>?_
 refine Zc G Z (fun hc0=>?_) (fun hc0=>?_)
 ·skip
  have hno:=(Zaw p l).resolve_right (by rintro ⟨i,h1,_⟩;simp at hc0;omega)
  have hg:(l.filter fun x=>!p x)=l:=Zdh hno.2
  refine Ya (rZ G (qR rr (qO rr qZ)) V [5,4,1,0] [1,0] fun G=>(Yh (Zk ?_)))
  have G:=G.turn 1 Z (r':=RS.hp (Zw 70 2 ZG (l.filter fun x=>!p x) v)) (fun _ _ _ _ h=>by rw [hg];exact h)
  refine Z2 (h':=fun v=>Zw 70 2 ZG (l.filter fun x=>!p x) v) hG G Z (.tmp Z .nil) (.one .one) rfl
 obtain ⟨i0,hi0,hi1,hip,hib⟩:=(Zaw p l).resolve_left (by rintro ⟨h1,_⟩;simp [h1] at hc0)
 have hst0:=ZeC hi1 hip hib
 refine Ye (Za (Ya (Ya (rZ G (qR rr (qp r1 (qO rr qZ))) V [6,5,4,1,0] [1,0] fun G=>Yg ?_))))
 have hC0:i0<i0+1∧i0+1≤l.length∧l.length=l.length∧l.take i0=(l.take (i0+1)).filter (fun x=>!p x) ∧ ∀ k,i0+1≤k→k<l.length→Nn l k=Nn l k:=⟨by omega,by omega,rfl,hst0,fun k _ _=>rfl⟩
 replace G:=G.ent (i:=5) (s':=.pv (.int .i64 (i0:Int))) Z (.int hi0)
 replace G:=G.ent (i:=6) (s':=.pv (.int .i64 ((i0+1:Nat):Int))) Z (.int (by rw [hi0,Zy ow];omega))
 refine Zj (σ:=Nat×Nat×List OrdD) [0,1,4] [0] (fun s=>[(5,.pv (.int .i64 (s.1:Int))),(6,.pv (.int .i64 (s.2.1:Int)))]) (fun s=>[(1,.ob (.val v) (Zw 70 2 ZG s.2.2))]) (fun s=>s.1<s.2.1∧s.2.1≤l.length∧s.2.2.length=l.length∧s.2.2.take s.1=(l.take s.2.1).filter (fun x=>!p x) ∧ ∀ k,s.2.1≤k→k<l.length→Nn s.2.2 k=Nn l k) (fun s=>l.length - s.2.1) ((i0),(i0+1),(l)) G ⟨rfl,rfl,rfl,rfl,rfl,tv⟩ ⟨rfl,rfl,tv⟩ hC0 ?_
 clear G;intro s a w F hC G
 obtain ⟨i,j,l1⟩:=s
 try dsimp only at hC
 obtain ⟨F,G⟩:=G.nM [6,5,4,1,0] [1,0]
 try dsimp only at G
 obtain ⟨hij,hj,hll1,htk,hrest⟩:=hC
 refine Ya (Ya (rZ G (qR rr (qR rr (qf (ZX 1 Ycf .is) r1 r1 (qL r2)))) V [19,6,5,4,1,0] [1,0] fun G=>?_))
 refine Zc G Z (fun hc1=>?_) (fun hc1=>?_)
 ·skip
  have hjl:j<l.length:=by simp at hc1;omega
  have hnj:Nn l1 j=(Nn l j):=hrest j (YL _) hjl
  have hfs:=Zct (p:=fun x=>!p x) hjl
  refine Ye (Za (Ya (Yg (Ya (Zb G (qR rr (qR rr (qf (o_indexAddr_row (sz:=2) 1 (.mk Ycf kr) .is .t ow ow (by rfl)) r2 r1 (qf (Zt (ag:=true) (sz':=2) (sz:=2) 1 .t (by intro x;rfl) ow kr kr kr) r1 r1 (qf (oH [.int .i64 0,.slice none 0 0] 101) trivial qz (qS 2 101 r2 r1 qZ)))))) V [7,6,5,4,1,0] [101,1,0] (fun _=>rfl) (fun _=>rfl) fun τ a w F G=>?_)))))
  try dsimp only [RS.sub,SF.sub,CF.sub,csub,Anc.sub,List.map,Zf,xL,xM,Nat.reduceAdd,xD,xE,xT,xU,xC,xN,zCF,ldSF,ZG] at G
  generalize τ 7=v7 at G
  try simp only [Yb] at G
  rw [hnj] at G
  refine Za (Ya (rZ G (qR rr (qe 2 101 r1 r1 (qf (ZM (avs:=[.agg (ZG (Nn l j))]) .t (hw (Nn l j)) hf hb hnn (Args.one (.pagg .t))) r2 qz (qf (o_not .t) r1 qz qZ)))) V [29,7,6,5,4,1,0] [101,1,0] fun G=>?_))
  refine Zc G Z (fun hc2=>?_) (fun hc2=>?_)
  ·skip
   have hp:p (Nn l j)=false:=by simpa using hc2
   obtain ⟨i2,hi2e⟩:∃ i2,i2=i+1:=⟨_,rfl⟩
   have hi2:IntKind.wrap .i64 ((i:Int)+1)=(i2:Int):=by rw [hi2e];exact Zd ow
   obtain ⟨l2,hl2⟩:∃ l2,l2=l1.set i (Nn l j):=⟨_,rfl⟩
   have hC2:i2<j+1∧j+1≤l.length∧l2.length=l.length∧l2.take i2=(l.take (j+1)).filter (fun x=>!p x) ∧ ∀ k,j+1≤k→k<l.length→Nn l2 k=Nn l k:=⟨by omega,by omega,by rw [hl2,YJ];exact hll1,by rw [hl2,hi2e,hfs,hp,← htk,Zo (by rw [YJ];omega),YbH (YL _),nth_eq (by rw [YJ];omega),Yba];rfl,fun k hk hk2=>by rw [hl2,nth_eq (by rw [YJ];omega),YbI ow,← nth_eq ow];exact hrest k ow hk2⟩
   refine Ya (Ze G (qR rr (qR rr (qe 2 101 r1 r1 (qf (o_indexAddr_row (sz:=2) 1 (.mk Ycf kr) .is .t ow ow (by rfl)) r2 r1 (qf (ZdM (sz:=2) 1 .t (by intro x;rfl) ow (.conv .t (Ent.aggU (l:=ZG (Nn l j)) Z Z)) kr) r2 r1 qZ))))) V [6,5,4,1,0] [1,0] Z Z fun a w F G=>?_)
   try simp only [Yb] at G
   rw [← hl2] at G
   refine Za (Ze G (qR rr (qp r1 (qO rr qZ))) V [6,5,4,1,0] [1,0] Z Z fun a w F G=>Zh (Za ?_))
   refine rZ G (qR rr (qp r1 (qO rr qZ))) V [6,5,4,1,0] [1,0] fun G=>?_
   have hmu:l.length - (j+1)<l.length - j:=by omega
   replace G:=G.ent (i:=5) (s':=.pv (.int .i64 (i2:Int))) Z (.int hi2)
   replace G:=G.ent (i:=6) (s':=.pv (.int .i64 ((j+1:Nat):Int))) Z (.int (Zd ow))
   obtain ⟨F,G⟩:=G.nM [4,1,0,6,5] [0,1]
   exact ⟨((i2),(j+1),(l2)),F,hC2,G,hmu⟩
  have hp:p (Nn l j)=true:=by simpa using hc2
  obtain ⟨i2,hi2e⟩:∃ i2,i2=i:=⟨_,rfl⟩
  have hi2:(i:Int)=(i2:Int):=by rw [hi2e]
  obtain ⟨l2,hl2⟩:∃ l2,l2=l1:=⟨_,rfl⟩
  rw [← hl2] at G
  have hC2:i2<j+1∧j+1≤l.length∧l2.length=l.length∧l2.take i2=(l.take (j+1)).filter (fun x=>!p x) ∧ ∀ k,j+1≤k→k<l.length→Nn l2 k=Nn l k:=⟨by omega,by omega,by rw [hl2];exact hll1,by rw [hl2,hi2e,hfs,hp,htk];simp,fun k hk hk2=>by rw [hl2];exact hrest k ow hk2⟩
  refine Ye (Zh (Za (rZ G (qR rr (qp r1 (qO rr qZ))) V [6,5,4,1,0] [1,0] fun G=>?_)))
  have hmu:l.length - (j+1)<l.length - j:=by omega
  replace G:=G.ent (i:=5) (s':=.pv (.int .i64 (i2:Int))) Z (.int hi2)
  replace G:=G.ent (i:=6) (s':=.pv (.int .i64 ((j+1:Nat):Int))) Z (.int (Zd ow))
  obtain ⟨F,G⟩:=G.nM [4,1,0,6,5] [0,1]
  exact ⟨((i2),(j+1),(l2)),F,hC2,G,hmu⟩
 have hjl:j=l.length:=by simp at hc1;omega
 have hil2:i<l.length:=by omega
 have hg:(l.filter fun x=>!p x)=(l1.take i++List.replicate (l1.length - i) (⟨0,[]⟩:OrdD)).take i:=by rw [YY (by rw [Yi];omega),YaS,Yb7,htk,hjl,Yz]
 refine Yx (Zi (Zi (Zn (Za (Ya (rZ G (qR rr (qR rr (qf (Z6 (sz:=2) 1 (.mk Ycf kr) .is .t ow ow) r2 r1 (qf (ZbF (R:=ZG) (z:=(⟨0,[]⟩:OrdD)) (zs:=[.int .i64 0,.slice none 0 0]) 1 Ycf kr Z Z (fun _ _=>⟨⟨rfl,rfl,ZcS⟩,⟨rfl,Zi6⟩,tv⟩) (by intro x;rfl) .t (by simp;omega)) r1 r1 qZ)))) V [5,4,0] [1,0] fun G=>Ya ?_))))))
 refine Zb G (qR rr (qR rr (qf (ZbI (sz:=2) 1 (.mk Ycf kr) (by intro x;rfl) .is .t ow (by simp;omega)) r2 r1 (qO rr qZ)))) V [4] [1,0] (fun _=>rfl) (fun _=>rfl) fun τ a w F G=>?_
 try dsimp only [RS.sub,SF.sub,CF.sub,csub,Anc.sub,List.map,ZG] at G
 generalize τ 41=v41 at G
 refine Za (Yh ?_)
 have G:=G.turn 1 Z (r':=RS.hp (Zw 70 2 ZG (l.filter fun x=>!p x) v41)) (fun _ _ _ _ h=>by rw [hg];exact h)
 refine Z2 (h':=fun v=>Zw 70 2 ZG (l.filter fun x=>!p x) v) hG G Z (.tmp Z .nil) (.one .one) rfl
theorem cloneIP_c (l:List Int) (hl:l.length≤1000000):FnP prog 42 [.sl Zm l] (.sl Zm l):=by
 refine FnP.mk func42 Z ntmps42 Z fun B a w F V hfr G=>Ya ?_
 refine rZ G (qC qZ) V [2,0] [0] fun G=>(Ya (Ya ?_))
 refine Ze G (qR rr (qf (ZbA Ycd .t) r1 qz qZ)) V [4,2,0] [0] Z Z fun a w F G=>?_
 obtain ⟨β4,hβ4,G⟩:=G.pickBool 4 rfl
 obtain ⟨F,G⟩:=G.nM [4,2,0] [0]
 refine Za (Zc G Z (fun hc0=>?_) (fun hc0=>?_))
 ·have hg:l = []:=hβ4 hc0
  refine Ya (rZ G (qC qZ) V [2,0] [0] fun G=>(Yh (Zk ?_)))
  refine Zs hfr G Z Z Z (.trans .nilSl (.sl (by rw [hg])))
 have hg:l = [] ++ l:=rfl
 refine Ye (Za (Ya (Zb G (qf (Za4 (R:=Zm) (sz:=1) 101 Ycd kr) trivial qz (qR rr (qf (ZP (sz:=1) (bs:=8) 101 (.mk' Ycd kr kr) (by intro x;rfl) .same (.sl .t) (by simp only [Yd,Yw];omega) (by decide)) ⟨rfl,rfl,tv⟩ ⟨rfl,tv⟩ (qO rr qZ)))) V [2] [101,0] (fun _=>rfl) (fun _=>rfl) fun τ a w F G=>?_)))
 try dsimp only [RS.sub,SF.sub,CF.sub,csub,Anc.sub,List.map,Zf,xL,xM,Nat.reduceAdd,xD,xE,xT,xU,xC,xN,zCF,Zm] at G
 generalize τ 7=v7 at G
 refine Za (Yh ?_)
 obtain ⟨F,G⟩:=G.give 101 2 Z rfl
 refine Zs hfr G Z Z Z (.sl (by rw [hg]))
theorem Zty (g:Zp) (hs:Za7 g):FnG prog 60 1 [.agg (Zu g)] [.star []] (PV.self Zvz) (fun v=>[Zt6 (Zw 30 3 rTx g.txs) (Zw 70 2 ZG g.orders) v]):=by
 refine FnG.mk func60 Z ntmps60 Z kr fun B F0 a w F V hG G=>?_
 have hsl:=hs.1.1
 have hso:=hs.2.1
 obtain ⟨F,G⟩:=G.nM [0] [0]
 refine Ya (Zb G (qx 101 r1 (qf (oH [.slice none 0 0,.slice none 0 0] 102) trivial qz qZ)) V [2,1] [102,101,0] (fun _=>rfl) (fun _=>rfl) fun τ a w F G=>?_)
 try dsimp only [RS.sub,SF.sub,CF.sub,csub,Anc.sub,List.map,zCF,Zu,rTx,ZG,ZT,Zm,rOp] at G
 generalize τ 1=v1,τ 2=v2 at G
 refine Za (Ya (Zb G (qf (oH [.slice none 0 0,.slice none 0 0] 103) trivial qz qZ) V [3,2,1] [103,102,101,0] (fun _=>rfl) (fun _=>rfl) fun τ a w F G=>?_))
 try dsimp only [RS.sub,SF.sub,CF.sub,csub,Anc.sub,List.map,zCF,Zu,rTx,ZG,ZT,Zm,rOp] at G
 generalize τ 3=v3 at G
 refine Za (Ya (Ya (rZ G (qg 0 101 r1 r1 (qa 101 r1 r1 (qu Ycg r1 (qJ qZ)))) V [11,10,9,3,2,1] [103,102,101,0] fun G=>Yg ?_)))
 replace G:=G.fresh 50 rfl
 replace G:=G.turn 50 Z (ZaA (T:=30) (sz:=3) (R:=rTx))
 refine Zj (σ:=(Nat)×(Value)×(List TxD)) [1,2,3,9,10] [0,101,102] (fun s=>[(11,.pv (.int .i64 (s.1:Int)))]) (fun s=>[(103,.pt (.val v3) 25 [.pv (.is s.2.1),.pv (.is (.slice none 0 0))]),(50,.ob (.val s.2.1) (Zw 30 3 rTx s.2.2))]) (fun s=>s.1≤g.txs.length∧(s.2.2=g.txs.take s.1)) (fun s=>g.txs.length - s.1) ((0),(.slice none 0 0),([])) G ⟨rfl,rfl,rfl,rfl,rfl,rfl,tv⟩ ⟨rfl,rfl,rfl,rfl,rfl,tv⟩ ⟨Yy _,rfl⟩ ?_
 clear G;intro s a w F hC G
 obtain ⟨i,va,oa⟩:=s
 try dsimp only at hC
 obtain ⟨F,G⟩:=G.nM [11,10,9,3,2,1] [103,102,101,50,0]
 try dsimp only at G
 obtain ⟨hi,hq⟩:=hC
 have hol:oa.length≤i:=by rw [hq,Yi];omega
 refine Ya (rZ G (qL r2) V [12,11,10,9,3,2,1] [103,102,101,50,0] fun G=>Ya ?_)
 refine Zc G Z (fun hc0=>?_) (fun hc0=>?_)
 ·have hil:i<g.txs.length:=by simp at hc0;omega
  have hio:=hil
  refine Ye (Za (Ya (Yg (Ya (Zb G (qy 3 Ycg r2 (qf (oR true 3 .t) r1 qz (qf (oH [.int .i64 0,.bool false,.slice none 0 0] 104) trivial qz (qS 3 104 r2 r1 qZ)))) V [11,10,9,5,3,2,1] [104,103,102,101,50,0] (fun _=>rfl) (fun _=>rfl) fun τ a w F G=>?_)))))
  try dsimp only [RS.sub,SF.sub,CF.sub,csub,Anc.sub,List.map,Zf,xL,xM,Nat.reduceAdd,xD,xE,xT,xU,xC,xN,zCF,ldSF,Zu,rTx,ZG,ZT,Zm,rOp] at G
  generalize τ 5=v5 at G
  try simp only [Yb] at G
  refine Za (Zax G (qg 0 103 r1 r1 (qa 103 r1 r1 (qe 3 104 r1 r1 (qf (oP (ZhO (Nn g.txs i) (by have:=hs.1.at hio;omega)) func62 (Args.one (.pagg .t))) r1 qz (qf (o_buildSliceE (sz:=3) (zs:=[.int .i64 0,.bool false,.slice none 0 0]) (r:=[(0,.tmp 18)]) (l:=[_,_,_]) Ycg kr kr kr kr Z Z (.agg Z (.conv .t .agg) kr kr .nil) Z) r1 qz (qf (ZP (sz:=3) (bs:=40) 50 (.mk' Ycg kr kr) (by intro x;rfl) .is (.arr (l':=[(Nn g.txs i)]) .t) (by simp only [Yd,Yl,Yw];omega) (by decide)) ⟨rfl,rfl,tv⟩ ⟨rfl,tv⟩ (qg 0 103 r1 r1 (qf (o_storeS 103 .adr kr kr) r2 r1 qZ)))))))) V [11,10,9,3,2,1] [104,103,102,101,50,0] (fun _=>rfl) (fun _=>rfl) fun τ a w F G=>?_)
  try dsimp only [RS.sub,SF.sub,CF.sub,csub,Anc.sub,List.map,Zf,xL,xM,Nat.reduceAdd,xD,xE,xT,xU,xC,xN,zCF,ldSF,Zu,rTx,ZG,ZT,Zm,rOp] at G
  generalize τ 20=v20 at G
  refine Zh (Za (rZ G (qp r1 (qR rr qZ)) V [11,10,9,3,2,1] [104,103,102,101,50,0] fun G=>?_))
  replace G:=G.ent (i:=11) (s':=.pv (.int .i64 ((i+1:Nat):Int))) Z (.int (Zd ow))
  obtain ⟨F,G⟩:=G.nM [10,9,3,2,1,11] [102,101,0,50,103]
  exact ⟨((i+1),_,_),F,⟨by omega,(by rw [Zo hil,← hq])⟩,G,by omega⟩
 have hil:i=g.txs.length:=by simp at hc0;omega
 have hqa:oa=g.txs:=by rw [hq,hil,Yz]
 subst hqa
 refine Yx (Zi (Zi (Zn (Za (Ya (Ya (rZ G (qg 1 101 r1 r1 (qa 101 r1 r1 (qu Ycf r1 (qJ qZ)))) V [26,25,24,3,2] [103,102,101,50,0] fun G=>Yg ?_)))))))
 replace G:=G.fresh 51 rfl
 replace G:=G.turn 51 Z (ZaA (T:=70) (sz:=2) (R:=ZG))
 refine Zj (σ:=(Nat)×(Value)×(List OrdD)) [2,3,24,25] [0,50,101,102] (fun s=>[(26,.pv (.int .i64 (s.1:Int)))]) (fun s=>[(103,.pt (.val v3) 25 [.pv (.is va),.pv (.is s.2.1)]),(51,.ob (.val s.2.1) (Zw 70 2 ZG s.2.2))]) (fun s=>s.1≤g.orders.length∧(s.2.2=g.orders.take s.1)) (fun s=>g.orders.length - s.1) ((0),(.slice none 0 0),([])) G ⟨rfl,rfl,rfl,rfl,rfl,tv⟩ ⟨rfl,rfl,rfl,rfl,rfl,rfl,tv⟩ ⟨Yy _,rfl⟩ ?_
 clear G;intro s a w F hC G
 obtain ⟨i,vb,ob⟩:=s
 try dsimp only at hC
 obtain ⟨F,G⟩:=G.nM [26,25,24,3,2] [103,102,101,51,50,0]
 try dsimp only at G
 obtain ⟨hi,hq⟩:=hC
 have hol:ob.length≤i:=by rw [hq,Yi];omega
 refine Ya (rZ G (qL r2) V [27,26,25,24,3,2] [103,102,101,51,50,0] fun G=>Ya ?_)
 refine Zc G Z (fun hc1=>?_) (fun hc1=>?_)
 ·have hil:i<g.orders.length:=by simp at hc1;omega
  have hio:=hil
  refine Ye (Za (Ya (Yg (Ya (Zb G (qy 2 Ycf r2 (qf (oR true 2 .t) r1 qz (qf (oH [.int .i64 0,.slice none 0 0] 105) trivial qz (qS 2 105 r2 r1 qZ)))) V [26,25,24,7,3,2] [105,103,102,101,51,50,0] (fun _=>rfl) (fun _=>rfl) fun τ a w F G=>?_)))))
  try dsimp only [RS.sub,SF.sub,CF.sub,csub,Anc.sub,List.map,Zf,xL,xM,Nat.reduceAdd,xD,xE,xT,xU,xC,xN,zCF,ldSF,Zu,rTx,ZG,ZT,Zm,rOp] at G
  generalize τ 7=v7 at G
  try simp only [Yb] at G
  refine Za (Zax G (qg 1 103 r1 r1 (qa 103 r1 r1 (qg 0 105 r1 r1 (qa 105 r1 r1 (qg 1 105 r1 r1 (qa 105 r1 r1 (qf (oP (cloneIP_c (Nn g.orders i).txs (by have:=hs.2.at hio;omega)) func42 (Args.one .t)) r1 qz (qf (oB [(0,.tmp 33),(1,.tmp 36)] [.int .i64 0,.slice none 0 0] [(0,1),(1,1)] (.one Z .t one_int kr (.one Z .t one_sl kr .nil))) r2 qz (qf (o_buildSliceE (sz:=2) (zs:=[.int .i64 0,.slice none 0 0]) (r:=[(0,.tmp 37)]) (l:=[_,_]) Ycf kr kr kr kr Z Z (.agg Z .t kr kr .nil) Z) r1 qz (qf (ZP (sz:=2) (bs:=32) 51 (.mk' Ycf kr kr) (by intro x;rfl) .is (.arr (l':=[(Nn g.orders i)]) .t) (by simp only [Yd,Yl,Yw];omega) (by decide)) ⟨rfl,rfl,tv⟩ ⟨rfl,tv⟩ (qg 1 103 r1 r1 (qf (o_storeS 103 .adr kr kr) r2 r1 qZ)))))))))))) V [26,25,24,3,2] [105,103,102,101,51,50,0] (fun _=>rfl) (fun _=>rfl) fun τ a w F G=>?_)
  try dsimp only [RS.sub,SF.sub,CF.sub,csub,Anc.sub,List.map,Zf,xL,xM,Nat.reduceAdd,xD,xE,xT,xU,xC,xN,zCF,ldSF,Zu,rTx,ZG,ZT,Zm,rOp] at G
  generalize τ 39=v39 at G
  refine Zh (Za (rZ G (qp r1 (qR rr qZ)) V [26,25,24,3,2] [105,103,102,101,51,50,0] fun G=>?_))
  replace G:=G.ent (i:=26) (s':=.pv (.int .i64 ((i+1:Nat):Int))) Z (.int (Zd ow))
  obtain ⟨F,G⟩:=G.nM [25,24,3,2,26] [102,101,50,0,51,103]
  exact ⟨((i+1),_,_),F,⟨by omega,(by rw [Zo hil,← hq])⟩,G,by omega⟩
 have hil:i=g.orders.length:=by simp at hc1;omega
 have hqb:ob=g.orders:=by rw [hq,hil,Yz]
 subst hqb
 refine Yx (Zi (Zi (Zn (Za (Ya (rZ G (qe 2 103 r1 r1 (qs 2 102 r2 r1 qZ)) V [2] [103,102,101,51,50,0] fun G=>Yh ?_))))))
 have G:=G.fresh 1 rfl
 obtain ⟨F,G⟩:=G.push 1 51 Z Z Z rfl
 obtain ⟨F,G⟩:=G.push 1 50 Z Z Z rfl
 refine Zu7 hG G Z (.cl 102 true 2 Z Z .nil) (.one (.aggU Z Z)) rfl
end Go.Proofs.YtlkpllemoepamaaGreat
