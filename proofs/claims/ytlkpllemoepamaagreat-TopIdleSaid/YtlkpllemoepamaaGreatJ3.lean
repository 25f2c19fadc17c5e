/- Texts put together. No condition beyond those that each theorem says. -/
import Derived.Test.YtlkpllemoepamaaGreatJ2
import Derived.Test.YtlkpllemoepamaaGreatJ1
import Derived.Test.YtlkpllemoepamaaGreatLibG
import Derived.Test.YtlkpllemoepamaaGreatJ0
import Derived.Test.YtlkpllemoepamaaGreatLibE
namespace Go.Proofs.YtlkpllemoepamaaGreat
open Go Go.Gm Tryz
set_option linter.unusedVariables false
set_option linter.unusedSimpArgs false
set_option maxHeartbeats 4000000
set_option maxRecDepth 8000
theorem Zp6 (g:Zr) (hs:Za1 g.txs):FnG prog 46 1 [.agg (Zw g)] [.star []] (PV.one) (fun v=>[HP.ex fun s:List (GE Int (List Int))×Nat=>HP.and (WrL s.1 g.txs) (ZbF (fun l:List Int=>PV.sl Zn l) (fun _=>True) (fun n:Int=>Value.int .i64 n) s.1 s.2 v)]):=by
 refine FnG.mk func46 rfl ntmps46 rfl kr fun B F0 a w F V hG G=>?_
 have hsl:=hs.1
 obtain ⟨F,G⟩:=G.nM [0] [0]
 refine Ya (Zb G (qx 101 r1 (qC qZ)) V [2,1] [101,0] (fun _=>rfl) (fun _=>rfl) fun τ a w F G=>?_)
 try dsimp only [RS.sub,SF.sub,CF.sub,csub,Anc.sub,List.map,zCF,Zw,rTx,ZJ,ZT,Zn,rOp] at G
 generalize τ 1=v1 at G
 refine Za (Ya (Zb G (qf (Za0 (ek:=(fun p:Value×List Int=>PV.is p.1)) (ok:=(fun _=>True)) (kv:=(fun n:Int=>Value.int .i64 n)) 102) trivial qz (qO rr qZ)) V [3,2,1] [102,101,0] (fun _=>rfl) (fun _=>rfl) fun τ a w F G=>?_))
 try dsimp only [RS.sub,SF.sub,CF.sub,csub,Anc.sub,List.map,Zf,xL,xM,Nat.reduceAdd,xD,xE,xT,xU,xC,xN,zCF,Zw,rTx,ZJ,ZT,Zn,rOp] at G
 generalize τ 8=v8 at G
 replace G:=G.fresh 60 rfl
 replace G:=G.turn 60 rfl (r':=ZqY 3 1 Zn ([]:List (GE Int (Value×List Int)))) (fun _ _ _ _ h=>h)
 obtain ⟨F,G⟩:=G.nM [3,2,1] [102,101,60,0]
 refine Za (Ya (Ya (rZ G (qg 0 101 r1 r1 (qa 101 r1 r1 (qu Ycg r1 (qJ qZ)))) V [12,11,10,3,2] [102,101,60,0] fun G=>Yg ?_)))
 refine Zl (σ:=(Nat)×(List (GE Int (Value×List Int)))×(Nat)) [2,3,10,11] [0,101] (fun s=>[(12,.pv (.int .i64 (s.1:Int)))]) (fun s=>[(102,.ob (.val v8) (ZbF (fun p:Value×List Int=>PV.is p.1) (fun _=>True) (fun n:Int=>Value.int .i64 n) s.2.1 s.2.2)),(60,ZqY 3 1 Zn s.2.1)]) (fun s=>s.1≤g.txs.length∧(WrV s.2.1 (g.txs.take s.1) 0 [])) (fun s=>g.txs.length - s.1) ((0),([]),(0)) G ⟨rfl,rfl,rfl,rfl,rfl,tv⟩ ⟨rfl,rfl,rfl,rfl,tv⟩ ⟨Yx _,Zuy⟩ ?_
 clear G;intro s a w F hC G
 obtain ⟨i,es,ck⟩:=s
 try dsimp only at hC
 obtain ⟨F,G⟩:=G.nM [12,11,10,3,2] [102,101,60,0]
 try dsimp only at G
 obtain ⟨hi,hq⟩:=hC
 have hxl:=fun hil:i<g.txs.length=>hs.at hil
 refine Ya (rZ G (qL r2) V [13,12,11,10,3,2] [102,101,60,0] fun G=>Ya ?_)
 refine Zc G rfl (fun hc0=>?_) (fun hc0=>?_)
 ·have hil:i<g.txs.length:=by simp at hc0;omega
  have hio:=hil
  have hw0:=hq
  have htl:=hxl hil
  have hkt:=Zd5 (Nn g.txs i)
  have hsl:=hs.1
  refine Ye (Za (Ya (Yg (Ya (Zb G (qy 3 Ycg r2 (qf (oR true 3 .t) r1 qz (qf (oH [.int .i64 0,.bool false,.slice none 0 0] 103) trivial qz (qS 3 103 r2 r1 qZ)))) V [12,11,10,5,3,2] [103,102,101,60,0] (fun _=>rfl) (fun _=>rfl) fun τ a w F G=>?_)))))
  try dsimp only [RS.sub,SF.sub,CF.sub,csub,Anc.sub,List.map,Zf,xL,xM,Nat.reduceAdd,xD,xE,xT,xU,xC,xN,zCF,ldSF,Zw,rTx,ZJ,ZT,Zn,rOp] at G
  generalize τ 5=v5 at G
  try simp only [Yb] at G
  refine Za (Ya (Ya (rZ G (qg 1 103 r1 r1 (qa 103 r1 r1 (qf (o_not .t) r1 qz qZ))) V [18,12,11,10,5,3,2] [103,102,101,60,0] fun G=>?_)))
  refine Zc G rfl (fun hc1=>?_) (fun hc1=>?_)
  ·have hdn:(Nn g.txs i).done=false:=by simpa using hc1
   obtain ⟨es2,he2⟩:∃ z,z=es:=⟨_,rfl⟩
   obtain ⟨ck2,hc2⟩:∃ z,z=ck:=⟨_,rfl⟩
   have hR2:WrV es2 (g.txs.take (i+1)) 0 []:=by rw [he2];exact Zt3 hw0 hio hdn
   rw [← he2,← hc2] at G
   refine Yw (Zj (Zo (Za (rZ G (qp r1 (qR rr qZ)) V [12,11,10,3,2] [103,102,101,60,0] fun G=>?_))))
   replace G:=G.ent (i:=12) (s':=.pv (.int .i64 ((i+1:Nat):Int))) rfl (.int (Zd ow))
   obtain ⟨F,G⟩:=G.nM [11,10,3,2,12] [101,0,60,102]
   exact ⟨((i+1),(es2),(ck2)),F,⟨by omega,hR2⟩,G,by omega⟩
  have hdn:(Nn g.txs i).done=true:=by simpa using hc1
  refine Ye (Za (Ya (Ze G (qe 3 103 r1 r1 (qf (oP (ZnX (Nn g.txs i) (by have:=hxl hio;omega)) func91 (Args.one (.pagg .t))) r1 qz (qu Ycd r1 (qJ qZ)))) V [22,21,20,12,11,10,5,3,2] [103,102,101,60,0] rfl rfl fun a w F G=>?_)))
  rw [show Zbr (((Nn g.txs i).ops.filter fun o=>!o.read).map OpD.key)=Zaa (Nn g.txs i) from rfl] at G
  refine Za (Yg (Zl (σ:=(Nat)×(List (GE Int (Value×List Int)))×(Nat)) [2,3,5,10,11,12,20,21] [0,101,103] (fun s=>[(22,.pv (.int .i64 (s.1:Int)))]) (fun s=>[(102,.ob (.val v8) (ZbF (fun p:Value×List Int=>PV.is p.1) (fun _=>True) (fun n:Int=>Value.int .i64 n) s.2.1 s.2.2)),(60,ZqY 3 1 Zn s.2.1)]) (fun s=>s.1≤(Zaa (Nn g.txs i)).length∧(WrV s.2.1 (g.txs.take i) (Nn g.txs i).id ((Zaa (Nn g.txs i)).take s.1))) (fun s=>(Zaa (Nn g.txs i)).length - s.1) ((0),(es),(ck)) G ⟨rfl,rfl,rfl,rfl,rfl,rfl,rfl,rfl,rfl,tv⟩ ⟨rfl,rfl,rfl,rfl,rfl,tv⟩ ⟨Yx _,(by simpa using ZrL hw0)⟩ ?_))
  clear G;intro s a w F hC G
  obtain ⟨j,es,ck⟩:=s
  try dsimp only at hC
  obtain ⟨F,G⟩:=G.nM [22,21,20,12,11,10,5,3,2] [103,102,101,60,0]
  try dsimp only at G
  obtain ⟨hi,hq⟩:=hC
  refine Ya (rZ G (qL r2) V [23,22,21,20,12,11,10,5,3,2] [103,102,101,60,0] fun G=>Ya ?_)
  refine Zc G rfl (fun hc2=>?_) (fun hc2=>?_)
  ·have hil:j<(Zaa (Nn g.txs i)).length:=by simp at hc2;omega
   have hwo:=ZsI hq (ZfY _) hil
   have hwn:=ZeO (g.txs.take i) (Nn (Zaa (Nn g.txs i)) j)
   rw [Yi] at hwn
   rw [← hwo] at hwn
   refine Ye (Za (Ya (Yg (Ya (Ze G (qy 1 Ycd r2 (qf (oR false 1 .t) r1 qz (qO rr qZ))) V [22,21,20,12,11,10,7,5,3,2] [103,102,101,60,0] rfl rfl fun a w F G=>?_)))))
   try simp only [Yb] at G
   refine Za (Zat 5 G kr (cG rfl (oM .t) r1 trivial (cG rfl (oM .t) r1 trivial (cG rfl (oM .t) r1 trivial (cG rfl (oM .t) r1 trivial (cG rfl (Zap (ek:=(fun p:Value×List Int=>PV.is p.1)) (z0:=Zh8) 102 underlying83 (ZcA Ycl) kr (fun _ _=>⟨rfl,rfl⟩) .is (ZL.int .t rfl)) r2 r1 ChainN.nil))))) kr (by rw [V];kernel_rfl) fun a w F G=>?_)
   obtain ⟨F,G⟩:=G.nM [30,27,26,22,21,20,12,11,10,5,3,2] [103,102,101,60,0]
   try dsimp only [Zw,rTx,ZJ,ZT,Zn,rOp] at G
   obtain ⟨F,G⟩:=G.takeKey (T:=3) (sz:=1) (R:=Zn) 60 61 (Nn (Zaa (Nn g.txs i)) j) rfl rfl
   obtain ⟨F,G⟩:=G.nM [30,27,26,22,21,20,12,11,10,5,3,2] [103,102,101,61,60,0]
   refine ZjF 4 G kr (cG rfl (oF 0 103 .is) r1 r1 (cG rfl (oL false 1 103 .adr) r1 r1 (cG rfl (o_buildSliceE (sz:=1) (zs:=[.int .i64 0]) (r:=[(0,.tmp 32)]) (l:=[_]) Ycd kr kr kr kr rfl rfl (.one rfl .t one_int kr .nil) rfl) r1 trivial (cG rfl (ZR (sz:=1) (bs:=8) 61 (.mk' Ycd kr kr) (by intro x;rfl) .is (.arr (l':=[_]) .t) (by simp only [Yd,Yl,Yy];omega) (by decide)) ⟨rfl,rfl,tv⟩ ⟨rfl,tv⟩ ChainN.nil)))) kr (by rw [V];kernel_rfl) fun a w F G=>?_
   replace G:=G.sub
   obtain ⟨F,G⟩:=G.nM [34,27,26,22,21,20,12,11,10,5,3,2] [103,102,101,61,60,0]
   try dsimp only [RS.sub,SF.sub,CF.sub,csub,Anc.sub,List.map,Zf,xL,xM,Nat.reduceAdd,xD,xE,xT,xU,xC,xN,zCF,ldSF,Zw,rTx,ZJ,ZT,Zn,rOp] at G
   generalize Act.tau a 34=v34 at G
   refine ZaG G kr (cG rfl (o_mapUpdateG (ek:=(fun p:Value×List Int=>PV.is p.1)) (v:=((v34,((gGet (Nn (Zaa (Nn g.txs i)) j) es).getD Zh8).2 ++ [(Nn g.txs i).id]):Value×List Int)) 102 underlying83 (ZcA Ycl) .is (ZL.int .t rfl) .t) r3 r1 ChainN.nil) kr (by rw [V];kernel_rfl) fun a w F G=>?_
   obtain ⟨F,G⟩:=G.nM [22,21,20,12,11,10,5,3,2] [103,102,101,61,60,0]
   try dsimp only [Zw,rTx,ZJ,ZT,Zn,rOp] at G
   refine Zi (Za (rZ G (qp r1 (qR rr qZ)) V [22,21,20,12,11,10,5,3,2] [103,102,101,61,60,0] fun G=>?_))
   obtain ⟨F,G⟩:=G.putKey (T:=3) (sz:=1) (R:=Zn) 60 61 (Nn (Zaa (Nn g.txs i)) j) ck rfl rfl rfl
   replace G:=G.ent (i:=22) (s':=.pv (.int .i64 ((j+1:Nat):Int))) rfl (.int (Zd ow))
   obtain ⟨F,G⟩:=G.nM [21,20,12,11,10,5,3,2,22] [103,101,0,60,102]
   exact ⟨((j+1),((gPut (Nn (Zaa (Nn g.txs i)) j) (v34,((gGet (Nn (Zaa (Nn g.txs i)) j) es).getD Zh8).2 ++ [(Nn g.txs i).id]) (es,ck)).1),((gPut (Nn (Zaa (Nn g.txs i)) j) (v34,((gGet (Nn (Zaa (Nn g.txs i)) j) es).getD Zh8).2 ++ [(Nn g.txs i).id]) (es,ck)).2)),F,⟨by omega,Zuq hq (ZfY _) hil⟩,G,by omega⟩
  have hil:j=(Zaa (Nn g.txs i)).length:=by simp at hc2;omega
  obtain ⟨es2,he2⟩:∃ z,z=es:=⟨_,rfl⟩
  obtain ⟨ck2,hc2⟩:∃ z,z=ck:=⟨_,rfl⟩
  rw [hil,YA] at hq
  have hR2:WrV es2 (g.txs.take (i+1)) 0 []:=by rw [he2];exact Zt6 hq hio hdn
  rw [← he2,← hc2] at G
  refine Yw (Zj (Zj (Zo (Zi (Za (rZ G (qp r1 (qR rr qZ)) V [12,11,10,3,2] [103,102,101,60,0] fun G=>?_))))))
  replace G:=G.ent (i:=12) (s':=.pv (.int .i64 ((i+1:Nat):Int))) rfl (.int (Zd ow))
  obtain ⟨F,G⟩:=G.nM [11,10,3,2,12] [101,0,60,102]
  exact ⟨((i+1),(es2),(ck2)),F,⟨by omega,hR2⟩,G,by omega⟩
 have hil:i=g.txs.length:=by simp at hc0;omega
 have hwl:=Zru hq
 rw [hil,YA] at hwl
 refine Yw (Zj (Zj (Zo (Za (Ya (rZ G (qR rr (qO rr qZ)) V [2] [102,101,60,0] fun G=>Yh ?_))))))
 obtain ⟨F,G⟩:=G.giveMap 102 60 rfl rfl rfl
 obtain ⟨F,G⟩:=G.rename 102 1 rfl rfl
 have G:=G.turn 1 rfl (r':=RS.hp (HP.ex fun s:List (GE Int (List Int))×Nat=>HP.and (WrL s.1 g.txs) (ZbF (fun l:List Int=>PV.sl Zn l) (fun _=>True) (fun n:Int=>Value.int .i64 n) s.1 s.2 v8))) (fun _ _ _ _ h=>⟨(ZeP es,ck),hwl,h⟩)
 refine Z1 (h':=fun v=>HP.ex fun s:List (GE Int (List Int))×Nat=>HP.and (WrL s.1 g.txs) (ZbF (fun l:List Int=>PV.sl Zn l) (fun _=>True) (fun n:Int=>Value.int .i64 n) s.1 s.2 v)) hG G rfl (.tmp rfl .nil) (.one .one) rfl
theorem Ztc (l:List Int) (tx:Int):FnP prog 15 [.sl Zn l,.int .i64 tx] (.tup [.int .i64 (Zef l tx).1,.bool (Zef l tx).2]):=by
 refine FnP.mk func15 rfl ntmps15 rfl fun B a w F V hfr G=>?_
 have hll:=Sat.lenSl G (i:=0) rfl
 have hxr:=ZgX tx l
 have hxw:IntKind.wrap .i64 (ZaC tx l+1)=ZaC tx l+1:=Zz ow
 have hxv:IntKind.wrap .i64 (ZaC tx l - 1)=ZaC tx l - 1:=Zz ow
 refine Ya (rZ G (qI qB) V [5,4,1,0] [0] fun G=>Ya ?_)
 refine rZ G (qI qZ) V [6,5,4,1,0] [0] fun G=>(Ya (Ya ?_))
 refine rZ G (qR rr (qf (o_neq .t qi) r1 qz qZ)) V [8,6,5,4,1,0] [0] fun G=>?_
 refine Zc G rfl (fun hc0=>?_) (fun hc0=>?_)
 ·have ht:tx≠0:=by simpa using hc0
  refine Ya (rZ G (qR rr (qR rr (qf (oP (ZpH l tx) func39 (Args.two .t .t)) r2 qz (qp r1 (qO rr qZ))))) V [6,5,4,0] [0] fun G=>Ya ?_)
  refine rZ G (qR rr (qf (o_eql .t qi) r1 qz qZ)) V [14,6,5,4,0] [0] fun G=>?_
  refine Zc G rfl (fun hc1=>?_) (fun hc1=>?_)
  ·have hix:ZaC tx l<0:=by simp [hxw] at hc1;omega
   have hg:Zef l tx=(0,false):=by unfold Zef;rw [Yf ⟨ht,hix⟩]
   refine Ya (rZ G (qI qB) V [6,5,4,0] [0] fun G=>(Yh (Zk ?_)))
   refine Z6 hfr G rfl (.tmp rfl (.tmp rfl .nil)) (.two (.int (by rw [hg];first | done | rfl | (rw [hxw];done) | (rw [hxv];done) | (rw [show IntKind.wrap .i64 (-1+1)=0 by decide];done))) (.bool (by rw [hg])))
  have hix:0≤ZaC tx l:=by simp [hxw] at hc1;omega
  refine Ye (Za (Ya (Ya (rZ G (qR rr (qR rr (qu Ycd r1 (qf (o_eql .t .t) r2 qz qZ)))) V [18,6,5,4,0] [0] fun G=>?_))))
  refine Zc G rfl (fun hc2=>?_) (fun hc2=>?_)
  ·have hlx:=hc2
   first | rw [hxw] at hlx | skip
   have hg:Zef l tx=(0,false):=by unfold Zef;first | (rw [Yc ow,Yc ht,Yf (by simp at hlx;omega)];done) | (rw [Yc ow,Yf ht,Yf (by simp at hlx;omega)])
   refine Ya (rZ G (qI qB) V [6,5,4,0] [0] fun G=>(Yh (Zk ?_)))
   refine Z6 hfr G rfl (.tmp rfl (.tmp rfl .nil)) (.two (.int (by rw [hg];first | done | rfl | (rw [hxw];done) | (rw [hxv];done) | (rw [show IntKind.wrap .i64 (-1+1)=0 by decide];done))) (.bool (by rw [hg])))
  have hlx:=hc2
  first | rw [hxw] at hlx | skip
  have hln:=Yay (l:=l)
  have hlx2:=hlx
  simp at hlx
  have hg:Zef l tx=(Nn l (if tx=0 then 0 else ZaC tx l+1).toNat,true):=by unfold Zef;first | (rw [Yc ow,Yc ht,Yc ht,Yc ow];done) | (rw [Yc ow,Yf ht,Yf ht,Yc (by first | omega | (intro h0;have:l.length=0:=by omega;simp_all))];rfl)
  first | rw [Yc ht] at hg | rw [Yf ht] at hg
  try (have hl1:0<l.length:=by rcases Nat.eq_zero_or_pos l.length with h0 | h0;simp_all;exact h0)
  refine Ye (Za (Ya (Ze G (qR rr (qR rr (qf (o_indexAddr_sl (sz:=1) (.mk Ycd kr) (by intro x;rfl) .t .t (by first | omega | (rw [hxw];omega)) (by first | omega | (rw [hxw];omega))) r2 qz (qf (oR false 1 .t) r1 qz (qO rr qB))))) V [5,4] [0] rfl rfl fun a w F G=>?_)))
  try simp only [Yb] at G
  refine Za (Yh (Z6 hfr G rfl (.tmp rfl (.tmp rfl .nil)) (.two (.int (by rw [hg];first | done | rfl | (rw [hxw];done) | (rw [hxv];done) | (rw [show IntKind.wrap .i64 (-1+1)=0 by decide];done))) (.bool (by rw [hg])))))
 have ht:tx=0:=by simpa using hc0
 refine Ye (Za (Ya (Ya (rZ G (qR rr (qR rr (qu Ycd r1 (qf (o_eql .t .t) r2 qz qZ)))) V [18,6,5,4,0] [0] fun G=>?_))))
 refine Zc G rfl (fun hc3=>?_) (fun hc3=>?_)
 ·have hlx:=hc3
  first | rw [hxw] at hlx | skip
  have hg:Zef l tx=(0,false):=by unfold Zef;first | (rw [Yc ow,Yc ht,Yf (by simp at hlx;omega)];done) | (rw [Yc ow,Yf ht,Yf (by simp at hlx;omega)])
  refine Ya (rZ G (qI qB) V [6,5,4,0] [0] fun G=>(Yh (Zk ?_)))
  refine Z6 hfr G rfl (.tmp rfl (.tmp rfl .nil)) (.two (.int (by rw [hg];first | done | rfl | (rw [hxw];done) | (rw [hxv];done) | (rw [show IntKind.wrap .i64 (-1+1)=0 by decide];done))) (.bool (by rw [hg])))
 have hlx:=hc3
 first | rw [hxw] at hlx | skip
 have hln:=Yay (l:=l)
 have hlx2:=hlx
 simp at hlx
 have hg:Zef l tx=(Nn l (if tx=0 then 0 else ZaC tx l+1).toNat,true):=by unfold Zef;first | (rw [Yc ow,Yc ht,Yc ht,Yc ow];done) | (rw [Yc ow,Yf ht,Yf ht,Yc (by first | omega | (intro h0;have:l.length=0:=by omega;simp_all))];rfl)
 first | rw [Yc ht] at hg | rw [Yf ht] at hg
 try (have hl1:0<l.length:=by rcases Nat.eq_zero_or_pos l.length with h0 | h0;simp_all;exact h0)
 refine Ye (Za (Ya (Ze G (qR rr (qR rr (qf (o_indexAddr_sl (sz:=1) (.mk Ycd kr) (by intro x;rfl) .t .t (by first | omega | (rw [hxw];omega)) (by first | omega | (rw [hxw];omega))) r2 qz (qf (oR false 1 .t) r1 qz (qO rr qB))))) V [5,4] [0] rfl rfl fun a w F G=>?_)))
 try simp only [Yb] at G
 refine Za (Yh (Z6 hfr G rfl (.tmp rfl (.tmp rfl .nil)) (.two (.int (by rw [hg];first | done | rfl | (rw [hxw];done) | (rw [hxv];done) | (rw [show IntKind.wrap .i64 (-1+1)=0 by decide];done))) (.bool (by rw [hg])))))
theorem Zt0 (l:List Int) (tx:Int) (hl:l.length≤1000000):FnP prog 104 [.sl Zn l,.int .i64 tx] (.sl Zn (withO l tx)):=by
 refine FnP.mk func104 rfl ntmps104 rfl fun B a w F V hfr G=>?_
 have hll:=Sat.lenSl G (i:=0) rfl
 refine Ya (rZ G (qC qZ) V [4,1,0] [0] fun G=>Ya ?_)
 replace G:=G.fresh 101 rfl
 refine Zb G (qR rr (qf (Zar 101 (Ze3 l hl) func42 rfl kr (Args.one .t) pvOne1) r1 r1 (qO rr qZ))) V [5,4,1,0] [101,0] (fun _=>rfl) (fun _=>rfl) fun τ a w F G=>?_
 try dsimp only [RS.sub,SF.sub,CF.sub,csub,Anc.sub,List.map,Zn] at G
 generalize τ 7=v7 at G
 refine Za (Ya (Ya (rZ G (qR rr (qR rr (qf (oP (Zm4 l tx) func148 (Args.two .t .t)) r2 qz qZ))) V [10,5,4,1] [101,0] fun G=>?_)))
 refine Zc G rfl (fun hc0=>?_) (fun hc0=>?_)
 ·have hm:tx ∈ l:=by simpa using hc0
  have hg:l=withO l tx:=(Yf hm).symm
  refine Ya (rZ G (qR rr (qO rr qZ)) V [5,4,1] [101,0] fun G=>(Yh (Zk ?_)))
  obtain ⟨F,G⟩:=G.give 101 4 rfl rfl
  refine Zs hfr G rfl rfl rfl (.sl hg)
 have hm:¬ tx ∈ l:=by simpa using hc0
 have hg:l ++ [tx] = withO l tx:=(Yc hm).symm
 refine Ye (Za (Ya (Zb G (qR rr (qR rr (qf (o_buildSliceE (sz:=1) (zs:=[.int .i64 0]) (r:=[(0,.tmp 13)]) (l:=[_]) Ycd kr kr kr kr rfl rfl (.one rfl .t one_int kr .nil) rfl) r1 qz (qf (ZR (sz:=1) (bs:=8) 101 (.mk' Ycd kr kr) (by intro x;rfl) .is (.arr (l':=[_]) .t) (by simp only [Yd,Yl,Yy,Yi,YE];omega) (by decide)) ⟨rfl,rfl,tv⟩ ⟨rfl,tv⟩ (qO rr qZ))))) V [4] [101,0] (fun _=>rfl) (fun _=>rfl) fun τ a w F G=>?_)))
 try dsimp only [RS.sub,SF.sub,CF.sub,csub,Anc.sub,List.map,Zf,xL,xM,Nat.reduceAdd,xD,xE,xT,xU,xC,xN,zCF,Zn] at G
 generalize τ 15=v15 at G
 refine Za (Yh ?_)
 obtain ⟨F,G⟩:=G.give 101 4 rfl rfl
 refine Zs hfr G rfl rfl rfl (.sl hg)
theorem Zm3 (x tx:Int):FnP prog 150 [.int .i64 x,.ref [.int .i64 tx]] (.bool (decide (x=tx))):=by
 refine FnP.mk func150 rfl ntmps150 rfl fun B a w F V hfr G=>Ya ?_
 refine rZ G qB V [3,1,0] [0] fun G=>Ya ?_
 refine rZ G (qR rr (qf (oR false 1 .t) r1 qz (qf (o_eql .t .t) r2 qz (qO rr qZ)))) V [3] [0] fun G=>Yh ?_
 refine Zs hfr G rfl rfl rfl .refl
theorem Zm9 (l:List Int) (tx:Int) (hl:l.length≤1000000):FnP prog 105 [.sl Zn l,.int .i64 tx] (.sl Zn (withoutO l tx)):=by
 refine FnP.mk func105 rfl ntmps105 rfl fun B a w F V hfr G=>?_
 have hll:=Sat.lenSl G (i:=0) rfl
 refine Ya (Zb G (qf (Zf6 101 .t one_int) r1 qz (qC qZ)) V [4,3,0] [101,0] (fun _=>rfl) (fun _=>rfl) fun τ a w F G=>?_)
 try dsimp only [RS.sub,SF.sub,CF.sub,csub,Anc.sub,List.map,zCF,Zn] at G
 generalize τ 3=v3 at G
 obtain ⟨F,G⟩:=G.giveRef 101 3 rfl rfl rfl
 obtain ⟨F,G⟩:=G.nM [4,3,0] [0]
 try dsimp only [Go.Gm.unCF] at G
 refine Za (Ya ?_)
 replace G:=G.fresh 102 rfl
 refine ZkD G kr (nM rfl rfl (nf (Zar 102 (Ze3 l hl) func42 rfl kr (Args.one .t) pvOne1) r1 r1 (nn [6,4,3] [102,0] rfl rfl (nf (ZaT (Args.one .t)) r1 trivial (nf (Zk8 6 102 (fun v=>Zts _ l hl (fun x=>decide (x=tx)) 150 f150 [.ref [.int .i64 tx]] func150 rfl kr (fun x=>Zm3 x tx)) func149 rfl kr (Zom.two .same (.of .t)) pvOne1) r2 r1 (nn [8,4] [102,0] rfl rfl (nN rfl rfl ChainN.nil))))))) kr (by rw [V];kernel_rfl) fun a w F G=>?_
 replace G:=G.sub
 obtain ⟨F,G⟩:=G.nM [4] [102,0]
 try dsimp only [RS.sub,SF.sub,CF.sub,csub,Anc.sub,List.map,Zn] at G
 generalize Act.tau a 8=v8 at G
 refine Za (Yh ?_)
 obtain ⟨F,G⟩:=G.give 102 4 rfl rfl
 refine Zs hfr G rfl rfl rfl (.sl (by simp [withoutO]))
theorem Zff (g:Zr) (hs:Za9 g):FnP prog 19 [.agg (Zw g)] (.bool (decide (ZW g))):=by
 refine FnP.mk func19 rfl ntmps19 rfl fun B a w F V hfr G=>?_
 have hsl:=hs.1.1
 have hso:=hs.2.1
 refine Ya (Zb G (qx 101 r1 qB) V [2,1] [101,0] (fun _=>rfl) (fun _=>rfl) fun τ a w F G=>?_)
 try dsimp only [RS.sub,SF.sub,CF.sub,csub,Anc.sub,List.map,zCF,Zw,rTx,ZJ,ZT,Zn,rOp] at G
 generalize τ 1=v1 at G
 refine Za (Ya (Ya (rZ G (qg 0 101 r1 r1 (qa 101 r1 r1 (qu Ycg r1 (qf (ZaP .t qi) r1 qz qZ)))) V [11,2,1] [101,0] fun G=>?_)))
 refine Zc G rfl (fun hc0=>?_) (fun hc0=>?_)
 ·have hg:=ZgF (h:=g) (by simp at hc0;omega)
  refine Ya (rZ G qB V [2,1] [101,0] fun G=>(Yh (Zk ?_)))
  refine Zs hfr G rfl rfl rfl (.bool hg)
 have hlong:g.txs.length≤4096:=by simp at hc0;omega
 refine Ye (Za (Ya (Ya (rZ G (qg 0 101 r1 r1 (qa 101 r1 r1 (qu Ycg r1 (qJ qZ)))) V [15,14,13,2,1] [101,0] fun G=>Yg ?_))))
 refine Zl (σ:=(Nat)) [1,2,13,14] [0,101] (fun s=>[(15,.pv (.int .i64 (s:Int)))]) (fun s=>[]) (fun s=>s≤g.txs.length∧(∀ k,k<s→Zny g k)) (fun s=>g.txs.length - s) (0) G ⟨rfl,rfl,rfl,rfl,rfl,tv⟩ ⟨rfl,rfl,tv⟩ ⟨Yx _,fun k hk=>absurd hk (Y2 k)⟩ ?_
 clear G;intro i a w F hC G
 try dsimp only at hC
 obtain ⟨F,G⟩:=G.nM [15,14,13,2,1] [101,0]
 try dsimp only at G
 obtain ⟨hi,hq⟩:=hC
 have hxl:=fun hil:i<g.txs.length=>hs.1.at hil
 have hiw:0<i→IntKind.wrap .i64 ((i:Int) - 1)=((i - 1:Nat):Int):=fun h0=>by rw [Zz ow];omega
 refine Ya (rZ G (qL r2) V [16,15,14,13,2,1] [101,0] fun G=>Ya ?_)
 refine Zc G rfl (fun hc1=>?_) (fun hc1=>?_)
 ·have hil:i<g.txs.length:=by simp at hc1;omega
  refine Ye (Za (Ya (Yg (Ya (Zb G (qR rr (qy 3 Ycg r2 (qf (oR true 3 .t) r1 qz (qf (oH [.int .i64 0,.bool false,.slice none 0 0] 102) trivial qz (qO rr (qS 3 102 r2 r1 qZ)))))) V [15,14,13,4,3,2,1] [102,101,0] (fun _=>rfl) (fun _=>rfl) fun τ a w F G=>?_)))))
  try dsimp only [RS.sub,SF.sub,CF.sub,csub,Anc.sub,List.map,Zf,xL,xM,Nat.reduceAdd,xD,xE,xT,xU,xC,xN,zCF,ldSF,Zw,rTx,ZJ,ZT,Zn,rOp] at G
  generalize τ 4=v4 at G
  try simp only [Yb] at G
  refine Za (Ya (Zv G (qR rr (qf (ZaP .t qi) r1 qz (qR rr (qv 0 101 rfl r2 r1 (qw 101 rfl r2 r1 (qm rfl rfl rfl rfl (qk rfl (fun h=>o_sub (.w h) qi) r2 qz (qk rfl (fun h=>o_indexAddr_sl (sz:=3) (.mk Ycg kr) (by intro x;rfl) (.w h) (.w h) (by rw [hiw (by simpa using h)];omega) (by rw [hiw (by simpa using h)];omega)) r3 qz (qk rfl (fun h=>oG 0 (.w h)) r2 qz (qk rfl (fun h=>oR false 1 (.w h)) r2 qz (qv 0 102 rfl r2 r1 (qw 102 rfl r2 r1 (qk rfl (fun h=>Zbq (.w h) (.w h)) r3 qz (qf (ZE .t .t) r2 qz (qR rr (qk rfl (fun h=>oL true 3 102 .is) r2 r1 (qk rfl (fun h=>oP (ZiU (Nn g.txs i)) func44 (Args.one (.pagg (.w h)))) r2 qz (qk rfl (fun h=>o_neq (.w h) qi) r2 qz (qf (Zal .t .t) r2 qz (qR rr (qk rfl (fun h=>oL true 2 101 .is) r2 r1 (qk rfl (fun h=>oL true 3 102 .is) r2 r1 (qk rfl (fun h=>oP (Zmf g (Nn g.txs i) hs.1 (by have:=hxl hil;omega)) func45 (Args.two (.pagg (.w h)) (.pagg (.w h)))) r3 qz (qk rfl (fun h=>o_not (.w h)) r2 qz (qf (Zal .t .t) r2 qz qZ))))))))))))))))))))))))) V [44,15,14,13,2,1] [102,101,0] rfl rfl fun a w F G=>?_))
  try dsimp only [List.map,xD,xE,xT,xU,ldSF,Zw,rTx,ZJ,ZT,Zn,rOp] at G
  try simp only [Yb] at G
  refine Za (Zc G rfl (fun hc2=>?_) (fun hc2=>?_))
  ·have hbad:¬ Zny g i:=by
     rintro ⟨g1,g2,g3⟩
     have h9:=hc2
     by_cases hi0:0<i
     · rw [hiw hi0,Yb] at h9
       have:=g1 hi0
       simp [g2,g3] at h9
       omega
     · have hi1:i=0:=by omega
       subst hi1
       simp [g2,g3] at h9
   have hg:=Ziy hil hbad
   refine Ya (rZ G qB V [15,14,13,2,1] [102,101,0] fun G=>(Yh (ZA (Zk (Zk (ZA (Zk ?_)))))))
   refine Zs hfr G rfl rfl rfl (.bool hg)
  have hgood:Zny g i:=by
    have h9:=hc2
    by_cases hi0:0<i
    · rw [hiw hi0,Yb] at h9
      simp at h9
      exact ⟨fun _=>by omega,by omega,h9.2⟩
    · have hi1:i=0:=by omega
      subst hi1
      simp at h9
      exact ⟨fun h0=>absurd h0 (Nat.lt_irrefl 0),h9.1,h9.2⟩
  refine Ye (Zi (Za (rZ G (qp r1 (qR rr qZ)) V [15,14,13,2,1] [102,101,0] fun G=>?_)))
  replace G:=G.ent (i:=15) (s':=.pv (.int .i64 ((i+1:Nat):Int))) rfl (.int (Zd ow))
  obtain ⟨F,G⟩:=G.nM [14,13,2,1,15] [101,0]
  exact ⟨(i+1),F,⟨by omega,(fun k hk=>by rcases Y0 (Y7 hk) with h9 | h9;exact hq k h9;rw [h9];exact hgood)⟩,G,by omega⟩
 have hil:i=g.txs.length:=by simp at hc1;omega
 have hall:∀ k,k<g.txs.length→Zny g k:=by rw [← hil];exact hq
 have hkn:=Zqk hs.1
 refine Yw (Zj (Zj (Zo (Za (Ya ?_)))))
 replace G:=G.fresh 103 rfl
 refine Zb G (qe 2 101 r1 r1 (qf (Zar 103 (Zp6 g hs.1) func46 rfl kr (Args.one (.pagg .t)) pvOne1) r1 r1 (qO rr qZ))) V [5,2,1] [103,101,0] (fun _=>rfl) (fun _=>rfl) fun τ a w F G=>?_
 try dsimp only [RS.sub,SF.sub,CF.sub,csub,Anc.sub,List.map,xD,xE,xT,xU,ldSF,Zw,rTx,ZJ,ZT,Zn,rOp] at G
 generalize τ 47=v47 at G
 replace G:=G.turn 103 rfl (r':=RS.hp (HP.ex fun s:List (GE Int (List Int))×Nat=>HP.and (WrL s.1 g.txs) (ZbF (fun l:List Int=>PV.sl Zn l) (fun _=>True) (fun n:Int=>Value.int .i64 n) s.1 s.2 v47))) (fun _ _ _ _ h=>h)
 obtain ⟨sm,G⟩:=G.open_ex 103 rfl
 obtain ⟨hwm,G⟩:=G.open_and 103 rfl
 obtain ⟨es,ck⟩:=sm
 try dsimp only at hwm G
 replace G:=G.turn 103 rfl (r':=.ob (.val v47) (ZbF (fun l:List Int=>PV.sl Zn l) (fun _=>True) (fun n:Int=>Value.int .i64 n) es ck)) (fun _ _ _ _ h=>h)
 have hgw:=Zvn hwm
 have hml:=Zva hwm
 obtain ⟨F,G⟩:=G.nM [5,2,1] [103,101,0]
 refine Za (Ya (Ya (rZ G (qR rr (qf (ZmW 103 underlying83 .is ow) r1 r1 (qg 1 101 r1 r1 (qa 101 r1 r1 (qu Ycf r1 (qf (o_neq .t .t) r2 qz qZ)))))) V [53,5,2,1] [103,101,0] fun G=>?_)))
 refine Zc G rfl (fun hc3=>?_) (fun hc3=>?_)
 ·have hg:=ZhX (h:=g) (by simp at hc3;omega)
  refine Ya (rZ G qB V [5,2,1] [103,101,0] fun G=>(Yh (Zk ?_)))
  refine Zs hfr G rfl rfl rfl (.bool hg)
 have hle:g.orders.length=(ZcC g.txs).length:=by simp at hc3;omega
 refine Ye (Za (Ya (Ya (rZ G (qg 1 101 r1 r1 (qa 101 r1 r1 (qu Ycf r1 (qJ qZ)))) V [57,56,55,5,2,1] [103,101,0] fun G=>Yg ?_))))
 refine Zl (σ:=(Nat)) [1,2,5,55,56] [0,101,103] (fun s=>[(57,.pv (.int .i64 (s:Int)))]) (fun s=>[]) (fun s=>s≤g.orders.length∧(∀ k,k<s→Zfz g k)) (fun s=>g.orders.length - s) (0) G ⟨rfl,rfl,rfl,rfl,rfl,rfl,tv⟩ ⟨rfl,rfl,rfl,tv⟩ ⟨Yx _,fun k hk=>absurd hk (Y2 k)⟩ ?_
 clear G;intro i a w F hC G
 try dsimp only at hC
 obtain ⟨F,G⟩:=G.nM [57,56,55,5,2,1] [103,101,0]
 try dsimp only at G
 obtain ⟨hi,hq⟩:=hC
 have hol:=fun hil:i<g.orders.length=>hs.2.at hil
 have hwl:=fun k=>ZeO g.txs k
 have hiw:0<i→IntKind.wrap .i64 ((i:Int) - 1)=((i - 1:Nat):Int):=fun h0=>by rw [Zz ow];omega
 refine Ya (rZ G (qL r2) V [58,57,56,55,5,2,1] [103,101,0] fun G=>Ya ?_)
 refine Zc G rfl (fun hc4=>?_) (fun hc4=>?_)
 ·have hil:i<g.orders.length:=by simp at hc4;omega
  refine Ye (Za (Ya (Yg (Ya (Zb G (qR rr (qy 2 Ycf r2 (qf (oR true 2 .t) r1 qz (qf (oH [.int .i64 0,.slice none 0 0] 104) trivial qz (qO rr (qS 2 104 r2 r1 qZ)))))) V [57,56,55,7,6,5,2,1] [104,103,101,0] (fun _=>rfl) (fun _=>rfl) fun τ a w F G=>?_)))))
  try dsimp only [RS.sub,SF.sub,CF.sub,csub,Anc.sub,List.map,Zf,xL,xM,Nat.reduceAdd,xD,xE,xT,xU,xC,xN,zCF,ldSF,Zw,rTx,ZJ,ZT,Zn,rOp] at G
  generalize τ 7=v7 at G
  try simp only [Yb] at G
  refine Za (Ya (Zv G (qR rr (qf (ZaP .t qi) r1 qz (qR rr (qv 1 101 rfl r2 r1 (qw 101 rfl r2 r1 (qm rfl rfl rfl rfl (qk rfl (fun h=>o_sub (.w h) qi) r2 qz (qk rfl (fun h=>o_indexAddr_sl (sz:=2) (.mk Ycf kr) (by intro x;rfl) (.w h) (.w h) (by rw [hiw (by simpa using h)];omega) (by rw [hiw (by simpa using h)];omega)) r3 qz (qk rfl (fun h=>oG 0 (.w h)) r2 qz (qk rfl (fun h=>oR false 1 (.w h)) r2 qz (qv 0 104 rfl r2 r1 (qw 104 rfl r2 r1 (qk rfl (fun h=>Zbq (.w h) (.w h)) r3 qz (qf (ZE .t .t) r2 qz (qR rr (qv 1 104 rfl r2 r1 (qw 104 rfl r2 r1 (qk rfl (fun h=>ZcD Ycd (.w h)) r2 qz (qk rfl (fun h=>o_eql (.w h) qi) r2 qz (qf (Zal .t .t) r2 qz (qR rr (qv 1 104 rfl r2 r1 (qw 104 rfl r2 r1 (qm rfl rfl rfl rfl (qv 0 104 rfl r2 r1 (qw 104 rfl r2 r1 (qk rfl (fun h=>Zap (ek:=(fun l:List Int=>PV.sl Zn l)) (z0:=([]:List Int)) 103 underlying83 (ZcA Ycl) kr (fun _ _=>ZjS) (.w h .is) (ZL.int (.w h) rfl)) r3 r1 (qk rfl (fun h=>oP (Zu2 (Nn g.orders i).txs _ (by have:=hol hil;omega) (by rw [hgw];have:=hwl (Nn g.orders i).key;omega)) func47 (Args.two (.w h) (.w h))) r3 qz (qk rfl (fun h=>o_not (.w h)) r2 qz (qf (Zal .t .t) r2 qz qZ)))))))))))))))))))))))))))))) V [91,57,56,55,5,2,1] [104,103,101,0] rfl rfl fun a w F G=>?_))
  try dsimp only [List.map,xD,xE,xT,xU,ldSF,Zw,rTx,ZJ,ZT,Zn,rOp] at G
  try simp only [Yb] at G
  refine Za (Zc G rfl (fun hc5=>?_) (fun hc5=>?_))
  ·have hbad:¬ Zfz g i:=by
     rintro ⟨g1,g2,g3⟩
     have h9:=hc5
     rw [hgw] at h9
     have g4:(Nn g.orders i).txs.length≠0:=fun e=>g2 (YR e)
     by_cases hi0:0<i
     · rw [hiw hi0,Yb] at h9
       have:=g1 hi0
       simp [g2,g3] at h9
       omega
     · have hi1:i=0:=by omega
       subst hi1
       simp [g2,g3] at h9
   have hg:=ZgJ hil hbad
   refine Ya (rZ G qB V [57,56,55,5,2,1] [104,103,101,0] fun G=>(Yh (ZA (Zk (Zk (ZA (Zk ?_)))))))
   refine Zs hfr G rfl rfl rfl (.bool hg)
  have hgood:Zfz g i:=by
    have h9:=hc5
    rw [hgw] at h9
    by_cases hi0:0<i
    · rw [hiw hi0,Yb] at h9
      simp at h9
      exact ⟨fun _=>by omega,h9.1.2,h9.2⟩
    · have hi1:i=0:=by omega
      subst hi1
      simp at h9
      exact ⟨fun h0=>absurd h0 (Nat.lt_irrefl 0),h9.1,h9.2⟩
  refine Ye (Zi (Za (rZ G (qp r1 (qR rr qZ)) V [57,56,55,5,2,1] [104,103,101,0] fun G=>?_)))
  replace G:=G.ent (i:=57) (s':=.pv (.int .i64 ((i+1:Nat):Int))) rfl (.int (Zd ow))
  obtain ⟨F,G⟩:=G.nM [56,55,5,2,1,57] [103,101,0]
  exact ⟨(i+1),F,⟨by omega,(fun k hk=>by rcases Y0 (Y7 hk) with h9 | h9;exact hq k h9;rw [h9];exact hgood)⟩,G,by omega⟩
 have hil:i=g.orders.length:=by simp at hc4;omega
 have hg:=ZkH hlong hall ow (by rw [← hil];exact hq)
 refine Yw (Zj (Zj (Zo (Za (Ya (rZ G qB V [2] [103,101,0] fun G=>Yh ?_))))))
 refine Zs hfr G rfl rfl rfl (.bool hg)
theorem PVs.lenAt {α:Type} {R:α→List PV} {l:List α} {v:Value} {w:World} {y:Ys} (h:(PV.sl R l).p v w y):l.length≤9223372036854775807:=by
 obtain ⟨_,cap,_,h1,h2,_⟩:=h
 unfold maxLen at h2
 omega
theorem Sat.lenHist {B:Zbo} {E:En} {a:Act} {w:World} {F:Fp} (h:Sat B E a w F) {i:Nat} {u:Zr} (hl:Go.Gm.look E.s i=some (SF.pv (PV.agg (Zw u)))):u.txs.length≤9223372036854775807∧u.orders.length≤9223372036854775807:=by
 obtain ⟨vs,_,hp⟩:=h.s i _ hl
 match vs,hp with
 | [x,y],hp=>exact ⟨PVs.lenAt hp.1.2,PVs.lenAt hp.2.1.2⟩
def ZuW (l:List TxD):Prop:=l.length≤1000000 ∧ ∀ t ∈ l,t.ops.length≤1000000
def ZsF (l:List OrdD):Prop:=l.length≤1000000 ∧ ∀ t ∈ l,t.txs.length≤1000000
structure DOk (d:Zha):Prop where
 was:ZuW d.was
 now:ZuW d.now
 old:ZsF d.old
 new:ZsF d.new
def inv (d:Zha):Zha:=⟨d.now,d.was,d.new,d.old⟩
def Zb9 (h:Zr):Prop:=h.txs.length≤12∧h.orders.length≤24∧(∀ j,j<h.txs.length→(Nn h.txs j).ops.length≤24) ∧ ∀ j,j<h.orders.length→(Nn h.orders j).txs.length≤24
instance (h:Zr):Decidable (Zb9 h):=by unfold Zb9;exact inferInstance
def Zly (d:Zha):Prop:=Zb9 ⟨d.was,d.old⟩∧Zb9 ⟨d.now,d.new⟩
instance (d:Zha):Decidable (Zly d):=by unfold Zly;exact inferInstance
theorem ZtG {α:Type} [Inhabited α] {q:List α} {x:α} (h:x ∈ q):∃ j,j<q.length∧Nn q j=x:=by
 obtain ⟨j,hj,e⟩:=Yab h
 exact ⟨j,hj,by rw [nth_eq hj];exact e⟩
theorem Zly.ok {d:Zha} (h:Zly d):DOk d:=by
 obtain ⟨⟨h1,h2,h3,h4⟩,h5,h6,h7,h8⟩:=h
 dsimp only at h1 h2 h3 h4 h5 h6 h7 h8
 refine ⟨⟨by omega,fun t ht=>?_⟩,⟨by omega,fun t ht=>?_⟩,⟨by omega,fun t ht=>?_⟩,⟨by omega,fun t ht=>?_⟩⟩ <;> obtain ⟨j,hj,rfl⟩:=ZtG ht
 ·have:=h3 j hj;omega
 ·have:=h7 j hj;omega
 ·have:=h4 j hj;omega
 ·have:=h8 j hj;omega
theorem Zso (u:Zr):FnP prog 11 [.agg (Zw u)] (.bool (decide (Zb9 u))):=by
 refine FnP.mk func11 rfl ntmps11 rfl fun B a w F V hfr G=>?_
 obtain ⟨hxl,hyl⟩:=Sat.lenHist G (i:=0) rfl
 refine Ya (Zb G (qx 101 r1 qB) V [2,1] [101,0] (fun _=>rfl) (fun _=>rfl) fun τ a w F G=>?_)
 try dsimp only [RS.sub,SF.sub,CF.sub,csub,Anc.sub,List.map,zCF] at G
 generalize τ 1=v1 at G
 refine Za (Ya (Ya (rZ G (qg 0 101 r1 r1 (qa 101 r1 r1 (qu Ycg r1 (qf (ZaP .t qi) r1 qz (qR rr (qv 1 101 rfl r2 r1 (qw 101 rfl r2 r1 (qk rfl (fun h=>ZcD Ycf (.w h)) r2 qz (qk rfl (fun h=>ZaP (.w h) qi) r2 qz (qf (Zal .t .t) r2 qz qZ)))))))))) V [16,2,1] [101,0] fun G=>?_)))
 refine Zc G rfl (fun hc0=>?_) (fun hc0=>?_)
 ·have hg:false=decide (Zb9 u):=by
    rw [Yaq,YD]
    rintro ⟨g1,g2,g3,g4⟩
    simp at hc0;omega
  refine Ya (rZ G qB V [2,1] [101,0] fun G=>(Yh (Zk ?_)))
  refine Zs hfr G rfl rfl rfl (.bool hg)
 have hb:u.txs.length≤12∧u.orders.length≤24:=by simp at hc0;omega
 refine Ye (Za (Ya (Ya (rZ G (qg 0 101 r1 r1 (qa 101 r1 r1 (qu Ycg r1 (qJ qZ)))) V [20,19,18,2,1] [101,0] fun G=>Yg ?_))))
 obtain ⟨F,G⟩:=G.nM [20,19,18,1] [101,0]
 refine Zbf (σ:=Nat) (fun s=>(⟨[(1,.pv (.is v1)),(18,.pv (.sl rTx u.txs)),(19,.pv (.int .i64 u.txs.length)),(20,.pv (.int .i64 s))],[(0,frame B),(101,.pt (.val v1) 25 [.pv (.sl rTx u.txs),.pv (.sl ZJ u.orders)])]⟩:En)) (fun s=>s≤u.txs.length ∧ ∀ j,j<s→(Nn u.txs j).ops.length≤24) (fun s=>u.txs.length - s) 0 G ⟨Yx _,fun j hj=>absurd hj (Y2 j)⟩ ?_
 clear G;intro i a w F hC G
 try dsimp only at hC
 try dsimp only at G
 obtain ⟨hi,hq⟩:=hC
 refine Ya (rZ G (qL r2) V [21,20,19,18,1] [101,0] fun G=>Ya ?_)
 refine Zc G rfl (fun hc1=>?_) (fun hc1=>?_)
 ·have hil:i<u.txs.length:=by simp at hc1;omega
  refine Ye (Za (Ya (Yg (Ya (Zb G (qy 3 Ycg r2 (qf (oR true 3 .t) r1 qz (qf (oH [.int .i64 0,.bool false,.slice none 0 0] 102) trivial qz (qS 3 102 r2 r1 qZ)))) V [20,19,18,4,1] [102,101,0] (fun _=>rfl) (fun _=>rfl) fun τ a w F G=>?_)))))
  try dsimp only [RS.sub,SF.sub,CF.sub,csub,Anc.sub,List.map,Zf,xL,xM,Nat.reduceAdd,xD,xE,xT,xU,xC,xN,zCF,ldSF] at G
  generalize τ 4=v4 at G
  refine Za (Ya (rZ G (qg 2 102 r1 r1 (qa 102 r1 r1 (qu Yci r1 (qf (ZaP .t qi) r1 qz qZ)))) V [27,20,19,18,1] [101,0] fun G=>?_))
  refine Zc G rfl (fun hc2=>?_) (fun hc2=>?_)
  ·have hg:false=decide (Zb9 u):=by
     rw [Yaq,YD]
     rintro ⟨g1,g2,g3,g4⟩
     have:=g3 i hil;rw [Yb] at hc2;simp at hc2;omega
   refine Ya (rZ G qB V [20,19,18,2,1] [101,0] fun G=>(Yh (ZA (Zk (Zk (ZA (Zk ?_)))))))
   refine Zs hfr G rfl rfl rfl (.bool hg)
  have hqi:(Nn u.txs i).ops.length≤24:=by rw [Yb] at hc2;simp at hc2;omega
  refine Ye (Zi (Za (rZ G (qp r1 (qR rr qZ)) V [20,19,18,1] [101,0] fun G=>?_)))
  replace G:=G.ent (i:=20) (s':=.pv (.int .i64 ((i+1:Nat):Int))) rfl (.int (Zd ow))
  obtain ⟨F,G⟩:=G.nM [20,19,18,1] [101,0]
  exact ⟨i+1,F,⟨by omega,fun j hj=>by rcases Y0 (Y7 hj) with h | h;exact hq j h;rw [h];exact hqi⟩,G,by omega⟩
 have hT:∀ j,j<u.txs.length→(Nn u.txs j).ops.length≤24:=fun j hj=>hq j (by simp at hc1;omega)
 clear hq hi
 refine Yw (Zj (Zj (Zo (Za (Ya (Ya (rZ G (qg 1 101 r1 r1 (qa 101 r1 r1 (qu Ycf r1 (qJ qZ)))) V [32,31,30] [0] fun G=>Yg ?_)))))))
 obtain ⟨F,G⟩:=G.nM [32,31,30] [0]
 refine Zbf (σ:=Nat) (fun s=>(⟨[(30,.pv (.sl ZJ u.orders)),(31,.pv (.int .i64 u.orders.length)),(32,.pv (.int .i64 s))],[(0,frame B)]⟩:En)) (fun s=>s≤u.orders.length ∧ ∀ j,j<s→(Nn u.orders j).txs.length≤24) (fun s=>u.orders.length - s) 0 G ⟨Yx _,fun j hj=>absurd hj (Y2 j)⟩ ?_
 clear G;intro i a w F hC G
 try dsimp only at hC
 try dsimp only at G
 obtain ⟨hi,hq⟩:=hC
 refine Ya (rZ G (qL r2) V [33,32,31,30] [0] fun G=>Ya ?_)
 refine Zc G rfl (fun hc3=>?_) (fun hc3=>?_)
 ·have hil:i<u.orders.length:=by simp at hc3;omega
  refine Ye (Za (Ya (Yg (Ya (Zb G (qy 2 Ycf r2 (qf (oR true 2 .t) r1 qz (qf (oH [.int .i64 0,.slice none 0 0] 103) trivial qz (qS 2 103 r2 r1 qZ)))) V [32,31,30,6] [103,0] (fun _=>rfl) (fun _=>rfl) fun τ a w F G=>?_)))))
  try dsimp only [RS.sub,SF.sub,CF.sub,csub,Anc.sub,List.map,Zf,xL,xM,Nat.reduceAdd,xD,xE,xT,xU,xC,xN,zCF,ldSF] at G
  generalize τ 6=v6 at G
  refine Za (Ya (rZ G (qg 1 103 r1 r1 (qa 103 r1 r1 (qu Ycd r1 (qf (ZaP .t qi) r1 qz qZ)))) V [39,32,31,30] [0] fun G=>?_))
  refine Zc G rfl (fun hc4=>?_) (fun hc4=>?_)
  ·have hg:false=decide (Zb9 u):=by
     rw [Yaq,YD]
     rintro ⟨g1,g2,g3,g4⟩
     have:=g4 i hil;rw [Yb] at hc4;simp at hc4;omega
   refine Ya (rZ G qB V [32,31,30,2] [0] fun G=>(Yh (ZA (Zk (Zk (ZA (Zk ?_)))))))
   refine Zs hfr G rfl rfl rfl (.bool hg)
  have hqi:(Nn u.orders i).txs.length≤24:=by rw [Yb] at hc4;simp at hc4;omega
  refine Ye (Zi (Za (rZ G (qp r1 (qR rr qZ)) V [32,31,30] [0] fun G=>?_)))
  replace G:=G.ent (i:=32) (s':=.pv (.int .i64 ((i+1:Nat):Int))) rfl (.int (Zd ow))
  obtain ⟨F,G⟩:=G.nM [32,31,30] [0]
  exact ⟨i+1,F,⟨by omega,fun j hj=>by rcases Y0 (Y7 hj) with h | h;exact hq j h;rw [h];exact hqi⟩,G,by omega⟩
 have hO:∀ j,j<u.orders.length→(Nn u.orders j).txs.length≤24:=fun j hj=>hq j (by simp at hc3;omega)
 have hg:true=decide (Zb9 u):=by rw [Yaq,Yq];exact ⟨hb.1,hb.2,hT,hO⟩
 refine Yw (Zj (Zj (Zo (Za (Ya (rZ G qB V [2] [0] fun G=>Yh ?_))))))
 refine Zs hfr G rfl rfl rfl (.bool hg)
instance (h:Zr):Decidable (Zb9 h):=by unfold Zb9;exact inferInstance
theorem ZeS {P:Program} {w:World} {d:Nat} {e:TypeId} (he:P.underlying e=some (.int .i64)) {l m:List Int} : ∀ (is:List Nat),(∀ i ∈ is,i<l.length∧i<m.length)→(Op.eqItems (d+1) e 1 (l.map fun n=>Value.int .i64 n).toArray (m.map fun n=>Value.int .i64 n).toArray is).run P w = .ok (is.all fun i=>decide (l[i]? = m[i]?)) w
 | [],_=>by simp [Op.eqItems]
 | i :: is,h=>by
  have hag:P.aggB e=some false:=by unfold Program.aggB;rw [he]
  obtain ⟨h1,h2⟩:=h i (by simp)
  have p1:(part e (l.map fun n=>Value.int .i64 n).toArray (i*1)).run P w = .ok (.int .i64 l[i]) w:=by simp [part,run_isAgg hag,h1]
  have p2:(part e (m.map fun n=>Value.int .i64 n).toArray (i*1)).run P w = .ok (.int .i64 m[i]) w:=by simp [part,run_isAgg hag,h2]
  have p3:(Op.equalIn (d+1) e (.int .i64 l[i]) (.int .i64 m[i])).run P w = .ok (l[i] == m[i]) w:=run_equalIn_int w d e .i64 _ _ _ he
  have ih:=ZeS (P:=P) (w:=w) (d:=d) he is (fun j hj=>h j (YC _ hj))
  simp only [Op.eqItems,YB,p1,p2,p3,Yn]
  rw [List.all_cons,Yaw h1,Yaw h2]
  by_cases hab:l[i] = m[i]
  ·simp [hab,ih]
  ·simp [hab]
theorem Zpo {l m:List Int} {n:Nat} (hl:l.length=n) (hm:m.length=n):((List.range n).all fun i=>decide (l[i]? = m[i]?))=decide (l=m):=by
 rw [Yai,YaT,Yq]
 constructor
 ·intro h
  apply List.ext_getElem?
  intro i
  by_cases hi:i<n
  ·simpa using h i (Ya7.2 hi)
  ·rw [YbP ow,YbP ow]
 ·rintro rfl i _
  simp
theorem ZrD {P:Program} {κ:Type} [DecidableEq κ] {kt et:TypeId} {enc:κ→List Int} {n:Nat} (hl:∀ k,(enc k).length=n) (hi:∀ a b,enc a=enc b→a=b) (hu:P.underlying kt=some (.array n et)) (he:P.underlying et=some (.int .i64)) (hc:P.cellsOf et=1):ZnD P kt (fun k=>∀ x ∈ enc k,inR .i64 x) (kvS enc) where
 check:=fun b k w _=>by
  obtain ⟨ti,hti⟩:∃ i,P.info? et=some i:=info_of_underlying he
  have hag:P.aggB et=some false:=by unfold Program.aggB;rw [he]
  unfold kvS
  rw [show (10000:Nat)=9998+1+1 from rfl,Instr.checkKey]
  simp only [YB,Ym hu,Yn]
  simp only [Std.Legacy.Range.forIn_eq_forIn_range',Std.Legacy.Range.size,YbZ,Nat.add_one_sub_one,Nat.div_one]
  have each:∀ i ∈ List.range' 0 n,i<(enc k).length:=by intro i h;rw [hl];simp [List.mem_range'] at h;omega
  generalize List.range' 0 n=is at each
  induction is with
  | nil=>simp
  | cons j is ih=>
   have h1:=each j (by simp)
   have p1:(part et ((enc k).map fun n=>Value.int .i64 n).toArray (j*1)).run P w = .ok (.int .i64 (enc k)[j]) w:=by simp [part,run_isAgg hag,h1]
   have p2:(Instr.checkKey b (9998+1) et (.int .i64 (enc k)[j])).run P w = .ok () w:=Go.MapKept.run_checkKey he (by simp [Go.MapKept.IsKey]) b 9998
   simp only [List.forIn_cons,YB,run_sizeOf w hti,hc,Yn,p1,p2,YG]
   exact ih (fun y hy=>each y (by simp [hy]))
 find:=fun es k w hok hks=>by
  obtain ⟨ti,hti⟩:∃ i,P.info? et=some i:=info_of_underlying he
  rw [run_findKey_eq (P:=P) (w:=w) (k:=kt) (by rw [hu]) (kvS enc k) (es.map (rEnc (kvS enc)))]
  have key:∀ (es:List (GE κ Value)) (j:Nat),(Instr.findAsking kt (kvS enc k) (es.map (rEnc (kvS enc))) j).run P w = .ok ((gIdx k es).map fun i=>(i+j,(gGet k es).getD undef)) w:=by
   intro es
   induction es with
   | nil=>intro j;simp [Instr.findAsking,gIdx]
   | cons e es ih=>
    intro j
    have hq:(Op.equal kt (kvS enc k) (kvS enc e.key)).run P w = .ok (decide (enc k=enc e.key)) w:=by
     unfold Op.equal Op.maxDepth kvS
     rw [show (10000:Nat)=9998+1+1 from rfl,run_equalIn_array w (9998+1) _ _ hu hti,hc,ZeS he _ (fun i h=>by rw [hl,hl];simpa using h),Zpo (hl _) (hl _)]
    rw [YS]
    unfold Instr.findAsking
    have ih':=ih (j+1)
    by_cases h:k=e.key
    ·have hek:enc k=enc e.key:=by rw [h]
     simp only [rEnc,YB,hq,hek,decide_true,Yn,Yu,YG]
     simp [gIdx,gGet,h]
    ·have hek:¬ enc k=enc e.key:=fun h'=>h (hi _ _ h')
     simp only [rEnc,YB,hq,YF hek,Yn,Ybs,Yp]
     rw [show (es.map fun e=>rEnc (kvS enc) e)=es.map (rEnc (kvS enc)) from rfl] at *
     rw [ih']
     simp only [gIdx,gGet,Yc h]
     cases hm:gIdx k es with
     | none=>rfl
     | some i=>simp;omega
  have:=key es 0
  simpa using this
 same:=fun k=>Zfj (enc k) 9999
def Znt {κ:Type} [DecidableEq κ] (A:List (κ×Int)) (k:κ):Int:=A.foldl (fun x z=>if k=z.1 then z.2 else x) 0
theorem ZiO {κ:Type} [DecidableEq κ] {A:List (κ×Int)} {z:κ×Int} {k:κ} : Znt (A ++ [z]) k=if k=z.1 then z.2 else Znt A k:=by unfold Znt;rw [Yat];rfl
theorem Zsr {κ:Type} [DecidableEq κ] {k:κ} (A:List (κ×Int)) (hA:∀ z ∈ A,z.2=1):0≤Znt A k∧Znt A k≤1:=by
 have key:∀ (A:List (κ×Int)) (x:Int),(∀ z ∈ A,z.2=1)→0≤x∧x≤1→0≤A.foldl (fun x z=>if k=z.1 then z.2 else x) x∧A.foldl (fun x z=>if k=z.1 then z.2 else x) x≤1:=by
  intro A
  induction A with
  | nil=>intro x _ h;exact h
  | cons z A ih=>
   intro x hz hx
   rw [Yan]
   refine ih _ (fun y hy=>hz y (YC _ hy)) ?_
   have:=hz z (by simp)
   split <;> omega
 exact key A 0 hA ow
structure ZdT where
 fst:Int
 snd:Int
 deriving DecidableEq,Inhabited
def ZeZ (k:ZdT):List Int:=[k.fst,k.snd]
def Zas (e:Zg):List Int:=[e.src,e.dst,e.kind,e.key]
def Zdv (l:List TxD):List (Int×Int):=(l.filter TxD.done).map fun t=>(t.id,1)
def Zb1 (id:Int) (l:List OpD):List ZdT:=(l.filter fun o=>!o.read).map fun o=>⟨id,o.key⟩
def lastK (l:List TxD):List ZdT:=l.flatMap fun t=>if t.done=true then Zb1 t.id t.ops else []
def atI (l:List Int) (j:Nat):Int:=if j=0 then 0 else Nn l (j - 1)
def nxO (o:OrdD) (j:Nat):List (ZdT×Int):=(List.range j).map fun i=>(⟨o.key,atI o.txs i⟩,Nn o.txs i)
def nxA (l:List OrdD):List (ZdT×Int):=l.flatMap fun o=>nxO o o.txs.length
theorem Zgj {l:List TxD} {i:Nat} (hi:i<l.length):Zdv (l.take (i+1))=Zdv (l.take i)++if (Nn l i).done=true then [((Nn l i).id,1)] else []:=by
 unfold Zdv
 rw [Zp hi,Yaa,YQ]
 cases hd:(Nn l i).done <;> simp [hd]
theorem Zhj {l:List TxD} {i:Nat} (hi:i<l.length):lastK (l.take (i+1))=lastK (l.take i)++if (Nn l i).done=true then Zb1 (Nn l i).id (Nn l i).ops else []:=by
 unfold lastK
 rw [Zp hi,YU]
 simp
theorem ZfB {id:Int} {l:List OpD} {j:Nat} (hj:j<l.length):Zb1 id (l.take (j+1))=Zb1 id (l.take j)++if (Nn l j).read=true then [] else [⟨id,(Nn l j).key⟩]:=by
 unfold Zb1
 rw [Zp hj,Yaa,YQ]
 cases hd:(Nn l j).read <;> simp [hd]
theorem Zhc (id:Int) (l:List OpD):(Zb1 id l).length≤l.length:=by unfold Zb1;rw [YH];exact Yac _ _
theorem Zo6 {l:List TxD} (h:Za1 l) (i:Nat):(lastK (l.take i)).length≤1000*i:=by
 have key:∀ l:List TxD,(∀ t ∈ l,t.ops.length≤1000)→(lastK l).length≤1000*l.length:=by
  intro l
  induction l with
  | nil=>intro _;simp [lastK]
  | cons t l ih=>
   intro h
   have h1:=ih fun x hx=>h x (by simp [hx])
   have h2:=h t (by simp)
   have h3:=Zhc t.id t.ops
   unfold lastK at h1 ⊢
   rw [YZ,Yd,Yl]
   split
   ·omega
   ·simp only [Yy];omega
 have h1:=key (l.take i) fun t ht=>h.2 t (Yak ht)
 have h2:(l.take i).length≤i:=by rw [Yi];omega
 exact Y1 h1 (Ybl _ h2)
theorem Zrz {o:OrdD} {j:Nat} : nxO o (j+1)=nxO o j ++ [(⟨o.key,atI o.txs j⟩,Nn o.txs j)]:=by unfold nxO;rw [List.range_succ,YQ];rfl
theorem Zq0 {l:List OrdD} {i:Nat} (hi:i<l.length):nxA (l.take (i+1))=nxA (l.take i)++nxO (Nn l i) (Nn l i).txs.length:=by
 unfold nxA
 rw [Zp hi,YU]
 simp
def Znu {κ:Type} [DecidableEq κ] (es:List (GE κ Int)) (A:List (κ×Int)):Prop:=∀ k,(gGet k es).getD 0=Znt A k
def Zqr {κ:Type} [DecidableEq κ] (es:List (GE κ Int)) (R:List κ):Prop:=∀ k,(gGet k es).getD 0=(R.count k:Int)
theorem Zo1 {κ:Type} [DecidableEq κ] {es:List (GE κ Int)} {A:List (κ×Int)} {ck:Nat} {k:κ} {x:Int} (h:Znu es A):Znu (gPut k x (es,ck)).1 (A ++ [(k,x)]):=fun k'=>by
 rw [Zdo,ZiO,← h k']
 split <;> rfl
theorem ZtH {κ:Type} [DecidableEq κ] {es:List (GE κ Int)} {R:List κ} {ck:Nat} {k:κ} (h:Zqr es R) (hl:R.length≤100000000):Zqr (gSet k (IntKind.wrap .i64 ((gGet k es).getD 0+1)) (gEns 0 k (es,ck)).1) (R ++ [k]):=fun k'=>by
 have hc:R.count k≤R.length:=List.count_le_length
 rw [Zdi,h k,Zz ow,YbR]
 by_cases e:k' = k
 ·subst e;rw [Yf rfl];simp
 ·rw [Yc e,h k'];simp [List.count_cons,Ne.symm e]
def ZiC (g:Zr) (id:Int):Int:=Znt (Zdv g.txs) id
def ZmX (g:Zr) (id k:Int):Int:=((lastK g.txs).count ⟨id,k⟩:Int)
def nxI (g:Zr) (k x:Int):Int:=Znt (nxA g.orders) ⟨k,x⟩
def ZsH (g:Zr) (t:TxD) (o:OpD):Bool:=decide (o.tx=t.id) || (!decide (o.tx=0) && (decide (ZiC g o.tx=0) || !decide (ZmX g o.tx o.key=o.nth)))
def rdA (t:TxD) (o:OpD):List Zg:=if o.tx=0 then [] else [⟨o.tx,t.id,2,o.key⟩]
def rdB (g:Zr) (t:TxD) (o:OpD):List Zg:=if nxI g o.key o.tx≠0∧nxI g o.key o.tx≠t.id then [⟨t.id,nxI g o.key o.tx,3,o.key⟩] else []
def rdO (g:Zr) (t:TxD) (o:OpD):List Zg:=if ZsH g t o=true then [] else rdA t o++rdB g t o
theorem ZtI (g:Zr) (t:TxD) (o:OpD):(rdO g t o).length≤2:=by
 unfold rdO rdA rdB
 split
 ·simp
 ·split <;> split <;> simp
def rdT (p:Int→Bool) (g:Zr) (t:TxD) (l:List OpD):List Zg:=l.flatMap fun o=>if (t.done && (o.read && p o.key))=true then rdO g t o else []
def rdH (p:Int→Bool) (g:Zr) (l:List TxD):List Zg:=l.flatMap fun t=>rdT p g t t.ops
theorem ZkS {p:Int→Bool} {g:Zr} {t:TxD} {l:List OpD} {j:Nat} (hj:j<l.length):rdT p g t (l.take (j+1))=rdT p g t (l.take j)++if (t.done && ((Nn l j).read && p (Nn l j).key))=true then rdO g t (Nn l j) else []:=by
 unfold rdT
 rw [Zp hj,YU]
 simp
theorem ZrV {p:Int→Bool} {g:Zr} {l:List TxD} {i:Nat} (hi:i<l.length):rdH p g (l.take (i+1))=rdH p g (l.take i)++rdT p g (Nn l i) (Nn l i).ops:=by
 unfold rdH
 rw [Zp hi,YU]
 simp
theorem Zql (p:Int→Bool) (g:Zr) (t:TxD) (l:List OpD):(rdT p g t l).length≤2*l.length:=by
 induction l with
 | nil=>simp [rdT]
 | cons o l ih=>
  have h1:=ZtI g t o
  unfold rdT at ih ⊢
  rw [YZ,Yd,Yl]
  split
  ·omega
  ·simp only [Yy];omega
theorem ZoN {p:Int→Bool} {g:Zr} {l:List TxD} (h:Za1 l) (i:Nat):(rdH p g (l.take i)).length≤2000*i:=by
 have key:∀ l:List TxD,(∀ t ∈ l,t.ops.length≤1000)→(rdH p g l).length≤2000*l.length:=by
  intro l
  induction l with
  | nil=>intro _;simp [rdH]
  | cons t l ih=>
   intro h
   have h1:=ih fun x hx=>h x (by simp [hx])
   have h2:=h t (by simp)
   have h3:=Zql p g t t.ops
   unfold rdH at h1 ⊢
   rw [YZ,Yd,Yl]
   omega
 have h1:=key (l.take i) fun t ht=>h.2 t (Yak ht)
 have h2:(l.take i).length≤i:=by rw [Yi];omega
 exact Y1 h1 (Ybl _ h2)
def wwO (o:OrdD) (j:Nat):List (Zg×Int):=(List.range j).map fun i=>(⟨Nn o.txs i,Nn o.txs (i+1),1,o.key⟩,1)
def wwA (p:Int→Bool) (l:List OrdD):List (Zg×Int):=l.flatMap fun o=>if p o.key=true then wwO o (o.txs.length - 1) else []
theorem Zq7 {o:OrdD} {j:Nat} : wwO o (j+1)=wwO o j ++ [(⟨Nn o.txs j,Nn o.txs (j+1),1,o.key⟩,1)]:=by unfold wwO;rw [List.range_succ,YQ];rfl
theorem ZrK {p:Int→Bool} {l:List OrdD} {i:Nat} (hi:i<l.length):wwA p (l.take (i+1))=wwA p (l.take i)++if p (Nn l i).key=true then wwO (Nn l i) ((Nn l i).txs.length - 1) else []:=by
 unfold wwA
 rw [Zp hi,YU]
 simp
theorem Zpb {κ ν:Type} [DecidableEq κ] (k:κ) (v:ν):∀ es:List (GE κ ν),(gSet k v es).length=es.length
 | []=>rfl
 | e :: es=>by
  unfold gSet
  split
  ·rfl
  ·rw [Yl,Yl,Zpb k v es]
theorem Zvp {κ ν:Type} [DecidableEq κ] (k:κ) (v:ν) (s:List (GE κ ν)×Nat):(gPut k v s).1.length≤s.1.length+1:=by
 unfold gPut
 split
 ·show (gSet k v s.1).length≤_
  rw [Zpb];omega
 ·show (s.1 ++ [_]).length≤_
  rw [Yd];simp
theorem ZvC {κ ν:Type} [DecidableEq κ] (z:ν) (k:κ) (s:List (GE κ ν)×Nat):(gEns z k s).1.length≤s.1.length+1:=by
 unfold gEns
 split
 ·omega
 ·show (s.1 ++ [_]).length≤_
  rw [Yd];simp
structure Zhr (es:List (GE Zg Int)) (A:List (Zg×Int)) (R:List Zg):Prop where
 val:∀ e,(gGet e es).getD 0=Znt A e+(R.count e:Int)
 one:∀ z ∈ A,z.2=1
 key:∀ e,(gGet e es).isSome=true ↔ (e ∈ A.map Prod.fst∨e ∈ R)
 len:es.length≤A.length+R.length
theorem Zk6:Zhr [] [] []:=⟨fun _=>rfl,by simp,fun e=>by simp [gGet],Yx _⟩
theorem Zum {es:List (GE Zg Int)} {A:List (Zg×Int)} {ck:Nat} {e:Zg} (h:Zhr es A []):Zhr (gPut e 1 (es,ck)).1 (A ++ [(e,1)]) []:=⟨fun k=>by
 have:=h.val k
 rw [Zdo,ZiO]
 split
 ·rfl
 ·rw [this],fun z hz=>by
 rcases Yz.1 hz with h1 | h1
 ·exact h.one z h1
 ·simp at h1;rw [h1],fun k=>by
 rw [Zdo,YQ,Yz]
 by_cases hk:k=e
 ·rw [Yf hk];simp [hk]
 ·rw [Yc hk,h.key k];simp [hk],by
 have h1:=h.len
 have h2:=Zvp e (1:Int) (es,ck)
 rw [Yd]
 simp only [Yl,Yy] at h1 h2 ⊢
 omega⟩
theorem ZkB {es:List (GE Zg Int)} {A:List (Zg×Int)} {R:List Zg} {ck:Nat} {e:Zg} (h:Zhr es A R) (hl:R.length≤100000000):Zhr (gSet e (IntKind.wrap .i64 ((gGet e es).getD 0+1)) (gEns 0 e (es,ck)).1) A (R ++ [e]):=⟨fun k=>by
 have hc:R.count e≤R.length:=List.count_le_length
 have h1:=Zsr (k:=e) A h.one
 rw [Zdi,h.val e,Zz ow,YbR]
 by_cases hk:k=e
 ·subst hk;rw [Yf rfl];simp;omega
 ·rw [Yc hk,h.val k];simp [List.count_cons,Ne.symm hk],h.one,fun k=>by
 rw [Zdi,Yz]
 by_cases hk:k=e
 ·rw [Yf hk];simp [hk]
 ·rw [Yc hk,h.key k];simp [hk],by
 have h1:=h.len
 have h2:=ZvC (0:Int) e (es,ck)
 rw [Zpb,Yd]
 simp only [Yl,Yy] at h1 h2 ⊢
 omega⟩
structure FS where
 mA:Value
 mB:Value
 mC:Value
 eA:List (GE Int Int)
 kA:Nat
 eB:List (GE ZdT Int)
 kB:Nat
 eC:List (GE ZdT Int)
 kC:Nat
structure Zwl (g:Zr) (s:FS):Prop where
 dn:Znu s.eA (Zdv g.txs)
 la:Zqr s.eB (lastK g.txs)
 nx:Znu s.eC (nxA g.orders)
theorem Zhh:ZnD prog 250 (fun k=>∀ x ∈ ZeZ k,inR .i64 x) (kvS ZeZ):=ZrD (et:=3) (n:=2) (fun _=>rfl) (fun a b h=>by cases a;cases b;simpa [ZeZ] using h) kr kr kr
theorem Zc2:ZnD prog 42 (fun k=>∀ x ∈ Zas k,inR .i64 x) (kvS Zas):=ZdE (n:=4) (fun _=>rfl) (fun a b h=>by cases a;cases b;simpa [Zas] using h) kr
def ZsV (g:Zr) (s:FS) (v:Value):List RS:=[.pt (.val v) 249 [.pv (.sl rTx g.txs),.pv (.sl ZJ g.orders),.pv (.is s.mA),.pv (.is s.mB),.pv (.is s.mC)],.ob (.val s.mA) (ZbF (fun n:Int=>PV.int .i64 n) (fun _=>True) (fun n:Int=>Value.int .i64 n) s.eA s.kA),.ob (.val s.mB) (ZbF (fun n:Int=>PV.int .i64 n) (fun k=>∀ x ∈ ZeZ k,inR .i64 x) (kvS ZeZ) s.eB s.kB),.ob (.val s.mC) (ZbF (fun n:Int=>PV.int .i64 n) (fun k=>∀ x ∈ ZeZ k,inR .i64 x) (kvS ZeZ) s.eC s.kC)]
def ZnA (g:Zr) (v:Value):HP:=.ex fun s:FS=>.and (Zwl g s) (.star (ZsV g s v))
def ZfZ (A:List (Zg×Int)) (R:List Zg) (v:Value):HP:=.ex fun s:List (GE Zg Int)×Nat=>.and (Zhr s.1 A R) (ZbF (fun n:Int=>PV.int .i64 n) (fun k=>∀ x ∈ Zas k,inR .i64 x) (kvS Zas) s.1 s.2 v)
end Go.Proofs.YtlkpllemoepamaaGreat
