/- Texts put together. No condition beyond those that each theorem says. -/
import Derived.Test.YtlkpllemoepamaaGreatJ3
import Derived.Test.YtlkpllemoepamaaGreatLibE
namespace Go.Proofs.YtlkpllemoepamaaGreat
open Go Go.Gm Tryz
set_option linter.unusedVariables false
set_option linter.unusedSimpArgs false
set_option maxHeartbeats 4000000
set_option maxRecDepth 8000
theorem ZvE (g:Zr) (hsm:Za9 g):FnG prog 135 1 [.agg (Zw g)] [.star []] (PV.ptr) (fun v=>[ZnA g v]):=by
 refine FnG.mk func135 rfl ntmps135 rfl kr fun B F0 a w F V hG G=>?_
 have hs:=hsm.1
 have hsl:=hs.1
 have hso:=hsm.2
 have hol1:=hso.1
 refine Ya (Zb G (qx 101 r1 (qC qZ)) V [2,1] [101,1,0] (fun _=>rfl) (fun _=>rfl) fun τ a w F G=>?_)
 try dsimp only [RS.sub,SF.sub,CF.sub,csub,Anc.sub,List.map,zCF,Zw,rTx,ZJ,ZT,Zn,rOp] at G
 generalize τ 1=v1 at G
 refine Za (Ya (Zb G (qe 2 101 r1 r1 (qf (Za0 (ek:=(fun n:Int=>PV.int .i64 n)) (ok:=(fun _=>True)) (kv:=(fun n:Int=>Value.int .i64 n)) 102) trivial qz (qf (Za0 (ek:=(fun n:Int=>PV.int .i64 n)) (ok:=(fun k=>∀ x ∈ ZeZ k,inR .i64 x)) (kv:=(kvS ZeZ)) 103) trivial qz (qf (Za0 (ek:=(fun n:Int=>PV.int .i64 n)) (ok:=(fun k=>∀ x ∈ ZeZ k,inR .i64 x)) (kv:=(kvS ZeZ)) 104) trivial qz (qf (oB [(0,.tmp 13),(1,.tmp 14),(2,.tmp 15),(3,.tmp 16)] [.slice none 0 0,.slice none 0 0,.map none,.map none,.map none] [(0,2),(2,1),(3,1),(4,1)] (.agg rfl .t kr kr (.same rfl kr (.same rfl kr (.same rfl kr .nil))))) r4 qz (qf (oX 105 .t) r1 qz (qO rr qZ))))))) V [3,2,1] [105,104,103,102,101,1,0] (fun _=>rfl) (fun _=>rfl) fun τ a w F G=>?_))
 try dsimp only [RS.sub,SF.sub,CF.sub,csub,Anc.sub,List.map,Zf,xL,xM,Nat.reduceAdd,xD,xE,xT,xU,xC,xN,zCF,ldSF,Zw,rTx,ZJ,ZT,Zn,rOp] at G
 generalize τ 18=v18,τ 14=v14 at G
 generalize τ 15=v15,τ 16=v16 at G
 refine Za (Ya (Ya (rZ G (qg 0 101 r1 r1 (qa 101 r1 r1 (qu Ycg r1 (qJ qZ)))) V [22,21,20,3,2,1] [105,104,103,102,101,1,0] fun G=>Yg ?_)))
 refine Zl (σ:=(Nat)×(List (GE Int Int))×(Nat)×(List (GE ZdT Int))×(Nat)) [1,2,3,20,21] [0,1,101,104,105] (fun s=>[(22,.pv (.int .i64 (s.1:Int)))]) (fun s=>[(102,.ob (.val v14) (ZbF (fun n:Int=>PV.int .i64 n) (fun _=>True) (fun n:Int=>Value.int .i64 n) s.2.1 s.2.2.1)),(103,.ob (.val v15) (ZbF (fun n:Int=>PV.int .i64 n) (fun k=>∀ x ∈ ZeZ k,inR .i64 x) (kvS ZeZ) s.2.2.2.1 s.2.2.2.2))]) (fun s=>s.1≤g.txs.length∧(Znu s.2.1 (Zdv (g.txs.take s.1))∧Zqr s.2.2.2.1 (lastK (g.txs.take s.1)))) (fun s=>g.txs.length - s.1) ((0),([]),(0),([]),(0)) G ⟨rfl,rfl,rfl,rfl,rfl,rfl,tv⟩ ⟨rfl,rfl,rfl,rfl,rfl,rfl,rfl,tv⟩ ⟨Yx _,⟨fun _=>rfl,fun _=>rfl⟩⟩ ?_
 clear G;intro s a w F hC G
 obtain ⟨i,eA,kA,eB,kB⟩:=s
 try dsimp only at hC
 obtain ⟨F,G⟩:=G.nM [22,21,20,3,2,1] [105,104,103,102,101,1,0]
 try dsimp only at G
 obtain ⟨hi,hq⟩:=hC
 have hxl:=fun hil:i<g.txs.length=>hs.at hil
 refine Ya (rZ G (qL r2) V [23,22,21,20,3,2,1] [105,104,103,102,101,1,0] fun G=>Ya ?_)
 refine Zc G rfl (fun hc0=>?_) (fun hc0=>?_)
 ·have hil:i<g.txs.length:=by simp at hc0;omega
  have hio:=hil
  have htl:=hxl hil
  have hsl:=hs.1
  have hdn0:=hq.1
  have hcn:=hq.2
  refine Ye (Za (Ya (Yg (Ya (Zb G (qy 3 Ycg r2 (qf (oR true 3 .t) r1 qz (qf (oH [.int .i64 0,.bool false,.slice none 0 0] 106) trivial qz (qS 3 106 r2 r1 qZ)))) V [22,21,20,5,3,2,1] [106,105,104,103,102,101,1,0] (fun _=>rfl) (fun _=>rfl) fun τ a w F G=>?_)))))
  try dsimp only [RS.sub,SF.sub,CF.sub,csub,Anc.sub,List.map,Zf,xL,xM,Nat.reduceAdd,xD,xE,xT,xU,xC,xN,zCF,ldSF,Zw,rTx,ZJ,ZT,Zn,rOp] at G
  generalize τ 5=v5 at G
  try simp only [Yb] at G
  refine Za (Ya (Ya (rZ G (qg 1 106 r1 r1 (qa 106 r1 r1 (qf (o_not .t) r1 qz qZ))) V [28,22,21,20,5,3,2,1] [106,105,104,103,102,101,1,0] fun G=>?_)))
  refine Zc G rfl (fun hc1=>?_) (fun hc1=>?_)
  ·have hdn:(Nn g.txs i).done=false:=by simpa using hc1
   obtain ⟨eA2,heA2⟩:∃ z,z=eA:=⟨_,rfl⟩
   obtain ⟨kA2,hkA2⟩:∃ z,z=kA:=⟨_,rfl⟩
   obtain ⟨eB2,heB2⟩:∃ z,z=eB:=⟨_,rfl⟩
   obtain ⟨kB2,hkB2⟩:∃ z,z=kB:=⟨_,rfl⟩
   rw [← heA2,← hkA2,← heB2,← hkB2] at G
   have hR2:Znu eA2 (Zdv (g.txs.take (i+1)))∧Zqr eB2 (lastK (g.txs.take (i+1))):=by rw [heA2,heB2,Zgj hio,Zhj hio,Yc (by rw [hdn];simp),Yc (by rw [hdn];simp),YP,YP];exact ⟨hdn0,hcn⟩
   refine Yw (Zj (Zo (Za (rZ G (qp r1 (qR rr qZ)) V [22,21,20,3,2,1] [106,105,104,103,102,101,1,0] fun G=>?_))))
   replace G:=G.ent (i:=22) (s':=.pv (.int .i64 ((i+1:Nat):Int))) rfl (.int (Zd ow))
   obtain ⟨F,G⟩:=G.nM [21,20,3,2,1,22] [105,104,101,1,0,103,102]
   exact ⟨((i+1),(eA2),(kA2),(eB2),(kB2)),F,⟨by omega,hR2⟩,G,by omega⟩
  have hdn:(Nn g.txs i).done=true:=by simpa using hc1
  refine Ye (Za (Ya (Zv G (qR rr (qf (o_nilCheck 105 .is (by rfl)) r1 r1 (qf (oF 2 105 .adr) r1 r1 (qa 105 r1 r1 (qg 0 106 r1 r1 (qa 106 r1 r1 (qf (o_mapUpdateG (ek:=(fun n:Int=>PV.int .i64 n)) 102 underlying75 (ZcA Ycl) .is (ZL.int .t rfl) qi) r2 r1 qZ))))))) V [22,21,20,5,3,2,1] [106,105,104,103,102,101,1,0] rfl rfl fun a w F G=>?_)))
  try dsimp only [List.map,xD,xE,xT,xU,ldSF,Zw,rTx,ZJ,ZT,Zn,rOp] at G
  obtain ⟨eA2,heA2⟩:∃ z,z=(gPut (Nn g.txs i).id 1 (eA,kA)).1:=⟨_,rfl⟩
  obtain ⟨kA2,hkA2⟩:∃ z,z=(gPut (Nn g.txs i).id 1 (eA,kA)).2:=⟨_,rfl⟩
  rw [← heA2,← hkA2] at G
  refine Za (Ya (rZ G (qg 2 106 r1 r1 (qa 106 r1 r1 (qu Yci r1 (qJ qZ)))) V [38,37,36,22,21,20,5,3,2,1] [106,105,104,103,102,101,1,0] fun G=>Yg ?_))
  refine Zl (σ:=(Nat)×(List (GE ZdT Int))×(Nat)) [1,2,3,5,20,21,22,36,37] [0,1,101,102,104,105,106] (fun s=>[(38,.pv (.int .i64 (s.1:Int)))]) (fun s=>[(103,.ob (.val v15) (ZbF (fun n:Int=>PV.int .i64 n) (fun k=>∀ x ∈ ZeZ k,inR .i64 x) (kvS ZeZ) s.2.1 s.2.2))]) (fun s=>s.1≤(Nn g.txs i).ops.length∧(Zqr s.2.1 (lastK (g.txs.take i)++Zb1 (Nn g.txs i).id ((Nn g.txs i).ops.take s.1)))) (fun s=>(Nn g.txs i).ops.length - s.1) ((0),(eB),(kB)) G ⟨rfl,rfl,rfl,rfl,rfl,rfl,rfl,rfl,rfl,rfl,tv⟩ ⟨rfl,rfl,rfl,rfl,rfl,rfl,rfl,rfl,tv⟩ ⟨Yx _,(by show Zqr _ (lastK (g.txs.take i) ++ []);rw [YP];exact hcn)⟩ ?_
  clear G;intro s a w F hC G
  obtain ⟨j,eB3,kB3⟩:=s
  try dsimp only at hC
  obtain ⟨F,G⟩:=G.nM [38,37,36,22,21,20,5,3,2,1] [106,105,104,103,102,101,1,0]
  try dsimp only at G
  obtain ⟨hi,hq⟩:=hC
  refine Ya (rZ G (qL r2) V [39,38,37,36,22,21,20,5,3,2,1] [106,105,104,103,102,101,1,0] fun G=>Ya ?_)
  refine Zc G rfl (fun hc2=>?_) (fun hc2=>?_)
  ·have hil:j<(Nn g.txs i).ops.length:=by simp at hc2;omega
   refine Ye (Za (Ya (Yg (Ya (Zb G (qy 4 Yci r2 (qf (oR true 4 .t) r1 qz (qf (oH [.bool false,.int .i64 0,.int .i64 0,.int .i64 0] 107) trivial qz (qS 4 107 r2 r1 qZ)))) V [38,37,36,22,21,20,7,5,3,2,1] [107,106,105,104,103,102,101,1,0] (fun _=>rfl) (fun _=>rfl) fun τ a w F G=>?_)))))
   try dsimp only [RS.sub,SF.sub,CF.sub,csub,Anc.sub,List.map,Zf,xL,xM,Nat.reduceAdd,xD,xE,xT,xU,xC,xN,zCF,ldSF,Zw,rTx,ZJ,ZT,Zn,rOp] at G
   generalize τ 7=v7 at G
   try simp only [Yb] at G
   refine Za (Ya (rZ G (qg 0 107 r1 r1 (qa 107 r1 r1 (qf (o_not .t) r1 qz qZ))) V [44,38,37,36,22,21,20,7,5,3,2,1] [107,106,105,104,103,102,101,1,0] fun G=>?_))
   refine Zc G rfl (fun hc3=>?_) (fun hc3=>?_)
   ·have hrd:(Nn (Nn g.txs i).ops j).read=false:=by simpa using hc3
    replace G:=G.turnZ 103 (0) (⟨(Nn g.txs i).id,(Nn (Nn g.txs i).ops j).key⟩:ZdT) rfl
    refine Zbc 103 13 (m1:=1) (m2:=2) kr G kr (qR rr (qf (o_nilCheck 105 .is (by rfl)) r1 r1 (qf (oF 3 105 .adr) r1 r1 (qa 105 r1 r1 (qg 0 106 r1 r1 (qa 106 r1 r1 (qg 1 107 r1 r1 (qa 107 r1 r1 (qf (Zby (sz:=1) (r:=[(0,.tmp 50),(1,.tmp 52)]) (zs:=[.int .i64 0,.int .i64 0]) (pl:=[(0,1),(1,1)]) Ycq kr kr rfl (.one rfl .t one_int kr (.one rfl .t one_int kr .nil)) (by rfl)) r2 qz (qf (Zce (ek:=(fun n:Int=>PV.int .i64 n)) (z0:=(0)) 103 Ycv Zhh kr (fun _ _=>⟨rfl,ZcS⟩) .is (ZL.agg (enc:=ZeZ) (k:=(⟨(Nn g.txs i).id,(Nn (Nn g.txs i).ops j).key⟩:ZdT)) (.pagg .t) rfl)) r2 r1 (qp r1 (qf (Zba (ek:=(fun n:Int=>PV.int .i64 n)) (z0:=(0)) 103 Ycv Zhh kr (fun _ _=>⟨rfl,ZcS⟩) .is (ZL.agg (enc:=ZeZ) (k:=(⟨(Nn g.txs i).id,(Nn (Nn g.txs i).ops j).key⟩:ZdT)) (.pagg .t) rfl) (by intros;first | rfl | simp [Anc.v,upd])) r2 r1 (qf (Zh .t rfl) r1 qz (qf (ZaM 103 (ZbC _ _ _) .is .t .t) r3 r1 qZ)))))))))))))) kr kr kr rfl rfl rfl (fun _ _ _ _ h=>.inr h) (by rw [V];kernel_rfl) fun a w F G=>?_
    obtain ⟨F,G⟩:=G.nM [38,37,36,22,21,20,5,3,2,1] [107,106,105,104,103,102,101,1,0]
    try dsimp only [List.map,Zf,xL,xM,Nat.reduceAdd,xD,xE,xT,xU,xC,xN,zCF,ldSF,Zw,rTx,ZJ,ZT,Zn,rOp] at G
    obtain ⟨eB4,heB4⟩:∃ z,z=gSet (⟨(Nn g.txs i).id,(Nn (Nn g.txs i).ops j).key⟩:ZdT) (IntKind.wrap .i64 ((gGet (⟨(Nn g.txs i).id,(Nn (Nn g.txs i).ops j).key⟩:ZdT) eB3).getD 0+1)) (gEns 0 (⟨(Nn g.txs i).id,(Nn (Nn g.txs i).ops j).key⟩:ZdT) (eB3,kB3)).1:=⟨_,rfl⟩
    obtain ⟨kB4,hkB4⟩:∃ z,z=(gEns 0 (⟨(Nn g.txs i).id,(Nn (Nn g.txs i).ops j).key⟩:ZdT) (eB3,kB3)).2:=⟨_,rfl⟩
    rw [← heB4,← hkB4] at G
    have hR3:Zqr eB4 (lastK (g.txs.take i)++Zb1 (Nn g.txs i).id ((Nn g.txs i).ops.take (j+1))):=by rw [heB4,ZfB hil,Yc (by rw [hrd];simp),← YN];exact ZtH hq (by have h1:=Zo6 hs i;have h2:=Zhc (Nn g.txs i).id ((Nn g.txs i).ops.take j);rw [Yi] at h2;rw [Yd];omega)
    refine Zi (Za (rZ G (qp r1 (qR rr qZ)) V [38,37,36,22,21,20,5,3,2,1] [107,106,105,104,103,102,101,1,0] fun G=>?_))
    replace G:=G.ent (i:=38) (s':=.pv (.int .i64 ((j+1:Nat):Int))) rfl (.int (Zd ow))
    obtain ⟨F,G⟩:=G.nM [37,36,22,21,20,5,3,2,1,38] [106,105,104,102,101,1,0,103]
    exact ⟨((j+1),(eB4),(kB4)),F,⟨by omega,hR3⟩,G,by omega⟩
   have hrd:(Nn (Nn g.txs i).ops j).read=true:=by simpa using hc3
   obtain ⟨eB4,heB4⟩:∃ z,z=eB3:=⟨_,rfl⟩
   obtain ⟨kB4,hkB4⟩:∃ z,z=kB3:=⟨_,rfl⟩
   rw [← heB4,← hkB4] at G
   have hR3:Zqr eB4 (lastK (g.txs.take i)++Zb1 (Nn g.txs i).id ((Nn g.txs i).ops.take (j+1))):=by rw [heB4,ZfB hil,Yf hrd,YP];exact hq
   refine Ye (Zi (Za (rZ G (qp r1 (qR rr qZ)) V [38,37,36,22,21,20,5,3,2,1] [107,106,105,104,103,102,101,1,0] fun G=>?_)))
   replace G:=G.ent (i:=38) (s':=.pv (.int .i64 ((j+1:Nat):Int))) rfl (.int (Zd ow))
   obtain ⟨F,G⟩:=G.nM [37,36,22,21,20,5,3,2,1,38] [106,105,104,102,101,1,0,103]
   exact ⟨((j+1),(eB4),(kB4)),F,⟨by omega,hR3⟩,G,by omega⟩
  have hil:j=(Nn g.txs i).ops.length:=by simp at hc2;omega
  rw [hil,YA] at hq
  obtain ⟨eB2,heB2⟩:∃ z,z=eB3:=⟨_,rfl⟩
  obtain ⟨kB2,hkB2⟩:∃ z,z=kB3:=⟨_,rfl⟩
  rw [← heB2,← hkB2] at G
  have hR2:Znu eA2 (Zdv (g.txs.take (i+1)))∧Zqr eB2 (lastK (g.txs.take (i+1))):=by rw [heA2,heB2,Zgj hio,Zhj hio,Yf hdn,Yf hdn];exact ⟨Zo1 hdn0,hq⟩
  refine Yw (Zj (Zj (Zo (Zi (Za (rZ G (qp r1 (qR rr qZ)) V [22,21,20,3,2,1] [106,105,104,103,102,101,1,0] fun G=>?_))))))
  replace G:=G.ent (i:=22) (s':=.pv (.int .i64 ((i+1:Nat):Int))) rfl (.int (Zd ow))
  obtain ⟨F,G⟩:=G.nM [21,20,3,2,1,22] [105,104,101,1,0,103,102]
  exact ⟨((i+1),(eA2),(kA2),(eB2),(kB2)),F,⟨by omega,hR2⟩,G,by omega⟩
 have hil:i=g.txs.length:=by simp at hc0;omega
 rw [hil,YA] at hq
 have hdA:=hq.1
 have hdB:=hq.2
 refine Yw (Zj (Zj (Zo (Za (Ya (Ya (rZ G (qg 1 101 r1 r1 (qa 101 r1 r1 (qu Ycf r1 (qJ qZ)))) V [63,62,61,3,2] [105,104,103,102,101,1,0] fun G=>Yg ?_)))))))
 refine Zl (σ:=(Nat)×(List (GE ZdT Int))×(Nat)) [2,3,61,62] [0,1,101,102,103,105] (fun s=>[(63,.pv (.int .i64 (s.1:Int)))]) (fun s=>[(104,.ob (.val v16) (ZbF (fun n:Int=>PV.int .i64 n) (fun k=>∀ x ∈ ZeZ k,inR .i64 x) (kvS ZeZ) s.2.1 s.2.2))]) (fun s=>s.1≤g.orders.length∧(Znu s.2.1 (nxA (g.orders.take s.1)))) (fun s=>g.orders.length - s.1) ((0),([]),(0)) G ⟨rfl,rfl,rfl,rfl,rfl,tv⟩ ⟨rfl,rfl,rfl,rfl,rfl,rfl,rfl,tv⟩ ⟨Yx _,(fun _=>rfl)⟩ ?_
 clear G;intro s a w F hC G
 obtain ⟨i,eC,kC⟩:=s
 try dsimp only at hC
 obtain ⟨F,G⟩:=G.nM [63,62,61,3,2] [105,104,103,102,101,1,0]
 try dsimp only at G
 obtain ⟨hi,hq⟩:=hC
 have hol:=fun hil:i<g.orders.length=>hso.at hil
 refine Ya (rZ G (qL r2) V [64,63,62,61,3,2] [105,104,103,102,101,1,0] fun G=>Ya ?_)
 refine Zc G rfl (fun hc4=>?_) (fun hc4=>?_)
 ·have hil:i<g.orders.length:=by simp at hc4;omega
  have hio:=hil
  have hcn:=hq
  have hox:=hol hil
  have hol1:=hso.1
  refine Ye (Za (Ya (Yg (Ya (Zb G (qy 2 Ycf r2 (qf (oR true 2 .t) r1 qz (qf (oH [.int .i64 0,.slice none 0 0] 108) trivial qz (qS 2 108 r2 r1 qZ)))) V [63,62,61,9,3,2] [108,105,104,103,102,101,1,0] (fun _=>rfl) (fun _=>rfl) fun τ a w F G=>?_)))))
  try dsimp only [RS.sub,SF.sub,CF.sub,csub,Anc.sub,List.map,Zf,xL,xM,Nat.reduceAdd,xD,xE,xT,xU,xC,xN,zCF,ldSF,Zw,rTx,ZJ,ZT,Zn,rOp] at G
  generalize τ 9=v9 at G
  try simp only [Yb] at G
  refine Za (Ya (rZ G (qI qZ) V [63,62,61,10,9,3,2] [108,105,104,103,102,101,1,0] fun G=>Ya ?_))
  refine rZ G (qg 1 108 r1 r1 (qa 108 r1 r1 (qu Ycd r1 (qJ qZ)))) V [70,69,68,63,62,61,10,9,3,2] [108,105,104,103,102,101,1,0] fun G=>Yg ?_
  replace G:=G.ent (i:=10) (s':=.pv (.int .i64 (atI (Nn g.orders i).txs 0))) rfl (.int rfl)
  refine Zl (σ:=(Nat)×(List (GE ZdT Int))×(Nat)) [2,3,9,61,62,63,68,69] [0,1,101,102,103,105,108] (fun s=>[(70,.pv (.int .i64 (s.1:Int))),(10,.pv (.int .i64 (atI (Nn g.orders i).txs s.1)))]) (fun s=>[(104,.ob (.val v16) (ZbF (fun n:Int=>PV.int .i64 n) (fun k=>∀ x ∈ ZeZ k,inR .i64 x) (kvS ZeZ) s.2.1 s.2.2))]) (fun s=>s.1≤(Nn g.orders i).txs.length∧(Znu s.2.1 (nxA (g.orders.take i)++nxO (Nn g.orders i) s.1))) (fun s=>(Nn g.orders i).txs.length - s.1) ((0),(eC),(kC)) G ⟨rfl,rfl,rfl,rfl,rfl,rfl,rfl,rfl,rfl,rfl,tv⟩ ⟨rfl,rfl,rfl,rfl,rfl,rfl,rfl,rfl,tv⟩ ⟨Yx _,(by show Znu _ (nxA (g.orders.take i) ++ []);rw [YP];exact hcn)⟩ ?_
  clear G;intro s a w F hC G
  obtain ⟨j,eC3,kC3⟩:=s
  try dsimp only at hC
  obtain ⟨F,G⟩:=G.nM [70,69,68,63,62,61,10,9,3,2] [108,105,104,103,102,101,1,0]
  try dsimp only at G
  obtain ⟨hi,hq⟩:=hC
  refine Ya (rZ G (qL r2) V [71,70,69,68,63,62,61,10,9,3,2] [108,105,104,103,102,101,1,0] fun G=>Ya ?_)
  refine Zc G rfl (fun hc5=>?_) (fun hc5=>?_)
  ·have hil:j<(Nn g.orders i).txs.length:=by simp at hc5;omega
   refine Ye (Za (Ya (Yg (Ya (Ze G (qy 1 Ycd r2 (qf (oR false 1 .t) r1 qz (qO rr qZ))) V [70,69,68,63,62,61,12,10,9,3,2] [108,105,104,103,102,101,1,0] rfl rfl fun a w F G=>?_)))))
   try simp only [Yb] at G
   refine Za (Ya (Zv G (qR rr (qf (o_nilCheck 105 .is (by rfl)) r1 r1 (qf (oF 4 105 .adr) r1 r1 (qa 105 r1 r1 (qg 0 108 r1 r1 (qa 108 r1 r1 (qR rr (qf (Zby (sz:=1) (r:=[(0,.tmp 79),(1,.tmp 80)]) (zs:=[.int .i64 0,.int .i64 0]) (pl:=[(0,1),(1,1)]) Ycq kr kr rfl (.one rfl .t one_int kr (.one rfl .t one_int kr .nil)) (by rfl)) r2 qz (qR rr (qf (o_mapUpdateG (ek:=(fun n:Int=>PV.int .i64 n)) 104 Ycv Zhh .is (ZL.agg (enc:=ZeZ) (k:=(⟨(Nn g.orders i).key,atI (Nn g.orders i).txs j⟩:ZdT)) (.pagg .t) rfl) .t) r3 r1 qZ)))))))))) V [70,69,68,63,62,61,12,10,9,3,2] [108,105,104,103,102,101,1,0] rfl rfl fun a w F G=>?_))
   try dsimp only [List.map,Zf,xL,xM,Nat.reduceAdd,xD,xE,xT,xU,xC,xN,zCF,ldSF,Zw,rTx,ZJ,ZT,Zn,rOp] at G
   obtain ⟨eC4,heC4⟩:∃ z,z=(gPut (⟨(Nn g.orders i).key,atI (Nn g.orders i).txs j⟩:ZdT) (Nn (Nn g.orders i).txs j) (eC3,kC3)).1:=⟨_,rfl⟩
   obtain ⟨kC4,hkC4⟩:∃ z,z=(gPut (⟨(Nn g.orders i).key,atI (Nn g.orders i).txs j⟩:ZdT) (Nn (Nn g.orders i).txs j) (eC3,kC3)).2:=⟨_,rfl⟩
   rw [← heC4,← hkC4] at G
   have hR3:Znu eC4 (nxA (g.orders.take i)++nxO (Nn g.orders i) (j+1)):=by rw [heC4,Zrz,← YN];exact Zo1 hq
   refine Za (Ze G (qR rr (qO rr qZ)) V [70,69,68,63,62,61,10,9,3,2] [108,105,104,103,102,101,1,0] rfl rfl fun a w F G=>Zi (Za ?_))
   refine rZ G (qp r1 (qR rr qZ)) V [70,69,68,63,62,61,10,9,3,2] [108,105,104,103,102,101,1,0] fun G=>?_
   replace G:=G.ent (i:=70) (s':=.pv (.int .i64 ((j+1:Nat):Int))) rfl (.int (Zd ow))
   replace G:=G.ent (i:=10) (s':=.pv (.int .i64 (atI (Nn g.orders i).txs (j+1)))) rfl (.int (by simp [atI]))
   obtain ⟨F,G⟩:=G.nM [69,68,63,62,61,9,3,2,10,70] [108,105,103,102,101,1,0,104]
   exact ⟨((j+1),(eC4),(kC4)),F,⟨by omega,hR3⟩,G,by omega⟩
  have hil:j=(Nn g.orders i).txs.length:=by simp at hc5;omega
  rw [hil] at hq
  obtain ⟨eC2,heC2⟩:∃ z,z=eC3:=⟨_,rfl⟩
  obtain ⟨kC2,hkC2⟩:∃ z,z=kC3:=⟨_,rfl⟩
  rw [← heC2,← hkC2] at G
  have hR2:Znu eC2 (nxA (g.orders.take (i+1))):=by rw [heC2,Zq0 hio];exact hq
  refine Yw (Zj (Zj (Zo (Zi (Za (rZ G (qp r1 (qR rr qZ)) V [63,62,61,3,2] [108,105,104,103,102,101,1,0] fun G=>?_))))))
  replace G:=G.ent (i:=63) (s':=.pv (.int .i64 ((i+1:Nat):Int))) rfl (.int (Zd ow))
  obtain ⟨F,G⟩:=G.nM [62,61,3,2,63] [105,103,102,101,1,0,104]
  exact ⟨((i+1),(eC2),(kC2)),F,⟨by omega,hR2⟩,G,by omega⟩
 have hil:i=g.orders.length:=by simp at hc4;omega
 rw [hil,YA] at hq
 have hdC:=hq
 refine Yw (Zj (Zj (Zo (Za (Ya (rZ G (qR rr (qO rr qZ)) V [2] [105,104,103,102,101,1,0] fun G=>Yh ?_))))))
 obtain ⟨b,rfl⟩:=G.shape 105 rfl
 obtain ⟨F,G⟩:=G.push 1 104 rfl rfl rfl kr
 obtain ⟨F,G⟩:=G.push 1 103 rfl rfl rfl kr
 obtain ⟨F,G⟩:=G.push 1 102 rfl rfl rfl kr
 obtain ⟨F,G⟩:=G.push 1 105 rfl rfl rfl kr
 have G:=G.turn 1 rfl (r':=RS.hp (ZnA g (.pointer (some ⟨b,0,none⟩)))) (fun _ _ _ _ h=>⟨(⟨v14,v15,v16,eA,kA,eB,kB,eC,kC⟩:FS),⟨hdA,hdB,hdC⟩,h⟩)
 refine Z1 (h':=fun v=>ZnA g v) hG G rfl (.tmp rfl .nil) (.one .ptr) rfl
theorem ZfR {P:Program} {B:Zbo} {F0:Fp} (hG:Zng B F0 2) {E:En} {a:Act} {w:World} {F:Fp} {fn:Func} {q:PV} {k1 k2:HP} {ss:List SF} (G:Sat B E a w F) (h0:Go.Gm.look E.r 0=some (frame B)) (hr:ROk P E fn.results.toList ss) (hq:Zbd ss q)
  (h1:Go.Gm.look E.r 1=some (RS.hp k1)) (h2:Go.Gm.look E.r 2=some (RS.hp k2)):bodyPost P fn (RG B F0 2 q (fun _=>[k1,k2])) .ret a w:=
 ZqR hG G h0 hr hq fun v τ y hv i h hi=>by
  match i,hi with
  | 0,hi=>simp at hi;subst hi;exact ⟨_,h1,by omega,fun _ _ _ h=>h⟩
  | 1,hi=>simp at hi;subst hi;exact ⟨_,h2,by omega,fun _ _ _ h=>h⟩
theorem Ztl (b:Nat) (g:Zr) (t:TxD) (o:OpD) (mv:Value) (AA:List (Zg×Int)) (RR:List Zg) (hRR:RR.length≤10000000):FnG prog 136 2 [.is (.pointer (some ⟨b,0,none⟩)),.agg (rTx t),.agg (rOp o),.is mv] [ZnA g (.pointer (some ⟨b,0,none⟩)),ZfZ AA RR mv] (.tup []) (fun _=>[ZnA g (.pointer (some ⟨b,0,none⟩)),ZfZ AA (RR++rdO g t o) mv]):=by
 refine FnG.mk func136 rfl ntmps136 rfl kr fun B F0 a w F V hG G=>?_
 obtain ⟨⟨mA,mB,mC,eA,kA,eB,kB,eC,kC⟩,G⟩:=G.open_ex 1 rfl
 obtain ⟨hI,G⟩:=G.open_and 1 rfl
 try dsimp only [ZsV] at G
 obtain ⟨F,G⟩:=G.peel 1 3 rfl rfl
 obtain ⟨F,G⟩:=G.peel 1 4 rfl rfl
 obtain ⟨F,G⟩:=G.peel 1 5 rfl rfl
 obtain ⟨F,G⟩:=G.peel 1 6 rfl rfl
 obtain ⟨⟨es,ck⟩,G⟩:=G.open_ex 2 rfl
 obtain ⟨hq0,G⟩:=G.open_and 2 rfl
 replace G:=G.turn 2 rfl (r':=.ob (.val mv) (ZbF (fun n:Int=>PV.int .i64 n) (fun k=>∀ x ∈ Zas k,inR .i64 x) (kvS Zas) es ck)) (fun _ _ _ _ h=>h)
 try dsimp only at hI hq0
 obtain ⟨F,G⟩:=G.nM [3,2,1,0] [6,5,4,3,2,0]
 refine Ya (Zb G (qx 101 r1 (qx 102 r1 qZ)) V [6,5,3,0] [102,101,6,5,4,3,2,0] (fun _=>rfl) (fun _=>rfl) fun τ a w F G=>?_)
 try dsimp only [RS.sub,SF.sub,CF.sub,csub,Anc.sub,List.map,zCF,Zw,rTx,ZJ,ZT,Zn,rOp] at G
 generalize τ 5=v5,τ 6=v6 at G
 refine Za (Ya (Ya (Zv G (qg 2 102 r1 r1 (qa 102 r1 r1 (qg 0 101 r1 r1 (qa 101 r1 r1 (qf (o_eql .t .t) r2 qz (qR rr (qv 2 102 rfl r2 r1 (qw 102 rfl r2 r1 (qk rfl (fun h=>o_neq (.w h) qi) r2 qz (qk rfl (fun h=>oM (.w h)) r2 qz (ZB.cons (ZaF.cond2 rfl rfl (fun h=>Za3 .t (by rfl))) r2 qz (ZB.cons (ZaF.cond2 rfl rfl (fun h=>o_nilCheck 3 (.w h .is) (by rfl))) r2 r1 (ZB.cons (ZaF.cond2 rfl rfl (fun h=>Z9 (off:=2) 3 (.w h .adr) kr (by rfl))) r2 r1 (ZB.cons (ZaF.cond2 rfl rfl (fun h=>ZbY (ag:=false) (sz:=1) 3 (.w h .adr) kr kr kr (by rfl))) r2 r1 (ZB.cons (ZaF.cond2 rfl rfl (fun h=>Z9 (off:=2) 102 .is kr (by rfl))) r2 r1 (ZB.cons (ZaF.cond2 rfl rfl (fun h=>ZbY (ag:=false) (sz:=1) 102 (.w h .adr) kr kr kr (by rfl))) r2 r1 (ZB.cons (ZaF.cond2 rfl rfl (fun h=>Zap (ek:=(fun n:Int=>PV.int .i64 n)) (z0:=(0)) 4 underlying75 (ZcA Ycl) kr (fun _ _=>⟨rfl,ZcS⟩) (.w h .is) (ZL.int (.w h) rfl))) r3 r1 (ZB.cons (ZaF.cond2 rfl rfl (fun h=>o_eql (.w h) qi)) r2 qz (ZB.cons (ZaF.cond2 rfl rfl (fun h=>Za3 (.w h) (by rfl))) r2 qz (ZB.cons (ZaF.cond2 rfl rfl (fun h=>Za3 .t (by rfl))) r2 qz (ZB.cons (ZaF.cond2 rfl rfl (fun h=>o_nilCheck 3 (.w h .is) (by rfl))) r2 r1 (ZB.cons (ZaF.cond2 rfl rfl (fun h=>Z9 (off:=3) 3 (.w h .adr) kr (by rfl))) r2 r1 (ZB.cons (ZaF.cond2 rfl rfl (fun h=>ZbY (ag:=false) (sz:=1) 3 (.w h .adr) kr kr kr (by rfl))) r2 r1 (ZB.cons (ZaF.cond2 rfl rfl (fun h=>Z9 (off:=2) 102 .is kr (by rfl))) r2 r1 (ZB.cons (ZaF.cond2 rfl rfl (fun h=>ZbY (ag:=false) (sz:=1) 102 (.w h .adr) kr kr kr (by rfl))) r2 r1 (ZB.cons (ZaF.cond2 rfl rfl (fun h=>Z9 (off:=1) 102 .is kr (by rfl))) r2 r1 (ZB.cons (ZaF.cond2 rfl rfl (fun h=>ZbY (ag:=false) (sz:=1) 102 (.w h .adr) kr kr kr (by rfl))) r2 r1 (ZB.cons (ZaF.cond2 rfl rfl (fun h=>Zby (sz:=1) (r:=[(0,.tmp 33),(1,.tmp 35)]) (zs:=[.int .i64 0,.int .i64 0]) (pl:=[(0,1),(1,1)]) Ycq kr kr rfl (.one rfl (.w h) one_int kr (.one rfl (.w h) one_int kr .nil)) (by rfl))) r3 qz (ZB.cons (ZaF.cond2 rfl rfl (fun h=>Zap (ek:=(fun n:Int=>PV.int .i64 n)) (z0:=(0)) 5 Ycv Zhh kr (fun _ _=>⟨rfl,ZcS⟩) (.w h .is) (ZL.agg (enc:=ZeZ) (k:=(⟨o.tx,o.key⟩:ZdT)) (.pagg (.w h)) rfl))) r3 r1 (ZB.cons (ZaF.cond2 rfl rfl (fun h=>Z9 (off:=3) 102 .is kr (by rfl))) r2 r1 (ZB.cons (ZaF.cond2 rfl rfl (fun h=>ZbY (ag:=false) (sz:=1) 102 (.w h .adr) kr kr kr (by rfl))) r2 r1 (ZB.cons (ZaF.cond2 rfl rfl (fun h=>o_neq (.w h) (.w h))) r3 qz (ZB.cons (ZaF.cond2 rfl rfl (fun h=>Zal (.w h) (.wc h))) r3 qz (qk rfl (fun h=>ZE (.w h) (.wc h)) r3 qz (qf (Zal .t .t) r2 qz qZ))))))))))))))))))))))))))))))))))) V [43,6,5,3,0] [102,101,6,5,4,3,2,0] rfl rfl fun a w F G=>?_)))
 try dsimp only [List.map,Zf,xL,xM,Nat.reduceAdd,xD,xE,xT,xU,xC,xN,zCF,ldSF,Zw,rTx,ZJ,ZT,Zn,rOp] at G
 refine Za (Zc G rfl (fun hc0=>?_) (fun hc0=>?_))
 ·have hno:ZsH g t o=true:=by unfold ZsH ZiC ZmX;rw [← hI.dn,← hI.la];simpa using hc0
  obtain ⟨es3,hes3⟩:∃ z,z=es:=⟨_,rfl⟩
  obtain ⟨ck3,hck3⟩:∃ z,z=ck:=⟨_,rfl⟩
  rw [← hes3,← hck3] at G
  have hR9:Zhr es3 AA (RR++rdO g t o):=by rw [hes3];unfold rdO;rw [Yf hno,YP];exact hq0
  refine Yh (Zk ?_)
  have G:=G.fresh 1 rfl
  obtain ⟨F,G⟩:=G.push 1 6 rfl rfl rfl kr
  obtain ⟨F,G⟩:=G.push 1 5 rfl rfl rfl kr
  obtain ⟨F,G⟩:=G.push 1 4 rfl rfl rfl kr
  obtain ⟨F,G⟩:=G.push 1 3 rfl rfl rfl kr
  have G:=G.turn 1 rfl (r':=RS.hp (ZnA g (.pointer (some ⟨b,0,none⟩)))) (fun _ _ _ _ h=>⟨(⟨mA,mB,mC,eA,kA,eB,kB,eC,kC⟩:FS),hI,h⟩)
  have G:=G.turn 2 rfl (r':=RS.hp (ZfZ AA (RR++rdO g t o) mv)) (fun _ _ _ _ h=>⟨(es3,ck3),hR9,h⟩)
  refine ZfR hG G rfl .nil Zbd.none rfl rfl
 have hno:ZsH g t o=false:=by unfold ZsH ZiC ZmX;rw [← hI.dn,← hI.la];simpa using hc0
 refine Ye (Za (Ya (Ya (rZ G (qg 2 102 r1 r1 (qa 102 r1 r1 (qf (o_neq .t qi) r1 qz qZ))) V [46,6,5,3,0] [102,101,6,5,4,3,2,0] fun G=>?_))))
 refine Zc G rfl (fun hc1=>?_) (fun hc1=>?_)
 ·have h0:¬ o.tx=0:=by simpa using hc1
  replace G:=G.turnZ 2 (0) (⟨o.tx,t.id,2,o.key⟩:Zg) rfl
  refine Zbc 2 12 (m1:=1) (m2:=2) kr G kr (qR rr (qg 2 102 r1 r1 (qa 102 r1 r1 (qg 0 101 r1 r1 (qa 101 r1 r1 (qg 1 102 r1 r1 (qa 102 r1 r1 (qf (oB [(0,.tmp 49),(1,.tmp 51),(2,_),(3,.tmp 53)] [.int .i64 0,.int .i64 0,.int .i64 0,.int .i64 0] [(0,1),(1,1),(2,1),(3,1)] (.one rfl .t one_int kr (.one rfl .t one_int kr (.one rfl qi one_int kr (.one rfl .t one_int kr .nil))))) r3 qz (qf (Zce (ek:=(fun n:Int=>PV.int .i64 n)) (z0:=(0)) 2 Ycr Zc2 kr (fun _ _=>⟨rfl,ZcS⟩) .is (ZL.agg (enc:=Zas) (k:=(⟨o.tx,t.id,2,o.key⟩:Zg)) (.pagg .t) rfl)) r2 r1 (qp r1 (qf (Zba (ek:=(fun n:Int=>PV.int .i64 n)) (z0:=(0)) 2 Ycr Zc2 kr (fun _ _=>⟨rfl,ZcS⟩) .is (ZL.agg (enc:=Zas) (k:=(⟨o.tx,t.id,2,o.key⟩:Zg)) (.pagg .t) rfl) (by intros;first | rfl | simp [Anc.v,upd])) r2 r1 (qf (Zh .t rfl) r1 qz (qf (ZaM 2 (ZbC _ _ _) .is .t .t) r3 r1 qZ))))))))))))) kr kr kr rfl rfl rfl (fun _ _ _ _ h=>.inr h) (by rw [V];kernel_rfl) fun a w F G=>?_
  obtain ⟨F,G⟩:=G.nM [6,5,3,0] [102,101,6,5,4,3,2,0]
  try dsimp only [List.map,Zf,xL,xM,Nat.reduceAdd,xD,xE,xT,xU,xC,xN,zCF,ldSF,Zw,rTx,ZJ,ZT,Zn,rOp] at G
  obtain ⟨es2,hes2⟩:∃ z,z=gSet (⟨o.tx,t.id,2,o.key⟩:Zg) (IntKind.wrap .i64 ((gGet (⟨o.tx,t.id,2,o.key⟩:Zg) es).getD 0+1)) (gEns 0 (⟨o.tx,t.id,2,o.key⟩:Zg) (es,ck)).1:=⟨_,rfl⟩
  obtain ⟨ck2,hck2⟩:∃ z,z=(gEns 0 (⟨o.tx,t.id,2,o.key⟩:Zg) (es,ck)).2:=⟨_,rfl⟩
  rw [← hes2,← hck2] at G
  have hR2:Zhr es2 AA (RR++rdA t o):=by rw [hes2];unfold rdA;rw [Yc h0];exact ZkB hq0 ow
  refine Za (Ya (Zv G (qR rr (qf (o_nilCheck 3 .is (by rfl)) r1 r1 (qf (oF 4 3 .adr) r1 r1 (qa 3 r1 r1 (qg 1 102 r1 r1 (qa 102 r1 r1 (qg 2 102 r1 r1 (qa 102 r1 r1 (qf (Zby (sz:=1) (r:=[(0,.tmp 64),(1,.tmp 66)]) (zs:=[.int .i64 0,.int .i64 0]) (pl:=[(0,1),(1,1)]) Ycq kr kr rfl (.one rfl .t one_int kr (.one rfl .t one_int kr .nil)) (by rfl)) r2 qz (qf (Zap (ek:=(fun n:Int=>PV.int .i64 n)) (z0:=(0)) 6 Ycv Zhh kr (fun _ _=>⟨rfl,ZcS⟩) .is (ZL.agg (enc:=ZeZ) (k:=(⟨o.key,o.tx⟩:ZdT)) (.pagg .t) rfl)) r2 r1 (qO rr qZ))))))))))) V [8,6,5,3] [102,101,6,5,4,3,2,0] rfl rfl fun a w F G=>?_))
  try dsimp only [List.map,Zf,xL,xM,Nat.reduceAdd,xD,xE,xT,xU,xC,xN,zCF,ldSF,Zw,rTx,ZJ,ZT,Zn,rOp] at G
  rw [show (gGet (⟨o.key,o.tx⟩:ZdT) eC).getD 0=(nxI g o.key o.tx) from hI.nx _] at G
  refine Za (Ya (rZ G (qR rr (qf (o_neq .t qi) r1 qz (qR rr (qm rfl rfl rfl rfl (qv 0 101 rfl r2 r1 (qw 101 rfl r2 r1 (qk rfl (fun h=>o_neq (.w h) (.w h)) r3 qz (qf (ZE .t .t) r2 qz qZ)))))))) V [76,8,6,5,3] [102,101,6,5,4,3,2,0] fun G=>?_))
  refine Zc G rfl (fun hc2=>?_) (fun hc2=>?_)
  ·have h1:(nxI g o.key o.tx)≠0∧(nxI g o.key o.tx)≠t.id:=by simpa using hc2
   replace G:=G.turnZ 2 (0) (⟨t.id,(nxI g o.key o.tx),3,o.key⟩:Zg) rfl
   refine Zbc 2 11 (m1:=1) (m2:=2) kr G kr (qR rr (qg 0 101 r1 r1 (qa 101 r1 r1 (qR rr (qg 1 102 r1 r1 (qa 102 r1 r1 (qf (oB [(0,.tmp 79),(1,.tmp 80),(2,_),(3,.tmp 82)] [.int .i64 0,.int .i64 0,.int .i64 0,.int .i64 0] [(0,1),(1,1),(2,1),(3,1)] (.one rfl .t one_int kr (.one rfl .t one_int kr (.one rfl qi one_int kr (.one rfl .t one_int kr .nil))))) r3 qz (qf (Zce (ek:=(fun n:Int=>PV.int .i64 n)) (z0:=(0)) 2 Ycr Zc2 kr (fun _ _=>⟨rfl,ZcS⟩) .is (ZL.agg (enc:=Zas) (k:=(⟨t.id,(nxI g o.key o.tx),3,o.key⟩:Zg)) (.pagg .t) rfl)) r2 r1 (qp r1 (qf (Zba (ek:=(fun n:Int=>PV.int .i64 n)) (z0:=(0)) 2 Ycr Zc2 kr (fun _ _=>⟨rfl,ZcS⟩) .is (ZL.agg (enc:=Zas) (k:=(⟨t.id,(nxI g o.key o.tx),3,o.key⟩:Zg)) (.pagg .t) rfl) (by intros;first | rfl | simp [Anc.v,upd])) r2 r1 (qf (Zh .t rfl) r1 qz (qf (ZaM 2 (ZbC _ _ _) .is .t .t) r3 r1 qZ)))))))))))) kr kr kr rfl rfl rfl (fun _ _ _ _ h=>.inr h) (by rw [V];kernel_rfl) fun a w F G=>?_
   obtain ⟨F,G⟩:=G.nM [] [102,101,6,5,4,3,2,0]
   try dsimp only [List.map,Zf,xL,xM,Nat.reduceAdd,xD,xE,xT,xU,xC,xN,zCF,ldSF,Zw,rTx,ZJ,ZT,Zn,rOp] at G
   obtain ⟨es3,hes3⟩:∃ z,z=gSet (⟨t.id,(nxI g o.key o.tx),3,o.key⟩:Zg) (IntKind.wrap .i64 ((gGet (⟨t.id,(nxI g o.key o.tx),3,o.key⟩:Zg) es2).getD 0+1)) (gEns 0 (⟨t.id,(nxI g o.key o.tx),3,o.key⟩:Zg) (es2,ck2)).1:=⟨_,rfl⟩
   obtain ⟨ck3,hck3⟩:∃ z,z=(gEns 0 (⟨t.id,(nxI g o.key o.tx),3,o.key⟩:Zg) (es2,ck2)).2:=⟨_,rfl⟩
   rw [← hes3,← hck3] at G
   have hR9:Zhr es3 AA (RR++rdO g t o):=by rw [hes3];unfold rdO;rw [Yc (by rw [hno];simp)];unfold rdB;rw [Yf h1,← YN];exact ZkB hR2 (by have h9:(rdA t o).length≤1:=by { unfold rdA;split <;> simp };rw [Yd];omega)
   have G:=G.fresh 1 rfl
   obtain ⟨F,G⟩:=G.push 1 6 rfl rfl rfl kr
   obtain ⟨F,G⟩:=G.push 1 5 rfl rfl rfl kr
   obtain ⟨F,G⟩:=G.push 1 4 rfl rfl rfl kr
   obtain ⟨F,G⟩:=G.push 1 3 rfl rfl rfl kr
   have G:=G.turn 1 rfl (r':=RS.hp (ZnA g (.pointer (some ⟨b,0,none⟩)))) (fun _ _ _ _ h=>⟨(⟨mA,mB,mC,eA,kA,eB,kB,eC,kC⟩:FS),hI,h⟩)
   have G:=G.turn 2 rfl (r':=RS.hp (ZfZ AA (RR++rdO g t o) mv)) (fun _ _ _ _ h=>⟨(es3,ck3),hR9,h⟩)
   refine ZfR hG G rfl .nil Zbd.none rfl rfl
  have h1:¬ ((nxI g o.key o.tx)≠0∧(nxI g o.key o.tx)≠t.id):=by simpa using hc2
  obtain ⟨es3,hes3⟩:∃ z,z=es2:=⟨_,rfl⟩
  obtain ⟨ck3,hck3⟩:∃ z,z=ck2:=⟨_,rfl⟩
  rw [← hes3,← hck3] at G
  have hR9:Zhr es3 AA (RR++rdO g t o):=by rw [hes3];unfold rdO;rw [Yc (by rw [hno];simp)];unfold rdB;rw [Yc h1,YP];exact hR2
  refine Ye ?_
  have G:=G.fresh 1 rfl
  obtain ⟨F,G⟩:=G.push 1 6 rfl rfl rfl kr
  obtain ⟨F,G⟩:=G.push 1 5 rfl rfl rfl kr
  obtain ⟨F,G⟩:=G.push 1 4 rfl rfl rfl kr
  obtain ⟨F,G⟩:=G.push 1 3 rfl rfl rfl kr
  have G:=G.turn 1 rfl (r':=RS.hp (ZnA g (.pointer (some ⟨b,0,none⟩)))) (fun _ _ _ _ h=>⟨(⟨mA,mB,mC,eA,kA,eB,kB,eC,kC⟩:FS),hI,h⟩)
  have G:=G.turn 2 rfl (r':=RS.hp (ZfZ AA (RR++rdO g t o) mv)) (fun _ _ _ _ h=>⟨(es3,ck3),hR9,h⟩)
  refine ZfR hG G rfl .nil Zbd.none rfl rfl
 have h0:o.tx=0:=by simpa using hc1
 obtain ⟨es2,hes2⟩:∃ z,z=es:=⟨_,rfl⟩
 obtain ⟨ck2,hck2⟩:∃ z,z=ck:=⟨_,rfl⟩
 rw [← hes2,← hck2] at G
 have hR2:Zhr es2 AA (RR++rdA t o):=by rw [hes2];unfold rdA;rw [Yf h0,YP];exact hq0
 refine Ye (Za (Ya (Zv G (qR rr (qf (o_nilCheck 3 .is (by rfl)) r1 r1 (qf (oF 4 3 .adr) r1 r1 (qa 3 r1 r1 (qg 1 102 r1 r1 (qa 102 r1 r1 (qg 2 102 r1 r1 (qa 102 r1 r1 (qf (Zby (sz:=1) (r:=[(0,.tmp 64),(1,.tmp 66)]) (zs:=[.int .i64 0,.int .i64 0]) (pl:=[(0,1),(1,1)]) Ycq kr kr rfl (.one rfl .t one_int kr (.one rfl .t one_int kr .nil)) (by rfl)) r2 qz (qf (Zap (ek:=(fun n:Int=>PV.int .i64 n)) (z0:=(0)) 6 Ycv Zhh kr (fun _ _=>⟨rfl,ZcS⟩) .is (ZL.agg (enc:=ZeZ) (k:=(⟨o.key,o.tx⟩:ZdT)) (.pagg .t) rfl)) r2 r1 (qO rr qZ))))))))))) V [8,6,5,3] [102,101,6,5,4,3,2,0] rfl rfl fun a w F G=>?_)))
 try dsimp only [List.map,Zf,xL,xM,Nat.reduceAdd,xD,xE,xT,xU,xC,xN,zCF,ldSF,Zw,rTx,ZJ,ZT,Zn,rOp] at G
 rw [show (gGet (⟨o.key,o.tx⟩:ZdT) eC).getD 0=(nxI g o.key o.tx) from hI.nx _] at G
 refine Za (Ya (rZ G (qR rr (qf (o_neq .t qi) r1 qz (qR rr (qm rfl rfl rfl rfl (qv 0 101 rfl r2 r1 (qw 101 rfl r2 r1 (qk rfl (fun h=>o_neq (.w h) (.w h)) r3 qz (qf (ZE .t .t) r2 qz qZ)))))))) V [76,8,6,5,3] [102,101,6,5,4,3,2,0] fun G=>?_))
 refine Zc G rfl (fun hc3=>?_) (fun hc3=>?_)
 ·have h1:(nxI g o.key o.tx)≠0∧(nxI g o.key o.tx)≠t.id:=by simpa using hc3
  replace G:=G.turnZ 2 (0) (⟨t.id,(nxI g o.key o.tx),3,o.key⟩:Zg) rfl
  refine Zbc 2 11 (m1:=1) (m2:=2) kr G kr (qR rr (qg 0 101 r1 r1 (qa 101 r1 r1 (qR rr (qg 1 102 r1 r1 (qa 102 r1 r1 (qf (oB [(0,.tmp 79),(1,.tmp 80),(2,_),(3,.tmp 82)] [.int .i64 0,.int .i64 0,.int .i64 0,.int .i64 0] [(0,1),(1,1),(2,1),(3,1)] (.one rfl .t one_int kr (.one rfl .t one_int kr (.one rfl qi one_int kr (.one rfl .t one_int kr .nil))))) r3 qz (qf (Zce (ek:=(fun n:Int=>PV.int .i64 n)) (z0:=(0)) 2 Ycr Zc2 kr (fun _ _=>⟨rfl,ZcS⟩) .is (ZL.agg (enc:=Zas) (k:=(⟨t.id,(nxI g o.key o.tx),3,o.key⟩:Zg)) (.pagg .t) rfl)) r2 r1 (qp r1 (qf (Zba (ek:=(fun n:Int=>PV.int .i64 n)) (z0:=(0)) 2 Ycr Zc2 kr (fun _ _=>⟨rfl,ZcS⟩) .is (ZL.agg (enc:=Zas) (k:=(⟨t.id,(nxI g o.key o.tx),3,o.key⟩:Zg)) (.pagg .t) rfl) (by intros;first | rfl | simp [Anc.v,upd])) r2 r1 (qf (Zh .t rfl) r1 qz (qf (ZaM 2 (ZbC _ _ _) .is .t .t) r3 r1 qZ)))))))))))) kr kr kr rfl rfl rfl (fun _ _ _ _ h=>.inr h) (by rw [V];kernel_rfl) fun a w F G=>?_
  obtain ⟨F,G⟩:=G.nM [] [102,101,6,5,4,3,2,0]
  try dsimp only [List.map,Zf,xL,xM,Nat.reduceAdd,xD,xE,xT,xU,xC,xN,zCF,ldSF,Zw,rTx,ZJ,ZT,Zn,rOp] at G
  obtain ⟨es3,hes3⟩:∃ z,z=gSet (⟨t.id,(nxI g o.key o.tx),3,o.key⟩:Zg) (IntKind.wrap .i64 ((gGet (⟨t.id,(nxI g o.key o.tx),3,o.key⟩:Zg) es2).getD 0+1)) (gEns 0 (⟨t.id,(nxI g o.key o.tx),3,o.key⟩:Zg) (es2,ck2)).1:=⟨_,rfl⟩
  obtain ⟨ck3,hck3⟩:∃ z,z=(gEns 0 (⟨t.id,(nxI g o.key o.tx),3,o.key⟩:Zg) (es2,ck2)).2:=⟨_,rfl⟩
  rw [← hes3,← hck3] at G
  have hR9:Zhr es3 AA (RR++rdO g t o):=by rw [hes3];unfold rdO;rw [Yc (by rw [hno];simp)];unfold rdB;rw [Yf h1,← YN];exact ZkB hR2 (by have h9:(rdA t o).length≤1:=by { unfold rdA;split <;> simp };rw [Yd];omega)
  have G:=G.fresh 1 rfl
  obtain ⟨F,G⟩:=G.push 1 6 rfl rfl rfl kr
  obtain ⟨F,G⟩:=G.push 1 5 rfl rfl rfl kr
  obtain ⟨F,G⟩:=G.push 1 4 rfl rfl rfl kr
  obtain ⟨F,G⟩:=G.push 1 3 rfl rfl rfl kr
  have G:=G.turn 1 rfl (r':=RS.hp (ZnA g (.pointer (some ⟨b,0,none⟩)))) (fun _ _ _ _ h=>⟨(⟨mA,mB,mC,eA,kA,eB,kB,eC,kC⟩:FS),hI,h⟩)
  have G:=G.turn 2 rfl (r':=RS.hp (ZfZ AA (RR++rdO g t o) mv)) (fun _ _ _ _ h=>⟨(es3,ck3),hR9,h⟩)
  refine ZfR hG G rfl .nil Zbd.none rfl rfl
 have h1:¬ ((nxI g o.key o.tx)≠0∧(nxI g o.key o.tx)≠t.id):=by simpa using hc3
 obtain ⟨es3,hes3⟩:∃ z,z=es2:=⟨_,rfl⟩
 obtain ⟨ck3,hck3⟩:∃ z,z=ck2:=⟨_,rfl⟩
 rw [← hes3,← hck3] at G
 have hR9:Zhr es3 AA (RR++rdO g t o):=by rw [hes3];unfold rdO;rw [Yc (by rw [hno];simp)];unfold rdB;rw [Yc h1,YP];exact hR2
 refine Ye ?_
 have G:=G.fresh 1 rfl
 obtain ⟨F,G⟩:=G.push 1 6 rfl rfl rfl kr
 obtain ⟨F,G⟩:=G.push 1 5 rfl rfl rfl kr
 obtain ⟨F,G⟩:=G.push 1 4 rfl rfl rfl kr
 obtain ⟨F,G⟩:=G.push 1 3 rfl rfl rfl kr
 have G:=G.turn 1 rfl (r':=RS.hp (ZnA g (.pointer (some ⟨b,0,none⟩)))) (fun _ _ _ _ h=>⟨(⟨mA,mB,mC,eA,kA,eB,kB,eC,kC⟩:FS),hI,h⟩)
 have G:=G.turn 2 rfl (r':=RS.hp (ZfZ AA (RR++rdO g t o) mv)) (fun _ _ _ _ h=>⟨(es3,ck3),hR9,h⟩)
 refine ZfR hG G rfl .nil Zbd.none rfl rfl
def wwC (p:Int→Bool) (g:Zr):List (Zg×Int):=if ZW g then wwA p g.orders else []
def rdC (p:Int→Bool) (g:Zr):List Zg:=if ZW g then rdH p g g.txs else []
theorem ZqN {g:Zr} {v:Value} {w:World} {f y:Ys} (h:(ZnA g v).p w f y):∃ b,v = .pointer (some ⟨b,0,none⟩):=by
 obtain ⟨s,_,q⟩:=h
 exact HP.star_pt q
theorem Zpx (g : Zr) (hsm : Za9 g) (p : Int → Bool) (f : FuncId) (fn : Func) (cps : List PV) (hf : prog.funcs[f]? = some fn) (hb : fn.body.isSome = true) (hnn : (fn.name == "runtime.NumGoroutine") = false) (hw : ∀ x, FnP prog f (.int .i64 x :: cps) (.bool (p x))) : FnG prog 78 1 [.agg (Zw g), .clos f cps] [.star []] (PV.one) (fun v => [ZfZ (wwC p g) (rdC p g) v]) := by
 refine FnG.mk func78 rfl ntmps78 rfl kr fun B F0 a w F V hG G=>?_
 have hs:=hsm.1
 have hsl:=hs.1
 have hso:=hsm.2
 have hol1:=hso.1
 obtain ⟨F,G⟩:=G.nM [1,0] [0]
 refine Ya (Zb G (qx 101 r1 (qC qZ)) V [4,2,1] [101,0] (fun _=>rfl) (fun _=>rfl) fun τ a w F G=>?_)
 try dsimp only [RS.sub,SF.sub,CF.sub,csub,Anc.sub,List.map,zCF,Zw,rTx,ZJ,ZT,Zn,rOp] at G
 generalize τ 2=v2 at G
 refine Za (Ya (Zb G (qf (Za0 (ek:=(fun n:Int=>PV.int .i64 n)) (ok:=(fun k=>∀ x ∈ Zas k,inR .i64 x)) (kv:=(kvS Zas)) 102) trivial qz (qO rr qZ)) V [5,4,2,1] [102,101,0] (fun _=>rfl) (fun _=>rfl) fun τ a w F G=>?_))
 try dsimp only [RS.sub,SF.sub,CF.sub,csub,Anc.sub,List.map,Zf,xL,xM,Nat.reduceAdd,xD,xE,xT,xU,xC,xN,zCF,Zw,rTx,ZJ,ZT,Zn,rOp] at G
 generalize τ 14=v14 at G
 refine Za (Ya (Ya (rZ G (qe 2 101 r1 r1 (qf (oP (Zff g hsm) func19 (Args.one (.pagg .t))) r1 qz (qf (o_not .t) r1 qz qZ))) V [17,5,4,2,1] [102,101,0] fun G=>?_)))
 refine Zc G rfl (fun hc0=>?_) (fun hc0=>?_)
 ·skip
  have hr:¬ ZW g:=by simpa using hc0
  have hgA:wwC p g = []:=Yc hr
  have hgR:rdC p g = []:=Yc hr
  replace G:=G.turn 102 rfl (r':=RS.hp (ZfZ (wwC p g) (rdC p g) v14)) (fun _ _ _ _ h=>⟨([],0),by rw [hgA,hgR];exact Zk6,h⟩)
  obtain ⟨F,G⟩:=G.nM [17,5,4,2,1] [102,101,0]
  refine Ya (rZ G (qR rr (qO rr qZ)) V [5,4,2,1] [102,101,0] fun G=>(Yh (Zk ?_)))
  obtain ⟨F,G⟩:=G.rename 102 1 rfl rfl
  refine Z1 (h':=fun v=>ZfZ (wwC p g) (rdC p g) v) hG G rfl (.tmp rfl .nil) (.one .one) rfl
 have hr:ZW g:=by simpa using hc0
 have hgA:wwC p g=wwA p g.orders:=Yf hr
 have hgR:rdC p g=rdH p g g.txs:=Yf hr
 refine Ye (Za (Ya ?_))
 replace G:=G.fresh 103 rfl
 refine Zb G (qe 2 101 r1 r1 (qf (Zar 103 (ZvE g hsm) func135 rfl kr (Args.one (.pagg .t)) PV.ptr_one) r1 r1 (qO rr qZ))) V [6,5,4,2,1] [103,102,101,0] (fun _=>rfl) (fun _=>rfl) fun τ a w F G=>?_
 try dsimp only [RS.sub,SF.sub,CF.sub,csub,Anc.sub,List.map,xD,xE,xT,xU,ldSF,Zw,rTx,ZJ,ZT,Zn,rOp] at G
 generalize τ 20=v20 at G
 obtain ⟨_,_,_,ho⟩:=G.obGet 103 rfl
 obtain ⟨b,rfl⟩:=ZqN ho
 clear ho
 replace G:=G.turn 103 rfl (r':=RS.hp (ZnA g (.pointer (some ⟨b,0,none⟩)))) (fun _ _ _ _ h=>h)
 obtain ⟨F,G⟩:=G.nM [6,5,4,2,1] [103,102,101,0]
 refine Za (Ya (Ya (rZ G (qg 1 101 r1 r1 (qa 101 r1 r1 (qu Ycf r1 (qJ qZ)))) V [24,23,22,6,5,4,2,1] [103,102,101,0] fun G=>Yg ?_)))
 refine Zl (σ:=(Nat)×(List (GE Zg Int))×(Nat)) [1,2,4,5,6,22,23] [0,101,103] (fun s=>[(24,.pv (.int .i64 (s.1:Int)))]) (fun s=>[(102,.ob (.val v14) (ZbF (fun n:Int=>PV.int .i64 n) (fun k=>∀ x ∈ Zas k,inR .i64 x) (kvS Zas) s.2.1 s.2.2))]) (fun s=>s.1≤g.orders.length∧(Zhr s.2.1 (wwA p (g.orders.take s.1)) [])) (fun s=>g.orders.length - s.1) ((0),([]),(0)) G ⟨rfl,rfl,rfl,rfl,rfl,rfl,rfl,rfl,tv⟩ ⟨rfl,rfl,rfl,rfl,tv⟩ ⟨Yx _,Zk6⟩ ?_
 clear G;intro s a w F hC G
 obtain ⟨i,es,ck⟩:=s
 try dsimp only at hC
 obtain ⟨F,G⟩:=G.nM [24,23,22,6,5,4,2,1] [103,102,101,0]
 try dsimp only at G
 obtain ⟨hi,hq⟩:=hC
 have hol:=fun hil:i<g.orders.length=>hso.at hil
 refine Ya (rZ G (qL r2) V [25,24,23,22,6,5,4,2,1] [103,102,101,0] fun G=>Ya ?_)
 refine Zc G rfl (fun hc1=>?_) (fun hc1=>?_)
 ·skip
  have hil:i<g.orders.length:=by simp at hc1;omega
  have hio:=hil
  have hcn:=hq
  have hox:=hol hil
  refine Ye (Za (Ya (Yg (Ya (Zb G (qy 2 Ycf r2 (qf (oR true 2 .t) r1 qz (qf (oH [.int .i64 0,.slice none 0 0] 104) trivial qz (qS 2 104 r2 r1 qZ)))) V [24,23,22,8,6,5,4,2,1] [104,103,102,101,0] (fun _=>rfl) (fun _=>rfl) fun τ a w F G=>?_)))))
  try dsimp only [RS.sub,SF.sub,CF.sub,csub,Anc.sub,List.map,Zf,xL,xM,Nat.reduceAdd,xD,xE,xT,xU,xC,xN,zCF,ldSF,Zw,rTx,ZJ,ZT,Zn,rOp] at G
  generalize τ 8=v8 at G
  try simp only [Yb] at G
  refine Za (Ya (rZ G (qI qZ) V [24,23,22,9,8,6,5,4,2,1] [104,103,102,101,0] fun G=>Yg ?_))
  replace G:=G.ent (i:=9) (s':=.pv (.int .i64 ((0+1:Nat):Int))) rfl (.int rfl)
  refine Zl (σ:=Nat×(List (GE Zg Int))×Nat) [1,2,4,5,6,8,22,23,24] [0,101,103,104] (fun s=>[(9,.pv (.int .i64 ((s.1+1:Nat):Int)))]) (fun s=>[(102,.ob (.val v14) (ZbF (fun n:Int=>PV.int .i64 n) (fun k=>∀ x ∈ Zas k,inR .i64 x) (kvS Zas) s.2.1 s.2.2))]) (fun s=>s.1≤(Nn g.orders i).txs.length∧(0<s.1→p (Nn g.orders i).key=true∧s.1+1≤(Nn g.orders i).txs.length)∧Zhr s.2.1 (wwA p (g.orders.take i)++wwO (Nn g.orders i) s.1) []) (fun s=>(Nn g.orders i).txs.length - s.1) ((0),(es),(ck)) G ⟨rfl,rfl,rfl,rfl,rfl,rfl,rfl,rfl,rfl,rfl,tv⟩ ⟨rfl,rfl,rfl,rfl,rfl,tv⟩ ⟨Yx _,fun h9=>absurd h9 (Nat.lt_irrefl 0),by show Zhr _ (wwA p (g.orders.take i) ++ []) [];rw [YP];exact hcn⟩ ?_
  clear G;intro s a w F hC G
  obtain ⟨j,es3,ck3⟩:=s
  try dsimp only at hC
  obtain ⟨F,G⟩:=G.nM [24,23,22,9,8,6,5,4,2,1] [104,103,102,101,0]
  try dsimp only at G
  obtain ⟨hj,hjp,hq⟩:=hC
  have hwj:IntKind.wrap .i64 (((j+1:Nat):Int) - 1)=(j:Int):=by rw [Zz ow];omega
  refine Ya (Ya (rZ G (qR rr (qg 1 104 r1 r1 (qa 104 r1 r1 (qu Ycd r1 (qf (ZaA .t .t) r2 qz (qR rr (qm rfl rfl rfl rfl (qv 0 104 rfl r2 r1 (qw 104 rfl r2 r1 (qk rfl (fun h=>ZM (avs:=[.int .i64 (Nn g.orders i).key]) (.w h) (hw (Nn g.orders i).key) hf hb hnn (Args.one (.w h))) r3 qz (qf (ZE .t .t) r2 qz qZ))))))))))) V [38,24,23,22,9,8,6,5,4,2,1] [104,103,102,101,0] fun G=>?_))
  refine Zc G rfl (fun hc2=>?_) (fun hc2=>?_)
  ·skip
   have hst:j+1<(Nn g.orders i).txs.length∧p (Nn g.orders i).key=true:=by have h9:=hc2;simp at h9;exact ⟨by omega,h9.2⟩
   refine Ye (Za (Ya (Yg (Zv G (qR rr (qg 1 104 r1 r1 (qa 104 r1 r1 (qR rr (qf (o_sub .t qi) r1 qz (qf (o_indexAddr_sl (sz:=1) (.mk Ycd kr) (by intro x;rfl) .t .t (by rw [hwj];omega) (by rw [hwj];omega)) r2 qz (qf (oR false 1 .t) r1 qz (qg 1 104 r1 r1 (qa 104 r1 r1 (qR rr (qy 1 Ycd r2 (qf (oR false 1 .t) r1 qz (qg 0 104 r1 r1 (qa 104 r1 r1 (qf (oB [(0,.tmp 47),(1,.tmp 52),(2,_),(3,.tmp 54)] [.int .i64 0,.int .i64 0,.int .i64 0,.int .i64 0] [(0,1),(1,1),(2,1),(3,1)] (.one rfl .t one_int kr (.one rfl .t one_int kr (.one rfl qi one_int kr (.one rfl .t one_int kr .nil))))) r3 qz (qf (o_mapUpdateG (ek:=(fun n:Int=>PV.int .i64 n)) 102 Ycr Zc2 .is (ZL.agg (enc:=Zas) (k:=(⟨Nn (Nn g.orders i).txs (IntKind.wrap .i64 (((j+1:Nat):Int) - 1)).toNat,Nn (Nn g.orders i).txs ((j+1:Nat):Int).toNat,1,(Nn g.orders i).key⟩:Zg)) (.pagg .t) rfl) qi) r2 r1 qZ)))))))))))))))) V [24,23,22,9,8,6,5,4,2,1] [104,103,102,101,0] rfl rfl fun a w F G=>?_))))
   try dsimp only [List.map,Zf,xL,xM,Nat.reduceAdd,xD,xE,xT,xU,xC,xN,zCF,ldSF,Zw,rTx,ZJ,ZT,Zn,rOp] at G
   try simp only [Yb] at G
   rw [hwj] at G
   try simp only [Yb] at G
   obtain ⟨es4,hes4⟩:∃ z,z=(gPut (⟨Nn (Nn g.orders i).txs j,Nn (Nn g.orders i).txs (j+1),1,(Nn g.orders i).key⟩:Zg) 1 (es3,ck3)).1:=⟨_,rfl⟩
   obtain ⟨ck4,hck4⟩:∃ z,z=(gPut (⟨Nn (Nn g.orders i).txs j,Nn (Nn g.orders i).txs (j+1),1,(Nn g.orders i).key⟩:Zg) 1 (es3,ck3)).2:=⟨_,rfl⟩
   rw [← hes4,← hck4] at G
   have hR3:Zhr es4 (wwA p (g.orders.take i)++wwO (Nn g.orders i) (j+1)) []:=by rw [hes4,Zq7,← YN];exact Zum hq
   refine Zi (Za (rZ G (qR rr (qp r1 (qO rr qZ))) V [24,23,22,9,8,6,5,4,2,1] [104,103,102,101,0] fun G=>?_))
   have hC2:j+1≤(Nn g.orders i).txs.length∧(0<j+1→p (Nn g.orders i).key=true∧j+1+1≤(Nn g.orders i).txs.length)∧Zhr es4 (wwA p (g.orders.take i)++wwO (Nn g.orders i) (j+1)) []:=⟨by omega,fun _=>⟨hst.2,by omega⟩,hR3⟩
   replace G:=G.ent (i:=9) (s':=.pv (.int .i64 ((j+1+1:Nat):Int))) rfl (.int (Zd ow))
   obtain ⟨F,G⟩:=G.nM [24,23,22,8,6,5,4,2,1,9] [104,103,101,0,102]
   exact ⟨((j+1),(es4),(ck4)),F,hC2,G,by omega⟩
  have hst:p (Nn g.orders i).key=true→(Nn g.orders i).txs.length≤j+1:=fun hpk=>by have h9:=hc2;simp [hpk] at h9;omega
  obtain ⟨es2,hes2⟩:∃ z,z=es3:=⟨_,rfl⟩
  obtain ⟨ck2,hck2⟩:∃ z,z=ck3:=⟨_,rfl⟩
  rw [← hes2,← hck2] at G
  have hR2:Zhr es2 (wwA p (g.orders.take (i+1))) []:=by
    rw [hes2,ZrK hio]
    by_cases hpk:p (Nn g.orders i).key=true
    · rw [Yf hpk,show (Nn g.orders i).txs.length - 1=j by (have:=hst hpk;by_cases hj0:0<j; (have:=(hjp hj0).2;omega);omega)];exact hq
    · rw [Yc hpk]
      have hj0:j=0:=by
        by_cases hj0:0<j
        · exact absurd (hjp hj0).1 hpk
        · omega
      rw [hj0] at hq;exact hq
  refine Yw (Zj (Zj (Zo (Zi (Za (rZ G (qp r1 (qR rr qZ)) V [24,23,22,6,5,4,2,1] [104,103,102,101,0] fun G=>?_))))))
  replace G:=G.ent (i:=24) (s':=.pv (.int .i64 ((i+1:Nat):Int))) rfl (.int (Zd ow))
  obtain ⟨F,G⟩:=G.nM [23,22,6,5,4,2,1,24] [103,101,0,102]
  exact ⟨((i+1),(es2),(ck2)),F,⟨by omega,hR2⟩,G,by omega⟩
 have hil:i=g.orders.length:=by simp at hc1;omega
 rw [hil,YA] at hq
 replace G:=G.turn 102 rfl (r':=RS.hp (ZfZ (wwA p g.orders) (rdH p g (g.txs.take 0)) v14)) (fun _ _ _ _ h=>⟨(es,ck),hq,h⟩)
 obtain ⟨F,G⟩:=G.nM [25,24,23,22,6,5,4,2,1] [103,102,101,0]
 refine Yw (Zj (Zj (Zo (Za (Ya (Ya (rZ G (qg 0 101 r1 r1 (qa 101 r1 r1 (qu Ycg r1 (qJ qZ)))) V [60,59,58,6,5,4,1] [103,102,101,0] fun G=>Yg ?_)))))))
 refine Zl (σ:=(Nat)) [1,4,5,6,58,59] [0,101,103] (fun s=>[(60,.pv (.int .i64 (s:Int)))]) (fun s=>[(102,RS.hp (ZfZ (wwA p g.orders) (rdH p g (g.txs.take s)) v14))]) (fun s=>s≤g.txs.length∧(True)) (fun s=>g.txs.length - s) (0) G ⟨rfl,rfl,rfl,rfl,rfl,rfl,rfl,tv⟩ ⟨rfl,rfl,rfl,rfl,tv⟩ ⟨Yx _,tv⟩ ?_
 clear G;intro i a w F hC G
 try dsimp only at hC
 obtain ⟨F,G⟩:=G.nM [60,59,58,6,5,4,1] [103,102,101,0]
 try dsimp only at G
 obtain ⟨hi,hq⟩:=hC
 have hxl:=fun hil:i<g.txs.length=>hs.at hil
 refine Ya (rZ G (qL r2) V [61,60,59,58,6,5,4,1] [103,102,101,0] fun G=>Ya ?_)
 refine Zc G rfl (fun hc3=>?_) (fun hc3=>?_)
 ·skip
  have hil:i<g.txs.length:=by simp at hc3;omega
  have hio:=hil
  have htl:=hxl hil
  have hsl:=hs.1
  have hrl:=ZoN (p:=p) (g:=g) hs i
  replace G:=G.turn 102 rfl (r':=RS.hp (ZfZ (wwA p g.orders) (rdH p g (g.txs.take i)++rdT p g (Nn g.txs i) ((Nn g.txs i).ops.take 0)) v14)) (fun _ _ _ _ h=>by rw [List.take_zero,show rdT p g (Nn g.txs i) [] = [] from rfl,YP];exact h)
  obtain ⟨F,G⟩:=G.nM [61,60,59,58,6,5,4,1] [103,102,101,0]
  refine Ye (Za (Ya (Yg (Ya (Zb G (qy 3 Ycg r2 (qf (oR true 3 .t) r1 qz (qf (oH [.int .i64 0,.bool false,.slice none 0 0] 105) trivial qz (qS 3 105 r2 r1 qZ)))) V [60,59,58,11,6,5,4,1] [105,103,102,101,0] (fun _=>rfl) (fun _=>rfl) fun τ a w F G=>?_)))))
  try dsimp only [RS.sub,SF.sub,CF.sub,csub,Anc.sub,List.map,Zf,xL,xM,Nat.reduceAdd,xD,xE,xT,xU,xC,xN,zCF,ldSF,Zw,rTx,ZJ,ZT,Zn,rOp] at G
  generalize τ 11=v11 at G
  try simp only [Yb] at G
  refine Za (Ya (rZ G (qg 2 105 r1 r1 (qa 105 r1 r1 (qu Yci r1 (qJ qZ)))) V [67,66,65,60,59,58,11,6,5,4,1] [105,103,102,101,0] fun G=>Yg ?_))
  refine Zl (σ:=(Nat)) [1,4,5,6,11,58,59,60,65,66] [0,101,103,105] (fun s=>[(67,.pv (.int .i64 (s:Int)))]) (fun s=>[(102,RS.hp (ZfZ (wwA p g.orders) (rdH p g (g.txs.take i)++rdT p g (Nn g.txs i) ((Nn g.txs i).ops.take s)) v14))]) (fun s=>s≤(Nn g.txs i).ops.length∧(True)) (fun s=>(Nn g.txs i).ops.length - s) (0) G ⟨rfl,rfl,rfl,rfl,rfl,rfl,rfl,rfl,rfl,rfl,rfl,tv⟩ ⟨rfl,rfl,rfl,rfl,rfl,tv⟩ ⟨Yx _,tv⟩ ?_
  clear G;intro j a w F hC G
  try dsimp only at hC
  obtain ⟨F,G⟩:=G.nM [67,66,65,60,59,58,11,6,5,4,1] [105,103,102,101,0]
  try dsimp only at G
  obtain ⟨hi,hq⟩:=hC
  refine Ya (rZ G (qL r2) V [68,67,66,65,60,59,58,11,6,5,4,1] [105,103,102,101,0] fun G=>Ya ?_)
  refine Zc G rfl (fun hc4=>?_) (fun hc4=>?_)
  ·skip
   have hil:j<(Nn g.txs i).ops.length:=by simp at hc4;omega
   refine Ye (Za (Ya (Yg (Ya (Zb G (qy 4 Yci r2 (qf (oR true 4 .t) r1 qz (qf (oH [.bool false,.int .i64 0,.int .i64 0,.int .i64 0] 106) trivial qz (qS 4 106 r2 r1 qZ)))) V [67,66,65,60,59,58,13,11,6,5,4,1] [106,105,103,102,101,0] (fun _=>rfl) (fun _=>rfl) fun τ a w F G=>?_)))))
   try dsimp only [RS.sub,SF.sub,CF.sub,csub,Anc.sub,List.map,Zf,xL,xM,Nat.reduceAdd,xD,xE,xT,xU,xC,xN,zCF,ldSF,Zw,rTx,ZJ,ZT,Zn,rOp] at G
   generalize τ 13=v13 at G
   try simp only [Yb] at G
   refine Za (Ya (rZ G (qg 1 105 r1 r1 (qa 105 r1 r1 (qR rr (qv 0 106 rfl r2 r1 (qw 106 rfl r2 r1 (qf (ZE .t .t) r2 qz (qR rr (qm rfl rfl rfl rfl (qv 1 106 rfl r2 r1 (qw 106 rfl r2 r1 (qk rfl (fun h=>ZM (avs:=[.int .i64 (Nn (Nn g.txs i).ops j).key]) (.w h) (hw (Nn (Nn g.txs i).ops j).key) hf hb hnn (Args.one (.w h))) r3 qz (qf (ZE .t .t) r2 qz qZ)))))))))))) V [82,67,66,65,60,59,58,13,11,6,5,4,1] [106,105,103,102,101,0] fun G=>?_))
   refine Zc G rfl (fun hc5=>?_) (fun hc5=>?_)
   ·skip
    have hpr:((Nn g.txs i).done && ((Nn (Nn g.txs i).ops j).read && p (Nn (Nn g.txs i).ops j).key))=true:=by have h9:=hc5;simp at h9;simp [h9]
    have hRR:(rdH p g (g.txs.take i)++rdT p g (Nn g.txs i) ((Nn g.txs i).ops.take j)).length≤10000000:=by have h9:=Zql p g (Nn g.txs i) ((Nn g.txs i).ops.take j);rw [Yi] at h9;rw [Yd];omega
    refine Ze G (qR rr (qe 3 105 r1 r1 (qe 4 106 r1 r1 (qR rr (qf (ZoM 103 102 (Ztl b g (Nn g.txs i) (Nn (Nn g.txs i).ops j) _ _ _ hRR) func136 rfl kr rfl (Args.four .t (.pagg .t) (.pagg .t) .t)) r4 r2 qZ))))) V [67,66,65,60,59,58,11,6,5,4,1] [106,105,103,102,101,0] rfl rfl fun a w F G=>?_
    replace G:=G.turn 102 rfl (r':=RS.hp (ZfZ (wwA p g.orders) (rdH p g (g.txs.take i)++rdT p g (Nn g.txs i) ((Nn g.txs i).ops.take (j+1))) v14)) (fun _ _ _ _ h=>by rw [ZkS hil,Yf hpr,← YN];exact h)
    obtain ⟨F,G⟩:=G.nM [67,66,65,60,59,58,11,6,5,4,1] [106,105,103,102,101,0]
    refine Zi (Za (rZ G (qp r1 (qR rr qZ)) V [67,66,65,60,59,58,11,6,5,4,1] [106,105,103,102,101,0] fun G=>?_))
    replace G:=G.ent (i:=67) (s':=.pv (.int .i64 ((j+1:Nat):Int))) rfl (.int (Zd ow))
    obtain ⟨F,G⟩:=G.nM [66,65,60,59,58,11,6,5,4,1,67] [105,103,101,0,102]
    exact ⟨(j+1),F,⟨by omega,tv⟩,G,by omega⟩
   have hpr:¬ ((Nn g.txs i).done && ((Nn (Nn g.txs i).ops j).read && p (Nn (Nn g.txs i).ops j).key))=true:=by intro h8;simp at h8;have h9:=hc5;simp [h8] at h9
   replace G:=G.turn 102 rfl (r':=RS.hp (ZfZ (wwA p g.orders) (rdH p g (g.txs.take i)++rdT p g (Nn g.txs i) ((Nn g.txs i).ops.take (j+1))) v14)) (fun _ _ _ _ h=>by rw [ZkS hil,Yc hpr,YP];exact h)
   obtain ⟨F,G⟩:=G.nM [82,67,66,65,60,59,58,13,11,6,5,4,1] [106,105,103,102,101,0]
   refine Ye (Zi (Za (rZ G (qp r1 (qR rr qZ)) V [67,66,65,60,59,58,11,6,5,4,1] [106,105,103,102,101,0] fun G=>?_)))
   replace G:=G.ent (i:=67) (s':=.pv (.int .i64 ((j+1:Nat):Int))) rfl (.int (Zd ow))
   obtain ⟨F,G⟩:=G.nM [66,65,60,59,58,11,6,5,4,1,67] [105,103,101,0,102]
   exact ⟨(j+1),F,⟨by omega,tv⟩,G,by omega⟩
  have hil:j=(Nn g.txs i).ops.length:=by simp at hc4;omega
  replace G:=G.turn 102 rfl (r':=RS.hp (ZfZ (wwA p g.orders) (rdH p g (g.txs.take (i+1))) v14)) (fun _ _ _ _ h=>by rw [ZrV hio];rw [hil,YA] at h;exact h)
  obtain ⟨F,G⟩:=G.nM [68,67,66,65,60,59,58,11,6,5,4,1] [105,103,102,101,0]
  refine Yw (Zj (Zj (Zo (Zi (Za (rZ G (qp r1 (qR rr qZ)) V [60,59,58,6,5,4,1] [105,103,102,101,0] fun G=>?_))))))
  replace G:=G.ent (i:=60) (s':=.pv (.int .i64 ((i+1:Nat):Int))) rfl (.int (Zd ow))
  obtain ⟨F,G⟩:=G.nM [59,58,6,5,4,1,60] [103,101,0,102]
  exact ⟨(i+1),F,⟨by omega,tv⟩,G,by omega⟩
 have hil:i=g.txs.length:=by simp at hc3;omega
 replace G:=G.turn 102 rfl (r':=RS.hp (ZfZ (wwC p g) (rdC p g) v14)) (fun _ _ _ _ h=>by rw [hgA,hgR];rw [hil,YA] at h;exact h)
 obtain ⟨F,G⟩:=G.nM [61,60,59,58,6,5,4,1] [103,102,101,0]
 refine Yw (Zj (Zj (Zo (Za (Ya (rZ G (qR rr (qO rr qZ)) V [4] [103,102,101,0] fun G=>Yh ?_))))))
 obtain ⟨F,G⟩:=G.rename 102 1 rfl rfl
 refine Z1 (h':=fun v=>ZfZ (wwC p g) (rdC p g) v) hG G rfl (.tmp rfl .nil) (.one .one) rfl
end Go.Proofs.YtlkpllemoepamaaGreat
