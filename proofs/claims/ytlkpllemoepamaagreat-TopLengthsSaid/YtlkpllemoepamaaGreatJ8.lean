/- Laws and walks. No condition beyond what each says. -/
import Derived.Test.YtlkpllemoepamaaGreatJ7
import Derived.Test.YtlkpllemoepamaaGreatLibI
namespace Go.Proofs.YtlkpllemoepamaaGreat
open Go Go.Gm Tryz
set_option linter.unusedVariables false
set_option linter.unusedSimpArgs false
set_option maxHeartbeats 4000000
set_option maxRecDepth 8000
theorem Zse (t u:TxD) (o:OpD) (phen:Int) (hu:u.ops.length≤1000):FnP prog 152 [.agg (rTx t),.agg (rTx u),.agg (rOp o),.int .i64 phen] (.bool (Zga t u o phen)):=by
 refine FnP.mk func152 rfl ntmps152 rfl fun B a w F Z hfr G=>Ya ?_
 refine Zb G (qx 101 r1 (qx 102 r1 (qx 103 r1 qB))) Z [8,6,5,4,3] [103,102,101,0] (fun _=>rfl) (fun _=>rfl) fun τ a w F G=>?_
 try dsimp only [RS.sub,SF.sub,CF.sub,csub,Anc.sub,List.map,zCF,Zx,rTx,ZV,ZQ,Zo,rOp,Zhv] at G
 generalize τ 4=v4,τ 5=v5,τ 6=v6 at G
 refine Za (Ya (Ya (rZ G (qR rr qZ) Z [9,8,6,5,4] [103,102,101,0] fun G=>(Yg (Ya ?_)))))
 refine rZ G (qf (o_eql .t qi) r1 qz (qO rr qZ)) Z [10,9,8,6,5,4] [103,102,101,0] fun G=>?_
 refine Zc G rfl (fun hc0=>?_) (fun hc0=>?_)
 ·have h2:phen=2:=by simpa using hc0
  refine Ya (rZ G (qg 1 101 r1 r1 (qa 101 r1 r1 (qR rr (qv 1 102 rfl r2 r1 (qw 102 rfl r2 r1 (qk rfl (fun h=>o_not (.w h)) r2 qz (qf (ZH .t .t) r2 qz (qO rr qZ)))))))) Z [8] [103,102,101,0] fun G=>(Yh (ZB (Zm ?_))))
  refine Zw hfr G rfl rfl rfl (.bool (by unfold Zga wcnt;first | (rw [Ye h2];done) | (rw [Yb h2,h3,Ybp];done) | (rw [Yb h2,h3];simp)))
 have h2:¬ phen=2:=by simpa using hc0
 refine Ya (rZ G (qf (o_eql .t qi) r1 qz (qO rr qZ)) Z [19,8,6,5,4] [103,102,101,0] fun G=>?_)
 refine Zc G rfl (fun hc1=>?_) (fun hc1=>?_)
 ·have h3:decide (phen=3)=true:=hc1
  refine Ya (Zz G (qg 1 101 r1 r1 (qa 101 r1 r1 (qR rr (qv 3 103 rfl r2 r1 (qw 103 rfl r2 r1 (qk rfl (fun h=>oL true 3 102 .is) r2 r1 (qv 1 103 rfl r2 r1 (qw 103 rfl r2 r1 (qk rfl (fun h=>oP (ZfD u o.key ow) func29 (Args.two (.pagg (.w h)) (.w h))) r3 qz (qk rfl (fun h=>ZaD (.w h) (.w h)) r3 qz (qf (ZH .t .t) r2 qz (qO rr qZ)))))))))))) Z [8] [103,102,101,0] rfl rfl fun a w F G=>?_)
  try dsimp only [List.map,xD,xE,xT,xU,ldSF,Zx,rTx,ZV,ZQ,Zo,rOp,Zhv] at G
  refine Za (Yh (ZB (Zm (Zw hfr G rfl rfl rfl (.bool (by unfold Zga wcnt;first | (rw [Ye h2];done) | (rw [Yb h2,h3,Ybp];done) | (rw [Yb h2,h3];simp)))))))
 have h3:decide (phen=3)=false:=hc1
 refine Yf (Zk (Za (Ya (rZ G qB Z [8] [103,102,101,0] fun G=>Yh ?_))))
 refine Zw hfr G rfl rfl rfl (.bool (by unfold Zga wcnt;first | (rw [Ye h2];done) | (rw [Yb h2,h3,Ybp];done) | (rw [Yb h2,h3];simp)))
theorem ZrH {g:Zq} (hs:ZaI g.txs) (o:OpD):(uOf g o).ops.length≤1000:=by
 unfold uOf
 cases hf:Z0 g.txs o.tx with
 | none=>simp [zeroT]
 | some t=>exact hs.2 _ (findT_mem hf).1
theorem Zp3 (g : Zq) (phen : Int) (hsm : ZbY g) (p : Int → Bool) (f : FuncId) (fn : Func) (cps : List PV) (hf : prog.funcs[f]? = some fn) (hb : fn.body.isSome = true) (hnn : (fn.name == "runtime.NumGoroutine") = false) (hw : ∀ x, FnP prog f (.int .i64 x :: cps) (.bool (p x))) : FnP prog 111 [.agg (Zx g), .int .i64 phen, .clos f cps] (.sl Zhv (ZaC g phen p)) := by
 refine FnP.mk func111 rfl ntmps111 rfl fun B a w F Z hfr G=>?_
 have hs:=hsm.1
 have hsl:=hs.1
 refine Ya (Zb G (qx 101 r1 (qC qZ)) Z [6,3,2,1] [101,0] (fun _=>rfl) (fun _=>rfl) fun τ a w F G=>?_)
 try dsimp only [RS.sub,SF.sub,CF.sub,csub,Anc.sub,List.map,zCF,Zx,rTx,ZV,ZQ,Zo,rOp,Zhv] at G
 generalize τ 3=v3 at G
 refine Za (Ya (rZ G (qC qZ) Z [7,6,3,2,1] [101,0] fun G=>(Ya (Ya ?_))))
 refine rZ G (qe 2 101 r1 r1 (qf (oP (ZeA g hsm) func19 (Args.one (.pagg .t))) r1 qz (qf (o_not .t) r1 qz qZ))) Z [17,7,6,3,2,1] [101,0] fun G=>?_
 refine Zc G rfl (fun hc0=>?_) (fun hc0=>?_)
 ·skip
  have hg:[] = ZaC g phen p:=by unfold ZaC;rw [Yb (by simpa using hc0)]
  refine Ya (rZ G (qR rr (qO rr qZ)) Z [7,6,3,2,1] [101,0] fun G=>(Yh (Zm ?_)))
  refine Zw hfr G rfl rfl rfl (.trans .nilSl (.sl (by first | exact hg | (rw [hq,hil,YC];exact hgg))))
 have hr:ZK g:=by simpa using hc0
 have hgg:badsG g phen p g.txs=ZaC g phen p:=by unfold ZaC;rw [Ye hr]
 refine Yf (Za (Ya (Zb G (qf (ZaG (ek:=(fun t:TxD=>PV.agg (rTx t))) (ok:=(fun _=>True)) (kv:=(fun n:Int=>Value.int .i64 n)) 102) trivial qz (qO rr qZ)) Z [8,7,6,3,2,1] [102,101,0] (fun _=>rfl) (fun _=>rfl) fun τ a w F G=>?_)))
 try dsimp only [RS.sub,SF.sub,CF.sub,csub,Anc.sub,List.map,Zf,xL,xM,Nat.reduceAdd,xD,xE,xT,xU,xC,xN,zCF,Zx,rTx,ZV,ZQ,Zo,rOp,Zhv] at G
 generalize τ 19=v19 at G
 refine Za (Ya (Ya (rZ G (qg 0 101 r1 r1 (qa 101 r1 r1 (qu Yb3 r1 (qJ qZ)))) Z [23,22,21,8,7,6,3,2,1] [102,101,0] fun G=>Yg ?_)))
 refine Zl (σ:=(Nat)×(List (GE Int TxD))×(Nat)) [1,2,3,6,7,8,21,22] [0,101] (fun s=>[(23,.pv (.int .i64 (s.1:Int)))]) (fun s=>[(102,.ob (.val v19) (Zbt (fun t:TxD=>PV.agg (rTx t)) (fun _=>True) (fun n:Int=>Value.int .i64 n) s.2.1 s.2.2))]) (fun s=>s.1≤g.txs.length∧(Zrz s.2.1 (g.txs.take s.1))) (fun s=>g.txs.length - s.1) ((0),([]),(0)) G ⟨rfl,rfl,rfl,rfl,rfl,rfl,rfl,rfl,rfl,tv⟩ ⟨rfl,rfl,rfl,tv⟩ ⟨Yw _,(fun id=>rfl)⟩ ?_
 clear G;intro s a w F hC G
 obtain ⟨i,es,ck⟩:=s
 try dsimp only at hC
 obtain ⟨F,G⟩:=G.nM [23,22,21,8,7,6,3,2,1] [102,101,0]
 try dsimp only at G
 obtain ⟨hi,hq⟩:=hC
 refine Ya (rZ G (qL r2) Z [24,23,22,21,8,7,6,3,2,1] [102,101,0] fun G=>Ya ?_)
 refine Zc G rfl (fun hc1=>?_) (fun hc1=>?_)
 ·skip
  have hil:i<g.txs.length:=by simp at hc1;omega
  refine Yf (Za (Ya (Yg (Ya (Zb G (qy 3 Yb3 r2 (qf (oR true 3 .t) r1 qz (qf (oH [.int .i64 0,.bool false,.slice none 0 0] 103) trivial qz (qS 3 103 r2 r1 qZ)))) Z [23,22,21,10,8,7,6,3,2,1] [103,102,101,0] (fun _=>rfl) (fun _=>rfl) fun τ a w F G=>?_)))))
  try dsimp only [RS.sub,SF.sub,CF.sub,csub,Anc.sub,List.map,Zf,xL,xM,Nat.reduceAdd,xD,xE,xT,xU,xC,xN,zCF,ldSF,Zx,rTx,ZV,ZQ,Zo,rOp,Zhv] at G
  generalize τ 10=v10 at G
  try simp only [Yc] at G
  refine Za (Zg G (qR rr (qg 0 103 r1 r1 (qa 103 r1 r1 (qe 3 103 r1 r1 (qf (o_mapUpdateG (ek:=(fun t:TxD=>PV.agg (rTx t))) (v:=(Nn g.txs i)) 102 underlying210 (Zck Yb4) .is (ZG.int .t rfl) (.pagg .t)) r3 r1 qZ))))) Z [23,22,21,8,7,6,3,2,1] [103,102,101,0] rfl rfl fun a w F G=>Zk (Za ?_))
  refine rZ G (qp r1 (qR rr qZ)) Z [23,22,21,8,7,6,3,2,1] [103,102,101,0] fun G=>?_
  replace G:=G.ent (i:=23) (s':=.pv (.int .i64 ((i+1:Nat):Int))) rfl (.int (Zd ow))
  obtain ⟨F,G⟩:=G.nM [22,21,8,7,6,3,2,1,23] [101,0,102]
  exact ⟨((i+1),((gPut (Nn g.txs i).id (Nn g.txs i) (es,ck)).1),((gPut (Nn g.txs i).id (Nn g.txs i) (es,ck)).2)),F,⟨by omega,Zrg hr.2.1 hq hil⟩,G,by omega⟩
 have hil:i=g.txs.length:=by simp at hc1;omega
 have hby:∀ id,gGet id es=Z0 g.txs id:=by rw [hil,YC] at hq;exact hq
 refine Yx (Zj (Zj (Zr (Za (Ya (Ya (rZ G (qg 0 101 r1 r1 (qa 101 r1 r1 (qu Yb3 r1 (qJ qZ)))) Z [35,34,33,8,7,6,2,1] [102,101,0] fun G=>Yg ?_)))))))
 replace G:=G.fresh 50 rfl
 replace G:=G.turn 50 rfl (ZaP (T:=35) (sz:=5) (R:=Zhv))
 refine Zl (σ:=(Nat)×(Value)×(List Zox)) [1,2,6,8,33,34] [0,101,102] (fun s=>[(35,.pv (.int .i64 (s.1:Int))),(7,.pv (.is s.2.1))]) (fun s=>[(50,.ob (.val s.2.1) (ZA 35 5 Zhv s.2.2))]) (fun s=>s.1≤g.txs.length∧(s.2.2=badsG g phen p (g.txs.take s.1))) (fun s=>g.txs.length - s.1) ((0),(.slice none 0 0),([])) G ⟨rfl,rfl,rfl,rfl,rfl,rfl,rfl,rfl,tv⟩ ⟨rfl,rfl,rfl,rfl,tv⟩ ⟨Yw _,rfl⟩ ?_
 clear G;intro s a w F hC G
 obtain ⟨i,x0,out⟩:=s
 try dsimp only at hC
 obtain ⟨F,G⟩:=G.nM [35,34,33,8,7,6,2,1] [102,101,50,0]
 try dsimp only at G
 obtain ⟨hi,hq⟩:=hC
 have hxl:=fun hil:i<g.txs.length=>hs.at hil
 have hol:out.length≤1000*i:=by rw [hq];exact Zks hs i
 refine Ya (rZ G (qL r2) Z [36,35,34,33,8,7,6,2,1] [102,101,50,0] fun G=>Ya ?_)
 refine Zc G rfl (fun hc2=>?_) (fun hc2=>?_)
 ·skip
  have hil:i<g.txs.length:=by simp at hc2;omega
  have hio:=hil
  have htl:=hxl hil
  have hsl:=hs.1
  refine Yf (Za (Ya (Yg (Ya (Zb G (qy 3 Yb3 r2 (qf (oR true 3 .t) r1 qz (qf (oH [.int .i64 0,.bool false,.slice none 0 0] 104) trivial qz (qS 3 104 r2 r1 qZ)))) Z [35,34,33,12,8,7,6,2,1] [104,102,101,50,0] (fun _=>rfl) (fun _=>rfl) fun τ a w F G=>?_)))))
  try dsimp only [RS.sub,SF.sub,CF.sub,csub,Anc.sub,List.map,Zf,xL,xM,Nat.reduceAdd,xD,xE,xT,xU,xC,xN,zCF,ldSF,Zx,rTx,ZV,ZQ,Zo,rOp,Zhv] at G
  generalize τ 12=v12 at G
  try simp only [Yc] at G
  refine Za (Ya (rZ G (qg 2 104 r1 r1 (qa 104 r1 r1 (qu Yb2 r1 (qJ qZ)))) Z [42,41,40,35,34,33,12,8,7,6,2,1] [104,102,101,50,0] fun G=>Yg ?_))
  refine Zl (σ:=(Nat)×(Value)×(List Zox)) [1,2,6,8,12,33,34,35,40,41] [0,101,102,104] (fun s=>[(42,.pv (.int .i64 (s.1:Int))),(7,.pv (.is s.2.1))]) (fun s=>[(50,.ob (.val s.2.1) (ZA 35 5 Zhv s.2.2))]) (fun s=>s.1≤(Nn g.txs i).ops.length∧(s.2.2=badsG g phen p (g.txs.take i)++ZbW g phen p (Nn g.txs i) ((Nn g.txs i).ops.take s.1))) (fun s=>(Nn g.txs i).ops.length - s.1) ((0),(x0),(out)) G ⟨rfl,rfl,rfl,rfl,rfl,rfl,rfl,rfl,rfl,rfl,rfl,rfl,tv⟩ ⟨rfl,rfl,rfl,rfl,rfl,tv⟩ ⟨Yw _,(by rw [hq];simp [ZbW])⟩ ?_
  clear G;intro s a w F hC G
  obtain ⟨j,x1,outj⟩:=s
  try dsimp only at hC
  obtain ⟨F,G⟩:=G.nM [42,41,40,35,34,33,12,8,7,6,2,1] [104,102,101,50,0]
  try dsimp only at G
  obtain ⟨hi,hq⟩:=hC
  have hbl:=Zf3 g phen p (Nn g.txs i) ((Nn g.txs i).ops.take j)
  have hbg:=Zks (g:=g) (phen:=phen) (p:=p) hs i
  have hoj:outj.length≤1000*i+j:=by rw [hq,Yd];rw [Yj] at hbl;omega
  refine Ya (rZ G (qL r2) Z [43,42,41,40,35,34,33,12,8,7,6,2,1] [104,102,101,50,0] fun G=>Ya ?_)
  refine Zc G rfl (fun hc3=>?_) (fun hc3=>?_)
  ·skip
   have hil:j<(Nn g.txs i).ops.length:=by simp at hc3;omega
   refine Yf (Za (Ya (Yg (Ya (Zb G (qR rr (qy 4 Yb2 r2 (qf (oR true 4 .t) r1 qz (qf (oH [.bool false,.int .i64 0,.int .i64 0,.int .i64 0] 105) trivial qz (qO rr (qS 4 105 r2 r1 qZ)))))) Z [42,41,40,35,34,33,14,13,12,8,7,6,2,1] [105,104,102,101,50,0] (fun _=>rfl) (fun _=>rfl) fun τ a w F G=>?_)))))
   try dsimp only [RS.sub,SF.sub,CF.sub,csub,Anc.sub,List.map,Zf,xL,xM,Nat.reduceAdd,xD,xE,xT,xU,xC,xN,zCF,ldSF,Zx,rTx,ZV,ZQ,Zo,rOp,Zhv] at G
   generalize τ 14=v14 at G
   try simp only [Yc] at G
   refine Za (Ya (Ya (rZ G (qg 0 105 r1 r1 (qa 105 r1 r1 (qf (o_not .t) r1 qz (qR rr (qv 2 105 rfl r2 r1 (qw 105 rfl r2 r1 (qk rfl (fun h=>o_eql (.w h) qi) r2 qz (qf (Zab .t .t) r2 qz (qR rr (qv 2 105 rfl r2 r1 (qw 105 rfl r2 r1 (qv 0 104 rfl r2 r1 (qw 104 rfl r2 r1 (qk rfl (fun h=>o_eql (.w h) (.w h)) r3 qz (qf (Zab .t .t) r2 qz (qR rr (qm rfl rfl rfl rfl (qv 1 105 rfl r2 r1 (qw 105 rfl r2 r1 (qk rfl (fun h=>Z6 (avs:=[.int .i64 (Nn (Nn g.txs i).ops j).key]) (.w h) (hw (Nn (Nn g.txs i).ops j).key) hf hb hnn (Args.one (.w h))) r3 qz (qk rfl (fun h=>o_not (.w h)) r2 qz (qf (Zab .t .t) r2 qz qZ)))))))))))))))))))))) Z [68,42,41,40,35,34,33,14,13,12,8,7,6,2,1] [105,104,102,101,50,0] fun G=>?_)))
   refine Zc G rfl (fun hc4=>?_) (fun hc4=>?_)
   ·skip
    have hBq:¬ (p (Nn (Nn g.txs i).ops j).key && Zj5 g phen (Nn g.txs i) (Nn (Nn g.txs i).ops j))=true:=by
      intro h9
      rw [Yr] at h9
      have h8:=h9.2
      unfold Zj5 at h8
      rw [Yr] at h8
      have h7:=h8.1
      unfold Zei at h7
      simp at h7
      have h6:=hc4
      simp [h9.1,h7] at h6
    refine Yx (Zj (Zr (Za (rZ G (qp r1 (qR rr qZ)) Z [42,41,40,35,34,33,12,8,7,6,2,1] [105,104,102,101,50,0] fun G=>?_))))
    replace G:=G.ent (i:=42) (s':=.pv (.int .i64 ((j+1:Nat):Int))) rfl (.int (Zd ow))
    obtain ⟨F,G⟩:=G.nM [41,40,35,34,33,12,8,6,2,1,7,42] [104,102,101,0,50]
    exact ⟨((j+1),_,_),F,⟨by omega,(by rw [Zc9 hil,← YP,← hq];first | (rw [Ye hBq];done) | (rw [Yb hBq,YN]))⟩,G,by omega⟩
   have hnd:Zei (Nn g.txs i).id (Nn (Nn g.txs i).ops j)=true∧p (Nn (Nn g.txs i).ops j).key=true:=by
     have h6:=hc4
     unfold Zei
     simp at h6
     refine ⟨by simp [h6],by simp [h6]⟩
   refine Yf (Za (Ya (Zbj 5 G kr (cG rfl (oL true 3 104 .is) r1 r1 (cG rfl (oM .t) r1 trivial (cG rfl (oF 2 105 .is) r1 r1 (cG rfl (oL false 1 105 .adr) r1 r1 (cG rfl (Zae (ek:=(fun t:TxD=>PV.agg (rTx t))) (z0:=zeroT) 102 underlying210 (Zck Yb4) kr (fun _ _=>⟨[_,_,_],rfl,⟨rfl,rfl,Zdf⟩,⟨rfl,rfl⟩,⟨rfl,ZqC⟩,tv⟩) .is (ZG.int .t rfl)) r2 r1 Zai.nil))))) kr (by rw [Z];kernel_rfl) fun a w F G=>?_)))
   obtain ⟨F,G⟩:=G.nM [73,69,42,41,40,35,34,33,14,13,12,8,7,6,2,1] [105,104,102,101,50,0]
   try dsimp only [List.map,xD,xE,xT,xU,ldSF,Zx,rTx,ZV,ZQ,Zo,rOp,Zhv] at G
   rw [show (gGet (Nn (Nn g.txs i).ops j).tx es).getD zeroT=(uOf g (Nn (Nn g.txs i).ops j)) by rw [hby];rfl] at G
   refine Zb0 G kr (cG rfl (oL true 4 105 .is) r1 r1 (cG rfl (oM .t) r1 trivial (cG rfl (oP (Zse (Nn g.txs i) (uOf g (Nn (Nn g.txs i).ops j)) (Nn (Nn g.txs i).ops j) phen (by have:=ZrH hs (Nn (Nn g.txs i).ops j);omega)) func152 (Args.four (.pagg .t) .t (.pagg .t) .t)) r4 trivial Zai.nil))) kr (by rw [Z];kernel_rfl) fun a w F G=>?_
   obtain ⟨F,G⟩:=G.nM [76,42,41,40,35,34,33,14,13,12,8,7,6,2,1] [105,104,102,101,50,0]
   try dsimp only [List.map,xD,xE,xT,xU,ldSF,Zx,rTx,ZV,ZQ,Zo,rOp,Zhv] at G
   refine Za (Zc G rfl (fun hc5=>?_) (fun hc5=>?_))
   ·skip
    have hBq:(p (Nn (Nn g.txs i).ops j).key && Zj5 g phen (Nn g.txs i) (Nn (Nn g.txs i).ops j))=true:=by unfold Zj5;rw [hnd.1,hnd.2,hc5];rfl
    refine ZbI G (qR rr (qg 0 104 r1 r1 (qa 104 r1 r1 (qR rr (qe 4 105 r1 r1 (qf (oP (ZkN (Nn (Nn g.txs i).ops j)) func120 (Args.one (.pagg .t))) r1 qz (qf (oB [(0,.tmp 79),(1,.tmp 80),(2,.tmp 82)] [.int .i64 0,.int .i64 0,.int .i64 0,.int .i64 0,.int .i64 0] [(0,1),(1,1),(2,3)] (.one rfl .t one_int kr (.one rfl .t one_int kr (.agg rfl (.conv .t .agg) kr kr .nil)))) r3 qz (qf (o_buildSliceE (sz:=5) (zs:=[.int .i64 0,.int .i64 0,.int .i64 0,.int .i64 0,.int .i64 0]) (r:=[(0,.tmp 83)]) (l:=[_,_,_,_,_]) underlying105 kr kr kr kr rfl rfl (.agg rfl .t kr kr .nil) rfl) r1 qz (qf (Z1 (sz:=5) (bs:=40) 50 (.mk' underlying105 kr kr) (by intro x;rfl) .is (.arr (l':=[(⟨(Nn g.txs i).id,j,ofO (Nn (Nn g.txs i).ops j)⟩:Zox)]) .t) (by simp only [Yd,Yl,Yy,Yj,YJ];omega) (by decide)) ⟨rfl,rfl,tv⟩ ⟨rfl,tv⟩ (qO rr qZ)))))))))) Z [42,41,40,35,34,33,12,8,7,6,2,1] [105,104,102,101,50,0] (fun _=>rfl) (fun _=>rfl) fun τ a w F G=>?_
    try dsimp only [RS.sub,SF.sub,CF.sub,csub,Anc.sub,List.map,Zf,xL,xM,Nat.reduceAdd,xD,xE,xT,xU,xC,xN,zCF,ldSF,Zx,rTx,ZV,ZQ,Zo,rOp,Zhv] at G
    generalize τ 85=v85 at G
    refine Zk (Za (rZ G (qp r1 (qR rr qZ)) Z [42,41,40,35,34,33,12,8,7,6,2,1] [105,104,102,101,50,0] fun G=>?_))
    replace G:=G.ent (i:=42) (s':=.pv (.int .i64 ((j+1:Nat):Int))) rfl (.int (Zd ow))
    obtain ⟨F,G⟩:=G.nM [41,40,35,34,33,12,8,6,2,1,7,42] [104,102,101,0,50]
    exact ⟨((j+1),_,_),F,⟨by omega,(by rw [Zc9 hil,← YP,← hq];first | (rw [Ye hBq];done) | (rw [Yb hBq,YN]))⟩,G,by omega⟩
   have hBq:¬ (p (Nn (Nn g.txs i).ops j).key && Zj5 g phen (Nn g.txs i) (Nn (Nn g.txs i).ops j))=true:=by unfold Zj5;rw [hnd.1,hnd.2,hc5];simp
   refine Yf (Zk (Za (rZ G (qp r1 (qR rr qZ)) Z [42,41,40,35,34,33,12,8,7,6,2,1] [105,104,102,101,50,0] fun G=>?_)))
   replace G:=G.ent (i:=42) (s':=.pv (.int .i64 ((j+1:Nat):Int))) rfl (.int (Zd ow))
   obtain ⟨F,G⟩:=G.nM [41,40,35,34,33,12,8,6,2,1,7,42] [104,102,101,0,50]
   exact ⟨((j+1),_,_),F,⟨by omega,(by rw [Zc9 hil,← YP,← hq];first | (rw [Ye hBq];done) | (rw [Yb hBq,YN]))⟩,G,by omega⟩
  have hil:j=(Nn g.txs i).ops.length:=by simp at hc3;omega
  refine Yx (Zj (Zj (Zr (Zk (Za (rZ G (qp r1 (qR rr qZ)) Z [35,34,33,8,7,6,2,1] [104,102,101,50,0] fun G=>?_))))))
  replace G:=G.ent (i:=35) (s':=.pv (.int .i64 ((i+1:Nat):Int))) rfl (.int (Zd ow))
  obtain ⟨F,G⟩:=G.nM [34,33,8,6,2,1,7,35] [102,101,0,50]
  exact ⟨((i+1),_,_),F,⟨by omega,(by rw [Zlf hio,hq,hil,YC])⟩,G,by omega⟩
 have hil:i=g.txs.length:=by simp at hc2;omega
 refine Yx (Zj (Zj (Zr (Za (Ya (rZ G (qR rr (qO rr qZ)) Z [6] [102,101,50,0] fun G=>Yh ?_))))))
 obtain ⟨F,G⟩:=G.give 50 6 rfl rfl
 refine Zw hfr G rfl rfl rfl (.sl (by first | exact hg | (rw [hq,hil,YC];exact hgg)))
theorem ZtC (x:Int):FnP prog 112 [.int .i64 x] (.bool ((fun _=>true) x)):=by
 refine FnP.mk func112 rfl ntmps112 rfl fun B a w F Z hfr G=>Ya ?_
 refine rZ G qB Z [2] [0] fun G=>Ya ?_
 refine rZ G qB Z [2] [0] fun G=>Yh ?_
 refine Zw hfr G rfl rfl rfl (.bool rfl)
theorem ZtT (g:Zq) (phen:Int) (hsm:ZbY g):FnP prog 67 [.agg (Zx g),.int .i64 phen] (.sl Zhv (ZaC g phen fun _=>true)):=by
 refine FnP.mk func67 rfl ntmps67 rfl fun B a w F Z hfr G=>Ya ?_
 refine Zb G (qx 101 r1 (qC qZ)) Z [4,2,1] [101,0] (fun _=>rfl) (fun _=>rfl) fun τ a w F G=>?_
 try dsimp only [RS.sub,SF.sub,CF.sub,csub,Anc.sub,List.map,zCF,Zx,rTx,ZV,ZQ,Zo,rOp,Zhv] at G
 generalize τ 2=v2 at G
 refine Za (Ya (rZ G (qe 2 101 r1 r1 (qR rr (qf (oP (Zp3 g phen hsm (fun _=>true) 112 f112 [] func112 rfl kr (fun x=>ZtC x)) func111 (Args.three (.pagg .t) .t (.conv .f (Ent.fnClos)))) r2 qz (qO rr qZ)))) Z [4] [101,0] fun G=>Yh ?_))
 refine Zw hfr G rfl rfl rfl .refl
theorem ZsT {p:Int→Bool} {g:Zq} (hs:ZbY g):(rdC p g).length≤2000*g.txs.length:=by
 unfold rdC
 split
 ·have h1:=Zm2 (p:=p) (g:=g) hs.1 g.txs.length
  rwa [YC] at h1
 ·simp
def Zap (g:Zq):List Ze:=(Zgr (wwC PT1 g) (rdC PT1 g)).map HvD.edge
def ZS (p:Int):Int×Int:=if p=1 then (2,0) else if p=4 then (6,0) else if p=5 then (14,8) else (0,0)
theorem Ziu {g:Zq} (hg:ZK g) {e:Ze} : e ∈ Zap g ↔ EdS g e:=by
 rw [← ZsE hg]
 unfold Zap Zgr
 rw [Ybc]
 rw [show (HvD.edge ∘ fun e=>(⟨e,cntA (wwC PT1 g) (rdC PT1 g) e⟩:HvD))=id from rfl,List.map_id]
 exact (Zbo ZbK _).2 _
theorem ZkB {g:Zq} (hg:¬ ZK g):Zap g = []:=by
 unfold Zap Zgr ZgJ wwC rdC
 rw [Yb hg,Yb hg];rfl
theorem Zg9 {g:Zq} (hg:ZK g) {e:Ze} (he:EdS g e):(∃ t ∈ g.txs,t.id=e.src∧t.done=true) ∧ ∃ t ∈ g.txs,t.id=e.dst∧t.done=true:=by
 obtain ⟨_,h2,h3,_,_,h6⟩:=Zid.1 hg
 have ord:∀ {k z:Int},z ∈ getO g.orders k → ∃ t ∈ g.txs,t.id=z∧t.done=true:=fun {k z} hz=>by
  obtain ⟨t,h4,h5,h7,_⟩:=Zfg.1 ((h6 k).mem_iff.1 hz)
  exact ⟨t,h4,h5,h7⟩
 rcases he with ⟨_,h⟩ | ⟨t,ht,hd,o,_,_,h1,h7,h8⟩
 ·exact ⟨ord h.mem.1,ord h.mem.2⟩
 ·rcases h8 with ⟨h9,rfl⟩ | ⟨y,h9,_,rfl⟩
  ·refine ⟨?_,t,ht,rfl,hd⟩
   rcases h7 with h7 | ⟨u,u1,u2,_⟩
   ·exact absurd h7 h9
   ·exact ⟨u,(findT_mem u1).1,(findT_mem u1).2,u2⟩
  ·exact ⟨⟨t,ht,rfl,hd⟩,ord h9.mem⟩
theorem Zso (l:List HvD) (hl:l.length≤1000000):FnP prog 37 [.sl rHv l] (.sl Zn (l.map HvD.edge)):=by
 refine FnP.mk func37 rfl ntmps37 rfl fun B a w F Z hfr G=>Ya ?_
 refine rZ G (qC qZ) Z [2,0] [0] fun G=>Ya ?_
 refine rZ G (qC qZ) Z [3,2,0] [0] fun G=>(Ya (Ya ?_))
 refine rZ G (qR rr (qu underlying73 r1 (qJ qZ))) Z [8,7,6,3,2] [0] fun G=>Yg ?_
 replace G:=G.fresh 50 rfl
 replace G:=G.turn 50 rfl (ZaP (T:=42) (sz:=4) (R:=Zn))
 refine Zl (σ:=(Nat)×(Value)×(List Ze)) [2,6,7] [0] (fun s=>[(8,.pv (.int .i64 (s.1:Int))),(3,.pv (.is s.2.1))]) (fun s=>[(50,.ob (.val s.2.1) (ZA 42 4 Zn s.2.2))]) (fun s=>s.1≤l.length∧(s.2.2=(l.take s.1).map HvD.edge)) (fun s=>l.length - s.1) ((0),(.slice none 0 0),([])) G ⟨rfl,rfl,rfl,rfl,rfl,tv⟩ ⟨rfl,rfl,tv⟩ ⟨Yw _,rfl⟩ ?_
 clear G;intro s a w F hC G
 obtain ⟨i,v,out⟩:=s
 try dsimp only at hC
 obtain ⟨F,G⟩:=G.nM [8,7,6,3,2] [50,0]
 try dsimp only at G
 obtain ⟨hi,hq⟩:=hC
 have hol:out.length≤i:=by rw [hq,YF,Yj];omega
 refine Ya (rZ G (qL r2) Z [9,8,7,6,3,2] [50,0] fun G=>Ya ?_)
 refine Zc G rfl (fun hc0=>?_) (fun hc0=>?_)
 ·have hil:i<l.length:=by simp at hc0;omega
  refine Yf (Za (Ya (Yg (Ya (Zb G (qy 5 underlying73 r2 (qf (oR true 5 .t) r1 qz (qf (oH [.int .i64 0,.int .i64 0,.int .i64 0,.int .i64 0,.int .i64 0] 101) trivial qz (qS 5 101 r2 r1 qZ)))) Z [8,7,6,5,3,2] [101,50,0] (fun _=>rfl) (fun _=>rfl) fun τ a w F G=>?_)))))
  try dsimp only [RS.sub,SF.sub,CF.sub,csub,Anc.sub,List.map,Zf,xL,xM,Nat.reduceAdd,xD,xE,xT,xU,xC,xN,zCF,ldSF,Zn,rHv] at G
  generalize τ 5=v5 at G
  try simp only [Yc] at G
  refine Za (Zb G (qR rr (qg 0 101 r1 r1 (qf (oL true 4 101 .adr) r1 r1 (qf (o_buildSliceE (sz:=4) (zs:=[.int .i64 0,.int .i64 0,.int .i64 0,.int .i64 0]) (r:=[(0,.tmp 14)]) (l:=[_,_,_,_]) Yb0 kr kr kr kr rfl rfl (.agg rfl .t kr kr .nil) rfl) r1 qz (qf (Z1 (sz:=4) (bs:=32) 50 (.mk' Yb0 kr kr) (by intro x;rfl) .is (.arr (l':=[(Nn l i).edge]) .t) (by simp only [Yd,Yl,Yy];omega) (by decide)) ⟨rfl,rfl,tv⟩ ⟨rfl,tv⟩ (qO rr qZ)))))) Z [8,7,6,3,2] [50,0] (fun _=>rfl) (fun _=>rfl) fun τ a w F G=>?_)
  try dsimp only [RS.sub,SF.sub,CF.sub,csub,Anc.sub,List.map,Zf,xL,xM,Nat.reduceAdd,xD,xE,xT,xU,xC,xN,zCF,ldSF,Zn,rHv] at G
  generalize τ 16=v16 at G
  refine Zk (Za (rZ G (qp r1 (qR rr qZ)) Z [8,7,6,3,2] [50,0] fun G=>?_))
  replace G:=G.ent (i:=8) (s':=.pv (.int .i64 ((i+1:Nat):Int))) rfl (.int (Zd ow))
  obtain ⟨F,G⟩:=G.nM [7,6,2,3,8] [0,50]
  exact ⟨((i+1),_,_),F,⟨by omega,(by rw [Zt hil,YK,← hq];rfl)⟩,G,by omega⟩
 have hil:i=l.length:=by simp at hc0;omega
 refine Yx (Zj (Zj (Zr (Za (Ya (rZ G (qR rr (qO rr qZ)) Z [2] [50,0] fun G=>Yh ?_))))))
 obtain ⟨F,G⟩:=G.give 50 2 rfl rfl
 refine Zw hfr G rfl rfl rfl (.sl (by rw [hq,hil,YC]))
theorem ZnT (p:Int):FnP prog 68 [.int .i64 p] (.tup [.int .i64 (ZS p).1,.int .i64 (ZS p).2]):=by
 refine FnP.mk func68 rfl ntmps68 rfl fun B a w F Z hfr G=>Ya ?_
 refine rZ G (qI (qI qZ)) Z [3,2,0] [0] fun G=>(Ya (Ya ?_))
 refine rZ G (qR rr qZ) Z [4,3,2] [0] fun G=>(Yg (Ya ?_))
 refine rZ G (qf (o_eql .t qi) r1 qz (qO rr qZ)) Z [5,4,3,2] [0] fun G=>?_
 refine Zc G rfl (fun hc0=>?_) (fun hc0=>?_)
 ·have hp:p=1:=by simpa using hc0
  subst hp
  have hg1:(2:Int)=(ZS 1).1:=rfl
  have hg2:(0:Int)=(ZS 1).2:=rfl
  refine Ya (rZ G (qI (qI qZ)) Z [3,2] [0] fun G=>(Yh (ZB (Zm ?_))))
  refine Zad hfr G rfl (.tmp rfl (.tmp rfl .nil)) (.two (.int hg1) (.int hg2))
 have hp1:¬ p=1:=by simpa using hc0
 refine Ya (rZ G (qf (o_eql .t qi) r1 qz (qO rr qZ)) Z [7,4,3,2] [0] fun G=>?_)
 refine Zc G rfl (fun hc1=>?_) (fun hc1=>?_)
 ·have hp:p=4:=by simpa using hc1
  subst hp
  have hg1:(6:Int)=(ZS 4).1:=rfl
  have hg2:(0:Int)=(ZS 4).2:=rfl
  refine Ya (rZ G (qI (qI qZ)) Z [3,2] [0] fun G=>(Yh (ZB (Zm ?_))))
  refine Zad hfr G rfl (.tmp rfl (.tmp rfl .nil)) (.two (.int hg1) (.int hg2))
 have hp2:¬ p=4:=by simpa using hc1
 refine Ya (rZ G (qf (o_eql .t qi) r1 qz (qO rr qZ)) Z [9,3,2] [0] fun G=>?_)
 refine Zc G rfl (fun hc2=>?_) (fun hc2=>?_)
 ·have hp:p=5:=by simpa using hc2
  subst hp
  have hg1:(14:Int)=(ZS 5).1:=rfl
  have hg2:(8:Int)=(ZS 5).2:=rfl
  refine Ya (rZ G (qI (qI qZ)) Z [3,2] [0] fun G=>(Yh (ZB (Zm ?_))))
  refine Zad hfr G rfl (.tmp rfl (.tmp rfl .nil)) (.two (.int hg1) (.int hg2))
 have hp3:¬ p=5:=by simpa using hc2
 have hg1:(0:Int)=(ZS p).1:=by unfold ZS;rw [Yb hp1,Yb hp2,Yb hp3]
 have hg2:(0:Int)=(ZS p).2:=by unfold ZS;rw [Yb hp1,Yb hp2,Yb hp3]
 refine Yf (Zk (Za (Ya (rZ G (qI (qI qZ)) Z [3,2] [0] fun G=>Yh ?_))))
 refine Zad hfr G rfl (.tmp rfl (.tmp rfl .nil)) (.two (.int hg1) (.int hg2))
theorem ZhP (l:List TxD) (id i:Int):Z0 (l.filter fun t=>!decide (t.id=id)) i=if i=id then none else Z0 l i:=by
 unfold Z0
 induction l with
 | nil=>simp
 | cons t l ih=>
  rw [YbI]
  by_cases e:t.id=id
  ·rw [Yb (by simp [e]),ih,YbO]
   by_cases h:i=id
   ·rw [Ye h,Ye h]
   ·rw [Yb h,Yb h,YI ow]
  ·rw [Ye (by simp [e]),YbO,YbO,ih]
   by_cases h:i=id
   ·rw [Ye h,Ye h,YI ow]
   ·rw [Yb h,Yb h]
theorem Zn3 {g:Zq} {p:Int} : ZaC g p PT1≠[] ↔ ZK g ∧ ∃ t ∈ g.txs,∃ o ∈ t.ops,Zj5 g p t o=true:=by
 unfold ZaC
 by_cases hg:ZK g
 ·rw [Ye hg]
  unfold badsG
  rw [Ne,List.flatMap_eq_nil_iff]
  constructor
  ·intro h
   refine ⟨hg,YaI fun hn=>h fun t ht=>?_⟩
   unfold ZbW
   rw [List.map_eq_nil_iff,YaU]
   intro x hx hb
   have hm:x.1 ∈ t.ops:=by
    obtain ⟨i,hi,e⟩:=YY hx
    simp at e
    rw [← e];exact YaS _
   exact hn ⟨t,ht,x.1,hm,by simpa using hb⟩
  ·rintro ⟨_,t,ht,o,ho,hb⟩ h
   have:=h t ht
   unfold ZbW at this
   rw [List.map_eq_nil_iff,YaU] at this
   obtain ⟨i,hi,e⟩:=YY ho
   exact this (o,i) (by rw [← e];exact List.mk_mem_zipIdx_iff_getElem?.2 (Yan hi)) (by simpa using hb)
 ·rw [Yb hg]
  exact ⟨fun h=>absurd rfl h,fun h=>absurd h.1 hg⟩
theorem ZhZ.bads {g x:Zq} {id:Int} (h:ZhZ g x id) {p:Int} (hb:ZaC x p PT1≠[]):ZaC g p PT1≠[]:=by
 obtain ⟨_,t,ht,o,ho,hb⟩:=Zn3.1 hb
 obtain ⟨t1,t2⟩:=h.mem.1 ht
 refine Zn3.2 ⟨h.rg,t,t1,o,ho,?_⟩
 have hr:o.read=true:=by
  unfold Zj5 Zei at hb
  cases hor:o.read
  ·rw [hor] at hb;simp at hb
  ·rfl
 unfold Zj5 uOf at hb ⊢
 rw [h.tab,Yb (h.free t t1 t2 o ho hr)] at hb
 exact hb
structure ZfU (x y:Zq) (id:Int):Prop where
 rx:ZK x
 ry:ZK y
 ord:∀ k,getO y.orders k=getO x.orders k
 flt:x.txs=y.txs.filter fun t=>!decide (t.id=id)
 idle:∀ t ∈ y.txs,t.id=id→t.done=false∨t.ops = []
 free:∀ t ∈ x.txs,∀ o ∈ t.ops,o.read=true→o.tx≠id
section
variable {x y:Zq} {id:Int}
theorem ZfU.mem (h:ZfU x y id) {t:TxD} : t ∈ x.txs ↔ t ∈ y.txs∧t.id≠id:=by rw [h.flt,YV];simp
theorem ZfU.find (h:ZfU x y id) {i:Int} (hi:i≠id):Z0 y.txs i=Z0 x.txs i:=by rw [h.flt,ZhP,Yb hi]
theorem ZfU.rds (h:ZfU x y id) {t:TxD} (ht:t ∈ x.txs) {o:OpD} (ho:o ∈ t.ops) (hr:o.read=true) {e:Ze} : RdS y t o e ↔ RdS x t o e:=by
 unfold RdS OkV
 rw [h.find (h.free t ht o ho hr),h.ord]
theorem ZfU.edge (h:ZfU x y id) {e:Ze} : EdS y e ↔ EdS x e:=by
 unfold EdS
 rw [h.ord]
 constructor
 ·rintro (k | ⟨t,ht,hd,o,ho,hr,k⟩)
  ·exact .inl k
  ·by_cases e:t.id=id
   ·rcases h.idle t ht e with h1 | h1
    ·rw [hd] at h1;cases h1
    ·rw [h1] at ho;cases ho
   ·have hx:=h.mem.2 ⟨ht,e⟩
    exact .inr ⟨t,hx,hd,o,ho,hr,(h.rds hx ho hr).1 k⟩
 ·rintro (k | ⟨t,ht,hd,o,ho,hr,k⟩)
  ·exact .inl k
  ·exact .inr ⟨t,(h.mem.1 ht).1,hd,o,ho,hr,(h.rds ht ho hr).2 k⟩
theorem Zfh {α β:Type} {f f':α→List β} {p:α→Bool} : ∀ {l:List α},(∀ t ∈ l,p t=false→f t = [])→(∀ t ∈ l,p t=true→f t=f' t)→l.flatMap f=(l.filter p).flatMap f'
 | [],_,_=>rfl
 | t :: l,h,k=>by
  have ih:=Zfh (l:=l) (fun u hu=>h u (by simp [hu])) fun u hu=>k u (by simp [hu])
  rw [YX,YbI,ih]
  cases hp:p t
  ·rw [h t (by simp) hp,Yb (by simp)];rfl
  ·rw [Ye rfl,YX,k t (by simp) hp]
theorem ZfU.bads (h:ZfU x y id) (p:Int):ZaC y p PT1=ZaC x p PT1:=by
 unfold ZaC
 rw [Ye h.ry,Ye h.rx]
 unfold badsG
 rw [h.flt]
 refine Zfh (fun t ht hp=>?_) fun t ht hp=>?_
 ·have e:t.id=id:=by simpa using hp
  unfold ZbW
  rw [List.map_eq_nil_iff,YaU]
  intro z hz hb
  have hm:z.1 ∈ t.ops:=by
   obtain ⟨i,hi,e⟩:=YY hz
   simp at e
   rw [← e];exact YaS _
  rcases h.idle t ht e with h1 | h1
  ·unfold Zj5 Zga at hb
   rw [h1] at hb;simp at hb
  ·rw [h1] at hm;cases hm
 ·have e:t.id≠id:=by simpa using hp
  have hx:=h.mem.2 ⟨ht,e⟩
  unfold ZbW
  congr 1
  refine List.filter_congr fun z hz=>?_
  have hm:z.1 ∈ t.ops:=by
   obtain ⟨i,hi,e⟩:=YY hz
   simp at e
   rw [← e];exact YaS _
  congr 1
  unfold Zj5
  cases hn:Zei t.id z.1
  ·rfl
  ·have hr:z.1.read=true:=by
    unfold Zei at hn
    cases hor:z.1.read
    ·rw [hor] at hn;simp at hn
    ·rfl
   unfold uOf
   rw [h.find (h.free t hx z.1 hm hr)]
end
theorem ZsU {p:Int→Bool} {n:Nat} {g:Zq} (h:Fit n g):(wwC p g).length≤n*(24*n):=by
 unfold wwC
 split
 ·have key:∀ l:List OrdD,(∀ o ∈ l,o.txs.length≤n)→(wwA p l).length≤n*l.length:=by
   intro l
   induction l with
   | nil=>intro _;simp [wwA]
   | cons o l ih=>
    intro h
    have h1:=ih fun x hx=>h x (by simp [hx])
    have h2:=h o (by simp)
    unfold wwA at h1 ⊢
    rw [YX,Yd,Yl,Nat.mul_succ]
    split
    ·have h3:(wwO o (o.txs.length - 1)).length=o.txs.length - 1:=by unfold wwO;rw [YF,List.length_range]
     omega
    ·simp only [Yy];omega
  exact Y6 (key _ h.2.2) (Ya6 _ h.2.1)
 ·simp
theorem Zny {n:Nat} {g:Zq} (h:Fit n g) (hn:n≤26):ZbY g∧(wwC PT1 g).length+(rdC PT1 g).length≤100000:=by
 have hs:=h.small ow
 refine ⟨hs,?_⟩
 have h1:=ZsU (p:=PT1) h
 have h2:=ZsT (p:=PT1) hs
 have h3:=h.1.1
 have h4:n*(24*n)≤26*(24*26):=Nat.mul_le_mul hn (Ya6 _ hn)
 omega
theorem Zn0 {g:Zq} (h:Zb1 g):Fit 24 g:=by
 obtain ⟨h1,h2,h3,h4⟩:=h
 refine ⟨⟨by omega,fun t ht=>?_⟩,by omega,fun o ho=>?_⟩
 ·obtain ⟨j,hj,e⟩:=YY ht
  have:=h3 j hj
  rw [nth_eq hj,e] at this;omega
 ·obtain ⟨j,hj,e⟩:=YY ho
  have:=h4 j hj
  rw [nth_eq hj,e] at this;omega
def Zdt:Zq:=⟨[⟨1,true,[⟨true,1,0,0⟩,⟨false,2,0,0⟩]⟩,⟨2,true,[⟨true,2,0,0⟩,⟨false,1,0,0⟩]⟩],[⟨1,[2]⟩,⟨2,[1]⟩]⟩
theorem ZlT:Zap Zdt = [⟨1,2,3,1⟩,⟨2,1,3,2⟩]:=by decide +kernel
theorem ZcY:ZbY Zdt∧(wwC PT1 Zdt).length+(rdC PT1 Zdt).length≤100000:=⟨⟨⟨by decide,by decide⟩,by decide,by decide⟩,by decide +kernel⟩
theorem Ztb  : FnP prog 32 [] (.agg (Zx Zdt)):=by
 refine FnP.mk func32 rfl ntmps32 rfl fun B a w F Z hfr G=>Ya ?_
 refine Zb G (qf (oH [.slice none 0 0,.slice none 0 0] 101) trivial qz qZ) Z [0] [101,0] (fun _=>rfl) (fun _=>rfl) fun τ a w F G=>?_
 try dsimp only [RS.sub,SF.sub,CF.sub,csub,Anc.sub,List.map,zCF,Zx,rTx,ZV,ZQ,Zo,rOp] at G
 generalize τ 0=v0 at G
 refine Za (Ya (rZ G (qf (oB [(0,_),(1,_)] [.bool false,.int .i64 0,.int .i64 0,.int .i64 0] [(0,1),(1,1),(2,1),(3,1)] (.one rfl .cb Zet kr (.one rfl qi one_int kr .nil))) trivial qz (qf (oB [(1,_)] [.bool false,.int .i64 0,.int .i64 0,.int .i64 0] [(0,1),(1,1),(2,1),(3,1)] (.one rfl qi one_int kr .nil)) trivial qz (qf (o_buildSliceE (sz:=4) (zs:=[.bool false,.int .i64 0,.int .i64 0,.int .i64 0]) (r:=[(0,.tmp 1),(1,.tmp 2)]) (l:=[_,_,_,_,_,_,_,_]) Yb2 kr kr kr kr rfl rfl (.agg rfl .t kr kr (.agg rfl .t kr kr .nil)) rfl) r2 qz (qf (oB [(0,_),(1,_),(2,.tmp 3)] [.int .i64 0,.bool false,.slice none 0 0] [(0,1),(1,1),(2,1)] (.one rfl qi one_int kr (.one rfl .cb Zet kr (.one rfl .t ZdR kr .nil)))) r1 qz (qf (oB [(0,_),(1,_)] [.bool false,.int .i64 0,.int .i64 0,.int .i64 0] [(0,1),(1,1),(2,1),(3,1)] (.one rfl .cb Zet kr (.one rfl qi one_int kr .nil))) trivial qz (qf (oB [(1,_)] [.bool false,.int .i64 0,.int .i64 0,.int .i64 0] [(0,1),(1,1),(2,1),(3,1)] (.one rfl qi one_int kr .nil)) trivial qz (qf (o_buildSliceE (sz:=4) (zs:=[.bool false,.int .i64 0,.int .i64 0,.int .i64 0]) (r:=[(0,.tmp 5),(1,.tmp 6)]) (l:=[_,_,_,_,_,_,_,_]) Yb2 kr kr kr kr rfl rfl (.agg rfl .t kr kr (.agg rfl .t kr kr .nil)) rfl) r2 qz (qf (oB [(0,_),(1,_),(2,.tmp 7)] [.int .i64 0,.bool false,.slice none 0 0] [(0,1),(1,1),(2,1)] (.one rfl qi one_int kr (.one rfl .cb Zet kr (.one rfl .t ZdR kr .nil)))) r1 qz (qf (o_buildSliceE (sz:=3) (zs:=[.int .i64 0,.bool false,.slice none 0 0]) (r:=[(0,.tmp 4),(1,.tmp 8)]) (l:=[_,_,_,_,_,_]) Yb3 kr kr kr kr rfl rfl (.agg rfl .t kr kr (.agg rfl .t kr kr .nil)) rfl) r2 qz (qf (o_buildSliceE (sz:=1) (zs:=[.int .i64 0]) (r:=[(0,_)]) (l:=[_]) YbZ kr kr kr kr rfl rfl (.one rfl qi one_int kr .nil) rfl) trivial qz (qf (oB [(0,_),(1,.tmp 10)] [.int .i64 0,.slice none 0 0] [(0,1),(1,1)] (.one rfl qi one_int kr (.one rfl .t ZdR kr .nil))) r1 qz (qf (o_buildSliceE (sz:=1) (zs:=[.int .i64 0]) (r:=[(0,_)]) (l:=[_]) YbZ kr kr kr kr rfl rfl (.one rfl qi one_int kr .nil) rfl) trivial qz (qf (oB [(0,_),(1,.tmp 12)] [.int .i64 0,.slice none 0 0] [(0,1),(1,1)] (.one rfl qi one_int kr (.one rfl .t ZdR kr .nil))) r1 qz (qf (o_buildSliceE (sz:=2) (zs:=[.int .i64 0,.slice none 0 0]) (r:=[(0,.tmp 11),(1,.tmp 13)]) (l:=[_,_,_,_]) Yb6 kr kr kr kr rfl rfl (.agg rfl .t kr kr (.agg rfl .t kr kr .nil)) rfl) r2 qz (qf (oB [(0,.tmp 9),(1,.tmp 14)] [.slice none 0 0,.slice none 0 0] [(0,1),(1,1)] (.one rfl .t ZdR kr (.one rfl .t ZdR kr .nil))) r2 qz (qs 2 101 r2 r1 qZ)))))))))))))))) Z [0] [101,0] fun G=>Yh ?_))
 refine Zad hfr G rfl (.cl 101 true 2 rfl rfl .nil) (.one (.aggLe rfl ⟨.arrSl (R:=rTx) (l':=[⟨1,true,[⟨true,1,0,0⟩,⟨false,2,0,0⟩]⟩,⟨2,true,[⟨true,2,0,0⟩,⟨false,1,0,0⟩]⟩]) rfl ⟨.refl,.refl,.arrSl (R:=rOp) (l':=[⟨true,1,0,0⟩,⟨false,2,0,0⟩]) rfl Zem.refl,.refl,.refl,.arrSl (R:=rOp) (l':=[⟨true,2,0,0⟩,⟨false,1,0,0⟩]) rfl Zem.refl,tv⟩,.arrSl (R:=ZV) (l':=[⟨1,[2]⟩,⟨2,[1]⟩]) rfl ⟨.refl,.arrSl (R:=Zo) (l':=[2]) rfl Zem.refl,.refl,.arrSl (R:=Zo) (l':=[1]) rfl Zem.refl,tv⟩,tv⟩))
section
variable {P:Program} {t t2 e ty:TypeId} {pos:String} {af:Array Edge} {g:Option (Nat×Bool)} {x y:Operand} {ps qs:List (Nat×SF)} {α:Type} {R:α→List PV} {l s:List α} {sz k d':Nat} {v:Value}
theorem Zft (n:Nat) (hu:P.underlying t=some (.slice e)) (hs:(P.info? e).map (·.size)=some sz) (hR:∀ x,(R x).length=sz) (hx:Opd x ps (.pv (.is (Zh6 sz k v)))) (hs0:s≠[]) (hk:k+s.length≤l.length)
  (hy:∀ (act:Act) (w:World) (F:Fp),Hps qs (Act.tau act) w (U F)→(RS.ob (.val v) (ZA e sz R l)).holds (Act.tau act) w (F n) (U F) → ∃ a sLen sCap svs,act.eval y = .slice (some a) sLen sCap∧min sLen (l.length - k)=s.length∧(∀ j u,svs[j]? = some u→w.cell? (a.add j)=some u)∧PVs (s.flatMap R) svs w (U F)) :
  OpC P ⟨some d',.call { callee:=.builtin .copy,args:=#[x,y],argTypes:=#[t,t2] },ty,pos,af,g⟩ ⟨ps++qs,[(n,.ob (.val v) (ZA e sz R l))],.pv (.int .i64 s.length),[(n,.ob (.val v) (ZA e sz R (l.take k++s++l.drop (k+s.length))))]⟩:=fun act w F K Q hw hp hr ht=>by
 obtain ⟨xs,r1,r2,r3⟩:=id (hr (n,.ob (.val v) (ZA e sz R l)) (by simp))
 have hy':=hy act w F hp.right (hr (n,.ob (.val v) (ZA e sz R l)) (by simp))
 simp only [Anc.v] at r1 r3
 have hxl:=r1.1
 have hsl0:0<s.length:=Yap.2 hs0
 rcases r1.2 with ⟨_,hn0⟩ | ⟨b,cap,cur,ev,_,hg,hnc,hcm,hcs,htake⟩
 ·omega
 ·have ex:act.eval x = .slice (some ⟨b,0+k*sz,none⟩) (l.length - k) (cap - k):=by rw [(hx act w (U F) hp.left).1,ev];rfl
  obtain ⟨sa,sl,sc,svs,es,hmin,hcells,hpv⟩:=hy'
  have hcl:svs.length=s.length*sz:=by rw [← hpv.len,Zkt hR]
  have hcur:cur.toList.length=cur.size:=by simp
  have hfit:k*sz+s.length*sz≤l.length*sz:=by rw [← Ya3];exact YM _ hk
  have hfit2:l.length*sz≤cur.size:=by rw [hcs];exact YM _ hnc
  have hf:∀ z,F n z ↔ z=b:=fun z=>by rw [r3 z,ev];simp [Value.ownBlock,Yay]
  have hc:=Zdn (P:=P) (w:=w) (dT:=t) (sT:=t2) (ty:=ty) (g:=b) (o:=0+k*sz) (dLen:=l.length - k) (dCap:=cap - k) (n:=s.length) (a:=sa) (sLen:=sl) (sCap:=sc) hu hs hg hmin hcl hcells (by rw [hcl];omega) hpv.one
  rw [Y7] at hc ex
  have hrun:(execOp act.eval ⟨some d',.call { callee:=.builtin .copy,args:=#[x,y],argTypes:=#[t,t2] },ty,pos,af,g⟩).run P w = .ok (.value (goInt s.length)) (w.setRow b (cur.toList.take (k*sz)++svs++cur.toList.drop (k*sz+svs.length)).toArray):=by
   simp only [execOp,resolve,invoke,builtin,ex,es]
   simp [hc,resolve,invoke,builtin,ex,es]
  obtain ⟨g1,g2⟩:=Zbr hw hg hf (cur.toList.take (k*sz)++svs++cur.toList.drop (k*sz+svs.length)).toArray
  simp only [Oper.wp,hrun,Oper.upon]
  refine ht _ _ F g1 g2 ⟨rfl,by unfold maxLen at hcm;show IntKind.min .i64≤_∧_≤IntKind.max .i64;simp [IntKind.min,IntKind.max,IntKind.signed,IntKind.bits];omega⟩ ?_
  intro z' hz'
  simp only [Yi] at hz'
  subst hz'
  have hll:(l.take k++s++l.drop (k+s.length)).length=l.length:=by simp;omega
  have htk:=Zes (cur:=cur.toList) (us:=svs) (k:=k*sz) (sz:=s.length*sz) (N:=l.length*sz) hfit hcl (by rw [hcur];exact hfit2)
  rw [htake] at htk
  have hown:=Zjq (n:=l.length) (sz:=sz) (us:=cur.toList.take (k*sz)++svs++cur.toList.drop (k*sz+svs.length)) hg (by simp only [Yd,Yj,YJ,hcur,hcl];omega) hnc hcm
  rw [htk] at hown
  refine ⟨xs.take (k*sz)++svs++xs.drop (k*sz+s.length*sz),by rw [hll];simp only [Anc.v];rw [ev];exact hown,?_,r3⟩
  rw [YS,YS,ZcN hR,ZgX hR,Ya3]
  have hp1:=PVs.mono g2.ev r2
  exact ((hp1.take _).append (PVs.mono g2.ev hpv)).append (hp1.drop _)
theorem ZiT (n:Nat) (hu:P.underlying t=some (.slice e)) (hs:(P.info? e).map (·.size)=some sz) (hR:∀ x,(R x).length=sz) (hx:Opd x ps (.pv (.is v))) (hy:Opd y qs (.pv (.sl R s))) (hs0:s≠[]) (hk:s.length≤l.length) :
  OpC P ⟨some d',.call { callee:=.builtin .copy,args:=#[x,y],argTypes:=#[t,t2] },ty,pos,af,g⟩ ⟨ps++qs,[(n,.ob (.val v) (ZA e sz R l))],.pv (.int .i64 s.length),[(n,.ob (.val v) (ZA e sz R (s++l.drop s.length)))]⟩:=fun act w F K Q hw hp hr ht=>by
 have hv:Zh6 sz 0 v=v:=by
  obtain ⟨xs,r1,_,_⟩:=hr (n,.ob (.val v) (ZA e sz R l)) (by simp)
  have hsl0:0<s.length:=Yap.2 hs0
  rcases r1.2 with ⟨_,hn0⟩ | ⟨b,cap,cur,ev,_⟩
  ·omega
  ·simp only [Anc.v] at ev
   rw [ev];simp [Zh6]
 have h:=Zft (P:=P) (t:=t) (t2:=t2) (ty:=ty) (pos:=pos) (af:=af) (g:=g) (x:=x) (y:=y) (ps:=ps) (qs:=qs) (R:=R) (s:=s) (l:=l) (v:=v) (k:=0) (d':=d') n hu hs hR (by rw [hv];exact hx) hs0 ow (fun act w F hp _=>by
  obtain ⟨sa,sc,es,hsc,hscm,hsv⟩:=hy act w (U F) hp
  obtain ⟨sb,soff,svs,rfl,hny,hsb,hcells,hpv⟩:=hsv.resolve_left hs0
  exact ⟨_,_,_,svs,es,by omega,ZnE hcells,hpv⟩)
 rw [List.take_zero,Yam,Y7] at h
 exact h act w F K Q hw hp hr ht
theorem Zje {kx ky:Nat} (n:Nat) (hu:P.underlying t=some (.slice e)) (hs:(P.info? e).map (·.size)=some sz) (hR:∀ x,(R x).length=sz) (hx:Opd x ps (.pv (.is (Zh6 sz kx v)))) (hy:Opd y qs (.pv (.is (ZoX ky v)))) (hkx:kx=k) (hky:ky=k) (h0:0<k) (hk:k<l.length) :
  OpC P ⟨some d',.call { callee:=.builtin .copy,args:=#[x,y],argTypes:=#[t,t2] },ty,pos,af,g⟩ ⟨ps++qs,[(n,.ob (.val v) (ZA e sz R l))],.pv (.int .i64 (l.take (min k (l.length - k))).length),[(n,.ob (.val v) (ZA e sz R (l.take k++l.take (min k (l.length - k))++l.drop (k+(l.take (min k (l.length - k))).length))))]⟩:=by
 subst hkx;subst hky
 have hlen:(l.take (min ky (l.length - ky))).length=min ky (l.length - ky):=by rw [Yj];omega
 refine Zft n hu hs hR hx (fun e=>by rw [← List.length_eq_zero_iff,hlen] at e;omega) (by rw [hlen];omega) fun act w F hp hr=>?_
 obtain ⟨xs,r1,r2,r3⟩:=hr
 simp only [Anc.v] at r1 r3
 have hxl:=r1.1
 have hsh:=ZL r1
 obtain ⟨ad,cap,ev,_,_,hq⟩:=hsh
 obtain ⟨b,rfl,_,hcells⟩:=hq.resolve_left ow
 have hle:min ky (l.length - ky)*sz≤l.length*sz:=YM _ ow
 refine ⟨⟨b,0,none⟩,ky,cap,xs.take (min ky (l.length - ky)*sz),by rw [(hy act w (U F) hp).1,ev];rfl,by rw [hlen],fun j u hj=>?_,?_⟩
 ·rw [YaZ] at hj
  split at hj
  ·exact ZnE hcells j u hj
  ·cases hj
 ·rw [ZcN hR];exact r2.take _
end
def Zby (n k:Nat):List Int:=List.replicate k (-1)++List.replicate (n - k) 0
theorem ZiH {n k:Nat} (h:k≤n):(Zby n k).length=n:=by unfold Zby;rw [Yd,YW,YW];omega
theorem Zi4 {n:Nat} (h:1≤n):[(-1:Int)] ++ (List.replicate n (0:Int)).drop [(-1:Int)].length=Zby n 1:=by unfold Zby;rw [List.drop_replicate];rfl
theorem Zgj {n k:Nat} (h:k<n):(Zby n k).take k++(Zby n k).take (min k ((Zby n k).length - k))++(Zby n k).drop (k+((Zby n k).take (min k ((Zby n k).length - k))).length)=Zby n (k+min k (n - k))∧((Zby n k).take (min k ((Zby n k).length - k))).length=min k (n - k):=by
 have hl:=ZiH (Nat.le_of_lt h)
 have hlen:((Zby n k).take (min k (n - k))).length=min k (n - k):=by rw [Yj,hl];omega
 rw [hl,hlen]
 refine ⟨?_,rfl⟩
 have t1:∀ j,j≤k→(Zby n k).take j=List.replicate j (-1):=fun j hj=>by
  unfold Zby
  rw [Y4 (by rw [YW];exact hj),List.take_replicate,YaQ hj]
 have d1:∀ j,(Zby n k).drop (k+j)=List.replicate (n - k - j) 0:=fun j=>by
  unfold Zby
  rw [List.drop_append,YaV (by rw [YW];omega),YW,List.drop_replicate,Yam]
  congr 1;omega
 rw [t1 k (YL _),t1 _ ow,d1]
 unfold Zby
 rw [List.replicate_append_replicate]
 congr 2;omega
theorem Znt {n k:Nat} (h:n≤k) (h2:k≤n):Zby n k=List.replicate n (-1):=by
 have:k=n:=by omega
 subst this
 unfold Zby;simp
theorem Ztd (x y:Int):FnP prog 247 [.int .u64 x,.int .u64 y] (.tup [.int .u64 (x*y / 18446744073709551616),.int .u64 (x*y % 18446744073709551616)]):=by
 refine FnP.mk func247 rfl ntmps247 rfl fun B a w F Z hfr G=>Ya ?_
 refine rZ G (qI (qI qZ)) Z [5,4,1,0] [0] fun G=>Ya ?_
 refine wp_cond (by rfl) ?_
 refine Yf (Za (Ya (rZ G (qR rr (qR rr (qf (oP (ZrS x y) func255 (Args.two .t .t)) r2 qz (qR rr (qf (Zh .t rfl) r1 qz (qf (Zh .t rfl) r1 qz (qO rr (qO rr qZ)))))))) Z [9,8,5,4] [0] fun G=>Ya ?_)))
 refine rZ G (qR rr (qR rr (qO rr (qO rr qZ)))) Z [5,4] [0] fun G=>Yh ?_
 refine Zad hfr G rfl (.tmp rfl (.tmp rfl .nil)) (.two .refl .refl)
theorem ZpJ (n:Nat) (hn1:1≤n) (hn2:n≤1000000):FnG prog 227 1 [.sl Zo [-1],.int .i64 (n:Int)] [.star []] (PV.one) (fun v=>[ZA 3 1 Zo (List.replicate n (-1)) v]):=by
 refine FnG.mk func227 rfl ntmps227 rfl kr fun B F0 a w F Z hG G=>?_
 have hu1:IntKind.wrap .u64 ((([(-1)]:List Int).length:Nat):Int)=1:=ZaO (by decide)
 have hu2:IntKind.wrap .u64 (n:Int)=n:=ZaO ow
 have hw:IntKind.wrap .i64 (n:Int)=n:=ZC ow
 have hm:(1:Int)*(n:Int) / 18446744073709551616=0∧(1:Int)*(n:Int) % 18446744073709551616=(n:Int):=by omega
 obtain ⟨F,G⟩:=G.nM [1,0] [0]
 refine Ya (rZ G (qC qZ) Z [4,1,0] [0] fun G=>(Ya (Ya ?_)))
 refine rZ G (qR rr (qf (ZaD .t qi) r1 qz qZ)) Z [10,4,1,0] [0] fun G=>?_
 refine Zc G rfl (fun hc0=>?_) (fun hc0=>?_)
 ·have:=Yt hc0;omega
 refine Yf (Za (Ya (Zg G (qR rr (qu YbZ r1 (qf (Zat Yb8 kr .t) r1 qz (qR rr (qf (Zat Yb8 kr .t) r1 qz (qf (oP (Ztd _ _) func247 (Args.two .t .t)) r2 qz (qR rr (qf (Zh .t rfl) r1 qz (qf (Zh .t rfl) r1 qz (qO rr (qO rr qZ))))))))))) Z [6,5,4,0] [0] rfl rfl fun a w F G=>?_)))
 rw [hu1,hu2,hm.1,hm.2] at G
 refine Za (Ya (Ya (rZ G (qR rr (qf (ZaV .t qi) r1 qz (qR rr (qm rfl rfl rfl rfl (qk rfl (fun h=>ZaV (.w h) qi) r2 qz (qf (Zab .t .t) r2 qz qZ)))))) Z [26,6,4,0] [0] fun G=>?_)))
 refine Zc G rfl (fun hc1=>?_) (fun hc1=>?_)
 ·simp at hc1;omega
 refine Yf (Za (Ya (Zb G (qR rr (qf (Zat Yb4 kr .t) r1 qz (qf (Zb4 (R:=Zo) (v:=0) (c:=(IntKind.wrap .i64 (n:Int))) (sz:=1) (bs:=8) (zs:=[.int .i64 0]) 101 YbZ kr kr kr (fun _ _=>⟨⟨rfl,rfl,Zdf⟩,tv⟩) .t .t (by rw [hw];omega) (by rw [hw];omega) (by rw [hw];omega)) r2 qz (qO rr qZ)))) Z [7,4,0] [101,0] (fun _=>rfl) (fun _=>rfl) fun τ a w F G=>?_)))
 try dsimp only [RS.sub,SF.sub,CF.sub,csub,Anc.sub,List.map,Zf,xL,xM,Nat.reduceAdd,xD,xE,xT,xU,xC,xN,zCF,Zaj,Zal,Zo,ZaB] at G
 generalize τ 30=v30 at G
 rw [hw,Yc] at G
 refine Za (Ya (Zg G (qR rr (qR rr (qf (ZiT 101 YbZ kr (by intro x;rfl) .t .t (by simp) (by rw [YW];exact hn1)) r2 r1 (qO rr qZ)))) Z [8,7,4] [101,0] rfl rfl fun a w F G=>?_))
 rw [Zi4 hn1] at G
 refine Za (Ya (Yg ?_))
 replace G:=G.ent (i:=8) (s':=.pv (.int .i64 ((1:Nat):Int))) rfl (.int rfl)
 refine Zl (σ:=Nat) [4,7] [0] (fun s=>[(8,.pv (.int .i64 (s:Int)))]) (fun s=>[(101,.ob (.val v30) (ZA 3 1 Zo (Zby n s)))]) (fun s=>1≤s∧s≤n) (fun s=>n - s) (1) G ⟨rfl,rfl,rfl,tv⟩ ⟨rfl,rfl,tv⟩ ⟨YL 1,hn1⟩ ?_
 clear G;intro k a w F hC G
 try dsimp only at hC
 obtain ⟨F,G⟩:=G.nM [8,7,4] [101,0]
 try dsimp only at G
 obtain ⟨hk1,hk2⟩:=hC
 have hfl:=ZiH hk2
 refine Ya (Ya (rZ G (qR rr (qR rr (qf (Zas 101 YbZ .is) r1 r1 (qL r2)))) Z [37,8,7,4] [101,0] fun G=>?_))
 refine Zc G rfl (fun hc2=>?_) (fun hc2=>?_)
 ·have hkn:k<n:=by have h9:=Yt hc2;rw [hfl] at h9;omega
  refine Yf (Za (Yg (Zz G (qR rr (qR rr (qR rr (qf (ZaN (sz:=1) 101 (.mk YbZ kr) .is .t ow (by rw [hfl];omega)) r2 r1 (qR rr (qR rr (qf (Zgd (sz:=1) 101 (.mk YbZ kr) .is .t ow (by rw [hfl];omega)) r2 r1 (qf (Zje 101 YbZ kr (by intro x;rfl) .t .t rfl rfl ow (by rw [hfl];exact hkn)) r2 r1 (qf (o_add .t .t) r2 qz (qO rr qZ)))))))))) Z [8,7,4] [101,0] rfl rfl fun a w F G=>?_)))
  try dsimp only [Zaj,Zal,Zo,ZaB] at G
  simp only [Yc] at G
  rw [(Zgj hkn).1] at G
  refine Zk (Za ?_)
  replace G:=G.ent (i:=8) (s':=.pv (.int .i64 ((k+min k (n - k):Nat):Int))) rfl (.int (by rw [(Zgj hkn).2,ZC ow];omega))
  obtain ⟨F,G⟩:=G.nM [7,4,8] [0,101]
  exact ⟨(k+min k (n - k)),F,⟨by omega,by omega⟩,G,by omega⟩
 have hkn:n≤k:=by have h9:=YE hc2;rw [hfl] at h9;omega
 rw [Znt hkn hk2] at G
 have hg:(List.replicate n (-1):List Int)=List.replicate n (-1):=rfl
 refine Yx (Zj (Zj (Zr (Za (Ya (rZ G (qR rr (qO rr qZ)) Z [4] [101,0] fun G=>Yh ?_))))))
 obtain ⟨F,G⟩:=G.rename 101 1 rfl rfl
 have G:=G.turn 1 rfl (r':=RS.hp (ZA 3 1 Zo (List.replicate n (-1)) v30)) (fun _ _ _ _ h=>by rw [hg];exact h)
 refine Z9 (h':=fun v=>ZA 3 1 Zo (List.replicate n (-1)) v) hG G rfl (.tmp rfl .nil) (.one .one) rfl
theorem Znu (O I:List (List Z4)) (m:Nat) (mask least:Int) (hn1:1≤O.length) (hn2:O.length≤1000000):FnG prog 204 1 [.agg [Zhq O I m,.int .i64 mask,.int .i64 least]] [.star []] (PV.one) (fun v=>[ZA 3 1 Zo (List.replicate O.length (-1)) v]):=by
 refine FnG.mk func204 rfl ntmps204 rfl kr fun B F0 a w F Z hG G=>?_
 have hg:(List.replicate O.length (-1):List Int)=List.replicate O.length (-1):=rfl
 obtain ⟨F,G⟩:=G.nM [0] [0]
 refine Ya (Zb G (qx 101 r1 (qC qZ)) Z [2,1] [101,0] (fun _=>rfl) (fun _=>rfl) fun τ a w F G=>?_)
 try dsimp only [RS.sub,SF.sub,CF.sub,csub,Anc.sub,List.map,zCF,Zaj,Zal,Zo,ZaB] at G
 generalize τ 1=v1 at G
 refine Za (Ya ?_)
 replace G:=G.fresh 102 rfl
 refine Zb G (qf (o_buildSliceE (sz:=1) (zs:=[.int .i64 0]) (r:=[(0,_)]) (l:=[_]) YbZ kr kr kr kr rfl rfl (.one rfl qi one_int kr .nil) rfl) trivial qz (qg 0 101 r1 r1 (qa 101 r1 r1 (qf (oP (ZcD O I m) func158 (Args.one .t)) r1 qz (qf (ZaE 102 (ZpJ O.length hn1 hn2) func227 rfl kr (Args.two (.conv .t (Ent.arrSl (R:=Zo) (l:=[-1]) rfl)) .t) pvOne1) r2 r1 (qO rr qZ)))))) Z [2] [102,101,0] (fun _=>rfl) (fun _=>rfl) fun τ a w F G=>?_
 try dsimp only [RS.sub,SF.sub,CF.sub,csub,Anc.sub,List.map,Zf,xL,xM,Nat.reduceAdd,xD,xE,xT,xU,xC,xN,zCF,ldSF,Zaj,Zal,Zo,ZaB] at G
 generalize τ 7=v7 at G
 refine Za (Yh ?_)
 obtain ⟨F,G⟩:=G.rename 102 1 rfl rfl
 have G:=G.turn 1 rfl (r':=RS.hp (ZA 3 1 Zo (List.replicate O.length (-1)) v7)) (fun _ _ _ _ h=>by rw [hg];exact h)
 refine Z9 (h':=fun v=>ZA 3 1 Zo (List.replicate O.length (-1)) v) hG G rfl (.tmp rfl .nil) (.one .one) rfl
theorem Zm9 (O I:List (List Z4)) (m:Nat) (mask least u:Int):FnP prog 205 [.agg [Zhq O I m,.int .i64 mask,.int .i64 least],.int .i64 u] (.bool (decide (least≤u∧0≤u∧u<O.length))):=by
 refine FnP.mk func205 rfl ntmps205 rfl fun B a w F Z hfr G=>Ya ?_
 refine Zb G (qx 101 r1 qB) Z [4,2,1] [101,0] (fun _=>rfl) (fun _=>rfl) fun τ a w F G=>?_
 try dsimp only [RS.sub,SF.sub,CF.sub,csub,Anc.sub,List.map,zCF,Zaj,Zal,Zo,ZaB] at G
 generalize τ 2=v2 at G
 refine Za (Ya (rZ G (qR rr (qg 2 101 r1 r1 (qa 101 r1 r1 (qf (ZpX .t qi) r1 qz (qf (ZbM .t .t) r2 qz (qR rr (qm rfl rfl rfl rfl (qv 0 101 rfl r2 r1 (qw 101 rfl r2 r1 (qk rfl (fun h=>oP (ZcD O I m) func158 (Args.one (.w h))) r2 qz (qk rfl (fun h=>ZaD (.w h) (.w h)) r3 qz (qf (ZH .t .t) r2 qz (qO rr qZ))))))))))))) Z [4] [0] fun G=>Yh ?_))
 refine Zw hfr G rfl rfl rfl (.bool (by rw [Ybi];simp;split <;> omega))
end Go.Proofs.YtlkpllemoepamaaGreat
