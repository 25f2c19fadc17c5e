/- Laws and walks. No condition beyond what each says. -/
import Derived.Test.YtlkpllemoepamaaGreatJ3
import Derived.Test.YtlkpllemoepamaaGreatLibI
namespace Go.Proofs.YtlkpllemoepamaaGreat
open Go Go.Gm Tryz
set_option linter.unusedVariables false
set_option linter.unusedSimpArgs false
set_option maxHeartbeats 4000000
set_option maxRecDepth 8000
theorem ZtG (mv:Value):FnP prog 134 [.is mv] (.clos 177 [.ref [.is mv]]):=by
 refine FnP.mk func134 Z ntmps134 Z fun B a w F V hfr G=>Ya ?_
 refine Zb G (qf (ZfT 101 .t one_is) r1 qz (qC qZ)) V [2,1] [101,0] (fun _=>rfl) (fun _=>rfl) fun τ a w F G=>?_
 try dsimp only [RS.sub,SF.sub,CF.sub,csub,Anc.sub,List.map,zCF,Zu,rTx,ZG,ZT,Zm,rOp] at G
 generalize τ 1=v1 at G
 obtain ⟨F,G⟩:=G.giveRef 101 1 Z Z rfl
 obtain ⟨F,G⟩:=G.nM [2,1] [0]
 try dsimp only [Go.Gm.unCF] at G
 refine Za (Ya (rZ G (qf (ZaO (Args.one .t)) r1 qz (qO rr qZ)) V [2] [0] fun G=>Yh ?_))
 refine Zs hfr G Z Z Z .refl
theorem Zga (l:List Zg):(ZbD ltE l).length≤l.length:=by
 have key:∀ (l acc:List Zg),(l.foldl (Zm8 ltE) acc).length≤acc.length+l.length:=by
  intro l
  induction l with
  | nil=>intro acc;simp
  | cons e l ih=>
   intro acc
   rw [Yan,Yl]
   have h1:=ih (Zm8 ltE acc e)
   have h2:(Zm8 ltE acc e).length≤acc.length+1:=Zjy ltE e acc false
   omega
 have:=key l []
 unfold ZbD
 simpa using this
theorem Zu8 (mv:Value) (AA:List (Zg×Int)) (RR:List Zg) (hAR:AA.length+RR.length≤1000000):FnG prog 77 1 [.is mv] [Zgf AA RR mv] (.sl rHv (Zg0 AA RR)) (fun _=>[Zgf AA RR mv]):=by
 refine FnG.mk func77 Z ntmps77 Z kr fun B F0 a w F V hG G=>?_
 obtain ⟨⟨es,ck⟩,G⟩:=G.open_ex 1 rfl
 obtain ⟨hE,G⟩:=G.open_and 1 rfl
 replace G:=G.turn 1 Z (r':=.ob (.val mv) (ZbH (fun n:Int=>PV.int .i64 n) (fun k=>∀ x ∈ Zao k,inR .i64 x) (kvS Zao) es ck)) (fun _ _ _ _ h=>h)
 try dsimp only at hE
 obtain ⟨F,G⟩:=G.nM [0] [1,0]
 refine Ya (rZ G (qC qZ) V [2,0] [1,0] fun G=>Ya ?_)
 refine rZ G (qC qZ) V [3,2,0] [1,0] fun G=>(Ya (Ya ?_))
 replace G:=G.fresh 60 rfl
 replace G:=G.turn 1 Z (r':=RS.hp (ZbH (fun n:Int=>PV.int .i64 n) (fun k=>∀ x ∈ Zao k,inR .i64 x) (kvS Zao) es ck mv)) (fun _ _ _ _ h=>h)
 obtain ⟨F,G⟩:=G.nM [3,2,0] [60,1,0]
 refine Zap 3 G kr (cG Z (oM .t) r1 trivial (cG Z (oP (ZtG mv) func134 (Args.one .t)) r1 trivial (cG Z (Zof 1 60 (Zkt (fun n:Int=>PV.int .i64 n) mv es ck (by have:=hE.len;omega)) func133 Z kr Z (Args.one .t) pvOne1) r1 r2 ChainN.nil))) kr (by rw [V];kernel_rfl) fun a w F G=>?_
 replace G:=G.sub
 obtain ⟨F,G⟩:=G.nM [8,3,2,0] [60,1,0]
 try dsimp only [RS.sub,SF.sub,CF.sub,csub,Anc.sub,List.map,Zu,rTx,ZG,ZT,Zm,rOp,Zq,rHv] at G
 generalize Act.tau a 8=v8 at G
 replace G:=G.turn 60 Z (r':=RS.hp (HP.ex fun l:List Zg=>HP.and (l.Perm (es.map fun z:GE Zg Int=>z.key)) (Zw 42 4 Zq l v8))) (fun _ _ _ _ h=>h)
 obtain ⟨ks,G⟩:=G.open_ex 60 rfl
 obtain ⟨hks,G⟩:=G.open_and 60 rfl
 replace G:=G.turn 60 Z (r':=.ob (.val v8) (Zw 42 4 Zq ks)) (fun _ _ _ _ h=>h)
 have hkl:ks.length≤1000000:=by have h1:=hks.length_eq;have h2:=hE.len;rw [YG] at h1;omega
 replace G:=G.turn 1 Z (r':=.ob (.val mv) (ZbH (fun n:Int=>PV.int .i64 n) (fun k=>∀ x ∈ Zao k,inR .i64 x) (kvS Zao) es ck)) (fun _ _ _ _ h=>h)
 obtain ⟨F,G⟩:=G.give 60 8 Z rfl
 obtain ⟨F,G⟩:=G.nM [8,3,2,0] [1,0]
 refine ZaH G kr (cG Z (oP (Zr7 ks hkl) func132 (Args.one .t)) r1 trivial (cG Z (Zcw Yce .t) r1 trivial (cG Z (oM (.ci kr)) trivial trivial ChainN.nil))) kr (by rw [V];kernel_rfl) fun a w F G=>?_
 obtain ⟨F,G⟩:=G.nM [11,10,9,3,2,0] [1,0]
 try dsimp only [Zu,rTx,ZG,ZT,Zm,rOp,Zq,rHv] at G
 rw [ZgD hE hks] at G
 have hkn:(ZbD ltE (ZgH AA RR)).length≤1000000:=by rw [← ZgD hE hks];exact Y2 (Zga ks) hkl
 refine Za (Yg ?_)
 replace G:=G.fresh 50 rfl
 replace G:=G.turn 50 Z (ZaA (T:=125) (sz:=5) (R:=rHv))
 refine Zj (σ:=(Nat)×(Value)×(List HvD)) [0,2,9,10] [0,1] (fun s=>[(11,.pv (.int .i64 (s.1:Int))),(3,.pv (.is s.2.1))]) (fun s=>[(50,.ob (.val s.2.1) (Zw 125 5 rHv s.2.2))]) (fun s=>s.1≤(ZbD ltE (ZgH AA RR)).length∧(s.2.2=((ZbD ltE (ZgH AA RR)).take s.1).map fun e=>(⟨e,cntA AA RR e⟩:HvD))) (fun s=>(ZbD ltE (ZgH AA RR)).length - s.1) ((0),(.slice none 0 0),([])) G ⟨rfl,rfl,rfl,rfl,rfl,rfl,tv⟩ ⟨rfl,rfl,rfl,tv⟩ ⟨Yy _,rfl⟩ ?_
 clear G;intro s a w F hC G
 obtain ⟨i,v,out⟩:=s
 try dsimp only at hC
 obtain ⟨F,G⟩:=G.nM [11,10,9,3,2,0] [50,1,0]
 try dsimp only at G
 obtain ⟨hi,hq⟩:=hC
 have hol:out.length≤i:=by rw [hq,YG,Yi];omega
 refine Ya (rZ G (qL r2) V [12,11,10,9,3,2,0] [50,1,0] fun G=>Ya ?_)
 refine Zc G Z (fun hc0=>?_) (fun hc0=>?_)
 ·have hil:i<(ZbD ltE (ZgH AA RR)).length:=by simp at hc0;omega
  refine Ye (Za (Ya (Yg (Ya (Zb G (qy 4 Yce r2 (qf (oR true 4 .t) r1 qz (qf (oH [.int .i64 0,.int .i64 0,.int .i64 0,.int .i64 0] 101) trivial qz (qS 4 101 r2 r1 qZ)))) V [11,10,9,5,3,2,0] [101,50,1,0] (fun _=>rfl) (fun _=>rfl) fun τ a w F G=>?_)))))
  try dsimp only [RS.sub,SF.sub,CF.sub,csub,Anc.sub,List.map,Zf,xL,xM,Nat.reduceAdd,xD,xE,xT,xU,xC,xN,zCF,ldSF,Zu,rTx,ZG,ZT,Zm,rOp,Zq,rHv] at G
  generalize τ 5=v5 at G
  try simp only [Yb] at G
  refine Za (Zax G (qR rr (qe 4 101 r1 r1 (qR rr (qe 4 101 r1 r1 (qf (Zat (ek:=(fun n:Int=>PV.int .i64 n)) (z0:=(0)) 1 Ycr Zc1 kr (fun _ _=>⟨rfl,ZcS⟩) .is (ZK.agg (enc:=Zao) (k:=Nn (ZbD ltE (ZgH AA RR)) i) (.pagg .t) Z)) r2 r1 (qf (oB [(0,.tmp 16),(1,.tmp 19)] [.int .i64 0,.int .i64 0,.int .i64 0,.int .i64 0,.int .i64 0] [(0,4),(4,1)] (.agg Z .t kr kr (.one Z .t one_int kr .nil))) r2 qz (qf (o_buildSliceE (sz:=5) (zs:=[.int .i64 0,.int .i64 0,.int .i64 0,.int .i64 0,.int .i64 0]) (r:=[(0,.tmp 20)]) (l:=[_,_,_,_,_]) underlying73 kr kr kr kr Z Z (.agg Z .t kr kr .nil) Z) r1 qz (qf (ZP (sz:=5) (bs:=40) 50 (.mk' underlying73 kr kr) (by intro x;rfl) .is (.arr (l':=[(⟨Nn (ZbD ltE (ZgH AA RR)) i,(gGet (Nn (ZbD ltE (ZgH AA RR)) i) es).getD 0⟩:HvD)]) .t) (by simp only [Yd,Yl,Yw];omega) (by decide)) ⟨rfl,rfl,tv⟩ ⟨rfl,tv⟩ (qO rr qZ))))))))) V [11,10,9,3,2,0] [101,50,1,0] (fun _=>rfl) (fun _=>rfl) fun τ a w F G=>?_)
  try dsimp only [RS.sub,SF.sub,CF.sub,csub,Anc.sub,List.map,Zf,xL,xM,Nat.reduceAdd,xD,xE,xT,xU,xC,xN,zCF,ldSF,Zu,rTx,ZG,ZT,Zm,rOp,Zq,rHv] at G
  generalize τ 22=v22 at G
  refine Zh (Za (rZ G (qp r1 (qR rr qZ)) V [11,10,9,3,2,0] [101,50,1,0] fun G=>?_))
  replace G:=G.ent (i:=11) (s':=.pv (.int .i64 ((i+1:Nat):Int))) Z (.int (Zd ow))
  obtain ⟨F,G⟩:=G.nM [10,9,2,0,3,11] [1,0,50]
  exact ⟨((i+1),_,_),F,⟨by omega,(by rw [Zo hil,YO,← hq,List.map_singleton];unfold cntA;rw [hE.val])⟩,G,by omega⟩
 have hil:i=(ZbD ltE (ZgH AA RR)).length:=by simp at hc0;omega
 refine Yx (Zi (Zi (Zn (Za (Ya (rZ G (qR rr (qO rr qZ)) V [2] [50,1,0] fun G=>Yh ?_))))))
 obtain ⟨F,G⟩:=G.give 50 2 Z rfl
 have G:=G.turn 1 Z (r':=RS.hp (Zgf AA RR mv)) (fun _ _ _ _ h=>⟨(es,ck),hE,h⟩)
 refine Zac hG G Z (.tmp Z .nil) (.one (.sl (by rw [hq,hil,Yz];rfl))) rfl
theorem Zq1 (x:Int):FnP prog 79 [.int .i64 x] (.bool ((fun _=>true) x)):=by
 refine FnP.mk func79 Z ntmps79 Z fun B a w F V hfr G=>Ya ?_
 refine rZ G qB V [2] [0] fun G=>Ya ?_
 refine rZ G qB V [2] [0] fun G=>Yh ?_
 refine Zs hfr G Z Z Z (.bool Z)
theorem ZoX (g:Zp) (hsm:Za7 g) (hAR:(wwC (fun _=>true) g).length+(rdC (fun _=>true) g).length≤1000000):FnP prog 38 [.agg (Zu g)] (.sl rHv (Zg0 (wwC (fun _=>true) g) (rdC (fun _=>true) g))):=by
 refine FnP.mk func38 Z ntmps38 Z fun B a w F V hfr G=>Ya ?_
 refine Zb G (qx 101 r1 (qC qZ)) V [2,1] [101,0] (fun _=>rfl) (fun _=>rfl) fun τ a w F G=>?_
 try dsimp only [RS.sub,SF.sub,CF.sub,csub,Anc.sub,List.map,zCF,Zu,rTx,ZG,ZT,Zm,rOp,rHv] at G
 generalize τ 1=v1 at G
 refine Za (Ya ?_)
 replace G:=G.fresh 102 rfl
 refine Zap 2 G kr (cG Z (oL true 2 101 .is) r1 r1 (cG Z (Zaq 102 (ZoB g hsm (fun _=>true) 79 f79 [] func79 Z kr (fun x=>Zq1 x)) func78 Z kr (Args.two (.pagg .t) (.conv .f (Ent.fnClos))) pvOne1) r1 r1 ChainN.nil)) kr (by rw [V];kernel_rfl) fun a w F G=>?_
 replace G:=G.sub
 obtain ⟨F,G⟩:=G.nM [4,2] [102,101,0]
 try dsimp only [RS.sub,SF.sub,CF.sub,csub,Anc.sub,List.map,xD,xE,xT,xU,ldSF,Zu,rTx,ZG,ZT,Zm,rOp,rHv] at G
 generalize Act.tau a 4=v4 at G
 replace G:=G.turn 102 Z (r':=RS.hp (Zgf (wwC (fun _=>true) g) (rdC (fun _=>true) g) v4)) (fun _ _ _ _ h=>h)
 obtain ⟨F,G⟩:=G.nM [4,2] [102,101,0]
 refine ZaH G kr (cG Z (ZJ 102 (Zu8 _ (wwC (fun _=>true) g) (rdC (fun _=>true) g) hAR) func77 Z kr (Args.one .t)) r1 r1 (cG Z (oN .t) r1 trivial ChainN.nil)) kr (by rw [V];kernel_rfl) fun a w F G=>?_
 obtain ⟨F,G⟩:=G.nM [2] [102,101,0]
 try dsimp only [Zu,rTx,ZG,ZT,Zm,rOp,rHv] at G
 refine Za (Yh (Zs hfr G Z Z Z .refl))
theorem Ztl (t u:TxD) (o:OpD) (phen:Int) (hu:u.ops.length≤1000):FnP prog 152 [.agg (rTx t),.agg (rTx u),.agg (rOp o),.int .i64 phen] (.bool (Zg7 t u o phen)):=by
 refine FnP.mk func152 Z ntmps152 Z fun B a w F V hfr G=>Ya ?_
 refine Zb G (qx 101 r1 (qx 102 r1 (qx 103 r1 qB))) V [8,6,5,4,3] [103,102,101,0] (fun _=>rfl) (fun _=>rfl) fun τ a w F G=>?_
 try dsimp only [RS.sub,SF.sub,CF.sub,csub,Anc.sub,List.map,zCF,Zu,rTx,ZG,ZT,Zm,rOp,Zis] at G
 generalize τ 4=v4,τ 5=v5,τ 6=v6 at G
 refine Za (Ya (Ya (rZ G (qR rr qZ) V [9,8,6,5,4] [103,102,101,0] fun G=>(Yg (Ya ?_)))))
 refine rZ G (qf (o_eql .t qi) r1 qz (qO rr qZ)) V [10,9,8,6,5,4] [103,102,101,0] fun G=>?_
 refine Zc G Z (fun hc0=>?_) (fun hc0=>?_)
 ·have h2:phen=2:=by simpa using hc0
  refine Ya (rZ G (qg 1 101 r1 r1 (qa 101 r1 r1 (qR rr (qv 1 102 Z r2 r1 (qw 102 Z r2 r1 (qk Z (fun h=>o_not (.w h)) r2 qz (qf (ZD .t .t) r2 qz (qO rr qZ)))))))) V [8] [103,102,101,0] fun G=>(Yh (Zz (Zk ?_))))
  refine Zs hfr G Z Z Z (.bool (by unfold Zg7 wcnt;first | (rw [Yf h2];done) | (rw [Yc h2,h3,Ybf];done) | (rw [Yc h2,h3];simp)))
 have h2:¬ phen=2:=by simpa using hc0
 refine Ya (rZ G (qf (o_eql .t qi) r1 qz (qO rr qZ)) V [19,8,6,5,4] [103,102,101,0] fun G=>?_)
 refine Zc G Z (fun hc1=>?_) (fun hc1=>?_)
 ·have h3:decide (phen=3)=true:=hc1
  refine Ya (Zv G (qg 1 101 r1 r1 (qa 101 r1 r1 (qR rr (qv 3 103 Z r2 r1 (qw 103 Z r2 r1 (qk Z (fun h=>oL true 3 102 .is) r2 r1 (qv 1 103 Z r2 r1 (qw 103 Z r2 r1 (qk Z (fun h=>oP (Zdc u o.key ow) func29 (Args.two (.pagg (.w h)) (.w h))) r3 qz (qk Z (fun h=>ZaD (.w h) (.w h)) r3 qz (qf (ZD .t .t) r2 qz (qO rr qZ)))))))))))) V [8] [103,102,101,0] Z Z fun a w F G=>?_)
  try dsimp only [List.map,xD,xE,xT,xU,ldSF,Zu,rTx,ZG,ZT,Zm,rOp,Zis] at G
  refine Za (Yh (Zz (Zk (Zs hfr G Z Z Z (.bool (by unfold Zg7 wcnt;first | (rw [Yf h2];done) | (rw [Yc h2,h3,Ybf];done) | (rw [Yc h2,h3];simp)))))))
 have h3:decide (phen=3)=false:=hc1
 refine Ye (Zh (Za (Ya (rZ G qB V [8] [103,102,101,0] fun G=>Yh ?_))))
 refine Zs hfr G Z Z Z (.bool (by unfold Zg7 wcnt;first | (rw [Yf h2];done) | (rw [Yc h2,h3,Ybf];done) | (rw [Yc h2,h3];simp)))
theorem Zui {g:Zp} (hs:ZaZ g.txs) (o:OpD):(uOf g o).ops.length≤1000:=by
 unfold uOf
 cases hf:ZU g.txs o.tx with
 | none=>simp [zeroT]
 | some t=>exact hs.2 _ (findT_mem hf).1
theorem ZrJ (g : Zp) (phen : Int) (hsm : Za7 g) (p : Int → Bool) (f : FuncId) (fn : Func) (cps : List PV) (hf : prog.funcs[f]? = some fn) (hb : fn.body.isSome = true) (hnn : (fn.name == "runtime.NumGoroutine") = false) (hw : ∀ x, FnP prog f (.int .i64 x :: cps) (.bool (p x))) : FnP prog 111 [.agg (Zu g), .int .i64 phen, .clos f cps] (.sl Zis (ZaQ g phen p)) := by
 refine FnP.mk func111 Z ntmps111 Z fun B a w F V hfr G=>?_
 have hs:=hsm.1
 have hsl:=hs.1
 refine Ya (Zb G (qx 101 r1 (qC qZ)) V [6,3,2,1] [101,0] (fun _=>rfl) (fun _=>rfl) fun τ a w F G=>?_)
 try dsimp only [RS.sub,SF.sub,CF.sub,csub,Anc.sub,List.map,zCF,Zu,rTx,ZG,ZT,Zm,rOp,Zis] at G
 generalize τ 3=v3 at G
 refine Za (Ya (rZ G (qC qZ) V [7,6,3,2,1] [101,0] fun G=>(Ya (Ya ?_))))
 refine rZ G (qe 2 101 r1 r1 (qf (oP (Zfc g hsm) func19 (Args.one (.pagg .t))) r1 qz (qf (o_not .t) r1 qz qZ))) V [17,7,6,3,2,1] [101,0] fun G=>?_
 refine Zc G Z (fun hc0=>?_) (fun hc0=>?_)
 ·skip
  have hg:[] = ZaQ g phen p:=by unfold ZaQ;rw [Yc (by simpa using hc0)]
  refine Ya (rZ G (qR rr (qO rr qZ)) V [7,6,3,2,1] [101,0] fun G=>(Yh (Zk ?_)))
  refine Zs hfr G Z Z Z (.trans .nilSl (.sl (by first | exact hg | (rw [hq,hil,Yz];exact hgg))))
 have hr:ZV g:=by simpa using hc0
 have hgg:badsG g phen p g.txs=ZaQ g phen p:=by unfold ZaQ;rw [Yf hr]
 refine Ye (Za (Ya (Zb G (qf (Za0 (ek:=(fun t:TxD=>PV.agg (rTx t))) (ok:=(fun _=>True)) (kv:=(fun n:Int=>Value.int .i64 n)) 102) trivial qz (qO rr qZ)) V [8,7,6,3,2,1] [102,101,0] (fun _=>rfl) (fun _=>rfl) fun τ a w F G=>?_)))
 try dsimp only [RS.sub,SF.sub,CF.sub,csub,Anc.sub,List.map,Zf,xL,xM,Nat.reduceAdd,xD,xE,xT,xU,xC,xN,zCF,Zu,rTx,ZG,ZT,Zm,rOp,Zis] at G
 generalize τ 19=v19 at G
 refine Za (Ya (Ya (rZ G (qg 0 101 r1 r1 (qa 101 r1 r1 (qu Ycg r1 (qJ qZ)))) V [23,22,21,8,7,6,3,2,1] [102,101,0] fun G=>Yg ?_)))
 refine Zj (σ:=(Nat)×(List (GE Int TxD))×(Nat)) [1,2,3,6,7,8,21,22] [0,101] (fun s=>[(23,.pv (.int .i64 (s.1:Int)))]) (fun s=>[(102,.ob (.val v19) (ZbH (fun t:TxD=>PV.agg (rTx t)) (fun _=>True) (fun n:Int=>Value.int .i64 n) s.2.1 s.2.2))]) (fun s=>s.1≤g.txs.length∧(ZuP s.2.1 (g.txs.take s.1))) (fun s=>g.txs.length - s.1) ((0),([]),(0)) G ⟨rfl,rfl,rfl,rfl,rfl,rfl,rfl,rfl,rfl,tv⟩ ⟨rfl,rfl,rfl,tv⟩ ⟨Yy _,(fun id=>rfl)⟩ ?_
 clear G;intro s a w F hC G
 obtain ⟨i,es,ck⟩:=s
 try dsimp only at hC
 obtain ⟨F,G⟩:=G.nM [23,22,21,8,7,6,3,2,1] [102,101,0]
 try dsimp only at G
 obtain ⟨hi,hq⟩:=hC
 refine Ya (rZ G (qL r2) V [24,23,22,21,8,7,6,3,2,1] [102,101,0] fun G=>Ya ?_)
 refine Zc G Z (fun hc1=>?_) (fun hc1=>?_)
 ·skip
  have hil:i<g.txs.length:=by simp at hc1;omega
  refine Ye (Za (Ya (Yg (Ya (Zb G (qy 3 Ycg r2 (qf (oR true 3 .t) r1 qz (qf (oH [.int .i64 0,.bool false,.slice none 0 0] 103) trivial qz (qS 3 103 r2 r1 qZ)))) V [23,22,21,10,8,7,6,3,2,1] [103,102,101,0] (fun _=>rfl) (fun _=>rfl) fun τ a w F G=>?_)))))
  try dsimp only [RS.sub,SF.sub,CF.sub,csub,Anc.sub,List.map,Zf,xL,xM,Nat.reduceAdd,xD,xE,xT,xU,xC,xN,zCF,ldSF,Zu,rTx,ZG,ZT,Zm,rOp,Zis] at G
  generalize τ 10=v10 at G
  try simp only [Yb] at G
  refine Za (Ze G (qR rr (qg 0 103 r1 r1 (qa 103 r1 r1 (qe 3 103 r1 r1 (qf (o_mapUpdateG (ek:=(fun t:TxD=>PV.agg (rTx t))) (v:=(Nn g.txs i)) 102 underlying210 (ZcE Ycl) .is (ZK.int .t Z) (.pagg .t)) r3 r1 qZ))))) V [23,22,21,8,7,6,3,2,1] [103,102,101,0] Z Z fun a w F G=>Zh (Za ?_))
  refine rZ G (qp r1 (qR rr qZ)) V [23,22,21,8,7,6,3,2,1] [103,102,101,0] fun G=>?_
  replace G:=G.ent (i:=23) (s':=.pv (.int .i64 ((i+1:Nat):Int))) Z (.int (Zd ow))
  obtain ⟨F,G⟩:=G.nM [22,21,8,7,6,3,2,1,23] [101,0,102]
  exact ⟨((i+1),((gPut (Nn g.txs i).id (Nn g.txs i) (es,ck)).1),((gPut (Nn g.txs i).id (Nn g.txs i) (es,ck)).2)),F,⟨by omega,ZuQ hr.2.1 hq hil⟩,G,by omega⟩
 have hil:i=g.txs.length:=by simp at hc1;omega
 have hby:∀ id,gGet id es=ZU g.txs id:=by rw [hil,Yz] at hq;exact hq
 refine Yx (Zi (Zi (Zn (Za (Ya (Ya (rZ G (qg 0 101 r1 r1 (qa 101 r1 r1 (qu Ycg r1 (qJ qZ)))) V [35,34,33,8,7,6,2,1] [102,101,0] fun G=>Yg ?_)))))))
 replace G:=G.fresh 50 rfl
 replace G:=G.turn 50 Z (ZaA (T:=35) (sz:=5) (R:=Zis))
 refine Zj (σ:=(Nat)×(Value)×(List ZoF)) [1,2,6,8,33,34] [0,101,102] (fun s=>[(35,.pv (.int .i64 (s.1:Int))),(7,.pv (.is s.2.1))]) (fun s=>[(50,.ob (.val s.2.1) (Zw 35 5 Zis s.2.2))]) (fun s=>s.1≤g.txs.length∧(s.2.2=badsG g phen p (g.txs.take s.1))) (fun s=>g.txs.length - s.1) ((0),(.slice none 0 0),([])) G ⟨rfl,rfl,rfl,rfl,rfl,rfl,rfl,rfl,tv⟩ ⟨rfl,rfl,rfl,rfl,tv⟩ ⟨Yy _,rfl⟩ ?_
 clear G;intro s a w F hC G
 obtain ⟨i,x0,out⟩:=s
 try dsimp only at hC
 obtain ⟨F,G⟩:=G.nM [35,34,33,8,7,6,2,1] [102,101,50,0]
 try dsimp only at G
 obtain ⟨hi,hq⟩:=hC
 have hxl:=fun hil:i<g.txs.length=>hs.at hil
 have hol:out.length≤1000*i:=by rw [hq];exact ZlN hs i
 refine Ya (rZ G (qL r2) V [36,35,34,33,8,7,6,2,1] [102,101,50,0] fun G=>Ya ?_)
 refine Zc G Z (fun hc2=>?_) (fun hc2=>?_)
 ·skip
  have hil:i<g.txs.length:=by simp at hc2;omega
  have hio:=hil
  have htl:=hxl hil
  have hsl:=hs.1
  refine Ye (Za (Ya (Yg (Ya (Zb G (qy 3 Ycg r2 (qf (oR true 3 .t) r1 qz (qf (oH [.int .i64 0,.bool false,.slice none 0 0] 104) trivial qz (qS 3 104 r2 r1 qZ)))) V [35,34,33,12,8,7,6,2,1] [104,102,101,50,0] (fun _=>rfl) (fun _=>rfl) fun τ a w F G=>?_)))))
  try dsimp only [RS.sub,SF.sub,CF.sub,csub,Anc.sub,List.map,Zf,xL,xM,Nat.reduceAdd,xD,xE,xT,xU,xC,xN,zCF,ldSF,Zu,rTx,ZG,ZT,Zm,rOp,Zis] at G
  generalize τ 12=v12 at G
  try simp only [Yb] at G
  refine Za (Ya (rZ G (qg 2 104 r1 r1 (qa 104 r1 r1 (qu Yci r1 (qJ qZ)))) V [42,41,40,35,34,33,12,8,7,6,2,1] [104,102,101,50,0] fun G=>Yg ?_))
  refine Zj (σ:=(Nat)×(Value)×(List ZoF)) [1,2,6,8,12,33,34,35,40,41] [0,101,102,104] (fun s=>[(42,.pv (.int .i64 (s.1:Int))),(7,.pv (.is s.2.1))]) (fun s=>[(50,.ob (.val s.2.1) (Zw 35 5 Zis s.2.2))]) (fun s=>s.1≤(Nn g.txs i).ops.length∧(s.2.2=badsG g phen p (g.txs.take i)++Zda g phen p (Nn g.txs i) ((Nn g.txs i).ops.take s.1))) (fun s=>(Nn g.txs i).ops.length - s.1) ((0),(x0),(out)) G ⟨rfl,rfl,rfl,rfl,rfl,rfl,rfl,rfl,rfl,rfl,rfl,rfl,tv⟩ ⟨rfl,rfl,rfl,rfl,rfl,tv⟩ ⟨Yy _,(by rw [hq];simp [Zda])⟩ ?_
  clear G;intro s a w F hC G
  obtain ⟨j,x1,outj⟩:=s
  try dsimp only at hC
  obtain ⟨F,G⟩:=G.nM [42,41,40,35,34,33,12,8,7,6,2,1] [104,102,101,50,0]
  try dsimp only at G
  obtain ⟨hi,hq⟩:=hC
  have hbl:=ZgV g phen p (Nn g.txs i) ((Nn g.txs i).ops.take j)
  have hbg:=ZlN (g:=g) (phen:=phen) (p:=p) hs i
  have hoj:outj.length≤1000*i+j:=by rw [hq,Yd];rw [Yi] at hbl;omega
  refine Ya (rZ G (qL r2) V [43,42,41,40,35,34,33,12,8,7,6,2,1] [104,102,101,50,0] fun G=>Ya ?_)
  refine Zc G Z (fun hc3=>?_) (fun hc3=>?_)
  ·skip
   have hil:j<(Nn g.txs i).ops.length:=by simp at hc3;omega
   refine Ye (Za (Ya (Yg (Ya (Zb G (qR rr (qy 4 Yci r2 (qf (oR true 4 .t) r1 qz (qf (oH [.bool false,.int .i64 0,.int .i64 0,.int .i64 0] 105) trivial qz (qO rr (qS 4 105 r2 r1 qZ)))))) V [42,41,40,35,34,33,14,13,12,8,7,6,2,1] [105,104,102,101,50,0] (fun _=>rfl) (fun _=>rfl) fun τ a w F G=>?_)))))
   try dsimp only [RS.sub,SF.sub,CF.sub,csub,Anc.sub,List.map,Zf,xL,xM,Nat.reduceAdd,xD,xE,xT,xU,xC,xN,zCF,ldSF,Zu,rTx,ZG,ZT,Zm,rOp,Zis] at G
   generalize τ 14=v14 at G
   try simp only [Yb] at G
   refine Za (Ya (Ya (rZ G (qg 0 105 r1 r1 (qa 105 r1 r1 (qf (o_not .t) r1 qz (qR rr (qv 2 105 Z r2 r1 (qw 105 Z r2 r1 (qk Z (fun h=>o_eql (.w h) qi) r2 qz (qf (Zal .t .t) r2 qz (qR rr (qv 2 105 Z r2 r1 (qw 105 Z r2 r1 (qv 0 104 Z r2 r1 (qw 104 Z r2 r1 (qk Z (fun h=>o_eql (.w h) (.w h)) r3 qz (qf (Zal .t .t) r2 qz (qR rr (qm Z Z Z Z (qv 1 105 Z r2 r1 (qw 105 Z r2 r1 (qk Z (fun h=>ZM (avs:=[.int .i64 (Nn (Nn g.txs i).ops j).key]) (.w h) (hw (Nn (Nn g.txs i).ops j).key) hf hb hnn (Args.one (.w h))) r3 qz (qk Z (fun h=>o_not (.w h)) r2 qz (qf (Zal .t .t) r2 qz qZ)))))))))))))))))))))) V [68,42,41,40,35,34,33,14,13,12,8,7,6,2,1] [105,104,102,101,50,0] fun G=>?_)))
   refine Zc G Z (fun hc4=>?_) (fun hc4=>?_)
   ·skip
    have hBq:¬ (p (Nn (Nn g.txs i).ops j).key && ZnB g phen (Nn g.txs i) (Nn (Nn g.txs i).ops j))=true:=by
      intro h9
      rw [Yt] at h9
      have h8:=h9.2
      unfold ZnB at h8
      rw [Yt] at h8
      have h7:=h8.1
      unfold Zdu at h7
      simp at h7
      have h6:=hc4
      simp [h9.1,h7] at h6
    refine Yx (Zi (Zn (Za (rZ G (qp r1 (qR rr qZ)) V [42,41,40,35,34,33,12,8,7,6,2,1] [105,104,102,101,50,0] fun G=>?_))))
    replace G:=G.ent (i:=42) (s':=.pv (.int .i64 ((j+1:Nat):Int))) Z (.int (Zd ow))
    obtain ⟨F,G⟩:=G.nM [41,40,35,34,33,12,8,6,2,1,7,42] [104,102,101,0,50]
    exact ⟨((j+1),_,_),F,⟨by omega,(by rw [ZdN hil,← YN,← hq];first | (rw [Yf hBq];done) | (rw [Yc hBq,YR]))⟩,G,by omega⟩
   have hnd:Zdu (Nn g.txs i).id (Nn (Nn g.txs i).ops j)=true∧p (Nn (Nn g.txs i).ops j).key=true:=by
     have h6:=hc4
     unfold Zdu
     simp at h6
     refine ⟨by simp [h6],by simp [h6]⟩
   refine Ye (Za (Ya (Zap 5 G kr (cG Z (oL true 3 104 .is) r1 r1 (cG Z (oM .t) r1 trivial (cG Z (oF 2 105 .is) r1 r1 (cG Z (oL false 1 105 .adr) r1 r1 (cG Z (Zat (ek:=(fun t:TxD=>PV.agg (rTx t))) (z0:=zeroT) 102 underlying210 (ZcE Ycl) kr (fun _ _=>⟨[_,_,_],rfl,⟨rfl,rfl,ZcS⟩,⟨rfl,rfl⟩,⟨rfl,Zi6⟩,tv⟩) .is (ZK.int .t Z)) r2 r1 ChainN.nil))))) kr (by rw [V];kernel_rfl) fun a w F G=>?_)))
   obtain ⟨F,G⟩:=G.nM [73,69,42,41,40,35,34,33,14,13,12,8,7,6,2,1] [105,104,102,101,50,0]
   try dsimp only [List.map,xD,xE,xT,xU,ldSF,Zu,rTx,ZG,ZT,Zm,rOp,Zis] at G
   rw [show (gGet (Nn (Nn g.txs i).ops j).tx es).getD zeroT=(uOf g (Nn (Nn g.txs i).ops j)) by rw [hby];rfl] at G
   refine ZaH G kr (cG Z (oL true 4 105 .is) r1 r1 (cG Z (oM .t) r1 trivial (cG Z (oP (Ztl (Nn g.txs i) (uOf g (Nn (Nn g.txs i).ops j)) (Nn (Nn g.txs i).ops j) phen (by have:=Zui hs (Nn (Nn g.txs i).ops j);omega)) func152 (Args.four (.pagg .t) .t (.pagg .t) .t)) r4 trivial ChainN.nil))) kr (by rw [V];kernel_rfl) fun a w F G=>?_
   obtain ⟨F,G⟩:=G.nM [76,42,41,40,35,34,33,14,13,12,8,7,6,2,1] [105,104,102,101,50,0]
   try dsimp only [List.map,xD,xE,xT,xU,ldSF,Zu,rTx,ZG,ZT,Zm,rOp,Zis] at G
   refine Za (Zc G Z (fun hc5=>?_) (fun hc5=>?_))
   ·skip
    have hBq:(p (Nn (Nn g.txs i).ops j).key && ZnB g phen (Nn g.txs i) (Nn (Nn g.txs i).ops j))=true:=by unfold ZnB;rw [hnd.1,hnd.2,hc5];rfl
    refine Zax G (qR rr (qg 0 104 r1 r1 (qa 104 r1 r1 (qR rr (qe 4 105 r1 r1 (qf (oP (Zl0 (Nn (Nn g.txs i).ops j)) func120 (Args.one (.pagg .t))) r1 qz (qf (oB [(0,.tmp 79),(1,.tmp 80),(2,.tmp 82)] [.int .i64 0,.int .i64 0,.int .i64 0,.int .i64 0,.int .i64 0] [(0,1),(1,1),(2,3)] (.one Z .t one_int kr (.one Z .t one_int kr (.agg Z (.conv .t .agg) kr kr .nil)))) r3 qz (qf (o_buildSliceE (sz:=5) (zs:=[.int .i64 0,.int .i64 0,.int .i64 0,.int .i64 0,.int .i64 0]) (r:=[(0,.tmp 83)]) (l:=[_,_,_,_,_]) Ycw kr kr kr kr Z Z (.agg Z .t kr kr .nil) Z) r1 qz (qf (ZP (sz:=5) (bs:=40) 50 (.mk' Ycw kr kr) (by intro x;rfl) .is (.arr (l':=[(⟨(Nn g.txs i).id,j,ofO (Nn (Nn g.txs i).ops j)⟩:ZoF)]) .t) (by simp only [Yd,Yl,Yw,Yi,YE];omega) (by decide)) ⟨rfl,rfl,tv⟩ ⟨rfl,tv⟩ (qO rr qZ)))))))))) V [42,41,40,35,34,33,12,8,7,6,2,1] [105,104,102,101,50,0] (fun _=>rfl) (fun _=>rfl) fun τ a w F G=>?_
    try dsimp only [RS.sub,SF.sub,CF.sub,csub,Anc.sub,List.map,Zf,xL,xM,Nat.reduceAdd,xD,xE,xT,xU,xC,xN,zCF,ldSF,Zu,rTx,ZG,ZT,Zm,rOp,Zis] at G
    generalize τ 85=v85 at G
    refine Zh (Za (rZ G (qp r1 (qR rr qZ)) V [42,41,40,35,34,33,12,8,7,6,2,1] [105,104,102,101,50,0] fun G=>?_))
    replace G:=G.ent (i:=42) (s':=.pv (.int .i64 ((j+1:Nat):Int))) Z (.int (Zd ow))
    obtain ⟨F,G⟩:=G.nM [41,40,35,34,33,12,8,6,2,1,7,42] [104,102,101,0,50]
    exact ⟨((j+1),_,_),F,⟨by omega,(by rw [ZdN hil,← YN,← hq];first | (rw [Yf hBq];done) | (rw [Yc hBq,YR]))⟩,G,by omega⟩
   have hBq:¬ (p (Nn (Nn g.txs i).ops j).key && ZnB g phen (Nn g.txs i) (Nn (Nn g.txs i).ops j))=true:=by unfold ZnB;rw [hnd.1,hnd.2,hc5];simp
   refine Ye (Zh (Za (rZ G (qp r1 (qR rr qZ)) V [42,41,40,35,34,33,12,8,7,6,2,1] [105,104,102,101,50,0] fun G=>?_)))
   replace G:=G.ent (i:=42) (s':=.pv (.int .i64 ((j+1:Nat):Int))) Z (.int (Zd ow))
   obtain ⟨F,G⟩:=G.nM [41,40,35,34,33,12,8,6,2,1,7,42] [104,102,101,0,50]
   exact ⟨((j+1),_,_),F,⟨by omega,(by rw [ZdN hil,← YN,← hq];first | (rw [Yf hBq];done) | (rw [Yc hBq,YR]))⟩,G,by omega⟩
  have hil:j=(Nn g.txs i).ops.length:=by simp at hc3;omega
  refine Yx (Zi (Zi (Zn (Zh (Za (rZ G (qp r1 (qR rr qZ)) V [35,34,33,8,7,6,2,1] [104,102,101,50,0] fun G=>?_))))))
  replace G:=G.ent (i:=35) (s':=.pv (.int .i64 ((i+1:Nat):Int))) Z (.int (Zd ow))
  obtain ⟨F,G⟩:=G.nM [34,33,8,6,2,1,7,35] [102,101,0,50]
  exact ⟨((i+1),_,_),F,⟨by omega,(by rw [Zng hio,hq,hil,Yz])⟩,G,by omega⟩
 have hil:i=g.txs.length:=by simp at hc2;omega
 refine Yx (Zi (Zi (Zn (Za (Ya (rZ G (qR rr (qO rr qZ)) V [6] [102,101,50,0] fun G=>Yh ?_))))))
 obtain ⟨F,G⟩:=G.give 50 6 Z rfl
 refine Zs hfr G Z Z Z (.sl (by first | exact hg | (rw [hq,hil,Yz];exact hgg)))
theorem ZvW (x:Int):FnP prog 112 [.int .i64 x] (.bool ((fun _=>true) x)):=by
 refine FnP.mk func112 Z ntmps112 Z fun B a w F V hfr G=>Ya ?_
 refine rZ G qB V [2] [0] fun G=>Ya ?_
 refine rZ G qB V [2] [0] fun G=>Yh ?_
 refine Zs hfr G Z Z Z (.bool Z)
theorem Zv9 (g:Zp) (phen:Int) (hsm:Za7 g):FnP prog 67 [.agg (Zu g),.int .i64 phen] (.sl Zis (ZaQ g phen fun _=>true)):=by
 refine FnP.mk func67 Z ntmps67 Z fun B a w F V hfr G=>Ya ?_
 refine Zb G (qx 101 r1 (qC qZ)) V [4,2,1] [101,0] (fun _=>rfl) (fun _=>rfl) fun τ a w F G=>?_
 try dsimp only [RS.sub,SF.sub,CF.sub,csub,Anc.sub,List.map,zCF,Zu,rTx,ZG,ZT,Zm,rOp,Zis] at G
 generalize τ 2=v2 at G
 refine Za (Ya (rZ G (qe 2 101 r1 r1 (qR rr (qf (oP (ZrJ g phen hsm (fun _=>true) 112 f112 [] func112 Z kr (fun x=>ZvW x)) func111 (Args.three (.pagg .t) .t (.conv .f (Ent.fnClos)))) r2 qz (qO rr qZ)))) V [4] [101,0] fun G=>Yh ?_))
 refine Zs hfr G Z Z Z .refl
theorem Zvs {p:Int→Bool} {g:Zp} (hs:Za7 g):(rdC p g).length≤2000*g.txs.length:=by
 unfold rdC
 split
 ·have h1:=ZnX (p:=p) (g:=g) hs.1 g.txs.length
  rwa [Yz] at h1
 ·simp
def Zab (g:Zp):List Zg:=(Zg0 (wwC PT1 g) (rdC PT1 g)).map HvD.edge
def ZZ (p:Int):Int×Int:=if p=1 then (2,0) else if p=4 then (6,0) else if p=5 then (14,8) else (0,0)
def PhB (g:Zp) (p:Int):Prop:=if p=2∨p=3 then ZaQ g p PT1≠[] else (ZZ p).1≠0∧ZeS (Zab g) (ZZ p).1 (ZZ p).2
theorem Zec {g:Zp} (hg:ZV g) {e:Zg} : e ∈ Zab g ↔ EdS g e:=by
 rw [← Zu3 hg]
 unfold Zab Zg0
 rw [Ybt]
 rw [show (HvD.edge ∘ fun e=>(⟨e,cntA (wwC PT1 g) (rdC PT1 g) e⟩:HvD))=id from rfl,List.map_id]
 exact (ZbM Zb4 _).2 _
theorem Zlk {g:Zp} (hg:¬ ZV g):Zab g = []:=by
 unfold Zab Zg0 ZgH wwC rdC
 rw [Yc hg,Yc hg];rfl
theorem Zlz {g:Zp} (hg:ZV g) {e:Zg} (he:EdS g e):(∃ t ∈ g.txs,t.id=e.src∧t.done=true) ∧ ∃ t ∈ g.txs,t.id=e.dst∧t.done=true:=by
 obtain ⟨_,h2,h3,_,_,h6⟩:=Zcm.1 hg
 have ord:∀ {k z:Int},z ∈ getO g.orders k → ∃ t ∈ g.txs,t.id=z∧t.done=true:=fun {k z} hz=>by
  obtain ⟨t,h4,h5,h7,_⟩:=ZbC.1 ((h6 k).mem_iff.1 hz)
  exact ⟨t,h4,h5,h7⟩
 rcases he with ⟨_,h⟩ | ⟨t,ht,hd,o,_,_,h1,h7,h8⟩
 ·exact ⟨ord h.mem.1,ord h.mem.2⟩
 ·rcases h8 with ⟨h9,rfl⟩ | ⟨y,h9,_,rfl⟩
  ·refine ⟨?_,t,ht,rfl,hd⟩
   rcases h7 with h7 | ⟨u,u1,u2,_⟩
   ·exact absurd h7 h9
   ·exact ⟨u,(findT_mem u1).1,(findT_mem u1).2,u2⟩
  ·exact ⟨⟨t,ht,rfl,hd⟩,ord h9.mem⟩
theorem Zob {g:Zp} (hs:Za7 g) (mask:Int):(ZI (ZeG (Zab g) mask)).length≤4096:=by
 by_cases hg:ZV g
 ·have h1:(ZI (ZeG (Zab g) mask)).length≤(g.txs.map TxD.id).length:=List.Nodup.length_le_of_subset (Zjo _) fun x hx=>by
   obtain ⟨e,he,hx⟩:=Zcj.1 hx
   obtain ⟨h3,h4⟩:=Zlz hg ((Zec hg).1 (YS.1 he).1)
   rcases hx with rfl | rfl
   ·obtain ⟨t,h5,h6,_⟩:=h3;exact Yu.2 ⟨t,h5,h6⟩
   ·obtain ⟨t,h5,h6,_⟩:=h4;exact Yu.2 ⟨t,h5,h6⟩
  have h2:=hs.1.1
  rw [YG] at h1;omega
 ·rw [Zlk hg];exact Yy _
theorem ZoC (l:List HvD) (hl:l.length≤1000000):FnP prog 37 [.sl rHv l] (.sl Zq (l.map HvD.edge)):=by
 refine FnP.mk func37 Z ntmps37 Z fun B a w F V hfr G=>Ya ?_
 refine rZ G (qC qZ) V [2,0] [0] fun G=>Ya ?_
 refine rZ G (qC qZ) V [3,2,0] [0] fun G=>(Ya (Ya ?_))
 refine rZ G (qR rr (qu underlying73 r1 (qJ qZ))) V [8,7,6,3,2] [0] fun G=>Yg ?_
 replace G:=G.fresh 50 rfl
 replace G:=G.turn 50 Z (ZaA (T:=42) (sz:=4) (R:=Zq))
 refine Zj (σ:=(Nat)×(Value)×(List Zg)) [2,6,7] [0] (fun s=>[(8,.pv (.int .i64 (s.1:Int))),(3,.pv (.is s.2.1))]) (fun s=>[(50,.ob (.val s.2.1) (Zw 42 4 Zq s.2.2))]) (fun s=>s.1≤l.length∧(s.2.2=(l.take s.1).map HvD.edge)) (fun s=>l.length - s.1) ((0),(.slice none 0 0),([])) G ⟨rfl,rfl,rfl,rfl,rfl,tv⟩ ⟨rfl,rfl,tv⟩ ⟨Yy _,rfl⟩ ?_
 clear G;intro s a w F hC G
 obtain ⟨i,v,out⟩:=s
 try dsimp only at hC
 obtain ⟨F,G⟩:=G.nM [8,7,6,3,2] [50,0]
 try dsimp only at G
 obtain ⟨hi,hq⟩:=hC
 have hol:out.length≤i:=by rw [hq,YG,Yi];omega
 refine Ya (rZ G (qL r2) V [9,8,7,6,3,2] [50,0] fun G=>Ya ?_)
 refine Zc G Z (fun hc0=>?_) (fun hc0=>?_)
 ·have hil:i<l.length:=by simp at hc0;omega
  refine Ye (Za (Ya (Yg (Ya (Zb G (qy 5 underlying73 r2 (qf (oR true 5 .t) r1 qz (qf (oH [.int .i64 0,.int .i64 0,.int .i64 0,.int .i64 0,.int .i64 0] 101) trivial qz (qS 5 101 r2 r1 qZ)))) V [8,7,6,5,3,2] [101,50,0] (fun _=>rfl) (fun _=>rfl) fun τ a w F G=>?_)))))
  try dsimp only [RS.sub,SF.sub,CF.sub,csub,Anc.sub,List.map,Zf,xL,xM,Nat.reduceAdd,xD,xE,xT,xU,xC,xN,zCF,ldSF,Zq,rHv] at G
  generalize τ 5=v5 at G
  try simp only [Yb] at G
  refine Za (Zb G (qR rr (qg 0 101 r1 r1 (qf (oL true 4 101 .adr) r1 r1 (qf (o_buildSliceE (sz:=4) (zs:=[.int .i64 0,.int .i64 0,.int .i64 0,.int .i64 0]) (r:=[(0,.tmp 14)]) (l:=[_,_,_,_]) Yce kr kr kr kr Z Z (.agg Z .t kr kr .nil) Z) r1 qz (qf (ZP (sz:=4) (bs:=32) 50 (.mk' Yce kr kr) (by intro x;rfl) .is (.arr (l':=[(Nn l i).edge]) .t) (by simp only [Yd,Yl,Yw];omega) (by decide)) ⟨rfl,rfl,tv⟩ ⟨rfl,tv⟩ (qO rr qZ)))))) V [8,7,6,3,2] [50,0] (fun _=>rfl) (fun _=>rfl) fun τ a w F G=>?_)
  try dsimp only [RS.sub,SF.sub,CF.sub,csub,Anc.sub,List.map,Zf,xL,xM,Nat.reduceAdd,xD,xE,xT,xU,xC,xN,zCF,ldSF,Zq,rHv] at G
  generalize τ 16=v16 at G
  refine Zh (Za (rZ G (qp r1 (qR rr qZ)) V [8,7,6,3,2] [50,0] fun G=>?_))
  replace G:=G.ent (i:=8) (s':=.pv (.int .i64 ((i+1:Nat):Int))) Z (.int (Zd ow))
  obtain ⟨F,G⟩:=G.nM [7,6,2,3,8] [0,50]
  exact ⟨((i+1),_,_),F,⟨by omega,(by rw [Zo hil,YO,← hq];rfl)⟩,G,by omega⟩
 have hil:i=l.length:=by simp at hc0;omega
 refine Yx (Zi (Zi (Zn (Za (Ya (rZ G (qR rr (qO rr qZ)) V [2] [50,0] fun G=>Yh ?_))))))
 obtain ⟨F,G⟩:=G.give 50 2 Z rfl
 refine Zs hfr G Z Z Z (.sl (by rw [hq,hil,Yz]))
theorem Zkw (p:Int):FnP prog 68 [.int .i64 p] (.tup [.int .i64 (ZZ p).1,.int .i64 (ZZ p).2]):=by
 refine FnP.mk func68 Z ntmps68 Z fun B a w F V hfr G=>Ya ?_
 refine rZ G (qI (qI qZ)) V [3,2,0] [0] fun G=>(Ya (Ya ?_))
 refine rZ G (qR rr qZ) V [4,3,2] [0] fun G=>(Yg (Ya ?_))
 refine rZ G (qf (o_eql .t qi) r1 qz (qO rr qZ)) V [5,4,3,2] [0] fun G=>?_
 refine Zc G Z (fun hc0=>?_) (fun hc0=>?_)
 ·have hp:p=1:=by simpa using hc0
  subst hp
  have hg1:(2:Int)=(ZZ 1).1:=rfl
  have hg2:(0:Int)=(ZZ 1).2:=rfl
  refine Ya (rZ G (qI (qI qZ)) V [3,2] [0] fun G=>(Yh (Zz (Zk ?_))))
  refine Z5 hfr G Z (.tmp Z (.tmp Z .nil)) (.two (.int hg1) (.int hg2))
 have hp1:¬ p=1:=by simpa using hc0
 refine Ya (rZ G (qf (o_eql .t qi) r1 qz (qO rr qZ)) V [7,4,3,2] [0] fun G=>?_)
 refine Zc G Z (fun hc1=>?_) (fun hc1=>?_)
 ·have hp:p=4:=by simpa using hc1
  subst hp
  have hg1:(6:Int)=(ZZ 4).1:=rfl
  have hg2:(0:Int)=(ZZ 4).2:=rfl
  refine Ya (rZ G (qI (qI qZ)) V [3,2] [0] fun G=>(Yh (Zz (Zk ?_))))
  refine Z5 hfr G Z (.tmp Z (.tmp Z .nil)) (.two (.int hg1) (.int hg2))
 have hp2:¬ p=4:=by simpa using hc1
 refine Ya (rZ G (qf (o_eql .t qi) r1 qz (qO rr qZ)) V [9,3,2] [0] fun G=>?_)
 refine Zc G Z (fun hc2=>?_) (fun hc2=>?_)
 ·have hp:p=5:=by simpa using hc2
  subst hp
  have hg1:(14:Int)=(ZZ 5).1:=rfl
  have hg2:(8:Int)=(ZZ 5).2:=rfl
  refine Ya (rZ G (qI (qI qZ)) V [3,2] [0] fun G=>(Yh (Zz (Zk ?_))))
  refine Z5 hfr G Z (.tmp Z (.tmp Z .nil)) (.two (.int hg1) (.int hg2))
 have hp3:¬ p=5:=by simpa using hc2
 have hg1:(0:Int)=(ZZ p).1:=by unfold ZZ;rw [Yc hp1,Yc hp2,Yc hp3]
 have hg2:(0:Int)=(ZZ p).2:=by unfold ZZ;rw [Yc hp1,Yc hp2,Yc hp3]
 refine Ye (Zh (Za (Ya (rZ G (qI (qI qZ)) V [3,2] [0] fun G=>Yh ?_))))
 refine Z5 hfr G Z (.tmp Z (.tmp Z .nil)) (.two (.int hg1) (.int hg2))
theorem Zkj {α:Type} {l:List α} : decide (0<(l.length:Int))=true ↔ l≠[]:=by rw [Yq,Ne,← List.length_eq_zero_iff];omega
theorem ZvX {g:Zp} {p:Int} (h:¬ (p=2∨p=3)) {b0 rb:Bool} (hb:b0=true ↔ PhB g p) (hr:rb=true ↔ ZeS (Zab g) (ZZ p).1 (ZZ p).2):(!decide ((ZZ p).1=0) && rb)=b0:=by
 rw [Yai,hb]
 unfold PhB
 rw [Yc h,Yt,hr];simp
theorem ZoS (g:Zp) (hsm:Za7 g) (hAR:(wwC PT1 g).length+(rdC PT1 g).length≤100000) (p:Int) (b0:Bool) (hb:b0=true ↔ PhB g p):FnP prog 31 [.agg (Zu g),.int .i64 p] (.bool b0):=by
 refine FnP.mk func31 Z ntmps31 Z fun B a w F V hfr G=>?_
 have hel:=Zhx (A:=wwC PT1 g) (R:=rdC PT1 g)
 have hkl:=Zga (ZgH (wwC PT1 g) (rdC PT1 g))
 have hal:(ZgH (wwC PT1 g) (rdC PT1 g)).length≤100000:=by unfold ZgH;rw [Yd,YG];exact hAR
 have hpl:(Zab g).length≤100000:=by unfold Zab;rw [YG];omega
 obtain ⟨rb,hrb⟩:=ZoW (ZeS (Zab g) (ZZ p).1 (ZZ p).2)
 refine Ya (Zb G (qx 101 r1 qB) V [4,2,1] [101,0] (fun _=>rfl) (fun _=>rfl) fun τ a w F G=>?_)
 try dsimp only [RS.sub,SF.sub,CF.sub,csub,Anc.sub,List.map,zCF,Zu,rTx,ZG,ZT,Zm,rOp] at G
 generalize τ 2=v2 at G
 refine Za (Ya (Ya (rZ G (qR rr qZ) V [7,4,2,1] [101,0] fun G=>(Yg (Ya (Ya ?_))))))
 refine rZ G (qf (o_eql .t qi) r1 qz (qO rr qZ)) V [8,7,4,2,1] [101,0] fun G=>?_
 refine Zc G Z (fun hc0=>?_) (fun hc0=>?_)
 ·have h23:(p=2∨p=3):=(by have h9:=hc0;simp at h9;omega)
  have hfin:decide (0<((ZaQ g p fun _=>true).length:Int))=b0:=by
    rw [Yai,hb]
    unfold PhB
    rw [Yf h23]
    exact Zkj
  refine Ye (Za (Zc G Z (fun hc1=>?_) (fun hc1=>?_)))
  ·have h23:(p=2∨p=3):=(by have h9:=hc1;simp at h9;omega)
   have hfin:decide (0<((ZaQ g p fun _=>true).length:Int))=b0:=by
     rw [Yai,hb]
     unfold PhB
     rw [Yf h23]
     exact Zkj
   refine Ya (rZ G (qe 2 101 r1 r1 (qR rr (qf (oP (Zv9 g p hsm) func67 (Args.two (.pagg .t) .t)) r2 qz (qu Ycw r1 (qf (ZaG .t qi) r1 qz (qO rr qZ)))))) V [4,2,1] [101,0] fun G=>(Yh (Zz (Zk ?_))))
   refine Zs hfr G Z Z Z (.bool hfin)
  exact Bool.noConfusion (hc0.symm.trans hc1)
 have hn2:¬ p=2:=by simpa using hc0
 refine rZ G (qf (o_eql .t qi) r1 qz (qO rr qZ)) V [8,4,2,1] [101,0] fun G=>?_
 refine Zc G Z (fun hc2=>?_) (fun hc2=>?_)
 ·have h23:(p=2∨p=3):=(by have h9:=hc2;simp at h9;omega)
  have hfin:decide (0<((ZaQ g p fun _=>true).length:Int))=b0:=by
    rw [Yai,hb]
    unfold PhB
    rw [Yf h23]
    exact Zkj
  refine Ya (rZ G (qe 2 101 r1 r1 (qR rr (qf (oP (Zv9 g p hsm) func67 (Args.two (.pagg .t) .t)) r2 qz (qu Ycw r1 (qf (ZaG .t qi) r1 qz (qO rr qZ)))))) V [4,2,1] [101,0] fun G=>(Yh (Zz (Zk ?_))))
  refine Zs hfr G Z Z Z (.bool hfin)
 have h23:¬ (p=2∨p=3):=(by have h9:=hc2;simp at h9;omega)
 have hfin:=ZvX h23 hb hrb
 refine Ye (Zh (Za (Ya (rZ G (qR rr (qf (oP (Zkw p) func68 (Args.one .t)) r1 qz (qR rr (qf (o_extract .t Z) r1 qz (qf (o_extract .t Z) r1 qz (qO rr (qO rr qZ))))))) V [6,5,4,2] [101,0] fun G=>Ya ?_))))
 refine rZ G (qR rr (qf (o_neq .t qi) r1 qz (qR rr (qk Z (fun h=>oL true 2 101 .is) r2 r1 (qk Z (fun h=>oP (ZoX g hsm (Y2 hAR (by decide))) func38 (Args.one (.pagg (.w h)))) r2 qz (qk Z (fun h=>oP (ZoC _ (by have h9:=hpl;unfold Zab at h9;rw [YG] at h9;exact Y2 h9 (by decide))) func37 (Args.one (.w h))) r2 qz (qm Z Z Z Z (qm Z Z Z Z (qk Z (fun h=>oP (ZtN (Zab g) (ZZ p).1 (ZZ p).2 hpl (Zob hsm _) rb hrb) func69 (Args.three (.w h) (.w h) (.w h))) r4 qz (qf (ZD .t .t) r2 qz (qO rr qZ))))))))))) V [4] [0] fun G=>Yh ?_
 refine Zs hfr G Z Z Z (.bool hfin)
theorem Zsj {t:TxD} {o:OpD} (ho:o ∈ t.ops) (hd:Zdu t.id o=true):ofO o ∈ ZfF t:=by
 have key:∀ (l:List OpD) (out:List Zb0),(ofO o ∈ out∨o ∈ l)→ofO o ∈ l.foldl (ZaY t.id) out:=by
  intro l
  induction l with
  | nil=>intro out h;rcases h with h | h;exact h;cases h
  | cons x l ih=>
   intro out h
   rw [Yan]
   refine ih _ ?_
   rcases h with h | h
   ·left
    unfold ZaY
    split
    ·exact Yaf _ h
    ·exact h
   ·rcases Yj.1 h with rfl | h
    ·left
     unfold ZaY
     by_cases hin:ofO o ∈ out
     ·rw [Yc (by simp [hin])];exact hin
     ·rw [Yf ⟨hd,hin⟩];simp
    ·exact .inr h
 exact key t.ops [] (.inr ho)
theorem ZeU (l:List TxD) (id i:Int):ZU (l.filter fun t=>!decide (t.id=id)) i=if i=id then none else ZU l i:=by
 unfold ZU
 induction l with
 | nil=>simp
 | cons t l ih=>
  rw [YbW]
  by_cases e:t.id=id
  ·rw [Yc (by simp [e]),ih,Yb4]
   by_cases h:i=id
   ·rw [Yf h,Yf h]
   ·rw [Yc h,Yc h,YF ow]
  ·rw [Yf (by simp [e]),Yb4,Yb4,ih]
   by_cases h:i=id
   ·rw [Yf h,Yf h,YF ow]
   ·rw [Yc h,Yc h]
structure Zwp (x y:Zp) (id:Int):Prop where
 rx:ZV x
 ry:ZV y
 ord:∀ k,getO y.orders k=getO x.orders k
 flt:x.txs=y.txs.filter fun t=>!decide (t.id=id)
 idle:∀ t ∈ y.txs,t.id=id→t.done=false∨t.ops = []
 free:∀ t ∈ x.txs,∀ o ∈ t.ops,o.read=true→o.tx≠id
section
variable {x y:Zp} {id:Int}
theorem Zf4 {α β:Type} {f f':α→List β} {p:α→Bool} : ∀ {l:List α},(∀ t ∈ l,p t=false→f t = [])→(∀ t ∈ l,p t=true→f t=f' t)→l.flatMap f=(l.filter p).flatMap f'
 | [],_,_=>rfl
 | t :: l,h,k=>by
  have ih:=Zf4 (l:=l) (fun u hu=>h u (by simp [hu])) fun u hu=>k u (by simp [hu])
  rw [YZ,YbW,ih]
  cases hp:p t
  ·rw [h t (by simp) hp,Yc (by simp)];rfl
  ·rw [Yf rfl,YZ,k t (by simp) hp]
end
theorem Zvr {p:Int→Bool} {n:Nat} {g:Zp} (h:Fit n g):(wwC p g).length≤n*(24*n):=by
 unfold wwC
 split
 ·have key:∀ l:List OrdD,(∀ o ∈ l,o.txs.length≤n)→(wwA p l).length≤n*l.length:=by
   intro l
   induction l with
   | nil=>intro _;simp [wwA]
   | cons o l ih=>
    intro h
    have h1:=ih fun x hx=>h x (by simp [hx])
    have h2:=h o (by simp)
    unfold wwA at h1 ⊢
    rw [YZ,Yd,Yl,Nat.mul_succ]
    split
    ·have h3:(wwO o (o.txs.length - 1)).length=o.txs.length - 1:=by unfold wwO;rw [YG,List.length_range]
     omega
    ·simp only [Yw];omega
  exact Y2 (key _ h.2.2) (Ybk _ h.2.1)
 ·simp
theorem Zjq {n:Nat} {g:Zp} (h:Fit n g) (hn:n≤26):Za7 g∧(wwC PT1 g).length+(rdC PT1 g).length≤100000:=by
 have hs:=h.small ow
 refine ⟨hs,?_⟩
 have h1:=Zvr (p:=PT1) h
 have h2:=Zvs (p:=PT1) hs
 have h3:=h.1.1
 have h4:n*(24*n)≤26*(24*26):=Nat.mul_le_mul hn (Ybk _ hn)
 omega
theorem ZnV {g:Zp} (h:Zco g):Fit 24 g:=by
 obtain ⟨h1,h2,h3,h4⟩:=h
 refine ⟨⟨by omega,fun t ht=>?_⟩,by omega,fun o ho=>?_⟩
 ·obtain ⟨j,hj,e⟩:=Yab ht
  have:=h3 j hj
  rw [nth_eq hj,e] at this;omega
 ·obtain ⟨j,hj,e⟩:=Yab ho
  have:=h4 j hj
  rw [nth_eq hj,e] at this;omega
def ZdV:Zp:=⟨[⟨1,true,[⟨true,1,0,0⟩,⟨false,2,0,0⟩]⟩,⟨2,true,[⟨true,2,0,0⟩,⟨false,1,0,0⟩]⟩],[⟨1,[2]⟩,⟨2,[1]⟩]⟩
theorem ZmU:Zab ZdV = [⟨1,2,3,1⟩,⟨2,1,3,2⟩]:=by decide +kernel
theorem Zdo:Za7 ZdV∧(wwC PT1 ZdV).length+(rdC PT1 ZdV).length≤100000:=⟨⟨⟨by decide,by decide⟩,by decide,by decide⟩,by decide +kernel⟩
theorem Zvo  : FnP prog 32 [] (.agg (Zu ZdV)):=by
 refine FnP.mk func32 Z ntmps32 Z fun B a w F V hfr G=>Ya ?_
 refine Zb G (qf (oH [.slice none 0 0,.slice none 0 0] 101) trivial qz qZ) V [0] [101,0] (fun _=>rfl) (fun _=>rfl) fun τ a w F G=>?_
 try dsimp only [RS.sub,SF.sub,CF.sub,csub,Anc.sub,List.map,zCF,Zu,rTx,ZG,ZT,Zm,rOp] at G
 generalize τ 0=v0 at G
 refine Za (Ya (rZ G (qf (oB [(0,_),(1,_)] [.bool false,.int .i64 0,.int .i64 0,.int .i64 0] [(0,1),(1,1),(2,1),(3,1)] (.one Z .cb Zdn kr (.one Z qi one_int kr .nil))) trivial qz (qf (oB [(1,_)] [.bool false,.int .i64 0,.int .i64 0,.int .i64 0] [(0,1),(1,1),(2,1),(3,1)] (.one Z qi one_int kr .nil)) trivial qz (qf (o_buildSliceE (sz:=4) (zs:=[.bool false,.int .i64 0,.int .i64 0,.int .i64 0]) (r:=[(0,.tmp 1),(1,.tmp 2)]) (l:=[_,_,_,_,_,_,_,_]) Yci kr kr kr kr Z Z (.agg Z .t kr kr (.agg Z .t kr kr .nil)) Z) r2 qz (qf (oB [(0,_),(1,_),(2,.tmp 3)] [.int .i64 0,.bool false,.slice none 0 0] [(0,1),(1,1),(2,1)] (.one Z qi one_int kr (.one Z .cb Zdn kr (.one Z .t Zep kr .nil)))) r1 qz (qf (oB [(0,_),(1,_)] [.bool false,.int .i64 0,.int .i64 0,.int .i64 0] [(0,1),(1,1),(2,1),(3,1)] (.one Z .cb Zdn kr (.one Z qi one_int kr .nil))) trivial qz (qf (oB [(1,_)] [.bool false,.int .i64 0,.int .i64 0,.int .i64 0] [(0,1),(1,1),(2,1),(3,1)] (.one Z qi one_int kr .nil)) trivial qz (qf (o_buildSliceE (sz:=4) (zs:=[.bool false,.int .i64 0,.int .i64 0,.int .i64 0]) (r:=[(0,.tmp 5),(1,.tmp 6)]) (l:=[_,_,_,_,_,_,_,_]) Yci kr kr kr kr Z Z (.agg Z .t kr kr (.agg Z .t kr kr .nil)) Z) r2 qz (qf (oB [(0,_),(1,_),(2,.tmp 7)] [.int .i64 0,.bool false,.slice none 0 0] [(0,1),(1,1),(2,1)] (.one Z qi one_int kr (.one Z .cb Zdn kr (.one Z .t Zep kr .nil)))) r1 qz (qf (o_buildSliceE (sz:=3) (zs:=[.int .i64 0,.bool false,.slice none 0 0]) (r:=[(0,.tmp 4),(1,.tmp 8)]) (l:=[_,_,_,_,_,_]) Ycg kr kr kr kr Z Z (.agg Z .t kr kr (.agg Z .t kr kr .nil)) Z) r2 qz (qf (o_buildSliceE (sz:=1) (zs:=[.int .i64 0]) (r:=[(0,_)]) (l:=[_]) Ycd kr kr kr kr Z Z (.one Z qi one_int kr .nil) Z) trivial qz (qf (oB [(0,_),(1,.tmp 10)] [.int .i64 0,.slice none 0 0] [(0,1),(1,1)] (.one Z qi one_int kr (.one Z .t Zep kr .nil))) r1 qz (qf (o_buildSliceE (sz:=1) (zs:=[.int .i64 0]) (r:=[(0,_)]) (l:=[_]) Ycd kr kr kr kr Z Z (.one Z qi one_int kr .nil) Z) trivial qz (qf (oB [(0,_),(1,.tmp 12)] [.int .i64 0,.slice none 0 0] [(0,1),(1,1)] (.one Z qi one_int kr (.one Z .t Zep kr .nil))) r1 qz (qf (o_buildSliceE (sz:=2) (zs:=[.int .i64 0,.slice none 0 0]) (r:=[(0,.tmp 11),(1,.tmp 13)]) (l:=[_,_,_,_]) Ycf kr kr kr kr Z Z (.agg Z .t kr kr (.agg Z .t kr kr .nil)) Z) r2 qz (qf (oB [(0,.tmp 9),(1,.tmp 14)] [.slice none 0 0,.slice none 0 0] [(0,1),(1,1)] (.one Z .t Zep kr (.one Z .t Zep kr .nil))) r2 qz (qs 2 101 r2 r1 qZ)))))))))))))))) V [0] [101,0] fun G=>Yh ?_))
 refine Z5 hfr G Z (.cl 101 true 2 Z Z .nil) (.one (.aggLe Z ⟨.arrSl (R:=rTx) (l':=[⟨1,true,[⟨true,1,0,0⟩,⟨false,2,0,0⟩]⟩,⟨2,true,[⟨true,2,0,0⟩,⟨false,1,0,0⟩]⟩]) Z ⟨.refl,.refl,.arrSl (R:=rOp) (l':=[⟨true,1,0,0⟩,⟨false,2,0,0⟩]) Z ZeE.refl,.refl,.refl,.arrSl (R:=rOp) (l':=[⟨true,2,0,0⟩,⟨false,1,0,0⟩]) Z ZeE.refl,tv⟩,.arrSl (R:=ZG) (l':=[⟨1,[2]⟩,⟨2,[1]⟩]) Z ⟨.refl,.arrSl (R:=Zm) (l':=[2]) Z ZeE.refl,.refl,.arrSl (R:=Zm) (l':=[1]) Z ZeE.refl,tv⟩,tv⟩))
section
variable {P:Program} {t t2 e ty:TypeId} {pos:String} {af:Array Edge} {g:Option (Nat×Bool)} {x y:Operand} {ps qs:List (Nat×SF)} {α:Type} {R:α→List PV} {l s:List α} {sz k d':Nat} {v:Value}
theorem ZfH (n:Nat) (hu:P.underlying t=some (.slice e)) (hs:(P.info? e).map (·.size)=some sz) (hR:∀ x,(R x).length=sz) (hx:Opd x ps (.pv (.is (ZiT sz k v)))) (hs0:s≠[]) (hk:k+s.length≤l.length)
  (hy:∀ (act:Act) (w:World) (F:Fp),Hps qs (Act.tau act) w (U F)→(RS.ob (.val v) (Zw e sz R l)).holds (Act.tau act) w (F n) (U F) → ∃ a sLen sCap svs,act.eval y = .slice (some a) sLen sCap∧min sLen (l.length - k)=s.length∧(∀ j u,svs[j]? = some u→w.cell? (a.add j)=some u)∧PVs (s.flatMap R) svs w (U F)) :
  OpC P ⟨some d',.call { callee:=.builtin .copy,args:=#[x,y],argTypes:=#[t,t2] },ty,pos,af,g⟩ ⟨ps++qs,[(n,.ob (.val v) (Zw e sz R l))],.pv (.int .i64 s.length),[(n,.ob (.val v) (Zw e sz R (l.take k++s++l.drop (k+s.length))))]⟩:=fun act w F K Q hw hp hr ht=>by
 obtain ⟨xs,r1,r2,r3⟩:=id (hr (n,.ob (.val v) (Zw e sz R l)) (by simp))
 have hy':=hy act w F hp.right (hr (n,.ob (.val v) (Zw e sz R l)) (by simp))
 simp only [Anc.v] at r1 r3
 have hxl:=r1.1
 have hsl0:0<s.length:=Yav.2 hs0
 rcases r1.2 with ⟨_,hn0⟩ | ⟨b,cap,cur,ev,_,hg,hnc,hcm,hcs,htake⟩
 ·omega
 ·have ex:act.eval x = .slice (some ⟨b,0+k*sz,none⟩) (l.length - k) (cap - k):=by rw [(hx act w (U F) hp.left).1,ev];rfl
  obtain ⟨sa,sl,sc,svs,es,hmin,hcells,hpv⟩:=hy'
  have hcl:svs.length=s.length*sz:=by rw [← hpv.len,Zmp hR]
  have hcur:cur.toList.length=cur.size:=by simp
  have hfit:k*sz+s.length*sz≤l.length*sz:=by rw [← Ybc];exact YP _ hk
  have hfit2:l.length*sz≤cur.size:=by rw [hcs];exact YP _ hnc
  have hf:∀ z,F n z ↔ z=b:=fun z=>by rw [r3 z,ev];simp [Value.ownBlock,Yaq]
  have hc:=ZdH (P:=P) (w:=w) (dT:=t) (sT:=t2) (ty:=ty) (g:=b) (o:=0+k*sz) (dLen:=l.length - k) (dCap:=cap - k) (n:=s.length) (a:=sa) (sLen:=sl) (sCap:=sc) hu hs hg hmin hcl hcells (by rw [hcl];omega) hpv.one
  rw [Y4] at hc ex
  have hrun:(execOp act.eval ⟨some d',.call { callee:=.builtin .copy,args:=#[x,y],argTypes:=#[t,t2] },ty,pos,af,g⟩).run P w = .ok (.value (goInt s.length)) (w.setRow b (cur.toList.take (k*sz)++svs++cur.toList.drop (k*sz+svs.length)).toArray):=by
   simp only [execOp,resolve,invoke,builtin,ex,es]
   simp [hc,resolve,invoke,builtin,ex,es]
  obtain ⟨g1,g2⟩:=Zbh hw hg hf (cur.toList.take (k*sz)++svs++cur.toList.drop (k*sz+svs.length)).toArray
  simp only [Oper.wp,hrun,Oper.upon]
  refine ht _ _ F g1 g2 ⟨rfl,by unfold maxLen at hcm;show IntKind.min .i64≤_∧_≤IntKind.max .i64;simp [IntKind.min,IntKind.max,IntKind.signed,IntKind.bits];omega⟩ ?_
  intro z' hz'
  simp only [Yk] at hz'
  subst hz'
  have hll:(l.take k++s++l.drop (k+s.length)).length=l.length:=by simp;omega
  have htk:=Zff (cur:=cur.toList) (us:=svs) (k:=k*sz) (sz:=s.length*sz) (N:=l.length*sz) hfit hcl (by rw [hcur];exact hfit2)
  rw [htake] at htk
  have hown:=ZhN (n:=l.length) (sz:=sz) (us:=cur.toList.take (k*sz)++svs++cur.toList.drop (k*sz+svs.length)) hg (by simp only [Yd,Yi,YE,hcur,hcl];omega) hnc hcm
  rw [htk] at hown
  refine ⟨xs.take (k*sz)++svs++xs.drop (k*sz+s.length*sz),by rw [hll];simp only [Anc.v];rw [ev];exact hown,?_,r3⟩
  rw [YV,YV,Zc3 hR,ZhC hR,Ybc]
  have hp1:=PVs.mono g2.ev r2
  exact ((hp1.take _).append (PVs.mono g2.ev hpv)).append (hp1.drop _)
theorem ZkR (n:Nat) (hu:P.underlying t=some (.slice e)) (hs:(P.info? e).map (·.size)=some sz) (hR:∀ x,(R x).length=sz) (hx:Opd x ps (.pv (.is v))) (hy:Opd y qs (.pv (.sl R s))) (hs0:s≠[]) (hk:s.length≤l.length) :
  OpC P ⟨some d',.call { callee:=.builtin .copy,args:=#[x,y],argTypes:=#[t,t2] },ty,pos,af,g⟩ ⟨ps++qs,[(n,.ob (.val v) (Zw e sz R l))],.pv (.int .i64 s.length),[(n,.ob (.val v) (Zw e sz R (s++l.drop s.length)))]⟩:=fun act w F K Q hw hp hr ht=>by
 have hv:ZiT sz 0 v=v:=by
  obtain ⟨xs,r1,_,_⟩:=hr (n,.ob (.val v) (Zw e sz R l)) (by simp)
  have hsl0:0<s.length:=Yav.2 hs0
  rcases r1.2 with ⟨_,hn0⟩ | ⟨b,cap,cur,ev,_⟩
  ·omega
  ·simp only [Anc.v] at ev
   rw [ev];simp [ZiT]
 have h:=ZfH (P:=P) (t:=t) (t2:=t2) (ty:=ty) (pos:=pos) (af:=af) (g:=g) (x:=x) (y:=y) (ps:=ps) (qs:=qs) (R:=R) (s:=s) (l:=l) (v:=v) (k:=0) (d':=d') n hu hs hR (by rw [hv];exact hx) hs0 ow (fun act w F hp _=>by
  obtain ⟨sa,sc,es,hsc,hscm,hsv⟩:=hy act w (U F) hp
  obtain ⟨sb,soff,svs,rfl,hny,hsb,hcells,hpv⟩:=hsv.resolve_left hs0
  exact ⟨_,_,_,svs,es,by omega,Zoy hcells,hpv⟩)
 rw [List.take_zero,Yaw,Y4] at h
 exact h act w F K Q hw hp hr ht
theorem ZkI {kx ky:Nat} (n:Nat) (hu:P.underlying t=some (.slice e)) (hs:(P.info? e).map (·.size)=some sz) (hR:∀ x,(R x).length=sz) (hx:Opd x ps (.pv (.is (ZiT sz kx v)))) (hy:Opd y qs (.pv (.is (Zsy ky v)))) (hkx:kx=k) (hky:ky=k) (h0:0<k) (hk:k<l.length) :
  OpC P ⟨some d',.call { callee:=.builtin .copy,args:=#[x,y],argTypes:=#[t,t2] },ty,pos,af,g⟩ ⟨ps++qs,[(n,.ob (.val v) (Zw e sz R l))],.pv (.int .i64 (l.take (min k (l.length - k))).length),[(n,.ob (.val v) (Zw e sz R (l.take k++l.take (min k (l.length - k))++l.drop (k+(l.take (min k (l.length - k))).length))))]⟩:=by
 subst hkx;subst hky
 have hlen:(l.take (min ky (l.length - ky))).length=min ky (l.length - ky):=by rw [Yi];omega
 refine ZfH n hu hs hR hx (fun e=>by rw [← List.length_eq_zero_iff,hlen] at e;omega) (by rw [hlen];omega) fun act w F hp hr=>?_
 obtain ⟨xs,r1,r2,r3⟩:=hr
 simp only [Anc.v] at r1 r3
 have hxl:=r1.1
 have hsh:=ZO r1
 obtain ⟨ad,cap,ev,_,_,hq⟩:=hsh
 obtain ⟨b,rfl,_,hcells⟩:=hq.resolve_left ow
 have hle:min ky (l.length - ky)*sz≤l.length*sz:=YP _ ow
 refine ⟨⟨b,0,none⟩,ky,cap,xs.take (min ky (l.length - ky)*sz),by rw [(hy act w (U F) hp).1,ev];rfl,by rw [hlen],fun j u hj=>?_,?_⟩
 ·rw [Ybb] at hj
  split at hj
  ·exact Zoy hcells j u hj
  ·cases hj
 ·rw [Zc3 hR];exact r2.take _
end
def ZbN (n k:Nat):List Int:=List.replicate k (-1)++List.replicate (n - k) 0
theorem ZiR {n k:Nat} (h:k≤n):(ZbN n k).length=n:=by unfold ZbN;rw [Yd,YU,YU];omega
theorem Zkn {n:Nat} (h:1≤n):[(-1:Int)] ++ (List.replicate n (0:Int)).drop [(-1:Int)].length=ZbN n 1:=by unfold ZbN;rw [List.drop_replicate];rfl
theorem Zg3 {n k:Nat} (h:k<n):(ZbN n k).take k++(ZbN n k).take (min k ((ZbN n k).length - k))++(ZbN n k).drop (k+((ZbN n k).take (min k ((ZbN n k).length - k))).length)=ZbN n (k+min k (n - k))∧((ZbN n k).take (min k ((ZbN n k).length - k))).length=min k (n - k):=by
 have hl:=ZiR (Nat.le_of_lt h)
 have hlen:((ZbN n k).take (min k (n - k))).length=min k (n - k):=by rw [Yi,hl];omega
 rw [hl,hlen]
 refine ⟨?_,rfl⟩
 have t1:∀ j,j≤k→(ZbN n k).take j=List.replicate j (-1):=fun j hj=>by
  unfold ZbN
  rw [YY (by rw [YU];exact hj),List.take_replicate,YaZ hj]
 have d1:∀ j,(ZbN n k).drop (k+j)=List.replicate (n - k - j) 0:=fun j=>by
  unfold ZbN
  rw [List.drop_append,Ya4 (by rw [YU];omega),YU,List.drop_replicate,Yaw]
  congr 1;omega
 rw [t1 k (YL _),t1 _ ow,d1]
 unfold ZbN
 rw [List.replicate_append_replicate]
 congr 2;omega
theorem Zoj {n k:Nat} (h:n≤k) (h2:k≤n):ZbN n k=List.replicate n (-1):=by
 have:k=n:=by omega
 subst this
 unfold ZbN;simp
theorem Zu9 (x y:Int):FnP prog 247 [.int .u64 x,.int .u64 y] (.tup [.int .u64 (x*y / 18446744073709551616),.int .u64 (x*y % 18446744073709551616)]):=by
 refine FnP.mk func247 Z ntmps247 Z fun B a w F V hfr G=>Ya ?_
 refine rZ G (qI (qI qZ)) V [5,4,1,0] [0] fun G=>Ya ?_
 refine wp_cond (by rfl) ?_
 refine Ye (Za (Ya (rZ G (qR rr (qR rr (qf (oP (ZuN x y) func255 (Args.two .t .t)) r2 qz (qR rr (qf (o_extract .t Z) r1 qz (qf (o_extract .t Z) r1 qz (qO rr (qO rr qZ)))))))) V [9,8,5,4] [0] fun G=>Ya ?_)))
 refine rZ G (qR rr (qR rr (qO rr (qO rr qZ)))) V [5,4] [0] fun G=>Yh ?_
 refine Z5 hfr G Z (.tmp Z (.tmp Z .nil)) (.two .refl .refl)
theorem ZrS (n:Nat) (hn1:1≤n) (hn2:n≤1000000):FnG prog 227 1 [.sl Zm [-1],.int .i64 (n:Int)] [.star []] (PV.one) (fun v=>[Zw 3 1 Zm (List.replicate n (-1)) v]):=by
 refine FnG.mk func227 Z ntmps227 Z kr fun B F0 a w F V hG G=>?_
 have hu1:IntKind.wrap .u64 ((([(-1)]:List Int).length:Nat):Int)=1:=Zam (by decide)
 have hu2:IntKind.wrap .u64 (n:Int)=n:=Zam ow
 have hw:IntKind.wrap .i64 (n:Int)=n:=Zy ow
 have hm:(1:Int)*(n:Int) / 18446744073709551616=0∧(1:Int)*(n:Int) % 18446744073709551616=(n:Int):=by omega
 obtain ⟨F,G⟩:=G.nM [1,0] [0]
 refine Ya (rZ G (qC qZ) V [4,1,0] [0] fun G=>(Ya (Ya ?_)))
 refine rZ G (qR rr (qf (ZaD .t qi) r1 qz qZ)) V [10,4,1,0] [0] fun G=>?_
 refine Zc G Z (fun hc0=>?_) (fun hc0=>?_)
 ·have:=Yr hc0;omega
 refine Ye (Za (Ya (Ze G (qR rr (qu Ycd r1 (qf (o_conv Yck kr .t) r1 qz (qR rr (qf (o_conv Yck kr .t) r1 qz (qf (oP (Zu9 _ _) func247 (Args.two .t .t)) r2 qz (qR rr (qf (o_extract .t Z) r1 qz (qf (o_extract .t Z) r1 qz (qO rr (qO rr qZ))))))))))) V [6,5,4,0] [0] Z Z fun a w F G=>?_)))
 rw [hu1,hu2,hm.1,hm.2] at G
 refine Za (Ya (Ya (rZ G (qR rr (qf (ZaG .t qi) r1 qz (qR rr (qm Z Z Z Z (qk Z (fun h=>ZaG (.w h) qi) r2 qz (qf (Zal .t .t) r2 qz qZ)))))) V [26,6,4,0] [0] fun G=>?_)))
 refine Zc G Z (fun hc1=>?_) (fun hc1=>?_)
 ·simp at hc1;omega
 refine Ye (Za (Ya (Zb G (qR rr (qf (o_conv Ycl kr .t) r1 qz (qf (ZaI (R:=Zm) (v:=0) (c:=(IntKind.wrap .i64 (n:Int))) (sz:=1) (bs:=8) (zs:=[.int .i64 0]) 101 Ycd kr kr kr (fun _ _=>⟨⟨rfl,rfl,ZcS⟩,tv⟩) .t .t (by rw [hw];omega) (by rw [hw];omega) (by rw [hw];omega)) r2 qz (qO rr qZ)))) V [7,4,0] [101,0] (fun _=>rfl) (fun _=>rfl) fun τ a w F G=>?_)))
 try dsimp only [RS.sub,SF.sub,CF.sub,csub,Anc.sub,List.map,Zf,xL,xM,Nat.reduceAdd,xD,xE,xT,xU,xC,xN,zCF,Zau,Zav,Zm,Zan] at G
 generalize τ 30=v30 at G
 rw [hw,Yb] at G
 refine Za (Ya (Ze G (qR rr (qR rr (qf (ZkR 101 Ycd kr (by intro x;rfl) .t .t (by simp) (by rw [YU];exact hn1)) r2 r1 (qO rr qZ)))) V [8,7,4] [101,0] Z Z fun a w F G=>?_))
 rw [Zkn hn1] at G
 refine Za (Ya (Yg ?_))
 replace G:=G.ent (i:=8) (s':=.pv (.int .i64 ((1:Nat):Int))) Z (.int Z)
 refine Zj (σ:=Nat) [4,7] [0] (fun s=>[(8,.pv (.int .i64 (s:Int)))]) (fun s=>[(101,.ob (.val v30) (Zw 3 1 Zm (ZbN n s)))]) (fun s=>1≤s∧s≤n) (fun s=>n - s) (1) G ⟨rfl,rfl,rfl,tv⟩ ⟨rfl,rfl,tv⟩ ⟨YL 1,hn1⟩ ?_
 clear G;intro k a w F hC G
 try dsimp only at hC
 obtain ⟨F,G⟩:=G.nM [8,7,4] [101,0]
 try dsimp only at G
 obtain ⟨hk1,hk2⟩:=hC
 have hfl:=ZiR hk2
 refine Ya (Ya (rZ G (qR rr (qR rr (qf (ZX 101 Ycd .is) r1 r1 (qL r2)))) V [37,8,7,4] [101,0] fun G=>?_))
 refine Zc G Z (fun hc2=>?_) (fun hc2=>?_)
 ·have hkn:k<n:=by have h9:=Yr hc2;rw [hfl] at h9;omega
  refine Ye (Za (Yg (Zv G (qR rr (qR rr (qR rr (qf (Z6 (sz:=1) 101 (.mk Ycd kr) .is .t ow (by rw [hfl];omega)) r2 r1 (qR rr (qR rr (qf (Zdg (sz:=1) 101 (.mk Ycd kr) .is .t ow (by rw [hfl];omega)) r2 r1 (qf (ZkI 101 Ycd kr (by intro x;rfl) .t .t Z Z ow (by rw [hfl];exact hkn)) r2 r1 (qf (o_add .t .t) r2 qz (qO rr qZ)))))))))) V [8,7,4] [101,0] Z Z fun a w F G=>?_)))
  try dsimp only [Zau,Zav,Zm,Zan] at G
  simp only [Yb] at G
  rw [(Zg3 hkn).1] at G
  refine Zh (Za ?_)
  replace G:=G.ent (i:=8) (s':=.pv (.int .i64 ((k+min k (n - k):Nat):Int))) Z (.int (by rw [(Zg3 hkn).2,Zy ow];omega))
  obtain ⟨F,G⟩:=G.nM [7,4,8] [0,101]
  exact ⟨(k+min k (n - k)),F,⟨by omega,by omega⟩,G,by omega⟩
 have hkn:n≤k:=by have h9:=YH hc2;rw [hfl] at h9;omega
 rw [Zoj hkn hk2] at G
 have hg:(List.replicate n (-1):List Int)=List.replicate n (-1):=rfl
 refine Yx (Zi (Zi (Zn (Za (Ya (rZ G (qR rr (qO rr qZ)) V [4] [101,0] fun G=>Yh ?_))))))
 obtain ⟨F,G⟩:=G.rename 101 1 Z rfl
 have G:=G.turn 1 Z (r':=RS.hp (Zw 3 1 Zm (List.replicate n (-1)) v30)) (fun _ _ _ _ h=>by rw [hg];exact h)
 refine Z2 (h':=fun v=>Zw 3 1 Zm (List.replicate n (-1)) v) hG G Z (.tmp Z .nil) (.one .one) rfl
theorem Zn4 (O I:List (List Z9)) (m:Nat) (mask least:Int) (hn1:1≤O.length) (hn2:O.length≤1000000):FnG prog 204 1 [.agg [ZeJ O I m,.int .i64 mask,.int .i64 least]] [.star []] (PV.one) (fun v=>[Zw 3 1 Zm (List.replicate O.length (-1)) v]):=by
 refine FnG.mk func204 Z ntmps204 Z kr fun B F0 a w F V hG G=>?_
 have hg:(List.replicate O.length (-1):List Int)=List.replicate O.length (-1):=rfl
 obtain ⟨F,G⟩:=G.nM [0] [0]
 refine Ya (Zb G (qx 101 r1 (qC qZ)) V [2,1] [101,0] (fun _=>rfl) (fun _=>rfl) fun τ a w F G=>?_)
 try dsimp only [RS.sub,SF.sub,CF.sub,csub,Anc.sub,List.map,zCF,Zau,Zav,Zm,Zan] at G
 generalize τ 1=v1 at G
 refine Za (Ya ?_)
 replace G:=G.fresh 102 rfl
 refine Zb G (qf (o_buildSliceE (sz:=1) (zs:=[.int .i64 0]) (r:=[(0,_)]) (l:=[_]) Ycd kr kr kr kr Z Z (.one Z qi one_int kr .nil) Z) trivial qz (qg 0 101 r1 r1 (qa 101 r1 r1 (qf (oP (Zch O I m) func158 (Args.one .t)) r1 qz (qf (Zaq 102 (ZrS O.length hn1 hn2) func227 Z kr (Args.two (.conv .t (Ent.arrSl (R:=Zm) (l:=[-1]) Z)) .t) pvOne1) r2 r1 (qO rr qZ)))))) V [2] [102,101,0] (fun _=>rfl) (fun _=>rfl) fun τ a w F G=>?_
 try dsimp only [RS.sub,SF.sub,CF.sub,csub,Anc.sub,List.map,Zf,xL,xM,Nat.reduceAdd,xD,xE,xT,xU,xC,xN,zCF,ldSF,Zau,Zav,Zm,Zan] at G
 generalize τ 7=v7 at G
 refine Za (Yh ?_)
 obtain ⟨F,G⟩:=G.rename 102 1 Z rfl
 have G:=G.turn 1 Z (r':=RS.hp (Zw 3 1 Zm (List.replicate O.length (-1)) v7)) (fun _ _ _ _ h=>by rw [hg];exact h)
 refine Z2 (h':=fun v=>Zw 3 1 Zm (List.replicate O.length (-1)) v) hG G Z (.tmp Z .nil) (.one .one) rfl
theorem Zqm (O I:List (List Z9)) (m:Nat) (mask least u:Int):FnP prog 205 [.agg [ZeJ O I m,.int .i64 mask,.int .i64 least],.int .i64 u] (.bool (decide (least≤u∧0≤u∧u<O.length))):=by
 refine FnP.mk func205 Z ntmps205 Z fun B a w F V hfr G=>Ya ?_
 refine Zb G (qx 101 r1 qB) V [4,2,1] [101,0] (fun _=>rfl) (fun _=>rfl) fun τ a w F G=>?_
 try dsimp only [RS.sub,SF.sub,CF.sub,csub,Anc.sub,List.map,zCF,Zau,Zav,Zm,Zan] at G
 generalize τ 2=v2 at G
 refine Za (Ya (rZ G (qR rr (qg 2 101 r1 r1 (qa 101 r1 r1 (qf (Zoz .t qi) r1 qz (qf (Zbq .t .t) r2 qz (qR rr (qm Z Z Z Z (qv 0 101 Z r2 r1 (qw 101 Z r2 r1 (qk Z (fun h=>oP (Zch O I m) func158 (Args.one (.w h))) r2 qz (qk Z (fun h=>ZaD (.w h) (.w h)) r3 qz (qf (ZD .t .t) r2 qz (qO rr qZ))))))))))))) V [4] [0] fun G=>Yh ?_))
 refine Zs hfr G Z Z Z (.bool (by rw [Yai];simp;split <;> omega))
section
variable {P:Program} {t t2 e ty:TypeId} {pos:String} {af:Array Edge} {g:Option (Nat×Bool)} {x y:Operand} {ps qs:List (Nat×SF)} {α:Type} {R:α→List PV} {l s:List α} {sz:Nat} {v:Value}
theorem Znu {d':Nat} (n:Nat) (hu:P.underlying t=some (.slice e)) (hs:(P.info? e).map (·.size)=some sz) (hR:∀ x,(R x).length=sz) (hx:Opd x ps (.pv (.is v))) (hy:Opd y qs (.pv (.sl R s))) (hk:s.length≤l.length) :
  OpC P ⟨some d',.call { callee:=.builtin .copy,args:=#[x,y],argTypes:=#[t,t2] },ty,pos,af,g⟩ ⟨ps++qs,[(n,.ob (.val v) (Zw e sz R l))],.pv .any,[(n,.ob (.val v) (Zw e sz R (s++l.drop s.length)))]⟩:=fun act w F K Q hw hp hr ht=>by
 obtain ⟨xs,r1,r2,r3⟩:=id (hr (n,.ob (.val v) (Zw e sz R l)) (by simp))
 obtain ⟨ad,cap,ev,_,_,_⟩:=ZO r1
 simp only [Anc.v] at ev
 by_cases hs0:s = []
 ·subst hs0
  obtain ⟨sa,sc,es,_,_,_⟩:=hy act w (U F) hp.right
  have ex:act.eval x = .slice ad l.length cap:=by rw [(hx act w (U F) hp.left).1,ev]
  have hrun:(execOp act.eval ⟨some d',.call { callee:=.builtin .copy,args:=#[x,y],argTypes:=#[t,t2] },ty,pos,af,g⟩).run P w = .ok (.value (goInt 0)) w:=by
   cases ad <;> cases sa <;> simp [execOp,resolve,invoke,builtin,ex,es,Builtin.copy_,Ym hu,Builtin.lenOf,Builtin.firstCells,Go.Gm.run_sizeOf hs,goInt,storeCells,loadCells,loadCellsFrom]
  simp only [Oper.wp,hrun,Oper.upon]
  refine ht _ _ F hw ⟨rfl,rfl,rfl,YL _,fun _ _ _=>rfl,fun _ _=>rfl,fun n hn b hb=>.inl ⟨n,hn,hb⟩⟩ trivial ?_
  intro z' hz'
  simp only [Yk] at hz'
  subst hz'
  exact hr (n,.ob (.val v) (Zw e sz R l)) (by simp)
 ·have hsl0:0<s.length:=Yav.2 hs0
  have hv:ZiT sz 0 v=v:=by
   rcases r1.2 with ⟨_,hn0⟩ | ⟨b,cap,cur,ev,_⟩
   ·omega
   ·simp only [Anc.v] at ev
    rw [ev];simp [ZiT]
  have h:=o_copy_sub (P:=P) (t2:=t2) (ty:=ty) (pos:=pos) (af:=af) (g:=g) (s:=s) (l:=l) (v:=v) (k:=0) (d':=d') n hu hs hR (by rw [hv];exact hx) hy hs0 ow
  rw [List.take_zero,Yaw,Y4] at h
  exact h act w F K Q hw hp hr ht
end
theorem ZmO (x m:Nat) (hx:x<18446744073709551616) (hm:m<18446744073709551616):bits .and .u64 (x:Int) (m:Int)=((x &&& m:Nat):Int):=by
 have h1:(BitVec.ofInt 64 (x:Int)).toNat=x:=by rw [YaF];omega
 have h2:(BitVec.ofInt 64 (m:Int)).toNat=m:=by rw [YaF];omega
 show IntKind.wrap .u64 (((BitVec.ofInt 64 (x:Int) &&& BitVec.ofInt 64 (m:Int)).toNat:Nat):Int)=_
 rw [Ybq,h1,h2]
 exact Zam (by have:=Nat.and_lt_two_pow (n:=64) x (y:=m) ow;omega)
theorem ZtR {n:Nat} (h:n≤65536):IntKind.wrap .i64 ((n:Int)*2 ^ min (1:Int).toNat (IntKind.bits .i64))=((2*n:Nat):Int):=by
 have:min (1:Int).toNat (IntKind.bits .i64)=1:=by decide
 rw [this,Zy ow];omega
def growN (n:Nat):Nat:=if n=0 then 1 else 2*n
theorem Zh6 {n:Nat} (h:n≤65536):(if (1:Int)<IntKind.wrap .i64 ((n:Int)*2 ^ min (1:Int).toNat (IntKind.bits .i64)) then IntKind.wrap .i64 ((n:Int)*2 ^ min (1:Int).toNat (IntKind.bits .i64)) else 1)=((growN n:Nat):Int):=by
 rw [ZtR h]
 unfold growN
 split <;> split <;> omega
theorem ZrH {n:Nat} (h:n≤65536) (hp:n=0 ∨ ∃ k,k≤17∧n=2 ^ k):∃ k,k≤17∧growN n=2 ^ k:=by
 unfold growN
 rcases hp with rfl | ⟨k,hk,rfl⟩
 ·exact ⟨0,by decide,rfl⟩
 ·have h0:2 ^ k≠0:=by simp
  rw [Yc h0]
  refine ⟨k+1,?_,by rw [Nat.pow_succ];omega⟩
  refine Y7 (Nat.lt_of_not_le fun h2=>?_)
  have:2 ^ 17≤2 ^ k:=Nat.pow_le_pow_right (by decide) ow
  omega
structure ZgI (room:Int) (c:List Int) (f:Nat) (l:List Int):Prop where
 r0:0≤room
 r1:room≤65536
 fits:(l.length:Int)≤room
 le:l.length≤c.length
 pow:(c.length=0∧f=0)∨(f<c.length ∧ ∃ k,k≤17∧c.length=2 ^ k)
 cells:∀ j,j<l.length→Nn c ((f+j) % c.length)=Nn l j
theorem ZtT {n f j k:Nat} (h1:j<k) (h2:k<n):(f+j) % n≠(f+k) % n:=by
 intro e
 have h:=Nat.sub_mod_eq_zero_of_mod_eq e.symm
 rw [show f+k - (f+j)=k - j by omega,Nat.mod_eq_of_lt ow] at h
 omega
theorem ZgI.new {n:Int} (h:0≤n∧n≤65536):ZgI n [] 0 []:=⟨h.1,h.2,h.1,YL _,.inl ⟨rfl,rfl⟩,fun j hj=>absurd hj (Y3 j)⟩
theorem Zrn {l:List Int} {x:Int} {j:Nat} : Nn (l ++ [x]) j=if j<l.length then Nn l j else if j=l.length then x else default:=by
 by_cases h:j<l.length
 ·rw [Yf h,nth_eq (by simp;omega),nth_eq h,List.getElem_append_left h]
 ·rw [Yc h]
  by_cases e:j=l.length
  ·subst e;rw [Yf rfl,nth_eq (by simp)];simp
  ·rw [Yc e];unfold Nn;simp [YaH,show l.length+1≤j by omega]
theorem ZgI.put {room:Int} {c:List Int} {f:Nat} {l:List Int} {x:Int} (h:ZgI room c f l) (hl:(l.length:Int)<room) (hc:l.length<c.length):ZgI room (c.set ((f+l.length) % c.length) x) f (l ++ [x]):=by
 obtain ⟨h0,h1,h2,h3,h4,h5⟩:=h
 have hm:∀ j,(f+j) % c.length<c.length:=fun j=>Ybp _ ow
 refine ⟨h0,h1,by simp;omega,by simp;omega,?_,fun j hj=>?_⟩
 ·rcases h4 with h4 | ⟨h4,k,h6,h7⟩
  ·omega
  ·exact .inr ⟨by simpa using h4,k,h6,by simpa using h7⟩
 ·rw [Yd,YM] at hj
  rw [YJ,ZcB (hm _),Zrn]
  by_cases e:j=l.length
  ·subst e;rw [Yf rfl,Yc (Nat.lt_irrefl _),Yf rfl]
  ·rw [Yc fun k=>ZtT (show j<l.length by omega) hc k,Yf ow]
   exact h5 j ow
theorem ZgI.tail {room:Int} {c:List Int} {f:Nat} {x:Int} {l:List Int} (h:ZgI room c f (x :: l)):ZgI room c ((f+1) % c.length) l:=by
 obtain ⟨h0,h1,h2,h3,h4,h5⟩:=h
 rw [Yl] at h2 h3 h5
 have hc:0<c.length:=by omega
 have e:∀ j,j<l.length→Nn (x :: l) (j+1)=Nn l j:=fun j hj=>by rw [nth_eq (by simpa using hj),nth_eq hj];rfl
 refine ⟨h0,h1,by omega,by omega,?_,fun j hj=>?_⟩
 ·rcases h4 with h4 | ⟨h4,k⟩
  ·omega
  ·exact .inr ⟨Ybp _ hc,k⟩
 ·rw [Nat.mod_add_mod,← e j hj,← h5 (j+1) ow]
  congr 2;omega
theorem ZgI.first {room:Int} {c:List Int} {f:Nat} {x:Int} {l:List Int} (h:ZgI room c f (x :: l)):Nn c ((f+0) % c.length)=x:=by
 rw [h.cells 0 (by simp),nth_eq (by simp)];rfl
theorem ZgI.grow {room:Int} {l d:List Int} (h0:0≤room) (h1:room≤65536) (h2:(l.length:Int)≤room) (h3:l.length≤d.length) (ht:d.take l.length=l) (hp:∃ k,k≤17∧d.length=2 ^ k):ZgI room d 0 l:=by
 have hd:0<d.length:=by obtain ⟨k,_,e⟩:=hp;rw [e];exact Nat.pos_of_ne_zero (by simp)
 refine ⟨h0,h1,h2,h3,.inr ⟨hd,hp⟩,fun j hj=>?_⟩
 rw [Y4,Nat.mod_eq_of_lt ow]
 have e:(d.take l.length)[j]? = l[j]?:=by rw [ht]
 rw [YbA hj,Yax hj] at e
 obtain ⟨h2,e2⟩:=YK.1 e
 rw [nth_eq h2,nth_eq hj,e2]
theorem ZgI.ring {room:Int} {c:List Int} {f:Nat} {l:List Int} (h:ZgI room c f l) (hc:0<c.length):(∃ k,k≤17∧c.length=2 ^ k)∧f<c.length:=by
 rcases h.pow with ⟨h1,_⟩ | ⟨h1,h2⟩
 ·omega
 ·exact ⟨h2,h1⟩
theorem ZgI.pow0 {room:Int} {c:List Int} {f:Nat} {l:List Int} (h:ZgI room c f l):c.length=0 ∨ ∃ k,k≤17∧c.length=2 ^ k:=by
 rcases h.pow with ⟨h1,_⟩ | ⟨_,h2⟩
 ·exact .inl h1
 ·exact .inr h2
def Zwq (v rv:Value) (room:Int) (n f:Nat) (c:List Int):List RS:=[.pt (.val v) 303 [.pv (.int .i64 room),.pv (.is rv),.pv (.int .u64 (f:Int)),.pv (.int .i64 (n:Int))],.ob (.val rv) (Zw 3 1 Zm c)]
def rqH (v:Value) (room:Int) (l:List Int):HP:=.ex fun rv:Value=>.ex fun c:List Int=>.ex fun f:Nat=>.and (ZgI room c f l) (.star (Zwq v rv room l.length f c))
theorem ZpW {v:Value} {room:Int} {l:List Int} {w:World} {f y:Ys} (h:(rqH v room l).p w f y):∃ b,v = .pointer (some ⟨b,0,none⟩):=by
 obtain ⟨rv,c,f,_,g⟩:=h
 exact HP.star_pt g
theorem Zuc {f i n:Nat} {z:Int} (hz:z=i) (hp:∃ k,k≤17∧n=2 ^ k) (hf:f<n) (hi:i≤n):bits .and .u64 (IntKind.wrap .u64 ((f:Int)+IntKind.wrap .u64 z)) (IntKind.wrap .u64 (IntKind.wrap .i64 ((n:Int) - 1)))=(((f+i) % n:Nat):Int):=by
 subst hz
 obtain ⟨k,hk,rfl⟩:=hp
 have h17:2 ^ k≤2 ^ 17:=Nat.pow_le_pow_right (by decide) hk
 have h0:0<2 ^ k:=Nat.pos_of_ne_zero (by simp)
 have e1:IntKind.wrap .u64 ((f:Int)+IntKind.wrap .u64 (i:Int))=((f+i:Nat):Int):=by rw [Zam (x:=(i:Int)) ow,Zam ow];omega
 have e2:IntKind.wrap .u64 (IntKind.wrap .i64 (((2 ^ k:Nat):Int) - 1))=((2 ^ k - 1:Nat):Int):=by rw [Zy ow,Zam ow];omega
 rw [e1,e2,ZmO _ _ ow ow,YaR]
theorem ZcX (c:List Int) (room:Int) (n f i:Nat) (z:Int) (hz:z=i) (hp:∃ k,k≤17∧c.length=2 ^ k) (hf:f<c.length) (hi:i≤c.length):FnP prog 230 [.ref [.int .i64 room,.sl Zm c,.int .u64 (f:Int),.int .i64 (n:Int)],.int .i64 z] (.int .u64 (((f+i) % c.length:Nat):Int)):=by
 refine FnP.mk func230 Z ntmps230 Z fun B a w F V hfr G=>Ya ?_
 refine rZ G (qI qZ) V [4,1,0] [0] fun G=>Ya ?_
 refine Zv G (qR rr (qf (ZC .t) r1 qz (qf (oG 2 .t) r1 qz (qf (oR false 1 .t) r1 qz (qR rr (qf (o_conv Yck kr .t) r1 qz (qf (o_add .t .t) r2 qz (qR rr (qf (ZC .t) r1 qz (qf (oG 1 .t) r1 qz (qf (oR false 1 .t) r1 qz (qu Ycd r1 (qf (o_sub .t qi) r1 qz (qf (o_conv Yck kr .t) r1 qz (qf (o_and .t .t) r2 qz (qO rr qZ)))))))))))))))) V [4] [0] Z Z fun a w F G=>?_
 try dsimp only [List.map,xD,xE,xT,xU,ldSF,Zm] at G
 refine Za (Yh (Zs hfr G Z Z Z (.int (Zuc hz hp hf hi))))
theorem ZkF (room n:Int) (p q:PV):FnP prog 248 [.ref [.int .i64 room,p,q,.int .i64 n]] (.int .i64 n):=by
 refine FnP.mk func248 Z ntmps248 Z fun B a w F V hfr G=>Ya ?_
 refine rZ G (qI qZ) V [2,0] [0] fun G=>(Ya (Ya ?_))
 refine rZ G (qR rr (qf (Zcc underlying283 .t) r1 qz qZ)) V [4,2,0] [0] fun G=>?_
 refine Zc G Z (fun hc0=>?_) (fun hc0=>?_)
 ·simp at hc0
 refine Ye (Za (Ya (rZ G (qR rr (qf (ZC .t) r1 qz (qf (oG 3 .t) r1 qz (qf (oR false 1 .t) r1 qz (qO rr qZ))))) V [2] [0] fun G=>Yh ?_)))
 refine Zs hfr G Z Z Z .refl
theorem ZqM (room n:Int) (p q:PV) (hr:0≤room∧room≤65536) (hn:0≤n∧n≤65536):FnP prog 228 [.ref [.int .i64 room,p,q,.int .i64 n]] (.int .i64 (room - n)):=by
 refine FnP.mk func228 Z ntmps228 Z fun B a w F V hfr G=>Ya ?_
 refine rZ G (qI qZ) V [2,0] [0] fun G=>(Ya (Ya ?_))
 refine rZ G (qR rr (qf (Zcc underlying283 .t) r1 qz qZ)) V [4,2,0] [0] fun G=>?_
 refine Zc G Z (fun hc0=>?_) (fun hc0=>?_)
 ·simp at hc0
 refine Ye (Za (Ya (Zv G (qR rr (qf (ZC .t) r1 qz (qf (oG 0 .t) r1 qz (qf (oR false 1 .t) r1 qz (qR rr (qf (ZC .t) r1 qz (qf (oG 3 .t) r1 qz (qf (oR false 1 .t) r1 qz (qf (o_sub .t .t) r2 qz (qO rr qZ)))))))))) V [2] [0] Z Z fun a w F G=>?_)))
 try dsimp only [List.map,xD,xE,xT,xU,ldSF,Zm] at G
 refine Za (Yh (Zs hfr G Z Z Z (.int (Zy ow))))
theorem Zsb (b:Nat) (room:Int) (l:List Int):FnG prog 229 1 [.is (.pointer (some ⟨b,0,none⟩))] [rqH (.pointer (some ⟨b,0,none⟩)) room l] (.sl Zm l) (fun _=>[rqH (.pointer (some ⟨b,0,none⟩)) room l]):=by
 refine FnG.mk func229 Z ntmps229 Z kr fun B F0 a w F V hG G=>?_
 obtain ⟨rv,G⟩:=G.open_ex 1 rfl
 obtain ⟨c,G⟩:=G.open_ex 1 rfl
 obtain ⟨f,G⟩:=G.open_ex 1 rfl
 obtain ⟨hI,G⟩:=G.open_and 1 rfl
 obtain ⟨F,G⟩:=G.peel 1 2 Z rfl
 obtain ⟨F,G⟩:=G.peel 1 3 Z rfl
 have hle:=hI.le
 have hfit:=hI.fits
 have hr0:=hI.r0
 have hr1:=hI.r1
 obtain ⟨F,G⟩:=G.nM [0] [3,2,0]
 refine Ya (rZ G (qC qZ) V [2,0] [3,2,0] fun G=>Ya ?_)
 refine rZ G (qC qZ) V [3,2,0] [3,2,0] fun G=>(Ya (Ya ?_))
 refine rZ G (qR rr (qf (Zib (cells:=[.pv _,.pv _,.pv _,.pv _]) 2 (ZkF room l.length _ _) (fun _ _ _ _ _ h=>h) Z func248 Z kr (Zaf.one .is)) r1 r1 (qJ qZ))) V [7,6,3,2,0] [3,2,0] fun G=>Yg ?_
 replace G:=G.fresh 50 rfl
 replace G:=G.turn 50 Z (ZaA (T:=3) (sz:=1) (R:=Zm))
 refine Zj (σ:=(Nat)×(Value)×(List Int)) [0,2,6] [0,2,3] (fun s=>[(7,.pv (.int .i64 (s.1:Int))),(3,.pv (.is s.2.1))]) (fun s=>[(50,.ob (.val s.2.1) (Zw 3 1 Zm s.2.2))]) (fun s=>s.1≤l.length∧(s.2.2=l.take s.1)) (fun s=>l.length - s.1) ((0),(.slice none 0 0),([])) G ⟨rfl,rfl,rfl,rfl,rfl,tv⟩ ⟨rfl,rfl,rfl,rfl,tv⟩ ⟨Yy _,rfl⟩ ?_
 clear G;intro s a w F hC G
 obtain ⟨i,v,out⟩:=s
 try dsimp only at hC
 obtain ⟨F,G⟩:=G.nM [7,6,3,2,0] [50,3,2,0]
 try dsimp only at G
 obtain ⟨hi,hq⟩:=hC
 have hol:out.length≤i:=by rw [hq,Yi];omega
 refine Ya (rZ G (qL r2) V [8,7,6,3,2,0] [50,3,2,0] fun G=>Ya ?_)
 refine Zc G Z (fun hc0=>?_) (fun hc0=>?_)
 ·have hil:i<l.length:=by simp at hc0;omega
  have hil2:i<l.length:=by simp at hc0;omega
  have hmi:(f+i) % c.length<c.length:=Ybp _ ow
  have hnl:Nn c ((f+i) % c.length)=Nn l i:=hI.cells i hil2
  refine Ye (Za (Ya (Yg (Ya (rZ G (qR rr (qO rr qZ)) V [7,6,4,3,2,0] [50,3,2,0] fun G=>?_)))))
  refine Zax G (qR rr (qR rr (qf (o_nilCheck 2 .is (by rfl)) r1 r1 (qf (oF 1 2 .adr) r1 r1 (qa 2 r1 r1 (qR rr (qR rr (qf (ZbQ (cells:=[.pv _,.pv (.is rv),.pv _,.pv _]) 2 3 1 (ZcX c room l.length f i (i:Int) Z (hI.ring ow).1 (hI.ring ow).2 ow) (fun _ _ _ _ _ h=>h) Z func230 Z kr Z Z (Zaf.two .is .t)) r2 r2 (qf (o_indexAddr_row (sz:=1) 3 (.mk Ycd kr) .is .t ow ow (by rfl)) r2 r1 (qf (Zt (ag:=false) (sz':=1) (sz:=1) 3 .t (by intro x;rfl) ow kr kr kr) r1 r1 (qf (o_buildSliceE (sz:=1) (zs:=[.int .i64 0]) (r:=[(0,.tmp 19)]) (l:=[_]) Ycd kr kr kr kr Z Z (.one Z .t one_int kr .nil) Z) r1 qz (qf (ZP (sz:=1) (bs:=8) 50 (.mk' Ycd kr kr) (by intro x;rfl) .is (.arr (l':=[_]) .t) (by simp only [Yl,Yw];omega) (by decide)) ⟨rfl,rfl,tv⟩ ⟨rfl,tv⟩ (qO rr qZ))))))))))))) V [7,6,3,2,0] [50,3,2,0] (fun _=>rfl) (fun _=>rfl) fun τ a w F G=>?_
  try dsimp only [RS.sub,SF.sub,CF.sub,csub,Anc.sub,List.map,Zf,xL,xM,Nat.reduceAdd,xD,xE,xT,xU,xC,xN,zCF,ldSF,Zm] at G
  generalize τ 21=v21 at G
  try simp only [Yb] at G
  refine Zh (Za (rZ G (qp r1 (qR rr qZ)) V [7,6,3,2,0] [50,3,2,0] fun G=>?_))
  replace G:=G.ent (i:=7) (s':=.pv (.int .i64 ((i+1:Nat):Int))) Z (.int (Zd ow))
  obtain ⟨F,G⟩:=G.nM [6,2,0,3,7] [3,2,0,50]
  exact ⟨((i+1),_,_),F,⟨by omega,(by rw [hq,hnl,Zo hil])⟩,G,by omega⟩
 have hil:i=l.length:=by simp at hc0;omega
 refine Yx (Zi (Zi (Zn (Za (Ya (rZ G (qR rr (qO rr qZ)) V [2] [50,3,2,0] fun G=>Yh ?_))))))
 obtain ⟨F,G⟩:=G.give 50 2 Z rfl
 have G:=G.fresh 1 rfl
 obtain ⟨F,G⟩:=G.push 1 3 Z Z Z kr
 obtain ⟨F,G⟩:=G.push 1 2 Z Z Z kr
 have G:=G.turn 1 Z (r':=RS.hp (rqH (.pointer (some ⟨b,0,none⟩)) room l)) (fun _ _ _ _ h=>⟨_,_,_,hI,h⟩)
 refine Zac hG G Z (.tmp Z .nil) (.one (.sl (by rw [hq,hil,Yz]))) rfl
theorem Zpg (n:Int):FnG prog 206 1 [.int .i64 n] [.star []] (PV.ptr) (fun v=>[rqH v (ZbR n) []]):=by
 refine FnG.mk func206 Z ntmps206 Z kr fun B F0 a w F V hG G=>Ya ?_
 refine rZ G (qC qZ) V [2,0] [1,0] fun G=>Ya ?_
 refine Zb G (qR rr (qf (oP (Zll n) func199 (Args.one .t)) r1 qz (qf (oB [(0,.tmp 4)] [.int .i64 0,.slice none 0 0,.int .u64 0,.int .i64 0] [(0,1),(1,1),(2,1),(3,1)] (.one Z .t one_int kr .nil)) r1 qz (qf (oX 101 .t) r1 qz (qO rr qZ))))) V [2] [101,1,0] (fun _=>rfl) (fun _=>rfl) fun τ a w F G=>?_
 try dsimp only [RS.sub,SF.sub,CF.sub,csub,Anc.sub,List.map,Zf,xL,xM,Nat.reduceAdd,xD,xE,xT,xU,xC,xN,zCF,Zm] at G
 generalize τ 6=v6 at G
 refine Za (Yh ?_)
 obtain ⟨b,rfl⟩:=G.shape 101 rfl
 have G:=G.fresh 3 rfl
 have G:=G.turn 3 Z (ZaA (T:=3) (sz:=1) (R:=Zm))
 obtain ⟨F,G⟩:=G.push 1 3 Z Z Z kr
 obtain ⟨F,G⟩:=G.push 1 101 Z Z Z kr
 have G:=G.turn 1 Z (r':=RS.hp (rqH (.pointer (some ⟨b,0,none⟩)) (ZbR n) [])) (fun _ _ _ _ h=>⟨_,[],0,ZgI.new (Zog n),h⟩)
 refine Z2 (h':=fun v=>rqH v (ZbR n) []) hG G Z (.tmp Z .nil) (.one .ptr) rfl
theorem ZnT (c:List Int) (room:Int) (f:Nat) (x:Int) (l:List Int) (hI:ZgI room c f (x :: l)):FnP prog 231 [.ref [.int .i64 room,.sl Zm c,.int .u64 (f:Int),.int .i64 (((x :: l).length:Nat):Int)]] (.tup [.int .i64 x,.bool true]):=by
 refine FnP.mk func231 Z ntmps231 Z fun B a w F V hfr G=>?_
 have hle:=hI.le
 rw [Yl] at hle
 have hmi:(f+0) % c.length<c.length:=Ybp _ ow
 refine Ya (rZ G (qI qB) V [3,2,0] [0] fun G=>(Ya (Ya ?_)))
 refine rZ G (qR rr (qf (oP (ZkF room _ _ _) func248 (Args.one .t)) r1 qz (qf (o_eql .t qi) r1 qz qZ))) V [6,3,2,0] [0] fun G=>?_
 refine Zc G Z (fun hc0=>?_) (fun hc0=>?_)
 ·simp at hc0;try omega
 refine Ye (Za (Ya (Zv G (qR rr (qf (ZC .t) r1 qz (qf (oG 1 .t) r1 qz (qf (oR false 1 .t) r1 qz (qR rr (qf (oP (ZcX c room (x :: l).length f 0 0 Z (hI.ring ow).1 (hI.ring ow).2 ow) func230 (Args.two .t qi)) r1 qz (qy 1 Ycd r2 (qf (oR false 1 .t) r1 qz (qO rr qB))))))))) V [3,2] [0] Z Z fun a w F G=>?_)))
 try dsimp only [List.map,xD,xE,xT,xU,ldSF,Zm] at G
 try simp only [Yb] at G
 try simp only [Yb] at G
 rw [hI.first] at G
 refine Za (Yh (Z5 hfr G Z (.tmp Z (.tmp Z .nil)) (.two .refl .refl)))
theorem Zni (room:Int) (p q:PV):FnP prog 231 [.ref [.int .i64 room,p,q,.int .i64 0]] (.tup [.int .i64 0,.bool false]):=by
 refine FnP.mk func231 Z ntmps231 Z fun B a w F V hfr G=>Ya ?_
 refine rZ G (qI qB) V [3,2,0] [0] fun G=>(Ya (Ya ?_))
 refine rZ G (qR rr (qf (oP (ZkF room _ _ _) func248 (Args.one .t)) r1 qz (qf (o_eql .t qi) r1 qz qZ))) V [6,3,2,0] [0] fun G=>?_
 refine Zc G Z (fun hc0=>?_) (fun hc0=>?_)
 ·refine Ya (rZ G (qI qB) V [3,2,0] [0] fun G=>(Yh (Zk ?_)))
  refine Z5 hfr G Z (.tmp Z (.tmp Z .nil)) (.two .refl .refl)
 simp at hc0
theorem Zr5 (b:Nat) (room:Int) (x:Int) (l:List Int):FnG prog 208 1 [.is (.pointer (some ⟨b,0,none⟩))] [rqH (.pointer (some ⟨b,0,none⟩)) room (x :: l)] (.tup [.int .i64 x,.bool true]) (fun _=>[rqH (.pointer (some ⟨b,0,none⟩)) room l]):=by
 refine FnG.mk func208 Z ntmps208 Z kr fun B F0 a w F V hG G=>?_
 obtain ⟨rv,G⟩:=G.open_ex 1 rfl
 obtain ⟨c,G⟩:=G.open_ex 1 rfl
 obtain ⟨f,G⟩:=G.open_ex 1 rfl
 obtain ⟨hI,G⟩:=G.open_and 1 rfl
 obtain ⟨F,G⟩:=G.peel 1 2 Z rfl
 obtain ⟨F,G⟩:=G.peel 1 3 Z rfl
 have hle:=hI.le
 have hfit:=hI.fits
 have hr0:=hI.r0
 have hr1:=hI.r1
 obtain ⟨F,G⟩:=G.nM [0] [3,2,0]
 rw [Yl] at hle hfit
 have hw1:IntKind.wrap .i64 ((((x :: l).length:Nat):Int) - 1)=((l.length:Nat):Int):=by rw [Yl,Zy ow];omega
 refine Ya (rZ G (qI qB) V [3,2,0] [3,2,0] fun G=>Ya ?_)
 refine rZ G (qR rr (qf (ZbQ (cells:=[.pv _,.pv (.is rv),.pv _,.pv _]) 2 3 1 (ZnT c room f x l hI) Zid Z func231 Z kr Z Z (Zaf.one .is)) r1 r2 (qR rr (qf (o_extract .t Z) r1 qz (qf (o_extract .t Z) r1 qz (qO rr (qO rr qZ))))))) V [5,4,3,2,0] [3,2,0] fun G=>(Ya (Ya ?_))
 refine rZ G (qR rr qZ) V [11,5,4,3,2,0] [3,2,0] fun G=>?_
 refine Zc G Z (fun hc0=>?_) (fun hc0=>?_)
 ·refine Ya (rZ G (qR rr (qR rr (qf (ZbQ (cells:=[.pv _,.pv (.is rv),.pv _,.pv _]) 2 3 1 (ZcX c room (x :: l).length f 1 1 Z (hI.ring ow).1 (hI.ring ow).2 ow) (fun _ _ _ _ _ h=>h) Z func230 Z kr Z Z (Zaf.two .is qi)) r1 r2 (qf (o_nilCheck 2 .is (by rfl)) r1 r1 (qf (oF 2 2 .adr) r1 r1 (qf (ZaM 2 .adr .t one_int kr kr) r2 r1 qZ)))))) V [5,4,3,2,0] [3,2,0] fun G=>?_)
  refine Ze G (qR rr (qf (o_nilCheck 2 .is (by rfl)) r1 r1 (qf (oF 3 2 .adr) r1 r1 (qa 2 r1 r1 (qf (o_sub .t qi) r1 qz (qf (o_nilCheck 2 .is (by rfl)) r1 r1 (qf (oF 3 2 .adr) r1 r1 (qf (ZaM 2 .adr .t one_int kr kr) r2 r1 qZ)))))))) V [5,4,3,2] [3,2,0] Z Z fun a w F G=>?_
  rw [hw1] at G
  refine Za (Ya (rZ G (qR rr (qR rr (qO rr (qO rr qZ)))) V [3,2] [3,2,0] fun G=>Yh ?_))
  have G:=G.fresh 1 rfl
  obtain ⟨F,G⟩:=G.push 1 3 Z Z Z kr
  obtain ⟨F,G⟩:=G.push 1 2 Z Z Z kr
  have G:=G.turn 1 Z (r':=RS.hp (rqH (.pointer (some ⟨b,0,none⟩)) room l)) (fun _ _ _ _ h=>⟨_,_,_,hI.tail,h⟩)
  refine Zac hG G Z (.tmp Z (.tmp Z .nil)) (.two .refl .refl) rfl
 simp at hc0
theorem Zq4 (b:Nat) (room:Int):FnG prog 208 1 [.is (.pointer (some ⟨b,0,none⟩))] [rqH (.pointer (some ⟨b,0,none⟩)) room []] (.tup [.int .i64 0,.bool false]) (fun _=>[rqH (.pointer (some ⟨b,0,none⟩)) room []]):=by
 refine FnG.mk func208 Z ntmps208 Z kr fun B F0 a w F V hG G=>?_
 obtain ⟨rv,G⟩:=G.open_ex 1 rfl
 obtain ⟨c,G⟩:=G.open_ex 1 rfl
 obtain ⟨f,G⟩:=G.open_ex 1 rfl
 obtain ⟨hI,G⟩:=G.open_and 1 rfl
 obtain ⟨F,G⟩:=G.peel 1 2 Z rfl
 obtain ⟨F,G⟩:=G.peel 1 3 Z rfl
 have hle:=hI.le
 have hfit:=hI.fits
 have hr0:=hI.r0
 have hr1:=hI.r1
 obtain ⟨F,G⟩:=G.nM [0] [3,2,0]
 refine Ya (rZ G (qI qB) V [3,2,0] [3,2,0] fun G=>Ya ?_)
 refine rZ G (qR rr (qf (Zib (cells:=[.pv _,.pv _,.pv _,.pv _]) 2 (Zni room _ _) Zid Z func231 Z kr (Zaf.one .is)) r1 r1 (qR rr (qf (o_extract .t Z) r1 qz (qf (o_extract .t Z) r1 qz (qO rr (qO rr qZ))))))) V [5,4,3,2,0] [3,2,0] fun G=>(Ya (Ya ?_))
 refine rZ G (qR rr qZ) V [11,5,4,3,2,0] [3,2,0] fun G=>?_
 refine Zc G Z (fun hc0=>?_) (fun hc0=>?_)
 ·simp at hc0
 refine Ye (Za (Ya (rZ G (qR rr (qR rr (qO rr (qO rr qZ)))) V [3,2] [3,2,0] fun G=>Yh ?_)))
 have G:=G.fresh 1 rfl
 obtain ⟨F,G⟩:=G.push 1 3 Z Z Z kr
 obtain ⟨F,G⟩:=G.push 1 2 Z Z Z kr
 have G:=G.turn 1 Z (r':=RS.hp (rqH (.pointer (some ⟨b,0,none⟩)) room [])) (fun _ _ _ _ h=>⟨_,_,_,hI,h⟩)
 refine Zac hG G Z (.tmp Z (.tmp Z .nil)) (.two .refl .refl) rfl
theorem Zh0 (b:Nat) (room:Int) (l:List Int):FnG prog 208 1 [.is (.pointer (some ⟨b,0,none⟩))] [rqH (.pointer (some ⟨b,0,none⟩)) room l] (.tup [.int .i64 (l.headD 0),.bool (decide (l≠[]))]) (fun _=>[rqH (.pointer (some ⟨b,0,none⟩)) room l.tail]):=by
 cases l with
 | nil=>exact Zq4 b room
 | cons x l=>exact Zr5 b room x l
theorem ZcC (b:Nat) (room:Int) (l:List Int) (x:Int) (hrm:(l.length:Int)<room):FnG prog 207 1 [.is (.pointer (some ⟨b,0,none⟩)),.int .i64 x] [rqH (.pointer (some ⟨b,0,none⟩)) room l] (.int .i64 0) (fun _=>[rqH (.pointer (some ⟨b,0,none⟩)) room (l ++ [x])]):=by
 refine FnG.mk func207 Z ntmps207 Z kr fun B F0 a w F V hG G=>?_
 obtain ⟨rv,G⟩:=G.open_ex 1 rfl
 obtain ⟨c,G⟩:=G.open_ex 1 rfl
 obtain ⟨f,G⟩:=G.open_ex 1 rfl
 obtain ⟨hI,G⟩:=G.open_and 1 rfl
 obtain ⟨F,G⟩:=G.peel 1 2 Z rfl
 obtain ⟨F,G⟩:=G.peel 1 3 Z rfl
 have hle:=hI.le
 have hfit:=hI.fits
 have hr0:=hI.r0
 have hr1:=hI.r1
 obtain ⟨F,G⟩:=G.nM [1,0] [3,2,0]
 refine Ya (rZ G (qI qZ) V [4,1,0] [3,2,0] fun G=>(Ya (Ya ?_)))
 refine rZ G (qR rr (qf (Zib (cells:=[.pv _,.pv _,.pv _,.pv _]) 2 (ZqM room l.length _ _ ⟨hr0,hr1⟩ ow) (fun _ _ _ _ _ h=>h) Z func228 Z kr (Zaf.one .is)) r1 r1 (qf (o_eql .t qi) r1 qz qZ))) V [8,4,1,0] [3,2,0] fun G=>?_
 refine Zc G Z (fun hc0=>?_) (fun hc0=>?_)
 ·simp at hc0;omega
 refine Ye (Za (Ya (Ya (Zv G (qR rr (qf (o_nilCheck 2 .is (by rfl)) r1 r1 (qf (oF 3 2 .adr) r1 r1 (qa 2 r1 r1 (qR rr (qf (o_nilCheck 2 .is (by rfl)) r1 r1 (qf (oF 1 2 .adr) r1 r1 (qa 2 r1 r1 (qf (ZX 3 Ycd .is) r1 r1 (qf (o_eql .t .t) r2 qz qZ)))))))))) V [18,4,1,0] [3,2,0] Z Z fun a w F G=>?_))))
 try dsimp only [List.map,xD,xE,xT,xU,ldSF,Zm] at G
 refine Za (Zc G Z (fun hc1=>?_) (fun hc1=>?_))
 ·have hcl:l.length=c.length:=by simp at hc1;omega
  have hp2:=ZrH (n:=c.length) ow hI.pow0
  rw [← hcl] at hp2
  clear hcl
  have hgl:l.length<growN l.length:=by unfold growN;split <;> omega
  refine Ya ?_
  have G:=G.fresh 1 rfl
  obtain ⟨F,G⟩:=G.push 1 3 Z Z Z kr
  obtain ⟨F,G⟩:=G.push 1 2 Z Z Z kr
  have G:=G.turn 1 Z (r':=RS.hp (rqH (.pointer (some ⟨b,0,none⟩)) room l)) (fun _ _ _ _ h=>⟨_,_,_,hI,h⟩)
  obtain ⟨F,G⟩:=G.nM [18,4,1,0] [1,0]
  refine Ze G (qR rr (qf (ZJ 1 (Zsb b room l) func229 Z kr (Args.one .t)) r1 r1 (qO rr qZ))) V [5,4,1,0] [1,0] Z Z fun a w F G=>?_
  obtain ⟨rv,G⟩:=G.open_ex 1 rfl
  obtain ⟨c,G⟩:=G.open_ex 1 rfl
  obtain ⟨f,G⟩:=G.open_ex 1 rfl
  obtain ⟨hI,G⟩:=G.open_and 1 rfl
  obtain ⟨F,G⟩:=G.peel 1 2 Z rfl
  obtain ⟨F,G⟩:=G.peel 1 3 Z rfl
  obtain ⟨F,G⟩:=G.nM [5,4,1,0] [3,2,0]
  refine Za (Ya (Zb G (qR rr (qR rr (qR rr (qf (o_nilCheck 2 .is (by rfl)) r1 r1 (qf (oF 3 2 .adr) r1 r1 (qa 2 r1 r1 (qf (o_shl .t qi (by decide)) r1 qz (qf (Zoz qi .t) r1 qz (qf (ZaI (R:=Zm) (v:=0) (c:=_) (sz:=1) (bs:=8) (zs:=[.int .i64 0]) 101 Ycd kr kr kr (fun _ _=>⟨⟨rfl,rfl,ZcS⟩,tv⟩) .t .t (by rw [Zh6 ow];omega) (by rw [Zh6 ow];unfold growN;split <;> omega) (by rw [Zh6 ow];unfold growN;split <;> omega)) r2 qz (qf (o_nilCheck 2 .is (by rfl)) r1 r1 (qf (oF 1 2 .adr) r1 r1 (qf (o_storeS 2 .adr kr kr) r2 r1 (qf (o_nilCheck 2 .is (by rfl)) r1 r1 (qf (oF 2 2 .adr) r1 r1 (qf (ZaM 2 .adr qi one_int kr kr) r1 r1 qZ))))))))))))))) V [5,4,1,0] [101,3,2,0] (fun _=>rfl) (fun _=>rfl) fun τ a w F G=>?_))
  try dsimp only [RS.sub,SF.sub,CF.sub,csub,Anc.sub,List.map,Zf,xL,xM,Nat.reduceAdd,xD,xE,xT,xU,xC,xN,zCF,ldSF,Zm] at G
  generalize τ 29=v29 at G
  rw [Zh6 ow,Yb] at G
  refine Za (Ze G (qR rr (qf (o_nilCheck 2 .is (by rfl)) r1 r1 (qf (oF 1 2 .adr) r1 r1 (qa 2 r1 r1 (qR rr (qf (Znu 101 Ycd kr (by intro x;rfl) .t .t (by rw [YU];unfold growN;split <;> omega)) r2 r1 qZ)))))) V [4,1,0] [101,3,2,0] Z Z fun a w F G=>?_)
  obtain ⟨c2,hce⟩:∃ c2,c2=l++(List.replicate (growN l.length) (0:Int)).drop l.length:=⟨_,rfl⟩
  rw [← hce] at G
  have hcl2:c2.length=growN l.length:=by rw [hce,Yd,YE,YU];omega
  have hc2:l.length<c2.length:=by rw [hcl2];exact hgl
  have ht2:c2.take l.length=l:=by rw [hce,List.take_left]
  rw [← hcl2] at hp2
  have hR:ZgI room c2 0 l:=ZgI.grow hr0 hr1 hfit (Nat.le_of_lt hc2) ht2 hp2
  have hP:=hR.put (x:=x) hrm hc2
  have hmi:(0+l.length) % c2.length<c2.length:=Ybp _ ow
  refine Za (Ya (Zv G (qR rr (qf (o_nilCheck 2 .is (by rfl)) r1 r1 (qf (oF 1 2 .adr) r1 r1 (qa 2 r1 r1 (qR rr (qR rr (qf (o_nilCheck 2 .is (by rfl)) r1 r1 (qf (oF 3 2 .adr) r1 r1 (qa 2 r1 r1 (qf (ZbQ (cells:=[.pv _,.pv (.is v29),.pv _,.pv _]) 2 101 1 (ZcX c2 room l.length 0 l.length (l.length:Int) Z hp2 ow ow) (fun _ _ _ _ _ h=>h) Z func230 Z kr Z Z (Zaf.two .is .t)) r2 r2 (qR rr (qf (o_indexAddr_row (sz:=1) 101 (.mk Ycd kr) .is .t ow ow (by rfl)) r2 r1 (qf (ZH (R:=Zm) (sz:=1) (v:=x) 101 .t (by intro x;rfl) ow .t Z one_int kr) r2 r1 qZ))))))))))))) V [4,0] [101,3,2,0] Z Z fun a w F G=>?_))
  try dsimp only [List.map,Zf,xL,xM,Nat.reduceAdd,xD,xE,xT,xU,xC,xN,zCF,ldSF,Zm] at G
  try simp only [Yb] at G
  try rw [Yb] at G
  refine Za (Ya (rZ G (qR rr (qf (o_nilCheck 2 .is (by rfl)) r1 r1 (qf (oF 3 2 .adr) r1 r1 (qa 2 r1 r1 (qp r1 (qf (o_nilCheck 2 .is (by rfl)) r1 r1 (qf (oF 3 2 .adr) r1 r1 (qf (ZaM 2 .adr .t one_int kr kr) r2 r1 qZ)))))))) V [4] [101,3,2,0] fun G=>Ya ?_))
  refine rZ G (qI qZ) V [4] [101,3,2,0] fun G=>Yh ?_
  rw [Zd ow] at G
  have G:=G.fresh 1 rfl
  obtain ⟨F,G⟩:=G.push 1 101 Z Z Z kr
  obtain ⟨F,G⟩:=G.push 1 2 Z Z Z kr
  have G:=G.turn 1 Z (r':=RS.hp (rqH (.pointer (some ⟨b,0,none⟩)) room (l ++ [x]))) (fun _ _ _ _ h=>⟨_,_,0,hP,(by rw [Yd];exact h)⟩)
  refine Zac hG G Z (.tmp Z .nil) (.one .refl) rfl
 have hc2:l.length<c.length:=by simp at hc1;omega
 obtain ⟨c2,hce⟩:∃ c2,c2=c:=⟨_,rfl⟩
 rw [← hce] at G hc2
 have hR:ZgI room c2 f l:=by rw [hce];exact hI
 obtain ⟨hp2,hf2⟩:=hR.ring ow
 have hP:=hR.put (x:=x) hrm hc2
 have hmi:(f+l.length) % c2.length<c2.length:=Ybp _ ow
 refine Ye (Za (Ya (Zv G (qR rr (qf (o_nilCheck 2 .is (by rfl)) r1 r1 (qf (oF 1 2 .adr) r1 r1 (qa 2 r1 r1 (qR rr (qR rr (qf (o_nilCheck 2 .is (by rfl)) r1 r1 (qf (oF 3 2 .adr) r1 r1 (qa 2 r1 r1 (qf (ZbQ (cells:=[.pv _,.pv (.is rv),.pv _,.pv _]) 2 3 1 (ZcX c2 room l.length f l.length (l.length:Int) Z hp2 ow ow) (fun _ _ _ _ _ h=>h) Z func230 Z kr Z Z (Zaf.two .is .t)) r2 r2 (qR rr (qf (o_indexAddr_row (sz:=1) 3 (.mk Ycd kr) .is .t ow ow (by rfl)) r2 r1 (qf (ZH (R:=Zm) (sz:=1) (v:=x) 3 .t (by intro x;rfl) ow .t Z one_int kr) r2 r1 qZ))))))))))))) V [4,0] [3,2,0] Z Z fun a w F G=>?_)))
 try dsimp only [List.map,Zf,xL,xM,Nat.reduceAdd,xD,xE,xT,xU,xC,xN,zCF,ldSF,Zm] at G
 try simp only [Yb] at G
 try rw [Yb] at G
 refine Za (Ya (rZ G (qR rr (qf (o_nilCheck 2 .is (by rfl)) r1 r1 (qf (oF 3 2 .adr) r1 r1 (qa 2 r1 r1 (qp r1 (qf (o_nilCheck 2 .is (by rfl)) r1 r1 (qf (oF 3 2 .adr) r1 r1 (qf (ZaM 2 .adr .t one_int kr kr) r2 r1 qZ)))))))) V [4] [3,2,0] fun G=>Ya ?_))
 refine rZ G (qI qZ) V [4] [3,2,0] fun G=>Yh ?_
 rw [Zd ow] at G
 have G:=G.fresh 1 rfl
 obtain ⟨F,G⟩:=G.push 1 3 Z Z Z kr
 obtain ⟨F,G⟩:=G.push 1 2 Z Z Z kr
 have G:=G.turn 1 Z (r':=RS.hp (rqH (.pointer (some ⟨b,0,none⟩)) room (l ++ [x]))) (fun _ _ _ _ h=>⟨_,_,f,hP,(by rw [Yd];exact h)⟩)
 refine Zac hG G Z (.tmp Z .nil) (.one .refl) rfl
theorem ZbO.prev {n:Nat} {E:List Zx} {O I:List (List Z9)} (h:ZbO n E O I) (mask u:Int):Zdz (adjO I mask u) ∧ ∀ v,v ∈ adjO I mask u ↔ ∃ x ∈ E,x.dst=u∧ofB mask x.kind=true∧x.src=v:=by
 by_cases hu:0≤u∧u<I.length
 ·unfold adjO
  rw [Yf hu]
  refine ⟨(ZW _).1,fun v=>?_⟩
  rw [(ZW _).2,Yu]
  constructor
  ·rintro ⟨e,h1,h2⟩
   obtain ⟨h3,h4⟩:=YS.1 h1
   obtain ⟨x,x1,x2,rfl⟩:=(h.im u.toNat (by have:=h.il;omega) e).1 h3
   exact ⟨x,x1,by omega,h4,h2⟩
  ·rintro ⟨x,x1,x2,x3,x4⟩
   exact ⟨endI x,YS.2 ⟨(h.im u.toNat (by have:=h.il;omega) _).2 ⟨x,x1,by omega,rfl⟩,x3⟩,x4⟩
 ·unfold adjO
  rw [Yc hu]
  refine ⟨List.Pairwise.nil,fun v=>⟨fun k=>(by cases k),?_⟩⟩
  rintro ⟨x,x1,x2,_⟩
  have:=(ZQ.1 (h.ok x x1)).2.1
  have:=h.il
  exact absurd ⟨by omega,by omega⟩ hu
theorem ZbO.prevR {n:Nat} {E:List Zx} {O I:List (List Z9)} (h:ZbO n E O I) (mask:Int):(∀ x,∀ u ∈ adjO I mask x,0≤u∧u<(n:Int)) ∧ ∀ x,(adjO I mask x).length≤n:=by
 have h1:∀ x,∀ u ∈ adjO I mask x,0≤u∧u<(n:Int):=fun x u hu=>by
  obtain ⟨y,y1,_,_,y4⟩:=((h.prev mask x).2 u).1 hu
  have:=(ZQ.1 (h.ok y y1)).1
  omega
 exact ⟨h1,fun x=>ZdG ((h.prev mask x).1.imp fun h=>by omega) (h1 x)⟩
inductive Zfm (prev:Int→List Int) (least t:Int):Nat→Int→Prop
 | zero:Zfm prev least t 0 t
 | step {k:Nat} {u x:Int} (h:u ∈ prev x) (hl:least≤u) (r:Zfm prev least t k x):Zfm prev least t (k+1) u
def Zdt (n:Nat) (prev:Int→List Int) (least t:Int) (d:List Int):Prop:=d.length=n ∧ ∀ u:Nat,u<n→(Nn d u = -1 ∧ ∀ k,¬ Zfm prev least t k u) ∨ ∃ k:Nat,Nn d u=k∧Zfm prev least t k u ∧ ∀ j,Zfm prev least t j u→k≤j
structure ZnL (n:Nat) (prev:Int→List Int) (least t:Int) (d q:List Int):Prop where
 len:d.length=n
 start:0≤t∧t<n∧fI d t=0
 neg:∀ u:Int,0≤u→u<n → -1≤fI d u
 qd:∀ x ∈ q,0≤x∧x<n∧0≤fI d x
 nd:q.Nodup
 sound:∀ u:Int,0≤u→u<n→0≤fI d u→Zfm prev least t (fI d u).toNat u
 sort:q.Pairwise fun a b=>fI d a≤fI d b
 near:∀ x,q.head? = some x→(∀ y ∈ q,fI d y≤fI d x+1) ∧ ∀ u:Int,0≤u→u<n→u ∉ q→fI d u≤fI d x
 clos:∀ x:Int,0≤x→x<n→0≤fI d x→x ∉ q → ∀ u ∈ prev x,least≤u→0≤fI d u∧fI d u≤fI d x+1
structure ZnF (n:Nat) (prev:Int→List Int) (least t:Int) (d q:List Int) (x:Int) (done:List Int):Prop where
 len:d.length=n
 start:0≤t∧t<n∧fI d t=0
 neg:∀ u:Int,0≤u→u<n → -1≤fI d u
 qd:∀ x ∈ q,0≤x∧x<n∧0≤fI d x
 nd:q.Nodup
 sound:∀ u:Int,0≤u→u<n→0≤fI d u→Zfm prev least t (fI d u).toNat u
 sort:q.Pairwise fun a b=>fI d a≤fI d b
 here:0≤x∧x<n∧0≤fI d x∧x ∉ q
 near:(∀ y ∈ q,fI d x≤fI d y∧fI d y≤fI d x+1) ∧ ∀ u:Int,0≤u→u<n→u ∉ q→fI d u≤fI d x
 clos:∀ z:Int,0≤z→z<n→z≠x→0≤fI d z→z ∉ q → ∀ u ∈ prev z,least≤u→0≤fI d u∧fI d u≤fI d z+1
 seen:∀ u ∈ done,least≤u→0≤fI d u∧fI d u≤fI d x+1
section
variable {n:Nat} {prev:Int→List Int} {least t:Int} {d q:List Int} {x:Int} {seen:List Int}
theorem ZnL.first (ht:0≤t∧t<n):ZnL n prev least t ((List.replicate n (-1)).set t.toNat 0) [t]:=by
 have e:fI ((List.replicate n (-1)).set t.toNat 0)=ZcQ (fI (List.replicate n (-1))) t 0:=ZcN (by simpa using ht)
 have e2:∀ u:Int,0≤u→u<n→fI (List.replicate n (-1)) u = -1:=fun u h1 h2=>by
  rw [ZaN h1,nth_eq (by simp;omega)];simp
 have e3:∀ u:Int,0≤u→u<n→u≠t→fI ((List.replicate n (-1)).set t.toNat 0) u = -1:=fun u h1 h2 h3=>by rw [e,ZaB h3];exact e2 u h1 h2
 have e4:fI ((List.replicate n (-1)).set t.toNat 0) t=0:=by rw [e,ZN]
 refine ⟨by simp,⟨ht.1,ht.2,e4⟩,fun u h1 h2=>?_,fun z hz=>?_,by simp,fun u h1 h2 h3=>?_,by simp,fun z hz=>?_,fun z h1 h2 h3 h4=>?_⟩
 ·by_cases h:u=t
  ·rw [h,e4];omega
  ·rw [e3 u h1 h2 h];omega
 ·rw [Yk.1 hz];exact ⟨ht.1,ht.2,by rw [e4];omega⟩
 ·by_cases h:u=t
  ·rw [h,e4];exact .zero
  ·rw [e3 u h1 h2 h] at h3;omega
 ·have hz:t=z:=by simpa using hz
  subst hz
  refine ⟨fun y hy=>by rw [Yk.1 hy];omega,fun u h1 h2 h3=>?_⟩
  rw [e3 u h1 h2 (by simpa using h3),e4];omega
 ·have h5:z≠t:=by simpa using h4
  rw [e3 z h1 h2 h5] at h3;omega
theorem ZnL.pop (h:ZnL n prev least t d (x :: q)):ZnF n prev least t d q x []:=by
 have hx:=h.qd x (by simp)
 obtain ⟨n1,n2⟩:=h.near x rfl
 have hnd:=Ybh.1 h.nd
 have hs:=Yo.1 h.sort
 refine ⟨h.len,h.start,h.neg,fun z hz=>h.qd z (by simp [hz]),hnd.2,h.sound,hs.2,⟨hx.1,hx.2.1,hx.2.2,hnd.1⟩,⟨fun y hy=>⟨hs.1 y hy,n1 y (by simp [hy])⟩,fun u h1 h2 h3=>?_⟩,fun z h1 h2 h3 h4 h5=>h.clos z h1 h2 h4 (by simp [h3,h5]),by simp⟩
 by_cases e:u=x
 ·rw [e];exact Yao _
 ·exact n2 u h1 h2 (by simp [e,h3])
theorem ZnF.skip {u:Int} (h:ZnF n prev least t d q x seen) (hu:0≤u∧u<n) (hs:least≤u→0≤fI d u):ZnF n prev least t d q x (seen ++ [u]):=by
 refine ⟨h.len,h.start,h.neg,h.qd,h.nd,h.sound,h.sort,h.here,h.near,h.clos,fun z hz hl=>?_⟩
 rcases YA.1 hz with hz | hz
 ·exact h.seen z hz hl
 ·rw [Yk.1 hz] at hl ⊢
  refine ⟨hs hl,?_⟩
  by_cases hq:u ∈ q
  ·exact (h.near.1 u hq).2
  ·have:=h.near.2 u hu.1 hu.2 hq;omega
theorem ZnF.put {u:Int} (h:ZnF n prev least t d q x seen) (hu:0≤u∧u<n) (hp:u ∈ prev x) (hl:least≤u) (h0:fI d u<0):ZnF n prev least t (d.set u.toNat (fI d x+1)) (q ++ [u]) x (seen ++ [u]):=by
 have hx:=h.here
 have e:fI (d.set u.toNat (fI d x+1))=ZcQ (fI d) u (fI d x+1):=ZcN (by rw [h.len];exact hu)
 have eu:fI (d.set u.toNat (fI d x+1)) u=fI d x+1:=by rw [e,ZN]
 have ne:∀ {z:Int},z≠u→fI (d.set u.toNat (fI d x+1)) z=fI d z:=fun hz=>by rw [e,ZaB hz]
 have hxu:x≠u:=fun k=>by rw [k] at hx;omega
 have huq:u ∉ q:=fun k=>by have:=(h.qd u k).2.2;omega
 have hqu:∀ z ∈ q,z≠u:=fun z hz k=>huq (k ▸ hz)
 have htu:t≠u:=fun k=>by have:=h.start.2.2;rw [k] at this;omega
 have hd0:∀ z:Int,z≠u→fI (d.set u.toNat (fI d x+1)) z=fI d z:=fun z hz=>ne hz
 refine ⟨by simp [h.len],⟨h.start.1,h.start.2.1,by rw [ne htu];exact h.start.2.2⟩,fun z h1 h2=>?_,fun z hz=>?_,?_,fun z h1 h2 h3=>?_,?_,⟨hx.1,hx.2.1,by rw [ne hxu];exact hx.2.2.1,?_⟩,⟨fun y hy=>?_,fun z h1 h2 h3=>?_⟩,fun z h1 h2 h3 h4 h5 y hy hly=>?_,fun z hz hlz=>?_⟩
 ·by_cases k:z=u
  ·rw [k,eu];omega
  ·rw [ne k];exact h.neg z h1 h2
 ·rcases YA.1 hz with hz | hz
  ·rw [ne (hqu z hz)];exact h.qd z hz
  ·rw [Yk.1 hz,eu];exact ⟨hu.1,hu.2,by omega⟩
 ·exact YbB.2 ⟨h.nd,by simp,fun a ha b hb k=>huq (by rw [Yk.1 hb] at k;exact k ▸ ha)⟩
 ·by_cases k:z=u
  ·rw [k,eu]
   rw [show (fI d x+1).toNat=(fI d x).toNat+1 by omega]
   exact .step hp hl (h.sound x hx.1 hx.2.1 hx.2.2.1)
  ·rw [ne k] at h3 ⊢;exact h.sound z h1 h2 h3
 ·refine Yby.2 ⟨List.Pairwise.imp_of_mem (fun {a b} ha hb k=>?_) h.sort,by simp,fun a ha b hb=>?_⟩
  ·rw [ne (hqu a ha),ne (hqu b hb)];exact k
  ·rw [Yk.1 hb,eu,ne (hqu a ha)];exact (h.near.1 a ha).2
 ·simp [hx.2.2.2,hxu]
 ·rcases YA.1 hy with hy | hy
  ·rw [ne (hqu y hy),ne hxu];exact h.near.1 y hy
  ·rw [Yk.1 hy,eu,ne hxu];omega
 ·have h3':z ∉ q∧z≠u:=by simpa using h3
  rw [ne h3'.2,ne hxu];exact h.near.2 z h1 h2 h3'.1
 ·have h5':z ∉ q∧z≠u:=by simpa using h5
  rw [ne h5'.2] at h4 ⊢
  have h6:=h.clos z h1 h2 h3 h4 h5'.1 y hy hly
  by_cases k:y=u
  ·rw [k] at h6;omega
  ·rw [ne k];exact h6
 ·rw [ne hxu]
  by_cases k:z=u
  ·rw [k,eu];omega
  ·rw [ne k]
   rcases YA.1 hz with hz | hz
   ·exact h.seen z hz hlz
   ·exact absurd (Yk.1 hz) k
theorem ZnF.done (h:ZnF n prev least t d q x (prev x)):ZnL n prev least t d q:=by
 refine ⟨h.len,h.start,h.neg,h.qd,h.nd,h.sound,h.sort,fun z hz=>?_,fun z h1 h2 h3 h4=>?_⟩
 ·have hm:z ∈ q:=List.mem_of_head? hz
  refine ⟨fun y hy=>?_,fun u h1 h2 h3=>?_⟩
  ·have a:=(h.near.1 z hm).1
   have b:=(h.near.1 y hy).2
   omega
  ·have a:=(h.near.1 z hm).1
   have b:=h.near.2 u h1 h2 h3
   omega
 ·by_cases e:z=x
  ·rw [e];exact h.seen
  ·exact h.clos z h1 h2 e h3 h4
theorem ZnL.dist (hp:∀ x,∀ u ∈ prev x,0≤u∧u<n) (h:ZnL n prev least t d []):Zdt n prev least t d:=by
 have key:∀ (j:Nat) (u:Int),Zfm prev least t j u→0≤u∧u<n∧0≤fI d u∧fI d u≤j:=fun j u hw=>by
  induction hw with
  | zero=>exact ⟨h.start.1,h.start.2.1,by rw [h.start.2.2];omega,by rw [h.start.2.2];omega⟩
  | step h1 hl _ ih=>
   obtain ⟨i1,i2,i3,i4⟩:=ih
   obtain ⟨k1,k2⟩:=h.clos _ i1 i2 i3 (by simp) _ h1 hl
   have:=hp _ _ h1
   exact ⟨this.1,this.2,k1,by omega⟩
 refine ⟨h.len,fun u hu=>?_⟩
 have e:Nn d u=fI d (u:Int):=by rw [ZaN ow];rfl
 rw [e]
 have hneg:=h.neg u ow ow
 by_cases h0:0≤fI d (u:Int)
 ·exact .inr ⟨(fI d (u:Int)).toNat,by omega,h.sound u ow ow h0,fun j hj=>by have:=(key j u hj).2.2.2;omega⟩
 ·exact .inl ⟨by omega,fun k hk=>h0 (key k u hk).2.2.1⟩
theorem Zdt.one {d e:List Int} (h:Zdt n prev least t d) (k:Zdt n prev least t e):d=e:=by
 refine ZaW (by rw [h.1,k.1]) fun j hj=>?_
 rw [h.1] at hj
 rcases h.2 j hj with ⟨a1,a2⟩ | ⟨i,a1,a2,a3⟩ <;> rcases k.2 j hj with ⟨b1,b2⟩ | ⟨i',b1,b2,b3⟩
 ·rw [a1,b1]
 ·exact absurd b2 (a2 _)
 ·exact absurd a2 (b2 _)
 ·have:=a3 _ b2;have:=b3 _ a2;omega
theorem ZnF.room (h:ZnF n prev least t d q x seen):q.length+1≤n:=ZdG (l:=x :: q) (Ybh.2 ⟨h.here.2.2.2,h.nd⟩) fun y hy=>by
 rcases Yj.1 hy with rfl | hy
 ·exact ⟨h.here.1,h.here.2.1⟩
 ·exact ⟨(h.qd y hy).1,(h.qd y hy).2.1⟩
end
def negC (d:List Int):Nat:=d.countP fun z=>decide (z<0)
theorem Zl8 {d:List Int} {i:Nat} {c:Int} (hi:i<d.length) (h0:Nn d i<0) (hc:0≤c):negC (d.set i c)+1=negC d:=by
 rw [nth_eq hi] at h0
 unfold negC
 rw [List.countP_set hi,Yag h0,YF (show ¬ c<0 by omega)]
 have:0<d.countP fun z=>decide (z<0):=List.countP_pos_iff.2 ⟨d[i],Ya2 hi,Yag h0⟩
 simp
 omega
theorem ZpD (n:Nat) (prev:Int→List Int) (least t:Int):∃ d,Zdt n prev least t d:=by
 refine Zkf (P:=fun u m=>(m = -1 ∧ ∀ k,¬ Zfm prev least t k u) ∨ ∃ k:Nat,m=k∧Zfm prev least t k u ∧ ∀ j,Zfm prev least t j u→k≤j) n fun u _=>?_
 by_cases h:∃ k,Zfm prev least t k (u:Int)
 ·obtain ⟨k,hk⟩:=h
  obtain ⟨m,⟨h1,h2⟩,h3⟩:=ZpF (P:=fun m=>0≤m∧Zfm prev least t m.toNat u) (fun x hx=>hx.1) (u:=k) ⟨by omega,by simpa using hk⟩
  exact ⟨m,.inr ⟨m.toNat,by omega,h2,fun j hj=>by have:=h3 j ⟨by omega,by simpa using hj⟩;omega⟩⟩
 ·exact ⟨-1,.inl ⟨rfl,fun k hk=>h ⟨k,hk⟩⟩⟩
def Zeb (n:Nat) (prev:Int→List Int) (least t:Int) (d q:List Int):Prop:=ZnL n prev least t d q ∧ ∀ z:Int,fI d z+(negC d:Int)≤n
def Zc0 (n:Nat) (prev:Int→List Int) (least t:Int) (d q:List Int) (x:Int) (seen:List Int):Prop:=ZnF n prev least t d q x seen ∧ ∀ z:Int,fI d z+(negC d:Int)≤n
section
variable {n:Nat} {prev:Int→List Int} {least t:Int} {d q:List Int} {x:Int} {seen:List Int}
theorem Zeb.first (ht:0≤t∧t<n):Zeb n prev least t ((List.replicate n (-1)).set t.toNat 0) [t]:=by
 have hlt:t.toNat<n:=by omega
 have h1:=Zl8 (d:=List.replicate n (-1)) (i:=t.toNat) (c:=0) (by simpa using hlt) (by rw [nth_eq (by simpa using hlt)];simp) (Yao 0)
 have h2:negC (List.replicate n (-1))=n:=by unfold negC;rw [List.countP_replicate];simp
 refine ⟨ZnL.first ht,fun z=>?_⟩
 have hz:fI ((List.replicate n (-1)).set t.toNat 0) z≤0:=by
  rw [ZcN (by simpa using ht)]
  unfold ZcQ
  split
  ·exact Yao 0
  ·unfold fI
   split
   ·by_cases h:z.toNat<n
    ·rw [nth_eq (by simpa using h)];simp
    ·unfold Nn;simp [YaH,show n≤z.toNat by omega]
   ·exact Yao 0
 omega
theorem Zeb.pop (h:Zeb n prev least t d (x :: q)):Zc0 n prev least t d q x []:=⟨h.1.pop,h.2⟩
theorem Zc0.skip {u:Int} (h:Zc0 n prev least t d q x seen) (hu:0≤u∧u<n) (hs:least≤u→0≤fI d u):Zc0 n prev least t d q x (seen ++ [u]):=⟨h.1.skip hu hs,h.2⟩
theorem Zc0.put {u:Int} (h:Zc0 n prev least t d q x seen) (hu:0≤u∧u<n) (hp:u ∈ prev x) (hl:least≤u) (h0:fI d u<0):Zc0 n prev least t (d.set u.toNat (fI d x+1)) (q ++ [u]) x (seen ++ [u])∧negC (d.set u.toNat (fI d x+1))+1=negC d:=by
 have hn:=Zl8 (d:=d) (i:=u.toNat) (c:=fI d x+1) (by rw [h.1.len];omega) (by rw [← ZaN hu.1];exact h0) (by have:=h.1.here.2.2.1;omega)
 refine ⟨⟨h.1.put hu hp hl h0,fun z=>?_⟩,hn⟩
 rw [ZcN (by rw [h.1.len];exact hu)]
 unfold ZcQ
 have h1:=h.2 x
 have h2:=h.2 z
 split <;> omega
theorem Zc0.done (h:Zc0 n prev least t d q x (prev x)):Zeb n prev least t d q:=⟨h.1.done,h.2⟩
theorem Zc0.val (h:Zc0 n prev least t d q x seen):0≤fI d x∧fI d x≤n:=by
 have:=h.2 x
 exact ⟨h.1.here.2.2.1,by omega⟩
end
theorem ZhK (O I:List (List Z9)) (m:Nat) (u mask:Int) (hI:∀ l ∈ I,l.length≤1000000) (hOI:I.length=O.length):FnP prog 209 [ZeJ O I m,.int .i64 u,.int .i64 mask] (.sl Zm (adjO I mask u)):=by
 refine FnP.mk func209 Z ntmps209 Z fun B a w F V hfr G=>Ya ?_
 refine rZ G (qC qZ) V [6,2,1,0] [0] fun G=>(Ya (Ya ?_))
 refine rZ G (qR rr (qR rr (qf (oP (Zd0 O I m u) func194 (Args.two .t .t)) r2 qz (qf (o_not .t) r1 qz qZ)))) V [10,6,2,1,0] [0] fun G=>?_
 refine Zc G Z (fun hc0=>?_) (fun hc0=>?_)
 ·have hg:[] = adjO I mask u:=by unfold adjO;rw [Yc (by have h9:=hc0;simp at h9;omega)]
  refine Ya (rZ G (qC qZ) V [6,2,1,0] [0] fun G=>(Yh (Zk ?_)))
  refine Zs hfr G Z Z Z (.trans .nilSl (.sl hg))
 have hth:0≤u∧u<I.length:=by have h9:=hc0;simp at h9;omega
 have hg:(Zbp (((Nn I u.toNat).filter fun e=>ofB mask e.kind).map Z9.node))=adjO I mask u:=by unfold adjO;rw [Yf hth]
 refine Ye (Za (Ya (Ze G (qR rr (qf (ZC .t) r1 qz (qf (oG 1 .t) r1 qz (qf (oR false 1 .t) r1 qz (qR rr (qf (o_indexAddr_sl (sz:=1) (.mk Yco kr) (by intro x;rfl) .t .t (by exact hth.1) (by exact hth.2)) r2 qz (qf (oR false 1 .t) r1 qz (qR rr (qf (oP (dgNodesOf_c (Nn I u.toNat) mask (hI _ (nth_mem ow))) func198 (Args.two .t .t)) r2 qz (qO rr qZ)))))))))) V [6] [0] Z Z fun a w F G=>?_)))
 try simp only [Yb] at G
 refine Za (Yh (Zs hfr G Z Z Z (.sl hg)))
theorem Zwr (E:List Zx) (O I:List (List Z9)) (m:Nat) (mask node least:Int) (h:ZbO O.length E O I) (hn1:1≤O.length) (hn:O.length≤4096) (hE:E.length≤1000000) (hs0:least≤node) (hs1:0≤node) (hs2:node<O.length) (D:List Int) (hD:Zdt O.length (fun x=>adjO I mask x) least node D):FnP prog 169 [ZeJ O I m,.int .i64 mask,.int .i64 node,.int .i64 least] (.sl Zm D):=by
 refine FnP.mk func169 Z ntmps169 Z fun B a w F V hfr G=>?_
 obtain ⟨hpr,hpl⟩:=h.prevR mask
 refine Ya (rZ G (qC qZ) V [8,3,2,1,0] [0] fun G=>Ya ?_)
 refine Zb G (qR rr (qR rr (qR rr (qf (oB [(0,.tmp 16),(1,.tmp 17),(2,.tmp 18)] [.pointer none,.int .i64 0,.int .i64 0] [(0,1),(1,1),(2,1)] (.one Z .t Zh3 kr (.one Z .t one_int kr (.one Z .t one_int kr .nil)))) r3 qz (qf (oH [.pointer none,.int .i64 0,.int .i64 0] 101) trivial qz (qS 3 101 r2 r1 qZ)))))) V [9,8,3,2,1,0] [101,0] (fun _=>rfl) (fun _=>rfl) fun τ a w F G=>?_
 try dsimp only [RS.sub,SF.sub,CF.sub,csub,Anc.sub,List.map,Zf,xL,xM,Nat.reduceAdd,xD,xE,xT,xU,xC,xN,zCF,Zm] at G
 generalize τ 9=v9 at G
 refine Za (Ya ?_)
 replace G:=G.fresh 102 rfl
 refine Zb G (qe 3 101 r1 r1 (qf (Zaq 102 (Zn4 O I m mask least ow ow) func204 Z kr (Args.one (.pagg .t)) pvOne1) r1 r1 (qO rr qZ))) V [10,9,8,3,2,1,0] [102,101,0] (fun _=>rfl) (fun _=>rfl) fun τ a w F G=>?_
 try dsimp only [RS.sub,SF.sub,CF.sub,csub,Anc.sub,List.map,xD,xE,xT,xU,ldSF,Zm] at G
 generalize τ 21=v21 at G
 refine Za (Ya (Ya (rZ G (qe 3 101 r1 r1 (qR rr (qf (oP (Zqm O I m mask least node) func205 (Args.two (.pagg .t) .t)) r2 qz (qf (o_not .t) r1 qz qZ)))) V [25,10,8,3,2,1,0] [102,101,0] fun G=>?_)))
 refine Zc G Z (fun hc0=>?_) (fun hc0=>?_)
 ·simp at hc0;omega
 refine Ye (Za (Ya ?_))
 replace G:=G.fresh 103 rfl
 refine Zb G (qR rr (qf (oP (Zch O I m) func158 (Args.one .t)) r1 qz (qf (Zaq 103 (Zpg _) func206 Z kr (Args.one .t) PV.ptr_one) r1 r1 (qO rr qZ)))) V [11,10,8,3,2,1,0] [103,102,101,0] (fun _=>rfl) (fun _=>rfl) fun τ a w F G=>?_
 try dsimp only [RS.sub,SF.sub,CF.sub,csub,Anc.sub,List.map,Zm] at G
 generalize τ 29=v29 at G
 obtain ⟨_,_,_,ho⟩:=G.obGet 103 rfl
 obtain ⟨qb,rfl⟩:=ZpW ho
 clear ho
 replace G:=G.turn 103 Z (r':=RS.hp (rqH (.pointer (some ⟨qb,0,none⟩)) (ZbR (O.length:Int)) [])) (fun _ _ _ _ h=>h)
 obtain ⟨F,G⟩:=G.nM [11,10,8,3,2,1,0] [103,102,101,0]
 rw [ZfN ow] at G
 refine Za (Ya (Ze G (qR rr (qR rr (qf (o_indexAddr_row (sz:=1) 102 (.mk Ycd kr) .is .t ow (by rw [YU];omega) (by rfl)) r2 r1 (qf (ZH (R:=Zm) (sz:=1) (v:=0) 102 .t (by intro x;rfl) (by rw [YU];omega) qi Z one_int kr) r1 r1 qZ)))) V [11,10,8,3,2,1,0] [103,102,101,0] Z Z fun a w F G=>?_))
 try simp only [Yb] at G
 refine Za (Ya (rZ G (qR rr (qR rr (qf (ZJ 103 (ZcC qb (O.length:Int) [] node (by simp;omega)) func207 Z kr (Args.two .t .t)) r2 r1 qZ))) V [11,10,8,3,1,0] [103,102,101,0] fun G=>(Ya (Ya ?_))))
 refine rZ G (qR rr (qf (ZJ 103 (Zh0 qb (O.length:Int) [node]) func208 Z kr (Args.one .t)) r1 r1 (qR rr (qf (o_extract .t Z) r1 qz (qf (o_extract .t Z) r1 qz (qO rr (qO rr qZ))))))) V [13,12,11,10,8,3,1,0] [103,102,101,0] fun G=>Yg ?_
 refine Zj (σ:=List Int×List Int) [0,1,3,8,10,11] [0,101] (fun s=>[(12,.pv (.int .i64 (s.2.headD 0))),(13,.pv (.bool (decide (s.2≠[]))))]) (fun s=>[(102,.ob (.val v21) (Zw 3 1 Zm s.1)),(103,RS.hp (rqH (.pointer (some ⟨qb,0,none⟩)) (O.length:Int) s.2.tail))]) (fun s=>Zeb O.length (fun x=>adjO I mask x) least node s.1 s.2) (fun s=>2*negC s.1+s.2.length) (_,([node])) G ⟨rfl,rfl,rfl,rfl,rfl,rfl,rfl,rfl,tv⟩ ⟨rfl,rfl,rfl,rfl,tv⟩ (Zeb.first ⟨hs1,by omega⟩) ?_
 clear G;intro s a w F hC G
 obtain ⟨d,q⟩:=s
 try dsimp only at hC
 obtain ⟨F,G⟩:=G.nM [13,12,11,10,8,3,1,0] [103,102,101,0]
 try dsimp only at G
 have hBI:Zeb O.length (fun x=>adjO I mask x) least node d q:=hC
 refine Ya (Ya (rZ G (qR rr qZ) V [41,13,12,11,10,8,3,1,0] [103,102,101,0] fun G=>?_))
 refine Zc G Z (fun hc1=>?_) (fun hc1=>?_)
 ·obtain ⟨x,q,rfl⟩:∃ x l,q=x :: l:=List.exists_cons_of_ne_nil (by simpa using hc1)
  try dsimp only [List.headD_cons,List.tail_cons] at G
  have hM0:=hBI.pop
  have hpx:=hpl x
  refine Ye (Za (Ya (Yg (Ya (rZ G (qR rr (qR rr (qR rr (qf (oP (ZhK O I m x mask (fun l hl=>(h.inn.r hE l hl).1) (by rw [h.ol,h.il])) func209 (Args.three .t .t .t)) r3 qz (qu Ycd r1 (qJ qZ)))))) V [52,51,50,13,12,11,10,8,3,1,0] [103,102,101,0] fun G=>Yg ?_)))))
  refine Zj (σ:=(Nat)×(List Int)×(List Int)) [0,1,3,8,10,11,12,13,50,51] [0,101] (fun s=>[(52,.pv (.int .i64 (s.1:Int)))]) (fun s=>[(102,.ob (.val v21) (Zw 3 1 Zm s.2.1)),(103,RS.hp (rqH (.pointer (some ⟨qb,0,none⟩)) (O.length:Int) s.2.2))]) (fun s=>s.1≤(adjO I mask x).length∧(Zc0 O.length (fun x=>adjO I mask x) least node s.2.1 s.2.2 x ((adjO I mask x).take s.1)∧2*negC s.2.1+s.2.2.length≤2*negC d+q.length)) (fun s=>(adjO I mask x).length - s.1) ((0),(d),(q)) G ⟨rfl,rfl,rfl,rfl,rfl,rfl,rfl,rfl,rfl,rfl,rfl,tv⟩ ⟨rfl,rfl,rfl,rfl,tv⟩ ⟨Yy _,⟨hM0,YL _⟩⟩ ?_
  clear G;intro s a w F hC G
  obtain ⟨i,d2,q2⟩:=s
  try dsimp only at hC
  obtain ⟨F,G⟩:=G.nM [52,51,50,13,12,11,10,8,3,1,0] [103,102,101,0]
  try dsimp only at G
  obtain ⟨hi,hq⟩:=hC
  obtain ⟨hM,hmu⟩:=hq
  have hdl:=hM.1.len
  have hxr:=hM.1.here
  have hxv:=hM.val
  have hqr:=hM.1.room
  refine Ya (rZ G (qL r2) V [53,52,51,50,13,12,11,10,8,3,1,0] [103,102,101,0] fun G=>Ya ?_)
  refine Zc G Z (fun hc2=>?_) (fun hc2=>?_)
  ·have hil:i<(adjO I mask x).length:=by simp at hc2;omega
   have hur:=hpr x _ (nth_mem hil)
   refine Ye (Za (Ya (Yg (Ya (Ze G (qy 1 Ycd r2 (qf (oR false 1 .t) r1 qz (qO rr qZ))) V [52,51,50,15,13,12,11,10,8,3,1,0] [103,102,101,0] Z Z fun a w F G=>?_)))))
   try simp only [Yb] at G
   refine Za (Ya (Ze G (qR rr (qR rr (qf (Zbq .t .t) r2 qz (qR rr (qm Z Z Z Z (qm Z Z Z Z (qk Z (fun h=>o_indexAddr_row (sz:=1) 102 (.mk Ycd kr) (.w h .is) (.w h) ow ow (by rfl)) r3 r1 (qk Z (fun h=>Zt (ag:=false) (sz':=1) (sz:=1) 102 (.w h) (by intro x;rfl) ow kr kr kr) r2 r1 (qk Z (fun h=>ZaD (.w h) qi) r2 qz (qf (ZD .t .t) r2 qz qZ)))))))))) V [65,52,51,50,15,13,12,11,10,8,3,1,0] [103,102,101,0] Z Z fun a w F G=>?_))
   try simp only [Yb] at G
   refine Za (Zc G Z (fun hc3=>?_) (fun hc3=>?_))
   ·have hput:least≤(Nn (adjO I mask x) i)∧fI d2 (Nn (adjO I mask x) i)<0:=by rw [ZaN hur.1];simpa using hc3
    obtain ⟨hP1,hP2⟩:=hM.put hur (nth_mem hil) hput.1 hput.2
    have hval:IntKind.wrap .i64 (Nn d2 x.toNat+1)=fI d2 x+1:=by rw [ZaN hxr.1];rw [ZaN hxr.1] at hxv;exact Zy ow
    refine Ya (Ze G (qR rr (qR rr (qR rr (qR rr (qf (o_indexAddr_row (sz:=1) 102 (.mk Ycd kr) .is .t ow ow (by rfl)) r2 r1 (qf (Zt (ag:=false) (sz':=1) (sz:=1) 102 .t (by intro x;rfl) ow kr kr kr) r1 r1 (qp r1 (qf (o_indexAddr_row (sz:=1) 102 (.mk Ycd kr) .is .t ow ow (by rfl)) r2 r1 (qf (ZH (R:=Zm) (sz:=1) (v:=_) 102 .t (by intro x;rfl) ow .t Z one_int kr) r2 r1 qZ))))))))) V [52,51,50,15,13,12,11,10,8,3,1,0] [103,102,101,0] Z Z fun a w F G=>?_)
    try simp only [Yb] at G
    rw [hval] at G
    refine Za (Ze G (qR rr (qR rr (qf (ZJ 103 (ZcC qb (O.length:Int) q2 (Nn (adjO I mask x) i) ow) func207 Z kr (Args.two .t .t)) r2 r1 qZ))) V [52,51,50,13,12,11,10,8,3,1,0] [103,102,101,0] Z Z fun a w F G=>Zh (Za ?_))
    refine rZ G (qp r1 (qR rr qZ)) V [52,51,50,13,12,11,10,8,3,1,0] [103,102,101,0] fun G=>?_
    have hmu3:2*negC (d2.set (Nn (adjO I mask x) i).toNat (fI d2 x+1))+(q2 ++ [(Nn (adjO I mask x) i)]).length≤2*negC d+q.length:=by rw [Yd,YM];omega
    replace G:=G.ent (i:=52) (s':=.pv (.int .i64 ((i+1:Nat):Int))) Z (.int (Zd ow))
    obtain ⟨F,G⟩:=G.nM [51,50,13,12,11,10,8,3,1,0,52] [101,0,103,102]
    exact ⟨((i+1),_,(q2 ++ [(Nn (adjO I mask x) i)])),F,⟨by omega,⟨by rw [Zo hil];exact hP1,hmu3⟩⟩,G,by omega⟩
   have hsk:least≤(Nn (adjO I mask x) i)→0≤fI d2 (Nn (adjO I mask x) i):=fun h9=>by rw [ZaN hur.1];have h8:=hc3;simp at h8;exact h8 h9
   refine Ye (Zh (Za (rZ G (qp r1 (qR rr qZ)) V [52,51,50,13,12,11,10,8,3,1,0] [103,102,101,0] fun G=>?_)))
   replace G:=G.ent (i:=52) (s':=.pv (.int .i64 ((i+1:Nat):Int))) Z (.int (Zd ow))
   obtain ⟨F,G⟩:=G.nM [51,50,13,12,11,10,8,3,1,0,52] [101,0,103,102]
   exact ⟨((i+1),_,_),F,⟨by omega,⟨by rw [Zo hil];exact hM.skip hur hsk,hmu⟩⟩,G,by omega⟩
  have hil:i=(adjO I mask x).length:=by simp at hc2;omega
  have hBI2:Zeb O.length (fun x=>adjO I mask x) least node d2 q2:=by rw [hil,Yz] at hM;exact hM.done
  have hmu2:2*negC d2+q2.length<2*negC d+(x :: q).length:=by rw [Yl];omega
  refine Yx (Zi (Zi (Zn (Zh (Za (rZ G (qR rr (qf (ZJ 103 (Zh0 qb (O.length:Int) q2) func208 Z kr (Args.one .t)) r1 r1 (qR rr (qf (o_extract .t Z) r1 qz (qf (o_extract .t Z) r1 qz (qO rr (qO rr qZ))))))) V [13,12,11,10,8,3,1,0] [103,102,101,0] fun G=>?_))))))
  obtain ⟨F,G⟩:=G.nM [11,10,8,3,1,0,13,12] [101,0,103,102]
  exact ⟨((d2),(q2)),F,hBI2,G,hmu2⟩
 have hqe:q = []:=by simpa using hc1
 subst hqe
 have hfin:d=D:=(ZnL.dist hpr hBI.1).one hD
 refine Yx (Zi (Zi (Zn (Za (Ya (rZ G (qR rr (qO rr qZ)) V [8] [103,102,101,0] fun G=>Yh ?_))))))
 obtain ⟨F,G⟩:=G.give 102 8 Z rfl
 refine Zs hfr G Z Z Z (.sl hfin)
def ZdO (p q:Int→List Int) (s:Int):List Int:=(p (s / 2)).map (fun u=>2*u+s % 2)++(q (s / 2)).map fun u=>2*u+1
def ZaU (n:Nat) (d:List Int):List Int:=(List.range n).map fun u=>Nn d (2*u+1)
theorem sh1 (s:Int):s.fdiv (2 ^ min (1:Int).toNat (IntKind.bits .i64))=s / 2:=by
 have e:min (1:Int).toNat (IntKind.bits .i64)=1:=by decide
 rw [e]
 exact YaQ _ (by decide)
theorem ZjR (x:Nat) (hx:x<18446744073709551616):(BitVec.ofInt 64 (x:Int)).toNat=x:=by rw [YaF];omega
theorem and1m {s:Int} (h:0≤s∧s≤1000000):bits .and .i64 s 1=s % 2:=by
 obtain ⟨n,rfl⟩:=Yae h.1
 show IntKind.wrap .i64 (((BitVec.ofInt 64 (n:Int) &&& BitVec.ofInt 64 ((1:Nat):Int)).toNat:Nat):Int)=_
 rw [Ybq,ZjR n ow,ZjR 1 ow,Nat.and_one_is_mod,Zy ow]
 omega
theorem ZiO {u h:Int} (hu:0≤u∧u≤65536) (hh:h=0∨h=1):bits .or .i64 (IntKind.wrap .i64 (u*2 ^ min (1:Int).toNat (IntKind.bits .i64))) h=2*u+h:=by
 have e:min (1:Int).toNat (IntKind.bits .i64)=1:=by decide
 rw [e,show (2:Int) ^ 1=2 from rfl,Zy ow]
 obtain ⟨n,rfl⟩:=Yae hu.1
 obtain ⟨k,rfl⟩:=Yae (show 0≤h by omega)
 show IntKind.wrap .i64 (((BitVec.ofInt 64 ((n*2:Nat):Int) ||| BitVec.ofInt 64 ((k:Nat):Int)).toNat:Nat):Int)=_
 rw [BitVec.toNat_or,ZjR k ow,ZjR _ ow,show n*2=n <<< 1 by rw [Nat.shiftLeft_eq],← Nat.shiftLeft_add_eq_or_of_lt ow,Nat.shiftLeft_eq,Zy ow]
 omega
def ZcD (n:Nat) (d:List Int):List Int:=(List.range n).map fun u=>Nn d (2*u)
theorem Zaz {n:Nat} {d:List Int} : (ZcD n d).length=n:=by simp [ZcD]
theorem ZaR {n:Nat} {d:List Int} : (ZaU n d).length=n:=by simp [ZaU]
theorem Zcn {n:Nat} {d:List Int} {u:Nat} (h:u<n):Nn (ZcD n d) u=Nn d (2*u):=by rw [nth_eq (by rw [Zaz];exact h)];simp [ZcD]
theorem Zdp {n:Nat} {d:List Int} {u:Nat} (h:u<n):Nn (ZaU n d) u=Nn d (2*u+1):=by rw [nth_eq (by rw [ZaR];exact h)];simp [ZaU]
theorem Zfh {n:Nat} {d:List Int} {u:Int} (h:0≤u∧u<n):Nn (ZcD n d) u.toNat=fI d (2*u+0):=by
 rw [ZaN ow,Zcn ow];congr 1;omega
theorem ZbP {n:Nat} {d:List Int} {u:Int} (h:0≤u∧u<n):Nn (ZaU n d) u.toNat=fI d (2*u+1):=by
 rw [ZaN ow,Zdp ow];congr 1;omega
theorem Zjk {n:Nat} {d:List Int} {u c:Int} (hd:d.length=2*n) (h:0≤u∧u<n):ZcD n (d.set (2*u+0).toNat c)=(ZcD n d).set u.toNat c:=by
 refine ZaW (by rw [YJ,Zaz,Zaz]) fun j hj=>?_
 rw [Zaz] at hj
 rw [ZcB (by rw [Zaz];omega),Zcn hj,Zcn hj,ZcB ow]
 by_cases e:j=u.toNat
 ·rw [Yf e,Yf ow]
 ·rw [Yc e,Yc ow]
theorem Zim {n:Nat} {d:List Int} {u c:Int} (hd:d.length=2*n) (h:0≤u∧u<n):ZaU n (d.set (2*u+1).toNat c)=(ZaU n d).set u.toNat c:=by
 refine ZaW (by rw [YJ,ZaR,ZaR]) fun j hj=>?_
 rw [ZaR] at hj
 rw [ZcB (by rw [ZaR];omega),Zdp hj,Zdp hj,ZcB ow]
 by_cases e:j=u.toNat
 ·rw [Yf e,Yf ow]
 ·rw [Yc e,Yc ow]
theorem Zeq {n:Nat} {d:List Int} {u c:Int} (hd:d.length=2*n) (h:0≤u∧u<n):ZcD n (d.set (2*u+1).toNat c)=ZcD n d:=by
 refine ZaW (by rw [Zaz,Zaz]) fun j hj=>?_
 rw [Zaz] at hj
 rw [Zcn hj,Zcn hj,ZcB ow,Yc ow]
theorem ZjE {n:Nat} {d:List Int} {u c:Int} (hd:d.length=2*n) (h:0≤u∧u<n):ZaU n (d.set (2*u+0).toNat c)=ZaU n d:=by
 refine ZaW (by rw [ZaR,ZaR]) fun j hj=>?_
 rw [ZaR] at hj
 rw [Zdp hj,Zdp hj,ZcB ow,Yc ow]
theorem Zqa (n:Nat):ZcD n (List.replicate (2*n) (-1))=List.replicate n (-1):=by
 refine ZaW (by rw [Zaz,YU]) fun j hj=>?_
 rw [Zaz] at hj
 rw [Zcn hj,nth_eq (by simp;omega),nth_eq (by simp;omega)];simp
theorem ZrW (n:Nat):ZaU n (List.replicate (2*n) (-1))=List.replicate n (-1):=by
 refine ZaW (by rw [ZaR,YU]) fun j hj=>?_
 rw [ZaR] at hj
 rw [Zdp hj,nth_eq (by simp;omega),nth_eq (by simp;omega)];simp
theorem ZoL {n:Nat} {p q:Int→List Int} (hp:∀ x,∀ u ∈ p x,0≤u∧u<(n:Int)) (hq:∀ x,∀ u ∈ q x,0≤u∧u<(n:Int)):∀ s,∀ u ∈ ZdO p q s,0≤u∧u<((2*n:Nat):Int):=fun s u hu=>by
 rcases YA.1 hu with hu | hu
 ·obtain ⟨v,hv,rfl⟩:=Yu.1 hu
  have:=hp _ v hv;omega
 ·obtain ⟨v,hv,rfl⟩:=Yu.1 hu
  have:=hq _ v hv;omega
def Zwb (a b:List Int) (h:Int):Nat→List Int
 | 0=>[]
 | 1=>a.map fun u=>2*u+h
 | _=>(a.map fun u=>2*u+h)++b.map fun u=>2*u+1
section
variable {P:Program} {d:Option Nat} {ty:TypeId} {pos:String} {af:Array Edge} {g:Option (Nat×Bool)} {x y:Operand} {ps qs:List (Nat×SF)} {t:TypeId} {α:Type}
theorem PVs.pick1 [Inhabited α] {p:α→PV} {w:World} {yy:Ys} : ∀ {l:List α} {vs:List Value} (i:Nat),PVs (l.map p) vs w yy→i<l.length → ∃ v,vs[i]? = some v∧(p (Nn l i)).p v w yy
 | [],_,i,_,h=>by simp at h
 | _ :: _,[],_,h,_=>h.elim
 | z :: l,v :: vs,0,h,_=>⟨v,rfl,h.1.2⟩
 | z :: l,v :: vs,i+1,h,hi=>by
  obtain ⟨u,h1,h2⟩:=PVs.pick1 (l:=l) (vs:=vs) i h.2 (by simpa using hi)
  exact ⟨u,by simpa using h1,by rw [nth_eq hi];rw [nth_eq (by simpa using hi)] at h2;simpa using h2⟩
theorem ZgC [Inhabited α] {e n:Nat} {l:List α} {p:α→PV} {k:IntKind} {i:Int} (hu:P.underlying t=some (.array n e)) (ha:P.aggB e=some false) (hs:(P.info? e).map (·.size)=some 1) (hx:Opd x ps (.pv (.agg (l.map p)))) (hy:Opd y qs (.pv (.int k i))) (h0:0≤i) (h1:i<n) (hn:l.length=n) :
  OpC P ⟨d,.index t x y,ty,pos,af,g⟩ ⟨ps++qs,[],.pv (p (Nn l i.toNat)),[]⟩:=
 OpC.pure fun a w yy hp=>by
  obtain ⟨vs,e1,hv⟩:=hx a w yy hp.left
  have e2:=(hy a w yy hp.right).1
  obtain ⟨v,h2,h3⟩:=PVs.pick1 i.toNat hv ow
  refine ⟨v,?_,fun _ _=>h3⟩
  simp [execOp,Instr.index,e1,e2,asIntOf,asInt,Ym hu,Yf (And.intro h0 h1),part,Go.Gm.run_isAgg ha,Go.Gm.run_sizeOf hs,h2]
end
theorem Zvh (E:List Zx) (O I:List (List Z9)) (m:Nat) (mask must node least mn mm:Int) (hmn:bits .andNot .i64 mask must=mn) (hmm:bits .and .i64 mask must=mm) (hne:mn≠mm) (h:ZbO O.length E O I) (hn1:1≤O.length) (hn:O.length≤4096) (hE:E.length≤1000000) (hs0:least≤node) (hs1:0≤node) (hs2:node<O.length) (D:List Int) (hD:Zdt (2*O.length) (ZdO (fun x=>adjO I mn x) (fun x=>adjO I mm x)) (2*least) (2*node) D):FnP prog 170 [ZeJ O I m,.int .i64 mask,.int .i64 must,.int .i64 node,.int .i64 least] (.sl Zm (ZaU O.length D)):=by
 refine FnP.mk func170 Z ntmps170 Z fun B a w F V hfr G=>?_
 obtain ⟨hpn,hln⟩:=h.prevR mn
 obtain ⟨hpm,hlm⟩:=h.prevR mm
 have hpr:=ZoL hpn hpm
 have hw2:IntKind.wrap .i64 (2*(O.length:Int))=(2*(O.length:Int)):=Zy ow
 have hB0:Zeb (2*O.length) (ZdO (fun x=>adjO I mn x) (fun x=>adjO I mm x)) (2*least) (2*node) ((List.replicate (2*O.length) (-1)).set (2*node).toNat 0) [2*node]:=Zeb.first ⟨by omega,by omega⟩
 have hev0:ZcD O.length ((List.replicate (2*O.length) (-1)).set (2*node+0).toNat 0)=(List.replicate O.length (-1)).set node.toNat 0:=by rw [Zjk (by simp) ⟨hs1,hs2⟩,Zqa]
 have hod0:ZaU O.length ((List.replicate (2*O.length) (-1)).set (2*node+0).toNat 0)=List.replicate O.length (-1):=by rw [ZjE (by simp) ⟨hs1,hs2⟩,ZrW]
 refine Ya (rZ G (qC qZ) V [10,4,3,2,1,0] [0] fun G=>Ya ?_)
 refine Zb G (qR rr (qR rr (qR rr (qf (oB [(0,.tmp 23),(1,.tmp 24),(2,.tmp 25)] [.pointer none,.int .i64 0,.int .i64 0] [(0,1),(1,1),(2,1)] (.one Z .t Zh3 kr (.one Z .t one_int kr (.one Z .t one_int kr .nil)))) r3 qz (qf (oH [.pointer none,.int .i64 0,.int .i64 0] 101) trivial qz (qS 3 101 r2 r1 qZ)))))) V [11,10,4,3,2,1,0] [101,0] (fun _=>rfl) (fun _=>rfl) fun τ a w F G=>?_
 try dsimp only [RS.sub,SF.sub,CF.sub,csub,Anc.sub,List.map,Zf,xL,xM,Nat.reduceAdd,xD,xE,xT,xU,xC,xN,zCF,Zm] at G
 generalize τ 11=v11 at G
 refine Za (Ya ?_)
 replace G:=G.fresh 102 rfl
 replace G:=G.fresh 103 rfl
 refine Zax G (qe 3 101 r1 r1 (qf (Zaq 102 (Zn4 O I m mask least ow ow) func204 Z kr (Args.one (.pagg .t)) pvOne1) r1 r1 (qe 3 101 r1 r1 (qf (Zaq 103 (Zn4 O I m mask least ow ow) func204 Z kr (Args.one (.pagg .t)) pvOne1) r1 r1 (qf (Zbr (sz:=1) (r:=[(0,.tmp 28),(1,.tmp 30)]) (zs:=[.slice none 0 0,.slice none 0 0]) (pl:=[(0,1),(1,1)]) Ycm kr kr Z (.same Z kr (.same Z kr .nil)) (by rfl)) r2 qz (qf (oH [.slice none 0 0,.slice none 0 0] 104) trivial qz (qS 2 104 r2 r1 qZ))))))) V [12,11,10,4,3,2,1,0] [104,103,102,101,0] (fun _=>rfl) (fun _=>rfl) fun τ a w F G=>?_
 try dsimp only [RS.sub,SF.sub,CF.sub,csub,Anc.sub,List.map,Zf,xL,xM,Nat.reduceAdd,xD,xE,xT,xU,xC,xN,zCF,ldSF,Zm] at G
 generalize τ 12=v12,τ 28=v28,τ 30=v30 at G
 refine Za (Ya (Ya (rZ G (qe 3 101 r1 r1 (qR rr (qf (oP (Zqm O I m mask least node) func205 (Args.two (.pagg .t) .t)) r2 qz (qf (o_not .t) r1 qz qZ)))) V [35,12,10,4,3,2,1,0] [104,103,102,101,0] fun G=>?_)))
 refine Zc G Z (fun hc0=>?_) (fun hc0=>?_)
 ·simp at hc0;omega
 refine Ye (Za (Ya ?_))
 replace G:=G.fresh 105 rfl
 refine Zb G (qR rr (qf (oP (Zch O I m) func158 (Args.one .t)) r1 qz (qf (ZmL qi .t) r1 qz (qf (Zaq 105 (Zpg _) func206 Z kr (Args.one .t) PV.ptr_one) r1 r1 (qO rr qZ))))) V [13,12,10,4,3,2,1,0] [105,104,103,102,101,0] (fun _=>rfl) (fun _=>rfl) fun τ a w F G=>?_
 try dsimp only [RS.sub,SF.sub,CF.sub,csub,Anc.sub,List.map,Zm] at G
 generalize τ 41=v41 at G
 obtain ⟨_,_,_,ho⟩:=G.obGet 105 rfl
 obtain ⟨qb,rfl⟩:=ZpW ho
 clear ho
 replace G:=G.turn 105 Z (r':=RS.hp (rqH (.pointer (some ⟨qb,0,none⟩)) (ZbR (IntKind.wrap .i64 (2*(O.length:Int)))) [])) (fun _ _ _ _ h=>h)
 obtain ⟨F,G⟩:=G.nM [13,12,10,4,3,2,1,0] [105,104,103,102,101,0]
 rw [hw2,ZfN ow] at G
 refine Za (Ya (Ze G (qf (ZE (sz:=1) 104 Ycm kr .is qi (by decide) (by decide) (by rfl)) r1 r1 (qa 104 r1 r1 (qR rr (qf (o_indexAddr_row (sz:=1) 102 (.mk Ycd kr) .is .t ow (by rw [YU];omega) (by rfl)) r2 r1 (qf (ZH (R:=Zm) (sz:=1) (v:=0) 102 .t (by intro x;rfl) (by rw [YU];omega) qi Z one_int kr) r1 r1 qZ))))) V [13,12,10,4,3,2,1,0] [105,104,103,102,101,0] Z Z fun a w F G=>?_))
 try simp only [Yb] at G
 rw [← hev0,← hod0] at G
 refine Za (Ya (rZ G (qR rr (qR rr (qf (o_shl .t qi (by decide)) r1 qz (qf (ZsO .t qi) r1 qz (qf (ZJ 105 (ZcC qb (2*(O.length:Int)) [] (2*node+0) (by simp;omega)) func207 Z kr (Args.two .t (.conv .t (Ent.int (ZiO ⟨by omega,by omega⟩ (.inl Z)))))) r2 r1 qZ))))) V [13,12,10,4,2,1,0] [105,104,103,102,101,0] fun G=>(Ya (Ya ?_))))
 refine Ze G (qR rr (qf (ZJ 105 (Zh0 qb (2*(O.length:Int)) [2*node+0]) func208 Z kr (Args.one .t)) r1 r1 (qR rr (qf (o_extract .t Z) r1 qz (qf (o_extract .t Z) r1 qz (qO rr (qO rr qZ))))))) V [15,14,13,12,10,4,2,1,0] [105,104,103,102,101,0] Z Z fun a w F G=>?_
 try rw [Int.add_zero] at G
 refine Za (Yg (Zj (σ:=List Int×List Int) [0,1,2,4,10,12,13] [0,101,104] (fun s=>[(14,.pv (.int .i64 (s.2.headD 0))),(15,.pv (.bool (decide (s.2≠[]))))]) (fun s=>[(102,.ob (.val v28) (Zw 3 1 Zm (ZcD O.length s.1))),(103,.ob (.val v30) (Zw 3 1 Zm (ZaU O.length s.1))),(105,RS.hp (rqH (.pointer (some ⟨qb,0,none⟩)) (2*(O.length:Int)) s.2.tail))]) (fun s=>Zeb (2*O.length) (ZdO (fun x=>adjO I mn x) (fun x=>adjO I mm x)) (2*least) (2*node) s.1 s.2) (fun s=>2*negC s.1+s.2.length) (_,([2*node])) G ⟨rfl,rfl,rfl,rfl,rfl,rfl,rfl,rfl,rfl,tv⟩ ⟨rfl,rfl,rfl,rfl,rfl,rfl,tv⟩ hB0 ?_))
 clear G;intro s a w F hC G
 obtain ⟨d,q⟩:=s
 try dsimp only at hC
 obtain ⟨F,G⟩:=G.nM [15,14,13,12,10,4,2,1,0] [105,104,103,102,101,0]
 try dsimp only at G
 have hBI:Zeb (2*O.length) (ZdO (fun x=>adjO I mn x) (fun x=>adjO I mm x)) (2*least) (2*node) d q:=hC
 refine Ya (Ya (rZ G (qR rr qZ) V [56,15,14,13,12,10,4,2,1,0] [105,104,103,102,101,0] fun G=>?_))
 refine Zc G Z (fun hc1=>?_) (fun hc1=>?_)
 ·obtain ⟨x,q,rfl⟩:∃ x l,q=x :: l:=List.exists_cons_of_ne_nil (by simpa using hc1)
  try dsimp only [List.headD_cons,List.tail_cons] at G
  have hM0:=hBI.pop
  have hxh:=hM0.1.here
  have hxa:0≤x / 2∧x / 2<(O.length:Int):=by omega
  refine Ye (Za (Ya (Yg (Ya (Ze G (qR rr (qf (Zcb .t qi (by decide)) r1 qz (qR rr (qf (o_and .t qi) r1 qz (qO rr (qO rr qZ)))))) V [17,16,15,14,13,12,10,4,2,1,0] [105,104,103,102,101,0] Z Z fun a w F G=>?_)))))
  rw [sh1,and1m ow] at G
  refine Za (Ya (Ze G (qR rr (qR rr (qf (Zk7 .t .t) r2 qz (qR rr (qR rr (qf (o_and .t .t) r2 qz (qf (Zbr (sz:=1) (r:=[(0,.tmp 68),(1,.tmp 71)]) (zs:=[.int .i64 0,.int .i64 0]) (pl:=[(0,1),(1,1)]) Ycq kr kr Z (.one Z .t one_int kr (.one Z .t one_int kr .nil)) (by rfl)) r2 qz (qJ qZ)))))))) V [73,72,17,16,15,14,13,12,10,4,2,1,0] [105,104,103,102,101,0] Z Z fun a w F G=>?_))
  rw [hmn,hmm] at G
  refine Za (Yg (Zj (σ:=Nat×List Int×List Int) [0,1,2,4,10,12,13,14,15,16,17,72] [0,101,104] (fun s=>[(73,.pv (.int .i64 (s.1:Int)))]) (fun s=>[(102,.ob (.val v28) (Zw 3 1 Zm (ZcD O.length s.2.1))),(103,.ob (.val v30) (Zw 3 1 Zm (ZaU O.length s.2.1))),(105,RS.hp (rqH (.pointer (some ⟨qb,0,none⟩)) (2*(O.length:Int)) s.2.2))]) (fun s=>s.1≤2∧Zc0 (2*O.length) (ZdO (fun x=>adjO I mn x) (fun x=>adjO I mm x)) (2*least) (2*node) s.2.1 s.2.2 x (Zwb (adjO I mn (x / 2)) (adjO I mm (x / 2)) (x % 2) s.1)∧2*negC s.2.1+s.2.2.length≤2*negC d+q.length) (fun s=>2 - s.1) ((0),(d),(q)) G ⟨rfl,rfl,rfl,rfl,rfl,rfl,rfl,rfl,rfl,rfl,rfl,rfl,rfl,tv⟩ ⟨rfl,rfl,rfl,rfl,rfl,rfl,tv⟩ ⟨by omega,hM0,YL _⟩ ?_))
  clear G;intro s a w F hC G
  obtain ⟨j,d1,q1⟩:=s
  try dsimp only at hC
  obtain ⟨F,G⟩:=G.nM [73,72,17,16,15,14,13,12,10,4,2,1,0] [105,104,103,102,101,0]
  try dsimp only at G
  obtain ⟨hj2,hM1,hmu1⟩:=hC
  refine Ya (rZ G (qf (ZaD .t qi) r1 qz qZ) V [74,73,72,17,16,15,14,13,12,10,4,2,1,0] [105,104,103,102,101,0] fun G=>Ya ?_)
  refine Zc G Z (fun hc2=>?_) (fun hc2=>?_)
  ·have hj3:j<2:=by simp at hc2;omega
   refine Ye (Za (Ya (Yg (Ya ?_))))
   by_cases hfk:j=0
   ·subst hfk
    refine Ze G (qf (ZgC (l:=[mn,mm]) (p:=(fun y=>PV.int .i64 y)) Ycq kr kr (.conv .t (.aggU Z Z)) .t ow ow Z) r2 qz (qO rr qZ)) V [73,72,19,17,16,15,14,13,12,10,4,2,1,0] [105,104,103,102,101,0] Z Z fun a w F G=>?_
    try simp only [Yb] at G
    rw [show Nn [mn,mm] 0=mn from rfl] at G
    refine Za (Ya (rZ G (qR rr (qO rr qZ)) V [73,72,20,19,17,16,15,14,13,12,10,4,2,1,0] [105,104,103,102,101,0] fun G=>(Ya (Ya ?_))))
    refine Ze G (qR rr (qR rr (qR rr (qf (o_and .t .t) r2 qz (qf (o_eql .t .t) r2 qz qZ))))) V [81,73,72,20,19,17,16,15,14,13,12,10,4,2,1,0] [105,104,103,102,101,0] Z Z fun a w F G=>?_
    rw [hmm] at G
    refine Za (Zc G Z (fun hc3=>?_) (fun hc3=>?_))
    ·exact (hne (Yr hc3)).elim
    refine Ye (Za (Ya (rZ G (qR rr (qR rr (qR rr (qf (oP (ZhK O I m (x / 2) mn (fun l hl=>(h.inn.r hE l hl).1) (by rw [h.ol,h.il])) func209 (Args.three .t .t .t)) r3 qz (qu Ycd r1 (qJ qZ)))))) V [87,86,85,73,72,20,17,16,15,14,13,12,10,4,2,1,0] [105,104,103,102,101,0] fun G=>Yg ?_)))
    refine Zj (σ:=(Nat)×(List Int)×(List Int)) [0,1,2,4,10,12,13,14,15,16,17,20,72,73,85,86] [0,101,104] (fun s=>[(87,.pv (.int .i64 (s.1:Int)))]) (fun s=>[(102,.ob (.val v28) (Zw 3 1 Zm (ZcD O.length s.2.1))),(103,.ob (.val v30) (Zw 3 1 Zm (ZaU O.length s.2.1))),(105,RS.hp (rqH (.pointer (some ⟨qb,0,none⟩)) (2*(O.length:Int)) s.2.2))]) (fun s=>s.1≤(adjO I mn (x / 2)).length∧(Zc0 (2*O.length) (ZdO (fun x=>adjO I mn x) (fun x=>adjO I mm x)) (2*least) (2*node) s.2.1 s.2.2 x ([] ++ ((adjO I mn (x / 2)).take s.1).map fun u=>2*u+x % 2)∧2*negC s.2.1+s.2.2.length≤2*negC d+q.length)) (fun s=>(adjO I mn (x / 2)).length - s.1) ((0),(d1),(q1)) G ⟨rfl,rfl,rfl,rfl,rfl,rfl,rfl,rfl,rfl,rfl,rfl,rfl,rfl,rfl,rfl,rfl,rfl,tv⟩ ⟨rfl,rfl,rfl,rfl,rfl,rfl,tv⟩ ⟨Yy _,⟨hM1,hmu1⟩⟩ ?_
    clear G;intro s a w F hC G
    obtain ⟨i,d2,q2⟩:=s
    try dsimp only at hC
    obtain ⟨F,G⟩:=G.nM [87,86,85,73,72,20,17,16,15,14,13,12,10,4,2,1,0] [105,104,103,102,101,0]
    try dsimp only at G
    obtain ⟨hi,hq⟩:=hC
    obtain ⟨hM,hmu⟩:=hq
    have hdl:=hM.1.len
    have hxr:=hM.1.here
    have hxv:=hM.val
    have hqr:=hM.1.room
    have hpx:(adjO I mn (x / 2)).length≤O.length:=hln _
    have hel:(ZcD O.length d2).length=O.length:=Zaz
    have hol:(ZaU O.length d2).length=O.length:=ZaR
    refine Ya (rZ G (qL r2) V [88,87,86,85,73,72,20,17,16,15,14,13,12,10,4,2,1,0] [105,104,103,102,101,0] fun G=>Ya ?_)
    refine Zc G Z (fun hc4=>?_) (fun hc4=>?_)
    ·have hil:i<(adjO I mn (x / 2)).length:=by simp at hc4;omega
     have hur:0≤(Nn (adjO I mn (x / 2)) i)∧(Nn (adjO I mn (x / 2)) i)<(O.length:Int):=hpn _ _ (nth_mem hil)
     have hsr:0≤2*(Nn (adjO I mn (x / 2)) i)+x % 2∧2*(Nn (adjO I mn (x / 2)) i)+x % 2<(((2*O.length):Nat):Int):=by omega
     refine Ye (Za (Ya (Yg (Ya (Ze G (qy 1 Ycd r2 (qf (oR false 1 .t) r1 qz (qO rr qZ))) V [87,86,85,73,72,22,20,17,16,15,14,13,12,10,4,2,1,0] [105,104,103,102,101,0] Z Z fun a w F G=>?_)))))
     try simp only [Yb] at G
     refine Za (Ya ?_)
     by_cases hfk:x % 2=0
     ·refine Ze G (qR rr (qR rr (qf (Zbq .t .t) r2 qz (qR rr (qm Z Z Z Z (qk Z (fun h=>ZE (sz:=1) 104 Ycm kr .is (.conv (.w h) (.int hfk)) (by decide) (by decide) (by rfl)) r3 r1 (qw 104 Z r2 r1 (qm Z Z Z Z (qk Z (fun h=>o_indexAddr_row (sz:=1) 102 (.mk Ycd kr) (.w h .is) (.w h) ow ow (by rfl)) r3 r1 (qk Z (fun h=>Zt (ag:=false) (sz':=1) (sz:=1) 102 (.w h) (by intro x;rfl) ow kr kr kr) r2 r1 (qk Z (fun h=>ZaD (.w h) qi) r2 qz (qf (ZD .t .t) r2 qz qZ)))))))))))) V [102,87,86,85,73,72,22,20,17,16,15,14,13,12,10,4,2,1,0] [105,104,103,102,101,0] Z Z fun a w F G=>?_
      try simp only [Yb] at G
      refine Za (Zc G Z (fun hc5=>?_) (fun hc5=>?_))
      ·have hput:least≤(Nn (adjO I mn (x / 2)) i)∧fI d2 (2*(Nn (adjO I mn (x / 2)) i)+0)<0:=by rw [← Zfh hur];simpa using hc5
       rw [show 2*(Nn (adjO I mn (x / 2)) i)+(0:Int)=2*(Nn (adjO I mn (x / 2)) i)+x % 2 by omega] at hput
       obtain ⟨hP1,hP2⟩:=hM.put hsr (Yaf _ (Yu.2 ⟨_,nth_mem hil,rfl⟩)) ow hput.2
       have hval:IntKind.wrap .i64 (Nn (ZcD O.length d2) (x / 2).toNat+1)=fI d2 x+1:=by rw [Zfh hxa,show 2*(x / 2)+(0:Int)=x by omega];exact Zy ow
       refine Ya (Zv G (qR rr (qf (ZE (sz:=1) 104 Ycm kr .is (.conv .t (.int hfk)) (by decide) (by decide) (by rfl)) r2 r1 (qa 104 r1 r1 (qR rr (qR rr (qf (ZE (sz:=1) 104 Ycm kr .is (.conv .t (.int hfk)) (by decide) (by decide) (by rfl)) r2 r1 (qa 104 r1 r1 (qR rr (qf (o_indexAddr_row (sz:=1) 102 (.mk Ycd kr) .is .t ow ow (by rfl)) r2 r1 (qf (Zt (ag:=false) (sz':=1) (sz:=1) 102 .t (by intro x;rfl) ow kr kr kr) r1 r1 (qp r1 (qf (o_indexAddr_row (sz:=1) 102 (.mk Ycd kr) .is .t ow ow (by rfl)) r2 r1 (qf (ZH (R:=Zm) (sz:=1) (v:=_) 102 .t (by intro x;rfl) ow .t Z one_int kr) r2 r1 qZ))))))))))))) V [87,86,85,73,72,22,20,17,16,15,14,13,12,10,4,2,1,0] [105,104,103,102,101,0] Z Z fun a w F G=>?_)
       try dsimp only [List.map,Zf,xL,xM,Nat.reduceAdd,xD,xE,xT,xU,xC,xN,zCF,ldSF,Zm] at G
       try simp only [Yb] at G
       rw [hval,← Zjk hdl hur,← ZjE (c:=fI d2 x+1) hdl hur] at G
       rw [show 2*(Nn (adjO I mn (x / 2)) i)+(0:Int)=2*(Nn (adjO I mn (x / 2)) i)+x % 2 by omega] at G
       refine Za (Ze G (qR rr (qR rr (qf (o_shl .t qi (by decide)) r1 qz (qR rr (qf (ZsO .t .t) r2 qz (qf (ZJ 105 (ZcC qb (2*(O.length:Int)) q2 (2*(Nn (adjO I mn (x / 2)) i)+x % 2) ow) func207 Z kr (Args.two .t (.conv .t (Ent.int (ZiO ⟨by omega,by omega⟩ ow))))) r2 r1 qZ)))))) V [87,86,85,73,72,20,17,16,15,14,13,12,10,4,2,1,0] [105,104,103,102,101,0] Z Z fun a w F G=>Zh (Za ?_))
       refine rZ G (qp r1 (qR rr qZ)) V [87,86,85,73,72,20,17,16,15,14,13,12,10,4,2,1,0] [105,104,103,102,101,0] fun G=>?_
       have hmu3:2*negC (d2.set (2*(Nn (adjO I mn (x / 2)) i)+x % 2).toNat (fI d2 x+1))+(q2 ++ [2*(Nn (adjO I mn (x / 2)) i)+x % 2]).length≤2*negC d+q.length:=by rw [Yd,YM];omega
       replace G:=G.ent (i:=87) (s':=.pv (.int .i64 ((i+1:Nat):Int))) Z (.int (Zd ow))
       obtain ⟨F,G⟩:=G.nM [86,85,73,72,20,17,16,15,14,13,12,10,4,2,1,0,87] [104,101,0,105,103,102]
       exact ⟨((i+1),_,(q2 ++ [2*(Nn (adjO I mn (x / 2)) i)+x % 2])),F,⟨by omega,⟨by rw [Zo hil,YO,← YN];exact hP1,hmu3⟩⟩,G,by omega⟩
      have hsk:2*least≤2*(Nn (adjO I mn (x / 2)) i)+x % 2→0≤fI d2 (2*(Nn (adjO I mn (x / 2)) i)+x % 2):=fun h9=>by have h8:=hc5;rw [Zfh hur] at h8;rw [show 2*(Nn (adjO I mn (x / 2)) i)+(0:Int)=2*(Nn (adjO I mn (x / 2)) i)+x % 2 by omega] at h8;simp at h8;exact h8 ow
      refine Ye (Zh (Za (rZ G (qp r1 (qR rr qZ)) V [87,86,85,73,72,20,17,16,15,14,13,12,10,4,2,1,0] [105,104,103,102,101,0] fun G=>?_)))
      replace G:=G.ent (i:=87) (s':=.pv (.int .i64 ((i+1:Nat):Int))) Z (.int (Zd ow))
      obtain ⟨F,G⟩:=G.nM [86,85,73,72,20,17,16,15,14,13,12,10,4,2,1,0,87] [104,101,0,105,103,102]
      exact ⟨((i+1),_,_),F,⟨by omega,⟨by rw [Zo hil,YO,← YN];exact hM.skip hsr hsk,hmu⟩⟩,G,by omega⟩
     have hh1:x % 2=1:=by omega
     refine Ze G (qR rr (qR rr (qf (Zbq .t .t) r2 qz (qR rr (qm Z Z Z Z (qk Z (fun h=>ZE (sz:=1) 104 Ycm kr .is (.conv (.w h) (.int hh1)) (by decide) (by decide) (by rfl)) r3 r1 (qw 104 Z r2 r1 (qm Z Z Z Z (qk Z (fun h=>o_indexAddr_row (sz:=1) 103 (.mk Ycd kr) (.w h .is) (.w h) ow ow (by rfl)) r3 r1 (qk Z (fun h=>Zt (ag:=false) (sz':=1) (sz:=1) 103 (.w h) (by intro x;rfl) ow kr kr kr) r2 r1 (qk Z (fun h=>ZaD (.w h) qi) r2 qz (qf (ZD .t .t) r2 qz qZ)))))))))))) V [102,87,86,85,73,72,22,20,17,16,15,14,13,12,10,4,2,1,0] [105,104,103,102,101,0] Z Z fun a w F G=>?_
     try simp only [Yb] at G
     refine Za (Zc G Z (fun hc6=>?_) (fun hc6=>?_))
     ·have hput:least≤(Nn (adjO I mn (x / 2)) i)∧fI d2 (2*(Nn (adjO I mn (x / 2)) i)+1)<0:=by rw [← ZbP hur];simpa using hc6
      rw [show 2*(Nn (adjO I mn (x / 2)) i)+(1:Int)=2*(Nn (adjO I mn (x / 2)) i)+x % 2 by omega] at hput
      obtain ⟨hP1,hP2⟩:=hM.put hsr (Yaf _ (Yu.2 ⟨_,nth_mem hil,rfl⟩)) ow hput.2
      have hval:IntKind.wrap .i64 (Nn (ZaU O.length d2) (x / 2).toNat+1)=fI d2 x+1:=by rw [ZbP hxa,show 2*(x / 2)+(1:Int)=x by omega];exact Zy ow
      refine Ya (Zv G (qR rr (qf (ZE (sz:=1) 104 Ycm kr .is (.conv .t (.int hh1)) (by decide) (by decide) (by rfl)) r2 r1 (qa 104 r1 r1 (qR rr (qR rr (qf (ZE (sz:=1) 104 Ycm kr .is (.conv .t (.int hh1)) (by decide) (by decide) (by rfl)) r2 r1 (qa 104 r1 r1 (qR rr (qf (o_indexAddr_row (sz:=1) 103 (.mk Ycd kr) .is .t ow ow (by rfl)) r2 r1 (qf (Zt (ag:=false) (sz':=1) (sz:=1) 103 .t (by intro x;rfl) ow kr kr kr) r1 r1 (qp r1 (qf (o_indexAddr_row (sz:=1) 103 (.mk Ycd kr) .is .t ow ow (by rfl)) r2 r1 (qf (ZH (R:=Zm) (sz:=1) (v:=_) 103 .t (by intro x;rfl) ow .t Z one_int kr) r2 r1 qZ))))))))))))) V [87,86,85,73,72,22,20,17,16,15,14,13,12,10,4,2,1,0] [105,104,103,102,101,0] Z Z fun a w F G=>?_)
      try dsimp only [List.map,Zf,xL,xM,Nat.reduceAdd,xD,xE,xT,xU,xC,xN,zCF,ldSF,Zm] at G
      try simp only [Yb] at G
      rw [hval,← Zim hdl hur,← Zeq (c:=fI d2 x+1) hdl hur] at G
      rw [show 2*(Nn (adjO I mn (x / 2)) i)+(1:Int)=2*(Nn (adjO I mn (x / 2)) i)+x % 2 by omega] at G
      refine Za (Ze G (qR rr (qR rr (qf (o_shl .t qi (by decide)) r1 qz (qR rr (qf (ZsO .t .t) r2 qz (qf (ZJ 105 (ZcC qb (2*(O.length:Int)) q2 (2*(Nn (adjO I mn (x / 2)) i)+x % 2) ow) func207 Z kr (Args.two .t (.conv .t (Ent.int (ZiO ⟨by omega,by omega⟩ ow))))) r2 r1 qZ)))))) V [87,86,85,73,72,20,17,16,15,14,13,12,10,4,2,1,0] [105,104,103,102,101,0] Z Z fun a w F G=>Zh (Za ?_))
      refine rZ G (qp r1 (qR rr qZ)) V [87,86,85,73,72,20,17,16,15,14,13,12,10,4,2,1,0] [105,104,103,102,101,0] fun G=>?_
      have hmu3:2*negC (d2.set (2*(Nn (adjO I mn (x / 2)) i)+x % 2).toNat (fI d2 x+1))+(q2 ++ [2*(Nn (adjO I mn (x / 2)) i)+x % 2]).length≤2*negC d+q.length:=by rw [Yd,YM];omega
      replace G:=G.ent (i:=87) (s':=.pv (.int .i64 ((i+1:Nat):Int))) Z (.int (Zd ow))
      obtain ⟨F,G⟩:=G.nM [86,85,73,72,20,17,16,15,14,13,12,10,4,2,1,0,87] [104,101,0,105,103,102]
      exact ⟨((i+1),_,(q2 ++ [2*(Nn (adjO I mn (x / 2)) i)+x % 2])),F,⟨by omega,⟨by rw [Zo hil,YO,← YN];exact hP1,hmu3⟩⟩,G,by omega⟩
     have hsk:2*least≤2*(Nn (adjO I mn (x / 2)) i)+x % 2→0≤fI d2 (2*(Nn (adjO I mn (x / 2)) i)+x % 2):=fun h9=>by have h8:=hc6;rw [ZbP hur] at h8;rw [show 2*(Nn (adjO I mn (x / 2)) i)+(1:Int)=2*(Nn (adjO I mn (x / 2)) i)+x % 2 by omega] at h8;simp at h8;exact h8 ow
     refine Ye (Zh (Za (rZ G (qp r1 (qR rr qZ)) V [87,86,85,73,72,20,17,16,15,14,13,12,10,4,2,1,0] [105,104,103,102,101,0] fun G=>?_)))
     replace G:=G.ent (i:=87) (s':=.pv (.int .i64 ((i+1:Nat):Int))) Z (.int (Zd ow))
     obtain ⟨F,G⟩:=G.nM [86,85,73,72,20,17,16,15,14,13,12,10,4,2,1,0,87] [104,101,0,105,103,102]
     exact ⟨((i+1),_,_),F,⟨by omega,⟨by rw [Zo hil,YO,← YN];exact hM.skip hsr hsk,hmu⟩⟩,G,by omega⟩
    have hil:i=(adjO I mn (x / 2)).length:=by simp at hc4;omega
    refine Yx (Zi (Zi (Zn (Zh (Za (rZ G (qp r1 (qR rr qZ)) V [73,72,17,16,15,14,13,12,10,4,2,1,0] [105,104,103,102,101,0] fun G=>?_))))))
    replace G:=G.ent (i:=73) (s':=.pv (.int .i64 (((1:Nat):Nat):Int))) Z (.int Z)
    obtain ⟨F,G⟩:=G.nM [72,17,16,15,14,13,12,10,4,2,1,0,73] [104,101,0,105,103,102]
    exact ⟨((1),(d2),(q2)),F,⟨by omega,by rw [hil,Yz] at hM;exact hM,hmu⟩,G,by omega⟩
   have hj1:j=1:=by omega
   subst hj1
   clear hfk
   refine Ze G (qf (ZgC (l:=[mn,mm]) (p:=(fun y=>PV.int .i64 y)) Ycq kr kr (.conv .t (.aggU Z Z)) .t ow ow Z) r2 qz (qO rr qZ)) V [73,72,19,17,16,15,14,13,12,10,4,2,1,0] [105,104,103,102,101,0] Z Z fun a w F G=>?_
   try simp only [Yb] at G
   rw [show Nn [mn,mm] 1=mm from rfl] at G
   refine Za (Ya (rZ G (qR rr (qO rr qZ)) V [73,72,20,19,17,16,15,14,13,12,10,4,2,1,0] [105,104,103,102,101,0] fun G=>(Ya (Ya ?_))))
   refine Ze G (qR rr (qR rr (qR rr (qf (o_and .t .t) r2 qz (qf (o_eql .t .t) r2 qz qZ))))) V [81,73,72,20,19,17,16,15,14,13,12,10,4,2,1,0] [105,104,103,102,101,0] Z Z fun a w F G=>?_
   rw [hmm] at G
   refine Za (Zc G Z (fun hc7=>?_) (fun hc7=>?_))
   ·refine rZ G (qI qZ) V [73,72,20,19,17,16,15,14,13,12,10,4,2,1,0] [105,104,103,102,101,0] fun G=>Ya ?_
    refine rZ G (qR rr (qR rr (qR rr (qf (oP (ZhK O I m (x / 2) mm (fun l hl=>(h.inn.r hE l hl).1) (by rw [h.ol,h.il])) func209 (Args.three .t .t .t)) r3 qz (qu Ycd r1 (qJ qZ)))))) V [87,86,85,73,72,20,17,16,15,14,13,12,10,4,2,1,0] [105,104,103,102,101,0] fun G=>Yg ?_
    refine Zj (σ:=(Nat)×(List Int)×(List Int)) [0,1,2,4,10,12,13,14,15,16,17,20,72,73,85,86] [0,101,104] (fun s=>[(87,.pv (.int .i64 (s.1:Int)))]) (fun s=>[(102,.ob (.val v28) (Zw 3 1 Zm (ZcD O.length s.2.1))),(103,.ob (.val v30) (Zw 3 1 Zm (ZaU O.length s.2.1))),(105,RS.hp (rqH (.pointer (some ⟨qb,0,none⟩)) (2*(O.length:Int)) s.2.2))]) (fun s=>s.1≤(adjO I mm (x / 2)).length∧(Zc0 (2*O.length) (ZdO (fun x=>adjO I mn x) (fun x=>adjO I mm x)) (2*least) (2*node) s.2.1 s.2.2 x (((adjO I mn (x / 2)).map fun u=>2*u+x % 2)++((adjO I mm (x / 2)).take s.1).map fun u=>2*u+1)∧2*negC s.2.1+s.2.2.length≤2*negC d+q.length)) (fun s=>(adjO I mm (x / 2)).length - s.1) ((0),(d1),(q1)) G ⟨rfl,rfl,rfl,rfl,rfl,rfl,rfl,rfl,rfl,rfl,rfl,rfl,rfl,rfl,rfl,rfl,rfl,tv⟩ ⟨rfl,rfl,rfl,rfl,rfl,rfl,tv⟩ ⟨Yy _,⟨by show Zc0 _ _ _ _ _ _ _ (_ ++ []);rw [YR];exact hM1,hmu1⟩⟩ ?_
    clear G;intro s a w F hC G
    obtain ⟨i,d2,q2⟩:=s
    try dsimp only at hC
    obtain ⟨F,G⟩:=G.nM [87,86,85,73,72,20,17,16,15,14,13,12,10,4,2,1,0] [105,104,103,102,101,0]
    try dsimp only at G
    obtain ⟨hi,hq⟩:=hC
    obtain ⟨hM,hmu⟩:=hq
    have hdl:=hM.1.len
    have hxr:=hM.1.here
    have hxv:=hM.val
    have hqr:=hM.1.room
    have hpx:(adjO I mm (x / 2)).length≤O.length:=hlm _
    have hel:(ZcD O.length d2).length=O.length:=Zaz
    have hol:(ZaU O.length d2).length=O.length:=ZaR
    refine Ya (rZ G (qL r2) V [88,87,86,85,73,72,20,17,16,15,14,13,12,10,4,2,1,0] [105,104,103,102,101,0] fun G=>Ya ?_)
    refine Zc G Z (fun hc8=>?_) (fun hc8=>?_)
    ·have hil:i<(adjO I mm (x / 2)).length:=by simp at hc8;omega
     have hur:0≤(Nn (adjO I mm (x / 2)) i)∧(Nn (adjO I mm (x / 2)) i)<(O.length:Int):=hpm _ _ (nth_mem hil)
     have hsr:0≤2*(Nn (adjO I mm (x / 2)) i)+1∧2*(Nn (adjO I mm (x / 2)) i)+1<(((2*O.length):Nat):Int):=by omega
     refine Ye (Za (Ya (Yg (Ya (Ze G (qy 1 Ycd r2 (qf (oR false 1 .t) r1 qz (qO rr qZ))) V [87,86,85,73,72,22,20,17,16,15,14,13,12,10,4,2,1,0] [105,104,103,102,101,0] Z Z fun a w F G=>?_)))))
     try simp only [Yb] at G
     refine Za (Ya ?_)
     by_cases hfk:x % 2=0
     ·refine Ze G (qR rr (qR rr (qf (Zbq .t .t) r2 qz (qR rr (qm Z Z Z Z (qk Z (fun h=>ZE (sz:=1) 104 Ycm kr .is (.w h) (by decide) (by decide) (by rfl)) r3 r1 (qw 104 Z r2 r1 (qm Z Z Z Z (qk Z (fun h=>o_indexAddr_row (sz:=1) 103 (.mk Ycd kr) (.w h .is) (.w h) ow ow (by rfl)) r3 r1 (qk Z (fun h=>Zt (ag:=false) (sz':=1) (sz:=1) 103 (.w h) (by intro x;rfl) ow kr kr kr) r2 r1 (qk Z (fun h=>ZaD (.w h) qi) r2 qz (qf (ZD .t .t) r2 qz qZ)))))))))))) V [102,87,86,85,73,72,22,20,17,16,15,14,13,12,10,4,2,1,0] [105,104,103,102,101,0] Z Z fun a w F G=>?_
      try simp only [Yb] at G
      refine Za (Zc G Z (fun hc9=>?_) (fun hc9=>?_))
      ·have hput:least≤(Nn (adjO I mm (x / 2)) i)∧fI d2 (2*(Nn (adjO I mm (x / 2)) i)+1)<0:=by rw [← ZbP hur];simpa using hc9
       obtain ⟨hP1,hP2⟩:=hM.put hsr (YX _ (Yu.2 ⟨_,nth_mem hil,rfl⟩)) ow hput.2
       have hval:IntKind.wrap .i64 (Nn (ZcD O.length d2) (x / 2).toNat+1)=fI d2 x+1:=by rw [Zfh hxa,show 2*(x / 2)+(0:Int)=x by omega];exact Zy ow
       refine Ya (Zv G (qR rr (qf (ZE (sz:=1) 104 Ycm kr .is .t (by decide) (by decide) (by rfl)) r2 r1 (qa 104 r1 r1 (qR rr (qR rr (qf (ZE (sz:=1) 104 Ycm kr .is (.conv .t (.int hfk)) (by decide) (by decide) (by rfl)) r2 r1 (qa 104 r1 r1 (qR rr (qf (o_indexAddr_row (sz:=1) 102 (.mk Ycd kr) .is .t ow ow (by rfl)) r2 r1 (qf (Zt (ag:=false) (sz':=1) (sz:=1) 102 .t (by intro x;rfl) ow kr kr kr) r1 r1 (qp r1 (qf (o_indexAddr_row (sz:=1) 103 (.mk Ycd kr) .is .t ow ow (by rfl)) r2 r1 (qf (ZH (R:=Zm) (sz:=1) (v:=_) 103 .t (by intro x;rfl) ow .t Z one_int kr) r2 r1 qZ))))))))))))) V [87,86,85,73,72,22,20,17,16,15,14,13,12,10,4,2,1,0] [105,104,103,102,101,0] Z Z fun a w F G=>?_)
       try dsimp only [List.map,Zf,xL,xM,Nat.reduceAdd,xD,xE,xT,xU,xC,xN,zCF,ldSF,Zm] at G
       try simp only [Yb] at G
       rw [hval,← Zim hdl hur,← Zeq (c:=fI d2 x+1) hdl hur] at G
       refine Za (Ze G (qR rr (qR rr (qf (o_shl .t qi (by decide)) r1 qz (qR rr (qf (ZsO .t .t) r2 qz (qf (ZJ 105 (ZcC qb (2*(O.length:Int)) q2 (2*(Nn (adjO I mm (x / 2)) i)+1) ow) func207 Z kr (Args.two .t (.conv .t (Ent.int (ZiO ⟨by omega,by omega⟩ ow))))) r2 r1 qZ)))))) V [87,86,85,73,72,20,17,16,15,14,13,12,10,4,2,1,0] [105,104,103,102,101,0] Z Z fun a w F G=>Zh (Za ?_))
       refine rZ G (qp r1 (qR rr qZ)) V [87,86,85,73,72,20,17,16,15,14,13,12,10,4,2,1,0] [105,104,103,102,101,0] fun G=>?_
       have hmu3:2*negC (d2.set (2*(Nn (adjO I mm (x / 2)) i)+1).toNat (fI d2 x+1))+(q2 ++ [2*(Nn (adjO I mm (x / 2)) i)+1]).length≤2*negC d+q.length:=by rw [Yd,YM];omega
       replace G:=G.ent (i:=87) (s':=.pv (.int .i64 ((i+1:Nat):Int))) Z (.int (Zd ow))
       obtain ⟨F,G⟩:=G.nM [86,85,73,72,20,17,16,15,14,13,12,10,4,2,1,0,87] [104,101,0,105,103,102]
       exact ⟨((i+1),_,(q2 ++ [2*(Nn (adjO I mm (x / 2)) i)+1])),F,⟨by omega,⟨by rw [Zo hil,YO,← YN];exact hP1,hmu3⟩⟩,G,by omega⟩
      have hsk:2*least≤2*(Nn (adjO I mm (x / 2)) i)+1→0≤fI d2 (2*(Nn (adjO I mm (x / 2)) i)+1):=fun h9=>by have h8:=hc9;rw [ZbP hur] at h8;simp at h8;exact h8 ow
      refine Ye (Zh (Za (rZ G (qp r1 (qR rr qZ)) V [87,86,85,73,72,20,17,16,15,14,13,12,10,4,2,1,0] [105,104,103,102,101,0] fun G=>?_)))
      replace G:=G.ent (i:=87) (s':=.pv (.int .i64 ((i+1:Nat):Int))) Z (.int (Zd ow))
      obtain ⟨F,G⟩:=G.nM [86,85,73,72,20,17,16,15,14,13,12,10,4,2,1,0,87] [104,101,0,105,103,102]
      exact ⟨((i+1),_,_),F,⟨by omega,⟨by rw [Zo hil,YO,← YN];exact hM.skip hsr hsk,hmu⟩⟩,G,by omega⟩
     have hh1:x % 2=1:=by omega
     refine Ze G (qR rr (qR rr (qf (Zbq .t .t) r2 qz (qR rr (qm Z Z Z Z (qk Z (fun h=>ZE (sz:=1) 104 Ycm kr .is (.w h) (by decide) (by decide) (by rfl)) r3 r1 (qw 104 Z r2 r1 (qm Z Z Z Z (qk Z (fun h=>o_indexAddr_row (sz:=1) 103 (.mk Ycd kr) (.w h .is) (.w h) ow ow (by rfl)) r3 r1 (qk Z (fun h=>Zt (ag:=false) (sz':=1) (sz:=1) 103 (.w h) (by intro x;rfl) ow kr kr kr) r2 r1 (qk Z (fun h=>ZaD (.w h) qi) r2 qz (qf (ZD .t .t) r2 qz qZ)))))))))))) V [102,87,86,85,73,72,22,20,17,16,15,14,13,12,10,4,2,1,0] [105,104,103,102,101,0] Z Z fun a w F G=>?_
     try simp only [Yb] at G
     refine Za (Zc G Z (fun hc10=>?_) (fun hc10=>?_))
     ·have hput:least≤(Nn (adjO I mm (x / 2)) i)∧fI d2 (2*(Nn (adjO I mm (x / 2)) i)+1)<0:=by rw [← ZbP hur];simpa using hc10
      obtain ⟨hP1,hP2⟩:=hM.put hsr (YX _ (Yu.2 ⟨_,nth_mem hil,rfl⟩)) ow hput.2
      have hval:IntKind.wrap .i64 (Nn (ZaU O.length d2) (x / 2).toNat+1)=fI d2 x+1:=by rw [ZbP hxa,show 2*(x / 2)+(1:Int)=x by omega];exact Zy ow
      refine Ya (Zv G (qR rr (qf (ZE (sz:=1) 104 Ycm kr .is .t (by decide) (by decide) (by rfl)) r2 r1 (qa 104 r1 r1 (qR rr (qR rr (qf (ZE (sz:=1) 104 Ycm kr .is (.conv .t (.int hh1)) (by decide) (by decide) (by rfl)) r2 r1 (qa 104 r1 r1 (qR rr (qf (o_indexAddr_row (sz:=1) 103 (.mk Ycd kr) .is .t ow ow (by rfl)) r2 r1 (qf (Zt (ag:=false) (sz':=1) (sz:=1) 103 .t (by intro x;rfl) ow kr kr kr) r1 r1 (qp r1 (qf (o_indexAddr_row (sz:=1) 103 (.mk Ycd kr) .is .t ow ow (by rfl)) r2 r1 (qf (ZH (R:=Zm) (sz:=1) (v:=_) 103 .t (by intro x;rfl) ow .t Z one_int kr) r2 r1 qZ))))))))))))) V [87,86,85,73,72,22,20,17,16,15,14,13,12,10,4,2,1,0] [105,104,103,102,101,0] Z Z fun a w F G=>?_)
      try dsimp only [List.map,Zf,xL,xM,Nat.reduceAdd,xD,xE,xT,xU,xC,xN,zCF,ldSF,Zm] at G
      try simp only [Yb] at G
      rw [hval,← Zim hdl hur,← Zeq (c:=fI d2 x+1) hdl hur] at G
      refine Za (Ze G (qR rr (qR rr (qf (o_shl .t qi (by decide)) r1 qz (qR rr (qf (ZsO .t .t) r2 qz (qf (ZJ 105 (ZcC qb (2*(O.length:Int)) q2 (2*(Nn (adjO I mm (x / 2)) i)+1) ow) func207 Z kr (Args.two .t (.conv .t (Ent.int (ZiO ⟨by omega,by omega⟩ ow))))) r2 r1 qZ)))))) V [87,86,85,73,72,20,17,16,15,14,13,12,10,4,2,1,0] [105,104,103,102,101,0] Z Z fun a w F G=>Zh (Za ?_))
      refine rZ G (qp r1 (qR rr qZ)) V [87,86,85,73,72,20,17,16,15,14,13,12,10,4,2,1,0] [105,104,103,102,101,0] fun G=>?_
      have hmu3:2*negC (d2.set (2*(Nn (adjO I mm (x / 2)) i)+1).toNat (fI d2 x+1))+(q2 ++ [2*(Nn (adjO I mm (x / 2)) i)+1]).length≤2*negC d+q.length:=by rw [Yd,YM];omega
      replace G:=G.ent (i:=87) (s':=.pv (.int .i64 ((i+1:Nat):Int))) Z (.int (Zd ow))
      obtain ⟨F,G⟩:=G.nM [86,85,73,72,20,17,16,15,14,13,12,10,4,2,1,0,87] [104,101,0,105,103,102]
      exact ⟨((i+1),_,(q2 ++ [2*(Nn (adjO I mm (x / 2)) i)+1])),F,⟨by omega,⟨by rw [Zo hil,YO,← YN];exact hP1,hmu3⟩⟩,G,by omega⟩
     have hsk:2*least≤2*(Nn (adjO I mm (x / 2)) i)+1→0≤fI d2 (2*(Nn (adjO I mm (x / 2)) i)+1):=fun h9=>by have h8:=hc10;rw [ZbP hur] at h8;simp at h8;exact h8 ow
     refine Ye (Zh (Za (rZ G (qp r1 (qR rr qZ)) V [87,86,85,73,72,20,17,16,15,14,13,12,10,4,2,1,0] [105,104,103,102,101,0] fun G=>?_)))
     replace G:=G.ent (i:=87) (s':=.pv (.int .i64 ((i+1:Nat):Int))) Z (.int (Zd ow))
     obtain ⟨F,G⟩:=G.nM [86,85,73,72,20,17,16,15,14,13,12,10,4,2,1,0,87] [104,101,0,105,103,102]
     exact ⟨((i+1),_,_),F,⟨by omega,⟨by rw [Zo hil,YO,← YN];exact hM.skip hsr hsk,hmu⟩⟩,G,by omega⟩
    have hil:i=(adjO I mm (x / 2)).length:=by simp at hc8;omega
    refine Yx (Zi (Zi (Zn (Zh (Za (rZ G (qp r1 (qR rr qZ)) V [73,72,17,16,15,14,13,12,10,4,2,1,0] [105,104,103,102,101,0] fun G=>?_))))))
    replace G:=G.ent (i:=73) (s':=.pv (.int .i64 (((2:Nat):Nat):Int))) Z (.int Z)
    obtain ⟨F,G⟩:=G.nM [72,17,16,15,14,13,12,10,4,2,1,0,73] [104,101,0,105,103,102]
    exact ⟨((2),(d2),(q2)),F,⟨by omega,by rw [hil,Yz] at hM;exact hM,hmu⟩,G,by omega⟩
   simp at hc7
  have hj3:j=2:=by simp at hc2;omega
  subst hj3
  have hBI2:Zeb (2*O.length) (ZdO (fun x=>adjO I mn x) (fun x=>adjO I mm x)) (2*least) (2*node) d1 q1:=Zc0.done hM1
  have hmu2:2*negC d1+q1.length<2*negC d+(x :: q).length:=by rw [Yl];omega
  refine Yx (Zi (Zi (Zn (Zh (Za (rZ G (qR rr (qf (ZJ 105 (Zh0 qb (2*(O.length:Int)) q1) func208 Z kr (Args.one .t)) r1 r1 (qR rr (qf (o_extract .t Z) r1 qz (qf (o_extract .t Z) r1 qz (qO rr (qO rr qZ))))))) V [15,14,13,12,10,4,2,1,0] [105,104,103,102,101,0] fun G=>?_))))))
  obtain ⟨F,G⟩:=G.nM [13,12,10,4,2,1,0,15,14] [104,101,0,105,103,102]
  exact ⟨((d1),(q1)),F,hBI2,G,hmu2⟩
 have hqe:q = []:=by simpa using hc1
 subst hqe
 have hfin:ZaU O.length d=ZaU O.length D:=Y1 _ ((ZnL.dist hpr hBI.1).one hD)
 refine Yx (Zi (Zi (Zn (Za (Ya (Ze G (qf (ZE (sz:=1) 104 Ycm kr .is qi (by decide) (by decide) (by rfl)) r1 r1 (qa 104 r1 r1 (qO rr qZ))) V [10] [105,104,103,102,101,0] Z Z fun a w F G=>?_))))))
 try simp only [Yb] at G
 refine Za (Yh ?_)
 obtain ⟨F,G⟩:=G.give 103 10 Z rfl
 refine Zs hfr G Z Z Z (.sl hfin)
def Zvu (u:Int) (e:Z9):Zx:=⟨u,e.node,e.kind,e.label⟩
def Zad (O:List (List Z9)) (mask u:Int):List Zx:=if 0≤u∧u<O.length then ((Nn O u.toNat).filter fun e=>ofB mask e.kind).map (Zvu u) else []
def ZnH (x:Zx):Int:=(x.kind*1048576+x.label)*4096+x.dst
theorem Zup {α:Type} [Inhabited α] {κ:α→Int} {l:List α} (h:Zcq κ l):l.Pairwise fun a b=>κ a<κ b:=Yaz.2 fun a b ha hb hab=>by
 have:=h a b hab hb
 rwa [nth_eq ha,nth_eq hb] at this
theorem ZbO.outM {n:Nat} {E:List Zx} {O I:List (List Z9)} (h:ZbO n E O I) (mask u:Int) (x:Zx):x ∈ Zad O mask u ↔ (x ∈ E∧ofB mask x.kind=true)∧x.src=u:=by
 unfold Zad
 by_cases hu:0≤u∧u<O.length
 ·have hol:=h.ol
  rw [Yf hu,Yu]
  constructor
  ·rintro ⟨e,h1,rfl⟩
   obtain ⟨h2,h3⟩:=YS.1 h1
   obtain ⟨y,y1,y2,rfl⟩:=(h.om u.toNat ow e).1 h2
   have e1:y.src=u:=by omega
   have e2:Zvu u (endO y)=y:=by subst e1;rfl
   rw [e2]
   exact ⟨⟨y1,h3⟩,e1⟩
  ·rintro ⟨⟨h1,h2⟩,rfl⟩
   exact ⟨endO x,YS.2 ⟨(h.om x.src.toNat ow _).2 ⟨x,h1,by omega,rfl⟩,h2⟩,rfl⟩
 ·rw [Yc hu]
  constructor
  ·intro k;cases k
  ·rintro ⟨⟨h1,_⟩,rfl⟩
   have:=(ZQ.1 (h.ok x h1)).1
   have:=h.ol
   exact absurd ⟨by omega,by omega⟩ hu
theorem ZbO.outP {n:Nat} {E:List Zx} {O I:List (List Z9)} (h:ZbO n E O I) (mask u:Int):(Zad O mask u).Pairwise fun a b=>ZnH a<ZnH b:=by
 unfold Zad
 split
 ·have hol:=h.ol
  exact YaW.2 (List.Pairwise.filter _ (Zup (h.on _ (nth_mem ow)).2.1))
 ·exact .nil
theorem ZbO.outR {n:Nat} {E:List Zx} {O I:List (List Z9)} (h:ZbO n E O I) (mask u:Int):∀ x ∈ Zad O mask u,(0≤x.dst∧x.dst<(n:Int))∧1≤x.kind∧x.kind≤3:=fun x hx=>by
 have k:=ZQ.1 (h.ok x ((h.outM mask u x).1 hx).1.1)
 exact ⟨k.2.1,k.2.2.1⟩
theorem ZbO.outL {n:Nat} {E:List Zx} {O I:List (List Z9)} (h:ZbO n E O I) (mask u:Int):(Zad O mask u).length≤E.length:=by
 unfold Zad
 split
 ·have hol:=h.ol
  rw [YG]
  exact Y2 (Yac _ _) (h.on _ (nth_mem ow)).1
 ·exact Yy _
theorem bit1 (y:Int):bits .and .i64 y 1=0∨bits .and .i64 y 1=1:=by
 have h:(BitVec.ofInt 64 y &&& BitVec.ofInt 64 ((1:Nat):Int)).toNat≤1:=by rw [Ybq,ZjR 1 ow];exact Nat.and_le_right
 have e:bits .and .i64 y 1=IntKind.wrap .i64 (((BitVec.ofInt 64 y &&& BitVec.ofInt 64 ((1:Nat):Int)).toNat:Nat):Int):=rfl
 rw [e,Zy ow]
 omega
theorem of_zero (mask kind:Int):decide (bits .and .i64 (mask.fdiv (2 ^ min (IntKind.wrap .u64 kind).toNat (IntKind.bits .i64))) 1=0) = !ofB mask kind:=by
 unfold ofB
 rcases bit1 (mask.fdiv (2 ^ min (IntKind.wrap .u64 kind).toNat (IntKind.bits .i64))) with h | h <;> rw [h] <;> decide
theorem Zpk {α:Type} [Inhabited α] {p:α→Bool} {l:List α} {i:Nat} (hi:i=l.length) (hb:∀ q,q<i→p (Nn l q)=false):l.find? p=none:=by
 subst hi
 refine Ybv.2 fun x hx=>?_
 obtain ⟨q,hq,rfl⟩:=Ya0.1 hx
 rw [← nth_eq hq,hb q hq];decide
def Zeo (A:Zx→Prop) (i:Int):Int→List Zx→Int→Prop
 | a,[],b=>a=b
 | a,x :: w,b=>A x∧x.src=a∧i≤x.dst∧Zeo A i x.dst w b
def ZcV (m:Zx→Bool) (need:Bool) (w:List Zx):Prop:=need=true → ∃ x ∈ w,m x=true
def Ztx (A:Zx→Prop) (m:Zx→Bool) (i:Int) (need:Bool) (u k:Int):Prop:=
 (k = -1 ∧ ∀ w,Zeo A i u w i→¬ ZcV m need w) ∨ ∃ w,Zeo A i u w i∧ZcV m need w∧(w.length:Int)=k ∧ ∀ w',Zeo A i u w' i→ZcV m need w' → w.length≤w'.length
def CwA (A:Zx→Prop) (m:Zx→Bool) (need:Bool) (i:Int) (w:List Zx):Prop:=w≠[]∧Zeo A i i w i∧ZcV m need w
def Zrh (A:Zx→Prop) (m:Zx→Bool) (i:Int) (need:Bool) (u:Int) (n:Nat):Prop:=
 (∃ w,w≠[]∧Zeo A i u w i∧ZcV m need w∧w.length=n) ∧ ∀ w,w≠[]→Zeo A i u w i→ZcV m need w→n≤w.length
def LtA (κ:Zx→Int):List Zx→List Zx→Prop
 | x :: w,y :: v=>κ x<κ y∨(x=y∧LtA κ w v)
 | _,_=>False
def ZF (m:Zx→Bool) (any with_:List Int) (need:Bool) (x:Zx):Int:=if need && !m x then fI with_ x.dst else fI any x.dst
def ZcL (f:Zx→Int) (l:List Zx) (b:Int):Prop:=0≤b∧(b=0 → ∀ a ∈ l,f a<0)∧(0<b→(∃ a ∈ l,f a=b - 1) ∧ ∀ a ∈ l,0≤f a→b - 1≤f a)
theorem ZcL.nil (f:Zx→Int):ZcL f [] 0:=⟨Yao _,(fun _ a h=>by cases h),fun h=>absurd h (by decide)⟩
theorem ZcL.take {f:Zx→Int} {l:List Zx} {b:Int} {x:Zx} (h:ZcL f l b) (h1:0≤f x) (h2:b=0∨f x+1<b):ZcL f (l ++ [x]) (f x+1):=by
 obtain ⟨a1,a2,a3⟩:=h
 refine ⟨by omega,fun h=>by omega,fun _=>⟨⟨x,by simp,by omega⟩,fun a ha hf=>?_⟩⟩
 rcases YA.1 ha with ha | ha
 ·rcases h2 with h2 | h2
  ·have:=a2 h2 a ha;omega
  ·have:=(a3 ow).2 a ha hf;omega
 ·rw [Yk.1 ha];omega
theorem ZcL.skip {f:Zx→Int} {l:List Zx} {b:Int} {x:Zx} (h:ZcL f l b) (h1:¬ (0≤f x∧(b=0∨f x+1<b))):ZcL f (l ++ [x]) b:=by
 obtain ⟨a1,a2,a3⟩:=h
 refine ⟨a1,fun hb a ha=>?_,fun hb=>?_⟩
 ·rcases YA.1 ha with ha | ha
  ·exact a2 hb a ha
  ·rw [Yk.1 ha];omega
 ·obtain ⟨⟨a,b1,b2⟩,b3⟩:=a3 hb
  refine ⟨⟨a,by simp [b1],b2⟩,fun a ha hf=>?_⟩
  rcases YA.1 ha with ha | ha
  ·exact b3 a ha hf
  ·rw [Yk.1 ha] at hf ⊢;omega
section
variable {A:Zx→Prop} {m:Zx→Bool} {i:Int} {κ:Zx→Int} {any with_:List Int}
theorem Zck {need:Bool} {x:Zx} {w:List Zx} : ZcV m need (x :: w) ↔ ZcV m (need && !m x) w:=by
 unfold ZcV
 cases need <;> cases hx:m x <;> simp [hx]
structure ZcG (A:Zx→Prop) (m:Zx→Bool) (i:Int) (any with_:List Int):Prop where
 fa:∀ x,A x→i≤x.dst→Ztx A m i false x.dst (fI any x.dst)
 fw:∀ x,A x→i≤x.dst→Ztx A m i true x.dst (fI with_ x.dst)
 less:∀ x,A x→x.dst<i→fI any x.dst = -1∧fI with_ x.dst = -1
theorem ZcG.left (h:ZcG A m i any with_) {x:Zx} (hx:A x) (hi:i≤x.dst) (need:Bool):Ztx A m i (need && !m x) x.dst (ZF m any with_ need x):=by
 unfold ZF
 cases hn:(need && !m x)
 ·rw [Yc (by simp)];exact h.fa x hx hi
 ·rw [Yf rfl];exact h.fw x hx hi
theorem ZcG.low (h:ZcG A m i any with_) {x:Zx} (hx:A x) (hi:x.dst<i) (need:Bool):ZF m any with_ need x = -1:=by
 unfold ZF
 split
 ·exact (h.less x hx hi).2
 ·exact (h.less x hx hi).1
theorem ZcG.way (h:ZcG A m i any with_) {x:Zx} (hx:A x) {need:Bool} (h0:0≤ZF m any with_ need x):i≤x.dst ∧ ∃ w,Zeo A i x.src (x :: w) i∧ZcV m need (x :: w)∧(w.length:Int)=ZF m any with_ need x ∧ ∀ w',Zeo A i x.dst w' i→ZcV m (need && !m x) w' → w.length≤w'.length:=by
 have hi:i≤x.dst:=Int.not_lt.1 fun k=>by rw [h.low hx k] at h0;omega
 refine ⟨hi,?_⟩
 rcases h.left hx hi need with ⟨k,_⟩ | ⟨w,w1,w2,w3,w4⟩
 ·omega
 ·exact ⟨w,⟨hx,rfl,hi,w1⟩,Zck.2 w2,w3,w4⟩
theorem ZcG.first (h:ZcG A m i any with_) {x:Zx} {w:List Zx} {u:Int} {need:Bool} (hw:Zeo A i u (x :: w) i) (hm:ZcV m need (x :: w)):0≤ZF m any with_ need x∧ZF m any with_ need x≤w.length:=by
 obtain ⟨h1,h2,h3,h4⟩:=hw
 rcases h.left h1 h3 need with ⟨_,k⟩ | ⟨v,v1,v2,v3,v4⟩
 ·exact absurd (Zck.1 hm) (k w h4)
 ·have:=v4 w h4 (Zck.1 hm);omega
theorem ZcG.short (h:ZcG A m i any with_) {need:Bool} {u:Int} {l:List Zx} (hl:∀ x,x ∈ l ↔ A x∧x.src=u) {b:Int} (hb:ZcL (ZF m any with_ need) l b):(b=0 → ∀ w,w≠[]→Zeo A i u w i→¬ ZcV m need w)∧(0<b→Zrh A m i need u b.toNat):=by
 obtain ⟨b0,b1,b2⟩:=hb
 constructor
 ·intro hb w hn hw hm
  cases w with
  | nil=>exact hn rfl
  | cons x w=>
   have k:=b1 hb x ((hl x).2 ⟨hw.1,hw.2.1⟩)
   have:=(h.first hw hm).1
   omega
 ·intro hb
  obtain ⟨⟨a,a1,a2⟩,a3⟩:=b2 hb
  obtain ⟨a4,a5⟩:=(hl a).1 a1
  obtain ⟨_,w,w1,w2,w3,_⟩:=h.way a4 (need:=need) ow
  refine ⟨⟨a :: w,by simp,a5 ▸ w1,w2,by rw [Yl];omega⟩,fun v hn hv hm=>?_⟩
  cases v with
  | nil=>exact absurd rfl hn
  | cons x v=>
   obtain ⟨k1,k2⟩:=h.first hv hm
   have:=a3 x ((hl x).2 ⟨hv.1,hv.2.1⟩) k1
   rw [Yl];omega
theorem ZqZ {a b:Int} {w:List Zx} {x:Zx} : Zeo A i a (w ++ [x]) b ↔ Zeo A i a w x.src∧A x∧i≤x.dst∧x.dst=b:=by
 induction w generalizing a with
 | nil=>exact ⟨fun ⟨h1,h2,h3,h4⟩=>⟨h2.symm,h1,h3,h4⟩,fun ⟨h1,h2,h3,h4⟩=>⟨h2,h1.symm,h3,h4⟩⟩
 | cons y w ih=>
  rw [Yah]
  show (A y∧y.src=a∧i≤y.dst∧Zeo A i y.dst (w ++ [x]) b) ↔ (A y∧y.src=a∧i≤y.dst∧Zeo A i y.dst w x.src)∧_
  rw [ih]
  constructor
  ·rintro ⟨h1,h2,h3,h4,h5⟩;exact ⟨⟨h1,h2,h3,h4⟩,h5⟩
  ·rintro ⟨⟨h1,h2,h3,h4⟩,h5⟩;exact ⟨h1,h2,h3,h4,h5⟩
theorem Ztr {a b:Int} {w v:List Zx} : Zeo A i a (w++v) b ↔ ∃ c,Zeo A i a w c∧Zeo A i c v b:=by
 induction w generalizing a with
 | nil=>exact ⟨fun h=>⟨a,rfl,h⟩,fun ⟨c,h,k⟩=>by subst h;exact k⟩
 | cons y w ih=>
  rw [Yah]
  show (A y∧y.src=a∧i≤y.dst∧Zeo A i y.dst (w++v) b) ↔ _
  rw [ih]
  constructor
  ·rintro ⟨h1,h2,h3,c,h4,h5⟩;exact ⟨c,⟨h1,h2,h3,h4⟩,h5⟩
  ·rintro ⟨c,⟨h1,h2,h3,h4⟩,h5⟩;exact ⟨h1,h2,h3,c,h4,h5⟩
theorem Zqp {a b c:Int} : ∀ {w:List Zx},Zeo A i a w b→Zeo A i a w c→b=c
 | [],h,k=>h.symm.trans k
 | x :: w,h,k=>Zqp (w:=w) h.2.2.2 k.2.2.2
theorem ZtF {w v:List Zx} {x:Zx} : LtA κ w v→LtA κ (w ++ [x]) v:=by
 induction w generalizing v with
 | nil=>intro h;cases v <;> exact h.elim
 | cons y w ih=>
  intro h
  cases v with
  | nil=>exact h.elim
  | cons z v=>
   rcases h with h | ⟨h,k⟩
   ·exact .inl h
   ·exact .inr ⟨h,ih k⟩
theorem Zv7 {w v:List Zx} {x y:Zx} (h:κ x<κ y):LtA κ (w ++ [x]) (w++y :: v):=by
 induction w with
 | nil=>exact .inl h
 | cons z w ih=>exact .inr ⟨rfl,ih⟩
structure Zcd (A:Zx→Prop) (m:Zx→Bool) (κ:Zx→Int) (i:Int) (k:Nat) (need0:Bool) (way:List Zx) (here:Int) (n:Nat) (need:Bool):Prop where
 path:Zeo A i i way here
 len:way.length+n=k
 must:need=(need0 && !way.any m)
 near:0<n→Zrh A m i need here n
 zero:n=0→here=i∧need=false
 first:∀ w,CwA A m need0 i w→w.length=k→(∃ v,w=way++v)∨LtA κ way w
theorem Zr2 {need0:Bool} {way v:List Zx} : ZcV m need0 (way++v) ↔ ZcV m (need0 && !way.any m) v:=by
 induction way generalizing need0 with
 | nil=>simp
 | cons x w ih=>
  rw [Yah,Zck,ih,YbQ]
  cases need0 <;> cases m x <;> simp
theorem Zcd.start {k:Nat} {need:Bool} (hk:0<k) (h:Zrh A m i need i k):Zcd A m κ i k need [] i k need:=
 ⟨rfl,by simp,by simp,fun _=>h,fun h=>by omega,fun w _ _=>.inl ⟨w,rfl⟩⟩
theorem Zcd.next {k n:Nat} {need0 need:Bool} {way:List Zx} {x:Zx} (hL:ZcG A m i any with_) (h:Zcd A m κ i k need0 way x.src (n+1) need) (hx:A x) (hf:ZF m any with_ need x=n)
  (hmin:∀ y,A y→y.src=x.src→ZF m any with_ need y=n→y=x∨κ x<κ y):Zcd A m κ i k need0 (way ++ [x]) x.dst n (need && !m x):=by
 obtain ⟨hi,w,w1,w2,w3,w4⟩:=hL.way hx (need:=need) ow
 refine ⟨ZqZ.2 ⟨h.path,hx,hi,rfl⟩,by rw [Yd,YM];have:=h.len;omega,?_,fun hn=>⟨⟨w,fun e=>by subst e;simp at w3;omega,w1.2.2.2,Zck.1 w2,by omega⟩,fun v _ hv hm=>by have:=w4 v hv hm;omega⟩,fun hn=>?_,fun v hv hvl=>?_⟩
 ·rw [h.must,List.any_append];cases need0 <;> simp
 ·have e:w = []:=YQ ow
  subst e
  refine ⟨w1.2.2.2,?_⟩
  have:=Zck.1 w2
  cases hn2:(need && !m x)
  ·rfl
  ·obtain ⟨y,hy,_⟩:=this hn2;cases hy
 ·rcases h.first v hv hvl with ⟨u,e⟩ | e
  ·subst e
   cases u with
   | nil=>rw [YR] at hvl;have:=h.len;omega
   | cons y u=>
    obtain ⟨c,c1,c2⟩:=Ztr.1 hv.2.1
    have ec:c=x.src:=Zqp c1 h.path
    subst ec
    have hm:ZcV m need (y :: u):=by rw [h.must];exact Zr2.1 hv.2.2
    obtain ⟨f1,f2⟩:=hL.first c2 hm
    have hlen:u.length=n:=by
     have:=h.len
     rw [Yd,Yl] at hvl;omega
    have hge:=(h.near ow).2
    obtain ⟨_,z,z1,z2,z3,_⟩:=hL.way c2.1 (need:=need) f1
    have:=hge (y :: z) (by simp) (c2.2.1 ▸ z1) z2
    rw [Yl] at this
    rcases hmin y c2.1 c2.2.1 ow with e | e
    ·subst e;exact .inl ⟨u,by rw [YN];rfl⟩
    ·exact .inr (Zv7 e)
  ·exact .inr (ZtF e)
theorem Zcd.some {k n:Nat} {need0 need:Bool} {way:List Zx} {here:Int} (hL:ZcG A m i any with_) (h:Zcd A m κ i k need0 way here (n+1) need):∃ x,A x∧x.src=here∧i≤x.dst∧ZF m any with_ need x=n:=by
 obtain ⟨⟨w,hn,hw,hm,hl⟩,hmin⟩:=h.near ow
 cases w with
 | nil=>exact absurd rfl hn
 | cons x w=>
  obtain ⟨f1,f2⟩:=hL.first hw hm
  obtain ⟨hi,z,z1,z2,z3,_⟩:=hL.way hw.1 (need:=need) f1
  have:=hmin (x :: z) (by simp) (hw.2.1 ▸ z1) z2
  rw [Yl] at this hl
  exact ⟨x,hw.1,hw.2.1,hi,by omega⟩
theorem Zcd.done {k:Nat} {need0 need:Bool} {way:List Zx} {here:Int} (hk:0<k) (h:Zcd A m κ i k need0 way here 0 need):CwA A m need0 i way∧way.length=k ∧ ∀ w,CwA A m need0 i w→w.length=k→w=way∨LtA κ way w:=by
 obtain ⟨z1,z2⟩:=h.zero rfl
 have hl:way.length=k:=by have:=h.len;omega
 subst z1
 refine ⟨⟨fun e=>by subst e;simp at hl;omega,h.path,?_⟩,hl,fun w hw hwl=>?_⟩
 ·have:=h.must
  rw [z2] at this
  intro hn
  subst hn
  simp at this
  obtain ⟨x,h1,h2⟩:=this
  exact ⟨x,h1,h2⟩
 ·rcases h.first w hw hwl with ⟨v,e⟩ | e
  ·left
   rw [e,Yd] at hwl
   have:v = []:=YQ ow
   rw [e,this,YR]
  ·exact .inr e
def ZdJ (A:Zx→Prop) (m:Zx→Bool) (κ:Zx→Int) (need:Bool) (n:Int) (way:List Zx):Prop:=
 (way = [] → ∀ j w,j<n→¬ CwA A m need j w)∧(way≠[] → ∃ j,j<n∧CwA A m need j way ∧ ∀ j' w,j' < n→CwA A m need j' w→way.length<w.length∨(way.length=w.length∧(j<j' ∨ (j=j' ∧ (w=way∨LtA κ way w)))))
end
def Z1 (f:Zx→Int) (l:List Zx):Int:=l.foldl (fun b x=>if 0≤f x∧(b=0∨f x+1<b) then f x+1 else b) 0
theorem ZdC {f:Zx→Int} {l:List Zx} {x:Zx} : Z1 f (l ++ [x])=if 0≤f x∧(Z1 f l=0∨f x+1<Z1 f l) then f x+1 else Z1 f l:=by
 unfold Z1
 rw [Yat];rfl
theorem Zjd (f:Zx→Int) (l:List Zx):ZcL f l (Z1 f l):=by
 suffices ∀ r:List Zx,ZcL f r.reverse (Z1 f r.reverse) by have:=this l.reverse;rwa [YbT] at this
 intro r
 induction r with
 | nil=>exact ZcL.nil f
 | cons x r ih=>
  rw [List.reverse_cons,ZdC]
  split
  ·rename_i h;exact ih.take h.1 h.2
  ·rename_i h;exact ih.skip h
theorem ZjZ {f:Zx→Int} {l:List Zx} {N:Int} (hN:0≤N) (h:∀ x ∈ l,f x+1≤N):0≤Z1 f l∧Z1 f l≤N:=by
 obtain ⟨h1,h2,h3⟩:=Zjd f l
 refine ⟨h1,?_⟩
 by_cases h0:Z1 f l=0
 ·omega
 ·obtain ⟨a,a1,a2⟩:=(h3 ow).1
  have:=h a a1;omega
def Zba (out:Int→List Zx) (f:Bool→Zx→Int) (m:Zx→Bool) (i:Int):Nat→Int→Bool→List Zx
 | 0,_,_=>[]
 | n+1,here,need=>match (out here).find? fun x=>decide (i≤x.dst) && decide (f need x=n) with
  | none=>[]
  | some x=>x :: Zba out f m i n x.dst (need && !m x)
theorem Znk {α:Type} [Inhabited α] {p:α→Bool} {l:List α} {i:Nat} (hi:i<l.length) (hp:p (Nn l i)=true) (hb:∀ q,q<i→p (Nn l q)=false):l.find? p=some (Nn l i):=by
 induction l generalizing i with
 | nil=>simp at hi
 | cons y l ih=>
  cases i with
  | zero=>
   rw [nth_eq (by simp)] at hp ⊢
   exact List.find?_cons_of_pos hp
  | succ i=>
   have h0:=hb 0 ow
   rw [nth_eq (by simp)] at h0
   have hs:∀ q,q<l.length→Nn (y :: l) (q+1)=Nn l q:=fun q hq=>by rw [nth_eq (by simpa using hq),nth_eq hq];rfl
   have hi':i<l.length:=by simpa using hi
   rw [hs i hi'] at hp ⊢
   rw [List.find?_cons_of_neg (by simpa using h0)]
   exact ih hi' hp fun q hq=>by have:=hb (q+1) ow;rwa [hs q ow] at this
section
variable {A:Zx→Prop} {m:Zx→Bool} {i:Int} {κ:Zx→Int} {any with_:List Int}
theorem Zhm {out:Int→List Zx} (ho:∀ u x,x ∈ out u ↔ A x∧x.src=u) (hs:∀ u,(out u).Pairwise fun a b=>κ a<κ b) (hL:ZcG A m i any with_) {k n:Nat} {need0 need:Bool} {way:List Zx} {here:Int} (h:Zcd A m κ i k need0 way here (n+1) need) :
  ∃ x,(out here).find? (fun x=>decide (i≤x.dst) && decide (ZF m any with_ need x=n))=some x∧x.src=here∧Zcd A m κ i k need0 (way ++ [x]) x.dst n (need && !m x):=by
 obtain ⟨y,y1,y2,y3,y4⟩:=h.some hL
 have hy:y ∈ out here:=(ho _ _).2 ⟨y1,y2⟩
 cases hf:(out here).find? (fun x=>decide (i≤x.dst) && decide (ZF m any with_ need x=n)) with
 | none=>have:=Ybv.1 hf y hy;simp [y3,y4] at this
 | some x=>
  have hx:=List.find?_some hf
  have hm:=List.mem_of_find?_eq_some hf
  simp at hx
  obtain ⟨x1,x2⟩:=(ho _ _).1 hm
  subst x2
  refine ⟨x,rfl,rfl,h.next hL x1 hx.2 fun z z1 z2 z3=>?_⟩
  have hz:z ∈ out x.src:=(ho _ _).2 ⟨z1,z2⟩
  have hzi:i≤z.dst:=Int.not_lt.1 fun k=>by rw [hL.low z1 k] at z3;omega
  obtain ⟨l1,l2,hl,hn⟩:=List.find?_eq_some_iff_append.1 hf |>.2
  rw [hl] at hz
  rcases YA.1 hz with hz | hz
  ·have:=hn z hz;simp [hzi,z3] at this
  ·rcases Yj.1 hz with hz | hz
   ·exact .inl hz
   ·have hp:=hs x.src
    rw [hl] at hp
    exact .inr ((Yo.1 (Yby.1 hp).2.1).1 z hz)
theorem ZiD {out:Int→List Zx} (ho:∀ u x,x ∈ out u ↔ A x∧x.src=u) (hs:∀ u,(out u).Pairwise fun a b=>κ a<κ b) (hL:ZcG A m i any with_) {k:Nat} {need0:Bool} : ∀ {n:Nat} {need:Bool} {way:List Zx} {here:Int},Zcd A m κ i k need0 way here n need →
  ∃ here' need',Zcd A m κ i k need0 (way++Zba out (ZF m any with_) m i n here need) here' 0 need'
 | 0,need,way,here,h=>⟨here,need,by rw [Zba,YR];exact h⟩
 | n+1,need,way,here,h=>by
  obtain ⟨x,hx,_,hw⟩:=Zhm ho hs hL h
  obtain ⟨a,b,hr⟩:=ZiD ho hs hL hw
  refine ⟨a,b,?_⟩
  rw [Zba,hx]
  rwa [YN] at hr
theorem ZrY {out:Int→List Zx} (ho:∀ u x,x ∈ out u ↔ A x∧x.src=u) (hs:∀ u,(out u).Pairwise fun a b=>κ a<κ b) (hL:ZcG A m i any with_) {k:Nat} {need:Bool} (hk:0<k) (h:Zrh A m i need i k) :
  CwA A m need i (Zba out (ZF m any with_) m i k i need)∧(Zba out (ZF m any with_) m i k i need).length=k ∧ ∀ w,CwA A m need i w→w.length=k→w=Zba out (ZF m any with_) m i k i need∨LtA κ (Zba out (ZF m any with_) m i k i need) w:=by
 obtain ⟨a,b,hr⟩:=ZiD ho hs hL (Zcd.start (κ:=κ) hk h)
 exact Zcd.done hk hr
end
theorem Zp5 {n:Nat} {prev:Int→List Int} {least t:Int} (hp:∀ x,∀ u ∈ prev x,0≤u∧u<(n:Int)) (ht:0≤t∧t<(n:Int)) {k:Nat} {u:Int} (h:Zfm prev least t k u) :
  (∀ j,Zfm prev least t j u→k≤j) → ∃ l:List Int,l.length=k+1∧l.Nodup ∧ ∀ y ∈ l,(0≤y∧y<(n:Int)) ∧ ∃ j,j≤k∧Zfm prev least t j y ∧ ∀ j',Zfm prev least t j' y→j≤j':=by
 induction h with
 | zero=>intro hm;exact ⟨[t],rfl,by simp,fun y hy=>by rw [Yk.1 hy];exact ⟨ht,0,YL _,.zero,fun _ _=>Yy _⟩⟩
 | @step k u x h1 hl r ih=>
  intro hm
  obtain ⟨l,l1,l2,l3⟩:=ih fun j hj=>by have:=hm (j+1) (.step h1 hl hj);omega
  refine ⟨u :: l,by rw [Yl,l1],Ybh.2 ⟨fun hu=>?_,l2⟩,fun y hy=>?_⟩
  ·obtain ⟨_,j,j1,j2,_⟩:=l3 u hu
   have:=hm j j2;omega
  ·rcases Yj.1 hy with rfl | hy
   ·exact ⟨hp _ _ h1,k+1,YL _,.step h1 hl r,hm⟩
   ·obtain ⟨a,j,j1,j2⟩:=l3 y hy
    exact ⟨a,j,by omega,j2⟩
theorem Zdt.le {n:Nat} {prev:Int→List Int} {least t:Int} {D:List Int} (h:Zdt n prev least t D) (hp:∀ x,∀ u ∈ prev x,0≤u∧u<(n:Int)) (ht:0≤t∧t<(n:Int)):∀ z ∈ D,-1≤z∧z<(n:Int):=fun z hz=>by
 obtain ⟨u,hu,rfl⟩:=Ya0.1 hz
 rw [← nth_eq hu]
 rcases h.2 u (by have:=h.1;omega) with ⟨h1,_⟩ | ⟨k,h1,h2,h3⟩
 ·omega
 ·obtain ⟨l,l1,l2,l3⟩:=Zp5 hp ht h2 h3
  have:=ZdG l2 fun y hy=>(l3 y hy).1
  omega
theorem Zpb (O I:List (List Z9)) (m:Nat) (u mask:Int) (hO:∀ l ∈ O,l.length≤1000000):FnP prog 171 [ZeJ O I m,.int .i64 u,.int .i64 mask] (.sl Zan (Zad O mask u)):=by
 refine FnP.mk func171 Z ntmps171 Z fun B a w F V hfr G=>Ya ?_
 refine rZ G (qC qZ) V [6,2,1,0] [0] fun G=>Ya ?_
 refine rZ G (qC qZ) V [7,6,2,1,0] [0] fun G=>(Ya (Ya ?_))
 refine rZ G (qR rr (qR rr (qf (oP (Zd0 O I m u) func194 (Args.two .t .t)) r2 qz (qf (o_not .t) r1 qz qZ)))) V [13,7,6,2,1,0] [0] fun G=>?_
 refine Zc G Z (fun hc0=>?_) (fun hc0=>?_)
 ·have hg:[] = Zad O mask u:=by unfold Zad;rw [Yc (by have h9:=hc0;simp at h9;omega)]
  refine Ya (rZ G (qR rr (qO rr qZ)) V [7,6,2,1,0] [0] fun G=>(Yh (Zk ?_)))
  refine Zs hfr G Z Z Z (.trans .nilSl (.sl hg))
 have hth:0≤u∧u<O.length:=by simpa using hc0
 have hNl:=hO _ (nth_mem (q:=O) (k:=u.toNat) ow)
 refine Ye (Za (Ya (Ya (Ze G (qR rr (qf (ZC .t) r1 qz (qf (oG 0 .t) r1 qz (qf (oR false 1 .t) r1 qz (qR rr (qf (o_indexAddr_sl (sz:=1) (.mk Yco kr) (by intro x;rfl) .t .t (by exact hth.1) (by exact hth.2)) r2 qz (qf (oR false 1 .t) r1 qz (qu Ych r1 (qJ qZ))))))))) V [23,22,21,7,6,2,1] [0] Z Z fun a w F G=>?_))))
 try simp only [Yb] at G
 refine Za (Yg ?_)
 replace G:=G.fresh 50 rfl
 replace G:=G.turn 50 Z (ZaA (T:=165) (sz:=4) (R:=Zan))
 refine Zj (σ:=(Nat)×(Value)×(List Zx)) [1,2,6,21,22] [0] (fun s=>[(23,.pv (.int .i64 (s.1:Int))),(7,.pv (.is s.2.1))]) (fun s=>[(50,.ob (.val s.2.1) (Zw 165 4 Zan s.2.2))]) (fun s=>s.1≤(Nn O u.toNat).length∧(s.2.2=(((Nn O u.toNat).take s.1).filter fun e=>ofB mask e.kind).map (Zvu u))) (fun s=>(Nn O u.toNat).length - s.1) ((0),(.slice none 0 0),([])) G ⟨rfl,rfl,rfl,rfl,rfl,rfl,rfl,tv⟩ ⟨rfl,rfl,tv⟩ ⟨Yy _,rfl⟩ ?_
 clear G;intro s a w F hC G
 obtain ⟨i,v,out⟩:=s
 try dsimp only at hC
 obtain ⟨F,G⟩:=G.nM [23,22,21,7,6,2,1] [50,0]
 try dsimp only at G
 obtain ⟨hi,hq⟩:=hC
 have hol:out.length≤i:=by rw [hq,YG];exact Y2 (Yac _ _) (by rw [Yi];omega)
 refine Ya (rZ G (qL r2) V [24,23,22,21,7,6,2,1] [50,0] fun G=>Ya ?_)
 refine Zc G Z (fun hc1=>?_) (fun hc1=>?_)
 ·have hil:i<(Nn O u.toNat).length:=by simp at hc1;omega
  refine Ye (Za (Ya (Yg (Ya (Zb G (qy 3 Ych r2 (qf (oR true 3 .t) r1 qz (qf (oH [.int .i64 0,.int .i64 0,.int .i64 0] 101) trivial qz (qS 3 101 r2 r1 qZ)))) V [23,22,21,9,7,6,2,1] [101,50,0] (fun _=>rfl) (fun _=>rfl) fun τ a w F G=>?_)))))
  try dsimp only [RS.sub,SF.sub,CF.sub,csub,Anc.sub,List.map,Zf,xL,xM,Nat.reduceAdd,xD,xE,xT,xU,xC,xN,zCF,ldSF,Zau,Zav,Zm,Zan] at G
  generalize τ 9=v9 at G
  try simp only [Yb] at G
  refine Za (Ya (rZ G (qR rr (qg 0 101 r1 r1 (qa 101 r1 r1 (qf (oP (ZsS mask (Nn (Nn O u.toNat) i).kind) func210 (Args.two .t .t)) r2 qz qZ)))) V [30,23,22,21,9,7,6,2,1] [101,50,0] fun G=>?_))
  refine Zc G Z (fun hc2=>?_) (fun hc2=>?_)
  ·have hBq:ofB mask (Nn (Nn O u.toNat) i).kind=true:=by simpa using hc2
   refine Zb G (qR rr (qR rr (qg 2 101 r1 r1 (qa 101 r1 r1 (qg 0 101 r1 r1 (qa 101 r1 r1 (qg 1 101 r1 r1 (qa 101 r1 r1 (qf (oB [(0,.tmp 32),(1,.tmp 34),(2,.tmp 36),(3,.tmp 38)] [.int .i64 0,.int .i64 0,.int .i64 0,.int .i64 0] [(0,1),(1,1),(2,1),(3,1)] (.one Z .t one_int kr (.one Z .t one_int kr (.one Z .t one_int kr (.one Z .t one_int kr .nil))))) r4 qz (qf (o_buildSliceE (sz:=4) (zs:=[.int .i64 0,.int .i64 0,.int .i64 0,.int .i64 0]) (r:=[(0,.tmp 39)]) (l:=[_,_,_,_]) Ycj kr kr kr kr Z Z (.agg Z .t kr kr .nil) Z) r1 qz (qf (ZP (sz:=4) (bs:=32) 50 (.mk' Ycj kr kr) (by intro x;rfl) .is (.arr (l':=[(⟨u,(Nn (Nn O u.toNat) i).node,(Nn (Nn O u.toNat) i).kind,(Nn (Nn O u.toNat) i).label⟩:Zx)]) .t) (by simp only [Yd,Yl,Yw,Yi,YE];omega) (by decide)) ⟨rfl,rfl,tv⟩ ⟨rfl,tv⟩ (qO rr qZ)))))))))))) V [23,22,21,7,6,2,1] [101,50,0] (fun _=>rfl) (fun _=>rfl) fun τ a w F G=>?_
   try dsimp only [RS.sub,SF.sub,CF.sub,csub,Anc.sub,List.map,Zf,xL,xM,Nat.reduceAdd,xD,xE,xT,xU,xC,xN,zCF,ldSF,Zau,Zav,Zm,Zan] at G
   generalize τ 41=v41 at G
   refine Zh (Za (rZ G (qp r1 (qR rr qZ)) V [23,22,21,7,6,2,1] [101,50,0] fun G=>?_))
   replace G:=G.ent (i:=23) (s':=.pv (.int .i64 ((i+1:Nat):Int))) Z (.int (Zd ow))
   obtain ⟨F,G⟩:=G.nM [22,21,6,2,1,7,23] [0,50]
   exact ⟨((i+1),_,_),F,⟨by omega,(by rw [Zo hil,Yaa,YO,← hq];simp [hBq,Zvu])⟩,G,by omega⟩
  have hBq:ofB mask (Nn (Nn O u.toNat) i).kind=false:=by simpa using hc2
  refine Ye (Zh (Za (rZ G (qp r1 (qR rr qZ)) V [23,22,21,7,6,2,1] [101,50,0] fun G=>?_)))
  replace G:=G.ent (i:=23) (s':=.pv (.int .i64 ((i+1:Nat):Int))) Z (.int (Zd ow))
  obtain ⟨F,G⟩:=G.nM [22,21,6,2,1,7,23] [0,50]
  exact ⟨((i+1),_,_),F,⟨by omega,(by rw [Zo hil,Yaa,YO,← hq];simp [hBq,Zvu])⟩,G,by omega⟩
 have hil:i=(Nn O u.toNat).length:=by simp at hc1;omega
 have hg:out=Zad O mask u:=by rw [hq,hil,Yz];unfold Zad;rw [Yf hth]
 refine Yx (Zi (Zi (Zn (Za (Ya (rZ G (qR rr (qO rr qZ)) V [6] [50,0] fun G=>Yh ?_))))))
 obtain ⟨F,G⟩:=G.give 50 6 Z rfl
 refine Zs hfr G Z Z Z (.sl hg)
theorem ZsY (O I:List (List Z9)) (m:Nat) (mask must:Int) (dv ev:List Int) (x:Zx) (need:Bool) (hx:0≤x.dst∧x.dst<dv.length∧x.dst<ev.length):FnP prog 172 [.agg [ZeJ O I m,.int .i64 mask,.int .i64 must,.sl Zm dv,.sl Zm ev],.agg (Zan x),.bool need] (.int .i64 (ZF (fun y:Zx=>ofB must y.kind) dv ev need x)):=by
 refine FnP.mk func172 Z ntmps172 Z fun B a w F V hfr G=>Ya ?_
 refine Zb G (qx 101 r1 (qx 102 r1 (qI qZ))) V [6,4,3,2] [102,101,0] (fun _=>rfl) (fun _=>rfl) fun τ a w F G=>?_
 try dsimp only [RS.sub,SF.sub,CF.sub,csub,Anc.sub,List.map,zCF,Zau,Zav,Zm,Zan] at G
 generalize τ 3=v3,τ 4=v4 at G
 refine Za (Ya (Ya (rZ G (qR rr (qR rr (qv 2 101 Z r2 r1 (qw 101 Z r2 r1 (qv 2 102 Z r2 r1 (qw 102 Z r2 r1 (qk Z (fun h=>o_conv Yck kr (.w h)) r2 qz (qk Z (fun h=>Zcb (.w h) (.w h)  (by rw [Zaj];omega)) r3 qz (qk Z (fun h=>o_and (.w h) qi) r2 qz (qk Z (fun h=>o_eql (.w h) qi) r2 qz (qf (ZD .t .t) r2 qz qZ))))))))))) V [17,6,4,3] [102,101,0] fun G=>?_)))
 refine Zc G Z (fun hc0=>?_) (fun hc0=>?_)
 ·have hg:Nn ev x.dst.toNat=ZF (fun y:Zx=>ofB must y.kind) dv ev need x:=by unfold ZF;rw [Yf (by rw [← of_zero];exact hc0),ZaN hx.1]
  refine Ya (Ze G (qg 4 101 r1 r1 (qa 101 r1 r1 (qg 1 102 r1 r1 (qa 102 r1 r1 (qy 1 Ycd r2 (qf (oR false 1 .t) r1 qz (qO rr qZ))))))) V [6,4,3] [102,101,0] Z Z fun a w F G=>?_)
  try simp only [Yb] at G
  refine Za (Yh (Zk (Zs hfr G Z Z Z (.int hg))))
 have hg:Nn dv x.dst.toNat=ZF (fun y:Zx=>ofB must y.kind) dv ev need x:=by unfold ZF;rw [Yc (by rw [← of_zero,Bool.not_eq_true];exact hc0),ZaN hx.1]
 refine Ye (Za (Ya (Ze G (qg 3 101 r1 r1 (qa 101 r1 r1 (qg 1 102 r1 r1 (qa 102 r1 r1 (qy 1 Ycd r2 (qf (oR false 1 .t) r1 qz (qO rr qZ))))))) V [6] [0] Z Z fun a w F G=>?_)))
 try simp only [Yb] at G
 refine Za (Yh (Zs hfr G Z Z Z (.int hg)))
end Go.Proofs.YtlkpllemoepamaaGreat
