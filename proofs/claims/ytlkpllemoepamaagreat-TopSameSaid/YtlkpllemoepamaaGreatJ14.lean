/- Texts put together. No condition beyond those that each theorem says. -/
import Derived.Test.YtlkpllemoepamaaGreatJ13
import Derived.Test.YtlkpllemoepamaaGreatJ8
import Derived.Test.YtlkpllemoepamaaGreatJ5
import Derived.Test.YtlkpllemoepamaaGreatJ3
import Derived.Test.YtlkpllemoepamaaGreatJ4
import Derived.Test.YtlkpllemoepamaaGreatLibI
namespace Go.Proofs.YtlkpllemoepamaaGreat
open Go Go.Gm Tryz
set_option linter.unusedVariables false
set_option linter.unusedSimpArgs false
set_option maxHeartbeats 4000000
set_option maxRecDepth 8000
theorem ZtB (mv:Value):FnP prog 134 [.is mv] (.clos 177 [.ref [.is mv]]):=by
 refine FnP.mk func134 rfl ntmps134 rfl fun B a w F V hfr G=>Ya ?_
 refine Zb G (qf (Zeu 101 .t one_is) r1 qz (qC qZ)) V [2,1] [101,0] (fun _=>rfl) (fun _=>rfl) fun τ a w F G=>?_
 try dsimp only [RS.sub,SF.sub,CF.sub,csub,Anc.sub,List.map,zCF,Zs,rTx,ZP,ZS,rInt,rOp] at G
 generalize τ 1=v1 at G
 obtain ⟨F,G⟩:=G.giveRef 101 1 rfl rfl rfl
 obtain ⟨F,G⟩:=G.nM [2,1] [0]
 try dsimp only [Go.Gm.unCF] at G
 refine Za (Ya (rZ G (qf (ZaH (Args.one .t)) r1 qz (qO rr qZ)) V [2] [0] fun G=>Yh ?_))
 refine Zo hfr G rfl rfl rfl .refl
theorem Zf9 (l:List Zg):(ZbE ltE l).length≤l.length:=by
 have key:∀ (l acc:List Zg),(l.foldl (Zmm ltE) acc).length≤acc.length+l.length:=by
  intro l
  induction l with
  | nil=>intro acc;simp
  | cons e l ih=>
   intro acc
   rw [YaE,Yl]
   have h1:=ih (Zmm ltE acc e)
   have h2:(Zmm ltE acc e).length≤acc.length+1:=Zje ltE e acc false
   omega
 have:=key l []
 unfold ZbE
 simpa using this
theorem ZuQ (mv:Value) (AA:List (Zg×Int)) (RR:List Zg) (hAR:AA.length+RR.length≤1000000):FnG prog 77 1 [.is mv] [Zf3 AA RR mv] (.sl rHv (ZgA AA RR)) (fun _=>[Zf3 AA RR mv]):=by
 refine FnG.mk func77 rfl ntmps77 rfl kr fun B F0 a w F V hG G=>?_
 obtain ⟨⟨es,ck⟩,G⟩:=G.open_ex 1 rfl
 obtain ⟨hE,G⟩:=G.open_and 1 rfl
 replace G:=G.turn 1 rfl (r':=.ob (.val mv) (ZbA (fun n:Int=>PV.int .i64 n) (fun k=>∀ x ∈ Zaq k,inR .i64 x) (kvS Zaq) es ck)) (fun _ _ _ _ h=>h)
 try dsimp only at hE
 obtain ⟨F,G⟩:=G.nM [0] [1,0]
 refine Ya (rZ G (qC qZ) V [2,0] [1,0] fun G=>Ya ?_)
 refine rZ G (qC qZ) V [3,2,0] [1,0] fun G=>(Ya (Ya ?_))
 replace G:=G.fresh 60 rfl
 replace G:=G.turn 1 rfl (r':=RS.hp (ZbA (fun n:Int=>PV.int .i64 n) (fun k=>∀ x ∈ Zaq k,inR .i64 x) (kvS Zaq) es ck mv)) (fun _ _ _ _ h=>h)
 obtain ⟨F,G⟩:=G.nM [3,2,0] [60,1,0]
 refine Zad 3 G kr (cG rfl (oM .t) r1 trivial (cG rfl (oP (ZtB mv) func134 (Args.one .t)) r1 trivial (cG rfl (ZpL 1 60 (ZjX (fun n:Int=>PV.int .i64 n) mv es ck (by have:=hE.len;omega)) func133 rfl kr rfl (Args.one .t) pvOne1) r1 r2 ChainN.nil))) kr (by rw [V];kernel_rfl) fun a w F G=>?_
 replace G:=G.sub
 obtain ⟨F,G⟩:=G.nM [8,3,2,0] [60,1,0]
 try dsimp only [RS.sub,SF.sub,CF.sub,csub,Anc.sub,List.map,Zs,rTx,ZP,ZS,rInt,rOp,Zp,rHv] at G
 generalize Act.tau a 8=v8 at G
 replace G:=G.turn 60 rfl (r':=RS.hp (HP.ex fun l:List Zg=>HP.and (l.Perm (es.map fun z:GE Zg Int=>z.key)) (ZA 42 4 Zp l v8))) (fun _ _ _ _ h=>h)
 obtain ⟨ks,G⟩:=G.open_ex 60 rfl
 obtain ⟨hks,G⟩:=G.open_and 60 rfl
 replace G:=G.turn 60 rfl (r':=.ob (.val v8) (ZA 42 4 Zp ks)) (fun _ _ _ _ h=>h)
 have hkl:ks.length≤1000000:=by have h1:=hks.length_eq;have h2:=hE.len;rw [YM] at h1;omega
 replace G:=G.turn 1 rfl (r':=.ob (.val mv) (ZbA (fun n:Int=>PV.int .i64 n) (fun k=>∀ x ∈ Zaq k,inR .i64 x) (kvS Zaq) es ck)) (fun _ _ _ _ h=>h)
 obtain ⟨F,G⟩:=G.give 60 8 rfl rfl
 obtain ⟨F,G⟩:=G.nM [8,3,2,0] [1,0]
 refine Zax G kr (cG rfl (oP (ZqC ks hkl) func132 (Args.one .t)) r1 trivial (cG rfl (ZcB underlying31 .t) r1 trivial (cG rfl (oM (.ci kr)) trivial trivial ChainN.nil))) kr (by rw [V];kernel_rfl) fun a w F G=>?_
 obtain ⟨F,G⟩:=G.nM [11,10,9,3,2,0] [1,0]
 try dsimp only [Zs,rTx,ZP,ZS,rInt,rOp,Zp,rHv] at G
 rw [ZfV hE hks] at G
 have hkn:(ZbE ltE (Zgf AA RR)).length≤1000000:=by rw [← ZfV hE hks];exact Y5 (Zf9 ks) hkl
 refine Za (Yg ?_)
 replace G:=G.fresh 50 rfl
 replace G:=G.turn 50 rfl (ZaA (T:=125) (sz:=5) (R:=rHv))
 refine Zl (σ:=(Nat)×(Value)×(List HvD)) [0,2,9,10] [0,1] (fun s=>[(11,.pv (.int .i64 (s.1:Int))),(3,.pv (.is s.2.1))]) (fun s=>[(50,.ob (.val s.2.1) (ZA 125 5 rHv s.2.2))]) (fun s=>s.1≤(ZbE ltE (Zgf AA RR)).length∧(s.2.2=((ZbE ltE (Zgf AA RR)).take s.1).map fun e=>(⟨e,cntA AA RR e⟩:HvD))) (fun s=>(ZbE ltE (Zgf AA RR)).length - s.1) ((0),(.slice none 0 0),([])) G ⟨rfl,rfl,rfl,rfl,rfl,rfl,tv⟩ ⟨rfl,rfl,rfl,tv⟩ ⟨Yv _,rfl⟩ ?_
 clear G;intro s a w F hC G
 obtain ⟨i,v,out⟩:=s
 try dsimp only at hC
 obtain ⟨F,G⟩:=G.nM [11,10,9,3,2,0] [50,1,0]
 try dsimp only at G
 obtain ⟨hi,hq⟩:=hC
 have hol:out.length≤i:=by rw [hq,YM,Yj];omega
 refine Ya (rZ G (qL r2) V [12,11,10,9,3,2,0] [50,1,0] fun G=>Ya ?_)
 refine Zc G rfl (fun hc0=>?_) (fun hc0=>?_)
 ·have hil:i<(ZbE ltE (Zgf AA RR)).length:=by simp at hc0;omega
  refine Ye (Za (Ya (Yg (Ya (Zb G (qy 4 underlying31 r2 (qf (oR true 4 .t) r1 qz (qf (oH [.int .i64 0,.int .i64 0,.int .i64 0,.int .i64 0] 101) trivial qz (qS 4 101 r2 r1 qZ)))) V [11,10,9,5,3,2,0] [101,50,1,0] (fun _=>rfl) (fun _=>rfl) fun τ a w F G=>?_)))))
  try dsimp only [RS.sub,SF.sub,CF.sub,csub,Anc.sub,List.map,Ze,xL,xM,Nat.reduceAdd,xD,xE,xT,xU,xC,xN,zCF,ldSF,Zs,rTx,ZP,ZS,rInt,rOp,Zp,rHv] at G
  generalize τ 5=v5 at G
  try simp only [Yb] at G
  refine Za (ZaI G (qR rr (qe 4 101 r1 r1 (qR rr (qe 4 101 r1 r1 (qf (Zap (ek:=(fun n:Int=>PV.int .i64 n)) (z0:=(0)) 1 underlying127 ZcR kr (fun _ _=>⟨rfl,Zdj⟩) .is (ZI.agg (enc:=Zaq) (k:=Nn (ZbE ltE (Zgf AA RR)) i) (.pagg .t) rfl)) r2 r1 (qf (oB [(0,.tmp 16),(1,.tmp 19)] [.int .i64 0,.int .i64 0,.int .i64 0,.int .i64 0,.int .i64 0] [(0,4),(4,1)] (.agg rfl .t kr kr (.one rfl .t one_int kr .nil))) r2 qz (qf (o_buildSliceE (sz:=5) (zs:=[.int .i64 0,.int .i64 0,.int .i64 0,.int .i64 0,.int .i64 0]) (r:=[(0,.tmp 20)]) (l:=[_,_,_,_,_]) underlying73 kr kr kr kr rfl rfl (.agg rfl .t kr kr .nil) rfl) r1 qz (qf (ZW (sz:=5) (bs:=40) 50 (.mk' underlying73 kr kr) (by intro x;rfl) .is (.arr (l':=[(⟨Nn (ZbE ltE (Zgf AA RR)) i,(gGet (Nn (ZbE ltE (Zgf AA RR)) i) es).getD 0⟩:HvD)]) .t) (by simp only [Yd,Yl,Yy];omega) (by decide)) ⟨rfl,rfl,tv⟩ ⟨rfl,tv⟩ (qO rr qZ))))))))) V [11,10,9,3,2,0] [101,50,1,0] (fun _=>rfl) (fun _=>rfl) fun τ a w F G=>?_)
  try dsimp only [RS.sub,SF.sub,CF.sub,csub,Anc.sub,List.map,Ze,xL,xM,Nat.reduceAdd,xD,xE,xT,xU,xC,xN,zCF,ldSF,Zs,rTx,ZP,ZS,rInt,rOp,Zp,rHv] at G
  generalize τ 22=v22 at G
  refine Zj (Za (rZ G (qp r1 (qR rr qZ)) V [11,10,9,3,2,0] [101,50,1,0] fun G=>?_))
  replace G:=G.ent (i:=11) (s':=.pv (.int .i64 ((i+1:Nat):Int))) rfl (.int (Zd ow))
  obtain ⟨F,G⟩:=G.nM [10,9,2,0,3,11] [1,0,50]
  exact ⟨((i+1),_,_),F,⟨by omega,(by rw [Zr hil,YQ,← hq,List.map_singleton];unfold cntA;rw [hE.val])⟩,G,by omega⟩
 have hil:i=(ZbE ltE (Zgf AA RR)).length:=by simp at hc0;omega
 refine Yw (Zi (Zi (Zn (Za (Ya (rZ G (qR rr (qO rr qZ)) V [2] [50,1,0] fun G=>Yh ?_))))))
 obtain ⟨F,G⟩:=G.give 50 2 rfl rfl
 have G:=G.turn 1 rfl (r':=RS.hp (Zf3 AA RR mv)) (fun _ _ _ _ h=>⟨(es,ck),hE,h⟩)
 refine Zac hG G rfl (.tmp rfl .nil) (.one (.sl (by rw [hq,hil,YD];rfl))) rfl
theorem ZqJ (x:Int):FnP prog 79 [.int .i64 x] (.bool ((fun _=>true) x)):=by
 refine FnP.mk func79 rfl ntmps79 rfl fun B a w F V hfr G=>Ya ?_
 refine rZ G qB V [2] [0] fun G=>Ya ?_
 refine rZ G qB V [2] [0] fun G=>Yh ?_
 refine Zo hfr G rfl rfl rfl (.bool rfl)
theorem Zoo (g:Zt) (hsm:Zbc g) (hAR:(wwC (fun _=>true) g).length+(rdC (fun _=>true) g).length≤1000000):FnP prog 38 [.agg (Zs g)] (.sl rHv (ZgA (wwC (fun _=>true) g) (rdC (fun _=>true) g))):=by
 refine FnP.mk func38 rfl ntmps38 rfl fun B a w F V hfr G=>Ya ?_
 refine Zb G (qx 101 r1 (qC qZ)) V [2,1] [101,0] (fun _=>rfl) (fun _=>rfl) fun τ a w F G=>?_
 try dsimp only [RS.sub,SF.sub,CF.sub,csub,Anc.sub,List.map,zCF,Zs,rTx,ZP,ZS,rInt,rOp,rHv] at G
 generalize τ 1=v1 at G
 refine Za (Ya ?_)
 replace G:=G.fresh 102 rfl
 refine Zad 2 G kr (cG rfl (oL true 2 101 .is) r1 r1 (cG rfl (Zav 102 (ZnO g hsm (fun _=>true) 79 f79 [] func79 rfl kr (fun x=>ZqJ x)) func78 rfl kr (Args.two (.pagg .t) (.conv .f (Ent.fnClos))) pvOne1) r1 r1 ChainN.nil)) kr (by rw [V];kernel_rfl) fun a w F G=>?_
 replace G:=G.sub
 obtain ⟨F,G⟩:=G.nM [4,2] [102,101,0]
 try dsimp only [RS.sub,SF.sub,CF.sub,csub,Anc.sub,List.map,xD,xE,xT,xU,ldSF,Zs,rTx,ZP,ZS,rInt,rOp,rHv] at G
 generalize Act.tau a 4=v4 at G
 replace G:=G.turn 102 rfl (r':=RS.hp (Zf3 (wwC (fun _=>true) g) (rdC (fun _=>true) g) v4)) (fun _ _ _ _ h=>h)
 obtain ⟨F,G⟩:=G.nM [4,2] [102,101,0]
 refine Zax G kr (cG rfl (ZJ 102 (ZuQ _ (wwC (fun _=>true) g) (rdC (fun _=>true) g) hAR) func77 rfl kr (Args.one .t)) r1 r1 (cG rfl (oN .t) r1 trivial ChainN.nil)) kr (by rw [V];kernel_rfl) fun a w F G=>?_
 obtain ⟨F,G⟩:=G.nM [2] [102,101,0]
 try dsimp only [Zs,rTx,ZP,ZS,rInt,rOp,rHv] at G
 refine Za (Yh (Zo hfr G rfl rfl rfl .refl))
theorem ZsH (t u:TxD) (o:OpD) (phen:Int) (hu:u.ops.length≤1000):FnP prog 152 [.agg (rTx t),.agg (rTx u),.agg (rOp o),.int .i64 phen] (.bool (Zil t u o phen)):=by
 refine FnP.mk func152 rfl ntmps152 rfl fun B a w F V hfr G=>Ya ?_
 refine Zb G (qx 101 r1 (qx 102 r1 (qx 103 r1 qB))) V [8,6,5,4,3] [103,102,101,0] (fun _=>rfl) (fun _=>rfl) fun τ a w F G=>?_
 try dsimp only [RS.sub,SF.sub,CF.sub,csub,Anc.sub,List.map,zCF,Zs,rTx,ZP,ZS,rInt,rOp,Zh0] at G
 generalize τ 4=v4 at G
 generalize τ 5=v5 at G
 generalize τ 6=v6 at G
 refine Za (Ya (Ya (rZ G (qR rr qZ) V [9,8,6,5,4] [103,102,101,0] fun G=>(Yg (Ya ?_)))))
 refine rZ G (qf (o_eql .t qi) r1 qz (qO rr qZ)) V [10,9,8,6,5,4] [103,102,101,0] fun G=>?_
 refine Zc G rfl (fun hc0=>?_) (fun hc0=>?_)
 ·have h2:phen=2:=by simpa using hc0
  refine Ya (rZ G (qg 1 101 r1 r1 (qa 101 r1 r1 (qR rr (qv 1 102 rfl r2 r1 (qw 102 rfl r2 r1 (qk rfl (fun h=>o_not (.w h)) r2 qz (qf (ZD .t .t) r2 qz (qO rr qZ)))))))) V [8] [103,102,101,0] fun G=>(Yh (Zu (Zk ?_))))
  refine Zo hfr G rfl rfl rfl (.bool (by unfold Zil wcnt;first | (rw [Yf h2];done) | (rw [Yc h2,h3,Ybp];done) | (rw [Yc h2,h3];simp)))
 have h2:¬ phen=2:=by simpa using hc0
 refine Ya (rZ G (qf (o_eql .t qi) r1 qz (qO rr qZ)) V [19,8,6,5,4] [103,102,101,0] fun G=>?_)
 refine Zc G rfl (fun hc1=>?_) (fun hc1=>?_)
 ·have h3:decide (phen=3)=true:=hc1
  refine Ya (Zx G (qg 1 101 r1 r1 (qa 101 r1 r1 (qR rr (qv 3 103 rfl r2 r1 (qw 103 rfl r2 r1 (qk rfl (fun h=>oL true 3 102 .is) r2 r1 (qv 1 103 rfl r2 r1 (qw 103 rfl r2 r1 (qk rfl (fun h=>oP (Zft u o.key ow) func29 (Args.two (.pagg (.w h)) (.w h))) r3 qz (qk rfl (fun h=>Zay (.w h) (.w h)) r3 qz (qf (ZD .t .t) r2 qz (qO rr qZ)))))))))))) V [8] [103,102,101,0] rfl rfl fun a w F G=>?_)
  try dsimp only [List.map,xD,xE,xT,xU,ldSF,Zs,rTx,ZP,ZS,rInt,rOp,Zh0] at G
  refine Za (Yh (Zu (Zk (Zo hfr G rfl rfl rfl (.bool (by unfold Zil wcnt;first | (rw [Yf h2];done) | (rw [Yc h2,h3,Ybp];done) | (rw [Yc h2,h3];simp)))))))
 have h3:decide (phen=3)=false:=hc1
 refine Ye (Zj (Za (Ya (rZ G qB V [8] [103,102,101,0] fun G=>Yh ?_))))
 refine Zo hfr G rfl rfl rfl (.bool (by unfold Zil wcnt;first | (rw [Yf h2];done) | (rw [Yc h2,h3,Ybp];done) | (rw [Yc h2,h3];simp)))
theorem Ztn {g:Zt} (hs:Za0 g.txs) (o:OpD):(uOf g o).ops.length≤1000:=by
 unfold uOf
 cases hf:Zaj g.txs o.tx with
 | none=>simp [zeroT]
 | some t=>exact hs.2 _ (findT_mem hf).1
theorem ZqK (g : Zt) (phen : Int) (hsm : Zbc g) (p : Int → Bool) (f : FuncId) (fn : Func) (cps : List PV) (hf : prog.funcs[f]? = some fn) (hb : fn.body.isSome = true) (hnn : (fn.name == "runtime.NumGoroutine") = false) (hw : ∀ x, FnP prog f (.int .i64 x :: cps) (.bool (p x))) : FnP prog 111 [.agg (Zs g), .int .i64 phen, .clos f cps] (.sl Zh0 (ZaQ g phen p)) := by
 refine FnP.mk func111 rfl ntmps111 rfl fun B a w F V hfr G=>?_
 have hs:=hsm.1
 have hsl:=hs.1
 refine Ya (Zb G (qx 101 r1 (qC qZ)) V [6,3,2,1] [101,0] (fun _=>rfl) (fun _=>rfl) fun τ a w F G=>?_)
 try dsimp only [RS.sub,SF.sub,CF.sub,csub,Anc.sub,List.map,zCF,Zs,rTx,ZP,ZS,rInt,rOp,Zh0] at G
 generalize τ 3=v3 at G
 refine Za (Ya (rZ G (qC qZ) V [7,6,3,2,1] [101,0] fun G=>(Ya (Ya ?_))))
 refine rZ G (qe 2 101 r1 r1 (qf (oP (ZeT g hsm) func19 (Args.one (.pagg .t))) r1 qz (qf (o_not .t) r1 qz qZ))) V [17,7,6,3,2,1] [101,0] fun G=>?_
 refine Zc G rfl (fun hc0=>?_) (fun hc0=>?_)
 ·skip
  have hg:[] = ZaQ g phen p:=by unfold ZaQ;rw [Yc (by simpa using hc0)]
  refine Ya (rZ G (qR rr (qO rr qZ)) V [7,6,3,2,1] [101,0] fun G=>(Yh (Zk ?_)))
  refine Zo hfr G rfl rfl rfl (.trans .nilSl (.sl (by first | exact hg | (rw [hq,hil,YD];exact hgg))))
 have hr:ZQ g:=by simpa using hc0
 have hgg:badsG g phen p g.txs=ZaQ g phen p:=by unfold ZaQ;rw [Yf hr]
 refine Ye (Za (Ya (Zb G (qf (ZaR (ek:=(fun t:TxD=>PV.agg (rTx t))) (ok:=(fun _=>True)) (kv:=(fun n:Int=>Value.int .i64 n)) 102) trivial qz (qO rr qZ)) V [8,7,6,3,2,1] [102,101,0] (fun _=>rfl) (fun _=>rfl) fun τ a w F G=>?_)))
 try dsimp only [RS.sub,SF.sub,CF.sub,csub,Anc.sub,List.map,Ze,xL,xM,Nat.reduceAdd,xD,xE,xT,xU,xC,xN,zCF,Zs,rTx,ZP,ZS,rInt,rOp,Zh0] at G
 generalize τ 19=v19 at G
 refine Za (Ya (Ya (rZ G (qg 0 101 r1 r1 (qa 101 r1 r1 (qu underlying22 r1 (qJ qZ)))) V [23,22,21,8,7,6,3,2,1] [102,101,0] fun G=>Yg ?_)))
 refine Zl (σ:=(Nat)×(List (GE Int TxD))×(Nat)) [1,2,3,6,7,8,21,22] [0,101] (fun s=>[(23,.pv (.int .i64 (s.1:Int)))]) (fun s=>[(102,.ob (.val v19) (ZbA (fun t:TxD=>PV.agg (rTx t)) (fun _=>True) (fun n:Int=>Value.int .i64 n) s.2.1 s.2.2))]) (fun s=>s.1≤g.txs.length∧(Ztq s.2.1 (g.txs.take s.1))) (fun s=>g.txs.length - s.1) ((0),([]),(0)) G ⟨rfl,rfl,rfl,rfl,rfl,rfl,rfl,rfl,rfl,tv⟩ ⟨rfl,rfl,rfl,tv⟩ ⟨Yv _,(fun id=>rfl)⟩ ?_
 clear G;intro s a w F hC G
 obtain ⟨i,es,ck⟩:=s
 try dsimp only at hC
 obtain ⟨F,G⟩:=G.nM [23,22,21,8,7,6,3,2,1] [102,101,0]
 try dsimp only at G
 obtain ⟨hi,hq⟩:=hC
 refine Ya (rZ G (qL r2) V [24,23,22,21,8,7,6,3,2,1] [102,101,0] fun G=>Ya ?_)
 refine Zc G rfl (fun hc1=>?_) (fun hc1=>?_)
 ·skip
  have hil:i<g.txs.length:=by simp at hc1;omega
  refine Ye (Za (Ya (Yg (Ya (Zb G (qy 3 underlying22 r2 (qf (oR true 3 .t) r1 qz (qf (oH [.int .i64 0,.bool false,.slice none 0 0] 103) trivial qz (qS 3 103 r2 r1 qZ)))) V [23,22,21,10,8,7,6,3,2,1] [103,102,101,0] (fun _=>rfl) (fun _=>rfl) fun τ a w F G=>?_)))))
  try dsimp only [RS.sub,SF.sub,CF.sub,csub,Anc.sub,List.map,Ze,xL,xM,Nat.reduceAdd,xD,xE,xT,xU,xC,xN,zCF,ldSF,Zs,rTx,ZP,ZS,rInt,rOp,Zh0] at G
  generalize τ 10=v10 at G
  try simp only [Yb] at G
  refine Za (Zf G (qR rr (qg 0 103 r1 r1 (qa 103 r1 r1 (qe 3 103 r1 r1 (qf (o_mapUpdateG (ek:=(fun t:TxD=>PV.agg (rTx t))) (v:=(Nn g.txs i)) 102 underlying210 (Zcu underlying3) .is (ZI.int .t rfl) (.pagg .t)) r3 r1 qZ))))) V [23,22,21,8,7,6,3,2,1] [103,102,101,0] rfl rfl fun a w F G=>Zj (Za ?_))
  refine rZ G (qp r1 (qR rr qZ)) V [23,22,21,8,7,6,3,2,1] [103,102,101,0] fun G=>?_
  replace G:=G.ent (i:=23) (s':=.pv (.int .i64 ((i+1:Nat):Int))) rfl (.int (Zd ow))
  obtain ⟨F,G⟩:=G.nM [22,21,8,7,6,3,2,1,23] [101,0,102]
  exact ⟨((i+1),((gPut (Nn g.txs i).id (Nn g.txs i) (es,ck)).1),((gPut (Nn g.txs i).id (Nn g.txs i) (es,ck)).2)),F,⟨by omega,ZsN hr.2.1 hq hil⟩,G,by omega⟩
 have hil:i=g.txs.length:=by simp at hc1;omega
 have hby:∀ id,gGet id es=Zaj g.txs id:=by rw [hil,YD] at hq;exact hq
 refine Yw (Zi (Zi (Zn (Za (Ya (Ya (rZ G (qg 0 101 r1 r1 (qa 101 r1 r1 (qu underlying22 r1 (qJ qZ)))) V [35,34,33,8,7,6,2,1] [102,101,0] fun G=>Yg ?_)))))))
 replace G:=G.fresh 50 rfl
 replace G:=G.turn 50 rfl (ZaA (T:=35) (sz:=5) (R:=Zh0))
 refine Zl (σ:=(Nat)×(Value)×(List Zo3)) [1,2,6,8,33,34] [0,101,102] (fun s=>[(35,.pv (.int .i64 (s.1:Int))),(7,.pv (.is s.2.1))]) (fun s=>[(50,.ob (.val s.2.1) (ZA 35 5 Zh0 s.2.2))]) (fun s=>s.1≤g.txs.length∧(s.2.2=badsG g phen p (g.txs.take s.1))) (fun s=>g.txs.length - s.1) ((0),(.slice none 0 0),([])) G ⟨rfl,rfl,rfl,rfl,rfl,rfl,rfl,rfl,tv⟩ ⟨rfl,rfl,rfl,rfl,tv⟩ ⟨Yv _,rfl⟩ ?_
 clear G;intro s a w F hC G
 obtain ⟨i,x0,out⟩:=s
 try dsimp only at hC
 obtain ⟨F,G⟩:=G.nM [35,34,33,8,7,6,2,1] [102,101,50,0]
 try dsimp only at G
 obtain ⟨hi,hq⟩:=hC
 have hxl:=fun hil:i<g.txs.length=>hs.at hil
 have hol:out.length≤1000*i:=by rw [hq];exact Zk6 hs i
 refine Ya (rZ G (qL r2) V [36,35,34,33,8,7,6,2,1] [102,101,50,0] fun G=>Ya ?_)
 refine Zc G rfl (fun hc2=>?_) (fun hc2=>?_)
 ·skip
  have hil:i<g.txs.length:=by simp at hc2;omega
  have hio:=hil
  have htl:=hxl hil
  have hsl:=hs.1
  refine Ye (Za (Ya (Yg (Ya (Zb G (qy 3 underlying22 r2 (qf (oR true 3 .t) r1 qz (qf (oH [.int .i64 0,.bool false,.slice none 0 0] 104) trivial qz (qS 3 104 r2 r1 qZ)))) V [35,34,33,12,8,7,6,2,1] [104,102,101,50,0] (fun _=>rfl) (fun _=>rfl) fun τ a w F G=>?_)))))
  try dsimp only [RS.sub,SF.sub,CF.sub,csub,Anc.sub,List.map,Ze,xL,xM,Nat.reduceAdd,xD,xE,xT,xU,xC,xN,zCF,ldSF,Zs,rTx,ZP,ZS,rInt,rOp,Zh0] at G
  generalize τ 12=v12 at G
  try simp only [Yb] at G
  refine Za (Ya (rZ G (qg 2 104 r1 r1 (qa 104 r1 r1 (qu underlying28 r1 (qJ qZ)))) V [42,41,40,35,34,33,12,8,7,6,2,1] [104,102,101,50,0] fun G=>Yg ?_))
  refine Zl (σ:=(Nat)×(Value)×(List Zo3)) [1,2,6,8,12,33,34,35,40,41] [0,101,102,104] (fun s=>[(42,.pv (.int .i64 (s.1:Int))),(7,.pv (.is s.2.1))]) (fun s=>[(50,.ob (.val s.2.1) (ZA 35 5 Zh0 s.2.2))]) (fun s=>s.1≤(Nn g.txs i).ops.length∧(s.2.2=badsG g phen p (g.txs.take i)++ZdM g phen p (Nn g.txs i) ((Nn g.txs i).ops.take s.1))) (fun s=>(Nn g.txs i).ops.length - s.1) ((0),(x0),(out)) G ⟨rfl,rfl,rfl,rfl,rfl,rfl,rfl,rfl,rfl,rfl,rfl,rfl,tv⟩ ⟨rfl,rfl,rfl,rfl,rfl,tv⟩ ⟨Yv _,(by rw [hq];simp [ZdM])⟩ ?_
  clear G;intro s a w F hC G
  obtain ⟨j,x1,outj⟩:=s
  try dsimp only at hC
  obtain ⟨F,G⟩:=G.nM [42,41,40,35,34,33,12,8,7,6,2,1] [104,102,101,50,0]
  try dsimp only at G
  obtain ⟨hi,hq⟩:=hC
  have hbl:=ZgP g phen p (Nn g.txs i) ((Nn g.txs i).ops.take j)
  have hbg:=Zk6 (g:=g) (phen:=phen) (p:=p) hs i
  have hoj:outj.length≤1000*i+j:=by rw [hq,Yd];rw [Yj] at hbl;omega
  refine Ya (rZ G (qL r2) V [43,42,41,40,35,34,33,12,8,7,6,2,1] [104,102,101,50,0] fun G=>Ya ?_)
  refine Zc G rfl (fun hc3=>?_) (fun hc3=>?_)
  ·skip
   have hil:j<(Nn g.txs i).ops.length:=by simp at hc3;omega
   refine Ye (Za (Ya (Yg (Ya (Zb G (qR rr (qy 4 underlying28 r2 (qf (oR true 4 .t) r1 qz (qf (oH [.bool false,.int .i64 0,.int .i64 0,.int .i64 0] 105) trivial qz (qO rr (qS 4 105 r2 r1 qZ)))))) V [42,41,40,35,34,33,14,13,12,8,7,6,2,1] [105,104,102,101,50,0] (fun _=>rfl) (fun _=>rfl) fun τ a w F G=>?_)))))
   try dsimp only [RS.sub,SF.sub,CF.sub,csub,Anc.sub,List.map,Ze,xL,xM,Nat.reduceAdd,xD,xE,xT,xU,xC,xN,zCF,ldSF,Zs,rTx,ZP,ZS,rInt,rOp,Zh0] at G
   generalize τ 14=v14 at G
   try simp only [Yb] at G
   refine Za (Ya (Ya (rZ G (qg 0 105 r1 r1 (qa 105 r1 r1 (qf (o_not .t) r1 qz (qR rr (qv 2 105 rfl r2 r1 (qw 105 rfl r2 r1 (qk rfl (fun h=>o_eql (.w h) qi) r2 qz (qf (Zam .t .t) r2 qz (qR rr (qv 2 105 rfl r2 r1 (qw 105 rfl r2 r1 (qv 0 104 rfl r2 r1 (qw 104 rfl r2 r1 (qk rfl (fun h=>o_eql (.w h) (.w h)) r3 qz (qf (Zam .t .t) r2 qz (qR rr (qm rfl rfl rfl rfl (qv 1 105 rfl r2 r1 (qw 105 rfl r2 r1 (qk rfl (fun h=>ZN (avs:=[.int .i64 (Nn (Nn g.txs i).ops j).key]) (.w h) (hw (Nn (Nn g.txs i).ops j).key) hf hb hnn (Args.one (.w h))) r3 qz (qk rfl (fun h=>o_not (.w h)) r2 qz (qf (Zam .t .t) r2 qz qZ)))))))))))))))))))))) V [68,42,41,40,35,34,33,14,13,12,8,7,6,2,1] [105,104,102,101,50,0] fun G=>?_)))
   refine Zc G rfl (fun hc4=>?_) (fun hc4=>?_)
   ·skip
    have hBq:¬ (p (Nn (Nn g.txs i).ops j).key && ZrF g phen (Nn g.txs i) (Nn (Nn g.txs i).ops j))=true:=by
      intro h9
      rw [Yx] at h9
      have h8:=h9.2
      unfold ZrF at h8
      rw [Yx] at h8
      have h7:=h8.1
      unfold ZhH at h7
      simp at h7
      have h6:=hc4
      simp [h9.1,h7] at h6
    refine Yw (Zi (Zn (Za (rZ G (qp r1 (qR rr qZ)) V [42,41,40,35,34,33,12,8,7,6,2,1] [105,104,102,101,50,0] fun G=>?_))))
    replace G:=G.ent (i:=42) (s':=.pv (.int .i64 ((j+1:Nat):Int))) rfl (.int (Zd ow))
    obtain ⟨F,G⟩:=G.nM [41,40,35,34,33,12,8,6,2,1,7,42] [104,102,101,0,50]
    exact ⟨((j+1),_,_),F,⟨by omega,(by rw [Zdo hil,← YJ,← hq];first | (rw [Yf hBq];done) | (rw [Yc hBq,YP]))⟩,G,by omega⟩
   have hnd:ZhH (Nn g.txs i).id (Nn (Nn g.txs i).ops j)=true∧p (Nn (Nn g.txs i).ops j).key=true:=by
     have h6:=hc4
     unfold ZhH
     simp at h6
     refine ⟨by simp [h6],by simp [h6]⟩
   refine Ye (Za (Ya (Zad 5 G kr (cG rfl (oL true 3 104 .is) r1 r1 (cG rfl (oM .t) r1 trivial (cG rfl (oF 2 105 .is) r1 r1 (cG rfl (oL false 1 105 .adr) r1 r1 (cG rfl (Zap (ek:=(fun t:TxD=>PV.agg (rTx t))) (z0:=zeroT) 102 underlying210 (Zcu underlying3) kr (fun _ _=>⟨[_,_,_],rfl,⟨rfl,rfl,Zdj⟩,⟨rfl,rfl⟩,⟨rfl,Zsj⟩,tv⟩) .is (ZI.int .t rfl)) r2 r1 ChainN.nil))))) kr (by rw [V];kernel_rfl) fun a w F G=>?_)))
   obtain ⟨F,G⟩:=G.nM [73,69,42,41,40,35,34,33,14,13,12,8,7,6,2,1] [105,104,102,101,50,0]
   try dsimp only [List.map,xD,xE,xT,xU,ldSF,Zs,rTx,ZP,ZS,rInt,rOp,Zh0] at G
   rw [show (gGet (Nn (Nn g.txs i).ops j).tx es).getD zeroT=(uOf g (Nn (Nn g.txs i).ops j)) by rw [hby];rfl] at G
   refine Zax G kr (cG rfl (oL true 4 105 .is) r1 r1 (cG rfl (oM .t) r1 trivial (cG rfl (oP (ZsH (Nn g.txs i) (uOf g (Nn (Nn g.txs i).ops j)) (Nn (Nn g.txs i).ops j) phen (by have:=Ztn hs (Nn (Nn g.txs i).ops j);omega)) func152 (Args.four (.pagg .t) .t (.pagg .t) .t)) r4 trivial ChainN.nil))) kr (by rw [V];kernel_rfl) fun a w F G=>?_
   obtain ⟨F,G⟩:=G.nM [76,42,41,40,35,34,33,14,13,12,8,7,6,2,1] [105,104,102,101,50,0]
   try dsimp only [List.map,xD,xE,xT,xU,ldSF,Zs,rTx,ZP,ZS,rInt,rOp,Zh0] at G
   refine Za (Zc G rfl (fun hc5=>?_) (fun hc5=>?_))
   ·skip
    have hBq:(p (Nn (Nn g.txs i).ops j).key && ZrF g phen (Nn g.txs i) (Nn (Nn g.txs i).ops j))=true:=by unfold ZrF;rw [hnd.1,hnd.2,hc5];rfl
    refine ZaI G (qR rr (qg 0 104 r1 r1 (qa 104 r1 r1 (qR rr (qe 4 105 r1 r1 (qf (oP (Zlp (Nn (Nn g.txs i).ops j)) func120 (Args.one (.pagg .t))) r1 qz (qf (oB [(0,.tmp 79),(1,.tmp 80),(2,.tmp 82)] [.int .i64 0,.int .i64 0,.int .i64 0,.int .i64 0,.int .i64 0] [(0,1),(1,1),(2,3)] (.one rfl .t one_int kr (.one rfl .t one_int kr (.agg rfl (.conv .t .agg) kr kr .nil)))) r3 qz (qf (o_buildSliceE (sz:=5) (zs:=[.int .i64 0,.int .i64 0,.int .i64 0,.int .i64 0,.int .i64 0]) (r:=[(0,.tmp 83)]) (l:=[_,_,_,_,_]) underlying105 kr kr kr kr rfl rfl (.agg rfl .t kr kr .nil) rfl) r1 qz (qf (ZW (sz:=5) (bs:=40) 50 (.mk' underlying105 kr kr) (by intro x;rfl) .is (.arr (l':=[(⟨(Nn g.txs i).id,j,ofO (Nn (Nn g.txs i).ops j)⟩:Zo3)]) .t) (by simp only [Yd,Yl,Yy,Yj,YH];omega) (by decide)) ⟨rfl,rfl,tv⟩ ⟨rfl,tv⟩ (qO rr qZ)))))))))) V [42,41,40,35,34,33,12,8,7,6,2,1] [105,104,102,101,50,0] (fun _=>rfl) (fun _=>rfl) fun τ a w F G=>?_
    try dsimp only [RS.sub,SF.sub,CF.sub,csub,Anc.sub,List.map,Ze,xL,xM,Nat.reduceAdd,xD,xE,xT,xU,xC,xN,zCF,ldSF,Zs,rTx,ZP,ZS,rInt,rOp,Zh0] at G
    generalize τ 85=v85 at G
    refine Zj (Za (rZ G (qp r1 (qR rr qZ)) V [42,41,40,35,34,33,12,8,7,6,2,1] [105,104,102,101,50,0] fun G=>?_))
    replace G:=G.ent (i:=42) (s':=.pv (.int .i64 ((j+1:Nat):Int))) rfl (.int (Zd ow))
    obtain ⟨F,G⟩:=G.nM [41,40,35,34,33,12,8,6,2,1,7,42] [104,102,101,0,50]
    exact ⟨((j+1),_,_),F,⟨by omega,(by rw [Zdo hil,← YJ,← hq];first | (rw [Yf hBq];done) | (rw [Yc hBq,YP]))⟩,G,by omega⟩
   have hBq:¬ (p (Nn (Nn g.txs i).ops j).key && ZrF g phen (Nn g.txs i) (Nn (Nn g.txs i).ops j))=true:=by unfold ZrF;rw [hnd.1,hnd.2,hc5];simp
   refine Ye (Zj (Za (rZ G (qp r1 (qR rr qZ)) V [42,41,40,35,34,33,12,8,7,6,2,1] [105,104,102,101,50,0] fun G=>?_)))
   replace G:=G.ent (i:=42) (s':=.pv (.int .i64 ((j+1:Nat):Int))) rfl (.int (Zd ow))
   obtain ⟨F,G⟩:=G.nM [41,40,35,34,33,12,8,6,2,1,7,42] [104,102,101,0,50]
   exact ⟨((j+1),_,_),F,⟨by omega,(by rw [Zdo hil,← YJ,← hq];first | (rw [Yf hBq];done) | (rw [Yc hBq,YP]))⟩,G,by omega⟩
  have hil:j=(Nn g.txs i).ops.length:=by simp at hc3;omega
  refine Yw (Zi (Zi (Zn (Zj (Za (rZ G (qp r1 (qR rr qZ)) V [35,34,33,8,7,6,2,1] [104,102,101,50,0] fun G=>?_))))))
  replace G:=G.ent (i:=35) (s':=.pv (.int .i64 ((i+1:Nat):Int))) rfl (.int (Zd ow))
  obtain ⟨F,G⟩:=G.nM [34,33,8,6,2,1,7,35] [102,101,0,50]
  exact ⟨((i+1),_,_),F,⟨by omega,(by rw [ZlW hio,hq,hil,YD])⟩,G,by omega⟩
 have hil:i=g.txs.length:=by simp at hc2;omega
 refine Yw (Zi (Zi (Zn (Za (Ya (rZ G (qR rr (qO rr qZ)) V [6] [102,101,50,0] fun G=>Yh ?_))))))
 obtain ⟨F,G⟩:=G.give 50 6 rfl rfl
 refine Zo hfr G rfl rfl rfl (.sl (by first | exact hg | (rw [hq,hil,YD];exact hgg)))
theorem ZvD (x:Int):FnP prog 112 [.int .i64 x] (.bool ((fun _=>true) x)):=by
 refine FnP.mk func112 rfl ntmps112 rfl fun B a w F V hfr G=>Ya ?_
 refine rZ G qB V [2] [0] fun G=>Ya ?_
 refine rZ G qB V [2] [0] fun G=>Yh ?_
 refine Zo hfr G rfl rfl rfl (.bool rfl)
theorem Zvt (g:Zt) (phen:Int) (hsm:Zbc g):FnP prog 67 [.agg (Zs g),.int .i64 phen] (.sl Zh0 (ZaQ g phen fun _=>true)):=by
 refine FnP.mk func67 rfl ntmps67 rfl fun B a w F V hfr G=>Ya ?_
 refine Zb G (qx 101 r1 (qC qZ)) V [4,2,1] [101,0] (fun _=>rfl) (fun _=>rfl) fun τ a w F G=>?_
 try dsimp only [RS.sub,SF.sub,CF.sub,csub,Anc.sub,List.map,zCF,Zs,rTx,ZP,ZS,rInt,rOp,Zh0] at G
 generalize τ 2=v2 at G
 refine Za (Ya (rZ G (qe 2 101 r1 r1 (qR rr (qf (oP (ZqK g phen hsm (fun _=>true) 112 f112 [] func112 rfl kr (fun x=>ZvD x)) func111 (Args.three (.pagg .t) .t (.conv .f (Ent.fnClos)))) r2 qz (qO rr qZ)))) V [4] [101,0] fun G=>Yh ?_))
 refine Zo hfr G rfl rfl rfl .refl
theorem Zvc {p:Int→Bool} {g:Zt} (hs:Zbc g):(rdC p g).length≤2000*g.txs.length:=by
 unfold rdC
 split
 ·have h1:=ZoV (p:=p) (g:=g) hs.1 g.txs.length
  rwa [YD] at h1
 ·simp
def Zai (g:Zt):List Zg:=(ZgA (wwC PT1 g) (rdC PT1 g)).map HvD.edge
def ZU (p:Int):Int×Int:=if p=1 then (2,0) else if p=4 then (6,0) else if p=5 then (14,8) else (0,0)
def PhB (g:Zt) (p:Int):Prop:=if p=2∨p=3 then ZaQ g p PT1≠[] else (ZU p).1≠0∧ZeB (Zai g) (ZU p).1 (ZU p).2
theorem Zim {g:Zt} (hg:ZQ g) {e:Zg} : e ∈ Zai g ↔ EdS g e:=by
 rw [← Zuv hg]
 unfold Zai ZgA
 rw [Ybq]
 rw [show (HvD.edge ∘ fun e=>(⟨e,cntA (wwC PT1 g) (rdC PT1 g) e⟩:HvD))=id from rfl,List.map_id]
 exact (Zbz ZbZ _).2 _
theorem ZkR {g:Zt} (hg:¬ ZQ g):Zai g = []:=by
 unfold Zai ZgA Zgf wwC rdC
 rw [Yc hg,Yc hg];rfl
theorem Zlq {g:Zt} (hg:ZQ g) {e:Zg} (he:EdS g e):(∃ t ∈ g.txs,t.id=e.src∧t.done=true) ∧ ∃ t ∈ g.txs,t.id=e.dst∧t.done=true:=by
 obtain ⟨_,h2,h3,_,_,h6⟩:=Zd2.1 hg
 have ord:∀ {k z:Int},z ∈ getO g.orders k → ∃ t ∈ g.txs,t.id=z∧t.done=true:=fun {k z} hz=>by
  obtain ⟨t,h4,h5,h7,_⟩:=Ze9.1 ((h6 k).mem_iff.1 hz)
  exact ⟨t,h4,h5,h7⟩
 rcases he with ⟨_,h⟩ | ⟨t,ht,hd,o,_,_,h1,h7,h8⟩
 ·exact ⟨ord h.mem.1,ord h.mem.2⟩
 ·rcases h8 with ⟨h9,rfl⟩ | ⟨y,h9,_,rfl⟩
  ·refine ⟨?_,t,ht,rfl,hd⟩
   rcases h7 with h7 | ⟨u,u1,u2,_⟩
   ·exact absurd h7 h9
   ·exact ⟨u,(findT_mem u1).1,(findT_mem u1).2,u2⟩
  ·exact ⟨⟨t,ht,rfl,hd⟩,ord h9.mem⟩
theorem Zpl {g:Zt} (hs:Zbc g) (mask:Int):(ZH (Zem (Zai g) mask)).length≤4096:=by
 by_cases hg:ZQ g
 ·have h1:(ZH (Zem (Zai g) mask)).length≤(g.txs.map TxD.id).length:=List.Nodup.length_le_of_subset (ZiY _) fun x hx=>by
   obtain ⟨e,he,hx⟩:=Zb7.1 hx
   obtain ⟨h3,h4⟩:=Zlq hg ((Zim hg).1 (Y4.1 he).1)
   rcases hx with rfl | rfl
   ·obtain ⟨t,h5,h6,_⟩:=h3;exact Yu.2 ⟨t,h5,h6⟩
   ·obtain ⟨t,h5,h6,_⟩:=h4;exact Yu.2 ⟨t,h5,h6⟩
  have h2:=hs.1.1
  rw [YM] at h1;omega
 ·rw [ZkR hg];exact Yv _
theorem ZnL (l:List HvD) (hl:l.length≤1000000):FnP prog 37 [.sl rHv l] (.sl Zp (l.map HvD.edge)):=by
 refine FnP.mk func37 rfl ntmps37 rfl fun B a w F V hfr G=>Ya ?_
 refine rZ G (qC qZ) V [2,0] [0] fun G=>Ya ?_
 refine rZ G (qC qZ) V [3,2,0] [0] fun G=>(Ya (Ya ?_))
 refine rZ G (qR rr (qu underlying73 r1 (qJ qZ))) V [8,7,6,3,2] [0] fun G=>Yg ?_
 replace G:=G.fresh 50 rfl
 replace G:=G.turn 50 rfl (ZaA (T:=42) (sz:=4) (R:=Zp))
 refine Zl (σ:=(Nat)×(Value)×(List Zg)) [2,6,7] [0] (fun s=>[(8,.pv (.int .i64 (s.1:Int))),(3,.pv (.is s.2.1))]) (fun s=>[(50,.ob (.val s.2.1) (ZA 42 4 Zp s.2.2))]) (fun s=>s.1≤l.length∧(s.2.2=(l.take s.1).map HvD.edge)) (fun s=>l.length - s.1) ((0),(.slice none 0 0),([])) G ⟨rfl,rfl,rfl,rfl,rfl,tv⟩ ⟨rfl,rfl,tv⟩ ⟨Yv _,rfl⟩ ?_
 clear G;intro s a w F hC G
 obtain ⟨i,v,out⟩:=s
 try dsimp only at hC
 obtain ⟨F,G⟩:=G.nM [8,7,6,3,2] [50,0]
 try dsimp only at G
 obtain ⟨hi,hq⟩:=hC
 have hol:out.length≤i:=by rw [hq,YM,Yj];omega
 refine Ya (rZ G (qL r2) V [9,8,7,6,3,2] [50,0] fun G=>Ya ?_)
 refine Zc G rfl (fun hc0=>?_) (fun hc0=>?_)
 ·have hil:i<l.length:=by simp at hc0;omega
  refine Ye (Za (Ya (Yg (Ya (Zb G (qy 5 underlying73 r2 (qf (oR true 5 .t) r1 qz (qf (oH [.int .i64 0,.int .i64 0,.int .i64 0,.int .i64 0,.int .i64 0] 101) trivial qz (qS 5 101 r2 r1 qZ)))) V [8,7,6,5,3,2] [101,50,0] (fun _=>rfl) (fun _=>rfl) fun τ a w F G=>?_)))))
  try dsimp only [RS.sub,SF.sub,CF.sub,csub,Anc.sub,List.map,Ze,xL,xM,Nat.reduceAdd,xD,xE,xT,xU,xC,xN,zCF,ldSF,Zp,rHv] at G
  generalize τ 5=v5 at G
  try simp only [Yb] at G
  refine Za (Zb G (qR rr (qg 0 101 r1 r1 (qf (oL true 4 101 .adr) r1 r1 (qf (o_buildSliceE (sz:=4) (zs:=[.int .i64 0,.int .i64 0,.int .i64 0,.int .i64 0]) (r:=[(0,.tmp 14)]) (l:=[_,_,_,_]) underlying31 kr kr kr kr rfl rfl (.agg rfl .t kr kr .nil) rfl) r1 qz (qf (ZW (sz:=4) (bs:=32) 50 (.mk' underlying31 kr kr) (by intro x;rfl) .is (.arr (l':=[(Nn l i).edge]) .t) (by simp only [Yd,Yl,Yy];omega) (by decide)) ⟨rfl,rfl,tv⟩ ⟨rfl,tv⟩ (qO rr qZ)))))) V [8,7,6,3,2] [50,0] (fun _=>rfl) (fun _=>rfl) fun τ a w F G=>?_)
  try dsimp only [RS.sub,SF.sub,CF.sub,csub,Anc.sub,List.map,Ze,xL,xM,Nat.reduceAdd,xD,xE,xT,xU,xC,xN,zCF,ldSF,Zp,rHv] at G
  generalize τ 16=v16 at G
  refine Zj (Za (rZ G (qp r1 (qR rr qZ)) V [8,7,6,3,2] [50,0] fun G=>?_))
  replace G:=G.ent (i:=8) (s':=.pv (.int .i64 ((i+1:Nat):Int))) rfl (.int (Zd ow))
  obtain ⟨F,G⟩:=G.nM [7,6,2,3,8] [0,50]
  exact ⟨((i+1),_,_),F,⟨by omega,(by rw [Zr hil,YQ,← hq];rfl)⟩,G,by omega⟩
 have hil:i=l.length:=by simp at hc0;omega
 refine Yw (Zi (Zi (Zn (Za (Ya (rZ G (qR rr (qO rr qZ)) V [2] [50,0] fun G=>Yh ?_))))))
 obtain ⟨F,G⟩:=G.give 50 2 rfl rfl
 refine Zo hfr G rfl rfl rfl (.sl (by rw [hq,hil,YD]))
theorem Zkd (p:Int):FnP prog 68 [.int .i64 p] (.tup [.int .i64 (ZU p).1,.int .i64 (ZU p).2]):=by
 refine FnP.mk func68 rfl ntmps68 rfl fun B a w F V hfr G=>Ya ?_
 refine rZ G (qI (qI qZ)) V [3,2,0] [0] fun G=>(Ya (Ya ?_))
 refine rZ G (qR rr qZ) V [4,3,2] [0] fun G=>(Yg (Ya ?_))
 refine rZ G (qf (o_eql .t qi) r1 qz (qO rr qZ)) V [5,4,3,2] [0] fun G=>?_
 refine Zc G rfl (fun hc0=>?_) (fun hc0=>?_)
 ·have hp:p=1:=by simpa using hc0
  subst hp
  have hg1:(2:Int)=(ZU 1).1:=rfl
  have hg2:(0:Int)=(ZU 1).2:=rfl
  refine Ya (rZ G (qI (qI qZ)) V [3,2] [0] fun G=>(Yh (Zu (Zk ?_))))
  refine Z2 hfr G rfl (.tmp rfl (.tmp rfl .nil)) (.two (.int hg1) (.int hg2))
 have hp1:¬ p=1:=by simpa using hc0
 refine Ya (rZ G (qf (o_eql .t qi) r1 qz (qO rr qZ)) V [7,4,3,2] [0] fun G=>?_)
 refine Zc G rfl (fun hc1=>?_) (fun hc1=>?_)
 ·have hp:p=4:=by simpa using hc1
  subst hp
  have hg1:(6:Int)=(ZU 4).1:=rfl
  have hg2:(0:Int)=(ZU 4).2:=rfl
  refine Ya (rZ G (qI (qI qZ)) V [3,2] [0] fun G=>(Yh (Zu (Zk ?_))))
  refine Z2 hfr G rfl (.tmp rfl (.tmp rfl .nil)) (.two (.int hg1) (.int hg2))
 have hp2:¬ p=4:=by simpa using hc1
 refine Ya (rZ G (qf (o_eql .t qi) r1 qz (qO rr qZ)) V [9,3,2] [0] fun G=>?_)
 refine Zc G rfl (fun hc2=>?_) (fun hc2=>?_)
 ·have hp:p=5:=by simpa using hc2
  subst hp
  have hg1:(14:Int)=(ZU 5).1:=rfl
  have hg2:(8:Int)=(ZU 5).2:=rfl
  refine Ya (rZ G (qI (qI qZ)) V [3,2] [0] fun G=>(Yh (Zu (Zk ?_))))
  refine Z2 hfr G rfl (.tmp rfl (.tmp rfl .nil)) (.two (.int hg1) (.int hg2))
 have hp3:¬ p=5:=by simpa using hc2
 have hg1:(0:Int)=(ZU p).1:=by unfold ZU;rw [Yc hp1,Yc hp2,Yc hp3]
 have hg2:(0:Int)=(ZU p).2:=by unfold ZU;rw [Yc hp1,Yc hp2,Yc hp3]
 refine Ye (Zj (Za (Ya (rZ G (qI (qI qZ)) V [3,2] [0] fun G=>Yh ?_))))
 refine Z2 hfr G rfl (.tmp rfl (.tmp rfl .nil)) (.two (.int hg1) (.int hg2))
theorem ZjJ {α:Type} {l:List α} : decide (0<(l.length:Int))=true ↔ l≠[]:=by rw [Yq,Ne,← List.length_eq_zero_iff];omega
theorem Zvw {g:Zt} {p:Int} (h:¬ (p=2∨p=3)) {b0 rb:Bool} (hb:b0=true ↔ PhB g p) (hr:rb=true ↔ ZeB (Zai g) (ZU p).1 (ZU p).2):(!decide ((ZU p).1=0) && rb)=b0:=by
 rw [Yan,hb]
 unfold PhB
 rw [Yc h,Yx,hr];simp
theorem ZpB (g:Zt) (hsm:Zbc g) (hAR:(wwC PT1 g).length+(rdC PT1 g).length≤100000) (p:Int) (b0:Bool) (hb:b0=true ↔ PhB g p):FnP prog 31 [.agg (Zs g),.int .i64 p] (.bool b0):=by
 refine FnP.mk func31 rfl ntmps31 rfl fun B a w F V hfr G=>?_
 have hel:=Zgw (A:=wwC PT1 g) (R:=rdC PT1 g)
 have hkl:=Zf9 (Zgf (wwC PT1 g) (rdC PT1 g))
 have hal:(Zgf (wwC PT1 g) (rdC PT1 g)).length≤100000:=by unfold Zgf;rw [Yd,YM];exact hAR
 have hpl:(Zai g).length≤100000:=by unfold Zai;rw [YM];omega
 obtain ⟨rb,hrb⟩:=Zpd (ZeB (Zai g) (ZU p).1 (ZU p).2)
 refine Ya (Zb G (qx 101 r1 qB) V [4,2,1] [101,0] (fun _=>rfl) (fun _=>rfl) fun τ a w F G=>?_)
 try dsimp only [RS.sub,SF.sub,CF.sub,csub,Anc.sub,List.map,zCF,Zs,rTx,ZP,ZS,rInt,rOp] at G
 generalize τ 2=v2 at G
 refine Za (Ya (Ya (rZ G (qR rr qZ) V [7,4,2,1] [101,0] fun G=>(Yg (Ya (Ya ?_))))))
 refine rZ G (qf (o_eql .t qi) r1 qz (qO rr qZ)) V [8,7,4,2,1] [101,0] fun G=>?_
 refine Zc G rfl (fun hc0=>?_) (fun hc0=>?_)
 ·have h23:(p=2∨p=3):=(by have h9:=hc0;simp at h9;omega)
  have hfin:decide (0<((ZaQ g p fun _=>true).length:Int))=b0:=by
    rw [Yan,hb]
    unfold PhB
    rw [Yf h23]
    exact ZjJ
  refine Ye (Za (Zc G rfl (fun hc1=>?_) (fun hc1=>?_)))
  ·have h23:(p=2∨p=3):=(by have h9:=hc1;simp at h9;omega)
   have hfin:decide (0<((ZaQ g p fun _=>true).length:Int))=b0:=by
     rw [Yan,hb]
     unfold PhB
     rw [Yf h23]
     exact ZjJ
   refine Ya (rZ G (qe 2 101 r1 r1 (qR rr (qf (oP (Zvt g p hsm) func67 (Args.two (.pagg .t) .t)) r2 qz (qu underlying105 r1 (qf (ZaU .t qi) r1 qz (qO rr qZ)))))) V [4,2,1] [101,0] fun G=>(Yh (Zu (Zk ?_))))
   refine Zo hfr G rfl rfl rfl (.bool hfin)
  exact Bool.noConfusion (hc0.symm.trans hc1)
 have hn2:¬ p=2:=by simpa using hc0
 refine rZ G (qf (o_eql .t qi) r1 qz (qO rr qZ)) V [8,4,2,1] [101,0] fun G=>?_
 refine Zc G rfl (fun hc2=>?_) (fun hc2=>?_)
 ·have h23:(p=2∨p=3):=(by have h9:=hc2;simp at h9;omega)
  have hfin:decide (0<((ZaQ g p fun _=>true).length:Int))=b0:=by
    rw [Yan,hb]
    unfold PhB
    rw [Yf h23]
    exact ZjJ
  refine Ya (rZ G (qe 2 101 r1 r1 (qR rr (qf (oP (Zvt g p hsm) func67 (Args.two (.pagg .t) .t)) r2 qz (qu underlying105 r1 (qf (ZaU .t qi) r1 qz (qO rr qZ)))))) V [4,2,1] [101,0] fun G=>(Yh (Zu (Zk ?_))))
  refine Zo hfr G rfl rfl rfl (.bool hfin)
 have h23:¬ (p=2∨p=3):=(by have h9:=hc2;simp at h9;omega)
 have hfin:=Zvw h23 hb hrb
 refine Ye (Zj (Za (Ya (rZ G (qR rr (qf (oP (Zkd p) func68 (Args.one .t)) r1 qz (qR rr (qf (Zh .t rfl) r1 qz (qf (Zh .t rfl) r1 qz (qO rr (qO rr qZ))))))) V [6,5,4,2] [101,0] fun G=>Ya ?_))))
 refine rZ G (qR rr (qf (o_neq .t qi) r1 qz (qR rr (qk rfl (fun h=>oL true 2 101 .is) r2 r1 (qk rfl (fun h=>oP (Zoo g hsm (Y5 hAR (by decide))) func38 (Args.one (.pagg (.w h)))) r2 qz (qk rfl (fun h=>oP (ZnL _ (by have h9:=hpl;unfold Zai at h9;rw [YM] at h9;exact Y5 h9 (by decide))) func37 (Args.one (.w h))) r2 qz (qm rfl rfl rfl rfl (qm rfl rfl rfl rfl (qk rfl (fun h=>oP (Zul (Zai g) (ZU p).1 (ZU p).2 hpl (Zpl hsm _) rb hrb) func69 (Args.three (.w h) (.w h) (.w h))) r4 qz (qf (ZD .t .t) r2 qz (qO rr qZ))))))))))) V [4] [0] fun G=>Yh ?_
 refine Zo hfr G rfl rfl rfl (.bool hfin)
structure ZvN (x y:Zt) (id:Int):Prop where
 rx:ZQ x
 ry:ZQ y
 ord:∀ k,getO y.orders k=getO x.orders k
 flt:x.txs=y.txs.filter fun t=>!decide (t.id=id)
 idle:∀ t ∈ y.txs,t.id=id→t.done=false∨t.ops = []
 free:∀ t ∈ x.txs,∀ o ∈ t.ops,o.read=true→o.tx≠id
section
variable {x y:Zt} {id:Int}
end
theorem Zu1 {p:Int→Bool} {n:Nat} {g:Zt} (h:Fit n g):(wwC p g).length≤n*(24*n):=by
 unfold wwC
 split
 ·have key:∀ l:List OrdD,(∀ o ∈ l,o.txs.length≤n)→(wwA p l).length≤n*l.length:=by
   intro l
   induction l with
   | nil=>intro _;simp [wwA]
   | cons o l ih=>
    intro h
    have h1:=ih fun x hx=>h x (by simp [hx])
    have h2:=h o (by simp)
    unfold wwA at h1 ⊢
    rw [Y1,Yd,Yl,Nat.mul_succ]
    split
    ·have h3:(wwO o (o.txs.length - 1)).length=o.txs.length - 1:=by unfold wwO;rw [YM,List.length_range]
     omega
    ·simp only [Yy];omega
  exact Y5 (key _ h.2.2) (Ybj _ h.2.1)
 ·simp
theorem Zjs {n:Nat} {g:Zt} (h:Fit n g) (hn:n≤26):Zbc g∧(wwC PT1 g).length+(rdC PT1 g).length≤100000:=by
 have hs:=h.small ow
 refine ⟨hs,?_⟩
 have h1:=Zu1 (p:=PT1) h
 have h2:=Zvc (p:=PT1) hs
 have h3:=h.1.1
 have h4:n*(24*n)≤26*(24*26):=Nat.mul_le_mul hn (Ybj _ hn)
 omega
theorem Znt {g:Zt} (h:Zcd g):Fit 24 g:=by
 obtain ⟨h1,h2,h3,h4⟩:=h
 refine ⟨⟨by omega,fun t ht=>?_⟩,by omega,fun o ho=>?_⟩
 ·obtain ⟨j,hj,e⟩:=Yaf ht
  have:=h3 j hj
  rw [nth_eq hj,e] at this;omega
 ·obtain ⟨j,hj,e⟩:=Yaf ho
  have:=h4 j hj
  rw [nth_eq hj,e] at this;omega
def ZdI:Zt:=⟨[⟨1,true,[⟨true,1,0,0⟩,⟨false,2,0,0⟩]⟩,⟨2,true,[⟨true,2,0,0⟩,⟨false,1,0,0⟩]⟩],[⟨1,[2]⟩,⟨2,[1]⟩]⟩
theorem ZlJ:Zai ZdI = [⟨1,2,3,1⟩,⟨2,1,3,2⟩]:=by decide +kernel
theorem Zc5:Zbc ZdI∧(wwC PT1 ZdI).length+(rdC PT1 ZdI).length≤100000:=⟨⟨⟨by decide,by decide⟩,by decide,by decide⟩,by decide +kernel⟩
theorem ZuE  : FnP prog 32 [] (.agg (Zs ZdI)):=by
 refine FnP.mk func32 rfl ntmps32 rfl fun B a w F V hfr G=>Ya ?_
 refine Zb G (qf (oH [.slice none 0 0,.slice none 0 0] 101) trivial qz qZ) V [0] [101,0] (fun _=>rfl) (fun _=>rfl) fun τ a w F G=>?_
 try dsimp only [RS.sub,SF.sub,CF.sub,csub,Anc.sub,List.map,zCF,Zs,rTx,ZP,ZS,rInt,rOp] at G
 generalize τ 0=v0 at G
 refine Za (Ya (rZ G (qf (oB [(0,_),(1,_)] [.bool false,.int .i64 0,.int .i64 0,.int .i64 0] [(0,1),(1,1),(2,1),(3,1)] (.one rfl .cb ZeK kr (.one rfl qi one_int kr .nil))) trivial qz (qf (oB [(1,_)] [.bool false,.int .i64 0,.int .i64 0,.int .i64 0] [(0,1),(1,1),(2,1),(3,1)] (.one rfl qi one_int kr .nil)) trivial qz (qf (o_buildSliceE (sz:=4) (zs:=[.bool false,.int .i64 0,.int .i64 0,.int .i64 0]) (r:=[(0,.tmp 1),(1,.tmp 2)]) (l:=[_,_,_,_,_,_,_,_]) underlying28 kr kr kr kr rfl rfl (.agg rfl .t kr kr (.agg rfl .t kr kr .nil)) rfl) r2 qz (qf (oB [(0,_),(1,_),(2,.tmp 3)] [.int .i64 0,.bool false,.slice none 0 0] [(0,1),(1,1),(2,1)] (.one rfl qi one_int kr (.one rfl .cb ZeK kr (.one rfl .t Zeo kr .nil)))) r1 qz (qf (oB [(0,_),(1,_)] [.bool false,.int .i64 0,.int .i64 0,.int .i64 0] [(0,1),(1,1),(2,1),(3,1)] (.one rfl .cb ZeK kr (.one rfl qi one_int kr .nil))) trivial qz (qf (oB [(1,_)] [.bool false,.int .i64 0,.int .i64 0,.int .i64 0] [(0,1),(1,1),(2,1),(3,1)] (.one rfl qi one_int kr .nil)) trivial qz (qf (o_buildSliceE (sz:=4) (zs:=[.bool false,.int .i64 0,.int .i64 0,.int .i64 0]) (r:=[(0,.tmp 5),(1,.tmp 6)]) (l:=[_,_,_,_,_,_,_,_]) underlying28 kr kr kr kr rfl rfl (.agg rfl .t kr kr (.agg rfl .t kr kr .nil)) rfl) r2 qz (qf (oB [(0,_),(1,_),(2,.tmp 7)] [.int .i64 0,.bool false,.slice none 0 0] [(0,1),(1,1),(2,1)] (.one rfl qi one_int kr (.one rfl .cb ZeK kr (.one rfl .t Zeo kr .nil)))) r1 qz (qf (o_buildSliceE (sz:=3) (zs:=[.int .i64 0,.bool false,.slice none 0 0]) (r:=[(0,.tmp 4),(1,.tmp 8)]) (l:=[_,_,_,_,_,_]) underlying22 kr kr kr kr rfl rfl (.agg rfl .t kr kr (.agg rfl .t kr kr .nil)) rfl) r2 qz (qf (o_buildSliceE (sz:=1) (zs:=[.int .i64 0]) (r:=[(0,_)]) (l:=[_]) underlying45 kr kr kr kr rfl rfl (.one rfl qi one_int kr .nil) rfl) trivial qz (qf (oB [(0,_),(1,.tmp 10)] [.int .i64 0,.slice none 0 0] [(0,1),(1,1)] (.one rfl qi one_int kr (.one rfl .t Zeo kr .nil))) r1 qz (qf (o_buildSliceE (sz:=1) (zs:=[.int .i64 0]) (r:=[(0,_)]) (l:=[_]) underlying45 kr kr kr kr rfl rfl (.one rfl qi one_int kr .nil) rfl) trivial qz (qf (oB [(0,_),(1,.tmp 12)] [.int .i64 0,.slice none 0 0] [(0,1),(1,1)] (.one rfl qi one_int kr (.one rfl .t Zeo kr .nil))) r1 qz (qf (o_buildSliceE (sz:=2) (zs:=[.int .i64 0,.slice none 0 0]) (r:=[(0,.tmp 11),(1,.tmp 13)]) (l:=[_,_,_,_]) underlying23 kr kr kr kr rfl rfl (.agg rfl .t kr kr (.agg rfl .t kr kr .nil)) rfl) r2 qz (qf (oB [(0,.tmp 9),(1,.tmp 14)] [.slice none 0 0,.slice none 0 0] [(0,1),(1,1)] (.one rfl .t Zeo kr (.one rfl .t Zeo kr .nil))) r2 qz (qs 2 101 r2 r1 qZ)))))))))))))))) V [0] [101,0] fun G=>Yh ?_))
 refine Z2 hfr G rfl (.cl 101 true 2 rfl rfl .nil) (.one (.aggLe rfl ⟨.arrSl (R:=rTx) (l':=[⟨1,true,[⟨true,1,0,0⟩,⟨false,2,0,0⟩]⟩,⟨2,true,[⟨true,2,0,0⟩,⟨false,1,0,0⟩]⟩]) rfl ⟨.refl,.refl,.arrSl (R:=rOp) (l':=[⟨true,1,0,0⟩,⟨false,2,0,0⟩]) rfl ZeD.refl,.refl,.refl,.arrSl (R:=rOp) (l':=[⟨true,2,0,0⟩,⟨false,1,0,0⟩]) rfl ZeD.refl,tv⟩,.arrSl (R:=ZP) (l':=[⟨1,[2]⟩,⟨2,[1]⟩]) rfl ⟨.refl,.arrSl (R:=rInt) (l':=[2]) rfl ZeD.refl,.refl,.arrSl (R:=rInt) (l':=[1]) rfl ZeD.refl,tv⟩,tv⟩))
end Go.Proofs.YtlkpllemoepamaaGreat
