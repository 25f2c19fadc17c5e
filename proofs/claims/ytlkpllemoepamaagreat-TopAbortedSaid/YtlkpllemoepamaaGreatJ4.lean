/- Laws and walks. No condition beyond what each says. -/
import Derived.Test.YtlkpllemoepamaaGreatJ3
import Derived.Test.YtlkpllemoepamaaGreatLibI
namespace Go.Proofs.YtlkpllemoepamaaGreat
open Go Go.Gm Tryz
set_option linter.unusedVariables false
set_option linter.unusedSimpArgs false
set_option maxHeartbeats 4000000
set_option maxRecDepth 8000
theorem ZtL (mv:Value):FnP prog 134 [.is mv] (.clos 177 [.ref [.is mv]]):=by
 refine FnP.mk func134 Z ntmps134 Z fun B a w F V hfr G=>Ya ?_
 refine Zb G (qf (Zfv 101 .t one_is) r1 qz (qC qZ)) V [2,1] [101,0] (fun _=>rfl) (fun _=>rfl) fun τ a w F G=>?_
 try dsimp only [RS.sub,SF.sub,CF.sub,csub,Anc.sub,List.map,zCF,Zv,rTx,ZH,ZU,Zn,rOp] at G
 generalize τ 1=v1 at G
 obtain ⟨F,G⟩:=G.giveRef 101 1 Z Z rfl
 obtain ⟨F,G⟩:=G.nM [2,1] [0]
 try dsimp only [Go.Gm.unCF] at G
 refine Za (Ya (rZ G (qf (ZaO (Args.one .t)) r1 qz (qO rr qZ)) V [2] [0] fun G=>Yh ?_))
 refine Zs hfr G Z Z Z .refl
theorem Zgr (l:List Zg):(ZbJ ltE l).length≤l.length:=by
 have key:∀ (l acc:List Zg),(l.foldl (Znm ltE) acc).length≤acc.length+l.length:=by
  intro l
  induction l with
  | nil=>intro acc;simp
  | cons e l ih=>
   intro acc
   rw [Yao,Yl]
   have h1:=ih (Znm ltE acc e)
   have h2:(Znm ltE acc e).length≤acc.length+1:=ZjJ ltE e acc false
   omega
 have:=key l []
 unfold ZbJ
 simpa using this
theorem Zvg (mv:Value) (AA:List (Zg×Int)) (RR:List Zg) (hAR:AA.length+RR.length≤1000000):FnG prog 77 1 [.is mv] [ZfA AA RR mv] (.sl rHv (ZfW AA RR)) (fun _=>[ZfA AA RR mv]):=by
 refine FnG.mk func77 Z ntmps77 Z kr fun B F0 a w F V hG G=>?_
 obtain ⟨⟨es,ck⟩,G⟩:=G.open_ex 1 rfl
 obtain ⟨hE,G⟩:=G.open_and 1 rfl
 replace G:=G.turn 1 Z (r':=.ob (.val mv) (ZbN (fun n:Int=>PV.int .i64 n) (fun k=>∀ x ∈ Zar k,inR .i64 x) (kvS Zar) es ck)) (fun _ _ _ _ h=>h)
 try dsimp only at hE
 obtain ⟨F,G⟩:=G.nM [0] [1,0]
 refine Ya (rZ G (qC qZ) V [2,0] [1,0] fun G=>Ya ?_)
 refine rZ G (qC qZ) V [3,2,0] [1,0] fun G=>(Ya (Ya ?_))
 replace G:=G.fresh 60 rfl
 replace G:=G.turn 1 Z (r':=RS.hp (ZbN (fun n:Int=>PV.int .i64 n) (fun k=>∀ x ∈ Zar k,inR .i64 x) (kvS Zar) es ck mv)) (fun _ _ _ _ h=>h)
 obtain ⟨F,G⟩:=G.nM [3,2,0] [60,1,0]
 refine Zao 3 G kr (cG Z (oM .t) r1 trivial (cG Z (oP (ZtL mv) func134 (Args.one .t)) r1 trivial (cG Z (Zpp 1 60 (Zko (fun n:Int=>PV.int .i64 n) mv es ck (by have:=hE.len;omega)) func133 Z kr Z (Args.one .t) pvOne1) r1 r2 ChainN.nil))) kr (by rw [V];kernel_rfl) fun a w F G=>?_
 replace G:=G.sub
 obtain ⟨F,G⟩:=G.nM [8,3,2,0] [60,1,0]
 try dsimp only [RS.sub,SF.sub,CF.sub,csub,Anc.sub,List.map,Zv,rTx,ZH,ZU,Zn,rOp,Zq,rHv] at G
 generalize Act.tau a 8=v8 at G
 replace G:=G.turn 60 Z (r':=RS.hp (HP.ex fun l:List Zg=>HP.and (l.Perm (es.map fun z:GE Zg Int=>z.key)) (Zx 42 4 Zq l v8))) (fun _ _ _ _ h=>h)
 obtain ⟨ks,G⟩:=G.open_ex 60 rfl
 obtain ⟨hks,G⟩:=G.open_and 60 rfl
 replace G:=G.turn 60 Z (r':=.ob (.val v8) (Zx 42 4 Zq ks)) (fun _ _ _ _ h=>h)
 have hkl:ks.length≤1000000:=by have h1:=hks.length_eq;have h2:=hE.len;rw [YH] at h1;omega
 replace G:=G.turn 1 Z (r':=.ob (.val mv) (ZbN (fun n:Int=>PV.int .i64 n) (fun k=>∀ x ∈ Zar k,inR .i64 x) (kvS Zar) es ck)) (fun _ _ _ _ h=>h)
 obtain ⟨F,G⟩:=G.give 60 8 Z rfl
 obtain ⟨F,G⟩:=G.nM [8,3,2,0] [1,0]
 refine ZaE G kr (cG Z (oP (ZrF ks hkl) func132 (Args.one .t)) r1 trivial (cG Z (Zdj Ycg .t) r1 trivial (cG Z (oM (.ci kr)) trivial trivial ChainN.nil))) kr (by rw [V];kernel_rfl) fun a w F G=>?_
 obtain ⟨F,G⟩:=G.nM [11,10,9,3,2,0] [1,0]
 try dsimp only [Zv,rTx,ZH,ZU,Zn,rOp,Zq,rHv] at G
 rw [Zf0 hE hks] at G
 have hkn:(ZbJ ltE (ZgM AA RR)).length≤1000000:=by rw [← Zf0 hE hks];exact Y4 (Zgr ks) hkl
 refine Za (Yg ?_)
 replace G:=G.fresh 50 rfl
 replace G:=G.turn 50 Z (ZaC (T:=125) (sz:=5) (R:=rHv))
 refine Zk (σ:=(Nat)×(Value)×(List HvD)) [0,2,9,10] [0,1] (fun s=>[(11,.pv (.int .i64 (s.1:Int))),(3,.pv (.is s.2.1))]) (fun s=>[(50,.ob (.val s.2.1) (Zx 125 5 rHv s.2.2))]) (fun s=>s.1≤(ZbJ ltE (ZgM AA RR)).length∧(s.2.2=((ZbJ ltE (ZgM AA RR)).take s.1).map fun e=>(⟨e,cntA AA RR e⟩:HvD))) (fun s=>(ZbJ ltE (ZgM AA RR)).length - s.1) ((0),(.slice none 0 0),([])) G ⟨rfl,rfl,rfl,rfl,rfl,rfl,tv⟩ ⟨rfl,rfl,rfl,tv⟩ ⟨Yw _,rfl⟩ ?_
 clear G;intro s a w F hC G
 obtain ⟨i,v,out⟩:=s
 try dsimp only at hC
 obtain ⟨F,G⟩:=G.nM [11,10,9,3,2,0] [50,1,0]
 try dsimp only at G
 obtain ⟨hi,hq⟩:=hC
 have hol:out.length≤i:=by rw [hq,YH,Yi];omega
 refine Ya (rZ G (qL r2) V [12,11,10,9,3,2,0] [50,1,0] fun G=>Ya ?_)
 refine Zc G Z (fun hc0=>?_) (fun hc0=>?_)
 ·have hil:i<(ZbJ ltE (ZgM AA RR)).length:=by simp at hc0;omega
  refine Ye (Za (Ya (Yg (Ya (Zb G (qy 4 Ycg r2 (qf (oR true 4 .t) r1 qz (qf (oH [.int .i64 0,.int .i64 0,.int .i64 0,.int .i64 0] 101) trivial qz (qS 4 101 r2 r1 qZ)))) V [11,10,9,5,3,2,0] [101,50,1,0] (fun _=>rfl) (fun _=>rfl) fun τ a w F G=>?_)))))
  try dsimp only [RS.sub,SF.sub,CF.sub,csub,Anc.sub,List.map,Zf,xL,xM,Nat.reduceAdd,xD,xE,xT,xU,xC,xN,zCF,ldSF,Zv,rTx,ZH,ZU,Zn,rOp,Zq,rHv] at G
  generalize τ 5=v5 at G
  try simp only [Yb] at G
  refine Za (ZaM G (qR rr (qe 4 101 r1 r1 (qR rr (qe 4 101 r1 r1 (qf (Zat (ek:=(fun n:Int=>PV.int .i64 n)) (z0:=(0)) 1 Yct Zc7 kr (fun _ _=>⟨rfl,ZcV⟩) .is (ZM.agg (enc:=Zar) (k:=Nn (ZbJ ltE (ZgM AA RR)) i) (.pagg .t) Z)) r2 r1 (qf (oB [(0,.tmp 16),(1,.tmp 19)] [.int .i64 0,.int .i64 0,.int .i64 0,.int .i64 0,.int .i64 0] [(0,4),(4,1)] (.agg Z .t kr kr (.one Z .t one_int kr .nil))) r2 qz (qf (o_buildSliceE (sz:=5) (zs:=[.int .i64 0,.int .i64 0,.int .i64 0,.int .i64 0,.int .i64 0]) (r:=[(0,.tmp 20)]) (l:=[_,_,_,_,_]) underlying73 kr kr kr kr Z Z (.agg Z .t kr kr .nil) Z) r1 qz (qf (ZV (sz:=5) (bs:=40) 50 (.mk' underlying73 kr kr) (by intro x;rfl) .is (.arr (l':=[(⟨Nn (ZbJ ltE (ZgM AA RR)) i,(gGet (Nn (ZbJ ltE (ZgM AA RR)) i) es).getD 0⟩:HvD)]) .t) (by simp only [Yd,Yl,Yy];omega) (by decide)) ⟨rfl,rfl,tv⟩ ⟨rfl,tv⟩ (qO rr qZ))))))))) V [11,10,9,3,2,0] [101,50,1,0] (fun _=>rfl) (fun _=>rfl) fun τ a w F G=>?_)
  try dsimp only [RS.sub,SF.sub,CF.sub,csub,Anc.sub,List.map,Zf,xL,xM,Nat.reduceAdd,xD,xE,xT,xU,xC,xN,zCF,ldSF,Zv,rTx,ZH,ZU,Zn,rOp,Zq,rHv] at G
  generalize τ 22=v22 at G
  refine Zi (Za (rZ G (qp r1 (qR rr qZ)) V [11,10,9,3,2,0] [101,50,1,0] fun G=>?_))
  replace G:=G.ent (i:=11) (s':=.pv (.int .i64 ((i+1:Nat):Int))) Z (.int (Zd ow))
  obtain ⟨F,G⟩:=G.nM [10,9,2,0,3,11] [1,0,50]
  exact ⟨((i+1),_,_),F,⟨by omega,(by rw [Zp hil,YR,← hq,List.map_singleton];unfold cntA;rw [hE.val])⟩,G,by omega⟩
 have hil:i=(ZbJ ltE (ZgM AA RR)).length:=by simp at hc0;omega
 refine Yx (Zj (Zj (Zo (Za (Ya (rZ G (qR rr (qO rr qZ)) V [2] [50,1,0] fun G=>Yh ?_))))))
 obtain ⟨F,G⟩:=G.give 50 2 Z rfl
 have G:=G.turn 1 Z (r':=RS.hp (ZfA AA RR mv)) (fun _ _ _ _ h=>⟨(es,ck),hE,h⟩)
 refine Zad hG G Z (.tmp Z .nil) (.one (.sl (by rw [hq,hil,YA];rfl))) rfl
theorem ZqH (x:Int):FnP prog 79 [.int .i64 x] (.bool ((fun _=>true) x)):=by
 refine FnP.mk func79 Z ntmps79 Z fun B a w F V hfr G=>Ya ?_
 refine rZ G qB V [2] [0] fun G=>Ya ?_
 refine rZ G qB V [2] [0] fun G=>Yh ?_
 refine Zs hfr G Z Z Z (.bool Z)
theorem Zol (g:Zr) (hsm:Za9 g) (hAR:(wwC (fun _=>true) g).length+(rdC (fun _=>true) g).length≤1000000):FnP prog 38 [.agg (Zv g)] (.sl rHv (ZfW (wwC (fun _=>true) g) (rdC (fun _=>true) g))):=by
 refine FnP.mk func38 Z ntmps38 Z fun B a w F V hfr G=>Ya ?_
 refine Zb G (qx 101 r1 (qC qZ)) V [2,1] [101,0] (fun _=>rfl) (fun _=>rfl) fun τ a w F G=>?_
 try dsimp only [RS.sub,SF.sub,CF.sub,csub,Anc.sub,List.map,zCF,Zv,rTx,ZH,ZU,Zn,rOp,rHv] at G
 generalize τ 1=v1 at G
 refine Za (Ya ?_)
 replace G:=G.fresh 102 rfl
 refine Zao 2 G kr (cG Z (oL true 2 101 .is) r1 r1 (cG Z (Zap 102 (Zn2 g hsm (fun _=>true) 79 f79 [] func79 Z kr (fun x=>ZqH x)) func78 Z kr (Args.two (.pagg .t) (.conv .f (Ent.fnClos))) pvOne1) r1 r1 ChainN.nil)) kr (by rw [V];kernel_rfl) fun a w F G=>?_
 replace G:=G.sub
 obtain ⟨F,G⟩:=G.nM [4,2] [102,101,0]
 try dsimp only [RS.sub,SF.sub,CF.sub,csub,Anc.sub,List.map,xD,xE,xT,xU,ldSF,Zv,rTx,ZH,ZU,Zn,rOp,rHv] at G
 generalize Act.tau a 4=v4 at G
 replace G:=G.turn 102 Z (r':=RS.hp (ZfA (wwC (fun _=>true) g) (rdC (fun _=>true) g) v4)) (fun _ _ _ _ h=>h)
 obtain ⟨F,G⟩:=G.nM [4,2] [102,101,0]
 refine ZaE G kr (cG Z (ZK 102 (Zvg _ (wwC (fun _=>true) g) (rdC (fun _=>true) g) hAR) func77 Z kr (Args.one .t)) r1 r1 (cG Z (oN .t) r1 trivial ChainN.nil)) kr (by rw [V];kernel_rfl) fun a w F G=>?_
 obtain ⟨F,G⟩:=G.nM [2] [102,101,0]
 try dsimp only [Zv,rTx,ZH,ZU,Zn,rOp,rHv] at G
 refine Za (Yh (Zs hfr G Z Z Z .refl))
theorem Zuy (t u:TxD) (o:OpD) (phen:Int) (hu:u.ops.length≤1000):FnP prog 152 [.agg (rTx t),.agg (rTx u),.agg (rOp o),.int .i64 phen] (.bool (Zg3 t u o phen)):=by
 refine FnP.mk func152 Z ntmps152 Z fun B a w F V hfr G=>Ya ?_
 refine Zb G (qx 101 r1 (qx 102 r1 (qx 103 r1 qB))) V [8,6,5,4,3] [103,102,101,0] (fun _=>rfl) (fun _=>rfl) fun τ a w F G=>?_
 try dsimp only [RS.sub,SF.sub,CF.sub,csub,Anc.sub,List.map,zCF,Zv,rTx,ZH,ZU,Zn,rOp,ZiC] at G
 generalize τ 4=v4,τ 5=v5,τ 6=v6 at G
 refine Za (Ya (Ya (rZ G (qR rr qZ) V [9,8,6,5,4] [103,102,101,0] fun G=>(Yg (Ya ?_)))))
 refine rZ G (qf (o_eql .t qi) r1 qz (qO rr qZ)) V [10,9,8,6,5,4] [103,102,101,0] fun G=>?_
 refine Zc G Z (fun hc0=>?_) (fun hc0=>?_)
 ·have h2:phen=2:=by simpa using hc0
  refine Ya (rZ G (qg 1 101 r1 r1 (qa 101 r1 r1 (qR rr (qv 1 102 Z r2 r1 (qw 102 Z r2 r1 (qk Z (fun h=>o_not (.w h)) r2 qz (qf (ZE .t .t) r2 qz (qO rr qZ)))))))) V [8] [103,102,101,0] fun G=>(Yh (Zz (Zl ?_))))
  refine Zs hfr G Z Z Z (.bool (by unfold Zg3 wcnt;first | (rw [Yf h2];done) | (rw [Yc h2,h3,Ya4];done) | (rw [Yc h2,h3];simp)))
 have h2:¬ phen=2:=by simpa using hc0
 refine Ya (rZ G (qf (o_eql .t qi) r1 qz (qO rr qZ)) V [19,8,6,5,4] [103,102,101,0] fun G=>?_)
 refine Zc G Z (fun hc1=>?_) (fun hc1=>?_)
 ·have h3:decide (phen=3)=true:=hc1
  refine Ya (Zw G (qg 1 101 r1 r1 (qa 101 r1 r1 (qR rr (qv 3 103 Z r2 r1 (qw 103 Z r2 r1 (qk Z (fun h=>oL true 3 102 .is) r2 r1 (qv 1 103 Z r2 r1 (qw 103 Z r2 r1 (qk Z (fun h=>oP (Zdb u o.key ow) func29 (Args.two (.pagg (.w h)) (.w h))) r3 qz (qk Z (fun h=>ZaA (.w h) (.w h)) r3 qz (qf (ZE .t .t) r2 qz (qO rr qZ)))))))))))) V [8] [103,102,101,0] Z Z fun a w F G=>?_)
  try dsimp only [List.map,xD,xE,xT,xU,ldSF,Zv,rTx,ZH,ZU,Zn,rOp,ZiC] at G
  refine Za (Yh (Zz (Zl (Zs hfr G Z Z Z (.bool (by unfold Zg3 wcnt;first | (rw [Yf h2];done) | (rw [Yc h2,h3,Ya4];done) | (rw [Yc h2,h3];simp)))))))
 have h3:decide (phen=3)=false:=hc1
 refine Ye (Zi (Za (Ya (rZ G qB V [8] [103,102,101,0] fun G=>Yh ?_))))
 refine Zs hfr G Z Z Z (.bool (by unfold Zg3 wcnt;first | (rw [Yf h2];done) | (rw [Yc h2,h3,Ya4];done) | (rw [Yc h2,h3];simp)))
theorem Zur {g:Zr} (hs:ZaX g.txs) (o:OpD):(uOf g o).ops.length≤1000:=by
 unfold uOf
 cases hf:Z3 g.txs o.tx with
 | none=>simp [zeroT]
 | some t=>exact hs.2 _ (findT_mem hf).1
theorem Zse (g : Zr) (phen : Int) (hsm : Za9 g) (p : Int → Bool) (f : FuncId) (fn : Func) (cps : List PV) (hf : prog.funcs[f]? = some fn) (hb : fn.body.isSome = true) (hnn : (fn.name == "runtime.NumGoroutine") = false) (hw : ∀ x, FnP prog f (.int .i64 x :: cps) (.bool (p x))) : FnP prog 111 [.agg (Zv g), .int .i64 phen, .clos f cps] (.sl ZiC (ZaP g phen p)) := by
 refine FnP.mk func111 Z ntmps111 Z fun B a w F V hfr G=>?_
 have hs:=hsm.1
 have hsl:=hs.1
 refine Ya (Zb G (qx 101 r1 (qC qZ)) V [6,3,2,1] [101,0] (fun _=>rfl) (fun _=>rfl) fun τ a w F G=>?_)
 try dsimp only [RS.sub,SF.sub,CF.sub,csub,Anc.sub,List.map,zCF,Zv,rTx,ZH,ZU,Zn,rOp,ZiC] at G
 generalize τ 3=v3 at G
 refine Za (Ya (rZ G (qC qZ) V [7,6,3,2,1] [101,0] fun G=>(Ya (Ya ?_))))
 refine rZ G (qe 2 101 r1 r1 (qf (oP (Zfe g hsm) func19 (Args.one (.pagg .t))) r1 qz (qf (o_not .t) r1 qz qZ))) V [17,7,6,3,2,1] [101,0] fun G=>?_
 refine Zc G Z (fun hc0=>?_) (fun hc0=>?_)
 ·skip
  have hg:[] = ZaP g phen p:=by unfold ZaP;rw [Yc (by simpa using hc0)]
  refine Ya (rZ G (qR rr (qO rr qZ)) V [7,6,3,2,1] [101,0] fun G=>(Yh (Zl ?_)))
  refine Zs hfr G Z Z Z (.trans .nilSl (.sl (by first | exact hg | (rw [hq,hil,YA];exact hgg))))
 have hr:ZS g:=by simpa using hc0
 have hgg:badsG g phen p g.txs=ZaP g phen p:=by unfold ZaP;rw [Yf hr]
 refine Ye (Za (Ya (Zb G (qf (ZaZ (ek:=(fun t:TxD=>PV.agg (rTx t))) (ok:=(fun _=>True)) (kv:=(fun n:Int=>Value.int .i64 n)) 102) trivial qz (qO rr qZ)) V [8,7,6,3,2,1] [102,101,0] (fun _=>rfl) (fun _=>rfl) fun τ a w F G=>?_)))
 try dsimp only [RS.sub,SF.sub,CF.sub,csub,Anc.sub,List.map,Zf,xL,xM,Nat.reduceAdd,xD,xE,xT,xU,xC,xN,zCF,Zv,rTx,ZH,ZU,Zn,rOp,ZiC] at G
 generalize τ 19=v19 at G
 refine Za (Ya (Ya (rZ G (qg 0 101 r1 r1 (qa 101 r1 r1 (qu Yci r1 (qJ qZ)))) V [23,22,21,8,7,6,3,2,1] [102,101,0] fun G=>Yg ?_)))
 refine Zk (σ:=(Nat)×(List (GE Int TxD))×(Nat)) [1,2,3,6,7,8,21,22] [0,101] (fun s=>[(23,.pv (.int .i64 (s.1:Int)))]) (fun s=>[(102,.ob (.val v19) (ZbN (fun t:TxD=>PV.agg (rTx t)) (fun _=>True) (fun n:Int=>Value.int .i64 n) s.2.1 s.2.2))]) (fun s=>s.1≤g.txs.length∧(ZuO s.2.1 (g.txs.take s.1))) (fun s=>g.txs.length - s.1) ((0),([]),(0)) G ⟨rfl,rfl,rfl,rfl,rfl,rfl,rfl,rfl,rfl,tv⟩ ⟨rfl,rfl,rfl,tv⟩ ⟨Yw _,(fun id=>rfl)⟩ ?_
 clear G;intro s a w F hC G
 obtain ⟨i,es,ck⟩:=s
 try dsimp only at hC
 obtain ⟨F,G⟩:=G.nM [23,22,21,8,7,6,3,2,1] [102,101,0]
 try dsimp only at G
 obtain ⟨hi,hq⟩:=hC
 refine Ya (rZ G (qL r2) V [24,23,22,21,8,7,6,3,2,1] [102,101,0] fun G=>Ya ?_)
 refine Zc G Z (fun hc1=>?_) (fun hc1=>?_)
 ·skip
  have hil:i<g.txs.length:=by simp at hc1;omega
  refine Ye (Za (Ya (Yg (Ya (Zb G (qy 3 Yci r2 (qf (oR true 3 .t) r1 qz (qf (oH [.int .i64 0,.bool false,.slice none 0 0] 103) trivial qz (qS 3 103 r2 r1 qZ)))) V [23,22,21,10,8,7,6,3,2,1] [103,102,101,0] (fun _=>rfl) (fun _=>rfl) fun τ a w F G=>?_)))))
  try dsimp only [RS.sub,SF.sub,CF.sub,csub,Anc.sub,List.map,Zf,xL,xM,Nat.reduceAdd,xD,xE,xT,xU,xC,xN,zCF,ldSF,Zv,rTx,ZH,ZU,Zn,rOp,ZiC] at G
  generalize τ 10=v10 at G
  try simp only [Yb] at G
  refine Za (Ze G (qR rr (qg 0 103 r1 r1 (qa 103 r1 r1 (qe 3 103 r1 r1 (qf (o_mapUpdateG (ek:=(fun t:TxD=>PV.agg (rTx t))) (v:=(Nn g.txs i)) 102 underlying210 (Zcx Ycn) .is (ZM.int .t Z) (.pagg .t)) r3 r1 qZ))))) V [23,22,21,8,7,6,3,2,1] [103,102,101,0] Z Z fun a w F G=>Zi (Za ?_))
  refine rZ G (qp r1 (qR rr qZ)) V [23,22,21,8,7,6,3,2,1] [103,102,101,0] fun G=>?_
  replace G:=G.ent (i:=23) (s':=.pv (.int .i64 ((i+1:Nat):Int))) Z (.int (Zd ow))
  obtain ⟨F,G⟩:=G.nM [22,21,8,7,6,3,2,1,23] [101,0,102]
  exact ⟨((i+1),((gPut (Nn g.txs i).id (Nn g.txs i) (es,ck)).1),((gPut (Nn g.txs i).id (Nn g.txs i) (es,ck)).2)),F,⟨by omega,ZuX hr.2.1 hq hil⟩,G,by omega⟩
 have hil:i=g.txs.length:=by simp at hc1;omega
 have hby:∀ id,gGet id es=Z3 g.txs id:=by rw [hil,YA] at hq;exact hq
 refine Yx (Zj (Zj (Zo (Za (Ya (Ya (rZ G (qg 0 101 r1 r1 (qa 101 r1 r1 (qu Yci r1 (qJ qZ)))) V [35,34,33,8,7,6,2,1] [102,101,0] fun G=>Yg ?_)))))))
 replace G:=G.fresh 50 rfl
 replace G:=G.turn 50 Z (ZaC (T:=35) (sz:=5) (R:=ZiC))
 refine Zk (σ:=(Nat)×(Value)×(List Zqs)) [1,2,6,8,33,34] [0,101,102] (fun s=>[(35,.pv (.int .i64 (s.1:Int))),(7,.pv (.is s.2.1))]) (fun s=>[(50,.ob (.val s.2.1) (Zx 35 5 ZiC s.2.2))]) (fun s=>s.1≤g.txs.length∧(s.2.2=badsG g phen p (g.txs.take s.1))) (fun s=>g.txs.length - s.1) ((0),(.slice none 0 0),([])) G ⟨rfl,rfl,rfl,rfl,rfl,rfl,rfl,rfl,tv⟩ ⟨rfl,rfl,rfl,rfl,tv⟩ ⟨Yw _,rfl⟩ ?_
 clear G;intro s a w F hC G
 obtain ⟨i,x0,out⟩:=s
 try dsimp only at hC
 obtain ⟨F,G⟩:=G.nM [35,34,33,8,7,6,2,1] [102,101,50,0]
 try dsimp only at G
 obtain ⟨hi,hq⟩:=hC
 have hxl:=fun hil:i<g.txs.length=>hs.at hil
 have hol:out.length≤1000*i:=by rw [hq];exact ZlN hs i
 refine Ya (rZ G (qL r2) V [36,35,34,33,8,7,6,2,1] [102,101,50,0] fun G=>Ya ?_)
 refine Zc G Z (fun hc2=>?_) (fun hc2=>?_)
 ·skip
  have hil:i<g.txs.length:=by simp at hc2;omega
  have hio:=hil
  have htl:=hxl hil
  have hsl:=hs.1
  refine Ye (Za (Ya (Yg (Ya (Zb G (qy 3 Yci r2 (qf (oR true 3 .t) r1 qz (qf (oH [.int .i64 0,.bool false,.slice none 0 0] 104) trivial qz (qS 3 104 r2 r1 qZ)))) V [35,34,33,12,8,7,6,2,1] [104,102,101,50,0] (fun _=>rfl) (fun _=>rfl) fun τ a w F G=>?_)))))
  try dsimp only [RS.sub,SF.sub,CF.sub,csub,Anc.sub,List.map,Zf,xL,xM,Nat.reduceAdd,xD,xE,xT,xU,xC,xN,zCF,ldSF,Zv,rTx,ZH,ZU,Zn,rOp,ZiC] at G
  generalize τ 12=v12 at G
  try simp only [Yb] at G
  refine Za (Ya (rZ G (qg 2 104 r1 r1 (qa 104 r1 r1 (qu Yck r1 (qJ qZ)))) V [42,41,40,35,34,33,12,8,7,6,2,1] [104,102,101,50,0] fun G=>Yg ?_))
  refine Zk (σ:=(Nat)×(Value)×(List Zqs)) [1,2,6,8,12,33,34,35,40,41] [0,101,102,104] (fun s=>[(42,.pv (.int .i64 (s.1:Int))),(7,.pv (.is s.2.1))]) (fun s=>[(50,.ob (.val s.2.1) (Zx 35 5 ZiC s.2.2))]) (fun s=>s.1≤(Nn g.txs i).ops.length∧(s.2.2=badsG g phen p (g.txs.take i)++Zde g phen p (Nn g.txs i) ((Nn g.txs i).ops.take s.1))) (fun s=>(Nn g.txs i).ops.length - s.1) ((0),(x0),(out)) G ⟨rfl,rfl,rfl,rfl,rfl,rfl,rfl,rfl,rfl,rfl,rfl,rfl,tv⟩ ⟨rfl,rfl,rfl,rfl,rfl,tv⟩ ⟨Yw _,(by rw [hq];simp [Zde])⟩ ?_
  clear G;intro s a w F hC G
  obtain ⟨j,x1,outj⟩:=s
  try dsimp only at hC
  obtain ⟨F,G⟩:=G.nM [42,41,40,35,34,33,12,8,7,6,2,1] [104,102,101,50,0]
  try dsimp only at G
  obtain ⟨hi,hq⟩:=hC
  have hbl:=Zhx g phen p (Nn g.txs i) ((Nn g.txs i).ops.take j)
  have hbg:=ZlN (g:=g) (phen:=phen) (p:=p) hs i
  have hoj:outj.length≤1000*i+j:=by rw [hq,Yd];rw [Yi] at hbl;omega
  refine Ya (rZ G (qL r2) V [43,42,41,40,35,34,33,12,8,7,6,2,1] [104,102,101,50,0] fun G=>Ya ?_)
  refine Zc G Z (fun hc3=>?_) (fun hc3=>?_)
  ·skip
   have hil:j<(Nn g.txs i).ops.length:=by simp at hc3;omega
   refine Ye (Za (Ya (Yg (Ya (Zb G (qR rr (qy 4 Yck r2 (qf (oR true 4 .t) r1 qz (qf (oH [.bool false,.int .i64 0,.int .i64 0,.int .i64 0] 105) trivial qz (qO rr (qS 4 105 r2 r1 qZ)))))) V [42,41,40,35,34,33,14,13,12,8,7,6,2,1] [105,104,102,101,50,0] (fun _=>rfl) (fun _=>rfl) fun τ a w F G=>?_)))))
   try dsimp only [RS.sub,SF.sub,CF.sub,csub,Anc.sub,List.map,Zf,xL,xM,Nat.reduceAdd,xD,xE,xT,xU,xC,xN,zCF,ldSF,Zv,rTx,ZH,ZU,Zn,rOp,ZiC] at G
   generalize τ 14=v14 at G
   try simp only [Yb] at G
   refine Za (Ya (Ya (rZ G (qg 0 105 r1 r1 (qa 105 r1 r1 (qf (o_not .t) r1 qz (qR rr (qv 2 105 Z r2 r1 (qw 105 Z r2 r1 (qk Z (fun h=>o_eql (.w h) qi) r2 qz (qf (Zak .t .t) r2 qz (qR rr (qv 2 105 Z r2 r1 (qw 105 Z r2 r1 (qv 0 104 Z r2 r1 (qw 104 Z r2 r1 (qk Z (fun h=>o_eql (.w h) (.w h)) r3 qz (qf (Zak .t .t) r2 qz (qR rr (qm Z Z Z Z (qv 1 105 Z r2 r1 (qw 105 Z r2 r1 (qk Z (fun h=>ZN (avs:=[.int .i64 (Nn (Nn g.txs i).ops j).key]) (.w h) (hw (Nn (Nn g.txs i).ops j).key) hf hb hnn (Args.one (.w h))) r3 qz (qk Z (fun h=>o_not (.w h)) r2 qz (qf (Zak .t .t) r2 qz qZ)))))))))))))))))))))) V [68,42,41,40,35,34,33,14,13,12,8,7,6,2,1] [105,104,102,101,50,0] fun G=>?_)))
   refine Zc G Z (fun hc4=>?_) (fun hc4=>?_)
   ·skip
    have hBq:¬ (p (Nn (Nn g.txs i).ops j).key && Zn1 g phen (Nn g.txs i) (Nn (Nn g.txs i).ops j))=true:=by
      intro h9
      rw [Yt] at h9
      have h8:=h9.2
      unfold Zn1 at h8
      rw [Yt] at h8
      have h7:=h8.1
      unfold Zd3 at h7
      simp at h7
      have h6:=hc4
      simp [h9.1,h7] at h6
    refine Yx (Zj (Zo (Za (rZ G (qp r1 (qR rr qZ)) V [42,41,40,35,34,33,12,8,7,6,2,1] [105,104,102,101,50,0] fun G=>?_))))
    replace G:=G.ent (i:=42) (s':=.pv (.int .i64 ((j+1:Nat):Int))) Z (.int (Zd ow))
    obtain ⟨F,G⟩:=G.nM [41,40,35,34,33,12,8,6,2,1,7,42] [104,102,101,0,50]
    exact ⟨((j+1),_,_),F,⟨by omega,(by rw [ZdK hil,← YO,← hq];first | (rw [Yf hBq];done) | (rw [Yc hBq,YS]))⟩,G,by omega⟩
   have hnd:Zd3 (Nn g.txs i).id (Nn (Nn g.txs i).ops j)=true∧p (Nn (Nn g.txs i).ops j).key=true:=by
     have h6:=hc4
     unfold Zd3
     simp at h6
     refine ⟨by simp [h6],by simp [h6]⟩
   refine Ye (Za (Ya (Zao 5 G kr (cG Z (oL true 3 104 .is) r1 r1 (cG Z (oM .t) r1 trivial (cG Z (oF 2 105 .is) r1 r1 (cG Z (oL false 1 105 .adr) r1 r1 (cG Z (Zat (ek:=(fun t:TxD=>PV.agg (rTx t))) (z0:=zeroT) 102 underlying210 (Zcx Ycn) kr (fun _ _=>⟨[_,_,_],rfl,⟨rfl,rfl,ZcV⟩,⟨rfl,rfl⟩,⟨rfl,Zjj⟩,tv⟩) .is (ZM.int .t Z)) r2 r1 ChainN.nil))))) kr (by rw [V];kernel_rfl) fun a w F G=>?_)))
   obtain ⟨F,G⟩:=G.nM [73,69,42,41,40,35,34,33,14,13,12,8,7,6,2,1] [105,104,102,101,50,0]
   try dsimp only [List.map,xD,xE,xT,xU,ldSF,Zv,rTx,ZH,ZU,Zn,rOp,ZiC] at G
   rw [show (gGet (Nn (Nn g.txs i).ops j).tx es).getD zeroT=(uOf g (Nn (Nn g.txs i).ops j)) by rw [hby];rfl] at G
   refine ZaE G kr (cG Z (oL true 4 105 .is) r1 r1 (cG Z (oM .t) r1 trivial (cG Z (oP (Zuy (Nn g.txs i) (uOf g (Nn (Nn g.txs i).ops j)) (Nn (Nn g.txs i).ops j) phen (by have:=Zur hs (Nn (Nn g.txs i).ops j);omega)) func152 (Args.four (.pagg .t) .t (.pagg .t) .t)) r4 trivial ChainN.nil))) kr (by rw [V];kernel_rfl) fun a w F G=>?_
   obtain ⟨F,G⟩:=G.nM [76,42,41,40,35,34,33,14,13,12,8,7,6,2,1] [105,104,102,101,50,0]
   try dsimp only [List.map,xD,xE,xT,xU,ldSF,Zv,rTx,ZH,ZU,Zn,rOp,ZiC] at G
   refine Za (Zc G Z (fun hc5=>?_) (fun hc5=>?_))
   ·skip
    have hBq:(p (Nn (Nn g.txs i).ops j).key && Zn1 g phen (Nn g.txs i) (Nn (Nn g.txs i).ops j))=true:=by unfold Zn1;rw [hnd.1,hnd.2,hc5];rfl
    refine ZaM G (qR rr (qg 0 104 r1 r1 (qa 104 r1 r1 (qR rr (qe 4 105 r1 r1 (qf (oP (ZlB (Nn (Nn g.txs i).ops j)) func120 (Args.one (.pagg .t))) r1 qz (qf (oB [(0,.tmp 79),(1,.tmp 80),(2,.tmp 82)] [.int .i64 0,.int .i64 0,.int .i64 0,.int .i64 0,.int .i64 0] [(0,1),(1,1),(2,3)] (.one Z .t one_int kr (.one Z .t one_int kr (.agg Z (.conv .t .agg) kr kr .nil)))) r3 qz (qf (o_buildSliceE (sz:=5) (zs:=[.int .i64 0,.int .i64 0,.int .i64 0,.int .i64 0,.int .i64 0]) (r:=[(0,.tmp 83)]) (l:=[_,_,_,_,_]) Ycz kr kr kr kr Z Z (.agg Z .t kr kr .nil) Z) r1 qz (qf (ZV (sz:=5) (bs:=40) 50 (.mk' Ycz kr kr) (by intro x;rfl) .is (.arr (l':=[(⟨(Nn g.txs i).id,j,ofO (Nn (Nn g.txs i).ops j)⟩:Zqs)]) .t) (by simp only [Yd,Yl,Yy,Yi,YE];omega) (by decide)) ⟨rfl,rfl,tv⟩ ⟨rfl,tv⟩ (qO rr qZ)))))))))) V [42,41,40,35,34,33,12,8,7,6,2,1] [105,104,102,101,50,0] (fun _=>rfl) (fun _=>rfl) fun τ a w F G=>?_
    try dsimp only [RS.sub,SF.sub,CF.sub,csub,Anc.sub,List.map,Zf,xL,xM,Nat.reduceAdd,xD,xE,xT,xU,xC,xN,zCF,ldSF,Zv,rTx,ZH,ZU,Zn,rOp,ZiC] at G
    generalize τ 85=v85 at G
    refine Zi (Za (rZ G (qp r1 (qR rr qZ)) V [42,41,40,35,34,33,12,8,7,6,2,1] [105,104,102,101,50,0] fun G=>?_))
    replace G:=G.ent (i:=42) (s':=.pv (.int .i64 ((j+1:Nat):Int))) Z (.int (Zd ow))
    obtain ⟨F,G⟩:=G.nM [41,40,35,34,33,12,8,6,2,1,7,42] [104,102,101,0,50]
    exact ⟨((j+1),_,_),F,⟨by omega,(by rw [ZdK hil,← YO,← hq];first | (rw [Yf hBq];done) | (rw [Yc hBq,YS]))⟩,G,by omega⟩
   have hBq:¬ (p (Nn (Nn g.txs i).ops j).key && Zn1 g phen (Nn g.txs i) (Nn (Nn g.txs i).ops j))=true:=by unfold Zn1;rw [hnd.1,hnd.2,hc5];simp
   refine Ye (Zi (Za (rZ G (qp r1 (qR rr qZ)) V [42,41,40,35,34,33,12,8,7,6,2,1] [105,104,102,101,50,0] fun G=>?_)))
   replace G:=G.ent (i:=42) (s':=.pv (.int .i64 ((j+1:Nat):Int))) Z (.int (Zd ow))
   obtain ⟨F,G⟩:=G.nM [41,40,35,34,33,12,8,6,2,1,7,42] [104,102,101,0,50]
   exact ⟨((j+1),_,_),F,⟨by omega,(by rw [ZdK hil,← YO,← hq];first | (rw [Yf hBq];done) | (rw [Yc hBq,YS]))⟩,G,by omega⟩
  have hil:j=(Nn g.txs i).ops.length:=by simp at hc3;omega
  refine Yx (Zj (Zj (Zo (Zi (Za (rZ G (qp r1 (qR rr qZ)) V [35,34,33,8,7,6,2,1] [104,102,101,50,0] fun G=>?_))))))
  replace G:=G.ent (i:=35) (s':=.pv (.int .i64 ((i+1:Nat):Int))) Z (.int (Zd ow))
  obtain ⟨F,G⟩:=G.nM [34,33,8,6,2,1,7,35] [102,101,0,50]
  exact ⟨((i+1),_,_),F,⟨by omega,(by rw [ZmJ hio,hq,hil,YA])⟩,G,by omega⟩
 have hil:i=g.txs.length:=by simp at hc2;omega
 refine Yx (Zj (Zj (Zo (Za (Ya (rZ G (qR rr (qO rr qZ)) V [6] [102,101,50,0] fun G=>Yh ?_))))))
 obtain ⟨F,G⟩:=G.give 50 6 Z rfl
 refine Zs hfr G Z Z Z (.sl (by first | exact hg | (rw [hq,hil,YA];exact hgg)))
theorem Zwh (x:Int):FnP prog 112 [.int .i64 x] (.bool ((fun _=>true) x)):=by
 refine FnP.mk func112 Z ntmps112 Z fun B a w F V hfr G=>Ya ?_
 refine rZ G qB V [2] [0] fun G=>Ya ?_
 refine rZ G qB V [2] [0] fun G=>Yh ?_
 refine Zs hfr G Z Z Z (.bool Z)
theorem Zwi (g:Zr) (phen:Int) (hsm:Za9 g):FnP prog 67 [.agg (Zv g),.int .i64 phen] (.sl ZiC (ZaP g phen fun _=>true)):=by
 refine FnP.mk func67 Z ntmps67 Z fun B a w F V hfr G=>Ya ?_
 refine Zb G (qx 101 r1 (qC qZ)) V [4,2,1] [101,0] (fun _=>rfl) (fun _=>rfl) fun τ a w F G=>?_
 try dsimp only [RS.sub,SF.sub,CF.sub,csub,Anc.sub,List.map,zCF,Zv,rTx,ZH,ZU,Zn,rOp,ZiC] at G
 generalize τ 2=v2 at G
 refine Za (Ya (rZ G (qe 2 101 r1 r1 (qR rr (qf (oP (Zse g phen hsm (fun _=>true) 112 f112 [] func112 Z kr (fun x=>Zwh x)) func111 (Args.three (.pagg .t) .t (.conv .f (Ent.fnClos)))) r2 qz (qO rr qZ)))) V [4] [101,0] fun G=>Yh ?_))
 refine Zs hfr G Z Z Z .refl
theorem Zvu {p:Int→Bool} {g:Zr} (hs:Za9 g):(rdC p g).length≤2000*g.txs.length:=by
 unfold rdC
 split
 ·have h1:=Zo0 (p:=p) (g:=g) hs.1 g.txs.length
  rwa [YA] at h1
 ·simp
def Zab (g:Zr):List Zg:=(ZfW (wwC PT1 g) (rdC PT1 g)).map HvD.edge
def ZY (p:Int):Int×Int:=if p=1 then (2,0) else if p=4 then (6,0) else if p=5 then (14,8) else (0,0)
def PhB (g:Zr) (p:Int):Prop:=if p=2∨p=3 then ZaP g p PT1≠[] else (ZY p).1≠0∧Ze3 (Zab g) (ZY p).1 (ZY p).2
theorem Zep {g:Zr} (hg:ZS g) {e:Zg} : e ∈ Zab g ↔ EdS g e:=by
 rw [← Zvx hg]
 unfold Zab ZfW
 rw [Ybk]
 rw [show (HvD.edge ∘ fun e=>(⟨e,cntA (wwC PT1 g) (rdC PT1 g) e⟩:HvD))=id from rfl,List.map_id]
 exact (Zbn Zbu _).2 _
theorem ZlP {g:Zr} (hg:¬ ZS g):Zab g = []:=by
 unfold Zab ZfW ZgM wwC rdC
 rw [Yc hg,Yc hg];rfl
theorem Zl8 {g:Zr} (hg:ZS g) {e:Zg} (he:EdS g e):(∃ t ∈ g.txs,t.id=e.src∧t.done=true) ∧ ∃ t ∈ g.txs,t.id=e.dst∧t.done=true:=by
 obtain ⟨_,h2,h3,_,_,h6⟩:=ZbQ.1 hg
 have ord:∀ {k z:Int},z ∈ getO g.orders k → ∃ t ∈ g.txs,t.id=z∧t.done=true:=fun {k z} hz=>by
  obtain ⟨t,h4,h5,h7,_⟩:=ZbH.1 ((h6 k).mem_iff.1 hz)
  exact ⟨t,h4,h5,h7⟩
 rcases he with ⟨_,h⟩ | ⟨t,ht,hd,o,_,_,h1,h7,h8⟩
 ·exact ⟨ord h.mem.1,ord h.mem.2⟩
 ·rcases h8 with ⟨h9,rfl⟩ | ⟨y,h9,_,rfl⟩
  ·refine ⟨?_,t,ht,rfl,hd⟩
   rcases h7 with h7 | ⟨u,u1,u2,_⟩
   ·exact absurd h7 h9
   ·exact ⟨u,(findT_mem u1).1,(findT_mem u1).2,u2⟩
  ·exact ⟨⟨t,ht,rfl,hd⟩,ord h9.mem⟩
theorem Zqi {g:Zr} (hs:Za9 g) (mask:Int):(ZI (Zex (Zab g) mask)).length≤4096:=by
 by_cases hg:ZS g
 ·have h1:(ZI (Zex (Zab g) mask)).length≤(g.txs.map TxD.id).length:=List.Nodup.length_le_of_subset (ZiH _) fun x hx=>by
   obtain ⟨e,he,hx⟩:=Zcq.1 hx
   obtain ⟨h3,h4⟩:=Zl8 hg ((Zep hg).1 (YU.1 he).1)
   rcases hx with rfl | rfl
   ·obtain ⟨t,h5,h6,_⟩:=h3;exact Yu.2 ⟨t,h5,h6⟩
   ·obtain ⟨t,h5,h6,_⟩:=h4;exact Yu.2 ⟨t,h5,h6⟩
  have h2:=hs.1.1
  rw [YH] at h1;omega
 ·rw [ZlP hg];exact Yw _
theorem ZpH (l:List HvD) (hl:l.length≤1000000):FnP prog 37 [.sl rHv l] (.sl Zq (l.map HvD.edge)):=by
 refine FnP.mk func37 Z ntmps37 Z fun B a w F V hfr G=>Ya ?_
 refine rZ G (qC qZ) V [2,0] [0] fun G=>Ya ?_
 refine rZ G (qC qZ) V [3,2,0] [0] fun G=>(Ya (Ya ?_))
 refine rZ G (qR rr (qu underlying73 r1 (qJ qZ))) V [8,7,6,3,2] [0] fun G=>Yg ?_
 replace G:=G.fresh 50 rfl
 replace G:=G.turn 50 Z (ZaC (T:=42) (sz:=4) (R:=Zq))
 refine Zk (σ:=(Nat)×(Value)×(List Zg)) [2,6,7] [0] (fun s=>[(8,.pv (.int .i64 (s.1:Int))),(3,.pv (.is s.2.1))]) (fun s=>[(50,.ob (.val s.2.1) (Zx 42 4 Zq s.2.2))]) (fun s=>s.1≤l.length∧(s.2.2=(l.take s.1).map HvD.edge)) (fun s=>l.length - s.1) ((0),(.slice none 0 0),([])) G ⟨rfl,rfl,rfl,rfl,rfl,tv⟩ ⟨rfl,rfl,tv⟩ ⟨Yw _,rfl⟩ ?_
 clear G;intro s a w F hC G
 obtain ⟨i,v,out⟩:=s
 try dsimp only at hC
 obtain ⟨F,G⟩:=G.nM [8,7,6,3,2] [50,0]
 try dsimp only at G
 obtain ⟨hi,hq⟩:=hC
 have hol:out.length≤i:=by rw [hq,YH,Yi];omega
 refine Ya (rZ G (qL r2) V [9,8,7,6,3,2] [50,0] fun G=>Ya ?_)
 refine Zc G Z (fun hc0=>?_) (fun hc0=>?_)
 ·have hil:i<l.length:=by simp at hc0;omega
  refine Ye (Za (Ya (Yg (Ya (Zb G (qy 5 underlying73 r2 (qf (oR true 5 .t) r1 qz (qf (oH [.int .i64 0,.int .i64 0,.int .i64 0,.int .i64 0,.int .i64 0] 101) trivial qz (qS 5 101 r2 r1 qZ)))) V [8,7,6,5,3,2] [101,50,0] (fun _=>rfl) (fun _=>rfl) fun τ a w F G=>?_)))))
  try dsimp only [RS.sub,SF.sub,CF.sub,csub,Anc.sub,List.map,Zf,xL,xM,Nat.reduceAdd,xD,xE,xT,xU,xC,xN,zCF,ldSF,Zq,rHv] at G
  generalize τ 5=v5 at G
  try simp only [Yb] at G
  refine Za (Zb G (qR rr (qg 0 101 r1 r1 (qf (oL true 4 101 .adr) r1 r1 (qf (o_buildSliceE (sz:=4) (zs:=[.int .i64 0,.int .i64 0,.int .i64 0,.int .i64 0]) (r:=[(0,.tmp 14)]) (l:=[_,_,_,_]) Ycg kr kr kr kr Z Z (.agg Z .t kr kr .nil) Z) r1 qz (qf (ZV (sz:=4) (bs:=32) 50 (.mk' Ycg kr kr) (by intro x;rfl) .is (.arr (l':=[(Nn l i).edge]) .t) (by simp only [Yd,Yl,Yy];omega) (by decide)) ⟨rfl,rfl,tv⟩ ⟨rfl,tv⟩ (qO rr qZ)))))) V [8,7,6,3,2] [50,0] (fun _=>rfl) (fun _=>rfl) fun τ a w F G=>?_)
  try dsimp only [RS.sub,SF.sub,CF.sub,csub,Anc.sub,List.map,Zf,xL,xM,Nat.reduceAdd,xD,xE,xT,xU,xC,xN,zCF,ldSF,Zq,rHv] at G
  generalize τ 16=v16 at G
  refine Zi (Za (rZ G (qp r1 (qR rr qZ)) V [8,7,6,3,2] [50,0] fun G=>?_))
  replace G:=G.ent (i:=8) (s':=.pv (.int .i64 ((i+1:Nat):Int))) Z (.int (Zd ow))
  obtain ⟨F,G⟩:=G.nM [7,6,2,3,8] [0,50]
  exact ⟨((i+1),_,_),F,⟨by omega,(by rw [Zp hil,YR,← hq];rfl)⟩,G,by omega⟩
 have hil:i=l.length:=by simp at hc0;omega
 refine Yx (Zj (Zj (Zo (Za (Ya (rZ G (qR rr (qO rr qZ)) V [2] [50,0] fun G=>Yh ?_))))))
 obtain ⟨F,G⟩:=G.give 50 2 Z rfl
 refine Zs hfr G Z Z Z (.sl (by rw [hq,hil,YA]))
theorem Zky (p:Int):FnP prog 68 [.int .i64 p] (.tup [.int .i64 (ZY p).1,.int .i64 (ZY p).2]):=by
 refine FnP.mk func68 Z ntmps68 Z fun B a w F V hfr G=>Ya ?_
 refine rZ G (qI (qI qZ)) V [3,2,0] [0] fun G=>(Ya (Ya ?_))
 refine rZ G (qR rr qZ) V [4,3,2] [0] fun G=>(Yg (Ya ?_))
 refine rZ G (qf (o_eql .t qi) r1 qz (qO rr qZ)) V [5,4,3,2] [0] fun G=>?_
 refine Zc G Z (fun hc0=>?_) (fun hc0=>?_)
 ·have hp:p=1:=by simpa using hc0
  subst hp
  have hg1:(2:Int)=(ZY 1).1:=rfl
  have hg2:(0:Int)=(ZY 1).2:=rfl
  refine Ya (rZ G (qI (qI qZ)) V [3,2] [0] fun G=>(Yh (Zz (Zl ?_))))
  refine Zaa hfr G Z (.tmp Z (.tmp Z .nil)) (.two (.int hg1) (.int hg2))
 have hp1:¬ p=1:=by simpa using hc0
 refine Ya (rZ G (qf (o_eql .t qi) r1 qz (qO rr qZ)) V [7,4,3,2] [0] fun G=>?_)
 refine Zc G Z (fun hc1=>?_) (fun hc1=>?_)
 ·have hp:p=4:=by simpa using hc1
  subst hp
  have hg1:(6:Int)=(ZY 4).1:=rfl
  have hg2:(0:Int)=(ZY 4).2:=rfl
  refine Ya (rZ G (qI (qI qZ)) V [3,2] [0] fun G=>(Yh (Zz (Zl ?_))))
  refine Zaa hfr G Z (.tmp Z (.tmp Z .nil)) (.two (.int hg1) (.int hg2))
 have hp2:¬ p=4:=by simpa using hc1
 refine Ya (rZ G (qf (o_eql .t qi) r1 qz (qO rr qZ)) V [9,3,2] [0] fun G=>?_)
 refine Zc G Z (fun hc2=>?_) (fun hc2=>?_)
 ·have hp:p=5:=by simpa using hc2
  subst hp
  have hg1:(14:Int)=(ZY 5).1:=rfl
  have hg2:(8:Int)=(ZY 5).2:=rfl
  refine Ya (rZ G (qI (qI qZ)) V [3,2] [0] fun G=>(Yh (Zz (Zl ?_))))
  refine Zaa hfr G Z (.tmp Z (.tmp Z .nil)) (.two (.int hg1) (.int hg2))
 have hp3:¬ p=5:=by simpa using hc2
 have hg1:(0:Int)=(ZY p).1:=by unfold ZY;rw [Yc hp1,Yc hp2,Yc hp3]
 have hg2:(0:Int)=(ZY p).2:=by unfold ZY;rw [Yc hp1,Yc hp2,Yc hp3]
 refine Ye (Zi (Za (Ya (rZ G (qI (qI qZ)) V [3,2] [0] fun G=>Yh ?_))))
 refine Zaa hfr G Z (.tmp Z (.tmp Z .nil)) (.two (.int hg1) (.int hg2))
theorem Zkq {α:Type} {l:List α} : decide (0<(l.length:Int))=true ↔ l≠[]:=by rw [Yq,Ne,← List.length_eq_zero_iff];omega
theorem Zwr {g:Zr} {p:Int} (h:¬ (p=2∨p=3)) {b0 rb:Bool} (hb:b0=true ↔ PhB g p) (hr:rb=true ↔ Ze3 (Zab g) (ZY p).1 (ZY p).2):(!decide ((ZY p).1=0) && rb)=b0:=by
 rw [Yai,hb]
 unfold PhB
 rw [Yc h,Yt,hr];simp
theorem Zqp (g:Zr) (hsm:Za9 g) (hAR:(wwC PT1 g).length+(rdC PT1 g).length≤100000) (p:Int) (b0:Bool) (hb:b0=true ↔ PhB g p):FnP prog 31 [.agg (Zv g),.int .i64 p] (.bool b0):=by
 refine FnP.mk func31 Z ntmps31 Z fun B a w F V hfr G=>?_
 have hel:=Zhy (A:=wwC PT1 g) (R:=rdC PT1 g)
 have hkl:=Zgr (ZgM (wwC PT1 g) (rdC PT1 g))
 have hal:(ZgM (wwC PT1 g) (rdC PT1 g)).length≤100000:=by unfold ZgM;rw [Yd,YH];exact hAR
 have hpl:(Zab g).length≤100000:=by unfold Zab;rw [YH];omega
 obtain ⟨rb,hrb⟩:=Zpw (Ze3 (Zab g) (ZY p).1 (ZY p).2)
 refine Ya (Zb G (qx 101 r1 qB) V [4,2,1] [101,0] (fun _=>rfl) (fun _=>rfl) fun τ a w F G=>?_)
 try dsimp only [RS.sub,SF.sub,CF.sub,csub,Anc.sub,List.map,zCF,Zv,rTx,ZH,ZU,Zn,rOp] at G
 generalize τ 2=v2 at G
 refine Za (Ya (Ya (rZ G (qR rr qZ) V [7,4,2,1] [101,0] fun G=>(Yg (Ya (Ya ?_))))))
 refine rZ G (qf (o_eql .t qi) r1 qz (qO rr qZ)) V [8,7,4,2,1] [101,0] fun G=>?_
 refine Zc G Z (fun hc0=>?_) (fun hc0=>?_)
 ·have h23:(p=2∨p=3):=(by have h9:=hc0;simp at h9;omega)
  have hfin:decide (0<((ZaP g p fun _=>true).length:Int))=b0:=by
    rw [Yai,hb]
    unfold PhB
    rw [Yf h23]
    exact Zkq
  refine Ye (Za (Zc G Z (fun hc1=>?_) (fun hc1=>?_)))
  ·have h23:(p=2∨p=3):=(by have h9:=hc1;simp at h9;omega)
   have hfin:decide (0<((ZaP g p fun _=>true).length:Int))=b0:=by
     rw [Yai,hb]
     unfold PhB
     rw [Yf h23]
     exact Zkq
   refine Ya (rZ G (qe 2 101 r1 r1 (qR rr (qf (oP (Zwi g p hsm) func67 (Args.two (.pagg .t) .t)) r2 qz (qu Ycz r1 (qf (ZaR .t qi) r1 qz (qO rr qZ)))))) V [4,2,1] [101,0] fun G=>(Yh (Zz (Zl ?_))))
   refine Zs hfr G Z Z Z (.bool hfin)
  exact Bool.noConfusion (hc0.symm.trans hc1)
 have hn2:¬ p=2:=by simpa using hc0
 refine rZ G (qf (o_eql .t qi) r1 qz (qO rr qZ)) V [8,4,2,1] [101,0] fun G=>?_
 refine Zc G Z (fun hc2=>?_) (fun hc2=>?_)
 ·have h23:(p=2∨p=3):=(by have h9:=hc2;simp at h9;omega)
  have hfin:decide (0<((ZaP g p fun _=>true).length:Int))=b0:=by
    rw [Yai,hb]
    unfold PhB
    rw [Yf h23]
    exact Zkq
  refine Ya (rZ G (qe 2 101 r1 r1 (qR rr (qf (oP (Zwi g p hsm) func67 (Args.two (.pagg .t) .t)) r2 qz (qu Ycz r1 (qf (ZaR .t qi) r1 qz (qO rr qZ)))))) V [4,2,1] [101,0] fun G=>(Yh (Zz (Zl ?_))))
  refine Zs hfr G Z Z Z (.bool hfin)
 have h23:¬ (p=2∨p=3):=(by have h9:=hc2;simp at h9;omega)
 have hfin:=Zwr h23 hb hrb
 refine Ye (Zi (Za (Ya (rZ G (qR rr (qf (oP (Zky p) func68 (Args.one .t)) r1 qz (qR rr (qf (Zh .t Z) r1 qz (qf (Zh .t Z) r1 qz (qO rr (qO rr qZ))))))) V [6,5,4,2] [101,0] fun G=>Ya ?_))))
 refine rZ G (qR rr (qf (o_neq .t qi) r1 qz (qR rr (qk Z (fun h=>oL true 2 101 .is) r2 r1 (qk Z (fun h=>oP (Zol g hsm (Y4 hAR (by decide))) func38 (Args.one (.pagg (.w h)))) r2 qz (qk Z (fun h=>oP (ZpH _ (by have h9:=hpl;unfold Zab at h9;rw [YH] at h9;exact Y4 h9 (by decide))) func37 (Args.one (.w h))) r2 qz (qm Z Z Z Z (qm Z Z Z Z (qk Z (fun h=>oP (Zuq (Zab g) (ZY p).1 (ZY p).2 hpl (Zqi hsm _) rb hrb) func69 (Args.three (.w h) (.w h) (.w h))) r4 qz (qf (ZE .t .t) r2 qz (qO rr qZ))))))))))) V [4] [0] fun G=>Yh ?_
 refine Zs hfr G Z Z Z (.bool hfin)
theorem Zrc {t:TxD} {o:OpD} (ho:o ∈ t.ops) (hd:Zd3 t.id o=true):ofO o ∈ Zbl t:=by
 have key:∀ (l:List OpD) (out:List ZbS),(ofO o ∈ out∨o ∈ l)→ofO o ∈ l.foldl (ZaY t.id) out:=by
  intro l
  induction l with
  | nil=>intro out h;rcases h with h | h;exact h;cases h
  | cons x l ih=>
   intro out h
   rw [Yao]
   refine ih _ ?_
   rcases h with h | h
   ·left
    unfold ZaY
    split
    ·exact Y1 _ h
    ·exact h
   ·rcases Yj.1 h with rfl | h
    ·left
     unfold ZaY
     by_cases hin:ofO o ∈ out
     ·rw [Yc (by simp [hin])];exact hin
     ·rw [Yf ⟨hd,hin⟩];simp
    ·exact .inr h
 exact key t.ops [] (.inr ho)
theorem ZiP (l:List TxD) (id i:Int):Z3 (l.filter fun t=>!decide (t.id=id)) i=if i=id then none else Z3 l i:=by
 unfold Z3
 induction l with
 | nil=>simp
 | cons t l ih=>
  rw [YbY]
  by_cases e:t.id=id
  ·rw [Yc (by simp [e]),ih,Yb7]
   by_cases h:i=id
   ·rw [Yf h,Yf h]
   ·rw [Yc h,Yc h,YD ow]
  ·rw [Yf (by simp [e]),Yb7,Yb7,ih]
   by_cases h:i=id
   ·rw [Yf h,Yf h,YD ow]
   ·rw [Yc h,Yc h]
theorem ZqB {g:Zr} {t:TxD} (hg:ZS g) (hid:t.id≠0) (h0:∀ k,wcnt t.ops k=0) (hu:ZgO g t=false):∀ u ∈ g.txs,u.id≠t.id → ∀ o ∈ u.ops,o.read=true→o.tx≠t.id:=fun u hu1 hn o ho hr e=>by
 have hd:Zd3 u.id o=true:=by
  unfold Zd3
  rw [hr,YD ow,YD ow];rfl
 have hv:=Zrc ho hd
 have ev:ofO o = ⟨o.tx,o.key,o.nth⟩:=by unfold ofO;rw [Yf hr]
 have h1:=Zti hu hu1 hn hv (by rw [ev];exact e)
 rw [h0] at h1
 obtain ⟨_,_,h3,_⟩:=ZbQ.1 hg
 have h4:=YaT.1 (h3 u hu1).2 _ hv
 unfold Zkd at h4
 rw [ev] at h4 h1
 rw [Yc (by simp;omega)] at h4
 simp at h4 h1
 omega
theorem ZvI {g:Zr} {id:Int} (h:(Z5 g id).2=0):ZS g∧isK TxD.id id g.txs=true∧ZgO g (Zce id)=false∧(Z5 g id).1 = ⟨g.txs.filter fun t=>!decide (t.id=id),settleO (Zce id) g.orders⟩:=by
 by_cases h1:ZS g
 ·cases h2:isK TxD.id id g.txs
  ·rw [Zwl h1 h2] at h;cases h
  ·cases h3:ZgO g (Zce id)
   ·refine ⟨h1,rfl,rfl,?_⟩
    unfold Z5
    rw [Yc (YaO.2 h1),Yc (by simp [h2]),Yc (by simp [h3]),← Zhh (ZT.1 (Zas h1).1) h2]
   ·rw [Zwu h1 h2 h3] at h;cases h
 ·rw [Zwn h1] at h;cases h
theorem ZvU {g:Zr} (hg:ZS g) {t:TxD} (ht:t ∈ g.txs):1≤t.id:=by
 obtain ⟨_,_,h3,_⟩:=ZbQ.1 hg
 have:=(h3 t ht).1
 unfold Za5 at this
 split at this
 ·cases this
 ·rename_i h;exact (YaO.1 h).1
structure Zes (x y:Zr) (id:Int):Prop where
 rx:ZS x
 ry:ZS y
 ord:∀ k,getO y.orders k=getO x.orders k
 flt:x.txs=y.txs.filter fun t=>!decide (t.id=id)
 idle:∀ t ∈ y.txs,t.id=id→t.done=false∨t.ops = []
 free:∀ t ∈ x.txs,∀ o ∈ t.ops,o.read=true→o.tx≠id
section
variable {x y:Zr} {id:Int}
theorem Zes.mem (h:Zes x y id) {t:TxD} : t ∈ x.txs ↔ t ∈ y.txs∧t.id≠id:=by rw [h.flt,YU];simp
theorem Zes.find (h:Zes x y id) {i:Int} (hi:i≠id):Z3 y.txs i=Z3 x.txs i:=by rw [h.flt,ZiP,Yc hi]
theorem Zes.rds (h:Zes x y id) {t:TxD} (ht:t ∈ x.txs) {o:OpD} (ho:o ∈ t.ops) (hr:o.read=true) {e:Zg} : RdS y t o e ↔ RdS x t o e:=by
 unfold RdS OkV
 rw [h.find (h.free t ht o ho hr),h.ord]
theorem Zes.edge (h:Zes x y id) {e:Zg} : EdS y e ↔ EdS x e:=by
 unfold EdS
 rw [h.ord]
 constructor
 ·rintro (k | ⟨t,ht,hd,o,ho,hr,k⟩)
  ·exact .inl k
  ·by_cases e:t.id=id
   ·rcases h.idle t ht e with h1 | h1
    ·rw [hd] at h1;cases h1
    ·rw [h1] at ho;cases ho
   ·have hx:=h.mem.2 ⟨ht,e⟩
    exact .inr ⟨t,hx,hd,o,ho,hr,(h.rds hx ho hr).1 k⟩
 ·rintro (k | ⟨t,ht,hd,o,ho,hr,k⟩)
  ·exact .inl k
  ·exact .inr ⟨t,(h.mem.1 ht).1,hd,o,ho,hr,(h.rds ht ho hr).2 k⟩
theorem ZfU {α β:Type} {f f':α→List β} {p:α→Bool} : ∀ {l:List α},(∀ t ∈ l,p t=false→f t = [])→(∀ t ∈ l,p t=true→f t=f' t)→l.flatMap f=(l.filter p).flatMap f'
 | [],_,_=>rfl
 | t :: l,h,k=>by
  have ih:=ZfU (l:=l) (fun u hu=>h u (by simp [hu])) fun u hu=>k u (by simp [hu])
  rw [Y2,YbY,ih]
  cases hp:p t
  ·rw [h t (by simp) hp,Yc (by simp)];rfl
  ·rw [Yf rfl,Y2,k t (by simp) hp]
theorem Zes.bads (h:Zes x y id) (p:Int):ZaP y p PT1=ZaP x p PT1:=by
 unfold ZaP
 rw [Yf h.ry,Yf h.rx]
 unfold badsG
 rw [h.flt]
 refine ZfU (fun t ht hp=>?_) fun t ht hp=>?_
 ·have e:t.id=id:=by simpa using hp
  unfold Zde
  rw [List.map_eq_nil_iff,YbO]
  intro z hz hb
  have hm:z.1 ∈ t.ops:=by
   obtain ⟨i,hi,e⟩:=Yae hz
   simp at e
   rw [← e];exact Ya8 _
  rcases h.idle t ht e with h1 | h1
  ·unfold Zn1 Zg3 at hb
   rw [h1] at hb;simp at hb
  ·rw [h1] at hm;cases hm
 ·have e:t.id≠id:=by simpa using hp
  have hx:=h.mem.2 ⟨ht,e⟩
  unfold Zde
  congr 1
  refine List.filter_congr fun z hz=>?_
  have hm:z.1 ∈ t.ops:=by
   obtain ⟨i,hi,e⟩:=Yae hz
   simp at e
   rw [← e];exact Ya8 _
  congr 1
  unfold Zn1
  cases hn:Zd3 t.id z.1
  ·rfl
  ·have hr:z.1.read=true:=by
    unfold Zd3 at hn
    cases hor:z.1.read
    ·rw [hor] at hn;simp at hn
    ·rfl
   unfold uOf
   rw [h.find (h.free t hx z.1 hm hr)]
end
theorem Zvn {p:Int→Bool} {n:Nat} {g:Zr} (h:Fit n g):(wwC p g).length≤n*(24*n):=by
 unfold wwC
 split
 ·have key:∀ l:List OrdD,(∀ o ∈ l,o.txs.length≤n)→(wwA p l).length≤n*l.length:=by
   intro l
   induction l with
   | nil=>intro _;simp [wwA]
   | cons o l ih=>
    intro h
    have h1:=ih fun x hx=>h x (by simp [hx])
    have h2:=h o (by simp)
    unfold wwA at h1 ⊢
    rw [Y2,Yd,Yl,Nat.mul_succ]
    split
    ·have h3:(wwO o (o.txs.length - 1)).length=o.txs.length - 1:=by unfold wwO;rw [YH,List.length_range]
     omega
    ·simp only [Yy];omega
  exact Y4 (key _ h.2.2) (Ybo _ h.2.1)
 ·simp
theorem Zj3 {n:Nat} {g:Zr} (h:Fit n g) (hn:n≤26):Za9 g∧(wwC PT1 g).length+(rdC PT1 g).length≤100000:=by
 have hs:=h.small ow
 refine ⟨hs,?_⟩
 have h1:=Zvn (p:=PT1) h
 have h2:=Zvu (p:=PT1) hs
 have h3:=h.1.1
 have h4:n*(24*n)≤26*(24*26):=Nat.mul_le_mul hn (Ybo _ hn)
 omega
theorem Zqh {g:Zr} (h:Zck g):Fit 24 g:=by
 obtain ⟨h1,h2,h3,h4⟩:=h
 refine ⟨⟨by omega,fun t ht=>?_⟩,by omega,fun o ho=>?_⟩
 ·obtain ⟨j,hj,e⟩:=Yae ht
  have:=h3 j hj
  rw [nth_eq hj,e] at this;omega
 ·obtain ⟨j,hj,e⟩:=Yae ho
  have:=h4 j hj
  rw [nth_eq hj,e] at this;omega
def Zef:Zr:=⟨[⟨1,true,[⟨true,1,0,0⟩,⟨false,2,0,0⟩]⟩,⟨2,true,[⟨true,2,0,0⟩,⟨false,1,0,0⟩]⟩],[⟨1,[2]⟩,⟨2,[1]⟩]⟩
theorem Znw:Zab Zef = [⟨1,2,3,1⟩,⟨2,1,3,2⟩]:=by decide +kernel
theorem Zdq:Za9 Zef∧(wwC PT1 Zef).length+(rdC PT1 Zef).length≤100000:=⟨⟨⟨by decide,by decide⟩,by decide,by decide⟩,by decide +kernel⟩
theorem ZvB  : FnP prog 32 [] (.agg (Zv Zef)):=by
 refine FnP.mk func32 Z ntmps32 Z fun B a w F V hfr G=>Ya ?_
 refine Zb G (qf (oH [.slice none 0 0,.slice none 0 0] 101) trivial qz qZ) V [0] [101,0] (fun _=>rfl) (fun _=>rfl) fun τ a w F G=>?_
 try dsimp only [RS.sub,SF.sub,CF.sub,csub,Anc.sub,List.map,zCF,Zv,rTx,ZH,ZU,Zn,rOp] at G
 generalize τ 0=v0 at G
 refine Za (Ya (rZ G (qf (oB [(0,_),(1,_)] [.bool false,.int .i64 0,.int .i64 0,.int .i64 0] [(0,1),(1,1),(2,1),(3,1)] (.one Z .cb Zfs kr (.one Z qi one_int kr .nil))) trivial qz (qf (oB [(1,_)] [.bool false,.int .i64 0,.int .i64 0,.int .i64 0] [(0,1),(1,1),(2,1),(3,1)] (.one Z qi one_int kr .nil)) trivial qz (qf (o_buildSliceE (sz:=4) (zs:=[.bool false,.int .i64 0,.int .i64 0,.int .i64 0]) (r:=[(0,.tmp 1),(1,.tmp 2)]) (l:=[_,_,_,_,_,_,_,_]) Yck kr kr kr kr Z Z (.agg Z .t kr kr (.agg Z .t kr kr .nil)) Z) r2 qz (qf (oB [(0,_),(1,_),(2,.tmp 3)] [.int .i64 0,.bool false,.slice none 0 0] [(0,1),(1,1),(2,1)] (.one Z qi one_int kr (.one Z .cb Zfs kr (.one Z .t Zer kr .nil)))) r1 qz (qf (oB [(0,_),(1,_)] [.bool false,.int .i64 0,.int .i64 0,.int .i64 0] [(0,1),(1,1),(2,1),(3,1)] (.one Z .cb Zfs kr (.one Z qi one_int kr .nil))) trivial qz (qf (oB [(1,_)] [.bool false,.int .i64 0,.int .i64 0,.int .i64 0] [(0,1),(1,1),(2,1),(3,1)] (.one Z qi one_int kr .nil)) trivial qz (qf (o_buildSliceE (sz:=4) (zs:=[.bool false,.int .i64 0,.int .i64 0,.int .i64 0]) (r:=[(0,.tmp 5),(1,.tmp 6)]) (l:=[_,_,_,_,_,_,_,_]) Yck kr kr kr kr Z Z (.agg Z .t kr kr (.agg Z .t kr kr .nil)) Z) r2 qz (qf (oB [(0,_),(1,_),(2,.tmp 7)] [.int .i64 0,.bool false,.slice none 0 0] [(0,1),(1,1),(2,1)] (.one Z qi one_int kr (.one Z .cb Zfs kr (.one Z .t Zer kr .nil)))) r1 qz (qf (o_buildSliceE (sz:=3) (zs:=[.int .i64 0,.bool false,.slice none 0 0]) (r:=[(0,.tmp 4),(1,.tmp 8)]) (l:=[_,_,_,_,_,_]) Yci kr kr kr kr Z Z (.agg Z .t kr kr (.agg Z .t kr kr .nil)) Z) r2 qz (qf (o_buildSliceE (sz:=1) (zs:=[.int .i64 0]) (r:=[(0,_)]) (l:=[_]) Ycf kr kr kr kr Z Z (.one Z qi one_int kr .nil) Z) trivial qz (qf (oB [(0,_),(1,.tmp 10)] [.int .i64 0,.slice none 0 0] [(0,1),(1,1)] (.one Z qi one_int kr (.one Z .t Zer kr .nil))) r1 qz (qf (o_buildSliceE (sz:=1) (zs:=[.int .i64 0]) (r:=[(0,_)]) (l:=[_]) Ycf kr kr kr kr Z Z (.one Z qi one_int kr .nil) Z) trivial qz (qf (oB [(0,_),(1,.tmp 12)] [.int .i64 0,.slice none 0 0] [(0,1),(1,1)] (.one Z qi one_int kr (.one Z .t Zer kr .nil))) r1 qz (qf (o_buildSliceE (sz:=2) (zs:=[.int .i64 0,.slice none 0 0]) (r:=[(0,.tmp 11),(1,.tmp 13)]) (l:=[_,_,_,_]) Ych kr kr kr kr Z Z (.agg Z .t kr kr (.agg Z .t kr kr .nil)) Z) r2 qz (qf (oB [(0,.tmp 9),(1,.tmp 14)] [.slice none 0 0,.slice none 0 0] [(0,1),(1,1)] (.one Z .t Zer kr (.one Z .t Zer kr .nil))) r2 qz (qs 2 101 r2 r1 qZ)))))))))))))))) V [0] [101,0] fun G=>Yh ?_))
 refine Zaa hfr G Z (.cl 101 true 2 Z Z .nil) (.one (.aggLe Z ⟨.arrSl (R:=rTx) (l':=[⟨1,true,[⟨true,1,0,0⟩,⟨false,2,0,0⟩]⟩,⟨2,true,[⟨true,2,0,0⟩,⟨false,1,0,0⟩]⟩]) Z ⟨.refl,.refl,.arrSl (R:=rOp) (l':=[⟨true,1,0,0⟩,⟨false,2,0,0⟩]) Z ZeB.refl,.refl,.refl,.arrSl (R:=rOp) (l':=[⟨true,2,0,0⟩,⟨false,1,0,0⟩]) Z ZeB.refl,tv⟩,.arrSl (R:=ZH) (l':=[⟨1,[2]⟩,⟨2,[1]⟩]) Z ⟨.refl,.arrSl (R:=Zn) (l':=[2]) Z ZeB.refl,.refl,.arrSl (R:=Zn) (l':=[1]) Z ZeB.refl,tv⟩,tv⟩))
section
variable {P:Program} {t t2 e ty:TypeId} {pos:String} {af:Array Edge} {g:Option (Nat×Bool)} {x y:Operand} {ps qs:List (Nat×SF)} {α:Type} {R:α→List PV} {l s:List α} {sz k d':Nat} {v:Value}
theorem Zgg (n:Nat) (hu:P.underlying t=some (.slice e)) (hs:(P.info? e).map (·.size)=some sz) (hR:∀ x,(R x).length=sz) (hx:Opd x ps (.pv (.is (Zj6 sz k v)))) (hs0:s≠[]) (hk:k+s.length≤l.length)
  (hy:∀ (act:Act) (w:World) (F:Fp),Hps qs (Act.tau act) w (U F)→(RS.ob (.val v) (Zx e sz R l)).holds (Act.tau act) w (F n) (U F) → ∃ a sLen sCap svs,act.eval y = .slice (some a) sLen sCap∧min sLen (l.length - k)=s.length∧(∀ j u,svs[j]? = some u→w.cell? (a.add j)=some u)∧PVs (s.flatMap R) svs w (U F)) :
  OpC P ⟨some d',.call { callee:=.builtin .copy,args:=#[x,y],argTypes:=#[t,t2] },ty,pos,af,g⟩ ⟨ps++qs,[(n,.ob (.val v) (Zx e sz R l))],.pv (.int .i64 s.length),[(n,.ob (.val v) (Zx e sz R (l.take k++s++l.drop (k+s.length))))]⟩:=fun act w F K Q hw hp hr ht=>by
 obtain ⟨xs,r1,r2,r3⟩:=id (hr (n,.ob (.val v) (Zx e sz R l)) (by simp))
 have hy':=hy act w F hp.right (hr (n,.ob (.val v) (Zx e sz R l)) (by simp))
 simp only [Anc.v] at r1 r3
 have hxl:=r1.1
 have hsl0:0<s.length:=YaB.2 hs0
 rcases r1.2 with ⟨_,hn0⟩ | ⟨b,cap,cur,ev,_,hg,hnc,hcm,hcs,htake⟩
 ·omega
 ·have ex:act.eval x = .slice (some ⟨b,0+k*sz,none⟩) (l.length - k) (cap - k):=by rw [(hx act w (U F) hp.left).1,ev];rfl
  obtain ⟨sa,sl,sc,svs,es,hmin,hcells,hpv⟩:=hy'
  have hcl:svs.length=s.length*sz:=by rw [← hpv.len,Zlg hR]
  have hcur:cur.toList.length=cur.size:=by simp
  have hfit:k*sz+s.length*sz≤l.length*sz:=by rw [← Ya5];exact YI _ hk
  have hfit2:l.length*sz≤cur.size:=by rw [hcs];exact YI _ hnc
  have hf:∀ z,F n z ↔ z=b:=fun z=>by rw [r3 z,ev];simp [Value.ownBlock,Yaj]
  have hc:=ZdE (P:=P) (w:=w) (dT:=t) (sT:=t2) (ty:=ty) (g:=b) (o:=0+k*sz) (dLen:=l.length - k) (dCap:=cap - k) (n:=s.length) (a:=sa) (sLen:=sl) (sCap:=sc) hu hs hg hmin hcl hcells (by rw [hcl];omega) hpv.one
  rw [Y7] at hc ex
  have hrun:(execOp act.eval ⟨some d',.call { callee:=.builtin .copy,args:=#[x,y],argTypes:=#[t,t2] },ty,pos,af,g⟩).run P w = .ok (.value (goInt s.length)) (w.setRow b (cur.toList.take (k*sz)++svs++cur.toList.drop (k*sz+svs.length)).toArray):=by
   simp only [execOp,resolve,invoke,builtin,ex,es]
   simp [hc,resolve,invoke,builtin,ex,es]
  obtain ⟨g1,g2⟩:=ZaT hw hg hf (cur.toList.take (k*sz)++svs++cur.toList.drop (k*sz+svs.length)).toArray
  simp only [Oper.wp,hrun,Oper.upon]
  refine ht _ _ F g1 g2 ⟨rfl,by unfold maxLen at hcm;show IntKind.min .i64≤_∧_≤IntKind.max .i64;simp [IntKind.min,IntKind.max,IntKind.signed,IntKind.bits];omega⟩ ?_
  intro z' hz'
  simp only [Yk] at hz'
  subst hz'
  have hll:(l.take k++s++l.drop (k+s.length)).length=l.length:=by simp;omega
  have htk:=Zfi (cur:=cur.toList) (us:=svs) (k:=k*sz) (sz:=s.length*sz) (N:=l.length*sz) hfit hcl (by rw [hcur];exact hfit2)
  rw [htake] at htk
  have hown:=ZeG (n:=l.length) (sz:=sz) (us:=cur.toList.take (k*sz)++svs++cur.toList.drop (k*sz+svs.length)) hg (by simp only [Yd,Yi,YE,hcur,hcl];omega) hnc hcm
  rw [htk] at hown
  refine ⟨xs.take (k*sz)++svs++xs.drop (k*sz+s.length*sz),by rw [hll];simp only [Anc.v];rw [ev];exact hown,?_,r3⟩
  rw [YV,YV,ZcI hR,ZgF hR,Ya5]
  have hp1:=PVs.mono g2.ev r2
  exact ((hp1.take _).append (PVs.mono g2.ev hpv)).append (hp1.drop _)
theorem ZkZ (n:Nat) (hu:P.underlying t=some (.slice e)) (hs:(P.info? e).map (·.size)=some sz) (hR:∀ x,(R x).length=sz) (hx:Opd x ps (.pv (.is v))) (hy:Opd y qs (.pv (.sl R s))) (hs0:s≠[]) (hk:s.length≤l.length) :
  OpC P ⟨some d',.call { callee:=.builtin .copy,args:=#[x,y],argTypes:=#[t,t2] },ty,pos,af,g⟩ ⟨ps++qs,[(n,.ob (.val v) (Zx e sz R l))],.pv (.int .i64 s.length),[(n,.ob (.val v) (Zx e sz R (s++l.drop s.length)))]⟩:=fun act w F K Q hw hp hr ht=>by
 have hv:Zj6 sz 0 v=v:=by
  obtain ⟨xs,r1,_,_⟩:=hr (n,.ob (.val v) (Zx e sz R l)) (by simp)
  have hsl0:0<s.length:=YaB.2 hs0
  rcases r1.2 with ⟨_,hn0⟩ | ⟨b,cap,cur,ev,_⟩
  ·omega
  ·simp only [Anc.v] at ev
   rw [ev];simp [Zj6]
 have h:=Zgg (P:=P) (t:=t) (t2:=t2) (ty:=ty) (pos:=pos) (af:=af) (g:=g) (x:=x) (y:=y) (ps:=ps) (qs:=qs) (R:=R) (s:=s) (l:=l) (v:=v) (k:=0) (d':=d') n hu hs hR (by rw [hv];exact hx) hs0 ow (fun act w F hp _=>by
  obtain ⟨sa,sc,es,hsc,hscm,hsv⟩:=hy act w (U F) hp
  obtain ⟨sb,soff,svs,rfl,hny,hsb,hcells,hpv⟩:=hsv.resolve_left hs0
  exact ⟨_,_,_,svs,es,by omega,ZpX hcells,hpv⟩)
 rw [List.take_zero,Yav,Y7] at h
 exact h act w F K Q hw hp hr ht
theorem ZkM {kx ky:Nat} (n:Nat) (hu:P.underlying t=some (.slice e)) (hs:(P.info? e).map (·.size)=some sz) (hR:∀ x,(R x).length=sz) (hx:Opd x ps (.pv (.is (Zj6 sz kx v)))) (hy:Opd y qs (.pv (.is (ZgN ky v)))) (hkx:kx=k) (hky:ky=k) (h0:0<k) (hk:k<l.length) :
  OpC P ⟨some d',.call { callee:=.builtin .copy,args:=#[x,y],argTypes:=#[t,t2] },ty,pos,af,g⟩ ⟨ps++qs,[(n,.ob (.val v) (Zx e sz R l))],.pv (.int .i64 (l.take (min k (l.length - k))).length),[(n,.ob (.val v) (Zx e sz R (l.take k++l.take (min k (l.length - k))++l.drop (k+(l.take (min k (l.length - k))).length))))]⟩:=by
 subst hkx;subst hky
 have hlen:(l.take (min ky (l.length - ky))).length=min ky (l.length - ky):=by rw [Yi];omega
 refine Zgg n hu hs hR hx (fun e=>by rw [← List.length_eq_zero_iff,hlen] at e;omega) (by rw [hlen];omega) fun act w F hp hr=>?_
 obtain ⟨xs,r1,r2,r3⟩:=hr
 simp only [Anc.v] at r1 r3
 have hxl:=r1.1
 have hsh:=ZL r1
 obtain ⟨ad,cap,ev,_,_,hq⟩:=hsh
 obtain ⟨b,rfl,_,hcells⟩:=hq.resolve_left ow
 have hle:min ky (l.length - ky)*sz≤l.length*sz:=YI _ ow
 refine ⟨⟨b,0,none⟩,ky,cap,xs.take (min ky (l.length - ky)*sz),by rw [(hy act w (U F) hp).1,ev];rfl,by rw [hlen],fun j u hj=>?_,?_⟩
 ·rw [Ya3] at hj
  split at hj
  ·exact ZpX hcells j u hj
  ·cases hj
 ·rw [ZcI hR];exact r2.take _
end
def ZbT (n k:Nat):List Int:=List.replicate k (-1)++List.replicate (n - k) 0
theorem ZjX {n k:Nat} (h:k≤n):(ZbT n k).length=n:=by unfold ZbT;rw [Yd,Y0,Y0];omega
theorem Zk0 {n:Nat} (h:1≤n):[(-1:Int)] ++ (List.replicate n (0:Int)).drop [(-1:Int)].length=ZbT n 1:=by unfold ZbT;rw [List.drop_replicate];rfl
theorem ZhE {n k:Nat} (h:k<n):(ZbT n k).take k++(ZbT n k).take (min k ((ZbT n k).length - k))++(ZbT n k).drop (k+((ZbT n k).take (min k ((ZbT n k).length - k))).length)=ZbT n (k+min k (n - k))∧((ZbT n k).take (min k ((ZbT n k).length - k))).length=min k (n - k):=by
 have hl:=ZjX (Nat.le_of_lt h)
 have hlen:((ZbT n k).take (min k (n - k))).length=min k (n - k):=by rw [Yi,hl];omega
 rw [hl,hlen]
 refine ⟨?_,rfl⟩
 have t1:∀ j,j≤k→(ZbT n k).take j=List.replicate j (-1):=fun j hj=>by
  unfold ZbT
  rw [YT (by rw [Y0];exact hj),List.take_replicate,YaX hj]
 have d1:∀ j,(ZbT n k).drop (k+j)=List.replicate (n - k - j) 0:=fun j=>by
  unfold ZbT
  rw [List.drop_append,YaW (by rw [Y0];omega),Y0,List.drop_replicate,Yav]
  congr 1;omega
 rw [t1 k (YM _),t1 _ ow,d1]
 unfold ZbT
 rw [List.replicate_append_replicate]
 congr 2;omega
theorem Zp9 {n k:Nat} (h:n≤k) (h2:k≤n):ZbT n k=List.replicate n (-1):=by
 have:k=n:=by omega
 subst this
 unfold ZbT;simp
theorem ZvM (x y:Int):FnP prog 247 [.int .u64 x,.int .u64 y] (.tup [.int .u64 (x*y / 18446744073709551616),.int .u64 (x*y % 18446744073709551616)]):=by
 refine FnP.mk func247 Z ntmps247 Z fun B a w F V hfr G=>Ya ?_
 refine rZ G (qI (qI qZ)) V [5,4,1,0] [0] fun G=>Ya ?_
 refine wp_cond (by rfl) ?_
 refine Ye (Za (Ya (rZ G (qR rr (qR rr (qf (oP (ZuP x y) func255 (Args.two .t .t)) r2 qz (qR rr (qf (Zh .t Z) r1 qz (qf (Zh .t Z) r1 qz (qO rr (qO rr qZ)))))))) V [9,8,5,4] [0] fun G=>Ya ?_)))
 refine rZ G (qR rr (qR rr (qO rr (qO rr qZ)))) V [5,4] [0] fun G=>Yh ?_
 refine Zaa hfr G Z (.tmp Z (.tmp Z .nil)) (.two .refl .refl)
theorem Zsf (n:Nat) (hn1:1≤n) (hn2:n≤1000000):FnG prog 227 1 [.sl Zn [-1],.int .i64 (n:Int)] [.star []] (PV.one) (fun v=>[Zx 3 1 Zn (List.replicate n (-1)) v]):=by
 refine FnG.mk func227 Z ntmps227 Z kr fun B F0 a w F V hG G=>?_
 have hu1:IntKind.wrap .u64 ((([(-1)]:List Int).length:Nat):Int)=1:=Zan (by decide)
 have hu2:IntKind.wrap .u64 (n:Int)=n:=Zan ow
 have hw:IntKind.wrap .i64 (n:Int)=n:=ZA ow
 have hm:(1:Int)*(n:Int) / 18446744073709551616=0∧(1:Int)*(n:Int) % 18446744073709551616=(n:Int):=by omega
 obtain ⟨F,G⟩:=G.nM [1,0] [0]
 refine Ya (rZ G (qC qZ) V [4,1,0] [0] fun G=>(Ya (Ya ?_)))
 refine rZ G (qR rr (qf (ZaA .t qi) r1 qz qZ)) V [10,4,1,0] [0] fun G=>?_
 refine Zc G Z (fun hc0=>?_) (fun hc0=>?_)
 ·have:=Yr hc0;omega
 refine Ye (Za (Ya (Ze G (qR rr (qu Ycf r1 (qf (o_conv Ycm kr .t) r1 qz (qR rr (qf (o_conv Ycm kr .t) r1 qz (qf (oP (ZvM _ _) func247 (Args.two .t .t)) r2 qz (qR rr (qf (Zh .t Z) r1 qz (qf (Zh .t Z) r1 qz (qO rr (qO rr qZ))))))))))) V [6,5,4,0] [0] Z Z fun a w F G=>?_)))
 rw [hu1,hu2,hm.1,hm.2] at G
 refine Za (Ya (Ya (rZ G (qR rr (qf (ZaR .t qi) r1 qz (qR rr (qm Z Z Z Z (qk Z (fun h=>ZaR (.w h) qi) r2 qz (qf (Zak .t .t) r2 qz qZ)))))) V [26,6,4,0] [0] fun G=>?_)))
 refine Zc G Z (fun hc1=>?_) (fun hc1=>?_)
 ·simp at hc1;omega
 refine Ye (Za (Ya (Zb G (qR rr (qf (o_conv Ycn kr .t) r1 qz (qf (ZaG (R:=Zn) (v:=0) (c:=(IntKind.wrap .i64 (n:Int))) (sz:=1) (bs:=8) (zs:=[.int .i64 0]) 101 Ycf kr kr kr (fun _ _=>⟨⟨rfl,rfl,ZcV⟩,tv⟩) .t .t (by rw [hw];omega) (by rw [hw];omega) (by rw [hw];omega)) r2 qz (qO rr qZ)))) V [7,4,0] [101,0] (fun _=>rfl) (fun _=>rfl) fun τ a w F G=>?_)))
 try dsimp only [RS.sub,SF.sub,CF.sub,csub,Anc.sub,List.map,Zf,xL,xM,Nat.reduceAdd,xD,xE,xT,xU,xC,xN,zCF,Zav,Zau,Zn,Zam] at G
 generalize τ 30=v30 at G
 rw [hw,Yb] at G
 refine Za (Ya (Ze G (qR rr (qR rr (qf (ZkZ 101 Ycf kr (by intro x;rfl) .t .t (by simp) (by rw [Y0];exact hn1)) r2 r1 (qO rr qZ)))) V [8,7,4] [101,0] Z Z fun a w F G=>?_))
 rw [Zk0 hn1] at G
 refine Za (Ya (Yg ?_))
 replace G:=G.ent (i:=8) (s':=.pv (.int .i64 ((1:Nat):Int))) Z (.int Z)
 refine Zk (σ:=Nat) [4,7] [0] (fun s=>[(8,.pv (.int .i64 (s:Int)))]) (fun s=>[(101,.ob (.val v30) (Zx 3 1 Zn (ZbT n s)))]) (fun s=>1≤s∧s≤n) (fun s=>n - s) (1) G ⟨rfl,rfl,rfl,tv⟩ ⟨rfl,rfl,tv⟩ ⟨YM 1,hn1⟩ ?_
 clear G;intro k a w F hC G
 try dsimp only at hC
 obtain ⟨F,G⟩:=G.nM [8,7,4] [101,0]
 try dsimp only at G
 obtain ⟨hk1,hk2⟩:=hC
 have hfl:=ZjX hk2
 refine Ya (Ya (rZ G (qR rr (qR rr (qf (ZQ 101 Ycf .is) r1 r1 (qL r2)))) V [37,8,7,4] [101,0] fun G=>?_))
 refine Zc G Z (fun hc2=>?_) (fun hc2=>?_)
 ·have hkn:k<n:=by have h9:=Yr hc2;rw [hfl] at h9;omega
  refine Ye (Za (Yg (Zw G (qR rr (qR rr (qR rr (qf (Zai (sz:=1) 101 (.mk Ycf kr) .is .t ow (by rw [hfl];omega)) r2 r1 (qR rr (qR rr (qf (Zdh (sz:=1) 101 (.mk Ycf kr) .is .t ow (by rw [hfl];omega)) r2 r1 (qf (ZkM 101 Ycf kr (by intro x;rfl) .t .t Z Z ow (by rw [hfl];exact hkn)) r2 r1 (qf (o_add .t .t) r2 qz (qO rr qZ)))))))))) V [8,7,4] [101,0] Z Z fun a w F G=>?_)))
  try dsimp only [Zav,Zau,Zn,Zam] at G
  simp only [Yb] at G
  rw [(ZhE hkn).1] at G
  refine Zi (Za ?_)
  replace G:=G.ent (i:=8) (s':=.pv (.int .i64 ((k+min k (n - k):Nat):Int))) Z (.int (by rw [(ZhE hkn).2,ZA ow];omega))
  obtain ⟨F,G⟩:=G.nM [7,4,8] [0,101]
  exact ⟨(k+min k (n - k)),F,⟨by omega,by omega⟩,G,by omega⟩
 have hkn:n≤k:=by have h9:=YL hc2;rw [hfl] at h9;omega
 rw [Zp9 hkn hk2] at G
 have hg:(List.replicate n (-1):List Int)=List.replicate n (-1):=rfl
 refine Yx (Zj (Zj (Zo (Za (Ya (rZ G (qR rr (qO rr qZ)) V [4] [101,0] fun G=>Yh ?_))))))
 obtain ⟨F,G⟩:=G.rename 101 1 Z rfl
 have G:=G.turn 1 Z (r':=RS.hp (Zx 3 1 Zn (List.replicate n (-1)) v30)) (fun _ _ _ _ h=>by rw [hg];exact h)
 refine Z1 (h':=fun v=>Zx 3 1 Zn (List.replicate n (-1)) v) hG G Z (.tmp Z .nil) (.one .one) rfl
theorem Zqy (O I:List (List Z7)) (m:Nat) (mask least:Int) (hn1:1≤O.length) (hn2:O.length≤1000000):FnG prog 204 1 [.agg [Zew O I m,.int .i64 mask,.int .i64 least]] [.star []] (PV.one) (fun v=>[Zx 3 1 Zn (List.replicate O.length (-1)) v]):=by
 refine FnG.mk func204 Z ntmps204 Z kr fun B F0 a w F V hG G=>?_
 have hg:(List.replicate O.length (-1):List Int)=List.replicate O.length (-1):=rfl
 obtain ⟨F,G⟩:=G.nM [0] [0]
 refine Ya (Zb G (qx 101 r1 (qC qZ)) V [2,1] [101,0] (fun _=>rfl) (fun _=>rfl) fun τ a w F G=>?_)
 try dsimp only [RS.sub,SF.sub,CF.sub,csub,Anc.sub,List.map,zCF,Zav,Zau,Zn,Zam] at G
 generalize τ 1=v1 at G
 refine Za (Ya ?_)
 replace G:=G.fresh 102 rfl
 refine Zb G (qf (o_buildSliceE (sz:=1) (zs:=[.int .i64 0]) (r:=[(0,_)]) (l:=[_]) Ycf kr kr kr kr Z Z (.one Z qi one_int kr .nil) Z) trivial qz (qg 0 101 r1 r1 (qa 101 r1 r1 (qf (oP (Zci O I m) func158 (Args.one .t)) r1 qz (qf (Zap 102 (Zsf O.length hn1 hn2) func227 Z kr (Args.two (.conv .t (Ent.arrSl (R:=Zn) (l:=[-1]) Z)) .t) pvOne1) r2 r1 (qO rr qZ)))))) V [2] [102,101,0] (fun _=>rfl) (fun _=>rfl) fun τ a w F G=>?_
 try dsimp only [RS.sub,SF.sub,CF.sub,csub,Anc.sub,List.map,Zf,xL,xM,Nat.reduceAdd,xD,xE,xT,xU,xC,xN,zCF,ldSF,Zav,Zau,Zn,Zam] at G
 generalize τ 7=v7 at G
 refine Za (Yh ?_)
 obtain ⟨F,G⟩:=G.rename 102 1 Z rfl
 have G:=G.turn 1 Z (r':=RS.hp (Zx 3 1 Zn (List.replicate O.length (-1)) v7)) (fun _ _ _ _ h=>by rw [hg];exact h)
 refine Z1 (h':=fun v=>Zx 3 1 Zn (List.replicate O.length (-1)) v) hG G Z (.tmp Z .nil) (.one .one) rfl
theorem Zo2 (O I:List (List Z7)) (m:Nat) (mask least u:Int):FnP prog 205 [.agg [Zew O I m,.int .i64 mask,.int .i64 least],.int .i64 u] (.bool (decide (least≤u∧0≤u∧u<O.length))):=by
 refine FnP.mk func205 Z ntmps205 Z fun B a w F V hfr G=>Ya ?_
 refine Zb G (qx 101 r1 qB) V [4,2,1] [101,0] (fun _=>rfl) (fun _=>rfl) fun τ a w F G=>?_
 try dsimp only [RS.sub,SF.sub,CF.sub,csub,Anc.sub,List.map,zCF,Zav,Zau,Zn,Zam] at G
 generalize τ 2=v2 at G
 refine Za (Ya (rZ G (qR rr (qg 2 101 r1 r1 (qa 101 r1 r1 (qf (ZqC .t qi) r1 qz (qf (Zbs .t .t) r2 qz (qR rr (qm Z Z Z Z (qv 0 101 Z r2 r1 (qw 101 Z r2 r1 (qk Z (fun h=>oP (Zci O I m) func158 (Args.one (.w h))) r2 qz (qk Z (fun h=>ZaA (.w h) (.w h)) r3 qz (qf (ZE .t .t) r2 qz (qO rr qZ))))))))))))) V [4] [0] fun G=>Yh ?_))
 refine Zs hfr G Z Z Z (.bool (by rw [Yai];simp;split <;> omega))
section
variable {P:Program} {t t2 e ty:TypeId} {pos:String} {af:Array Edge} {g:Option (Nat×Bool)} {x y:Operand} {ps qs:List (Nat×SF)} {α:Type} {R:α→List PV} {l s:List α} {sz:Nat} {v:Value}
theorem ZmF {d':Nat} (n:Nat) (hu:P.underlying t=some (.slice e)) (hs:(P.info? e).map (·.size)=some sz) (hR:∀ x,(R x).length=sz) (hx:Opd x ps (.pv (.is v))) (hy:Opd y qs (.pv (.sl R s))) (hk:s.length≤l.length) :
  OpC P ⟨some d',.call { callee:=.builtin .copy,args:=#[x,y],argTypes:=#[t,t2] },ty,pos,af,g⟩ ⟨ps++qs,[(n,.ob (.val v) (Zx e sz R l))],.pv .any,[(n,.ob (.val v) (Zx e sz R (s++l.drop s.length)))]⟩:=fun act w F K Q hw hp hr ht=>by
 obtain ⟨xs,r1,r2,r3⟩:=id (hr (n,.ob (.val v) (Zx e sz R l)) (by simp))
 obtain ⟨ad,cap,ev,_,_,_⟩:=ZL r1
 simp only [Anc.v] at ev
 by_cases hs0:s = []
 ·subst hs0
  obtain ⟨sa,sc,es,_,_,_⟩:=hy act w (U F) hp.right
  have ex:act.eval x = .slice ad l.length cap:=by rw [(hx act w (U F) hp.left).1,ev]
  have hrun:(execOp act.eval ⟨some d',.call { callee:=.builtin .copy,args:=#[x,y],argTypes:=#[t,t2] },ty,pos,af,g⟩).run P w = .ok (.value (goInt 0)) w:=by
   cases ad <;> cases sa <;> simp [execOp,resolve,invoke,builtin,ex,es,Builtin.copy_,Ym hu,Builtin.lenOf,Builtin.firstCells,Go.Gm.run_sizeOf hs,goInt,storeCells,loadCells,loadCellsFrom]
  simp only [Oper.wp,hrun,Oper.upon]
  refine ht _ _ F hw ⟨rfl,rfl,rfl,YM _,fun _ _ _=>rfl,fun _ _=>rfl,fun n hn b hb=>.inl ⟨n,hn,hb⟩⟩ trivial ?_
  intro z' hz'
  simp only [Yk] at hz'
  subst hz'
  exact hr (n,.ob (.val v) (Zx e sz R l)) (by simp)
 ·have hsl0:0<s.length:=YaB.2 hs0
  have hv:Zj6 sz 0 v=v:=by
   rcases r1.2 with ⟨_,hn0⟩ | ⟨b,cap,cur,ev,_⟩
   ·omega
   ·simp only [Anc.v] at ev
    rw [ev];simp [Zj6]
  have h:=o_copy_sub (P:=P) (t2:=t2) (ty:=ty) (pos:=pos) (af:=af) (g:=g) (s:=s) (l:=l) (v:=v) (k:=0) (d':=d') n hu hs hR (by rw [hv];exact hx) hy hs0 ow
  rw [List.take_zero,Yav,Y7] at h
  exact h act w F K Q hw hp hr ht
end
theorem ZmI (x m:Nat) (hx:x<18446744073709551616) (hm:m<18446744073709551616):bits .and .u64 (x:Int) (m:Int)=((x &&& m:Nat):Int):=by
 have h1:(BitVec.ofInt 64 (x:Int)).toNat=x:=by rw [YaG];omega
 have h2:(BitVec.ofInt 64 (m:Int)).toNat=m:=by rw [YaG];omega
 show IntKind.wrap .u64 (((BitVec.ofInt 64 (x:Int) &&& BitVec.ofInt 64 (m:Int)).toNat:Nat):Int)=_
 rw [Ybt,h1,h2]
 exact Zan (by have:=Nat.and_lt_two_pow (n:=64) x (y:=m) ow;omega)
theorem ZtJ {n:Nat} (h:n≤65536):IntKind.wrap .i64 ((n:Int)*2 ^ min (1:Int).toNat (IntKind.bits .i64))=((2*n:Nat):Int):=by
 have:min (1:Int).toNat (IntKind.bits .i64)=1:=by decide
 rw [this,ZA ow];omega
def growN (n:Nat):Nat:=if n=0 then 1 else 2*n
theorem ZhT {n:Nat} (h:n≤65536):(if (1:Int)<IntKind.wrap .i64 ((n:Int)*2 ^ min (1:Int).toNat (IntKind.bits .i64)) then IntKind.wrap .i64 ((n:Int)*2 ^ min (1:Int).toNat (IntKind.bits .i64)) else 1)=((growN n:Nat):Int):=by
 rw [ZtJ h]
 unfold growN
 split <;> split <;> omega
theorem Zr1 {n:Nat} (h:n≤65536) (hp:n=0 ∨ ∃ k,k≤17∧n=2 ^ k):∃ k,k≤17∧growN n=2 ^ k:=by
 unfold growN
 rcases hp with rfl | ⟨k,hk,rfl⟩
 ·exact ⟨0,by decide,rfl⟩
 ·have h0:2 ^ k≠0:=by simp
  rw [Yc h0]
  refine ⟨k+1,?_,by rw [Nat.pow_succ];omega⟩
  refine Y6 (Nat.lt_of_not_le fun h2=>?_)
  have:2 ^ 17≤2 ^ k:=Nat.pow_le_pow_right (by decide) ow
  omega
structure ZgL (room:Int) (c:List Int) (f:Nat) (l:List Int):Prop where
 r0:0≤room
 r1:room≤65536
 fits:(l.length:Int)≤room
 le:l.length≤c.length
 pow:(c.length=0∧f=0)∨(f<c.length ∧ ∃ k,k≤17∧c.length=2 ^ k)
 cells:∀ j,j<l.length→Nn c ((f+j) % c.length)=Nn l j
theorem ZtB {n f j k:Nat} (h1:j<k) (h2:k<n):(f+j) % n≠(f+k) % n:=by
 intro e
 have h:=Nat.sub_mod_eq_zero_of_mod_eq e.symm
 rw [show f+k - (f+j)=k - j by omega,Nat.mod_eq_of_lt ow] at h
 omega
theorem ZgL.new {n:Int} (h:0≤n∧n≤65536):ZgL n [] 0 []:=⟨h.1,h.2,h.1,YM _,.inl ⟨rfl,rfl⟩,fun j hj=>absurd hj (Y3 j)⟩
theorem ZqU {l:List Int} {x:Int} {j:Nat} : Nn (l ++ [x]) j=if j<l.length then Nn l j else if j=l.length then x else default:=by
 by_cases h:j<l.length
 ·rw [Yf h,nth_eq (by simp;omega),nth_eq h,List.getElem_append_left h]
 ·rw [Yc h]
  by_cases e:j=l.length
  ·subst e;rw [Yf rfl,nth_eq (by simp)];simp
  ·rw [Yc e];unfold Nn;simp [YaH,show l.length+1≤j by omega]
theorem ZgL.put {room:Int} {c:List Int} {f:Nat} {l:List Int} {x:Int} (h:ZgL room c f l) (hl:(l.length:Int)<room) (hc:l.length<c.length):ZgL room (c.set ((f+l.length) % c.length) x) f (l ++ [x]):=by
 obtain ⟨h0,h1,h2,h3,h4,h5⟩:=h
 have hm:∀ j,(f+j) % c.length<c.length:=fun j=>Ybs _ ow
 refine ⟨h0,h1,by simp;omega,by simp;omega,?_,fun j hj=>?_⟩
 ·rcases h4 with h4 | ⟨h4,k,h6,h7⟩
  ·omega
  ·exact .inr ⟨by simpa using h4,k,h6,by simpa using h7⟩
 ·rw [Yd,YN] at hj
  rw [YK,Zcz (hm _),ZqU]
  by_cases e:j=l.length
  ·subst e;rw [Yf rfl,Yc (Nat.lt_irrefl _),Yf rfl]
  ·rw [Yc fun k=>ZtB (show j<l.length by omega) hc k,Yf ow]
   exact h5 j ow
theorem ZgL.tail {room:Int} {c:List Int} {f:Nat} {x:Int} {l:List Int} (h:ZgL room c f (x :: l)):ZgL room c ((f+1) % c.length) l:=by
 obtain ⟨h0,h1,h2,h3,h4,h5⟩:=h
 rw [Yl] at h2 h3 h5
 have hc:0<c.length:=by omega
 have e:∀ j,j<l.length→Nn (x :: l) (j+1)=Nn l j:=fun j hj=>by rw [nth_eq (by simpa using hj),nth_eq hj];rfl
 refine ⟨h0,h1,by omega,by omega,?_,fun j hj=>?_⟩
 ·rcases h4 with h4 | ⟨h4,k⟩
  ·omega
  ·exact .inr ⟨Ybs _ hc,k⟩
 ·rw [Nat.mod_add_mod,← e j hj,← h5 (j+1) ow]
  congr 2;omega
theorem ZgL.first {room:Int} {c:List Int} {f:Nat} {x:Int} {l:List Int} (h:ZgL room c f (x :: l)):Nn c ((f+0) % c.length)=x:=by
 rw [h.cells 0 (by simp),nth_eq (by simp)];rfl
theorem ZgL.grow {room:Int} {l d:List Int} (h0:0≤room) (h1:room≤65536) (h2:(l.length:Int)≤room) (h3:l.length≤d.length) (ht:d.take l.length=l) (hp:∃ k,k≤17∧d.length=2 ^ k):ZgL room d 0 l:=by
 have hd:0<d.length:=by obtain ⟨k,_,e⟩:=hp;rw [e];exact Nat.pos_of_ne_zero (by simp)
 refine ⟨h0,h1,h2,h3,.inr ⟨hd,hp⟩,fun j hj=>?_⟩
 rw [Y7,Nat.mod_eq_of_lt ow]
 have e:(d.take l.length)[j]? = l[j]?:=by rw [ht]
 rw [YbC hj,Yax hj] at e
 obtain ⟨h2,e2⟩:=YJ.1 e
 rw [nth_eq h2,nth_eq hj,e2]
theorem ZgL.ring {room:Int} {c:List Int} {f:Nat} {l:List Int} (h:ZgL room c f l) (hc:0<c.length):(∃ k,k≤17∧c.length=2 ^ k)∧f<c.length:=by
 rcases h.pow with ⟨h1,_⟩ | ⟨h1,h2⟩
 ·omega
 ·exact ⟨h2,h1⟩
theorem ZgL.pow0 {room:Int} {c:List Int} {f:Nat} {l:List Int} (h:ZgL room c f l):c.length=0 ∨ ∃ k,k≤17∧c.length=2 ^ k:=by
 rcases h.pow with ⟨h1,_⟩ | ⟨_,h2⟩
 ·exact .inl h1
 ·exact .inr h2
def ZwH (v rv:Value) (room:Int) (n f:Nat) (c:List Int):List RS:=[.pt (.val v) 303 [.pv (.int .i64 room),.pv (.is rv),.pv (.int .u64 (f:Int)),.pv (.int .i64 (n:Int))],.ob (.val rv) (Zx 3 1 Zn c)]
def rqH (v:Value) (room:Int) (l:List Int):HP:=.ex fun rv:Value=>.ex fun c:List Int=>.ex fun f:Nat=>.and (ZgL room c f l) (.star (ZwH v rv room l.length f c))
theorem ZpN {v:Value} {room:Int} {l:List Int} {w:World} {f y:Ys} (h:(rqH v room l).p w f y):∃ b,v = .pointer (some ⟨b,0,none⟩):=by
 obtain ⟨rv,c,f,_,g⟩:=h
 exact HP.star_pt g
theorem Zty {f i n:Nat} {z:Int} (hz:z=i) (hp:∃ k,k≤17∧n=2 ^ k) (hf:f<n) (hi:i≤n):bits .and .u64 (IntKind.wrap .u64 ((f:Int)+IntKind.wrap .u64 z)) (IntKind.wrap .u64 (IntKind.wrap .i64 ((n:Int) - 1)))=(((f+i) % n:Nat):Int):=by
 subst hz
 obtain ⟨k,hk,rfl⟩:=hp
 have h17:2 ^ k≤2 ^ 17:=Nat.pow_le_pow_right (by decide) hk
 have h0:0<2 ^ k:=Nat.pos_of_ne_zero (by simp)
 have e1:IntKind.wrap .u64 ((f:Int)+IntKind.wrap .u64 (i:Int))=((f+i:Nat):Int):=by rw [Zan (x:=(i:Int)) ow,Zan ow];omega
 have e2:IntKind.wrap .u64 (IntKind.wrap .i64 (((2 ^ k:Nat):Int) - 1))=((2 ^ k - 1:Nat):Int):=by rw [ZA ow,Zan ow];omega
 rw [e1,e2,ZmI _ _ ow ow,YaV]
theorem Zdc (c:List Int) (room:Int) (n f i:Nat) (z:Int) (hz:z=i) (hp:∃ k,k≤17∧c.length=2 ^ k) (hf:f<c.length) (hi:i≤c.length):FnP prog 230 [.ref [.int .i64 room,.sl Zn c,.int .u64 (f:Int),.int .i64 (n:Int)],.int .i64 z] (.int .u64 (((f+i) % c.length:Nat):Int)):=by
 refine FnP.mk func230 Z ntmps230 Z fun B a w F V hfr G=>Ya ?_
 refine rZ G (qI qZ) V [4,1,0] [0] fun G=>Ya ?_
 refine Zw G (qR rr (qf (ZD .t) r1 qz (qf (oG 2 .t) r1 qz (qf (oR false 1 .t) r1 qz (qR rr (qf (o_conv Ycm kr .t) r1 qz (qf (o_add .t .t) r2 qz (qR rr (qf (ZD .t) r1 qz (qf (oG 1 .t) r1 qz (qf (oR false 1 .t) r1 qz (qu Ycf r1 (qf (o_sub .t qi) r1 qz (qf (o_conv Ycm kr .t) r1 qz (qf (o_and .t .t) r2 qz (qO rr qZ)))))))))))))))) V [4] [0] Z Z fun a w F G=>?_
 try dsimp only [List.map,xD,xE,xT,xU,ldSF,Zn] at G
 refine Za (Yh (Zs hfr G Z Z Z (.int (Zty hz hp hf hi))))
theorem Zk1 (room n:Int) (p q:PV):FnP prog 248 [.ref [.int .i64 room,p,q,.int .i64 n]] (.int .i64 n):=by
 refine FnP.mk func248 Z ntmps248 Z fun B a w F V hfr G=>Ya ?_
 refine rZ G (qI qZ) V [2,0] [0] fun G=>(Ya (Ya ?_))
 refine rZ G (qR rr (qf (Zcl underlying283 .t) r1 qz qZ)) V [4,2,0] [0] fun G=>?_
 refine Zc G Z (fun hc0=>?_) (fun hc0=>?_)
 ·simp at hc0
 refine Ye (Za (Ya (rZ G (qR rr (qf (ZD .t) r1 qz (qf (oG 3 .t) r1 qz (qf (oR false 1 .t) r1 qz (qO rr qZ))))) V [2] [0] fun G=>Yh ?_)))
 refine Zs hfr G Z Z Z .refl
theorem Zsh (room n:Int) (p q:PV) (hr:0≤room∧room≤65536) (hn:0≤n∧n≤65536):FnP prog 228 [.ref [.int .i64 room,p,q,.int .i64 n]] (.int .i64 (room - n)):=by
 refine FnP.mk func228 Z ntmps228 Z fun B a w F V hfr G=>Ya ?_
 refine rZ G (qI qZ) V [2,0] [0] fun G=>(Ya (Ya ?_))
 refine rZ G (qR rr (qf (Zcl underlying283 .t) r1 qz qZ)) V [4,2,0] [0] fun G=>?_
 refine Zc G Z (fun hc0=>?_) (fun hc0=>?_)
 ·simp at hc0
 refine Ye (Za (Ya (Zw G (qR rr (qf (ZD .t) r1 qz (qf (oG 0 .t) r1 qz (qf (oR false 1 .t) r1 qz (qR rr (qf (ZD .t) r1 qz (qf (oG 3 .t) r1 qz (qf (oR false 1 .t) r1 qz (qf (o_sub .t .t) r2 qz (qO rr qZ)))))))))) V [2] [0] Z Z fun a w F G=>?_)))
 try dsimp only [List.map,xD,xE,xT,xU,ldSF,Zn] at G
 refine Za (Yh (Zs hfr G Z Z Z (.int (ZA ow))))
theorem Zsc (b:Nat) (room:Int) (l:List Int):FnG prog 229 1 [.is (.pointer (some ⟨b,0,none⟩))] [rqH (.pointer (some ⟨b,0,none⟩)) room l] (.sl Zn l) (fun _=>[rqH (.pointer (some ⟨b,0,none⟩)) room l]):=by
 refine FnG.mk func229 Z ntmps229 Z kr fun B F0 a w F V hG G=>?_
 obtain ⟨rv,G⟩:=G.open_ex 1 rfl
 obtain ⟨c,G⟩:=G.open_ex 1 rfl
 obtain ⟨f,G⟩:=G.open_ex 1 rfl
 obtain ⟨hI,G⟩:=G.open_and 1 rfl
 obtain ⟨F,G⟩:=G.peel 1 2 Z rfl
 obtain ⟨F,G⟩:=G.peel 1 3 Z rfl
 have hle:=hI.le
 have hfit:=hI.fits
 have hr0:=hI.r0
 have hr1:=hI.r1
 obtain ⟨F,G⟩:=G.nM [0] [3,2,0]
 refine Ya (rZ G (qC qZ) V [2,0] [3,2,0] fun G=>Ya ?_)
 refine rZ G (qC qZ) V [3,2,0] [3,2,0] fun G=>(Ya (Ya ?_))
 refine rZ G (qR rr (qf (Zh3 (cells:=[.pv _,.pv _,.pv _,.pv _]) 2 (Zk1 room l.length _ _) (fun _ _ _ _ _ h=>h) Z func248 Z kr (Zae.one .is)) r1 r1 (qJ qZ))) V [7,6,3,2,0] [3,2,0] fun G=>Yg ?_
 replace G:=G.fresh 50 rfl
 replace G:=G.turn 50 Z (ZaC (T:=3) (sz:=1) (R:=Zn))
 refine Zk (σ:=(Nat)×(Value)×(List Int)) [0,2,6] [0,2,3] (fun s=>[(7,.pv (.int .i64 (s.1:Int))),(3,.pv (.is s.2.1))]) (fun s=>[(50,.ob (.val s.2.1) (Zx 3 1 Zn s.2.2))]) (fun s=>s.1≤l.length∧(s.2.2=l.take s.1)) (fun s=>l.length - s.1) ((0),(.slice none 0 0),([])) G ⟨rfl,rfl,rfl,rfl,rfl,tv⟩ ⟨rfl,rfl,rfl,rfl,tv⟩ ⟨Yw _,rfl⟩ ?_
 clear G;intro s a w F hC G
 obtain ⟨i,v,out⟩:=s
 try dsimp only at hC
 obtain ⟨F,G⟩:=G.nM [7,6,3,2,0] [50,3,2,0]
 try dsimp only at G
 obtain ⟨hi,hq⟩:=hC
 have hol:out.length≤i:=by rw [hq,Yi];omega
 refine Ya (rZ G (qL r2) V [8,7,6,3,2,0] [50,3,2,0] fun G=>Ya ?_)
 refine Zc G Z (fun hc0=>?_) (fun hc0=>?_)
 ·have hil:i<l.length:=by simp at hc0;omega
  have hil2:i<l.length:=by simp at hc0;omega
  have hmi:(f+i) % c.length<c.length:=Ybs _ ow
  have hnl:Nn c ((f+i) % c.length)=Nn l i:=hI.cells i hil2
  refine Ye (Za (Ya (Yg (Ya (rZ G (qR rr (qO rr qZ)) V [7,6,4,3,2,0] [50,3,2,0] fun G=>?_)))))
  refine ZaM G (qR rr (qR rr (qf (o_nilCheck 2 .is (by rfl)) r1 r1 (qf (oF 1 2 .adr) r1 r1 (qa 2 r1 r1 (qR rr (qR rr (qf (ZbX (cells:=[.pv _,.pv (.is rv),.pv _,.pv _]) 2 3 1 (Zdc c room l.length f i (i:Int) Z (hI.ring ow).1 (hI.ring ow).2 ow) (fun _ _ _ _ _ h=>h) Z func230 Z kr Z Z (Zae.two .is .t)) r2 r2 (qf (o_indexAddr_row (sz:=1) 3 (.mk Ycf kr) .is .t ow ow (by rfl)) r2 r1 (qf (Zu (ag:=false) (sz':=1) (sz:=1) 3 .t (by intro x;rfl) ow kr kr kr) r1 r1 (qf (o_buildSliceE (sz:=1) (zs:=[.int .i64 0]) (r:=[(0,.tmp 19)]) (l:=[_]) Ycf kr kr kr kr Z Z (.one Z .t one_int kr .nil) Z) r1 qz (qf (ZV (sz:=1) (bs:=8) 50 (.mk' Ycf kr kr) (by intro x;rfl) .is (.arr (l':=[_]) .t) (by simp only [Yl,Yy];omega) (by decide)) ⟨rfl,rfl,tv⟩ ⟨rfl,tv⟩ (qO rr qZ))))))))))))) V [7,6,3,2,0] [50,3,2,0] (fun _=>rfl) (fun _=>rfl) fun τ a w F G=>?_
  try dsimp only [RS.sub,SF.sub,CF.sub,csub,Anc.sub,List.map,Zf,xL,xM,Nat.reduceAdd,xD,xE,xT,xU,xC,xN,zCF,ldSF,Zn] at G
  generalize τ 21=v21 at G
  try simp only [Yb] at G
  refine Zi (Za (rZ G (qp r1 (qR rr qZ)) V [7,6,3,2,0] [50,3,2,0] fun G=>?_))
  replace G:=G.ent (i:=7) (s':=.pv (.int .i64 ((i+1:Nat):Int))) Z (.int (Zd ow))
  obtain ⟨F,G⟩:=G.nM [6,2,0,3,7] [3,2,0,50]
  exact ⟨((i+1),_,_),F,⟨by omega,(by rw [hq,hnl,Zp hil])⟩,G,by omega⟩
 have hil:i=l.length:=by simp at hc0;omega
 refine Yx (Zj (Zj (Zo (Za (Ya (rZ G (qR rr (qO rr qZ)) V [2] [50,3,2,0] fun G=>Yh ?_))))))
 obtain ⟨F,G⟩:=G.give 50 2 Z rfl
 have G:=G.fresh 1 rfl
 obtain ⟨F,G⟩:=G.push 1 3 Z Z Z kr
 obtain ⟨F,G⟩:=G.push 1 2 Z Z Z kr
 have G:=G.turn 1 Z (r':=RS.hp (rqH (.pointer (some ⟨b,0,none⟩)) room l)) (fun _ _ _ _ h=>⟨_,_,_,hI,h⟩)
 refine Zad hG G Z (.tmp Z .nil) (.one (.sl (by rw [hq,hil,YA]))) rfl
theorem Zon (n:Int):FnG prog 206 1 [.int .i64 n] [.star []] (PV.ptr) (fun v=>[rqH v (ZbW n) []]):=by
 refine FnG.mk func206 Z ntmps206 Z kr fun B F0 a w F V hG G=>Ya ?_
 refine rZ G (qC qZ) V [2,0] [1,0] fun G=>Ya ?_
 refine Zb G (qR rr (qf (oP (Zlh n) func199 (Args.one .t)) r1 qz (qf (oB [(0,.tmp 4)] [.int .i64 0,.slice none 0 0,.int .u64 0,.int .i64 0] [(0,1),(1,1),(2,1),(3,1)] (.one Z .t one_int kr .nil)) r1 qz (qf (oX 101 .t) r1 qz (qO rr qZ))))) V [2] [101,1,0] (fun _=>rfl) (fun _=>rfl) fun τ a w F G=>?_
 try dsimp only [RS.sub,SF.sub,CF.sub,csub,Anc.sub,List.map,Zf,xL,xM,Nat.reduceAdd,xD,xE,xT,xU,xC,xN,zCF,Zn] at G
 generalize τ 6=v6 at G
 refine Za (Yh ?_)
 obtain ⟨b,rfl⟩:=G.shape 101 rfl
 have G:=G.fresh 3 rfl
 have G:=G.turn 3 Z (ZaC (T:=3) (sz:=1) (R:=Zn))
 obtain ⟨F,G⟩:=G.push 1 3 Z Z Z kr
 obtain ⟨F,G⟩:=G.push 1 101 Z Z Z kr
 have G:=G.turn 1 Z (r':=RS.hp (rqH (.pointer (some ⟨b,0,none⟩)) (ZbW n) [])) (fun _ _ _ _ h=>⟨_,[],0,ZgL.new (Zpa n),h⟩)
 refine Z1 (h':=fun v=>rqH v (ZbW n) []) hG G Z (.tmp Z .nil) (.one .ptr) rfl
theorem ZnR (c:List Int) (room:Int) (f:Nat) (x:Int) (l:List Int) (hI:ZgL room c f (x :: l)):FnP prog 231 [.ref [.int .i64 room,.sl Zn c,.int .u64 (f:Int),.int .i64 (((x :: l).length:Nat):Int)]] (.tup [.int .i64 x,.bool true]):=by
 refine FnP.mk func231 Z ntmps231 Z fun B a w F V hfr G=>?_
 have hle:=hI.le
 rw [Yl] at hle
 have hmi:(f+0) % c.length<c.length:=Ybs _ ow
 refine Ya (rZ G (qI qB) V [3,2,0] [0] fun G=>(Ya (Ya ?_)))
 refine rZ G (qR rr (qf (oP (Zk1 room _ _ _) func248 (Args.one .t)) r1 qz (qf (o_eql .t qi) r1 qz qZ))) V [6,3,2,0] [0] fun G=>?_
 refine Zc G Z (fun hc0=>?_) (fun hc0=>?_)
 ·simp at hc0;try omega
 refine Ye (Za (Ya (Zw G (qR rr (qf (ZD .t) r1 qz (qf (oG 1 .t) r1 qz (qf (oR false 1 .t) r1 qz (qR rr (qf (oP (Zdc c room (x :: l).length f 0 0 Z (hI.ring ow).1 (hI.ring ow).2 ow) func230 (Args.two .t qi)) r1 qz (qy 1 Ycf r2 (qf (oR false 1 .t) r1 qz (qO rr qB))))))))) V [3,2] [0] Z Z fun a w F G=>?_)))
 try dsimp only [List.map,xD,xE,xT,xU,ldSF,Zn] at G
 try simp only [Yb] at G
 try simp only [Yb] at G
 rw [hI.first] at G
 refine Za (Yh (Zaa hfr G Z (.tmp Z (.tmp Z .nil)) (.two .refl .refl)))
theorem Znf (room:Int) (p q:PV):FnP prog 231 [.ref [.int .i64 room,p,q,.int .i64 0]] (.tup [.int .i64 0,.bool false]):=by
 refine FnP.mk func231 Z ntmps231 Z fun B a w F V hfr G=>Ya ?_
 refine rZ G (qI qB) V [3,2,0] [0] fun G=>(Ya (Ya ?_))
 refine rZ G (qR rr (qf (oP (Zk1 room _ _ _) func248 (Args.one .t)) r1 qz (qf (o_eql .t qi) r1 qz qZ))) V [6,3,2,0] [0] fun G=>?_
 refine Zc G Z (fun hc0=>?_) (fun hc0=>?_)
 ·refine Ya (rZ G (qI qB) V [3,2,0] [0] fun G=>(Yh (Zl ?_)))
  refine Zaa hfr G Z (.tmp Z (.tmp Z .nil)) (.two .refl .refl)
 simp at hc0
theorem ZsD (b:Nat) (room:Int) (x:Int) (l:List Int):FnG prog 208 1 [.is (.pointer (some ⟨b,0,none⟩))] [rqH (.pointer (some ⟨b,0,none⟩)) room (x :: l)] (.tup [.int .i64 x,.bool true]) (fun _=>[rqH (.pointer (some ⟨b,0,none⟩)) room l]):=by
 refine FnG.mk func208 Z ntmps208 Z kr fun B F0 a w F V hG G=>?_
 obtain ⟨rv,G⟩:=G.open_ex 1 rfl
 obtain ⟨c,G⟩:=G.open_ex 1 rfl
 obtain ⟨f,G⟩:=G.open_ex 1 rfl
 obtain ⟨hI,G⟩:=G.open_and 1 rfl
 obtain ⟨F,G⟩:=G.peel 1 2 Z rfl
 obtain ⟨F,G⟩:=G.peel 1 3 Z rfl
 have hle:=hI.le
 have hfit:=hI.fits
 have hr0:=hI.r0
 have hr1:=hI.r1
 obtain ⟨F,G⟩:=G.nM [0] [3,2,0]
 rw [Yl] at hle hfit
 have hw1:IntKind.wrap .i64 ((((x :: l).length:Nat):Int) - 1)=((l.length:Nat):Int):=by rw [Yl,ZA ow];omega
 refine Ya (rZ G (qI qB) V [3,2,0] [3,2,0] fun G=>Ya ?_)
 refine rZ G (qR rr (qf (ZbX (cells:=[.pv _,.pv (.is rv),.pv _,.pv _]) 2 3 1 (ZnR c room f x l hI) Zij Z func231 Z kr Z Z (Zae.one .is)) r1 r2 (qR rr (qf (Zh .t Z) r1 qz (qf (Zh .t Z) r1 qz (qO rr (qO rr qZ))))))) V [5,4,3,2,0] [3,2,0] fun G=>(Ya (Ya ?_))
 refine rZ G (qR rr qZ) V [11,5,4,3,2,0] [3,2,0] fun G=>?_
 refine Zc G Z (fun hc0=>?_) (fun hc0=>?_)
 ·refine Ya (rZ G (qR rr (qR rr (qf (ZbX (cells:=[.pv _,.pv (.is rv),.pv _,.pv _]) 2 3 1 (Zdc c room (x :: l).length f 1 1 Z (hI.ring ow).1 (hI.ring ow).2 ow) (fun _ _ _ _ _ h=>h) Z func230 Z kr Z Z (Zae.two .is qi)) r1 r2 (qf (o_nilCheck 2 .is (by rfl)) r1 r1 (qf (oF 2 2 .adr) r1 r1 (qf (Za3 2 .adr .t one_int kr kr) r2 r1 qZ)))))) V [5,4,3,2,0] [3,2,0] fun G=>?_)
  refine Ze G (qR rr (qf (o_nilCheck 2 .is (by rfl)) r1 r1 (qf (oF 3 2 .adr) r1 r1 (qa 2 r1 r1 (qf (o_sub .t qi) r1 qz (qf (o_nilCheck 2 .is (by rfl)) r1 r1 (qf (oF 3 2 .adr) r1 r1 (qf (Za3 2 .adr .t one_int kr kr) r2 r1 qZ)))))))) V [5,4,3,2] [3,2,0] Z Z fun a w F G=>?_
  rw [hw1] at G
  refine Za (Ya (rZ G (qR rr (qR rr (qO rr (qO rr qZ)))) V [3,2] [3,2,0] fun G=>Yh ?_))
  have G:=G.fresh 1 rfl
  obtain ⟨F,G⟩:=G.push 1 3 Z Z Z kr
  obtain ⟨F,G⟩:=G.push 1 2 Z Z Z kr
  have G:=G.turn 1 Z (r':=RS.hp (rqH (.pointer (some ⟨b,0,none⟩)) room l)) (fun _ _ _ _ h=>⟨_,_,_,hI.tail,h⟩)
  refine Zad hG G Z (.tmp Z (.tmp Z .nil)) (.two .refl .refl) rfl
 simp at hc0
theorem Zr6 (b:Nat) (room:Int):FnG prog 208 1 [.is (.pointer (some ⟨b,0,none⟩))] [rqH (.pointer (some ⟨b,0,none⟩)) room []] (.tup [.int .i64 0,.bool false]) (fun _=>[rqH (.pointer (some ⟨b,0,none⟩)) room []]):=by
 refine FnG.mk func208 Z ntmps208 Z kr fun B F0 a w F V hG G=>?_
 obtain ⟨rv,G⟩:=G.open_ex 1 rfl
 obtain ⟨c,G⟩:=G.open_ex 1 rfl
 obtain ⟨f,G⟩:=G.open_ex 1 rfl
 obtain ⟨hI,G⟩:=G.open_and 1 rfl
 obtain ⟨F,G⟩:=G.peel 1 2 Z rfl
 obtain ⟨F,G⟩:=G.peel 1 3 Z rfl
 have hle:=hI.le
 have hfit:=hI.fits
 have hr0:=hI.r0
 have hr1:=hI.r1
 obtain ⟨F,G⟩:=G.nM [0] [3,2,0]
 refine Ya (rZ G (qI qB) V [3,2,0] [3,2,0] fun G=>Ya ?_)
 refine rZ G (qR rr (qf (Zh3 (cells:=[.pv _,.pv _,.pv _,.pv _]) 2 (Znf room _ _) Zij Z func231 Z kr (Zae.one .is)) r1 r1 (qR rr (qf (Zh .t Z) r1 qz (qf (Zh .t Z) r1 qz (qO rr (qO rr qZ))))))) V [5,4,3,2,0] [3,2,0] fun G=>(Ya (Ya ?_))
 refine rZ G (qR rr qZ) V [11,5,4,3,2,0] [3,2,0] fun G=>?_
 refine Zc G Z (fun hc0=>?_) (fun hc0=>?_)
 ·simp at hc0
 refine Ye (Za (Ya (rZ G (qR rr (qR rr (qO rr (qO rr qZ)))) V [3,2] [3,2,0] fun G=>Yh ?_)))
 have G:=G.fresh 1 rfl
 obtain ⟨F,G⟩:=G.push 1 3 Z Z Z kr
 obtain ⟨F,G⟩:=G.push 1 2 Z Z Z kr
 have G:=G.turn 1 Z (r':=RS.hp (rqH (.pointer (some ⟨b,0,none⟩)) room [])) (fun _ _ _ _ h=>⟨_,_,_,hI,h⟩)
 refine Zad hG G Z (.tmp Z (.tmp Z .nil)) (.two .refl .refl) rfl
theorem ZiA (b:Nat) (room:Int) (l:List Int):FnG prog 208 1 [.is (.pointer (some ⟨b,0,none⟩))] [rqH (.pointer (some ⟨b,0,none⟩)) room l] (.tup [.int .i64 (l.headD 0),.bool (decide (l≠[]))]) (fun _=>[rqH (.pointer (some ⟨b,0,none⟩)) room l.tail]):=by
 cases l with
 | nil=>exact Zr6 b room
 | cons x l=>exact ZsD b room x l
theorem ZcJ (b:Nat) (room:Int) (l:List Int) (x:Int) (hrm:(l.length:Int)<room):FnG prog 207 1 [.is (.pointer (some ⟨b,0,none⟩)),.int .i64 x] [rqH (.pointer (some ⟨b,0,none⟩)) room l] (.int .i64 0) (fun _=>[rqH (.pointer (some ⟨b,0,none⟩)) room (l ++ [x])]):=by
 refine FnG.mk func207 Z ntmps207 Z kr fun B F0 a w F V hG G=>?_
 obtain ⟨rv,G⟩:=G.open_ex 1 rfl
 obtain ⟨c,G⟩:=G.open_ex 1 rfl
 obtain ⟨f,G⟩:=G.open_ex 1 rfl
 obtain ⟨hI,G⟩:=G.open_and 1 rfl
 obtain ⟨F,G⟩:=G.peel 1 2 Z rfl
 obtain ⟨F,G⟩:=G.peel 1 3 Z rfl
 have hle:=hI.le
 have hfit:=hI.fits
 have hr0:=hI.r0
 have hr1:=hI.r1
 obtain ⟨F,G⟩:=G.nM [1,0] [3,2,0]
 refine Ya (rZ G (qI qZ) V [4,1,0] [3,2,0] fun G=>(Ya (Ya ?_)))
 refine rZ G (qR rr (qf (Zh3 (cells:=[.pv _,.pv _,.pv _,.pv _]) 2 (Zsh room l.length _ _ ⟨hr0,hr1⟩ ow) (fun _ _ _ _ _ h=>h) Z func228 Z kr (Zae.one .is)) r1 r1 (qf (o_eql .t qi) r1 qz qZ))) V [8,4,1,0] [3,2,0] fun G=>?_
 refine Zc G Z (fun hc0=>?_) (fun hc0=>?_)
 ·simp at hc0;omega
 refine Ye (Za (Ya (Ya (Zw G (qR rr (qf (o_nilCheck 2 .is (by rfl)) r1 r1 (qf (oF 3 2 .adr) r1 r1 (qa 2 r1 r1 (qR rr (qf (o_nilCheck 2 .is (by rfl)) r1 r1 (qf (oF 1 2 .adr) r1 r1 (qa 2 r1 r1 (qf (ZQ 3 Ycf .is) r1 r1 (qf (o_eql .t .t) r2 qz qZ)))))))))) V [18,4,1,0] [3,2,0] Z Z fun a w F G=>?_))))
 try dsimp only [List.map,xD,xE,xT,xU,ldSF,Zn] at G
 refine Za (Zc G Z (fun hc1=>?_) (fun hc1=>?_))
 ·have hcl:l.length=c.length:=by simp at hc1;omega
  have hp2:=Zr1 (n:=c.length) ow hI.pow0
  rw [← hcl] at hp2
  clear hcl
  have hgl:l.length<growN l.length:=by unfold growN;split <;> omega
  refine Ya ?_
  have G:=G.fresh 1 rfl
  obtain ⟨F,G⟩:=G.push 1 3 Z Z Z kr
  obtain ⟨F,G⟩:=G.push 1 2 Z Z Z kr
  have G:=G.turn 1 Z (r':=RS.hp (rqH (.pointer (some ⟨b,0,none⟩)) room l)) (fun _ _ _ _ h=>⟨_,_,_,hI,h⟩)
  obtain ⟨F,G⟩:=G.nM [18,4,1,0] [1,0]
  refine Ze G (qR rr (qf (ZK 1 (Zsc b room l) func229 Z kr (Args.one .t)) r1 r1 (qO rr qZ))) V [5,4,1,0] [1,0] Z Z fun a w F G=>?_
  obtain ⟨rv,G⟩:=G.open_ex 1 rfl
  obtain ⟨c,G⟩:=G.open_ex 1 rfl
  obtain ⟨f,G⟩:=G.open_ex 1 rfl
  obtain ⟨hI,G⟩:=G.open_and 1 rfl
  obtain ⟨F,G⟩:=G.peel 1 2 Z rfl
  obtain ⟨F,G⟩:=G.peel 1 3 Z rfl
  obtain ⟨F,G⟩:=G.nM [5,4,1,0] [3,2,0]
  refine Za (Ya (Zb G (qR rr (qR rr (qR rr (qf (o_nilCheck 2 .is (by rfl)) r1 r1 (qf (oF 3 2 .adr) r1 r1 (qa 2 r1 r1 (qf (o_shl .t qi (by decide)) r1 qz (qf (ZqC qi .t) r1 qz (qf (ZaG (R:=Zn) (v:=0) (c:=_) (sz:=1) (bs:=8) (zs:=[.int .i64 0]) 101 Ycf kr kr kr (fun _ _=>⟨⟨rfl,rfl,ZcV⟩,tv⟩) .t .t (by rw [ZhT ow];omega) (by rw [ZhT ow];unfold growN;split <;> omega) (by rw [ZhT ow];unfold growN;split <;> omega)) r2 qz (qf (o_nilCheck 2 .is (by rfl)) r1 r1 (qf (oF 1 2 .adr) r1 r1 (qf (o_storeS 2 .adr kr kr) r2 r1 (qf (o_nilCheck 2 .is (by rfl)) r1 r1 (qf (oF 2 2 .adr) r1 r1 (qf (Za3 2 .adr qi one_int kr kr) r1 r1 qZ))))))))))))))) V [5,4,1,0] [101,3,2,0] (fun _=>rfl) (fun _=>rfl) fun τ a w F G=>?_))
  try dsimp only [RS.sub,SF.sub,CF.sub,csub,Anc.sub,List.map,Zf,xL,xM,Nat.reduceAdd,xD,xE,xT,xU,xC,xN,zCF,ldSF,Zn] at G
  generalize τ 29=v29 at G
  rw [ZhT ow,Yb] at G
  refine Za (Ze G (qR rr (qf (o_nilCheck 2 .is (by rfl)) r1 r1 (qf (oF 1 2 .adr) r1 r1 (qa 2 r1 r1 (qR rr (qf (ZmF 101 Ycf kr (by intro x;rfl) .t .t (by rw [Y0];unfold growN;split <;> omega)) r2 r1 qZ)))))) V [4,1,0] [101,3,2,0] Z Z fun a w F G=>?_)
  obtain ⟨c2,hce⟩:∃ c2,c2=l++(List.replicate (growN l.length) (0:Int)).drop l.length:=⟨_,rfl⟩
  rw [← hce] at G
  have hcl2:c2.length=growN l.length:=by rw [hce,Yd,YE,Y0];omega
  have hc2:l.length<c2.length:=by rw [hcl2];exact hgl
  have ht2:c2.take l.length=l:=by rw [hce,List.take_left]
  rw [← hcl2] at hp2
  have hR:ZgL room c2 0 l:=ZgL.grow hr0 hr1 hfit (Nat.le_of_lt hc2) ht2 hp2
  have hP:=hR.put (x:=x) hrm hc2
  have hmi:(0+l.length) % c2.length<c2.length:=Ybs _ ow
  refine Za (Ya (Zw G (qR rr (qf (o_nilCheck 2 .is (by rfl)) r1 r1 (qf (oF 1 2 .adr) r1 r1 (qa 2 r1 r1 (qR rr (qR rr (qf (o_nilCheck 2 .is (by rfl)) r1 r1 (qf (oF 3 2 .adr) r1 r1 (qa 2 r1 r1 (qf (ZbX (cells:=[.pv _,.pv (.is v29),.pv _,.pv _]) 2 101 1 (Zdc c2 room l.length 0 l.length (l.length:Int) Z hp2 ow ow) (fun _ _ _ _ _ h=>h) Z func230 Z kr Z Z (Zae.two .is .t)) r2 r2 (qR rr (qf (o_indexAddr_row (sz:=1) 101 (.mk Ycf kr) .is .t ow ow (by rfl)) r2 r1 (qf (ZJ (R:=Zn) (sz:=1) (v:=x) 101 .t (by intro x;rfl) ow .t Z one_int kr) r2 r1 qZ))))))))))))) V [4,0] [101,3,2,0] Z Z fun a w F G=>?_))
  try dsimp only [List.map,Zf,xL,xM,Nat.reduceAdd,xD,xE,xT,xU,xC,xN,zCF,ldSF,Zn] at G
  try simp only [Yb] at G
  try rw [Yb] at G
  refine Za (Ya (rZ G (qR rr (qf (o_nilCheck 2 .is (by rfl)) r1 r1 (qf (oF 3 2 .adr) r1 r1 (qa 2 r1 r1 (qp r1 (qf (o_nilCheck 2 .is (by rfl)) r1 r1 (qf (oF 3 2 .adr) r1 r1 (qf (Za3 2 .adr .t one_int kr kr) r2 r1 qZ)))))))) V [4] [101,3,2,0] fun G=>Ya ?_))
  refine rZ G (qI qZ) V [4] [101,3,2,0] fun G=>Yh ?_
  rw [Zd ow] at G
  have G:=G.fresh 1 rfl
  obtain ⟨F,G⟩:=G.push 1 101 Z Z Z kr
  obtain ⟨F,G⟩:=G.push 1 2 Z Z Z kr
  have G:=G.turn 1 Z (r':=RS.hp (rqH (.pointer (some ⟨b,0,none⟩)) room (l ++ [x]))) (fun _ _ _ _ h=>⟨_,_,0,hP,(by rw [Yd];exact h)⟩)
  refine Zad hG G Z (.tmp Z .nil) (.one .refl) rfl
 have hc2:l.length<c.length:=by simp at hc1;omega
 obtain ⟨c2,hce⟩:∃ c2,c2=c:=⟨_,rfl⟩
 rw [← hce] at G hc2
 have hR:ZgL room c2 f l:=by rw [hce];exact hI
 obtain ⟨hp2,hf2⟩:=hR.ring ow
 have hP:=hR.put (x:=x) hrm hc2
 have hmi:(f+l.length) % c2.length<c2.length:=Ybs _ ow
 refine Ye (Za (Ya (Zw G (qR rr (qf (o_nilCheck 2 .is (by rfl)) r1 r1 (qf (oF 1 2 .adr) r1 r1 (qa 2 r1 r1 (qR rr (qR rr (qf (o_nilCheck 2 .is (by rfl)) r1 r1 (qf (oF 3 2 .adr) r1 r1 (qa 2 r1 r1 (qf (ZbX (cells:=[.pv _,.pv (.is rv),.pv _,.pv _]) 2 3 1 (Zdc c2 room l.length f l.length (l.length:Int) Z hp2 ow ow) (fun _ _ _ _ _ h=>h) Z func230 Z kr Z Z (Zae.two .is .t)) r2 r2 (qR rr (qf (o_indexAddr_row (sz:=1) 3 (.mk Ycf kr) .is .t ow ow (by rfl)) r2 r1 (qf (ZJ (R:=Zn) (sz:=1) (v:=x) 3 .t (by intro x;rfl) ow .t Z one_int kr) r2 r1 qZ))))))))))))) V [4,0] [3,2,0] Z Z fun a w F G=>?_)))
 try dsimp only [List.map,Zf,xL,xM,Nat.reduceAdd,xD,xE,xT,xU,xC,xN,zCF,ldSF,Zn] at G
 try simp only [Yb] at G
 try rw [Yb] at G
 refine Za (Ya (rZ G (qR rr (qf (o_nilCheck 2 .is (by rfl)) r1 r1 (qf (oF 3 2 .adr) r1 r1 (qa 2 r1 r1 (qp r1 (qf (o_nilCheck 2 .is (by rfl)) r1 r1 (qf (oF 3 2 .adr) r1 r1 (qf (Za3 2 .adr .t one_int kr kr) r2 r1 qZ)))))))) V [4] [3,2,0] fun G=>Ya ?_))
 refine rZ G (qI qZ) V [4] [3,2,0] fun G=>Yh ?_
 rw [Zd ow] at G
 have G:=G.fresh 1 rfl
 obtain ⟨F,G⟩:=G.push 1 3 Z Z Z kr
 obtain ⟨F,G⟩:=G.push 1 2 Z Z Z kr
 have G:=G.turn 1 Z (r':=RS.hp (rqH (.pointer (some ⟨b,0,none⟩)) room (l ++ [x]))) (fun _ _ _ _ h=>⟨_,_,f,hP,(by rw [Yd];exact h)⟩)
 refine Zad hG G Z (.tmp Z .nil) (.one .refl) rfl
theorem ZbU.prev {n:Nat} {E:List Zy} {O I:List (List Z7)} (h:ZbU n E O I) (mask u:Int):ZdA (adjO I mask u) ∧ ∀ v,v ∈ adjO I mask u ↔ ∃ x ∈ E,x.dst=u∧ofB mask x.kind=true∧x.src=v:=by
 by_cases hu:0≤u∧u<I.length
 ·unfold adjO
  rw [Yf hu]
  refine ⟨(ZW _).1,fun v=>?_⟩
  rw [(ZW _).2,Yu]
  constructor
  ·rintro ⟨e,h1,h2⟩
   obtain ⟨h3,h4⟩:=YU.1 h1
   obtain ⟨x,x1,x2,rfl⟩:=(h.im u.toNat (by have:=h.il;omega) e).1 h3
   exact ⟨x,x1,by omega,h4,h2⟩
  ·rintro ⟨x,x1,x2,x3,x4⟩
   exact ⟨endI x,YU.2 ⟨(h.im u.toNat (by have:=h.il;omega) _).2 ⟨x,x1,by omega,rfl⟩,x3⟩,x4⟩
 ·unfold adjO
  rw [Yc hu]
  refine ⟨List.Pairwise.nil,fun v=>⟨fun k=>(by cases k),?_⟩⟩
  rintro ⟨x,x1,x2,_⟩
  have:=(ZP.1 (h.ok x x1)).2.1
  have:=h.il
  exact absurd ⟨by omega,by omega⟩ hu
theorem ZbU.prevR {n:Nat} {E:List Zy} {O I:List (List Z7)} (h:ZbU n E O I) (mask:Int):(∀ x,∀ u ∈ adjO I mask x,0≤u∧u<(n:Int)) ∧ ∀ x,(adjO I mask x).length≤n:=by
 have h1:∀ x,∀ u ∈ adjO I mask x,0≤u∧u<(n:Int):=fun x u hu=>by
  obtain ⟨y,y1,_,_,y4⟩:=((h.prev mask x).2 u).1 hu
  have:=(ZP.1 (h.ok y y1)).1
  omega
 exact ⟨h1,fun x=>ZdM ((h.prev mask x).1.imp fun h=>by omega) (h1 x)⟩
inductive Zfp (prev:Int→List Int) (least t:Int):Nat→Int→Prop
 | zero:Zfp prev least t 0 t
 | step {k:Nat} {u x:Int} (h:u ∈ prev x) (hl:least≤u) (r:Zfp prev least t k x):Zfp prev least t (k+1) u
def Zds (n:Nat) (prev:Int→List Int) (least t:Int) (d:List Int):Prop:=d.length=n ∧ ∀ u:Nat,u<n→(Nn d u = -1 ∧ ∀ k,¬ Zfp prev least t k u) ∨ ∃ k:Nat,Nn d u=k∧Zfp prev least t k u ∧ ∀ j,Zfp prev least t j u→k≤j
structure Zoo (n:Nat) (prev:Int→List Int) (least t:Int) (d q:List Int):Prop where
 len:d.length=n
 start:0≤t∧t<n∧fI d t=0
 neg:∀ u:Int,0≤u→u<n → -1≤fI d u
 qd:∀ x ∈ q,0≤x∧x<n∧0≤fI d x
 nd:q.Nodup
 sound:∀ u:Int,0≤u→u<n→0≤fI d u→Zfp prev least t (fI d u).toNat u
 sort:q.Pairwise fun a b=>fI d a≤fI d b
 near:∀ x,q.head? = some x→(∀ y ∈ q,fI d y≤fI d x+1) ∧ ∀ u:Int,0≤u→u<n→u ∉ q→fI d u≤fI d x
 clos:∀ x:Int,0≤x→x<n→0≤fI d x→x ∉ q → ∀ u ∈ prev x,least≤u→0≤fI d u∧fI d u≤fI d x+1
structure ZnD (n:Nat) (prev:Int→List Int) (least t:Int) (d q:List Int) (x:Int) (done:List Int):Prop where
 len:d.length=n
 start:0≤t∧t<n∧fI d t=0
 neg:∀ u:Int,0≤u→u<n → -1≤fI d u
 qd:∀ x ∈ q,0≤x∧x<n∧0≤fI d x
 nd:q.Nodup
 sound:∀ u:Int,0≤u→u<n→0≤fI d u→Zfp prev least t (fI d u).toNat u
 sort:q.Pairwise fun a b=>fI d a≤fI d b
 here:0≤x∧x<n∧0≤fI d x∧x ∉ q
 near:(∀ y ∈ q,fI d x≤fI d y∧fI d y≤fI d x+1) ∧ ∀ u:Int,0≤u→u<n→u ∉ q→fI d u≤fI d x
 clos:∀ z:Int,0≤z→z<n→z≠x→0≤fI d z→z ∉ q → ∀ u ∈ prev z,least≤u→0≤fI d u∧fI d u≤fI d z+1
 seen:∀ u ∈ done,least≤u→0≤fI d u∧fI d u≤fI d x+1
section
variable {n:Nat} {prev:Int→List Int} {least t:Int} {d q:List Int} {x:Int} {seen:List Int}
theorem Zoo.first (ht:0≤t∧t<n):Zoo n prev least t ((List.replicate n (-1)).set t.toNat 0) [t]:=by
 have e:fI ((List.replicate n (-1)).set t.toNat 0)=ZcT (fI (List.replicate n (-1))) t 0:=ZcL (by simpa using ht)
 have e2:∀ u:Int,0≤u→u<n→fI (List.replicate n (-1)) u = -1:=fun u h1 h2=>by
  rw [ZaN h1,nth_eq (by simp;omega)];simp
 have e3:∀ u:Int,0≤u→u<n→u≠t→fI ((List.replicate n (-1)).set t.toNat 0) u = -1:=fun u h1 h2 h3=>by rw [e,ZaB h3];exact e2 u h1 h2
 have e4:fI ((List.replicate n (-1)).set t.toNat 0) t=0:=by rw [e,ZO]
 refine ⟨by simp,⟨ht.1,ht.2,e4⟩,fun u h1 h2=>?_,fun z hz=>?_,by simp,fun u h1 h2 h3=>?_,by simp,fun z hz=>?_,fun z h1 h2 h3 h4=>?_⟩
 ·by_cases h:u=t
  ·rw [h,e4];omega
  ·rw [e3 u h1 h2 h];omega
 ·rw [Yk.1 hz];exact ⟨ht.1,ht.2,by rw [e4];omega⟩
 ·by_cases h:u=t
  ·rw [h,e4];exact .zero
  ·rw [e3 u h1 h2 h] at h3;omega
 ·have hz:t=z:=by simpa using hz
  subst hz
  refine ⟨fun y hy=>by rw [Yk.1 hy];omega,fun u h1 h2 h3=>?_⟩
  rw [e3 u h1 h2 (by simpa using h3),e4];omega
 ·have h5:z≠t:=by simpa using h4
  rw [e3 z h1 h2 h5] at h3;omega
theorem Zoo.pop (h:Zoo n prev least t d (x :: q)):ZnD n prev least t d q x []:=by
 have hx:=h.qd x (by simp)
 obtain ⟨n1,n2⟩:=h.near x rfl
 have hnd:=Ybm.1 h.nd
 have hs:=Yo.1 h.sort
 refine ⟨h.len,h.start,h.neg,fun z hz=>h.qd z (by simp [hz]),hnd.2,h.sound,hs.2,⟨hx.1,hx.2.1,hx.2.2,hnd.1⟩,⟨fun y hy=>⟨hs.1 y hy,n1 y (by simp [hy])⟩,fun u h1 h2 h3=>?_⟩,fun z h1 h2 h3 h4 h5=>h.clos z h1 h2 h4 (by simp [h3,h5]),by simp⟩
 by_cases e:u=x
 ·rw [e];exact Yap _
 ·exact n2 u h1 h2 (by simp [e,h3])
theorem ZnD.skip {u:Int} (h:ZnD n prev least t d q x seen) (hu:0≤u∧u<n) (hs:least≤u→0≤fI d u):ZnD n prev least t d q x (seen ++ [u]):=by
 refine ⟨h.len,h.start,h.neg,h.qd,h.nd,h.sound,h.sort,h.here,h.near,h.clos,fun z hz hl=>?_⟩
 rcases YB.1 hz with hz | hz
 ·exact h.seen z hz hl
 ·rw [Yk.1 hz] at hl ⊢
  refine ⟨hs hl,?_⟩
  by_cases hq:u ∈ q
  ·exact (h.near.1 u hq).2
  ·have:=h.near.2 u hu.1 hu.2 hq;omega
theorem ZnD.put {u:Int} (h:ZnD n prev least t d q x seen) (hu:0≤u∧u<n) (hp:u ∈ prev x) (hl:least≤u) (h0:fI d u<0):ZnD n prev least t (d.set u.toNat (fI d x+1)) (q ++ [u]) x (seen ++ [u]):=by
 have hx:=h.here
 have e:fI (d.set u.toNat (fI d x+1))=ZcT (fI d) u (fI d x+1):=ZcL (by rw [h.len];exact hu)
 have eu:fI (d.set u.toNat (fI d x+1)) u=fI d x+1:=by rw [e,ZO]
 have ne:∀ {z:Int},z≠u→fI (d.set u.toNat (fI d x+1)) z=fI d z:=fun hz=>by rw [e,ZaB hz]
 have hxu:x≠u:=fun k=>by rw [k] at hx;omega
 have huq:u ∉ q:=fun k=>by have:=(h.qd u k).2.2;omega
 have hqu:∀ z ∈ q,z≠u:=fun z hz k=>huq (k ▸ hz)
 have htu:t≠u:=fun k=>by have:=h.start.2.2;rw [k] at this;omega
 have hd0:∀ z:Int,z≠u→fI (d.set u.toNat (fI d x+1)) z=fI d z:=fun z hz=>ne hz
 refine ⟨by simp [h.len],⟨h.start.1,h.start.2.1,by rw [ne htu];exact h.start.2.2⟩,fun z h1 h2=>?_,fun z hz=>?_,?_,fun z h1 h2 h3=>?_,?_,⟨hx.1,hx.2.1,by rw [ne hxu];exact hx.2.2.1,?_⟩,⟨fun y hy=>?_,fun z h1 h2 h3=>?_⟩,fun z h1 h2 h3 h4 h5 y hy hly=>?_,fun z hz hlz=>?_⟩
 ·by_cases k:z=u
  ·rw [k,eu];omega
  ·rw [ne k];exact h.neg z h1 h2
 ·rcases YB.1 hz with hz | hz
  ·rw [ne (hqu z hz)];exact h.qd z hz
  ·rw [Yk.1 hz,eu];exact ⟨hu.1,hu.2,by omega⟩
 ·exact YbD.2 ⟨h.nd,by simp,fun a ha b hb k=>huq (by rw [Yk.1 hb] at k;exact k ▸ ha)⟩
 ·by_cases k:z=u
  ·rw [k,eu]
   rw [show (fI d x+1).toNat=(fI d x).toNat+1 by omega]
   exact .step hp hl (h.sound x hx.1 hx.2.1 hx.2.2.1)
  ·rw [ne k] at h3 ⊢;exact h.sound z h1 h2 h3
 ·refine YbB.2 ⟨List.Pairwise.imp_of_mem (fun {a b} ha hb k=>?_) h.sort,by simp,fun a ha b hb=>?_⟩
  ·rw [ne (hqu a ha),ne (hqu b hb)];exact k
  ·rw [Yk.1 hb,eu,ne (hqu a ha)];exact (h.near.1 a ha).2
 ·simp [hx.2.2.2,hxu]
 ·rcases YB.1 hy with hy | hy
  ·rw [ne (hqu y hy),ne hxu];exact h.near.1 y hy
  ·rw [Yk.1 hy,eu,ne hxu];omega
 ·have h3':z ∉ q∧z≠u:=by simpa using h3
  rw [ne h3'.2,ne hxu];exact h.near.2 z h1 h2 h3'.1
 ·have h5':z ∉ q∧z≠u:=by simpa using h5
  rw [ne h5'.2] at h4 ⊢
  have h6:=h.clos z h1 h2 h3 h4 h5'.1 y hy hly
  by_cases k:y=u
  ·rw [k] at h6;omega
  ·rw [ne k];exact h6
 ·rw [ne hxu]
  by_cases k:z=u
  ·rw [k,eu];omega
  ·rw [ne k]
   rcases YB.1 hz with hz | hz
   ·exact h.seen z hz hlz
   ·exact absurd (Yk.1 hz) k
theorem ZnD.done (h:ZnD n prev least t d q x (prev x)):Zoo n prev least t d q:=by
 refine ⟨h.len,h.start,h.neg,h.qd,h.nd,h.sound,h.sort,fun z hz=>?_,fun z h1 h2 h3 h4=>?_⟩
 ·have hm:z ∈ q:=List.mem_of_head? hz
  refine ⟨fun y hy=>?_,fun u h1 h2 h3=>?_⟩
  ·have a:=(h.near.1 z hm).1
   have b:=(h.near.1 y hy).2
   omega
  ·have a:=(h.near.1 z hm).1
   have b:=h.near.2 u h1 h2 h3
   omega
 ·by_cases e:z=x
  ·rw [e];exact h.seen
  ·exact h.clos z h1 h2 e h3 h4
theorem Zoo.dist (hp:∀ x,∀ u ∈ prev x,0≤u∧u<n) (h:Zoo n prev least t d []):Zds n prev least t d:=by
 have key:∀ (j:Nat) (u:Int),Zfp prev least t j u→0≤u∧u<n∧0≤fI d u∧fI d u≤j:=fun j u hw=>by
  induction hw with
  | zero=>exact ⟨h.start.1,h.start.2.1,by rw [h.start.2.2];omega,by rw [h.start.2.2];omega⟩
  | step h1 hl _ ih=>
   obtain ⟨i1,i2,i3,i4⟩:=ih
   obtain ⟨k1,k2⟩:=h.clos _ i1 i2 i3 (by simp) _ h1 hl
   have:=hp _ _ h1
   exact ⟨this.1,this.2,k1,by omega⟩
 refine ⟨h.len,fun u hu=>?_⟩
 have e:Nn d u=fI d (u:Int):=by rw [ZaN ow];rfl
 rw [e]
 have hneg:=h.neg u ow ow
 by_cases h0:0≤fI d (u:Int)
 ·exact .inr ⟨(fI d (u:Int)).toNat,by omega,h.sound u ow ow h0,fun j hj=>by have:=(key j u hj).2.2.2;omega⟩
 ·exact .inl ⟨by omega,fun k hk=>h0 (key k u hk).2.2.1⟩
theorem Zds.one {d e:List Int} (h:Zds n prev least t d) (k:Zds n prev least t e):d=e:=by
 refine ZaU (by rw [h.1,k.1]) fun j hj=>?_
 rw [h.1] at hj
 rcases h.2 j hj with ⟨a1,a2⟩ | ⟨i,a1,a2,a3⟩ <;> rcases k.2 j hj with ⟨b1,b2⟩ | ⟨i',b1,b2,b3⟩
 ·rw [a1,b1]
 ·exact absurd b2 (a2 _)
 ·exact absurd a2 (b2 _)
 ·have:=a3 _ b2;have:=b3 _ a2;omega
theorem ZnD.room (h:ZnD n prev least t d q x seen):q.length+1≤n:=ZdM (l:=x :: q) (Ybm.2 ⟨h.here.2.2.2,h.nd⟩) fun y hy=>by
 rcases Yj.1 hy with rfl | hy
 ·exact ⟨h.here.1,h.here.2.1⟩
 ·exact ⟨(h.qd y hy).1,(h.qd y hy).2.1⟩
end
def negC (d:List Int):Nat:=d.countP fun z=>decide (z<0)
theorem Zmp {d:List Int} {i:Nat} {c:Int} (hi:i<d.length) (h0:Nn d i<0) (hc:0≤c):negC (d.set i c)+1=negC d:=by
 rw [nth_eq hi] at h0
 unfold negC
 rw [List.countP_set hi,Yac h0,YD (show ¬ c<0 by omega)]
 have:0<d.countP fun z=>decide (z<0):=List.countP_pos_iff.2 ⟨d[i],Ya8 hi,Yac h0⟩
 simp
 omega
theorem ZpO (n:Nat) (prev:Int→List Int) (least t:Int):∃ d,Zds n prev least t d:=by
 refine Zkr (P:=fun u m=>(m = -1 ∧ ∀ k,¬ Zfp prev least t k u) ∨ ∃ k:Nat,m=k∧Zfp prev least t k u ∧ ∀ j,Zfp prev least t j u→k≤j) n fun u _=>?_
 by_cases h:∃ k,Zfp prev least t k (u:Int)
 ·obtain ⟨k,hk⟩:=h
  obtain ⟨m,⟨h1,h2⟩,h3⟩:=ZpG (P:=fun m=>0≤m∧Zfp prev least t m.toNat u) (fun x hx=>hx.1) (u:=k) ⟨by omega,by simpa using hk⟩
  exact ⟨m,.inr ⟨m.toNat,by omega,h2,fun j hj=>by have:=h3 j ⟨by omega,by simpa using hj⟩;omega⟩⟩
 ·exact ⟨-1,.inl ⟨rfl,fun k hk=>h ⟨k,hk⟩⟩⟩
def ZdZ (n:Nat) (prev:Int→List Int) (least t:Int) (d q:List Int):Prop:=Zoo n prev least t d q ∧ ∀ z:Int,fI d z+(negC d:Int)≤n
def Zdd (n:Nat) (prev:Int→List Int) (least t:Int) (d q:List Int) (x:Int) (seen:List Int):Prop:=ZnD n prev least t d q x seen ∧ ∀ z:Int,fI d z+(negC d:Int)≤n
section
variable {n:Nat} {prev:Int→List Int} {least t:Int} {d q:List Int} {x:Int} {seen:List Int}
theorem ZdZ.first (ht:0≤t∧t<n):ZdZ n prev least t ((List.replicate n (-1)).set t.toNat 0) [t]:=by
 have hlt:t.toNat<n:=by omega
 have h1:=Zmp (d:=List.replicate n (-1)) (i:=t.toNat) (c:=0) (by simpa using hlt) (by rw [nth_eq (by simpa using hlt)];simp) (Yap 0)
 have h2:negC (List.replicate n (-1))=n:=by unfold negC;rw [List.countP_replicate];simp
 refine ⟨Zoo.first ht,fun z=>?_⟩
 have hz:fI ((List.replicate n (-1)).set t.toNat 0) z≤0:=by
  rw [ZcL (by simpa using ht)]
  unfold ZcT
  split
  ·exact Yap 0
  ·unfold fI
   split
   ·by_cases h:z.toNat<n
    ·rw [nth_eq (by simpa using h)];simp
    ·unfold Nn;simp [YaH,show n≤z.toNat by omega]
   ·exact Yap 0
 omega
theorem ZdZ.pop (h:ZdZ n prev least t d (x :: q)):Zdd n prev least t d q x []:=⟨h.1.pop,h.2⟩
theorem Zdd.skip {u:Int} (h:Zdd n prev least t d q x seen) (hu:0≤u∧u<n) (hs:least≤u→0≤fI d u):Zdd n prev least t d q x (seen ++ [u]):=⟨h.1.skip hu hs,h.2⟩
theorem Zdd.put {u:Int} (h:Zdd n prev least t d q x seen) (hu:0≤u∧u<n) (hp:u ∈ prev x) (hl:least≤u) (h0:fI d u<0):Zdd n prev least t (d.set u.toNat (fI d x+1)) (q ++ [u]) x (seen ++ [u])∧negC (d.set u.toNat (fI d x+1))+1=negC d:=by
 have hn:=Zmp (d:=d) (i:=u.toNat) (c:=fI d x+1) (by rw [h.1.len];omega) (by rw [← ZaN hu.1];exact h0) (by have:=h.1.here.2.2.1;omega)
 refine ⟨⟨h.1.put hu hp hl h0,fun z=>?_⟩,hn⟩
 rw [ZcL (by rw [h.1.len];exact hu)]
 unfold ZcT
 have h1:=h.2 x
 have h2:=h.2 z
 split <;> omega
theorem Zdd.done (h:Zdd n prev least t d q x (prev x)):ZdZ n prev least t d q:=⟨h.1.done,h.2⟩
theorem Zdd.val (h:Zdd n prev least t d q x seen):0≤fI d x∧fI d x≤n:=by
 have:=h.2 x
 exact ⟨h.1.here.2.2.1,by omega⟩
end
theorem Zin (O I:List (List Z7)) (m:Nat) (u mask:Int) (hI:∀ l ∈ I,l.length≤1000000) (hOI:I.length=O.length):FnP prog 209 [Zew O I m,.int .i64 u,.int .i64 mask] (.sl Zn (adjO I mask u)):=by
 refine FnP.mk func209 Z ntmps209 Z fun B a w F V hfr G=>Ya ?_
 refine rZ G (qC qZ) V [6,2,1,0] [0] fun G=>(Ya (Ya ?_))
 refine rZ G (qR rr (qR rr (qf (oP (Zec O I m u) func194 (Args.two .t .t)) r2 qz (qf (o_not .t) r1 qz qZ)))) V [10,6,2,1,0] [0] fun G=>?_
 refine Zc G Z (fun hc0=>?_) (fun hc0=>?_)
 ·have hg:[] = adjO I mask u:=by unfold adjO;rw [Yc (by have h9:=hc0;simp at h9;omega)]
  refine Ya (rZ G (qC qZ) V [6,2,1,0] [0] fun G=>(Yh (Zl ?_)))
  refine Zs hfr G Z Z Z (.trans .nilSl (.sl hg))
 have hth:0≤u∧u<I.length:=by have h9:=hc0;simp at h9;omega
 have hg:(Zbt (((Nn I u.toNat).filter fun e=>ofB mask e.kind).map Z7.node))=adjO I mask u:=by unfold adjO;rw [Yf hth]
 refine Ye (Za (Ya (Ze G (qR rr (qf (ZD .t) r1 qz (qf (oG 1 .t) r1 qz (qf (oR false 1 .t) r1 qz (qR rr (qf (o_indexAddr_sl (sz:=1) (.mk Ycq kr) (by intro x;rfl) .t .t (by exact hth.1) (by exact hth.2)) r2 qz (qf (oR false 1 .t) r1 qz (qR rr (qf (oP (dgNodesOf_c (Nn I u.toNat) mask (hI _ (nth_mem ow))) func198 (Args.two .t .t)) r2 qz (qO rr qZ)))))))))) V [6] [0] Z Z fun a w F G=>?_)))
 try simp only [Yb] at G
 refine Za (Yh (Zs hfr G Z Z Z (.sl hg)))
theorem ZwL (E:List Zy) (O I:List (List Z7)) (m:Nat) (mask node least:Int) (h:ZbU O.length E O I) (hn1:1≤O.length) (hn:O.length≤4096) (hE:E.length≤1000000) (hs0:least≤node) (hs1:0≤node) (hs2:node<O.length) (D:List Int) (hD:Zds O.length (fun x=>adjO I mask x) least node D):FnP prog 169 [Zew O I m,.int .i64 mask,.int .i64 node,.int .i64 least] (.sl Zn D):=by
 refine FnP.mk func169 Z ntmps169 Z fun B a w F V hfr G=>?_
 obtain ⟨hpr,hpl⟩:=h.prevR mask
 refine Ya (rZ G (qC qZ) V [8,3,2,1,0] [0] fun G=>Ya ?_)
 refine Zb G (qR rr (qR rr (qR rr (qf (oB [(0,.tmp 16),(1,.tmp 17),(2,.tmp 18)] [.pointer none,.int .i64 0,.int .i64 0] [(0,1),(1,1),(2,1)] (.one Z .t ZhZ kr (.one Z .t one_int kr (.one Z .t one_int kr .nil)))) r3 qz (qf (oH [.pointer none,.int .i64 0,.int .i64 0] 101) trivial qz (qS 3 101 r2 r1 qZ)))))) V [9,8,3,2,1,0] [101,0] (fun _=>rfl) (fun _=>rfl) fun τ a w F G=>?_
 try dsimp only [RS.sub,SF.sub,CF.sub,csub,Anc.sub,List.map,Zf,xL,xM,Nat.reduceAdd,xD,xE,xT,xU,xC,xN,zCF,Zn] at G
 generalize τ 9=v9 at G
 refine Za (Ya ?_)
 replace G:=G.fresh 102 rfl
 refine Zb G (qe 3 101 r1 r1 (qf (Zap 102 (Zqy O I m mask least ow ow) func204 Z kr (Args.one (.pagg .t)) pvOne1) r1 r1 (qO rr qZ))) V [10,9,8,3,2,1,0] [102,101,0] (fun _=>rfl) (fun _=>rfl) fun τ a w F G=>?_
 try dsimp only [RS.sub,SF.sub,CF.sub,csub,Anc.sub,List.map,xD,xE,xT,xU,ldSF,Zn] at G
 generalize τ 21=v21 at G
 refine Za (Ya (Ya (rZ G (qe 3 101 r1 r1 (qR rr (qf (oP (Zo2 O I m mask least node) func205 (Args.two (.pagg .t) .t)) r2 qz (qf (o_not .t) r1 qz qZ)))) V [25,10,8,3,2,1,0] [102,101,0] fun G=>?_)))
 refine Zc G Z (fun hc0=>?_) (fun hc0=>?_)
 ·simp at hc0;omega
 refine Ye (Za (Ya ?_))
 replace G:=G.fresh 103 rfl
 refine Zb G (qR rr (qf (oP (Zci O I m) func158 (Args.one .t)) r1 qz (qf (Zap 103 (Zon _) func206 Z kr (Args.one .t) PV.ptr_one) r1 r1 (qO rr qZ)))) V [11,10,8,3,2,1,0] [103,102,101,0] (fun _=>rfl) (fun _=>rfl) fun τ a w F G=>?_
 try dsimp only [RS.sub,SF.sub,CF.sub,csub,Anc.sub,List.map,Zn] at G
 generalize τ 29=v29 at G
 obtain ⟨_,_,_,ho⟩:=G.obGet 103 rfl
 obtain ⟨qb,rfl⟩:=ZpN ho
 clear ho
 replace G:=G.turn 103 Z (r':=RS.hp (rqH (.pointer (some ⟨qb,0,none⟩)) (ZbW (O.length:Int)) [])) (fun _ _ _ _ h=>h)
 obtain ⟨F,G⟩:=G.nM [11,10,8,3,2,1,0] [103,102,101,0]
 rw [ZfH ow] at G
 refine Za (Ya (Ze G (qR rr (qR rr (qf (o_indexAddr_row (sz:=1) 102 (.mk Ycf kr) .is .t ow (by rw [Y0];omega) (by rfl)) r2 r1 (qf (ZJ (R:=Zn) (sz:=1) (v:=0) 102 .t (by intro x;rfl) (by rw [Y0];omega) qi Z one_int kr) r1 r1 qZ)))) V [11,10,8,3,2,1,0] [103,102,101,0] Z Z fun a w F G=>?_))
 try simp only [Yb] at G
 refine Za (Ya (rZ G (qR rr (qR rr (qf (ZK 103 (ZcJ qb (O.length:Int) [] node (by simp;omega)) func207 Z kr (Args.two .t .t)) r2 r1 qZ))) V [11,10,8,3,1,0] [103,102,101,0] fun G=>(Ya (Ya ?_))))
 refine rZ G (qR rr (qf (ZK 103 (ZiA qb (O.length:Int) [node]) func208 Z kr (Args.one .t)) r1 r1 (qR rr (qf (Zh .t Z) r1 qz (qf (Zh .t Z) r1 qz (qO rr (qO rr qZ))))))) V [13,12,11,10,8,3,1,0] [103,102,101,0] fun G=>Yg ?_
 refine Zk (σ:=List Int×List Int) [0,1,3,8,10,11] [0,101] (fun s=>[(12,.pv (.int .i64 (s.2.headD 0))),(13,.pv (.bool (decide (s.2≠[]))))]) (fun s=>[(102,.ob (.val v21) (Zx 3 1 Zn s.1)),(103,RS.hp (rqH (.pointer (some ⟨qb,0,none⟩)) (O.length:Int) s.2.tail))]) (fun s=>ZdZ O.length (fun x=>adjO I mask x) least node s.1 s.2) (fun s=>2*negC s.1+s.2.length) (_,([node])) G ⟨rfl,rfl,rfl,rfl,rfl,rfl,rfl,rfl,tv⟩ ⟨rfl,rfl,rfl,rfl,tv⟩ (ZdZ.first ⟨hs1,by omega⟩) ?_
 clear G;intro s a w F hC G
 obtain ⟨d,q⟩:=s
 try dsimp only at hC
 obtain ⟨F,G⟩:=G.nM [13,12,11,10,8,3,1,0] [103,102,101,0]
 try dsimp only at G
 have hBI:ZdZ O.length (fun x=>adjO I mask x) least node d q:=hC
 refine Ya (Ya (rZ G (qR rr qZ) V [41,13,12,11,10,8,3,1,0] [103,102,101,0] fun G=>?_))
 refine Zc G Z (fun hc1=>?_) (fun hc1=>?_)
 ·obtain ⟨x,q,rfl⟩:∃ x l,q=x :: l:=List.exists_cons_of_ne_nil (by simpa using hc1)
  try dsimp only [List.headD_cons,List.tail_cons] at G
  have hM0:=hBI.pop
  have hpx:=hpl x
  refine Ye (Za (Ya (Yg (Ya (rZ G (qR rr (qR rr (qR rr (qf (oP (Zin O I m x mask (fun l hl=>(h.inn.r hE l hl).1) (by rw [h.ol,h.il])) func209 (Args.three .t .t .t)) r3 qz (qu Ycf r1 (qJ qZ)))))) V [52,51,50,13,12,11,10,8,3,1,0] [103,102,101,0] fun G=>Yg ?_)))))
  refine Zk (σ:=(Nat)×(List Int)×(List Int)) [0,1,3,8,10,11,12,13,50,51] [0,101] (fun s=>[(52,.pv (.int .i64 (s.1:Int)))]) (fun s=>[(102,.ob (.val v21) (Zx 3 1 Zn s.2.1)),(103,RS.hp (rqH (.pointer (some ⟨qb,0,none⟩)) (O.length:Int) s.2.2))]) (fun s=>s.1≤(adjO I mask x).length∧(Zdd O.length (fun x=>adjO I mask x) least node s.2.1 s.2.2 x ((adjO I mask x).take s.1)∧2*negC s.2.1+s.2.2.length≤2*negC d+q.length)) (fun s=>(adjO I mask x).length - s.1) ((0),(d),(q)) G ⟨rfl,rfl,rfl,rfl,rfl,rfl,rfl,rfl,rfl,rfl,rfl,tv⟩ ⟨rfl,rfl,rfl,rfl,tv⟩ ⟨Yw _,⟨hM0,YM _⟩⟩ ?_
  clear G;intro s a w F hC G
  obtain ⟨i,d2,q2⟩:=s
  try dsimp only at hC
  obtain ⟨F,G⟩:=G.nM [52,51,50,13,12,11,10,8,3,1,0] [103,102,101,0]
  try dsimp only at G
  obtain ⟨hi,hq⟩:=hC
  obtain ⟨hM,hmu⟩:=hq
  have hdl:=hM.1.len
  have hxr:=hM.1.here
  have hxv:=hM.val
  have hqr:=hM.1.room
  refine Ya (rZ G (qL r2) V [53,52,51,50,13,12,11,10,8,3,1,0] [103,102,101,0] fun G=>Ya ?_)
  refine Zc G Z (fun hc2=>?_) (fun hc2=>?_)
  ·have hil:i<(adjO I mask x).length:=by simp at hc2;omega
   have hur:=hpr x _ (nth_mem hil)
   refine Ye (Za (Ya (Yg (Ya (Ze G (qy 1 Ycf r2 (qf (oR false 1 .t) r1 qz (qO rr qZ))) V [52,51,50,15,13,12,11,10,8,3,1,0] [103,102,101,0] Z Z fun a w F G=>?_)))))
   try simp only [Yb] at G
   refine Za (Ya (Ze G (qR rr (qR rr (qf (Zbs .t .t) r2 qz (qR rr (qm Z Z Z Z (qm Z Z Z Z (qk Z (fun h=>o_indexAddr_row (sz:=1) 102 (.mk Ycf kr) (.w h .is) (.w h) ow ow (by rfl)) r3 r1 (qk Z (fun h=>Zu (ag:=false) (sz':=1) (sz:=1) 102 (.w h) (by intro x;rfl) ow kr kr kr) r2 r1 (qk Z (fun h=>ZaA (.w h) qi) r2 qz (qf (ZE .t .t) r2 qz qZ)))))))))) V [65,52,51,50,15,13,12,11,10,8,3,1,0] [103,102,101,0] Z Z fun a w F G=>?_))
   try simp only [Yb] at G
   refine Za (Zc G Z (fun hc3=>?_) (fun hc3=>?_))
   ·have hput:least≤(Nn (adjO I mask x) i)∧fI d2 (Nn (adjO I mask x) i)<0:=by rw [ZaN hur.1];simpa using hc3
    obtain ⟨hP1,hP2⟩:=hM.put hur (nth_mem hil) hput.1 hput.2
    have hval:IntKind.wrap .i64 (Nn d2 x.toNat+1)=fI d2 x+1:=by rw [ZaN hxr.1];rw [ZaN hxr.1] at hxv;exact ZA ow
    refine Ya (Ze G (qR rr (qR rr (qR rr (qR rr (qf (o_indexAddr_row (sz:=1) 102 (.mk Ycf kr) .is .t ow ow (by rfl)) r2 r1 (qf (Zu (ag:=false) (sz':=1) (sz:=1) 102 .t (by intro x;rfl) ow kr kr kr) r1 r1 (qp r1 (qf (o_indexAddr_row (sz:=1) 102 (.mk Ycf kr) .is .t ow ow (by rfl)) r2 r1 (qf (ZJ (R:=Zn) (sz:=1) (v:=_) 102 .t (by intro x;rfl) ow .t Z one_int kr) r2 r1 qZ))))))))) V [52,51,50,15,13,12,11,10,8,3,1,0] [103,102,101,0] Z Z fun a w F G=>?_)
    try simp only [Yb] at G
    rw [hval] at G
    refine Za (Ze G (qR rr (qR rr (qf (ZK 103 (ZcJ qb (O.length:Int) q2 (Nn (adjO I mask x) i) ow) func207 Z kr (Args.two .t .t)) r2 r1 qZ))) V [52,51,50,13,12,11,10,8,3,1,0] [103,102,101,0] Z Z fun a w F G=>Zi (Za ?_))
    refine rZ G (qp r1 (qR rr qZ)) V [52,51,50,13,12,11,10,8,3,1,0] [103,102,101,0] fun G=>?_
    have hmu3:2*negC (d2.set (Nn (adjO I mask x) i).toNat (fI d2 x+1))+(q2 ++ [(Nn (adjO I mask x) i)]).length≤2*negC d+q.length:=by rw [Yd,YN];omega
    replace G:=G.ent (i:=52) (s':=.pv (.int .i64 ((i+1:Nat):Int))) Z (.int (Zd ow))
    obtain ⟨F,G⟩:=G.nM [51,50,13,12,11,10,8,3,1,0,52] [101,0,103,102]
    exact ⟨((i+1),_,(q2 ++ [(Nn (adjO I mask x) i)])),F,⟨by omega,⟨by rw [Zp hil];exact hP1,hmu3⟩⟩,G,by omega⟩
   have hsk:least≤(Nn (adjO I mask x) i)→0≤fI d2 (Nn (adjO I mask x) i):=fun h9=>by rw [ZaN hur.1];have h8:=hc3;simp at h8;exact h8 h9
   refine Ye (Zi (Za (rZ G (qp r1 (qR rr qZ)) V [52,51,50,13,12,11,10,8,3,1,0] [103,102,101,0] fun G=>?_)))
   replace G:=G.ent (i:=52) (s':=.pv (.int .i64 ((i+1:Nat):Int))) Z (.int (Zd ow))
   obtain ⟨F,G⟩:=G.nM [51,50,13,12,11,10,8,3,1,0,52] [101,0,103,102]
   exact ⟨((i+1),_,_),F,⟨by omega,⟨by rw [Zp hil];exact hM.skip hur hsk,hmu⟩⟩,G,by omega⟩
  have hil:i=(adjO I mask x).length:=by simp at hc2;omega
  have hBI2:ZdZ O.length (fun x=>adjO I mask x) least node d2 q2:=by rw [hil,YA] at hM;exact hM.done
  have hmu2:2*negC d2+q2.length<2*negC d+(x :: q).length:=by rw [Yl];omega
  refine Yx (Zj (Zj (Zo (Zi (Za (rZ G (qR rr (qf (ZK 103 (ZiA qb (O.length:Int) q2) func208 Z kr (Args.one .t)) r1 r1 (qR rr (qf (Zh .t Z) r1 qz (qf (Zh .t Z) r1 qz (qO rr (qO rr qZ))))))) V [13,12,11,10,8,3,1,0] [103,102,101,0] fun G=>?_))))))
  obtain ⟨F,G⟩:=G.nM [11,10,8,3,1,0,13,12] [101,0,103,102]
  exact ⟨((d2),(q2)),F,hBI2,G,hmu2⟩
 have hqe:q = []:=by simpa using hc1
 subst hqe
 have hfin:d=D:=(Zoo.dist hpr hBI.1).one hD
 refine Yx (Zj (Zj (Zo (Za (Ya (rZ G (qR rr (qO rr qZ)) V [8] [103,102,101,0] fun G=>Yh ?_))))))
 obtain ⟨F,G⟩:=G.give 102 8 Z rfl
 refine Zs hfr G Z Z Z (.sl hfin)
def ZdO (p q:Int→List Int) (s:Int):List Int:=(p (s / 2)).map (fun u=>2*u+s % 2)++(q (s / 2)).map fun u=>2*u+1
def ZaQ (n:Nat) (d:List Int):List Int:=(List.range n).map fun u=>Nn d (2*u+1)
theorem sh1 (s:Int):s.fdiv (2 ^ min (1:Int).toNat (IntKind.bits .i64))=s / 2:=by
 have e:min (1:Int).toNat (IntKind.bits .i64)=1:=by decide
 rw [e]
 exact YaU _ (by decide)
theorem ZiZ (x:Nat) (hx:x<18446744073709551616):(BitVec.ofInt 64 (x:Int)).toNat=x:=by rw [YaG];omega
theorem and1m {s:Int} (h:0≤s∧s≤1000000):bits .and .i64 s 1=s % 2:=by
 obtain ⟨n,rfl⟩:=Yag h.1
 show IntKind.wrap .i64 (((BitVec.ofInt 64 (n:Int) &&& BitVec.ofInt 64 ((1:Nat):Int)).toNat:Nat):Int)=_
 rw [Ybt,ZiZ n ow,ZiZ 1 ow,Nat.and_one_is_mod,ZA ow]
 omega
theorem ZiK {u h:Int} (hu:0≤u∧u≤65536) (hh:h=0∨h=1):bits .or .i64 (IntKind.wrap .i64 (u*2 ^ min (1:Int).toNat (IntKind.bits .i64))) h=2*u+h:=by
 have e:min (1:Int).toNat (IntKind.bits .i64)=1:=by decide
 rw [e,show (2:Int) ^ 1=2 from rfl,ZA ow]
 obtain ⟨n,rfl⟩:=Yag hu.1
 obtain ⟨k,rfl⟩:=Yag (show 0≤h by omega)
 show IntKind.wrap .i64 (((BitVec.ofInt 64 ((n*2:Nat):Int) ||| BitVec.ofInt 64 ((k:Nat):Int)).toNat:Nat):Int)=_
 rw [BitVec.toNat_or,ZiZ k ow,ZiZ _ ow,show n*2=n <<< 1 by rw [Nat.shiftLeft_eq],← Nat.shiftLeft_add_eq_or_of_lt ow,Nat.shiftLeft_eq,ZA ow]
 omega
def Zcy (n:Nat) (d:List Int):List Int:=(List.range n).map fun u=>Nn d (2*u)
theorem Zay {n:Nat} {d:List Int} : (Zcy n d).length=n:=by simp [Zcy]
theorem ZaL {n:Nat} {d:List Int} : (ZaQ n d).length=n:=by simp [ZaQ]
theorem Zcf {n:Nat} {d:List Int} {u:Nat} (h:u<n):Nn (Zcy n d) u=Nn d (2*u):=by rw [nth_eq (by rw [Zay];exact h)];simp [Zcy]
theorem Zdm {n:Nat} {d:List Int} {u:Nat} (h:u<n):Nn (ZaQ n d) u=Nn d (2*u+1):=by rw [nth_eq (by rw [ZaL];exact h)];simp [ZaQ]
theorem Zfl {n:Nat} {d:List Int} {u:Int} (h:0≤u∧u<n):Nn (Zcy n d) u.toNat=fI d (2*u+0):=by
 rw [ZaN ow,Zcf ow];congr 1;omega
theorem Zb1 {n:Nat} {d:List Int} {u:Int} (h:0≤u∧u<n):Nn (ZaQ n d) u.toNat=fI d (2*u+1):=by
 rw [ZaN ow,Zdm ow];congr 1;omega
theorem ZiQ {n:Nat} {d:List Int} {u c:Int} (hd:d.length=2*n) (h:0≤u∧u<n):Zcy n (d.set (2*u+0).toNat c)=(Zcy n d).set u.toNat c:=by
 refine ZaU (by rw [YK,Zay,Zay]) fun j hj=>?_
 rw [Zay] at hj
 rw [Zcz (by rw [Zay];omega),Zcf hj,Zcf hj,Zcz ow]
 by_cases e:j=u.toNat
 ·rw [Yf e,Yf ow]
 ·rw [Yc e,Yc ow]
theorem ZhU {n:Nat} {d:List Int} {u c:Int} (hd:d.length=2*n) (h:0≤u∧u<n):ZaQ n (d.set (2*u+1).toNat c)=(ZaQ n d).set u.toNat c:=by
 refine ZaU (by rw [YK,ZaL,ZaL]) fun j hj=>?_
 rw [ZaL] at hj
 rw [Zcz (by rw [ZaL];omega),Zdm hj,Zdm hj,Zcz ow]
 by_cases e:j=u.toNat
 ·rw [Yf e,Yf ow]
 ·rw [Yc e,Yc ow]
theorem ZeS {n:Nat} {d:List Int} {u c:Int} (hd:d.length=2*n) (h:0≤u∧u<n):Zcy n (d.set (2*u+1).toNat c)=Zcy n d:=by
 refine ZaU (by rw [Zay,Zay]) fun j hj=>?_
 rw [Zay] at hj
 rw [Zcf hj,Zcf hj,Zcz ow,Yc ow]
theorem Zje {n:Nat} {d:List Int} {u c:Int} (hd:d.length=2*n) (h:0≤u∧u<n):ZaQ n (d.set (2*u+0).toNat c)=ZaQ n d:=by
 refine ZaU (by rw [ZaL,ZaL]) fun j hj=>?_
 rw [ZaL] at hj
 rw [Zdm hj,Zdm hj,Zcz ow,Yc ow]
theorem Zos (n:Nat):Zcy n (List.replicate (2*n) (-1))=List.replicate n (-1):=by
 refine ZaU (by rw [Zay,Y0]) fun j hj=>?_
 rw [Zay] at hj
 rw [Zcf hj,nth_eq (by simp;omega),nth_eq (by simp;omega)];simp
theorem Zrd (n:Nat):ZaQ n (List.replicate (2*n) (-1))=List.replicate n (-1):=by
 refine ZaU (by rw [ZaL,Y0]) fun j hj=>?_
 rw [ZaL] at hj
 rw [Zdm hj,nth_eq (by simp;omega),nth_eq (by simp;omega)];simp
theorem ZoW {n:Nat} {p q:Int→List Int} (hp:∀ x,∀ u ∈ p x,0≤u∧u<(n:Int)) (hq:∀ x,∀ u ∈ q x,0≤u∧u<(n:Int)):∀ s,∀ u ∈ ZdO p q s,0≤u∧u<((2*n:Nat):Int):=fun s u hu=>by
 rcases YB.1 hu with hu | hu
 ·obtain ⟨v,hv,rfl⟩:=Yu.1 hu
  have:=hp _ v hv;omega
 ·obtain ⟨v,hv,rfl⟩:=Yu.1 hu
  have:=hq _ v hv;omega
def Zwo (a b:List Int) (h:Int):Nat→List Int
 | 0=>[]
 | 1=>a.map fun u=>2*u+h
 | _=>(a.map fun u=>2*u+h)++b.map fun u=>2*u+1
section
variable {P:Program} {d:Option Nat} {ty:TypeId} {pos:String} {af:Array Edge} {g:Option (Nat×Bool)} {x y:Operand} {ps qs:List (Nat×SF)} {t:TypeId} {α:Type}
theorem PVs.pick1 [Inhabited α] {p:α→PV} {w:World} {yy:Ys} : ∀ {l:List α} {vs:List Value} (i:Nat),PVs (l.map p) vs w yy→i<l.length → ∃ v,vs[i]? = some v∧(p (Nn l i)).p v w yy
 | [],_,i,_,h=>by simp at h
 | _ :: _,[],_,h,_=>h.elim
 | z :: l,v :: vs,0,h,_=>⟨v,rfl,h.1.2⟩
 | z :: l,v :: vs,i+1,h,hi=>by
  obtain ⟨u,h1,h2⟩:=PVs.pick1 (l:=l) (vs:=vs) i h.2 (by simpa using hi)
  exact ⟨u,by simpa using h1,by rw [nth_eq hi];rw [nth_eq (by simpa using hi)] at h2;simpa using h2⟩
theorem ZgE [Inhabited α] {e n:Nat} {l:List α} {p:α→PV} {k:IntKind} {i:Int} (hu:P.underlying t=some (.array n e)) (ha:P.aggB e=some false) (hs:(P.info? e).map (·.size)=some 1) (hx:Opd x ps (.pv (.agg (l.map p)))) (hy:Opd y qs (.pv (.int k i))) (h0:0≤i) (h1:i<n) (hn:l.length=n) :
  OpC P ⟨d,.index t x y,ty,pos,af,g⟩ ⟨ps++qs,[],.pv (p (Nn l i.toNat)),[]⟩:=
 OpC.pure fun a w yy hp=>by
  obtain ⟨vs,e1,hv⟩:=hx a w yy hp.left
  have e2:=(hy a w yy hp.right).1
  obtain ⟨v,h2,h3⟩:=PVs.pick1 i.toNat hv ow
  refine ⟨v,?_,fun _ _=>h3⟩
  simp [execOp,Instr.index,e1,e2,asIntOf,asInt,Ym hu,Yf (And.intro h0 h1),part,Go.Gm.run_isAgg ha,Go.Gm.run_sizeOf hs,h2]
end
theorem Zvh (E:List Zy) (O I:List (List Z7)) (m:Nat) (mask must node least mn mm:Int) (hmn:bits .andNot .i64 mask must=mn) (hmm:bits .and .i64 mask must=mm) (hne:mn≠mm) (h:ZbU O.length E O I) (hn1:1≤O.length) (hn:O.length≤4096) (hE:E.length≤1000000) (hs0:least≤node) (hs1:0≤node) (hs2:node<O.length) (D:List Int) (hD:Zds (2*O.length) (ZdO (fun x=>adjO I mn x) (fun x=>adjO I mm x)) (2*least) (2*node) D):FnP prog 170 [Zew O I m,.int .i64 mask,.int .i64 must,.int .i64 node,.int .i64 least] (.sl Zn (ZaQ O.length D)):=by
 refine FnP.mk func170 Z ntmps170 Z fun B a w F V hfr G=>?_
 obtain ⟨hpn,hln⟩:=h.prevR mn
 obtain ⟨hpm,hlm⟩:=h.prevR mm
 have hpr:=ZoW hpn hpm
 have hw2:IntKind.wrap .i64 (2*(O.length:Int))=(2*(O.length:Int)):=ZA ow
 have hB0:ZdZ (2*O.length) (ZdO (fun x=>adjO I mn x) (fun x=>adjO I mm x)) (2*least) (2*node) ((List.replicate (2*O.length) (-1)).set (2*node).toNat 0) [2*node]:=ZdZ.first ⟨by omega,by omega⟩
 have hev0:Zcy O.length ((List.replicate (2*O.length) (-1)).set (2*node+0).toNat 0)=(List.replicate O.length (-1)).set node.toNat 0:=by rw [ZiQ (by simp) ⟨hs1,hs2⟩,Zos]
 have hod0:ZaQ O.length ((List.replicate (2*O.length) (-1)).set (2*node+0).toNat 0)=List.replicate O.length (-1):=by rw [Zje (by simp) ⟨hs1,hs2⟩,Zrd]
 refine Ya (rZ G (qC qZ) V [10,4,3,2,1,0] [0] fun G=>Ya ?_)
 refine Zb G (qR rr (qR rr (qR rr (qf (oB [(0,.tmp 23),(1,.tmp 24),(2,.tmp 25)] [.pointer none,.int .i64 0,.int .i64 0] [(0,1),(1,1),(2,1)] (.one Z .t ZhZ kr (.one Z .t one_int kr (.one Z .t one_int kr .nil)))) r3 qz (qf (oH [.pointer none,.int .i64 0,.int .i64 0] 101) trivial qz (qS 3 101 r2 r1 qZ)))))) V [11,10,4,3,2,1,0] [101,0] (fun _=>rfl) (fun _=>rfl) fun τ a w F G=>?_
 try dsimp only [RS.sub,SF.sub,CF.sub,csub,Anc.sub,List.map,Zf,xL,xM,Nat.reduceAdd,xD,xE,xT,xU,xC,xN,zCF,Zn] at G
 generalize τ 11=v11 at G
 refine Za (Ya ?_)
 replace G:=G.fresh 102 rfl
 replace G:=G.fresh 103 rfl
 refine ZaM G (qe 3 101 r1 r1 (qf (Zap 102 (Zqy O I m mask least ow ow) func204 Z kr (Args.one (.pagg .t)) pvOne1) r1 r1 (qe 3 101 r1 r1 (qf (Zap 103 (Zqy O I m mask least ow ow) func204 Z kr (Args.one (.pagg .t)) pvOne1) r1 r1 (qf (Zbw (sz:=1) (r:=[(0,.tmp 28),(1,.tmp 30)]) (zs:=[.slice none 0 0,.slice none 0 0]) (pl:=[(0,1),(1,1)]) Yco kr kr Z (.same Z kr (.same Z kr .nil)) (by rfl)) r2 qz (qf (oH [.slice none 0 0,.slice none 0 0] 104) trivial qz (qS 2 104 r2 r1 qZ))))))) V [12,11,10,4,3,2,1,0] [104,103,102,101,0] (fun _=>rfl) (fun _=>rfl) fun τ a w F G=>?_
 try dsimp only [RS.sub,SF.sub,CF.sub,csub,Anc.sub,List.map,Zf,xL,xM,Nat.reduceAdd,xD,xE,xT,xU,xC,xN,zCF,ldSF,Zn] at G
 generalize τ 12=v12,τ 28=v28,τ 30=v30 at G
 refine Za (Ya (Ya (rZ G (qe 3 101 r1 r1 (qR rr (qf (oP (Zo2 O I m mask least node) func205 (Args.two (.pagg .t) .t)) r2 qz (qf (o_not .t) r1 qz qZ)))) V [35,12,10,4,3,2,1,0] [104,103,102,101,0] fun G=>?_)))
 refine Zc G Z (fun hc0=>?_) (fun hc0=>?_)
 ·simp at hc0;omega
 refine Ye (Za (Ya ?_))
 replace G:=G.fresh 105 rfl
 refine Zb G (qR rr (qf (oP (Zci O I m) func158 (Args.one .t)) r1 qz (qf (Zm6 qi .t) r1 qz (qf (Zap 105 (Zon _) func206 Z kr (Args.one .t) PV.ptr_one) r1 r1 (qO rr qZ))))) V [13,12,10,4,3,2,1,0] [105,104,103,102,101,0] (fun _=>rfl) (fun _=>rfl) fun τ a w F G=>?_
 try dsimp only [RS.sub,SF.sub,CF.sub,csub,Anc.sub,List.map,Zn] at G
 generalize τ 41=v41 at G
 obtain ⟨_,_,_,ho⟩:=G.obGet 105 rfl
 obtain ⟨qb,rfl⟩:=ZpN ho
 clear ho
 replace G:=G.turn 105 Z (r':=RS.hp (rqH (.pointer (some ⟨qb,0,none⟩)) (ZbW (IntKind.wrap .i64 (2*(O.length:Int)))) [])) (fun _ _ _ _ h=>h)
 obtain ⟨F,G⟩:=G.nM [13,12,10,4,3,2,1,0] [105,104,103,102,101,0]
 rw [hw2,ZfH ow] at G
 refine Za (Ya (Ze G (qf (ZF (sz:=1) 104 Yco kr .is qi (by decide) (by decide) (by rfl)) r1 r1 (qa 104 r1 r1 (qR rr (qf (o_indexAddr_row (sz:=1) 102 (.mk Ycf kr) .is .t ow (by rw [Y0];omega) (by rfl)) r2 r1 (qf (ZJ (R:=Zn) (sz:=1) (v:=0) 102 .t (by intro x;rfl) (by rw [Y0];omega) qi Z one_int kr) r1 r1 qZ))))) V [13,12,10,4,3,2,1,0] [105,104,103,102,101,0] Z Z fun a w F G=>?_))
 try simp only [Yb] at G
 rw [← hev0,← hod0] at G
 refine Za (Ya (rZ G (qR rr (qR rr (qf (o_shl .t qi (by decide)) r1 qz (qf (Zs8 .t qi) r1 qz (qf (ZK 105 (ZcJ qb (2*(O.length:Int)) [] (2*node+0) (by simp;omega)) func207 Z kr (Args.two .t (.conv .t (Ent.int (ZiK ⟨by omega,by omega⟩ (.inl Z)))))) r2 r1 qZ))))) V [13,12,10,4,2,1,0] [105,104,103,102,101,0] fun G=>(Ya (Ya ?_))))
 refine Ze G (qR rr (qf (ZK 105 (ZiA qb (2*(O.length:Int)) [2*node+0]) func208 Z kr (Args.one .t)) r1 r1 (qR rr (qf (Zh .t Z) r1 qz (qf (Zh .t Z) r1 qz (qO rr (qO rr qZ))))))) V [15,14,13,12,10,4,2,1,0] [105,104,103,102,101,0] Z Z fun a w F G=>?_
 try rw [Int.add_zero] at G
 refine Za (Yg (Zk (σ:=List Int×List Int) [0,1,2,4,10,12,13] [0,101,104] (fun s=>[(14,.pv (.int .i64 (s.2.headD 0))),(15,.pv (.bool (decide (s.2≠[]))))]) (fun s=>[(102,.ob (.val v28) (Zx 3 1 Zn (Zcy O.length s.1))),(103,.ob (.val v30) (Zx 3 1 Zn (ZaQ O.length s.1))),(105,RS.hp (rqH (.pointer (some ⟨qb,0,none⟩)) (2*(O.length:Int)) s.2.tail))]) (fun s=>ZdZ (2*O.length) (ZdO (fun x=>adjO I mn x) (fun x=>adjO I mm x)) (2*least) (2*node) s.1 s.2) (fun s=>2*negC s.1+s.2.length) (_,([2*node])) G ⟨rfl,rfl,rfl,rfl,rfl,rfl,rfl,rfl,rfl,tv⟩ ⟨rfl,rfl,rfl,rfl,rfl,rfl,tv⟩ hB0 ?_))
 clear G;intro s a w F hC G
 obtain ⟨d,q⟩:=s
 try dsimp only at hC
 obtain ⟨F,G⟩:=G.nM [15,14,13,12,10,4,2,1,0] [105,104,103,102,101,0]
 try dsimp only at G
 have hBI:ZdZ (2*O.length) (ZdO (fun x=>adjO I mn x) (fun x=>adjO I mm x)) (2*least) (2*node) d q:=hC
 refine Ya (Ya (rZ G (qR rr qZ) V [56,15,14,13,12,10,4,2,1,0] [105,104,103,102,101,0] fun G=>?_))
 refine Zc G Z (fun hc1=>?_) (fun hc1=>?_)
 ·obtain ⟨x,q,rfl⟩:∃ x l,q=x :: l:=List.exists_cons_of_ne_nil (by simpa using hc1)
  try dsimp only [List.headD_cons,List.tail_cons] at G
  have hM0:=hBI.pop
  have hxh:=hM0.1.here
  have hxa:0≤x / 2∧x / 2<(O.length:Int):=by omega
  refine Ye (Za (Ya (Yg (Ya (Ze G (qR rr (qf (Zco .t qi (by decide)) r1 qz (qR rr (qf (o_and .t qi) r1 qz (qO rr (qO rr qZ)))))) V [17,16,15,14,13,12,10,4,2,1,0] [105,104,103,102,101,0] Z Z fun a w F G=>?_)))))
  rw [sh1,and1m ow] at G
  refine Za (Ya (Ze G (qR rr (qR rr (qf (Zlr .t .t) r2 qz (qR rr (qR rr (qf (o_and .t .t) r2 qz (qf (Zbw (sz:=1) (r:=[(0,.tmp 68),(1,.tmp 71)]) (zs:=[.int .i64 0,.int .i64 0]) (pl:=[(0,1),(1,1)]) Ycs kr kr Z (.one Z .t one_int kr (.one Z .t one_int kr .nil)) (by rfl)) r2 qz (qJ qZ)))))))) V [73,72,17,16,15,14,13,12,10,4,2,1,0] [105,104,103,102,101,0] Z Z fun a w F G=>?_))
  rw [hmn,hmm] at G
  refine Za (Yg (Zk (σ:=Nat×List Int×List Int) [0,1,2,4,10,12,13,14,15,16,17,72] [0,101,104] (fun s=>[(73,.pv (.int .i64 (s.1:Int)))]) (fun s=>[(102,.ob (.val v28) (Zx 3 1 Zn (Zcy O.length s.2.1))),(103,.ob (.val v30) (Zx 3 1 Zn (ZaQ O.length s.2.1))),(105,RS.hp (rqH (.pointer (some ⟨qb,0,none⟩)) (2*(O.length:Int)) s.2.2))]) (fun s=>s.1≤2∧Zdd (2*O.length) (ZdO (fun x=>adjO I mn x) (fun x=>adjO I mm x)) (2*least) (2*node) s.2.1 s.2.2 x (Zwo (adjO I mn (x / 2)) (adjO I mm (x / 2)) (x % 2) s.1)∧2*negC s.2.1+s.2.2.length≤2*negC d+q.length) (fun s=>2 - s.1) ((0),(d),(q)) G ⟨rfl,rfl,rfl,rfl,rfl,rfl,rfl,rfl,rfl,rfl,rfl,rfl,rfl,tv⟩ ⟨rfl,rfl,rfl,rfl,rfl,rfl,tv⟩ ⟨by omega,hM0,YM _⟩ ?_))
  clear G;intro s a w F hC G
  obtain ⟨j,d1,q1⟩:=s
  try dsimp only at hC
  obtain ⟨F,G⟩:=G.nM [73,72,17,16,15,14,13,12,10,4,2,1,0] [105,104,103,102,101,0]
  try dsimp only at G
  obtain ⟨hj2,hM1,hmu1⟩:=hC
  refine Ya (rZ G (qf (ZaA .t qi) r1 qz qZ) V [74,73,72,17,16,15,14,13,12,10,4,2,1,0] [105,104,103,102,101,0] fun G=>Ya ?_)
  refine Zc G Z (fun hc2=>?_) (fun hc2=>?_)
  ·have hj3:j<2:=by simp at hc2;omega
   refine Ye (Za (Ya (Yg (Ya ?_))))
   by_cases hfk:j=0
   ·subst hfk
    refine Ze G (qf (ZgE (l:=[mn,mm]) (p:=(fun y=>PV.int .i64 y)) Ycs kr kr (.conv .t (.aggU Z Z)) .t ow ow Z) r2 qz (qO rr qZ)) V [73,72,19,17,16,15,14,13,12,10,4,2,1,0] [105,104,103,102,101,0] Z Z fun a w F G=>?_
    try simp only [Yb] at G
    rw [show Nn [mn,mm] 0=mn from rfl] at G
    refine Za (Ya (rZ G (qR rr (qO rr qZ)) V [73,72,20,19,17,16,15,14,13,12,10,4,2,1,0] [105,104,103,102,101,0] fun G=>(Ya (Ya ?_))))
    refine Ze G (qR rr (qR rr (qR rr (qf (o_and .t .t) r2 qz (qf (o_eql .t .t) r2 qz qZ))))) V [81,73,72,20,19,17,16,15,14,13,12,10,4,2,1,0] [105,104,103,102,101,0] Z Z fun a w F G=>?_
    rw [hmm] at G
    refine Za (Zc G Z (fun hc3=>?_) (fun hc3=>?_))
    ·exact (hne (Yr hc3)).elim
    refine Ye (Za (Ya (rZ G (qR rr (qR rr (qR rr (qf (oP (Zin O I m (x / 2) mn (fun l hl=>(h.inn.r hE l hl).1) (by rw [h.ol,h.il])) func209 (Args.three .t .t .t)) r3 qz (qu Ycf r1 (qJ qZ)))))) V [87,86,85,73,72,20,17,16,15,14,13,12,10,4,2,1,0] [105,104,103,102,101,0] fun G=>Yg ?_)))
    refine Zk (σ:=(Nat)×(List Int)×(List Int)) [0,1,2,4,10,12,13,14,15,16,17,20,72,73,85,86] [0,101,104] (fun s=>[(87,.pv (.int .i64 (s.1:Int)))]) (fun s=>[(102,.ob (.val v28) (Zx 3 1 Zn (Zcy O.length s.2.1))),(103,.ob (.val v30) (Zx 3 1 Zn (ZaQ O.length s.2.1))),(105,RS.hp (rqH (.pointer (some ⟨qb,0,none⟩)) (2*(O.length:Int)) s.2.2))]) (fun s=>s.1≤(adjO I mn (x / 2)).length∧(Zdd (2*O.length) (ZdO (fun x=>adjO I mn x) (fun x=>adjO I mm x)) (2*least) (2*node) s.2.1 s.2.2 x ([] ++ ((adjO I mn (x / 2)).take s.1).map fun u=>2*u+x % 2)∧2*negC s.2.1+s.2.2.length≤2*negC d+q.length)) (fun s=>(adjO I mn (x / 2)).length - s.1) ((0),(d1),(q1)) G ⟨rfl,rfl,rfl,rfl,rfl,rfl,rfl,rfl,rfl,rfl,rfl,rfl,rfl,rfl,rfl,rfl,rfl,tv⟩ ⟨rfl,rfl,rfl,rfl,rfl,rfl,tv⟩ ⟨Yw _,⟨hM1,hmu1⟩⟩ ?_
    clear G;intro s a w F hC G
    obtain ⟨i,d2,q2⟩:=s
    try dsimp only at hC
    obtain ⟨F,G⟩:=G.nM [87,86,85,73,72,20,17,16,15,14,13,12,10,4,2,1,0] [105,104,103,102,101,0]
    try dsimp only at G
    obtain ⟨hi,hq⟩:=hC
    obtain ⟨hM,hmu⟩:=hq
    have hdl:=hM.1.len
    have hxr:=hM.1.here
    have hxv:=hM.val
    have hqr:=hM.1.room
    have hpx:(adjO I mn (x / 2)).length≤O.length:=hln _
    have hel:(Zcy O.length d2).length=O.length:=Zay
    have hol:(ZaQ O.length d2).length=O.length:=ZaL
    refine Ya (rZ G (qL r2) V [88,87,86,85,73,72,20,17,16,15,14,13,12,10,4,2,1,0] [105,104,103,102,101,0] fun G=>Ya ?_)
    refine Zc G Z (fun hc4=>?_) (fun hc4=>?_)
    ·have hil:i<(adjO I mn (x / 2)).length:=by simp at hc4;omega
     have hur:0≤(Nn (adjO I mn (x / 2)) i)∧(Nn (adjO I mn (x / 2)) i)<(O.length:Int):=hpn _ _ (nth_mem hil)
     have hsr:0≤2*(Nn (adjO I mn (x / 2)) i)+x % 2∧2*(Nn (adjO I mn (x / 2)) i)+x % 2<(((2*O.length):Nat):Int):=by omega
     refine Ye (Za (Ya (Yg (Ya (Ze G (qy 1 Ycf r2 (qf (oR false 1 .t) r1 qz (qO rr qZ))) V [87,86,85,73,72,22,20,17,16,15,14,13,12,10,4,2,1,0] [105,104,103,102,101,0] Z Z fun a w F G=>?_)))))
     try simp only [Yb] at G
     refine Za (Ya ?_)
     by_cases hfk:x % 2=0
     ·refine Ze G (qR rr (qR rr (qf (Zbs .t .t) r2 qz (qR rr (qm Z Z Z Z (qk Z (fun h=>ZF (sz:=1) 104 Yco kr .is (.conv (.w h) (.int hfk)) (by decide) (by decide) (by rfl)) r3 r1 (qw 104 Z r2 r1 (qm Z Z Z Z (qk Z (fun h=>o_indexAddr_row (sz:=1) 102 (.mk Ycf kr) (.w h .is) (.w h) ow ow (by rfl)) r3 r1 (qk Z (fun h=>Zu (ag:=false) (sz':=1) (sz:=1) 102 (.w h) (by intro x;rfl) ow kr kr kr) r2 r1 (qk Z (fun h=>ZaA (.w h) qi) r2 qz (qf (ZE .t .t) r2 qz qZ)))))))))))) V [102,87,86,85,73,72,22,20,17,16,15,14,13,12,10,4,2,1,0] [105,104,103,102,101,0] Z Z fun a w F G=>?_
      try simp only [Yb] at G
      refine Za (Zc G Z (fun hc5=>?_) (fun hc5=>?_))
      ·have hput:least≤(Nn (adjO I mn (x / 2)) i)∧fI d2 (2*(Nn (adjO I mn (x / 2)) i)+0)<0:=by rw [← Zfl hur];simpa using hc5
       rw [show 2*(Nn (adjO I mn (x / 2)) i)+(0:Int)=2*(Nn (adjO I mn (x / 2)) i)+x % 2 by omega] at hput
       obtain ⟨hP1,hP2⟩:=hM.put hsr (Y1 _ (Yu.2 ⟨_,nth_mem hil,rfl⟩)) ow hput.2
       have hval:IntKind.wrap .i64 (Nn (Zcy O.length d2) (x / 2).toNat+1)=fI d2 x+1:=by rw [Zfl hxa,show 2*(x / 2)+(0:Int)=x by omega];exact ZA ow
       refine Ya (Zw G (qR rr (qf (ZF (sz:=1) 104 Yco kr .is (.conv .t (.int hfk)) (by decide) (by decide) (by rfl)) r2 r1 (qa 104 r1 r1 (qR rr (qR rr (qf (ZF (sz:=1) 104 Yco kr .is (.conv .t (.int hfk)) (by decide) (by decide) (by rfl)) r2 r1 (qa 104 r1 r1 (qR rr (qf (o_indexAddr_row (sz:=1) 102 (.mk Ycf kr) .is .t ow ow (by rfl)) r2 r1 (qf (Zu (ag:=false) (sz':=1) (sz:=1) 102 .t (by intro x;rfl) ow kr kr kr) r1 r1 (qp r1 (qf (o_indexAddr_row (sz:=1) 102 (.mk Ycf kr) .is .t ow ow (by rfl)) r2 r1 (qf (ZJ (R:=Zn) (sz:=1) (v:=_) 102 .t (by intro x;rfl) ow .t Z one_int kr) r2 r1 qZ))))))))))))) V [87,86,85,73,72,22,20,17,16,15,14,13,12,10,4,2,1,0] [105,104,103,102,101,0] Z Z fun a w F G=>?_)
       try dsimp only [List.map,Zf,xL,xM,Nat.reduceAdd,xD,xE,xT,xU,xC,xN,zCF,ldSF,Zn] at G
       try simp only [Yb] at G
       rw [hval,← ZiQ hdl hur,← Zje (c:=fI d2 x+1) hdl hur] at G
       rw [show 2*(Nn (adjO I mn (x / 2)) i)+(0:Int)=2*(Nn (adjO I mn (x / 2)) i)+x % 2 by omega] at G
       refine Za (Ze G (qR rr (qR rr (qf (o_shl .t qi (by decide)) r1 qz (qR rr (qf (Zs8 .t .t) r2 qz (qf (ZK 105 (ZcJ qb (2*(O.length:Int)) q2 (2*(Nn (adjO I mn (x / 2)) i)+x % 2) ow) func207 Z kr (Args.two .t (.conv .t (Ent.int (ZiK ⟨by omega,by omega⟩ ow))))) r2 r1 qZ)))))) V [87,86,85,73,72,20,17,16,15,14,13,12,10,4,2,1,0] [105,104,103,102,101,0] Z Z fun a w F G=>Zi (Za ?_))
       refine rZ G (qp r1 (qR rr qZ)) V [87,86,85,73,72,20,17,16,15,14,13,12,10,4,2,1,0] [105,104,103,102,101,0] fun G=>?_
       have hmu3:2*negC (d2.set (2*(Nn (adjO I mn (x / 2)) i)+x % 2).toNat (fI d2 x+1))+(q2 ++ [2*(Nn (adjO I mn (x / 2)) i)+x % 2]).length≤2*negC d+q.length:=by rw [Yd,YN];omega
       replace G:=G.ent (i:=87) (s':=.pv (.int .i64 ((i+1:Nat):Int))) Z (.int (Zd ow))
       obtain ⟨F,G⟩:=G.nM [86,85,73,72,20,17,16,15,14,13,12,10,4,2,1,0,87] [104,101,0,105,103,102]
       exact ⟨((i+1),_,(q2 ++ [2*(Nn (adjO I mn (x / 2)) i)+x % 2])),F,⟨by omega,⟨by rw [Zp hil,YR,← YO];exact hP1,hmu3⟩⟩,G,by omega⟩
      have hsk:2*least≤2*(Nn (adjO I mn (x / 2)) i)+x % 2→0≤fI d2 (2*(Nn (adjO I mn (x / 2)) i)+x % 2):=fun h9=>by have h8:=hc5;rw [Zfl hur] at h8;rw [show 2*(Nn (adjO I mn (x / 2)) i)+(0:Int)=2*(Nn (adjO I mn (x / 2)) i)+x % 2 by omega] at h8;simp at h8;exact h8 ow
      refine Ye (Zi (Za (rZ G (qp r1 (qR rr qZ)) V [87,86,85,73,72,20,17,16,15,14,13,12,10,4,2,1,0] [105,104,103,102,101,0] fun G=>?_)))
      replace G:=G.ent (i:=87) (s':=.pv (.int .i64 ((i+1:Nat):Int))) Z (.int (Zd ow))
      obtain ⟨F,G⟩:=G.nM [86,85,73,72,20,17,16,15,14,13,12,10,4,2,1,0,87] [104,101,0,105,103,102]
      exact ⟨((i+1),_,_),F,⟨by omega,⟨by rw [Zp hil,YR,← YO];exact hM.skip hsr hsk,hmu⟩⟩,G,by omega⟩
     have hh1:x % 2=1:=by omega
     refine Ze G (qR rr (qR rr (qf (Zbs .t .t) r2 qz (qR rr (qm Z Z Z Z (qk Z (fun h=>ZF (sz:=1) 104 Yco kr .is (.conv (.w h) (.int hh1)) (by decide) (by decide) (by rfl)) r3 r1 (qw 104 Z r2 r1 (qm Z Z Z Z (qk Z (fun h=>o_indexAddr_row (sz:=1) 103 (.mk Ycf kr) (.w h .is) (.w h) ow ow (by rfl)) r3 r1 (qk Z (fun h=>Zu (ag:=false) (sz':=1) (sz:=1) 103 (.w h) (by intro x;rfl) ow kr kr kr) r2 r1 (qk Z (fun h=>ZaA (.w h) qi) r2 qz (qf (ZE .t .t) r2 qz qZ)))))))))))) V [102,87,86,85,73,72,22,20,17,16,15,14,13,12,10,4,2,1,0] [105,104,103,102,101,0] Z Z fun a w F G=>?_
     try simp only [Yb] at G
     refine Za (Zc G Z (fun hc6=>?_) (fun hc6=>?_))
     ·have hput:least≤(Nn (adjO I mn (x / 2)) i)∧fI d2 (2*(Nn (adjO I mn (x / 2)) i)+1)<0:=by rw [← Zb1 hur];simpa using hc6
      rw [show 2*(Nn (adjO I mn (x / 2)) i)+(1:Int)=2*(Nn (adjO I mn (x / 2)) i)+x % 2 by omega] at hput
      obtain ⟨hP1,hP2⟩:=hM.put hsr (Y1 _ (Yu.2 ⟨_,nth_mem hil,rfl⟩)) ow hput.2
      have hval:IntKind.wrap .i64 (Nn (ZaQ O.length d2) (x / 2).toNat+1)=fI d2 x+1:=by rw [Zb1 hxa,show 2*(x / 2)+(1:Int)=x by omega];exact ZA ow
      refine Ya (Zw G (qR rr (qf (ZF (sz:=1) 104 Yco kr .is (.conv .t (.int hh1)) (by decide) (by decide) (by rfl)) r2 r1 (qa 104 r1 r1 (qR rr (qR rr (qf (ZF (sz:=1) 104 Yco kr .is (.conv .t (.int hh1)) (by decide) (by decide) (by rfl)) r2 r1 (qa 104 r1 r1 (qR rr (qf (o_indexAddr_row (sz:=1) 103 (.mk Ycf kr) .is .t ow ow (by rfl)) r2 r1 (qf (Zu (ag:=false) (sz':=1) (sz:=1) 103 .t (by intro x;rfl) ow kr kr kr) r1 r1 (qp r1 (qf (o_indexAddr_row (sz:=1) 103 (.mk Ycf kr) .is .t ow ow (by rfl)) r2 r1 (qf (ZJ (R:=Zn) (sz:=1) (v:=_) 103 .t (by intro x;rfl) ow .t Z one_int kr) r2 r1 qZ))))))))))))) V [87,86,85,73,72,22,20,17,16,15,14,13,12,10,4,2,1,0] [105,104,103,102,101,0] Z Z fun a w F G=>?_)
      try dsimp only [List.map,Zf,xL,xM,Nat.reduceAdd,xD,xE,xT,xU,xC,xN,zCF,ldSF,Zn] at G
      try simp only [Yb] at G
      rw [hval,← ZhU hdl hur,← ZeS (c:=fI d2 x+1) hdl hur] at G
      rw [show 2*(Nn (adjO I mn (x / 2)) i)+(1:Int)=2*(Nn (adjO I mn (x / 2)) i)+x % 2 by omega] at G
      refine Za (Ze G (qR rr (qR rr (qf (o_shl .t qi (by decide)) r1 qz (qR rr (qf (Zs8 .t .t) r2 qz (qf (ZK 105 (ZcJ qb (2*(O.length:Int)) q2 (2*(Nn (adjO I mn (x / 2)) i)+x % 2) ow) func207 Z kr (Args.two .t (.conv .t (Ent.int (ZiK ⟨by omega,by omega⟩ ow))))) r2 r1 qZ)))))) V [87,86,85,73,72,20,17,16,15,14,13,12,10,4,2,1,0] [105,104,103,102,101,0] Z Z fun a w F G=>Zi (Za ?_))
      refine rZ G (qp r1 (qR rr qZ)) V [87,86,85,73,72,20,17,16,15,14,13,12,10,4,2,1,0] [105,104,103,102,101,0] fun G=>?_
      have hmu3:2*negC (d2.set (2*(Nn (adjO I mn (x / 2)) i)+x % 2).toNat (fI d2 x+1))+(q2 ++ [2*(Nn (adjO I mn (x / 2)) i)+x % 2]).length≤2*negC d+q.length:=by rw [Yd,YN];omega
      replace G:=G.ent (i:=87) (s':=.pv (.int .i64 ((i+1:Nat):Int))) Z (.int (Zd ow))
      obtain ⟨F,G⟩:=G.nM [86,85,73,72,20,17,16,15,14,13,12,10,4,2,1,0,87] [104,101,0,105,103,102]
      exact ⟨((i+1),_,(q2 ++ [2*(Nn (adjO I mn (x / 2)) i)+x % 2])),F,⟨by omega,⟨by rw [Zp hil,YR,← YO];exact hP1,hmu3⟩⟩,G,by omega⟩
     have hsk:2*least≤2*(Nn (adjO I mn (x / 2)) i)+x % 2→0≤fI d2 (2*(Nn (adjO I mn (x / 2)) i)+x % 2):=fun h9=>by have h8:=hc6;rw [Zb1 hur] at h8;rw [show 2*(Nn (adjO I mn (x / 2)) i)+(1:Int)=2*(Nn (adjO I mn (x / 2)) i)+x % 2 by omega] at h8;simp at h8;exact h8 ow
     refine Ye (Zi (Za (rZ G (qp r1 (qR rr qZ)) V [87,86,85,73,72,20,17,16,15,14,13,12,10,4,2,1,0] [105,104,103,102,101,0] fun G=>?_)))
     replace G:=G.ent (i:=87) (s':=.pv (.int .i64 ((i+1:Nat):Int))) Z (.int (Zd ow))
     obtain ⟨F,G⟩:=G.nM [86,85,73,72,20,17,16,15,14,13,12,10,4,2,1,0,87] [104,101,0,105,103,102]
     exact ⟨((i+1),_,_),F,⟨by omega,⟨by rw [Zp hil,YR,← YO];exact hM.skip hsr hsk,hmu⟩⟩,G,by omega⟩
    have hil:i=(adjO I mn (x / 2)).length:=by simp at hc4;omega
    refine Yx (Zj (Zj (Zo (Zi (Za (rZ G (qp r1 (qR rr qZ)) V [73,72,17,16,15,14,13,12,10,4,2,1,0] [105,104,103,102,101,0] fun G=>?_))))))
    replace G:=G.ent (i:=73) (s':=.pv (.int .i64 (((1:Nat):Nat):Int))) Z (.int Z)
    obtain ⟨F,G⟩:=G.nM [72,17,16,15,14,13,12,10,4,2,1,0,73] [104,101,0,105,103,102]
    exact ⟨((1),(d2),(q2)),F,⟨by omega,by rw [hil,YA] at hM;exact hM,hmu⟩,G,by omega⟩
   have hj1:j=1:=by omega
   subst hj1
   clear hfk
   refine Ze G (qf (ZgE (l:=[mn,mm]) (p:=(fun y=>PV.int .i64 y)) Ycs kr kr (.conv .t (.aggU Z Z)) .t ow ow Z) r2 qz (qO rr qZ)) V [73,72,19,17,16,15,14,13,12,10,4,2,1,0] [105,104,103,102,101,0] Z Z fun a w F G=>?_
   try simp only [Yb] at G
   rw [show Nn [mn,mm] 1=mm from rfl] at G
   refine Za (Ya (rZ G (qR rr (qO rr qZ)) V [73,72,20,19,17,16,15,14,13,12,10,4,2,1,0] [105,104,103,102,101,0] fun G=>(Ya (Ya ?_))))
   refine Ze G (qR rr (qR rr (qR rr (qf (o_and .t .t) r2 qz (qf (o_eql .t .t) r2 qz qZ))))) V [81,73,72,20,19,17,16,15,14,13,12,10,4,2,1,0] [105,104,103,102,101,0] Z Z fun a w F G=>?_
   rw [hmm] at G
   refine Za (Zc G Z (fun hc7=>?_) (fun hc7=>?_))
   ·refine rZ G (qI qZ) V [73,72,20,19,17,16,15,14,13,12,10,4,2,1,0] [105,104,103,102,101,0] fun G=>Ya ?_
    refine rZ G (qR rr (qR rr (qR rr (qf (oP (Zin O I m (x / 2) mm (fun l hl=>(h.inn.r hE l hl).1) (by rw [h.ol,h.il])) func209 (Args.three .t .t .t)) r3 qz (qu Ycf r1 (qJ qZ)))))) V [87,86,85,73,72,20,17,16,15,14,13,12,10,4,2,1,0] [105,104,103,102,101,0] fun G=>Yg ?_
    refine Zk (σ:=(Nat)×(List Int)×(List Int)) [0,1,2,4,10,12,13,14,15,16,17,20,72,73,85,86] [0,101,104] (fun s=>[(87,.pv (.int .i64 (s.1:Int)))]) (fun s=>[(102,.ob (.val v28) (Zx 3 1 Zn (Zcy O.length s.2.1))),(103,.ob (.val v30) (Zx 3 1 Zn (ZaQ O.length s.2.1))),(105,RS.hp (rqH (.pointer (some ⟨qb,0,none⟩)) (2*(O.length:Int)) s.2.2))]) (fun s=>s.1≤(adjO I mm (x / 2)).length∧(Zdd (2*O.length) (ZdO (fun x=>adjO I mn x) (fun x=>adjO I mm x)) (2*least) (2*node) s.2.1 s.2.2 x (((adjO I mn (x / 2)).map fun u=>2*u+x % 2)++((adjO I mm (x / 2)).take s.1).map fun u=>2*u+1)∧2*negC s.2.1+s.2.2.length≤2*negC d+q.length)) (fun s=>(adjO I mm (x / 2)).length - s.1) ((0),(d1),(q1)) G ⟨rfl,rfl,rfl,rfl,rfl,rfl,rfl,rfl,rfl,rfl,rfl,rfl,rfl,rfl,rfl,rfl,rfl,tv⟩ ⟨rfl,rfl,rfl,rfl,rfl,rfl,tv⟩ ⟨Yw _,⟨by show Zdd _ _ _ _ _ _ _ (_ ++ []);rw [YS];exact hM1,hmu1⟩⟩ ?_
    clear G;intro s a w F hC G
    obtain ⟨i,d2,q2⟩:=s
    try dsimp only at hC
    obtain ⟨F,G⟩:=G.nM [87,86,85,73,72,20,17,16,15,14,13,12,10,4,2,1,0] [105,104,103,102,101,0]
    try dsimp only at G
    obtain ⟨hi,hq⟩:=hC
    obtain ⟨hM,hmu⟩:=hq
    have hdl:=hM.1.len
    have hxr:=hM.1.here
    have hxv:=hM.val
    have hqr:=hM.1.room
    have hpx:(adjO I mm (x / 2)).length≤O.length:=hlm _
    have hel:(Zcy O.length d2).length=O.length:=Zay
    have hol:(ZaQ O.length d2).length=O.length:=ZaL
    refine Ya (rZ G (qL r2) V [88,87,86,85,73,72,20,17,16,15,14,13,12,10,4,2,1,0] [105,104,103,102,101,0] fun G=>Ya ?_)
    refine Zc G Z (fun hc8=>?_) (fun hc8=>?_)
    ·have hil:i<(adjO I mm (x / 2)).length:=by simp at hc8;omega
     have hur:0≤(Nn (adjO I mm (x / 2)) i)∧(Nn (adjO I mm (x / 2)) i)<(O.length:Int):=hpm _ _ (nth_mem hil)
     have hsr:0≤2*(Nn (adjO I mm (x / 2)) i)+1∧2*(Nn (adjO I mm (x / 2)) i)+1<(((2*O.length):Nat):Int):=by omega
     refine Ye (Za (Ya (Yg (Ya (Ze G (qy 1 Ycf r2 (qf (oR false 1 .t) r1 qz (qO rr qZ))) V [87,86,85,73,72,22,20,17,16,15,14,13,12,10,4,2,1,0] [105,104,103,102,101,0] Z Z fun a w F G=>?_)))))
     try simp only [Yb] at G
     refine Za (Ya ?_)
     by_cases hfk:x % 2=0
     ·refine Ze G (qR rr (qR rr (qf (Zbs .t .t) r2 qz (qR rr (qm Z Z Z Z (qk Z (fun h=>ZF (sz:=1) 104 Yco kr .is (.w h) (by decide) (by decide) (by rfl)) r3 r1 (qw 104 Z r2 r1 (qm Z Z Z Z (qk Z (fun h=>o_indexAddr_row (sz:=1) 103 (.mk Ycf kr) (.w h .is) (.w h) ow ow (by rfl)) r3 r1 (qk Z (fun h=>Zu (ag:=false) (sz':=1) (sz:=1) 103 (.w h) (by intro x;rfl) ow kr kr kr) r2 r1 (qk Z (fun h=>ZaA (.w h) qi) r2 qz (qf (ZE .t .t) r2 qz qZ)))))))))))) V [102,87,86,85,73,72,22,20,17,16,15,14,13,12,10,4,2,1,0] [105,104,103,102,101,0] Z Z fun a w F G=>?_
      try simp only [Yb] at G
      refine Za (Zc G Z (fun hc9=>?_) (fun hc9=>?_))
      ·have hput:least≤(Nn (adjO I mm (x / 2)) i)∧fI d2 (2*(Nn (adjO I mm (x / 2)) i)+1)<0:=by rw [← Zb1 hur];simpa using hc9
       obtain ⟨hP1,hP2⟩:=hM.put hsr (YQ _ (Yu.2 ⟨_,nth_mem hil,rfl⟩)) ow hput.2
       have hval:IntKind.wrap .i64 (Nn (Zcy O.length d2) (x / 2).toNat+1)=fI d2 x+1:=by rw [Zfl hxa,show 2*(x / 2)+(0:Int)=x by omega];exact ZA ow
       refine Ya (Zw G (qR rr (qf (ZF (sz:=1) 104 Yco kr .is .t (by decide) (by decide) (by rfl)) r2 r1 (qa 104 r1 r1 (qR rr (qR rr (qf (ZF (sz:=1) 104 Yco kr .is (.conv .t (.int hfk)) (by decide) (by decide) (by rfl)) r2 r1 (qa 104 r1 r1 (qR rr (qf (o_indexAddr_row (sz:=1) 102 (.mk Ycf kr) .is .t ow ow (by rfl)) r2 r1 (qf (Zu (ag:=false) (sz':=1) (sz:=1) 102 .t (by intro x;rfl) ow kr kr kr) r1 r1 (qp r1 (qf (o_indexAddr_row (sz:=1) 103 (.mk Ycf kr) .is .t ow ow (by rfl)) r2 r1 (qf (ZJ (R:=Zn) (sz:=1) (v:=_) 103 .t (by intro x;rfl) ow .t Z one_int kr) r2 r1 qZ))))))))))))) V [87,86,85,73,72,22,20,17,16,15,14,13,12,10,4,2,1,0] [105,104,103,102,101,0] Z Z fun a w F G=>?_)
       try dsimp only [List.map,Zf,xL,xM,Nat.reduceAdd,xD,xE,xT,xU,xC,xN,zCF,ldSF,Zn] at G
       try simp only [Yb] at G
       rw [hval,← ZhU hdl hur,← ZeS (c:=fI d2 x+1) hdl hur] at G
       refine Za (Ze G (qR rr (qR rr (qf (o_shl .t qi (by decide)) r1 qz (qR rr (qf (Zs8 .t .t) r2 qz (qf (ZK 105 (ZcJ qb (2*(O.length:Int)) q2 (2*(Nn (adjO I mm (x / 2)) i)+1) ow) func207 Z kr (Args.two .t (.conv .t (Ent.int (ZiK ⟨by omega,by omega⟩ ow))))) r2 r1 qZ)))))) V [87,86,85,73,72,20,17,16,15,14,13,12,10,4,2,1,0] [105,104,103,102,101,0] Z Z fun a w F G=>Zi (Za ?_))
       refine rZ G (qp r1 (qR rr qZ)) V [87,86,85,73,72,20,17,16,15,14,13,12,10,4,2,1,0] [105,104,103,102,101,0] fun G=>?_
       have hmu3:2*negC (d2.set (2*(Nn (adjO I mm (x / 2)) i)+1).toNat (fI d2 x+1))+(q2 ++ [2*(Nn (adjO I mm (x / 2)) i)+1]).length≤2*negC d+q.length:=by rw [Yd,YN];omega
       replace G:=G.ent (i:=87) (s':=.pv (.int .i64 ((i+1:Nat):Int))) Z (.int (Zd ow))
       obtain ⟨F,G⟩:=G.nM [86,85,73,72,20,17,16,15,14,13,12,10,4,2,1,0,87] [104,101,0,105,103,102]
       exact ⟨((i+1),_,(q2 ++ [2*(Nn (adjO I mm (x / 2)) i)+1])),F,⟨by omega,⟨by rw [Zp hil,YR,← YO];exact hP1,hmu3⟩⟩,G,by omega⟩
      have hsk:2*least≤2*(Nn (adjO I mm (x / 2)) i)+1→0≤fI d2 (2*(Nn (adjO I mm (x / 2)) i)+1):=fun h9=>by have h8:=hc9;rw [Zb1 hur] at h8;simp at h8;exact h8 ow
      refine Ye (Zi (Za (rZ G (qp r1 (qR rr qZ)) V [87,86,85,73,72,20,17,16,15,14,13,12,10,4,2,1,0] [105,104,103,102,101,0] fun G=>?_)))
      replace G:=G.ent (i:=87) (s':=.pv (.int .i64 ((i+1:Nat):Int))) Z (.int (Zd ow))
      obtain ⟨F,G⟩:=G.nM [86,85,73,72,20,17,16,15,14,13,12,10,4,2,1,0,87] [104,101,0,105,103,102]
      exact ⟨((i+1),_,_),F,⟨by omega,⟨by rw [Zp hil,YR,← YO];exact hM.skip hsr hsk,hmu⟩⟩,G,by omega⟩
     have hh1:x % 2=1:=by omega
     refine Ze G (qR rr (qR rr (qf (Zbs .t .t) r2 qz (qR rr (qm Z Z Z Z (qk Z (fun h=>ZF (sz:=1) 104 Yco kr .is (.w h) (by decide) (by decide) (by rfl)) r3 r1 (qw 104 Z r2 r1 (qm Z Z Z Z (qk Z (fun h=>o_indexAddr_row (sz:=1) 103 (.mk Ycf kr) (.w h .is) (.w h) ow ow (by rfl)) r3 r1 (qk Z (fun h=>Zu (ag:=false) (sz':=1) (sz:=1) 103 (.w h) (by intro x;rfl) ow kr kr kr) r2 r1 (qk Z (fun h=>ZaA (.w h) qi) r2 qz (qf (ZE .t .t) r2 qz qZ)))))))))))) V [102,87,86,85,73,72,22,20,17,16,15,14,13,12,10,4,2,1,0] [105,104,103,102,101,0] Z Z fun a w F G=>?_
     try simp only [Yb] at G
     refine Za (Zc G Z (fun hc10=>?_) (fun hc10=>?_))
     ·have hput:least≤(Nn (adjO I mm (x / 2)) i)∧fI d2 (2*(Nn (adjO I mm (x / 2)) i)+1)<0:=by rw [← Zb1 hur];simpa using hc10
      obtain ⟨hP1,hP2⟩:=hM.put hsr (YQ _ (Yu.2 ⟨_,nth_mem hil,rfl⟩)) ow hput.2
      have hval:IntKind.wrap .i64 (Nn (ZaQ O.length d2) (x / 2).toNat+1)=fI d2 x+1:=by rw [Zb1 hxa,show 2*(x / 2)+(1:Int)=x by omega];exact ZA ow
      refine Ya (Zw G (qR rr (qf (ZF (sz:=1) 104 Yco kr .is .t (by decide) (by decide) (by rfl)) r2 r1 (qa 104 r1 r1 (qR rr (qR rr (qf (ZF (sz:=1) 104 Yco kr .is (.conv .t (.int hh1)) (by decide) (by decide) (by rfl)) r2 r1 (qa 104 r1 r1 (qR rr (qf (o_indexAddr_row (sz:=1) 103 (.mk Ycf kr) .is .t ow ow (by rfl)) r2 r1 (qf (Zu (ag:=false) (sz':=1) (sz:=1) 103 .t (by intro x;rfl) ow kr kr kr) r1 r1 (qp r1 (qf (o_indexAddr_row (sz:=1) 103 (.mk Ycf kr) .is .t ow ow (by rfl)) r2 r1 (qf (ZJ (R:=Zn) (sz:=1) (v:=_) 103 .t (by intro x;rfl) ow .t Z one_int kr) r2 r1 qZ))))))))))))) V [87,86,85,73,72,22,20,17,16,15,14,13,12,10,4,2,1,0] [105,104,103,102,101,0] Z Z fun a w F G=>?_)
      try dsimp only [List.map,Zf,xL,xM,Nat.reduceAdd,xD,xE,xT,xU,xC,xN,zCF,ldSF,Zn] at G
      try simp only [Yb] at G
      rw [hval,← ZhU hdl hur,← ZeS (c:=fI d2 x+1) hdl hur] at G
      refine Za (Ze G (qR rr (qR rr (qf (o_shl .t qi (by decide)) r1 qz (qR rr (qf (Zs8 .t .t) r2 qz (qf (ZK 105 (ZcJ qb (2*(O.length:Int)) q2 (2*(Nn (adjO I mm (x / 2)) i)+1) ow) func207 Z kr (Args.two .t (.conv .t (Ent.int (ZiK ⟨by omega,by omega⟩ ow))))) r2 r1 qZ)))))) V [87,86,85,73,72,20,17,16,15,14,13,12,10,4,2,1,0] [105,104,103,102,101,0] Z Z fun a w F G=>Zi (Za ?_))
      refine rZ G (qp r1 (qR rr qZ)) V [87,86,85,73,72,20,17,16,15,14,13,12,10,4,2,1,0] [105,104,103,102,101,0] fun G=>?_
      have hmu3:2*negC (d2.set (2*(Nn (adjO I mm (x / 2)) i)+1).toNat (fI d2 x+1))+(q2 ++ [2*(Nn (adjO I mm (x / 2)) i)+1]).length≤2*negC d+q.length:=by rw [Yd,YN];omega
      replace G:=G.ent (i:=87) (s':=.pv (.int .i64 ((i+1:Nat):Int))) Z (.int (Zd ow))
      obtain ⟨F,G⟩:=G.nM [86,85,73,72,20,17,16,15,14,13,12,10,4,2,1,0,87] [104,101,0,105,103,102]
      exact ⟨((i+1),_,(q2 ++ [2*(Nn (adjO I mm (x / 2)) i)+1])),F,⟨by omega,⟨by rw [Zp hil,YR,← YO];exact hP1,hmu3⟩⟩,G,by omega⟩
     have hsk:2*least≤2*(Nn (adjO I mm (x / 2)) i)+1→0≤fI d2 (2*(Nn (adjO I mm (x / 2)) i)+1):=fun h9=>by have h8:=hc10;rw [Zb1 hur] at h8;simp at h8;exact h8 ow
     refine Ye (Zi (Za (rZ G (qp r1 (qR rr qZ)) V [87,86,85,73,72,20,17,16,15,14,13,12,10,4,2,1,0] [105,104,103,102,101,0] fun G=>?_)))
     replace G:=G.ent (i:=87) (s':=.pv (.int .i64 ((i+1:Nat):Int))) Z (.int (Zd ow))
     obtain ⟨F,G⟩:=G.nM [86,85,73,72,20,17,16,15,14,13,12,10,4,2,1,0,87] [104,101,0,105,103,102]
     exact ⟨((i+1),_,_),F,⟨by omega,⟨by rw [Zp hil,YR,← YO];exact hM.skip hsr hsk,hmu⟩⟩,G,by omega⟩
    have hil:i=(adjO I mm (x / 2)).length:=by simp at hc8;omega
    refine Yx (Zj (Zj (Zo (Zi (Za (rZ G (qp r1 (qR rr qZ)) V [73,72,17,16,15,14,13,12,10,4,2,1,0] [105,104,103,102,101,0] fun G=>?_))))))
    replace G:=G.ent (i:=73) (s':=.pv (.int .i64 (((2:Nat):Nat):Int))) Z (.int Z)
    obtain ⟨F,G⟩:=G.nM [72,17,16,15,14,13,12,10,4,2,1,0,73] [104,101,0,105,103,102]
    exact ⟨((2),(d2),(q2)),F,⟨by omega,by rw [hil,YA] at hM;exact hM,hmu⟩,G,by omega⟩
   simp at hc7
  have hj3:j=2:=by simp at hc2;omega
  subst hj3
  have hBI2:ZdZ (2*O.length) (ZdO (fun x=>adjO I mn x) (fun x=>adjO I mm x)) (2*least) (2*node) d1 q1:=Zdd.done hM1
  have hmu2:2*negC d1+q1.length<2*negC d+(x :: q).length:=by rw [Yl];omega
  refine Yx (Zj (Zj (Zo (Zi (Za (rZ G (qR rr (qf (ZK 105 (ZiA qb (2*(O.length:Int)) q1) func208 Z kr (Args.one .t)) r1 r1 (qR rr (qf (Zh .t Z) r1 qz (qf (Zh .t Z) r1 qz (qO rr (qO rr qZ))))))) V [15,14,13,12,10,4,2,1,0] [105,104,103,102,101,0] fun G=>?_))))))
  obtain ⟨F,G⟩:=G.nM [13,12,10,4,2,1,0,15,14] [104,101,0,105,103,102]
  exact ⟨((d1),(q1)),F,hBI2,G,hmu2⟩
 have hqe:q = []:=by simpa using hc1
 subst hqe
 have hfin:ZaQ O.length d=ZaQ O.length D:=Y8 _ ((Zoo.dist hpr hBI.1).one hD)
 refine Yx (Zj (Zj (Zo (Za (Ya (Ze G (qf (ZF (sz:=1) 104 Yco kr .is qi (by decide) (by decide) (by rfl)) r1 r1 (qa 104 r1 r1 (qO rr qZ))) V [10] [105,104,103,102,101,0] Z Z fun a w F G=>?_))))))
 try simp only [Yb] at G
 refine Za (Yh ?_)
 obtain ⟨F,G⟩:=G.give 103 10 Z rfl
 refine Zs hfr G Z Z Z (.sl hfin)
def Zvk (u:Int) (e:Z7):Zy:=⟨u,e.node,e.kind,e.label⟩
def Zac (O:List (List Z7)) (mask u:Int):List Zy:=if 0≤u∧u<O.length then ((Nn O u.toNat).filter fun e=>ofB mask e.kind).map (Zvk u) else []
def ZnJ (x:Zy):Int:=(x.kind*1048576+x.label)*4096+x.dst
theorem Zto {α:Type} [Inhabited α] {κ:α→Int} {l:List α} (h:ZcK κ l):l.Pairwise fun a b=>κ a<κ b:=YaN.2 fun a b ha hb hab=>by
 have:=h a b hab hb
 rwa [nth_eq ha,nth_eq hb] at this
theorem ZbU.outM {n:Nat} {E:List Zy} {O I:List (List Z7)} (h:ZbU n E O I) (mask u:Int) (x:Zy):x ∈ Zac O mask u ↔ (x ∈ E∧ofB mask x.kind=true)∧x.src=u:=by
 unfold Zac
 by_cases hu:0≤u∧u<O.length
 ·have hol:=h.ol
  rw [Yf hu,Yu]
  constructor
  ·rintro ⟨e,h1,rfl⟩
   obtain ⟨h2,h3⟩:=YU.1 h1
   obtain ⟨y,y1,y2,rfl⟩:=(h.om u.toNat ow e).1 h2
   have e1:y.src=u:=by omega
   have e2:Zvk u (endO y)=y:=by subst e1;rfl
   rw [e2]
   exact ⟨⟨y1,h3⟩,e1⟩
  ·rintro ⟨⟨h1,h2⟩,rfl⟩
   exact ⟨endO x,YU.2 ⟨(h.om x.src.toNat ow _).2 ⟨x,h1,by omega,rfl⟩,h2⟩,rfl⟩
 ·rw [Yc hu]
  constructor
  ·intro k;cases k
  ·rintro ⟨⟨h1,_⟩,rfl⟩
   have:=(ZP.1 (h.ok x h1)).1
   have:=h.ol
   exact absurd ⟨by omega,by omega⟩ hu
theorem ZbU.outP {n:Nat} {E:List Zy} {O I:List (List Z7)} (h:ZbU n E O I) (mask u:Int):(Zac O mask u).Pairwise fun a b=>ZnJ a<ZnJ b:=by
 unfold Zac
 split
 ·have hol:=h.ol
  exact Ya0.2 (List.Pairwise.filter _ (Zto (h.on _ (nth_mem ow)).2.1))
 ·exact .nil
theorem ZbU.outR {n:Nat} {E:List Zy} {O I:List (List Z7)} (h:ZbU n E O I) (mask u:Int):∀ x ∈ Zac O mask u,(0≤x.dst∧x.dst<(n:Int))∧1≤x.kind∧x.kind≤3:=fun x hx=>by
 have k:=ZP.1 (h.ok x ((h.outM mask u x).1 hx).1.1)
 exact ⟨k.2.1,k.2.2.1⟩
theorem ZbU.outL {n:Nat} {E:List Zy} {O I:List (List Z7)} (h:ZbU n E O I) (mask u:Int):(Zac O mask u).length≤E.length:=by
 unfold Zac
 split
 ·have hol:=h.ol
  rw [YH]
  exact Y4 (Yaa _ _) (h.on _ (nth_mem ow)).1
 ·exact Yw _
theorem bit1 (y:Int):bits .and .i64 y 1=0∨bits .and .i64 y 1=1:=by
 have h:(BitVec.ofInt 64 y &&& BitVec.ofInt 64 ((1:Nat):Int)).toNat≤1:=by rw [Ybt,ZiZ 1 ow];exact Nat.and_le_right
 have e:bits .and .i64 y 1=IntKind.wrap .i64 (((BitVec.ofInt 64 y &&& BitVec.ofInt 64 ((1:Nat):Int)).toNat:Nat):Int):=rfl
 rw [e,ZA ow]
 omega
theorem of_zero (mask kind:Int):decide (bits .and .i64 (mask.fdiv (2 ^ min (IntKind.wrap .u64 kind).toNat (IntKind.bits .i64))) 1=0) = !ofB mask kind:=by
 unfold ofB
 rcases bit1 (mask.fdiv (2 ^ min (IntKind.wrap .u64 kind).toNat (IntKind.bits .i64))) with h | h <;> rw [h] <;> decide
theorem Zps {α:Type} [Inhabited α] {p:α→Bool} {l:List α} {i:Nat} (hi:i=l.length) (hb:∀ q,q<i→p (Nn l q)=false):l.find? p=none:=by
 subst hi
 refine Ybx.2 fun x hx=>?_
 obtain ⟨q,hq,rfl⟩:=Ya6.1 hx
 rw [← nth_eq hq,hb q hq];decide
def Zeq (A:Zy→Prop) (i:Int):Int→List Zy→Int→Prop
 | a,[],b=>a=b
 | a,x :: w,b=>A x∧x.src=a∧i≤x.dst∧Zeq A i x.dst w b
def Zc5 (m:Zy→Bool) (need:Bool) (w:List Zy):Prop:=need=true → ∃ x ∈ w,m x=true
def Zt6 (A:Zy→Prop) (m:Zy→Bool) (i:Int) (need:Bool) (u k:Int):Prop:=
 (k = -1 ∧ ∀ w,Zeq A i u w i→¬ Zc5 m need w) ∨ ∃ w,Zeq A i u w i∧Zc5 m need w∧(w.length:Int)=k ∧ ∀ w',Zeq A i u w' i→Zc5 m need w' → w.length≤w'.length
def CwA (A:Zy→Prop) (m:Zy→Bool) (need:Bool) (i:Int) (w:List Zy):Prop:=w≠[]∧Zeq A i i w i∧Zc5 m need w
def Zsd (A:Zy→Prop) (m:Zy→Bool) (i:Int) (need:Bool) (u:Int) (n:Nat):Prop:=
 (∃ w,w≠[]∧Zeq A i u w i∧Zc5 m need w∧w.length=n) ∧ ∀ w,w≠[]→Zeq A i u w i→Zc5 m need w→n≤w.length
def LtA (κ:Zy→Int):List Zy→List Zy→Prop
 | x :: w,y :: v=>κ x<κ y∨(x=y∧LtA κ w v)
 | _,_=>False
def ZG (m:Zy→Bool) (any with_:List Int) (need:Bool) (x:Zy):Int:=if need && !m x then fI with_ x.dst else fI any x.dst
def ZcM (f:Zy→Int) (l:List Zy) (b:Int):Prop:=0≤b∧(b=0 → ∀ a ∈ l,f a<0)∧(0<b→(∃ a ∈ l,f a=b - 1) ∧ ∀ a ∈ l,0≤f a→b - 1≤f a)
theorem ZcM.nil (f:Zy→Int):ZcM f [] 0:=⟨Yap _,(fun _ a h=>by cases h),fun h=>absurd h (by decide)⟩
theorem ZcM.take {f:Zy→Int} {l:List Zy} {b:Int} {x:Zy} (h:ZcM f l b) (h1:0≤f x) (h2:b=0∨f x+1<b):ZcM f (l ++ [x]) (f x+1):=by
 obtain ⟨a1,a2,a3⟩:=h
 refine ⟨by omega,fun h=>by omega,fun _=>⟨⟨x,by simp,by omega⟩,fun a ha hf=>?_⟩⟩
 rcases YB.1 ha with ha | ha
 ·rcases h2 with h2 | h2
  ·have:=a2 h2 a ha;omega
  ·have:=(a3 ow).2 a ha hf;omega
 ·rw [Yk.1 ha];omega
theorem ZcM.skip {f:Zy→Int} {l:List Zy} {b:Int} {x:Zy} (h:ZcM f l b) (h1:¬ (0≤f x∧(b=0∨f x+1<b))):ZcM f (l ++ [x]) b:=by
 obtain ⟨a1,a2,a3⟩:=h
 refine ⟨a1,fun hb a ha=>?_,fun hb=>?_⟩
 ·rcases YB.1 ha with ha | ha
  ·exact a2 hb a ha
  ·rw [Yk.1 ha];omega
 ·obtain ⟨⟨a,b1,b2⟩,b3⟩:=a3 hb
  refine ⟨⟨a,by simp [b1],b2⟩,fun a ha hf=>?_⟩
  rcases YB.1 ha with ha | ha
  ·exact b3 a ha hf
  ·rw [Yk.1 ha] at hf ⊢;omega
section
variable {A:Zy→Prop} {m:Zy→Bool} {i:Int} {κ:Zy→Int} {any with_:List Int}
theorem Zcm {need:Bool} {x:Zy} {w:List Zy} : Zc5 m need (x :: w) ↔ Zc5 m (need && !m x) w:=by
 unfold Zc5
 cases need <;> cases hx:m x <;> simp [hx]
structure Zct (A:Zy→Prop) (m:Zy→Bool) (i:Int) (any with_:List Int):Prop where
 fa:∀ x,A x→i≤x.dst→Zt6 A m i false x.dst (fI any x.dst)
 fw:∀ x,A x→i≤x.dst→Zt6 A m i true x.dst (fI with_ x.dst)
 less:∀ x,A x→x.dst<i→fI any x.dst = -1∧fI with_ x.dst = -1
theorem Zct.left (h:Zct A m i any with_) {x:Zy} (hx:A x) (hi:i≤x.dst) (need:Bool):Zt6 A m i (need && !m x) x.dst (ZG m any with_ need x):=by
 unfold ZG
 cases hn:(need && !m x)
 ·rw [Yc (by simp)];exact h.fa x hx hi
 ·rw [Yf rfl];exact h.fw x hx hi
theorem Zct.low (h:Zct A m i any with_) {x:Zy} (hx:A x) (hi:x.dst<i) (need:Bool):ZG m any with_ need x = -1:=by
 unfold ZG
 split
 ·exact (h.less x hx hi).2
 ·exact (h.less x hx hi).1
theorem Zct.way (h:Zct A m i any with_) {x:Zy} (hx:A x) {need:Bool} (h0:0≤ZG m any with_ need x):i≤x.dst ∧ ∃ w,Zeq A i x.src (x :: w) i∧Zc5 m need (x :: w)∧(w.length:Int)=ZG m any with_ need x ∧ ∀ w',Zeq A i x.dst w' i→Zc5 m (need && !m x) w' → w.length≤w'.length:=by
 have hi:i≤x.dst:=Int.not_lt.1 fun k=>by rw [h.low hx k] at h0;omega
 refine ⟨hi,?_⟩
 rcases h.left hx hi need with ⟨k,_⟩ | ⟨w,w1,w2,w3,w4⟩
 ·omega
 ·exact ⟨w,⟨hx,rfl,hi,w1⟩,Zcm.2 w2,w3,w4⟩
theorem Zct.first (h:Zct A m i any with_) {x:Zy} {w:List Zy} {u:Int} {need:Bool} (hw:Zeq A i u (x :: w) i) (hm:Zc5 m need (x :: w)):0≤ZG m any with_ need x∧ZG m any with_ need x≤w.length:=by
 obtain ⟨h1,h2,h3,h4⟩:=hw
 rcases h.left h1 h3 need with ⟨_,k⟩ | ⟨v,v1,v2,v3,v4⟩
 ·exact absurd (Zcm.1 hm) (k w h4)
 ·have:=v4 w h4 (Zcm.1 hm);omega
theorem Zct.short (h:Zct A m i any with_) {need:Bool} {u:Int} {l:List Zy} (hl:∀ x,x ∈ l ↔ A x∧x.src=u) {b:Int} (hb:ZcM (ZG m any with_ need) l b):(b=0 → ∀ w,w≠[]→Zeq A i u w i→¬ Zc5 m need w)∧(0<b→Zsd A m i need u b.toNat):=by
 obtain ⟨b0,b1,b2⟩:=hb
 constructor
 ·intro hb w hn hw hm
  cases w with
  | nil=>exact hn rfl
  | cons x w=>
   have k:=b1 hb x ((hl x).2 ⟨hw.1,hw.2.1⟩)
   have:=(h.first hw hm).1
   omega
 ·intro hb
  obtain ⟨⟨a,a1,a2⟩,a3⟩:=b2 hb
  obtain ⟨a4,a5⟩:=(hl a).1 a1
  obtain ⟨_,w,w1,w2,w3,_⟩:=h.way a4 (need:=need) ow
  refine ⟨⟨a :: w,by simp,a5 ▸ w1,w2,by rw [Yl];omega⟩,fun v hn hv hm=>?_⟩
  cases v with
  | nil=>exact absurd rfl hn
  | cons x v=>
   obtain ⟨k1,k2⟩:=h.first hv hm
   have:=a3 x ((hl x).2 ⟨hv.1,hv.2.1⟩) k1
   rw [Yl];omega
theorem Zsp {a b:Int} {w:List Zy} {x:Zy} : Zeq A i a (w ++ [x]) b ↔ Zeq A i a w x.src∧A x∧i≤x.dst∧x.dst=b:=by
 induction w generalizing a with
 | nil=>exact ⟨fun ⟨h1,h2,h3,h4⟩=>⟨h2.symm,h1,h3,h4⟩,fun ⟨h1,h2,h3,h4⟩=>⟨h2,h1.symm,h3,h4⟩⟩
 | cons y w ih=>
  rw [Yaf]
  show (A y∧y.src=a∧i≤y.dst∧Zeq A i y.dst (w ++ [x]) b) ↔ (A y∧y.src=a∧i≤y.dst∧Zeq A i y.dst w x.src)∧_
  rw [ih]
  constructor
  ·rintro ⟨h1,h2,h3,h4,h5⟩;exact ⟨⟨h1,h2,h3,h4⟩,h5⟩
  ·rintro ⟨⟨h1,h2,h3,h4⟩,h5⟩;exact ⟨h1,h2,h3,h4,h5⟩
theorem Zuw {a b:Int} {w v:List Zy} : Zeq A i a (w++v) b ↔ ∃ c,Zeq A i a w c∧Zeq A i c v b:=by
 induction w generalizing a with
 | nil=>exact ⟨fun h=>⟨a,rfl,h⟩,fun ⟨c,h,k⟩=>by subst h;exact k⟩
 | cons y w ih=>
  rw [Yaf]
  show (A y∧y.src=a∧i≤y.dst∧Zeq A i y.dst (w++v) b) ↔ _
  rw [ih]
  constructor
  ·rintro ⟨h1,h2,h3,c,h4,h5⟩;exact ⟨c,⟨h1,h2,h3,h4⟩,h5⟩
  ·rintro ⟨c,⟨h1,h2,h3,h4⟩,h5⟩;exact ⟨h1,h2,h3,c,h4,h5⟩
theorem Zo3 {a b c:Int} : ∀ {w:List Zy},Zeq A i a w b→Zeq A i a w c→b=c
 | [],h,k=>h.symm.trans k
 | x :: w,h,k=>Zo3 (w:=w) h.2.2.2 k.2.2.2
theorem Zt5 {w v:List Zy} {x:Zy} : LtA κ w v→LtA κ (w ++ [x]) v:=by
 induction w generalizing v with
 | nil=>intro h;cases v <;> exact h.elim
 | cons y w ih=>
  intro h
  cases v with
  | nil=>exact h.elim
  | cons z v=>
   rcases h with h | ⟨h,k⟩
   ·exact .inl h
   ·exact .inr ⟨h,ih k⟩
theorem Zwb {w v:List Zy} {x y:Zy} (h:κ x<κ y):LtA κ (w ++ [x]) (w++y :: v):=by
 induction w with
 | nil=>exact .inl h
 | cons z w ih=>exact .inr ⟨rfl,ih⟩
structure Zch (A:Zy→Prop) (m:Zy→Bool) (κ:Zy→Int) (i:Int) (k:Nat) (need0:Bool) (way:List Zy) (here:Int) (n:Nat) (need:Bool):Prop where
 path:Zeq A i i way here
 len:way.length+n=k
 must:need=(need0 && !way.any m)
 near:0<n→Zsd A m i need here n
 zero:n=0→here=i∧need=false
 first:∀ w,CwA A m need0 i w→w.length=k→(∃ v,w=way++v)∨LtA κ way w
theorem ZrM {need0:Bool} {way v:List Zy} : Zc5 m need0 (way++v) ↔ Zc5 m (need0 && !way.any m) v:=by
 induction way generalizing need0 with
 | nil=>simp
 | cons x w ih=>
  rw [Yaf,Zcm,ih,YbT]
  cases need0 <;> cases m x <;> simp
theorem Zch.start {k:Nat} {need:Bool} (hk:0<k) (h:Zsd A m i need i k):Zch A m κ i k need [] i k need:=
 ⟨rfl,by simp,by simp,fun _=>h,fun h=>by omega,fun w _ _=>.inl ⟨w,rfl⟩⟩
theorem Zch.next {k n:Nat} {need0 need:Bool} {way:List Zy} {x:Zy} (hL:Zct A m i any with_) (h:Zch A m κ i k need0 way x.src (n+1) need) (hx:A x) (hf:ZG m any with_ need x=n)
  (hmin:∀ y,A y→y.src=x.src→ZG m any with_ need y=n→y=x∨κ x<κ y):Zch A m κ i k need0 (way ++ [x]) x.dst n (need && !m x):=by
 obtain ⟨hi,w,w1,w2,w3,w4⟩:=hL.way hx (need:=need) ow
 refine ⟨Zsp.2 ⟨h.path,hx,hi,rfl⟩,by rw [Yd,YN];have:=h.len;omega,?_,fun hn=>⟨⟨w,fun e=>by subst e;simp at w3;omega,w1.2.2.2,Zcm.1 w2,by omega⟩,fun v _ hv hm=>by have:=w4 v hv hm;omega⟩,fun hn=>?_,fun v hv hvl=>?_⟩
 ·rw [h.must,List.any_append];cases need0 <;> simp
 ·have e:w = []:=YP ow
  subst e
  refine ⟨w1.2.2.2,?_⟩
  have:=Zcm.1 w2
  cases hn2:(need && !m x)
  ·rfl
  ·obtain ⟨y,hy,_⟩:=this hn2;cases hy
 ·rcases h.first v hv hvl with ⟨u,e⟩ | e
  ·subst e
   cases u with
   | nil=>rw [YS] at hvl;have:=h.len;omega
   | cons y u=>
    obtain ⟨c,c1,c2⟩:=Zuw.1 hv.2.1
    have ec:c=x.src:=Zo3 c1 h.path
    subst ec
    have hm:Zc5 m need (y :: u):=by rw [h.must];exact ZrM.1 hv.2.2
    obtain ⟨f1,f2⟩:=hL.first c2 hm
    have hlen:u.length=n:=by
     have:=h.len
     rw [Yd,Yl] at hvl;omega
    have hge:=(h.near ow).2
    obtain ⟨_,z,z1,z2,z3,_⟩:=hL.way c2.1 (need:=need) f1
    have:=hge (y :: z) (by simp) (c2.2.1 ▸ z1) z2
    rw [Yl] at this
    rcases hmin y c2.1 c2.2.1 ow with e | e
    ·subst e;exact .inl ⟨u,by rw [YO];rfl⟩
    ·exact .inr (Zwb e)
  ·exact .inr (Zt5 e)
theorem Zch.some {k n:Nat} {need0 need:Bool} {way:List Zy} {here:Int} (hL:Zct A m i any with_) (h:Zch A m κ i k need0 way here (n+1) need):∃ x,A x∧x.src=here∧i≤x.dst∧ZG m any with_ need x=n:=by
 obtain ⟨⟨w,hn,hw,hm,hl⟩,hmin⟩:=h.near ow
 cases w with
 | nil=>exact absurd rfl hn
 | cons x w=>
  obtain ⟨f1,f2⟩:=hL.first hw hm
  obtain ⟨hi,z,z1,z2,z3,_⟩:=hL.way hw.1 (need:=need) f1
  have:=hmin (x :: z) (by simp) (hw.2.1 ▸ z1) z2
  rw [Yl] at this hl
  exact ⟨x,hw.1,hw.2.1,hi,by omega⟩
theorem Zch.done {k:Nat} {need0 need:Bool} {way:List Zy} {here:Int} (hk:0<k) (h:Zch A m κ i k need0 way here 0 need):CwA A m need0 i way∧way.length=k ∧ ∀ w,CwA A m need0 i w→w.length=k→w=way∨LtA κ way w:=by
 obtain ⟨z1,z2⟩:=h.zero rfl
 have hl:way.length=k:=by have:=h.len;omega
 subst z1
 refine ⟨⟨fun e=>by subst e;simp at hl;omega,h.path,?_⟩,hl,fun w hw hwl=>?_⟩
 ·have:=h.must
  rw [z2] at this
  intro hn
  subst hn
  simp at this
  obtain ⟨x,h1,h2⟩:=this
  exact ⟨x,h1,h2⟩
 ·rcases h.first w hw hwl with ⟨v,e⟩ | e
  ·left
   rw [e,Yd] at hwl
   have:v = []:=YP ow
   rw [e,this,YS]
  ·exact .inr e
def ZdL (A:Zy→Prop) (m:Zy→Bool) (κ:Zy→Int) (need:Bool) (n:Int) (way:List Zy):Prop:=
 (way = [] → ∀ j w,j<n→¬ CwA A m need j w)∧(way≠[] → ∃ j,j<n∧CwA A m need j way ∧ ∀ j' w,j' < n→CwA A m need j' w→way.length<w.length∨(way.length=w.length∧(j<j' ∨ (j=j' ∧ (w=way∨LtA κ way w)))))
end
def Z0 (f:Zy→Int) (l:List Zy):Int:=l.foldl (fun b x=>if 0≤f x∧(b=0∨f x+1<b) then f x+1 else b) 0
theorem ZdB {f:Zy→Int} {l:List Zy} {x:Zy} : Z0 f (l ++ [x])=if 0≤f x∧(Z0 f l=0∨f x+1<Z0 f l) then f x+1 else Z0 f l:=by
 unfold Z0
 rw [Yat];rfl
theorem Zi2 (f:Zy→Int) (l:List Zy):ZcM f l (Z0 f l):=by
 suffices ∀ r:List Zy,ZcM f r.reverse (Z0 f r.reverse) by have:=this l.reverse;rwa [YbW] at this
 intro r
 induction r with
 | nil=>exact ZcM.nil f
 | cons x r ih=>
  rw [List.reverse_cons,ZdB]
  split
  ·rename_i h;exact ih.take h.1 h.2
  ·rename_i h;exact ih.skip h
theorem Zjb {f:Zy→Int} {l:List Zy} {N:Int} (hN:0≤N) (h:∀ x ∈ l,f x+1≤N):0≤Z0 f l∧Z0 f l≤N:=by
 obtain ⟨h1,h2,h3⟩:=Zi2 f l
 refine ⟨h1,?_⟩
 by_cases h0:Z0 f l=0
 ·omega
 ·obtain ⟨a,a1,a2⟩:=(h3 ow).1
  have:=h a a1;omega
def Zbd (out:Int→List Zy) (f:Bool→Zy→Int) (m:Zy→Bool) (i:Int):Nat→Int→Bool→List Zy
 | 0,_,_=>[]
 | n+1,here,need=>match (out here).find? fun x=>decide (i≤x.dst) && decide (f need x=n) with
  | none=>[]
  | some x=>x :: Zbd out f m i n x.dst (need && !m x)
theorem ZmR {α:Type} [Inhabited α] {p:α→Bool} {l:List α} {i:Nat} (hi:i<l.length) (hp:p (Nn l i)=true) (hb:∀ q,q<i→p (Nn l q)=false):l.find? p=some (Nn l i):=by
 induction l generalizing i with
 | nil=>simp at hi
 | cons y l ih=>
  cases i with
  | zero=>
   rw [nth_eq (by simp)] at hp ⊢
   exact List.find?_cons_of_pos hp
  | succ i=>
   have h0:=hb 0 ow
   rw [nth_eq (by simp)] at h0
   have hs:∀ q,q<l.length→Nn (y :: l) (q+1)=Nn l q:=fun q hq=>by rw [nth_eq (by simpa using hq),nth_eq hq];rfl
   have hi':i<l.length:=by simpa using hi
   rw [hs i hi'] at hp ⊢
   rw [List.find?_cons_of_neg (by simpa using h0)]
   exact ih hi' hp fun q hq=>by have:=hb (q+1) ow;rwa [hs q ow] at this
section
variable {A:Zy→Prop} {m:Zy→Bool} {i:Int} {κ:Zy→Int} {any with_:List Int}
theorem Zht {out:Int→List Zy} (ho:∀ u x,x ∈ out u ↔ A x∧x.src=u) (hs:∀ u,(out u).Pairwise fun a b=>κ a<κ b) (hL:Zct A m i any with_) {k n:Nat} {need0 need:Bool} {way:List Zy} {here:Int} (h:Zch A m κ i k need0 way here (n+1) need) :
  ∃ x,(out here).find? (fun x=>decide (i≤x.dst) && decide (ZG m any with_ need x=n))=some x∧x.src=here∧Zch A m κ i k need0 (way ++ [x]) x.dst n (need && !m x):=by
 obtain ⟨y,y1,y2,y3,y4⟩:=h.some hL
 have hy:y ∈ out here:=(ho _ _).2 ⟨y1,y2⟩
 cases hf:(out here).find? (fun x=>decide (i≤x.dst) && decide (ZG m any with_ need x=n)) with
 | none=>have:=Ybx.1 hf y hy;simp [y3,y4] at this
 | some x=>
  have hx:=List.find?_some hf
  have hm:=List.mem_of_find?_eq_some hf
  simp at hx
  obtain ⟨x1,x2⟩:=(ho _ _).1 hm
  subst x2
  refine ⟨x,rfl,rfl,h.next hL x1 hx.2 fun z z1 z2 z3=>?_⟩
  have hz:z ∈ out x.src:=(ho _ _).2 ⟨z1,z2⟩
  have hzi:i≤z.dst:=Int.not_lt.1 fun k=>by rw [hL.low z1 k] at z3;omega
  obtain ⟨l1,l2,hl,hn⟩:=List.find?_eq_some_iff_append.1 hf |>.2
  rw [hl] at hz
  rcases YB.1 hz with hz | hz
  ·have:=hn z hz;simp [hzi,z3] at this
  ·rcases Yj.1 hz with hz | hz
   ·exact .inl hz
   ·have hp:=hs x.src
    rw [hl] at hp
    exact .inr ((Yo.1 (YbB.1 hp).2.1).1 z hz)
theorem Zi8 {out:Int→List Zy} (ho:∀ u x,x ∈ out u ↔ A x∧x.src=u) (hs:∀ u,(out u).Pairwise fun a b=>κ a<κ b) (hL:Zct A m i any with_) {k:Nat} {need0:Bool} : ∀ {n:Nat} {need:Bool} {way:List Zy} {here:Int},Zch A m κ i k need0 way here n need →
  ∃ here' need',Zch A m κ i k need0 (way++Zbd out (ZG m any with_) m i n here need) here' 0 need'
 | 0,need,way,here,h=>⟨here,need,by rw [Zbd,YS];exact h⟩
 | n+1,need,way,here,h=>by
  obtain ⟨x,hx,_,hw⟩:=Zht ho hs hL h
  obtain ⟨a,b,hr⟩:=Zi8 ho hs hL hw
  refine ⟨a,b,?_⟩
  rw [Zbd,hx]
  rwa [YO] at hr
theorem ZrR {out:Int→List Zy} (ho:∀ u x,x ∈ out u ↔ A x∧x.src=u) (hs:∀ u,(out u).Pairwise fun a b=>κ a<κ b) (hL:Zct A m i any with_) {k:Nat} {need:Bool} (hk:0<k) (h:Zsd A m i need i k) :
  CwA A m need i (Zbd out (ZG m any with_) m i k i need)∧(Zbd out (ZG m any with_) m i k i need).length=k ∧ ∀ w,CwA A m need i w→w.length=k→w=Zbd out (ZG m any with_) m i k i need∨LtA κ (Zbd out (ZG m any with_) m i k i need) w:=by
 obtain ⟨a,b,hr⟩:=Zi8 ho hs hL (Zch.start (κ:=κ) hk h)
 exact Zch.done hk hr
end
theorem Zpv {n:Nat} {prev:Int→List Int} {least t:Int} (hp:∀ x,∀ u ∈ prev x,0≤u∧u<(n:Int)) (ht:0≤t∧t<(n:Int)) {k:Nat} {u:Int} (h:Zfp prev least t k u) :
  (∀ j,Zfp prev least t j u→k≤j) → ∃ l:List Int,l.length=k+1∧l.Nodup ∧ ∀ y ∈ l,(0≤y∧y<(n:Int)) ∧ ∃ j,j≤k∧Zfp prev least t j y ∧ ∀ j',Zfp prev least t j' y→j≤j':=by
 induction h with
 | zero=>intro hm;exact ⟨[t],rfl,by simp,fun y hy=>by rw [Yk.1 hy];exact ⟨ht,0,YM _,.zero,fun _ _=>Yw _⟩⟩
 | @step k u x h1 hl r ih=>
  intro hm
  obtain ⟨l,l1,l2,l3⟩:=ih fun j hj=>by have:=hm (j+1) (.step h1 hl hj);omega
  refine ⟨u :: l,by rw [Yl,l1],Ybm.2 ⟨fun hu=>?_,l2⟩,fun y hy=>?_⟩
  ·obtain ⟨_,j,j1,j2,_⟩:=l3 u hu
   have:=hm j j2;omega
  ·rcases Yj.1 hy with rfl | hy
   ·exact ⟨hp _ _ h1,k+1,YM _,.step h1 hl r,hm⟩
   ·obtain ⟨a,j,j1,j2⟩:=l3 y hy
    exact ⟨a,j,by omega,j2⟩
theorem Zds.le {n:Nat} {prev:Int→List Int} {least t:Int} {D:List Int} (h:Zds n prev least t D) (hp:∀ x,∀ u ∈ prev x,0≤u∧u<(n:Int)) (ht:0≤t∧t<(n:Int)):∀ z ∈ D,-1≤z∧z<(n:Int):=fun z hz=>by
 obtain ⟨u,hu,rfl⟩:=Ya6.1 hz
 rw [← nth_eq hu]
 rcases h.2 u (by have:=h.1;omega) with ⟨h1,_⟩ | ⟨k,h1,h2,h3⟩
 ·omega
 ·obtain ⟨l,l1,l2,l3⟩:=Zpv hp ht h2 h3
  have:=ZdM l2 fun y hy=>(l3 y hy).1
  omega
theorem Zn7 (O I:List (List Z7)) (m:Nat) (u mask:Int) (hO:∀ l ∈ O,l.length≤1000000):FnP prog 171 [Zew O I m,.int .i64 u,.int .i64 mask] (.sl Zam (Zac O mask u)):=by
 refine FnP.mk func171 Z ntmps171 Z fun B a w F V hfr G=>Ya ?_
 refine rZ G (qC qZ) V [6,2,1,0] [0] fun G=>Ya ?_
 refine rZ G (qC qZ) V [7,6,2,1,0] [0] fun G=>(Ya (Ya ?_))
 refine rZ G (qR rr (qR rr (qf (oP (Zec O I m u) func194 (Args.two .t .t)) r2 qz (qf (o_not .t) r1 qz qZ)))) V [13,7,6,2,1,0] [0] fun G=>?_
 refine Zc G Z (fun hc0=>?_) (fun hc0=>?_)
 ·have hg:[] = Zac O mask u:=by unfold Zac;rw [Yc (by have h9:=hc0;simp at h9;omega)]
  refine Ya (rZ G (qR rr (qO rr qZ)) V [7,6,2,1,0] [0] fun G=>(Yh (Zl ?_)))
  refine Zs hfr G Z Z Z (.trans .nilSl (.sl hg))
 have hth:0≤u∧u<O.length:=by simpa using hc0
 have hNl:=hO _ (nth_mem (q:=O) (k:=u.toNat) ow)
 refine Ye (Za (Ya (Ya (Ze G (qR rr (qf (ZD .t) r1 qz (qf (oG 0 .t) r1 qz (qf (oR false 1 .t) r1 qz (qR rr (qf (o_indexAddr_sl (sz:=1) (.mk Ycq kr) (by intro x;rfl) .t .t (by exact hth.1) (by exact hth.2)) r2 qz (qf (oR false 1 .t) r1 qz (qu Ycj r1 (qJ qZ))))))))) V [23,22,21,7,6,2,1] [0] Z Z fun a w F G=>?_))))
 try simp only [Yb] at G
 refine Za (Yg ?_)
 replace G:=G.fresh 50 rfl
 replace G:=G.turn 50 Z (ZaC (T:=165) (sz:=4) (R:=Zam))
 refine Zk (σ:=(Nat)×(Value)×(List Zy)) [1,2,6,21,22] [0] (fun s=>[(23,.pv (.int .i64 (s.1:Int))),(7,.pv (.is s.2.1))]) (fun s=>[(50,.ob (.val s.2.1) (Zx 165 4 Zam s.2.2))]) (fun s=>s.1≤(Nn O u.toNat).length∧(s.2.2=(((Nn O u.toNat).take s.1).filter fun e=>ofB mask e.kind).map (Zvk u))) (fun s=>(Nn O u.toNat).length - s.1) ((0),(.slice none 0 0),([])) G ⟨rfl,rfl,rfl,rfl,rfl,rfl,rfl,tv⟩ ⟨rfl,rfl,tv⟩ ⟨Yw _,rfl⟩ ?_
 clear G;intro s a w F hC G
 obtain ⟨i,v,out⟩:=s
 try dsimp only at hC
 obtain ⟨F,G⟩:=G.nM [23,22,21,7,6,2,1] [50,0]
 try dsimp only at G
 obtain ⟨hi,hq⟩:=hC
 have hol:out.length≤i:=by rw [hq,YH];exact Y4 (Yaa _ _) (by rw [Yi];omega)
 refine Ya (rZ G (qL r2) V [24,23,22,21,7,6,2,1] [50,0] fun G=>Ya ?_)
 refine Zc G Z (fun hc1=>?_) (fun hc1=>?_)
 ·have hil:i<(Nn O u.toNat).length:=by simp at hc1;omega
  refine Ye (Za (Ya (Yg (Ya (Zb G (qy 3 Ycj r2 (qf (oR true 3 .t) r1 qz (qf (oH [.int .i64 0,.int .i64 0,.int .i64 0] 101) trivial qz (qS 3 101 r2 r1 qZ)))) V [23,22,21,9,7,6,2,1] [101,50,0] (fun _=>rfl) (fun _=>rfl) fun τ a w F G=>?_)))))
  try dsimp only [RS.sub,SF.sub,CF.sub,csub,Anc.sub,List.map,Zf,xL,xM,Nat.reduceAdd,xD,xE,xT,xU,xC,xN,zCF,ldSF,Zav,Zau,Zn,Zam] at G
  generalize τ 9=v9 at G
  try simp only [Yb] at G
  refine Za (Ya (rZ G (qR rr (qg 0 101 r1 r1 (qa 101 r1 r1 (qf (oP (ZsW mask (Nn (Nn O u.toNat) i).kind) func210 (Args.two .t .t)) r2 qz qZ)))) V [30,23,22,21,9,7,6,2,1] [101,50,0] fun G=>?_))
  refine Zc G Z (fun hc2=>?_) (fun hc2=>?_)
  ·have hBq:ofB mask (Nn (Nn O u.toNat) i).kind=true:=by simpa using hc2
   refine Zb G (qR rr (qR rr (qg 2 101 r1 r1 (qa 101 r1 r1 (qg 0 101 r1 r1 (qa 101 r1 r1 (qg 1 101 r1 r1 (qa 101 r1 r1 (qf (oB [(0,.tmp 32),(1,.tmp 34),(2,.tmp 36),(3,.tmp 38)] [.int .i64 0,.int .i64 0,.int .i64 0,.int .i64 0] [(0,1),(1,1),(2,1),(3,1)] (.one Z .t one_int kr (.one Z .t one_int kr (.one Z .t one_int kr (.one Z .t one_int kr .nil))))) r4 qz (qf (o_buildSliceE (sz:=4) (zs:=[.int .i64 0,.int .i64 0,.int .i64 0,.int .i64 0]) (r:=[(0,.tmp 39)]) (l:=[_,_,_,_]) Ycl kr kr kr kr Z Z (.agg Z .t kr kr .nil) Z) r1 qz (qf (ZV (sz:=4) (bs:=32) 50 (.mk' Ycl kr kr) (by intro x;rfl) .is (.arr (l':=[(⟨u,(Nn (Nn O u.toNat) i).node,(Nn (Nn O u.toNat) i).kind,(Nn (Nn O u.toNat) i).label⟩:Zy)]) .t) (by simp only [Yd,Yl,Yy,Yi,YE];omega) (by decide)) ⟨rfl,rfl,tv⟩ ⟨rfl,tv⟩ (qO rr qZ)))))))))))) V [23,22,21,7,6,2,1] [101,50,0] (fun _=>rfl) (fun _=>rfl) fun τ a w F G=>?_
   try dsimp only [RS.sub,SF.sub,CF.sub,csub,Anc.sub,List.map,Zf,xL,xM,Nat.reduceAdd,xD,xE,xT,xU,xC,xN,zCF,ldSF,Zav,Zau,Zn,Zam] at G
   generalize τ 41=v41 at G
   refine Zi (Za (rZ G (qp r1 (qR rr qZ)) V [23,22,21,7,6,2,1] [101,50,0] fun G=>?_))
   replace G:=G.ent (i:=23) (s':=.pv (.int .i64 ((i+1:Nat):Int))) Z (.int (Zd ow))
   obtain ⟨F,G⟩:=G.nM [22,21,6,2,1,7,23] [0,50]
   exact ⟨((i+1),_,_),F,⟨by omega,(by rw [Zp hil,Yah,YR,← hq];simp [hBq,Zvk])⟩,G,by omega⟩
  have hBq:ofB mask (Nn (Nn O u.toNat) i).kind=false:=by simpa using hc2
  refine Ye (Zi (Za (rZ G (qp r1 (qR rr qZ)) V [23,22,21,7,6,2,1] [101,50,0] fun G=>?_)))
  replace G:=G.ent (i:=23) (s':=.pv (.int .i64 ((i+1:Nat):Int))) Z (.int (Zd ow))
  obtain ⟨F,G⟩:=G.nM [22,21,6,2,1,7,23] [0,50]
  exact ⟨((i+1),_,_),F,⟨by omega,(by rw [Zp hil,Yah,YR,← hq];simp [hBq,Zvk])⟩,G,by omega⟩
 have hil:i=(Nn O u.toNat).length:=by simp at hc1;omega
 have hg:out=Zac O mask u:=by rw [hq,hil,YA];unfold Zac;rw [Yf hth]
 refine Yx (Zj (Zj (Zo (Za (Ya (rZ G (qR rr (qO rr qZ)) V [6] [50,0] fun G=>Yh ?_))))))
 obtain ⟨F,G⟩:=G.give 50 6 Z rfl
 refine Zs hfr G Z Z Z (.sl hg)
theorem Ztd (O I:List (List Z7)) (m:Nat) (mask must:Int) (dv ev:List Int) (x:Zy) (need:Bool) (hx:0≤x.dst∧x.dst<dv.length∧x.dst<ev.length):FnP prog 172 [.agg [Zew O I m,.int .i64 mask,.int .i64 must,.sl Zn dv,.sl Zn ev],.agg (Zam x),.bool need] (.int .i64 (ZG (fun y:Zy=>ofB must y.kind) dv ev need x)):=by
 refine FnP.mk func172 Z ntmps172 Z fun B a w F V hfr G=>Ya ?_
 refine Zb G (qx 101 r1 (qx 102 r1 (qI qZ))) V [6,4,3,2] [102,101,0] (fun _=>rfl) (fun _=>rfl) fun τ a w F G=>?_
 try dsimp only [RS.sub,SF.sub,CF.sub,csub,Anc.sub,List.map,zCF,Zav,Zau,Zn,Zam] at G
 generalize τ 3=v3,τ 4=v4 at G
 refine Za (Ya (Ya (rZ G (qR rr (qR rr (qv 2 101 Z r2 r1 (qw 101 Z r2 r1 (qv 2 102 Z r2 r1 (qw 102 Z r2 r1 (qk Z (fun h=>o_conv Ycm kr (.w h)) r2 qz (qk Z (fun h=>Zco (.w h) (.w h)  (by rw [Zaj];omega)) r3 qz (qk Z (fun h=>o_and (.w h) qi) r2 qz (qk Z (fun h=>o_eql (.w h) qi) r2 qz (qf (ZE .t .t) r2 qz qZ))))))))))) V [17,6,4,3] [102,101,0] fun G=>?_)))
 refine Zc G Z (fun hc0=>?_) (fun hc0=>?_)
 ·have hg:Nn ev x.dst.toNat=ZG (fun y:Zy=>ofB must y.kind) dv ev need x:=by unfold ZG;rw [Yf (by rw [← of_zero];exact hc0),ZaN hx.1]
  refine Ya (Ze G (qg 4 101 r1 r1 (qa 101 r1 r1 (qg 1 102 r1 r1 (qa 102 r1 r1 (qy 1 Ycf r2 (qf (oR false 1 .t) r1 qz (qO rr qZ))))))) V [6,4,3] [102,101,0] Z Z fun a w F G=>?_)
  try simp only [Yb] at G
  refine Za (Yh (Zl (Zs hfr G Z Z Z (.int hg))))
 have hg:Nn dv x.dst.toNat=ZG (fun y:Zy=>ofB must y.kind) dv ev need x:=by unfold ZG;rw [Yc (by rw [← of_zero,Bool.not_eq_true];exact hc0),ZaN hx.1]
 refine Ye (Za (Ya (Ze G (qg 3 101 r1 r1 (qa 101 r1 r1 (qg 1 102 r1 r1 (qa 102 r1 r1 (qy 1 Ycf r2 (qf (oR false 1 .t) r1 qz (qO rr qZ))))))) V [6] [0] Z Z fun a w F G=>?_)))
 try simp only [Yb] at G
 refine Za (Yh (Zs hfr G Z Z Z (.int hg)))
end Go.Proofs.YtlkpllemoepamaaGreat
