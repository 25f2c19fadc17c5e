/- Laws and walks. No condition beyond what each says. -/
import Derived.Test.YtolmpgbpdapaiaaGreatJ3
import Derived.Test.YtolmpgbpdapaiaaGreatLibRg
import Derived.Test.YtolmpgbpdapaiaaGreatLibI
namespace Go.Proofs.YtolmpgbpdapaiaaGreat
open Go Go.Gm Tryz
set_option linter.unusedVariables false
set_option linter.unusedSimpArgs false
set_option maxHeartbeats 4000000
set_option maxRecDepth 8000
theorem Zub (mv:Value):FnP prog 126 [.is mv] (.clos 183 [.ref [.is mv]]):=by
 refine FnP.mk func126 rfl ntmps126 rfl fun B a w F Z hfr G=>Ya ?_
 refine rS G (qf (Zlr 101 .t one_is) r1 qz (qC qZ)) Z Q3 KN fun τ G=>?_
 have G:=X2
 generalize τ 1=v1 at G
 obtain ⟨F,G⟩:=G.giveRef 101 1 rfl rfl rfl
 obtain ⟨F,G⟩:=G.nM Q3 [0]
 have G:=XD
 refine Za (Ya (rZ G (qf (ZbV (Args.one .t)) r1 qz (qO rr qZ)) Z [2] [0] fun G=>Yj ?_))
 refine Zo hfr G rfl rfl rfl .refl
theorem Zfe (l:List Zi):(Zbv ltE l).length≤l.length:=by
 have key:∀ (l acc:List Zi),(l.foldl (ZmH ltE) acc).length≤acc.length+l.length:=by
  intro l
  induction l with
  | nil=>intro acc;simp
  | cons e l ih=>
   intro acc
   rw [Yav,Yh]
   have h1:=ih (ZmH ltE acc e)
   have h2:(ZmH ltE acc e).length≤acc.length+1:=Ziy ltE e acc false
   omega
 have:=key l []
 unfold Zbv
 simpa using this
theorem Zvf (mv:Value) (AA:List (Zi×Int)) (RR:List Zi) (hAR:AA.length+RR.length≤1000000):FnG prog 81 1 [.is mv] [Zgm AA RR mv] (.sl rHv (Zg5 AA RR)) (fun _=>[Zgm AA RR mv]):=by
 refine FnG.mk func81 rfl ntmps81 rfl kr fun B F0 a w F Z hG G=>?_
 obtain ⟨⟨es,ck⟩,G⟩:=G.open_ex 1 rfl
 obtain ⟨hE,G⟩:=G.open_and 1 rfl
 replace G:=G.turn 1 rfl (r':=.ob (.val mv) (mapG (fun n:Int=>PV.int .i64 n) (fun k=>∀ x ∈ Zag k,inR .i64 x) (kvS Zag) es ck)) (fun _ _ _ _ h=>h)
 try dsimp only at hE
 obtain ⟨F,G⟩:=G.nM [0] KQ
 refine Ya (rZ G (qC qZ) Z Q0 KQ fun G=>Ya ?_)
 refine rZ G (qC qZ) Z KR KQ fun G=>(Ya (Ya ?_))
 replace G:=G.fresh 60 rfl
 replace G:=G.turn 1 rfl (r':=RS.hp (mapG (fun n:Int=>PV.int .i64 n) (fun k=>∀ x ∈ Zag k,inR .i64 x) (kvS Zag) es ck mv)) (fun _ _ _ _ h=>h)
 obtain ⟨F,G⟩:=G.nM KR [60,1,0]
 refine Zai 3 G kr (cG rfl (oM .t) r1 trivial (cG rfl (oP (Zub mv) func126 (Args.one .t)) r1 trivial (cG rfl (Zo4 1 60 (Zkx (fun n:Int=>PV.int .i64 n) mv es ck (by have:=hE.len;omega)) func125 rfl kr rfl (Args.one .t) pvOne1) r1 r2 ChainN.nil))) kr WG fun a w F G=>?_
 replace G:=G.sub
 obtain ⟨F,G⟩:=G.nM [8,3,2,0] [60,1,0]
 try dsimp only [RS.sub,SF.sub,CF.sub,csub,Anc.sub,List.map,Zr,rTx,ZK,ZJ,Zq,rOp,ZE,rHv] at G
 generalize Act.tau a 8=v8 at G
 replace G:=G.turn 60 rfl (r':=RS.hp (HP.ex fun l:List Zi=>HP.and (l.Perm (es.map fun z:GE Zi Int=>z.key)) (Zz 116 4 ZE l v8))) (fun _ _ _ _ h=>h)
 obtain ⟨ks,G⟩:=G.open_ex 60 rfl
 obtain ⟨hks,G⟩:=G.open_and 60 rfl
 replace G:=G.turn 60 rfl (r':=.ob (.val v8) (Zz 116 4 ZE ks)) (fun _ _ _ _ h=>h)
 have hkl:ks.length≤1000000:=by have h1:=hks.length_eq;have h2:=hE.len;rw [YJ] at h1;omega
 replace G:=G.turn 1 rfl (r':=.ob (.val mv) (mapG (fun n:Int=>PV.int .i64 n) (fun k=>∀ x ∈ Zag k,inR .i64 x) (kvS Zag) es ck)) (fun _ _ _ _ h=>h)
 obtain ⟨F,G⟩:=G.give 60 8 rfl rfl
 obtain ⟨F,G⟩:=G.nM [8,3,2,0] KQ
 refine Zat G kr (cG rfl (oP (Zq8 ks hkl) func124 (Args.one .t)) r1 trivial (cG rfl (ZcS Yb0 .t) r1 trivial (cG rfl (oM (.ci kr)) trivial trivial ChainN.nil))) kr WG fun a w F G=>?_
 obtain ⟨F,G⟩:=G.nM Jq KQ
 try dsimp only [Zr,rTx,ZK,ZJ,Zq,rOp,ZE,rHv] at G
 rw [Zfi hE hks] at G
 have hkn:(Zbv ltE (Zgq AA RR)).length≤1000000:=by rw [← Zfi hE hks];exact Yaa (Zfe ks) hkl
 refine Za (Yi ?_)
 replace G:=G.fresh 50 rfl
 replace G:=G.turn 50 rfl (Za6 (T:=152) (sz:=5) (R:=rHv))
 refine Zk (σ:=(Nat)×(Value)×(List HvD)) [0,2,9,10] [0,1] (fun s=>[(11,.pv (.int .i64 (s.1:Int))),(3,.pv (.is s.2.1))]) (fun s=>[(50,.ob (.val s.2.1) (Zz 152 5 rHv s.2.2))]) (fun s=>s.1≤(Zbv ltE (Zgq AA RR)).length∧(s.2.2=((Zbv ltE (Zgq AA RR)).take s.1).map fun e=>(⟨e,cntA AA RR e⟩:HvD))) (fun s=>(Zbv ltE (Zgq AA RR)).length - s.1) ((0),(.slice none 0 0),([])) G ⟨rfl,rfl,rfl,rfl,rfl,rfl,tv⟩ ⟨rfl,rfl,rfl,tv⟩ ⟨YA _,rfl⟩ ?_
 clear G;intro s a w F hC G
 obtain ⟨i,v,out⟩:=s
 have hC:=X4
 obtain ⟨F,G⟩:=G.nM Jq [50,1,0]
 have G:=X3
 obtain ⟨hi,hq⟩:=hC
 have hol:out.length≤i:=by rw [hq,YJ,Yp];omega
 refine Ya (rZ G (qL r2) Z [12,11,10,9,3,2,0] [50,1,0] fun G=>Ya ?_)
 refine Zb G rfl (fun hc0=>?_) (fun hc0=>?_)
 ·have hil:i<(Zbv ltE (Zgq AA RR)).length:=Wl
  refine Yf (Za (Ya (Yi (Ya (rS G (qy 4 Yb0 r2 (qf (oR true 4 .t) r1 qz (qf (oH [.int .i64 0,.int .i64 0,.int .i64 0,.int .i64 0] 101) trivial qz (qS 4 101 r2 r1 qZ)))) Z [11,10,9,5,3,2,0] [101,50,1,0] fun τ G=>?_)))))
  have G:=Xk
  generalize τ 5=v5 at G
  try simp only [Yg] at G
  refine Za (rT G (qR rr (qe 4 101 r1 r1 (qR rr (qe 4 101 r1 r1 (qf (ZR (ek:=(fun n:Int=>PV.int .i64 n)) (z0:=(0)) 1 Ych ZcL kr (fun _ _=>⟨rfl,Zc5⟩) .is (Zw.agg (enc:=Zag) (k:=Nn (Zbv ltE (Zgq AA RR)) i) (.pagg .t) rfl)) r2 r1 (qf (oB [(0,.tmp 16),(1,.tmp 19)] [.int .i64 0,.int .i64 0,.int .i64 0,.int .i64 0,.int .i64 0] [(0,4),(4,1)] (.agg rfl .t kr kr (.one rfl .t one_int kr .nil))) r2 qz (qf (Zj (sz:=5) (zs:=[.int .i64 0,.int .i64 0,.int .i64 0,.int .i64 0,.int .i64 0]) (r:=[(0,.tmp 20)]) (l:=[_,_,_,_,_]) underlying83 kr kr kr kr rfl rfl (.agg rfl .t kr kr .nil) rfl) r1 qz (qf (o_append (sz:=5) (bs:=40) 50 (.mk' underlying83 kr kr) Wh .is (.arr (l':=[(⟨Nn (Zbv ltE (Zgq AA RR)) i,(gGet (Nn (Zbv ltE (Zgq AA RR)) i) es).getD 0⟩:HvD)]) .t) Wy XW) ⟨rfl,rfl,tv⟩ ⟨rfl,tv⟩ (qO rr qZ))))))))) Z Jq [101,50,1,0] fun τ G=>?_)
  have G:=Xk
  generalize τ 22=v22 at G
  refine Ze (Za (rZ G (qp r1 (qR rr qZ)) Z Jq [101,50,1,0] fun G=>?_))
  replace G:=G.eI 11 i
  obtain ⟨F,G⟩:=G.nM [10,9,2,0,3,11] [1,0,50]
  exact ⟨((i+1),_,_),F,⟨ow,(by rw [Zy hil,Y3,← hq,List.map_singleton];unfold cntA;rw [hE.val])⟩,G,ow⟩
 have hil:i=(Zbv ltE (Zgq AA RR)).length:=Wl
 refine Yz (Zg (Zg (Zm (Za (Ya (rZ G (qR rr (qO rr qZ)) Z [2] [50,1,0] fun G=>Yj ?_))))))
 obtain ⟨F,G⟩:=G.give 50 2 rfl rfl
 have G:=G.turn 1 rfl (r':=RS.hp (Zgm AA RR mv)) (fun _ _ _ _ h=>⟨(es,ck),hE,h⟩)
 refine ZL hG G rfl (.tmp rfl .nil) (.one (.sl (by rw [hq,hil,YE];rfl))) rfl
theorem Zqy (x:Int):FnP prog 83 [.int .i64 x] (.bool ((fun _=>true) x)):=by
 refine FnP.mk func83 rfl ntmps83 rfl fun B a w F Z hfr G=>Ya ?_
 refine rZ G qB Z [2] [0] fun G=>Ya ?_
 refine rZ G qB Z [2] [0] fun G=>Yj ?_
 refine Zo hfr G rfl rfl rfl (.bool rfl)
theorem ZpF (g:Zl) (hsm:Zcj g) (hAR:(wwC (fun _=>true) g).length+(rdC (fun _=>true) g).length≤1000000):FnP prog 35 [.agg (Zr g)] (.sl rHv (Zg5 (wwC (fun _=>true) g) (rdC (fun _=>true) g))):=by
 refine FnP.mk func35 rfl ntmps35 rfl fun B a w F Z hfr G=>Ya ?_
 refine rS G (qx 101 r1 (qC qZ)) Z Q3 KN fun τ G=>?_
 try dsimp only [RS.sub,SF.sub,CF.sub,csub,Anc.sub,List.map,zCF,Zr,rTx,ZK,ZJ,Zq,rOp,rHv] at G
 generalize τ 1=v1 at G
 refine Za (Ya ?_)
 replace G:=G.fresh 102 rfl
 refine Zai 2 G kr (cG rfl (oL true 2 101 .is) r1 r1 (cG rfl (ZbS 102 (ZoV g hsm (fun _=>true) 83 f83 [] func83 rfl kr (fun x=>Zqy x)) func82 rfl kr (Args.two (.pagg .t) (.conv .f (Ent.fnClos))) pvOne1) r1 r1 ChainN.nil)) kr WG fun a w F G=>?_
 replace G:=G.sub
 obtain ⟨F,G⟩:=G.nM [4,2] KP
 try dsimp only [RS.sub,SF.sub,CF.sub,csub,Anc.sub,List.map,xD,xE,xT,xU,ldSF,Zr,rTx,ZK,ZJ,Zq,rOp,rHv] at G
 generalize Act.tau a 4=v4 at G
 replace G:=G.turn 102 rfl (r':=RS.hp (Zgm (wwC (fun _=>true) g) (rdC (fun _=>true) g) v4)) (fun _ _ _ _ h=>h)
 obtain ⟨F,G⟩:=G.nM [4,2] KP
 refine Zat G kr (cG rfl (o_callG1 102 (Zvf _ (wwC (fun _=>true) g) (rdC (fun _=>true) g) hAR) func81 rfl kr (Args.one .t)) r1 r1 (cG rfl (oN .t) r1 trivial ChainN.nil)) kr WG fun a w F G=>?_
 obtain ⟨F,G⟩:=G.nM [2] KP
 try dsimp only [Zr,rTx,ZK,ZJ,Zq,rOp,rHv] at G
 refine Za (Yj (Zo hfr G rfl rfl rfl .refl))
theorem Zt3 (t u:TxD) (o:OpD) (phen:Int) (hu:u.ops.length≤1000):FnP prog 189 [.agg (rTx t),.agg (rTx u),.agg (rOp o),.int .i64 phen] (.bool (ZfA t u o phen)):=by
 refine FnP.mk func189 rfl ntmps189 rfl fun B a w F Z hfr G=>Ya ?_
 refine rS G (qx 101 r1 (qx 102 r1 (qx 103 r1 qB))) Z [8,6,5,4,3] KO fun τ G=>?_
 have G:=Xl
 generalize τ 4=v4,τ 5=v5,τ 6=v6 at G
 refine Za (Ya (Ya (rZ G (qR rr qZ) Z [9,8,6,5,4] KO fun G=>(Yi (Ya ?_)))))
 refine rZ G (qf (o_eql .t qi) r1 qz (qO rr qZ)) Z [10,9,8,6,5,4] KO fun G=>?_
 refine Zb G rfl (fun hc0=>?_) (fun hc0=>?_)
 ·have h2:phen=2:=WV
  refine Ya (rZ G (qg 1 101 r1 r1 (qa 101 r1 r1 (qR rr (qv 1 102 rfl r2 r1 (qw 102 rfl r2 r1 (qk rfl (fun h=>o_not (.w h)) r2 qz (qf (ZC .t .t) r2 qz (qO rr qZ)))))))) Z [8] KO fun G=>(Yj (Zn (Zh ?_))))
  refine Zo hfr G rfl rfl rfl (.bool WX)
 have h2:¬ phen=2:=WV
 refine Ya (rZ G (qf (o_eql .t qi) r1 qz (qO rr qZ)) Z [19,8,6,5,4] KO fun G=>?_)
 refine Zb G rfl (fun hc1=>?_) (fun hc1=>?_)
 ·have h3:decide (phen=3)=true:=hc1
  refine Ya (Zv G (qg 1 101 r1 r1 (qa 101 r1 r1 (qR rr (qv 3 103 rfl r2 r1 (qw 103 rfl r2 r1 (qk rfl (fun h=>oL true 3 102 .is) r2 r1 (qv 1 103 rfl r2 r1 (qw 103 rfl r2 r1 (qk rfl (fun h=>oP (Zf0 u o.key ow) func51 (Args.two (.pagg (.w h)) (.w h))) r3 qz (qk rfl (fun h=>Zbb (.w h) (.w h)) r3 qz (qf (ZC .t .t) r2 qz (qO rr qZ)))))))))))) Z [8] KO rfl rfl fun a w F G=>?_)
  have G:=Xy
  refine Za (Yj (Zn (Zh (Zo hfr G rfl rfl rfl (.bool WX)))))
 have h3:decide (phen=3)=false:=hc1
 refine Yf (Ze (Za (Ya (rZ G qB Z [8] KO fun G=>Yj ?_))))
 refine Zo hfr G rfl rfl rfl (.bool WX)
theorem ZtW {g:Zl} (hs:Zbg g.txs) (o:OpD):(uOf g o).ops.length≤1000:=by
 unfold uOf
 cases hf:ZaM g.txs o.tx with
 | none=>simp [zeroT]
 | some t=>exact hs.2 _ (findT_mem hf).1
theorem ZqZ (g : Zl) (phen : Int) (hsm : Zcj g) (p : Int → Bool) (f : FuncId) (fn : Func) (cps : List PV) (hf : prog.funcs[f]? = some fn) (hb : fn.body.isSome = true) (hnn : (fn.name == "runtime.NumGoroutine") = false) (hw : ∀ x, FnP prog f (.int .i64 x :: cps) (.bool (p x))) : FnP prog 140 [.agg (Zr g), .int .i64 phen, .clos f cps] (.sl ZjO (ZeK g phen p)) := by
 refine FnP.mk func140 rfl ntmps140 rfl fun B a w F Z hfr G=>?_
 have hs:=hsm.1
 have hsl:=hs.1
 refine Ya (rS G (qx 101 r1 (qC qZ)) Z [6,3,2,1] KN fun τ G=>?_)
 have G:=Xl
 generalize τ 3=v3 at G
 refine Za (Ya (rZ G (qC qZ) Z [7,6,3,2,1] KN fun G=>(Ya (Ya ?_))))
 refine rZ G (qe 2 101 r1 r1 (qf (oP (ZdL g hsm) func9 (Args.one (.pagg .t))) r1 qz (qf (o_not .t) r1 qz qZ))) Z [17,7,6,3,2,1] KN fun G=>?_
 refine Zb G rfl (fun hc0=>?_) (fun hc0=>?_)
 ·skip
  have hg:[] = ZeK g phen p:=by unfold ZeK;rw [Yb WV]
  refine Ya (rZ G (qR rr (qO rr qZ)) Z [7,6,3,2,1] KN fun G=>(Yj (Zh ?_)))
  refine Zo hfr G rfl rfl rfl (.trans .nilSl (.sl WY))
 have hr:ZA g:=WV
 have hgg:badsG g phen p g.txs=ZeK g phen p:=by unfold ZeK;rw [Ye hr]
 refine Yf (Za (Ya (rS G (qf (Z8 (ek:=(fun t:TxD=>PV.agg (rTx t))) (ok:=(fun _=>True)) (kv:=(fun n:Int=>Value.int .i64 n)) 102) trivial qz (qO rr qZ)) Z [8,7,6,3,2,1] KP fun τ G=>?_)))
 try dsimp only [RS.sub,SF.sub,CF.sub,csub,Anc.sub,List.map,Zd,xL,xM,Nat.reduceAdd,xD,xE,xT,xU,xC,xN,zCF,Zr,rTx,ZK,ZJ,Zq,rOp,ZjO] at G
 generalize τ 19=v19 at G
 refine Za (Ya (Ya (rZ G (qg 0 101 r1 r1 (qa 101 r1 r1 (qu Yb4 r1 (qJ qZ)))) Z QT KP fun G=>Yi ?_)))
 refine Zk (σ:=(Nat)×(List (GE Int TxD))×(Nat)) [1,2,3,6,7,8,21,22] [0,101] (fun s=>[(23,.pv (.int .i64 (s.1:Int)))]) (fun s=>[(102,.ob (.val v19) (mapG (fun t:TxD=>PV.agg (rTx t)) (fun _=>True) (fun n:Int=>Value.int .i64 n) s.2.1 s.2.2))]) (fun s=>s.1≤g.txs.length∧(Zul s.2.1 (g.txs.take s.1))) (fun s=>g.txs.length - s.1) ((0),([]),(0)) G ⟨rfl,rfl,rfl,rfl,rfl,rfl,rfl,rfl,rfl,tv⟩ ⟨rfl,rfl,rfl,tv⟩ ⟨YA _,(fun id=>rfl)⟩ ?_
 clear G;intro s a w F hC G
 obtain ⟨i,es,ck⟩:=s
 have hC:=X4
 obtain ⟨F,G⟩:=G.nM QT KP
 have G:=X3
 obtain ⟨hi,hq⟩:=hC
 refine Ya (rZ G (qL r2) Z [24,23,22,21,8,7,6,3,2,1] KP fun G=>Ya ?_)
 refine Zb G rfl (fun hc1=>?_) (fun hc1=>?_)
 ·skip
  have hil:i<g.txs.length:=WE
  refine Yf (Za (Ya (Yi (Ya (rS G (qy 3 Yb4 r2 (qf (oR true 3 .t) r1 qz (qf (oH [.int .i64 0,.bool false,.slice none 0 0] 103) trivial qz (qS 3 103 r2 r1 qZ)))) Z [23,22,21,10,8,7,6,3,2,1] KO fun τ G=>?_)))))
  have G:=Xb
  generalize τ 10=v10 at G
  try simp only [Yg] at G
  refine Za (Zc G (qR rr (qg 0 103 r1 r1 (qa 103 r1 r1 (qe 3 103 r1 r1 (qf (o_mapUpdateG (ek:=(fun t:TxD=>PV.agg (rTx t))) (v:=(Nn g.txs i)) 102 underlying275 (Za2 Yb1) .is (Zw.int .t rfl) (.pagg .t)) r3 r1 qZ))))) Z QT KO rfl rfl fun a w F G=>Ze (Za ?_))
  refine rZ G (qp r1 (qR rr qZ)) Z QT KO fun G=>?_
  replace G:=G.eI 23 i
  obtain ⟨F,G⟩:=G.nM [22,21,8,7,6,3,2,1,23] [101,0,102]
  exact ⟨((i+1),((gPut (Nn g.txs i).id (Nn g.txs i) (es,ck)).1),((gPut (Nn g.txs i).id (Nn g.txs i) (es,ck)).2)),F,⟨ow,Zs0 hr.2.1 hq hil⟩,G,ow⟩
 have hil:i=g.txs.length:=WE
 have hby:∀ id,gGet id es=ZaM g.txs id:=by rw [hil,YE] at hq;exact hq
 refine Yz (Zg (Zg (Zm (Za (Ya (Ya (rZ G (qg 0 101 r1 r1 (qa 101 r1 r1 (qu Yb4 r1 (qJ qZ)))) Z Jr KP fun G=>Yi ?_)))))))
 replace G:=G.fresh 50 rfl
 replace G:=G.turn 50 rfl (Za6 (T:=64) (sz:=5) (R:=ZjO))
 refine Zk (σ:=(Nat)×(Value)×(List Zt8)) [1,2,6,8,33,34] [0,101,102] (fun s=>[(35,.pv (.int .i64 (s.1:Int))),(7,.pv (.is s.2.1))]) (fun s=>[(50,.ob (.val s.2.1) (Zz 64 5 ZjO s.2.2))]) (fun s=>s.1≤g.txs.length∧(s.2.2=badsG g phen p (g.txs.take s.1))) (fun s=>g.txs.length - s.1) ((0),(.slice none 0 0),([])) G ⟨rfl,rfl,rfl,rfl,rfl,rfl,rfl,rfl,tv⟩ ⟨rfl,rfl,rfl,rfl,tv⟩ ⟨YA _,rfl⟩ ?_
 clear G;intro s a w F hC G
 obtain ⟨i,x0,out⟩:=s
 have hC:=X4
 obtain ⟨F,G⟩:=G.nM Jr KV
 have G:=X3
 obtain ⟨hi,hq⟩:=hC
 have hxl:=fun hil:i<g.txs.length=>hs.at hil
 have hol:out.length≤1000*i:=by rw [hq];exact ZlW hs i
 refine Ya (rZ G (qL r2) Z [36,35,34,33,8,7,6,2,1] KV fun G=>Ya ?_)
 refine Zb G rfl (fun hc2=>?_) (fun hc2=>?_)
 ·skip
  have hil:i<g.txs.length:=Kj
  have hio:=hil
  have htl:=hxl hil
  have hsl:=hs.1
  refine Yf (Za (Ya (Yi (Ya (rS G (qy 3 Yb4 r2 (qf (oR true 3 .t) r1 qz (qf (oH [.int .i64 0,.bool false,.slice none 0 0] 104) trivial qz (qS 3 104 r2 r1 qZ)))) Z [35,34,33,12,8,7,6,2,1] Qr fun τ G=>?_)))))
  have G:=Xb
  generalize τ 12=v12 at G
  try simp only [Yg] at G
  refine Za (Ya (rZ G (qg 2 104 r1 r1 (qa 104 r1 r1 (qu YbZ r1 (qJ qZ)))) Z Qb Qr fun G=>Yi ?_))
  refine Zk (σ:=(Nat)×(Value)×(List Zt8)) [1,2,6,8,12,33,34,35,40,41] [0,101,102,104] (fun s=>[(42,.pv (.int .i64 (s.1:Int))),(7,.pv (.is s.2.1))]) (fun s=>[(50,.ob (.val s.2.1) (Zz 64 5 ZjO s.2.2))]) (fun s=>s.1≤(Nn g.txs i).ops.length∧(s.2.2=badsG g phen p (g.txs.take i)++ZcB g phen p (Nn g.txs i) ((Nn g.txs i).ops.take s.1))) (fun s=>(Nn g.txs i).ops.length - s.1) ((0),(x0),(out)) G ⟨rfl,rfl,rfl,rfl,rfl,rfl,rfl,rfl,rfl,rfl,rfl,rfl,tv⟩ ⟨rfl,rfl,rfl,rfl,rfl,tv⟩ ⟨YA _,(by rw [hq];simp [ZcB])⟩ ?_
  clear G;intro s a w F hC G
  obtain ⟨j,x1,outj⟩:=s
  have hC:=X4
  obtain ⟨F,G⟩:=G.nM Qb Qr
  have G:=X3
  obtain ⟨hi,hq⟩:=hC
  have hbl:=Zg4 g phen p (Nn g.txs i) ((Nn g.txs i).ops.take j)
  have hbg:=ZlW (g:=g) (phen:=phen) (p:=p) hs i
  have hoj:outj.length≤1000*i+j:=by rw [hq,Yc];rw [Yp] at hbl;omega
  refine Ya (rZ G (qL r2) Z [43,42,41,40,35,34,33,12,8,7,6,2,1] Qr fun G=>Ya ?_)
  refine Zb G rfl (fun hc3=>?_) (fun hc3=>?_)
  ·skip
   have hil:j<(Nn g.txs i).ops.length:=Kb
   refine Yf (Za (Ya (Yi (Ya (rS G (qR rr (qy 4 YbZ r2 (qf (oR true 4 .t) r1 qz (qf (oH [.bool false,.int .i64 0,.int .i64 0,.int .i64 0] 105) trivial qz (qO rr (qS 4 105 r2 r1 qZ)))))) Z [42,41,40,35,34,33,14,13,12,8,7,6,2,1] Qe fun τ G=>?_)))))
   have G:=Xb
   generalize τ 14=v14 at G
   try simp only [Yg] at G
   refine Za (Ya (Ya (rZ G (qg 0 105 r1 r1 (qa 105 r1 r1 (qf (o_not .t) r1 qz (qR rr (qv 2 105 rfl r2 r1 (qw 105 rfl r2 r1 (qk rfl (fun h=>o_eql (.w h) qi) r2 qz (qf (Zaq .t .t) r2 qz (qR rr (qv 2 105 rfl r2 r1 (qw 105 rfl r2 r1 (qv 0 104 rfl r2 r1 (qw 104 rfl r2 r1 (qk rfl (fun h=>o_eql (.w h) (.w h)) r3 qz (qf (Zaq .t .t) r2 qz (qR rr (qm rfl rfl rfl rfl (qv 1 105 rfl r2 r1 (qw 105 rfl r2 r1 (qk rfl (fun h=>Zab (avs:=[.int .i64 (Nn (Nn g.txs i).ops j).key]) (.w h) (hw (Nn (Nn g.txs i).ops j).key) hf hb hnn (Args.one (.w h))) r3 qz (qk rfl (fun h=>o_not (.w h)) r2 qz (qf (Zaq .t .t) r2 qz qZ)))))))))))))))))))))) Z [68,42,41,40,35,34,33,14,13,12,8,7,6,2,1] Qe fun G=>?_)))
   refine Zb G rfl (fun hc4=>?_) (fun hc4=>?_)
   ·skip
    have hBq:¬ (p (Nn (Nn g.txs i).ops j).key && ZlB g phen (Nn g.txs i) (Nn (Nn g.txs i).ops j))=true:=by
      intro h9
      rw [Yw] at h9
      have h8:=h9.2
      unfold ZlB at h8
      rw [Yw] at h8
      have h7:=h8.1
      unfold Zei at h7
      simp at h7
      have h6:=hc4
      simp [h9.1,h7] at h6
    refine Yz (Zg (Zm (Za (rZ G (qp r1 (qR rr qZ)) Z Qb Qe fun G=>?_))))
    replace G:=G.eI 42 j
    obtain ⟨F,G⟩:=G.nM QM JJ
    exact ⟨((j+1),_,_),F,⟨ow,WZ⟩,G,ow⟩
   have hnd:Zei (Nn g.txs i).id (Nn (Nn g.txs i).ops j)=true∧p (Nn (Nn g.txs i).ops j).key=true:=by
     have h6:=hc4
     unfold Zei
     simp at h6
     refine ⟨by simp [h6],by simp [h6]⟩
   refine Yf (Za (Ya (Zai 5 G kr (cG rfl (oL true 3 104 .is) r1 r1 (cG rfl (oM .t) r1 trivial (cG rfl (oF 2 105 .is) r1 r1 (cG rfl (oL false 1 105 .adr) r1 r1 (cG rfl (ZR (ek:=(fun t:TxD=>PV.agg (rTx t))) (z0:=zeroT) 102 underlying275 (Za2 Yb1) kr (fun _ _=>⟨[_,_,_],rfl,⟨rfl,rfl,Zc5⟩,⟨rfl,rfl⟩,⟨rfl,ZoA⟩,tv⟩) .is (Zw.int .t rfl)) r2 r1 ChainN.nil))))) kr WG fun a w F G=>?_)))
   obtain ⟨F,G⟩:=G.nM [73,69,42,41,40,35,34,33,14,13,12,8,7,6,2,1] Qe
   have G:=Xy
   rw [show (gGet (Nn (Nn g.txs i).ops j).tx es).getD zeroT=(uOf g (Nn (Nn g.txs i).ops j)) by rw [hby];rfl] at G
   refine Zat G kr (cG rfl (oL true 4 105 .is) r1 r1 (cG rfl (oM .t) r1 trivial (cG rfl (oP (Zt3 (Nn g.txs i) (uOf g (Nn (Nn g.txs i).ops j)) (Nn (Nn g.txs i).ops j) phen (by have:=ZtW hs (Nn (Nn g.txs i).ops j);omega)) func189 (Args.four (.pagg .t) .t (.pagg .t) .t)) r4 trivial ChainN.nil))) kr WG fun a w F G=>?_
   obtain ⟨F,G⟩:=G.nM [76,42,41,40,35,34,33,14,13,12,8,7,6,2,1] Qe
   have G:=Xy
   refine Za (Zb G rfl (fun hc5=>?_) (fun hc5=>?_))
   ·skip
    have hBq:(p (Nn (Nn g.txs i).ops j).key && ZlB g phen (Nn g.txs i) (Nn (Nn g.txs i).ops j))=true:=by unfold ZlB;rw [hnd.1,hnd.2,hc5];rfl
    refine rT G (qR rr (qg 0 104 r1 r1 (qa 104 r1 r1 (qR rr (qe 4 105 r1 r1 (qf (oP (Zjg (Nn (Nn g.txs i).ops j)) func86 (Args.one (.pagg .t))) r1 qz (qf (oB [(0,.tmp 79),(1,.tmp 80),(2,.tmp 82)] [.int .i64 0,.int .i64 0,.int .i64 0,.int .i64 0,.int .i64 0] [(0,1),(1,1),(2,3)] (.one rfl .t one_int kr (.one rfl .t one_int kr (.agg rfl (.conv .t .agg) kr kr .nil)))) r3 qz (qf (Zj (sz:=5) (zs:=[.int .i64 0,.int .i64 0,.int .i64 0,.int .i64 0,.int .i64 0]) (r:=[(0,.tmp 83)]) (l:=[_,_,_,_,_]) underlying173 kr kr kr kr rfl rfl (.agg rfl .t kr kr .nil) rfl) r1 qz (qf (o_append (sz:=5) (bs:=40) 50 (.mk' underlying173 kr kr) Wh .is (.arr (l':=[(⟨(Nn g.txs i).id,j,ofO (Nn (Nn g.txs i).ops j)⟩:Zt8)]) .t) WB XW) ⟨rfl,rfl,tv⟩ ⟨rfl,tv⟩ (qO rr qZ)))))))))) Z Qb Qe fun τ G=>?_
    have G:=Xb
    generalize τ 85=v85 at G
    refine Ze (Za (rZ G (qp r1 (qR rr qZ)) Z Qb Qe fun G=>?_))
    replace G:=G.eI 42 j
    obtain ⟨F,G⟩:=G.nM QM JJ
    exact ⟨((j+1),_,_),F,⟨ow,WZ⟩,G,ow⟩
   have hBq:¬ (p (Nn (Nn g.txs i).ops j).key && ZlB g phen (Nn g.txs i) (Nn (Nn g.txs i).ops j))=true:=by unfold ZlB;rw [hnd.1,hnd.2,hc5];simp
   refine Yf (Ze (Za (rZ G (qp r1 (qR rr qZ)) Z Qb Qe fun G=>?_)))
   replace G:=G.eI 42 j
   obtain ⟨F,G⟩:=G.nM QM JJ
   exact ⟨((j+1),_,_),F,⟨ow,WZ⟩,G,ow⟩
  have hil:j=(Nn g.txs i).ops.length:=Kb
  refine Yz (Zg (Zg (Zm (Ze (Za (rZ G (qp r1 (qR rr qZ)) Z Jr Qr fun G=>?_))))))
  replace G:=G.eI 35 i
  obtain ⟨F,G⟩:=G.nM [34,33,8,6,2,1,7,35] [102,101,0,50]
  exact ⟨((i+1),_,_),F,⟨ow,(by rw [ZmQ hio,hq,hil,YE])⟩,G,ow⟩
 have hil:i=g.txs.length:=Kj
 refine Yz (Zg (Zg (Zm (Za (Ya (rZ G (qR rr (qO rr qZ)) Z [6] KV fun G=>Yj ?_))))))
 obtain ⟨F,G⟩:=G.give 50 6 rfl rfl
 refine Zo hfr G rfl rfl rfl (.sl WY)
theorem ZvQ (x:Int):FnP prog 141 [.int .i64 x] (.bool ((fun _=>true) x)):=by
 refine FnP.mk func141 rfl ntmps141 rfl fun B a w F Z hfr G=>Ya ?_
 refine rZ G qB Z [2] [0] fun G=>Ya ?_
 refine rZ G qB Z [2] [0] fun G=>Yj ?_
 refine Zo hfr G rfl rfl rfl (.bool rfl)
theorem Zwk (g:Zl) (phen:Int) (hsm:Zcj g):FnP prog 102 [.agg (Zr g),.int .i64 phen] (.sl ZjO (ZeK g phen fun _=>true)):=by
 refine FnP.mk func102 rfl ntmps102 rfl fun B a w F Z hfr G=>Ya ?_
 refine rS G (qx 101 r1 (qC qZ)) Z QX KN fun τ G=>?_
 have G:=Xl
 generalize τ 2=v2 at G
 refine Za (Ya (rZ G (qe 2 101 r1 r1 (qR rr (qf (oP (ZqZ g phen hsm (fun _=>true) 141 f141 [] func141 rfl kr (fun x=>ZvQ x)) func140 (Args.three (.pagg .t) .t (.conv .f (Ent.fnClos)))) r2 qz (qO rr qZ)))) Z [4] KN fun G=>Yj ?_))
 refine Zo hfr G rfl rfl rfl .refl
theorem Zu1 {p:Int→Bool} {g:Zl} (hs:Zcj g):(rdC p g).length≤2000*g.txs.length:=by
 unfold rdC
 split
 ·have h1:=Znn (p:=p) (g:=g) hs.1 g.txs.length
  rwa [YE] at h1
 ·simp
def Z6 (g:Zl):List Zi:=(Zg5 (wwC PT1 g) (rdC PT1 g)).map HvD.edge
def Zbu (p:Int):Int×Int:=if p=1 then (2,0) else if p=4 then (6,0) else if p=5 then (14,8) else (0,0)
def PhB (g:Zl) (p:Int):Prop:=if p=2∨p=3 then ZeK g p PT1≠[] else (Zbu p).1≠0∧Zdw (Z6 g) (Zbu p).1 (Zbu p).2
def Zp5 (b1 b2 b3 b4 b5:Bool):Int:=if b1=true then 0 else if ((b2 || b3) || b4)=true then 1 else if b5=true then 2 else 3
def bsI (bs:List Bool) (i:Nat):List Bool:=bs.take i++List.replicate (6 - i) false
theorem Zt1 {bs:List Bool} (h:bs.length=6) {i:Nat} (hi:i≤6):(bsI bs i).length=6:=by unfold bsI;rw [Yc,Yp,Ybb];omega
theorem Ztv {bs:List Bool} (h:bs.length=6) {i:Nat} (hi:i<6):(bsI bs i).set i (Nn bs i)=bsI bs (i+1):=by
 unfold bsI
 have e1:(bs.take i).length=i:=Wm
 rw [List.set_append_right _ _ ow,e1,Nat.sub_self,show 6 - i=(6 - (i+1))+1 by omega,List.replicate_succ,List.set_cons_zero,Zy ow,Y1];rfl
theorem Zdo {g:Zl} (hg:ZA g) {e:Zi} : e ∈ Z6 g ↔ EdS g e:=by
 rw [← ZuI hg]
 unfold Z6 Zg5
 rw [Yba]
 rw [show (HvD.edge ∘ fun e=>(⟨e,cntA (wwC PT1 g) (rdC PT1 g) e⟩:HvD))=id from rfl,List.map_id]
 exact (ZbB ZbQ _).2 _
theorem ZqQ {g:Zl} (hg:¬ ZA g):Z6 g = []:=by
 unfold Z6 Zg5 Zgq wwC rdC
 rw [Yb hg,Yb hg];rfl
theorem Zsb {g:Zl} (hg:ZA g) {e:Zi} (he:EdS g e):(∃ t ∈ g.txs,t.id=e.src∧t.done=true) ∧ ∃ t ∈ g.txs,t.id=e.dst∧t.done=true:=by
 obtain ⟨_,h2,h3,_,_,h6⟩:=ZbY.1 hg
 have ord:∀ {k z:Int},z ∈ getO g.orders k → ∃ t ∈ g.txs,t.id=z∧t.done=true:=fun {k z} hz=>by
  obtain ⟨t,h4,h5,h7,_⟩:=writers_mem.1 ((h6 k).mem_iff.1 hz)
  exact ⟨t,h4,h5,h7⟩
 rcases he with ⟨_,h⟩ | ⟨t,ht,hd,o,_,_,h1,h7,h8⟩
 ·exact ⟨ord h.mem.1,ord h.mem.2⟩
 ·rcases h8 with ⟨h9,rfl⟩ | ⟨y,h9,_,rfl⟩
  ·refine ⟨?_,t,ht,rfl,hd⟩
   rcases h7 with h7 | ⟨u,u1,u2,_⟩
   ·exact absurd h7 h9
   ·exact ⟨u,(findT_mem u1).1,(findT_mem u1).2,u2⟩
  ·exact ⟨⟨t,ht,rfl,hd⟩,ord h9.mem⟩
theorem Zpu {g:Zl} (hs:Zcj g) (mask:Int):(ZB (ZdY (Z6 g) mask)).length≤4096:=by
 by_cases hg:ZA g
 ·have h1:(ZB (ZdY (Z6 g) mask)).length≤(g.txs.map TxD.id).length:=List.Nodup.length_le_of_subset (Zjp _) fun x hx=>by
   obtain ⟨e,he,hx⟩:=Zb3.1 hx
   obtain ⟨h3,h4⟩:=Zsb hg ((Zdo hg).1 (YK.1 he).1)
   rcases hx with rfl | rfl
   ·obtain ⟨t,h5,h6,_⟩:=h3;exact YB.2 ⟨t,h5,h6⟩
   ·obtain ⟨t,h5,h6,_⟩:=h4;exact YB.2 ⟨t,h5,h6⟩
  have h2:=hs.1.1
  rw [YJ] at h1;omega
 ·rw [ZqQ hg];exact YA _
theorem Zog (l:List HvD) (hl:l.length≤1000000):FnP prog 34 [.sl rHv l] (.sl ZE (l.map HvD.edge)):=by
 refine FnP.mk func34 rfl ntmps34 rfl fun B a w F Z hfr G=>Ya ?_
 refine rZ G (qC qZ) Z Q0 [0] fun G=>Ya ?_
 refine rZ G (qC qZ) Z KR [0] fun G=>(Ya (Ya ?_))
 refine rZ G (qR rr (qu underlying83 r1 (qJ qZ))) Z QH [0] fun G=>Yi ?_
 replace G:=G.fresh 50 rfl
 replace G:=G.turn 50 rfl (Za6 (T:=116) (sz:=4) (R:=ZE))
 refine Zk (σ:=(Nat)×(Value)×(List Zi)) [2,6,7] [0] (fun s=>[(8,.pv (.int .i64 (s.1:Int))),(3,.pv (.is s.2.1))]) (fun s=>[(50,.ob (.val s.2.1) (Zz 116 4 ZE s.2.2))]) (fun s=>s.1≤l.length∧(s.2.2=(l.take s.1).map HvD.edge)) (fun s=>l.length - s.1) ((0),(.slice none 0 0),([])) G ⟨rfl,rfl,rfl,rfl,rfl,tv⟩ ⟨rfl,rfl,tv⟩ ⟨YA _,rfl⟩ ?_
 clear G;intro s a w F hC G
 obtain ⟨i,v,out⟩:=s
 have hC:=X4
 obtain ⟨F,G⟩:=G.nM QH JI
 have G:=X3
 obtain ⟨hi,hq⟩:=hC
 have hol:out.length≤i:=by rw [hq,YJ,Yp];omega
 refine Ya (rZ G (qL r2) Z [9,8,7,6,3,2] JI fun G=>Ya ?_)
 refine Zb G rfl (fun hc0=>?_) (fun hc0=>?_)
 ·have hil:i<l.length:=Wl
  refine Yf (Za (Ya (Yi (Ya (rS G (qy 5 underlying83 r2 (qf (oR true 5 .t) r1 qz (qf (oH [.int .i64 0,.int .i64 0,.int .i64 0,.int .i64 0,.int .i64 0] 101) trivial qz (qS 5 101 r2 r1 qZ)))) Z [8,7,6,5,3,2] Qo fun τ G=>?_)))))
  have G:=Xs
  generalize τ 5=v5 at G
  try simp only [Yg] at G
  refine Za (rS G (qR rr (qg 0 101 r1 r1 (qf (oL true 4 101 .adr) r1 r1 (qf (Zj (sz:=4) (zs:=[.int .i64 0,.int .i64 0,.int .i64 0,.int .i64 0]) (r:=[(0,.tmp 14)]) (l:=[_,_,_,_]) Yb0 kr kr kr kr rfl rfl (.agg rfl .t kr kr .nil) rfl) r1 qz (qf (o_append (sz:=4) (bs:=32) 50 (.mk' Yb0 kr kr) Wh .is (.arr (l':=[(Nn l i).edge]) .t) Wy XW) ⟨rfl,rfl,tv⟩ ⟨rfl,tv⟩ (qO rr qZ)))))) Z QH JI fun τ G=>?_)
  have G:=Xs
  generalize τ 16=v16 at G
  refine Ze (Za (rZ G (qp r1 (qR rr qZ)) Z QH JI fun G=>?_))
  replace G:=G.eI 8 i
  obtain ⟨F,G⟩:=G.nM [7,6,2,3,8] [0,50]
  exact ⟨((i+1),_,_),F,⟨ow,(by rw [Zy hil,Y3,← hq];rfl)⟩,G,ow⟩
 have hil:i=l.length:=Wl
 refine Yz (Zg (Zg (Zm (Za (Ya (rZ G (qR rr (qO rr qZ)) Z [2] JI fun G=>Yj ?_))))))
 obtain ⟨F,G⟩:=G.give 50 2 rfl rfl
 refine Zo hfr G rfl rfl rfl (.sl (by rw [hq,hil,YE]))
theorem Zux (p:Int):FnP prog 103 [.int .i64 p] (.tup [.int .i64 (Zbu p).1,.int .i64 (Zbu p).2]):=by
 refine FnP.mk func103 rfl ntmps103 rfl fun B a w F Z hfr G=>Ya ?_
 refine rZ G (qI (qI qZ)) Z KR [0] fun G=>(Ya (Ya ?_))
 refine rZ G (qR rr qZ) Z QJ [0] fun G=>(Yi (Ya ?_))
 refine rZ G (qf (o_eql .t qi) r1 qz (qO rr qZ)) Z QQ [0] fun G=>?_
 refine Zb G rfl (fun hc0=>?_) (fun hc0=>?_)
 ·have hp:p=1:=WV
  subst hp
  have hg1:(2:Int)=(Zbu 1).1:=rfl
  have hg2:(0:Int)=(Zbu 1).2:=rfl
  refine Ya (rZ G (qI (qI qZ)) Z Q8 [0] fun G=>(Yj (Zn (Zh ?_))))
  refine ZW hfr G rfl (.tmp rfl (.tmp rfl .nil)) (.two (.int hg1) (.int hg2))
 have hp1:¬ p=1:=WV
 refine Ya (rZ G (qf (o_eql .t qi) r1 qz (qO rr qZ)) Z [7,4,3,2] [0] fun G=>?_)
 refine Zb G rfl (fun hc1=>?_) (fun hc1=>?_)
 ·have hp:p=4:=Wg
  subst hp
  have hg1:(6:Int)=(Zbu 4).1:=rfl
  have hg2:(0:Int)=(Zbu 4).2:=rfl
  refine Ya (rZ G (qI (qI qZ)) Z Q8 [0] fun G=>(Yj (Zn (Zh ?_))))
  refine ZW hfr G rfl (.tmp rfl (.tmp rfl .nil)) (.two (.int hg1) (.int hg2))
 have hp2:¬ p=4:=Wg
 refine Ya (rZ G (qf (o_eql .t qi) r1 qz (qO rr qZ)) Z [9,3,2] [0] fun G=>?_)
 refine Zb G rfl (fun hc2=>?_) (fun hc2=>?_)
 ·have hp:p=5:=WA
  subst hp
  have hg1:(14:Int)=(Zbu 5).1:=rfl
  have hg2:(8:Int)=(Zbu 5).2:=rfl
  refine Ya (rZ G (qI (qI qZ)) Z Q8 [0] fun G=>(Yj (Zn (Zh ?_))))
  refine ZW hfr G rfl (.tmp rfl (.tmp rfl .nil)) (.two (.int hg1) (.int hg2))
 have hp3:¬ p=5:=WA
 have hg1:(0:Int)=(Zbu p).1:=by unfold Zbu;rw [Yb hp1,Yb hp2,Yb hp3]
 have hg2:(0:Int)=(Zbu p).2:=by unfold Zbu;rw [Yb hp1,Yb hp2,Yb hp3]
 refine Yf (Ze (Za (Ya (rZ G (qI (qI qZ)) Z Q8 [0] fun G=>Yj ?_))))
 refine ZW hfr G rfl (.tmp rfl (.tmp rfl .nil)) (.two (.int hg1) (.int hg2))
theorem Zko {α:Type} {l:List α} : decide (0<(l.length:Int))=true ↔ l≠[]:=by rw [Yl,Ne,← List.length_eq_zero_iff];omega
theorem Zwe {g:Zl} {p:Int} (h:¬ (p=2∨p=3)) {b0 rb:Bool} (hb:b0=true ↔ PhB g p) (hr:rb=true ↔ Zdw (Z6 g) (Zbu p).1 (Zbu p).2):(!decide ((Zbu p).1=0) && rb)=b0:=by
 rw [Yau,hb]
 unfold PhB
 rw [Yb h,Yw,hr];simp
theorem Zuc (g:Zl) (hsm:Zcj g) (hAR:(wwC PT1 g).length+(rdC PT1 g).length≤100000) (p:Int) (b0:Bool) (hb:b0=true ↔ PhB g p):FnP prog 76 [.agg (Zr g),.int .i64 p] (.bool b0):=by
 refine FnP.mk func76 rfl ntmps76 rfl fun B a w F Z hfr G=>?_
 have hel:=Zg7 (A:=wwC PT1 g) (R:=rdC PT1 g)
 have hkl:=Zfe (Zgq (wwC PT1 g) (rdC PT1 g))
 have hal:(Zgq (wwC PT1 g) (rdC PT1 g)).length≤100000:=by unfold Zgq;rw [Yc,YJ];exact hAR
 have hpl:(Z6 g).length≤100000:=by unfold Z6;rw [YJ];omega
 obtain ⟨rb,hrb⟩:=Zda (Zdw (Z6 g) (Zbu p).1 (Zbu p).2)
 refine Ya (rS G (qx 101 r1 qB) Z QX KN fun τ G=>?_)
 have G:=X2
 generalize τ 2=v2 at G
 refine Za (Ya (Ya (rZ G (qR rr qZ) Z [7,4,2,1] KN fun G=>(Yi (Ya (Ya ?_))))))
 refine rZ G (qf (o_eql .t qi) r1 qz (qO rr qZ)) Z [8,7,4,2,1] KN fun G=>?_
 refine Zb G rfl (fun hc0=>?_) (fun hc0=>?_)
 ·have h23:(p=2∨p=3):=(by have h9:=hc0;simp at h9;omega)
  have hfin:decide (0<((ZeK g p fun _=>true).length:Int))=b0:=by
    rw [Yau,hb]
    unfold PhB
    rw [Ye h23]
    exact Zko
  refine Yf (Za (Zb G rfl (fun hc1=>?_) (fun hc1=>?_)))
  ·have h23:(p=2∨p=3):=(by have h9:=hc1;simp at h9;omega)
   have hfin:decide (0<((ZeK g p fun _=>true).length:Int))=b0:=by
     rw [Yau,hb]
     unfold PhB
     rw [Ye h23]
     exact Zko
   refine Ya (rZ G (qe 2 101 r1 r1 (qR rr (qf (oP (Zwk g p hsm) func102 (Args.two (.pagg .t) .t)) r2 qz (qu underlying173 r1 (qf (Zad .t qi) r1 qz (qO rr qZ)))))) Z QX KN fun G=>(Yj (Zn (Zh ?_))))
   refine Zo hfr G rfl rfl rfl (.bool hfin)
  exact Bool.noConfusion (hc0.symm.trans hc1)
 have hn2:¬ p=2:=WV
 refine rZ G (qf (o_eql .t qi) r1 qz (qO rr qZ)) Z [8,4,2,1] KN fun G=>?_
 refine Zb G rfl (fun hc2=>?_) (fun hc2=>?_)
 ·have h23:(p=2∨p=3):=(by have h9:=hc2;simp at h9;omega)
  have hfin:decide (0<((ZeK g p fun _=>true).length:Int))=b0:=by
    rw [Yau,hb]
    unfold PhB
    rw [Ye h23]
    exact Zko
  refine Ya (rZ G (qe 2 101 r1 r1 (qR rr (qf (oP (Zwk g p hsm) func102 (Args.two (.pagg .t) .t)) r2 qz (qu underlying173 r1 (qf (Zad .t qi) r1 qz (qO rr qZ)))))) Z QX KN fun G=>(Yj (Zn (Zh ?_))))
  refine Zo hfr G rfl rfl rfl (.bool hfin)
 have h23:¬ (p=2∨p=3):=(by have h9:=hc2;simp at h9;omega)
 have hfin:=Zwe h23 hb hrb
 refine Yf (Ze (Za (Ya (rZ G (qR rr (qf (oP (Zux p) func103 (Args.one .t)) r1 qz (qR rr (qf (Zs .t rfl) r1 qz (qf (Zs .t rfl) r1 qz (qO rr (qO rr qZ))))))) Z [6,5,4,2] KN fun G=>Ya ?_))))
 refine rZ G (qR rr (qf (o_neq .t qi) r1 qz (qR rr (qk rfl (fun h=>oL true 2 101 .is) r2 r1 (qk rfl (fun h=>oP (ZpF g hsm (Yaa hAR XW)) func35 (Args.one (.pagg (.w h)))) r2 qz (qk rfl (fun h=>oP (Zog _ K0) func34 (Args.one (.w h))) r2 qz (qm rfl rfl rfl rfl (qm rfl rfl rfl rfl (qk rfl (fun h=>oP (ZuB (Z6 g) (Zbu p).1 (Zbu p).2 hpl (Zpu hsm _) rb hrb) func121 (Args.three (.w h) (.w h) (.w h))) r4 qz (qf (ZC .t .t) r2 qz (qO rr qZ))))))))))) Z [4] [0] fun G=>Yj ?_
 refine Zo hfr G rfl rfl rfl (.bool hfin)
theorem Zwb (g:Zl) (hsm:Zcj g) (hAR:(wwC PT1 g).length+(rdC PT1 g).length≤100000) (b0 b1 b2 b3 b4 b5:Bool) (hbs:∀ i:Nat,i<6→(Nn [b0,b1,b2,b3,b4,b5] i=true ↔ PhB g (i:Int))):FnP prog 31 [.agg (Zr g)] (.agg [.bool b0,.bool b1,.bool b2,.bool b3,.bool b4,.bool b5]):=by
 refine FnP.mk func31 rfl ntmps31 rfl fun B a w F Z hfr G=>Ya ?_
 refine rS G (qx 101 r1 (qf (oH [.bool false,.bool false,.bool false,.bool false,.bool false,.bool false] 102) trivial qz qZ)) Z Q3 KP fun τ G=>?_
 have G:=X2
 generalize τ 1=v1,τ 2=v2 at G
 refine Za (Ya (rS G (qf (Zqa (f:=(fun b:Bool=>PV.bool b)) (n:=6) (zv:=.bool false) (z:=false) 103 kr rfl) trivial qz qZ) Z Qa KO fun τ G=>?_))
 have G:=X2
 generalize τ 3=v3 at G
 refine Za (Ya (Ya (rZ G (qJ qZ) Z Gf KO fun G=>Yi ?_)))
 refine Zk (σ:=Nat) [1,2,3] [0,101,102] (fun s=>[(5,.pv (.int .i64 (s:Int)))]) (fun s=>[(103,.ob (.val v3) (Zkn 28 (fun b:Bool=>PV.bool b) (bsI [b0,b1,b2,b3,b4,b5] s)))]) (fun s=>s≤6) (fun s=>6 - s) (0) G ⟨rfl,rfl,rfl,rfl,tv⟩ ⟨rfl,rfl,rfl,rfl,tv⟩ (YA _) ?_
 clear G;intro i a w F hC G
 have hC:=X4
 obtain ⟨F,G⟩:=G.nM Gf KO
 have G:=X3
 have hi:i≤6:=hC
 have hil6:=Zt1 (bs:=[b0,b1,b2,b3,b4,b5]) rfl hi
 refine Ya (rZ G (qf (Zbb .t qi) r1 qz qZ) Z [6,5,3,2,1] KO fun G=>Ya ?_)
 refine Zb G rfl (fun hc0=>?_) (fun hc0=>?_)
 ·have hil:i<6:=by have h9:=Yd hc0;omega
  refine Yf (Za (Ya (Yi (Ya (rZ G (qR rr (qO rr qZ)) Z JA KO fun G=>?_)))))
  refine Zc G (qR rr (qe 2 101 r1 r1 (qR rr (qf (oP (Zuc g hsm hAR (i:Int) (Nn [b0,b1,b2,b3,b4,b5] i) (hbs i hil)) func76 (Args.two (.pagg .t) .t)) r2 qz (qf (Za3 (sz:=1) 103 Yck kr .is .t ow ow) r2 r1 (qf (Zhg 103 .adr .t ZbI kr (by rw [hil6];simp;omega)) r2 r1 qZ)))))) Z Gf KO rfl rfl fun a w F G=>?_
  try simp only [Yg] at G
  try simp only [Yab,Nat.mul_one,Yg] at G
  rw [Ztv rfl hil] at G
  refine Ze (Za (rZ G (qp r1 (qR rr qZ)) Z Gf KO fun G=>?_))
  replace G:=G.eI 5 i
  obtain ⟨F,G⟩:=G.nM [3,2,1,5] [102,101,0,103]
  exact ⟨(i+1),F,(by show i+1≤6;omega),G,(by show 6 - (i+1)<6 - i;omega)⟩
 have hil:i=6:=KE
 refine Yz (Zg (Zg (Zm (Za (Ya ?_)))))
 replace G:=G.turn 103 rfl (r':=.pt (.val v3) 28 [.pv (.bool b0),.pv (.bool b1),.pv (.bool b2),.pv (.bool b3),.pv (.bool b4),.pv (.bool b5)]) (fun τ w f y h=>by rw [hil] at h;exact Zf7 τ w f y h)
 obtain ⟨F,G⟩:=G.nM [6,5,3,2,1] KO
 refine rZ G (qe 6 103 r1 r1 (qs 6 102 r2 r1 qZ)) Z [2] KO fun G=>Yj ?_
 refine ZW hfr G rfl (.cl 102 true 6 rfl rfl .nil) (.one (.aggU rfl rfl))
theorem Zu3 (b0 b1 b2 b3 b4 b5:Bool):FnP prog 32 [.agg [.bool b0,.bool b1,.bool b2,.bool b3,.bool b4,.bool b5]] (.int .i64 (Zp5 b1 b2 b3 b4 b5)):=by
 refine FnP.mk func32 rfl ntmps32 rfl fun B a w F Z hfr G=>Ya ?_
 refine rS G (qx 101 r1 (qI qZ)) Z Q3 KN fun τ G=>?_
 have G:=X9
 generalize τ 1=v1 at G
 refine Za (Ya (Yi (Ya (Zc G (qf (Zaf (sz:=1) 101 Yck kr .is qi XW XW XV) r1 r1 (qa 101 r1 r1 (qO rr qZ))) Z Qa KN rfl rfl fun a w F G=>?_))))
 try simp only [Yg] at G
 refine Za (Zb G rfl (fun hc0=>?_) (fun hc0=>?_))
 ·have e1:b1=true:=hc0
  refine Ya (rZ G (qI qZ) Z [2] [0] fun G=>(Yj (Zn (Zh ?_))))
  refine Zo hfr G rfl rfl rfl (.int K1)
 have e1:b1=false:=hc0
 refine Ya (Zc G (qf (Zaf (sz:=1) 101 Yck kr .is qi XW XW XV) r1 r1 (qa 101 r1 r1 (qR rr (qk rfl (fun h=>Zaf (sz:=1) 101 Yck kr .is qi XW XW XV) r2 r1 (qw 101 rfl r2 r1 (qf (Zaq .t .t) r2 qz (qR rr (qk rfl (fun h=>Zaf (sz:=1) 101 Yck kr .is qi XW XW XV) r2 r1 (qw 101 rfl r2 r1 (qf (Zaq .t .t) r2 qz (qO rr qZ))))))))))) Z [6,2,1] KN rfl rfl fun a w F G=>?_)
 try simp only [Yg] at G
 refine Za (Zb G rfl (fun hc1=>?_) (fun hc1=>?_))
 ·have e2:((b2 || b3) || b4)=true:=Wg
  refine Ya (rZ G (qI qZ) Z [2] [0] fun G=>(Yj (Zn (Zh ?_))))
  refine Zo hfr G rfl rfl rfl (.int K1)
 have e2:((b2 || b3) || b4)=false:=Wg
 refine Ya (Zc G (qf (Zaf (sz:=1) 101 Yck kr .is qi XW XW XV) r1 r1 (qa 101 r1 r1 (qO rr qZ))) Z [17,2] [0] rfl rfl fun a w F G=>?_)
 try simp only [Yg] at G
 refine Za (Zb G rfl (fun hc2=>?_) (fun hc2=>?_))
 ·have e3:b5=true:=hc2
  refine Ya (rZ G (qI qZ) Z [2] [0] fun G=>(Yj (Zn (Zh ?_))))
  refine Zo hfr G rfl rfl rfl (.int K1)
 have e3:b5=false:=hc2
 refine Yf (Ze (Za (Ya (rZ G (qI qZ) Z [2] [0] fun G=>Yj ?_))))
 refine Zo hfr G rfl rfl rfl (.int K1)
theorem ZnM (g:Zl) (hsm:Zcj g) (hAR:(wwC PT1 g).length+(rdC PT1 g).length≤100000) (b0 b1 b2 b3 b4 b5:Bool) (hbs:∀ i:Nat,i<6→(Nn [b0,b1,b2,b3,b4,b5] i=true ↔ PhB g (i:Int))):FnP prog 10 [.agg (Zr g)] (.agg [.bool b0,.bool b1,.bool b2,.bool b3,.bool b4,.bool b5,.int .i64 (Zp5 b1 b2 b3 b4 b5)]):=by
 refine FnP.mk func10 rfl ntmps10 rfl fun B a w F Z hfr G=>Ya ?_
 refine rS G (qx 101 r1 (qf (oH [.bool false,.bool false,.bool false,.bool false,.bool false,.bool false,.int .i64 0] 102) trivial qz qZ)) Z Q3 KP fun τ G=>?_
 have G:=X2
 generalize τ 1=v1,τ 2=v2 at G
 refine Za (Ya (rS G (qe 2 101 r1 r1 (qf (oP (Zwb g hsm hAR b0 b1 b2 b3 b4 b5 hbs) func31 (Args.one (.pagg .t))) r1 qz (qf (oH [.bool false,.bool false,.bool false,.bool false,.bool false,.bool false] 103) trivial qz (qf (oA 6 103 .same (.conv .t .agg)) r2 r1 qZ)))) Z Q8 KO fun τ G=>?_))
 have G:=X1
 generalize τ 3=v3 at G
 refine Za (Ya (Zv G (qe 6 103 r1 r1 (qe 6 103 r1 r1 (qf (oP (Zu3 b0 b1 b2 b3 b4 b5) func32 (Args.one (.pagg .t))) r1 qz (qf (oB [(0,.tmp 6),(1,.tmp 8)] [.bool false,.bool false,.bool false,.bool false,.bool false,.bool false,.int .i64 0] [(0,6),(6,1)] (.agg rfl .t kr kr (.one rfl .t one_int kr .nil))) r2 qz (qs 7 102 r2 r1 qZ))))) Z [2] KO rfl rfl fun a w F G=>?_))
 have G:=X6
 refine Za (Yj (ZW hfr G rfl (.cl 102 true 7 rfl rfl .nil) (.one (.aggU rfl rfl))))
theorem Zsc {t:TxD} {o:OpD} (ho:o ∈ t.ops) (hd:Zei t.id o=true):ofO o ∈ Zjj t:=by
 have key:∀ (l:List OpD) (out:List Zaz),(ofO o ∈ out∨o ∈ l)→ofO o ∈ l.foldl (ZaL t.id) out:=by
  intro l
  induction l with
  | nil=>intro out h;rcases h with h | h;exact h;cases h
  | cons x l ih=>
   intro out h
   rw [Yav]
   refine ih _ ?_
   rcases h with h | h
   ·left
    unfold ZaL
    split
    ·exact Y6 _ h
    ·exact h
   ·rcases Ym.1 h with rfl | h
    ·left
     unfold ZaL
     by_cases hin:ofO o ∈ out
     ·rw [Yb (by simp [hin])];exact hin
     ·rw [Ye ⟨hd,hin⟩];simp
    ·exact .inr h
 exact key t.ops [] (.inr ho)
theorem ZpQ {g:Zl} {p:Int} : ZeK g p PT1≠[] ↔ ZA g ∧ ∃ t ∈ g.txs,∃ o ∈ t.ops,ZlB g p t o=true:=by
 unfold ZeK
 by_cases hg:ZA g
 ·rw [Ye hg]
  unfold badsG
  rw [Ne,List.flatMap_eq_nil_iff]
  constructor
  ·intro h
   refine ⟨hg,Ya5 fun hn=>h fun t ht=>?_⟩
   unfold ZcB
   rw [List.map_eq_nil_iff,Ybk]
   intro x hx hb
   have hm:x.1 ∈ t.ops:=by
    obtain ⟨i,hi,e⟩:=YR hx
    simp at e
    rw [← e];exact YaL _
   exact hn ⟨t,ht,x.1,hm,by simpa using hb⟩
  ·rintro ⟨_,t,ht,o,ho,hb⟩ h
   have:=h t ht
   unfold ZcB at this
   rw [List.map_eq_nil_iff,Ybk] at this
   obtain ⟨i,hi,e⟩:=YR ho
   exact this (o,i) (by rw [← e];exact List.mk_mem_zipIdx_iff_getElem?.2 (Yas hi)) XS
 ·rw [Yb hg]
  exact ⟨fun h=>absurd rfl h,fun h=>absurd h.1 hg⟩
structure Zwu (x y:Zl) (id:Int):Prop where
 rx:ZA x
 ry:ZA y
 ord:∀ k,getO y.orders k=getO x.orders k
 flt:x.txs=y.txs.filter fun t=>!decide (t.id=id)
 idle:∀ t ∈ y.txs,t.id=id→t.done=false∨t.ops = []
 free:∀ t ∈ x.txs,∀ o ∈ t.ops,o.read=true→o.tx≠id
section
variable {x y:Zl} {id:Int}
end
abbrev Zea {α:Type} (κ:α→Int) (l:List α):Prop:=l.Pairwise fun x y=>κ x<κ y
def ZkG {α:Type} (κ:α→Int) (l:List α):List α:=l.mergeSort fun x y=>decide (κ x≤κ y)
theorem Zhb {α:Type} {κ:α→Int} (l:List α):(ZkG κ l).Perm l:=YaI _ _
theorem ZiZ {α:Type} {κ:α→Int} : ∀ {a b:List α},Zea κ a→Zea κ b→(∀ x,x ∈ a ↔ x ∈ b)→a=b
 | [],[],_,_,_=>rfl
 | [],y :: b,_,_,hm=>by have:=(hm y).2 XM;cases this
 | x :: a,[],_,_,hm=>by have:=(hm x).1 XM;cases this
 | x :: a,y :: b,ha,hb,hm=>by
  have ha':=Yu.1 ha
  have hb':=Yu.1 hb
  have e1:x=y:=by
   rcases Ym.1 ((hm x).1 XM) with e | e
   ·exact e
   ·rcases Ym.1 ((hm y).2 XM) with e2 | e2
    ·exact e2.symm
    ·have:=ha'.1 y e2;have:=hb'.1 x e;omega
  subst e1
  congr 1
  refine ZiZ ha'.2 hb'.2 fun z=>⟨fun hz=>?_,fun hz=>?_⟩
  ·rcases Ym.1 ((hm z).1 (Yy _ hz)) with e | e
   ·subst e;have:=ha'.1 z hz;omega
   ·exact e
  ·rcases Ym.1 ((hm z).2 (Yy _ hz)) with e | e
   ·subst e;have:=hb'.1 z hz;omega
   ·exact e
abbrev Unl {α:Type} (κ:α→Int) (l:List α):Prop:=l.Pairwise fun x y=>κ x≠κ y
theorem Unl.perm {α:Type} {κ:α→Int} {a b:List α} (h:Unl κ a) (hp:a.Perm b):Unl κ b:=(hp.pairwise_iff (fun {x y} h=>h.symm)).1 h
theorem Zma {α:Type} {κ:α→Int} {l:List α} (h:Unl κ l):Zea κ (ZkG κ l):=by
 have h1:(ZkG κ l).Pairwise fun x y=>decide (κ x≤κ y)=true:=Ybx (fun a b c h1 h2=>by simp at *;omega) (fun a b=>by simp;omega) l
 have h2:Unl κ (ZkG κ l):=h.perm (Zhb l).symm
 exact (h1.and h2).imp fun {x y} k => by have h3 : κ x ≤ κ y := by simpa using k.1
                                         have h4:=k.2
                                         omega
theorem ZfJ {id:Int} : ∀ (r s:List OpD),Zax id s r=0 → ∀ o ∈ r,Z1 o=true
 | [],_,_,o,ho=>by cases ho
 | x :: r,s,h,o,ho=>by
  rw [Ziq] at h
  split at h
  ·cases h
  ·rename_i h1
   split at h
   ·cases h
   ·rcases Ym.1 ho with rfl | ho
    ·simpa using h1
    ·exact ZfJ r _ h o ho
theorem Zqx {t:TxD} (h:ZaU t=0) {o:OpD} (ho:o ∈ t.ops):Z1 o=true:=by
 unfold ZaU at h
 split at h
 ·cases h
 ·split at h
  ·cases h
  ·exact ZfJ _ _ h o ho
theorem Zgb:∀ {a b:List Int},a.Nodup→(∀ x ∈ a,x ∈ b)→a.length≤b.length
 | [],b,_,_=>YA _
 | x :: a,b,h,hs=>by
  rw [YaT] at h
  have hx:x ∈ b:=hs x XM
  have h1:=Zgb (b:=b.erase x) h.2 fun y hy=>(List.mem_erase_of_ne (fun e=>h.1 (by rw [← e];exact hy))).2 (hs y Wj)
  rw [List.length_erase_of_mem hx] at h1
  have:=List.length_pos_of_mem hx
  rw [Yh];omega
def Zae (g:Zl):List Int:=(g.txs.filter fun t=>t.done).map TxD.id
def txF (g:Zl) (id:Int):TxD:=(ZaM g.txs id).getD zeroT
def wrP (g:Zl) (k id:Int):Bool:=decide (0<wcnt (txF g id).ops k)
def wrs (g:Zl) (l:List Int) (k:Int):List Int:=l.filter (wrP g k)
def ZpO (g:Zl) (l:List Int) (k:Int):Zaz:=match (wrs g l k).getLast? with
 | none=>⟨0,k,0⟩
 | some id=>⟨id,k,(wcnt (txF g id).ops k:Int)⟩
def Zic (g:Zl) (l:List Int) (t:TxD) (o:OpD):Bool:=(!o.read || decide (o.tx=t.id)) || decide (ofO o=ZpO g l o.key)
def Zbn (g:Zl) (l:List Int):Prop:=ZA g∧l.Perm (Zae g)∧(∀ i,i<l.length→(txF g (Nn l i)).ops.all (Zic g (l.take i) (txF g (Nn l i)))=true) ∧ ∀ o ∈ g.orders,o.txs=wrs g l o.key
instance (g:Zl) (l:List Int):Decidable (Zbn g l):=by unfold Zbn;exact inferInstance
abbrev at9 (l:List Int) (x:Int):Int:=Z2 x l
def Bef (l:List Int) (a b:Int):Prop:=a ∈ l∧b ∈ l∧Z2 a l<Z2 b l
theorem Bef.trans {l:List Int} {a b c:Int} (h:Bef l a b) (k:Bef l b c):Bef l a c:=⟨h.1,k.2.1,Int.lt_trans h.2.2 k.2.2⟩
theorem Bef.irr {l:List Int} {a:Int} (h:Bef l a a):False:=absurd h.2.2 (Int.lt_irrefl _)
theorem Bef.rch {l:List Int} {E:Int→Int→Prop} (hE:∀ a b,E a b→Bef l a b) {a b:Int} (h:Rch E a b):Bef l a b:=by
 induction h with
 | one h=>exact hE _ _ h
 | step _ k ih=>exact ih.trans (hE _ _ k)
theorem Zfu {l:List Int} (hn:l.Nodup) {i:Nat} (hi:i<l.length):Z2 (Nn l i) l=i:=ZpX hi rfl fun k hk e=>by
 rw [nth_eq hi,nth_eq ow] at e
 exact Y4.1 hn k i ow hi hk e
theorem ZlL {l:List Int} (hn:l.Nodup):Zea (at9 l) l:=Y4.2 fun i j hi hj h=>by
 show Z2 _ l<Z2 _ l
 rw [← nth_eq hi,← nth_eq hj,Zfu hn hi,Zfu hn hj];omega
theorem ZqT {l:List Int} (hn:l.Nodup) {i:Nat} {x:Int} : x ∈ l.take i ↔ x ∈ l∧Z2 x l<i:=by
 constructor
 ·intro h
  obtain ⟨j,hj,e⟩:=YR h
  rw [Yp] at hj
  rw [YbI] at e
  refine ⟨Yaw h,?_⟩
  rw [← e,← nth_eq ow,Zfu hn ow];omega
 ·rintro ⟨h1,h2⟩
  obtain ⟨j,e1,e2,e3,_⟩:=ZaA h1
  rw [e1] at h2
  refine YbL.2 ⟨j,by rw [Yp];omega,?_⟩
  rw [YbI,← nth_eq e2,e3]
theorem Zlb {l:List Int} {a b:Int} (ha:a ∈ l) (hb:b ∈ l) (h:Z2 a l=Z2 b l):a=b:=by
 obtain ⟨i,e1,_,e2,_⟩:=ZaA ha
 obtain ⟨j,f1,_,f2,_⟩:=ZaA hb
 rw [e1,f1] at h
 have:i=j:=ow
 subst this
 exact e2.symm.trans f2
theorem Ziw {κ:Int→Int} : ∀ {P:List Int} {w:Int},Zea κ P→w ∈ P→(∀ z ∈ P,κ z≤κ w)→P.getLast? = some w
 | [x],w,_,hw,_=>by rw [Yn.1 hw];rfl
 | x :: y :: P,w,h,hw,hm=>by
  have h':=Yu.1 h
  rw [List.getLast?_cons_cons]
  refine Ziw h'.2 ?_ fun z hz=>hm z (Yy _ hz)
  rcases Ym.1 hw with e | e
  ·subst e
   have h1:=h'.1 y XM
   have h2:=hm y XM
   omega
  ·exact e
theorem ZhC {κ:Int→Int} {P:List Int} {w:Int} (h:Zea κ P) (hw:P.getLast? = some w):w ∈ P ∧ ∀ z ∈ P,κ z≤κ w:=by
 obtain ⟨Q,rfl⟩:∃ Q,P=Q ++ [w]:=by
  have:=List.getLast?_eq_some_iff.1 hw
  exact this
 refine ⟨by simp,fun z hz=>?_⟩
 rcases YC.1 hz with hz | hz
 ·exact YaV ((YbM.1 h).2.2 z hz w XM)
 ·rw [Yn.1 hz];exact Yar _
theorem ZgP {κ:Int→Int} : ∀ {O:List Int},(∀ a b,Zeg O a b→κ a<κ b)→Zea κ O
 | [],_=>List.Pairwise.nil
 | [x],_=>List.pairwise_singleton _ _
 | x :: y :: O,h=>by
  have ih:=ZgP (κ:=κ) (O:=y :: O) fun a b k=>h a b (.inr k)
  have h1:=h x y (.inl ⟨rfl,rfl⟩)
  refine Yu.2 ⟨fun z hz=>?_,ih⟩
  rcases Ym.1 hz with rfl | hz
  ·exact h1
  ·have:=(Yu.1 ih).1 z hz;omega
theorem Zen {κ:Int→Int} : ∀ {O:List Int},Zea κ O → ∀ {a b:Int},Zeg O a b→κ a<κ b
 | x :: y :: O,h,a,b,k=>by
  rcases k with ⟨rfl,rfl⟩ | k
  ·exact (Yu.1 h).1 y XM
  ·exact Zen (Yu.1 h).2 k
theorem Zjd {κ:Int→Int} : ∀ {O:List Int},Zea κ O → ∀ {w z:Int},w ∈ O→z ∈ O→κ w<κ z → ∃ y,Zeg O w y∧κ y≤κ z
 | [x],_,w,z,hw,hz,h=>by rw [Yn.1 hw,Yn.1 hz] at h;omega
 | x :: y :: O,hr,w,z,hw,hz,h=>by
  have hr':=Yu.1 hr
  rcases Ym.1 hw with rfl | hw2
  ·refine ⟨y,.inl ⟨rfl,rfl⟩,?_⟩
   rcases Ym.1 hz with rfl | hz
   ·omega
   ·rcases Ym.1 hz with rfl | hz
    ·exact Yar _
    ·have:=(Yu.1 hr'.2).1 z hz;omega
  ·rcases Ym.1 hz with rfl | hz2
   ·have:=hr'.1 w hw2;omega
   ·obtain ⟨u,h1,h2⟩:=Zjd hr'.2 hw2 hz2 h
    exact ⟨u,.inr h1,h2⟩
theorem ZoK {κ:Int→Int} {O:List Int} (hr:Zea κ O) {h z:Int} (hh:O.head? = some h) (hz:z ∈ O):κ h≤κ z:=by
 cases O with
 | nil=>cases hh
 | cons x O=>
  have:=Ya6 hh
  subst this
  rcases Ym.1 hz with rfl | hz
  ·exact Yar _
  ·exact YaV ((Yu.1 hr).1 z hz)
theorem ZbO {g:Zl} (hg:ZA g) {x:Int} : x ∈ Zae g ↔ ∃ t ∈ g.txs,t.id=x∧t.done=true∧txF g x=t:=by
 unfold Zae
 rw [YB]
 constructor
 ·rintro ⟨t,ht,rfl⟩
  rw [YK] at ht
  exact ⟨t,ht.1,rfl,ht.2,by unfold txF;rw [Zbm (ZO hg).1 ht.1];rfl⟩
 ·rintro ⟨t,ht,rfl,hd,_⟩
  exact ⟨t,YK.2 ⟨ht,hd⟩,rfl⟩
theorem ZgJ {g:Zl} (hg:ZA g):(Zae g).Nodup:=by
 unfold Zae
 have h1:(g.txs.map TxD.id).Nodup:=(Ya3.2 (Z7.1 (ZO hg).1)).imp fun h=>YbU h
 exact h1.sublist (Ybj.map _)
section
variable {g:Zl} {l:List Int}
theorem Zcs (hg:ZA g) (hp:l.Perm (Zae g)):l.Nodup:=hp.nodup_iff.2 (ZgJ hg)
theorem Ze4 (hg:ZA g) (hp:l.Perm (Zae g)) {k x:Int} : x ∈ wrs g l k ↔ x ∈ getO g.orders k:=by
 have h6:=(ZbY.1 hg).2.2.2.2.2 k
 rw [h6.mem_iff,writers_mem]
 unfold wrs wrP
 rw [YK,hp.mem_iff,ZbO hg,Yl]
 constructor
 ·rintro ⟨⟨t,h1,h2,h3,h4⟩,h5⟩
  exact ⟨t,h1,h2,h3,by rw [h4] at h5;exact h5⟩
 ·rintro ⟨t,h1,h2,h3,h4⟩
  have e:txF g x=t:=by unfold txF;rw [← h2,Zbm (ZO hg).1 h1];rfl
  exact ⟨⟨t,h1,h2,h3,e⟩,by rw [e];exact h4⟩
theorem ZeS (hg:ZA g) (hp:l.Perm (Zae g)) (k:Int):Zea (at9 l) (wrs g l k):=(ZlL (Zcs hg hp)).sublist Ybj
theorem Zcg (hg:ZA g) (hp:l.Perm (Zae g)) {k:Int} {i:Nat} {x:Int} : x ∈ wrs g (l.take i) k ↔ x ∈ wrs g l k∧Z2 x l<i:=by
 unfold wrs
 rw [YK,YK,ZqT (Zcs hg hp)]
 constructor
 ·rintro ⟨⟨h1,h2⟩,h3⟩;exact ⟨⟨h1,h3⟩,h2⟩
 ·rintro ⟨⟨h1,h3⟩,h2⟩;exact ⟨⟨h1,h2⟩,h3⟩
theorem Zca (hg:ZA g) (hp:l.Perm (Zae g)) (k:Int) (i:Nat):Zea (at9 l) (wrs g (l.take i) k):=((ZlL (Zcs hg hp)).sublist (List.take_sublist _ _)).sublist Ybj
theorem ZoR (hg:ZA g) (hp:l.Perm (Zae g)) (hw:∀ k a b,Zeg (getO g.orders k) a b→Bef l a b) (k:Int):getO g.orders k=wrs g l k:=
 ZiZ (κ:=at9 l) (ZgP fun a b h=>(hw k a b h).2.2) (ZeS hg hp k) fun x=>(Ze4 hg hp).symm
theorem Zms (hg:ZA g) (ho:∀ k,getO g.orders k=wrs g l k):∀ o ∈ g.orders,o.txs=wrs g l o.key:=fun o h=>by
 rw [← ho,ZcO (Z7.1 (ZO hg).2) h]
end
theorem Zj9 {v:Zaz} (h:ZaT v=true) (hz:v.tx=0):v.nth=0:=by
 unfold ZaT at h
 simp only [hz] at h
 simp at h
 omega
theorem Ztf {g:Zl} (hg:ZA g) (n2:¬ PhB g 2) (n3:¬ PhB g 3) {t:TxD} (ht:t ∈ g.txs) (hd:t.done=true) {o:OpD} (ho:o ∈ t.ops) (hr:o.read=true) (hne:o.tx≠t.id):OkV g o∧(o.tx=0→o.nth=0)∧(o.tx≠0→1≤o.nth):=by
 have hno:∀ p,p=2∨p=3→¬ PhB g p→ZlB g p t o=false:=fun p hp hn=>by
  unfold PhB at hn
  rw [Ye hp,ZpQ] at hn
  cases hb:ZlB g p t o with
  | false=>rfl
  | true=>exact absurd ⟨hg,t,ht,o,ho,hb⟩ hn
 have b2:=hno 2 (.inl rfl) n2
 have b3:=hno 3 (.inr rfl) n3
 have hrt:=((ZbY.1 hg).2.2.1 t ht)
 have hro:=Zqx hrt.1 ho
 unfold Z1 at hro
 rw [Ye hr] at hro
 by_cases h0:o.tx=0
 ·exact ⟨.inl h0,fun _=>Zj9 hro h0,fun h=>absurd h0 h⟩
 ·have hn:Zei t.id o=true:=by unfold Zei;simp [hr,h0,hne]
  have hh:=Yad.1 hrt.2 (ofO o) (Zsc ho hn)
  have e:ofO o = ⟨o.tx,o.key,o.nth⟩:=by unfold ofO;rw [Ye hr]
  rw [e] at hh
  unfold ZrQ at hh
  rw [Yb (fun h=>h0 h.1),Yw,Yw,Yl,Yl] at hh
  obtain ⟨u,hu⟩:=YaH.1 hh.1
  have e2:uOf g o=u:=by unfold uOf;rw [hu];rfl
  have e3:wcnt ((ZaM g.txs o.tx).getD zeroT).ops o.key=wcnt u.ops o.key:=by rw [hu];rfl
  dsimp only at hh
  rw [e3] at hh
  unfold ZlB ZfA at b2 b3
  rw [hn,hd,e2] at b2 b3
  simp at b2 b3
  refine ⟨.inr ⟨u,hu,b2,?_⟩,fun h=>absurd h h0,fun _=>hh.2.1⟩
  have:=hh.2.2
  omega
theorem Zi6 {g:Zl} {l:List Int} (hg:ZA g) (hp:l.Perm (Zae g)) (n2:¬ PhB g 2) (n3:¬ PhB g 3) (he:∀ e,EdS g e→Bef l e.src e.dst):Zbn g l:=by
 have hO:=ZoR hg hp fun k a b h=>he ⟨a,b,1,k⟩ (.inl ⟨rfl,h⟩)
 have hn:=Zcs hg hp
 refine ⟨hg,hp,fun i hi=>?_,Zms hg hO⟩
 obtain ⟨t,ht,hid,hd,hx⟩:=(ZbO hg).1 (hp.mem_iff.1 (nth_mem hi))
 rw [hx,Yad]
 intro o ho
 unfold Zic
 rcases Bool.eq_false_or_eq_true o.read with hr | hr
 rotate_left
 ·rw [hr];rfl
 rcases Decidable.em (o.tx=t.id) with hne | hne
 ·rw [YL hne];simp
 obtain ⟨hok,hz,h1⟩:=Ztf hg n2 n3 ht hd ho hr hne
 have hit:Z2 t.id l=i:=by rw [hid,Zfu hn hi]
 have hrd:∀ e,((o.tx≠0∧e=(⟨o.tx,t.id,2,o.key⟩:Zi)) ∨ ∃ y,Zkm (getO g.orders o.key) o.tx y∧y≠t.id∧e = ⟨t.id,y,3,o.key⟩)→Bef l e.src e.dst:=fun e h=>he e (.inr ⟨t,ht,hd,o,ho,hr,hne,hok,h⟩)
 have hW:=ZeS hg hp o.key
 have hT:=Zca hg hp o.key i
 have e:ofO o = ⟨o.tx,o.key,o.nth⟩:=by unfold ofO;rw [Ye hr]
 suffices hs:ofO o=ZpO g (l.take i) o.key by rw [hs];simp
 rw [e]
 have hlate:∀ y,Zkm (getO g.orders o.key) o.tx y→(i:Int)≤Z2 y l:=fun y hy=>by
  by_cases h2:y=t.id
  ·rw [h2,hit];exact Yar _
  ·have:=(hrd _ (.inr ⟨y,hy,h2,rfl⟩)).2.2
   rw [hit] at this
   exact YaV this
 by_cases h0:o.tx=0
 ·have hnil:wrs g (l.take i) o.key = []:=by
   refine List.eq_nil_iff_forall_not_mem.2 fun z hz9=>?_
   obtain ⟨z1,z2⟩:=(Zcg hg hp).1 hz9
   rw [← hO] at z1 hW
   cases hh:(getO g.orders o.key).head? with
   | none=>rw [List.head?_eq_none_iff] at hh;rw [hh] at z1;cases z1
   | some h=>
    have a1:Z2 h l≤Z2 z l:=ZoK hW hh z1
    have a2:=hlate h (.inl ⟨h0,hh⟩)
    omega
  unfold ZpO
  rw [hnil,h0,hz h0];rfl
 ·rcases hok with h9 | ⟨u,hu,hud,hun⟩
  ·exact absurd h9 h0
  obtain ⟨u1,u2⟩:=findT_mem hu
  have hw:o.tx ∈ getO g.orders o.key:=((ZbY.1 hg).2.2.2.2.2 o.key).mem_iff.2 (writers_mem.2 ⟨u,u1,u2,hud,by have:=h1 h0;omega⟩)
  have hb:=(hrd _ (.inl ⟨h0,rfl⟩)).2.2
  dsimp only at hb
  rw [hit] at hb
  have hlast:(wrs g (l.take i) o.key).getLast? = some o.tx:=by
   refine Ziw hT ((Zcg hg hp).2 ⟨(Ze4 hg hp).2 hw,hb⟩) fun z hz9=>?_
   obtain ⟨z1,z2⟩:=(Zcg hg hp).1 hz9
   refine Int.not_lt.1 fun hlt=>?_
   rw [← hO] at z1 hW
   obtain ⟨y,y1,y2⟩:=Zjd hW hw z1 hlt
   have:=hlate y (.inr y1)
   have y2:Z2 y l≤Z2 z l:=y2
   omega
  unfold ZpO
  rw [hlast]
  have:txF g o.tx=u:=by unfold txF;rw [hu];rfl
  dsimp only
  rw [this,hun]
theorem Zey {g:Zl} {l:List Int} (h:Zbn g l) {e:Zi} (he:EdS g e):Bef l e.src e.dst:=by
 obtain ⟨hg,hp,hs,ho⟩:=h
 have hn:=Zcs hg hp
 have hO:∀ k,getO g.orders k≠[]→getO g.orders k=wrs g l k:=fun k hk=>ho _ (Zfc hk)
 have hin:∀ {k x:Int},x ∈ getO g.orders k→x ∈ l:=fun {k x} hx=>by
  have:=(Ze4 hg hp).2 hx
  exact (YK.1 this).1
 rcases he with ⟨_,hc⟩ | ⟨t,ht,hd,o,hot,hr,hne,hok,hx⟩
 ·have hm:=hc.mem
  have hk:=hO e.key (List.ne_nil_of_mem hm.1)
  refine ⟨hin hm.1,hin hm.2,?_⟩
  rw [hk] at hc
  exact Zen (ZeS hg hp e.key) hc
 ·have htl:t.id ∈ l:=hp.mem_iff.2 ((ZbO hg).2 ⟨t,ht,rfl,hd,by unfold txF;rw [Zbm (ZO hg).1 ht];rfl⟩)
  obtain ⟨i,hit,hi,hnt,_⟩:=ZaA htl
  have hse:=hs i hi
  rw [hnt,show txF g t.id=t by unfold txF;rw [Zbm (ZO hg).1 ht];rfl,Yad] at hse
  have h1:=hse o hot
  unfold Zic at h1
  have h2:ofO o=ZpO g (l.take i) o.key:=by simpa [hr,hne] using h1
  rw [show ofO o = ⟨o.tx,o.key,o.nth⟩ by unfold ofO;rw [Ye hr]] at h2
  have hT:=Zca hg hp o.key i
  rcases hx with ⟨h0,rfl⟩ | ⟨y,hy,hyt,rfl⟩
  ·unfold ZpO at h2
   cases hl:(wrs g (l.take i) o.key).getLast? with
   | none=>rw [hl] at h2;exact absurd (Y8 Zaz.tx h2) h0
   | some w=>
    rw [hl] at h2
    have e:o.tx=w:=Y8 Zaz.tx h2
    have hw:=(ZhC hT hl).1
    obtain ⟨w1,w2⟩:=(Zcg hg hp).1 hw
    refine ⟨?_,htl,?_⟩
    ·show o.tx ∈ l
     rw [e];exact (YK.1 w1).1
    ·show Z2 o.tx l<Z2 t.id l
     rw [e,hit];exact w2
  ·refine ⟨htl,hin hy.mem,?_⟩
   show Z2 t.id l<Z2 y l
   rw [hit]
   refine Int.not_le.1 fun hle=>?_
   have hyl:=hin hy.mem
   have hlt:Z2 y l<i:=by
    rcases Int.lt_or_eq_of_le hle with h9 | h9
    ·exact h9
    ·exact absurd (Zlb hyl htl (h9.trans hit.symm)) hyt
   have hyP:=(Zcg hg hp (k:=o.key) (i:=i)).2 ⟨(Ze4 hg hp).2 hy.mem,hlt⟩
   unfold ZpO at h2
   cases hl:(wrs g (l.take i) o.key).getLast? with
   | none=>rw [List.getLast?_eq_none_iff] at hl;rw [hl] at hyP;cases hyP
   | some w=>
    rw [hl] at h2
    have e:o.tx=w:=Y8 Zaz.tx h2
    obtain ⟨w1,w2⟩:=ZhC hT hl
    have hyw:=w2 y hyP
    rcases hy with ⟨h0,_⟩ | hc
    ·have:=(Zf5 hg o.key).2 w ((Ze4 hg hp).1 ((Zcg hg hp).1 w1).1)
     omega
    ·rw [hO o.key (List.ne_nil_of_mem hc.mem.1)] at hc
     have h3:=Zen (ZeS hg hp o.key) hc
     rw [e] at h3
     have hyw:Z2 y l≤Z2 w l:=hyw
     have h3:Z2 w l<Z2 y l:=h3
     omega
theorem Zj5 {g:Zl} {l:List Int} (h:Zbn g l) {p:Int} (hp2:p=2∨p=3):¬ PhB g p:=by
 have hal:=fun e=>Zey (e:=e) h
 obtain ⟨hg,hp,hs,ho⟩:=h
 unfold PhB
 rw [Ye hp2,ZpQ]
 rintro ⟨_,t,ht,o,hot,hb⟩
 unfold ZlB ZfA at hb
 rw [Yw,Yw] at hb
 obtain ⟨hn,hd,hb⟩:=hb
 unfold Zei at hn
 simp at hn
 obtain ⟨⟨hr,h0⟩,hne⟩:=hn
 have htl:t.id ∈ l:=hp.mem_iff.2 ((ZbO hg).2 ⟨t,ht,rfl,hd,by unfold txF;rw [Zbm (ZO hg).1 ht];rfl⟩)
 obtain ⟨i,hit,hi,hnt,_⟩:=ZaA htl
 have hse:=hs i hi
 rw [hnt,show txF g t.id=t by unfold txF;rw [Zbm (ZO hg).1 ht];rfl,Yad] at hse
 have h1:=hse o hot
 unfold Zic at h1
 have h2:ofO o=ZpO g (l.take i) o.key:=by simpa [hr,hne] using h1
 rw [show ofO o = ⟨o.tx,o.key,o.nth⟩ by unfold ofO;rw [Ye hr]] at h2
 unfold ZpO at h2
 cases hl:(wrs g (l.take i) o.key).getLast? with
 | none=>rw [hl] at h2;exact absurd (Y8 Zaz.tx h2) h0
 | some w=>
  rw [hl] at h2
  have e:o.tx=w:=Y8 Zaz.tx h2
  have en:o.nth=(wcnt (txF g w).ops o.key:Int):=Y8 Zaz.nth h2
  have hw:=(ZhC (Zca hg hp o.key i) hl).1
  have hwl:w ∈ l:=(YK.1 ((Zcg hg hp).1 hw).1).1
  obtain ⟨u,u1,u2,u3,u4⟩:=(ZbO hg).1 (hp.mem_iff.1 hwl)
  have e2:uOf g o=u:=by
   unfold uOf
   rw [e];exact u4
  rw [e2] at hb
  rw [u4] at en
  rcases hp2 with rfl | rfl
  ·rw [Ye rfl,u3] at hb;cases hb
  ·rw [Yb XW,Yw,Yl,Yl] at hb
   omega
def ZrD (g:Zl):Prop:=∀ x,¬ Rch (LE_ (Z6 g)) x x
theorem ZnE {L:List Zi} {a b:Int} (h:Rch (LE_ L) a b):Rch (LE_ (L.filter fun e=>decide (e.kind≠3))) a b ∨ ∃ e ∈ L,e.kind=3∧(a=e.src∨Rch (LE_ L) a e.src)∧(e.dst=b∨Rch (LE_ L) e.dst b):=by
 induction h with
 | one h=>
  obtain ⟨e,he,rfl,rfl⟩:=h
  by_cases h3:e.kind=3
  ·exact .inr ⟨e,he,h3,.inl rfl,.inl rfl⟩
  ·exact .inl (.one ⟨e,YK.2 ⟨he,by simpa using h3⟩,rfl,rfl⟩)
 | step h k ih=>
  rcases ih with ih | ⟨e,he,h3,h4,h5⟩
  ·obtain ⟨e,he,rfl,rfl⟩:=k
   by_cases h3:e.kind=3
   ·exact .inr ⟨e,he,h3,.inr h,.inl rfl⟩
   ·exact .inl (.step ih ⟨e,YK.2 ⟨he,by simpa using h3⟩,rfl,rfl⟩)
  ·refine .inr ⟨e,he,h3,h4,.inr ?_⟩
   rcases h5 with rfl | h5
   ·exact .one k
   ·exact .step h5 k
theorem ZoU {E:Int→Int→Prop} {u v:Int} (h:Rch E u v):∃ w,E u w∧(w=v∨Rch E w v):=by
 induction h with
 | one h=>exact ⟨_,h,.inl rfl⟩
 | step h k ih=>
  obtain ⟨w,h1,h2⟩:=ih
  refine ⟨w,h1,.inr ?_⟩
  rcases h2 with rfl | h2
  ·exact .one k
  ·exact .step h2 k
theorem Zoh {g:Zl} (hg:ZA g) {e:Zi} (he:e ∈ Z6 g):e.kind=1∨e.kind=2∨e.kind=3:=by
 rcases (Zdo hg).1 he with ⟨h,_⟩ | ⟨t,_,_,o,_,_,_,_,h⟩
 ·exact .inl h
 ·rcases h with ⟨_,rfl⟩ | ⟨y,_,_,rfl⟩
  ·exact .inr (.inl rfl)
  ·exact .inr (.inr rfl)
theorem Zvj {g:Zl} (hg:ZA g):(Z6 g).filter (ZP 14)=Z6 g:=List.filter_eq_self.2 fun e he=>by
 unfold ZP
 rcases Zoh hg he with h | h | h <;> rw [h] <;> decide
theorem filt6 {g:Zl} (hg:ZA g):(Z6 g).filter (ZP 6)=(Z6 g).filter fun e=>decide (e.kind≠3):=List.filter_congr fun e he=>by
 unfold ZP
 rcases Zoh hg he with h | h | h <;> rw [h] <;> decide
theorem Zrq {g:Zl} (hg:ZA g) (h4:¬ PhB g 4) (h5:¬ PhB g 5):ZrD g:=fun x hx=>by
 rcases ZnE hx with h | ⟨e,he,h3,ha,hb⟩
 ·refine h4 ?_
  unfold PhB
  rw [Yb XW]
  refine ⟨by decide,?_⟩
  show Zdw (Z6 g) 6 0
  unfold Zdw
  rw [filt6 hg]
  obtain ⟨w,⟨e,he,h1,h2⟩,h6⟩:=ZoU h
  refine ⟨e,he,by unfold ZkJ;rw [YL XW];rfl,?_⟩
  rw [h1,h2]
  exact h6
 ·refine h5 ?_
  unfold PhB
  rw [Yb XW]
  refine ⟨by decide,?_⟩
  show Zdw (Z6 g) 14 8
  unfold Zdw
  rw [Zvj hg]
  refine ⟨e,he,by unfold ZkJ;rw [h3];decide,?_⟩
  rcases hb with hb | hb <;> rcases ha with ha | ha
  ·exact .inl (hb.trans ha)
  ·exact .inr (hb ▸ ha)
  ·exact .inr (ha ▸ hb)
  ·exact .inr (hb.trans ha)
theorem Zqp {g:Zl} (hg:ZA g) (h:ZrD g) {p:Int} (hp:¬ (p=2∨p=3)):¬ PhB g p:=fun hb=>by
 unfold PhB at hb
 rw [Yb hp] at hb
 obtain ⟨_,e,he,_,hr⟩:=hb
 have he':=YK.1 he
 have hm:∀ a b,LE_ ((Z6 g).filter (ZP (Zbu p).1)) a b→LE_ (Z6 g) a b:=fun a b ⟨d,hd,h1,h2⟩=>⟨d,(YK.1 hd).1,h1,h2⟩
 refine h e.src ?_
 have h1:LE_ (Z6 g) e.src e.dst:=⟨e,he'.1,rfl,rfl⟩
 rcases hr with hr | hr
 ·exact .one (hr ▸ h1)
 ·exact (Rch.one h1).trans (hr.mono hm)
theorem Znq {g:Zl} {l:List Int} (hg:ZA g) (h:∀ e,EdS g e→Bef l e.src e.dst):ZrD g:=fun x hx=>(Bef.rch (fun a b ⟨e,he,h1,h2⟩=>by rw [← h1,← h2];exact h e ((Zdo hg).1 he)) hx).irr
theorem Zqd (S:List Int) (hn:S.Nodup) (R:Int→Int→Prop) (hc:∀ x,¬ Rch R x x):∃ l:List Int,l.Perm S ∧ ∀ a b,a ∈ S→b ∈ S→R a b→Bef l a b:=by
 classical
 let A:Int→List Int:=fun x=>S.filter fun y=>decide (Rch R y x)
 let κ:Int→Int:=fun x=>((A x).length:Int)*((S.length:Int)+1)+Z2 x S
 have hidx:∀ x ∈ S,0≤Z2 x S∧Z2 x S<S.length:=fun x hx=>⟨Zqm.2 hx,(Zhh x S).2⟩
 have hlt:∀ a b,a ∈ S→b ∈ S→R a b→κ a<κ b:=fun a b ha hb h=>by
  have hl:(A a).length<(A b).length:=by
   have hnd:(a :: A a).Nodup:=YaT.2 ⟨fun h1=>by
    have:=(YK.1 h1).2
    exact hc a (by simpa using this),hn.sublist Ybj⟩
   have hsub:∀ x ∈ a :: A a,x ∈ A b:=fun x hx=>by
    rcases Ym.1 hx with rfl | hx
    ·exact YK.2 ⟨ha,by simpa using Rch.one h⟩
    ·obtain ⟨h1,h2⟩:=YK.1 hx
     exact YK.2 ⟨h1,by simpa using Rch.step W5 h⟩
   have:=Zgb hnd hsub
   rw [Yh] at this;omega
  have h1:=hidx a ha
  have h2:=hidx b hb
  have h3:(((A a).length:Int)+1)*((S.length:Int)+1)≤((A b).length:Int)*((S.length:Int)+1):=Int.mul_le_mul_of_nonneg_right ow ow
  have h4:(((A a).length:Int)+1)*((S.length:Int)+1)=((A a).length:Int)*((S.length:Int)+1)+((S.length:Int)+1):=by rw [Int.add_mul,Int.one_mul]
  show ((A a).length:Int)*((S.length:Int)+1)+Z2 a S<((A b).length:Int)*((S.length:Int)+1)+Z2 b S
  omega
 have hinj:∀ a b,a ∈ S→b ∈ S→κ a=κ b→a=b:=fun a b ha hb h=>by
  have h1:=hidx a ha
  have h2:=hidx b hb
  have h:((A a).length:Int)*((S.length:Int)+1)+Z2 a S=((A b).length:Int)*((S.length:Int)+1)+Z2 b S:=h
  have e1:Z2 a S=(((A a).length:Int)*((S.length:Int)+1)+Z2 a S) % ((S.length:Int)+1):=by
   rw [Int.add_comm,Int.add_mul_emod_self_right];exact (Int.emod_eq_of_lt h1.1 ow).symm
  have e2:Z2 b S=(((A b).length:Int)*((S.length:Int)+1)+Z2 b S) % ((S.length:Int)+1):=by
   rw [Int.add_comm,Int.add_mul_emod_self_right];exact (Int.emod_eq_of_lt h2.1 ow).symm
  exact Zlb ha hb (by rw [e1,e2,h])
 have hu:Unl κ S:=Y4.2 fun i j hi hj hij e=>Y4.1 hn i j hi hj hij (hinj _ _ (YaL hi) (YaL hj) e)
 have hpm:(ZkG κ S).Perm S:=Zhb _
 have hr:Zea κ (ZkG κ S):=Zma hu
 refine ⟨ZkG κ S,hpm,fun a b ha hb h=>?_⟩
 have h1:=hlt a b ha hb h
 have ha':=hpm.mem_iff.2 ha
 have hb':=hpm.mem_iff.2 hb
 refine ⟨ha',hb',?_⟩
 obtain ⟨i,e1,hi,e2,_⟩:=ZaA ha'
 obtain ⟨j,f1,hj,f2,_⟩:=ZaA hb'
 rw [e1,f1]
 refine Int.not_le.1 fun hle=>?_
 rcases YbG i j with h9 | h9 | h9
 ·omega
 ·subst h9
  rw [e2.symm.trans f2] at h1;omega
 ·have h2:=Y4.1 hr j i hj hi h9
  rw [← nth_eq hi,← nth_eq hj,e2,f2] at h2
  omega
theorem Zth {g:Zl} (hg:ZA g) {e:Zi} (he:EdS g e):e.src ∈ Zae g∧e.dst ∈ Zae g:=by
 have hO:∀ {k x:Int},x ∈ getO g.orders k→x ∈ Zae g:=fun {k x} hx=>by
  obtain ⟨t,h1,h2,h3,_⟩:=writers_mem.1 (((ZbY.1 hg).2.2.2.2.2 k).mem_iff.1 hx)
  exact (ZbO hg).2 ⟨t,h1,h2,h3,by unfold txF;rw [← h2,Zbm (ZO hg).1 h1];rfl⟩
 have hD:∀ {t:TxD},t ∈ g.txs→t.done=true→t.id ∈ Zae g:=fun {t} h1 h3=>(ZbO hg).2 ⟨t,h1,rfl,h3,by unfold txF;rw [Zbm (ZO hg).1 h1];rfl⟩
 rcases he with ⟨_,hc⟩ | ⟨t,ht,hd,o,hot,hr,hne,hok,hx⟩
 ·exact ⟨hO hc.mem.1,hO hc.mem.2⟩
 ·rcases hx with ⟨h0,rfl⟩ | ⟨y,hy,hyt,rfl⟩
  ·rcases hok with h9 | ⟨u,hu,hud,_⟩
   ·exact absurd h9 h0
   ·obtain ⟨u1,u2⟩:=findT_mem hu
    exact ⟨by show o.tx ∈ _;rw [← u2];exact hD u1 hud,hD ht hd⟩
  ·exact ⟨hD ht hd,hO hy.mem⟩
theorem Zrc {g:Zl} (hg:ZA g) (hc:ZrD g) (n2:¬ PhB g 2) (n3:¬ PhB g 3):∃ l,Zbn g l:=by
 obtain ⟨l,hp,h⟩:=Zqd (Zae g) (ZgJ hg) (LE_ (Z6 g)) hc
 exact ⟨l,Zi6 hg hp n2 n3 fun e he=>by
  obtain ⟨h1,h2⟩:=Zth hg he
  exact h _ _ h1 h2 ⟨e,(Zdo hg).2 he,rfl,rfl⟩⟩
theorem ZjB {g:Zl} (hg:ZA g):(∀ p:Int,1≤p→p≤5→¬ PhB g p) ↔ ∃ l,Zbn g l:=by
 constructor
 ·intro h
  exact Zrc hg (Zrq hg (h 4 XW XW) (h 5 XW XW)) (h 2 XW XW) (h 3 XW XW)
 ·rintro ⟨l,hl⟩ p _ _
  by_cases hp:p=2∨p=3
  ·exact Zj5 hl hp
  ·exact Zqp hg (Znq hg fun e he=>Zey hl he) hp
section
variable {α:Type} [Inhabited α] (le:α→α→Bool)
def ZdV (l:List α):Nat→Option Nat
 | 0=>none
 | i+1=>if le (Nn l (i+1)) (Nn l i)=true then ZdV l i else some i
def ZeI (l:List α) (i:Nat):Nat→Nat
 | 0=>0
 | k+1=>if le (Nn l (k+1)) (Nn l i)=true then ZeI l i k else k+1
def Zkd (l:List α) (i k:Nat):List α:=(l.set i (Nn l k)).set k (Nn l i)
def ZrS (l:List α) (i k:Nat):List α:=(Zkd l i k).take (i+1)++((Zkd l i k).drop (i+1)).reverse
def Zcp (l:List α):Option (List α):=match ZdV le l (l.length - 1) with
 | none=>none
 | some i=>some (ZrS l i (ZeI le l i (l.length - 1)))
def Zwo:Nat→List α→List (List α)
 | 0,_=>[]
 | n+1,l=>l :: match Zcp le l with
  | none=>[]
  | some m=>Zwo n m
variable {le}
theorem ZkL {l:List α} : ∀ {n i:Nat},ZdV le l n=some i→i<n
 | 0,_,h=>by cases h
 | n+1,i,h=>by
  unfold ZdV at h
  split at h
  ·have:=ZkL h;omega
  ·have:=Ya6 h;omega
theorem Zk5 {l:List α} {i:Nat} : ∀ {n:Nat},ZeI le l i n≤n
 | 0=>YF _
 | n+1=>by
  unfold ZeI
  split
  ·have:=Zk5 (l:=l) (i:=i) (n:=n);omega
  ·exact YF _
section
variable {β:Type} [Inhabited β] {le':β→β→Bool} {f:α→β} {l:List α}
theorem ZcR {i:Nat} (h:i<l.length):Nn (l.map f) i=f (Nn l i):=by
 rw [nth_eq XL,nth_eq h];simp
theorem ZiH (hf:∀ a ∈ l,∀ b ∈ l,le' (f a) (f b)=le a b):∀ {n:Nat},n<l.length→ZdV le' (l.map f) n=ZdV le l n
 | 0,_=>rfl
 | n+1,h=>by
  unfold ZdV
  rw [ZcR h,ZcR ow,hf _ (nth_mem h) _ (nth_mem ow),ZiH hf (n:=n) ow]
theorem ZiB (hf:∀ a ∈ l,∀ b ∈ l,le' (f a) (f b)=le a b) {i:Nat} (hi:i<l.length):∀ {n:Nat},n<l.length→ZeI le' (l.map f) i n=ZeI le l i n
 | 0,_=>rfl
 | n+1,h=>by
  unfold ZeI
  rw [ZcR h,ZcR hi,hf _ (nth_mem h) _ (nth_mem hi),ZiB hf hi (n:=n) ow]
theorem Zqw {i k:Nat} (hi:i<l.length) (hk:k<l.length):Zkd (l.map f) i k=(Zkd l i k).map f:=by
 unfold Zkd
 rw [ZcR hi,ZcR hk,List.map_set,List.map_set]
theorem Zqf (hf:∀ a ∈ l,∀ b ∈ l,le' (f a) (f b)=le a b):Zcp le' (l.map f)=(Zcp le l).map fun m=>m.map f:=by
 by_cases h0:l = []
 ·subst h0;rfl
 have hl:0<l.length:=Ya0.2 h0
 unfold Zcp
 rw [YJ,ZiH hf (n:=l.length - 1) ow]
 cases h:ZdV le l (l.length - 1) with
 | none=>rfl
 | some i=>
  have h1:=ZkL h
  have h2:=Zk5 (le:=le) (l:=l) (i:=i) (n:=l.length - 1)
  dsimp only [Option.map]
  rw [ZiB hf ow (n:=l.length - 1) ow]
  unfold ZrS
  rw [Zqw ow ow,Y3,List.map_reverse,List.map_take,List.map_drop]
end
end
abbrev leN:Nat→Nat→Bool:=fun a b=>Nat.ble a b
abbrev leZ:Int→Int→Bool:=fun a b=>decide (a≤b)
def Za4 (n:Nat):List (List Nat):=Zwo leN 120 (List.range n)
def ZkM (n:Nat):Nat→List (List Nat)
 | 0=>[[]]
 | m+1=>(ZkM n m).flatMap fun l=>(List.range n).map fun x=>x :: l
theorem Zi8 {n:Nat} : ∀ {q:List Nat},(∀ x ∈ q,x<n)→q ∈ ZkM n q.length
 | [],_=>by simp [ZkM]
 | x :: q,h=>by
  refine YaK.2 ⟨q,Zi8 fun y hy=>h y Wj,YB.2 ⟨x,YaE.2 (h x XM),rfl⟩⟩
def ZvG:List Nat→Bool
 | []=>true
 | x :: l=>!l.contains x && ZvG l
theorem ZnI:∀ {l:List Nat},l.Nodup→ZvG l=true
 | [],_=>rfl
 | x :: l,h=>by
  rw [YaT] at h
  unfold ZvG
  rw [ZnI h.2,Bool.and_true]
  simpa using h.1
def ZsF (n:Nat):Bool:=(List.range (Za4 n).length).all fun j=>decide (Zcp leN ((Za4 n)[j]?.getD [])=(Za4 n)[j+1]?)
def ZsG (n:Nat):Bool:=(ZkM n n).all fun q=>!ZvG q || (Za4 n).contains q
theorem Zoy:∀ n,n≤5→ZsF n=true:=by decide +kernel
theorem ZoH:∀ n,n≤5→ZsG n=true:=by decide +kernel
theorem Zrr {n:Nat} (hn:n≤5) {q:List Nat} (h:q.Perm (List.range n)):q ∈ Za4 n:=by
 have h1:=ZoH n hn
 unfold ZsG at h1
 rw [Yad] at h1
 have hl:q.length=n:=by rw [h.length_eq,List.length_range]
 have h2:=h1 q (by have:=Zi8 (n:=n) (q:=q) fun x hx=>YaE.1 (h.mem_iff.1 hx);rwa [hl] at this)
 rw [ZnI (h.nodup_iff.2 List.nodup_range)] at h2
 simpa using h2
theorem Zmv {n:Nat} (hn:n≤5) {j:Nat} (hj:j<(Za4 n).length):Zcp leN ((Za4 n)[j]?.getD [])=(Za4 n)[j+1]?:=by
 have h1:=Zoy n hn
 unfold ZsF at h1
 rw [Yad] at h1
 simpa using h1 j (YaE.2 hj)
def ZsJ (n:Nat):Bool:=(Za4 n).all fun q=>q.isPerm (List.range n)
theorem ZoQ:∀ n,n≤5→ZsJ n=true:=by decide +kernel
theorem Zjv {n:Nat} (hn:n≤5) {q:List Nat} (h:q ∈ Za4 n):q.Perm (List.range n):=by
 have h1:=ZoQ n hn
 unfold ZsJ at h1
 rw [Yad] at h1
 exact List.isPerm_iff.1 (h1 q h)
def ordsZ (D:List Int):List (List Int):=(Za4 D.length).map fun q=>q.map fun i=>Nn D i
theorem Zoi {D:List Int} (hD:Zff D) (hl:D.length≤5) {j:Nat} (hj:j<(ordsZ D).length):Zcp leZ (Nn (ordsZ D) j)=(ordsZ D)[j+1]?:=by
 unfold ordsZ at hj ⊢
 rw [YJ] at hj
 have h1:=Zmv hl hj
 rw [Yas hj] at h1
 have e:Nn ((Za4 D.length).map fun q=>q.map fun i=>Nn D i) j=((Za4 D.length)[j]).map fun i=>Nn D i:=by rw [nth_eq XJ];simp
 have hq:∀ x ∈ (Za4 D.length)[j],x<D.length:=fun x hx=>by
  have:=Zjv hl (YaL hj)
  exact YaE.1 (this.mem_iff.1 hx)
 rw [e,Zqf (le:=leN) fun a ha b hb=>?_]
 ·have h1:Zcp leN (Za4 D.length)[j] = (Za4 D.length)[j+1]?:=h1
  rw [h1,YbH]
 ·have ha':=hq a ha
  have hb':=hq b hb
  rw [Yau,Yl,nth_eq ha',nth_eq hb']
  show _ ↔ Nat.ble a b=true
  rw [Nat.ble_eq]
  constructor
  ·intro h
   refine Nat.not_lt.1 fun h9=>?_
   have:=Y4.1 hD b a hb' ha' h9
   omega
  ·intro h
   rcases YY h with h9 | h9
   ·exact YaV (Y4.1 hD a b ha' hb' h9)
   ·subst h9;exact Yar _
theorem ZjC (D:List Int):((List.range D.length).map fun i=>Nn D i)=D:=by
 refine YaM XM fun i h1 h2=>?_
 simp only [List.getElem_map,YbB]
 exact nth_eq h2
theorem Zit (D:List Int):0<(ordsZ D).length∧Nn (ordsZ D) 0=D:=by
 obtain ⟨r,e⟩:∃ r,Za4 D.length=List.range D.length :: r:=⟨_,rfl⟩
 unfold ordsZ
 rw [e,YG,ZjC]
 exact ⟨by simp,by rw [nth_eq XM];rfl⟩
theorem ords_in {D l:List Int} (hD:Zff D) (hl:D.length≤5) (h:l.Perm D):l ∈ ordsZ D:=by
 have hn:D.Nodup:=hD.imp fun h=>YbU h
 have hq:(l.map fun x=>(Z2 x D).toNat).Perm (List.range D.length):=by
  have e:(D.map fun x=>(Z2 x D).toNat)=List.range D.length:=by
   refine YaM XM fun i h1 h2=>?_
   simp only [List.getElem_map,YbB]
   rw [YJ] at h1
   rw [← nth_eq h1,Zfu hn h1];rfl
  rw [← e];exact h.map _
 unfold ordsZ
 refine YB.2 ⟨_,Zrr hl hq,?_⟩
 rw [Yba]
 have:∀ x ∈ l,((fun i=>Nn D i) ∘ fun x=>(Z2 x D).toNat) x=x:=fun x hx=>by
  obtain ⟨i,e1,e2,e3,_⟩:=ZaA (h.mem_iff.1 hx)
  show Nn D (Z2 x D).toNat=x
  rw [e1];exact e3
 exact (List.map_congr_left this).trans (List.map_id l)
theorem Zo5 {D:List Int} (hl:D.length≤5) {l:List Int} (h:l ∈ ordsZ D):l.Perm D:=by
 unfold ordsZ at h
 obtain ⟨q,hq,rfl⟩:=YB.1 h
 have:=(Zjv hl hq).map fun i=>Nn D i
 rwa [ZjC] at this
theorem Zkp (g:Zl) (hgz:g.txs.length≤10000000000000):FnP prog 15 [.agg (Zr g)] (.sl Zq (Zae g)):=by
 refine FnP.mk func15 rfl ntmps15 rfl fun B a w F Z hfr G=>Ya ?_
 refine rS G (qx 101 r1 (qC qZ)) Z Q3 KN fun τ G=>?_
 have G:=Xe
 generalize τ 1=v1 at G
 refine Za (Ya (rZ G (qC qZ) Z Qa KN fun G=>(Ya (Ya ?_))))
 refine Zc G (qg 0 101 r1 r1 (qa 101 r1 r1 (qu Yb4 r1 (qJ qZ)))) Z JB KN rfl rfl fun a w F G=>?_
 have hgl:=Sat.lenSl G (i:=7) rfl
 refine Za (Yi ?_)
 replace G:=G.fresh 50 rfl
 replace G:=G.turn 50 rfl (Za6 (T:=3) (sz:=1) (R:=Zq))
 refine Zk (σ:=(Nat)×(Value)×(List Int)) [2,7,8] [0,101] (fun s=>[(9,.pv (.int .i64 (s.1:Int))),(3,.pv (.is s.2.1))]) (fun s=>[(50,.ob (.val s.2.1) (Zz 3 1 Zq s.2.2))]) (fun s=>s.1≤g.txs.length∧(s.2.2=((g.txs.take s.1).filter fun t=>t.done).map TxD.id)) (fun s=>g.txs.length - s.1) ((0),(.slice none 0 0),([])) G ⟨rfl,rfl,rfl,rfl,rfl,tv⟩ ⟨rfl,rfl,rfl,tv⟩ ⟨YA _,rfl⟩ ?_
 clear G;intro s a w F hC G
 obtain ⟨i,v,out⟩:=s
 have hC:=X4
 obtain ⟨F,G⟩:=G.nM JB Qo
 have G:=X3
 obtain ⟨hi,hq⟩:=hC
 have hol:out.length≤i:=Ks
 refine Ya (rZ G (qL r2) Z [10,9,8,7,3,2] Qo fun G=>Ya ?_)
 refine Zb G rfl (fun hc0=>?_) (fun hc0=>?_)
 ·have hil:i<g.txs.length:=Wl
  refine Yf (Za (Ya (Yi (Ya (rS G (qy 3 Yb4 r2 (qf (oR true 3 .t) r1 qz (qf (oH [.int .i64 0,.bool false,.slice none 0 0] 102) trivial qz (qS 3 102 r2 r1 qZ)))) Z [9,8,7,5,3,2] KV fun τ G=>?_)))))
  have G:=X7
  generalize τ 5=v5 at G
  try simp only [Yg] at G
  refine Za (Ya (rZ G (qg 1 102 r1 r1 (qa 102 r1 r1 qZ)) Z [14,9,8,7,5,3,2] KV fun G=>?_))
  refine Zb G rfl (fun hc1=>?_) (fun hc1=>?_)
  ·have hD:(Nn g.txs i).done=true:=hc1
   refine rS G (qR rr (qg 0 102 r1 r1 (qa 102 r1 r1 (qf (Zj (sz:=1) (zs:=[.int .i64 0]) (r:=[(0,.tmp 17)]) (l:=[_]) YbY kr kr kr kr rfl rfl (.one rfl .t one_int kr .nil) rfl) r1 qz (qf (o_append (sz:=1) (bs:=8) 50 (.mk' YbY kr kr) Wh .is (.arr (l':=[_]) .t) Ws XW) ⟨rfl,rfl,tv⟩ ⟨rfl,tv⟩ (qO rr qZ)))))) Z JB KV fun τ G=>?_
   have G:=X7
   generalize τ 19=v19 at G
   refine Ze (Za (rZ G (qp r1 (qR rr qZ)) Z JB KV fun G=>?_))
   replace G:=G.eI 9 i
   obtain ⟨F,G⟩:=G.nM [8,7,2,3,9] G7
   exact ⟨((i+1),_,_),F,⟨ow,(by rw [hq,Zy hil,Yai,Y3];simp [hD])⟩,G,ow⟩
  have hD:(Nn g.txs i).done=false:=hc1
  refine Yf (Ze (Za (rZ G (qp r1 (qR rr qZ)) Z JB KV fun G=>?_)))
  replace G:=G.eI 9 i
  obtain ⟨F,G⟩:=G.nM [8,7,2,3,9] G7
  exact ⟨((i+1),_,_),F,⟨ow,(by rw [hq,Zy hil,Yai,Y3];simp [hD])⟩,G,ow⟩
 have hil:i=g.txs.length:=Wl
 refine Yz (Zg (Zg (Zm (Za (Ya (rZ G (qR rr (qO rr qZ)) Z [2] Qo fun G=>Yj ?_))))))
 obtain ⟨F,G⟩:=G.give 50 2 rfl rfl
 refine Zo hfr G rfl rfl rfl (.sl (by rw [hq,hil,YE];rfl))
theorem Zng {w:List Int} {a:Nat} (h:a<w.length) (h0:0<a):(w.drop (a - 1+1)).reverse=(w.drop (a+1)).reverse ++ [Nn w a]:=by
 rw [show a - 1+1=a by omega,Ya4 h,List.reverse_cons,nth_eq h]
theorem Zq1 (l:List Int) (hl:l.length≤100000):FnP prog 17 [.sl Zq l] (.tup [.sl Zq ((Zcp leZ l).getD []),.bool (Zcp leZ l).isSome]):=by
 refine FnP.mk func17 rfl ntmps17 rfl fun B a w F Z hfr G=>Ya ?_
 refine rZ G (qC qB) Z KR [0] fun G=>Ya ?_
 refine rS G (qf (ZaR (R:=Zq) (sz:=1) 101 YbY kr) trivial qz (qR rr (qf (o_append (sz:=1) (bs:=8) 101 (.mk' YbY kr kr) Wh .same (.sl .t) (by simp only [Yq,Yh,Yc];omega) XW) ⟨rfl,rfl,tv⟩ ⟨rfl,tv⟩ (qO rr qZ)))) Z QJ KN fun τ G=>?_
 have G:=Xc
 generalize τ 12=v12 at G
 try rw [Yax] at G
 refine Za (Ya (rZ G (qR rr (qf (ZN 101 YbY .is) r1 r1 (qf (o_sub .t qi) r1 qz (qO rr qZ)))) Z QQ KN fun G=>(Ya (Yi ?_))))
 replace G:=G.ent (i:=5) (s':=.pv (.int .i64 ((l.length:Int) - 2))) rfl (.int (by rw [wrap_i64 ow]))
 refine Zk (σ:=Int) [2,3,4] [0,101] (fun s=>[(5,.pv (.int .i64 s))]) (fun s=>[]) (fun s=>(-2≤s∧s≤(l.length:Int) - 2)∧ZdV leZ l (l.length - 1)=ZdV leZ l (s+1).toNat) (fun s=>(s+2).toNat) (((l.length:Int) - 2)) G ⟨rfl,rfl,rfl,rfl,tv⟩ ⟨rfl,rfl,tv⟩ ⟨⟨ow,ow⟩,by congr 1;omega⟩ ?_
 clear G;intro x a w F hC G
 have hC:=X4
 obtain ⟨F,G⟩:=G.nM QQ KN
 have G:=X3
 obtain ⟨⟨hx1,hx2⟩,hst⟩:=hC
 refine Ya (Ya (Zv G (qR rr (qf (ZbD .t qi) r1 qz (qR rr (qm rfl rfl rfl rfl (qm rfl rfl rfl rfl (qk rfl (fun h=>o_indexAddr_row (sz:=1) 101 (.mk YbY kr) (.w h .is) (.w h) (by simp at h;omega) (by simp at h;omega) XV) r3 r1 (qk rfl (fun h=>Zx (ag:=false) (sz':=1) (sz:=1) 101 (.w h) Wh (by simp at h;omega) kr kr kr) r2 r1 (qm rfl rfl rfl rfl (qm rfl rfl rfl rfl (qk rfl (fun h=>Zce (.w h) qi) r2 qz (qk rfl (fun h=>o_indexAddr_row (sz:=1) 101 (.mk YbY kr) (.w h .is) (.w h) K2 K2 XV) r3 r1 (qk rfl (fun h=>Zx (ag:=false) (sz':=1) (sz:=1) 101 (.w h) Wh K2 kr kr kr) r2 r1 (qk rfl (fun h=>ZbD (.w h) (.w h)) r3 qz (qf (ZC .t .t) r2 qz qZ)))))))))))))) Z [29,5,4,3,2] KN rfl rfl fun a w F G=>?_))
 have G:=Xo
 try simp only [Yg] at G
 refine Za (Zb G rfl (fun hc0=>?_) (fun hc0=>?_))
 ·have hc:0≤x∧Nn l (x+1).toNat≤Nn l x.toNat:=by have h9:=hc0;rw [wrap_i64 ow] at h9;simpa using h9
  have hst2:ZdV leZ l (l.length - 1)=ZdV leZ l (x - 1+1).toNat:=by rw [hst,show (x+1).toNat=x.toNat+1 by omega,show (x - 1+1).toNat=x.toNat by omega];show (if _ then _ else _)=_;rw [Ye (by rw [show x.toNat+1=(x+1).toNat by omega];exact YL hc.2)]
  refine Yf (Za (Yi (Zc G (qR rr (qf (o_sub .t qi) r1 qz (qO rr qZ))) Z QQ KN rfl rfl fun a w F G=>Ze (Za ?_))))
  replace G:=G.ent (i:=5) (s':=.pv (.int .i64 (x - 1))) rfl (.int (wrap_i64 ow))
  obtain ⟨F,G⟩:=G.nM [4,3,2,5] KN
  exact ⟨(x - 1),F,⟨⟨ow,ow⟩,hst2⟩,G,(by show (x - 1+2).toNat<(x+2).toNat;omega)⟩
 have hc:¬ (0≤x∧Nn l (x+1).toNat≤Nn l x.toNat):=by have h9:=hc0;rw [wrap_i64 ow] at h9;simp at h9;intro h8;have:=h9 h8.1;omega
 refine Yz (Zg (Zg (Zm (Za (Ya (Ya (rZ G (qR rr (qf (Zbb .t qi) r1 qz qZ)) Z [33,5,4,3,2] KN fun G=>?_)))))))
 refine Zb G rfl (fun hc1=>?_) (fun hc1=>?_)
 ·have hnx:Zcp leZ l=none:=by unfold Zcp;rw [hst,show (x+1).toNat=0 by simp at hc1;omega];rfl
  refine Ya (rZ G (qC qB) Z QQ KN fun G=>(Yj (Zh ?_)))
  refine ZW hfr G rfl (.tmp rfl (.tmp rfl .nil)) (.two (by rw [hnx];exact .nilSl) (.bool (by rw [hnx];rfl)))
 obtain ⟨i0,hi0⟩:∃ z:Nat,x=z:=⟨x.toNat,by simp at hc1;omega⟩
 subst hi0
 have hlt9:¬ leZ (Nn l (i0+1)) (Nn l i0)=true:=fun h9=>hc ⟨ow,by have h8:=Yd h9;rw [show ((i0:Int)+1).toNat=i0+1 by omega,Yg];exact h8⟩
 have hi0n:ZdV leZ l (l.length - 1)=some i0:=by rw [hst,show ((i0:Int)+1).toNat=i0+1 by omega];show (if _ then _ else _)=_;rw [Yb hlt9]
 refine Yf (Za (Ya (rZ G (qR rr (qf (ZN 101 YbY .is) r1 r1 (qf (o_sub .t qi) r1 qz (qO rr qZ)))) Z [6,5,4,3,2] KN fun G=>(Ya (Yi ?_)))))
 replace G:=G.ent (i:=6) (s':=.pv (.int .i64 (((l.length - 1):Nat):Int))) rfl (.int K3)
 refine Zk (σ:=Nat) [2,3,4,5] [0,101] (fun s=>[(6,.pv (.int .i64 (s:Int)))]) (fun s=>[]) (fun s=>(i0+1≤s∧s≤(l.length - 1))∧ZeI leZ l i0 (l.length - 1)=ZeI leZ l i0 s) (fun s=>s) ((l.length - 1)) G ⟨rfl,rfl,rfl,rfl,rfl,tv⟩ ⟨rfl,rfl,tv⟩ ⟨⟨ow,YF _⟩,rfl⟩ ?_
 clear G;intro k a w F hC G
 have hC:=X4
 obtain ⟨F,G⟩:=G.nM [6,5,4,3,2] KN
 have G:=X3
 obtain ⟨⟨hk1,hk2⟩,hsk⟩:=hC
 refine Ya (Ya (Zv G (qR rr (qR rr (qf (o_indexAddr_row (sz:=1) 101 (.mk YbY kr) .is .t ow ow XV) r2 r1 (qf (Zx (ag:=false) (sz':=1) (sz:=1) 101 .t Wh ow kr kr kr) r1 r1 (qR rr (qR rr (qf (o_indexAddr_row (sz:=1) 101 (.mk YbY kr) .is .t ow ow XV) r2 r1 (qf (Zx (ag:=false) (sz':=1) (sz:=1) 101 .t Wh ow kr kr kr) r1 r1 (qf (o_leq .t .t) r2 qz qZ))))))))) Z [45,6,5,4,3,2] KN rfl rfl fun a w F G=>?_))
 have G:=Xo
 try simp only [Yg] at G
 refine Za (Zb G rfl (fun hc2=>?_) (fun hc2=>?_))
 ·have hc2:leZ (Nn l k) (Nn l i0)=true:=KF
  have hk3:k≠i0+1:=fun e=>hlt9 (e ▸ hc2)
  have hsk2:ZeI leZ l i0 (l.length - 1)=ZeI leZ l i0 (k - 1):=by
    rw [hsk]
    obtain ⟨k',rfl⟩:∃ k',k=k' + 1:=⟨k - 1,ow⟩
    show (if _ then _ else _)=_
    rw [Ye hc2];rfl
  refine Yf (Za (Yi (Zc G (qR rr (qf (o_sub .t qi) r1 qz (qO rr qZ))) Z [6,5,4,3,2] KN rfl rfl fun a w F G=>Ze (Za ?_))))
  replace G:=G.ent (i:=6) (s':=.pv (.int .i64 ((k - 1:Nat):Int))) rfl (.int K3)
  obtain ⟨F,G⟩:=G.nM [5,4,3,2,6] KN
  exact ⟨(k - 1),F,⟨⟨ow,ow⟩,hsk2⟩,G,(by show k - 1<k;omega)⟩
 have hc2:¬ leZ (Nn l k) (Nn l i0)=true:=KF
 have hsk3:ZeI leZ l i0 (l.length - 1)=k:=by
   rw [hsk]
   obtain ⟨k',rfl⟩:∃ k',k=k' + 1:=⟨k - 1,ow⟩
   show (if _ then _ else _)=_
   rw [Yb hc2]
 obtain ⟨ws,hws⟩:∃ z,z=Zkd l i0 k:=⟨_,rfl⟩
 have hwl:ws.length=l.length:=by rw [hws];unfold Zkd;rw [YU,YU]
 have hnx:Zcp leZ l=some (ZrS l i0 k):=by unfold Zcp;rw [hi0n];show some _=_;rw [hsk3]
 refine Yz (Zg (Zg (Zm (Za (Ya (Zc G (qR rr (qR rr (qf (o_indexAddr_row (sz:=1) 101 (.mk YbY kr) .is .t ow ow XV) r2 r1 (qf (Zx (ag:=false) (sz':=1) (sz:=1) 101 .t Wh ow kr kr kr) r1 r1 (qO rr qZ))))) Z [7,6,5,4,3,2] KN rfl rfl fun a w F G=>?_))))))
 try simp only [Yg] at G
 refine Za (Ya (Zc G (qR rr (qR rr (qR rr (qR rr (qf (o_indexAddr_row (sz:=1) 101 (.mk YbY kr) .is .t ow ow XV) r2 r1 (qf (Zx (ag:=false) (sz':=1) (sz:=1) 101 .t Wh ow kr kr kr) r1 r1 (qf (o_indexAddr_row (sz:=1) 101 (.mk YbY kr) .is .t ow ow XV) r2 r1 (qf (ZT (R:=Zq) (sz:=1) (v:=_) 101 .t Wh ow .t rfl one_int kr) r2 r1 qZ)))))))) Z [7,6,5,4,3,2] KN rfl rfl fun a w F G=>?_))
 try simp only [Yg] at G
 refine Za (Ya (Zc G (qR rr (qR rr (qR rr (qf (o_indexAddr_row (sz:=1) 101 (.mk YbY kr) .is .t ow Wp XV) r2 r1 (qf (ZT (R:=Zq) (sz:=1) (v:=_) 101 .t Wh Wp .t rfl one_int kr) r2 r1 qZ))))) Z QQ KN rfl rfl fun a w F G=>?_))
 try simp only [Yg] at G
 rw [show (l.set _ _).set _ _=ws from by rw [hws];rfl] at G
 obtain ⟨F,G⟩:=G.give 101 4 rfl rfl
 obtain ⟨F,G⟩:=G.nM QQ [0]
 refine Za (Ya (rS G (qf (ZaR (R:=Zq) (sz:=1) 102 YbY kr) trivial qz (qR rr (qR rr (qp r1 (qf (ZmL (sz:=1) (.mk YbY kr) Wh .t .t K3 (by rw [hwl,wrap_i64 ow];omega)) r2 qz (qf (o_append (sz:=1) (bs:=8) 102 (.mk' YbY kr kr) Wh .same (.sl .t) (by simp only [Yq,Yc,Yp];omega) XW) ⟨rfl,rfl,tv⟩ ⟨rfl,tv⟩ (qO rr qZ))))))) Z [8,5,4,3,2] QP fun τ G=>?_))
 have G:=Xc
 generalize τ 68=v68 at G
 try rw [Yax] at G
 rw [show (List.take _ ws)=ws.take (i0+1) from by congr 1;rw [wrap_i64 ow];omega] at G
 refine Za (Ya (Ya (rZ G (qR rr (qu YbY r1 (qf (o_sub .t qi) r1 qz (qO rr qZ)))) Z JM QP fun G=>Yi ?_)))
 replace G:=G.ent (i:=9) (s':=.pv (.int .i64 (((l.length - 1):Nat):Int))) rfl (.int (by rw [hwl,wrap_i64 ow];omega))
 refine Zk (σ:=Nat×Value×List Int) [2,3,4,5] [0] (fun s=>[(8,.pv (.is s.2.1)),(9,.pv (.int .i64 (s.1:Int)))]) (fun s=>[(102,.ob (.val s.2.1) (Zz 3 1 Zq s.2.2))]) (fun s=>(i0≤s.1∧s.1≤(l.length - 1))∧s.2.2=ws.take (i0+1)++(ws.drop (s.1+1)).reverse) (fun s=>s.1) (((l.length - 1)),(v68),((ws.take (i0+1)))) G ⟨rfl,rfl,rfl,rfl,rfl,rfl,tv⟩ ⟨rfl,rfl,tv⟩ ⟨⟨ow,YF _⟩,by rw [List.drop_eq_nil_of_le ow];simp⟩ ?_
 clear G;intro s a w F hC G
 obtain ⟨c,v8,out⟩:=s
 have hC:=X4
 obtain ⟨F,G⟩:=G.nM JM QP
 have G:=X3
 obtain ⟨⟨ha1,ha2⟩,hq⟩:=hC
 have hol:out.length≤l.length+l.length:=by rw [hq];simp only [Yc,Yp,List.length_reverse,YS];omega
 refine Ya (Ya (rZ G (qR rr (qR rr (qf (Zad .t .t) r2 qz qZ))) Z [74,9,8,5,4,3,2] QP fun G=>?_))
 refine Zb G rfl (fun hc3=>?_) (fun hc3=>?_)
 ·have hag:i0<c:=Kb
  refine Yf (Za (Ya (Yi (rS G (qR rr (qR rr (qR rr (qy 1 YbY r2 (qf (oR false 1 .t) r1 qz (qf (Zj (sz:=1) (zs:=[.int .i64 0]) (r:=[(0,.tmp 81)]) (l:=[_]) YbY kr kr kr kr rfl rfl (.one rfl .t one_int kr .nil) rfl) r1 qz (qf (o_append (sz:=1) (bs:=8) 102 (.mk' YbY kr kr) Wh .is (.arr (l':=[_]) .t) (by simp only [Yq,Yh,Yc];omega) XW) ⟨rfl,rfl,tv⟩ ⟨rfl,tv⟩ (qO rr qZ)))))))) Z JM QP fun τ G=>?_))))
  have G:=X7
  generalize τ 83=v83 at G
  try simp only [Yg] at G
  refine Ze (Za (rZ G (qR rr (qf (o_sub .t qi) r1 qz (qO rr qZ))) Z JM QP fun G=>?_))
  replace G:=G.ent (i:=9) (s':=.pv (.int .i64 ((c - 1:Nat):Int))) rfl (.int K3)
  obtain ⟨F,G⟩:=G.nM [5,4,3,2,9,8] [0,102]
  exact ⟨((c - 1),(v83),_),F,⟨⟨ow,ow⟩,by rw [hq,Zng (show c<ws.length by omega) ow,Y1]⟩,G,(by show c - 1<c;omega)⟩
 have hae:c=i0:=Kb
 have hfin:out=ZrS l i0 k:=by rw [hq,hae,hws];rfl
 refine Yz (Zg (Zg (Zm (Za (Ya (rZ G (qR rr (qO rr qB)) Z Q8 QP fun G=>Yj ?_))))))
 obtain ⟨F,G⟩:=G.give 102 2 rfl rfl
 refine ZW hfr G rfl (.tmp rfl (.tmp rfl .nil)) (.two (.sl (by rw [hnx];exact hfin)) (.bool (by rw [hnx];rfl)))
end Go.Proofs.YtolmpgbpdapaiaaGreat
namespace Go.Proofs.YtolmpgbpdapaiaaGreat
open Go Go.Gm Tryz
set_option linter.unusedVariables false
set_option linter.unusedSimpArgs false
set_option maxHeartbeats 4000000
set_option maxRecDepth 8000
section
variable {P:Program} {x:Operand} {ps:List (Nat×SF)}
theorem ZaK {kt:TypeId} (hk:P.underlying kt=some (.int .i64)):ZjP P kt (fun n:Int=>inR .i64 n) (fun n:Int=>Value.int .i64 n):=
 ⟨fun b k w _=>(Za2 hk).check b k w tv,fun es k w _ _=>(Za2 hk).find es k w trivial fun _ _=>trivial,(Za2 hk).same⟩
theorem Zw.intR {n k:Int} (h:Opd x ps (.pv (.int .i64 n))) (e:n=k):Zw (fun n:Int=>inR .i64 n) (fun n:Int=>Value.int .i64 n) x ps k:=fun a w yy hp=>by
 subst e
 exact h a w yy hp
end
def Zpb {ν:Type} (ek:ν→PV) (es:List (GE Int ν)):PV:=
 ⟨fun v w y=>∃ b rs ck,v = .map (some b)∧b<w.heap.size∧¬ y b∧w.heap[b]? = some (.map (rs.map (rEnc (fun n:Int=>Value.int .i64 n))).toArray ck)∧GR ek es rs w y∧Zgt (fun n:Int=>inR .i64 n) es,
  fun h ⟨b,rs,ck,e,h1,h2,h3,h4,h5⟩=>⟨b,rs,ck,e,Yam h1 h.size,(h.block b h1 h2).2,by rw [(h.block b h1 h2).1];exact h3,h4.mono h,h5⟩⟩
section
open Go.RowKit Go.ChangeMaps Go.MapKept
variable {P:Program} {d:Option Nat} {t ty:TypeId} {pos:String} {af:Array Edge} {g:Option (Nat×Bool)} {x y:Operand} {ps qs:List (Nat×SF)} {kt et:TypeId} {ν:Type} {ek:ν→PV}
theorem Zn8 {es:List (GE Int ν)} {k:Int} {z0:ν} {zv:Value} (hu:P.underlying t=some (.map kt et)) (hk:ZjP P kt (fun n:Int=>inR .i64 n) (fun n:Int=>Value.int .i64 n)) (hz:(P.info? et).map (·.zero)=some (some zv)) (hz0:∀ w y,(ek z0).p zv w y) (hx:Opd x ps (.pv (Zpb ek es))) (hy:Zw (fun n:Int=>inR .i64 n) (fun n:Int=>Value.int .i64 n) y qs k) :
  OpC P ⟨d,.lookup t x y false,ty,pos,af,g⟩ ⟨ps++qs,[],.pv (ek ((gGet k es).getD z0)),[]⟩:=
 OpC.read fun act w F hp hr=>by
  obtain ⟨b,rs,ck,ex,_,_,hb,hg,hrg⟩:=hx act w (U F) hp.left
  obtain ⟨ey,hok⟩:=hy act w _ hp.right
  have h1:=hk.find rs k w hok (ZcD hg hrg)
  cases hi:gIdx k es with
  | some i=>
   obtain ⟨x0,u,r,h2,h3,h4,_⟩:=hg.get hi
   rw [hg.idx,hi,h3] at h1
   refine ⟨u,?_,fun _ _=>by rw [h2];exact h4⟩
   simp [execOp,ex,ey,Instr.lookup,Yo hu,YP hb,hk.check _ _ _ hok,h1]
  | none=>
   rw [hg.idx,hi] at h1
   refine ⟨zv,?_,fun _ _=>by rw [ZbC hi];exact hz0 _ _⟩
   simp [execOp,ex,ey,Instr.lookup,Yo hu,YP hb,hk.check _ _ _ hok,h1,ZeO hz]
end
theorem ZpH {ν:Type} {ek:ν→PV} {T:TypeId} {V mv:Value} {es:List (GE Int ν)} {ck:Nat} : Zs1 (HP.star [.pt (.val V) T [.pv (.is mv)],.ob (.val mv) (mapG ek (fun n:Int=>inR .i64 n) (fun n:Int=>Value.int .i64 n) es ck)]) V (.ref [Zpb ek es]):=fun w f y y' h hle hf hb=>by
 obtain ⟨f1,g1,g2⟩:=Zbk h (.pt (.val V) T [.pv (.is mv)]) XM
 obtain ⟨f2,m1,m2⟩:=Zbk h (.ob (.val mv) (mapG ek (fun n:Int=>inR .i64 n) (fun n:Int=>Value.int .i64 n) es ck)) XM
 obtain ⟨b,vs,k1,k2,k3,k4⟩:=g2
 have hb1:f1 b:=(k3 b).2 rfl
 have hev:Ev w y w y':=Ev.less w hle
 refine ⟨b,0,vs.toList,k1,hf b (g1 b hb1),hb b (g1 b hb1),Zt.mk fun j u hj=>?_,?_⟩
 ·simp only [Yab]
  simp [World.cell?,k2]
  simpa using hj
 ·generalize vs.toList=us at k4
  match us,k4 with
  | [u1],k4=>
   obtain ⟨c,rs,e1,e2,e3,e4,e5⟩:=m2
   have hc:f2 c:=(e5 c).2 rfl
   have e6:u1=mv:=k4.1.2.1
   refine ⟨⟨k4.1.1,?_⟩,tv⟩
   rw [e6]
   exact ⟨c,rs,ck,e1,hb c (m1 c hc),hf c (m1 c hc),e2,e3.mono hev,e4.2⟩
def ZsC:Zaz:=⟨0,0,0⟩
structure ZuH (W:Int→Option Zaz) (es:List (GE Int Zaz)):Prop where
 n:GNd es
 g:∀ k,gGet k es=W k
abbrev Zsl (es:List (GE Int Zaz)) (ck:Nat):Value→HP:=mapG (fun v:Zaz=>PV.agg (ZJ v)) (fun n:Int=>inR .i64 n) (fun n:Int=>Value.int .i64 n) es ck
def ZcX (W:Int→Option Zaz) (v:Value):HP:=.ex fun s:List (GE Int Zaz)×Nat=>.and (ZuH W s.1) (Zsl s.1 s.2 v)
def Zc8 (W:Int→Option Zaz) (t:TxD) (o:OpD):Bool:=(!o.read || decide (o.tx=t.id)) || decide (ofO o=(W o.key).getD ⟨0,o.key,0⟩)
def ZmZ (W:Int→Option Zaz) (t:TxD) (ks:List Int):Int→Option Zaz:=fun k=>if k ∈ ks then some ⟨t.id,k,(wcnt t.ops k:Int)⟩ else W k
theorem ZuH.put {W:Int→Option Zaz} {t:TxD} {es:List (GE Int Zaz)} {ck:Nat} {ks:List Int} {i:Nat} (hi:i<ks.length) (h:ZuH (ZmZ W t (ks.take i)) es):ZuH (ZmZ W t (ks.take (i+1))) (gPut (Nn ks i) ⟨t.id,Nn ks i,(wcnt t.ops (Nn ks i):Int)⟩ (es,ck)).1:=⟨h.n.put (s:=(es,ck)),fun k=>by
 rw [ZaQ,Zy hi]
 unfold ZmZ
 by_cases e:k=Nn ks i
 ·rw [Ye e,Ye (by simp [e]),e]
 ·rw [Yb e]
  have:=h.g k
  unfold ZmZ at this
  show gGet k es=_
  rw [this]
  have e2:(k ∈ ks.take i ++ [Nn ks i]) ↔ k ∈ ks.take i:=by simp [e]
  simp only [e2]⟩
theorem Zht {a b:Zaz} : a=b ↔ a.tx=b.tx∧a.key=b.key∧a.nth=b.nth:=by cases a;cases b;simp
theorem Zri {W:Int→Option Zaz} {t:TxD} {ks:List Int} : ZmZ W t (ks.take 0)=W:=by funext k;unfold ZmZ;rw [Yb (by simp)]
theorem ZuZ (wv:Value) (W:Int→Option Zaz) (t:TxD) (ht:t.ops.length≤1000):FnG prog 42 1 [.is wv,.agg (rTx t)] [ZcX W wv] (.bool (t.ops.all (Zc8 W t))) (fun _=>[ZcX W wv]):=by
 refine FnG.mk func42 rfl ntmps42 rfl kr fun B F0 a w F Z hG G=>?_
 obtain ⟨sw,G⟩:=G.open_ex 1 rfl
 obtain ⟨hw,G⟩:=G.open_and 1 rfl
 replace G:=G.turn 1 rfl (r':=.ob (.val wv) (Zsl sw.1 sw.2)) (fun _ _ _ _ h=>h)
 refine Ya (rS G (qx 101 r1 qB) Z QN KS fun τ G=>?_)
 have G:=Xe
 generalize τ 3=v3 at G
 refine Za (Ya (Ya (rZ G (qg 2 101 r1 r1 (qa 101 r1 r1 (qu YbZ r1 (qJ qZ)))) Z Qy KS fun G=>Yi ?_)))
 refine Zk (σ:=(Nat)) [0,3,4,10,11] [0,1,101] (fun s=>[(12,.pv (.int .i64 (s:Int)))]) (fun s=>[]) (fun s=>s≤t.ops.length∧(∀ q,q<s→Zc8 W t (Nn t.ops q)=true)) (fun s=>t.ops.length - s) (0) G ⟨rfl,rfl,rfl,rfl,rfl,rfl,tv⟩ ⟨rfl,rfl,rfl,tv⟩ ⟨YA _,fun q hq=>absurd hq (Yah q)⟩ ?_
 clear G;intro i a w F hC G
 have hC:=X4
 obtain ⟨F,G⟩:=G.nM Qy KS
 have G:=X3
 obtain ⟨hi,hq⟩:=hC
 refine Ya (rZ G (qL r2) Z [13,12,11,10,4,3,0] KS fun G=>Ya ?_)
 refine Zb G rfl (fun hc0=>?_) (fun hc0=>?_)
 ·have hil:i<t.ops.length:=Wl
  refine Yf (Za (Ya (Yi (Ya (rS G (qy 4 YbZ r2 (qf (oR true 4 .t) r1 qz (qf (oH [.bool false,.int .i64 0,.int .i64 0,.int .i64 0] 102) trivial qz (qS 4 102 r2 r1 qZ)))) Z [12,11,10,6,4,3,0] Jc fun τ G=>?_)))))
  have G:=X7
  generalize τ 6=v6 at G
  try simp only [Yg] at G
  refine Za (Ya (Ya (rZ G (qg 0 102 r1 r1 (qa 102 r1 r1 (qf (o_not .t) r1 qz (qR rr (qv 2 102 rfl r2 r1 (qw 102 rfl r2 r1 (qv 0 101 rfl r2 r1 (qw 101 rfl r2 r1 (qk rfl (fun h=>o_eql (.w h) (.w h)) r3 qz (qf (Zaq .t .t) r2 qz qZ)))))))))) Z [25,12,11,10,6,4,3,0] Jc fun G=>?_)))
  refine Zb G rfl (fun hc1=>?_) (fun hc1=>?_)
  ·have hso:Zc8 W t (Nn t.ops i)=true:=by unfold Zc8;rw [show (!(Nn t.ops i).read || decide ((Nn t.ops i).tx=t.id))=true from hc1];rfl
   refine Yz (Zg (Zm (Za (rZ G (qp r1 (qR rr qZ)) Z Qy Jc fun G=>?_))))
   replace G:=G.eI 12 i
   obtain ⟨F,G⟩:=G.nM JR KS
   exact ⟨(i+1),F,⟨ow,(fun q h9=>by rcases YY (Yag h9) with h8 | h8;exact hq q h8;rw [h8];exact hso)⟩,G,ow⟩
  have hsf:(!(Nn t.ops i).read || decide ((Nn t.ops i).tx=t.id))=false:=hc1
  refine Yf (Za (Ya (rS G (qR rr (qg 1 102 r1 r1 (qa 102 r1 r1 (qf (Zj4 (ek:=(fun v:Zaz=>PV.agg (ZJ v))) (z0:=ZsC) 1 underlying86 (ZaK Yb1) kr (fun _ _=>⟨[_,_,_],rfl,⟨rfl,rfl,Zc5⟩,⟨rfl,rfl,Zc5⟩,⟨rfl,rfl,Zc5⟩,tv⟩) .is (Zw.intR .t rfl)) r2 r1 (qR rr (qf (Zs .t rfl) r1 qz (qf (Zs .t rfl) r1 qz (qf (oH [.int .i64 0,.int .i64 0,.int .i64 0] 103) trivial qz (qf (oA 3 103 .same (.conv .t .agg)) r2 r1 (qO rr qZ)))))))))) Z [12,11,10,8,7,6,4,3,0] KY fun τ G=>?_)))
  have G:=X7
  generalize τ 7=v7 at G
  refine Za (Ya (Ya (rZ G (qR rr (qf (o_not .t) r1 qz qZ)) Z [34,12,11,10,7,6,4,3,0] KY fun G=>?_)))
  refine Zb G rfl (fun hc2=>?_) (fun hc2=>?_)
  ·have hnv:((W (Nn t.ops i).key).getD ⟨0,(Nn t.ops i).key,0⟩) = ⟨0,(Nn t.ops i).key,0⟩:=by rw [show W (Nn t.ops i).key=none by rw [← hw.g];simpa using hc2];rfl
   refine rZ G (qg 1 102 r1 r1 (qa 102 r1 r1 (qf (oB [(1,.tmp 36)] [.int .i64 0,.int .i64 0,.int .i64 0] [(0,1),(1,1),(2,1)] (.one rfl .t one_int kr .nil)) r1 qz (qs 3 103 r2 r1 qZ)))) Z [12,11,10,7,6,4,3,0] KY fun G=>Ya ?_
   refine Zv G (qe 4 102 r1 r1 (qf (oP ((show FnP _ _ _ (.agg [.int .i64 (ofO (Nn t.ops i)).tx,.int .i64 (ofO (Nn t.ops i)).key,.int .i64 (ofO (Nn t.ops i)).nth]) from Zjg (Nn t.ops i))) func86 (Args.one (.pagg .t))) r1 qz (qe 3 103 r1 r1 (qf (o_neqS (ks:=[true,true,true]) kr (.conv .t (.agg (l:=[.int .i64 (ofO (Nn t.ops i)).tx,.int .i64 (ofO (Nn t.ops i)).key,.int .i64 (ofO (Nn t.ops i)).nth]))) .t (.int (.int (.int .nil)))) r2 qz qZ)))) Z [41,12,11,10,4,3,0] KY rfl rfl fun a w F G=>?_
   have G:=Xo
   refine Za (Zb G rfl (fun hc3=>?_) (fun hc3=>?_))
   ·have hno:¬ ofO (Nn t.ops i)=((W (Nn t.ops i).key).getD ⟨0,(Nn t.ops i).key,0⟩):=by rw [hnv,Zht];rintro ⟨e1,e2,e3⟩;have h9:=hc3;simp [e1,e2,e3] at h9
    have hg:false=t.ops.all (Zc8 W t):=by rw [Yaj,List.all_eq_false];refine ⟨(Nn t.ops i),nth_mem hil,?_⟩;unfold Zc8;rw [hsf,Bool.false_or,Yl];exact hno
    refine Ya (rZ G qB Z Qy KY fun G=>(Yj (Zn (Zh (Zh (Zn (Zh ?_)))))))
    have G:=G.turn 1 rfl (r':=RS.hp (ZcX W wv)) (fun _ _ _ _ h=>⟨sw,hw,h⟩)
    refine ZL hG G rfl (.tmp rfl .nil) (.one (.bool hg)) rfl
   have hyes:ofO (Nn t.ops i)=((W (Nn t.ops i).key).getD ⟨0,(Nn t.ops i).key,0⟩):=by rw [hnv,Zht];have h9:=hc3;simpa using h9
   have hso:Zc8 W t (Nn t.ops i)=true:=KB
   refine Yf (Ze (Za (rZ G (qp r1 (qR rr qZ)) Z Qy KY fun G=>?_)))
   replace G:=G.eI 12 i
   obtain ⟨F,G⟩:=G.nM JR KS
   exact ⟨(i+1),F,⟨ow,(fun q h9=>by rcases YY (Yag h9) with h8 | h8;exact hq q h8;rw [h8];exact hso)⟩,G,ow⟩
  have hnv:((W (Nn t.ops i).key).getD ⟨0,(Nn t.ops i).key,0⟩)=(gGet (Nn t.ops i).key sw.1).getD ZsC:=by obtain ⟨z,hz⟩:=YaH.1 (show (gGet (Nn t.ops i).key sw.1).isSome=true by simpa using hc2);rw [hz,show W (Nn t.ops i).key=some z by rw [← hw.g];exact hz];rfl
  refine Yf (Za (Ya (Zv G (qe 4 102 r1 r1 (qf (oP ((show FnP _ _ _ (.agg [.int .i64 (ofO (Nn t.ops i)).tx,.int .i64 (ofO (Nn t.ops i)).key,.int .i64 (ofO (Nn t.ops i)).nth]) from Zjg (Nn t.ops i))) func86 (Args.one (.pagg .t))) r1 qz (qe 3 103 r1 r1 (qf (o_neqS (ks:=[true,true,true]) kr (.conv .t (.agg (l:=[.int .i64 (ofO (Nn t.ops i)).tx,.int .i64 (ofO (Nn t.ops i)).key,.int .i64 (ofO (Nn t.ops i)).nth]))) .t (.int (.int (.int .nil)))) r2 qz qZ)))) Z [41,12,11,10,4,3,0] KY rfl rfl fun a w F G=>?_)))
  have G:=Xo
  refine Za (Zb G rfl (fun hc4=>?_) (fun hc4=>?_))
  ·have hno:¬ ofO (Nn t.ops i)=((W (Nn t.ops i).key).getD ⟨0,(Nn t.ops i).key,0⟩):=by rw [hnv,Zht];rintro ⟨e1,e2,e3⟩;have h9:=hc4;simp [e1,e2,e3] at h9
   have hg:false=t.ops.all (Zc8 W t):=by rw [Yaj,List.all_eq_false];refine ⟨(Nn t.ops i),nth_mem hil,?_⟩;unfold Zc8;rw [hsf,Bool.false_or,Yl];exact hno
   refine Ya (rZ G qB Z Qy KY fun G=>(Yj (Zn (Zh (Zh (Zn (Zh ?_)))))))
   have G:=G.turn 1 rfl (r':=RS.hp (ZcX W wv)) (fun _ _ _ _ h=>⟨sw,hw,h⟩)
   refine ZL hG G rfl (.tmp rfl .nil) (.one (.bool hg)) rfl
  have hyes:ofO (Nn t.ops i)=((W (Nn t.ops i).key).getD ⟨0,(Nn t.ops i).key,0⟩):=by rw [hnv,Zht];have h9:=hc4;simpa using h9
  have hso:Zc8 W t (Nn t.ops i)=true:=KB
  refine Yf (Ze (Za (rZ G (qp r1 (qR rr qZ)) Z Qy KY fun G=>?_)))
  replace G:=G.eI 12 i
  obtain ⟨F,G⟩:=G.nM JR KS
  exact ⟨(i+1),F,⟨ow,(fun q h9=>by rcases YY (Yag h9) with h8 | h8;exact hq q h8;rw [h8];exact hso)⟩,G,ow⟩
 have hil:i=t.ops.length:=Wl
 have hg:true=t.ops.all (Zc8 W t):=(Yad.2 fun x hx=>by obtain ⟨j,hj,rfl⟩:=YR hx;rw [← nth_eq hj];exact hq j ow).symm
 refine Yz (Zg (Zg (Zm (Za (Ya (rZ G qB Z [4] KS fun G=>Yj ?_))))))
 have G:=G.turn 1 rfl (r':=RS.hp (ZcX W wv)) (fun _ _ _ _ h=>⟨sw,hw,h⟩)
 refine ZL hG G rfl (.tmp rfl .nil) (.one (.bool hg)) rfl
theorem Zu7 (wv:Value) (W:Int→Option Zaz) (t:TxD) (ht:t.ops.length≤1000):FnG prog 37 1 [.is wv,.agg (rTx t)] [ZcX W wv] (.tup []) (fun _=>[ZcX (ZmZ W t (ZH t)) wv]):=by
 refine FnG.mk func37 rfl ntmps37 rfl kr fun B F0 a w F Z hG G=>?_
 have hkb:=Zcu t
 obtain ⟨sw,G⟩:=G.open_ex 1 rfl
 obtain ⟨hw,G⟩:=G.open_and 1 rfl
 replace G:=G.turn 1 rfl (r':=.ob (.val wv) (Zsl sw.1 sw.2)) (fun _ _ _ _ h=>h)
 refine Ya (rS G (qx 101 r1 qZ) Z [3,0] KS fun τ G=>?_)
 have G:=Xe
 generalize τ 3=v3 at G
 refine Za (Ya (Zc G (qe 3 101 r1 r1 (qf (oP (Zj3 t ow) func43 (Args.one (.pagg .t))) r1 qz (qu YbY r1 (qJ qZ)))) Z G0 KS rfl rfl fun a w F G=>?_))
 rw [show ZcF ((t.ops.filter fun o=>!o.read).map OpD.key)=ZH t from rfl] at G
 refine Za (Yi (Zk (σ:=(Nat)×(List (GE Int Zaz))×(Nat)) [0,3,7,8] [0,101] (fun s=>[(9,.pv (.int .i64 (s.1:Int)))]) (fun s=>[(1,.ob (.val wv) (Zsl s.2.1 s.2.2))]) (fun s=>s.1≤(ZH t).length∧(ZuH (ZmZ W t ((ZH t).take s.1)) s.2.1)) (fun s=>(ZH t).length - s.1) ((0),(sw.1),(sw.2)) G ⟨rfl,rfl,rfl,rfl,rfl,tv⟩ ⟨rfl,rfl,rfl,tv⟩ ⟨YA _,(by rw [Zri];exact hw)⟩ ?_))
 clear G;intro s a w F hC G
 obtain ⟨i,es,ck⟩:=s
 have hC:=X4
 obtain ⟨F,G⟩:=G.nM G0 KS
 have G:=X3
 obtain ⟨hi,hq⟩:=hC
 refine Ya (rZ G (qL r2) Z [10,9,8,7,3,0] KS fun G=>Ya ?_)
 refine Zb G rfl (fun hc0=>?_) (fun hc0=>?_)
 ·have hil:i<(ZH t).length:=Wl
  refine Yf (Za (Ya (Yi (Ya (Zc G (qy 1 YbY r2 (qf (oR false 1 .t) r1 qz (qO rr qZ))) Z [9,8,7,5,3,0] KS rfl rfl fun a w F G=>?_)))))
  try simp only [Yg] at G
  refine Za (Zv G (qR rr (qR rr (qg 0 101 r1 r1 (qa 101 r1 r1 (qR rr (qe 3 101 r1 r1 (qR rr (qf (oP (Zf0 t (Nn (ZH t) i) ow) func51 (Args.two (.pagg .t) .t)) r2 qz (qf (oB [(0,.tmp 16),(1,.tmp 17),(2,.tmp 20)] [.int .i64 0,.int .i64 0,.int .i64 0] [(0,1),(1,1),(2,1)] (.one rfl .t one_int kr (.one rfl .t one_int kr (.one rfl .t one_int kr .nil)))) r3 qz (qf (o_mapUpdateG (ek:=(fun v:Zaz=>PV.agg (ZJ v))) (v:=(⟨t.id,(Nn (ZH t) i),(wcnt t.ops (Nn (ZH t) i):Int)⟩:Zaz)) 1 underlying86 (ZaK Yb1) .is (Zw.intR .t rfl) (.pagg .t)) r3 r1 qZ)))))))))) Z G0 KS rfl rfl fun a w F G=>?_)
  try dsimp only [List.map,Zd,xL,xM,Nat.reduceAdd,xD,xE,xT,xU,xC,xN,zCF,ldSF,rTx,rOp,Zq,ZJ,ZK,Zr] at G
  obtain ⟨es2,hes2⟩:∃ z,z=(gPut (Nn (ZH t) i) (⟨t.id,(Nn (ZH t) i),(wcnt t.ops (Nn (ZH t) i):Int)⟩:Zaz) (es,ck)).1:=⟨_,rfl⟩
  obtain ⟨ck2,hck2⟩:∃ z,z=(gPut (Nn (ZH t) i) (⟨t.id,(Nn (ZH t) i),(wcnt t.ops (Nn (ZH t) i):Int)⟩:Zaz) (es,ck)).2:=⟨_,rfl⟩
  rw [← hes2,← hck2] at G
  have hes2:ZuH (ZmZ W t ((ZH t).take (i+1))) es2:=by rw [hes2];exact hq.put hil
  refine Ze (Za (rZ G (qp r1 (qR rr qZ)) Z G0 KS fun G=>?_))
  replace G:=G.eI 9 i
  obtain ⟨F,G⟩:=G.nM [8,7,3,0,9] [101,0,1]
  exact ⟨((i+1),(es2),(ck2)),F,⟨ow,hes2⟩,G,ow⟩
 have hil:i=(ZH t).length:=Wl
 refine Yz (Zg (Zg (Zm ?_)))
 rw [hil,YE] at hq
 have G:=G.turn 1 rfl (r':=RS.hp (ZcX (ZmZ W t (ZH t)) wv)) (fun _ _ _ _ h=>⟨(es,ck),hq,h⟩)
 refine ZL hG G rfl .nil ZaB.none rfl
end Go.Proofs.YtolmpgbpdapaiaaGreat
namespace Go.Proofs.YtolmpgbpdapaiaaGreat
open Go Go.Gm Tryz
set_option linter.unusedVariables false
set_option linter.unusedSimpArgs false
set_option maxHeartbeats 4000000
set_option maxRecDepth 8000
theorem Zif {P:Program} {ty t kt et:TypeId} {pos:String} {af:Array Edge} {g:Option (Nat×Bool)} {κ β:Type} [DecidableEq κ] {ok:κ→Prop} {kv:κ→Value} {x y:Operand} {ps qs:List (Nat×SF)} {es:List (GE κ (Value×β))} {clock:Nat} {mv:Value} {k:κ} (l9:β) (j m:Nat) (hu:P.underlying t=some (.map kt et)) (hk:ZjP P kt ok kv) (hx:Zar x ps (.val mv)) (hy:Zw ok kv y qs k) :
  OpC P ⟨none,.mapUpdate t x y (.tmp j),ty,pos,af,g⟩ ⟨ps++(qs ++ [(j,.same j)]),[(m,.ob (.val mv) (mapG (fun p:Value×β=>PV.is p.1) ok kv es clock))],.pv .any,[(m,.ob (.slot j) (fun v=>mapG (fun p:Value×β=>PV.is p.1) ok kv (gPut k (v,l9) (es,clock)).1 (gPut k (v,l9) (es,clock)).2 mv))]⟩:=fun a w F K Q hw hp hr ht=>by
 have h0:=o_mapUpdateG (P:=P) (ty:=ty) (pos:=pos) (af:=af) (g:=g) (ek:=fun p:Value×β=>PV.is p.1) (es:=es) (clock:=clock) (v:=(Act.tau a j,l9)) (z:=.tmp j) (rs:=[(j,.pv (.is (Act.tau a j)))]) m hu hk hx hy .t
 refine h0 a w F K Q hw (fun z hz=>?_) hr (fun v w' F' h1 h2 h3 h4=>ht v w' F' h1 h2 h3 fun z hz=>?_)
 ·rcases YC.1 hz with h | h
  ·exact hp z (YC.2 (.inl h))
  ·rcases YC.1 h with h | h
   ·exact hp z (YC.2 (.inr (YC.2 (.inl h))))
   ·simp only [Yn] at h;subst h;exact hp (j,.same j) (YC.2 (.inr (YC.2 (.inr XM))))
 ·simp only [Yn] at hz
  subst hz
  exact h4 (m,.ob (.val mv) (mapG (fun p:Value×β=>PV.is p.1) ok kv (gPut k (Act.tau a j,l9) (es,clock)).1 (gPut k (Act.tau a j,l9) (es,clock)).2)) XM
def RRi (es:List (GE Int (Value×List Int))) (g:Int→List Int):Prop:=∀ k,((gGet k es).getD ZaX).2=g k
theorem RRi.pair {es:List (GE Int (Value×List Int))} {g:Int→List Int} (h:RRi es g) (k:Int):(gGet k es).getD ZaX=(((gGet k es).getD ZaX).1,g k):=by rw [← h k]
def Zm8 (R:Int→List Int) (id:Int) (L:List Int):Int→List Int:=fun k=>if k ∈ L then R k ++ [id] else R k
theorem Zq9 {R:Int→List Int} {id:Int} {L:List Int} : Zm8 R id (L.take 0)=R:=by funext k;unfold Zm8;rw [Yb (by simp)]
theorem Zt9 {R:Int→List Int} {id:Int} {L:List Int} (hn:L.Nodup) {j:Nat} (hj:j<L.length):Zm8 R id (L.take j) (Nn L j)=R (Nn L j):=by
 unfold Zm8
 rw [Yb]
 intro h
 obtain ⟨i,hi,e⟩:=YR h
 rw [Yp] at hi
 rw [YbI,nth_eq hj] at e
 exact Y4.1 hn i j ow hj ow e
theorem RRi.app {es:List (GE Int (Value×List Int))} {ck:Nat} {R:Int→List Int} {id:Int} {L:List Int} (hn:L.Nodup) {j:Nat} (hj:j<L.length) (h:RRi es (Zm8 R id (L.take j))) (v:Value):RRi (gPut (Nn L j) (v,R (Nn L j) ++ [id]) (es,ck)).1 (Zm8 R id (L.take (j+1))):=fun k=>by
 rw [ZaQ]
 by_cases e:k=Nn L j
 ·rw [Ye e,e]
  unfold Zm8
  rw [Ye (by rw [Zy hj];simp)];rfl
 ·rw [Yb e]
  have:=h k
  have e2:(k ∈ L.take (j+1)) ↔ k ∈ L.take j:=by rw [Zy hj];simp [e]
  unfold Zm8 at this ⊢
  simp only [e2]
  exact this
theorem Zlw {g:Zl} {l:List Int} {i:Nat} (hi:i<l.length) (k:Int):wrs g (l.take (i+1)) k=wrs g (l.take i) k++if 0<wcnt (txF g (Nn l i)).ops k then [Nn l i] else []:=by
 unfold wrs
 rw [Zy hi,Yai]
 congr 1
 by_cases h:0<wcnt (txF g (Nn l i)).ops k
 ·rw [Ye h,YT (by unfold wrP;simpa using h)];rfl
 ·rw [Yb h,Y9 (by unfold wrP;simpa using h)];rfl
theorem Zpa {g:Zl} {l:List Int} {i:Nat} (hi:i<l.length):Zm8 (fun k=>wrs g (l.take i) k) (Nn l i) (ZH (txF g (Nn l i)))=fun k=>wrs g (l.take (i+1)) k:=by
 funext k
 unfold Zm8
 rw [Zlw hi]
 by_cases h:0<wcnt (txF g (Nn l i)).ops k
 ·rw [Ye (Zba.2 h),Ye h]
 ·rw [Yb (fun h9=>h (Zba.1 h9)),Yb h,YQ]
def Zbc (g:Zl) (l:List Int):Int→Option Zaz:=fun k=>(wrs g l k).getLast?.map fun id=>⟨id,k,(wcnt (txF g id).ops k:Int)⟩
theorem Zob (g:Zl) (l:List Int) (k:Int):(Zbc g l k).getD ⟨0,k,0⟩ = ZpO g l k:=by
 unfold Zbc ZpO
 cases (wrs g l k).getLast? <;> rfl
theorem ZmJ (g:Zl) (l:List Int) (t:TxD):t.ops.all (Zc8 (Zbc g l) t)=t.ops.all (Zic g l t):=by
 congr 1
 funext o
 unfold Zc8 Zic
 rw [Zob]
theorem Zl6 {g:Zl} {l:List Int} {i:Nat} (hi:i<l.length) (hid:(txF g (Nn l i)).id=Nn l i):ZmZ (Zbc g (l.take i)) (txF g (Nn l i)) (ZH (txF g (Nn l i)))=Zbc g (l.take (i+1)):=by
 funext k
 unfold ZmZ Zbc
 rw [Zlw hi]
 by_cases h:0<wcnt (txF g (Nn l i)).ops k
 ·rw [Ye (Zba.2 h),Ye h,List.getLast?_concat,hid];rfl
 ·rw [Yb (fun h9=>h (Zba.1 h9)),Yb h,YQ]
theorem ZuR {g:Zl} (hg:ZA g) {l:List Int} (hp:l.Perm (Zae g)) {i:Nat} (hi:i<l.length):(txF g (Nn l i)).id=Nn l i∧txF g (Nn l i) ∈ g.txs:=by
 obtain ⟨t,h1,h2,_,h4⟩:=(ZbO hg).1 (hp.mem_iff.1 (nth_mem hi))
 rw [h4];exact ⟨h2,h1⟩
theorem Zn4 {g:Zl} {l:List Int} (hg:ZA g) (hp:l.Perm (Zae g)) (hs:∀ i,i<l.length→(txF g (Nn l i)).ops.all (Zic g (l.take i) (txF g (Nn l i)))=true) {R:Int→List Int} (hR:∀ k,R k=wrs g l k):(!g.orders.any fun o=>!decide (o.txs=R o.key))=decide (Zbn g l):=by
 rw [Yau,Yl,Yae,List.any_eq_false]
 constructor
 ·intro h
  refine ⟨hg,hp,hs,fun o ho=>?_⟩
  have:=h o ho
  rw [← hR]
  simpa using this
 ·rintro ⟨_,_,_,h⟩ o ho
  rw [hR,← h o ho];simp
theorem Zvd {es:List (GE Int (Value×List Int))} {R:Int→List Int} (h:RRi es R) (k:Int):(gGet k (ZbJ es)).getD [] = R k:=by
 rw [Zeq,← h k]
 cases gGet k es <;> rfl
abbrev ZnO (es:List (GE Int (Value×List Int))):RS:=Zp1 3 1 Zq es
abbrev Zpp (es:List (GE Int (Value×List Int))) (ck:Nat):Value→HP:=mapG (fun p:Value×List Int=>PV.is p.1) (fun n:Int=>inR .i64 n) (fun n:Int=>Value.int .i64 n) es ck
theorem Zt4 (l : List OrdD) (p : OrdD → Bool) (f : FuncId) (fn : Func) (cps : List PV) (hf : prog.funcs[f]? = some fn) (hb : fn.body.isSome = true) (hnn : (fn.name == "runtime.NumGoroutine") = false) (hw : ∀ x, FnP prog f (.agg (ZK x) :: cps) (.bool (p x))) : FnP prog 44 [.sl ZK l, .clos f cps] (.bool (l.any p)) := by
 refine FnP.mk func44 rfl ntmps44 rfl fun B a w F Z hfr G=>Ya ?_
 refine rZ G qB Z KU [0] fun G=>Ya ?_
 refine rZ G (qR rr (qR rr (qf (oP (Ztz l p f fn cps hf hb hnn hw) func89 (Args.two .t .t)) r2 qz (qf (ZbD .t qi) r1 qz (qO rr qZ))))) Z [4] [0] fun G=>Yj ?_
 refine Zo hfr G rfl rfl rfl (.bool (by rw [ZfC]))
theorem Zvs (o:OrdD) (es:List (GE Int (List Int))):FnP prog 45 [.agg (ZK o),.ref [Zpb (fun l:List Int=>PV.sl Zq l) es]] (.bool (!decide (o.txs=(gGet o.key es).getD []))):=by
 refine FnP.mk func45 rfl ntmps45 rfl fun B a w F Z hfr G=>Ya ?_
 refine rS G (qx 101 r1 qB) Z Qa KN fun τ G=>?_
 have G:=Xe
 generalize τ 2=v2 at G
 refine Za (Ya (rZ G (qg 1 101 r1 r1 (qa 101 r1 r1 (qf (oR false 1 .t) r1 qz (qg 0 101 r1 r1 (qa 101 r1 r1 (qf (Zn8 (ek:=(fun l:List Int=>PV.sl Zq l)) (k:=o.key) (z0:=([]:List Int)) Yce (ZaK Yb1) kr (fun _ _=>ZoA) .t (Zw.intR .t rfl)) r2 qz (qf (oP (ZiC o.txs ((gGet o.key es).getD [])) func13 (Args.two .t .t)) r2 qz (qf (o_not .t) r1 qz (qO rr qZ))))))))) Z [3] KN fun G=>Yj ?_))
 refine Zo hfr G rfl rfl rfl (.bool rfl)
theorem Zil (g:Zl):(Zae g).length≤g.txs.length:=by unfold Zae;rw [YJ];exact Yac _ _
theorem ZrM (g:Zl) (l:List Int) (hs:Zcj g) (hl:l.length≤1000):FnP prog 16 [.agg (Zr g),.sl Zq l] (.bool (decide (Zbn g l))):=by
 refine FnP.mk func16 rfl ntmps16 rfl fun B a w F Z hfr G=>?_
 have hdl:(Zae g).length≤1000000:=by have h1:=Zil g;have h2:=hs.1.1;omega
 refine Ya (rS G (qx 101 r1 qB) Z QX KN fun τ G=>?_)
 have G:=Xe
 generalize τ 2=v2 at G
 refine Za (Ya (Ya (rZ G (qe 2 101 r1 r1 (qf (oP (ZdL g hs) func9 (Args.one (.pagg .t))) r1 qz (qf (o_not .t) r1 qz (qR rr (qm rfl rfl rfl rfl (qk rfl (fun h=>oL true 2 101 .is) r2 r1 (qk rfl (fun h=>oP (Zkp g (by have:=hs.1.1;omega)) func15 (Args.one (.pagg (.w h)))) r2 qz (qk rfl (fun h=>oP (Zsr l (Zae g) ow hdl) func30 (Args.two (.w h) (.w h))) r3 qz (qk rfl (fun h=>o_not (.w h)) r2 qz (qf (Zaq .t .t) r2 qz qZ)))))))))) Z [22,4,2,1] KN fun G=>?_)))
 refine Zb G rfl (fun hc0=>?_) (fun hc0=>?_)
 ·have hfin:false=decide (Zbn g l):=by rw [Yaj,Yr];intro h9;have h8:=hc0;simp [h9.1,h9.2.1] at h8
  refine Ya (rZ G qB Z QX KN fun G=>(Yj (Zh ?_)))
  refine Zo hfr G rfl rfl rfl (.bool hfin)
 have hgp:ZA g∧l.Perm (Zae g):=by have h8:=hc0;simpa using h8
 obtain ⟨hg,hp⟩:=hgp
 refine Yf (Za (Ya (rS G (qf (Z8 (ek:=(fun v:Zaz=>PV.agg (ZJ v))) (ok:=(fun n:Int=>inR .i64 n)) (kv:=(fun n:Int=>Value.int .i64 n)) 102) trivial qz (qO rr qZ)) Z JC KP fun τ G=>?_)))
 have G:=Xc
 generalize τ 23=v23 at G
 refine Za (Ya (rS G (qf (Z8 (ek:=(fun p:Value×List Int=>PV.is p.1)) (ok:=(fun n:Int=>inR .i64 n)) (kv:=(fun n:Int=>Value.int .i64 n)) 103) trivial qz (qf (oH [.map none] 104) trivial qz (qf (o_storeS 104 .same kr kr) r2 r1 qZ))) Z JY Qj fun τ G=>?_))
 have G:=Xc
 generalize τ 6=v6,τ 24=v24 at G
 replace G:=G.turn 102 rfl (r':=RS.hp (ZcX (Zbc g (l.take 0)) v23)) (fun _ _ _ _ h=>⟨([],0),⟨List.nodup_nil,fun _=>rfl⟩,h⟩)
 replace G:=G.fresh 60 rfl
 replace G:=G.turn 60 rfl (r':=ZnO []) (fun _ _ _ _ h=>h)
 obtain ⟨F,G⟩:=G.nM JY Qz
 refine Za (Ya (Ya (rZ G (qR rr (qu YbY r1 (qJ qZ))) Z JK Qz fun G=>Yi ?_)))
 refine Zk (σ:=(Nat)×(List (GE Int (Value×List Int)))×(Nat)) [2,4,5,6,25,26] [0,101,104] (fun s=>[(27,.pv (.int .i64 (s.1:Int)))]) (fun s=>[(102,RS.hp (ZcX (Zbc g (l.take s.1)) v23)),(103,.ob (.val v24) (Zpp s.2.1 s.2.2)),(60,ZnO s.2.1)]) (fun s=>s.1≤l.length∧(RRi s.2.1 (fun k=>wrs g (l.take s.1) k) ∧ ∀ q,q<s.1→(txF g (Nn l q)).ops.all (Zic g (l.take q) (txF g (Nn l q)))=true)) (fun s=>l.length - s.1) ((0),([]),(0)) G ⟨rfl,rfl,rfl,rfl,rfl,rfl,rfl,tv⟩ ⟨rfl,rfl,rfl,rfl,rfl,rfl,tv⟩ ⟨YA _,⟨fun k=>rfl,fun q hq=>absurd hq (Yah q)⟩⟩ ?_
 clear G;intro s a w F hC G
 obtain ⟨i,es,ck⟩:=s
 have hC:=X4
 obtain ⟨F,G⟩:=G.nM JK Qz
 have G:=X3
 obtain ⟨hi,hq⟩:=hC
 obtain ⟨hR,hsq⟩:=hq
 refine Ya (rZ G (qL r2) Z [28,27,26,25,6,5,4,2] Qz fun G=>Ya ?_)
 refine Zb G rfl (fun hc1=>?_) (fun hc1=>?_)
 ·have hil:i<l.length:=WE
  have hio:=hil
  have hid:=ZuR hg hp hil
  obtain ⟨t,ht⟩:∃ z,z=(txF g (Nn l i)):=⟨_,rfl⟩
  have hto:t.ops.length≤1000:=by rw [ht];exact hs.1.2 _ hid.2
  have hkb:=Zcu t
  have hkn:(ZH t).Nodup:=(Zas _).1.imp fun h=>YbU h
  refine Yf (Za (Ya (Yi (Ya (Zc G (qy 1 YbY r2 (qf (oR false 1 .t) r1 qz (qO rr qZ))) Z [27,26,25,8,6,5,4,2] Qz rfl rfl fun a w F G=>?_)))))
  try simp only [Yg] at G
  refine Za (Ya (rS G (qe 2 101 r1 r1 (qR rr (qf (oP (ZsV g (Nn l i) hs.1) func36 (Args.two (.pagg .t) .t)) r2 qz (qR rr (qf (Zs .t rfl) r1 qz (qf (Zs .t rfl) r1 qz (qf (oH [.int .i64 0,.bool false,.slice none 0 0] 105) trivial qz (qf (oA 3 105 .same (.conv .t .agg)) r2 r1 (qO rr qZ))))))))) Z Jb KX fun τ G=>?_))
  have G:=X7
  generalize τ 9=v9 at G
  rw [show (ZaM g.txs (Nn l i)).getD zeroT=t from ht.symm] at G
  refine Za (Ya (Ya (Zc G (qR rr (qe 3 105 r1 r1 (qf (o_callG1 102 (ZuZ v23 (Zbc g (l.take i)) t hto) func42 rfl kr (Args.two .t (.pagg .t))) r2 r1 (qf (o_not .t) r1 qz qZ)))) Z [40,27,26,25,9,8,6,5,4,2] KX rfl rfl fun a w F G=>?_)))
  rw [ZmJ] at G
  refine Za (Zb G rfl (fun hc2=>?_) (fun hc2=>?_))
  ·have hfin:false=decide (Zbn g l):=by rw [Yaj,Yr];intro h9;have h8:=hc2;rw [ht,h9.2.2.1 i hio] at h8;cases h8
   refine Ya (rZ G qB Z Jb KX fun G=>(Yj (Zh (Zn (Zh (Zh (Zn (Zh ?_))))))))
   refine Zo hfr G rfl rfl rfl (.bool hfin)
  have hse:(txF g (Nn l i)).ops.all (Zic g (l.take i) (txF g (Nn l i)))=true:=by rw [← ht];have h8:=hc2;simpa using h8
  refine Yf (Za (Ya (Zc G (qR rr (qe 3 105 r1 r1 (qf (o_callG1 102 (Zu7 v23 (Zbc g (l.take i)) t hto) func37 rfl kr (Args.two .t (.pagg .t))) r2 r1 qZ))) Z Jb KX rfl rfl fun a w F G=>?_)))
  rw [show ZmZ (Zbc g (l.take i)) t (ZH t)=Zbc g (l.take (i+1)) from by rw [ht];exact Zl6 hio hid.1] at G
  refine Za (Ya (Zc G (qe 3 105 r1 r1 (qf (oP (Zj3 t ow) func43 (Args.one (.pagg .t))) r1 qz (qu YbY r1 (qJ qZ)))) Z Ql KX rfl rfl fun a w F G=>?_))
  rw [show ZcF ((t.ops.filter fun o=>!o.read).map OpD.key)=ZH t from rfl] at G
  refine Za (Yi (Zk (σ:=(Nat)×(List (GE Int (Value×List Int)))×(Nat)) [2,4,5,6,8,25,26,27,45,46] [0,101,102,104,105] (fun s=>[(47,.pv (.int .i64 (s.1:Int)))]) (fun s=>[(103,.ob (.val v24) (Zpp s.2.1 s.2.2)),(60,ZnO s.2.1)]) (fun s=>s.1≤(ZH t).length∧(RRi s.2.1 (Zm8 (fun k=>wrs g (l.take i) k) (Nn l i) ((ZH t).take s.1)))) (fun s=>(ZH t).length - s.1) ((0),(es),(ck)) G ⟨rfl,rfl,rfl,rfl,rfl,rfl,rfl,rfl,rfl,rfl,rfl,tv⟩ ⟨rfl,rfl,rfl,rfl,rfl,rfl,rfl,tv⟩ ⟨YA _,(by rw [Zq9];exact hR)⟩ ?_))
  clear G;intro s a w F hC G
  obtain ⟨j,es2,ck2⟩:=s
  have hC:=X4
  obtain ⟨F,G⟩:=G.nM Ql KX
  have G:=X3
  obtain ⟨hi,hq⟩:=hC
  refine Ya (rZ G (qL r2) Z [48,47,46,45,27,26,25,8,6,5,4,2] KX fun G=>Ya ?_)
  refine Zb G rfl (fun hc3=>?_) (fun hc3=>?_)
  ·have hil:j<(ZH t).length:=Kb
   have hRj:=hq.pair (Nn (ZH t) j)
   rw [Zt9 hkn hil] at hRj
   have hwl9:(wrs g (l.take i) (Nn (ZH t) j)).length≤1000:=by have h8:=Yac (wrP g (Nn (ZH t) j)) (l.take i);have h7:=List.length_take_le i l;unfold wrs;omega
   refine Yf (Za (Ya (Yi (Ya (Zc G (qy 1 YbY r2 (qf (oR false 1 .t) r1 qz (qO rr qZ))) Z Jg KX rfl rfl fun a w F G=>?_)))))
   try simp only [Yg] at G
   refine Za ?_
   obtain ⟨F,G⟩:=G.takeKey (T:=3) (sz:=1) (R:=Zq) 60 61 (Nn (ZH t) j) rfl rfl
   rw [hRj] at G
   obtain ⟨F,G⟩:=G.nM Jg Ju
   refine rT G (qf (oL false 1 104 .is) r1 r1 (qR rr (qf (oL false 1 104 .is) r1 r1 (qR rr (qf (ZR (ek:=(fun p:Value×List Int=>PV.is p.1)) (z0:=ZaX) 103 Yce (ZaK Yb1) kr (fun _ _=>⟨rfl,rfl⟩) .is (Zw.intR .t rfl)) r2 r1 (qR rr (qf (Zj (sz:=1) (zs:=[.int .i64 0]) (r:=[(0,.tmp 56)]) (l:=[_]) YbY kr kr kr kr rfl rfl (.one rfl .t one_int kr .nil) rfl) r1 qz (qf (o_append (sz:=1) (bs:=8) 61 (.mk' YbY kr kr) Wh .is (.arr (l':=[_]) .t) Ws XW) ⟨rfl,rfl,tv⟩ ⟨rfl,tv⟩ (qf (Zif (wrs g (l.take i) (Nn (ZH t) j) ++ [(Nn l i)]) 58 103 Yce (ZaK Yb1) .is (Zw.intR .t rfl)) r3 r1 qZ))))))))) Z Ql Ju fun τ G=>?_
   have G:=X7
   generalize τ 58=v58 at G
   obtain ⟨F,G⟩:=G.putKey (T:=3) (sz:=1) (R:=Zq) (v:=v58) (l:=(wrs g (l.take i) (Nn (ZH t) j) ++ [(Nn l i)])) 60 61 (Nn (ZH t) j) ck2 rfl rfl rfl
   replace G:=G.turn 103 rfl (r':=.ob (.val v24) (Zpp (gPut (Nn (ZH t) j) (v58,(wrs g (l.take i) (Nn (ZH t) j) ++ [(Nn l i)])) (es2,ck2)).1 (gPut (Nn (ZH t) j) (v58,(wrs g (l.take i) (Nn (ZH t) j) ++ [(Nn l i)])) (es2,ck2)).2)) (fun _ _ _ _ h=>h)
   obtain ⟨es3,hes3⟩:∃ z,z=(gPut (Nn (ZH t) j) (v58,(wrs g (l.take i) (Nn (ZH t) j) ++ [(Nn l i)])) (es2,ck2)).1:=⟨_,rfl⟩
   obtain ⟨ck3,hck3⟩:∃ z,z=(gPut (Nn (ZH t) j) (v58,(wrs g (l.take i) (Nn (ZH t) j) ++ [(Nn l i)])) (es2,ck2)).2:=⟨_,rfl⟩
   rw [← hes3,← hck3] at G
   have hR2:RRi es3 (Zm8 (fun k=>wrs g (l.take i) k) (Nn l i) ((ZH t).take (j+1))):=by rw [hes3];exact hq.app hkn hil _
   obtain ⟨F,G⟩:=G.nM Ql KX
   refine Ze (Za (rZ G (qp r1 (qR rr qZ)) Z Ql KX fun G=>?_))
   replace G:=G.eI 47 j
   obtain ⟨F,G⟩:=G.nM [46,45,27,26,25,8,6,5,4,2,47] [105,104,102,101,0,60,103]
   exact ⟨((j+1),(es3),(ck3)),F,⟨ow,hR2⟩,G,ow⟩
  have hil:j=(ZH t).length:=Kb
  have hR3:RRi es2 (fun k=>wrs g (l.take (i+1)) k):=by rw [← Zpa hio,← ht];have h9:=hq;rwa [hil,YE] at h9
  refine Yz (Zg (Zg (Zm (Ze (Za (rZ G (qp r1 (qR rr qZ)) Z JK KX fun G=>?_))))))
  replace G:=G.eI 27 i
  obtain ⟨F,G⟩:=G.nM [26,25,6,5,4,2,27] [104,101,0,60,103,102]
  exact ⟨((i+1),(es2),(ck2)),F,⟨ow,⟨hR3,fun q h9=>by rcases YY (Yag h9) with h8 | h8;exact hsq q h8;rw [h8];exact hse⟩⟩,G,ow⟩
 have hil:i=l.length:=WE
 rw [hil,YE] at hR
 have hfin:=Zn4 hg hp (fun q h9=>hsq q ow) (R:=fun k=>(gGet k (ZbJ es)).getD []) (Zvd hR)
 refine Yz (Zg (Zg (Zm (Za (Ya ?_)))))
 obtain ⟨F,G⟩:=G.giveMap (T:=3) (sz:=1) (R:=Zq) 103 60 rfl rfl rfl
 replace G:=G.fresh 62 rfl
 obtain ⟨F,G⟩:=G.push 62 103 rfl rfl rfl kr
 obtain ⟨F,G⟩:=G.push 62 104 rfl rfl rfl kr
 obtain ⟨F,G⟩:=Sat.giveL (p:=.ref [Zpb (fun l:List Int=>PV.sl Zq l) (ZbJ es)]) G 62 6 rfl rfl ZpH
 obtain ⟨F,G⟩:=G.nM [28,27,26,25,6,5,4,2] KP
 refine rZ G (qg 1 101 r1 r1 (qa 101 r1 r1 (qf (ZbV (Args.one .t)) r1 qz (qf (oP (Zt4 g.orders (fun o=>!decide (o.txs=(gGet o.key (ZbJ es)).getD [])) 45 f45 [.ref [Zpb (fun l:List Int=>PV.sl Zq l) (ZbJ es)]] func45 rfl kr (fun o=>Zvs o (ZbJ es))) func44 (Args.two .t .t)) r2 qz (qf (o_not .t) r1 qz (qO rr qZ)))))) Z [4] KP fun G=>Yj ?_
 refine Zo hfr G rfl rfl rfl (.bool hfin)
theorem Zu4 {p:Int→Bool} {n:Nat} {g:Zl} (h:Fit n g):(wwC p g).length≤n*(24*n):=by
 unfold wwC
 split
 ·have key:∀ l:List OrdD,(∀ o ∈ l,o.txs.length≤n)→(wwA p l).length≤n*l.length:=by
   intro l
   induction l with
   | nil=>intro _;simp [wwA]
   | cons o l ih=>
    intro h
    have h1:=ih fun x hx=>h x XO
    have h2:=h o XM
    unfold wwA at h1 ⊢
    rw [Y0,Yc,Yh,Nat.mul_succ]
    split
    ·have h3:(wwO o (o.txs.length - 1)).length=o.txs.length - 1:=by unfold wwO;rw [YJ,List.length_range]
     omega
    ·simp only [Yq];omega
  exact Yaa (key _ h.2.2) (Ybi _ h.2.1)
 ·simp
theorem ZpN {n:Nat} {g:Zl} (h:Fit n g) (hn:n≤26):Zcj g∧(wwC PT1 g).length+(rdC PT1 g).length≤100000:=by
 have hs:=h.small ow
 refine ⟨hs,?_⟩
 have h1:=Zu4 (p:=PT1) h
 have h2:=Zu1 (p:=PT1) hs
 have h3:=h.1.1
 have h4:n*(24*n)≤26*(24*26):=Nat.mul_le_mul hn (Ybi _ hn)
 omega
theorem Zpw {g:Zl} (h:Zbw g):Fit 24 g:=by
 obtain ⟨h1,h2,h3,h4⟩:=h
 refine ⟨⟨ow,fun t ht=>?_⟩,ow,fun o ho=>?_⟩
 ·obtain ⟨j,hj,e⟩:=YR ht
  have:=h3 j hj
  rw [nth_eq hj,e] at this;omega
 ·obtain ⟨j,hj,e⟩:=YR ho
  have:=h4 j hj
  rw [nth_eq hj,e] at this;omega
theorem ZvS (g:Zl):∃ b0 b1 b2 b3 b4 b5:Bool,∀ i:Nat,i<6→(Nn [b0,b1,b2,b3,b4,b5] i=true ↔ PhB g (i:Int)):=by
 obtain ⟨b0,h0⟩:=Zda (PhB g 0)
 obtain ⟨b1,h1⟩:=Zda (PhB g 1)
 obtain ⟨b2,h2⟩:=Zda (PhB g 2)
 obtain ⟨b3,h3⟩:=Zda (PhB g 3)
 obtain ⟨b4,h4⟩:=Zda (PhB g 4)
 obtain ⟨b5,h5⟩:=Zda (PhB g 5)
 refine ⟨b0,b1,b2,b3,b4,b5,fun i hi=>?_⟩
 have:i=0∨i=1∨i=2∨i=3∨i=4∨i=5:=ow
 rcases this with rfl | rfl | rfl | rfl | rfl | rfl
 ·exact h0
 ·exact h1
 ·exact h2
 ·exact h3
 ·exact h4
 ·exact h5
def ZhK:Zl:=⟨[⟨1,true,[⟨true,1,0,0⟩,⟨false,2,0,0⟩]⟩,⟨2,true,[⟨true,2,0,0⟩,⟨false,1,0,0⟩]⟩],[⟨1,[2]⟩,⟨2,[1]⟩]⟩
theorem ZmD:Z6 ZhK = [⟨1,2,3,1⟩,⟨2,1,3,2⟩]:=by decide +kernel
theorem Zhc:Zcj ZhK∧(wwC PT1 ZhK).length+(rdC PT1 ZhK).length≤100000:=⟨⟨⟨by decide,by decide⟩,by decide,by decide⟩,by decide +kernel⟩
theorem Zvp  : FnP prog 24 [] (.agg (Zr ZhK)):=by
 refine FnP.mk func24 rfl ntmps24 rfl fun B a w F Z hfr G=>Ya ?_
 refine rS G (qf (oH [.slice none 0 0,.slice none 0 0] 101) trivial qz qZ) Z [0] KN fun τ G=>?_
 have G:=X2
 generalize τ 0=v0 at G
 refine Za (Ya (rZ G (qf (oB [(0,_),(1,_)] [.bool false,.int .i64 0,.int .i64 0,.int .i64 0] [(0,1),(1,1),(2,1),(3,1)] (.one rfl .cb ZbI kr (.one rfl qi one_int kr .nil))) trivial qz (qf (oB [(1,_)] [.bool false,.int .i64 0,.int .i64 0,.int .i64 0] [(0,1),(1,1),(2,1),(3,1)] (.one rfl qi one_int kr .nil)) trivial qz (qf (Zj (sz:=4) (zs:=[.bool false,.int .i64 0,.int .i64 0,.int .i64 0]) (r:=[(0,.tmp 1),(1,.tmp 2)]) (l:=[_,_,_,_,_,_,_,_]) YbZ kr kr kr kr rfl rfl (.agg rfl .t kr kr (.agg rfl .t kr kr .nil)) rfl) r2 qz (qf (oB [(0,_),(1,_),(2,.tmp 3)] [.int .i64 0,.bool false,.slice none 0 0] [(0,1),(1,1),(2,1)] (.one rfl qi one_int kr (.one rfl .cb ZbI kr (.one rfl .t Zeb kr .nil)))) r1 qz (qf (oB [(0,_),(1,_)] [.bool false,.int .i64 0,.int .i64 0,.int .i64 0] [(0,1),(1,1),(2,1),(3,1)] (.one rfl .cb ZbI kr (.one rfl qi one_int kr .nil))) trivial qz (qf (oB [(1,_)] [.bool false,.int .i64 0,.int .i64 0,.int .i64 0] [(0,1),(1,1),(2,1),(3,1)] (.one rfl qi one_int kr .nil)) trivial qz (qf (Zj (sz:=4) (zs:=[.bool false,.int .i64 0,.int .i64 0,.int .i64 0]) (r:=[(0,.tmp 5),(1,.tmp 6)]) (l:=[_,_,_,_,_,_,_,_]) YbZ kr kr kr kr rfl rfl (.agg rfl .t kr kr (.agg rfl .t kr kr .nil)) rfl) r2 qz (qf (oB [(0,_),(1,_),(2,.tmp 7)] [.int .i64 0,.bool false,.slice none 0 0] [(0,1),(1,1),(2,1)] (.one rfl qi one_int kr (.one rfl .cb ZbI kr (.one rfl .t Zeb kr .nil)))) r1 qz (qf (Zj (sz:=3) (zs:=[.int .i64 0,.bool false,.slice none 0 0]) (r:=[(0,.tmp 4),(1,.tmp 8)]) (l:=[_,_,_,_,_,_]) Yb4 kr kr kr kr rfl rfl (.agg rfl .t kr kr (.agg rfl .t kr kr .nil)) rfl) r2 qz (qf (Zj (sz:=1) (zs:=[.int .i64 0]) (r:=[(0,_)]) (l:=[_]) YbY kr kr kr kr rfl rfl (.one rfl qi one_int kr .nil) rfl) trivial qz (qf (oB [(0,_),(1,.tmp 10)] [.int .i64 0,.slice none 0 0] [(0,1),(1,1)] (.one rfl qi one_int kr (.one rfl .t Zeb kr .nil))) r1 qz (qf (Zj (sz:=1) (zs:=[.int .i64 0]) (r:=[(0,_)]) (l:=[_]) YbY kr kr kr kr rfl rfl (.one rfl qi one_int kr .nil) rfl) trivial qz (qf (oB [(0,_),(1,.tmp 12)] [.int .i64 0,.slice none 0 0] [(0,1),(1,1)] (.one rfl qi one_int kr (.one rfl .t Zeb kr .nil))) r1 qz (qf (Zj (sz:=2) (zs:=[.int .i64 0,.slice none 0 0]) (r:=[(0,.tmp 11),(1,.tmp 13)]) (l:=[_,_,_,_]) Yb7 kr kr kr kr rfl rfl (.agg rfl .t kr kr (.agg rfl .t kr kr .nil)) rfl) r2 qz (qf (oB [(0,.tmp 9),(1,.tmp 14)] [.slice none 0 0,.slice none 0 0] [(0,1),(1,1)] (.one rfl .t Zeb kr (.one rfl .t Zeb kr .nil))) r2 qz (qs 2 101 r2 r1 qZ)))))))))))))))) Z [0] KN fun G=>Yj ?_))
 refine ZW hfr G rfl (.cl 101 true 2 rfl rfl .nil) (.one (.aggLe rfl ⟨.arrSl (R:=rTx) (l':=[⟨1,true,[⟨true,1,0,0⟩,⟨false,2,0,0⟩]⟩,⟨2,true,[⟨true,2,0,0⟩,⟨false,1,0,0⟩]⟩]) rfl ⟨.refl,.refl,.arrSl (R:=rOp) (l':=[⟨true,1,0,0⟩,⟨false,2,0,0⟩]) rfl ZeL.refl,.refl,.refl,.arrSl (R:=rOp) (l':=[⟨true,2,0,0⟩,⟨false,1,0,0⟩]) rfl ZeL.refl,tv⟩,.arrSl (R:=ZK) (l':=[⟨1,[2]⟩,⟨2,[1]⟩]) rfl ⟨.refl,.arrSl (R:=Zq) (l':=[2]) rfl ZeL.refl,.refl,.arrSl (R:=Zq) (l':=[1]) rfl ZeL.refl,tv⟩,tv⟩))
section
variable {P:Program} {t t2 e ty:TypeId} {pos:String} {af:Array Edge} {g:Option (Nat×Bool)} {x y:Operand} {ps qs:List (Nat×SF)} {α:Type} {R:α→List PV} {l s:List α} {sz k d':Nat} {v:Value}
end
section
variable {P:Program} {t t2 e ty:TypeId} {pos:String} {af:Array Edge} {g:Option (Nat×Bool)} {x y:Operand} {ps qs:List (Nat×SF)} {α:Type} {R:α→List PV} {l s:List α} {sz:Nat} {v:Value}
end
structure ZvE (room:Int) (c:List Int) (f:Nat) (l:List Int):Prop where
 r0:0≤room
 r1:room≤65536
 fits:(l.length:Int)≤room
 le:l.length≤c.length
 pow:(c.length=0∧f=0)∨(f<c.length ∧ ∃ k,k≤17∧c.length=2 ^ k)
 cells:∀ j,j<l.length→Nn c ((f+j) % c.length)=Nn l j
theorem ZvE.new {n:Int} (h:0≤n∧n≤65536):ZvE n [] 0 []:=⟨h.1,h.2,h.1,YF _,.inl ⟨rfl,rfl⟩,fun j hj=>absurd hj (Yah j)⟩
theorem ZvE.first {room:Int} {c:List Int} {f:Nat} {x:Int} {l:List Int} (h:ZvE room c f (x :: l)):Nn c ((f+0) % c.length)=x:=by
 rw [h.cells 0 XM,nth_eq XM];rfl
inductive Zna (prev:Int→List Int) (least t:Int):Nat→Int→Prop
 | zero:Zna prev least t 0 t
 | step {k:Nat} {u x:Int} (h:u ∈ prev x) (hl:least≤u) (r:Zna prev least t k x):Zna prev least t (k+1) u
def Zu9 (n:Nat) (prev:Int→List Int) (least t:Int) (d:List Int):Prop:=d.length=n ∧ ∀ u:Nat,u<n→(Nn d u = -1 ∧ ∀ k,¬ Zna prev least t k u) ∨ ∃ k:Nat,Nn d u=k∧Zna prev least t k u ∧ ∀ j,Zna prev least t j u→k≤j
structure ZuV (n:Nat) (prev:Int→List Int) (least t:Int) (d q:List Int):Prop where
 len:d.length=n
 start:0≤t∧t<n∧fI d t=0
 neg:∀ u:Int,0≤u→u<n → -1≤fI d u
 qd:∀ x ∈ q,0≤x∧x<n∧0≤fI d x
 nd:q.Nodup
 sound:∀ u:Int,0≤u→u<n→0≤fI d u→Zna prev least t (fI d u).toNat u
 sort:q.Pairwise fun a b=>fI d a≤fI d b
 near:∀ x,q.head? = some x→(∀ y ∈ q,fI d y≤fI d x+1) ∧ ∀ u:Int,0≤u→u<n→u ∉ q→fI d u≤fI d x
 clos:∀ x:Int,0≤x→x<n→0≤fI d x→x ∉ q → ∀ u ∈ prev x,least≤u→0≤fI d u∧fI d u≤fI d x+1
structure ZvL (n:Nat) (prev:Int→List Int) (least t:Int) (d q:List Int) (x:Int) (done:List Int):Prop where
 len:d.length=n
 start:0≤t∧t<n∧fI d t=0
 neg:∀ u:Int,0≤u→u<n → -1≤fI d u
 qd:∀ x ∈ q,0≤x∧x<n∧0≤fI d x
 nd:q.Nodup
 sound:∀ u:Int,0≤u→u<n→0≤fI d u→Zna prev least t (fI d u).toNat u
 sort:q.Pairwise fun a b=>fI d a≤fI d b
 here:0≤x∧x<n∧0≤fI d x∧x ∉ q
 near:(∀ y ∈ q,fI d x≤fI d y∧fI d y≤fI d x+1) ∧ ∀ u:Int,0≤u→u<n→u ∉ q→fI d u≤fI d x
 clos:∀ z:Int,0≤z→z<n→z≠x→0≤fI d z→z ∉ q → ∀ u ∈ prev z,least≤u→0≤fI d u∧fI d u≤fI d z+1
 seen:∀ u ∈ done,least≤u→0≤fI d u∧fI d u≤fI d x+1
section
variable {n:Nat} {prev:Int→List Int} {least t:Int} {d q:List Int} {x:Int} {seen:List Int}
theorem ZuV.first (ht:0≤t∧t<n):ZuV n prev least t ((List.replicate n (-1)).set t.toNat 0) [t]:=by
 have e:fI ((List.replicate n (-1)).set t.toNat 0)=ZcI (fI (List.replicate n (-1))) t 0:=Zc1 (by simpa using ht)
 have e2:∀ u:Int,0≤u→u<n→fI (List.replicate n (-1)) u = -1:=fun u h1 h2=>by
  rw [Zcd h1,nth_eq XT];simp
 have e3:∀ u:Int,0≤u→u<n→u≠t→fI ((List.replicate n (-1)).set t.toNat 0) u = -1:=fun u h1 h2 h3=>by rw [e,Zav h3];exact e2 u h1 h2
 have e4:fI ((List.replicate n (-1)).set t.toNat 0) t=0:=by rw [e,ZF]
 refine ⟨by simp,⟨ht.1,ht.2,e4⟩,fun u h1 h2=>?_,fun z hz=>?_,by simp,fun u h1 h2 h3=>?_,by simp,fun z hz=>?_,fun z h1 h2 h3 h4=>?_⟩
 ·by_cases h:u=t
  ·rw [h,e4];omega
  ·rw [e3 u h1 h2 h];omega
 ·rw [Yn.1 hz];exact ⟨ht.1,ht.2,by rw [e4];omega⟩
 ·by_cases h:u=t
  ·rw [h,e4];exact .zero
  ·rw [e3 u h1 h2 h] at h3;omega
 ·have hz:t=z:=by simpa using hz
  subst hz
  refine ⟨fun y hy=>by rw [Yn.1 hy];omega,fun u h1 h2 h3=>?_⟩
  rw [e3 u h1 h2 XU,e4];omega
 ·have h5:z≠t:=by simpa using h4
  rw [e3 z h1 h2 h5] at h3;omega
theorem ZvL.done (h:ZvL n prev least t d q x (prev x)):ZuV n prev least t d q:=by
 refine ⟨h.len,h.start,h.neg,h.qd,h.nd,h.sound,h.sort,fun z hz=>?_,fun z h1 h2 h3 h4=>?_⟩
 ·have hm:z ∈ q:=List.mem_of_head? hz
  refine ⟨fun y hy=>?_,fun u h1 h2 h3=>?_⟩
  ·have a:=(h.near.1 z hm).1
   have b:=(h.near.1 y hy).2
   omega
  ·have a:=(h.near.1 z hm).1
   have b:=h.near.2 u h1 h2 h3
   omega
 ·by_cases e:z=x
  ·rw [e];exact h.seen
  ·exact h.clos z h1 h2 e h3 h4
end
def negC (d:List Int):Nat:=d.countP fun z=>decide (z<0)
theorem ZqA {d:List Int} {i:Nat} {c:Int} (hi:i<d.length) (h0:Nn d i<0) (hc:0≤c):negC (d.set i c)+1=negC d:=by
 rw [nth_eq hi] at h0
 unfold negC
 rw [List.countP_set hi,YL h0,YO (show ¬ c<0 by omega)]
 have:0<d.countP fun z=>decide (z<0):=List.countP_pos_iff.2 ⟨d[i],YaL hi,YL h0⟩
 simp
 omega
def Zus (n:Nat) (prev:Int→List Int) (least t:Int) (d q:List Int):Prop:=ZuV n prev least t d q ∧ ∀ z:Int,fI d z+(negC d:Int)≤n
def Zrn (n:Nat) (prev:Int→List Int) (least t:Int) (d q:List Int) (x:Int) (seen:List Int):Prop:=ZvL n prev least t d q x seen ∧ ∀ z:Int,fI d z+(negC d:Int)≤n
section
variable {n:Nat} {prev:Int→List Int} {least t:Int} {d q:List Int} {x:Int} {seen:List Int}
theorem Zus.first (ht:0≤t∧t<n):Zus n prev least t ((List.replicate n (-1)).set t.toNat 0) [t]:=by
 have hlt:t.toNat<n:=ow
 have h1:=ZqA (d:=List.replicate n (-1)) (i:=t.toNat) (c:=0) (by simpa using hlt) (by rw [nth_eq (by simpa using hlt)];simp) (Yar 0)
 have h2:negC (List.replicate n (-1))=n:=by unfold negC;rw [List.countP_replicate];simp
 refine ⟨ZuV.first ht,fun z=>?_⟩
 have hz:fI ((List.replicate n (-1)).set t.toNat 0) z≤0:=by
  rw [Zc1 (by simpa using ht)]
  unfold ZcI
  split
  ·exact Yar 0
  ·unfold fI
   split
   ·by_cases h:z.toNat<n
    ·rw [nth_eq XL];simp
    ·unfold Nn;simp [YaN,show n≤z.toNat by omega]
   ·exact Yar 0
 omega
theorem Zrn.done (h:Zrn n prev least t d q x (prev x)):Zus n prev least t d q:=⟨h.1.done,h.2⟩
theorem Zrn.val (h:Zrn n prev least t d q x seen):0≤fI d x∧fI d x≤n:=by
 have:=h.2 x
 exact ⟨h.1.here.2.2.1,ow⟩
end
section
variable {P:Program} {d:Option Nat} {ty:TypeId} {pos:String} {af:Array Edge} {g:Option (Nat×Bool)} {x y:Operand} {ps qs:List (Nat×SF)} {t:TypeId} {α:Type}
end
def Zu2 (x:ZV):Int:=(x.kind*1048576+x.label)*4096+x.dst
def Zpi (A:ZV→Prop) (i:Int):Int→List ZV→Int→Prop
 | a,[],b=>a=b
 | a,x :: w,b=>A x∧x.src=a∧i≤x.dst∧Zpi A i x.dst w b
def Zgw (m:ZV→Bool) (need:Bool) (w:List ZV):Prop:=need=true → ∃ x ∈ w,m x=true
def ZtC (A:ZV→Prop) (m:ZV→Bool) (i:Int) (need:Bool) (u k:Int):Prop:=
 (k = -1 ∧ ∀ w,Zpi A i u w i→¬ Zgw m need w) ∨ ∃ w,Zpi A i u w i∧Zgw m need w∧(w.length:Int)=k ∧ ∀ w',Zpi A i u w' i→Zgw m need w' → w.length≤w'.length
def CwA (A:ZV→Prop) (m:ZV→Bool) (need:Bool) (i:Int) (w:List ZV):Prop:=w≠[]∧Zpi A i i w i∧Zgw m need w
def ZuY (A:ZV→Prop) (m:ZV→Bool) (i:Int) (need:Bool) (u:Int) (n:Nat):Prop:=
 (∃ w,w≠[]∧Zpi A i u w i∧Zgw m need w∧w.length=n) ∧ ∀ w,w≠[]→Zpi A i u w i→Zgw m need w→n≤w.length
def LtA (κ:ZV→Int):List ZV→List ZV→Prop
 | x :: w,y :: v=>κ x<κ y∨(x=y∧LtA κ w v)
 | _,_=>False
def Zrz (m:ZV→Bool) (any with_:List Int) (need:Bool) (x:ZV):Int:=if need && !m x then fI with_ x.dst else fI any x.dst
def Zpc (f:ZV→Int) (l:List ZV) (b:Int):Prop:=0≤b∧(b=0 → ∀ a ∈ l,f a<0)∧(0<b→(∃ a ∈ l,f a=b - 1) ∧ ∀ a ∈ l,0≤f a→b - 1≤f a)
theorem Zpc.take {f:ZV→Int} {l:List ZV} {b:Int} {x:ZV} (h:Zpc f l b) (h1:0≤f x) (h2:b=0∨f x+1<b):Zpc f (l ++ [x]) (f x+1):=by
 obtain ⟨a1,a2,a3⟩:=h
 refine ⟨ow,fun h=>by omega,fun _=>⟨⟨x,by simp,ow⟩,fun a ha hf=>?_⟩⟩
 rcases YC.1 ha with ha | ha
 ·rcases h2 with h2 | h2
  ·have:=a2 h2 a ha;omega
  ·have:=(a3 ow).2 a ha hf;omega
 ·rw [Yn.1 ha];omega
section
variable {A:ZV→Prop} {m:ZV→Bool} {i:Int} {κ:ZV→Int} {any with_:List Int}
theorem ZiQ {need:Bool} {x:ZV} {w:List ZV} : Zgw m need (x :: w) ↔ Zgw m (need && !m x) w:=by
 unfold Zgw
 cases need <;> cases hx:m x <;> simp [hx]
structure ZqB (A:ZV→Prop) (m:ZV→Bool) (i:Int) (any with_:List Int):Prop where
 fa:∀ x,A x→i≤x.dst→ZtC A m i false x.dst (fI any x.dst)
 fw:∀ x,A x→i≤x.dst→ZtC A m i true x.dst (fI with_ x.dst)
 less:∀ x,A x→x.dst<i→fI any x.dst = -1∧fI with_ x.dst = -1
theorem ZqB.left (h:ZqB A m i any with_) {x:ZV} (hx:A x) (hi:i≤x.dst) (need:Bool):ZtC A m i (need && !m x) x.dst (Zrz m any with_ need x):=by
 unfold Zrz
 cases hn:(need && !m x)
 ·rw [Yb XM];exact h.fa x hx hi
 ·rw [Ye rfl];exact h.fw x hx hi
theorem ZqB.first (h:ZqB A m i any with_) {x:ZV} {w:List ZV} {u:Int} {need:Bool} (hw:Zpi A i u (x :: w) i) (hm:Zgw m need (x :: w)):0≤Zrz m any with_ need x∧Zrz m any with_ need x≤w.length:=by
 obtain ⟨h1,h2,h3,h4⟩:=hw
 rcases h.left h1 h3 need with ⟨_,k⟩ | ⟨v,v1,v2,v3,v4⟩
 ·exact absurd (ZiQ.1 hm) (k w h4)
 ·have:=v4 w h4 (ZiQ.1 hm);omega
structure ZqR (A:ZV→Prop) (m:ZV→Bool) (κ:ZV→Int) (i:Int) (k:Nat) (need0:Bool) (way:List ZV) (here:Int) (n:Nat) (need:Bool):Prop where
 path:Zpi A i i way here
 len:way.length+n=k
 must:need=(need0 && !way.any m)
 near:0<n→ZuY A m i need here n
 zero:n=0→here=i∧need=false
 first:∀ w,CwA A m need0 i w→w.length=k→(∃ v,w=way++v)∨LtA κ way w
theorem ZqR.start {k:Nat} {need:Bool} (hk:0<k) (h:ZuY A m i need i k):ZqR A m κ i k need [] i k need:=
 ⟨rfl,by simp,by simp,fun _=>h,fun h=>by omega,fun w _ _=>.inl ⟨w,rfl⟩⟩
theorem ZqR.done {k:Nat} {need0 need:Bool} {way:List ZV} {here:Int} (hk:0<k) (h:ZqR A m κ i k need0 way here 0 need):CwA A m need0 i way∧way.length=k ∧ ∀ w,CwA A m need0 i w→w.length=k→w=way∨LtA κ way w:=by
 obtain ⟨z1,z2⟩:=h.zero rfl
 have hl:way.length=k:=by have:=h.len;omega
 subst z1
 refine ⟨⟨fun e=>by subst e;simp at hl;omega,h.path,?_⟩,hl,fun w hw hwl=>?_⟩
 ·have:=h.must
  rw [z2] at this
  intro hn
  subst hn
  simp at this
  obtain ⟨x,h1,h2⟩:=this
  exact ⟨x,h1,h2⟩
 ·rcases h.first w hw hwl with ⟨v,e⟩ | e
  ·left
   rw [e,Yc] at hwl
   have:v = []:=YM ow
   rw [e,this,YQ]
  ·exact .inr e
def Zv3 (A:ZV→Prop) (m:ZV→Bool) (κ:ZV→Int) (need:Bool) (n:Int) (way:List ZV):Prop:=
 (way = [] → ∀ j w,j<n→¬ CwA A m need j w)∧(way≠[] → ∃ j,j<n∧CwA A m need j way ∧ ∀ j' w,j' < n→CwA A m need j' w→way.length<w.length∨(way.length=w.length∧(j<j' ∨ (j=j' ∧ (w=way∨LtA κ way w)))))
end
section
variable {A:ZV→Prop} {m:ZV→Bool} {i:Int} {κ:ZV→Int} {any with_:List Int}
end
theorem ZnY {n:Nat} {prev:Int→List Int} {least t:Int} (hp:∀ x,∀ u ∈ prev x,0≤u∧u<(n:Int)) (ht:0≤t∧t<(n:Int)) {k:Nat} {u:Int} (h:Zna prev least t k u) :
  (∀ j,Zna prev least t j u→k≤j) → ∃ l:List Int,l.length=k+1∧l.Nodup ∧ ∀ y ∈ l,(0≤y∧y<(n:Int)) ∧ ∃ j,j≤k∧Zna prev least t j y ∧ ∀ j',Zna prev least t j' y→j≤j':=by
 induction h with
 | zero=>intro hm;exact ⟨[t],rfl,by simp,fun y hy=>by rw [Yn.1 hy];exact ⟨ht,0,YF _,.zero,fun _ _=>YA _⟩⟩
 | @step k u x h1 hl r ih=>
  intro hm
  obtain ⟨l,l1,l2,l3⟩:=ih fun j hj=>by have:=hm (j+1) (.step h1 hl hj);omega
  refine ⟨u :: l,by rw [Yh,l1],YaT.2 ⟨fun hu=>?_,l2⟩,fun y hy=>?_⟩
  ·obtain ⟨_,j,j1,j2,_⟩:=l3 u hu
   have:=hm j j2;omega
  ·rcases Ym.1 hy with rfl | hy
   ·exact ⟨hp _ _ h1,k+1,YF _,.step h1 hl r,hm⟩
   ·obtain ⟨a,j,j1,j2⟩:=l3 y hy
    exact ⟨a,j,ow,j2⟩
theorem Zu9.le {n:Nat} {prev:Int→List Int} {least t:Int} {D:List Int} (h:Zu9 n prev least t D) (hp:∀ x,∀ u ∈ prev x,0≤u∧u<(n:Int)) (ht:0≤t∧t<(n:Int)):∀ z ∈ D,-1≤z∧z<(n:Int):=fun z hz=>by
 obtain ⟨u,hu,rfl⟩:=YbL.1 hz
 rw [← nth_eq hu]
 rcases h.2 u (by have:=h.1;omega) with ⟨h1,_⟩ | ⟨k,h1,h2,h3⟩
 ·omega
 ·obtain ⟨l,l1,l2,l3⟩:=ZnY hp ht h2 h3
  have:=ZfU l2 fun y hy=>(l3 y hy).1
  omega
def ZmP (B:Zi→Prop):Int→List Zi→Int→Prop
 | a,[],b=>a=b
 | a,e :: w,b=>B e∧e.src=a∧ZmP B e.dst w b
def CwE (B:Zi→Prop) (m:Zi→Bool) (need:Bool) (i:Int) (w:List Zi):Prop:=w≠[]∧ZmP B i w i∧(∀ e ∈ w,i≤e.dst)∧(need=true → ∃ e ∈ w,m e=true)
def ltK (x y:Zi):Prop:=x.kind<y.kind∨x.kind=y.kind∧(x.key<y.key∨x.key=y.key∧x.dst<y.dst)
def LtE:List Zi→List Zi→Prop
 | x :: w,y :: v=>ltK x y∨(x=y∧LtE w v)
 | _,_=>False
def Zvv (B:Zi→Prop) (m:Zi→Bool) (need:Bool) (w:List Zi):Prop:=∃ j,CwE B m need j w ∧ ∀ j' w',CwE B m need j' w' → w.length<w'.length∨(w.length=w'.length∧(j<j' ∨ (j=j' ∧ (w' = w∨LtE w w'))))
section
variable {B:Zi→Prop} {m:Zi→Bool} {need:Bool}
theorem ZjX {a b:Int} : ∀ {w:List Zi},ZmP B a w b → ∀ e ∈ w,B e
 | e :: w,h,x,hx=>by
  rcases Ym.1 hx with rfl | hx
  ·exact h.1
  ·exact ZjX h.2.2 x hx
end
structure ZcT (B:Zi→Prop) (r s:Int→Int) (f:ZV→Zi):Prop where
 ids:∀ a b,(∃ e,B e∧(e.src=a∨e.dst=a))→(∃ e,B e∧(e.src=b∨e.dst=b))→(a<b ↔ r a<r b)
 keys:∀ a b,(∃ e,B e∧e.key=a)→(∃ e,B e∧e.key=b)→(a<b ↔ s a<s b)
 idr:∀ a,(∃ e,B e∧(e.src=a∨e.dst=a))→0≤r a∧r a<4096
 keyr:∀ a,(∃ e,B e∧e.key=a)→0≤s a∧s a<1048576
 inv:∀ e,B e→f ⟨r e.src,r e.dst,e.kind,s e.key⟩ = e
def ZcW (r s:Int→Int) (e:Zi):ZV:=⟨r e.src,r e.dst,e.kind,s e.key⟩
section
variable {B:Zi→Prop} {mA:ZV→Bool} {need:Bool} {r s:Int→Int} {f:ZV→Zi}
theorem ZcT.inj (h:ZcT B r s f) {a b:Int} (ha:∃ e,B e∧(e.src=a∨e.dst=a)) (hb:∃ e,B e∧(e.src=b∨e.dst=b)) (e:r a=r b):a=b:=by
 have h1:=h.ids a b ha hb
 have h2:=h.ids b a hb ha
 omega
theorem ZcT.le (h:ZcT B r s f) {a b:Int} (ha:∃ e,B e∧(e.src=a∨e.dst=a)) (hb:∃ e,B e∧(e.src=b∨e.dst=b)):a≤b ↔ r a≤r b:=by
 have h2:=h.ids b a hb ha
 omega
theorem ZcT.lt (h:ZcT B r s f) {x y:Zi} (hx:B x) (hy:B y):ltK x y ↔ Zu2 (ZcW r s x)<Zu2 (ZcW r s y):=by
 obtain ⟨a1,a2⟩:=h.idr x.dst ⟨x,hx,.inr rfl⟩
 obtain ⟨b1,b2⟩:=h.idr y.dst ⟨y,hy,.inr rfl⟩
 obtain ⟨c1,c2⟩:=h.keyr x.key ⟨x,hx,rfl⟩
 obtain ⟨d1,d2⟩:=h.keyr y.key ⟨y,hy,rfl⟩
 have e1:=h.ids x.dst y.dst ⟨x,hx,.inr rfl⟩ ⟨y,hy,.inr rfl⟩
 have e2:=h.keys x.key y.key ⟨x,hx,rfl⟩ ⟨y,hy,rfl⟩
 have e3:=h.keys y.key x.key ⟨y,hy,rfl⟩ ⟨x,hx,rfl⟩
 unfold ltK Zu2 ZcW
 dsimp only
 by_cases hk:x.key=y.key
 ·rw [hk] at *
  omega
 ·omega
theorem ZcT.out (h:ZcT B r s f) {i:Int} (hi:∃ e,B e∧(e.src=i∨e.dst=i)) {w:List Zi} {a b:Int} (hp:ZmP B a w b) (hl:∀ e ∈ w,i≤e.dst):Zpi (fun x=>∃ e,B e∧ZcW r s e=x) (r i) (r a) (w.map (ZcW r s)) (r b):=by
 induction w generalizing a with
 | nil=>
  have e:a=b:=hp
  subst e;rfl
 | cons e w ih=>
  exact ⟨⟨e,hp.1,rfl⟩,by rw [← hp.2.1];rfl,(h.le hi ⟨e,hp.1,.inr rfl⟩).1 (hl e XM),ih hp.2.2 fun x hx=>hl x XO⟩
theorem ZcT.back (h:ZcT B r s f) {i b:Int} (hi:∃ e,B e∧(e.src=i∨e.dst=i)) (hb:∃ e,B e∧(e.src=b∨e.dst=b)) {v:List ZV} {a:Int} (ha:∃ e,B e∧(e.src=a∨e.dst=a)) (hw:Zpi (fun x=>∃ e,B e∧ZcW r s e=x) (r i) (r a) v (r b)):∃ w,v=w.map (ZcW r s)∧ZmP B a w b ∧ ∀ e ∈ w,i≤e.dst:=by
 induction v generalizing a with
 | nil=>exact ⟨[],rfl,h.inj ha hb hw,by simp⟩
 | cons x v ih=>
  obtain ⟨⟨e,e1,rfl⟩,h2,h3,h4⟩:=hw
  obtain ⟨w,w1,w2,w3⟩:=ih ⟨e,e1,.inr rfl⟩ h4
  refine ⟨e :: w,by rw [w1];rfl,⟨e1,h.inj ⟨e,e1,.inl rfl⟩ ha h2,w2⟩,fun y hy=>?_⟩
  rcases Ym.1 hy with rfl | hy
  ·exact (h.le hi ⟨y,e1,.inr rfl⟩).2 h3
  ·exact w3 y hy
theorem ZcT.lts (h:ZcT B r s f):∀ {w v:List Zi},(∀ e ∈ w,B e)→(∀ e ∈ v,B e)→LtA Zu2 (w.map (ZcW r s)) (v.map (ZcW r s))→LtE w v
 | x :: w,y :: v,hw,hv,k=>by
  rcases k with k | ⟨k1,k2⟩
  ·exact .inl ((h.lt (hw x XM) (hv y XM)).2 k)
  ·refine .inr ⟨?_,h.lts (fun e he=>hw e (by simp [he])) (fun e he=>hv e (by simp [he])) k2⟩
   rw [← h.inv x (hw x XM),← h.inv y (hv y XM)]
   exact Y8 f k1
 | [],_,_,_,k=>k.elim
 | _ :: _,[],_,_,k=>k.elim
theorem ZcT.map_inv (h:ZcT B r s f) {w:List Zi} (hw:∀ e ∈ w,B e):(w.map (ZcW r s)).map f=w:=by
 rw [Yba]
 conv=>rhs;rw [← List.map_id w]
 exact List.map_congr_left fun e he=>h.inv e (hw e he)
theorem ZcT.first (h:ZcT B r s f) {n:Int} (hn:∀ a,(∃ e,B e∧(e.src=a∨e.dst=a))→r a<n) {way:List ZV} (hb:Zv3 (fun x=>∃ e,B e∧ZcW r s e=x) mA Zu2 need n way) :
  (way = [] → ∀ j w,¬ CwE B (fun e=>mA (ZcW r s e)) need j w)∧(way≠[]→Zvv B (fun e=>mA (ZcW r s e)) need (way.map f)):=by
 have src_in:∀ {j:Int} {w:List Zi},w≠[]→ZmP B j w j → ∃ e,B e∧(e.src=j∨e.dst=j):=fun {j w} hne hp=>by
  cases w with
  | nil=>exact absurd rfl hne
  | cons e w=>exact ⟨e,hp.1,.inl hp.2.1⟩
 have to:∀ {j:Int} {w:List Zi},CwE B (fun e=>mA (ZcW r s e)) need j w→CwA (fun x=>∃ e,B e∧ZcW r s e=x) mA need (r j) (w.map (ZcW r s)):=fun {j w} ⟨c1,c2,c3,c4⟩=>by
  refine ⟨by simpa using c1,h.out (src_in c1 c2) c2 c3,fun hd=>?_⟩
  obtain ⟨e,e1,e2⟩:=c4 hd
  exact ⟨_,YB.2 ⟨e,e1,rfl⟩,e2⟩
 constructor
 ·intro hw j w hc
  exact hb.1 hw (r j) _ (hn j (src_in hc.1 hc.2.1)) (to hc)
 ·intro hw
  obtain ⟨j,j1,⟨c1,c2,c3⟩,j3⟩:=hb.2 hw
  obtain ⟨i,hi,rfl⟩:∃ i,(∃ e,B e∧(e.src=i∨e.dst=i))∧r i=j:=by
   cases way with
   | nil=>exact absurd rfl hw
   | cons x v=>
    obtain ⟨⟨e,e1,rfl⟩,h2,_⟩:=c2
    exact ⟨e.src,⟨e,e1,.inl rfl⟩,h2⟩
  obtain ⟨w,rfl,w2,w3⟩:=h.back hi hi hi c2
  have Z:=ZjX w2
  rw [h.map_inv Z]
  refine ⟨i,⟨by simpa using c1,w2,w3,fun hd=>?_⟩,fun j' v hv=>?_⟩
  ·obtain ⟨x,x1,x2⟩:=c3 hd
   obtain ⟨e,e1,rfl⟩:=YB.1 x1
   exact ⟨e,e1,x2⟩
  ·have hvi:=src_in hv.1 hv.2.1
   have k:=j3 (r j') _ (hn j' hvi) (to hv)
   rw [YJ,YJ] at k
   rcases k with k | ⟨k1,k2⟩
   ·exact .inl k
   ·refine .inr ⟨k1,?_⟩
    rcases k2 with k2 | ⟨k2,k3⟩
    ·exact .inl ((h.ids i j' hi hvi).2 k2)
    ·refine .inr ⟨h.inj hi hvi k2,?_⟩
     have hB2:=ZjX hv.2.1
     rcases k3 with k3 | k3
     ·left
      rw [← h.map_inv hB2,← h.map_inv Z,k3]
     ·exact .inr (h.lts Z hB2 k3)
end
section
variable {P:Program} {d:Option Nat} {t t' ty:TypeId} {pos:String} {af:Array Edge} {g:Option (Nat×Bool)} {x:Operand} {ps:List (Nat×SF)}
theorem Zo2 {e:TypeId} (hu:P.underlying t=some (.slice e)) (hx:Opd x ps (.pv (.is (.slice none 0 0)))) :
  OpC P ⟨d,.call { callee:=.builtin .len,args:=#[x],argTypes:=#[t] },ty,pos,af,g⟩ ⟨ps,[],.pv (.int .i64 0),[]⟩:=
 OpC.pure fun a w yy hp=>by
  have e1:=(hx a w yy hp).1
  refine ⟨.int .i64 0,?_,fun _ _=>⟨rfl,by simp [inR,IntKind.min,IntKind.max,IntKind.signed,IntKind.bits]⟩⟩
  simp [execOp,resolve,invoke,builtin,e1,Ybv w t ty none 0 0 (Zfh hu),goInt]
end
section
variable {P:Program} {d:Option Nat} {t t' ty:TypeId} {pos:String} {af:Array Edge} {g:Option (Nat×Bool)} {x:Operand} {ps:List (Nat×SF)}
end
theorem ZqK {P:Program} {d:Option Nat} {ty:TypeId} {pos:String} {af:Array Edge} {g:Option (Nat×Bool)} {x:Operand} {ps:List (Nat×SF)} {T e:TypeId} {p:PV} (hu:P.underlying T=some (.pointer e)) (hx:Opd x ps (.pv p)):OpC P ⟨d,.makeInterface T x,ty,pos,af,g⟩ ⟨ps,[],.pv (.ifc T p),[]⟩:=
 OpC.pure fun a w y hp=>⟨.iface T (a.eval x),by simp [execOp,Instr.makeInterface,Yo hu],fun τ' _=>⟨_,rfl,hx a w y hp⟩⟩
theorem Zn7 {P:Program} {d:Option Nat} {ty:TypeId} {pos:String} {af:Array Edge} {g:Option (Nat×Bool)} {x:Operand} {ps:List (Nat×SF)} {f:FuncId} {nm:String} {tys:Array TypeId} {q p:PV} {fn:Func} {u:Value} {T Te T2:TypeId} (m:Nat) (hx:Opd x ps (.pv (.ifc T (.is u)))) (hc:FnP P f [p] q) (hu:P.underlying T=some (.pointer Te)) (ha:P.aggB Te=some false) (hs:(P.info? Te).map (·.size)=some 1)
    (hm : (P.info? T).map (fun i => (i.methods.find? (·.name == nm)).map fun m => (m.path.toList, m.func)) = some (some ([], some (f, false)))) (hf : P.funcs[f]? = some fn) (hb : fn.body.isSome = true) (hn : (fn.name == "runtime.NumGoroutine") = false) :
    OpC P ⟨d,.call { callee:=.invoke x nm,args:=#[],argTypes:=tys },ty,pos,af,g⟩ ⟨ps,[(m,.pt (.val u) T2 [.pv p])],.pv q,[]⟩:=fun a w F K Q hw hp hr ht=>by
  obtain ⟨v,e,k⟩:=hx a w (U F) hp
  obtain ⟨b,vs,e0,hb0,_,hc0⟩:=Zbe (hr (m,.pt (.val u) T2 [.pv p]) XM)
  have ev:v = .pointer (some ⟨b,0,none⟩):=k.1.trans e0
  subst ev
  obtain ⟨z,h1,h2⟩:=Go.Gm.Zib (P:=P) (t:=Te) (ag:=false) (sz:=1) (k:=0) ha hs hb0 hc0 XV
  have hz:p.p z w (U F):=h2
  have hbn:fn.body≠none:=Kd
  have hn' : fn.name ≠ "runtime.NumGoroutine" := by intro h; rw [h] at hn; simp at hn
  have hchk : ∀ s : String, (Builtin.ssaWrapNilChk_ #[T] T #[.pointer (some ⟨b, 0, none⟩), strVal "", strVal s]).run P w = .ok (.pointer (some ⟨b, 0, none⟩)) w := fun s => rfl
  have hmet:∀ n,(method (n+1) T (.pointer (some ⟨b,0,none⟩)) nm).run P w = .ok (f,z) w:=fun n=>by
    cases hi:P.info? T with
    | none=>rw [hi] at hm;cases hm
    | some i=>
      rw [hi] at hm
      simp only [YaC,YX] at hm
      cases hfi:i.methods.find? (·.name == nm) with
      | none=>rw [hfi] at hm;cases hm
      | some m=>
        rw [hfi] at hm
        simp only [YaC,YX,Prod.mk.injEq] at hm
        obtain ⟨h3,h4⟩:=hm
        have h5:m.path = #[]:=by cases hp9:m.path with | mk l=>rw [hp9] at h3;simp at h3;rw [h3]
        simp [method,typeInfo,hi,hfi,h3,h4,h5,follow,receiverAt,Yo hu,Place.get,hchk,asAddr,h1]
  obtain ⟨n,hn2⟩:∃ n,P.types.size+Made.depth=n+1:=⟨P.types.size+Made.depth - 1,by rw [show Made.depth=(Made.depth - 1)+1 from by decide];omega⟩
  have hrun:(execOp a.eval ⟨d,.call { callee:=.invoke x nm,args:=#[],argTypes:=tys },ty,pos,af,g⟩).run P w = .ok (.enter f #[z]) w:=by
    simp [execOp,resolve,invoke,callMethod,e,hn2,hmet,callFunc,hf,hn',hbn]
  simp only [Oper.wp,hrun,Oper.upon]
  refine (hc w (U F) [z] (fun b ⟨n,hn⟩=>hw.bd n b hn) ⟨hz,tv⟩).mono ?_
  rintro e' w' ⟨v,rfl,hq,hbel⟩
  have hst:Stp [] w F w' F:=⟨hbel.os,hbel.tape,hbel.output,hbel.size,fun b hb _=>hbel.block b hb,fun _ _=>rfl,fun _ h=>by cases h⟩
  exact ht v w' F ⟨hw.dis,fun n b hn=>Yam (hw.bd n b hn) hbel.size⟩ hst hq (fun x hx=>by cases hx)
def cntE (ids:List Int) (L:List Zi) (k:Int):Nat:=(L.filter fun e=>(decide (e.src ∈ ids) && decide (e.dst ∈ ids)) && decide (e.dst=k)).length
def Zhw (ids:List Int) (L:List Zi) (es:List (GE Int Int)):Prop:=GNd es ∧ ∀ k,gGet k es=if k ∈ ids then some ((1+cntE ids L k:Nat):Int) else none
def Zfr (S:List Int) (es:List (GE Int Int)):Prop:=GNd es ∧ ∀ k,gGet k es=if k ∈ S then some 1 else none
theorem Zfr.nil {ids:List Int} : Zfr (ids.take 0) []:=⟨List.nodup_nil,fun k=>by rw [Yb (by simp)];rfl⟩
theorem Zfr.put {ids:List Int} {es:List (GE Int Int)} {ck:Nat} {i:Nat} (hi:i<ids.length) (h:Zfr (ids.take i) es):Zfr (ids.take (i+1)) (gPut (Nn ids i) 1 (es,ck)).1:=⟨h.1.put (s:=(es,ck)),fun k=>by
 rw [ZaQ,Zy hi]
 by_cases e:k=Nn ids i
 ·rw [Ye e,Ye (by simp [e])]
 ·rw [Yb e]
  show gGet k es=_
  rw [h.2 k]
  have e2:(k ∈ ids.take i ++ [Nn ids i]) ↔ k ∈ ids.take i:=by simp [e]
  simp only [e2]⟩
theorem Zfr.all {ids:List Int} {es:List (GE Int Int)} {l:List Zi} (h:Zfr ids es):Zhw ids (l.take 0) es:=⟨h.1,fun k=>by rw [h.2 k];rfl⟩
theorem Zhw.val {ids:List Int} {L:List Zi} {es:List (GE Int Int)} (h:Zhw ids L es) (k:Int):(gGet k es).getD 0=if k ∈ ids then ((1+cntE ids L k:Nat):Int) else 0:=by
 rw [h.2]
 split <;> rfl
theorem Zhw.pos {ids:List Int} {L:List Zi} {es:List (GE Int Int)} (h:Zhw ids L es) (k:Int):0<(gGet k es).getD 0 ↔ k ∈ ids:=by
 rw [h.val]
 split
 ·rename_i h1;simp [h1];omega
 ·rename_i h1;simp [h1]
theorem Zgk {ids:List Int} {l:List Zi} {j:Nat} (hj:j<l.length) (k:Int):cntE ids (l.take (j+1)) k=cntE ids (l.take j) k+if ((Nn l j).src ∈ ids∧(Nn l j).dst ∈ ids)∧(Nn l j).dst=k then 1 else 0:=by
 unfold cntE
 rw [Zy hj,Yai,Yc]
 congr 1
 by_cases h:((Nn l j).src ∈ ids∧(Nn l j).dst ∈ ids)∧(Nn l j).dst=k
 ·rw [Ye h,YT (by rw [YL h.1.1,YL h.1.2,YL h.2];rfl)];rfl
 ·rw [Yb h,Y9 (by rw [Yw,Yw,Yl,Yl,Yl];exact h)];rfl
theorem ZtL (ids:List Int) (l:List Zi) (j:Nat) (k:Int):cntE ids (l.take j) k≤j:=Yaa (Yac _ _) (by rw [Yp];omega)
theorem Zhw.skip {ids:List Int} {l:List Zi} {es:List (GE Int Int)} {j:Nat} (hj:j<l.length) (h:Zhw ids (l.take j) es) (hn:¬ ((Nn l j).src ∈ ids∧(Nn l j).dst ∈ ids)):Zhw ids (l.take (j+1)) es:=⟨h.1,fun k=>by rw [h.2,Zgk hj,Yb (c:=(_∧_)∧_) (fun h9=>hn h9.1)];rfl⟩
theorem Zhw.inc {ids:List Int} {l:List Zi} {es:List (GE Int Int)} {ck j:Nat} (hj:j<l.length) (h:Zhw ids (l.take j) es) (hy:(Nn l j).src ∈ ids∧(Nn l j).dst ∈ ids):Zhw ids (l.take (j+1)) (gPut (Nn l j).dst ((gGet (Nn l j).dst es).getD 0+1) (es,ck)).1:=⟨h.1.put (s:=(es,ck)),fun k=>by
 rw [ZaQ,h.val,Ye hy.2]
 by_cases e:k=(Nn l j).dst
 ·subst e
  rw [Ye rfl,Ye hy.2,Zgk hj,Ye ⟨hy,rfl⟩]
  congr 1
 ·rw [Yb e]
  show gGet k es=_
  rw [h.2,Zgk hj,Yb (c:=(_∧_)∧_) (fun h9=>e h9.2.symm)];rfl⟩
theorem Zhw.late {ids:List Int} {l:List Zi} {es:List (GE Int Int)} (h:Zhw ids l es) (hn0:∀ x ∈ ids,0<cntE ids l x) {e:GE Int Int} (he:e ∈ es):e.val≠1:=by
 have h1:=Zh1 (k:=e.key) (v:=e.val) h.1 e he
 rw [h.2] at h1
 split at h1
 ·rename_i h2
  have h3:=Ya6 h1
  have h4:=hn0 _ h2
  omega
 ·cases h1
theorem Zhw.empty {ids:List Int} {l:List Zi} {es:List (GE Int Int)} (h:Zhw ids l es):es.length=0 ↔ ids = []:=by
 constructor
 ·intro h0
  have:es = []:=YM h0
  subst this
  refine List.eq_nil_iff_forall_not_mem.2 fun x hx=>?_
  have:=h.2 x
  rw [Ye hx] at this
  cases this
 ·rintro rfl
  cases es with
  | nil=>rfl
  | cons e es=>
   have h1:=Zh1 (k:=e.key) (v:=e.val) h.1 e XM
   rw [h.2,Yb XM] at h1
   cases h1
theorem Zhw.len {ids:List Int} {L:List Zi} {es:List (GE Int Int)} (h:Zhw ids L es):es.length≤ids.length:=by
 have:=Zgb (a:=es.map fun z:GE Int Int=>z.key) (b:=ids) h.1 fun x hx=>by
  obtain ⟨e,he,rfl⟩:=YB.1 hx
  have h1:=Zh1 (k:=e.key) (v:=e.val) h.1 e he
  rw [h.2] at h1
  split at h1
  ·assumption
  ·cases h1
 rwa [YJ] at this
theorem Zr9 {fs:List (GE Int (Value×List Int))} {ck j:Nat} (h:∀ k,((gGet k fs).getD ZaX).2.length≤j) {k:Int} {v:Value} {r:List Int} (hr:r.length≤j+1) (k2:Int):((gGet k2 (gPut k (v,r) (fs,ck)).1).getD ZaX).2.length≤j+1:=by
 rw [ZaQ]
 by_cases e:k2=k
 ·rw [Ye e];exact hr
 ·rw [Yb e]
  exact Nat.le_succ_of_le (h k2)
theorem Zq4 {v:Value} {T:TypeId} {τ:Tau} {w:World} {f y:Ys} (h:(RS.pt (.val v) T [.pv (.is (.slice none 0 0))]).holds τ w f y):(RS.pt (.val v) T [.pv (.sl Zq [])]).holds τ w f y:=by
 obtain ⟨b,vs,e,hb,hf,hc⟩:=h
 refine ⟨b,vs,e,hb,hf,?_⟩
 generalize vs.toList=us at hc ⊢
 match us,hc with
 | [u1],hc=>exact ⟨⟨hc.1.1,Zee.nilSl u1 w y hc.1.2⟩,tv⟩
abbrev ZsY (es:List (GE Int Int)) (ck:Nat):Value→HP:=mapG (fun c:Int=>PV.int .i64 c) (fun n:Int=>inR .i64 n) (fun n:Int=>Value.int .i64 n) es ck
def ZvD (seen:List Nat) (cs:List (GE Int Int)):Nat:=(cs.filter fun e=>decide (e.born ∉ seen)).length
theorem Zdu {α:Type} {p p':α→Bool} (h:∀ x,p' x=true→p x=true) {e:α} (h1:p e=true) (h2:p' e=false):∀ {l:List α},e ∈ l→(l.filter p').length<(l.filter p).length
 | x :: l,he=>by
  have hle:∀ m:List α,(m.filter p').length≤(m.filter p).length:=fun m=>by
   induction m with
   | nil=>exact YF _
   | cons z m ih=>
    by_cases hz:p' z=true
    ·rw [YT hz,YT (h z hz),Yh,Yh];omega
    ·rw [Y9 hz]
     refine Yaa ih ?_
     by_cases hz2:p z=true
     ·rw [YT hz2,Yh];omega
     ·rw [Y9 hz2];exact YF _
  rcases Ym.1 he with rfl | he
  ·rw [Y9 (by rw [h2];simp),YT h1,Yh]
   have:=hle l;omega
  ·have ih:=Zdu h h1 h2 he
   by_cases hz:p' x=true
   ·rw [YT hz,YT (h x hz),Yh,Yh];omega
   ·rw [Y9 hz]
    refine Yam ih ?_
    by_cases hz2:p x=true
    ·rw [YT hz2,Yh];omega
    ·rw [Y9 hz2];exact YF _
theorem Zuu {seen:List Nat} {e:GE Int Int} (hs:e.born ∉ seen) {cs:List (GE Int Int)} (he:e ∈ cs):ZvD (seen ++ [e.born]) cs<ZvD seen cs:=by
 unfold ZvD
 refine Zdu (e:=e) (fun x hx=>?_) ?_ ?_ he
 ·simp only [Yl] at hx ⊢
  exact fun h=>hx (Y6 _ h)
 ·simpa using hs
 ·simp
theorem Zq0 {B:ZaV} {E:En} {a:Act} {w:World} {F:Fp} (h:Sat B E a w F) (n:Nat) {mv:Value} {es:List (GE Int Int)} {ck:Nat} (hl:Go.Gm.look E.r n=some (.ob (.val mv) (ZsY es ck))):∀ e ∈ es,∀ w y,(PV.int .i64 e.key).p (.int .i64 e.key) w y:=by
 obtain ⟨_,_,_,_,_,_,_,_,⟨_,h2⟩,_⟩:=h.obGet n hl
 exact fun e he w y=>⟨rfl,h2 e he⟩
theorem Zni (l:List Int):FnP prog 78 [.sl Zq l] (.int .i64 (l.length:Int)):=by
 refine FnP.mk func78 rfl ntmps78 rfl fun B a w F Z hfr G=>Ya ?_
 refine rZ G (qI qZ) Z Q0 [0] fun G=>Ya ?_
 refine rZ G (qR rr (qu underlying145 r1 (qO rr qZ))) Z [2] [0] fun G=>Yj ?_
 refine Zo hfr G rfl rfl rfl .refl
theorem ZjU (b:Nat):FnG prog 77 1 [.ifc 147 (.is (.pointer (some ⟨b,0,none⟩)))] [Zid 145 [.pv (.sl Zq [])] (.pointer (some ⟨b,0,none⟩))] (.tup []) (fun _=>[Zid 145 [.pv (.sl Zq [])] (.pointer (some ⟨b,0,none⟩))]):=by
 refine FnG.mk func77 rfl ntmps77 rfl kr fun B F0 a w F Z hG G=>?_
 have G:=G.turn 1 rfl (r':=.pt (.val (.pointer (some ⟨b,0,none⟩))) 145 [.pv (.sl Zq [])]) (fun τ w f y h=>ZgS rfl τ w f y h)
 refine Ya (rZ G (qR rr (qf (Zn7 1 .t (Zni []) underlying147 kr kr kr func78 rfl kr) r1 r1 (qO rr qZ))) Z Q0 KQ fun G=>Ya ?_)
 refine rZ G (qR rr (qf (ZmW .t qi  XW) r1 qz (qf (o_sub .t qi) r1 qz (qO rr qZ)))) Z KR KQ fun G=>Yi ?_
 refine Zk (σ:=Unit) [0,2,3] [0,1] (fun s=>[]) (fun s=>[]) (fun s=>True) (fun s=>0) (()) G ⟨rfl,rfl,rfl,tv⟩ ⟨rfl,rfl,tv⟩ trivial ?_
 clear G;intro u a w F hC G
 have hC:=X4
 obtain ⟨F,G⟩:=G.nM KR KQ
 have G:=X3
 refine Ya (Ya (rZ G (qR rr (qf (ZbD .t qi) r1 qz qZ)) Z [10,3,2,0] KQ fun G=>?_))
 refine Zb G rfl (fun hc0=>?_) (fun hc0=>?_)
 ·have h9:=hc0
  exact absurd h9 XW
 refine Yz (Zg (Zg (Zm ?_)))
 have G:=G.turn 1 rfl (r':=RS.hp (Zid 145 [.pv (.sl Zq [])] (.pointer (some ⟨b,0,none⟩)))) (fun τ w f y h=>Zg6 rfl τ w f y h)
 refine ZL hG G rfl .nil ZaB.none rfl
theorem Zrg (ids:List Int) (l:List Zi) (hil9:ids.length≤1000000) (hl:l.length≤1000000) (hn0:∀ x ∈ ids,0<cntE ids l x):FnP prog 33 [.sl Zq ids,.sl ZE l] (.tup [.sl Zq [],.int .i64 (if ids = [] then 0 else 16)]):=by
 refine FnP.mk func33 rfl ntmps33 rfl fun B a w F Z hfr G=>Ya ?_
 refine rZ G (qC (qI qZ)) Z Qh [0] fun G=>Ya ?_
 refine rS G (qf (Z8 (ek:=(fun c:Int=>PV.int .i64 c)) (ok:=(fun n:Int=>inR .i64 n)) (kv:=(fun n:Int=>Value.int .i64 n)) 101) trivial qz (qO rr qZ)) Z QG KN fun τ G=>?_
 have G:=Xp
 generalize τ 19=v19 at G
 refine Za (Ya (Ya (rZ G (qR rr (qu YbY r1 (qJ qZ))) Z J3 KN fun G=>Yi ?_)))
 refine Zk (σ:=(Nat)×(List (GE Int Int))×(Nat)) [1,4,5,6,20,21] [0] (fun s=>[(22,.pv (.int .i64 (s.1:Int)))]) (fun s=>[(101,.ob (.val v19) (ZsY s.2.1 s.2.2))]) (fun s=>s.1≤ids.length∧(Zfr (ids.take s.1) s.2.1)) (fun s=>ids.length - s.1) ((0),([]),(0)) G ⟨rfl,rfl,rfl,rfl,rfl,rfl,rfl,tv⟩ ⟨rfl,rfl,tv⟩ ⟨YA _,Zfr.nil⟩ ?_
 clear G;intro s a w F hC G
 obtain ⟨i,es,ck⟩:=s
 have hC:=X4
 obtain ⟨F,G⟩:=G.nM J3 KN
 have G:=X3
 obtain ⟨hi,hq⟩:=hC
 refine Ya (rZ G (qL r2) Z [23,22,21,20,6,5,4,1] KN fun G=>Ya ?_)
 refine Zb G rfl (fun hc0=>?_) (fun hc0=>?_)
 ·have hil:i<ids.length:=Wl
  refine Yf (Za (Ya (Yi (Ya (Zc G (qy 1 YbY r2 (qf (oR false 1 .t) r1 qz (qO rr qZ))) Z [22,21,20,8,6,5,4,1] KN rfl rfl fun a w F G=>?_)))))
  try simp only [Yg] at G
  refine Za (Zc G (qR rr (qR rr (qf (o_mapUpdateG (ek:=(fun c:Int=>PV.int .i64 c)) (v:=(1:Int)) 101 Ycf (ZaK Yb1) .is (Zw.intR .t rfl) qi) r2 r1 qZ))) Z J3 KN rfl rfl fun a w F G=>?_)
  obtain ⟨es2,hes2⟩:∃ z,z=(gPut (Nn ids i) 1 (es,ck)).1:=⟨_,rfl⟩
  obtain ⟨ck2,hck2⟩:∃ z,z=(gPut (Nn ids i) 1 (es,ck)).2:=⟨_,rfl⟩
  rw [← hes2,← hck2] at G
  have hA2:Zfr (ids.take (i+1)) es2:=by rw [hes2];exact hq.put hil
  refine Ze (Za (rZ G (qp r1 (qR rr qZ)) Z J3 KN fun G=>?_))
  replace G:=G.eI 22 i
  obtain ⟨F,G⟩:=G.nM [21,20,6,5,4,1,22] [0,101]
  exact ⟨((i+1),(es2),(ck2)),F,⟨ow,hA2⟩,G,ow⟩
 have hil:i=ids.length:=Wl
 have hA:Zfr ids es:=by rw [hil,YE] at hq;exact hq
 refine Yz (Zg (Zg (Zm (Za (Ya (rS G (qf (Z8 (ek:=(fun p:Value×List Int=>PV.is p.1)) (ok:=(fun n:Int=>inR .i64 n)) (kv:=(fun n:Int=>Value.int .i64 n)) 102) trivial qz (qO rr qZ)) Z [9,6,5,4,1] KP fun τ G=>?_))))))
 have G:=Xp
 generalize τ 29=v29 at G
 replace G:=G.fresh 60 rfl
 replace G:=G.turn 60 rfl (r':=ZnO []) (fun _ _ _ _ h=>h)
 obtain ⟨F,G⟩:=G.nM [9,6,5,4,1] Qp
 refine Za (Ya (Ya (rZ G (qR rr (qu Yb0 r1 (qJ qZ))) Z QD Qp fun G=>Yi ?_)))
 refine Zk (σ:=(Nat)×(List (GE Int Int))×(Nat)×(List (GE Int (Value×List Int)))×(Nat)) [4,5,6,9,30,31] [0] (fun s=>[(32,.pv (.int .i64 (s.1:Int)))]) (fun s=>[(101,.ob (.val v19) (ZsY s.2.1 s.2.2.1)),(102,.ob (.val v29) (Zpp s.2.2.2.1 s.2.2.2.2)),(60,ZnO s.2.2.2.1)]) (fun s=>s.1≤l.length∧(Zhw ids (l.take s.1) s.2.1 ∧ ∀ k,((gGet k s.2.2.2.1).getD ZaX).2.length≤s.1)) (fun s=>l.length - s.1) ((0),(es),(ck),([]),(0)) G ⟨rfl,rfl,rfl,rfl,rfl,rfl,rfl,tv⟩ ⟨rfl,rfl,rfl,rfl,tv⟩ ⟨YA _,⟨hA.all,fun k=>YF _⟩⟩ ?_
 clear G;intro s a w F hC G
 obtain ⟨j,e1,c1,fs,fk⟩:=s
 have hC:=X4
 obtain ⟨F,G⟩:=G.nM QD Qp
 have G:=X3
 obtain ⟨hi,hq⟩:=hC
 obtain ⟨hA1,hF1⟩:=hq
 refine Ya (rZ G (qL r2) Z [33,32,31,30,9,6,5,4] Qp fun G=>Ya ?_)
 refine Zb G rfl (fun hc1=>?_) (fun hc1=>?_)
 ·have hil:j<l.length:=WE
  have hFs:=hF1 (Nn l j).src
  have hv9:=hA1.val (Nn l j).dst
  have hc9:=ZtL ids l j (Nn l j).dst
  refine Yf (Za (Ya (Yi (Ya (rS G (qy 4 Yb0 r2 (qf (oR true 4 .t) r1 qz (qf (oH [.int .i64 0,.int .i64 0,.int .i64 0,.int .i64 0] 103) trivial qz (qS 4 103 r2 r1 qZ)))) Z Jj KZ fun τ G=>?_)))))
  have G:=Xm
  generalize τ 11=v11 at G
  try simp only [Yg] at G
  refine Za (Ya (rZ G (qR rr (qg 0 103 r1 r1 (qa 103 r1 r1 (qf (ZR (ek:=(fun c:Int=>PV.int .i64 c)) (z0:=(0:Int)) 101 Ycf (ZaK Yb1) kr (fun _ _=>⟨rfl,Zc5⟩) .is (Zw.intR .t rfl)) r2 r1 (qf (Zad .t qi) r1 qz (qR rr (qm rfl rfl rfl rfl (qv 1 103 rfl r2 r1 (qw 103 rfl r2 r1 (qk rfl (fun h=>ZR (ek:=(fun c:Int=>PV.int .i64 c)) (z0:=(0:Int)) 101 Ycf (ZaK Yb1) kr (fun _ _=>⟨rfl,Zc5⟩) (.w h .is) (Zw.intR (.w h) rfl)) r3 r1 (qk rfl (fun h=>Zad (.w h) qi) r2 qz (qf (ZC .t .t) r2 qz qZ)))))))))))) Z [47,32,31,30,11,9,6,5,4] KZ fun G=>?_))
  refine Zb G rfl (fun hc2=>?_) (fun hc2=>?_)
  ·have hy9:(Nn l j).src ∈ ids∧(Nn l j).dst ∈ ids:=by have h9:=hc2;rw [Yw,Yl,Yl,hA1.pos,hA1.pos] at h9;exact h9
   rw [Ye hy9.2] at hv9
   refine Ya (Zc G (qR rr (qg 1 103 r1 r1 (qa 103 r1 r1 (qf (ZR (ek:=(fun c:Int=>PV.int .i64 c)) (z0:=(0:Int)) 101 Ycf (ZaK Yb1) kr (fun _ _=>⟨rfl,Zc5⟩) .is (Zw.intR .t rfl)) r2 r1 (qp r1 (qf (o_mapUpdateG (ek:=(fun c:Int=>PV.int .i64 c)) (v:=(IntKind.wrap .i64 ((gGet (Nn l j).dst e1).getD 0+1))) 101 Ycf (ZaK Yb1) .is (Zw.intR .t rfl) .t) r3 r1 qZ)))))) Z Jj KZ rfl rfl fun a w F G=>?_)
   rw [wrap_i64 (x:=(gGet (Nn l j).dst e1).getD 0+1) ow] at G
   obtain ⟨e2,he2⟩:∃ z,z=(gPut (Nn l j).dst ((gGet (Nn l j).dst e1).getD 0+1) (e1,c1)).1:=⟨_,rfl⟩
   obtain ⟨c2,hc2⟩:∃ z,z=(gPut (Nn l j).dst ((gGet (Nn l j).dst e1).getD 0+1) (e1,c1)).2:=⟨_,rfl⟩
   rw [← he2,← hc2] at G
   have hA2:Zhw ids (l.take (j+1)) e2:=by rw [he2];exact hA1.inc hil hy9
   refine Za ?_
   obtain ⟨F,G⟩:=G.takeKey (T:=3) (sz:=1) (R:=Zq) 60 61 (Nn l j).src rfl rfl
   rw [show (gGet (Nn l j).src fs).getD ZaX=(((gGet (Nn l j).src fs).getD ZaX).1,((gGet (Nn l j).src fs).getD ZaX).2) from rfl] at G
   obtain ⟨F,G⟩:=G.nM Jj Qq
   have G:=X3
   refine rT G (qR rr (qg 0 103 r1 r1 (qa 103 r1 r1 (qR rr (qg 0 103 r1 r1 (qa 103 r1 r1 (qf (ZR (ek:=(fun p:Value×List Int=>PV.is p.1)) (z0:=ZaX) 102 Yce (ZaK Yb1) kr (fun _ _=>⟨rfl,rfl⟩) .is (Zw.intR .t rfl)) r2 r1 (qg 1 103 r1 r1 (qa 103 r1 r1 (qf (Zj (sz:=1) (zs:=[.int .i64 0]) (r:=[(0,.tmp 61)]) (l:=[_]) YbY kr kr kr kr rfl rfl (.one rfl .t one_int kr .nil) rfl) r1 qz (qf (o_append (sz:=1) (bs:=8) 61 (.mk' YbY kr kr) Wh .is (.arr (l':=[_]) .t) Ws XW) ⟨rfl,rfl,tv⟩ ⟨rfl,tv⟩ (qf (Zif (((gGet (Nn l j).src fs).getD ZaX).2 ++ [(Nn l j).dst]) 63 102 Yce (ZaK Yb1) .is (Zw.intR .t rfl)) r3 r1 qZ)))))))))))) Z QD Qq fun τ G=>?_
   have G:=Xm
   generalize τ 63=v63 at G
   obtain ⟨F,G⟩:=G.putKey (T:=3) (sz:=1) (R:=Zq) (v:=v63) (l:=(((gGet (Nn l j).src fs).getD ZaX).2 ++ [(Nn l j).dst])) 60 61 (Nn l j).src fk rfl rfl rfl
   replace G:=G.turn 102 rfl (r':=.ob (.val v29) (Zpp (gPut (Nn l j).src (v63,(((gGet (Nn l j).src fs).getD ZaX).2 ++ [(Nn l j).dst])) (fs,fk)).1 (gPut (Nn l j).src (v63,(((gGet (Nn l j).src fs).getD ZaX).2 ++ [(Nn l j).dst])) (fs,fk)).2)) (fun _ _ _ _ h=>h)
   obtain ⟨f2,hf2⟩:∃ z,z=(gPut (Nn l j).src (v63,(((gGet (Nn l j).src fs).getD ZaX).2 ++ [(Nn l j).dst])) (fs,fk)).1:=⟨_,rfl⟩
   obtain ⟨k2,hk2⟩:∃ z,z=(gPut (Nn l j).src (v63,(((gGet (Nn l j).src fs).getD ZaX).2 ++ [(Nn l j).dst])) (fs,fk)).2:=⟨_,rfl⟩
   rw [← hf2,← hk2] at G
   have hF2:∀ k,((gGet k f2).getD ZaX).2.length≤j+1:=by rw [hf2];exact Zr9 hF1 (by rw [Yc];exact Nat.succ_le_succ (hF1 _))
   obtain ⟨F,G⟩:=G.nM QD KZ
   refine Ze (Za (rZ G (qp r1 (qR rr qZ)) Z QD KZ fun G=>?_))
   replace G:=G.eI 32 j
   obtain ⟨F,G⟩:=G.nM [31,30,9,6,5,4,32] [0,60,102,101]
   exact ⟨((j+1),(e2),(c2),(f2),(k2)),F,⟨ow,⟨hA2,hF2⟩⟩,G,ow⟩
  have hn9:¬ ((Nn l j).src ∈ ids∧(Nn l j).dst ∈ ids):=fun h8=>by have h9:=hc2;rw [YL ((hA1.pos _).2 h8.1),YL ((hA1.pos _).2 h8.2)] at h9;cases h9
  refine Yf (Ze (Za (rZ G (qp r1 (qR rr qZ)) Z QD KZ fun G=>?_)))
  replace G:=G.eI 32 j
  obtain ⟨F,G⟩:=G.nM [31,30,9,6,5,4,32] [0,60,102,101]
  exact ⟨((j+1),(e1),(c1),(fs),(fk)),F,⟨ow,⟨hA1.skip hil hn9,fun k=>Nat.le_succ_of_le (hF1 k)⟩⟩,G,ow⟩
 have hil:j=l.length:=WE
 rw [hil,YE] at hA1
 have hemp:=hA1.empty
 have hel:=hA1.len
 refine Yz (Zg (Zg (Zm (Za (Ya (rS G (qf (oH [.slice none 0 0] 104) trivial qz qZ) Z Js JL fun τ G=>?_))))))
 try dsimp only [RS.sub,SF.sub,CF.sub,csub,Anc.sub,List.map,zCF,rTx,rOp,Zq,ZJ,ZK,Zr,ZE] at G
 generalize τ 12=v12 at G
 obtain ⟨b12,rfl⟩:=G.shape 104 rfl
 obtain ⟨F,G⟩:=G.nM Js JL
 replace G:=G.turn 104 rfl (r':=.pt (.val (.pointer (some ⟨b12,0,none⟩))) 145 [.pv (.sl Zq [])]) (fun _ _ _ _ h=>Zq4 h)
 obtain ⟨F,G⟩:=G.nM Js JL
 refine Za (Ya (Ya ?_))
 have hKI:=Zq0 G 101 rfl
 refine rS G (qR rr (qf (Zrm 101 105 Ycf .is) r1 r1 qZ)) Z JV KT fun τ G=>?_
 have G:=XH
 generalize τ 66=v66 at G
 refine Za (Yi (Zk (σ:=List Nat) [4,5,6,9,12,66] [0,60,101,102,104] (fun s=>[]) (fun s=>[(105,.ob (.val v66) (iterM v19 c1 s))]) (fun s=>True) (fun s=>ZvD s e1) ([]) G ⟨rfl,rfl,rfl,rfl,rfl,rfl,tv⟩ ⟨rfl,rfl,rfl,rfl,rfl,rfl,tv⟩ trivial ?_))
 clear G;intro seen a w F hC G
 have hC:=X4
 obtain ⟨F,G⟩:=G.nM JV KT
 have G:=X3
 refine Ya (rS G (qf (Ztc 105 101 .is) r1 r2 (qf (ZtP 105 XW) qz r1 qZ)) Z J4 KT fun τ G=>?_)
 have G:=XH
 generalize τ 67=v67 at G
 refine Za (Ya (Zb G rfl (fun hc3=>?_) (fun hc3=>?_)))
 ·obtain ⟨e,he,hns,G⟩:=G.nextTrue 105 rfl hc3
  obtain ⟨F,G⟩:=G.nM J4 KT
  refine Yf (Za (Yi (Ya (rZ G (qf (ZqJ (kp:=.int .i64 e.key) 105 101 he (hKI e he) .is) r1 r2 (qf (Zs .t rfl) r1 qz (qf (Zs .t rfl) r1 qz (qO rr (qO rr qZ))))) Z [66,14,13,12,9,6,5,4] KT fun G=>Ya ?_))))
  refine rZ G (qR rr (qf (o_eql .t qi) r1 qz qZ)) Z [73,66,13,12,9,6,5,4] KT fun G=>?_
  refine Zb G rfl (fun hc4=>?_) (fun hc4=>?_)
  ·exact absurd (by simpa using hc4) (hA1.late hn0 he)
  refine Yf (Ze (Za ?_))
  obtain ⟨F,G⟩:=G.nM JV [104,102,101,60,0,105]
  exact ⟨(seen ++ [e.born]),F,tv,G,Zuu hns he⟩
 obtain ⟨hall,G⟩:=G.nextFalse 105 rfl hc3
 obtain ⟨F,G⟩:=G.nM J4 KT
 refine Yz (Zg (Zg (Zm (Za (Ya ?_)))))
 have G:=G.turn 104 rfl (r':=RS.hp (Zid 145 [.pv (.sl Zq [])] (.pointer (some ⟨b12,0,none⟩)))) (fun τ w f y h=>Zg6 rfl τ w f y h)
 obtain ⟨F,G⟩:=G.nM J4 KT
 refine Zc G (qf (ZqK underlying147 .t) r1 qz (qf (o_callG1 104 (ZjU b12) func77 rfl kr (Args.one .t)) r1 r1 qZ)) Z Js KT rfl rfl fun a w F G=>?_
 have G:=G.turn 104 rfl (r':=.pt (.val (.pointer (some ⟨b12,0,none⟩))) 145 [.pv (.sl Zq [])]) (fun τ w f y h=>ZgS rfl τ w f y h)
 obtain ⟨F,G⟩:=G.nM Js KT
 refine Za (Ya (rZ G (qC qZ) Z [15,12,9,6,5,4] KT fun G=>(Ya (Yi ?_))))
 refine Zk (σ:=Unit) [4,5,6,9,12,15] [0,60,101,102,104,105] (fun s=>[]) (fun s=>[]) (fun s=>True) (fun s=>0) (()) G ⟨rfl,rfl,rfl,rfl,rfl,rfl,tv⟩ ⟨rfl,rfl,rfl,rfl,rfl,rfl,tv⟩ trivial ?_
 clear G;intro u a w F hC G
 have hC:=X4
 obtain ⟨F,G⟩:=G.nM [15,12,9,6,5,4] KT
 have G:=X3
 refine Ya (Ya (rZ G (qf (oL false 1 104 .is) r1 r1 (qf (oP (Zni []) func78 (Args.one .t)) r1 qz (qf (Zad .t qi) r1 qz qZ))) Z [82,15,12,9,6,5,4] KT fun G=>?_))
 refine Zb G rfl (fun hc5=>?_) (fun hc5=>?_)
 ·have h9:=hc5
  exact absurd h9 XW
 refine Yz (Zg (Zg (Zm (Za (Ya (Ya (rZ G (qR rr (qf (Zo2 YbY .t) r1 qz (qR rr (qf (ZgO 101 Ycf .is ow) r1 r1 (qL r2))))) Z [117,15,5,4] KT fun G=>?_)))))))
 refine Zb G rfl (fun hc6=>?_) (fun hc6=>?_)
 ·have hg:(16:Int)=if ids = [] then 0 else 16:=by rw [Yb];intro h8;have h9:=hc6;rw [hemp.2 h8] at h9;exact absurd h9 XW
  refine Ya (rZ G (qC (qI qZ)) Z [15,5,4] KT fun G=>(Yj (Zh ?_)))
  refine ZW hfr G rfl (.tmp rfl (.tmp rfl .nil)) (.two .nilSl (.int hg))
 have hg:(0:Int)=if ids = [] then 0 else 16:=by rw [Ye];refine hemp.1 (Nat.eq_zero_of_not_pos fun h8=>?_);have h9:=Yk hc6;omega
 refine Yf (Za (Ya (rZ G (qR rr (qO rr (qI qZ))) Z [5,4] KT fun G=>Yj ?_)))
 refine ZW hfr G rfl (.tmp rfl (.tmp rfl .nil)) (.two .nilSl (.int hg))
theorem Zii (g:Zl) (hsm:Zcj g) (hAR:(wwC PT1 g).length+(rdC PT1 g).length≤100000) (hg:ZA g) (hn0:∀ x ∈ Zae g,0<cntE (Zae g) (Z6 g) x):FnP prog 11 [.agg (Zr g)] (.tup [.sl Zq [],.int .i64 (if Zae g = [] then 0 else 16)]):=by
 refine FnP.mk func11 rfl ntmps11 rfl fun B a w F Z hfr G=>?_
 have hel:=Zg7 (A:=wwC PT1 g) (R:=rdC PT1 g)
 have hkl:=Zfe (Zgq (wwC PT1 g) (rdC PT1 g))
 have hal:(Zgq (wwC PT1 g) (rdC PT1 g)).length≤100000:=by unfold Zgq;rw [Yc,YJ];exact hAR
 have hpl:(Z6 g).length≤100000:=by unfold Z6;rw [YJ];omega
 refine Ya (rS G (qx 101 r1 (qC (qI qZ))) Z Qa KN fun τ G=>?_)
 have G:=X2
 generalize τ 1=v1 at G
 refine Za (Ya (Ya (rZ G (qe 2 101 r1 r1 (qf (oP (ZdL g hsm) func9 (Args.one (.pagg .t))) r1 qz (qf (o_not .t) r1 qz qZ))) Z [6,3,2,1] KN fun G=>?_)))
 refine Zb G rfl (fun hc0=>?_) (fun hc0=>?_)
 ·have h9:=hc0
  rw [YL hg] at h9
  cases h9
 refine Yf (Za (Ya (Zv G (qe 2 101 r1 r1 (qf (oP (Zkp g (by have:=hsm.1.1;omega)) func15 (Args.one (.pagg .t))) r1 qz (qe 2 101 r1 r1 (qf (oP (ZpF g hsm (Yaa hAR XW)) func35 (Args.one (.pagg .t))) r1 qz (qf (oP (Zog _ K0) func34 (Args.one .t)) r1 qz (qf (oP (Zrg (Zae g) (Z6 g) (by have h1:=Zil g;have:=hsm.1.1;omega) ow hn0) func33 (Args.two .t .t)) r2 qz (qf (Zs .t rfl) r1 qz (qf (Zs .t rfl) r1 qz (qO rr (qO rr qZ)))))))))) Z Q8 KN rfl rfl fun a w F G=>?_)))
 have G:=Xf
 refine Za (Yj (ZW hfr G rfl (.tmp rfl (.tmp rfl .nil)) (.two .refl (.int rfl))))
end Go.Proofs.YtolmpgbpdapaiaaGreat
