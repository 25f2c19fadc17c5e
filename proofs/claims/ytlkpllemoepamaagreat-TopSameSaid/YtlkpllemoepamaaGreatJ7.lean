/- Texts put together. No condition beyond those that each theorem says. -/
import Derived.Test.YtlkpllemoepamaaGreatJ6
import Derived.Test.YtlkpllemoepamaaGreatJ4
import Derived.Test.YtlkpllemoepamaaGreatJ5
import Derived.Test.YtlkpllemoepamaaGreatJ1
namespace Go.Proofs.YtlkpllemoepamaaGreat
open Go Go.Gm Tryz
set_option linter.unusedVariables false
set_option linter.unusedSimpArgs false
set_option maxHeartbeats 4000000
set_option maxRecDepth 8000
theorem ZoB {l:List Int} {tx place:Int} (h0:0≤ZZ tx l) (h1:ZZ tx l<place) (h2:place<l.length):(l.take (ZZ tx l).toNat++(l.take (place+1).toNat).drop (ZZ tx l+1).toNat++l.drop place.toNat).set place.toNat tx=(Zar l tx place).1:=by
 unfold Zar
 rw [Yc ow,Yc (by simp;omega)]
 have:=Zr2 (l:=l) (i:=(ZZ tx l).toNat) (p:=place.toNat) (x:=tx) ow ow
 rw [Yay ow] at this
 rw [show (place+1).toNat=place.toNat+1 by omega,show (ZZ tx l+1).toNat=(ZZ tx l).toNat+1 by omega,Yb0,show place.toNat+1 - ((ZZ tx l).toNat+1)=place.toNat - (ZZ tx l).toNat by omega,this]
theorem Zpb {l:List Int} {tx place:Int} (h0:0≤place) (h1:place≤ZZ tx l) (h2:ZZ tx l<l.length):(l.take (place+1).toNat++(l.take (ZZ tx l).toNat).drop place.toNat++l.drop (ZZ tx l+1).toNat).set place.toNat tx=(Zar l tx place).1:=by
 unfold Zar
 rw [Yc ow,Yc (by simp;omega)]
 have:=ZqI (l:=l) (i:=(ZZ tx l).toNat) (p:=place.toNat) (x:=tx) ow ow
 rw [Yay ow] at this
 rw [show (place+1).toNat=place.toNat+1 by omega,show (ZZ tx l+1).toNat=(ZZ tx l).toNat+1 by omega,Yb0,this]
theorem ZtG (l:List Int) (tx place:Int) (hl:l.length≤1000000):FnP prog 53 [.sl rInt l,.int .i64 tx,.int .i64 place] (.tup [.sl rInt (Zar l tx place).1,.int .i64 (Zar l tx place).2]):=by
 refine FnP.mk func53 rfl ntmps53 rfl fun B a w F V hfr G=>?_
 have hll:=Sat.lenSl G (i:=0) rfl
 have hxr:=ZgL tx l
 have hxw:IntKind.wrap .i64 (ZZ tx l+1)=ZZ tx l+1:=Zy ow
 refine Ya (rZ G (qC (qI qZ)) V [7,6,2,1,0] [0] fun G=>Ya ?_)
 refine rZ G (qR rr (qR rr (qf (oP (Zpi l tx) func39 (Args.two .t .t)) r2 qz (qO rr qZ)))) V [8,7,6,2,1,0] [0] fun G=>(Ya (Yg (Ya ?_)))
 refine rZ G (qR rr (qf (Zay .t qi) r1 qz (qO rr qZ))) V [13,8,7,6,2,1,0] [0] fun G=>?_
 refine Zc G rfl (fun hc0=>?_) (fun hc0=>?_)
 ·have hix:ZZ tx l<0:=by simpa using hc0
  have hm:Zar l tx place=([],3):=Yf hix
  refine Ya (rZ G (qC (qI qZ)) V [8,7,6,2,1,0] [0] fun G=>(Yh (Zu (Zk ?_))))
  refine Z2 hfr G rfl (.tmp rfl (.tmp rfl .nil)) (.two (.trans .nilSl (.sl (by first | (rw [hm];done) | exact hm1))) (.int (by first | (rw [hm];done) | exact hm2)))
 have hix:0≤ZZ tx l:=by simp at hc0;omega
 refine Ya (rZ G (qR rr (qf (Zay .t qi) r1 qz (qR rr (qm rfl rfl rfl rfl (qm rfl rfl rfl rfl (qk rfl (fun h=>ZcB underlying45 (.w h)) r2 qz (qk rfl (fun h=>Zbi (.w h) (.w h)) r3 qz (qf (Zam .t .t) r2 qz (qO rr qZ))))))))) V [16,8,7,6,2,1,0] [0] fun G=>?_)
 refine Zc G rfl (fun hc1=>?_) (fun hc1=>?_)
 ·have hpl:¬ (0≤place∧place<l.length):=by simp at hc1;omega
  have hm:Zar l tx place=([],1):=(Yc ow).trans (Yf hpl)
  refine Ya (rZ G (qC (qI qZ)) V [8,7,6,2,1,0] [0] fun G=>(Yh (Zu (Zk ?_))))
  refine Z2 hfr G rfl (.tmp rfl (.tmp rfl .nil)) (.two (.trans .nilSl (.sl (by first | (rw [hm];done) | exact hm1))) (.int (by first | (rw [hm];done) | exact hm2)))
 have hpl:0≤place∧place<l.length:=by simp at hc1;omega
 have hpw:IntKind.wrap .i64 (place+1)=place+1:=Zy ow
 have hm2:0=(Zar l tx place).2:=by unfold Zar;rw [Yc ow,Yc (by simp;omega)]
 refine Ye (Zj (Za (Ya ?_)))
 replace G:=G.fresh 101 rfl
 refine Zb G (qR rr (qf (Zav 101 (Zho l hl) func42 rfl kr (Args.one .t) pvOne1) r1 r1 (qO rr qZ))) V [9,8,7,6,2,1,0] [101,0] (fun _=>rfl) (fun _=>rfl) fun τ a w F G=>?_
 try dsimp only [RS.sub,SF.sub,CF.sub,csub,Anc.sub,List.map,rInt] at G
 generalize τ 26=v26 at G
 refine Za (Ya (Ya (rZ G (qR rr (qR rr (qL r2))) V [29,9,8,7,6,2,1,0] [101,0] fun G=>?_)))
 refine Zc G rfl (fun hc2=>?_) (fun hc2=>?_)
 ·have hip:ZZ tx l<place:=by simpa using hc2
  refine Zx G (qR rr (qR rr (qR rr (qf (Zll 101 (.mk underlying45 kr) .is .t .t (by first | omega | (rw [hxw,hpw];omega) | (rw [hpw];omega) | (rw [hxw];omega)) (by first | omega | (rw [hxw,hpw];omega) | (rw [hpw];omega) | (rw [hxw];omega)) (by first | omega | (rw [hxw,hpw];omega) | (rw [hpw];omega) | (rw [hxw];omega)) (by first | omega | (rw [hxw,hpw];omega) | (rw [hpw];omega) | (rw [hxw];omega))) r3 r1 (qR rr (qR rr (qp r1 (qR rr (qp r1 (qf (ZgD (sz:=1) (.mk underlying45 kr) (by intro x;rfl) .t .t .t (by first | omega | (rw [hxw,hpw];omega) | (rw [hpw];omega) | (rw [hxw];omega)) (by first | omega | (rw [hxw,hpw];omega) | (rw [hpw];omega) | (rw [hxw];omega)) (by first | omega | (rw [hxw,hpw];omega) | (rw [hpw];omega) | (rw [hxw];omega))) r3 qz (qf (o_copy_lh 101 underlying45 kr (by intro x;rfl) .t .t (by first | omega | (rw [hxw,hpw];omega) | (rw [hpw];omega) | (rw [hxw];omega)) (by first | omega | (rw [hxw,hpw];omega) | (rw [hpw];omega) | (rw [hxw];omega)) (by first | omega | (rw [hxw,hpw];omega) | (rw [hpw];omega) | (rw [hxw];omega)) (by simp only [hxw,hpw,Yj,YH];omega)) r2 r1 qZ))))))))))) V [9,7,6,2,1] [101,0] rfl rfl fun a w F G=>?_
  try dsimp only [rInt] at G
  rw [hxw,hpw] at G
  obtain ⟨l2,hl2⟩:∃ l2,l2=l.take (ZZ tx l).toNat++(l.take (place+1).toNat).drop (ZZ tx l+1).toNat++l.drop place.toNat:=⟨_,rfl⟩
  rw [← hl2] at G
  have hll2:l2.length=l.length:=by rw [hl2];simp only [Yd,Yj,YH];omega
  have hm1:l2.set place.toNat tx=(Zar l tx place).1:=by rw [hl2];exact ZoB ow hip ow
  refine Za (Ya (Zf G (qR rr (qR rr (qR rr (qf (o_indexAddr_row (sz:=1) 101 (.mk underlying45 kr) .is .t ow ow (by rfl)) r2 r1 (qf (ZF (R:=rInt) (sz:=1) (v:=tx) 101 .t (by intro x;rfl) ow .t rfl one_int kr) r2 r1 qZ))))) V [9,7,6] [101,0] rfl rfl fun a w F G=>?_))
  try simp only [Yb] at G
  refine Za (Ya (rZ G (qR rr (qO rr (qI qZ))) V [7,6] [101,0] fun G=>Yh ?_))
  obtain ⟨F,G⟩:=G.give 101 6 rfl rfl
  refine Z2 hfr G rfl (.tmp rfl (.tmp rfl .nil)) (.two (.sl (by first | (rw [hm];done) | exact hm1)) (.int (by first | (rw [hm];done) | exact hm2)))
 have hip:place≤ZZ tx l:=by simp at hc2;omega
 refine Zx G (qR rr (qR rr (qp r1 (qR rr (qp r1 (qf (Zll 101 (.mk underlying45 kr) .is .t .t (by first | omega | (rw [hxw,hpw];omega) | (rw [hpw];omega) | (rw [hxw];omega)) (by first | omega | (rw [hxw,hpw];omega) | (rw [hpw];omega) | (rw [hxw];omega)) (by first | omega | (rw [hxw,hpw];omega) | (rw [hpw];omega) | (rw [hxw];omega)) (by first | omega | (rw [hxw,hpw];omega) | (rw [hpw];omega) | (rw [hxw];omega))) r3 r1 (qR rr (qR rr (qR rr (qf (ZgD (sz:=1) (.mk underlying45 kr) (by intro x;rfl) .t .t .t (by first | omega | (rw [hxw,hpw];omega) | (rw [hpw];omega) | (rw [hxw];omega)) (by first | omega | (rw [hxw,hpw];omega) | (rw [hpw];omega) | (rw [hxw];omega)) (by first | omega | (rw [hxw,hpw];omega) | (rw [hpw];omega) | (rw [hxw];omega))) r3 qz (qf (o_copy_lh 101 underlying45 kr (by intro x;rfl) .t .t (by first | omega | (rw [hxw,hpw];omega) | (rw [hpw];omega) | (rw [hxw];omega)) (by first | omega | (rw [hxw,hpw];omega) | (rw [hpw];omega) | (rw [hxw];omega)) (by first | omega | (rw [hxw,hpw];omega) | (rw [hpw];omega) | (rw [hxw];omega)) (by simp only [hxw,hpw,Yj,YH];omega)) r2 r1 qZ))))))))))) V [9,7,6,2,1] [101,0] rfl rfl fun a w F G=>?_
 try dsimp only [rInt] at G
 rw [hxw,hpw] at G
 obtain ⟨l2,hl2⟩:∃ l2,l2=l.take (place+1).toNat++(l.take (ZZ tx l).toNat).drop place.toNat++l.drop (ZZ tx l+1).toNat:=⟨_,rfl⟩
 rw [← hl2] at G
 have hll2:l2.length=l.length:=by rw [hl2];simp only [Yd,Yj,YH];omega
 have hm1:l2.set place.toNat tx=(Zar l tx place).1:=by rw [hl2];exact Zpb ow hip ow
 refine Za (Ya (Zf G (qR rr (qR rr (qR rr (qf (o_indexAddr_row (sz:=1) 101 (.mk underlying45 kr) .is .t ow ow (by rfl)) r2 r1 (qf (ZF (R:=rInt) (sz:=1) (v:=tx) 101 .t (by intro x;rfl) ow .t rfl one_int kr) r2 r1 qZ))))) V [9,7,6] [101,0] rfl rfl fun a w F G=>?_))
 try simp only [Yb] at G
 refine Za (Ya (rZ G (qR rr (qO rr (qI qZ))) V [7,6] [101,0] fun G=>Yh ?_))
 obtain ⟨F,G⟩:=G.give 101 6 rfl rfl
 refine Z2 hfr G rfl (.tmp rfl (.tmp rfl .nil)) (.two (.sl (by first | (rw [hm];done) | exact hm1)) (.int (by first | (rw [hm];done) | exact hm2)))
def turnedH (g:Zt) (key:Int) (rule:List Int→List Int×Int):Zt×Int:=if ¬ ZQ g then (Zdf,5) else if isK OrdD.key key g.orders=false then (Zdf,3) else if (rule (Nn g.orders (lowK OrdD.key key g.orders)).txs).2≠0 then (Zdf,(rule (Nn g.orders (lowK OrdD.key key g.orders)).txs).2) else (⟨g.txs,g.orders.set (lowK OrdD.key key g.orders) ⟨(Nn g.orders (lowK OrdD.key key g.orders)).key,(rule (Nn g.orders (lowK OrdD.key key g.orders)).txs).1⟩⟩,0)
def moveH (g:Zt) (key id place:Int):Zt×Int:=turnedH g key fun l=>Zar l id place
theorem Zre (g : Zt) (key : Int) (rule : List Int → List Int × Int) (f : FuncId) (fn : Func) (cps : List PV) (hf : prog.funcs[f]? = some fn) (hb : fn.body.isSome = true) (hnn : (fn.name == "runtime.NumGoroutine") = false) (hw : ∀ l : List Int, l.length ≤ 1000 → FnP prog f (.sl rInt l :: cps) (.tup [.sl rInt (rule l).1, .int .i64 (rule l).2])) (hs : Zbc g) : FnP prog 51 [.agg (Zs g), .int .i64 key, .clos f cps] (.tup [.agg (Zs (turnedH g key rule).1), .int .i64 (turnedH g key rule).2]) := by
 refine FnP.mk func51 rfl ntmps51 rfl fun B a w F V hfr G=>?_
 have hso:=hs.2.1
 refine Ya (Zb G (qx 101 r1 (qf (oH [.slice none 0 0,.slice none 0 0] 102) trivial qz (qI qZ))) V [7,6,3,2,1] [102,101,0] (fun _=>rfl) (fun _=>rfl) fun τ a w F G=>?_)
 try dsimp only [RS.sub,SF.sub,CF.sub,csub,Anc.sub,List.map,zCF,Zs,rTx,ZP,ZS,rInt,rOp] at G
 generalize τ 3=v3 at G
 generalize τ 6=v6 at G
 refine Za (Ya (Ya (rZ G (qe 2 101 r1 r1 (qf (oP (ZeT g hs) func19 (Args.one (.pagg .t))) r1 qz (qf (o_not .t) r1 qz qZ))) V [15,7,6,3,2,1] [102,101,0] fun G=>?_)))
 refine Zc G rfl (fun hc0=>?_) (fun hc0=>?_)
 ·skip
  have hr:¬ ZQ g:=by simpa using hc0
  have hg:turnedH g key rule=(Zdf,5):=by unfold turnedH;rw [Yf hr]
  refine Ya (rZ G (qf (oB [] [.slice none 0 0,.slice none 0 0] [(0,1),(1,1)] .nil) trivial qz (qs 2 102 r2 r1 (qI qZ))) V [7,6,3,2,1] [102,101,0] fun G=>(Yh (Zk ?_)))
  refine Z2 hfr G rfl (.cl 102 true 2 rfl rfl (.tmp rfl .nil)) (.two (by rw [hg];first | exact .aggU rfl rfl | exact .aggLe rfl ⟨Zjx.nilSl,Zjx.nilSl,tv⟩) (.int (by rw [hg])))
 have hr:ZQ g:=by simpa using hc0
 have hrr:=Z7 hr
 refine Ye (Za (Ya (rZ G (qg 1 101 r1 r1 (qa 101 r1 r1 (qR rr (qf (oP (Zvo g.orders key ow hrr.2 98 f98 [] func98 rfl kr (fun x=>Zti x key)) func97 (Args.three .t .t (.conv .f (Ent.fnClos)))) r2 qz (qR rr (qf (Zh .t rfl) r1 qz (qf (Zh .t rfl) r1 qz (qO rr (qO rr qZ))))))))) V [9,8,7,6,3,2] [102,101,0] fun G=>(Ya (Ya ?_)))))
 refine rZ G (qR rr (qf (o_not .t) r1 qz qZ)) V [25,8,7,6,3,2] [102,101,0] fun G=>?_
 refine Zc G rfl (fun hc1=>?_) (fun hc1=>?_)
 ·skip
  have hik:isK OrdD.key key g.orders=false:=by simpa using hc1
  have hg:turnedH g key rule=(Zdf,3):=by unfold turnedH;rw [Yc (YaO.2 hr),Yf hik]
  refine Ya (rZ G (qf (oB [] [.slice none 0 0,.slice none 0 0] [(0,1),(1,1)] .nil) trivial qz (qs 2 102 r2 r1 (qI qZ))) V [8,7,6,3,2] [102,101,0] fun G=>(Yh (Zk ?_)))
  refine Z2 hfr G rfl (.cl 102 true 2 rfl rfl (.tmp rfl .nil)) (.two (by rw [hg];first | exact .aggU rfl rfl | exact .aggLe rfl ⟨Zjx.nilSl,Zjx.nilSl,tv⟩) (.int (by rw [hg])))
 have hik:isK OrdD.key key g.orders=true:=by simpa using hc1
 have hlk:=(Zfw hrr.2 hik).1
 have hnl:(Nn g.orders (lowK OrdD.key key g.orders)).txs.length≤1000:=hs.2.at hlk
 refine Ye (Za (Ya (Zf G (qR rr (qg 1 101 r1 r1 (qa 101 r1 r1 (qR rr (qy 2 underlying23 r2 (qf (oG 1 .t) r1 qz (qf (oR false 1 .t) r1 qz (qf (ZN (avs:=[.sl rInt (Nn g.orders (lowK OrdD.key key g.orders)).txs]) .t (hw (Nn g.orders (lowK OrdD.key key g.orders)).txs hnl) hf hb hnn (Args.one .t)) r2 qz (qR rr (qf (Zh .t rfl) r1 qz (qf (Zh .t rfl) r1 qz (qO rr (qO rr qZ))))))))))))) V [11,10,8,7,6,3] [102,101,0] rfl rfl fun a w F G=>?_)))
 try simp only [Yb] at G
 refine Za (Ya (Ya (rZ G (qR rr (qf (o_neq .t qi) r1 qz qZ)) V [39,11,10,8,7,6,3] [102,101,0] fun G=>?_)))
 refine Zc G rfl (fun hc2=>?_) (fun hc2=>?_)
 ·skip
  have hrl:(rule (Nn g.orders (lowK OrdD.key key g.orders)).txs).2≠0:=by simpa using hc2
  have hg:turnedH g key rule=(Zdf,(rule (Nn g.orders (lowK OrdD.key key g.orders)).txs).2):=by unfold turnedH;rw [Yc (YaO.2 hr),Yc (by rw [hik];simp),Yf hrl]
  refine Ya (rZ G (qf (oB [] [.slice none 0 0,.slice none 0 0] [(0,1),(1,1)] .nil) trivial qz (qR rr (qs 2 102 r2 r1 (qO rr qZ)))) V [10,8,7,6,3] [102,101,0] fun G=>(Yh (Zk ?_)))
  refine Z2 hfr G rfl (.cl 102 true 2 rfl rfl (.tmp rfl .nil)) (.two (by rw [hg];first | exact .aggU rfl rfl | exact .aggLe rfl ⟨Zjx.nilSl,Zjx.nilSl,tv⟩) (.int (by rw [hg])))
 have hg:turnedH g key rule=(⟨g.txs,g.orders.set (lowK OrdD.key key g.orders) (⟨(Nn g.orders (lowK OrdD.key key g.orders)).key,(rule (Nn g.orders (lowK OrdD.key key g.orders)).txs).1⟩:OrdD)⟩,0):=by unfold turnedH;rw [Yc (YaO.2 hr),Yc (by rw [hik];simp),Yc (by simpa using hc2)]
 refine Ye (Za (Ya ?_))
 replace G:=G.fresh 103 rfl
 refine Zb G (qe 2 101 r1 r1 (qf (Zro 103 (Zuc g hs) func60 rfl kr (Args.one (.pagg .t))) r1 r1 (qf (oH [.slice none 0 0,.slice none 0 0] 104) trivial qz (qf (oA 2 104 .same (.conv .t (Ent.fnAgg (.fn (.fn .nil))))) r2 r1 qZ)))) V [12,10,8,7,6] [104,103,102,101,0] (fun _=>rfl) (fun _=>rfl) fun τ a w F G=>?_
 try dsimp only [RS.sub,SF.sub,CF.sub,csub,Anc.sub,List.map,Ze,xL,xM,Nat.reduceAdd,xD,xE,xT,xU,xC,xN,zCF,ldSF,Zs,rTx,ZP,ZS,rInt,rOp] at G
 generalize τ 12=v12 at G
 generalize τ 43=v43 at G
 replace G:=G.turn 103 rfl (r':=RS.hp (HP.star [.ob (.val (cellN 0 v43)) (ZA 30 3 rTx g.txs),.ob (.val (cellN 1 v43)) (ZA 70 2 ZP g.orders)])) (fun _ _ _ _ h=>h)
 obtain ⟨F,G⟩:=G.peel 103 70 rfl rfl
 obtain ⟨F,G⟩:=G.peel 103 71 rfl rfl
 obtain ⟨F,G⟩:=G.nM [12,10,8,7,6] [104,102,101,71,70,0]
 generalize cellN 0 v43=va at G
 generalize cellN 1 v43=vb at G
 refine Za (Ya (Zf G (qg 1 104 r1 r1 (qa 104 r1 r1 (qR rr (qR rr (qf (o_indexAddr_row (sz:=2) 71 (.mk underlying23 kr) .is .t ow ow (by rfl)) r2 r1 (qf (o_fieldAddr_row (off:=1) (sz:=2) 71 .t ow kr (by rfl)) r1 r1 (qf (Zev (R:=ZP) (sz:=2) (off:=1) (v':=(⟨(Nn g.orders (lowK OrdD.key key g.orders)).key,(rule (Nn g.orders (lowK OrdD.key key g.orders)).txs).1⟩:OrdD)) 71 .t (by intro x;rfl) ow (by decide) .t one_sl rfl kr) r2 r1 qZ))))))) V [12,7,6] [104,102,101,71,70,0] rfl rfl fun a w F G=>?_))
 try simp only [Yb] at G
 refine Za (Ya ?_)
 obtain ⟨F,G⟩:=G.giveCell 70 104 0 rfl rfl rfl rfl rfl
 try dsimp only [List.set] at G
 obtain ⟨F,G⟩:=G.nM [12,7,6] [104,102,101,71,0]
 obtain ⟨F,G⟩:=G.giveCell 71 104 1 rfl rfl rfl rfl rfl
 try dsimp only [List.set] at G
 obtain ⟨F,G⟩:=G.nM [12,7,6] [104,102,101,0]
 refine rZ G (qe 2 104 r1 r1 (qs 2 102 r2 r1 (qI qZ))) V [7,6] [104,102,101,0] fun G=>Yh ?_
 refine Z2 hfr G rfl (.cl 102 true 2 rfl rfl (.tmp rfl .nil)) (.two (by rw [hg];first | exact .aggU rfl rfl | exact .aggLe rfl ⟨Zjx.nilSl,Zjx.nilSl,tv⟩) (.int (by rw [hg])))
theorem Zuj (l:List Int) (id place:Int) (hl:l.length≤1000):FnP prog 52 [.sl rInt l,.ref [.int .i64 id],.ref [.int .i64 place]] (.tup [.sl rInt (Zar l id place).1,.int .i64 (Zar l id place).2]):=by
 refine FnP.mk func52 rfl ntmps52 rfl fun B a w F V hfr G=>Ya ?_
 refine rZ G (qC (qI qZ)) V [5,4,2,1,0] [0] fun G=>Ya ?_
 refine rZ G (qR rr (qf (oR false 1 .t) r1 qz (qf (oR false 1 .t) r1 qz (qf (oP (ZtG l id place ow) func53 (Args.three .t .t .t)) r3 qz (qf (Zh .t rfl) r1 qz (qf (Zh .t rfl) r1 qz (qO rr (qO rr qZ)))))))) V [5,4] [0] fun G=>Yh ?_
 refine Z2 hfr G rfl (.tmp rfl (.tmp rfl .nil)) (.two .refl .refl)
theorem Zng (g:Zt) (key id place:Int) (hs:Zbc g):FnP prog 24 [.agg (Zs g),.int .i64 key,.int .i64 id,.int .i64 place] (.tup [.agg (Zs (moveH g key id place).1),.int .i64 (moveH g key id place).2]):=by
 refine FnP.mk func24 rfl ntmps24 rfl fun B a w F V hfr G=>Ya ?_
 refine Zb G (qx 101 r1 (qf (Zeu 102 .t one_int) r1 qz (qf (Zeu 103 .t one_int) r1 qz (qf (oH [.slice none 0 0,.slice none 0 0] 104) trivial qz (qI qZ))))) V [9,8,7,6,4,1] [104,103,102,101,0] (fun _=>rfl) (fun _=>rfl) fun τ a w F G=>?_
 try dsimp only [RS.sub,SF.sub,CF.sub,csub,Anc.sub,List.map,zCF,Zs,rTx,ZP,ZS,rInt,rOp] at G
 generalize τ 4=v4 at G
 generalize τ 6=v6 at G
 generalize τ 7=v7 at G
 generalize τ 8=v8 at G
 refine Za (Ya (Zad 2 G kr (cG rfl (oL true 2 101 .is) r1 r1 (cG rfl (oM .t) r1 trivial ChainN.nil)) kr (by rw [V];kernel_rfl) fun a w F G=>?_))
 obtain ⟨F,G⟩:=G.nM [11,10,9,8,7,6] [104,103,102,101,0]
 try dsimp only [List.map,xD,xE,xT,xU,ldSF,Zs,rTx,ZP,ZS,rInt,rOp] at G
 obtain ⟨F,G⟩:=G.giveRef 102 6 rfl rfl rfl
 obtain ⟨F,G⟩:=G.nM [11,10,9,8,7,6] [104,103,101,0]
 try dsimp only [Go.Gm.unCF] at G
 obtain ⟨F,G⟩:=G.giveRef 103 7 rfl rfl rfl
 obtain ⟨F,G⟩:=G.nM [11,10,9,8,7,6] [104,101,0]
 try dsimp only [Go.Gm.unCF] at G
 refine Zax G kr (cG rfl (ZaH (Args.two .t .t)) r2 trivial (cG rfl (oP (Zre g key (fun l=>Zar l id place) 52 f52 [.ref [.int .i64 id],.ref [.int .i64 place]] func52 rfl kr (fun l hl=>Zuj l id place hl) hs) func51 (Args.three (.pagg .t) .t .t)) r3 trivial (cG rfl (Zh .t rfl) r1 trivial (cG rfl (Zh .t rfl) r1 trivial (cG rfl (oA 2 104 .is (.conv .t .agg)) r2 r1 (cG rfl (oN .t) r1 trivial ChainN.nil)))))) kr (by rw [V];kernel_rfl) fun a w F G=>?_
 obtain ⟨F,G⟩:=G.nM [9,8] [104,101,0]
 try dsimp only [List.map,Ze,xL,xM,Nat.reduceAdd,xD,xE,xT,xU,xC,xN,zCF,Zs,rTx,ZP,ZS,rInt,rOp] at G
 refine Za (Yh (Z2 hfr G rfl (.cl 104 true 2 rfl rfl (.tmp rfl .nil)) (.two (.aggU rfl rfl) .refl)))
section
set_option linter.unusedSectionVars false
variable {α:Type} {κ:α→Int} {t x:α} {l out r:List α} {d:Bool}
def ZcI (κ:α→Int) (t:α):List α→Bool→List α
 | [],d=>if d=true then [] else [t]
 | x :: l,d=>(if d=false∧κ t≤κ x then [t] else [])++(if κ x=κ t then [] else [x])++ZcI κ t l (d || decide (κ t≤κ x))
theorem Zbt:∀ l:List α,ZcI κ t l true=l.filter fun x=>!decide (κ x=κ t)
 | []=>rfl
 | x :: l=>by
  rw [ZcI,Yc (by simp),Yad,Yb4,Zbt l]
  split
  ·rename_i h;rw [Yaw (by simpa using h)];rfl
  ·rename_i h;rw [Yar (by simpa using h)];rfl
theorem Ze2 {k:Int} (h:∀ x ∈ l,k<κ x):(l.filter fun x=>!decide (κ x=k))=l:=by
 rw [List.filter_eq_self]
 intro x hx
 have:=h x hx
 simp;omega
theorem ZiN {k:Int} : lowK κ k (x :: l)=if κ x<k then lowK κ k l+1 else 0:=by
 unfold lowK
 split
 ·rename_i h1;rw [List.takeWhile_cons_of_pos (by simpa using h1),Yl]
 ·rename_i h1;rw [List.takeWhile_cons_of_neg (by simpa using h1)];rfl
theorem Zhe {k:Int} : isK κ k (x :: l)=(decide (κ x=k) || isK κ k l):=by unfold isK;rw [YbZ]
theorem Zr3 {k:Int} (h:∀ x ∈ l,k<κ x):isK κ k l=false:=by
 unfold isK
 rw [List.any_eq_false]
 intro x hx
 have:=h x hx
 simp;omega
theorem ZoS (hs:l.Pairwise fun a b=>κ a<κ b) (hk:isK κ (κ t) l=false):ZcI κ t l false=l.take (lowK κ (κ t) l) ++ [t] ++ l.drop (lowK κ (κ t) l):=by
 induction l with
 | nil=>rfl
 | cons x l ih=>
  rw [Yp] at hs
  rw [Zhe,YbP,Yz] at hk
  rw [ZcI,Yc hk.1,ZiN]
  by_cases h:κ x<κ t
  ·rw [Yc ow,Yf h,show (false || decide (κ t≤κ x))=false by simp;omega,ih hs.2 hk.2];simp
  ·rw [Yf ⟨rfl,by omega⟩,Yc h,show (false || decide (κ t≤κ x))=true by simp;omega,Zbt,Ze2 fun y hy=>by have:=hs.1 y hy;omega];simp
theorem Znu (hs:l.Pairwise fun a b=>κ a<κ b) (hk:isK κ (κ t) l=true):ZcI κ t l false=l.set (lowK κ (κ t) l) t:=by
 induction l with
 | nil=>simp [isK] at hk
 | cons x l ih=>
  rw [Yp] at hs
  rw [ZcI,ZiN]
  by_cases h:κ x<κ t
  ·rw [Zhe,YC ow,YbO] at hk
   rw [Yc ow,Yc ow,Yf h,show (false || decide (κ t≤κ x))=false by simp;omega,ih hs.2 hk];rfl
  ·rw [Yf ⟨rfl,by omega⟩,Yc h,show (false || decide (κ t≤κ x))=true by simp;omega,Zbt,Ze2 fun y hy=>by have:=hs.1 y hy;omega]
   have hx:κ x=κ t:=by
    refine Ya5 fun h9=>?_
    rw [Zhe,YC h9,YbO,Zr3 fun y hy=>by have:=hs.1 y hy;omega] at hk
    cases hk
   rw [Yf hx];rfl
theorem ZiM {y:α} (h:y ∈ ZcI κ t l d):(y=t∧d=false)∨(y ∈ l∧κ y≠κ t):=by
 induction l generalizing d with
 | nil=>cases d <;> simp [ZcI] at h;exact .inl ⟨h,rfl⟩
 | cons x l ih=>
  rw [ZcI,YE,YE] at h
  rcases h with (h | h) | h
  ·split at h
   ·rename_i h1;exact .inl ⟨by simpa using h,h1.1⟩
   ·cases h
  ·split at h
   ·cases h
   ·rename_i h1
    have e:y=x:=by simpa using h
    subst e
    exact .inr ⟨by simp,h1⟩
  ·rcases ih h with ⟨h1,h2⟩ | ⟨h1,h2⟩
   ·rw [YbP] at h2;exact .inl ⟨h1,h2.1⟩
   ·exact .inr ⟨by simp [h1],h2⟩
theorem Zg6 (hs:l.Pairwise fun a b=>κ a<κ b):(ZcI κ t l d).Pairwise fun a b=>κ a<κ b:=by
 induction l generalizing d with
 | nil=>cases d <;> simp [ZcI]
 | cons x l ih=>
  rw [Yp] at hs
  have hf:=hs.2.filter fun x=>!decide (κ x=κ t)
  rw [ZcI]
  by_cases hA:d=false∧κ t≤κ x
  ·rw [Yf hA,show (d || decide (κ t≤κ x))=true by simp [hA.2],Zbt]
   have h1:∀ y ∈ l.filter (fun x=>!decide (κ x=κ t)),κ x<κ y:=fun y hy=>hs.1 y (Y4.1 hy).1
   split
   ·rw [YP,Yap,Yp]
    exact ⟨fun y hy=>by have:=h1 y hy;omega,hf⟩
   ·rename_i h2
    rw [YJ,Yap,Yap,Yp,Yp]
    refine ⟨fun y hy=>?_,h1,hf⟩
    rcases Yi.1 hy with rfl | hy
    ·omega
    ·have:=h1 y hy;omega
  ·rw [Yc hA,Yad]
   have ih2:=ih (d:=d || decide (κ t≤κ x)) hs.2
   split
   ·simpa using ih2
   ·rename_i h2
    rw [Yap,Yp]
    refine ⟨fun y hy=>?_,ih2⟩
    rcases ZiM hy with ⟨rfl,h3⟩ | ⟨h3,_⟩
    ·rw [YbP] at h3
     have:=YG h3.2
     omega
    ·exact hs.1 y h3
end
def getO (os:List OrdD) (k:Int):List Int:=((os.find? fun o=>decide (o.key=k)).map OrdD.txs).getD []
theorem ZaF {o:OrdD} {os:List OrdD} {k:Int} : getO (o :: os) k=if o.key=k then o.txs else getO os k:=by
 unfold getO
 rw [List.find?_cons]
 by_cases h:o.key=k <;> simp [h]
theorem Zjd {os:List OrdD} {k:Int} (h:∀ o ∈ os,o.key≠k):getO os k = []:=by
 unfold getO
 rw [YbH.2 fun o ho=>by simpa using h o ho];rfl
theorem ZbS {os:List OrdD} {o:OrdD} (hs:os.Pairwise fun a b=>a.key<b.key) (h:o ∈ os):getO os o.key=o.txs:=by
 induction os with
 | nil=>cases h
 | cons x os ih=>
  rw [Yp] at hs
  rw [ZaF]
  rcases Yi.1 h with rfl | h
  ·rw [Yf rfl]
  ·have:=hs.1 o h
   rw [Yc ow,ih hs.2 h]
theorem Zej {os:List OrdD} {k:Int} (h:getO os k≠[]):(⟨k,getO os k⟩:OrdD) ∈ os:=by
 induction os with
 | nil=>exact absurd rfl h
 | cons x os ih=>
  rw [ZaF] at h ⊢
  by_cases e:x.key=k
  ·rw [Yf e];subst e;simp
  ·rw [Yc e] at h ⊢;simp [ih h]
def NE (os:List OrdD):Prop:=∀ o ∈ os,o.txs≠[]
theorem Znp:∀ {a b:List OrdD},(a.Pairwise fun x y=>x.key<y.key)→(b.Pairwise fun x y=>x.key<y.key)→(∀ o,o ∈ a ↔ o ∈ b)→a=b
 | [],[],_,_,_=>rfl
 | [],y :: b,_,_,h=>by have:=(h y).2 (by simp);cases this
 | x :: a,[],_,_,h=>by have:=(h x).1 (by simp);cases this
 | x :: a,y :: b,ha,hb,h=>by
  rw [Yp] at ha hb
  have e:x=y:=by
   rcases Yi.1 ((h x).1 (by simp)) with e | h1
   ·exact e
   ·rcases Yi.1 ((h y).2 (by simp)) with e | h2
    ·exact e.symm
    ·have:=ha.1 y h2;have:=hb.1 x h1;omega
  subst e
  rw [Znp (a:=a) (b:=b) ha.2 hb.2 fun o=>?_]
  constructor
  ·intro ho
   rcases Yi.1 ((h o).1 (by simp [ho])) with e | h1
   ·have:=ha.1 o ho;rw [e] at this;omega
   ·exact h1
  ·intro ho
   rcases Yi.1 ((h o).2 (by simp [ho])) with e | h1
   ·have:=hb.1 o ho;rw [e] at this;omega
   ·exact h1
theorem ZsF {a b:List OrdD} (ha:a.Pairwise fun x y=>x.key<y.key) (hb:b.Pairwise fun x y=>x.key<y.key) (na:NE a) (nb:NE b) (h:∀ k,getO a k=getO b k):a=b:=by
 refine Znp ha hb fun o=>⟨fun ho=>?_,fun ho=>?_⟩
 ·have h1:=ZbS ha ho
  have h2:getO b o.key≠[]:=by rw [← h,h1];exact na o ho
  have h3:=Zej h2
  rw [← h,h1] at h3;exact h3
 ·have h1:=ZbS hb ho
  have h2:getO a o.key≠[]:=by rw [h,h1];exact nb o ho
  have h3:=Zej h2
  rw [h,h1] at h3;exact h3
theorem Zs9 {os:List OrdD} {k:Int} (h:isK OrdD.key k os=false):getO os k = []:=by
 refine Zjd fun o ho e=>?_
 unfold isK at h
 rw [List.any_eq_false] at h
 exact h o ho (by simpa using e)
theorem Zkj {o:OrdD} {os:List OrdD} {d:Bool} (hs:os.Pairwise fun a b=>a.key<b.key) (k:Int):getO (ZcI OrdD.key o os d) k=if k=o.key then (if d=true then [] else o.txs) else getO os k:=by
 have hf:∀ os:List OrdD,getO (os.filter fun x=>!decide (x.key=o.key)) k=if k=o.key then [] else getO os k:=by
  intro os
  induction os with
  | nil=>split <;> rfl
  | cons x os ih=>
   by_cases e:x.key=o.key
   ·rw [Yaw (by simpa using e),ih,ZaF]
    split
    ·rfl
    ·rename_i h;rw [Yc ow]
   ·rw [Yar (by simpa using e),ZaF,ZaF,ih]
    split
    ·rename_i h;rw [Yc ow]
    ·rfl
 cases d with
 | true=>rw [Zbt,hf];simp
 | false=>
  simp only [Ya8,Yo]
  induction os with
  | nil=>
   show getO [o] k=_
   rw [ZaF]
   by_cases e:o.key=k
   ·rw [Yf e,Yf e.symm]
   ·rw [Yc e,Yc fun h=>e h.symm]
  | cons x os ih=>
   rw [Yp] at hs
   rw [ZcI]
   by_cases hA:o.key≤x.key
   ·rw [Yf ⟨rfl,hA⟩,show (false || decide (o.key≤x.key))=true by simp [hA],Zbt,YJ,Yap,ZaF]
    by_cases e:o.key=k
    ·rw [Yf e,Yf e.symm]
    ·have e':¬ k=o.key:=fun h=>e h.symm
     rw [Yc e,Yc e',ZaF]
     by_cases e2:x.key=o.key
     ·rw [Yf e2,Yad,hf,Yc e',Yc (show ¬ x.key=k by omega)]
     ·rw [Yc e2,Yap,ZaF,hf,Yc e']
   ·rw [Yc fun h=>hA h.2,Yc ow,Yad,Yap,show (false || decide (o.key≤x.key))=false by simp;omega,ZaF,ZaF,ih hs.2]
    split
    ·rename_i h;rw [Yc ow]
    ·rfl
theorem Zug {os:List OrdD} {k:Int} {i:Nat} (hi:i<os.length) (h:(Nn os i).key=k) (hq:∀ q,q<i→(Nn os q).key≠k):getO os k=(Nn os i).txs:=by
 unfold getO
 rw [List.find?_eq_some_iff_getElem.2 ⟨by simpa using h,i,hi,(nth_eq hi).symm,fun j hj=>by have:=hq j hj;rw [nth_eq ow] at this;simpa using this⟩];rfl
theorem Zt9 {os:List OrdD} {k:Int} (hq:∀ q,q<os.length→(Nn os q).key≠k):getO os k = []:=Zjd fun o ho=>by
 obtain ⟨j,hj,e⟩:=Yaf ho
 have:=hq j hj
 rwa [nth_eq hj,e] at this
theorem Zkm {l:List Z5} {e:Z5} (h:Zgc ZaT l) (hk:isK ZaT (ZaT e) l=false):Zgc ZaT (insE l e)∧(∀ s,s ∈ insE l e ↔ s ∈ l∨s=e)∧(insE l e).length=l.length+1:=by
 have hm:∀ s,s ∈ insE l e ↔ s ∈ l∨s=e:=fun s=>by
  unfold insE
  rw [YE,YE,Yk]
  constructor
  ·rintro ((h1 | h1) | h1)
   ·exact .inl (YaS h1)
   ·exact .inr h1
   ·exact .inl (List.mem_of_mem_drop h1)
  ·rintro (h1 | h1)
   ·rw [← Yas (lowK ZaT (ZaT e) l) l,YE] at h1
    rcases h1 with h1 | h1
    ·exact .inl (.inl h1)
    ·exact .inr h1
   ·exact .inl (.inr h1)
 refine ⟨?_,hm,?_⟩
 ·unfold insE
  rw [← ZoS (ZY.1 h) hk]
  exact ZY.2 (Zg6 (ZY.1 h))
 ·have:=Zpn (κ:=ZaT) (k:=ZaT e) l
  unfold insE
  simp only [Yd,Yj,YH,YK]
  omega
def Zsb (L:List (List Z5)) (m:Nat):Prop:=∀ l ∈ L,l.length≤m∧Zgc ZaT l ∧ ∀ e ∈ l,okE e
theorem Zsb.r {L:List (List Z5)} {m:Nat} (h:Zsb L m) (hm:m≤1000000):Zvi L:=fun l hl=>⟨Y5 (h l hl).1 hm,(h l hl).2⟩
theorem Zsb.set {L:List (List Z5)} {m k:Nat} {e:Z5} (h:Zsb L m) (hk:k<L.length) (he:okE e) (hn:isK ZaT (ZaT e) (Nn L k)=false):Zsb (L.set k (insE (Nn L k) e)) (m+1):=fun l hl=>by
 rcases List.mem_or_eq_of_mem_set hl with h1 | rfl
 ·exact ⟨Nat.le_succ_of_le (h l h1).1,(h l h1).2⟩
 ·obtain ⟨a1,a2,a3⟩:=h _ (nth_mem hk)
  obtain ⟨b1,b2,b3⟩:=Zkm a2 hn
  exact ⟨by omega,b1,fun s hs=>((b2 s).1 hs).elim (a3 s) fun h9=>h9 ▸ he⟩
theorem Zoz {l:List Z5} {e:Z5} (hl:∀ s ∈ l,okE s) (he:okE e):isK ZaT (ZaT e) l=true ↔ e ∈ l:=by
 unfold isK
 rw [YaV]
 constructor
 ·rintro ⟨s,h1,h2⟩;exact keyE_inj (hl s h1) he (Yt h2) ▸ h1
 ·exact fun h=>⟨e,h,Yab rfl⟩
structure ZbF (n:Nat) (E:List Zw) (O I:List (List Z5)):Prop where
 ol:O.length=n
 il:I.length=n
 on:Zsb O E.length
 inn:Zsb I E.length
 ok:∀ x ∈ E,ZaD n x=true
 om:∀ u:Nat,u<n → ∀ e,e ∈ Nn O u ↔ ∃ x ∈ E,x.src=(u:Int)∧endO x=e
 im:∀ u:Nat,u<n → ∀ e,e ∈ Nn I u ↔ ∃ x ∈ E,x.dst=(u:Int)∧endI x=e
theorem ZbF.outK {n:Nat} {E:List Zw} {O I:List (List Z5)} {x:Zw} (h:ZbF n E O I) (hn:n≤4096) (hx:ZaD n x=true):isK ZaT (ZaT (endO x)) (Nn O x.src.toNat)=true ↔ x ∈ E:=by
 obtain ⟨⟨s1,s2⟩,⟨d1,d2⟩,_⟩:=ZM.1 hx
 have hu:x.src.toNat<n:=by omega
 rw [Zoz (h.on _ (nth_mem (by rw [h.ol];exact hu))).2.2 (endO_ok hx hn),h.om _ hu]
 constructor
 ·rintro ⟨y,y1,y2,y3⟩
  have e:y=x:=by
   cases y;cases x
   simp only [endO,Z5.mk.injEq] at y3
   simp only at y2 s1
   obtain ⟨a,b,c⟩:=y3
   rw [Yay s1] at y2
   subst a;subst b;subst c;subst y2;rfl
  exact e ▸ y1
 ·exact fun k=>⟨x,k,by rw [Yay s1],rfl⟩
theorem ZbF.has {n:Nat} {E:List Zw} {O I:List (List Z5)} {x:Zw} (h:ZbF n E O I) (hn:n≤4096):ZpM O x=true ↔ ZaD n x=true∧x ∈ E:=by
 unfold ZpM
 rw [h.ol,Yx]
 exact ⟨fun k=>⟨k.1,(h.outK hn k.1).1 k.2⟩,fun k=>⟨k.1,(h.outK hn k.1).2 k.2⟩⟩
theorem ZbF.inK {n:Nat} {E:List Zw} {O I:List (List Z5)} {x:Zw} (h:ZbF n E O I) (hn:n≤4096) (hx:ZaD n x=true):isK ZaT (ZaT (endI x)) (Nn I x.dst.toNat)=true ↔ x ∈ E:=by
 obtain ⟨⟨s1,s2⟩,⟨d1,d2⟩,_⟩:=ZM.1 hx
 have hu:x.dst.toNat<n:=by omega
 rw [Zoz (h.inn _ (nth_mem (by rw [h.il];exact hu))).2.2 (endI_ok hx hn),h.im _ hu]
 constructor
 ·rintro ⟨y,y1,y2,y3⟩
  have e:y=x:=by
   cases y;cases x
   simp only [endI,Z5.mk.injEq] at y3
   simp only at y2 d1
   obtain ⟨a,b,c⟩:=y3
   rw [Yay d1] at y2
   subst a;subst b;subst c;subst y2;rfl
  exact e ▸ y1
 ·exact fun k=>⟨x,k,by rw [Yay d1],rfl⟩
theorem Zlf {n:Nat} {E:List Zw} {L:List (List Z5)} {x:Zw} {f:Zw→Int} {g:Zw→Z5} (hl:L.length=n) (hm:∀ u:Nat,u<n → ∀ e,e ∈ Nn L u ↔ ∃ x ∈ E,f x=(u:Int)∧g x=e) (h0:0≤f x) (hr:Zgc ZaT (Nn L (f x).toNat)) (hk:isK ZaT (ZaT (g x)) (Nn L (f x).toNat)=false) :
  ∀ u:Nat,u<n → ∀ e,e ∈ Nn (L.set (f x).toNat (insE (Nn L (f x).toNat) (g x))) u ↔ ∃ y ∈ E ++ [x],f y=(u:Int)∧g y=e:=fun u hu e=>by
 rw [Zvs ow]
 have hex:(∃ y ∈ E ++ [x],f y=(u:Int)∧g y=e) ↔ (∃ y ∈ E,f y=(u:Int)∧g y=e)∨(f x=(u:Int)∧g x=e):=by
  constructor
  ·rintro ⟨y,y1,y2⟩
   rcases YE.1 y1 with y1 | y1
   ·exact .inl ⟨y,y1,y2⟩
   ·rw [Yk.1 y1] at y2;exact .inr y2
  ·rintro (⟨y,y1,y2⟩ | k)
   ·exact ⟨y,Yag _ y1,y2⟩
   ·exact ⟨x,by simp,k⟩
 rw [hex]
 by_cases hc:(f x).toNat=u
 ·rw [Yf hc,(Zkm hr hk).2.1,hc,hm u hu]
  constructor
  ·rintro (k | k)
   ·exact .inl k
   ·exact .inr ⟨by omega,k.symm⟩
  ·rintro (k | k)
   ·exact .inl k
   ·exact .inr k.2.symm
 ·rw [Yc hc,hm u hu]
  exact ⟨.inl,fun k=>k.elim id fun k=>absurd ow hc⟩
theorem ZbF.add {n:Nat} {E:List Zw} {O I:List (List Z5)} {x:Zw} (h:ZbF n E O I) (hn:n≤4096) (hx:ZaD n x=true) (hne:x ∉ E):ZbF n (E ++ [x]) (O.set x.src.toNat (insE (Nn O x.src.toNat) (endO x))) (I.set x.dst.toNat (insE (Nn I x.dst.toNat) (endI x))):=by
 have ko:=Bool.eq_false_iff.2 (fun k=>hne ((h.outK hn hx).1 k))
 have ki:=Bool.eq_false_iff.2 (fun k=>hne ((h.inK hn hx).1 k))
 obtain ⟨⟨s1,s2⟩,⟨d1,d2⟩,_⟩:=ZM.1 hx
 have hl:=h.ol
 have hl2:=h.il
 have so:x.src.toNat<O.length:=by omega
 have si:x.dst.toNat<I.length:=by omega
 refine ⟨by simp [hl],by simp [hl2],?_,?_,fun y hy=>?_,?_,?_⟩
 ·rw [Yd];exact h.on.set so (endO_ok hx hn) ko
 ·rw [Yd];exact h.inn.set si (endI_ok hx hn) ki
 ·rcases YE.1 hy with hy | hy
  ·exact h.ok y hy
  ·rw [Yk.1 hy];exact hx
 ·exact Zlf (f:=Zw.src) (g:=endO) hl h.om s1 (h.on _ (nth_mem so)).2.1 ko
 ·exact Zlf (f:=Zw.dst) (g:=endI) hl2 h.im d1 (h.inn _ (nth_mem si)).2.1 ki
theorem ZbF.next {n:Nat} {E:List Zw} {O I:List (List Z5)} (h:ZbF n E O I) (mask u:Int):Zdg (adjO O mask u) ∧ ∀ v,v ∈ adjO O mask u ↔ ∃ x ∈ E,x.src=u∧ofB mask x.kind=true∧x.dst=v:=by
 by_cases hu:0≤u∧u<O.length
 ·unfold adjO
  rw [Yf hu]
  refine ⟨(ZR _).1,fun v=>?_⟩
  rw [(ZR _).2,Yu]
  constructor
  ·rintro ⟨e,h1,h2⟩
   obtain ⟨h3,h4⟩:=Y4.1 h1
   obtain ⟨x,x1,x2,rfl⟩:=(h.om u.toNat (by have:=h.ol;omega) e).1 h3
   exact ⟨x,x1,by omega,h4,h2⟩
  ·rintro ⟨x,x1,x2,x3,x4⟩
   exact ⟨endO x,Y4.2 ⟨(h.om u.toNat (by have:=h.ol;omega) _).2 ⟨x,x1,by omega,rfl⟩,x3⟩,x4⟩
 ·unfold adjO
  rw [Yc hu]
  refine ⟨List.Pairwise.nil,fun v=>⟨fun k=>(by cases k),?_⟩⟩
  rintro ⟨x,x1,x2,_⟩
  have:=(ZM.1 (h.ok x x1)).1
  have:=h.ol
  exact absurd ⟨by omega,by omega⟩ hu
def ZiG (n:Nat) (E:List Zw) (x:Zw):List Zw:=if ZaD n x=true∧x ∉ E then E ++ [x] else E
theorem Zrc {n:Nat} {E:List Zw} {x y:Zw} : y ∈ ZiG n E x ↔ y ∈ E∨(y=x∧ZaD n y=true):=by
 unfold ZiG
 split
 ·rename_i h
  rw [YE,Yk]
  exact ⟨fun k=>k.elim .inl fun e=>.inr ⟨e,e ▸ h.1⟩,fun k=>k.elim .inl fun e=>.inr e.1⟩
 ·rename_i h
  refine ⟨.inl,fun k=>k.elim id fun ⟨e,hr⟩=>?_⟩
  subst e
  exact Ybt fun hx=>h ⟨hr,hx⟩
theorem ZhY {n:Nat} : ∀ {L E:List Zw} {y:Zw},y ∈ L.foldl (ZiG n) E ↔ y ∈ E∨(y ∈ L∧ZaD n y=true)
 | [],E,y=>by simp
 | x :: L,E,y=>by
  rw [YaE,ZhY,Zrc,Yi]
  constructor
  ·rintro ((h | ⟨h,k⟩) | ⟨h,k⟩)
   ·exact .inl h
   ·exact .inr ⟨.inl h,k⟩
   ·exact .inr ⟨.inr h,k⟩
  ·rintro (h | ⟨h | h,k⟩)
   ·exact .inl (.inl h)
   ·exact .inl (.inr ⟨h,k⟩)
   ·exact .inr ⟨h,k⟩
theorem Zno {n:Nat} (E:List Zw) (x:Zw):(ZiG n E x).length≤E.length+1:=by
 unfold ZiG;split <;> simp
theorem ZdS {n:Nat} : ∀ (L E:List Zw),(L.foldl (ZiG n) E).length≤E.length+L.length
 | [],E=>YO _
 | x :: L,E=>by
  have h1:=ZdS (n:=n) L (ZiG n E x)
  have h2:=Zno (n:=n) E x
  rw [YaE,Yl];omega
theorem ZbF.new (n:Nat):ZbF n [] (List.replicate n []) (List.replicate n []):=by
 have hn:∀ u:Nat,u<n→Nn (List.replicate n ([]:List Z5)) u = []:=fun u hu=>by
  rw [nth_eq (by simpa using hu)];simp
 have hd:Zsb (List.replicate n []) ([]:List Zw).length:=fun l hl=>by
  rw [(List.mem_replicate.1 hl).2];exact ⟨YO _,ZY.2 .nil,fun e h=>by cases h⟩
 exact ⟨by simp,by simp,hd,hd,(fun x h=>by cases h),(fun u hu e=>by rw [hn u hu];simp),(fun u hu e=>by rw [hn u hu];simp)⟩
theorem ZbF.step {n:Nat} {E:List Zw} {O I:List (List Z5)} (h:ZbF n E O I) (hn:n≤4096) (x:Zw) (m:Nat):ZbF n (ZiG n E x) (ZeA O I m x).1 (ZeA O I m x).2.1∧(ZeA O I m x).2.2.1≤m+1:=by
 unfold ZeA ZiG
 rw [h.ol]
 by_cases hr:ZaD n x=true
 ·rw [Yf hr]
  by_cases hx:x ∈ E
  ·rw [Yf ((h.has hn).2 ⟨hr,hx⟩),Yc (fun k=>k.2 hx)];exact ⟨h,Nat.le_succ _⟩
  ·rw [Yc (fun k=>hx ((h.has hn).1 k).2),Yf ⟨hr,hx⟩];exact ⟨h.add hn hr hx,YO _⟩
 ·rw [Yc hr,Yc (fun k=>hr k.1)];exact ⟨h,Nat.le_succ _⟩
theorem Zpw (l:List Zg) (hl:l.length≤1000000):FnG prog 124 1 [.sl Zp l] [.star []] (PV.one) (fun v=>[ZA 42 4 Zp l v]):=by
 refine FnG.mk func124 rfl ntmps124 rfl kr fun B F0 a w F V hG G=>?_
 obtain ⟨F,G⟩:=G.nM [0] [0]
 refine Ya (rZ G (qC qZ) V [2,0] [0] fun G=>(Ya (Ya ?_)))
 refine Zf G (qR rr (qf (Zby underlying31 .t) r1 qz qZ)) V [4,2,0] [0] rfl rfl fun a w F G=>?_
 obtain ⟨β4,hβ4,G⟩:=G.pickBool 4 rfl
 obtain ⟨F,G⟩:=G.nM [4,2,0] [0]
 refine Za (Zc G rfl (fun hc0=>?_) (fun hc0=>?_))
 ·have hg:l = []:=hβ4 hc0
  refine Ya (rZ G (qC qZ) V [2,0] [0] fun G=>(Yh (Zk ?_)))
  have G:=G.fresh 1 rfl
  have G:=G.turn 1 rfl (ZaA (T:=42) (sz:=4) (R:=Zp))
  have G:=G.turn 1 rfl (r':=RS.hp (ZA 42 4 Zp l (.slice none 0 0))) (fun _ _ _ _ h=>by rw [hg];exact h)
  refine Z8 (h':=fun v=>ZA 42 4 Zp l v) hG G rfl (.tmp rfl .nil) (.one .one) rfl
 have hg:l = [] ++ l:=rfl
 refine Ye (Za (Ya (Zb G (qf (ZaW (R:=Zp) (sz:=4) 101 underlying31 kr) trivial qz (qR rr (qf (ZW (sz:=4) (bs:=32) 101 (.mk' underlying31 kr kr) (by intro x;rfl) .same (.sl .t) (by simp only [Yd,Yy];omega) (by decide)) ⟨rfl,rfl,tv⟩ ⟨rfl,tv⟩ (qO rr qZ)))) V [2] [101,0] (fun _=>rfl) (fun _=>rfl) fun τ a w F G=>?_)))
 try dsimp only [RS.sub,SF.sub,CF.sub,csub,Anc.sub,List.map,Ze,xL,xM,Nat.reduceAdd,xD,xE,xT,xU,xC,xN,zCF,Zp] at G
 generalize τ 7=v7 at G
 refine Za (Yh ?_)
 obtain ⟨F,G⟩:=G.rename 101 1 rfl rfl
 have G:=G.turn 1 rfl (r':=RS.hp (ZA 42 4 Zp l v7)) (fun _ _ _ _ h=>by rw [hg];exact h)
 refine Z8 (h':=fun v=>ZA 42 4 Zp l v) hG G rfl (.tmp rfl .nil) (.one .one) rfl
theorem ZjO (v:Value) (l:List Zg) (hll:l.length≤1000000):FnG prog 175 1 [.is v] [ZA 42 4 Zp l v] (PV.one) (fun v=>[ZA 42 4 Zp (Zq l) v]):=by
 refine FnG.mk func175 rfl ntmps175 rfl kr fun B F0 a w F V hG G=>?_
 replace G:=G.turn 1 rfl (r':=.ob (.val v) (ZA 42 4 Zp l)) (fun _ _ _ _ h=>h)
 refine Ya (rZ G (qC qZ) V [2,0] [1,0] fun G=>(Ya (Ya ?_)))
 refine rZ G (qR rr (qf (Z1 1 underlying31 .is) r1 r1 (qf (Zay .t qi) r1 qz qZ))) V [8,2,0] [1,0] fun G=>?_
 refine Zc G rfl (fun hc0=>?_) (fun hc0=>?_)
 ·have hg:(Zq l)=l:=ZbK (by simp at hc0;omega)
  refine Ya (rZ G (qR rr (qO rr qZ)) V [2,0] [1,0] fun G=>(Yh (Zk ?_)))
  have G:=G.turn 1 rfl (r':=RS.hp (ZA 42 4 Zp (Zq l) v)) (fun _ _ _ _ h=>by rw [hg];exact h)
  refine Z8 (h':=fun v=>ZA 42 4 Zp (Zq l) v) hG G rfl (.tmp rfl .nil) (.one .one) rfl
 have hl2:2≤l.length:=by simp at hc0;omega
 refine Ye (Za (Ya (Ya (rZ G (qI qZ) V [3,2,0] [1,0] fun G=>Yg ?_))))
 refine Zl (σ:=Nat) [0,2] [0,1] (fun s=>[(3,.pv (.int .i64 (s:Int)))]) (fun s=>[]) (fun s=>1≤s∧s≤l.length∧Zq (l.take s)=l.take s) (fun s=>l.length - s) (1) G ⟨rfl,rfl,rfl,tv⟩ ⟨rfl,rfl,tv⟩ ⟨by omega,by omega,ZbK (by rw [Yj];omega)⟩ ?_
 clear G;intro k a w F hC G
 try dsimp only at hC
 obtain ⟨F,G⟩:=G.nM [3,2,0] [1,0]
 try dsimp only at G
 obtain ⟨hk1,hkl,hkc⟩:=hC
 have hkw:IntKind.wrap .i64 ((k:Int) - 1)=(k:Int) - 1:=Zy ow
 refine Ya (Ya (rZ G (qR rr (qR rr (qf (Z1 1 underlying31 .is) r1 r1 (qL r2)))) V [13,3,2,0] [1,0] fun G=>?_))
 refine Zc G rfl (fun hc1=>?_) (fun hc1=>?_)
 ·have hil:k<l.length:=by simp at hc1;omega
  have hst:=Zbo (l:=l) hk1 hil
  have hy0:(IntKind.wrap .i64 ((k:Int) - 1)).toNat=k - 1:=by rw [hkw];omega
  refine Ye (Za (Ya (Yg (Ya (Zx G (qR rr (qR rr (qf (o_indexAddr_row (sz:=4) 1 (.mk underlying31 kr) .is .t ow ow (by rfl)) r2 r1 (qf (Zv (ag:=true) (sz':=4) (sz:=4) 1 .t (by intro x;rfl) ow kr kr kr) r1 r1 (qR rr (qR rr (qf (o_sub .t qi) r1 qz (qf (o_indexAddr_row (sz:=4) 1 (.mk underlying31 kr) .is .t (by rw [hkw];omega) (by rw [hkw];omega) (by rfl)) r2 r1 (qf (Zv (ag:=true) (sz':=4) (sz:=4) 1 .t (by intro x;rfl) (by rw [hkw];omega) kr kr kr) r1 r1 (qf (o_eqlS (ks:=[true,true,true,true]) kr .t .t (.int (.int (.int (.int .nil))))) r2 qz qZ)))))))))) V [25,3,2,0] [1,0] rfl rfl fun a w F G=>?_)))))
  try dsimp only [List.map,xD,xE,xT,xU,ldSF,Zp] at G
  try simp only [Yb] at G
  refine Za (Zc G rfl (fun hc2=>?_) (fun hc2=>?_))
  ·have heq:Nn l (k - 1)=Nn l k:=by rw [hy0] at hc2;simp only [Zu5] at hc2;simp at hc2;exact hc2.symm
   rw [Yf heq,hkc] at hst
   have hst0:=hst.symm
   refine Ya (rZ G (qR rr (qR rr (qf (ZaV (sz:=4) 1 (.mk underlying31 kr) .is .t ow ow) r2 r1 (qO rr qZ)))) V [4,3,2,0] [1,0] fun G=>(Ya (Ya ?_)))
   refine rZ G (qI qZ) V [5,4,3,2,0] [1,0] fun G=>Yg ?_
   have hC0:1≤1∧1≤l.length - k∧k≤k∧k≤k+1 - 1∧l.length=l.length∧l.take k=Zq (l.take (k+1)) ∧ ∀ q,k+1 - 1≤q→q<l.length→Nn l q=Nn l q:=⟨by omega,by omega,by omega,by omega,rfl,hst0,fun q _ _=>rfl⟩
   refine Zl (σ:=Nat×Nat×List Zg) [0,2,4] [0] (fun s=>[(3,.pv (.int .i64 (s.1:Int))),(5,.pv (.int .i64 (s.2.1:Int)))]) (fun s=>[(1,.ob (.val v) (ZA 42 4 Zp s.2.2))]) (fun s=>1≤s.2.1∧s.2.1≤l.length - k∧k≤s.1∧s.1≤k+s.2.1 - 1∧s.2.2.length=l.length∧s.2.2.take s.1=Zq (l.take (k+s.2.1)) ∧ ∀ q,k+s.2.1 - 1≤q→q<l.length→Nn s.2.2 q=Nn l q) (fun s=>l.length - s.2.1) ((k),(1),(l)) G ⟨rfl,rfl,rfl,rfl,rfl,tv⟩ ⟨rfl,rfl,tv⟩ hC0 ?_
   clear G;intro s a w F hC G
   obtain ⟨k1,j,l1⟩:=s
   try dsimp only at hC
   obtain ⟨F,G⟩:=G.nM [5,4,3,2,0] [1,0]
   try dsimp only at G
   obtain ⟨hj1,hjk,hkk,hkj,hl1,htk,hrest⟩:=hC
   have hjw:IntKind.wrap .i64 ((j:Int) - 1)=(j:Int) - 1:=Zy ow
   refine Ya (Ya (rZ G (qR rr (qR rr (qf (ZiW 1 underlying31 .t ow) r1 r1 (qL r2)))) V [32,5,4,3,2,0] [1,0] fun G=>?_))
   refine Zc G rfl (fun hc3=>?_) (fun hc3=>?_)
   ·have hjl:k+j<l.length:=by simp at hc3;omega
    have hx1:(Nn l1 (((k:Int)).toNat+((j:Int)).toNat))=Nn l (k+j):=by rw [Yb,Yb];exact hrest _ ow hjl
    have hx0:Nn l1 (((k:Int)).toNat+(IntKind.wrap .i64 ((j:Int) - 1)).toNat)=Nn l (k+j - 1):=by rw [hjw,show ((k:Int)).toNat+((j:Int) - 1).toNat=k+j - 1 by omega];exact hrest _ ow ow
    have hstp:=Zbo (l:=l) (p:=k+j) ow hjl
    refine Ye (Za (Ya (Yg (Ya (Zx G (qR rr (qR rr (qf (o_indexAddr_sub (sz:=4) 1 (.mk underlying31 kr) .t .t ow ow (by rfl)) r2 r1 (qf (Zv (ag:=true) (sz':=4) (sz:=4) 1 .t (by intro x;rfl) ow kr kr kr) r1 r1 (qR rr (qR rr (qf (o_sub .t qi) r1 qz (qf (o_indexAddr_sub (sz:=4) 1 (.mk underlying31 kr) .t .t (by rw [hjw];omega) (by rw [hjw];omega) (by rfl)) r2 r1 (qf (Zv (ag:=true) (sz':=4) (sz:=4) 1 .t (by intro x;rfl) (by rw [hjw];omega) kr kr kr) r1 r1 (qf (o_neqS (ks:=[true,true,true,true]) kr .t .t (.int (.int (.int (.int .nil))))) r2 qz qZ)))))))))) V [44,5,4,3,2,0] [1,0] rfl rfl fun a w F G=>?_)))))
    try dsimp only [List.map,xD,xE,xT,xU,ldSF,Zp] at G
    try simp only [Yb] at G
    refine Za (Zc G rfl (fun hc4=>?_) (fun hc4=>?_))
    ·have hne:¬ Nn l (k+j - 1)=Nn l (k+j):=by rw [← hx1,← hx0];simp only [Zu5] at hc4;simp at hc4 ⊢;exact fun e=>hc4 e.symm
     rw [Yc hne] at hstp
     obtain ⟨i2,hi2e⟩:∃ i2,i2=k1+1:=⟨_,rfl⟩
     have hi2:IntKind.wrap .i64 ((k1:Int)+1)=(i2:Int):=by rw [hi2e];exact Zd ow
     obtain ⟨l2,hl2e⟩:∃ l2,l2=l1.set k1 (Nn l1 (k+j)):=⟨_,rfl⟩
     have hx1b:Nn l1 (k+j)=Nn l (k+j):=hrest _ ow hjl
     have hC2:1≤j+1∧j+1≤l.length - k∧k≤i2∧i2≤k+(j+1) - 1∧l2.length=l.length∧l2.take i2=Zq (l.take (k+(j+1))) ∧ ∀ q,k+(j+1) - 1≤q→q<l.length→Nn l2 q=Nn l q:=⟨by omega,by omega,by omega,by omega,by rw [hl2e,YT];exact hl1,by rw [hl2e,hi2e,Zr (by rw [YT];omega),List.take_set_of_le (YO _),htk,nth_eq (by rw [YT];omega),YbK,hx1b];exact hstp.symm,fun q hq hq2=>by rw [hl2e,nth_eq (by rw [YT];omega),List.getElem_set_ne ow,← nth_eq ow];exact hrest q ow hq2⟩
     refine Ya (Zf G (qR rr (qR rr (qR rr (qR rr (qf (o_indexAddr_sub (sz:=4) 1 (.mk underlying31 kr) .t .t ow ow (by rfl)) r2 r1 (qf (Zv (ag:=true) (sz':=4) (sz:=4) 1 .t (by intro x;rfl) ow kr kr kr) r1 r1 (qf (o_indexAddr_row (sz:=4) 1 (.mk underlying31 kr) .is .t ow ow (by rfl)) r2 r1 (qf (ZeY (sz:=4) 1 .t (by intro x;rfl) ow (.conv .t (Ent.aggU (l:=Zp (Nn l1 (((k:Int)).toNat+((j:Int)).toNat))) rfl rfl)) kr) r2 r1 qZ)))))))) V [5,4,3,2,0] [1,0] rfl rfl fun a w F G=>?_)
     try simp only [Yb] at G
     rw [← hl2e] at G
     refine Za (Zf G (qR rr (qp r1 (qO rr qZ))) V [5,4,3,2,0] [1,0] rfl rfl fun a w F G=>Zj (Za ?_))
     refine rZ G (qR rr (qp r1 (qO rr qZ))) V [5,4,3,2,0] [1,0] fun G=>?_
     have hmu:l.length - (j+1)<l.length - j:=by omega
     replace G:=G.ent (i:=3) (s':=.pv (.int .i64 (i2:Int))) rfl (.int hi2)
     replace G:=G.ent (i:=5) (s':=.pv (.int .i64 ((j+1:Nat):Int))) rfl (.int (Zd ow))
     obtain ⟨F,G⟩:=G.nM [4,2,0,5,3] [0,1]
     exact ⟨((i2),(j+1),(l2)),F,hC2,G,hmu⟩
    have heq2:Nn l (k+j - 1)=Nn l (k+j):=by rw [← hx1,← hx0];simp only [Zu5] at hc4;simp at hc4 ⊢;exact hc4.symm
    rw [Yf heq2] at hstp
    obtain ⟨i2,hi2e⟩:∃ i2,i2=k1:=⟨_,rfl⟩
    have hi2:(k1:Int)=(i2:Int):=by rw [hi2e]
    obtain ⟨l2,hl2e⟩:∃ l2,l2=l1:=⟨_,rfl⟩
    rw [← hl2e] at G
    have hC2:1≤j+1∧j+1≤l.length - k∧k≤i2∧i2≤k+(j+1) - 1∧l2.length=l.length∧l2.take i2=Zq (l.take (k+(j+1))) ∧ ∀ q,k+(j+1) - 1≤q→q<l.length→Nn l2 q=Nn l q:=⟨by omega,by omega,by omega,by omega,by rw [hl2e];exact hl1,by rw [hl2e,hi2e,htk];exact hstp.symm,fun q hq hq2=>by rw [hl2e];exact hrest q ow hq2⟩
    refine Ye (Zj (Za (rZ G (qR rr (qp r1 (qO rr qZ))) V [5,4,3,2,0] [1,0] fun G=>?_)))
    have hmu:l.length - (j+1)<l.length - j:=by omega
    replace G:=G.ent (i:=3) (s':=.pv (.int .i64 (i2:Int))) rfl (.int hi2)
    replace G:=G.ent (i:=5) (s':=.pv (.int .i64 ((j+1:Nat):Int))) rfl (.int (Zd ow))
    obtain ⟨F,G⟩:=G.nM [4,2,0,5,3] [0,1]
    exact ⟨((i2),(j+1),(l2)),F,hC2,G,hmu⟩
   have hjl:k+j=l.length:=by simp at hc3;omega
   have hg:(Zq l)=(l1.take k1++List.replicate (l1.length - k1) noE).take k1:=by rw [Y0 (by rw [Yj];omega),YaM,Yb3,htk,hjl,YD]
   refine Yw (Zi (Zi (Zn (Za (Ya (rZ G (qR rr (qR rr (qf (ZaV (sz:=4) 1 (.mk underlying31 kr) .is .t ow ow) r2 r1 (qf (Zdp (R:=Zp) (z:=noE) (zs:=[.int .i64 0,.int .i64 0,.int .i64 0,.int .i64 0]) 1 underlying31 kr rfl rfl ZrI (by intro x;rfl) .t (by simp;omega)) r1 r1 qZ)))) V [3,2,0] [1,0] fun G=>Ya ?_))))))
   refine Zb G (qR rr (qR rr (qf (ZcV (sz:=4) 1 (.mk underlying31 kr) (by intro x;rfl) .is .t ow (by simp;omega)) r2 r1 (qO rr qZ)))) V [3,2,0] [1,0] (fun _=>rfl) (fun _=>rfl) fun τ a w F G=>?_
   try dsimp only [RS.sub,SF.sub,CF.sub,csub,Anc.sub,List.map,Zp] at G
   generalize τ 59=v59 at G
   refine Za (Yh (Zu (Zk (Zk (Zu (Zk ?_))))))
   have G:=G.turn 1 rfl (r':=RS.hp (ZA 42 4 Zp (Zq l) v59)) (fun _ _ _ _ h=>by rw [hg];exact h)
   refine Z8 (h':=fun v=>ZA 42 4 Zp (Zq l) v) hG G rfl (.tmp rfl .nil) (.one .one) rfl
  have hne:¬ Nn l (k - 1)=Nn l k:=by rw [hy0] at hc2;simp only [Zu5] at hc2;simp at hc2;exact fun e=>hc2 e.symm
  rw [Yc hne] at hst
  refine Ye (Zj (Za (rZ G (qR rr (qp r1 (qO rr qZ))) V [3,2,0] [1,0] fun G=>?_)))
  replace G:=G.ent (i:=3) (s':=.pv (.int .i64 ((k+1:Nat):Int))) rfl (.int (Zd ow))
  obtain ⟨F,G⟩:=G.nM [2,0,3] [1,0]
  exact ⟨(k+1),F,⟨by omega,by omega,by rw [hst,hkc,← Zr hil]⟩,G,by omega⟩
 have hg:(Zq l)=l:=by rw [show k=l.length by simp at hc1;omega,YD] at hkc;exact hkc
 refine Yw (Zi (Zi (Zn (Za (Ya (rZ G (qR rr (qO rr qZ)) V [2] [1,0] fun G=>Yh ?_))))))
 have G:=G.turn 1 rfl (r':=RS.hp (ZA 42 4 Zp (Zq l) v)) (fun _ _ _ _ h=>by rw [hg];exact h)
 refine Z8 (h':=fun v=>ZA 42 4 Zp (Zq l) v) hG G rfl (.tmp rfl .nil) (.one .one) rfl
end Go.Proofs.YtlkpllemoepamaaGreat
