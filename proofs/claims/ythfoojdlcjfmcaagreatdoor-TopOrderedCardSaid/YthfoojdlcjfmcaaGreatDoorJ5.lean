/- Laws and walks. No condition beyond what each says. -/
import Derived.Test.YthfoojdlcjfmcaaGreatDoorJ4
namespace Go.Proofs.YthfoojdlcjfmcaaGreatDoor
open Go Go.Gm Tryz
set_option linter.unusedVariables false
set_option linter.unusedSimpArgs false
set_option maxHeartbeats 4000000
set_option maxRecDepth 8000
theorem Zlp {l:List Int} {tx place:Int} (h0:0≤ZaR tx l) (h1:ZaR tx l<place) (h2:place<l.length):(l.take (ZaR tx l).toNat++(l.take (place+1).toNat).drop (ZaR tx l+1).toNat++l.drop place.toNat).set place.toNat tx=(Z8 l tx place).1:=by
 unfold Z8
 rw [Yb ow,Yb (by simp;omega)]
 have:=Zmw (l:=l) (i:=(ZaR tx l).toNat) (p:=place.toNat) (x:=tx) ow ow
 rw [Yac ow] at this
 rw [show (place+1).toNat=place.toNat+1 by omega,show (ZaR tx l+1).toNat=(ZaR tx l).toNat+1 by omega,Ybr,show place.toNat+1 - ((ZaR tx l).toNat+1)=place.toNat - (ZaR tx l).toNat by omega,this]
theorem Zkp {l:List Int} {tx place:Int} (h0:0≤place) (h1:place≤ZaR tx l) (h2:ZaR tx l<l.length):(l.take (place+1).toNat++(l.take (ZaR tx l).toNat).drop place.toNat++l.drop (ZaR tx l+1).toNat).set place.toNat tx=(Z8 l tx place).1:=by
 unfold Z8
 rw [Yb ow,Yb (by simp;omega)]
 have:=Zmr (l:=l) (i:=(ZaR tx l).toNat) (p:=place.toNat) (x:=tx) ow ow
 rw [Yac ow] at this
 rw [show (place+1).toNat=place.toNat+1 by omega,show (ZaR tx l+1).toNat=(ZaR tx l).toNat+1 by omega,Ybr,this]
theorem Zj3 (l:List Int) (tx place:Int):(Z8 l tx place).1.length≤l.length:=by
 unfold Z8
 split
 ·simp
 ·split
  ·simp
  ·rename_i h1 h2
   have hr:=Zfa tx l
   have h3:(l.eraseIdx (ZaR tx l).toNat).length=l.length - 1:=by rw [List.length_eraseIdx,Ye ow]
   show (ZjT _ _ _).length≤_
   unfold ZjT
   split
   ·rw [Yd,Yv,Yf,Yt];omega
   ·omega
theorem Zfk {now to:List Int} {x:Int} {i:Nat} (h:Nn now i=x):ZI now i (x :: to)=ZI now ((i+1:Nat):Int) to:=by
 rw [ZI,Yc,Ye h,Int.natCast_add];rfl
theorem ZhI {now to:List Int} {x:Int} {i:Nat} (h:¬ Nn now i=x):ZI now i (x :: to) = ⟨x,i⟩ :: ZI (Z8 now x i).1 ((i+1:Nat):Int) to:=by
 rw [ZI,Yc,Yb h,Int.natCast_add];rfl
theorem Zlf (l:List Int) (tx place:Int) (hl:l.length≤1000000):FnP prog 29 [.sl rInt l,.int .i64 tx,.int .i64 place] (.tup [.sl rInt (Z8 l tx place).1,.int .i64 (Z8 l tx place).2]):=by
 refine FnP.mk func29 O ntmps29 O fun B a w F J hfr G=>?_
 have hll:=Sat.lenSl G (i:=0) rfl
 have hxr:=Zfa tx l
 have hxw:IntKind.wrap .i64 (ZaR tx l+1)=ZaR tx l+1:=ZN ow
 refine Ya (rZ G (qC (qI qZ)) J [7,6,2,1,0] [0] fun G=>Ya ?_)
 refine rZ G (qR rr (qR rr (qf (oP (Zk7 l tx) func58 (Args.two .t .t)) r2 qz (qO rr qZ)))) J [8,7,6,2,1,0] [0] fun G=>(Ya (Yj (Ya ?_)))
 refine rZ G (qR rr (qf (Zcz .t qi) r1 qz (qO rr qZ))) J [13,8,7,6,2,1,0] [0] fun G=>?_
 refine Zc G O (fun hc0=>?_) (fun hc0=>?_)
 ·have hix:ZaR tx l<0:=by simpa using hc0
  have hm:Z8 l tx place=([],3):=Ye hix
  refine Ya (rZ G (qC (qI qZ)) J [8,7,6,2,1,0] [0] fun G=>(Yg (Zl (Ze ?_))))
  refine ZK hfr G O (.tmp O (.tmp O .nil)) (.two (.trans .nilSl (.sl (by first | (rw [hm];done) | exact hm1))) (.int (by first | (rw [hm];done) | exact hm2)))
 have hix:0≤ZaR tx l:=by simp at hc0;omega
 refine Ya (rZ G (qR rr (qf (Zcz .t qi) r1 qz (qR rr (qm O O O O (qm O O O O (qk O (fun h=>Zbz Ybz (.w h)) r2 qz (qk O (fun h=>ZeT (.w h) (.w h)) r3 qz (qf (ZaM .t .t) r2 qz (qO rr qZ))))))))) J [16,8,7,6,2,1,0] [0] fun G=>?_)
 refine Zc G O (fun hc1=>?_) (fun hc1=>?_)
 ·have hpl:¬ (0≤place∧place<l.length):=by simp at hc1;omega
  have hm:Z8 l tx place=([],1):=(Yb ow).trans (Ye hpl)
  refine Ya (rZ G (qC (qI qZ)) J [8,7,6,2,1,0] [0] fun G=>(Yg (Zl (Ze ?_))))
  refine ZK hfr G O (.tmp O (.tmp O .nil)) (.two (.trans .nilSl (.sl (by first | (rw [hm];done) | exact hm1))) (.int (by first | (rw [hm];done) | exact hm2)))
 have hpl:0≤place∧place<l.length:=by simp at hc1;omega
 have hpw:IntKind.wrap .i64 (place+1)=place+1:=ZN ow
 have hm2:0=(Z8 l tx place).2:=by unfold Z8;rw [Yb ow,Yb (by simp;omega)]
 refine Yi (Zk (Za (Ya ?_)))
 replace G:=G.fresh 101 rfl
 refine Zb G (qR rr (qf (ZbW 101 (Zce l hl) func22 O kr (Args.one .t) Zbh) r1 r1 (qO rr qZ))) J [9,8,7,6,2,1,0] [101,0] (fun _=>rfl) (fun _=>rfl) fun τ a w F G=>?_
 try dsimp only [RS.sub,SF.sub,CF.sub,csub,Anc.sub,List.map,rInt] at G
 generalize τ 26=v26 at G
 refine Za (Ya (Ya (rZ G (qR rr (qR rr (qL r2))) J [29,9,8,7,6,2,1,0] [101,0] fun G=>?_)))
 refine Zc G O (fun hc2=>?_) (fun hc2=>?_)
 ·have hip:ZaR tx l<place:=by simpa using hc2
  refine ZO G (qR rr (qR rr (qR rr (qf (ZiJ 101 (.mk Ybz kr) .is .t .t (by first | omega | (rw [hxw,hpw];omega) | (rw [hpw];omega) | (rw [hxw];omega)) (by first | omega | (rw [hxw,hpw];omega) | (rw [hpw];omega) | (rw [hxw];omega)) (by first | omega | (rw [hxw,hpw];omega) | (rw [hpw];omega) | (rw [hxw];omega)) (by first | omega | (rw [hxw,hpw];omega) | (rw [hpw];omega) | (rw [hxw];omega))) r3 r1 (qR rr (qR rr (qp r1 (qR rr (qp r1 (qf (ZfC (sz:=1) (.mk Ybz kr) (by intro x;rfl) .t .t .t (by first | omega | (rw [hxw,hpw];omega) | (rw [hpw];omega) | (rw [hxw];omega)) (by first | omega | (rw [hxw,hpw];omega) | (rw [hpw];omega) | (rw [hxw];omega)) (by first | omega | (rw [hxw,hpw];omega) | (rw [hpw];omega) | (rw [hxw];omega))) r3 qz (qf (o_copy_lh 101 Ybz kr (by intro x;rfl) .t .t (by first | omega | (rw [hxw,hpw];omega) | (rw [hpw];omega) | (rw [hxw];omega)) (by first | omega | (rw [hxw,hpw];omega) | (rw [hpw];omega) | (rw [hxw];omega)) (by first | omega | (rw [hxw,hpw];omega) | (rw [hpw];omega) | (rw [hxw];omega)) (by simp only [hxw,hpw,Yf,Yt];omega)) r2 r1 qZ))))))))))) J [9,7,6,2,1] [101,0] O O fun a w F G=>?_
  try dsimp only [rInt] at G
  rw [hxw,hpw] at G
  obtain ⟨l2,hl2⟩:∃ l2,l2=l.take (ZaR tx l).toNat++(l.take (place+1).toNat).drop (ZaR tx l+1).toNat++l.drop place.toNat:=⟨_,rfl⟩
  rw [← hl2] at G
  have hll2:l2.length=l.length:=by rw [hl2];simp only [Yd,Yf,Yt];omega
  have hm1:l2.set place.toNat tx=(Z8 l tx place).1:=by rw [hl2];exact Zlp ow hip ow
  refine Za (Ya (Zf G (qR rr (qR rr (qR rr (qf (o_indexAddr_row (sz:=1) 101 (.mk Ybz kr) .is .t ow ow (by rfl)) r2 r1 (qf (ZaG (R:=rInt) (sz:=1) (v:=tx) 101 .t (by intro x;rfl) ow .t O one_int kr) r2 r1 qZ))))) J [9,7,6] [101,0] O O fun a w F G=>?_))
  try simp only [Yc] at G
  refine Za (Ya (rZ G (qR rr (qO rr (qI qZ))) J [7,6] [101,0] fun G=>Yg ?_))
  obtain ⟨F,G⟩:=G.give 101 6 O rfl
  refine ZK hfr G O (.tmp O (.tmp O .nil)) (.two (.sl (by first | (rw [hm];done) | exact hm1)) (.int (by first | (rw [hm];done) | exact hm2)))
 have hip:place≤ZaR tx l:=by simp at hc2;omega
 refine ZO G (qR rr (qR rr (qp r1 (qR rr (qp r1 (qf (ZiJ 101 (.mk Ybz kr) .is .t .t (by first | omega | (rw [hxw,hpw];omega) | (rw [hpw];omega) | (rw [hxw];omega)) (by first | omega | (rw [hxw,hpw];omega) | (rw [hpw];omega) | (rw [hxw];omega)) (by first | omega | (rw [hxw,hpw];omega) | (rw [hpw];omega) | (rw [hxw];omega)) (by first | omega | (rw [hxw,hpw];omega) | (rw [hpw];omega) | (rw [hxw];omega))) r3 r1 (qR rr (qR rr (qR rr (qf (ZfC (sz:=1) (.mk Ybz kr) (by intro x;rfl) .t .t .t (by first | omega | (rw [hxw,hpw];omega) | (rw [hpw];omega) | (rw [hxw];omega)) (by first | omega | (rw [hxw,hpw];omega) | (rw [hpw];omega) | (rw [hxw];omega)) (by first | omega | (rw [hxw,hpw];omega) | (rw [hpw];omega) | (rw [hxw];omega))) r3 qz (qf (o_copy_lh 101 Ybz kr (by intro x;rfl) .t .t (by first | omega | (rw [hxw,hpw];omega) | (rw [hpw];omega) | (rw [hxw];omega)) (by first | omega | (rw [hxw,hpw];omega) | (rw [hpw];omega) | (rw [hxw];omega)) (by first | omega | (rw [hxw,hpw];omega) | (rw [hpw];omega) | (rw [hxw];omega)) (by simp only [hxw,hpw,Yf,Yt];omega)) r2 r1 qZ))))))))))) J [9,7,6,2,1] [101,0] O O fun a w F G=>?_
 try dsimp only [rInt] at G
 rw [hxw,hpw] at G
 obtain ⟨l2,hl2⟩:∃ l2,l2=l.take (place+1).toNat++(l.take (ZaR tx l).toNat).drop place.toNat++l.drop (ZaR tx l+1).toNat:=⟨_,rfl⟩
 rw [← hl2] at G
 have hll2:l2.length=l.length:=by rw [hl2];simp only [Yd,Yf,Yt];omega
 have hm1:l2.set place.toNat tx=(Z8 l tx place).1:=by rw [hl2];exact Zkp ow hip ow
 refine Za (Ya (Zf G (qR rr (qR rr (qR rr (qf (o_indexAddr_row (sz:=1) 101 (.mk Ybz kr) .is .t ow ow (by rfl)) r2 r1 (qf (ZaG (R:=rInt) (sz:=1) (v:=tx) 101 .t (by intro x;rfl) ow .t O one_int kr) r2 r1 qZ))))) J [9,7,6] [101,0] O O fun a w F G=>?_))
 try simp only [Yc] at G
 refine Za (Ya (rZ G (qR rr (qO rr (qI qZ))) J [7,6] [101,0] fun G=>Yg ?_))
 obtain ⟨F,G⟩:=G.give 101 6 O rfl
 refine ZK hfr G O (.tmp O (.tmp O .nil)) (.two (.sl (by first | (rw [hm];done) | exact hm1)) (.int (by first | (rw [hm];done) | exact hm2)))
def ZQ (g:Zn) (key:Int) (rule:List Int→List Int×Int):Zn×Int:=if ¬ ZE g then (Z1,5) else if isK OrdD.key key g.orders=false then (Z1,3) else if (rule (Nn g.orders (lowK OrdD.key key g.orders)).txs).2≠0 then (Z1,(rule (Nn g.orders (lowK OrdD.key key g.orders)).txs).2) else (⟨g.txs,g.orders.set (lowK OrdD.key key g.orders) ⟨(Nn g.orders (lowK OrdD.key key g.orders)).key,(rule (Nn g.orders (lowK OrdD.key key g.orders)).txs).1⟩⟩,0)
def ZbI (o:OrdD) (l:List Int):List Int×Int:=if l.Perm o.txs then (o.txs,0) else ([],8)
def reorderH (g:Zn) (o:OrdD):Zn×Int:=ZQ g o.key (ZbI o)
def ZkS (g:Zn) (key id place:Int):Zn×Int:=ZQ g key fun l=>Z8 l id place
theorem ZiQ (g : Zn) (key : Int) (rule : List Int → List Int × Int) (f : FuncId) (fn : Func) (cps : List PV) (hf : prog.funcs[f]? = some fn) (hb : fn.body.isSome = true) (hnn : (fn.name == "runtime.NumGoroutine") = false) (hw : ∀ l : List Int, l.length ≤ 1000 → FnP prog f (.sl rInt l :: cps) (.tup [.sl rInt (rule l).1, .int .i64 (rule l).2])) (hs : Zbk g) : FnP prog 55 [.agg (Zp g), .int .i64 key, .clos f cps] (.tup [.agg (Zp (ZQ g key rule).1), .int .i64 (ZQ g key rule).2]) := by
 refine FnP.mk func55 O ntmps55 O fun B a w F J hfr G=>?_
 have hso:=hs.2.1
 refine Ya (Zb G (qx 101 r1 (qf (oH [.slice none 0 0,.slice none 0 0] 102) trivial qz (qI qZ))) J [7,6,3,2,1] [102,101,0] (fun _=>rfl) (fun _=>rfl) fun τ a w F G=>?_)
 try dsimp only [RS.sub,SF.sub,CF.sub,csub,Anc.sub,List.map,zCF,Zp,rTx,ZA,ZX,rInt,rOp] at G
 generalize τ 3=v3,τ 6=v6 at G
 refine Za (Ya (Ya (rZ G (qe 2 101 r1 r1 (qf (oP (ZdN g hs) func6 (Args.one (.pagg .t))) r1 qz (qf (o_not .t) r1 qz qZ))) J [15,7,6,3,2,1] [102,101,0] fun G=>?_)))
 refine Zc G O (fun hc0=>?_) (fun hc0=>?_)
 ·skip
  have hr:¬ ZE g:=by simpa using hc0
  have hg:ZQ g key rule=(Z1,5):=by unfold ZQ;rw [Ye hr]
  refine Ya (rZ G (qf (oB [] [.slice none 0 0,.slice none 0 0] [(0,1),(1,1)] .nil) trivial qz (qs 2 102 r2 r1 (qI qZ))) J [7,6,3,2,1] [102,101,0] fun G=>(Yg (Ze ?_)))
  refine ZK hfr G O (.cl 102 true 2 O O (.tmp O .nil)) (.two (by rw [hg];first | exact .aggU O O | exact .aggLe O ⟨ZT.nilSl,ZT.nilSl,tv⟩) (.int (by rw [hg])))
 have hr:ZE g:=by simpa using hc0
 have hrr:=ZD hr
 refine Yi (Za (Ya (rZ G (qg 1 101 r1 r1 (qa 101 r1 r1 (qR rr (qf (oP (ZoW g.orders key ow hrr.2 78 f78 [] func78 O kr (fun x=>ZjY x key)) func77 (Args.three .t .t (.conv .f (Ent.fnClos)))) r2 qz (qR rr (qf (Zi .t O) r1 qz (qf (Zi .t O) r1 qz (qO rr (qO rr qZ))))))))) J [9,8,7,6,3,2] [102,101,0] fun G=>(Ya (Ya ?_)))))
 refine rZ G (qR rr (qf (o_not .t) r1 qz qZ)) J [25,8,7,6,3,2] [102,101,0] fun G=>?_
 refine Zc G O (fun hc1=>?_) (fun hc1=>?_)
 ·skip
  have hik:isK OrdD.key key g.orders=false:=by simpa using hc1
  have hg:ZQ g key rule=(Z1,3):=by unfold ZQ;rw [Yb (YB.2 hr),Ye hik]
  refine Ya (rZ G (qf (oB [] [.slice none 0 0,.slice none 0 0] [(0,1),(1,1)] .nil) trivial qz (qs 2 102 r2 r1 (qI qZ))) J [8,7,6,3,2] [102,101,0] fun G=>(Yg (Ze ?_)))
  refine ZK hfr G O (.cl 102 true 2 O O (.tmp O .nil)) (.two (by rw [hg];first | exact .aggU O O | exact .aggLe O ⟨ZT.nilSl,ZT.nilSl,tv⟩) (.int (by rw [hg])))
 have hik:isK OrdD.key key g.orders=true:=by simpa using hc1
 have hlk:=(Zct hrr.2 hik).1
 have hnl:(Nn g.orders (lowK OrdD.key key g.orders)).txs.length≤1000:=hs.2.at hlk
 refine Yi (Za (Ya (Zf G (qR rr (qg 1 101 r1 r1 (qa 101 r1 r1 (qR rr (qy 2 YbB r2 (qf (oG 1 .t) r1 qz (qf (oR false 1 .t) r1 qz (qf (ZL (avs:=[.sl rInt (Nn g.orders (lowK OrdD.key key g.orders)).txs]) .t (hw (Nn g.orders (lowK OrdD.key key g.orders)).txs hnl) hf hb hnn (Args.one .t)) r2 qz (qR rr (qf (Zi .t O) r1 qz (qf (Zi .t O) r1 qz (qO rr (qO rr qZ))))))))))))) J [11,10,8,7,6,3] [102,101,0] O O fun a w F G=>?_)))
 try simp only [Yc] at G
 refine Za (Ya (Ya (rZ G (qR rr (qf (o_neq .t qi) r1 qz qZ)) J [39,11,10,8,7,6,3] [102,101,0] fun G=>?_)))
 refine Zc G O (fun hc2=>?_) (fun hc2=>?_)
 ·skip
  have hrl:(rule (Nn g.orders (lowK OrdD.key key g.orders)).txs).2≠0:=by simpa using hc2
  have hg:ZQ g key rule=(Z1,(rule (Nn g.orders (lowK OrdD.key key g.orders)).txs).2):=by unfold ZQ;rw [Yb (YB.2 hr),Yb (by rw [hik];simp),Ye hrl]
  refine Ya (rZ G (qf (oB [] [.slice none 0 0,.slice none 0 0] [(0,1),(1,1)] .nil) trivial qz (qR rr (qs 2 102 r2 r1 (qO rr qZ)))) J [10,8,7,6,3] [102,101,0] fun G=>(Yg (Ze ?_)))
  refine ZK hfr G O (.cl 102 true 2 O O (.tmp O .nil)) (.two (by rw [hg];first | exact .aggU O O | exact .aggLe O ⟨ZT.nilSl,ZT.nilSl,tv⟩) (.int (by rw [hg])))
 have hg:ZQ g key rule=(⟨g.txs,g.orders.set (lowK OrdD.key key g.orders) (⟨(Nn g.orders (lowK OrdD.key key g.orders)).key,(rule (Nn g.orders (lowK OrdD.key key g.orders)).txs).1⟩:OrdD)⟩,0):=by unfold ZQ;rw [Yb (YB.2 hr),Yb (by rw [hik];simp),Yb (by simpa using hc2)]
 refine Yi (Za (Ya ?_))
 replace G:=G.fresh 103 rfl
 refine Zb G (qe 2 101 r1 r1 (qf (ZdH 103 (Zf4 g hs) func48 O kr (Args.one (.pagg .t))) r1 r1 (qf (oH [.slice none 0 0,.slice none 0 0] 104) trivial qz (qf (oA 2 104 .same (.conv .t (Ent.fnAgg (.fn (.fn .nil))))) r2 r1 qZ)))) J [12,10,8,7,6] [104,103,102,101,0] (fun _=>rfl) (fun _=>rfl) fun τ a w F G=>?_
 try dsimp only [RS.sub,SF.sub,CF.sub,csub,Anc.sub,List.map,Zg,xL,xM,Nat.reduceAdd,xD,xE,xT,xU,xC,xN,zCF,ldSF,Zp,rTx,ZA,ZX,rInt,rOp] at G
 generalize τ 12=v12,τ 43=v43 at G
 replace G:=G.turn 103 O (r':=RS.hp (HP.star [.ob (.val (cellN 0 v43)) (Zs 37 3 rTx g.txs),.ob (.val (cellN 1 v43)) (Zs 34 2 ZA g.orders)])) (fun _ _ _ _ h=>h)
 obtain ⟨F,G⟩:=G.peel 103 70 O rfl
 obtain ⟨F,G⟩:=G.peel 103 71 O rfl
 obtain ⟨F,G⟩:=G.nM [12,10,8,7,6] [104,102,101,71,70,0]
 generalize cellN 0 v43=va,cellN 1 v43=vb at G
 refine Za (Ya (Zf G (qg 1 104 r1 r1 (qa 104 r1 r1 (qR rr (qR rr (qf (o_indexAddr_row (sz:=2) 71 (.mk YbB kr) .is .t ow ow (by rfl)) r2 r1 (qf (Z6 (off:=1) (sz:=2) 71 .t ow kr (by rfl)) r1 r1 (qf (ZbQ (R:=ZA) (sz:=2) (off:=1) (v':=(⟨(Nn g.orders (lowK OrdD.key key g.orders)).key,(rule (Nn g.orders (lowK OrdD.key key g.orders)).txs).1⟩:OrdD)) 71 .t (by intro x;rfl) ow (by decide) .t one_sl O kr) r2 r1 qZ))))))) J [12,7,6] [104,102,101,71,70,0] O O fun a w F G=>?_))
 try simp only [Yc] at G
 refine Za (Ya ?_)
 obtain ⟨F,G⟩:=G.giveCell 70 104 0 O O O O rfl
 try dsimp only [List.set] at G
 obtain ⟨F,G⟩:=G.nM [12,7,6] [104,102,101,71,0]
 obtain ⟨F,G⟩:=G.giveCell 71 104 1 O O O O rfl
 try dsimp only [List.set] at G
 obtain ⟨F,G⟩:=G.nM [12,7,6] [104,102,101,0]
 refine rZ G (qe 2 104 r1 r1 (qs 2 102 r2 r1 (qI qZ))) J [7,6] [104,102,101,0] fun G=>Yg ?_
 refine ZK hfr G O (.cl 102 true 2 O O (.tmp O .nil)) (.two (by rw [hg];first | exact .aggU O O | exact .aggLe O ⟨ZT.nilSl,ZT.nilSl,tv⟩) (.int (by rw [hg])))
theorem ZjI (l:List Int) (o:OrdD) (hl:l.length≤1000) (ho:o.txs.length≤1000):FnP prog 56 [.sl rInt l,.ref (ZA o)] (.tup [.sl rInt (ZbI o l).1,.int .i64 (ZbI o l).2]):=by
 refine FnP.mk func56 O ntmps56 O fun B a w F J hfr G=>Ya ?_
 refine rZ G (qC (qI qZ)) J [4,3,1,0] [0] fun G=>(Ya (Ya ?_))
 refine rZ G (qR rr (qf (oG 1 .t) r1 qz (qf (oR false 1 .t) r1 qz (qf (oP (Zj7 l o.txs ow ow) func19 (Args.two .t .t)) r2 qz (qf (o_not .t) r1 qz qZ))))) J [9,4,3,1] [0] fun G=>?_
 refine Zc G O (fun hc0=>?_) (fun hc0=>?_)
 ·have hg:ZbI o l=([],8):=by unfold ZbI;rw [Yb (by simpa using hc0)]
  refine Ya (rZ G (qC (qI qZ)) J [4,3,1] [0] fun G=>(Yg (Ze ?_)))
  refine ZK hfr G O (.tmp O (.tmp O .nil)) (.two (.trans .nilSl (.sl (by rw [hg]))) (.int (by rw [hg])))
 have hg:ZbI o l=(o.txs,0):=by unfold ZbI;rw [Ye (by simpa using hc0)]
 refine Yi (Za (Ya (rZ G (qf (oG 1 .t) r1 qz (qf (oR false 1 .t) r1 qz (qf (oP (cloneIP_c o.txs ow) func22 (Args.one .t)) r1 qz (qO rr (qI qZ))))) J [4,3] [0] fun G=>Yg ?_)))
 refine ZK hfr G O (.tmp O (.tmp O .nil)) (.two (.sl (by rw [hg])) (.int (by rw [hg])))
theorem Zoo (l:List Int) (id place:Int) (hl:l.length≤1000):FnP prog 57 [.sl rInt l,.ref [.int .i64 id],.ref [.int .i64 place]] (.tup [.sl rInt (Z8 l id place).1,.int .i64 (Z8 l id place).2]):=by
 refine FnP.mk func57 O ntmps57 O fun B a w F J hfr G=>Ya ?_
 refine rZ G (qC (qI qZ)) J [5,4,2,1,0] [0] fun G=>Ya ?_
 refine rZ G (qR rr (qf (oR false 1 .t) r1 qz (qf (oR false 1 .t) r1 qz (qf (oP (Zlf l id place ow) func29 (Args.three .t .t .t)) r3 qz (qf (Zi .t O) r1 qz (qf (Zi .t O) r1 qz (qO rr (qO rr qZ)))))))) J [5,4] [0] fun G=>Yg ?_
 refine ZK hfr G O (.tmp O (.tmp O .nil)) (.two .refl .refl)
theorem Zi4 (g:Zn) (o:OrdD) (hs:Zbk g) (ho:o.txs.length≤1000):FnP prog 26 [.agg (Zp g),.agg (ZA o)] (.tup [.agg (Zp (reorderH g o).1),.int .i64 (reorderH g o).2]):=by
 refine FnP.mk func26 O ntmps26 O fun B a w F J hfr G=>Ya ?_
 refine Zb G (qx 101 r1 (qx 102 r1 (qf (oH [.slice none 0 0,.slice none 0 0] 103) trivial qz (qI qZ)))) J [5,4,3,2] [103,102,101,0] (fun _=>rfl) (fun _=>rfl) fun τ a w F G=>?_
 try dsimp only [RS.sub,SF.sub,CF.sub,csub,Anc.sub,List.map,zCF,Zp,rTx,ZA,ZX,rInt,rOp] at G
 generalize τ 2=v2,τ 3=v3,τ 4=v4 at G
 refine Za (Ya (ZaC 3 G kr (cG O (oL true 2 101 .is) r1 r1 (cG O (oF 0 102 .is) r1 r1 (cG O (oL false 1 102 .adr) r1 r1 ZJ.nil))) kr (by rw [J];kernel_rfl) fun a w F G=>?_))
 obtain ⟨F,G⟩:=G.nM [8,6,5,4,3] [103,102,101,0]
 try dsimp only [List.map,xD,xE,xT,xU,ldSF,Zp,rTx,ZA,ZX,rInt,rOp] at G
 obtain ⟨F,G⟩:=G.giveRef 102 3 O O rfl
 obtain ⟨F,G⟩:=G.nM [8,6,5,4,3] [103,101,0]
 try dsimp only [Go.Gm.unCF] at G
 refine ZaZ G kr (cG O (ZaV (Args.one .t)) r1 trivial (cG O (oP (ZiQ g o.key (ZbI o) 56 f56 [.ref (ZA o)] func56 O kr (fun l hl=>ZjI l o hl ho) hs) func55 (Args.three (.pagg .t) .t .t)) r3 trivial (cG O (Zi .t O) r1 trivial (cG O (Zi .t O) r1 trivial (cG O (oA 2 103 .is (.conv .t .agg)) r2 r1 (cG O (oN .t) r1 trivial ZJ.nil)))))) kr (by rw [J];kernel_rfl) fun a w F G=>?_
 obtain ⟨F,G⟩:=G.nM [5,4] [103,101,0]
 try dsimp only [List.map,Zg,xL,xM,Nat.reduceAdd,xD,xE,xT,xU,xC,xN,zCF,Zp,rTx,ZA,ZX,rInt,rOp] at G
 refine Za (Yg (ZK hfr G O (.cl 103 true 2 O O (.tmp O .nil)) (.two (.aggU O O) .refl)))
theorem ZnI (g:Zn) (key id place:Int) (hs:Zbk g):FnP prog 27 [.agg (Zp g),.int .i64 key,.int .i64 id,.int .i64 place] (.tup [.agg (Zp (ZkS g key id place).1),.int .i64 (ZkS g key id place).2]):=by
 refine FnP.mk func27 O ntmps27 O fun B a w F J hfr G=>Ya ?_
 refine Zb G (qx 101 r1 (qf (Zh6 102 .t one_int) r1 qz (qf (Zh6 103 .t one_int) r1 qz (qf (oH [.slice none 0 0,.slice none 0 0] 104) trivial qz (qI qZ))))) J [9,8,7,6,4,1] [104,103,102,101,0] (fun _=>rfl) (fun _=>rfl) fun τ a w F G=>?_
 try dsimp only [RS.sub,SF.sub,CF.sub,csub,Anc.sub,List.map,zCF,Zp,rTx,ZA,ZX,rInt,rOp] at G
 generalize τ 4=v4,τ 6=v6 at G
 generalize τ 7=v7,τ 8=v8 at G
 refine Za (Ya (ZaC 2 G kr (cG O (oL true 2 101 .is) r1 r1 (cG O (oM .t) r1 trivial ZJ.nil)) kr (by rw [J];kernel_rfl) fun a w F G=>?_))
 obtain ⟨F,G⟩:=G.nM [11,10,9,8,7,6] [104,103,102,101,0]
 try dsimp only [List.map,xD,xE,xT,xU,ldSF,Zp,rTx,ZA,ZX,rInt,rOp] at G
 obtain ⟨F,G⟩:=G.giveRef 102 6 O O rfl
 obtain ⟨F,G⟩:=G.nM [11,10,9,8,7,6] [104,103,101,0]
 try dsimp only [Go.Gm.unCF] at G
 obtain ⟨F,G⟩:=G.giveRef 103 7 O O rfl
 obtain ⟨F,G⟩:=G.nM [11,10,9,8,7,6] [104,101,0]
 try dsimp only [Go.Gm.unCF] at G
 refine ZaZ G kr (cG O (ZaV (Args.two .t .t)) r2 trivial (cG O (oP (ZiQ g key (fun l=>Z8 l id place) 57 f57 [.ref [.int .i64 id],.ref [.int .i64 place]] func57 O kr (fun l hl=>Zoo l id place hl) hs) func55 (Args.three (.pagg .t) .t .t)) r3 trivial (cG O (Zi .t O) r1 trivial (cG O (Zi .t O) r1 trivial (cG O (oA 2 104 .is (.conv .t .agg)) r2 r1 (cG O (oN .t) r1 trivial ZJ.nil)))))) kr (by rw [J];kernel_rfl) fun a w F G=>?_
 obtain ⟨F,G⟩:=G.nM [9,8] [104,101,0]
 try dsimp only [List.map,Zg,xL,xM,Nat.reduceAdd,xD,xE,xT,xU,xC,xN,zCF,Zp,rTx,ZA,ZX,rInt,rOp] at G
 refine Za (Yg (ZK hfr G O (.cl 104 true 2 O O (.tmp O .nil)) (.two (.aggU O O) .refl)))
theorem Zmq (u v:Zn):(decide (u.txs=v.txs) && decide (u.orders=v.orders))=decide (u=v):=by
 cases u;cases v
 rw [YaD]
 simp
theorem PVs.lenAt {α:Type} {R:α→List PV} {l:List α} {v:Value} {w:World} {y:Ys} (h:(PV.sl R l).p v w y):l.length≤9223372036854775807:=by
 obtain ⟨_,cap,_,h1,h2,_⟩:=h
 unfold maxLen at h2
 omega
theorem Sat.lenHist {B:Zax} {E:En} {a:Act} {w:World} {F:Fp} (h:Sat B E a w F) {i:Nat} {u:Zn} (hl:Go.Gm.look E.s i=some (SF.pv (PV.agg (Zp u)))):u.txs.length≤9223372036854775807∧u.orders.length≤9223372036854775807:=by
 obtain ⟨vs,_,hp⟩:=h.s i _ hl
 match vs,hp with
 | [x,y],hp=>exact ⟨PVs.lenAt hp.1.2,PVs.lenAt hp.2.1.2⟩
def Zo5 (l:List TxD):Prop:=l.length≤1000000 ∧ ∀ t ∈ l,t.ops.length≤1000000
def Znv (l:List OrdD):Prop:=l.length≤1000000 ∧ ∀ t ∈ l,t.txs.length≤1000000
structure DOk (d:ZiW):Prop where
 was:Zo5 d.was
 now:Zo5 d.now
 old:Znv d.old
 new:Znv d.new
def ZaQ (h:Zn):Prop:=h.txs.length≤12∧h.orders.length≤24∧(∀ j,j<h.txs.length→(Nn h.txs j).ops.length≤24) ∧ ∀ j,j<h.orders.length→(Nn h.orders j).txs.length≤24
instance (h:Zn):Decidable (ZaQ h):=by unfold ZaQ;exact inferInstance
def Zir (d:ZiW):Prop:=ZaQ ⟨d.was,d.old⟩∧ZaQ ⟨d.now,d.new⟩
instance (d:ZiW):Decidable (Zir d):=by unfold Zir;exact inferInstance
theorem ZnM {α:Type} [Inhabited α] {q:List α} {x:α} (h:x ∈ q):∃ j,j<q.length∧Nn q j=x:=by
 obtain ⟨j,hj,e⟩:=YL h
 exact ⟨j,hj,by rw [Zm hj];exact e⟩
theorem Zir.ok {d:ZiW} (h:Zir d):DOk d:=by
 obtain ⟨⟨h1,h2,h3,h4⟩,h5,h6,h7,h8⟩:=h
 dsimp only at h1 h2 h3 h4 h5 h6 h7 h8
 refine ⟨⟨by omega,fun t ht=>?_⟩,⟨by omega,fun t ht=>?_⟩,⟨by omega,fun t ht=>?_⟩,⟨by omega,fun t ht=>?_⟩⟩ <;> obtain ⟨j,hj,rfl⟩:=ZnM ht
 ·have:=h3 j hj;omega
 ·have:=h7 j hj;omega
 ·have:=h4 j hj;omega
 ·have:=h8 j hj;omega
theorem ZlP (u:Zn):FnP prog 5 [.agg (Zp u)] (.bool (decide (ZaQ u))):=by
 refine FnP.mk func5 O ntmps5 O fun B a w F J hfr G=>?_
 obtain ⟨hxl,hyl⟩:=Sat.lenHist G (i:=0) rfl
 refine Ya (Zb G (qx 101 r1 qB) J [2,1] [101,0] (fun _=>rfl) (fun _=>rfl) fun τ a w F G=>?_)
 try dsimp only [RS.sub,SF.sub,CF.sub,csub,Anc.sub,List.map,zCF] at G
 generalize τ 1=v1 at G
 refine Za (Ya (Ya (rZ G (qg 0 101 r1 r1 (qa 101 r1 r1 (qu YbA r1 (qf (Zbs .t qi) r1 qz (qR rr (qv 1 101 O r2 r1 (qw 101 O r2 r1 (qk O (fun h=>Zbz YbB (.w h)) r2 qz (qk O (fun h=>Zbs (.w h) qi) r2 qz (qf (ZaM .t .t) r2 qz qZ)))))))))) J [16,2,1] [101,0] fun G=>?_)))
 refine Zc G O (fun hc0=>?_) (fun hc0=>?_)
 ·have hg:false=decide (ZaQ u):=by
    rw [Y3,YG]
    rintro ⟨g1,g2,g3,g4⟩
    simp at hc0;omega
  refine Ya (rZ G qB J [2,1] [101,0] fun G=>(Yg (Ze ?_)))
  refine Zt hfr G O O O (.bool hg)
 have hb:u.txs.length≤12∧u.orders.length≤24:=by simp at hc0;omega
 refine Yi (Za (Ya (Ya (rZ G (qg 0 101 r1 r1 (qa 101 r1 r1 (qu YbA r1 (qJ qZ)))) J [20,19,18,2,1] [101,0] fun G=>Yj ?_))))
 obtain ⟨F,G⟩:=G.nM [20,19,18,1] [101,0]
 refine ZcR (σ:=Nat) (fun s=>(⟨[(1,.pv (.is v1)),(18,.pv (.sl rTx u.txs)),(19,.pv (.int .i64 u.txs.length)),(20,.pv (.int .i64 s))],[(0,frame B),(101,.pt (.val v1) 25 [.pv (.sl rTx u.txs),.pv (.sl ZA u.orders)])]⟩:En)) (fun s=>s≤u.txs.length ∧ ∀ j,j<s→(Nn u.txs j).ops.length≤24) (fun s=>u.txs.length - s) 0 G ⟨Yr _,fun j hj=>absurd hj (Y5 j)⟩ ?_
 clear G;intro i a w F hC G
 try dsimp only at hC
 try dsimp only at G
 obtain ⟨hi,hq⟩:=hC
 refine Ya (rZ G (qL r2) J [21,20,19,18,1] [101,0] fun G=>Ya ?_)
 refine Zc G O (fun hc1=>?_) (fun hc1=>?_)
 ·have hil:i<u.txs.length:=by simp at hc1;omega
  refine Yi (Za (Ya (Yj (Ya (Zb G (qy 3 YbA r2 (qf (oR true 3 .t) r1 qz (qf (oH [.int .i64 0,.bool false,.slice none 0 0] 102) trivial qz (qS 3 102 r2 r1 qZ)))) J [20,19,18,4,1] [102,101,0] (fun _=>rfl) (fun _=>rfl) fun τ a w F G=>?_)))))
  try dsimp only [RS.sub,SF.sub,CF.sub,csub,Anc.sub,List.map,Zg,xL,xM,Nat.reduceAdd,xD,xE,xT,xU,xC,xN,zCF,ldSF] at G
  generalize τ 4=v4 at G
  refine Za (Ya (rZ G (qg 2 102 r1 r1 (qa 102 r1 r1 (qu YbC r1 (qf (Zbs .t qi) r1 qz qZ)))) J [27,20,19,18,1] [101,0] fun G=>?_))
  refine Zc G O (fun hc2=>?_) (fun hc2=>?_)
  ·have hg:false=decide (ZaQ u):=by
     rw [Y3,YG]
     rintro ⟨g1,g2,g3,g4⟩
     have:=g3 i hil;rw [Yc] at hc2;simp at hc2;omega
   refine Ya (rZ G qB J [20,19,18,2,1] [101,0] fun G=>(Yg (Zl (Ze (Ze (Zl (Ze ?_)))))))
   refine Zt hfr G O O O (.bool hg)
  have hqi:(Nn u.txs i).ops.length≤24:=by rw [Yc] at hc2;simp at hc2;omega
  refine Yi (Zk (Za (rZ G (qp r1 (qR rr qZ)) J [20,19,18,1] [101,0] fun G=>?_)))
  replace G:=G.ent (i:=20) (s':=.pv (.int .i64 ((i+1:Nat):Int))) O (.int (Zh ow))
  obtain ⟨F,G⟩:=G.nM [20,19,18,1] [101,0]
  exact ⟨i+1,F,⟨by omega,fun j hj=>by rcases YV (Y6 hj) with h | h;exact hq j h;rw [h];exact hqi⟩,G,by omega⟩
 have hT:∀ j,j<u.txs.length→(Nn u.txs j).ops.length≤24:=fun j hj=>hq j (by simp at hc1;omega)
 clear hq hi
 refine YA (Zj (Zj (Zw (Za (Ya (Ya (rZ G (qg 1 101 r1 r1 (qa 101 r1 r1 (qu YbB r1 (qJ qZ)))) J [32,31,30] [0] fun G=>Yj ?_)))))))
 obtain ⟨F,G⟩:=G.nM [32,31,30] [0]
 refine ZcR (σ:=Nat) (fun s=>(⟨[(30,.pv (.sl ZA u.orders)),(31,.pv (.int .i64 u.orders.length)),(32,.pv (.int .i64 s))],[(0,frame B)]⟩:En)) (fun s=>s≤u.orders.length ∧ ∀ j,j<s→(Nn u.orders j).txs.length≤24) (fun s=>u.orders.length - s) 0 G ⟨Yr _,fun j hj=>absurd hj (Y5 j)⟩ ?_
 clear G;intro i a w F hC G
 try dsimp only at hC
 try dsimp only at G
 obtain ⟨hi,hq⟩:=hC
 refine Ya (rZ G (qL r2) J [33,32,31,30] [0] fun G=>Ya ?_)
 refine Zc G O (fun hc3=>?_) (fun hc3=>?_)
 ·have hil:i<u.orders.length:=by simp at hc3;omega
  refine Yi (Za (Ya (Yj (Ya (Zb G (qy 2 YbB r2 (qf (oR true 2 .t) r1 qz (qf (oH [.int .i64 0,.slice none 0 0] 103) trivial qz (qS 2 103 r2 r1 qZ)))) J [32,31,30,6] [103,0] (fun _=>rfl) (fun _=>rfl) fun τ a w F G=>?_)))))
  try dsimp only [RS.sub,SF.sub,CF.sub,csub,Anc.sub,List.map,Zg,xL,xM,Nat.reduceAdd,xD,xE,xT,xU,xC,xN,zCF,ldSF] at G
  generalize τ 6=v6 at G
  refine Za (Ya (rZ G (qg 1 103 r1 r1 (qa 103 r1 r1 (qu Ybz r1 (qf (Zbs .t qi) r1 qz qZ)))) J [39,32,31,30] [0] fun G=>?_))
  refine Zc G O (fun hc4=>?_) (fun hc4=>?_)
  ·have hg:false=decide (ZaQ u):=by
     rw [Y3,YG]
     rintro ⟨g1,g2,g3,g4⟩
     have:=g4 i hil;rw [Yc] at hc4;simp at hc4;omega
   refine Ya (rZ G qB J [32,31,30,2] [0] fun G=>(Yg (Zl (Ze (Ze (Zl (Ze ?_)))))))
   refine Zt hfr G O O O (.bool hg)
  have hqi:(Nn u.orders i).txs.length≤24:=by rw [Yc] at hc4;simp at hc4;omega
  refine Yi (Zk (Za (rZ G (qp r1 (qR rr qZ)) J [32,31,30] [0] fun G=>?_)))
  replace G:=G.ent (i:=32) (s':=.pv (.int .i64 ((i+1:Nat):Int))) O (.int (Zh ow))
  obtain ⟨F,G⟩:=G.nM [32,31,30] [0]
  exact ⟨i+1,F,⟨by omega,fun j hj=>by rcases YV (Y6 hj) with h | h;exact hq j h;rw [h];exact hqi⟩,G,by omega⟩
 have hO:∀ j,j<u.orders.length→(Nn u.orders j).txs.length≤24:=fun j hj=>hq j (by simp at hc3;omega)
 have hg:true=decide (ZaQ u):=by rw [Y3,Yu];exact ⟨hb.1,hb.2,hT,hO⟩
 refine YA (Zj (Zj (Zw (Za (Ya (rZ G qB J [2] [0] fun G=>Yg ?_))))))
 refine Zt hfr G O O O (.bool hg)
instance (h:Zn):Decidable (ZaQ h):=by unfold ZaQ;exact inferInstance
theorem ZaQ.small {h:Zn} (hl:ZaQ h):Zbk h:=by
 obtain ⟨h1,h2,h3,h4⟩:=hl
 refine ⟨⟨by omega,fun t ht=>?_⟩,by omega,fun o ho=>?_⟩
 ·obtain ⟨j,hj,e⟩:=YL ht
  have:=h3 j hj
  rw [Zm hj,e] at this;omega
 ·obtain ⟨j,hj,e⟩:=YL ho
  have:=h4 j hj
  rw [Zm hj,e] at this;omega
section
set_option linter.unusedSectionVars false
variable {α:Type} {κ:α→Int} {t x:α} {l out r:List α} {d:Bool}
def Za9 (κ:α→Int) (t:α):List α→Bool→List α
 | [],d=>if d=true then [] else [t]
 | x :: l,d=>(if d=false∧κ t≤κ x then [t] else [])++(if κ x=κ t then [] else [x])++Za9 κ t l (d || decide (κ t≤κ x))
theorem ZaY:∀ l:List α,Za9 κ t l true=l.filter fun x=>!decide (κ x=κ t)
 | []=>rfl
 | x :: l=>by
  rw [Za9,Yb (by simp),Yao,Bool.true_or,ZaY l]
  split
  ·rename_i h;rw [YaA (by simpa using h)];rfl
  ·rename_i h;rw [Yaz (by simpa using h)];rfl
theorem ZcK {k:Int} (h:∀ x ∈ l,k<κ x):(l.filter fun x=>!decide (κ x=k))=l:=by
 rw [List.filter_eq_self]
 intro x hx
 have:=h x hx
 simp;omega
theorem ZdV {k:Int} : lowK κ k (x :: l)=if κ x<k then lowK κ k l+1 else 0:=by
 unfold lowK
 split
 ·rename_i h1;rw [List.takeWhile_cons_of_pos (by simpa using h1),Yv]
 ·rename_i h1;rw [List.takeWhile_cons_of_neg (by simpa using h1)];rfl
theorem ZaD {k:Int} : isK κ k (x :: l)=(decide (κ x=k) || isK κ k l):=by unfold isK;rw [List.any_cons]
theorem Zh0 {k:Int} (h:∀ x ∈ l,k<κ x):isK κ k l=false:=by
 unfold isK
 rw [YaV]
 intro x hx
 have:=h x hx
 simp;omega
theorem Zhd (hs:l.Pairwise fun a b=>κ a<κ b) (hk:isK κ (κ t) l=false):Za9 κ t l false=l.take (lowK κ (κ t) l) ++ [t] ++ l.drop (lowK κ (κ t) l):=by
 induction l with
 | nil=>rfl
 | cons x l ih=>
  rw [Yq] at hs
  rw [ZaD,Bool.or_eq_false_iff,YG] at hk
  rw [Za9,Yb hk.1,ZdV]
  by_cases h:κ x<κ t
  ·rw [Yb ow,Ye h,show (false || decide (κ t≤κ x))=false by simp;omega,ih hs.2 hk.2];simp
  ·rw [Ye ⟨rfl,by omega⟩,Yb h,show (false || decide (κ t≤κ x))=true by simp;omega,ZaY,ZcK fun y hy=>by have:=hs.1 y hy;omega];simp
theorem ZgT (hs:l.Pairwise fun a b=>κ a<κ b) (hk:isK κ (κ t) l=true):Za9 κ t l false=l.set (lowK κ (κ t) l) t:=by
 induction l with
 | nil=>simp [isK] at hk
 | cons x l ih=>
  rw [Yq] at hs
  rw [Za9,ZdV]
  by_cases h:κ x<κ t
  ·rw [ZaD,Ym ow,Ybf] at hk
   rw [Yb ow,Yb ow,Ye h,show (false || decide (κ t≤κ x))=false by simp;omega,ih hs.2 hk];rfl
  ·rw [Ye ⟨rfl,by omega⟩,Yb h,show (false || decide (κ t≤κ x))=true by simp;omega,ZaY,ZcK fun y hy=>by have:=hs.1 y hy;omega]
   have hx:κ x=κ t:=by
    refine YaN fun h9=>?_
    rw [ZaD,Ym h9,Ybf,Zh0 fun y hy=>by have:=hs.1 y hy;omega] at hk
    cases hk
   rw [Ye hx];rfl
theorem Zji {k:Int} (hs:l.Pairwise fun a b=>κ a<κ b) (hk:isK κ k l=true):(l.filter fun x=>!decide (κ x=k))=l.take (lowK κ k l)++l.drop (lowK κ k l+1):=by
 induction l with
 | nil=>simp [isK] at hk
 | cons x l ih=>
  rw [Yq] at hs
  rw [ZdV]
  by_cases h:κ x<k
  ·rw [ZaD,Ym ow,Ybf] at hk
   rw [Yaz (by simp;omega),Ye h,ih hs.2 hk];rfl
  ·have hx:κ x=k:=by
    refine YaN fun h9=>?_
    rw [ZaD,Ym h9,Ybf,Zh0 fun y hy=>by have:=hs.1 y hy;omega] at hk
    cases hk
   rw [YaA (by simpa using hx),Yb h,ZcK fun y hy=>by have:=hs.1 y hy;omega];simp
theorem ZeJ {y:α} (h:y ∈ Za9 κ t l d):(y=t∧d=false)∨(y ∈ l∧κ y≠κ t):=by
 induction l generalizing d with
 | nil=>cases d <;> simp [Za9] at h;exact .inl ⟨h,rfl⟩
 | cons x l ih=>
  rw [Za9,YM,YM] at h
  rcases h with (h | h) | h
  ·split at h
   ·rename_i h1;exact .inl ⟨by simpa using h,h1.1⟩
   ·cases h
  ·split at h
   ·cases h
   ·rename_i h1
    have e:y=x:=by simpa using h
    subst e
    exact .inr ⟨by simp,h1⟩
  ·rcases ih h with ⟨h1,h2⟩ | ⟨h1,h2⟩
   ·rw [Bool.or_eq_false_iff] at h2;exact .inl ⟨h1,h2.1⟩
   ·exact .inr ⟨by simp [h1],h2⟩
theorem Zdt (hs:l.Pairwise fun a b=>κ a<κ b):(Za9 κ t l d).Pairwise fun a b=>κ a<κ b:=by
 induction l generalizing d with
 | nil=>cases d <;> simp [Za9]
 | cons x l ih=>
  rw [Yq] at hs
  have hf:=hs.2.filter fun x=>!decide (κ x=κ t)
  rw [Za9]
  by_cases hA:d=false∧κ t≤κ x
  ·rw [Ye hA,show (d || decide (κ t≤κ x))=true by simp [hA.2],ZaY]
   have h1:∀ y ∈ l.filter (fun x=>!decide (κ x=κ t)),κ x<κ y:=fun y hy=>hs.1 y (YN.1 hy).1
   split
   ·rw [Y2,Y4,Yq]
    exact ⟨fun y hy=>by have:=h1 y hy;omega,hf⟩
   ·rename_i h2
    rw [Yad,Y4,Y4,Yq,Yq]
    refine ⟨fun y hy=>?_,h1,hf⟩
    rcases Yo.1 hy with rfl | hy
    ·omega
    ·have:=h1 y hy;omega
  ·rw [Yb hA,Yao]
   have ih2:=ih (d:=d || decide (κ t≤κ x)) hs.2
   split
   ·simpa using ih2
   ·rename_i h2
    rw [Y4,Yq]
    refine ⟨fun y hy=>?_,ih2⟩
    rcases ZeJ hy with ⟨rfl,h3⟩ | ⟨h3,_⟩
    ·rw [Bool.or_eq_false_iff] at h3
     have:=of_decide_eq_false h3.2
     omega
    ·exact hs.1 y h3
end
def getO (os:List OrdD) (k:Int):List Int:=((os.find? fun o=>decide (o.key=k)).map OrdD.txs).getD []
theorem ZG {o:OrdD} {os:List OrdD} {k:Int} : getO (o :: os) k=if o.key=k then o.txs else getO os k:=by
 unfold getO
 rw [List.find?_cons]
 by_cases h:o.key=k <;> simp [h]
theorem Zc1 {os:List OrdD} {k:Int} (h:∀ o ∈ os,o.key≠k):getO os k = []:=by
 unfold getO
 rw [List.find?_eq_none.2 fun o ho=>by simpa using h o ho];rfl
theorem Zcb {os:List OrdD} {o:OrdD} (hs:os.Pairwise fun a b=>a.key<b.key) (h:o ∈ os):getO os o.key=o.txs:=by
 induction os with
 | nil=>cases h
 | cons x os ih=>
  rw [Yq] at hs
  rw [ZG]
  rcases Yo.1 h with rfl | h
  ·rw [Ye rfl]
  ·have:=hs.1 o h
   rw [Yb ow,ih hs.2 h]
theorem Zd1 {os:List OrdD} {k:Int} (h:getO os k≠[]):(⟨k,getO os k⟩:OrdD) ∈ os:=by
 induction os with
 | nil=>exact absurd rfl h
 | cons x os ih=>
  rw [ZG] at h ⊢
  by_cases e:x.key=k
  ·rw [Ye e];subst e;simp
  ·rw [Yb e] at h ⊢;simp [ih h]
def NE (os:List OrdD):Prop:=∀ o ∈ os,o.txs≠[]
theorem ZlD:∀ {a b:List OrdD},(a.Pairwise fun x y=>x.key<y.key)→(b.Pairwise fun x y=>x.key<y.key)→(∀ o,o ∈ a ↔ o ∈ b)→a=b
 | [],[],_,_,_=>rfl
 | [],y :: b,_,_,h=>by have:=(h y).2 (by simp);cases this
 | x :: a,[],_,_,h=>by have:=(h x).1 (by simp);cases this
 | x :: a,y :: b,ha,hb,h=>by
  rw [Yq] at ha hb
  have e:x=y:=by
   rcases Yo.1 ((h x).1 (by simp)) with e | h1
   ·exact e
   ·rcases Yo.1 ((h y).2 (by simp)) with e | h2
    ·exact e.symm
    ·have:=ha.1 y h2;have:=hb.1 x h1;omega
  subst e
  rw [ZlD (a:=a) (b:=b) ha.2 hb.2 fun o=>?_]
  constructor
  ·intro ho
   rcases Yo.1 ((h o).1 (by simp [ho])) with e | h1
   ·have:=ha.1 o ho;rw [e] at this;omega
   ·exact h1
  ·intro ho
   rcases Yo.1 ((h o).2 (by simp [ho])) with e | h1
   ·have:=hb.1 o ho;rw [e] at this;omega
   ·exact h1
theorem Zn7 {a b:List OrdD} (ha:a.Pairwise fun x y=>x.key<y.key) (hb:b.Pairwise fun x y=>x.key<y.key) (na:NE a) (nb:NE b) (h:∀ k,getO a k=getO b k):a=b:=by
 refine ZlD ha hb fun o=>⟨fun ho=>?_,fun ho=>?_⟩
 ·have h1:=Zcb ha ho
  have h2:getO b o.key≠[]:=by rw [← h,h1];exact na o ho
  have h3:=Zd1 h2
  rw [← h,h1] at h3;exact h3
 ·have h1:=Zcb hb ho
  have h2:getO a o.key≠[]:=by rw [h,h1];exact nb o ho
  have h3:=Zd1 h2
  rw [h,h1] at h3;exact h3
def ZgG (t:TxD) (l:List Int) (k:Int):List Int:=if t.done=true∧0<wcnt t.ops k then withO l t.id else withoutO l t.id
theorem Zhq {os:List OrdD} (hs:os.Pairwise fun a b=>a.key<b.key) (k:Int):getO (os.filter fun o=>!decide (o.txs = [])) k=getO os k:=by
 induction os with
 | nil=>rfl
 | cons x os ih=>
  rw [Yq] at hs
  rw [ZG]
  by_cases e:x.txs = []
  ·rw [YaA (by simpa using e),ih hs.2]
   split
   ·rename_i hk
    rw [e,Zc1 fun o ho=>by have:=hs.1 o ho;omega]
   ·rfl
  ·rw [Yaz (by simpa using e),ZG,ih hs.2]
theorem ZmL {t:TxD} {os:List OrdD} {k:Int} : getO (os.map (Zhw t)) k=if isK OrdD.key k os=true then ZgG t (getO os k) k else []:=by
 induction os with
 | nil=>simp [getO,isK]
 | cons x os ih=>
  rw [YI,ZG,ZG,ZaD,ih]
  by_cases e:x.key=k
  ·subst e
   rw [Ye (show (Zhw t x).key=x.key from rfl),Ye rfl]
   simp [Zhw,ZgG]
  ·rw [Yb (show ¬ (Zhw t x).key=k from e),Yb e,Ym e,Ybf]
theorem Zgv {k' k:Int} : ∀ {os:List OrdD},(os.Pairwise fun a b=>a.key<b.key)→getO (Zhn k' os) k=getO os k
 | [],_=>by unfold Zhn;rw [ZG];split <;> rfl
 | x :: os,h=>by
  rw [Yq] at h
  unfold Zhn
  split
  ·rw [ZG,ZG,Zgv h.2]
  ·split
   ·rfl
   ·rw [ZG]
    split
    ·rename_i h1 h2 h3
     have h3:k' = k:=h3
     subst h3
     refine (Zc1 fun o ho=>?_).symm
     rcases Yo.1 ho with rfl | ho
     ·exact h2
     ·have:=h.1 o ho;omega
    ·rfl
theorem Zis {k' k:Int} : ∀ {os:List OrdD},isK OrdD.key k (Zhn k' os)=(isK OrdD.key k os || decide (k' = k))
 | []=>by simp [Zhn,isK]
 | x :: os=>by
  unfold Zhn
  split
  ·rw [ZaD,ZaD,Zis,Bool.or_assoc]
  ·split
   ·rename_i h2
    rw [ZaD]
    by_cases e:k' = k
    ·simp [h2,e]
    ·simp [e]
   ·rw [ZaD,Bool.or_comm]
theorem ZiF:∀ (ks:List Int) {os:List OrdD} (k:Int),Zcc OrdD.key os→getO (ks.foldl ZdF os) k=getO os k∧isK OrdD.key k (ks.foldl ZdF os)=(isK OrdD.key k os || decide (k ∈ ks))
 | [],os,k,_=>by simp
 | k' :: ks,os,k,h=>by
  obtain ⟨h1,h2⟩:=ZiF ks k (insK_rise k' h)
  rw [Yav,h1,h2,Zf9 k' h,Zgv (Zx.1 h),Zis]
  refine ⟨rfl,?_⟩
  rw [Bool.or_assoc]
  congr 1
  rw [YaD]
  simp only [YaC,Yu,Yo]
  exact ⟨fun h=>h.elim (fun h=>.inl h.symm) .inr,fun h=>h.elim (fun h=>.inl h.symm) .inr⟩
theorem Zld {os:List OrdD} {k:Int} (h:isK OrdD.key k os=false):getO os k = []:=by
 refine Zc1 fun o ho e=>?_
 unfold isK at h
 rw [YaV] at h
 exact h o ho (by simpa using e)
theorem ZjN {t:TxD} {os:List OrdD} (h:Zcc OrdD.key os) (k:Int):getO (settleO t os) k=ZgG t (getO os k) k:=by
 unfold settleO
 have hins:getO (ZcD t os (ZP t)) k=getO os k∧isK OrdD.key k (ZcD t os (ZP t))=(isK OrdD.key k os || (t.done && decide (k ∈ ZP t)))∧Zcc OrdD.key (ZcD t os (ZP t)):=by
  unfold ZcD
  split
  ·rename_i hd
   obtain ⟨h1,h2⟩:=ZiF (ZP t) k h
   refine ⟨h1,by rw [h2,hd,YaG],?_⟩
   have key:∀ (ks:List Int) (os:List OrdD),Zcc OrdD.key os→Zcc OrdD.key (ks.foldl ZdF os):=by
    intro ks
    induction ks with
    | nil=>intro os h;exact h
    | cons k ks ih=>intro os h;exact ih _ (insK_rise k h)
   exact key _ _ h
  ·rename_i hd
   exact ⟨rfl,by simp [hd],h⟩
 obtain ⟨h1,h2,h3⟩:=hins
 have hm:((ZcD t os (ZP t)).map (Zhw t)).Pairwise fun a b=>a.key<b.key:=Yay.2 ((Zx.1 h3).imp fun h=>h)
 rw [Zhq hm,ZmL,h1,h2]
 split
 ·rfl
 ·rename_i hk
  simp only [YaC,not_or,Yw,Yu] at hk
  have hk1:isK OrdD.key k os=false:=by simpa using hk.1
  rw [Zld hk1]
  unfold ZgG
  rw [Yb fun h9=>hk.2 ⟨h9.1,ZbS.2 h9.2⟩];rfl
theorem ZhY {t:TxD} {os:List OrdD} (h:Zcc OrdD.key os) (hs:Zb7 os):(settleO t os).Pairwise (fun a b=>a.key<b.key)∧NE (settleO t os):=by
 have h3:=(Zfc (t:=t) h hs (ZP t)).1
 have hm:((ZcD t os (ZP t)).map (Zhw t)).Pairwise fun a b=>a.key<b.key:=Yay.2 ((Zx.1 h3).imp fun h=>h)
 refine ⟨hm.filter _,fun o ho=>?_⟩
 have:=(YN.1 ho).2
 simpa using this
theorem Zgi {o:OrdD} {os:List OrdD} {d:Bool} (hs:os.Pairwise fun a b=>a.key<b.key) (k:Int):getO (Za9 OrdD.key o os d) k=if k=o.key then (if d=true then [] else o.txs) else getO os k:=by
 have hf:∀ os:List OrdD,getO (os.filter fun x=>!decide (x.key=o.key)) k=if k=o.key then [] else getO os k:=by
  intro os
  induction os with
  | nil=>split <;> rfl
  | cons x os ih=>
   by_cases e:x.key=o.key
   ·rw [YaA (by simpa using e),ih,ZG]
    split
    ·rfl
    ·rename_i h;rw [Yb ow]
   ·rw [Yaz (by simpa using e),ZG,ZG,ih]
    split
    ·rename_i h;rw [Yb ow]
    ·rfl
 cases d with
 | true=>rw [ZaY,hf];simp
 | false=>
  simp only [Ya1,Yk]
  induction os with
  | nil=>
   show getO [o] k=_
   rw [ZG]
   by_cases e:o.key=k
   ·rw [Ye e,Ye e.symm]
   ·rw [Yb e,Yb fun h=>e h.symm]
  | cons x os ih=>
   rw [Yq] at hs
   rw [Za9]
   by_cases hA:o.key≤x.key
   ·rw [Ye ⟨rfl,hA⟩,show (false || decide (o.key≤x.key))=true by simp [hA],ZaY,Yad,Y4,ZG]
    by_cases e:o.key=k
    ·rw [Ye e,Ye e.symm]
    ·have e':¬ k=o.key:=fun h=>e h.symm
     rw [Yb e,Yb e',ZG]
     by_cases e2:x.key=o.key
     ·rw [Ye e2,Yao,hf,Yb e',Yb (show ¬ x.key=k by omega)]
     ·rw [Yb e2,Y4,ZG,hf,Yb e']
   ·rw [Yb fun h=>hA h.2,Yb ow,Yao,Y4,show (false || decide (o.key≤x.key))=false by simp;omega,ZG,ZG,ih hs.2]
    split
    ·rename_i h;rw [Yb ow]
    ·rfl
theorem Zoa {os:List OrdD} {k:Int} {i:Nat} (hi:i<os.length) (h:(Nn os i).key=k) (hq:∀ q,q<i→(Nn os q).key≠k):getO os k=(Nn os i).txs:=by
 unfold getO
 rw [List.find?_eq_some_iff_getElem.2 ⟨by simpa using h,i,hi,(Zm hi).symm,fun j hj=>by have:=hq j hj;rw [Zm ow] at this;simpa using this⟩];rfl
theorem Zn8 {os:List OrdD} {k:Int} (hq:∀ q,q<os.length→(Nn os q).key≠k):getO os k = []:=Zc1 fun o ho=>by
 obtain ⟨j,hj,e⟩:=YL ho
 have:=hq j hj
 rwa [Zm hj,e] at this
theorem ZmA {os:List OrdD} (h:Zb7 os) (k:Int):(getO os k).length≤1000:=by
 by_cases e:getO os k = []
 ·rw [e];simp
 ·exact h.2 _ (Zd1 e)
theorem Zox {l:List TxD} {id:Int} : (ZaO l id).isSome=isK TxD.id id l:=by
 unfold ZaO isK
 rw [YaD,List.find?_isSome,YaS]
theorem Zc8 {g:Zn} (h:ZE g):NE g.orders:=fun o ho=>by
 have h2:=(Zci g).2 h.2.2
 obtain ⟨j,hj,e⟩:=YL ho
 have:=(h2.2 j hj).2.1
 rwa [Zm hj,e] at this
theorem Zle {os:List OrdD} {k:Int} (hr:Zcc OrdD.key os) (h:isK OrdD.key k os=true):getO os k=(Nn os (lowK OrdD.key k os)).txs:=by
 obtain ⟨h1,h2⟩:=Zct hr h
 have:=Zcb (Zx.1 hr) (Z5 h1)
 rwa [h2] at this
theorem Zk5 {os:List OrdD} {k:Int} (hr:Zcc OrdD.key os) (hn:NE os):getO os k = [] ↔ isK OrdD.key k os=false:=by
 constructor
 ·intro h
  cases hk:isK OrdD.key k os with
  | false=>rfl
  | true=>
   rw [Zle hr hk] at h
   exact absurd h (hn _ (Z5 (Zct hr hk).1))
 ·exact Zld
theorem Zpu {g:Zn} {key:Int} {rule:List Int→List Int×Int} (h:¬ ZE g):ZQ g key rule=(Z1,5):=Ye h
theorem Zns {g:Zn} {key:Int} {rule:List Int→List Int×Int} (h:ZE g) (h2:getO g.orders key = []):ZQ g key rule=(Z1,3):=by
 unfold ZQ
 rw [Yb (YB.2 h),Ye ((Zk5 (ZD h).2 (Zc8 h)).1 h2)]
theorem Zke {g:Zn} {key:Int} (h:ZE g) (h2:getO g.orders key≠[]):isK OrdD.key key g.orders=true:=by
 cases hk:isK OrdD.key key g.orders with
 | true=>rfl
 | false=>exact absurd ((Zk5 (ZD h).2 (Zc8 h)).2 hk) h2
theorem Znz {g:Zn} {key:Int} {rule:List Int→List Int×Int} (h:ZE g) (h2:getO g.orders key≠[]) (h3:(rule (getO g.orders key)).2≠0):ZQ g key rule=(Z1,(rule (getO g.orders key)).2):=by
 have hk:=Zke h h2
 have hg:=Zle (ZD h).2 hk
 unfold ZQ
 rw [Yb (YB.2 h),Yb (by simp [hk]),← hg,Ye h3]
theorem Zkg {g:Zn} {key:Int} {rule:List Int→List Int×Int} (h:ZE g) (h2:getO g.orders key≠[]) (h3:(rule (getO g.orders key)).2=0) (h4:(rule (getO g.orders key)).1≠[]):ZQ g key rule=(⟨g.txs,Za9 OrdD.key ⟨key,(rule (getO g.orders key)).1⟩ g.orders (decide ((rule (getO g.orders key)).1 = []))⟩,0):=by
 have hk:=Zke h h2
 have hr:=(ZD h).2
 have hg:=Zle hr hk
 unfold ZQ
 rw [Yb (YB.2 h),Yb (by simp [hk]),← hg,Yb (by simp [h3]),Ym h4,ZgT (κ:=OrdD.key) (t:=⟨key,(rule (getO g.orders key)).1⟩) (Zx.1 hr) hk,(Zct hr hk).2]
theorem ZgF {l:List Int} {id place:Int} (h:(Z8 l id place).2=0):(Z8 l id place).1.Perm l:=by
 have h9:=h
 unfold Z8 at h9
 split at h9
 ·simp at h9
 ·rename_i h1
  split at h9
  ·simp at h9
  ·rename_i h2
   refine Zb8 ?_ (YB.1 h2)
   refine YaN fun hm=>h1 ?_
   rw [Zgn hm];decide
structure EdD where
 kind:Int
 t:TxD
 o:OrdD
 place:Int
 deriving DecidableEq,Inhabited
def doH (g:Zn) (e:EdD):Zn×Int:=if e.kind=0 then Zao g e.t else if e.kind=1 then Zag g e.t.id else if e.kind=2 then Za2 g e.t else if e.kind=3 then reorderH g e.o else if e.kind=4 then ZkS g e.o.key e.t.id e.place else (Z1,5)
def Zea (e:EdD):Prop:=e.t.ops.length≤24∧e.o.txs.length≤24
instance (e:EdD):Decidable (Zea e):=by unfold Zea;exact inferInstance
def Znn (l:List EdD):Prop:=l.length≤24 ∧ ∀ e ∈ l,Zea e
instance (l:List EdD):Decidable (Znn l):=by unfold Znn;exact inferInstance
def Ziv (g:Zn) (e:EdD):Zn:=if (doH g e).2=0 then (doH g e).1 else g
theorem ZfH {os:List OrdD} {k:Int} : (ZV (fun o:OrdD=>decide (o.key=k)) os<0→getO os k = [])∧(¬ ZV (fun o:OrdD=>decide (o.key=k)) os<0 → ∃ i:Nat,ZV (fun o:OrdD=>decide (o.key=k)) os=i∧i<os.length∧getO os k=(Nn os i).txs):=by
 rcases Zaq (fun o:OrdD=>decide (o.key=k)) os with ⟨h1,h2⟩ | ⟨i,h1,h2,h3,h4⟩
 ·exact ⟨fun _=>Zn8 fun q hq=>by simpa using h2 q hq,fun h=>absurd (by rw [h1];decide) h⟩
 ·exact ⟨fun h=>by rw [h1] at h;omega,fun _=>⟨i,h1,h2,Zoa h2 (by simpa using h3) fun q hq=>by simpa using h4 q hq⟩⟩
def Fit (n:Nat) (g:Zn):Prop:=(g.txs.length≤n ∧ ∀ t ∈ g.txs,t.ops.length≤24)∧g.orders.length≤24*n ∧ ∀ o ∈ g.orders,o.txs.length≤n
theorem Fit.zero:Fit 0 Z1:=⟨⟨by simp [Z1],fun t ht=>by cases ht⟩,by simp [Z1],fun o ho=>by cases ho⟩
theorem Fit.up {n:Nat} {g:Zn} (h:Fit n g):Fit (n+1) g:=⟨⟨by have:=h.1.1;omega,h.1.2⟩,by have:=h.2.1;omega,fun o ho=>by have:=h.2.2 o ho;omega⟩
theorem Fit.none {n:Nat} : Fit n Z1:=by
 induction n with
 | zero=>exact Fit.zero
 | succ n ih=>exact ih.up
theorem Zkh {os:List OrdD} {ks:List Int} {t:TxD} {o:OrdD} (h:o ∈ ZcD t os ks):o ∈ os∨o.txs = []:=by
 unfold ZcD at h
 split at h
 ·have key:∀ (ks:List Int) (os:List OrdD),o ∈ ks.foldl ZdF os→o ∈ os∨o.txs = []:=by
   intro ks
   induction ks with
   | nil=>intro os h;exact .inl h
   | cons k ks ih=>
    intro os h
    rcases ih _ h with h | h
    ·rcases ZiE h with h | h
     ·exact .inl h
     ·exact .inr (by rw [h])
    ·exact .inr h
  exact key ks os h
 ·exact .inl h
theorem Zi1 {n:Nat} {t:TxD} {os:List OrdD} (ht:t.ops.length≤24) (h1:os.length≤24*n) (h2:∀ o ∈ os,o.txs.length≤n):(settleO t os).length≤24*(n+1) ∧ ∀ o ∈ settleO t os,o.txs.length≤n+1:=by
 have hk:=Zb2 t
 have hl:(ZcD t os (ZP t)).length≤os.length+(ZP t).length:=by
  unfold ZcD
  split
  ·have key:∀ (ks:List Int) (os:List OrdD),(ks.foldl ZdF os).length≤os.length+ks.length:=by
    intro ks
    induction ks with
    | nil=>intro os;simp
    | cons k ks ih=>intro os;have h1:=ih (ZdF os k);have h2:=Ziy os k;rw [Yav,Yv];omega
   exact key _ _
  ·omega
 unfold settleO
 refine ⟨Yau (Yan _ _) (by rw [YY];omega),fun o ho=>?_⟩
 obtain ⟨o',ho',e⟩:=YD.1 (YN.1 ho).1
 have hlen:o'.txs.length≤n:=by
  rcases Zkh ho' with h | h
  ·exact h2 o' h
  ·rw [h];simp
 rw [← e]
 unfold Zhw
 show (if _ then _ else _:List Int).length≤_
 split
 ·unfold withO;split
  ·omega
  ·simp;omega
 ·unfold withoutO
  exact Yau (Yan _ _) ow
theorem Zfu {n:Nat} {g:Zn} {key:Int} {rule:List Int→List Int×Int} (hr:∀ l,(rule l).2=0→(rule l).1.length≤l.length) (h:Fit n g):Fit n (ZQ g key rule).1:=by
 unfold ZQ
 split
 ·exact Fit.none
 ·split
  ·exact Fit.none
  ·split
   ·exact Fit.none
   ·rename_i h1 h2 h3
    refine ⟨h.1,by show (List.set _ _ _).length≤_;rw [YF];exact h.2.1,fun o ho=>?_⟩
    rcases List.mem_or_eq_of_mem_set ho with h4 | h4
    ·exact h.2.2 o h4
    ·have hk:isK OrdD.key key g.orders=true:=by simpa using h2
     have hlt:=(Zct (ZD (YB.1 h1)).2 hk).1
     have:=hr _ (YB.1 h3)
     have:=h.2.2 _ (Z5 hlt)
     rw [h4];show (rule _).1.length≤n;omega
theorem Fit.doH {n:Nat} {g:Zn} {e:EdD} (h:Fit n g) (he:Zea e):Fit (n+1) (doH g e).1:=by
 have hset:∀ t:TxD,t.ops.length≤24 → ∀ txs:List TxD,txs.length≤n+1→(∀ t ∈ txs,t.ops.length≤24)→Fit (n+1) ⟨txs,settleO t g.orders⟩:=fun t ht txs h1 h2=>by
  obtain ⟨h3,h4⟩:=Zi1 ht h.2.1 h.2.2
  exact ⟨⟨h1,h2⟩,h3,h4⟩
 unfold Go.Proofs.YthfoojdlcjfmcaaGreatDoor.doH
 split
 ·unfold Zao
  split
  ·exact Fit.none
  ·split
   ·exact Fit.none
   ·refine hset _ he.1 _ ?_ fun t ht=>?_
    ·have:=h.1.1;rw [Yd,Yd,Yf,Yt];simp;omega
    ·rw [YM,YM] at ht
     rcases ht with (ht | ht) | ht
     ·exact h.1.2 t (YaB ht)
     ·rw [Yl.1 ht];exact he.1
     ·exact h.1.2 t (YaI ht)
 ·split
  ·unfold Zag
   split
   ·exact Fit.none
   ·split
    ·exact Fit.none
    ·split
     ·exact Fit.none
     ·refine hset _ (by simp [Zdl]) _ ?_ fun t ht=>?_
      ·have:=h.1.1;rw [Yd,Yf,Yt];omega
      ·rw [YM] at ht
       rcases ht with ht | ht
       ·exact h.1.2 t (YaB ht)
       ·exact h.1.2 t (YaI ht)
  ·split
   ·unfold Za2
    split
    ·exact Fit.none
    ·split
     ·exact Fit.none
     ·refine hset _ he.1 _ ?_ fun t ht=>?_
      ·have:=h.1.1;rw [YF];omega
      ·rcases List.mem_or_eq_of_mem_set ht with ht | ht
       ·exact h.1.2 t ht
       ·rw [ht];exact he.1
   ·split
    ·refine (Zfu (fun l h0=>?_) h).up
     unfold ZbI at h0 ⊢
     split at h0
     ·rename_i hp;rw [Ye hp,hp.length_eq];exact YO _
     ·simp at h0
    ·split
     ·exact (Zfu (fun l h0=>by show (Z8 l _ _).1.length≤_;exact Zj3 _ _ _) h).up
     ·exact Fit.none
theorem Fit.step {n:Nat} {g:Zn} {e:EdD} (h:Fit n g) (he:Zea e):Fit (n+1) (Ziv g e):=by
 unfold Ziv
 split
 ·exact h.doH he
 ·exact h.up
theorem Znb (o:OrdD) (key:Int):FnP prog 21 [.agg (ZA o),.ref [.int .i64 key]] (.bool (decide (o.key=key))):=by
 refine FnP.mk func21 O ntmps21 O fun B a w F J hfr G=>Ya ?_
 refine Zb G (qx 101 r1 qB) J [3,2,1] [101,0] (fun _=>rfl) (fun _=>rfl) fun τ a w F G=>?_
 try dsimp only [RS.sub,SF.sub,CF.sub,csub,Anc.sub,List.map,zCF,Zp,rTx,ZA,ZX,rInt,rOp] at G
 generalize τ 2=v2 at G
 refine Za (Ya (rZ G (qg 0 101 r1 r1 (qa 101 r1 r1 (qf (oR false 1 .t) r1 qz (qf (o_eql .t .t) r2 qz (qO rr qZ))))) J [3] [101,0] fun G=>Yg ?_))
 refine Zt hfr G O O O .refl
theorem ZmD (g:Zn) (key:Int) (hs:Zb7 g.orders):FnP prog 7 [.agg (Zp g),.int .i64 key] (.sl rInt (getO g.orders key)):=by
 refine FnP.mk func7 O ntmps7 O fun B a w F J hfr G=>?_
 have hso:=hs.1
 refine Ya (Zb G (qx 101 r1 (qf (Zh6 102 .t one_int) r1 qz (qC qZ))) J [4,3,2] [102,101,0] (fun _=>rfl) (fun _=>rfl) fun τ a w F G=>?_)
 try dsimp only [RS.sub,SF.sub,CF.sub,csub,Anc.sub,List.map,zCF,Zp,rTx,ZA,ZX,rInt,rOp] at G
 generalize τ 2=v2,τ 3=v3 at G
 refine Za (Ya (ZaC 2 G kr (cG O (oF 1 101 .is) r1 r1 (cG O (oL false 1 101 .adr) r1 r1 ZJ.nil)) kr (by rw [J];kernel_rfl) fun a w F G=>?_))
 obtain ⟨F,G⟩:=G.nM [7,4,3,2] [102,101,0]
 try dsimp only [List.map,xD,xE,xT,xU,ldSF,Zp,rTx,ZA,ZX,rInt,rOp] at G
 obtain ⟨F,G⟩:=G.giveRef 102 3 O O rfl
 obtain ⟨F,G⟩:=G.nM [7,4,3,2] [101,0]
 try dsimp only [Go.Gm.unCF] at G
 refine ZaZ G kr (cG O (ZaV (Args.one .t)) r1 trivial (cG O (oP (ZlF g.orders (fun o=>decide (o.key=key)) 21 f21 [.ref [.int .i64 key]] func21 O kr (fun o=>Znb o key)) func20 (Args.two .t .t)) r2 trivial (cG O (oN .t) r1 trivial ZJ.nil))) kr (by rw [J];kernel_rfl) fun a w F G=>?_
 obtain ⟨F,G⟩:=G.nM [5,4,2] [101,0]
 try dsimp only [Zp,rTx,ZA,ZX,rInt,rOp] at G
 refine Za (Ya (Ya (rZ G (qR rr (qf (Zcz .t qi) r1 qz qZ)) J [11,5,4,2] [101,0] fun G=>?_)))
 refine Zc G O (fun hc0=>?_) (fun hc0=>?_)
 ·have hg:[] = getO g.orders key:=(ZfH.1 (by simpa using hc0)).symm
  refine Ya (rZ G (qC qZ) J [5,4,2] [101,0] fun G=>(Yg (Ze ?_)))
  refine Zt hfr G O O O (by first | exact .sl hg | (rw [← hg];exact .nilSl))
 obtain ⟨fi,hfi,hfl,hfg⟩:=ZfH.2 (show ¬ ZV (fun o:OrdD=>decide (o.key=key)) g.orders<0 by simpa using hc0)
 have hg:(Nn g.orders (ZV (fun o:OrdD=>decide (o.key=key)) g.orders).toNat).txs=getO g.orders key:=by rw [hfi,Yc,hfg]
 refine Yi (Za (Ya (Zf G (qg 1 101 r1 r1 (qa 101 r1 r1 (qR rr (qf (Z0 (sz:=2) (.mk YbB kr) (by intro x;rfl) .t .t (by rw [hfi];omega) (by rw [hfi];omega)) r2 qz (qf (oG 1 .t) r1 qz (qf (oR false 1 .t) r1 qz (qf (oP (cloneIP_c _ (by rw [hfi,Yc];have:=hs.at hfl;omega)) func22 (Args.one .t)) r1 qz (qO rr qZ)))))))) J [4] [101,0] O O fun a w F G=>?_)))
 try simp only [Yc] at G
 refine Za (Yg (Zt hfr G O O O (by first | exact .sl hg | (rw [← hg];exact .nilSl))))
theorem Zmv (x y:List OpD):FnP prog 87 [.sl rOp x,.sl rOp y] (.bool (decide (x=y))):=by
 refine FnP.mk func87 O ntmps87 O fun B a w F J hfr G=>?_
 have hxl:=Sat.lenSl G (i:=0) rfl
 refine Ya (rZ G qB J [4,1,0] [0] fun G=>(Ya (Ya ?_)))
 refine rZ G (qR rr (qu YbC r1 (qR rr (qu YbC r1 (qf (o_neq .t .t) r2 qz qZ))))) J [10,4,1,0] [0] fun G=>?_
 refine Zc G O (fun hc0=>?_) (fun hc0=>?_)
 ·have hg:false=decide (x=y):=by
    rw [Y3,YG]
    intro h
    subst h
    simp at hc0
  refine Ya (rZ G qB J [4,1,0] [0] fun G=>(Yg (Ze ?_)))
  refine Zt hfr G O O O (.bool hg)
 have hl:x.length=y.length:=by simp at hc0;omega
 refine Yi (Za (Ya (Ya (rZ G (qR rr (qu YbC r1 (qJ qZ))) J [13,12,4,1,0] [0] fun G=>Yj ?_))))
 obtain ⟨F,G⟩:=G.nM [13,12,1,0] [0]
 refine ZcR (σ:=Nat) (fun s=>(⟨[(0,.pv (.sl rOp x)),(1,.pv (.sl rOp y)),(12,.pv (.int .i64 x.length)),(13,.pv (.int .i64 s))],[(0,frame B)]⟩:En)) (fun s=>s≤x.length ∧ ∀ j,j<s→Nn x j=Nn y j) (fun s=>x.length - s) 0 G ⟨Yr _,fun j hj=>absurd hj (Y5 j)⟩ ?_
 clear G;intro i a w F hC G
 try dsimp only at hC
 try dsimp only at G
 obtain ⟨hi,hq⟩:=hC
 refine Ya (rZ G (qL r2) J [14,13,12,1,0] [0] fun G=>Ya ?_)
 refine Zc G O (fun hc1=>?_) (fun hc1=>?_)
 ·have hil:i<x.length:=by simp at hc1;omega
  refine Yi (Za (Ya (Yj (Ya (rZ G (qR rr (qO rr qZ)) J [13,12,5,1,0] [0] fun G=>Ya ?_)))))
  refine ZO G (qR rr (qR rr (qy 4 YbC r2 (qf (oR true 4 .t) r1 qz (qR rr (qR rr (qy 4 YbC r2 (qf (oR true 4 .t) r1 qz (qf (Znp (ks:=[false,true,true,true]) kr .t .t (.bool (.int (.int (.int .nil))))) r2 qz qZ))))))))) J [24,13,12,1,0] [0] O O fun a w F G=>?_
  try dsimp only [List.map,xD,xE,xT,xU,ldSF] at G
  refine Za (Zc G O (fun hc2=>?_) (fun hc2=>?_))
  ·have hg:false=decide (x=y):=by
     rw [Y3,YG]
     intro h
     subst h
     simp at hc2
   refine Ya (rZ G qB J [13,12,4,1,0] [0] fun G=>(Yg (Zl (Ze (Ze (Zl (Ze ?_)))))))
   refine Zt hfr G O O O (.bool hg)
  rw [Yc] at hc2
  have hqi:Nn x i=Nn y i:=ZoX hc2
  refine Yi (Zk (Za (rZ G (qp r1 (qR rr qZ)) J [13,12,1,0] [0] fun G=>?_)))
  replace G:=G.ent (i:=13) (s':=.pv (.int .i64 ((i+1:Nat):Int))) O (.int (Zh ow))
  obtain ⟨F,G⟩:=G.nM [13,12,1,0] [0]
  exact ⟨i+1,F,⟨by omega,fun j hj=>by rcases YV (Y6 hj) with h | h;exact hq j h;rw [h];exact hqi⟩,G,by omega⟩
 have hg:true=decide (x=y):=by
   rw [Y3,Yu]
   exact Zda hl fun j hj=>hq j (by simp at hc1;omega)
 refine YA (Zj (Zj (Zw (Za (Ya (rZ G qB J [4] [0] fun G=>Yg ?_))))))
 refine Zt hfr G O O O (.bool hg)
theorem ZnO (u v:TxD):((decide (u.id=v.id) && (u.done == v.done)) && decide (u.ops=v.ops))=decide (u=v):=by
 cases u;cases v
 rw [YaD]
 simp [and_assoc]
theorem ZmY (x y:List OpD):FnP prog 59 [.sl rOp x,.sl rOp y] (.bool (decide (x=y))):=by
 refine FnP.mk func59 O ntmps59 O fun B a w F J hfr G=>Ya ?_
 refine rZ G qB J [4,1,0] [0] fun G=>Ya ?_
 refine rZ G (qR rr (qR rr (qf (oP (Zmv x y) func87 (Args.two .t .t)) r2 qz (qO rr qZ)))) J [4] [0] fun G=>Yg ?_
 refine Zt hfr G O O O .refl
theorem Zmm (u v:TxD):FnP prog 31 [.agg (rTx u),.agg (rTx v)] (.bool (decide (u=v))):=by
 refine FnP.mk func31 O ntmps31 O fun B a w F J hfr G=>Ya ?_
 refine Zb G (qx 101 r1 (qx 102 r1 qB)) J [4,3,2] [102,101,0] (fun _=>rfl) (fun _=>rfl) fun τ a w F G=>?_
 try dsimp only [RS.sub,SF.sub,CF.sub,csub,Anc.sub,List.map,zCF,rTx,rOp] at G
 generalize τ 2=v2,τ 3=v3 at G
 refine Za (Ya (rZ G (qg 0 101 r1 r1 (qa 101 r1 r1 (qg 0 102 r1 r1 (qa 102 r1 r1 (qf (o_eql .t .t) r2 qz (qR rr (qv 1 101 O r2 r1 (qw 101 O r2 r1 (qv 1 102 O r2 r1 (qw 102 O r2 r1 (qk O (fun h=>Zny underlying4 (.w h) (.w h)) r3 qz (qf (ZR .t .t) r2 qz (qR rr (qv 2 101 O r2 r1 (qw 101 O r2 r1 (qv 2 102 O r2 r1 (qw 102 O r2 r1 (qk O (fun h=>oP (ZmY u.ops v.ops) func59 (Args.two (.w h) (.w h))) r3 qz (qf (ZR .t .t) r2 qz (qO rr qZ)))))))))))))))))))) J [4] [102,101,0] fun G=>Yg ?_))
 refine Zt hfr G O O O (.bool (ZnO u v))
theorem ZpE (x y : List TxD) (f : FuncId) (fn : Func) (cps : List PV) (hf : prog.funcs[f]? = some fn) (hb : fn.body.isSome = true) (hnn : (fn.name == "runtime.NumGoroutine") = false) (hw : ∀ u v : TxD, FnP prog f (.agg (rTx u) :: .agg (rTx v) :: cps) (.bool (decide (u = v)))) : FnP prog 30 [.sl rTx x, .sl rTx y, .clos f cps] (.bool (decide (x = y))) := by
 refine FnP.mk func30 O ntmps30 O fun B a w F J hfr G=>?_
 have hxl:=Sat.lenSl G (i:=0) rfl
 refine Ya (rZ G qB J [6,2,1,0] [0] fun G=>(Ya (Ya ?_)))
 refine rZ G (qR rr (qu YbA r1 (qR rr (qu YbA r1 (qf (o_neq .t .t) r2 qz qZ))))) J [14,6,2,1,0] [0] fun G=>?_
 refine Zc G O (fun hc0=>?_) (fun hc0=>?_)
 ·skip
  have hg:false=decide (x=y):=(Ym fun e=>by subst e;simp at hc0).symm
  refine Ya (rZ G qB J [6,2,1,0] [0] fun G=>(Yg (Ze ?_)))
  refine Zt hfr G O O O (.bool hg)
 have hln:x.length=y.length:=by simp at hc0;omega
 refine Yi (Za (Ya (Ya (rZ G (qR rr (qu YbA r1 (qJ qZ))) J [17,16,15,6,2,1] [0] fun G=>Yj ?_))))
 refine Zo (σ:=(Nat)) [1,2,6,15,16] [0] (fun s=>[(17,.pv (.int .i64 (s:Int)))]) (fun s=>[]) (fun s=>s≤x.length∧(∀ q,q<s→Nn x q=Nn y q)) (fun s=>x.length - s) (0) G ⟨rfl,rfl,rfl,rfl,rfl,rfl,tv⟩ ⟨rfl,tv⟩ ⟨Yr _,fun q hq=>absurd hq (Y5 q)⟩ ?_
 clear G;intro i a w F hC G
 try dsimp only at hC
 obtain ⟨F,G⟩:=G.nM [17,16,15,6,2,1] [0]
 try dsimp only at G
 obtain ⟨hi,hq⟩:=hC
 refine Ya (rZ G (qL r2) J [18,17,16,15,6,2,1] [0] fun G=>Ya ?_)
 refine Zc G O (fun hc1=>?_) (fun hc1=>?_)
 ·skip
  have hil:i<x.length:=by simp at hc1;omega
  refine Yi (Za (Ya (Yj (Ya (Zb G (qR rr (qy 3 YbA r2 (qf (oR true 3 .t) r1 qz (qf (oH [.int .i64 0,.bool false,.slice none 0 0] 101) trivial qz (qO rr (qS 3 101 r2 r1 qZ)))))) J [17,16,15,8,7,6,2,1] [101,0] (fun _=>rfl) (fun _=>rfl) fun τ a w F G=>?_)))))
  try dsimp only [RS.sub,SF.sub,CF.sub,csub,Anc.sub,List.map,Zg,xL,xM,Nat.reduceAdd,xD,xE,xT,xU,xC,xN,zCF,ldSF,rTx] at G
  generalize τ 8=v8 at G
  try simp only [Yc] at G
  refine Za (Ya (Zb G (qR rr (qR rr (qy 3 YbA r2 (qf (oR true 3 .t) r1 qz (qf (oH [.int .i64 0,.bool false,.slice none 0 0] 102) trivial qz (qS 3 102 r2 r1 qZ)))))) J [17,16,15,9,8,6,2,1] [102,101,0] (fun _=>rfl) (fun _=>rfl) fun τ a w F G=>?_))
  try dsimp only [RS.sub,SF.sub,CF.sub,csub,Anc.sub,List.map,Zg,xL,xM,Nat.reduceAdd,xD,xE,xT,xU,xC,xN,zCF,ldSF,rTx] at G
  generalize τ 9=v9 at G
  try simp only [Yc] at G
  refine Za (Ya (rZ G (qR rr (qe 3 101 r1 r1 (qe 3 102 r1 r1 (qf (ZL (avs:=[.agg (rTx (Nn x i)),.agg (rTx (Nn y i))]) .t (hw (Nn x i) (Nn y i)) hf hb hnn (Args.two (.pagg .t) (.pagg .t))) r3 qz (qf (o_not .t) r1 qz qZ))))) J [30,17,16,15,6,2,1] [102,101,0] fun G=>?_))
  refine Zc G O (fun hc2=>?_) (fun hc2=>?_)
  ·skip
   have hg:false=decide (x=y):=(Ym fun e=>by subst e;simp at hc2).symm
   refine Ya (rZ G qB J [17,16,15,6,2,1] [102,101,0] fun G=>(Yg (Zl (Ze (Ze (Zl (Ze ?_)))))))
   refine Zt hfr G O O O (.bool hg)
  have hne:(Nn x i)=(Nn y i):=by simpa using hc2
  refine Yi (Zk (Za (rZ G (qp r1 (qR rr qZ)) J [17,16,15,6,2,1] [102,101,0] fun G=>?_)))
  replace G:=G.ent (i:=17) (s':=.pv (.int .i64 ((i+1:Nat):Int))) O (.int (Zh ow))
  obtain ⟨F,G⟩:=G.nM [16,15,6,2,1,17] [0]
  exact ⟨(i+1),F,⟨by omega,(fun q h9=>by rcases YV (Y6 h9) with h8 | h8;exact hq q h8;rw [h8];exact hne)⟩,G,by omega⟩
 have hil:i=x.length:=by simp at hc1;omega
 have hg:true=decide (x=y):=(YR (Zda hln fun j hj=>hq j ow)).symm
 refine YA (Zj (Zj (Zw (Za (Ya (rZ G qB J [6] [0] fun G=>Yg ?_))))))
 refine Zt hfr G O O O (.bool hg)
theorem ZpP (x y : List OrdD) (f : FuncId) (fn : Func) (cps : List PV) (hf : prog.funcs[f]? = some fn) (hb : fn.body.isSome = true) (hnn : (fn.name == "runtime.NumGoroutine") = false) (hw : ∀ u v : OrdD, FnP prog f (.agg (ZA u) :: .agg (ZA v) :: cps) (.bool (decide (u = v)))) : FnP prog 32 [.sl ZA x, .sl ZA y, .clos f cps] (.bool (decide (x = y))) := by
 refine FnP.mk func32 O ntmps32 O fun B a w F J hfr G=>?_
 have hxl:=Sat.lenSl G (i:=0) rfl
 refine Ya (rZ G qB J [6,2,1,0] [0] fun G=>(Ya (Ya ?_)))
 refine rZ G (qR rr (qu YbB r1 (qR rr (qu YbB r1 (qf (o_neq .t .t) r2 qz qZ))))) J [14,6,2,1,0] [0] fun G=>?_
 refine Zc G O (fun hc0=>?_) (fun hc0=>?_)
 ·skip
  have hg:false=decide (x=y):=(Ym fun e=>by subst e;simp at hc0).symm
  refine Ya (rZ G qB J [6,2,1,0] [0] fun G=>(Yg (Ze ?_)))
  refine Zt hfr G O O O (.bool hg)
 have hln:x.length=y.length:=by simp at hc0;omega
 refine Yi (Za (Ya (Ya (rZ G (qR rr (qu YbB r1 (qJ qZ))) J [17,16,15,6,2,1] [0] fun G=>Yj ?_))))
 refine Zo (σ:=(Nat)) [1,2,6,15,16] [0] (fun s=>[(17,.pv (.int .i64 (s:Int)))]) (fun s=>[]) (fun s=>s≤x.length∧(∀ q,q<s→Nn x q=Nn y q)) (fun s=>x.length - s) (0) G ⟨rfl,rfl,rfl,rfl,rfl,rfl,tv⟩ ⟨rfl,tv⟩ ⟨Yr _,fun q hq=>absurd hq (Y5 q)⟩ ?_
 clear G;intro i a w F hC G
 try dsimp only at hC
 obtain ⟨F,G⟩:=G.nM [17,16,15,6,2,1] [0]
 try dsimp only at G
 obtain ⟨hi,hq⟩:=hC
 refine Ya (rZ G (qL r2) J [18,17,16,15,6,2,1] [0] fun G=>Ya ?_)
 refine Zc G O (fun hc1=>?_) (fun hc1=>?_)
 ·skip
  have hil:i<x.length:=by simp at hc1;omega
  refine Yi (Za (Ya (Yj (Ya (Zb G (qR rr (qy 2 YbB r2 (qf (oR true 2 .t) r1 qz (qf (oH [.int .i64 0,.slice none 0 0] 101) trivial qz (qO rr (qS 2 101 r2 r1 qZ)))))) J [17,16,15,8,7,6,2,1] [101,0] (fun _=>rfl) (fun _=>rfl) fun τ a w F G=>?_)))))
  try dsimp only [RS.sub,SF.sub,CF.sub,csub,Anc.sub,List.map,Zg,xL,xM,Nat.reduceAdd,xD,xE,xT,xU,xC,xN,zCF,ldSF,ZA] at G
  generalize τ 8=v8 at G
  try simp only [Yc] at G
  refine Za (Ya (Zb G (qR rr (qR rr (qy 2 YbB r2 (qf (oR true 2 .t) r1 qz (qf (oH [.int .i64 0,.slice none 0 0] 102) trivial qz (qS 2 102 r2 r1 qZ)))))) J [17,16,15,9,8,6,2,1] [102,101,0] (fun _=>rfl) (fun _=>rfl) fun τ a w F G=>?_))
  try dsimp only [RS.sub,SF.sub,CF.sub,csub,Anc.sub,List.map,Zg,xL,xM,Nat.reduceAdd,xD,xE,xT,xU,xC,xN,zCF,ldSF,ZA] at G
  generalize τ 9=v9 at G
  try simp only [Yc] at G
  refine Za (Ya (rZ G (qR rr (qe 2 101 r1 r1 (qe 2 102 r1 r1 (qf (ZL (avs:=[.agg (ZA (Nn x i)),.agg (ZA (Nn y i))]) .t (hw (Nn x i) (Nn y i)) hf hb hnn (Args.two (.pagg .t) (.pagg .t))) r3 qz (qf (o_not .t) r1 qz qZ))))) J [30,17,16,15,6,2,1] [102,101,0] fun G=>?_))
  refine Zc G O (fun hc2=>?_) (fun hc2=>?_)
  ·skip
   have hg:false=decide (x=y):=(Ym fun e=>by subst e;simp at hc2).symm
   refine Ya (rZ G qB J [17,16,15,6,2,1] [102,101,0] fun G=>(Yg (Zl (Ze (Ze (Zl (Ze ?_)))))))
   refine Zt hfr G O O O (.bool hg)
  have hne:(Nn x i)=(Nn y i):=by simpa using hc2
  refine Yi (Zk (Za (rZ G (qp r1 (qR rr qZ)) J [17,16,15,6,2,1] [102,101,0] fun G=>?_)))
  replace G:=G.ent (i:=17) (s':=.pv (.int .i64 ((i+1:Nat):Int))) O (.int (Zh ow))
  obtain ⟨F,G⟩:=G.nM [16,15,6,2,1,17] [0]
  exact ⟨(i+1),F,⟨by omega,(fun q h9=>by rcases YV (Y6 h9) with h8 | h8;exact hq q h8;rw [h8];exact hne)⟩,G,by omega⟩
 have hil:i=x.length:=by simp at hc1;omega
 have hg:true=decide (x=y):=(YR (Zda hln fun j hj=>hq j ow)).symm
 refine YA (Zj (Zj (Zw (Za (Ya (rZ G qB J [6] [0] fun G=>Yg ?_))))))
 refine Zt hfr G O O O (.bool hg)
theorem ZnU (u v:OrdD):FnP prog 33 [.agg (ZA u),.agg (ZA v)] (.bool (decide (u=v))):=by
 refine FnP.mk func33 O ntmps33 O fun B a w F J hfr G=>Ya ?_
 refine Zb G (qx 101 r1 (qx 102 r1 qB)) J [4,3,2] [102,101,0] (fun _=>rfl) (fun _=>rfl) fun τ a w F G=>?_
 try dsimp only [RS.sub,SF.sub,CF.sub,csub,Anc.sub,List.map,zCF,Zp,rTx,ZA,ZX,rInt,rOp] at G
 generalize τ 2=v2,τ 3=v3 at G
 refine Za (Ya (rZ G (qg 0 101 r1 r1 (qa 101 r1 r1 (qg 0 102 r1 r1 (qa 102 r1 r1 (qf (o_eql .t .t) r2 qz (qR rr (qv 1 101 O r2 r1 (qw 101 O r2 r1 (qv 1 102 O r2 r1 (qw 102 O r2 r1 (qk O (fun h=>oP (Zob u.txs v.txs) func34 (Args.two (.w h) (.w h))) r3 qz (qf (ZR .t .t) r2 qz (qO rr qZ))))))))))))) J [4] [102,101,0] fun G=>Yg ?_))
 refine Zt hfr G O O O (.bool (Zow))
theorem Zn4 (u v:Zn):FnP prog 10 [.agg (Zp u),.agg (Zp v)] (.bool (decide (u=v))):=by
 refine FnP.mk func10 O ntmps10 O fun B a w F J hfr G=>Ya ?_
 refine Zb G (qx 101 r1 (qx 102 r1 qB)) J [4,3,2] [102,101,0] (fun _=>rfl) (fun _=>rfl) fun τ a w F G=>?_
 try dsimp only [RS.sub,SF.sub,CF.sub,csub,Anc.sub,List.map,zCF,Zp,rTx,ZA,ZX,rInt,rOp] at G
 generalize τ 2=v2,τ 3=v3 at G
 refine Za (Ya (rZ G (qg 0 101 r1 r1 (qa 101 r1 r1 (qg 0 102 r1 r1 (qa 102 r1 r1 (qf (oP (ZpE u.txs v.txs 31 f31 [] func31 O kr (fun a b=>Zmm a b)) func30 (Args.three .t .t (.conv .f (Ent.fnClos)))) r2 qz (qR rr (qv 1 101 O r2 r1 (qw 101 O r2 r1 (qv 1 102 O r2 r1 (qw 102 O r2 r1 (qk O (fun h=>oP (ZpP u.orders v.orders 33 f33 [] func33 O kr (fun a b=>ZnU a b)) func32 (Args.three (.w h) (.w h) (.conv .f (Ent.fnClos)))) r3 qz (qf (ZR .t .t) r2 qz (qO rr qZ))))))))))))) J [4] [102,101,0] fun G=>Yg ?_))
 refine Zt hfr G O O O (.bool (Zmq u v))
instance (l:List TxD):Decidable (Zbd l):=by unfold Zbd;exact inferInstance
instance (l:List OrdD):Decidable (Zb7 l):=by unfold Zb7;exact inferInstance
instance (g:Zn):Decidable (Zbk g):=by unfold Zbk;exact inferInstance
theorem ZcG {l:List TxD} {k x:Int} : x ∈ ZH l k ↔ ∃ t ∈ l,t.id=x∧t.done=true∧0<wcnt t.ops k:=by
 unfold ZH
 rw [YD]
 constructor
 ·rintro ⟨t,ht,e⟩
  rw [YN] at ht
  simp at ht
  exact ⟨t,ht.1,e,ht.2.1,ht.2.2⟩
 ·rintro ⟨t,ht,e,h1,h2⟩
  exact ⟨t,by rw [YN];simp [ht,h1,h2],e⟩
theorem Zbr {l:List TxD} (h:Zcc TxD.id l) (k:Int):(ZH l k).Nodup:=by
 unfold ZH
 have h1:(l.map TxD.id).Nodup:=(Yay.2 (Zx.1 h)).imp fun h=>Int.ne_of_lt h
 exact (h1.sublist ((List.filter_sublist).map _))
theorem Zgl {l:List TxD} (h:Zcc TxD.id l) {t:TxD} (ht:t ∈ l):ZaO l t.id=some t:=by
 have h:=Zx.1 h
 induction l with
 | nil=>cases ht
 | cons x l ih=>
  rw [Yq] at h
  unfold ZaO
  rw [List.find?_cons]
  rcases Yo.1 ht with rfl | ht
  ·simp
  ·have:=h.1 t ht
   rw [show decide (x.id=t.id)=false by simp;omega]
   exact ih (Zx.2 h.2) ht h.2
theorem Zl6 {l:List TxD} {id:Int} (h:∀ t ∈ l,t.id≠id):ZaO l id=none:=by
 unfold ZaO
 exact List.find?_eq_none.2 fun t ht=>by simpa using h t ht
theorem Zb3 {g:Zn} : ZE g ↔ g.txs.length≤4096∧Zcc TxD.id g.txs∧(∀ t ∈ g.txs,Zak t=0∧ZdA g t=true)∧Zcc OrdD.key g.orders∧NE g.orders ∧ ∀ k,(getO g.orders k).Perm (ZH g.txs k):=by
 constructor
 ·intro h
  obtain ⟨r1',r2'⟩:=ZD h
  have hne:=Zc8 h
  have h2:=(Zci g).2 h.2.2
  refine ⟨h.1,r1',fun t ht=>?_,r2',hne,fun k=>?_⟩
  ·obtain ⟨j,hj,e⟩:=YL ht
   have:=(h.2.1 j hj).2
   rwa [Zm hj,e] at this
  ·by_cases hk:getO g.orders k = []
   ·rw [hk]
    have hw:ZH g.txs k = []:=by
     refine YaN fun hw=>?_
     obtain ⟨j,hj,e⟩:=YL (ZbU.2 hw)
     have hjo:j<g.orders.length:=by rw [h.2.2.1];exact hj
     have h3:=(h.2.2.2 j hjo).1
     rw [Zm hj,e] at h3
     have h4:=Zcb (Zx.1 r2') (Z5 hjo)
     rw [h3,hk] at h4
     exact hne _ (Z5 hjo) h4.symm
    rw [hw]
   ·have hm:=Zd1 hk
    obtain ⟨j,hj,e⟩:=YL hm
    have:=(h2.2 j hj).2.2
    rw [Zm hj,e] at this
    exact this
 ·rintro ⟨h1,h2,h3,h4,h5,h6⟩
  have hk:g.orders.map OrdD.key=Zbi g.txs:=by
   refine Zdj (Yay.2 (Zx.1 h4)) (ZaH _).1 fun k=>?_
   rw [ZbU,YD]
   constructor
   ·rintro ⟨o,ho,rfl⟩ e
    have:=h6 o.key
    rw [e,Zcb (Zx.1 h4) ho] at this
    exact h5 o ho this.eq_nil
   ·intro e
    have:getO g.orders k≠[]:=fun e2=>by
     have:=h6 k
     rw [e2] at this
     exact e this.symm.eq_nil
    exact ⟨_,Zd1 this,rfl⟩
  have hlen:g.orders.length=(Zbi g.txs).length:=by rw [← hk,YY]
  refine ⟨h1,fun i hi=>?_,(Zci g).1 ⟨hlen,fun i hi=>?_⟩⟩
  ·obtain ⟨g1,g2⟩:=h3 _ (Z5 hi)
   exact ⟨fun h0=>h2 (i - 1) i ow hi,g1,g2⟩
  ·refine ⟨fun h0=>h4 (i - 1) i ow hi,h5 _ (Z5 hi),?_⟩
   have:=h6 (Nn g.orders i).key
   rwa [Zcb (Zx.1 h4) (Z5 hi)] at this
theorem ZkP {t:TxD} {l:List Int} {k x:Int} : x ∈ ZgG t l k ↔ (x ∈ l∧x≠t.id)∨(x=t.id∧t.done=true∧0<wcnt t.ops k):=by
 unfold ZgG
 by_cases h:t.done=true∧0<wcnt t.ops k
 ·rw [Ye h]
  unfold withO
  split
  ·rename_i hi
   constructor
   ·intro hx
    by_cases e:x=t.id
    ·exact .inr ⟨e,h⟩
    ·exact .inl ⟨hx,e⟩
   ·rintro (⟨hx,_⟩ | ⟨rfl,_⟩)
    ·exact hx
    ·exact hi
  ·rename_i hi
   rw [YM,Yl]
   constructor
   ·rintro (hx | hx)
    ·exact .inl ⟨hx,fun e=>hi (e ▸ hx)⟩
    ·exact .inr ⟨hx,h⟩
   ·rintro (⟨hx,_⟩ | ⟨e,_⟩)
    ·exact .inl hx
    ·exact .inr e
 ·rw [Yb h]
  unfold withoutO
  rw [YN,Yu]
  exact ⟨fun h1=>.inl h1,fun h1=>h1.elim id fun h2=>absurd h2.2 h⟩
theorem ZhB {t:TxD} {l:List Int} (h:l.Nodup) (k:Int):(ZgG t l k).Nodup:=by
 unfold ZgG
 split
 ·unfold withO
  split
  ·exact h
  ·rename_i hi
   rw [YaU]
   exact ⟨h,by simp,fun a ha b hb=>by rw [Yl] at hb;subst hb;exact fun e=>hi (e ▸ ha)⟩
 ·exact h.filter _
theorem Zdh {g:Zn} {t:TxD} {b:Bool} {l:List TxD} (hR:ZE g) (hs:Zb7 g.orders) (hr:Zcc TxD.id l) (hl:l.length≤4096) (hM:∀ s,s ∈ l ↔ (s ∈ g.txs∧s.id≠t.id)∨(s=t∧b=true))
  (ht:b=true→Zak t=0∧ZdA g t=true) (hb:b=false→t.done=false)
  (hu:∀ x ∈ l,∀ v ∈ ZaF x,v.tx=t.id→ZhA g v=true→¬ (v.tx=0∧v.nth=0)→b=true∧v.nth≤(wcnt t.ops v.key:Int)):ZE ⟨l,settleO t g.orders⟩:=by
 obtain ⟨h1,h2,h3,h4,h5,h6⟩:=Zb3.1 hR
 obtain ⟨s1,s2⟩:=ZhY (t:=t) h4 hs
 have hhas:∀ x ∈ l,∀ v ∈ ZaF x,ZhA g v=true→ZhA ⟨l,settleO t g.orders⟩ v=true:=by
  intro x hx v hv hg
  by_cases hz:v.tx=0∧v.nth=0
  ·unfold ZhA at hg ⊢
   rw [Ye hz] at hg ⊢
   exact hg
  ·have hu2:=hu x hx v hv
   unfold ZhA at hg hu2 ⊢
   rw [Yb hz] at hg hu2 ⊢
   by_cases e:v.tx=t.id
   ·obtain ⟨b1,b2⟩:=hu2 e hg hz
    have hm:t ∈ l:=(hM t).2 (.inr ⟨rfl,b1⟩)
    have hf:=Zgl hr hm
    simp only [Yw,Yu] at hg ⊢
    show _∧_
    rw [e,hf]
    exact ⟨rfl,hg.2.1,b2⟩
   ·have hf:ZaO l v.tx=ZaO g.txs v.tx:=by
     cases hc:ZaO g.txs v.tx with
     | none=>
      refine Zl6 fun s hsl es=>?_
      rcases (hM s).1 hsl with ⟨m1,m2⟩ | ⟨rfl,_⟩
      ·have:=Zgl h2 m1
       rw [es,hc] at this;cases this
      ·exact e es.symm
     | some s=>
      obtain ⟨m1,m2⟩:=findT_mem hc
      have hm:s ∈ l:=(hM s).2 (.inl ⟨m1,by rw [m2];exact e⟩)
      have:=Zgl hr hm
      rwa [m2] at this
    show (((ZaO l v.tx).isSome && _):Bool)=true
    rw [hf];exact hg
 refine Zb3.2 ⟨hl,hr,fun x hx=>?_,Zx.2 s1,s2,fun k=>?_⟩
 ·have hx2:Zak x=0∧ZdA g x=true:=by
   rcases (hM x).1 hx with ⟨m1,_⟩ | ⟨rfl,b1⟩
   ·exact h3 x m1
   ·exact ht b1
  refine ⟨hx2.1,?_⟩
  have h7:=hx2.2
  unfold ZdA at h7 ⊢
  rw [YaR] at h7 ⊢
  exact fun v hv=>hhas x hx v hv (h7 v hv)
 ·rw [ZjN h4 k]
  have hn:(getO g.orders k).Nodup:=(h6 k).symm.nodup (Zbr h2 k)
  refine (List.perm_ext_iff_of_nodup (ZhB hn k) (Zbr hr k)).2 fun x=>?_
  rw [ZkP,ZcG,(h6 k).mem_iff,ZcG]
  constructor
  ·rintro (⟨⟨s,m1,m2,m3,m4⟩,m5⟩ | ⟨rfl,m3,m4⟩)
   ·exact ⟨s,(hM s).2 (.inl ⟨m1,by rw [m2];exact m5⟩),m2,m3,m4⟩
   ·refine ⟨t,(hM t).2 (.inr ⟨rfl,?_⟩),rfl,m3,m4⟩
    cases b with
    | true=>rfl
    | false=>rw [hb rfl] at m3;cases m3
  ·rintro ⟨s,m1,m2,m3,m4⟩
   rcases (hM s).1 m1 with ⟨m5,m6⟩ | ⟨rfl,_⟩
   ·exact .inl ⟨⟨s,m5,m2,m3,m4⟩,by rw [← m2];exact m6⟩
   ·exact .inr ⟨m2.symm,m3,m4⟩
theorem ZlT {l:List TxD} {t:TxD} (h:Zcc TxD.id l) (hk:isK TxD.id t.id l=false):Zcc TxD.id (l.take (lowK TxD.id t.id l) ++ [t] ++ l.drop (lowK TxD.id t.id l)) ∧ ∀ s,s ∈ l.take (lowK TxD.id t.id l) ++ [t] ++ l.drop (lowK TxD.id t.id l) ↔ (s ∈ l∧s.id≠t.id)∨(s=t∧true=true):=by
 rw [← Zhd (Zx.1 h) hk]
 refine ⟨Zx.2 (Zdt (Zx.1 h)),fun s=>?_⟩
 rw [Zhd (Zx.1 h) hk,YM,YM,Yl]
 have hne:∀ s ∈ l,s.id≠t.id:=fun s hs e=>by
  have:=YaV.1 hk s hs
  simp at this;exact this e
 constructor
 ·rintro ((h1 | h1) | h1)
  ·exact .inl ⟨YaB h1,hne s (YaB h1)⟩
  ·exact .inr ⟨h1,rfl⟩
  ·exact .inl ⟨YaI h1,hne s (YaI h1)⟩
 ·rintro (⟨h1,_⟩ | ⟨h1,_⟩)
  ·rw [← Yaw (lowK TxD.id t.id l) l,YM] at h1
   rcases h1 with h1 | h1
   ·exact .inl (.inl h1)
   ·exact .inr h1
  ·exact .inl (.inr h1)
theorem ZmR {l:List TxD} {t:TxD} (h:Zcc TxD.id l) (hk:isK TxD.id t.id l=true):Zcc TxD.id (l.set (lowK TxD.id t.id l) t) ∧ ∀ s,s ∈ l.set (lowK TxD.id t.id l) t ↔ (s ∈ l∧s.id≠t.id)∨(s=t∧true=true):=by
 rw [← ZgT (Zx.1 h) hk]
 refine ⟨Zx.2 (Zdt (Zx.1 h)),fun s=>?_⟩
 constructor
 ·intro hs
  rcases ZeJ hs with ⟨rfl,_⟩ | h1
  ·exact .inr ⟨rfl,rfl⟩
  ·exact .inl h1
 ·have key:∀ (l:List TxD) (d:Bool),((s ∈ l∧s.id≠t.id)∨(s=t∧d=false))→s ∈ Za9 TxD.id t l d:=by
   intro l
   induction l with
   | nil=>
    rintro d (⟨h1,_⟩ | ⟨rfl,h1⟩)
    ·cases h1
    ·subst h1;simp [Za9]
   | cons x l ih=>
    intro d hx
    rw [Za9,YM,YM]
    rcases hx with ⟨h1,h2⟩ | ⟨rfl,h1⟩
    ·rcases Yo.1 h1 with rfl | h1
     ·exact .inl (.inr (by rw [Yb h2];simp))
     ·exact .inr (ih _ (.inl ⟨h1,h2⟩))
    ·by_cases hA:s.id≤x.id
     ·exact .inl (.inl (by rw [Ye ⟨h1,hA⟩];simp))
     ·exact .inr (ih _ (.inr ⟨rfl,by rw [h1];simp;omega⟩))
  rintro (h1 | ⟨h1,_⟩)
  ·exact key l false (.inl h1)
  ·exact key l false (.inr ⟨h1,rfl⟩)
theorem Zmc {t:TxD} {v:ZbA} (h:v ∈ ZaF t):v.tx≠t.id:=by
 have key:∀ (l:List OpD) (out:List ZbA),(∀ v ∈ out,v.tx≠t.id) → ∀ v ∈ l.foldl (Zaw t.id) out,v.tx≠t.id:=by
  intro l
  induction l with
  | nil=>intro out h;exact h
  | cons o l ih=>
   intro out h
   refine ih _ fun v hv=>?_
   unfold Zaw at hv
   split at hv
   ·rename_i hc
    rcases YM.1 hv with hv | hv
    ·exact h v hv
    ·have e:v=ofO o:=by simpa using hv
     have hn:=hc.1
     unfold Zi8 at hn
     simp at hn
     rw [e]
     unfold ofO
     rw [Ye hn.1.1]
     exact hn.2
   ·exact h v hv
 exact key _ _ (fun v hv=>by cases hv) v h
theorem Zh3 {g:Zn} {v:ZbA} (h:ZhA g v=true) (hz:¬ (v.tx=0∧v.nth=0)):isK TxD.id v.tx g.txs=true∧1≤v.nth:=by
 unfold ZhA at h
 rw [Yb hz,Yw,Yw,Zox] at h
 exact ⟨h.1,by simpa using h.2.1⟩
theorem Znu {g:Zn} {t x:TxD} {v:ZbA} (h:Zjc g t=false) (hx:x ∈ g.txs) (hn:x.id≠t.id) (hv:v ∈ ZaF x) (e:v.tx=t.id):v.nth≤(wcnt t.ops v.key:Int):=by
 have h1:=YaV.1 h x hx
 unfold ZjJ at h1
 rw [YR hn,YaG] at h1
 have h2:=YaV.1 (by simpa using h1) v hv
 unfold Zjy at h2
 simp [e] at h2
 omega
theorem ZgC {g:Zn} {t:TxD} (hs:Zbk g) (h:(Zao g t).2=0):ZE (Zao g t).1:=by
 unfold Zao at h ⊢
 split at h
 ·rename_i h1;exact absurd h h1
 ·rename_i h1
  split at h
  ·simp at h
  ·rename_i h2
   obtain ⟨hr,hrt,hik,hnd,_⟩:=Zh2 (by decide) (YB.1 h1)
   rw [Yb h1,Yb h2]
   obtain ⟨m1,m2⟩:=ZlT (ZD hr).1 hik
   refine Zdh (b:=true) hr hs.2 m1 ?_ m2 (fun _=>⟨hrt,hnd⟩) (fun h=>by cases h) fun x _ v _ e hv hz=>?_
   ·have:=hr.1
    rw [Yd,Yd,Yf,Yt];simp;omega
   ·have:=(Zh3 hv hz).1
    rw [e,hik] at this;cases this
theorem ZhW {g:Zn} {t:TxD} (hs:Zbk g) (h:(Za2 g t).2=0):ZE (Za2 g t).1:=by
 unfold Za2 at h ⊢
 split at h
 ·rename_i h1;exact absurd h h1
 ·rename_i h1
  split at h
  ·simp at h
  ·rename_i h2
   obtain ⟨hr,hrt,hik,hnd,_⟩:=Zh2 (by decide) (YB.1 h1)
   rw [Yb h1,Yb h2]
   obtain ⟨m1,m2⟩:=ZmR (ZD hr).1 hik
   refine Zdh (b:=true) hr hs.2 m1 (by rw [YF];exact hr.1) m2 (fun _=>⟨hrt,hnd⟩) (fun h=>by cases h) fun x hx v hv e _ _=>⟨rfl,?_⟩
   rcases (m2 x).1 hx with ⟨h3,h4⟩ | ⟨rfl,_⟩
   ·exact Znu (by simpa using h2) h3 h4 hv e
   ·exact absurd e (Zmc hv)
theorem Zhh {g:Zn} {id:Int} (hs:Zbk g) (h:(Zag g id).2=0):ZE (Zag g id).1:=by
 unfold Zag at h ⊢
 split at h
 ·simp at h
 ·rename_i h1
  split at h
  ·simp at h
  ·rename_i h2
   split at h
   ·simp at h
   ·rename_i h3
    have hr:=YB.1 h1
    have hik:isK TxD.id id g.txs=true:=by simpa using h2
    have hri:=(ZD hr).1
    rw [Yb h1,Yb h2,Yb h3,← Zji (Zx.1 hri) hik]
    refine Zdh (b:=false) hr hs.2 (Zx.2 ((Zx.1 hri).filter _)) (Yau (Yan _ _) hr.1) (fun s=>?_) (fun h=>by cases h) (fun _=>rfl) fun x hx v hv e hg hz=>?_
    ·rw [YN];simp [Zdl]
    ·rw [YN] at hx
     have h5:=Znu (t:=Zdl id) (by simpa using h3) hx.1 (by simpa [Zdl] using hx.2) hv e
     have h6:=(Zh3 hg hz).2
     have h7:wcnt (Zdl id).ops v.key=0:=rfl
     rw [h7] at h5
     omega
theorem Zbf {g:Zn} {key:Int} {rule:List Int→List Int×Int} (hp:∀ l,(rule l).2=0→(rule l).1.Perm l) (h:(ZQ g key rule).2=0):ZE (ZQ g key rule).1:=by
 by_cases hr:ZE g
 ·by_cases hg:getO g.orders key = []
  ·rw [Zns hr hg] at h;simp at h
  ·by_cases h3:(rule (getO g.orders key)).2=0
   ·have hpp:=hp _ h3
    have hne:(rule (getO g.orders key)).1≠[]:=fun e=>hg (by rw [e] at hpp;exact hpp.symm.eq_nil)
    rw [Zkg hr hg h3 hne,Ym hne]
    obtain ⟨h1,h2,h4,h5,h6,h7⟩:=Zb3.1 hr
    refine Zb3.2 ⟨h1,h2,fun t ht=>?_,Zx.2 (Zdt (Zx.1 h5)),fun o ho=>?_,fun k=>?_⟩
    ·obtain ⟨g1,g2⟩:=h4 t ht
     exact ⟨g1,g2⟩
    ·rcases ZeJ ho with ⟨rfl,_⟩ | ⟨g1,_⟩
     ·exact hne
     ·exact h6 o g1
    ·show (getO (Za9 OrdD.key _ g.orders false) k).Perm _
     rw [Zgi (Zx.1 h5)]
     by_cases e:k=key
     ·subst e
      rw [Ye rfl]
      exact hpp.trans (h7 k)
     ·rw [Yb e];exact h7 k
   ·rw [Znz hr hg h3] at h;exact absurd h h3
 ·rw [Zpu hr] at h;simp at h
theorem ZkC {o:OrdD} (l:List Int) (h:(ZbI o l).2=0):(ZbI o l).1.Perm l:=by
 unfold ZbI at h ⊢
 split at h
 ·rename_i hp;rw [Ye hp];exact hp.symm
 ·simp at h
theorem ZmN {g:Zn} {e:EdD} (hs:Zbk g) (h:(doH g e).2=0):ZE (doH g e).1:=by
 unfold doH at h ⊢
 by_cases k0:e.kind=0
 ·rw [Ye k0] at h ⊢;exact ZgC hs h
 ·rw [Yb k0] at h ⊢
  by_cases k1:e.kind=1
  ·rw [Ye k1] at h ⊢;exact Zhh hs h
  ·rw [Yb k1] at h ⊢
   by_cases k2:e.kind=2
   ·rw [Ye k2] at h ⊢;exact ZhW hs h
   ·rw [Yb k2] at h ⊢
    by_cases k3:e.kind=3
    ·rw [Ye k3] at h ⊢;exact Zbf ZkC h
    ·rw [Yb k3] at h ⊢
     by_cases k4:e.kind=4
     ·rw [Ye k4] at h ⊢;exact Zbf (rule:=fun l=>Z8 l e.t.id e.place) (fun l h=>ZgF h) h
     ·rw [Yb k4] at h;simp at h
theorem Zjf:ZE Z1:=by decide +kernel
structure Zd2 where
 kind:Int
 tx:TxD
 order:OrdD
 key:Int
 id:Int
 place:Int
 phen:Int
 deriving DecidableEq,Inhabited
def ZgL (c:Zd2):List PV:=[.int .i64 c.kind,.int .i64 c.tx.id,.bool c.tx.done,.sl rOp c.tx.ops,.int .i64 c.order.key,.sl rInt c.order.txs,.int .i64 c.key,.int .i64 c.id,.int .i64 c.place,.int .i64 c.phen]
def zeroC (k:Int):Zd2:=⟨k,zeroT,⟨0,[]⟩,0,0,0,0⟩
end Go.Proofs.YthfoojdlcjfmcaaGreatDoor
