/- Texts put together. No condition beyond those that each theorem says. -/
import Derived.Test.YtlkpllemoepamaaGreatJ20
import Derived.Test.YtlkpllemoepamaaGreatJ14
import Derived.Test.YtlkpllemoepamaaGreatJ8
import Derived.Test.YtlkpllemoepamaaGreatJ3
import Derived.Test.YtlkpllemoepamaaGreatJ2
import Derived.Test.YtlkpllemoepamaaGreatJ0
import Derived.Test.YtlkpllemoepamaaGreatLibW
namespace Go.Proofs.YtlkpllemoepamaaGreat
open Go Go.Gm Tryz
set_option linter.unusedVariables false
set_option linter.unusedSimpArgs false
set_option maxHeartbeats 4000000
set_option maxRecDepth 8000
theorem ZlH {g:Zt} (hs:Zbc g) (mask:Int):(ZO ((Zai g).filter (kindOk mask))).length≤4096:=by
 by_cases hg:ZQ g
 ·have h1:(ZO ((Zai g).filter (kindOk mask))).length≤(g.txs.map TxD.id).length:=List.Nodup.length_le_of_subset ((ZR _).1.imp fun h=>Int.ne_of_lt h) fun x hx=>by
   obtain ⟨e,he,hx⟩:=Zao.1 hx
   obtain ⟨h3,h4⟩:=Zlq hg ((Zim hg).1 (Y4.1 he).1)
   rcases hx with rfl | rfl
   ·obtain ⟨t,h5,h6,_⟩:=h3;exact Yu.2 ⟨t,h5,h6⟩
   ·obtain ⟨t,h5,h6,_⟩:=h4;exact Yu.2 ⟨t,h5,h6⟩
  have h2:=hs.1.1
  rw [YM] at h1;omega
 ·rw [ZkR hg];exact Yv _
def Zn3 (g:Zt) (p:Int) (R:List Zg):Zp4:=if p=2∨p=3 then Ztr p (ZaQ g p fun _=>true) else Zus p R
def okH (g:Zt) (p:Int) (R:List Zg):Bool:=if p=2∨p=3 then decide ((ZaQ g p fun _=>true)≠[]) else decide (R≠[])
theorem ZtP (g:Zt) (hsm:Zbc g) (hAR:(wwC PT1 g).length+(rdC PT1 g).length≤100000) (p:Int) (R:List Zg) (hR:ZdY (Zai g) p R):FnP prog 12 [.agg (Zs g),.int .i64 p] (.tup [.agg (Zka (Zn3 g p R)),.bool (okH g p R)]):=by
 refine FnP.mk func12 rfl ntmps12 rfl fun B a w F V hfr G=>?_
 have hel:=Zgw (A:=wwC PT1 g) (R:=rdC PT1 g)
 have hkl:=Zf9 (Zgf (wwC PT1 g) (rdC PT1 g))
 have hal:(Zgf (wwC PT1 g) (rdC PT1 g)).length≤100000:=by unfold Zgf;rw [Yd,YM];exact hAR
 have hpl:(Zai g).length≤100000:=by unfold Zai;rw [YM];omega
 obtain ⟨rb,hrb⟩:=Zpd (ZeB (Zai g) (ZU p).1 (ZU p).2)
 refine Ya (Zb G (qx 101 r1 (qf (oH [.int .i64 0,.slice none 0 0,.int .i64 0,.int .i64 0,.int .i64 0,.int .i64 0,.int .i64 0] 102) trivial qz qB)) V [5,4,2,1] [102,101,0] (fun _=>rfl) (fun _=>rfl) fun τ a w F G=>?_)
 try dsimp only [RS.sub,SF.sub,CF.sub,csub,Anc.sub,List.map,zCF,Zs,rTx,ZP,ZS,rInt,rOp,Zh0,rHv,Zp] at G
 generalize τ 2=v2 at G
 generalize τ 4=v4 at G
 refine Za (Ya (Ya (rZ G (qR rr qZ) V [6,5,4,2,1] [102,101,0] fun G=>(Yg (Ya (Ya ?_))))))
 refine rZ G (qf (o_eql .t qi) r1 qz (qO rr qZ)) V [7,6,5,4,2,1] [102,101,0] fun G=>?_
 refine Zc G rfl (fun hc0=>?_) (fun hc0=>?_)
 ·have h23:(p=2∨p=3):=(by have h9:=hc0;simp at h9;omega)
  have hw:Zn3 g p R=Ztr p (ZaQ g p fun _=>true):=Yf h23
  have hok:decide ((ZaQ g p fun _=>true)≠[])=okH g p R:=(Yf h23).symm
  refine Ye (Za (Zc G rfl (fun hc1=>?_) (fun hc1=>?_)))
  ·have h23:(p=2∨p=3):=(by have h9:=hc1;simp at h9;omega)
   have hw:Zn3 g p R=Ztr p (ZaQ g p fun _=>true):=Yf h23
   have hok:decide ((ZaQ g p fun _=>true)≠[])=okH g p R:=(Yf h23).symm
   refine Ya (rZ G (qe 2 101 r1 r1 (qR rr (qf (oP (Zm4 g p hsm) func35 (Args.two (.pagg .t) .t)) r2 qz (qf (Zh .t rfl) r1 qz (qf (Zh .t rfl) r1 qz (qf (oA 7 102 .is (.conv .t .agg)) r2 r1 (qO rr qZ))))))) V [5,4,2,1] [102,101,0] fun G=>(Yh (Zu (Zk ?_))))
   refine Z2 hfr G rfl (.cl 102 true 7 rfl rfl (.tmp rfl .nil)) (.two (.aggU rfl (by rw [hw] <;> rfl)) (.bool hok))
  exact Bool.noConfusion (hc0.symm.trans hc1)
 refine rZ G (qf (o_eql .t qi) r1 qz (qO rr qZ)) V [7,5,4,2,1] [102,101,0] fun G=>?_
 refine Zc G rfl (fun hc2=>?_) (fun hc2=>?_)
 ·have h23:(p=2∨p=3):=(by have h9:=hc2;simp at h9;omega)
  have hw:Zn3 g p R=Ztr p (ZaQ g p fun _=>true):=Yf h23
  have hok:decide ((ZaQ g p fun _=>true)≠[])=okH g p R:=(Yf h23).symm
  refine Ya (rZ G (qe 2 101 r1 r1 (qR rr (qf (oP (Zm4 g p hsm) func35 (Args.two (.pagg .t) .t)) r2 qz (qf (Zh .t rfl) r1 qz (qf (Zh .t rfl) r1 qz (qf (oA 7 102 .is (.conv .t .agg)) r2 r1 (qO rr qZ))))))) V [5,4,2,1] [102,101,0] fun G=>(Yh (Zu (Zk ?_))))
  refine Z2 hfr G rfl (.cl 102 true 7 rfl rfl (.tmp rfl .nil)) (.two (.aggU rfl (by rw [hw] <;> rfl)) (.bool hok))
 have hn23:¬ (p=2∨p=3):=by rintro (h9 | h9);exact YG hc0 h9;exact YG hc2 h9
 have hw:Zn3 g p R=Zus p R:=Yc hn23
 have hok:decide (R≠[])=okH g p R:=(Yc hn23).symm
 refine Ye (Zj (Za (Ya (rZ G (qe 2 101 r1 r1 (qf (oP (Zoo g hsm (Y5 hAR (by decide))) func38 (Args.one (.pagg .t))) r1 qz (qf (oP (ZnL _ (by have h9:=hpl;unfold Zai at h9;rw [YM] at h9;exact Y5 h9 (by decide))) func37 (Args.one .t)) r1 qz (qR rr (qf (oP (Zta (Zai g) p hpl (fun _=>ZlH hsm _) R hR) func36 (Args.two .t .t)) r2 qz (qf (Zh .t rfl) r1 qz (qf (Zh .t rfl) r1 qz (qf (oA 7 102 .is (.conv .t .agg)) r2 r1 (qO rr qZ))))))))) V [5,4] [102,101,0] fun G=>Yh ?_))))
 refine Z2 hfr G rfl (.cl 102 true 7 rfl rfl (.tmp rfl .nil)) (.two (.aggU rfl (by rw [hw] <;> rfl)) (.bool hok))
theorem Zo0 (x y:List Zg):FnP prog 94 [.sl Zp x,.sl Zp y] (.bool (decide (x=y))):=by
 refine FnP.mk func94 rfl ntmps94 rfl fun B a w F V hfr G=>?_
 have hxl:=Sat.lenSl G (i:=0) rfl
 refine Ya (rZ G qB V [4,1,0] [0] fun G=>(Ya (Ya ?_)))
 refine rZ G (qR rr (qu underlying31 r1 (qR rr (qu underlying31 r1 (qf (o_neq .t .t) r2 qz qZ))))) V [10,4,1,0] [0] fun G=>?_
 refine Zc G rfl (fun hc0=>?_) (fun hc0=>?_)
 ·have hg:false=decide (x=y):=by
    rw [Yaj,Yz]
    intro h
    subst h
    simp at hc0
  refine Ya (rZ G qB V [4,1,0] [0] fun G=>(Yh (Zk ?_)))
  refine Zo hfr G rfl rfl rfl (.bool hg)
 have hl:x.length=y.length:=by simp at hc0;omega
 refine Ye (Za (Ya (Ya (rZ G (qR rr (qu underlying31 r1 (qJ qZ))) V [13,12,4,1,0] [0] fun G=>Yg ?_))))
 obtain ⟨F,G⟩:=G.nM [13,12,1,0] [0]
 refine Za2 (σ:=Nat) (fun s=>(⟨[(0,.pv (.sl Zp x)),(1,.pv (.sl Zp y)),(12,.pv (.int .i64 x.length)),(13,.pv (.int .i64 s))],[(0,frame B)]⟩:En)) (fun s=>s≤x.length ∧ ∀ j,j<s→Nn x j=Nn y j) (fun s=>x.length - s) 0 G ⟨Yv _,fun j hj=>absurd hj (YX j)⟩ ?_
 clear G;intro i a w F hC G
 try dsimp only at hC
 try dsimp only at G
 obtain ⟨hi,hq⟩:=hC
 refine Ya (rZ G (qL r2) V [14,13,12,1,0] [0] fun G=>Ya ?_)
 refine Zc G rfl (fun hc1=>?_) (fun hc1=>?_)
 ·have hil:i<x.length:=by simp at hc1;omega
  refine Ye (Za (Ya (Yg (Ya (rZ G (qR rr (qO rr qZ)) V [13,12,5,1,0] [0] fun G=>Ya ?_)))))
  refine Zx G (qR rr (qR rr (qy 4 underlying31 r2 (qf (oR true 4 .t) r1 qz (qR rr (qR rr (qy 4 underlying31 r2 (qf (oR true 4 .t) r1 qz (qf (o_neqS (ks:=[true,true,true,true]) kr .t .t (.int (.int (.int (.int .nil))))) r2 qz qZ))))))))) V [24,13,12,1,0] [0] rfl rfl fun a w F G=>?_
  try dsimp only [List.map,xD,xE,xT,xU,ldSF] at G
  refine Za (Zc G rfl (fun hc2=>?_) (fun hc2=>?_))
  ·have hg:false=decide (x=y):=by
     rw [Yaj,Yz]
     intro h
     subst h
     simp at hc2
   refine Ya (rZ G qB V [13,12,4,1,0] [0] fun G=>(Yh (Zu (Zk (Zk (Zu (Zk ?_)))))))
   refine Zo hfr G rfl rfl rfl (.bool hg)
  rw [Yb] at hc2
  have hqi:Nn x i=Nn y i:=by simp only [Zu5] at hc2;simpa using hc2
  refine Ye (Zj (Za (rZ G (qp r1 (qR rr qZ)) V [13,12,1,0] [0] fun G=>?_)))
  replace G:=G.ent (i:=13) (s':=.pv (.int .i64 ((i+1:Nat):Int))) rfl (.int (Zd ow))
  obtain ⟨F,G⟩:=G.nM [13,12,1,0] [0]
  exact ⟨i+1,F,⟨by omega,fun j hj=>by rcases YS (YY hj) with h | h;exact hq j h;rw [h];exact hqi⟩,G,by omega⟩
 have hg:true=decide (x=y):=by
   rw [Yaj,Yq]
   exact Zan hl fun j hj=>hq j (by simp at hc1;omega)
 refine Yw (Zi (Zi (Zn (Za (Ya (rZ G qB V [4] [0] fun G=>Yh ?_))))))
 refine Zo hfr G rfl rfl rfl (.bool hg)
theorem ZmE (x y:List Zg):FnP prog 48 [.sl Zp x,.sl Zp y] (.bool (decide (x=y))):=by
 refine FnP.mk func48 rfl ntmps48 rfl fun B a w F V hfr G=>Ya ?_
 refine rZ G qB V [4,1,0] [0] fun G=>Ya ?_
 refine rZ G (qR rr (qR rr (qf (oP (Zo0 x y) func94 (Args.two .t .t)) r2 qz (qO rr qZ)))) V [4] [0] fun G=>Yh ?_
 refine Zo hfr G rfl rfl rfl .refl
theorem ZqW (x y:Zp4):(((decide (x.phen=y.phen)) && decide (x.read=y.read)) && decide (x.walk=y.walk))=decide (x=y):=by
 obtain ⟨a,b,c⟩:=x
 obtain ⟨d,e,f⟩:=y
 rw [Yan]
 simp only [Yx,Yq,Zp4.mk.injEq]
 constructor
 ·rintro ⟨⟨h1,h2⟩,h3⟩;exact ⟨h1,h3,h2⟩
 ·rintro ⟨h1,h2,h3⟩;exact ⟨⟨h1,h3⟩,h2⟩
theorem ZsJ (x y:Zp4):FnP prog 22 [.agg (Zka x),.agg (Zka y)] (.bool (decide (x=y))):=by
 refine FnP.mk func22 rfl ntmps22 rfl fun B a w F V hfr G=>Ya ?_
 refine Zb G (qx 101 r1 (qx 102 r1 qB)) V [4,3,2] [102,101,0] (fun _=>rfl) (fun _=>rfl) fun τ a w F G=>?_
 try dsimp only [RS.sub,SF.sub,CF.sub,csub,Anc.sub,List.map,zCF,Zp,Zka] at G
 generalize τ 2=v2 at G
 generalize τ 3=v3 at G
 refine Za (Ya (rZ G (qg 0 101 r1 r1 (qa 101 r1 r1 (qg 0 102 r1 r1 (qa 102 r1 r1 (qf (o_eql .t .t) r2 qz (qR rr (qv 2 101 rfl r2 r1 (qk rfl (fun h=>oL true 5 101 (.w h .adr)) r2 r1 (qv 2 102 rfl r2 r1 (qk rfl (fun h=>oL true 5 102 (.w h .adr)) r2 r1 (qk rfl (fun h=>ZuO (ks:=[true,true,true,true,true]) kr (.w h) (.w h) (.int (.int (.int (.int (.int .nil)))))) r3 qz (qf (ZD .t .t) r2 qz (qR rr (qv 1 101 rfl r2 r1 (qw 101 rfl r2 r1 (qv 1 102 rfl r2 r1 (qw 102 rfl r2 r1 (qk rfl (fun h=>oP (ZmE x.walk y.walk) func48 (Args.two (.w h) (.w h))) r3 qz (qf (ZD .t .t) r2 qz (qO rr qZ)))))))))))))))))))) V [4] [0] fun G=>Yh ?_))
 refine Zo hfr G rfl rfl rfl (.bool (by rw [← ZqW];exact Y7 (fun b=>(decide (x.phen=y.phen) && b) && decide (x.walk=y.walk)) (ZtR rfl)))
def ZiC (k:Int):List UInt8:=if k=1 then [119,119] else if k=2 then [119,114] else if k=3 then [114,119] else [120]
def ZvG (k:Int):Int:=IntKind.wrap .i64 (1*2 ^ min (IntKind.wrap .u64 k).toNat (IntKind.bits .i64))
def Ziq (l:List Zg):Int:=l.foldl (fun n e=>if 1≤e.kind∧e.kind≤3 then bits .or .i64 n (ZvG e.kind) else n) 0
theorem ZgW {l:List Zg} {i:Nat} (h:i<l.length):Ziq (l.take (i+1))=if 1≤(Nn l i).kind∧(Nn l i).kind≤3 then bits .or .i64 (Ziq (l.take i)) (ZvG (Nn l i).kind) else Ziq (l.take i):=by
 rw [Zr h];unfold Ziq;rw [YaF];rfl
def ZjN (g:Zt) (id:Int):Bool:=(Zaj g.txs id).isSome && ((Zaj g.txs id).getD zeroT).done
def Zee (g:Zt) (v:Zcg):Bool:=decide (v.tx=0) || (ZjN g v.tx && decide (v.nth=((((Zaj g.txs v.tx).getD zeroT).ops.filter fun o=>!o.read && decide (o.key=v.key)).length:Nat)))
def Zj9 (g:Zt) (key u x:Int):Bool:=(ZdQ (getO g.orders key) u).2 && decide ((ZdQ (getO g.orders key) u).1=x)
theorem Zhi {g:Zt} (hs:Za0 g.txs) (id:Int):((Zaj g.txs id).getD zeroT).ops.length≤1000000:=by
 cases hf:Zaj g.txs id with
 | none=>simp [zeroT]
 | some t=>exact Y5 (hs.2 _ (findT_mem hf).1) (by decide)
theorem Znh (k:Int):FnP prog 74 [.int .i64 k] (.bs (ZiC k)):=by
 refine FnP.mk func74 rfl ntmps74 rfl fun B a w F V hfr G=>Ya ?_
 refine rZ G (qf (oN (.cs kr)) trivial qz qZ) V [2,0] [0] fun G=>(Ya (Ya ?_))
 refine rZ G (qR rr qZ) V [3,2] [0] fun G=>(Yg (Ya ?_))
 refine rZ G (qf (o_eql .t qi) r1 qz (qO rr qZ)) V [4,3,2] [0] fun G=>?_
 refine Zc G rfl (fun hc0=>?_) (fun hc0=>?_)
 ·refine Ya (rZ G (qf (oN (.cs kr)) trivial qz qZ) V [2] [0] fun G=>(Yh (Zu (Zk ?_))))
  refine Zo hfr G rfl rfl rfl (.bs (by unfold ZiC;simp_all))
 refine Ya (rZ G (qf (o_eql .t qi) r1 qz (qO rr qZ)) V [6,3,2] [0] fun G=>?_)
 refine Zc G rfl (fun hc1=>?_) (fun hc1=>?_)
 ·refine Ya (rZ G (qf (oN (.cs kr)) trivial qz qZ) V [2] [0] fun G=>(Yh (Zu (Zk ?_))))
  refine Zo hfr G rfl rfl rfl (.bs (by unfold ZiC;simp_all))
 refine Ya (rZ G (qf (o_eql .t qi) r1 qz (qO rr qZ)) V [8,2] [0] fun G=>?_)
 refine Zc G rfl (fun hc2=>?_) (fun hc2=>?_)
 ·refine Ya (rZ G (qf (oN (.cs kr)) trivial qz qZ) V [2] [0] fun G=>(Yh (Zu (Zk ?_))))
  refine Zo hfr G rfl rfl rfl (.bs (by unfold ZiC;simp_all))
 refine Ye (Zj (Za (Ya (rZ G (qf (oN (.cs kr)) trivial qz qZ) V [2] [0] fun G=>Yh ?_))))
 refine Zo hfr G rfl rfl rfl (.bs (by unfold ZiC;simp_all))
theorem ZsX (l:List Zg) (hl:l.length≤1000000):FnP prog 71 [.sl Zp l] (.int .i64 (Ziq l)):=by
 refine FnP.mk func71 rfl ntmps71 rfl fun B a w F V hfr G=>Ya ?_
 refine rZ G (qI qZ) V [2,0] [0] fun G=>Ya ?_
 refine rZ G (qI qZ) V [3,2,0] [0] fun G=>(Ya (Ya ?_))
 refine rZ G (qR rr (qu underlying31 r1 (qJ qZ))) V [8,7,6,3,2] [0] fun G=>Yg ?_
 refine Zl (σ:=(Nat)) [2,6,7] [0] (fun s=>[(8,.pv (.int .i64 (s:Int))),(3,.pv (.int .i64 (Ziq (l.take s))))]) (fun s=>[]) (fun s=>s≤l.length∧(True)) (fun s=>l.length - s) (0) G ⟨rfl,rfl,rfl,rfl,rfl,tv⟩ ⟨rfl,tv⟩ ⟨Yv _,tv⟩ ?_
 clear G;intro i a w F hC G
 try dsimp only at hC
 obtain ⟨F,G⟩:=G.nM [8,7,6,3,2] [0]
 try dsimp only at G
 obtain ⟨hi,hq⟩:=hC
 refine Ya (rZ G (qL r2) V [9,8,7,6,3,2] [0] fun G=>Ya ?_)
 refine Zc G rfl (fun hc0=>?_) (fun hc0=>?_)
 ·have hil:i<l.length:=by simp at hc0;omega
  refine Ye (Za (Ya (Yg (Ya (Zb G (qy 4 underlying31 r2 (qf (oR true 4 .t) r1 qz (qf (oH [.int .i64 0,.int .i64 0,.int .i64 0,.int .i64 0] 101) trivial qz (qS 4 101 r2 r1 qZ)))) V [8,7,6,5,3,2] [101,0] (fun _=>rfl) (fun _=>rfl) fun τ a w F G=>?_)))))
  try dsimp only [RS.sub,SF.sub,CF.sub,csub,Anc.sub,List.map,Ze,xL,xM,Nat.reduceAdd,xD,xE,xT,xU,xC,xN,zCF,ldSF,Zp] at G
  generalize τ 5=v5 at G
  try simp only [Yb] at G
  refine Za (Ya (rZ G (qg 2 101 r1 r1 (qa 101 r1 r1 (qf (Zbi .t qi) r1 qz (qR rr (qv 2 101 rfl r2 r1 (qw 101 rfl r2 r1 (qk rfl (fun h=>Zj3 (.w h) qi) r2 qz (qf (ZD .t .t) r2 qz qZ)))))))) V [19,8,7,6,5,3,2] [101,0] fun G=>?_))
  refine Zc G rfl (fun hc1=>?_) (fun hc1=>?_)
  ·have hyn:1≤(Nn l i).kind∧(Nn l i).kind≤3:=by simpa using hc1
   refine Zf G (qR rr (qg 2 101 r1 r1 (qa 101 r1 r1 (qf (o_conv underlying162 kr .t) r1 qz (qf (o_shl qi .t  (by rw [Zaf];omega)) r1 qz (qf (Zr8 .t .t) r2 qz (qO rr qZ))))))) V [8,7,6,3,2] [0] rfl rfl fun a w F G=>Zj (Za ?_)
   refine rZ G (qp r1 (qR rr qZ)) V [8,7,6,3,2] [0] fun G=>?_
   replace G:=G.ent (i:=8) (s':=.pv (.int .i64 ((i+1:Nat):Int))) rfl (.int (Zd ow))
   replace G:=G.ent (i:=3) (s':=.pv (.int .i64 (Ziq (l.take (i+1))))) rfl (.int (by rw [ZgW hil,Yf hyn];rfl))
   obtain ⟨F,G⟩:=G.nM [7,6,2,3,8] [0]
   exact ⟨(i+1),F,⟨by omega,tv⟩,G,by omega⟩
  have hyn:¬ (1≤(Nn l i).kind∧(Nn l i).kind≤3):=by have h9:=hc1;simp at h9;omega
  refine Ye (Zj (Za (rZ G (qp r1 (qR rr qZ)) V [8,7,6,3,2] [0] fun G=>?_)))
  replace G:=G.ent (i:=8) (s':=.pv (.int .i64 ((i+1:Nat):Int))) rfl (.int (Zd ow))
  replace G:=G.ent (i:=3) (s':=.pv (.int .i64 (Ziq (l.take (i+1))))) rfl (.int (by rw [ZgW hil,Yc hyn]))
  obtain ⟨F,G⟩:=G.nM [7,6,2,3,8] [0]
  exact ⟨(i+1),F,⟨by omega,tv⟩,G,by omega⟩
 have hil:i=l.length:=by simp at hc0;omega
 refine Yw (Zi (Zi (Zn (Za (Ya (rZ G (qR rr (qO rr qZ)) V [2] [0] fun G=>Yh ?_))))))
 refine Zo hfr G rfl rfl rfl (.int (by rw [hil,YD]))
theorem ZjD (g:Zt) (id:Int) (hs:Za0 g.txs):FnP prog 80 [.agg (Zs g),.int .i64 id] (.tup [.agg (rTx ((Zaj g.txs id).getD zeroT)),.bool (ZjN g id)]):=by
 refine FnP.mk func80 rfl ntmps80 rfl fun B a w F V hfr G=>Ya ?_
 refine Zb G (qx 101 r1 (qf (oH [.int .i64 0,.bool false,.slice none 0 0] 102) trivial qz qB)) V [5,4,2,1] [102,101,0] (fun _=>rfl) (fun _=>rfl) fun τ a w F G=>?_
 try dsimp only [RS.sub,SF.sub,CF.sub,csub,Anc.sub,List.map,zCF,Zs,rTx,ZP,ZS,rInt,rOp] at G
 generalize τ 2=v2 at G
 generalize τ 4=v4 at G
 refine Za (Ya (Zb G (qg 0 101 r1 r1 (qf (oL true 2 101 .adr) r1 r1 (qR rr (qf (oP (Zsz g id hs) func28 (Args.two (.pagg .t) .t)) r2 qz (qR rr (qf (Zh .t rfl) r1 qz (qf (Zh .t rfl) r1 qz (qf (oH [.int .i64 0,.bool false,.slice none 0 0] 103) trivial qz (qf (oA 3 103 .same (.conv .t .agg)) r2 r1 (qO rr qZ)))))))))) V [7,6,5,4] [103,102,101,0] (fun _=>rfl) (fun _=>rfl) fun τ a w F G=>?_))
 try dsimp only [RS.sub,SF.sub,CF.sub,csub,Anc.sub,List.map,Ze,xL,xM,Nat.reduceAdd,xD,xE,xT,xU,xC,xN,zCF,ldSF,Zs,rTx,ZP,ZS,rInt,rOp] at G
 generalize τ 6=v6 at G
 refine Za (Ya (Zx G (qe 3 103 r1 r1 (qR rr (qR rr (qv 1 103 rfl r2 r1 (qw 103 rfl r2 r1 (qf (ZD .t .t) r2 qz (qs 3 102 r2 r1 (qO rr qZ)))))))) V [5,4] [103,102,101,0] rfl rfl fun a w F G=>?_))
 try dsimp only [List.map,Ze,xL,xM,Nat.reduceAdd,xD,xE,xT,xU,xC,xN,zCF,ldSF,Zs,rTx,ZP,ZS,rInt,rOp] at G
 refine Za (Yh (Z2 hfr G rfl (.cl 102 true 3 rfl rfl (.tmp rfl .nil)) (.two (.aggU rfl rfl) (.bool rfl))))
theorem Zm7 (g:Zt) (v:Zcg) (hs:Za0 g.txs):FnP prog 84 [.agg (Zs g),.agg (ZS v)] (.bool (Zee g v)):=by
 refine FnP.mk func84 rfl ntmps84 rfl fun B a w F V hfr G=>Ya ?_
 refine Zb G (qx 101 r1 (qx 102 r1 qB)) V [4,3,2] [102,101,0] (fun _=>rfl) (fun _=>rfl) fun τ a w F G=>?_
 try dsimp only [RS.sub,SF.sub,CF.sub,csub,Anc.sub,List.map,zCF,Zs,rTx,ZP,ZS,rInt,rOp] at G
 generalize τ 2=v2 at G
 generalize τ 3=v3 at G
 refine Za (Ya (Ya (rZ G (qg 0 102 r1 r1 (qa 102 r1 r1 (qf (o_eql .t qi) r1 qz qZ))) V [9,4,3,2] [102,101,0] fun G=>?_)))
 refine Zc G rfl (fun hc0=>?_) (fun hc0=>?_)
 ·have hg:true=Zee g v:=by unfold Zee;rw [Yt hc0];rfl
  refine Ya (rZ G qB V [4,3,2] [102,101,0] fun G=>(Yh (Zk ?_)))
  refine Zo hfr G rfl rfl rfl (.bool hg)
 have hv0:v.tx≠0:=YG hc0
 have hg:(ZjN g v.tx && decide (v.nth=((((Zaj g.txs v.tx).getD zeroT).ops.filter fun o=>!o.read && decide (o.key=v.key)).length:Nat)))=Zee g v:=by unfold Zee;rw [YC hv0,YbO]
 refine Ye (Za (Ya (Zb G (qe 2 101 r1 r1 (qg 0 102 r1 r1 (qa 102 r1 r1 (qf (oP (ZjD g v.tx hs) func80 (Args.two (.pagg .t) .t)) r2 qz (qR rr (qf (Zh .t rfl) r1 qz (qf (Zh .t rfl) r1 qz (qf (oH [.int .i64 0,.bool false,.slice none 0 0] 103) trivial qz (qf (oA 3 103 .same (.conv .t .agg)) r2 r1 (qO rr qZ)))))))))) V [6,5,4,3] [103,102,101,0] (fun _=>rfl) (fun _=>rfl) fun τ a w F G=>?_)))
 try dsimp only [RS.sub,SF.sub,CF.sub,csub,Anc.sub,List.map,Ze,xL,xM,Nat.reduceAdd,xD,xE,xT,xU,xC,xN,zCF,ldSF,Zs,rTx,ZP,ZS,rInt,rOp] at G
 generalize τ 5=v5 at G
 refine Za (Ya (Zx G (qR rr (qR rr (qv 2 102 rfl r2 r1 (qw 102 rfl r2 r1 (qk rfl (fun h=>oL true 3 103 .is) r2 r1 (qv 1 102 rfl r2 r1 (qw 102 rfl r2 r1 (qk rfl (fun h=>oP (Zft ((Zaj g.txs v.tx).getD zeroT) v.key (Zhi hs _)) func29 (Args.two (.pagg (.w h)) (.w h))) r3 qz (qk rfl (fun h=>o_eql (.w h) (.w h)) r3 qz (qf (ZD .t .t) r2 qz (qO rr qZ))))))))))) V [4] [103,102,101,0] rfl rfl fun a w F G=>?_))
 try dsimp only [List.map,xD,xE,xT,xU,ldSF,Zs,rTx,ZP,ZS,rInt,rOp] at G
 refine Za (Yh (Zo hfr G rfl rfl rfl (.bool hg)))
theorem Zo9 (g:Zt) (key u x:Int) (hs:Zbc g):FnP prog 81 [.agg (Zs g),.int .i64 key,.int .i64 u,.int .i64 x] (.bool (Zj9 g key u x)):=by
 refine FnP.mk func81 rfl ntmps81 rfl fun B a w F V hfr G=>Ya ?_
 refine Zb G (qx 101 r1 qB) V [8,4,3,2,1] [101,0] (fun _=>rfl) (fun _=>rfl) fun τ a w F G=>?_
 try dsimp only [RS.sub,SF.sub,CF.sub,csub,Anc.sub,List.map,zCF,Zs,rTx,ZP,ZS,rInt,rOp] at G
 generalize τ 4=v4 at G
 refine Za (Ya (rZ G (qg 0 101 r1 r1 (qf (oL true 2 101 .adr) r1 r1 (qR rr (qf (oP (Zlx g key hs.2) func16 (Args.two (.pagg .t) .t)) r2 qz (qR rr (qf (oP (Ztz (getO g.orders key) u) func15 (Args.two .t .t)) r2 qz (qR rr (qf (Zh .t rfl) r1 qz (qf (Zh .t rfl) r1 qz (qO rr (qO rr qZ))))))))))) V [10,9,8,3] [101,0] fun G=>Ya ?_))
 refine rZ G (qR rr (qR rr (qm rfl rfl rfl rfl (qm rfl rfl rfl rfl (qk rfl (fun h=>o_eql (.w h) (.w h)) r3 qz (qf (ZD .t .t) r2 qz (qO rr qZ))))))) V [8] [101,0] fun G=>Yh ?_
 refine Zo hfr G rfl rfl rfl (.bool rfl)
def ZpP (u:Nat):List Int:=if h:u=0 then [] else ZpP (u / 10) ++ [((48+u % 10:Nat):Int)]
 termination_by u
 decreasing_by omega
def Zh1 (u:Nat):List Int:=ZpP (u / 10) ++ [((48+u % 10:Nat):Int)]
theorem Zk8:ZpP 0 = []:=by unfold ZpP;simp
theorem Zk1 {u:Nat} (h:u≠0):ZpP u=Zh1 u:=by unfold ZpP Zh1;simp [h]
def ZeE (n:Int):List UInt8:=if n<0 then 45 :: (Zh1 n.natAbs).map toB else (Zh1 n.natAbs).map toB
structure ZfR (u0 i u:Nat) (l:List Int):Prop where
 hl:l.length=20
 hi:i≤20
 hu:u<10 ^ i
 hb:u≤18446744073709551615
 ok:(i=20∧u=u0)∨(i<20∧ZpP u++l.drop i=Zh1 u0)
theorem ZfR.start {u0:Nat} (h:u0≤18446744073709551615):ZfR u0 20 u0 [0,0,0,0,0,0,0,0,0,0,0,0,0,0,0,0,0,0,0,0]:=⟨rfl,YO _,by omega,h,.inl ⟨rfl,rfl⟩⟩
theorem ZfR.pos {u0 i u:Nat} {l:List Int} (h:ZfR u0 i u l) (hc:i=20∨0<u):1≤i:=by
 rcases hc with hc | hc
 ·omega
 ·rcases Nat.eq_zero_or_pos i with h0 | h0
  ·have:=h.hu;rw [h0] at this;omega
  ·exact h0
theorem ZfR.next {u0 i u:Nat} {l:List Int} (h:ZfR u0 i u l) (hc:i=20∨0<u):ZfR u0 (i - 1) (u / 10) (l.set (i - 1) ((48+u % 10:Nat):Int)):=by
 have h1:=h.pos hc
 have hi:=h.hi
 have hl:=h.hl
 have hd:(l.set (i - 1) ((48+u % 10:Nat):Int)).drop (i - 1)=((48+u % 10:Nat):Int) :: l.drop i:=by
  rw [YaU (by rw [YT];omega),YbK,show i - 1+1=i by omega,List.drop_set_of_lt ow]
 refine ⟨by rw [YT];exact h.hl,by omega,?_,by have:=h.hb;omega,.inr ⟨by omega,?_⟩⟩
 ·have:=h.hu
  rw [show i=(i - 1)+1 by omega,Nat.pow_succ] at this
  omega
 ·rw [hd]
  have e:ZpP (u / 10)++((48+u % 10:Nat):Int) :: l.drop i=Zh1 u++l.drop i:=by
   unfold Zh1;simp
  rw [e]
  rcases h.ok with ⟨h2,h3⟩ | ⟨h2,h3⟩
  ·rw [h2,h3,Ya1 ow];simp
  ·rw [← Zk1 ow];exact h3
theorem ZfR.done {u0 i u:Nat} {l:List Int} (h:ZfR u0 i u l) (h1:i≠20) (h2:u=0):l.drop i=Zh1 u0:=by
 rcases h.ok with ⟨h3,_⟩ | ⟨_,h3⟩
 ·exact absurd h3 h1
 ·rw [h2,Zk8] at h3;simpa using h3
theorem ZkA (u:Nat) (hu:u≤18446744073709551615):FnP prog 122 [.int .u64 (u:Int)] (.bs ((Zh1 u).map toB)):=by
 refine FnP.mk func122 rfl ntmps122 rfl fun B a w F V hfr G=>Ya ?_
 refine rZ G (qf (oN (.cs kr)) trivial qz qZ) V [2,0] [0] fun G=>Ya ?_
 refine Zb G (qf (oH [.int .u8 0,.int .u8 0,.int .u8 0,.int .u8 0,.int .u8 0,.int .u8 0,.int .u8 0,.int .u8 0,.int .u8 0,.int .u8 0,.int .u8 0,.int .u8 0,.int .u8 0,.int .u8 0,.int .u8 0,.int .u8 0,.int .u8 0,.int .u8 0,.int .u8 0,.int .u8 0] 101) trivial qz qZ) V [3,2,0] [101,0] (fun _=>rfl) (fun _=>rfl) fun τ a w F G=>?_
 try dsimp only [RS.sub,SF.sub,CF.sub,csub,Anc.sub,List.map,zCF] at G
 generalize τ 3=v3 at G
 refine Za (Ya (rZ G (qI qZ) V [4,3,2,0] [101,0] fun G=>(Ya (Yg ?_))))
 replace G:=G.turn 101 rfl (r':=.ob (.val v3) (ZmV 237 (fun x=>PV.int .u8 x) [0,0,0,0,0,0,0,0,0,0,0,0,0,0,0,0,0,0,0,0])) (fun τ w f y h=>ZhC (f:=(fun x=>PV.int .u8 x)) (l:=[0,0,0,0,0,0,0,0,0,0,0,0,0,0,0,0,0,0,0,0]) τ w f y h)
 obtain ⟨F,G⟩:=G.nM [4,3,0] [101,0]
 refine Za2 (σ:=(Nat×Nat×List Int)) (fun s=>(⟨[(0,.pv (.int .u64 s.2.1)),(3,.pv (.is v3)),(4,.pv (.int .i64 s.1))],[(0,frame B),(101,.ob (.val v3) (ZmV 237 (fun x=>PV.int .u8 x) s.2.2))]⟩:En)) (fun s=>ZfR u s.1 s.2.1 s.2.2) (fun s=>s.1) (20,u,[0,0,0,0,0,0,0,0,0,0,0,0,0,0,0,0,0,0,0,0]) G (ZfR.start hu) ?_
 clear G;intro s a w F hC G
 obtain ⟨i,x,l⟩:=s
 try dsimp only at hC
 try dsimp only at G
 have hl:=hC.hl
 have hi:=hC.hi
 have hbx:=hC.hb
 try dsimp only at hl hi hbx
 refine Ya (Ya (rZ G (qR rr (qf (o_eql .t qi) r1 qz (qR rr (qm rfl rfl rfl rfl (qk rfl (fun h=>ZaU (.w h) qi) r2 qz (qf (Zam .t .t) r2 qz qZ)))))) V [10,4,3,0] [101,0] fun G=>?_))
 refine Zc G rfl (fun hc0=>?_) (fun hc0=>?_)
 ·have hcc:i=20∨0<x:=by simp only [YaY,Yq] at hc0;omega
  have hip:=hC.pos hcc
  try dsimp only at hip
  refine Ye (Za (Yg (Ya (Zf G (qR rr (qf (o_sub .t qi) r1 qz (qO rr qZ))) V [4,3,0] [101,0] rfl rfl fun a w F G=>?_))))
  rw [show IntKind.wrap .i64 ((i:Int) - 1)=((i - 1:Nat):Int) by rw [Zy ow];omega] at G
  refine Za (Ya (Zf G (qR rr (qR rr (qf (ZuC .t qi (by decide)) r1 qz (qf (o_add qi .t) r1 qz (qf (o_conv underlying5 kr .t) r1 qz (qf (Zb0 (sz:=1) 101 underlying237 kr .is .t ow ow) r2 r1 (qf (Zmj 101 .adr .t one_int kr (by rw [hl];omega)) r2 r1 qZ))))))) V [4,3,0] [101,0] rfl rfl fun a w F G=>?_))
  rw [show 0+((i - 1:Nat):Int).toNat*1=i - 1 by omega] at G
  rw [show IntKind.wrap .u8 (IntKind.wrap .u64 (48+(x:Int).tmod 10))=((48+x % 10:Nat):Int) by rw [Ztd,Zaf,Int.tmod_eq_emod_of_nonneg ow];omega] at G
  refine Za (Zf G (qR rr (qf (Zvy .t qi (by decide)) r1 qz (qO rr qZ))) V [4,3,0] [101,0] rfl rfl fun a w F G=>Zj (Za ?_))
  replace G:=G.ent (i:=0) (s':=.pv (.int .u64 ((x / 10:Nat):Int))) rfl (.int (by rw [Zaf,Int.tdiv_eq_ediv_of_nonneg ow];omega))
  obtain ⟨F,G⟩:=G.nM [4,3,0] [101,0]
  exact ⟨(i - 1,x / 10,l.set (i - 1) ((48+x % 10:Nat):Int)),F,(hC.next hcc),G,by dsimp only;omega⟩
 have hcc:i≠20∧x=0:=by simp only [YbP,Yz] at hc0;omega
 have hdd:=hC.done hcc.1 hcc.2
 refine Yw (Zi (Zi (Zn (Za (Ya ?_)))))
 replace G:=G.turn 101 rfl ZhU
 obtain ⟨F,G⟩:=G.giveRef 101 3 rfl rfl (Zle _ _)
 rw [ZkD] at G
 obtain ⟨F,G⟩:=G.nM [10,4,3,0] [0]
 refine rZ G (qR rr (qf (Zj1 (sz:=1) (R:=rB) (l:=l) underlying237 kr (by intro x;rfl) hl (by decide) .t .t ow ow) r2 qz (qf (o_conv_sl_bs underlying113 underlying5 underlying9 .t) r1 qz (qO rr qZ)))) V [2] [0] fun G=>Yh ?_
 refine Zo hfr G rfl rfl rfl (.bs (by rw [Yb,hdd]))
theorem Zlb:∀ (k u:Nat),u<10 ^ k→(ZpP u).length≤k
 | 0,u,h=>by
  have:u=0:=by simpa using h
  rw [this,Zk8];simp
 | k+1,u,h=>by
  by_cases h0:u=0
  ·rw [h0,Zk8];simp
  ·rw [Zk1 h0]
   unfold Zh1
   have:=Zlb k (u / 10) (by rw [Nat.pow_succ] at h;omega)
   rw [Yd]
   simp only [Yl,Yy]
   omega
theorem ZlB {u:Nat} (h:u≤18446744073709551615):(Zh1 u).length≤20:=by
 have:=Zlb 19 (u / 10) ow
 unfold Zh1
 rw [Yd]
 simp only [Yl,Yy]
 omega
theorem Zhv {n:Int} (h : -9223372036854775808≤n∧n≤9223372036854775807):n.natAbs≤18446744073709551615:=by omega
structure ZuV (u0 i x:Nat) (l:List UInt8):Prop where
 hl:l.length=i
 hi:i≤20
 hx:x<10 ^ (20 - i)
 hb:x≤18446744073709551615
 ok:(i=0∧x=u0∧l = [])∨(0<i∧(ZpP x).map toB++l=(Zh1 u0).map toB)
theorem ZuV.done {u0 i x:Nat} {l:List UInt8} (h:ZuV u0 i x l) (h1:i≠0) (h2:x=0):l=(Zh1 u0).map toB:=by
 rcases h.ok with ⟨h3,_⟩ | ⟨_,h3⟩
 ·exact absurd h3 h1
 ·rw [h2,Zk8] at h3;simpa using h3
theorem Ziv (n:Int):FnP prog 73 [.int .i64 n] (.bs (ZeE n)):=by
 refine FnP.mk func73 rfl ntmps73 rfl fun B a w F V hfr G=>?_
 have hn:=Zn6 (G.range (i:=0) rfl)
 have hz:=ZlB (Zhv hn)
 refine Ya (rZ G (qf (oN (.cs kr)) trivial qz qZ) V [2,0] [0] fun G=>(Ya (Ya ?_)))
 refine rZ G (qR rr (qf (Zay .t qi) r1 qz qZ)) V [4,2,0] [0] fun G=>?_
 refine Zc G rfl (fun hc0=>?_) (fun hc0=>?_)
 ·have hb:n<0:=Yt hc0
  have hu:IntKind.wrap .u64 (0 - IntKind.wrap .u64 n)=(n.natAbs:Int):=by rw [Zaf,Zaf];omega
  have hg:ZeE n=45 :: (Zh1 n.natAbs).map toB:=Yf hb
  refine Ya (rZ G (qR rr (qf (o_conv underlying175 kr .t) r1 qz (qf (Zvv .t) r1 qz (qf (oP (ZkA n.natAbs (Zhv hn)) func122 (Args.one (.conv .t (.int hu)))) r1 qz (qf (Zbp (.cs kr) .t (by simp only [Yl,Yy,YM];omega)) r1 qz (qO rr qZ)))))) V [2,0] [0] fun G=>(Yh (Zk ?_)))
  refine Zo hfr G rfl rfl rfl (.bs (by rw [hg];try rfl))
 have hb:¬ n<0:=YG hc0
 have hu:IntKind.wrap .u64 n=(n.natAbs:Int):=by rw [Zaf];omega
 have hg:ZeE n=(Zh1 n.natAbs).map toB:=Yc hb
 refine Ye (Za (Ya (rZ G (qR rr (qf (o_conv underlying175 kr .t) r1 qz (qf (oP (ZkA n.natAbs (Zhv hn)) func122 (Args.one (.conv .t (.int hu)))) r1 qz (qO rr qZ)))) V [2] [0] fun G=>Yh ?_)))
 refine Zo hfr G rfl rfl rfl (.bs (by rw [hg];try rfl))
def bH (v ad:Value) (l:List UInt8):HP:=.ex fun rv=>.and (l = []→rv = .slice none 0 0) (.star [.pt (.val v) 115 [.pv (.is ad),.pv (.is rv)],.ob (.val rv) (ZA 5 1 rC l)])
def ZaY (v:Value) (l:List UInt8):HP:=.ex fun ad=>.and (ad = .pointer none∨ad=v) (bH v ad l)
theorem FnG.cases {P:Program} {f:FuncId} {args:List PV} {h h1 h2:HP} {q:PV} {qr:Value→List HP} (hh:∀ w fb y,h.p w fb y→h1.p w fb y∨h2.p w fb y) (k1:FnG P f 1 args [h1] q qr) (k2:FnG P f 1 args [h2] q qr):FnG P f 1 args [h] q qr:=fun w F vs hw hle hvs hpr=>by
 rcases hh w (F 1) (U F) (hpr 0 h rfl) with hx | hx
 ·exact k1 w F vs hw hle hvs (fun i h' hi=>by
  match i,hi with
  | 0,hi=>simp at hi;subst hi;exact hx)
 ·exact k2 w F vs hw hle hvs (fun i h' hi=>by
  match i,hi with
  | 0,hi=>simp at hi;subst hi;exact hx)
theorem Zgp {v:Value} {l:List UInt8} (w:World) (fb y:Ys) (h:(ZaY v l).p w fb y):(bH v (.pointer none) l).p w fb y∨(bH v v l).p w fb y:=by
 obtain ⟨ad,h1,h2⟩:=h
 rcases h1 with rfl | rfl
 ·exact .inl h2
 ·exact .inr h2
theorem copy0 (b:Nat) (l:List UInt8):FnG prog 121 1 [.is (.pointer (some ⟨b,0,none⟩))] [bH (.pointer (some ⟨b,0,none⟩)) (.pointer none) l] (.any) (fun _=>[bH (.pointer (some ⟨b,0,none⟩)) (.pointer (some ⟨b,0,none⟩)) l]):=by
 refine FnG.mk func121 rfl ntmps121 rfl kr fun B F0 a w F V hG G=>?_
 obtain ⟨rv,G⟩:=G.open_ex 1 rfl
 obtain ⟨hI,G⟩:=G.open_and 1 rfl
 obtain ⟨F,G⟩:=G.peel 1 2 rfl rfl
 obtain ⟨F,G⟩:=G.peel 1 3 rfl rfl
 obtain ⟨F,G⟩:=G.nM [0] [3,2,0]
 refine Ya (rZ G (qR rr (qf (o_nilCheck 2 .is (by rfl)) r1 r1 (qf (oF 0 2 .adr) r1 r1 (qa 2 r1 r1 (qf (ZiU _ underlying112 rfl .t) r1 qz qZ))))) V [6,0] [3,2,0] fun G=>?_)
 refine Zc G rfl (fun hc0=>?_) (fun hc0=>?_)
 ·refine Zf G (qR rr (qR rr (qf (ZhX 2 underlying112 underlying235 kr kr .t) r1 r1 (qf (ZlL func165 kr kr kr kr .t) r1 qz (qf (Zj7 2 underlying235 underlying112 kr kr .t) r1 r1 (qf (o_nilCheck 2 .is (by rfl)) r1 r1 (qf (oF 0 2 .adr) r1 r1 (qf (ZaZ 2 .adr .t one_is kr kr) r2 r1 qZ)))))))) V [] [3,2,0] rfl rfl fun a w F G=>?_
  have G:=G.fresh 1 rfl
  obtain ⟨F,G⟩:=G.push 1 3 rfl rfl rfl kr
  obtain ⟨F,G⟩:=G.push 1 2 rfl rfl rfl kr
  have G:=G.turn 1 rfl (r':=RS.hp (bH (.pointer (some ⟨b,0,none⟩)) (.pointer (some ⟨b,0,none⟩)) l)) (fun _ _ _ _ h=>⟨_,hI,h⟩)
  refine Zac hG G rfl .nil Za5.any rfl
 simp at hc0
theorem copy1 (b:Nat) (l:List UInt8):FnG prog 121 1 [.is (.pointer (some ⟨b,0,none⟩))] [bH (.pointer (some ⟨b,0,none⟩)) (.pointer (some ⟨b,0,none⟩)) l] (.any) (fun _=>[bH (.pointer (some ⟨b,0,none⟩)) (.pointer (some ⟨b,0,none⟩)) l]):=by
 refine FnG.mk func121 rfl ntmps121 rfl kr fun B F0 a w F V hG G=>?_
 obtain ⟨rv,G⟩:=G.open_ex 1 rfl
 obtain ⟨hI,G⟩:=G.open_and 1 rfl
 obtain ⟨F,G⟩:=G.peel 1 2 rfl rfl
 obtain ⟨F,G⟩:=G.peel 1 3 rfl rfl
 obtain ⟨F,G⟩:=G.nM [0] [3,2,0]
 refine Ya (rZ G (qR rr (qf (o_nilCheck 2 .is (by rfl)) r1 r1 (qf (oF 0 2 .adr) r1 r1 (qa 2 r1 r1 (qf (ZiU _ underlying112 rfl .t) r1 qz qZ))))) V [6,0] [3,2,0] fun G=>?_)
 refine Zc G rfl (fun hc0=>?_) (fun hc0=>?_)
 ·simp at hc0
 refine Ya (rZ G (qR rr (qf (o_nilCheck 2 .is (by rfl)) r1 r1 (qf (oF 0 2 .adr) r1 r1 (qa 2 r1 r1 (qR rr (qf (Zmt underlying112 kr .t .t) r2 qz qZ)))))) V [19] [3,2,0] fun G=>?_)
 refine Zc G rfl (fun hc1=>?_) (fun hc1=>?_)
 ·simp at hc1
 refine Ye ?_
 have G:=G.fresh 1 rfl
 obtain ⟨F,G⟩:=G.push 1 3 rfl rfl rfl kr
 obtain ⟨F,G⟩:=G.push 1 2 rfl rfl rfl kr
 have G:=G.turn 1 rfl (r':=RS.hp (bH (.pointer (some ⟨b,0,none⟩)) (.pointer (some ⟨b,0,none⟩)) l)) (fun _ _ _ _ h=>⟨_,hI,h⟩)
 refine Zac hG G rfl .nil Za5.any rfl
theorem ZuH (b:Nat) (l:List UInt8):FnG prog 121 1 [.is (.pointer (some ⟨b,0,none⟩))] [ZaY (.pointer (some ⟨b,0,none⟩)) l] .any (fun _=>[bH (.pointer (some ⟨b,0,none⟩)) (.pointer (some ⟨b,0,none⟩)) l]):=FnG.cases Zgp (copy0 b l) (copy1 b l)
theorem Zcw (b:Nat) (l:List UInt8) (hl:l.length≤1000000000) (x:List UInt8) (hx:x≠[]) (hxl:x.length≤1000000000):FnG prog 72 1 [.is (.pointer (some ⟨b,0,none⟩)),.bs x] [ZaY (.pointer (some ⟨b,0,none⟩)) l] (.any) (fun _=>[bH (.pointer (some ⟨b,0,none⟩)) (.pointer (some ⟨b,0,none⟩)) (l++x)]):=by
 refine FnG.mk func72 rfl ntmps72 rfl kr fun B F0 a w F V hG G=>Ya ?_
 refine rZ G (qI (qC qZ)) V [5,4,1,0] [1,0] fun G=>Ya ?_
 refine Zf G (qR rr (qf (ZJ 1 (ZuH b l) func121 rfl kr (Args.one .t)) r1 r1 qZ)) V [5,4,1,0] [1,0] rfl rfl fun a w F G=>?_
 obtain ⟨rv,G⟩:=G.open_ex 1 rfl
 obtain ⟨hI,G⟩:=G.open_and 1 rfl
 obtain ⟨F,G⟩:=G.peel 1 2 rfl rfl
 obtain ⟨F,G⟩:=G.peel 1 3 rfl rfl
 obtain ⟨F,G⟩:=G.nM [5,4,1,0] [3,2,0]
 refine Za (Ya (Zb G (qR rr (qR rr (qf (o_nilCheck 2 .is (by rfl)) r1 r1 (qf (oF 1 2 .adr) r1 r1 (qa 2 r1 r1 (qR rr (qf (Zjk 3 underlying113 underlying9 kr .is .t ow) ⟨rfl,rfl,tv⟩ ⟨rfl,tv⟩ (qf (o_nilCheck 2 .is (by rfl)) r1 r1 (qf (oF 1 2 .adr) r1 r1 (qf (o_storeS 2 .adr kr kr) r2 r1 qZ)))))))))) V [5,4,1] [3,2,0] (fun _=>rfl) (fun _=>rfl) fun τ a w F G=>?_))
 try dsimp only [RS.sub,SF.sub,CF.sub,csub,Anc.sub,List.map,Ze,xL,xM,Nat.reduceAdd,xD,xE,xT,xU,xC,xN,zCF,ldSF] at G
 generalize τ 14=v14 at G
 refine Za (Ya (rZ G (qR rr (qf (Zrq underlying9 .t) r1 qz (qO rr (qC qZ)))) V [5,4] [3,2,0] fun G=>Yh ?_))
 have G:=G.fresh 1 rfl
 obtain ⟨F,G⟩:=G.push 1 3 rfl rfl rfl kr
 obtain ⟨F,G⟩:=G.push 1 2 rfl rfl rfl kr
 have G:=G.turn 1 rfl (r':=RS.hp (bH (.pointer (some ⟨b,0,none⟩)) (.pointer (some ⟨b,0,none⟩)) (l++x))) (fun _ _ _ _ h=>⟨_,(by intro hh;exact absurd (List.append_eq_nil_iff.1 hh).2 hx),h⟩)
 refine Zac hG G rfl (.tmp rfl (.tmp rfl .nil)) Za5.any rfl
theorem Zs2 (b:Nat):FnG prog 75 1 [.is (.pointer (some ⟨b,0,none⟩))] [ZaY (.pointer (some ⟨b,0,none⟩)) []] (.bs []) (fun _=>[HP.star []]):=by
 refine FnG.mk func75 rfl ntmps75 rfl kr fun B F0 a w F V hG G=>?_
 obtain ⟨ad,G⟩:=G.open_ex 1 rfl
 obtain ⟨hA,G⟩:=G.open_and 1 rfl
 obtain ⟨rv,G⟩:=G.open_ex 1 rfl
 obtain ⟨hI,G⟩:=G.open_and 1 rfl
 obtain rfl:=hI rfl
 obtain ⟨F,G⟩:=G.peel 1 2 rfl rfl
 obtain ⟨F,G⟩:=G.peel 1 3 rfl rfl
 obtain ⟨F,G⟩:=G.nM [0] [3,2,0]
 refine Ya (rZ G (qf (oN (.cs kr)) trivial qz qZ) V [2,0] [3,2,0] fun G=>Ya ?_)
 refine Zx G (qR rr (qf (o_nilCheck 2 .is (by rfl)) r1 r1 (qf (oF 1 2 .adr) r1 r1 (qa 2 r1 r1 (qf (ZfG .t) r1 qz (qR rr (qf (o_nilCheck 2 .is (by rfl)) r1 r1 (qf (oF 1 2 .adr) r1 r1 (qa 2 r1 r1 (qf (Z1 3 underlying113 .is) r1 r1 (qf (ZdD .t .t) r2 qz (qO rr qZ)))))))))))) V [2] [3,2,0] rfl rfl fun a w F G=>?_
 try dsimp only [List.map,xD,xE,xT,xU,ldSF] at G
 refine Za (Yh ?_)
 have G:=G.fresh 1 rfl
 refine Zac (h':=HP.star []) hG G rfl (.tmp rfl .nil) (.one .refl) rfl
theorem ZsU (b:Nat) (l:List UInt8) (hne:l≠[]):FnG prog 75 1 [.is (.pointer (some ⟨b,0,none⟩))] [ZaY (.pointer (some ⟨b,0,none⟩)) l] (.bs l) (fun _=>[HP.star []]):=by
 refine FnG.mk func75 rfl ntmps75 rfl kr fun B F0 a w F V hG G=>?_
 obtain ⟨ad,G⟩:=G.open_ex 1 rfl
 obtain ⟨hA,G⟩:=G.open_and 1 rfl
 obtain ⟨rv,G⟩:=G.open_ex 1 rfl
 obtain ⟨hI,G⟩:=G.open_and 1 rfl
 obtain ⟨F,G⟩:=G.peel 1 2 rfl rfl
 obtain ⟨F,G⟩:=G.peel 1 3 rfl rfl
 obtain ⟨F,G⟩:=G.nM [0] [3,2,0]
 refine Ya (rZ G (qf (oN (.cs kr)) trivial qz qZ) V [2,0] [3,2,0] fun G=>Ya ?_)
 refine Zx G (qR rr (qf (o_nilCheck 2 .is (by rfl)) r1 r1 (qf (oF 1 2 .adr) r1 r1 (qa 2 r1 r1 (qf (ZjE 3 hne .is (by rfl)) r1 r1 (qR rr (qf (o_nilCheck 2 .is (by rfl)) r1 r1 (qf (oF 1 2 .adr) r1 r1 (qa 2 r1 r1 (qf (Z1 3 underlying113 .is) r1 r1 (qf (Zgr 3 underlying176 kr hne .t) r2 r1 (qO rr qZ)))))))))))) V [2] [3,2,0] rfl rfl fun a w F G=>?_
 try dsimp only [List.map,xD,xE,xT,xU,ldSF] at G
 refine Za (Yh ?_)
 have G:=G.fresh 1 rfl
 refine Zac (h':=HP.star []) hG G rfl (.tmp rfl .nil) (.one .refl) rfl
theorem Zrx (b:Nat) (l:List UInt8):FnG prog 75 1 [.is (.pointer (some ⟨b,0,none⟩))] [ZaY (.pointer (some ⟨b,0,none⟩)) l] (.bs l) (fun _=>[HP.star []]):=by
 by_cases h:l = []
 ·subst h;exact Zs2 b
 ·exact ZsU b l h
theorem Zte (u:Nat):Zh1 u≠[]:=by unfold Zh1;simp
theorem ZrP (n:Int):ZeE n≠[]:=by
 unfold ZeE
 split
 ·simp
 ·simpa using Zte _
theorem Zca {n:Int} (h : -9223372036854775808≤n∧n≤9223372036854775807):(ZeE n).length≤21:=by
 have:=ZlB (Zhv h)
 unfold ZeE
 split <;> simp <;> omega
def Zqq (e:Zg):List UInt8:=((([32] ++ ZiC e.kind)++ZeE e.key) ++ [32])++ZeE e.dst
def Zfg (l:List Zg) (i:Nat):List UInt8:=ZeE (Nn l 0).src++(l.take i).flatMap Zqq
def Zgo (l:List Zg) (i:Nat):List UInt8:=if i=0 then [] else Zfg l i
def ZfM (e:Zg):Prop:=(-9223372036854775808≤e.src∧e.src≤9223372036854775807)∧(-9223372036854775808≤e.dst∧e.dst≤9223372036854775807) ∧ -9223372036854775808≤e.key∧e.key≤9223372036854775807
theorem Zju (k:Int):(ZiC k).length≤2:=by
 unfold ZiC
 repeat' split
 all_goals simp
theorem Zlz {e:Zg} (h:ZfM e):(Zqq e).length≤50:=by
 have h1:=Zca h.2.2
 have h2:=Zca h.2.1
 have h3:=Zju e.kind
 unfold Zqq
 simp only [Yd,Yl,Yy]
 omega
theorem ZpG {l:List Zg} (h:∀ e ∈ l,ZfM e) {i:Nat} (hi:i<l.length):(Zfg l i).length≤50+50*i:=by
 have h1:=Zca (h _ (nth_mem (q:=l) (k:=0) ow)).1
 have key:∀ m:List Zg,(∀ e ∈ m,ZfM e)→(m.flatMap Zqq).length≤50*m.length:=by
  intro m
  induction m with
  | nil=>intro _;simp
  | cons e m ih=>
   intro hm
   have:=ih fun x hx=>hm x (by simp [hx])
   have:=Zlz (hm e (by simp))
   rw [Y1,Yd,Yl];omega
 have h2:=key (l.take i) fun e he=>h e (YaS he)
 have h3:(l.take i).length≤i:=by rw [Yj];omega
 unfold Zfg
 rw [Yd];omega
theorem Zg5 {l:List Zg} {i:Nat} (hi:i<l.length):Zfg l i++Zqq (Nn l i)=Zgo l (i+1):=by
 unfold Zgo Zfg
 rw [Yc ow,Zr hi,YR,YJ];simp
theorem ZpD {l:List Zg} {i:Nat} (h:¬ i=0):Zgo l i=Zfg l i:=Yc h
theorem Zs7 (l:List Zg) (hl:l.length≤1000000) (hr:∀ e ∈ l,ZfM e):FnP prog 34 [.sl Zp l] (.bs (Zgo l l.length)):=by
 refine FnP.mk func34 rfl ntmps34 rfl fun B a w F V hfr G=>Ya ?_
 refine rZ G (qf (oN (.cs kr)) trivial qz qZ) V [2,0] [0] fun G=>Ya ?_
 refine Zb G (qf (oH [.pointer none,.slice none 0 0] 101) trivial qz qZ) V [3,2,0] [101,0] (fun _=>rfl) (fun _=>rfl) fun τ a w F G=>?_
 try dsimp only [RS.sub,SF.sub,CF.sub,csub,Anc.sub,List.map,zCF,Zp] at G
 generalize τ 3=v3 at G
 obtain ⟨b,rfl⟩:=G.shape 101 rfl
 replace G:=G.fresh 9 rfl
 replace G:=G.turn 9 rfl (ZaA (T:=5) (sz:=1) (R:=rC))
 replace G:=G.fresh 10 rfl
 obtain ⟨F,G⟩:=G.push 10 9 rfl rfl rfl kr
 obtain ⟨F,G⟩:=G.push 10 101 rfl rfl rfl kr
 replace G:=G.turn 10 rfl (r':=RS.hp (ZaY (.pointer (some ⟨b,0,none⟩)) [])) (fun _ _ _ _ h=>⟨_,.inl rfl,_,fun _=>rfl,h⟩)
 obtain ⟨F,G⟩:=G.nM [3,2,0] [10,0]
 refine Za (Ya (Ya (rZ G (qR rr (qu underlying31 r1 (qJ qZ))) V [8,7,6,3,2] [10,0] fun G=>Yg ?_)))
 refine Zl (σ:=(Nat)) [2,3,6,7] [0] (fun s=>[(8,.pv (.int .i64 (s:Int)))]) (fun s=>[(10,RS.hp (ZaY (.pointer (some ⟨b,0,none⟩)) (Zgo l s)))]) (fun s=>s≤l.length∧(True)) (fun s=>l.length - s) (0) G ⟨rfl,rfl,rfl,rfl,rfl,tv⟩ ⟨rfl,rfl,tv⟩ ⟨Yv _,tv⟩ ?_
 clear G;intro i a w F hC G
 try dsimp only at hC
 obtain ⟨F,G⟩:=G.nM [8,7,6,3,2] [10,0]
 try dsimp only at G
 obtain ⟨hi,hq⟩:=hC
 refine Ya (rZ G (qL r2) V [9,8,7,6,3,2] [10,0] fun G=>Ya ?_)
 refine Zc G rfl (fun hc0=>?_) (fun hc0=>?_)
 ·have hil:i<l.length:=by simp at hc0;omega
  have hsm:=hr _ (nth_mem hil)
  have hcl:=ZpG hr hil
  have hel:=Zlz hsm
  have hx1:=Zca hsm.1
  have hx2:=Zca hsm.2.1
  have hx3:=Zca hsm.2.2
  have hx4:=Zju (Nn l i).kind
  refine Ye (Za (Ya (Yg (Ya (Zb G (qR rr (qy 4 underlying31 r2 (qf (oR true 4 .t) r1 qz (qf (oH [.int .i64 0,.int .i64 0,.int .i64 0,.int .i64 0] 102) trivial qz (qO rr (qS 4 102 r2 r1 qZ)))))) V [8,7,6,5,4,3,2] [102,10,0] (fun _=>rfl) (fun _=>rfl) fun τ a w F G=>?_)))))
  try dsimp only [RS.sub,SF.sub,CF.sub,csub,Anc.sub,List.map,Ze,xL,xM,Nat.reduceAdd,xD,xE,xT,xU,xC,xN,zCF,ldSF,Zp] at G
  generalize τ 5=v5 at G
  try simp only [Yb] at G
  refine Za (Ya (Ya (rZ G (qR rr (qf (o_eql .t qi) r1 qz qZ)) V [14,8,7,6,5,3,2] [102,10,0] fun G=>?_)))
  refine Zc G rfl (fun hc1=>?_) (fun hc1=>?_)
  ·have hi0:i=0:=by have h9:=Yt hc1;omega
   have hw0:Zgo l i = []:=by rw [hi0];rfl
   rw [hw0] at G
   refine Zf G (qg 0 102 r1 r1 (qa 102 r1 r1 (qf (oP (Ziv (Nn l i).src) func73 (Args.one .t)) r1 qz (qf (ZJ 10 (Zcw b [] (by simp) (ZeE (Nn l i).src) (ZrP _) ow) func72 rfl kr (Args.two .t .t)) r2 r1 qZ)))) V [8,7,6,5,3,2] [102,10,0] rfl rfl fun a w F G=>?_
   replace G:=G.turn 10 rfl (r':=RS.hp (ZaY (.pointer (some ⟨b,0,none⟩)) (Zfg l i))) (fun _ _ _ _ h=>⟨_,.inr rfl,by rw [show Zfg l i = [] ++ ZeE (Nn l i).src by rw [hi0];simp [Zfg]];exact h⟩)
   refine Za (Zx G (qg 2 102 r1 r1 (qa 102 r1 r1 (qf (oP (Znh (Nn l i).kind) func74 (Args.one .t)) r1 qz (qf (Zbp (.cs kr) .t (by simp only [Yd,Yl,Yy];omega)) r1 qz (qg 3 102 r1 r1 (qa 102 r1 r1 (qf (oP (Ziv (Nn l i).key) func73 (Args.one .t)) r1 qz (qf (Zbp .t .t (by simp only [Yd,Yl,Yy];omega)) r2 qz (qf (Zbp .t (.cs kr) (by simp only [Yd,Yl,Yy];omega)) r1 qz (qg 1 102 r1 r1 (qa 102 r1 r1 (qf (oP (Ziv (Nn l i).dst) func73 (Args.one .t)) r1 qz (qf (Zbp .t .t (by simp only [Yd,Yl,Yy];omega)) r2 qz (qf (ZJ 10 (Zcw b (Zfg l i) ow (Zqq (Nn l i)) (by unfold Zqq;simp) ow) func72 rfl kr (Args.two .t .t)) r2 r1 qZ)))))))))))))) V [8,7,6,3,2] [10,0] rfl rfl fun a w F G=>?_)
   try dsimp only [List.map,xD,xE,xT,xU,ldSF,Zp] at G
   refine Zj (Za (rZ G (qp r1 (qR rr qZ)) V [8,7,6,3,2] [10,0] fun G=>?_))
   replace G:=G.turn 10 rfl (r':=RS.hp (ZaY (.pointer (some ⟨b,0,none⟩)) (Zgo l (i+1)))) (fun _ _ _ _ h=>⟨_,.inr rfl,by rw [← Zg5 hil];exact h⟩)
   replace G:=G.ent (i:=8) (s':=.pv (.int .i64 ((i+1:Nat):Int))) rfl (.int (Zd ow))
   obtain ⟨F,G⟩:=G.nM [7,6,3,2,8] [0,10]
   exact ⟨(i+1),F,⟨by omega,tv⟩,G,by omega⟩
  have hi0:¬ i=0:=by have h9:=YG hc1;omega
  rw [ZpD hi0] at G
  refine Ye (Za (Zx G (qg 2 102 r1 r1 (qa 102 r1 r1 (qf (oP (Znh (Nn l i).kind) func74 (Args.one .t)) r1 qz (qf (Zbp (.cs kr) .t (by simp only [Yd,Yl,Yy];omega)) r1 qz (qg 3 102 r1 r1 (qa 102 r1 r1 (qf (oP (Ziv (Nn l i).key) func73 (Args.one .t)) r1 qz (qf (Zbp .t .t (by simp only [Yd,Yl,Yy];omega)) r2 qz (qf (Zbp .t (.cs kr) (by simp only [Yd,Yl,Yy];omega)) r1 qz (qg 1 102 r1 r1 (qa 102 r1 r1 (qf (oP (Ziv (Nn l i).dst) func73 (Args.one .t)) r1 qz (qf (Zbp .t .t (by simp only [Yd,Yl,Yy];omega)) r2 qz (qf (ZJ 10 (Zcw b (Zfg l i) ow (Zqq (Nn l i)) (by unfold Zqq;simp) ow) func72 rfl kr (Args.two .t .t)) r2 r1 qZ)))))))))))))) V [8,7,6,3,2] [10,0] rfl rfl fun a w F G=>?_))
  try dsimp only [List.map,xD,xE,xT,xU,ldSF,Zp] at G
  refine Zj (Za (rZ G (qp r1 (qR rr qZ)) V [8,7,6,3,2] [10,0] fun G=>?_))
  replace G:=G.turn 10 rfl (r':=RS.hp (ZaY (.pointer (some ⟨b,0,none⟩)) (Zgo l (i+1)))) (fun _ _ _ _ h=>⟨_,.inr rfl,by rw [← Zg5 hil];exact h⟩)
  replace G:=G.ent (i:=8) (s':=.pv (.int .i64 ((i+1:Nat):Int))) rfl (.int (Zd ow))
  obtain ⟨F,G⟩:=G.nM [7,6,3,2,8] [0,10]
  exact ⟨(i+1),F,⟨by omega,tv⟩,G,by omega⟩
 have hil:i=l.length:=by simp at hc0;omega
 rw [hil] at G
 refine Yw (Zi (Zi (Zn (Za (Ya (rZ G (qf (ZJ 10 (Zrx b (Zgo l l.length)) func75 rfl kr (Args.one .t)) r1 r1 (qO rr qZ)) V [2] [10,0] fun G=>Yh ?_))))))
 refine Zo hfr G rfl rfl rfl (.bs rfl)
end Go.Proofs.YtlkpllemoepamaaGreat
