/- Laws and walks. No condition beyond what each says. -/
import Derived.Test.YtlkpllemoepamaaGreatJ7
namespace Go.Proofs.YtlkpllemoepamaaGreat
open Go Go.Gm Tryz
set_option linter.unusedVariables false
set_option linter.unusedSimpArgs false
set_option maxHeartbeats 4000000
set_option maxRecDepth 8000
theorem Zj7 (x:Int):FnP prog 151 [.int .i64 x] (.bool false):=by
 refine FnP.mk func151 rfl ntmps151 rfl fun B a w F Z hfr G=>Ya ?_
 refine rZ G qB Z [2,0] [0] fun G=>Ya ?_
 refine rZ G (qR rr (qR rr (qf (o_neq .t .t) r2 qz (qO rr qZ)))) Z [2] [0] fun G=>Yh ?_
 refine Zv hfr G rfl rfl rfl (.bool (by simp))
theorem ZkP (x:Int):FnP prog 226 [.int .i64 x] (.bool false):=by
 refine FnP.mk func226 rfl ntmps226 rfl fun B a w F Z hfr G=>Ya ?_
 refine rZ G qB Z [2,0] [0] fun G=>Ya ?_
 refine rZ G (qR rr (qR rr (qf (o_neq .t .t) r2 qz (qO rr qZ)))) Z [2] [0] fun G=>Yh ?_
 refine Zv hfr G rfl rfl rfl (.bool (by simp))
theorem Zre (x y:Int):FnP prog 186 [.int .i64 x,.int .i64 y] (.bool (decide (x<y))):=by
 refine FnP.mk func186 rfl ntmps186 rfl fun B a w F Z hfr G=>Ya ?_
 refine rZ G qB Z [4,1,0] [0] fun G=>Ya ?_
 refine rZ G (qR rr (qf (oP (Zj7 x) func151 (Args.one .t)) r1 qz (qR rr (qm rfl rfl rfl rfl (qk rfl (fun h=>oP (Zj7 y) func151 (Args.one (.w h))) r2 qz (qk rfl (fun h=>o_not (.w h)) r2 qz (qf (ZH .t .t) r2 qz (qR rr (qm rfl rfl rfl rfl (qm rfl rfl rfl rfl (qk rfl (fun h=>Zar (.w h) (.w h)) r3 qz (qf (Zaa .t .t) r2 qz (qO rr qZ))))))))))))) Z [4] [0] fun G=>Yh ?_
 refine Zv hfr G rfl rfl rfl (.bool (by simp))
theorem Zru (l:List Int) (k:Int) (hll:l.length≤1000000) (hs:Zgn (fun x:Int=>x) l):FnP prog 203 [.sl Zn l,.int .i64 k] (.tup [.int .i64 (lowK (fun x:Int=>x) k l),.any]):=by
 refine FnP.mk func203 rfl ntmps203 rfl fun B a w F Z hfr G=>Ya ?_
 refine rZ G (qI qB) Z [5,4,1,0] [0] fun G=>Ya ?_
 refine rZ G (qR rr (qu Yb0 r1 (qO rr qZ))) Z [6,5,4,1,0] [0] fun G=>Ya ?_
 refine rZ G (qR rr (qI (qO rr qZ))) Z [8,7,6,5,4,1,0] [0] fun G=>(Ya (Yg ?_))
 refine Zm (σ:=Nat×Nat) [0,1,4,5,6] [0] (fun s=>[(7,.pv (.int .i64 (s.1:Int))),(8,.pv (.int .i64 (s.2:Int)))]) (fun s=>[]) (fun s=>s.1≤s.2∧s.2≤l.length∧(∀ q,q<s.1→Nn l q<k) ∧ ∀ q,s.2≤q→q<l.length→k≤Nn l q) (fun s=>s.2 - s.1) ((0),(l.length)) G ⟨rfl,rfl,rfl,rfl,rfl,rfl,rfl,tv⟩ ⟨rfl,tv⟩ ⟨Yx _,YO _,fun q hq=>absurd hq (Y3 q),fun q h1 h2=>by omega⟩ ?_
 clear G;intro s a w F hC G
 obtain ⟨i,j⟩:=s
 try dsimp only at hC
 obtain ⟨F,G⟩:=G.nM [8,7,6,5,4,1,0] [0]
 try dsimp only at G
 obtain ⟨hij,hjl,hlo,hhi⟩:=hC
 have hgl:=ZeN (κ:=fun x:Int=>x) (i:=i) ow hlo
 refine Ya (Ya (rZ G (qR rr (qR rr (qL r2))) Z [15,8,7,6,5,4,1,0] [0] fun G=>?_))
 refine Zc G rfl (fun hc0=>?_) (fun hc0=>?_)
 ·have hlt:i<j:=by simp at hc0;omega
  refine Yf (Za (Yg (Ya (Zg G (qR rr (qR rr (qf (o_add .t .t) r2 qz (qf (Zat Yb8 kr .t) r1 qz (qf (Zev .t qi (by decide)) r1 qz (qf (Zat Yb9 kr .t) r1 qz (qO rr qZ))))))) Z [9,8,7,6,5,4,1,0] [0] rfl rfl fun a w F G=>?_))))
  obtain ⟨m,hm⟩:∃ m:Nat,m=(i+j) / 2:=⟨_,rfl⟩
  replace G:=G.ent (i:=9) (s':=.pv (.int .i64 (m:Int))) rfl (.int (by rw [hm];exact Zmp ow))
  obtain ⟨F,G⟩:=G.nM [9,8,7,6,5,4,1,0] [0]
  refine Za (Ya (Zg G (qR rr (qR rr (qy 1 Yb0 r2 (qf (oR false 1 .t) r1 qz (qR rr (qf (oP (Zre (Nn l m) k) func186 (Args.two .t .t)) r2 qz qZ)))))) Z [27,9,8,7,6,5,4,1,0] [0] rfl rfl fun a w F G=>?_))
  try simp only [Yd] at G
  refine Za (Zc G rfl (fun hc1=>?_) (fun hc1=>?_))
  ·have hmk:(Nn l m)<k:=by simpa using hc1
   obtain ⟨i2,hi2e⟩:∃ z,z=m+1:=⟨_,rfl⟩
   obtain ⟨j2,hj2e⟩:∃ z,z=j:=⟨_,rfl⟩
   have hi2:IntKind.wrap .i64 ((m:Int)+1)=(i2:Int):=by rw [hi2e];exact Zd ow
   have hj2:(j:Int)=(j2:Int):=by rw [hj2e]
   have hmu:j2 - i2<j - i:=by omega
   have hC2:i2≤j2∧j2≤l.length∧(∀ q,q<i2→Nn l q<k) ∧ ∀ q,j2≤q→q<l.length→k≤Nn l q:=⟨by omega,by omega,fun q hq=>Int.lt_of_le_of_lt (Zdq (κ:=fun x:Int=>x) hs ow ow) hmk,by rw [hj2e];exact hhi⟩
   refine Zg G (qR rr (qp r1 (qO rr qZ))) Z [8,7,6,5,4,1,0] [0] rfl rfl fun a w F G=>Zj (Za ?_)
   replace G:=G.ent (i:=7) (s':=.pv (.int .i64 (i2:Int))) rfl (.int hi2)
   replace G:=G.ent (i:=8) (s':=.pv (.int .i64 (j2:Int))) rfl (.int hj2)
   obtain ⟨F,G⟩:=G.nM [6,5,4,1,0,8,7] [0]
   exact ⟨((i2),(j2)),F,hC2,G,hmu⟩
  have hmk:k≤(Nn l m):=Int.not_lt.1 (show ¬ (Nn l m)<k by simpa using hc1)
  obtain ⟨i2,hi2e⟩:∃ z,z=i:=⟨_,rfl⟩
  obtain ⟨j2,hj2e⟩:∃ z,z=m:=⟨_,rfl⟩
  have hi2:(i:Int)=(i2:Int):=by rw [hi2e]
  have hj2:(m:Int)=(j2:Int):=by rw [hj2e]
  have hmu:j2 - i2<j - i:=by omega
  have hC2:i2≤j2∧j2≤l.length∧(∀ q,q<i2→Nn l q<k) ∧ ∀ q,j2≤q→q<l.length→k≤Nn l q:=⟨by omega,by omega,by rw [hi2e];exact hlo,fun q h1 h2=>Int.le_trans hmk (Zdq (κ:=fun x:Int=>x) hs ow h2)⟩
  refine Zg G (qR rr (qO rr qZ)) Z [8,7,6,5,4,1,0] [0] rfl rfl fun a w F G=>Zj (Za ?_)
  replace G:=G.ent (i:=7) (s':=.pv (.int .i64 (i2:Int))) rfl (.int hi2)
  replace G:=G.ent (i:=8) (s':=.pv (.int .i64 (j2:Int))) rfl (.int hj2)
  obtain ⟨F,G⟩:=G.nM [6,5,4,1,0,8,7] [0]
  exact ⟨((i2),(j2)),F,hC2,G,hmu⟩
 have hjj:i=j:=by simp at hc0;omega
 subst hjj
 have hgl2:=hgl hhi
 refine Yz (Zh (Zh (Zr (Za (Ya (Zg G (qR rr (qR rr (qR rr (qf (Zar .t .t) r2 qz (qR rr (qm rfl rfl rfl rfl (qm rfl rfl rfl rfl (qk rfl (fun h=>o_indexAddr_sl (sz:=1) (.mk Yb0 kr) (by intro x;rfl) (.w h) (.w h) ow (by have:=Yw h;omega)) r3 qz (qk rfl (fun h=>oR false 1 (.w h)) r2 qz (qm rfl rfl rfl rfl (qk rfl (fun h=>o_eql (.w h) (.w h)) r3 qz (qk rfl (fun h=>oM (.w h)) r2 qz (Zy.cons (ZaD.cond2 rfl rfl (fun h=>Za0 .t (by rfl))) r2 qz (Zy.cons (ZaD.cond2 rfl rfl (fun h=>Za0 .t (by rfl))) r2 qz (Zy.cons (ZaD.cond2 rfl rfl (fun h=>o_indexAddr_sl (sz:=1) (.mk Yb0 kr) (by intro x;rfl) (.w h) (.w h) ow (by have:=Yw h.1;omega))) r3 qz (Zy.cons (ZaD.cond2 rfl rfl (fun h=>ZgG (ag:=false) (sz:=1) (.w h) kr kr kr)) r2 qz (Zy.cons (ZaD.cond2 rfl rfl (fun h=>Zg3 (ZkP _) func226 rfl kr (Args.one (.w h)))) r2 qz (Zy.cons (ZaD.cond2 rfl rfl (fun h=>Za0 (.w h) (by rfl))) r2 qz (Zy.cons (ZaD.cond2 rfl rfl (fun h=>Za0 .t (by rfl))) r2 qz (Zy.cons (ZaD.cond2 rfl rfl (fun h=>Zg3 (ZkP _) func226 rfl kr (Args.one (.w h)))) r2 qz (Zy.cons (ZaD.cond2 rfl rfl (fun h=>ZH (.w h) (.wc h))) r3 qz (qk rfl (fun h=>Zaa (.w h) (.wc h)) r3 qz (qf (ZH .t .t) r2 qz (qO rr (qO rr qZ))))))))))))))))))))))))) Z [5,4] [0] rfl rfl fun a w F G=>?_))))))
 try dsimp only [List.map,xD,xE,xT,xU,ldSF,Zn] at G
 try simp only [Yd] at G
 refine Za (Yh (Zae hfr G rfl (.tmp rfl (.tmp rfl .nil)) (.two (.int (by rw [hgl2])) .any)))
theorem ZmZ (v:Value) (l:List Int) (hll:l.length≤1000000):FnG prog 167 1 [.is v] [ZC 3 1 Zn l v] (PV.one) (fun v=>[ZC 3 1 Zn (Zbu l) v]):=by
 refine FnG.mk func167 rfl ntmps167 rfl kr fun B F0 a w F Z hG G=>?_
 replace G:=G.turn 1 rfl (r':=.ob (.val v) (ZC 3 1 Zn l)) (fun _ _ _ _ h=>h)
 have hg:Zbu l=Zq (l.mergeSort leI):=by rw [ZcY,Zdl]
 refine Ya (rZ G (qC qZ) Z [2,0] [1,0] fun G=>Ya ?_)
 refine rZ G (qR rr (qf (Zbe 1 (ZiC v l ow) func92 rfl kr (Args.one .t)) r1 r1 qZ)) Z [2,0] [1,0] fun G=>Ya ?_
 refine Zb G (qR rr (qf (o_callRowN 1 (Zjo v _ (by rw [Ybl];omega)) func179 rfl kr (Args.one .t) pvOne1) r1 r1 (qO rr qZ))) Z [2] [1,0] (fun _=>rfl) (fun _=>rfl) fun τ a w F G=>?_
 try dsimp only [RS.sub,SF.sub,CF.sub,csub,Anc.sub,List.map,Zal,Zan,Zn,ZaI] at G
 generalize τ 6=v6 at G
 refine Za (Yh ?_)
 have G:=G.turn 1 rfl (r':=RS.hp (ZC 3 1 Zn (Zbu l) v6)) (fun _ _ _ _ h=>by rw [hg];exact h)
 refine Zab (h':=fun v=>ZC 3 1 Zn (Zbu l) v) hG G rfl (.tmp rfl .nil) (.one .one) rfl
theorem Zhs {A:Zw→Prop} {i:Int} {prev:Int→List Int} (hp:∀ x u,u ∈ prev x ↔ ∃ y,A y∧y.dst=x∧y.src=u) {k:Nat} {u:Int} : ZeC prev i i k u ↔ i≤u ∧ ∃ w,ZdR A i u w i∧w.length=k:=by
 constructor
 ·intro h
  induction h with
  | zero=>exact ⟨Yam _,[],rfl,rfl⟩
  | step h1 hl _ ih=>
   obtain ⟨i1,w,i2,i3⟩:=ih
   obtain ⟨y,y1,y2,y3⟩:=(hp _ _).1 h1
   subst y2
   exact ⟨hl,y :: w,⟨y1,y3,i1,i2⟩,by rw [Yk,i3]⟩
 ·rintro ⟨hu,w,hw,rfl⟩
  induction w generalizing u with
  | nil=>
   have e:u=i:=hw
   subst e;exact .zero
  | cons y w ih=>exact .step ((hp _ _).2 ⟨y,hw.1,rfl,hw.2.1⟩) hu (ih hw.2.2.1 hw.2.2.2)
theorem ZkC {A:Zw→Prop} {m:Zw→Bool} {i:Int} {p q:Int→List Int} (hp:∀ x u,u ∈ p x ↔ ∃ y,A y∧m y=false∧y.dst=x∧y.src=u) (hq:∀ x u,u ∈ q x ↔ ∃ y,A y∧m y=true∧y.dst=x∧y.src=u) {k:Nat} {s:Int} :
  ZeC (Zdb p q) (2*i) (2*i) k s ↔ i≤s / 2 ∧ ∃ w,ZdR A i (s / 2) w i∧w.length=k∧(s % 2=1 ↔ w.any m=true):=by
 constructor
 ·intro h
  induction h with
  | zero=>exact ⟨by omega,[],by show 2*i / 2=i;omega,rfl,by simp⟩
  | @step k s x h1 hl _ ih=>
   obtain ⟨i1,w,i2,i3,i4⟩:=ih
   rcases Yy.1 h1 with h1 | h1
   ·obtain ⟨u,h2,h3⟩:=Yu.1 h1
    obtain ⟨y,y1,y2,y3,y4⟩:=(hp _ _).1 h2
    have e1:s / 2=u:=by omega
    have e2:s % 2=x % 2:=by omega
    subst y4
    refine ⟨by omega,y :: w,⟨y1,e1.symm,by rw [y3];exact i1,by rw [y3];exact i2⟩,by rw [Yk,i3],?_⟩
    rw [e2,i4,YbP,y2,Bool.false_or]
   ·obtain ⟨u,h2,h3⟩:=Yu.1 h1
    obtain ⟨y,y1,y2,y3,y4⟩:=(hq _ _).1 h2
    have e1:s / 2=u:=by omega
    subst y4
    refine ⟨by omega,y :: w,⟨y1,e1.symm,by rw [y3];exact i1,by rw [y3];exact i2⟩,by rw [Yk,i3],?_⟩
    rw [YbP,y2,YbU]
    exact ⟨fun _=>rfl,fun _=>by omega⟩
 ·rintro ⟨hu,w,hw,rfl,hm⟩
  induction w generalizing s with
  | nil=>
   have e:s / 2=i:=hw
   have e2:¬ s % 2=1:=fun h=>by have:=hm.1 h;simp at this
   have:s=2*i:=by omega
   rw [this];exact .zero
  | cons y w ih=>
   obtain ⟨a1,a2,a3,a4⟩:=hw
   rw [YbP] at hm
   cases hy:m y
   ·rw [hy,Bool.false_or] at hm
    refine .step (x:=2*y.dst+s % 2) (Yac _ (Yu.2 ⟨s / 2,(hp _ _).2 ⟨y,a1,hy,by omega,a2⟩,by omega⟩)) ow (ih ow ?_ ?_)
    ·rw [show (2*y.dst+s % 2) / 2=y.dst by omega];exact a4
    ·rw [show (2*y.dst+s % 2) % 2=s % 2 by omega];exact hm
   ·rw [hy,YbU] at hm
    have hs:s % 2=1:=hm.2 rfl
    cases hw2:w.any m
    ·refine .step (x:=2*y.dst) (YX _ (Yu.2 ⟨s / 2,(hq _ _).2 ⟨y,a1,hy,by omega,a2⟩,by omega⟩)) ow (ih ow ?_ ?_)
     ·rw [show (2*y.dst) / 2=y.dst by omega];exact a4
     ·rw [show (2*y.dst) % 2=0 by omega,hw2];simp
    ·refine .step (x:=2*y.dst+1) (YX _ (Yu.2 ⟨s / 2,(hq _ _).2 ⟨y,a1,hy,by omega,a2⟩,by omega⟩)) ow (ih ow ?_ ?_)
     ·rw [show (2*y.dst+1) / 2=y.dst by omega];exact a4
     ·rw [show (2*y.dst+1) % 2=1 by omega,hw2];simp
theorem ZmN {n:Nat} {d:List Int} {u:Int} (h:0≤u∧u<n):fI (ZaG n d) u=fI d (2*u+1):=by
 rw [Zcr h.1,Zcr ow]
 unfold ZaG
 rw [nth_eq (by simp;omega)]
 simp only [List.getElem_map,List.getElem_range]
 congr 1;omega
theorem Zly {n:Nat} {A:Zw→Prop} {m:Zw→Bool} {i:Int} {prev p q:Int→List Int} {d e:List Int} (hA:∀ x,A x→0≤x.dst∧x.dst<n) (hr:∀ x u,u ∈ prev x ↔ ∃ y,A y∧y.dst=x∧y.src=u)
  (hp:∀ x u,u ∈ p x ↔ ∃ y,A y∧m y=false∧y.dst=x∧y.src=u) (hq:∀ x u,u ∈ q x ↔ ∃ y,A y∧m y=true∧y.dst=x∧y.src=u)
  (hd:Zc3 n prev i i d) (he:Zc3 (2*n) (Zdb p q) (2*i) (2*i) e):Zcf A m i d (ZaG n e):=by
 have at_:∀ {k:Nat} {D:List Int} {P:Int→List Int} {l t:Int} {u:Int},Zc3 k P l t D→0≤u→u<k→(fI D u = -1 ∧ ∀ j,¬ ZeC P l t j u) ∨ ∃ j:Nat,fI D u=j∧ZeC P l t j u ∧ ∀ j',ZeC P l t j' u→j≤j':=fun {k D P l t u} h h1 h2=>by
  have:=h.2 u.toNat ow
  rw [Ybf h1] at this
  rwa [Zcr h1]
 refine ⟨fun x hx hi=>?_,fun x hx hi=>?_,fun x hx hi=>?_⟩
 ·obtain ⟨h1,h2⟩:=hA x hx
  rcases at_ hd h1 h2 with ⟨k1,k2⟩ | ⟨j,k1,k2,k3⟩
  ·exact .inl ⟨k1,fun w hw _=>k2 w.length ((Zhs hr).2 ⟨hi,w,hw,rfl⟩)⟩
  ·obtain ⟨_,w,w1,w2⟩:=(Zhs hr).1 k2
   exact .inr ⟨w,w1,fun h=>by simp at h,by rw [w2,k1],fun w' hw' _=>by rw [w2];exact k3 _ ((Zhs hr).2 ⟨hi,w',hw',rfl⟩)⟩
 ·obtain ⟨h1,h2⟩:=hA x hx
  rw [ZmN ⟨h1,h2⟩]
  have e1:(2*x.dst+1) / 2=x.dst:=by omega
  have e2:(2*x.dst+1) % 2=1:=by omega
  have key:∀ k,ZeC (Zdb p q) (2*i) (2*i) k (2*x.dst+1) ↔ ∃ w,ZdR A i x.dst w i∧w.length=k∧Zcy m true w:=fun k=>by
   rw [ZkC hp hq,e1,e2]
   constructor
   ·rintro ⟨_,w,w1,w2,w3⟩
    refine ⟨w,w1,w2,fun _=>?_⟩
    have:=w3.1 rfl
    rw [YaU] at this
    exact this
   ·rintro ⟨w,w1,w2,w3⟩
    exact ⟨hi,w,w1,w2,fun _=>by rw [YaU];exact w3 rfl,fun _=>rfl⟩
  rcases at_ he (u:=2*x.dst+1) ow ow with ⟨k1,k2⟩ | ⟨j,k1,k2,k3⟩
  ·exact .inl ⟨k1,fun w hw hm=>k2 w.length ((key _).2 ⟨w,hw,rfl,hm⟩)⟩
  ·obtain ⟨w,w1,w2,w3⟩:=(key _).1 k2
   exact .inr ⟨w,w1,w3,by rw [w2,k1],fun w' hw' hm'=>by rw [w2];exact k3 _ ((key _).2 ⟨w',hw',rfl,hm'⟩)⟩
 ·obtain ⟨h1,h2⟩:=hA x hx
  rw [ZmN ⟨h1,h2⟩]
  refine ⟨?_,?_⟩
  ·rcases at_ hd h1 h2 with ⟨k1,_⟩ | ⟨j,_,k2,_⟩
   ·exact k1
   ·have:=((Zhs hr).1 k2).1;omega
  ·rcases at_ he (u:=2*x.dst+1) ow ow with ⟨k1,_⟩ | ⟨j,_,k2,_⟩
   ·exact k1
   ·have:=((ZkC hp hq).1 k2).1;omega
theorem Zdo.nil (A:Zw→Prop) (m:Zw→Bool) (κ:Zw→Int) (need:Bool) (h:∀ j w,CwA A m need j w→0≤j):Zdo A m κ need 0 []:=⟨fun _ j w hj hw=>by have:=h j w hw;omega,fun h=>absurd rfl h⟩
theorem Zdo.keep {A:Zw→Prop} {m:Zw→Bool} {κ:Zw→Int} {need:Bool} {i:Int} {way:List Zw} (h:Zdo A m κ need i way) (hk:way = [] → ∀ w,¬ CwA A m need i w) (hk2:way≠[] → ∀ w,CwA A m need i w→way.length≤w.length):Zdo A m κ need (i+1) way:=by
 refine ⟨fun e j w hj hw=>?_,fun e=>?_⟩
 ·by_cases hji:j=i
  ·subst hji;exact hk e w hw
  ·exact h.1 e j w ow hw
 ·obtain ⟨j,j1,j2,j3⟩:=h.2 e
  refine ⟨j,by omega,j2,fun j' w hj' hw=>?_⟩
  by_cases hji:j' = i
  ·subst hji
   have:=hk2 e w hw
   by_cases hl:way.length=w.length
   ·exact .inr ⟨hl,.inl j1⟩
   ·exact .inl ow
  ·exact j3 j' w ow hw
theorem Zdo.turn {A:Zw→Prop} {m:Zw→Bool} {κ:Zw→Int} {need:Bool} {i:Int} {way new:List Zw} (h:Zdo A m κ need i way) (hn:CwA A m need i new) (hmin:∀ w,CwA A m need i w→new.length≤w.length) (hf:∀ w,CwA A m need i w→w.length=new.length→w=new∨LtA κ new w) (hl:way≠[]→new.length<way.length):Zdo A m κ need (i+1) new:=by
 refine ⟨fun e=>absurd e hn.1,fun _=>⟨i,by omega,hn,fun j' w hj' hw=>?_⟩⟩
 by_cases hji:j' = i
 ·subst hji
  have:=hmin w hw
  by_cases e:new.length=w.length
  ·exact .inr ⟨e,.inr ⟨rfl,hf w hw e.symm⟩⟩
  ·exact .inl ow
 ·by_cases e:way = []
  ·exact absurd hw (h.1 e j' w ow)
  ·obtain ⟨j,j1,j2,j3⟩:=h.2 e
   have:=hl e
   rcases j3 j' w ow hw with k | ⟨k,_⟩
   ·exact .inl ow
   ·exact .inl ow
def Zep (B:Zf→Prop):Int→List Zf→Int→Prop
 | a,[],b=>a=b
 | a,e :: w,b=>B e∧e.src=a∧Zep B e.dst w b
def CwE (B:Zf→Prop) (m:Zf→Bool) (need:Bool) (i:Int) (w:List Zf):Prop:=w≠[]∧Zep B i w i∧(∀ e ∈ w,i≤e.dst)∧(need=true → ∃ e ∈ w,m e=true)
def ltK (x y:Zf):Prop:=x.kind<y.kind∨x.kind=y.kind∧(x.key<y.key∨x.key=y.key∧x.dst<y.dst)
def LtE:List Zf→List Zf→Prop
 | x :: w,y :: v=>ltK x y∨(x=y∧LtE w v)
 | _,_=>False
def ZaB (B:Zf→Prop) (m:Zf→Bool) (need:Bool) (w:List Zf):Prop:=∃ j,CwE B m need j w ∧ ∀ j' w',CwE B m need j' w' → w.length<w'.length∨(w.length=w'.length∧(j<j' ∨ (j=j' ∧ (w' = w∨LtE w w'))))
theorem ZmQ {x:Zf} : ¬ ltK x x:=by unfold ltK;omega
theorem ZpV {x y:Zf} (h:ltK x y):¬ ltK y x:=by unfold ltK at *;omega
theorem LtE.asym:∀ {w v:List Zf},LtE w v→¬ LtE v w
 | x :: w,y :: v,h,k=>by
  rcases h with h | ⟨rfl,h⟩ <;> rcases k with k | ⟨k1,k⟩
  ·exact ZpV h k
  ·exact ZmQ (k1 ▸ h)
  ·exact ZmQ k
  ·exact LtE.asym h k
 | [],_,h,_=>h.elim
 | _ :: _,[],h,_=>h.elim
theorem ZaB.one {B:Zf→Prop} {m:Zf→Bool} {need:Bool} {w v:List Zf} (h:ZaB B m need w) (k:ZaB B m need v):w=v:=by
 obtain ⟨i,h1,h2⟩:=h
 obtain ⟨j,k1,k2⟩:=k
 have a:=h2 j v k1
 have b:=k2 i w h1
 rcases a with a | ⟨a1,a2⟩
 ·rcases b with b | ⟨b1,_⟩ <;> omega
 ·rcases b with b | ⟨b1,b2⟩
  ·omega
  ·rcases a2 with a2 | ⟨a2,a3⟩
   ·rcases b2 with b2 | ⟨b2,_⟩ <;> omega
   ·rcases a3 with a3 | a3
    ·exact a3.symm
    ·rcases b2 with b2 | ⟨_,b3⟩
     ·omega
     ·rcases b3 with b3 | b3
      ·exact b3
      ·exact absurd b3 a3.asym
section
variable {B:Zf→Prop} {m:Zf→Bool} {need:Bool}
theorem Zhh {a b:Int} : ∀ {w:List Zf},Zep B a w b → ∀ e ∈ w,B e
 | e :: w,h,x,hx=>by
  rcases Yl.1 hx with rfl | hx
  ·exact h.1
  ·exact Zhh h.2.2 x hx
theorem ZfY {B':Zf→Prop} {a b:Int} : ∀ {w:List Zf},(∀ e ∈ w,B e→B' e)→Zep B a w b→Zep B' a w b
 | [],_,h=>h
 | e :: w,hs,h=>⟨hs e (by simp) h.1,h.2.1,ZfY (fun x hx=>hs x (by simp [hx])) h.2.2⟩
end
structure Zcp (B:Zf→Prop) (r s:Int→Int) (f:Zw→Zf):Prop where
 ids:∀ a b,(∃ e,B e∧(e.src=a∨e.dst=a))→(∃ e,B e∧(e.src=b∨e.dst=b))→(a<b ↔ r a<r b)
 keys:∀ a b,(∃ e,B e∧e.key=a)→(∃ e,B e∧e.key=b)→(a<b ↔ s a<s b)
 idr:∀ a,(∃ e,B e∧(e.src=a∨e.dst=a))→0≤r a∧r a<4096
 keyr:∀ a,(∃ e,B e∧e.key=a)→0≤s a∧s a<1048576
 inv:∀ e,B e→f ⟨r e.src,r e.dst,e.kind,s e.key⟩ = e
def ZbU (r s:Int→Int) (e:Zf):Zw:=⟨r e.src,r e.dst,e.kind,s e.key⟩
section
variable {B:Zf→Prop} {mA:Zw→Bool} {need:Bool} {r s:Int→Int} {f:Zw→Zf}
theorem Zcp.inj (h:Zcp B r s f) {a b:Int} (ha:∃ e,B e∧(e.src=a∨e.dst=a)) (hb:∃ e,B e∧(e.src=b∨e.dst=b)) (e:r a=r b):a=b:=by
 have h1:=h.ids a b ha hb
 have h2:=h.ids b a hb ha
 omega
theorem Zcp.le (h:Zcp B r s f) {a b:Int} (ha:∃ e,B e∧(e.src=a∨e.dst=a)) (hb:∃ e,B e∧(e.src=b∨e.dst=b)):a≤b ↔ r a≤r b:=by
 have h2:=h.ids b a hb ha
 omega
theorem Zcp.lt (h:Zcp B r s f) {x y:Zf} (hx:B x) (hy:B y):ltK x y ↔ Zmg (ZbU r s x)<Zmg (ZbU r s y):=by
 obtain ⟨a1,a2⟩:=h.idr x.dst ⟨x,hx,.inr rfl⟩
 obtain ⟨b1,b2⟩:=h.idr y.dst ⟨y,hy,.inr rfl⟩
 obtain ⟨c1,c2⟩:=h.keyr x.key ⟨x,hx,rfl⟩
 obtain ⟨d1,d2⟩:=h.keyr y.key ⟨y,hy,rfl⟩
 have e1:=h.ids x.dst y.dst ⟨x,hx,.inr rfl⟩ ⟨y,hy,.inr rfl⟩
 have e2:=h.keys x.key y.key ⟨x,hx,rfl⟩ ⟨y,hy,rfl⟩
 have e3:=h.keys y.key x.key ⟨y,hy,rfl⟩ ⟨x,hx,rfl⟩
 unfold ltK Zmg ZbU
 dsimp only
 by_cases hk:x.key=y.key
 ·rw [hk] at *
  omega
 ·omega
theorem Zcp.out (h:Zcp B r s f) {i:Int} (hi:∃ e,B e∧(e.src=i∨e.dst=i)) {w:List Zf} {a b:Int} (hp:Zep B a w b) (hl:∀ e ∈ w,i≤e.dst):ZdR (fun x=>∃ e,B e∧ZbU r s e=x) (r i) (r a) (w.map (ZbU r s)) (r b):=by
 induction w generalizing a with
 | nil=>
  have e:a=b:=hp
  subst e;rfl
 | cons e w ih=>
  exact ⟨⟨e,hp.1,rfl⟩,by rw [← hp.2.1];rfl,(h.le hi ⟨e,hp.1,.inr rfl⟩).1 (hl e (by simp)),ih hp.2.2 fun x hx=>hl x (by simp [hx])⟩
theorem Zcp.back (h:Zcp B r s f) {i b:Int} (hi:∃ e,B e∧(e.src=i∨e.dst=i)) (hb:∃ e,B e∧(e.src=b∨e.dst=b)) {v:List Zw} {a:Int} (ha:∃ e,B e∧(e.src=a∨e.dst=a)) (hw:ZdR (fun x=>∃ e,B e∧ZbU r s e=x) (r i) (r a) v (r b)):∃ w,v=w.map (ZbU r s)∧Zep B a w b ∧ ∀ e ∈ w,i≤e.dst:=by
 induction v generalizing a with
 | nil=>exact ⟨[],rfl,h.inj ha hb hw,by simp⟩
 | cons x v ih=>
  obtain ⟨⟨e,e1,rfl⟩,h2,h3,h4⟩:=hw
  obtain ⟨w,w1,w2,w3⟩:=ih ⟨e,e1,.inr rfl⟩ h4
  refine ⟨e :: w,by rw [w1];rfl,⟨e1,h.inj ⟨e,e1,.inl rfl⟩ ha h2,w2⟩,fun y hy=>?_⟩
  rcases Yl.1 hy with rfl | hy
  ·exact (h.le hi ⟨y,e1,.inr rfl⟩).2 h3
  ·exact w3 y hy
theorem Zcp.lts (h:Zcp B r s f):∀ {w v:List Zf},(∀ e ∈ w,B e)→(∀ e ∈ v,B e)→LtA Zmg (w.map (ZbU r s)) (v.map (ZbU r s))→LtE w v
 | x :: w,y :: v,hw,hv,k=>by
  rcases k with k | ⟨k1,k2⟩
  ·exact .inl ((h.lt (hw x (by simp)) (hv y (by simp))).2 k)
  ·refine .inr ⟨?_,h.lts (fun e he=>hw e (by simp [he])) (fun e he=>hv e (by simp [he])) k2⟩
   rw [← h.inv x (hw x (by simp)),← h.inv y (hv y (by simp))]
   exact Y0 f k1
 | [],_,_,_,k=>k.elim
 | _ :: _,[],_,_,k=>k.elim
theorem Zcp.map_inv (h:Zcp B r s f) {w:List Zf} (hw:∀ e ∈ w,B e):(w.map (ZbU r s)).map f=w:=by
 rw [Ya6]
 conv=>rhs;rw [← List.map_id w]
 exact List.map_congr_left fun e he=>h.inv e (hw e he)
theorem Zcp.first (h:Zcp B r s f) {n:Int} (hn:∀ a,(∃ e,B e∧(e.src=a∨e.dst=a))→r a<n) {way:List Zw} (hb:Zdo (fun x=>∃ e,B e∧ZbU r s e=x) mA Zmg need n way) :
  (way = [] → ∀ j w,¬ CwE B (fun e=>mA (ZbU r s e)) need j w)∧(way≠[]→ZaB B (fun e=>mA (ZbU r s e)) need (way.map f)):=by
 have src_in:∀ {j:Int} {w:List Zf},w≠[]→Zep B j w j → ∃ e,B e∧(e.src=j∨e.dst=j):=fun {j w} hne hp=>by
  cases w with
  | nil=>exact absurd rfl hne
  | cons e w=>exact ⟨e,hp.1,.inl hp.2.1⟩
 have to:∀ {j:Int} {w:List Zf},CwE B (fun e=>mA (ZbU r s e)) need j w→CwA (fun x=>∃ e,B e∧ZbU r s e=x) mA need (r j) (w.map (ZbU r s)):=fun {j w} ⟨c1,c2,c3,c4⟩=>by
  refine ⟨by simpa using c1,h.out (src_in c1 c2) c2 c3,fun hd=>?_⟩
  obtain ⟨e,e1,e2⟩:=c4 hd
  exact ⟨_,Yu.2 ⟨e,e1,rfl⟩,e2⟩
 constructor
 ·intro hw j w hc
  exact hb.1 hw (r j) _ (hn j (src_in hc.1 hc.2.1)) (to hc)
 ·intro hw
  obtain ⟨j,j1,⟨c1,c2,c3⟩,j3⟩:=hb.2 hw
  obtain ⟨i,hi,rfl⟩:∃ i,(∃ e,B e∧(e.src=i∨e.dst=i))∧r i=j:=by
   cases way with
   | nil=>exact absurd rfl hw
   | cons x v=>
    obtain ⟨⟨e,e1,rfl⟩,h2,_⟩:=c2
    exact ⟨e.src,⟨e,e1,.inl rfl⟩,h2⟩
  obtain ⟨w,rfl,w2,w3⟩:=h.back hi hi hi c2
  have Z:=Zhh w2
  rw [h.map_inv Z]
  refine ⟨i,⟨by simpa using c1,w2,w3,fun hd=>?_⟩,fun j' v hv=>?_⟩
  ·obtain ⟨x,x1,x2⟩:=c3 hd
   obtain ⟨e,e1,rfl⟩:=Yu.1 x1
   exact ⟨e,e1,x2⟩
  ·have hvi:=src_in hv.1 hv.2.1
   have k:=j3 (r j') _ (hn j' hvi) (to hv)
   rw [YC,YC] at k
   rcases k with k | ⟨k1,k2⟩
   ·exact .inl k
   ·refine .inr ⟨k1,?_⟩
    rcases k2 with k2 | ⟨k2,k3⟩
    ·exact .inl ((h.ids i j' hi hvi).2 k2)
    ·refine .inr ⟨h.inj hi hvi k2,?_⟩
     have hB2:=Zhh hv.2.1
     rcases k3 with k3 | k3
     ·left
      rw [← h.map_inv hB2,← h.map_inv Z,k3]
     ·exact .inr (h.lts Z hB2 k3)
end
theorem Zci {l:List Int} (h:Zdm l):Zgn (fun x:Int=>x) l:=ZU.2 h
theorem Zrk {l:List Int} (h:Zdm l) {i:Nat} (hi:i<l.length):lowK (fun x:Int=>x) (Nn l i) l=i:=
 ZeN (κ:=fun x:Int=>x) (Nat.le_of_lt hi) (fun q hq=>Zci h q i hq hi) (fun q h1 h2=>Zdq (κ:=fun x:Int=>x) (Zci h) h1 h2)
theorem Zay {l:List Int} (h:Zdm l) {a:Int} (ha:a ∈ l):lowK (fun x:Int=>x) a l<l.length∧Nn l (lowK (fun x:Int=>x) a l)=a:=by
 obtain ⟨i,hi,rfl⟩:=YaS.1 ha
 rw [← nth_eq hi,Zrk h hi]
 exact ⟨hi,rfl⟩
theorem ZnI {l:List Int} (h:Zdm l) {a b:Int} (ha:a ∈ l) (hb:b ∈ l):a<b ↔ lowK (fun x:Int=>x) a l<lowK (fun x:Int=>x) b l:=by
 obtain ⟨a1,a2⟩:=Zay h ha
 obtain ⟨b1,b2⟩:=Zay h hb
 constructor
 ·intro hab
  by_cases k:lowK (fun x:Int=>x) a l<lowK (fun x:Int=>x) b l
  ·exact k
  ·have k2:Nn l (lowK (fun x:Int=>x) b l)≤Nn l (lowK (fun x:Int=>x) a l):=Zdq (κ:=fun x:Int=>x) (Zci h) (Nat.not_lt.1 k) a1
   omega
 ·intro k
  have k2:Nn l (lowK (fun x:Int=>x) a l)<Nn l (lowK (fun x:Int=>x) b l):=Zci h _ _ k b1
  omega
def ZK (l:List Zf):List Int:=Zbu (l.flatMap fun e=>[e.src,e.dst])
def Z1 (l:List Zf):List Int:=Zbu (l.map Zf.key)
def rkI (l:List Int) (a:Int):Int:=(lowK (fun x:Int=>x) a l:Nat)
def Zct (ids keys:List Int):Zf→Zw:=ZbU (rkI ids) (rkI keys)
def ZhJ (ids keys:List Int) (x:Zw):Zf:=⟨Nn ids x.src.toNat,Nn ids x.dst.toNat,x.kind,Nn keys x.label.toNat⟩
theorem Zaf {l:List Zf} {a:Int} : a ∈ ZK l ↔ ∃ e,e ∈ l∧(e.src=a∨e.dst=a):=by
 unfold ZK
 rw [(ZL _).2,Yaq]
 constructor
 ·rintro ⟨e,he,h⟩
  rcases Yl.1 h with h | h
  ·exact ⟨e,he,.inl h.symm⟩
  ·exact ⟨e,he,.inr (Yi.1 h).symm⟩
 ·rintro ⟨e,he,h | h⟩
  ·exact ⟨e,he,by simp [h]⟩
  ·exact ⟨e,he,by simp [h]⟩
theorem Zb6 {l:List Zf} {a:Int} : a ∈ Z1 l ↔ ∃ e,e ∈ l∧e.key=a:=by
 unfold Z1
 rw [(ZL _).2,Yu]
theorem ZlH {l:List Zf} (h1:(ZK l).length≤4096) (h2:(Z1 l).length≤1048575):Zcp (· ∈ l) (rkI (ZK l)) (rkI (Z1 l)) (ZhJ (ZK l) (Z1 l)):=by
 have i1:Zdm (ZK l):=(ZL _).1
 have i2:Zdm (Z1 l):=(ZL _).1
 refine ⟨fun a b ha hb=>?_,fun a b ha hb=>?_,fun a ha=>?_,fun a ha=>?_,fun e he=>?_⟩
 ·have:=ZnI i1 (Zaf.2 ha) (Zaf.2 hb)
  unfold rkI;omega
 ·have:=ZnI i2 (Zb6.2 ha) (Zb6.2 hb)
  unfold rkI;omega
 ·have:=(Zay i1 (Zaf.2 ha)).1
  unfold rkI;omega
 ·have:=(Zay i2 (Zb6.2 ha)).1
  unfold rkI;omega
 ·have a1:=(Zay i1 (Zaf.2 ⟨e,he,.inl rfl⟩)).2
  have a2:=(Zay i1 (Zaf.2 ⟨e,he,.inr rfl⟩)).2
  have a3:=(Zay i2 (Zb6.2 ⟨e,he,rfl⟩)).2
  unfold ZhJ rkI
  dsimp only
  rw [Yd,Yd,Yd,a1,a2,a3]
def ZQ (n:Nat) (xs:List Zw):List (List Z8)×List (List Z8)×Nat:=xs.foldl (fun q x=>((Zel q.1 q.2.1 q.2.2 x).1,(Zel q.1 q.2.1 q.2.2 x).2.1,(Zel q.1 q.2.1 q.2.2 x).2.2.1)) (List.replicate n [],List.replicate n [],0)
theorem Ze6 {n:Nat} {xs:List Zw} {x:Zw} : ZQ n (xs ++ [x])=((Zel (ZQ n xs).1 (ZQ n xs).2.1 (ZQ n xs).2.2 x).1,(Zel (ZQ n xs).1 (ZQ n xs).2.1 (ZQ n xs).2.2 x).2.1,(Zel (ZQ n xs).1 (ZQ n xs).2.1 (ZQ n xs).2.2 x).2.2.1):=by
 unfold ZQ
 rw [Ybp];rfl
theorem Zir {n:Nat} (hn:n≤4096) (xs:List Zw):Zcs n (xs.foldl (Zld n) []) (ZQ n xs).1 (ZQ n xs).2.1∧(ZQ n xs).2.2≤xs.length:=by
 suffices ∀ r:List Zw,Zcs n (r.reverse.foldl (Zld n) []) (ZQ n r.reverse).1 (ZQ n r.reverse).2.1∧(ZQ n r.reverse).2.2≤r.length by have:=this xs.reverse;rwa [List.reverse_reverse,List.length_reverse] at this
 intro r
 induction r with
 | nil=>exact ⟨Zcs.new n,YO _⟩
 | cons x r ih=>
  obtain ⟨i1,i2⟩:=ih
  have k:=i1.step hn x (ZQ n r.reverse).2.2
  rw [List.reverse_cons,Ze6,Ybp,Yk]
  exact ⟨k.1,Y6 k.2 ow⟩
theorem ZmO {l:List Zf} (i:Nat) (h:i≤l.length):((l.take i).flatMap fun e=>[e.src,e.dst]).length=2*i:=by
 induction i with
 | zero=>rfl
 | succ i ih=>rw [Zs ow,YQ,Yc,ih ow];show 2*i+2=_;omega
theorem ZrJ (l:List Zf) (hl:l.length≤100000):FnP prog 126 [.sl Zp l] (.agg [.sl Zn (ZK l),.sl Zn (Z1 l)]):=by
 refine FnP.mk func126 rfl ntmps126 rfl fun B a w F Z hfr G=>Ya ?_
 refine Zb G (qf (oH [.slice none 0 0,.slice none 0 0] 101) trivial qz qZ) Z [2,0] [101,0] (fun _=>rfl) (fun _=>rfl) fun τ a w F G=>?_
 try dsimp only [RS.sub,SF.sub,CF.sub,csub,Anc.sub,List.map,zCF,Zn,Zp] at G
 generalize τ 2=v2 at G
 refine Za (Ya (Zb G (qf (oH [.slice none 0 0,.slice none 0 0] 102) trivial qz qZ) Z [3,2,0] [102,101,0] (fun _=>rfl) (fun _=>rfl) fun τ a w F G=>?_))
 try dsimp only [RS.sub,SF.sub,CF.sub,csub,Anc.sub,List.map,zCF,Zn,Zp] at G
 generalize τ 3=v3 at G
 refine Za (Ya (Ya (rZ G (qR rr (qu Yb1 r1 (qJ qZ))) Z [8,7,6,3,2] [102,101,0] fun G=>Yg ?_)))
 replace G:=G.fresh 50 rfl
 replace G:=G.turn 50 rfl (Zas (T:=3) (sz:=1) (R:=Zn))
 replace G:=G.fresh 51 rfl
 replace G:=G.turn 51 rfl (Zas (T:=3) (sz:=1) (R:=Zn))
 refine Zm (σ:=(Nat)×(Value)×(List Int)×(Value)×(List Int)) [2,3,6,7] [0,101] (fun s=>[(8,.pv (.int .i64 (s.1:Int)))]) (fun s=>[(102,.pt (.val v3) 180 [.pv (.is s.2.1),.pv (.is s.2.2.2.1)]),(50,.ob (.val s.2.1) (ZC 3 1 Zn s.2.2.1)),(51,.ob (.val s.2.2.2.1) (ZC 3 1 Zn s.2.2.2.2))]) (fun s=>s.1≤l.length∧(s.2.2.1=((l.take s.1).flatMap fun e=>[e.src,e.dst])∧s.2.2.2.2=(l.take s.1).map Zf.key)) (fun s=>l.length - s.1) ((0),(.slice none 0 0),([]),(.slice none 0 0),([])) G ⟨rfl,rfl,rfl,rfl,rfl,tv⟩ ⟨rfl,rfl,rfl,rfl,rfl,tv⟩ ⟨Yx _,⟨rfl,rfl⟩⟩ ?_
 clear G;intro s a w F hC G
 obtain ⟨i,va,xa,vb,xb⟩:=s
 try dsimp only at hC
 obtain ⟨F,G⟩:=G.nM [8,7,6,3,2] [102,101,51,50,0]
 try dsimp only at G
 obtain ⟨hi,hq⟩:=hC
 obtain ⟨hq1,hq2⟩:=hq
 have hl1:xa.length=2*i:=by rw [hq1];exact ZmO _ ow
 have hl2:xb.length=i:=by rw [hq2,YC,Yj];omega
 refine Ya (rZ G (qL r2) Z [9,8,7,6,3,2] [102,101,51,50,0] fun G=>Ya ?_)
 refine Zc G rfl (fun hc0=>?_) (fun hc0=>?_)
 ·have hil:i<l.length:=by simp at hc0;omega
  refine Yf (Za (Ya (Yg (Ya (Zb G (qy 4 Yb1 r2 (qf (oR true 4 .t) r1 qz (qf (oH [.int .i64 0,.int .i64 0,.int .i64 0,.int .i64 0] 103) trivial qz (qS 4 103 r2 r1 qZ)))) Z [8,7,6,5,3,2] [103,102,101,51,50,0] (fun _=>rfl) (fun _=>rfl) fun τ a w F G=>?_)))))
  try dsimp only [RS.sub,SF.sub,CF.sub,csub,Anc.sub,List.map,Ze,xL,xM,Nat.reduceAdd,xD,xE,xT,xU,xC,xN,zCF,ldSF,Zn,Zp] at G
  generalize τ 5=v5 at G
  try simp only [Yd] at G
  refine Za (Ya (Zb G (qg 0 102 r1 r1 (qa 102 r1 r1 (qg 0 103 r1 r1 (qa 103 r1 r1 (qg 1 103 r1 r1 (qa 103 r1 r1 (qf (o_buildSliceE (sz:=1) (zs:=[.int .i64 0]) (r:=[(0,.tmp 15),(1,.tmp 17)]) (l:=[_,_]) Yb0 kr kr kr kr rfl rfl (.one rfl .t one_int kr (.one rfl .t one_int kr .nil)) rfl) r2 qz (qf (o_append (sz:=1) (bs:=8) 50 (.mk' Yb0 kr kr) (by intro x;rfl) .is (.arr (l':=[(Nn l i).src,(Nn l i).dst]) .t) (by simp only [Yc,Yk,Yv,Yj,YL];omega) (by decide)) ⟨rfl,rfl,tv⟩ ⟨rfl,tv⟩ (qg 0 102 r1 r1 (qf (ZaL 102 .adr kr kr) r2 r1 qZ)))))))))) Z [8,7,6,5,3,2] [103,102,101,51,50,0] (fun _=>rfl) (fun _=>rfl) fun τ a w F G=>?_))
  try dsimp only [RS.sub,SF.sub,CF.sub,csub,Anc.sub,List.map,Ze,xL,xM,Nat.reduceAdd,xD,xE,xT,xU,xC,xN,zCF,ldSF,Zn,Zp] at G
  generalize τ 19=v19 at G
  refine Za (Zb G (qg 1 102 r1 r1 (qa 102 r1 r1 (qg 3 103 r1 r1 (qa 103 r1 r1 (qf (o_buildSliceE (sz:=1) (zs:=[.int .i64 0]) (r:=[(0,.tmp 24)]) (l:=[_]) Yb0 kr kr kr kr rfl rfl (.one rfl .t one_int kr .nil) rfl) r1 qz (qf (o_append (sz:=1) (bs:=8) 51 (.mk' Yb0 kr kr) (by intro x;rfl) .is (.arr (l':=[(Nn l i).key]) .t) (by simp only [Yc,Yk,Yv,Yj,YL];omega) (by decide)) ⟨rfl,rfl,tv⟩ ⟨rfl,tv⟩ (qg 1 102 r1 r1 (qf (ZaL 102 .adr kr kr) r2 r1 qZ)))))))) Z [8,7,6,3,2] [103,102,101,51,50,0] (fun _=>rfl) (fun _=>rfl) fun τ a w F G=>?_)
  try dsimp only [RS.sub,SF.sub,CF.sub,csub,Anc.sub,List.map,Ze,xL,xM,Nat.reduceAdd,xD,xE,xT,xU,xC,xN,zCF,ldSF,Zn,Zp] at G
  generalize τ 26=v26 at G
  refine Zj (Za (rZ G (qp r1 (qR rr qZ)) Z [8,7,6,3,2] [103,102,101,51,50,0] fun G=>?_))
  replace G:=G.ent (i:=8) (s':=.pv (.int .i64 ((i+1:Nat):Int))) rfl (.int (Zd ow))
  obtain ⟨F,G⟩:=G.nM [7,6,3,2,8] [101,0,51,50,102]
  exact ⟨((i+1),(v19),_,(v26),_),F,⟨by omega,⟨by rw [Zs hil,YQ,← hq1];rfl,by rw [Zs hil,YJ,← hq2];rfl⟩⟩,G,by omega⟩
 have hil:i=l.length:=by simp at hc0;omega
 have hg1:Zbu xa=ZK l:=by rw [hq1,hil,YD];rfl
 have hg2:Zbu xb=Z1 l:=by rw [hq2,hil,YD];rfl
 refine Yz (Zh (Zh (Zr (Za (Ya (Zba G (qg 0 102 r1 r1 (qa 102 r1 r1 (qf (o_callRowN 50 (ZmZ va xa ow) func167 rfl kr (Args.one .t) pvOne1) r1 r1 (qg 1 102 r1 r1 (qa 102 r1 r1 (qf (o_callRowN 51 (ZmZ vb xb ow) func167 rfl kr (Args.one .t) pvOne1) r1 r1 (qg 0 102 r1 r1 (qf (ZaL 102 .adr kr kr) r2 r1 (qg 1 102 r1 r1 (qf (ZaL 102 .adr kr kr) r2 r1 qZ)))))))))) Z [3,2] [102,101,51,50,0] (fun _=>rfl) (fun _=>rfl) fun τ a w F G=>?_))))))
 try dsimp only [RS.sub,SF.sub,CF.sub,csub,Anc.sub,List.map,Ze,xL,xM,Nat.reduceAdd,xD,xE,xT,xU,xC,xN,zCF,ldSF,Zn,Zp] at G
 generalize τ 31=v31,τ 34=v34 at G
 refine Za (Ya (Zg G (qe 2 102 r1 r1 (qs 2 101 r2 r1 qZ)) Z [2] [102,101,51,50,0] rfl rfl fun a w F G=>?_))
 obtain ⟨F,G⟩:=G.giveCell 50 101 0 rfl rfl rfl rfl rfl
 try dsimp only [List.set] at G
 obtain ⟨F,G⟩:=G.nM [2] [102,101,51,0]
 obtain ⟨F,G⟩:=G.giveCell 51 101 1 rfl rfl rfl rfl rfl
 try dsimp only [List.set] at G
 obtain ⟨F,G⟩:=G.nM [2] [102,101,0]
 rw [hg1,hg2] at G
 refine Za (Yh (Zae hfr G rfl (.cl 101 true 2 rfl rfl .nil) (.one (.aggU rfl rfl))))
theorem Zts (ids keys:List Int) (e:Zf) (h1:ids.length≤1000000) (h2:keys.length≤1000000) (hi:Zdm ids) (hk:Zdm keys):FnP prog 168 [.agg [.sl Zn ids,.sl Zn keys],.agg (Zp e)] (.agg (ZaI (Zct ids keys e))):=by
 refine FnP.mk func168 rfl ntmps168 rfl fun B a w F Z hfr G=>Ya ?_
 refine Zb G (qx 101 r1 (qx 102 r1 (qf (oH [.int .i64 0,.int .i64 0,.int .i64 0,.int .i64 0] 103) trivial qz qZ))) Z [4,3,2] [103,102,101,0] (fun _=>rfl) (fun _=>rfl) fun τ a w F G=>?_
 try dsimp only [RS.sub,SF.sub,CF.sub,csub,Anc.sub,List.map,zCF,Zn,Zp,ZaI] at G
 generalize τ 2=v2,τ 3=v3,τ 4=v4 at G
 refine Za (Ya (rZ G (qg 0 101 r1 r1 (qa 101 r1 r1 (qg 0 102 r1 r1 (qa 102 r1 r1 (qf (oP (Zru ids e.src h1 (Zci hi)) func203 (Args.two .t .t)) r2 qz (qR rr (qf (Zi .t rfl) r1 qz (qf (Zi .t rfl) r1 qz (qO rr (qO rr qZ)))))))))) Z [5,4,3,2] [103,102,101,0] fun G=>Ya ?_))
 refine rZ G (qg 0 101 r1 r1 (qa 101 r1 r1 (qg 1 102 r1 r1 (qa 102 r1 r1 (qf (oP (Zru ids e.dst h1 (Zci hi)) func203 (Args.two .t .t)) r2 qz (qR rr (qf (Zi .t rfl) r1 qz (qf (Zi .t rfl) r1 qz (qO rr (qO rr qZ)))))))))) Z [7,5,4,3,2] [103,102,101,0] fun G=>Ya ?_
 refine rZ G (qg 1 101 r1 r1 (qa 101 r1 r1 (qg 3 102 r1 r1 (qa 102 r1 r1 (qf (oP (Zru keys e.key h2 (Zci hk)) func203 (Args.two .t .t)) r2 qz (qR rr (qf (Zi .t rfl) r1 qz (qf (Zi .t rfl) r1 qz (qO rr (qO rr qZ)))))))))) Z [9,7,5,4,3] [103,102,0] fun G=>Ya ?_
 refine rZ G (qR rr (qR rr (qg 2 102 r1 r1 (qa 102 r1 r1 (qR rr (qf (oB [(0,.tmp 35),(1,.tmp 36),(2,.tmp 38),(3,.tmp 39)] [.int .i64 0,.int .i64 0,.int .i64 0,.int .i64 0] [(0,1),(1,1),(2,1),(3,1)] (.one rfl .t one_int kr (.one rfl .t one_int kr (.one rfl .t one_int kr (.one rfl .t one_int kr .nil))))) r4 qz (qs 4 103 r2 r1 qZ))))))) Z [4] [103,0] fun G=>Yh ?_
 refine Zae hfr G rfl (.cl 103 true 4 rfl rfl .nil) (.one (.aggU rfl rfl))
theorem Zrz (ids keys:List Int) (x:Zw) (h1:0≤x.src∧x.src<ids.length) (h2:0≤x.dst∧x.dst<ids.length) (h3:0≤x.label∧x.label<keys.length):FnP prog 131 [.agg [.sl Zn ids,.sl Zn keys],.agg (ZaI x)] (.agg (Zp (ZhJ ids keys x))):=by
 refine FnP.mk func131 rfl ntmps131 rfl fun B a w F Z hfr G=>Ya ?_
 refine Zb G (qx 101 r1 (qx 102 r1 (qf (oH [.int .i64 0,.int .i64 0,.int .i64 0,.int .i64 0] 103) trivial qz qZ))) Z [4,3,2] [103,102,101,0] (fun _=>rfl) (fun _=>rfl) fun τ a w F G=>?_
 try dsimp only [RS.sub,SF.sub,CF.sub,csub,Anc.sub,List.map,zCF,Zn,Zp,ZaI] at G
 generalize τ 2=v2,τ 3=v3,τ 4=v4 at G
 refine Za (Ya (ZB G (qg 0 101 r1 r1 (qa 101 r1 r1 (qg 0 102 r1 r1 (qa 102 r1 r1 (qy 1 Yb0 r2 (qf (oR false 1 .t) r1 qz (qg 0 101 r1 r1 (qa 101 r1 r1 (qg 1 102 r1 r1 (qa 102 r1 r1 (qy 1 Yb0 r2 (qf (oR false 1 .t) r1 qz (qg 2 102 r1 r1 (qa 102 r1 r1 (qg 1 101 r1 r1 (qa 101 r1 r1 (qg 3 102 r1 r1 (qa 102 r1 r1 (qy 1 Yb0 r2 (qf (oR false 1 .t) r1 qz (qf (oB [(0,.tmp 10),(1,.tmp 16),(2,.tmp 18),(3,.tmp 24)] [.int .i64 0,.int .i64 0,.int .i64 0,.int .i64 0] [(0,1),(1,1),(2,1),(3,1)] (.one rfl .t one_int kr (.one rfl .t one_int kr (.one rfl .t one_int kr (.one rfl .t one_int kr .nil))))) r4 qz (qs 4 103 r2 r1 qZ)))))))))))))))))))))) Z [4] [103,0] rfl rfl fun a w F G=>?_))
 try dsimp only [List.map,Ze,xL,xM,Nat.reduceAdd,xD,xE,xT,xU,xC,xN,zCF,ldSF,Zn,Zp,ZaI] at G
 try simp only [Yd] at G
 refine Za (Yh (Zae hfr G rfl (.cl 103 true 4 rfl rfl .nil) (.one (.aggU rfl rfl))))
theorem Zqu (e:Zf) (mask:Int):FnP prog 125 [.agg (Zp e),.ref [.int .i64 mask]] (.bool (!kindOk mask e)):=by
 refine FnP.mk func125 rfl ntmps125 rfl fun B a w F Z hfr G=>Ya ?_
 refine Zb G (qx 101 r1 qB) Z [3,2,1] [101,0] (fun _=>rfl) (fun _=>rfl) fun τ a w F G=>?_
 try dsimp only [RS.sub,SF.sub,CF.sub,csub,Anc.sub,List.map,zCF,Zp] at G
 generalize τ 2=v2 at G
 refine Za (Ya (rZ G (qg 2 101 r1 r1 (qa 101 r1 r1 (qf (Zar .t qi) r1 qz (qR rr (qv 2 101 rfl r2 r1 (qw 101 rfl r2 r1 (qk rfl (fun h=>Za3 (.w h) qi) r2 qz (qf (Zaa .t .t) r2 qz (qR rr (qk rfl (fun h=>oR false 1 .t) r2 qz (qv 2 101 rfl r2 r1 (qw 101 rfl r2 r1 (qk rfl (fun h=>Zat Yb8 kr (.w h)) r2 qz (qk rfl (fun h=>Zev (.w h) (.w h)  (by rw [Zap];omega)) r3 qz (qk rfl (fun h=>Zdk (.w h) qi) r2 qz (qk rfl (fun h=>o_eql (.w h) qi) r2 qz (qf (Zaa .t .t) r2 qz (qO rr qZ)))))))))))))))))) Z [3] [0] fun G=>Yh ?_))
 refine Zv hfr G rfl rfl rfl (.bool (by rw [of_zero];unfold kindOk;by_cases h1:1≤e.kind <;> by_cases h2:e.kind≤3 <;> simp [h1,h2] <;> omega))
theorem ZrZ {n:Nat} {l:List Zf} {ids keys:List Int} {i:Nat} (h:i<l.length):ZQ n ((l.take (i+1)).map (Zct ids keys))=((Zel (ZQ n ((l.take i).map (Zct ids keys))).1 (ZQ n ((l.take i).map (Zct ids keys))).2.1 (ZQ n ((l.take i).map (Zct ids keys))).2.2 (Zct ids keys (Nn l i))).1,(Zel (ZQ n ((l.take i).map (Zct ids keys))).1 (ZQ n ((l.take i).map (Zct ids keys))).2.1 (ZQ n ((l.take i).map (Zct ids keys))).2.2 (Zct ids keys (Nn l i))).2.1,(Zel (ZQ n ((l.take i).map (Zct ids keys))).1 (ZQ n ((l.take i).map (Zct ids keys))).2.1 (ZQ n ((l.take i).map (Zct ids keys))).2.2 (Zct ids keys (Nn l i))).2.2.1):=by
 rw [Zs h,YJ];exact Ze6
theorem Zsm (l:List Zf) (ids keys:List Int) (hl:l.length≤100000) (hn:ids.length≤4096) (hkl:keys.length≤1048575) (hkl2:keys.length≤1000000) (hinc:Zdm ids) (hk:Zdm keys):FnP prog 127 [.sl Zp l,.agg [.sl Zn ids,.sl Zn keys]] (.tup [ZhD (ZQ ids.length (l.map (Zct ids keys))).1 (ZQ ids.length (l.map (Zct ids keys))).2.1 (ZQ ids.length (l.map (Zct ids keys))).2.2,.int .i64 0]):=by
 refine FnP.mk func127 rfl ntmps127 rfl fun B a w F Z hfr G=>Ya ?_
 refine Zb G (qx 101 r1 (qC (qI qZ))) Z [5,4,3,0] [101,0] (fun _=>rfl) (fun _=>rfl) fun τ a w F G=>?_
 try dsimp only [RS.sub,SF.sub,CF.sub,csub,Anc.sub,List.map,zCF,Zp,ZaI,Zn] at G
 generalize τ 3=v3 at G
 refine Za (Ya (Ya (rZ G (qg 0 101 r1 r1 (qa 101 r1 r1 (qu Yb0 r1 (qf (Za3 .t qi) r1 qz (qR rr (qv 1 101 rfl r2 r1 (qw 101 rfl r2 r1 (qk rfl (fun h=>ZcV Yb0 (.w h)) r2 qz (qk rfl (fun h=>Za3 (.w h) qi) r2 qz (qf (Zaa .t .t) r2 qz qZ)))))))))) Z [18,5,4,3,0] [101,0] fun G=>?_)))
 refine Zc G rfl (fun hc0=>?_) (fun hc0=>?_)
 ·simp at hc0;omega
 refine Yf (Za (Ya ?_))
 replace G:=G.fresh 102 rfl
 refine Zb G (qg 0 101 r1 r1 (qa 101 r1 r1 (qu Yb0 r1 (qf (ZaM 102 (ZrQ (ids.length:Int)) func115 rfl kr (Args.one .t) PV.ptr_one) r1 r1 (qO rr qZ))))) Z [6,5,4,3,0] [102,101,0] (fun _=>rfl) (fun _=>rfl) fun τ a w F G=>?_
 try dsimp only [RS.sub,SF.sub,CF.sub,csub,Anc.sub,List.map,xD,xE,xT,xU,ldSF,Zp,ZaI,Zn] at G
 generalize τ 22=v22 at G
 obtain ⟨_,_,_,ho⟩:=G.obGet 102 rfl
 obtain ⟨gb,rfl⟩:=ZqB ho
 clear ho
 replace G:=G.turn 102 rfl (r':=RS.hp (ZoN (List.replicate (roomN (ids.length:Int)) []) (List.replicate (roomN (ids.length:Int)) []) 0 (.pointer (some ⟨gb,0,none⟩)))) (fun _ _ _ _ h=>h)
 obtain ⟨F,G⟩:=G.nM [6,5,4,3,0] [102,101,0]
 rw [ZmB hn] at G
 change Sat _ _ _ _ _ at G
 refine Za (Ya (Ya (rZ G (qR rr (qu Yb1 r1 (qJ qZ))) Z [25,24,23,6,5,4,3] [102,101,0] fun G=>Yg ?_)))
 refine Zm (σ:=(Nat)) [3,4,5,6,23,24] [0,101] (fun s=>[(25,.pv (.int .i64 (s:Int)))]) (fun s=>[(102,RS.hp (ZoN (ZQ ids.length ((l.take s).map (Zct ids keys))).1 (ZQ ids.length ((l.take s).map (Zct ids keys))).2.1 (ZQ ids.length ((l.take s).map (Zct ids keys))).2.2 (.pointer (some ⟨gb,0,none⟩))))]) (fun s=>s≤l.length∧(True)) (fun s=>l.length - s) (0) G ⟨rfl,rfl,rfl,rfl,rfl,rfl,rfl,tv⟩ ⟨rfl,rfl,rfl,tv⟩ ⟨Yx _,tv⟩ ?_
 clear G;intro i a w F hC G
 try dsimp only at hC
 obtain ⟨F,G⟩:=G.nM [25,24,23,6,5,4,3] [102,101,0]
 try dsimp only at G
 obtain ⟨hi,hq⟩:=hC
 obtain ⟨hD,hm⟩:=Zir (n:=ids.length) hn ((l.take i).map (Zct ids keys))
 have hEl:=Zg5 (n:=ids.length) ((l.take i).map (Zct ids keys)) []
 rw [YC,Yj] at hm
 rw [YC,Yj,Yv] at hEl
 refine Ya (rZ G (qL r2) Z [26,25,24,23,6,5,4,3] [102,101,0] fun G=>Ya ?_)
 refine Zc G rfl (fun hc1=>?_) (fun hc1=>?_)
 ·have hil:i<l.length:=by simp at hc1;omega
  refine Yf (Za (Ya (Yg (Ya (Zb G (qy 4 Yb1 r2 (qf (oR true 4 .t) r1 qz (qf (oH [.int .i64 0,.int .i64 0,.int .i64 0,.int .i64 0] 103) trivial qz (qS 4 103 r2 r1 qZ)))) Z [25,24,23,8,6,5,4,3] [103,102,101,0] (fun _=>rfl) (fun _=>rfl) fun τ a w F G=>?_)))))
  try dsimp only [RS.sub,SF.sub,CF.sub,csub,Anc.sub,List.map,Ze,xL,xM,Nat.reduceAdd,xD,xE,xT,xU,xC,xN,zCF,ldSF,Zp,ZaI,Zn] at G
  generalize τ 8=v8 at G
  try simp only [Yd] at G
  refine Za (Zg G (qR rr (qe 2 101 r1 r1 (qe 4 103 r1 r1 (qf (oP (Zts ids keys (Nn l i) ow ow hinc hk) func168 (Args.two (.pagg .t) (.pagg .t))) r2 qz (qf (Z0 102 (ZsL gb (ZQ ids.length ((l.take i).map (Zct ids keys))).1 (ZQ ids.length ((l.take i).map (Zct ids keys))).2.1 (ZQ ids.length ((l.take i).map (Zct ids keys))).2.2 (Zct ids keys (Nn l i)) (hD.on.r ow) (hD.inn.r ow) (by rw [hD.ol,hD.il]) (by rw [hD.ol];exact hn) ow) func116 rfl kr (Args.two .t .t)) r2 r1 qZ))))) Z [25,24,23,6,5,4,3] [103,102,101,0] rfl rfl fun a w F G=>Zj (Za ?_))
  refine rZ G (qp r1 (qR rr qZ)) Z [25,24,23,6,5,4,3] [103,102,101,0] fun G=>?_
  have hgq:=ZrZ (n:=ids.length) (ids:=ids) (keys:=keys) hil
  have e1:=Y0 Prod.fst hgq
  have e2:=Y0 (fun q=>q.2.1) hgq
  have e3:=Y0 (fun q=>q.2.2) hgq
  dsimp only at e1 e2 e3
  rw [← e1,← e2,← e3] at G
  replace G:=G.ent (i:=25) (s':=.pv (.int .i64 ((i+1:Nat):Int))) rfl (.int (Zd ow))
  obtain ⟨F,G⟩:=G.nM [24,23,6,5,4,3,25] [101,0,102]
  exact ⟨(i+1),F,⟨by omega,tv⟩,G,by omega⟩
 have hil:i=l.length:=by simp at hc1;omega
 refine Yz (Zh (Zh (Zr (Za (Ya ?_)))))
 rw [hil,YD] at G
 obtain ⟨F,G⟩:=Sat.giveL (p:=ZhD (ZQ ids.length (l.map (Zct ids keys))).1 (ZQ ids.length (l.map (Zct ids keys))).2.1 (ZQ ids.length (l.map (Zct ids keys))).2.2) G 102 6 rfl rfl Zhl
 obtain ⟨F,G⟩:=G.nM [26,25,24,23,6,5,4,3] [101,0]
 refine rZ G (qR rr (qO rr (qI qZ))) Z [5,4] [101,0] fun G=>Yh ?_
 refine Zae hfr G rfl (.tmp rfl (.tmp rfl .nil)) (.two .refl .refl)
section
variable {P:Program} {d:Option Nat} {t t' ty:TypeId} {pos:String} {af:Array Edge} {g:Option (Nat×Bool)} {x:Operand} {ps:List (Nat×SF)}
theorem ZgI {e:TypeId} (hu:P.underlying t=some (.slice e)) (hx:Opd x ps (.pv (.is (.slice none 0 0)))) :
  OpC P ⟨d,.binOp .eql t x (.const (.slice none 0 0)) t',ty,pos,af,g⟩ ⟨ps,[],.pv (.bool true),[]⟩:=
 OpC.pure fun a w yy hp=>by
  have e1:=(hx a w yy hp).1
  have hr:=Go.Lib.run_eql_slice_nil (P:=P) w t e none 0 0 0 0 hu
  refine ⟨.bool true,?_,fun _ _=>rfl⟩
  simp only [execOp,e1,Zcb,YB,show (eqGuard .eql t x (.const (.slice none 0 0)) (.slice none 0 0) (.slice none 0 0)).run P w = .ok () w from rfl,Yn,hr,YI]
  rfl
theorem ZmS {e:TypeId} (hu:P.underlying t=some (.slice e)) (hx:Opd x ps (.pv (.is (.slice none 0 0)))) :
  OpC P ⟨d,.call { callee:=.builtin .len,args:=#[x],argTypes:=#[t] },ty,pos,af,g⟩ ⟨ps,[],.pv (.int .i64 0),[]⟩:=
 OpC.pure fun a w yy hp=>by
  have e1:=(hx a w yy hp).1
  refine ⟨.int .i64 0,?_,fun _ _=>⟨rfl,by simp [inR,IntKind.min,IntKind.max,IntKind.signed,IntKind.bits]⟩⟩
  simp [execOp,resolve,invoke,builtin,e1,Ybt w t ty none 0 0 (ZfP hu),goInt]
theorem ZhU {α:Type} {R:α→List PV} {l:List α} {e:TypeId} (hu:P.underlying t=some (.slice e)) (hx:Opd x ps (.pv (.sl R l))) (hne:¬ l = []) :
  OpC P ⟨d,.binOp .eql t x (.const (.slice none 0 0)) t',ty,pos,af,g⟩ ⟨ps,[],.pv (.bool false),[]⟩:=
 OpC.pure fun a w yy hp=>by
  obtain ⟨ad,cap,e1,_,_,h3⟩:=hx a w yy hp
  have hr:=Go.Lib.run_eql_slice_nil (P:=P) w t e ad l.length cap 0 0 hu
  have hn:ad.isNone=false:=by
   rcases h3 with h3 | ⟨b,off,vs,rfl,_⟩
   ·exact absurd h3 hne
   ·rfl
  refine ⟨.bool false,?_,fun _ _=>rfl⟩
  simp only [execOp,e1,Zcb,YB,show (eqGuard .eql t x (.const (.slice none 0 0)) (.slice ad l.length cap) (.slice none 0 0)).run P w = .ok () w from rfl,Yn,hr,YI,hn]
end
theorem Zo5 (l:List Zf) (hl:l.length≤1000000):FnG prog 124 1 [.sl Zp l] [.star []] (PV.one) (fun v=>[ZC 42 4 Zp l v]):=by
 refine FnG.mk func124 rfl ntmps124 rfl kr fun B F0 a w F Z hG G=>?_
 obtain ⟨F,G⟩:=G.nM [0] [0]
 refine Ya (rZ G (qC qZ) Z [2,0] [0] fun G=>(Ya (Ya ?_)))
 refine Zg G (qR rr (qf (Zby Yb1 .t) r1 qz qZ)) Z [4,2,0] [0] rfl rfl fun a w F G=>?_
 obtain ⟨β4,hβ4,G⟩:=G.pickBool 4 rfl
 obtain ⟨F,G⟩:=G.nM [4,2,0] [0]
 refine Za (Zc G rfl (fun hc0=>?_) (fun hc0=>?_))
 ·have hg:l = []:=hβ4 hc0
  refine Ya (rZ G (qC qZ) Z [2,0] [0] fun G=>(Yh (Zl ?_)))
  have G:=G.fresh 1 rfl
  have G:=G.turn 1 rfl (Zas (T:=42) (sz:=4) (R:=Zp))
  have G:=G.turn 1 rfl (r':=RS.hp (ZC 42 4 Zp l (.slice none 0 0))) (fun _ _ _ _ h=>by rw [hg];exact h)
  refine Zab (h':=fun v=>ZC 42 4 Zp l v) hG G rfl (.tmp rfl .nil) (.one .one) rfl
 have hg:l = [] ++ l:=rfl
 refine Yf (Za (Ya (Zb G (qf (o_buildSlice0 (R:=Zp) (sz:=4) 101 Yb1 kr) trivial qz (qR rr (qf (o_append (sz:=4) (bs:=32) 101 (.mk' Yb1 kr kr) (by intro x;rfl) .same (.sl .t) (by simp only [Yc,Yv];omega) (by decide)) ⟨rfl,rfl,tv⟩ ⟨rfl,tv⟩ (qO rr qZ)))) Z [2] [101,0] (fun _=>rfl) (fun _=>rfl) fun τ a w F G=>?_)))
 try dsimp only [RS.sub,SF.sub,CF.sub,csub,Anc.sub,List.map,Ze,xL,xM,Nat.reduceAdd,xD,xE,xT,xU,xC,xN,zCF,Zp] at G
 generalize τ 7=v7 at G
 refine Za (Yh ?_)
 obtain ⟨F,G⟩:=G.rename 101 1 rfl rfl
 have G:=G.turn 1 rfl (r':=RS.hp (ZC 42 4 Zp l v7)) (fun _ _ _ _ h=>by rw [hg];exact h)
 refine Zab (h':=fun v=>ZC 42 4 Zp l v) hG G rfl (.tmp rfl .nil) (.one .one) rfl
theorem Zrf (l : List Zf) (p : Zf → Bool) (f : FuncId) (fn : Func) (cps : List PV) (hf : prog.funcs[f]? = some fn) (hb : fn.body.isSome = true) (hnn : (fn.name == "runtime.NumGoroutine") = false) (hw : ∀ x, FnP prog f (.agg (Zp x) :: cps) (.bool (p x))) : FnP prog 166 [.sl Zp l, .clos f cps] (.int .i64 (Z4 p l)) := by
 refine FnP.mk func166 rfl ntmps166 rfl fun B a w F Z hfr G=>?_
 have hll:=Sat.lenSl G (i:=0) rfl
 refine Ya (rZ G (qI qZ) Z [4,1,0] [0] fun G=>(Ya (Ya ?_)))
 refine rZ G (qR rr (qu Yb1 r1 (qJ qZ))) Z [8,7,4,1,0] [0] fun G=>Yg ?_
 refine Zm (σ:=(Nat)) [0,1,4,7] [0] (fun s=>[(8,.pv (.int .i64 (s:Int)))]) (fun s=>[]) (fun s=>s≤l.length∧(∀ k,k<s→p (Nn l k)=false)) (fun s=>l.length - s) (0) G ⟨rfl,rfl,rfl,rfl,rfl,tv⟩ ⟨rfl,tv⟩ ⟨Yx _,fun k hk=>absurd hk (Y3 k)⟩ ?_
 clear G;intro i a w F hC G
 try dsimp only at hC
 obtain ⟨F,G⟩:=G.nM [8,7,4,1,0] [0]
 try dsimp only at G
 obtain ⟨hi,hq⟩:=hC
 refine Ya (rZ G (qL r2) Z [9,8,7,4,1,0] [0] fun G=>Ya ?_)
 refine Zc G rfl (fun hc0=>?_) (fun hc0=>?_)
 ·skip
  have hil:i<l.length:=by simp at hc0;omega
  refine Yf (Za (Ya (Yg (Ya (rZ G (qR rr (qO rr qZ)) Z [8,7,5,4,1,0] [0] fun G=>Ya ?_)))))
  refine Zg G (qR rr (qR rr (qR rr (qy 4 Yb1 r2 (qf (oR true 4 .t) r1 qz (qf (Z6 (avs:=[.agg (Zp (Nn l i))]) .t (hw (Nn l i)) hf hb hnn (Args.one (.pagg .t))) r2 qz qZ)))))) Z [16,8,7,5,4,1,0] [0] rfl rfl fun a w F G=>?_
  try simp only [Yd] at G
  refine Za (Zc G rfl (fun hc1=>?_) (fun hc1=>?_))
  ·skip
   have hg:(i:Int)=Z4 p l:=(ZdV hil hc1 hq).symm
   refine Ya (rZ G (qR rr (qO rr qZ)) Z [8,7,4,1,0] [0] fun G=>(Yh (Zx (Zl (Zl (Zx (Zl ?_)))))))
   refine Zv hfr G rfl rfl rfl (.int hg)
  have hne:p (Nn l i)=false:=hc1
  refine Yf (Zj (Za (rZ G (qp r1 (qR rr qZ)) Z [8,7,4,1,0] [0] fun G=>?_)))
  replace G:=G.ent (i:=8) (s':=.pv (.int .i64 ((i+1:Nat):Int))) rfl (.int (Zd ow))
  obtain ⟨F,G⟩:=G.nM [7,4,1,0,8] [0]
  exact ⟨(i+1),F,⟨by omega,(fun k hk=>by rcases YZ (Y5 hk) with h | h;exact hq k h;rw [h];exact hne)⟩,G,by omega⟩
 have hil:i=l.length:=by simp at hc0;omega
 have hg : -1=Z4 p l:=(Zcv fun k hk=>hq k (by simp at hc0;omega)).symm
 refine Yz (Zh (Zh (Zr (Za (Ya (rZ G (qI qZ) Z [4] [0] fun G=>Yh ?_))))))
 refine Zv hfr G rfl rfl rfl (.int hg)
theorem ZrU (v : Value) (l : List Zf) (hll : l.length ≤ 1000000) (p : Zf → Bool) (f : FuncId) (fn : Func) (cps : List PV) (hf : prog.funcs[f]? = some fn) (hb : fn.body.isSome = true) (hnn : (fn.name == "runtime.NumGoroutine") = false) (hw : ∀ x, FnP prog f (.agg (Zp x) :: cps) (.bool (p x))) : FnG prog 123 1 [.is v, .clos f cps] [ZC 42 4 Zp l v] (PV.one) (fun v => [ZC 42 4 Zp (l.filter fun x => !p x) v]) := by
 refine FnG.mk func123 rfl ntmps123 rfl kr fun B F0 a w F Z hG G=>?_
 replace G:=G.turn 1 rfl (r':=.ob (.val v) (ZC 42 4 Zp l)) (fun _ _ _ _ h=>h)
 refine Ya (rZ G (qC qZ) Z [4,1,0] [1,0] fun G=>Ya ?_)
 refine rZ G (qR rr (qR rr (qf (OpC.lendRow 1 [8] (oP (Zrf l p f fn cps hf hb hnn hw) func166 (Args.two .t .t)) ⟨rfl,tv,tv⟩ (.pv (fun _ _ _ _ h=>h)) trivial (by rfl)) r2 r1 (qO rr qZ)))) Z [5,4,1,0] [1,0] fun G=>(Ya (Ya ?_))
 refine rZ G (qR rr (qf (o_eql .t qi) r1 qz qZ)) Z [12,5,4,1,0] [1,0] fun G=>?_
 refine Zc G rfl (fun hc0=>?_) (fun hc0=>?_)
 ·skip
  have hno:=(ZbO p l).resolve_right (by rintro ⟨i,h1,_⟩;simp at hc0;omega)
  have hg:(l.filter fun x=>!p x)=l:=Zge hno.2
  refine Ya (rZ G (qR rr (qO rr qZ)) Z [5,4,1,0] [1,0] fun G=>(Yh (Zl ?_)))
  have G:=G.turn 1 rfl (r':=RS.hp (ZC 42 4 Zp (l.filter fun x=>!p x) v)) (fun _ _ _ _ h=>by rw [hg];exact h)
  refine Zab (h':=fun v=>ZC 42 4 Zp (l.filter fun x=>!p x) v) hG G rfl (.tmp rfl .nil) (.one .one) rfl
 obtain ⟨i0,hi0,hi1,hip,hib⟩:=(ZbO p l).resolve_left (by rintro ⟨h1,_⟩;simp [h1] at hc0)
 have hst0:=ZlS hi1 hip hib
 refine Yf (Za (Ya (Ya (rZ G (qR rr (qp r1 (qO rr qZ))) Z [6,5,4,1,0] [1,0] fun G=>Yg ?_))))
 have hC0:i0<i0+1∧i0+1≤l.length∧l.length=l.length∧l.take i0=(l.take (i0+1)).filter (fun x=>!p x) ∧ ∀ k,i0+1≤k→k<l.length→Nn l k=Nn l k:=⟨by omega,by omega,rfl,hst0,fun k _ _=>rfl⟩
 replace G:=G.ent (i:=5) (s':=.pv (.int .i64 (i0:Int))) rfl (.int hi0)
 replace G:=G.ent (i:=6) (s':=.pv (.int .i64 ((i0+1:Nat):Int))) rfl (.int (by rw [hi0,Zz ow];omega))
 refine Zm (σ:=Nat×Nat×List Zf) [0,1,4] [0] (fun s=>[(5,.pv (.int .i64 (s.1:Int))),(6,.pv (.int .i64 (s.2.1:Int)))]) (fun s=>[(1,.ob (.val v) (ZC 42 4 Zp s.2.2))]) (fun s=>s.1<s.2.1∧s.2.1≤l.length∧s.2.2.length=l.length∧s.2.2.take s.1=(l.take s.2.1).filter (fun x=>!p x) ∧ ∀ k,s.2.1≤k→k<l.length→Nn s.2.2 k=Nn l k) (fun s=>l.length - s.2.1) ((i0),(i0+1),(l)) G ⟨rfl,rfl,rfl,rfl,rfl,tv⟩ ⟨rfl,rfl,tv⟩ hC0 ?_
 clear G;intro s a w F hC G
 obtain ⟨i,j,l1⟩:=s
 try dsimp only at hC
 obtain ⟨F,G⟩:=G.nM [6,5,4,1,0] [1,0]
 try dsimp only at G
 obtain ⟨hij,hj,hll1,htk,hrest⟩:=hC
 refine Ya (Ya (rZ G (qR rr (qR rr (qf (Zav 1 Yb1 .is) r1 r1 (qL r2)))) Z [19,6,5,4,1,0] [1,0] fun G=>?_))
 refine Zc G rfl (fun hc1=>?_) (fun hc1=>?_)
 ·skip
  have hjl:j<l.length:=by simp at hc1;omega
  have hnj:Nn l1 j=(Nn l j):=hrest j (YO _) hjl
  have hfs:=ZeK (p:=fun x=>!p x) hjl
  refine Yf (Za (Ya (Yg (Ya (Zb G (qR rr (qR rr (qf (o_indexAddr_row (sz:=4) 1 (.mk Yb1 kr) .is .t ow ow (by rfl)) r2 r1 (qf (ZD (ag:=true) (sz':=4) (sz:=4) 1 .t (by intro x;rfl) ow kr kr kr) r1 r1 (qf (oH [.int .i64 0,.int .i64 0,.int .i64 0,.int .i64 0] 101) trivial qz (qS 4 101 r2 r1 qZ)))))) Z [7,6,5,4,1,0] [101,1,0] (fun _=>rfl) (fun _=>rfl) fun τ a w F G=>?_)))))
  try dsimp only [RS.sub,SF.sub,CF.sub,csub,Anc.sub,List.map,Ze,xL,xM,Nat.reduceAdd,xD,xE,xT,xU,xC,xN,zCF,ldSF,Zp] at G
  generalize τ 7=v7 at G
  try simp only [Yd] at G
  rw [hnj] at G
  refine Za (Ya (rZ G (qR rr (qe 4 101 r1 r1 (qf (Z6 (avs:=[.agg (Zp (Nn l j))]) .t (hw (Nn l j)) hf hb hnn (Args.one (.pagg .t))) r2 qz (qf (o_not .t) r1 qz qZ)))) Z [29,7,6,5,4,1,0] [101,1,0] fun G=>?_))
  refine Zc G rfl (fun hc2=>?_) (fun hc2=>?_)
  ·skip
   have hp:p (Nn l j)=false:=by simpa using hc2
   obtain ⟨i2,hi2e⟩:∃ i2,i2=i+1:=⟨_,rfl⟩
   have hi2:IntKind.wrap .i64 ((i:Int)+1)=(i2:Int):=by rw [hi2e];exact Zd ow
   obtain ⟨l2,hl2⟩:∃ l2,l2=l1.set i (Nn l j):=⟨_,rfl⟩
   have hC2:i2<j+1∧j+1≤l.length∧l2.length=l.length∧l2.take i2=(l.take (j+1)).filter (fun x=>!p x) ∧ ∀ k,j+1≤k→k<l.length→Nn l2 k=Nn l k:=⟨by omega,by omega,by rw [hl2,YU];exact hll1,by rw [hl2,hi2e,hfs,hp,← htk,Zs (by rw [YU];omega),List.take_set_of_le (YO _),nth_eq (by rw [YU];omega),YbA];rfl,fun k hk hk2=>by rw [hl2,nth_eq (by rw [YU];omega),List.getElem_set_ne ow,← nth_eq ow];exact hrest k ow hk2⟩
   refine Ya (Zg G (qR rr (qR rr (qe 4 101 r1 r1 (qf (o_indexAddr_row (sz:=4) 1 (.mk Yb1 kr) .is .t ow ow (by rfl)) r2 r1 (qf (ZfG (sz:=4) 1 .t (by intro x;rfl) ow (.conv .t (Ent.aggU (l:=Zp (Nn l j)) rfl rfl)) kr) r2 r1 qZ))))) Z [6,5,4,1,0] [1,0] rfl rfl fun a w F G=>?_)
   try simp only [Yd] at G
   rw [← hl2] at G
   refine Za (Zg G (qR rr (qp r1 (qO rr qZ))) Z [6,5,4,1,0] [1,0] rfl rfl fun a w F G=>Zj (Za ?_))
   refine rZ G (qR rr (qp r1 (qO rr qZ))) Z [6,5,4,1,0] [1,0] fun G=>?_
   have hmu:l.length - (j+1)<l.length - j:=by omega
   replace G:=G.ent (i:=5) (s':=.pv (.int .i64 (i2:Int))) rfl (.int hi2)
   replace G:=G.ent (i:=6) (s':=.pv (.int .i64 ((j+1:Nat):Int))) rfl (.int (Zd ow))
   obtain ⟨F,G⟩:=G.nM [4,1,0,6,5] [0,1]
   exact ⟨((i2),(j+1),(l2)),F,hC2,G,hmu⟩
  have hp:p (Nn l j)=true:=by simpa using hc2
  obtain ⟨i2,hi2e⟩:∃ i2,i2=i:=⟨_,rfl⟩
  have hi2:(i:Int)=(i2:Int):=by rw [hi2e]
  obtain ⟨l2,hl2⟩:∃ l2,l2=l1:=⟨_,rfl⟩
  rw [← hl2] at G
  have hC2:i2<j+1∧j+1≤l.length∧l2.length=l.length∧l2.take i2=(l.take (j+1)).filter (fun x=>!p x) ∧ ∀ k,j+1≤k→k<l.length→Nn l2 k=Nn l k:=⟨by omega,by omega,by rw [hl2];exact hll1,by rw [hl2,hi2e,hfs,hp,htk];simp,fun k hk hk2=>by rw [hl2];exact hrest k ow hk2⟩
  refine Yf (Zj (Za (rZ G (qR rr (qp r1 (qO rr qZ))) Z [6,5,4,1,0] [1,0] fun G=>?_)))
  have hmu:l.length - (j+1)<l.length - j:=by omega
  replace G:=G.ent (i:=5) (s':=.pv (.int .i64 (i2:Int))) rfl (.int hi2)
  replace G:=G.ent (i:=6) (s':=.pv (.int .i64 ((j+1:Nat):Int))) rfl (.int (Zd ow))
  obtain ⟨F,G⟩:=G.nM [4,1,0,6,5] [0,1]
  exact ⟨((i2),(j+1),(l2)),F,hC2,G,hmu⟩
 have hjl:j=l.length:=by simp at hc1;omega
 have hil2:i<l.length:=by omega
 have hg:(l.filter fun x=>!p x)=(l1.take i++List.replicate (l1.length - i) (⟨0,0,0,0⟩:Zf)).take i:=by rw [Y4 (by rw [Yj];omega),Ya1,Nat.min_self,htk,hjl,YD]
 refine Yz (Zh (Zh (Zr (Za (Ya (rZ G (qR rr (qR rr (qf (ZaX (sz:=4) 1 (.mk Yb1 kr) .is .t ow ow) r2 r1 (qf (Zdn (R:=Zp) (z:=(⟨0,0,0,0⟩:Zf)) (zs:=[.int .i64 0,.int .i64 0,.int .i64 0,.int .i64 0]) 1 Yb1 kr rfl rfl (fun _ _=>⟨⟨rfl,rfl,Zdj⟩,⟨rfl,rfl,Zdj⟩,⟨rfl,rfl,Zdj⟩,⟨rfl,rfl,Zdj⟩,tv⟩) (by intro x;rfl) .t (by simp;omega)) r1 r1 qZ)))) Z [5,4,0] [1,0] fun G=>Ya ?_))))))
 refine Zb G (qR rr (qR rr (qf (ZfM (sz:=4) 1 (.mk Yb1 kr) (by intro x;rfl) .is .t ow (by simp;omega)) r2 r1 (qO rr qZ)))) Z [4] [1,0] (fun _=>rfl) (fun _=>rfl) fun τ a w F G=>?_
 try dsimp only [RS.sub,SF.sub,CF.sub,csub,Anc.sub,List.map,Zp] at G
 generalize τ 41=v41 at G
 refine Za (Yh ?_)
 have G:=G.turn 1 rfl (r':=RS.hp (ZC 42 4 Zp (l.filter fun x=>!p x) v41)) (fun _ _ _ _ h=>by rw [hg];exact h)
 refine Zab (h':=fun v=>ZC 42 4 Zp (l.filter fun x=>!p x) v) hG G rfl (.tmp rfl .nil) (.one .one) rfl
theorem ZmF {A:Zw→Prop} {m:Zw→Bool} {κ:Zw→Int} {i:Int} {dv ev:List Int} {out:Int→List Zw} (ho:∀ u x,x ∈ out u ↔ A x∧x.src=u) (hs:∀ u,(out u).Pairwise fun a b=>κ a<κ b) (hL:Zcf A m i dv ev) {need:Bool} {way:List Zw} (hb:Zdo A m κ need i way)
  {b:Int} (hbv:ZS (ZF m dv ev need) (out i)=b) :
  (¬ (0<b∧(way = []∨b<way.length))→Zdo A m κ need (i+1) way) ∧
  (0<b∧(way = []∨b<way.length)→Zb0 A m κ i b.toNat need [] i b.toNat need∧Za7 out (ZF m dv ev) m i b.toNat i need≠[]∧Zdo A m κ need (i+1) (Za7 out (ZF m dv ev) m i b.toNat i need)∧(Za7 out (ZF m dv ev) m i b.toNat i need).length=b.toNat):=by
 have hsh:=Zh0 (ZF m dv ev need) (out i)
 rw [hbv] at hsh
 obtain ⟨s1,s2⟩:=hL.short (ho i) hsh
 have h0:=hsh.1
 constructor
 ·intro hn
  refine hb.keep (fun hw w hc=>?_) fun hw w hc=>?_
  ·exact s1 (by rcases Int.lt_or_eq_of_le h0 with k | k;exact absurd ⟨k,.inl hw⟩ hn;exact k.symm) w hc.1 hc.2.1 hc.2.2
  ·by_cases k:0<b
   ·have:=(s2 k).2 w hc.1 hc.2.1 hc.2.2
    have:¬ b<way.length:=fun h=>hn ⟨k,.inr h⟩
    omega
   ·exact absurd hc.2.2 (s1 ow w hc.1 hc.2.1)
 ·rintro ⟨k,hw⟩
  have hnear:=s2 k
  have hk:0<b.toNat:=by omega
  obtain ⟨w1,w2,w3⟩:=Zpz ho hs hL hk hnear
  refine ⟨Zb0.start hk hnear,w1.1,hb.turn w1 (fun w hc=>?_) (fun w hc hl=>w3 w hc ow) fun hne=>?_,w2⟩
  ·rw [w2];exact hnear.2 w hc.1 hc.2.1 hc.2.2
  ·rw [w2]
   rcases hw with hw | hw
   ·exact absurd hw hne
   ·omega
theorem ZpZ {m:Zw→Bool} {dv ev:List Int} {need:Bool} {x:Zw} {N:Int} (hx:0≤x.dst∧x.dst<dv.length∧x.dst<ev.length) (h1:∀ z ∈ dv,-1≤z∧z≤N) (h2:∀ z ∈ ev,-1≤z∧z≤N) : -1≤ZF m dv ev need x∧ZF m dv ev need x≤N:=by
 unfold ZF
 split
 ·rw [Zcr hx.1];exact h2 _ (nth_mem ow)
 ·rw [Zcr hx.1];exact h1 _ (nth_mem ow)
theorem Zqn {n:Nat} {d:List Int} (hd:d.length=2*n) {z:Int} (h:z ∈ ZaG n d):z ∈ d:=by
 obtain ⟨u,h1,rfl⟩:=Yu.1 h
 exact nth_mem (by have:=Ya0.1 h1;omega)
theorem ZqW {A:Zw→Prop} {i:Int} {a b:Int} : ∀ {w:List Zw},ZdR A i a w b → ∀ x ∈ w,A x
 | y :: w,h,x,hx=>by
  rcases Yl.1 hx with rfl | hx
  ·exact h.1
  ·exact ZqW h.2.2.2 x hx
theorem ZlX {l:List Zf} : (Z1 l).length≤l.length:=by
 have h:=ZfU (l.map Zf.key)
 rwa [YC] at h
def ZqH (lf:List Zf) (mk:Int) (E:List Zw):Prop:=E.length≤1000000∧(∀ x,(x ∈ E∧ofB mk x.kind=true) ↔ ∃ e,e ∈ lf∧ZbU (rkI (ZK lf)) (rkI (Z1 lf)) e=x)∧(∀ (ms:Int) (need:Bool) (j:Int) (w:List Zw),CwA (fun x=>x ∈ E∧ofB mk x.kind=true) (fun y=>ofB ms y.kind) need j w→0≤j)∧Zcp (· ∈ lf) (rkI (ZK lf)) (rkI (Z1 lf)) (ZhJ (ZK lf) (Z1 lf))
theorem Zoc {l lf:List Zf} {mk:Int} (hlf:l.filter (kindOk mk)=lf) (hll:lf.length≤100000) (hn:(ZK lf).length≤4096) (hk:(Z1 lf).length≤100000) :
  ∃ E,ZqH lf mk E∧Zcs (ZK lf).length E (ZQ (ZK lf).length (lf.map (Zct (ZK lf) (Z1 lf)))).1 (ZQ (ZK lf).length (lf.map (Zct (ZK lf) (Z1 lf)))).2.1:=by
 have hr:=ZlH (l:=lf) hn ow
 have i1:Zdm (ZK lf):=(ZL _).1
 have hright:∀ e ∈ lf,ZaF (ZK lf).length (Zct (ZK lf) (Z1 lf) e)=true∧ofB mk e.kind=true:=fun e he=>by
  have a1:=(Zay i1 (Zaf.2 ⟨e,he,.inl rfl⟩)).1
  have a2:=(Zay i1 (Zaf.2 ⟨e,he,.inr rfl⟩)).1
  have a3:=hr.keyr e.key ⟨e,he,rfl⟩
  have hm:e ∈ l.filter (kindOk mk):=by rw [hlf];exact he
  have h4:=(YN.1 hm).2
  unfold kindOk at h4
  simp only [Yt,Yp] at h4
  refine ⟨ZZ.2 ⟨⟨?_,?_⟩,⟨?_,?_⟩,h4.1,?_,?_⟩,h4.2⟩
  ·exact YaG _
  ·exact YbV.2 a1
  ·exact YaG _
  ·exact YbV.2 a2
  ·exact a3.1
  ·show rkI (Z1 lf) e.key≤1048575;omega
 have hmem:∀ x,x ∈ (lf.map (Zct (ZK lf) (Z1 lf))).foldl (Zld (ZK lf).length) [] ↔ ∃ e,e ∈ lf∧ZbU (rkI (ZK lf)) (rkI (Z1 lf)) e=x:=fun x=>by
  rw [Zkz]
  constructor
  ·rintro (h | ⟨h,_⟩)
   ·cases h
   ·obtain ⟨e,he,h2⟩:=Yu.1 h
    exact ⟨e,he,h2⟩
  ·rintro ⟨e,he,rfl⟩
   exact .inr ⟨Yu.2 ⟨e,he,rfl⟩,(hright e he).1⟩
 have hA:∀ x,(x ∈ (lf.map (Zct (ZK lf) (Z1 lf))).foldl (Zld (ZK lf).length) []∧ofB mk x.kind=true) ↔ ∃ e,e ∈ lf∧ZbU (rkI (ZK lf)) (rkI (Z1 lf)) e=x:=fun x=>by
  rw [hmem]
  constructor
  ·exact fun h=>h.1
  ·rintro ⟨e,he,rfl⟩
   exact ⟨⟨e,he,rfl⟩,(hright e he).2⟩
 refine ⟨_,⟨?_,hA,fun ms need j w hc=>?_,hr⟩,(Zir hn _).1⟩
 ·have h9:=Zg5 (n:=(ZK lf).length) (lf.map (Zct (ZK lf) (Z1 lf))) []
  rw [YC,Yv] at h9
  omega
 ·obtain ⟨c1,c2,_⟩:=hc
  cases w with
  | nil=>exact absurd rfl c1
  | cons x w=>
   obtain ⟨h1,h2,_⟩:=c2
   obtain ⟨e,_,rfl⟩:=(hA x).1 h1
   rw [← h2]
   exact YaG _
theorem ZoH {E:List Zw} {O I:List (List Z8)} {mk ms mn mm:Int} (h:Zcs O.length E O I) (hbn:∀ k,1≤k→k≤3→ofB mn k=(ofB mk k && !ofB ms k)) (hbm:∀ k,1≤k→k≤3→ofB mm k=(ofB mk k && ofB ms k)) {i:Nat} (hi:i<O.length) (hn:O.length≤4096) :
  ∃ D D2,Zc3 O.length (fun x=>adjO I mk x) (i:Int) (i:Int) D∧Zc3 (2*O.length) (Zdb (fun x=>adjO I mn x) (fun x=>adjO I mm x)) (2*(i:Int)) (2*(i:Int)) D2∧Zcf (fun x=>x ∈ E∧ofB mk x.kind=true) (fun y=>ofB ms y.kind) (i:Int) D (ZaG O.length D2) ∧
   D.length=O.length∧(ZaG O.length D2).length=O.length∧(∀ z ∈ D,-1≤z∧z≤90000) ∧ ∀ z ∈ ZaG O.length D2,-1≤z∧z≤90000:=by
 obtain ⟨D,hD⟩:=Zod O.length (fun x=>adjO I mk x) (i:Int) (i:Int)
 obtain ⟨D2,hD2⟩:=Zod (2*O.length) (Zdb (fun x=>adjO I mn x) (fun x=>adjO I mm x)) (2*(i:Int)) (2*(i:Int))
 have hk:∀ y ∈ E,1≤y.kind∧y.kind≤3:=fun y hy=>(ZZ.1 (h.ok y hy)).2.2.1
 refine ⟨D,D2,hD,hD2,Zly (fun x hx=>(ZZ.1 (h.ok x hx.1)).2.1) (prev:=fun x=>adjO I mk x) (fun x u=>?_) (p:=fun x=>adjO I mn x) (q:=fun x=>adjO I mm x) (fun x u=>?_) (fun x u=>?_) hD hD2,hD.1,Zax,fun z hz=>?_,fun z hz=>?_⟩
 ·rw [(h.prev mk x).2 u]
  constructor
  ·rintro ⟨y,y1,y2,y3,y4⟩;exact ⟨y,⟨y1,y3⟩,y2,y4⟩
  ·rintro ⟨y,⟨y1,y3⟩,y2,y4⟩;exact ⟨y,y1,y2,y3,y4⟩
 ·rw [(h.prev mn x).2 u]
  constructor
  ·rintro ⟨y,y1,y2,y3,y4⟩
   obtain ⟨k1,k2⟩:=hk y y1
   rw [hbn _ k1 k2,Yt,Yaj] at y3
   exact ⟨y,⟨y1,y3.1⟩,y3.2,y2,y4⟩
  ·rintro ⟨y,⟨y1,y3⟩,y5,y2,y4⟩
   obtain ⟨k1,k2⟩:=hk y y1
   exact ⟨y,y1,y2,by rw [hbn _ k1 k2,y3,y5];rfl,y4⟩
 ·rw [(h.prev mm x).2 u]
  constructor
  ·rintro ⟨y,y1,y2,y3,y4⟩
   obtain ⟨k1,k2⟩:=hk y y1
   rw [hbm _ k1 k2,Yt] at y3
   exact ⟨y,⟨y1,y3.1⟩,y3.2,y2,y4⟩
  ·rintro ⟨y,⟨y1,y3⟩,y5,y2,y4⟩
   obtain ⟨k1,k2⟩:=hk y y1
   exact ⟨y,y1,y2,by rw [hbm _ k1 k2,y3,y5];rfl,y4⟩
 ·have:=hD.le (h.prevR mk).1 ⟨by omega,by omega⟩ z hz
  omega
 ·have:=hD2.le (Zom (h.prevR mn).1 (h.prevR mm).1) ⟨by omega,by omega⟩ z (Zqn hD2.1 hz)
  omega
theorem Zix {lf:List Zf} {mk ms:Int} {E:List Zw} {need:Bool} {i:Nat} {way:List Zw} {R:List Zf} (hE:ZqH lf mk E) (hb:Zdo (fun x=>x ∈ E∧ofB mk x.kind=true) (fun y=>ofB ms y.kind) Zmg need (i:Int) way) (hi:i=(ZK lf).length)
  (hR:(R = [] ∧ ∀ j w,¬ CwE (· ∈ lf) (fun e=>ofB ms e.kind) need j w)∨ZaB (· ∈ lf) (fun e=>ofB ms e.kind) need R) :
  (way = []→[] = R)∧(way≠[]→(∀ x ∈ way,(0≤x.src∧x.src<((ZK lf).length:Int))∧(0≤x.dst∧x.dst<((ZK lf).length:Int))∧0≤x.label∧x.label<((Z1 lf).length:Int))∧way.map (ZhJ (ZK lf) (Z1 lf))=R∧R≠[]):=by
 obtain ⟨_,hA,_,hr⟩:=hE
 have i1:Zdm (ZK lf):=(ZL _).1
 have i2:Zdm (Z1 lf):=(ZL _).1
 rw [show (fun x=>x ∈ E∧ofB mk x.kind=true)=fun x=>∃ e,e ∈ lf∧ZbU (rkI (ZK lf)) (rkI (Z1 lf)) e=x from funext fun x=>propext (hA x)] at hb
 obtain ⟨f1,f2⟩:=hr.first (n:=(i:Int)) (fun a ha=>by rw [hi];exact YbV.2 (Zay i1 (Zaf.2 ha)).1) hb
 constructor
 ·intro hw
  rcases hR with ⟨h1,_⟩ | ⟨j,h1,_⟩
  ·exact h1.symm
  ·exact absurd h1 (f1 hw j R)
 ·intro hw
  have hF:=f2 hw
  refine ⟨fun x hx=>?_,?_⟩
  ·obtain ⟨j,_,hc,_⟩:=hb.2 hw
   obtain ⟨e,he,rfl⟩:=ZqW hc.2.1 x hx
   have a1:=(Zay i1 (Zaf.2 ⟨e,he,.inl rfl⟩)).1
   have a2:=(Zay i1 (Zaf.2 ⟨e,he,.inr rfl⟩)).1
   have a3:=(Zay i2 (Zb6.2 ⟨e,he,rfl⟩)).1
   exact ⟨⟨YaG _,YbV.2 a1⟩,⟨YaG _,YbV.2 a2⟩,YaG _,YbV.2 a3⟩
  ·have hF2:ZaB (· ∈ lf) (fun e=>ofB ms e.kind) need (way.map (ZhJ (ZK lf) (Z1 lf))):=hF
   rcases hR with ⟨_,h2⟩ | h2
   ·obtain ⟨j,h3,_⟩:=hF2
    exact absurd h3 (h2 j _)
   ·refine ⟨hF2.one h2,?_⟩
    obtain ⟨j,h3,_⟩:=h2
    exact h3.1
theorem Zla (l lf:List Zf) (mask must mk ms mn mm:Int) (hmk:bits .and .i64 mask 14=mk) (hms:bits .and .i64 must 14=ms) (hmn:bits .andNot .i64 mk ms=mn) (hmm:bits .and .i64 mk ms=mm) (hne:mn≠mm) (hbn:∀ k,1≤k→k≤3→ofB mn k=(ofB mk k && !ofB ms k)) (hbm:∀ k,1≤k→k≤3→ofB mm k=(ofB mk k && ofB ms k)) (hl:l.length≤100000) (hlf:l.filter (kindOk mk)=lf) (hn0:(ZK lf).length≤4096) (R:List Zf) (hR:(R = [] ∧ ∀ j w,¬ CwE (· ∈ lf) (fun e=>ofB ms e.kind) (!decide (ms=0)) j w)∨ZaB (· ∈ lf) (fun e=>ofB ms e.kind) (!decide (ms=0)) R):FnP prog 76 [.sl Zp l,.int .i64 mask,.int .i64 must] (.tup [.sl Zp R,.int .i64 (if R = [] then 3 else 0)]):=by
 refine FnP.mk func76 rfl ntmps76 rfl fun B a w F Z hfr G=>?_
 have hll:lf.length≤100000:=by rw [← hlf];exact Y6 (Y8 _ _) hl
 have hn:=hn0
 have hkl:(Z1 lf).length≤100000:=Y6 ZlX hll
 refine Ya (Zb G (qf (Znr 101 .t one_int) r1 qz (qC (qI qZ))) Z [7,6,4,2,0] [101,0] (fun _=>rfl) (fun _=>rfl) fun τ a w F G=>?_)
 try dsimp only [RS.sub,SF.sub,CF.sub,csub,Anc.sub,List.map,zCF,Zn,Zp,ZaI] at G
 generalize τ 4=v4 at G
 refine Za (Ya (Zg G (qf (oL false 1 101 .is) r1 r1 (qf (Zdk .t qi) r1 qz (qR rr (qf (Zdk .t qi) r1 qz (qf (ZaQ 101 .is .t one_int kr kr) r2 r1 (qO rr qZ)))))) Z [7,6,4,2,0] [101,0] rfl rfl fun a w F G=>?_))
 rw [hmk,hms] at G
 obtain ⟨F,G⟩:=G.giveRef 101 4 rfl rfl rfl
 obtain ⟨F,G⟩:=G.nM [7,6,4,2,0] [0]
 try dsimp only [Go.Gm.unCF] at G
 refine Za (Ya ?_)
 replace G:=G.fresh 102 rfl
 refine Zb G (qR rr (qf (ZaM 102 (Zo5 l ow) func124 rfl kr (Args.one .t) pvOne1) r1 r1 (qf (Zbo (Args.one .t)) r1 qz (qf (ZoV 23 102 (fun v=>ZrU _ l ow (fun e=>!kindOk mk e) 125 f125 [.ref [.int .i64 mk]] func125 rfl kr (fun e=>Zqu e mk)) func123 rfl kr (Zl2.two .same (.of .t)) pvOne1) r2 r1 (qO rr qZ))))) Z [7,6,4,2,0] [102,0] (fun _=>rfl) (fun _=>rfl) fun τ a w F G=>?_
 try dsimp only [RS.sub,SF.sub,CF.sub,csub,Anc.sub,List.map,Zn,Zp,ZaI] at G
 generalize τ 25=v25 at G
 simp only [Bool.not_not] at G
 rw [hlf] at G
 refine Za (Ya ?_)
 obtain ⟨F,G⟩:=G.give 102 0 rfl rfl
 obtain ⟨F,G⟩:=G.nM [7,6,4,2,0] [0]
 refine Zb G (qR rr (qf (oP (ZrJ lf hll) func126 (Args.one .t)) r1 qz (qf (oH [.slice none 0 0,.slice none 0 0] 103) trivial qz (qf (oA 2 103 .same (.conv .t .agg)) r2 r1 qZ)))) Z [8,7,6,4,2,0] [103,0] (fun _=>rfl) (fun _=>rfl) fun τ a w F G=>?_
 try dsimp only [RS.sub,SF.sub,CF.sub,csub,Anc.sub,List.map,Ze,xL,xM,Nat.reduceAdd,xD,xE,xT,xU,xC,xN,zCF,Zn,Zp,ZaI] at G
 generalize τ 8=v8 at G
 refine Za (Ya (Zg G (qR rr (qe 2 103 r1 r1 (qf (oP (Zsm lf (ZK lf) (Z1 lf) hll hn0 ow ow (ZL _).1 (ZL _).1) func127 (Args.two .t (.pagg .t))) r2 qz (qR rr (qf (Zi .t rfl) r1 qz (qf (Zi .t rfl) r1 qz (qO rr (qO rr qZ)))))))) Z [10,9,8,7,6,4,2] [103,0] rfl rfl fun a w F G=>?_))
 obtain ⟨q,hq0⟩:∃ q,q=ZQ (ZK lf).length (lf.map (Zct (ZK lf) (Z1 lf))):=⟨_,rfl⟩
 rw [← hq0] at G
 obtain ⟨E,hE0,hD0⟩:=Zoc hlf hll hn hkl
 rw [← hq0] at hD0
 have hoq:=hD0.ol
 have hD:Zcs q.1.length E q.1 q.2.1:=by rw [hoq];exact hD0
 have hEl:=hE0.1
 have hO:∀ l ∈ q.1,l.length≤1000000:=fun l hl=>(hD.on.r hEl l hl).1
 have hn:q.1.length≤4096:=by omega
 have hnil:=hE0.2.2.1 ms (!decide (ms=0))
 refine Za (Ya (Ya (rZ G (qR rr (qf (o_neq .t qi) r1 qz qZ)) Z [35,10,9,8,7,6,4,2] [103,0] fun G=>?_)))
 refine Zc G rfl (fun hc0=>?_) (fun hc0=>?_)
 ·simp at hc0
 refine Yf (Za (Ya (rZ G (qC qZ) Z [11,9,8,7,6,4,2] [103,0] fun G=>(Ya (Ya ?_)))))
 refine rZ G (qg 0 103 r1 r1 (qa 103 r1 r1 (qu Yb0 r1 (qJ qZ)))) Z [40,39,11,9,8,7,6,4,2] [103,0] fun G=>Yg ?_
 refine Zm (σ:=(Nat)×(List Zw)) [2,4,6,7,8,9,39] [0,103] (fun s=>[(40,.pv (.int .i64 (s.1:Int))),(11,.pv (if s.2 = [] then PV.is (.slice none 0 0) else PV.sl ZaI s.2))]) (fun s=>[]) (fun s=>s.1≤(ZK lf).length∧(Zdo (fun x=>x ∈ E∧ofB mk x.kind=true) (fun y:Zw=>ofB ms y.kind) Zmg (!decide (ms=0)) (s.1:Int) s.2∧s.2.length≤90001)) (fun s=>(ZK lf).length - s.1) ((0),([])) G ⟨rfl,rfl,rfl,rfl,rfl,rfl,rfl,rfl,rfl,tv⟩ ⟨rfl,rfl,tv⟩ ⟨Yx _,⟨Zdo.nil _ _ _ _ hnil,Yx _⟩⟩ ?_
 clear G;intro s a w F hC G
 obtain ⟨i,way⟩:=s
 try dsimp only at hC
 obtain ⟨F,G⟩:=G.nM [40,39,11,9,8,7,6,4,2] [103,0]
 try dsimp only at G
 obtain ⟨hi,hq⟩:=hC
 obtain ⟨hq,hwy⟩:=hq
 refine Ya (rZ G (qL r2) Z [41,40,39,11,9,8,7,6,4,2] [103,0] fun G=>Ya ?_)
 refine Zc G rfl (fun hc1=>?_) (fun hc1=>?_)
 ·have hil:i<(ZK lf).length:=by simp at hc1;omega
  obtain ⟨D,D2,hDD,hDD2,hL,hlD,hlE,hb1,hb2_⟩:=ZoH hD hbn hbm (i:=i) ow hn
  have hst:=ZmF (need:=(!decide (ms=0))) (hD.outM mk) (hD.outP mk) hL hq (b:=(ZS (ZF (fun y:Zw=>ofB ms y.kind) D (ZaG q.1.length D2) (!decide (ms=0))) (Z5 q.1 mk (i:Int)))) rfl
  have hlv:∀ x ∈ Z5 q.1 mk (i:Int),-1≤(ZF (fun y:Zw=>ofB ms y.kind) D (ZaG q.1.length D2) (!decide (ms=0))) x∧(ZF (fun y:Zw=>ofB ms y.kind) D (ZaG q.1.length D2) (!decide (ms=0))) x≤90000:=fun x hx=>ZpZ (by have h9:=(hD.outR mk _ x hx).1;rw [hlD,hlE];omega) hb1 hb2_
  have hsb:=ZiI (f:=(ZF (fun y:Zw=>ofB ms y.kind) D (ZaG q.1.length D2) (!decide (ms=0)))) (l:=Z5 q.1 mk (i:Int)) (N:=90001) ow fun x hx=>(by have:=hlv x hx;omega)
  refine Yf (Za (Ya (Yg (Ya (rZ G (qR rr (qO rr qZ)) Z [40,39,12,11,9,8,7,6,4,2] [103,0] fun G=>Ya ?_)))))
  refine Zb G (qR rr (qf (oR false 1 .t) r1 qz (qR rr (qR rr (qf (oP (Zue E q.1 q.2.1 q.2.2 mk ms (i:Int) mn mm hmn hmm hne hD ow hn hEl (YaG _) ow D D2 hDD hDD2) func128 (Args.four .t .t .t .t)) r4 qz (qf (oH [.pointer none,.int .i64 0,.int .i64 0,.slice none 0 0,.slice none 0 0] 104) trivial qz (qf (oA 5 104 .same (.conv .t .agg)) r2 r1 qZ))))))) Z [40,39,13,12,11,9,8,7,6,4,2] [104,103,0] (fun _=>rfl) (fun _=>rfl) fun τ a w F G=>?_
  try dsimp only [RS.sub,SF.sub,CF.sub,csub,Anc.sub,List.map,Ze,xL,xM,Nat.reduceAdd,xD,xE,xT,xU,xC,xN,zCF,ldSF,Zn,Zp,ZaI] at G
  generalize τ 13=v13 at G
  refine Za (Ya (rZ G (qe 5 104 r1 r1 (qR rr (qR rr (qf (o_neq .t qi) r1 qz (qf (oP (Zr0 q.1 q.2.1 q.2.2 mk ms D (ZaG q.1.length D2) (i:Int) (!decide (ms=0)) hO (fun u x hx=>by have h9:=(hD.outR mk u x hx).1;rw [hlD,hlE];omega) (fun u=>Y6 (hD.outL mk u) hEl) hlv) func129 (Args.three (.pagg .t) .t .t)) r3 qz (qO rr qZ)))))) Z [40,39,14,13,12,11,9,8,7,6,4,2] [104,103,0] fun G=>Ya ?_))
  by_cases hfk:way = []
  ·rw [Ye hfk] at G
   refine Zg G (qR rr (qf (Za3 .t qi) r1 qz (qR rr (qm rfl rfl rfl rfl (qk rfl (fun h=>ZgI Yb6 (.w h)) r2 qz (qk rfl (fun h=>oM (.w h)) r2 qz (Zy.cons (ZaD.cond2 rfl rfl (fun h=>Za0 .t (by rfl))) r2 qz (Zy.cons (ZaD.cond2 rfl rfl (fun h=>Za0 .t (by rfl))) r2 qz (Zy.cons (ZaD.cond2 rfl rfl (fun h=>ZmS Yb6 (.w h))) r2 qz (Zy.cons (ZaD.cond2 rfl rfl (fun h=>Zar (.w h) (.w h))) r3 qz (qk rfl (fun h=>Zaa (.w h) (.wc h)) r3 qz (qf (ZH .t .t) r2 qz qZ)))))))))))) Z [64,40,39,14,13,12,11,9,8,7,6,4,2] [104,103,0] rfl rfl fun a w F G=>?_
   try dsimp only [Zn,Zp,ZaI] at G
   refine Za (Zc G rfl (fun hc2=>?_) (fun hc2=>?_))
   ·have hyes:0<(ZS (ZF (fun y:Zw=>ofB ms y.kind) D (ZaG q.1.length D2) (!decide (ms=0))) (Z5 q.1 mk (i:Int)))∧(way = []∨(ZS (ZF (fun y:Zw=>ofB ms y.kind) D (ZaG q.1.length D2) (!decide (ms=0))) (Z5 q.1 mk (i:Int)))<way.length):=by have h9:=hc2;rw [Yt,Yp] at h9;exact ⟨h9.1,.inl hfk⟩
    obtain ⟨hW0,hwne,hb2,hwl2⟩:=hst.2 hyes
    have hkn:(ZS (ZF (fun y:Zw=>ofB ms y.kind) D (ZaG q.1.length D2) (!decide (ms=0))) (Z5 q.1 mk (i:Int)))=(((ZS (ZF (fun y:Zw=>ofB ms y.kind) D (ZaG q.1.length D2) (!decide (ms=0))) (Z5 q.1 mk (i:Int))).toNat:Nat):Int):=by omega
    have hwy2:(Za7 (Z5 q.1 mk) (ZF (fun y:Zw=>ofB ms y.kind) D (ZaG q.1.length D2)) (fun y:Zw=>ofB ms y.kind) (i:Int) (ZS (ZF (fun y:Zw=>ofB ms y.kind) D (ZaG q.1.length D2) (!decide (ms=0))) (Z5 q.1 mk (i:Int))).toNat (i:Int) (!decide (ms=0))).length≤90001:=by omega
    refine Zg G (qe 5 104 r1 r1 (qR rr (qR rr (qR rr (qf (o_neq .t qi) r1 qz (qf (oP (ZqT E q.1 q.2.1 q.2.2 mk ms D (ZaG q.1.length D2) (i:Int) (ZS (ZF (fun y:Zw=>ofB ms y.kind) D (ZaG q.1.length D2) (!decide (ms=0))) (Z5 q.1 mk (i:Int))).toNat (!decide (ms=0)) ow hD hL hW0 hO (fun u x hx=>by have h9:=(hD.outR mk u x hx).1;rw [hlD,hlE];omega) (fun u=>Y6 (hD.outL mk u) hEl)) func130 (Args.four (.pagg .t) .t (.conv .t (Ent.int hkn)) .t)) r4 qz (qO rr qZ))))))) Z [40,39,11,9,8,7,6,4,2] [104,103,0] rfl rfl fun a w F G=>Zj (Za ?_)
    refine rZ G (qp r1 (qR rr qZ)) Z [40,39,11,9,8,7,6,4,2] [104,103,0] fun G=>?_
    replace G:=G.ent (i:=40) (s':=.pv (.int .i64 ((i+1:Nat):Int))) rfl (.int (Zd ow))
    replace G:=G.ent (i:=11) (s':=.pv (if (Za7 (Z5 q.1 mk) (ZF (fun y:Zw=>ofB ms y.kind) D (ZaG q.1.length D2)) (fun y:Zw=>ofB ms y.kind) (i:Int) (ZS (ZF (fun y:Zw=>ofB ms y.kind) D (ZaG q.1.length D2) (!decide (ms=0))) (Z5 q.1 mk (i:Int))).toNat (i:Int) (!decide (ms=0))) = [] then PV.is (.slice none 0 0) else PV.sl ZaI (Za7 (Z5 q.1 mk) (ZF (fun y:Zw=>ofB ms y.kind) D (ZaG q.1.length D2)) (fun y:Zw=>ofB ms y.kind) (i:Int) (ZS (ZF (fun y:Zw=>ofB ms y.kind) D (ZaG q.1.length D2) (!decide (ms=0))) (Z5 q.1 mk (i:Int))).toNat (i:Int) (!decide (ms=0))))) rfl ((by rw [Yb hwne];exact Ent.refl))
    obtain ⟨F,G⟩:=G.nM [39,9,8,7,6,4,2,11,40] [103,0]
    exact ⟨((i+1),((Za7 (Z5 q.1 mk) (ZF (fun y:Zw=>ofB ms y.kind) D (ZaG q.1.length D2)) (fun y:Zw=>ofB ms y.kind) (i:Int) (ZS (ZF (fun y:Zw=>ofB ms y.kind) D (ZaG q.1.length D2) (!decide (ms=0))) (Z5 q.1 mk (i:Int))).toNat (i:Int) (!decide (ms=0))))),F,⟨by omega,⟨by have h9:((i+1:Nat):Int)=(i:Int)+1:=ow;rw [h9];exact hb2,hwy2⟩⟩,G,by omega⟩
   have hno:¬ (0<(ZS (ZF (fun y:Zw=>ofB ms y.kind) D (ZaG q.1.length D2) (!decide (ms=0))) (Z5 q.1 mk (i:Int)))∧(way = []∨(ZS (ZF (fun y:Zw=>ofB ms y.kind) D (ZaG q.1.length D2) (!decide (ms=0))) (Z5 q.1 mk (i:Int)))<way.length)):=by have h9:=hc2;rintro ⟨h8,_⟩;rw [Yaa h8] at h9;simp at h9
   have hb2:=hst.1 hno
   have hwy2:=hwy
   refine Yf (Zj (Za (rZ G (qp r1 (qR rr qZ)) Z [40,39,11,9,8,7,6,4,2] [104,103,0] fun G=>?_)))
   replace G:=G.ent (i:=40) (s':=.pv (.int .i64 ((i+1:Nat):Int))) rfl (.int (Zd ow))
   replace G:=G.ent (i:=11) (s':=.pv (if way = [] then PV.is (.slice none 0 0) else PV.sl ZaI way)) rfl ((by rw [Ye hfk];exact Ent.refl))
   obtain ⟨F,G⟩:=G.nM [39,9,8,7,6,4,2,11,40] [103,0]
   exact ⟨((i+1),(way)),F,⟨by omega,⟨by have h9:((i+1:Nat):Int)=(i:Int)+1:=ow;rw [h9];exact hb2,hwy2⟩⟩,G,by omega⟩
  rw [Yb hfk] at G
  refine Zg G (qR rr (qf (Za3 .t qi) r1 qz (qR rr (qm rfl rfl rfl rfl (qk rfl (fun h=>ZhU Yb6 (.w h) hfk) r2 qz (qk rfl (fun h=>oM (.w h)) r2 qz (Zy.cons (ZaD.cond2 rfl rfl (fun h=>Za0 .t (by rfl))) r2 qz (Zy.cons (ZaD.cond2 rfl rfl (fun h=>Za0 .t (by rfl))) r2 qz (Zy.cons (ZaD.cond2 rfl rfl (fun h=>ZcV Yb6 (.w h))) r2 qz (Zy.cons (ZaD.cond2 rfl rfl (fun h=>Zar (.w h) (.w h))) r3 qz (qk rfl (fun h=>Zaa (.w h) (.wc h)) r3 qz (qf (ZH .t .t) r2 qz qZ)))))))))))) Z [64,40,39,14,13,12,11,9,8,7,6,4,2] [104,103,0] rfl rfl fun a w F G=>?_
  try dsimp only [Zn,Zp,ZaI] at G
  refine Za (Zc G rfl (fun hc3=>?_) (fun hc3=>?_))
  ·have hyes:0<(ZS (ZF (fun y:Zw=>ofB ms y.kind) D (ZaG q.1.length D2) (!decide (ms=0))) (Z5 q.1 mk (i:Int)))∧(way = []∨(ZS (ZF (fun y:Zw=>ofB ms y.kind) D (ZaG q.1.length D2) (!decide (ms=0))) (Z5 q.1 mk (i:Int)))<way.length):=by have h9:=hc3;rw [Bool.false_or,Yt,Yp,Yp] at h9;exact ⟨h9.1,.inr h9.2⟩
   obtain ⟨hW0,hwne,hb2,hwl2⟩:=hst.2 hyes
   have hkn:(ZS (ZF (fun y:Zw=>ofB ms y.kind) D (ZaG q.1.length D2) (!decide (ms=0))) (Z5 q.1 mk (i:Int)))=(((ZS (ZF (fun y:Zw=>ofB ms y.kind) D (ZaG q.1.length D2) (!decide (ms=0))) (Z5 q.1 mk (i:Int))).toNat:Nat):Int):=by omega
   have hwy2:(Za7 (Z5 q.1 mk) (ZF (fun y:Zw=>ofB ms y.kind) D (ZaG q.1.length D2)) (fun y:Zw=>ofB ms y.kind) (i:Int) (ZS (ZF (fun y:Zw=>ofB ms y.kind) D (ZaG q.1.length D2) (!decide (ms=0))) (Z5 q.1 mk (i:Int))).toNat (i:Int) (!decide (ms=0))).length≤90001:=by omega
   refine Zg G (qe 5 104 r1 r1 (qR rr (qR rr (qR rr (qf (o_neq .t qi) r1 qz (qf (oP (ZqT E q.1 q.2.1 q.2.2 mk ms D (ZaG q.1.length D2) (i:Int) (ZS (ZF (fun y:Zw=>ofB ms y.kind) D (ZaG q.1.length D2) (!decide (ms=0))) (Z5 q.1 mk (i:Int))).toNat (!decide (ms=0)) ow hD hL hW0 hO (fun u x hx=>by have h9:=(hD.outR mk u x hx).1;rw [hlD,hlE];omega) (fun u=>Y6 (hD.outL mk u) hEl)) func130 (Args.four (.pagg .t) .t (.conv .t (Ent.int hkn)) .t)) r4 qz (qO rr qZ))))))) Z [40,39,11,9,8,7,6,4,2] [104,103,0] rfl rfl fun a w F G=>Zj (Za ?_)
   refine rZ G (qp r1 (qR rr qZ)) Z [40,39,11,9,8,7,6,4,2] [104,103,0] fun G=>?_
   replace G:=G.ent (i:=40) (s':=.pv (.int .i64 ((i+1:Nat):Int))) rfl (.int (Zd ow))
   replace G:=G.ent (i:=11) (s':=.pv (if (Za7 (Z5 q.1 mk) (ZF (fun y:Zw=>ofB ms y.kind) D (ZaG q.1.length D2)) (fun y:Zw=>ofB ms y.kind) (i:Int) (ZS (ZF (fun y:Zw=>ofB ms y.kind) D (ZaG q.1.length D2) (!decide (ms=0))) (Z5 q.1 mk (i:Int))).toNat (i:Int) (!decide (ms=0))) = [] then PV.is (.slice none 0 0) else PV.sl ZaI (Za7 (Z5 q.1 mk) (ZF (fun y:Zw=>ofB ms y.kind) D (ZaG q.1.length D2)) (fun y:Zw=>ofB ms y.kind) (i:Int) (ZS (ZF (fun y:Zw=>ofB ms y.kind) D (ZaG q.1.length D2) (!decide (ms=0))) (Z5 q.1 mk (i:Int))).toNat (i:Int) (!decide (ms=0))))) rfl ((by rw [Yb hwne];exact Ent.refl))
   obtain ⟨F,G⟩:=G.nM [39,9,8,7,6,4,2,11,40] [103,0]
   exact ⟨((i+1),((Za7 (Z5 q.1 mk) (ZF (fun y:Zw=>ofB ms y.kind) D (ZaG q.1.length D2)) (fun y:Zw=>ofB ms y.kind) (i:Int) (ZS (ZF (fun y:Zw=>ofB ms y.kind) D (ZaG q.1.length D2) (!decide (ms=0))) (Z5 q.1 mk (i:Int))).toNat (i:Int) (!decide (ms=0))))),F,⟨by omega,⟨by have h9:((i+1:Nat):Int)=(i:Int)+1:=ow;rw [h9];exact hb2,hwy2⟩⟩,G,by omega⟩
  have hno:¬ (0<(ZS (ZF (fun y:Zw=>ofB ms y.kind) D (ZaG q.1.length D2) (!decide (ms=0))) (Z5 q.1 mk (i:Int)))∧(way = []∨(ZS (ZF (fun y:Zw=>ofB ms y.kind) D (ZaG q.1.length D2) (!decide (ms=0))) (Z5 q.1 mk (i:Int)))<way.length)):=by have h9:=hc3;rintro ⟨h8,h7⟩;rw [Yaa h8,Ybb,Bool.false_or,YA] at h9;exact h7.elim hfk h9
  have hb2:=hst.1 hno
  have hwy2:=hwy
  refine Yf (Zj (Za (rZ G (qp r1 (qR rr qZ)) Z [40,39,11,9,8,7,6,4,2] [104,103,0] fun G=>?_)))
  replace G:=G.ent (i:=40) (s':=.pv (.int .i64 ((i+1:Nat):Int))) rfl (.int (Zd ow))
  replace G:=G.ent (i:=11) (s':=.pv (if way = [] then PV.is (.slice none 0 0) else PV.sl ZaI way)) rfl ((by rw [Yb hfk];exact Ent.refl))
  obtain ⟨F,G⟩:=G.nM [39,9,8,7,6,4,2,11,40] [103,0]
  exact ⟨((i+1),(way)),F,⟨by omega,⟨by have h9:((i+1:Nat):Int)=(i:Int)+1:=ow;rw [h9];exact hb2,hwy2⟩⟩,G,by omega⟩
 have hil:i=(ZK lf).length:=by simp at hc1;omega
 refine Yz (Zh (Zh (Zr (Za (Ya (Ya ?_))))))
 by_cases hfk:way = []
 ·rw [Ye hfk] at G
  refine rZ G (qR rr (qf (ZgI Yb6 .t) r1 qz qZ)) Z [73,11,8,7,6] [103,0] fun G=>?_
  refine Zc G rfl (fun hc4=>?_) (fun hc4=>?_)
  ·have hgR:[] = R:=(Zix hE0 hq hil hR).1 hfk
   have hgE:(3:Int)=if R = [] then 3 else 0:=by rw [← hgR,Ye rfl]
   refine Ya (rZ G (qC (qI qZ)) Z [11,8,7,6] [103,0] fun G=>(Yh (Zl ?_)))
   refine Zae hfr G rfl (.tmp rfl (.tmp rfl .nil)) (.two (.trans .nilSl (.sl hgR)) (.int hgE))
  simp at hc4
 rw [Yb hfk] at G
 refine rZ G (qR rr (qf (ZhU Yb6 .t hfk) r1 qz qZ)) Z [73,11,8,7,6] [103,0] fun G=>?_
 refine Zc G rfl (fun hc5=>?_) (fun hc5=>?_)
 ·simp at hc5
 obtain ⟨hwr,hres⟩:=(Zix hE0 hq hil hR).2 hfk
 refine Yf (Za (Ya (rZ G (qC qZ) Z [15,11,8,7,6] [103,0] fun G=>(Ya (Ya ?_)))))
 refine rZ G (qR rr (qu Yb6 r1 (qJ qZ))) Z [76,75,74,15,8,7,6] [103,0] fun G=>Yg ?_
 replace G:=G.fresh 51 rfl
 replace G:=G.turn 51 rfl (Zas (T:=42) (sz:=4) (R:=Zp))
 refine Zm (σ:=(Nat)×(Value)×(List Zf)) [6,7,8,74,75] [0,103] (fun s=>[(76,.pv (.int .i64 (s.1:Int))),(15,.pv (.is s.2.1))]) (fun s=>[(51,.ob (.val s.2.1) (ZC 42 4 Zp s.2.2))]) (fun s=>s.1≤way.length∧(s.2.2=(way.take s.1).map (ZhJ (ZK lf) (Z1 lf)))) (fun s=>way.length - s.1) ((0),(.slice none 0 0),([])) G ⟨rfl,rfl,rfl,rfl,rfl,rfl,rfl,tv⟩ ⟨rfl,rfl,rfl,tv⟩ ⟨Yx _,rfl⟩ ?_
 clear G;intro s a w F hC G
 obtain ⟨i,v,out⟩:=s
 try dsimp only at hC
 obtain ⟨F,G⟩:=G.nM [76,75,74,15,8,7,6] [103,51,0]
 try dsimp only at G
 obtain ⟨hi,hq⟩:=hC
 have hol:out.length=i:=by rw [hq,YC,Yj];omega
 refine Ya (rZ G (qL r2) Z [77,76,75,74,15,8,7,6] [103,51,0] fun G=>Ya ?_)
 refine Zc G rfl (fun hc6=>?_) (fun hc6=>?_)
 ·have hil:i<way.length:=by simp at hc6;omega
  refine Yf (Za (Ya (Yg (Ya (Zb G (qy 4 Yb6 r2 (qf (oR true 4 .t) r1 qz (qf (oH [.int .i64 0,.int .i64 0,.int .i64 0,.int .i64 0] 105) trivial qz (qS 4 105 r2 r1 qZ)))) Z [76,75,74,17,15,8,7,6] [105,103,51,0] (fun _=>rfl) (fun _=>rfl) fun τ a w F G=>?_)))))
  try dsimp only [RS.sub,SF.sub,CF.sub,csub,Anc.sub,List.map,Ze,xL,xM,Nat.reduceAdd,xD,xE,xT,xU,xC,xN,zCF,ldSF,Zn,Zp,ZaI] at G
  generalize τ 17=v17 at G
  try simp only [Yd] at G
  refine Za (Zb G (qR rr (qe 2 103 r1 r1 (qe 4 105 r1 r1 (qf (oP (Zrz (ZK lf) (Z1 lf) (Nn way i) (hwr _ (nth_mem hil)).1 (hwr _ (nth_mem hil)).2.1 (hwr _ (nth_mem hil)).2.2) func131 (Args.two (.pagg .t) (.pagg .t))) r2 qz (qf (o_buildSliceE (sz:=4) (zs:=[.int .i64 0,.int .i64 0,.int .i64 0,.int .i64 0]) (r:=[(0,.tmp 83)]) (l:=[_,_,_,_]) Yb1 kr kr kr kr rfl rfl (.agg rfl (.conv .t .agg) kr kr .nil) rfl) r1 qz (qf (o_append (sz:=4) (bs:=32) 51 (.mk' Yb1 kr kr) (by intro x;rfl) .is (.arr (l':=[ZhJ (ZK lf) (Z1 lf) (Nn way i)]) .t) (by simp only [Yc,Yk,Yv,Yj,YL];omega) (by decide)) ⟨rfl,rfl,tv⟩ ⟨rfl,tv⟩ (qO rr qZ))))))) Z [76,75,74,15,8,7,6] [105,103,51,0] (fun _=>rfl) (fun _=>rfl) fun τ a w F G=>?_)
  try dsimp only [RS.sub,SF.sub,CF.sub,csub,Anc.sub,List.map,Ze,xL,xM,Nat.reduceAdd,xD,xE,xT,xU,xC,xN,zCF,ldSF,Zn,Zp,ZaI] at G
  generalize τ 85=v85 at G
  refine Zj (Za (rZ G (qp r1 (qR rr qZ)) Z [76,75,74,15,8,7,6] [105,103,51,0] fun G=>?_))
  replace G:=G.ent (i:=76) (s':=.pv (.int .i64 ((i+1:Nat):Int))) rfl (.int (Zd ow))
  obtain ⟨F,G⟩:=G.nM [75,74,8,7,6,15,76] [103,0,51]
  exact ⟨((i+1),_,_),F,⟨by omega,(by rw [Zs hil,YJ,← hq];rfl)⟩,G,by omega⟩
 have hil:i=way.length:=by simp at hc6;omega
 have hgR:out=R:=by rw [hq,hil,YD];exact hres.1
 have hgE:(0:Int)=if R = [] then 3 else 0:=by rw [Yb hres.2]
 refine Yz (Zh (Zh (Zr (Za (Ya (rZ G (qR rr (qO rr (qI qZ))) Z [7,6] [103,51,0] fun G=>Yh ?_))))))
 obtain ⟨F,G⟩:=G.give 51 6 rfl rfl
 refine Zae hfr G rfl (.tmp rfl (.tmp rfl .nil)) (.two (.sl hgR) (.int hgE))
end Go.Proofs.YtlkpllemoepamaaGreat
