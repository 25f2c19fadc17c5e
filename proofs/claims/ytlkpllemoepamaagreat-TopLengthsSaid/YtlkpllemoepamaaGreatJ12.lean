/- Laws and walks. No condition beyond what each says. -/
import Derived.Test.YtlkpllemoepamaaGreatJ11
namespace Go.Proofs.YtlkpllemoepamaaGreat
open Go Go.Gm Tryz
set_option linter.unusedVariables false
set_option linter.unusedSimpArgs false
set_option maxHeartbeats 4000000
set_option maxRecDepth 8000
theorem Zka (x:Int):FnP prog 151 [.int .i64 x] (.bool false):=by
 refine FnP.mk func151 rfl ntmps151 rfl fun B a w F Z hfr G=>Ya ?_
 refine rZ G qB Z [2,0] [0] fun G=>Ya ?_
 refine rZ G (qR rr (qR rr (qf (o_neq .t .t) r2 qz (qO rr qZ)))) Z [2] [0] fun G=>Yh ?_
 refine Zw hfr G rfl rfl rfl (.bool (by simp))
theorem ZjQ (x:Int):FnP prog 226 [.int .i64 x] (.bool false):=by
 refine FnP.mk func226 rfl ntmps226 rfl fun B a w F Z hfr G=>Ya ?_
 refine rZ G qB Z [2,0] [0] fun G=>Ya ?_
 refine rZ G (qR rr (qR rr (qf (o_neq .t .t) r2 qz (qO rr qZ)))) Z [2] [0] fun G=>Yh ?_
 refine Zw hfr G rfl rfl rfl (.bool (by simp))
theorem Zsp (x y:Int):FnP prog 186 [.int .i64 x,.int .i64 y] (.bool (decide (x<y))):=by
 refine FnP.mk func186 rfl ntmps186 rfl fun B a w F Z hfr G=>Ya ?_
 refine rZ G qB Z [4,1,0] [0] fun G=>Ya ?_
 refine rZ G (qR rr (qf (oP (Zka x) func151 (Args.one .t)) r1 qz (qR rr (qm rfl rfl rfl rfl (qk rfl (fun h=>oP (Zka y) func151 (Args.one (.w h))) r2 qz (qk rfl (fun h=>o_not (.w h)) r2 qz (qf (ZH .t .t) r2 qz (qR rr (qm rfl rfl rfl rfl (qm rfl rfl rfl rfl (qk rfl (fun h=>ZaD (.w h) (.w h)) r3 qz (qf (Zab .t .t) r2 qz (qO rr qZ))))))))))))) Z [4] [0] fun G=>Yh ?_
 refine Zw hfr G rfl rfl rfl (.bool (by simp))
theorem Zsf (l:List Int) (k:Int) (hll:l.length≤1000000) (hs:Zgn (fun x:Int=>x) l):FnP prog 203 [.sl Zo l,.int .i64 k] (.tup [.int .i64 (lowK (fun x:Int=>x) k l),.any]):=by
 refine FnP.mk func203 rfl ntmps203 rfl fun B a w F Z hfr G=>Ya ?_
 refine rZ G (qI qB) Z [5,4,1,0] [0] fun G=>Ya ?_
 refine rZ G (qR rr (qu YbZ r1 (qO rr qZ))) Z [6,5,4,1,0] [0] fun G=>Ya ?_
 refine rZ G (qR rr (qI (qO rr qZ))) Z [8,7,6,5,4,1,0] [0] fun G=>(Ya (Yg ?_))
 refine Zl (σ:=Nat×Nat) [0,1,4,5,6] [0] (fun s=>[(7,.pv (.int .i64 (s.1:Int))),(8,.pv (.int .i64 (s.2:Int)))]) (fun s=>[]) (fun s=>s.1≤s.2∧s.2≤l.length∧(∀ q,q<s.1→Nn l q<k) ∧ ∀ q,s.2≤q→q<l.length→k≤Nn l q) (fun s=>s.2 - s.1) ((0),(l.length)) G ⟨rfl,rfl,rfl,rfl,rfl,rfl,rfl,tv⟩ ⟨rfl,tv⟩ ⟨Yw _,YL _,fun q hq=>absurd hq (Y9 q),fun q h1 h2=>by omega⟩ ?_
 clear G;intro s a w F hC G
 obtain ⟨i,j⟩:=s
 try dsimp only at hC
 obtain ⟨F,G⟩:=G.nM [8,7,6,5,4,1,0] [0]
 try dsimp only at G
 obtain ⟨hij,hjl,hlo,hhi⟩:=hC
 have hgl:=ZfF (κ:=fun x:Int=>x) (i:=i) ow hlo
 refine Ya (Ya (rZ G (qR rr (qR rr (qL r2))) Z [15,8,7,6,5,4,1,0] [0] fun G=>?_))
 refine Zc G rfl (fun hc0=>?_) (fun hc0=>?_)
 ·have hlt:i<j:=by simp at hc0;omega
  refine Yf (Za (Yg (Ya (Zg G (qR rr (qR rr (qf (o_add .t .t) r2 qz (qf (Zat Yb8 kr .t) r1 qz (qf (Zej .t qi (by decide)) r1 qz (qf (Zat Yb4 kr .t) r1 qz (qO rr qZ))))))) Z [9,8,7,6,5,4,1,0] [0] rfl rfl fun a w F G=>?_))))
  obtain ⟨m,hm⟩:∃ m:Nat,m=(i+j) / 2:=⟨_,rfl⟩
  replace G:=G.ent (i:=9) (s':=.pv (.int .i64 (m:Int))) rfl (.int (by rw [hm];exact ZnC ow))
  obtain ⟨F,G⟩:=G.nM [9,8,7,6,5,4,1,0] [0]
  refine Za (Ya (Zg G (qR rr (qR rr (qy 1 YbZ r2 (qf (oR false 1 .t) r1 qz (qR rr (qf (oP (Zsp (Nn l m) k) func186 (Args.two .t .t)) r2 qz qZ)))))) Z [27,9,8,7,6,5,4,1,0] [0] rfl rfl fun a w F G=>?_))
  try simp only [Yc] at G
  refine Za (Zc G rfl (fun hc1=>?_) (fun hc1=>?_))
  ·have hmk:(Nn l m)<k:=by simpa using hc1
   obtain ⟨i2,hi2e⟩:∃ z,z=m+1:=⟨_,rfl⟩
   obtain ⟨j2,hj2e⟩:∃ z,z=j:=⟨_,rfl⟩
   have hi2:IntKind.wrap .i64 ((m:Int)+1)=(i2:Int):=by rw [hi2e];exact Zd ow
   have hj2:(j:Int)=(j2:Int):=by rw [hj2e]
   have hmu:j2 - i2<j - i:=by omega
   have hC2:i2≤j2∧j2≤l.length∧(∀ q,q<i2→Nn l q<k) ∧ ∀ q,j2≤q→q<l.length→k≤Nn l q:=⟨by omega,by omega,fun q hq=>Int.lt_of_le_of_lt (Zdg (κ:=fun x:Int=>x) hs ow ow) hmk,by rw [hj2e];exact hhi⟩
   refine Zg G (qR rr (qp r1 (qO rr qZ))) Z [8,7,6,5,4,1,0] [0] rfl rfl fun a w F G=>Zk (Za ?_)
   replace G:=G.ent (i:=7) (s':=.pv (.int .i64 (i2:Int))) rfl (.int hi2)
   replace G:=G.ent (i:=8) (s':=.pv (.int .i64 (j2:Int))) rfl (.int hj2)
   obtain ⟨F,G⟩:=G.nM [6,5,4,1,0,8,7] [0]
   exact ⟨((i2),(j2)),F,hC2,G,hmu⟩
  have hmk:k≤(Nn l m):=Int.not_lt.1 (show ¬ (Nn l m)<k by simpa using hc1)
  obtain ⟨i2,hi2e⟩:∃ z,z=i:=⟨_,rfl⟩
  obtain ⟨j2,hj2e⟩:∃ z,z=m:=⟨_,rfl⟩
  have hi2:(i:Int)=(i2:Int):=by rw [hi2e]
  have hj2:(m:Int)=(j2:Int):=by rw [hj2e]
  have hmu:j2 - i2<j - i:=by omega
  have hC2:i2≤j2∧j2≤l.length∧(∀ q,q<i2→Nn l q<k) ∧ ∀ q,j2≤q→q<l.length→k≤Nn l q:=⟨by omega,by omega,by rw [hi2e];exact hlo,fun q h1 h2=>YbS hmk (Zdg (κ:=fun x:Int=>x) hs ow h2)⟩
  refine Zg G (qR rr (qO rr qZ)) Z [8,7,6,5,4,1,0] [0] rfl rfl fun a w F G=>Zk (Za ?_)
  replace G:=G.ent (i:=7) (s':=.pv (.int .i64 (i2:Int))) rfl (.int hi2)
  replace G:=G.ent (i:=8) (s':=.pv (.int .i64 (j2:Int))) rfl (.int hj2)
  obtain ⟨F,G⟩:=G.nM [6,5,4,1,0,8,7] [0]
  exact ⟨((i2),(j2)),F,hC2,G,hmu⟩
 have hjj:i=j:=by simp at hc0;omega
 subst hjj
 have hgl2:=hgl hhi
 refine Yx (Zj (Zj (Zr (Za (Ya (Zg G (qR rr (qR rr (qR rr (qf (ZaD .t .t) r2 qz (qR rr (qm rfl rfl rfl rfl (qm rfl rfl rfl rfl (qk rfl (fun h=>ZI (sz:=1) (.mk YbZ kr) (by intro x;rfl) (.w h) (.w h) ow (by have:=Yt h;omega)) r3 qz (qk rfl (fun h=>oR false 1 (.w h)) r2 qz (qm rfl rfl rfl rfl (qk rfl (fun h=>o_eql (.w h) (.w h)) r3 qz (qk rfl (fun h=>oM (.w h)) r2 qz (Zv.cons (Zan.cond2 rfl rfl (fun h=>ZaS .t (by rfl))) r2 qz (Zv.cons (Zan.cond2 rfl rfl (fun h=>ZaS .t (by rfl))) r2 qz (Zv.cons (Zan.cond2 rfl rfl (fun h=>ZI (sz:=1) (.mk YbZ kr) (by intro x;rfl) (.w h) (.w h) ow (by have:=Yt h.1;omega))) r3 qz (Zv.cons (Zan.cond2 rfl rfl (fun h=>Zf2 (ag:=false) (sz:=1) (.w h) kr kr kr)) r2 qz (Zv.cons (Zan.cond2 rfl rfl (fun h=>ZiS (ZjQ _) func226 rfl kr (Args.one (.w h)))) r2 qz (Zv.cons (Zan.cond2 rfl rfl (fun h=>ZaS (.w h) (by rfl))) r2 qz (Zv.cons (Zan.cond2 rfl rfl (fun h=>ZaS .t (by rfl))) r2 qz (Zv.cons (Zan.cond2 rfl rfl (fun h=>ZiS (ZjQ _) func226 rfl kr (Args.one (.w h)))) r2 qz (Zv.cons (Zan.cond2 rfl rfl (fun h=>ZH (.w h) (.wc h))) r3 qz (qk rfl (fun h=>Zab (.w h) (.wc h)) r3 qz (qf (ZH .t .t) r2 qz (qO rr (qO rr qZ))))))))))))))))))))))))) Z [5,4] [0] rfl rfl fun a w F G=>?_))))))
 try dsimp only [List.map,xD,xE,xT,xU,ldSF,Zo] at G
 try simp only [Yc] at G
 refine Za (Yh (Zad hfr G rfl (.tmp rfl (.tmp rfl .nil)) (.two (.int (by rw [hgl2])) .any)))
theorem ZnL (v:Value) (l:List Int) (hll:l.length≤1000000):FnG prog 167 1 [.is v] [ZA 3 1 Zo l v] (PV.one) (fun v=>[ZA 3 1 Zo (Zbu l) v]):=by
 refine FnG.mk func167 rfl ntmps167 rfl kr fun B F0 a w F Z hG G=>?_
 replace G:=G.turn 1 rfl (r':=.ob (.val v) (ZA 3 1 Zo l)) (fun _ _ _ _ h=>h)
 have hg:Zbu l=Zp (l.mergeSort leI):=by rw [ZcW,Zdk]
 refine Ya (rZ G (qC qZ) Z [2,0] [1,0] fun G=>Ya ?_)
 refine rZ G (qR rr (qf (Za3 1 (Zio v l ow) func92 rfl kr (Args.one .t)) r1 r1 qZ)) Z [2,0] [1,0] fun G=>Ya ?_
 refine Zb G (qR rr (qf (o_callRowN 1 (Zi2 v _ (by rw [Ybd];omega)) func179 rfl kr (Args.one .t) pvOne1) r1 r1 (qO rr qZ))) Z [2] [1,0] (fun _=>rfl) (fun _=>rfl) fun τ a w F G=>?_
 try dsimp only [RS.sub,SF.sub,CF.sub,csub,Anc.sub,List.map,Zaj,Zal,Zo,ZaB] at G
 generalize τ 6=v6 at G
 refine Za (Yh ?_)
 have G:=G.turn 1 rfl (r':=RS.hp (ZA 3 1 Zo (Zbu l) v6)) (fun _ _ _ _ h=>by rw [hg];exact h)
 refine Z9 (h':=fun v=>ZA 3 1 Zo (Zbu l) v) hG G rfl (.tmp rfl .nil) (.one .one) rfl
theorem Zho {A:Zu→Prop} {i:Int} {prev:Int→List Int} (hp:∀ x u,u ∈ prev x ↔ ∃ y,A y∧y.dst=x∧y.src=u) {k:Nat} {u:Int} : Zex prev i i k u ↔ i≤u ∧ ∃ w,ZdL A i u w i∧w.length=k:=by
 constructor
 ·intro h
  induction h with
  | zero=>exact ⟨Yaj _,[],rfl,rfl⟩
  | step h1 hl _ ih=>
   obtain ⟨i1,w,i2,i3⟩:=ih
   obtain ⟨y,y1,y2,y3⟩:=(hp _ _).1 h1
   subst y2
   exact ⟨hl,y :: w,⟨y1,y3,i1,i2⟩,by rw [Yl,i3]⟩
 ·rintro ⟨hu,w,hw,rfl⟩
  induction w generalizing u with
  | nil=>
   have e:u=i:=hw
   subst e;exact .zero
  | cons y w ih=>exact .step ((hp _ _).2 ⟨y,hw.1,rfl,hw.2.1⟩) hu (ih hw.2.2.1 hw.2.2.2)
theorem ZkM {A:Zu→Prop} {m:Zu→Bool} {i:Int} {p q:Int→List Int} (hp:∀ x u,u ∈ p x ↔ ∃ y,A y∧m y=false∧y.dst=x∧y.src=u) (hq:∀ x u,u ∈ q x ↔ ∃ y,A y∧m y=true∧y.dst=x∧y.src=u) {k:Nat} {s:Int} :
  Zex (Zdi p q) (2*i) (2*i) k s ↔ i≤s / 2 ∧ ∃ w,ZdL A i (s / 2) w i∧w.length=k∧(s % 2=1 ↔ w.any m=true):=by
 constructor
 ·intro h
  induction h with
  | zero=>exact ⟨by omega,[],by show 2*i / 2=i;omega,rfl,by simp⟩
  | @step k s x h1 hl _ ih=>
   obtain ⟨i1,w,i2,i3,i4⟩:=ih
   rcases YA.1 h1 with h1 | h1
   ·obtain ⟨u,h2,h3⟩:=Yv.1 h1
    obtain ⟨y,y1,y2,y3,y4⟩:=(hp _ _).1 h2
    have e1:s / 2=u:=by omega
    have e2:s % 2=x % 2:=by omega
    subst y4
    refine ⟨by omega,y :: w,⟨y1,e1.symm,by rw [y3];exact i1,by rw [y3];exact i2⟩,by rw [Yl,i3],?_⟩
    rw [e2,i4,YbN,y2,Bool.false_or]
   ·obtain ⟨u,h2,h3⟩:=Yv.1 h1
    obtain ⟨y,y1,y2,y3,y4⟩:=(hq _ _).1 h2
    have e1:s / 2=u:=by omega
    subst y4
    refine ⟨by omega,y :: w,⟨y1,e1.symm,by rw [y3];exact i1,by rw [y3];exact i2⟩,by rw [Yl,i3],?_⟩
    rw [YbN,y2,YbT]
    exact ⟨fun _=>rfl,fun _=>by omega⟩
 ·rintro ⟨hu,w,hw,rfl,hm⟩
  induction w generalizing s with
  | nil=>
   have e:s / 2=i:=hw
   have e2:¬ s % 2=1:=fun h=>by have:=hm.1 h;simp at this
   have:s=2*i:=by omega
   rw [this];exact .zero
  | cons y w ih=>
   obtain ⟨a1,a2,a3,a4⟩:=hw
   rw [YbN] at hm
   cases hy:m y
   ·rw [hy,Bool.false_or] at hm
    refine .step (x:=2*y.dst+s % 2) (Yae _ (Yv.2 ⟨s / 2,(hp _ _).2 ⟨y,a1,hy,by omega,a2⟩,by omega⟩)) ow (ih ow ?_ ?_)
    ·rw [show (2*y.dst+s % 2) / 2=y.dst by omega];exact a4
    ·rw [show (2*y.dst+s % 2) % 2=s % 2 by omega];exact hm
   ·rw [hy,YbT] at hm
    have hs:s % 2=1:=hm.2 rfl
    cases hw2:w.any m
    ·refine .step (x:=2*y.dst) (YU _ (Yv.2 ⟨s / 2,(hq _ _).2 ⟨y,a1,hy,by omega,a2⟩,by omega⟩)) ow (ih ow ?_ ?_)
     ·rw [show (2*y.dst) / 2=y.dst by omega];exact a4
     ·rw [show (2*y.dst) % 2=0 by omega,hw2];simp
    ·refine .step (x:=2*y.dst+1) (YU _ (Yv.2 ⟨s / 2,(hq _ _).2 ⟨y,a1,hy,by omega,a2⟩,by omega⟩)) ow (ih ow ?_ ?_)
     ·rw [show (2*y.dst+1) / 2=y.dst by omega];exact a4
     ·rw [show (2*y.dst+1) % 2=1 by omega,hw2];simp
theorem ZnW {n:Nat} {d:List Int} {u:Int} (h:0≤u∧u<n):fI (ZaA n d) u=fI d (2*u+1):=by
 rw [Zct h.1,Zct ow]
 unfold ZaA
 rw [nth_eq (by simp;omega)]
 simp only [YbF,List.getElem_range]
 congr 1;omega
theorem Zlh {n:Nat} {A:Zu→Prop} {m:Zu→Bool} {i:Int} {prev p q:Int→List Int} {d e:List Int} (hA:∀ x,A x→0≤x.dst∧x.dst<n) (hr:∀ x u,u ∈ prev x ↔ ∃ y,A y∧y.dst=x∧y.src=u)
  (hp:∀ x u,u ∈ p x ↔ ∃ y,A y∧m y=false∧y.dst=x∧y.src=u) (hq:∀ x u,u ∈ q x ↔ ∃ y,A y∧m y=true∧y.dst=x∧y.src=u)
  (hd:Zc5 n prev i i d) (he:Zc5 (2*n) (Zdi p q) (2*i) (2*i) e):Zb8 A m i d (ZaA n e):=by
 have at_:∀ {k:Nat} {D:List Int} {P:Int→List Int} {l t:Int} {u:Int},Zc5 k P l t D→0≤u→u<k→(fI D u = -1 ∧ ∀ j,¬ Zex P l t j u) ∨ ∃ j:Nat,fI D u=j∧Zex P l t j u ∧ ∀ j',Zex P l t j' u→j≤j':=fun {k D P l t u} h h1 h2=>by
  have:=h.2 u.toNat ow
  rw [Ya4 h1] at this
  rwa [Zct h1]
 refine ⟨fun x hx hi=>?_,fun x hx hi=>?_,fun x hx hi=>?_⟩
 ·obtain ⟨h1,h2⟩:=hA x hx
  rcases at_ hd h1 h2 with ⟨k1,k2⟩ | ⟨j,k1,k2,k3⟩
  ·exact .inl ⟨k1,fun w hw _=>k2 w.length ((Zho hr).2 ⟨hi,w,hw,rfl⟩)⟩
  ·obtain ⟨_,w,w1,w2⟩:=(Zho hr).1 k2
   exact .inr ⟨w,w1,fun h=>by simp at h,by rw [w2,k1],fun w' hw' _=>by rw [w2];exact k3 _ ((Zho hr).2 ⟨hi,w',hw',rfl⟩)⟩
 ·obtain ⟨h1,h2⟩:=hA x hx
  rw [ZnW ⟨h1,h2⟩]
  have e1:(2*x.dst+1) / 2=x.dst:=by omega
  have e2:(2*x.dst+1) % 2=1:=by omega
  have key:∀ k,Zex (Zdi p q) (2*i) (2*i) k (2*x.dst+1) ↔ ∃ w,ZdL A i x.dst w i∧w.length=k∧ZcS m true w:=fun k=>by
   rw [ZkM hp hq,e1,e2]
   constructor
   ·rintro ⟨_,w,w1,w2,w3⟩
    refine ⟨w,w1,w2,fun _=>?_⟩
    have:=w3.1 rfl
    rw [YaJ] at this
    exact this
   ·rintro ⟨w,w1,w2,w3⟩
    exact ⟨hi,w,w1,w2,fun _=>by rw [YaJ];exact w3 rfl,fun _=>rfl⟩
  rcases at_ he (u:=2*x.dst+1) ow ow with ⟨k1,k2⟩ | ⟨j,k1,k2,k3⟩
  ·exact .inl ⟨k1,fun w hw hm=>k2 w.length ((key _).2 ⟨w,hw,rfl,hm⟩)⟩
  ·obtain ⟨w,w1,w2,w3⟩:=(key _).1 k2
   exact .inr ⟨w,w1,w3,by rw [w2,k1],fun w' hw' hm'=>by rw [w2];exact k3 _ ((key _).2 ⟨w',hw',rfl,hm'⟩)⟩
 ·obtain ⟨h1,h2⟩:=hA x hx
  rw [ZnW ⟨h1,h2⟩]
  refine ⟨?_,?_⟩
  ·rcases at_ hd h1 h2 with ⟨k1,_⟩ | ⟨j,_,k2,_⟩
   ·exact k1
   ·have:=((Zho hr).1 k2).1;omega
  ·rcases at_ he (u:=2*x.dst+1) ow ow with ⟨k1,_⟩ | ⟨j,_,k2,_⟩
   ·exact k1
   ·have:=((ZkM hp hq).1 k2).1;omega
theorem Zdd.nil (A:Zu→Prop) (m:Zu→Bool) (κ:Zu→Int) (need:Bool) (h:∀ j w,CwA A m need j w→0≤j):Zdd A m κ need 0 []:=⟨fun _ j w hj hw=>by have:=h j w hw;omega,fun h=>absurd rfl h⟩
theorem Zdd.keep {A:Zu→Prop} {m:Zu→Bool} {κ:Zu→Int} {need:Bool} {i:Int} {way:List Zu} (h:Zdd A m κ need i way) (hk:way = [] → ∀ w,¬ CwA A m need i w) (hk2:way≠[] → ∀ w,CwA A m need i w→way.length≤w.length):Zdd A m κ need (i+1) way:=by
 refine ⟨fun e j w hj hw=>?_,fun e=>?_⟩
 ·by_cases hji:j=i
  ·subst hji;exact hk e w hw
  ·exact h.1 e j w ow hw
 ·obtain ⟨j,j1,j2,j3⟩:=h.2 e
  refine ⟨j,by omega,j2,fun j' w hj' hw=>?_⟩
  by_cases hji:j' = i
  ·subst hji
   have:=hk2 e w hw
   by_cases hl:way.length=w.length
   ·exact .inr ⟨hl,.inl j1⟩
   ·exact .inl ow
  ·exact j3 j' w ow hw
theorem Zdd.turn {A:Zu→Prop} {m:Zu→Bool} {κ:Zu→Int} {need:Bool} {i:Int} {way new:List Zu} (h:Zdd A m κ need i way) (hn:CwA A m need i new) (hmin:∀ w,CwA A m need i w→new.length≤w.length) (hf:∀ w,CwA A m need i w→w.length=new.length→w=new∨LtA κ new w) (hl:way≠[]→new.length<way.length):Zdd A m κ need (i+1) new:=by
 refine ⟨fun e=>absurd e hn.1,fun _=>⟨i,by omega,hn,fun j' w hj' hw=>?_⟩⟩
 by_cases hji:j' = i
 ·subst hji
  have:=hmin w hw
  by_cases e:new.length=w.length
  ·exact .inr ⟨e,.inr ⟨rfl,hf w hw e.symm⟩⟩
  ·exact .inl ow
 ·by_cases e:way = []
  ·exact absurd hw (h.1 e j' w ow)
  ·obtain ⟨j,j1,j2,j3⟩:=h.2 e
   have:=hl e
   rcases j3 j' w ow hw with k | ⟨k,_⟩
   ·exact .inl ow
   ·exact .inl ow
def Zbl (B:Ze→Prop):Int→List Ze→Int→Prop
 | a,[],b=>a=b
 | a,e :: w,b=>B e∧e.src=a∧Zbl B e.dst w b
def CwE (B:Ze→Prop) (m:Ze→Bool) (need:Bool) (i:Int) (w:List Ze):Prop:=w≠[]∧Zbl B i w i∧(∀ e ∈ w,i≤e.dst)∧(need=true → ∃ e ∈ w,m e=true)
def ltK (x y:Ze):Prop:=x.kind<y.kind∨x.kind=y.kind∧(x.key<y.key∨x.key=y.key∧x.dst<y.dst)
def LtE:List Ze→List Ze→Prop
 | x :: w,y :: v=>ltK x y∨(x=y∧LtE w v)
 | _,_=>False
def Za9 (B:Ze→Prop) (m:Ze→Bool) (need:Bool) (w:List Ze):Prop:=∃ j,CwE B m need j w ∧ ∀ j' w',CwE B m need j' w' → w.length<w'.length∨(w.length=w'.length∧(j<j' ∨ (j=j' ∧ (w' = w∨LtE w w'))))
theorem Zms {x:Ze} : ¬ ltK x x:=by unfold ltK;omega
theorem Zpb {x y:Ze} (h:ltK x y):¬ ltK y x:=by unfold ltK at *;omega
theorem LtE.asym:∀ {w v:List Ze},LtE w v→¬ LtE v w
 | x :: w,y :: v,h,k=>by
  rcases h with h | ⟨rfl,h⟩ <;> rcases k with k | ⟨k1,k⟩
  ·exact Zpb h k
  ·exact Zms (k1 ▸ h)
  ·exact Zms k
  ·exact LtE.asym h k
 | [],_,h,_=>h.elim
 | _ :: _,[],h,_=>h.elim
theorem Za9.one {B:Ze→Prop} {m:Ze→Bool} {need:Bool} {w v:List Ze} (h:Za9 B m need w) (k:Za9 B m need v):w=v:=by
 obtain ⟨i,h1,h2⟩:=h
 obtain ⟨j,k1,k2⟩:=k
 have a:=h2 j v k1
 have b:=k2 i w h1
 rcases a with a | ⟨a1,a2⟩
 ·rcases b with b | ⟨b1,_⟩ <;> omega
 ·rcases b with b | ⟨b1,b2⟩
  ·omega
  ·rcases a2 with a2 | ⟨a2,a3⟩
   ·rcases b2 with b2 | ⟨b2,_⟩ <;> omega
   ·rcases a3 with a3 | a3
    ·exact a3.symm
    ·rcases b2 with b2 | ⟨_,b3⟩
     ·omega
     ·rcases b3 with b3 | b3
      ·exact b3
      ·exact absurd b3 a3.asym
section
variable {B:Ze→Prop} {m:Ze→Bool} {need:Bool}
theorem ZdJ {a b:Int} {w v:List Ze} : Zbl B a (w++v) b ↔ ∃ c,Zbl B a w c∧Zbl B c v b:=by
 induction w generalizing a with
 | nil=>exact ⟨fun h=>⟨a,rfl,h⟩,fun ⟨c,h,k⟩=>by subst h;exact k⟩
 | cons y w ih=>
  rw [Yal]
  show (B y∧y.src=a∧Zbl B y.dst (w++v) b) ↔ _
  rw [ih]
  constructor
  ·rintro ⟨h1,h2,c,h4,h5⟩;exact ⟨c,⟨h1,h2,h4⟩,h5⟩
  ·rintro ⟨c,⟨h1,h2,h4⟩,h5⟩;exact ⟨h1,h2,c,h4,h5⟩
theorem ZeK {a b:Int} : ∀ {w:List Ze},Zbl B a w b → ∀ e ∈ w,B e
 | e :: w,h,x,hx=>by
  rcases Yk.1 hx with rfl | hx
  ·exact h.1
  ·exact ZeK h.2.2 x hx
theorem Ziz {B':Ze→Prop} {a b:Int} : ∀ {w:List Ze},(∀ e ∈ w,B e→B' e)→Zbl B a w b→Zbl B' a w b
 | [],_,h=>h
 | e :: w,hs,h=>⟨hs e (by simp) h.1,h.2.1,Ziz (fun x hx=>hs x (by simp [hx])) h.2.2⟩
theorem ZnV {a:Int} {u v:List Ze} (h:Zbl B a (u++v) a):∃ c,Zbl B c (v++u) c:=by
 obtain ⟨c,h1,h2⟩:=ZdJ.1 h
 exact ⟨c,ZdJ.2 ⟨a,h2,h1⟩⟩
theorem Zd2 {a b:Int} {e:Ze} {w:List Ze} (h:Zbl B a (e :: w) b):e.src=a:=h.2.1
theorem ZiL:∀ {w:List Ze},w≠[] → ∃ u e v,w=u++e :: v ∧ ∀ x ∈ w,e.src≤x.src
 | [],h=>absurd rfl h
 | [e],_=>⟨[],e,[],rfl,by simp⟩
 | e :: f :: w,_=>by
  obtain ⟨u,g,v,h1,h2⟩:=ZiL (w:=f :: w) (by simp)
  by_cases h:e.src≤g.src
  ·refine ⟨[],e,f :: w,rfl,fun x hx=>?_⟩
   rcases Yk.1 hx with rfl | hx
   ·exact Yaj _
   ·exact YbS h (h2 x hx)
  ·refine ⟨e :: u,g,v,by rw [h1];rfl,fun x hx=>?_⟩
   rcases Yk.1 hx with rfl | hx
   ·omega
   ·exact h2 x hx
theorem ZtE {a:Int} {w:List Ze} (hn:w≠[]) (h:Zbl B a w a) (hm:need=true → ∃ e ∈ w,m e=true):∃ i v,CwE B m need i v∧v.length=w.length ∧ ∀ e,e ∈ v ↔ e ∈ w:=by
 obtain ⟨u,e,v,h1,h2⟩:=ZiL hn
 subst h1
 obtain ⟨c,hc⟩:=ZnV h
 have hce:e.src=c:=Zd2 hc
 have hmem:∀ x,x ∈ (e :: v)++u ↔ x ∈ u++e :: v:=fun x=>by simp;exact ⟨fun k=>by rcases k with k | k | k <;> simp [k],fun k=>by rcases k with k | k | k <;> simp [k]⟩
 refine ⟨c,(e :: v)++u,⟨by simp,hc,fun x hx=>?_,fun hd=>?_⟩,by simp;omega,hmem⟩
 ·have hrev:∀ y ∈ (e :: v)++u,c≤y.src:=fun y hy=>hce ▸ h2 y ((hmem y).1 hy)
  have nxt:∀ {a b:Int} {w:List Ze},Zbl B a w b → ∀ y ∈ w,y.dst=b ∨ ∃ z ∈ w,z.src=y.dst:=by
   intro a b w
   induction w generalizing a with
   | nil=>intro _ y hy;cases hy
   | cons z w ih=>
    intro k y hy
    rcases Yk.1 hy with rfl | hy
    ·cases w with
     | nil=>exact .inl k.2.2
     | cons z w=>exact .inr ⟨z,by simp,k.2.2.2.1⟩
    ·rcases ih k.2.2 y hy with q | ⟨z2,q1,q2⟩
     ·exact .inl q
     ·exact .inr ⟨z2,by simp [q1],q2⟩
  rcases nxt hc x hx with k | ⟨z,k1,k2⟩
  ·omega
  ·have:=hrev z k1;omega
 ·obtain ⟨x,k1,k2⟩:=hm hd
  exact ⟨x,(hmem x).2 k1,k2⟩
end
structure Zcv (B:Ze→Prop) (r s:Int→Int) (f:Zu→Ze):Prop where
 ids:∀ a b,(∃ e,B e∧(e.src=a∨e.dst=a))→(∃ e,B e∧(e.src=b∨e.dst=b))→(a<b ↔ r a<r b)
 keys:∀ a b,(∃ e,B e∧e.key=a)→(∃ e,B e∧e.key=b)→(a<b ↔ s a<s b)
 idr:∀ a,(∃ e,B e∧(e.src=a∨e.dst=a))→0≤r a∧r a<4096
 keyr:∀ a,(∃ e,B e∧e.key=a)→0≤s a∧s a<1048576
 inv:∀ e,B e→f ⟨r e.src,r e.dst,e.kind,s e.key⟩ = e
def ZbO (r s:Int→Int) (e:Ze):Zu:=⟨r e.src,r e.dst,e.kind,s e.key⟩
section
variable {B:Ze→Prop} {mA:Zu→Bool} {need:Bool} {r s:Int→Int} {f:Zu→Ze}
theorem Zcv.inj (h:Zcv B r s f) {a b:Int} (ha:∃ e,B e∧(e.src=a∨e.dst=a)) (hb:∃ e,B e∧(e.src=b∨e.dst=b)) (e:r a=r b):a=b:=by
 have h1:=h.ids a b ha hb
 have h2:=h.ids b a hb ha
 omega
theorem Zcv.le (h:Zcv B r s f) {a b:Int} (ha:∃ e,B e∧(e.src=a∨e.dst=a)) (hb:∃ e,B e∧(e.src=b∨e.dst=b)):a≤b ↔ r a≤r b:=by
 have h2:=h.ids b a hb ha
 omega
theorem Zcv.lt (h:Zcv B r s f) {x y:Ze} (hx:B x) (hy:B y):ltK x y ↔ ZlV (ZbO r s x)<ZlV (ZbO r s y):=by
 obtain ⟨a1,a2⟩:=h.idr x.dst ⟨x,hx,.inr rfl⟩
 obtain ⟨b1,b2⟩:=h.idr y.dst ⟨y,hy,.inr rfl⟩
 obtain ⟨c1,c2⟩:=h.keyr x.key ⟨x,hx,rfl⟩
 obtain ⟨d1,d2⟩:=h.keyr y.key ⟨y,hy,rfl⟩
 have e1:=h.ids x.dst y.dst ⟨x,hx,.inr rfl⟩ ⟨y,hy,.inr rfl⟩
 have e2:=h.keys x.key y.key ⟨x,hx,rfl⟩ ⟨y,hy,rfl⟩
 have e3:=h.keys y.key x.key ⟨y,hy,rfl⟩ ⟨x,hx,rfl⟩
 unfold ltK ZlV ZbO
 dsimp only
 by_cases hk:x.key=y.key
 ·rw [hk] at *
  omega
 ·omega
theorem Zcv.out (h:Zcv B r s f) {i:Int} (hi:∃ e,B e∧(e.src=i∨e.dst=i)) {w:List Ze} {a b:Int} (hp:Zbl B a w b) (hl:∀ e ∈ w,i≤e.dst):ZdL (fun x=>∃ e,B e∧ZbO r s e=x) (r i) (r a) (w.map (ZbO r s)) (r b):=by
 induction w generalizing a with
 | nil=>
  have e:a=b:=hp
  subst e;rfl
 | cons e w ih=>
  exact ⟨⟨e,hp.1,rfl⟩,by rw [← hp.2.1];rfl,(h.le hi ⟨e,hp.1,.inr rfl⟩).1 (hl e (by simp)),ih hp.2.2 fun x hx=>hl x (by simp [hx])⟩
theorem Zcv.back (h:Zcv B r s f) {i b:Int} (hi:∃ e,B e∧(e.src=i∨e.dst=i)) (hb:∃ e,B e∧(e.src=b∨e.dst=b)) {v:List Zu} {a:Int} (ha:∃ e,B e∧(e.src=a∨e.dst=a)) (hw:ZdL (fun x=>∃ e,B e∧ZbO r s e=x) (r i) (r a) v (r b)):∃ w,v=w.map (ZbO r s)∧Zbl B a w b ∧ ∀ e ∈ w,i≤e.dst:=by
 induction v generalizing a with
 | nil=>exact ⟨[],rfl,h.inj ha hb hw,by simp⟩
 | cons x v ih=>
  obtain ⟨⟨e,e1,rfl⟩,h2,h3,h4⟩:=hw
  obtain ⟨w,w1,w2,w3⟩:=ih ⟨e,e1,.inr rfl⟩ h4
  refine ⟨e :: w,by rw [w1];rfl,⟨e1,h.inj ⟨e,e1,.inl rfl⟩ ha h2,w2⟩,fun y hy=>?_⟩
  rcases Yk.1 hy with rfl | hy
  ·exact (h.le hi ⟨y,e1,.inr rfl⟩).2 h3
  ·exact w3 y hy
theorem Zcv.lts (h:Zcv B r s f):∀ {w v:List Ze},(∀ e ∈ w,B e)→(∀ e ∈ v,B e)→LtA ZlV (w.map (ZbO r s)) (v.map (ZbO r s))→LtE w v
 | x :: w,y :: v,hw,hv,k=>by
  rcases k with k | ⟨k1,k2⟩
  ·exact .inl ((h.lt (hw x (by simp)) (hv y (by simp))).2 k)
  ·refine .inr ⟨?_,h.lts (fun e he=>hw e (by simp [he])) (fun e he=>hv e (by simp [he])) k2⟩
   rw [← h.inv x (hw x (by simp)),← h.inv y (hv y (by simp))]
   exact Y1 f k1
 | [],_,_,_,k=>k.elim
 | _ :: _,[],_,_,k=>k.elim
theorem Zcv.map_inv (h:Zcv B r s f) {w:List Ze} (hw:∀ e ∈ w,B e):(w.map (ZbO r s)).map f=w:=by
 rw [Ybc]
 conv=>rhs;rw [← List.map_id w]
 exact List.map_congr_left fun e he=>h.inv e (hw e he)
theorem Zcv.first (h:Zcv B r s f) {n:Int} (hn:∀ a,(∃ e,B e∧(e.src=a∨e.dst=a))→r a<n) {way:List Zu} (hb:Zdd (fun x=>∃ e,B e∧ZbO r s e=x) mA ZlV need n way) :
  (way = [] → ∀ j w,¬ CwE B (fun e=>mA (ZbO r s e)) need j w)∧(way≠[]→Za9 B (fun e=>mA (ZbO r s e)) need (way.map f)):=by
 have src_in:∀ {j:Int} {w:List Ze},w≠[]→Zbl B j w j → ∃ e,B e∧(e.src=j∨e.dst=j):=fun {j w} hne hp=>by
  cases w with
  | nil=>exact absurd rfl hne
  | cons e w=>exact ⟨e,hp.1,.inl hp.2.1⟩
 have to:∀ {j:Int} {w:List Ze},CwE B (fun e=>mA (ZbO r s e)) need j w→CwA (fun x=>∃ e,B e∧ZbO r s e=x) mA need (r j) (w.map (ZbO r s)):=fun {j w} ⟨c1,c2,c3,c4⟩=>by
  refine ⟨by simpa using c1,h.out (src_in c1 c2) c2 c3,fun hd=>?_⟩
  obtain ⟨e,e1,e2⟩:=c4 hd
  exact ⟨_,Yv.2 ⟨e,e1,rfl⟩,e2⟩
 constructor
 ·intro hw j w hc
  exact hb.1 hw (r j) _ (hn j (src_in hc.1 hc.2.1)) (to hc)
 ·intro hw
  obtain ⟨j,j1,⟨c1,c2,c3⟩,j3⟩:=hb.2 hw
  obtain ⟨i,hi,rfl⟩:∃ i,(∃ e,B e∧(e.src=i∨e.dst=i))∧r i=j:=by
   cases way with
   | nil=>exact absurd rfl hw
   | cons x v=>
    obtain ⟨⟨e,e1,rfl⟩,h2,_⟩:=c2
    exact ⟨e.src,⟨e,e1,.inl rfl⟩,h2⟩
  obtain ⟨w,rfl,w2,w3⟩:=h.back hi hi hi c2
  have Z:=ZeK w2
  rw [h.map_inv Z]
  refine ⟨i,⟨by simpa using c1,w2,w3,fun hd=>?_⟩,fun j' v hv=>?_⟩
  ·obtain ⟨x,x1,x2⟩:=c3 hd
   obtain ⟨e,e1,rfl⟩:=Yv.1 x1
   exact ⟨e,e1,x2⟩
  ·have hvi:=src_in hv.1 hv.2.1
   have k:=j3 (r j') _ (hn j' hvi) (to hv)
   rw [YF,YF] at k
   rcases k with k | ⟨k1,k2⟩
   ·exact .inl k
   ·refine .inr ⟨k1,?_⟩
    rcases k2 with k2 | ⟨k2,k3⟩
    ·exact .inl ((h.ids i j' hi hvi).2 k2)
    ·refine .inr ⟨h.inj hi hvi k2,?_⟩
     have hB2:=ZeK hv.2.1
     rcases k3 with k3 | k3
     ·left
      rw [← h.map_inv hB2,← h.map_inv Z,k3]
     ·exact .inr (h.lts Z hB2 k3)
end
theorem Zcj {l:List Int} (h:Zdp l):Zgn (fun x:Int=>x) l:=Zac.2 h
theorem ZrQ {l:List Int} (h:Zdp l) {i:Nat} (hi:i<l.length):lowK (fun x:Int=>x) (Nn l i) l=i:=
 ZfF (κ:=fun x:Int=>x) (Nat.le_of_lt hi) (fun q hq=>Zcj h q i hq hi) (fun q h1 h2=>Zdg (κ:=fun x:Int=>x) (Zcj h) h1 h2)
theorem Zaw {l:List Int} (h:Zdp l) {a:Int} (ha:a ∈ l):lowK (fun x:Int=>x) a l<l.length∧Nn l (lowK (fun x:Int=>x) a l)=a:=by
 obtain ⟨i,hi,rfl⟩:=YaR.1 ha
 rw [← nth_eq hi,ZrQ h hi]
 exact ⟨hi,rfl⟩
theorem Znc {l:List Int} (h:Zdp l) {a b:Int} (ha:a ∈ l) (hb:b ∈ l):a<b ↔ lowK (fun x:Int=>x) a l<lowK (fun x:Int=>x) b l:=by
 obtain ⟨a1,a2⟩:=Zaw h ha
 obtain ⟨b1,b2⟩:=Zaw h hb
 constructor
 ·intro hab
  by_cases k:lowK (fun x:Int=>x) a l<lowK (fun x:Int=>x) b l
  ·exact k
  ·have k2:Nn l (lowK (fun x:Int=>x) b l)≤Nn l (lowK (fun x:Int=>x) a l):=Zdg (κ:=fun x:Int=>x) (Zcj h) (Nat.not_lt.1 k) a1
   omega
 ·intro k
  have k2:Nn l (lowK (fun x:Int=>x) a l)<Nn l (lowK (fun x:Int=>x) b l):=Zcj h _ _ k b1
  omega
def ZJ (l:List Ze):List Int:=Zbu (l.flatMap fun e=>[e.src,e.dst])
def ZZ (l:List Ze):List Int:=Zbu (l.map Ze.key)
def rkI (l:List Int) (a:Int):Int:=(lowK (fun x:Int=>x) a l:Nat)
def Zcy (ids keys:List Int):Ze→Zu:=ZbO (rkI ids) (rkI keys)
def ZhV (ids keys:List Int) (x:Zu):Ze:=⟨Nn ids x.src.toNat,Nn ids x.dst.toNat,x.kind,Nn keys x.label.toNat⟩
theorem Zah {l:List Ze} {a:Int} : a ∈ ZJ l ↔ ∃ e,e ∈ l∧(e.src=a∨e.dst=a):=by
 unfold ZJ
 rw [(ZP _).2,Yau]
 constructor
 ·rintro ⟨e,he,h⟩
  rcases Yk.1 h with h | h
  ·exact ⟨e,he,.inl h.symm⟩
  ·exact ⟨e,he,.inr (Yi.1 h).symm⟩
 ·rintro ⟨e,he,h | h⟩
  ·exact ⟨e,he,by simp [h]⟩
  ·exact ⟨e,he,by simp [h]⟩
theorem ZbT {l:List Ze} {a:Int} : a ∈ ZZ l ↔ ∃ e,e ∈ l∧e.key=a:=by
 unfold ZZ
 rw [(ZP _).2,Yv]
theorem Zla {l:List Ze} (h1:(ZJ l).length≤4096) (h2:(ZZ l).length≤1048575):Zcv (· ∈ l) (rkI (ZJ l)) (rkI (ZZ l)) (ZhV (ZJ l) (ZZ l)):=by
 have i1:Zdp (ZJ l):=(ZP _).1
 have i2:Zdp (ZZ l):=(ZP _).1
 refine ⟨fun a b ha hb=>?_,fun a b ha hb=>?_,fun a ha=>?_,fun a ha=>?_,fun e he=>?_⟩
 ·have:=Znc i1 (Zah.2 ha) (Zah.2 hb)
  unfold rkI;omega
 ·have:=Znc i2 (ZbT.2 ha) (ZbT.2 hb)
  unfold rkI;omega
 ·have:=(Zaw i1 (Zah.2 ha)).1
  unfold rkI;omega
 ·have:=(Zaw i2 (ZbT.2 ha)).1
  unfold rkI;omega
 ·have a1:=(Zaw i1 (Zah.2 ⟨e,he,.inl rfl⟩)).2
  have a2:=(Zaw i1 (Zah.2 ⟨e,he,.inr rfl⟩)).2
  have a3:=(Zaw i2 (ZbT.2 ⟨e,he,rfl⟩)).2
  unfold ZhV rkI
  dsimp only
  rw [Yc,Yc,Yc,a1,a2,a3]
def ZM (n:Nat) (xs:List Zu):List (List Z4)×List (List Z4)×Nat:=xs.foldl (fun q x=>((Zd9 q.1 q.2.1 q.2.2 x).1,(Zd9 q.1 q.2.1 q.2.2 x).2.1,(Zd9 q.1 q.2.1 q.2.2 x).2.2.1)) (List.replicate n [],List.replicate n [],0)
theorem ZfK {n:Nat} {xs:List Zu} {x:Zu} : ZM n (xs ++ [x])=((Zd9 (ZM n xs).1 (ZM n xs).2.1 (ZM n xs).2.2 x).1,(Zd9 (ZM n xs).1 (ZM n xs).2.1 (ZM n xs).2.2 x).2.1,(Zd9 (ZM n xs).1 (ZM n xs).2.1 (ZM n xs).2.2 x).2.2.1):=by
 unfold ZM
 rw [Ybk];rfl
theorem Zig {n:Nat} (hn:n≤4096) (xs:List Zu):Zcz n (xs.foldl (Zlz n) []) (ZM n xs).1 (ZM n xs).2.1∧(ZM n xs).2.2≤xs.length:=by
 suffices ∀ r:List Zu,Zcz n (r.reverse.foldl (Zlz n) []) (ZM n r.reverse).1 (ZM n r.reverse).2.1∧(ZM n r.reverse).2.2≤r.length by have:=this xs.reverse;rwa [List.reverse_reverse,List.length_reverse] at this
 intro r
 induction r with
 | nil=>exact ⟨Zcz.new n,YL _⟩
 | cons x r ih=>
  obtain ⟨i1,i2⟩:=ih
  have k:=i1.step hn x (ZM n r.reverse).2.2
  rw [List.reverse_cons,ZfK,Ybk,Yl]
  exact ⟨k.1,Y6 k.2 ow⟩
theorem Zol {l:List Ze} (i:Nat) (h:i≤l.length):((l.take i).flatMap fun e=>[e.src,e.dst]).length=2*i:=by
 induction i with
 | zero=>rfl
 | succ i ih=>rw [Zt ow,YS,Yd,ih ow];show 2*i+2=_;omega
theorem Zrq (l:List Ze) (hl:l.length≤100000):FnP prog 126 [.sl Zn l] (.agg [.sl Zo (ZJ l),.sl Zo (ZZ l)]):=by
 refine FnP.mk func126 rfl ntmps126 rfl fun B a w F Z hfr G=>Ya ?_
 refine Zb G (qf (oH [.slice none 0 0,.slice none 0 0] 101) trivial qz qZ) Z [2,0] [101,0] (fun _=>rfl) (fun _=>rfl) fun τ a w F G=>?_
 try dsimp only [RS.sub,SF.sub,CF.sub,csub,Anc.sub,List.map,zCF,Zo,Zn] at G
 generalize τ 2=v2 at G
 refine Za (Ya (Zb G (qf (oH [.slice none 0 0,.slice none 0 0] 102) trivial qz qZ) Z [3,2,0] [102,101,0] (fun _=>rfl) (fun _=>rfl) fun τ a w F G=>?_))
 try dsimp only [RS.sub,SF.sub,CF.sub,csub,Anc.sub,List.map,zCF,Zo,Zn] at G
 generalize τ 3=v3 at G
 refine Za (Ya (Ya (rZ G (qR rr (qu Yb0 r1 (qJ qZ))) Z [8,7,6,3,2] [102,101,0] fun G=>Yg ?_)))
 replace G:=G.fresh 50 rfl
 replace G:=G.turn 50 rfl (ZaP (T:=3) (sz:=1) (R:=Zo))
 replace G:=G.fresh 51 rfl
 replace G:=G.turn 51 rfl (ZaP (T:=3) (sz:=1) (R:=Zo))
 refine Zl (σ:=(Nat)×(Value)×(List Int)×(Value)×(List Int)) [2,3,6,7] [0,101] (fun s=>[(8,.pv (.int .i64 (s.1:Int)))]) (fun s=>[(102,.pt (.val v3) 180 [.pv (.is s.2.1),.pv (.is s.2.2.2.1)]),(50,.ob (.val s.2.1) (ZA 3 1 Zo s.2.2.1)),(51,.ob (.val s.2.2.2.1) (ZA 3 1 Zo s.2.2.2.2))]) (fun s=>s.1≤l.length∧(s.2.2.1=((l.take s.1).flatMap fun e=>[e.src,e.dst])∧s.2.2.2.2=(l.take s.1).map Ze.key)) (fun s=>l.length - s.1) ((0),(.slice none 0 0),([]),(.slice none 0 0),([])) G ⟨rfl,rfl,rfl,rfl,rfl,tv⟩ ⟨rfl,rfl,rfl,rfl,rfl,tv⟩ ⟨Yw _,⟨rfl,rfl⟩⟩ ?_
 clear G;intro s a w F hC G
 obtain ⟨i,va,xa,vb,xb⟩:=s
 try dsimp only at hC
 obtain ⟨F,G⟩:=G.nM [8,7,6,3,2] [102,101,51,50,0]
 try dsimp only at G
 obtain ⟨hi,hq⟩:=hC
 obtain ⟨hq1,hq2⟩:=hq
 have hl1:xa.length=2*i:=by rw [hq1];exact Zol _ ow
 have hl2:xb.length=i:=by rw [hq2,YF,Yj];omega
 refine Ya (rZ G (qL r2) Z [9,8,7,6,3,2] [102,101,51,50,0] fun G=>Ya ?_)
 refine Zc G rfl (fun hc0=>?_) (fun hc0=>?_)
 ·have hil:i<l.length:=by simp at hc0;omega
  refine Yf (Za (Ya (Yg (Ya (Zb G (qy 4 Yb0 r2 (qf (oR true 4 .t) r1 qz (qf (oH [.int .i64 0,.int .i64 0,.int .i64 0,.int .i64 0] 103) trivial qz (qS 4 103 r2 r1 qZ)))) Z [8,7,6,5,3,2] [103,102,101,51,50,0] (fun _=>rfl) (fun _=>rfl) fun τ a w F G=>?_)))))
  try dsimp only [RS.sub,SF.sub,CF.sub,csub,Anc.sub,List.map,Zf,xL,xM,Nat.reduceAdd,xD,xE,xT,xU,xC,xN,zCF,ldSF,Zo,Zn] at G
  generalize τ 5=v5 at G
  try simp only [Yc] at G
  refine Za (Ya (Zb G (qg 0 102 r1 r1 (qa 102 r1 r1 (qg 0 103 r1 r1 (qa 103 r1 r1 (qg 1 103 r1 r1 (qa 103 r1 r1 (qf (o_buildSliceE (sz:=1) (zs:=[.int .i64 0]) (r:=[(0,.tmp 15),(1,.tmp 17)]) (l:=[_,_]) YbZ kr kr kr kr rfl rfl (.one rfl .t one_int kr (.one rfl .t one_int kr .nil)) rfl) r2 qz (qf (Z1 (sz:=1) (bs:=8) 50 (.mk' YbZ kr kr) (by intro x;rfl) .is (.arr (l':=[(Nn l i).src,(Nn l i).dst]) .t) (by simp only [Yd,Yl,Yy,Yj,YJ];omega) (by decide)) ⟨rfl,rfl,tv⟩ ⟨rfl,tv⟩ (qg 0 102 r1 r1 (qf (Zcc 102 .adr kr kr) r2 r1 qZ)))))))))) Z [8,7,6,5,3,2] [103,102,101,51,50,0] (fun _=>rfl) (fun _=>rfl) fun τ a w F G=>?_))
  try dsimp only [RS.sub,SF.sub,CF.sub,csub,Anc.sub,List.map,Zf,xL,xM,Nat.reduceAdd,xD,xE,xT,xU,xC,xN,zCF,ldSF,Zo,Zn] at G
  generalize τ 19=v19 at G
  refine Za (Zb G (qg 1 102 r1 r1 (qa 102 r1 r1 (qg 3 103 r1 r1 (qa 103 r1 r1 (qf (o_buildSliceE (sz:=1) (zs:=[.int .i64 0]) (r:=[(0,.tmp 24)]) (l:=[_]) YbZ kr kr kr kr rfl rfl (.one rfl .t one_int kr .nil) rfl) r1 qz (qf (Z1 (sz:=1) (bs:=8) 51 (.mk' YbZ kr kr) (by intro x;rfl) .is (.arr (l':=[(Nn l i).key]) .t) (by simp only [Yd,Yl,Yy,Yj,YJ];omega) (by decide)) ⟨rfl,rfl,tv⟩ ⟨rfl,tv⟩ (qg 1 102 r1 r1 (qf (Zcc 102 .adr kr kr) r2 r1 qZ)))))))) Z [8,7,6,3,2] [103,102,101,51,50,0] (fun _=>rfl) (fun _=>rfl) fun τ a w F G=>?_)
  try dsimp only [RS.sub,SF.sub,CF.sub,csub,Anc.sub,List.map,Zf,xL,xM,Nat.reduceAdd,xD,xE,xT,xU,xC,xN,zCF,ldSF,Zo,Zn] at G
  generalize τ 26=v26 at G
  refine Zk (Za (rZ G (qp r1 (qR rr qZ)) Z [8,7,6,3,2] [103,102,101,51,50,0] fun G=>?_))
  replace G:=G.ent (i:=8) (s':=.pv (.int .i64 ((i+1:Nat):Int))) rfl (.int (Zd ow))
  obtain ⟨F,G⟩:=G.nM [7,6,3,2,8] [101,0,51,50,102]
  exact ⟨((i+1),(v19),_,(v26),_),F,⟨by omega,⟨by rw [Zt hil,YS,← hq1];rfl,by rw [Zt hil,YK,← hq2];rfl⟩⟩,G,by omega⟩
 have hil:i=l.length:=by simp at hc0;omega
 have hg1:Zbu xa=ZJ l:=by rw [hq1,hil,YC];rfl
 have hg2:Zbu xb=ZZ l:=by rw [hq2,hil,YC];rfl
 refine Yx (Zj (Zj (Zr (Za (Ya (ZbI G (qg 0 102 r1 r1 (qa 102 r1 r1 (qf (o_callRowN 50 (ZnL va xa ow) func167 rfl kr (Args.one .t) pvOne1) r1 r1 (qg 1 102 r1 r1 (qa 102 r1 r1 (qf (o_callRowN 51 (ZnL vb xb ow) func167 rfl kr (Args.one .t) pvOne1) r1 r1 (qg 0 102 r1 r1 (qf (Zcc 102 .adr kr kr) r2 r1 (qg 1 102 r1 r1 (qf (Zcc 102 .adr kr kr) r2 r1 qZ)))))))))) Z [3,2] [102,101,51,50,0] (fun _=>rfl) (fun _=>rfl) fun τ a w F G=>?_))))))
 try dsimp only [RS.sub,SF.sub,CF.sub,csub,Anc.sub,List.map,Zf,xL,xM,Nat.reduceAdd,xD,xE,xT,xU,xC,xN,zCF,ldSF,Zo,Zn] at G
 generalize τ 31=v31,τ 34=v34 at G
 refine Za (Ya (Zg G (qe 2 102 r1 r1 (qs 2 101 r2 r1 qZ)) Z [2] [102,101,51,50,0] rfl rfl fun a w F G=>?_))
 obtain ⟨F,G⟩:=G.giveCell 50 101 0 rfl rfl rfl rfl rfl
 try dsimp only [List.set] at G
 obtain ⟨F,G⟩:=G.nM [2] [102,101,51,0]
 obtain ⟨F,G⟩:=G.giveCell 51 101 1 rfl rfl rfl rfl rfl
 try dsimp only [List.set] at G
 obtain ⟨F,G⟩:=G.nM [2] [102,101,0]
 rw [hg1,hg2] at G
 refine Za (Yh (Zad hfr G rfl (.cl 101 true 2 rfl rfl .nil) (.one (.aggU rfl rfl))))
theorem ZsM (ids keys:List Int) (e:Ze) (h1:ids.length≤1000000) (h2:keys.length≤1000000) (hi:Zdp ids) (hk:Zdp keys):FnP prog 168 [.agg [.sl Zo ids,.sl Zo keys],.agg (Zn e)] (.agg (ZaB (Zcy ids keys e))):=by
 refine FnP.mk func168 rfl ntmps168 rfl fun B a w F Z hfr G=>Ya ?_
 refine Zb G (qx 101 r1 (qx 102 r1 (qf (oH [.int .i64 0,.int .i64 0,.int .i64 0,.int .i64 0] 103) trivial qz qZ))) Z [4,3,2] [103,102,101,0] (fun _=>rfl) (fun _=>rfl) fun τ a w F G=>?_
 try dsimp only [RS.sub,SF.sub,CF.sub,csub,Anc.sub,List.map,zCF,Zo,Zn,ZaB] at G
 generalize τ 2=v2,τ 3=v3,τ 4=v4 at G
 refine Za (Ya (rZ G (qg 0 101 r1 r1 (qa 101 r1 r1 (qg 0 102 r1 r1 (qa 102 r1 r1 (qf (oP (Zsf ids e.src h1 (Zcj hi)) func203 (Args.two .t .t)) r2 qz (qR rr (qf (Zh .t rfl) r1 qz (qf (Zh .t rfl) r1 qz (qO rr (qO rr qZ)))))))))) Z [5,4,3,2] [103,102,101,0] fun G=>Ya ?_))
 refine rZ G (qg 0 101 r1 r1 (qa 101 r1 r1 (qg 1 102 r1 r1 (qa 102 r1 r1 (qf (oP (Zsf ids e.dst h1 (Zcj hi)) func203 (Args.two .t .t)) r2 qz (qR rr (qf (Zh .t rfl) r1 qz (qf (Zh .t rfl) r1 qz (qO rr (qO rr qZ)))))))))) Z [7,5,4,3,2] [103,102,101,0] fun G=>Ya ?_
 refine rZ G (qg 1 101 r1 r1 (qa 101 r1 r1 (qg 3 102 r1 r1 (qa 102 r1 r1 (qf (oP (Zsf keys e.key h2 (Zcj hk)) func203 (Args.two .t .t)) r2 qz (qR rr (qf (Zh .t rfl) r1 qz (qf (Zh .t rfl) r1 qz (qO rr (qO rr qZ)))))))))) Z [9,7,5,4,3] [103,102,0] fun G=>Ya ?_
 refine rZ G (qR rr (qR rr (qg 2 102 r1 r1 (qa 102 r1 r1 (qR rr (qf (oB [(0,.tmp 35),(1,.tmp 36),(2,.tmp 38),(3,.tmp 39)] [.int .i64 0,.int .i64 0,.int .i64 0,.int .i64 0] [(0,1),(1,1),(2,1),(3,1)] (.one rfl .t one_int kr (.one rfl .t one_int kr (.one rfl .t one_int kr (.one rfl .t one_int kr .nil))))) r4 qz (qs 4 103 r2 r1 qZ))))))) Z [4] [103,0] fun G=>Yh ?_
 refine Zad hfr G rfl (.cl 103 true 4 rfl rfl .nil) (.one (.aggU rfl rfl))
theorem Zrb (ids keys:List Int) (x:Zu) (h1:0≤x.src∧x.src<ids.length) (h2:0≤x.dst∧x.dst<ids.length) (h3:0≤x.label∧x.label<keys.length):FnP prog 131 [.agg [.sl Zo ids,.sl Zo keys],.agg (ZaB x)] (.agg (Zn (ZhV ids keys x))):=by
 refine FnP.mk func131 rfl ntmps131 rfl fun B a w F Z hfr G=>Ya ?_
 refine Zb G (qx 101 r1 (qx 102 r1 (qf (oH [.int .i64 0,.int .i64 0,.int .i64 0,.int .i64 0] 103) trivial qz qZ))) Z [4,3,2] [103,102,101,0] (fun _=>rfl) (fun _=>rfl) fun τ a w F G=>?_
 try dsimp only [RS.sub,SF.sub,CF.sub,csub,Anc.sub,List.map,zCF,Zo,Zn,ZaB] at G
 generalize τ 2=v2,τ 3=v3,τ 4=v4 at G
 refine Za (Ya (Zz G (qg 0 101 r1 r1 (qa 101 r1 r1 (qg 0 102 r1 r1 (qa 102 r1 r1 (qy 1 YbZ r2 (qf (oR false 1 .t) r1 qz (qg 0 101 r1 r1 (qa 101 r1 r1 (qg 1 102 r1 r1 (qa 102 r1 r1 (qy 1 YbZ r2 (qf (oR false 1 .t) r1 qz (qg 2 102 r1 r1 (qa 102 r1 r1 (qg 1 101 r1 r1 (qa 101 r1 r1 (qg 3 102 r1 r1 (qa 102 r1 r1 (qy 1 YbZ r2 (qf (oR false 1 .t) r1 qz (qf (oB [(0,.tmp 10),(1,.tmp 16),(2,.tmp 18),(3,.tmp 24)] [.int .i64 0,.int .i64 0,.int .i64 0,.int .i64 0] [(0,1),(1,1),(2,1),(3,1)] (.one rfl .t one_int kr (.one rfl .t one_int kr (.one rfl .t one_int kr (.one rfl .t one_int kr .nil))))) r4 qz (qs 4 103 r2 r1 qZ)))))))))))))))))))))) Z [4] [103,0] rfl rfl fun a w F G=>?_))
 try dsimp only [List.map,Zf,xL,xM,Nat.reduceAdd,xD,xE,xT,xU,xC,xN,zCF,ldSF,Zo,Zn,ZaB] at G
 try simp only [Yc] at G
 refine Za (Yh (Zad hfr G rfl (.cl 103 true 4 rfl rfl .nil) (.one (.aggU rfl rfl))))
theorem ZpB (e:Ze) (mask:Int):FnP prog 125 [.agg (Zn e),.ref [.int .i64 mask]] (.bool (!kindOk mask e)):=by
 refine FnP.mk func125 rfl ntmps125 rfl fun B a w F Z hfr G=>Ya ?_
 refine Zb G (qx 101 r1 qB) Z [3,2,1] [101,0] (fun _=>rfl) (fun _=>rfl) fun τ a w F G=>?_
 try dsimp only [RS.sub,SF.sub,CF.sub,csub,Anc.sub,List.map,zCF,Zn] at G
 generalize τ 2=v2 at G
 refine Za (Ya (rZ G (qg 2 101 r1 r1 (qa 101 r1 r1 (qf (ZaD .t qi) r1 qz (qR rr (qv 2 101 rfl r2 r1 (qw 101 rfl r2 r1 (qk rfl (fun h=>ZaV (.w h) qi) r2 qz (qf (Zab .t .t) r2 qz (qR rr (qk rfl (fun h=>oR false 1 .t) r2 qz (qv 2 101 rfl r2 r1 (qw 101 rfl r2 r1 (qk rfl (fun h=>Zat Yb8 kr (.w h)) r2 qz (qk rfl (fun h=>Zej (.w h) (.w h)  (by rw [Zao];omega)) r3 qz (qk rfl (fun h=>Zde (.w h) qi) r2 qz (qk rfl (fun h=>o_eql (.w h) qi) r2 qz (qf (Zab .t .t) r2 qz (qO rr qZ)))))))))))))))))) Z [3] [0] fun G=>Yh ?_))
 refine Zw hfr G rfl rfl rfl (.bool (by rw [of_zero];unfold kindOk;by_cases h1:1≤e.kind <;> by_cases h2:e.kind≤3 <;> simp [h1,h2] <;> omega))
theorem Zsr {n:Nat} {l:List Ze} {ids keys:List Int} {i:Nat} (h:i<l.length):ZM n ((l.take (i+1)).map (Zcy ids keys))=((Zd9 (ZM n ((l.take i).map (Zcy ids keys))).1 (ZM n ((l.take i).map (Zcy ids keys))).2.1 (ZM n ((l.take i).map (Zcy ids keys))).2.2 (Zcy ids keys (Nn l i))).1,(Zd9 (ZM n ((l.take i).map (Zcy ids keys))).1 (ZM n ((l.take i).map (Zcy ids keys))).2.1 (ZM n ((l.take i).map (Zcy ids keys))).2.2 (Zcy ids keys (Nn l i))).2.1,(Zd9 (ZM n ((l.take i).map (Zcy ids keys))).1 (ZM n ((l.take i).map (Zcy ids keys))).2.1 (ZM n ((l.take i).map (Zcy ids keys))).2.2 (Zcy ids keys (Nn l i))).2.2.1):=by
 rw [Zt h,YK];exact ZfK
theorem Zry (l:List Ze) (ids keys:List Int) (hl:l.length≤100000) (hn:ids.length≤4096) (hkl:keys.length≤1048575) (hkl2:keys.length≤1000000) (hinc:Zdp ids) (hk:Zdp keys):FnP prog 127 [.sl Zn l,.agg [.sl Zo ids,.sl Zo keys]] (.tup [Zhq (ZM ids.length (l.map (Zcy ids keys))).1 (ZM ids.length (l.map (Zcy ids keys))).2.1 (ZM ids.length (l.map (Zcy ids keys))).2.2,.int .i64 0]):=by
 refine FnP.mk func127 rfl ntmps127 rfl fun B a w F Z hfr G=>Ya ?_
 refine Zb G (qx 101 r1 (qC (qI qZ))) Z [5,4,3,0] [101,0] (fun _=>rfl) (fun _=>rfl) fun τ a w F G=>?_
 try dsimp only [RS.sub,SF.sub,CF.sub,csub,Anc.sub,List.map,zCF,Zn,ZaB,Zo] at G
 generalize τ 3=v3 at G
 refine Za (Ya (Ya (rZ G (qg 0 101 r1 r1 (qa 101 r1 r1 (qu YbZ r1 (qf (ZaV .t qi) r1 qz (qR rr (qv 1 101 rfl r2 r1 (qw 101 rfl r2 r1 (qk rfl (fun h=>Zbe YbZ (.w h)) r2 qz (qk rfl (fun h=>ZaV (.w h) qi) r2 qz (qf (Zab .t .t) r2 qz qZ)))))))))) Z [18,5,4,3,0] [101,0] fun G=>?_)))
 refine Zc G rfl (fun hc0=>?_) (fun hc0=>?_)
 ·simp at hc0;omega
 refine Yf (Za (Ya ?_))
 replace G:=G.fresh 102 rfl
 refine Zb G (qg 0 101 r1 r1 (qa 101 r1 r1 (qu YbZ r1 (qf (ZaE 102 (ZrI (ids.length:Int)) func115 rfl kr (Args.one .t) PV.ptr_one) r1 r1 (qO rr qZ))))) Z [6,5,4,3,0] [102,101,0] (fun _=>rfl) (fun _=>rfl) fun τ a w F G=>?_
 try dsimp only [RS.sub,SF.sub,CF.sub,csub,Anc.sub,List.map,xD,xE,xT,xU,ldSF,Zn,ZaB,Zo] at G
 generalize τ 22=v22 at G
 obtain ⟨_,_,_,ho⟩:=G.obGet 102 rfl
 obtain ⟨gb,rfl⟩:=ZpA ho
 clear ho
 replace G:=G.turn 102 rfl (r':=RS.hp (Zow (List.replicate (roomN (ids.length:Int)) []) (List.replicate (roomN (ids.length:Int)) []) 0 (.pointer (some ⟨gb,0,none⟩)))) (fun _ _ _ _ h=>h)
 obtain ⟨F,G⟩:=G.nM [6,5,4,3,0] [102,101,0]
 rw [Zoj hn] at G
 change Sat _ _ _ _ _ at G
 refine Za (Ya (Ya (rZ G (qR rr (qu Yb0 r1 (qJ qZ))) Z [25,24,23,6,5,4,3] [102,101,0] fun G=>Yg ?_)))
 refine Zl (σ:=(Nat)) [3,4,5,6,23,24] [0,101] (fun s=>[(25,.pv (.int .i64 (s:Int)))]) (fun s=>[(102,RS.hp (Zow (ZM ids.length ((l.take s).map (Zcy ids keys))).1 (ZM ids.length ((l.take s).map (Zcy ids keys))).2.1 (ZM ids.length ((l.take s).map (Zcy ids keys))).2.2 (.pointer (some ⟨gb,0,none⟩))))]) (fun s=>s≤l.length∧(True)) (fun s=>l.length - s) (0) G ⟨rfl,rfl,rfl,rfl,rfl,rfl,rfl,tv⟩ ⟨rfl,rfl,rfl,tv⟩ ⟨Yw _,tv⟩ ?_
 clear G;intro i a w F hC G
 try dsimp only at hC
 obtain ⟨F,G⟩:=G.nM [25,24,23,6,5,4,3] [102,101,0]
 try dsimp only at G
 obtain ⟨hi,hq⟩:=hC
 obtain ⟨hD,hm⟩:=Zig (n:=ids.length) hn ((l.take i).map (Zcy ids keys))
 have hEl:=Zhp (n:=ids.length) ((l.take i).map (Zcy ids keys)) []
 rw [YF,Yj] at hm
 rw [YF,Yj,Yy] at hEl
 refine Ya (rZ G (qL r2) Z [26,25,24,23,6,5,4,3] [102,101,0] fun G=>Ya ?_)
 refine Zc G rfl (fun hc1=>?_) (fun hc1=>?_)
 ·have hil:i<l.length:=by simp at hc1;omega
  refine Yf (Za (Ya (Yg (Ya (Zb G (qy 4 Yb0 r2 (qf (oR true 4 .t) r1 qz (qf (oH [.int .i64 0,.int .i64 0,.int .i64 0,.int .i64 0] 103) trivial qz (qS 4 103 r2 r1 qZ)))) Z [25,24,23,8,6,5,4,3] [103,102,101,0] (fun _=>rfl) (fun _=>rfl) fun τ a w F G=>?_)))))
  try dsimp only [RS.sub,SF.sub,CF.sub,csub,Anc.sub,List.map,Zf,xL,xM,Nat.reduceAdd,xD,xE,xT,xU,xC,xN,zCF,ldSF,Zn,ZaB,Zo] at G
  generalize τ 8=v8 at G
  try simp only [Yc] at G
  refine Za (Zg G (qR rr (qe 2 101 r1 r1 (qe 4 103 r1 r1 (qf (oP (ZsM ids keys (Nn l i) ow ow hinc hk) func168 (Args.two (.pagg .t) (.pagg .t))) r2 qz (qf (ZX 102 (Zrf gb (ZM ids.length ((l.take i).map (Zcy ids keys))).1 (ZM ids.length ((l.take i).map (Zcy ids keys))).2.1 (ZM ids.length ((l.take i).map (Zcy ids keys))).2.2 (Zcy ids keys (Nn l i)) (hD.on.r ow) (hD.inn.r ow) (by rw [hD.ol,hD.il]) (by rw [hD.ol];exact hn) ow) func116 rfl kr (Args.two .t .t)) r2 r1 qZ))))) Z [25,24,23,6,5,4,3] [103,102,101,0] rfl rfl fun a w F G=>Zk (Za ?_))
  refine rZ G (qp r1 (qR rr qZ)) Z [25,24,23,6,5,4,3] [103,102,101,0] fun G=>?_
  have hgq:=Zsr (n:=ids.length) (ids:=ids) (keys:=keys) hil
  have e1:=Y1 Prod.fst hgq
  have e2:=Y1 (fun q=>q.2.1) hgq
  have e3:=Y1 (fun q=>q.2.2) hgq
  dsimp only at e1 e2 e3
  rw [← e1,← e2,← e3] at G
  replace G:=G.ent (i:=25) (s':=.pv (.int .i64 ((i+1:Nat):Int))) rfl (.int (Zd ow))
  obtain ⟨F,G⟩:=G.nM [24,23,6,5,4,3,25] [101,0,102]
  exact ⟨(i+1),F,⟨by omega,tv⟩,G,by omega⟩
 have hil:i=l.length:=by simp at hc1;omega
 refine Yx (Zj (Zj (Zr (Za (Ya ?_)))))
 rw [hil,YC] at G
 obtain ⟨F,G⟩:=Sat.giveL (p:=Zhq (ZM ids.length (l.map (Zcy ids keys))).1 (ZM ids.length (l.map (Zcy ids keys))).2.1 (ZM ids.length (l.map (Zcy ids keys))).2.2) G 102 6 rfl rfl Zhg
 obtain ⟨F,G⟩:=G.nM [26,25,24,23,6,5,4,3] [101,0]
 refine rZ G (qR rr (qO rr (qI qZ))) Z [5,4] [101,0] fun G=>Yh ?_
 refine Zad hfr G rfl (.tmp rfl (.tmp rfl .nil)) (.two .refl .refl)
section
variable {P:Program} {d:Option Nat} {t t' ty:TypeId} {pos:String} {af:Array Edge} {g:Option (Nat×Bool)} {x:Operand} {ps:List (Nat×SF)}
theorem Zgm {e:TypeId} (hu:P.underlying t=some (.slice e)) (hx:Opd x ps (.pv (.is (.slice none 0 0)))) :
  OpC P ⟨d,.binOp .eql t x (.const (.slice none 0 0)) t',ty,pos,af,g⟩ ⟨ps,[],.pv (.bool true),[]⟩:=
 OpC.pure fun a w yy hp=>by
  have e1:=(hx a w yy hp).1
  have hr:=Go.Lib.run_eql_slice_nil (P:=P) w t e none 0 0 0 0 hu
  refine ⟨.bool true,?_,fun _ _=>rfl⟩
  simp only [execOp,e1,Zb5,Yz,show (eqGuard .eql t x (.const (.slice none 0 0)) (.slice none 0 0) (.slice none 0 0)).run P w = .ok () w from rfl,Yo,hr,YD]
  rfl
theorem Zor {e:TypeId} (hu:P.underlying t=some (.slice e)) (hx:Opd x ps (.pv (.is (.slice none 0 0)))) :
  OpC P ⟨d,.call { callee:=.builtin .len,args:=#[x],argTypes:=#[t] },ty,pos,af,g⟩ ⟨ps,[],.pv (.int .i64 0),[]⟩:=
 OpC.pure fun a w yy hp=>by
  have e1:=(hx a w yy hp).1
  refine ⟨.int .i64 0,?_,fun _ _=>⟨rfl,by simp [inR,IntKind.min,IntKind.max,IntKind.signed,IntKind.bits]⟩⟩
  simp [execOp,resolve,invoke,builtin,e1,Ybq w t ty none 0 0 (ZfB hu),goInt]
theorem Zh8 {α:Type} {R:α→List PV} {l:List α} {e:TypeId} (hu:P.underlying t=some (.slice e)) (hx:Opd x ps (.pv (.sl R l))) (hne:¬ l = []) :
  OpC P ⟨d,.binOp .eql t x (.const (.slice none 0 0)) t',ty,pos,af,g⟩ ⟨ps,[],.pv (.bool false),[]⟩:=
 OpC.pure fun a w yy hp=>by
  obtain ⟨ad,cap,e1,_,_,h3⟩:=hx a w yy hp
  have hr:=Go.Lib.run_eql_slice_nil (P:=P) w t e ad l.length cap 0 0 hu
  have hn:ad.isNone=false:=by
   rcases h3 with h3 | ⟨b,off,vs,rfl,_⟩
   ·exact absurd h3 hne
   ·rfl
  refine ⟨.bool false,?_,fun _ _=>rfl⟩
  simp only [execOp,e1,Zb5,Yz,show (eqGuard .eql t x (.const (.slice none 0 0)) (.slice ad l.length cap) (.slice none 0 0)).run P w = .ok () w from rfl,Yo,hr,YD,hn]
end
theorem Zpo (l:List Ze) (hl:l.length≤1000000):FnG prog 124 1 [.sl Zn l] [.star []] (PV.one) (fun v=>[ZA 42 4 Zn l v]):=by
 refine FnG.mk func124 rfl ntmps124 rfl kr fun B F0 a w F Z hG G=>?_
 obtain ⟨F,G⟩:=G.nM [0] [0]
 refine Ya (rZ G (qC qZ) Z [2,0] [0] fun G=>(Ya (Ya ?_)))
 refine Zg G (qR rr (qf (Zbm Yb0 .t) r1 qz qZ)) Z [4,2,0] [0] rfl rfl fun a w F G=>?_
 obtain ⟨β4,hβ4,G⟩:=G.pickBool 4 rfl
 obtain ⟨F,G⟩:=G.nM [4,2,0] [0]
 refine Za (Zc G rfl (fun hc0=>?_) (fun hc0=>?_))
 ·have hg:l = []:=hβ4 hc0
  refine Ya (rZ G (qC qZ) Z [2,0] [0] fun G=>(Yh (Zm ?_)))
  have G:=G.fresh 1 rfl
  have G:=G.turn 1 rfl (ZaP (T:=42) (sz:=4) (R:=Zn))
  have G:=G.turn 1 rfl (r':=RS.hp (ZA 42 4 Zn l (.slice none 0 0))) (fun _ _ _ _ h=>by rw [hg];exact h)
  refine Z9 (h':=fun v=>ZA 42 4 Zn l v) hG G rfl (.tmp rfl .nil) (.one .one) rfl
 have hg:l = [] ++ l:=rfl
 refine Yf (Za (Ya (Zb G (qf (ZaL (R:=Zn) (sz:=4) 101 Yb0 kr) trivial qz (qR rr (qf (Z1 (sz:=4) (bs:=32) 101 (.mk' Yb0 kr kr) (by intro x;rfl) .same (.sl .t) (by simp only [Yd,Yy];omega) (by decide)) ⟨rfl,rfl,tv⟩ ⟨rfl,tv⟩ (qO rr qZ)))) Z [2] [101,0] (fun _=>rfl) (fun _=>rfl) fun τ a w F G=>?_)))
 try dsimp only [RS.sub,SF.sub,CF.sub,csub,Anc.sub,List.map,Zf,xL,xM,Nat.reduceAdd,xD,xE,xT,xU,xC,xN,zCF,Zn] at G
 generalize τ 7=v7 at G
 refine Za (Yh ?_)
 obtain ⟨F,G⟩:=G.rename 101 1 rfl rfl
 have G:=G.turn 1 rfl (r':=RS.hp (ZA 42 4 Zn l v7)) (fun _ _ _ _ h=>by rw [hg];exact h)
 refine Z9 (h':=fun v=>ZA 42 4 Zn l v) hG G rfl (.tmp rfl .nil) (.one .one) rfl
theorem ZrN (l : List Ze) (p : Ze → Bool) (f : FuncId) (fn : Func) (cps : List PV) (hf : prog.funcs[f]? = some fn) (hb : fn.body.isSome = true) (hnn : (fn.name == "runtime.NumGoroutine") = false) (hw : ∀ x, FnP prog f (.agg (Zn x) :: cps) (.bool (p x))) : FnP prog 166 [.sl Zn l, .clos f cps] (.int .i64 (Z2 p l)) := by
 refine FnP.mk func166 rfl ntmps166 rfl fun B a w F Z hfr G=>?_
 have hll:=Sat.lenSl G (i:=0) rfl
 refine Ya (rZ G (qI qZ) Z [4,1,0] [0] fun G=>(Ya (Ya ?_)))
 refine rZ G (qR rr (qu Yb0 r1 (qJ qZ))) Z [8,7,4,1,0] [0] fun G=>Yg ?_
 refine Zl (σ:=(Nat)) [0,1,4,7] [0] (fun s=>[(8,.pv (.int .i64 (s:Int)))]) (fun s=>[]) (fun s=>s≤l.length∧(∀ k,k<s→p (Nn l k)=false)) (fun s=>l.length - s) (0) G ⟨rfl,rfl,rfl,rfl,rfl,tv⟩ ⟨rfl,tv⟩ ⟨Yw _,fun k hk=>absurd hk (Y9 k)⟩ ?_
 clear G;intro i a w F hC G
 try dsimp only at hC
 obtain ⟨F,G⟩:=G.nM [8,7,4,1,0] [0]
 try dsimp only at G
 obtain ⟨hi,hq⟩:=hC
 refine Ya (rZ G (qL r2) Z [9,8,7,4,1,0] [0] fun G=>Ya ?_)
 refine Zc G rfl (fun hc0=>?_) (fun hc0=>?_)
 ·skip
  have hil:i<l.length:=by simp at hc0;omega
  refine Yf (Za (Ya (Yg (Ya (rZ G (qR rr (qO rr qZ)) Z [8,7,5,4,1,0] [0] fun G=>Ya ?_)))))
  refine Zg G (qR rr (qR rr (qR rr (qy 4 Yb0 r2 (qf (oR true 4 .t) r1 qz (qf (Z6 (avs:=[.agg (Zn (Nn l i))]) .t (hw (Nn l i)) hf hb hnn (Args.one (.pagg .t))) r2 qz qZ)))))) Z [16,8,7,5,4,1,0] [0] rfl rfl fun a w F G=>?_
  try simp only [Yc] at G
  refine Za (Zc G rfl (fun hc1=>?_) (fun hc1=>?_))
  ·skip
   have hg:(i:Int)=Z2 p l:=(Zd4 hil hc1 hq).symm
   refine Ya (rZ G (qR rr (qO rr qZ)) Z [8,7,4,1,0] [0] fun G=>(Yh (ZB (Zm (Zm (ZB (Zm ?_)))))))
   refine Zw hfr G rfl rfl rfl (.int hg)
  have hne:p (Nn l i)=false:=hc1
  refine Yf (Zk (Za (rZ G (qp r1 (qR rr qZ)) Z [8,7,4,1,0] [0] fun G=>?_)))
  replace G:=G.ent (i:=8) (s':=.pv (.int .i64 ((i+1:Nat):Int))) rfl (.int (Zd ow))
  obtain ⟨F,G⟩:=G.nM [7,4,1,0,8] [0]
  exact ⟨(i+1),F,⟨by omega,(fun k hk=>by rcases Y8 (Yad hk) with h | h;exact hq k h;rw [h];exact hne)⟩,G,by omega⟩
 have hil:i=l.length:=by simp at hc0;omega
 have hg : -1=Z2 p l:=(ZcI fun k hk=>hq k (by simp at hc0;omega)).symm
 refine Yx (Zj (Zj (Zr (Za (Ya (rZ G (qI qZ) Z [4] [0] fun G=>Yh ?_))))))
 refine Zw hfr G rfl rfl rfl (.int hg)
theorem Zsl (v : Value) (l : List Ze) (hll : l.length ≤ 1000000) (p : Ze → Bool) (f : FuncId) (fn : Func) (cps : List PV) (hf : prog.funcs[f]? = some fn) (hb : fn.body.isSome = true) (hnn : (fn.name == "runtime.NumGoroutine") = false) (hw : ∀ x, FnP prog f (.agg (Zn x) :: cps) (.bool (p x))) : FnG prog 123 1 [.is v, .clos f cps] [ZA 42 4 Zn l v] (PV.one) (fun v => [ZA 42 4 Zn (l.filter fun x => !p x) v]) := by
 refine FnG.mk func123 rfl ntmps123 rfl kr fun B F0 a w F Z hG G=>?_
 replace G:=G.turn 1 rfl (r':=.ob (.val v) (ZA 42 4 Zn l)) (fun _ _ _ _ h=>h)
 refine Ya (rZ G (qC qZ) Z [4,1,0] [1,0] fun G=>Ya ?_)
 refine rZ G (qR rr (qR rr (qf (OpC.lendRow 1 [8] (oP (ZrN l p f fn cps hf hb hnn hw) func166 (Args.two .t .t)) ⟨rfl,tv,tv⟩ (.pv (fun _ _ _ _ h=>h)) trivial (by rfl)) r2 r1 (qO rr qZ)))) Z [5,4,1,0] [1,0] fun G=>(Ya (Ya ?_))
 refine rZ G (qR rr (qf (o_eql .t qi) r1 qz qZ)) Z [12,5,4,1,0] [1,0] fun G=>?_
 refine Zc G rfl (fun hc0=>?_) (fun hc0=>?_)
 ·skip
  have hno:=(ZbD p l).resolve_right (by rintro ⟨i,h1,_⟩;simp at hc0;omega)
  have hg:(l.filter fun x=>!p x)=l:=ZgB hno.2
  refine Ya (rZ G (qR rr (qO rr qZ)) Z [5,4,1,0] [1,0] fun G=>(Yh (Zm ?_)))
  have G:=G.turn 1 rfl (r':=RS.hp (ZA 42 4 Zn (l.filter fun x=>!p x) v)) (fun _ _ _ _ h=>by rw [hg];exact h)
  refine Z9 (h':=fun v=>ZA 42 4 Zn (l.filter fun x=>!p x) v) hG G rfl (.tmp rfl .nil) (.one .one) rfl
 obtain ⟨i0,hi0,hi1,hip,hib⟩:=(ZbD p l).resolve_left (by rintro ⟨h1,_⟩;simp [h1] at hc0)
 have hst0:=ZlE hi1 hip hib
 refine Yf (Za (Ya (Ya (rZ G (qR rr (qp r1 (qO rr qZ))) Z [6,5,4,1,0] [1,0] fun G=>Yg ?_))))
 have hC0:i0<i0+1∧i0+1≤l.length∧l.length=l.length∧l.take i0=(l.take (i0+1)).filter (fun x=>!p x) ∧ ∀ k,i0+1≤k→k<l.length→Nn l k=Nn l k:=⟨by omega,by omega,rfl,hst0,fun k _ _=>rfl⟩
 replace G:=G.ent (i:=5) (s':=.pv (.int .i64 (i0:Int))) rfl (.int hi0)
 replace G:=G.ent (i:=6) (s':=.pv (.int .i64 ((i0+1:Nat):Int))) rfl (.int (by rw [hi0,ZC ow];omega))
 refine Zl (σ:=Nat×Nat×List Ze) [0,1,4] [0] (fun s=>[(5,.pv (.int .i64 (s.1:Int))),(6,.pv (.int .i64 (s.2.1:Int)))]) (fun s=>[(1,.ob (.val v) (ZA 42 4 Zn s.2.2))]) (fun s=>s.1<s.2.1∧s.2.1≤l.length∧s.2.2.length=l.length∧s.2.2.take s.1=(l.take s.2.1).filter (fun x=>!p x) ∧ ∀ k,s.2.1≤k→k<l.length→Nn s.2.2 k=Nn l k) (fun s=>l.length - s.2.1) ((i0),(i0+1),(l)) G ⟨rfl,rfl,rfl,rfl,rfl,tv⟩ ⟨rfl,rfl,tv⟩ hC0 ?_
 clear G;intro s a w F hC G
 obtain ⟨i,j,l1⟩:=s
 try dsimp only at hC
 obtain ⟨F,G⟩:=G.nM [6,5,4,1,0] [1,0]
 try dsimp only at G
 obtain ⟨hij,hj,hll1,htk,hrest⟩:=hC
 refine Ya (Ya (rZ G (qR rr (qR rr (qf (Zas 1 Yb0 .is) r1 r1 (qL r2)))) Z [19,6,5,4,1,0] [1,0] fun G=>?_))
 refine Zc G rfl (fun hc1=>?_) (fun hc1=>?_)
 ·skip
  have hjl:j<l.length:=by simp at hc1;omega
  have hnj:Nn l1 j=(Nn l j):=hrest j (YL _) hjl
  have hfs:=ZfM (p:=fun x=>!p x) hjl
  refine Yf (Za (Ya (Yg (Ya (Zb G (qR rr (qR rr (qf (o_indexAddr_row (sz:=4) 1 (.mk Yb0 kr) .is .t ow ow (by rfl)) r2 r1 (qf (ZD (ag:=true) (sz':=4) (sz:=4) 1 .t (by intro x;rfl) ow kr kr kr) r1 r1 (qf (oH [.int .i64 0,.int .i64 0,.int .i64 0,.int .i64 0] 101) trivial qz (qS 4 101 r2 r1 qZ)))))) Z [7,6,5,4,1,0] [101,1,0] (fun _=>rfl) (fun _=>rfl) fun τ a w F G=>?_)))))
  try dsimp only [RS.sub,SF.sub,CF.sub,csub,Anc.sub,List.map,Zf,xL,xM,Nat.reduceAdd,xD,xE,xT,xU,xC,xN,zCF,ldSF,Zn] at G
  generalize τ 7=v7 at G
  try simp only [Yc] at G
  rw [hnj] at G
  refine Za (Ya (rZ G (qR rr (qe 4 101 r1 r1 (qf (Z6 (avs:=[.agg (Zn (Nn l j))]) .t (hw (Nn l j)) hf hb hnn (Args.one (.pagg .t))) r2 qz (qf (o_not .t) r1 qz qZ)))) Z [29,7,6,5,4,1,0] [101,1,0] fun G=>?_))
  refine Zc G rfl (fun hc2=>?_) (fun hc2=>?_)
  ·skip
   have hp:p (Nn l j)=false:=by simpa using hc2
   obtain ⟨i2,hi2e⟩:∃ i2,i2=i+1:=⟨_,rfl⟩
   have hi2:IntKind.wrap .i64 ((i:Int)+1)=(i2:Int):=by rw [hi2e];exact Zd ow
   obtain ⟨l2,hl2⟩:∃ l2,l2=l1.set i (Nn l j):=⟨_,rfl⟩
   have hC2:i2<j+1∧j+1≤l.length∧l2.length=l.length∧l2.take i2=(l.take (j+1)).filter (fun x=>!p x) ∧ ∀ k,j+1≤k→k<l.length→Nn l2 k=Nn l k:=⟨by omega,by omega,by rw [hl2,YR];exact hll1,by rw [hl2,hi2e,hfs,hp,← htk,Zt (by rw [YR];omega),List.take_set_of_le (YL _),nth_eq (by rw [YR];omega),Ybz];rfl,fun k hk hk2=>by rw [hl2,nth_eq (by rw [YR];omega),List.getElem_set_ne ow,← nth_eq ow];exact hrest k ow hk2⟩
   refine Ya (Zg G (qR rr (qR rr (qe 4 101 r1 r1 (qf (o_indexAddr_row (sz:=4) 1 (.mk Yb0 kr) .is .t ow ow (by rfl)) r2 r1 (qf (Zfk (sz:=4) 1 .t (by intro x;rfl) ow (.conv .t (Ent.aggU (l:=Zn (Nn l j)) rfl rfl)) kr) r2 r1 qZ))))) Z [6,5,4,1,0] [1,0] rfl rfl fun a w F G=>?_)
   try simp only [Yc] at G
   rw [← hl2] at G
   refine Za (Zg G (qR rr (qp r1 (qO rr qZ))) Z [6,5,4,1,0] [1,0] rfl rfl fun a w F G=>Zk (Za ?_))
   refine rZ G (qR rr (qp r1 (qO rr qZ))) Z [6,5,4,1,0] [1,0] fun G=>?_
   have hmu:l.length - (j+1)<l.length - j:=by omega
   replace G:=G.ent (i:=5) (s':=.pv (.int .i64 (i2:Int))) rfl (.int hi2)
   replace G:=G.ent (i:=6) (s':=.pv (.int .i64 ((j+1:Nat):Int))) rfl (.int (Zd ow))
   obtain ⟨F,G⟩:=G.nM [4,1,0,6,5] [0,1]
   exact ⟨((i2),(j+1),(l2)),F,hC2,G,hmu⟩
  have hp:p (Nn l j)=true:=by simpa using hc2
  obtain ⟨i2,hi2e⟩:∃ i2,i2=i:=⟨_,rfl⟩
  have hi2:(i:Int)=(i2:Int):=by rw [hi2e]
  obtain ⟨l2,hl2⟩:∃ l2,l2=l1:=⟨_,rfl⟩
  rw [← hl2] at G
  have hC2:i2<j+1∧j+1≤l.length∧l2.length=l.length∧l2.take i2=(l.take (j+1)).filter (fun x=>!p x) ∧ ∀ k,j+1≤k→k<l.length→Nn l2 k=Nn l k:=⟨by omega,by omega,by rw [hl2];exact hll1,by rw [hl2,hi2e,hfs,hp,htk];simp,fun k hk hk2=>by rw [hl2];exact hrest k ow hk2⟩
  refine Yf (Zk (Za (rZ G (qR rr (qp r1 (qO rr qZ))) Z [6,5,4,1,0] [1,0] fun G=>?_)))
  have hmu:l.length - (j+1)<l.length - j:=by omega
  replace G:=G.ent (i:=5) (s':=.pv (.int .i64 (i2:Int))) rfl (.int hi2)
  replace G:=G.ent (i:=6) (s':=.pv (.int .i64 ((j+1:Nat):Int))) rfl (.int (Zd ow))
  obtain ⟨F,G⟩:=G.nM [4,1,0,6,5] [0,1]
  exact ⟨((i2),(j+1),(l2)),F,hC2,G,hmu⟩
 have hjl:j=l.length:=by simp at hc1;omega
 have hil2:i<l.length:=by omega
 have hg:(l.filter fun x=>!p x)=(l1.take i++List.replicate (l1.length - i) (⟨0,0,0,0⟩:Ze)).take i:=by rw [Y4 (by rw [Yj];omega),YaY,Nat.min_self,htk,hjl,YC]
 refine Yx (Zj (Zj (Zr (Za (Ya (rZ G (qR rr (qR rr (qf (ZaN (sz:=4) 1 (.mk Yb0 kr) .is .t ow ow) r2 r1 (qf (Zdb (R:=Zn) (z:=(⟨0,0,0,0⟩:Ze)) (zs:=[.int .i64 0,.int .i64 0,.int .i64 0,.int .i64 0]) 1 Yb0 kr rfl rfl (fun _ _=>⟨⟨rfl,rfl,Zdf⟩,⟨rfl,rfl,Zdf⟩,⟨rfl,rfl,Zdf⟩,⟨rfl,rfl,Zdf⟩,tv⟩) (by intro x;rfl) .t (by simp;omega)) r1 r1 qZ)))) Z [5,4,0] [1,0] fun G=>Ya ?_))))))
 refine Zb G (qR rr (qR rr (qf (Zfw (sz:=4) 1 (.mk Yb0 kr) (by intro x;rfl) .is .t ow (by simp;omega)) r2 r1 (qO rr qZ)))) Z [4] [1,0] (fun _=>rfl) (fun _=>rfl) fun τ a w F G=>?_
 try dsimp only [RS.sub,SF.sub,CF.sub,csub,Anc.sub,List.map,Zn] at G
 generalize τ 41=v41 at G
 refine Za (Yh ?_)
 have G:=G.turn 1 rfl (r':=RS.hp (ZA 42 4 Zn (l.filter fun x=>!p x) v41)) (fun _ _ _ _ h=>by rw [hg];exact h)
 refine Z9 (h':=fun v=>ZA 42 4 Zn (l.filter fun x=>!p x) v) hG G rfl (.tmp rfl .nil) (.one .one) rfl
end Go.Proofs.YtlkpllemoepamaaGreat
