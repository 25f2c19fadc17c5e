/- Laws and walks. No condition beyond what each says. -/
import Derived.Test.YtfecljadegkmdaaGreatJ1
import Derived.Test.YtfecljadegkmdaaGreatLibRg
namespace Go.Proofs.YtfecljadegkmdaaGreat
open Go Go.Gm Tryz
set_option linter.unusedVariables false
set_option linter.unusedSimpArgs false
set_option maxHeartbeats 4000000
set_option maxRecDepth 8000
theorem Zd1:∀ {a b:List Int},Za3 a→Za3 b→(∀ x,x ∈ a ↔ x ∈ b)→a=b
 | [],[],_,_,_=>rfl
 | [],y :: b,_,_,h=>by have:=(h y).2 XA;cases this
 | x :: a,[],_,_,h=>by have:=(h x).1 XA;cases this
 | x :: a,y :: b,ha,hb,h=>by
  have ha':=Yx.1 ha
  have hb':=Yx.1 hb
  have e:x=y:=by
   rcases Yo.1 ((h x).1 XA) with e | e
   ·exact e
   ·rcases Yo.1 ((h y).2 XA) with e2 | e2
    ·exact e2.symm
    ·have:=ha'.1 y e2;have:=hb'.1 x e;omega
  subst e
  congr 1
  refine Zd1 ha'.2 hb'.2 fun z=>⟨fun hz=>?_,fun hz=>?_⟩
  ·rcases Yo.1 ((h z).1 (YQ _ hz)) with e | e
   ·subst e;have:=ha'.1 z hz;omega
   ·exact e
  ·rcases Yo.1 ((h z).2 (YQ _ hz)) with e | e
   ·subst e;have:=hb'.1 z hz;omega
   ·exact e
def ZaB (l:List Int) (x:Int) (on:Bool):List Int:=(l.filter fun y=>decide (y<x))++((if on=true then [x] else [])++l.filter fun y=>decide (x<y))
theorem mem_setN {l:List Int} {x:Int} {on:Bool} {y:Int} : y ∈ ZaB l x on ↔ (y ∈ l∧y≠x)∨(y=x∧on=true):=by
 unfold ZaB
 rw [YC,YC,YA,YA,Yi,Yi]
 by_cases hy:y ∈ l <;> cases on <;> simp [hy] <;> omega
theorem Zcq {l:List Int} (h:Za3 l) (x:Int) (on:Bool):Za3 (ZaB l x on):=by
 unfold ZaB
 refine Ybj.2 ⟨h.filter _,Ybj.2 ⟨?_,h.filter _,?_⟩,?_⟩
 ·cases on <;> simp
 ·intro a ha b hb
  rw [YA,Yi] at hb
  cases on <;> simp at ha
  subst ha;exact hb.2
 ·intro a ha b hb
  rw [YA,Yi] at ha
  rw [YC,YA,Yi] at hb
  rcases hb with hb | hb
  ·cases on <;> simp at hb
   subst hb;exact ha.2
  ·omega
theorem Zl5 (l:List Int) (x:Int) (on:Bool):(ZaB l x on).length≤2*l.length+1:=by
 unfold ZaB
 have h1:=YG (fun y=>decide (y<x)) l
 have h2:=YG (fun y=>decide (x<y)) l
 rw [Yd,Yd]
 cases on <;> simp <;> omega
theorem ZgV {l:List Int} (h:Za3 l) {x:Int} {on:Bool} (hx:on=decide (x ∈ l)):ZaB l x on=l:=Zd1 (Zcq h x on) h fun y=>by
 rw [mem_setN,hx,Yi]
 constructor
 ·rintro (h | ⟨rfl,h⟩)
  ·exact h.1
  ·exact h
 ·intro hy
  by_cases e:y=x
  ·exact .inr ⟨e,e ▸ hy⟩
  ·exact .inl ⟨hy,e⟩
abbrev ZdC (k:Int) (l:List Int):Nat:=lowK (fun x:Int=>x) k l
theorem ZbI:∀ {l:List Int},Za3 l → ∀ k:Int,l.take (ZdC k l)=(l.filter fun y=>decide (y<k))∧l.drop (ZdC k l)=l.filter fun y=>decide (k≤y)
 | [],_,k=>by simp
 | x :: l,h,k=>by
  have h':=Yx.1 h
  have ih:=ZbI h'.2 k
  unfold ZdC lowK at *
  by_cases hx:x<k
  ·rw [Ya5 XP,Yl,List.take_succ_cons,List.drop_succ_cons,ih.1,ih.2,YW XP,YX XG]
   exact ⟨rfl,rfl⟩
  ·rw [Ya4 XP]
   simp only [Yy,List.take_zero,List.drop_zero]
   refine ⟨?_,?_⟩
   ·rw [YaI.2]
    intro y hy
    rcases Yo.1 hy with e | hy
    ·subst e;simpa using hx
    ·have:=h'.1 y hy;simp;omega
   ·rw [YaL.2]
    intro y hy
    rcases Yo.1 hy with e | hy
    ·subst e;simp;omega
    ·have:=h'.1 y hy;simp;omega
theorem Zoj {l:List Int} (h:Za3 l) {x:Int} (hx:x ∉ l):l.take (ZdC x l) ++ [x] ++ l.drop (ZdC x l)=ZaB l x true:=by
 rw [(ZbI h x).1,(ZbI h x).2,Yad]
 unfold ZaB
 rw [Ye rfl]
 congr 2
 refine List.filter_congr fun y hy=>?_
 rw [YaW]
 have:y≠x:=fun e=>hx (e ▸ hy)
 omega
theorem Znm {l:List Int} (h:Za3 l) {x:Int} (hx:x ∈ l):ZdC x l<l.length∧l.take (ZdC x l)++l.drop (ZdC x l+1)=ZaB l x false:=by
 have hd:=(ZbI h x).2
 have hm:x ∈ l.drop (ZdC x l):=by rw [hd,YA];exact ⟨hx,by simp⟩
 have hlt:ZdC x l<l.length:=by
  have:=List.length_pos_of_mem hm
  rw [Yu] at this;omega
 refine ⟨hlt,?_⟩
 have hinc:Za3 (l.drop (ZdC x l)):=h.sublist (List.drop_sublist _ _)
 have h0:l.drop (ZdC x l)=l[ZdC x l] :: l.drop (ZdC x l+1):=List.drop_eq_getElem_cons hlt
 have hx0:l[ZdC x l] = x:=by
  rw [h0] at hm hinc
  have h':=Yx.1 hinc
  rcases Yo.1 hm with e | e
  ·exact e.symm
  ·have h1:=h'.1 x e
   have h2:l[ZdC x l] ∈ l.drop (ZdC x l):=by
    have h9:l[ZdC x l] ∈ l[ZdC x l] :: l.drop (ZdC x l+1):=Ya8
    rw [← h0] at h9;exact h9
   rw [hd,YA,Yi] at h2
   omega
 rw [(ZbI h x).1]
 unfold ZaB
 rw [Yb XJ,Yat]
 congr 1
 refine Zd1 (h.sublist (List.drop_sublist _ _)) (h.filter _) fun y=>?_
 rw [YA,Yi]
 have hy:y ∈ l.drop (ZdC x l) ↔ y=x∨y ∈ l.drop (ZdC x l+1):=by rw [h0,hx0];exact Yo
 have h2:y ∈ l.drop (ZdC x l) ↔ y ∈ l∧x≤y:=by rw [hd,YA,Yi]
 have h':∀ z ∈ l.drop (ZdC x l+1),x<z:=by
  rw [h0,hx0] at hinc
  exact (Yx.1 hinc).1
 constructor
 ·intro h9
  exact ⟨(h2.1 (hy.2 (.inr h9))).1,h' y h9⟩
 ·rintro ⟨h8,h9⟩
  rcases hy.1 (h2.2 ⟨h8,ow⟩) with e | e
  ·omega
  ·exact e
abbrev Zf2 {κ:Type} (es:List (GE κ (Value×List Int))):HP:=.star (es.map fun x=>RS.hp (Znb κ 3 1 Zk x))
theorem ZiM {l:List Int} (h:Za3 l):Zb1 (fun x:Int=>x) l:=fun a b hab hb=>by
 rw [Zw ow,Zw hb]
 exact Yao.1 h a b ow hb hab
theorem Zgj {k:Int} {l:List Int} : isK (fun x:Int=>x) k l=decide (k ∈ l):=by
 unfold isK
 rw [Y4,Yal,Yi]
 constructor
 ·rintro ⟨x,hx,h⟩;have:=YV h;exact this ▸ hx
 ·intro h;exact ⟨k,h,by simp⟩
theorem Zi3 {i:Int} {b:Bool} : Zpt (.pv (.tup [.int .i64 i,.bool b])):=fun τ w y y' v ⟨vs,e,h⟩=>⟨vs,e,by
 match vs,h with
 | [a,b],h=>exact h⟩
theorem Zni {k:Int} {l:List Int} : ZdC k l≤l.length:=by unfold ZdC lowK;exact (List.takeWhile_sublist _).length_le
theorem Zpw (v:Value) (l:List Int) (i:Nat) (x:Int) (hll:l.length≤1000000) (hi:i≤l.length):FnG prog 150 1 [.is v,.int .i64 i,.sl Zk [x]] [ZC 3 1 Zk l v] (PV.one) (fun v=>[ZC 3 1 Zk (l.take i ++ [x] ++ l.drop i) v]):=by
 refine FnG.mk func150 O ntmps150 O kr fun B F0 a w F M hG G=>?_
 replace G:=G.turn 1 O (r':=.ob (.val v) (ZC 3 1 Zk l)) (fun _ _ _ _ h=>h)
 refine Ya (rZ G (qC qZ) M Qg Kk fun G=>Ya ?_)
 refine rZ G (qR rr (qR rr (qf (ZgY (sz:=1) 1 (.mk Ybs kr) .is .t ow ow) r2 r1 qZ))) M Qg Kk fun G=>Ya ?_
 refine Zi G (qR rr (qu Ybs r1 (qO rr qZ))) M KK Kk O O fun a w F G=>?_
 replace G:=G.ent (i:=7) (s':=.pv (.int .i64 1)) O (.int O)
 obtain ⟨F,G⟩:=G.nM KK Kk
 refine Za (Ya (Ya (rZ G (qR rr (qf (o_eql .t qi) r1 qz qZ)) M Jy Kk fun G=>?_)))
 refine Zb G O (fun hc0=>?_) (fun hc0=>?_)
 ·simp at hc0
 refine Yc (Za (Ya (rZ G (qR rr (qf (Z3 1 Ybs .is) r1 r1 (qO rr qZ))) M Ku Kk fun G=>(Ya (Ya ?_)))))
 refine rZ G (qR rr (qR rr (qf (o_eql .t .t) r2 qz qZ))) M [22,8,7,6,2,1,0] Kk fun G=>?_
 refine Zb G O (fun hc1=>?_) (fun hc1=>?_)
 ·have hg:=Zkd (x:=x) (by have h9:=hc1;simp at h9;omega:i=l.length)
  refine Ya (rS G (qR rr (qR rr (qf (o_append (sz:=1) (bs:=8) 1 (.mk' Ybs kr kr) XW .is (.sl .t) Wu XJ) ⟨rfl,rfl,tv⟩ ⟨rfl,tv⟩ (qO rr qZ)))) M Ku Kk fun τ G=>?_)
  have G:=Xj
  generalize τ 25=v25 at G
  refine Za (Yh (Ze ?_))
  have G:=G.turn 1 O (r':=RS.hp (ZC 3 1 Zk (l.take i ++ [x] ++ l.drop i) v25)) (fun _ _ _ _ h=>by rw [hg];exact h)
  refine Zac (h':=fun v=>ZC 3 1 Zk (l.take i ++ [x] ++ l.drop i) v) hG G O (.tmp O .nil) (.one .one) rfl
 have hil:i<l.length:=XU
 have hw1:IntKind.wrap .i64 ((i:Int)+1)=((i+1:Nat):Int):=Z4 ow
 have hwn:IntKind.wrap .i64 ((l.length:Int)+1)=((l.length+1:Nat):Int):=Z4 ow
 refine Yc (Za (Ya (Ya (rZ G (qR rr (qR rr (qf (Zbb .t .t) r2 qz (qR rr (qf (ZhM 1 Ybs .is) r1 r1 (qf (Za7 .t .t) r2 qz qZ)))))) M [31,8,7,6,2,1,0] Kk fun G=>?_))))
 refine Zb G O (fun hc2=>?_) (fun hc2=>?_)
 ·have hcap:capV v<l.length+1:=WQ
  have hw:IntKind.wrap .i64 (IntKind.wrap .i64 ((l.length:Int)+1) - (i:Int))=((l.length+1 - i:Nat):Int):=by rw [hwn,ZK ow];omega
  refine Ya (rS G (qR rr (qR rr (qf (Zcv (sz:=1) 1 (.mk Ybs kr) .is .t ow ow) r2 r1 (qR rr (qR rr (qf (Zbb .t .t) r2 qz (qR rr (qf (o_sub .t .t) r2 qz (qf (ZcG (R:=Zk) (z:=(0:Int)) (bs:=8) (sz:=1) (zs:=[.int .i64 0]) 1 101 Ybs Ybx kr kr kr XW (fun _ _=>⟨⟨rfl,rfl,ZfP⟩,tv⟩) .t .t ow XY XY XY XY) ⟨rfl,rfl,tv⟩ ⟨rfl,tv⟩ (qO rr qZ)))))))))) M KS KQ fun τ G=>?_)
  have G:=Xj
  generalize τ 40=v40 at G
  rw [hw] at G
  simp only [Yg] at G
  obtain ⟨l2,hl2⟩:∃ y,y=l.take i++List.replicate (l.length+1 - i) (0:Int):=⟨_,rfl⟩
  rw [← hl2] at G
  have hl2n:l2.length=l.length+1:=by rw [hl2,Yd,Yj,List.length_replicate];omega
  obtain ⟨F,G⟩:=G.give 1 0 O rfl
  obtain ⟨F,G⟩:=G.nM KS Kf
  refine Za (Ya (Zi G (qR rr (qR rr (qf (Zat (sz:=1) 101 (.mk Ybs kr) .is .t ow ow) r2 r1 (qR rr (qf (o_copy_sub 101 Ybs kr XW .t .t XA XG) r2 r1 qZ))))) M KS Kf O O fun a w F G=>?_))
  simp only [Yg] at G
  obtain ⟨l3,hl3⟩:∃ y,y=l2.take i ++ [x] ++ l2.drop (i + [x].length):=⟨_,rfl⟩
  rw [← hl3] at G
  have hl3n:l3.length=l.length+1:=by rw [hl3,Yd,Yd,Yj,Yu,hl2n];simp;omega
  refine Za (Ya (ZA G (qR rr (qR rr (qR rr (qf (Zbb .t .t) r2 qz (qf (Zat (sz:=1) 101 (.mk Ybs kr) .is .t Wv Wv) r2 r1 (qR rr (qR rr (qf (Zcm (sz:=1) (.mk Ybs kr) XW .t .t ow ow) r2 qz (qf (o_copy_sub 101 Ybs kr XW .t .t Ww (by rw [hw1,Yu];omega)) r2 r1 qZ))))))))) M KS Kf O O fun a w F G=>?_))
  try dsimp only [Zk] at G
  rw [hw1] at G
  simp only [Yg] at G
  have hg:=Zji (x:=x) hil hl2 hl3
  refine Za (Ya (rZ G (qR rr (qO rr qZ)) M Ku Kf fun G=>(Yh (Ze ?_))))
  obtain ⟨F,G⟩:=G.rename 101 1 O rfl
  have G:=G.turn 1 O (r':=RS.hp (ZC 3 1 Zk (l.take i ++ [x] ++ l.drop i) v40)) (fun _ _ _ _ h=>by rw [hg];exact h)
  refine Zac (h':=fun v=>ZC 3 1 Zk (l.take i ++ [x] ++ l.drop i) v) hG G O (.tmp O .nil) (.one .one) rfl
 have hcap:l.length+1≤capV v:=WQ
 refine Yc (Za (Ya (rS G (qR rr (qR rr (qR rr (qf (Zbb .t .t) r2 qz (qf (ZfZ (sz:=1) 1 (.mk Ybs kr) .is .t (by rw [hwn];omega) ow) r2 r1 (qO rr qZ)))))) M Ku Kk fun τ G=>?_)))
 have G:=Xd
 generalize τ 60=v60 at G
 refine Za (Ya (Ya (rZ G (qR rr (qR rr (qR rr (qR rr (qf (Zbb .t .t) r2 qz (qf (Za8 (sz:=1) 1 (.mk Ybs kr) .is .t Wv Wv) r2 r1 (qf (ZfW 1 func216 kr kr kr O Ybs kr XW .t .t Wv) r2 r1 (qf (o_not .t) r1 qz qZ)))))))) M [68,8,7,6,2,1,0] Kk fun G=>?_)))
 refine Zb G O (fun hc3=>?_) (fun hc3=>?_)
 ·refine Ya (ZA G (qR rr (qR rr (qR rr (qf (Zbb .t .t) r2 qz (qf (Za8 (sz:=1) 1 (.mk Ybs kr) .is .t Wv Wv) r2 r1 (qR rr (qR rr (qf (Za8 (sz:=1) 1 (.mk Ybs kr) .is .t ow ow) r2 r1 (qf (Zeb (k:=i) 1 Ybs kr XW .t .t (by rw [hw1];rfl) O ow) r2 r1 qZ))))))))) M Ku Kk O O fun a w F G=>?_)
  try dsimp only [Zk] at G
  obtain ⟨l4,hl4⟩:∃ y,y=l.take (i+1)++l.drop i:=⟨_,rfl⟩
  rw [← hl4] at G
  have hl4n:l4.length=l.length+1:=K1
  refine Za (Ya (Zi G (qR rr (qR rr (qf (Zat (sz:=1) 1 (.mk Ybs kr) .is .t ow ow) r2 r1 (qR rr (qf (o_copy_sub 1 Ybs kr XW .t .t XA XG) r2 r1 qZ))))) M Ku Kk O O fun a w F G=>?_))
  simp only [Yg] at G
  have hg:=ZgR (x:=x) hil hl4
  refine Za (Ya (rZ G (qR rr (qO rr qZ)) M Ku Kk fun G=>(Yh (Ze ?_))))
  have G:=G.turn 1 O (r':=RS.hp (ZC 3 1 Zk (l.take i ++ [x] ++ l.drop i) v60)) (fun _ _ _ _ h=>by rw [hg];exact h)
  refine Zac (h':=fun v=>ZC 3 1 Zk (l.take i ++ [x] ++ l.drop i) v) hG G O (.tmp O .nil) (.one .one) rfl
 simp at hc3
theorem ZoX (v:Value) (l:List Int) (i:Nat) (hll:l.length≤1000000) (hi:i<l.length):FnG prog 147 1 [.is v,.int .i64 i,.int .i64 ((i+1:Nat):Int)] [ZC 3 1 Zk l v] (PV.one) (fun v=>[ZC 3 1 Zk (l.take i++l.drop (i+1)) v]):=by
 refine FnG.mk func147 O ntmps147 O kr fun B F0 a w F M hG G=>?_
 replace G:=G.turn 1 O (r':=.ob (.val v) (ZC 3 1 Zk l)) (fun _ _ _ _ h=>h)
 have hrc:=(G.rowCap (n:=1) rfl).1
 refine Ya (rZ G (qC qZ) M Qg Kk fun G=>Ya ?_)
 refine rZ G (qR rr (qR rr (qR rr (qR rr (qf (Z3 1 Ybs .is) r1 r1 (qf (ZiL (sz:=1) 1 (.mk Ybs kr) .is .t .t .t ow ow ow ow) r4 r1 qZ)))))) M Qg Kk fun G=>(Ya (Ya ?_))
 refine rZ G (qR rr (qR rr (qf (o_eql .t .t) r2 qz qZ))) M [16,6,2,1,0] Kk fun G=>?_
 refine Zb G O (fun hc0=>?_) (fun hc0=>?_)
 ·simp at hc0;omega
 refine Yc (Za (Ya (rZ G (qR rr (qf (Z3 1 Ybs .is) r1 r1 (qO rr qZ))) M KK Kk fun G=>Ya ?_)))
 refine ZA G (qR rr (qR rr (qf (Zcv (sz:=1) 1 (.mk Ybs kr) .is .t ow ow) r2 r1 (qR rr (qR rr (qf (Zd4 (sz:=1) 1 (.mk Ybs kr) .is .t ow ow ow) r2 r1 (qf (Zdw 1 Ybs kr XW .t .t ow ow ow) ⟨rfl,rfl,tv⟩ ⟨rfl,tv⟩ (qO rr qZ)))))))) M [7,6,0] Kk O O fun a w F G=>?_
 try dsimp only [xC,xN,Zk] at G
 simp only [Yg] at G
 obtain ⟨v2,hv2⟩:∃ y,y=Zfu (i+(l.length - (i+1))) v:=⟨_,rfl⟩
 rw [← hv2] at G
 have hcv:capV v2=capV v:=by rw [hv2];exact Zhf _ _
 obtain ⟨l4,hl4⟩:∃ y,y=l.take i++l.drop (i+1):=⟨_,rfl⟩
 rw [← hl4] at G
 have hl4n:l4.length+1=l.length:=K1
 have hg:=hl4.symm
 refine Za (Ya (rZ G (qR rr (qR rr (qf (Z3 1 Ybs .is) r1 r1 (qR rr (qf (ZkD (sz:=1) 1 (.mk Ybs kr) .is .t .t ow ow Wx) r3 r1 (qf (Zdx (zs:=[.int .i64 0]) 1 Ybs O O (Zf5 (zs:=[.int .i64 0]) (R:=Zk) (v:=(0:Int)) O XJ (fun _ _=>⟨⟨rfl,rfl,ZfP⟩,tv⟩) _) .t ow Wx) r1 r1 qZ)))))) M [6,0] Kk fun G=>Ya ?_))
 refine rZ G (qR rr (qO rr qZ)) M [6] Kk fun G=>Yh ?_
 have G:=G.turn 1 O (r':=RS.hp (ZC 3 1 Zk (l.take i++l.drop (i+1)) v2)) (fun _ _ _ _ h=>by rw [hg];exact h)
 refine Zac (h':=fun v=>ZC 3 1 Zk (l.take i++l.drop (i+1)) v) hG G O (.tmp O .nil) (.one .one) rfl
theorem ZiO (x:Int):FnP prog 175 [.int .i64 x] (.bool false):=by
 refine FnP.mk func175 O ntmps175 O fun B a w F M hfr G=>Ya ?_
 refine rZ G qB M KO [0] fun G=>Ya ?_
 refine rZ G (qR rr (qR rr (qf (o_neq .t .t) r2 qz (qO rr qZ)))) M [2] [0] fun G=>Yh ?_
 refine Zr hfr G O O O (.bool XA)
theorem Zi4 (x:Int):FnP prog 214 [.int .i64 x] (.bool false):=by
 refine FnP.mk func214 O ntmps214 O fun B a w F M hfr G=>Ya ?_
 refine rZ G qB M KO [0] fun G=>Ya ?_
 refine rZ G (qR rr (qR rr (qf (o_neq .t .t) r2 qz (qO rr qZ)))) M [2] [0] fun G=>Yh ?_
 refine Zr hfr G O O O (.bool XA)
theorem Zn7 (x y:Int):FnP prog 213 [.int .i64 x,.int .i64 y] (.bool (decide (x<y))):=by
 refine FnP.mk func213 O ntmps213 O fun B a w F M hfr G=>Ya ?_
 refine rZ G qB M Kr [0] fun G=>Ya ?_
 refine rZ G (qR rr (qf (oP (ZiO x) func175 (Args.one .t)) r1 qz (qR rr (qm O O O O (qk O (fun h=>oP (ZiO y) func175 (Args.one (.w h))) r2 qz (qk O (fun h=>o_not (.w h)) r2 qz (qf (o_and2 .t .t) r2 qz (qR rr (qm O O O O (qm O O O O (qk O (fun h=>ZcQ (.w h) (.w h)) r3 qz (qf (ZaU .t .t) r2 qz (qO rr qZ))))))))))))) M [4] [0] fun G=>Yh ?_
 refine Zr hfr G O O O (.bool XA)
theorem Znc (l:List Int) (k:Int) (hll:l.length≤1000000) (hs:Zb1 (fun x:Int=>x) l):FnP prog 146 [.sl Zk l,.int .i64 k] (.tup [.int .i64 (lowK (fun x:Int=>x) k l),.bool (isK (fun x:Int=>x) k l)]):=by
 refine FnP.mk func146 O ntmps146 O fun B a w F M hfr G=>Ya ?_
 refine rZ G (qI qB) M KA [0] fun G=>Ya ?_
 refine rZ G (qR rr (qu Ybs r1 (qO rr qZ))) M Kx [0] fun G=>Ya ?_
 refine rZ G (qR rr (qI (qO rr qZ))) M QX [0] fun G=>(Ya (Yf ?_))
 refine Zj (σ:=Nat×Nat) [0,1,4,5,6] [0] (fun s=>[(7,.pv (.int .i64 (s.1:Int))),(8,.pv (.int .i64 (s.2:Int)))]) (fun s=>[]) (fun s=>s.1≤s.2∧s.2≤l.length∧(∀ q,q<s.1→Nn l q<k) ∧ ∀ q,s.2≤q→q<l.length→k≤Nn l q) (fun s=>s.2 - s.1) ((0),(l.length)) G ⟨rfl,rfl,rfl,rfl,rfl,rfl,rfl,tv⟩ ⟨rfl,tv⟩ ⟨Yp _,YP _,fun q hq=>absurd hq (YO q),fun q h1 h2=>by omega⟩ ?_
 clear G;intro s a w F hC G
 obtain ⟨i,j⟩:=s
 have hC:=X4
 obtain ⟨F,G⟩:=G.nM QX [0]
 have G:=X2
 obtain ⟨hij,hjl,hlo,hhi⟩:=hC
 have hgl:=Zfo (κ:=fun x:Int=>x) (i:=i) ow hlo
 refine Ya (Ya (rZ G (qR rr (qR rr (qL r2))) M [15,8,7,6,5,4,1,0] [0] fun G=>?_))
 refine Zb G O (fun hc0=>?_) (fun hc0=>?_)
 ·have hlt:i<j:=XV
  refine Yc (Za (Yf (Ya (Zi G (qR rr (qR rr (qf (Zbb .t .t) r2 qz (qf (ZbY underlying219 kr .t) r1 qz (qf (ZnI .t qi XJ) r1 qz (qf (ZbY Ybx kr .t) r1 qz (qO rr qZ))))))) M [9,8,7,6,5,4,1,0] [0] O O fun a w F G=>?_))))
  obtain ⟨m,hm⟩:∃ m:Nat,m=(i+j) / 2:=⟨_,rfl⟩
  replace G:=G.ent (i:=9) (s':=.pv (.int .i64 (m:Int))) O (.int (by rw [hm];exact Zh9 ow))
  obtain ⟨F,G⟩:=G.nM [9,8,7,6,5,4,1,0] [0]
  refine Za (Ya (Zi G (qR rr (qR rr (qy 1 Ybs r2 (qf (oR false 1 .t) r1 qz (qR rr (qf (oP (Zn7 (Nn l m) k) func213 (Args.two .t .t)) r2 qz qZ)))))) M [27,9,8,7,6,5,4,1,0] [0] O O fun a w F G=>?_))
  try simp only [Yg] at G
  refine Za (Zb G O (fun hc1=>?_) (fun hc1=>?_))
  ·have hmk:(Nn l m)<k:=Wj
   obtain ⟨i2,hi2e⟩:∃ z,z=m+1:=⟨_,rfl⟩
   obtain ⟨j2,hj2e⟩:∃ z,z=j:=⟨_,rfl⟩
   have hi2:IntKind.wrap .i64 ((m:Int)+1)=(i2:Int):=WR
   have hj2:(j:Int)=(j2:Int):=Kd
   have hmu:j2 - i2<j - i:=ow
   have hC2:i2≤j2∧j2≤l.length∧(∀ q,q<i2→Nn l q<k) ∧ ∀ q,j2≤q→q<l.length→k≤Nn l q:=⟨ow,ow,fun q hq=>Int.lt_of_le_of_lt (ZcX (κ:=fun x:Int=>x) hs ow ow) hmk,by rw [hj2e];exact hhi⟩
   refine Zi G (qR rr (qp r1 (qO rr qZ))) M QX [0] O O fun a w F G=>Zh (Za ?_)
   replace G:=G.ent (i:=7) (s':=.pv (.int .i64 (i2:Int))) O (.int hi2)
   replace G:=G.ent (i:=8) (s':=.pv (.int .i64 (j2:Int))) O (.int hj2)
   obtain ⟨F,G⟩:=G.nM [6,5,4,1,0,8,7] [0]
   exact ⟨((i2),(j2)),F,hC2,G,hmu⟩
  have hmk:k≤(Nn l m):=Int.not_lt.1 (show ¬ (Nn l m)<k by simpa using hc1)
  obtain ⟨i2,hi2e⟩:∃ z,z=i:=⟨_,rfl⟩
  obtain ⟨j2,hj2e⟩:∃ z,z=m:=⟨_,rfl⟩
  have hi2:(i:Int)=(i2:Int):=Kc
  have hj2:(m:Int)=(j2:Int):=Kd
  have hmu:j2 - i2<j - i:=ow
  have hC2:i2≤j2∧j2≤l.length∧(∀ q,q<i2→Nn l q<k) ∧ ∀ q,j2≤q→q<l.length→k≤Nn l q:=⟨ow,ow,by rw [hi2e];exact hlo,fun q h1 h2=>Yba hmk (ZcX (κ:=fun x:Int=>x) hs ow h2)⟩
  refine Zi G (qR rr (qO rr qZ)) M QX [0] O O fun a w F G=>Zh (Za ?_)
  replace G:=G.ent (i:=7) (s':=.pv (.int .i64 (i2:Int))) O (.int hi2)
  replace G:=G.ent (i:=8) (s':=.pv (.int .i64 (j2:Int))) O (.int hj2)
  obtain ⟨F,G⟩:=G.nM [6,5,4,1,0,8,7] [0]
  exact ⟨((i2),(j2)),F,hC2,G,hmu⟩
 have hjj:i=j:=XV
 subst hjj
 have hgl2:=hgl hhi
 have hgs2:=ZlC (κ:=fun x:Int=>x) (i:=i) ow hs hlo hhi
 refine Yt (Zg (Zg (Zp (Za (Ya (Zi G (qR rr (qR rr (qR rr (qf (ZcQ .t .t) r2 qz (qR rr (qm O O O O (qm O O O O (qk O (fun h=>ZP (sz:=1) (.mk Ybs kr) XW (.w h) (.w h) ow (by have:=YV h;omega)) r3 qz (qk O (fun h=>oR false 1 (.w h)) r2 qz (qm O O O O (qk O (fun h=>o_eql (.w h) (.w h)) r3 qz (qk O (fun h=>oM (.w h)) r2 qz (Chain.cons (Cert.cond2 O O (fun h=>o_move .t XI)) r2 qz (Chain.cons (Cert.cond2 O O (fun h=>o_move .t XI)) r2 qz (Chain.cons (Cert.cond2 O O (fun h=>ZP (sz:=1) (.mk Ybs kr) XW (.w h) (.w h) ow (by have:=YV h.1;omega))) r3 qz (Chain.cons (Cert.cond2 O O (fun h=>ZfV (ag:=false) (sz:=1) (.w h) kr kr kr)) r2 qz (Chain.cons (Cert.cond2 O O (fun h=>Zh8 (Zi4 _) func214 O kr (Args.one (.w h)))) r2 qz (Chain.cons (Cert.cond2 O O (fun h=>o_move (.w h) XI)) r2 qz (Chain.cons (Cert.cond2 O O (fun h=>o_move .t XI)) r2 qz (Chain.cons (Cert.cond2 O O (fun h=>Zh8 (Zi4 _) func214 O kr (Args.one (.w h)))) r2 qz (Chain.cons (Cert.cond2 O O (fun h=>o_and2 (.w h) (.wc h))) r3 qz (qk O (fun h=>ZaU (.w h) (.wc h)) r3 qz (qf (o_and2 .t .t) r2 qz (qO rr (qO rr qZ))))))))))))))))))))))))) M KZ [0] O O fun a w F G=>?_))))))
 have G:=Xp
 try simp only [Yg] at G
 refine Za (Yh (ZL hfr G O (.tmp O (.tmp O .nil)) (.two (.int (by rw [hgl2])) (.bool (by rw [Y4,hgs2];simp)))))
theorem Znp {κ:Type} [DecidableEq κ] (es:List (GE κ (Value×List Int))) (ck:Nat) (k:κ) (u:Value) (l:List Int) (id:Int) (hu:(gGet k es).getD ZaP=(u,l)) (hinc:Za3 l) (hll:l.length≤1000000):FnG prog 88 1 [.is u,.int .i64 id] [Zf2 es] (PV.one) (fun v=>[Zf2 (gPut k (v,ZaB l id true) (es,ck)).1]):=by
 refine FnG.mk func88 O ntmps88 O kr fun B F0 a w F M hG G=>?_
 obtain ⟨F,G⟩:=G.takeKey (T:=3) (sz:=1) (R:=Zk) 1 61 k O rfl
 rw [hu] at G
 have G:=X2
 obtain ⟨F,G⟩:=G.nM Kk KY
 refine Ya (rZ G (qC qZ) M Kr KY fun G=>Ya ?_)
 refine rZ G (qR rr (qR rr (qf (OpC.lendRow 61 [8] (oP (Znc l id hll (ZiM hinc)) func146 (Args.two .t .t)) ⟨rfl,tv,tv⟩ Zi3 trivial XI) r2 r1 (qR rr (qf (Zn .t O) r1 qz (qf (Zn .t O) r1 qz (qO rr (qO rr qZ)))))))) M Kx KY fun G=>(Ya (Ya ?_))
 refine rZ G (qR rr qZ) M [13,5,4,1,0] KY fun G=>?_
 refine Zb G O (fun hc0=>?_) (fun hc0=>?_)
 ·have hx:true=decide (id ∈ l):=by rw [← Zgj];exact hc0.symm
  refine Ya (rZ G (qR rr (qO rr qZ)) M KA KY fun G=>(Yh (Ze ?_)))
  have G:=G.turn 61 O (r':=.ob (.val u) (ZC 3 1 Zk (ZaB l id true))) (by rw [ZgV hinc hx];exact fun _ _ _ _ h=>h)
  obtain ⟨F,G⟩:=G.putKey (T:=3) (sz:=1) (R:=Zk) (v:=u) (l:=(ZaB l id true)) 1 61 k ck O O rfl
  refine Zac (h':=fun v=>Zf2 (gPut k (v,ZaB l id true) (es,ck)).1) hG G O (.tmp O .nil) (.one .one) rfl
 have hx:id ∉ l:=by have h9:=hc0;rw [Zgj] at h9;simpa using h9
 refine Yc (Za (Ya (ZaS 5 G kr (cG O (oM .t) r1 trivial (cG O (oM .t) r1 trivial (cG O (oM .t) r1 trivial (cG O (Zo (sz:=1) (zs:=[.int .i64 0]) (r:=[(0,.tmp 17)]) (l:=[_]) Ybs kr kr kr kr O O (.one O .t one_int kr .nil) O) r1 trivial (cG O (ZaO 61 (Zpw u l (ZdC id l) id hll Zni) func150 O kr (Args.three .t .t (.conv .t (Ent.arrSl (R:=Zk) (l:=[id]) O))) Zar) r3 r1 ZO.nil))))) kr Wd fun a w F G=>?_)))
 replace G:=G.sub
 obtain ⟨F,G⟩:=G.nM [19,4] KY
 have G:=X3
 generalize Act.tau a 19=v19 at G
 rw [Zoj hinc hx] at G
 refine Zbl G kr (cG O (oN .t) r1 trivial ZO.nil) kr Wd fun a w F G=>?_
 obtain ⟨F,G⟩:=G.nM [4] KY
 try dsimp only [Zk] at G
 refine Za (Yh ?_)
 obtain ⟨F,G⟩:=G.putKey (T:=3) (sz:=1) (R:=Zk) (v:=v19) (l:=(ZaB l id true)) 1 61 k ck O O rfl
 refine Zac (h':=fun v=>Zf2 (gPut k (v,ZaB l id true) (es,ck)).1) hG G O (.tmp O .nil) (.one .one) rfl
theorem ZgU {κ:Type} [DecidableEq κ] (es:List (GE κ (Value×List Int))) (ck:Nat) (k:κ) (u:Value) (l:List Int) (id:Int) (hu:(gGet k es).getD ZaP=(u,l)) (hinc:Za3 l) (hll:l.length≤1000000):FnG prog 83 1 [.is u,.int .i64 id] [Zf2 es] (PV.one) (fun v=>[Zf2 (gPut k (v,ZaB l id false) (es,ck)).1]):=by
 refine FnG.mk func83 O ntmps83 O kr fun B F0 a w F M hG G=>?_
 obtain ⟨F,G⟩:=G.takeKey (T:=3) (sz:=1) (R:=Zk) 1 61 k O rfl
 rw [hu] at G
 have G:=X2
 obtain ⟨F,G⟩:=G.nM Kk KY
 refine Ya (rZ G (qC qZ) M Kr KY fun G=>Ya ?_)
 refine rZ G (qR rr (qR rr (qf (OpC.lendRow 61 [8] (oP (Znc l id hll (ZiM hinc)) func146 (Args.two .t .t)) ⟨rfl,tv,tv⟩ Zi3 trivial XI) r2 r1 (qR rr (qf (Zn .t O) r1 qz (qf (Zn .t O) r1 qz (qO rr (qO rr qZ)))))))) M [6,5,4,0] KY fun G=>(Ya (Ya ?_))
 refine rZ G (qR rr (qf (o_not .t) r1 qz qZ)) M [14,5,4,0] KY fun G=>?_
 refine Zb G O (fun hc0=>?_) (fun hc0=>?_)
 ·have hx:false=decide (id ∈ l):=by rw [← Zgj];have h9:=hc0;simpa using h9.symm
  refine Ya (rZ G (qR rr (qO rr qZ)) M [5,4,0] KY fun G=>(Yh (Ze ?_)))
  have G:=G.turn 61 O (r':=.ob (.val u) (ZC 3 1 Zk (ZaB l id false))) (by rw [ZgV hinc hx];exact fun _ _ _ _ h=>h)
  obtain ⟨F,G⟩:=G.putKey (T:=3) (sz:=1) (R:=Zk) (v:=u) (l:=(ZaB l id false)) 1 61 k ck O O rfl
  refine Zac (h':=fun v=>Zf2 (gPut k (v,ZaB l id false) (es,ck)).1) hG G O (.tmp O .nil) (.one .one) rfl
 have hx:id ∈ l:=by have h9:=hc0;rw [Zgj] at h9;simpa using h9
 refine Yc (Za (Ya (ZaS 5 G kr (cG O (oM .t) r1 trivial (cG O (oM .t) r1 trivial (cG O (oM .t) r1 trivial (cG O (Zbb .t (.ci kr)) r1 trivial (cG O (ZaO 61 (ZoX u l (ZdC id l) hll (Znm hinc hx).1) func147 O kr (Args.three .t .t (.conv .t (Ent.int (Z4 (by have:=@Zni id l;omega))))) Zar) r3 r1 ZO.nil))))) kr Wd fun a w F G=>?_)))
 replace G:=G.sub
 obtain ⟨F,G⟩:=G.nM [20,4] KY
 have G:=Xd
 generalize Act.tau a 20=v20 at G
 rw [(Znm hinc hx).2] at G
 refine Zbl G kr (cG O (oN .t) r1 trivial ZO.nil) kr Wd fun a w F G=>?_
 obtain ⟨F,G⟩:=G.nM [4] KY
 try dsimp only [Zk] at G
 refine Za (Yh ?_)
 obtain ⟨F,G⟩:=G.putKey (T:=3) (sz:=1) (R:=Zk) (v:=v20) (l:=(ZaB l id false)) 1 61 k ck O O rfl
 refine Zac (h':=fun v=>Zf2 (gPut k (v,ZaB l id false) (es,ck)).1) hG G O (.tmp O .nil) (.one .one) rfl
theorem Zd6 {P:Program} {w:World} {d:Nat} {e:TypeId} (he:P.underlying e=some (.int .i64)) {l m:List Int} : ∀ (is:List Nat),(∀ i ∈ is,i<l.length∧i<m.length)→(Op.eqItems (d+1) e 1 (l.map fun n=>Value.int .i64 n).toArray (m.map fun n=>Value.int .i64 n).toArray is).run P w = .ok (is.all fun i=>decide (l[i]? = m[i]?)) w
 | [],_=>by simp [Op.eqItems]
 | i :: is,h=>by
  have hag:P.aggB e=some false:=by unfold Program.aggB;rw [he]
  obtain ⟨h1,h2⟩:=h i XA
  have p1:(part e (l.map fun n=>Value.int .i64 n).toArray (i*1)).run P w = .ok (.int .i64 l[i]) w:=by simp [part,ZaW hag,h1]
  have p2:(part e (m.map fun n=>Value.int .i64 n).toArray (i*1)).run P w = .ok (.int .i64 m[i]) w:=by simp [part,ZaW hag,h2]
  have p3:(Op.equalIn (d+1) e (.int .i64 l[i]) (.int .i64 m[i])).run P w = .ok (l[i] == m[i]) w:=run_equalIn_int w d e .i64 _ _ _ he
  have ih:=Zd6 (P:=P) (w:=w) (d:=d) he is (fun j hj=>h j (YQ _ hj))
  simp only [Op.eqItems,YD,p1,p2,p3,Yq]
  rw [List.all_cons,YaT h1,YaT h2]
  by_cases hab:l[i] = m[i]
  ·simp [hab,ih]
  ·simp [hab]
theorem Zlw {l m:List Int} {n:Nat} (hl:l.length=n) (hm:m.length=n):((List.range n).all fun i=>decide (l[i]? = m[i]?))=decide (l=m):=by
 rw [Y4,Yag,Yi]
 constructor
 ·intro h
  apply List.ext_getElem?
  intro i
  by_cases hi:i<n
  ·simpa using h i (List.mem_range.2 hi)
  ·rw [List.getElem?_eq_none ow,List.getElem?_eq_none ow]
 ·rintro rfl i _
  simp
theorem Zmo {P:Program} {κ:Type} [DecidableEq κ] {kt et:TypeId} {enc:κ→List Int} {n:Nat} (hl:∀ k,(enc k).length=n) (hi:∀ a b,enc a=enc b→a=b) (hu:P.underlying kt=some (.array n et)) (he:P.underlying et=some (.int .i64)) (hc:P.cellsOf et=1):ZhN P kt (fun k=>∀ x ∈ enc k,inR .i64 x) (kvS enc) where
 check:=fun b k w _=>by
  obtain ⟨ti,hti⟩:∃ i,P.info? et=some i:=info_of_underlying he
  have hag:P.aggB et=some false:=by unfold Program.aggB;rw [he]
  unfold kvS
  rw [show (10000:Nat)=9998+1+1 from rfl,Instr.checkKey]
  simp only [YD,Yk hu,Yq]
  simp only [Std.Legacy.Range.forIn_eq_forIn_range',Std.Legacy.Range.size,Ybq,Nat.add_one_sub_one,Nat.div_one]
  have each:∀ i ∈ List.range' 0 n,i<(enc k).length:=by intro i h;rw [hl];simp [List.mem_range'] at h;omega
  generalize List.range' 0 n=is at each
  induction is with
  | nil=>simp
  | cons j is ih=>
   have h1:=each j XA
   have p1:(part et ((enc k).map fun n=>Value.int .i64 n).toArray (j*1)).run P w = .ok (.int .i64 (enc k)[j]) w:=by simp [part,ZaW hag,h1]
   have p2:(Instr.checkKey b (9998+1) et (.int .i64 (enc k)[j])).run P w = .ok () w:=Go.MapKept.run_checkKey he (by simp [Go.MapKept.IsKey]) b 9998
   simp only [List.forIn_cons,YD,run_sizeOf w hti,hc,Yq,p1,p2,YN]
   exact ih (fun y hy=>each y (by simp [hy]))
 find:=fun es k w hok hks=>by
  obtain ⟨ti,hti⟩:∃ i,P.info? et=some i:=info_of_underlying he
  rw [run_findKey_eq (P:=P) (w:=w) (k:=kt) (by rw [hu]) (kvS enc k) (es.map (rEnc (kvS enc)))]
  have key:∀ (es:List (GE κ Value)) (j:Nat),(Instr.findAsking kt (kvS enc k) (es.map (rEnc (kvS enc))) j).run P w = .ok ((gIdx k es).map fun i=>(i+j,(gGet k es).getD undef)) w:=by
   intro es
   induction es with
   | nil=>intro j;simp [Instr.findAsking,gIdx]
   | cons e es ih=>
    intro j
    have hq:(Op.equal kt (kvS enc k) (kvS enc e.key)).run P w = .ok (decide (enc k=enc e.key)) w:=by
     unfold Op.equal Op.maxDepth kvS
     rw [show (10000:Nat)=9998+1+1 from rfl,run_equalIn_array w (9998+1) _ _ hu hti,hc,Zd6 he _ (fun i h=>by rw [hl,hl];simpa using h),Zlw (hl _) (hl _)]
    rw [YJ]
    unfold Instr.findAsking
    have ih':=ih (j+1)
    by_cases h:k=e.key
    ·have hek:enc k=enc e.key:=by rw [h]
     simp only [rEnc,YD,hq,hek,decide_true,Yq,Yv,YN]
     simp [gIdx,gGet,h]
    ·have hek:¬ enc k=enc e.key:=fun h'=>h (hi _ _ h')
     simp only [rEnc,YD,hq,Yw hek,Yq,YaU,Ym]
     rw [show (es.map fun e=>rEnc (kvS enc) e)=es.map (rEnc (kvS enc)) from rfl] at *
     rw [ih']
     simp only [gIdx,gGet,Yb h]
     cases hm:gIdx k es with
     | none=>rfl
     | some i=>simp;omega
  have:=key es 0
  simpa using this
 same:=fun k=>Zfe (enc k) 9999
theorem Sat.shrink {B:ZaK} {E:En} {a:Act} {w:World} {F:Fp} {r r':RS} (h:Sat B E a w F) (n:Nat) (hl:Go.Gm.look E.r n=some r) (hd:ZcH r'.deps=true) (hr:∀ τ w f y,r.holds τ w f y → ∃ f':Ys,(∀ b,f' b→f b)∧r'.holds τ w f' y):∃ F',Sat B ⟨E.s,(n,r') :: E.r⟩ a w F':=by
 obtain ⟨f',hf,hh⟩:=hr _ _ _ _ (h.r n r hl)
 have hle:∀ b,U (fun m=>if m=n then f' else F m) b→U F b:=fun b ⟨m,hm⟩=>by
  by_cases e:m=n
  ·simp only [e,Yv] at hm;exact ⟨n,hf b hm⟩
  ·simp only [e,Ym] at hm;exact ⟨m,hm⟩
 have hev:=Ev.less w hle
 have hsub:∀ m b,(if m=n then f' else F m) b→F m b:=fun m b hm=>by
  by_cases e:m=n
  ·simp only [e,Yv] at hm;rw [e];exact hf b hm
  ·simp only [e,Ym] at hm;exact hm
 refine ⟨fun m=>if m=n then f' else F m,⟨fun i k b hi hk=>h.wf.dis i k b (hsub i b hi) (hsub k b hk),fun i b hi=>h.wf.bd i b (hsub i b hi)⟩,h.ev.trans hev,h.n,h.df,fun j s hj=>SF.mono hev (fun _ _=>rfl) (h.s j s hj),fun i r2 hi=>?_,fun i b hi=>?_⟩
 ·rw [Zf] at hi
  split at hi
  ·rename_i e
   simp only [Y7] at hi;subst hi;subst e
   simp only [Yv]
   exact RS.mono hev (fun _ _=>rfl) (fun _ _=>rfl) hh
  ·rename_i e
   simp only [show i≠n from fun k=>e k.symm,Ym]
   exact RS.mono hev (fun _ _=>rfl) (fun _ _=>rfl) (h.r i r2 hi)
 ·rw [Zf]
  split
  ·exact ⟨_,rfl⟩
  ·exact h.em i b (hsub i b hi)
theorem Zdg {w:World} {y y':Ys} : ∀ {l:List Int} {xs:List Value},PVs (l.flatMap Zk) xs w y→PVs (l.flatMap Zk) xs w y'
 | [],[],_=>trivial
 | _ :: l,_ :: xs,h=>⟨h.1,Zdg (l:=l) h.2⟩
 | [],_ :: _,h=>h.elim
 | _ :: _,[],h=>h.elim
theorem Zli {T:Nat} {l:List Int} {v:Value} {w:World} {f y y':Ys} (h:(ZC T 1 Zk l v).p w f y):(ZC T 1 Zk l v).p w f y':=by
 obtain ⟨xs,h1,h2,h3⟩:=h
 exact ⟨xs,h1,Zdg h2,h3⟩
theorem Sat.backKey {α:Type} {T sz:Nat} {R:α→List PV} {B:ZaK} {E:En} {a:Act} {w:World} {F:Fp} {κ:Type} [DecidableEq κ] {es:List (GE κ (Value×List α))} (h:Sat B E a w F) (n i:Nat) (k:κ) (hl:Go.Gm.look E.r n=some (Zjz T sz R (gDel k es))) (hi:Go.Gm.look E.r i=some (.ob (.val ((gGet k es).getD ZaP).1) (ZC T sz R ((gGet k es).getD ZaP).2))) (hne:Nat.beq n i=false) :
  ∃ F',Sat B ⟨E.s,(n,Zjz T sz R es) :: (i,RS.hp (HP.star [])) :: E.r⟩ a w F':=by
 have hni:n≠i:=fun e=>by subst e;simp at hne
 cases hx:gIdx k es with
 | some j=>
  obtain ⟨e,h1,h2,h3⟩:=Zif hx
  rw [h3] at hi
  have h0:=h.turn i hi (r':=RS.hp (Znb κ T sz R e)) (fun _ _ _ _ k=>k)
  rw [Zcx hx] at hl
  obtain ⟨F',G⟩:=h0.putBack (Znb κ T sz R) (L:=es) (x:=e) n i j h1 (by rw [Zf,Yb (fun e=>hni e.symm)];exact hl) XS hne
  refine ⟨F',G.congr (fun _=>rfl) (fun m=>?_)⟩
  simp only [Zf]
  by_cases e1:n=m
  ·simp [e1]
  ·by_cases e2:i=m
   ·simp [e1,e2]
   ·simp [e1,e2]
 | none=>
  rw [gDel_none hx] at hl
  obtain ⟨F',G⟩:=Sat.shrink h i (r':=RS.hp (HP.star [])) hi rfl (fun τ w f y _=>⟨fun _=>False,fun _ h=>h.elim,fun b h=>h⟩)
  have h2:=G.turn n (r:=Zjz T sz R es) (by rw [Zf,Yb (fun e=>hni e.symm)];exact hl) (r':=Zjz T sz R es) (fun _ _ _ _ k=>k)
  exact ⟨F',h2⟩
structure K2 where
 a:Int
 b:Int
 deriving DecidableEq,Inhabited
def Zbm (k:K2):List Int:=[k.a,k.b]
theorem ZhB:ZhN prog 148 (fun k=>∀ x ∈ Zbm k,inR .i64 x) (kvS Zbm):=ZcU (n:=2) (fun _=>rfl) (fun a b h=>by cases a;cases b;simpa [Zbm] using h) kr
theorem Zir:ZhN prog 142 (fun k=>∀ x ∈ Zbm k,inR .i64 x) (kvS Zbm):=Zmo (et:=3) (n:=2) (fun _=>rfl) (fun a b h=>by cases a;cases b;simpa [Zbm] using h) kr kr kr
structure IxF where
 T:Int→Option TxD
 W:Int→List Int
 R:Zad→List Int
 U:K2→Int
 X:K2→Int
 wt:Int
structure IxS where
 tv:Value
 wv:Value
 rv:Value
 uv:Value
 xv:Value
 te:List (GE Int TxD)
 tk:Nat
 we:List (GE Int (Value×List Int))
 wk:Nat
 re:List (GE Zad (Value×List Int))
 rk:Nat
 ue:List (GE K2 Int)
 uk:Nat
 xe:List (GE K2 Int)
 xk:Nat
section
variable {κ:Type} [DecidableEq κ]
def CR (es:List (GE κ Int)) (g:κ→Int):Prop:=GNd es ∧ ∀ p,(gGet p es).getD 0=g p
def RR (es:List (GE κ (Value×List Int))) (g:κ→List Int):Prop:=∀ k,((gGet k es).getD ZaP).2=g k
def RN (es:List (GE κ (Value×List Int))) (g:κ→List Int):Prop:=GNd es∧RR es g ∧ ∀ k,(gGet k es).isSome=true→g k≠[]
theorem RR.pair {es:List (GE κ (Value×List Int))} {g:κ→List Int} (h:RR es g) (k:κ):(gGet k es).getD ZaP=(((gGet k es).getD ZaP).1,g k):=by rw [← h k]
theorem RR.put {es:List (GE κ (Value×List Int))} {ck:Nat} {g:κ→List Int} (h:RR es g) (k:κ) (v:Value) (l:List Int):RR (gPut k (v,l) (es,ck)).1 fun j=>if j=k then l else g j:=fun j=>by
 show _=if j=k then l else g j
 rw [Zbw]
 by_cases e:j=k
 ·rw [Ye e,Ye e];rfl
 ·rw [Yb e,Yb e];exact h j
theorem CR.nil:CR ([]:List (GE κ Int)) fun _=>0:=⟨List.nodup_nil,fun _=>rfl⟩
theorem CR.put {es:List (GE κ Int)} {ck:Nat} {g:κ→Int} (h:CR es g) (k:κ) (n:Int):CR (gPut k n (es,ck)).1 fun j=>if j=k then n else g j:=⟨h.1.put (s:=(es,ck)),fun j=>by
 show _=if j=k then n else g j
 rw [Zbw]
 by_cases e:j=k
 ·rw [Ye e,Ye e];rfl
 ·rw [Yb e,Yb e];exact h.2 j⟩
theorem CR.del {es:List (GE κ Int)} {g:κ→Int} (h:CR es g) (k:κ):CR (gDel k es) fun j=>if j=k then 0 else g j:=⟨h.1.del,fun j=>by
 show _=if j=k then 0 else g j
 rw [gGet_del h.1]
 by_cases e:j=k
 ·rw [Ye e,Ye e];rfl
 ·rw [Yb e,Yb e];exact h.2 j⟩
theorem CR.entry {es:List (GE κ Int)} {ck:Nat} {g:κ→Int} (h:CR es g) (k:κ) (n:Int):CR (gSet k n (gEns 0 k (es,ck)).1) fun j=>if j=k then n else g j:=⟨(h.1.ens (s:=(es,ck))).set,fun j=>by
 show _=if j=k then n else g j
 rw [ZfI (es,ck)]
 by_cases e:j=k
 ·rw [Ye e,Ye e];rfl
 ·rw [Yb e,Yb e];exact h.2 j⟩
theorem RN.nil:RN ([]:List (GE κ (Value×List Int))) fun _=>[]:=⟨List.nodup_nil,fun _=>rfl,fun k h=>by cases h⟩
theorem RN.stay {es:List (GE κ (Value×List Int))} {ck:Nat} {g g':κ→List Int} (h:RN es g) (k:κ) (v:Value) (l:List Int) (hl:l≠[]) (hg:∀ j,g' j=if j=k then l else g j):RN (gPut k (v,l) (es,ck)).1 g':=
 ⟨h.1.put (s:=(es,ck)),fun j=>by rw [hg];exact h.2.1.put k v l j,fun j hj=>by
  rw [hg]
  rw [Zbw] at hj
  by_cases e:j=k
  ·rw [Ye e];exact hl
  ·rw [Yb e] at hj ⊢;exact h.2.2 j hj⟩
theorem RN.gone {es:List (GE κ (Value×List Int))} {ck:Nat} {g g':κ→List Int} (h:RN es g) (k:κ) (v:Value) (hg:∀ j,g' j=if j=k then [] else g j):RN (gDel k (gPut k (v,([]:List Int)) (es,ck)).1) g':=
 have hn:=h.1.put (k:=k) (v:=(v,([]:List Int))) (s:=(es,ck))
 ⟨hn.del,fun j=>by
  rw [gGet_del hn,Zbw,hg]
  by_cases e:j=k
  ·rw [Ye e,Ye e];rfl
  ·rw [Yb e,Yb e,Yb e];exact h.2.1 j,fun j hj=>by
  rw [hg]
  rw [gGet_del hn,Zbw] at hj
  by_cases e:j=k
  ·rw [Ye e] at hj;cases hj
  ·rw [Yb e,Yb e] at hj;rw [Yb e];exact h.2.2 j hj⟩
def sW (g:κ→List Int) (id:Int) (L:List κ) (on:Bool):κ→List Int:=fun k=>if k ∈ L then ZaB (g k) id on else g k
end
def dX (g:K2→Int) (id:Int) (L:List Int):K2→Int:=fun p=>if p.a=id∧p.b ∈ L then 0 else g p
def pX (g:K2→Int) (id:Int) (L:List Int) (c:Int→Int):K2→Int:=fun p=>if p.a=id∧p.b ∈ L then c p.b else g p
def pU (g:K2→Int) (id:Int) (L:List Zad):K2→Int:=fun p=>if p.a=id then g p+((L.filter fun v=>decide (v.tx=p.b)).length:Nat) else g p
theorem Zkk {l:List Int} (h:Za3 l) (x:Int) (on:Bool):ZaB (ZaB l x on) x on=ZaB l x on:=Zd1 (Zcq (Zcq h x on) x on) (Zcq h x on) fun y=>by
 rw [mem_setN,mem_setN]
 constructor
 ·rintro (⟨h1 | h1,h2⟩ | h1)
  ·exact .inl h1
  ·exact .inr h1
  ·exact .inr h1
 ·rintro (h1 | h1)
  ·exact .inl ⟨.inl h1,h1.2⟩
  ·exact .inr h1
theorem Ze3 {κ:Type} [DecidableEq κ] [Inhabited κ] {g:κ→List Int} (hg:∀ k,Za3 (g k)) {id:Int} {L:List κ} {on:Bool} {i:Nat} (hi:i<L.length) (k:κ):sW g id (L.take (i+1)) on k=if k=Nn L i then ZaB (sW g id (L.take i) on (Nn L i)) id on else sW g id (L.take i) on k:=by
 unfold sW
 rw [Zu hi]
 by_cases e:k=Nn L i
 ·subst e
  rw [Ye XA,Ye rfl]
  split
  ·rw [Zkk (hg _)]
  ·rfl
 ·rw [Yb e]
  have:(k ∈ L.take i ++ [Nn L i]) ↔ k ∈ L.take i:=by simp [e]
  simp only [this]
theorem ZcI {κ:Type} [DecidableEq κ] {g:κ→List Int} (hg:∀ k,Za3 (g k)) (id:Int) (L:List κ) (on:Bool) (k:κ):Za3 (sW g id L on k):=by
 unfold sW
 split
 ·exact Zcq (hg k) id on
 ·exact hg k
theorem ZiK {κ:Type} [DecidableEq κ] {g:κ→List Int} {n:Nat} (hg:∀ k,(g k).length≤n) (id:Int) (L:List κ) (on:Bool) (k:κ):(sW g id L on k).length≤2*n+1:=by
 have:=hg k
 unfold sW
 split
 ·have:=Zl5 (g k) id on;omega
 ·omega
theorem ZnZ {g:K2→Int} {id:Int} {L:List Int} {i:Nat} (hi:i<L.length) (p:K2):dX g id (L.take (i+1)) p=if p = ⟨id,Nn L i⟩ then 0 else dX g id (L.take i) p:=by
 obtain ⟨a,b⟩:=p
 unfold dX
 rw [Zu hi]
 simp only [YC,Yn,K2.mk.injEq]
 by_cases h1:a=id <;> by_cases h2:b=Nn L i <;> simp [h1,h2]
theorem Znv {g:K2→Int} {id:Int} {L:List Int} {c:Int→Int} {i:Nat} (hi:i<L.length) (p:K2):pX g id (L.take (i+1)) c p=if p = ⟨id,Nn L i⟩ then c (Nn L i) else pX g id (L.take i) c p:=by
 obtain ⟨a,b⟩:=p
 unfold pX
 rw [Zu hi]
 simp only [YC,Yn,K2.mk.injEq]
 by_cases h1:a=id <;> by_cases h2:b=Nn L i <;> simp [h1,h2]
theorem ZlM {g:K2→Int} {id:Int} {L:List Zad} {i:Nat} (hi:i<L.length) (p:K2):dX g id ((L.take (i+1)).map Zad.tx) p=if p = ⟨id,(Nn L i).tx⟩ then 0 else dX g id ((L.take i).map Zad.tx) p:=by
 obtain ⟨a,b⟩:=p
 unfold dX
 rw [Zu hi]
 simp only [Yaj,YJ,List.map_nil,YC,Yn,K2.mk.injEq]
 by_cases h1:a=id <;> by_cases h2:b=(Nn L i).tx <;> simp [h1,h2]
theorem ZnR {g:K2→Int} {id:Int} {L:List Zad} {i:Nat} (hi:i<L.length) (p:K2):pU g id (L.take (i+1)) p=if p = ⟨id,(Nn L i).tx⟩ then pU g id (L.take i) ⟨id,(Nn L i).tx⟩ + 1 else pU g id (L.take i) p:=by
 obtain ⟨a,b⟩:=p
 unfold pU
 rw [Zu hi]
 simp only [YU,Yd,K2.mk.injEq]
 by_cases h1:a=id
 ·by_cases h2:b=(Nn L i).tx
  ·subst h2;simp [h1];omega
  ·have h3:¬ (Nn L i).tx=b:=fun e=>h2 e.symm
   simp [h1,h2,h3]
 ·simp [h1]
theorem ZpP {g:K2→Int} {id:Int} {L:List Zad} {n:Nat} (hg:∀ p,0≤g p∧g p≤n) (p:K2):0≤pU g id L p∧pU g id L p≤n+L.length:=by
 have h1:=hg p
 have h2:=YG (fun v:Zad=>decide (v.tx=p.b)) L
 unfold pU
 split <;> omega
def ZaZ (f:IxF) (id:Int):IxF×Int:=match f.T id with
 | none=>(f,3)
 | some t=>(⟨fun j=>if j=id then none else f.T j,sW f.W id (Zl t) false,sW f.R id (Zd t) false,dX f.U id ((Zd t).map Zad.tx),dX f.X id (Zl t),f.wt - ((t.ops.length+1:Nat):Int)⟩,0)
def Zoo (f:IxF) (t:TxD):IxF:=⟨fun j=>if j=t.id then some t else f.T j,if t.done=true then sW f.W t.id (Zl t) true else f.W,sW f.R t.id (Zd t) true,pU f.U t.id (Zd t),pX f.X t.id (Zl t) (fun k=>(wcnt t.ops k:Int)),f.wt+((t.ops.length+1:Nat):Int)⟩
def ZhF (f:IxF) (t:TxD):IxF×Int:=if ZF t≠0 then (f,ZF t) else (Zoo (ZaZ f t.id).1 t,0)
def Zc9:IxF:=⟨fun _=>none,fun _=>[],fun _=>[],fun _=>0,fun _=>0,0⟩
structure Zip (f:IxF) (s:IxS):Prop where
 tn:GNd s.te
 t:∀ id,gGet id s.te=f.T id
 w:RR s.we f.W
 r:RN s.re f.R
 u:CR s.ue f.U
 x:CR s.xe f.X
structure Zdn (f:IxF):Prop where
 t:∀ id t,f.T id=some t→t.ops.length≤1000
 w:∀ k,Za3 (f.W k)∧(f.W k).length≤100000
 r:∀ k,Za3 (f.R k)∧(f.R k).length≤100000
 u:∀ p,0≤f.U p∧f.U p≤1000000
 wt:0≤f.wt∧f.wt≤1000000000
theorem ZnV {v1 v2 v3 v4 v5:Value} : Zip Zc9 ⟨v1,v2,v3,v4,v5,[],0,[],0,[],0,[],0,[],0⟩:=⟨List.nodup_nil,fun _=>rfl,fun _=>rfl,RN.nil,CR.nil,CR.nil⟩
theorem Zjj (t:TxD):(Zl t).length≤t.ops.length:=Zbj t
theorem Zff (t:TxD):(Zd t).length≤t.ops.length  := by have:=Za9 t.id t.ops t.ops.length;rwa [Yz] at this
theorem Zdv {P:Program} {ty t kt et:TypeId} {pos:String} {af:Array Edge} {g:Option (Nat×Bool)} {κ β:Type} [DecidableEq κ] {ok:κ→Prop} {kv:κ→Value} {x y:Operand} {ps qs:List (Nat×SF)} {es:List (GE κ (Value×β))} {clock:Nat} {mv:Value} {k:κ} (l9:β) (j m:Nat) (hu:P.underlying t=some (.map kt et)) (hk:ZhN P kt ok kv) (hx:Zal x ps (.val mv)) (hy:ZD ok kv y qs k) :
  OpC P ⟨none,.mapUpdate t x y (.tmp j),ty,pos,af,g⟩ ⟨ps++(qs ++ [(j,.same j)]),[(m,.ob (.val mv) (mapG (fun p:Value×β=>PV.is p.1) ok kv es clock))],.pv .any,[(m,.ob (.slot j) (fun v=>mapG (fun p:Value×β=>PV.is p.1) ok kv (gPut k (v,l9) (es,clock)).1 (gPut k (v,l9) (es,clock)).2 mv))]⟩:=fun a w F K Q hw hp hr ht=>by
 have h0:=Za0 (P:=P) (ty:=ty) (pos:=pos) (af:=af) (g:=g) (ek:=fun p:Value×β=>PV.is p.1) (es:=es) (clock:=clock) (v:=(Act.tau a j,l9)) (z:=.tmp j) (rs:=[(j,.pv (.is (Act.tau a j)))]) m hu hk hx hy .t
 refine h0 a w F K Q hw (fun z hz=>?_) hr (fun v w' F' h1 h2 h3 h4=>ht v w' F' h1 h2 h3 fun z hz=>?_)
 ·rcases YC.1 hz with h | h
  ·exact hp z (YC.2 (.inl h))
  ·rcases YC.1 h with h | h
   ·exact hp z (YC.2 (.inr (YC.2 (.inl h))))
   ·simp only [Yn] at h;subst h;exact hp (j,.same j) (YC.2 (.inr (YC.2 (.inr XA))))
 ·simp only [Yn] at hz
  subst hz
  exact h4 (m,.ob (.val mv) (mapG (fun p:Value×β=>PV.is p.1) ok kv (gPut k (Act.tau a j,l9) (es,clock)).1 (gPut k (Act.tau a j,l9) (es,clock)).2)) XA
theorem ZiH {κ:Type} [DecidableEq κ] {g:κ→List Int} {id:Int} {L:List κ} {on:Bool} : sW g id (L.take 0) on=g:=by funext k;unfold sW;rw [Yb (by simp)]
theorem Zpu {g:K2→Int} {id:Int} {L:List Int} : dX g id (L.take 0)=g:=by funext k;unfold dX;rw [Yb (by simp)]
theorem Zpz {g:K2→Int} {id:Int} {L:List Zad} : dX g id ((L.take 0).map Zad.tx)=g:=by funext k;unfold dX;rw [Yb (by simp)]
theorem ZpB {g:K2→Int} {id:Int} {L:List Int} {c:Int→Int} : pX g id (L.take 0) c=g:=by funext k;unfold pX;rw [Yb (by simp)]
theorem ZoN {g:K2→Int} {id:Int} {L:List Zad} : pU g id (L.take 0)=g:=by funext k;unfold pU;split <;> simp
theorem ZmE {l:List Int} (h:Za3 l) (x:Int):ZaB l x false=l.filter fun y=>decide (y≠x):=Zd1 (Zcq h x false) (h.sublist YaM) fun y=>by
 rw [mem_setN,YA,Yi]
 constructor
 ·rintro (h1 | h1)
  ·exact h1
  ·exact absurd h1.2 XA
 ·intro h1;exact .inl h1
theorem Zd9 {l:List Int} (h:Za3 l) (x:Int):(ZaB l x false).length≤l.length:=by rw [ZmE h];exact YG _ _
theorem Zn2 {l:List Int} (x:Int):ZaB l x true≠[]:=by
 have:x ∈ ZaB l x true:=mem_setN.2 (.inr ⟨rfl,rfl⟩)
 intro e
 rw [e] at this
 cases this
theorem Zcs {f:IxF} {id:Int} (h:f.T id=none):ZaZ f id=(f,3):=by unfold ZaZ;rw [h]
theorem Zcn {f:IxF} {id:Int} {t:TxD} (h:f.T id=some t):ZaZ f id=(⟨fun j=>if j=id then none else f.T j,sW f.W id (Zl t) false,sW f.R id (Zd t) false,dX f.U id ((Zd t).map Zad.tx),dX f.X id (Zl t),f.wt - ((t.ops.length+1:Nat):Int)⟩,0):=by unfold ZaZ;rw [h]
def wP (f:IxF) (t:TxD) (L:List Int):Int→List Int:=if t.done=true then sW f.W t.id L true else f.W
theorem Zpm {f:IxF} {t:TxD} {L:List Int} : wP f t (L.take 0)=f.W:=by unfold wP;rw [ZiH,ite_self]
theorem Zdn.drop {f:IxF} (h:Zdn f) (id:Int):(∀ k,Za3 ((ZaZ f id).1.W k)∧((ZaZ f id).1.W k).length≤100000)∧(∀ k,Za3 ((ZaZ f id).1.R k)∧((ZaZ f id).1.R k).length≤100000)∧(∀ p,0≤(ZaZ f id).1.U p∧(ZaZ f id).1.U p≤1000000) ∧ -2000≤(ZaZ f id).1.wt∧(ZaZ f id).1.wt≤1000000000:=by
 cases hx:f.T id with
 | none=>rw [Zcs hx];exact ⟨h.w,h.r,h.u,by have:=h.wt;show -2000≤f.wt;omega,h.wt.2⟩
 | some t=>
  rw [Zcn hx]
  refine ⟨fun k=>⟨ZcI (fun k=>(h.w k).1) _ _ _ _,?_⟩,fun k=>⟨ZcI (fun k=>(h.r k).1) _ _ _ _,?_⟩,fun p=>?_,?_⟩
  ·show (sW f.W id (Zl t) false k).length≤_
   unfold sW
   split
   ·exact Y5 (Zd9 (h.w k).1 _) (h.w k).2
   ·exact (h.w k).2
  ·show (sW f.R id (Zd t) false k).length≤_
   unfold sW
   split
   ·exact Y5 (Zd9 (h.r k).1 _) (h.r k).2
   ·exact (h.r k).2
  ·show 0≤dX f.U id _ p∧dX f.U id _ p≤_
   have:=h.u p
   unfold dX
   split <;> omega
  ·have h1:=h.wt
   have h2:=h.t id t hx
   show -2000≤f.wt - ((t.ops.length+1:Nat):Int)∧f.wt - ((t.ops.length+1:Nat):Int)≤_
   omega
theorem Zh6 {f:IxF} {t:TxD} (h:ZF t=0):ZhF f t=(Zoo (ZaZ f t.id).1 t,0):=by unfold ZhF;rw [Yb (by simp [h])]
theorem ZkY {f:IxF} {t:TxD} (h:ZF t≠0):ZhF f t=(f,ZF t):=by unfold ZhF;rw [Ye h]
theorem Zjh {f:IxF} {t:TxD} : Zoo f t = ⟨fun j=>if j=t.id then some t else f.T j,wP f t (Zl t),sW f.R t.id (Zd t) true,pU f.U t.id (Zd t),pX f.X t.id (Zl t) (fun k=>(wcnt t.ops k:Int)),f.wt+((t.ops.length+1:Nat):Int)⟩:=rfl
theorem Zip.keys {f:IxF} {s:IxS} (h:Zip f s) {ks:List Int} (hi:Za3 ks) (hm:∀ j,j ∈ ks ↔ (f.T j).isSome=true):(s.te.map fun z:GE Int TxD=>z.key).Perm ks:=by
 have hn:(s.te.map fun z:GE Int TxD=>z.key).Nodup:=h.tn
 have hk:ks.Nodup:=hi.imp fun h=>Ybr h
 refine (Ya3 hn hk).2 fun j=>?_
 rw [hm,← h.t,ZbS]
abbrev Zo8 (es:List (GE Int TxD)) (ck:Nat):Value→HP:=(mapG (fun t:TxD=>PV.agg (rTx t)) (fun n:Int=>inR .i64 n) (fun n:Int=>Value.int .i64 n) es ck)
abbrev Zo0 (es:List (GE Int (Value×List Int))) (ck:Nat):Value→HP:=(mapG (fun p:Value×List Int=>PV.is p.1) (fun n:Int=>inR .i64 n) (fun n:Int=>Value.int .i64 n) es ck)
abbrev ZoJ (es:List (GE Zad (Value×List Int))) (ck:Nat):Value→HP:=(mapG (fun p:Value×List Int=>PV.is p.1) (fun k=>∀ x ∈ Zag k,inR .i64 x) (kvS Zag) es ck)
abbrev ZpI (es:List (GE K2 Int)) (ck:Nat):Value→HP:=(mapG (fun n:Int=>PV.int .i64 n) (fun k=>∀ x ∈ Zbm k,inR .i64 x) (kvS Zbm) es ck)
abbrev Zov (es:List (GE K2 Int)) (ck:Nat):Value→HP:=(mapG (fun n:Int=>PV.int .i64 n) (fun k=>∀ x ∈ Zbm k,inR .i64 x) (kvS Zbm) es ck)
def Zl0 (v:Value) (f:IxF) (sx:IxS):List RS:=[.pt (.val v) 132 [.pv (.is sx.tv),.pv (.is sx.wv),.pv (.is sx.rv),.pv (.is sx.uv),.pv (.is sx.xv),.pv (.int .i64 f.wt)],.ob (.val sx.tv) (Zo8 sx.te sx.tk),.ob (.val sx.wv) (Zo0 sx.we sx.wk),RS.hp (Zf2 sx.we),.ob (.val sx.rv) (ZoJ sx.re sx.rk),RS.hp (Zf2 sx.re),.ob (.val sx.uv) (ZpI sx.ue sx.uk),.ob (.val sx.xv) (Zov sx.xe sx.xk)]
def ZH (v:Value) (f:IxF):HP:=.ex fun s:IxS=>.and (Zip f s) (.star (Zl0 v f s))
theorem ZjU (b:Nat) (f:IxF):FnG prog 35 1 [.is (.pointer (some ⟨b,0,none⟩))] [ZH (.pointer (some ⟨b,0,none⟩)) f] (.int .i64 f.wt) (fun _=>[ZH (.pointer (some ⟨b,0,none⟩)) f]):=by
 refine FnG.mk func35 O ntmps35 O kr fun B F0 a w F M hG G=>?_
 obtain ⟨sx,G⟩:=G.open_ex 1 rfl
 obtain ⟨hk,G⟩:=G.open_and 1 rfl
 have G:=Xm
 obtain ⟨F,G⟩:=G.peel 1 2 O rfl
 obtain ⟨F,G⟩:=G.peel 1 3 O rfl
 obtain ⟨F,G⟩:=G.peel 1 4 O rfl
 obtain ⟨F,G⟩:=G.peel 1 60 O rfl
 obtain ⟨F,G⟩:=G.peel 1 5 O rfl
 obtain ⟨F,G⟩:=G.peel 1 62 O rfl
 obtain ⟨F,G⟩:=G.peel 1 6 O rfl
 obtain ⟨F,G⟩:=G.peel 1 7 O rfl
 have G:=X2
 obtain ⟨F,G⟩:=G.nM [0] Kj
 refine Ya (rZ G (qI qZ) M KO Kj fun G=>(Ya (Ya ?_)))
 refine rZ G (qR rr (qf (Zau _ Yby rfl .t) r1 qz qZ)) M Qe Kj fun G=>?_
 refine Zb G O (fun hc0=>?_) (fun hc0=>?_)
 ·simp at hc0
 refine Yc (Za (Ya (rZ G (qR rr (qf (Zt 2 .is XI) r1 r1 (qf (oF 5 2 .adr) r1 r1 (qa 2 r1 r1 (qO rr qZ))))) M [2] Kj fun G=>Yh ?_)))
 have G:=G.fresh 1 rfl
 obtain ⟨F,G⟩:=G.push 1 7 O O O kr
 obtain ⟨F,G⟩:=G.push 1 6 O O O kr
 obtain ⟨F,G⟩:=G.push 1 62 O O O kr
 obtain ⟨F,G⟩:=G.push 1 5 O O O kr
 obtain ⟨F,G⟩:=G.push 1 60 O O O kr
 obtain ⟨F,G⟩:=G.push 1 4 O O O kr
 obtain ⟨F,G⟩:=G.push 1 3 O O O kr
 obtain ⟨F,G⟩:=G.push 1 2 O O O kr
 have G:=G.turn 1 O (r':=RS.hp (ZH (.pointer (some ⟨b,0,none⟩)) f)) (fun _ _ _ _ h=>⟨sx,hk,h⟩)
 refine Zb0 hG G O (.tmp O .nil) (.one .refl) rfl
theorem ZjT (b:Nat) (f:IxF) (id key:Int):FnG prog 68 1 [.is (.pointer (some ⟨b,0,none⟩)),.int .i64 id,.int .i64 key] [ZH (.pointer (some ⟨b,0,none⟩)) f] (.int .i64 (f.X ⟨id,key⟩)) (fun _=>[ZH (.pointer (some ⟨b,0,none⟩)) f]):=by
 refine FnG.mk func68 O ntmps68 O kr fun B F0 a w F M hG G=>?_
 obtain ⟨sx,G⟩:=G.open_ex 1 rfl
 obtain ⟨hk,G⟩:=G.open_and 1 rfl
 have G:=Xm
 obtain ⟨F,G⟩:=G.peel 1 2 O rfl
 obtain ⟨F,G⟩:=G.peel 1 3 O rfl
 obtain ⟨F,G⟩:=G.peel 1 4 O rfl
 obtain ⟨F,G⟩:=G.peel 1 60 O rfl
 obtain ⟨F,G⟩:=G.peel 1 5 O rfl
 obtain ⟨F,G⟩:=G.peel 1 62 O rfl
 obtain ⟨F,G⟩:=G.peel 1 6 O rfl
 obtain ⟨F,G⟩:=G.peel 1 7 O rfl
 have G:=X2
 obtain ⟨F,G⟩:=G.nM Qf Kj
 refine Ya (rZ G (qI qZ) M Qg Kj fun G=>(Ya (Ya ?_)))
 refine rZ G (qR rr (qf (Zau _ Yby rfl .t) r1 qz qZ)) M [8,6,2,1,0] Kj fun G=>?_
 refine Zb G O (fun hc0=>?_) (fun hc0=>?_)
 ·simp at hc0
 refine Yc (Za (Ya (rZ G (qR rr (qf (Zt 2 .is XI) r1 r1 (qf (oF 4 2 .adr) r1 r1 (qa 2 r1 r1 (qR rr (qR rr (qf (Zer (sz:=1) (r:=[(0,.tmp 13),(1,.tmp 14)]) (zs:=[.int .i64 0,.int .i64 0]) (pl:=[(0,1),(1,1)]) underlying142 kr kr O (.one O .t one_int kr (.one O .t one_int kr .nil)) XI) r2 qz (qf (ZX (ek:=(fun n:Int=>PV.int .i64 n)) (z0:=(0)) 7 underlying130 Zir kr (fun _ _=>⟨rfl,ZfP⟩) .is (ZD.agg (enc:=Zbm) (k:=(⟨id,key⟩:K2)) (.pagg .t) O)) r2 r1 (qO rr qZ))))))))) M [6] Kj fun G=>Yh ?_)))
 have G:=G.fresh 1 rfl
 obtain ⟨F,G⟩:=G.push 1 7 O O O kr
 obtain ⟨F,G⟩:=G.push 1 6 O O O kr
 obtain ⟨F,G⟩:=G.push 1 62 O O O kr
 obtain ⟨F,G⟩:=G.push 1 5 O O O kr
 obtain ⟨F,G⟩:=G.push 1 60 O O O kr
 obtain ⟨F,G⟩:=G.push 1 4 O O O kr
 obtain ⟨F,G⟩:=G.push 1 3 O O O kr
 obtain ⟨F,G⟩:=G.push 1 2 O O O kr
 have G:=G.turn 1 O (r':=RS.hp (ZH (.pointer (some ⟨b,0,none⟩)) f)) (fun _ _ _ _ h=>⟨sx,hk,h⟩)
 refine Zb0 hG G O (.tmp O .nil) (.one (.int (hk.x.2 _))) rfl
theorem Zfq (b:Nat) (f:IxF) (key:Int) (hf:Zdn f):FnG prog 38 1 [.is (.pointer (some ⟨b,0,none⟩)),.int .i64 key] [ZH (.pointer (some ⟨b,0,none⟩)) f] (.sl Zk (f.W key)) (fun _=>[ZH (.pointer (some ⟨b,0,none⟩)) f]):=by
 refine FnG.mk func38 O ntmps38 O kr fun B F0 a w F M hG G=>?_
 obtain ⟨sx,G⟩:=G.open_ex 1 rfl
 obtain ⟨hk,G⟩:=G.open_and 1 rfl
 have G:=Xm
 obtain ⟨F,G⟩:=G.peel 1 2 O rfl
 obtain ⟨F,G⟩:=G.peel 1 3 O rfl
 obtain ⟨F,G⟩:=G.peel 1 4 O rfl
 obtain ⟨F,G⟩:=G.peel 1 60 O rfl
 obtain ⟨F,G⟩:=G.peel 1 5 O rfl
 obtain ⟨F,G⟩:=G.peel 1 62 O rfl
 obtain ⟨F,G⟩:=G.peel 1 6 O rfl
 obtain ⟨F,G⟩:=G.peel 1 7 O rfl
 have G:=X2
 obtain ⟨F,G⟩:=G.nM Kk Kj
 refine Ya (rZ G (qC qZ) M Kr Kj fun G=>(Ya (Ya ?_)))
 refine rZ G (qR rr (qf (Zau _ Yby rfl .t) r1 qz qZ)) M [6,4,1,0] Kj fun G=>?_
 refine Zb G O (fun hc0=>?_) (fun hc0=>?_)
 ·simp at hc0
 refine Yc (Za (Ya (ZaS 6 G kr (cG O (oM .t) r1 trivial (cG O (Zt 2 .is XI) r1 r1 (cG O (oF 1 2 .adr) r1 r1 (cG O (oL false 1 2 .adr) r1 r1 (cG O (oM .t) r1 trivial (cG O (ZX (ek:=(fun p:Value×List Int=>PV.is p.1)) (z0:=ZaP) 4 Ybz (Zbu Ybx) kr (fun _ _=>⟨rfl,rfl⟩) .is (ZD.intR .t O)) r2 r1 ZO.nil)))))) kr Wd fun a w F G=>?_)))
 obtain ⟨F,G⟩:=G.nM [12,4] Kj
 have G:=Xi
 obtain ⟨F,G⟩:=G.takeKey (T:=3) (sz:=1) (R:=Zk) 60 61 key O rfl
 rw [hk.w key] at G
 obtain ⟨F,G⟩:=G.nM [12,4] [62,61,60,7,6,5,4,3,2,0]
 replace G:=G.fresh 101 rfl
 refine Zc4 1 G kr (cG O (OpC.lendRow 61 [12] (Zbd 101 (Zc3 (f.W key) (by have:=(hf.w key).2;omega)) func91 O kr (Args.one .t) Zar) ⟨rfl,tv⟩ (fun _ _ _ _ _ h=>h) ⟨(fun _ _ _ _ _ _ _ _ _ _ k=>Zli k),tv⟩ XI) r1 r2 ZO.nil) kr Wd fun a w F G=>?_
 replace G:=G.sub
 obtain ⟨F,G⟩:=G.nM [13,4] [101,62,61,60,7,6,5,4,3,2,0]
 have G:=Xl
 generalize Act.tau a 13=v13 at G
 replace G:=G.turn 61 O (r':=.ob (.val ((gGet key sx.we).getD ZaP).1) (ZC 3 1 Zk ((gGet key sx.we).getD ZaP).2)) (by rw [hk.w key];exact fun _ _ _ _ h=>h)
 obtain ⟨F,G⟩:=Sat.backKey (T:=3) (sz:=1) (R:=Zk) G 60 61 key O O rfl
 obtain ⟨F,G⟩:=G.nM [13,4] Kh
 obtain ⟨F,G⟩:=G.give 101 13 O rfl
 obtain ⟨F,G⟩:=G.nM [13,4] Kj
 refine Zbl G kr (cG O (oN .t) r1 trivial ZO.nil) kr Wd fun a w F G=>?_
 obtain ⟨F,G⟩:=G.nM [4] Kj
 try dsimp only [rTx,rOp,Zk,Zy] at G
 refine Za (Yh ?_)
 have G:=G.fresh 1 rfl
 obtain ⟨F,G⟩:=G.push 1 7 O O O kr
 obtain ⟨F,G⟩:=G.push 1 6 O O O kr
 obtain ⟨F,G⟩:=G.push 1 62 O O O kr
 obtain ⟨F,G⟩:=G.push 1 5 O O O kr
 obtain ⟨F,G⟩:=G.push 1 60 O O O kr
 obtain ⟨F,G⟩:=G.push 1 4 O O O kr
 obtain ⟨F,G⟩:=G.push 1 3 O O O kr
 obtain ⟨F,G⟩:=G.push 1 2 O O O kr
 have G:=G.turn 1 O (r':=RS.hp (ZH (.pointer (some ⟨b,0,none⟩)) f)) (fun _ _ _ _ h=>⟨sx,hk,h⟩)
 refine Zb0 hG G O (.tmp O .nil) (.one .refl) rfl
theorem Zns (b:Nat) (f:IxF) (id:Int) (hf:Zdn f):FnG prog 40 1 [.is (.pointer (some ⟨b,0,none⟩)),.int .i64 id] [ZH (.pointer (some ⟨b,0,none⟩)) f] (.tup [.agg (rTx ((f.T id).getD zeroT)),.bool (f.T id).isSome]) (fun _=>[ZH (.pointer (some ⟨b,0,none⟩)) f]):=by
 refine FnG.mk func40 O ntmps40 O kr fun B F0 a w F M hG G=>?_
 have hop:((f.T id).getD zeroT).ops.length≤1000000:=by cases hx:f.T id with | none=>exact Yp _ | some t=>have:=hf.t id t hx;show t.ops.length≤1000000;omega
 obtain ⟨sx,G⟩:=G.open_ex 1 rfl
 obtain ⟨hk,G⟩:=G.open_and 1 rfl
 have G:=Xm
 obtain ⟨F,G⟩:=G.peel 1 2 O rfl
 obtain ⟨F,G⟩:=G.peel 1 3 O rfl
 obtain ⟨F,G⟩:=G.peel 1 4 O rfl
 obtain ⟨F,G⟩:=G.peel 1 60 O rfl
 obtain ⟨F,G⟩:=G.peel 1 5 O rfl
 obtain ⟨F,G⟩:=G.peel 1 62 O rfl
 obtain ⟨F,G⟩:=G.peel 1 6 O rfl
 obtain ⟨F,G⟩:=G.peel 1 7 O rfl
 have G:=X2
 obtain ⟨F,G⟩:=G.nM Kk Kj
 refine Ya (rS G (qf (oH [.int .i64 0,.bool false,.slice none 0 0] 101) trivial qz qB) M KA Kh fun τ G=>?_)
 have G:=Xv
 generalize τ 4=v4 at G
 refine Za (Ya (Ya (rZ G (qR rr (qf (Zau _ Yby rfl .t) r1 qz qZ)) M [9,5,4,1,0] Kh fun G=>?_)))
 refine Zb G O (fun hc0=>?_) (fun hc0=>?_)
 ·simp at hc0
 refine Yc (Za (Ya (rS G (qR rr (qf (Zt 2 .is XI) r1 r1 (qf (oF 0 2 .adr) r1 r1 (qa 2 r1 r1 (qR rr (qf (Zin (ek:=(fun t:TxD=>PV.agg (rTx t))) (z0:=zeroT) 3 underlying126 (Zbu Ybx) kr (fun _ _=>⟨[_,_,_],rfl,⟨rfl,rfl,ZfP⟩,⟨rfl,rfl⟩,⟨rfl,Zhj⟩,tv⟩) .is (ZD.intR .t O)) r2 r1 (qR rr (qf (Zn .t O) r1 qz (qf (Zn .t O) r1 qz (qf (oH [.int .i64 0,.bool false,.slice none 0 0] 102) trivial qz (qf (oA 3 102 .same (.conv .t .agg)) r2 r1 (qO rr qZ)))))))))))) M [7,6,5,4] Kn fun τ G=>?_)))
 have G:=X9
 generalize τ 6=v6 at G
 rw [hk.t id] at G
 refine Za (Ya ?_)
 replace G:=G.fresh 103 rfl
 refine rS G (qg 2 102 r1 r1 (qa 102 r1 r1 (qf (Zbd 103 (ZgK ((f.T id).getD zeroT).ops hop) func86 O kr (Args.one .t) Zar) r1 r1 (qg 2 102 r1 r1 (qf (Zbr 102 .adr kr kr) r2 r1 qZ))))) M [7,6,5,4] [103,102,101,62,60,7,6,5,4,3,2,0] fun τ G=>?_
 have G:=X9
 generalize τ 22=v22 at G
 obtain ⟨F,G⟩:=G.giveCell 103 102 2 O O O O rfl
 have G:=Xw
 obtain ⟨F,G⟩:=G.nM [7,6,5,4] Kn
 refine Za (Ya (rZ G (qe 3 102 r1 r1 (qR rr (qs 3 101 r2 r1 (qO rr qZ)))) M KZ Kn fun G=>Yh ?_))
 have G:=G.fresh 1 rfl
 obtain ⟨F,G⟩:=G.push 1 7 O O O kr
 obtain ⟨F,G⟩:=G.push 1 6 O O O kr
 obtain ⟨F,G⟩:=G.push 1 62 O O O kr
 obtain ⟨F,G⟩:=G.push 1 5 O O O kr
 obtain ⟨F,G⟩:=G.push 1 60 O O O kr
 obtain ⟨F,G⟩:=G.push 1 4 O O O kr
 obtain ⟨F,G⟩:=G.push 1 3 O O O kr
 obtain ⟨F,G⟩:=G.push 1 2 O O O kr
 have G:=G.turn 1 O (r':=RS.hp (ZH (.pointer (some ⟨b,0,none⟩)) f)) (fun _ _ _ _ h=>⟨sx,hk,h⟩)
 refine Zb0 hG G O (.cl 101 true 3 O O (.tmp O .nil)) (.two (by first | exact .aggU O O | exact .aggLe O ⟨.refl,.refl,.nilSl,tv⟩) (.bool O)) rfl
theorem ZiR (b:Nat) (f:IxF) (id:Int) (hf:Zdn f):FnG prog 32 1 [.is (.pointer (some ⟨b,0,none⟩)),.int .i64 id] [ZH (.pointer (some ⟨b,0,none⟩)) f] (.int .i64 (ZaZ f id).2) (fun _=>[ZH (.pointer (some ⟨b,0,none⟩)) (ZaZ f id).1]):=by
 refine FnG.mk func32 O ntmps32 O kr fun B F0 a w F M hG G=>Ya ?_
 refine rZ G (qI qZ) M Kr Kk fun G=>Ya ?_
 refine rS G (qR rr (qR rr (qf (o_callG1 1 (Zns b f id hf) func40 O kr (Args.two .t .t)) r2 r1 (qR rr (qf (Zn .t O) r1 qz (qf (Zn .t O) r1 qz (qf (oH [.int .i64 0,.bool false,.slice none 0 0] 101) trivial qz (qf (oA 3 101 .same (.conv .t .agg)) r2 r1 (qO rr qZ))))))))) M Kx KQ fun τ G=>?_
 have G:=Xh
 generalize τ 5=v5 at G
 refine Za (Ya (Ya (rZ G (qR rr (qf (o_not .t) r1 qz qZ)) M [18,5,4,1,0] KQ fun G=>?_)))
 refine Zb G O (fun hc0=>?_) (fun hc0=>?_)
 ·have ht:f.T id=none:=by cases hx:f.T id with | none=>rfl | some t=>rw [hx] at hc0;simp at hc0
  refine Ya (rZ G (qI qZ) M KA KQ fun G=>(Yh (Ze ?_)))
  have G:=G.turn 1 O (r':=RS.hp (ZH (.pointer (some ⟨b,0,none⟩)) (ZaZ f id).1)) (by rw [Zcs ht];exact fun _ _ _ _ h=>h)
  have hres:(3:Int)=(ZaZ f id).2:=by rw [Zcs ht]
  refine Zb0 hG G O (.tmp O .nil) (.one (.int hres)) rfl
 obtain ⟨t,ht⟩:∃ t,f.T id=some t:=by cases hx:f.T id with | some t=>exact ⟨t,rfl⟩ | none=>rw [hx] at hc0;simp at hc0
 have hto:=hf.t id t ht
 have hwt:=hf.wt
 have hkb:=Zjj t
 have hnb:=Zff t
 rw [show (f.T id).getD zeroT=t from by rw [ht];rfl] at G
 obtain ⟨sx,G⟩:=G.open_ex 1 rfl
 obtain ⟨hk,G⟩:=G.open_and 1 rfl
 have G:=Xm
 obtain ⟨F,G⟩:=G.peel 1 2 O rfl
 obtain ⟨F,G⟩:=G.peel 1 3 O rfl
 obtain ⟨F,G⟩:=G.peel 1 4 O rfl
 obtain ⟨F,G⟩:=G.peel 1 60 O rfl
 obtain ⟨F,G⟩:=G.peel 1 5 O rfl
 obtain ⟨F,G⟩:=G.peel 1 62 O rfl
 obtain ⟨F,G⟩:=G.peel 1 6 O rfl
 obtain ⟨F,G⟩:=G.peel 1 7 O rfl
 have G:=X2
 obtain ⟨F,G⟩:=G.nM [18,5,4,1,0] Kh
 refine Yc (Za (Ya (rZ G (qR rr (qf (Zt 2 .is XI) r1 r1 (qf (oF 0 2 .adr) r1 r1 (qa 2 r1 r1 (qR rr (qf (Zcb 3 underlying126 (Zbu Ybx) .is (ZD.intR .t O)) r2 r1 qZ)))))) M KA Kh fun G=>Ya ?_)))
 refine ZA G (qR rr (qf (Zt 2 .is XI) r1 r1 (qf (oF 5 2 .adr) r1 r1 (qa 2 r1 r1 (qe 3 101 r1 r1 (qf (oP (ZeY t ow) func81 (Args.one (.pagg .t))) r1 qz (qf (o_sub .t .t) r2 qz (qf (Zt 2 .is XI) r1 r1 (qf (oF 5 2 .adr) r1 r1 (qf (Zgv 2 .adr .t one_int kr kr) r2 r1 qZ)))))))))) M KA Kh O O fun a w F G=>?_
 have G:=Xb
 rw [show IntKind.wrap .i64 (f.wt - ((t.ops.length+1:Nat):Int))=f.wt - ((t.ops.length+1:Nat):Int) from ZK ow] at G
 refine Za (Ya (Ya (Zi G (qe 3 101 r1 r1 (qf (oP (Zgo t ow) func82 (Args.one (.pagg .t))) r1 qz (qu Ybs r1 (qJ qZ)))) M Qh Kh O O fun a w F G=>?_)))
 rw [show Zan ((t.ops.filter fun o=>!o.read).map OpD.key)=Zl t from rfl] at G
 refine Za (Yf (Zj (σ:=(Nat)×(List (GE K2 Int))×(Nat)×(List (GE Int (Value×List Int)))×(Nat)) [0,1,4,5,34,35] [0,2,3,5,6,62,101] (fun s=>[(36,.pv (.int .i64 (s.1:Int)))]) (fun s=>[(7,.ob (.val sx.xv) (Zov s.2.1 s.2.2.1)),(4,.ob (.val sx.wv) (Zo0 s.2.2.2.1 s.2.2.2.2)),(60,RS.hp (Zf2 s.2.2.2.1))]) (fun s=>s.1≤(Zl t).length∧(CR s.2.1 (dX f.X id ((Zl t).take s.1))∧RR s.2.2.2.1 (sW f.W id ((Zl t).take s.1) false))) (fun s=>(Zl t).length - s.1) ((0),(sx.xe),(sx.xk),(sx.we),(sx.wk)) G ⟨rfl,rfl,rfl,rfl,rfl,rfl,rfl,tv⟩ ⟨rfl,rfl,rfl,rfl,rfl,rfl,rfl,rfl,rfl,rfl,tv⟩ ⟨Yp _,⟨(by rw [Zpu];exact hk.x),(by rw [ZiH];exact hk.w)⟩⟩ ?_))
 clear G;intro s a w F hC G
 obtain ⟨i,xe,xk,we,wk⟩:=s
 have hC:=X4
 obtain ⟨F,G⟩:=G.nM Qh Kh
 have G:=X2
 obtain ⟨hi,hq⟩:=hC
 obtain ⟨hx1,hw1⟩:=hq
 have hwl:=ZiK (fun k=>(hf.w k).2) id ((Zl t).take i) false (Nn (Zl t) i)
 refine Ya (rZ G (qL r2) M [37,36,35,34,5,4,1,0] Kh fun G=>Ya ?_)
 refine Zb G O (fun hc1=>?_) (fun hc1=>?_)
 ·have hil:i<(Zl t).length:=XU
  refine Yc (Za (Ya (Yf (Ya (Zi G (qy 1 Ybs r2 (qf (oR false 1 .t) r1 qz (qO rr qZ))) M [36,35,34,8,5,4,1,0] Kh O O fun a w F G=>?_)))))
  try simp only [Yg] at G
  refine Za (Ya (Zi G (qR rr (qf (Zt 2 .is XI) r1 r1 (qf (oF 4 2 .adr) r1 r1 (qa 2 r1 r1 (qR rr (qR rr (qf (Zer (sz:=1) (r:=[(0,.tmp 44),(1,.tmp 45)]) (zs:=[.int .i64 0,.int .i64 0]) (pl:=[(0,1),(1,1)]) underlying142 kr kr O (.one O .t one_int kr (.one O .t one_int kr .nil)) XI) r2 qz (qf (Zcb 7 underlying130 Zir .is (ZD.agg (enc:=Zbm) (k:=(⟨id,(Nn (Zl t) i)⟩:K2)) (.pagg .t) O)) r2 r1 qZ)))))))) M [36,35,34,8,5,4,1,0] Kh O O fun a w F G=>?_))
  obtain ⟨xe2,hxe2⟩:∃ z,z=gDel (⟨id,(Nn (Zl t) i)⟩:K2) xe:=⟨_,rfl⟩
  rw [← hxe2] at G
  have hx2:CR xe2 (dX f.X id ((Zl t).take (i+1))):=by rw [hxe2,show dX f.X id ((Zl t).take (i+1))=_ from funext (ZnZ hil)];exact hx1.del _
  refine Za (rT G (qR rr (qf (Zt 2 .is XI) r1 r1 (qf (oF 1 2 .adr) r1 r1 (qa 2 r1 r1 (qR rr (qR rr (qf (Zt 2 .is XI) r1 r1 (qf (oF 1 2 .adr) r1 r1 (qa 2 r1 r1 (qR rr (qf (ZX (ek:=(fun p:Value×List Int=>PV.is p.1)) (z0:=ZaP) 4 Ybz (Zbu Ybx) kr (fun _ _=>⟨rfl,rfl⟩) .is (ZD.intR .t O)) r2 r1 (qR rr (qf (Zet 60 (ZgU we wk (Nn (Zl t) i) _ (sW f.W id ((Zl t).take i) false (Nn (Zl t) i)) id (hw1.pair (Nn (Zl t) i)) (ZcI (fun k=>(hf.w k).1) _ _ _ _) ow) func83 O kr (Args.two .t .t) Zar) r2 r1 (qf (Zdv (ZaB (sW f.W id ((Zl t).take i) false (Nn (Zl t) i)) id false) 59 4 Ybz (Zbu Ybx) .is (ZD.intR .t O)) r3 r1 qZ)))))))))))))) M Qh Kh fun τ G=>?_)
  have G:=Xe
  generalize τ 59=v59 at G
  replace G:=G.turn 60 O (r':=RS.hp (Zf2 (gPut (Nn (Zl t) i) (v59,(ZaB (sW f.W id ((Zl t).take i) false (Nn (Zl t) i)) id false)) (we,wk)).1)) (fun _ _ _ _ h=>h)
  replace G:=G.turn 4 O (r':=.ob (.val sx.wv) (Zo0 (gPut (Nn (Zl t) i) (v59,(ZaB (sW f.W id ((Zl t).take i) false (Nn (Zl t) i)) id false)) (we,wk)).1 (gPut (Nn (Zl t) i) (v59,(ZaB (sW f.W id ((Zl t).take i) false (Nn (Zl t) i)) id false)) (we,wk)).2)) (fun _ _ _ _ h=>h)
  obtain ⟨we2,hwe2⟩:∃ z,z=(gPut (Nn (Zl t) i) (v59,(ZaB (sW f.W id ((Zl t).take i) false (Nn (Zl t) i)) id false)) (we,wk)).1:=⟨_,rfl⟩
  obtain ⟨wk2,hwk2⟩:∃ z,z=(gPut (Nn (Zl t) i) (v59,(ZaB (sW f.W id ((Zl t).take i) false (Nn (Zl t) i)) id false)) (we,wk)).2:=⟨_,rfl⟩
  rw [← hwe2,← hwk2] at G
  have hw2:RR we2 (sW f.W id ((Zl t).take (i+1)) false):=by rw [hwe2,show sW f.W id ((Zl t).take (i+1)) false=_ from funext (Ze3 (fun k=>(hf.w k).1) hil)];exact hw1.put _ _ _
  obtain ⟨F,G⟩:=G.nM Qh Kh
  refine Zh (Za (rZ G (qp r1 (qR rr qZ)) M Qh Kh fun G=>?_))
  replace G:=G.eI 36 i
  obtain ⟨F,G⟩:=G.nM [35,34,5,4,1,0,36] Qv
  exact ⟨((i+1),(xe2),(xk),(we2),(wk2)),F,⟨ow,⟨hx2,hw2⟩⟩,G,ow⟩
 have hil:i=(Zl t).length:=XU
 rw [hil,Yz] at hx1 hw1
 refine Yt (Zg (Zg (Zp (Za (Ya (Ya (rZ G (qe 3 101 r1 r1 (qf (oP (Zdk t ow) func84 (Args.one (.pagg .t))) r1 qz (qu Ybw r1 (qJ qZ)))) M Q9 Kh fun G=>Yf ?_)))))))
 refine Zj (σ:=(Nat)×(List (GE Zad (Value×List Int)))×(Nat)×(List (GE K2 Int))×(Nat)) [0,1,4,62,63] [0,2,3,4,7,60,101] (fun s=>[(64,.pv (.int .i64 (s.1:Int)))]) (fun s=>[(5,.ob (.val sx.rv) (ZoJ s.2.1 s.2.2.1)),(62,RS.hp (Zf2 s.2.1)),(6,.ob (.val sx.uv) (ZpI s.2.2.2.1 s.2.2.2.2))]) (fun s=>s.1≤(Zd t).length∧(RN s.2.1 (sW f.R id ((Zd t).take s.1) false)∧CR s.2.2.2.1 (dX f.U id (((Zd t).take s.1).map Zad.tx)))) (fun s=>(Zd t).length - s.1) ((0),(sx.re),(sx.rk),(sx.ue),(sx.uk)) G ⟨rfl,rfl,rfl,rfl,rfl,rfl,tv⟩ ⟨rfl,rfl,rfl,rfl,rfl,rfl,rfl,rfl,rfl,rfl,tv⟩ ⟨Yp _,⟨(by rw [ZiH];exact hk.r),(by rw [Zpz];exact hk.u)⟩⟩ ?_
 clear G;intro s a w F hC G
 obtain ⟨j,re,rk,ue,uk⟩:=s
 have hC:=X4
 obtain ⟨F,G⟩:=G.nM Q9 Kh
 have G:=X2
 obtain ⟨hi,hq⟩:=hC
 obtain ⟨hr1,hu1⟩:=hq
 have hrl:=ZiK (fun k=>(hf.r k).2) id ((Zd t).take j) false (Nn (Zd t) j)
 refine Ya (rZ G (qL r2) M [65,64,63,62,4,1,0] Kh fun G=>Ya ?_)
 refine Zb G O (fun hc2=>?_) (fun hc2=>?_)
 ·have hil:j<(Zd t).length:=WI
  refine Yc (Za (Ya (Yf (Ya (rS G (qy 3 Ybw r2 (qf (oR true 3 .t) r1 qz (qf (oH [.int .i64 0,.int .i64 0,.int .i64 0] 102) trivial qz (qS 3 102 r2 r1 qZ)))) M KV Kn fun τ G=>?_)))))
  have G:=X9
  generalize τ 10=v10 at G
  try simp only [Yg] at G
  refine Za (Ya (rT G (qR rr (qf (Zt 2 .is XI) r1 r1 (qf (oF 2 2 .adr) r1 r1 (qa 2 r1 r1 (qe 3 102 r1 r1 (qR rr (qf (Zt 2 .is XI) r1 r1 (qf (oF 2 2 .adr) r1 r1 (qa 2 r1 r1 (qe 3 102 r1 r1 (qf (ZX (ek:=(fun p:Value×List Int=>PV.is p.1)) (z0:=ZaP) 5 YbA Zda kr (fun _ _=>⟨rfl,rfl⟩) .is (ZD.agg (enc:=Zag) (k:=(Nn (Zd t) j)) (.pagg .t) O)) r2 r1 (qR rr (qf (Zet 62 (ZgU re rk (Nn (Zd t) j) _ (sW f.R id ((Zd t).take j) false (Nn (Zd t) j)) id (hr1.2.1.pair (Nn (Zd t) j)) (ZcI (fun k=>(hf.r k).1) _ _ _ _) ow) func83 O kr (Args.two .t .t) Zar) r2 r1 (qf (Zdv (ZaB (sW f.R id ((Zd t).take j) false (Nn (Zd t) j)) id false) 80 5 YbA Zda .is (ZD.agg (enc:=Zag) (k:=(Nn (Zd t) j)) (.pagg .t) O)) r3 r1 qZ)))))))))))))) M KV Kn fun τ G=>?_))
  have G:=Xe
  generalize τ 80=v80 at G
  replace G:=G.turn 62 O (r':=RS.hp (Zf2 (gPut (Nn (Zd t) j) (v80,(ZaB (sW f.R id ((Zd t).take j) false (Nn (Zd t) j)) id false)) (re,rk)).1)) (fun _ _ _ _ h=>h)
  replace G:=G.turn 5 O (r':=.ob (.val sx.rv) (ZoJ (gPut (Nn (Zd t) j) (v80,(ZaB (sW f.R id ((Zd t).take j) false (Nn (Zd t) j)) id false)) (re,rk)).1 (gPut (Nn (Zd t) j) (v80,(ZaB (sW f.R id ((Zd t).take j) false (Nn (Zd t) j)) id false)) (re,rk)).2)) (fun _ _ _ _ h=>h)
  obtain ⟨re2,hre2⟩:∃ z,z=(gPut (Nn (Zd t) j) (v80,(ZaB (sW f.R id ((Zd t).take j) false (Nn (Zd t) j)) id false)) (re,rk)).1:=⟨_,rfl⟩
  obtain ⟨rk2,hrk2⟩:∃ z,z=(gPut (Nn (Zd t) j) (v80,(ZaB (sW f.R id ((Zd t).take j) false (Nn (Zd t) j)) id false)) (re,rk)).2:=⟨_,rfl⟩
  rw [← hre2,← hrk2] at G
  have hRv:((gGet (Nn (Zd t) j) re2).getD ZaP).2=(ZaB (sW f.R id ((Zd t).take j) false (Nn (Zd t) j)) id false):=by rw [hre2];exact (hr1.2.1.put (ck:=rk) (Nn (Zd t) j) v80 (ZaB (sW f.R id ((Zd t).take j) false (Nn (Zd t) j)) id false) (Nn (Zd t) j)).trans (Ye rfl)
  have hRw:=fun k9:Zad=>hRv
  obtain ⟨F,G⟩:=G.nM KV Kn
  refine Za (Ya (Ya ?_))
  obtain ⟨F,G⟩:=G.takeKey (T:=3) (sz:=1) (R:=Zk) 62 63 (Nn (Zd t) j) O rfl
  rw [hRw (Nn (Zd t) j)] at G
  obtain ⟨F,G⟩:=G.nM KV Qa
  refine ZA G (qR rr (qf (Zt 2 .is XI) r1 r1 (qf (oF 2 2 .adr) r1 r1 (qa 2 r1 r1 (qe 3 102 r1 r1 (qf (ZX (ek:=(fun p:Value×List Int=>PV.is p.1)) (z0:=ZaP) 5 YbA Zda kr (fun _ _=>⟨rfl,rfl⟩) .is (ZD.agg (enc:=Zag) (k:=(Nn (Zd t) j)) (.pagg .t) O)) r2 r1 (qf (Z3 63 Ybs .is) r1 r1 (qf (o_eql .t qi) r1 qz qZ)))))))) M [88,64,63,62,10,4,1,0] Qa O O fun a w F G=>?_
  have G:=Xi
  refine Za (Zb G O (fun hc3=>?_) (fun hc3=>?_))
  ·have hLL:(ZaB (sW f.R id ((Zd t).take j) false (Nn (Zd t) j)) id false) = []:=Y6 Wi
   refine ZA G (qR rr (qf (Zt 2 .is XI) r1 r1 (qf (oF 2 2 .adr) r1 r1 (qa 2 r1 r1 (qe 3 102 r1 r1 (qf (Zcb 5 YbA Zda .is (ZD.agg (enc:=Zag) (k:=(Nn (Zd t) j)) (.pagg .t) O)) r2 r1 qZ)))))) M KV Qa O O fun a w F G=>?_
   have G:=Xi
   obtain ⟨F,G⟩:=Sat.shrink G 63 (r':=RS.hp (HP.star [])) O O (fun τ w f y _=>⟨fun _=>False,fun _ h=>h.elim,fun b h=>h⟩)
   obtain ⟨F,G⟩:=G.nM KV Kn
   obtain ⟨re3,hre3⟩:∃ z,z=gDel (Nn (Zd t) j) re2:=⟨_,rfl⟩
   rw [← hre3] at G
   have hr3:RN re3 (sW f.R id ((Zd t).take (j+1)) false):=by rw [hre3,hre2,hLL];exact hr1.gone (Nn (Zd t) j) v80 (fun k=>by rw [Ze3 (fun k=>(hf.r k).1) hil k,hLL])
   refine Za (ZA G (qR rr (qf (Zt 2 .is XI) r1 r1 (qf (oF 3 2 .adr) r1 r1 (qa 2 r1 r1 (qR rr (qg 0 102 r1 r1 (qa 102 r1 r1 (qf (oB [(0,.tmp 98),(1,.tmp 100)] [.int .i64 0,.int .i64 0] [(0,1),(1,1)] (.one O .t one_int kr (.one O .t one_int kr .nil))) r2 qz (qf (Zcb 6 underlying129 ZhB .is (ZD.agg (enc:=Zbm) (k:=(⟨id,(Nn (Zd t) j).tx⟩:K2)) (.pagg .t) O)) r2 r1 qZ))))))))) M Q9 Kn O O fun a w F G=>?_)
   have G:=Xb
   obtain ⟨ue2,hue2⟩:∃ z,z=gDel (⟨id,(Nn (Zd t) j).tx⟩:K2) ue:=⟨_,rfl⟩
   rw [← hue2] at G
   have hu2:CR ue2 (dX f.U id (((Zd t).take (j+1)).map Zad.tx)):=WM
   refine Zh (Za (rZ G (qp r1 (qR rr qZ)) M Q9 Kn fun G=>?_))
   replace G:=G.eI 64 j
   obtain ⟨F,G⟩:=G.nM [63,62,4,1,0,64] Qw
   exact ⟨((j+1),(re3),(rk2),(ue2),(uk)),F,⟨ow,⟨hr3,hu2⟩⟩,G,ow⟩
  have hLL:(ZaB (sW f.R id ((Zd t).take j) false (Nn (Zd t) j)) id false)≠[]:=fun e=>by rw [e] at hc3;simp at hc3
  replace G:=G.turn 63 O (r':=.ob (.val ((gGet (Nn (Zd t) j) re2).getD ZaP).1) (ZC 3 1 Zk ((gGet (Nn (Zd t) j) re2).getD ZaP).2)) (by rw [hRw (Nn (Zd t) j)];exact fun _ _ _ _ h=>h)
  obtain ⟨F,G⟩:=Sat.backKey (T:=3) (sz:=1) (R:=Zk) G 62 63 (Nn (Zd t) j) O O rfl
  obtain ⟨F,G⟩:=G.nM [88,64,63,62,10,4,1,0] Kn
  obtain ⟨re3,hre3⟩:∃ z,z=re2:=⟨_,rfl⟩
  rw [← hre3] at G
  have hr3:RN re3 (sW f.R id ((Zd t).take (j+1)) false):=by rw [hre3,hre2];exact hr1.stay (Nn (Zd t) j) v80 (ZaB (sW f.R id ((Zd t).take j) false (Nn (Zd t) j)) id false) hLL (Ze3 (fun k=>(hf.r k).1) hil)
  refine Yc (Za (ZA G (qR rr (qf (Zt 2 .is XI) r1 r1 (qf (oF 3 2 .adr) r1 r1 (qa 2 r1 r1 (qR rr (qg 0 102 r1 r1 (qa 102 r1 r1 (qf (oB [(0,.tmp 98),(1,.tmp 100)] [.int .i64 0,.int .i64 0] [(0,1),(1,1)] (.one O .t one_int kr (.one O .t one_int kr .nil))) r2 qz (qf (Zcb 6 underlying129 ZhB .is (ZD.agg (enc:=Zbm) (k:=(⟨id,(Nn (Zd t) j).tx⟩:K2)) (.pagg .t) O)) r2 r1 qZ))))))))) M Q9 Kn O O fun a w F G=>?_))
  have G:=Xb
  obtain ⟨ue2,hue2⟩:∃ z,z=gDel (⟨id,(Nn (Zd t) j).tx⟩:K2) ue:=⟨_,rfl⟩
  rw [← hue2] at G
  have hu2:CR ue2 (dX f.U id (((Zd t).take (j+1)).map Zad.tx)):=WM
  refine Zh (Za (rZ G (qp r1 (qR rr qZ)) M Q9 Kn fun G=>?_))
  replace G:=G.eI 64 j
  obtain ⟨F,G⟩:=G.nM [63,62,4,1,0,64] Qw
  exact ⟨((j+1),(re3),(rk2),(ue2),(uk)),F,⟨ow,⟨hr3,hu2⟩⟩,G,ow⟩
 have hil:j=(Zd t).length:=WI
 rw [hil,Yz] at hr1 hu1
 refine Yt (Zg (Zg (Zp (Za (Ya (rZ G (qI qZ) M [4] Kh fun G=>Yh ?_))))))
 have G:=G.fresh 1 rfl
 obtain ⟨F,G⟩:=G.push 1 7 O O O kr
 obtain ⟨F,G⟩:=G.push 1 6 O O O kr
 obtain ⟨F,G⟩:=G.push 1 62 O O O kr
 obtain ⟨F,G⟩:=G.push 1 5 O O O kr
 obtain ⟨F,G⟩:=G.push 1 60 O O O kr
 obtain ⟨F,G⟩:=G.push 1 4 O O O kr
 obtain ⟨F,G⟩:=G.push 1 3 O O O kr
 obtain ⟨F,G⟩:=G.push 1 2 O O O kr
 have G:=G.turn 1 O (r':=RS.hp (ZH (.pointer (some ⟨b,0,none⟩)) (ZaZ f id).1)) (by rw [Zcn ht];exact fun _ _ _ _ h=>⟨{ sx with te:=gDel id sx.te,we:=we,wk:=wk,re:=re,rk:=rk,ue:=ue,uk:=uk,xe:=xe,xk:=xk },⟨hk.tn.del,fun j9=>by rw [gGet_del hk.tn,hk.t j9],hw1,hr1,hu1,hx1⟩,h⟩)
 have hres:(0:Int)=(ZaZ f id).2:=by rw [Zcn ht]
 refine Zb0 hG G O (.tmp O .nil) (.one (.int hres)) rfl
theorem Zk4 (b:Nat) (f:IxF) (t:TxD) (hf:Zdn f) (hto:t.ops.length≤1000):FnG prog 33 1 [.is (.pointer (some ⟨b,0,none⟩)),.agg (rTx t)] [ZH (.pointer (some ⟨b,0,none⟩)) f] (.int .i64 (ZhF f t).2) (fun _=>[ZH (.pointer (some ⟨b,0,none⟩)) (ZhF f t).1]):=by
 refine FnG.mk func33 O ntmps33 O kr fun B F0 a w F M hG G=>?_
 have hkb:=Zjj t
 have hnb:=Zff t
 refine Ya (rS G (qx 101 r1 (qI qZ)) M Q7 KQ fun τ G=>?_)
 have G:=Xv
 generalize τ 3=v3 at G
 refine Za (Ya (Ya (rZ G (qe 3 101 r1 r1 (qf (oP (Zg5 t) func85 (Args.one (.pagg .t))) r1 qz (qO rr qZ))) M JD KQ fun G=>Ya ?_)))
 refine rZ G (qR rr (qf (o_neq .t qi) r1 qz qZ)) M [13,5,4,3,0] KQ fun G=>?_
 refine Zb G O (fun hc0=>?_) (fun hc0=>?_)
 ·have hR0:ZF t≠0:=Wk
  refine Ya (rZ G (qR rr (qO rr qZ)) M Q7 KQ fun G=>(Yh (Ze ?_)))
  have G:=G.turn 1 O (r':=RS.hp (ZH (.pointer (some ⟨b,0,none⟩)) (ZhF f t).1)) (by rw [ZkY hR0];exact fun _ _ _ _ h=>h)
  have hres:ZF t=(ZhF f t).2:=by rw [ZkY hR0]
  refine Zb0 hG G O (.tmp O .nil) (.one (.int hres)) rfl
 have hR0:ZF t=0:=Wk
 refine Yc (Za (Ya (Ya (rZ G (qR rr (qf (Zau _ Yby rfl .t) r1 qz qZ)) M [16,4,3,0] KQ fun G=>?_))))
 refine Zb G O (fun hc1=>?_) (fun hc1=>?_)
 ·simp at hc1
 refine Yc (Za (Ya (Zi G (qR rr (qg 0 101 r1 r1 (qa 101 r1 r1 (qf (o_callG1 1 (ZiR b f t.id hf) func32 O kr (Args.two .t .t)) r2 r1 qZ)))) M Q7 KQ O O fun a w F G=>?_)))
 obtain ⟨f1,hf1⟩:∃ z,z=(ZaZ f t.id).1:=⟨_,rfl⟩
 rw [← hf1] at G
 obtain ⟨hfw,hfr,hfu,hfb⟩:=hf.drop t.id
 rw [← hf1] at hfw hfr hfu hfb
 refine Za (Ya ?_)
 replace G:=G.fresh 102 rfl
 refine rS G (qg 2 101 r1 r1 (qa 101 r1 r1 (qf (Zbd 102 (ZgK t.ops ow) func86 O kr (Args.one .t) Zar) r1 r1 (qg 2 101 r1 r1 (qf (Zbr 101 .adr kr kr) r2 r1 qZ))))) M Q7 [102,101,1,0] fun τ G=>?_
 have G:=X9
 generalize τ 23=v23 at G
 obtain ⟨F,G⟩:=G.giveCell 102 101 2 O O O O rfl
 have G:=Xw
 obtain ⟨F,G⟩:=G.nM Q7 KQ
 obtain ⟨sx,G⟩:=G.open_ex 1 rfl
 obtain ⟨hk,G⟩:=G.open_and 1 rfl
 have G:=Xm
 obtain ⟨F,G⟩:=G.peel 1 2 O rfl
 obtain ⟨F,G⟩:=G.peel 1 3 O rfl
 obtain ⟨F,G⟩:=G.peel 1 4 O rfl
 obtain ⟨F,G⟩:=G.peel 1 60 O rfl
 obtain ⟨F,G⟩:=G.peel 1 5 O rfl
 obtain ⟨F,G⟩:=G.peel 1 62 O rfl
 obtain ⟨F,G⟩:=G.peel 1 6 O rfl
 obtain ⟨F,G⟩:=G.peel 1 7 O rfl
 have G:=X2
 obtain ⟨F,G⟩:=G.nM Q7 Kh
 refine Za (Ya (ZA G (qR rr (qf (Zt 2 .is XI) r1 r1 (qf (oF 0 2 .adr) r1 r1 (qa 2 r1 r1 (qg 0 101 r1 r1 (qa 101 r1 r1 (qe 3 101 r1 r1 (qf (Za0 (ek:=(fun t:TxD=>PV.agg (rTx t))) (v:=t) 3 underlying126 (Zbu Ybx) .is (ZD.intR .t O) (.pagg .t)) r3 r1 qZ)))))))) M Q7 Kh O O fun a w F G=>?_))
 have G:=Xi
 obtain ⟨te2,hte2⟩:∃ z,z=(gPut t.id t (sx.te,sx.tk)).1:=⟨_,rfl⟩
 obtain ⟨tk2,htk2⟩:∃ z,z=(gPut t.id t (sx.te,sx.tk)).2:=⟨_,rfl⟩
 rw [← hte2,← htk2] at G
 have htn:GNd te2:=by rw [hte2];exact hk.tn.put (s:=(sx.te,sx.tk))
 have htt:∀ j9,gGet j9 te2=if j9=t.id then some t else f1.T j9:=fun j9=>by rw [hte2,Zbw,hk.t j9]
 refine Za (Ya (ZA G (qR rr (qf (Zt 2 .is XI) r1 r1 (qf (oF 5 2 .adr) r1 r1 (qa 2 r1 r1 (qe 3 101 r1 r1 (qf (oP (ZeY t ow) func81 (Args.one (.pagg .t))) r1 qz (qf (Zbb .t .t) r2 qz (qf (Zt 2 .is XI) r1 r1 (qf (oF 5 2 .adr) r1 r1 (qf (Zgv 2 .adr .t one_int kr kr) r2 r1 qZ)))))))))) M Q7 Kh O O fun a w F G=>?_))
 have G:=Xb
 rw [show IntKind.wrap .i64 (f1.wt+((t.ops.length+1:Nat):Int))=f1.wt+((t.ops.length+1:Nat):Int) from ZK ow] at G
 refine Za (Ya (Ya (Zi G (qe 3 101 r1 r1 (qf (oP (Zgo t ow) func82 (Args.one (.pagg .t))) r1 qz (qu Ybs r1 (qJ qZ)))) M Qb Kh O O fun a w F G=>?_)))
 rw [show Zan ((t.ops.filter fun o=>!o.read).map OpD.key)=Zl t from rfl] at G
 refine Za (Yf (Zj (σ:=(Nat)×(List (GE K2 Int))×(Nat)×(List (GE Int (Value×List Int)))×(Nat)) [0,3,4,42,43] [0,2,3,5,6,62,101] (fun s=>[(44,.pv (.int .i64 (s.1:Int)))]) (fun s=>[(7,.ob (.val sx.xv) (Zov s.2.1 s.2.2.1)),(4,.ob (.val sx.wv) (Zo0 s.2.2.2.1 s.2.2.2.2)),(60,RS.hp (Zf2 s.2.2.2.1))]) (fun s=>s.1≤(Zl t).length∧(CR s.2.1 (pX f1.X t.id ((Zl t).take s.1) (fun k=>(wcnt t.ops k:Int)))∧RR s.2.2.2.1 (wP f1 t ((Zl t).take s.1)))) (fun s=>(Zl t).length - s.1) ((0),(sx.xe),(sx.xk),(sx.we),(sx.wk)) G ⟨rfl,rfl,rfl,rfl,rfl,rfl,tv⟩ ⟨rfl,rfl,rfl,rfl,rfl,rfl,rfl,rfl,rfl,rfl,tv⟩ ⟨Yp _,⟨(by rw [ZpB];exact hk.x),(by rw [Zpm];exact hk.w)⟩⟩ ?_))
 clear G;intro s a w F hC G
 obtain ⟨i,xe,xk,we,wk⟩:=s
 have hC:=X4
 obtain ⟨F,G⟩:=G.nM Qb Kh
 have G:=X2
 obtain ⟨hi,hq⟩:=hC
 obtain ⟨hx1,hw1⟩:=hq
 have hwl:=ZiK (fun k=>(hfw k).2) t.id ((Zl t).take i) true (Nn (Zl t) i)
 refine Ya (rZ G (qL r2) M [45,44,43,42,4,3,0] Kh fun G=>Ya ?_)
 refine Zb G O (fun hc2=>?_) (fun hc2=>?_)
 ·have hil:i<(Zl t).length:=WI
  refine Yc (Za (Ya (Yf (Ya (Zi G (qy 1 Ybs r2 (qf (oR false 1 .t) r1 qz (qO rr qZ))) M [44,43,42,7,4,3,0] Kh O O fun a w F G=>?_)))))
  try simp only [Yg] at G
  refine Za (Ya (ZA G (qR rr (qf (Zt 2 .is XI) r1 r1 (qf (oF 4 2 .adr) r1 r1 (qa 2 r1 r1 (qg 0 101 r1 r1 (qa 101 r1 r1 (qR rr (qf (Zer (sz:=1) (r:=[(0,.tmp 53),(1,.tmp 54)]) (zs:=[.int .i64 0,.int .i64 0]) (pl:=[(0,1),(1,1)]) underlying142 kr kr O (.one O .t one_int kr (.one O .t one_int kr .nil)) XI) r2 qz (qe 3 101 r1 r1 (qR rr (qf (oP (Zdp t (Nn (Zl t) i) ow) func87 (Args.two (.pagg .t) .t)) r2 qz (qf (Za0 (ek:=(fun n:Int=>PV.int .i64 n)) (v:=(wcnt t.ops (Nn (Zl t) i):Int)) 7 underlying130 Zir .is (ZD.agg (enc:=Zbm) (k:=(⟨t.id,(Nn (Zl t) i)⟩:K2)) (.pagg .t) O) .t) r3 r1 qZ)))))))))))) M [44,43,42,7,4,3,0] Kh O O fun a w F G=>?_))
  have G:=Xb
  obtain ⟨xe2,hxe2⟩:∃ z,z=(gPut (⟨t.id,(Nn (Zl t) i)⟩:K2) (wcnt t.ops (Nn (Zl t) i):Int) (xe,xk)).1:=⟨_,rfl⟩
  obtain ⟨xk2,hxk2⟩:∃ z,z=(gPut (⟨t.id,(Nn (Zl t) i)⟩:K2) (wcnt t.ops (Nn (Zl t) i):Int) (xe,xk)).2:=⟨_,rfl⟩
  rw [← hxe2,← hxk2] at G
  have hx2:CR xe2 (pX f1.X t.id ((Zl t).take (i+1)) (fun k=>(wcnt t.ops k:Int))):=by rw [hxe2,show pX f1.X t.id ((Zl t).take (i+1)) (fun k=>(wcnt t.ops k:Int))=_ from funext (Znv hil)];exact hx1.put _ _
  refine Za (Ya (rZ G (qg 1 101 r1 r1 (qa 101 r1 r1 qZ)) M [60,44,43,42,7,4,3,0] Kh fun G=>?_))
  refine Zb G O (fun hc3=>?_) (fun hc3=>?_)
  ·have hdn:t.done=true:=hc3
   rw [show wP f1 t ((Zl t).take i)=sW f1.W t.id ((Zl t).take i) true from by unfold wP;rw [Ye hdn]] at hw1
   refine rT G (qR rr (qf (Zt 2 .is XI) r1 r1 (qf (oF 1 2 .adr) r1 r1 (qa 2 r1 r1 (qR rr (qR rr (qf (Zt 2 .is XI) r1 r1 (qf (oF 1 2 .adr) r1 r1 (qa 2 r1 r1 (qR rr (qf (ZX (ek:=(fun p:Value×List Int=>PV.is p.1)) (z0:=ZaP) 4 Ybz (Zbu Ybx) kr (fun _ _=>⟨rfl,rfl⟩) .is (ZD.intR .t O)) r2 r1 (qg 0 101 r1 r1 (qa 101 r1 r1 (qf (Zet 60 (Znp we wk (Nn (Zl t) i) _ (sW f1.W t.id ((Zl t).take i) true (Nn (Zl t) i)) t.id (hw1.pair (Nn (Zl t) i)) (ZcI (fun k=>(hfw k).1) _ _ _ _) ow) func88 O kr (Args.two .t .t) Zar) r2 r1 (qf (Zdv (ZaB (sW f1.W t.id ((Zl t).take i) true (Nn (Zl t) i)) t.id true) 74 4 Ybz (Zbu Ybx) .is (ZD.intR .t O)) r3 r1 qZ))))))))))))))) M Qb Kh fun τ G=>?_
   have G:=Xe
   generalize τ 74=v74 at G
   replace G:=G.turn 60 O (r':=RS.hp (Zf2 (gPut (Nn (Zl t) i) (v74,(ZaB (sW f1.W t.id ((Zl t).take i) true (Nn (Zl t) i)) t.id true)) (we,wk)).1)) (fun _ _ _ _ h=>h)
   replace G:=G.turn 4 O (r':=.ob (.val sx.wv) (Zo0 (gPut (Nn (Zl t) i) (v74,(ZaB (sW f1.W t.id ((Zl t).take i) true (Nn (Zl t) i)) t.id true)) (we,wk)).1 (gPut (Nn (Zl t) i) (v74,(ZaB (sW f1.W t.id ((Zl t).take i) true (Nn (Zl t) i)) t.id true)) (we,wk)).2)) (fun _ _ _ _ h=>h)
   obtain ⟨we2,hwe2⟩:∃ z,z=(gPut (Nn (Zl t) i) (v74,(ZaB (sW f1.W t.id ((Zl t).take i) true (Nn (Zl t) i)) t.id true)) (we,wk)).1:=⟨_,rfl⟩
   obtain ⟨wk2,hwk2⟩:∃ z,z=(gPut (Nn (Zl t) i) (v74,(ZaB (sW f1.W t.id ((Zl t).take i) true (Nn (Zl t) i)) t.id true)) (we,wk)).2:=⟨_,rfl⟩
   rw [← hwe2,← hwk2] at G
   have hw2:RR we2 (wP f1 t ((Zl t).take (i+1))):=by rw [hwe2,show wP f1 t ((Zl t).take (i+1))=sW f1.W t.id ((Zl t).take (i+1)) true from by unfold wP;rw [Ye hdn],show sW f1.W t.id ((Zl t).take (i+1)) true=_ from funext (Ze3 (fun k=>(hfw k).1) hil)];exact hw1.put _ _ _
   obtain ⟨F,G⟩:=G.nM Qb Kh
   refine Zh (Za (rZ G (qp r1 (qR rr qZ)) M Qb Kh fun G=>?_))
   replace G:=G.eI 44 i
   obtain ⟨F,G⟩:=G.nM [43,42,4,3,0,44] Qv
   exact ⟨((i+1),(xe2),(xk2),(we2),(wk2)),F,⟨ow,⟨hx2,hw2⟩⟩,G,ow⟩
  have hdn:¬ t.done=true:=by rw [hc3];simp
  obtain ⟨we2,hwe2⟩:∃ z,z=we:=⟨_,rfl⟩
  obtain ⟨wk2,hwk2⟩:∃ z,z=wk:=⟨_,rfl⟩
  rw [← hwe2,← hwk2] at G
  have hw2:RR we2 (wP f1 t ((Zl t).take (i+1))):=by rw [hwe2,show wP f1 t ((Zl t).take (i+1))=wP f1 t ((Zl t).take i) from by unfold wP;rw [Yb hdn,Yb hdn]];exact hw1
  refine Yc (Zh (Za (rZ G (qp r1 (qR rr qZ)) M Qb Kh fun G=>?_)))
  replace G:=G.eI 44 i
  obtain ⟨F,G⟩:=G.nM [43,42,4,3,0,44] Qv
  exact ⟨((i+1),(xe2),(xk2),(we2),(wk2)),F,⟨ow,⟨hx2,hw2⟩⟩,G,ow⟩
 have hil:i=(Zl t).length:=WI
 rw [hil,Yz] at hx1 hw1
 refine Yt (Zg (Zg (Zp (Za (Ya (Ya (rZ G (qe 3 101 r1 r1 (qf (oP (Zdk t ow) func84 (Args.one (.pagg .t))) r1 qz (qu Ybw r1 (qJ qZ)))) M QR Kh fun G=>Yf ?_)))))))
 refine Zj (σ:=(Nat)×(List (GE Zad (Value×List Int)))×(Nat)×(List (GE K2 Int))×(Nat)) [0,3,4,77,78] [0,2,3,4,7,60,101] (fun s=>[(79,.pv (.int .i64 (s.1:Int)))]) (fun s=>[(5,.ob (.val sx.rv) (ZoJ s.2.1 s.2.2.1)),(62,RS.hp (Zf2 s.2.1)),(6,.ob (.val sx.uv) (ZpI s.2.2.2.1 s.2.2.2.2))]) (fun s=>s.1≤(Zd t).length∧(RN s.2.1 (sW f1.R t.id ((Zd t).take s.1) true)∧CR s.2.2.2.1 (pU f1.U t.id ((Zd t).take s.1)))) (fun s=>(Zd t).length - s.1) ((0),(sx.re),(sx.rk),(sx.ue),(sx.uk)) G ⟨rfl,rfl,rfl,rfl,rfl,rfl,tv⟩ ⟨rfl,rfl,rfl,rfl,rfl,rfl,rfl,rfl,rfl,rfl,tv⟩ ⟨Yp _,⟨(by rw [ZiH];exact hk.r),(by rw [ZoN];exact hk.u)⟩⟩ ?_
 clear G;intro s a w F hC G
 obtain ⟨j,re,rk,ue,uk⟩:=s
 have hC:=X4
 obtain ⟨F,G⟩:=G.nM QR Kh
 have G:=X2
 obtain ⟨hi,hq⟩:=hC
 obtain ⟨hr1,hu1⟩:=hq
 have hrl:=ZiK (fun k=>(hfr k).2) t.id ((Zd t).take j) true (Nn (Zd t) j)
 have hub:=ZpP (L:=(Zd t).take j) (id:=t.id) (n:=1000000) hfu (⟨t.id,(Nn (Zd t) j).tx⟩:K2)
 rw [Yj] at hub
 refine Ya (rZ G (qL r2) M [80,79,78,77,4,3,0] Kh fun G=>Ya ?_)
 refine Zb G O (fun hc4=>?_) (fun hc4=>?_)
 ·have hil:j<(Zd t).length:=WY
  refine Yc (Za (Ya (Yf (Ya (rS G (qy 3 Ybw r2 (qf (oR true 3 .t) r1 qz (qf (oH [.int .i64 0,.int .i64 0,.int .i64 0] 103) trivial qz (qS 3 103 r2 r1 qZ)))) M Ja KG fun τ G=>?_)))))
  have G:=X9
  generalize τ 9=v9 at G
  try simp only [Yg] at G
  refine Za (Ya (rT G (qR rr (qf (Zt 2 .is XI) r1 r1 (qf (oF 2 2 .adr) r1 r1 (qa 2 r1 r1 (qe 3 103 r1 r1 (qR rr (qf (Zt 2 .is XI) r1 r1 (qf (oF 2 2 .adr) r1 r1 (qa 2 r1 r1 (qe 3 103 r1 r1 (qf (ZX (ek:=(fun p:Value×List Int=>PV.is p.1)) (z0:=ZaP) 5 YbA Zda kr (fun _ _=>⟨rfl,rfl⟩) .is (ZD.agg (enc:=Zag) (k:=(Nn (Zd t) j)) (.pagg .t) O)) r2 r1 (qg 0 101 r1 r1 (qa 101 r1 r1 (qf (Zet 62 (Znp re rk (Nn (Zd t) j) _ (sW f1.R t.id ((Zd t).take j) true (Nn (Zd t) j)) t.id (hr1.2.1.pair (Nn (Zd t) j)) (ZcI (fun k=>(hfr k).1) _ _ _ _) ow) func88 O kr (Args.two .t .t) Zar) r2 r1 (qf (Zdv (ZaB (sW f1.R t.id ((Zd t).take j) true (Nn (Zd t) j)) t.id true) 96 5 YbA Zda .is (ZD.agg (enc:=Zag) (k:=(Nn (Zd t) j)) (.pagg .t) O)) r3 r1 qZ))))))))))))))) M Ja KG fun τ G=>?_))
  have G:=Xe
  generalize τ 96=v96 at G
  replace G:=G.turn 62 O (r':=RS.hp (Zf2 (gPut (Nn (Zd t) j) (v96,(ZaB (sW f1.R t.id ((Zd t).take j) true (Nn (Zd t) j)) t.id true)) (re,rk)).1)) (fun _ _ _ _ h=>h)
  replace G:=G.turn 5 O (r':=.ob (.val sx.rv) (ZoJ (gPut (Nn (Zd t) j) (v96,(ZaB (sW f1.R t.id ((Zd t).take j) true (Nn (Zd t) j)) t.id true)) (re,rk)).1 (gPut (Nn (Zd t) j) (v96,(ZaB (sW f1.R t.id ((Zd t).take j) true (Nn (Zd t) j)) t.id true)) (re,rk)).2)) (fun _ _ _ _ h=>h)
  obtain ⟨re2,hre2⟩:∃ z,z=(gPut (Nn (Zd t) j) (v96,(ZaB (sW f1.R t.id ((Zd t).take j) true (Nn (Zd t) j)) t.id true)) (re,rk)).1:=⟨_,rfl⟩
  obtain ⟨rk2,hrk2⟩:∃ z,z=(gPut (Nn (Zd t) j) (v96,(ZaB (sW f1.R t.id ((Zd t).take j) true (Nn (Zd t) j)) t.id true)) (re,rk)).2:=⟨_,rfl⟩
  rw [← hre2,← hrk2] at G
  have hr2:RN re2 (sW f1.R t.id ((Zd t).take (j+1)) true):=by rw [hre2];exact hr1.stay (Nn (Zd t) j) v96 (ZaB (sW f1.R t.id ((Zd t).take j) true (Nn (Zd t) j)) t.id true) (Zn2 _) (Ze3 (fun k=>(hfr k).1) hil)
  obtain ⟨F,G⟩:=G.nM Ja KG
  refine Za ?_
  replace G:=G.turnZ 6 (0) (⟨t.id,(Nn (Zd t) j).tx⟩:K2) rfl
  refine ZcM 6 13 (m1:=1) (m2:=2) kr G kr (qR rr (qf (Zt 2 .is XI) r1 r1 (qf (oF 3 2 .adr) r1 r1 (qa 2 r1 r1 (qg 0 101 r1 r1 (qa 101 r1 r1 (qg 0 103 r1 r1 (qa 103 r1 r1 (qf (oB [(0,.tmp 102),(1,.tmp 104)] [.int .i64 0,.int .i64 0] [(0,1),(1,1)] (.one O .t one_int kr (.one O .t one_int kr .nil))) r2 qz (qf (Zfh (ek:=(fun n:Int=>PV.int .i64 n)) (z0:=(0)) 6 underlying129 ZhB kr (fun _ _=>⟨rfl,ZfP⟩) .is (ZD.agg (enc:=Zbm) (k:=(⟨t.id,(Nn (Zd t) j).tx⟩:K2)) (.pagg .t) O)) r2 r1 (qp r1 (qf (ZcK (ek:=(fun n:Int=>PV.int .i64 n)) (z0:=(0)) 6 underlying129 ZhB kr (fun _ _=>⟨rfl,ZfP⟩) .is (ZD.agg (enc:=Zbm) (k:=(⟨t.id,(Nn (Zd t) j).tx⟩:K2)) (.pagg .t) O) Wc) r2 r1 (qf (Zn .t O) r1 qz (qf (ZbQ 6 (Zdt _ _ _) .is .t .t) r3 r1 qZ)))))))))))))) kr kr kr O O O (fun _ _ _ _ h=>.inr h) Wd fun a w F G=>?_
  obtain ⟨F,G⟩:=G.nM QR KG
  have G:=Xb
  rw [hu1.2 (⟨t.id,(Nn (Zd t) j).tx⟩:K2),ZK (x:=pU f1.U t.id ((Zd t).take j) (⟨t.id,(Nn (Zd t) j).tx⟩:K2)+1) ow] at G
  obtain ⟨ue2,hue2⟩:∃ z,z=gSet (⟨t.id,(Nn (Zd t) j).tx⟩:K2) (pU f1.U t.id ((Zd t).take j) (⟨t.id,(Nn (Zd t) j).tx⟩:K2)+1) (gEns 0 (⟨t.id,(Nn (Zd t) j).tx⟩:K2) (ue,uk)).1:=⟨_,rfl⟩
  obtain ⟨uk2,huk2⟩:∃ z,z=(gEns 0 (⟨t.id,(Nn (Zd t) j).tx⟩:K2) (ue,uk)).2:=⟨_,rfl⟩
  rw [← hue2,← huk2] at G
  have hu2:CR ue2 (pU f1.U t.id ((Zd t).take (j+1))):=by rw [hue2,show pU f1.U t.id ((Zd t).take (j+1))=_ from funext (ZnR hil)];exact hu1.entry _ _
  refine Zh (Za (rZ G (qp r1 (qR rr qZ)) M QR KG fun G=>?_))
  replace G:=G.eI 79 j
  obtain ⟨F,G⟩:=G.nM [78,77,4,3,0,79] Qw
  exact ⟨((j+1),(re2),(rk2),(ue2),(uk2)),F,⟨ow,⟨hr2,hu2⟩⟩,G,ow⟩
 have hil:j=(Zd t).length:=WY
 rw [hil,Yz] at hr1 hu1
 refine Yt (Zg (Zg (Zp (Za (Ya (rZ G (qI qZ) M [4] Kh fun G=>Yh ?_))))))
 have G:=G.fresh 1 rfl
 obtain ⟨F,G⟩:=G.push 1 7 O O O kr
 obtain ⟨F,G⟩:=G.push 1 6 O O O kr
 obtain ⟨F,G⟩:=G.push 1 62 O O O kr
 obtain ⟨F,G⟩:=G.push 1 5 O O O kr
 obtain ⟨F,G⟩:=G.push 1 60 O O O kr
 obtain ⟨F,G⟩:=G.push 1 4 O O O kr
 obtain ⟨F,G⟩:=G.push 1 3 O O O kr
 obtain ⟨F,G⟩:=G.push 1 2 O O O kr
 have G:=G.turn 1 O (r':=RS.hp (ZH (.pointer (some ⟨b,0,none⟩)) (ZhF f t).1)) (by rw [Zh6 hR0,← hf1,Zjh];exact fun _ _ _ _ h=>⟨{ sx with te:=te2,tk:=tk2,we:=we,wk:=wk,re:=re,rk:=rk,ue:=ue,uk:=uk,xe:=xe,xk:=xk },⟨htn,htt,hw1,hr1,hu1,hx1⟩,h⟩)
 have hres:(0:Int)=(ZhF f t).2:=by rw [Zh6 hR0]
 refine Zb0 hG G O (.tmp O .nil) (.one (.int hres)) rfl
theorem ZlN  : FnG prog 28 1 [] [HP.star []] (PV.ptr) (fun v=>[ZH v Zc9]):=by
 refine FnG.mk func28 O ntmps28 O kr fun B F0 a w F M hG G=>?_
 obtain ⟨F,G⟩:=G.nM [] [0]
 refine Ya (rZ G (qC qZ) M [0] [0] fun G=>Ya ?_)
 refine rS G (qf (ZaA (ek:=(fun t:TxD=>PV.agg (rTx t))) (ok:=(fun n:Int=>inR .i64 n)) (kv:=(fun n:Int=>Value.int .i64 n)) 101) trivial qz (qf (ZaA (ek:=(fun p:Value×List Int=>PV.is p.1)) (ok:=(fun n:Int=>inR .i64 n)) (kv:=(fun n:Int=>Value.int .i64 n)) 102) trivial qz (qf (ZaA (ek:=(fun p:Value×List Int=>PV.is p.1)) (ok:=(fun k=>∀ x ∈ Zag k,inR .i64 x)) (kv:=(kvS Zag)) 103) trivial qz (qf (ZaA (ek:=(fun n:Int=>PV.int .i64 n)) (ok:=(fun k=>∀ x ∈ Zbm k,inR .i64 x)) (kv:=(kvS Zbm)) 104) trivial qz (qf (ZaA (ek:=(fun n:Int=>PV.int .i64 n)) (ok:=(fun k=>∀ x ∈ Zbm k,inR .i64 x)) (kv:=(kvS Zbm)) 105) trivial qz (qf (oB [(0,.tmp 1),(1,.tmp 2),(2,.tmp 3),(3,.tmp 4),(4,.tmp 5)] [.map none,.map none,.map none,.map none,.map none,.int .i64 0] [(0,1),(1,1),(2,1),(3,1),(4,1),(5,1)] (.same O kr (.same O kr (.same O kr (.same O kr (.same O kr .nil)))))) r5 qz (qf (oX 106 .t) r1 qz (qO rr qZ)))))))) M [0] [106,105,104,103,102,101,0] fun τ G=>?_
 have G:=Xk
 generalize τ 7=v7,τ 1=v1 at G
 generalize τ 2=v2,τ 3=v3 at G
 generalize τ 4=v4,τ 5=v5 at G
 refine Za (Yh ?_)
 obtain ⟨b,rfl⟩:=G.shape 106 rfl
 replace G:=G.fresh 80 rfl
 replace G:=G.turn 80 O (r':=RS.hp (Zf2 ([]:List (GE Int (Value×List Int))))) (fun _ _ _ _ h=>h)
 replace G:=G.fresh 81 rfl
 replace G:=G.turn 81 O (r':=RS.hp (Zf2 ([]:List (GE Zad (Value×List Int))))) (fun _ _ _ _ h=>h)
 have G:=G.fresh 1 rfl
 obtain ⟨F,G⟩:=G.push 1 105 O O O kr
 obtain ⟨F,G⟩:=G.push 1 104 O O O kr
 obtain ⟨F,G⟩:=G.push 1 81 O O O kr
 obtain ⟨F,G⟩:=G.push 1 103 O O O kr
 obtain ⟨F,G⟩:=G.push 1 80 O O O kr
 obtain ⟨F,G⟩:=G.push 1 102 O O O kr
 obtain ⟨F,G⟩:=G.push 1 101 O O O kr
 obtain ⟨F,G⟩:=G.push 1 106 O O O kr
 have G:=G.turn 1 O (r':=RS.hp (ZH (.pointer (some ⟨b,0,none⟩)) Zc9)) (fun _ _ _ _ h=>⟨⟨v1,v2,v3,v4,v5,[],0,[],0,[],0,[],0,[],0⟩,ZnV,h⟩)
 refine Zac (h':=fun v=>ZH v Zc9) hG G O (.tmp O .nil) (.one .ptr) rfl
end Go.Proofs.YtfecljadegkmdaaGreat
namespace Go.Proofs.YtfecljadegkmdaaGreat
open Go Go.Gm Tryz
set_option linter.unusedVariables false
set_option linter.unusedSimpArgs false
set_option maxHeartbeats 4000000
set_option maxRecDepth 8000
open Go.RowKit Go.Maps Go.Sort Go.Shelf Go.ChangeMaps Go.MapKept
set_option maxRecDepth 100000 in
set_option maxHeartbeats 1000000 in
theorem Zoz (F:Fence) (n:Nat) (h10:F.fn 167) (hro:F.round=none) (hn:1≤n) (l Bm off b clock:Nat) (es:Array MapEntry) (hnd:(es.toList.map (·.born)).Nodup) (hold:∀ x ∈ es.toList,x.born<clock) (hkv:∀ e ∈ es.toList,∃ k:Int,e.key=ZlK k) (J:List Int→World→Prop)
  (hY:∀ pre x W,J pre W→pre.length<es.size→YieldAt F (n - 1) prog l #[ZlK x] W fun e W'=>e = .returned (.bool true)∧J (pre ++ [x]) W' ∧ KeepsWalks W W')
  (W:World) (hJ:AbidesFrom W.heap.size J) (hm:W.cell? ⟨Bm,off,none⟩ = some (.map (some b))) (hb:W.heap[b]? = some (.map es clock)) (h0:J [] W) :
  CallsIn F n prog 167 #[.func (.yield l) #[] #[],.pointer (some ⟨Bm,off,none⟩)] W fun e W'=>(∃ v,e = .returned v) ∧ ∃ ss:List Int,(ss.map ZlK).Perm (es.toList.map (·.key))∧J ss W':=by
 have hbl:b<W.heap.size:=(YZ.1 hb).1
 refine callsIn_of_wp func167 O h10 ?_ hro
 simp only [ntmps167,Yam,Yl,Yy,Nat.reduceAdd,Nat.reduceSub,Array.replicate_succ,Array.replicate_zero,List.push_toArray,List.append_toArray,Yat,Ya6]
 gi_wp2_with (first
  | (gi_at_range;refine Zdi rfl _ 126 rfl 3 36 kr b es clock rfl hb ?_)
  | gi_in)
 go_frame
 have hg0:W.grownBy (W.alloc (.mapIter (some b) clock #[] clock)) none:=World.grownBy_alloc W _ none
 have hr0:(W.alloc (.mapIter (some b) clock #[] clock)).heap[W.heap.size]? = some (.mapIter (some b) clock #[] clock):=World.alloc_heap_new W _
 have hb0:(W.alloc (.mapIter (some b) clock #[] clock)).heap[b]? = some (.map es clock):=(Below.heap_alloc _ _ b hbl).trans hb
 generalize W.alloc (.mapIter (some b) clock #[] clock)=w0 at hg0 hr0 hb0 ⊢
 gi_loopw [3] (fun _ wr=>∃ (seen:Array Nat) (c0:Nat) (ss:List Int),wr.heap[W.heap.size]? = some (.mapIter (some b) clock seen c0)∧clock≤c0∧wr.heap[b]? = some (.map es clock)∧(ss.map ZlK).Perm ((es.toList.filter fun x=>seen.contains x.born).map (·.key))∧ss.length+(leftOf es seen).size≤es.size∧J ss wr)
  (fun _ wr=>(leftOf es (wr.iterSeen W.heap.size)).size)
 case atStart=>
  exact ⟨#[],clock,[],hr0,YP _,hb0,by rw [Zko];exact .nil,by rw [Zkv];simp,hJ [] W w0 none h0 hg0 (fun r e=>by cases e)⟩
 case round=>
  obtain ⟨seen,c0,ss,hr,hsc,hbr,hp,hcs,hJs⟩:=hrel
  gi_wp2_with (first
   | (gi_at_next;refine ZdQ rfl _ rfl W.heap.size b clock c0 seen es rfl hr hbr hold hsc ow hnd ?_ ?_)
   | gi_in)
  ·intro hl0
   gi_wp2
   go_end0
   exact ⟨⟨_,rfl⟩,ss,by rw [Zmk hl0] at hp;exact hp,hJs⟩
  ·intro e w2 hN
   obtain ⟨hem,hes⟩:=mem_left hN.left
   obtain ⟨x,hx⟩:=hkv e hem
   have hr2:=hN.it
   have hb2:=hN.mp
   have hen:=hN.entry
   have hlt:=left_shrinks es seen e hN.left
   have hJ2:J ss w2:=hJ ss wr w2 (some W.heap.size) hJs hN.grown (fun r e9=>by cases e9;exact ⟨YP _,_,hr,rfl⟩)
   rw [hx] at hen
   obtain ⟨fn,tmps,assign,body,hy,hR⟩:=hY ss x w2 hJ2 ow
   rw [hx]
   clear hN
   gi_wp2
   refine hR.mono ?_
   rintro e9 W3 ⟨rfl,hJ3,hk3⟩
   gi_wp2
   have hr3:=hk3.same _ _ hr2 rfl
   have hb3:=hk3.same _ _ hb2 rfl
   go_roundw
   case rel=>
    exact ⟨seen.push e.born,clock,ss ++ [x],hr3,YP _,hb3,by
     rw [Yaj,List.map_singleton]
     have h9:=((ZgT hnd hem hes).map (·.key)).symm
     rw [YJ,hx] at h9
     exact ((List.perm_append_singleton _ _).trans (hp.cons _)).trans h9,by rw [Yd,List.length_singleton];omega,hJ3⟩
   case measure=>
    simp only [World.iterSeen,hr3,hr]
    exact hlt
end Go.Proofs.YtfecljadegkmdaaGreat
namespace Go.Proofs.YtfecljadegkmdaaGreat
open Go Go.Gm Tryz
set_option linter.unusedVariables false
set_option linter.unusedSimpArgs false
set_option maxHeartbeats 4000000
set_option maxRecDepth 8000
open Go.RowKit Go.Maps Go.Sort Go.Shelf Go.ChangeMaps Go.MapKept
theorem Zkm {α:Type} {enc:α→Value} {dec:Value→α} (h:∀ x,dec (enc x)=x) {l m:List α} (hp:(l.map enc).Perm (m.map enc)):l.Perm m:=by
 have h1:=hp.map dec
 rw [YaY,YaY] at h1
 have e:dec ∘ enc=id:=by funext x;exact h x
 rwa [e,List.map_id,List.map_id] at h1
theorem Zii {ν:Type} (ek:ν→PV) (mv:Value) (es:List (GE Int ν)) (ck:Nat) (hN:es.length≤1000000000):FnG prog 166 2 [.clos 167 [.ref [.is mv]]] [mapG ek (fun n:Int=>inR .i64 n) (fun n:Int=>Value.int .i64 n) es ck mv,.star []] PV.one (fun v=>[mapG ek (fun n:Int=>inR .i64 n) (fun n:Int=>Value.int .i64 n) es ck mv,.ex fun l:List Int=>.and (l.Perm (es.map (·.key))) (ZC 3 1 Zk l v)]):=fun w F vs hw hle hvs hpr=>by
 match vs,hvs with
 | [fv],hvs=>
  obtain ⟨caps,hfv,hcaps⟩:=hvs.1
  match caps,hcaps with
  | [cu],hcaps=>
   obtain ⟨Bm,off,us,hcu,hny,hBm,hc,hus⟩:=hcaps.1
   match us,hus with
   | [mu],hus=>
    have hmu:mu=mv:=hus.1.2.1
    subst hmu
    subst hcu
    subst hfv
    obtain ⟨b,rs,hmv,hb,hg,⟨hwf,hkeys⟩,hf⟩:=hpr 0 _ rfl
    have hst:∀ c,¬ F 2 c:=hpr 1 _ rfl
    subst hmv
    have hbl:b<w.heap.size:=(YZ.1 hb).1
    have hm:w.cell? ⟨Bm,off,none⟩ = some (.map (some b)):=hc.1
    have hkm:rs.map (·.key)=es.map (·.key):=hg.keys
    have hbm:rs.map (·.born)=es.map (·.born):=hg.borns
    have hnd:(((rs.map (rEnc (fun n:Int=>Value.int .i64 n))).toArray).toList.map (·.born)).Nodup:=by
     have e1:((rs.map (rEnc (fun n:Int=>Value.int .i64 n))).toArray).toList.map (·.born)=rs.map (·.born):=by rw [YaY];rfl
     rw [e1,hbm];exact hwf.1
    have hold:∀ x ∈ ((rs.map (rEnc (fun n:Int=>Value.int .i64 n))).toArray).toList,x.born<ck:=fun x hx=>by
     obtain ⟨r,hr,rfl⟩:=YI.1 hx
     have h1:r.born ∈ es.map (·.born):=hbm ▸ YI.2 ⟨r,hr,rfl⟩
     obtain ⟨e,he,e1⟩:=YI.1 h1
     show r.born<ck
     rw [← e1];exact hwf.2 e he
    have hkv:∀ x ∈ ((rs.map (rEnc (fun n:Int=>Value.int .i64 n))).toArray).toList,∃ k:Int,x.key=ZlK k:=fun x hx=>by
     obtain ⟨r,_,rfl⟩:=YI.1 hx
     exact ⟨r.key,rfl⟩
    have hlen:((rs.map (rEnc (fun n:Int=>Value.int .i64 n))).toArray).size=es.length:=by
     have h1:=Yap List.length hkm
     simp at h1 ⊢;exact h1
    have hseq:SeqGives Fence.wide 10 prog 167 #[.pointer (some ⟨Bm,off,none⟩)] ZlK (fun ss=>(ss.map ZlK).Perm (((rs.map (rEnc (fun n:Int=>Value.int .i64 n))).toArray).toList.map (·.key))) ((rs.map (rEnc (fun n:Int=>Value.int .i64 n))).toArray).size w:=fun l J W hW hJ hY h0=>
     Zoz Fence.wide 10 trivial rfl ow l Bm off b ck _ hnd hold hkv J hY W hJ ((hW.cell (p:=⟨Bm,off,none⟩) hBm).trans hm) ((hW.block b hbl).trans hb) h0
    have eg:∀ args w,(callFunc 167 args).run prog w = .ok (.enter 167 args) w:=enters_of func167 kr rfl
    have hcalls:=callsIn_wide.1 (Zhp Fence.wide 12 trivial trivial O ow 167 #[.pointer (some ⟨Bm,off,none⟩)] trivial eg _ _ (by rw [hlen];unfold maxLen;omega) (by rw [hlen];omega) w hseq)
    refine hcalls.mono ?_
    rintro e w' ⟨v,ss,rfl,G,hrow,hnil,hbel⟩
    have hss:ss.Perm (es.map (·.key)):=by
     have e1:((rs.map (rEnc (fun n:Int=>Value.int .i64 n))).toArray).toList.map (·.key)=(es.map (·.key)).map ZlK:=by
      rw [← hkm,YaY,YaY];rfl
     rw [e1] at G
     exact Zkm ZmS G
    have hown:∀ c,v.ownBlock=some c→w.heap.size≤c∧c<w'.heap.size:=fun c hc9=>by
     rcases hrow.2 with ⟨rfl,_⟩ | ⟨g,cap,cur,rfl,hbase,hgb,_⟩
     ·simp [Value.ownBlock] at hc9
     ·simp [Value.ownBlock] at hc9
      subst hc9
      exact ⟨hbase,(YZ.1 hgb).1⟩
    have hrow0:w'.ownsRow 0 3 1 v ss.length (ss.flatMap Zl3):=⟨hrow.1,by
     rcases hrow.2 with h | ⟨g,cap,cur,h1,_,h3⟩
     ·exact .inl h
     ·exact .inr ⟨g,cap,cur,h1,Yp _,h3⟩⟩
    have hst2:Stp (List.range' 1 2) w F w' (fun n c=>F n c∨(n=2∧v.ownBlock=some c)):=⟨hbel.os,hbel.tape,hbel.output,hbel.size,fun c hc9 _=>hbel.block c hc9,fun n hn=>by
      funext c
      have:n≠2:=fun e=>hn (by subst e;simp)
      simp [this],fun n hn c hc9=>by
      rcases hc9 with h | ⟨_,h⟩
      ·exact .inl ⟨n,hn,h⟩
      ·exact .inr (hown c h).1⟩
    refine ⟨v,_,rfl,⟨fun n m c h1 h2=>?_,fun n c h1=>?_⟩,hst2,fun n c h1=>?_,?_,fun i h hi=>?_⟩
    ·rcases h1 with h1 | ⟨h1,h1'⟩ <;> rcases h2 with h2 | ⟨h2,h2'⟩
     ·exact hw.dis n m c h1 h2
     ·have:=hw.bd n c h1;have:=(hown c h2').1;omega
     ·have:=hw.bd m c h2;have:=(hown c h1').1;omega
     ·omega
    ·rcases h1 with h1 | ⟨_,h1⟩
     ·have:=hw.bd n c h1;have:=hbel.size;omega
     ·exact (hown c h1).2
    ·rcases h1 with h1 | ⟨h1,_⟩
     ·exact hle n c h1
     ·omega
    ·show v.oneCell' = true
     rcases hrow.2 with ⟨rfl,_⟩ | ⟨g,cap,cur,rfl,_⟩ <;> rfl
    ·match i,hi with
     | 0,hi=>
      simp only [List.getElem?_cons_zero,Y7] at hi
      subst hi
      exact ⟨b,rs,rfl,(hbel.block b hbl).trans hb,hg.mono hst2.ev,⟨hwf,hkeys⟩,fun c=>by rw [← hf c];simp⟩
     | 1,hi=>
      simp only [List.getElem?_cons_succ,List.getElem?_cons_zero,Y7] at hi
      subst hi
      refine ⟨ss,hss,ss.flatMap Zl3,hrow0,ZlG fun x hx=>?_,fun c=>?_⟩
      ·obtain ⟨e,he,e1⟩:=YI.1 (hss.mem_iff.1 hx)
       rw [← e1];exact hkeys e he
      ·have:=hst c
       simp [this]
end Go.Proofs.YtfecljadegkmdaaGreat
namespace Go.Proofs.YtfecljadegkmdaaGreat
open Go Go.Gm Tryz
set_option linter.unusedVariables false
set_option linter.unusedSimpArgs false
set_option maxHeartbeats 4000000
set_option maxRecDepth 8000
def ZpW (l:List OrdD):Nat:=(l.map fun o=>o.txs.length).sum
def Zpa (h:Zs):Nat:=h.txs.length+h.orders.length+ZpW h.orders
structure Zln (q:List Cell) (t:ZgB) (root:Int):Prop where
 rep:Rep id q t root
 bal:Bal t
 inc:Inc (Zlm t)
theorem Zln.nil (q:List Cell):Zln q .nil 0:=⟨rfl,tv,List.Pairwise.nil⟩
theorem Zln.high {q:List Cell} {t:ZgB} {root:Int} (h:Zln q t root) (hs:ZbR t≤1000000):0≤Zao t∧Zao t≤40:=⟨Zcw t,ZfR h.bal hs⟩
structure RtA where
 txs:List ZeU
 orders:List ZeU
 size:Int
 deriving Inhabited
def Zo2 (all:List TxD) (seqs:List (List Int)) (r:RtA):Zs:=⟨r.txs.map fun p=>Nn all p.val.toNat,r.orders.map fun p=>⟨p.key,Nn seqs p.val.toNat⟩⟩
structure Zp1 (all:List TxD) (seqs:List (List Int)) (r:RtA):Prop where
 ti:Inc r.txs
 oi:Inc r.orders
 tv:∀ p ∈ r.txs,(0≤p.val∧p.val<all.length)∧(Nn all p.val.toNat).id=p.key
 ov:∀ p ∈ r.orders,0≤p.val∧p.val<seqs.length
def ZpX (q:List Cell) (root:Int) (l:List ZeU):Prop:=∃ t,Zln q t root∧Zlm t=l
def Zlq (q:List Cell) (root:Int) (l:List Int):Prop:=∃ t,Rep kz q t root∧ZpR t=l
structure RtC where
 av:Value
 tr:Int
 or:Int
 size:Int
def rRt (c:RtC):List PV:=[.is c.av,.int .i64 c.tr,.is c.av,.int .i64 c.or,.int .i64 c.size]
structure Zg8 (q:List Cell) (av:Value) (c:RtC) (r:RtA):Prop where
 a:c.av=av
 t:ZpX q c.tr r.txs
 o:ZpX q c.or r.orders
 s:c.size=r.size
structure SqC where
 av:Value
 root:Int
instance:Inhabited SqC:=⟨⟨.nilIface,0⟩⟩
instance:Inhabited RtC:=⟨⟨.pointer none,0,0,0⟩⟩
structure StA where
 now:RtA
 snaps:List (Int×RtA)
 next:Int
 all:List TxD
 seqs:List (List Int)
def Zh0 (rs:List RtA) (n:Nat) (i:Nat):Prop:=(∃ r ∈ rs,∃ p ∈ r.orders,p.val=(i:Int))∨i+1=n
def ZfA (A:StA):List RtA:=A.now :: A.snaps.map (·.2)
structure StC where
 b:Nat
 q:List Cell
 c:RtC
 cs:List (GE Int RtC)
 ck:Nat
 mv:Value
 alv:Value
 sqv:Value
 sr:List SqC
abbrev Zqd:List (GE Int RtC)→Nat→Value→HP:=mapG (fun c:RtC=>PV.agg (rRt c)) (fun n:Int=>inR .i64 n) (fun n:Int=>Value.int .i64 n)
structure Zdz (A:StA) (ex:List RtA) (s:StC):Prop where
 now:Zg8 s.q (arV (some s.b)) s.c A.now
 keys:s.cs.map (·.key)=A.snaps.map (·.1)
 snaps:∀ x ∈ A.snaps,∃ c,gGet x.1 s.cs=some c∧Zg8 s.q (arV (some s.b)) c x.2
 len:s.sr.length=A.seqs.length
 seqs:∀ i,i<A.seqs.length→Zh0 (ZfA A++ex) A.seqs.length i→(Nn s.sr i).av=arV (some s.b)∧Zlq s.q (Nn s.sr i).root (Nn A.seqs i)
def Zoq (A:StA):Int:=A.now.size+(A.snaps.map fun x=>x.2.size).sum
structure Zj0 (A:StA):Prop where
 okn:Zp1 A.all A.seqs A.now
 oks:∀ x ∈ A.snaps,Zp1 A.all A.seqs x.2∧0≤x.1∧x.1<A.next
 ids:(A.snaps.map (·.1)).Pairwise (· < ·)
 szn:A.now.size=Zpa (Zo2 A.all A.seqs A.now)
 szs:∀ x ∈ A.snaps,x.2.size=Zpa (Zo2 A.all A.seqs x.2)
 held:Zoq A≤10000
 next:0≤A.next
structure Zp7 (A:StA):Prop where
 next:A.next≤100000
 snaps:A.snaps.length≤100000
 all:A.all.length≤100000
 seqs:A.seqs.length≤100000
 len:∀ l ∈ A.seqs,l.length≤1000
 ops:∀ t ∈ A.all,t.ops.length≤1000
theorem Zj0.nn {A:StA} (h:Zj0 A):∀ x ∈ A.snaps,0≤x.2.size:=fun x hx=>by rw [h.szs x hx];omega
theorem Zj0.nodup {A:StA} (h:Zj0 A):(A.snaps.map (·.1)).Nodup:=by
 rw [List.nodup_iff_pairwise_ne]
 exact List.Pairwise.imp (fun h=>by omega) h.ids
theorem Zdz.nd {A:StA} {ex:List RtA} {s:StC} (h:Zdz A ex s) (hk:Zj0 A):GNd s.cs:=by
 unfold GNd;rw [h.keys];exact hk.nodup
theorem ZiY {cs:List (GE Int RtC)} (h:GNd cs) {e:GE Int RtC} (he:e ∈ cs):gGet e.key cs=some e.val:=Zk0 (k:=e.key) (v:=e.val) h e he
theorem Zdz.val {A:StA} {ex:List RtA} {s:StC} (h:Zdz A ex s) (hk:Zj0 A) {e:GE Int RtC} (he:e ∈ s.cs):∃ x ∈ A.snaps,x.1=e.key∧Zg8 s.q (arV (some s.b)) e.val x.2:=by
 have h1:e.key ∈ A.snaps.map (·.1):=h.keys ▸ YI.2 ⟨e,he,rfl⟩
 obtain ⟨x,hx,ex⟩:=YI.1 h1
 obtain ⟨c,hc,hr⟩:=h.snaps x hx
 rw [ex,ZiY (h.nd hk) he] at hc
 cases hc
 exact ⟨x,hx,ex,hr⟩
def Zb6 (seen:List Nat) (cs:List (GE Int RtC)):Int:=(cs.map fun e=>if e.born ∈ seen then e.val.size else 0).sum
theorem ZfE {seen:List Nat} : ∀ {cs:List (GE Int RtC)},(∀ e ∈ cs,0≤e.val.size)→0≤Zb6 seen cs∧Zb6 seen cs≤(cs.map fun e=>e.val.size).sum
 | [],_=>by simp [Zb6]
 | x :: cs,h=>by
  have h1:=ZfE (seen:=seen) (cs:=cs) fun e he=>h e (YQ _ he)
  have h2:=h x Ya8
  have hc:Zb6 seen (x :: cs)=(if x.born ∈ seen then x.val.size else 0)+Zb6 seen cs:=by unfold Zb6;rw [YJ,Ybp]
  rw [hc,YJ,Ybp]
  split <;> omega
theorem Zdz.sizes {A:StA} {ex:List RtA} {s:StC} (h:Zdz A ex s) (hk:Zj0 A):(s.cs.map fun e=>e.val.size).sum=(A.snaps.map fun x=>x.2.size).sum:=by
 have e1:(s.cs.map fun e=>e.val.size)=(s.cs.map (·.key)).map fun k=>((gGet k s.cs).getD default).size:=by
  rw [YaY]
  refine List.map_congr_left fun e he=>?_
  show _=((gGet e.key s.cs).getD default).size
  rw [ZiY (h.nd hk) he];rfl
 have e2:(A.snaps.map fun x=>x.2.size)=(A.snaps.map (·.1)).map fun k=>((gGet k s.cs).getD default).size:=by
  rw [YaY]
  refine List.map_congr_left fun x hx=>?_
  obtain ⟨c,hc,hr⟩:=h.snaps x hx
  show _=((gGet x.1 s.cs).getD default).size
  rw [hc];exact hr.s.symm
 rw [e1,e2,h.keys]
theorem Zdz.held {A:StA} {ex:List RtA} {s:StC} (h:Zdz A ex s) (hk:Zj0 A) (seen:List Nat):0≤A.now.size+Zb6 seen s.cs∧A.now.size+Zb6 seen s.cs≤10000:=by
 have h1:=ZfE (seen:=seen) (cs:=s.cs) fun e he=>by
  obtain ⟨x,hx,_,hr⟩:=h.val hk he
  rw [hr.s];exact hk.nn x hx
 have h2:=h.sizes hk
 have h3:=hk.held
 have h4:=hk.szn
 unfold Zoq at h3
 omega
def ZfK (h:Zs):Prop:=h.txs.length≤12∧h.orders.length≤24∧(∀ j,j<h.txs.length→(Nn h.txs j).ops.length≤24) ∧ ∀ j,j<h.orders.length→(Nn h.orders j).txs.length≤24
instance (h:Zs):Decidable (ZfK h):=by unfold ZfK;exact inferInstance
def DLight (d:Za4):Prop:=ZfK ⟨d.was,d.old⟩∧ZfK ⟨d.now,d.new⟩
instance (d:Za4):Decidable (DLight d):=by unfold DLight;exact inferInstance
theorem Zob {α:Type} [Inhabited α] {q:List α} {x:α} (h:x ∈ q):∃ j,j<q.length∧Nn q j=x:=by
 obtain ⟨j,hj,e⟩:=YK h
 exact ⟨j,hj,by rw [Zw hj];exact e⟩
theorem DLight.ok {d:Za4} (h:DLight d):DOk d:=by
 obtain ⟨⟨h1,h2,h3,h4⟩,h5,h6,h7,h8⟩:=h
 dsimp only at h1 h2 h3 h4 h5 h6 h7 h8
 refine ⟨⟨ow,fun t ht=>?_⟩,⟨ow,fun t ht=>?_⟩,⟨ow,fun t ht=>?_⟩,⟨ow,fun t ht=>?_⟩⟩ <;> obtain ⟨j,hj,rfl⟩:=Zob ht
 ·have:=h3 j hj;omega
 ·have:=h7 j hj;omega
 ·have:=h4 j hj;omega
 ·have:=h8 j hj;omega
instance (h:Zs):Decidable (ZfK h):=by unfold ZfK;exact inferInstance
theorem ZlS (l : List OrdD) (p : OrdD → Bool) (f : FuncId) (fn : Func) (cps : List PV) (hf : prog.funcs[f]? = some fn) (hb : fn.body.isSome = true) (hnn : (fn.name == "runtime.NumGoroutine") = false) (hw : ∀ x, FnP prog f (.agg (Zv x) :: cps) (.bool (p x))) : FnP prog 94 [.sl Zv l, .clos f cps] (.int .i64 (Z0 p l)) := by
 refine FnP.mk func94 O ntmps94 O fun B a w F M hfr G=>?_
 have hll:=Sat.lenSl G (i:=0) rfl
 refine Ya (rZ G (qI qZ) M Kr [0] fun G=>(Ya (Ya ?_)))
 refine rZ G (qR rr (qu Ybu r1 (qJ qZ))) M KD [0] fun G=>Yf ?_
 refine Zj (σ:=(Nat)) [0,1,4,7] [0] (fun s=>[(8,.pv (.int .i64 (s:Int)))]) (fun s=>[]) (fun s=>s≤l.length∧(∀ k,k<s→p (Nn l k)=false)) (fun s=>l.length - s) (0) G ⟨rfl,rfl,rfl,rfl,rfl,tv⟩ ⟨rfl,tv⟩ ⟨Yp _,fun k hk=>absurd hk (YO k)⟩ ?_
 clear G;intro i a w F hC G
 have hC:=X4
 obtain ⟨F,G⟩:=G.nM KD [0]
 have G:=X2
 obtain ⟨hi,hq⟩:=hC
 refine Ya (rZ G (qL r2) M Jc [0] fun G=>Ya ?_)
 refine Zb G O (fun hc0=>?_) (fun hc0=>?_)
 ·skip
  have hil:i<l.length:=XV
  refine Yc (Za (Ya (Yf (Ya (rZ G (qR rr (qO rr qZ)) M Jd [0] fun G=>Ya ?_)))))
  refine Zi G (qR rr (qR rr (qR rr (qy 2 Ybu r2 (qf (oR true 2 .t) r1 qz (qf (ZJ (avs:=[.agg (Zv (Nn l i))]) .t (hw (Nn l i)) hf hb hnn (Args.one (.pagg .t))) r2 qz qZ)))))) M QP [0] O O fun a w F G=>?_
  try simp only [Yg] at G
  refine Za (Zb G O (fun hc1=>?_) (fun hc1=>?_))
  ·skip
   have hg:(i:Int)=Z0 p l:=(ZdW hil hc1 hq).symm
   refine Ya (rZ G (qR rr (qO rr qZ)) M KD [0] fun G=>(Yh (Zq (Ze (Ze (Zq (Ze ?_)))))))
   refine Zr hfr G O O O (.int hg)
  have hne:p (Nn l i)=false:=hc1
  refine Yc (Zh (Za (rZ G (qp r1 (qR rr qZ)) M KD [0] fun G=>?_)))
  replace G:=G.eI 8 i
  obtain ⟨F,G⟩:=G.nM Jt [0]
  exact ⟨(i+1),F,⟨ow,(fun k hk=>by rcases YF (YL hk) with h | h;exact hq k h;rw [h];exact hne)⟩,G,ow⟩
 have hil:i=l.length:=XV
 have hg : -1=Z0 p l:=(Zb4 fun k hk=>hq k XV).symm
 refine Yt (Zg (Zg (Zp (Za (Ya (rZ G (qI qZ) M [4] [0] fun G=>Yh ?_))))))
 refine Zr hfr G O O O (.int hg)
theorem ZnH (v : Value) (l : List OrdD) (hll : l.length ≤ 1000000) (p : OrdD → Bool) (f : FuncId) (fn : Func) (cps : List PV) (hf : prog.funcs[f]? = some fn) (hb : fn.body.isSome = true) (hnn : (fn.name == "runtime.NumGoroutine") = false) (hw : ∀ x, FnP prog f (.agg (Zv x) :: cps) (.bool (p x))) : FnG prog 163 1 [.is v, .clos f cps] [ZC 39 2 Zv l v] (PV.one) (fun v => [ZC 39 2 Zv (l.filter fun x => !p x) v]) := by
 refine FnG.mk func163 O ntmps163 O kr fun B F0 a w F M hG G=>?_
 replace G:=G.turn 1 O (r':=.ob (.val v) (ZC 39 2 Zv l)) (fun _ _ _ _ h=>h)
 refine Ya (rZ G (qC qZ) M Kr Kk fun G=>Ya ?_)
 refine rZ G (qR rr (qR rr (qf (OpC.lendRow 1 [8] (oP (ZlS l p f fn cps hf hb hnn hw) func94 (Args.two .t .t)) ⟨rfl,tv,tv⟩ (.pv (fun _ _ _ _ h=>h)) trivial XI) r2 r1 (qO rr qZ)))) M KA Kk fun G=>(Ya (Ya ?_))
 refine rZ G (qR rr (qf (o_eql .t qi) r1 qz qZ)) M [12,5,4,1,0] Kk fun G=>?_
 refine Zb G O (fun hc0=>?_) (fun hc0=>?_)
 ·skip
  have hno:=(Zaz p l).resolve_right (by rintro ⟨i,h1,_⟩;simp at hc0;omega)
  have hg:(l.filter fun x=>!p x)=l:=ZdE hno.2
  refine Ya (rZ G (qR rr (qO rr qZ)) M KA Kk fun G=>(Yh (Ze ?_)))
  have G:=G.turn 1 O (r':=RS.hp (ZC 39 2 Zv (l.filter fun x=>!p x) v)) (fun _ _ _ _ h=>by rw [hg];exact h)
  refine Zac (h':=fun v=>ZC 39 2 Zv (l.filter fun x=>!p x) v) hG G O (.tmp O .nil) (.one .one) rfl
 obtain ⟨i0,hi0,hi1,hip,hib⟩:=(Zaz p l).resolve_left (by rintro ⟨h1,_⟩;simp [h1] at hc0)
 have hst0:=Zf0 hi1 hip hib
 refine Yc (Za (Ya (Ya (rZ G (qR rr (qp r1 (qO rr qZ))) M Kx Kk fun G=>Yf ?_))))
 have hC0:i0<i0+1∧i0+1≤l.length∧l.length=l.length∧l.take i0=(l.take (i0+1)).filter (fun x=>!p x) ∧ ∀ k,i0+1≤k→k<l.length→Nn l k=Nn l k:=⟨ow,ow,rfl,hst0,fun k _ _=>rfl⟩
 replace G:=G.ent (i:=5) (s':=.pv (.int .i64 (i0:Int))) O (.int hi0)
 replace G:=G.ent (i:=6) (s':=.pv (.int .i64 ((i0+1:Nat):Int))) O (.int (by rw [hi0,ZK ow];omega))
 refine Zj (σ:=Nat×Nat×List OrdD) [0,1,4] [0] (fun s=>[(5,.pv (.int .i64 (s.1:Int))),(6,.pv (.int .i64 (s.2.1:Int)))]) (fun s=>[(1,.ob (.val v) (ZC 39 2 Zv s.2.2))]) (fun s=>s.1<s.2.1∧s.2.1≤l.length∧s.2.2.length=l.length∧s.2.2.take s.1=(l.take s.2.1).filter (fun x=>!p x) ∧ ∀ k,s.2.1≤k→k<l.length→Nn s.2.2 k=Nn l k) (fun s=>l.length - s.2.1) ((i0),(i0+1),(l)) G ⟨rfl,rfl,rfl,rfl,rfl,tv⟩ ⟨rfl,rfl,tv⟩ hC0 ?_
 clear G;intro s a w F hC G
 obtain ⟨i,j,l1⟩:=s
 have hC:=X4
 obtain ⟨F,G⟩:=G.nM Kx Kk
 have G:=X2
 obtain ⟨hij,hj,hll1,htk,hrest⟩:=hC
 refine Ya (Ya (rZ G (qR rr (qR rr (qf (Z3 1 Ybu .is) r1 r1 (qL r2)))) M [19,6,5,4,1,0] Kk fun G=>?_))
 refine Zb G O (fun hc1=>?_) (fun hc1=>?_)
 ·skip
  have hjl:j<l.length:=XU
  have hnj:Nn l1 j=(Nn l j):=hrest j (YP _) hjl
  have hfs:=Zay (p:=fun x=>!p x) hjl
  refine Yc (Za (Ya (Yf (Ya (rS G (qR rr (qR rr (qf (o_indexAddr_row (sz:=2) 1 (.mk Ybu kr) .is .t ow ow XI) r2 r1 (qf (Zaw (ag:=true) (sz':=2) (sz:=2) 1 .t XW ow kr kr kr) r1 r1 (qf (oH [.int .i64 0,.slice none 0 0] 101) trivial qz (qS 2 101 r2 r1 qZ)))))) M [7,6,5,4,1,0] KQ fun τ G=>?_)))))
  try dsimp only [RS.sub,SF.sub,CF.sub,csub,Anc.sub,List.map,Zc,xL,xM,Nat.reduceAdd,xD,xE,xT,xU,xC,xN,zCF,ldSF,Zv] at G
  generalize τ 7=v7 at G
  try simp only [Yg] at G
  rw [hnj] at G
  refine Za (Ya (rZ G (qR rr (qe 2 101 r1 r1 (qf (ZJ (avs:=[.agg (Zv (Nn l j))]) .t (hw (Nn l j)) hf hb hnn (Args.one (.pagg .t))) r2 qz (qf (o_not .t) r1 qz qZ)))) M [29,7,6,5,4,1,0] KQ fun G=>?_))
  refine Zb G O (fun hc2=>?_) (fun hc2=>?_)
  ·skip
   have hp:p (Nn l j)=false:=Wh
   obtain ⟨i2,hi2e⟩:∃ i2,i2=i+1:=⟨_,rfl⟩
   have hi2:IntKind.wrap .i64 ((i:Int)+1)=(i2:Int):=WR
   obtain ⟨l2,hl2⟩:∃ l2,l2=l1.set i (Nn l j):=⟨_,rfl⟩
   have hC2:i2<j+1∧j+1≤l.length∧l2.length=l.length∧l2.take i2=(l.take (j+1)).filter (fun x=>!p x) ∧ ∀ k,j+1≤k→k<l.length→Nn l2 k=Nn l k:=⟨ow,ow,by rw [hl2,YT];exact hll1,by rw [hl2,hi2e,hfs,hp,← htk,Zu W6,List.take_set_of_le (YP _),Zw W6,List.getElem_set_self];rfl,fun k hk hk2=>by rw [hl2,Zw W6,List.getElem_set_ne ow,← Zw ow];exact hrest k ow hk2⟩
   refine Ya (Zi G (qR rr (qR rr (qe 2 101 r1 r1 (qf (o_indexAddr_row (sz:=2) 1 (.mk Ybu kr) .is .t ow ow XI) r2 r1 (qf (ZhS (sz:=2) 1 .t XW ow (.conv .t (Ent.aggU (l:=Zv (Nn l j)) O O)) kr) r2 r1 qZ))))) M Kx Kk O O fun a w F G=>?_)
   try simp only [Yg] at G
   rw [← hl2] at G
   refine Za (Zi G (qR rr (qp r1 (qO rr qZ))) M Kx Kk O O fun a w F G=>Zh (Za ?_))
   refine rZ G (qR rr (qp r1 (qO rr qZ))) M Kx Kk fun G=>?_
   have hmu:l.length - (j+1)<l.length - j:=ow
   replace G:=G.ent (i:=5) (s':=.pv (.int .i64 (i2:Int))) O (.int hi2)
   replace G:=G.eI 6 j
   obtain ⟨F,G⟩:=G.nM Ju [0,1]
   exact ⟨((i2),(j+1),(l2)),F,hC2,G,hmu⟩
  have hp:p (Nn l j)=true:=Wh
  obtain ⟨i2,hi2e⟩:∃ i2,i2=i:=⟨_,rfl⟩
  have hi2:(i:Int)=(i2:Int):=Kc
  obtain ⟨l2,hl2⟩:∃ l2,l2=l1:=⟨_,rfl⟩
  rw [← hl2] at G
  have hC2:i2<j+1∧j+1≤l.length∧l2.length=l.length∧l2.take i2=(l.take (j+1)).filter (fun x=>!p x) ∧ ∀ k,j+1≤k→k<l.length→Nn l2 k=Nn l k:=⟨ow,ow,by rw [hl2];exact hll1,by rw [hl2,hi2e,hfs,hp,htk];simp,fun k hk hk2=>by rw [hl2];exact hrest k ow hk2⟩
  refine Yc (Zh (Za (rZ G (qR rr (qp r1 (qO rr qZ))) M Kx Kk fun G=>?_)))
  have hmu:l.length - (j+1)<l.length - j:=ow
  replace G:=G.ent (i:=5) (s':=.pv (.int .i64 (i2:Int))) O (.int hi2)
  replace G:=G.eI 6 j
  obtain ⟨F,G⟩:=G.nM Ju [0,1]
  exact ⟨((i2),(j+1),(l2)),F,hC2,G,hmu⟩
 have hjl:j=l.length:=XU
 have hil2:i<l.length:=ow
 have hg:(l.filter fun x=>!p x)=(l1.take i++List.replicate (l1.length - i) (⟨0,[]⟩:OrdD)).take i:=WS
 refine Yt (Zg (Zg (Zp (Za (Ya (rZ G (qR rr (qR rr (qf (Zat (sz:=2) 1 (.mk Ybu kr) .is .t ow ow) r2 r1 (qf (ZcO (R:=Zv) (z:=(⟨0,[]⟩:OrdD)) (zs:=[.int .i64 0,.slice none 0 0]) 1 Ybu kr O O (fun _ _=>⟨⟨rfl,rfl,ZfP⟩,⟨rfl,Zhj⟩,tv⟩) XW .t XG) r1 r1 qZ)))) M [5,4,0] Kk fun G=>Ya ?_))))))
 refine rS G (qR rr (qR rr (qf (ZeW (sz:=2) 1 (.mk Ybu kr) XW .is .t ow XG) r2 r1 (qO rr qZ)))) M [4] Kk fun τ G=>?_
 try dsimp only [RS.sub,SF.sub,CF.sub,csub,Anc.sub,List.map,Zv] at G
 generalize τ 41=v41 at G
 refine Za (Yh ?_)
 have G:=G.turn 1 O (r':=RS.hp (ZC 39 2 Zv (l.filter fun x=>!p x) v41)) (fun _ _ _ _ h=>by rw [hg];exact h)
 refine Zac (h':=fun v=>ZC 39 2 Zv (l.filter fun x=>!p x) v) hG G O (.tmp O .nil) (.one .one) rfl
theorem cloneIP_c (l:List Int) (hl:l.length≤1000000):FnP prog 91 [.sl Zk l] (.sl Zk l):=by
 refine FnP.mk func91 O ntmps91 O fun B a w F M hfr G=>Ya ?_
 refine rZ G (qC qZ) M KO [0] fun G=>(Ya (Ya ?_))
 refine Zi G (qR rr (qf (Zbn Ybs .t) r1 qz qZ)) M Qe [0] O O fun a w F G=>?_
 obtain ⟨β4,hβ4,G⟩:=G.pickBool 4 rfl
 obtain ⟨F,G⟩:=G.nM Qe [0]
 refine Za (Zb G O (fun hc0=>?_) (fun hc0=>?_))
 ·have hg:l = []:=hβ4 hc0
  refine Ya (rZ G (qC qZ) M KO [0] fun G=>(Yh (Ze ?_)))
  refine Zr hfr G O O O (.trans .nilSl (.sl W9))
 have hg:l = [] ++ l:=rfl
 refine Yc (Za (Ya (rS G (qf (Z2 (R:=Zk) (sz:=1) 101 Ybs kr) trivial qz (qR rr (qf (o_append (sz:=1) (bs:=8) 101 (.mk' Ybs kr kr) XW .same (.sl .t) W5 XJ) ⟨rfl,rfl,tv⟩ ⟨rfl,tv⟩ (qO rr qZ)))) M [2] Kf fun τ G=>?_)))
 have G:=X3
 generalize τ 7=v7 at G
 refine Za (Yh ?_)
 obtain ⟨F,G⟩:=G.give 101 2 O rfl
 refine Zr hfr G O O O (.sl W9)
theorem Zn0 (g:Zs) (hs:Zbe g):FnG prog 98 1 [.agg (Zm g)] [.star []] (PV.self Zpq) (fun v=>[ZnG (ZC 36 3 rTx g.txs) (ZC 39 2 Zv g.orders) v]):=by
 refine FnG.mk func98 O ntmps98 O kr fun B F0 a w F M hG G=>?_
 have hsl:=hs.1.1
 have hso:=hs.2.1
 obtain ⟨F,G⟩:=G.nM [0] [0]
 refine Ya (rS G (qx 101 r1 (qf (oH [.slice none 0 0,.slice none 0 0] 102) trivial qz qZ)) M Ky Ke fun τ G=>?_)
 have G:=X1
 generalize τ 1=v1,τ 2=v2 at G
 refine Za (Ya (rS G (qf (oH [.slice none 0 0,.slice none 0 0] 103) trivial qz qZ) M Qm Kg fun τ G=>?_))
 have G:=X1
 generalize τ 3=v3 at G
 refine Za (Ya (Ya (rZ G (qg 0 101 r1 r1 (qa 101 r1 r1 (qu Ybt r1 (qJ qZ)))) M QY Kg fun G=>Yf ?_)))
 replace G:=G.fresh 50 rfl
 replace G:=G.turn 50 O (ZaC (T:=36) (sz:=3) (R:=rTx))
 refine Zj (σ:=(Nat)×(Value)×(List TxD)) [1,2,3,9,10] [0,101,102] (fun s=>[(11,.pv (.int .i64 (s.1:Int)))]) (fun s=>[(103,.pt (.val v3) 30 [.pv (.is s.2.1),.pv (.is (.slice none 0 0))]),(50,.ob (.val s.2.1) (ZC 36 3 rTx s.2.2))]) (fun s=>s.1≤g.txs.length∧(s.2.2=g.txs.take s.1)) (fun s=>g.txs.length - s.1) ((0),(.slice none 0 0),([])) G ⟨rfl,rfl,rfl,rfl,rfl,rfl,tv⟩ ⟨rfl,rfl,rfl,rfl,rfl,tv⟩ ⟨Yp _,rfl⟩ ?_
 clear G;intro s a w F hC G
 obtain ⟨i,va,oa⟩:=s
 have hC:=X4
 obtain ⟨F,G⟩:=G.nM QY Kq
 have G:=X2
 obtain ⟨hi,hq⟩:=hC
 have hol:oa.length≤i:=by rw [hq,Yj];omega
 refine Ya (rZ G (qL r2) M [12,11,10,9,3,2,1] Kq fun G=>Ya ?_)
 refine Zb G O (fun hc0=>?_) (fun hc0=>?_)
 ·have hil:i<g.txs.length:=XV
  have hio:=hil
  refine Yc (Za (Ya (Yf (Ya (rS G (qy 3 Ybt r2 (qf (oR true 3 .t) r1 qz (qf (oH [.int .i64 0,.bool false,.slice none 0 0] 104) trivial qz (qS 3 104 r2 r1 qZ)))) M [11,10,9,5,3,2,1] Kt fun τ G=>?_)))))
  have G:=X0
  generalize τ 5=v5 at G
  try simp only [Yg] at G
  refine Za (rT G (qg 0 103 r1 r1 (qa 103 r1 r1 (qe 3 104 r1 r1 (qf (oP (ZiF (Nn g.txs i) (by have:=hs.1.at hio;omega)) func157 (Args.one (.pagg .t))) r1 qz (qf (Zo (sz:=3) (zs:=[.int .i64 0,.bool false,.slice none 0 0]) (r:=[(0,.tmp 18)]) (l:=[_,_,_]) Ybt kr kr kr kr O O (.agg O (.conv .t .agg) kr kr .nil) O) r1 qz (qf (o_append (sz:=3) (bs:=40) 50 (.mk' Ybt kr kr) XW .is (.arr (l':=[(Nn g.txs i)]) .t) W7 XJ) ⟨rfl,rfl,tv⟩ ⟨rfl,tv⟩ (qg 0 103 r1 r1 (qf (Zbr 103 .adr kr kr) r2 r1 qZ)))))))) M QY Kt fun τ G=>?_)
  have G:=X0
  generalize τ 20=v20 at G
  refine Zh (Za (rZ G (qp r1 (qR rr qZ)) M QY Kt fun G=>?_))
  replace G:=G.eI 11 i
  obtain ⟨F,G⟩:=G.nM [10,9,3,2,1,11] [102,101,0,50,103]
  exact ⟨((i+1),_,_),F,⟨ow,(by rw [Zu hil,← hq])⟩,G,ow⟩
 have hil:i=g.txs.length:=XV
 have hqa:oa=g.txs:=K5
 subst hqa
 refine Yt (Zg (Zg (Zp (Za (Ya (Ya (rZ G (qg 1 101 r1 r1 (qa 101 r1 r1 (qu Ybu r1 (qJ qZ)))) M J8 Kq fun G=>Yf ?_)))))))
 replace G:=G.fresh 51 rfl
 replace G:=G.turn 51 O (ZaC (T:=39) (sz:=2) (R:=Zv))
 refine Zj (σ:=(Nat)×(Value)×(List OrdD)) [2,3,24,25] [0,50,101,102] (fun s=>[(26,.pv (.int .i64 (s.1:Int)))]) (fun s=>[(103,.pt (.val v3) 30 [.pv (.is va),.pv (.is s.2.1)]),(51,.ob (.val s.2.1) (ZC 39 2 Zv s.2.2))]) (fun s=>s.1≤g.orders.length∧(s.2.2=g.orders.take s.1)) (fun s=>g.orders.length - s.1) ((0),(.slice none 0 0),([])) G ⟨rfl,rfl,rfl,rfl,rfl,tv⟩ ⟨rfl,rfl,rfl,rfl,rfl,rfl,tv⟩ ⟨Yp _,rfl⟩ ?_
 clear G;intro s a w F hC G
 obtain ⟨i,vb,ob⟩:=s
 have hC:=X4
 obtain ⟨F,G⟩:=G.nM J8 QT
 have G:=X2
 obtain ⟨hi,hq⟩:=hC
 have hol:ob.length≤i:=by rw [hq,Yj];omega
 refine Ya (rZ G (qL r2) M [27,26,25,24,3,2] QT fun G=>Ya ?_)
 refine Zb G O (fun hc1=>?_) (fun hc1=>?_)
 ·have hil:i<g.orders.length:=XU
  have hio:=hil
  refine Yc (Za (Ya (Yf (Ya (rS G (qy 2 Ybu r2 (qf (oR true 2 .t) r1 qz (qf (oH [.int .i64 0,.slice none 0 0] 105) trivial qz (qS 2 105 r2 r1 qZ)))) M [26,25,24,7,3,2] Qx fun τ G=>?_)))))
  have G:=X0
  generalize τ 7=v7 at G
  try simp only [Yg] at G
  refine Za (rT G (qg 1 103 r1 r1 (qa 103 r1 r1 (qg 0 105 r1 r1 (qa 105 r1 r1 (qg 1 105 r1 r1 (qa 105 r1 r1 (qf (oP (cloneIP_c (Nn g.orders i).txs (by have:=hs.2.at hio;omega)) func91 (Args.one .t)) r1 qz (qf (oB [(0,.tmp 33),(1,.tmp 36)] [.int .i64 0,.slice none 0 0] [(0,1),(1,1)] (.one O .t one_int kr (.one O .t Z7 kr .nil))) r2 qz (qf (Zo (sz:=2) (zs:=[.int .i64 0,.slice none 0 0]) (r:=[(0,.tmp 37)]) (l:=[_,_]) Ybu kr kr kr kr O O (.agg O .t kr kr .nil) O) r1 qz (qf (o_append (sz:=2) (bs:=32) 51 (.mk' Ybu kr kr) XW .is (.arr (l':=[(Nn g.orders i)]) .t) W7 XJ) ⟨rfl,rfl,tv⟩ ⟨rfl,tv⟩ (qg 1 103 r1 r1 (qf (Zbr 103 .adr kr kr) r2 r1 qZ)))))))))))) M J8 Qx fun τ G=>?_)
  have G:=X0
  generalize τ 39=v39 at G
  refine Zh (Za (rZ G (qp r1 (qR rr qZ)) M J8 Qx fun G=>?_))
  replace G:=G.eI 26 i
  obtain ⟨F,G⟩:=G.nM [25,24,3,2,26] [102,101,50,0,51,103]
  exact ⟨((i+1),_,_),F,⟨ow,(by rw [Zu hil,← hq])⟩,G,ow⟩
 have hil:i=g.orders.length:=XU
 have hqb:ob=g.orders:=K5
 subst hqb
 refine Yt (Zg (Zg (Zp (Za (Ya (rZ G (qe 2 103 r1 r1 (qs 2 102 r2 r1 qZ)) M [2] QT fun G=>Yh ?_))))))
 have G:=G.fresh 1 rfl
 obtain ⟨F,G⟩:=G.push 1 51 O O O rfl
 obtain ⟨F,G⟩:=G.push 1 50 O O O rfl
 refine ZoP hG G O (.cl 102 true 2 O O .nil) (.one (.aggU O O)) rfl
def Zef (os:List OrdD) (k:Int):List OrdD:=if isK OrdD.key k os=true then os else os.take (lowK OrdD.key k os) ++ [⟨k,[]⟩] ++ os.drop (lowK OrdD.key k os)
def ZhO (k:Int):List OrdD→List OrdD
 | []=>[⟨k,[]⟩]
 | o :: os=>if o.key<k then o :: ZhO k os else if o.key=k then o :: os else ⟨k,[]⟩ :: o :: os
theorem Znx {α:Type} {κ:α→Int} {k:Int} (l:List α):lowK κ k l≤l.length:=by
 unfold lowK
 exact (List.takeWhile_sublist _).length_le
theorem ZB {α:Type} [Inhabited α] {κ:α→Int} {l:List α} : Zb1 κ l ↔ l.Pairwise fun a b=>κ a<κ b:=by
 rw [Yao]
 constructor
 ·intro h i j hi hj hij
  have:=h i j hij hj
  rwa [Zw hi,Zw hj] at this
 ·intro h a b hab hb
  rw [Zw ow,Zw hb]
  exact h a b ow hb hab
theorem Zge (k:Int):∀ {os:List OrdD},Zb1 OrdD.key os→Zef os k=ZhO k os
 | [],_=>rfl
 | o :: os,h=>by
  rw [ZB,Yx] at h
  have ih:=Zge k (os:=os) (ZB.2 h.2)
  have e1:lowK OrdD.key k (o :: os)=if o.key<k then lowK OrdD.key k os+1 else 0:=by
   unfold lowK
   split
   ·rename_i h1
    rw [Ya5 XN,Yl]
   ·rename_i h1
    rw [Ya4 XN];rfl
  have e2:isK OrdD.key k (o :: os)=(decide (o.key=k) || isK OrdD.key k os):=by unfold isK;rw [List.any_cons]
  by_cases h1:o.key<k
  ·rw [Ye h1] at e1
   have e3:isK OrdD.key k (o :: os)=isK OrdD.key k os:=by rw [e2,Yw ow,Ybi]
   unfold Zef at ih ⊢
   unfold ZhO
   rw [Ye h1,e3,e1]
   split
   ·rename_i h2;rw [Ye h2] at ih;exact Yap (o :: ·) ih
   ·rename_i h2;rw [Yb h2] at ih;rw [← ih];simp
  ·rw [Yb h1] at e1
   unfold Zef ZhO
   rw [Yb h1,e1]
   by_cases h3:o.key=k
   ·rw [Ye h3,Ye (by rw [e2,YS h3,Bool.true_or])]
   ·rw [Yb h3,Yb]
    ·simp
    ·rw [e2,Yw h3,Ybi]
     unfold isK
     rw [Yal]
     rintro ⟨x,hx,hk⟩
     have:=h.1 x hx
     simp at hk
     omega
theorem ZiS {k:Int} {o:OrdD} : ∀ {os:List OrdD},o ∈ ZhO k os→o ∈ os∨o = ⟨k,[]⟩
 | [],h=>by simp [ZhO] at h;exact .inr h
 | x :: os,h=>by
  unfold ZhO at h
  split at h
  ·rcases Yo.1 h with h | h
   ·exact .inl (by simp [h])
   ·rcases ZiS h with h | h
    ·exact .inl (by simp [h])
    ·exact .inr h
  ·split at h
   ·exact .inl h
   ·rcases Yo.1 h with h | h
    ·exact .inr h
    ·exact .inl h
theorem Zhr {k:Int} : ∀ {os:List OrdD},(os.Pairwise fun a b=>a.key<b.key)→(ZhO k os).Pairwise fun a b=>a.key<b.key
 | [],_=>by simp [ZhO]
 | x :: os,h=>by
  rw [Yx] at h
  unfold ZhO
  split
  ·rename_i h1
   rw [Yx]
   refine ⟨fun o ho=>?_,Zhr h.2⟩
   rcases ZiS ho with h3 | h3
   ·exact h.1 o h3
   ·rw [h3];exact h1
  ·split
   ·rw [Yx];exact h
   ·rw [Yx,Yx]
    refine ⟨fun o ho=>?_,h⟩
    rcases Yo.1 ho with h3 | h3
    ·rw [h3];show k<x.key;omega
    ·have:=h.1 o h3;show k<o.key;omega
theorem insK_rise {os:List OrdD} (k:Int) (h:Zb1 OrdD.key os):Zb1 OrdD.key (Zef os k):=by
 rw [Zge k h,ZB]
 exact Zhr (ZB.1 h)
theorem ZiQ (os:List OrdD) (k:Int):(Zef os k).length≤os.length+1:=by
 unfold Zef
 split
 ·omega
 ·rw [Yd,Yd,Yj,Yu];simp;omega
theorem ZiZ {os:List OrdD} {k:Int} {o:OrdD} (h:o ∈ Zef os k):o ∈ os∨o = ⟨k,[]⟩:=by
 unfold Zef at h
 split at h
 ·exact .inl h
 ·rw [YC,YC] at h
  rcases h with (h | h) | h
  ·exact .inl (Yax h)
  ·exact .inr Xz
  ·exact .inl (YaG h)
def Zav (t:TxD) (os:List OrdD) (ks:List Int):List OrdD:=if t.done=true then ks.foldl Zef os else os
theorem Zfz {t:TxD} {os:List OrdD} (h:Zb1 OrdD.key os) (hs:ZaF os) (ks:List Int):Zb1 OrdD.key (Zav t os ks)∧(Zav t os ks).length≤os.length+ks.length ∧ ∀ o ∈ Zav t os ks,o.txs.length≤1000:=by
 unfold Zav
 split
 ·have key:∀ (ks:List Int) (os:List OrdD),Zb1 OrdD.key os→(∀ o ∈ os,o.txs.length≤1000)→Zb1 OrdD.key (ks.foldl Zef os)∧(ks.foldl Zef os).length≤os.length+ks.length ∧ ∀ o ∈ ks.foldl Zef os,o.txs.length≤1000:=by
   intro ks
   induction ks with
   | nil=>intro os h1 h2;exact ⟨h1,by simp,h2⟩
   | cons k ks ih=>
    intro os h1 h2
    obtain ⟨g1,g2,g3⟩:=ih (Zef os k) (insK_rise k h1) (fun o ho=>by
     rcases ZiZ ho with h | h
     ·exact h2 o h
     ·rw [h];simp)
    have:=ZiQ os k
    exact ⟨g1,by rw [Yas,Yl];omega,g3⟩
  exact key ks os h hs.2
 ·exact ⟨h,ow,hs.2⟩
theorem Zkq {t:TxD} {os:List OrdD} {ks:List Int} {i:Nat} (hi:i<ks.length) (hc:t.done=true∧isK OrdD.key (Nn ks i) (Zav t os (ks.take i))=false) :
  (Zav t os (ks.take i)).take (lowK OrdD.key (Nn ks i) (Zav t os (ks.take i))) ++ [⟨Nn ks i,[]⟩] ++ (Zav t os (ks.take i)).drop (lowK OrdD.key (Nn ks i) (Zav t os (ks.take i)))=Zav t os (ks.take (i+1)):=by
 have e:Zav t os (ks.take (i+1))=Zef (Zav t os (ks.take i)) (Nn ks i):=by
  unfold Zav
  rw [Ye hc.1,Ye hc.1,Zu hi,YaB];rfl
 rw [e];unfold Zef;rw [Yb (by rw [hc.2];simp)]
theorem Zlu {t:TxD} {os:List OrdD} {ks:List Int} {i:Nat} (hi:i<ks.length) (hc:¬ (t.done=true∧isK OrdD.key (Nn ks i) (Zav t os (ks.take i))=false)):Zav t os (ks.take i)=Zav t os (ks.take (i+1)):=by
 unfold Zav at hc ⊢
 by_cases hd:t.done=true
 ·rw [Ye hd] at hc
  rw [Ye hd,Ye hd,Zu hi,YaB]
  have hx:∀ X k,isK OrdD.key k X=true→Zef X k=X:=fun X k h=>by unfold Zef;rw [Ye h]
  show _=Zef _ _
  rw [hx]
  cases h:isK OrdD.key (Nn ks i) ((ks.take i).foldl Zef os) with
  | true=>rfl
  | false=>exact absurd ⟨hd,h⟩ hc
 ·rw [Yb hd,Yb hd]
def ZhV (t:TxD) (o:OrdD):OrdD:=⟨o.key,if t.done=true∧0<wcnt t.ops o.key then withO o.txs t.id else withoutO o.txs t.id⟩
def settleO (t:TxD) (os:List OrdD):List OrdD:=((Zav t os (Zl t)).map (ZhV t)).filter fun o=>!decide (o.txs = [])
theorem ZpC {α:Type} [Inhabited α] {f:α→α} {l l2:List α} {i:Nat} (hi:i<l.length) (h:l2=(l.take i).map f++l.drop i):Nn l2 i=Nn l i∧l2.length=l.length:=by
 have h2:l2.length=l.length:=by rw [h,Yd,Y9,Yj,Yu];omega
 refine ⟨?_,h2⟩
 rw [Zw ow,Zw hi]
 subst h
 rw [List.getElem_append_right (by rw [Y9,Yj];omega)]
 simp only [Y9,Yj,List.getElem_drop]
 congr 1
 omega
theorem Zn5 {α:Type} [Inhabited α] {f:α→α} {l l2:List α} {i:Nat} (hi:i<l.length) (h:l2=(l.take i).map f++l.drop i):l2.set i (f (Nn l i))=(l.take (i+1)).map f++l.drop (i+1):=by
 have hd:l.drop i=Nn l i :: l.drop (i+1):=by rw [Zw hi];exact List.drop_eq_getElem_cons hi
 rw [h,Zu hi,Yaj,Yad,List.set_append_right _ _ (by rw [Y9,Yj];omega)]
 congr 1
 have:i - ((l.take i).map f).length=0:=by rw [Y9,Yj];omega
 rw [this,hd];rfl
abbrev Zmx (T TR:TypeId) (p va:Value) (os:List OrdD):HP:=HP.ex fun vb:Value=>HP.star [.pt (.val p) T [.pv (.is va),.pv (.is vb)],.ob (.val vb) (ZC TR 2 Zv os)]
theorem ZnT {k:IntKind} {a:Int} {b:Bool} (v:Value) (w:World) (y y':Ys) (h:(PV.tup [.int k a,.bool b]).p v w y):(PV.tup [.int k a,.bool b]).p v w y':=by
 obtain ⟨vs,e,h⟩:=h
 match vs,h with
 | [_,_],h=>exact ⟨_,e,h⟩
theorem ZoU {α:Type} {R:α→List PV} {l:List PV} {l':List α} (h:Nat.ble l'.length maxLen=true) (e:Zee l (l'.flatMap R)):Ent (.pv (.arr l'.length l)) (.pv (.sl R l')):=fun _ w y v k=>ZW.arrSl h e v w y k
theorem ZkK (o:OrdD):FnP prog 164 [.agg (Zv o)] (.bool (decide (o.txs = []))):=by
 refine FnP.mk func164 O ntmps164 O fun B a w F M hfr G=>Ya ?_
 refine rS G (qx 101 r1 qB) M Ky Kf fun τ G=>?_
 try dsimp only [RS.sub,SF.sub,CF.sub,csub,Anc.sub,List.map,zCF,Zv,Zk] at G
 generalize τ 1=v1 at G
 refine Za (Ya (rZ G (qg 1 101 r1 r1 (qa 101 r1 r1 (qu Ybs r1 (qf (o_eql .t qi) r1 qz (qO rr qZ))))) M [2] [0] fun G=>Yh ?_))
 refine Zr hfr G O O O (.bool (by rw [Y4];simp))
theorem Zms (p va:Value) (os:List OrdD) (t:TxD) (hs:ZaF os) (hr:Zb1 OrdD.key os) (ht:t.ops.length≤1000):FnG prog 100 1 [.is p,.agg (rTx t)] [Zmx 30 39 p va os] (.tup []) (fun _=>[Zmx 30 39 p va (settleO t os)]):=by
 refine FnG.mk func100 O ntmps100 O kr fun B F0 a w F M hG G=>?_
 have hso:=hs.1
 have hkl:=Zbj t
 replace G:=G.turn 1 O (r':=RS.hp (HP.ex fun vb:Value=>HP.star [.pt (.val p) 30 [.pv (.is va),.pv (.is vb)],.ob (.val vb) (ZC 39 2 Zv os)])) (fun _ _ _ _ h=>h)
 obtain ⟨vb0,G⟩:=G.open_ex 1 rfl
 obtain ⟨F,G⟩:=G.peel 1 61 O rfl
 obtain ⟨F,G⟩:=G.peel 1 62 O rfl
 obtain ⟨F,G⟩:=G.nM Kk [62,61,1,0]
 refine Ya (rS G (qx 101 r1 qZ) M [3,0] Ko fun τ G=>?_)
 have G:=X1
 generalize τ 3=v3 at G
 refine Za (Ya (Ya (Zi G (qe 3 101 r1 r1 (qf (oP (Zgo t ow) func82 (Args.one (.pagg .t))) r1 qz (qu Ybs r1 (qJ qZ)))) M QG Ko O O fun a w F G=>?_)))
 rw [show Zan ((t.ops.filter fun o=>!o.read).map OpD.key)=Zl t from rfl] at G
 refine Za (Yf (Zj (σ:=(Nat)×(Value)×(List OrdD)) [0,3,11,12] [0,1,101] (fun s=>[(13,.pv (.int .i64 (s.1:Int)))]) (fun s=>[(61,.pt (.val p) 30 [.pv (.is va),.pv (.is s.2.1)]),(62,.ob (.val s.2.1) (ZC 39 2 Zv s.2.2))]) (fun s=>s.1≤(Zl t).length∧(s.2.2=Zav t os ((Zl t).take s.1))) (fun s=>(Zl t).length - s.1) ((0),(vb0),(os)) G ⟨rfl,rfl,rfl,rfl,rfl,tv⟩ ⟨rfl,rfl,rfl,rfl,rfl,tv⟩ ⟨Yp _,(by unfold Zav;split <;> rfl)⟩ ?_))
 clear G;intro s a w F hC G
 obtain ⟨i,vb,ol⟩:=s
 have hC:=X4
 obtain ⟨F,G⟩:=G.nM QG Ko
 have G:=X2
 obtain ⟨hi,hq⟩:=hC
 obtain ⟨hf1,hf2,hf3⟩:=Zfz (t:=t) hr hs ((Zl t).take i)
 rw [Yj,← hq] at hf2
 rw [← hq] at hf1 hf3
 have hst:=fun h=>Zkq (t:=t) (os:=os) (ks:=(Zl t)) (i:=i) h
 have hsk:=fun h=>Zlu (t:=t) (os:=os) (ks:=(Zl t)) (i:=i) h
 rw [← hq] at hst hsk
 have hlk:=Znx (κ:=OrdD.key) (k:=(Nn (Zl t) i)) ol
 refine Ya (rZ G (qL r2) M [14,13,12,11,3,0] Ko fun G=>Ya ?_)
 refine Zb G O (fun hc0=>?_) (fun hc0=>?_)
 ·have hil:i<(Zl t).length:=XV
  have hio:=hil
  refine Yc (Za (Ya (Yf (Ya (Zi G (qy 1 Ybs r2 (qf (oR false 1 .t) r1 qz (qO rr qZ))) M [13,12,11,5,3,0] Ko O O fun a w F G=>?_)))))
  try simp only [Yg] at G
  refine Za (Ya (rZ G (qR rr (qf (Zt 61 .is XI) r1 r1 (qf (oF 1 61 .adr) r1 r1 (qa 61 r1 r1 (qR rr (qf (OpC.lendRow 62 [21] (oP (ZpU ol (Nn (Zl t) i) ow hf1 159 f159 [] func159 O kr (fun x=>Zos x (Nn (Zl t) i))) func158 (Args.three .t .t (.conv .f (Ent.fnClos)))) ⟨rfl,tv,tv⟩ (.pv ZnT) trivial XI) r2 r1 (qR rr (qf (Zn .t O) r1 qz (qf (Zn .t O) r1 qz (qO rr (qO rr qZ))))))))))) M [13,12,11,7,6,5,3,0] Ko fun G=>Ya ?_))
  refine rZ G (qg 1 101 r1 r1 (qa 101 r1 r1 (qR rr (qm O O O O (qk O (fun h=>o_not (.w h)) r2 qz (qf (o_and2 .t .t) r2 qz qZ)))))) M [31,13,12,11,6,5,3,0] Ko fun G=>?_
  refine Zb G O (fun hc1=>?_) (fun hc1=>?_)
  ·have hq9:=hst hio Wj
   refine rS G (qR rr (qR rr (qf (Zt 61 .is XI) r1 r1 (qf (oF 1 61 .adr) r1 r1 (qa 61 r1 r1 (qR rr (qR rr (qf (oB [(0,.tmp 38)] [.int .i64 0,.slice none 0 0] [(0,1),(1,1)] (.one O .t one_int kr .nil)) r1 qz (qf (Zo (sz:=2) (zs:=[.int .i64 0,.slice none 0 0]) (r:=[(0,.tmp 39)]) (l:=[_,_]) Ybu kr kr kr kr O O (.agg O .t kr kr .nil) O) r1 qz (qf (ZaO 62 (Zpe vb ol (lowK OrdD.key (Nn (Zl t) i) ol) ⟨(Nn (Zl t) i),[]⟩ ow hlk) func160 O kr (Args.three .t .t (.conv .t (ZoU (l:=[.int .i64 (Nn (Zl t) i),.is (.slice none 0 0)]) (R:=Zv) (l':=[⟨(Nn (Zl t) i),[]⟩]) O ⟨ZW.refl,ZW.nilSl,tv⟩))) Zar) r3 r1 (qf (Zt 61 .is XI) r1 r1 (qf (oF 1 61 .adr) r1 r1 (qf (Zbr 61 .adr kr kr) r2 r1 qZ))))))))))))) M QG Ko fun τ G=>?_
   have G:=X0
   generalize τ 41=v41 at G
   refine Zh (Za (rZ G (qp r1 (qR rr qZ)) M QG Ko fun G=>?_))
   replace G:=G.eI 13 i
   obtain ⟨F,G⟩:=G.nM [12,11,3,0,13] [101,1,0,62,61]
   exact ⟨((i+1),_,_),F,⟨ow,hq9⟩,G,ow⟩
  have hq9:=hsk hio (by intro e;simp [e.1,e.2] at hc1)
  refine Yc (Zh (Za (rZ G (qp r1 (qR rr qZ)) M QG Ko fun G=>?_)))
  replace G:=G.eI 13 i
  obtain ⟨F,G⟩:=G.nM [12,11,3,0,13] [101,1,0,62,61]
  exact ⟨((i+1),_,_),F,⟨ow,hq9⟩,G,ow⟩
 have hil:i=(Zl t).length:=XV
 have hq0:ol=Zav t os (Zl t):=K5
 refine Yt (Zg (Zg (Zp (Za (Ya (Ya (rZ G (qR rr (qf (Zt 61 .is XI) r1 r1 (qf (oF 1 61 .adr) r1 r1 (qa 61 r1 r1 (qf (Z3 62 Ybu .is) r1 r1 (qJ qZ)))))) M QM Ko fun G=>Yf ?_)))))))
 refine Zj (σ:=(Nat)×(List OrdD)) [0,3,49] [0,1,61,101] (fun s=>[(50,.pv (.int .i64 (s.1:Int)))]) (fun s=>[(62,.ob (.val vb) (ZC 39 2 Zv s.2))]) (fun s=>s.1≤ol.length∧(s.2=(ol.take s.1).map (ZhV t)++ol.drop s.1)) (fun s=>ol.length - s.1) ((0),(ol)) G ⟨rfl,rfl,rfl,rfl,tv⟩ ⟨rfl,rfl,rfl,rfl,rfl,tv⟩ ⟨Yp _,XA⟩ ?_
 clear G;intro s a w F hC G
 obtain ⟨i,o2⟩:=s
 have hC:=X4
 obtain ⟨F,G⟩:=G.nM QM Ko
 have G:=X2
 obtain ⟨hi,hq⟩:=hC
 have hm:=fun h=>ZpC (f:=ZhV t) (l:=ol) (i:=i) h hq
 have hms:=fun h=>Zn5 (f:=ZhV t) (l:=ol) (i:=i) h hq
 refine Ya (rZ G (qL r2) M [51,50,49,3,0] Ko fun G=>Ya ?_)
 refine Zb G O (fun hc2=>?_) (fun hc2=>?_)
 ·have hil:i<ol.length:=WI
  have hio:=hil
  have hol:=hf3 _ (ZT hio)
  have hmn:=(hm hio).1
  have hms2:=hms hio
  have hol2:(Nn o2 i).txs.length≤1000:=by rw [hmn];exact hol
  refine Yc (Za (Ya (Yf (Ya (rZ G (qR rr (qO rr qZ)) M [50,49,8,3,0] Ko fun G=>Ya ?_)))))
  refine Zi G (qR rr (qf (Zt 61 .is XI) r1 r1 (qf (oF 1 61 .adr) r1 r1 (qa 61 r1 r1 (qR rr (qf (o_indexAddr_row (sz:=2) 62 (.mk Ybu kr) .is .t ow ow XI) r2 r1 (qO rr qZ))))))) M [50,49,9,3,0] Ko O O fun a w F G=>?_
  try simp only [Yg] at G
  refine Za (Ya (ZA G (qg 1 101 r1 r1 (qa 101 r1 r1 (qR rr (qk O (fun h=>oL true 3 101 .is) r2 r1 (qm O O O O (qk O (fun h=>Zaj (sz:=2) 62 (.w h) XW Wy) r2 r1 (qk O (fun h=>Z6 (off:=0) (sz:=2) 62 (.w h) Wy kr XI) r2 r1 (qk O (fun h=>Zct (ag:=false) (sz':=1) (sz:=2) 62 (.w h) XW Wy kr kr kr) r2 r1 (qk O (fun h=>oP (Zdp t (Nn o2 i).key ow) func87 (Args.two (.pagg (.w h)) (.w h))) r3 qz (qk O (fun h=>Za7 (.w h) qi) r2 qz (qf (o_and2 .t .t) r2 qz qZ))))))))))) M [69,50,49,9,3,0] Ko O O fun a w F G=>?_))
  have G:=X8
  refine Za (Zb G O (fun hc3=>?_) (fun hc3=>?_))
  ·have hq9:o2.set i ⟨(Nn o2 i).key,withO (Nn o2 i).txs t.id⟩ = (ol.take (i+1)).map (ZhV t)++ol.drop (i+1):=by rw [← hms2,hmn];unfold ZhV;rw [Ye (by have h9:=hc3;unfold wcnt;simpa [hmn] using h9)]
   refine ZA G (qR rr (qR rr (qf (Zaj (sz:=2) 62 .t XW Wy) r1 r1 (qf (Z6 (off:=1) (sz:=2) 62 .t Wy kr XI) r1 r1 (qf (Zct (ag:=false) (sz':=1) (sz:=2) 62 .t XW Wy kr kr kr) r1 r1 (qg 0 101 r1 r1 (qa 101 r1 r1 (qf (oP (ZoF (Nn o2 i).txs t.id ow) func161 (Args.two .t .t)) r2 qz (qf (Zaj (sz:=2) 62 .t XW Wy) r1 r1 (qf (Z6 (off:=1) (sz:=2) 62 .t Wy kr XI) r1 r1 (qf (Zea (R:=Zv) (sz:=2) (off:=1) (v':=(⟨(Nn o2 i).key,withO (Nn o2 i).txs t.id⟩:OrdD)) 62 .t XW Wy XJ .t Z7 O kr) r2 r1 qZ))))))))))) M QM Ko O O fun a w F G=>?_
   have G:=Xa
   refine Zh (Za (rZ G (qp r1 (qR rr qZ)) M QM Ko fun G=>?_))
   replace G:=G.eI 50 i
   obtain ⟨F,G⟩:=G.nM [49,3,0,50] [101,61,1,0,62]
   exact ⟨((i+1),_),F,⟨ow,hq9⟩,G,ow⟩
  have hq9:o2.set i ⟨(Nn o2 i).key,withoutO (Nn o2 i).txs t.id⟩ = (ol.take (i+1)).map (ZhV t)++ol.drop (i+1):=by rw [← hms2,hmn];unfold ZhV;rw [Yb (by have h9:=hc3;unfold wcnt;intro e;rw [← hmn] at e;simp [e.1,e.2] at h9)]
  refine ZA G (qR rr (qR rr (qf (Zaj (sz:=2) 62 .t XW Wy) r1 r1 (qf (Z6 (off:=1) (sz:=2) 62 .t Wy kr XI) r1 r1 (qf (Zct (ag:=false) (sz':=1) (sz:=2) 62 .t XW Wy kr kr kr) r1 r1 (qg 0 101 r1 r1 (qa 101 r1 r1 (qf (oP (Zjt (Nn o2 i).txs t.id ow) func162 (Args.two .t .t)) r2 qz (qf (Zaj (sz:=2) 62 .t XW Wy) r1 r1 (qf (Z6 (off:=1) (sz:=2) 62 .t Wy kr XI) r1 r1 (qf (Zea (R:=Zv) (sz:=2) (off:=1) (v':=(⟨(Nn o2 i).key,withoutO (Nn o2 i).txs t.id⟩:OrdD)) 62 .t XW Wy XJ .t Z7 O kr) r2 r1 qZ))))))))))) M QM Ko O O fun a w F G=>?_
  have G:=Xa
  refine Zh (Za (rZ G (qp r1 (qR rr qZ)) M QM Ko fun G=>?_))
  replace G:=G.eI 50 i
  obtain ⟨F,G⟩:=G.nM [49,3,0,50] [101,61,1,0,62]
  exact ⟨((i+1),_),F,⟨ow,hq9⟩,G,ow⟩
 have hil:i=ol.length:=WI
 have hfin:(o2.filter fun o=>!decide (o.txs = []))=settleO t os:=by rw [hq,hil,Yz,YaV,Y3,hq0];rfl
 have ho2:o2.length=ol.length:=by rw [hq,hil];simp
 refine Yt (Zg (Zg (Zp (Za (rS G (qR rr (qR rr (qf (Zt 61 .is XI) r1 r1 (qf (oF 1 61 .adr) r1 r1 (qa 61 r1 r1 (qf (ZaO 62 (ZnH vb o2 ow (fun o=>decide (o.txs = [])) 164 f164 [] func164 O kr (fun o=>ZkK o)) func163 O kr (Args.two .t (.conv .f (Ent.fnClos))) Zar) r1 r1 (qf (Zt 61 .is XI) r1 r1 (qf (oF 1 61 .adr) r1 r1 (qf (Zbr 61 .adr kr kr) r2 r1 qZ))))))))) M [] Ko fun τ G=>?_)))))
 have G:=X0
 generalize τ 96=v96 at G
 obtain ⟨F,G⟩:=G.push 1 62 O O O rfl
 obtain ⟨F,G⟩:=G.push 1 61 O O O rfl
 have G:=G.turn 1 O (r':=RS.hp (Zmx 30 39 p va (settleO t os))) (fun _ _ _ _ h=>⟨v96,by rw [hfin] at h;exact h⟩)
 refine Zb0 hG G O .nil .none rfl
def Zah:Zs:=⟨[],[]⟩
theorem ZZ {g:Zs} (h:Zx g):Zb1 TxD.id g.txs∧Zb1 OrdD.key g.orders:=by
 constructor
 ·have hi:Za3 (g.txs.map TxD.id):=Zgg fun i hi h0=>by
   have hi':i<g.txs.length:=XD
   rw [Zce ow,Zce hi']
   exact (h.2.1 i hi').1 h0
  rw [ZB]
  exact YaN.1 hi
 ·have h2:=(Zco g).2 h.2.2
  have hi:Za3 (g.orders.map OrdD.key):=Zgg fun i hi h0=>by
   have hi':i<g.orders.length:=XD
   rw [Zce ow,Zce hi']
   exact (h2.2 i hi').1 h0
  rw [ZB]
  exact YaN.1 hi
def Zeg (t:TxD) (v:Zad):Bool:=decide (v.tx=t.id) && decide ((wcnt t.ops v.key:Int)<v.nth)
def Zdm (t x:TxD):Bool:=decide (x.id≠t.id) && (Zd x).any (Zeg t)
def ZcD (g:Zs) (t:TxD):Bool:=g.txs.any (Zdm t)
theorem Zep {α:Type} [Inhabited α] {p:α→Bool} {l:List α} (h:∀ q,q<l.length→p (Nn l q)=false):l.any p=false:=by
 rw [YaZ]
 intro x hx
 obtain ⟨k,hk,e⟩:=YK hx
 have:=h k hk
 rw [Zw hk,e] at this
 simp [this]
theorem Zem {α:Type} [Inhabited α] {p:α→Bool} {l:List α} {i:Nat} (hi:i<l.length) (h:p (Nn l i)=true):l.any p=true:=by
 rw [Yal]
 exact ⟨_,ZT hi,h⟩
def ZgQ (g:Zs) (t:TxD) (there:Int) (wanted:Bool):Int×Int:=if ¬ Zx g then (0,5) else if ZF t≠0 then (0,ZF t) else if isK TxD.id t.id g.txs≠wanted then (0,there) else if Zak g t=false then (0,6) else (lowK TxD.id t.id g.txs,0)
def ZaE (g:Zs) (t:TxD):Zs×Int:=if (ZgQ g t 4 false).2≠0 then (Zah,(ZgQ g t 4 false).2) else if g.txs.length=4096 then (Zah,2) else (⟨g.txs.take (lowK TxD.id t.id g.txs) ++ [t] ++ g.txs.drop (lowK TxD.id t.id g.txs),settleO t g.orders⟩,0)
def Zbg (id:Int):TxD:=⟨id,false,[]⟩
def ZR (g:Zs) (id:Int):Zs×Int:=if ¬ Zx g then (Zah,5) else if isK TxD.id id g.txs=false then (Zah,3) else if ZcD g (Zbg id)=true then (Zah,7) else (⟨g.txs.take (lowK TxD.id id g.txs)++g.txs.drop (lowK TxD.id id g.txs+1),settleO (Zbg id) g.orders⟩,0)
def Zbt (g:Zs) (t:TxD):Zs×Int:=if (ZgQ g t 3 true).2≠0 then (Zah,(ZgQ g t 3 true).2) else if ZcD g t=true then (Zah,7) else (⟨g.txs.set (lowK TxD.id t.id g.txs) t,settleO t g.orders⟩,0)
theorem Znl {g:Zs} {t:TxD} {there:Int} {wanted:Bool} (ht:there≠0) (h:(ZgQ g t there wanted).2=0):Zx g∧ZF t=0∧isK TxD.id t.id g.txs=wanted∧Zak g t=true∧(ZgQ g t there wanted).1=lowK TxD.id t.id g.txs:=by
 unfold ZgQ at h ⊢
 split at h
 ·simp at h
 ·rename_i h1
  split at h
  ·rename_i h2;exact absurd h h2
  ·rename_i h2
   split at h
   ·exact absurd h ht
   ·rename_i h3
    split at h
    ·simp at h
    ·rename_i h4
     rw [Yb h1,Yb h2,Yb h3,Yb h4]
     exact ⟨YH.1 h1,YH.1 h2,YH.1 h3,by simpa using h4,rfl⟩
theorem ZeI {α:Type} [Inhabited α] {κ:α→Int} {k:Int} {l:List α} (hs:Zb1 κ l) (h:isK κ k l=true):lowK κ k l<l.length∧κ (Nn l (lowK κ k l))=k:=by
 obtain ⟨x,hx,hk⟩:=Yal.1 h
 obtain ⟨q,hq,e⟩:=YK hx
 have hk':κ (Nn l q)=k:=by rw [Zw hq,e];simpa using hk
 have hl:=Zfo (κ:=κ) (k:=k) (l:=l) (i:=q) (Nat.le_of_lt hq) (fun p hp=>by have:=hs p q hp hq;omega) (fun p hp hp2=>by have:=ZcX hs hp hp2;omega)
 rw [hl]
 exact ⟨hq,hk'⟩
theorem ZoO (g:Zs) (t:TxD) (hs:Zae g.txs) (ht:t.ops.length≤1000):FnP prog 97 [.agg (Zm g),.agg (rTx t)] (.bool (ZcD g t)):=by
 refine FnP.mk func97 O ntmps97 O fun B a w F M hfr G=>?_
 have hsl:=hs.1
 have hnl:∀ x:TxD,x.ops.length≤1000→(Zd x).length≤1000:=fun x hx=>by have:=Za9 x.id x.ops x.ops.length;rw [Yz] at this;unfold Zd;omega
 refine Ya (rS G (qx 101 r1 (qx 102 r1 qB)) M Qu Ke fun τ G=>?_)
 have G:=X1
 generalize τ 2=v2,τ 3=v3 at G
 refine Za (Ya (Ya (rZ G (qg 0 101 r1 r1 (qa 101 r1 r1 (qu Ybt r1 (qJ qZ)))) M Q8 Ke fun G=>Yf ?_)))
 refine Zj (σ:=(Nat)) [3,4,10,11] [0,101,102] (fun s=>[(12,.pv (.int .i64 (s:Int)))]) (fun s=>[]) (fun s=>s≤g.txs.length∧(∀ q,q<s→Zdm t (Nn g.txs q)=false)) (fun s=>g.txs.length - s) (0) G ⟨rfl,rfl,rfl,rfl,rfl,tv⟩ ⟨rfl,rfl,rfl,tv⟩ ⟨Yp _,fun q hq=>absurd hq (YO q)⟩ ?_
 clear G;intro i a w F hC G
 have hC:=X4
 obtain ⟨F,G⟩:=G.nM Q8 Ke
 have G:=X2
 obtain ⟨hi,hq⟩:=hC
 refine Ya (rZ G (qL r2) M [13,12,11,10,4,3] Ke fun G=>Ya ?_)
 refine Zb G O (fun hc0=>?_) (fun hc0=>?_)
 ·have hil:i<g.txs.length:=XV
  have hio:=hil
  have hqo:=hq
  have hnl2:=hnl (Nn g.txs i) Wz
  refine Yc (Za (Ya (Yf (Ya (rS G (qy 3 Ybt r2 (qf (oR true 3 .t) r1 qz (qf (oH [.int .i64 0,.bool false,.slice none 0 0] 103) trivial qz (qS 3 103 r2 r1 qZ)))) M [12,11,10,6,4,3] Kg fun τ G=>?_)))))
  have G:=X0
  generalize τ 6=v6 at G
  try simp only [Yg] at G
  refine Za (Ya (rZ G (qe 3 103 r1 r1 (qf (oP (Zdk (Nn g.txs i) Wz) func84 (Args.one (.pagg .t))) r1 qz (qu Ybw r1 (qJ qZ)))) M Q5 Kg fun G=>Yf ?_))
  refine Zj (σ:=(Nat)) [3,4,6,10,11,12,17,18] [0,101,102,103] (fun s=>[(19,.pv (.int .i64 (s:Int)))]) (fun s=>[]) (fun s=>s≤(Zd (Nn g.txs i)).length∧((Nn g.txs i).id≠t.id → ∀ q,q<s→Zeg t (Nn (Zd (Nn g.txs i)) q)=false)) (fun s=>(Zd (Nn g.txs i)).length - s) (0) G ⟨rfl,rfl,rfl,rfl,rfl,rfl,rfl,rfl,rfl,tv⟩ ⟨rfl,rfl,rfl,rfl,tv⟩ ⟨Yp _,fun _ q hq=>absurd hq (YO q)⟩ ?_
  clear G;intro j a w F hC G
  have hC:=X4
  obtain ⟨F,G⟩:=G.nM Q5 Kg
  have G:=X2
  obtain ⟨hi,hq⟩:=hC
  have hq2:=hq
  refine Ya (rZ G (qL r2) M [20,19,18,17,12,11,10,6,4,3] Kg fun G=>Ya ?_)
  refine Zb G O (fun hc1=>?_) (fun hc1=>?_)
  ·have hil:j<(Zd (Nn g.txs i)).length:=XU
   have hjo:=hil
   refine Yc (Za (Ya (Yf (Ya (rS G (qy 3 Ybw r2 (qf (oR true 3 .t) r1 qz (qf (oH [.int .i64 0,.int .i64 0,.int .i64 0] 104) trivial qz (qS 3 104 r2 r1 qZ)))) M [19,18,17,12,11,10,8,6,4,3] Kl fun τ G=>?_)))))
   have G:=X0
   generalize τ 8=v8 at G
   try simp only [Yg] at G
   refine Za (Ya (ZA G (qg 0 103 r1 r1 (qa 103 r1 r1 (qg 0 102 r1 r1 (qa 102 r1 r1 (qf (o_neq .t .t) r2 qz (qR rr (qv 0 104 O r2 r1 (qw 104 O r2 r1 (qv 0 102 O r2 r1 (qw 102 O r2 r1 (qk O (fun h=>o_eql (.w h) (.w h)) r3 qz (qf (o_and2 .t .t) r2 qz (qR rr (qv 2 104 O r2 r1 (qw 104 O r2 r1 (qk O (fun h=>oL true 3 102 .is) r2 r1 (qv 1 104 O r2 r1 (qw 104 O r2 r1 (qk O (fun h=>oP (Zdp t (Nn (Zd (Nn g.txs i)) j).key ow) func87 (Args.two (.pagg (.w h)) (.w h))) r3 qz (qk O (fun h=>Za7 (.w h) (.w h)) r3 qz (qf (o_and2 .t .t) r2 qz qZ))))))))))))))))))))) M [43,19,18,17,12,11,10,6,4,3] Kl O O fun a w F G=>?_))
   have G:=X8
   refine Za (Zb G O (fun hc2=>?_) (fun hc2=>?_))
   ·have hg:true=ZcD g t:=(Zem hio (by
      have h9:=hc2
      simp at h9
      unfold Zdm
      rw [YS h9.1.1,Ybn]
      refine Zem hjo ?_
      unfold Zeg wcnt
      simp [h9.1.2]
      first | exact h9.2 | (have:=h9.2;omega))).symm
    refine Ya (rZ G qB M Q5 Kl fun G=>(Yh (Zq (Ze (Ze (Zq (Zq (Ze (Ze (Zq (Ze ?_)))))))))))
    refine Zr hfr G O O O (.bool hg)
   have hnv:(Nn g.txs i).id≠t.id→Zeg t (Nn (Zd (Nn g.txs i)) j)=false:=by
     intro hne
     have h9:=hc2
     unfold Zeg wcnt
     simp [hne] at h9 ⊢
     first | exact h9 | (intro e;have:=h9 e;omega)
   refine Yc (Zh (Za (rZ G (qp r1 (qR rr qZ)) M Q5 Kl fun G=>?_)))
   replace G:=G.eI 19 j
   obtain ⟨F,G⟩:=G.nM [18,17,12,11,10,6,4,3,19] Kg
   exact ⟨(j+1),F,⟨ow,(fun hne q h9=>by rcases YF (YL h9) with h8 | h8;exact hq2 hne q h8;rw [h8];exact hnv hne)⟩,G,ow⟩
  have hil:j=(Zd (Nn g.txs i)).length:=XU
  have hno:Zdm t (Nn g.txs i)=false:=by
    unfold Zdm
    by_cases hne:(Nn g.txs i).id≠t.id
    ·rw [Zep (by rw [← hil];exact hq2 hne),Bool.and_false]
    ·rw [Yw hne,Bool.false_and]
  refine Yt (Zg (Zg (Zp (Zh (Za (rZ G (qp r1 (qR rr qZ)) M Q8 Kg fun G=>?_))))))
  replace G:=G.eI 12 i
  obtain ⟨F,G⟩:=G.nM JA Ke
  exact ⟨(i+1),F,⟨ow,(fun q h9=>by rcases YF (YL h9) with h8 | h8;exact hqo q h8;rw [h8];exact hno)⟩,G,ow⟩
 have hil:i=g.txs.length:=XV
 have hg:false=ZcD g t:=(Zep Wm).symm
 refine Yt (Zg (Zg (Zp (Za (Ya (rZ G qB M [4] Ke fun G=>Yh ?_))))))
 refine Zr hfr G O O O (.bool hg)
theorem Zkj (g:Zs) (id:Int) (hs:Zbe g):FnP prog 41 [.agg (Zm g),.int .i64 id] (.tup [.agg (Zm (ZR g id).1),.int .i64 (ZR g id).2]):=by
 refine FnP.mk func41 O ntmps41 O fun B a w F M hfr G=>?_
 have hsl:=hs.1.1
 refine Ya (rS G (qx 101 r1 (qf (oH [.slice none 0 0,.slice none 0 0] 102) trivial qz (qI qZ))) M KU Ke fun τ G=>?_)
 have G:=X1
 generalize τ 2=v2,τ 4=v4 at G
 refine Za (Ya (Ya (rZ G (qe 2 101 r1 r1 (qf (oP (Zf8 g hs) func74 (Args.one (.pagg .t))) r1 qz (qf (o_not .t) r1 qz qZ))) M [11,5,4,2,1] Ke fun G=>?_)))
 refine Zb G O (fun hc0=>?_) (fun hc0=>?_)
 ·have hr:¬ Zx g:=Wk
  have hg:ZR g id=(Zah,5):=by unfold ZR;rw [Ye hr]
  refine Ya (rZ G (qf (oB [] [.slice none 0 0,.slice none 0 0] [(0,1),(1,1)] .nil) trivial qz (qs 2 102 r2 r1 (qI qZ))) M KU Ke fun G=>(Yh (Ze ?_)))
  refine ZL hfr G O (.cl 102 true 2 O O (.tmp O .nil)) (.two WA (.int W9))
 have hr:Zx g:=Wk
 have hrr:=ZZ hr
 refine Yc (Za (Ya (rZ G (qe 2 101 r1 r1 (qR rr (qf (oP (ZnB g id hs.1 hrr.1) func96 (Args.two (.pagg .t) .t)) r2 qz (qR rr (qf (Zn .t O) r1 qz (qf (Zn .t O) r1 qz (qO rr (qO rr qZ)))))))) M [7,6,5,4,2,1] Ke fun G=>(Ya (Yf (Ya ?_))))))
 refine rZ G (qR rr (qf (o_not .t) r1 qz (qO rr qZ))) M [19,6,5,4,2,1] Ke fun G=>?_
 refine Zb G O (fun hc1=>?_) (fun hc1=>?_)
 ·have hik:isK TxD.id id g.txs=false:=Wj
  have hg:ZR g id=(Zah,3):=by unfold ZR;rw [Yb (YH.2 hr),Ye hik]
  refine Ya (rZ G (qf (oB [] [.slice none 0 0,.slice none 0 0] [(0,1),(1,1)] .nil) trivial qz (qs 2 102 r2 r1 (qI qZ))) M [6,5,4,2,1] Ke fun G=>(Yh (Zq (Ze ?_))))
  refine ZL hfr G O (.cl 102 true 2 O O (.tmp O .nil)) (.two WA (.int W9))
 have hik:isK TxD.id id g.txs=true:=Wj
 have hlk:=(ZeI hrr.1 hik).1
 refine Ya (rZ G (qe 2 101 r1 r1 (qR rr (qf (oB [(0,.tmp 25)] [.int .i64 0,.bool false,.slice none 0 0] [(0,1),(1,1),(2,1)] (.one O .t one_int kr .nil)) r1 qz (qf (oP (ZoO g (Zbg id) hs.1 WB) func97 (Args.two (.pagg .t) (.conv (.pagg .t) (Ent.paggLe (l:=[.int .i64 id,.bool false,.is (.slice none 0 0)]) (l':=[.int .i64 id,.bool false,.sl rOp []]) ⟨ZW.refl,ZW.refl,ZW.nilSl,tv⟩)))) r2 qz (qO rr qZ))))) M [23,6,5,4,2,1] Ke fun G=>?_)
 refine Zb G O (fun hc2=>?_) (fun hc2=>?_)
 ·have hg:ZR g id=(Zah,7):=by unfold ZR;rw [Yb (YH.2 hr),Yb (by rw [hik];simp),Ye Wh]
  refine Ya (rZ G (qf (oB [] [.slice none 0 0,.slice none 0 0] [(0,1),(1,1)] .nil) trivial qz (qs 2 102 r2 r1 (qI qZ))) M [6,5,4,2,1] Ke fun G=>(Yh (Zq (Ze ?_))))
  refine ZL hfr G O (.cl 102 true 2 O O (.tmp O .nil)) (.two WA (.int W9))
 have hg:ZR g id=(⟨g.txs.take (lowK TxD.id id g.txs)++g.txs.drop (lowK TxD.id id g.txs+1),settleO (Zbg id) g.orders⟩,0):=by unfold ZR;rw [Yb (YH.2 hr),Yb (by rw [hik];simp),Yb Wh]
 refine Yc (Zh (Za (Ya ?_)))
 replace G:=G.fresh 103 rfl
 refine rS G (qe 2 101 r1 r1 (qf (Zmf 103 (Zn0 g hs) func98 O kr (Args.one (.pagg .t))) r1 r1 (qf (oH [.slice none 0 0,.slice none 0 0] 104) trivial qz (qf (oA 2 104 .same (.conv .t (Ent.fnAgg (.fn (.fn .nil))))) r2 r1 qZ)))) M [8,6,5,4,1] Kl fun τ G=>?_
 have G:=X0
 generalize τ 8=v8,τ 30=v30 at G
 replace G:=G.turn 103 O (r':=RS.hp (HP.star [.ob (.val (cellN 0 v30)) (ZC 36 3 rTx g.txs),.ob (.val (cellN 1 v30)) (ZC 39 2 Zv g.orders)])) (fun _ _ _ _ h=>h)
 obtain ⟨F,G⟩:=G.peel 103 70 O rfl
 obtain ⟨F,G⟩:=G.peel 103 71 O rfl
 obtain ⟨F,G⟩:=G.nM [8,6,5,4,1] [104,102,101,71,70,0]
 generalize cellN 0 v30=va,cellN 1 v30=vb at G
 refine Za (Ya (rS G (qg 0 104 r1 r1 (qa 104 r1 r1 (qR rr (qR rr (qp r1 (qf (ZaO 70 (Zpp va g.txs (lowK TxD.id id g.txs) ow hlk) func99 O kr (Args.three .t .t (.conv .t (.int (Z4 ow)))) Zar) r3 r1 (qg 0 104 r1 r1 (qf (Zbr 104 .adr kr kr) r2 r1 qZ)))))))) M [8,5,4,1] [104,102,101,71,70,0] fun τ G=>?_))
 have G:=X0
 generalize τ 36=v36 at G
 refine Za (Ya ?_)
 replace G:=G.fresh 72 rfl
 obtain ⟨F,G⟩:=G.push 72 71 O O O rfl
 obtain ⟨F,G⟩:=G.push 72 104 O O O rfl
 replace G:=G.turn 72 O (r':=RS.hp (Zmx 30 39 v8 v36 g.orders)) (fun _ _ _ _ h=>⟨vb,h⟩)
 obtain ⟨F,G⟩:=G.nM [8,5,4,1] [102,101,72,70,0]
 refine Zi G (qR rr (qf (oB [(0,.tmp 38)] [.int .i64 0,.bool false,.slice none 0 0] [(0,1),(1,1),(2,1)] (.one O .t one_int kr .nil)) r1 qz (qf (o_callG1 72 (Zms v8 v36 g.orders (Zbg id) hs.2 hrr.2 WB) func100 O kr (Args.two .t (.conv (.pagg .t) (Ent.paggLe (l:=[.int .i64 id,.bool false,.is (.slice none 0 0)]) (l':=[.int .i64 id,.bool false,.sl rOp []]) ⟨ZW.refl,ZW.refl,ZW.nilSl,tv⟩)))) r2 r1 qZ))) M [8,5,4] [102,101,72,70,0] O O fun a w F G=>?_
 replace G:=G.turn 72 O (r':=RS.hp (HP.ex fun vb:Value=>HP.star [.pt (.val v8) 30 [.pv (.is v36),.pv (.is vb)],.ob (.val vb) (ZC 39 2 Zv (settleO (Zbg id) g.orders))])) (fun _ _ _ _ h=>h)
 obtain ⟨vb2,G⟩:=G.open_ex 72 rfl
 obtain ⟨F,G⟩:=G.peel 72 73 O rfl
 obtain ⟨F,G⟩:=G.peel 72 74 O rfl
 obtain ⟨F,G⟩:=G.nM [8,5,4] [102,101,74,73,70,0]
 obtain ⟨F,G⟩:=G.giveCell 70 73 0 O O O O rfl
 have G:=Xw
 obtain ⟨F,G⟩:=G.nM [8,5,4] [102,101,74,73,0]
 obtain ⟨F,G⟩:=G.giveCell 74 73 1 O O O O rfl
 have G:=Xw
 obtain ⟨F,G⟩:=G.nM [8,5,4] [102,101,73,0]
 refine Za (Ya (rZ G (qe 2 73 r1 r1 (qs 2 102 r2 r1 (qI qZ))) M KZ [102,101,73,0] fun G=>Yh ?_))
 refine ZL hfr G O (.cl 102 true 2 O O (.tmp O .nil)) (.two WA (.int W9))
theorem Zkr (l:List Int) (tx place:Int):(Zbk l tx place).1.length≤l.length:=by
 unfold Zbk
 split
 ·simp
 ·split
  ·simp
  ·rename_i h1 h2
   have hr:=ZfB tx l
   have h3:(l.eraseIdx (ZcC tx l).toNat).length=l.length - 1:=by rw [List.length_eraseIdx,Ye ow]
   show (ZkN _ _ _).length≤_
   unfold ZkN
   split
   ·rw [Yd,Yl,Yj,Yu];omega
   ·omega
theorem Zm7 (l:List Int) (tx place:Int) (hl:l.length≤1000000):FnP prog 138 [.sl Zk l,.int .i64 tx,.int .i64 place] (.tup [.sl Zk (Zbk l tx place).1,.int .i64 (Zbk l tx place).2]):=by
 refine FnP.mk func138 O ntmps138 O fun B a w F M hfr G=>?_
 have hll:=Sat.lenSl G (i:=0) rfl
 have hxr:=ZfB tx l
 have hxw:IntKind.wrap .i64 (ZcC tx l+1)=ZcC tx l+1:=ZK ow
 refine Ya (rZ G (qC (qI qZ)) M KK [0] fun G=>Ya ?_)
 refine rZ G (qR rr (qR rr (qf (oP (ZlL l tx) func205 (Args.two .t .t)) r2 qz (qO rr qZ)))) M Ku [0] fun G=>(Ya (Ya ?_))
 refine rZ G (qR rr (qf (ZcQ .t qi) r1 qz qZ)) M [15,8,7,6,2,1,0] [0] fun G=>?_
 refine Zb G O (fun hc0=>?_) (fun hc0=>?_)
 ·have hix:ZcC tx l<0:=Wk
  have hm:Zbk l tx place=([],3):=Ye hix
  refine Ya (rZ G (qC (qI qZ)) M Ku [0] fun G=>(Yh (Ze ?_)))
  refine ZL hfr G O (.tmp O (.tmp O .nil)) (.two (.trans .nilSl (.sl WC)) (.int WD))
 have hix:0≤ZcC tx l:=XV
 refine Yc (Za (Ya (Ya (rZ G (qR rr (qR rr (qf (oP (ZlR l place) func206 (Args.two .t .t)) r2 qz (qf (o_not .t) r1 qz qZ)))) M [19,8,7,6,2,1,0] [0] fun G=>?_))))
 refine Zb G O (fun hc1=>?_) (fun hc1=>?_)
 ·have hpl:¬ (0≤place∧place<l.length):=XU
  have hm:Zbk l tx place=([],1):=(Yb ow).trans (Ye hpl)
  refine Ya (rZ G (qC (qI qZ)) M Ku [0] fun G=>(Yh (Ze ?_)))
  refine ZL hfr G O (.tmp O (.tmp O .nil)) (.two (.trans .nilSl (.sl WC)) (.int WD))
 have hpl:0≤place∧place<l.length:=XU
 have hm:Zbk l tx place=(ZkN (l.eraseIdx (ZcC tx l).toNat) place tx,0):=(Yb ow).trans (Yb XG)
 refine Yc (Za (Ya (rZ G (qR rr (qR rr (qf (oP (ZoD l (ZcC tx l) hl ow) func208 (Args.two .t .t)) r2 qz (qR rr (qR rr (qf (oP (ZnY (l.eraseIdx (ZcC tx l).toNat) place tx (by rw [List.length_eraseIdx];split <;> omega)) func207 (Args.three .t .t .t)) r3 qz (qR rr (qf (Zn .t O) r1 qz (qf (Zn .t O) r1 qz (qO rr (qO rr qZ))))))))))) M [9,7,6] [0] fun G=>Ya ?_)))
 refine rZ G (qR rr (qO rr (qI qZ))) M [7,6] [0] fun G=>Yh ?_
 refine ZL hfr G O (.tmp O (.tmp O .nil)) (.two (.sl WC) (.int WD))
def ZaN (g:Zs) (key:Int) (rule:List Int→List Int×Int):Zs×Int:=if ¬ Zx g then (Zah,5) else if isK OrdD.key key g.orders=false then (Zah,3) else if (rule (Nn g.orders (lowK OrdD.key key g.orders)).txs).2≠0 then (Zah,(rule (Nn g.orders (lowK OrdD.key key g.orders)).txs).2) else (⟨g.txs,g.orders.set (lowK OrdD.key key g.orders) ⟨(Nn g.orders (lowK OrdD.key key g.orders)).key,(rule (Nn g.orders (lowK OrdD.key key g.orders)).txs).1⟩⟩,0)
def ZgI (o:OrdD) (l:List Int):List Int×Int:=if l.Perm o.txs then (o.txs,0) else ([],8)
def Zbz (g:Zs) (o:OrdD):Zs×Int:=ZaN g o.key (ZgI o)
def ZhL (g:Zs) (key id place:Int):Zs×Int:=ZaN g key fun l=>Zbk l id place
end Go.Proofs.YtfecljadegkmdaaGreat
