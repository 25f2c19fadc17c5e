/- Laws and walks. No condition beyond what each says. -/
import Derived.Test.YtfecljadegkmdaaGreatJ3
namespace Go.Proofs.YtfecljadegkmdaaGreat
open Go Go.Gm Tryz
set_option linter.unusedVariables false
set_option linter.unusedSimpArgs false
set_option maxHeartbeats 4000000
set_option maxRecDepth 8000
section
variable {α:Type} {κ:α→Int}
abbrev ZY (κ:α→Int) (l:List α):Prop:=l.Pairwise fun x y=>κ x<κ y
def Z7 (κ:α→Int) (l:List α):List α:=l.mergeSort fun x y=>decide (κ x≤κ y)
theorem Zan (l:List α):(Z7 κ l).Perm l:=YaD _ _
theorem ZbZ (l:List α):(Z7 κ l).length=l.length:=(Zan l).length_eq
theorem Zd5:∀ {a b:List α},ZY κ a→ZY κ b→(∀ x,x ∈ a ↔ x ∈ b)→a=b
 | [],[],_,_,_=>rfl
 | [],y :: b,_,_,hm=>by have:=(hm y).2 (by simp);cases this
 | x :: a,[],_,_,hm=>by have:=(hm x).1 (by simp);cases this
 | x :: a,y :: b,ha,hb,hm=>by
  have ha':=YI.1 ha
  have hb':=YI.1 hb
  have e1:x=y:=by
   rcases Yo.1 ((hm x).1 (by simp)) with e | e
   ·exact e
   ·rcases Yo.1 ((hm y).2 (by simp)) with e2 | e2
    ·exact e2.symm
    ·have:=ha'.1 y e2;have:=hb'.1 x e;omega
  subst e1
  congr 1
  refine Zd5 ha'.2 hb'.2 fun z=>⟨fun hz=>?_,fun hz=>?_⟩
  ·rcases Yo.1 ((hm z).1 (YA _ hz)) with e | e
   ·subst e;have:=ha'.1 z hz;omega
   ·exact e
  ·rcases Yo.1 ((hm z).2 (YA _ hz)) with e | e
   ·subst e;have:=hb'.1 z hz;omega
   ·exact e
abbrev Unl (κ:α→Int) (l:List α):Prop:=l.Pairwise fun x y=>κ x≠κ y
theorem Unl.perm {a b:List α} (h:Unl κ a) (hp:a.Perm b):Unl κ b:=(hp.pairwise_iff (fun {x y} h=>h.symm)).1 h
theorem ZY.unl {l:List α} (h:ZY κ l):Unl κ l:=h.imp fun h=>by omega
theorem ZaO {l:List α} (h:Unl κ l):ZY κ (Z7 κ l):=by
 have h1:(Z7 κ l).Pairwise fun x y=>decide (κ x≤κ y)=true:=Ya5 (fun a b c h1 h2=>by simp at *;omega) (fun a b=>by simp;omega) l
 have h2:Unl κ (Z7 κ l):=h.perm (Zan l).symm
 exact (h1.and h2).imp fun {x y} k => by have h3 : κ x ≤ κ y := by simpa using k.1
                                         have h4:=k.2
                                         omega
theorem Zcq {l z:List α} (hp:z.Perm l) (hz:ZY κ z):z=Z7 κ l:=
 Zd5 hz (ZaO (hz.unl.perm hp)) fun x=>by rw [hp.mem_iff,(Zan l).mem_iff]
theorem ZiA {s a b:List α} (hs:(a++b).Perm s) (ha:Unl κ a) (hb:Unl κ b) (h:∀ x ∈ a,∀ y ∈ b,κ x<κ y):Z7 κ a++Z7 κ b=Z7 κ s:=by
 refine Zcq ((List.Perm.append (Zan a) (Zan b)).trans hs) ?_
 refine Y1.2 ⟨ZaO ha,ZaO hb,fun x hx y hy=>h x ((Zan a).mem_iff.1 hx) y ((Zan b).mem_iff.1 hy)⟩
theorem ZlB {a1 a2 b1 b2:List α} (hx:ZY κ (a1++a2)) (hy:ZY κ (b1++b2)) (h1:∀ x ∈ a1,∀ y ∈ b2,κ x<κ y) (h2:∀ x ∈ b1,∀ y ∈ a2,κ x<κ y) (hu:Unl κ ((a1++a2)++(b1++b2))):Z7 κ (a1++b1)++Z7 κ (a2++b2)=Z7 κ ((a1++a2)++(b1++b2)):=by
 have hx':=Y1.1 hx
 have hy':=Y1.1 hy
 have hp:((a1++b1)++(a2++b2)).Perm ((a1++a2)++(b1++b2)):=by
  rw [Ym,Ym]
  refine Ybe a1 ?_
  rw [← Ym,← Ym]
  exact YaU b2 Ybd
 have hu2:=hu.perm hp.symm
 have hu':=Y1.1 hu2
 refine ZiA hp hu'.1 hu'.2.1 fun x hx9 y hy9=>?_
 rcases YJ.1 hx9 with hx9 | hx9 <;> rcases YJ.1 hy9 with hy9 | hy9
 ·exact hx'.2.2 x hx9 y hy9
 ·exact h1 x hx9 y hy9
 ·exact h2 x hx9 y hy9
 ·exact hy'.2.2 x hx9 y hy9
def seg (l:List α) (a b:Nat):List α:=(l.take b).drop a
theorem Zab {l:List α} {a b:Nat} (hb:b≤l.length):(seg l a b).length=b - a:=by
 unfold seg
 rw [YT,Yk];omega
def Zp (κ:α→Int) (l:List α) (a b:Nat):List α:=l.take a++(Z7 κ (seg l a b)++l.drop b)
def ZV (l:List α) (a m b:Nat):List α:=l.take a++(seg l m b++(seg l a m++l.drop b))
theorem Zj6 {p:List α} {a m:Nat} (h:a≤m):p.drop a=(p.take m).drop a++p.drop m:=by
 by_cases hm:m≤p.length
 ·have e:=List.drop_append_of_le_length (l₁:=p.take m) (l₂:=p.drop m) (i:=a) (by rw [Yk];omega)
  rw [Y2] at e
  exact e
 ·rw [YH ow,Yba (show p.length≤m by omega),YD]
theorem ZbG {l:List α} {a m b:Nat} (h1:a≤m) (h2:m≤b):seg l a b=seg l a m++seg l m b:=by
 unfold seg
 rw [Zj6 (p:=l.take b) h1,YaQ,YY h2]
theorem ZcQ {l:List α} {a b:Nat} (h:a≤b):l.take a++(seg l a b++l.drop b)=l:=by
 unfold seg
 have e:l.take a++(l.take b).drop a=l.take b:=by
  have:=Y2 a (l.take b)
  rwa [YaQ,YY h] at this
 rw [← Ym,e,Y2]
theorem Zak {l:List α} {a b:Nat} (h:a≤b):(Zp κ l a b).Perm l:=by
 unfold Zp
 conv=>rhs;rw [← ZcQ (l:=l) h]
 exact Ybe _ (YaU _ (Zan _))
theorem Z0 {l:List α} {a b:Nat} (h:a≤b):(Zp κ l a b).length=l.length:=(Zak h).length_eq
theorem ZeV {p s:List α} {a:Nat} (h:a=p.length):(p++s).take a=p:=by subst h;exact List.take_left
theorem ZeU {p s:List α} {a:Nat} (h:a=p.length):(p++s).drop a=s:=by subst h;exact List.drop_left
theorem Zbg {p m s:List α} {a b:Nat} (ha:a=p.length) (hb:b=p.length+m.length):seg (p++(m++s)) a b=m:=by
 unfold seg
 rw [← Ym,ZeV (by rw [hb,Yb]),ZeU ha]
theorem Zdq {p m s:List α} {a b:Nat} (ha:a=p.length) (hb:b=p.length+m.length):Zp κ (p++(m++s)) a b=p++(Z7 κ m++s):=by
 unfold Zp
 rw [Zbg ha hb,ZeV ha,← Ym p m s,ZeU (by rw [hb,Yb])]
theorem ZbE {p x y s:List α} {a m b:Nat} (ha:a=p.length) (hm:m=p.length+x.length) (hb:b=p.length+x.length+y.length):ZV (p++(x++(y++s))) a m b=p++(y++(x++s)):=by
 have h1:seg (p++(x++(y++s))) m b=y:=by
  rw [← Ym p x]
  exact Zbg (by rw [Yb];omega) (by rw [Yb];omega)
 have h2:(p++(x++(y++s))).drop b=s:=by
  rw [← Ym p x,← Ym (p++x) y]
  exact ZeU (by simp only [Yb];omega)
 unfold ZV
 rw [ZeV ha,h1,Zbg ha hm,h2]
theorem ZjS {l:List α} {a start m e b mid:Nat} (h1:a≤start) (h2:start≤m) (h3:m≤e) (h4:e≤b) (hb:b≤l.length) (hmid:mid+m=start+e)
  (hx:ZY κ (seg l a m)) (hy:ZY κ (seg l m b)) (hu:Unl κ (seg l a b)) (hc1:∀ x ∈ seg l a start,∀ y ∈ seg l e b,κ x<κ y) (hc2:∀ x ∈ seg l m e,∀ y ∈ seg l start m,κ x<κ y) :
  Zp κ (Zp κ (ZV l start m e) a mid) mid b=Zp κ l a b∧ZY κ (seg (ZV l start m e) a start)∧ZY κ (seg (ZV l start m e) start mid)∧ZY κ (seg (Zp κ (ZV l start m e) a mid) mid e)∧ZY κ (seg (Zp κ (ZV l start m e) a mid) e b)∧Unl κ (seg (ZV l start m e) a mid)∧Unl κ (seg (Zp κ (ZV l start m e) a mid) mid b):=by
 obtain ⟨p,hp⟩:∃ z,z=l.take a:=⟨_,rfl⟩
 obtain ⟨a1,ha1⟩:∃ z,z=seg l a start:=⟨_,rfl⟩
 obtain ⟨a2,ha2⟩:∃ z,z=seg l start m:=⟨_,rfl⟩
 obtain ⟨b1,hb1⟩:∃ z,z=seg l m e:=⟨_,rfl⟩
 obtain ⟨b2,hb2⟩:∃ z,z=seg l e b:=⟨_,rfl⟩
 obtain ⟨s,hs⟩:∃ z,z=l.drop b:=⟨_,rfl⟩
 have lp:p.length=a:=by rw [hp,Yk];omega
 have la1:a1.length=start - a:=by rw [ha1,Zab ow]
 have la2:a2.length=m - start:=by rw [ha2,Zab ow]
 have lb1:b1.length=e - m:=by rw [hb1,Zab ow]
 have lb2:b2.length=b - e:=by rw [hb2,Zab ow]
 have hxm:seg l a m=a1++a2:=by rw [ha1,ha2];exact ZbG h1 h2
 have hym:seg l m b=b1++b2:=by rw [hb1,hb2];exact ZbG h3 h4
 have hall:seg l a b=(a1++a2)++(b1++b2):=by rw [← hxm,← hym];exact ZbG ow ow
 have hl:l=p++(a1++(a2++(b1++(b2++s)))):=by
  have h9:=ZcQ (l:=l) (a:=a) (b:=b) ow
  rw [hall,← hp,← hs] at h9
  rw [← h9];simp only [Ym]
 rw [hxm] at hx
 rw [hym] at hy
 rw [hall] at hu
 rw [← ha1,← hb2] at hc1
 rw [← hb1,← ha2] at hc2
 have hrot:ZV l start m e=p++(a1++(b1++(a2++(b2++s)))):=by
  have h9:=ZbE (p:=p++a1) (x:=a2) (y:=b1) (s:=b2++s) (a:=start) (m:=m) (b:=e) (by rw [Yb];omega) (by rw [Yb];omega) (by rw [Yb];omega)
  rw [hl]
  simpa only [Ym] using h9
 have hso:Zp κ (ZV l start m e) a mid=p++(Z7 κ (a1++b1)++(a2++(b2++s))):=by
  have h9:=Zdq (κ:=κ) (p:=p) (m:=a1++b1) (s:=a2++(b2++s)) (a:=a) (b:=mid) lp.symm (by rw [Yb];omega)
  rw [hrot]
  simpa only [Ym] using h9
 have lz:(Z7 κ (a1++b1)).length=mid - a:=by rw [ZbZ,Yb];omega
 have hx':=Y1.1 hx
 have hy':=Y1.1 hy
 have hp2:((a1++b1)++(a2++b2)).Perm ((a1++a2)++(b1++b2)):=by
  rw [Ym,Ym]
  refine Ybe a1 ?_
  rw [← Ym,← Ym]
  exact YaU b2 Ybd
 have hu':=Y1.1 (hu.perm hp2.symm)
 refine ⟨?_,?_,?_,?_,?_,?_,?_⟩
 ·have h9:=Zdq (κ:=κ) (p:=p++Z7 κ (a1++b1)) (m:=a2++b2) (s:=s) (a:=mid) (b:=b) (by rw [Yb,lz];omega) (by rw [Yb,Yb,lz];omega)
  have h8:=Zdq (κ:=κ) (p:=p) (m:=(a1++a2)++(b1++b2)) (s:=s) (a:=a) (b:=b) lp.symm (by simp only [Yb];omega)
  rw [hso]
  simp only [Ym] at h9 h8 ⊢
  have h7:=ZlB hx hy hc1 hc2 hu
  simp only [Ym] at h7
  rw [h9,hl,h8,← h7]
  simp only [Ym]
 ·rw [hrot,Zbg (m:=a1) lp.symm ow];exact hx'.1
 ·have h9:=Zbg (p:=p++a1) (m:=b1) (s:=a2++(b2++s)) (a:=start) (b:=mid) (by rw [Yb];omega) (by rw [Yb];omega)
  rw [hrot]
  rw [Ym] at h9
  rw [h9];exact hy'.1
 ·have h9:=Zbg (p:=p++Z7 κ (a1++b1)) (m:=a2) (s:=b2++s) (a:=mid) (b:=e) (by rw [Yb,lz];omega) (by rw [Yb,lz];omega)
  rw [hso]
  rw [Ym] at h9
  rw [h9];exact hx'.2.1
 ·have h9:=Zbg (p:=p++(Z7 κ (a1++b1)++a2)) (m:=b2) (s:=s) (a:=e) (b:=b) (by simp only [Yb,lz];omega) (by simp only [Yb,lz];omega)
  rw [hso]
  simp only [Ym] at h9
  rw [h9];exact hy'.2.1
 ·have h9:=Zbg (p:=p) (m:=a1++b1) (s:=a2++(b2++s)) (a:=a) (b:=mid) lp.symm (by rw [Yb];omega)
  rw [hrot]
  rw [Ym] at h9
  rw [h9];exact hu'.1
 ·have h9:=Zbg (p:=p++Z7 κ (a1++b1)) (m:=a2++b2) (s:=s) (a:=mid) (b:=b) (by rw [Yb,lz];omega) (by rw [Yb,Yb,lz];omega)
  rw [hso]
  simp only [Ym] at h9
  rw [h9];exact hu'.2.1
theorem ZfQ {a b:List α} (h:a.Perm b) (hu:Unl κ b):Z7 κ a=Z7 κ b:=Zcq ((Zan a).trans h) (ZaO (hu.perm h.symm))
theorem ZjU {y:List α} {x:α} {k:Nat} (hy:ZY κ y) (h1:∀ z ∈ y.take k,κ z<κ x) (h2:∀ z ∈ y.drop k,κ x<κ z):y.take k++x :: y.drop k=Z7 κ (x :: y):=by
 refine Zcq ?_ ?_
 ·have h:=List.perm_middle (a:=x) (l₁:=y.take k) (l₂:=y.drop k)
  rwa [Y2] at h
 ·have hy':ZY κ (y.take k++y.drop k):=by rw [Y2];exact hy
  have hp:=Y1.1 hy'
  refine Y1.2 ⟨hp.1,YI.2 ⟨h2,hp.2.1⟩,fun z hz w hw=>?_⟩
  rcases Yo.1 hw with rfl | hw
  ·exact h1 z hz
  ·exact hp.2.2 z hz w hw
theorem ZjZ {y:List α} {x:α} {k:Nat} (hy:ZY κ y) (h1:∀ z ∈ y.take k,κ z<κ x) (h2:∀ z ∈ y.drop k,κ x<κ z):y.take k++x :: y.drop k=Z7 κ (y ++ [x]):=by
 rw [ZjU hy h1 h2]
 have hp:(x :: y).Perm (y ++ [x]):=(List.perm_append_singleton x y).symm
 have hu:Unl κ (x :: y):=by
  refine YI.2 ⟨fun z hz=>?_,hy.unl⟩
  rw [← Y2 k y] at hz
  rcases YJ.1 hz with hz | hz
  ·have:=h1 z hz;omega
  ·have:=h2 z hz;omega
 exact ZfQ hp (hu.perm hp)
theorem sortSeg_one (l:List α) {a:Nat} (h:a<l.length):Zp κ l a (a+1)=l:=by
 have hs:seg l a (a+1) = [l[a]]:=by
  unfold seg
  rw [YaL h,List.drop_append_of_le_length (by rw [Yk];omega),Yba (by rw [Yk];omega)];rfl
 have h1:=ZcQ (l:=l) (a:=a) (b:=a+1) ow
 have h2:Z7 κ [l[a]] = [l[a]]:=(Zcq (Ybi _) (Yax _ _)).symm
 unfold Zp
 rw [hs,h2]
 rw [hs] at h1
 exact h1
theorem Zim {l:List α} {a i k:Nat} (hai:a≤i) (hil:i<l.length) (hu:Unl κ (seg l a (i+1))) (h1:∀ z ∈ (Z7 κ (seg l a i)).take k,κ z<κ l[i]) (h2:∀ z ∈ (Z7 κ (seg l a i)).drop k,κ l[i] < κ z) :
  l.take a++((Z7 κ (seg l a i)).take k++l[i] :: ((Z7 κ (seg l a i)).drop k++l.drop (i+1)))=Zp κ l a (i+1):=by
 have hs:seg l a (i+1)=seg l a i ++ [l[i]]:=by
  unfold seg
  rw [YaL hil,List.drop_append_of_le_length (by rw [Yk];omega)]
 rw [hs] at hu
 have hu':=Y1.1 hu
 have hz:=ZaO (κ:=κ) hu'.1
 have e:=ZjZ hz h1 h2
 have e2:Z7 κ (Z7 κ (seg l a i) ++ [l[i]])=Z7 κ (seg l a i ++ [l[i]]):=ZfQ (YaU _ (Zan _)) hu
 unfold Zp
 rw [hs,← e2,← e]
 simp only [Ym,YO]
theorem Zdm {l:List α} {a b:Nat} (h:a≤b) (hb:b≤l.length):seg (Zp κ l a b) a b=Z7 κ (seg l a b):=by
 unfold Zp
 exact Zbg (by rw [Yk];omega) (by rw [Yk,ZbZ,Zab hb];omega)
theorem Zcg {l:List α} {a b c d:Nat} (hb:b≤l.length) (hab:a≤b) (h:d≤a):seg (Zp κ l a b) c d=seg l c d:=by
 unfold Zp seg
 rw [List.take_append_of_le_length (by rw [Yk];omega),YaQ,YY h]
theorem ZbU {l:List α} {a b c d:Nat} (hb:b≤l.length) (hab:a≤b) (h:b≤c):seg (Zp κ l a b) c d=seg l c d:=by
 have e:(Zp κ l a b).drop c=l.drop c:=by
  unfold Zp
  rw [← Ym]
  have hlen:(l.take a++Z7 κ (seg l a b)).length=b:=by rw [Yb,Yk,ZbZ,Zab hb];omega
  rw [List.drop_append,Yba ow,Yaz,hlen,List.drop_drop]
  congr 1;omega
 unfold seg
 rw [List.drop_take,List.drop_take,e]
def Zhp (κ:α→Int) (l:List α) (bs c:Nat):Prop:=∀ t,c≤t*bs→t*bs<l.length→ZY κ (seg l (t*bs) (min (t*bs+bs) l.length))
def Ziz (κ:α→Int) (l:List α) (bs c:Nat):Prop:=∀ t,t*bs+bs≤c→ZY κ (seg l (t*bs) (t*bs+bs))
theorem Zmp {l:List α} {bs:Nat} (h:Zhp κ l bs 0) (hb:l.length≤bs):ZY κ l:=by
 by_cases h0:l.length=0
 ·rw [YS h0];exact List.Pairwise.nil
 ·have h1:=h 0 ow ow
  rw [Nat.zero_mul,Y9,Ya9 hb] at h1
  unfold seg at h1
  rwa [YM,List.drop_zero] at h1
theorem ZbW [Inhabited α] {l:List α} {a b:Nat} (hb:b≤l.length) {x:α} : x ∈ seg l a b ↔ ∃ i,a≤i∧i<b∧Nn l i=x:=by
 unfold seg
 rw [List.mem_iff_getElem]
 constructor
 ·rintro ⟨i,hi,e⟩
  rw [YT,Yk] at hi
  refine ⟨a+i,by omega,by omega,?_⟩
  rw [ZE ow,← e,List.getElem_drop,Ya2]
 ·rintro ⟨i,h1,h2,e⟩
  refine ⟨i - a,by rw [YT,Yk];omega,?_⟩
  rw [List.getElem_drop,Ya2,← e,ZE ow]
  congr 1;omega
theorem Zdr [Inhabited α] {l:List α} {a b:Nat} (hb:b≤l.length):ZY κ (seg l a b) ↔ ∀ i j,a≤i→i<j→j<b→κ (Nn l i)<κ (Nn l j):=by
 unfold ZY
 rw [Y4]
 have hlen:(seg l a b).length=b - a:=Zab hb
 have hget:∀ i (h:i<(seg l a b).length),(seg l a b)[i] = Nn l (a+i):=fun i h=>by
  rw [hlen] at h
  rw [ZE (show a+i<l.length by omega)]
  simp only [seg,List.getElem_drop,Ya2]
 constructor
 ·intro h i j h1 h2 h3
  have h9:=h (i - a) (j - a) ow ow ow
  rw [hget,hget,show a+(i - a)=i by omega,show a+(j - a)=j by omega] at h9
  exact h9
 ·intro h i j hi hj hij
  rw [hget,hget]
  exact h _ _ ow ow ow
theorem ZjI [Inhabited α] {l:List α} {a m b mid start s0 r0:Nat} (hb:b≤l.length) (ham:a<m) (hmb:m<b) (hma:a≤mid) (hmm:mid≤b) (hm2:2*mid≤a+b) (hx:ZY κ (seg l a m)) (hy:ZY κ (seg l m b))
  (hs0:(mid<m∧s0+b=mid+m∧r0=mid)∨(m≤mid∧s0=a∧r0=m)) (h1:s0≤start) (h2:start≤r0) (h3:start=s0∨κ (Nn l (start - 1))<κ (Nn l (mid+m - start))) (h4:start=r0∨κ (Nn l (mid+m - 1 - start))<κ (Nn l start)) (has:a≤s0) :
  (start≤m∧m≤mid+m - start∧mid+m - start≤b)∧(∀ x ∈ seg l a start,∀ y ∈ seg l (mid+m - start) b,κ x<κ y)∧(∀ x ∈ seg l m (mid+m - start),∀ y ∈ seg l start m,κ x<κ y):=by
 have hx':=(Zdr (κ:=κ) ow).1 hx
 have hy':=(Zdr (κ:=κ) hb).1 hy
 refine ⟨by omega,fun x hx9 y hy9=>?_,fun x hx9 y hy9=>?_⟩
 ·obtain ⟨i,i1,i2,rfl⟩:=(ZbW ow).1 hx9
  obtain ⟨j,j1,j2,rfl⟩:=(ZbW hb).1 hy9
  rcases h3 with h3 | h3
  ·omega
  ·have k1:κ (Nn l i)≤κ (Nn l (start - 1)):=by
    rcases Y5 i (start - 1) with h | h
    ·exact Ybo (hx' i (start - 1) i1 h ow)
    ·rw [show i=start - 1 by omega];exact Yak _
   have k2:κ (Nn l (mid+m - start))≤κ (Nn l j):=by
    rcases Y5 (mid+m - start) j with h | h
    ·exact Ybo (hy' _ j ow h j2)
    ·rw [show j=mid+m - start by omega];exact Yak _
   omega
 ·obtain ⟨i,i1,i2,rfl⟩:=(ZbW ow).1 hx9
  obtain ⟨j,j1,j2,rfl⟩:=(ZbW ow).1 hy9
  rcases h4 with h4 | h4
  ·omega
  ·have k1:κ (Nn l i)≤κ (Nn l (mid+m - 1 - start)):=by
    rcases Y5 i (mid+m - 1 - start) with h | h
    ·exact Ybo (hy' i _ i1 h ow)
    ·rw [show i=mid+m - 1 - start by omega];exact Yak _
   have k2:κ (Nn l start)≤κ (Nn l j):=by
    rcases Y5 start j with h | h
    ·exact Ybo (hx' start j ow h j2)
    ·rw [show j=start by omega];exact Yak _
   omega
def Zc5 (l:List α) (a b n:Nat):List α:=l.take a++(seg l b (b+n)++(seg l (a+n) b++(seg l a (a+n)++l.drop (b+n))))
theorem ZgY {p x w y s:List α} {a b n:Nat} (ha:a=p.length) (hn:n=x.length) (hb:b=p.length+x.length+w.length) (hy:y.length=n):Zc5 (p++(x++(w++(y++s)))) a b n=p++(y++(w++(x++s))):=by
 have h1:seg (p++(x++(w++(y++s)))) b (b+n)=y:=by
  rw [← Ym p x,← Ym (p++x) w]
  exact Zbg (by simp only [Yb];omega) (by simp only [Yb];omega)
 have h2:seg (p++(x++(w++(y++s)))) (a+n) b=w:=by
  rw [← Ym p x]
  exact Zbg (by simp only [Yb];omega) (by simp only [Yb];omega)
 have h3:seg (p++(x++(w++(y++s)))) a (a+n)=x:=Zbg ha ow
 have h4:(p++(x++(w++(y++s)))).drop (b+n)=s:=by
  rw [← Ym p x,← Ym (p++x) w,← Ym (p++x++w) y]
  exact ZeU (by simp only [Yb];omega)
 unfold Zc5
 rw [ZeV ha,h1,h2,h3,h4]
theorem Zpp {p x1 x2 y s:List α} (h:x1.length=y.length):ZV (Zc5 (p++(x1++(x2++(y++s)))) p.length (p.length+x1.length+x2.length) y.length) (p.length+y.length) (p.length+x1.length+x2.length) (p.length+x1.length+x2.length+y.length)=ZV (p++(x1++(x2++(y++s)))) p.length (p.length+x1.length+x2.length) (p.length+x1.length+x2.length+y.length):=by
 rw [ZgY rfl h.symm rfl rfl]
 have e1:=ZbE (p:=p++y) (x:=x2) (y:=x1) (s:=s) (a:=p.length+y.length) (m:=p.length+x1.length+x2.length) (b:=p.length+x1.length+x2.length+y.length) (by rw [Yb]) (by rw [Yb];omega) (by rw [Yb];omega)
 have e2:=ZbE (p:=p) (x:=x1++x2) (y:=y) (s:=s) (a:=p.length) (m:=p.length+x1.length+x2.length) (b:=p.length+x1.length+x2.length+y.length) rfl (by rw [Yb];omega) (by rw [Yb];omega)
 simp only [Ym] at e1 e2
 rw [e1,e2]
theorem Zpx {p x y1 y2 s:List α} (h:x.length=y2.length):ZV (Zc5 (p++(x++(y1++(y2++s)))) p.length (p.length+x.length+y1.length) x.length) p.length (p.length+x.length) (p.length+x.length+y1.length)=ZV (p++(x++(y1++(y2++s)))) p.length (p.length+x.length) (p.length+x.length+y1.length+y2.length):=by
 rw [ZgY rfl rfl rfl h.symm]
 have e1:=ZbE (p:=p) (x:=y2) (y:=y1) (s:=x++s) (a:=p.length) (m:=p.length+x.length) (b:=p.length+x.length+y1.length) rfl ow ow
 have e2:=ZbE (p:=p) (x:=x) (y:=y1++y2) (s:=s) (a:=p.length) (m:=p.length+x.length) (b:=p.length+x.length+y1.length+y2.length) rfl rfl (by rw [Yb];omega)
 simp only [Ym] at e1 e2
 rw [e1,e2]
theorem Zpu {p x y s:List α} (h:x.length=y.length):Zc5 (p++(x++(y++s))) p.length (p.length+x.length) x.length=ZV (p++(x++(y++s))) p.length (p.length+x.length) (p.length+x.length+y.length):=by
 have e1:=ZgY (p:=p) (x:=x) (w:=[]) (y:=y) (s:=s) (a:=p.length) (b:=p.length+x.length) (n:=x.length) rfl rfl (by simp) h.symm
 rw [ZbE rfl rfl rfl]
 simpa using e1
theorem Zek {l:List α} (h:Unl κ l) (a b:Nat):Unl κ (seg l a b):=h.sublist ((List.drop_sublist _ _).trans (List.take_sublist _ _))
theorem ZiF {t u bs:Nat} (h:t*bs+bs≤u*bs+bs) (hb:0<bs):t≤u:=by
 apply YaA
 intro hn
 have h1:u+1≤t:=by omega
 have h2:=YZ bs h1
 rw [YaK] at h2
 omega
theorem Zma {t u bs:Nat} (h:u*bs<t*bs+bs):u≤t:=by
 apply YaA
 intro hn
 have h2:=YZ bs (show t+1≤u by omega)
 rw [YaK] at h2
 omega
theorem Zdz {l:List α} {bs t:Nat} (hb:0<bs) (h:Ziz κ l bs (t*bs)) (hn:t*bs+bs≤l.length) (hu:Unl κ l):Ziz κ (Zp κ l (t*bs) (t*bs+bs)) bs (t*bs+bs):=fun u hub=>by
 have hut:=ZiF hub hb
 rcases YG hut with h1 | h1
 ·have h2:=YZ bs (show u+1≤t from h1)
  rw [YaK] at h2
  rw [Zcg hn ow h2]
  exact h u h2
 ·subst h1
  rw [Zdm ow hn]
  exact ZaO (Zek hu _ _)
theorem ZeR {l:List α} {bs t:Nat} (hb:0<bs) (h:Ziz κ l bs (t*bs)) (ht:t*bs≤l.length) (hn:l.length<t*bs+bs) (hu:Unl κ l):Zhp κ (Zp κ l (t*bs) l.length) bs 0:=fun u _ hul=>by
 have hlen:=Z0 (κ:=κ) (l:=l) ht
 rw [hlen] at hul ⊢
 have hut:u≤t:=Zma (bs:=bs) ow
 rcases YG hut with h1 | h1
 ·have h2:=YZ bs (show u+1≤t from h1)
  rw [YaK] at h2
  rw [YY ow,Zcg (Yw _) ht h2]
  exact h u h2
 ·subst h1
  rw [Ya9 ow,Zdm ht (Yw _)]
  exact ZaO (Zek hu _ _)
theorem Zgo {l:List α} {bs a b:Nat} (hab:a≤b) (hb:b≤l.length) (h:Zhp κ l bs a):Zhp κ (Zp κ l a b) bs b:=fun u h1 h2=>by
 have hlen:=Z0 (κ:=κ) (l:=l) hab
 rw [hlen] at h2 ⊢
 rw [ZbU hb hab h1]
 exact h u ow h2
theorem ZjH {l:List α} {bs t:Nat} (hb:0<bs) (h:Ziz κ l (2*bs) (t*(2*bs))) (hr:Zhp κ l bs (t*(2*bs))) (hn:l.length≤t*(2*bs)+bs):Zhp κ l (2*bs) 0:=fun u _ hul=>by
 have hut:u≤t:=Zma (bs:=2*bs) ow
 rcases YG hut with h1 | h1
 ·have h2:=YZ (2*bs) (show u+1≤t from h1)
  rw [YaK] at h2
  by_cases h3:u*(2*bs)+2*bs≤l.length
  ·rw [YY h3];exact h u h2
  ·have h4:=h u h2
   rw [Ya9 ow]
   have e:seg l (u*(2*bs)) (u*(2*bs)+2*bs)=seg l (u*(2*bs)) l.length:=by
    unfold seg
    rw [YH ow,YM]
   rwa [e] at h4
 ·subst h1
  have h4:=hr (2*u) (by rw [Nat.mul_assoc,Ybg];exact Yw _) (by rw [show 2*u*bs=u*(2*bs) by rw [Nat.mul_assoc,Ybg]];exact hul)
  rw [show 2*u*bs=u*(2*bs) by rw [Nat.mul_assoc,Ybg],Ya9 hn] at h4
  rw [Ya9 ow]
  exact h4
end
section
variable {α:Type} {κ:α→Int}
theorem ZdM {l:List α} {a b n:Nat} (h:a+n≤b):(seg l a b).take n=seg l a (a+n):=by
 unfold seg
 rw [List.take_drop,YaQ,YY h]
theorem ZdC {l:List α} {a b n:Nat} : (seg l a b).drop n=seg l (a+n) b:=by
 unfold seg
 rw [List.drop_drop]
theorem Zej {l:List α} {a:Nat} : seg l a a = []:=by
 unfold seg
 exact Yba (by rw [Yk];omega)
theorem ZbB {l:List α} {a b n:Nat} (h1:a+n≤b) (h2:b+n≤l.length):(Zc5 l a b n).length=l.length:=by
 unfold Zc5
 rw [Yb,Yb,Yb,Yb,Zab ow,Zab ow,Zab ow,Yk,YT];omega
theorem cut4 {l:List α} {a b c d:Nat} (h1:a≤b) (h2:b≤c) (h3:c≤d):l=l.take a++(seg l a b++(seg l b c++(seg l c d++l.drop d))):=by
 have e:=ZcQ (l:=l) (a:=a) (b:=d) ow
 rw [ZbG (l:=l) (a:=a) (m:=b) (b:=d) h1 ow,ZbG (l:=l) (a:=b) (m:=c) (b:=d) h2 h3] at e
 simpa only [Ym] using e.symm
theorem ZmS {l:List α} {s m e j:Nat} (h1:s+j≤m) (h2:e=m+j) (h3:e≤l.length):ZV (Zc5 l s m j) (s+j) m e=ZV l s m e:=by
 have hc:=cut4 (l:=l) (a:=s) (b:=s+j) (c:=m) (d:=e) ow h1 ow
 have e0:(l.take s).length=s:=by rw [Yk];omega
 have e1:(seg l s (s+j)).length=j:=by rw [Zab ow];omega
 have e2:(seg l (s+j) m).length=m - (s+j):=Zab ow
 have e3:(seg l m e).length=j:=by rw [Zab h3];omega
 have h:=Zpp (p:=l.take s) (x1:=seg l s (s+j)) (x2:=seg l (s+j) m) (y:=seg l m e) (s:=l.drop e) (by rw [e1,e3])
 rw [← hc,e0,e1,e2,e3,show s+j+(m - (s+j))=m by omega,show m+j=e by omega] at h
 exact h
theorem ZlR {l:List α} {s m e i:Nat} (h0:m=s+i) (h1:m+i≤e) (h3:e≤l.length):ZV (Zc5 l s (e - i) i) s m (e - i)=ZV l s m e:=by
 have hc:=cut4 (l:=l) (a:=s) (b:=m) (c:=e - i) (d:=e) ow ow ow
 have e0:(l.take s).length=s:=by rw [Yk];omega
 have e1:(seg l s m).length=i:=by rw [Zab ow];omega
 have e2:(seg l m (e - i)).length=e - i - m:=Zab ow
 have e3:(seg l (e - i) e).length=i:=by rw [Zab h3];omega
 have h:=Zpx (p:=l.take s) (x:=seg l s m) (y1:=seg l m (e - i)) (y2:=seg l (e - i) e) (s:=l.drop e) (by rw [e1,e3])
 rw [← hc,e0,e1,e2,e3,show s+i+(e - i - m)=e - i by omega,show s+i=m by omega,show e - i+i=e by omega] at h
 exact h
theorem Zmq {l:List α} {s m e i:Nat} (h0:m=s+i) (h1:e=m+i) (h3:e≤l.length):Zc5 l s m i=ZV l s m e:=by
 have hc:l=l.take s++(seg l s m++(seg l m e++l.drop e)):=by
  have:=cut4 (l:=l) (a:=s) (b:=m) (c:=m) (d:=e) ow ow ow
  rwa [Zej,Yaz] at this
 have e0:(l.take s).length=s:=by rw [Yk];omega
 have e1:(seg l s m).length=i:=by rw [Zab ow];omega
 have e3:(seg l m e).length=i:=by rw [Zab h3];omega
 have h:=Zpu (p:=l.take s) (x:=seg l s m) (y:=seg l m e) (s:=l.drop e) (by rw [e1,e3])
 rw [← hc,e0,e1,e3,show s+i=m by omega,show m+i=e by omega] at h
 exact h
theorem Zhm {l:List α} {a m b:Nat} (h1:a≤m) (h2:m≤b) (h3:b≤l.length):(ZV l a m b).length=l.length:=by
 unfold ZV
 rw [Yb,Yb,Yb,Zab h3,Zab ow,Yk,YT];omega
theorem ZjL {l:List α} {a m b:Nat} (h1:a≤m) (h2:m≤b) (h:a=m∨m=b):ZV l a m b=l:=by
 unfold ZV
 rcases h with h | h
 ·subst h;rw [Zej,Yaz];exact ZcQ h2
 ·subst h;rw [Zej,Yaz];exact ZcQ h1
theorem Za2 {l:List α} {a b:Nat} (h:a≤b) (hr:ZY κ (seg l a b)):Zp κ l a b=l:=by
 unfold Zp
 rw [← Zcq (Ybi _) hr]
 exact ZcQ h
theorem Zai {l:List α} {a b:Nat} (h:a≤b) (hu:Unl κ l):Unl κ (Zp κ l a b):=hu.perm (Zak h).symm
theorem Zjm {l:List α} {a m b:Nat} (h1:a≤m) (h2:m≤b):(ZV l a m b).Perm l:=by
 unfold ZV
 conv=>rhs;rw [← ZcQ (l:=l) (a:=a) (b:=b) ow,ZbG (l:=l) h1 h2]
 refine Ybe _ ?_
 rw [← Ym]
 exact YaU _ Ybd
theorem ZjR {l:List α} {bs q t:Nat} (hb:0<bs) (ht:q=t*(2*bs)) (h:Zhp κ l bs q) (hn:q+2*bs≤l.length):ZY κ (seg l q (q+bs))∧ZY κ (seg l (q+bs) (q+2*bs)):=by
 have e1:2*t*bs=q:=by rw [ht,Nat.mul_assoc,Ybg]
 have e2:(2*t+1)*bs=q+bs:=by rw [YaK,e1]
 have h1:=h (2*t) ow ow
 have h2:=h (2*t+1) ow ow
 rw [e1,YY ow] at h1
 rw [e2,YY ow,show q+bs+bs=q+2*bs by omega] at h2
 exact ⟨h1,h2⟩
theorem Zia {l:List α} {bs q t:Nat} (hb:0<bs) (ht:q=t*(2*bs)) (h:Zhp κ l bs q) (hn:q+bs<l.length) (hn2:l.length≤q+2*bs):ZY κ (seg l q (q+bs))∧ZY κ (seg l (q+bs) l.length):=by
 have e1:2*t*bs=q:=by rw [ht,Nat.mul_assoc,Ybg]
 have e2:(2*t+1)*bs=q+bs:=by rw [YaK,e1]
 have h1:=h (2*t) ow ow
 have h2:=h (2*t+1) ow ow
 rw [e1,YY ow] at h1
 rw [e2,Ya9 ow] at h2
 exact ⟨h1,h2⟩
end
section
variable {α:Type} [Inhabited α] {κ:α→Int}
theorem ZcK {a b:List α} {k:Nat} : Nn (a++b) k=if k<a.length then Nn a k else Nn b (k - a.length):=by
 unfold Nn
 split
 ·rename_i h;simp [Yad,List.getElem?_append_left h]
 ·rename_i h;simp [Yad,List.getElem?_append_right (Nat.le_of_not_lt h)]
theorem Zkr {x:α} {l:List α} {k:Nat} : Nn (x :: l) k=if k=0 then x else Nn l (k - 1):=by
 unfold Nn
 cases k with
 | zero=>rfl
 | succ k=>rfl
theorem Zkq {l:List α} {n k:Nat} (h:k<n):Nn (l.take n) k=Nn l k:=by
 unfold Nn;simp [Yad,List.getElem?_take,h]
theorem Zjj {l:List α} {n k:Nat} : Nn (l.drop n) k=Nn l (n+k):=by
 unfold Nn;simp [Yad,List.getElem?_drop]
theorem Zin {l:List α} {a b k:Nat} (h:a+k<b):Nn (seg l a b) k=Nn l (a+k):=by
 unfold seg;rw [Zjj,Zkq h]
theorem ZeZ {l:List α} {a b:Nat} (h:a<b) (hb:b≤l.length):seg l a b=Nn l a :: seg l (a+1) b:=by
 unfold seg
 rw [List.drop_eq_getElem_cons (by rw [Yk];omega),ZE ow,Ya2]
theorem ZjA {l:List α} {a b:Nat} (h:a≤b) (hb:b<l.length):seg l a (b+1)=seg l a b ++ [Nn l b]:=by
 rw [ZbG (m:=b) h ow,ZeZ (a:=b) ow ow,Zej]
def swp (l:List α) (i j:Nat):List α:=(l.set i (Nn l j)).set j (Nn l i)
theorem ZiP {l:List α} {i j:Nat} : (swp l i j).length=l.length:=by unfold swp;simp
theorem Zjn {l:List α} {i k:Nat} {x:α} (h:i<l.length):Nn (l.set i x) k=if k=i then x else Nn l k:=by
 unfold Nn
 simp only [Yad,List.getElem?_set]
 by_cases e:i=k
 ·subst e;simp [h]
 ·simp [e,Ne.symm e]
theorem ZiG {l:List α} {i j k:Nat} (hi:i<l.length) (hj:j<l.length):Nn (swp l i j) k=if k=j then Nn l i else if k=i then Nn l j else Nn l k:=by
 unfold swp
 rw [Zjn (by simpa using hj),Zjn hi]
def ZeL (l:List α) (j i:Nat):List α:=l.take j++Nn l i :: (seg l j i++l.drop (i+1))
theorem ZbA {l:List α} {j i:Nat} (hji:j≤i) (hi:i<l.length):(ZeL l j i).length=l.length:=by
 unfold ZeL
 rw [Yb,Yp,Yb,Zab ow,Yk,YT];omega
theorem Zbw {l:List α} {j i k:Nat} (hji:j≤i) (hi:i<l.length):Nn (ZeL l j i) k=if k=j then Nn l i else if j<k∧k≤i then Nn l (k - 1) else Nn l k:=by
 unfold ZeL
 have h1:(l.take j).length=j:=by rw [Yk];omega
 have h2:(seg l j i).length=i - j:=Zab ow
 rw [ZcK,Zkr,ZcK,h1,h2]
 by_cases c1:k<j
 ·rw [Yd c1,Yc ow,Yc ow,Zkq c1]
 ·rw [Yc c1]
  by_cases c2:k=j
  ·rw [Yd ow,Yd c2]
  ·rw [Yc ow,Yc c2]
   by_cases c3:k≤i
   ·rw [Yd ow,Yd ow,Zin ow];congr 1;omega
   ·rw [Yc ow,Yc ow,Zjj];congr 1;omega
theorem ZdP {l:List α} {i:Nat} (hi:i<l.length):ZeL l i i=l:=
 ZaD (ZbA (Yw _) hi) fun k _=>by
  rw [Zbw (Yw _) hi]
  split
  ·rename_i h;rw [h]
  ·rw [Yc ow]
theorem Zdx {l:List α} {j i:Nat} (h0:0<j) (hji:j≤i) (hi:i<l.length):swp (ZeL l j i) j (j - 1)=ZeL l (j - 1) i:=
 ZaD (by rw [ZiP,ZbA hji hi,ZbA ow hi]) fun k _=>by
  rw [ZiG (by rw [ZbA hji hi];omega) (by rw [ZbA hji hi];omega),Zbw hji hi,Zbw hji hi,Zbw hji hi,Zbw ow hi]
  by_cases c1:k=j - 1
  ·rw [Yd c1,Yd c1,Yd rfl]
  ·rw [Yc c1,Yc c1]
   by_cases c2:k=j
   ·rw [Yd c2,Yc ow,Yc ow,Yd ow];congr 1;omega
   ·rw [Yc c2,Yc c2]
    by_cases c3:j<k∧k≤i
    ·rw [Yd c3,Yd ow]
    ·rw [Yc c3,Yc ow]
def Zil (l:List α) (a k:Nat):List α:=l.take a++(seg l (a+1) (k+1)++Nn l a :: l.drop (k+1))
theorem Zcj {l:List α} {a k:Nat} (hak:a≤k) (hk:k<l.length):(Zil l a k).length=l.length:=by
 unfold Zil
 rw [Yb,Yb,Yp,Zab ow,Yk,YT];omega
theorem ZdX {l:List α} {a k q:Nat} (hak:a≤k) (hk:k<l.length):Nn (Zil l a k) q=if q=k then Nn l a else if a≤q∧q<k then Nn l (q+1) else Nn l q:=by
 unfold Zil
 have h1:(l.take a).length=a:=by rw [Yk];omega
 have h2:(seg l (a+1) (k+1)).length=k - a:=by rw [Zab ow];omega
 rw [ZcK,ZcK,Zkr,h1,h2]
 by_cases c1:q<a
 ·rw [Yd c1,Yc ow,Yc ow,Zkq c1]
 ·rw [Yc c1]
  by_cases c2:q<k
  ·rw [Yd ow,Yc ow,Yd ow,Zin ow];congr 1;omega
  ·rw [Yc ow]
   by_cases c3:q=k
   ·rw [Yd ow,Yd c3]
   ·rw [Yc ow,Yc c3,Yc ow,Zjj];congr 1;omega
theorem Zh4 {l:List α} {a:Nat} (ha:a<l.length):Zil l a a=l:=
 ZaD (Zcj (Yw _) ha) fun q _=>by
  rw [ZdX (Yw _) ha]
  split
  ·rename_i h;rw [h]
  ·rw [Yc ow]
theorem Zh3 {l:List α} {a k:Nat} (hak:a≤k) (hk:k+1<l.length):swp (Zil l a k) k (k+1)=Zil l a (k+1):=
 ZaD (by rw [ZiP,Zcj hak ow,Zcj ow hk]) fun q _=>by
  rw [ZiG (by rw [Zcj hak ow];omega) (by rw [Zcj hak ow];omega),ZdX hak ow,ZdX hak ow,ZdX hak ow,ZdX ow hk]
  by_cases c1:q=k+1
  ·rw [Yd c1,Yd c1,Yd rfl]
  ·rw [Yc c1,Yc c1]
   by_cases c2:q=k
   ·rw [Yd c2,Yc ow,Yc ow,Yd ow,c2]
   ·rw [Yc c2,Yc c2]
    by_cases c3:a≤q∧q<k
    ·rw [Yd c3,Yd ow]
    ·rw [Yc c3,Yc ow]
theorem ZdB {l:List α} {a b n k:Nat} (h1:a+n≤b) (h2:b+n≤l.length):Nn (Zc5 l a b n) k=if a≤k∧k<a+n then Nn l (b+(k - a)) else if b≤k∧k<b+n then Nn l (a+(k - b)) else Nn l k:=by
 unfold Zc5
 have e1:(l.take a).length=a:=by rw [Yk];omega
 have e2:(seg l b (b+n)).length=n:=by rw [Zab ow];omega
 have e3:(seg l (a+n) b).length=b - (a+n):=Zab ow
 have e4:(seg l a (a+n)).length=n:=by rw [Zab ow];omega
 rw [ZcK,ZcK,ZcK,ZcK,e1,e2,e3,e4]
 by_cases c1:k<a
 ·rw [Yd c1,Yc ow,Yc ow,Zkq c1]
 ·rw [Yc c1]
  by_cases c2:k<a+n
  ·rw [Yd (show k - a<n by omega),Yd (show a≤k∧k<a+n by omega),Zin ow]
  ·rw [Yc (show ¬ (k - a<n) by omega),Yc (show ¬ (a≤k∧k<a+n) by omega)]
   by_cases c3:k<b
   ·rw [Yd (show k - a - n<b - (a+n) by omega),Yc (show ¬ (b≤k∧k<b+n) by omega),Zin ow];congr 1;omega
   ·rw [Yc (show ¬ (k - a - n<b - (a+n)) by omega)]
    by_cases c4:k<b+n
    ·rw [Yd (show k - a - n - (b - (a+n))<n by omega),Yd (show b≤k∧k<b+n by omega),Zin ow];congr 1;omega
    ·rw [Yc (show ¬ (k - a - n - (b - (a+n))<n) by omega),Yc (show ¬ (b≤k∧k<b+n) by omega),Zjj];congr 1;omega
theorem Zht {l:List α} {a b:Nat} (h1:a≤b) (h2:b≤l.length):Zc5 l a b 0=l:=
 ZaD (ZbB h1 h2) fun k _=>by rw [ZdB h1 h2,Yc ow,Yc ow]
theorem ZhD {l:List α} {a b n i:Nat} (hi:i<n) (h1:a+n≤b) (h2:b+n≤l.length):swp (Zc5 l a b i) (a+i) (b+i)=Zc5 l a b (i+1):=by
 have hl:(Zc5 l a b i).length=l.length:=ZbB ow ow
 refine ZaD (by rw [ZiP,hl,ZbB ow ow]) fun k _=>?_
 rw [ZiG ow ow,ZdB ow ow,ZdB ow ow,ZdB ow ow,ZdB (n:=i+1) ow ow]
 by_cases c1:k=b+i
 ·rw [Yd c1,Yc (show ¬ (a≤a+i∧a+i<a+i) by omega),Yc (show ¬ (b≤a+i∧a+i<b+i) by omega),Yc (show ¬ (a≤k∧k<a+(i+1)) by omega),Yd (show b≤k∧k<b+(i+1) by omega)];congr 1;omega
 ·rw [Yc c1]
  by_cases c2:k=a+i
  ·rw [Yd c2,Yc (show ¬ (a≤b+i∧b+i<a+i) by omega),Yc (show ¬ (b≤b+i∧b+i<b+i) by omega),Yd (show a≤k∧k<a+(i+1) by omega)];congr 1;omega
  ·rw [Yc c2]
   by_cases c3:a≤k∧k<a+i
   ·rw [Yd c3,Yd (show a≤k∧k<a+(i+1) by omega)]
   ·by_cases c4:b≤k∧k<b+i
    ·rw [Yc c3,Yd c4,Yc (show ¬ (a≤k∧k<a+(i+1)) by omega),Yd (show b≤k∧k<b+(i+1) by omega)]
    ·rw [Yc c3,Yc c4,Yc (show ¬ (a≤k∧k<a+(i+1)) by omega),Yc (show ¬ (b≤k∧k<b+(i+1)) by omega)]
theorem ZhZ {l l0:List α} {a i j:Nat} (haj:a≤j) (hji:j≤i) (hil:i<l.length) (hu:Unl κ (seg l a (i+1))) (hl0:l0=Zp κ l a i)
  (h1:j=a∨κ (Nn l0 (j - 1))<κ (Nn l0 i)) (h2:∀ k,j≤k→k<i→κ (Nn l0 i)<κ (Nn l0 k)):ZeL l0 j i=Zp κ l a (i+1):=by
 have hlen:l0.length=l.length:=by rw [hl0,Z0 ow]
 have hseg:seg l0 a i=Z7 κ (seg l a i):=by rw [hl0];exact Zdm ow ow
 have hr:ZY κ (seg l0 a i):=by
  rw [hseg]
  refine ZaO ?_
  rw [ZjA ow hil] at hu
  exact (Y1.1 hu).1
 have hri:=(Zdr (κ:=κ) ow).1 hr
 have hx:Nn l0 i=Nn l i:=by
  have e:=ZbU (κ:=κ) (l:=l) (a:=a) (b:=i) (c:=i) (d:=i+1) ow ow (Yw _)
  rw [← hl0,ZeZ (l:=l0) ow ow,ZeZ (l:=l) ow ow] at e
  exact (List.cons.inj e).1
 have ht:l0.take a=l.take a:=by
  have e:=Zcg (κ:=κ) (l:=l) (a:=a) (b:=i) (c:=0) (d:=a) ow ow (Yw _)
  rw [← hl0] at e
  simpa [seg] using e
 have hd:l0.drop (i+1)=l.drop (i+1):=by
  have e:=ZbU (κ:=κ) (l:=l) (a:=a) (b:=i) (c:=i+1) (d:=l.length) ow ow ow
  rw [← hl0] at e
  unfold seg at e
  rwa [YH ow,YM] at e
 have k1:(Z7 κ (seg l a i)).take (j - a)=seg l0 a j:=by rw [← hseg,ZdM ow];congr 1;omega
 have k2:(Z7 κ (seg l a i)).drop (j - a)=seg l0 j i:=by rw [← hseg,ZdC];congr 1;omega
 have e:=Zim (κ:=κ) (l:=l) (a:=a) (i:=i) (k:=j - a) ow hil hu
  (by
   rw [k1,← ZE hil,← hx]
   intro z hz
   obtain ⟨q,q1,q2,rfl⟩:=(ZbW ow).1 hz
   rcases h1 with h1 | h1
   ·omega
   ·rcases Y5 q (j - 1) with h | h
    ·exact YaW (hri q (j - 1) q1 h ow) h1
    ·rw [show q=j - 1 by omega];exact h1)
  (by
   rw [k2,← ZE hil,← hx]
   intro z hz
   obtain ⟨q,q1,q2,rfl⟩:=(ZbW ow).1 hz
   exact h2 q q1 q2)
 rw [← e,k1,k2,← ZE hil,← hx,← ht,← hd]
 unfold ZeL
 have hj:l0.take j=l0.take a++seg l0 a j:=by
  unfold seg
  have:=Y2 a (l0.take j)
  rw [YaQ,YY haj] at this
  exact this.symm
 rw [hj]
 simp only [Ym]
theorem ZhT {l:List α} {a i b:Nat} (hai:a+1≤i) (hib:i≤b) (hb:b≤l.length) (hy:ZY κ (seg l (a+1) b)) (h1:∀ k,a+1≤k→k<i→κ (Nn l k)<κ (Nn l a)) (h2:∀ k,i≤k→k<b→κ (Nn l a)<κ (Nn l k)):Zil l a (i - 1)=Zp κ l a b:=by
 have e:=ZjU (κ:=κ) (y:=seg l (a+1) b) (x:=Nn l a) (k:=i - (a+1)) hy
  (by
   rw [ZdM ow,show a+1+(i - (a+1))=i by omega]
   intro z hz
   obtain ⟨q,q1,q2,rfl⟩:=(ZbW ow).1 hz
   exact h1 q q1 q2)
  (by
   rw [ZdC,show a+1+(i - (a+1))=i by omega]
   intro z hz
   obtain ⟨q,q1,q2,rfl⟩:=(ZbW hb).1 hz
   exact h2 q q1 q2)
 rw [ZdM ow,ZdC,show a+1+(i - (a+1))=i by omega,← ZeZ ow hb] at e
 have hd:l.drop i=seg l i b++l.drop b:=Zj6 hib
 unfold Zp Zil
 rw [← e,show i - 1+1=i by omega,hd]
 simp only [Ym,YO]
theorem Zgb {l:List α} {a i m:Nat} (hai:a≤i) (him:i≤m) (hm:m<l.length) (hy:ZY κ (seg l a m)) (h1:∀ k,a≤k→k<i→κ (Nn l k)<κ (Nn l m)) (h2:∀ k,i≤k→k<m→κ (Nn l m)<κ (Nn l k)):ZeL l i m=Zp κ l a (m+1):=by
 have e:=ZjZ (κ:=κ) (y:=seg l a m) (x:=Nn l m) (k:=i - a) hy
  (by
   rw [ZdM ow,show a+(i - a)=i by omega]
   intro z hz
   obtain ⟨q,q1,q2,rfl⟩:=(ZbW ow).1 hz
   exact h1 q q1 q2)
  (by
   rw [ZdC,show a+(i - a)=i by omega]
   intro z hz
   obtain ⟨q,q1,q2,rfl⟩:=(ZbW ow).1 hz
   exact h2 q q1 q2)
 rw [ZdM ow,ZdC,show a+(i - a)=i by omega,← ZjA ow hm] at e
 have ht:l.take i=l.take a++seg l a i:=by
  unfold seg
  have:=Y2 a (l.take i)
  rw [YaQ,YY hai] at this
  exact this.symm
 unfold Zp ZeL
 rw [← e,ht]
 simp only [Ym,YO]
theorem Zex {l:List α} (hu:Unl κ l) {i j:Nat} (hi:i<l.length) (hj:j<l.length) (hij:i≠j) (h:¬ κ (Nn l i)<κ (Nn l j)):κ (Nn l j)<κ (Nn l i):=by
 have hp:=Y4.1 hu
 rw [ZE hi,ZE hj] at *
 rcases Y5 i j with h1 | h1
 ·have:=hp i j hi hj h1;omega
 ·have:=hp j i hj hi ow;omega
end
theorem Zps (u v:TxD):((decide (u.id=v.id) && (u.done == v.done)) && decide (u.ops=v.ops))=decide (u=v):=by
 cases u;cases v
 rw [Yap]
 simp [and_assoc]
theorem ZoK (u v:Zr):(decide (u.key=v.key) && decide (u.txs=v.txs))=decide (u=v):=by
 cases u;cases v
 rw [Yap]
 simp
theorem ZnS (u v:ZS):(decide (u.txs=v.txs) && decide (u.orders=v.orders))=decide (u=v):=by
 cases u;cases v
 rw [Yap]
 simp
theorem Zn1 (u v:TxD):FnP prog 17 [.agg (rTx u),.agg (rTx v)] (.bool (decide (u=v))):=by
 refine FnP.mk func17 Z ntmps17 Z fun B a w F V hfr O=>Ya ?_
 refine Zb O (qx 101 r1 (qx 102 r1 qB)) V [4,3,2] [102,101,0] (fun _=>rfl) (fun _=>rfl) fun τ a w F O=>?_
 try dsimp only [RS.sub,SF.sub,CF.sub,csub,Anc.sub,List.map,zCF] at O
 generalize τ 2=v2,τ 3=v3 at O
 refine Za (Ya (rZ O (qg 0 101 r1 r1 (qa 101 r1 r1 (qg 0 102 r1 r1 (qa 102 r1 r1 (qf (o_eql .t .t) r2 qz (qR rr (qv 1 101 Z r2 r1 (qw 101 Z r2 r1 (qv 1 102 Z r2 r1 (qw 102 Z r2 r1 (qk Z (fun h=>Zof underlying4 (.w h) (.w h)) r3 qz (qf (ZT .t .t) r2 qz (qR rr (qv 2 101 Z r2 r1 (qw 101 Z r2 r1 (qv 2 102 Z r2 r1 (qw 102 Z r2 r1 (qk Z (fun h=>oP (Zmu u.ops v.ops) func59 (Args.two (.w h) (.w h))) r3 qz (qf (ZT .t .t) r2 qz (qO rr qZ)))))))))))))))))))) V [4] [0] fun O=>Yi ?_))
 refine ZP hfr O Z Z Z (.bool (Zps u v))
theorem ZiZ (u v:Zr):FnP prog 55 [.agg (ZB u),.agg (ZB v)] (.bool (decide (u=v))):=by
 refine FnP.mk func55 Z ntmps55 Z fun B a w F V hfr O=>Ya ?_
 refine Zb O (qx 101 r1 (qx 102 r1 qB)) V [4,3,2] [102,101,0] (fun _=>rfl) (fun _=>rfl) fun τ a w F O=>?_
 try dsimp only [RS.sub,SF.sub,CF.sub,csub,Anc.sub,List.map,zCF] at O
 generalize τ 2=v2,τ 3=v3 at O
 refine Za (Ya (rZ O (qg 0 101 r1 r1 (qa 101 r1 r1 (qg 0 102 r1 r1 (qa 102 r1 r1 (qf (o_eql .t .t) r2 qz (qR rr (qv 1 101 Z r2 r1 (qw 101 Z r2 r1 (qv 1 102 Z r2 r1 (qw 102 Z r2 r1 (qk Z (fun h=>oP (Zgg u.txs v.txs) func18 (Args.two (.w h) (.w h))) r3 qz (qf (ZT .t .t) r2 qz (qO rr qZ))))))))))))) V [4] [0] fun O=>Yi ?_))
 refine ZP hfr O Z Z Z (.bool (ZoK u v))
theorem PVs.lenAt {α:Type} {R:α→List PV} {l:List α} {v:Value} {w:World} {y:Ys} (h:(PV.sl R l).p v w y):l.length≤9223372036854775807:=by
 obtain ⟨_,cap,_,h1,h2,_⟩:=h
 unfold maxLen at h2
 omega
theorem Sat.lenHist {B:Zbo} {E:En} {a:Act} {w:World} {F:Fp} (h:Sat B E a w F) {i:Nat} {u:ZS} (hl:Go.Gm.look E.s i=some (SF.pv (PV.agg (Zs u)))):u.txs.length≤9223372036854775807∧u.orders.length≤9223372036854775807:=by
 obtain ⟨vs,_,hp⟩:=h.s i _ hl
 match vs,hp with
 | [x,y],hp=>exact ⟨PVs.lenAt hp.1.2,PVs.lenAt hp.2.1.2⟩
theorem ZgD (u v:ZS):FnP prog 13 [.agg (Zs u),.agg (Zs v)] (.bool (decide (u=v))):=by
 refine FnP.mk func13 Z ntmps13 Z fun B a w F V hfr O=>?_
 obtain ⟨hxl,hyl⟩:=Sat.lenHist O (i:=0) rfl
 refine Ya (Zb O (qx 101 r1 (qx 102 r1 qB)) V [4,3,2] [102,101,0] (fun _=>rfl) (fun _=>rfl) fun τ a w F O=>?_)
 try dsimp only [RS.sub,SF.sub,CF.sub,csub,Anc.sub,List.map,zCF] at O
 generalize τ 2=v2,τ 3=v3 at O
 refine Za (Ya (Ya (Zf O (qg 0 101 r1 r1 (qa 101 r1 r1 (qu Ybw r1 (qg 0 102 r1 r1 (qa 102 r1 r1 (qu Ybw r1 (qf (o_neq .t .t) r2 qz (qR rr (qv 1 101 Z r2 r1 (qw 101 Z r2 r1 (qk Z (fun h=>Zco Ybx (.w h)) r2 qz (qv 1 102 Z r2 r1 (qw 102 Z r2 r1 (qk Z (fun h=>Zco Ybx (.w h)) r2 qz (qk Z (fun h=>o_neq (.w h) (.w h)) r3 qz (qf (ZaQ .t .t) r2 qz qZ)))))))))))))))) V [22,4,3,2] [102,101,0] Z Z fun a w F O=>?_)))
 skip
 refine Za (Zd O Z (fun hc0=>?_) (fun hc0=>?_))
 ·have hg:false=decide (u=v):=by
    rw [Yab,Yh]
    intro h
    subst h
    simp at hc0
  refine Ya (rZ O qB V [4,3,2] [102,101,0] fun O=>(Yi (Zk ?_)))
  refine ZP hfr O Z Z Z (.bool hg)
 have hTl:u.txs.length=v.txs.length:=by simp at hc0;omega
 have hOl:u.orders.length=v.orders.length:=by simp at hc0;omega
 refine Yf (Za (Ya (Ya (rZ O (qg 0 101 r1 r1 (qa 101 r1 r1 (qu Ybw r1 (qJ qZ)))) V [26,25,4,3,2] [102,101,0] fun O=>Ye ?_))))
 obtain ⟨F,O⟩:=O.nM [26,25,3,2] [102,101,0]
 refine Zbx (σ:=Nat) (fun s=>(⟨[(2,.pv (.is v2)),(3,.pv (.is v3)),(25,.pv (.int .i64 u.txs.length)),(26,.pv (.int .i64 s))],[(0,frame B),(101,.pt (.val v2) 30 [.pv (.sl rTx u.txs),.pv (.sl ZB u.orders)]),(102,.pt (.val v3) 30 [.pv (.sl rTx v.txs),.pv (.sl ZB v.orders)])]⟩:En)) (fun s=>s≤u.txs.length ∧ ∀ j,j<s→Nn u.txs j=Nn v.txs j) (fun s=>u.txs.length - s) 0 O ⟨Yz _,fun j hj=>absurd hj (YR j)⟩ ?_
 clear O;intro i a w F hC O
 try dsimp only at hC
 try dsimp only at O
 obtain ⟨hi,hq⟩:=hC
 refine Ya (rZ O (qL r2) V [27,26,25,3,2] [102,101,0] fun O=>Ya ?_)
 refine Zd O Z (fun hc1=>?_) (fun hc1=>?_)
 ·have hil:i<u.txs.length:=by simp at hc1;omega
  refine Yf (Za (Ya (Ye (Ya (rZ O (qR rr (qO rr qZ)) V [26,25,5,3,2] [102,101,0] fun O=>Ya ?_)))))
  refine Zq O (qg 0 101 r1 r1 (qa 101 r1 r1 (qR rr (qy 3 Ybw r2 (qf (oR true 3 .t) r1 qz (qg 0 102 r1 r1 (qa 102 r1 r1 (qR rr (qy 3 Ybw r2 (qf (oR true 3 .t) r1 qz (qf (oP (Zn1 (Nn u.txs (i:Int).toNat) (Nn v.txs (i:Int).toNat)) func17 (Args.two (.pagg .t) (.pagg .t))) r2 qz (qf (ZaA .t) r1 qz qZ)))))))))))) V [40,26,25,3,2] [102,101,0] Z Z fun a w F O=>?_
  try dsimp only [List.map,xD,xE,xT,xU,ldSF] at O
  refine Za (Zd O Z (fun hc2=>?_) (fun hc2=>?_))
  ·have hg:false=decide (u=v):=by
     rw [Yab,Yh]
     intro h
     subst h
     simp at hc2
   refine Ya (rZ O qB V [26,25,4,3,2] [102,101,0] fun O=>(Yi (ZC (Zk (Zk (ZC (Zk ?_)))))))
   refine ZP hfr O Z Z Z (.bool hg)
  rw [Yg] at hc2
  have hqi:Nn u.txs i=Nn v.txs i:=by simpa using hc2
  refine Yf (Zm (Za (rZ O (qp r1 (qR rr qZ)) V [26,25,3,2] [102,101,0] fun O=>?_)))
  replace O:=O.ent (i:=26) (s':=.pv (.int .i64 ((i+1:Nat):Int))) Z (.int (Zl ow))
  obtain ⟨F,O⟩:=O.nM [26,25,3,2] [102,101,0]
  exact ⟨i+1,F,⟨by omega,fun j hj=>by rcases YG (YN hj) with h | h;exact hq j h;rw [h];exact hqi⟩,O,by omega⟩
 have hT:u.txs=v.txs:=ZaD hTl fun j hj=>hq j (by simp at hc1;omega)
 clear hq hi
 refine Yr (Zj (Zj (Zv (Za (Ya (Ya (rZ O (qg 1 101 r1 r1 (qa 101 r1 r1 (qu Ybx r1 (qJ qZ)))) V [45,44,3,2] [102,101,0] fun O=>Ye ?_)))))))
 obtain ⟨F,O⟩:=O.nM [45,44,3,2] [102,101,0]
 refine Zbx (σ:=Nat) (fun s=>(⟨[(2,.pv (.is v2)),(3,.pv (.is v3)),(44,.pv (.int .i64 u.orders.length)),(45,.pv (.int .i64 s))],[(0,frame B),(101,.pt (.val v2) 30 [.pv (.sl rTx u.txs),.pv (.sl ZB u.orders)]),(102,.pt (.val v3) 30 [.pv (.sl rTx v.txs),.pv (.sl ZB v.orders)])]⟩:En)) (fun s=>s≤u.orders.length ∧ ∀ j,j<s→Nn u.orders j=Nn v.orders j) (fun s=>u.orders.length - s) 0 O ⟨Yz _,fun j hj=>absurd hj (YR j)⟩ ?_
 clear O;intro i a w F hC O
 try dsimp only at hC
 try dsimp only at O
 obtain ⟨hi,hq⟩:=hC
 refine Ya (rZ O (qL r2) V [46,45,44,3,2] [102,101,0] fun O=>Ya ?_)
 refine Zd O Z (fun hc3=>?_) (fun hc3=>?_)
 ·have hil:i<u.orders.length:=by simp at hc3;omega
  refine Yf (Za (Ya (Ye (Ya (Zf O (qR rr (qO rr qZ)) V [45,44,6,3,2] [102,101,0] Z Z fun a w F O=>?_)))))
  skip
  refine Za (Ya (Zq O (qg 1 101 r1 r1 (qa 101 r1 r1 (qR rr (qy 2 Ybx r2 (qf (oR true 2 .t) r1 qz (qg 1 102 r1 r1 (qa 102 r1 r1 (qR rr (qy 2 Ybx r2 (qf (oR true 2 .t) r1 qz (qf (oP (ZiZ (Nn u.orders (i:Int).toNat) (Nn v.orders (i:Int).toNat)) func55 (Args.two (.pagg .t) (.pagg .t))) r2 qz (qf (ZaA .t) r1 qz qZ)))))))))))) V [59,45,44,3,2] [102,101,0] Z Z fun a w F O=>?_))
  try dsimp only [List.map,xD,xE,xT,xU,ldSF] at O
  refine Za (Zd O Z (fun hc4=>?_) (fun hc4=>?_))
  ·have hg:false=decide (u=v):=by
     rw [Yab,Yh]
     intro h
     subst h
     simp at hc4
   refine Ya (rZ O qB V [45,44,4,3,2] [102,101,0] fun O=>(Yi (ZC (Zk (Zk (ZC (Zk ?_)))))))
   refine ZP hfr O Z Z Z (.bool hg)
  rw [Yg] at hc4
  have hqi:Nn u.orders i=Nn v.orders i:=by simpa using hc4
  refine Yf (Zm (Za (rZ O (qp r1 (qR rr qZ)) V [45,44,3,2] [102,101,0] fun O=>?_)))
  replace O:=O.ent (i:=45) (s':=.pv (.int .i64 ((i+1:Nat):Int))) Z (.int (Zl ow))
  obtain ⟨F,O⟩:=O.nM [45,44,3,2] [102,101,0]
  exact ⟨i+1,F,⟨by omega,fun j hj=>by rcases YG (YN hj) with h | h;exact hq j h;rw [h];exact hqi⟩,O,by omega⟩
 have hO:u.orders=v.orders:=ZaD hOl fun j hj=>hq j (by simp at hc3;omega)
 have hg:true=decide (u=v):=by
   rw [← ZnS,hT,hO]
   simp
 refine Yr (Zj (Zj (Zv (Za (Ya (rZ O qB V [4] [0] fun O=>Yi ?_))))))
 refine ZP hfr O Z Z Z (.bool hg)
theorem Zk0 (x:List OpD) (hx:x.length≤1000000):FnP prog 86 [.sl rOp x] (.sl rOp x):=by
 refine FnP.mk func86 Z ntmps86 Z fun B a w F V hfr O=>Ya ?_
 refine rZ O (qC qZ) V [2,0] [0] fun O=>(Ya (Ya ?_))
 refine Zf O (qR rr (qf (Zcf Ybz .t) r1 qz qZ)) V [4,2,0] [0] Z Z fun a w F O=>?_
 obtain ⟨β4,hβ4,O⟩:=O.pickBool 4 rfl
 obtain ⟨F,O⟩:=O.nM [4,2,0] [0]
 refine Za (Zd O Z (fun hc0=>?_) (fun hc0=>?_))
 ·refine Ya (rZ O (qC qZ) V [2,0] [0] fun O=>(Yi (Zk ?_)))
  replace O:=O.ent (i:=2) (s':=.pv (.sl rOp x)) Z (by rw [hβ4 (by simpa using hc0)];exact .nilSl)
  refine ZP hfr O Z Z Z .refl
 refine Yf (Za (Ya (Zb O (qf (Zbv (R:=rOp) (sz:=4) 101 Ybz kr) trivial qz (qR rr (qf (Z1 (sz:=4) (bs:=32) 101 (.mk' Ybz kr kr) (by intro x;rfl) .same (.sl .t) (by simp only [Yx];omega) (by decide)) ⟨rfl,rfl,tv⟩ ⟨rfl,tv⟩ (qO rr qZ)))) V [2] [101,0] (fun _=>rfl) (fun _=>rfl) fun τ a w F O=>?_)))
 try dsimp only [RS.sub,SF.sub,CF.sub,csub,Anc.sub,List.map,Ze,xL,xM,Nat.reduceAdd,xD,xE,xT,xU,xC,xN,zCF] at O
 generalize τ 7=v7 at O
 refine Za (Yi ?_)
 obtain ⟨F,O⟩:=O.give 101 2 Z rfl
 refine ZP hfr O Z Z Z .refl
theorem ZiE (x:List Int) (hx:x.length≤1000000):FnP prog 91 [.sl ZG x] (.sl ZG x):=by
 refine FnP.mk func91 Z ntmps91 Z fun B a w F V hfr O=>Ya ?_
 refine rZ O (qC qZ) V [2,0] [0] fun O=>(Ya (Ya ?_))
 refine Zf O (qR rr (qf (Zcf Yby .t) r1 qz qZ)) V [4,2,0] [0] Z Z fun a w F O=>?_
 obtain ⟨β4,hβ4,O⟩:=O.pickBool 4 rfl
 obtain ⟨F,O⟩:=O.nM [4,2,0] [0]
 refine Za (Zd O Z (fun hc0=>?_) (fun hc0=>?_))
 ·refine Ya (rZ O (qC qZ) V [2,0] [0] fun O=>(Yi (Zk ?_)))
  replace O:=O.ent (i:=2) (s':=.pv (.sl ZG x)) Z (by rw [hβ4 (by simpa using hc0)];exact .nilSl)
  refine ZP hfr O Z Z Z .refl
 refine Yf (Za (Ya (Zb O (qf (Zbv (R:=ZG) (sz:=1) 101 Yby kr) trivial qz (qR rr (qf (Z1 (sz:=1) (bs:=8) 101 (.mk' Yby kr kr) (by intro x;rfl) .same (.sl .t) (by simp only [Yx];omega) (by decide)) ⟨rfl,rfl,tv⟩ ⟨rfl,tv⟩ (qO rr qZ)))) V [2] [101,0] (fun _=>rfl) (fun _=>rfl) fun τ a w F O=>?_)))
 try dsimp only [RS.sub,SF.sub,CF.sub,csub,Anc.sub,List.map,Ze,xL,xM,Nat.reduceAdd,xD,xE,xT,xU,xC,xN,zCF] at O
 generalize τ 7=v7 at O
 refine Za (Yi ?_)
 obtain ⟨F,O⟩:=O.give 101 2 Z rfl
 refine ZP hfr O Z Z Z .refl
theorem Zqo (x:List TxD) (hx:x.length≤1000000) (hx2:∀ t ∈ x,t.ops.length≤1000000):FnP prog 115 [.sl rTx x] (.sl rTx x):=by
 refine FnP.mk func115 Z ntmps115 Z fun B a w F V hfr O=>Ya ?_
 refine rZ O (qC qZ) V [2,0] [0] fun O=>Ya ?_
 refine rZ O (qC qZ) V [3,2,0] [0] fun O=>(Ya (Ya ?_))
 refine rZ O (qR rr (qu Ybw r1 (qJ qZ))) V [8,7,6,3,2] [0] fun O=>Ye ?_
 replace O:=O.fresh 50 rfl
 replace O:=O.turn 50 Z (ZaI (T:=36) (sz:=3) (R:=rTx))
 obtain ⟨F,O⟩:=O.nM [8,7,6,3] [50,0]
 refine Zbx (σ:=(Nat×Value)) (fun s=>(⟨[(3,.pv (.is s.2)),(6,.pv (.sl rTx x)),(7,.pv (.int .i64 x.length)),(8,.pv (.int .i64 s.1))],[(0,frame B),(50,RS.ob (.val s.2) (ZJ 36 3 rTx (x.take s.1)))]⟩:En)) (fun s=>s.1≤x.length) (fun s=>x.length - s.1) (0,.slice none 0 0) O (Yz _) ?_
 clear O;intro s a w F hC O
 obtain ⟨i,v⟩:=s
 try dsimp only at hC
 try dsimp only at O
 have hi:i≤x.length:=hC
 refine Ya (rZ O (qL r2) V [9,8,7,6,3] [50,0] fun O=>Ya ?_)
 refine Zd O Z (fun hc0=>?_) (fun hc0=>?_)
 ·have hil:i<x.length:=by simp at hc0;omega
  refine Yf (Za (Ya (Ye (Ya (Zb O (qy 3 Ybw r2 (qf (oR true 3 .t) r1 qz (qf (oH [.int .i64 0,.bool false,.slice none 0 0] 101) trivial qz (qS 3 101 r2 r1 qZ)))) V [8,7,6,5,3] [101,50,0] (fun _=>rfl) (fun _=>rfl) fun τ a w F O=>?_)))))
  try dsimp only [RS.sub,SF.sub,CF.sub,csub,Anc.sub,List.map,Ze,xL,xM,Nat.reduceAdd,xD,xE,xT,xU,xC,xN,zCF,ldSF] at O
  generalize τ 5=v5 at O
  rw [Yg] at O
  have hcl:=hx2 _ (Z8 hil)
  refine Za (Ya (rZ O (qg 2 101 r1 r1 (qa 101 r1 r1 (qf (oP (Zk0 (Nn x i).ops hcl) func86 (Args.one .t)) r1 qz (qg 2 101 r1 r1 (qf (Zc2 101 .adr .t Zcc kr kr) r2 r1 qZ))))) V [8,7,6,5,3] [101,50,0] fun O=>?_))
  refine Zb O (qR rr (qe 3 101 r1 r1 (qf (Zy (sz:=3) (zs:=[.int .i64 0,.bool false,.slice none 0 0]) (r:=[(0,.tmp 17)]) (l:=[_,_,_]) Ybw kr kr kr kr Z Z (.agg Z .t kr kr .nil) Z) r1 qz (qf (Z1 (sz:=3) (bs:=40) 50 (.mk' Ybw kr kr) (by intro x;rfl) .is (.arr (l':=[Nn x i]) .t) (by simp only [Yp,Yx,Yk];omega) (by decide)) ⟨rfl,rfl,tv⟩ ⟨rfl,tv⟩ (qO rr qZ))))) V [8,7,6,3] [50,0] (fun _=>rfl) (fun _=>rfl) fun τ a w F O=>?_
  try dsimp only [RS.sub,SF.sub,CF.sub,csub,Anc.sub,List.map,Ze,xL,xM,Nat.reduceAdd,xD,xE,xT,xU,xC,xN,zCF,ldSF] at O
  generalize τ 19=v19 at O
  refine Zm (Za (rZ O (qp r1 (qR rr qZ)) V [8,7,6,3] [50,0] fun O=>?_))
  rw [Ze5 hil] at O
  replace O:=O.ent (i:=8) (s':=.pv (.int .i64 ((i+1:Nat):Int))) Z (.int (Zl ow))
  obtain ⟨F,O⟩:=O.nM [8,7,6,3] [50,0]
  exact ⟨(i+1,v19),F,by dsimp only;omega,O,by dsimp only;omega⟩
 have hil:i=x.length:=by simp at hc0;omega
 rw [show x.take i=x by rw [hil,YM]] at O
 refine Yr (Zj (Zj (Zv (Za (Ya (rZ O (qR rr (qO rr qZ)) V [2] [50,0] fun O=>Yi ?_))))))
 obtain ⟨F,O⟩:=O.give 50 2 Z rfl
 refine ZP hfr O Z Z Z .refl
theorem ZnY (x:List Zr) (hx:x.length≤1000000) (hx2:∀ t ∈ x,t.txs.length≤1000000):FnP prog 116 [.sl ZB x] (.sl ZB x):=by
 refine FnP.mk func116 Z ntmps116 Z fun B a w F V hfr O=>Ya ?_
 refine rZ O (qC qZ) V [2,0] [0] fun O=>Ya ?_
 refine rZ O (qC qZ) V [3,2,0] [0] fun O=>(Ya (Ya ?_))
 refine rZ O (qR rr (qu Ybx r1 (qJ qZ))) V [8,7,6,3,2] [0] fun O=>Ye ?_
 replace O:=O.fresh 50 rfl
 replace O:=O.turn 50 Z (ZaI (T:=39) (sz:=2) (R:=ZB))
 obtain ⟨F,O⟩:=O.nM [8,7,6,3] [50,0]
 refine Zbx (σ:=(Nat×Value)) (fun s=>(⟨[(3,.pv (.is s.2)),(6,.pv (.sl ZB x)),(7,.pv (.int .i64 x.length)),(8,.pv (.int .i64 s.1))],[(0,frame B),(50,RS.ob (.val s.2) (ZJ 39 2 ZB (x.take s.1)))]⟩:En)) (fun s=>s.1≤x.length) (fun s=>x.length - s.1) (0,.slice none 0 0) O (Yz _) ?_
 clear O;intro s a w F hC O
 obtain ⟨i,v⟩:=s
 try dsimp only at hC
 try dsimp only at O
 have hi:i≤x.length:=hC
 refine Ya (rZ O (qL r2) V [9,8,7,6,3] [50,0] fun O=>Ya ?_)
 refine Zd O Z (fun hc0=>?_) (fun hc0=>?_)
 ·have hil:i<x.length:=by simp at hc0;omega
  refine Yf (Za (Ya (Ye (Ya (Zb O (qy 2 Ybx r2 (qf (oR true 2 .t) r1 qz (qf (oH [.int .i64 0,.slice none 0 0] 101) trivial qz (qS 2 101 r2 r1 qZ)))) V [8,7,6,5,3] [101,50,0] (fun _=>rfl) (fun _=>rfl) fun τ a w F O=>?_)))))
  try dsimp only [RS.sub,SF.sub,CF.sub,csub,Anc.sub,List.map,Ze,xL,xM,Nat.reduceAdd,xD,xE,xT,xU,xC,xN,zCF,ldSF] at O
  generalize τ 5=v5 at O
  rw [Yg] at O
  have hcl:=hx2 _ (Z8 hil)
  refine Za (Zau O (qR rr (qg 0 101 r1 r1 (qa 101 r1 r1 (qg 1 101 r1 r1 (qa 101 r1 r1 (qf (oP (ZiE (Nn x i).txs hcl) func91 (Args.one .t)) r1 qz (qf (oB [(0,.tmp 14),(1,.tmp 17)] [.int .i64 0,.slice none 0 0] [(0,1),(1,1)] (.one Z .t one_int kr (.one Z .t Zcc kr .nil))) r2 qz (qf (Zy (sz:=2) (zs:=[.int .i64 0,.slice none 0 0]) (r:=[(0,.tmp 18)]) (l:=[_,_]) Ybx kr kr kr kr Z Z (.agg Z .t kr kr .nil) Z) r1 qz (qf (Z1 (sz:=2) (bs:=32) 50 (.mk' Ybx kr kr) (by intro x;rfl) .is (.arr (l':=[Nn x i]) .t) (by simp only [Yp,Yx,Yk];omega) (by decide)) ⟨rfl,rfl,tv⟩ ⟨rfl,tv⟩ (qO rr qZ)))))))))) V [8,7,6,3] [50,0] (fun _=>rfl) (fun _=>rfl) fun τ a w F O=>?_)
  try dsimp only [RS.sub,SF.sub,CF.sub,csub,Anc.sub,List.map,Ze,xL,xM,Nat.reduceAdd,xD,xE,xT,xU,xC,xN,zCF,ldSF] at O
  generalize τ 20=v20 at O
  refine Zm (Za (rZ O (qp r1 (qR rr qZ)) V [8,7,6,3] [50,0] fun O=>?_))
  rw [Ze5 hil] at O
  replace O:=O.ent (i:=8) (s':=.pv (.int .i64 ((i+1:Nat):Int))) Z (.int (Zl ow))
  obtain ⟨F,O⟩:=O.nM [8,7,6,3] [50,0]
  exact ⟨(i+1,v20),F,by dsimp only;omega,O,by dsimp only;omega⟩
 have hil:i=x.length:=by simp at hc0;omega
 rw [show x.take i=x by rw [hil,YM]] at O
 refine Yr (Zj (Zj (Zv (Za (Ya (rZ O (qR rr (qO rr qZ)) V [2] [50,0] fun O=>Yi ?_))))))
 obtain ⟨F,O⟩:=O.give 50 2 Z rfl
 refine ZP hfr O Z Z Z .refl
def Zk9 (l:List TxD):Prop:=l.length≤1000000 ∧ ∀ t ∈ l,t.ops.length≤1000000
def ZgH (l:List Zr):Prop:=l.length≤1000000 ∧ ∀ t ∈ l,t.txs.length≤1000000
structure DOk (d:ZK):Prop where
 was:Zk9 d.was
 now:Zk9 d.now
 old:ZgH d.old
 new:ZgH d.new
def inv (d:ZK):ZK:=⟨d.now,d.was,d.new,d.old⟩
section
variable {α:Type} {κ:α→Int}
def ZO (κ:α→Int) (l:List α) (n:Int):Option α:=l.find? fun x=>decide (κ x=n)
theorem Zjt [Inhabited α] {l:List α} {n:Int} {i:Nat} (hi:i<l.length) (h:κ (Nn l i)=n) (hq:∀ k,k<i→κ (Nn l k)≠n):ZO κ l n=some (Nn l i):=by
 unfold ZO
 rw [List.find?_eq_some_iff_getElem]
 refine ⟨by simpa using h,i,hi,(ZE hi).symm,fun j hj=>?_⟩
 have:=hq j hj
 rw [ZE ow] at this
 simpa using this
theorem Zgh [Inhabited α] {l:List α} {n:Int} (hq:∀ k,k<l.length→κ (Nn l k)≠n):ZO κ l n=none:=by
 unfold ZO
 rw [List.find?_eq_none]
 intro x hx
 obtain ⟨k,hk,e⟩:=Y6 hx
 have:=hq k hk
 rw [ZE hk,e] at this
 simpa using this
theorem Zd6 {l:List α} {n:Int} {x:α} (h:ZO κ l n=some x):x ∈ l∧κ x=n:=⟨List.mem_of_find?_eq_some h,by have:=List.find?_some h;simpa using this⟩
theorem Zi8 {l:List α} (h:Unl κ l) {x y:α} (hx:x ∈ l) (hy:y ∈ l) (e:κ x=κ y):x=y:=by
 obtain ⟨i,hi,rfl⟩:=Y6 hx
 obtain ⟨j,hj,rfl⟩:=Y6 hy
 have hp:=Y4.1 h
 rcases Ybf i j with h1 | h1 | h1
 ·exact absurd e (hp i j hi hj h1)
 ·subst h1;rfl
 ·exact absurd e.symm (hp j i hj hi h1)
theorem Zk7 {l:List α} (h:Unl κ l) {x:α} (hx:x ∈ l):ZO κ l (κ x)=some x:=by
 cases e:ZO κ l (κ x) with
 | none=>
  unfold ZO at e
  rw [List.find?_eq_none] at e
  exact absurd (by simp) (e x hx)
 | some y=>rw [Zi8 h (Zd6 e).1 hx (Zd6 e).2]
theorem ZcX {l:List α} {n:Int} : (ZO κ l n).isSome=true ↔ ∃ x ∈ l,κ x=n:=by
 unfold ZO
 rw [List.find?_isSome]
 simp
theorem Zkf {l:List α} {n:Int} : (ZO κ l n).isNone=true ↔ ∀ x ∈ l,κ x≠n:=by
 unfold ZO
 rw [Option.isNone_iff_eq_none,List.find?_eq_none]
 simp
theorem ZeQ [Inhabited α] {l:List α} (h:∀ i,i+1<l.length→κ (Nn l i)<κ (Nn l (i+1))):ZY κ l:=by
 have hk:∀ d i,i+d+1<l.length→κ (Nn l i)<κ (Nn l (i+d+1)):=by
  intro d
  induction d with
  | zero=>exact h
  | succ d ih=>intro i hi;exact YaW (ih i ow) (h (i+d+1) hi)
 refine Y4.2 fun i j hi hj hij=>?_
 have:=hk (j - i - 1) i ow
 rw [show i+(j - i - 1)+1=j by omega,ZE hi,ZE hj] at this
 exact this
theorem ZjQ [Inhabited α] {l:List α} (h:ZY κ l) {i:Nat} (hi:i+1<l.length):κ (Nn l i)<κ (Nn l (i+1)):=by
 rw [ZE ow,ZE hi]
 exact Y4.1 h i (i+1) ow hi ow
def Zeo (κ:α→Int) (l was now:List α):List α:=Z7 κ ((l.filter fun x=>(ZO κ was (κ x)).isNone)++now)
theorem ZeX {l was now:List α} {x:α} : x ∈ Zeo κ l was now ↔ (x ∈ l ∧ ∀ y ∈ was,κ y≠κ x)∨x ∈ now:=by
 unfold Zeo
 rw [(Zan _).mem_iff,YJ,Y3,Zkf]
theorem Zj1 {l was now:List α} : (Zeo κ l was now).length≤l.length+now.length:=by
 unfold Zeo
 rw [ZbZ,Yb]
 have:=Yaa (fun x=>(ZO κ was (κ x)).isNone) l
 omega
variable [DecidableEq α]
def Zay (κ:α→Int) (a b:List α):List α:=a.filter fun x=>decide (ZO κ b (κ x)≠some x)
theorem Zis (a b:List α):(Zay κ a b).length≤a.length:=Yaa _ _
theorem ZlW {a b:List α} {x:α} (h:x ∈ Zay κ a b):x ∈ a:=(Y3.1 h).1
theorem Zb2 {a b:List α} (hb:Unl κ b) {x:α} : x ∈ Zay κ a b ↔ x ∈ a∧x ∉ b:=by
 unfold Zay
 rw [Y3]
 refine and_congr_right fun _=>?_
 rw [Yj]
 exact not_congr ⟨fun e=>(Zd6 e).1,fun e=>Zk7 hb e⟩
def ZaV (κ:α→Int) (l was now:List α):Bool:=decide (Zay κ was l = []) && now.all fun x=>!((ZO κ l (κ x)).isSome && !(ZO κ was (κ x)).isSome)
theorem ZcB {a b:List α} (h:ZY κ a):ZY κ (Zay κ a b):=h.sublist List.filter_sublist
theorem ZfP {a b:List α} (ha:ZY κ a) (hb:ZY κ b):ZaV κ a (Zay κ a b) (Zay κ b a)=true:=by
 unfold ZaV
 rw [Yu,Yj,Yas]
 refine ⟨List.eq_nil_iff_forall_not_mem.2 fun x hx=>?_,fun x hx=>?_⟩
 ·have h1:=(Zb2 ha.unl).1 hx
  exact h1.2 (ZlW h1.1)
 ·have h1:=(Zb2 ha.unl).1 hx
  cases e:(ZO κ a (κ x)).isSome with
  | false=>rfl
  | true=>
   obtain ⟨y,hy,ey⟩:=ZcX.1 e
   have:(ZO κ (Zay κ a b) (κ x)).isSome=true:=ZcX.2 ⟨y,(Zb2 hb.unl).2 ⟨hy,fun h2=>h1.2 (by rw [← Zi8 hb.unl h2 h1.1 ey];exact hy)⟩,ey⟩
   rw [this];rfl
theorem Zhk {l was now:List α} (hl:Unl κ l) (hn:Unl κ now) (hf:ZaV κ l was now=true):Unl κ ((l.filter fun x=>(ZO κ was (κ x)).isNone)++now):=by
 unfold ZaV at hf
 rw [Yu,Yj,Yas] at hf
 refine Y1.2 ⟨hl.sublist List.filter_sublist,hn,fun x hx y hy e=>?_⟩
 have h1:=Y3.1 hx
 have h2:=hf.2 y hy
 have h3:(ZO κ l (κ y)).isSome=true:=ZcX.2 ⟨x,h1.1,e⟩
 have h4:(ZO κ was (κ y)).isSome=false:=by
  cases e2:(ZO κ was (κ y)).isSome with
  | false=>rfl
  | true=>
   obtain ⟨z,hz,ez⟩:=ZcX.1 e2
   exact absurd (ez.trans e.symm) (Zkf.1 h1.2 z hz)
 rw [h3,h4] at h2
 cases h2
theorem ZhA {l was now:List α} (hl:Unl κ l) (hn:Unl κ now) (hf:ZaV κ l was now=true):ZY κ (Zeo κ l was now):=ZaO (Zhk hl hn hf)
theorem ZhG {a b:List α} (ha:ZY κ a) (hb:ZY κ b):Zeo κ a (Zay κ a b) (Zay κ b a)=b:=by
 refine Zd5 (ZhA ha.unl (ZcB hb).unl (ZfP ha hb)) hb fun x=>?_
 rw [ZeX,Zb2 ha.unl]
 constructor
 ·rintro (⟨h1,h2⟩ | ⟨h1,_⟩)
  ·refine YaA fun h3=>h2 x ((Zb2 hb.unl).2 ⟨h1,h3⟩) rfl
  ·exact h1
 ·intro h1
  by_cases h2:x ∈ a
  ·exact .inl ⟨h2,fun y hy e=>by
   have h3:=(Zb2 hb.unl).1 hy
   exact h3.2 (by rw [Zi8 ha.unl h3.1 h2 e];exact h1)⟩
  ·exact .inr ⟨h1,h2⟩
end
def ZcH (d:ZK):Prop:=ZY TxD.id d.was∧ZY TxD.id d.now∧ZY Zr.key d.old∧ZY Zr.key d.new
instance (d:ZK):Decidable (ZcH d):=by unfold ZcH;exact inferInstance
def noD:ZK:=⟨[],[],[],[]⟩
def noH:ZS:=⟨[],[]⟩
def ofD (h g:ZS):ZK×Int:=if Zat h∧Zat g then (⟨Zay TxD.id h.txs g.txs,Zay TxD.id g.txs h.txs,Zay Zr.key h.orders g.orders,Zay Zr.key g.orders h.orders⟩,0) else (noD,5)
def ZfA (h:ZS) (d:ZK):Bool:=ZaV TxD.id h.txs d.was d.now && ZaV Zr.key h.orders d.old d.new
def Zcd (h:ZS) (d:ZK):ZS:=⟨Zeo TxD.id h.txs d.was d.now,Zeo Zr.key h.orders d.old d.new⟩
def ZN (h:ZS) (d:ZK):ZS×Int:=if ¬ (Zat h∧ZcH d) then (noH,5) else if ZfA h d=false then (noH,17) else if Zat (Zcd h d) then (Zcd h d,0) else (noH,8)
theorem Zat.rise {h:ZS} (hr:Zat h):ZY TxD.id h.txs∧ZY Zr.key h.orders:=by
 refine ⟨ZeQ fun i hi=>?_,ZeQ fun i hi=>?_⟩
 ·have:=(hr.2.1 (i+1) hi).1 ow
  simpa using this
 ·have:=(((Zhe h).2 hr.2.2).2 (i+1) hi).1 ow
  simpa using this
theorem Zg1 {h g:ZS} (h1:Zat h) (h2:Zat g):ZN h (ofD h g).1=(g,0):=by
 have r1:=h1.rise
 have r2:=h2.rise
 have hD:ZcH (ofD h g).1:=by unfold ofD;rw [Yd ⟨h1,h2⟩];exact ⟨ZcB r1.1,ZcB r2.1,ZcB r1.2,ZcB r2.2⟩
 have hF:ZfA h (ofD h g).1=true:=by unfold ofD ZfA;rw [Yd ⟨h1,h2⟩];dsimp only;rw [ZfP r1.1 r2.1,ZfP r1.2 r2.2];rfl
 have hT:Zcd h (ofD h g).1=g:=by unfold ofD Zcd;rw [Yd ⟨h1,h2⟩];dsimp only;rw [ZhG r1.1 r2.1,ZhG r1.2 r2.2]
 unfold ZN
 rw [Yc (by simp [h1,hD]),hF,Yc (by simp),hT,Yd h2]
theorem ZnU (x y:List OpD):FnP prog 165 [.sl rOp x,.sl rOp y] (.bool (decide (x=y))):=by
 refine FnP.mk func165 Z ntmps165 Z fun B a w F V hfr O=>?_
 have hxl:=Sat.lenSl O (i:=0) rfl
 refine Ya (rZ O qB V [4,1,0] [0] fun O=>(Ya (Ya ?_)))
 refine rZ O (qR rr (qu Ybz r1 (qR rr (qu Ybz r1 (qf (o_neq .t .t) r2 qz qZ))))) V [10,4,1,0] [0] fun O=>?_
 refine Zd O Z (fun hc0=>?_) (fun hc0=>?_)
 ·have hg:false=decide (x=y):=by
    rw [Yab,Yh]
    intro h
    subst h
    simp at hc0
  refine Ya (rZ O qB V [4,1,0] [0] fun O=>(Yi (Zk ?_)))
  refine ZP hfr O Z Z Z (.bool hg)
 have hl:x.length=y.length:=by simp at hc0;omega
 refine Yf (Za (Ya (Ya (rZ O (qR rr (qu Ybz r1 (qJ qZ))) V [13,12,4,1,0] [0] fun O=>Ye ?_))))
 obtain ⟨F,O⟩:=O.nM [13,12,1,0] [0]
 refine Zbx (σ:=Nat) (fun s=>(⟨[(0,.pv (.sl rOp x)),(1,.pv (.sl rOp y)),(12,.pv (.int .i64 x.length)),(13,.pv (.int .i64 s))],[(0,frame B)]⟩:En)) (fun s=>s≤x.length ∧ ∀ j,j<s→Nn x j=Nn y j) (fun s=>x.length - s) 0 O ⟨Yz _,fun j hj=>absurd hj (YR j)⟩ ?_
 clear O;intro i a w F hC O
 try dsimp only at hC
 try dsimp only at O
 obtain ⟨hi,hq⟩:=hC
 refine Ya (rZ O (qL r2) V [14,13,12,1,0] [0] fun O=>Ya ?_)
 refine Zd O Z (fun hc1=>?_) (fun hc1=>?_)
 ·have hil:i<x.length:=by simp at hc1;omega
  refine Yf (Za (Ya (Ye (Ya (rZ O (qR rr (qO rr qZ)) V [13,12,5,1,0] [0] fun O=>Ya ?_)))))
  refine Zq O (qR rr (qR rr (qy 4 Ybz r2 (qf (oR true 4 .t) r1 qz (qR rr (qR rr (qy 4 Ybz r2 (qf (oR true 4 .t) r1 qz (qf (Zm6 (ks:=[false,true,true,true]) kr .t .t (.bool (.int (.int (.int .nil))))) r2 qz qZ))))))))) V [24,13,12,1,0] [0] Z Z fun a w F O=>?_
  try dsimp only [List.map,xD,xE,xT,xU,ldSF] at O
  refine Za (Zd O Z (fun hc2=>?_) (fun hc2=>?_))
  ·have hg:false=decide (x=y):=by
     rw [Yab,Yh]
     intro h
     subst h
     simp at hc2
   refine Ya (rZ O qB V [13,12,4,1,0] [0] fun O=>(Yi (ZC (Zk (Zk (ZC (Zk ?_)))))))
   refine ZP hfr O Z Z Z (.bool hg)
  rw [Yg] at hc2
  have hqi:Nn x i=Nn y i:=Zou hc2
  refine Yf (Zm (Za (rZ O (qp r1 (qR rr qZ)) V [13,12,1,0] [0] fun O=>?_)))
  replace O:=O.ent (i:=13) (s':=.pv (.int .i64 ((i+1:Nat):Int))) Z (.int (Zl ow))
  obtain ⟨F,O⟩:=O.nM [13,12,1,0] [0]
  exact ⟨i+1,F,⟨by omega,fun j hj=>by rcases YG (YN hj) with h | h;exact hq j h;rw [h];exact hqi⟩,O,by omega⟩
 have hg:true=decide (x=y):=by
   rw [Yab,Yj]
   exact ZaD hl fun j hj=>hq j (by simp at hc1;omega)
 refine Yr (Zj (Zj (Zv (Za (Ya (rZ O qB V [4] [0] fun O=>Yi ?_))))))
 refine ZP hfr O Z Z Z (.bool hg)
theorem Zpn (u v:TxD):((decide (u.id=v.id) && (u.done == v.done)) && decide (u.ops=v.ops))=decide (u=v):=by
 cases u;cases v
 rw [Yap]
 simp [and_assoc]
theorem Zn3 (x y:List OpD):FnP prog 101 [.sl rOp x,.sl rOp y] (.bool (decide (x=y))):=by
 refine FnP.mk func101 Z ntmps101 Z fun B a w F V hfr O=>Ya ?_
 refine rZ O qB V [4,1,0] [0] fun O=>Ya ?_
 refine rZ O (qR rr (qR rr (qf (oP (ZnU x y) func165 (Args.two .t .t)) r2 qz (qO rr qZ)))) V [4] [0] fun O=>Yi ?_
 refine ZP hfr O Z Z Z .refl
theorem Zob (u v:TxD):FnP prog 42 [.agg (rTx u),.agg (rTx v)] (.bool (decide (u=v))):=by
 refine FnP.mk func42 Z ntmps42 Z fun B a w F V hfr O=>Ya ?_
 refine Zb O (qx 101 r1 (qx 102 r1 qB)) V [4,3,2] [102,101,0] (fun _=>rfl) (fun _=>rfl) fun τ a w F O=>?_
 try dsimp only [RS.sub,SF.sub,CF.sub,csub,Anc.sub,List.map,zCF,rTx,rOp] at O
 generalize τ 2=v2,τ 3=v3 at O
 refine Za (Ya (rZ O (qg 0 101 r1 r1 (qa 101 r1 r1 (qg 0 102 r1 r1 (qa 102 r1 r1 (qf (o_eql .t .t) r2 qz (qR rr (qv 1 101 Z r2 r1 (qw 101 Z r2 r1 (qv 1 102 Z r2 r1 (qw 102 Z r2 r1 (qk Z (fun h=>Zof underlying4 (.w h) (.w h)) r3 qz (qf (ZT .t .t) r2 qz (qR rr (qv 2 101 Z r2 r1 (qw 101 Z r2 r1 (qv 2 102 Z r2 r1 (qw 102 Z r2 r1 (qk Z (fun h=>oP (Zn3 u.ops v.ops) func101 (Args.two (.w h) (.w h))) r3 qz (qf (ZT .t .t) r2 qz (qO rr qZ)))))))))))))))))))) V [4] [102,101,0] fun O=>Yi ?_))
 refine ZP hfr O Z Z Z (.bool (Zpn u v))
end Go.Proofs.YtfecljadegkmdaaGreat
