/- Laws and walks. No condition beyond what each says. -/
import Derived.Test.YtfecljadegkmdaaGreatJ1
namespace Go.Proofs.YtfecljadegkmdaaGreat
open Go Go.Gm Tryz
set_option linter.unusedVariables false
set_option linter.unusedSimpArgs false
set_option maxHeartbeats 4000000
set_option maxRecDepth 8000
section
variable {α:Type} {κ:α→Int}
abbrev ZZ (κ:α→Int) (l:List α):Prop:=l.Pairwise fun x y=>κ x<κ y
def Zak (κ:α→Int) (l:List α):List α:=l.mergeSort fun x y=>decide (κ x≤κ y)
theorem ZaG (l:List α):(Zak κ l).Perm l:=YaO _ _
theorem ZcV (l:List α):(Zak κ l).length=l.length:=(ZaG l).length_eq
theorem Ze5:∀ {a b:List α},ZZ κ a→ZZ κ b→(∀ x,x ∈ a ↔ x ∈ b)→a=b
 | [],[],_,_,_=>rfl
 | [],y :: b,_,_,hm=>by have:=(hm y).2 W5;cases this
 | x :: a,[],_,_,hm=>by have:=(hm x).1 W5;cases this
 | x :: a,y :: b,ha,hb,hm=>by
  have ha':=YB.1 ha
  have hb':=YB.1 hb
  have e1:x=y:=by
   rcases Yp.1 ((hm x).1 W5) with e | e
   ·exact e
   ·rcases Yp.1 ((hm y).2 W5) with e2 | e2
    ·exact e2.symm
    ·have:=ha'.1 y e2;have:=hb'.1 x e;omega
  subst e1
  congr 1
  refine Ze5 ha'.2 hb'.2 fun z=>⟨fun hz=>?_,fun hz=>?_⟩
  ·rcases Yp.1 ((hm z).1 (YP _ hz)) with e | e
   ·subst e;have:=ha'.1 z hz;omega
   ·exact e
  ·rcases Yp.1 ((hm z).2 (YP _ hz)) with e | e
   ·subst e;have:=hb'.1 z hz;omega
   ·exact e
abbrev Unl (κ:α→Int) (l:List α):Prop:=l.Pairwise fun x y=>κ x≠κ y
theorem Unl.perm {a b:List α} (h:Unl κ a) (hp:a.Perm b):Unl κ b:=(hp.pairwise_iff (fun {x y} h=>h.symm)).1 h
theorem ZZ.unl {l:List α} (h:ZZ κ l):Unl κ l:=h.imp fun h=>by omega
theorem Zbc {l:List α} (h:Unl κ l):ZZ κ (Zak κ l):=by
 have h1:(Zak κ l).Pairwise fun x y=>decide (κ x≤κ y)=true:=Ybk (fun a b c h1 h2=>by simp at *;omega) (fun a b=>by simp;omega) l
 have h2:Unl κ (Zak κ l):=h.perm (ZaG l).symm
 exact (h1.and h2).imp fun {x y} k => by have h3 : κ x ≤ κ y := by simpa using k.1
                                         have h4:=k.2
                                         omega
theorem ZcJ {l z:List α} (hp:z.Perm l) (hz:ZZ κ z):z=Zak κ l:=
 Ze5 hz (Zbc (hz.unl.perm hp)) fun x=>by rw [hp.mem_iff,(ZaG l).mem_iff]
theorem ZlG {s a b:List α} (hs:(a++b).Perm s) (ha:Unl κ a) (hb:Unl κ b) (h:∀ x ∈ a,∀ y ∈ b,κ x<κ y):Zak κ a++Zak κ b=Zak κ s:=by
 refine ZcJ ((List.Perm.append (ZaG a) (ZaG b)).trans hs) ?_
 refine Y4.2 ⟨Zbc ha,Zbc hb,fun x hx y hy=>h x ((ZaG a).mem_iff.1 hx) y ((ZaG b).mem_iff.1 hy)⟩
theorem ZqB {a1 a2 b1 b2:List α} (hx:ZZ κ (a1++a2)) (hy:ZZ κ (b1++b2)) (h1:∀ x ∈ a1,∀ y ∈ b2,κ x<κ y) (h2:∀ x ∈ b1,∀ y ∈ a2,κ x<κ y) (hu:Unl κ ((a1++a2)++(b1++b2))):Zak κ (a1++b1)++Zak κ (a2++b2)=Zak κ ((a1++a2)++(b1++b2)):=by
 have hx':=Y4.1 hx
 have hy':=Y4.1 hy
 have hp:((a1++b1)++(a2++b2)).Perm ((a1++a2)++(b1++b2)):=by
  rw [Yt,Yt]
  refine Ybu a1 ?_
  rw [← Yt,← Yt]
  exact YaZ b2 Ybt
 have hu2:=hu.perm hp.symm
 have hu':=Y4.1 hu2
 refine ZlG hp hu'.1 hu'.2.1 fun x hx9 y hy9=>?_
 rcases YH.1 hx9 with hx9 | hx9 <;> rcases YH.1 hy9 with hy9 | hy9
 ·exact hx'.2.2 x hx9 y hy9
 ·exact h1 x hx9 y hy9
 ·exact h2 x hx9 y hy9
 ·exact hy'.2.2 x hx9 y hy9
def seg (l:List α) (a b:Nat):List α:=(l.take b).drop a
theorem Zan {l:List α} {a b:Nat} (hb:b≤l.length):(seg l a b).length=b - a:=by
 unfold seg
 rw [YN,Yk];omega
def Zv (κ:α→Int) (l:List α) (a b:Nat):List α:=l.take a++(Zak κ (seg l a b)++l.drop b)
def Z2 (l:List α) (a m b:Nat):List α:=l.take a++(seg l m b++(seg l a m++l.drop b))
theorem Zmw {p:List α} {a m:Nat} (h:a≤m):p.drop a=(p.take m).drop a++p.drop m:=by
 by_cases hm:m≤p.length
 ·have e:=List.drop_append_of_le_length (l₁:=p.take m) (l₂:=p.drop m) (i:=a) WF
  rw [YY] at e
  exact e
 ·rw [YU ow,Ybq (show p.length≤m by omega),YF]
theorem ZcH {l:List α} {a m b:Nat} (h1:a≤m) (h2:m≤b):seg l a b=seg l a m++seg l m b:=by
 unfold seg
 rw [Zmw (p:=l.take b) h1,Ya4,Yab h2]
theorem ZdS {l:List α} {a b:Nat} (h:a≤b):l.take a++(seg l a b++l.drop b)=l:=by
 unfold seg
 have e:l.take a++(l.take b).drop a=l.take b:=by
  have:=YY a (l.take b)
  rwa [Ya4,Yab h] at this
 rw [← Yt,e,YY]
theorem ZaA {l:List α} {a b:Nat} (h:a≤b):(Zv κ l a b).Perm l:=by
 unfold Zv
 conv=>rhs;rw [← ZdS (l:=l) h]
 exact Ybu _ (YaZ _ (ZaG _))
theorem Z8 {l:List α} {a b:Nat} (h:a≤b):(Zv κ l a b).length=l.length:=(ZaA h).length_eq
theorem ZgA {p s:List α} {a:Nat} (h:a=p.length):(p++s).take a=p:=by subst h;exact List.take_left
theorem Zgs {p s:List α} {a:Nat} (h:a=p.length):(p++s).drop a=s:=by subst h;exact List.drop_left
theorem Zb0 {p m s:List α} {a b:Nat} (ha:a=p.length) (hb:b=p.length+m.length):seg (p++(m++s)) a b=m:=by
 unfold seg
 rw [← Yt,ZgA (by rw [hb,Yc]),Zgs ha]
theorem ZeC {p m s:List α} {a b:Nat} (ha:a=p.length) (hb:b=p.length+m.length):Zv κ (p++(m++s)) a b=p++(Zak κ m++s):=by
 unfold Zv
 rw [Zb0 ha hb,ZgA ha,← Yt p m s,Zgs (by rw [hb,Yc])]
theorem Zcs {p x y s:List α} {a m b:Nat} (ha:a=p.length) (hm:m=p.length+x.length) (hb:b=p.length+x.length+y.length):Z2 (p++(x++(y++s))) a m b=p++(y++(x++s)):=by
 have h1:seg (p++(x++(y++s))) m b=y:=by
  rw [← Yt p x]
  exact Zb0 WT WT
 have h2:(p++(x++(y++s))).drop b=s:=by
  rw [← Yt p x,← Yt (p++x) y]
  exact Zgs Ww
 unfold Z2
 rw [ZgA ha,h1,Zb0 ha hm,h2]
theorem Znr {l:List α} {a start m e b mid:Nat} (h1:a≤start) (h2:start≤m) (h3:m≤e) (h4:e≤b) (hb:b≤l.length) (hmid:mid+m=start+e)
  (hx:ZZ κ (seg l a m)) (hy:ZZ κ (seg l m b)) (hu:Unl κ (seg l a b)) (hc1:∀ x ∈ seg l a start,∀ y ∈ seg l e b,κ x<κ y) (hc2:∀ x ∈ seg l m e,∀ y ∈ seg l start m,κ x<κ y) :
  Zv κ (Zv κ (Z2 l start m e) a mid) mid b=Zv κ l a b∧ZZ κ (seg (Z2 l start m e) a start)∧ZZ κ (seg (Z2 l start m e) start mid)∧ZZ κ (seg (Zv κ (Z2 l start m e) a mid) mid e)∧ZZ κ (seg (Zv κ (Z2 l start m e) a mid) e b)∧Unl κ (seg (Z2 l start m e) a mid)∧Unl κ (seg (Zv κ (Z2 l start m e) a mid) mid b):=by
 obtain ⟨p,hp⟩:∃ z,z=l.take a:=⟨_,rfl⟩
 obtain ⟨a1,ha1⟩:∃ z,z=seg l a start:=⟨_,rfl⟩
 obtain ⟨a2,ha2⟩:∃ z,z=seg l start m:=⟨_,rfl⟩
 obtain ⟨b1,hb1⟩:∃ z,z=seg l m e:=⟨_,rfl⟩
 obtain ⟨b2,hb2⟩:∃ z,z=seg l e b:=⟨_,rfl⟩
 obtain ⟨s,hs⟩:∃ z,z=l.drop b:=⟨_,rfl⟩
 have lp:p.length=a:=by rw [hp,Yk];omega
 have la1:a1.length=start - a:=by rw [ha1,Zan ow]
 have la2:a2.length=m - start:=by rw [ha2,Zan ow]
 have lb1:b1.length=e - m:=by rw [hb1,Zan ow]
 have lb2:b2.length=b - e:=by rw [hb2,Zan ow]
 have hxm:seg l a m=a1++a2:=by rw [ha1,ha2];exact ZcH h1 h2
 have hym:seg l m b=b1++b2:=by rw [hb1,hb2];exact ZcH h3 h4
 have hall:seg l a b=(a1++a2)++(b1++b2):=by rw [← hxm,← hym];exact ZcH ow ow
 have hl:l=p++(a1++(a2++(b1++(b2++s)))):=by
  have h9:=ZdS (l:=l) (a:=a) (b:=b) ow
  rw [hall,← hp,← hs] at h9
  rw [← h9];simp only [Yt]
 rw [hxm] at hx
 rw [hym] at hy
 rw [hall] at hu
 rw [← ha1,← hb2] at hc1
 rw [← hb1,← ha2] at hc2
 have hrot:Z2 l start m e=p++(a1++(b1++(a2++(b2++s)))):=by
  have h9:=Zcs (p:=p++a1) (x:=a2) (y:=b1) (s:=b2++s) (a:=start) (m:=m) (b:=e) WT WT WT
  rw [hl]
  simpa only [Yt] using h9
 have hso:Zv κ (Z2 l start m e) a mid=p++(Zak κ (a1++b1)++(a2++(b2++s))):=by
  have h9:=ZeC (κ:=κ) (p:=p) (m:=a1++b1) (s:=a2++(b2++s)) (a:=a) (b:=mid) lp.symm WT
  rw [hrot]
  simpa only [Yt] using h9
 have lz:(Zak κ (a1++b1)).length=mid - a:=by rw [ZcV,Yc];omega
 have hx':=Y4.1 hx
 have hy':=Y4.1 hy
 have hp2:((a1++b1)++(a2++b2)).Perm ((a1++a2)++(b1++b2)):=by
  rw [Yt,Yt]
  refine Ybu a1 ?_
  rw [← Yt,← Yt]
  exact YaZ b2 Ybt
 have hu':=Y4.1 (hu.perm hp2.symm)
 refine ⟨?_,?_,?_,?_,?_,?_,?_⟩
 ·have h9:=ZeC (κ:=κ) (p:=p++Zak κ (a1++b1)) (m:=a2++b2) (s:=s) (a:=mid) (b:=b) WU (by rw [Yc,Yc,lz];omega)
  have h8:=ZeC (κ:=κ) (p:=p) (m:=(a1++a2)++(b1++b2)) (s:=s) (a:=a) (b:=b) lp.symm Ww
  rw [hso]
  simp only [Yt] at h9 h8 ⊢
  have h7:=ZqB hx hy hc1 hc2 hu
  simp only [Yt] at h7
  rw [h9,hl,h8,← h7]
  simp only [Yt]
 ·rw [hrot,Zb0 (m:=a1) lp.symm ow];exact hx'.1
 ·have h9:=Zb0 (p:=p++a1) (m:=b1) (s:=a2++(b2++s)) (a:=start) (b:=mid) WT WT
  rw [hrot]
  rw [Yt] at h9
  rw [h9];exact hy'.1
 ·have h9:=Zb0 (p:=p++Zak κ (a1++b1)) (m:=a2) (s:=b2++s) (a:=mid) (b:=e) WU WU
  rw [hso]
  rw [Yt] at h9
  rw [h9];exact hx'.2.1
 ·have h9:=Zb0 (p:=p++(Zak κ (a1++b1)++a2)) (m:=b2) (s:=s) (a:=e) (b:=b) (by simp only [Yc,lz];omega) (by simp only [Yc,lz];omega)
  rw [hso]
  simp only [Yt] at h9
  rw [h9];exact hy'.2.1
 ·have h9:=Zb0 (p:=p) (m:=a1++b1) (s:=a2++(b2++s)) (a:=a) (b:=mid) lp.symm WT
  rw [hrot]
  rw [Yt] at h9
  rw [h9];exact hu'.1
 ·have h9:=Zb0 (p:=p++Zak κ (a1++b1)) (m:=a2++b2) (s:=s) (a:=mid) (b:=b) WU (by rw [Yc,Yc,lz];omega)
  rw [hso]
  simp only [Yt] at h9
  rw [h9];exact hu'.2.1
theorem Zer {a b:List α} (h:a.Perm b) (hu:Unl κ b):Zak κ a=Zak κ b:=ZcJ ((ZaG a).trans h) (Zbc (hu.perm h.symm))
theorem ZnC {y:List α} {x:α} {k:Nat} (hy:ZZ κ y) (h1:∀ z ∈ y.take k,κ z<κ x) (h2:∀ z ∈ y.drop k,κ x<κ z):y.take k++x :: y.drop k=Zak κ (x :: y):=by
 refine ZcJ ?_ ?_
 ·have h:=List.perm_middle (a:=x) (l₁:=y.take k) (l₂:=y.drop k)
  rwa [YY] at h
 ·have hy':ZZ κ (y.take k++y.drop k):=by rw [YY];exact hy
  have hp:=Y4.1 hy'
  refine Y4.2 ⟨hp.1,YB.2 ⟨h2,hp.2.1⟩,fun z hz w hw=>?_⟩
  rcases Yp.1 hw with rfl | hw
  ·exact h1 z hz
  ·exact hp.2.2 z hz w hw
theorem Znw {y:List α} {x:α} {k:Nat} (hy:ZZ κ y) (h1:∀ z ∈ y.take k,κ z<κ x) (h2:∀ z ∈ y.drop k,κ x<κ z):y.take k++x :: y.drop k=Zak κ (y ++ [x]):=by
 rw [ZnC hy h1 h2]
 have hp:(x :: y).Perm (y ++ [x]):=(List.perm_append_singleton x y).symm
 have hu:Unl κ (x :: y):=by
  refine YB.2 ⟨fun z hz=>?_,hy.unl⟩
  rw [← YY k y] at hz
  rcases YH.1 hz with hz | hz
  ·have:=h1 z hz;omega
  ·have:=h2 z hz;omega
 exact Zer hp (hu.perm hp)
theorem sortSeg_one (l:List α) {a:Nat} (h:a<l.length):Zv κ l a (a+1)=l:=by
 have hs:seg l a (a+1) = [l[a]]:=by
  unfold seg
  rw [YaX h,List.drop_append_of_le_length WF,Ybq WF];rfl
 have h1:=ZdS (l:=l) (a:=a) (b:=a+1) ow
 have h2:Zak κ [l[a]] = [l[a]]:=(ZcJ (Ybf _) (YaJ _ _)).symm
 unfold Zv
 rw [hs,h2]
 rw [hs] at h1
 exact h1
theorem Zkk {l:List α} {a i k:Nat} (hai:a≤i) (hil:i<l.length) (hu:Unl κ (seg l a (i+1))) (h1:∀ z ∈ (Zak κ (seg l a i)).take k,κ z<κ l[i]) (h2:∀ z ∈ (Zak κ (seg l a i)).drop k,κ l[i] < κ z) :
  l.take a++((Zak κ (seg l a i)).take k++l[i] :: ((Zak κ (seg l a i)).drop k++l.drop (i+1)))=Zv κ l a (i+1):=by
 have hs:seg l a (i+1)=seg l a i ++ [l[i]]:=by
  unfold seg
  rw [YaX hil,List.drop_append_of_le_length WF]
 rw [hs] at hu
 have hu':=Y4.1 hu
 have hz:=Zbc (κ:=κ) hu'.1
 have e:=Znw hz h1 h2
 have e2:Zak κ (Zak κ (seg l a i) ++ [l[i]])=Zak κ (seg l a i ++ [l[i]]):=Zer (YaZ _ (ZaG _)) hu
 unfold Zv
 rw [hs,← e2,← e]
 simp only [Yt,Y1]
theorem ZeF {l:List α} {a b:Nat} (h:a≤b) (hb:b≤l.length):seg (Zv κ l a b) a b=Zak κ (seg l a b):=by
 unfold Zv
 exact Zb0 WF (by rw [Yk,ZcV,Zan hb];omega)
theorem Zdr {l:List α} {a b c d:Nat} (hb:b≤l.length) (hab:a≤b) (h:d≤a):seg (Zv κ l a b) c d=seg l c d:=by
 unfold Zv seg
 rw [List.take_append_of_le_length WF,Ya4,Yab h]
theorem ZcP {l:List α} {a b c d:Nat} (hb:b≤l.length) (hab:a≤b) (h:b≤c):seg (Zv κ l a b) c d=seg l c d:=by
 have e:(Zv κ l a b).drop c=l.drop c:=by
  unfold Zv
  rw [← Yt]
  have hlen:(l.take a++Zak κ (seg l a b)).length=b:=by rw [Yc,Yk,ZcV,Zan hb];omega
  rw [List.drop_append,Ybq ow,Yao,hlen,YbK]
  congr 1;omega
 unfold seg
 rw [List.drop_take,List.drop_take,e]
def ZjR (κ:α→Int) (l:List α) (bs c:Nat):Prop:=∀ t,c≤t*bs→t*bs<l.length→ZZ κ (seg l (t*bs) (min (t*bs+bs) l.length))
def Zlh (κ:α→Int) (l:List α) (bs c:Nat):Prop:=∀ t,t*bs+bs≤c→ZZ κ (seg l (t*bs) (t*bs+bs))
theorem Zpq {l:List α} {bs:Nat} (h:ZjR κ l bs 0) (hb:l.length≤bs):ZZ κ l:=by
 by_cases h0:l.length=0
 ·rw [YX h0];exact List.Pairwise.nil
 ·have h1:=h 0 ow ow
  rw [Nat.zero_mul,Yaj,Ybp hb] at h1
  unfold seg at h1
  rwa [Yy,List.drop_zero] at h1
theorem ZcS [Inhabited α] {l:List α} {a b:Nat} (hb:b≤l.length) {x:α} : x ∈ seg l a b ↔ ∃ i,a≤i∧i<b∧Nn l i=x:=by
 unfold seg
 rw [List.mem_iff_getElem]
 constructor
 ·rintro ⟨i,hi,e⟩
  rw [YN,Yk] at hi
  refine ⟨a+i,ow,ow,?_⟩
  rw [Zu ow,← e,List.getElem_drop,Ybi]
 ·rintro ⟨i,h1,h2,e⟩
  refine ⟨i - a,by rw [YN,Yk];omega,?_⟩
  rw [List.getElem_drop,Ybi,← e,Zu ow]
  congr 1;omega
theorem Zez [Inhabited α] {l:List α} {a b:Nat} (hb:b≤l.length):ZZ κ (seg l a b) ↔ ∀ i j,a≤i→i<j→j<b→κ (Nn l i)<κ (Nn l j):=by
 unfold ZZ
 rw [Y9]
 have hlen:(seg l a b).length=b - a:=Zan hb
 have hget:∀ i (h:i<(seg l a b).length),(seg l a b)[i] = Nn l (a+i):=fun i h=>by
  rw [hlen] at h
  rw [Zu (show a+i<l.length by omega)]
  simp only [seg,List.getElem_drop,Ybi]
 constructor
 ·intro h i j h1 h2 h3
  have h9:=h (i - a) (j - a) ow ow ow
  rw [hget,hget,show a+(i - a)=i by omega,show a+(j - a)=j by omega] at h9
  exact h9
 ·intro h i j hi hj hij
  rw [hget,hget]
  exact h _ _ ow ow ow
theorem ZmG [Inhabited α] {l:List α} {a m b mid start s0 r0:Nat} (hb:b≤l.length) (ham:a<m) (hmb:m<b) (hma:a≤mid) (hmm:mid≤b) (hm2:2*mid≤a+b) (hx:ZZ κ (seg l a m)) (hy:ZZ κ (seg l m b))
  (hs0:(mid<m∧s0+b=mid+m∧r0=mid)∨(m≤mid∧s0=a∧r0=m)) (h1:s0≤start) (h2:start≤r0) (h3:start=s0∨κ (Nn l (start - 1))<κ (Nn l (mid+m - start))) (h4:start=r0∨κ (Nn l (mid+m - 1 - start))<κ (Nn l start)) (has:a≤s0) :
  (start≤m∧m≤mid+m - start∧mid+m - start≤b)∧(∀ x ∈ seg l a start,∀ y ∈ seg l (mid+m - start) b,κ x<κ y)∧(∀ x ∈ seg l m (mid+m - start),∀ y ∈ seg l start m,κ x<κ y):=by
 have hx':=(Zez (κ:=κ) ow).1 hx
 have hy':=(Zez (κ:=κ) hb).1 hy
 refine ⟨ow,fun x hx9 y hy9=>?_,fun x hx9 y hy9=>?_⟩
 ·obtain ⟨i,i1,i2,rfl⟩:=(ZcS ow).1 hx9
  obtain ⟨j,j1,j2,rfl⟩:=(ZcS hb).1 hy9
  rcases h3 with h3 | h3
  ·omega
  ·have k1:κ (Nn l i)≤κ (Nn l (start - 1)):=by
    rcases Yah i (start - 1) with h | h
    ·exact Ybs (hx' i (start - 1) i1 h ow)
    ·rw [show i=start - 1 by omega];exact Yau _
   have k2:κ (Nn l (mid+m - start))≤κ (Nn l j):=by
    rcases Yah (mid+m - start) j with h | h
    ·exact Ybs (hy' _ j ow h j2)
    ·rw [show j=mid+m - start by omega];exact Yau _
   omega
 ·obtain ⟨i,i1,i2,rfl⟩:=(ZcS ow).1 hx9
  obtain ⟨j,j1,j2,rfl⟩:=(ZcS ow).1 hy9
  rcases h4 with h4 | h4
  ·omega
  ·have k1:κ (Nn l i)≤κ (Nn l (mid+m - 1 - start)):=by
    rcases Yah i (mid+m - 1 - start) with h | h
    ·exact Ybs (hy' i _ i1 h ow)
    ·rw [show i=mid+m - 1 - start by omega];exact Yau _
   have k2:κ (Nn l start)≤κ (Nn l j):=by
    rcases Yah start j with h | h
    ·exact Ybs (hx' start j ow h j2)
    ·rw [show j=start by omega];exact Yau _
   omega
def Zef (l:List α) (a b n:Nat):List α:=l.take a++(seg l b (b+n)++(seg l (a+n) b++(seg l a (a+n)++l.drop (b+n))))
theorem ZjL {p x w y s:List α} {a b n:Nat} (ha:a=p.length) (hn:n=x.length) (hb:b=p.length+x.length+w.length) (hy:y.length=n):Zef (p++(x++(w++(y++s)))) a b n=p++(y++(w++(x++s))):=by
 have h1:seg (p++(x++(w++(y++s)))) b (b+n)=y:=by
  rw [← Yt p x,← Yt (p++x) w]
  exact Zb0 Ww Ww
 have h2:seg (p++(x++(w++(y++s)))) (a+n) b=w:=by
  rw [← Yt p x]
  exact Zb0 Ww Ww
 have h3:seg (p++(x++(w++(y++s)))) a (a+n)=x:=Zb0 ha ow
 have h4:(p++(x++(w++(y++s)))).drop (b+n)=s:=by
  rw [← Yt p x,← Yt (p++x) w,← Yt (p++x++w) y]
  exact Zgs Ww
 unfold Zef
 rw [ZgA ha,h1,h2,h3,h4]
theorem Zuu {p x1 x2 y s:List α} (h:x1.length=y.length):Z2 (Zef (p++(x1++(x2++(y++s)))) p.length (p.length+x1.length+x2.length) y.length) (p.length+y.length) (p.length+x1.length+x2.length) (p.length+x1.length+x2.length+y.length)=Z2 (p++(x1++(x2++(y++s)))) p.length (p.length+x1.length+x2.length) (p.length+x1.length+x2.length+y.length):=by
 rw [ZjL rfl h.symm rfl rfl]
 have e1:=Zcs (p:=p++y) (x:=x2) (y:=x1) (s:=s) (a:=p.length+y.length) (m:=p.length+x1.length+x2.length) (b:=p.length+x1.length+x2.length+y.length) (by rw [Yc]) WT WT
 have e2:=Zcs (p:=p) (x:=x1++x2) (y:=y) (s:=s) (a:=p.length) (m:=p.length+x1.length+x2.length) (b:=p.length+x1.length+x2.length+y.length) rfl WT WT
 simp only [Yt] at e1 e2
 rw [e1,e2]
theorem Zum {p x y1 y2 s:List α} (h:x.length=y2.length):Z2 (Zef (p++(x++(y1++(y2++s)))) p.length (p.length+x.length+y1.length) x.length) p.length (p.length+x.length) (p.length+x.length+y1.length)=Z2 (p++(x++(y1++(y2++s)))) p.length (p.length+x.length) (p.length+x.length+y1.length+y2.length):=by
 rw [ZjL rfl rfl rfl h.symm]
 have e1:=Zcs (p:=p) (x:=y2) (y:=y1) (s:=x++s) (a:=p.length) (m:=p.length+x.length) (b:=p.length+x.length+y1.length) rfl ow ow
 have e2:=Zcs (p:=p) (x:=x) (y:=y1++y2) (s:=s) (a:=p.length) (m:=p.length+x.length) (b:=p.length+x.length+y1.length+y2.length) rfl rfl WT
 simp only [Yt] at e1 e2
 rw [e1,e2]
theorem Zt5 {p x y s:List α} (h:x.length=y.length):Zef (p++(x++(y++s))) p.length (p.length+x.length) x.length=Z2 (p++(x++(y++s))) p.length (p.length+x.length) (p.length+x.length+y.length):=by
 have e1:=ZjL (p:=p) (x:=x) (w:=[]) (y:=y) (s:=s) (a:=p.length) (b:=p.length+x.length) (n:=x.length) rfl rfl W5 h.symm
 rw [Zcs rfl rfl rfl]
 simpa using e1
theorem ZfP {l:List α} (h:Unl κ l) (a b:Nat):Unl κ (seg l a b):=h.sublist ((List.drop_sublist _ _).trans (List.take_sublist _ _))
theorem ZlV {t u bs:Nat} (h:t*bs+bs≤u*bs+bs) (hb:0<bs):t≤u:=by
 apply Y3
 intro hn
 have h1:u+1≤t:=ow
 have h2:=Yag bs h1
 rw [YaR] at h2
 omega
theorem Zp6 {t u bs:Nat} (h:u*bs<t*bs+bs):u≤t:=by
 apply Y3
 intro hn
 have h2:=Yag bs (show t+1≤u by omega)
 rw [YaR] at h2
 omega
theorem Zfd {l:List α} {bs t:Nat} (hb:0<bs) (h:Zlh κ l bs (t*bs)) (hn:t*bs+bs≤l.length) (hu:Unl κ l):Zlh κ (Zv κ l (t*bs) (t*bs+bs)) bs (t*bs+bs):=fun u hub=>by
 have hut:=ZlV hub hb
 rcases Yw hut with h1 | h1
 ·have h2:=Yag bs (show u+1≤t from h1)
  rw [YaR] at h2
  rw [Zdr hn ow h2]
  exact h u h2
 ·subst h1
  rw [ZeF ow hn]
  exact Zbc (ZfP hu _ _)
theorem Zgp {l:List α} {bs t:Nat} (hb:0<bs) (h:Zlh κ l bs (t*bs)) (ht:t*bs≤l.length) (hn:l.length<t*bs+bs) (hu:Unl κ l):ZjR κ (Zv κ l (t*bs) l.length) bs 0:=fun u _ hul=>by
 have hlen:=Z8 (κ:=κ) (l:=l) ht
 rw [hlen] at hul ⊢
 have hut:u≤t:=Zp6 (bs:=bs) ow
 rcases Yw hut with h1 | h1
 ·have h2:=Yag bs (show u+1≤t from h1)
  rw [YaR] at h2
  rw [Yab ow,Zdr (YE _) ht h2]
  exact h u h2
 ·subst h1
  rw [Ybp ow,ZeF ht (YE _)]
  exact Zbc (ZfP hu _ _)
theorem Zix {l:List α} {bs a b:Nat} (hab:a≤b) (hb:b≤l.length) (h:ZjR κ l bs a):ZjR κ (Zv κ l a b) bs b:=fun u h1 h2=>by
 have hlen:=Z8 (κ:=κ) (l:=l) hab
 rw [hlen] at h2 ⊢
 rw [ZcP hb hab h1]
 exact h u ow h2
theorem ZmN {l:List α} {bs t:Nat} (hb:0<bs) (h:Zlh κ l (2*bs) (t*(2*bs))) (hr:ZjR κ l bs (t*(2*bs))) (hn:l.length≤t*(2*bs)+bs):ZjR κ l (2*bs) 0:=fun u _ hul=>by
 have hut:u≤t:=Zp6 (bs:=2*bs) ow
 rcases Yw hut with h1 | h1
 ·have h2:=Yag (2*bs) (show u+1≤t from h1)
  rw [YaR] at h2
  by_cases h3:u*(2*bs)+2*bs≤l.length
  ·rw [Yab h3];exact h u h2
  ·have h4:=h u h2
   rw [Ybp ow]
   have e:seg l (u*(2*bs)) (u*(2*bs)+2*bs)=seg l (u*(2*bs)) l.length:=by
    unfold seg
    rw [YU ow,Yy]
   rwa [e] at h4
 ·subst h1
  have h4:=hr (2*u) (by rw [Nat.mul_assoc,Yby];exact YE _) (by rw [show 2*u*bs=u*(2*bs) by rw [Nat.mul_assoc,Yby]];exact hul)
  rw [show 2*u*bs=u*(2*bs) by rw [Nat.mul_assoc,Yby],Ybp hn] at h4
  rw [Ybp ow]
  exact h4
end
section
variable {α:Type} {κ:α→Int}
theorem Zfa {l:List α} {a b n:Nat} (h:a+n≤b):(seg l a b).take n=seg l a (a+n):=by
 unfold seg
 rw [List.take_drop,Ya4,Yab h]
theorem Zfb {l:List α} {a b n:Nat} : (seg l a b).drop n=seg l (a+n) b:=by
 unfold seg
 rw [YbK]
theorem ZfJ {l:List α} {a:Nat} : seg l a a = []:=by
 unfold seg
 exact Ybq WF
theorem Zcp {l:List α} {a b n:Nat} (h1:a+n≤b) (h2:b+n≤l.length):(Zef l a b n).length=l.length:=by
 unfold Zef
 rw [Yc,Yc,Yc,Yc,Zan ow,Zan ow,Zan ow,Yk,YN];omega
theorem cut4 {l:List α} {a b c d:Nat} (h1:a≤b) (h2:b≤c) (h3:c≤d):l=l.take a++(seg l a b++(seg l b c++(seg l c d++l.drop d))):=by
 have e:=ZdS (l:=l) (a:=a) (b:=d) ow
 rw [ZcH (l:=l) (a:=a) (m:=b) (b:=d) h1 ow,ZcH (l:=l) (a:=b) (m:=c) (b:=d) h2 h3] at e
 simpa only [Yt] using e.symm
theorem Zql {l:List α} {s m e j:Nat} (h1:s+j≤m) (h2:e=m+j) (h3:e≤l.length):Z2 (Zef l s m j) (s+j) m e=Z2 l s m e:=by
 have hc:=cut4 (l:=l) (a:=s) (b:=s+j) (c:=m) (d:=e) ow h1 ow
 have e0:(l.take s).length=s:=WF
 have e1:(seg l s (s+j)).length=j:=Qn
 have e2:(seg l (s+j) m).length=m - (s+j):=Zan ow
 have e3:(seg l m e).length=j:=by rw [Zan h3];omega
 have h:=Zuu (p:=l.take s) (x1:=seg l s (s+j)) (x2:=seg l (s+j) m) (y:=seg l m e) (s:=l.drop e) (by rw [e1,e3])
 rw [← hc,e0,e1,e2,e3,show s+j+(m - (s+j))=m by omega,show m+j=e by omega] at h
 exact h
theorem Zpw {l:List α} {s m e i:Nat} (h0:m=s+i) (h1:m+i≤e) (h3:e≤l.length):Z2 (Zef l s (e - i) i) s m (e - i)=Z2 l s m e:=by
 have hc:=cut4 (l:=l) (a:=s) (b:=m) (c:=e - i) (d:=e) ow ow ow
 have e0:(l.take s).length=s:=WF
 have e1:(seg l s m).length=i:=Qn
 have e2:(seg l m (e - i)).length=e - i - m:=Zan ow
 have e3:(seg l (e - i) e).length=i:=by rw [Zan h3];omega
 have h:=Zum (p:=l.take s) (x:=seg l s m) (y1:=seg l m (e - i)) (y2:=seg l (e - i) e) (s:=l.drop e) (by rw [e1,e3])
 rw [← hc,e0,e1,e2,e3,show s+i+(e - i - m)=e - i by omega,show s+i=m by omega,show e - i+i=e by omega] at h
 exact h
theorem Zqy {l:List α} {s m e i:Nat} (h0:m=s+i) (h1:e=m+i) (h3:e≤l.length):Zef l s m i=Z2 l s m e:=by
 have hc:l=l.take s++(seg l s m++(seg l m e++l.drop e)):=by
  have:=cut4 (l:=l) (a:=s) (b:=m) (c:=m) (d:=e) ow ow ow
  rwa [ZfJ,Yao] at this
 have e0:(l.take s).length=s:=WF
 have e1:(seg l s m).length=i:=Qn
 have e3:(seg l m e).length=i:=by rw [Zan h3];omega
 have h:=Zt5 (p:=l.take s) (x:=seg l s m) (y:=seg l m e) (s:=l.drop e) (by rw [e1,e3])
 rw [← hc,e0,e1,e3,show s+i=m by omega,show m+i=e by omega] at h
 exact h
theorem ZiL {l:List α} {a m b:Nat} (h1:a≤m) (h2:m≤b) (h3:b≤l.length):(Z2 l a m b).length=l.length:=by
 unfold Z2
 rw [Yc,Yc,Yc,Zan h3,Zan ow,Yk,YN];omega
theorem ZmS {l:List α} {a m b:Nat} (h1:a≤m) (h2:m≤b) (h:a=m∨m=b):Z2 l a m b=l:=by
 unfold Z2
 rcases h with h | h
 ·subst h;rw [ZfJ,Yao];exact ZdS h2
 ·subst h;rw [ZfJ,Yao];exact ZdS h1
theorem Zbz {l:List α} {a b:Nat} (h:a≤b) (hr:ZZ κ (seg l a b)):Zv κ l a b=l:=by
 unfold Zv
 rw [← ZcJ (Ybf _) hr]
 exact ZdS h
theorem Zau {l:List α} {a b:Nat} (h:a≤b) (hu:Unl κ l):Unl κ (Zv κ l a b):=hu.perm (ZaA h).symm
theorem ZmX {l:List α} {a m b:Nat} (h1:a≤m) (h2:m≤b):(Z2 l a m b).Perm l:=by
 unfold Z2
 conv=>rhs;rw [← ZdS (l:=l) (a:=a) (b:=b) ow,ZcH (l:=l) h1 h2]
 refine Ybu _ ?_
 rw [← Yt]
 exact YaZ _ Ybt
theorem Zmq {l:List α} {bs q t:Nat} (hb:0<bs) (ht:q=t*(2*bs)) (h:ZjR κ l bs q) (hn:q+2*bs≤l.length):ZZ κ (seg l q (q+bs))∧ZZ κ (seg l (q+bs) (q+2*bs)):=by
 have e1:2*t*bs=q:=by rw [ht,Nat.mul_assoc,Yby]
 have e2:(2*t+1)*bs=q+bs:=by rw [YaR,e1]
 have h1:=h (2*t) ow ow
 have h2:=h (2*t+1) ow ow
 rw [e1,Yab ow] at h1
 rw [e2,Yab ow,show q+bs+bs=q+2*bs by omega] at h2
 exact ⟨h1,h2⟩
theorem Zkg {l:List α} {bs q t:Nat} (hb:0<bs) (ht:q=t*(2*bs)) (h:ZjR κ l bs q) (hn:q+bs<l.length) (hn2:l.length≤q+2*bs):ZZ κ (seg l q (q+bs))∧ZZ κ (seg l (q+bs) l.length):=by
 have e1:2*t*bs=q:=by rw [ht,Nat.mul_assoc,Yby]
 have e2:(2*t+1)*bs=q+bs:=by rw [YaR,e1]
 have h1:=h (2*t) ow ow
 have h2:=h (2*t+1) ow ow
 rw [e1,Yab ow] at h1
 rw [e2,Ybp ow] at h2
 exact ⟨h1,h2⟩
end
section
variable {α:Type} [Inhabited α] {κ:α→Int}
theorem ZdJ {a b:List α} {k:Nat} : Nn (a++b) k=if k<a.length then Nn a k else Nn b (k - a.length):=by
 unfold Nn
 split
 ·rename_i h;simp [Yap,List.getElem?_append_left h]
 ·rename_i h;simp [Yap,List.getElem?_append_right (Nat.le_of_not_lt h)]
theorem ZmC {x:α} {l:List α} {k:Nat} : Nn (x :: l) k=if k=0 then x else Nn l (k - 1):=by
 unfold Nn
 cases k with
 | zero=>rfl
 | succ k=>rfl
theorem ZmU {l:List α} {n k:Nat} (h:k<n):Nn (l.take n) k=Nn l k:=by
 unfold Nn;simp [Yap,List.getElem?_take,h]
theorem Zng {l:List α} {n k:Nat} : Nn (l.drop n) k=Nn l (n+k):=by
 unfold Nn;simp [Yap,List.getElem?_drop]
theorem ZkW {l:List α} {a b k:Nat} (h:a+k<b):Nn (seg l a b) k=Nn l (a+k):=by
 unfold seg;rw [Zng,ZmU h]
theorem Zgq {l:List α} {a b:Nat} (h:a<b) (hb:b≤l.length):seg l a b=Nn l a :: seg l (a+1) b:=by
 unfold seg
 rw [List.drop_eq_getElem_cons WF,Zu ow,Ybi]
theorem Zm8 {l:List α} {a b:Nat} (h:a≤b) (hb:b<l.length):seg l a (b+1)=seg l a b ++ [Nn l b]:=by
 rw [ZcH (m:=b) h ow,Zgq (a:=b) ow ow,ZfJ]
def swp (l:List α) (i j:Nat):List α:=(l.set i (Nn l j)).set j (Nn l i)
theorem Zl6 {l:List α} {i j:Nat} : (swp l i j).length=l.length:=by unfold swp;simp
theorem Zm5 {l:List α} {i k:Nat} {x:α} (h:i<l.length):Nn (l.set i x) k=if k=i then x else Nn l k:=by
 unfold Nn
 simp only [Yap,List.getElem?_set]
 by_cases e:i=k
 ·subst e;simp [h]
 ·simp [e,Ne.symm e]
theorem Zlp {l:List α} {i j k:Nat} (hi:i<l.length) (hj:j<l.length):Nn (swp l i j) k=if k=j then Nn l i else if k=i then Nn l j else Nn l k:=by
 unfold swp
 rw [Zm5 XY,Zm5 hi]
def Zgi (l:List α) (j i:Nat):List α:=l.take j++Nn l i :: (seg l j i++l.drop (i+1))
theorem Zcn {l:List α} {j i:Nat} (hji:j≤i) (hi:i<l.length):(Zgi l j i).length=l.length:=by
 unfold Zgi
 rw [Yc,Yl,Yc,Zan ow,Yk,YN];omega
theorem Zcl {l:List α} {j i k:Nat} (hji:j≤i) (hi:i<l.length):Nn (Zgi l j i) k=if k=j then Nn l i else if j<k∧k≤i then Nn l (k - 1) else Nn l k:=by
 unfold Zgi
 have h1:(l.take j).length=j:=WF
 have h2:(seg l j i).length=i - j:=Zan ow
 rw [ZdJ,ZmC,ZdJ,h1,h2]
 by_cases c1:k<j
 ·rw [Yg c1,Yb ow,Yb ow,ZmU c1]
 ·rw [Yb c1]
  by_cases c2:k=j
  ·rw [Yg ow,Yg c2]
  ·rw [Yb ow,Yb c2]
   by_cases c3:k≤i
   ·rw [Yg ow,Yg ow,ZkW ow];congr 1;omega
   ·rw [Yb ow,Yb ow,Zng];congr 1;omega
theorem ZfD {l:List α} {i:Nat} (hi:i<l.length):Zgi l i i=l:=
 ZaX (Zcn (YE _) hi) fun k _=>by
  rw [Zcl (YE _) hi]
  split
  ·rename_i h;rw [h]
  ·rw [Yb ow]
theorem ZfB {l:List α} {j i:Nat} (h0:0<j) (hji:j≤i) (hi:i<l.length):swp (Zgi l j i) j (j - 1)=Zgi l (j - 1) i:=
 ZaX (by rw [Zl6,Zcn hji hi,Zcn ow hi]) fun k _=>by
  rw [Zlp (by rw [Zcn hji hi];omega) (by rw [Zcn hji hi];omega),Zcl hji hi,Zcl hji hi,Zcl hji hi,Zcl ow hi]
  by_cases c1:k=j - 1
  ·rw [Yg c1,Yg c1,Yg rfl]
  ·rw [Yb c1,Yb c1]
   by_cases c2:k=j
   ·rw [Yg c2,Yb ow,Yb ow,Yg ow];congr 1;omega
   ·rw [Yb c2,Yb c2]
    by_cases c3:j<k∧k≤i
    ·rw [Yg c3,Yg ow]
    ·rw [Yb c3,Yb ow]
def Zkb (l:List α) (a k:Nat):List α:=l.take a++(seg l (a+1) (k+1)++Nn l a :: l.drop (k+1))
theorem Zds {l:List α} {a k:Nat} (hak:a≤k) (hk:k<l.length):(Zkb l a k).length=l.length:=by
 unfold Zkb
 rw [Yc,Yc,Yl,Zan ow,Yk,YN];omega
theorem Zfj {l:List α} {a k q:Nat} (hak:a≤k) (hk:k<l.length):Nn (Zkb l a k) q=if q=k then Nn l a else if a≤q∧q<k then Nn l (q+1) else Nn l q:=by
 unfold Zkb
 have h1:(l.take a).length=a:=WF
 have h2:(seg l (a+1) (k+1)).length=k - a:=Qn
 rw [ZdJ,ZdJ,ZmC,h1,h2]
 by_cases c1:q<a
 ·rw [Yg c1,Yb ow,Yb ow,ZmU c1]
 ·rw [Yb c1]
  by_cases c2:q<k
  ·rw [Yg ow,Yb ow,Yg ow,ZkW ow];congr 1;omega
  ·rw [Yb ow]
   by_cases c3:q=k
   ·rw [Yg ow,Yg c3]
   ·rw [Yb ow,Yb c3,Yb ow,Zng];congr 1;omega
theorem ZkB {l:List α} {a:Nat} (ha:a<l.length):Zkb l a a=l:=
 ZaX (Zds (YE _) ha) fun q _=>by
  rw [Zfj (YE _) ha]
  split
  ·rename_i h;rw [h]
  ·rw [Yb ow]
theorem Zky {l:List α} {a k:Nat} (hak:a≤k) (hk:k+1<l.length):swp (Zkb l a k) k (k+1)=Zkb l a (k+1):=
 ZaX (by rw [Zl6,Zds hak ow,Zds ow hk]) fun q _=>by
  rw [Zlp (by rw [Zds hak ow];omega) (by rw [Zds hak ow];omega),Zfj hak ow,Zfj hak ow,Zfj hak ow,Zfj ow hk]
  by_cases c1:q=k+1
  ·rw [Yg c1,Yg c1,Yg rfl]
  ·rw [Yb c1,Yb c1]
   by_cases c2:q=k
   ·rw [Yg c2,Yb ow,Yb ow,Yg ow,c2]
   ·rw [Yb c2,Yb c2]
    by_cases c3:a≤q∧q<k
    ·rw [Yg c3,Yg ow]
    ·rw [Yb c3,Yb ow]
theorem Zfi {l:List α} {a b n k:Nat} (h1:a+n≤b) (h2:b+n≤l.length):Nn (Zef l a b n) k=if a≤k∧k<a+n then Nn l (b+(k - a)) else if b≤k∧k<b+n then Nn l (a+(k - b)) else Nn l k:=by
 unfold Zef
 have e1:(l.take a).length=a:=WF
 have e2:(seg l b (b+n)).length=n:=Qn
 have e3:(seg l (a+n) b).length=b - (a+n):=Zan ow
 have e4:(seg l a (a+n)).length=n:=Qn
 rw [ZdJ,ZdJ,ZdJ,ZdJ,e1,e2,e3,e4]
 by_cases c1:k<a
 ·rw [Yg c1,Yb ow,Yb ow,ZmU c1]
 ·rw [Yb c1]
  by_cases c2:k<a+n
  ·rw [Yg (show k - a<n by omega),Yg (show a≤k∧k<a+n by omega),ZkW ow]
  ·rw [Yb (show ¬ (k - a<n) by omega),Yb (show ¬ (a≤k∧k<a+n) by omega)]
   by_cases c3:k<b
   ·rw [Yg (show k - a - n<b - (a+n) by omega),Yb (show ¬ (b≤k∧k<b+n) by omega),ZkW ow];congr 1;omega
   ·rw [Yb (show ¬ (k - a - n<b - (a+n)) by omega)]
    by_cases c4:k<b+n
    ·rw [Yg (show k - a - n - (b - (a+n))<n by omega),Yg (show b≤k∧k<b+n by omega),ZkW ow];congr 1;omega
    ·rw [Yb (show ¬ (k - a - n - (b - (a+n))<n) by omega),Yb (show ¬ (b≤k∧k<b+n) by omega),Zng];congr 1;omega
theorem ZkZ {l:List α} {a b:Nat} (h1:a≤b) (h2:b≤l.length):Zef l a b 0=l:=
 ZaX (Zcp h1 h2) fun k _=>by rw [Zfi h1 h2,Yb ow,Yb ow]
theorem Zkq {l:List α} {a b n i:Nat} (hi:i<n) (h1:a+n≤b) (h2:b+n≤l.length):swp (Zef l a b i) (a+i) (b+i)=Zef l a b (i+1):=by
 have hl:(Zef l a b i).length=l.length:=Zcp ow ow
 refine ZaX (by rw [Zl6,hl,Zcp ow ow]) fun k _=>?_
 rw [Zlp ow ow,Zfi ow ow,Zfi ow ow,Zfi ow ow,Zfi (n:=i+1) ow ow]
 by_cases c1:k=b+i
 ·rw [Yg c1,Yb (show ¬ (a≤a+i∧a+i<a+i) by omega),Yb (show ¬ (b≤a+i∧a+i<b+i) by omega),Yb (show ¬ (a≤k∧k<a+(i+1)) by omega),Yg (show b≤k∧k<b+(i+1) by omega)];congr 1;omega
 ·rw [Yb c1]
  by_cases c2:k=a+i
  ·rw [Yg c2,Yb (show ¬ (a≤b+i∧b+i<a+i) by omega),Yb (show ¬ (b≤b+i∧b+i<b+i) by omega),Yg (show a≤k∧k<a+(i+1) by omega)];congr 1;omega
  ·rw [Yb c2]
   by_cases c3:a≤k∧k<a+i
   ·rw [Yg c3,Yg (show a≤k∧k<a+(i+1) by omega)]
   ·by_cases c4:b≤k∧k<b+i
    ·rw [Yb c3,Yg c4,Yb (show ¬ (a≤k∧k<a+(i+1)) by omega),Yg (show b≤k∧k<b+(i+1) by omega)]
    ·rw [Yb c3,Yb c4,Yb (show ¬ (a≤k∧k<a+(i+1)) by omega),Yb (show ¬ (b≤k∧k<b+(i+1)) by omega)]
theorem ZkQ {l l0:List α} {a i j:Nat} (haj:a≤j) (hji:j≤i) (hil:i<l.length) (hu:Unl κ (seg l a (i+1))) (hl0:l0=Zv κ l a i)
  (h1:j=a∨κ (Nn l0 (j - 1))<κ (Nn l0 i)) (h2:∀ k,j≤k→k<i→κ (Nn l0 i)<κ (Nn l0 k)):Zgi l0 j i=Zv κ l a (i+1):=by
 have hlen:l0.length=l.length:=by rw [hl0,Z8 ow]
 have hseg:seg l0 a i=Zak κ (seg l a i):=by rw [hl0];exact ZeF ow ow
 have hr:ZZ κ (seg l0 a i):=by
  rw [hseg]
  refine Zbc ?_
  rw [Zm8 ow hil] at hu
  exact (Y4.1 hu).1
 have hri:=(Zez (κ:=κ) ow).1 hr
 have hx:Nn l0 i=Nn l i:=by
  have e:=ZcP (κ:=κ) (l:=l) (a:=a) (b:=i) (c:=i) (d:=i+1) ow ow (YE _)
  rw [← hl0,Zgq (l:=l0) ow ow,Zgq (l:=l) ow ow] at e
  exact (List.cons.inj e).1
 have ht:l0.take a=l.take a:=by
  have e:=Zdr (κ:=κ) (l:=l) (a:=a) (b:=i) (c:=0) (d:=a) ow ow (YE _)
  rw [← hl0] at e
  simpa [seg] using e
 have hd:l0.drop (i+1)=l.drop (i+1):=by
  have e:=ZcP (κ:=κ) (l:=l) (a:=a) (b:=i) (c:=i+1) (d:=l.length) ow ow ow
  rw [← hl0] at e
  unfold seg at e
  rwa [YU ow,Yy] at e
 have k1:(Zak κ (seg l a i)).take (j - a)=seg l0 a j:=by rw [← hseg,Zfa ow];congr 1;omega
 have k2:(Zak κ (seg l a i)).drop (j - a)=seg l0 j i:=by rw [← hseg,Zfb];congr 1;omega
 have e:=Zkk (κ:=κ) (l:=l) (a:=a) (i:=i) (k:=j - a) ow hil hu
  (by
   rw [k1,← Zu hil,← hx]
   intro z hz
   obtain ⟨q,q1,q2,rfl⟩:=(ZcS ow).1 hz
   rcases h1 with h1 | h1
   ·omega
   ·rcases Yah q (j - 1) with h | h
    ·exact Ybd (hri q (j - 1) q1 h ow) h1
    ·rw [show q=j - 1 by omega];exact h1)
  (by
   rw [k2,← Zu hil,← hx]
   intro z hz
   obtain ⟨q,q1,q2,rfl⟩:=(ZcS ow).1 hz
   exact h2 q q1 q2)
 rw [← e,k1,k2,← Zu hil,← hx,← ht,← hd]
 unfold Zgi
 have hj:l0.take j=l0.take a++seg l0 a j:=by
  unfold seg
  have:=YY a (l0.take j)
  rw [Ya4,Yab haj] at this
  exact this.symm
 rw [hj]
 simp only [Yt]
theorem Zkl {l:List α} {a i b:Nat} (hai:a+1≤i) (hib:i≤b) (hb:b≤l.length) (hy:ZZ κ (seg l (a+1) b)) (h1:∀ k,a+1≤k→k<i→κ (Nn l k)<κ (Nn l a)) (h2:∀ k,i≤k→k<b→κ (Nn l a)<κ (Nn l k)):Zkb l a (i - 1)=Zv κ l a b:=by
 have e:=ZnC (κ:=κ) (y:=seg l (a+1) b) (x:=Nn l a) (k:=i - (a+1)) hy
  (by
   rw [Zfa ow,show a+1+(i - (a+1))=i by omega]
   intro z hz
   obtain ⟨q,q1,q2,rfl⟩:=(ZcS ow).1 hz
   exact h1 q q1 q2)
  (by
   rw [Zfb,show a+1+(i - (a+1))=i by omega]
   intro z hz
   obtain ⟨q,q1,q2,rfl⟩:=(ZcS hb).1 hz
   exact h2 q q1 q2)
 rw [Zfa ow,Zfb,show a+1+(i - (a+1))=i by omega,← Zgq ow hb] at e
 have hd:l.drop i=seg l i b++l.drop b:=Zmw hib
 unfold Zv Zkb
 rw [← e,show i - 1+1=i by omega,hd]
 simp only [Yt,Y1]
theorem ZiE {l:List α} {a i m:Nat} (hai:a≤i) (him:i≤m) (hm:m<l.length) (hy:ZZ κ (seg l a m)) (h1:∀ k,a≤k→k<i→κ (Nn l k)<κ (Nn l m)) (h2:∀ k,i≤k→k<m→κ (Nn l m)<κ (Nn l k)):Zgi l i m=Zv κ l a (m+1):=by
 have e:=Znw (κ:=κ) (y:=seg l a m) (x:=Nn l m) (k:=i - a) hy
  (by
   rw [Zfa ow,show a+(i - a)=i by omega]
   intro z hz
   obtain ⟨q,q1,q2,rfl⟩:=(ZcS ow).1 hz
   exact h1 q q1 q2)
  (by
   rw [Zfb,show a+(i - a)=i by omega]
   intro z hz
   obtain ⟨q,q1,q2,rfl⟩:=(ZcS ow).1 hz
   exact h2 q q1 q2)
 rw [Zfa ow,Zfb,show a+(i - a)=i by omega,← Zm8 ow hm] at e
 have ht:l.take i=l.take a++seg l a i:=by
  unfold seg
  have:=YY a (l.take i)
  rw [Ya4,Yab hai] at this
  exact this.symm
 unfold Zv Zgi
 rw [← e,ht]
 simp only [Yt,Y1]
theorem Zf3 {l:List α} (hu:Unl κ l) {i j:Nat} (hi:i<l.length) (hj:j<l.length) (hij:i≠j) (h:¬ κ (Nn l i)<κ (Nn l j)):κ (Nn l j)<κ (Nn l i):=by
 have hp:=Y9.1 hu
 rw [Zu hi,Zu hj] at *
 rcases Yah i j with h1 | h1
 ·have:=hp i j hi hj h1;omega
 ·have:=hp j i hj hi ow;omega
end
theorem ZtW (u v:TxD):((decide (u.id=v.id) && (u.done == v.done)) && decide (u.ops=v.ops))=decide (u=v):=by
 cases u;cases v
 rw [Yaa]
 simp [YbO]
theorem Zs4 (u v:OrdD):(decide (u.key=v.key) && decide (u.txs=v.txs))=decide (u=v):=by
 cases u;cases v
 rw [Yaa]
 simp
theorem Zq9 (u v:Zw):(decide (u.txs=v.txs) && decide (u.orders=v.orders))=decide (u=v):=by
 cases u;cases v
 rw [Yaa]
 simp
theorem ZmE (u v:TxD):FnP prog 17 [.agg (rTx u),.agg (rTx v)] (.bool (decide (u=v))):=by
 refine FnP.mk func17 Z ntmps17 Z fun B a w F V hfr O=>Ya ?_
 refine rS O (qx 101 r1 (qx 102 r1 qB)) V Jj QI fun τ O=>?_
 have O:=Xa
 generalize τ 2=v2,τ 3=v3 at O
 refine Za (Ya (rZ O (qg 0 101 r1 r1 (qa 101 r1 r1 (qg 0 102 r1 r1 (qa 102 r1 r1 (qf (o_eql .t .t) r2 qz (qR rr (qv 1 101 Z r2 r1 (qw 101 Z r2 r1 (qv 1 102 Z r2 r1 (qw 102 Z r2 r1 (qk Z (fun h=>ZpU underlying4 (.w h) (.w h)) r3 qz (qf (ZF .t .t) r2 qz (qR rr (qv 2 101 Z r2 r1 (qw 101 Z r2 r1 (qv 2 102 Z r2 r1 (qw 102 Z r2 r1 (qk Z (fun h=>oP (Zj8 u.ops v.ops) func59 (Args.two (.w h) (.w h))) r3 qz (qf (ZF .t .t) r2 qz (qO rr qZ)))))))))))))))))))) V [4] [0] fun O=>Yh ?_))
 refine Zx hfr O Z Z Z (.bool (ZtW u v))
theorem ZhD (u v:OrdD):FnP prog 55 [.agg (Zp u),.agg (Zp v)] (.bool (decide (u=v))):=by
 refine FnP.mk func55 Z ntmps55 Z fun B a w F V hfr O=>Ya ?_
 refine rS O (qx 101 r1 (qx 102 r1 qB)) V Jj QI fun τ O=>?_
 have O:=Xa
 generalize τ 2=v2,τ 3=v3 at O
 refine Za (Ya (rZ O (qg 0 101 r1 r1 (qa 101 r1 r1 (qg 0 102 r1 r1 (qa 102 r1 r1 (qf (o_eql .t .t) r2 qz (qR rr (qv 1 101 Z r2 r1 (qw 101 Z r2 r1 (qv 1 102 Z r2 r1 (qw 102 Z r2 r1 (qk Z (fun h=>oP (ZfF u.txs v.txs) func18 (Args.two (.w h) (.w h))) r3 qz (qf (ZF .t .t) r2 qz (qO rr qZ))))))))))))) V [4] [0] fun O=>Yh ?_))
 refine Zx hfr O Z Z Z (.bool (Zs4 u v))
theorem PVs.lenAt {α:Type} {R:α→List PV} {l:List α} {v:Value} {w:World} {y:Ys} (h:(PV.sl R l).p v w y):l.length≤9223372036854775807:=by
 obtain ⟨_,cap,_,h1,h2,_⟩:=h
 unfold maxLen at h2
 omega
theorem Sat.lenHist {B:Zb3} {E:En} {a:Act} {w:World} {F:Fp} (h:Sat B E a w F) {i:Nat} {u:Zw} (hl:Go.Gm.look E.s i=some (SF.pv (PV.agg (Zi u)))):u.txs.length≤9223372036854775807∧u.orders.length≤9223372036854775807:=by
 obtain ⟨vs,_,hp⟩:=h.s i _ hl
 match vs,hp with
 | [x,y],hp=>exact ⟨PVs.lenAt hp.1.2,PVs.lenAt hp.2.1.2⟩
theorem ZfH (u v:Zw):FnP prog 13 [.agg (Zi u),.agg (Zi v)] (.bool (decide (u=v))):=by
 refine FnP.mk func13 Z ntmps13 Z fun B a w F V hfr O=>?_
 obtain ⟨hxl,hyl⟩:=Sat.lenHist O (i:=0) rfl
 refine Ya (rS O (qx 101 r1 (qx 102 r1 qB)) V Jj QI fun τ O=>?_)
 have O:=Xa
 generalize τ 2=v2,τ 3=v3 at O
 refine Za (Ya (Ya (Zg O (qg 0 101 r1 r1 (qa 101 r1 r1 (qu YbR r1 (qg 0 102 r1 r1 (qa 102 r1 r1 (qu YbR r1 (qf (o_neq .t .t) r2 qz (qR rr (qv 1 101 Z r2 r1 (qw 101 Z r2 r1 (qk Z (fun h=>Zbp YbS (.w h)) r2 qz (qv 1 102 Z r2 r1 (qw 102 Z r2 r1 (qk Z (fun h=>Zbp YbS (.w h)) r2 qz (qk Z (fun h=>o_neq (.w h) (.w h)) r3 qz (qf (ZaB .t .t) r2 qz qZ)))))))))))))))) V [22,4,3,2] QI Z Z fun a w F O=>?_)))
 skip
 refine Za (Zb O Z (fun hc0=>?_) (fun hc0=>?_))
 ·have hg:false=decide (u=v):=by
    rw [Y8,Yi]
    intro h
    subst h
    simp at hc0
  refine Ya (rZ O qB V Jj QI fun O=>(Yh (Zd ?_)))
  refine Zx hfr O Z Z Z (.bool hg)
 have hTl:u.txs.length=v.txs.length:=WI
 have hOl:u.orders.length=v.orders.length:=WI
 refine Yd (Za (Ya (Ya (rZ O (qg 0 101 r1 r1 (qa 101 r1 r1 (qu YbR r1 (qJ qZ)))) V [26,25,4,3,2] QI fun O=>Ye ?_))))
 obtain ⟨F,O⟩:=O.nM [26,25,3,2] QI
 refine ZbL (σ:=Nat) (fun s=>(⟨[(2,.pv (.is v2)),(3,.pv (.is v3)),(25,.pv (.int .i64 u.txs.length)),(26,.pv (.int .i64 s))],[(0,frame B),(101,.pt (.val v2) 30 [.pv (.sl rTx u.txs),.pv (.sl Zp u.orders)]),(102,.pt (.val v3) 30 [.pv (.sl rTx v.txs),.pv (.sl Zp v.orders)])]⟩:En)) (fun s=>s≤u.txs.length ∧ ∀ j,j<s→Nn u.txs j=Nn v.txs j) (fun s=>u.txs.length - s) 0 O ⟨Yo _,fun j hj=>absurd hj (YI j)⟩ ?_
 clear O;intro i a w F hC O
 have hC:=X3
 have O:=X2
 obtain ⟨hi,hq⟩:=hC
 refine Ya (rZ O (qL r2) V [27,26,25,3,2] QI fun O=>Ya ?_)
 refine Zb O Z (fun hc1=>?_) (fun hc1=>?_)
 ·have hil:i<u.txs.length:=WH
  refine Yd (Za (Ya (Ye (Ya (rZ O (qR rr (qO rr qZ)) V [26,25,5,3,2] QI fun O=>Ya ?_)))))
  refine Zr O (qg 0 101 r1 r1 (qa 101 r1 r1 (qR rr (qy 3 YbR r2 (qf (oR true 3 .t) r1 qz (qg 0 102 r1 r1 (qa 102 r1 r1 (qR rr (qy 3 YbR r2 (qf (oR true 3 .t) r1 qz (qf (oP (ZmE (Nn u.txs (i:Int).toNat) (Nn v.txs (i:Int).toNat)) func17 (Args.two (.pagg .t) (.pagg .t))) r2 qz (qf (ZW .t) r1 qz qZ)))))))))))) V [40,26,25,3,2] QI Z Z fun a w F O=>?_
  have O:=XB
  refine Za (Zb O Z (fun hc2=>?_) (fun hc2=>?_))
  ·have hg:false=decide (u=v):=by
     rw [Y8,Yi]
     intro h
     subst h
     simp at hc2
   refine Ya (rZ O qB V [26,25,4,3,2] QI fun O=>(Yh (Zl (Zd (Zd (Zl (Zd ?_)))))))
   refine Zx hfr O Z Z Z (.bool hg)
  rw [Yf] at hc2
  have hqi:Nn u.txs i=Nn v.txs i:=WD
  refine Yd (Zf (Za (rZ O (qp r1 (qR rr qZ)) V [26,25,3,2] QI fun O=>?_)))
  replace O:=O.eI 26 i
  obtain ⟨F,O⟩:=O.nM [26,25,3,2] QI
  exact ⟨i+1,F,⟨ow,fun j hj=>by rcases Yw (YC hj) with h | h;exact hq j h;rw [h];exact hqi⟩,O,ow⟩
 have hT:u.txs=v.txs:=ZaX hTl fun j hj=>hq j WH
 clear hq hi
 refine Ym (Ze (Ze (Zk (Za (Ya (Ya (rZ O (qg 1 101 r1 r1 (qa 101 r1 r1 (qu YbS r1 (qJ qZ)))) V XaP QI fun O=>Ye ?_)))))))
 obtain ⟨F,O⟩:=O.nM XaP QI
 refine ZbL (σ:=Nat) (fun s=>(⟨[(2,.pv (.is v2)),(3,.pv (.is v3)),(44,.pv (.int .i64 u.orders.length)),(45,.pv (.int .i64 s))],[(0,frame B),(101,.pt (.val v2) 30 [.pv (.sl rTx u.txs),.pv (.sl Zp u.orders)]),(102,.pt (.val v3) 30 [.pv (.sl rTx v.txs),.pv (.sl Zp v.orders)])]⟩:En)) (fun s=>s≤u.orders.length ∧ ∀ j,j<s→Nn u.orders j=Nn v.orders j) (fun s=>u.orders.length - s) 0 O ⟨Yo _,fun j hj=>absurd hj (YI j)⟩ ?_
 clear O;intro i a w F hC O
 have hC:=X3
 have O:=X2
 obtain ⟨hi,hq⟩:=hC
 refine Ya (rZ O (qL r2) V [46,45,44,3,2] QI fun O=>Ya ?_)
 refine Zb O Z (fun hc3=>?_) (fun hc3=>?_)
 ·have hil:i<u.orders.length:=WV
  refine Yd (Za (Ya (Ye (Ya (Zg O (qR rr (qO rr qZ)) V [45,44,6,3,2] QI Z Z fun a w F O=>?_)))))
  skip
  refine Za (Ya (Zr O (qg 1 101 r1 r1 (qa 101 r1 r1 (qR rr (qy 2 YbS r2 (qf (oR true 2 .t) r1 qz (qg 1 102 r1 r1 (qa 102 r1 r1 (qR rr (qy 2 YbS r2 (qf (oR true 2 .t) r1 qz (qf (oP (ZhD (Nn u.orders (i:Int).toNat) (Nn v.orders (i:Int).toNat)) func55 (Args.two (.pagg .t) (.pagg .t))) r2 qz (qf (ZW .t) r1 qz qZ)))))))))))) V [59,45,44,3,2] QI Z Z fun a w F O=>?_))
  have O:=XB
  refine Za (Zb O Z (fun hc4=>?_) (fun hc4=>?_))
  ·have hg:false=decide (u=v):=by
     rw [Y8,Yi]
     intro h
     subst h
     simp at hc4
   refine Ya (rZ O qB V [45,44,4,3,2] QI fun O=>(Yh (Zl (Zd (Zd (Zl (Zd ?_)))))))
   refine Zx hfr O Z Z Z (.bool hg)
  rw [Yf] at hc4
  have hqi:Nn u.orders i=Nn v.orders i:=KE
  refine Yd (Zf (Za (rZ O (qp r1 (qR rr qZ)) V XaP QI fun O=>?_)))
  replace O:=O.eI 45 i
  obtain ⟨F,O⟩:=O.nM XaP QI
  exact ⟨i+1,F,⟨ow,fun j hj=>by rcases Yw (YC hj) with h | h;exact hq j h;rw [h];exact hqi⟩,O,ow⟩
 have hO:u.orders=v.orders:=ZaX hOl fun j hj=>hq j WV
 have hg:true=decide (u=v):=by
   rw [← Zq9,hT,hO]
   simp
 refine Ym (Ze (Ze (Zk (Za (Ya (rZ O qB V [4] [0] fun O=>Yh ?_))))))
 refine Zx hfr O Z Z Z (.bool hg)
theorem Zod (x:List OpD) (hx:x.length≤1000000):FnP prog 86 [.sl rOp x] (.sl rOp x):=by
 refine FnP.mk func86 Z ntmps86 Z fun B a w F V hfr O=>Ya ?_
 refine rZ O (qC qZ) V Ju [0] fun O=>(Ya (Ya ?_))
 refine Zg O (qR rr (qf (Zdg YbU .t) r1 qz qZ)) V DX [0] Z Z fun a w F O=>?_
 obtain ⟨β4,hβ4,O⟩:=O.pickBool 4 rfl
 obtain ⟨F,O⟩:=O.nM DX [0]
 refine Za (Zb O Z (fun hc0=>?_) (fun hc0=>?_))
 ·refine Ya (rZ O (qC qZ) V Ju [0] fun O=>(Yh (Zd ?_)))
  replace O:=O.ent (i:=2) (s':=.pv (.sl rOp x)) Z (by rw [hβ4 Wz];exact .nilSl)
  refine Zx hfr O Z Z Z .refl
 refine Yd (Za (Ya (rS O (qf (ZaI (R:=rOp) (sz:=4) 101 YbU kr) trivial qz (qR rr (qf (o_append (sz:=4) (bs:=32) 101 (.mk' YbU kr kr) Wt .same (.sl .t) WW We) ⟨rfl,rfl,tv⟩ ⟨rfl,tv⟩ (qO rr qZ)))) V [2] QK fun τ O=>?_)))
 have O:=XK
 generalize τ 7=v7 at O
 refine Za (Yh ?_)
 obtain ⟨F,O⟩:=O.give 101 2 Z rfl
 refine Zx hfr O Z Z Z .refl
theorem Zl1 (x:List Int) (hx:x.length≤1000000):FnP prog 91 [.sl Zo x] (.sl Zo x):=by
 refine FnP.mk func91 Z ntmps91 Z fun B a w F V hfr O=>Ya ?_
 refine rZ O (qC qZ) V Ju [0] fun O=>(Ya (Ya ?_))
 refine Zg O (qR rr (qf (Zdg YbT .t) r1 qz qZ)) V DX [0] Z Z fun a w F O=>?_
 obtain ⟨β4,hβ4,O⟩:=O.pickBool 4 rfl
 obtain ⟨F,O⟩:=O.nM DX [0]
 refine Za (Zb O Z (fun hc0=>?_) (fun hc0=>?_))
 ·refine Ya (rZ O (qC qZ) V Ju [0] fun O=>(Yh (Zd ?_)))
  replace O:=O.ent (i:=2) (s':=.pv (.sl Zo x)) Z (by rw [hβ4 Wz];exact .nilSl)
  refine Zx hfr O Z Z Z .refl
 refine Yd (Za (Ya (rS O (qf (ZaI (R:=Zo) (sz:=1) 101 YbT kr) trivial qz (qR rr (qf (o_append (sz:=1) (bs:=8) 101 (.mk' YbT kr kr) Wt .same (.sl .t) WW We) ⟨rfl,rfl,tv⟩ ⟨rfl,tv⟩ (qO rr qZ)))) V [2] QK fun τ O=>?_)))
 have O:=XK
 generalize τ 7=v7 at O
 refine Za (Yh ?_)
 obtain ⟨F,O⟩:=O.give 101 2 Z rfl
 refine Zx hfr O Z Z Z .refl
theorem ZuE (x:List TxD) (hx:x.length≤1000000) (hx2:∀ t ∈ x,t.ops.length≤1000000):FnP prog 115 [.sl rTx x] (.sl rTx x):=by
 refine FnP.mk func115 Z ntmps115 Z fun B a w F V hfr O=>Ya ?_
 refine rZ O (qC qZ) V Ju [0] fun O=>Ya ?_
 refine rZ O (qC qZ) V JR [0] fun O=>(Ya (Ya ?_))
 refine rZ O (qR rr (qu YbR r1 (qJ qZ))) V [8,7,6,3,2] [0] fun O=>Ye ?_
 replace O:=O.fresh 50 rfl
 replace O:=O.turn 50 Z (Zas (T:=36) (sz:=3) (R:=rTx))
 obtain ⟨F,O⟩:=O.nM GV QU
 refine ZbL (σ:=(Nat×Value)) (fun s=>(⟨[(3,.pv (.is s.2)),(6,.pv (.sl rTx x)),(7,.pv (.int .i64 x.length)),(8,.pv (.int .i64 s.1))],[(0,frame B),(50,RS.ob (.val s.2) (ZM 36 3 rTx (x.take s.1)))]⟩:En)) (fun s=>s.1≤x.length) (fun s=>x.length - s.1) (0,.slice none 0 0) O (Yo _) ?_
 clear O;intro s a w F hC O
 obtain ⟨i,v⟩:=s
 have hC:=X3
 have O:=X2
 have hi:i≤x.length:=hC
 refine Ya (rZ O (qL r2) V [9,8,7,6,3] QU fun O=>Ya ?_)
 refine Zb O Z (fun hc0=>?_) (fun hc0=>?_)
 ·have hil:i<x.length:=WI
  refine Yd (Za (Ya (Ye (Ya (rS O (qy 3 YbR r2 (qf (oR true 3 .t) r1 qz (qf (oH [.int .i64 0,.bool false,.slice none 0 0] 101) trivial qz (qS 3 101 r2 r1 qZ)))) V [8,7,6,5,3] QQ fun τ O=>?_)))))
  have O:=Xk
  generalize τ 5=v5 at O
  rw [Yf] at O
  have hcl:=hx2 _ (ZP hil)
  refine Za (Ya (rZ O (qg 2 101 r1 r1 (qa 101 r1 r1 (qf (oP (Zod (Nn x i).ops hcl) func86 (Args.one .t)) r1 qz (qg 2 101 r1 r1 (qf (ZbI 101 .adr .t Zaf kr kr) r2 r1 qZ))))) V [8,7,6,5,3] QQ fun O=>?_))
  refine rS O (qR rr (qe 3 101 r1 r1 (qf (o_buildSliceE (sz:=3) (zs:=[.int .i64 0,.bool false,.slice none 0 0]) (r:=[(0,.tmp 17)]) (l:=[_,_,_]) YbR kr kr kr kr Z Z (.agg Z .t kr kr .nil) Z) r1 qz (qf (o_append (sz:=3) (bs:=40) 50 (.mk' YbR kr kr) Wt .is (.arr (l':=[Nn x i]) .t) (by simp only [Yl,Yn,Yk];omega) We) ⟨rfl,rfl,tv⟩ ⟨rfl,tv⟩ (qO rr qZ))))) V GV QU fun τ O=>?_
  have O:=Xk
  generalize τ 19=v19 at O
  refine Zf (Za (rZ O (qp r1 (qR rr qZ)) V GV QU fun O=>?_))
  rw [Zg1 hil] at O
  replace O:=O.eI 8 i
  obtain ⟨F,O⟩:=O.nM GV QU
  exact ⟨(i+1,v19),F,by dsimp only;omega,O,by dsimp only;omega⟩
 have hil:i=x.length:=WI
 rw [show x.take i=x by rw [hil,Yy]] at O
 refine Ym (Ze (Ze (Zk (Za (Ya (rZ O (qR rr (qO rr qZ)) V [2] QU fun O=>Yh ?_))))))
 obtain ⟨F,O⟩:=O.give 50 2 Z rfl
 refine Zx hfr O Z Z Z .refl
theorem Zq7 (x:List OrdD) (hx:x.length≤1000000) (hx2:∀ t ∈ x,t.txs.length≤1000000):FnP prog 116 [.sl Zp x] (.sl Zp x):=by
 refine FnP.mk func116 Z ntmps116 Z fun B a w F V hfr O=>Ya ?_
 refine rZ O (qC qZ) V Ju [0] fun O=>Ya ?_
 refine rZ O (qC qZ) V JR [0] fun O=>(Ya (Ya ?_))
 refine rZ O (qR rr (qu YbS r1 (qJ qZ))) V [8,7,6,3,2] [0] fun O=>Ye ?_
 replace O:=O.fresh 50 rfl
 replace O:=O.turn 50 Z (Zas (T:=39) (sz:=2) (R:=Zp))
 obtain ⟨F,O⟩:=O.nM GV QU
 refine ZbL (σ:=(Nat×Value)) (fun s=>(⟨[(3,.pv (.is s.2)),(6,.pv (.sl Zp x)),(7,.pv (.int .i64 x.length)),(8,.pv (.int .i64 s.1))],[(0,frame B),(50,RS.ob (.val s.2) (ZM 39 2 Zp (x.take s.1)))]⟩:En)) (fun s=>s.1≤x.length) (fun s=>x.length - s.1) (0,.slice none 0 0) O (Yo _) ?_
 clear O;intro s a w F hC O
 obtain ⟨i,v⟩:=s
 have hC:=X3
 have O:=X2
 have hi:i≤x.length:=hC
 refine Ya (rZ O (qL r2) V [9,8,7,6,3] QU fun O=>Ya ?_)
 refine Zb O Z (fun hc0=>?_) (fun hc0=>?_)
 ·have hil:i<x.length:=WI
  refine Yd (Za (Ya (Ye (Ya (rS O (qy 2 YbS r2 (qf (oR true 2 .t) r1 qz (qf (oH [.int .i64 0,.slice none 0 0] 101) trivial qz (qS 2 101 r2 r1 qZ)))) V [8,7,6,5,3] QQ fun τ O=>?_)))))
  have O:=Xk
  generalize τ 5=v5 at O
  rw [Yf] at O
  have hcl:=hx2 _ (ZP hil)
  refine Za (rT O (qR rr (qg 0 101 r1 r1 (qa 101 r1 r1 (qg 1 101 r1 r1 (qa 101 r1 r1 (qf (oP (Zl1 (Nn x i).txs hcl) func91 (Args.one .t)) r1 qz (qf (oB [(0,.tmp 14),(1,.tmp 17)] [.int .i64 0,.slice none 0 0] [(0,1),(1,1)] (.one Z .t one_int kr (.one Z .t Zaf kr .nil))) r2 qz (qf (o_buildSliceE (sz:=2) (zs:=[.int .i64 0,.slice none 0 0]) (r:=[(0,.tmp 18)]) (l:=[_,_]) YbS kr kr kr kr Z Z (.agg Z .t kr kr .nil) Z) r1 qz (qf (o_append (sz:=2) (bs:=32) 50 (.mk' YbS kr kr) Wt .is (.arr (l':=[Nn x i]) .t) (by simp only [Yl,Yn,Yk];omega) We) ⟨rfl,rfl,tv⟩ ⟨rfl,tv⟩ (qO rr qZ)))))))))) V GV QU fun τ O=>?_)
  have O:=Xk
  generalize τ 20=v20 at O
  refine Zf (Za (rZ O (qp r1 (qR rr qZ)) V GV QU fun O=>?_))
  rw [Zg1 hil] at O
  replace O:=O.eI 8 i
  obtain ⟨F,O⟩:=O.nM GV QU
  exact ⟨(i+1,v20),F,by dsimp only;omega,O,by dsimp only;omega⟩
 have hil:i=x.length:=WI
 rw [show x.take i=x by rw [hil,Yy]] at O
 refine Ym (Ze (Ze (Zk (Za (Ya (rZ O (qR rr (qO rr qZ)) V [2] QU fun O=>Yh ?_))))))
 obtain ⟨F,O⟩:=O.give 50 2 Z rfl
 refine Zx hfr O Z Z Z .refl
def ZnO (l:List TxD):Prop:=l.length≤1000000 ∧ ∀ t ∈ l,t.ops.length≤1000000
def Zh9 (l:List OrdD):Prop:=l.length≤1000000 ∧ ∀ t ∈ l,t.txs.length≤1000000
structure DOk (d:ZK):Prop where
 was:ZnO d.was
 now:ZnO d.now
 old:Zh9 d.old
 new:Zh9 d.new
def inv (d:ZK):ZK:=⟨d.now,d.was,d.new,d.old⟩
section
variable {α:Type} {κ:α→Int}
def ZH (κ:α→Int) (l:List α) (n:Int):Option α:=l.find? fun x=>decide (κ x=n)
theorem ZiV [Inhabited α] {l:List α} {n:Int} {i:Nat} (hi:i<l.length) (h:κ (Nn l i)=n) (hq:∀ k,k<i→κ (Nn l k)≠n):ZH κ l n=some (Nn l i):=by
 unfold ZH
 rw [Ya6]
 refine ⟨by simpa using h,i,hi,(Zu hi).symm,fun j hj=>?_⟩
 have:=hq j hj
 rw [Zu ow] at this
 simpa using this
theorem ZfS [Inhabited α] {l:List α} {n:Int} (hq:∀ k,k<l.length→κ (Nn l k)≠n):ZH κ l n=none:=by
 unfold ZH
 rw [YaV]
 intro x hx
 obtain ⟨k,hk,e⟩:=YL hx
 have:=hq k hk
 rw [Zu hk,e] at this
 simpa using this
theorem ZeY {l:List α} {n:Int} {x:α} (h:ZH κ l n=some x):x ∈ l∧κ x=n:=⟨List.mem_of_find?_eq_some h,by have:=List.find?_some h;simpa using this⟩
theorem Zl3 {l:List α} (h:Unl κ l) {x y:α} (hx:x ∈ l) (hy:y ∈ l) (e:κ x=κ y):x=y:=by
 obtain ⟨i,hi,rfl⟩:=YL hx
 obtain ⟨j,hj,rfl⟩:=YL hy
 have hp:=Y9.1 h
 rcases Ybw i j with h1 | h1 | h1
 ·exact absurd e (hp i j hi hj h1)
 ·subst h1;rfl
 ·exact absurd e.symm (hp j i hj hi h1)
theorem Zor {l:List α} (h:Unl κ l) {x:α} (hx:x ∈ l):ZH κ l (κ x)=some x:=by
 cases e:ZH κ l (κ x) with
 | none=>
  unfold ZH at e
  rw [YaV] at e
  exact absurd W5 (e x hx)
 | some y=>rw [Zl3 h (ZeY e).1 hx (ZeY e).2]
theorem Zd2 {l:List α} {n:Int} : (ZH κ l n).isSome=true ↔ ∃ x ∈ l,κ x=n:=by
 unfold ZH
 rw [List.find?_isSome]
 simp
theorem ZnA {l:List α} {n:Int} : (ZH κ l n).isNone=true ↔ ∀ x ∈ l,κ x≠n:=by
 unfold ZH
 rw [Option.isNone_iff_eq_none,YaV]
 simp
theorem Zd5 [Inhabited α] {l:List α} (h:∀ i,i+1<l.length→κ (Nn l i)<κ (Nn l (i+1))):ZZ κ l:=by
 have hk:∀ d i,i+d+1<l.length→κ (Nn l i)<κ (Nn l (i+d+1)):=by
  intro d
  induction d with
  | zero=>exact h
  | succ d ih=>intro i hi;exact Ybd (ih i ow) (h (i+d+1) hi)
 refine Y9.2 fun i j hi hj hij=>?_
 have:=hk (j - i - 1) i ow
 rw [show i+(j - i - 1)+1=j by omega,Zu hi,Zu hj] at this
 exact this
theorem Zgn [Inhabited α] {l:List α} (h:ZZ κ l) {i:Nat} (hi:i+1<l.length):κ (Nn l i)<κ (Nn l (i+1)):=by
 rw [Zu ow,Zu hi]
 exact Y9.1 h i (i+1) ow hi ow
def Zc8 (κ:α→Int) (l was now:List α):List α:=Zak κ ((l.filter fun x=>(ZH κ was (κ x)).isNone)++now)
theorem Zd4 {l was now:List α} {x:α} : x ∈ Zc8 κ l was now ↔ (x ∈ l ∧ ∀ y ∈ was,κ y≠κ x)∨x ∈ now:=by
 unfold Zc8
 rw [(ZaG _).mem_iff,YH,YV,ZnA]
theorem Zgv {l was now:List α} : (Zc8 κ l was now).length≤l.length+now.length:=by
 unfold Zc8
 rw [ZcV,Yc]
 have:=YJ (fun x=>(ZH κ was (κ x)).isNone) l
 omega
variable [DecidableEq α]
def Zaa (κ:α→Int) (a b:List α):List α:=a.filter fun x=>decide (ZH κ b (κ x)≠some x)
theorem Zb7 (a b:List α):(Zaa κ a b).length≤a.length:=YJ _ _
theorem ZdN {a b:List α} {x:α} (h:x ∈ Zaa κ a b):x ∈ a:=(YV.1 h).1
theorem Zdf {a b:List α} (hb:Unl κ b) {x:α} : x ∈ Zaa κ a b ↔ x ∈ a∧x ∉ b:=by
 unfold Zaa
 rw [YV]
 refine and_congr_right fun _=>?_
 rw [Yj]
 exact YbH ⟨fun e=>(ZeY e).1,fun e=>Zor hb e⟩
def ZaZ (κ:α→Int) (l was now:List α):Bool:=decide (Zaa κ was l = []) && now.all fun x=>!((ZH κ l (κ x)).isSome && !(ZH κ was (κ x)).isSome)
theorem ZdL {a b:List α} (h:ZZ κ a):ZZ κ (Zaa κ a b):=h.sublist Ybm
theorem Zhb {a b:List α} (ha:ZZ κ a) (hb:ZZ κ b):ZaZ κ a (Zaa κ a b) (Zaa κ b a)=true:=by
 unfold ZaZ
 rw [Yx,Yj,Yam]
 refine ⟨List.eq_nil_iff_forall_not_mem.2 fun x hx=>?_,fun x hx=>?_⟩
 ·have h1:=(Zdf ha.unl).1 hx
  exact h1.2 (ZdN h1.1)
 ·have h1:=(Zdf ha.unl).1 hx
  cases e:(ZH κ a (κ x)).isSome with
  | false=>rfl
  | true=>
   obtain ⟨y,hy,ey⟩:=Zd2.1 e
   have:(ZH κ (Zaa κ a b) (κ x)).isSome=true:=Zd2.2 ⟨y,(Zdf hb.unl).2 ⟨hy,fun h2=>h1.2 (by rw [← Zl3 hb.unl h2 h1.1 ey];exact hy)⟩,ey⟩
   rw [this];rfl
theorem Zgl {l was now:List α} (hl:Unl κ l) (hn:Unl κ now) (hf:ZaZ κ l was now=true):Unl κ ((l.filter fun x=>(ZH κ was (κ x)).isNone)++now):=by
 unfold ZaZ at hf
 rw [Yx,Yj,Yam] at hf
 refine Y4.2 ⟨hl.sublist Ybm,hn,fun x hx y hy e=>?_⟩
 have h1:=YV.1 hx
 have h2:=hf.2 y hy
 have h3:(ZH κ l (κ y)).isSome=true:=Zd2.2 ⟨x,h1.1,e⟩
 have h4:(ZH κ was (κ y)).isSome=false:=by
  cases e2:(ZH κ was (κ y)).isSome with
  | false=>rfl
  | true=>
   obtain ⟨z,hz,ez⟩:=Zd2.1 e2
   exact absurd (ez.trans e.symm) (ZnA.1 h1.2 z hz)
 rw [h3,h4] at h2
 cases h2
theorem Zki {l was now:List α} (hl:Unl κ l) (hn:Unl κ now) (hf:ZaZ κ l was now=true):ZZ κ (Zc8 κ l was now):=Zbc (Zgl hl hn hf)
theorem Zks {a b:List α} (ha:ZZ κ a) (hb:ZZ κ b):Zc8 κ a (Zaa κ a b) (Zaa κ b a)=b:=by
 refine Ze5 (Zki ha.unl (ZdL hb).unl (Zhb ha hb)) hb fun x=>?_
 rw [Zd4,Zdf ha.unl]
 constructor
 ·rintro (⟨h1,h2⟩ | ⟨h1,_⟩)
  ·refine Y3 fun h3=>h2 x ((Zdf hb.unl).2 ⟨h1,h3⟩) rfl
  ·exact h1
 ·intro h1
  by_cases h2:x ∈ a
  ·exact .inl ⟨h2,fun y hy e=>by
   have h3:=(Zdf hb.unl).1 hy
   exact h3.2 (by rw [Zl3 ha.unl h3.1 h2 e];exact h1)⟩
  ·exact .inr ⟨h1,h2⟩
end
def Zcy (d:ZK):Prop:=ZZ TxD.id d.was∧ZZ TxD.id d.now∧ZZ OrdD.key d.old∧ZZ OrdD.key d.new
instance (d:ZK):Decidable (Zcy d):=by unfold Zcy;exact inferInstance
def noD:ZK:=⟨[],[],[],[]⟩
def noH:Zw:=⟨[],[]⟩
def ofD (h g:Zw):ZK×Int:=if ZG h∧ZG g then (⟨Zaa TxD.id h.txs g.txs,Zaa TxD.id g.txs h.txs,Zaa OrdD.key h.orders g.orders,Zaa OrdD.key g.orders h.orders⟩,0) else (noD,5)
def Zcm (h:Zw) (d:ZK):Bool:=ZaZ TxD.id h.txs d.was d.now && ZaZ OrdD.key h.orders d.old d.new
def Zca (h:Zw) (d:ZK):Zw:=⟨Zc8 TxD.id h.txs d.was d.now,Zc8 OrdD.key h.orders d.old d.new⟩
def ZE (h:Zw) (d:ZK):Zw×Int:=if ¬ (ZG h∧Zcy d) then (noH,5) else if Zcm h d=false then (noH,17) else if ZG (Zca h d) then (Zca h d,0) else (noH,8)
theorem ZG.rise {h:Zw} (hr:ZG h):ZZ TxD.id h.txs∧ZZ OrdD.key h.orders:=by
 refine ⟨Zd5 fun i hi=>?_,Zd5 fun i hi=>?_⟩
 ·have:=(hr.2.1 (i+1) hi).1 ow
  simpa using this
 ·have:=(((Zdk h).2 hr.2.2).2 (i+1) hi).1 ow
  simpa using this
theorem ZiW {h g:Zw} (h1:ZG h) (h2:ZG g):ZE h (ofD h g).1=(g,0):=by
 have r1:=h1.rise
 have r2:=h2.rise
 have hD:Zcy (ofD h g).1:=by unfold ofD;rw [Yg ⟨h1,h2⟩];exact ⟨ZdL r1.1,ZdL r2.1,ZdL r1.2,ZdL r2.2⟩
 have hF:Zcm h (ofD h g).1=true:=by unfold ofD Zcm;rw [Yg ⟨h1,h2⟩];dsimp only;rw [Zhb r1.1 r2.1,Zhb r1.2 r2.2];rfl
 have hT:Zca h (ofD h g).1=g:=by unfold ofD Zca;rw [Yg ⟨h1,h2⟩];dsimp only;rw [Zks r1.1 r2.1,Zks r1.2 r2.2]
 unfold ZE
 rw [Yb (by simp [h1,hD]),hF,Yb W5,hT,Yg h2]
theorem Zsd (x y:List OpD):FnP prog 165 [.sl rOp x,.sl rOp y] (.bool (decide (x=y))):=by
 refine FnP.mk func165 Z ntmps165 Z fun B a w F V hfr O=>?_
 have hxl:=Sat.lenSl O (i:=0) rfl
 refine Ya (rZ O qB V J0 [0] fun O=>(Ya (Ya ?_)))
 refine rZ O (qR rr (qu YbU r1 (qR rr (qu YbU r1 (qf (o_neq .t .t) r2 qz qZ))))) V XaU [0] fun O=>?_
 refine Zb O Z (fun hc0=>?_) (fun hc0=>?_)
 ·have hg:false=decide (x=y):=by
    rw [Y8,Yi]
    intro h
    subst h
    simp at hc0
  refine Ya (rZ O qB V J0 [0] fun O=>(Yh (Zd ?_)))
  refine Zx hfr O Z Z Z (.bool hg)
 have hl:x.length=y.length:=WI
 refine Yd (Za (Ya (Ya (rZ O (qR rr (qu YbU r1 (qJ qZ))) V G5 [0] fun O=>Ye ?_))))
 obtain ⟨F,O⟩:=O.nM JH [0]
 refine ZbL (σ:=Nat) (fun s=>(⟨[(0,.pv (.sl rOp x)),(1,.pv (.sl rOp y)),(12,.pv (.int .i64 x.length)),(13,.pv (.int .i64 s))],[(0,frame B)]⟩:En)) (fun s=>s≤x.length ∧ ∀ j,j<s→Nn x j=Nn y j) (fun s=>x.length - s) 0 O ⟨Yo _,fun j hj=>absurd hj (YI j)⟩ ?_
 clear O;intro i a w F hC O
 have hC:=X3
 have O:=X2
 obtain ⟨hi,hq⟩:=hC
 refine Ya (rZ O (qL r2) V DV [0] fun O=>Ya ?_)
 refine Zb O Z (fun hc1=>?_) (fun hc1=>?_)
 ·have hil:i<x.length:=WH
  refine Yd (Za (Ya (Ye (Ya (rZ O (qR rr (qO rr qZ)) V Xad [0] fun O=>Ya ?_)))))
  refine Zr O (qR rr (qR rr (qy 4 YbU r2 (qf (oR true 4 .t) r1 qz (qR rr (qR rr (qy 4 YbU r2 (qf (oR true 4 .t) r1 qz (qf (Zqa (ks:=[false,true,true,true]) kr .t .t (.bool (.int (.int (.int .nil))))) r2 qz qZ))))))))) V DW [0] Z Z fun a w F O=>?_
  have O:=XB
  refine Za (Zb O Z (fun hc2=>?_) (fun hc2=>?_))
  ·have hg:false=decide (x=y):=by
     rw [Y8,Yi]
     intro h
     subst h
     simp at hc2
   refine Ya (rZ O qB V G5 [0] fun O=>(Yh (Zl (Zd (Zd (Zl (Zd ?_)))))))
   refine Zx hfr O Z Z Z (.bool hg)
  rw [Yf] at hc2
  have hqi:Nn x i=Nn y i:=Zsr hc2
  refine Yd (Zf (Za (rZ O (qp r1 (qR rr qZ)) V JH [0] fun O=>?_)))
  replace O:=O.eI 13 i
  obtain ⟨F,O⟩:=O.nM JH [0]
  exact ⟨i+1,F,⟨ow,fun j hj=>by rcases Yw (YC hj) with h | h;exact hq j h;rw [h];exact hqi⟩,O,ow⟩
 have hg:true=decide (x=y):=by
   rw [Y8,Yj]
   exact ZaX hl fun j hj=>hq j WH
 refine Ym (Ze (Ze (Zk (Za (Ya (rZ O qB V [4] [0] fun O=>Yh ?_))))))
 refine Zx hfr O Z Z Z (.bool hg)
theorem ZoN (u v:TxD):((decide (u.id=v.id) && (u.done == v.done)) && decide (u.ops=v.ops))=decide (u=v):=by
 cases u;cases v
 rw [Yaa]
 simp [YbO]
theorem Zrw (x y:List OpD):FnP prog 101 [.sl rOp x,.sl rOp y] (.bool (decide (x=y))):=by
 refine FnP.mk func101 Z ntmps101 Z fun B a w F V hfr O=>Ya ?_
 refine rZ O qB V J0 [0] fun O=>Ya ?_
 refine rZ O (qR rr (qR rr (qf (oP (Zsd x y) func165 (Args.two .t .t)) r2 qz (qO rr qZ)))) V [4] [0] fun O=>Yh ?_
 refine Zx hfr O Z Z Z .refl
theorem Zrp (u v:TxD):FnP prog 42 [.agg (rTx u),.agg (rTx v)] (.bool (decide (u=v))):=by
 refine FnP.mk func42 Z ntmps42 Z fun B a w F V hfr O=>Ya ?_
 refine rS O (qx 101 r1 (qx 102 r1 qB)) V Jj QI fun τ O=>?_
 try dsimp only [RS.sub,SF.sub,CF.sub,csub,Anc.sub,List.map,zCF,rTx,rOp] at O
 generalize τ 2=v2,τ 3=v3 at O
 refine Za (Ya (rZ O (qg 0 101 r1 r1 (qa 101 r1 r1 (qg 0 102 r1 r1 (qa 102 r1 r1 (qf (o_eql .t .t) r2 qz (qR rr (qv 1 101 Z r2 r1 (qw 101 Z r2 r1 (qv 1 102 Z r2 r1 (qw 102 Z r2 r1 (qk Z (fun h=>ZpU underlying4 (.w h) (.w h)) r3 qz (qf (ZF .t .t) r2 qz (qR rr (qv 2 101 Z r2 r1 (qw 101 Z r2 r1 (qv 2 102 Z r2 r1 (qw 102 Z r2 r1 (qk Z (fun h=>oP (Zrw u.ops v.ops) func101 (Args.two (.w h) (.w h))) r3 qz (qf (ZF .t .t) r2 qz (qO rr qZ)))))))))))))))))))) V [4] QI fun O=>Yh ?_))
 refine Zx hfr O Z Z Z (.bool (ZoN u v))
theorem ZlA (u v:TxD):FnP prog 17 [.agg (rTx u),.agg (rTx v)] (.bool (decide (u=v))):=by
 refine FnP.mk func17 Z ntmps17 Z fun B a w F V hfr O=>Ya ?_
 refine rS O (qx 101 r1 (qx 102 r1 qB)) V Jj QI fun τ O=>?_
 try dsimp only [RS.sub,SF.sub,CF.sub,csub,Anc.sub,List.map,zCF,rTx,rOp] at O
 generalize τ 2=v2,τ 3=v3 at O
 refine Za (Ya (rZ O (qg 0 101 r1 r1 (qa 101 r1 r1 (qg 0 102 r1 r1 (qa 102 r1 r1 (qf (o_eql .t .t) r2 qz (qR rr (qv 1 101 Z r2 r1 (qw 101 Z r2 r1 (qv 1 102 Z r2 r1 (qw 102 Z r2 r1 (qk Z (fun h=>ZpU underlying4 (.w h) (.w h)) r3 qz (qf (ZF .t .t) r2 qz (qR rr (qv 2 101 Z r2 r1 (qw 101 Z r2 r1 (qv 2 102 Z r2 r1 (qw 102 Z r2 r1 (qk Z (fun h=>oP (Zj8 u.ops v.ops) func59 (Args.two (.w h) (.w h))) r3 qz (qf (ZF .t .t) r2 qz (qO rr qZ)))))))))))))))))))) V [4] QI fun O=>Yh ?_))
 refine Zx hfr O Z Z Z (.bool (ZoN u v))
def ZhC:OrdD:=⟨0,[]⟩
theorem Zr8 (u v:OrdD):FnP prog 80 [.agg (Zp u),.agg (Zp v)] (.bool (decide (u=v))):=by
 refine FnP.mk func80 Z ntmps80 Z fun B a w F V hfr O=>Ya ?_
 refine rS O (qx 101 r1 (qx 102 r1 qB)) V Jj QI fun τ O=>?_
 have O:=X1
 generalize τ 2=v2,τ 3=v3 at O
 refine Za (Ya (rZ O (qg 0 101 r1 r1 (qa 101 r1 r1 (qg 0 102 r1 r1 (qa 102 r1 r1 (qf (o_eql .t .t) r2 qz (qR rr (qv 1 101 Z r2 r1 (qw 101 Z r2 r1 (qv 1 102 Z r2 r1 (qw 102 Z r2 r1 (qk Z (fun h=>oP (Ztk u.txs v.txs) func143 (Args.two (.w h) (.w h))) r3 qz (qf (ZF .t .t) r2 qz (qO rr qZ))))))))))))) V [4] QI fun O=>Yh ?_))
 refine Zx hfr O Z Z Z (.bool ZsQ)
theorem ZjD (x:TxD):FnP prog 77 [.agg (rTx x)] (.int .i64 x.id):=by
 refine FnP.mk func77 Z ntmps77 Z fun B a w F V hfr O=>Ya ?_
 refine rS O (qx 101 r1 (qI qZ)) V J5 QK fun τ O=>?_
 have O:=X1
 generalize τ 1=v1 at O
 refine Za (Ya (rZ O (qg 0 101 r1 r1 (qa 101 r1 r1 (qO rr qZ))) V [2] QK fun O=>Yh ?_))
 refine Zx hfr O Z Z Z (.int Z)
theorem Zjn (x:OrdD):FnP prog 79 [.agg (Zp x)] (.int .i64 x.key):=by
 refine FnP.mk func79 Z ntmps79 Z fun B a w F V hfr O=>Ya ?_
 refine rS O (qx 101 r1 (qI qZ)) V J5 QK fun τ O=>?_
 have O:=X1
 generalize τ 1=v1 at O
 refine Za (Ya (rZ O (qg 0 101 r1 r1 (qa 101 r1 r1 (qO rr qZ))) V [2] QK fun O=>Yh ?_))
 refine Zx hfr O Z Z Z (.int Z)
theorem Znf (l:List TxD) (hll:l.length≤1000000):FnP prog 176 [.sl rTx l,.clos 77 []] (.bool (decide (ZZ TxD.id l))):=by
 refine FnP.mk func176 Z ntmps176 Z fun B a w F V hfr O=>Ya ?_
 refine rZ O qB V J0 [0] fun O=>(Ya (Ya ?_))
 refine rZ O (qI qZ) V J6 [0] fun O=>Ye ?_
 replace O:=O.ent (i:=5) (s':=.pv (.int .i64 ((0+1:Nat):Int))) Z (.int Z)
 refine Zh (σ:=Nat) [0,1,4] [0] (fun s=>[(5,.pv (.int .i64 ((s+1:Nat):Int)))]) (fun s=>[]) (fun s=>∀ q,q<s→q+1<l.length→TxD.id (Nn l q)<TxD.id (Nn l (q+1))) (fun s=>l.length - s) (0) O ⟨rfl,rfl,rfl,rfl,tv⟩ ⟨rfl,tv⟩ (fun q hq=>absurd hq (YI q)) ?_
 clear O;intro i a w F hC O
 have hC:=X3
 obtain ⟨F,O⟩:=O.nM J6 [0]
 have O:=X2
 have hq:=hC
 refine Ya (Ya (rZ O (qR rr (qR rr (qu YbR r1 (qL r2)))) V [9,5,4,1,0] [0] fun O=>?_))
 refine Zb O Z (fun hc0=>?_) (fun hc0=>?_)
 ·have hil:i+1<l.length:=WI
  have hwi:IntKind.wrap .i64 (((i+1:Nat):Int) - 1)=(i:Int):=K8
  refine Yd (Za (Ya (Ye (Ya (Zr O (qR rr (qR rr (qR rr (qf (o_sub .t qi) r1 qz (qf (Zah (sz:=3) (.mk YbR kr) Wt .t .t WX WX) r2 qz (qf (oR true 3 .t) r1 qz (qf (o_callClosP (avs:=[.agg (rTx (Nn l (IntKind.wrap .i64 (((i+1:Nat):Int) - 1)).toNat))]) .t (ZjD (Nn l (IntKind.wrap .i64 (((i+1:Nat):Int) - 1)).toNat)) func77 Z kr (Args.one (.pagg .t))) r2 qz (qR rr (qR rr (qR rr (qy 3 YbR r2 (qf (oR true 3 .t) r1 qz (qf (o_callClosP (avs:=[.agg (rTx (Nn l (((i+1:Nat):Int)).toNat))]) .t (ZjD (Nn l (((i+1:Nat):Int)).toNat)) func77 Z kr (Args.one (.pagg .t))) r2 qz (qf (Zcb .t .t) r2 qz qZ)))))))))))))) V [25,5,4,1,0] [0] Z Z fun a w F O=>?_)))))
  have O:=Xf
  try simp only [Yf] at O
  refine Za (Zb O Z (fun hc1=>?_) (fun hc1=>?_))
  ·have h9:TxD.id (Nn l (i+1))≤TxD.id (Nn l i):=KW
   have hg:false=decide (ZZ TxD.id l):=(Yq fun e=>by have:=Zgn e hil;omega).symm
   refine Ya (rZ O qB V J6 [0] fun O=>(Yh (Zl (Zd (Zd (Zl (Zd ?_)))))))
   refine Zx hfr O Z Z Z (.bool hg)
  have h9:TxD.id (Nn l i)<TxD.id (Nn l (i+1)):=KW
  have hC2:∀ q,q<i+1→q+1<l.length→TxD.id (Nn l q)<TxD.id (Nn l (q+1)):=fun q h1 h2=>by rcases Yw (YC h1) with h8 | h8;exact hq q h8 h2;rw [h8];exact h9
  refine Yd (Zf (Za (rZ O (qR rr (qp r1 (qO rr qZ))) V J6 [0] fun O=>?_)))
  replace O:=O.ent (i:=5) (s':=.pv (.int .i64 ((i+1+1:Nat):Int))) Z (.int (ZaY ow))
  obtain ⟨F,O⟩:=O.nM [4,1,0,5] [0]
  exact ⟨(i+1),F,hC2,O,ow⟩
 have hg:true=decide (ZZ TxD.id l):=(YA (Zd5 fun q hq2=>hq q WI hq2)).symm
 refine Ym (Ze (Ze (Zk (Za (Ya (rZ O qB V [4] [0] fun O=>Yh ?_))))))
 refine Zx hfr O Z Z Z (.bool hg)
theorem Znv (l:List OrdD) (hll:l.length≤1000000):FnP prog 177 [.sl Zp l,.clos 79 []] (.bool (decide (ZZ OrdD.key l))):=by
 refine FnP.mk func177 Z ntmps177 Z fun B a w F V hfr O=>Ya ?_
 refine rZ O qB V J0 [0] fun O=>(Ya (Ya ?_))
 refine rZ O (qI qZ) V J6 [0] fun O=>Ye ?_
 replace O:=O.ent (i:=5) (s':=.pv (.int .i64 ((0+1:Nat):Int))) Z (.int Z)
 refine Zh (σ:=Nat) [0,1,4] [0] (fun s=>[(5,.pv (.int .i64 ((s+1:Nat):Int)))]) (fun s=>[]) (fun s=>∀ q,q<s→q+1<l.length→OrdD.key (Nn l q)<OrdD.key (Nn l (q+1))) (fun s=>l.length - s) (0) O ⟨rfl,rfl,rfl,rfl,tv⟩ ⟨rfl,tv⟩ (fun q hq=>absurd hq (YI q)) ?_
 clear O;intro i a w F hC O
 have hC:=X3
 obtain ⟨F,O⟩:=O.nM J6 [0]
 have O:=X2
 have hq:=hC
 refine Ya (Ya (rZ O (qR rr (qR rr (qu YbS r1 (qL r2)))) V [9,5,4,1,0] [0] fun O=>?_))
 refine Zb O Z (fun hc0=>?_) (fun hc0=>?_)
 ·have hil:i+1<l.length:=WI
  have hwi:IntKind.wrap .i64 (((i+1:Nat):Int) - 1)=(i:Int):=K8
  refine Yd (Za (Ya (Ye (Ya (Zr O (qR rr (qR rr (qR rr (qf (o_sub .t qi) r1 qz (qf (Zah (sz:=2) (.mk YbS kr) Wt .t .t WX WX) r2 qz (qf (oR true 2 .t) r1 qz (qf (o_callClosP (avs:=[.agg (Zp (Nn l (IntKind.wrap .i64 (((i+1:Nat):Int) - 1)).toNat))]) .t (Zjn (Nn l (IntKind.wrap .i64 (((i+1:Nat):Int) - 1)).toNat)) func79 Z kr (Args.one (.pagg .t))) r2 qz (qR rr (qR rr (qR rr (qy 2 YbS r2 (qf (oR true 2 .t) r1 qz (qf (o_callClosP (avs:=[.agg (Zp (Nn l (((i+1:Nat):Int)).toNat))]) .t (Zjn (Nn l (((i+1:Nat):Int)).toNat)) func79 Z kr (Args.one (.pagg .t))) r2 qz (qf (Zcb .t .t) r2 qz qZ)))))))))))))) V [25,5,4,1,0] [0] Z Z fun a w F O=>?_)))))
  have O:=Xf
  try simp only [Yf] at O
  refine Za (Zb O Z (fun hc1=>?_) (fun hc1=>?_))
  ·have h9:OrdD.key (Nn l (i+1))≤OrdD.key (Nn l i):=KW
   have hg:false=decide (ZZ OrdD.key l):=(Yq fun e=>by have:=Zgn e hil;omega).symm
   refine Ya (rZ O qB V J6 [0] fun O=>(Yh (Zl (Zd (Zd (Zl (Zd ?_)))))))
   refine Zx hfr O Z Z Z (.bool hg)
  have h9:OrdD.key (Nn l i)<OrdD.key (Nn l (i+1)):=KW
  have hC2:∀ q,q<i+1→q+1<l.length→OrdD.key (Nn l q)<OrdD.key (Nn l (q+1)):=fun q h1 h2=>by rcases Yw (YC h1) with h8 | h8;exact hq q h8 h2;rw [h8];exact h9
  refine Yd (Zf (Za (rZ O (qR rr (qp r1 (qO rr qZ))) V J6 [0] fun O=>?_)))
  replace O:=O.ent (i:=5) (s':=.pv (.int .i64 ((i+1+1:Nat):Int))) Z (.int (ZaY ow))
  obtain ⟨F,O⟩:=O.nM [4,1,0,5] [0]
  exact ⟨(i+1),F,hC2,O,ow⟩
 have hg:true=decide (ZZ OrdD.key l):=(YA (Zd5 fun q hq2=>hq q WI hq2)).symm
 refine Ym (Ze (Ze (Zk (Za (Ya (rZ O qB V [4] [0] fun O=>Yh ?_))))))
 refine Zx hfr O Z Z Z (.bool hg)
theorem Zjv (l:List TxD) (n:Int):FnP prog 141 [.sl rTx l,.int .i64 n,.clos 77 []] (.tup [.agg (rTx ((ZH TxD.id l n).getD zeroT)),.bool (ZH TxD.id l n).isSome]):=by
 refine FnP.mk func141 Z ntmps141 Z fun B a w F V hfr O=>?_
 have hxl:=Sat.lenSl O (i:=0) rfl
 refine Ya (rS O (qf (oH [.int .i64 0,.bool false,.slice none 0 0] 101) trivial qz qB) V Gg QK fun τ O=>?_)
 have O:=X1
 generalize τ 6=v6 at O
 refine Za (Ya (Ya (rZ O (qR rr (qu YbR r1 (qJ qZ))) V Jv QK fun O=>Ye ?_)))
 refine Zh (σ:=(Nat)) [1,2,6,7,11,12] [0,101] (fun s=>[(13,.pv (.int .i64 (s:Int)))]) (fun s=>[]) (fun s=>s≤l.length∧(∀ k,k<s→TxD.id (Nn l k)≠n)) (fun s=>l.length - s) (0) O ⟨rfl,rfl,rfl,rfl,rfl,rfl,rfl,tv⟩ ⟨rfl,rfl,tv⟩ ⟨Yo _,fun k hk=>absurd hk (YI k)⟩ ?_
 clear O;intro i a w F hC O
 have hC:=X3
 obtain ⟨F,O⟩:=O.nM Jv QK
 have O:=X2
 obtain ⟨hi,hq⟩:=hC
 refine Ya (rZ O (qL r2) V [14,13,12,11,7,6,2,1] QK fun O=>Ya ?_)
 refine Zb O Z (fun hc0=>?_) (fun hc0=>?_)
 ·have hil:i<l.length:=WI
  refine Yd (Za (Ya (Ye (Ya (rS O (qy 3 YbR r2 (qf (oR true 3 .t) r1 qz (qf (oH [.int .i64 0,.bool false,.slice none 0 0] 102) trivial qz (qS 3 102 r2 r1 qZ)))) V [13,12,11,9,7,6,2,1] QI fun τ O=>?_)))))
  have O:=X0
  generalize τ 9=v9 at O
  try simp only [Yf] at O
  refine Za (Ya (rZ O (qR rr (qe 3 102 r1 r1 (qf (o_callClosP (avs:=[.agg (rTx (Nn l i))]) .t (ZjD (Nn l i)) func77 Z kr (Args.one (.pagg .t))) r2 qz (qR rr (qf (o_eql .t .t) r2 qz qZ))))) V XaB QI fun O=>?_))
  refine Zb O Z (fun hc1=>?_) (fun hc1=>?_)
  ·have hg:ZH TxD.id l n=some (Nn l i):=ZiV hil WE hq
   refine Ya (rZ O (qe 3 102 r1 r1 (qs 3 101 r2 r1 qB)) V Jv QI fun O=>(Yh (Zl (Zd (Zd (Zl (Zd ?_)))))))
   refine ZU hfr O Z (.cl 101 true 3 Z Z (.tmp Z .nil)) (.two WY (.bool Wp))
  have hne:TxD.id (Nn l i)≠n:=WE
  refine Yd (Zf (Za (rZ O (qp r1 (qR rr qZ)) V Jv QI fun O=>?_)))
  replace O:=O.eI 13 i
  obtain ⟨F,O⟩:=O.nM [12,11,7,6,2,1,13] QK
  exact ⟨(i+1),F,⟨ow,(fun k hk=>by rcases Yw (YC hk) with h9 | h9;exact hq k h9;rw [h9];exact hne)⟩,O,ow⟩
 have hil:i=l.length:=WI
 have hg:ZH TxD.id l n=none:=ZfS WZ
 refine Ym (Ze (Ze (Zk (Za (Ya (rS O (qf (oH [.int .i64 0,.bool false,.slice none 0 0] 103) trivial qz qZ) V [10,7,6] Jg fun τ O=>?_))))))
 have O:=X1
 generalize τ 10=v10 at O
 refine Za (Ya (rZ O (qe 3 103 r1 r1 (qs 3 101 r2 r1 qB)) V XaK Jg fun O=>Yh ?_))
 refine ZU hfr O Z (.cl 101 true 3 Z Z (.tmp Z .nil)) (.two WY (.bool Wp))
theorem Zjq (l:List OrdD) (n:Int):FnP prog 142 [.sl Zp l,.int .i64 n,.clos 79 []] (.tup [.agg (Zp ((ZH OrdD.key l n).getD ZhC)),.bool (ZH OrdD.key l n).isSome]):=by
 refine FnP.mk func142 Z ntmps142 Z fun B a w F V hfr O=>?_
 have hxl:=Sat.lenSl O (i:=0) rfl
 refine Ya (rS O (qf (oH [.int .i64 0,.slice none 0 0] 101) trivial qz qB) V Gg QK fun τ O=>?_)
 have O:=X1
 generalize τ 6=v6 at O
 refine Za (Ya (Ya (rZ O (qR rr (qu YbS r1 (qJ qZ))) V Jv QK fun O=>Ye ?_)))
 refine Zh (σ:=(Nat)) [1,2,6,7,11,12] [0,101] (fun s=>[(13,.pv (.int .i64 (s:Int)))]) (fun s=>[]) (fun s=>s≤l.length∧(∀ k,k<s→OrdD.key (Nn l k)≠n)) (fun s=>l.length - s) (0) O ⟨rfl,rfl,rfl,rfl,rfl,rfl,rfl,tv⟩ ⟨rfl,rfl,tv⟩ ⟨Yo _,fun k hk=>absurd hk (YI k)⟩ ?_
 clear O;intro i a w F hC O
 have hC:=X3
 obtain ⟨F,O⟩:=O.nM Jv QK
 have O:=X2
 obtain ⟨hi,hq⟩:=hC
 refine Ya (rZ O (qL r2) V [14,13,12,11,7,6,2,1] QK fun O=>Ya ?_)
 refine Zb O Z (fun hc0=>?_) (fun hc0=>?_)
 ·have hil:i<l.length:=WI
  refine Yd (Za (Ya (Ye (Ya (rS O (qy 2 YbS r2 (qf (oR true 2 .t) r1 qz (qf (oH [.int .i64 0,.slice none 0 0] 102) trivial qz (qS 2 102 r2 r1 qZ)))) V [13,12,11,9,7,6,2,1] QI fun τ O=>?_)))))
  have O:=X0
  generalize τ 9=v9 at O
  try simp only [Yf] at O
  refine Za (Ya (rZ O (qR rr (qe 2 102 r1 r1 (qf (o_callClosP (avs:=[.agg (Zp (Nn l i))]) .t (Zjn (Nn l i)) func79 Z kr (Args.one (.pagg .t))) r2 qz (qR rr (qf (o_eql .t .t) r2 qz qZ))))) V XaB QI fun O=>?_))
  refine Zb O Z (fun hc1=>?_) (fun hc1=>?_)
  ·have hg:ZH OrdD.key l n=some (Nn l i):=ZiV hil WE hq
   refine Ya (rZ O (qe 2 102 r1 r1 (qs 2 101 r2 r1 qB)) V Jv QI fun O=>(Yh (Zl (Zd (Zd (Zl (Zd ?_)))))))
   refine ZU hfr O Z (.cl 101 true 2 Z Z (.tmp Z .nil)) (.two K0 (.bool Wp))
  have hne:OrdD.key (Nn l i)≠n:=WE
  refine Yd (Zf (Za (rZ O (qp r1 (qR rr qZ)) V Jv QI fun O=>?_)))
  replace O:=O.eI 13 i
  obtain ⟨F,O⟩:=O.nM [12,11,7,6,2,1,13] QK
  exact ⟨(i+1),F,⟨ow,(fun k hk=>by rcases Yw (YC hk) with h9 | h9;exact hq k h9;rw [h9];exact hne)⟩,O,ow⟩
 have hil:i=l.length:=WI
 have hg:ZH OrdD.key l n=none:=ZfS WZ
 refine Ym (Ze (Ze (Zk (Za (Ya (rS O (qf (oH [.int .i64 0,.slice none 0 0] 103) trivial qz qZ) V [10,7,6] Jg fun τ O=>?_))))))
 have O:=X1
 generalize τ 10=v10 at O
 refine Za (Ya (rZ O (qe 2 103 r1 r1 (qs 2 101 r2 r1 qB)) V XaK Jg fun O=>Yh ?_))
 refine ZU hfr O Z (.cl 101 true 2 Z Z (.tmp Z .nil)) (.two K0 (.bool Wp))
theorem Ztx (c d:List TxD) (hll:c.length≤1000000):FnP prog 76 [.sl rTx c,.sl rTx d,.clos 77 [],.clos 42 []] (.sl rTx (Zaa TxD.id c d)):=by
 refine FnP.mk func76 Z ntmps76 Z fun B a w F V hfr O=>Ya ?_
 refine rZ O (qC qZ) V G1 [0] fun O=>Ya ?_
 refine rZ O (qC qZ) V JL [0] fun O=>(Ya (Ya ?_))
 refine rZ O (qR rr (qu YbR r1 (qJ qZ))) V Jb [0] fun O=>Ye ?_
 replace O:=O.fresh 50 rfl
 replace O:=O.turn 50 Z (Zas (T:=36) (sz:=3) (R:=rTx))
 refine Zh (σ:=(Nat)×(Value)×(List TxD)) [1,2,3,8,14,15] [0] (fun s=>[(16,.pv (.int .i64 (s.1:Int))),(9,.pv (.is s.2.1))]) (fun s=>[(50,.ob (.val s.2.1) (ZM 36 3 rTx s.2.2))]) (fun s=>s.1≤c.length∧(s.2.2=Zaa TxD.id (c.take s.1) d)) (fun s=>c.length - s.1) ((0),(.slice none 0 0),([])) O ⟨rfl,rfl,rfl,rfl,rfl,rfl,rfl,rfl,tv⟩ ⟨rfl,rfl,tv⟩ ⟨Yo _,rfl⟩ ?_
 clear O;intro s a w F hC O
 obtain ⟨i,v,out⟩:=s
 have hC:=X3
 obtain ⟨F,O⟩:=O.nM Jb QU
 have O:=X2
 obtain ⟨hi,hq⟩:=hC
 have hol:out.length≤i:=Qj
 refine Ya (rZ O (qL r2) V XaC QU fun O=>Ya ?_)
 refine Zb O Z (fun hc0=>?_) (fun hc0=>?_)
 ·have hil:i<c.length:=WI
  have hcd:(!(ZH TxD.id d (TxD.id (Nn c i))).isSome || !decide ((Nn c i)=(ZH TxD.id d (TxD.id (Nn c i))).getD zeroT))=decide ((ZH TxD.id d (TxD.id (Nn c i)))≠some (Nn c i)):=KR
  refine Yd (Za (Ya (Ye (Ya (rS O (qy 3 YbR r2 (qf (oR true 3 .t) r1 qz (qf (oH [.int .i64 0,.bool false,.slice none 0 0] 101) trivial qz (qS 3 101 r2 r1 qZ)))) V XaD QQ fun τ O=>?_)))))
  have O:=X0
  generalize τ 11=v11 at O
  try simp only [Yf] at O
  refine Za (Ya (rS O (qR rr (qR rr (qe 3 101 r1 r1 (qf (o_callClosP (avs:=[.agg (rTx (Nn c i))]) .t (ZjD (Nn c i)) func77 Z kr (Args.one (.pagg .t))) r2 qz (qR rr (qf (oP (Zjv d (TxD.id (Nn c i))) func141 (Args.three .t .t .t)) r3 qz (qR rr (qf (o_extract .t Z) r1 qz (qf (o_extract .t Z) r1 qz (qf (oH [.int .i64 0,.bool false,.slice none 0 0] 102) trivial qz (qf (oA 3 102 .same (.conv .t .agg)) r2 r1 (qO rr qZ)))))))))))) V DQ QM fun τ O=>?_))
  have O:=X0
  generalize τ 12=v12 at O
  refine Za (Ya (rZ O (qR rr (qf (ZW .t) r1 qz (qR rr (qm Z Z Z Z (qk Z (fun h=>oL true 3 101 .is) r2 r1 (qk Z (fun h=>oL true 3 102 .is) r2 r1 (qk Z (fun h=>o_callClosP (avs:=[.agg (rTx (Nn c i)),.agg (rTx ((ZH TxD.id d (TxD.id (Nn c i))).getD zeroT))]) (.w h) (Zrp (Nn c i) ((ZH TxD.id d (TxD.id (Nn c i))).getD zeroT)) func42 Z kr (Args.two (.pagg (.w h)) (.pagg (.w h)))) r4 qz (qk Z (fun h=>ZW (.w h)) r2 qz (qf (ZaB .t .t) r2 qz qZ))))))))) V Xae QM fun O=>?_))
  refine Zb O Z (fun hc1=>?_) (fun hc1=>?_)
  ·have h9:(!(ZH TxD.id d (TxD.id (Nn c i))).isSome || !decide ((Nn c i)=(ZH TxD.id d (TxD.id (Nn c i))).getD zeroT))=true:=hc1
   rw [hcd] at h9
   have hst9:out ++ [(Nn c i)] = Zaa TxD.id (c.take (i+1)) d:=Q6
   refine rS O (qR rr (qe 3 101 r1 r1 (qf (o_buildSliceE (sz:=3) (zs:=[.int .i64 0,.bool false,.slice none 0 0]) (r:=[(0,.tmp 39)]) (l:=[_,_,_]) YbR kr kr kr kr Z Z (.agg Z .t kr kr .nil) Z) r1 qz (qf (o_append (sz:=3) (bs:=40) 50 (.mk' YbR kr kr) Wt .is (.arr (l':=[(Nn c i)]) .t) Wx We) ⟨rfl,rfl,tv⟩ ⟨rfl,tv⟩ (qO rr qZ))))) V Jb QM fun τ O=>?_
   have O:=X0
   generalize τ 41=v41 at O
   refine Zf (Za (rZ O (qp r1 (qR rr qZ)) V Jb QM fun O=>?_))
   replace O:=O.eI 16 i
   obtain ⟨F,O⟩:=O.nM GC JI
   exact ⟨((i+1),_,_),F,⟨ow,hst9⟩,O,ow⟩
  have h9:(!(ZH TxD.id d (TxD.id (Nn c i))).isSome || !decide ((Nn c i)=(ZH TxD.id d (TxD.id (Nn c i))).getD zeroT))=false:=hc1
  rw [hcd] at h9
  have hst9:out=Zaa TxD.id (c.take (i+1)) d:=Q2
  refine Yd (Zf (Za (rZ O (qp r1 (qR rr qZ)) V Jb QM fun O=>?_)))
  replace O:=O.eI 16 i
  obtain ⟨F,O⟩:=O.nM GC JI
  exact ⟨((i+1),_,_),F,⟨ow,hst9⟩,O,ow⟩
 have hil:i=c.length:=WI
 have hg:out=Zaa TxD.id c d:=Q8
 refine Ym (Ze (Ze (Zk (Za (Ya (rZ O (qR rr (qO rr qZ)) V [8] QU fun O=>Yh ?_))))))
 obtain ⟨F,O⟩:=O.give 50 8 Z rfl
 refine Zx hfr O Z Z Z (.sl Wr)
theorem Ztl (c d:List OrdD) (hll:c.length≤1000000):FnP prog 78 [.sl Zp c,.sl Zp d,.clos 79 [],.clos 80 []] (.sl Zp (Zaa OrdD.key c d)):=by
 refine FnP.mk func78 Z ntmps78 Z fun B a w F V hfr O=>Ya ?_
 refine rZ O (qC qZ) V G1 [0] fun O=>Ya ?_
 refine rZ O (qC qZ) V JL [0] fun O=>(Ya (Ya ?_))
 refine rZ O (qR rr (qu YbS r1 (qJ qZ))) V Jb [0] fun O=>Ye ?_
 replace O:=O.fresh 50 rfl
 replace O:=O.turn 50 Z (Zas (T:=39) (sz:=2) (R:=Zp))
 refine Zh (σ:=(Nat)×(Value)×(List OrdD)) [1,2,3,8,14,15] [0] (fun s=>[(16,.pv (.int .i64 (s.1:Int))),(9,.pv (.is s.2.1))]) (fun s=>[(50,.ob (.val s.2.1) (ZM 39 2 Zp s.2.2))]) (fun s=>s.1≤c.length∧(s.2.2=Zaa OrdD.key (c.take s.1) d)) (fun s=>c.length - s.1) ((0),(.slice none 0 0),([])) O ⟨rfl,rfl,rfl,rfl,rfl,rfl,rfl,rfl,tv⟩ ⟨rfl,rfl,tv⟩ ⟨Yo _,rfl⟩ ?_
 clear O;intro s a w F hC O
 obtain ⟨i,v,out⟩:=s
 have hC:=X3
 obtain ⟨F,O⟩:=O.nM Jb QU
 have O:=X2
 obtain ⟨hi,hq⟩:=hC
 have hol:out.length≤i:=Qj
 refine Ya (rZ O (qL r2) V XaC QU fun O=>Ya ?_)
 refine Zb O Z (fun hc0=>?_) (fun hc0=>?_)
 ·have hil:i<c.length:=WI
  have hcd:(!(ZH OrdD.key d (OrdD.key (Nn c i))).isSome || !decide ((Nn c i)=(ZH OrdD.key d (OrdD.key (Nn c i))).getD ZhC))=decide ((ZH OrdD.key d (OrdD.key (Nn c i)))≠some (Nn c i)):=KP
  refine Yd (Za (Ya (Ye (Ya (rS O (qy 2 YbS r2 (qf (oR true 2 .t) r1 qz (qf (oH [.int .i64 0,.slice none 0 0] 101) trivial qz (qS 2 101 r2 r1 qZ)))) V XaD QQ fun τ O=>?_)))))
  have O:=X0
  generalize τ 11=v11 at O
  try simp only [Yf] at O
  refine Za (Ya (rS O (qR rr (qR rr (qe 2 101 r1 r1 (qf (o_callClosP (avs:=[.agg (Zp (Nn c i))]) .t (Zjn (Nn c i)) func79 Z kr (Args.one (.pagg .t))) r2 qz (qR rr (qf (oP (Zjq d (OrdD.key (Nn c i))) func142 (Args.three .t .t .t)) r3 qz (qR rr (qf (o_extract .t Z) r1 qz (qf (o_extract .t Z) r1 qz (qf (oH [.int .i64 0,.slice none 0 0] 102) trivial qz (qf (oA 2 102 .same (.conv .t .agg)) r2 r1 (qO rr qZ)))))))))))) V DQ QM fun τ O=>?_))
  have O:=X0
  generalize τ 12=v12 at O
  refine Za (Ya (rZ O (qR rr (qf (ZW .t) r1 qz (qR rr (qm Z Z Z Z (qk Z (fun h=>oL true 2 101 .is) r2 r1 (qk Z (fun h=>oL true 2 102 .is) r2 r1 (qk Z (fun h=>o_callClosP (avs:=[.agg (Zp (Nn c i)),.agg (Zp ((ZH OrdD.key d (OrdD.key (Nn c i))).getD ZhC))]) (.w h) (Zr8 (Nn c i) ((ZH OrdD.key d (OrdD.key (Nn c i))).getD ZhC)) func80 Z kr (Args.two (.pagg (.w h)) (.pagg (.w h)))) r4 qz (qk Z (fun h=>ZW (.w h)) r2 qz (qf (ZaB .t .t) r2 qz qZ))))))))) V Xae QM fun O=>?_))
  refine Zb O Z (fun hc1=>?_) (fun hc1=>?_)
  ·have h9:(!(ZH OrdD.key d (OrdD.key (Nn c i))).isSome || !decide ((Nn c i)=(ZH OrdD.key d (OrdD.key (Nn c i))).getD ZhC))=true:=hc1
   rw [hcd] at h9
   have hst9:out ++ [(Nn c i)] = Zaa OrdD.key (c.take (i+1)) d:=Q6
   refine rS O (qR rr (qe 2 101 r1 r1 (qf (o_buildSliceE (sz:=2) (zs:=[.int .i64 0,.slice none 0 0]) (r:=[(0,.tmp 39)]) (l:=[_,_]) YbS kr kr kr kr Z Z (.agg Z .t kr kr .nil) Z) r1 qz (qf (o_append (sz:=2) (bs:=32) 50 (.mk' YbS kr kr) Wt .is (.arr (l':=[(Nn c i)]) .t) Wx We) ⟨rfl,rfl,tv⟩ ⟨rfl,tv⟩ (qO rr qZ))))) V Jb QM fun τ O=>?_
   have O:=X0
   generalize τ 41=v41 at O
   refine Zf (Za (rZ O (qp r1 (qR rr qZ)) V Jb QM fun O=>?_))
   replace O:=O.eI 16 i
   obtain ⟨F,O⟩:=O.nM GC JI
   exact ⟨((i+1),_,_),F,⟨ow,hst9⟩,O,ow⟩
  have h9:(!(ZH OrdD.key d (OrdD.key (Nn c i))).isSome || !decide ((Nn c i)=(ZH OrdD.key d (OrdD.key (Nn c i))).getD ZhC))=false:=hc1
  rw [hcd] at h9
  have hst9:out=Zaa OrdD.key (c.take (i+1)) d:=Q2
  refine Yd (Zf (Za (rZ O (qp r1 (qR rr qZ)) V Jb QM fun O=>?_)))
  replace O:=O.eI 16 i
  obtain ⟨F,O⟩:=O.nM GC JI
  exact ⟨((i+1),_,_),F,⟨ow,hst9⟩,O,ow⟩
 have hil:i=c.length:=WI
 have hg:out=Zaa OrdD.key c d:=Q8
 refine Ym (Ze (Ze (Zk (Za (Ya (rZ O (qR rr (qO rr qZ)) V [8] QU fun O=>Yh ?_))))))
 obtain ⟨F,O⟩:=O.give 50 8 Z rfl
 refine Zx hfr O Z Z Z (.sl Wr)
theorem Ztn (l was now:List TxD) (hwl:was.length≤1000000):FnP prog 111 [.sl rTx l,.sl rTx was,.sl rTx now,.clos 77 [],.clos 42 []] (.bool (ZaZ TxD.id l was now)):=by
 refine FnP.mk func111 Z ntmps111 Z fun B a w F V hfr O=>?_
 have hxl:=Sat.lenSl O (i:=2) rfl
 refine Ya (rZ O qB V Xa0 [0] fun O=>(Ya (Ya ?_)))
 refine rZ O (qR rr (qR rr (qR rr (qR rr (qf (oP (Ztx was l hwl) func76 (Args.four .t .t .t .t)) r4 qz (qu YbR r1 (qf (o_gtr .t qi) r1 qz qZ))))))) V [23,10,3,2,1,0] [0] fun O=>?_
 refine Zb O Z (fun hc0=>?_) (fun hc0=>?_)
 ·have hg:false=ZaZ TxD.id l was now:=Qd
  refine Ya (rZ O qB V JQ [0] fun O=>(Yh (Zd ?_)))
  refine Zx hfr O Z Z Z (.bool hg)
 have hl0:Zaa TxD.id was l = []:=Y3 fun e=>by have h7:=Yaz.2 e;have h8:=YW hc0;omega
 refine Yd (Za (Ya (Ya (rZ O (qR rr (qu YbR r1 (qJ qZ))) V Jt [0] fun O=>Ye ?_))))
 refine Zh (σ:=(Nat)) [0,1,3,10,24,25] [0] (fun s=>[(26,.pv (.int .i64 (s:Int)))]) (fun s=>[]) (fun s=>s≤now.length∧(∀ q,q<s→((ZH TxD.id l (TxD.id (Nn now q))).isSome && !(ZH TxD.id was (TxD.id (Nn now q))).isSome)=false)) (fun s=>now.length - s) (0) O ⟨rfl,rfl,rfl,rfl,rfl,rfl,rfl,tv⟩ ⟨rfl,tv⟩ ⟨Yo _,fun q hq=>absurd hq (YI q)⟩ ?_
 clear O;intro i a w F hC O
 have hC:=X3
 obtain ⟨F,O⟩:=O.nM Jt [0]
 have O:=X2
 obtain ⟨hi,hq⟩:=hC
 refine Ya (rZ O (qL r2) V [27,26,25,24,10,3,1,0] [0] fun O=>Ya ?_)
 refine Zb O Z (fun hc1=>?_) (fun hc1=>?_)
 ·have hil:i<now.length:=WH
  refine Yd (Za (Ya (Ye (Ya (rS O (qy 3 YbR r2 (qf (oR true 3 .t) r1 qz (qf (oH [.int .i64 0,.bool false,.slice none 0 0] 101) trivial qz (qS 3 101 r2 r1 qZ)))) V [26,25,24,12,10,3,1,0] QK fun τ O=>?_)))))
  have O:=X0
  generalize τ 12=v12 at O
  try simp only [Yf] at O
  refine Za (Ya (rS O (qR rr (qR rr (qe 3 101 r1 r1 (qf (o_callClosP (avs:=[.agg (rTx (Nn now i))]) .t (ZjD (Nn now i)) func77 Z kr (Args.one (.pagg .t))) r2 qz (qR rr (qf (oP (Zjv l (TxD.id (Nn now i))) func141 (Args.three .t .t .t)) r3 qz (qR rr (qf (o_extract .t Z) r1 qz (qf (o_extract .t Z) r1 qz (qf (oH [.int .i64 0,.bool false,.slice none 0 0] 102) trivial qz (qf (oA 3 102 .same (.conv .t .agg)) r2 r1 (qO rr qZ)))))))))))) V Xaq QI fun τ O=>?_))
  have O:=X0
  generalize τ 13=v13 at O
  refine Za (Ya (rS O (qR rr (qR rr (qe 3 101 r1 r1 (qf (o_callClosP (avs:=[.agg (rTx (Nn now i))]) .t (ZjD (Nn now i)) func77 Z kr (Args.one (.pagg .t))) r2 qz (qR rr (qf (oP (Zjv was (TxD.id (Nn now i))) func141 (Args.three .t .t .t)) r3 qz (qR rr (qf (o_extract .t Z) r1 qz (qf (o_extract .t Z) r1 qz (qf (oH [.int .i64 0,.bool false,.slice none 0 0] 103) trivial qz (qf (oA 3 103 .same (.conv .t .agg)) r2 r1 (qO rr qZ)))))))))))) V Xar QJ fun τ O=>?_))
  have O:=X0
  generalize τ 15=v15 at O
  refine Za (Ya (rZ O (qR rr (qR rr (qm Z Z Z Z (qk Z (fun h=>ZW (.w h)) r2 qz (qf (ZF .t .t) r2 qz qZ))))) V [52,26,25,24,10,3,1,0] QJ fun O=>?_))
  refine Zb O Z (fun hc2=>?_) (fun hc2=>?_)
  ·have h9:((ZH TxD.id l (TxD.id (Nn now i))).isSome && !(ZH TxD.id was (TxD.id (Nn now i))).isSome)=true:=hc2
   have hg:false=ZaZ TxD.id l was now:=by
    unfold ZaZ
    rw [Y8,Bool.and_eq_false_iff]
    exact .inr (Ybx.2 ⟨_,ZP hil,by rw [h9];simp⟩)
   refine Ya (rZ O qB V Jt QJ fun O=>(Yh (Zl (Zd (Zd (Zl (Zd ?_)))))))
   refine Zx hfr O Z Z Z (.bool hg)
  have hne:((ZH TxD.id l (TxD.id (Nn now i))).isSome && !(ZH TxD.id was (TxD.id (Nn now i))).isSome)=false:=hc2
  refine Yd (Zf (Za (rZ O (qp r1 (qR rr qZ)) V Jt QJ fun O=>?_)))
  replace O:=O.eI 26 i
  obtain ⟨F,O⟩:=O.nM [25,24,10,3,1,0,26] [0]
  exact ⟨(i+1),F,⟨ow,(fun q h9=>by rcases Yw (YC h9) with h8 | h8;exact hq q h8;rw [h8];exact hne)⟩,O,ow⟩
 have hil:i=now.length:=WH
 have hg:true=ZaZ TxD.id l was now:=by
   unfold ZaZ
   rw [YA hl0,Ybv,Y8,Yam]
   intro z hz
   obtain ⟨q,hq1,e⟩:=YL hz
   have h9:=hq q ow
   rw [Zu hq1,e] at h9
   rw [h9];rfl
 refine Ym (Ze (Ze (Zk (Za (Ya (rZ O qB V [10] [0] fun O=>Yh ?_))))))
 refine Zx hfr O Z Z Z (.bool hg)
theorem ZsM (l was now:List OrdD) (hwl:was.length≤1000000):FnP prog 112 [.sl Zp l,.sl Zp was,.sl Zp now,.clos 79 [],.clos 80 []] (.bool (ZaZ OrdD.key l was now)):=by
 refine FnP.mk func112 Z ntmps112 Z fun B a w F V hfr O=>?_
 have hxl:=Sat.lenSl O (i:=2) rfl
 refine Ya (rZ O qB V Xa0 [0] fun O=>(Ya (Ya ?_)))
 refine rZ O (qR rr (qR rr (qR rr (qR rr (qf (oP (Ztl was l hwl) func78 (Args.four .t .t .t .t)) r4 qz (qu YbS r1 (qf (o_gtr .t qi) r1 qz qZ))))))) V [23,10,3,2,1,0] [0] fun O=>?_
 refine Zb O Z (fun hc0=>?_) (fun hc0=>?_)
 ·have hg:false=ZaZ OrdD.key l was now:=Qd
  refine Ya (rZ O qB V JQ [0] fun O=>(Yh (Zd ?_)))
  refine Zx hfr O Z Z Z (.bool hg)
 have hl0:Zaa OrdD.key was l = []:=Y3 fun e=>by have h7:=Yaz.2 e;have h8:=YW hc0;omega
 refine Yd (Za (Ya (Ya (rZ O (qR rr (qu YbS r1 (qJ qZ))) V Jt [0] fun O=>Ye ?_))))
 refine Zh (σ:=(Nat)) [0,1,3,10,24,25] [0] (fun s=>[(26,.pv (.int .i64 (s:Int)))]) (fun s=>[]) (fun s=>s≤now.length∧(∀ q,q<s→((ZH OrdD.key l (OrdD.key (Nn now q))).isSome && !(ZH OrdD.key was (OrdD.key (Nn now q))).isSome)=false)) (fun s=>now.length - s) (0) O ⟨rfl,rfl,rfl,rfl,rfl,rfl,rfl,tv⟩ ⟨rfl,tv⟩ ⟨Yo _,fun q hq=>absurd hq (YI q)⟩ ?_
 clear O;intro i a w F hC O
 have hC:=X3
 obtain ⟨F,O⟩:=O.nM Jt [0]
 have O:=X2
 obtain ⟨hi,hq⟩:=hC
 refine Ya (rZ O (qL r2) V [27,26,25,24,10,3,1,0] [0] fun O=>Ya ?_)
 refine Zb O Z (fun hc1=>?_) (fun hc1=>?_)
 ·have hil:i<now.length:=WH
  refine Yd (Za (Ya (Ye (Ya (rS O (qy 2 YbS r2 (qf (oR true 2 .t) r1 qz (qf (oH [.int .i64 0,.slice none 0 0] 101) trivial qz (qS 2 101 r2 r1 qZ)))) V [26,25,24,12,10,3,1,0] QK fun τ O=>?_)))))
  have O:=X0
  generalize τ 12=v12 at O
  try simp only [Yf] at O
  refine Za (Ya (rS O (qR rr (qR rr (qe 2 101 r1 r1 (qf (o_callClosP (avs:=[.agg (Zp (Nn now i))]) .t (Zjn (Nn now i)) func79 Z kr (Args.one (.pagg .t))) r2 qz (qR rr (qf (oP (Zjq l (OrdD.key (Nn now i))) func142 (Args.three .t .t .t)) r3 qz (qR rr (qf (o_extract .t Z) r1 qz (qf (o_extract .t Z) r1 qz (qf (oH [.int .i64 0,.slice none 0 0] 102) trivial qz (qf (oA 2 102 .same (.conv .t .agg)) r2 r1 (qO rr qZ)))))))))))) V Xaq QI fun τ O=>?_))
  have O:=X0
  generalize τ 13=v13 at O
  refine Za (Ya (rS O (qR rr (qR rr (qe 2 101 r1 r1 (qf (o_callClosP (avs:=[.agg (Zp (Nn now i))]) .t (Zjn (Nn now i)) func79 Z kr (Args.one (.pagg .t))) r2 qz (qR rr (qf (oP (Zjq was (OrdD.key (Nn now i))) func142 (Args.three .t .t .t)) r3 qz (qR rr (qf (o_extract .t Z) r1 qz (qf (o_extract .t Z) r1 qz (qf (oH [.int .i64 0,.slice none 0 0] 103) trivial qz (qf (oA 2 103 .same (.conv .t .agg)) r2 r1 (qO rr qZ)))))))))))) V Xar QJ fun τ O=>?_))
  have O:=X0
  generalize τ 15=v15 at O
  refine Za (Ya (rZ O (qR rr (qR rr (qm Z Z Z Z (qk Z (fun h=>ZW (.w h)) r2 qz (qf (ZF .t .t) r2 qz qZ))))) V [52,26,25,24,10,3,1,0] QJ fun O=>?_))
  refine Zb O Z (fun hc2=>?_) (fun hc2=>?_)
  ·have h9:((ZH OrdD.key l (OrdD.key (Nn now i))).isSome && !(ZH OrdD.key was (OrdD.key (Nn now i))).isSome)=true:=hc2
   have hg:false=ZaZ OrdD.key l was now:=by
    unfold ZaZ
    rw [Y8,Bool.and_eq_false_iff]
    exact .inr (Ybx.2 ⟨_,ZP hil,by rw [h9];simp⟩)
   refine Ya (rZ O qB V Jt QJ fun O=>(Yh (Zl (Zd (Zd (Zl (Zd ?_)))))))
   refine Zx hfr O Z Z Z (.bool hg)
  have hne:((ZH OrdD.key l (OrdD.key (Nn now i))).isSome && !(ZH OrdD.key was (OrdD.key (Nn now i))).isSome)=false:=hc2
  refine Yd (Zf (Za (rZ O (qp r1 (qR rr qZ)) V Jt QJ fun O=>?_)))
  replace O:=O.eI 26 i
  obtain ⟨F,O⟩:=O.nM [25,24,10,3,1,0,26] [0]
  exact ⟨(i+1),F,⟨ow,(fun q h9=>by rcases Yw (YC h9) with h8 | h8;exact hq q h8;rw [h8];exact hne)⟩,O,ow⟩
 have hil:i=now.length:=WH
 have hg:true=ZaZ OrdD.key l was now:=by
   unfold ZaZ
   rw [YA hl0,Ybv,Y8,Yam]
   intro z hz
   obtain ⟨q,hq1,e⟩:=YL hz
   have h9:=hq q ow
   rw [Zu hq1,e] at h9
   rw [h9];rfl
 refine Ym (Ze (Ze (Zk (Za (Ya (rZ O qB V [10] [0] fun O=>Yh ?_))))))
 refine Zx hfr O Z Z Z (.bool hg)
theorem ZuX (v:Value) (l:List TxD) (ka kb kn:Nat) (hll:l.length≤1000000) (h1:ka+kn≤kb) (h2:kb+kn≤l.length) (f:FuncId) (cps:List PV):FnG prog 282 1 [.is v,.int .i64 ka,.int .i64 kb,.int .i64 kn,.clos f cps] [ZM 36 3 rTx l v] (.tup []) (fun _=>[ZM 36 3 rTx (Zef l ka kb kn) v]):=by
 refine FnG.mk func282 Z ntmps282 Z kr fun B F0 a w F V hG O=>?_
 replace O:=O.turn 1 Z (r':=.ob (.val v) (ZM 36 3 rTx l)) (fun _ _ _ _ h=>h)
 refine Ya (rZ O (qI qZ) V JQ QL fun O=>Ye ?_)
 have hc0:0≤kn∧l=Zef l ka kb 0:=⟨Yo _,(ZkZ ow ow).symm⟩
 refine Zh (σ:=Nat×List TxD) [0,1,2,3] [0] (fun s=>[(10,.pv (.int .i64 (s.1:Int)))]) (fun s=>[(1,.ob (.val v) (ZM 36 3 rTx s.2))]) (fun s=>s.1≤kn∧s.2=Zef l ka kb s.1) (fun s=>kn - s.1) ((0),(l)) O ⟨rfl,rfl,rfl,rfl,rfl,tv⟩ ⟨rfl,rfl,tv⟩ hc0 ?_
 clear O;intro s a w F hC O
 obtain ⟨i,l1⟩:=s
 have hC:=X3
 obtain ⟨F,O⟩:=O.nM JQ QL
 have O:=X2
 obtain ⟨hin,hl1⟩:=hC
 have hn1:l1.length=l.length:=by rw [hl1];exact Zcp ow ow
 have hwa:IntKind.wrap .i64 ((ka:Int)+(i:Int))=((ka+i:Nat):Int):=K8
 have hwb:IntKind.wrap .i64 ((kb:Int)+(i:Int))=((kb+i:Nat):Int):=K8
 refine Ya (Ya (rZ O (qR rr (qR rr (qL r2))) V [13,10,3,2,1,0] QL fun O=>?_))
 refine Zb O Z (fun hc0=>?_) (fun hc0=>?_)
 ·have hil:i<kn:=WI
  refine Yd (Za (Ya (Ye (Zr O (qR rr (qR rr (qR rr (qf (o_add .t .t) r2 qz (qR rr (qR rr (qR rr (qf (o_add .t .t) r2 qz (qR rr (qR rr (qR rr (qf (o_add .t .t) r2 qz (qf (o_indexAddr_row (sz:=3) 1 (.mk YbR kr) .is .t K2 K2 Wd) r2 r1 (qf (Zs (ag:=true) (sz':=3) (sz:=3) 1 .t Wt K2 kr kr kr) r1 r1 (qR rr (qR rr (qR rr (qf (o_add .t .t) r2 qz (qf (o_indexAddr_row (sz:=3) 1 (.mk YbR kr) .is .t K3 K3 Wd) r2 r1 (qf (Zs (ag:=true) (sz':=3) (sz:=3) 1 .t Wt K3 kr kr kr) r1 r1 (qf (o_indexAddr_row (sz:=3) 1 (.mk YbR kr) .is .t K3 K3 Wd) r2 r1 (qf (Z1 (sz:=3) 1 .t Wt K3 (.conv .t (Ent.aggU (l:=rTx (Nn l1 (IntKind.wrap .i64 ((kb:Int)+(i:Int))).toNat)) Z Z)) kr) r2 r1 (qf (o_indexAddr_row (sz:=3) 1 (.mk YbR kr) .is .t K2 K4 Wd) r2 r1 (qf (Z1 (sz:=3) 1 .t Wt K4 (.conv .t (Ent.aggU (l:=rTx (Nn l1 (IntKind.wrap .i64 ((ka:Int)+(i:Int))).toNat)) Z Z)) kr) r2 r1 qZ)))))))))))))))))))))))) V JQ QL Z Z fun a w F O=>?_))))
  have O:=Xz
  try simp only [Yf] at O
  rw [hwa,hwb] at O
  simp only [Yf] at O
  obtain ⟨l2,hl2⟩:∃ z,z=Zef l ka kb (i+1):=⟨_,rfl⟩
  rw [show (l1.set (ka+i) (Nn l1 (kb+i))).set (kb+i) (Nn l1 (ka+i))=l2 from by rw [hl2,← Zkq (n:=kn) hil h1 h2,← hl1];rfl] at O
  refine Zf (Za (rZ O (qR rr (qp r1 (qO rr qZ))) V JQ QL fun O=>?_))
  replace O:=O.eI 10 i
  obtain ⟨F,O⟩:=O.nM [3,2,1,0,10] Jn
  exact ⟨((i+1),(l2)),F,⟨ow,hl2⟩,O,ow⟩
 have hg:Zef l ka kb kn=l1:=by rw [hl1,show i=kn by simp at hc0;omega]
 refine Ym (Ze (Ze (Zk ?_)))
 have O:=O.turn 1 Z (r':=RS.hp (ZM 36 3 rTx (Zef l ka kb kn) v)) (fun _ _ _ _ h=>by rw [hg];exact h)
 refine Zz hG O Z .nil .none rfl
theorem Zuq (v : Value) (l : List TxD) (ka kb : Nat) (hll : l.length ≤ 1000000) (h1 : ka ≤ kb) (h2 : kb ≤ l.length) (hu : Unl TxD.id l) (f : FuncId) (fn : Func) (cps : List PV) (hf : prog.funcs[f]? = some fn) (hbd : fn.body.isSome = true) (hnn : (fn.name == "runtime.NumGoroutine") = false) (hw : ∀ x y : TxD, FnP prog f (.agg (rTx x) :: .agg (rTx y) :: cps) (.int .i64 (Zdx (TxD.id x) (TxD.id y)))) : FnG prog 272 1 [.is v, .int .i64 ka, .int .i64 kb, .clos f cps] [ZM 36 3 rTx l v] (.tup []) (fun _ => [ZM 36 3 rTx (Zv TxD.id l ka kb) v]) := by
 refine FnG.mk func272 Z ntmps272 Z kr fun B F0 a w F V hG O=>?_
 replace O:=O.turn 1 Z (r':=.ob (.val v) (ZM 36 3 rTx l)) (fun _ _ _ _ h=>h)
 refine Ya (rZ O (qR rr (qp r1 (qO rr qZ))) V G1 QL fun O=>Ye ?_)
 have hc0:ka<ka+1∧(ka+1≤kb∧l=Zv TxD.id l ka (ka+1)∨kb≤ka∧l=l):=⟨ow,by rcases Yah ka kb with h | h;exact .inl ⟨h,(sortSeg_one l ow).symm⟩;exact .inr ⟨h,rfl⟩⟩
 replace O:=O.eI 8 ka
 refine Zh (σ:=Nat×List TxD) [0,1,2,3] [0] (fun s=>[(8,.pv (.int .i64 (s.1:Int)))]) (fun s=>[(1,.ob (.val v) (ZM 36 3 rTx s.2))]) (fun s=>ka<s.1∧(s.1≤kb∧s.2=Zv TxD.id l ka s.1∨kb≤ka∧s.2=l)) (fun s=>kb - s.1) ((ka+1),(l)) O ⟨rfl,rfl,rfl,rfl,rfl,tv⟩ ⟨rfl,rfl,tv⟩ hc0 ?_
 clear O;intro s a w F hC O
 obtain ⟨i,l1⟩:=s
 have hC:=X3
 obtain ⟨F,O⟩:=O.nM G1 QL
 have O:=X2
 obtain ⟨hai,hq⟩:=hC
 refine Ya (Ya (rZ O (qR rr (qR rr (qL r2))) V [14,8,3,2,1,0] QL fun O=>?_))
 refine Zb O Z (fun hc0=>?_) (fun hc0=>?_)
 ·skip
  have hib:i<kb:=WI
  have hl1:l1=Zv TxD.id l ka i:=by rcases hq with hq | hq;exact hq.2;omega
  have hn1:l1.length=l.length:=by rw [hl1];exact Z8 ow
  refine Yd (Za (Ya (Ye (Ya (rZ O (qR rr (qO rr qZ)) V JL QL fun O=>Ye ?_)))))
  have hc1:ka≤i∧i≤i∧l1=Zgi l1 i i ∧ ∀ q,i≤q→q<i→TxD.id (Nn l1 i)<TxD.id (Nn l1 q):=⟨ow,YE _,(ZfD ow).symm,fun q h1 h2=>by omega⟩
  refine Zh (σ:=Nat×List TxD) [0,1,2,3,8] [0] (fun s=>[(9,.pv (.int .i64 (s.1:Int)))]) (fun s=>[(1,.ob (.val v) (ZM 36 3 rTx s.2))]) (fun s=>ka≤s.1∧s.1≤i∧s.2=Zgi l1 s.1 i ∧ ∀ q,s.1≤q→q<i→TxD.id (Nn l1 i)<TxD.id (Nn l1 q)) (fun s=>s.1) ((i),(l1)) O ⟨rfl,rfl,rfl,rfl,rfl,rfl,tv⟩ ⟨rfl,rfl,tv⟩ hc1 ?_
  clear O;intro s a w F hC O
  obtain ⟨j,l2⟩:=s
  have hC:=X3
  obtain ⟨F,O⟩:=O.nM JL QL
  have O:=X2
  obtain ⟨haj,hji,hl2,hgt⟩:=hC
  have hn2:l2.length=l.length:=by rw [hl2,Zcn hji ow];exact hn1
  have hx0:Nn l2 j=Nn l1 i:=by rw [hl2,Zcl hji ow,Yg rfl]
  have hx1:ka<j→Nn l2 (j - 1)=Nn l1 (j - 1):=fun h=>by rw [hl2,Zcl hji ow,Yb ow,Yb ow]
  have hwj:ka<j→IntKind.wrap .i64 ((j:Int) - 1)=((j - 1:Nat):Int):=fun h=>by rw [Zj ow];omega
  refine Ya (Ya (Zr O (qR rr (qR rr (qf (o_gtr .t .t) r2 qz (qR rr (qm Z Z Z Z (qm Z Z Z Z (qm Z Z Z Z (qk Z (fun h=>o_indexAddr_row (sz:=3) 1 (.mk YbR kr) (.w h .is) (.w h) ow ow Wd) r3 r1 (qk Z (fun h=>Zs (ag:=true) (sz':=3) (sz:=3) 1 (.w h) Wt ow kr kr kr) r2 r1 (qm Z Z Z Z (qm Z Z Z Z (qk Z (fun h=>o_sub (.w h) qi) r2 qz (qk Z (fun h=>o_indexAddr_row (sz:=3) 1 (.mk YbR kr) (.w h .is) (.w h) K5 K5 Wd) r3 r1 (qk Z (fun h=>Zs (ag:=true) (sz':=3) (sz:=3) 1 (.w h) Wt K5 kr kr kr) r2 r1 (qk Z (fun h=>o_callClosP (avs:=[.agg (rTx (Nn l2 ((j:Int)).toNat)),.agg (rTx (Nn l2 (IntKind.wrap .i64 ((j:Int) - 1)).toNat))]) (.w h) (hw (Nn l2 ((j:Int)).toNat) (Nn l2 (IntKind.wrap .i64 ((j:Int) - 1)).toNat)) hf hbd hnn (Args.two (.pagg (.w h)) (.pagg (.w h)))) r4 qz (qk Z (fun h=>ZaR (.w h) qi) r2 qz (qf (ZF .t .t) r2 qz qZ))))))))))))))))) V [34,9,8,3,2,1,0] QL Z Z fun a w F O=>?_))
  have O:=XM
  try simp only [Yf] at O
  refine Za (Zb O Z (fun hc1=>?_) (fun hc1=>?_))
  ·skip
   obtain ⟨haj2,h9⟩:ka<j∧Zdx (TxD.id (Nn l2 j)) (TxD.id (Nn l2 (IntKind.wrap .i64 ((j:Int) - 1)).toNat))<0:=by simpa using hc1
   rw [hwj haj2,Yf,hx0,hx1 haj2] at h9
   have h9:=Zbi.1 h9
   have hgt3:∀ q,j - 1≤q→q<i→TxD.id (Nn l1 i)<TxD.id (Nn l1 q):=fun q h1 h2=>by rcases Yah q j with h | h;rw [show q=j - 1 by omega];exact h9;exact hgt q h h2
   refine Yd (Za (Ya (Ye (Zr O (qR rr (qR rr (qR rr (qR rr (qf (o_sub .t qi) r1 qz (qR rr (qR rr (qf (o_sub .t qi) r1 qz (qf (o_indexAddr_row (sz:=3) 1 (.mk YbR kr) .is .t K6 K6 Wd) r2 r1 (qf (Zs (ag:=true) (sz':=3) (sz:=3) 1 .t Wt K6 kr kr kr) r1 r1 (qR rr (qR rr (qf (o_indexAddr_row (sz:=3) 1 (.mk YbR kr) .is .t ow ow Wd) r2 r1 (qf (Zs (ag:=true) (sz':=3) (sz:=3) 1 .t Wt ow kr kr kr) r1 r1 (qf (o_indexAddr_row (sz:=3) 1 (.mk YbR kr) .is .t ow ow Wd) r2 r1 (qf (Z1 (sz:=3) 1 .t Wt ow (.conv .t (Ent.aggU (l:=rTx (Nn l2 (IntKind.wrap .i64 ((j:Int) - 1)).toNat)) Z Z)) kr) r2 r1 (qf (o_indexAddr_row (sz:=3) 1 (.mk YbR kr) .is .t K6 K7 Wd) r2 r1 (qf (Z1 (sz:=3) 1 .t Wt K7 (.conv .t (Ent.aggU (l:=rTx (Nn l2 ((j:Int)).toNat)) Z Z)) kr) r2 r1 qZ)))))))))))))))))) V JL QL Z Z fun a w F O=>?_))))
   have O:=Xz
   try simp only [Yf] at O
   rw [hwj haj2] at O
   simp only [Yf] at O
   obtain ⟨l3,hl3⟩:∃ z,z=Zgi l1 (j - 1) i:=⟨_,rfl⟩
   rw [show (l2.set j (Nn l2 (j - 1))).set (j - 1) (Nn l2 j)=l3 from by rw [hl3,← ZfB ow hji ow,← hl2];rfl] at O
   refine Zf (Za (rZ O (qR rr (qf (o_sub .t qi) r1 qz (qO rr qZ))) V JL QL fun O=>?_))
   replace O:=O.ent (i:=9) (s':=.pv (.int .i64 ((j - 1:Nat):Int))) Z (.int (hwj haj2))
   obtain ⟨F,O⟩:=O.nM [8,3,2,1,0,9] Jn
   exact ⟨((j - 1),(l3)),F,⟨ow,ow,hl3,hgt3⟩,O,ow⟩
  have h9:¬ (ka<j∧Zdx (TxD.id (Nn l2 j)) (TxD.id (Nn l2 (IntKind.wrap .i64 ((j:Int) - 1)).toNat))<0):=WE
  have hend:l2=Zv TxD.id l ka (i+1):=by
    rw [hl2]
    refine ZkQ haj hji ow (ZfP hu _ _) hl1 ?_ hgt
    rcases Yah ka j with h | h
    · refine .inr (Zf3 (Zau (κ:=TxD.id) (a:=ka) (b:=i) ow hu |> fun z=>(by rw [hl1];exact z:Unl TxD.id l1)) (i:=i) (j:=j - 1) ow ow ow fun h8=>h9 ⟨h,?_⟩)
      rw [hwj h,Yf,hx0,hx1 h]
      exact Zbi.2 h8
    · exact .inl ow
  refine Ym (Ze (Ze (Zk (Zf (Za (rZ O (qR rr (qp r1 (qO rr qZ))) V G1 QL fun O=>?_))))))
  replace O:=O.eI 8 i
  obtain ⟨F,O⟩:=O.nM [3,2,1,0,8] Jn
  exact ⟨((i+1),(l2)),F,⟨ow,.inl ⟨ow,hend⟩⟩,O,ow⟩
 have hg:Zv TxD.id l ka kb=l1:=by
   rcases hq with hq | hq
   · rw [hq.2,show i=kb by simp at hc0;omega]
   · rw [hq.2,show kb=ka by omega];exact Zbz (YE _) (by rw [ZfJ];exact List.Pairwise.nil)
 refine Ym (Ze (Ze (Zk ?_)))
 have O:=O.turn 1 Z (r':=RS.hp (ZM 36 3 rTx (Zv TxD.id l ka kb) v)) (fun _ _ _ _ h=>by rw [hg];exact h)
 refine Zz hG O Z .nil .none rfl
theorem Zvk (v:Value) (l:List TxD) (ka km kb:Nat) (hll:l.length≤1000000) (h1:ka<km) (h2:km<kb) (h3:kb≤l.length) (f:FuncId) (cps:List PV):FnG prog 280 1 [.is v,.int .i64 ka,.int .i64 km,.int .i64 kb,.clos f cps] [ZM 36 3 rTx l v] (.tup []) (fun _=>[ZM 36 3 rTx (Z2 l ka km kb) v]):=by
 refine FnG.mk func280 Z ntmps280 Z kr fun B F0 a w F V hG O=>?_
 replace O:=O.turn 1 Z (r':=.ob (.val v) (ZM 36 3 rTx l)) (fun _ _ _ _ h=>h)
 refine Ya (rZ O (qR rr (qR rr (qf (o_sub .t .t) r2 qz (qO rr qZ)))) V [10,4,3,2,0] QL fun O=>Ya ?_)
 refine rZ O (qR rr (qR rr (qf (o_sub .t .t) r2 qz (qO rr qZ)))) V Jp QL fun O=>(Ya (Ye ?_))
 have hc0:0<km - ka∧0<kb - km∧ka+(km - ka)≤km∧km+(kb - km)≤kb∧l.length=l.length∧Z2 l (km - (km - ka)) km (km+(kb - km))=Z2 l ka km kb:=⟨ow,ow,ow,ow,rfl,by rw [show km - (km - ka)=ka by omega,show km+(kb - km)=kb by omega]⟩
 replace O:=O.ent (i:=10) (s':=.pv (.int .i64 ((km - ka:Nat):Int))) Z (.int K8)
 replace O:=O.ent (i:=11) (s':=.pv (.int .i64 ((kb - km:Nat):Int))) Z (.int K8)
 refine Zh (σ:=Nat×Nat×List TxD) [0,2,4] [0] (fun s=>[(10,.pv (.int .i64 (s.1:Int))),(11,.pv (.int .i64 (s.2.1:Int)))]) (fun s=>[(1,.ob (.val v) (ZM 36 3 rTx s.2.2))]) (fun s=>0<s.1∧0<s.2.1∧ka+s.1≤km∧km+s.2.1≤kb∧s.2.2.length=l.length∧Z2 s.2.2 (km - s.1) km (km+s.2.1)=Z2 l ka km kb) (fun s=>s.1+s.2.1) ((km - ka),(kb - km),(l)) O ⟨rfl,rfl,rfl,rfl,rfl,tv⟩ ⟨rfl,rfl,tv⟩ hc0 ?_
 clear O;intro s a w F hC O
 obtain ⟨i,j,l1⟩:=s
 have hC:=X3
 obtain ⟨F,O⟩:=O.nM Jp QL
 have O:=X2
 obtain ⟨hi0,hj0,hia,hjb,hn1,hq⟩:=hC
 have hwm:IntKind.wrap .i64 ((km:Int) - (i:Int))=((km - i:Nat):Int):=K8
 have hwn:i≤km+j→IntKind.wrap .i64 (IntKind.wrap .i64 ((km:Int)+(j:Int)) - (i:Int))=((km+j - i:Nat):Int):=fun h=>by rw [Zj (x:=(km:Int)+(j:Int)) ow,Zj ow];omega
 refine Ya (Ya (rZ O (qR rr (qR rr (qf (o_neq .t .t) r2 qz qZ))) V [20,11,10,4,2,0] QL fun O=>?_))
 refine Zb O Z (fun hc0=>?_) (fun hc0=>?_)
 ·have hij:i≠j:=WI
  refine Yd (Za (Ye (Ya (rZ O (qR rr (qR rr (qf (o_gtr .t .t) r2 qz qZ))) V [23,11,10,4,2,0] QL fun O=>?_))))
  refine Zb O Z (fun hc1=>?_) (fun hc1=>?_)
  ·have hlt:j<i:=WH
   obtain ⟨i2,i2e⟩:∃ z,z=i - j:=⟨_,rfl⟩
   obtain ⟨j2,j2e⟩:∃ z,z=j:=⟨_,rfl⟩
   obtain ⟨l2,l2e⟩:∃ z,z=Zef l1 (km - i) km j:=⟨_,rfl⟩
   have hi2:IntKind.wrap .i64 ((i:Int) - (j:Int))=(i2:Int):=K8
   have hj2:(j:Int)=(j2:Int):=by rw [j2e]
   have hmu:i2+j2<i+j:=ow
   have hC2:0<i2∧0<j2∧ka+i2≤km∧km+j2≤kb∧l2.length=l.length∧Z2 l2 (km - i2) km (km+j2)=Z2 l ka km kb:=⟨ow,ow,ow,ow,by rw [l2e,Zcp ow ow,hn1],by rw [← hq,← Zql (l:=l1) (s:=km - i) (m:=km) (e:=km+j) (j:=j) ow rfl ow,l2e,j2e,show km - i2=km - i+j by omega]⟩
   refine Ya (Zg O (qR rr (qR rr (qR rr (qf (o_sub .t .t) r2 qz (qR rr (qR rr (qR rr (qf (ZY 1 (ZuX v l1 (km - i) km j ow ow ow f cps) func282 Z kr (Args.five .t (.conv .t (.int hwm)) .t .t .t)) r5 r1 qZ)))))))) V Jp QL Z Z fun a w F O=>?_)
   rw [← l2e] at O
   refine Za (Zg O (qR rr (qR rr (qf (o_sub .t .t) r2 qz (qO rr qZ)))) V Jp QL Z Z fun a w F O=>Zf (Za ?_))
   replace O:=O.ent (i:=10) (s':=.pv (.int .i64 (i2:Int))) Z (.int hi2)
   replace O:=O.ent (i:=11) (s':=.pv (.int .i64 (j2:Int))) Z (.int hj2)
   obtain ⟨F,O⟩:=O.nM Xaf Jn
   exact ⟨((i2),(j2),(l2)),F,hC2,O,hmu⟩
  have hlt:i<j:=WH
  obtain ⟨i2,i2e⟩:∃ z,z=i:=⟨_,rfl⟩
  obtain ⟨j2,j2e⟩:∃ z,z=j - i:=⟨_,rfl⟩
  obtain ⟨l2,l2e⟩:∃ z,z=Zef l1 (km - i) (km+j - i) i:=⟨_,rfl⟩
  have hi2:(i:Int)=(i2:Int):=by rw [i2e]
  have hj2:IntKind.wrap .i64 ((j:Int) - (i:Int))=(j2:Int):=K8
  have hmu:i2+j2<i+j:=ow
  have hC2:0<i2∧0<j2∧ka+i2≤km∧km+j2≤kb∧l2.length=l.length∧Z2 l2 (km - i2) km (km+j2)=Z2 l ka km kb:=⟨ow,ow,ow,ow,by rw [l2e,Zcp ow ow,hn1],by rw [← hq,← Zpw (l:=l1) (s:=km - i) (m:=km) (e:=km+j) (i:=i) ow ow ow,l2e,i2e,show km+j2=km+j - i by omega]⟩
  refine Ya (Zg O (qR rr (qR rr (qR rr (qf (o_sub .t .t) r2 qz (qR rr (qR rr (qf (o_add .t .t) r2 qz (qR rr (qf (o_sub .t .t) r2 qz (qR rr (qR rr (qf (ZY 1 (ZuX v l1 (km - i) (km+j - i) i ow ow ow f cps) func282 Z kr (Args.five .t (.conv .t (.int hwm)) (.conv .t (.int (hwn ow))) .t .t)) r5 r1 qZ)))))))))))) V Jp QL Z Z fun a w F O=>?_)
  rw [← l2e] at O
  refine Za (Zg O (qR rr (qR rr (qf (o_sub .t .t) r2 qz (qO rr qZ)))) V Jp QL Z Z fun a w F O=>Zf (Za ?_))
  replace O:=O.ent (i:=10) (s':=.pv (.int .i64 (i2:Int))) Z (.int hi2)
  replace O:=O.ent (i:=11) (s':=.pv (.int .i64 (j2:Int))) Z (.int hj2)
  obtain ⟨F,O⟩:=O.nM Xaf Jn
  exact ⟨((i2),(j2),(l2)),F,hC2,O,hmu⟩
 have hij:i=j:=WI
 have hg:Z2 l ka km kb=Zef l1 (km - i) km i:=by rw [← hq,← hij];exact (Zqy ow rfl ow).symm
 refine Ym (Ze (Ze (Zk (Za (Zg O (qR rr (qR rr (qR rr (qf (o_sub .t .t) r2 qz (qR rr (qR rr (qR rr (qf (ZY 1 (ZuX v l1 (km - i) km i ow ow ow f cps) func282 Z kr (Args.five .t (.conv .t (.int hwm)) .t .t .t)) r5 r1 qZ)))))))) V [] QL Z Z fun a w F O=>?_)))))
 have O:=O.turn 1 Z (r':=RS.hp (ZM 36 3 rTx (Z2 l ka km kb) v)) (fun _ _ _ _ h=>by rw [hg];exact h)
 refine Zz hG O Z .nil .none rfl
theorem symST (v : Value) (l : List TxD) (ka km kb : Nat) (hll : l.length ≤ 1000000) (h1 : ka < km) (h2 : km < kb) (h3 : kb ≤ l.length) (hu : Unl TxD.id l) (hx : ZZ TxD.id (seg l ka km)) (hy : ZZ TxD.id (seg l km kb)) (f : FuncId) (fn : Func) (cps : List PV) (hf : prog.funcs[f]? = some fn) (hbd : fn.body.isSome = true) (hnn : (fn.name == "runtime.NumGoroutine") = false) (hw : ∀ x y : TxD, FnP prog f (.agg (rTx x) :: .agg (rTx y) :: cps) (.int .i64 (Zdx (TxD.id x) (TxD.id y)))) (n : Nat) (ih : ∀ (l : List TxD) (ka km kb : Nat), kb - ka < n → l.length ≤ 1000000 → ka < km → km < kb → kb ≤ l.length → Unl TxD.id l → ZZ TxD.id (seg l ka km) → ZZ TxD.id (seg l km kb) → FnG prog 273 1 [.is v, .int .i64 (ka : Nat), .int .i64 (km : Nat), .int .i64 (kb : Nat), .clos f cps] [ZM 36 3 rTx l v] (.tup []) (fun _ => [ZM 36 3 rTx (Zv TxD.id l ka kb) v])) (hn : kb - ka < n + 1) : FnG prog 273 1 [.is v, .int .i64 ka, .int .i64 km, .int .i64 kb, .clos f cps] [ZM 36 3 rTx l v] (.tup []) (fun _ => [ZM 36 3 rTx (Zv TxD.id l ka kb) v]) := by
 refine FnG.mk func273 Z ntmps273 Z kr fun B F0 a w F V hG O=>?_
 replace O:=O.turn 1 Z (r':=.ob (.val v) (ZM 36 3 rTx l)) (fun _ _ _ _ h=>h)
 obtain ⟨hx9,hy9⟩:(∀ i j,ka≤i→i<j→j<km→TxD.id (Nn l i)<TxD.id (Nn l j)) ∧ ∀ i j,km≤i→i<j→j<kb→TxD.id (Nn l i)<TxD.id (Nn l j):=⟨(Zez (κ:=TxD.id) ow).1 hx,(Zez (κ:=TxD.id) ow).1 hy⟩
 refine Ya (Ya (rZ O (qR rr (qR rr (qf (o_sub .t .t) r2 qz (qf (o_eql .t qi) r1 qz qZ)))) V [28,4,3,2,1,0] QL fun O=>?_))
 refine Zb O Z (fun hc0=>?_) (fun hc0=>?_)
 ·skip
  have hm1:km=ka+1:=KX
  refine Ya (rZ O (qR rr (qO rr qZ)) V Xa0 QL fun O=>Ya ?_)
  refine rZ O (qR rr (qO rr qZ)) V JC QL fun O=>(Ya (Ye ?_))
  have hc0:km≤km∧km≤kb∧kb≤kb∧(∀ q,km≤q→q<km→TxD.id (Nn l q)<TxD.id (Nn l ka)) ∧ ∀ q,kb≤q→q<kb→TxD.id (Nn l ka)<TxD.id (Nn l q):=⟨YE _,ow,YE _,fun q h1 h2=>by omega,fun q h1 h2=>by omega⟩
  refine Zh (σ:=Nat×Nat) [0,1,2,3,4] [0,1] (fun s=>[(10,.pv (.int .i64 (s.1:Int))),(11,.pv (.int .i64 (s.2:Int)))]) (fun s=>[]) (fun s=>km≤s.1∧s.1≤s.2∧s.2≤kb∧(∀ q,km≤q→q<s.1→TxD.id (Nn l q)<TxD.id (Nn l ka)) ∧ ∀ q,s.2≤q→q<kb→TxD.id (Nn l ka)<TxD.id (Nn l q)) (fun s=>s.2 - s.1) ((km),(kb)) O ⟨rfl,rfl,rfl,rfl,rfl,rfl,rfl,tv⟩ ⟨rfl,rfl,tv⟩ hc0 ?_
  clear O;intro s a w F hC O
  obtain ⟨i,j⟩:=s
  have hC:=X3
  obtain ⟨F,O⟩:=O.nM JC QL
  have O:=X2
  obtain ⟨hki,hij,hjk,hlo,hhi⟩:=hC
  refine Ya (Ya (rZ O (qR rr (qR rr (qL r2))) V [33,11,10,4,3,2,1,0] QL fun O=>?_))
  refine Zb O Z (fun hc1=>?_) (fun hc1=>?_)
  ·skip
   have hlt:i<j:=WH
   refine Yd (Za (Ye (Ya (Zg O (qR rr (qR rr (qf (o_add .t .t) r2 qz (qf (Za6 Yb2 kr .t) r1 qz (qf (ZjN .t qi We) r1 qz (qf (Za6 YbV kr .t) r1 qz (qO rr qZ))))))) V GD QL Z Z fun a w F O=>?_))))
   obtain ⟨m,hmm⟩:∃ m:Nat,m=(i+j) / 2:=⟨_,rfl⟩
   replace O:=O.ent (i:=12) (s':=.pv (.int .i64 (m:Int))) Z (.int K9)
   obtain ⟨F,O⟩:=O.nM GD QL
   refine Za (Ya (Zr O (qR rr (qR rr (qR rr (qf (o_indexAddr_row (sz:=3) 1 (.mk YbR kr) .is .t ow ow Wd) r2 r1 (qf (Zs (ag:=true) (sz':=3) (sz:=3) 1 .t Wt ow kr kr kr) r1 r1 (qR rr (qR rr (qf (o_indexAddr_row (sz:=3) 1 (.mk YbR kr) .is .t ow ow Wd) r2 r1 (qf (Zs (ag:=true) (sz':=3) (sz:=3) 1 .t Wt ow kr kr kr) r1 r1 (qf (o_callClosP (avs:=[.agg (rTx (Nn l ((m:Int)).toNat)),.agg (rTx (Nn l ((ka:Int)).toNat))]) .t (hw (Nn l ((m:Int)).toNat) (Nn l ((ka:Int)).toNat)) hf hbd hnn (Args.two (.pagg .t) (.pagg .t))) r3 qz (qf (ZaR .t qi) r1 qz qZ))))))))))) V XaE QL Z Z fun a w F O=>?_))
   have O:=XM
   try simp only [Yf] at O
   refine Za (Zb O Z (fun hc2=>?_) (fun hc2=>?_))
   ·skip
    have h9:Zdx (TxD.id (Nn l m)) (TxD.id (Nn l ka))<0:=WD
    have h8:=Zbi.1 h9
    obtain ⟨i2,hi2e⟩:∃ z,z=m+1:=⟨_,rfl⟩
    obtain ⟨j2,hj2e⟩:∃ z,z=j:=⟨_,rfl⟩
    have hi2:IntKind.wrap .i64 ((m:Int)+1)=(i2:Int):=Q3
    have hj2:(j:Int)=(j2:Int):=Ql
    have hmu:j2 - i2<j - i:=ow
    have hC2:km≤i2∧i2≤j2∧j2≤kb∧(∀ q,km≤q→q<i2→TxD.id (Nn l q)<TxD.id (Nn l ka)) ∧ ∀ q,j2≤q→q<kb→TxD.id (Nn l ka)<TxD.id (Nn l q):=⟨ow,ow,ow,fun q h1 h2=>by rcases Yah q m with h | h;exact Ybd (hy9 q m h1 h ow) h8;rw [show q=m by omega];exact h8,by rw [hj2e];exact hhi⟩
    refine Zg O (qR rr (qp r1 (qO rr qZ))) V JC QL Z Z fun a w F O=>Zf (Za ?_)
    replace O:=O.ent (i:=10) (s':=.pv (.int .i64 (i2:Int))) Z (.int hi2)
    replace O:=O.ent (i:=11) (s':=.pv (.int .i64 (j2:Int))) Z (.int hj2)
    obtain ⟨F,O⟩:=O.nM Dc QL
    exact ⟨((i2),(j2)),F,hC2,O,hmu⟩
   have h9:¬ Zdx (TxD.id (Nn l m)) (TxD.id (Nn l ka))<0:=WD
   have h8:=Zf3 hu (i:=m) (j:=ka) ow ow ow (fun e=>h9 (Zbi.2 e))
   obtain ⟨i2,hi2e⟩:∃ z,z=i:=⟨_,rfl⟩
   obtain ⟨j2,hj2e⟩:∃ z,z=m:=⟨_,rfl⟩
   have hi2:(i:Int)=(i2:Int):=QH
   have hj2:(m:Int)=(j2:Int):=Ql
   have hmu:j2 - i2<j - i:=ow
   have hC2:km≤i2∧i2≤j2∧j2≤kb∧(∀ q,km≤q→q<i2→TxD.id (Nn l q)<TxD.id (Nn l ka)) ∧ ∀ q,j2≤q→q<kb→TxD.id (Nn l ka)<TxD.id (Nn l q):=⟨ow,ow,ow,by rw [hi2e];exact hlo,fun q h1 h2=>by rcases Yah m q with h | h;exact Ybd h8 (hy9 m q ow h h2);rw [show q=m by omega];exact h8⟩
   refine Zg O (qR rr (qO rr qZ)) V JC QL Z Z fun a w F O=>Zf (Za ?_)
   replace O:=O.ent (i:=10) (s':=.pv (.int .i64 (i2:Int))) Z (.int hi2)
   replace O:=O.ent (i:=11) (s':=.pv (.int .i64 (j2:Int))) Z (.int hj2)
   obtain ⟨F,O⟩:=O.nM Dc QL
   exact ⟨((i2),(j2)),F,hC2,O,hmu⟩
  have hjj:i=j:=WH
  have hg1:Zkb l ka (i - 1)=Zv TxD.id l ka kb:=Zkl ow ow ow (by rw [← hm1];exact hy) (by rw [← hm1];exact hlo) Ka
  refine Ym (Ze (Ze (Zk (Za (Ya (Ya (rZ O (qR rr (qO rr qZ)) V JD QL fun O=>Ye ?_)))))))
  have hc1:ka≤ka∧ka+1≤i∧l=Zkb l ka ka:=⟨YE _,ow,(ZkB ow).symm⟩
  refine Zh (σ:=Nat×List TxD) [0,1,2,3,4,10] [0] (fun s=>[(13,.pv (.int .i64 (s.1:Int)))]) (fun s=>[(1,.ob (.val v) (ZM 36 3 rTx s.2))]) (fun s=>ka≤s.1∧s.1+1≤i∧s.2=Zkb l ka s.1) (fun s=>i - s.1) ((ka),(l)) O ⟨rfl,rfl,rfl,rfl,rfl,rfl,rfl,tv⟩ ⟨rfl,rfl,tv⟩ hc1 ?_
  clear O;intro s a w F hC O
  obtain ⟨k,l1⟩:=s
  have hC:=X3
  obtain ⟨F,O⟩:=O.nM JD QL
  have O:=X2
  obtain ⟨hka,hki2,hl1⟩:=hC
  have hn1:l1.length=l.length:=by rw [hl1];exact Zds hka ow
  have hwk:IntKind.wrap .i64 ((k:Int)+1)=((k+1:Nat):Int):=ZaY ow
  have hwi:IntKind.wrap .i64 ((i:Int) - 1)=((i - 1:Nat):Int):=K8
  refine Ya (Ya (rZ O (qR rr (qR rr (qf (o_sub .t qi) r1 qz (qL r2)))) V [58,13,10,4,3,2,1,0] QL fun O=>?_))
  refine Zb O Z (fun hc3=>?_) (fun hc3=>?_)
  ·skip
   have hlt:k+1<i:=by have h9:=hc3;rw [hwi] at h9;simp at h9;omega
   refine Yd (Za (Ya (Ye (Zr O (qR rr (qR rr (qR rr (qR rr (qp r1 (qR rr (qR rr (qp r1 (qf (o_indexAddr_row (sz:=3) 1 (.mk YbR kr) .is .t Kb Kb Wd) r2 r1 (qf (Zs (ag:=true) (sz':=3) (sz:=3) 1 .t Wt Kb kr kr kr) r1 r1 (qR rr (qR rr (qf (o_indexAddr_row (sz:=3) 1 (.mk YbR kr) .is .t ow ow Wd) r2 r1 (qf (Zs (ag:=true) (sz':=3) (sz:=3) 1 .t Wt ow kr kr kr) r1 r1 (qf (o_indexAddr_row (sz:=3) 1 (.mk YbR kr) .is .t ow ow Wd) r2 r1 (qf (Z1 (sz:=3) 1 .t Wt ow (.conv .t (Ent.aggU (l:=rTx (Nn l1 (IntKind.wrap .i64 ((k:Int)+1)).toNat)) Z Z)) kr) r2 r1 (qf (o_indexAddr_row (sz:=3) 1 (.mk YbR kr) .is .t Kb Kc Wd) r2 r1 (qf (Z1 (sz:=3) 1 .t Wt Kc (.conv .t (Ent.aggU (l:=rTx (Nn l1 ((k:Int)).toNat)) Z Z)) kr) r2 r1 qZ)))))))))))))))))) V JD QL Z Z fun a w F O=>?_))))
   have O:=Xz
   try simp only [Yf] at O
   rw [hwk] at O
   simp only [Yf] at O
   obtain ⟨l2,hl2⟩:∃ z,z=Zkb l ka (k+1):=⟨_,rfl⟩
   rw [show (l1.set k (Nn l1 (k+1))).set (k+1) (Nn l1 k)=l2 from by rw [hl2,← Zky hka ow,← hl1];rfl] at O
   refine Zf (Za (rZ O (qR rr (qp r1 (qO rr qZ))) V JD QL fun O=>?_))
   replace O:=O.ent (i:=13) (s':=.pv (.int .i64 ((k+1:Nat):Int))) Z (.int hwk)
   obtain ⟨F,O⟩:=O.nM [10,4,3,2,1,0,13] Jn
   exact ⟨((k+1),(l2)),F,⟨ow,ow,hl2⟩,O,ow⟩
  have hg:Zv TxD.id l ka kb=l1:=Q4
  refine Ym (Ze (Ze (Zk (Za (Yh (Zd ?_))))))
  have O:=O.turn 1 Z (r':=RS.hp (ZM 36 3 rTx (Zv TxD.id l ka kb) v)) (fun _ _ _ _ h=>by rw [hg];exact h)
  refine Zz hG O Z .nil .none rfl
 have hm1:ka+1<km:=KX
 refine Yd (Za (Ya (Ya (rZ O (qR rr (qR rr (qf (o_sub .t .t) r2 qz (qf (o_eql .t qi) r1 qz qZ)))) V [80,4,3,2,1,0] QL fun O=>?_))))
 refine Zb O Z (fun hc4=>?_) (fun hc4=>?_)
 ·skip
  have hm2:kb=km+1:=KY
  refine Ya (rZ O (qR rr (qO rr qZ)) V [14,4,3,2,1,0] QL fun O=>Ya ?_)
  refine rZ O (qR rr (qO rr qZ)) V JE QL fun O=>(Ya (Ye ?_))
  have hc0:ka≤ka∧ka≤km∧km≤km∧(∀ q,ka≤q→q<ka→TxD.id (Nn l q)<TxD.id (Nn l km)) ∧ ∀ q,km≤q→q<km→TxD.id (Nn l km)<TxD.id (Nn l q):=⟨YE _,ow,YE _,fun q h1 h2=>by omega,fun q h1 h2=>by omega⟩
  refine Zh (σ:=Nat×Nat) [0,1,2,3,4] [0,1] (fun s=>[(14,.pv (.int .i64 (s.1:Int))),(15,.pv (.int .i64 (s.2:Int)))]) (fun s=>[]) (fun s=>ka≤s.1∧s.1≤s.2∧s.2≤km∧(∀ q,ka≤q→q<s.1→TxD.id (Nn l q)<TxD.id (Nn l km)) ∧ ∀ q,s.2≤q→q<km→TxD.id (Nn l km)<TxD.id (Nn l q)) (fun s=>s.2 - s.1) ((ka),(km)) O ⟨rfl,rfl,rfl,rfl,rfl,rfl,rfl,tv⟩ ⟨rfl,rfl,tv⟩ hc0 ?_
  clear O;intro s a w F hC O
  obtain ⟨i,j⟩:=s
  have hC:=X3
  obtain ⟨F,O⟩:=O.nM JE QL
  have O:=X2
  obtain ⟨hki,hij,hjk,hlo,hhi⟩:=hC
  refine Ya (Ya (rZ O (qR rr (qR rr (qL r2))) V [85,15,14,4,3,2,1,0] QL fun O=>?_))
  refine Zb O Z (fun hc5=>?_) (fun hc5=>?_)
  ·skip
   have hlt:i<j:=Qa
   refine Yd (Za (Ye (Ya (Zg O (qR rr (qR rr (qf (o_add .t .t) r2 qz (qf (Za6 Yb2 kr .t) r1 qz (qf (ZjN .t qi We) r1 qz (qf (Za6 YbV kr .t) r1 qz (qO rr qZ))))))) V GF QL Z Z fun a w F O=>?_))))
   obtain ⟨m,hmm⟩:∃ m:Nat,m=(i+j) / 2:=⟨_,rfl⟩
   replace O:=O.ent (i:=16) (s':=.pv (.int .i64 (m:Int))) Z (.int K9)
   obtain ⟨F,O⟩:=O.nM GF QL
   refine Za (Ya (Zr O (qR rr (qR rr (qR rr (qf (o_indexAddr_row (sz:=3) 1 (.mk YbR kr) .is .t ow ow Wd) r2 r1 (qf (Zs (ag:=true) (sz':=3) (sz:=3) 1 .t Wt ow kr kr kr) r1 r1 (qR rr (qR rr (qf (o_indexAddr_row (sz:=3) 1 (.mk YbR kr) .is .t ow ow Wd) r2 r1 (qf (Zs (ag:=true) (sz':=3) (sz:=3) 1 .t Wt ow kr kr kr) r1 r1 (qf (o_callClosP (avs:=[.agg (rTx (Nn l ((km:Int)).toNat)),.agg (rTx (Nn l ((m:Int)).toNat))]) .t (hw (Nn l ((km:Int)).toNat) (Nn l ((m:Int)).toNat)) hf hbd hnn (Args.two (.pagg .t) (.pagg .t))) r3 qz (qf (ZaR .t qi) r1 qz (qf (ZW .t) r1 qz qZ)))))))))))) V Xat QL Z Z fun a w F O=>?_))
   have O:=XM
   try simp only [Yf] at O
   refine Za (Zb O Z (fun hc6=>?_) (fun hc6=>?_))
   ·skip
    have h9:¬ Zdx (TxD.id (Nn l km)) (TxD.id (Nn l m))<0:=Qt
    have h8:=Zf3 hu (i:=km) (j:=m) ow ow ow (fun e=>h9 (Zbi.2 e))
    obtain ⟨i2,hi2e⟩:∃ z,z=m+1:=⟨_,rfl⟩
    obtain ⟨j2,hj2e⟩:∃ z,z=j:=⟨_,rfl⟩
    have hi2:IntKind.wrap .i64 ((m:Int)+1)=(i2:Int):=Q3
    have hj2:(j:Int)=(j2:Int):=Ql
    have hmu:j2 - i2<j - i:=ow
    have hC2:ka≤i2∧i2≤j2∧j2≤km∧(∀ q,ka≤q→q<i2→TxD.id (Nn l q)<TxD.id (Nn l km)) ∧ ∀ q,j2≤q→q<km→TxD.id (Nn l km)<TxD.id (Nn l q):=⟨ow,ow,ow,fun q h1 h2=>by rcases Yah q m with h | h;exact Ybd (hx9 q m h1 h ow) h8;rw [show q=m by omega];exact h8,by rw [hj2e];exact hhi⟩
    refine Zg O (qR rr (qp r1 (qO rr qZ))) V JE QL Z Z fun a w F O=>Zf (Za ?_)
    replace O:=O.ent (i:=14) (s':=.pv (.int .i64 (i2:Int))) Z (.int hi2)
    replace O:=O.ent (i:=15) (s':=.pv (.int .i64 (j2:Int))) Z (.int hj2)
    obtain ⟨F,O⟩:=O.nM Dd QL
    exact ⟨((i2),(j2)),F,hC2,O,hmu⟩
   have h9:Zdx (TxD.id (Nn l km)) (TxD.id (Nn l m))<0:=Qt
   have h8:=Zbi.1 h9
   obtain ⟨i2,hi2e⟩:∃ z,z=i:=⟨_,rfl⟩
   obtain ⟨j2,hj2e⟩:∃ z,z=m:=⟨_,rfl⟩
   have hi2:(i:Int)=(i2:Int):=QH
   have hj2:(m:Int)=(j2:Int):=Ql
   have hmu:j2 - i2<j - i:=ow
   have hC2:ka≤i2∧i2≤j2∧j2≤km∧(∀ q,ka≤q→q<i2→TxD.id (Nn l q)<TxD.id (Nn l km)) ∧ ∀ q,j2≤q→q<km→TxD.id (Nn l km)<TxD.id (Nn l q):=⟨ow,ow,ow,by rw [hi2e];exact hlo,fun q h1 h2=>by rcases Yah m q with h | h;exact Ybd h8 (hx9 m q ow h h2);rw [show q=m by omega];exact h8⟩
   refine Zg O (qR rr (qO rr qZ)) V JE QL Z Z fun a w F O=>Zf (Za ?_)
   replace O:=O.ent (i:=14) (s':=.pv (.int .i64 (i2:Int))) Z (.int hi2)
   replace O:=O.ent (i:=15) (s':=.pv (.int .i64 (j2:Int))) Z (.int hj2)
   obtain ⟨F,O⟩:=O.nM Dd QL
   exact ⟨((i2),(j2)),F,hC2,O,hmu⟩
  have hjj:i=j:=Qa
  have hg1:Zgi l i km=Zv TxD.id l ka kb:=by rw [hm2];exact ZiE hki ow ow hx hlo Ka
  refine Ym (Ze (Ze (Zk (Za (Ya (Ya (rZ O (qR rr (qO rr qZ)) V JF QL fun O=>Ye ?_)))))))
  have hc1:i≤km∧km≤km∧l=Zgi l km km:=⟨ow,YE _,(ZfD ow).symm⟩
  refine Zh (σ:=Nat×List TxD) [0,1,2,3,4,14] [0] (fun s=>[(17,.pv (.int .i64 (s.1:Int)))]) (fun s=>[(1,.ob (.val v) (ZM 36 3 rTx s.2))]) (fun s=>i≤s.1∧s.1≤km∧s.2=Zgi l s.1 km) (fun s=>s.1) ((km),(l)) O ⟨rfl,rfl,rfl,rfl,rfl,rfl,rfl,tv⟩ ⟨rfl,rfl,tv⟩ hc1 ?_
  clear O;intro s a w F hC O
  obtain ⟨k,l1⟩:=s
  have hC:=X3
  obtain ⟨F,O⟩:=O.nM JF QL
  have O:=X2
  obtain ⟨hka,hki2,hl1⟩:=hC
  have hn1:l1.length=l.length:=by rw [hl1];exact Zcn hki2 ow
  have hwk:i<k→IntKind.wrap .i64 ((k:Int) - 1)=((k - 1:Nat):Int):=fun h=>by rw [Zj ow];omega
  refine Ya (Ya (rZ O (qR rr (qR rr (qf (o_gtr .t .t) r2 qz qZ))) V [110,17,14,4,3,2,1,0] QL fun O=>?_))
  refine Zb O Z (fun hc7=>?_) (fun hc7=>?_)
  ·skip
   have hlt:i<k:=by simp at hc7;omega
   refine Yd (Za (Ya (Ye (Zr O (qR rr (qR rr (qR rr (qR rr (qf (o_sub .t qi) r1 qz (qR rr (qR rr (qf (o_sub .t qi) r1 qz (qf (o_indexAddr_row (sz:=3) 1 (.mk YbR kr) .is .t Kd Kd Wd) r2 r1 (qf (Zs (ag:=true) (sz':=3) (sz:=3) 1 .t Wt Kd kr kr kr) r1 r1 (qR rr (qR rr (qf (o_indexAddr_row (sz:=3) 1 (.mk YbR kr) .is .t ow ow Wd) r2 r1 (qf (Zs (ag:=true) (sz':=3) (sz:=3) 1 .t Wt ow kr kr kr) r1 r1 (qf (o_indexAddr_row (sz:=3) 1 (.mk YbR kr) .is .t ow ow Wd) r2 r1 (qf (Z1 (sz:=3) 1 .t Wt ow (.conv .t (Ent.aggU (l:=rTx (Nn l1 (IntKind.wrap .i64 ((k:Int) - 1)).toNat)) Z Z)) kr) r2 r1 (qf (o_indexAddr_row (sz:=3) 1 (.mk YbR kr) .is .t Kd Ke Wd) r2 r1 (qf (Z1 (sz:=3) 1 .t Wt Ke (.conv .t (Ent.aggU (l:=rTx (Nn l1 ((k:Int)).toNat)) Z Z)) kr) r2 r1 qZ)))))))))))))))))) V JF QL Z Z fun a w F O=>?_))))
   have O:=Xz
   try simp only [Yf] at O
   rw [hwk hlt] at O
   simp only [Yf] at O
   obtain ⟨l2,hl2⟩:∃ z,z=Zgi l (k - 1) km:=⟨_,rfl⟩
   rw [show (l1.set k (Nn l1 (k - 1))).set (k - 1) (Nn l1 k)=l2 from by rw [hl2,← ZfB ow hki2 ow,← hl1];rfl] at O
   refine Zf (Za (rZ O (qR rr (qf (o_sub .t qi) r1 qz (qO rr qZ))) V JF QL fun O=>?_))
   replace O:=O.ent (i:=17) (s':=.pv (.int .i64 ((k - 1:Nat):Int))) Z (.int (hwk hlt))
   obtain ⟨F,O⟩:=O.nM [14,4,3,2,1,0,17] Jn
   exact ⟨((k - 1),(l2)),F,⟨ow,ow,hl2⟩,O,ow⟩
  have hg:Zv TxD.id l ka kb=l1:=by rw [hl1,← hg1,show k=i by simp at hc7;omega]
  refine Ym (Ze (Ze (Zk (Za (Yh (Zd ?_))))))
  have O:=O.turn 1 Z (r':=RS.hp (ZM 36 3 rTx (Zv TxD.id l ka kb) v)) (fun _ _ _ _ h=>by rw [hg];exact h)
  refine Zz hG O Z .nil .none rfl
 have hm2:km+1<kb:=KY
 refine Yd (Za (Ya (Zg O (qR rr (qR rr (qf (o_add .t .t) r2 qz (qf (Za6 Yb2 kr .t) r1 qz (qf (ZjN .t qi We) r1 qz (qf (Za6 YbV kr .t) r1 qz (qO rr qZ))))))) V Xa1 QL Z Z fun a w F O=>?_)))
 obtain ⟨mid,hmmid⟩:∃ m:Nat,m=(ka+kb) / 2:=⟨_,rfl⟩
 replace O:=O.ent (i:=18) (s':=.pv (.int .i64 (mid:Int))) Z (.int (by rw [hmmid];exact ZdA ow))
 obtain ⟨F,O⟩:=O.nM Xa1 QL
 refine Za (Ya (Zg O (qR rr (qR rr (qf (o_add .t .t) r2 qz (qO rr qZ)))) V Ga QL Z Z fun a w F O=>?_))
 replace O:=O.ent (i:=19) (s':=.pv (.int .i64 ((mid+km:Nat):Int))) Z (.int K8)
 obtain ⟨F,O⟩:=O.nM Ga QL
 refine Za (Ya (rZ O (qI (qI qZ)) V Ga QL fun O=>(Ya (Ya ?_))))
 refine rZ O (qR rr (qR rr (qf (o_gtr .t .t) r2 qz qZ))) V [140,19,18,4,3,2,1,0] QL fun O=>?_
 refine Zc2 (σ:=Nat×Nat) [0,1,2,3,4,18,19] [0,1] (fun s=>[(20,.pv (.int .i64 (s.1:Int))),(21,.pv (.int .i64 (s.2:Int)))]) (fun s=>[]) (fun s=>(mid<km∧s.1+kb=mid+km∧s.2=mid)∨(km≤mid∧s.1=ka∧s.2=km)) O ?_ ?_
 ·skip
  refine Zb O Z (fun hc8=>?_) (fun hc8=>?_)
  ·skip
   have hmm:mid<km:=QA
   obtain ⟨s0,s0e⟩:∃ z,z=mid+km - kb:=⟨_,rfl⟩
   obtain ⟨r0,r0e⟩:∃ z,z=mid:=⟨_,rfl⟩
   have hs0:(mid<km∧s0+kb=mid+km∧r0=mid)∨(km≤mid∧s0=ka∧r0=km):=.inl ⟨hmm,ow,r0e⟩
   have hcs:IntKind.wrap .i64 (((mid+km:Nat):Int) - (kb:Int))=(s0:Int):=K8
   have hcr:(mid:Int)=(r0:Int):=by rw [r0e]
   refine Ya (rZ O (qR rr (qR rr (qf (o_sub .t .t) r2 qz (qO rr qZ)))) V GG QL fun O=>?_)
   refine rZ O (qR rr (qO rr qZ)) V JA QL fun O=>?_
   replace O:=O.ent (i:=20) (s':=.pv (.int .i64 (s0:Int))) Z (.int hcs)
   replace O:=O.ent (i:=21) (s':=.pv (.int .i64 (r0:Int))) Z (.int hcr)
   obtain ⟨F,O⟩:=O.nM Gl QL
   exact ⟨((s0),(r0)),F,hs0,O⟩
  have hmm:km≤mid:=QA
  obtain ⟨s0,s0e⟩:∃ z,z=ka:=⟨_,rfl⟩
  obtain ⟨r0,r0e⟩:∃ z,z=km:=⟨_,rfl⟩
  have hs0:(mid<km∧s0+kb=mid+km∧r0=mid)∨(km≤mid∧s0=ka∧r0=km):=.inr ⟨hmm,s0e,r0e⟩
  have hcs:(ka:Int)=(s0:Int):=by rw [s0e]
  have hcr:(km:Int)=(r0:Int):=by rw [r0e]
  refine Ya (rZ O (qR rr (qO rr qZ)) V GG QL fun O=>?_)
  refine rZ O (qR rr (qO rr qZ)) V JA QL fun O=>?_
  replace O:=O.ent (i:=20) (s':=.pv (.int .i64 (s0:Int))) Z (.int hcs)
  replace O:=O.ent (i:=21) (s':=.pv (.int .i64 (r0:Int))) Z (.int hcr)
  obtain ⟨F,O⟩:=O.nM Gl QL
  exact ⟨((s0),(r0)),F,hs0,O⟩
 clear O;intro s a w F hC O
 obtain ⟨s0,r0⟩:=s
 have hC:=X3
 obtain ⟨F,O⟩:=O.nM JA QL
 have O:=X2
 have hs0:=hC
 refine Ya (Zg O (qR rr (qf (o_sub .t qi) r1 qz (qO rr qZ))) V J2 QL Z Z fun a w F O=>?_)
 replace O:=O.ent (i:=22) (s':=.pv (.int .i64 ((mid+km - 1:Nat):Int))) Z (.int K8)
 obtain ⟨F,O⟩:=O.nM J2 QL
 refine Za (Ya (Ye ?_))
 have hsr0:s0≤r0∧ka≤s0∧r0≤km∧r0≤mid:=ow
 refine Zh (σ:=Nat×Nat) [0,1,2,3,4,18,19,22] [0,1] (fun s=>[(20,.pv (.int .i64 (s.1:Int))),(21,.pv (.int .i64 (s.2:Int)))]) (fun s=>[]) (fun s=>s0≤s.1∧s.1≤s.2∧s.2≤r0∧(s.1=s0∨TxD.id (Nn l (s.1 - 1))<TxD.id (Nn l (mid+km - s.1)))∧(s.2=r0∨TxD.id (Nn l (mid+km - 1 - s.2))<TxD.id (Nn l s.2))) (fun s=>s.2 - s.1) ((s0),(r0)) O ⟨rfl,rfl,rfl,rfl,rfl,rfl,rfl,rfl,rfl,rfl,tv⟩ ⟨rfl,rfl,tv⟩ ⟨YE _,hsr0.1,YE _,.inl rfl,.inl rfl⟩ ?_
 clear O;intro s a w F hC O
 obtain ⟨st,r⟩:=s
 have hC:=X3
 obtain ⟨F,O⟩:=O.nM J2 QL
 have O:=X2
 obtain ⟨hs1,hsr,hr1,hlo,hhi⟩:=hC
 refine Ya (Ya (rZ O (qR rr (qR rr (qL r2))) V DK QL fun O=>?_))
 refine Zb O Z (fun hc9=>?_) (fun hc9=>?_)
 ·skip
  have hlt:st<r:=QB
  refine Yd (Za (Ye (Ya (Zg O (qR rr (qR rr (qf (o_add .t .t) r2 qz (qf (Za6 Yb2 kr .t) r1 qz (qf (ZjN .t qi We) r1 qz (qf (Za6 YbV kr .t) r1 qz (qO rr qZ))))))) V JS QL Z Z fun a w F O=>?_))))
  obtain ⟨m,hmm⟩:∃ m:Nat,m=(st+r) / 2:=⟨_,rfl⟩
  replace O:=O.ent (i:=23) (s':=.pv (.int .i64 (m:Int))) Z (.int K9)
  obtain ⟨F,O⟩:=O.nM JS QL
  have hwp:IntKind.wrap .i64 (((mid+km - 1:Nat):Int) - (m:Int))=((mid+km - 1 - m:Nat):Int):=K8
  refine Za (Ya (Zr O (qR rr (qR rr (qR rr (qR rr (qf (o_sub .t .t) r2 qz (qf (o_indexAddr_row (sz:=3) 1 (.mk YbR kr) .is .t Kf Kf Wd) r2 r1 (qf (Zs (ag:=true) (sz':=3) (sz:=3) 1 .t Wt Kf kr kr kr) r1 r1 (qR rr (qR rr (qf (o_indexAddr_row (sz:=3) 1 (.mk YbR kr) .is .t ow ow Wd) r2 r1 (qf (Zs (ag:=true) (sz':=3) (sz:=3) 1 .t Wt ow kr kr kr) r1 r1 (qf (o_callClosP (avs:=[.agg (rTx (Nn l (IntKind.wrap .i64 (((mid+km - 1:Nat):Int) - (m:Int))).toNat)),.agg (rTx (Nn l ((m:Int)).toNat))]) .t (hw (Nn l (IntKind.wrap .i64 (((mid+km - 1:Nat):Int) - (m:Int))).toNat) (Nn l ((m:Int)).toNat)) hf hbd hnn (Args.two (.pagg .t) (.pagg .t))) r3 qz (qf (ZaR .t qi) r1 qz (qf (ZW .t) r1 qz qZ)))))))))))))) V Di QL Z Z fun a w F O=>?_))
  have O:=XM
  try simp only [Yf] at O
  refine Za (Zb O Z (fun hc10=>?_) (fun hc10=>?_))
  ·skip
   have h9:¬ Zdx (TxD.id (Nn l (IntKind.wrap .i64 (((mid+km - 1:Nat):Int) - (m:Int))).toNat)) (TxD.id (Nn l m))<0:=QD
   rw [hwp,Yf] at h9
   have h8:=Zf3 hu (i:=(mid+km - 1 - m)) (j:=m) ow ow ow (fun e=>h9 (Zbi.2 e))
   obtain ⟨i2,hi2e⟩:∃ z,z=m+1:=⟨_,rfl⟩
   obtain ⟨j2,hj2e⟩:∃ z,z=r:=⟨_,rfl⟩
   have hi2:IntKind.wrap .i64 ((m:Int)+1)=(i2:Int):=Q3
   have hj2:(r:Int)=(j2:Int):=Ql
   have hmu:j2 - i2<r - st:=ow
   have hC2:s0≤i2∧i2≤j2∧j2≤r0∧(i2=s0∨TxD.id (Nn l (i2 - 1))<TxD.id (Nn l (mid+km - i2)))∧(j2=r0∨TxD.id (Nn l (mid+km - 1 - j2))<TxD.id (Nn l j2)):=⟨ow,ow,ow,.inr Kg,by rw [hj2e];exact hhi⟩
   refine Zg O (qR rr (qp r1 (qO rr qZ))) V J2 QL Z Z fun a w F O=>Zf (Za ?_)
   replace O:=O.ent (i:=20) (s':=.pv (.int .i64 (i2:Int))) Z (.int hi2)
   replace O:=O.ent (i:=21) (s':=.pv (.int .i64 (j2:Int))) Z (.int hj2)
   obtain ⟨F,O⟩:=O.nM G6 QL
   exact ⟨((i2),(j2)),F,hC2,O,hmu⟩
  have h9:Zdx (TxD.id (Nn l (IntKind.wrap .i64 (((mid+km - 1:Nat):Int) - (m:Int))).toNat)) (TxD.id (Nn l m))<0:=QD
  rw [hwp,Yf] at h9
  have h8:=Zbi.1 h9
  obtain ⟨i2,hi2e⟩:∃ z,z=st:=⟨_,rfl⟩
  obtain ⟨j2,hj2e⟩:∃ z,z=m:=⟨_,rfl⟩
  have hi2:(st:Int)=(i2:Int):=QH
  have hj2:(m:Int)=(j2:Int):=Ql
  have hmu:j2 - i2<r - st:=ow
  have hC2:s0≤i2∧i2≤j2∧j2≤r0∧(i2=s0∨TxD.id (Nn l (i2 - 1))<TxD.id (Nn l (mid+km - i2)))∧(j2=r0∨TxD.id (Nn l (mid+km - 1 - j2))<TxD.id (Nn l j2)):=⟨ow,ow,ow,by rw [hi2e];exact hlo,.inr (by rw [hj2e];exact h8)⟩
  refine Zg O (qR rr (qO rr qZ)) V J2 QL Z Z fun a w F O=>Zf (Za ?_)
  replace O:=O.ent (i:=20) (s':=.pv (.int .i64 (i2:Int))) Z (.int hi2)
  replace O:=O.ent (i:=21) (s':=.pv (.int .i64 (j2:Int))) Z (.int hj2)
  obtain ⟨F,O⟩:=O.nM G6 QL
  exact ⟨((i2),(j2)),F,hC2,O,hmu⟩
 have hjj:r=st:=QB
 rw [hjj] at hhi hr1
 obtain ⟨⟨k1,k2,k3⟩,kc1,kc2⟩:=ZmG (κ:=TxD.id) (l:=l) (a:=ka) (m:=km) (b:=kb) (mid:=mid) (start:=st) h3 h1 h2 ow ow ow hx hy hs0 hs1 hr1 hlo hhi ow
 obtain ⟨en,ene⟩:∃ z,z=mid+km - st:=⟨_,rfl⟩
 rw [← ene] at k2 k3 kc1 kc2
 obtain ⟨hst1,hr1a,hr1b,hr2a,hr2b,-,-⟩:=Znr (κ:=TxD.id) (l:=l) (a:=ka) (start:=st) (m:=km) (e:=en) (b:=kb) (mid:=mid) ow k1 k2 k3 h3 ow hx hy (ZfP hu _ _) kc1 kc2
 obtain ⟨l1,l1e⟩:∃ z,z=Z2 l st km en:=⟨_,rfl⟩
 rw [← l1e] at hst1 hr1a hr1b hr2a hr2b
 obtain ⟨l2,l2e⟩:∃ z,z=Zv TxD.id l1 ka mid:=⟨_,rfl⟩
 rw [← l2e] at hst1 hr2a hr2b
 obtain ⟨l3,l3e⟩:∃ z,z=Zv TxD.id l2 mid kb:=⟨_,rfl⟩
 rw [← l3e] at hst1
 have hg:Zv TxD.id l ka kb=l3:=hst1.symm
 have hn1:l1.length≤1000000:=by rw [l1e,ZiL k1 k2 ow];exact hll
 have hm1l:l1.length=l.length:=by rw [l1e,ZiL k1 k2 ow]
 have hn2:l2.length≤1000000:=Qs
 have hm2l:l2.length=l.length:=by rw [l2e,Z8 ow];exact hm1l
 have hu1:Unl TxD.id l1:=by rw [l1e];exact hu.perm (ZmX k1 k2).symm
 have hu2:Unl TxD.id l2:=Qo
 have hce:IntKind.wrap .i64 (((mid+km:Nat):Int) - (st:Int))=(en:Int):=K8
 refine Ym (Ze (Ze (Zk (Za (Ya (Zg O (qR rr (qR rr (qf (o_sub .t .t) r2 qz (qO rr qZ)))) V GH QL Z Z fun a w F O=>?_))))))
 replace O:=O.ent (i:=24) (s':=.pv (.int .i64 (en:Int))) Z (.int (hce))
 obtain ⟨F,O⟩:=O.nM GH QL
 refine Za (Ya (Ya (rZ O (qR rr (qR rr (qf (ZaR .t .t) r2 qz (qR rr (qm Z Z Z Z (qm Z Z Z Z (qk Z (fun h=>ZaR (.w h) (.w h)) r3 qz (qf (ZF .t .t) r2 qz qZ)))))))) V Xau QL fun O=>?_)))
 refine Zc2 (σ:=Unit) [0,1,3,4,18,20,24] [0] (fun s=>[]) (fun s=>[(1,.ob (.val v) (ZM 36 3 rTx l1))]) (fun s=>True) O ?_ ?_
 ·skip
  refine Zb O Z (fun hc11=>?_) (fun hc11=>?_)
  ·skip
   have h9:st<km∧km<en:=QE
   refine Zg O (qR rr (qR rr (qR rr (qR rr (qR rr (qf (ZY 1 (Zvk v l st km en hll ow ow ow f cps) func280 Z kr (Args.five .t .t .t .t .t)) r5 r1 qZ)))))) V Jw QL Z Z fun a w F O=>?_
   rw [← l1e] at O
   refine Za ?_
   obtain ⟨F,O⟩:=O.nM Jw Jn
   exact ⟨(()),F,tv,O⟩
  have h9:¬ (st<km∧km<en):=QE
  have hlr:l=l1:=by rw [l1e];exact (ZmS k1 k2 ow).symm
  rw [hlr] at O
  refine Yd (Za ?_)
  obtain ⟨F,O⟩:=O.nM Jw Jn
  exact ⟨(()),F,tv,O⟩
 clear O;intro u a w F hC O
 have hC:=X3
 obtain ⟨F,O⟩:=O.nM Jw QL
 have O:=X2
 refine Ya (Ya (rZ O (qR rr (qR rr (qf (ZaR .t .t) r2 qz (qR rr (qm Z Z Z Z (qm Z Z Z Z (qk Z (fun h=>ZaR (.w h) (.w h)) r3 qz (qf (ZF .t .t) r2 qz qZ)))))))) V [199,24,20,18,4,3,1,0] QL fun O=>?_))
 refine Zc2 (σ:=Unit) [0,3,4,18,24] [0] (fun s=>[]) (fun s=>[(1,.ob (.val v) (ZM 36 3 rTx l2))]) (fun s=>True) O ?_ ?_
 ·skip
  refine Zb O Z (fun hc12=>?_) (fun hc12=>?_)
  ·skip
   have h9:ka<st∧st<mid:=QF
   refine Zg O (qR rr (qR rr (qR rr (qR rr (qR rr (qf (ZY 1 (ih l1 ka st mid ow hn1 ow ow ow hu1 hr1a hr1b) func273 Z kr (Args.five .t .t .t .t .t)) r5 r1 qZ)))))) V G7 QL Z Z fun a w F O=>?_
   rw [← l2e] at O
   refine Za ?_
   obtain ⟨F,O⟩:=O.nM G7 Jn
   exact ⟨(()),F,tv,O⟩
  have h9:¬ (ka<st∧st<mid):=QF
  have hlr:l1=l2:=by rw [l2e];refine (Zbz ow ?_).symm; (rcases Yah ka st with h | h); (rw [show mid=st by omega];exact hr1a); (rw [show ka=st by omega];exact hr1b)
  rw [hlr] at O
  refine Yd (Za ?_)
  obtain ⟨F,O⟩:=O.nM G7 Jn
  exact ⟨(()),F,tv,O⟩
 clear O;intro u a w F hC O
 have hC:=X3
 obtain ⟨F,O⟩:=O.nM G7 QL
 have O:=X2
 refine Ya (rZ O (qR rr (qR rr (qf (ZaR .t .t) r2 qz (qR rr (qm Z Z Z Z (qm Z Z Z Z (qk Z (fun h=>ZaR (.w h) (.w h)) r3 qz (qf (ZF .t .t) r2 qz qZ)))))))) V [213,24,18,4,3,0] QL fun O=>?_)
 refine Zb O Z (fun hc13=>?_) (fun hc13=>?_)
 ·skip
  have h9:mid<en∧en<kb:=QG
  refine Zg O (qR rr (qR rr (qR rr (qR rr (qR rr (qf (ZY 1 (ih l2 mid en kb ow hn2 ow ow ow hu2 hr2a hr2b) func273 Z kr (Args.five .t .t .t .t .t)) r5 r1 qZ)))))) V [] QL Z Z fun a w F O=>?_
  rw [← l3e] at O
  have O:=O.turn 1 Z (r':=RS.hp (ZM 36 3 rTx (Zv TxD.id l ka kb) v)) (fun _ _ _ _ h=>by rw [hg];exact h)
  refine Zz hG O Z .nil .none rfl
 have h9:¬ (mid<en∧en<kb):=QG
 have hlr:l2=l3:=by rw [l3e];refine (Zbz ow ?_).symm; (rcases Yah mid en with h | h); (rw [show kb=en by omega];exact hr2a); (rw [show mid=en by omega];exact hr2b)
 rw [hlr] at O
 refine Yd ?_
 have O:=O.turn 1 Z (r':=RS.hp (ZM 36 3 rTx (Zv TxD.id l ka kb) v)) (fun _ _ _ _ h=>by rw [hg];exact h)
 refine Zz hG O Z .nil .none rfl
theorem Zu5 (v : Value) (f : FuncId) (fn : Func) (cps : List PV) (hf : prog.funcs[f]? = some fn) (hbd : fn.body.isSome = true) (hnn : (fn.name == "runtime.NumGoroutine") = false) (hw : ∀ x y : TxD, FnP prog f (.agg (rTx x) :: .agg (rTx y) :: cps) (.int .i64 (Zdx (TxD.id x) (TxD.id y)))) : ∀ (n : Nat) (l : List TxD) (ka km kb : Nat), kb - ka < n → l.length ≤ 1000000 → ka < km → km < kb → kb ≤ l.length → Unl TxD.id l → ZZ TxD.id (seg l ka km) → ZZ TxD.id (seg l km kb) → FnG prog 273 1 [.is v, .int .i64 (ka : Nat), .int .i64 (km : Nat), .int .i64 (kb : Nat), .clos f cps] [ZM 36 3 rTx l v] (.tup []) (fun _ => [ZM 36 3 rTx (Zv TxD.id l ka kb) v]) := fun n => by
 induction n with
 | zero=>intro l ka km kb h;omega
 | succ n ih=>intro l ka km kb hn hll h1 h2 h3 hu hx hy;exact symST v l ka km kb hll h1 h2 h3 hu hx hy f fn cps hf hbd hnn hw n ih hn
theorem ZuT (v : Value) (l : List TxD)  (hll : l.length ≤ 1000000) (hu : Unl TxD.id l) (f : FuncId) (fn : Func) (cps : List PV) (hf : prog.funcs[f]? = some fn) (hbd : fn.body.isSome = true) (hnn : (fn.name == "runtime.NumGoroutine") = false) (hw : ∀ x y : TxD, FnP prog f (.agg (rTx x) :: .agg (rTx y) :: cps) (.int .i64 (Zdx (TxD.id x) (TxD.id y)))) : FnG prog 244 1 [.is v, .int .i64 l.length, .clos f cps] [ZM 36 3 rTx l v] (.tup []) (fun _ => [ZM 36 3 rTx (Zak TxD.id l) v]) := by
 refine FnG.mk func244 Z ntmps244 Z kr fun B F0 a w F V hG O=>?_
 replace O:=O.turn 1 Z (r':=.ob (.val v) (ZM 36 3 rTx l)) (fun _ _ _ _ h=>h)
 refine Ya (rZ O (qI qZ) V JG QL fun O=>Ya ?_)
 refine rZ O (qR rr (qI (qO rr qZ))) V QX QL fun O=>(Ya (Ye ?_))
 have hc0:Zlh TxD.id l 20 0:=fun t ht=>by omega
 replace O:=O.ent (i:=7) (s':=.pv (.int .i64 ((0:Nat):Int))) Z (.int Z)
 replace O:=O.ent (i:=8) (s':=.pv (.int .i64 ((0+20:Nat):Int))) Z (.int Z)
 refine Zh (σ:=Nat×List TxD) [0,1,2,6] [0] (fun s=>[(7,.pv (.int .i64 (s.1:Int))),(8,.pv (.int .i64 ((s.1+20:Nat):Int)))]) (fun s=>[(1,.ob (.val v) (ZM 36 3 rTx s.2))]) (fun s=>s.1≤l.length∧(∃ t,s.1=t*20)∧s.2.length=l.length∧Unl TxD.id s.2∧s.2.Perm l∧Zlh TxD.id s.2 20 s.1) (fun s=>l.length - s.1) ((0),(l)) O ⟨rfl,rfl,rfl,rfl,rfl,rfl,tv⟩ ⟨rfl,rfl,tv⟩ ⟨Yo _,⟨0,rfl⟩,rfl,hu,Ybf _,hc0⟩ ?_
 clear O;intro s a w F hC O
 obtain ⟨q,l1⟩:=s
 have hC:=X3
 obtain ⟨F,O⟩:=O.nM QX QL
 have O:=X2
 obtain ⟨hql,⟨t,ht⟩,hn1,hu1,hp1,hB1⟩:=hC
 refine Ya (Ya (rZ O (qR rr (qR rr (qf (Zh1 .t .t) r2 qz qZ))) V [13,8,7,6,2,1,0] QL fun O=>?_))
 refine Zb O Z (fun hc0=>?_) (fun hc0=>?_)
 ·skip
  have hlt:q+20≤l.length:=WI
  obtain ⟨l2,l2e⟩:∃ z,z=Zv TxD.id l1 q (q+20):=⟨_,rfl⟩
  refine Yd (Za (Ye (Ya (Zg O (qR rr (qR rr (qR rr (qR rr (qf (ZY 1 (Zuq v l1 q (q+20) ow ow ow hu1 f fn cps hf hbd hnn hw) func272 Z kr (Args.four .t .t .t .t)) r4 r1 qZ))))) V QX QL Z Z fun a w F O=>?_))))
  rw [← l2e] at O
  refine Za (Ya (rZ O (qR rr (qO rr qZ)) V QX QL fun O=>?_))
  refine Zg O (qR rr (qR rr (qf (o_add .t .t) r2 qz (qO rr qZ)))) V QX QL Z Z fun a w F O=>Zf (Za ?_)
  have hB2:Zlh TxD.id l2 20 (q+20):=by rw [l2e,ht];exact Zfd ow Kh ow hu1
  replace O:=O.ent (i:=8) (s':=.pv (.int .i64 ((q+20+20:Nat):Int))) Z (.int K8)
  obtain ⟨F,O⟩:=O.nM Xag Jn
  exact ⟨((q+20),(l2)),F,⟨ow,⟨t+1,ow⟩,by rw [l2e,Z8 ow];exact hn1,by rw [l2e];exact Zau ow hu1,by rw [l2e];exact (ZaA ow).trans hp1,hB2⟩,O,ow⟩
 have hlt:l.length<q+20:=WI
 obtain ⟨l2,l2e⟩:∃ z,z=Zv TxD.id l1 q l.length:=⟨_,rfl⟩
 have hn2:l2.length=l.length:=Qs
 have hu2:Unl TxD.id l2:=Qo
 have hp2:l2.Perm l:=by rw [l2e];exact (ZaA ow).trans hp1
 have hB2:ZjR TxD.id l2 20 0:=by rw [l2e,ht,← hn1];exact Zgp ow Kh ow ow hu1
 refine Ym (Ze (Ze (Zk (Za (Ya (Zg O (qR rr (qR rr (qR rr (qR rr (qf (ZY 1 (Zuq v l1 q l.length ow ow ow hu1 f fn cps hf hbd hnn hw) func272 Z kr (Args.four .t .t .t .t)) r4 r1 qZ))))) V JG QL Z Z fun a w F O=>?_))))))
 rw [← l2e] at O
 refine Za (Ye ?_)
 have hc0:0<20∧20≤2000000:=ow
 replace O:=O.ent (i:=6) (s':=.pv (.int .i64 ((20:Nat):Int))) Z (.int Z)
 refine Zh (σ:=Nat×List TxD) [0,1,2] [0] (fun s=>[(6,.pv (.int .i64 (s.1:Int)))]) (fun s=>[(1,.ob (.val v) (ZM 36 3 rTx s.2))]) (fun s=>0<s.1∧s.1≤2000000∧s.2.length=l.length∧Unl TxD.id s.2∧s.2.Perm l∧ZjR TxD.id s.2 s.1 0) (fun s=>l.length - s.1) ((20),(l2)) O ⟨rfl,rfl,rfl,rfl,tv⟩ ⟨rfl,rfl,tv⟩ ⟨hc0.1,hc0.2,hn2,hu2,hp2,hB2⟩ ?_
 clear O;intro s a w F hC O
 obtain ⟨bs,l3⟩:=s
 have hC:=X3
 obtain ⟨F,O⟩:=O.nM JG QL
 have O:=X2
 obtain ⟨hb0,hb1,hn3,hu3,hp3,hB3⟩:=hC
 have hwb:IntKind.wrap .i64 (2*(bs:Int))=((2*bs:Nat):Int):=K8
 refine Ya (Ya (rZ O (qR rr (qR rr (qL r2))) V [30,6,2,1,0] QL fun O=>?_))
 refine Zb O Z (fun hc1=>?_) (fun hc1=>?_)
 ·skip
  have hlt:bs<l.length:=WH
  refine Yd (Za (Ye (Ya (rZ O (qR rr (qf (Zgh qi .t) r1 qz (qI (qO rr qZ)))) V QX QL fun O=>(Ya (Ye ?_))))))
  have hc4:Zlh TxD.id l3 (2*bs) 0:=fun t ht=>by omega
  replace O:=O.ent (i:=7) (s':=.pv (.int .i64 ((0:Nat):Int))) Z (.int Z)
  replace O:=O.ent (i:=8) (s':=.pv (.int .i64 ((0+2*bs:Nat):Int))) Z (.int K2)
  refine Zh (σ:=Nat×List TxD) [0,1,2,6] [0] (fun s=>[(7,.pv (.int .i64 (s.1:Int))),(8,.pv (.int .i64 ((s.1+2*bs:Nat):Int)))]) (fun s=>[(1,.ob (.val v) (ZM 36 3 rTx s.2))]) (fun s=>s.1≤l.length∧(∃ t,s.1=t*(2*bs))∧s.2.length=l.length∧Unl TxD.id s.2∧s.2.Perm l∧Zlh TxD.id s.2 (2*bs) s.1∧ZjR TxD.id s.2 bs s.1) (fun s=>l.length - s.1) ((0),(l3)) O ⟨rfl,rfl,rfl,rfl,rfl,rfl,tv⟩ ⟨rfl,rfl,tv⟩ ⟨Yo _,⟨0,(Nat.zero_mul _).symm⟩,hn3,hu3,hp3,hc4,hB3⟩ ?_
  clear O;intro s a w F hC O
  obtain ⟨q,l4⟩:=s
  have hC:=X3
  obtain ⟨F,O⟩:=O.nM QX QL
  have O:=X2
  obtain ⟨hql,⟨t,ht⟩,hn4,hu4,hp4,hB4,hC4⟩:=hC
  have hqw:IntKind.wrap .i64 ((q:Int)+(bs:Int))=((q+bs:Nat):Int):=K8
  refine Ya (Ya (rZ O (qR rr (qR rr (qf (Zh1 .t .t) r2 qz qZ))) V [35,8,7,6,2,1,0] QL fun O=>?_))
  refine Zb O Z (fun hc2=>?_) (fun hc2=>?_)
  ·skip
   have hlt2:q+2*bs≤l.length:=KM
   obtain ⟨l5,l5e⟩:∃ z,z=Zv TxD.id l4 q (q+2*bs):=⟨_,rfl⟩
   obtain ⟨hra,hrb⟩:=Zmq ow ht hC4 (show q+2*bs≤l4.length by omega)
   refine Yd (Za (Ye (Ya (Zg O (qR rr (qR rr (qR rr (qR rr (qf (o_add .t .t) r2 qz (qR rr (qR rr (qf (ZY 1 (Zu5 v f fn cps hf hbd hnn hw 4000000 l4 q (q+bs) (q+2*bs) ow ow ow ow ow hu4 hra hrb) func273 Z kr (Args.five .t .t (.conv .t (.int hqw)) .t .t)) r5 r1 qZ)))))))) V QX QL Z Z fun a w F O=>?_))))
   rw [← l5e] at O
   refine Za (Ya (rZ O (qR rr (qO rr qZ)) V QX QL fun O=>?_))
   refine Zg O (qR rr (qR rr (qf (Zgh qi .t) r1 qz (qf (o_add .t .t) r2 qz (qO rr qZ))))) V QX QL Z Z fun a w F O=>Zf (Za ?_)
   have ht2:q+2*bs=(t+1)*(2*bs):=Qg
   have hB5:Zlh TxD.id l5 (2*bs) (q+2*bs):=by rw [l5e,ht];exact Zfd ow Ki ow hu4
   replace O:=O.ent (i:=8) (s':=.pv (.int .i64 ((q+2*bs+2*bs:Nat):Int))) Z (.int (by rw [hwb,Zj ow];omega))
   obtain ⟨F,O⟩:=O.nM Xag Jn
   exact ⟨((q+2*bs),(l5)),F,⟨ow,⟨t+1,ht2⟩,by rw [l5e,Z8 ow];exact hn4,by rw [l5e];exact Zau ow hu4,by rw [l5e];exact (ZaA ow).trans hp4,hB5,by rw [l5e];exact Zix ow ow hC4⟩,O,ow⟩
  have hlt2:l.length<q+2*bs:=KM
  refine Ym (Ze (Ze (Zk (Za (Ya (Ya (Zg O (qR rr (qR rr (qf (o_add .t .t) r2 qz (qO rr qZ)))) V Xah QL Z Z fun a w F O=>?_)))))))
  replace O:=O.ent (i:=9) (s':=.pv (.int .i64 ((q+bs:Nat):Int))) Z (.int hqw)
  obtain ⟨F,O⟩:=O.nM Xah QL
  refine Za (Ya (rZ O (qR rr (qR rr (qL r2))) V [54,9,7,6,2,1,0] QL fun O=>?_))
  refine Zb O Z (fun hc3=>?_) (fun hc3=>?_)
  ·skip
   have hlt3:q+bs<l.length:=WV
   obtain ⟨l5,l5e⟩:∃ z,z=Zv TxD.id l4 q l.length:=⟨_,rfl⟩
   obtain ⟨hra,hrb⟩:=Zkg ow ht hC4 (show q+bs<l4.length by omega) ow
   rw [hn4] at hrb
   have hn5:l5.length=l.length:=by rw [l5e,Z8 ow];exact hn4
   have hu5:Unl TxD.id l5:=by rw [l5e];exact Zau ow hu4
   have hp5:l5.Perm l:=by rw [l5e];exact (ZaA ow).trans hp4
   have hB5:ZjR TxD.id l5 (2*bs) 0:=by rw [l5e,ht,← hn4];exact Zgp ow Ki ow ow hu4
   refine Zg O (qR rr (qR rr (qR rr (qR rr (qR rr (qf (ZY 1 (Zu5 v f fn cps hf hbd hnn hw 4000000 l4 q (q+bs) l.length ow ow ow ow ow hu4 hra hrb) func273 Z kr (Args.five .t .t .t .t .t)) r5 r1 qZ)))))) V JG QL Z Z fun a w F O=>?_
   rw [← l5e] at O
   refine Za (Zg O (qR rr (qf (Zgh .t qi) r1 qz (qO rr qZ))) V JG QL Z Z fun a w F O=>Zf (Za ?_))
   replace O:=O.ent (i:=6) (s':=.pv (.int .i64 ((2*bs:Nat):Int))) Z (.int K8)
   obtain ⟨F,O⟩:=O.nM XaZ Jn
   exact ⟨((2*bs),(l5)),F,⟨ow,ow,hn5,hu5,hp5,hB5⟩,O,ow⟩
  have hlt3:l.length≤q+bs:=WV
  obtain ⟨l5,l5e⟩:∃ z,z=l4:=⟨_,rfl⟩
  rw [← l5e] at O
  have hn5:l5.length=l.length:=by rw [l5e];exact hn4
  have hu5:Unl TxD.id l5:=by rw [l5e];exact hu4
  have hp5:l5.Perm l:=by rw [l5e];exact hp4
  have hB5:ZjR TxD.id l5 (2*bs) 0:=Q1
  refine Yd (Za (Zg O (qR rr (qf (Zgh .t qi) r1 qz (qO rr qZ))) V JG QL Z Z fun a w F O=>Zf (Za ?_)))
  replace O:=O.ent (i:=6) (s':=.pv (.int .i64 ((2*bs:Nat):Int))) Z (.int K8)
  obtain ⟨F,O⟩:=O.nM XaZ Jn
  exact ⟨((2*bs),(l5)),F,⟨ow,ow,hn5,hu5,hp5,hB5⟩,O,ow⟩
 have hg:Zak TxD.id l=l3:=(ZcJ hp3 (Zpq hB3 WH)).symm
 refine Ym (Ze (Ze (Zk ?_)))
 have O:=O.turn 1 Z (r':=RS.hp (ZM 36 3 rTx (Zak TxD.id l) v)) (fun _ _ _ _ h=>by rw [hg];exact h)
 refine Zz hG O Z .nil .none rfl
theorem ZtL (v : Value) (l : List TxD)  (hll : l.length ≤ 1000000) (hu : Unl TxD.id l) (f : FuncId) (fn : Func) (cps : List PV) (hf : prog.funcs[f]? = some fn) (hbd : fn.body.isSome = true) (hnn : (fn.name == "runtime.NumGoroutine") = false) (hw : ∀ x y : TxD, FnP prog f (.agg (rTx x) :: .agg (rTx y) :: cps) (.int .i64 (Zdx (TxD.id x) (TxD.id y)))) : FnG prog 178 1 [.is v, .clos f cps] [ZM 36 3 rTx l v] (.tup []) (fun _ => [ZM 36 3 rTx (Zak TxD.id l) v]) := by
 refine FnG.mk func178 Z ntmps178 Z kr fun B F0 a w F V hG O=>?_
 replace O:=O.turn 1 Z (r':=.ob (.val v) (ZM 36 3 rTx l)) (fun _ _ _ _ h=>h)
 refine Zg O (qR rr (qR rr (qf (Zam 1 YbR .is) r1 r1 (qR rr (qf (ZY 1 (ZuT v l hll hu f fn cps hf hbd hnn hw) func244 Z kr (Args.three .t .t .t)) r3 r1 qZ))))) V [] QL Z Z fun a w F O=>?_
 have hg:Zak TxD.id l=Zak TxD.id l:=rfl
 have O:=O.turn 1 Z (r':=RS.hp (ZM 36 3 rTx (Zak TxD.id l) v)) (fun _ _ _ _ h=>by rw [hg];exact h)
 refine Zz hG O Z .nil .none rfl
end Go.Proofs.YtfecljadegkmdaaGreat
