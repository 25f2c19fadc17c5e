/- Laws and walks. No condition beyond what each says. -/
import Derived.Test.YtfecljadegkmdaaGreatJ1
namespace Go.Proofs.YtfecljadegkmdaaGreat
open Go Go.Gm Tryz
set_option linter.unusedVariables false
set_option linter.unusedSimpArgs false
set_option maxHeartbeats 4000000
set_option maxRecDepth 8000
section
variable {α:Type} {κ:α→Int}
abbrev Z5 (κ:α→Int) (l:List α):Prop:=l.Pairwise fun x y=>κ x<κ y
def Zak (κ:α→Int) (l:List α):List α:=l.mergeSort fun x y=>decide (κ x≤κ y)
theorem ZaE (l:List α):(Zak κ l).Perm l:=YaK _ _
theorem ZcR (l:List α):(Zak κ l).length=l.length:=(ZaE l).length_eq
theorem Zfc:∀ {a b:List α},Z5 κ a→Z5 κ b→(∀ x,x ∈ a ↔ x ∈ b)→a=b
 | [],[],_,_,_=>rfl
 | [],y :: b,_,_,hm=>by have:=(hm y).2 (by simp);cases this
 | x :: a,[],_,_,hm=>by have:=(hm x).1 (by simp);cases this
 | x :: a,y :: b,ha,hb,hm=>by
  have ha':=Yx.1 ha
  have hb':=Yx.1 hb
  have e1:x=y:=by
   rcases Yo.1 ((hm x).1 (by simp)) with e | e
   ·exact e
   ·rcases Yo.1 ((hm y).2 (by simp)) with e2 | e2
    ·exact e2.symm
    ·have:=ha'.1 y e2;have:=hb'.1 x e;omega
  subst e1
  congr 1
  refine Zfc ha'.2 hb'.2 fun z=>⟨fun hz=>?_,fun hz=>?_⟩
  ·rcases Yo.1 ((hm z).1 (YM _ hz)) with e | e
   ·subst e;have:=ha'.1 z hz;omega
   ·exact e
  ·rcases Yo.1 ((hm z).2 (YM _ hz)) with e | e
   ·subst e;have:=hb'.1 z hz;omega
   ·exact e
abbrev Unl (κ:α→Int) (l:List α):Prop:=l.Pairwise fun x y=>κ x≠κ y
theorem Unl.perm {a b:List α} (h:Unl κ a) (hp:a.Perm b):Unl κ b:=(hp.pairwise_iff (fun {x y} h=>h.symm)).1 h
theorem Z5.unl {l:List α} (h:Z5 κ l):Unl κ l:=h.imp fun h=>by omega
theorem Za6 {l:List α} (h:Unl κ l):Z5 κ (Zak κ l):=by
 have h1:(Zak κ l).Pairwise fun x y=>decide (κ x≤κ y)=true:=Ybj (fun a b c h1 h2=>by simp at *;omega) (fun a b=>by simp;omega) l
 have h2:Unl κ (Zak κ l):=h.perm (ZaE l).symm
 exact (h1.and h2).imp fun {x y} k => by have h3 : κ x ≤ κ y := by simpa using k.1
                                         have h4:=k.2
                                         omega
theorem Zde {l z:List α} (hp:z.Perm l) (hz:Z5 κ z):z=Zak κ l:=
 Zfc hz (Za6 (hz.unl.perm hp)) fun x=>by rw [hp.mem_iff,(ZaE l).mem_iff]
theorem Zle {s a b:List α} (hs:(a++b).Perm s) (ha:Unl κ a) (hb:Unl κ b) (h:∀ x ∈ a,∀ y ∈ b,κ x<κ y):Zak κ a++Zak κ b=Zak κ s:=by
 refine Zde ((List.Perm.append (ZaE a) (ZaE b)).trans hs) ?_
 refine Yac.2 ⟨Za6 ha,Za6 hb,fun x hx y hy=>h x ((ZaE a).mem_iff.1 hx) y ((ZaE b).mem_iff.1 hy)⟩
theorem Zoe {a1 a2 b1 b2:List α} (hx:Z5 κ (a1++a2)) (hy:Z5 κ (b1++b2)) (h1:∀ x ∈ a1,∀ y ∈ b2,κ x<κ y) (h2:∀ x ∈ b1,∀ y ∈ a2,κ x<κ y) (hu:Unl κ ((a1++a2)++(b1++b2))):Zak κ (a1++b1)++Zak κ (a2++b2)=Zak κ ((a1++a2)++(b1++b2)):=by
 have hx':=Yac.1 hx
 have hy':=Yac.1 hy
 have hp:((a1++b1)++(a2++b2)).Perm ((a1++a2)++(b1++b2)):=by
  rw [Yp,Yp]
  refine Ybt a1 ?_
  rw [← Yp,← Yp]
  exact Ya8 b2 Ybs
 have hu2:=hu.perm hp.symm
 have hu':=Yac.1 hu2
 refine Zle hp hu'.1 hu'.2.1 fun x hx9 y hy9=>?_
 rcases YB.1 hx9 with hx9 | hx9 <;> rcases YB.1 hy9 with hy9 | hy9
 ·exact hx'.2.2 x hx9 y hy9
 ·exact h1 x hx9 y hy9
 ·exact h2 x hx9 y hy9
 ·exact hy'.2.2 x hx9 y hy9
def seg (l:List α) (a b:Nat):List α:=(l.take b).drop a
theorem Zam {l:List α} {a b:Nat} (hb:b≤l.length):(seg l a b).length=b - a:=by
 unfold seg
 rw [YK,Yk];omega
def Zw (κ:α→Int) (l:List α) (a b:Nat):List α:=l.take a++(Zak κ (seg l a b)++l.drop b)
def Z2 (l:List α) (a m b:Nat):List α:=l.take a++(seg l m b++(seg l a m++l.drop b))
theorem ZlM {p:List α} {a m:Nat} (h:a≤m):p.drop a=(p.take m).drop a++p.drop m:=by
 by_cases hm:m≤p.length
 ·have e:=List.drop_append_of_le_length (l₁:=p.take m) (l₂:=p.drop m) (i:=a) (by rw [Yk];omega)
  rw [YX] at e
  exact e
 ·rw [YS ow,Ybp (show p.length≤m by omega),YF]
theorem Zcl {l:List α} {a m b:Nat} (h1:a≤m) (h2:m≤b):seg l a b=seg l a m++seg l m b:=by
 unfold seg
 rw [ZlM (p:=l.take b) h1,Ya1,Y7 h2]
theorem ZdH {l:List α} {a b:Nat} (h:a≤b):l.take a++(seg l a b++l.drop b)=l:=by
 unfold seg
 have e:l.take a++(l.take b).drop a=l.take b:=by
  have:=YX a (l.take b)
  rwa [Ya1,Y7 h] at this
 rw [← Yp,e,YX]
theorem ZaA {l:List α} {a b:Nat} (h:a≤b):(Zw κ l a b).Perm l:=by
 unfold Zw
 conv=>rhs;rw [← ZdH (l:=l) h]
 exact Ybt _ (Ya8 _ (ZaE _))
theorem Z9 {l:List α} {a b:Nat} (h:a≤b):(Zw κ l a b).length=l.length:=(ZaA h).length_eq
theorem Zga {p s:List α} {a:Nat} (h:a=p.length):(p++s).take a=p:=by subst h;exact List.take_left
theorem Zgo {p s:List α} {a:Nat} (h:a=p.length):(p++s).drop a=s:=by subst h;exact List.drop_left
theorem ZbM {p m s:List α} {a b:Nat} (ha:a=p.length) (hb:b=p.length+m.length):seg (p++(m++s)) a b=m:=by
 unfold seg
 rw [← Yp,Zga (by rw [hb,Yc]),Zgo ha]
theorem Zex {p m s:List α} {a b:Nat} (ha:a=p.length) (hb:b=p.length+m.length):Zw κ (p++(m++s)) a b=p++(Zak κ m++s):=by
 unfold Zw
 rw [ZbM ha hb,Zga ha,← Yp p m s,Zgo (by rw [hb,Yc])]
theorem Zcj {p x y s:List α} {a m b:Nat} (ha:a=p.length) (hm:m=p.length+x.length) (hb:b=p.length+x.length+y.length):Z2 (p++(x++(y++s))) a m b=p++(y++(x++s)):=by
 have h1:seg (p++(x++(y++s))) m b=y:=by
  rw [← Yp p x]
  exact ZbM (by rw [Yc];omega) (by rw [Yc];omega)
 have h2:(p++(x++(y++s))).drop b=s:=by
  rw [← Yp p x,← Yp (p++x) y]
  exact Zgo (by simp only [Yc];omega)
 unfold Z2
 rw [Zga ha,h1,ZbM ha hm,h2]
theorem ZlZ {l:List α} {a start m e b mid:Nat} (h1:a≤start) (h2:start≤m) (h3:m≤e) (h4:e≤b) (hb:b≤l.length) (hmid:mid+m=start+e)
  (hx:Z5 κ (seg l a m)) (hy:Z5 κ (seg l m b)) (hu:Unl κ (seg l a b)) (hc1:∀ x ∈ seg l a start,∀ y ∈ seg l e b,κ x<κ y) (hc2:∀ x ∈ seg l m e,∀ y ∈ seg l start m,κ x<κ y) :
  Zw κ (Zw κ (Z2 l start m e) a mid) mid b=Zw κ l a b∧Z5 κ (seg (Z2 l start m e) a start)∧Z5 κ (seg (Z2 l start m e) start mid)∧Z5 κ (seg (Zw κ (Z2 l start m e) a mid) mid e)∧Z5 κ (seg (Zw κ (Z2 l start m e) a mid) e b)∧Unl κ (seg (Z2 l start m e) a mid)∧Unl κ (seg (Zw κ (Z2 l start m e) a mid) mid b):=by
 obtain ⟨p,hp⟩:∃ z,z=l.take a:=⟨_,rfl⟩
 obtain ⟨a1,ha1⟩:∃ z,z=seg l a start:=⟨_,rfl⟩
 obtain ⟨a2,ha2⟩:∃ z,z=seg l start m:=⟨_,rfl⟩
 obtain ⟨b1,hb1⟩:∃ z,z=seg l m e:=⟨_,rfl⟩
 obtain ⟨b2,hb2⟩:∃ z,z=seg l e b:=⟨_,rfl⟩
 obtain ⟨s,hs⟩:∃ z,z=l.drop b:=⟨_,rfl⟩
 have lp:p.length=a:=by rw [hp,Yk];omega
 have la1:a1.length=start - a:=by rw [ha1,Zam ow]
 have la2:a2.length=m - start:=by rw [ha2,Zam ow]
 have lb1:b1.length=e - m:=by rw [hb1,Zam ow]
 have lb2:b2.length=b - e:=by rw [hb2,Zam ow]
 have hxm:seg l a m=a1++a2:=by rw [ha1,ha2];exact Zcl h1 h2
 have hym:seg l m b=b1++b2:=by rw [hb1,hb2];exact Zcl h3 h4
 have hall:seg l a b=(a1++a2)++(b1++b2):=by rw [← hxm,← hym];exact Zcl ow ow
 have hl:l=p++(a1++(a2++(b1++(b2++s)))):=by
  have h9:=ZdH (l:=l) (a:=a) (b:=b) ow
  rw [hall,← hp,← hs] at h9
  rw [← h9];simp only [Yp]
 rw [hxm] at hx
 rw [hym] at hy
 rw [hall] at hu
 rw [← ha1,← hb2] at hc1
 rw [← hb1,← ha2] at hc2
 have hrot:Z2 l start m e=p++(a1++(b1++(a2++(b2++s)))):=by
  have h9:=Zcj (p:=p++a1) (x:=a2) (y:=b1) (s:=b2++s) (a:=start) (m:=m) (b:=e) (by rw [Yc];omega) (by rw [Yc];omega) (by rw [Yc];omega)
  rw [hl]
  simpa only [Yp] using h9
 have hso:Zw κ (Z2 l start m e) a mid=p++(Zak κ (a1++b1)++(a2++(b2++s))):=by
  have h9:=Zex (κ:=κ) (p:=p) (m:=a1++b1) (s:=a2++(b2++s)) (a:=a) (b:=mid) lp.symm (by rw [Yc];omega)
  rw [hrot]
  simpa only [Yp] using h9
 have lz:(Zak κ (a1++b1)).length=mid - a:=by rw [ZcR,Yc];omega
 have hx':=Yac.1 hx
 have hy':=Yac.1 hy
 have hp2:((a1++b1)++(a2++b2)).Perm ((a1++a2)++(b1++b2)):=by
  rw [Yp,Yp]
  refine Ybt a1 ?_
  rw [← Yp,← Yp]
  exact Ya8 b2 Ybs
 have hu':=Yac.1 (hu.perm hp2.symm)
 refine ⟨?_,?_,?_,?_,?_,?_,?_⟩
 ·have h9:=Zex (κ:=κ) (p:=p++Zak κ (a1++b1)) (m:=a2++b2) (s:=s) (a:=mid) (b:=b) (by rw [Yc,lz];omega) (by rw [Yc,Yc,lz];omega)
  have h8:=Zex (κ:=κ) (p:=p) (m:=(a1++a2)++(b1++b2)) (s:=s) (a:=a) (b:=b) lp.symm (by simp only [Yc];omega)
  rw [hso]
  simp only [Yp] at h9 h8 ⊢
  have h7:=Zoe hx hy hc1 hc2 hu
  simp only [Yp] at h7
  rw [h9,hl,h8,← h7]
  simp only [Yp]
 ·rw [hrot,ZbM (m:=a1) lp.symm ow];exact hx'.1
 ·have h9:=ZbM (p:=p++a1) (m:=b1) (s:=a2++(b2++s)) (a:=start) (b:=mid) (by rw [Yc];omega) (by rw [Yc];omega)
  rw [hrot]
  rw [Yp] at h9
  rw [h9];exact hy'.1
 ·have h9:=ZbM (p:=p++Zak κ (a1++b1)) (m:=a2) (s:=b2++s) (a:=mid) (b:=e) (by rw [Yc,lz];omega) (by rw [Yc,lz];omega)
  rw [hso]
  rw [Yp] at h9
  rw [h9];exact hx'.2.1
 ·have h9:=ZbM (p:=p++(Zak κ (a1++b1)++a2)) (m:=b2) (s:=s) (a:=e) (b:=b) (by simp only [Yc,lz];omega) (by simp only [Yc,lz];omega)
  rw [hso]
  simp only [Yp] at h9
  rw [h9];exact hy'.2.1
 ·have h9:=ZbM (p:=p) (m:=a1++b1) (s:=a2++(b2++s)) (a:=a) (b:=mid) lp.symm (by rw [Yc];omega)
  rw [hrot]
  rw [Yp] at h9
  rw [h9];exact hu'.1
 ·have h9:=ZbM (p:=p++Zak κ (a1++b1)) (m:=a2++b2) (s:=s) (a:=mid) (b:=b) (by rw [Yc,lz];omega) (by rw [Yc,Yc,lz];omega)
  rw [hso]
  simp only [Yp] at h9
  rw [h9];exact hu'.2.1
theorem Zhu {a b:List α} (h:a.Perm b) (hu:Unl κ b):Zak κ a=Zak κ b:=Zde ((ZaE a).trans h) (Za6 (hu.perm h.symm))
theorem Zmn {y:List α} {x:α} {k:Nat} (hy:Z5 κ y) (h1:∀ z ∈ y.take k,κ z<κ x) (h2:∀ z ∈ y.drop k,κ x<κ z):y.take k++x :: y.drop k=Zak κ (x :: y):=by
 refine Zde ?_ ?_
 ·have h:=List.perm_middle (a:=x) (l₁:=y.take k) (l₂:=y.drop k)
  rwa [YX] at h
 ·have hy':Z5 κ (y.take k++y.drop k):=by rw [YX];exact hy
  have hp:=Yac.1 hy'
  refine Yac.2 ⟨hp.1,Yx.2 ⟨h2,hp.2.1⟩,fun z hz w hw=>?_⟩
  rcases Yo.1 hw with rfl | hw
  ·exact h1 z hz
  ·exact hp.2.2 z hz w hw
theorem ZmQ {y:List α} {x:α} {k:Nat} (hy:Z5 κ y) (h1:∀ z ∈ y.take k,κ z<κ x) (h2:∀ z ∈ y.drop k,κ x<κ z):y.take k++x :: y.drop k=Zak κ (y ++ [x]):=by
 rw [Zmn hy h1 h2]
 have hp:(x :: y).Perm (y ++ [x]):=(List.perm_append_singleton x y).symm
 have hu:Unl κ (x :: y):=by
  refine Yx.2 ⟨fun z hz=>?_,hy.unl⟩
  rw [← YX k y] at hz
  rcases YB.1 hz with hz | hz
  ·have:=h1 z hz;omega
  ·have:=h2 z hz;omega
 exact Zhu hp (hu.perm hp)
theorem sortSeg_one (l:List α) {a:Nat} (h:a<l.length):Zw κ l a (a+1)=l:=by
 have hs:seg l a (a+1) = [l[a]]:=by
  unfold seg
  rw [YaW h,List.drop_append_of_le_length (by rw [Yk];omega),Ybp (by rw [Yk];omega)];rfl
 have h1:=ZdH (l:=l) (a:=a) (b:=a+1) ow
 have h2:Zak κ [l[a]] = [l[a]]:=(Zde (Ybo _) (YaF _ _)).symm
 unfold Zw
 rw [hs,h2]
 rw [hs] at h1
 exact h1
theorem Zko {l:List α} {a i k:Nat} (hai:a≤i) (hil:i<l.length) (hu:Unl κ (seg l a (i+1))) (h1:∀ z ∈ (Zak κ (seg l a i)).take k,κ z<κ l[i]) (h2:∀ z ∈ (Zak κ (seg l a i)).drop k,κ l[i] < κ z) :
  l.take a++((Zak κ (seg l a i)).take k++l[i] :: ((Zak κ (seg l a i)).drop k++l.drop (i+1)))=Zw κ l a (i+1):=by
 have hs:seg l a (i+1)=seg l a i ++ [l[i]]:=by
  unfold seg
  rw [YaW hil,List.drop_append_of_le_length (by rw [Yk];omega)]
 rw [hs] at hu
 have hu':=Yac.1 hu
 have hz:=Za6 (κ:=κ) hu'.1
 have e:=ZmQ hz h1 h2
 have e2:Zak κ (Zak κ (seg l a i) ++ [l[i]])=Zak κ (seg l a i ++ [l[i]]):=Zhu (Ya8 _ (ZaE _)) hu
 unfold Zw
 rw [hs,← e2,← e]
 simp only [Yp,Y0]
theorem Zeo {l:List α} {a b:Nat} (h:a≤b) (hb:b≤l.length):seg (Zw κ l a b) a b=Zak κ (seg l a b):=by
 unfold Zw
 exact ZbM (by rw [Yk];omega) (by rw [Yk,ZcR,Zam hb];omega)
theorem Zc5 {l:List α} {a b c d:Nat} (hb:b≤l.length) (hab:a≤b) (h:d≤a):seg (Zw κ l a b) c d=seg l c d:=by
 unfold Zw seg
 rw [List.take_append_of_le_length (by rw [Yk];omega),Ya1,Y7 h]
theorem ZcJ {l:List α} {a b c d:Nat} (hb:b≤l.length) (hab:a≤b) (h:b≤c):seg (Zw κ l a b) c d=seg l c d:=by
 have e:(Zw κ l a b).drop c=l.drop c:=by
  unfold Zw
  rw [← Yp]
  have hlen:(l.take a++Zak κ (seg l a b)).length=b:=by rw [Yc,Yk,ZcR,Zam hb];omega
  rw [List.drop_append,Ybp ow,Yal,hlen,YbH]
  congr 1;omega
 unfold seg
 rw [List.drop_take,List.drop_take,e]
def Zju (κ:α→Int) (l:List α) (bs c:Nat):Prop:=∀ t,c≤t*bs→t*bs<l.length→Z5 κ (seg l (t*bs) (min (t*bs+bs) l.length))
def ZkP (κ:α→Int) (l:List α) (bs c:Nat):Prop:=∀ t,t*bs+bs≤c→Z5 κ (seg l (t*bs) (t*bs+bs))
theorem Zos {l:List α} {bs:Nat} (h:Zju κ l bs 0) (hb:l.length≤bs):Z5 κ l:=by
 by_cases h0:l.length=0
 ·rw [YU h0];exact List.Pairwise.nil
 ·have h1:=h 0 ow ow
  rw [Nat.zero_mul,Yah,Ybn hb] at h1
  unfold seg at h1
  rwa [YE,List.drop_zero] at h1
theorem ZcI [Inhabited α] {l:List α} {a b:Nat} (hb:b≤l.length) {x:α} : x ∈ seg l a b ↔ ∃ i,a≤i∧i<b∧Nn l i=x:=by
 unfold seg
 rw [List.mem_iff_getElem]
 constructor
 ·rintro ⟨i,hi,e⟩
  rw [YK,Yk] at hi
  refine ⟨a+i,by omega,by omega,?_⟩
  rw [Zy ow,← e,List.getElem_drop,Ybh]
 ·rintro ⟨i,h1,h2,e⟩
  refine ⟨i - a,by rw [YK,Yk];omega,?_⟩
  rw [List.getElem_drop,Ybh,← e,Zy ow]
  congr 1;omega
theorem Zen [Inhabited α] {l:List α} {a b:Nat} (hb:b≤l.length):Z5 κ (seg l a b) ↔ ∀ i j,a≤i→i<j→j<b→κ (Nn l i)<κ (Nn l j):=by
 unfold Z5
 rw [Y2]
 have hlen:(seg l a b).length=b - a:=Zam hb
 have hget:∀ i (h:i<(seg l a b).length),(seg l a b)[i] = Nn l (a+i):=fun i h=>by
  rw [hlen] at h
  rw [Zy (show a+i<l.length by omega)]
  simp only [seg,List.getElem_drop,Ybh]
 constructor
 ·intro h i j h1 h2 h3
  have h9:=h (i - a) (j - a) ow ow ow
  rw [hget,hget,show a+(i - a)=i by omega,show a+(j - a)=j by omega] at h9
  exact h9
 ·intro h i j hi hj hij
  rw [hget,hget]
  exact h _ _ ow ow ow
theorem ZlL [Inhabited α] {l:List α} {a m b mid start s0 r0:Nat} (hb:b≤l.length) (ham:a<m) (hmb:m<b) (hma:a≤mid) (hmm:mid≤b) (hm2:2*mid≤a+b) (hx:Z5 κ (seg l a m)) (hy:Z5 κ (seg l m b))
  (hs0:(mid<m∧s0+b=mid+m∧r0=mid)∨(m≤mid∧s0=a∧r0=m)) (h1:s0≤start) (h2:start≤r0) (h3:start=s0∨κ (Nn l (start - 1))<κ (Nn l (mid+m - start))) (h4:start=r0∨κ (Nn l (mid+m - 1 - start))<κ (Nn l start)) (has:a≤s0) :
  (start≤m∧m≤mid+m - start∧mid+m - start≤b)∧(∀ x ∈ seg l a start,∀ y ∈ seg l (mid+m - start) b,κ x<κ y)∧(∀ x ∈ seg l m (mid+m - start),∀ y ∈ seg l start m,κ x<κ y):=by
 have hx':=(Zen (κ:=κ) ow).1 hx
 have hy':=(Zen (κ:=κ) hb).1 hy
 refine ⟨by omega,fun x hx9 y hy9=>?_,fun x hx9 y hy9=>?_⟩
 ·obtain ⟨i,i1,i2,rfl⟩:=(ZcI ow).1 hx9
  obtain ⟨j,j1,j2,rfl⟩:=(ZcI hb).1 hy9
  rcases h3 with h3 | h3
  ·omega
  ·have k1:κ (Nn l i)≤κ (Nn l (start - 1)):=by
    rcases Yag i (start - 1) with h | h
    ·exact Ybr (hx' i (start - 1) i1 h ow)
    ·rw [show i=start - 1 by omega];exact Yar _
   have k2:κ (Nn l (mid+m - start))≤κ (Nn l j):=by
    rcases Yag (mid+m - start) j with h | h
    ·exact Ybr (hy' _ j ow h j2)
    ·rw [show j=mid+m - start by omega];exact Yar _
   omega
 ·obtain ⟨i,i1,i2,rfl⟩:=(ZcI ow).1 hx9
  obtain ⟨j,j1,j2,rfl⟩:=(ZcI ow).1 hy9
  rcases h4 with h4 | h4
  ·omega
  ·have k1:κ (Nn l i)≤κ (Nn l (mid+m - 1 - start)):=by
    rcases Yag i (mid+m - 1 - start) with h | h
    ·exact Ybr (hy' i _ i1 h ow)
    ·rw [show i=mid+m - 1 - start by omega];exact Yar _
   have k2:κ (Nn l start)≤κ (Nn l j):=by
    rcases Yag start j with h | h
    ·exact Ybr (hx' start j ow h j2)
    ·rw [show j=start by omega];exact Yar _
   omega
def Zd9 (l:List α) (a b n:Nat):List α:=l.take a++(seg l b (b+n)++(seg l (a+n) b++(seg l a (a+n)++l.drop (b+n))))
theorem ZiQ {p x w y s:List α} {a b n:Nat} (ha:a=p.length) (hn:n=x.length) (hb:b=p.length+x.length+w.length) (hy:y.length=n):Zd9 (p++(x++(w++(y++s)))) a b n=p++(y++(w++(x++s))):=by
 have h1:seg (p++(x++(w++(y++s)))) b (b+n)=y:=by
  rw [← Yp p x,← Yp (p++x) w]
  exact ZbM (by simp only [Yc];omega) (by simp only [Yc];omega)
 have h2:seg (p++(x++(w++(y++s)))) (a+n) b=w:=by
  rw [← Yp p x]
  exact ZbM (by simp only [Yc];omega) (by simp only [Yc];omega)
 have h3:seg (p++(x++(w++(y++s)))) a (a+n)=x:=ZbM ha ow
 have h4:(p++(x++(w++(y++s)))).drop (b+n)=s:=by
  rw [← Yp p x,← Yp (p++x) w,← Yp (p++x++w) y]
  exact Zgo (by simp only [Yc];omega)
 unfold Zd9
 rw [Zga ha,h1,h2,h3,h4]
theorem Zs0 {p x1 x2 y s:List α} (h:x1.length=y.length):Z2 (Zd9 (p++(x1++(x2++(y++s)))) p.length (p.length+x1.length+x2.length) y.length) (p.length+y.length) (p.length+x1.length+x2.length) (p.length+x1.length+x2.length+y.length)=Z2 (p++(x1++(x2++(y++s)))) p.length (p.length+x1.length+x2.length) (p.length+x1.length+x2.length+y.length):=by
 rw [ZiQ rfl h.symm rfl rfl]
 have e1:=Zcj (p:=p++y) (x:=x2) (y:=x1) (s:=s) (a:=p.length+y.length) (m:=p.length+x1.length+x2.length) (b:=p.length+x1.length+x2.length+y.length) (by rw [Yc]) (by rw [Yc];omega) (by rw [Yc];omega)
 have e2:=Zcj (p:=p) (x:=x1++x2) (y:=y) (s:=s) (a:=p.length) (m:=p.length+x1.length+x2.length) (b:=p.length+x1.length+x2.length+y.length) rfl (by rw [Yc];omega) (by rw [Yc];omega)
 simp only [Yp] at e1 e2
 rw [e1,e2]
theorem Ztk {p x y1 y2 s:List α} (h:x.length=y2.length):Z2 (Zd9 (p++(x++(y1++(y2++s)))) p.length (p.length+x.length+y1.length) x.length) p.length (p.length+x.length) (p.length+x.length+y1.length)=Z2 (p++(x++(y1++(y2++s)))) p.length (p.length+x.length) (p.length+x.length+y1.length+y2.length):=by
 rw [ZiQ rfl rfl rfl h.symm]
 have e1:=Zcj (p:=p) (x:=y2) (y:=y1) (s:=x++s) (a:=p.length) (m:=p.length+x.length) (b:=p.length+x.length+y1.length) rfl ow ow
 have e2:=Zcj (p:=p) (x:=x) (y:=y1++y2) (s:=s) (a:=p.length) (m:=p.length+x.length) (b:=p.length+x.length+y1.length+y2.length) rfl rfl (by rw [Yc];omega)
 simp only [Yp] at e1 e2
 rw [e1,e2]
theorem ZtB {p x y s:List α} (h:x.length=y.length):Zd9 (p++(x++(y++s))) p.length (p.length+x.length) x.length=Z2 (p++(x++(y++s))) p.length (p.length+x.length) (p.length+x.length+y.length):=by
 have e1:=ZiQ (p:=p) (x:=x) (w:=[]) (y:=y) (s:=s) (a:=p.length) (b:=p.length+x.length) (n:=x.length) rfl rfl (by simp) h.symm
 rw [Zcj rfl rfl rfl]
 simpa using e1
theorem ZfI {l:List α} (h:Unl κ l) (a b:Nat):Unl κ (seg l a b):=h.sublist ((List.drop_sublist _ _).trans (List.take_sublist _ _))
theorem Zk6 {t u bs:Nat} (h:t*bs+bs≤u*bs+bs) (hb:0<bs):t≤u:=by
 apply Yae
 intro hn
 have h1:u+1≤t:=by omega
 have h2:=Yad bs h1
 rw [YaN] at h2
 omega
theorem ZpC {t u bs:Nat} (h:u*bs<t*bs+bs):u≤t:=by
 apply Yae
 intro hn
 have h2:=Yad bs (show t+1≤u by omega)
 rw [YaN] at h2
 omega
theorem Zfr {l:List α} {bs t:Nat} (hb:0<bs) (h:ZkP κ l bs (t*bs)) (hn:t*bs+bs≤l.length) (hu:Unl κ l):ZkP κ (Zw κ l (t*bs) (t*bs+bs)) bs (t*bs+bs):=fun u hub=>by
 have hut:=Zk6 hub hb
 rcases Yy hut with h1 | h1
 ·have h2:=Yad bs (show u+1≤t from h1)
  rw [YaN] at h2
  rw [Zc5 hn ow h2]
  exact h u h2
 ·subst h1
  rw [Zeo ow hn]
  exact Za6 (ZfI hu _ _)
theorem Zgm {l:List α} {bs t:Nat} (hb:0<bs) (h:ZkP κ l bs (t*bs)) (ht:t*bs≤l.length) (hn:l.length<t*bs+bs) (hu:Unl κ l):Zju κ (Zw κ l (t*bs) l.length) bs 0:=fun u _ hul=>by
 have hlen:=Z9 (κ:=κ) (l:=l) ht
 rw [hlen] at hul ⊢
 have hut:u≤t:=ZpC (bs:=bs) ow
 rcases Yy hut with h1 | h1
 ·have h2:=Yad bs (show u+1≤t from h1)
  rw [YaN] at h2
  rw [Y7 ow,Zc5 (YA _) ht h2]
  exact h u h2
 ·subst h1
  rw [Ybn ow,Zeo ht (YA _)]
  exact Za6 (ZfI hu _ _)
theorem Zh7 {l:List α} {bs a b:Nat} (hab:a≤b) (hb:b≤l.length) (h:Zju κ l bs a):Zju κ (Zw κ l a b) bs b:=fun u h1 h2=>by
 have hlen:=Z9 (κ:=κ) (l:=l) hab
 rw [hlen] at h2 ⊢
 rw [ZcJ hb hab h1]
 exact h u ow h2
theorem Zml {l:List α} {bs t:Nat} (hb:0<bs) (h:ZkP κ l (2*bs) (t*(2*bs))) (hr:Zju κ l bs (t*(2*bs))) (hn:l.length≤t*(2*bs)+bs):Zju κ l (2*bs) 0:=fun u _ hul=>by
 have hut:u≤t:=ZpC (bs:=2*bs) ow
 rcases Yy hut with h1 | h1
 ·have h2:=Yad (2*bs) (show u+1≤t from h1)
  rw [YaN] at h2
  by_cases h3:u*(2*bs)+2*bs≤l.length
  ·rw [Y7 h3];exact h u h2
  ·have h4:=h u h2
   rw [Ybn ow]
   have e:seg l (u*(2*bs)) (u*(2*bs)+2*bs)=seg l (u*(2*bs)) l.length:=by
    unfold seg
    rw [YS ow,YE]
   rwa [e] at h4
 ·subst h1
  have h4:=hr (2*u) (by rw [Nat.mul_assoc,Ybv];exact YA _) (by rw [show 2*u*bs=u*(2*bs) by rw [Nat.mul_assoc,Ybv]];exact hul)
  rw [show 2*u*bs=u*(2*bs) by rw [Nat.mul_assoc,Ybv],Ybn hn] at h4
  rw [Ybn ow]
  exact h4
end
section
variable {α:Type} {κ:α→Int}
theorem ZeH {l:List α} {a b n:Nat} (h:a+n≤b):(seg l a b).take n=seg l a (a+n):=by
 unfold seg
 rw [List.take_drop,Ya1,Y7 h]
theorem ZeK {l:List α} {a b n:Nat} : (seg l a b).drop n=seg l (a+n) b:=by
 unfold seg
 rw [YbH]
theorem ZfN {l:List α} {a:Nat} : seg l a a = []:=by
 unfold seg
 exact Ybp (by rw [Yk];omega)
theorem Zcg {l:List α} {a b n:Nat} (h1:a+n≤b) (h2:b+n≤l.length):(Zd9 l a b n).length=l.length:=by
 unfold Zd9
 rw [Yc,Yc,Yc,Yc,Zam ow,Zam ow,Zam ow,Yk,YK];omega
theorem cut4 {l:List α} {a b c d:Nat} (h1:a≤b) (h2:b≤c) (h3:c≤d):l=l.take a++(seg l a b++(seg l b c++(seg l c d++l.drop d))):=by
 have e:=ZdH (l:=l) (a:=a) (b:=d) ow
 rw [Zcl (l:=l) (a:=a) (m:=b) (b:=d) h1 ow,Zcl (l:=l) (a:=b) (m:=c) (b:=d) h2 h3] at e
 simpa only [Yp] using e.symm
theorem Zon {l:List α} {s m e j:Nat} (h1:s+j≤m) (h2:e=m+j) (h3:e≤l.length):Z2 (Zd9 l s m j) (s+j) m e=Z2 l s m e:=by
 have hc:=cut4 (l:=l) (a:=s) (b:=s+j) (c:=m) (d:=e) ow h1 ow
 have e0:(l.take s).length=s:=by rw [Yk];omega
 have e1:(seg l s (s+j)).length=j:=by rw [Zam ow];omega
 have e2:(seg l (s+j) m).length=m - (s+j):=Zam ow
 have e3:(seg l m e).length=j:=by rw [Zam h3];omega
 have h:=Zs0 (p:=l.take s) (x1:=seg l s (s+j)) (x2:=seg l (s+j) m) (y:=seg l m e) (s:=l.drop e) (by rw [e1,e3])
 rw [← hc,e0,e1,e2,e3,show s+j+(m - (s+j))=m by omega,show m+j=e by omega] at h
 exact h
theorem Zow {l:List α} {s m e i:Nat} (h0:m=s+i) (h1:m+i≤e) (h3:e≤l.length):Z2 (Zd9 l s (e - i) i) s m (e - i)=Z2 l s m e:=by
 have hc:=cut4 (l:=l) (a:=s) (b:=m) (c:=e - i) (d:=e) ow ow ow
 have e0:(l.take s).length=s:=by rw [Yk];omega
 have e1:(seg l s m).length=i:=by rw [Zam ow];omega
 have e2:(seg l m (e - i)).length=e - i - m:=Zam ow
 have e3:(seg l (e - i) e).length=i:=by rw [Zam h3];omega
 have h:=Ztk (p:=l.take s) (x:=seg l s m) (y1:=seg l m (e - i)) (y2:=seg l (e - i) e) (s:=l.drop e) (by rw [e1,e3])
 rw [← hc,e0,e1,e2,e3,show s+i+(e - i - m)=e - i by omega,show s+i=m by omega,show e - i+i=e by omega] at h
 exact h
theorem ZpB {l:List α} {s m e i:Nat} (h0:m=s+i) (h1:e=m+i) (h3:e≤l.length):Zd9 l s m i=Z2 l s m e:=by
 have hc:l=l.take s++(seg l s m++(seg l m e++l.drop e)):=by
  have:=cut4 (l:=l) (a:=s) (b:=m) (c:=m) (d:=e) ow ow ow
  rwa [ZfN,Yal] at this
 have e0:(l.take s).length=s:=by rw [Yk];omega
 have e1:(seg l s m).length=i:=by rw [Zam ow];omega
 have e3:(seg l m e).length=i:=by rw [Zam h3];omega
 have h:=ZtB (p:=l.take s) (x:=seg l s m) (y:=seg l m e) (s:=l.drop e) (by rw [e1,e3])
 rw [← hc,e0,e1,e3,show s+i=m by omega,show m+i=e by omega] at h
 exact h
theorem ZiA {l:List α} {a m b:Nat} (h1:a≤m) (h2:m≤b) (h3:b≤l.length):(Z2 l a m b).length=l.length:=by
 unfold Z2
 rw [Yc,Yc,Yc,Zam h3,Zam ow,Yk,YK];omega
theorem ZmB {l:List α} {a m b:Nat} (h1:a≤m) (h2:m≤b) (h:a=m∨m=b):Z2 l a m b=l:=by
 unfold Z2
 rcases h with h | h
 ·subst h;rw [ZfN,Yal];exact ZdH h2
 ·subst h;rw [ZfN,Yal];exact ZdH h1
theorem Zbr {l:List α} {a b:Nat} (h:a≤b) (hr:Z5 κ (seg l a b)):Zw κ l a b=l:=by
 unfold Zw
 rw [← Zde (Ybo _) hr]
 exact ZdH h
theorem Zav {l:List α} {a b:Nat} (h:a≤b) (hu:Unl κ l):Unl κ (Zw κ l a b):=hu.perm (ZaA h).symm
theorem Zms {l:List α} {a m b:Nat} (h1:a≤m) (h2:m≤b):(Z2 l a m b).Perm l:=by
 unfold Z2
 conv=>rhs;rw [← ZdH (l:=l) (a:=a) (b:=b) ow,Zcl (l:=l) h1 h2]
 refine Ybt _ ?_
 rw [← Yp]
 exact Ya8 _ Ybs
theorem ZmV {l:List α} {bs q t:Nat} (hb:0<bs) (ht:q=t*(2*bs)) (h:Zju κ l bs q) (hn:q+2*bs≤l.length):Z5 κ (seg l q (q+bs))∧Z5 κ (seg l (q+bs) (q+2*bs)):=by
 have e1:2*t*bs=q:=by rw [ht,Nat.mul_assoc,Ybv]
 have e2:(2*t+1)*bs=q+bs:=by rw [YaN,e1]
 have h1:=h (2*t) ow ow
 have h2:=h (2*t+1) ow ow
 rw [e1,Y7 ow] at h1
 rw [e2,Y7 ow,show q+bs+bs=q+2*bs by omega] at h2
 exact ⟨h1,h2⟩
theorem Zkf {l:List α} {bs q t:Nat} (hb:0<bs) (ht:q=t*(2*bs)) (h:Zju κ l bs q) (hn:q+bs<l.length) (hn2:l.length≤q+2*bs):Z5 κ (seg l q (q+bs))∧Z5 κ (seg l (q+bs) l.length):=by
 have e1:2*t*bs=q:=by rw [ht,Nat.mul_assoc,Ybv]
 have e2:(2*t+1)*bs=q+bs:=by rw [YaN,e1]
 have h1:=h (2*t) ow ow
 have h2:=h (2*t+1) ow ow
 rw [e1,Y7 ow] at h1
 rw [e2,Ybn ow] at h2
 exact ⟨h1,h2⟩
end
section
variable {α:Type} [Inhabited α] {κ:α→Int}
theorem ZdF {a b:List α} {k:Nat} : Nn (a++b) k=if k<a.length then Nn a k else Nn b (k - a.length):=by
 unfold Nn
 split
 ·rename_i h;simp [Yam,List.getElem?_append_left h]
 ·rename_i h;simp [Yam,List.getElem?_append_right (Nat.le_of_not_lt h)]
theorem Zmk {x:α} {l:List α} {k:Nat} : Nn (x :: l) k=if k=0 then x else Nn l (k - 1):=by
 unfold Nn
 cases k with
 | zero=>rfl
 | succ k=>rfl
theorem Zmy {l:List α} {n k:Nat} (h:k<n):Nn (l.take n) k=Nn l k:=by
 unfold Nn;simp [Yam,List.getElem?_take,h]
theorem ZmX {l:List α} {n k:Nat} : Nn (l.drop n) k=Nn l (n+k):=by
 unfold Nn;simp [Yam,List.getElem?_drop]
theorem ZjP {l:List α} {a b k:Nat} (h:a+k<b):Nn (seg l a b) k=Nn l (a+k):=by
 unfold seg;rw [ZmX,Zmy h]
theorem Zgq {l:List α} {a b:Nat} (h:a<b) (hb:b≤l.length):seg l a b=Nn l a :: seg l (a+1) b:=by
 unfold seg
 rw [List.drop_eq_getElem_cons (by rw [Yk];omega),Zy ow,Ybh]
theorem ZmW {l:List α} {a b:Nat} (h:a≤b) (hb:b<l.length):seg l a (b+1)=seg l a b ++ [Nn l b]:=by
 rw [Zcl (m:=b) h ow,Zgq (a:=b) ow ow,ZfN]
def swp (l:List α) (i j:Nat):List α:=(l.set i (Nn l j)).set j (Nn l i)
theorem Zlq {l:List α} {i j:Nat} : (swp l i j).length=l.length:=by unfold swp;simp
theorem Zm0 {l:List α} {i k:Nat} {x:α} (h:i<l.length):Nn (l.set i x) k=if k=i then x else Nn l k:=by
 unfold Nn
 simp only [Yam,List.getElem?_set]
 by_cases e:i=k
 ·subst e;simp [h]
 ·simp [e,Ne.symm e]
theorem Zlt {l:List α} {i j k:Nat} (hi:i<l.length) (hj:j<l.length):Nn (swp l i j) k=if k=j then Nn l i else if k=i then Nn l j else Nn l k:=by
 unfold swp
 rw [Zm0 (by simpa using hj),Zm0 hi]
def Zf6 (l:List α) (j i:Nat):List α:=l.take j++Nn l i :: (seg l j i++l.drop (i+1))
theorem Zce {l:List α} {j i:Nat} (hji:j≤i) (hi:i<l.length):(Zf6 l j i).length=l.length:=by
 unfold Zf6
 rw [Yc,Yl,Yc,Zam ow,Yk,YK];omega
theorem Zcc {l:List α} {j i k:Nat} (hji:j≤i) (hi:i<l.length):Nn (Zf6 l j i) k=if k=j then Nn l i else if j<k∧k≤i then Nn l (k - 1) else Nn l k:=by
 unfold Zf6
 have h1:(l.take j).length=j:=by rw [Yk];omega
 have h2:(seg l j i).length=i - j:=Zam ow
 rw [ZdF,Zmk,ZdF,h1,h2]
 by_cases c1:k<j
 ·rw [Yf c1,Yb ow,Yb ow,Zmy c1]
 ·rw [Yb c1]
  by_cases c2:k=j
  ·rw [Yf ow,Yf c2]
  ·rw [Yb ow,Yb c2]
   by_cases c3:k≤i
   ·rw [Yf ow,Yf ow,ZjP ow];congr 1;omega
   ·rw [Yb ow,Yb ow,ZmX];congr 1;omega
theorem ZeT {l:List α} {i:Nat} (hi:i<l.length):Zf6 l i i=l:=
 ZaS (Zce (YA _) hi) fun k _=>by
  rw [Zcc (YA _) hi]
  split
  ·rename_i h;rw [h]
  ·rw [Yb ow]
theorem ZeV {l:List α} {j i:Nat} (h0:0<j) (hji:j≤i) (hi:i<l.length):swp (Zf6 l j i) j (j - 1)=Zf6 l (j - 1) i:=
 ZaS (by rw [Zlq,Zce hji hi,Zce ow hi]) fun k _=>by
  rw [Zlt (by rw [Zce hji hi];omega) (by rw [Zce hji hi];omega),Zcc hji hi,Zcc hji hi,Zcc hji hi,Zcc ow hi]
  by_cases c1:k=j - 1
  ·rw [Yf c1,Yf c1,Yf rfl]
  ·rw [Yb c1,Yb c1]
   by_cases c2:k=j
   ·rw [Yf c2,Yb ow,Yb ow,Yf ow];congr 1;omega
   ·rw [Yb c2,Yb c2]
    by_cases c3:j<k∧k≤i
    ·rw [Yf c3,Yf ow]
    ·rw [Yb c3,Yb ow]
def Zj6 (l:List α) (a k:Nat):List α:=l.take a++(seg l (a+1) (k+1)++Nn l a :: l.drop (k+1))
theorem Zdh {l:List α} {a k:Nat} (hak:a≤k) (hk:k<l.length):(Zj6 l a k).length=l.length:=by
 unfold Zj6
 rw [Yc,Yc,Yl,Zam ow,Yk,YK];omega
theorem ZeY {l:List α} {a k q:Nat} (hak:a≤k) (hk:k<l.length):Nn (Zj6 l a k) q=if q=k then Nn l a else if a≤q∧q<k then Nn l (q+1) else Nn l q:=by
 unfold Zj6
 have h1:(l.take a).length=a:=by rw [Yk];omega
 have h2:(seg l (a+1) (k+1)).length=k - a:=by rw [Zam ow];omega
 rw [ZdF,ZdF,Zmk,h1,h2]
 by_cases c1:q<a
 ·rw [Yf c1,Yb ow,Yb ow,Zmy c1]
 ·rw [Yb c1]
  by_cases c2:q<k
  ·rw [Yf ow,Yb ow,Yf ow,ZjP ow];congr 1;omega
  ·rw [Yb ow]
   by_cases c3:q=k
   ·rw [Yf ow,Yf c3]
   ·rw [Yb ow,Yb c3,Yb ow,ZmX];congr 1;omega
theorem Zkp {l:List α} {a:Nat} (ha:a<l.length):Zj6 l a a=l:=
 ZaS (Zdh (YA _) ha) fun q _=>by
  rw [ZeY (YA _) ha]
  split
  ·rename_i h;rw [h]
  ·rw [Yb ow]
theorem Zjv {l:List α} {a k:Nat} (hak:a≤k) (hk:k+1<l.length):swp (Zj6 l a k) k (k+1)=Zj6 l a (k+1):=
 ZaS (by rw [Zlq,Zdh hak ow,Zdh ow hk]) fun q _=>by
  rw [Zlt (by rw [Zdh hak ow];omega) (by rw [Zdh hak ow];omega),ZeY hak ow,ZeY hak ow,ZeY hak ow,ZeY ow hk]
  by_cases c1:q=k+1
  ·rw [Yf c1,Yf c1,Yf rfl]
  ·rw [Yb c1,Yb c1]
   by_cases c2:q=k
   ·rw [Yf c2,Yb ow,Yb ow,Yf ow,c2]
   ·rw [Yb c2,Yb c2]
    by_cases c3:a≤q∧q<k
    ·rw [Yf c3,Yf ow]
    ·rw [Yb c3,Yb ow]
theorem Ze1 {l:List α} {a b n k:Nat} (h1:a+n≤b) (h2:b+n≤l.length):Nn (Zd9 l a b n) k=if a≤k∧k<a+n then Nn l (b+(k - a)) else if b≤k∧k<b+n then Nn l (a+(k - b)) else Nn l k:=by
 unfold Zd9
 have e1:(l.take a).length=a:=by rw [Yk];omega
 have e2:(seg l b (b+n)).length=n:=by rw [Zam ow];omega
 have e3:(seg l (a+n) b).length=b - (a+n):=Zam ow
 have e4:(seg l a (a+n)).length=n:=by rw [Zam ow];omega
 rw [ZdF,ZdF,ZdF,ZdF,e1,e2,e3,e4]
 by_cases c1:k<a
 ·rw [Yf c1,Yb ow,Yb ow,Zmy c1]
 ·rw [Yb c1]
  by_cases c2:k<a+n
  ·rw [Yf (show k - a<n by omega),Yf (show a≤k∧k<a+n by omega),ZjP ow]
  ·rw [Yb (show ¬ (k - a<n) by omega),Yb (show ¬ (a≤k∧k<a+n) by omega)]
   by_cases c3:k<b
   ·rw [Yf (show k - a - n<b - (a+n) by omega),Yb (show ¬ (b≤k∧k<b+n) by omega),ZjP ow];congr 1;omega
   ·rw [Yb (show ¬ (k - a - n<b - (a+n)) by omega)]
    by_cases c4:k<b+n
    ·rw [Yf (show k - a - n - (b - (a+n))<n by omega),Yf (show b≤k∧k<b+n by omega),ZjP ow];congr 1;omega
    ·rw [Yb (show ¬ (k - a - n - (b - (a+n))<n) by omega),Yb (show ¬ (b≤k∧k<b+n) by omega),ZmX];congr 1;omega
theorem Zkk {l:List α} {a b:Nat} (h1:a≤b) (h2:b≤l.length):Zd9 l a b 0=l:=
 ZaS (Zcg h1 h2) fun k _=>by rw [Ze1 h1 h2,Yb ow,Yb ow]
theorem ZjJ {l:List α} {a b n i:Nat} (hi:i<n) (h1:a+n≤b) (h2:b+n≤l.length):swp (Zd9 l a b i) (a+i) (b+i)=Zd9 l a b (i+1):=by
 have hl:(Zd9 l a b i).length=l.length:=Zcg ow ow
 refine ZaS (by rw [Zlq,hl,Zcg ow ow]) fun k _=>?_
 rw [Zlt ow ow,Ze1 ow ow,Ze1 ow ow,Ze1 ow ow,Ze1 (n:=i+1) ow ow]
 by_cases c1:k=b+i
 ·rw [Yf c1,Yb (show ¬ (a≤a+i∧a+i<a+i) by omega),Yb (show ¬ (b≤a+i∧a+i<b+i) by omega),Yb (show ¬ (a≤k∧k<a+(i+1)) by omega),Yf (show b≤k∧k<b+(i+1) by omega)];congr 1;omega
 ·rw [Yb c1]
  by_cases c2:k=a+i
  ·rw [Yf c2,Yb (show ¬ (a≤b+i∧b+i<a+i) by omega),Yb (show ¬ (b≤b+i∧b+i<b+i) by omega),Yf (show a≤k∧k<a+(i+1) by omega)];congr 1;omega
  ·rw [Yb c2]
   by_cases c3:a≤k∧k<a+i
   ·rw [Yf c3,Yf (show a≤k∧k<a+(i+1) by omega)]
   ·by_cases c4:b≤k∧k<b+i
    ·rw [Yb c3,Yf c4,Yb (show ¬ (a≤k∧k<a+(i+1)) by omega),Yf (show b≤k∧k<b+(i+1) by omega)]
    ·rw [Yb c3,Yb c4,Yb (show ¬ (a≤k∧k<a+(i+1)) by omega),Yb (show ¬ (b≤k∧k<b+(i+1)) by omega)]
theorem ZkJ {l l0:List α} {a i j:Nat} (haj:a≤j) (hji:j≤i) (hil:i<l.length) (hu:Unl κ (seg l a (i+1))) (hl0:l0=Zw κ l a i)
  (h1:j=a∨κ (Nn l0 (j - 1))<κ (Nn l0 i)) (h2:∀ k,j≤k→k<i→κ (Nn l0 i)<κ (Nn l0 k)):Zf6 l0 j i=Zw κ l a (i+1):=by
 have hlen:l0.length=l.length:=by rw [hl0,Z9 ow]
 have hseg:seg l0 a i=Zak κ (seg l a i):=by rw [hl0];exact Zeo ow ow
 have hr:Z5 κ (seg l0 a i):=by
  rw [hseg]
  refine Za6 ?_
  rw [ZmW ow hil] at hu
  exact (Yac.1 hu).1
 have hri:=(Zen (κ:=κ) ow).1 hr
 have hx:Nn l0 i=Nn l i:=by
  have e:=ZcJ (κ:=κ) (l:=l) (a:=a) (b:=i) (c:=i) (d:=i+1) ow ow (YA _)
  rw [← hl0,Zgq (l:=l0) ow ow,Zgq (l:=l) ow ow] at e
  exact (List.cons.inj e).1
 have ht:l0.take a=l.take a:=by
  have e:=Zc5 (κ:=κ) (l:=l) (a:=a) (b:=i) (c:=0) (d:=a) ow ow (YA _)
  rw [← hl0] at e
  simpa [seg] using e
 have hd:l0.drop (i+1)=l.drop (i+1):=by
  have e:=ZcJ (κ:=κ) (l:=l) (a:=a) (b:=i) (c:=i+1) (d:=l.length) ow ow ow
  rw [← hl0] at e
  unfold seg at e
  rwa [YS ow,YE] at e
 have k1:(Zak κ (seg l a i)).take (j - a)=seg l0 a j:=by rw [← hseg,ZeH ow];congr 1;omega
 have k2:(Zak κ (seg l a i)).drop (j - a)=seg l0 j i:=by rw [← hseg,ZeK];congr 1;omega
 have e:=Zko (κ:=κ) (l:=l) (a:=a) (i:=i) (k:=j - a) ow hil hu
  (by
   rw [k1,← Zy hil,← hx]
   intro z hz
   obtain ⟨q,q1,q2,rfl⟩:=(ZcI ow).1 hz
   rcases h1 with h1 | h1
   ·omega
   ·rcases Yag q (j - 1) with h | h
    ·exact Ybb (hri q (j - 1) q1 h ow) h1
    ·rw [show q=j - 1 by omega];exact h1)
  (by
   rw [k2,← Zy hil,← hx]
   intro z hz
   obtain ⟨q,q1,q2,rfl⟩:=(ZcI ow).1 hz
   exact h2 q q1 q2)
 rw [← e,k1,k2,← Zy hil,← hx,← ht,← hd]
 unfold Zf6
 have hj:l0.take j=l0.take a++seg l0 a j:=by
  unfold seg
  have:=YX a (l0.take j)
  rw [Ya1,Y7 haj] at this
  exact this.symm
 rw [hj]
 simp only [Yp]
theorem ZjI {l:List α} {a i b:Nat} (hai:a+1≤i) (hib:i≤b) (hb:b≤l.length) (hy:Z5 κ (seg l (a+1) b)) (h1:∀ k,a+1≤k→k<i→κ (Nn l k)<κ (Nn l a)) (h2:∀ k,i≤k→k<b→κ (Nn l a)<κ (Nn l k)):Zj6 l a (i - 1)=Zw κ l a b:=by
 have e:=Zmn (κ:=κ) (y:=seg l (a+1) b) (x:=Nn l a) (k:=i - (a+1)) hy
  (by
   rw [ZeH ow,show a+1+(i - (a+1))=i by omega]
   intro z hz
   obtain ⟨q,q1,q2,rfl⟩:=(ZcI ow).1 hz
   exact h1 q q1 q2)
  (by
   rw [ZeK,show a+1+(i - (a+1))=i by omega]
   intro z hz
   obtain ⟨q,q1,q2,rfl⟩:=(ZcI hb).1 hz
   exact h2 q q1 q2)
 rw [ZeH ow,ZeK,show a+1+(i - (a+1))=i by omega,← Zgq ow hb] at e
 have hd:l.drop i=seg l i b++l.drop b:=ZlM hib
 unfold Zw Zj6
 rw [← e,show i - 1+1=i by omega,hd]
 simp only [Yp,Y0]
theorem Zic {l:List α} {a i m:Nat} (hai:a≤i) (him:i≤m) (hm:m<l.length) (hy:Z5 κ (seg l a m)) (h1:∀ k,a≤k→k<i→κ (Nn l k)<κ (Nn l m)) (h2:∀ k,i≤k→k<m→κ (Nn l m)<κ (Nn l k)):Zf6 l i m=Zw κ l a (m+1):=by
 have e:=ZmQ (κ:=κ) (y:=seg l a m) (x:=Nn l m) (k:=i - a) hy
  (by
   rw [ZeH ow,show a+(i - a)=i by omega]
   intro z hz
   obtain ⟨q,q1,q2,rfl⟩:=(ZcI ow).1 hz
   exact h1 q q1 q2)
  (by
   rw [ZeK,show a+(i - a)=i by omega]
   intro z hz
   obtain ⟨q,q1,q2,rfl⟩:=(ZcI ow).1 hz
   exact h2 q q1 q2)
 rw [ZeH ow,ZeK,show a+(i - a)=i by omega,← ZmW ow hm] at e
 have ht:l.take i=l.take a++seg l a i:=by
  unfold seg
  have:=YX a (l.take i)
  rw [Ya1,Y7 hai] at this
  exact this.symm
 unfold Zw Zf6
 rw [← e,ht]
 simp only [Yp,Y0]
theorem Zf2 {l:List α} (hu:Unl κ l) {i j:Nat} (hi:i<l.length) (hj:j<l.length) (hij:i≠j) (h:¬ κ (Nn l i)<κ (Nn l j)):κ (Nn l j)<κ (Nn l i):=by
 have hp:=Y2.1 hu
 rw [Zy hi,Zy hj] at *
 rcases Yag i j with h1 | h1
 ·have:=hp i j hi hj h1;omega
 ·have:=hp j i hj hi ow;omega
end
theorem Zte (u v:TxD):((decide (u.id=v.id) && (u.done == v.done)) && decide (u.ops=v.ops))=decide (u=v):=by
 cases u;cases v
 rw [Y6]
 simp [YbL]
theorem Zsa (u v:OrdD):(decide (u.key=v.key) && decide (u.txs=v.txs))=decide (u=v):=by
 cases u;cases v
 rw [Y6]
 simp
theorem ZqW (u v:Zx):(decide (u.txs=v.txs) && decide (u.orders=v.orders))=decide (u=v):=by
 cases u;cases v
 rw [Y6]
 simp
theorem Zqo (u v:TxD):FnP prog 17 [.agg (rTx u),.agg (rTx v)] (.bool (decide (u=v))):=by
 refine FnP.mk func17 Z ntmps17 Z fun B a w F V hfr O=>Ya ?_
 refine Zb O (qx 101 r1 (qx 102 r1 qB)) V [4,3,2] [102,101,0] (fun _=>rfl) (fun _=>rfl) fun τ a w F O=>?_
 try dsimp only [RS.sub,SF.sub,CF.sub,csub,Anc.sub,List.map,zCF] at O
 generalize τ 2=v2,τ 3=v3 at O
 refine Za (Ya (rZ O (qg 0 101 r1 r1 (qa 101 r1 r1 (qg 0 102 r1 r1 (qa 102 r1 r1 (qf (o_eql .t .t) r2 qz (qR rr (qv 1 101 Z r2 r1 (qw 101 Z r2 r1 (qv 1 102 Z r2 r1 (qw 102 Z r2 r1 (qk Z (fun h=>Zox underlying4 (.w h) (.w h)) r3 qz (qf (ZJ .t .t) r2 qz (qR rr (qv 2 101 Z r2 r1 (qw 101 Z r2 r1 (qv 2 102 Z r2 r1 (qw 102 Z r2 r1 (qk Z (fun h=>oP (ZkG u.ops v.ops) func59 (Args.two (.w h) (.w h))) r3 qz (qf (ZJ .t .t) r2 qz (qO rr qZ)))))))))))))))))))) V [4] [0] fun O=>Yh ?_))
 refine ZB hfr O Z Z Z (.bool (Zte u v))
theorem ZhJ (u v:OrdD):FnP prog 55 [.agg (Zv u),.agg (Zv v)] (.bool (decide (u=v))):=by
 refine FnP.mk func55 Z ntmps55 Z fun B a w F V hfr O=>Ya ?_
 refine Zb O (qx 101 r1 (qx 102 r1 qB)) V [4,3,2] [102,101,0] (fun _=>rfl) (fun _=>rfl) fun τ a w F O=>?_
 try dsimp only [RS.sub,SF.sub,CF.sub,csub,Anc.sub,List.map,zCF] at O
 generalize τ 2=v2,τ 3=v3 at O
 refine Za (Ya (rZ O (qg 0 101 r1 r1 (qa 101 r1 r1 (qg 0 102 r1 r1 (qa 102 r1 r1 (qf (o_eql .t .t) r2 qz (qR rr (qv 1 101 Z r2 r1 (qw 101 Z r2 r1 (qv 1 102 Z r2 r1 (qw 102 Z r2 r1 (qk Z (fun h=>oP (Zh4 u.txs v.txs) func18 (Args.two (.w h) (.w h))) r3 qz (qf (ZJ .t .t) r2 qz (qO rr qZ))))))))))))) V [4] [0] fun O=>Yh ?_))
 refine ZB hfr O Z Z Z (.bool (Zsa u v))
theorem PVs.lenAt {α:Type} {R:α→List PV} {l:List α} {v:Value} {w:World} {y:Ys} (h:(PV.sl R l).p v w y):l.length≤9223372036854775807:=by
 obtain ⟨_,cap,_,h1,h2,_⟩:=h
 unfold maxLen at h2
 omega
theorem Sat.lenHist {B:Zb4} {E:En} {a:Act} {w:World} {F:Fp} (h:Sat B E a w F) {i:Nat} {u:Zx} (hl:Go.Gm.look E.s i=some (SF.pv (PV.agg (Zl u)))):u.txs.length≤9223372036854775807∧u.orders.length≤9223372036854775807:=by
 obtain ⟨vs,_,hp⟩:=h.s i _ hl
 match vs,hp with
 | [x,y],hp=>exact ⟨PVs.lenAt hp.1.2,PVs.lenAt hp.2.1.2⟩
theorem Zfw (u v:Zx):FnP prog 13 [.agg (Zl u),.agg (Zl v)] (.bool (decide (u=v))):=by
 refine FnP.mk func13 Z ntmps13 Z fun B a w F V hfr O=>?_
 obtain ⟨hxl,hyl⟩:=Sat.lenHist O (i:=0) rfl
 refine Ya (Zb O (qx 101 r1 (qx 102 r1 qB)) V [4,3,2] [102,101,0] (fun _=>rfl) (fun _=>rfl) fun τ a w F O=>?_)
 try dsimp only [RS.sub,SF.sub,CF.sub,csub,Anc.sub,List.map,zCF] at O
 generalize τ 2=v2,τ 3=v3 at O
 refine Za (Ya (Ya (Zh O (qg 0 101 r1 r1 (qa 101 r1 r1 (qu YbP r1 (qg 0 102 r1 r1 (qa 102 r1 r1 (qu YbP r1 (qf (o_neq .t .t) r2 qz (qR rr (qv 1 101 Z r2 r1 (qw 101 Z r2 r1 (qk Z (fun h=>ZbA YbQ (.w h)) r2 qz (qv 1 102 Z r2 r1 (qw 102 Z r2 r1 (qk Z (fun h=>ZbA YbQ (.w h)) r2 qz (qk Z (fun h=>o_neq (.w h) (.w h)) r3 qz (qf (ZaM .t .t) r2 qz qZ)))))))))))))))) V [22,4,3,2] [102,101,0] Z Z fun a w F O=>?_)))
 skip
 refine Za (Zc O Z (fun hc0=>?_) (fun hc0=>?_))
 ·have hg:false=decide (u=v):=by
    rw [Y8,Yi]
    intro h
    subst h
    simp at hc0
  refine Ya (rZ O qB V [4,3,2] [102,101,0] fun O=>(Yh (Zf ?_)))
  refine ZB hfr O Z Z Z (.bool hg)
 have hTl:u.txs.length=v.txs.length:=by simp at hc0;omega
 have hOl:u.orders.length=v.orders.length:=by simp at hc0;omega
 refine Yd (Za (Ya (Ya (rZ O (qg 0 101 r1 r1 (qa 101 r1 r1 (qu YbP r1 (qJ qZ)))) V [26,25,4,3,2] [102,101,0] fun O=>Ye ?_))))
 obtain ⟨F,O⟩:=O.nM [26,25,3,2] [102,101,0]
 refine Zbw (σ:=Nat) (fun s=>(⟨[(2,.pv (.is v2)),(3,.pv (.is v3)),(25,.pv (.int .i64 u.txs.length)),(26,.pv (.int .i64 s))],[(0,frame B),(101,.pt (.val v2) 30 [.pv (.sl rTx u.txs),.pv (.sl Zv u.orders)]),(102,.pt (.val v3) 30 [.pv (.sl rTx v.txs),.pv (.sl Zv v.orders)])]⟩:En)) (fun s=>s≤u.txs.length ∧ ∀ j,j<s→Nn u.txs j=Nn v.txs j) (fun s=>u.txs.length - s) 0 O ⟨Yt _,fun j hj=>absurd hj (YJ j)⟩ ?_
 clear O;intro i a w F hC O
 try dsimp only at hC
 try dsimp only at O
 obtain ⟨hi,hq⟩:=hC
 refine Ya (rZ O (qL r2) V [27,26,25,3,2] [102,101,0] fun O=>Ya ?_)
 refine Zc O Z (fun hc1=>?_) (fun hc1=>?_)
 ·have hil:i<u.txs.length:=by simp at hc1;omega
  refine Yd (Za (Ya (Ye (Ya (rZ O (qR rr (qO rr qZ)) V [26,25,5,3,2] [102,101,0] fun O=>Ya ?_)))))
  refine Zu O (qg 0 101 r1 r1 (qa 101 r1 r1 (qR rr (qy 3 YbP r2 (qf (oR true 3 .t) r1 qz (qg 0 102 r1 r1 (qa 102 r1 r1 (qR rr (qy 3 YbP r2 (qf (oR true 3 .t) r1 qz (qf (oP (Zqo (Nn u.txs (i:Int).toNat) (Nn v.txs (i:Int).toNat)) func17 (Args.two (.pagg .t) (.pagg .t))) r2 qz (qf (Z1 .t) r1 qz qZ)))))))))))) V [40,26,25,3,2] [102,101,0] Z Z fun a w F O=>?_
  try dsimp only [List.map,xD,xE,xT,xU,ldSF] at O
  refine Za (Zc O Z (fun hc2=>?_) (fun hc2=>?_))
  ·have hg:false=decide (u=v):=by
     rw [Y8,Yi]
     intro h
     subst h
     simp at hc2
   refine Ya (rZ O qB V [26,25,4,3,2] [102,101,0] fun O=>(Yh (Zr (Zf (Zf (Zr (Zf ?_)))))))
   refine ZB hfr O Z Z Z (.bool hg)
  rw [Yg] at hc2
  have hqi:Nn u.txs i=Nn v.txs i:=by simpa using hc2
  refine Yd (Zi (Za (rZ O (qp r1 (qR rr qZ)) V [26,25,3,2] [102,101,0] fun O=>?_)))
  replace O:=O.ent (i:=26) (s':=.pv (.int .i64 ((i+1:Nat):Int))) Z (.int (Ze ow))
  obtain ⟨F,O⟩:=O.nM [26,25,3,2] [102,101,0]
  exact ⟨i+1,F,⟨by omega,fun j hj=>by rcases Yy (YD hj) with h | h;exact hq j h;rw [h];exact hqi⟩,O,by omega⟩
 have hT:u.txs=v.txs:=ZaS hTl fun j hj=>hq j (by simp at hc1;omega)
 clear hq hi
 refine Ym (Zg (Zg (Zo (Za (Ya (Ya (rZ O (qg 1 101 r1 r1 (qa 101 r1 r1 (qu YbQ r1 (qJ qZ)))) V [45,44,3,2] [102,101,0] fun O=>Ye ?_)))))))
 obtain ⟨F,O⟩:=O.nM [45,44,3,2] [102,101,0]
 refine Zbw (σ:=Nat) (fun s=>(⟨[(2,.pv (.is v2)),(3,.pv (.is v3)),(44,.pv (.int .i64 u.orders.length)),(45,.pv (.int .i64 s))],[(0,frame B),(101,.pt (.val v2) 30 [.pv (.sl rTx u.txs),.pv (.sl Zv u.orders)]),(102,.pt (.val v3) 30 [.pv (.sl rTx v.txs),.pv (.sl Zv v.orders)])]⟩:En)) (fun s=>s≤u.orders.length ∧ ∀ j,j<s→Nn u.orders j=Nn v.orders j) (fun s=>u.orders.length - s) 0 O ⟨Yt _,fun j hj=>absurd hj (YJ j)⟩ ?_
 clear O;intro i a w F hC O
 try dsimp only at hC
 try dsimp only at O
 obtain ⟨hi,hq⟩:=hC
 refine Ya (rZ O (qL r2) V [46,45,44,3,2] [102,101,0] fun O=>Ya ?_)
 refine Zc O Z (fun hc3=>?_) (fun hc3=>?_)
 ·have hil:i<u.orders.length:=by simp at hc3;omega
  refine Yd (Za (Ya (Ye (Ya (Zh O (qR rr (qO rr qZ)) V [45,44,6,3,2] [102,101,0] Z Z fun a w F O=>?_)))))
  skip
  refine Za (Ya (Zu O (qg 1 101 r1 r1 (qa 101 r1 r1 (qR rr (qy 2 YbQ r2 (qf (oR true 2 .t) r1 qz (qg 1 102 r1 r1 (qa 102 r1 r1 (qR rr (qy 2 YbQ r2 (qf (oR true 2 .t) r1 qz (qf (oP (ZhJ (Nn u.orders (i:Int).toNat) (Nn v.orders (i:Int).toNat)) func55 (Args.two (.pagg .t) (.pagg .t))) r2 qz (qf (Z1 .t) r1 qz qZ)))))))))))) V [59,45,44,3,2] [102,101,0] Z Z fun a w F O=>?_))
  try dsimp only [List.map,xD,xE,xT,xU,ldSF] at O
  refine Za (Zc O Z (fun hc4=>?_) (fun hc4=>?_))
  ·have hg:false=decide (u=v):=by
     rw [Y8,Yi]
     intro h
     subst h
     simp at hc4
   refine Ya (rZ O qB V [45,44,4,3,2] [102,101,0] fun O=>(Yh (Zr (Zf (Zf (Zr (Zf ?_)))))))
   refine ZB hfr O Z Z Z (.bool hg)
  rw [Yg] at hc4
  have hqi:Nn u.orders i=Nn v.orders i:=by simpa using hc4
  refine Yd (Zi (Za (rZ O (qp r1 (qR rr qZ)) V [45,44,3,2] [102,101,0] fun O=>?_)))
  replace O:=O.ent (i:=45) (s':=.pv (.int .i64 ((i+1:Nat):Int))) Z (.int (Ze ow))
  obtain ⟨F,O⟩:=O.nM [45,44,3,2] [102,101,0]
  exact ⟨i+1,F,⟨by omega,fun j hj=>by rcases Yy (YD hj) with h | h;exact hq j h;rw [h];exact hqi⟩,O,by omega⟩
 have hO:u.orders=v.orders:=ZaS hOl fun j hj=>hq j (by simp at hc3;omega)
 have hg:true=decide (u=v):=by
   rw [← ZqW,hT,hO]
   simp
 refine Ym (Zg (Zg (Zo (Za (Ya (rZ O qB V [4] [0] fun O=>Yh ?_))))))
 refine ZB hfr O Z Z Z (.bool hg)
theorem Zm2 (x:List OpD) (hx:x.length≤1000000):FnP prog 86 [.sl rOp x] (.sl rOp x):=by
 refine FnP.mk func86 Z ntmps86 Z fun B a w F V hfr O=>Ya ?_
 refine rZ O (qC qZ) V [2,0] [0] fun O=>(Ya (Ya ?_))
 refine Zh O (qR rr (qf (Zc8 YbR .t) r1 qz qZ)) V [4,2,0] [0] Z Z fun a w F O=>?_
 obtain ⟨β4,hβ4,O⟩:=O.pickBool 4 rfl
 obtain ⟨F,O⟩:=O.nM [4,2,0] [0]
 refine Za (Zc O Z (fun hc0=>?_) (fun hc0=>?_))
 ·refine Ya (rZ O (qC qZ) V [2,0] [0] fun O=>(Yh (Zf ?_)))
  replace O:=O.ent (i:=2) (s':=.pv (.sl rOp x)) Z (by rw [hβ4 (by simpa using hc0)];exact .nilSl)
  refine ZB hfr O Z Z Z .refl
 refine Yd (Za (Ya (Zb O (qf (ZaP (R:=rOp) (sz:=4) 101 YbR kr) trivial qz (qR rr (qf (o_append (sz:=4) (bs:=32) 101 (.mk' YbR kr kr) (by intro x;rfl) .same (.sl .t) (by simp only [Yq];omega) (by decide)) ⟨rfl,rfl,tv⟩ ⟨rfl,tv⟩ (qO rr qZ)))) V [2] [101,0] (fun _=>rfl) (fun _=>rfl) fun τ a w F O=>?_)))
 try dsimp only [RS.sub,SF.sub,CF.sub,csub,Anc.sub,List.map,Zd,xL,xM,Nat.reduceAdd,xD,xE,xT,xU,xC,xN,zCF] at O
 generalize τ 7=v7 at O
 refine Za (Yh ?_)
 obtain ⟨F,O⟩:=O.give 101 2 Z rfl
 refine ZB hfr O Z Z Z .refl
theorem ZlD (x:List Int) (hx:x.length≤1000000):FnP prog 91 [.sl Zs x] (.sl Zs x):=by
 refine FnP.mk func91 Z ntmps91 Z fun B a w F V hfr O=>Ya ?_
 refine rZ O (qC qZ) V [2,0] [0] fun O=>(Ya (Ya ?_))
 refine Zh O (qR rr (qf (Zc8 YbO .t) r1 qz qZ)) V [4,2,0] [0] Z Z fun a w F O=>?_
 obtain ⟨β4,hβ4,O⟩:=O.pickBool 4 rfl
 obtain ⟨F,O⟩:=O.nM [4,2,0] [0]
 refine Za (Zc O Z (fun hc0=>?_) (fun hc0=>?_))
 ·refine Ya (rZ O (qC qZ) V [2,0] [0] fun O=>(Yh (Zf ?_)))
  replace O:=O.ent (i:=2) (s':=.pv (.sl Zs x)) Z (by rw [hβ4 (by simpa using hc0)];exact .nilSl)
  refine ZB hfr O Z Z Z .refl
 refine Yd (Za (Ya (Zb O (qf (ZaP (R:=Zs) (sz:=1) 101 YbO kr) trivial qz (qR rr (qf (o_append (sz:=1) (bs:=8) 101 (.mk' YbO kr kr) (by intro x;rfl) .same (.sl .t) (by simp only [Yq];omega) (by decide)) ⟨rfl,rfl,tv⟩ ⟨rfl,tv⟩ (qO rr qZ)))) V [2] [101,0] (fun _=>rfl) (fun _=>rfl) fun τ a w F O=>?_)))
 try dsimp only [RS.sub,SF.sub,CF.sub,csub,Anc.sub,List.map,Zd,xL,xM,Nat.reduceAdd,xD,xE,xT,xU,xC,xN,zCF] at O
 generalize τ 7=v7 at O
 refine Za (Yh ?_)
 obtain ⟨F,O⟩:=O.give 101 2 Z rfl
 refine ZB hfr O Z Z Z .refl
theorem ZtV (x:List TxD) (hx:x.length≤1000000) (hx2:∀ t ∈ x,t.ops.length≤1000000):FnP prog 115 [.sl rTx x] (.sl rTx x):=by
 refine FnP.mk func115 Z ntmps115 Z fun B a w F V hfr O=>Ya ?_
 refine rZ O (qC qZ) V [2,0] [0] fun O=>Ya ?_
 refine rZ O (qC qZ) V [3,2,0] [0] fun O=>(Ya (Ya ?_))
 refine rZ O (qR rr (qu YbP r1 (qJ qZ))) V [8,7,6,3,2] [0] fun O=>Ye ?_
 replace O:=O.fresh 50 rfl
 replace O:=O.turn 50 Z (ZaC (T:=36) (sz:=3) (R:=rTx))
 obtain ⟨F,O⟩:=O.nM [8,7,6,3] [50,0]
 refine Zbw (σ:=(Nat×Value)) (fun s=>(⟨[(3,.pv (.is s.2)),(6,.pv (.sl rTx x)),(7,.pv (.int .i64 x.length)),(8,.pv (.int .i64 s.1))],[(0,frame B),(50,RS.ob (.val s.2) (ZO 36 3 rTx (x.take s.1)))]⟩:En)) (fun s=>s.1≤x.length) (fun s=>x.length - s.1) (0,.slice none 0 0) O (Yt _) ?_
 clear O;intro s a w F hC O
 obtain ⟨i,v⟩:=s
 try dsimp only at hC
 try dsimp only at O
 have hi:i≤x.length:=hC
 refine Ya (rZ O (qL r2) V [9,8,7,6,3] [50,0] fun O=>Ya ?_)
 refine Zc O Z (fun hc0=>?_) (fun hc0=>?_)
 ·have hil:i<x.length:=by simp at hc0;omega
  refine Yd (Za (Ya (Ye (Ya (Zb O (qy 3 YbP r2 (qf (oR true 3 .t) r1 qz (qf (oH [.int .i64 0,.bool false,.slice none 0 0] 101) trivial qz (qS 3 101 r2 r1 qZ)))) V [8,7,6,5,3] [101,50,0] (fun _=>rfl) (fun _=>rfl) fun τ a w F O=>?_)))))
  try dsimp only [RS.sub,SF.sub,CF.sub,csub,Anc.sub,List.map,Zd,xL,xM,Nat.reduceAdd,xD,xE,xT,xU,xC,xN,zCF,ldSF] at O
  generalize τ 5=v5 at O
  rw [Yg] at O
  have hcl:=hx2 _ (ZU hil)
  refine Za (Ya (rZ O (qg 2 101 r1 r1 (qa 101 r1 r1 (qf (oP (Zm2 (Nn x i).ops hcl) func86 (Args.one .t)) r1 qz (qg 2 101 r1 r1 (qf (ZeU 101 .adr .t Zas kr kr) r2 r1 qZ))))) V [8,7,6,5,3] [101,50,0] fun O=>?_))
  refine Zb O (qR rr (qe 3 101 r1 r1 (qf (Zn (sz:=3) (zs:=[.int .i64 0,.bool false,.slice none 0 0]) (r:=[(0,.tmp 17)]) (l:=[_,_,_]) YbP kr kr kr kr Z Z (.agg Z .t kr kr .nil) Z) r1 qz (qf (o_append (sz:=3) (bs:=40) 50 (.mk' YbP kr kr) (by intro x;rfl) .is (.arr (l':=[Nn x i]) .t) (by simp only [Yl,Yq,Yk];omega) (by decide)) ⟨rfl,rfl,tv⟩ ⟨rfl,tv⟩ (qO rr qZ))))) V [8,7,6,3] [50,0] (fun _=>rfl) (fun _=>rfl) fun τ a w F O=>?_
  try dsimp only [RS.sub,SF.sub,CF.sub,csub,Anc.sub,List.map,Zd,xL,xM,Nat.reduceAdd,xD,xE,xT,xU,xC,xN,zCF,ldSF] at O
  generalize τ 19=v19 at O
  refine Zi (Za (rZ O (qp r1 (qR rr qZ)) V [8,7,6,3] [50,0] fun O=>?_))
  rw [Zhm hil] at O
  replace O:=O.ent (i:=8) (s':=.pv (.int .i64 ((i+1:Nat):Int))) Z (.int (Ze ow))
  obtain ⟨F,O⟩:=O.nM [8,7,6,3] [50,0]
  exact ⟨(i+1,v19),F,by dsimp only;omega,O,by dsimp only;omega⟩
 have hil:i=x.length:=by simp at hc0;omega
 rw [show x.take i=x by rw [hil,YE]] at O
 refine Ym (Zg (Zg (Zo (Za (Ya (rZ O (qR rr (qO rr qZ)) V [2] [50,0] fun O=>Yh ?_))))))
 obtain ⟨F,O⟩:=O.give 50 2 Z rfl
 refine ZB hfr O Z Z Z .refl
theorem Zro (x:List OrdD) (hx:x.length≤1000000) (hx2:∀ t ∈ x,t.txs.length≤1000000):FnP prog 116 [.sl Zv x] (.sl Zv x):=by
 refine FnP.mk func116 Z ntmps116 Z fun B a w F V hfr O=>Ya ?_
 refine rZ O (qC qZ) V [2,0] [0] fun O=>Ya ?_
 refine rZ O (qC qZ) V [3,2,0] [0] fun O=>(Ya (Ya ?_))
 refine rZ O (qR rr (qu YbQ r1 (qJ qZ))) V [8,7,6,3,2] [0] fun O=>Ye ?_
 replace O:=O.fresh 50 rfl
 replace O:=O.turn 50 Z (ZaC (T:=39) (sz:=2) (R:=Zv))
 obtain ⟨F,O⟩:=O.nM [8,7,6,3] [50,0]
 refine Zbw (σ:=(Nat×Value)) (fun s=>(⟨[(3,.pv (.is s.2)),(6,.pv (.sl Zv x)),(7,.pv (.int .i64 x.length)),(8,.pv (.int .i64 s.1))],[(0,frame B),(50,RS.ob (.val s.2) (ZO 39 2 Zv (x.take s.1)))]⟩:En)) (fun s=>s.1≤x.length) (fun s=>x.length - s.1) (0,.slice none 0 0) O (Yt _) ?_
 clear O;intro s a w F hC O
 obtain ⟨i,v⟩:=s
 try dsimp only at hC
 try dsimp only at O
 have hi:i≤x.length:=hC
 refine Ya (rZ O (qL r2) V [9,8,7,6,3] [50,0] fun O=>Ya ?_)
 refine Zc O Z (fun hc0=>?_) (fun hc0=>?_)
 ·have hil:i<x.length:=by simp at hc0;omega
  refine Yd (Za (Ya (Ye (Ya (Zb O (qy 2 YbQ r2 (qf (oR true 2 .t) r1 qz (qf (oH [.int .i64 0,.slice none 0 0] 101) trivial qz (qS 2 101 r2 r1 qZ)))) V [8,7,6,5,3] [101,50,0] (fun _=>rfl) (fun _=>rfl) fun τ a w F O=>?_)))))
  try dsimp only [RS.sub,SF.sub,CF.sub,csub,Anc.sub,List.map,Zd,xL,xM,Nat.reduceAdd,xD,xE,xT,xU,xC,xN,zCF,ldSF] at O
  generalize τ 5=v5 at O
  rw [Yg] at O
  have hcl:=hx2 _ (ZU hil)
  refine Za (ZaK O (qR rr (qg 0 101 r1 r1 (qa 101 r1 r1 (qg 1 101 r1 r1 (qa 101 r1 r1 (qf (oP (ZlD (Nn x i).txs hcl) func91 (Args.one .t)) r1 qz (qf (oB [(0,.tmp 14),(1,.tmp 17)] [.int .i64 0,.slice none 0 0] [(0,1),(1,1)] (.one Z .t one_int kr (.one Z .t Zas kr .nil))) r2 qz (qf (Zn (sz:=2) (zs:=[.int .i64 0,.slice none 0 0]) (r:=[(0,.tmp 18)]) (l:=[_,_]) YbQ kr kr kr kr Z Z (.agg Z .t kr kr .nil) Z) r1 qz (qf (o_append (sz:=2) (bs:=32) 50 (.mk' YbQ kr kr) (by intro x;rfl) .is (.arr (l':=[Nn x i]) .t) (by simp only [Yl,Yq,Yk];omega) (by decide)) ⟨rfl,rfl,tv⟩ ⟨rfl,tv⟩ (qO rr qZ)))))))))) V [8,7,6,3] [50,0] (fun _=>rfl) (fun _=>rfl) fun τ a w F O=>?_)
  try dsimp only [RS.sub,SF.sub,CF.sub,csub,Anc.sub,List.map,Zd,xL,xM,Nat.reduceAdd,xD,xE,xT,xU,xC,xN,zCF,ldSF] at O
  generalize τ 20=v20 at O
  refine Zi (Za (rZ O (qp r1 (qR rr qZ)) V [8,7,6,3] [50,0] fun O=>?_))
  rw [Zhm hil] at O
  replace O:=O.ent (i:=8) (s':=.pv (.int .i64 ((i+1:Nat):Int))) Z (.int (Ze ow))
  obtain ⟨F,O⟩:=O.nM [8,7,6,3] [50,0]
  exact ⟨(i+1,v20),F,by dsimp only;omega,O,by dsimp only;omega⟩
 have hil:i=x.length:=by simp at hc0;omega
 rw [show x.take i=x by rw [hil,YE]] at O
 refine Ym (Zg (Zg (Zo (Za (Ya (rZ O (qR rr (qO rr qZ)) V [2] [50,0] fun O=>Yh ?_))))))
 obtain ⟨F,O⟩:=O.give 50 2 Z rfl
 refine ZB hfr O Z Z Z .refl
def Zng (l:List TxD):Prop:=l.length≤1000000 ∧ ∀ t ∈ l,t.ops.length≤1000000
def Zia (l:List OrdD):Prop:=l.length≤1000000 ∧ ∀ t ∈ l,t.txs.length≤1000000
structure DOk (d:ZK):Prop where
 was:Zng d.was
 now:Zng d.now
 old:Zia d.old
 new:Zia d.new
def inv (d:ZK):ZK:=⟨d.now,d.was,d.new,d.old⟩
section
variable {α:Type} {κ:α→Int}
def ZL (κ:α→Int) (l:List α) (n:Int):Option α:=l.find? fun x=>decide (κ x=n)
theorem ZiN [Inhabited α] {l:List α} {n:Int} {i:Nat} (hi:i<l.length) (h:κ (Nn l i)=n) (hq:∀ k,k<i→κ (Nn l k)≠n):ZL κ l n=some (Nn l i):=by
 unfold ZL
 rw [List.find?_eq_some_iff_getElem]
 refine ⟨by simpa using h,i,hi,(Zy hi).symm,fun j hj=>?_⟩
 have:=hq j hj
 rw [Zy ow] at this
 simpa using this
theorem ZfM [Inhabited α] {l:List α} {n:Int} (hq:∀ k,k<l.length→κ (Nn l k)≠n):ZL κ l n=none:=by
 unfold ZL
 rw [YaS]
 intro x hx
 obtain ⟨k,hk,e⟩:=YH hx
 have:=hq k hk
 rw [Zy hk,e] at this
 simpa using this
theorem Zfe {l:List α} {n:Int} {x:α} (h:ZL κ l n=some x):x ∈ l∧κ x=n:=⟨Ybd h,by have:=List.find?_some h;simpa using this⟩
theorem Zlf {l:List α} (h:Unl κ l) {x y:α} (hx:x ∈ l) (hy:y ∈ l) (e:κ x=κ y):x=y:=by
 obtain ⟨i,hi,rfl⟩:=YH hx
 obtain ⟨j,hj,rfl⟩:=YH hy
 have hp:=Y2.1 h
 rcases Ybg i j with h1 | h1 | h1
 ·exact absurd e (hp i j hi hj h1)
 ·subst h1;rfl
 ·exact absurd e.symm (hp j i hj hi h1)
theorem Zm1 {l:List α} (h:Unl κ l) {x:α} (hx:x ∈ l):ZL κ l (κ x)=some x:=by
 cases e:ZL κ l (κ x) with
 | none=>
  unfold ZL at e
  rw [YaS] at e
  exact absurd (by simp) (e x hx)
 | some y=>rw [Zlf h (Zfe e).1 hx (Zfe e).2]
theorem ZdW {l:List α} {n:Int} : (ZL κ l n).isSome=true ↔ ∃ x ∈ l,κ x=n:=by
 unfold ZL
 rw [List.find?_isSome]
 simp
theorem ZmJ {l:List α} {n:Int} : (ZL κ l n).isNone=true ↔ ∀ x ∈ l,κ x≠n:=by
 unfold ZL
 rw [Option.isNone_iff_eq_none,YaS]
 simp
theorem Zgl [Inhabited α] {l:List α} (h:∀ i,i+1<l.length→κ (Nn l i)<κ (Nn l (i+1))):Z5 κ l:=by
 have hk:∀ d i,i+d+1<l.length→κ (Nn l i)<κ (Nn l (i+d+1)):=by
  intro d
  induction d with
  | zero=>exact h
  | succ d ih=>intro i hi;exact Ybb (ih i ow) (h (i+d+1) hi)
 refine Y2.2 fun i j hi hj hij=>?_
 have:=hk (j - i - 1) i ow
 rw [show i+(j - i - 1)+1=j by omega,Zy hi,Zy hj] at this
 exact this
theorem ZlI [Inhabited α] {l:List α} (h:Z5 κ l) {i:Nat} (hi:i+1<l.length):κ (Nn l i)<κ (Nn l (i+1)):=by
 rw [Zy ow,Zy hi]
 exact Y2.1 h i (i+1) ow hi ow
def Zev (κ:α→Int) (l was now:List α):List α:=Zak κ ((l.filter fun x=>(ZL κ was (κ x)).isNone)++now)
theorem Zd5 {l was now:List α} {x:α} : x ∈ Zev κ l was now ↔ (x ∈ l ∧ ∀ y ∈ was,κ y≠κ x)∨x ∈ now:=by
 unfold Zev
 rw [(ZaE _).mem_iff,YB,YT,ZmJ]
theorem Zgp {l was now:List α} : (Zev κ l was now).length≤l.length+now.length:=by
 unfold Zev
 rw [ZcR,Yc]
 have:=YR (fun x=>(ZL κ was (κ x)).isNone) l
 omega
variable [DecidableEq α]
def Zag (κ:α→Int) (a b:List α):List α:=a.filter fun x=>decide (ZL κ b (κ x)≠some x)
theorem Zb2 (a b:List α):(Zag κ a b).length≤a.length:=YR _ _
theorem Zds {a b:List α} {x:α} (h:x ∈ Zag κ a b):x ∈ a:=(YT.1 h).1
theorem ZcO {a b:List α} (hb:Unl κ b) {x:α} : x ∈ Zag κ a b ↔ x ∈ a∧x ∉ b:=by
 unfold Zag
 rw [YT]
 refine and_congr_right fun _=>?_
 rw [Yj]
 exact YbF ⟨fun e=>(Zfe e).1,fun e=>Zm1 hb e⟩
def Zbj (κ:α→Int) (l was now:List α):Bool:=decide (Zag κ was l = []) && now.all fun x=>!((ZL κ l (κ x)).isSome && !(ZL κ was (κ x)).isSome)
theorem ZdA {a b:List α} (h:Z5 κ a):Z5 κ (Zag κ a b):=h.sublist List.filter_sublist
theorem ZhE {a b:List α} (ha:Z5 κ a) (hb:Z5 κ b):Zbj κ a (Zag κ a b) (Zag κ b a)=true:=by
 unfold Zbj
 rw [Yv,Yj,Yau]
 refine ⟨List.eq_nil_iff_forall_not_mem.2 fun x hx=>?_,fun x hx=>?_⟩
 ·have h1:=(ZcO ha.unl).1 hx
  exact h1.2 (Zds h1.1)
 ·have h1:=(ZcO ha.unl).1 hx
  cases e:(ZL κ a (κ x)).isSome with
  | false=>rfl
  | true=>
   obtain ⟨y,hy,ey⟩:=ZdW.1 e
   have:(ZL κ (Zag κ a b) (κ x)).isSome=true:=ZdW.2 ⟨y,(ZcO hb.unl).2 ⟨hy,fun h2=>h1.2 (by rw [← Zlf hb.unl h2 h1.1 ey];exact hy)⟩,ey⟩
   rw [this];rfl
theorem Zjp {l was now:List α} (hl:Unl κ l) (hn:Unl κ now) (hf:Zbj κ l was now=true):Unl κ ((l.filter fun x=>(ZL κ was (κ x)).isNone)++now):=by
 unfold Zbj at hf
 rw [Yv,Yj,Yau] at hf
 refine Yac.2 ⟨hl.sublist List.filter_sublist,hn,fun x hx y hy e=>?_⟩
 have h1:=YT.1 hx
 have h2:=hf.2 y hy
 have h3:(ZL κ l (κ y)).isSome=true:=ZdW.2 ⟨x,h1.1,e⟩
 have h4:(ZL κ was (κ y)).isSome=false:=by
  cases e2:(ZL κ was (κ y)).isSome with
  | false=>rfl
  | true=>
   obtain ⟨z,hz,ez⟩:=ZdW.1 e2
   exact absurd (ez.trans e.symm) (ZmJ.1 h1.2 z hz)
 rw [h3,h4] at h2
 cases h2
theorem Zkr {l was now:List α} (hl:Unl κ l) (hn:Unl κ now) (hf:Zbj κ l was now=true):Z5 κ (Zev κ l was now):=Za6 (Zjp hl hn hf)
theorem Zkd {a b:List α} (ha:Z5 κ a) (hb:Z5 κ b):Zev κ a (Zag κ a b) (Zag κ b a)=b:=by
 refine Zfc (Zkr ha.unl (ZdA hb).unl (ZhE ha hb)) hb fun x=>?_
 rw [Zd5,ZcO ha.unl]
 constructor
 ·rintro (⟨h1,h2⟩ | ⟨h1,_⟩)
  ·refine Yae fun h3=>h2 x ((ZcO hb.unl).2 ⟨h1,h3⟩) rfl
  ·exact h1
 ·intro h1
  by_cases h2:x ∈ a
  ·exact .inl ⟨h2,fun y hy e=>by
   have h3:=(ZcO hb.unl).1 hy
   exact h3.2 (by rw [Zlf ha.unl h3.1 h2 e];exact h1)⟩
  ·exact .inr ⟨h1,h2⟩
end
def ZdK (d:ZK):Prop:=Z5 TxD.id d.was∧Z5 TxD.id d.now∧Z5 OrdD.key d.old∧Z5 OrdD.key d.new
instance (d:ZK):Decidable (ZdK d):=by unfold ZdK;exact inferInstance
def noD:ZK:=⟨[],[],[],[]⟩
def noH:Zx:=⟨[],[]⟩
def ofD (h g:Zx):ZK×Int:=if ZG h∧ZG g then (⟨Zag TxD.id h.txs g.txs,Zag TxD.id g.txs h.txs,Zag OrdD.key h.orders g.orders,Zag OrdD.key g.orders h.orders⟩,0) else (noD,5)
def ZgR (h:Zx) (d:ZK):Bool:=Zbj TxD.id h.txs d.was d.now && Zbj OrdD.key h.orders d.old d.new
def Zcy (h:Zx) (d:ZK):Zx:=⟨Zev TxD.id h.txs d.was d.now,Zev OrdD.key h.orders d.old d.new⟩
def ZN (h:Zx) (d:ZK):Zx×Int:=if ¬ (ZG h∧ZdK d) then (noH,5) else if ZgR h d=false then (noH,17) else if ZG (Zcy h d) then (Zcy h d,0) else (noH,8)
theorem ZG.rise {h:Zx} (hr:ZG h):Z5 TxD.id h.txs∧Z5 OrdD.key h.orders:=by
 refine ⟨Zgl fun i hi=>?_,Zgl fun i hi=>?_⟩
 ·have:=(hr.2.1 (i+1) hi).1 ow
  simpa using this
 ·have:=(((Zdb h).2 hr.2.2).2 (i+1) hi).1 ow
  simpa using this
theorem ZiV {h g:Zx} (h1:ZG h) (h2:ZG g):ZN h (ofD h g).1=(g,0):=by
 have r1:=h1.rise
 have r2:=h2.rise
 have hD:ZdK (ofD h g).1:=by unfold ofD;rw [Yf ⟨h1,h2⟩];exact ⟨ZdA r1.1,ZdA r2.1,ZdA r1.2,ZdA r2.2⟩
 have hF:ZgR h (ofD h g).1=true:=by unfold ofD ZgR;rw [Yf ⟨h1,h2⟩];dsimp only;rw [ZhE r1.1 r2.1,ZhE r1.2 r2.2];rfl
 have hT:Zcy h (ofD h g).1=g:=by unfold ofD Zcy;rw [Yf ⟨h1,h2⟩];dsimp only;rw [Zkd r1.1 r2.1,Zkd r1.2 r2.2]
 unfold ZN
 rw [Yb (by simp [h1,hD]),hF,Yb (by simp),hT,Yf h2]
theorem ZqE (x y:List OpD):FnP prog 165 [.sl rOp x,.sl rOp y] (.bool (decide (x=y))):=by
 refine FnP.mk func165 Z ntmps165 Z fun B a w F V hfr O=>?_
 have hxl:=Sat.lenSl O (i:=0) rfl
 refine Ya (rZ O qB V [4,1,0] [0] fun O=>(Ya (Ya ?_)))
 refine rZ O (qR rr (qu YbR r1 (qR rr (qu YbR r1 (qf (o_neq .t .t) r2 qz qZ))))) V [10,4,1,0] [0] fun O=>?_
 refine Zc O Z (fun hc0=>?_) (fun hc0=>?_)
 ·have hg:false=decide (x=y):=by
    rw [Y8,Yi]
    intro h
    subst h
    simp at hc0
  refine Ya (rZ O qB V [4,1,0] [0] fun O=>(Yh (Zf ?_)))
  refine ZB hfr O Z Z Z (.bool hg)
 have hl:x.length=y.length:=by simp at hc0;omega
 refine Yd (Za (Ya (Ya (rZ O (qR rr (qu YbR r1 (qJ qZ))) V [13,12,4,1,0] [0] fun O=>Ye ?_))))
 obtain ⟨F,O⟩:=O.nM [13,12,1,0] [0]
 refine Zbw (σ:=Nat) (fun s=>(⟨[(0,.pv (.sl rOp x)),(1,.pv (.sl rOp y)),(12,.pv (.int .i64 x.length)),(13,.pv (.int .i64 s))],[(0,frame B)]⟩:En)) (fun s=>s≤x.length ∧ ∀ j,j<s→Nn x j=Nn y j) (fun s=>x.length - s) 0 O ⟨Yt _,fun j hj=>absurd hj (YJ j)⟩ ?_
 clear O;intro i a w F hC O
 try dsimp only at hC
 try dsimp only at O
 obtain ⟨hi,hq⟩:=hC
 refine Ya (rZ O (qL r2) V [14,13,12,1,0] [0] fun O=>Ya ?_)
 refine Zc O Z (fun hc1=>?_) (fun hc1=>?_)
 ·have hil:i<x.length:=by simp at hc1;omega
  refine Yd (Za (Ya (Ye (Ya (rZ O (qR rr (qO rr qZ)) V [13,12,5,1,0] [0] fun O=>Ya ?_)))))
  refine Zu O (qR rr (qR rr (qy 4 YbR r2 (qf (oR true 4 .t) r1 qz (qR rr (qR rr (qy 4 YbR r2 (qf (oR true 4 .t) r1 qz (qf (Zp8 (ks:=[false,true,true,true]) kr .t .t (.bool (.int (.int (.int .nil))))) r2 qz qZ))))))))) V [24,13,12,1,0] [0] Z Z fun a w F O=>?_
  try dsimp only [List.map,xD,xE,xT,xU,ldSF] at O
  refine Za (Zc O Z (fun hc2=>?_) (fun hc2=>?_))
  ·have hg:false=decide (x=y):=by
     rw [Y8,Yi]
     intro h
     subst h
     simp at hc2
   refine Ya (rZ O qB V [13,12,4,1,0] [0] fun O=>(Yh (Zr (Zf (Zf (Zr (Zf ?_)))))))
   refine ZB hfr O Z Z Z (.bool hg)
  rw [Yg] at hc2
  have hqi:Nn x i=Nn y i:=ZrI hc2
  refine Yd (Zi (Za (rZ O (qp r1 (qR rr qZ)) V [13,12,1,0] [0] fun O=>?_)))
  replace O:=O.ent (i:=13) (s':=.pv (.int .i64 ((i+1:Nat):Int))) Z (.int (Ze ow))
  obtain ⟨F,O⟩:=O.nM [13,12,1,0] [0]
  exact ⟨i+1,F,⟨by omega,fun j hj=>by rcases Yy (YD hj) with h | h;exact hq j h;rw [h];exact hqi⟩,O,by omega⟩
 have hg:true=decide (x=y):=by
   rw [Y8,Yj]
   exact ZaS hl fun j hj=>hq j (by simp at hc1;omega)
 refine Ym (Zg (Zg (Zo (Za (Ya (rZ O qB V [4] [0] fun O=>Yh ?_))))))
 refine ZB hfr O Z Z Z (.bool hg)
theorem Zn6 (u v:TxD):((decide (u.id=v.id) && (u.done == v.done)) && decide (u.ops=v.ops))=decide (u=v):=by
 cases u;cases v
 rw [Y6]
 simp [YbL]
theorem Zrl (x y:List OpD):FnP prog 101 [.sl rOp x,.sl rOp y] (.bool (decide (x=y))):=by
 refine FnP.mk func101 Z ntmps101 Z fun B a w F V hfr O=>Ya ?_
 refine rZ O qB V [4,1,0] [0] fun O=>Ya ?_
 refine rZ O (qR rr (qR rr (qf (oP (ZqE x y) func165 (Args.two .t .t)) r2 qz (qO rr qZ)))) V [4] [0] fun O=>Yh ?_
 refine ZB hfr O Z Z Z .refl
theorem Zq4 (u v:TxD):FnP prog 42 [.agg (rTx u),.agg (rTx v)] (.bool (decide (u=v))):=by
 refine FnP.mk func42 Z ntmps42 Z fun B a w F V hfr O=>Ya ?_
 refine Zb O (qx 101 r1 (qx 102 r1 qB)) V [4,3,2] [102,101,0] (fun _=>rfl) (fun _=>rfl) fun τ a w F O=>?_
 try dsimp only [RS.sub,SF.sub,CF.sub,csub,Anc.sub,List.map,zCF,rTx,rOp] at O
 generalize τ 2=v2,τ 3=v3 at O
 refine Za (Ya (rZ O (qg 0 101 r1 r1 (qa 101 r1 r1 (qg 0 102 r1 r1 (qa 102 r1 r1 (qf (o_eql .t .t) r2 qz (qR rr (qv 1 101 Z r2 r1 (qw 101 Z r2 r1 (qv 1 102 Z r2 r1 (qw 102 Z r2 r1 (qk Z (fun h=>Zox underlying4 (.w h) (.w h)) r3 qz (qf (ZJ .t .t) r2 qz (qR rr (qv 2 101 Z r2 r1 (qw 101 Z r2 r1 (qv 2 102 Z r2 r1 (qw 102 Z r2 r1 (qk Z (fun h=>oP (Zrl u.ops v.ops) func101 (Args.two (.w h) (.w h))) r3 qz (qf (ZJ .t .t) r2 qz (qO rr qZ)))))))))))))))))))) V [4] [102,101,0] fun O=>Yh ?_))
 refine ZB hfr O Z Z Z (.bool (Zn6 u v))
theorem Zlb (u v:TxD):FnP prog 17 [.agg (rTx u),.agg (rTx v)] (.bool (decide (u=v))):=by
 refine FnP.mk func17 Z ntmps17 Z fun B a w F V hfr O=>Ya ?_
 refine Zb O (qx 101 r1 (qx 102 r1 qB)) V [4,3,2] [102,101,0] (fun _=>rfl) (fun _=>rfl) fun τ a w F O=>?_
 try dsimp only [RS.sub,SF.sub,CF.sub,csub,Anc.sub,List.map,zCF,rTx,rOp] at O
 generalize τ 2=v2,τ 3=v3 at O
 refine Za (Ya (rZ O (qg 0 101 r1 r1 (qa 101 r1 r1 (qg 0 102 r1 r1 (qa 102 r1 r1 (qf (o_eql .t .t) r2 qz (qR rr (qv 1 101 Z r2 r1 (qw 101 Z r2 r1 (qv 1 102 Z r2 r1 (qw 102 Z r2 r1 (qk Z (fun h=>Zox underlying4 (.w h) (.w h)) r3 qz (qf (ZJ .t .t) r2 qz (qR rr (qv 2 101 Z r2 r1 (qw 101 Z r2 r1 (qv 2 102 Z r2 r1 (qw 102 Z r2 r1 (qk Z (fun h=>oP (ZkG u.ops v.ops) func59 (Args.two (.w h) (.w h))) r3 qz (qf (ZJ .t .t) r2 qz (qO rr qZ)))))))))))))))))))) V [4] [102,101,0] fun O=>Yh ?_))
 refine ZB hfr O Z Z Z (.bool (Zn6 u v))
def Zhl:OrdD:=⟨0,[]⟩
theorem ZqV (u v:OrdD):FnP prog 80 [.agg (Zv u),.agg (Zv v)] (.bool (decide (u=v))):=by
 refine FnP.mk func80 Z ntmps80 Z fun B a w F V hfr O=>Ya ?_
 refine Zb O (qx 101 r1 (qx 102 r1 qB)) V [4,3,2] [102,101,0] (fun _=>rfl) (fun _=>rfl) fun τ a w F O=>?_
 try dsimp only [RS.sub,SF.sub,CF.sub,csub,Anc.sub,List.map,zCF,Zl,rTx,Zv,ZY,Zs,rOp] at O
 generalize τ 2=v2,τ 3=v3 at O
 refine Za (Ya (rZ O (qg 0 101 r1 r1 (qa 101 r1 r1 (qg 0 102 r1 r1 (qa 102 r1 r1 (qf (o_eql .t .t) r2 qz (qR rr (qv 1 101 Z r2 r1 (qw 101 Z r2 r1 (qv 1 102 Z r2 r1 (qw 102 Z r2 r1 (qk Z (fun h=>oP (ZrX u.txs v.txs) func143 (Args.two (.w h) (.w h))) r3 qz (qf (ZJ .t .t) r2 qz (qO rr qZ))))))))))))) V [4] [102,101,0] fun O=>Yh ?_))
 refine ZB hfr O Z Z Z (.bool Zsr)
theorem Zi5 (x:TxD):FnP prog 77 [.agg (rTx x)] (.int .i64 x.id):=by
 refine FnP.mk func77 Z ntmps77 Z fun B a w F V hfr O=>Ya ?_
 refine Zb O (qx 101 r1 (qI qZ)) V [2,1] [101,0] (fun _=>rfl) (fun _=>rfl) fun τ a w F O=>?_
 try dsimp only [RS.sub,SF.sub,CF.sub,csub,Anc.sub,List.map,zCF,Zl,rTx,Zv,ZY,Zs,rOp] at O
 generalize τ 1=v1 at O
 refine Za (Ya (rZ O (qg 0 101 r1 r1 (qa 101 r1 r1 (qO rr qZ))) V [2] [101,0] fun O=>Yh ?_))
 refine ZB hfr O Z Z Z (.int Z)
theorem ZiD (x:OrdD):FnP prog 79 [.agg (Zv x)] (.int .i64 x.key):=by
 refine FnP.mk func79 Z ntmps79 Z fun B a w F V hfr O=>Ya ?_
 refine Zb O (qx 101 r1 (qI qZ)) V [2,1] [101,0] (fun _=>rfl) (fun _=>rfl) fun τ a w F O=>?_
 try dsimp only [RS.sub,SF.sub,CF.sub,csub,Anc.sub,List.map,zCF,Zl,rTx,Zv,ZY,Zs,rOp] at O
 generalize τ 1=v1 at O
 refine Za (Ya (rZ O (qg 0 101 r1 r1 (qa 101 r1 r1 (qO rr qZ))) V [2] [101,0] fun O=>Yh ?_))
 refine ZB hfr O Z Z Z (.int Z)
theorem ZlU (l:List TxD) (hll:l.length≤1000000):FnP prog 176 [.sl rTx l,.clos 77 []] (.bool (decide (Z5 TxD.id l))):=by
 refine FnP.mk func176 Z ntmps176 Z fun B a w F V hfr O=>Ya ?_
 refine rZ O qB V [4,1,0] [0] fun O=>(Ya (Ya ?_))
 refine rZ O (qI qZ) V [5,4,1,0] [0] fun O=>Ye ?_
 replace O:=O.ent (i:=5) (s':=.pv (.int .i64 ((0+1:Nat):Int))) Z (.int Z)
 refine Zk (σ:=Nat) [0,1,4] [0] (fun s=>[(5,.pv (.int .i64 ((s+1:Nat):Int)))]) (fun s=>[]) (fun s=>∀ q,q<s→q+1<l.length→TxD.id (Nn l q)<TxD.id (Nn l (q+1))) (fun s=>l.length - s) (0) O ⟨rfl,rfl,rfl,rfl,tv⟩ ⟨rfl,tv⟩ (fun q hq=>absurd hq (YJ q)) ?_
 clear O;intro i a w F hC O
 try dsimp only at hC
 obtain ⟨F,O⟩:=O.nM [5,4,1,0] [0]
 try dsimp only at O
 have hq:=hC
 refine Ya (Ya (rZ O (qR rr (qR rr (qu YbP r1 (qL r2)))) V [9,5,4,1,0] [0] fun O=>?_))
 refine Zc O Z (fun hc0=>?_) (fun hc0=>?_)
 ·have hil:i+1<l.length:=by simp at hc0;omega
  have hwi:IntKind.wrap .i64 (((i+1:Nat):Int) - 1)=(i:Int):=by rw [Zj ow];omega
  refine Yd (Za (Ya (Ye (Ya (Zu O (qR rr (qR rr (qR rr (qf (o_sub .t qi) r1 qz (qf (ZaT (sz:=3) (.mk YbP kr) (by intro x;rfl) .t .t (by rw [hwi];omega) (by rw [hwi];omega)) r2 qz (qf (oR true 3 .t) r1 qz (qf (o_callClosP (avs:=[.agg (rTx (Nn l (IntKind.wrap .i64 (((i+1:Nat):Int) - 1)).toNat))]) .t (Zi5 (Nn l (IntKind.wrap .i64 (((i+1:Nat):Int) - 1)).toNat)) func77 Z kr (Args.one (.pagg .t))) r2 qz (qR rr (qR rr (qR rr (qy 3 YbP r2 (qf (oR true 3 .t) r1 qz (qf (o_callClosP (avs:=[.agg (rTx (Nn l (((i+1:Nat):Int)).toNat))]) .t (Zi5 (Nn l (((i+1:Nat):Int)).toNat)) func77 Z kr (Args.one (.pagg .t))) r2 qz (qf (Zcx .t .t) r2 qz qZ)))))))))))))) V [25,5,4,1,0] [0] Z Z fun a w F O=>?_)))))
  try dsimp only [List.map,xD,xE,xT,xU,ldSF,Zl,rTx,Zv,ZY,Zs,rOp] at O
  try simp only [Yg] at O
  refine Za (Zc O Z (fun hc1=>?_) (fun hc1=>?_))
  ·have h9:TxD.id (Nn l (i+1))≤TxD.id (Nn l i):=by have h8:=hc1;try rw [hwi] at h8;simpa using h8
   have hg:false=decide (Z5 TxD.id l):=(Yu fun e=>by have:=ZlI e hil;omega).symm
   refine Ya (rZ O qB V [5,4,1,0] [0] fun O=>(Yh (Zr (Zf (Zf (Zr (Zf ?_)))))))
   refine ZB hfr O Z Z Z (.bool hg)
  have h9:TxD.id (Nn l i)<TxD.id (Nn l (i+1)):=by have h8:=hc1;try rw [hwi] at h8;simpa using h8
  have hC2:∀ q,q<i+1→q+1<l.length→TxD.id (Nn l q)<TxD.id (Nn l (q+1)):=fun q h1 h2=>by rcases Yy (YD h1) with h8 | h8;exact hq q h8 h2;rw [h8];exact h9
  refine Yd (Zi (Za (rZ O (qR rr (qp r1 (qO rr qZ))) V [5,4,1,0] [0] fun O=>?_)))
  replace O:=O.ent (i:=5) (s':=.pv (.int .i64 ((i+1+1:Nat):Int))) Z (.int (Ze ow))
  obtain ⟨F,O⟩:=O.nM [4,1,0,5] [0]
  exact ⟨(i+1),F,hC2,O,by omega⟩
 have hg:true=decide (Z5 TxD.id l):=(YI (Zgl fun q hq2=>hq q (by simp at hc0;omega) hq2)).symm
 refine Ym (Zg (Zg (Zo (Za (Ya (rZ O qB V [4] [0] fun O=>Yh ?_))))))
 refine ZB hfr O Z Z Z (.bool hg)
theorem Zmd (l:List OrdD) (hll:l.length≤1000000):FnP prog 177 [.sl Zv l,.clos 79 []] (.bool (decide (Z5 OrdD.key l))):=by
 refine FnP.mk func177 Z ntmps177 Z fun B a w F V hfr O=>Ya ?_
 refine rZ O qB V [4,1,0] [0] fun O=>(Ya (Ya ?_))
 refine rZ O (qI qZ) V [5,4,1,0] [0] fun O=>Ye ?_
 replace O:=O.ent (i:=5) (s':=.pv (.int .i64 ((0+1:Nat):Int))) Z (.int Z)
 refine Zk (σ:=Nat) [0,1,4] [0] (fun s=>[(5,.pv (.int .i64 ((s+1:Nat):Int)))]) (fun s=>[]) (fun s=>∀ q,q<s→q+1<l.length→OrdD.key (Nn l q)<OrdD.key (Nn l (q+1))) (fun s=>l.length - s) (0) O ⟨rfl,rfl,rfl,rfl,tv⟩ ⟨rfl,tv⟩ (fun q hq=>absurd hq (YJ q)) ?_
 clear O;intro i a w F hC O
 try dsimp only at hC
 obtain ⟨F,O⟩:=O.nM [5,4,1,0] [0]
 try dsimp only at O
 have hq:=hC
 refine Ya (Ya (rZ O (qR rr (qR rr (qu YbQ r1 (qL r2)))) V [9,5,4,1,0] [0] fun O=>?_))
 refine Zc O Z (fun hc0=>?_) (fun hc0=>?_)
 ·have hil:i+1<l.length:=by simp at hc0;omega
  have hwi:IntKind.wrap .i64 (((i+1:Nat):Int) - 1)=(i:Int):=by rw [Zj ow];omega
  refine Yd (Za (Ya (Ye (Ya (Zu O (qR rr (qR rr (qR rr (qf (o_sub .t qi) r1 qz (qf (ZaT (sz:=2) (.mk YbQ kr) (by intro x;rfl) .t .t (by rw [hwi];omega) (by rw [hwi];omega)) r2 qz (qf (oR true 2 .t) r1 qz (qf (o_callClosP (avs:=[.agg (Zv (Nn l (IntKind.wrap .i64 (((i+1:Nat):Int) - 1)).toNat))]) .t (ZiD (Nn l (IntKind.wrap .i64 (((i+1:Nat):Int) - 1)).toNat)) func79 Z kr (Args.one (.pagg .t))) r2 qz (qR rr (qR rr (qR rr (qy 2 YbQ r2 (qf (oR true 2 .t) r1 qz (qf (o_callClosP (avs:=[.agg (Zv (Nn l (((i+1:Nat):Int)).toNat))]) .t (ZiD (Nn l (((i+1:Nat):Int)).toNat)) func79 Z kr (Args.one (.pagg .t))) r2 qz (qf (Zcx .t .t) r2 qz qZ)))))))))))))) V [25,5,4,1,0] [0] Z Z fun a w F O=>?_)))))
  try dsimp only [List.map,xD,xE,xT,xU,ldSF,Zl,rTx,Zv,ZY,Zs,rOp] at O
  try simp only [Yg] at O
  refine Za (Zc O Z (fun hc1=>?_) (fun hc1=>?_))
  ·have h9:OrdD.key (Nn l (i+1))≤OrdD.key (Nn l i):=by have h8:=hc1;try rw [hwi] at h8;simpa using h8
   have hg:false=decide (Z5 OrdD.key l):=(Yu fun e=>by have:=ZlI e hil;omega).symm
   refine Ya (rZ O qB V [5,4,1,0] [0] fun O=>(Yh (Zr (Zf (Zf (Zr (Zf ?_)))))))
   refine ZB hfr O Z Z Z (.bool hg)
  have h9:OrdD.key (Nn l i)<OrdD.key (Nn l (i+1)):=by have h8:=hc1;try rw [hwi] at h8;simpa using h8
  have hC2:∀ q,q<i+1→q+1<l.length→OrdD.key (Nn l q)<OrdD.key (Nn l (q+1)):=fun q h1 h2=>by rcases Yy (YD h1) with h8 | h8;exact hq q h8 h2;rw [h8];exact h9
  refine Yd (Zi (Za (rZ O (qR rr (qp r1 (qO rr qZ))) V [5,4,1,0] [0] fun O=>?_)))
  replace O:=O.ent (i:=5) (s':=.pv (.int .i64 ((i+1+1:Nat):Int))) Z (.int (Ze ow))
  obtain ⟨F,O⟩:=O.nM [4,1,0,5] [0]
  exact ⟨(i+1),F,hC2,O,by omega⟩
 have hg:true=decide (Z5 OrdD.key l):=(YI (Zgl fun q hq2=>hq q (by simp at hc0;omega) hq2)).symm
 refine Ym (Zg (Zg (Zo (Za (Ya (rZ O qB V [4] [0] fun O=>Yh ?_))))))
 refine ZB hfr O Z Z Z (.bool hg)
theorem ZiS (l:List TxD) (n:Int):FnP prog 141 [.sl rTx l,.int .i64 n,.clos 77 []] (.tup [.agg (rTx ((ZL TxD.id l n).getD zeroT)),.bool (ZL TxD.id l n).isSome]):=by
 refine FnP.mk func141 Z ntmps141 Z fun B a w F V hfr O=>?_
 have hxl:=Sat.lenSl O (i:=0) rfl
 refine Ya (Zb O (qf (oH [.int .i64 0,.bool false,.slice none 0 0] 101) trivial qz qB) V [7,6,2,1,0] [101,0] (fun _=>rfl) (fun _=>rfl) fun τ a w F O=>?_)
 try dsimp only [RS.sub,SF.sub,CF.sub,csub,Anc.sub,List.map,zCF,Zl,rTx,Zv,ZY,Zs,rOp] at O
 generalize τ 6=v6 at O
 refine Za (Ya (Ya (rZ O (qR rr (qu YbP r1 (qJ qZ))) V [13,12,11,7,6,2,1] [101,0] fun O=>Ye ?_)))
 refine Zk (σ:=(Nat)) [1,2,6,7,11,12] [0,101] (fun s=>[(13,.pv (.int .i64 (s:Int)))]) (fun s=>[]) (fun s=>s≤l.length∧(∀ k,k<s→TxD.id (Nn l k)≠n)) (fun s=>l.length - s) (0) O ⟨rfl,rfl,rfl,rfl,rfl,rfl,rfl,tv⟩ ⟨rfl,rfl,tv⟩ ⟨Yt _,fun k hk=>absurd hk (YJ k)⟩ ?_
 clear O;intro i a w F hC O
 try dsimp only at hC
 obtain ⟨F,O⟩:=O.nM [13,12,11,7,6,2,1] [101,0]
 try dsimp only at O
 obtain ⟨hi,hq⟩:=hC
 refine Ya (rZ O (qL r2) V [14,13,12,11,7,6,2,1] [101,0] fun O=>Ya ?_)
 refine Zc O Z (fun hc0=>?_) (fun hc0=>?_)
 ·have hil:i<l.length:=by simp at hc0;omega
  refine Yd (Za (Ya (Ye (Ya (Zb O (qy 3 YbP r2 (qf (oR true 3 .t) r1 qz (qf (oH [.int .i64 0,.bool false,.slice none 0 0] 102) trivial qz (qS 3 102 r2 r1 qZ)))) V [13,12,11,9,7,6,2,1] [102,101,0] (fun _=>rfl) (fun _=>rfl) fun τ a w F O=>?_)))))
  try dsimp only [RS.sub,SF.sub,CF.sub,csub,Anc.sub,List.map,Zd,xL,xM,Nat.reduceAdd,xD,xE,xT,xU,xC,xN,zCF,ldSF,Zl,rTx,Zv,ZY,Zs,rOp] at O
  generalize τ 9=v9 at O
  try simp only [Yg] at O
  refine Za (Ya (rZ O (qR rr (qe 3 102 r1 r1 (qf (o_callClosP (avs:=[.agg (rTx (Nn l i))]) .t (Zi5 (Nn l i)) func77 Z kr (Args.one (.pagg .t))) r2 qz (qR rr (qf (o_eql .t .t) r2 qz qZ))))) V [21,13,12,11,9,7,6,2,1] [102,101,0] fun O=>?_))
  refine Zc O Z (fun hc1=>?_) (fun hc1=>?_)
  ·have hg:ZL TxD.id l n=some (Nn l i):=ZiN hil (by simpa using hc1) hq
   refine Ya (rZ O (qe 3 102 r1 r1 (qs 3 101 r2 r1 qB)) V [13,12,11,7,6,2,1] [102,101,0] fun O=>(Yh (Zr (Zf (Zf (Zr (Zf ?_)))))))
   refine Z3 hfr O Z (.cl 101 true 3 Z Z (.tmp Z .nil)) (.two (by rw [hg];first | exact .aggU Z Z | exact .aggLe Z ⟨.refl,.refl,.nilSl,tv⟩) (.bool (by rw [hg];rfl)))
  have hne:TxD.id (Nn l i)≠n:=by simpa using hc1
  refine Yd (Zi (Za (rZ O (qp r1 (qR rr qZ)) V [13,12,11,7,6,2,1] [102,101,0] fun O=>?_)))
  replace O:=O.ent (i:=13) (s':=.pv (.int .i64 ((i+1:Nat):Int))) Z (.int (Ze ow))
  obtain ⟨F,O⟩:=O.nM [12,11,7,6,2,1,13] [101,0]
  exact ⟨(i+1),F,⟨by omega,(fun k hk=>by rcases Yy (YD hk) with h9 | h9;exact hq k h9;rw [h9];exact hne)⟩,O,by omega⟩
 have hil:i=l.length:=by simp at hc0;omega
 have hg:ZL TxD.id l n=none:=ZfM (by rw [← hil];exact hq)
 refine Ym (Zg (Zg (Zo (Za (Ya (Zb O (qf (oH [.int .i64 0,.bool false,.slice none 0 0] 103) trivial qz qZ) V [10,7,6] [103,101,0] (fun _=>rfl) (fun _=>rfl) fun τ a w F O=>?_))))))
 try dsimp only [RS.sub,SF.sub,CF.sub,csub,Anc.sub,List.map,zCF,Zl,rTx,Zv,ZY,Zs,rOp] at O
 generalize τ 10=v10 at O
 refine Za (Ya (rZ O (qe 3 103 r1 r1 (qs 3 101 r2 r1 qB)) V [7,6] [103,101,0] fun O=>Yh ?_))
 refine Z3 hfr O Z (.cl 101 true 3 Z Z (.tmp Z .nil)) (.two (by rw [hg];first | exact .aggU Z Z | exact .aggLe Z ⟨.refl,.refl,.nilSl,tv⟩) (.bool (by rw [hg];rfl)))
theorem Zi2 (l:List OrdD) (n:Int):FnP prog 142 [.sl Zv l,.int .i64 n,.clos 79 []] (.tup [.agg (Zv ((ZL OrdD.key l n).getD Zhl)),.bool (ZL OrdD.key l n).isSome]):=by
 refine FnP.mk func142 Z ntmps142 Z fun B a w F V hfr O=>?_
 have hxl:=Sat.lenSl O (i:=0) rfl
 refine Ya (Zb O (qf (oH [.int .i64 0,.slice none 0 0] 101) trivial qz qB) V [7,6,2,1,0] [101,0] (fun _=>rfl) (fun _=>rfl) fun τ a w F O=>?_)
 try dsimp only [RS.sub,SF.sub,CF.sub,csub,Anc.sub,List.map,zCF,Zl,rTx,Zv,ZY,Zs,rOp] at O
 generalize τ 6=v6 at O
 refine Za (Ya (Ya (rZ O (qR rr (qu YbQ r1 (qJ qZ))) V [13,12,11,7,6,2,1] [101,0] fun O=>Ye ?_)))
 refine Zk (σ:=(Nat)) [1,2,6,7,11,12] [0,101] (fun s=>[(13,.pv (.int .i64 (s:Int)))]) (fun s=>[]) (fun s=>s≤l.length∧(∀ k,k<s→OrdD.key (Nn l k)≠n)) (fun s=>l.length - s) (0) O ⟨rfl,rfl,rfl,rfl,rfl,rfl,rfl,tv⟩ ⟨rfl,rfl,tv⟩ ⟨Yt _,fun k hk=>absurd hk (YJ k)⟩ ?_
 clear O;intro i a w F hC O
 try dsimp only at hC
 obtain ⟨F,O⟩:=O.nM [13,12,11,7,6,2,1] [101,0]
 try dsimp only at O
 obtain ⟨hi,hq⟩:=hC
 refine Ya (rZ O (qL r2) V [14,13,12,11,7,6,2,1] [101,0] fun O=>Ya ?_)
 refine Zc O Z (fun hc0=>?_) (fun hc0=>?_)
 ·have hil:i<l.length:=by simp at hc0;omega
  refine Yd (Za (Ya (Ye (Ya (Zb O (qy 2 YbQ r2 (qf (oR true 2 .t) r1 qz (qf (oH [.int .i64 0,.slice none 0 0] 102) trivial qz (qS 2 102 r2 r1 qZ)))) V [13,12,11,9,7,6,2,1] [102,101,0] (fun _=>rfl) (fun _=>rfl) fun τ a w F O=>?_)))))
  try dsimp only [RS.sub,SF.sub,CF.sub,csub,Anc.sub,List.map,Zd,xL,xM,Nat.reduceAdd,xD,xE,xT,xU,xC,xN,zCF,ldSF,Zl,rTx,Zv,ZY,Zs,rOp] at O
  generalize τ 9=v9 at O
  try simp only [Yg] at O
  refine Za (Ya (rZ O (qR rr (qe 2 102 r1 r1 (qf (o_callClosP (avs:=[.agg (Zv (Nn l i))]) .t (ZiD (Nn l i)) func79 Z kr (Args.one (.pagg .t))) r2 qz (qR rr (qf (o_eql .t .t) r2 qz qZ))))) V [21,13,12,11,9,7,6,2,1] [102,101,0] fun O=>?_))
  refine Zc O Z (fun hc1=>?_) (fun hc1=>?_)
  ·have hg:ZL OrdD.key l n=some (Nn l i):=ZiN hil (by simpa using hc1) hq
   refine Ya (rZ O (qe 2 102 r1 r1 (qs 2 101 r2 r1 qB)) V [13,12,11,7,6,2,1] [102,101,0] fun O=>(Yh (Zr (Zf (Zf (Zr (Zf ?_)))))))
   refine Z3 hfr O Z (.cl 101 true 2 Z Z (.tmp Z .nil)) (.two (by rw [hg];first | exact .aggU Z Z | exact .aggLe Z ⟨.refl,.nilSl,tv⟩) (.bool (by rw [hg];rfl)))
  have hne:OrdD.key (Nn l i)≠n:=by simpa using hc1
  refine Yd (Zi (Za (rZ O (qp r1 (qR rr qZ)) V [13,12,11,7,6,2,1] [102,101,0] fun O=>?_)))
  replace O:=O.ent (i:=13) (s':=.pv (.int .i64 ((i+1:Nat):Int))) Z (.int (Ze ow))
  obtain ⟨F,O⟩:=O.nM [12,11,7,6,2,1,13] [101,0]
  exact ⟨(i+1),F,⟨by omega,(fun k hk=>by rcases Yy (YD hk) with h9 | h9;exact hq k h9;rw [h9];exact hne)⟩,O,by omega⟩
 have hil:i=l.length:=by simp at hc0;omega
 have hg:ZL OrdD.key l n=none:=ZfM (by rw [← hil];exact hq)
 refine Ym (Zg (Zg (Zo (Za (Ya (Zb O (qf (oH [.int .i64 0,.slice none 0 0] 103) trivial qz qZ) V [10,7,6] [103,101,0] (fun _=>rfl) (fun _=>rfl) fun τ a w F O=>?_))))))
 try dsimp only [RS.sub,SF.sub,CF.sub,csub,Anc.sub,List.map,zCF,Zl,rTx,Zv,ZY,Zs,rOp] at O
 generalize τ 10=v10 at O
 refine Za (Ya (rZ O (qe 2 103 r1 r1 (qs 2 101 r2 r1 qB)) V [7,6] [103,101,0] fun O=>Yh ?_))
 refine Z3 hfr O Z (.cl 101 true 2 Z Z (.tmp Z .nil)) (.two (by rw [hg];first | exact .aggU Z Z | exact .aggLe Z ⟨.refl,.nilSl,tv⟩) (.bool (by rw [hg];rfl)))
theorem Zsc (c d:List TxD) (hll:c.length≤1000000):FnP prog 76 [.sl rTx c,.sl rTx d,.clos 77 [],.clos 42 []] (.sl rTx (Zag TxD.id c d)):=by
 refine FnP.mk func76 Z ntmps76 Z fun B a w F V hfr O=>Ya ?_
 refine rZ O (qC qZ) V [8,3,2,1,0] [0] fun O=>Ya ?_
 refine rZ O (qC qZ) V [9,8,3,2,1,0] [0] fun O=>(Ya (Ya ?_))
 refine rZ O (qR rr (qu YbP r1 (qJ qZ))) V [16,15,14,9,8,3,2,1] [0] fun O=>Ye ?_
 replace O:=O.fresh 50 rfl
 replace O:=O.turn 50 Z (ZaC (T:=36) (sz:=3) (R:=rTx))
 refine Zk (σ:=(Nat)×(Value)×(List TxD)) [1,2,3,8,14,15] [0] (fun s=>[(16,.pv (.int .i64 (s.1:Int))),(9,.pv (.is s.2.1))]) (fun s=>[(50,.ob (.val s.2.1) (ZO 36 3 rTx s.2.2))]) (fun s=>s.1≤c.length∧(s.2.2=Zag TxD.id (c.take s.1) d)) (fun s=>c.length - s.1) ((0),(.slice none 0 0),([])) O ⟨rfl,rfl,rfl,rfl,rfl,rfl,rfl,rfl,tv⟩ ⟨rfl,rfl,tv⟩ ⟨Yt _,rfl⟩ ?_
 clear O;intro s a w F hC O
 obtain ⟨i,v,out⟩:=s
 try dsimp only at hC
 obtain ⟨F,O⟩:=O.nM [16,15,14,9,8,3,2,1] [50,0]
 try dsimp only at O
 obtain ⟨hi,hq⟩:=hC
 have hol:out.length≤i:=by rw [hq];exact YW (Zb2 _ _) (by rw [Yk];omega)
 refine Ya (rZ O (qL r2) V [17,16,15,14,9,8,3,2,1] [50,0] fun O=>Ya ?_)
 refine Zc O Z (fun hc0=>?_) (fun hc0=>?_)
 ·have hil:i<c.length:=by simp at hc0;omega
  have hcd:(!(ZL TxD.id d (TxD.id (Nn c i))).isSome || !decide ((Nn c i)=(ZL TxD.id d (TxD.id (Nn c i))).getD zeroT))=decide ((ZL TxD.id d (TxD.id (Nn c i)))≠some (Nn c i)):=by cases hsk:(ZL TxD.id d (TxD.id (Nn c i))) with | none=>simp | some z=>rw [Y6];simp;exact YbF ⟨Eq.symm,Eq.symm⟩
  refine Yd (Za (Ya (Ye (Ya (Zb O (qy 3 YbP r2 (qf (oR true 3 .t) r1 qz (qf (oH [.int .i64 0,.bool false,.slice none 0 0] 101) trivial qz (qS 3 101 r2 r1 qZ)))) V [16,15,14,11,9,8,3,2,1] [101,50,0] (fun _=>rfl) (fun _=>rfl) fun τ a w F O=>?_)))))
  try dsimp only [RS.sub,SF.sub,CF.sub,csub,Anc.sub,List.map,Zd,xL,xM,Nat.reduceAdd,xD,xE,xT,xU,xC,xN,zCF,ldSF,Zl,rTx,Zv,ZY,Zs,rOp] at O
  generalize τ 11=v11 at O
  try simp only [Yg] at O
  refine Za (Ya (Zb O (qR rr (qR rr (qe 3 101 r1 r1 (qf (o_callClosP (avs:=[.agg (rTx (Nn c i))]) .t (Zi5 (Nn c i)) func77 Z kr (Args.one (.pagg .t))) r2 qz (qR rr (qf (oP (ZiS d (TxD.id (Nn c i))) func141 (Args.three .t .t .t)) r3 qz (qR rr (qf (o_extract .t Z) r1 qz (qf (o_extract .t Z) r1 qz (qf (oH [.int .i64 0,.bool false,.slice none 0 0] 102) trivial qz (qf (oA 3 102 .same (.conv .t .agg)) r2 r1 (qO rr qZ)))))))))))) V [16,15,14,13,12,11,9,8,3,2,1] [102,101,50,0] (fun _=>rfl) (fun _=>rfl) fun τ a w F O=>?_))
  try dsimp only [RS.sub,SF.sub,CF.sub,csub,Anc.sub,List.map,Zd,xL,xM,Nat.reduceAdd,xD,xE,xT,xU,xC,xN,zCF,ldSF,Zl,rTx,Zv,ZY,Zs,rOp] at O
  generalize τ 12=v12 at O
  refine Za (Ya (rZ O (qR rr (qf (Z1 .t) r1 qz (qR rr (qm Z Z Z Z (qk Z (fun h=>oL true 3 101 .is) r2 r1 (qk Z (fun h=>oL true 3 102 .is) r2 r1 (qk Z (fun h=>o_callClosP (avs:=[.agg (rTx (Nn c i)),.agg (rTx ((ZL TxD.id d (TxD.id (Nn c i))).getD zeroT))]) (.w h) (Zq4 (Nn c i) ((ZL TxD.id d (TxD.id (Nn c i))).getD zeroT)) func42 Z kr (Args.two (.pagg (.w h)) (.pagg (.w h)))) r4 qz (qk Z (fun h=>Z1 (.w h)) r2 qz (qf (ZaM .t .t) r2 qz qZ))))))))) V [37,16,15,14,11,9,8,3,2,1] [102,101,50,0] fun O=>?_))
  refine Zc O Z (fun hc1=>?_) (fun hc1=>?_)
  ·have h9:(!(ZL TxD.id d (TxD.id (Nn c i))).isSome || !decide ((Nn c i)=(ZL TxD.id d (TxD.id (Nn c i))).getD zeroT))=true:=hc1
   rw [hcd] at h9
   have hst9:out ++ [(Nn c i)] = Zag TxD.id (c.take (i+1)) d:=by rw [hq];unfold Zag;rw [Zau hil,Yf h9]
   refine Zb O (qR rr (qe 3 101 r1 r1 (qf (Zn (sz:=3) (zs:=[.int .i64 0,.bool false,.slice none 0 0]) (r:=[(0,.tmp 39)]) (l:=[_,_,_]) YbP kr kr kr kr Z Z (.agg Z .t kr kr .nil) Z) r1 qz (qf (o_append (sz:=3) (bs:=40) 50 (.mk' YbP kr kr) (by intro x;rfl) .is (.arr (l':=[(Nn c i)]) .t) (by simp only [Yc,Yl,Yq];omega) (by decide)) ⟨rfl,rfl,tv⟩ ⟨rfl,tv⟩ (qO rr qZ))))) V [16,15,14,9,8,3,2,1] [102,101,50,0] (fun _=>rfl) (fun _=>rfl) fun τ a w F O=>?_
   try dsimp only [RS.sub,SF.sub,CF.sub,csub,Anc.sub,List.map,Zd,xL,xM,Nat.reduceAdd,xD,xE,xT,xU,xC,xN,zCF,ldSF,Zl,rTx,Zv,ZY,Zs,rOp] at O
   generalize τ 41=v41 at O
   refine Zi (Za (rZ O (qp r1 (qR rr qZ)) V [16,15,14,9,8,3,2,1] [102,101,50,0] fun O=>?_))
   replace O:=O.ent (i:=16) (s':=.pv (.int .i64 ((i+1:Nat):Int))) Z (.int (Ze ow))
   obtain ⟨F,O⟩:=O.nM [15,14,8,3,2,1,9,16] [0,50]
   exact ⟨((i+1),_,_),F,⟨by omega,hst9⟩,O,by omega⟩
  have h9:(!(ZL TxD.id d (TxD.id (Nn c i))).isSome || !decide ((Nn c i)=(ZL TxD.id d (TxD.id (Nn c i))).getD zeroT))=false:=hc1
  rw [hcd] at h9
  have hst9:out=Zag TxD.id (c.take (i+1)) d:=by rw [hq];unfold Zag;rw [Zau hil,Yb (by rw [h9];simp),YF]
  refine Yd (Zi (Za (rZ O (qp r1 (qR rr qZ)) V [16,15,14,9,8,3,2,1] [102,101,50,0] fun O=>?_)))
  replace O:=O.ent (i:=16) (s':=.pv (.int .i64 ((i+1:Nat):Int))) Z (.int (Ze ow))
  obtain ⟨F,O⟩:=O.nM [15,14,8,3,2,1,9,16] [0,50]
  exact ⟨((i+1),_,_),F,⟨by omega,hst9⟩,O,by omega⟩
 have hil:i=c.length:=by simp at hc0;omega
 have hg:out=Zag TxD.id c d:=by rw [hq,hil,YE]
 refine Ym (Zg (Zg (Zo (Za (Ya (rZ O (qR rr (qO rr qZ)) V [8] [50,0] fun O=>Yh ?_))))))
 obtain ⟨F,O⟩:=O.give 50 8 Z rfl
 refine ZB hfr O Z Z Z (.sl (by rw [hg]))
theorem Zsb (c d:List OrdD) (hll:c.length≤1000000):FnP prog 78 [.sl Zv c,.sl Zv d,.clos 79 [],.clos 80 []] (.sl Zv (Zag OrdD.key c d)):=by
 refine FnP.mk func78 Z ntmps78 Z fun B a w F V hfr O=>Ya ?_
 refine rZ O (qC qZ) V [8,3,2,1,0] [0] fun O=>Ya ?_
 refine rZ O (qC qZ) V [9,8,3,2,1,0] [0] fun O=>(Ya (Ya ?_))
 refine rZ O (qR rr (qu YbQ r1 (qJ qZ))) V [16,15,14,9,8,3,2,1] [0] fun O=>Ye ?_
 replace O:=O.fresh 50 rfl
 replace O:=O.turn 50 Z (ZaC (T:=39) (sz:=2) (R:=Zv))
 refine Zk (σ:=(Nat)×(Value)×(List OrdD)) [1,2,3,8,14,15] [0] (fun s=>[(16,.pv (.int .i64 (s.1:Int))),(9,.pv (.is s.2.1))]) (fun s=>[(50,.ob (.val s.2.1) (ZO 39 2 Zv s.2.2))]) (fun s=>s.1≤c.length∧(s.2.2=Zag OrdD.key (c.take s.1) d)) (fun s=>c.length - s.1) ((0),(.slice none 0 0),([])) O ⟨rfl,rfl,rfl,rfl,rfl,rfl,rfl,rfl,tv⟩ ⟨rfl,rfl,tv⟩ ⟨Yt _,rfl⟩ ?_
 clear O;intro s a w F hC O
 obtain ⟨i,v,out⟩:=s
 try dsimp only at hC
 obtain ⟨F,O⟩:=O.nM [16,15,14,9,8,3,2,1] [50,0]
 try dsimp only at O
 obtain ⟨hi,hq⟩:=hC
 have hol:out.length≤i:=by rw [hq];exact YW (Zb2 _ _) (by rw [Yk];omega)
 refine Ya (rZ O (qL r2) V [17,16,15,14,9,8,3,2,1] [50,0] fun O=>Ya ?_)
 refine Zc O Z (fun hc0=>?_) (fun hc0=>?_)
 ·have hil:i<c.length:=by simp at hc0;omega
  have hcd:(!(ZL OrdD.key d (OrdD.key (Nn c i))).isSome || !decide ((Nn c i)=(ZL OrdD.key d (OrdD.key (Nn c i))).getD Zhl))=decide ((ZL OrdD.key d (OrdD.key (Nn c i)))≠some (Nn c i)):=by cases hsk:(ZL OrdD.key d (OrdD.key (Nn c i))) with | none=>simp | some z=>rw [Y6];simp;exact YbF ⟨Eq.symm,Eq.symm⟩
  refine Yd (Za (Ya (Ye (Ya (Zb O (qy 2 YbQ r2 (qf (oR true 2 .t) r1 qz (qf (oH [.int .i64 0,.slice none 0 0] 101) trivial qz (qS 2 101 r2 r1 qZ)))) V [16,15,14,11,9,8,3,2,1] [101,50,0] (fun _=>rfl) (fun _=>rfl) fun τ a w F O=>?_)))))
  try dsimp only [RS.sub,SF.sub,CF.sub,csub,Anc.sub,List.map,Zd,xL,xM,Nat.reduceAdd,xD,xE,xT,xU,xC,xN,zCF,ldSF,Zl,rTx,Zv,ZY,Zs,rOp] at O
  generalize τ 11=v11 at O
  try simp only [Yg] at O
  refine Za (Ya (Zb O (qR rr (qR rr (qe 2 101 r1 r1 (qf (o_callClosP (avs:=[.agg (Zv (Nn c i))]) .t (ZiD (Nn c i)) func79 Z kr (Args.one (.pagg .t))) r2 qz (qR rr (qf (oP (Zi2 d (OrdD.key (Nn c i))) func142 (Args.three .t .t .t)) r3 qz (qR rr (qf (o_extract .t Z) r1 qz (qf (o_extract .t Z) r1 qz (qf (oH [.int .i64 0,.slice none 0 0] 102) trivial qz (qf (oA 2 102 .same (.conv .t .agg)) r2 r1 (qO rr qZ)))))))))))) V [16,15,14,13,12,11,9,8,3,2,1] [102,101,50,0] (fun _=>rfl) (fun _=>rfl) fun τ a w F O=>?_))
  try dsimp only [RS.sub,SF.sub,CF.sub,csub,Anc.sub,List.map,Zd,xL,xM,Nat.reduceAdd,xD,xE,xT,xU,xC,xN,zCF,ldSF,Zl,rTx,Zv,ZY,Zs,rOp] at O
  generalize τ 12=v12 at O
  refine Za (Ya (rZ O (qR rr (qf (Z1 .t) r1 qz (qR rr (qm Z Z Z Z (qk Z (fun h=>oL true 2 101 .is) r2 r1 (qk Z (fun h=>oL true 2 102 .is) r2 r1 (qk Z (fun h=>o_callClosP (avs:=[.agg (Zv (Nn c i)),.agg (Zv ((ZL OrdD.key d (OrdD.key (Nn c i))).getD Zhl))]) (.w h) (ZqV (Nn c i) ((ZL OrdD.key d (OrdD.key (Nn c i))).getD Zhl)) func80 Z kr (Args.two (.pagg (.w h)) (.pagg (.w h)))) r4 qz (qk Z (fun h=>Z1 (.w h)) r2 qz (qf (ZaM .t .t) r2 qz qZ))))))))) V [37,16,15,14,11,9,8,3,2,1] [102,101,50,0] fun O=>?_))
  refine Zc O Z (fun hc1=>?_) (fun hc1=>?_)
  ·have h9:(!(ZL OrdD.key d (OrdD.key (Nn c i))).isSome || !decide ((Nn c i)=(ZL OrdD.key d (OrdD.key (Nn c i))).getD Zhl))=true:=hc1
   rw [hcd] at h9
   have hst9:out ++ [(Nn c i)] = Zag OrdD.key (c.take (i+1)) d:=by rw [hq];unfold Zag;rw [Zau hil,Yf h9]
   refine Zb O (qR rr (qe 2 101 r1 r1 (qf (Zn (sz:=2) (zs:=[.int .i64 0,.slice none 0 0]) (r:=[(0,.tmp 39)]) (l:=[_,_]) YbQ kr kr kr kr Z Z (.agg Z .t kr kr .nil) Z) r1 qz (qf (o_append (sz:=2) (bs:=32) 50 (.mk' YbQ kr kr) (by intro x;rfl) .is (.arr (l':=[(Nn c i)]) .t) (by simp only [Yc,Yl,Yq];omega) (by decide)) ⟨rfl,rfl,tv⟩ ⟨rfl,tv⟩ (qO rr qZ))))) V [16,15,14,9,8,3,2,1] [102,101,50,0] (fun _=>rfl) (fun _=>rfl) fun τ a w F O=>?_
   try dsimp only [RS.sub,SF.sub,CF.sub,csub,Anc.sub,List.map,Zd,xL,xM,Nat.reduceAdd,xD,xE,xT,xU,xC,xN,zCF,ldSF,Zl,rTx,Zv,ZY,Zs,rOp] at O
   generalize τ 41=v41 at O
   refine Zi (Za (rZ O (qp r1 (qR rr qZ)) V [16,15,14,9,8,3,2,1] [102,101,50,0] fun O=>?_))
   replace O:=O.ent (i:=16) (s':=.pv (.int .i64 ((i+1:Nat):Int))) Z (.int (Ze ow))
   obtain ⟨F,O⟩:=O.nM [15,14,8,3,2,1,9,16] [0,50]
   exact ⟨((i+1),_,_),F,⟨by omega,hst9⟩,O,by omega⟩
  have h9:(!(ZL OrdD.key d (OrdD.key (Nn c i))).isSome || !decide ((Nn c i)=(ZL OrdD.key d (OrdD.key (Nn c i))).getD Zhl))=false:=hc1
  rw [hcd] at h9
  have hst9:out=Zag OrdD.key (c.take (i+1)) d:=by rw [hq];unfold Zag;rw [Zau hil,Yb (by rw [h9];simp),YF]
  refine Yd (Zi (Za (rZ O (qp r1 (qR rr qZ)) V [16,15,14,9,8,3,2,1] [102,101,50,0] fun O=>?_)))
  replace O:=O.ent (i:=16) (s':=.pv (.int .i64 ((i+1:Nat):Int))) Z (.int (Ze ow))
  obtain ⟨F,O⟩:=O.nM [15,14,8,3,2,1,9,16] [0,50]
  exact ⟨((i+1),_,_),F,⟨by omega,hst9⟩,O,by omega⟩
 have hil:i=c.length:=by simp at hc0;omega
 have hg:out=Zag OrdD.key c d:=by rw [hq,hil,YE]
 refine Ym (Zg (Zg (Zo (Za (Ya (rZ O (qR rr (qO rr qZ)) V [8] [50,0] fun O=>Yh ?_))))))
 obtain ⟨F,O⟩:=O.give 50 8 Z rfl
 refine ZB hfr O Z Z Z (.sl (by rw [hg]))
theorem Zsx (l was now:List TxD) (hwl:was.length≤1000000):FnP prog 111 [.sl rTx l,.sl rTx was,.sl rTx now,.clos 77 [],.clos 42 []] (.bool (Zbj TxD.id l was now)):=by
 refine FnP.mk func111 Z ntmps111 Z fun B a w F V hfr O=>?_
 have hxl:=Sat.lenSl O (i:=2) rfl
 refine Ya (rZ O qB V [10,4,3,2,1,0] [0] fun O=>(Ya (Ya ?_)))
 refine rZ O (qR rr (qR rr (qR rr (qR rr (qf (oP (Zsc was l hwl) func76 (Args.four .t .t .t .t)) r4 qz (qu YbP r1 (qf (Zal .t qi) r1 qz qZ))))))) V [23,10,3,2,1,0] [0] fun O=>?_
 refine Zc O Z (fun hc0=>?_) (fun hc0=>?_)
 ·have hg:false=Zbj TxD.id l was now:=by unfold Zbj;rw [Yu (by intro e;rw [e] at hc0;simp at hc0),Bool.false_and]
  refine Ya (rZ O qB V [10,3,2,1,0] [0] fun O=>(Yh (Zf ?_)))
  refine ZB hfr O Z Z Z (.bool hg)
 have hl0:Zag TxD.id was l = []:=Yae fun e=>by have h7:=YaA.2 e;have h8:=YaR hc0;omega
 refine Yd (Za (Ya (Ya (rZ O (qR rr (qu YbP r1 (qJ qZ))) V [26,25,24,10,3,1,0] [0] fun O=>Ye ?_))))
 refine Zk (σ:=(Nat)) [0,1,3,10,24,25] [0] (fun s=>[(26,.pv (.int .i64 (s:Int)))]) (fun s=>[]) (fun s=>s≤now.length∧(∀ q,q<s→((ZL TxD.id l (TxD.id (Nn now q))).isSome && !(ZL TxD.id was (TxD.id (Nn now q))).isSome)=false)) (fun s=>now.length - s) (0) O ⟨rfl,rfl,rfl,rfl,rfl,rfl,rfl,tv⟩ ⟨rfl,tv⟩ ⟨Yt _,fun q hq=>absurd hq (YJ q)⟩ ?_
 clear O;intro i a w F hC O
 try dsimp only at hC
 obtain ⟨F,O⟩:=O.nM [26,25,24,10,3,1,0] [0]
 try dsimp only at O
 obtain ⟨hi,hq⟩:=hC
 refine Ya (rZ O (qL r2) V [27,26,25,24,10,3,1,0] [0] fun O=>Ya ?_)
 refine Zc O Z (fun hc1=>?_) (fun hc1=>?_)
 ·have hil:i<now.length:=by simp at hc1;omega
  refine Yd (Za (Ya (Ye (Ya (Zb O (qy 3 YbP r2 (qf (oR true 3 .t) r1 qz (qf (oH [.int .i64 0,.bool false,.slice none 0 0] 101) trivial qz (qS 3 101 r2 r1 qZ)))) V [26,25,24,12,10,3,1,0] [101,0] (fun _=>rfl) (fun _=>rfl) fun τ a w F O=>?_)))))
  try dsimp only [RS.sub,SF.sub,CF.sub,csub,Anc.sub,List.map,Zd,xL,xM,Nat.reduceAdd,xD,xE,xT,xU,xC,xN,zCF,ldSF,Zl,rTx,Zv,ZY,Zs,rOp] at O
  generalize τ 12=v12 at O
  try simp only [Yg] at O
  refine Za (Ya (Zb O (qR rr (qR rr (qe 3 101 r1 r1 (qf (o_callClosP (avs:=[.agg (rTx (Nn now i))]) .t (Zi5 (Nn now i)) func77 Z kr (Args.one (.pagg .t))) r2 qz (qR rr (qf (oP (ZiS l (TxD.id (Nn now i))) func141 (Args.three .t .t .t)) r3 qz (qR rr (qf (o_extract .t Z) r1 qz (qf (o_extract .t Z) r1 qz (qf (oH [.int .i64 0,.bool false,.slice none 0 0] 102) trivial qz (qf (oA 3 102 .same (.conv .t .agg)) r2 r1 (qO rr qZ)))))))))))) V [26,25,24,14,12,10,3,1,0] [102,101,0] (fun _=>rfl) (fun _=>rfl) fun τ a w F O=>?_))
  try dsimp only [RS.sub,SF.sub,CF.sub,csub,Anc.sub,List.map,Zd,xL,xM,Nat.reduceAdd,xD,xE,xT,xU,xC,xN,zCF,ldSF,Zl,rTx,Zv,ZY,Zs,rOp] at O
  generalize τ 13=v13 at O
  refine Za (Ya (Zb O (qR rr (qR rr (qe 3 101 r1 r1 (qf (o_callClosP (avs:=[.agg (rTx (Nn now i))]) .t (Zi5 (Nn now i)) func77 Z kr (Args.one (.pagg .t))) r2 qz (qR rr (qf (oP (ZiS was (TxD.id (Nn now i))) func141 (Args.three .t .t .t)) r3 qz (qR rr (qf (o_extract .t Z) r1 qz (qf (o_extract .t Z) r1 qz (qf (oH [.int .i64 0,.bool false,.slice none 0 0] 103) trivial qz (qf (oA 3 103 .same (.conv .t .agg)) r2 r1 (qO rr qZ)))))))))))) V [26,25,24,16,14,10,3,1,0] [103,102,101,0] (fun _=>rfl) (fun _=>rfl) fun τ a w F O=>?_))
  try dsimp only [RS.sub,SF.sub,CF.sub,csub,Anc.sub,List.map,Zd,xL,xM,Nat.reduceAdd,xD,xE,xT,xU,xC,xN,zCF,ldSF,Zl,rTx,Zv,ZY,Zs,rOp] at O
  generalize τ 15=v15 at O
  refine Za (Ya (rZ O (qR rr (qR rr (qm Z Z Z Z (qk Z (fun h=>Z1 (.w h)) r2 qz (qf (ZJ .t .t) r2 qz qZ))))) V [52,26,25,24,10,3,1,0] [103,102,101,0] fun O=>?_))
  refine Zc O Z (fun hc2=>?_) (fun hc2=>?_)
  ·have h9:((ZL TxD.id l (TxD.id (Nn now i))).isSome && !(ZL TxD.id was (TxD.id (Nn now i))).isSome)=true:=hc2
   have hg:false=Zbj TxD.id l was now:=by
    unfold Zbj
    rw [Y8,Bool.and_eq_false_iff]
    exact .inr (List.all_eq_false.2 ⟨_,ZU hil,by rw [h9];simp⟩)
   refine Ya (rZ O qB V [26,25,24,10,3,1,0] [103,102,101,0] fun O=>(Yh (Zr (Zf (Zf (Zr (Zf ?_)))))))
   refine ZB hfr O Z Z Z (.bool hg)
  have hne:((ZL TxD.id l (TxD.id (Nn now i))).isSome && !(ZL TxD.id was (TxD.id (Nn now i))).isSome)=false:=hc2
  refine Yd (Zi (Za (rZ O (qp r1 (qR rr qZ)) V [26,25,24,10,3,1,0] [103,102,101,0] fun O=>?_)))
  replace O:=O.ent (i:=26) (s':=.pv (.int .i64 ((i+1:Nat):Int))) Z (.int (Ze ow))
  obtain ⟨F,O⟩:=O.nM [25,24,10,3,1,0,26] [0]
  exact ⟨(i+1),F,⟨by omega,(fun q h9=>by rcases Yy (YD h9) with h8 | h8;exact hq q h8;rw [h8];exact hne)⟩,O,by omega⟩
 have hil:i=now.length:=by simp at hc1;omega
 have hg:true=Zbj TxD.id l was now:=by
   unfold Zbj
   rw [YI hl0,Ybu,Y8,Yau]
   intro z hz
   obtain ⟨q,hq1,e⟩:=YH hz
   have h9:=hq q ow
   rw [Zy hq1,e] at h9
   rw [h9];rfl
 refine Ym (Zg (Zg (Zo (Za (Ya (rZ O qB V [10] [0] fun O=>Yh ?_))))))
 refine ZB hfr O Z Z Z (.bool hg)
theorem Zsj (l was now:List OrdD) (hwl:was.length≤1000000):FnP prog 112 [.sl Zv l,.sl Zv was,.sl Zv now,.clos 79 [],.clos 80 []] (.bool (Zbj OrdD.key l was now)):=by
 refine FnP.mk func112 Z ntmps112 Z fun B a w F V hfr O=>?_
 have hxl:=Sat.lenSl O (i:=2) rfl
 refine Ya (rZ O qB V [10,4,3,2,1,0] [0] fun O=>(Ya (Ya ?_)))
 refine rZ O (qR rr (qR rr (qR rr (qR rr (qf (oP (Zsb was l hwl) func78 (Args.four .t .t .t .t)) r4 qz (qu YbQ r1 (qf (Zal .t qi) r1 qz qZ))))))) V [23,10,3,2,1,0] [0] fun O=>?_
 refine Zc O Z (fun hc0=>?_) (fun hc0=>?_)
 ·have hg:false=Zbj OrdD.key l was now:=by unfold Zbj;rw [Yu (by intro e;rw [e] at hc0;simp at hc0),Bool.false_and]
  refine Ya (rZ O qB V [10,3,2,1,0] [0] fun O=>(Yh (Zf ?_)))
  refine ZB hfr O Z Z Z (.bool hg)
 have hl0:Zag OrdD.key was l = []:=Yae fun e=>by have h7:=YaA.2 e;have h8:=YaR hc0;omega
 refine Yd (Za (Ya (Ya (rZ O (qR rr (qu YbQ r1 (qJ qZ))) V [26,25,24,10,3,1,0] [0] fun O=>Ye ?_))))
 refine Zk (σ:=(Nat)) [0,1,3,10,24,25] [0] (fun s=>[(26,.pv (.int .i64 (s:Int)))]) (fun s=>[]) (fun s=>s≤now.length∧(∀ q,q<s→((ZL OrdD.key l (OrdD.key (Nn now q))).isSome && !(ZL OrdD.key was (OrdD.key (Nn now q))).isSome)=false)) (fun s=>now.length - s) (0) O ⟨rfl,rfl,rfl,rfl,rfl,rfl,rfl,tv⟩ ⟨rfl,tv⟩ ⟨Yt _,fun q hq=>absurd hq (YJ q)⟩ ?_
 clear O;intro i a w F hC O
 try dsimp only at hC
 obtain ⟨F,O⟩:=O.nM [26,25,24,10,3,1,0] [0]
 try dsimp only at O
 obtain ⟨hi,hq⟩:=hC
 refine Ya (rZ O (qL r2) V [27,26,25,24,10,3,1,0] [0] fun O=>Ya ?_)
 refine Zc O Z (fun hc1=>?_) (fun hc1=>?_)
 ·have hil:i<now.length:=by simp at hc1;omega
  refine Yd (Za (Ya (Ye (Ya (Zb O (qy 2 YbQ r2 (qf (oR true 2 .t) r1 qz (qf (oH [.int .i64 0,.slice none 0 0] 101) trivial qz (qS 2 101 r2 r1 qZ)))) V [26,25,24,12,10,3,1,0] [101,0] (fun _=>rfl) (fun _=>rfl) fun τ a w F O=>?_)))))
  try dsimp only [RS.sub,SF.sub,CF.sub,csub,Anc.sub,List.map,Zd,xL,xM,Nat.reduceAdd,xD,xE,xT,xU,xC,xN,zCF,ldSF,Zl,rTx,Zv,ZY,Zs,rOp] at O
  generalize τ 12=v12 at O
  try simp only [Yg] at O
  refine Za (Ya (Zb O (qR rr (qR rr (qe 2 101 r1 r1 (qf (o_callClosP (avs:=[.agg (Zv (Nn now i))]) .t (ZiD (Nn now i)) func79 Z kr (Args.one (.pagg .t))) r2 qz (qR rr (qf (oP (Zi2 l (OrdD.key (Nn now i))) func142 (Args.three .t .t .t)) r3 qz (qR rr (qf (o_extract .t Z) r1 qz (qf (o_extract .t Z) r1 qz (qf (oH [.int .i64 0,.slice none 0 0] 102) trivial qz (qf (oA 2 102 .same (.conv .t .agg)) r2 r1 (qO rr qZ)))))))))))) V [26,25,24,14,12,10,3,1,0] [102,101,0] (fun _=>rfl) (fun _=>rfl) fun τ a w F O=>?_))
  try dsimp only [RS.sub,SF.sub,CF.sub,csub,Anc.sub,List.map,Zd,xL,xM,Nat.reduceAdd,xD,xE,xT,xU,xC,xN,zCF,ldSF,Zl,rTx,Zv,ZY,Zs,rOp] at O
  generalize τ 13=v13 at O
  refine Za (Ya (Zb O (qR rr (qR rr (qe 2 101 r1 r1 (qf (o_callClosP (avs:=[.agg (Zv (Nn now i))]) .t (ZiD (Nn now i)) func79 Z kr (Args.one (.pagg .t))) r2 qz (qR rr (qf (oP (Zi2 was (OrdD.key (Nn now i))) func142 (Args.three .t .t .t)) r3 qz (qR rr (qf (o_extract .t Z) r1 qz (qf (o_extract .t Z) r1 qz (qf (oH [.int .i64 0,.slice none 0 0] 103) trivial qz (qf (oA 2 103 .same (.conv .t .agg)) r2 r1 (qO rr qZ)))))))))))) V [26,25,24,16,14,10,3,1,0] [103,102,101,0] (fun _=>rfl) (fun _=>rfl) fun τ a w F O=>?_))
  try dsimp only [RS.sub,SF.sub,CF.sub,csub,Anc.sub,List.map,Zd,xL,xM,Nat.reduceAdd,xD,xE,xT,xU,xC,xN,zCF,ldSF,Zl,rTx,Zv,ZY,Zs,rOp] at O
  generalize τ 15=v15 at O
  refine Za (Ya (rZ O (qR rr (qR rr (qm Z Z Z Z (qk Z (fun h=>Z1 (.w h)) r2 qz (qf (ZJ .t .t) r2 qz qZ))))) V [52,26,25,24,10,3,1,0] [103,102,101,0] fun O=>?_))
  refine Zc O Z (fun hc2=>?_) (fun hc2=>?_)
  ·have h9:((ZL OrdD.key l (OrdD.key (Nn now i))).isSome && !(ZL OrdD.key was (OrdD.key (Nn now i))).isSome)=true:=hc2
   have hg:false=Zbj OrdD.key l was now:=by
    unfold Zbj
    rw [Y8,Bool.and_eq_false_iff]
    exact .inr (List.all_eq_false.2 ⟨_,ZU hil,by rw [h9];simp⟩)
   refine Ya (rZ O qB V [26,25,24,10,3,1,0] [103,102,101,0] fun O=>(Yh (Zr (Zf (Zf (Zr (Zf ?_)))))))
   refine ZB hfr O Z Z Z (.bool hg)
  have hne:((ZL OrdD.key l (OrdD.key (Nn now i))).isSome && !(ZL OrdD.key was (OrdD.key (Nn now i))).isSome)=false:=hc2
  refine Yd (Zi (Za (rZ O (qp r1 (qR rr qZ)) V [26,25,24,10,3,1,0] [103,102,101,0] fun O=>?_)))
  replace O:=O.ent (i:=26) (s':=.pv (.int .i64 ((i+1:Nat):Int))) Z (.int (Ze ow))
  obtain ⟨F,O⟩:=O.nM [25,24,10,3,1,0,26] [0]
  exact ⟨(i+1),F,⟨by omega,(fun q h9=>by rcases Yy (YD h9) with h8 | h8;exact hq q h8;rw [h8];exact hne)⟩,O,by omega⟩
 have hil:i=now.length:=by simp at hc1;omega
 have hg:true=Zbj OrdD.key l was now:=by
   unfold Zbj
   rw [YI hl0,Ybu,Y8,Yau]
   intro z hz
   obtain ⟨q,hq1,e⟩:=YH hz
   have h9:=hq q ow
   rw [Zy hq1,e] at h9
   rw [h9];rfl
 refine Ym (Zg (Zg (Zo (Za (Ya (rZ O qB V [10] [0] fun O=>Yh ?_))))))
 refine ZB hfr O Z Z Z (.bool hg)
theorem ZtZ (v:Value) (l:List TxD) (ka kb kn:Nat) (hll:l.length≤1000000) (h1:ka+kn≤kb) (h2:kb+kn≤l.length) (f:FuncId) (cps:List PV):FnG prog 282 1 [.is v,.int .i64 ka,.int .i64 kb,.int .i64 kn,.clos f cps] [ZO 36 3 rTx l v] (.tup []) (fun _=>[ZO 36 3 rTx (Zd9 l ka kb kn) v]):=by
 refine FnG.mk func282 Z ntmps282 Z kr fun B F0 a w F V hG O=>?_
 replace O:=O.turn 1 Z (r':=.ob (.val v) (ZO 36 3 rTx l)) (fun _ _ _ _ h=>h)
 refine Ya (rZ O (qI qZ) V [10,3,2,1,0] [1,0] fun O=>Ye ?_)
 have hc0:0≤kn∧l=Zd9 l ka kb 0:=⟨Yt _,(Zkk ow ow).symm⟩
 refine Zk (σ:=Nat×List TxD) [0,1,2,3] [0] (fun s=>[(10,.pv (.int .i64 (s.1:Int)))]) (fun s=>[(1,.ob (.val v) (ZO 36 3 rTx s.2))]) (fun s=>s.1≤kn∧s.2=Zd9 l ka kb s.1) (fun s=>kn - s.1) ((0),(l)) O ⟨rfl,rfl,rfl,rfl,rfl,tv⟩ ⟨rfl,rfl,tv⟩ hc0 ?_
 clear O;intro s a w F hC O
 obtain ⟨i,l1⟩:=s
 try dsimp only at hC
 obtain ⟨F,O⟩:=O.nM [10,3,2,1,0] [1,0]
 try dsimp only at O
 obtain ⟨hin,hl1⟩:=hC
 have hn1:l1.length=l.length:=by rw [hl1];exact Zcg ow ow
 have hwa:IntKind.wrap .i64 ((ka:Int)+(i:Int))=((ka+i:Nat):Int):=by rw [Zj ow];omega
 have hwb:IntKind.wrap .i64 ((kb:Int)+(i:Int))=((kb+i:Nat):Int):=by rw [Zj ow];omega
 refine Ya (Ya (rZ O (qR rr (qR rr (qL r2))) V [13,10,3,2,1,0] [1,0] fun O=>?_))
 refine Zc O Z (fun hc0=>?_) (fun hc0=>?_)
 ·have hil:i<kn:=by simp at hc0;omega
  refine Yd (Za (Ya (Ye (Zu O (qR rr (qR rr (qR rr (qf (o_add .t .t) r2 qz (qR rr (qR rr (qR rr (qf (o_add .t .t) r2 qz (qR rr (qR rr (qR rr (qf (o_add .t .t) r2 qz (qf (o_indexAddr_row (sz:=3) 1 (.mk YbP kr) .is .t (by rw [hwb];omega) (by rw [hwb];omega) (by rfl)) r2 r1 (qf (Zt (ag:=true) (sz':=3) (sz:=3) 1 .t (by intro x;rfl) (by rw [hwb];omega) kr kr kr) r1 r1 (qR rr (qR rr (qR rr (qf (o_add .t .t) r2 qz (qf (o_indexAddr_row (sz:=3) 1 (.mk YbP kr) .is .t (by rw [hwa];omega) (by rw [hwa];omega) (by rfl)) r2 r1 (qf (Zt (ag:=true) (sz':=3) (sz:=3) 1 .t (by intro x;rfl) (by rw [hwa];omega) kr kr kr) r1 r1 (qf (o_indexAddr_row (sz:=3) 1 (.mk YbP kr) .is .t (by rw [hwa];omega) (by rw [hwa];omega) (by rfl)) r2 r1 (qf (Z0 (sz:=3) 1 .t (by intro x;rfl) (by rw [hwa];omega) (.conv .t (Ent.aggU (l:=rTx (Nn l1 (IntKind.wrap .i64 ((kb:Int)+(i:Int))).toNat)) Z Z)) kr) r2 r1 (qf (o_indexAddr_row (sz:=3) 1 (.mk YbP kr) .is .t (by rw [hwb];omega) (by rw [YN,hwb];omega) (by rfl)) r2 r1 (qf (Z0 (sz:=3) 1 .t (by intro x;rfl) (by rw [YN,hwb];omega) (.conv .t (Ent.aggU (l:=rTx (Nn l1 (IntKind.wrap .i64 ((ka:Int)+(i:Int))).toNat)) Z Z)) kr) r2 r1 qZ)))))))))))))))))))))))) V [10,3,2,1,0] [1,0] Z Z fun a w F O=>?_))))
  try dsimp only [List.map,Zd,xL,xM,Nat.reduceAdd,xD,xE,xT,xU,xC,xN,zCF,ldSF,rTx] at O
  try simp only [Yg] at O
  rw [hwa,hwb] at O
  simp only [Yg] at O
  obtain ⟨l2,hl2⟩:∃ z,z=Zd9 l ka kb (i+1):=⟨_,rfl⟩
  rw [show (l1.set (ka+i) (Nn l1 (kb+i))).set (kb+i) (Nn l1 (ka+i))=l2 from by rw [hl2,← ZjJ (n:=kn) hil h1 h2,← hl1];rfl] at O
  refine Zi (Za (rZ O (qR rr (qp r1 (qO rr qZ))) V [10,3,2,1,0] [1,0] fun O=>?_))
  replace O:=O.ent (i:=10) (s':=.pv (.int .i64 ((i+1:Nat):Int))) Z (.int (Ze ow))
  obtain ⟨F,O⟩:=O.nM [3,2,1,0,10] [0,1]
  exact ⟨((i+1),(l2)),F,⟨by omega,hl2⟩,O,by omega⟩
 have hg:Zd9 l ka kb kn=l1:=by rw [hl1,show i=kn by simp at hc0;omega]
 refine Ym (Zg (Zg (Zo ?_)))
 have O:=O.turn 1 Z (r':=RS.hp (ZO 36 3 rTx (Zd9 l ka kb kn) v)) (fun _ _ _ _ h=>by rw [hg];exact h)
 refine ZE hG O Z .nil .none rfl
theorem ZsU (v : Value) (l : List TxD) (ka kb : Nat) (hll : l.length ≤ 1000000) (h1 : ka ≤ kb) (h2 : kb ≤ l.length) (hu : Unl TxD.id l) (f : FuncId) (fn : Func) (cps : List PV) (hf : prog.funcs[f]? = some fn) (hbd : fn.body.isSome = true) (hnn : (fn.name == "runtime.NumGoroutine") = false) (hw : ∀ x y : TxD, FnP prog f (.agg (rTx x) :: .agg (rTx y) :: cps) (.int .i64 (Zdl (TxD.id x) (TxD.id y)))) : FnG prog 272 1 [.is v, .int .i64 ka, .int .i64 kb, .clos f cps] [ZO 36 3 rTx l v] (.tup []) (fun _ => [ZO 36 3 rTx (Zw TxD.id l ka kb) v]) := by
 refine FnG.mk func272 Z ntmps272 Z kr fun B F0 a w F V hG O=>?_
 replace O:=O.turn 1 Z (r':=.ob (.val v) (ZO 36 3 rTx l)) (fun _ _ _ _ h=>h)
 refine Ya (rZ O (qR rr (qp r1 (qO rr qZ))) V [8,3,2,1,0] [1,0] fun O=>Ye ?_)
 have hc0:ka<ka+1∧(ka+1≤kb∧l=Zw TxD.id l ka (ka+1)∨kb≤ka∧l=l):=⟨by omega,by rcases Yag ka kb with h | h;exact .inl ⟨h,(sortSeg_one l ow).symm⟩;exact .inr ⟨h,rfl⟩⟩
 replace O:=O.ent (i:=8) (s':=.pv (.int .i64 ((ka+1:Nat):Int))) Z (.int (Ze ow))
 refine Zk (σ:=Nat×List TxD) [0,1,2,3] [0] (fun s=>[(8,.pv (.int .i64 (s.1:Int)))]) (fun s=>[(1,.ob (.val v) (ZO 36 3 rTx s.2))]) (fun s=>ka<s.1∧(s.1≤kb∧s.2=Zw TxD.id l ka s.1∨kb≤ka∧s.2=l)) (fun s=>kb - s.1) ((ka+1),(l)) O ⟨rfl,rfl,rfl,rfl,rfl,tv⟩ ⟨rfl,rfl,tv⟩ hc0 ?_
 clear O;intro s a w F hC O
 obtain ⟨i,l1⟩:=s
 try dsimp only at hC
 obtain ⟨F,O⟩:=O.nM [8,3,2,1,0] [1,0]
 try dsimp only at O
 obtain ⟨hai,hq⟩:=hC
 refine Ya (Ya (rZ O (qR rr (qR rr (qL r2))) V [14,8,3,2,1,0] [1,0] fun O=>?_))
 refine Zc O Z (fun hc0=>?_) (fun hc0=>?_)
 ·skip
  have hib:i<kb:=by simp at hc0;omega
  have hl1:l1=Zw TxD.id l ka i:=by rcases hq with hq | hq;exact hq.2;omega
  have hn1:l1.length=l.length:=by rw [hl1];exact Z9 ow
  refine Yd (Za (Ya (Ye (Ya (rZ O (qR rr (qO rr qZ)) V [9,8,3,2,1,0] [1,0] fun O=>Ye ?_)))))
  have hc1:ka≤i∧i≤i∧l1=Zf6 l1 i i ∧ ∀ q,i≤q→q<i→TxD.id (Nn l1 i)<TxD.id (Nn l1 q):=⟨by omega,YA _,(ZeT ow).symm,fun q h1 h2=>by omega⟩
  refine Zk (σ:=Nat×List TxD) [0,1,2,3,8] [0] (fun s=>[(9,.pv (.int .i64 (s.1:Int)))]) (fun s=>[(1,.ob (.val v) (ZO 36 3 rTx s.2))]) (fun s=>ka≤s.1∧s.1≤i∧s.2=Zf6 l1 s.1 i ∧ ∀ q,s.1≤q→q<i→TxD.id (Nn l1 i)<TxD.id (Nn l1 q)) (fun s=>s.1) ((i),(l1)) O ⟨rfl,rfl,rfl,rfl,rfl,rfl,tv⟩ ⟨rfl,rfl,tv⟩ hc1 ?_
  clear O;intro s a w F hC O
  obtain ⟨j,l2⟩:=s
  try dsimp only at hC
  obtain ⟨F,O⟩:=O.nM [9,8,3,2,1,0] [1,0]
  try dsimp only at O
  obtain ⟨haj,hji,hl2,hgt⟩:=hC
  have hn2:l2.length=l.length:=by rw [hl2,Zce hji ow];exact hn1
  have hx0:Nn l2 j=Nn l1 i:=by rw [hl2,Zcc hji ow,Yf rfl]
  have hx1:ka<j→Nn l2 (j - 1)=Nn l1 (j - 1):=fun h=>by rw [hl2,Zcc hji ow,Yb ow,Yb ow]
  have hwj:ka<j→IntKind.wrap .i64 ((j:Int) - 1)=((j - 1:Nat):Int):=fun h=>by rw [Zj ow];omega
  refine Ya (Ya (Zu O (qR rr (qR rr (qf (Zal .t .t) r2 qz (qR rr (qm Z Z Z Z (qm Z Z Z Z (qm Z Z Z Z (qk Z (fun h=>o_indexAddr_row (sz:=3) 1 (.mk YbP kr) (.w h .is) (.w h) ow ow (by rfl)) r3 r1 (qk Z (fun h=>Zt (ag:=true) (sz':=3) (sz:=3) 1 (.w h) (by intro x;rfl) ow kr kr kr) r2 r1 (qm Z Z Z Z (qm Z Z Z Z (qk Z (fun h=>o_sub (.w h) qi) r2 qz (qk Z (fun h=>o_indexAddr_row (sz:=3) 1 (.mk YbP kr) (.w h .is) (.w h) (by have h9:=YV h;rw [hwj ow];omega) (by have h9:=YV h;rw [hwj ow];omega) (by rfl)) r3 r1 (qk Z (fun h=>Zt (ag:=true) (sz':=3) (sz:=3) 1 (.w h) (by intro x;rfl) (by have h9:=YV h;rw [hwj ow];omega) kr kr kr) r2 r1 (qk Z (fun h=>o_callClosP (avs:=[.agg (rTx (Nn l2 ((j:Int)).toNat)),.agg (rTx (Nn l2 (IntKind.wrap .i64 ((j:Int) - 1)).toNat))]) (.w h) (hw (Nn l2 ((j:Int)).toNat) (Nn l2 (IntKind.wrap .i64 ((j:Int) - 1)).toNat)) hf hbd hnn (Args.two (.pagg (.w h)) (.pagg (.w h)))) r4 qz (qk Z (fun h=>ZaR (.w h) qi) r2 qz (qf (ZJ .t .t) r2 qz qZ))))))))))))))))) V [34,9,8,3,2,1,0] [1,0] Z Z fun a w F O=>?_))
  try dsimp only [List.map,xD,xE,xT,xU,ldSF,rTx] at O
  try simp only [Yg] at O
  refine Za (Zc O Z (fun hc1=>?_) (fun hc1=>?_))
  ·skip
   obtain ⟨haj2,h9⟩:ka<j∧Zdl (TxD.id (Nn l2 j)) (TxD.id (Nn l2 (IntKind.wrap .i64 ((j:Int) - 1)).toNat))<0:=by simpa using hc1
   rw [hwj haj2,Yg,hx0,hx1 haj2] at h9
   have h9:=Zba.1 h9
   have hgt3:∀ q,j - 1≤q→q<i→TxD.id (Nn l1 i)<TxD.id (Nn l1 q):=fun q h1 h2=>by rcases Yag q j with h | h;rw [show q=j - 1 by omega];exact h9;exact hgt q h h2
   refine Yd (Za (Ya (Ye (Zu O (qR rr (qR rr (qR rr (qR rr (qf (o_sub .t qi) r1 qz (qR rr (qR rr (qf (o_sub .t qi) r1 qz (qf (o_indexAddr_row (sz:=3) 1 (.mk YbP kr) .is .t (by rw [hwj haj2];omega) (by rw [hwj haj2];omega) (by rfl)) r2 r1 (qf (Zt (ag:=true) (sz':=3) (sz:=3) 1 .t (by intro x;rfl) (by rw [hwj haj2];omega) kr kr kr) r1 r1 (qR rr (qR rr (qf (o_indexAddr_row (sz:=3) 1 (.mk YbP kr) .is .t ow ow (by rfl)) r2 r1 (qf (Zt (ag:=true) (sz':=3) (sz:=3) 1 .t (by intro x;rfl) ow kr kr kr) r1 r1 (qf (o_indexAddr_row (sz:=3) 1 (.mk YbP kr) .is .t ow ow (by rfl)) r2 r1 (qf (Z0 (sz:=3) 1 .t (by intro x;rfl) ow (.conv .t (Ent.aggU (l:=rTx (Nn l2 (IntKind.wrap .i64 ((j:Int) - 1)).toNat)) Z Z)) kr) r2 r1 (qf (o_indexAddr_row (sz:=3) 1 (.mk YbP kr) .is .t (by rw [hwj haj2];omega) (by rw [YN,hwj haj2];omega) (by rfl)) r2 r1 (qf (Z0 (sz:=3) 1 .t (by intro x;rfl) (by rw [YN,hwj haj2];omega) (.conv .t (Ent.aggU (l:=rTx (Nn l2 ((j:Int)).toNat)) Z Z)) kr) r2 r1 qZ)))))))))))))))))) V [9,8,3,2,1,0] [1,0] Z Z fun a w F O=>?_))))
   try dsimp only [List.map,Zd,xL,xM,Nat.reduceAdd,xD,xE,xT,xU,xC,xN,zCF,ldSF,rTx] at O
   try simp only [Yg] at O
   rw [hwj haj2] at O
   simp only [Yg] at O
   obtain ⟨l3,hl3⟩:∃ z,z=Zf6 l1 (j - 1) i:=⟨_,rfl⟩
   rw [show (l2.set j (Nn l2 (j - 1))).set (j - 1) (Nn l2 j)=l3 from by rw [hl3,← ZeV ow hji ow,← hl2];rfl] at O
   refine Zi (Za (rZ O (qR rr (qf (o_sub .t qi) r1 qz (qO rr qZ))) V [9,8,3,2,1,0] [1,0] fun O=>?_))
   replace O:=O.ent (i:=9) (s':=.pv (.int .i64 ((j - 1:Nat):Int))) Z (.int (hwj haj2))
   obtain ⟨F,O⟩:=O.nM [8,3,2,1,0,9] [0,1]
   exact ⟨((j - 1),(l3)),F,⟨by omega,by omega,hl3,hgt3⟩,O,by omega⟩
  have h9:¬ (ka<j∧Zdl (TxD.id (Nn l2 j)) (TxD.id (Nn l2 (IntKind.wrap .i64 ((j:Int) - 1)).toNat))<0):=by simpa using hc1
  have hend:l2=Zw TxD.id l ka (i+1):=by
    rw [hl2]
    refine ZkJ haj hji ow (ZfI hu _ _) hl1 ?_ hgt
    rcases Yag ka j with h | h
    · refine .inr (Zf2 (Zav (κ:=TxD.id) (a:=ka) (b:=i) ow hu |> fun z=>(by rw [hl1];exact z:Unl TxD.id l1)) (i:=i) (j:=j - 1) ow ow ow fun h8=>h9 ⟨h,?_⟩)
      rw [hwj h,Yg,hx0,hx1 h]
      exact Zba.2 h8
    · exact .inl ow
  refine Ym (Zg (Zg (Zo (Zi (Za (rZ O (qR rr (qp r1 (qO rr qZ))) V [8,3,2,1,0] [1,0] fun O=>?_))))))
  replace O:=O.ent (i:=8) (s':=.pv (.int .i64 ((i+1:Nat):Int))) Z (.int (Ze ow))
  obtain ⟨F,O⟩:=O.nM [3,2,1,0,8] [0,1]
  exact ⟨((i+1),(l2)),F,⟨by omega,.inl ⟨by omega,hend⟩⟩,O,by omega⟩
 have hg:Zw TxD.id l ka kb=l1:=by
   rcases hq with hq | hq
   · rw [hq.2,show i=kb by simp at hc0;omega]
   · rw [hq.2,show kb=ka by omega];exact Zbr (YA _) (by rw [ZfN];exact List.Pairwise.nil)
 refine Ym (Zg (Zg (Zo ?_)))
 have O:=O.turn 1 Z (r':=RS.hp (ZO 36 3 rTx (Zw TxD.id l ka kb) v)) (fun _ _ _ _ h=>by rw [hg];exact h)
 refine ZE hG O Z .nil .none rfl
theorem Zun (v:Value) (l:List TxD) (ka km kb:Nat) (hll:l.length≤1000000) (h1:ka<km) (h2:km<kb) (h3:kb≤l.length) (f:FuncId) (cps:List PV):FnG prog 280 1 [.is v,.int .i64 ka,.int .i64 km,.int .i64 kb,.clos f cps] [ZO 36 3 rTx l v] (.tup []) (fun _=>[ZO 36 3 rTx (Z2 l ka km kb) v]):=by
 refine FnG.mk func280 Z ntmps280 Z kr fun B F0 a w F V hG O=>?_
 replace O:=O.turn 1 Z (r':=.ob (.val v) (ZO 36 3 rTx l)) (fun _ _ _ _ h=>h)
 refine Ya (rZ O (qR rr (qR rr (qf (o_sub .t .t) r2 qz (qO rr qZ)))) V [10,4,3,2,0] [1,0] fun O=>Ya ?_)
 refine rZ O (qR rr (qR rr (qf (o_sub .t .t) r2 qz (qO rr qZ)))) V [11,10,4,2,0] [1,0] fun O=>(Ya (Ye ?_))
 have hc0:0<km - ka∧0<kb - km∧ka+(km - ka)≤km∧km+(kb - km)≤kb∧l.length=l.length∧Z2 l (km - (km - ka)) km (km+(kb - km))=Z2 l ka km kb:=⟨by omega,by omega,by omega,by omega,rfl,by rw [show km - (km - ka)=ka by omega,show km+(kb - km)=kb by omega]⟩
 replace O:=O.ent (i:=10) (s':=.pv (.int .i64 ((km - ka:Nat):Int))) Z (.int (by rw [Zj ow];omega))
 replace O:=O.ent (i:=11) (s':=.pv (.int .i64 ((kb - km:Nat):Int))) Z (.int (by rw [Zj ow];omega))
 refine Zk (σ:=Nat×Nat×List TxD) [0,2,4] [0] (fun s=>[(10,.pv (.int .i64 (s.1:Int))),(11,.pv (.int .i64 (s.2.1:Int)))]) (fun s=>[(1,.ob (.val v) (ZO 36 3 rTx s.2.2))]) (fun s=>0<s.1∧0<s.2.1∧ka+s.1≤km∧km+s.2.1≤kb∧s.2.2.length=l.length∧Z2 s.2.2 (km - s.1) km (km+s.2.1)=Z2 l ka km kb) (fun s=>s.1+s.2.1) ((km - ka),(kb - km),(l)) O ⟨rfl,rfl,rfl,rfl,rfl,tv⟩ ⟨rfl,rfl,tv⟩ hc0 ?_
 clear O;intro s a w F hC O
 obtain ⟨i,j,l1⟩:=s
 try dsimp only at hC
 obtain ⟨F,O⟩:=O.nM [11,10,4,2,0] [1,0]
 try dsimp only at O
 obtain ⟨hi0,hj0,hia,hjb,hn1,hq⟩:=hC
 have hwm:IntKind.wrap .i64 ((km:Int) - (i:Int))=((km - i:Nat):Int):=by rw [Zj ow];omega
 have hwn:i≤km+j→IntKind.wrap .i64 (IntKind.wrap .i64 ((km:Int)+(j:Int)) - (i:Int))=((km+j - i:Nat):Int):=fun h=>by rw [Zj (x:=(km:Int)+(j:Int)) ow,Zj ow];omega
 refine Ya (Ya (rZ O (qR rr (qR rr (qf (o_neq .t .t) r2 qz qZ))) V [20,11,10,4,2,0] [1,0] fun O=>?_))
 refine Zc O Z (fun hc0=>?_) (fun hc0=>?_)
 ·have hij:i≠j:=by simp at hc0;omega
  refine Yd (Za (Ye (Ya (rZ O (qR rr (qR rr (qf (Zal .t .t) r2 qz qZ))) V [23,11,10,4,2,0] [1,0] fun O=>?_))))
  refine Zc O Z (fun hc1=>?_) (fun hc1=>?_)
  ·have hlt:j<i:=by simp at hc1;omega
   obtain ⟨i2,i2e⟩:∃ z,z=i - j:=⟨_,rfl⟩
   obtain ⟨j2,j2e⟩:∃ z,z=j:=⟨_,rfl⟩
   obtain ⟨l2,l2e⟩:∃ z,z=Zd9 l1 (km - i) km j:=⟨_,rfl⟩
   have hi2:IntKind.wrap .i64 ((i:Int) - (j:Int))=(i2:Int):=by rw [Zj ow];omega
   have hj2:(j:Int)=(j2:Int):=by rw [j2e]
   have hmu:i2+j2<i+j:=by omega
   have hC2:0<i2∧0<j2∧ka+i2≤km∧km+j2≤kb∧l2.length=l.length∧Z2 l2 (km - i2) km (km+j2)=Z2 l ka km kb:=⟨by omega,by omega,by omega,by omega,by rw [l2e,Zcg ow ow,hn1],by rw [← hq,← Zon (l:=l1) (s:=km - i) (m:=km) (e:=km+j) (j:=j) ow rfl ow,l2e,j2e,show km - i2=km - i+j by omega]⟩
   refine Ya (Zh O (qR rr (qR rr (qR rr (qf (o_sub .t .t) r2 qz (qR rr (qR rr (qR rr (qf (ZW 1 (ZtZ v l1 (km - i) km j ow ow ow f cps) func282 Z kr (Args.five .t (.conv .t (.int hwm)) .t .t .t)) r5 r1 qZ)))))))) V [11,10,4,2,0] [1,0] Z Z fun a w F O=>?_)
   rw [← l2e] at O
   refine Za (Zh O (qR rr (qR rr (qf (o_sub .t .t) r2 qz (qO rr qZ)))) V [11,10,4,2,0] [1,0] Z Z fun a w F O=>Zi (Za ?_))
   replace O:=O.ent (i:=10) (s':=.pv (.int .i64 (i2:Int))) Z (.int hi2)
   replace O:=O.ent (i:=11) (s':=.pv (.int .i64 (j2:Int))) Z (.int hj2)
   obtain ⟨F,O⟩:=O.nM [4,2,0,11,10] [0,1]
   exact ⟨((i2),(j2),(l2)),F,hC2,O,hmu⟩
  have hlt:i<j:=by simp at hc1;omega
  obtain ⟨i2,i2e⟩:∃ z,z=i:=⟨_,rfl⟩
  obtain ⟨j2,j2e⟩:∃ z,z=j - i:=⟨_,rfl⟩
  obtain ⟨l2,l2e⟩:∃ z,z=Zd9 l1 (km - i) (km+j - i) i:=⟨_,rfl⟩
  have hi2:(i:Int)=(i2:Int):=by rw [i2e]
  have hj2:IntKind.wrap .i64 ((j:Int) - (i:Int))=(j2:Int):=by rw [Zj ow];omega
  have hmu:i2+j2<i+j:=by omega
  have hC2:0<i2∧0<j2∧ka+i2≤km∧km+j2≤kb∧l2.length=l.length∧Z2 l2 (km - i2) km (km+j2)=Z2 l ka km kb:=⟨by omega,by omega,by omega,by omega,by rw [l2e,Zcg ow ow,hn1],by rw [← hq,← Zow (l:=l1) (s:=km - i) (m:=km) (e:=km+j) (i:=i) ow ow ow,l2e,i2e,show km+j2=km+j - i by omega]⟩
  refine Ya (Zh O (qR rr (qR rr (qR rr (qf (o_sub .t .t) r2 qz (qR rr (qR rr (qf (o_add .t .t) r2 qz (qR rr (qf (o_sub .t .t) r2 qz (qR rr (qR rr (qf (ZW 1 (ZtZ v l1 (km - i) (km+j - i) i ow ow ow f cps) func282 Z kr (Args.five .t (.conv .t (.int hwm)) (.conv .t (.int (hwn ow))) .t .t)) r5 r1 qZ)))))))))))) V [11,10,4,2,0] [1,0] Z Z fun a w F O=>?_)
  rw [← l2e] at O
  refine Za (Zh O (qR rr (qR rr (qf (o_sub .t .t) r2 qz (qO rr qZ)))) V [11,10,4,2,0] [1,0] Z Z fun a w F O=>Zi (Za ?_))
  replace O:=O.ent (i:=10) (s':=.pv (.int .i64 (i2:Int))) Z (.int hi2)
  replace O:=O.ent (i:=11) (s':=.pv (.int .i64 (j2:Int))) Z (.int hj2)
  obtain ⟨F,O⟩:=O.nM [4,2,0,11,10] [0,1]
  exact ⟨((i2),(j2),(l2)),F,hC2,O,hmu⟩
 have hij:i=j:=by simp at hc0;omega
 have hg:Z2 l ka km kb=Zd9 l1 (km - i) km i:=by rw [← hq,← hij];exact (ZpB ow rfl ow).symm
 refine Ym (Zg (Zg (Zo (Za (Zh O (qR rr (qR rr (qR rr (qf (o_sub .t .t) r2 qz (qR rr (qR rr (qR rr (qf (ZW 1 (ZtZ v l1 (km - i) km i ow ow ow f cps) func282 Z kr (Args.five .t (.conv .t (.int hwm)) .t .t .t)) r5 r1 qZ)))))))) V [] [1,0] Z Z fun a w F O=>?_)))))
 have O:=O.turn 1 Z (r':=RS.hp (ZO 36 3 rTx (Z2 l ka km kb) v)) (fun _ _ _ _ h=>by rw [hg];exact h)
 refine ZE hG O Z .nil .none rfl
theorem symST (v : Value) (l : List TxD) (ka km kb : Nat) (hll : l.length ≤ 1000000) (h1 : ka < km) (h2 : km < kb) (h3 : kb ≤ l.length) (hu : Unl TxD.id l) (hx : Z5 TxD.id (seg l ka km)) (hy : Z5 TxD.id (seg l km kb)) (f : FuncId) (fn : Func) (cps : List PV) (hf : prog.funcs[f]? = some fn) (hbd : fn.body.isSome = true) (hnn : (fn.name == "runtime.NumGoroutine") = false) (hw : ∀ x y : TxD, FnP prog f (.agg (rTx x) :: .agg (rTx y) :: cps) (.int .i64 (Zdl (TxD.id x) (TxD.id y)))) (n : Nat) (ih : ∀ (l : List TxD) (ka km kb : Nat), kb - ka < n → l.length ≤ 1000000 → ka < km → km < kb → kb ≤ l.length → Unl TxD.id l → Z5 TxD.id (seg l ka km) → Z5 TxD.id (seg l km kb) → FnG prog 273 1 [.is v, .int .i64 (ka : Nat), .int .i64 (km : Nat), .int .i64 (kb : Nat), .clos f cps] [ZO 36 3 rTx l v] (.tup []) (fun _ => [ZO 36 3 rTx (Zw TxD.id l ka kb) v])) (hn : kb - ka < n + 1) : FnG prog 273 1 [.is v, .int .i64 ka, .int .i64 km, .int .i64 kb, .clos f cps] [ZO 36 3 rTx l v] (.tup []) (fun _ => [ZO 36 3 rTx (Zw TxD.id l ka kb) v]) := by
 refine FnG.mk func273 Z ntmps273 Z kr fun B F0 a w F V hG O=>?_
 replace O:=O.turn 1 Z (r':=.ob (.val v) (ZO 36 3 rTx l)) (fun _ _ _ _ h=>h)
 obtain ⟨hx9,hy9⟩:(∀ i j,ka≤i→i<j→j<km→TxD.id (Nn l i)<TxD.id (Nn l j)) ∧ ∀ i j,km≤i→i<j→j<kb→TxD.id (Nn l i)<TxD.id (Nn l j):=⟨(Zen (κ:=TxD.id) ow).1 hx,(Zen (κ:=TxD.id) ow).1 hy⟩
 refine Ya (Ya (rZ O (qR rr (qR rr (qf (o_sub .t .t) r2 qz (qf (o_eql .t qi) r1 qz qZ)))) V [28,4,3,2,1,0] [1,0] fun O=>?_))
 refine Zc O Z (fun hc0=>?_) (fun hc0=>?_)
 ·skip
  have hm1:km=ka+1:=by have h9:=hc0;rw [Zj ow] at h9;simp at h9;omega
  refine Ya (rZ O (qR rr (qO rr qZ)) V [10,4,3,2,1,0] [1,0] fun O=>Ya ?_)
  refine rZ O (qR rr (qO rr qZ)) V [11,10,4,3,2,1,0] [1,0] fun O=>(Ya (Ye ?_))
  have hc0:km≤km∧km≤kb∧kb≤kb∧(∀ q,km≤q→q<km→TxD.id (Nn l q)<TxD.id (Nn l ka)) ∧ ∀ q,kb≤q→q<kb→TxD.id (Nn l ka)<TxD.id (Nn l q):=⟨YA _,by omega,YA _,fun q h1 h2=>by omega,fun q h1 h2=>by omega⟩
  refine Zk (σ:=Nat×Nat) [0,1,2,3,4] [0,1] (fun s=>[(10,.pv (.int .i64 (s.1:Int))),(11,.pv (.int .i64 (s.2:Int)))]) (fun s=>[]) (fun s=>km≤s.1∧s.1≤s.2∧s.2≤kb∧(∀ q,km≤q→q<s.1→TxD.id (Nn l q)<TxD.id (Nn l ka)) ∧ ∀ q,s.2≤q→q<kb→TxD.id (Nn l ka)<TxD.id (Nn l q)) (fun s=>s.2 - s.1) ((km),(kb)) O ⟨rfl,rfl,rfl,rfl,rfl,rfl,rfl,tv⟩ ⟨rfl,rfl,tv⟩ hc0 ?_
  clear O;intro s a w F hC O
  obtain ⟨i,j⟩:=s
  try dsimp only at hC
  obtain ⟨F,O⟩:=O.nM [11,10,4,3,2,1,0] [1,0]
  try dsimp only at O
  obtain ⟨hki,hij,hjk,hlo,hhi⟩:=hC
  refine Ya (Ya (rZ O (qR rr (qR rr (qL r2))) V [33,11,10,4,3,2,1,0] [1,0] fun O=>?_))
  refine Zc O Z (fun hc1=>?_) (fun hc1=>?_)
  ·skip
   have hlt:i<j:=by simp at hc1;omega
   refine Yd (Za (Ye (Ya (Zh O (qR rr (qR rr (qf (o_add .t .t) r2 qz (qf (Za0 YbY kr .t) r1 qz (qf (Zjq .t qi (by decide)) r1 qz (qf (Za0 YbS kr .t) r1 qz (qO rr qZ))))))) V [12,11,10,4,3,2,1,0] [1,0] Z Z fun a w F O=>?_))))
   obtain ⟨m,hmm⟩:∃ m:Nat,m=(i+j) / 2:=⟨_,rfl⟩
   replace O:=O.ent (i:=12) (s':=.pv (.int .i64 (m:Int))) Z (.int (by rw [hmm];exact Zdr ow))
   obtain ⟨F,O⟩:=O.nM [12,11,10,4,3,2,1,0] [1,0]
   refine Za (Ya (Zu O (qR rr (qR rr (qR rr (qf (o_indexAddr_row (sz:=3) 1 (.mk YbP kr) .is .t ow ow (by rfl)) r2 r1 (qf (Zt (ag:=true) (sz':=3) (sz:=3) 1 .t (by intro x;rfl) ow kr kr kr) r1 r1 (qR rr (qR rr (qf (o_indexAddr_row (sz:=3) 1 (.mk YbP kr) .is .t ow ow (by rfl)) r2 r1 (qf (Zt (ag:=true) (sz':=3) (sz:=3) 1 .t (by intro x;rfl) ow kr kr kr) r1 r1 (qf (o_callClosP (avs:=[.agg (rTx (Nn l ((m:Int)).toNat)),.agg (rTx (Nn l ((ka:Int)).toNat))]) .t (hw (Nn l ((m:Int)).toNat) (Nn l ((ka:Int)).toNat)) hf hbd hnn (Args.two (.pagg .t) (.pagg .t))) r3 qz (qf (ZaR .t qi) r1 qz qZ))))))))))) V [50,12,11,10,4,3,2,1,0] [1,0] Z Z fun a w F O=>?_))
   try dsimp only [List.map,xD,xE,xT,xU,ldSF,rTx] at O
   try simp only [Yg] at O
   refine Za (Zc O Z (fun hc2=>?_) (fun hc2=>?_))
   ·skip
    have h9:Zdl (TxD.id (Nn l m)) (TxD.id (Nn l ka))<0:=by simpa using hc2
    have h8:=Zba.1 h9
    obtain ⟨i2,hi2e⟩:∃ z,z=m+1:=⟨_,rfl⟩
    obtain ⟨j2,hj2e⟩:∃ z,z=j:=⟨_,rfl⟩
    have hi2:IntKind.wrap .i64 ((m:Int)+1)=(i2:Int):=by rw [hi2e];exact Ze ow
    have hj2:(j:Int)=(j2:Int):=by rw [hj2e]
    have hmu:j2 - i2<j - i:=by omega
    have hC2:km≤i2∧i2≤j2∧j2≤kb∧(∀ q,km≤q→q<i2→TxD.id (Nn l q)<TxD.id (Nn l ka)) ∧ ∀ q,j2≤q→q<kb→TxD.id (Nn l ka)<TxD.id (Nn l q):=⟨by omega,by omega,by omega,fun q h1 h2=>by rcases Yag q m with h | h;exact Ybb (hy9 q m h1 h ow) h8;rw [show q=m by omega];exact h8,by rw [hj2e];exact hhi⟩
    refine Zh O (qR rr (qp r1 (qO rr qZ))) V [11,10,4,3,2,1,0] [1,0] Z Z fun a w F O=>Zi (Za ?_)
    replace O:=O.ent (i:=10) (s':=.pv (.int .i64 (i2:Int))) Z (.int hi2)
    replace O:=O.ent (i:=11) (s':=.pv (.int .i64 (j2:Int))) Z (.int hj2)
    obtain ⟨F,O⟩:=O.nM [4,3,2,1,0,11,10] [1,0]
    exact ⟨((i2),(j2)),F,hC2,O,hmu⟩
   have h9:¬ Zdl (TxD.id (Nn l m)) (TxD.id (Nn l ka))<0:=by simpa using hc2
   have h8:=Zf2 hu (i:=m) (j:=ka) ow ow ow (fun e=>h9 (Zba.2 e))
   obtain ⟨i2,hi2e⟩:∃ z,z=i:=⟨_,rfl⟩
   obtain ⟨j2,hj2e⟩:∃ z,z=m:=⟨_,rfl⟩
   have hi2:(i:Int)=(i2:Int):=by rw [hi2e]
   have hj2:(m:Int)=(j2:Int):=by rw [hj2e]
   have hmu:j2 - i2<j - i:=by omega
   have hC2:km≤i2∧i2≤j2∧j2≤kb∧(∀ q,km≤q→q<i2→TxD.id (Nn l q)<TxD.id (Nn l ka)) ∧ ∀ q,j2≤q→q<kb→TxD.id (Nn l ka)<TxD.id (Nn l q):=⟨by omega,by omega,by omega,by rw [hi2e];exact hlo,fun q h1 h2=>by rcases Yag m q with h | h;exact Ybb h8 (hy9 m q ow h h2);rw [show q=m by omega];exact h8⟩
   refine Zh O (qR rr (qO rr qZ)) V [11,10,4,3,2,1,0] [1,0] Z Z fun a w F O=>Zi (Za ?_)
   replace O:=O.ent (i:=10) (s':=.pv (.int .i64 (i2:Int))) Z (.int hi2)
   replace O:=O.ent (i:=11) (s':=.pv (.int .i64 (j2:Int))) Z (.int hj2)
   obtain ⟨F,O⟩:=O.nM [4,3,2,1,0,11,10] [1,0]
   exact ⟨((i2),(j2)),F,hC2,O,hmu⟩
  have hjj:i=j:=by simp at hc1;omega
  have hg1:Zj6 l ka (i - 1)=Zw TxD.id l ka kb:=ZjI ow ow ow (by rw [← hm1];exact hy) (by rw [← hm1];exact hlo) (by rw [hjj];exact hhi)
  refine Ym (Zg (Zg (Zo (Za (Ya (Ya (rZ O (qR rr (qO rr qZ)) V [13,10,4,3,2,1,0] [1,0] fun O=>Ye ?_)))))))
  have hc1:ka≤ka∧ka+1≤i∧l=Zj6 l ka ka:=⟨YA _,by omega,(Zkp ow).symm⟩
  refine Zk (σ:=Nat×List TxD) [0,1,2,3,4,10] [0] (fun s=>[(13,.pv (.int .i64 (s.1:Int)))]) (fun s=>[(1,.ob (.val v) (ZO 36 3 rTx s.2))]) (fun s=>ka≤s.1∧s.1+1≤i∧s.2=Zj6 l ka s.1) (fun s=>i - s.1) ((ka),(l)) O ⟨rfl,rfl,rfl,rfl,rfl,rfl,rfl,tv⟩ ⟨rfl,rfl,tv⟩ hc1 ?_
  clear O;intro s a w F hC O
  obtain ⟨k,l1⟩:=s
  try dsimp only at hC
  obtain ⟨F,O⟩:=O.nM [13,10,4,3,2,1,0] [1,0]
  try dsimp only at O
  obtain ⟨hka,hki2,hl1⟩:=hC
  have hn1:l1.length=l.length:=by rw [hl1];exact Zdh hka ow
  have hwk:IntKind.wrap .i64 ((k:Int)+1)=((k+1:Nat):Int):=Ze ow
  have hwi:IntKind.wrap .i64 ((i:Int) - 1)=((i - 1:Nat):Int):=by rw [Zj ow];omega
  refine Ya (Ya (rZ O (qR rr (qR rr (qf (o_sub .t qi) r1 qz (qL r2)))) V [58,13,10,4,3,2,1,0] [1,0] fun O=>?_))
  refine Zc O Z (fun hc3=>?_) (fun hc3=>?_)
  ·skip
   have hlt:k+1<i:=by have h9:=hc3;rw [hwi] at h9;simp at h9;omega
   refine Yd (Za (Ya (Ye (Zu O (qR rr (qR rr (qR rr (qR rr (qp r1 (qR rr (qR rr (qp r1 (qf (o_indexAddr_row (sz:=3) 1 (.mk YbP kr) .is .t (by rw [hwk];omega) (by rw [hwk];omega) (by rfl)) r2 r1 (qf (Zt (ag:=true) (sz':=3) (sz:=3) 1 .t (by intro x;rfl) (by rw [hwk];omega) kr kr kr) r1 r1 (qR rr (qR rr (qf (o_indexAddr_row (sz:=3) 1 (.mk YbP kr) .is .t ow ow (by rfl)) r2 r1 (qf (Zt (ag:=true) (sz':=3) (sz:=3) 1 .t (by intro x;rfl) ow kr kr kr) r1 r1 (qf (o_indexAddr_row (sz:=3) 1 (.mk YbP kr) .is .t ow ow (by rfl)) r2 r1 (qf (Z0 (sz:=3) 1 .t (by intro x;rfl) ow (.conv .t (Ent.aggU (l:=rTx (Nn l1 (IntKind.wrap .i64 ((k:Int)+1)).toNat)) Z Z)) kr) r2 r1 (qf (o_indexAddr_row (sz:=3) 1 (.mk YbP kr) .is .t (by rw [hwk];omega) (by rw [YN,hwk];omega) (by rfl)) r2 r1 (qf (Z0 (sz:=3) 1 .t (by intro x;rfl) (by rw [YN,hwk];omega) (.conv .t (Ent.aggU (l:=rTx (Nn l1 ((k:Int)).toNat)) Z Z)) kr) r2 r1 qZ)))))))))))))))))) V [13,10,4,3,2,1,0] [1,0] Z Z fun a w F O=>?_))))
   try dsimp only [List.map,Zd,xL,xM,Nat.reduceAdd,xD,xE,xT,xU,xC,xN,zCF,ldSF,rTx] at O
   try simp only [Yg] at O
   rw [hwk] at O
   simp only [Yg] at O
   obtain ⟨l2,hl2⟩:∃ z,z=Zj6 l ka (k+1):=⟨_,rfl⟩
   rw [show (l1.set k (Nn l1 (k+1))).set (k+1) (Nn l1 k)=l2 from by rw [hl2,← Zjv hka ow,← hl1];rfl] at O
   refine Zi (Za (rZ O (qR rr (qp r1 (qO rr qZ))) V [13,10,4,3,2,1,0] [1,0] fun O=>?_))
   replace O:=O.ent (i:=13) (s':=.pv (.int .i64 ((k+1:Nat):Int))) Z (.int hwk)
   obtain ⟨F,O⟩:=O.nM [10,4,3,2,1,0,13] [0,1]
   exact ⟨((k+1),(l2)),F,⟨by omega,by omega,hl2⟩,O,by omega⟩
  have hg:Zw TxD.id l ka kb=l1:=by rw [hl1,← hg1,show k=i - 1 by have h9:=hc3;rw [hwi] at h9;simp at h9;omega]
  refine Ym (Zg (Zg (Zo (Za (Yh (Zf ?_))))))
  have O:=O.turn 1 Z (r':=RS.hp (ZO 36 3 rTx (Zw TxD.id l ka kb) v)) (fun _ _ _ _ h=>by rw [hg];exact h)
  refine ZE hG O Z .nil .none rfl
 have hm1:ka+1<km:=by have h9:=hc0;rw [Zj ow] at h9;simp at h9;omega
 refine Yd (Za (Ya (Ya (rZ O (qR rr (qR rr (qf (o_sub .t .t) r2 qz (qf (o_eql .t qi) r1 qz qZ)))) V [80,4,3,2,1,0] [1,0] fun O=>?_))))
 refine Zc O Z (fun hc4=>?_) (fun hc4=>?_)
 ·skip
  have hm2:kb=km+1:=by have h9:=hc4;rw [Zj ow] at h9;simp at h9;omega
  refine Ya (rZ O (qR rr (qO rr qZ)) V [14,4,3,2,1,0] [1,0] fun O=>Ya ?_)
  refine rZ O (qR rr (qO rr qZ)) V [15,14,4,3,2,1,0] [1,0] fun O=>(Ya (Ye ?_))
  have hc0:ka≤ka∧ka≤km∧km≤km∧(∀ q,ka≤q→q<ka→TxD.id (Nn l q)<TxD.id (Nn l km)) ∧ ∀ q,km≤q→q<km→TxD.id (Nn l km)<TxD.id (Nn l q):=⟨YA _,by omega,YA _,fun q h1 h2=>by omega,fun q h1 h2=>by omega⟩
  refine Zk (σ:=Nat×Nat) [0,1,2,3,4] [0,1] (fun s=>[(14,.pv (.int .i64 (s.1:Int))),(15,.pv (.int .i64 (s.2:Int)))]) (fun s=>[]) (fun s=>ka≤s.1∧s.1≤s.2∧s.2≤km∧(∀ q,ka≤q→q<s.1→TxD.id (Nn l q)<TxD.id (Nn l km)) ∧ ∀ q,s.2≤q→q<km→TxD.id (Nn l km)<TxD.id (Nn l q)) (fun s=>s.2 - s.1) ((ka),(km)) O ⟨rfl,rfl,rfl,rfl,rfl,rfl,rfl,tv⟩ ⟨rfl,rfl,tv⟩ hc0 ?_
  clear O;intro s a w F hC O
  obtain ⟨i,j⟩:=s
  try dsimp only at hC
  obtain ⟨F,O⟩:=O.nM [15,14,4,3,2,1,0] [1,0]
  try dsimp only at O
  obtain ⟨hki,hij,hjk,hlo,hhi⟩:=hC
  refine Ya (Ya (rZ O (qR rr (qR rr (qL r2))) V [85,15,14,4,3,2,1,0] [1,0] fun O=>?_))
  refine Zc O Z (fun hc5=>?_) (fun hc5=>?_)
  ·skip
   have hlt:i<j:=by simp at hc5;omega
   refine Yd (Za (Ye (Ya (Zh O (qR rr (qR rr (qf (o_add .t .t) r2 qz (qf (Za0 YbY kr .t) r1 qz (qf (Zjq .t qi (by decide)) r1 qz (qf (Za0 YbS kr .t) r1 qz (qO rr qZ))))))) V [16,15,14,4,3,2,1,0] [1,0] Z Z fun a w F O=>?_))))
   obtain ⟨m,hmm⟩:∃ m:Nat,m=(i+j) / 2:=⟨_,rfl⟩
   replace O:=O.ent (i:=16) (s':=.pv (.int .i64 (m:Int))) Z (.int (by rw [hmm];exact Zdr ow))
   obtain ⟨F,O⟩:=O.nM [16,15,14,4,3,2,1,0] [1,0]
   refine Za (Ya (Zu O (qR rr (qR rr (qR rr (qf (o_indexAddr_row (sz:=3) 1 (.mk YbP kr) .is .t ow ow (by rfl)) r2 r1 (qf (Zt (ag:=true) (sz':=3) (sz:=3) 1 .t (by intro x;rfl) ow kr kr kr) r1 r1 (qR rr (qR rr (qf (o_indexAddr_row (sz:=3) 1 (.mk YbP kr) .is .t ow ow (by rfl)) r2 r1 (qf (Zt (ag:=true) (sz':=3) (sz:=3) 1 .t (by intro x;rfl) ow kr kr kr) r1 r1 (qf (o_callClosP (avs:=[.agg (rTx (Nn l ((km:Int)).toNat)),.agg (rTx (Nn l ((m:Int)).toNat))]) .t (hw (Nn l ((km:Int)).toNat) (Nn l ((m:Int)).toNat)) hf hbd hnn (Args.two (.pagg .t) (.pagg .t))) r3 qz (qf (ZaR .t qi) r1 qz (qf (Z1 .t) r1 qz qZ)))))))))))) V [103,16,15,14,4,3,2,1,0] [1,0] Z Z fun a w F O=>?_))
   try dsimp only [List.map,xD,xE,xT,xU,ldSF,rTx] at O
   try simp only [Yg] at O
   refine Za (Zc O Z (fun hc6=>?_) (fun hc6=>?_))
   ·skip
    have h9:¬ Zdl (TxD.id (Nn l km)) (TxD.id (Nn l m))<0:=by simpa using hc6
    have h8:=Zf2 hu (i:=km) (j:=m) ow ow ow (fun e=>h9 (Zba.2 e))
    obtain ⟨i2,hi2e⟩:∃ z,z=m+1:=⟨_,rfl⟩
    obtain ⟨j2,hj2e⟩:∃ z,z=j:=⟨_,rfl⟩
    have hi2:IntKind.wrap .i64 ((m:Int)+1)=(i2:Int):=by rw [hi2e];exact Ze ow
    have hj2:(j:Int)=(j2:Int):=by rw [hj2e]
    have hmu:j2 - i2<j - i:=by omega
    have hC2:ka≤i2∧i2≤j2∧j2≤km∧(∀ q,ka≤q→q<i2→TxD.id (Nn l q)<TxD.id (Nn l km)) ∧ ∀ q,j2≤q→q<km→TxD.id (Nn l km)<TxD.id (Nn l q):=⟨by omega,by omega,by omega,fun q h1 h2=>by rcases Yag q m with h | h;exact Ybb (hx9 q m h1 h ow) h8;rw [show q=m by omega];exact h8,by rw [hj2e];exact hhi⟩
    refine Zh O (qR rr (qp r1 (qO rr qZ))) V [15,14,4,3,2,1,0] [1,0] Z Z fun a w F O=>Zi (Za ?_)
    replace O:=O.ent (i:=14) (s':=.pv (.int .i64 (i2:Int))) Z (.int hi2)
    replace O:=O.ent (i:=15) (s':=.pv (.int .i64 (j2:Int))) Z (.int hj2)
    obtain ⟨F,O⟩:=O.nM [4,3,2,1,0,15,14] [1,0]
    exact ⟨((i2),(j2)),F,hC2,O,hmu⟩
   have h9:Zdl (TxD.id (Nn l km)) (TxD.id (Nn l m))<0:=by simpa using hc6
   have h8:=Zba.1 h9
   obtain ⟨i2,hi2e⟩:∃ z,z=i:=⟨_,rfl⟩
   obtain ⟨j2,hj2e⟩:∃ z,z=m:=⟨_,rfl⟩
   have hi2:(i:Int)=(i2:Int):=by rw [hi2e]
   have hj2:(m:Int)=(j2:Int):=by rw [hj2e]
   have hmu:j2 - i2<j - i:=by omega
   have hC2:ka≤i2∧i2≤j2∧j2≤km∧(∀ q,ka≤q→q<i2→TxD.id (Nn l q)<TxD.id (Nn l km)) ∧ ∀ q,j2≤q→q<km→TxD.id (Nn l km)<TxD.id (Nn l q):=⟨by omega,by omega,by omega,by rw [hi2e];exact hlo,fun q h1 h2=>by rcases Yag m q with h | h;exact Ybb h8 (hx9 m q ow h h2);rw [show q=m by omega];exact h8⟩
   refine Zh O (qR rr (qO rr qZ)) V [15,14,4,3,2,1,0] [1,0] Z Z fun a w F O=>Zi (Za ?_)
   replace O:=O.ent (i:=14) (s':=.pv (.int .i64 (i2:Int))) Z (.int hi2)
   replace O:=O.ent (i:=15) (s':=.pv (.int .i64 (j2:Int))) Z (.int hj2)
   obtain ⟨F,O⟩:=O.nM [4,3,2,1,0,15,14] [1,0]
   exact ⟨((i2),(j2)),F,hC2,O,hmu⟩
  have hjj:i=j:=by simp at hc5;omega
  have hg1:Zf6 l i km=Zw TxD.id l ka kb:=by rw [hm2];exact Zic hki ow ow hx hlo (by rw [hjj];exact hhi)
  refine Ym (Zg (Zg (Zo (Za (Ya (Ya (rZ O (qR rr (qO rr qZ)) V [17,14,4,3,2,1,0] [1,0] fun O=>Ye ?_)))))))
  have hc1:i≤km∧km≤km∧l=Zf6 l km km:=⟨by omega,YA _,(ZeT ow).symm⟩
  refine Zk (σ:=Nat×List TxD) [0,1,2,3,4,14] [0] (fun s=>[(17,.pv (.int .i64 (s.1:Int)))]) (fun s=>[(1,.ob (.val v) (ZO 36 3 rTx s.2))]) (fun s=>i≤s.1∧s.1≤km∧s.2=Zf6 l s.1 km) (fun s=>s.1) ((km),(l)) O ⟨rfl,rfl,rfl,rfl,rfl,rfl,rfl,tv⟩ ⟨rfl,rfl,tv⟩ hc1 ?_
  clear O;intro s a w F hC O
  obtain ⟨k,l1⟩:=s
  try dsimp only at hC
  obtain ⟨F,O⟩:=O.nM [17,14,4,3,2,1,0] [1,0]
  try dsimp only at O
  obtain ⟨hka,hki2,hl1⟩:=hC
  have hn1:l1.length=l.length:=by rw [hl1];exact Zce hki2 ow
  have hwk:i<k→IntKind.wrap .i64 ((k:Int) - 1)=((k - 1:Nat):Int):=fun h=>by rw [Zj ow];omega
  refine Ya (Ya (rZ O (qR rr (qR rr (qf (Zal .t .t) r2 qz qZ))) V [110,17,14,4,3,2,1,0] [1,0] fun O=>?_))
  refine Zc O Z (fun hc7=>?_) (fun hc7=>?_)
  ·skip
   have hlt:i<k:=by simp at hc7;omega
   refine Yd (Za (Ya (Ye (Zu O (qR rr (qR rr (qR rr (qR rr (qf (o_sub .t qi) r1 qz (qR rr (qR rr (qf (o_sub .t qi) r1 qz (qf (o_indexAddr_row (sz:=3) 1 (.mk YbP kr) .is .t (by rw [hwk hlt];omega) (by rw [hwk hlt];omega) (by rfl)) r2 r1 (qf (Zt (ag:=true) (sz':=3) (sz:=3) 1 .t (by intro x;rfl) (by rw [hwk hlt];omega) kr kr kr) r1 r1 (qR rr (qR rr (qf (o_indexAddr_row (sz:=3) 1 (.mk YbP kr) .is .t ow ow (by rfl)) r2 r1 (qf (Zt (ag:=true) (sz':=3) (sz:=3) 1 .t (by intro x;rfl) ow kr kr kr) r1 r1 (qf (o_indexAddr_row (sz:=3) 1 (.mk YbP kr) .is .t ow ow (by rfl)) r2 r1 (qf (Z0 (sz:=3) 1 .t (by intro x;rfl) ow (.conv .t (Ent.aggU (l:=rTx (Nn l1 (IntKind.wrap .i64 ((k:Int) - 1)).toNat)) Z Z)) kr) r2 r1 (qf (o_indexAddr_row (sz:=3) 1 (.mk YbP kr) .is .t (by rw [hwk hlt];omega) (by rw [YN,hwk hlt];omega) (by rfl)) r2 r1 (qf (Z0 (sz:=3) 1 .t (by intro x;rfl) (by rw [YN,hwk hlt];omega) (.conv .t (Ent.aggU (l:=rTx (Nn l1 ((k:Int)).toNat)) Z Z)) kr) r2 r1 qZ)))))))))))))))))) V [17,14,4,3,2,1,0] [1,0] Z Z fun a w F O=>?_))))
   try dsimp only [List.map,Zd,xL,xM,Nat.reduceAdd,xD,xE,xT,xU,xC,xN,zCF,ldSF,rTx] at O
   try simp only [Yg] at O
   rw [hwk hlt] at O
   simp only [Yg] at O
   obtain ⟨l2,hl2⟩:∃ z,z=Zf6 l (k - 1) km:=⟨_,rfl⟩
   rw [show (l1.set k (Nn l1 (k - 1))).set (k - 1) (Nn l1 k)=l2 from by rw [hl2,← ZeV ow hki2 ow,← hl1];rfl] at O
   refine Zi (Za (rZ O (qR rr (qf (o_sub .t qi) r1 qz (qO rr qZ))) V [17,14,4,3,2,1,0] [1,0] fun O=>?_))
   replace O:=O.ent (i:=17) (s':=.pv (.int .i64 ((k - 1:Nat):Int))) Z (.int (hwk hlt))
   obtain ⟨F,O⟩:=O.nM [14,4,3,2,1,0,17] [0,1]
   exact ⟨((k - 1),(l2)),F,⟨by omega,by omega,hl2⟩,O,by omega⟩
  have hg:Zw TxD.id l ka kb=l1:=by rw [hl1,← hg1,show k=i by simp at hc7;omega]
  refine Ym (Zg (Zg (Zo (Za (Yh (Zf ?_))))))
  have O:=O.turn 1 Z (r':=RS.hp (ZO 36 3 rTx (Zw TxD.id l ka kb) v)) (fun _ _ _ _ h=>by rw [hg];exact h)
  refine ZE hG O Z .nil .none rfl
 have hm2:km+1<kb:=by have h9:=hc4;rw [Zj ow] at h9;simp at h9;omega
 refine Yd (Za (Ya (Zh O (qR rr (qR rr (qf (o_add .t .t) r2 qz (qf (Za0 YbY kr .t) r1 qz (qf (Zjq .t qi (by decide)) r1 qz (qf (Za0 YbS kr .t) r1 qz (qO rr qZ))))))) V [18,4,3,2,1,0] [1,0] Z Z fun a w F O=>?_)))
 obtain ⟨mid,hmmid⟩:∃ m:Nat,m=(ka+kb) / 2:=⟨_,rfl⟩
 replace O:=O.ent (i:=18) (s':=.pv (.int .i64 (mid:Int))) Z (.int (by rw [hmmid];exact Zdr ow))
 obtain ⟨F,O⟩:=O.nM [18,4,3,2,1,0] [1,0]
 refine Za (Ya (Zh O (qR rr (qR rr (qf (o_add .t .t) r2 qz (qO rr qZ)))) V [19,18,4,3,2,1,0] [1,0] Z Z fun a w F O=>?_))
 replace O:=O.ent (i:=19) (s':=.pv (.int .i64 ((mid+km:Nat):Int))) Z (.int (by rw [Zj ow];omega))
 obtain ⟨F,O⟩:=O.nM [19,18,4,3,2,1,0] [1,0]
 refine Za (Ya (rZ O (qI (qI qZ)) V [19,18,4,3,2,1,0] [1,0] fun O=>(Ya (Ya ?_))))
 refine rZ O (qR rr (qR rr (qf (Zal .t .t) r2 qz qZ))) V [140,19,18,4,3,2,1,0] [1,0] fun O=>?_
 refine ZcW (σ:=Nat×Nat) [0,1,2,3,4,18,19] [0,1] (fun s=>[(20,.pv (.int .i64 (s.1:Int))),(21,.pv (.int .i64 (s.2:Int)))]) (fun s=>[]) (fun s=>(mid<km∧s.1+kb=mid+km∧s.2=mid)∨(km≤mid∧s.1=ka∧s.2=km)) O ?_ ?_
 ·skip
  refine Zc O Z (fun hc8=>?_) (fun hc8=>?_)
  ·skip
   have hmm:mid<km:=by simp at hc8;omega
   obtain ⟨s0,s0e⟩:∃ z,z=mid+km - kb:=⟨_,rfl⟩
   obtain ⟨r0,r0e⟩:∃ z,z=mid:=⟨_,rfl⟩
   have hs0:(mid<km∧s0+kb=mid+km∧r0=mid)∨(km≤mid∧s0=ka∧r0=km):=.inl ⟨hmm,by omega,r0e⟩
   have hcs:IntKind.wrap .i64 (((mid+km:Nat):Int) - (kb:Int))=(s0:Int):=by rw [Zj ow];omega
   have hcr:(mid:Int)=(r0:Int):=by rw [r0e]
   refine Ya (rZ O (qR rr (qR rr (qf (o_sub .t .t) r2 qz (qO rr qZ)))) V [20,19,18,4,3,2,1,0] [1,0] fun O=>?_)
   refine rZ O (qR rr (qO rr qZ)) V [21,20,19,18,4,3,2,1,0] [1,0] fun O=>?_
   replace O:=O.ent (i:=20) (s':=.pv (.int .i64 (s0:Int))) Z (.int hcs)
   replace O:=O.ent (i:=21) (s':=.pv (.int .i64 (r0:Int))) Z (.int hcr)
   obtain ⟨F,O⟩:=O.nM [19,18,4,3,2,1,0,21,20] [1,0]
   exact ⟨((s0),(r0)),F,hs0,O⟩
  have hmm:km≤mid:=by simp at hc8;omega
  obtain ⟨s0,s0e⟩:∃ z,z=ka:=⟨_,rfl⟩
  obtain ⟨r0,r0e⟩:∃ z,z=km:=⟨_,rfl⟩
  have hs0:(mid<km∧s0+kb=mid+km∧r0=mid)∨(km≤mid∧s0=ka∧r0=km):=.inr ⟨hmm,s0e,r0e⟩
  have hcs:(ka:Int)=(s0:Int):=by rw [s0e]
  have hcr:(km:Int)=(r0:Int):=by rw [r0e]
  refine Ya (rZ O (qR rr (qO rr qZ)) V [20,19,18,4,3,2,1,0] [1,0] fun O=>?_)
  refine rZ O (qR rr (qO rr qZ)) V [21,20,19,18,4,3,2,1,0] [1,0] fun O=>?_
  replace O:=O.ent (i:=20) (s':=.pv (.int .i64 (s0:Int))) Z (.int hcs)
  replace O:=O.ent (i:=21) (s':=.pv (.int .i64 (r0:Int))) Z (.int hcr)
  obtain ⟨F,O⟩:=O.nM [19,18,4,3,2,1,0,21,20] [1,0]
  exact ⟨((s0),(r0)),F,hs0,O⟩
 clear O;intro s a w F hC O
 obtain ⟨s0,r0⟩:=s
 try dsimp only at hC
 obtain ⟨F,O⟩:=O.nM [21,20,19,18,4,3,2,1,0] [1,0]
 try dsimp only at O
 have hs0:=hC
 refine Ya (Zh O (qR rr (qf (o_sub .t qi) r1 qz (qO rr qZ))) V [22,21,20,19,18,4,3,2,1,0] [1,0] Z Z fun a w F O=>?_)
 replace O:=O.ent (i:=22) (s':=.pv (.int .i64 ((mid+km - 1:Nat):Int))) Z (.int (by rw [Zj ow];omega))
 obtain ⟨F,O⟩:=O.nM [22,21,20,19,18,4,3,2,1,0] [1,0]
 refine Za (Ya (Ye ?_))
 have hsr0:s0≤r0∧ka≤s0∧r0≤km∧r0≤mid:=by omega
 refine Zk (σ:=Nat×Nat) [0,1,2,3,4,18,19,22] [0,1] (fun s=>[(20,.pv (.int .i64 (s.1:Int))),(21,.pv (.int .i64 (s.2:Int)))]) (fun s=>[]) (fun s=>s0≤s.1∧s.1≤s.2∧s.2≤r0∧(s.1=s0∨TxD.id (Nn l (s.1 - 1))<TxD.id (Nn l (mid+km - s.1)))∧(s.2=r0∨TxD.id (Nn l (mid+km - 1 - s.2))<TxD.id (Nn l s.2))) (fun s=>s.2 - s.1) ((s0),(r0)) O ⟨rfl,rfl,rfl,rfl,rfl,rfl,rfl,rfl,rfl,rfl,tv⟩ ⟨rfl,rfl,tv⟩ ⟨YA _,hsr0.1,YA _,.inl rfl,.inl rfl⟩ ?_
 clear O;intro s a w F hC O
 obtain ⟨st,r⟩:=s
 try dsimp only at hC
 obtain ⟨F,O⟩:=O.nM [22,21,20,19,18,4,3,2,1,0] [1,0]
 try dsimp only at O
 obtain ⟨hs1,hsr,hr1,hlo,hhi⟩:=hC
 refine Ya (Ya (rZ O (qR rr (qR rr (qL r2))) V [151,22,21,20,19,18,4,3,2,1,0] [1,0] fun O=>?_))
 refine Zc O Z (fun hc9=>?_) (fun hc9=>?_)
 ·skip
  have hlt:st<r:=by simp at hc9;omega
  refine Yd (Za (Ye (Ya (Zh O (qR rr (qR rr (qf (o_add .t .t) r2 qz (qf (Za0 YbY kr .t) r1 qz (qf (Zjq .t qi (by decide)) r1 qz (qf (Za0 YbS kr .t) r1 qz (qO rr qZ))))))) V [23,22,21,20,19,18,4,3,2,1,0] [1,0] Z Z fun a w F O=>?_))))
  obtain ⟨m,hmm⟩:∃ m:Nat,m=(st+r) / 2:=⟨_,rfl⟩
  replace O:=O.ent (i:=23) (s':=.pv (.int .i64 (m:Int))) Z (.int (by rw [hmm];exact Zdr ow))
  obtain ⟨F,O⟩:=O.nM [23,22,21,20,19,18,4,3,2,1,0] [1,0]
  have hwp:IntKind.wrap .i64 (((mid+km - 1:Nat):Int) - (m:Int))=((mid+km - 1 - m:Nat):Int):=by rw [Zj ow];omega
  refine Za (Ya (Zu O (qR rr (qR rr (qR rr (qR rr (qf (o_sub .t .t) r2 qz (qf (o_indexAddr_row (sz:=3) 1 (.mk YbP kr) .is .t (by rw [hwp];omega) (by rw [hwp];omega) (by rfl)) r2 r1 (qf (Zt (ag:=true) (sz':=3) (sz:=3) 1 .t (by intro x;rfl) (by rw [hwp];omega) kr kr kr) r1 r1 (qR rr (qR rr (qf (o_indexAddr_row (sz:=3) 1 (.mk YbP kr) .is .t ow ow (by rfl)) r2 r1 (qf (Zt (ag:=true) (sz':=3) (sz:=3) 1 .t (by intro x;rfl) ow kr kr kr) r1 r1 (qf (o_callClosP (avs:=[.agg (rTx (Nn l (IntKind.wrap .i64 (((mid+km - 1:Nat):Int) - (m:Int))).toNat)),.agg (rTx (Nn l ((m:Int)).toNat))]) .t (hw (Nn l (IntKind.wrap .i64 (((mid+km - 1:Nat):Int) - (m:Int))).toNat) (Nn l ((m:Int)).toNat)) hf hbd hnn (Args.two (.pagg .t) (.pagg .t))) r3 qz (qf (ZaR .t qi) r1 qz (qf (Z1 .t) r1 qz qZ)))))))))))))) V [171,23,22,21,20,19,18,4,3,2,1,0] [1,0] Z Z fun a w F O=>?_))
  try dsimp only [List.map,xD,xE,xT,xU,ldSF,rTx] at O
  try simp only [Yg] at O
  refine Za (Zc O Z (fun hc10=>?_) (fun hc10=>?_))
  ·skip
   have h9:¬ Zdl (TxD.id (Nn l (IntKind.wrap .i64 (((mid+km - 1:Nat):Int) - (m:Int))).toNat)) (TxD.id (Nn l m))<0:=by simpa using hc10
   rw [hwp,Yg] at h9
   have h8:=Zf2 hu (i:=(mid+km - 1 - m)) (j:=m) ow ow ow (fun e=>h9 (Zba.2 e))
   obtain ⟨i2,hi2e⟩:∃ z,z=m+1:=⟨_,rfl⟩
   obtain ⟨j2,hj2e⟩:∃ z,z=r:=⟨_,rfl⟩
   have hi2:IntKind.wrap .i64 ((m:Int)+1)=(i2:Int):=by rw [hi2e];exact Ze ow
   have hj2:(r:Int)=(j2:Int):=by rw [hj2e]
   have hmu:j2 - i2<r - st:=by omega
   have hC2:s0≤i2∧i2≤j2∧j2≤r0∧(i2=s0∨TxD.id (Nn l (i2 - 1))<TxD.id (Nn l (mid+km - i2)))∧(j2=r0∨TxD.id (Nn l (mid+km - 1 - j2))<TxD.id (Nn l j2)):=⟨by omega,by omega,by omega,.inr (by rw [show i2 - 1=m by omega,show mid+km - i2=mid+km - 1 - m by omega];exact h8),by rw [hj2e];exact hhi⟩
   refine Zh O (qR rr (qp r1 (qO rr qZ))) V [22,21,20,19,18,4,3,2,1,0] [1,0] Z Z fun a w F O=>Zi (Za ?_)
   replace O:=O.ent (i:=20) (s':=.pv (.int .i64 (i2:Int))) Z (.int hi2)
   replace O:=O.ent (i:=21) (s':=.pv (.int .i64 (j2:Int))) Z (.int hj2)
   obtain ⟨F,O⟩:=O.nM [22,19,18,4,3,2,1,0,21,20] [1,0]
   exact ⟨((i2),(j2)),F,hC2,O,hmu⟩
  have h9:Zdl (TxD.id (Nn l (IntKind.wrap .i64 (((mid+km - 1:Nat):Int) - (m:Int))).toNat)) (TxD.id (Nn l m))<0:=by simpa using hc10
  rw [hwp,Yg] at h9
  have h8:=Zba.1 h9
  obtain ⟨i2,hi2e⟩:∃ z,z=st:=⟨_,rfl⟩
  obtain ⟨j2,hj2e⟩:∃ z,z=m:=⟨_,rfl⟩
  have hi2:(st:Int)=(i2:Int):=by rw [hi2e]
  have hj2:(m:Int)=(j2:Int):=by rw [hj2e]
  have hmu:j2 - i2<r - st:=by omega
  have hC2:s0≤i2∧i2≤j2∧j2≤r0∧(i2=s0∨TxD.id (Nn l (i2 - 1))<TxD.id (Nn l (mid+km - i2)))∧(j2=r0∨TxD.id (Nn l (mid+km - 1 - j2))<TxD.id (Nn l j2)):=⟨by omega,by omega,by omega,by rw [hi2e];exact hlo,.inr (by rw [hj2e];exact h8)⟩
  refine Zh O (qR rr (qO rr qZ)) V [22,21,20,19,18,4,3,2,1,0] [1,0] Z Z fun a w F O=>Zi (Za ?_)
  replace O:=O.ent (i:=20) (s':=.pv (.int .i64 (i2:Int))) Z (.int hi2)
  replace O:=O.ent (i:=21) (s':=.pv (.int .i64 (j2:Int))) Z (.int hj2)
  obtain ⟨F,O⟩:=O.nM [22,19,18,4,3,2,1,0,21,20] [1,0]
  exact ⟨((i2),(j2)),F,hC2,O,hmu⟩
 have hjj:r=st:=by simp at hc9;omega
 rw [hjj] at hhi hr1
 obtain ⟨⟨k1,k2,k3⟩,kc1,kc2⟩:=ZlL (κ:=TxD.id) (l:=l) (a:=ka) (m:=km) (b:=kb) (mid:=mid) (start:=st) h3 h1 h2 ow ow ow hx hy hs0 hs1 hr1 hlo hhi ow
 obtain ⟨en,ene⟩:∃ z,z=mid+km - st:=⟨_,rfl⟩
 rw [← ene] at k2 k3 kc1 kc2
 obtain ⟨hst1,hr1a,hr1b,hr2a,hr2b,-,-⟩:=ZlZ (κ:=TxD.id) (l:=l) (a:=ka) (start:=st) (m:=km) (e:=en) (b:=kb) (mid:=mid) ow k1 k2 k3 h3 ow hx hy (ZfI hu _ _) kc1 kc2
 obtain ⟨l1,l1e⟩:∃ z,z=Z2 l st km en:=⟨_,rfl⟩
 rw [← l1e] at hst1 hr1a hr1b hr2a hr2b
 obtain ⟨l2,l2e⟩:∃ z,z=Zw TxD.id l1 ka mid:=⟨_,rfl⟩
 rw [← l2e] at hst1 hr2a hr2b
 obtain ⟨l3,l3e⟩:∃ z,z=Zw TxD.id l2 mid kb:=⟨_,rfl⟩
 rw [← l3e] at hst1
 have hg:Zw TxD.id l ka kb=l3:=hst1.symm
 have hn1:l1.length≤1000000:=by rw [l1e,ZiA k1 k2 ow];exact hll
 have hm1l:l1.length=l.length:=by rw [l1e,ZiA k1 k2 ow]
 have hn2:l2.length≤1000000:=by rw [l2e,Z9 ow];exact hn1
 have hm2l:l2.length=l.length:=by rw [l2e,Z9 ow];exact hm1l
 have hu1:Unl TxD.id l1:=by rw [l1e];exact hu.perm (Zms k1 k2).symm
 have hu2:Unl TxD.id l2:=by rw [l2e];exact Zav ow hu1
 have hce:IntKind.wrap .i64 (((mid+km:Nat):Int) - (st:Int))=(en:Int):=by rw [Zj ow];omega
 refine Ym (Zg (Zg (Zo (Za (Ya (Zh O (qR rr (qR rr (qf (o_sub .t .t) r2 qz (qO rr qZ)))) V [24,20,18,4,3,2,1,0] [1,0] Z Z fun a w F O=>?_))))))
 replace O:=O.ent (i:=24) (s':=.pv (.int .i64 (en:Int))) Z (.int (hce))
 obtain ⟨F,O⟩:=O.nM [24,20,18,4,3,2,1,0] [1,0]
 refine Za (Ya (Ya (rZ O (qR rr (qR rr (qf (ZaR .t .t) r2 qz (qR rr (qm Z Z Z Z (qm Z Z Z Z (qk Z (fun h=>ZaR (.w h) (.w h)) r3 qz (qf (ZJ .t .t) r2 qz qZ)))))))) V [185,24,20,18,4,3,2,1,0] [1,0] fun O=>?_)))
 refine ZcW (σ:=Unit) [0,1,3,4,18,20,24] [0] (fun s=>[]) (fun s=>[(1,.ob (.val v) (ZO 36 3 rTx l1))]) (fun s=>True) O ?_ ?_
 ·skip
  refine Zc O Z (fun hc11=>?_) (fun hc11=>?_)
  ·skip
   have h9:st<km∧km<en:=by simpa using hc11
   refine Zh O (qR rr (qR rr (qR rr (qR rr (qR rr (qf (ZW 1 (Zun v l st km en hll ow ow ow f cps) func280 Z kr (Args.five .t .t .t .t .t)) r5 r1 qZ)))))) V [24,20,18,4,3,1,0] [1,0] Z Z fun a w F O=>?_
   rw [← l1e] at O
   refine Za ?_
   obtain ⟨F,O⟩:=O.nM [24,20,18,4,3,1,0] [0,1]
   exact ⟨(()),F,tv,O⟩
  have h9:¬ (st<km∧km<en):=by simpa using hc11
  have hlr:l=l1:=by rw [l1e];exact (ZmB k1 k2 ow).symm
  rw [hlr] at O
  refine Yd (Za ?_)
  obtain ⟨F,O⟩:=O.nM [24,20,18,4,3,1,0] [0,1]
  exact ⟨(()),F,tv,O⟩
 clear O;intro u a w F hC O
 try dsimp only at hC
 obtain ⟨F,O⟩:=O.nM [24,20,18,4,3,1,0] [1,0]
 try dsimp only at O
 refine Ya (Ya (rZ O (qR rr (qR rr (qf (ZaR .t .t) r2 qz (qR rr (qm Z Z Z Z (qm Z Z Z Z (qk Z (fun h=>ZaR (.w h) (.w h)) r3 qz (qf (ZJ .t .t) r2 qz qZ)))))))) V [199,24,20,18,4,3,1,0] [1,0] fun O=>?_))
 refine ZcW (σ:=Unit) [0,3,4,18,24] [0] (fun s=>[]) (fun s=>[(1,.ob (.val v) (ZO 36 3 rTx l2))]) (fun s=>True) O ?_ ?_
 ·skip
  refine Zc O Z (fun hc12=>?_) (fun hc12=>?_)
  ·skip
   have h9:ka<st∧st<mid:=by simpa using hc12
   refine Zh O (qR rr (qR rr (qR rr (qR rr (qR rr (qf (ZW 1 (ih l1 ka st mid ow hn1 ow ow ow hu1 hr1a hr1b) func273 Z kr (Args.five .t .t .t .t .t)) r5 r1 qZ)))))) V [24,18,4,3,0] [1,0] Z Z fun a w F O=>?_
   rw [← l2e] at O
   refine Za ?_
   obtain ⟨F,O⟩:=O.nM [24,18,4,3,0] [0,1]
   exact ⟨(()),F,tv,O⟩
  have h9:¬ (ka<st∧st<mid):=by simpa using hc12
  have hlr:l1=l2:=by rw [l2e];refine (Zbr ow ?_).symm; (rcases Yag ka st with h | h); (rw [show mid=st by omega];exact hr1a); (rw [show ka=st by omega];exact hr1b)
  rw [hlr] at O
  refine Yd (Za ?_)
  obtain ⟨F,O⟩:=O.nM [24,18,4,3,0] [0,1]
  exact ⟨(()),F,tv,O⟩
 clear O;intro u a w F hC O
 try dsimp only at hC
 obtain ⟨F,O⟩:=O.nM [24,18,4,3,0] [1,0]
 try dsimp only at O
 refine Ya (rZ O (qR rr (qR rr (qf (ZaR .t .t) r2 qz (qR rr (qm Z Z Z Z (qm Z Z Z Z (qk Z (fun h=>ZaR (.w h) (.w h)) r3 qz (qf (ZJ .t .t) r2 qz qZ)))))))) V [213,24,18,4,3,0] [1,0] fun O=>?_)
 refine Zc O Z (fun hc13=>?_) (fun hc13=>?_)
 ·skip
  have h9:mid<en∧en<kb:=by simpa using hc13
  refine Zh O (qR rr (qR rr (qR rr (qR rr (qR rr (qf (ZW 1 (ih l2 mid en kb ow hn2 ow ow ow hu2 hr2a hr2b) func273 Z kr (Args.five .t .t .t .t .t)) r5 r1 qZ)))))) V [] [1,0] Z Z fun a w F O=>?_
  rw [← l3e] at O
  have O:=O.turn 1 Z (r':=RS.hp (ZO 36 3 rTx (Zw TxD.id l ka kb) v)) (fun _ _ _ _ h=>by rw [hg];exact h)
  refine ZE hG O Z .nil .none rfl
 have h9:¬ (mid<en∧en<kb):=by simpa using hc13
 have hlr:l2=l3:=by rw [l3e];refine (Zbr ow ?_).symm; (rcases Yag mid en with h | h); (rw [show kb=en by omega];exact hr2a); (rw [show mid=en by omega];exact hr2b)
 rw [hlr] at O
 refine Yd ?_
 have O:=O.turn 1 Z (r':=RS.hp (ZO 36 3 rTx (Zw TxD.id l ka kb) v)) (fun _ _ _ _ h=>by rw [hg];exact h)
 refine ZE hG O Z .nil .none rfl
theorem Zub (v : Value) (f : FuncId) (fn : Func) (cps : List PV) (hf : prog.funcs[f]? = some fn) (hbd : fn.body.isSome = true) (hnn : (fn.name == "runtime.NumGoroutine") = false) (hw : ∀ x y : TxD, FnP prog f (.agg (rTx x) :: .agg (rTx y) :: cps) (.int .i64 (Zdl (TxD.id x) (TxD.id y)))) : ∀ (n : Nat) (l : List TxD) (ka km kb : Nat), kb - ka < n → l.length ≤ 1000000 → ka < km → km < kb → kb ≤ l.length → Unl TxD.id l → Z5 TxD.id (seg l ka km) → Z5 TxD.id (seg l km kb) → FnG prog 273 1 [.is v, .int .i64 (ka : Nat), .int .i64 (km : Nat), .int .i64 (kb : Nat), .clos f cps] [ZO 36 3 rTx l v] (.tup []) (fun _ => [ZO 36 3 rTx (Zw TxD.id l ka kb) v]) := fun n => by
 induction n with
 | zero=>intro l ka km kb h;omega
 | succ n ih=>intro l ka km kb hn hll h1 h2 h3 hu hx hy;exact symST v l ka km kb hll h1 h2 h3 hu hx hy f fn cps hf hbd hnn hw n ih hn
theorem ZtL (v : Value) (l : List TxD)  (hll : l.length ≤ 1000000) (hu : Unl TxD.id l) (f : FuncId) (fn : Func) (cps : List PV) (hf : prog.funcs[f]? = some fn) (hbd : fn.body.isSome = true) (hnn : (fn.name == "runtime.NumGoroutine") = false) (hw : ∀ x y : TxD, FnP prog f (.agg (rTx x) :: .agg (rTx y) :: cps) (.int .i64 (Zdl (TxD.id x) (TxD.id y)))) : FnG prog 244 1 [.is v, .int .i64 l.length, .clos f cps] [ZO 36 3 rTx l v] (.tup []) (fun _ => [ZO 36 3 rTx (Zak TxD.id l) v]) := by
 refine FnG.mk func244 Z ntmps244 Z kr fun B F0 a w F V hG O=>?_
 replace O:=O.turn 1 Z (r':=.ob (.val v) (ZO 36 3 rTx l)) (fun _ _ _ _ h=>h)
 refine Ya (rZ O (qI qZ) V [6,2,1,0] [1,0] fun O=>Ya ?_)
 refine rZ O (qR rr (qI (qO rr qZ))) V [8,7,6,2,1,0] [1,0] fun O=>(Ya (Ye ?_))
 have hc0:ZkP TxD.id l 20 0:=fun t ht=>by omega
 replace O:=O.ent (i:=7) (s':=.pv (.int .i64 ((0:Nat):Int))) Z (.int Z)
 replace O:=O.ent (i:=8) (s':=.pv (.int .i64 ((0+20:Nat):Int))) Z (.int Z)
 refine Zk (σ:=Nat×List TxD) [0,1,2,6] [0] (fun s=>[(7,.pv (.int .i64 (s.1:Int))),(8,.pv (.int .i64 ((s.1+20:Nat):Int)))]) (fun s=>[(1,.ob (.val v) (ZO 36 3 rTx s.2))]) (fun s=>s.1≤l.length∧(∃ t,s.1=t*20)∧s.2.length=l.length∧Unl TxD.id s.2∧s.2.Perm l∧ZkP TxD.id s.2 20 s.1) (fun s=>l.length - s.1) ((0),(l)) O ⟨rfl,rfl,rfl,rfl,rfl,rfl,tv⟩ ⟨rfl,rfl,tv⟩ ⟨Yt _,⟨0,rfl⟩,rfl,hu,Ybo _,hc0⟩ ?_
 clear O;intro s a w F hC O
 obtain ⟨q,l1⟩:=s
 try dsimp only at hC
 obtain ⟨F,O⟩:=O.nM [8,7,6,2,1,0] [1,0]
 try dsimp only at O
 obtain ⟨hql,⟨t,ht⟩,hn1,hu1,hp1,hB1⟩:=hC
 refine Ya (Ya (rZ O (qR rr (qR rr (qf (ZhO .t .t) r2 qz qZ))) V [13,8,7,6,2,1,0] [1,0] fun O=>?_))
 refine Zc O Z (fun hc0=>?_) (fun hc0=>?_)
 ·skip
  have hlt:q+20≤l.length:=by simp at hc0;omega
  obtain ⟨l2,l2e⟩:∃ z,z=Zw TxD.id l1 q (q+20):=⟨_,rfl⟩
  refine Yd (Za (Ye (Ya (Zh O (qR rr (qR rr (qR rr (qR rr (qf (ZW 1 (ZsU v l1 q (q+20) ow ow ow hu1 f fn cps hf hbd hnn hw) func272 Z kr (Args.four .t .t .t .t)) r4 r1 qZ))))) V [8,7,6,2,1,0] [1,0] Z Z fun a w F O=>?_))))
  rw [← l2e] at O
  refine Za (Ya (rZ O (qR rr (qO rr qZ)) V [8,7,6,2,1,0] [1,0] fun O=>?_))
  refine Zh O (qR rr (qR rr (qf (o_add .t .t) r2 qz (qO rr qZ)))) V [8,7,6,2,1,0] [1,0] Z Z fun a w F O=>Zi (Za ?_)
  have hB2:ZkP TxD.id l2 20 (q+20):=by rw [l2e,ht];exact Zfr ow (by rw [← ht];exact hB1) ow hu1
  replace O:=O.ent (i:=8) (s':=.pv (.int .i64 ((q+20+20:Nat):Int))) Z (.int (by rw [Zj ow];omega))
  obtain ⟨F,O⟩:=O.nM [6,2,1,0,8,7] [0,1]
  exact ⟨((q+20),(l2)),F,⟨by omega,⟨t+1,by omega⟩,by rw [l2e,Z9 ow];exact hn1,by rw [l2e];exact Zav ow hu1,by rw [l2e];exact (ZaA ow).trans hp1,hB2⟩,O,by omega⟩
 have hlt:l.length<q+20:=by simp at hc0;omega
 obtain ⟨l2,l2e⟩:∃ z,z=Zw TxD.id l1 q l.length:=⟨_,rfl⟩
 have hn2:l2.length=l.length:=by rw [l2e,Z9 ow];exact hn1
 have hu2:Unl TxD.id l2:=by rw [l2e];exact Zav ow hu1
 have hp2:l2.Perm l:=by rw [l2e];exact (ZaA ow).trans hp1
 have hB2:Zju TxD.id l2 20 0:=by rw [l2e,ht,← hn1];exact Zgm ow (by rw [← ht];exact hB1) ow ow hu1
 refine Ym (Zg (Zg (Zo (Za (Ya (Zh O (qR rr (qR rr (qR rr (qR rr (qf (ZW 1 (ZsU v l1 q l.length ow ow ow hu1 f fn cps hf hbd hnn hw) func272 Z kr (Args.four .t .t .t .t)) r4 r1 qZ))))) V [6,2,1,0] [1,0] Z Z fun a w F O=>?_))))))
 rw [← l2e] at O
 refine Za (Ye ?_)
 have hc0:0<20∧20≤2000000:=by omega
 replace O:=O.ent (i:=6) (s':=.pv (.int .i64 ((20:Nat):Int))) Z (.int Z)
 refine Zk (σ:=Nat×List TxD) [0,1,2] [0] (fun s=>[(6,.pv (.int .i64 (s.1:Int)))]) (fun s=>[(1,.ob (.val v) (ZO 36 3 rTx s.2))]) (fun s=>0<s.1∧s.1≤2000000∧s.2.length=l.length∧Unl TxD.id s.2∧s.2.Perm l∧Zju TxD.id s.2 s.1 0) (fun s=>l.length - s.1) ((20),(l2)) O ⟨rfl,rfl,rfl,rfl,tv⟩ ⟨rfl,rfl,tv⟩ ⟨hc0.1,hc0.2,hn2,hu2,hp2,hB2⟩ ?_
 clear O;intro s a w F hC O
 obtain ⟨bs,l3⟩:=s
 try dsimp only at hC
 obtain ⟨F,O⟩:=O.nM [6,2,1,0] [1,0]
 try dsimp only at O
 obtain ⟨hb0,hb1,hn3,hu3,hp3,hB3⟩:=hC
 have hwb:IntKind.wrap .i64 (2*(bs:Int))=((2*bs:Nat):Int):=by rw [Zj ow];omega
 refine Ya (Ya (rZ O (qR rr (qR rr (qL r2))) V [30,6,2,1,0] [1,0] fun O=>?_))
 refine Zc O Z (fun hc1=>?_) (fun hc1=>?_)
 ·skip
  have hlt:bs<l.length:=by simp at hc1;omega
  refine Yd (Za (Ye (Ya (rZ O (qR rr (qf (Zf4 qi .t) r1 qz (qI (qO rr qZ)))) V [8,7,6,2,1,0] [1,0] fun O=>(Ya (Ye ?_))))))
  have hc4:ZkP TxD.id l3 (2*bs) 0:=fun t ht=>by omega
  replace O:=O.ent (i:=7) (s':=.pv (.int .i64 ((0:Nat):Int))) Z (.int Z)
  replace O:=O.ent (i:=8) (s':=.pv (.int .i64 ((0+2*bs:Nat):Int))) Z (.int (by rw [hwb];omega))
  refine Zk (σ:=Nat×List TxD) [0,1,2,6] [0] (fun s=>[(7,.pv (.int .i64 (s.1:Int))),(8,.pv (.int .i64 ((s.1+2*bs:Nat):Int)))]) (fun s=>[(1,.ob (.val v) (ZO 36 3 rTx s.2))]) (fun s=>s.1≤l.length∧(∃ t,s.1=t*(2*bs))∧s.2.length=l.length∧Unl TxD.id s.2∧s.2.Perm l∧ZkP TxD.id s.2 (2*bs) s.1∧Zju TxD.id s.2 bs s.1) (fun s=>l.length - s.1) ((0),(l3)) O ⟨rfl,rfl,rfl,rfl,rfl,rfl,tv⟩ ⟨rfl,rfl,tv⟩ ⟨Yt _,⟨0,(Nat.zero_mul _).symm⟩,hn3,hu3,hp3,hc4,hB3⟩ ?_
  clear O;intro s a w F hC O
  obtain ⟨q,l4⟩:=s
  try dsimp only at hC
  obtain ⟨F,O⟩:=O.nM [8,7,6,2,1,0] [1,0]
  try dsimp only at O
  obtain ⟨hql,⟨t,ht⟩,hn4,hu4,hp4,hB4,hC4⟩:=hC
  have hqw:IntKind.wrap .i64 ((q:Int)+(bs:Int))=((q+bs:Nat):Int):=by rw [Zj ow];omega
  refine Ya (Ya (rZ O (qR rr (qR rr (qf (ZhO .t .t) r2 qz qZ))) V [35,8,7,6,2,1,0] [1,0] fun O=>?_))
  refine Zc O Z (fun hc2=>?_) (fun hc2=>?_)
  ·skip
   have hlt2:q+2*bs≤l.length:=by simp at hc2;omega
   obtain ⟨l5,l5e⟩:∃ z,z=Zw TxD.id l4 q (q+2*bs):=⟨_,rfl⟩
   obtain ⟨hra,hrb⟩:=ZmV ow ht hC4 (show q+2*bs≤l4.length by omega)
   refine Yd (Za (Ye (Ya (Zh O (qR rr (qR rr (qR rr (qR rr (qf (o_add .t .t) r2 qz (qR rr (qR rr (qf (ZW 1 (Zub v f fn cps hf hbd hnn hw 4000000 l4 q (q+bs) (q+2*bs) ow ow ow ow ow hu4 hra hrb) func273 Z kr (Args.five .t .t (.conv .t (.int hqw)) .t .t)) r5 r1 qZ)))))))) V [8,7,6,2,1,0] [1,0] Z Z fun a w F O=>?_))))
   rw [← l5e] at O
   refine Za (Ya (rZ O (qR rr (qO rr qZ)) V [8,7,6,2,1,0] [1,0] fun O=>?_))
   refine Zh O (qR rr (qR rr (qf (Zf4 qi .t) r1 qz (qf (o_add .t .t) r2 qz (qO rr qZ))))) V [8,7,6,2,1,0] [1,0] Z Z fun a w F O=>Zi (Za ?_)
   have ht2:q+2*bs=(t+1)*(2*bs):=by rw [show (t+1)*(2*bs)=t*(2*bs)+2*bs from YaN t (2*bs),← ht]
   have hB5:ZkP TxD.id l5 (2*bs) (q+2*bs):=by rw [l5e,ht];exact Zfr ow (by rw [← ht];exact hB4) ow hu4
   replace O:=O.ent (i:=8) (s':=.pv (.int .i64 ((q+2*bs+2*bs:Nat):Int))) Z (.int (by rw [hwb,Zj ow];omega))
   obtain ⟨F,O⟩:=O.nM [6,2,1,0,8,7] [0,1]
   exact ⟨((q+2*bs),(l5)),F,⟨by omega,⟨t+1,ht2⟩,by rw [l5e,Z9 ow];exact hn4,by rw [l5e];exact Zav ow hu4,by rw [l5e];exact (ZaA ow).trans hp4,hB5,by rw [l5e];exact Zh7 ow ow hC4⟩,O,by omega⟩
  have hlt2:l.length<q+2*bs:=by simp at hc2;omega
  refine Ym (Zg (Zg (Zo (Za (Ya (Ya (Zh O (qR rr (qR rr (qf (o_add .t .t) r2 qz (qO rr qZ)))) V [9,7,6,2,1,0] [1,0] Z Z fun a w F O=>?_)))))))
  replace O:=O.ent (i:=9) (s':=.pv (.int .i64 ((q+bs:Nat):Int))) Z (.int hqw)
  obtain ⟨F,O⟩:=O.nM [9,7,6,2,1,0] [1,0]
  refine Za (Ya (rZ O (qR rr (qR rr (qL r2))) V [54,9,7,6,2,1,0] [1,0] fun O=>?_))
  refine Zc O Z (fun hc3=>?_) (fun hc3=>?_)
  ·skip
   have hlt3:q+bs<l.length:=by simp at hc3;omega
   obtain ⟨l5,l5e⟩:∃ z,z=Zw TxD.id l4 q l.length:=⟨_,rfl⟩
   obtain ⟨hra,hrb⟩:=Zkf ow ht hC4 (show q+bs<l4.length by omega) ow
   rw [hn4] at hrb
   have hn5:l5.length=l.length:=by rw [l5e,Z9 ow];exact hn4
   have hu5:Unl TxD.id l5:=by rw [l5e];exact Zav ow hu4
   have hp5:l5.Perm l:=by rw [l5e];exact (ZaA ow).trans hp4
   have hB5:Zju TxD.id l5 (2*bs) 0:=by rw [l5e,ht,← hn4];exact Zgm ow (by rw [← ht];exact hB4) ow ow hu4
   refine Zh O (qR rr (qR rr (qR rr (qR rr (qR rr (qf (ZW 1 (Zub v f fn cps hf hbd hnn hw 4000000 l4 q (q+bs) l.length ow ow ow ow ow hu4 hra hrb) func273 Z kr (Args.five .t .t .t .t .t)) r5 r1 qZ)))))) V [6,2,1,0] [1,0] Z Z fun a w F O=>?_
   rw [← l5e] at O
   refine Za (Zh O (qR rr (qf (Zf4 .t qi) r1 qz (qO rr qZ))) V [6,2,1,0] [1,0] Z Z fun a w F O=>Zi (Za ?_))
   replace O:=O.ent (i:=6) (s':=.pv (.int .i64 ((2*bs:Nat):Int))) Z (.int (by rw [Zj ow];omega))
   obtain ⟨F,O⟩:=O.nM [2,1,0,6] [0,1]
   exact ⟨((2*bs),(l5)),F,⟨by omega,by omega,hn5,hu5,hp5,hB5⟩,O,by omega⟩
  have hlt3:l.length≤q+bs:=by simp at hc3;omega
  obtain ⟨l5,l5e⟩:∃ z,z=l4:=⟨_,rfl⟩
  rw [← l5e] at O
  have hn5:l5.length=l.length:=by rw [l5e];exact hn4
  have hu5:Unl TxD.id l5:=by rw [l5e];exact hu4
  have hp5:l5.Perm l:=by rw [l5e];exact hp4
  have hB5:Zju TxD.id l5 (2*bs) 0:=by rw [l5e];exact Zml (t:=t) hb0 (by rw [← ht];exact hB4) (by rw [← ht];exact hC4) (by rw [← ht,hn4];exact hlt3)
  refine Yd (Za (Zh O (qR rr (qf (Zf4 .t qi) r1 qz (qO rr qZ))) V [6,2,1,0] [1,0] Z Z fun a w F O=>Zi (Za ?_)))
  replace O:=O.ent (i:=6) (s':=.pv (.int .i64 ((2*bs:Nat):Int))) Z (.int (by rw [Zj ow];omega))
  obtain ⟨F,O⟩:=O.nM [2,1,0,6] [0,1]
  exact ⟨((2*bs),(l5)),F,⟨by omega,by omega,hn5,hu5,hp5,hB5⟩,O,by omega⟩
 have hg:Zak TxD.id l=l3:=(Zde hp3 (Zos hB3 (by simp at hc1;omega))).symm
 refine Ym (Zg (Zg (Zo ?_)))
 have O:=O.turn 1 Z (r':=RS.hp (ZO 36 3 rTx (Zak TxD.id l) v)) (fun _ _ _ _ h=>by rw [hg];exact h)
 refine ZE hG O Z .nil .none rfl
theorem Zta (v : Value) (l : List TxD)  (hll : l.length ≤ 1000000) (hu : Unl TxD.id l) (f : FuncId) (fn : Func) (cps : List PV) (hf : prog.funcs[f]? = some fn) (hbd : fn.body.isSome = true) (hnn : (fn.name == "runtime.NumGoroutine") = false) (hw : ∀ x y : TxD, FnP prog f (.agg (rTx x) :: .agg (rTx y) :: cps) (.int .i64 (Zdl (TxD.id x) (TxD.id y)))) : FnG prog 178 1 [.is v, .clos f cps] [ZO 36 3 rTx l v] (.tup []) (fun _ => [ZO 36 3 rTx (Zak TxD.id l) v]) := by
 refine FnG.mk func178 Z ntmps178 Z kr fun B F0 a w F V hG O=>?_
 replace O:=O.turn 1 Z (r':=.ob (.val v) (ZO 36 3 rTx l)) (fun _ _ _ _ h=>h)
 refine Zh O (qR rr (qR rr (qf (Zap 1 YbP .is) r1 r1 (qR rr (qf (ZW 1 (ZtL v l hll hu f fn cps hf hbd hnn hw) func244 Z kr (Args.three .t .t .t)) r3 r1 qZ))))) V [] [1,0] Z Z fun a w F O=>?_
 have hg:Zak TxD.id l=Zak TxD.id l:=rfl
 have O:=O.turn 1 Z (r':=RS.hp (ZO 36 3 rTx (Zak TxD.id l) v)) (fun _ _ _ _ h=>by rw [hg];exact h)
 refine ZE hG O Z .nil .none rfl
end Go.Proofs.YtfecljadegkmdaaGreat
