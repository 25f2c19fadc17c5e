/- Laws and walks. No condition beyond what each says. -/
import Derived.Test.YtlaaiihdhockcaaGreatDoorJ6
namespace Go.Proofs.YtlaaiihdhockcaaGreatDoor
open Go Go.Gm Tryz
set_option linter.unusedVariables false
set_option linter.unusedSimpArgs false
set_option maxHeartbeats 4000000
set_option maxRecDepth 8000
theorem ZbQ.prev {n:Nat} {E:List ZT} {O I:List (List ZL)} (h:ZbQ n E O I) (mask u:Int):Zdf (adjO I mask u) ∧ ∀ v,v ∈ adjO I mask u ↔ ∃ x ∈ E,x.dst=u∧ofB mask x.kind=true∧x.src=v:=by
 by_cases hu:0≤u∧u<I.length
 ·unfold adjO
  rw [Yf hu]
  refine ⟨(Za6 _).1,fun v=>?_⟩
  rw [(Za6 _).2,YD]
  constructor
  ·rintro ⟨e,h1,h2⟩
   obtain ⟨h3,h4⟩:=YH.1 h1
   obtain ⟨x,x1,x2,rfl⟩:=(h.im u.toNat (by have:=h.il;omega) e).1 h3
   exact ⟨x,x1,by omega,h4,h2⟩
  ·rintro ⟨x,x1,x2,x3,x4⟩
   exact ⟨endI x,YH.2 ⟨(h.im u.toNat (by have:=h.il;omega) _).2 ⟨x,x1,by omega,rfl⟩,x3⟩,x4⟩
 ·unfold adjO
  rw [Ye hu]
  refine ⟨List.Pairwise.nil,fun v=>⟨fun k=>(by cases k),?_⟩⟩
  rintro ⟨x,x1,x2,_⟩
  have:=(ZM.1 (h.ok x x1)).2.1
  have:=h.il
  exact absurd ⟨by omega,by omega⟩ hu
theorem ZbQ.prevR {n:Nat} {E:List ZT} {O I:List (List ZL)} (h:ZbQ n E O I) (mask:Int):(∀ x,∀ u ∈ adjO I mask x,0≤u∧u<(n:Int)) ∧ ∀ x,(adjO I mask x).length≤n:=by
 have h1:∀ x,∀ u ∈ adjO I mask x,0≤u∧u<(n:Int):=fun x u hu=>by
  obtain ⟨y,y1,_,_,y4⟩:=((h.prev mask x).2 u).1 hu
  have:=(ZM.1 (h.ok y y1)).1
  omega
 exact ⟨h1,fun x=>ZcZ ((h.prev mask x).1.imp fun h=>by omega) (h1 x)⟩
inductive Zgn (prev:Int→List Int) (least t:Int):Nat→Int→Prop
 | zero:Zgn prev least t 0 t
 | step {k:Nat} {u x:Int} (h:u ∈ prev x) (hl:least≤u) (r:Zgn prev least t k x):Zgn prev least t (k+1) u
def ZfP (n:Nat) (prev:Int→List Int) (least t:Int) (d:List Int):Prop:=d.length=n ∧ ∀ u:Nat,u<n→(Nn d u = -1 ∧ ∀ k,¬ Zgn prev least t k u) ∨ ∃ k:Nat,Nn d u=k∧Zgn prev least t k u ∧ ∀ j,Zgn prev least t j u→k≤j
structure ZlU (n:Nat) (prev:Int→List Int) (least t:Int) (d q:List Int):Prop where
 len:d.length=n
 start:0≤t∧t<n∧fI d t=0
 neg:∀ u:Int,0≤u→u<n → -1≤fI d u
 qd:∀ x ∈ q,0≤x∧x<n∧0≤fI d x
 nd:q.Nodup
 sound:∀ u:Int,0≤u→u<n→0≤fI d u→Zgn prev least t (fI d u).toNat u
 sort:q.Pairwise fun a b=>fI d a≤fI d b
 near:∀ x,q.head? = some x→(∀ y ∈ q,fI d y≤fI d x+1) ∧ ∀ u:Int,0≤u→u<n→u ∉ q→fI d u≤fI d x
 clos:∀ x:Int,0≤x→x<n→0≤fI d x→x ∉ q → ∀ u ∈ prev x,least≤u→0≤fI d u∧fI d u≤fI d x+1
structure ZjZ (n:Nat) (prev:Int→List Int) (least t:Int) (d q:List Int) (x:Int) (done:List Int):Prop where
 len:d.length=n
 start:0≤t∧t<n∧fI d t=0
 neg:∀ u:Int,0≤u→u<n → -1≤fI d u
 qd:∀ x ∈ q,0≤x∧x<n∧0≤fI d x
 nd:q.Nodup
 sound:∀ u:Int,0≤u→u<n→0≤fI d u→Zgn prev least t (fI d u).toNat u
 sort:q.Pairwise fun a b=>fI d a≤fI d b
 here:0≤x∧x<n∧0≤fI d x∧x ∉ q
 near:(∀ y ∈ q,fI d x≤fI d y∧fI d y≤fI d x+1) ∧ ∀ u:Int,0≤u→u<n→u ∉ q→fI d u≤fI d x
 clos:∀ z:Int,0≤z→z<n→z≠x→0≤fI d z→z ∉ q → ∀ u ∈ prev z,least≤u→0≤fI d u∧fI d u≤fI d z+1
 seen:∀ u ∈ done,least≤u→0≤fI d u∧fI d u≤fI d x+1
section
variable {n:Nat} {prev:Int→List Int} {least t:Int} {d q:List Int} {x:Int} {seen:List Int}
theorem ZlU.first (ht:0≤t∧t<n):ZlU n prev least t ((List.replicate n (-1)).set t.toNat 0) [t]:=by
 have e:fI ((List.replicate n (-1)).set t.toNat 0)=Zbp (fI (List.replicate n (-1))) t 0:=Zbn (by simpa using ht)
 have e2:∀ u:Int,0≤u→u<n→fI (List.replicate n (-1)) u = -1:=fun u h1 h2=>by
  rw [Zax h1,nth_eq (by simp;omega)];simp
 have e3:∀ u:Int,0≤u→u<n→u≠t→fI ((List.replicate n (-1)).set t.toNat 0) u = -1:=fun u h1 h2 h3=>by rw [e,ZZ h3];exact e2 u h1 h2
 have e4:fI ((List.replicate n (-1)).set t.toNat 0) t=0:=by rw [e,Zv]
 refine ⟨by simp,⟨ht.1,ht.2,e4⟩,fun u h1 h2=>?_,fun z hz=>?_,by simp,fun u h1 h2 h3=>?_,by simp,fun z hz=>?_,fun z h1 h2 h3 h4=>?_⟩
 ·by_cases h:u=t
  ·rw [h,e4];omega
  ·rw [e3 u h1 h2 h];omega
 ·rw [Yd.1 hz];exact ⟨ht.1,ht.2,by rw [e4];omega⟩
 ·by_cases h:u=t
  ·rw [h,e4];exact .zero
  ·rw [e3 u h1 h2 h] at h3;omega
 ·have hz:t=z:=by simpa using hz
  subst hz
  refine ⟨fun y hy=>by rw [Yd.1 hy];omega,fun u h1 h2 h3=>?_⟩
  rw [e3 u h1 h2 (by simpa using h3),e4];omega
 ·have h5:z≠t:=by simpa using h4
  rw [e3 z h1 h2 h5] at h3;omega
theorem ZlU.pop (h:ZlU n prev least t d (x :: q)):ZjZ n prev least t d q x []:=by
 have hx:=h.qd x (by simp)
 obtain ⟨n1,n2⟩:=h.near x rfl
 have hnd:=YaF.1 h.nd
 have hs:=Yq.1 h.sort
 refine ⟨h.len,h.start,h.neg,fun z hz=>h.qd z (by simp [hz]),hnd.2,h.sound,hs.2,⟨hx.1,hx.2.1,hx.2.2,hnd.1⟩,⟨fun y hy=>⟨hs.1 y hy,n1 y (by simp [hy])⟩,fun u h1 h2 h3=>?_⟩,fun z h1 h2 h3 h4 h5=>h.clos z h1 h2 h4 (by simp [h3,h5]),by simp⟩
 by_cases e:u=x
 ·rw [e];exact Yak _
 ·exact n2 u h1 h2 (by simp [e,h3])
theorem ZjZ.skip {u:Int} (h:ZjZ n prev least t d q x seen) (hu:0≤u∧u<n) (hs:least≤u→0≤fI d u):ZjZ n prev least t d q x (seen ++ [u]):=by
 refine ⟨h.len,h.start,h.neg,h.qd,h.nd,h.sound,h.sort,h.here,h.near,h.clos,fun z hz hl=>?_⟩
 rcases Yu.1 hz with hz | hz
 ·exact h.seen z hz hl
 ·rw [Yd.1 hz] at hl ⊢
  refine ⟨hs hl,?_⟩
  by_cases hq:u ∈ q
  ·exact (h.near.1 u hq).2
  ·have:=h.near.2 u hu.1 hu.2 hq;omega
theorem ZjZ.put {u:Int} (h:ZjZ n prev least t d q x seen) (hu:0≤u∧u<n) (hp:u ∈ prev x) (hl:least≤u) (h0:fI d u<0):ZjZ n prev least t (d.set u.toNat (fI d x+1)) (q ++ [u]) x (seen ++ [u]):=by
 have hx:=h.here
 have e:fI (d.set u.toNat (fI d x+1))=Zbp (fI d) u (fI d x+1):=Zbn (by rw [h.len];exact hu)
 have eu:fI (d.set u.toNat (fI d x+1)) u=fI d x+1:=by rw [e,Zv]
 have ne:∀ {z:Int},z≠u→fI (d.set u.toNat (fI d x+1)) z=fI d z:=fun hz=>by rw [e,ZZ hz]
 have hxu:x≠u:=fun k=>by rw [k] at hx;omega
 have huq:u ∉ q:=fun k=>by have:=(h.qd u k).2.2;omega
 have hqu:∀ z ∈ q,z≠u:=fun z hz k=>huq (k ▸ hz)
 have htu:t≠u:=fun k=>by have:=h.start.2.2;rw [k] at this;omega
 have hd0:∀ z:Int,z≠u→fI (d.set u.toNat (fI d x+1)) z=fI d z:=fun z hz=>ne hz
 refine ⟨by simp [h.len],⟨h.start.1,h.start.2.1,by rw [ne htu];exact h.start.2.2⟩,fun z h1 h2=>?_,fun z hz=>?_,?_,fun z h1 h2 h3=>?_,?_,⟨hx.1,hx.2.1,by rw [ne hxu];exact hx.2.2.1,?_⟩,⟨fun y hy=>?_,fun z h1 h2 h3=>?_⟩,fun z h1 h2 h3 h4 h5 y hy hly=>?_,fun z hz hlz=>?_⟩
 ·by_cases k:z=u
  ·rw [k,eu];omega
  ·rw [ne k];exact h.neg z h1 h2
 ·rcases Yu.1 hz with hz | hz
  ·rw [ne (hqu z hz)];exact h.qd z hz
  ·rw [Yd.1 hz,eu];exact ⟨hu.1,hu.2,by omega⟩
 ·exact List.nodup_append.2 ⟨h.nd,by simp,fun a ha b hb k=>huq (by rw [Yd.1 hb] at k;exact k ▸ ha)⟩
 ·by_cases k:z=u
  ·rw [k,eu]
   rw [show (fI d x+1).toNat=(fI d x).toNat+1 by omega]
   exact .step hp hl (h.sound x hx.1 hx.2.1 hx.2.2.1)
  ·rw [ne k] at h3 ⊢;exact h.sound z h1 h2 h3
 ·refine Ybs.2 ⟨List.Pairwise.imp_of_mem (fun {a b} ha hb k=>?_) h.sort,by simp,fun a ha b hb=>?_⟩
  ·rw [ne (hqu a ha),ne (hqu b hb)];exact k
  ·rw [Yd.1 hb,eu,ne (hqu a ha)];exact (h.near.1 a ha).2
 ·simp [hx.2.2.2,hxu]
 ·rcases Yu.1 hy with hy | hy
  ·rw [ne (hqu y hy),ne hxu];exact h.near.1 y hy
  ·rw [Yd.1 hy,eu,ne hxu];omega
 ·have h3':z ∉ q∧z≠u:=by simpa using h3
  rw [ne h3'.2,ne hxu];exact h.near.2 z h1 h2 h3'.1
 ·have h5':z ∉ q∧z≠u:=by simpa using h5
  rw [ne h5'.2] at h4 ⊢
  have h6:=h.clos z h1 h2 h3 h4 h5'.1 y hy hly
  by_cases k:y=u
  ·rw [k] at h6;omega
  ·rw [ne k];exact h6
 ·rw [ne hxu]
  by_cases k:z=u
  ·rw [k,eu];omega
  ·rw [ne k]
   rcases Yu.1 hz with hz | hz
   ·exact h.seen z hz hlz
   ·exact absurd (Yd.1 hz) k
theorem ZjZ.done (h:ZjZ n prev least t d q x (prev x)):ZlU n prev least t d q:=by
 refine ⟨h.len,h.start,h.neg,h.qd,h.nd,h.sound,h.sort,fun z hz=>?_,fun z h1 h2 h3 h4=>?_⟩
 ·have hm:z ∈ q:=List.mem_of_head? hz
  refine ⟨fun y hy=>?_,fun u h1 h2 h3=>?_⟩
  ·have a:=(h.near.1 z hm).1
   have b:=(h.near.1 y hy).2
   omega
  ·have a:=(h.near.1 z hm).1
   have b:=h.near.2 u h1 h2 h3
   omega
 ·by_cases e:z=x
  ·rw [e];exact h.seen
  ·exact h.clos z h1 h2 e h3 h4
theorem ZlU.dist (hp:∀ x,∀ u ∈ prev x,0≤u∧u<n) (h:ZlU n prev least t d []):ZfP n prev least t d:=by
 have key:∀ (j:Nat) (u:Int),Zgn prev least t j u→0≤u∧u<n∧0≤fI d u∧fI d u≤j:=fun j u hw=>by
  induction hw with
  | zero=>exact ⟨h.start.1,h.start.2.1,by rw [h.start.2.2];omega,by rw [h.start.2.2];omega⟩
  | step h1 hl _ ih=>
   obtain ⟨i1,i2,i3,i4⟩:=ih
   obtain ⟨k1,k2⟩:=h.clos _ i1 i2 i3 (by simp) _ h1 hl
   have:=hp _ _ h1
   exact ⟨this.1,this.2,k1,by omega⟩
 refine ⟨h.len,fun u hu=>?_⟩
 have e:Nn d u=fI d (u:Int):=by rw [Zax ow];rfl
 rw [e]
 have hneg:=h.neg u ow ow
 by_cases h0:0≤fI d (u:Int)
 ·exact .inr ⟨(fI d (u:Int)).toNat,by omega,h.sound u ow ow h0,fun j hj=>by have:=(key j u hj).2.2.2;omega⟩
 ·exact .inl ⟨by omega,fun k hk=>h0 (key k u hk).2.2.1⟩
theorem ZfP.one {d e:List Int} (h:ZfP n prev least t d) (k:ZfP n prev least t e):d=e:=by
 refine Zcj (by rw [h.1,k.1]) fun j hj=>?_
 rw [h.1] at hj
 rcases h.2 j hj with ⟨a1,a2⟩ | ⟨i,a1,a2,a3⟩ <;> rcases k.2 j hj with ⟨b1,b2⟩ | ⟨i',b1,b2,b3⟩
 ·rw [a1,b1]
 ·exact absurd b2 (a2 _)
 ·exact absurd a2 (b2 _)
 ·have:=a3 _ b2;have:=b3 _ a2;omega
theorem ZjZ.room (h:ZjZ n prev least t d q x seen):q.length+1≤n:=ZcZ (l:=x :: q) (YaF.2 ⟨h.here.2.2.2,h.nd⟩) fun y hy=>by
 rcases Yh.1 hy with rfl | hy
 ·exact ⟨h.here.1,h.here.2.1⟩
 ·exact ⟨(h.qd y hy).1,(h.qd y hy).2.1⟩
end
def negC (d:List Int):Nat:=d.countP fun z=>decide (z<0)
theorem ZiB {d:List Int} {i:Nat} {c:Int} (hi:i<d.length) (h0:Nn d i<0) (hc:0≤c):negC (d.set i c)+1=negC d:=by
 rw [nth_eq hi] at h0
 unfold negC
 rw [List.countP_set hi,Yy h0,YW (show ¬ c<0 by omega)]
 have:0<d.countP fun z=>decide (z<0):=List.countP_pos_iff.2 ⟨d[i],Ybi hi,Yy h0⟩
 simp
 omega
theorem ZoB (n:Nat) (prev:Int→List Int) (least t:Int):∃ d,ZfP n prev least t d:=by
 refine Zhs (P:=fun u m=>(m = -1 ∧ ∀ k,¬ Zgn prev least t k u) ∨ ∃ k:Nat,m=k∧Zgn prev least t k u ∧ ∀ j,Zgn prev least t j u→k≤j) n fun u _=>?_
 by_cases h:∃ k,Zgn prev least t k (u:Int)
 ·obtain ⟨k,hk⟩:=h
  obtain ⟨m,⟨h1,h2⟩,h3⟩:=Znw (P:=fun m=>0≤m∧Zgn prev least t m.toNat u) (fun x hx=>hx.1) (u:=k) ⟨by omega,by simpa using hk⟩
  exact ⟨m,.inr ⟨m.toNat,by omega,h2,fun j hj=>by have:=h3 j ⟨by omega,by simpa using hj⟩;omega⟩⟩
 ·exact ⟨-1,.inl ⟨rfl,fun k hk=>h ⟨k,hk⟩⟩⟩
def Zfu (n:Nat) (prev:Int→List Int) (least t:Int) (d q:List Int):Prop:=ZlU n prev least t d q ∧ ∀ z:Int,fI d z+(negC d:Int)≤n
def Zdl (n:Nat) (prev:Int→List Int) (least t:Int) (d q:List Int) (x:Int) (seen:List Int):Prop:=ZjZ n prev least t d q x seen ∧ ∀ z:Int,fI d z+(negC d:Int)≤n
section
variable {n:Nat} {prev:Int→List Int} {least t:Int} {d q:List Int} {x:Int} {seen:List Int}
theorem Zfu.first (ht:0≤t∧t<n):Zfu n prev least t ((List.replicate n (-1)).set t.toNat 0) [t]:=by
 have hlt:t.toNat<n:=by omega
 have h1:=ZiB (d:=List.replicate n (-1)) (i:=t.toNat) (c:=0) (by simpa using hlt) (by rw [nth_eq (by simpa using hlt)];simp) (Yak 0)
 have h2:negC (List.replicate n (-1))=n:=by unfold negC;rw [List.countP_replicate];simp
 refine ⟨ZlU.first ht,fun z=>?_⟩
 have hz:fI ((List.replicate n (-1)).set t.toNat 0) z≤0:=by
  rw [Zbn (by simpa using ht)]
  unfold Zbp
  split
  ·exact Yak 0
  ·unfold fI
   split
   ·by_cases h:z.toNat<n
    ·rw [nth_eq (by simpa using h)];simp
    ·unfold Nn;simp [Yaf,show n≤z.toNat by omega]
   ·exact Yak 0
 omega
theorem Zfu.pop (h:Zfu n prev least t d (x :: q)):Zdl n prev least t d q x []:=⟨h.1.pop,h.2⟩
theorem Zdl.skip {u:Int} (h:Zdl n prev least t d q x seen) (hu:0≤u∧u<n) (hs:least≤u→0≤fI d u):Zdl n prev least t d q x (seen ++ [u]):=⟨h.1.skip hu hs,h.2⟩
theorem Zdl.put {u:Int} (h:Zdl n prev least t d q x seen) (hu:0≤u∧u<n) (hp:u ∈ prev x) (hl:least≤u) (h0:fI d u<0):Zdl n prev least t (d.set u.toNat (fI d x+1)) (q ++ [u]) x (seen ++ [u])∧negC (d.set u.toNat (fI d x+1))+1=negC d:=by
 have hn:=ZiB (d:=d) (i:=u.toNat) (c:=fI d x+1) (by rw [h.1.len];omega) (by rw [← Zax hu.1];exact h0) (by have:=h.1.here.2.2.1;omega)
 refine ⟨⟨h.1.put hu hp hl h0,fun z=>?_⟩,hn⟩
 rw [Zbn (by rw [h.1.len];exact hu)]
 unfold Zbp
 have h1:=h.2 x
 have h2:=h.2 z
 split <;> omega
theorem Zdl.done (h:Zdl n prev least t d q x (prev x)):Zfu n prev least t d q:=⟨h.1.done,h.2⟩
theorem Zdl.val (h:Zdl n prev least t d q x seen):0≤fI d x∧fI d x≤n:=by
 have:=h.2 x
 exact ⟨h.1.here.2.2.1,by omega⟩
end
theorem Zmi (O I:List (List ZL)) (m:Nat) (u mask:Int) (hI:∀ l ∈ I,l.length≤1000000) (hOI:I.length=O.length):FnP prog 50 [ZeF O I m,.int .i64 u,.int .i64 mask] (.sl Zk (adjO I mask u)):=by
 refine FnP.mk func50 V ntmps50 V fun B a w F J hfr G=>Ya ?_
 refine rZ G (qC qZ) J [6,2,1,0] [0] fun G=>(Ya (Ya ?_))
 refine rZ G (qR rr (qR rr (qf (oP (Zdp O I m u) func60 (Args.two .t .t)) r2 qz (qf (o_not .t) r1 qz qZ)))) J [10,6,2,1,0] [0] fun G=>?_
 refine Zc G V (fun hc0=>?_) (fun hc0=>?_)
 ·have hg:[] = adjO I mask u:=by unfold adjO;rw [Ye (by have h9:=hc0;simp at h9;omega)]
  refine Ya (rZ G (qC qZ) J [6,2,1,0] [0] fun G=>(Yl (Zw ?_)))
  refine Zz hfr G V V V (.trans .nilSl (.sl hg))
 have hth:0≤u∧u<I.length:=by have h9:=hc0;simp at h9;omega
 have hg:(Zf3 (((Nn I u.toNat).filter fun e=>ofB mask e.kind).map ZL.node))=adjO I mask u:=by unfold adjO;rw [Yf hth]
 refine Yg (Za (Ya (Zb G (qR rr (qf (o_nilCheck_ref .t) r1 qz (qf (oG 1 .t) r1 qz (qf (oR false 1 .t) r1 qz (qR rr (qf (o_indexAddr_sl (sz:=1) (.mk YbK kr) (by intro x;rfl) .t .t (by exact hth.1) (by exact hth.2)) r2 qz (qf (oR false 1 .t) r1 qz (qR rr (qf (oP (dgNodesOf_c (Nn I u.toNat) mask (hI _ (nth_mem ow))) func64 (Args.two .t .t)) r2 qz (qO rr qZ)))))))))) J [6] [0] V V fun a w F G=>?_)))
 try simp only [Yb] at G
 refine Za (Yl (Zz hfr G V V V (.sl hg)))
theorem ZpR (E:List ZT) (O I:List (List ZL)) (m:Nat) (mask node least:Int) (h:ZbQ O.length E O I) (hn1:1≤O.length) (hn:O.length≤4096) (hE:E.length≤1000000) (hs0:least≤node) (hs1:0≤node) (hs2:node<O.length) (D:List Int) (hD:ZfP O.length (fun x=>adjO I mask x) least node D):FnP prog 16 [ZeF O I m,.int .i64 mask,.int .i64 node,.int .i64 least] (.sl Zk D):=by
 refine FnP.mk func16 V ntmps16 V fun B a w F J hfr G=>?_
 obtain ⟨hpr,hpl⟩:=h.prevR mask
 refine Ya (rZ G (qC qZ) J [8,3,2,1,0] [0] fun G=>Ya ?_)
 refine Ze G (qR rr (qR rr (qR rr (qf (oB [(0,.tmp 16),(1,.tmp 17),(2,.tmp 18)] [.pointer none,.int .i64 0,.int .i64 0] [(0,1),(1,1),(2,1)] (.one V .t Zlo kr (.one V .t one_int kr (.one V .t one_int kr .nil)))) r3 qz (qf (oH [.pointer none,.int .i64 0,.int .i64 0] 101) trivial qz (qS 3 101 r2 r1 qZ)))))) J [9,8,3,2,1,0] [101,0] (fun _=>rfl) (fun _=>rfl) fun τ a w F G=>?_
 try dsimp only [RS.sub,SF.sub,CF.sub,csub,Anc.sub,List.map,Zh,xL,xM,Nat.reduceAdd,xD,xE,xT,xU,xC,xN,zCF,Zk] at G
 generalize τ 9=v9 at G
 refine Za (Ya ?_)
 replace G:=G.fresh 102 rfl
 refine Ze G (qe 3 101 r1 r1 (qf (o_callN 102 (Zo9 O I m mask least ow ow) func45 V kr (Args.one (.pagg .t)) pvOne1) r1 r1 (qO rr qZ))) J [10,9,8,3,2,1,0] [102,101,0] (fun _=>rfl) (fun _=>rfl) fun τ a w F G=>?_
 try dsimp only [RS.sub,SF.sub,CF.sub,csub,Anc.sub,List.map,xD,xE,xT,xU,ldSF,Zk] at G
 generalize τ 21=v21 at G
 refine Za (Ya (Ya (rZ G (qe 3 101 r1 r1 (qR rr (qf (oP (Zog O I m mask least node) func46 (Args.two (.pagg .t) .t)) r2 qz (qf (o_not .t) r1 qz qZ)))) J [25,10,8,3,2,1,0] [102,101,0] fun G=>?_)))
 refine Zc G V (fun hc0=>?_) (fun hc0=>?_)
 ·simp at hc0;omega
 refine Yg (Za (Ya ?_))
 replace G:=G.fresh 103 rfl
 refine Ze G (qR rr (qf (oP (ZbB O I m) func37 (Args.one .t)) r1 qz (qf (o_callN 103 (Zoz _) func47 V kr (Args.one .t) PV.ptr_one) r1 r1 (qO rr qZ)))) J [11,10,8,3,2,1,0] [103,102,101,0] (fun _=>rfl) (fun _=>rfl) fun τ a w F G=>?_
 try dsimp only [RS.sub,SF.sub,CF.sub,csub,Anc.sub,List.map,Zk] at G
 generalize τ 29=v29 at G
 obtain ⟨_,_,_,ho⟩:=G.obGet 103 rfl
 obtain ⟨qb,rfl⟩:=ZnP ho
 clear ho
 replace G:=G.turn 103 V (r':=RS.hp (rqH (.pointer (some ⟨qb,0,none⟩)) (Za7 (O.length:Int)) [])) (fun _ _ _ _ h=>h)
 obtain ⟨F,G⟩:=G.nM [11,10,8,3,2,1,0] [103,102,101,0]
 rw [Zgh ow] at G
 refine Za (Ya (Zb G (qR rr (qR rr (qf (o_indexAddr_row (sz:=1) 102 (.mk YbA kr) .is .t ow (by rw [YV];omega) (by rfl)) r2 r1 (qf (Zt (R:=Zk) (sz:=1) (v:=0) 102 .t (by intro x;rfl) (by rw [YV];omega) qi V one_int kr) r1 r1 qZ)))) J [11,10,8,3,2,1,0] [103,102,101,0] V V fun a w F G=>?_))
 try simp only [Yb] at G
 refine Za (Ya (rZ G (qR rr (qR rr (qf (o_callG1 103 (Zip qb (O.length:Int) [] node (by simp;omega)) func48 V kr (Args.two .t .t)) r2 r1 qZ))) J [11,10,8,3,1,0] [103,102,101,0] fun G=>(Ya (Ya ?_))))
 refine rZ G (qR rr (qf (o_callG1 103 (Zkh qb (O.length:Int) [node]) func49 V kr (Args.one .t)) r1 r1 (qR rr (qf (o_extract .t V) r1 qz (qf (o_extract .t V) r1 qz (qO rr (qO rr qZ))))))) J [13,12,11,10,8,3,1,0] [103,102,101,0] fun G=>Yk ?_
 refine Zl (σ:=List Int×List Int) [0,1,3,8,10,11] [0,101] (fun s=>[(12,.pv (.int .i64 (s.2.headD 0))),(13,.pv (.bool (decide (s.2≠[]))))]) (fun s=>[(102,.ob (.val v21) (Zo 3 1 Zk s.1)),(103,RS.hp (rqH (.pointer (some ⟨qb,0,none⟩)) (O.length:Int) s.2.tail))]) (fun s=>Zfu O.length (fun x=>adjO I mask x) least node s.1 s.2) (fun s=>2*negC s.1+s.2.length) (_,([node])) G ⟨rfl,rfl,rfl,rfl,rfl,rfl,rfl,rfl,tv⟩ ⟨rfl,rfl,rfl,rfl,tv⟩ (Zfu.first ⟨hs1,by omega⟩) ?_
 clear G;intro s a w F hC G
 obtain ⟨d,q⟩:=s
 try dsimp only at hC
 obtain ⟨F,G⟩:=G.nM [13,12,11,10,8,3,1,0] [103,102,101,0]
 try dsimp only at G
 have hBI:Zfu O.length (fun x=>adjO I mask x) least node d q:=hC
 refine Ya (Ya (rZ G (qR rr qZ) J [41,13,12,11,10,8,3,1,0] [103,102,101,0] fun G=>?_))
 refine Zc G V (fun hc1=>?_) (fun hc1=>?_)
 ·obtain ⟨x,q,rfl⟩:∃ x l,q=x :: l:=List.exists_cons_of_ne_nil (by simpa using hc1)
  try dsimp only [List.headD_cons,List.tail_cons] at G
  have hM0:=hBI.pop
  have hpx:=hpl x
  refine Yg (Za (Ya (Yk (Ya (rZ G (qR rr (qR rr (qR rr (qf (oP (Zmi O I m x mask (fun l hl=>(h.inn.r hE l hl).1) (by rw [h.ol,h.il])) func50 (Args.three .t .t .t)) r3 qz (qu YbA r1 (qJ qZ)))))) J [52,51,50,13,12,11,10,8,3,1,0] [103,102,101,0] fun G=>Yk ?_)))))
  refine Zl (σ:=(Nat)×(List Int)×(List Int)) [0,1,3,8,10,11,12,13,50,51] [0,101] (fun s=>[(52,.pv (.int .i64 (s.1:Int)))]) (fun s=>[(102,.ob (.val v21) (Zo 3 1 Zk s.2.1)),(103,RS.hp (rqH (.pointer (some ⟨qb,0,none⟩)) (O.length:Int) s.2.2))]) (fun s=>s.1≤(adjO I mask x).length∧(Zdl O.length (fun x=>adjO I mask x) least node s.2.1 s.2.2 x ((adjO I mask x).take s.1)∧2*negC s.2.1+s.2.2.length≤2*negC d+q.length)) (fun s=>(adjO I mask x).length - s.1) ((0),(d),(q)) G ⟨rfl,rfl,rfl,rfl,rfl,rfl,rfl,rfl,rfl,rfl,rfl,tv⟩ ⟨rfl,rfl,rfl,rfl,tv⟩ ⟨YA _,⟨hM0,YT _⟩⟩ ?_
  clear G;intro s a w F hC G
  obtain ⟨i,d2,q2⟩:=s
  try dsimp only at hC
  obtain ⟨F,G⟩:=G.nM [52,51,50,13,12,11,10,8,3,1,0] [103,102,101,0]
  try dsimp only at G
  obtain ⟨hi,hq⟩:=hC
  obtain ⟨hM,hmu⟩:=hq
  have hdl:=hM.1.len
  have hxr:=hM.1.here
  have hxv:=hM.val
  have hqr:=hM.1.room
  refine Ya (rZ G (qL r2) J [53,52,51,50,13,12,11,10,8,3,1,0] [103,102,101,0] fun G=>Ya ?_)
  refine Zc G V (fun hc2=>?_) (fun hc2=>?_)
  ·have hil:i<(adjO I mask x).length:=by simp at hc2;omega
   have hur:=hpr x _ (nth_mem hil)
   refine Yg (Za (Ya (Yk (Ya (Zb G (qy 1 YbA r2 (qf (oR false 1 .t) r1 qz (qO rr qZ))) J [52,51,50,15,13,12,11,10,8,3,1,0] [103,102,101,0] V V fun a w F G=>?_)))))
   try simp only [Yb] at G
   refine Za (Ya (Zb G (qR rr (qR rr (qf (Zb6 .t .t) r2 qz (qR rr (qm V V V V (qm V V V V (qk V (fun h=>o_indexAddr_row (sz:=1) 102 (.mk YbA kr) (.w h .is) (.w h) ow ow (by rfl)) r3 r1 (qk V (fun h=>Zg (ag:=false) (sz':=1) (sz:=1) 102 (.w h) (by intro x;rfl) ow kr kr kr) r2 r1 (qk V (fun h=>Zbg (.w h) qi) r2 qz (qf (ZF .t .t) r2 qz qZ)))))))))) J [65,52,51,50,15,13,12,11,10,8,3,1,0] [103,102,101,0] V V fun a w F G=>?_))
   try simp only [Yb] at G
   refine Za (Zc G V (fun hc3=>?_) (fun hc3=>?_))
   ·have hput:least≤(Nn (adjO I mask x) i)∧fI d2 (Nn (adjO I mask x) i)<0:=by rw [Zax hur.1];simpa using hc3
    obtain ⟨hP1,hP2⟩:=hM.put hur (nth_mem hil) hput.1 hput.2
    have hval:IntKind.wrap .i64 (Nn d2 x.toNat+1)=fI d2 x+1:=by rw [Zax hxr.1];rw [Zax hxr.1] at hxv;exact Zr ow
    refine Ya (Zb G (qR rr (qR rr (qR rr (qR rr (qf (o_indexAddr_row (sz:=1) 102 (.mk YbA kr) .is .t ow ow (by rfl)) r2 r1 (qf (Zg (ag:=false) (sz':=1) (sz:=1) 102 .t (by intro x;rfl) ow kr kr kr) r1 r1 (qp r1 (qf (o_indexAddr_row (sz:=1) 102 (.mk YbA kr) .is .t ow ow (by rfl)) r2 r1 (qf (Zt (R:=Zk) (sz:=1) (v:=_) 102 .t (by intro x;rfl) ow .t V one_int kr) r2 r1 qZ))))))))) J [52,51,50,15,13,12,11,10,8,3,1,0] [103,102,101,0] V V fun a w F G=>?_)
    try simp only [Yb] at G
    rw [hval] at G
    refine Za (Zb G (qR rr (qR rr (qf (o_callG1 103 (Zip qb (O.length:Int) q2 (Nn (adjO I mask x) i) ow) func48 V kr (Args.two .t .t)) r2 r1 qZ))) J [52,51,50,13,12,11,10,8,3,1,0] [103,102,101,0] V V fun a w F G=>Zi (Za ?_))
    refine rZ G (qp r1 (qR rr qZ)) J [52,51,50,13,12,11,10,8,3,1,0] [103,102,101,0] fun G=>?_
    have hmu3:2*negC (d2.set (Nn (adjO I mask x) i).toNat (fI d2 x+1))+(q2 ++ [(Nn (adjO I mask x) i)]).length≤2*negC d+q.length:=by rw [Yc,Yp];omega
    replace G:=G.ent (i:=52) (s':=.pv (.int .i64 ((i+1:Nat):Int))) V (.int (Zf ow))
    obtain ⟨F,G⟩:=G.nM [51,50,13,12,11,10,8,3,1,0,52] [101,0,103,102]
    exact ⟨((i+1),_,(q2 ++ [(Nn (adjO I mask x) i)])),F,⟨by omega,⟨by rw [ZE hil];exact hP1,hmu3⟩⟩,G,by omega⟩
   have hsk:least≤(Nn (adjO I mask x) i)→0≤fI d2 (Nn (adjO I mask x) i):=fun h9=>by rw [Zax hur.1];have h8:=hc3;simp at h8;exact h8 h9
   refine Yg (Zi (Za (rZ G (qp r1 (qR rr qZ)) J [52,51,50,13,12,11,10,8,3,1,0] [103,102,101,0] fun G=>?_)))
   replace G:=G.ent (i:=52) (s':=.pv (.int .i64 ((i+1:Nat):Int))) V (.int (Zf ow))
   obtain ⟨F,G⟩:=G.nM [51,50,13,12,11,10,8,3,1,0,52] [101,0,103,102]
   exact ⟨((i+1),_,_),F,⟨by omega,⟨by rw [ZE hil];exact hM.skip hur hsk,hmu⟩⟩,G,by omega⟩
  have hil:i=(adjO I mask x).length:=by simp at hc2;omega
  have hBI2:Zfu O.length (fun x=>adjO I mask x) least node d2 q2:=by rw [hil,Yac] at hM;exact hM.done
  have hmu2:2*negC d2+q2.length<2*negC d+(x :: q).length:=by rw [Yx];omega
  refine YI (Zm (Zm (Zu (Zi (Za (rZ G (qR rr (qf (o_callG1 103 (Zkh qb (O.length:Int) q2) func49 V kr (Args.one .t)) r1 r1 (qR rr (qf (o_extract .t V) r1 qz (qf (o_extract .t V) r1 qz (qO rr (qO rr qZ))))))) J [13,12,11,10,8,3,1,0] [103,102,101,0] fun G=>?_))))))
  obtain ⟨F,G⟩:=G.nM [11,10,8,3,1,0,13,12] [101,0,103,102]
  exact ⟨((d2),(q2)),F,hBI2,G,hmu2⟩
 have hqe:q = []:=by simpa using hc1
 subst hqe
 have hfin:d=D:=(ZlU.dist hpr hBI.1).one hD
 refine YI (Zm (Zm (Zu (Za (Ya (rZ G (qR rr (qO rr qZ)) J [8] [103,102,101,0] fun G=>Yl ?_))))))
 obtain ⟨F,G⟩:=G.give 102 8 V rfl
 refine Zz hfr G V V V (.sl hfin)
theorem Sat.giveL {B:Zap} {E:En} {a:Act} {w:World} {F:Fp} {v:Value} {ho:HP} {p:PV} (h:Sat B E a w F) (n i:Nat) (hn:Go.Gm.look E.r n=some (RS.hp ho)) (hi:Go.Gm.look E.s i=some (.pv (.is v))) (hl:Zlr ho v p) :
  ∃ F',Sat B ⟨(i,.pv p) :: E.s,(n,RS.hp (HP.star [])) :: E.r⟩ a w F':=by
 have hle:∀ b,U (fun m=>if m=n then fun _=>False else F m) b→U F b:=fun b ⟨m,hm⟩=>⟨m,by
  by_cases e:m=n
  ·simp only [e,Yo] at hm
  ·simp only [e,Yj] at hm;exact hm⟩
 have hev:=Ev.less w hle
 refine ⟨fun m=>if m=n then fun _=>False else F m,⟨fun m k b hm hk=>?_,fun m b hm=>?_⟩,h.ev.trans hev,h.n,h.df,fun j s hj=>?_,fun m r hm=>?_,fun m b hm=>?_⟩
 ·by_cases e1:m=n
  ·simp only [e1,Yo] at hm
  ·by_cases e2:k=n
   ·simp only [e2,Yo] at hk
   ·simp only [e1,e2,Yj] at hm hk;exact h.wf.dis m k b hm hk
 ·by_cases e1:m=n
  ·simp only [e1,Yo] at hm
  ·simp only [e1,Yj] at hm;exact h.wf.bd m b hm
 ·rw [Zd] at hj
  split at hj
  ·rename_i e
   simp only [YX] at hj;subst hj;subst e
   have hv:Act.tau a i=v:=(h.s i _ hi).1
   show p.p (Act.tau a i) w _
   rw [hv]
   refine hl w (F n) (U F) _ (h.r n _ hn) hle (fun b hb hm=>?_) (fun b hb=>h.wf.bd n b hb)
   obtain ⟨m,hm⟩:=hm
   by_cases e2:m=n
   ·simp only [e2,Yo] at hm
   ·simp only [e2,Yj] at hm
    exact e2 (h.wf.dis m n b hm hb)
  ·exact SF.mono hev (fun _ _=>rfl) (h.s j s hj)
 ·rw [Zd] at hm
  split at hm
  ·rename_i e
   simp only [YX] at hm;subst hm;subst e
   intro b hb
   simp only [Yo] at hb
  ·rename_i e
   have e2:¬ m=n:=fun h=>e h.symm
   simp only [e2,Yj]
   exact RS.mono hev (fun _ _=>rfl) (fun _ _=>rfl) (h.r m r hm)
 ·by_cases e1:m=n
  ·simp only [e1,Yo] at hm
  ·simp only [e1,Yj] at hm
   obtain ⟨r,hr⟩:=h.em m b hm
   exact ⟨r,by rw [Zd,Ye (fun h=>e1 h.symm)];exact hr⟩
theorem Zfi {adj:Int→List Int} {q:List PairD} (ha:∀ u y,y ∈ adj u ↔ (⟨u,y⟩:PairD) ∈ q) {u x:Int} : Zfl adj u x ↔ Zb8 q x u:=by
 have hr:∀ a b,Rch (EJ adj) a b ↔ b ∈ reachQ q a:=fun a b=>by
  rw [(Zj q a).2]
  exact Rch.congr fun c d=>ha c d
 unfold Zfl Zb8
 rw [hr,hr]
theorem Zey {adj:Int→List Int} {q:List PairD} {n:Nat} (ha:∀ u y,y ∈ adj u ↔ (⟨u,y⟩:PairD) ∈ q) (hq:InN n q):ZcQ adj n (Zc2 n q):=by
 refine ⟨labsQ_len n q,fun u hu=>?_⟩
 rw [Zgd hu]
 have hu':There n (u:Int):=⟨by omega,by omega⟩
 refine ⟨(Zfi ha).2 (Zna hu'),fun x hx=>ZoJ (ZaQ.2 ⟨?_,(Zfi ha).1 hx⟩)⟩
 rcases hx with rfl | ⟨h,_⟩
 ·exact hu'
 ·obtain ⟨c,k⟩:=ZfH h
  exact (hq _ ((ha c x).1 k)).2
theorem ZlE {prev:Int→List Int} {q:List PairD} (hp:∀ x u,u ∈ prev x ↔ (⟨u,x⟩:PairD) ∈ q) {v:Int} : ∀ {k:Nat} {u:Int},Zgn prev 0 v k u→u=v∨Rch (EQ_ q) u v
 | _,_,.zero=>.inl rfl
 | _,u,.step (x:=x) h hl r=>by
  have e:Rch (EQ_ q) u x:=.one ((hp x u).1 h)
  rcases ZlE hp r with rfl | k
  ·exact .inr e
  ·exact .inr (e.trans k)
theorem Zn2 {prev:Int→List Int} {q:List PairD} {n:Nat} (hp:∀ x u,u ∈ prev x ↔ (⟨u,x⟩:PairD) ∈ q) (hq:InN n q) {v u x:Int} (h:Rch (EQ_ q) u x):∀ {k:Nat},Zgn prev 0 v k x → ∃ j,0<j∧Zgn prev 0 v j u:=by
 induction h with
 | one e=>intro k r;exact ⟨k+1,by omega,.step ((hp _ _).2 e) (hq _ e).1.1 r⟩
 | step _ e ih=>intro k r;exact ih (.step ((hp _ _).2 e) (hq _ e).1.1 r)
theorem ZgU {prev:Int→List Int} {q:List PairD} {n:Nat} {D:List Int} (hp:∀ x u,u ∈ prev x ↔ (⟨u,x⟩:PairD) ∈ q) (hq:InN n q) {v:Int} (hD:ZfP n prev 0 v D) {u:Nat} (hu:u<n) (hne:(u:Int)≠v):0<Nn D u ↔ v ∈ reachQ q (u:Int):=by
 rw [(Zj q u).2]
 rcases hD.2 u hu with ⟨h1,h2⟩ | ⟨k,h1,h2,_⟩
 ·rw [h1]
  exact ⟨fun h=>absurd h (by decide),fun h=>by obtain ⟨j,_,r⟩:=Zn2 hp hq h .zero;exact absurd r (h2 j)⟩
 ·rw [h1]
  constructor
  ·intro _
   rcases ZlE hp h2 with h | h
   ·exact absurd h hne
   ·exact h
  ·intro _
   cases k with
   | zero=>cases h2;exact absurd rfl hne
   | succ k=>omega
def ZoM (L:List Int):Prop:=∀ k:Nat,k<L.length → ∃ m:Nat,Nn L k=(m:Int)∧m≤k∧Nn L m=(m:Int)
def ZH (L:List Int) (i:Nat) (r:Int):List Int:=((List.range i).filter fun k=>decide (Nn L k=r)).map fun k:Nat=>(k:Int)
def ZD (L:List Int) (i:Nat):List Int:=((List.range i).filter fun k=>decide (Nn L k=(k:Int))).map fun k:Nat=>(k:Int)
def compsL (L:List Int) (i j:Nat):List (List Int):=(ZD L j).map (ZH L i)
theorem Zc6 {L:List Int} {i:Nat} (h:Nn L i=(i:Int)):ZD L (i+1)=ZD L i ++ [(i:Int)]:=by
 unfold ZD
 rw [YaR,YaI,Y7]
 simp [h]
theorem Zc3 {L:List Int} {i:Nat} (h:¬ Nn L i=(i:Int)):ZD L (i+1)=ZD L i:=by
 unfold ZD
 rw [YaR,YaI,Y7]
 simp [h]
theorem Zd2 {L:List Int} {i:Nat} {x:Int} : x ∈ ZD L i ↔ ∃ m:Nat,m<i∧Nn L m=(m:Int)∧(m:Int)=x:=by
 unfold ZD
 simp only [YD,YH,Yae,Yn]
 constructor
 ·rintro ⟨m,⟨h1,h2⟩,h3⟩;exact ⟨m,h1,h2,h3⟩
 ·rintro ⟨m,h1,h2,h3⟩;exact ⟨m,⟨h1,h2⟩,h3⟩
theorem Zco {L:List Int} {i:Nat} {r x:Int} : x ∈ ZH L i r ↔ ∃ m:Nat,m<i∧Nn L m=r∧(m:Int)=x:=by
 unfold ZH
 simp only [YD,YH,Yae,Yn]
 constructor
 ·rintro ⟨m,⟨h1,h2⟩,h3⟩;exact ⟨m,h1,h2,h3⟩
 ·rintro ⟨m,h1,h2,h3⟩;exact ⟨m,⟨h1,h2⟩,h3⟩
theorem Zke {L:List Int} {i:Nat} {r:Int} (h:Nn L i=r):ZH L (i+1) r=ZH L i r ++ [(i:Int)]:=by
 unfold ZH
 rw [YaR,YaI,Y7]
 simp [h]
theorem ZkL {L:List Int} {i:Nat} {r:Int} (h:¬ Nn L i=r):ZH L (i+1) r=ZH L i r:=by
 unfold ZH
 rw [YaR,YaI,Y7]
 simp [h]
theorem Zlm {L:List Int} (hL:ZoM L) {i:Nat} (hi:i≤L.length):ZH L i (i:Int) = []:=by
 cases h:ZH L i (i:Int) with
 | nil=>rfl
 | cons x l=>
  have hx:x ∈ ZH L i (i:Int):=by rw [h];simp
  obtain ⟨m,h1,h2,_⟩:=Zco.1 hx
  obtain ⟨c,e1,e2,_⟩:=hL m ow
  rw [h2] at e1
  omega
theorem ZkK (L:List Int) (i:Nat) (r:Int):(ZH L i r).length≤i:=by
 unfold ZH
 rw [YZ]
 exact YaN (YaQ _ _) (by simp)
theorem ZcN (L:List Int) (i:Nat):(ZD L i).length≤i:=by
 unfold ZD
 rw [YZ]
 exact YaN (YaQ _ _) (by simp)
theorem ZY (L:List Int) (i j:Nat):(compsL L i j).length=(ZD L j).length:=by unfold compsL;simp
theorem ZjT {L:List Int} (hL:ZoM L) {i:Nat} (hi:i<L.length) (h:Nn L i=(i:Int)):compsL L i (i+1)=compsL L i i ++ [[]]:=by
 unfold compsL
 rw [Zc6 h,Y7,List.map_singleton,Zlm hL ow]
theorem ZjF {L:List Int} {i:Nat} (h:¬ Nn L i=(i:Int)):compsL L i (i+1)=compsL L i i:=by
 unfold compsL
 rw [Zc3 h]
theorem ZeU {l:List Nat} (h:l.Nodup):(l.map fun k:Nat=>(k:Int)).Nodup:=by
 rw [List.Nodup,List.pairwise_map]
 exact h.imp fun {a b} hne e=>hne ow
theorem ZiP {l:List Int} (h:l.Nodup) {j k:Nat} (hj:j<l.length) (hk:k<l.length) (e:Nn l k=Nn l j):j=k:=by
 rw [nth_eq hk,nth_eq hj] at e
 have:=Ya8.1 h
 rcases Nat.lt_trichotomy j k with g | g | g
 ·exact absurd e.symm (this j k hj hk g)
 ·exact g
 ·exact absurd e (this k j hk hj g)
theorem Zg3 {L:List Int} {i:Nat} : (ZD L i).Nodup:=ZeU (List.Pairwise.filter _ List.nodup_range)
theorem Zl5 {L:List Int} (hL:ZoM L) {i:Nat} (hi:i<L.length):∃ j,j<(ZD L (i+1)).length∧Nn (ZD L (i+1)) j=Nn L i:=by
 obtain ⟨m,h1,h2,h3⟩:=hL i hi
 have:Nn L i ∈ ZD L (i+1):=Zd2.2 ⟨m,by omega,h3,h1.symm⟩
 obtain ⟨j,hj,e⟩:=Ybg this
 exact ⟨j,hj,by rw [nth_eq hj];exact e⟩
theorem Zc1 {L:List Int} {i j k:Nat} (hk:k<(ZD L j).length):Nn (compsL L i j) k=ZH L i (Nn (ZD L j) k):=by
 rw [nth_eq (by rw [ZY];exact hk),nth_eq hk]
 unfold compsL
 rw [Ya3]
theorem ZjI {L:List Int} {i j:Nat} (hj:j<(ZD L (i+1)).length) (e:Nn (ZD L (i+1)) j=Nn L i):(compsL L i (i+1)).set j (Nn (compsL L i (i+1)) j ++ [(i:Int)])=compsL L (i+1) (i+1):=by
 refine Zcj (by rw [YM,ZY,ZY]) fun k hk=>?_
 rw [YM,ZY] at hk
 rw [ZoQ (by rw [ZY];exact hk),Zc1 hk,Zc1 hj,Zc1 hk]
 split
 ·rename_i h
  subst h
  rw [Zke e.symm]
 ·rename_i h
  rw [ZkL]
  intro h9
  apply h
  have e2:Nn (ZD L (i+1)) k=Nn (ZD L (i+1)) j:=by rw [e];exact h9.symm
  exact ZiP Zg3 hj hk e2
def Z3 (adj:Int→List Int) (ps:List (List Int)):List Int:=ps.flatMap fun p=>if 1<p.length∨Nn p 0 ∈ adj (Nn p 0) then p else []
theorem Zpn {l:List Int} (hd:l.Nodup) {x:Int} (h:1<l.length):∃ y ∈ l,y≠x:=by
 match l,h with
 | a :: b :: l,_=>
  by_cases e:a=x
  ·refine ⟨b,by simp,fun e2=>?_⟩
   rw [YaF] at hd
   exact hd.1 (by rw [e,← e2];simp)
  ·exact ⟨a,by simp,e⟩
theorem ZcQ.labL {adj:Int→List Int} {n:Nat} {L:List Int} (h:ZcQ adj n L) (hadj:∀ u y,y ∈ adj u→0≤y∧y<(n:Int)):ZoM L:=by
 intro k hk
 rw [h.1] at hk
 obtain ⟨h1,h2⟩:=h.2 k hk
 have h3:Nn L k≤(k:Int):=h2 _ (.inl rfl)
 have h4:0≤Nn L k:=by
  rcases h1 with h1 | ⟨h1,_⟩
  ·omega
  ·obtain ⟨c,hc⟩:=ZfH h1
   exact (hadj c _ hc).1
 obtain ⟨m,hm⟩:=Yz h4
 refine ⟨m,hm,by omega,?_⟩
 have hmn:m<n:=by omega
 refine (h.2 m hmn).one ⟨.inl rfl,fun x hx=>?_⟩
 rw [← hm]
 refine h2 x ?_
 rw [← hm] at hx
 rcases hx with hx | ⟨a,b⟩
 ·rw [hx];exact h1
 ·rcases h1 with h1 | ⟨c,d⟩
  ·rw [h1] at a b;exact .inr ⟨a,b⟩
  ·exact .inr ⟨c.trans a,b.trans d⟩
theorem Zft {adj:Int→List Int} {n:Nat} {L:List Int} (h:ZcQ adj n L) {u v:Nat} (hu:u<n) (hv:v<n):Nn L u=Nn L v ↔ Zfl adj (u:Int) (v:Int):=by
 have tr:∀ {a b c:Int},Zfl adj a b→Zfl adj b c→Zfl adj a c:=fun h k=>by
  rcases h with rfl | ⟨h1,h2⟩
  ·exact k
  ·rcases k with rfl | ⟨k1,k2⟩
   ·exact .inr ⟨h1,h2⟩
   ·exact .inr ⟨h1.trans k1,k2.trans h2⟩
 constructor
 ·intro e
  have h1:=(h.2 u hu).1
  have h2:=(h.2 v hv).1
  rw [← e] at h2
  exact tr h1 h2.symm
 ·intro k
  refine (h.2 u hu).one ⟨tr k (h.2 v hv).1,fun x hx=>(h.2 v hv).2 x (tr k.symm hx)⟩
theorem ZjX {adj:Int→List Int} {n:Nat} {L:List Int} (h:ZcQ adj n L) (hadj:∀ u y,y ∈ adj u→0≤y∧y<(n:Int)) {v:Nat} (hv:v<n) :
  (v:Int) ∈ Z3 adj (compsL L n n) ↔ Rch (EJ adj) (v:Int) (v:Int):=by
 have hLn:=h.1
 have hlab:=h.labL hadj
 obtain ⟨m,hm1,hm2,hm3⟩:=hlab v ow
 have hpart:∀ r:Int,(v:Int) ∈ ZH L n r ↔ Nn L v=r:=fun r=>by
  rw [Zco]
  constructor
  ·rintro ⟨k,h1,h2,h3⟩
   have:k=v:=by omega
   subst this;exact h2
  ·intro e;exact ⟨v,hv,e,rfl⟩
 have hroot:(m:Int) ∈ ZD L n:=Zd2.2 ⟨m,by omega,hm3,rfl⟩
 have hin:(v:Int) ∈ Z3 adj (compsL L n n) ↔ 1<(ZH L n (m:Int)).length∨Nn (ZH L n (m:Int)) 0 ∈ adj (Nn (ZH L n (m:Int)) 0):=by
  unfold Z3 compsL
  rw [List.flatMap_map]
  simp only [List.mem_flatMap]
  constructor
  ·rintro ⟨r,hr,hx⟩
   split at hx
   ·rename_i hc
    rw [hpart r,hm1] at hx
    rw [hx];exact hc
   ·cases hx
  ·intro hc
   exact ⟨m,hroot,by rw [Yf hc,hpart];exact hm1⟩
 have hnd:(ZH L n (m:Int)).Nodup:=by
  unfold ZH
  exact ZeU (List.Pairwise.filter _ List.nodup_range)
 have hvp:(v:Int) ∈ ZH L n (m:Int):=(hpart _).2 hm1
 have hmut:∀ x ∈ ZH L n (m:Int),Zfl adj (v:Int) x:=fun x hx=>by
  obtain ⟨k,h1,h2,rfl⟩:=Zco.1 hx
  exact (Zft h hv h1).1 (by rw [hm1,h2])
 rw [hin]
 constructor
 ·rintro (hc | hc)
  ·obtain ⟨y,hy,hne⟩:=Zpn (x:=(v:Int)) hnd hc
   rcases hmut y hy with e | ⟨a,b⟩
   ·exact absurd e hne
   ·exact a.trans b
  ·have hp0:Nn (ZH L n (m:Int)) 0 ∈ ZH L n (m:Int):=nth_mem (by cases e:ZH L n (m:Int) with | nil=>rw [e] at hvp;cases hvp | cons a b=>simp)
   rcases hmut _ hp0 with e | ⟨a,b⟩
   ·rw [e] at hc;exact .one hc
   ·exact a.trans (.trans (.one hc) b)
 ·intro hr
  by_cases hl:1<(ZH L n (m:Int)).length
  ·exact .inl hl
  ·right
   have e:ZH L n (m:Int) = [(v:Int)]:=by
    match hq:ZH L n (m:Int) with
    | []=>rw [hq] at hvp;cases hvp
    | [x]=>rw [hq] at hvp;rw [Yd.1 hvp]
    | a :: b :: l=>rw [hq] at hl;simp at hl
   rw [e]
   show (v:Int) ∈ adj (v:Int)
   obtain ⟨c,hc,hcv⟩:∃ c,EJ adj (v:Int) c∧(c=v∨Rch (EJ adj) c (v:Int)):=by
    have key:∀ {a b:Int},Rch (EJ adj) a b → ∃ c,EJ adj a c∧(c=b∨Rch (EJ adj) c b):=fun h=>by
     induction h with
     | one k=>exact ⟨_,k,.inl rfl⟩
     | step _ k ih=>
      obtain ⟨c,h1,h2⟩:=ih
      refine ⟨c,h1,.inr ?_⟩
      rcases h2 with rfl | h2
      ·exact .one k
      ·exact .step h2 k
    exact key hr
   rcases hcv with rfl | hcv
   ·exact hc
   ·obtain ⟨k,rfl⟩:=Yz (hadj _ _ hc).1
    have hkn:k<n:=by have:=(hadj _ _ hc).2;omega
    have:(k:Int) ∈ ZH L n (m:Int):=Zco.2 ⟨k,hkn,by rw [← hm1];exact ((Zft h hv hkn).2 (.inr ⟨.one hc,hcv⟩)).symm,rfl⟩
    rw [e] at this
    rw [Yd.1 this] at hc
    exact hc
def Zaz (q:List PairD) (E:List ZT) (u v:Int):Prop:=∀ x:ZT,x ∈ E ↔ (x.kind=1∧x.label=0)∧(⟨x.src,x.dst⟩:PairD) ∈ q∧(x.src<u∨(x.src=u∧x.dst<v))
theorem Zaz.start {n:Nat} {q:List PairD} (hq:InN n q):Zaz q [] 0 0:=fun x=>by
 constructor
 ·intro h;cases h
 ·rintro ⟨_,h1,h2⟩
  have h3:=(hq _ h1).1.1
  have h4:=(hq _ h1).2.1
  simp only at h3 h4
  omega
theorem Zaz.put {q:List PairD} {E:List ZT} {u v:Int} (h:Zaz q E u v) (hp:(⟨u,v⟩:PairD) ∈ q):Zaz q (E ++ [⟨u,v,1,0⟩]) u (v+1):=fun x=>by
 rw [Yu,h x,Yd]
 constructor
 ·rintro (⟨h1,h2,h3⟩ | rfl)
  ·exact ⟨h1,h2,by omega⟩
  ·exact ⟨⟨rfl,rfl⟩,hp,.inr ⟨rfl,by show v<v+1;omega⟩⟩
 ·rintro ⟨h1,h2,h3⟩
  by_cases e:x.src=u∧x.dst=v
  ·right
   obtain ⟨a,b,c,d⟩:=x
   simp only at h1 e
   simp [h1,e]
  ·exact .inl ⟨h1,h2,by omega⟩
theorem Zaz.pass {q:List PairD} {E:List ZT} {u v:Int} (h:Zaz q E u v) (hp:(⟨u,v⟩:PairD) ∉ q):Zaz q E u (v+1):=fun x=>by
 rw [h x]
 constructor
 ·rintro ⟨h1,h2,h3⟩;exact ⟨h1,h2,by omega⟩
 ·rintro ⟨h1,h2,h3⟩
  refine ⟨h1,h2,?_⟩
  by_cases e:x.src=u∧x.dst=v
  ·rw [e.1,e.2] at h2;exact absurd h2 hp
  ·omega
theorem Zaz.line {n:Nat} {q:List PairD} {E:List ZT} {u:Int} (hq:InN n q) (h:Zaz q E u n):Zaz q E (u+1) 0:=fun x=>by
 rw [h x]
 constructor
 ·rintro ⟨h1,h2,h3⟩;exact ⟨h1,h2,by omega⟩
 ·rintro ⟨h1,h2,h3⟩
  have h4:=(hq _ h2).2
  simp only at h4
  exact ⟨h1,h2,by omega⟩
theorem Zaz.new {q:List PairD} {E:List ZT} {u v:Int} (h:Zaz q E u v):(⟨u,v,1,0⟩:ZT) ∉ E:=fun k=>by
 have:=((h _).1 k).2.2
 simp only at this
 omega
theorem Zaz.all {n:Nat} {q:List PairD} {E:List ZT} (hq:InN n q) (h:Zaz q E n 0) {a b:Int} : (∃ x ∈ E,x.src=a∧ofB 14 x.kind=true∧x.dst=b) ↔ (⟨a,b⟩:PairD) ∈ q:=by
 constructor
 ·rintro ⟨x,h1,rfl,_,rfl⟩;exact ((h x).1 h1).2.1
 ·intro k
  exact ⟨⟨a,b,1,0⟩,(h _).2 ⟨⟨rfl,rfl⟩,k,.inl (hq _ k).1.2⟩,rfl,by show ofB 14 1=true;decide,rfl⟩
theorem Zav {n v:Nat} (h:v<n):There n (v:Int):=⟨by omega,by omega⟩
theorem Zkf {n:Nat} {q:List PairD} {v:Nat} (hv:v<n):Zon n q (v:Int)=Nn (Zc2 n q) v:=by
 unfold Zon
 rw [Yf (Zav hv),Zgd hv]
theorem ZkR {n:Nat} {q:List PairD} {v:Nat} (hv:v<n):reachB n q (v:Int) (v:Int)=decide ((v:Int) ∈ reachQ q (v:Int)):=by
 unfold reachB
 exact decide_eq_decide.2 ⟨fun h=>h.2,fun h=>⟨Zav hv,h⟩⟩
theorem Zmt {n:Nat} {q:List PairD} {adj:Int→List Int} (ha:∀ u y,y ∈ adj u ↔ (⟨u,y⟩:PairD) ∈ q) (hq:InN n q) {u v:Nat} (hu:u<n) (hv:v<n) :
  decide (Nn (Zc2 n q) u=Nn (Zc2 n q) v)=(decide ((u:Int)=(v:Int)) || (reachB n q (u:Int) (v:Int) && reachB n q (v:Int) (u:Int))):=by
 have h:=Zft (Zey ha hq) hu hv
 rw [Ybn]
 unfold reachB
 simp only [Yn,Yar,YB]
 rw [h,Zfi ha]
 unfold Zb8
 constructor
 ·rintro (e | ⟨a,b⟩)
  ·exact .inl e.symm
  ·exact .inr ⟨⟨Zav hu,a⟩,Zav hv,b⟩
 ·rintro (e | ⟨a,b⟩)
  ·exact .inl e.symm
  ·exact .inr ⟨a.2,b.2⟩
theorem Zm7 {n:Nat} {q:List PairD} {prev:Int→List Int} {D:List Int} (hp:∀ x u,u ∈ prev x ↔ (⟨u,x⟩:PairD) ∈ q) (hq:InN n q) {u v:Nat} (hD:ZfP n prev 0 (v:Int) D) (hu:u<n) (hne:¬ (u:Int)=(v:Int)) :
  decide (0<Nn D u)=reachB n q (u:Int) (v:Int):=by
 unfold reachB
 exact decide_eq_decide.2 ⟨fun h=>⟨Zav hu,(ZgU hp hq hD hu hne).1 h⟩,fun h=>(ZgU hp hq hD hu hne).2 h.2⟩
theorem Zl1 {n:Nat} {q:List PairD} {adj:Int→List Int} (ha:∀ u y,y ∈ adj u ↔ (⟨u,y⟩:PairD) ∈ q) (hq:InN n q) {v:Nat} (hv:v<n) :
  (v:Int) ∈ (Z3 adj (compsL (Zc2 n q) n n)).mergeSort leI ↔ (v:Int) ∈ reachQ q (v:Int):=by
 rw [List.mem_mergeSort,ZjX (Zey ha hq) (fun u y hy=>(hq _ ((ha u y).1 hy)).2) hv,(Zj q (v:Int)).2]
 exact Rch.congr fun c d=>ha c d
def Zk7 (L:List Int) (es:List (ZbI Int)) (j:Nat):Prop:=∀ k:Nat,k<(ZD L j).length→mVal (Nn (ZD L j) k) es=(k:Int)
theorem Zk7.keep {L:List Int} {es:List (ZbI Int)} {i:Nat} (hne:¬ Nn L i=(i:Int)) (h:Zk7 L es i):Zk7 L es (i+1):=by
 unfold Zk7
 rw [Zc3 hne]
 exact h
theorem Zk7.push {L:List Int} {es:List (ZbI Int)} {ck i m:Nat} (hir:Nn L i=(i:Int)) (hm:m=(ZD L i).length) (h:Zk7 L es i):Zk7 L (mPut (Nn L i) (m:Int) (es,ck)).1 (i+1):=by
 subst hm
 intro k hk
 have hnd:=Zg3 (L:=L) (i:=i+1)
 rw [Zc6 hir] at hk hnd ⊢
 rw [ZmD,hir]
 by_cases e:k=(ZD L i).length
 ·rw [Yf (by rw [e,nth_eq (by simp)];simp),e]
 ·have hk2:k<(ZD L i).length:=by rw [Yc] at hk;simp at hk;omega
  have hx:Nn (ZD L i ++ [(i:Int)]) k=Nn (ZD L i) k:=by rw [nth_eq (by simp;omega),nth_eq hk2,Yaq hk2]
  rw [Ye ?_,hx]
  ·exact h k hk2
  ·intro h9
   apply e
   refine (ZiP hnd (j:=(ZD L i).length) (k:=k) (by simp) (by simp;omega) ?_).symm
   rw [h9,nth_eq (by simp)];simp
theorem ZkC {L:List Int} {i:Nat} : ∀ p ∈ compsL L i i,0<p.length:=fun p hp=>by
 unfold compsL at hp
 obtain ⟨r,hr,rfl⟩:=YD.1 hp
 obtain ⟨m,h1,h2,h3⟩:=Zd2.1 hr
 have:r ∈ ZH L i r:=Zco.2 ⟨m,h1,by rw [h2,h3],h3⟩
 exact Ybk this
theorem Zfb {L:List Int} {i j:Nat} : ∀ p ∈ compsL L i j,p.length≤i:=fun p hp=>by
 unfold compsL at hp
 obtain ⟨r,hr,rfl⟩:=YD.1 hp
 exact ZkK _ _ _
theorem Zer {adj:Int→List Int} {ps:List (List Int)} {p:List Int} : Z3 adj (ps ++ [p])=Z3 adj ps++(if 1<p.length∨Nn p 0 ∈ adj (Nn p 0) then p else []):=by
 unfold Z3
 rw [Yah]
 simp
def Zj3 (p:Value×List Int):HP:=Zo 3 1 Zk p.2 p.1
def Zdh (hs:List Value) (L:List (List Int)):List (Value×List Int):=(List.range hs.length).map fun k=>(Nn hs k,Nn L k)
theorem Zm9 (hs:List Value) (L:List (List Int)):(Zdh hs L).length=hs.length:=by unfold Zdh;simp
theorem ZnM {hs:List Value} {L:List (List Int)} {k:Nat} (h:k<hs.length):(Zdh hs L)[k]? = some (Nn hs k,Nn L k):=by unfold Zdh;simp [h]
theorem Zma (hs:List Value) (L:List (List Int)):(Zdh hs L).map (·.1)=hs:=by
 apply Y4 (by simp [Zdh])
 intro j h1 h2
 simp [Zdh,nth_eq h2]
theorem ZlZ {hs:List Value} {L:List (List Int)} (h:hs.length=L.length):(Zdh hs L).map (·.2)=L:=by
 apply Y4 (by simp [Zdh,h])
 intro j h1 h2
 simp [Zdh,nth_eq h2]
def Zpo (L:List (List Int)) (v:Value):HP:=.ex fun hs:List Value=>.and (hs.length=L.length) (.star [.ob (.val v) (Zo 38 1 rV hs),Zaw Zj3 (Zdh hs L)])
theorem Zgi {w:World} {y y':Ys} : ∀ {ps:List (Value×List Int)} {xs:List Value},PVs ((ps.map (·.1)).flatMap rV) xs w y→(∀ p ∈ ps,(PV.sl Zk p.2).p p.1 w y')→PVs ((ps.map (·.2)).flatMap Zmj) xs w y'
 | [],[],_,_=>trivial
 | p :: ps,x :: xs,h,k=>by
  have e:x=p.1:=h.1.2.1
  refine ⟨⟨h.1.1,?_⟩,Zgi (ps:=ps) h.2 fun q hq=>k q (Yw _ hq)⟩
  rw [e];exact k p Y0
 | [],_ :: _,h,_=>h.elim
 | _ :: _,[],h,_=>h.elim
theorem Zjz {L:List (List Int)} {v:Value} : Zlr (Zpo L v) v (.sl Zmj L):=fun w f y y' ⟨hs,hl,h⟩ hle hf hb=>by
 obtain ⟨f1,g1,g2⟩:=ZK h (.ob (.val v) (Zo 38 1 rV hs)) (by simp)
 obtain ⟨f2,m1,m2⟩:=ZK h (Zaw Zj3 (Zdh hs L)) (by simp)
 have hrow:(Zo 38 1 rV hs v).p w f1 y:=g2
 have hfam:stars w y ((Zdh hs L).map fun x=>RS.hp (Zj3 x)) f2:=m2
 obtain ⟨xs,k1,k2,k3⟩:=hrow
 obtain ⟨ad,cap,e8,h8,h9,h10⟩:=Zs k1
 rw [hl] at e8 h8
 refine ⟨ad,cap,e8,h8,h9,?_⟩
 rcases h10 with h10 | ⟨b',rfl,h11,h12⟩
 ·exact .inl (YC (by rw [← hl];exact h10))
 ·have hb':f1 b':=(k3 b').2 h11
  refine .inr ⟨b',0,xs,rfl,hf b' (g1 b' hb'),hb b' (g1 b' hb'),h12,?_⟩
  have key:=Zgi (y:=y) (y':=y') (ps:=Zdh hs L) (xs:=xs) (w:=w) (by rw [Zma];exact k2) fun p hp=>by
   obtain ⟨f3,n1,n2⟩:=ZK hfam (RS.hp (Zj3 p)) (YD.2 ⟨p,hp,rfl⟩)
   exact ZfL w f3 y y' n2 hle (fun b h=>hf b (m1 b (n1 b h))) (fun b h=>hb b (m1 b (n1 b h)))
  rwa [ZlZ hl] at key
theorem Zlz {hs:List Value} {L:List (List Int)} {v:Value} {l:List Int} (h:hs.length=L.length):Zdh (hs ++ [v]) (L ++ [l])=Zdh hs L ++ [(v,l)]:=by
 have e:∀ {α:Type} [Inhabited α] (m:List α) (x:α) (k:Nat),k<m.length→Nn (m ++ [x]) k=Nn m k:=fun m x k hk=>by rw [nth_eq (by simp;omega),nth_eq hk,Yaq hk]
 have e2:∀ {α:Type} [Inhabited α] (m:List α) (x:α),Nn (m ++ [x]) m.length=x:=fun m x=>by rw [nth_eq (by simp)];simp
 unfold Zdh
 rw [Yc,Yp,YaR,Y7,List.map_singleton,e2,h,e2]
 congr 1
 refine Ybh fun k hk=>?_
 have hk:=Yae.1 hk
 rw [e hs v k ow,e L l k hk]
theorem Zmd {hs:List Value} {L:List (List Int)} {k:Nat} {v:Value} {l:List Int} (h2:hs.length=L.length):Zdh (hs.set k v) (L.set k l)=(Zdh hs L).set k (v,l):=by
 apply Y4 (by simp [Zdh])
 intro j h3 h4
 have hj:j<hs.length:=by simpa [Zdh] using h3
 simp only [Zdh,Ya3,Ya5,YaK]
 rw [ZoQ hj,ZoQ ow]
 split <;> rfl
theorem Zn3 (n:Nat) (E:List ZT) (O I:List (List ZL)) (m:Nat) (mask:Int) (h:ZbQ n E O I) (hn:n≤900) (hE:E.length≤1000000) (L:List Int) (hL:ZcQ (adjO O mask) n L):FnP prog 42 [ZeF O I m,.int .i64 mask] (.sl Zmj (compsL L n n)):=by
 refine FnP.mk func42 V ntmps42 V fun B a w F J hfr G=>?_
 have hLn:L.length=n:=hL.1
 have hLL:ZoM L:=hL.labL (h.adjR mask).1
 refine Ya (rZ G (qC qZ) J [4,1,0] [0] fun G=>Ya ?_)
 refine rZ G (qC qZ) J [5,4,1,0] [0] fun G=>Ya ?_
 refine Ze G (qf (Zk2 (vk:=.i64) (ok:=(fun _=>True)) (kv:=(fun n:Int=>Value.int .i64 n)) 101) trivial qz (qO rr qZ)) J [6,5,4,1,0] [101,0] (fun _=>rfl) (fun _=>rfl) fun τ a w F G=>?_
 try dsimp only [RS.sub,SF.sub,CF.sub,csub,Anc.sub,List.map,Zh,xL,xM,Nat.reduceAdd,xD,xE,xT,xU,xC,xN,zCF,Zk,Zmj,rV] at G
 generalize τ 9=v9 at G
 refine Za (Ya (Ya (rZ G (qR rr (qR rr (qf (oP (ZfI n E O I m mask h ow hE L hL) func14 (Args.two .t .t)) r2 qz (qu YbA r1 (qJ qZ))))) J [14,13,12,6,5,4] [101,0] fun G=>Yk ?_)))
 replace G:=G.fresh 50 rfl
 replace G:=G.turn 50 V (Z1 (T:=38) (sz:=1) (R:=rV))
 replace G:=G.fresh 51 rfl
 replace G:=G.turn 51 V (r':=Zaw Zj3 (Zdh [] (compsL L 0 0))) (fun _ _ _ _ h=>h)
 refine Zl (σ:=(Nat)×(List (ZbI Int))×(Nat)×(Value)×(List Value)) [4,6,12,13] [0] (fun s=>[(14,.pv (.int .i64 (s.1:Int))),(5,.pv (.is s.2.2.2.1))]) (fun s=>[(101,.ob (.val v9) (ZnD .i64 (fun _=>True) (fun n:Int=>Value.int .i64 n) s.2.1 s.2.2.1)),(51,Zaw Zj3 (Zdh s.2.2.2.2 (compsL L s.1 s.1))),(50,.ob (.val s.2.2.2.1) (Zo 38 1 rV s.2.2.2.2))]) (fun s=>s.1≤L.length∧(Zk7 L s.2.1 s.1∧s.2.2.2.2.length=(ZD L s.1).length)) (fun s=>L.length - s.1) ((0),([]),(0),(.slice none 0 0),([])) G ⟨rfl,rfl,rfl,rfl,rfl,rfl,tv⟩ ⟨rfl,rfl,rfl,rfl,tv⟩ ⟨YA _,⟨fun k hk=>absurd hk (by simp [ZD]),rfl⟩⟩ ?_
 clear G;intro s a w F hC G
 obtain ⟨i,es,ck,v,hs⟩:=s
 try dsimp only at hC
 obtain ⟨F,G⟩:=G.nM [14,13,12,6,5,4] [101,51,50,0]
 try dsimp only at G
 obtain ⟨hi,hq⟩:=hC
 obtain ⟨hes,hhl⟩:=hq
 have hcl:=ZY L i i
 have hrl:=ZcN L i
 refine Ya (rZ G (qL r2) J [15,14,13,12,6,5,4] [101,51,50,0] fun G=>Ya ?_)
 refine Zc G V (fun hc0=>?_) (fun hc0=>?_)
 ·have hil:i<L.length:=by simp at hc0;omega
  refine Yg (Za (Ya (Yk (Ya (Zb G (qR rr (qy 1 YbA r2 (qf (oR false 1 .t) r1 qz (qO rr (qO rr qZ))))) J [14,13,12,8,7,6,5,4] [101,51,50,0] V V fun a w F G=>?_)))))
  try simp only [Yb] at G
  refine Za (Ya (Ya (rZ G (qR rr (qR rr (qf (o_eql .t .t) r2 qz qZ))) J [21,14,13,12,8,7,6,5,4] [101,51,50,0] fun G=>?_)))
  refine Zlp (σ:=Value×List Value×List (ZbI Int)×Nat) [4,6,7,8,12,13,14] [0] (fun s=>[(5,.pv (.is s.1))]) (fun s=>[(50,.ob (.val s.1) (Zo 38 1 rV s.2.1)),(51,Zaw Zj3 (Zdh s.2.1 (compsL L i (i+1)))),(101,.ob (.val v9) (ZnD .i64 (fun _=>True) (fun n:Int=>Value.int .i64 n) s.2.2.1 s.2.2.2))]) (fun s=>Zk7 L s.2.2.1 (i+1)∧s.2.1.length=(ZD L (i+1)).length) G ?_ ?_
  ·refine Zc G V (fun hc1=>?_) (fun hc1=>?_)
   ·have hir:Nn L i=(i:Int):=by have h9:=Yr hc1;omega
    refine Ya (rZ G (qR rr (qR rr (qR rr (qf (Zx 50 YbM .is) r1 r1 (qf (Zhp 101 underlying53 (Zhr YbG) .is (ZC.int .t V) .t) r3 r1 qZ))))) J [14,13,12,8,7,6,5,4] [101,51,50,0] fun G=>?_)
    refine Ze G (qR rr (qf (o_buildSliceE (sz:=1) (zs:=[.slice none 0 0]) (r:=[(0,_)]) (l:=[_]) YbM kr kr kr kr V V (.one V (.c V) one_is kr .nil) V) trivial qz (qf (ZB (sz:=1) (bs:=24) 50 (.mk' YbM kr kr) (by intro x;rfl) .is (.arr (l':=[(.slice none 0 0)]) .t) (by simp only [Yc,Yx,YS,Ym,YJ];omega) (by decide)) ⟨rfl,rfl,tv⟩ ⟨rfl,tv⟩ (qO rr qZ)))) J [14,13,12,8,7,6,5,4] [101,51,50,0] (fun _=>rfl) (fun _=>rfl) fun τ a w F G=>?_
    try dsimp only [RS.sub,SF.sub,CF.sub,csub,Anc.sub,List.map,Zh,xL,xM,Nat.reduceAdd,xD,xE,xT,xU,xC,xN,zCF,Zk,Zmj,rV] at G
    generalize τ 28=v28 at G
    replace G:=G.fresh 60 rfl
    replace G:=G.turn 60 V (Z1 (T:=3) (sz:=1) (R:=Zk))
    replace G:=G.turn 60 V (r':=RS.hp (Zj3 ((.slice none 0 0),[]))) (fun _ _ _ _ h=>h)
    obtain ⟨F,G⟩:=Sat.pushFam Zj3 (x:=((.slice none 0 0),[])) G 51 60 V V rfl
    rw [← Zlz ow,← ZjT hLL hil hir] at G
    obtain ⟨F,G⟩:=G.nM [14,13,12,8,7,6,5,4] [101,51,50,0]
    refine Za ?_
    obtain ⟨F,G⟩:=G.nM [14,13,12,8,7,6,4,5] [0,101,51,50]
    exact ⟨((v28),_,_,_),F,⟨Zk7.push hir hhl hes,by rw [Yc,Zc6 hir,Yc,hhl];rfl⟩,G⟩
   have hir:¬ Nn L i=(i:Int):=by have h9:=Yag hc1;omega
   refine Yg (Za ?_)
   rw [← ZjF hir] at G
   obtain ⟨F,G⟩:=G.nM [14,13,12,8,7,6,4,5] [0,101,51,50]
   exact ⟨((v),_,_,_),F,⟨Zk7.keep hir hes,by rw [Zc3 hir];exact hhl⟩,G⟩
  clear G;intro s a w F hC G
  obtain ⟨v2,h2,e2,c2⟩:=s
  try dsimp only at hC
  obtain ⟨F,G⟩:=G.nM [14,13,12,8,7,6,5,4] [101,51,50,0]
  try dsimp only at G
  obtain ⟨hes2,hhl2⟩:=hC
  obtain ⟨j,hj,hje⟩:=Zl5 hLL hil
  have hv:mVal (Nn L i) e2=(j:Int):=by rw [← hje];exact hes2 j hj
  have hcl2:=ZY L i (i+1)
  have hpl:(Nn (compsL L i (i+1)) ((mVal (Nn L i) e2).toNat)).length≤i:=Zfb _ (nth_mem ow)
  obtain ⟨F,G⟩:=G.takeAt Zj3 51 61 ((mVal (Nn L i) e2).toNat) V V (ZnM ow)
  replace G:=G.turn 61 V (r':=.ob (.val (Nn h2 ((mVal (Nn L i) e2).toNat))) (Zo 3 1 Zk (Nn (compsL L i (i+1)) ((mVal (Nn L i) e2).toNat)))) (fun _ _ _ _ h=>h)
  obtain ⟨F,G⟩:=G.nM [14,13,12,8,7,6,5,4] [101,61,51,50,0]
  refine Zac G (qR rr (qR rr (qR rr (qf (Zh1 101 underlying53 (Zhr YbG) kr .is (ZC.int .t V)) r2 r1 (qR rr (qR rr (qR rr (qf (Zh1 101 underlying53 (Zhr YbG) kr .is (ZC.int .t V)) r2 r1 (qf (o_indexAddr_row (sz:=1) 50 (.mk YbM kr) .is .t ow ow (by rfl)) r2 r1 (qf (Zg (ag:=false) (sz':=1) (sz:=1) 50 .t (by intro x;rfl) ow kr kr kr) r1 r1 (qR rr (qf (o_buildSliceE (sz:=1) (zs:=[.int .i64 0]) (r:=[(0,.tmp 39)]) (l:=[_]) YbA kr kr kr kr V V (.one V .t one_int kr .nil) V) r1 qz (qf (ZB (sz:=1) (bs:=8) 61 (.mk' YbA kr kr) (by intro x;rfl) .is (.arr (l':=[(i:Int)]) .t) (by simp only [Yc,Yx,YS,Ym,YJ];omega) (by decide)) ⟨rfl,rfl,tv⟩ ⟨rfl,tv⟩ (qf (o_indexAddr_row (sz:=1) 50 (.mk YbM kr) .is .t ow ow (by rfl)) r2 r1 (qf (Zdy (i:=41) (j:=41) (by rfl) (fun z=>Zt (R:=rV) (sz:=1) (v:=z) 50 .t (by intro x;rfl) ow .t V one_is kr)) r2 r1 qZ))))))))))))))) J [14,13,12,6,5,4] [101,61,51,50,0] (fun _=>rfl) (fun _=>rfl) fun τ a w F G=>?_
  try dsimp only [RS.sub,SF.sub,CF.sub,csub,Anc.sub,List.map,Zh,xL,xM,Nat.reduceAdd,xD,xE,xT,xU,xC,xN,zCF,ldSF,Zk,Zmj,rV] at G
  generalize τ 41=v41 at G
  try simp only [Yb] at G
  replace G:=G.turn 61 V (r':=RS.hp (Zj3 (v41,(Nn (compsL L i (i+1)) ((mVal (Nn L i) e2).toNat)) ++ [(i:Int)]))) (fun _ _ _ _ h=>h)
  obtain ⟨F,G⟩:=G.putAt Zj3 (L:=Zdh h2 (compsL L i (i+1))) (x:=(v41,(Nn (compsL L i (i+1)) ((mVal (Nn L i) e2).toNat)) ++ [(i:Int)])) 51 61 ((mVal (Nn L i) e2).toNat) (by rw [Zm9];omega) V V rfl
  rw [← Zmd ow,ZjI (by rw [hv,Yb];exact hj) (by rw [hv,Yb];exact hje)] at G
  obtain ⟨F,G⟩:=G.nM [14,13,12,6,5,4] [101,51,50,0]
  refine Zi (Za (rZ G (qp r1 (qR rr qZ)) J [14,13,12,6,5,4] [101,51,50,0] fun G=>?_))
  replace G:=G.ent (i:=14) (s':=.pv (.int .i64 ((i+1:Nat):Int))) V (.int (Zf ow))
  obtain ⟨F,G⟩:=G.nM [13,12,6,4,5,14] [0,50,51,101]
  exact ⟨((i+1),(e2),(c2),(v2),_),F,⟨by omega,⟨hes2,by rw [YM];exact hhl2⟩⟩,G,by omega⟩
 have hil:i=L.length:=by simp at hc0;omega
 refine YI (Zm (Zm (Zu (Za (Ya (rZ G (qR rr (qO rr qZ)) J [4] [101,51,50,0] fun G=>Yl ?_))))))
 replace G:=G.fresh 3 rfl
 obtain ⟨F,G⟩:=G.push 3 51 V V V kr
 obtain ⟨F,G⟩:=G.push 3 50 V V V kr
 replace G:=G.turn 3 V (r':=RS.hp (Zpo (compsL L n n) v)) (fun _ _ _ _ h=>⟨_,by rw [ZY,← hLn,← hil];exact hhl,by rw [← hLn,← hil];exact h⟩)
 obtain ⟨F,G⟩:=Sat.giveL (p:=.sl Zmj (compsL L n n)) G 3 4 V V Zjz
 refine Zz hfr G V V V .refl
theorem Zn9 (l:List Int) (v:Int):FnP prog 68 [.sl Zk l,.int .i64 v] (.int .i64 (Zhb v l)):=by
 refine FnP.mk func68 V ntmps68 V fun B a w F J hfr G=>?_
 have hll:=Sat.lenSl G (i:=0) rfl
 refine Ya (rZ G (qI qZ) J [4,1,0] [0] fun G=>(Ya (Ya ?_)))
 refine rZ G (qR rr (qu YbA r1 (qJ qZ))) J [8,7,4,1,0] [0] fun G=>Yk ?_
 refine Zl (σ:=(Nat)) [0,1,4,7] [0] (fun s=>[(8,.pv (.int .i64 (s:Int)))]) (fun s=>[]) (fun s=>s≤l.length∧(∀ k,k<s→Nn l k≠v)) (fun s=>l.length - s) (0) G ⟨rfl,rfl,rfl,rfl,rfl,tv⟩ ⟨rfl,tv⟩ ⟨YA _,fun k hk=>absurd hk (YaH k)⟩ ?_
 clear G;intro i a w F hC G
 try dsimp only at hC
 obtain ⟨F,G⟩:=G.nM [8,7,4,1,0] [0]
 try dsimp only at G
 obtain ⟨hi,hq⟩:=hC
 refine Ya (rZ G (qL r2) J [9,8,7,4,1,0] [0] fun G=>Ya ?_)
 refine Zc G V (fun hc0=>?_) (fun hc0=>?_)
 ·have hil:i<l.length:=by simp at hc0;omega
  refine Yg (Za (Ya (Yk (Ya (rZ G (qR rr (qO rr qZ)) J [8,7,5,4,1,0] [0] fun G=>Ya ?_)))))
  refine Zb G (qR rr (qR rr (qR rr (qy 1 YbA r2 (qf (oR false 1 .t) r1 qz (qf (o_eql .t .t) r2 qz qZ)))))) J [16,8,7,5,4,1,0] [0] V V fun a w F G=>?_
  try simp only [Yb] at G
  refine Za (Zc G V (fun hc1=>?_) (fun hc1=>?_))
  ·have hg:(i:Int)=Zhb v l:=(ZkV hil (by simp at hc1;omega) hq).symm
   refine Ya (rZ G (qR rr (qO rr qZ)) J [8,7,4,1,0] [0] fun G=>(Yl (Z6 (Zw (Zw (Z6 (Zw ?_)))))))
   refine Zz hfr G V V V (.int hg)
  have hne:Nn l i≠v:=by simp at hc1;omega
  refine Yg (Zi (Za (rZ G (qp r1 (qR rr qZ)) J [8,7,4,1,0] [0] fun G=>?_)))
  replace G:=G.ent (i:=8) (s':=.pv (.int .i64 ((i+1:Nat):Int))) V (.int (Zf ow))
  obtain ⟨F,G⟩:=G.nM [7,4,1,0,8] [0]
  exact ⟨(i+1),F,⟨by omega,(fun k hk=>by rcases YaU (Ybf hk) with h | h;exact hq k h;rw [h];exact hne)⟩,G,by omega⟩
 have hil:i=l.length:=by simp at hc0;omega
 have hg : -1=Zhb v l:=(ZdM fun k hk=>hq k (by simp at hc0;omega)).symm
 refine YI (Zm (Zm (Zu (Za (Ya (rZ G (qI qZ) J [4] [0] fun G=>Yl ?_))))))
 refine Zz hfr G V V V (.int hg)
theorem ZjR (l:List Int) (v:Int):FnP prog 43 [.sl Zk l,.int .i64 v] (.bool (decide (v ∈ l))):=by
 refine FnP.mk func43 V ntmps43 V fun B a w F J hfr G=>Ya ?_
 refine rZ G qB J [4,1,0] [0] fun G=>Ya ?_
 refine rZ G (qR rr (qR rr (qf (oP (Zn9 l v) func68 (Args.two .t .t)) r2 qz (qf (Zb6 .t qi) r1 qz (qO rr qZ))))) J [4] [0] fun G=>Yl ?_
 refine Zz hfr G V V V (.bool (by rw [YQ];exact ZmP))
theorem ZiD (b n:Nat) (q q0:List PairD) (u v:Int) (q':List PairD) (e:Int) (h:stepQ n q ⟨0,u,v⟩ = (q',e)) (hl:q.length<1000000):FnG prog 9 1 [.is (.pointer (some ⟨b,0,none⟩)),.int .i64 u,.int .i64 v] [coH (.pointer (some ⟨b,0,none⟩)) n q q0] (.int .i64 e) (fun _=>[coH (.pointer (some ⟨b,0,none⟩)) n q' q0]):=by
 have k:=Znj b n q q0 u v hl
 rw [h] at k;exact k
theorem Zgw {adj:Int→List Int} {k:Nat} : ∀ {ps:List (List Int)},(∀ p ∈ ps,p.length≤k)→(Z3 adj ps).length≤k*ps.length
 | [],_=>by simp [Z3]
 | p :: ps,h=>by
  have h1:=Zgw (adj:=adj) (ps:=ps) fun x hx=>h x (Yw _ hx)
  have h2:=h p Y0
  have e:Z3 adj (p :: ps)=(if 1<p.length∨Nn p 0 ∈ adj (Nn p 0) then p else [])++Z3 adj ps:=by unfold Z3;rw [Yao]
  have h3:(if 1<p.length∨Nn p 0 ∈ adj (Nn p 0) then p else []).length≤k:=by
   split
   ·exact h2
   ·exact YA _
  rw [e,Yc,Yx,Nat.mul_add]
  omega
theorem Zg9 {adj:Int→List Int} {L:List Int} {n:Nat} (hn:n≤900):((Z3 adj (compsL L n n)).mergeSort leI).length≤1000000:=by
 rw [List.length_mergeSort]
 have h1:=Zgw (adj:=adj) (Zfb (L:=L) (i:=n) (j:=n))
 have h2:(compsL L n n).length≤900:=by rw [ZY];exact YaN (ZcN L n) hn
 have h3:n*(compsL L n n).length≤900*900:=Nat.mul_le_mul hn h2
 omega
theorem ZkS {n:Nat} {q:List PairD} {u v:Nat} (hu:u<n) (hv:v<n):0<Zc8 n q (u:Int) (v:Int) ↔ (⟨u,v⟩:PairD) ∈ q:=by
 unfold Zc8
 rw [Yf ⟨Zav hu,Zav hv⟩,← Ya4]
 omega
theorem Zaz.back {n:Nat} {q:List PairD} {E:List ZT} (hq:InN n q) (h:Zaz q E n 0) {a b:Int} : (∃ x ∈ E,x.dst=b∧ofB 14 x.kind=true∧x.src=a) ↔ (⟨a,b⟩:PairD) ∈ q:=by
 rw [← h.all hq]
 exact ⟨fun ⟨x,a,b,c,d⟩=>⟨x,a,d,c,b⟩,fun ⟨x,a,b,c,d⟩=>⟨x,a,d,c,b⟩⟩
theorem ZbQ.put {n:Nat} {E:List ZT} {O I:List (List ZL)} {m:Nat} {x:ZT} (h:ZbQ n E O I) (hn:n≤4096) (hx:Zam n x=true) (hne:x ∉ E):∃ O2 I2,ZhB O I m x=(O2,I2,m+1,0)∧ZbQ n (E ++ [x]) O2 I2:=by
 have hh:¬ ZlC O x=true:=fun k=>hne ((h.has hn).1 k).2
 refine ⟨_,_,?_,h.add hn hx hne⟩
 unfold ZhB
 rw [Yf (by rw [h.ol];exact hx),Ye hh]
theorem Zhv {n u v:Nat} (hu:u<n) (hv:v<n):Zam n ⟨u,v,1,0⟩ = true:=ZM.2 ⟨⟨by show (0:Int)≤u;omega,by show (u:Int)<n;omega⟩,⟨by show (0:Int)≤v;omega,by show (v:Int)<n;omega⟩,⟨by show (1:Int)≤1;omega,by show (1:Int)≤3;omega⟩,by show (0:Int)≤0;omega,by show (0:Int)≤1048575;omega⟩
theorem Zpw (n:Nat) (E:List ZT) (O I:List (List ZL)) (m:Nat) (mask:Int) (h:ZbQ n E O I) (hn:n≤900) (hE:E.length≤1000000) (L:List Int) (hL:ZcQ (adjO O mask) n L):FnP prog 15 [ZeF O I m,.int .i64 mask] (.sl Zk ((Z3 (adjO O mask) (compsL L n n)).mergeSort leI)):=by
 refine FnP.mk func15 V ntmps15 V fun B a w F J hfr G=>?_
 have hLn:L.length=n:=hL.1
 have hLL:ZoM L:=hL.labL (h.adjR mask).1
 have hO:∀ l ∈ O,l.length≤1000000:=fun l hl=>(h.on.r hE l hl).1
 have hc1:=ZY L n n
 have hc2:=ZcN L n
 refine Ya (rZ G (qC qZ) J [4,1,0] [0] fun G=>Ya ?_)
 refine rZ G (qC qZ) J [5,4,1,0] [0] fun G=>(Ya (Ya ?_))
 refine rZ G (qR rr (qR rr (qf (oP (Zn3 n E O I m mask h hn hE L hL) func42 (Args.two .t .t)) r2 qz (qu YbM r1 (qJ qZ))))) J [12,11,10,5,4,1,0] [0] fun G=>Yk ?_
 replace G:=G.fresh 50 rfl
 replace G:=G.turn 50 V (Z1 (T:=3) (sz:=1) (R:=Zk))
 refine Zl (σ:=(Nat)×(Value)×(List Int)) [0,1,4,10,11] [0] (fun s=>[(12,.pv (.int .i64 (s.1:Int))),(5,.pv (.is s.2.1))]) (fun s=>[(50,.ob (.val s.2.1) (Zo 3 1 Zk s.2.2))]) (fun s=>s.1≤(compsL L n n).length∧(s.2.2=Z3 (adjO O mask) ((compsL L n n).take s.1)∧s.2.2.length≤900*s.1)) (fun s=>(compsL L n n).length - s.1) ((0),(.slice none 0 0),([])) G ⟨rfl,rfl,rfl,rfl,rfl,rfl,rfl,tv⟩ ⟨rfl,rfl,tv⟩ ⟨YA _,⟨rfl,YA _⟩⟩ ?_
 clear G;intro s a w F hC G
 obtain ⟨i,v,out⟩:=s
 try dsimp only at hC
 obtain ⟨F,G⟩:=G.nM [12,11,10,5,4,1,0] [50,0]
 try dsimp only at G
 obtain ⟨hi,hq⟩:=hC
 obtain ⟨hq,hol⟩:=hq
 refine Ya (rZ G (qL r2) J [13,12,11,10,5,4,1,0] [50,0] fun G=>Ya ?_)
 refine Zc G V (fun hc0=>?_) (fun hc0=>?_)
 ·have hil:i<(compsL L n n).length:=by simp at hc0;omega
  have hpp:0<(Nn (compsL L n n) i).length:=ZkC _ (nth_mem hil)
  have hpn:(Nn (compsL L n n) i).length≤n:=Zfb _ (nth_mem hil)
  have hcc:((1:Int)<((Nn (compsL L n n) i).length:Int)) ↔ 1<(Nn (compsL L n n) i).length:=by omega
  refine Yg (Za (Ya (Yk (Ya (Zb G (qy 1 YbM r2 (qf (oR false 1 .t) r1 qz (qO rr qZ))) J [12,11,10,7,5,4,1,0] [50,0] V V fun a w F G=>?_)))))
  try simp only [Yb] at G
  refine Za (Ya (Zp G (qR rr (qu YbA r1 (qf (Zbq .t qi) r1 qz (qR rr (qm V V V V (qm V V V V (qk V (fun h=>o_indexAddr_sl (sz:=1) (.mk YbA kr) (by intro x;rfl) (.w h) qi (by decide) ow) r2 qz (qk V (fun h=>oR false 1 (.w h)) r2 qz (qm V V V V (qk V (fun h=>oP (ZiE O I m (Nn (Nn (compsL L n n) i) 0) mask hO) func39 (Args.three (.w h) (.w h) (.w h))) r4 qz (qm V V V V (qk V (fun h=>o_indexAddr_sl (sz:=1) (.mk YbA kr) (by intro x;rfl) (.w h) qi (by decide) ow) r2 qz (qk V (fun h=>oR false 1 (.w h)) r2 qz (qk V (fun h=>oP (ZjR (adjO O mask (Nn (Nn (compsL L n n) i) 0)) (Nn (Nn (compsL L n n) i) 0)) func43 (Args.two (.w h) (.w h))) r3 qz (qf (Zaa .t .t) r2 qz qZ))))))))))))))) J [30,12,11,10,7,5,4,1,0] [50,0] V V fun a w F G=>?_))
  try dsimp only [List.map,xD,xE,xT,xU,ldSF,Zk,Zmj] at G
  try simp only [Yb] at G
  refine Za (Zc G V (fun hc1=>?_) (fun hc1=>?_))
  ·have hB9:1<(Nn (compsL L n n) i).length∨Nn (Nn (compsL L n n) i) 0 ∈ (adjO O mask) (Nn (Nn (compsL L n n) i) 0):=by have h9:=hc1;rw [Yar,Yn,Yn,hcc] at h9;exact h9
   refine Ze G (qR rr (qR rr (qf (ZB (sz:=1) (bs:=8) 50 (.mk' YbA kr kr) (by intro x;rfl) .is (.sl .t) ow (by decide)) ⟨rfl,rfl,tv⟩ ⟨rfl,tv⟩ (qO rr qZ)))) J [12,11,10,5,4,1,0] [50,0] (fun _=>rfl) (fun _=>rfl) fun τ a w F G=>?_
   try dsimp only [RS.sub,SF.sub,CF.sub,csub,Anc.sub,List.map,xC,xN,Zk,Zmj] at G
   generalize τ 33=v33 at G
   refine Zi (Za (rZ G (qp r1 (qR rr qZ)) J [12,11,10,5,4,1,0] [50,0] fun G=>?_))
   replace G:=G.ent (i:=12) (s':=.pv (.int .i64 ((i+1:Nat):Int))) V (.int (Zf ow))
   obtain ⟨F,G⟩:=G.nM [11,10,4,1,0,5,12] [0,50]
   exact ⟨((i+1),_,_),F,⟨by omega,⟨by rw [ZE hil,Zer,← hq];simp [hB9],by first | (simp only [Yc];omega) | omega⟩⟩,G,by omega⟩
  have hB9:¬ (1<(Nn (compsL L n n) i).length∨Nn (Nn (compsL L n n) i) 0 ∈ (adjO O mask) (Nn (Nn (compsL L n n) i) 0)):=by have h9:=ne_true_of_eq_false hc1;rw [Yar,Yn,Yn,hcc] at h9;exact h9
  refine Yg (Zi (Za (rZ G (qp r1 (qR rr qZ)) J [12,11,10,5,4,1,0] [50,0] fun G=>?_)))
  replace G:=G.ent (i:=12) (s':=.pv (.int .i64 ((i+1:Nat):Int))) V (.int (Zf ow))
  obtain ⟨F,G⟩:=G.nM [11,10,4,1,0,5,12] [0,50]
  exact ⟨((i+1),_,_),F,⟨by omega,⟨by rw [ZE hil,Zer,← hq];simp [hB9],by first | (simp only [Yc];omega) | omega⟩⟩,G,by omega⟩
 have hil:i=(compsL L n n).length:=by simp at hc0;omega
 refine YI (Zm (Zm (Zu (Za (Ya (rZ G (qR rr (qf (Zf4 50 (Zns _ out ow) func44 V kr (Args.one .t)) r1 r1 qZ)) J [5,4] [50,0] fun G=>Ya ?_))))))
 refine rZ G (qR rr (qO rr qZ)) J [4] [50,0] fun G=>Yl ?_
 obtain ⟨F,G⟩:=G.give 50 4 V rfl
 refine Zz hfr G V V V (.sl (by rw [hq,hil,Yac]))
theorem ZgD {w:World} {y:Ys} {r:RS} (hd:r.deps = []) (hr:r.holds tau0 w (fun _=>False) y):∀ n:Nat,stars w y (List.replicate n r) (fun _=>False)
 | 0=>fun _ h=>h
 | n+1=>⟨fun _=>False,fun _=>False,fun b=>by simp,fun _ h=>h.elim,hd,hr,ZgD hd hr n⟩
theorem Zl2 (n:Nat) (s:Value):Zdi (List.replicate n s) (List.replicate n [])=List.replicate n (s,[]):=by
 apply Y4 (by simp [Zdi])
 intro j h1 h2
 have hj:j<n:=by simpa using h2
 simp [Zdi,nth_eq (l:=List.replicate n s) (i:=j) (by simpa using hj),nth_eq (l:=List.replicate n ([]:List ZL)) (i:=j) (by simpa using hj)]
theorem Ziu {n:Nat} {v:Value} (τ:Tau) (w:World) (f y:Ys) (h:(RS.ob (.val v) (Zo 76 1 rV (List.replicate n (.slice none 0 0)))).holds τ w f y):(RS.hp (ZfX (List.replicate n []) v)).holds τ w f y:=by
 refine ⟨List.replicate n (.slice none 0 0),by simp,f,fun _=>False,fun b=>by simp,fun _ _ h=>h,rfl,h,fun _=>False,fun _=>False,fun b=>by simp,fun _ h=>h.elim,rfl,?_,fun _ h=>h⟩
 show stars w y ((Zdi (List.replicate n (.slice none 0 0)) (List.replicate n [])).map fun x=>RS.hp (Zj4 x)) fun _=>False
 rw [Zl2,List.map_replicate]
 exact ZgD (r:=RS.hp (Zj4 (.slice none 0 0,[]))) rfl (show (Zo 73 3 Z9 ([]:List ZL) (.slice none 0 0)).p w (fun _=>False) y from ZiJ) n
theorem ZiK (w:World) (y:Ys):PVs (rV (.slice none 0 0)) [.slice none 0 0] w y:=⟨⟨rfl,rfl,by first | rfl | trivial⟩,tv⟩
theorem Zlt (room:Int):FnG prog 7 1 [.int .i64 room] [.star []] (PV.ptr) (fun v=>[Zj7 (List.replicate (roomN room) []) (List.replicate (roomN room) []) 0 v]):=by
 refine FnG.mk func7 V ntmps7 V kr fun B F0 a w F J hG G=>?_
 have hr:=ZiL room
 refine Ya (rZ G (qC qZ) J [2,0] [1,0] fun G=>Ya ?_)
 refine Zb G (qR rr (qf (Zhx .t qi) r1 qz (qf (o_min .t qi) r1 qz (qO rr qZ)))) J [2,0] [1,0] V V fun a w F G=>?_
 rw [hr] at G
 refine Za (Ya (Zac G (qR rr (qf (Z4 (R:=rV) (v:=(.slice none 0 0)) (c:=((roomN room:Nat):Int)) (sz:=1) (bs:=24) (zs:=[.slice none 0 0]) 101 YbK kr kr kr ZiK .t .t (YaT _) (by have:=ZaA room;omega) (by have:=ZaA room;omega)) r2 qz (qR rr (qf (Z4 (R:=rV) (v:=(.slice none 0 0)) (c:=((roomN room:Nat):Int)) (sz:=1) (bs:=24) (zs:=[.slice none 0 0]) 102 YbK kr kr kr ZiK .t .t (YaT _) (by have:=ZaA room;omega) (by have:=ZaA room;omega)) r2 qz (qf (oB [(0,.tmp 7),(1,.tmp 9)] [.slice none 0 0,.slice none 0 0,.int .i64 0] [(0,1),(1,1),(2,1)] (.same V kr (.same V kr .nil))) r2 qz (qf (oX 103 .t) r1 qz (qO rr qZ))))))) J [2] [103,102,101,1,0] (fun _=>rfl) (fun _=>rfl) fun τ a w F G=>?_))
 try dsimp only [RS.sub,SF.sub,CF.sub,csub,Anc.sub,List.map,Zh,xL,xM,Nat.reduceAdd,xD,xE,xT,xU,xC,xN,zCF,Z9,Zan,Zk,ZbD] at G
 generalize τ 11=v11,τ 7=v7,τ 9=v9 at G
 rw [Yb] at G
 refine Za (Yl ?_)
 obtain ⟨b,rfl⟩:=G.shape 103 rfl
 replace G:=G.turn 101 V (Ziu)
 replace G:=G.turn 102 V (Ziu)
 obtain ⟨F,G⟩:=G.push 1 102 V V V kr
 obtain ⟨F,G⟩:=G.push 1 101 V V V kr
 obtain ⟨F,G⟩:=G.push 1 103 V V V kr
 have G:=G.turn 1 V (r':=RS.hp (Zj7 (List.replicate (roomN room) []) (List.replicate (roomN room) []) 0 (Value.pointer (some { block:=b,off:=0 })))) (fun _ _ _ _ h=>⟨_,_,h⟩)
 refine ZU (h':=fun v=>Zj7 (List.replicate (roomN room) []) (List.replicate (roomN room) []) 0 v) hG G V (.tmp V .nil) (.one .ptr) rfl
theorem Zia {O I:List (List ZL)} {n:Nat} {v:Value} {w:World} {f y:Ys} (h:(Zj7 O I n v).p w f y):∃ b,v = .pointer (some ⟨b,0,none⟩):=by
 obtain ⟨_,_,g⟩:=h
 exact HP.star_pt g
theorem ZkQ {n:Nat} (h:n≤4096):roomN (n:Int)=n:=by unfold roomN;repeat' split;all_goals omega
theorem Zjj  : Zhi prog Zez ZfU 4 [] (.bool true):=by
 refine Zhi.mk func4 V ntmps4 V ?_
 intro B a w F J hfr G
 obtain ⟨L,hL⟩:=Zom (adj:=adjO (List.replicate 2 []) 14) 2 (fun u y hy=>(((ZbQ.new 2).adjR 14).1 u y hy).1)
 refine Ya (rZ G qB J [0] [9,0] fun G=>Ya ?_)
 replace G:=G.dupG 9 61 V rfl
 replace G:=G.dupG 9 62 V rfl
 refine Ze G (qf (Zak 61 (ZlN 2) func5 V kr (Args.one qi) PV.ptr_one) qz r1 (qf (Zak 62 (Zll 2) func6 V kr (Args.one qi) PV.ptr_one) qz r1 (qO rr (qO rr qZ)))) J [2,1,0] [62,61,9,0] (fun _=>rfl) (fun _=>rfl) fun τ a w F G=>?_
 try dsimp only [RS.sub,SF.sub,CF.sub,csub,Anc.sub,List.map] at G
 generalize τ 9=v9,τ 10=v10 at G
 obtain ⟨_,_,_,ho⟩:=G.obGet 61 rfl
 obtain ⟨b1,rfl⟩:=Zeb ho
 clear ho
 replace G:=G.turn 61 V (r':=RS.hp (clH (.pointer (some ⟨b1,0,none⟩)) (roomN 2) [] [])) (fun _ _ _ _ h=>h)
 obtain ⟨F,G⟩:=G.nM [2,1,0] [62,61,9,0]
 obtain ⟨_,_,_,ho⟩:=G.obGet 62 rfl
 obtain ⟨b2,rfl⟩:=ZlH ho
 clear ho
 replace G:=G.turn 62 V (r':=RS.hp (coH (.pointer (some ⟨b2,0,none⟩)) (roomN 2) [] [])) (fun _ _ _ _ h=>h)
 obtain ⟨F,G⟩:=G.nM [2,1,0] [62,61,9,0]
 rw [show roomN 2=2 from rfl] at G
 refine Za (Ya (Ya (rZ G (qR rr (qf (Zai _ underlying24 V .t) r1 qz (qR rr (qm V V V V (qk V (fun h=>Zai _ YbO V (.w h)) r2 qz (qf (Zaa .t .t) r2 qz qZ)))))) J [16,2,1,0] [62,61,9,0] fun G=>?_)))
 refine Zc G V (fun hc0=>?_) (fun hc0=>?_)
 ·simp at hc0
 refine Yg (Za (Ya (rZ G (qR rr (qf (o_callG1 61 (add_lit b1 2 [] [] 0 1 [(⟨0,1⟩:PairD)] (lastD 2 [] [] ⟨0,0,1⟩) 0 (by decide +kernel) V (by decide)) func8 V kr (Args.three .t qi qi)) r1 r1 (qR rr (qf (o_callG1 61 (add_lit b1 2 [(⟨0,1⟩:PairD)] (lastD 2 [] [] ⟨0,0,1⟩) 1 0 [(⟨0,1⟩:PairD),⟨1,0⟩] (lastD 2 [(⟨0,1⟩:PairD)] (lastD 2 [] [] ⟨0,0,1⟩) ⟨0,1,0⟩) 0 (by decide +kernel) V (by decide)) func8 V kr (Args.three .t qi qi)) r1 r1 (qO rr (qO rr qZ)))))) J [4,3,2,1,0] [62,61,9,0] fun G=>Ya ?_)))
 refine rZ G (qR rr (qf (o_callG1 62 (ZiD b2 2 [] [] 0 1 [(⟨0,1⟩:PairD)] 0 (by decide +kernel) (by decide)) func9 V kr (Args.three .t qi qi)) r1 r1 (qR rr (qf (o_callG1 62 (ZiD b2 2 [(⟨0,1⟩:PairD)] [] 1 0 [(⟨0,1⟩:PairD),⟨1,0⟩] 0 (by decide +kernel) (by decide)) func9 V kr (Args.three .t qi qi)) r1 r1 (qO rr (qO rr qZ)))))) J [6,5,4,3,2,1,0] [62,61,9,0] fun G=>Ya ?_
 refine rZ G (qR rr (qf (OpC.lend 62 [26] Zja (oP (Zli 2 [(⟨0,1⟩:PairD),⟨1,0⟩] 1 (by decide) (by intro p hp;revert p;decide) (by decide)) func17 (Args.two .t qi)) ⟨rfl,tv⟩ (.pv free_ibQ) trivial (by rfl)) r1 r1 (qR rr (qf (o_extract .t V) r1 qz (qf (o_extract .t V) r1 qz (qO rr (qO rr qZ))))))) J [8,7,6,5,4,3,1,0] [62,61,9,0] fun G=>Ya ?_
 replace G:=G.fresh 101 rfl
 refine Zar 27 G kr (cG V (oM .t) r1 trivial (cG V (o_eql .t (.ci kr)) r1 trivial (cG V (oM .t) r1 trivial (ChainN.cons (Cert.run V V ((by decide +kernel)) (ZW .t (by rfl))) r2 trivial (ChainN.cons (Cert.run V V ((by decide +kernel)) (o_eql .t (.ci kr))) r2 trivial (cG V (ZF .t (.conv .t (Ent.sure (by decide +kernel)))) r2 trivial (cG V (oM .t) r1 trivial (ChainN.cons (Cert.run V V ((by decide +kernel)) (ZW .t (by rfl))) r2 trivial (ChainN.cons (Cert.run V V ((by decide +kernel)) (o_eql .t (.ci kr))) r2 trivial (cG V (ZF .t (.conv .t (Ent.sure (by decide +kernel)))) r2 trivial (cG V (oM .t) r1 trivial (ChainN.cons (Cert.run V V ((by decide +kernel)) (ZW .t (by rfl))) r2 trivial (ChainN.cons (Cert.run V V ((by decide +kernel)) (o_eql .t (.ci kr))) r2 trivial (cG V (ZF .t (.conv .t (Ent.sure (by decide +kernel)))) r2 trivial (cG V (oM .t) r1 trivial (ChainN.cons (Cert.run V V ((by decide +kernel)) (ZW .t (by rfl))) r2 trivial (ChainN.cons (Cert.run V V ((by decide +kernel)) (OpC.lend 61 [45] ZaZ (oP (Zao 2 [(⟨0,1⟩:PairD),⟨1,0⟩] 0 0) func20 (Args.three .t (.ci kr) (.ci kr))) ⟨rfl,tv⟩ (.pv (fun _ _ _ _ h=>h)) trivial (by rfl))) r2 r1 (cG V (ZF .t (.conv .t (Ent.sure (by decide +kernel)))) r2 trivial (cG V (oM .t) r1 trivial (ChainN.cons (Cert.run V V ((by decide +kernel)) (ZW .t (by rfl))) r2 trivial (ChainN.cons (Cert.run V V ((by decide +kernel)) (o_eql .t (.ci kr))) r2 trivial (cG V (ZF .t (.conv .t (Ent.sure (by decide +kernel)))) r2 trivial (cG V (oM .t) r1 trivial (ChainN.cons (Cert.run V V ((by decide +kernel)) (ZW .t (by rfl))) r2 trivial (cG V (ZF .t (.conv .t (Ent.sure (by decide +kernel)))) r2 trivial (cG V (oM .t) r1 trivial (ChainN.cons (Cert.run V V ((by decide +kernel)) (o_callN 101 (Zlt 2) func7 V kr (Args.one (.ci kr)) PV.ptr_one)) r1 r1 ChainN.nil))))))))))))))))))))))))))) kr (by rw [J];kernel_rfl) fun a w F G=>?_
 replace G:=G.sub
 obtain ⟨F,G⟩:=G.nM [56,55,0] [101,62,61,9,0]
 try dsimp only [RS.sub,SF.sub,CF.sub,csub,Anc.sub,List.map] at G
 generalize Act.tau a 56=v56 at G
 obtain ⟨_,_,_,ho⟩:=G.obGet 101 rfl
 obtain ⟨b3,rfl⟩:=Zia ho
 clear ho
 replace G:=G.turn 101 V (r':=RS.hp (Zj7 (List.replicate (roomN 2) []) (List.replicate (roomN 2) []) 0 (.pointer (some ⟨b3,0,none⟩)))) (fun _ _ _ _ h=>h)
 obtain ⟨F,G⟩:=G.nM [56,55,0] [101,62,61,9,0]
 rw [show roomN 2=2 from rfl] at G
 obtain ⟨F,G⟩:=Sat.giveL (p:=ZeF (List.replicate 2 []) (List.replicate 2 []) 0) G 101 56 V V ZdB
 obtain ⟨F,G⟩:=G.nM [56,55,0] [62,61,9,0]
 refine ZaJ G kr (ChainN.cons (Cert.run V V ((by decide +kernel)) (oP (ZfI 2 [] (List.replicate 2 []) (List.replicate 2 []) 0 14 (ZbQ.new 2) (by decide) (by decide) L hL) func14 (Args.two .t (.ci kr)))) r2 trivial (ChainN.cons (Cert.run V V ((by decide +kernel)) (Zbf YbA .t)) r2 trivial (ChainN.cons (Cert.run V V ((by decide +kernel)) (o_eql .t (.ci kr))) r2 trivial (cG V (ZF .t (.conv .t (Ent.sure (by decide +kernel)))) r2 trivial (cG V (oN .t) r1 trivial ChainN.nil))))) kr (by rw [J];kernel_rfl) fun a w F G=>?_
 obtain ⟨F,G⟩:=G.nM [0] [62,61,9,0]
 refine Za (Yl (Zz hfr G V V V (.bool (by rw [hL.1];decide +kernel))))
end Go.Proofs.YtlaaiihdhockcaaGreatDoor
