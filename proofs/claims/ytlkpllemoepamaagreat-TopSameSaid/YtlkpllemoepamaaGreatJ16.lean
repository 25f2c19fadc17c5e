/- Texts put together. No condition beyond those that each theorem says. -/
import Derived.Test.YtlkpllemoepamaaGreatJ15
import Derived.Test.YtlkpllemoepamaaGreatJ7
import Derived.Test.YtlkpllemoepamaaGreatJ6
import Derived.Test.YtlkpllemoepamaaGreatJ12
namespace Go.Proofs.YtlkpllemoepamaaGreat
open Go Go.Gm Tryz
set_option linter.unusedVariables false
set_option linter.unusedSimpArgs false
set_option maxHeartbeats 4000000
set_option maxRecDepth 8000
theorem ZbF.prev {n:Nat} {E:List Zw} {O I:List (List Z5)} (h:ZbF n E O I) (mask u:Int):Zdg (adjO I mask u) ∧ ∀ v,v ∈ adjO I mask u ↔ ∃ x ∈ E,x.dst=u∧ofB mask x.kind=true∧x.src=v:=by
 by_cases hu:0≤u∧u<I.length
 ·unfold adjO
  rw [Yf hu]
  refine ⟨(ZR _).1,fun v=>?_⟩
  rw [(ZR _).2,Yu]
  constructor
  ·rintro ⟨e,h1,h2⟩
   obtain ⟨h3,h4⟩:=Y4.1 h1
   obtain ⟨x,x1,x2,rfl⟩:=(h.im u.toNat (by have:=h.il;omega) e).1 h3
   exact ⟨x,x1,by omega,h4,h2⟩
  ·rintro ⟨x,x1,x2,x3,x4⟩
   exact ⟨endI x,Y4.2 ⟨(h.im u.toNat (by have:=h.il;omega) _).2 ⟨x,x1,by omega,rfl⟩,x3⟩,x4⟩
 ·unfold adjO
  rw [Yc hu]
  refine ⟨List.Pairwise.nil,fun v=>⟨fun k=>(by cases k),?_⟩⟩
  rintro ⟨x,x1,x2,_⟩
  have:=(ZM.1 (h.ok x x1)).2.1
  have:=h.il
  exact absurd ⟨by omega,by omega⟩ hu
theorem ZbF.prevR {n:Nat} {E:List Zw} {O I:List (List Z5)} (h:ZbF n E O I) (mask:Int):(∀ x,∀ u ∈ adjO I mask x,0≤u∧u<(n:Int)) ∧ ∀ x,(adjO I mask x).length≤n:=by
 have h1:∀ x,∀ u ∈ adjO I mask x,0≤u∧u<(n:Int):=fun x u hu=>by
  obtain ⟨y,y1,_,_,y4⟩:=((h.prev mask x).2 u).1 hu
  have:=(ZM.1 (h.ok y y1)).1
  omega
 exact ⟨h1,fun x=>Zdv ((h.prev mask x).1.imp fun h=>by omega) (h1 x)⟩
inductive ZeW (prev:Int→List Int) (least t:Int):Nat→Int→Prop
 | zero:ZeW prev least t 0 t
 | step {k:Nat} {u x:Int} (h:u ∈ prev x) (hl:least≤u) (r:ZeW prev least t k x):ZeW prev least t (k+1) u
def Zdb (n:Nat) (prev:Int→List Int) (least t:Int) (d:List Int):Prop:=d.length=n ∧ ∀ u:Nat,u<n→(Nn d u = -1 ∧ ∀ k,¬ ZeW prev least t k u) ∨ ∃ k:Nat,Nn d u=k∧ZeW prev least t k u ∧ ∀ j,ZeW prev least t j u→k≤j
structure ZnZ (n:Nat) (prev:Int→List Int) (least t:Int) (d q:List Int):Prop where
 len:d.length=n
 start:0≤t∧t<n∧fI d t=0
 neg:∀ u:Int,0≤u→u<n → -1≤fI d u
 qd:∀ x ∈ q,0≤x∧x<n∧0≤fI d x
 nd:q.Nodup
 sound:∀ u:Int,0≤u→u<n→0≤fI d u→ZeW prev least t (fI d u).toNat u
 sort:q.Pairwise fun a b=>fI d a≤fI d b
 near:∀ x,q.head? = some x→(∀ y ∈ q,fI d y≤fI d x+1) ∧ ∀ u:Int,0≤u→u<n→u ∉ q→fI d u≤fI d x
 clos:∀ x:Int,0≤x→x<n→0≤fI d x→x ∉ q → ∀ u ∈ prev x,least≤u→0≤fI d u∧fI d u≤fI d x+1
structure ZmN (n:Nat) (prev:Int→List Int) (least t:Int) (d q:List Int) (x:Int) (done:List Int):Prop where
 len:d.length=n
 start:0≤t∧t<n∧fI d t=0
 neg:∀ u:Int,0≤u→u<n → -1≤fI d u
 qd:∀ x ∈ q,0≤x∧x<n∧0≤fI d x
 nd:q.Nodup
 sound:∀ u:Int,0≤u→u<n→0≤fI d u→ZeW prev least t (fI d u).toNat u
 sort:q.Pairwise fun a b=>fI d a≤fI d b
 here:0≤x∧x<n∧0≤fI d x∧x ∉ q
 near:(∀ y ∈ q,fI d x≤fI d y∧fI d y≤fI d x+1) ∧ ∀ u:Int,0≤u→u<n→u ∉ q→fI d u≤fI d x
 clos:∀ z:Int,0≤z→z<n→z≠x→0≤fI d z→z ∉ q → ∀ u ∈ prev z,least≤u→0≤fI d u∧fI d u≤fI d z+1
 seen:∀ u ∈ done,least≤u→0≤fI d u∧fI d u≤fI d x+1
section
variable {n:Nat} {prev:Int→List Int} {least t:Int} {d q:List Int} {x:Int} {seen:List Int}
theorem ZnZ.first (ht:0≤t∧t<n):ZnZ n prev least t ((List.replicate n (-1)).set t.toNat 0) [t]:=by
 have e:fI ((List.replicate n (-1)).set t.toNat 0)=ZcK (fI (List.replicate n (-1))) t 0:=ZcE (by simpa using ht)
 have e2:∀ u:Int,0≤u→u<n→fI (List.replicate n (-1)) u = -1:=fun u h1 h2=>by
  rw [ZaJ h1,nth_eq (by simp;omega)];simp
 have e3:∀ u:Int,0≤u→u<n→u≠t→fI ((List.replicate n (-1)).set t.toNat 0) u = -1:=fun u h1 h2 h3=>by rw [e,Zaz h3];exact e2 u h1 h2
 have e4:fI ((List.replicate n (-1)).set t.toNat 0) t=0:=by rw [e,ZK]
 refine ⟨by simp,⟨ht.1,ht.2,e4⟩,fun u h1 h2=>?_,fun z hz=>?_,by simp,fun u h1 h2 h3=>?_,by simp,fun z hz=>?_,fun z h1 h2 h3 h4=>?_⟩
 ·by_cases h:u=t
  ·rw [h,e4];omega
  ·rw [e3 u h1 h2 h];omega
 ·rw [Yk.1 hz];exact ⟨ht.1,ht.2,by rw [e4];omega⟩
 ·by_cases h:u=t
  ·rw [h,e4];exact .zero
  ·rw [e3 u h1 h2 h] at h3;omega
 ·have hz:t=z:=by simpa using hz
  subst hz
  refine ⟨fun y hy=>by rw [Yk.1 hy];omega,fun u h1 h2 h3=>?_⟩
  rw [e3 u h1 h2 (by simpa using h3),e4];omega
 ·have h5:z≠t:=by simpa using h4
  rw [e3 z h1 h2 h5] at h3;omega
theorem ZnZ.pop (h:ZnZ n prev least t d (x :: q)):ZmN n prev least t d q x []:=by
 have hx:=h.qd x (by simp)
 obtain ⟨n1,n2⟩:=h.near x rfl
 have hnd:=Ybh.1 h.nd
 have hs:=Yp.1 h.sort
 refine ⟨h.len,h.start,h.neg,fun z hz=>h.qd z (by simp [hz]),hnd.2,h.sound,hs.2,⟨hx.1,hx.2.1,hx.2.2,hnd.1⟩,⟨fun y hy=>⟨hs.1 y hy,n1 y (by simp [hy])⟩,fun u h1 h2 h3=>?_⟩,fun z h1 h2 h3 h4 h5=>h.clos z h1 h2 h4 (by simp [h3,h5]),by simp⟩
 by_cases e:u=x
 ·rw [e];exact Yao _
 ·exact n2 u h1 h2 (by simp [e,h3])
theorem ZmN.skip {u:Int} (h:ZmN n prev least t d q x seen) (hu:0≤u∧u<n) (hs:least≤u→0≤fI d u):ZmN n prev least t d q x (seen ++ [u]):=by
 refine ⟨h.len,h.start,h.neg,h.qd,h.nd,h.sound,h.sort,h.here,h.near,h.clos,fun z hz hl=>?_⟩
 rcases YE.1 hz with hz | hz
 ·exact h.seen z hz hl
 ·rw [Yk.1 hz] at hl ⊢
  refine ⟨hs hl,?_⟩
  by_cases hq:u ∈ q
  ·exact (h.near.1 u hq).2
  ·have:=h.near.2 u hu.1 hu.2 hq;omega
theorem ZmN.put {u:Int} (h:ZmN n prev least t d q x seen) (hu:0≤u∧u<n) (hp:u ∈ prev x) (hl:least≤u) (h0:fI d u<0):ZmN n prev least t (d.set u.toNat (fI d x+1)) (q ++ [u]) x (seen ++ [u]):=by
 have hx:=h.here
 have e:fI (d.set u.toNat (fI d x+1))=ZcK (fI d) u (fI d x+1):=ZcE (by rw [h.len];exact hu)
 have eu:fI (d.set u.toNat (fI d x+1)) u=fI d x+1:=by rw [e,ZK]
 have ne:∀ {z:Int},z≠u→fI (d.set u.toNat (fI d x+1)) z=fI d z:=fun hz=>by rw [e,Zaz hz]
 have hxu:x≠u:=fun k=>by rw [k] at hx;omega
 have huq:u ∉ q:=fun k=>by have:=(h.qd u k).2.2;omega
 have hqu:∀ z ∈ q,z≠u:=fun z hz k=>huq (k ▸ hz)
 have htu:t≠u:=fun k=>by have:=h.start.2.2;rw [k] at this;omega
 have hd0:∀ z:Int,z≠u→fI (d.set u.toNat (fI d x+1)) z=fI d z:=fun z hz=>ne hz
 refine ⟨by simp [h.len],⟨h.start.1,h.start.2.1,by rw [ne htu];exact h.start.2.2⟩,fun z h1 h2=>?_,fun z hz=>?_,?_,fun z h1 h2 h3=>?_,?_,⟨hx.1,hx.2.1,by rw [ne hxu];exact hx.2.2.1,?_⟩,⟨fun y hy=>?_,fun z h1 h2 h3=>?_⟩,fun z h1 h2 h3 h4 h5 y hy hly=>?_,fun z hz hlz=>?_⟩
 ·by_cases k:z=u
  ·rw [k,eu];omega
  ·rw [ne k];exact h.neg z h1 h2
 ·rcases YE.1 hz with hz | hz
  ·rw [ne (hqu z hz)];exact h.qd z hz
  ·rw [Yk.1 hz,eu];exact ⟨hu.1,hu.2,by omega⟩
 ·exact YbM.2 ⟨h.nd,by simp,fun a ha b hb k=>huq (by rw [Yk.1 hb] at k;exact k ▸ ha)⟩
 ·by_cases k:z=u
  ·rw [k,eu]
   rw [show (fI d x+1).toNat=(fI d x).toNat+1 by omega]
   exact .step hp hl (h.sound x hx.1 hx.2.1 hx.2.2.1)
  ·rw [ne k] at h3 ⊢;exact h.sound z h1 h2 h3
 ·refine Ybv.2 ⟨List.Pairwise.imp_of_mem (fun {a b} ha hb k=>?_) h.sort,by simp,fun a ha b hb=>?_⟩
  ·rw [ne (hqu a ha),ne (hqu b hb)];exact k
  ·rw [Yk.1 hb,eu,ne (hqu a ha)];exact (h.near.1 a ha).2
 ·simp [hx.2.2.2,hxu]
 ·rcases YE.1 hy with hy | hy
  ·rw [ne (hqu y hy),ne hxu];exact h.near.1 y hy
  ·rw [Yk.1 hy,eu,ne hxu];omega
 ·have h3':z ∉ q∧z≠u:=by simpa using h3
  rw [ne h3'.2,ne hxu];exact h.near.2 z h1 h2 h3'.1
 ·have h5':z ∉ q∧z≠u:=by simpa using h5
  rw [ne h5'.2] at h4 ⊢
  have h6:=h.clos z h1 h2 h3 h4 h5'.1 y hy hly
  by_cases k:y=u
  ·rw [k] at h6;omega
  ·rw [ne k];exact h6
 ·rw [ne hxu]
  by_cases k:z=u
  ·rw [k,eu];omega
  ·rw [ne k]
   rcases YE.1 hz with hz | hz
   ·exact h.seen z hz hlz
   ·exact absurd (Yk.1 hz) k
theorem ZmN.done (h:ZmN n prev least t d q x (prev x)):ZnZ n prev least t d q:=by
 refine ⟨h.len,h.start,h.neg,h.qd,h.nd,h.sound,h.sort,fun z hz=>?_,fun z h1 h2 h3 h4=>?_⟩
 ·have hm:z ∈ q:=List.mem_of_head? hz
  refine ⟨fun y hy=>?_,fun u h1 h2 h3=>?_⟩
  ·have a:=(h.near.1 z hm).1
   have b:=(h.near.1 y hy).2
   omega
  ·have a:=(h.near.1 z hm).1
   have b:=h.near.2 u h1 h2 h3
   omega
 ·by_cases e:z=x
  ·rw [e];exact h.seen
  ·exact h.clos z h1 h2 e h3 h4
theorem ZnZ.dist (hp:∀ x,∀ u ∈ prev x,0≤u∧u<n) (h:ZnZ n prev least t d []):Zdb n prev least t d:=by
 have key:∀ (j:Nat) (u:Int),ZeW prev least t j u→0≤u∧u<n∧0≤fI d u∧fI d u≤j:=fun j u hw=>by
  induction hw with
  | zero=>exact ⟨h.start.1,h.start.2.1,by rw [h.start.2.2];omega,by rw [h.start.2.2];omega⟩
  | step h1 hl _ ih=>
   obtain ⟨i1,i2,i3,i4⟩:=ih
   obtain ⟨k1,k2⟩:=h.clos _ i1 i2 i3 (by simp) _ h1 hl
   have:=hp _ _ h1
   exact ⟨this.1,this.2,k1,by omega⟩
 refine ⟨h.len,fun u hu=>?_⟩
 have e:Nn d u=fI d (u:Int):=by rw [ZaJ ow];rfl
 rw [e]
 have hneg:=h.neg u ow ow
 by_cases h0:0≤fI d (u:Int)
 ·exact .inr ⟨(fI d (u:Int)).toNat,by omega,h.sound u ow ow h0,fun j hj=>by have:=(key j u hj).2.2.2;omega⟩
 ·exact .inl ⟨by omega,fun k hk=>h0 (key k u hk).2.2.1⟩
theorem Zdb.one {d e:List Int} (h:Zdb n prev least t d) (k:Zdb n prev least t e):d=e:=by
 refine Zan (by rw [h.1,k.1]) fun j hj=>?_
 rw [h.1] at hj
 rcases h.2 j hj with ⟨a1,a2⟩ | ⟨i,a1,a2,a3⟩ <;> rcases k.2 j hj with ⟨b1,b2⟩ | ⟨i',b1,b2,b3⟩
 ·rw [a1,b1]
 ·exact absurd b2 (a2 _)
 ·exact absurd a2 (b2 _)
 ·have:=a3 _ b2;have:=b3 _ a2;omega
theorem ZmN.room (h:ZmN n prev least t d q x seen):q.length+1≤n:=Zdv (l:=x :: q) (Ybh.2 ⟨h.here.2.2.2,h.nd⟩) fun y hy=>by
 rcases Yi.1 hy with rfl | hy
 ·exact ⟨h.here.1,h.here.2.1⟩
 ·exact ⟨(h.qd y hy).1,(h.qd y hy).2.1⟩
end
def negC (d:List Int):Nat:=d.countP fun z=>decide (z<0)
theorem Zk4 {d:List Int} {i:Nat} {c:Int} (hi:i<d.length) (h0:Nn d i<0) (hc:0≤c):negC (d.set i c)+1=negC d:=by
 rw [nth_eq hi] at h0
 unfold negC
 rw [List.countP_set hi,Yab h0,YC (show ¬ c<0 by omega)]
 have:0<d.countP fun z=>decide (z<0):=List.countP_pos_iff.2 ⟨d[i],Ybm hi,Yab h0⟩
 simp
 omega
theorem Zn4 (n:Nat) (prev:Int→List Int) (least t:Int):∃ d,Zdb n prev least t d:=by
 refine Zkg (P:=fun u m=>(m = -1 ∧ ∀ k,¬ ZeW prev least t k u) ∨ ∃ k:Nat,m=k∧ZeW prev least t k u ∧ ∀ j,ZeW prev least t j u→k≤j) n fun u _=>?_
 by_cases h:∃ k,ZeW prev least t k (u:Int)
 ·obtain ⟨k,hk⟩:=h
  obtain ⟨m,⟨h1,h2⟩,h3⟩:=Zny (P:=fun m=>0≤m∧ZeW prev least t m.toNat u) (fun x hx=>hx.1) (u:=k) ⟨by omega,by simpa using hk⟩
  exact ⟨m,.inr ⟨m.toNat,by omega,h2,fun j hj=>by have:=h3 j ⟨by omega,by simpa using hj⟩;omega⟩⟩
 ·exact ⟨-1,.inl ⟨rfl,fun k hk=>h ⟨k,hk⟩⟩⟩
def ZdL (n:Nat) (prev:Int→List Int) (least t:Int) (d q:List Int):Prop:=ZnZ n prev least t d q ∧ ∀ z:Int,fI d z+(negC d:Int)≤n
def ZcN (n:Nat) (prev:Int→List Int) (least t:Int) (d q:List Int) (x:Int) (seen:List Int):Prop:=ZmN n prev least t d q x seen ∧ ∀ z:Int,fI d z+(negC d:Int)≤n
section
variable {n:Nat} {prev:Int→List Int} {least t:Int} {d q:List Int} {x:Int} {seen:List Int}
theorem ZdL.first (ht:0≤t∧t<n):ZdL n prev least t ((List.replicate n (-1)).set t.toNat 0) [t]:=by
 have hlt:t.toNat<n:=by omega
 have h1:=Zk4 (d:=List.replicate n (-1)) (i:=t.toNat) (c:=0) (by simpa using hlt) (by rw [nth_eq (by simpa using hlt)];simp) (Yao 0)
 have h2:negC (List.replicate n (-1))=n:=by unfold negC;rw [List.countP_replicate];simp
 refine ⟨ZnZ.first ht,fun z=>?_⟩
 have hz:fI ((List.replicate n (-1)).set t.toNat 0) z≤0:=by
  rw [ZcE (by simpa using ht)]
  unfold ZcK
  split
  ·exact Yao 0
  ·unfold fI
   split
   ·by_cases h:z.toNat<n
    ·rw [nth_eq (by simpa using h)];simp
    ·unfold Nn;simp [YaJ,show n≤z.toNat by omega]
   ·exact Yao 0
 omega
theorem ZdL.pop (h:ZdL n prev least t d (x :: q)):ZcN n prev least t d q x []:=⟨h.1.pop,h.2⟩
theorem ZcN.skip {u:Int} (h:ZcN n prev least t d q x seen) (hu:0≤u∧u<n) (hs:least≤u→0≤fI d u):ZcN n prev least t d q x (seen ++ [u]):=⟨h.1.skip hu hs,h.2⟩
theorem ZcN.put {u:Int} (h:ZcN n prev least t d q x seen) (hu:0≤u∧u<n) (hp:u ∈ prev x) (hl:least≤u) (h0:fI d u<0):ZcN n prev least t (d.set u.toNat (fI d x+1)) (q ++ [u]) x (seen ++ [u])∧negC (d.set u.toNat (fI d x+1))+1=negC d:=by
 have hn:=Zk4 (d:=d) (i:=u.toNat) (c:=fI d x+1) (by rw [h.1.len];omega) (by rw [← ZaJ hu.1];exact h0) (by have:=h.1.here.2.2.1;omega)
 refine ⟨⟨h.1.put hu hp hl h0,fun z=>?_⟩,hn⟩
 rw [ZcE (by rw [h.1.len];exact hu)]
 unfold ZcK
 have h1:=h.2 x
 have h2:=h.2 z
 split <;> omega
theorem ZcN.done (h:ZcN n prev least t d q x (prev x)):ZdL n prev least t d q:=⟨h.1.done,h.2⟩
theorem ZcN.val (h:ZcN n prev least t d q x seen):0≤fI d x∧fI d x≤n:=by
 have:=h.2 x
 exact ⟨h.1.here.2.2.1,by omega⟩
end
theorem Zhb (O I:List (List Z5)) (m:Nat) (u mask:Int) (hI:∀ l ∈ I,l.length≤1000000) (hOI:I.length=O.length):FnP prog 209 [Zel O I m,.int .i64 u,.int .i64 mask] (.sl rInt (adjO I mask u)):=by
 refine FnP.mk func209 rfl ntmps209 rfl fun B a w F V hfr G=>Ya ?_
 refine rZ G (qC qZ) V [6,2,1,0] [0] fun G=>(Ya (Ya ?_))
 refine rZ G (qR rr (qR rr (qf (oP (ZdE O I m u) func194 (Args.two .t .t)) r2 qz (qf (o_not .t) r1 qz qZ)))) V [10,6,2,1,0] [0] fun G=>?_
 refine Zc G rfl (fun hc0=>?_) (fun hc0=>?_)
 ·have hg:[] = adjO I mask u:=by unfold adjO;rw [Yc (by have h9:=hc0;simp at h9;omega)]
  refine Ya (rZ G (qC qZ) V [6,2,1,0] [0] fun G=>(Yh (Zk ?_)))
  refine Zo hfr G rfl rfl rfl (.trans .nilSl (.sl hg))
 have hth:0≤u∧u<I.length:=by have h9:=hc0;simp at h9;omega
 have hg:(Zbq (((Nn I u.toNat).filter fun e=>ofB mask e.kind).map Z5.node))=adjO I mask u:=by unfold adjO;rw [Yf hth]
 refine Ye (Za (Ya (Zf G (qR rr (qf (ZC .t) r1 qz (qf (oG 1 .t) r1 qz (qf (oR false 1 .t) r1 qz (qR rr (qf (o_indexAddr_sl (sz:=1) (.mk underlying213 kr) (by intro x;rfl) .t .t (by exact hth.1) (by exact hth.2)) r2 qz (qf (oR false 1 .t) r1 qz (qR rr (qf (oP (dgNodesOf_c (Nn I u.toNat) mask (hI _ (nth_mem ow))) func198 (Args.two .t .t)) r2 qz (qO rr qZ)))))))))) V [6] [0] rfl rfl fun a w F G=>?_)))
 try simp only [Yb] at G
 refine Za (Yh (Zo hfr G rfl rfl rfl (.sl hg)))
theorem ZvI (E:List Zw) (O I:List (List Z5)) (m:Nat) (mask node least:Int) (h:ZbF O.length E O I) (hn1:1≤O.length) (hn:O.length≤4096) (hE:E.length≤1000000) (hs0:least≤node) (hs1:0≤node) (hs2:node<O.length) (D:List Int) (hD:Zdb O.length (fun x=>adjO I mask x) least node D):FnP prog 169 [Zel O I m,.int .i64 mask,.int .i64 node,.int .i64 least] (.sl rInt D):=by
 refine FnP.mk func169 rfl ntmps169 rfl fun B a w F V hfr G=>?_
 obtain ⟨hpr,hpl⟩:=h.prevR mask
 refine Ya (rZ G (qC qZ) V [8,3,2,1,0] [0] fun G=>Ya ?_)
 refine Zb G (qR rr (qR rr (qR rr (qf (oB [(0,.tmp 16),(1,.tmp 17),(2,.tmp 18)] [.pointer none,.int .i64 0,.int .i64 0] [(0,1),(1,1),(2,1)] (.one rfl .t Zhh kr (.one rfl .t one_int kr (.one rfl .t one_int kr .nil)))) r3 qz (qf (oH [.pointer none,.int .i64 0,.int .i64 0] 101) trivial qz (qS 3 101 r2 r1 qZ)))))) V [9,8,3,2,1,0] [101,0] (fun _=>rfl) (fun _=>rfl) fun τ a w F G=>?_
 try dsimp only [RS.sub,SF.sub,CF.sub,csub,Anc.sub,List.map,Ze,xL,xM,Nat.reduceAdd,xD,xE,xT,xU,xC,xN,zCF,rInt] at G
 generalize τ 9=v9 at G
 refine Za (Ya ?_)
 replace G:=G.fresh 102 rfl
 refine Zb G (qe 3 101 r1 r1 (qf (Zav 102 (Zo7 O I m mask least ow ow) func204 rfl kr (Args.one (.pagg .t)) pvOne1) r1 r1 (qO rr qZ))) V [10,9,8,3,2,1,0] [102,101,0] (fun _=>rfl) (fun _=>rfl) fun τ a w F G=>?_
 try dsimp only [RS.sub,SF.sub,CF.sub,csub,Anc.sub,List.map,xD,xE,xT,xU,ldSF,rInt] at G
 generalize τ 21=v21 at G
 refine Za (Ya (Ya (rZ G (qe 3 101 r1 r1 (qR rr (qf (oP (ZnX O I m mask least node) func205 (Args.two (.pagg .t) .t)) r2 qz (qf (o_not .t) r1 qz qZ)))) V [25,10,8,3,2,1,0] [102,101,0] fun G=>?_)))
 refine Zc G rfl (fun hc0=>?_) (fun hc0=>?_)
 ·simp at hc0;omega
 refine Ye (Za (Ya ?_))
 replace G:=G.fresh 103 rfl
 refine Zb G (qR rr (qf (oP (Zcf O I m) func158 (Args.one .t)) r1 qz (qf (Zav 103 (ZoH _) func206 rfl kr (Args.one .t) PV.ptr_one) r1 r1 (qO rr qZ)))) V [11,10,8,3,2,1,0] [103,102,101,0] (fun _=>rfl) (fun _=>rfl) fun τ a w F G=>?_
 try dsimp only [RS.sub,SF.sub,CF.sub,csub,Anc.sub,List.map,rInt] at G
 generalize τ 29=v29 at G
 obtain ⟨_,_,_,ho⟩:=G.obGet 103 rfl
 obtain ⟨qb,rfl⟩:=Zo1 ho
 clear ho
 replace G:=G.turn 103 rfl (r':=RS.hp (rqH (.pointer (some ⟨qb,0,none⟩)) (ZbO (O.length:Int)) [])) (fun _ _ _ _ h=>h)
 obtain ⟨F,G⟩:=G.nM [11,10,8,3,2,1,0] [103,102,101,0]
 rw [ZfO ow] at G
 refine Za (Ya (Zf G (qR rr (qR rr (qf (o_indexAddr_row (sz:=1) 102 (.mk underlying45 kr) .is .t ow (by rw [YZ];omega) (by rfl)) r2 r1 (qf (ZF (R:=rInt) (sz:=1) (v:=0) 102 .t (by intro x;rfl) (by rw [YZ];omega) qi rfl one_int kr) r1 r1 qZ)))) V [11,10,8,3,2,1,0] [103,102,101,0] rfl rfl fun a w F G=>?_))
 try simp only [Yb] at G
 refine Za (Ya (rZ G (qR rr (qR rr (qf (ZJ 103 (Zct qb (O.length:Int) [] node (by simp;omega)) func207 rfl kr (Args.two .t .t)) r2 r1 qZ))) V [11,10,8,3,1,0] [103,102,101,0] fun G=>(Ya (Ya ?_))))
 refine rZ G (qR rr (qf (ZJ 103 (ZhW qb (O.length:Int) [node]) func208 rfl kr (Args.one .t)) r1 r1 (qR rr (qf (Zh .t rfl) r1 qz (qf (Zh .t rfl) r1 qz (qO rr (qO rr qZ))))))) V [13,12,11,10,8,3,1,0] [103,102,101,0] fun G=>Yg ?_
 refine Zl (σ:=List Int×List Int) [0,1,3,8,10,11] [0,101] (fun s=>[(12,.pv (.int .i64 (s.2.headD 0))),(13,.pv (.bool (decide (s.2≠[]))))]) (fun s=>[(102,.ob (.val v21) (ZA 3 1 rInt s.1)),(103,RS.hp (rqH (.pointer (some ⟨qb,0,none⟩)) (O.length:Int) s.2.tail))]) (fun s=>ZdL O.length (fun x=>adjO I mask x) least node s.1 s.2) (fun s=>2*negC s.1+s.2.length) (_,([node])) G ⟨rfl,rfl,rfl,rfl,rfl,rfl,rfl,rfl,tv⟩ ⟨rfl,rfl,rfl,rfl,tv⟩ (ZdL.first ⟨hs1,by omega⟩) ?_
 clear G;intro s a w F hC G
 obtain ⟨d,q⟩:=s
 try dsimp only at hC
 obtain ⟨F,G⟩:=G.nM [13,12,11,10,8,3,1,0] [103,102,101,0]
 try dsimp only at G
 have hBI:ZdL O.length (fun x=>adjO I mask x) least node d q:=hC
 refine Ya (Ya (rZ G (qR rr qZ) V [41,13,12,11,10,8,3,1,0] [103,102,101,0] fun G=>?_))
 refine Zc G rfl (fun hc1=>?_) (fun hc1=>?_)
 ·obtain ⟨x,q,rfl⟩:∃ x l,q=x :: l:=List.exists_cons_of_ne_nil (by simpa using hc1)
  try dsimp only [List.headD_cons,List.tail_cons] at G
  have hM0:=hBI.pop
  have hpx:=hpl x
  refine Ye (Za (Ya (Yg (Ya (rZ G (qR rr (qR rr (qR rr (qf (oP (Zhb O I m x mask (fun l hl=>(h.inn.r hE l hl).1) (by rw [h.ol,h.il])) func209 (Args.three .t .t .t)) r3 qz (qu underlying45 r1 (qJ qZ)))))) V [52,51,50,13,12,11,10,8,3,1,0] [103,102,101,0] fun G=>Yg ?_)))))
  refine Zl (σ:=(Nat)×(List Int)×(List Int)) [0,1,3,8,10,11,12,13,50,51] [0,101] (fun s=>[(52,.pv (.int .i64 (s.1:Int)))]) (fun s=>[(102,.ob (.val v21) (ZA 3 1 rInt s.2.1)),(103,RS.hp (rqH (.pointer (some ⟨qb,0,none⟩)) (O.length:Int) s.2.2))]) (fun s=>s.1≤(adjO I mask x).length∧(ZcN O.length (fun x=>adjO I mask x) least node s.2.1 s.2.2 x ((adjO I mask x).take s.1)∧2*negC s.2.1+s.2.2.length≤2*negC d+q.length)) (fun s=>(adjO I mask x).length - s.1) ((0),(d),(q)) G ⟨rfl,rfl,rfl,rfl,rfl,rfl,rfl,rfl,rfl,rfl,rfl,tv⟩ ⟨rfl,rfl,rfl,rfl,tv⟩ ⟨Yv _,⟨hM0,YO _⟩⟩ ?_
  clear G;intro s a w F hC G
  obtain ⟨i,d2,q2⟩:=s
  try dsimp only at hC
  obtain ⟨F,G⟩:=G.nM [52,51,50,13,12,11,10,8,3,1,0] [103,102,101,0]
  try dsimp only at G
  obtain ⟨hi,hq⟩:=hC
  obtain ⟨hM,hmu⟩:=hq
  have hdl:=hM.1.len
  have hxr:=hM.1.here
  have hxv:=hM.val
  have hqr:=hM.1.room
  refine Ya (rZ G (qL r2) V [53,52,51,50,13,12,11,10,8,3,1,0] [103,102,101,0] fun G=>Ya ?_)
  refine Zc G rfl (fun hc2=>?_) (fun hc2=>?_)
  ·have hil:i<(adjO I mask x).length:=by simp at hc2;omega
   have hur:=hpr x _ (nth_mem hil)
   refine Ye (Za (Ya (Yg (Ya (Zf G (qy 1 underlying45 r2 (qf (oR false 1 .t) r1 qz (qO rr qZ))) V [52,51,50,15,13,12,11,10,8,3,1,0] [103,102,101,0] rfl rfl fun a w F G=>?_)))))
   try simp only [Yb] at G
   refine Za (Ya (Zf G (qR rr (qR rr (qf (Zbi .t .t) r2 qz (qR rr (qm rfl rfl rfl rfl (qm rfl rfl rfl rfl (qk rfl (fun h=>o_indexAddr_row (sz:=1) 102 (.mk underlying45 kr) (.w h .is) (.w h) ow ow (by rfl)) r3 r1 (qk rfl (fun h=>Zv (ag:=false) (sz':=1) (sz:=1) 102 (.w h) (by intro x;rfl) ow kr kr kr) r2 r1 (qk rfl (fun h=>Zay (.w h) qi) r2 qz (qf (ZD .t .t) r2 qz qZ)))))))))) V [65,52,51,50,15,13,12,11,10,8,3,1,0] [103,102,101,0] rfl rfl fun a w F G=>?_))
   try simp only [Yb] at G
   refine Za (Zc G rfl (fun hc3=>?_) (fun hc3=>?_))
   ·have hput:least≤(Nn (adjO I mask x) i)∧fI d2 (Nn (adjO I mask x) i)<0:=by rw [ZaJ hur.1];simpa using hc3
    obtain ⟨hP1,hP2⟩:=hM.put hur (nth_mem hil) hput.1 hput.2
    have hval:IntKind.wrap .i64 (Nn d2 x.toNat+1)=fI d2 x+1:=by rw [ZaJ hxr.1];rw [ZaJ hxr.1] at hxv;exact Zy ow
    refine Ya (Zf G (qR rr (qR rr (qR rr (qR rr (qf (o_indexAddr_row (sz:=1) 102 (.mk underlying45 kr) .is .t ow ow (by rfl)) r2 r1 (qf (Zv (ag:=false) (sz':=1) (sz:=1) 102 .t (by intro x;rfl) ow kr kr kr) r1 r1 (qp r1 (qf (o_indexAddr_row (sz:=1) 102 (.mk underlying45 kr) .is .t ow ow (by rfl)) r2 r1 (qf (ZF (R:=rInt) (sz:=1) (v:=_) 102 .t (by intro x;rfl) ow .t rfl one_int kr) r2 r1 qZ))))))))) V [52,51,50,15,13,12,11,10,8,3,1,0] [103,102,101,0] rfl rfl fun a w F G=>?_)
    try simp only [Yb] at G
    rw [hval] at G
    refine Za (Zf G (qR rr (qR rr (qf (ZJ 103 (Zct qb (O.length:Int) q2 (Nn (adjO I mask x) i) ow) func207 rfl kr (Args.two .t .t)) r2 r1 qZ))) V [52,51,50,13,12,11,10,8,3,1,0] [103,102,101,0] rfl rfl fun a w F G=>Zj (Za ?_))
    refine rZ G (qp r1 (qR rr qZ)) V [52,51,50,13,12,11,10,8,3,1,0] [103,102,101,0] fun G=>?_
    have hmu3:2*negC (d2.set (Nn (adjO I mask x) i).toNat (fI d2 x+1))+(q2 ++ [(Nn (adjO I mask x) i)]).length≤2*negC d+q.length:=by rw [Yd,YK];omega
    replace G:=G.ent (i:=52) (s':=.pv (.int .i64 ((i+1:Nat):Int))) rfl (.int (Zd ow))
    obtain ⟨F,G⟩:=G.nM [51,50,13,12,11,10,8,3,1,0,52] [101,0,103,102]
    exact ⟨((i+1),_,(q2 ++ [(Nn (adjO I mask x) i)])),F,⟨by omega,⟨by rw [Zr hil];exact hP1,hmu3⟩⟩,G,by omega⟩
   have hsk:least≤(Nn (adjO I mask x) i)→0≤fI d2 (Nn (adjO I mask x) i):=fun h9=>by rw [ZaJ hur.1];have h8:=hc3;simp at h8;exact h8 h9
   refine Ye (Zj (Za (rZ G (qp r1 (qR rr qZ)) V [52,51,50,13,12,11,10,8,3,1,0] [103,102,101,0] fun G=>?_)))
   replace G:=G.ent (i:=52) (s':=.pv (.int .i64 ((i+1:Nat):Int))) rfl (.int (Zd ow))
   obtain ⟨F,G⟩:=G.nM [51,50,13,12,11,10,8,3,1,0,52] [101,0,103,102]
   exact ⟨((i+1),_,_),F,⟨by omega,⟨by rw [Zr hil];exact hM.skip hur hsk,hmu⟩⟩,G,by omega⟩
  have hil:i=(adjO I mask x).length:=by simp at hc2;omega
  have hBI2:ZdL O.length (fun x=>adjO I mask x) least node d2 q2:=by rw [hil,YD] at hM;exact hM.done
  have hmu2:2*negC d2+q2.length<2*negC d+(x :: q).length:=by rw [Yl];omega
  refine Yw (Zi (Zi (Zn (Zj (Za (rZ G (qR rr (qf (ZJ 103 (ZhW qb (O.length:Int) q2) func208 rfl kr (Args.one .t)) r1 r1 (qR rr (qf (Zh .t rfl) r1 qz (qf (Zh .t rfl) r1 qz (qO rr (qO rr qZ))))))) V [13,12,11,10,8,3,1,0] [103,102,101,0] fun G=>?_))))))
  obtain ⟨F,G⟩:=G.nM [11,10,8,3,1,0,13,12] [101,0,103,102]
  exact ⟨((d2),(q2)),F,hBI2,G,hmu2⟩
 have hqe:q = []:=by simpa using hc1
 subst hqe
 have hfin:d=D:=(ZnZ.dist hpr hBI.1).one hD
 refine Yw (Zi (Zi (Zn (Za (Ya (rZ G (qR rr (qO rr qZ)) V [8] [103,102,101,0] fun G=>Yh ?_))))))
 obtain ⟨F,G⟩:=G.give 102 8 rfl rfl
 refine Zo hfr G rfl rfl rfl (.sl hfin)
end Go.Proofs.YtlkpllemoepamaaGreat
