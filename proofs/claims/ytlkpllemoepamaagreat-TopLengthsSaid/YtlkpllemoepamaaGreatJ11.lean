/- Laws and walks. No condition beyond what each says. -/
import Derived.Test.YtlkpllemoepamaaGreatJ10
namespace Go.Proofs.YtlkpllemoepamaaGreat
open Go Go.Gm Tryz
set_option linter.unusedVariables false
set_option linter.unusedSimpArgs false
set_option maxHeartbeats 4000000
set_option maxRecDepth 8000
def ZsZ (u:Int) (e:Z4):Zu:=⟨u,e.node,e.kind,e.label⟩
def Z5 (O:List (List Z4)) (mask u:Int):List Zu:=if 0≤u∧u<O.length then ((Nn O u.toNat).filter fun e=>ofB mask e.kind).map (ZsZ u) else []
def ZlV (x:Zu):Int:=(x.kind*1048576+x.label)*4096+x.dst
theorem ZrU {α:Type} [Inhabited α] {κ:α→Int} {l:List α} (h:Zgn κ l):l.Pairwise fun a b=>κ a<κ b:=Yah.2 fun a b ha hb hab=>by
 have:=h a b hab hb
 rwa [nth_eq ha,nth_eq hb] at this
theorem Zcz.outM {n:Nat} {E:List Zu} {O I:List (List Z4)} (h:Zcz n E O I) (mask u:Int) (x:Zu):x ∈ Z5 O mask u ↔ (x ∈ E∧ofB mask x.kind=true)∧x.src=u:=by
 unfold Z5
 by_cases hu:0≤u∧u<O.length
 ·have hol:=h.ol
  rw [Ye hu,Yv]
  constructor
  ·rintro ⟨e,h1,rfl⟩
   obtain ⟨h2,h3⟩:=YV.1 h1
   obtain ⟨y,y1,y2,rfl⟩:=(h.om u.toNat ow e).1 h2
   have e1:y.src=u:=by omega
   have e2:ZsZ u (endO y)=y:=by subst e1;rfl
   rw [e2]
   exact ⟨⟨y1,h3⟩,e1⟩
  ·rintro ⟨⟨h1,h2⟩,rfl⟩
   exact ⟨endO x,YV.2 ⟨(h.om x.src.toNat ow _).2 ⟨x,h1,by omega,rfl⟩,h2⟩,rfl⟩
 ·rw [Yb hu]
  constructor
  ·intro k;cases k
  ·rintro ⟨⟨h1,_⟩,rfl⟩
   have:=(ZY.1 (h.ok x h1)).1
   have:=h.ol
   exact absurd ⟨by omega,by omega⟩ hu
theorem Zcz.outP {n:Nat} {E:List Zu} {O I:List (List Z4)} (h:Zcz n E O I) (mask u:Int):(Z5 O mask u).Pairwise fun a b=>ZlV a<ZlV b:=by
 unfold Z5
 split
 ·have hol:=h.ol
  exact Ybl.2 (List.Pairwise.filter _ (ZrU (h.on _ (nth_mem ow)).2.1))
 ·exact .nil
theorem Zcz.outR {n:Nat} {E:List Zu} {O I:List (List Z4)} (h:Zcz n E O I) (mask u:Int):∀ x ∈ Z5 O mask u,(0≤x.dst∧x.dst<(n:Int))∧1≤x.kind∧x.kind≤3:=fun x hx=>by
 have k:=ZY.1 (h.ok x ((h.outM mask u x).1 hx).1.1)
 exact ⟨k.2.1,k.2.2.1⟩
theorem Zcz.outL {n:Nat} {E:List Zu} {O I:List (List Z4)} (h:Zcz n E O I) (mask u:Int):(Z5 O mask u).length≤E.length:=by
 unfold Z5
 split
 ·have hol:=h.ol
  rw [YF]
  exact Y6 (Y3 _ _) (h.on _ (nth_mem ow)).1
 ·exact Yw _
theorem bit1 (y:Int):bits .and .i64 y 1=0∨bits .and .i64 y 1=1:=by
 have h:(BitVec.ofInt 64 y &&& BitVec.ofInt 64 ((1:Nat):Int)).toNat≤1:=by rw [YbH,Zis 1 ow];exact Nat.and_le_right
 have e:bits .and .i64 y 1=IntKind.wrap .i64 (((BitVec.ofInt 64 y &&& BitVec.ofInt 64 ((1:Nat):Int)).toNat:Nat):Int):=rfl
 rw [e,ZC ow]
 omega
theorem of_zero (mask kind:Int):decide (bits .and .i64 (mask.fdiv (2 ^ min (IntKind.wrap .u64 kind).toNat (IntKind.bits .i64))) 1=0) = !ofB mask kind:=by
 unfold ofB
 rcases bit1 (mask.fdiv (2 ^ min (IntKind.wrap .u64 kind).toNat (IntKind.bits .i64))) with h | h <;> rw [h] <;> decide
theorem Znf {α:Type} [Inhabited α] {p:α→Bool} {l:List α} {i:Nat} (hi:i=l.length) (hb:∀ q,q<i→p (Nn l q)=false):l.find? p=none:=by
 subst hi
 refine Ybv.2 fun x hx=>?_
 obtain ⟨q,hq,rfl⟩:=YaR.1 hx
 rw [← nth_eq hq,hb q hq];decide
def ZdL (A:Zu→Prop) (i:Int):Int→List Zu→Int→Prop
 | a,[],b=>a=b
 | a,x :: w,b=>A x∧x.src=a∧i≤x.dst∧ZdL A i x.dst w b
def ZcS (m:Zu→Bool) (need:Bool) (w:List Zu):Prop:=need=true → ∃ x ∈ w,m x=true
def Zst (A:Zu→Prop) (m:Zu→Bool) (i:Int) (need:Bool) (u k:Int):Prop:=
 (k = -1 ∧ ∀ w,ZdL A i u w i→¬ ZcS m need w) ∨ ∃ w,ZdL A i u w i∧ZcS m need w∧(w.length:Int)=k ∧ ∀ w',ZdL A i u w' i→ZcS m need w' → w.length≤w'.length
def CwA (A:Zu→Prop) (m:Zu→Bool) (need:Bool) (i:Int) (w:List Zu):Prop:=w≠[]∧ZdL A i i w i∧ZcS m need w
def ZoK (A:Zu→Prop) (m:Zu→Bool) (i:Int) (need:Bool) (u:Int) (n:Nat):Prop:=
 (∃ w,w≠[]∧ZdL A i u w i∧ZcS m need w∧w.length=n) ∧ ∀ w,w≠[]→ZdL A i u w i→ZcS m need w→n≤w.length
def LtA (κ:Zu→Int):List Zu→List Zu→Prop
 | x :: w,y :: v=>κ x<κ y∨(x=y∧LtA κ w v)
 | _,_=>False
def ZF (m:Zu→Bool) (any with_:List Int) (need:Bool) (x:Zu):Int:=if need && !m x then fI with_ x.dst else fI any x.dst
def Zco (f:Zu→Int) (l:List Zu) (b:Int):Prop:=0≤b∧(b=0 → ∀ a ∈ l,f a<0)∧(0<b→(∃ a ∈ l,f a=b - 1) ∧ ∀ a ∈ l,0≤f a→b - 1≤f a)
theorem Zco.nil (f:Zu→Int):Zco f [] 0:=⟨Yaj _,(fun _ a h=>by cases h),fun h=>absurd h (by decide)⟩
theorem Zco.take {f:Zu→Int} {l:List Zu} {b:Int} {x:Zu} (h:Zco f l b) (h1:0≤f x) (h2:b=0∨f x+1<b):Zco f (l ++ [x]) (f x+1):=by
 obtain ⟨a1,a2,a3⟩:=h
 refine ⟨by omega,fun h=>by omega,fun _=>⟨⟨x,by simp,by omega⟩,fun a ha hf=>?_⟩⟩
 rcases YA.1 ha with ha | ha
 ·rcases h2 with h2 | h2
  ·have:=a2 h2 a ha;omega
  ·have:=(a3 ow).2 a ha hf;omega
 ·rw [Yi.1 ha];omega
theorem Zco.skip {f:Zu→Int} {l:List Zu} {b:Int} {x:Zu} (h:Zco f l b) (h1:¬ (0≤f x∧(b=0∨f x+1<b))):Zco f (l ++ [x]) b:=by
 obtain ⟨a1,a2,a3⟩:=h
 refine ⟨a1,fun hb a ha=>?_,fun hb=>?_⟩
 ·rcases YA.1 ha with ha | ha
  ·exact a2 hb a ha
  ·rw [Yi.1 ha];omega
 ·obtain ⟨⟨a,b1,b2⟩,b3⟩:=a3 hb
  refine ⟨⟨a,by simp [b1],b2⟩,fun a ha hf=>?_⟩
  rcases YA.1 ha with ha | ha
  ·exact b3 a ha hf
  ·rw [Yi.1 ha] at hf ⊢;omega
section
variable {A:Zu→Prop} {m:Zu→Bool} {i:Int} {κ:Zu→Int} {any with_:List Int}
theorem ZbV {need:Bool} {x:Zu} {w:List Zu} : ZcS m need (x :: w) ↔ ZcS m (need && !m x) w:=by
 unfold ZcS
 cases need <;> cases hx:m x <;> simp [hx]
structure Zb8 (A:Zu→Prop) (m:Zu→Bool) (i:Int) (any with_:List Int):Prop where
 fa:∀ x,A x→i≤x.dst→Zst A m i false x.dst (fI any x.dst)
 fw:∀ x,A x→i≤x.dst→Zst A m i true x.dst (fI with_ x.dst)
 less:∀ x,A x→x.dst<i→fI any x.dst = -1∧fI with_ x.dst = -1
theorem Zb8.left (h:Zb8 A m i any with_) {x:Zu} (hx:A x) (hi:i≤x.dst) (need:Bool):Zst A m i (need && !m x) x.dst (ZF m any with_ need x):=by
 unfold ZF
 cases hn:(need && !m x)
 ·rw [Yb (by simp)];exact h.fa x hx hi
 ·rw [Ye rfl];exact h.fw x hx hi
theorem Zb8.low (h:Zb8 A m i any with_) {x:Zu} (hx:A x) (hi:x.dst<i) (need:Bool):ZF m any with_ need x = -1:=by
 unfold ZF
 split
 ·exact (h.less x hx hi).2
 ·exact (h.less x hx hi).1
theorem Zb8.way (h:Zb8 A m i any with_) {x:Zu} (hx:A x) {need:Bool} (h0:0≤ZF m any with_ need x):i≤x.dst ∧ ∃ w,ZdL A i x.src (x :: w) i∧ZcS m need (x :: w)∧(w.length:Int)=ZF m any with_ need x ∧ ∀ w',ZdL A i x.dst w' i→ZcS m (need && !m x) w' → w.length≤w'.length:=by
 have hi:i≤x.dst:=Int.not_lt.1 fun k=>by rw [h.low hx k] at h0;omega
 refine ⟨hi,?_⟩
 rcases h.left hx hi need with ⟨k,_⟩ | ⟨w,w1,w2,w3,w4⟩
 ·omega
 ·exact ⟨w,⟨hx,rfl,hi,w1⟩,ZbV.2 w2,w3,w4⟩
theorem Zb8.first (h:Zb8 A m i any with_) {x:Zu} {w:List Zu} {u:Int} {need:Bool} (hw:ZdL A i u (x :: w) i) (hm:ZcS m need (x :: w)):0≤ZF m any with_ need x∧ZF m any with_ need x≤w.length:=by
 obtain ⟨h1,h2,h3,h4⟩:=hw
 rcases h.left h1 h3 need with ⟨_,k⟩ | ⟨v,v1,v2,v3,v4⟩
 ·exact absurd (ZbV.1 hm) (k w h4)
 ·have:=v4 w h4 (ZbV.1 hm);omega
theorem Zb8.short (h:Zb8 A m i any with_) {need:Bool} {u:Int} {l:List Zu} (hl:∀ x,x ∈ l ↔ A x∧x.src=u) {b:Int} (hb:Zco (ZF m any with_ need) l b):(b=0 → ∀ w,w≠[]→ZdL A i u w i→¬ ZcS m need w)∧(0<b→ZoK A m i need u b.toNat):=by
 obtain ⟨b0,b1,b2⟩:=hb
 constructor
 ·intro hb w hn hw hm
  cases w with
  | nil=>exact hn rfl
  | cons x w=>
   have k:=b1 hb x ((hl x).2 ⟨hw.1,hw.2.1⟩)
   have:=(h.first hw hm).1
   omega
 ·intro hb
  obtain ⟨⟨a,a1,a2⟩,a3⟩:=b2 hb
  obtain ⟨a4,a5⟩:=(hl a).1 a1
  obtain ⟨_,w,w1,w2,w3,_⟩:=h.way a4 (need:=need) ow
  refine ⟨⟨a :: w,by simp,a5 ▸ w1,w2,by rw [Yl];omega⟩,fun v hn hv hm=>?_⟩
  cases v with
  | nil=>exact absurd rfl hn
  | cons x v=>
   obtain ⟨k1,k2⟩:=h.first hv hm
   have:=a3 x ((hl x).2 ⟨hv.1,hv.2.1⟩) k1
   rw [Yl];omega
theorem Zp5 {a b:Int} {w:List Zu} {x:Zu} : ZdL A i a (w ++ [x]) b ↔ ZdL A i a w x.src∧A x∧i≤x.dst∧x.dst=b:=by
 induction w generalizing a with
 | nil=>exact ⟨fun ⟨h1,h2,h3,h4⟩=>⟨h2.symm,h1,h3,h4⟩,fun ⟨h1,h2,h3,h4⟩=>⟨h2,h1.symm,h3,h4⟩⟩
 | cons y w ih=>
  rw [Yal]
  show (A y∧y.src=a∧i≤y.dst∧ZdL A i y.dst (w ++ [x]) b) ↔ (A y∧y.src=a∧i≤y.dst∧ZdL A i y.dst w x.src)∧_
  rw [ih]
  constructor
  ·rintro ⟨h1,h2,h3,h4,h5⟩;exact ⟨⟨h1,h2,h3,h4⟩,h5⟩
  ·rintro ⟨⟨h1,h2,h3,h4⟩,h5⟩;exact ⟨h1,h2,h3,h4,h5⟩
theorem ZrL {a b:Int} {w v:List Zu} : ZdL A i a (w++v) b ↔ ∃ c,ZdL A i a w c∧ZdL A i c v b:=by
 induction w generalizing a with
 | nil=>exact ⟨fun h=>⟨a,rfl,h⟩,fun ⟨c,h,k⟩=>by subst h;exact k⟩
 | cons y w ih=>
  rw [Yal]
  show (A y∧y.src=a∧i≤y.dst∧ZdL A i y.dst (w++v) b) ↔ _
  rw [ih]
  constructor
  ·rintro ⟨h1,h2,h3,c,h4,h5⟩;exact ⟨c,⟨h1,h2,h3,h4⟩,h5⟩
  ·rintro ⟨c,⟨h1,h2,h3,h4⟩,h5⟩;exact ⟨h1,h2,h3,c,h4,h5⟩
theorem Zn4 {a b c:Int} : ∀ {w:List Zu},ZdL A i a w b→ZdL A i a w c→b=c
 | [],h,k=>h.symm.trans k
 | x :: w,h,k=>Zn4 (w:=w) h.2.2.2 k.2.2.2
theorem Zq9 {w v:List Zu} {x:Zu} : LtA κ w v→LtA κ (w ++ [x]) v:=by
 induction w generalizing v with
 | nil=>intro h;cases v <;> exact h.elim
 | cons y w ih=>
  intro h
  cases v with
  | nil=>exact h.elim
  | cons z v=>
   rcases h with h | ⟨h,k⟩
   ·exact .inl h
   ·exact .inr ⟨h,ih k⟩
theorem ZtG {w v:List Zu} {x y:Zu} (h:κ x<κ y):LtA κ (w ++ [x]) (w++y :: v):=by
 induction w with
 | nil=>exact .inl h
 | cons z w ih=>exact .inr ⟨rfl,ih⟩
structure ZbS (A:Zu→Prop) (m:Zu→Bool) (κ:Zu→Int) (i:Int) (k:Nat) (need0:Bool) (way:List Zu) (here:Int) (n:Nat) (need:Bool):Prop where
 path:ZdL A i i way here
 len:way.length+n=k
 must:need=(need0 && !way.any m)
 near:0<n→ZoK A m i need here n
 zero:n=0→here=i∧need=false
 first:∀ w,CwA A m need0 i w→w.length=k→(∃ v,w=way++v)∨LtA κ way w
theorem ZoN {need0:Bool} {way v:List Zu} : ZcS m need0 (way++v) ↔ ZcS m (need0 && !way.any m) v:=by
 induction way generalizing need0 with
 | nil=>simp
 | cons x w ih=>
  rw [Yal,ZbV,ih,YbN]
  cases need0 <;> cases m x <;> simp
theorem ZbS.start {k:Nat} {need:Bool} (hk:0<k) (h:ZoK A m i need i k):ZbS A m κ i k need [] i k need:=
 ⟨rfl,by simp,by simp,fun _=>h,fun h=>by omega,fun w _ _=>.inl ⟨w,rfl⟩⟩
theorem ZbS.next {k n:Nat} {need0 need:Bool} {way:List Zu} {x:Zu} (hL:Zb8 A m i any with_) (h:ZbS A m κ i k need0 way x.src (n+1) need) (hx:A x) (hf:ZF m any with_ need x=n)
  (hmin:∀ y,A y→y.src=x.src→ZF m any with_ need y=n→y=x∨κ x<κ y):ZbS A m κ i k need0 (way ++ [x]) x.dst n (need && !m x):=by
 obtain ⟨hi,w,w1,w2,w3,w4⟩:=hL.way hx (need:=need) ow
 refine ⟨Zp5.2 ⟨h.path,hx,hi,rfl⟩,by rw [Yd,Yar];have:=h.len;omega,?_,fun hn=>⟨⟨w,fun e=>by subst e;simp at w3;omega,w1.2.2.2,ZbV.1 w2,by omega⟩,fun v _ hv hm=>by have:=w4 v hv hm;omega⟩,fun hn=>?_,fun v hv hvl=>?_⟩
 ·rw [h.must,List.any_append];cases need0 <;> simp
 ·have e:w = []:=YO ow
  subst e
  refine ⟨w1.2.2.2,?_⟩
  have:=ZbV.1 w2
  cases hn2:(need && !m x)
  ·rfl
  ·obtain ⟨y,hy,_⟩:=this hn2;cases hy
 ·rcases h.first v hv hvl with ⟨u,e⟩ | e
  ·subst e
   cases u with
   | nil=>rw [YN] at hvl;have:=h.len;omega
   | cons y u=>
    obtain ⟨c,c1,c2⟩:=ZrL.1 hv.2.1
    have ec:c=x.src:=Zn4 c1 h.path
    subst ec
    have hm:ZcS m need (y :: u):=by rw [h.must];exact ZoN.1 hv.2.2
    obtain ⟨f1,f2⟩:=hL.first c2 hm
    have hlen:u.length=n:=by
     have:=h.len
     rw [Yd,Yl] at hvl;omega
    have hge:=(h.near ow).2
    obtain ⟨_,z,z1,z2,z3,_⟩:=hL.way c2.1 (need:=need) f1
    have:=hge (y :: z) (by simp) (c2.2.1 ▸ z1) z2
    rw [Yl] at this
    rcases hmin y c2.1 c2.2.1 ow with e | e
    ·subst e;exact .inl ⟨u,by rw [YP];rfl⟩
    ·exact .inr (ZtG e)
  ·exact .inr (Zq9 e)
theorem ZbS.some {k n:Nat} {need0 need:Bool} {way:List Zu} {here:Int} (hL:Zb8 A m i any with_) (h:ZbS A m κ i k need0 way here (n+1) need):∃ x,A x∧x.src=here∧i≤x.dst∧ZF m any with_ need x=n:=by
 obtain ⟨⟨w,hn,hw,hm,hl⟩,hmin⟩:=h.near ow
 cases w with
 | nil=>exact absurd rfl hn
 | cons x w=>
  obtain ⟨f1,f2⟩:=hL.first hw hm
  obtain ⟨hi,z,z1,z2,z3,_⟩:=hL.way hw.1 (need:=need) f1
  have:=hmin (x :: z) (by simp) (hw.2.1 ▸ z1) z2
  rw [Yl] at this hl
  exact ⟨x,hw.1,hw.2.1,hi,by omega⟩
theorem ZbS.done {k:Nat} {need0 need:Bool} {way:List Zu} {here:Int} (hk:0<k) (h:ZbS A m κ i k need0 way here 0 need):CwA A m need0 i way∧way.length=k ∧ ∀ w,CwA A m need0 i w→w.length=k→w=way∨LtA κ way w:=by
 obtain ⟨z1,z2⟩:=h.zero rfl
 have hl:way.length=k:=by have:=h.len;omega
 subst z1
 refine ⟨⟨fun e=>by subst e;simp at hl;omega,h.path,?_⟩,hl,fun w hw hwl=>?_⟩
 ·have:=h.must
  rw [z2] at this
  intro hn
  subst hn
  simp at this
  obtain ⟨x,h1,h2⟩:=this
  exact ⟨x,h1,h2⟩
 ·rcases h.first w hw hwl with ⟨v,e⟩ | e
  ·left
   rw [e,Yd] at hwl
   have:v = []:=YO ow
   rw [e,this,YN]
  ·exact .inr e
def Zdd (A:Zu→Prop) (m:Zu→Bool) (κ:Zu→Int) (need:Bool) (n:Int) (way:List Zu):Prop:=
 (way = [] → ∀ j w,j<n→¬ CwA A m need j w)∧(way≠[] → ∃ j,j<n∧CwA A m need j way ∧ ∀ j' w,j' < n→CwA A m need j' w→way.length<w.length∨(way.length=w.length∧(j<j' ∨ (j=j' ∧ (w=way∨LtA κ way w)))))
end
def ZO (f:Zu→Int) (l:List Zu):Int:=l.foldl (fun b x=>if 0≤f x∧(b=0∨f x+1<b) then f x+1 else b) 0
theorem Zdl {f:Zu→Int} {l:List Zu} {x:Zu} : ZO f (l ++ [x])=if 0≤f x∧(ZO f l=0∨f x+1<ZO f l) then f x+1 else ZO f l:=by
 unfold ZO
 rw [Ybk];rfl
theorem Ziq (f:Zu→Int) (l:List Zu):Zco f l (ZO f l):=by
 suffices ∀ r:List Zu,Zco f r.reverse (ZO f r.reverse) by have:=this l.reverse;rwa [List.reverse_reverse] at this
 intro r
 induction r with
 | nil=>exact Zco.nil f
 | cons x r ih=>
  rw [List.reverse_cons,Zdl]
  split
  ·rename_i h;exact ih.take h.1 h.2
  ·rename_i h;exact ih.skip h
theorem Zh7 {f:Zu→Int} {l:List Zu} {N:Int} (hN:0≤N) (h:∀ x ∈ l,f x+1≤N):0≤ZO f l∧ZO f l≤N:=by
 obtain ⟨h1,h2,h3⟩:=Ziq f l
 refine ⟨h1,?_⟩
 by_cases h0:ZO f l=0
 ·omega
 ·obtain ⟨a,a1,a2⟩:=(h3 ow).1
  have:=h a a1;omega
def ZaT (out:Int→List Zu) (f:Bool→Zu→Int) (m:Zu→Bool) (i:Int):Nat→Int→Bool→List Zu
 | 0,_,_=>[]
 | n+1,here,need=>match (out here).find? fun x=>decide (i≤x.dst) && decide (f need x=n) with
  | none=>[]
  | some x=>x :: ZaT out f m i n x.dst (need && !m x)
theorem ZlL {α:Type} [Inhabited α] {p:α→Bool} {l:List α} {i:Nat} (hi:i<l.length) (hp:p (Nn l i)=true) (hb:∀ q,q<i→p (Nn l q)=false):l.find? p=some (Nn l i):=by
 induction l generalizing i with
 | nil=>simp at hi
 | cons y l ih=>
  cases i with
  | zero=>
   rw [nth_eq (by simp)] at hp ⊢
   exact List.find?_cons_of_pos hp
  | succ i=>
   have h0:=hb 0 ow
   rw [nth_eq (by simp)] at h0
   have hs:∀ q,q<l.length→Nn (y :: l) (q+1)=Nn l q:=fun q hq=>by rw [nth_eq (by simpa using hq),nth_eq hq];rfl
   have hi':i<l.length:=by simpa using hi
   rw [hs i hi'] at hp ⊢
   rw [List.find?_cons_of_neg (by simpa using h0)]
   exact ih hi' hp fun q hq=>by have:=hb (q+1) ow;rwa [hs q ow] at this
section
variable {A:Zu→Prop} {m:Zu→Bool} {i:Int} {κ:Zu→Int} {any with_:List Int}
theorem Zgo {out:Int→List Zu} (ho:∀ u x,x ∈ out u ↔ A x∧x.src=u) (hs:∀ u,(out u).Pairwise fun a b=>κ a<κ b) (hL:Zb8 A m i any with_) {k n:Nat} {need0 need:Bool} {way:List Zu} {here:Int} (h:ZbS A m κ i k need0 way here (n+1) need) :
  ∃ x,(out here).find? (fun x=>decide (i≤x.dst) && decide (ZF m any with_ need x=n))=some x∧x.src=here∧ZbS A m κ i k need0 (way ++ [x]) x.dst n (need && !m x):=by
 obtain ⟨y,y1,y2,y3,y4⟩:=h.some hL
 have hy:y ∈ out here:=(ho _ _).2 ⟨y1,y2⟩
 cases hf:(out here).find? (fun x=>decide (i≤x.dst) && decide (ZF m any with_ need x=n)) with
 | none=>have:=Ybv.1 hf y hy;simp [y3,y4] at this
 | some x=>
  have hx:=List.find?_some hf
  have hm:=List.mem_of_find?_eq_some hf
  simp at hx
  obtain ⟨x1,x2⟩:=(ho _ _).1 hm
  subst x2
  refine ⟨x,rfl,rfl,h.next hL x1 hx.2 fun z z1 z2 z3=>?_⟩
  have hz:z ∈ out x.src:=(ho _ _).2 ⟨z1,z2⟩
  have hzi:i≤z.dst:=Int.not_lt.1 fun k=>by rw [hL.low z1 k] at z3;omega
  obtain ⟨l1,l2,hl,hn⟩:=List.find?_eq_some_iff_append.1 hf |>.2
  rw [hl] at hz
  rcases YA.1 hz with hz | hz
  ·have:=hn z hz;simp [hzi,z3] at this
  ·rcases Yk.1 hz with hz | hz
   ·exact .inl hz
   ·have hp:=hs x.src
    rw [hl] at hp
    exact .inr ((Yq.1 (Ybg.1 hp).2.1).1 z hz)
theorem ZiA {out:Int→List Zu} (ho:∀ u x,x ∈ out u ↔ A x∧x.src=u) (hs:∀ u,(out u).Pairwise fun a b=>κ a<κ b) (hL:Zb8 A m i any with_) {k:Nat} {need0:Bool} : ∀ {n:Nat} {need:Bool} {way:List Zu} {here:Int},ZbS A m κ i k need0 way here n need →
  ∃ here' need',ZbS A m κ i k need0 (way++ZaT out (ZF m any with_) m i n here need) here' 0 need'
 | 0,need,way,here,h=>⟨here,need,by rw [ZaT,YN];exact h⟩
 | n+1,need,way,here,h=>by
  obtain ⟨x,hx,_,hw⟩:=Zgo ho hs hL h
  obtain ⟨a,b,hr⟩:=ZiA ho hs hL hw
  refine ⟨a,b,?_⟩
  rw [ZaT,hx]
  rwa [YP] at hr
theorem ZoV {out:Int→List Zu} (ho:∀ u x,x ∈ out u ↔ A x∧x.src=u) (hs:∀ u,(out u).Pairwise fun a b=>κ a<κ b) (hL:Zb8 A m i any with_) {k:Nat} {need:Bool} (hk:0<k) (h:ZoK A m i need i k) :
  CwA A m need i (ZaT out (ZF m any with_) m i k i need)∧(ZaT out (ZF m any with_) m i k i need).length=k ∧ ∀ w,CwA A m need i w→w.length=k→w=ZaT out (ZF m any with_) m i k i need∨LtA κ (ZaT out (ZF m any with_) m i k i need) w:=by
 obtain ⟨a,b,hr⟩:=ZiA ho hs hL (ZbS.start (κ:=κ) hk h)
 exact ZbS.done hk hr
end
theorem Zm4 {n:Nat} {prev:Int→List Int} {least t:Int} (hp:∀ x,∀ u ∈ prev x,0≤u∧u<(n:Int)) (ht:0≤t∧t<(n:Int)) {k:Nat} {u:Int} (h:Zex prev least t k u) :
  (∀ j,Zex prev least t j u→k≤j) → ∃ l:List Int,l.length=k+1∧l.Nodup ∧ ∀ y ∈ l,(0≤y∧y<(n:Int)) ∧ ∃ j,j≤k∧Zex prev least t j y ∧ ∀ j',Zex prev least t j' y→j≤j':=by
 induction h with
 | zero=>intro hm;exact ⟨[t],rfl,by simp,fun y hy=>by rw [Yi.1 hy];exact ⟨ht,0,YL _,.zero,fun _ _=>Yw _⟩⟩
 | @step k u x h1 hl r ih=>
  intro hm
  obtain ⟨l,l1,l2,l3⟩:=ih fun j hj=>by have:=hm (j+1) (.step h1 hl hj);omega
  refine ⟨u :: l,by rw [Yl,l1],YaH.2 ⟨fun hu=>?_,l2⟩,fun y hy=>?_⟩
  ·obtain ⟨_,j,j1,j2,_⟩:=l3 u hu
   have:=hm j j2;omega
  ·rcases Yk.1 hy with rfl | hy
   ·exact ⟨hp _ _ h1,k+1,YL _,.step h1 hl r,hm⟩
   ·obtain ⟨a,j,j1,j2⟩:=l3 y hy
    exact ⟨a,j,by omega,j2⟩
theorem Zc5.le {n:Nat} {prev:Int→List Int} {least t:Int} {D:List Int} (h:Zc5 n prev least t D) (hp:∀ x,∀ u ∈ prev x,0≤u∧u<(n:Int)) (ht:0≤t∧t<(n:Int)):∀ z ∈ D,-1≤z∧z<(n:Int):=fun z hz=>by
 obtain ⟨u,hu,rfl⟩:=YaR.1 hz
 rw [← nth_eq hu]
 rcases h.2 u (by have:=h.1;omega) with ⟨h1,_⟩ | ⟨k,h1,h2,h3⟩
 ·omega
 ·obtain ⟨l,l1,l2,l3⟩:=Zm4 hp ht h2 h3
  have:=Zi9 l2 fun y hy=>(l3 y hy).1
  omega
theorem Zof (O I:List (List Z4)) (m:Nat) (u mask:Int) (hO:∀ l ∈ O,l.length≤1000000):FnP prog 171 [Zhq O I m,.int .i64 u,.int .i64 mask] (.sl ZaB (Z5 O mask u)):=by
 refine FnP.mk func171 rfl ntmps171 rfl fun B a w F Z hfr G=>Ya ?_
 refine rZ G (qC qZ) Z [6,2,1,0] [0] fun G=>Ya ?_
 refine rZ G (qC qZ) Z [7,6,2,1,0] [0] fun G=>(Ya (Ya ?_))
 refine rZ G (qR rr (qR rr (qf (oP (Zev O I m u) func194 (Args.two .t .t)) r2 qz (qf (o_not .t) r1 qz qZ)))) Z [13,7,6,2,1,0] [0] fun G=>?_
 refine Zc G rfl (fun hc0=>?_) (fun hc0=>?_)
 ·have hg:[] = Z5 O mask u:=by unfold Z5;rw [Yb (by have h9:=hc0;simp at h9;omega)]
  refine Ya (rZ G (qR rr (qO rr qZ)) Z [7,6,2,1,0] [0] fun G=>(Yh (Zm ?_)))
  refine Zw hfr G rfl rfl rfl (.trans .nilSl (.sl hg))
 have hth:0≤u∧u<O.length:=by simpa using hc0
 have hNl:=hO _ (nth_mem (q:=O) (k:=u.toNat) ow)
 refine Yf (Za (Ya (Ya (Zg G (qR rr (qf (ZR .t) r1 qz (qf (oG 0 .t) r1 qz (qf (oR false 1 .t) r1 qz (qR rr (qf (ZI (sz:=1) (.mk Yb9 kr) (by intro x;rfl) .t .t (by exact hth.1) (by exact hth.2)) r2 qz (qf (oR false 1 .t) r1 qz (qu Yb1 r1 (qJ qZ))))))))) Z [23,22,21,7,6,2,1] [0] rfl rfl fun a w F G=>?_))))
 try simp only [Yc] at G
 refine Za (Yg ?_)
 replace G:=G.fresh 50 rfl
 replace G:=G.turn 50 rfl (ZaP (T:=165) (sz:=4) (R:=ZaB))
 refine Zl (σ:=(Nat)×(Value)×(List Zu)) [1,2,6,21,22] [0] (fun s=>[(23,.pv (.int .i64 (s.1:Int))),(7,.pv (.is s.2.1))]) (fun s=>[(50,.ob (.val s.2.1) (ZA 165 4 ZaB s.2.2))]) (fun s=>s.1≤(Nn O u.toNat).length∧(s.2.2=(((Nn O u.toNat).take s.1).filter fun e=>ofB mask e.kind).map (ZsZ u))) (fun s=>(Nn O u.toNat).length - s.1) ((0),(.slice none 0 0),([])) G ⟨rfl,rfl,rfl,rfl,rfl,rfl,rfl,tv⟩ ⟨rfl,rfl,tv⟩ ⟨Yw _,rfl⟩ ?_
 clear G;intro s a w F hC G
 obtain ⟨i,v,out⟩:=s
 try dsimp only at hC
 obtain ⟨F,G⟩:=G.nM [23,22,21,7,6,2,1] [50,0]
 try dsimp only at G
 obtain ⟨hi,hq⟩:=hC
 have hol:out.length≤i:=by rw [hq,YF];exact Y6 (Y3 _ _) (by rw [Yj];omega)
 refine Ya (rZ G (qL r2) Z [24,23,22,21,7,6,2,1] [50,0] fun G=>Ya ?_)
 refine Zc G rfl (fun hc1=>?_) (fun hc1=>?_)
 ·have hil:i<(Nn O u.toNat).length:=by simp at hc1;omega
  refine Yf (Za (Ya (Yg (Ya (Zb G (qy 3 Yb1 r2 (qf (oR true 3 .t) r1 qz (qf (oH [.int .i64 0,.int .i64 0,.int .i64 0] 101) trivial qz (qS 3 101 r2 r1 qZ)))) Z [23,22,21,9,7,6,2,1] [101,50,0] (fun _=>rfl) (fun _=>rfl) fun τ a w F G=>?_)))))
  try dsimp only [RS.sub,SF.sub,CF.sub,csub,Anc.sub,List.map,Zf,xL,xM,Nat.reduceAdd,xD,xE,xT,xU,xC,xN,zCF,ldSF,Zaj,Zal,Zo,ZaB] at G
  generalize τ 9=v9 at G
  try simp only [Yc] at G
  refine Za (Ya (rZ G (qR rr (qg 0 101 r1 r1 (qa 101 r1 r1 (qf (oP (ZqF mask (Nn (Nn O u.toNat) i).kind) func210 (Args.two .t .t)) r2 qz qZ)))) Z [30,23,22,21,9,7,6,2,1] [101,50,0] fun G=>?_))
  refine Zc G rfl (fun hc2=>?_) (fun hc2=>?_)
  ·have hBq:ofB mask (Nn (Nn O u.toNat) i).kind=true:=by simpa using hc2
   refine Zb G (qR rr (qR rr (qg 2 101 r1 r1 (qa 101 r1 r1 (qg 0 101 r1 r1 (qa 101 r1 r1 (qg 1 101 r1 r1 (qa 101 r1 r1 (qf (oB [(0,.tmp 32),(1,.tmp 34),(2,.tmp 36),(3,.tmp 38)] [.int .i64 0,.int .i64 0,.int .i64 0,.int .i64 0] [(0,1),(1,1),(2,1),(3,1)] (.one rfl .t one_int kr (.one rfl .t one_int kr (.one rfl .t one_int kr (.one rfl .t one_int kr .nil))))) r4 qz (qf (o_buildSliceE (sz:=4) (zs:=[.int .i64 0,.int .i64 0,.int .i64 0,.int .i64 0]) (r:=[(0,.tmp 39)]) (l:=[_,_,_,_]) Yb5 kr kr kr kr rfl rfl (.agg rfl .t kr kr .nil) rfl) r1 qz (qf (Z1 (sz:=4) (bs:=32) 50 (.mk' Yb5 kr kr) (by intro x;rfl) .is (.arr (l':=[(⟨u,(Nn (Nn O u.toNat) i).node,(Nn (Nn O u.toNat) i).kind,(Nn (Nn O u.toNat) i).label⟩:Zu)]) .t) (by simp only [Yd,Yl,Yy,Yj,YJ];omega) (by decide)) ⟨rfl,rfl,tv⟩ ⟨rfl,tv⟩ (qO rr qZ)))))))))))) Z [23,22,21,7,6,2,1] [101,50,0] (fun _=>rfl) (fun _=>rfl) fun τ a w F G=>?_
   try dsimp only [RS.sub,SF.sub,CF.sub,csub,Anc.sub,List.map,Zf,xL,xM,Nat.reduceAdd,xD,xE,xT,xU,xC,xN,zCF,ldSF,Zaj,Zal,Zo,ZaB] at G
   generalize τ 41=v41 at G
   refine Zk (Za (rZ G (qp r1 (qR rr qZ)) Z [23,22,21,7,6,2,1] [101,50,0] fun G=>?_))
   replace G:=G.ent (i:=23) (s':=.pv (.int .i64 ((i+1:Nat):Int))) rfl (.int (Zd ow))
   obtain ⟨F,G⟩:=G.nM [22,21,6,2,1,7,23] [0,50]
   exact ⟨((i+1),_,_),F,⟨by omega,(by rw [Zt hil,Yaa,YK,← hq];simp [hBq,ZsZ])⟩,G,by omega⟩
  have hBq:ofB mask (Nn (Nn O u.toNat) i).kind=false:=by simpa using hc2
  refine Yf (Zk (Za (rZ G (qp r1 (qR rr qZ)) Z [23,22,21,7,6,2,1] [101,50,0] fun G=>?_)))
  replace G:=G.ent (i:=23) (s':=.pv (.int .i64 ((i+1:Nat):Int))) rfl (.int (Zd ow))
  obtain ⟨F,G⟩:=G.nM [22,21,6,2,1,7,23] [0,50]
  exact ⟨((i+1),_,_),F,⟨by omega,(by rw [Zt hil,Yaa,YK,← hq];simp [hBq,ZsZ])⟩,G,by omega⟩
 have hil:i=(Nn O u.toNat).length:=by simp at hc1;omega
 have hg:out=Z5 O mask u:=by rw [hq,hil,YC];unfold Z5;rw [Ye hth]
 refine Yx (Zj (Zj (Zr (Za (Ya (rZ G (qR rr (qO rr qZ)) Z [6] [50,0] fun G=>Yh ?_))))))
 obtain ⟨F,G⟩:=G.give 50 6 rfl rfl
 refine Zw hfr G rfl rfl rfl (.sl hg)
theorem Zqv (O I:List (List Z4)) (m:Nat) (mask must:Int) (dv ev:List Int) (x:Zu) (need:Bool) (hx:0≤x.dst∧x.dst<dv.length∧x.dst<ev.length):FnP prog 172 [.agg [Zhq O I m,.int .i64 mask,.int .i64 must,.sl Zo dv,.sl Zo ev],.agg (ZaB x),.bool need] (.int .i64 (ZF (fun y:Zu=>ofB must y.kind) dv ev need x)):=by
 refine FnP.mk func172 rfl ntmps172 rfl fun B a w F Z hfr G=>Ya ?_
 refine Zb G (qx 101 r1 (qx 102 r1 (qI qZ))) Z [6,4,3,2] [102,101,0] (fun _=>rfl) (fun _=>rfl) fun τ a w F G=>?_
 try dsimp only [RS.sub,SF.sub,CF.sub,csub,Anc.sub,List.map,zCF,Zaj,Zal,Zo,ZaB] at G
 generalize τ 3=v3,τ 4=v4 at G
 refine Za (Ya (Ya (rZ G (qR rr (qR rr (qv 2 101 rfl r2 r1 (qw 101 rfl r2 r1 (qv 2 102 rfl r2 r1 (qw 102 rfl r2 r1 (qk rfl (fun h=>Zat Yb8 kr (.w h)) r2 qz (qk rfl (fun h=>Zej (.w h) (.w h)  (by rw [Zao];omega)) r3 qz (qk rfl (fun h=>Zde (.w h) qi) r2 qz (qk rfl (fun h=>o_eql (.w h) qi) r2 qz (qf (ZH .t .t) r2 qz qZ))))))))))) Z [17,6,4,3] [102,101,0] fun G=>?_)))
 refine Zc G rfl (fun hc0=>?_) (fun hc0=>?_)
 ·have hg:Nn ev x.dst.toNat=ZF (fun y:Zu=>ofB must y.kind) dv ev need x:=by unfold ZF;rw [Ye (by rw [← of_zero];exact hc0),Zct hx.1]
  refine Ya (Zg G (qg 4 101 r1 r1 (qa 101 r1 r1 (qg 1 102 r1 r1 (qa 102 r1 r1 (qy 1 YbZ r2 (qf (oR false 1 .t) r1 qz (qO rr qZ))))))) Z [6,4,3] [102,101,0] rfl rfl fun a w F G=>?_)
  try simp only [Yc] at G
  refine Za (Yh (Zm (Zw hfr G rfl rfl rfl (.int hg))))
 have hg:Nn dv x.dst.toNat=ZF (fun y:Zu=>ofB must y.kind) dv ev need x:=by unfold ZF;rw [Yb (by rw [← of_zero,Bool.not_eq_true];exact hc0),Zct hx.1]
 refine Yf (Za (Ya (Zg G (qg 3 101 r1 r1 (qa 101 r1 r1 (qg 1 102 r1 r1 (qa 102 r1 r1 (qy 1 YbZ r2 (qf (oR false 1 .t) r1 qz (qO rr qZ))))))) Z [6] [0] rfl rfl fun a w F G=>?_)))
 try simp only [Yc] at G
 refine Za (Yh (Zw hfr G rfl rfl rfl (.int hg)))
theorem Zrn (O I:List (List Z4)) (m:Nat) (mask must:Int) (dv ev:List Int) (node:Int) (need:Bool) (hO:∀ l ∈ O,l.length≤1000000) (hor:∀ u,∀ x ∈ Z5 O mask u,0≤x.dst∧x.dst<dv.length∧x.dst<ev.length) (hol:∀ u,(Z5 O mask u).length≤1000000) (hlv:∀ x ∈ (Z5 O mask node),-1≤ZF (fun y:Zu=>ofB must y.kind) dv ev need x∧ZF (fun y:Zu=>ofB must y.kind) dv ev need x≤90000):FnP prog 129 [.agg [Zhq O I m,.int .i64 mask,.int .i64 must,.sl Zo dv,.sl Zo ev],.int .i64 node,.bool need] (.int .i64 (ZO (ZF (fun y:Zu=>ofB must y.kind) dv ev need) (Z5 O mask node))):=by
 refine FnP.mk func129 rfl ntmps129 rfl fun B a w F Z hfr G=>?_
 have hln:=hol node
 refine Ya (Zb G (qx 101 r1 (qI qZ)) Z [6,3,2,1] [101,0] (fun _=>rfl) (fun _=>rfl) fun τ a w F G=>?_)
 try dsimp only [RS.sub,SF.sub,CF.sub,csub,Anc.sub,List.map,zCF,Zaj,Zal,Zo,ZaB] at G
 generalize τ 3=v3 at G
 refine Za (Ya (rZ G (qI qZ) Z [7,6,3,2,1] [101,0] fun G=>(Ya (Ya ?_))))
 refine rZ G (qg 0 101 r1 r1 (qa 101 r1 r1 (qR rr (qg 1 101 r1 r1 (qa 101 r1 r1 (qf (oP (Zof O I m node mask hO) func171 (Args.three .t .t .t)) r3 qz (qu Yb5 r1 (qJ qZ)))))))) Z [18,17,16,7,6,3,2] [101,0] fun G=>Yg ?_
 refine Zl (σ:=(Nat)) [2,3,6,16,17] [0,101] (fun s=>[(18,.pv (.int .i64 (s:Int))),(7,.pv (.int .i64 (ZO (ZF (fun y:Zu=>ofB must y.kind) dv ev need) ((Z5 O mask node).take s))))]) (fun s=>[]) (fun s=>s≤(Z5 O mask node).length∧(True)) (fun s=>(Z5 O mask node).length - s) (0) G ⟨rfl,rfl,rfl,rfl,rfl,rfl,rfl,tv⟩ ⟨rfl,rfl,tv⟩ ⟨Yw _,tv⟩ ?_
 clear G;intro i a w F hC G
 try dsimp only at hC
 obtain ⟨F,G⟩:=G.nM [18,17,16,7,6,3,2] [101,0]
 try dsimp only at G
 obtain ⟨hi,hq⟩:=hC
 have hsl:=Zh7 (f:=(ZF (fun y:Zu=>ofB must y.kind) dv ev need)) (l:=(Z5 O mask node).take i) (N:=100000) ow fun x hx=>(by have:=hlv x (Yao hx);omega)
 refine Ya (rZ G (qL r2) Z [19,18,17,16,7,6,3,2] [101,0] fun G=>Ya ?_)
 refine Zc G rfl (fun hc0=>?_) (fun hc0=>?_)
 ·have hil:i<(Z5 O mask node).length:=by simp at hc0;omega
  have hlx:=hlv (Nn (Z5 O mask node) i) (nth_mem hil)
  refine Yf (Za (Ya (Yg (Ya (Zb G (qy 4 Yb5 r2 (qf (oR true 4 .t) r1 qz (qf (oH [.int .i64 0,.int .i64 0,.int .i64 0,.int .i64 0] 102) trivial qz (qS 4 102 r2 r1 qZ)))) Z [18,17,16,9,7,6,3,2] [102,101,0] (fun _=>rfl) (fun _=>rfl) fun τ a w F G=>?_)))))
  try dsimp only [RS.sub,SF.sub,CF.sub,csub,Anc.sub,List.map,Zf,xL,xM,Nat.reduceAdd,xD,xE,xT,xU,xC,xN,zCF,ldSF,Zaj,Zal,Zo,ZaB] at G
  generalize τ 9=v9 at G
  try simp only [Yc] at G
  refine Za (Ya (rZ G (qe 5 101 r1 r1 (qe 4 102 r1 r1 (qR rr (qf (oP (Zqv O I m mask must dv ev (Nn (Z5 O mask node) i) need (hor _ _ (nth_mem hil))) func172 (Args.three (.pagg .t) (.pagg .t) .t)) r3 qz (qO rr qZ))))) Z [18,17,16,10,7,6,3,2] [101,0] fun G=>Ya ?_))
  refine Zg G (qR rr (qf (ZbM .t qi) r1 qz (qR rr (qm rfl rfl rfl rfl (qk rfl (fun h=>o_eql (.w h) qi) r2 qz (qk rfl (fun h=>oM (.w h)) r2 qz (Zv.cons (Zan.cond2 rfl rfl (fun h=>ZaS .t (by rfl))) r2 qz (Zv.cons (Zan.cond2 rfl rfl (fun h=>o_add (.w h) qi)) r2 qz (Zv.cons (Zan.cond2 rfl rfl (fun h=>ZaS .t (by rfl))) r2 qz (Zv.cons (Zan.cond2 rfl rfl (fun h=>ZaD (.w h) (.w h))) r3 qz (qk rfl (fun h=>Zab (.w h) (.wc h)) r3 qz (qf (ZH .t .t) r2 qz qZ)))))))))))) Z [37,18,17,16,10,7,6,3,2] [101,0] rfl rfl fun a w F G=>?_
  try dsimp only [Zaj,Zal,Zo,ZaB] at G
  refine Za (Zc G rfl (fun hc1=>?_) (fun hc1=>?_))
  ·have hyn:(0≤ZF (fun y:Zu=>ofB must y.kind) dv ev need (Nn (Z5 O mask node) i)∧(ZO (ZF (fun y:Zu=>ofB must y.kind) dv ev need) ((Z5 O mask node).take i)=0∨ZF (fun y:Zu=>ofB must y.kind) dv ev need (Nn (Z5 O mask node) i)+1<ZO (ZF (fun y:Zu=>ofB must y.kind) dv ev need) ((Z5 O mask node).take i))):=by have hlx:=hlv (Nn (Z5 O mask node) i) (nth_mem hil);have h9:=hc1;rw [ZC ow] at h9;simpa using h9
   refine Zg G (qR rr (qp r1 (qO rr qZ))) Z [18,17,16,7,6,3,2] [101,0] rfl rfl fun a w F G=>Zk (Za ?_)
   refine rZ G (qp r1 (qR rr qZ)) Z [18,17,16,7,6,3,2] [101,0] fun G=>?_
   replace G:=G.ent (i:=18) (s':=.pv (.int .i64 ((i+1:Nat):Int))) rfl (.int (Zd ow))
   replace G:=G.ent (i:=7) (s':=.pv (.int .i64 (ZO (ZF (fun y:Zu=>ofB must y.kind) dv ev need) ((Z5 O mask node).take (i+1))))) rfl (.int (by rw [Zt hil,Zdl,Ye hyn];exact ZC ow))
   obtain ⟨F,G⟩:=G.nM [17,16,6,3,2,7,18] [101,0]
   exact ⟨(i+1),F,⟨by omega,tv⟩,G,by omega⟩
  have hyn:¬ (0≤ZF (fun y:Zu=>ofB must y.kind) dv ev need (Nn (Z5 O mask node) i)∧(ZO (ZF (fun y:Zu=>ofB must y.kind) dv ev need) ((Z5 O mask node).take i)=0∨ZF (fun y:Zu=>ofB must y.kind) dv ev need (Nn (Z5 O mask node) i)+1<ZO (ZF (fun y:Zu=>ofB must y.kind) dv ev need) ((Z5 O mask node).take i))):=by have hlx:=hlv (Nn (Z5 O mask node) i) (nth_mem hil);have h9:=hc1;rw [ZC ow] at h9;simpa using h9
  refine Yf (Zk (Za (rZ G (qp r1 (qR rr qZ)) Z [18,17,16,7,6,3,2] [101,0] fun G=>?_)))
  replace G:=G.ent (i:=18) (s':=.pv (.int .i64 ((i+1:Nat):Int))) rfl (.int (Zd ow))
  replace G:=G.ent (i:=7) (s':=.pv (.int .i64 (ZO (ZF (fun y:Zu=>ofB must y.kind) dv ev need) ((Z5 O mask node).take (i+1))))) rfl (.int (by rw [Zt hil,Zdl,Yb hyn]))
  obtain ⟨F,G⟩:=G.nM [17,16,6,3,2,7,18] [101,0]
  exact ⟨(i+1),F,⟨by omega,tv⟩,G,by omega⟩
 have hil:i=(Z5 O mask node).length:=by simp at hc0;omega
 refine Yx (Zj (Zj (Zr (Za (Ya (rZ G (qR rr (qO rr qZ)) Z [6] [0] fun G=>Yh ?_))))))
 refine Zw hfr G rfl rfl rfl (.int (by rw [hil,YC]))
theorem ZqW (E:List Zu) (O I:List (List Z4)) (m:Nat) (mask must:Int) (dv ev:List Int) (node:Int) (k:Nat) (need:Bool) (hk:k≤100000) (h:Zcz O.length E O I) (hL:Zb8 (fun x=>x ∈ E∧ofB mask x.kind=true) (fun y:Zu=>ofB must y.kind) node dv ev) (hW0:ZbS (fun x=>x ∈ E∧ofB mask x.kind=true) (fun y:Zu=>ofB must y.kind) ZlV node k need [] node k need) (hO:∀ l ∈ O,l.length≤1000000) (hor:∀ u,∀ x ∈ Z5 O mask u,0≤x.dst∧x.dst<dv.length∧x.dst<ev.length) (hol:∀ u,(Z5 O mask u).length≤1000000):FnP prog 130 [.agg [Zhq O I m,.int .i64 mask,.int .i64 must,.sl Zo dv,.sl Zo ev],.int .i64 node,.int .i64 (k:Int),.bool need] (.sl ZaB (ZaT (Z5 O mask) (ZF (fun y:Zu=>ofB must y.kind) dv ev) (fun y:Zu=>ofB must y.kind) node k node need)):=by
 refine FnP.mk func130 rfl ntmps130 rfl fun B a w F Z hfr G=>Ya ?_
 refine Zb G (qx 101 r1 (qC qZ)) Z [8,4,3,2,1] [101,0] (fun _=>rfl) (fun _=>rfl) fun τ a w F G=>?_
 try dsimp only [RS.sub,SF.sub,CF.sub,csub,Anc.sub,List.map,zCF,Zaj,Zal,Zo,ZaB] at G
 generalize τ 4=v4 at G
 refine Za (Ya (rZ G (qC qZ) Z [9,8,4,3,2,1] [101,0] fun G=>(Ya (Ya ?_))))
 refine rZ G (qR rr (qO rr qZ)) Z [10,9,8,4,3,2,1] [101,0] fun G=>Yg ?_
 replace G:=G.fresh 50 rfl
 replace G:=G.turn 50 rfl (ZaP (T:=165) (sz:=4) (R:=ZaB))
 refine Zl (σ:=Nat×Int×Bool×Value×List Zu) [1,4,8] [0,101] (fun s=>[(2,.pv (.int .i64 (s.1:Int))),(10,.pv (.int .i64 s.2.1)),(3,.pv (.bool s.2.2.1)),(9,.pv (.is s.2.2.2.1))]) (fun s=>[(50,.ob (.val s.2.2.2.1) (ZA 165 4 ZaB s.2.2.2.2))]) (fun s=>ZbS (fun x=>x ∈ E∧ofB mask x.kind=true) (fun y:Zu=>ofB must y.kind) ZlV node k need s.2.2.2.2 s.2.1 s.1 s.2.2.1∧s.2.2.2.2++ZaT (Z5 O mask) (ZF (fun y:Zu=>ofB must y.kind) dv ev) (fun y:Zu=>ofB must y.kind) node s.1 s.2.1 s.2.2.1=ZaT (Z5 O mask) (ZF (fun y:Zu=>ofB must y.kind) dv ev) (fun y:Zu=>ofB must y.kind) node k node need) (fun s=>s.1) ((k),(node),(need),(.slice none 0 0),([])) G ⟨rfl,rfl,rfl,rfl,rfl,rfl,rfl,tv⟩ ⟨rfl,rfl,rfl,tv⟩ ⟨hW0,rfl⟩ ?_
 clear G;intro s a w F hC G
 obtain ⟨n,here,need2,v,way⟩:=s
 try dsimp only at hC
 obtain ⟨F,G⟩:=G.nM [10,9,8,4,3,2,1] [101,50,0]
 try dsimp only at G
 obtain ⟨hWI,hWF⟩:=hC
 have hwl:=hWI.len
 refine Ya (Ya (rZ G (qR rr (qf (ZaV .t qi) r1 qz qZ)) Z [15,10,9,8,4,3,2,1] [101,50,0] fun G=>?_))
 refine Zc G rfl (fun hc0=>?_) (fun hc0=>?_)
 ·obtain ⟨n1,rfl⟩:∃ n1,n=n1+1:=⟨n - 1,by have:=Yt hc0;omega⟩
  have hw1:IntKind.wrap .i64 (((n1+1:Nat):Int) - 1)=(n1:Int):=by rw [ZC ow];omega
  have hln:=hol here
  obtain ⟨x,hx1,hx2,hx3⟩:=Zgo (h.outM mask) (h.outP mask) hL hWI
  refine Yf (Za (Ya (Yg (Ya (rZ G (qg 0 101 r1 r1 (qa 101 r1 r1 (qR rr (qg 1 101 r1 r1 (qa 101 r1 r1 (qf (oP (Zof O I m here mask hO) func171 (Args.three .t .t .t)) r3 qz (qu Yb5 r1 (qJ qZ)))))))) Z [25,24,23,10,9,8,4,3,2,1] [101,50,0] fun G=>Yg ?_)))))
  refine Zl (σ:=(Nat)) [1,2,3,4,8,9,10,23,24] [0,50,101] (fun s=>[(25,.pv (.int .i64 (s:Int)))]) (fun s=>[]) (fun s=>s≤(Z5 O mask here).length∧(∀ q,q<s→(fun x:Zu=>decide (node≤x.dst) && decide (ZF (fun y:Zu=>ofB must y.kind) dv ev need2 x=(n1:Int))) (Nn (Z5 O mask here) q)=false)) (fun s=>(Z5 O mask here).length - s) (0) G ⟨rfl,rfl,rfl,rfl,rfl,rfl,rfl,rfl,rfl,rfl,tv⟩ ⟨rfl,rfl,rfl,tv⟩ ⟨Yw _,fun q hq=>absurd hq (Y9 q)⟩ ?_
  clear G;intro i a w F hC G
  try dsimp only at hC
  obtain ⟨F,G⟩:=G.nM [25,24,23,10,9,8,4,3,2,1] [101,50,0]
  try dsimp only at G
  obtain ⟨hi,hq⟩:=hC
  refine Ya (rZ G (qL r2) Z [26,25,24,23,10,9,8,4,3,2,1] [101,50,0] fun G=>Ya ?_)
  refine Zc G rfl (fun hc1=>?_) (fun hc1=>?_)
  ·have hil:i<(Z5 O mask here).length:=by simp at hc1;omega
   refine Yf (Za (Ya (Yg (Ya (Zb G (qy 4 Yb5 r2 (qf (oR true 4 .t) r1 qz (qf (oH [.int .i64 0,.int .i64 0,.int .i64 0,.int .i64 0] 102) trivial qz (qS 4 102 r2 r1 qZ)))) Z [25,24,23,12,10,9,8,4,3,2,1] [102,101,50,0] (fun _=>rfl) (fun _=>rfl) fun τ a w F G=>?_)))))
   try dsimp only [RS.sub,SF.sub,CF.sub,csub,Anc.sub,List.map,Zf,xL,xM,Nat.reduceAdd,xD,xE,xT,xU,xC,xN,zCF,ldSF,Zaj,Zal,Zo,ZaB] at G
   generalize τ 12=v12 at G
   try simp only [Yc] at G
   refine Za (Ya (Ya (rZ G (qg 1 102 r1 r1 (qa 102 r1 r1 (qR rr (qf (ZaD .t .t) r2 qz (qR rr (qk rfl (fun h=>oL true 5 101 .is) r2 r1 (qk rfl (fun h=>oL true 4 102 .is) r2 r1 (qm rfl rfl rfl rfl (qk rfl (fun h=>oP (Zqv O I m mask must dv ev (Nn (Z5 O mask here) i) need2 (hor _ _ (nth_mem hil))) func172 (Args.three (.pagg (.w h)) (.pagg (.w h)) (.w h))) r4 qz (qm rfl rfl rfl rfl (qk rfl (fun h=>o_sub (.w h) qi) r2 qz (qk rfl (fun h=>o_neq (.w h) (.w h)) r3 qz (qf (Zab .t .t) r2 qz qZ))))))))))))) Z [41,25,24,23,12,10,9,8,4,3,2,1] [102,101,50,0] fun G=>?_)))
   refine Zc G rfl (fun hc2=>?_) (fun hc2=>?_)
   ·have hpf:(fun x:Zu=>decide (node≤x.dst) && decide (ZF (fun y:Zu=>ofB must y.kind) dv ev need2 x=(n1:Int))) (Nn (Z5 O mask here) i)=false:=by have h9:=hc2;rw [hw1] at h9;simp at h9 ⊢;intro h8;rcases h9 with h9 | h9;omega;exact h9
    refine Yx (Zj (Zr (Za (rZ G (qp r1 (qR rr qZ)) Z [25,24,23,10,9,8,4,3,2,1] [102,101,50,0] fun G=>?_))))
    replace G:=G.ent (i:=25) (s':=.pv (.int .i64 ((i+1:Nat):Int))) rfl (.int (Zd ow))
    obtain ⟨F,G⟩:=G.nM [24,23,10,9,8,4,3,2,1,25] [101,50,0]
    exact ⟨(i+1),F,⟨by omega,(fun q h9=>by rcases Y8 (Yad h9) with h8 | h8;exact hq q h8;rw [h8];exact hpf)⟩,G,by omega⟩
   have hpt:(fun x:Zu=>decide (node≤x.dst) && decide (ZF (fun y:Zu=>ofB must y.kind) dv ev need2 x=(n1:Int))) (Nn (Z5 O mask here) i)=true:=by have h9:=hc2;rw [hw1] at h9;simp at h9 ⊢;exact ⟨h9.1,h9.2⟩
   have hff:=ZlL (p:=(fun x:Zu=>decide (node≤x.dst) && decide (ZF (fun y:Zu=>ofB must y.kind) dv ev need2 x=(n1:Int)))) hil hpt hq
   rw [hff] at hx1
   have hxe:=YaA hx1
   have hW2:ZbS (fun x=>x ∈ E∧ofB mask x.kind=true) (fun y:Zu=>ofB must y.kind) ZlV node k need (way ++ [(Nn (Z5 O mask here) i)]) (Nn (Z5 O mask here) i).dst n1 (need2 && !ofB must (Nn (Z5 O mask here) i).kind):=by rw [hxe];exact hx3
   have hWF2:(way ++ [(Nn (Z5 O mask here) i)])++ZaT (Z5 O mask) (ZF (fun y:Zu=>ofB must y.kind) dv ev) (fun y:Zu=>ofB must y.kind) node n1 (Nn (Z5 O mask here) i).dst (need2 && !ofB must (Nn (Z5 O mask here) i).kind)=ZaT (Z5 O mask) (ZF (fun y:Zu=>ofB must y.kind) dv ev) (fun y:Zu=>ofB must y.kind) node k node need:=by rw [← hWF,ZaT,hff,YP];rfl
   refine Yf (Za (Ya (Zb G (qR rr (qe 4 102 r1 r1 (qf (o_buildSliceE (sz:=4) (zs:=[.int .i64 0,.int .i64 0,.int .i64 0,.int .i64 0]) (r:=[(0,.tmp 43)]) (l:=[_,_,_,_]) Yb5 kr kr kr kr rfl rfl (.agg rfl .t kr kr .nil) rfl) r1 qz (qf (Z1 (sz:=4) (bs:=32) 50 (.mk' Yb5 kr kr) (by intro x;rfl) .is (.arr (l':=[(Nn (Z5 O mask here) i)]) .t) (by simp only [Yd,Yl,Yy,Yj,YJ];omega) (by decide)) ⟨rfl,rfl,tv⟩ ⟨rfl,tv⟩ (qO rr qZ))))) Z [25,24,23,12,10,9,8,4,3,2,1] [102,101,50,0] (fun _=>rfl) (fun _=>rfl) fun τ a w F G=>?_)))
   try dsimp only [RS.sub,SF.sub,CF.sub,csub,Anc.sub,List.map,Zf,xL,xM,Nat.reduceAdd,xD,xE,xT,xU,xC,xN,zCF,ldSF,Zaj,Zal,Zo,ZaB] at G
   generalize τ 45=v45 at G
   refine Za (Ya (rZ G (qg 1 102 r1 r1 (qa 102 r1 r1 (qO rr qZ))) Z [25,24,23,12,10,9,8,4,3,2,1] [102,101,50,0] fun G=>Ya ?_))
   refine rZ G (qR rr (qR rr (qv 2 101 rfl r2 r1 (qw 101 rfl r2 r1 (qv 2 102 rfl r2 r1 (qw 102 rfl r2 r1 (qk rfl (fun h=>Zat Yb8 kr (.w h)) r2 qz (qk rfl (fun h=>Zej (.w h) (.w h)  (by rw [Zao];omega)) r3 qz (qk rfl (fun h=>Zde (.w h) qi) r2 qz (qk rfl (fun h=>o_eql (.w h) qi) r2 qz (qf (ZH .t .t) r2 qz (qO rr qZ)))))))))))) Z [25,24,23,10,9,8,4,3,2,1] [102,101,50,0] fun G=>Yx ?_
   refine Zr2 (by decide) ?_
   refine Zj (Zj (Zr (Zk (Za (rZ G (qR rr (qf (o_sub .t qi) r1 qz (qO rr qZ))) Z [10,9,8,4,3,2,1] [102,101,50,0] fun G=>?_)))))
   replace G:=G.ent (i:=2) (s':=.pv (.int .i64 (n1:Int))) rfl (.int (by rw [ZC ow];omega))
   replace G:=G.ent (i:=3) (s':=.pv (.bool (need2 && !ofB must (Nn (Z5 O mask here) i).kind))) rfl (.bool (by rw [of_zero]))
   obtain ⟨F,G⟩:=G.nM [8,4,1,9,3,10,2] [101,0,50]
   exact ⟨((n1),((Nn (Z5 O mask here) i).dst),((need2 && !ofB must (Nn (Z5 O mask here) i).kind)),_,_),F,⟨hW2,hWF2⟩,G,by omega⟩
  have hil:i=(Z5 O mask here).length:=by simp at hc1;omega
  rw [Znf (p:=(fun x:Zu=>decide (node≤x.dst) && decide (ZF (fun y:Zu=>ofB must y.kind) dv ev need2 x=(n1:Int)))) hil hq] at hx1;cases hx1
 have hn0:n=0:=by have:=YE hc0;omega
 subst hn0
 have hg:way=ZaT (Z5 O mask) (ZF (fun y:Zu=>ofB must y.kind) dv ev) (fun y:Zu=>ofB must y.kind) node k node need:=by rw [← hWF,ZaT,YN]
 refine Yx (Zj (Zj (Zr (Za (Ya (rZ G (qR rr (qO rr qZ)) Z [8] [101,50,0] fun G=>Yh ?_))))))
 obtain ⟨F,G⟩:=G.give 50 8 rfl rfl
 refine Zw hfr G rfl rfl rfl (.sl hg)
theorem ZtR (E:List Zu) (O I:List (List Z4)) (m:Nat) (mask must node mn mm:Int) (hmn:bits .andNot .i64 mask must=mn) (hmm:bits .and .i64 mask must=mm) (hne:mn≠mm) (h:Zcz O.length E O I) (hn1:1≤O.length) (hn:O.length≤4096) (hE:E.length≤1000000) (hs1:0≤node) (hs2:node<O.length) (D D2:List Int) (hD:Zc5 O.length (fun x=>adjO I mask x) node node D) (hD2:Zc5 (2*O.length) (Zdi (fun x=>adjO I mn x) (fun x=>adjO I mm x)) (2*node) (2*node) D2):FnP prog 128 [Zhq O I m,.int .i64 mask,.int .i64 must,.int .i64 node] (.agg [Zhq O I m,.int .i64 mask,.int .i64 must,.sl Zo D,.sl Zo (ZaA O.length D2)]):=by
 refine FnP.mk func128 rfl ntmps128 rfl fun B a w F Z hfr G=>Ya ?_
 refine Zb G (qf (oH [.pointer none,.int .i64 0,.int .i64 0,.slice none 0 0,.slice none 0 0] 101) trivial qz qZ) Z [8,3,2,1,0] [101,0] (fun _=>rfl) (fun _=>rfl) fun τ a w F G=>?_
 try dsimp only [RS.sub,SF.sub,CF.sub,csub,Anc.sub,List.map,zCF,Zaj,Zal,Zo,ZaB] at G
 generalize τ 8=v8 at G
 refine Za (Ya (rZ G (qR rr (qR rr (qR rr (qR rr (qR rr (qR rr (qR rr (qf (oP (ZtV E O I m mask node node h hn1 hn hE (Yaj _) hs1 hs2 D hD) func169 (Args.four .t .t .t .t)) r4 qz (qR rr (qR rr (qR rr (qR rr (qR rr (qf (oP (ZsA E O I m mask must node node mn mm hmn hmm hne h hn1 hn hE (Yaj _) hs1 hs2 D2 hD2) func170 (Args.five .t .t .t .t .t)) r5 qz (qf (oB [(0,.tmp 9),(1,.tmp 10),(2,.tmp 11),(3,.tmp 16),(4,.tmp 22)] [.pointer none,.int .i64 0,.int .i64 0,.slice none 0 0,.slice none 0 0] [(0,1),(1,1),(2,1),(3,1),(4,1)] (.one rfl .t ZiZ kr (.one rfl .t one_int kr (.one rfl .t one_int kr (.one rfl .t Zoc kr (.one rfl .t Zoc kr .nil)))))) r5 qz (qs 5 101 r2 r1 qZ)))))))))))))))) Z [8] [101,0] fun G=>Yh ?_))
 refine Zad hfr G rfl (.cl 101 true 5 rfl rfl .nil) (.one (.aggU rfl rfl))
end Go.Proofs.YtlkpllemoepamaaGreat
