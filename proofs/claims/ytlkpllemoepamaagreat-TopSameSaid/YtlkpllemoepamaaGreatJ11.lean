/- Texts put together. No condition beyond those that each theorem says. -/
import Derived.Test.YtlkpllemoepamaaGreatJ5
import Derived.Test.YtlkpllemoepamaaGreatJ8
import Derived.Test.YtlkpllemoepamaaGreatJ10
import Derived.Test.YtlkpllemoepamaaGreatJ9
import Derived.Test.YtlkpllemoepamaaGreatLibL
import Derived.Test.YtlkpllemoepamaaGreatJ0
import Derived.Test.YtlkpllemoepamaaGreatLibE
namespace Go.Proofs.YtlkpllemoepamaaGreat
open Go Go.Gm Tryz
set_option linter.unusedVariables false
set_option linter.unusedSimpArgs false
set_option maxHeartbeats 4000000
set_option maxRecDepth 8000
theorem Ziy (id k:Int) (l:List OpD):(ZbP id l).count ⟨id,k⟩ = wcnt l k:=by
 unfold ZbP wcnt
 induction l with
 | nil=>rfl
 | cons o l ih=>
  cases hr:o.read with
  | true=>simp [List.filter_cons,hr] at ih ⊢;exact ih
  | false=>
   rw [Yar (by simp [hr]),YU,List.count_cons,ih]
   by_cases hk:o.key=k
   ·rw [Yar (by simp [hr,hk])];simp [hk]
   ·rw [Yaw (by simp [hr,hk])]
    have:¬ ((⟨id,o.key⟩:ZdB) == ⟨id,k⟩)=true:=by simp [hk]
    simp [hk]
theorem Zjh {id id2 k:Int} (h:id2≠id) (l:List OpD):(ZbP id2 l).count ⟨id,k⟩ = 0:=by
 rw [List.count_eq_zero]
 intro hm
 unfold ZbP at hm
 obtain ⟨o,_,e⟩:=Yu.1 hm
 exact h (Y7 ZdB.fst e)
theorem Zfa {id k:Int} {l:List TxD} (h:∀ t ∈ l,t.id≠id):(lastK l).count ⟨id,k⟩ = 0:=by
 induction l with
 | nil=>rfl
 | cons t l ih=>
  have h1:=ih fun x hx=>h x (YB _ hx)
  unfold lastK at h1 ⊢
  rw [Y1,YbN,h1]
  split
  ·rw [Zjh (h t (by simp))]
  ·rfl
theorem ZpZ {g:Zt} (hr:ZQ g) {u:TxD} (hu:u ∈ g.txs) (hd:u.done=true) (k:Int):(lastK g.txs).count ⟨u.id,k⟩ = wcnt u.ops k:=by
 have hp:List.Pairwise (fun a b:TxD=>a.id<b.id) g.txs:=Ybf.1 (Zpc hr.2.1)
 obtain ⟨s,r,e⟩:=List.append_of_mem hu
 rw [e] at hp ⊢
 obtain ⟨_,h2,h3⟩:=Ybv.1 hp
 have hs:=Zfa (id:=u.id) (k:=k) (l:=s) fun t ht=>by have:=h3 t ht u (by simp);omega
 have ht:=Zfa (id:=u.id) (k:=k) (l:=r) fun t ht=>by have:=(Yp.1 h2).1 t ht;omega
 unfold lastK at hs ht ⊢
 rw [YR,Y1,YbN,YbN,hs,ht,Yf hd,Ziy]
 omega
theorem Zqy {t:TxD} (h:ZbV t=0):1≤t.id:=by
 unfold ZbV at h
 split at h
 ·cases h
 ·rename_i h1;exact (YaO.1 h1).1
def ZhB:List Int→Int→Int→Prop
 | x :: y :: l,a,b=>(x=a∧y=b)∨ZhB (y :: l) a b
 | _,_,_=>False
def ZlQ (l:List Int) (x y:Int):Prop:=(x=0∧l.head? = some y)∨ZhB l x y
theorem ZdV:∀ {l:List Int} {a b:Int},ZhB l a b ↔ ∃ i,i+1<l.length∧Nn l i=a∧Nn l (i+1)=b
 | [],a,b=>by simp [ZhB]
 | [x],a,b=>by simp [ZhB]
 | x :: y :: l,a,b=>by
  have ih:=ZdV (l:=y :: l) (a:=a) (b:=b)
  unfold ZhB
  rw [ih]
  constructor
  ·rintro (⟨rfl,rfl⟩ | ⟨i,h1,h2,h3⟩)
   ·exact ⟨0,by simp,by rw [nth_eq (by simp)];rfl,by rw [nth_eq (by simp)];rfl⟩
   ·have h1':i+1<(y :: l).length:=h1
    refine ⟨i+1,by simp at h1 ⊢;omega,?_,?_⟩
    ·rw [← h2,nth_eq (l:=x :: y :: l) (by simp at h1 ⊢;omega),nth_eq (l:=y :: l) ow];rfl
    ·rw [← h3,nth_eq (l:=x :: y :: l) (by simp at h1 ⊢;omega),nth_eq (l:=y :: l) h1'];rfl
  ·rintro ⟨i,h1,h2,h3⟩
   cases i with
   | zero=>
    rw [nth_eq (by simp)] at h2 h3
    exact .inl ⟨h2,h3⟩
   | succ i=>
    refine .inr ⟨i,by simp at h1 ⊢;omega,?_,?_⟩
    ·rw [← h2,nth_eq (l:=x :: y :: l) (by simp at h1 ⊢;omega),nth_eq (l:=y :: l) (by simp at h1 ⊢;omega)];rfl
    ·rw [← h3,nth_eq (l:=x :: y :: l) (by simp at h1 ⊢;omega),nth_eq (l:=y :: l) (by simp at h1 ⊢;omega)];rfl
theorem ZhB.mem:∀ {l:List Int} {a b:Int},ZhB l a b→a ∈ l∧b ∈ l
 | x :: y :: l,a,b,h=>by
  rcases h with ⟨rfl,rfl⟩ | h
  ·simp
  ·have:=h.mem
   exact ⟨YB _ this.1,YB _ this.2⟩
theorem ZhO {l:List Int} {x y:Int} : ZlQ l x y ↔ ∃ j,j<l.length∧(if j=0 then x=0 else Nn l (j - 1)=x)∧Nn l j=y:=by
 unfold ZlQ
 rw [ZdV]
 constructor
 ·rintro (⟨h1,h2⟩ | ⟨i,h1,h2,h3⟩)
  ·cases l with
   | nil=>cases h2
   | cons z l=>exact ⟨0,by simp,by rw [Yf rfl];exact h1,by rw [nth_eq (by simp)];exact Ya6 h2⟩
  ·exact ⟨i+1,h1,by rw [Yc ow];exact h2,h3⟩
 ·rintro ⟨j,h1,h2,h3⟩
  cases j with
  | zero=>
   cases l with
   | nil=>cases h1
   | cons z l=>exact .inl ⟨by rw [Yf rfl] at h2;exact h2,by rw [nth_eq (by simp)] at h3;exact Y7 some h3⟩
  | succ i=>exact .inr ⟨i,h1,by rw [Yc ow] at h2;exact h2,h3⟩
theorem ZlQ.mem {l:List Int} {x y:Int} (h:ZlQ l x y):y ∈ l:=by
 rcases h with ⟨_,h⟩ | h
 ·exact List.mem_of_head? h
 ·exact h.mem.2
theorem Zrk {l:List Int} (hn:l.Nodup) (h1:∀ z ∈ l,1≤z) {x y y':Int} (h:ZlQ l x y) (k:ZlQ l x y'):y=y':=by
 obtain ⟨i,hi,e1,e2⟩:=ZhO.1 h
 obtain ⟨j,hj,f1,f2⟩:=ZhO.1 k
 have hinj:∀ {a b:Nat},a<l.length→b<l.length→Nn l a=Nn l b→a=b:=fun {a b} ha hb e=>by
  rw [nth_eq ha,nth_eq hb] at e
  rcases Nat.lt_trichotomy a b with h9 | h9 | h9
  ·exact absurd e (Yaz.1 hn a b ha hb h9)
  ·exact h9
  ·exact absurd e.symm (Yaz.1 hn b a hb ha h9)
 have:i=j:=by
  by_cases h0:i=0 <;> by_cases h2:j=0
  ·omega
  ·rw [Yf h0] at e1
   rw [Yc h2] at f1
   have:=h1 _ (nth_mem (q:=l) (k:=j - 1) ow)
   omega
  ·rw [Yc h0] at e1
   rw [Yf h2] at f1
   have:=h1 _ (nth_mem (q:=l) (k:=i - 1) ow)
   omega
  ·rw [Yc h0] at e1
   rw [Yc h2] at f1
   have:=hinj ow ow (e1.trans f1.symm)
   omega
 rw [← e2,← f2,this]
def OkV (g:Zt) (o:OpD):Prop:=o.tx=0 ∨ ∃ u,Zaj g.txs o.tx=some u∧u.done=true∧(wcnt u.ops o.key:Int)=o.nth
def RdS (g:Zt) (t:TxD) (o:OpD) (e:Zg):Prop:=o.tx≠t.id∧OkV g o∧((o.tx≠0∧e = ⟨o.tx,t.id,2,o.key⟩) ∨ ∃ y,ZlQ (getO g.orders o.key) o.tx y∧y≠t.id∧e = ⟨t.id,y,3,o.key⟩)
def EdS (g:Zt) (e:Zg):Prop:=(e.kind=1∧ZhB (getO g.orders e.key) e.src e.dst) ∨ ∃ t ∈ g.txs,t.done=true ∧ ∃ o ∈ t.ops,o.read=true∧RdS g t o e
theorem ZfZ {g:Zt} (hg:ZQ g) (k:Int):(getO g.orders k).Nodup ∧ ∀ z ∈ getO g.orders k,1≤z:=by
 obtain ⟨_,h2,h3,_,_,h6⟩:=Zd2.1 hg
 refine ⟨(h6 k).nodup_iff.2 (ZhQ h2 k),fun z hz=>?_⟩
 obtain ⟨t,h4,h5,_⟩:=Ze9.1 ((h6 k).mem_iff.1 hz)
 rw [← h5];exact Zqy (h3 t h4).1
theorem Znk {κ:Type} [DecidableEq κ] {k:κ} {v:Int} {A:List (κ×Int)} (hA:∀ z ∈ A,z.1=k→z.2=v) (hk:∃ z ∈ A,z.1=k):ZmR A k=v:=by
 have key:∀ (A:List (κ×Int)) (x:Int),(∀ z ∈ A,z.1=k→z.2=v)→((∃ z ∈ A,z.1=k)∨x=v)→A.foldl (fun x z=>if k=z.1 then z.2 else x) x=v:=by
  intro A
  induction A with
  | nil=>rintro x _ (⟨z,hz,_⟩ | h);cases hz;exact h
  | cons z A ih=>
   intro x hA h
   rw [YaE]
   refine ih _ (fun z hz=>hA z (YB _ hz)) ?_
   by_cases e:k=z.1
   ·rw [Yf e];exact .inr (hA z YaH e.symm)
   ·rw [Yc e]
    rcases h with ⟨y,hy,h⟩ | h
    ·rcases Yi.1 hy with rfl | hy
     ·exact absurd h.symm e
     ·exact .inl ⟨y,hy,h⟩
    ·exact .inr h
 exact key A 0 hA (.inl hk)
theorem Zjg {κ:Type} [DecidableEq κ] {k:κ} {A:List (κ×Int)} (hA:∀ z ∈ A,z.1≠k):ZmR A k=0:=by
 have key:∀ (A:List (κ×Int)) (x:Int),(∀ z ∈ A,z.1≠k)→A.foldl (fun x z=>if k=z.1 then z.2 else x) x=x:=by
  intro A
  induction A with
  | nil=>intro x _;rfl
  | cons z A ih=>
   intro x hA
   rw [YaE,Yc fun e=>hA z YaH e.symm]
   exact ih x fun y hy=>hA y (YB _ hy)
 exact key A 0 hA
theorem Zvp {g:Zt} (hg:ZQ g) {k x:Int} : (∀ y,ZlQ (getO g.orders k) x y→nxI g k x=y)∧((¬ ∃ y,ZlQ (getO g.orders k) x y)→nxI g k x=0):=by
 have hr:=(Z7 hg).2
 have hm:∀ z ∈ nxA g.orders,z.1=(⟨k,x⟩:ZdB)→ZlQ (getO g.orders k) x z.2:=fun z hz e=>by
  unfold nxA at hz
  obtain ⟨o,ho,hz⟩:=YaK.1 hz
  unfold nxO at hz
  obtain ⟨j,hj,rfl⟩:=Yu.1 hz
  injection e with e1 e2
  rw [← e1,ZbS (ZY.1 hr) ho]
  refine ZhO.2 ⟨j,Ya4.1 hj,?_,rfl⟩
  unfold atI at e2
  by_cases h0:j=0
  ·rw [Yf h0] at e2 ⊢;exact e2.symm
  ·rw [Yc h0] at e2 ⊢;exact e2
 have hin:∀ y,ZlQ (getO g.orders k) x y → ∃ z ∈ nxA g.orders,z.1=(⟨k,x⟩:ZdB):=fun y h=>by
  have hne:getO g.orders k≠[]:=fun e=>by have:=h.mem;rw [e] at this;cases this
  have ho:=Zej hne
  obtain ⟨j,h1,h2,h3⟩:=ZhO.1 h
  refine ⟨(⟨k,x⟩,y),?_,rfl⟩
  unfold nxA
  refine YaK.2 ⟨_,ho,?_⟩
  unfold nxO
  refine Yu.2 ⟨j,Ya4.2 h1,?_⟩
  dsimp only
  rw [h3]
  unfold atI
  by_cases h0:j=0
  ·rw [Yf h0] at h2 ⊢;rw [h2]
  ·rw [Yc h0] at h2 ⊢;rw [h2]
 obtain ⟨o1,o2⟩:=ZfZ hg k
 refine ⟨fun y h=>Znk (fun z hz e=>Zrk o1 o2 (hm z hz e) h) (hin y h),fun h=>Zjg fun z hz e=>h ⟨_,hm z hz e⟩⟩
theorem Zs8 {g:Zt} (hg:ZQ g) {id k n:Int} : (ZiF g id=0∨¬ ZlN g id k=n) ↔ ¬ ∃ u,Zaj g.txs id=some u∧u.done=true∧(wcnt u.ops k:Int)=n:=by
 have hr:=(Z7 hg).1
 by_cases h:∃ u,Zaj g.txs id=some u∧u.done=true
 ·obtain ⟨u,h1,h2⟩:=h
  obtain ⟨m1,m2⟩:=findT_mem h1
  have hd:ZiF g id=1:=by
   unfold ZiF Zdk
   refine Znk (fun z hz _=>?_) ⟨(u.id,1),Yu.2 ⟨u,Y4.2 ⟨m1,h2⟩,rfl⟩,m2⟩
   obtain ⟨t,_,rfl⟩:=Yu.1 hz
   rfl
  have hl:ZlN g id k=(wcnt u.ops k:Int):=by
   unfold ZlN
   rw [← m2,ZpZ hg m1 h2]
  rw [hd,hl,h1]
  simp [h2]
 ·have hd:ZiF g id=0:=by
   unfold ZiF Zdk
   refine Zjg fun z hz e=>?_
   obtain ⟨t,ht,rfl⟩:=Yu.1 hz
   obtain ⟨m1,m2⟩:=Y4.1 ht
   exact h ⟨t,by rw [← e];exact ZqP hr m1,m2⟩
  rw [hd]
  simp only [true_or,true_iff]
  rintro ⟨u,h1,h2,_⟩
  exact h ⟨u,h1,h2⟩
theorem ZsD {g:Zt} (hg:ZQ g) {t:TxD} {o:OpD} {e:Zg} : e ∈ rdO g t o ↔ RdS g t o e:=by
 unfold rdO RdS OkV
 have hno:Zr7 g t o=true ↔ ¬ (o.tx≠t.id∧(o.tx=0 ∨ ∃ u,Zaj g.txs o.tx=some u∧u.done=true∧(wcnt u.ops o.key:Int)=o.nth)):=by
  unfold Zr7
  have:=Zs8 hg (id:=o.tx) (k:=o.key) (n:=o.nth)
  simp only [YaY,Yx,Yq,Yaq,Yz]
  rw [this]
  by_cases h1:o.tx=t.id <;> by_cases h2:o.tx=0 <;> simp [h1,h2]
  all_goals (try omega)
 obtain ⟨n1,n2⟩:=Zvp hg (k:=o.key) (x:=o.tx)
 by_cases hb:Zr7 g t o=true
 ·rw [Yf hb]
  have:=hno.1 hb
  constructor
  ·intro h;cases h
  ·rintro ⟨h1,h2,_⟩;exact absurd ⟨h1,h2⟩ this
 ·rw [Yc hb]
  have hok:o.tx≠t.id∧(o.tx=0 ∨ ∃ u,Zaj g.txs o.tx=some u∧u.done=true∧(wcnt u.ops o.key:Int)=o.nth):=Classical.not_not.1 fun h=>hb (hno.2 h)
  rw [YE]
  have V:e ∈ rdB g t o ↔ ∃ y,ZlQ (getO g.orders o.key) o.tx y∧y≠t.id∧e = ⟨t.id,y,3,o.key⟩:=by
   unfold rdB
   by_cases hx:∃ y,ZlQ (getO g.orders o.key) o.tx y
   ·obtain ⟨y,hy⟩:=hx
    have e1:=n1 y hy
    have hy1:=(ZfZ hg o.key).2 y hy.mem
    rw [e1]
    by_cases h2:y=t.id
    ·rw [Yc (by simp [h2])]
     constructor
     ·intro h;cases h
     ·rintro ⟨y',h3,h4,_⟩
      have:=n1 y' h3
      rw [e1] at this
      exact absurd (this.symm.trans h2) h4
    ·rw [Yf ⟨by omega,h2⟩,Yk]
     constructor
     ·intro h;exact ⟨y,hy,h2,h⟩
     ·rintro ⟨y',h3,_,h4⟩
      have:=n1 y' h3
      rw [e1] at this
      rw [this];exact h4
   ·rw [n2 hx,Yc (by simp)]
    constructor
    ·intro h;cases h
    ·rintro ⟨y,h,_⟩;exact absurd ⟨y,h⟩ hx
  rw [V]
  have hA:e ∈ rdA t o ↔ o.tx≠0∧e = ⟨o.tx,t.id,2,o.key⟩:=by
   unfold rdA
   split
   ·rename_i h;simp [h]
   ·rename_i h;simp [h]
  rw [hA]
  exact ⟨fun h=>⟨hok.1,hok.2,h⟩,fun h=>h.2.2⟩
abbrev PT1:Int→Bool:=fun _=>true
theorem Zuv {g:Zt} (hg:ZQ g) {e:Zg} : e ∈ Zgf (wwC PT1 g) (rdC PT1 g) ↔ EdS g e:=by
 unfold Zgf wwC rdC EdS
 rw [Yf hg,Yf hg,YE]
 have hr:=(Z7 hg).2
 refine or_congr ?_ ?_
 ·rw [Yu]
  unfold wwA
  constructor
  ·rintro ⟨z,hz,rfl⟩
   obtain ⟨o,ho,hz⟩:=YaK.1 hz
   rw [Yf rfl] at hz
   unfold wwO at hz
   obtain ⟨i,hi,rfl⟩:=Yu.1 hz
   have:=Ya4.1 hi
   refine ⟨rfl,?_⟩
   dsimp only
   rw [ZbS (ZY.1 hr) ho,ZdV]
   exact ⟨i,by omega,rfl,rfl⟩
  ·rintro ⟨h1,h2⟩
   have hne:getO g.orders e.key≠[]:=fun e9=>by rw [e9] at h2;cases h2
   have ho:=Zej hne
   obtain ⟨i,h3,h4,h5⟩:=ZdV.1 h2
   refine ⟨(e,1),YaK.2 ⟨_,ho,?_⟩,rfl⟩
   rw [Yf rfl]
   unfold wwO
   refine Yu.2 ⟨i,Ya4.2 (by dsimp only;omega),?_⟩
   dsimp only
   rw [h4,h5]
   cases e;simp only at h1;subst h1;rfl
 ·unfold rdH
  rw [YaK]
  refine exists_congr fun t=>Ybk fun ht=>?_
  unfold rdT
  rw [YaK]
  constructor
  ·rintro ⟨o,ho,h⟩
   split at h
   ·rename_i hc
    simp only [Yx,and_true] at hc
    exact ⟨hc.1,o,ho,hc.2,(ZsD hg).1 h⟩
   ·cases h
  ·rintro ⟨h1,o,ho,h2,h3⟩
   exact ⟨o,ho,by rw [Yf (by simp [h1,h2])];exact (ZsD hg).2 h3⟩
structure ZvO (g x:Zt) (id:Int):Prop where
 rg:ZQ g
 rx:ZQ x
 tab:∀ i,Zaj x.txs i=if i=id then none else Zaj g.txs i
 ord:∀ k,getO x.orders k=Zp6 (getO g.orders k) id
 free:∀ t ∈ g.txs,t.id≠id → ∀ o ∈ t.ops,o.read=true→o.tx≠id
section
variable {g x:Zt} {id:Int}
end
def ZgN (n:Nat) (x:List Int) (v:Value):HP:=.ex fun ws:List Int=>.and (Zec n ws x) (Zhw v n ws)
def ZvH (n:Nat) (x:List Int):PV:=⟨fun u w y=>∃ ws,Zec n ws x∧(PV.ref [.int .i64 n,.sl Zun ws]).p u w y,fun h ⟨ws,h1,h2⟩=>⟨ws,h1,PV.mono _ h h2⟩⟩
theorem Zc3 {v:Value} {n:Nat} {x:List Int} {w:World} {f y:Ys} (h:(ZgN n x v).p w f y):∃ b,v = .pointer (some ⟨b,0,none⟩):=by
 obtain ⟨ws,_,h⟩:=h
 exact (ZoD h).2
theorem Zqg {v:Value} {n:Nat} {x:List Int} : Zuq (ZgN n x v) v (ZvH n x):=by
 intro w f y y' h hle hf hb
 obtain ⟨ws,h1,h2⟩:=h
 refine ⟨ws,h1,?_⟩
 obtain ⟨wv,hI,f1,f2,e1,e2,e3,⟨b,vs,k1,k2,k3,k4⟩,f3,f4,e4,e5,e6,⟨xs,k5,k6,k7⟩,k8⟩:=h2
 refine ⟨b,0,vs.toList,k1,hf b ((e1 b).2 (.inl ((k3 b).2 rfl))),hb b ((e1 b).2 (.inl ((k3 b).2 rfl))),ZB.mk fun j u hj=>?_,?_⟩
 ·simp only [Y2]
  simp [World.cell?,k2]
  simpa using hj
 ·generalize vs.toList=us at k4
  match us,k4 with
  | [u1,u2],k4=>
   refine ⟨k4.1,⟨k4.2.1.1,?_⟩,tv⟩
   have e:u2=wv:=k4.2.1.2.1
   subst e
   obtain ⟨ad,cap,e8,h8,h9,h10⟩:=ZL k5
   refine ⟨ad,cap,e8,h8,h9,?_⟩
   rcases h10 with h10 | ⟨b',rfl,h11,h12⟩
   ·exact .inl (YN h10)
   ·have hb':f b':=(e1 b').2 (.inr ((e4 b').2 (.inl ((k7 b').2 h11))))
    exact .inr ⟨b',0,xs,rfl,hf b' hb',hb b' hb',h12,PVs.mono (Ev.less w hle) k6⟩
theorem ZrM (n:Nat) (x:List Int) (i:Int):FnP prog 202 [ZvH n x,.int .i64 i] (.bool (decide (i ∈ x))):=fun w y vs hy hv=>by
 match vs,hv with
 | u :: us,hv=>
  obtain ⟨ws,h1,h2⟩:=hv.1
  rw [← h1.in i]
  exact Zsx n ws h1.ok i w y (u :: us) hy ⟨h2,hv.2⟩
theorem Zlu (b n:Nat) (x:List Int) (i:Int) (on:Bool):FnG prog 222 1 [.is (.pointer (some ⟨b,0,none⟩)),.int .i64 i,.bool on] [ZgN n x (.pointer (some ⟨b,0,none⟩))] .any (fun _=>[ZgN n (putL x n i on) (.pointer (some ⟨b,0,none⟩))]):=fun w F vs hw hle hv hp=>by
 obtain ⟨ws,h1,h2⟩:=hp 0 _ rfl
 refine (ZvB b n ws i on w F vs hw hle hv (fun i k hi=>by
  match i,hi with
  | 0,hi=>simp at hi;subst hi;exact h2)).mono ?_
 rintro e w' ⟨u,F',rfl,a1,a2,a3,a4,a5⟩
 refine ⟨u,F',rfl,a1,a2,a3,tv,fun j k hj=>?_⟩
 match j,hj with
 | 0,hj=>
  simp at hj;subst hj
  exact ⟨_,h1.set i on,a5 0 _ rfl⟩
theorem ZqX (m:Int):FnG prog 162 1 [.int .i64 m] [HP.star []] PV.ptr (fun v=>[ZgN (rowN m) [] v]):=fun w F vs hw hle hv hp=>by
 refine (ZuY m w F vs hw hle hv hp).mono ?_
 rintro e w' ⟨u,F',rfl,a1,a2,a3,a4,a5⟩
 refine ⟨u,F',rfl,a1,a2,a3,a4,fun i k hi=>?_⟩
 match i,hi with
 | 0,hi=>simp at hi;subst hi;exact ⟨_,Zec.zero m,a5 0 _ rfl⟩
def Zfk (x:Int):List PV:=[.int .i32 x]
def ZiX (p:Int×List Int):List PV:=[.int .i64 p.1,.sl rInt p.2]
def ZuU (cl:PV) (n:Nat) (s:Zbm) (v wv lv sv iv ov:Value):List RS:=[.pt (.val v) 232 [.pv cl,.pv (.is wv),.pv (.is lv),.pv (.is sv),.pv (.is iv),.pv (.int .i32 s.ck),.pv (.is ov)],.ob (.val wv) (ZA 21 1 Zfk s.wh),.ob (.val lv) (ZA 21 1 Zfk s.lo),RS.hp (stH sv n s.wait),RS.hp (ZgN n s.inn iv),.ob (.val ov) (ZA 3 1 rInt s.out)]
def Zcj (cl:PV) (n:Nat) (s:Zbm) (v:Value):HP:=.ex fun wv:Value=>.ex fun lv:Value=>.ex fun sv:Value=>.ex fun iv:Value=>.ex fun ov:Value=>.star (ZuU cl n s v wv lv sv iv ov)
theorem ZqG {x:Int} (h : -2147483648≤x∧x≤2147483647):IntKind.wrap .i32 x=x:=ZfX ⟨by simp [IntKind.min,IntKind.signed,IntKind.bits];omega,by simp [IntKind.max,IntKind.signed,IntKind.bits];omega⟩
theorem ZsA (b : Nat) (n : Nat) (adj : Int → List Int) (f : FuncId) (fn : Func) (cps : List PV) (hf : prog.funcs[f]? = some fn) (hb : fn.body.isSome = true) (hnn : (fn.name == "runtime.NumGoroutine") = false) (hw : ∀ u, 0 ≤ u ∧ u < (n : Int) → FnP prog f ([.int .i64 u] ++ cps) (.sl rInt (adj u))) (sd : Zbm) (x : Int) (hx1 : 0 ≤ x) (hx2 : x < n) (hn : n ≤ 4096) (hlw : sd.wh.length = n) (hll : sd.lo.length = n) (hck : 0 ≤ sd.ck ∧ sd.ck ≤ n) (hwt : sd.wait.length < n) : FnG prog 200 1 [.is (.pointer (some ⟨b, 0, none⟩)), .int .i64 x] [Zcj (.clos f cps) n sd (.pointer (some ⟨b, 0, none⟩))] (.agg (ZiX (x, adj x))) (fun _ => [Zcj (.clos f cps) n (Zbs n sd x) (.pointer (some ⟨b, 0, none⟩))]) := by
 refine FnG.mk func200 rfl ntmps200 rfl kr fun B F0 a w F V hG G=>Ya ?_
 obtain ⟨wv,G⟩:=G.open_ex 1 rfl
 obtain ⟨lv,G⟩:=G.open_ex 1 rfl
 obtain ⟨sv,G⟩:=G.open_ex 1 rfl
 obtain ⟨iv,G⟩:=G.open_ex 1 rfl
 obtain ⟨ov,G⟩:=G.open_ex 1 rfl
 obtain ⟨F,G⟩:=G.peel 1 2 rfl rfl
 obtain ⟨F,G⟩:=G.peel 1 3 rfl rfl
 obtain ⟨F,G⟩:=G.peel 1 4 rfl rfl
 obtain ⟨F,G⟩:=G.peel 1 5 rfl rfl
 obtain ⟨F,G⟩:=G.peel 1 6 rfl rfl
 obtain ⟨F,G⟩:=G.peel 1 7 rfl rfl
 replace G:=G.turn 5 rfl (r':=.ob (.val sv) (fun v=>stH v n sd.wait)) (fun _ _ _ _ h=>h)
 obtain ⟨_,_,_,ho⟩:=G.obGet 5 rfl
 obtain ⟨sb,rfl⟩:=Zeg ho
 clear ho
 replace G:=G.turn 6 rfl (r':=.ob (.val iv) (ZgN n sd.inn)) (fun _ _ _ _ h=>h)
 obtain ⟨_,_,_,ho⟩:=G.obGet 6 rfl
 obtain ⟨ib,rfl⟩:=Zc3 ho
 clear ho
 replace G:=G.turn 5 rfl (r':=RS.hp (stH (.pointer (some ⟨sb,0,none⟩)) n sd.wait)) (fun _ _ _ _ h=>h)
 replace G:=G.turn 6 rfl (r':=RS.hp (ZgN n sd.inn (.pointer (some ⟨ib,0,none⟩)))) (fun _ _ _ _ h=>h)
 obtain ⟨F,G⟩:=G.nM [1,0] [7,6,5,4,3,2,0]
 refine Zb G (qf (oH [.int .i64 0,.slice none 0 0] 101) trivial qz qZ) V [4,1,0] [101,7,6,5,4,3,2,0] (fun _=>rfl) (fun _=>rfl) fun τ a w F G=>?_
 try dsimp only [RS.sub,SF.sub,CF.sub,csub,Anc.sub,List.map,zCF,rInt,Zfk,ZiX] at G
 generalize τ 4=v4 at G
 refine Za (Ya (Zf G (qR rr (qf (o_nilCheck 2 .is (by rfl)) r1 r1 (qf (oF 5 2 .adr) r1 r1 (qa 2 r1 r1 (qp r1 (qf (o_nilCheck 2 .is (by rfl)) r1 r1 (qf (oF 5 2 .adr) r1 r1 (qf (ZaZ 2 .adr .t one_int kr kr) r2 r1 qZ)))))))) V [4,1,0] [101,7,6,5,4,3,2,0] rfl rfl fun a w F G=>?_))
 rw [ZqG ow] at G
 refine Za (Ya (Zx G (qR rr (qf (o_nilCheck 2 .is (by rfl)) r1 r1 (qf (oF 1 2 .adr) r1 r1 (qa 2 r1 r1 (qR rr (qR rr (qf (o_nilCheck 2 .is (by rfl)) r1 r1 (qf (oF 2 2 .adr) r1 r1 (qa 2 r1 r1 (qR rr (qR rr (qf (o_nilCheck 2 .is (by rfl)) r1 r1 (qf (oF 5 2 .adr) r1 r1 (qa 2 r1 r1 (qR rr (qf (o_nilCheck 2 .is (by rfl)) r1 r1 (qf (oF 5 2 .adr) r1 r1 (qa 2 r1 r1 (qf (o_indexAddr_row (sz:=1) 3 (.mk underlying226 kr) .is .t ow ow (by rfl)) r2 r1 (qf (ZF (R:=Zfk) (sz:=1) (v:=(sd.ck+1)) 3 .t (by intro x;rfl) ow .t rfl one_int kr) r2 r1 (qf (o_indexAddr_row (sz:=1) 4 (.mk underlying226 kr) .is .t ow ow (by rfl)) r2 r1 (qf (ZF (R:=Zfk) (sz:=1) (v:=(sd.ck+1)) 4 .t (by intro x;rfl) ow .t rfl one_int kr) r2 r1 qZ)))))))))))))))))))))) V [4,1,0] [101,7,6,5,4,3,2,0] rfl rfl fun a w F G=>?_))
 try dsimp only [List.map,Ze,xL,xM,Nat.reduceAdd,xD,xE,xT,xU,xC,xN,zCF,ldSF,rInt,Zfk,ZiX] at G
 try simp only [Yb] at G
 refine Za (Ya (rZ G (qR rr (qf (o_nilCheck 2 .is (by rfl)) r1 r1 (qf (oF 3 2 .adr) r1 r1 (qa 2 r1 r1 (qR rr (qf (ZJ 5 (Zpj sb n sd.wait x ⟨by omega,by omega⟩ ow) func221 rfl kr (Args.two .t .t)) r2 r1 qZ)))))) V [4,1,0] [101,7,6,5,4,3,2,0] fun G=>Ya ?_))
 refine rZ G (qR rr (qf (o_nilCheck 2 .is (by rfl)) r1 r1 (qf (oF 4 2 .adr) r1 r1 (qa 2 r1 r1 (qR rr (qf (ZJ 6 (Zlu ib n sd.inn x true) func222 rfl kr (Args.three .t .t .cb)) r2 r1 qZ)))))) V [4,1,0] [101,7,6,5,4,3,2,0] fun G=>Ya ?_
 refine rZ G (qR rr (qR rr (qf (o_nilCheck 2 .is (by rfl)) r1 r1 (qf (oF 0 2 .adr) r1 r1 (qa 2 r1 r1 (qR rr (qf (ZN .t (hw x ⟨hx1,hx2⟩) hf hb hnn (Args.one .t)) r2 qz (qf (oB [(0,.tmp 44),(1,.tmp 50)] [.int .i64 0,.slice none 0 0] [(0,1),(1,1)] (.one rfl .t one_int kr (.one rfl .t one_sl kr .nil))) r2 qz (qs 2 101 r2 r1 qZ))))))))) V [4] [101,7,6,5,4,3,2,0] fun G=>Yh ?_
 have G:=G.fresh 1 rfl
 obtain ⟨F,G⟩:=G.push 1 7 rfl rfl rfl kr
 obtain ⟨F,G⟩:=G.push 1 6 rfl rfl rfl kr
 obtain ⟨F,G⟩:=G.push 1 5 rfl rfl rfl kr
 obtain ⟨F,G⟩:=G.push 1 4 rfl rfl rfl kr
 obtain ⟨F,G⟩:=G.push 1 3 rfl rfl rfl kr
 obtain ⟨F,G⟩:=G.push 1 2 rfl rfl rfl kr
 have G:=G.turn 1 rfl (r':=RS.hp (Zcj (.clos f cps) n (Zbs n sd x) (.pointer (some ⟨b,0,none⟩)))) (fun _ _ _ _ h=>⟨_,_,_,_,_,h⟩)
 refine Zac hG G rfl (.cl 101 true 2 rfl rfl .nil) (.one (.aggU rfl rfl)) rfl
theorem ZuS (l:List Int) (hl:l≠[]):FnP prog 224 [.sl rInt l] (.int .i64 (Zjz l)):=by
 refine FnP.mk func224 rfl ntmps224 rfl fun B a w F V hfr G=>?_
 have hxl:=Sat.lenSl G (i:=0) rfl
 have hl0:0<l.length:=Yax.2 hl
 refine Ya (rZ G (qI qZ) V [2,0] [0] fun G=>(Ya (Ya ?_)))
 refine rZ G (qR rr (qu underlying45 r1 (qf (Zay .t qi) r1 qz qZ))) V [7,2,0] [0] fun G=>?_
 refine Zc G rfl (fun hc0=>?_) (fun hc0=>?_)
 ·have:=Yt hc0;omega
 refine Ye (Za (Ya (Zf G (qR rr (qf (o_indexAddr_sl (sz:=1) (.mk underlying45 kr) (by intro x;rfl) .t qi ow ow) r1 qz (qf (oR false 1 .t) r1 qz (qO rr qZ)))) V [3,2,0] [0] rfl rfl fun a w F G=>?_)))
 try simp only [Yb] at G
 try rw [show (0:Int).toNat=0 from rfl] at G
 refine Za (Ya (Ya (rZ G (qI qZ) V [4,3,2,0] [0] fun G=>Yg ?_)))
 replace G:=G.ent (i:=3) (s':=.pv (.int .i64 (Zjz (l.take 1)))) rfl (.int (Zp7 hl))
 replace G:=G.ent (i:=4) (s':=.pv (.int .i64 ((1:Nat):Int))) rfl (.int rfl)
 refine Zl (σ:=Nat) [0,2] [0] (fun s=>[(3,.pv (.int .i64 (Zjz (l.take s)))),(4,.pv (.int .i64 (s:Int)))]) (fun s=>[]) (fun s=>1≤s∧s≤l.length) (fun s=>l.length - s) (1) G ⟨rfl,rfl,rfl,rfl,tv⟩ ⟨rfl,tv⟩ ⟨YO _,hl0⟩ ?_
 clear G;intro i a w F hC G
 try dsimp only at hC
 obtain ⟨F,G⟩:=G.nM [4,3,2,0] [0]
 try dsimp only at G
 obtain ⟨hi1,hi2⟩:=hC
 refine Ya (Ya (rZ G (qR rr (qR rr (qu underlying45 r1 (qL r2)))) V [15,4,3,2,0] [0] fun G=>?_))
 refine Zc G rfl (fun hc1=>?_) (fun hc1=>?_)
 ·have hil:i<l.length:=by have:=Yt hc1;omega
  refine Ye (Za (Ya (Yg (Zf G (qR rr (qR rr (qR rr (qy 1 underlying45 r2 (qf (oR false 1 .t) r1 qz (qf (o_min .t .t) r2 qz (qO rr qZ))))))) V [4,3,2,0] [0] rfl rfl fun a w F G=>?_))))
  try simp only [Yb] at G
  refine Zj (Za (rZ G (qR rr (qp r1 (qO rr qZ))) V [4,3,2,0] [0] fun G=>?_))
  replace G:=G.ent (i:=3) (s':=.pv (.int .i64 (Zjz (l.take (i+1))))) rfl (.int (Zm9 hi1 hil))
  replace G:=G.ent (i:=4) (s':=.pv (.int .i64 ((i+1:Nat):Int))) rfl (.int (Zd ow))
  obtain ⟨F,G⟩:=G.nM [2,0,4,3] [0]
  exact ⟨(i+1),F,⟨by omega,by omega⟩,G,by omega⟩
 have hil:i=l.length:=by have:=YG hc1;omega
 refine Yw (Zi (Zi (Zn (Za (Ya (rZ G (qR rr (qO rr qZ)) V [2] [0] fun G=>Yh ?_))))))
 refine Zo hfr G rfl rfl rfl (.int (by rw [hil,YD]))
theorem Ztc (b:Nat) (cps:List PV) (f:FuncId) (n:Nat) (sd:Zbm) (x:Int) (hx:x ∈ sd.wait) (hrng:∀ u ∈ sd.wait,0≤u∧u<(n:Int)) (hn:n≤4096) (hlw:sd.wh.length=n) (hll:sd.lo.length=n) (hlo:sd.out.length=n) (hwl:sd.wait.length≤n):FnG prog 201 1 [.is (.pointer (some ⟨b,0,none⟩)),.int .i64 x] [Zcj (.clos f cps) n sd (.pointer (some ⟨b,0,none⟩))] (.tup []) (fun _=>[Zcj (.clos f cps) n (leaveD n sd x) (.pointer (some ⟨b,0,none⟩))]):=by
 refine FnG.mk func201 rfl ntmps201 rfl kr fun B F0 a w F V hG G=>?_
 obtain ⟨hx1,hx2⟩:=hrng x hx
 refine Ya (Ya ?_)
 obtain ⟨wv,G⟩:=G.open_ex 1 rfl
 obtain ⟨lv,G⟩:=G.open_ex 1 rfl
 obtain ⟨sv,G⟩:=G.open_ex 1 rfl
 obtain ⟨iv,G⟩:=G.open_ex 1 rfl
 obtain ⟨ov,G⟩:=G.open_ex 1 rfl
 obtain ⟨F,G⟩:=G.peel 1 2 rfl rfl
 obtain ⟨F,G⟩:=G.peel 1 3 rfl rfl
 obtain ⟨F,G⟩:=G.peel 1 4 rfl rfl
 obtain ⟨F,G⟩:=G.peel 1 5 rfl rfl
 obtain ⟨F,G⟩:=G.peel 1 6 rfl rfl
 obtain ⟨F,G⟩:=G.peel 1 7 rfl rfl
 replace G:=G.turn 5 rfl (r':=.ob (.val sv) (fun v=>stH v n sd.wait)) (fun _ _ _ _ h=>h)
 obtain ⟨_,_,_,ho⟩:=G.obGet 5 rfl
 obtain ⟨sb,rfl⟩:=Zeg ho
 clear ho
 replace G:=G.turn 6 rfl (r':=.ob (.val iv) (ZgN n sd.inn)) (fun _ _ _ _ h=>h)
 obtain ⟨_,_,_,ho⟩:=G.obGet 6 rfl
 obtain ⟨ib,rfl⟩:=Zc3 ho
 clear ho
 replace G:=G.turn 5 rfl (r':=RS.hp (stH (.pointer (some ⟨sb,0,none⟩)) n sd.wait)) (fun _ _ _ _ h=>h)
 replace G:=G.turn 6 rfl (r':=RS.hp (ZgN n sd.inn (.pointer (some ⟨ib,0,none⟩)))) (fun _ _ _ _ h=>h)
 obtain ⟨F,G⟩:=G.nM [1,0] [7,6,5,4,3,2,0]
 refine Zx G (qR rr (qf (o_nilCheck 2 .is (by rfl)) r1 r1 (qf (oF 2 2 .adr) r1 r1 (qa 2 r1 r1 (qR rr (qf (o_indexAddr_row (sz:=1) 4 (.mk underlying226 kr) .is .t ow ow (by rfl)) r2 r1 (qf (Zv (ag:=false) (sz':=1) (sz:=1) 4 .t (by intro x;rfl) ow kr kr kr) r1 r1 (qR rr (qf (o_nilCheck 2 .is (by rfl)) r1 r1 (qf (oF 1 2 .adr) r1 r1 (qa 2 r1 r1 (qR rr (qf (o_indexAddr_row (sz:=1) 3 (.mk underlying226 kr) .is .t ow ow (by rfl)) r2 r1 (qf (Zv (ag:=false) (sz':=1) (sz:=1) 3 .t (by intro x;rfl) ow kr kr kr) r1 r1 (qf (o_neq .t .t) r2 qz qZ))))))))))))))) V [24,1,0] [7,6,5,4,3,2,0] rfl rfl fun a w F G=>?_
 try dsimp only [List.map,xD,xE,xT,xU,ldSF,rInt,Zfk,ZiX] at G
 try simp only [Yb] at G
 refine Za (Zc G rfl (fun hc0=>?_) (fun hc0=>?_))
 ·have hg:leaveD n sd x=sd:=by unfold leaveD;rw [Yc];rw [ZaJ hx1,ZaJ hx1];simpa using hc0
  refine Yh (Zk ?_)
  have G:=G.fresh 1 rfl
  obtain ⟨F,G⟩:=G.push 1 7 rfl rfl rfl kr
  obtain ⟨F,G⟩:=G.push 1 6 rfl rfl rfl kr
  obtain ⟨F,G⟩:=G.push 1 5 rfl rfl rfl kr
  obtain ⟨F,G⟩:=G.push 1 4 rfl rfl rfl kr
  obtain ⟨F,G⟩:=G.push 1 3 rfl rfl rfl kr
  obtain ⟨F,G⟩:=G.push 1 2 rfl rfl rfl kr
  have G:=G.turn 1 rfl (r':=RS.hp (Zcj (.clos f cps) n sd (.pointer (some ⟨b,0,none⟩)))) (fun _ _ _ _ h=>⟨_,_,_,_,_,h⟩)
  rw [hg]
  refine Zac hG G rfl .nil .none rfl
 have hg:leaveD n sd x=ZoU n sd x (Zjz (partL sd.wait x)):=by unfold leaveD;rw [Yf];rw [ZaJ hx1,ZaJ hx1];simpa using hc0
 refine Ye (Za (Ya (rZ G (qC qZ) V [4,1,0] [7,6,5,4,3,2,0] fun G=>(Ya (Yg ?_)))))
 replace G:=G.fresh 50 rfl
 replace G:=G.turn 50 rfl (ZaA (T:=3) (sz:=1) (R:=rInt))
 replace G:=G.turn 5 rfl (r':=RS.hp (stH (.pointer (some ⟨sb,0,none⟩)) n (sd.wait.take (sd.wait.length - 0)))) (by rw [YbV,YD];exact fun _ _ _ _ h=>h)
 refine Zl (σ:=Nat×Value×List Int) [0,1] [0,2,3,4,7] (fun s=>[(4,.pv (.is s.2.1))]) (fun s=>[(5,RS.hp (stH (.pointer (some ⟨sb,0,none⟩)) n (sd.wait.take (sd.wait.length - s.1)))),(6,RS.hp (ZgN n (innL n s.2.2 sd.inn) (.pointer (some ⟨ib,0,none⟩)))),(50,.ob (.val s.2.1) (ZA 3 1 rInt s.2.2))]) (fun s=>s.1<sd.wait.length∧s.2.2=sd.wait.reverse.take s.1∧x ∉ s.2.2) (fun s=>sd.wait.length - s.1) ((0),(.slice none 0 0),([])) G ⟨rfl,rfl,rfl,tv⟩ ⟨rfl,rfl,rfl,rfl,rfl,rfl,rfl,rfl,tv⟩ ⟨List.length_pos_of_mem hx,rfl,by simp⟩ ?_
 clear G;intro s a w F hC G
 obtain ⟨k,v4,out⟩:=s
 try dsimp only at hC
 obtain ⟨F,G⟩:=G.nM [4,1,0] [50,7,6,5,4,3,2,0]
 try dsimp only at G
 obtain ⟨hk,hq,hxo⟩:=hC
 have hol:out.length≤k:=by rw [hq,Yj];omega
 rw [(ZkM hk).2] at G
 have hyr:=hrng _ (nth_mem (show sd.wait.length - (k+1)<sd.wait.length by omega))
 refine Yg (Ya (rZ G (qR rr (qf (o_nilCheck 2 .is (by rfl)) r1 r1 (qf (oF 3 2 .adr) r1 r1 (qa 2 r1 r1 (qf (ZJ 5 (ZsW sb n (sd.wait.take (sd.wait.length - (k+1))) (Nn sd.wait (sd.wait.length - (k+1))) (by rw [Yj];omega)) func223 rfl kr (Args.one .t)) r1 r1 (qR rr (qf (Zh .t rfl) r1 qz (qf (Zh .t rfl) r1 qz (qO rr (qO rr qZ)))))))))) V [6,5,4,1,0] [50,7,6,5,4,3,2,0] fun G=>(Ya (Ya ?_))))
 refine rZ G (qR rr (qf (o_not .t) r1 qz qZ)) V [34,5,4,1,0] [50,7,6,5,4,3,2,0] fun G=>?_
 refine Zc G rfl (fun hc1=>?_) (fun hc1=>?_)
 ·simp at hc1
 refine Ye (Za (Ya (Zf G (qR rr (qf (o_nilCheck 2 .is (by rfl)) r1 r1 (qf (oF 4 2 .adr) r1 r1 (qa 2 r1 r1 (qR rr (qf (ZJ 6 (Zlu ib n (innL n out sd.inn) (Nn sd.wait (sd.wait.length - (k+1))) false) func222 rfl kr (Args.three .t .t .cb)) r2 r1 qZ)))))) V [5,4,1,0] [50,7,6,5,4,3,2,0] rfl rfl fun a w F G=>?_)))
 rw [Zna] at G
 refine Za (Ya (Zb G (qR rr (qR rr (qf (o_buildSliceE (sz:=1) (zs:=[.int .i64 0]) (r:=[(0,.tmp 42)]) (l:=[_]) underlying45 kr kr kr kr rfl rfl (.one rfl .t one_int kr .nil) rfl) r1 qz (qf (ZW (sz:=1) (bs:=8) 50 (.mk' underlying45 kr kr) (by intro x;rfl) .is (.arr (l':=[(Nn sd.wait (sd.wait.length - (k+1)))]) .t) (by simp only [Yd,Yl,Yy];omega) (by decide)) ⟨rfl,rfl,tv⟩ ⟨rfl,tv⟩ (qO rr qZ))))) V [5,4,1,0] [50,7,6,5,4,3,2,0] (fun _=>rfl) (fun _=>rfl) fun τ a w F G=>?_))
 try dsimp only [RS.sub,SF.sub,CF.sub,csub,Anc.sub,List.map,Ze,xL,xM,Nat.reduceAdd,xD,xE,xT,xU,xC,xN,zCF,rInt,Zfk,ZiX] at G
 generalize τ 44=v44 at G
 refine Za (Ya (rZ G (qR rr (qR rr (qf (o_eql .t .t) r2 qz qZ))) V [47,4,1,0] [50,7,6,5,4,3,2,0] fun G=>?_))
 refine Zc G rfl (fun hc2=>?_) (fun hc2=>?_)
 ·have hyx:(Nn sd.wait (sd.wait.length - (k+1)))=x:=by simpa using hc2
  obtain ⟨hp1,hp2⟩:=Zty hk (by rw [← hq];exact hxo) hyx
  rw [hyx] at G
  subst hq
  rw [hp1,hp2] at G
  have hpl:(partL sd.wait x).length≤4096:=by rw [← hp1,Yd,Yj,List.length_reverse,YK];omega
  refine Yw (Zou (by decide) ?_)
  refine Zi (Zn (Za (Ya ?_)))
  obtain ⟨F,G⟩:=G.give 50 4 rfl rfl
  obtain ⟨F,G⟩:=G.nM [47,4,1,0] [7,6,5,4,3,2,0]
  refine rZ G (qR rr (qf (oP (ZuS (partL sd.wait x) (ZhK _ _)) func224 (Args.one .t)) r1 qz (qO rr qZ))) V [7,4,0] [7,6,5,4,3,2,0] fun G=>Ya ?_
  refine rZ G (qR rr (qu underlying45 r1 (qJ qZ))) V [52,51,50,7,0] [7,6,5,4,3,2,0] fun G=>Yg ?_
  refine Zl (σ:=(Nat)) [0,7,50,51] [0,2,3,4,5,6] (fun s=>[(52,.pv (.int .i64 (s:Int)))]) (fun s=>[(7,.ob (.val ov) (ZA 3 1 rInt (outL ((partL sd.wait x).take s) (Zjz (partL sd.wait x)) sd.out)))]) (fun s=>s≤(partL sd.wait x).length∧(True)) (fun s=>(partL sd.wait x).length - s) (0) G ⟨rfl,rfl,rfl,rfl,rfl,tv⟩ ⟨rfl,rfl,rfl,rfl,rfl,rfl,rfl,tv⟩ ⟨Yv _,tv⟩ ?_
  clear G;intro i a w F hC G
  try dsimp only at hC
  obtain ⟨F,G⟩:=G.nM [52,51,50,7,0] [7,6,5,4,3,2,0]
  try dsimp only at G
  obtain ⟨hi,hq⟩:=hC
  refine Ya (rZ G (qL r2) V [53,52,51,50,7,0] [7,6,5,4,3,2,0] fun G=>Ya ?_)
  refine Zc G rfl (fun hc3=>?_) (fun hc3=>?_)
  ·have hil:i<(partL sd.wait x).length:=by simp at hc3;omega
   have hyr2:=hrng _ (Zqv hx (nth_mem hil))
   have hol2:(outL ((partL sd.wait x).take i) (Zjz (partL sd.wait x)) sd.out).length=n:=by rw [ZhZ];exact hlo
   refine Ye (Za (Ya (Yg (Ya (Zf G (qy 1 underlying45 r2 (qf (oR false 1 .t) r1 qz (qO rr qZ))) V [52,51,50,9,7,0] [7,6,5,4,3,2,0] rfl rfl fun a w F G=>?_)))))
   try simp only [Yb] at G
   refine Za (Zf G (qR rr (qf (o_nilCheck 2 .is (by rfl)) r1 r1 (qf (oF 6 2 .adr) r1 r1 (qa 2 r1 r1 (qR rr (qR rr (qf (o_indexAddr_row (sz:=1) 7 (.mk underlying45 kr) .is .t ow ow (by rfl)) r2 r1 (qf (ZF (R:=rInt) (sz:=1) (v:=(Zjz (partL sd.wait x))) 7 .t (by intro x;rfl) ow .t rfl one_int kr) r2 r1 qZ)))))))) V [52,51,50,7,0] [7,6,5,4,3,2,0] rfl rfl fun a w F G=>?_)
   try simp only [Yb] at G
   refine Zj (Za (rZ G (qp r1 (qR rr qZ)) V [52,51,50,7,0] [7,6,5,4,3,2,0] fun G=>?_))
   rw [ZoQ hil] at G
   replace G:=G.ent (i:=52) (s':=.pv (.int .i64 ((i+1:Nat):Int))) rfl (.int (Zd ow))
   obtain ⟨F,G⟩:=G.nM [51,50,7,0,52] [6,5,4,3,2,0,7]
   exact ⟨(i+1),F,⟨by omega,tv⟩,G,by omega⟩
  have hil:i=(partL sd.wait x).length:=by simp at hc3;omega
  refine Yw (Zi (Zi (Zn ?_)))
  rw [hil,YD] at G
  have G:=G.fresh 1 rfl
  obtain ⟨F,G⟩:=G.push 1 7 rfl rfl rfl kr
  obtain ⟨F,G⟩:=G.push 1 6 rfl rfl rfl kr
  obtain ⟨F,G⟩:=G.push 1 5 rfl rfl rfl kr
  obtain ⟨F,G⟩:=G.push 1 4 rfl rfl rfl kr
  obtain ⟨F,G⟩:=G.push 1 3 rfl rfl rfl kr
  obtain ⟨F,G⟩:=G.push 1 2 rfl rfl rfl kr
  have G:=G.turn 1 rfl (r':=RS.hp (Zcj (.clos f cps) n (ZoU n sd x (Zjz (partL sd.wait x))) (.pointer (some ⟨b,0,none⟩)))) (fun _ _ _ _ h=>⟨_,_,_,_,_,h⟩)
  rw [hg]
  refine Zac hG G rfl .nil .none rfl
 have hyx:¬ (Nn sd.wait (sd.wait.length - (k+1)))=x:=by simpa using hc2
 refine Ye (Zj (Za ?_))
 have hno:x ∉ out ++ [(Nn sd.wait (sd.wait.length - (k+1)))]:=by rw [YE,Yk];exact fun h9=>h9.elim hxo fun h8=>hyx h8.symm
 have hq2:out ++ [(Nn sd.wait (sd.wait.length - (k+1)))] = sd.wait.reverse.take (k+1):=by rw [hq];exact (ZkM hk).1
 obtain ⟨F,G⟩:=G.nM [1,0,4] [7,4,3,2,0,50,6,5]
 exact ⟨((k+1),_,_),F,⟨Zoy hx (by rw [← hq2];exact hno),hq2,hno⟩,G,by omega⟩
end Go.Proofs.YtlkpllemoepamaaGreat
