/- Laws and walks. No condition beyond what each says. -/
import Derived.Test.YtlkpllemoepamaaGreatJ6
import Derived.Shelf.SlIter.Collect
import Derived.Maps.RangeRun
import Derived.Sort.MapsRangeIn
import Derived.RangeFuncBound
namespace Go.Proofs.YtlkpllemoepamaaGreat
open Go Go.Gm Tryz
set_option linter.unusedVariables false
set_option linter.unusedSimpArgs false
set_option maxHeartbeats 4000000
set_option maxRecDepth 8000
theorem Zij (id k:Int) (l:List OpD):(ZbJ id l).count ⟨id,k⟩ = wcnt l k:=by
 unfold ZbJ wcnt
 induction l with
 | nil=>rfl
 | cons o l ih=>
  cases hr:o.read with
  | true=>simp [YbI,hr] at ih ⊢;exact ih
  | false=>
   rw [Yab (by simp [hr]),YQ,List.count_cons,ih]
   by_cases hk:o.key=k
   ·rw [Yab (by simp [hr,hk])];simp [hk]
   ·rw [Yag (by simp [hr,hk])]
    have:¬ ((⟨id,o.key⟩:Zdq) == ⟨id,k⟩)=true:=by simp [hk]
    simp [hk]
theorem ZhL {id id2 k:Int} (h:id2≠id) (l:List OpD):(ZbJ id2 l).count ⟨id,k⟩ = 0:=by
 rw [List.count_eq_zero]
 intro hm
 unfold ZbJ at hm
 obtain ⟨o,_,e⟩:=Yv.1 hm
 exact h (Y1 Zdq.fst e)
theorem Zfp {id k:Int} {l:List TxD} (h:∀ t ∈ l,t.id≠id):(lastK l).count ⟨id,k⟩ = 0:=by
 induction l with
 | nil=>rfl
 | cons t l ih=>
  have h1:=ih fun x hx=>h x (YB _ hx)
  unfold lastK at h1 ⊢
  rw [YX,YbD,h1]
  split
  ·rw [ZhL (h t (by simp))]
  ·rfl
theorem ZpE {g:Zq} (hr:ZK g) {u:TxD} (hu:u ∈ g.txs) (hd:u.done=true) (k:Int):(lastK g.txs).count ⟨u.id,k⟩ = wcnt u.ops k:=by
 have hp:List.Pairwise (fun a b:TxD=>a.id<b.id) g.txs:=Ybl.1 (ZmC hr.2.1)
 obtain ⟨s,r,e⟩:=List.append_of_mem hu
 rw [e] at hp ⊢
 obtain ⟨_,h2,h3⟩:=Ybg.1 hp
 have hs:=Zfp (id:=u.id) (k:=k) (l:=s) fun t ht=>by have:=h3 t ht u (by simp);omega
 have ht:=Zfp (id:=u.id) (k:=k) (l:=r) fun t ht=>by have:=(Yq.1 h2).1 t ht;omega
 unfold lastK at hs ht ⊢
 rw [YS,YX,YbD,YbD,hs,ht,Ye hd,Zij]
 omega
theorem Zo4 {t:TxD} (h:Za7 t=0):1≤t.id:=by
 unfold Za7 at h
 split at h
 ·cases h
 ·rename_i h1;exact (Decidable.not_not.1 h1).1
def Zcu:List Int→Int→Int→Prop
 | x :: y :: l,a,b=>(x=a∧y=b)∨Zcu (y :: l) a b
 | _,_,_=>False
def Zhs (l:List Int) (x y:Int):Prop:=(x=0∧l.head? = some y)∨Zcu l x y
theorem ZcH:∀ {l:List Int} {a b:Int},Zcu l a b ↔ ∃ i,i+1<l.length∧Nn l i=a∧Nn l (i+1)=b
 | [],a,b=>by simp [Zcu]
 | [x],a,b=>by simp [Zcu]
 | x :: y :: l,a,b=>by
  have ih:=ZcH (l:=y :: l) (a:=a) (b:=b)
  unfold Zcu
  rw [ih]
  constructor
  ·rintro (⟨rfl,rfl⟩ | ⟨i,h1,h2,h3⟩)
   ·exact ⟨0,by simp,by rw [nth_eq (by simp)];rfl,by rw [nth_eq (by simp)];rfl⟩
   ·have h1':i+1<(y :: l).length:=h1
    refine ⟨i+1,by simp at h1 ⊢;omega,?_,?_⟩
    ·rw [← h2,nth_eq (l:=x :: y :: l) (by simp at h1 ⊢;omega),nth_eq (l:=y :: l) ow];rfl
    ·rw [← h3,nth_eq (l:=x :: y :: l) (by simp at h1 ⊢;omega),nth_eq (l:=y :: l) h1'];rfl
  ·rintro ⟨i,h1,h2,h3⟩
   cases i with
   | zero=>
    rw [nth_eq (by simp)] at h2 h3
    exact .inl ⟨h2,h3⟩
   | succ i=>
    refine .inr ⟨i,by simp at h1 ⊢;omega,?_,?_⟩
    ·rw [← h2,nth_eq (l:=x :: y :: l) (by simp at h1 ⊢;omega),nth_eq (l:=y :: l) (by simp at h1 ⊢;omega)];rfl
    ·rw [← h3,nth_eq (l:=x :: y :: l) (by simp at h1 ⊢;omega),nth_eq (l:=y :: l) (by simp at h1 ⊢;omega)];rfl
theorem Zcu.mem:∀ {l:List Int} {a b:Int},Zcu l a b→a ∈ l∧b ∈ l
 | x :: y :: l,a,b,h=>by
  rcases h with ⟨rfl,rfl⟩ | h
  ·simp
  ·have:=h.mem
   exact ⟨YB _ this.1,YB _ this.2⟩
theorem ZfJ {l:List Int} {x y:Int} : Zhs l x y ↔ ∃ j,j<l.length∧(if j=0 then x=0 else Nn l (j - 1)=x)∧Nn l j=y:=by
 unfold Zhs
 rw [ZcH]
 constructor
 ·rintro (⟨h1,h2⟩ | ⟨i,h1,h2,h3⟩)
  ·cases l with
   | nil=>cases h2
   | cons z l=>exact ⟨0,by simp,by rw [Ye rfl];exact h1,by rw [nth_eq (by simp)];exact YaA h2⟩
  ·exact ⟨i+1,h1,by rw [Yb ow];exact h2,h3⟩
 ·rintro ⟨j,h1,h2,h3⟩
  cases j with
  | zero=>
   cases l with
   | nil=>cases h1
   | cons z l=>exact .inl ⟨by rw [Ye rfl] at h2;exact h2,by rw [nth_eq (by simp)] at h3;exact Y1 some h3⟩
  | succ i=>exact .inr ⟨i,h1,by rw [Yb ow] at h2;exact h2,h3⟩
theorem Zhs.mem {l:List Int} {x y:Int} (h:Zhs l x y):y ∈ l:=by
 rcases h with ⟨_,h⟩ | h
 ·exact List.mem_of_head? h
 ·exact h.mem.2
theorem ZpN {l:List Int} (hn:l.Nodup) (h1:∀ z ∈ l,1≤z) {x y y':Int} (h:Zhs l x y) (k:Zhs l x y'):y=y':=by
 obtain ⟨i,hi,e1,e2⟩:=ZfJ.1 h
 obtain ⟨j,hj,f1,f2⟩:=ZfJ.1 k
 have hinj:∀ {a b:Nat},a<l.length→b<l.length→Nn l a=Nn l b→a=b:=fun {a b} ha hb e=>by
  rw [nth_eq ha,nth_eq hb] at e
  rcases YbB a b with h9 | h9 | h9
  ·exact absurd e (Yah.1 hn a b ha hb h9)
  ·exact h9
  ·exact absurd e.symm (Yah.1 hn b a hb ha h9)
 have:i=j:=by
  by_cases h0:i=0 <;> by_cases h2:j=0
  ·omega
  ·rw [Ye h0] at e1
   rw [Yb h2] at f1
   have:=h1 _ (nth_mem (q:=l) (k:=j - 1) ow)
   omega
  ·rw [Yb h0] at e1
   rw [Ye h2] at f1
   have:=h1 _ (nth_mem (q:=l) (k:=i - 1) ow)
   omega
  ·rw [Yb h0] at e1
   rw [Yb h2] at f1
   have:=hinj ow ow (e1.trans f1.symm)
   omega
 rw [← e2,← f2,this]
theorem Zb6 {id:Int} : ∀ {l:List Int},l.Nodup → ∀ {a b:Int},Zcu (Zcn l id) a b→Zcu l a b∨(Zcu l a id∧Zcu l id b)
 | [],_,a,b,h=>by cases h
 | z :: l,hn,a,b,h=>by
  have hn':=YaH.1 hn
  have ih:=fun {a b}=>Zb6 (id:=id) hn'.2 (a:=a) (b:=b)
  have lift:∀ {p q:Int},Zcu l p q→Zcu (z :: l) p q:=fun {p q} h=>by
   cases l with
   | nil=>cases h
   | cons y l=>exact .inr h
  unfold Zcn at h ih
  by_cases e:z=id
  ·rw [Yag (by simpa using e)] at h
   exact (ih h).imp lift fun ⟨h1,h2⟩=>⟨lift h1,lift h2⟩
  ·rw [Yab (by simpa using e)] at h
   have key:(z=a∧(l.filter fun x=>decide (x≠id)).head? = some b)∨Zcu (l.filter fun x=>decide (x≠id)) a b:=by
    cases hF:l.filter fun x=>decide (x≠id) with
    | nil=>rw [hF] at h;cases h
    | cons y F=>
     rw [hF] at h
     rcases h with ⟨h1,h2⟩ | h
     ·exact .inl ⟨h1,Y1 some h2⟩
     ·exact .inr h
   rcases key with ⟨h1,h2⟩ | h1
   ·cases l with
    | nil=>cases h2
    | cons y l2=>
     by_cases e2:y=id
     ·subst e2
      have hn2:=YaH.1 hn'.2
      rw [Yag (by simp)] at h2
      have hs:l2.filter (fun x=>decide (x≠y))=l2:=Ya5.2 fun x hx=>by simp;exact fun e3=>hn2.1 (e3 ▸ hx)
      rw [hs] at h2
      cases l2 with
      | nil=>cases h2
      | cons u l3=>
       have h2:=YaA h2
       exact .inr ⟨.inl ⟨h1,rfl⟩,.inr (.inl ⟨rfl,h2⟩)⟩
     ·rw [Yab (by simpa using e2)] at h2
      exact .inl (.inl ⟨h1,YaA h2⟩)
   ·exact (ih h1).imp lift fun ⟨h2,h3⟩=>⟨lift h2,lift h3⟩
theorem ZhM {id:Int} {l:List Int} (hn:l.Nodup) {x y:Int} (h:Zhs (Zcn l id) x y):Zhs l x y∨(Zhs l x id∧Zcu l id y):=by
 rcases h with ⟨h1,h2⟩ | h
 ·cases l with
  | nil=>cases h2
  | cons z l=>
   unfold Zcn at h2
   by_cases e:z=id
   ·subst e
    have hn':=YaH.1 hn
    rw [Yag (by simp)] at h2
    have hs:l.filter (fun x=>decide (x≠z))=l:=Ya5.2 fun x hx=>by simp;exact fun e3=>hn'.1 (e3 ▸ hx)
    rw [hs] at h2
    cases l with
    | nil=>cases h2
    | cons u l=>exact .inr ⟨.inl ⟨h1,rfl⟩,.inl ⟨rfl,YaA h2⟩⟩
   ·rw [Yab (by simpa using e)] at h2
    exact .inl (.inl ⟨h1,h2⟩)
 ·exact (Zb6 hn h).imp .inr fun ⟨h1,h2⟩=>⟨.inr h1,h2⟩
def OkV (g:Zq) (o:OpD):Prop:=o.tx=0 ∨ ∃ u,Z0 g.txs o.tx=some u∧u.done=true∧(wcnt u.ops o.key:Int)=o.nth
def RdS (g:Zq) (t:TxD) (o:OpD) (e:Ze):Prop:=o.tx≠t.id∧OkV g o∧((o.tx≠0∧e = ⟨o.tx,t.id,2,o.key⟩) ∨ ∃ y,Zhs (getO g.orders o.key) o.tx y∧y≠t.id∧e = ⟨t.id,y,3,o.key⟩)
def EdS (g:Zq) (e:Ze):Prop:=(e.kind=1∧Zcu (getO g.orders e.key) e.src e.dst) ∨ ∃ t ∈ g.txs,t.done=true ∧ ∃ o ∈ t.ops,o.read=true∧RdS g t o e
theorem ZaJ {g:Zq} (hg:ZK g) (k:Int):(getO g.orders k).Nodup ∧ ∀ z ∈ getO g.orders k,1≤z:=by
 obtain ⟨_,h2,h3,_,_,h6⟩:=Zid.1 hg
 refine ⟨(h6 k).nodup_iff.2 (Zhl h2 k),fun z hz=>?_⟩
 obtain ⟨t,h4,h5,_⟩:=Zfg.1 ((h6 k).mem_iff.1 hz)
 rw [← h5];exact Zo4 (h3 t h4).1
theorem Zl8 {κ:Type} [DecidableEq κ] {k:κ} {v:Int} {A:List (κ×Int)} (hA:∀ z ∈ A,z.1=k→z.2=v) (hk:∃ z ∈ A,z.1=k):Zl0 A k=v:=by
 have key:∀ (A:List (κ×Int)) (x:Int),(∀ z ∈ A,z.1=k→z.2=v)→((∃ z ∈ A,z.1=k)∨x=v)→A.foldl (fun x z=>if k=z.1 then z.2 else x) x=v:=by
  intro A
  induction A with
  | nil=>rintro x _ (⟨z,hz,_⟩ | h);cases hz;exact h
  | cons z A ih=>
   intro x hA h
   rw [Yav]
   refine ih _ (fun z hz=>hA z (YB _ hz)) ?_
   by_cases e:k=z.1
   ·rw [Ye e];exact .inr (hA z Ya0 e.symm)
   ·rw [Yb e]
    rcases h with ⟨y,hy,h⟩ | h
    ·rcases Yk.1 hy with rfl | hy
     ·exact absurd h.symm e
     ·exact .inl ⟨y,hy,h⟩
    ·exact .inr h
 exact key A 0 hA (.inl hk)
theorem Zib {κ:Type} [DecidableEq κ] {k:κ} {A:List (κ×Int)} (hA:∀ z ∈ A,z.1≠k):Zl0 A k=0:=by
 have key:∀ (A:List (κ×Int)) (x:Int),(∀ z ∈ A,z.1≠k)→A.foldl (fun x z=>if k=z.1 then z.2 else x) x=x:=by
  intro A
  induction A with
  | nil=>intro x _;rfl
  | cons z A ih=>
   intro x hA
   rw [Yav,Yb fun e=>hA z Ya0 e.symm]
   exact ih x fun y hy=>hA y (YB _ hy)
 exact key A 0 hA
theorem Ztq {g:Zq} (hg:ZK g) {k x:Int} : (∀ y,Zhs (getO g.orders k) x y→nxI g k x=y)∧((¬ ∃ y,Zhs (getO g.orders k) x y)→nxI g k x=0):=by
 have hr:=(Zau hg).2
 have hm:∀ z ∈ nxA g.orders,z.1=(⟨k,x⟩:Zdq)→Zhs (getO g.orders k) x z.2:=fun z hz e=>by
  unfold nxA at hz
  obtain ⟨o,ho,hz⟩:=Yau.1 hz
  unfold nxO at hz
  obtain ⟨j,hj,rfl⟩:=Yv.1 hz
  injection e with e1 e2
  rw [← e1,ZdF (Zac.1 hr) ho]
  refine ZfJ.2 ⟨j,YaX.1 hj,?_,rfl⟩
  unfold atI at e2
  by_cases h0:j=0
  ·rw [Ye h0] at e2 ⊢;exact e2.symm
  ·rw [Yb h0] at e2 ⊢;exact e2
 have hin:∀ y,Zhs (getO g.orders k) x y → ∃ z ∈ nxA g.orders,z.1=(⟨k,x⟩:Zdq):=fun y h=>by
  have hne:getO g.orders k≠[]:=fun e=>by have:=h.mem;rw [e] at this;cases this
  have ho:=ZgK hne
  obtain ⟨j,h1,h2,h3⟩:=ZfJ.1 h
  refine ⟨(⟨k,x⟩,y),?_,rfl⟩
  unfold nxA
  refine Yau.2 ⟨_,ho,?_⟩
  unfold nxO
  refine Yv.2 ⟨j,YaX.2 h1,?_⟩
  dsimp only
  rw [h3]
  unfold atI
  by_cases h0:j=0
  ·rw [Ye h0] at h2 ⊢;rw [h2]
  ·rw [Yb h0] at h2 ⊢;rw [h2]
 obtain ⟨o1,o2⟩:=ZaJ hg k
 refine ⟨fun y h=>Zl8 (fun z hz e=>ZpN o1 o2 (hm z hz e) h) (hin y h),fun h=>Zib fun z hz e=>h ⟨_,hm z hz e⟩⟩
theorem Zra {g:Zq} (hg:ZK g) {id k n:Int} : (Zic g id=0∨¬ Zlw g id k=n) ↔ ¬ ∃ u,Z0 g.txs id=some u∧u.done=true∧(wcnt u.ops k:Int)=n:=by
 have hr:=(Zau hg).1
 by_cases h:∃ u,Z0 g.txs id=some u∧u.done=true
 ·obtain ⟨u,h1,h2⟩:=h
  obtain ⟨m1,m2⟩:=findT_mem h1
  have hd:Zic g id=1:=by
   unfold Zic Zc8
   refine Zl8 (fun z hz _=>?_) ⟨(u.id,1),Yv.2 ⟨u,YV.2 ⟨m1,h2⟩,rfl⟩,m2⟩
   obtain ⟨t,_,rfl⟩:=Yv.1 hz
   rfl
  have hl:Zlw g id k=(wcnt u.ops k:Int):=by
   unfold Zlw
   rw [← m2,ZpE hg m1 h2]
  rw [hd,hl,h1]
  simp [h2]
 ·have hd:Zic g id=0:=by
   unfold Zic Zc8
   refine Zib fun z hz e=>?_
   obtain ⟨t,ht,rfl⟩:=Yv.1 hz
   obtain ⟨m1,m2⟩:=YV.1 ht
   exact h ⟨t,by rw [← e];exact Zdw hr m1,m2⟩
  rw [hd]
  simp only [true_or,true_iff]
  rintro ⟨u,h1,h2,_⟩
  exact h ⟨u,h1,h2⟩
theorem ZqX {g:Zq} (hg:ZK g) {t:TxD} {o:OpD} {e:Ze} : e ∈ rdO g t o ↔ RdS g t o e:=by
 unfold rdO RdS OkV
 have hno:ZqH g t o=true ↔ ¬ (o.tx≠t.id∧(o.tx=0 ∨ ∃ u,Z0 g.txs o.tx=some u∧u.done=true∧(wcnt u.ops o.key:Int)=o.nth)):=by
  unfold ZqH
  have:=Zra hg (id:=o.tx) (k:=o.key) (n:=o.nth)
  simp only [YaO,Yr,Yu,Yai,YH]
  rw [this]
  by_cases h1:o.tx=t.id <;> by_cases h2:o.tx=0 <;> simp [h1,h2]
  all_goals (try omega)
 obtain ⟨n1,n2⟩:=Ztq hg (k:=o.key) (x:=o.tx)
 by_cases hb:ZqH g t o=true
 ·rw [Ye hb]
  have:=hno.1 hb
  constructor
  ·intro h;cases h
  ·rintro ⟨h1,h2,_⟩;exact absurd ⟨h1,h2⟩ this
 ·rw [Yb hb]
  have hok:o.tx≠t.id∧(o.tx=0 ∨ ∃ u,Z0 g.txs o.tx=some u∧u.done=true∧(wcnt u.ops o.key:Int)=o.nth):=Classical.not_not.1 fun h=>hb (hno.2 h)
  rw [YA]
  have Z:e ∈ rdB g t o ↔ ∃ y,Zhs (getO g.orders o.key) o.tx y∧y≠t.id∧e = ⟨t.id,y,3,o.key⟩:=by
   unfold rdB
   by_cases hx:∃ y,Zhs (getO g.orders o.key) o.tx y
   ·obtain ⟨y,hy⟩:=hx
    have e1:=n1 y hy
    have hy1:=(ZaJ hg o.key).2 y hy.mem
    rw [e1]
    by_cases h2:y=t.id
    ·rw [Yb (by simp [h2])]
     constructor
     ·intro h;cases h
     ·rintro ⟨y',h3,h4,_⟩
      have:=n1 y' h3
      rw [e1] at this
      exact absurd (this.symm.trans h2) h4
    ·rw [Ye ⟨by omega,h2⟩,Yi]
     constructor
     ·intro h;exact ⟨y,hy,h2,h⟩
     ·rintro ⟨y',h3,_,h4⟩
      have:=n1 y' h3
      rw [e1] at this
      rw [this];exact h4
   ·rw [n2 hx,Yb (by simp)]
    constructor
    ·intro h;cases h
    ·rintro ⟨y,h,_⟩;exact absurd ⟨y,h⟩ hx
  rw [Z]
  have hA:e ∈ rdA t o ↔ o.tx≠0∧e = ⟨o.tx,t.id,2,o.key⟩:=by
   unfold rdA
   split
   ·rename_i h;simp [h]
   ·rename_i h;simp [h]
  rw [hA]
  exact ⟨fun h=>⟨hok.1,hok.2,h⟩,fun h=>h.2.2⟩
abbrev PT1:Int→Bool:=fun _=>true
theorem ZsE {g:Zq} (hg:ZK g) {e:Ze} : e ∈ ZgJ (wwC PT1 g) (rdC PT1 g) ↔ EdS g e:=by
 unfold ZgJ wwC rdC EdS
 rw [Ye hg,Ye hg,YA]
 have hr:=(Zau hg).2
 refine or_congr ?_ ?_
 ·rw [Yv]
  unfold wwA
  constructor
  ·rintro ⟨z,hz,rfl⟩
   obtain ⟨o,ho,hz⟩:=Yau.1 hz
   rw [Ye rfl] at hz
   unfold wwO at hz
   obtain ⟨i,hi,rfl⟩:=Yv.1 hz
   have:=YaX.1 hi
   refine ⟨rfl,?_⟩
   dsimp only
   rw [ZdF (Zac.1 hr) ho,ZcH]
   exact ⟨i,by omega,rfl,rfl⟩
  ·rintro ⟨h1,h2⟩
   have hne:getO g.orders e.key≠[]:=fun e9=>by rw [e9] at h2;cases h2
   have ho:=ZgK hne
   obtain ⟨i,h3,h4,h5⟩:=ZcH.1 h2
   refine ⟨(e,1),Yau.2 ⟨_,ho,?_⟩,rfl⟩
   rw [Ye rfl]
   unfold wwO
   refine Yv.2 ⟨i,YaX.2 (by dsimp only;omega),?_⟩
   dsimp only
   rw [h4,h5]
   cases e;simp only at h1;subst h1;rfl
 ·unfold rdH
  rw [Yau]
  refine exists_congr fun t=>and_congr_right fun ht=>?_
  unfold rdT
  rw [Yau]
  constructor
  ·rintro ⟨o,ho,h⟩
   split at h
   ·rename_i hc
    simp only [Yr,and_true] at hc
    exact ⟨hc.1,o,ho,hc.2,(ZqX hg).1 h⟩
   ·cases h
  ·rintro ⟨h1,o,ho,h2,h3⟩
   exact ⟨o,ho,by rw [Ye (by simp [h1,h2])];exact (ZqX hg).2 h3⟩
def EK (g:Zq) (mask:Int→Bool) (a b:Int):Prop:=∃ e,EdS g e∧mask e.kind=true∧e.src=a∧e.dst=b
structure ZhZ (g x:Zq) (id:Int):Prop where
 rg:ZK g
 rx:ZK x
 tab:∀ i,Z0 x.txs i=if i=id then none else Z0 g.txs i
 ord:∀ k,getO x.orders k=Zcn (getO g.orders k) id
 free:∀ t ∈ g.txs,t.id≠id → ∀ o ∈ t.ops,o.read=true→o.tx≠id
section
variable {g x:Zq} {id:Int}
theorem ZhZ.mem (h:ZhZ g x id) {t:TxD} : t ∈ x.txs ↔ t ∈ g.txs∧t.id≠id:=by
 have hx:=(Zau h.rx).1
 have hg:=(Zau h.rg).1
 constructor
 ·intro ht
  have h1:=Zdw hx ht
  rw [h.tab] at h1
  split at h1
  ·cases h1
  ·rename_i h2;exact ⟨(findT_mem h1).1,h2⟩
 ·rintro ⟨h1,h2⟩
  have h3:=h.tab t.id
  rw [Yb h2,Zdw hg h1] at h3
  exact (findT_mem h3).1
theorem ZhZ.edge (h:ZhZ g x id) {e:Ze} (he:EdS x e):∃ e',EdS g e' ∧ e'.kind=e.kind∧e'.src=e.src∧(e'.dst=e.dst∨(e'.dst=id∧EdS g ⟨id,e.dst,1,e.key⟩)):=by
 rcases he with ⟨h1,h2⟩ | ⟨t,ht,hd,o,ho,hr,h1,h2,h3⟩
 ·rw [h.ord] at h2
  rcases Zb6 (ZaJ h.rg e.key).1 h2 with h4 | ⟨h4,h5⟩
  ·exact ⟨e,.inl ⟨h1,h4⟩,rfl,rfl,.inl rfl⟩
  ·exact ⟨⟨e.src,id,1,e.key⟩,.inl ⟨rfl,h4⟩,h1.symm,rfl,.inr ⟨rfl,.inl ⟨rfl,h5⟩⟩⟩
 ·obtain ⟨t1,t2⟩:=h.mem.1 ht
  have hv:OkV g o:=by
   rcases h2 with h2 | ⟨u,h2,h4⟩
   ·exact .inl h2
   ·rw [h.tab,Yb (h.free t t1 t2 o ho hr)] at h2
    exact .inr ⟨u,h2,h4⟩
  rcases h3 with ⟨h3,rfl⟩ | ⟨y,h3,h4,rfl⟩
  ·exact ⟨_,.inr ⟨t,t1,hd,o,ho,hr,h1,hv,.inl ⟨h3,rfl⟩⟩,rfl,rfl,.inl rfl⟩
  ·rw [h.ord] at h3
   rcases ZhM (ZaJ h.rg o.key).1 h3 with h5 | ⟨h5,h6⟩
   ·exact ⟨_,.inr ⟨t,t1,hd,o,ho,hr,h1,hv,.inr ⟨y,h5,h4,rfl⟩⟩,rfl,rfl,.inl rfl⟩
   ·exact ⟨⟨t.id,id,3,o.key⟩,.inr ⟨t,t1,hd,o,ho,hr,h1,hv,.inr ⟨id,h5,fun e=>t2 e.symm,rfl⟩⟩,rfl,rfl,.inr ⟨rfl,.inl ⟨rfl,h6⟩⟩⟩
theorem ZhZ.reach (h:ZhZ g x id) {mask:Int→Bool} (hm:mask 1=true) {a b:Int} (hr:Rch (EK x mask) a b):Rch (EK g mask) a b:=by
 have one:∀ {a b:Int},EK x mask a b→Rch (EK g mask) a b:=fun {a b} ⟨e,h1,h2,h3,h4⟩=>by
  obtain ⟨e',k1,k2,k3,k4⟩:=h.edge h1
  have s1:EK g mask a e'.dst:=⟨e',k1,by rw [k2];exact h2,by rw [k3];exact h3,rfl⟩
  rcases k4 with k4 | ⟨k4,k5⟩
  ·rw [k4,h4] at s1;exact .one s1
  ·rw [k4] at s1
   exact .step (.one s1) ⟨_,k5,hm,rfl,h4⟩
 induction hr with
 | one k=>exact one k
 | step _ k ih=>exact ih.trans (one k)
end
def LE_ (l:List Ze) (a b:Int):Prop:=∃ e ∈ l,e.src=a∧e.dst=b
structure Zlm (es:List (ZbA Int)) (N:List Int):Prop where
 len:es.length=N.length
 get:∀ x,ZeQ x es=if x ∈ N then some (Zc4 x N) else none
theorem Zlm.nil:Zlm [] []:=⟨rfl,fun x=>by simp [ZeQ]⟩
theorem Zlm.old {es:List (ZbA Int)} {N:List Int} {x:Int} (h:Zlm es N) (hx:(ZeQ x es).isSome=true):x ∈ N∧mVal x es=Zc4 x N:=by
 rw [h.get] at hx
 split at hx
 ·rename_i e
  exact ⟨e,by rw [Zkf,h.get,Ye e];rfl⟩
 ·cases hx
theorem Zlm.new {es:List (ZbA Int)} {N:List Int} {x:Int} (h:Zlm es N) (hx:(ZeQ x es).isSome=false):x ∉ N:=fun e=>by
 rw [h.get,Ye e] at hx;cases hx
theorem Zq0 (P:Prop):∃ b:Bool,b=true ↔ P:=(Classical.em P).elim (fun h=>⟨true,by simp [h]⟩) fun h=>⟨false,by simp [h]⟩
def kindOk (mask:Int) (e:Ze):Bool:=(decide (1≤e.kind) && decide (e.kind≤3)) && ofB mask e.kind
def Zty (must kind:Int):Bool:=decide (bits .and .i64 must 14=0) || ofB must kind
def Zs5 (l:List Ze) (mask must:Int):Prop:=∃ e ∈ l.filter (kindOk mask),Zty must e.kind=true∧(e.dst=e.src∨Rch (LE_ (l.filter (kindOk mask))) e.dst e.src)
section
variable {l:List Ze} {n:Nat} {E:List Zu} {O I:List (List Z4)} {L:List Int}
end
theorem ZiZ {l:List PV} : ∀ v w yy,(PV.ref l).p v w yy→v.oneCell' = true:=fun v _ _ ⟨_,_,_,e,_⟩=>by rw [e];rfl
def roomN (n:Int):Nat:=(if n<0 then 0 else if n > 4096 then 4096 else n).toNat
theorem Zey (n:Int):roomN n≤4096:=by unfold roomN;split; (· omega);split <;> omega
theorem Zqd (n:Int):(if 4096<(if n<0 then 0 else n) then 4096 else if n<0 then 0 else n)=((roomN n:Nat):Int):=by unfold roomN;split <;> split <;> (try split) <;> omega
theorem Ziy {w:World} {y:Ys} {r:RS} (hd:r.deps = []) (hr:r.holds tau0 w (fun _=>False) y):∀ n:Nat,stars w y (List.replicate n r) (fun _=>False)
 | 0=>fun _ h=>h
 | n+1=>⟨fun _=>False,fun _=>False,fun b=>by simp,fun _ h=>h.elim,hd,hr,Ziy hd hr n⟩
theorem Zpp (n:Nat) (s:Value):Zel (List.replicate n s) (List.replicate n [])=List.replicate n (s,[]):=by
 apply YaT (by simp [Zel])
 intro j h1 h2
 have hj:j<n:=by simpa using h2
 simp [Zel,nth_eq (l:=List.replicate n s) (i:=j) (by simpa using hj),nth_eq (l:=List.replicate n ([]:List Z4)) (i:=j) (by simpa using hj)]
theorem ZkE {n:Nat} {v:Value} (τ:Tau) (w:World) (f y:Ys) (h:(RS.ob (.val v) (ZA 220 1 rV (List.replicate n (.slice none 0 0)))).holds τ w f y):(RS.hp (ZiN (List.replicate n []) v)).holds τ w f y:=by
 refine ⟨List.replicate n (.slice none 0 0),by simp,f,fun _=>False,fun b=>by simp,fun _ _ h=>h,rfl,h,fun _=>False,fun _=>False,fun b=>by simp,fun _ h=>h.elim,rfl,?_,fun _ h=>h⟩
 show stars w y ((Zel (List.replicate n (.slice none 0 0)) (List.replicate n [])).map fun x=>RS.hp (ZlW x)) fun _=>False
 rw [Zpp,List.map_replicate]
 exact Ziy (r:=RS.hp (ZlW (.slice none 0 0,[]))) rfl (show (ZA 217 3 Zaj ([]:List Z4) (.slice none 0 0)).p w (fun _=>False) y from Zj4) n
theorem Zj6 (w:World) (y:Ys):PVs (rV (.slice none 0 0)) [.slice none 0 0] w y:=⟨⟨rfl,rfl,by first | rfl | trivial⟩,tv⟩
theorem ZrI (room:Int):FnG prog 115 1 [.int .i64 room] [.star []] (PV.ptr) (fun v=>[Zow (List.replicate (roomN room) []) (List.replicate (roomN room) []) 0 v]):=by
 refine FnG.mk func115 rfl ntmps115 rfl kr fun B F0 a w F Z hG G=>?_
 have hr:=Zqd room
 refine Ya (rZ G (qC qZ) Z [2,0] [1,0] fun G=>Ya ?_)
 refine Zg G (qR rr (qf (ZpX .t qi) r1 qz (qf (Zs9 .t qi) r1 qz (qO rr qZ)))) Z [2,0] [1,0] rfl rfl fun a w F G=>?_
 rw [hr] at G
 refine Za (Ya (ZbI G (qR rr (qf (Zb4 (R:=rV) (v:=(.slice none 0 0)) (c:=((roomN room:Nat):Int)) (sz:=1) (bs:=24) (zs:=[.slice none 0 0]) 101 Yb9 kr kr kr Zj6 .t .t (YaF _) (by have:=Zey room;omega) (by have:=Zey room;omega)) r2 qz (qR rr (qf (Zb4 (R:=rV) (v:=(.slice none 0 0)) (c:=((roomN room:Nat):Int)) (sz:=1) (bs:=24) (zs:=[.slice none 0 0]) 102 Yb9 kr kr kr Zj6 .t .t (YaF _) (by have:=Zey room;omega) (by have:=Zey room;omega)) r2 qz (qf (oB [(0,.tmp 7),(1,.tmp 9)] [.slice none 0 0,.slice none 0 0,.int .i64 0] [(0,1),(1,1),(2,1)] (.same rfl kr (.same rfl kr .nil))) r2 qz (qf (oX 103 .t) r1 qz (qO rr qZ))))))) Z [2] [103,102,101,1,0] (fun _=>rfl) (fun _=>rfl) fun τ a w F G=>?_))
 try dsimp only [RS.sub,SF.sub,CF.sub,csub,Anc.sub,List.map,Zf,xL,xM,Nat.reduceAdd,xD,xE,xT,xU,xC,xN,zCF,Zaj,Zal,Zo,ZaB] at G
 generalize τ 11=v11,τ 7=v7,τ 9=v9 at G
 rw [Yc] at G
 refine Za (Yh ?_)
 obtain ⟨b,rfl⟩:=G.shape 103 rfl
 replace G:=G.turn 101 rfl (ZkE)
 replace G:=G.turn 102 rfl (ZkE)
 obtain ⟨F,G⟩:=G.push 1 102 rfl rfl rfl kr
 obtain ⟨F,G⟩:=G.push 1 101 rfl rfl rfl kr
 obtain ⟨F,G⟩:=G.push 1 103 rfl rfl rfl kr
 have G:=G.turn 1 rfl (r':=RS.hp (Zow (List.replicate (roomN room) []) (List.replicate (roomN room) []) 0 (Value.pointer (some { block:=b,off:=0 })))) (fun _ _ _ _ h=>⟨_,_,h⟩)
 refine Z9 (h':=fun v=>Zow (List.replicate (roomN room) []) (List.replicate (roomN room) []) 0 v) hG G rfl (.tmp rfl .nil) (.one .ptr) rfl
theorem Sat.giveL {B:Za6} {E:En} {a:Act} {w:World} {F:Fp} {v:Value} {ho:HP} {p:PV} (h:Sat B E a w F) (n i:Nat) (hn:Go.Gm.look E.r n=some (RS.hp ho)) (hi:Go.Gm.look E.s i=some (.pv (.is v))) (hl:Zsz ho v p) :
  ∃ F',Sat B ⟨(i,.pv p) :: E.s,(n,RS.hp (HP.star [])) :: E.r⟩ a w F':=by
 have hle:∀ b,U (fun m=>if m=n then fun _=>False else F m) b→U F b:=fun b ⟨m,hm⟩=>⟨m,by
  by_cases e:m=n
  ·simp only [e,Yp] at hm
  ·simp only [e,Yn] at hm;exact hm⟩
 have hev:=Ev.less w hle
 refine ⟨fun m=>if m=n then fun _=>False else F m,⟨fun m k b hm hk=>?_,fun m b hm=>?_⟩,h.ev.trans hev,h.n,h.df,fun j s hj=>?_,fun m r hm=>?_,fun m b hm=>?_⟩
 ·by_cases e1:m=n
  ·simp only [e1,Yp] at hm
  ·by_cases e2:k=n
   ·simp only [e2,Yp] at hk
   ·simp only [e1,e2,Yn] at hm hk;exact h.wf.dis m k b hm hk
 ·by_cases e1:m=n
  ·simp only [e1,Yp] at hm
  ·simp only [e1,Yn] at hm;exact h.wf.bd m b hm
 ·rw [Zi] at hj
  split at hj
  ·rename_i e
   simp only [Y0] at hj;subst hj;subst e
   have hv:Act.tau a i=v:=(h.s i _ hi).1
   show p.p (Act.tau a i) w _
   rw [hv]
   refine hl w (F n) (U F) _ (h.r n _ hn) hle (fun b hb hm=>?_) (fun b hb=>h.wf.bd n b hb)
   obtain ⟨m,hm⟩:=hm
   by_cases e2:m=n
   ·simp only [e2,Yp] at hm
   ·simp only [e2,Yn] at hm
    exact e2 (h.wf.dis m n b hm hb)
  ·exact SF.mono hev (fun _ _=>rfl) (h.s j s hj)
 ·rw [Zi] at hm
  split at hm
  ·rename_i e
   simp only [Y0] at hm;subst hm;subst e
   intro b hb
   simp only [Yp] at hb
  ·rename_i e
   have e2:¬ m=n:=fun h=>e h.symm
   simp only [e2,Yn]
   exact RS.mono hev (fun _ _=>rfl) (fun _ _=>rfl) (h.r m r hm)
 ·by_cases e1:m=n
  ·simp only [e1,Yp] at hm
  ·simp only [e1,Yn] at hm
   obtain ⟨r,hr⟩:=h.em m b hm
   exact ⟨r,by rw [Zi,Yb (fun h=>e1 h.symm)];exact hr⟩
theorem ZpA {O I:List (List Z4)} {n:Nat} {v:Value} {w:World} {f y:Ys} (h:(Zow O I n v).p w f y):∃ b,v = .pointer (some ⟨b,0,none⟩):=by
 obtain ⟨_,_,g⟩:=h
 exact HP.star_pt g
theorem Zoj {n:Nat} (h:n≤4096):roomN (n:Int)=n:=by unfold roomN;repeat' split;all_goals omega
end Go.Proofs.YtlkpllemoepamaaGreat
namespace Go.Proofs.YtlkpllemoepamaaGreat
open Go Go.Gm Tryz
set_option linter.unusedVariables false
set_option linter.unusedSimpArgs false
set_option maxHeartbeats 4000000
set_option maxRecDepth 8000
open Go.RowKit Go.Maps Go.Sort Go.Shelf Go.ChangeMaps Go.MapKept
section
variable {F:Fence} {n:Nat} {P:Program} {ops:Array Oper} {rest:List Oper} {o:Oper} {a:Act} {w:World} {Q:Exit→Act→World→Prop}
theorem ZdD (hg:o.guard=none) (m:Operand) (t:TypeId) (hop:o.op=Op.range t m) (k e:TypeId) (ht:P.underlying t=some (.map k e)) (b:Nat) (es:Array MapEntry) (clock:Nat) (hm:a.eval m = .map (some b)) (hb:w.heap[b]? = some (.map es clock))
  (hK:wpListIn F n P ops Q rest (a.put o.dst (.pointer (some ⟨w.heap.size,0,none⟩))) (w.alloc (.mapIter (some b) clock #[] clock))):wpListIn F n P ops Q (o :: rest) a w:=by
 refine wpListIn_plain hg fun K' hK'=>?_
 unfold Oper.wpIn
 refine ⟨by simp [Oper.about,hop],?_⟩
 rw [Oper.semAt_plain F _ _ (by rw [hop];intro c hc';cases hc')]
 simp [execOp,hop,hm,run_range_map w t k e b es clock ht hb,Result.andThen]
 exact hK' _ _ hK
end
theorem Zmu {w w1:World} {r b:Nat} {clock c0:Nat} {seen:Array Nat} {es:Array MapEntry} {x:Nat} (hal:w1=w∨w1=w.drew) (hr:w.heap[r]? = some (.mapIter (some b) clock seen c0)) (hb:w.heap[b]? = some (.map es clock)) (hne:r≠b) :
  (setBlock w1 r (.mapIter (some b) clock (seen.push x) clock)).heap[r]? = some (.mapIter (some b) clock (seen.push x) clock)∧(setBlock w1 r (.mapIter (some b) clock (seen.push x) clock)).heap[b]? = some (.map es clock)∧w.grownBy (setBlock w1 r (.mapIter (some b) clock (seen.push x) clock)) (some r):=by
 have hr1:w1.heap[r]? = some (.mapIter (some b) clock seen c0):=by rcases hal with rfl | rfl <;> exact hr
 have hb1:w1.heap[b]? = some (.map es clock):=by rcases hal with rfl | rfl <;> exact hb
 have hset:=heap_set (o':=.mapIter (some b) clock (seen.push x) clock) hr1
 refine ⟨hset.1,(hset.2 b (fun e1=>hne e1.symm)).trans hb1,?_⟩
 rcases hal with rfl | rfl <;> exact ⟨rfl,rfl,rfl,by simp [setBlock],fun i _ hi=>hset.2 i (fun e1=>hi (by rw [e1]))⟩
def Zqn (es:Array MapEntry) (seen:Array Nat):Prop:=(leftOf es seen).size=0
structure Zqg (P:Program) (w w2:World) (r b clock:Nat) (seen:Array Nat) (es:Array MapEntry) (e:MapEntry):Prop where
 left:e ∈ (leftOf es seen).toList
 it:w2.heap[r]? = some (.mapIter (some b) clock (seen.push e.born) clock)
 mp:w2.heap[b]? = some (.map es clock)
 grown:w.grownBy w2 (some r)
 entry:(Instr.entry (.pointer (some ⟨r,0,none⟩))).run P w2 = .ok (.tuple #[e.key,e.val]) w2
section
variable {F:Fence} {n:Nat} {P:Program} {ops:Array Oper} {rest:List Oper} {o:Oper} {a:Act} {w:World} {Q:Exit→Act→World→Prop}
theorem ZdZ (hg:o.guard=none) (it:Operand) (hop:o.op=Op.next it false) (r b clock c0:Nat) (seen:Array Nat) (es:Array MapEntry) (hit:a.eval it = .pointer (some ⟨r,0,none⟩))
  (hr:w.heap[r]? = some (.mapIter (some b) clock seen c0)) (hb:w.heap[b]? = some (.map es clock)) (hold:∀ x ∈ es.toList,x.born<clock) (hsc:clock≤c0) (hne:r≠b) (hnd:(es.toList.map (·.born)).Nodup)
  (hDone:Zqn es seen→wpListIn F n P ops Q rest (a.put o.dst (.tuple #[.bool false])) w)
  (hMore:∀ (e:MapEntry) (w2:World),Zqg P w w2 r b clock seen es e→wpListIn F n P ops Q rest (a.put o.dst (.tuple #[.bool true,e.key,e.val])) w2) :
  wpListIn F n P ops Q (o :: rest) a w:=by
 refine wpListIn_plain hg fun K' hK'=>?_
 unfold Oper.wpIn
 refine ⟨by simp [Oper.about,hop],?_⟩
 rw [Oper.semAt_plain F _ _ (by rw [hop];intro c hc';cases hc')]
 rcases run_next_at (P:=P) w o.type r b clock c0 seen es clock hr hb hold hsc with ⟨h0,hrun⟩ | ⟨e,he,w1,hal,hrun⟩
 ·simp [execOp,hop,hit,hrun,Result.andThen]
  exact hK' _ _ (hDone h0)
 ·simp [execOp,hop,hit,hrun,Result.andThen]
  obtain ⟨h1,h2,h3⟩:=Zmu (x:=e.born) hal hr hb hne
  exact hK' _ _ (hMore e _ ⟨he,h1,h2,h3,run_entry_at _ r b clock seen es clock e h1 h2 (mem_left he).1 hnd⟩)
end
theorem ZhX:∀ {es:List MapEntry} {seen:Array Nat} {e:MapEntry},(es.map (·.born)).Nodup→e ∈ es→seen.contains e.born=false→(es.filter fun x=>(seen.push e.born).contains x.born).Perm (e :: es.filter fun x=>seen.contains x.born)
 | [],_,_,_,h,_=>by cases h
 | x :: es,seen,e,hn,hm,hs=>by
  rw [YQ,YaH] at hn
  rcases Yk.1 hm with rfl | hm
  ·have hrest:(es.filter fun x=>(seen.push e.born).contains x.born)=es.filter fun x=>seen.contains x.born:=List.filter_congr fun y hy=>by
    rw [contains_push]
    have:(y.born == e.born)=false:=by
     simp
     intro h9
     exact hn.1 (h9 ▸ Yv.2 ⟨y,hy,rfl⟩)
    rw [this,Bool.or_false]
   rw [Yab (by rw [contains_push];simp),hrest,Yag (by rw [hs];simp)]
  ·have ih:=ZhX hn.2 hm hs
   have hx:(x.born == e.born)=false:=by
    simp
    intro h9
    exact hn.1 (h9 ▸ Yv.2 ⟨e,hm,rfl⟩)
   have hc:(seen.push e.born).contains x.born=seen.contains x.born:=by rw [contains_push,hx,Bool.or_false]
   cases hsx:seen.contains x.born with
   | true=>
    rw [Yab (by rw [hc,hsx]),Yab (by rw [hsx])]
    exact (ih.cons x).trans (List.Perm.swap e x _)
   | false=>
    rw [Yag (by rw [hc,hsx];simp),Yag (by rw [hsx];simp)]
    exact ih
theorem Zpc {es:Array MapEntry} {seen:Array Nat} (h:(leftOf es seen).size=0):(es.toList.filter fun x=>seen.contains x.born)=es.toList:=Ya5.2 fun x hx=>all_seen es seen h x hx
theorem Zot {es:List MapEntry} : (es.filter fun x=>(#[]:Array Nat).contains x.born) = []:=by
 rw [YaU];simp
theorem Zmp {es:Array MapEntry} : (leftOf es #[]).size=es.size:=by simp [leftOf]
end Go.Proofs.YtlkpllemoepamaaGreat
namespace Go.Proofs.YtlkpllemoepamaaGreat
open Go Go.Gm Tryz
set_option linter.unusedVariables false
set_option linter.unusedSimpArgs false
set_option maxHeartbeats 4000000
set_option maxRecDepth 8000
open Go.RowKit Go.Maps Go.Sort Go.Shelf Go.ChangeMaps Go.MapKept
def Zpn (x:Ze):List Value:=[Value.int .i64 x.src,.int .i64 x.dst,.int .i64 x.kind,.int .i64 x.key]
def ZjO (x:Ze):Value:=(.agg #[.int .i64 x.src,.int .i64 x.dst,.int .i64 x.kind,.int .i64 x.key])
def ZtX (v:Value):Ze:=match v with
 | .agg z=>match z.toList with
  | [.int _ b,.int _ c,.int _ d,.int _ e]=>⟨b,c,d,e⟩
  | _=>noE
 | _=>noE
theorem Zpx (x:Ze):ZtX (ZjO x)=x:=rfl
theorem ZpZ (x:Ze):∀ u ∈ [Value.int .i64 x.src,.int .i64 x.dst,.int .i64 x.kind,.int .i64 x.key],u.oneCell' = true:=by
 intro u hu
 simp at hu
 rcases hu with rfl | rfl | rfl | rfl <;> rfl
theorem Zm3 {w:World} {y:Ys} : ∀ {l:List Ze},(∀ e ∈ l,∀ x ∈ Zag e,inR .i64 x)→PVs (l.flatMap Zn) (l.flatMap Zpn) w y
 | [],_=>trivial
 | e :: l,h=>by
  have h1:=h e (by simp)
  unfold Zag at h1
  exact ⟨⟨rfl,rfl,h1 _ (by simp)⟩,⟨rfl,rfl,h1 _ (by simp)⟩,⟨rfl,rfl,h1 _ (by simp)⟩,⟨rfl,rfl,h1 _ (by simp)⟩,Zm3 fun z hz=>h z (by simp [hz])⟩
set_option maxRecDepth 100000 in
set_option maxHeartbeats 1000000 in
theorem Zsg (F:Fence) (n:Nat) (h10:F.fn 177) (hro:F.round=none) (hn:1≤n) (l Bm off b clock:Nat) (es:Array MapEntry) (hnd:(es.toList.map (·.born)).Nodup) (hold:∀ x ∈ es.toList,x.born<clock) (hkv:∀ e ∈ es.toList,∃ k:Ze,e.key=ZjO k) (J:List Ze→World→Prop)
  (hY:∀ pre x W,J pre W→pre.length<es.size→YieldAt F (n - 1) prog l #[ZjO x] W fun e W'=>e = .returned (.bool true)∧J (pre ++ [x]) W' ∧ KeepsWalks W W')
  (W:World) (hJ:AbidesFrom W.heap.size J) (hm:W.cell? ⟨Bm,off,none⟩ = some (.map (some b))) (hb:W.heap[b]? = some (.map es clock)) (h0:J [] W) :
  CallsIn F n prog 177 #[.func (.yield l) #[] #[],.pointer (some ⟨Bm,off,none⟩)] W fun e W'=>(∃ v,e = .returned v) ∧ ∃ ss:List Ze,(ss.map ZjO).Perm (es.toList.map (·.key))∧J ss W':=by
 have hbl:b<W.heap.size:=(YT.1 hb).1
 refine callsIn_of_wp func177 rfl h10 ?_ hro
 simp only [ntmps177,Yaw,Yl,Yy,Nat.reduceAdd,Nat.reduceSub,Array.replicate_succ,Array.replicate_zero,List.push_toArray,List.append_toArray,Yam,Yal]
 gi_wp2_with (first
  | (gi_at_range;refine ZdD rfl _ 127 rfl 42 3 kr b es clock rfl hb ?_)
  | gi_in)
 go_frame
 have hg0:W.grownBy (W.alloc (.mapIter (some b) clock #[] clock)) none:=World.grownBy_alloc W _ none
 have hr0:(W.alloc (.mapIter (some b) clock #[] clock)).heap[W.heap.size]? = some (.mapIter (some b) clock #[] clock):=World.alloc_heap_new W _
 have hb0:(W.alloc (.mapIter (some b) clock #[] clock)).heap[b]? = some (.map es clock):=(Below.heap_alloc _ _ b hbl).trans hb
 generalize W.alloc (.mapIter (some b) clock #[] clock)=w0 at hg0 hr0 hb0 ⊢
 gi_loopw [3] (fun _ wr=>∃ (seen:Array Nat) (c0:Nat) (ss:List Ze),wr.heap[W.heap.size]? = some (.mapIter (some b) clock seen c0)∧clock≤c0∧wr.heap[b]? = some (.map es clock)∧(ss.map ZjO).Perm ((es.toList.filter fun x=>seen.contains x.born).map (·.key))∧ss.length+(leftOf es seen).size≤es.size∧J ss wr)
  (fun _ wr=>(leftOf es (wr.iterSeen W.heap.size)).size)
 case atStart=>
  exact ⟨#[],clock,[],hr0,YL _,hb0,by rw [Zot];exact .nil,by rw [Zmp];simp,hJ [] W w0 none h0 hg0 (fun r e=>by cases e)⟩
 case round=>
  obtain ⟨seen,c0,ss,hr,hsc,hbr,hp,hcs,hJs⟩:=hrel
  gi_wp2_with (first
   | (gi_at_next;refine ZdZ rfl _ rfl W.heap.size b clock c0 seen es rfl hr hbr hold hsc ow hnd ?_ ?_)
   | gi_in)
  ·intro hl0
   gi_wp2
   go_end0
   exact ⟨⟨_,rfl⟩,ss,by rw [Zpc hl0] at hp;exact hp,hJs⟩
  ·intro e w2 hN
   obtain ⟨hem,hes⟩:=mem_left hN.left
   obtain ⟨x,hx⟩:=hkv e hem
   have hr2:=hN.it
   have hb2:=hN.mp
   have hen:=hN.entry
   have hlt:=left_shrinks es seen e hN.left
   have hJ2:J ss w2:=hJ ss wr w2 (some W.heap.size) hJs hN.grown (fun r e9=>by cases e9;exact ⟨YL _,_,hr,rfl⟩)
   rw [hx,show ZjO x=(.agg #[.int .i64 x.src,.int .i64 x.dst,.int .i64 x.kind,.int .i64 x.key]) from rfl] at hen
   have hJ3:J ss (w2.alloc (.cells #[.int .i64 x.src,.int .i64 x.dst,.int .i64 x.kind,.int .i64 x.key] 42)):=hJ ss w2 _ none hJ2 (World.grownBy_alloc w2 _ none) (fun r e9=>by cases e9)
   have hr2b:(w2.alloc (.cells #[.int .i64 x.src,.int .i64 x.dst,.int .i64 x.kind,.int .i64 x.key] 42)).heap[W.heap.size]? = _:=(Below.heap_alloc _ _ _ (YT.1 hr2).1).trans hr2
   have hb2b:(w2.alloc (.cells #[.int .i64 x.src,.int .i64 x.dst,.int .i64 x.kind,.int .i64 x.key] 42)).heap[b]? = _:=(Below.heap_alloc _ _ _ (YT.1 hb2).1).trans hb2
   obtain ⟨fn,tmps,assign,body,hy,hR⟩:=hY ss x _ hJ3 ow
   rw [show ZjO x=(.agg #[.int .i64 x.src,.int .i64 x.dst,.int .i64 x.kind,.int .i64 x.key]) from rfl] at hy
   rw [hx,show ZjO x=(.agg #[.int .i64 x.src,.int .i64 x.dst,.int .i64 x.kind,.int .i64 x.key]) from rfl]
   clear hN
   gi_wp2
   refine hR.mono ?_
   rintro e9 W3 ⟨rfl,hJ4,hk3⟩
   gi_wp2
   have hr3:=hk3.same _ _ hr2b rfl
   have hb3:=hk3.same _ _ hb2b rfl
   go_roundw
   case rel=>
    exact ⟨seen.push e.born,clock,ss ++ [x],hr3,YL _,hb3,by
     rw [YK,List.map_singleton]
     have h9:=((ZhX hnd hem hes).map (·.key)).symm
     rw [YQ,hx] at h9
     exact ((List.perm_append_singleton _ _).trans (hp.cons _)).trans h9,by rw [Yd,Yar];omega,hJ4⟩
   case measure=>
    simp only [World.iterSeen,hr3,hr]
    exact hlt
end Go.Proofs.YtlkpllemoepamaaGreat
namespace Go.Proofs.YtlkpllemoepamaaGreat
open Go Go.Gm Tryz
set_option linter.unusedVariables false
set_option linter.unusedSimpArgs false
set_option maxHeartbeats 4000000
set_option maxRecDepth 8000
open Go.RowKit Go.Maps Go.Sort Go.Shelf Go.ChangeMaps Go.MapKept
theorem ZmW (w:World) (l:List Value) (t:TypeId):∀ j u,l[j]? = some u→(w.alloc (.cells l.toArray t)).cell? ((⟨w.heap.size,0,none⟩:Addr).add j)=some u:=by
 intro j u hj
 rw [show (⟨w.heap.size,0,none⟩:Addr).add j = ⟨w.heap.size,j,none⟩ from by cases j <;> simp [Addr.add]]
 rw [ZN (vs:=l.toArray) (T:=t) (fr:=(0,0)) (World.alloc_heap_new w _)]
 simpa using hj
def ZdM : Code := (Code.region 2 #[{ dst := some 5, op := Op.alloc 42, type := 0, pos := "iter.go:51", after := #[], guard := none }, { dst := none, op := Op.store 42 (Operand.tmp 5) (Operand.tmp 7), type := 0, pos := "iter.go:51", after := #[{ on := 0, ground := Ground.data }, { on := 0, ground := Ground.phase }], guard := none }] false)
def Zhf : Code := (Code.block 1 (Code.region 3 #[{ dst := some 8, op := Op.load 31 (Operand.tmp 2), type := 31, pos := "iter.go:52", after := #[], guard := none }, { dst := some 9, op := Op.load 42 (Operand.tmp 5), type := 42, pos := "iter.go:52", after := #[], guard := none }, { dst := some 10, op := Op.buildSlice 31 1 #[(0, Operand.tmp 9)], type := 31, pos := "iter.go:52", after := #[{ on := 1, ground := Ground.data }], guard := none }, { dst := some 11, op := Op.call { callee := Callee.builtin Builtin.append, args := #[Operand.tmp 8, Operand.tmp 10], argTypes := #[31, 31] }, type := 31, pos := "iter.go:52", after := #[{ on := 0, ground := Ground.data }, { on := 2, ground := Ground.data }], guard := none }, { dst := none, op := Op.store 31 (Operand.tmp 2) (Operand.tmp 11), type := 0, pos := "iter.go:52", after := #[{ on := 3, ground := Ground.data }, { on := 3, ground := Ground.chain }, { on := 0, ground := Ground.phase }, { on := 1, ground := Ground.phase }, { on := 2, ground := Ground.phase }, { on := 3, ground := Ground.phase }], guard := none }] false))
def kcApRec (fn:FuncId) (sv:Value) (Bs D:Nat) (st:LoopState) (pend:Option Code):Loop:=
 { state:=st,pending:=pend,fn,tmps:=#[.slice none 0 0,sv,.pointer (some ⟨Bs,0,none⟩),undef,.slice none 0 0,undef,sv,undef,undef,undef,undef,undef,undef],params:=#[7],assign:=ZdM,body:=Zhf,defers:=D }
structure Zgz (w0:World) (fn:FuncId) (sv:Value) (Bs l D:Nat) (ss:List Ze) (W:World):Prop where
 box:∃ v,W.heap[Bs]? = some (.cells #[v] 31 (0,0))∧W.ownsRow w0.heap.size 42 4 v ss.length (ss.flatMap Zpn)∧(v = .slice none 0 0 ↔ ss = [])
 L:W.heap[l]? = some (.loop (kcApRec fn sv Bs D .ready none))
 K:W.heap[D]? = some (.deferred (some []))
 below:Below w0.heap.size w0 W
theorem ZeZ (w0:World) (fn:FuncId) (sv:Value) (Bs l D B:Nat) (Z:w0.heap.size≤B):AbidesFrom B (Zgz w0 fn sv Bs l D):=fun s W W' row h hg hrow=>by
 have hrow':∀ r,row=some r → ∃ o:Obj,W.heap[r]? = some o∧o.isWalk=true:=fun r e=>(hrow r e).2
 obtain ⟨v,hv,hr,hn⟩:=h.box
 exact ⟨⟨v,(grownBy_keeps hg hrow' hv rfl).trans hv,ownsRow_abides_a hr hg hrow',hn⟩,(grownBy_keeps hg hrow' h.L rfl).trans h.L,(grownBy_keeps hg hrow' h.K rfl).trans h.K,
  h.below.grown hg h.below.size (fun k e=>Y6 Z (hrow k e).1)⟩
set_option maxRecDepth 100000 in
set_option maxHeartbeats 2000000 in
theorem Zl5 (F:Fence) (m:Nat) (w0:World) (fn:FuncId) (hfn:F.fn fn) (sv:Value) (Bs l D:Nat) (hBl:Bs≠l) (hDl:D≠l) (hDB:D≠Bs) (h0B:w0.heap.size≤Bs) (h0l:w0.heap.size≤l)
   (N:Nat) (hN:N≤maxLen) (hNb:N*32≤140737488355328) (ss:List Ze) (x:Ze) (W:World) (h:Zgz w0 fn sv Bs l D ss W) (hlen:ss.length<N) :
   YieldAt F m prog l #[(.agg #[.int .i64 x.src,.int .i64 x.dst,.int .i64 x.kind,.int .i64 x.key])] W fun e W'=>e = .returned (.bool true)∧Zgz w0 fn sv Bs l D (ss ++ [x]) W' ∧ KeepsWalks W W':=by
 have hne:31≠42:=by decide
 obtain ⟨i0,hi,hz0,hz1,hz2⟩:=info_parts (show (prog.info? 42).map (fun i=>(i.zero,i.size,i.bytes))=some (some (.agg #[.int .i64 0,.int .i64 0,.int .i64 0,.int .i64 0]),4,32) from by kernel_rfl)
 obtain ⟨v,hv,hrow,_⟩:=h.box
 refine ⟨fn,#[.slice none 0 0,sv,.pointer (some ⟨Bs,0,none⟩),undef,.slice none 0 0,undef,sv,(.agg #[.int .i64 x.src,.int .i64 x.dst,.int .i64 x.kind,.int .i64 x.key]),undef,undef,undef,undef,undef],ZdM,Zhf,by simpa [kcApRec] using run_yield (P:=prog) (args:=#[(.agg #[.int .i64 x.src,.int .i64 x.dst,.int .i64 x.kind,.int .i64 x.key])]) h.L rfl,roundIn_of_wpIn hfn ?_⟩
 have hb9:Zgz w0 fn sv Bs l D ss (W.alloc (.cells #[.int .i64 x.src,.int .i64 x.dst,.int .i64 x.kind,.int .i64 x.key] 42)):=ZeZ w0 fn sv Bs l D w0.heap.size (YL _) ss W _ none h (World.grownBy_alloc W _ none) (fun r e=>by cases e)
 obtain ⟨v,hv,hrow,_⟩:=hb9.box
 have hl:l<(W.alloc (.cells #[.int .i64 x.src,.int .i64 x.dst,.int .i64 x.kind,.int .i64 x.key] 42)).heap.size:=(YT.1 hb9.L).1
 have hbr:=run_beginRound (P:=prog) hb9.L rfl
 obtain ⟨W2,hW2⟩:∃ W2,(W.alloc (.cells #[.int .i64 x.src,.int .i64 x.dst,.int .i64 x.kind,.int .i64 x.key] 42)).putObj l (.loop { kcApRec fn sv Bs D .ready none with state:=.busy })=W2:=⟨_,rfl⟩
 rw [hW2] at hbr
 have hg2:(W.alloc (.cells #[.int .i64 x.src,.int .i64 x.dst,.int .i64 x.kind,.int .i64 x.key] 42)).grownBy W2 (some l):=by rw [← hW2];exact grownBy_putObj_a _ _ _
 have hk2:KeepsWalks (W.alloc (.cells #[.int .i64 x.src,.int .i64 x.dst,.int .i64 x.kind,.int .i64 x.key] 42)) W2:=by rw [← hW2];exact KeepsWalks.putObj _ hb9.L rfl
 have hv2:W2.heap[Bs]? = some (.cells #[v] 31 (0,0)):=by rw [← hW2];exact (World.putObj_heap_other hBl).trans hv
 have hK2:W2.heap[D]? = some (.deferred (some [])):=by rw [← hW2];exact (World.putObj_heap_other hDl).trans hb9.K
 have hL2:W2.heap[l]? = some (.loop { kcApRec fn sv Bs D .ready none with state:=.busy }):=by rw [← hW2];exact World.putObj_heap_same hl
 have hrow2:W2.ownsRow w0.heap.size 42 4 v ss.length (ss.flatMap Zpn):=hrow.kept hg2 (ownsRow_ne_a hrow hb9.L (fun cur e=>by first | cases e | exact hne (Ybu e).2.1))
 have hb2:Below w0.heap.size w0 W2:=hb9.below.grown hg2 hb9.below.size (fun k e=>by cases e;exact h0l)
 obtain ⟨hc2,hf2⟩:=cell_of_box_a hv2
 have hBlt:Bs<W2.heap.size:=(YT.1 hv2).1
 have hl2:l<W2.heap.size:=(YT.1 hL2).1
 have hDlt:D<W2.heap.size:=(YT.1 hK2).1
 have ne_of:∀ {j:Nat} {o:Obj},W2.heap[j]? = some o→(∀ cur,o ≠ .cells cur 42 (0,0))→some j≠v.ownBlock:=fun hj hno=>by
   rcases ownsRow_ne_a hrow2 hj hno with e | e
   · rw [e];simp
   · exact fun e'=>e e'.symm
 have hx2:W2.heap[W.heap.size]? = some (.cells #[.int .i64 x.src,.int .i64 x.dst,.int .i64 x.kind,.int .i64 x.key] 42 (0,0)):=by rw [← hW2];exact (World.putObj_heap_other (by have:=(YT.1 h.L).1;omega)).trans (World.alloc_heap_new W _)
 have cb0:W2.cell? ⟨W.heap.size,0,none⟩ = some _:=(ZN hx2 _).trans rfl
 have cb1:W2.cell? ⟨W.heap.size,1,none⟩ = some _:=(ZN hx2 _).trans rfl
 have cb2:W2.cell? ⟨W.heap.size,2,none⟩ = some _:=(ZN hx2 _).trans rfl
 have cb3:W2.cell? ⟨W.heap.size,3,none⟩ = some _:=(ZN hx2 _).trans rfl
 clear hW2
 unfold ZdM
 gi_wp2_with gi_round_op_a
 unfold Zhf
 gi_wp2_with (first
   | (gi_at_builtin;refine wpListIn_append_own _ rfl _ _ 31 rfl w0.heap.size 42 i0 (.agg #[.int .i64 0,.int .i64 0,.int .i64 0,.int .i64 0]) 4 32 Yb0 hi hz0 hz1 hz2 rfl (by decide) _ _ _ rfl (hrow2.alloc _) ⟨W2.heap.size,0,none⟩ 1 1 ([.int .i64 x.src,.int .i64 x.dst,.int .i64 x.kind,.int .i64 x.key]) rfl rfl (ZmW _ _ _) (ZpZ x) ow ow (by have:=hb2.size;simp;omega) ?_;intro v' w3 hown' hg3 hnil3
      have hv3:w3.heap[Bs]? = some (.cells #[v] 31 (0,0)):=(hg3.block Bs (by simp;omega) (ne_of hv2 (fun cur e=>by first | cases e | exact hne (Ybu e).2.1))).trans ((Below.heap_alloc _ _ Bs hBlt).trans hv2)
      obtain ⟨hc3,hf3⟩:=cell_of_box_a hv3
      obtain ⟨g',cap',cur',rfl,hbase',hgb',hr1,hr2,hr3,hr4⟩:∃ g' cap' cur',v' = .slice (some ⟨g',0,none⟩) (ss.length+1) cap' ∧ w0.heap.size≤g' ∧ w3.heap[g']? = some (.cells cur' 42 (0,0))∧ss.length+1≤cap' ∧ cap' ≤ maxLen∧cur'.size=cap' * 4∧cur'.toList.take ((ss.length+1)*4)=ss.flatMap Zpn ++ [.int .i64 x.src,.int .i64 x.dst,.int .i64 x.kind,.int .i64 x.key]:=by
        rcases hown'.2 with ⟨_,h0⟩ | h'
        · exact absurd h0 ow
        · exact h'
      go_frame)
   | gi_round_op_a)
 have hg3':(W2.alloc (.cells ([.int .i64 x.src,.int .i64 x.dst,.int .i64 x.kind,.int .i64 x.key]).toArray 42)).grownBy w3 v.ownBlock:=hg3
 have hL3:w3.heap[l]? = some (.loop { kcApRec fn sv Bs D .ready none with state:=.busy }):=(hg3'.block l (by simp;omega) (ne_of hL2 (fun cur e=>by first | cases e | exact hne (Ybu e).2.1))).trans ((Below.heap_alloc _ _ l hl2).trans hL2)
 have hK3:w3.heap[D]? = some (.deferred (some [])):=(hg3'.block D (by simp;omega) (ne_of hK2 (fun cur e=>by first | cases e | exact hne (Ybu e).2.1))).trans ((Below.heap_alloc _ _ D hDlt).trans hK2)
 obtain ⟨w4,hw4⟩:∃ w4,w3.setCell ⟨Bs,0,none⟩ (.slice (some ⟨g',0,none⟩) (ss.length+1) cap')=w4:=⟨_,rfl⟩
 rw [hw4]
 have hg4:w3.grownBy w4 (some Bs):=by rw [← hw4];exact grownBy_setCell0_a _ _ _
 have hv4:w4.heap[Bs]? = some (.cells #[.slice (some ⟨g',0,none⟩) (ss.length+1) cap'] 31 (0,0)):=by rw [← hw4];exact heap_setCell_box_a _ hv3
 have hL4:w4.heap[l]? = some (.loop { kcApRec fn sv Bs D .ready none with state:=.busy }):=(hg4.block l (YT.1 hL3).1 (fun e=>hBl (by cases e;rfl))).trans hL3
 have hK4:w4.heap[D]? = some (.deferred (some [])):=(hg4.block D (YT.1 hK3).1 (fun e=>hDB (by cases e;rfl))).trans hK3
 have hrow4:=hown'.kept hg4 (ownsRow_ne_a hown' hv3 (fun cur e=>by first | cases e | exact hne (Ybu e).2.1))
 have hl4:l<w4.heap.size:=(YT.1 hL4).1
 have hb3:Below w0.heap.size w0 w3:=(hb2.alloc hb2.size _).grown hg3' (by have:=hb2.size;simp;omega) (fun k e=>(hrow2.lt k e).1)
 have hb4:Below w0.heap.size w0 w4:=hb3.grown hg4 hb3.size (fun k e=>by cases e;exact h0B)
 have hk4:KeepsWalks (W.alloc (.cells #[.int .i64 x.src,.int .i64 x.dst,.int .i64 x.kind,.int .i64 x.key] 42)) w4:=((hk2.trans (KeepsWalks.alloc _ _)).trans (KeepsWalks.of_grownBy hg3' (ownsRow_not_walk_a (hrow2.alloc _)))).trans (by rw [← hw4];exact KeepsWalks.setCell _ _ _)
 clear hw4
 refine ⟨_,_,run_endRound none hL4,rfl,⟨⟨_,(World.putObj_heap_other hBl).trans hv4,?_,by simp⟩,World.putObj_heap_same hl4,(World.putObj_heap_other hDl).trans hK4,hb4.grown (grownBy_putObj_a _ _ _) hb4.size (fun k e=>by cases e;exact h0l)⟩,((KeepsWalks.alloc _ _).trans hk4).trans (KeepsWalks.putObj _ hL4 rfl)⟩
 have:=hrow4.kept (grownBy_putObj_a w4 l (.loop { { kcApRec fn sv Bs D .ready none with state:=.busy } with state:=if (none:Option Code).isNone then .ready else .done,pending:=none })) (ownsRow_ne_a hrow4 hL4 (fun cur e=>by first | cases e | exact hne (Ybu e).2.1))
 rw [YS,show [x].flatMap Zpn = [.int .i64 x.src,.int .i64 x.dst,.int .i64 x.kind,.int .i64 x.key] from rfl,Yd]
 simpa using this
set_option maxRecDepth 100000 in
set_option maxHeartbeats 2000000 in
theorem ZfR (F:Fence) (n:Nat) (h11:F.fn 176) (hro:F.round=none) (hn:2≤n) (g:Nat) (lb:Array Value) (hFg:F.fn g) (eg:∀ args w,(callFunc g args).run prog w = .ok (.enter g args) w)
  (S:List Ze→Prop) (N:Nat) (hN:N≤maxLen) (hNb:N*32≤140737488355328) (w:World) (hseq:SeqGives F (n - 1) prog g lb ZjO S N w) :
  CallsIn F n prog 176 #[.slice none 0 0,.func (.func g) #[] lb] w fun e w'=>∃ (v:Value) (ss:List Ze),e = .returned v∧S ss∧w'.ownsRow w.heap.size 42 4 v ss.length (ss.flatMap Zpn)∧(v = .slice none 0 0 ↔ ss = [])∧Below w.heap.size w w':=by
 have h1:1≤n:=by omega
 have hne:31≠42:=by decide
 refine callsIn_of_wp_marks func176 rfl h11 ?_ hro
 simp only [ntmps176,Yaw,Yl,Yy,Nat.reduceAdd,Nat.reduceSub,Array.replicate_succ,Array.replicate_zero,List.push_toArray,List.append_toArray,Yam,Yal]
 gi_wp2
 refine wpIn_rangeFunc ?_
 intro fn hfn
 rw [hro]
 obtain ⟨W0,hW0⟩:∃ W0,w.alloc (.cells #[.slice none 0 0] 31)=W0:=⟨_,rfl⟩
 have hs0:W0.heap.size=w.heap.size+1:=by rw [← hW0];simp
 have hv0:W0.heap[w.heap.size]? = some (.cells #[.slice none 0 0] 31 (0,0)):=by rw [← hW0];exact World.alloc_heap_new w _
 have hb0:Below w.heap.size w W0:=by rw [← hW0];exact (Below.refl _ w).alloc (YL _) _
 rw [hW0]
 obtain ⟨W1,hW1⟩:∃ W1,(W0.alloc (.deferred (some []))).alloc (.loop (kcApRec fn (.func (.func g) #[] lb) w.heap.size W0.heap.size .ready none))=W1:=⟨_,rfl⟩
 have hold:∀ k,k<W0.heap.size→W1.heap[k]? = W0.heap[k]?:=fun k hk=>by
  rw [← hW1];exact (Below.heap_alloc _ _ k (by simp;omega)).trans (Below.heap_alloc _ _ k hk)
 have hb1:Below w.heap.size w W1:=by rw [← hW1];exact (hb0.alloc hb0.size _).alloc (by have:=hb0.size;simp;omega) _
 have hs1:W1.heap.size=W0.heap.size+2:=by rw [← hW1];simp
 have hM:Zgz w fn (.func (.func g) #[] lb) w.heap.size (W0.heap.size+1) W0.heap.size [] W1:=
  ⟨⟨_,(hold w.heap.size ow).trans hv0,⟨rfl,.inl ⟨rfl,rfl⟩⟩,by simp⟩,
   by rw [← hW1];have:=World.alloc_heap_new (W0.alloc (.deferred (some []))) (.loop (kcApRec fn (.func (.func g) #[] lb) w.heap.size W0.heap.size .ready none));rwa [World.size_alloc] at this,
   by rw [← hW1];exact (Below.heap_alloc _ _ _ (by simp)).trans (World.alloc_heap_new W0 _),hb1⟩
 refine ⟨W0.heap.size+1,[{ target:=.collected W0.heap.size,args:=#[] }],W1,{ target:=.fn (.func g) lb,args:=#[.func (.yield (W0.heap.size+1)) #[] #[]] },W1,g,
  #[.func (.yield (W0.heap.size+1)) #[] #[]] ++ lb,W1,?_,?_,?_,?_,fun _=>h1,?_⟩
 ·rw [← hW1];exact run_enterLoop_outer _ _ _ _ _
 ·simp [resolve,go_sem]
 ·intro f' hf';simp [Target.leads] at hf';subst hf';exact hFg
 ·simp [invoke,go_sem,eg]
 ·refine (hseq (W0.heap.size+1) (Zgz w fn (.func (.func g) #[] lb) w.heap.size (W0.heap.size+1) W0.heap.size) W1 hb1 (ZeZ _ _ _ _ _ _ _ hb1.size)
    (fun pre x W hJ hl=>Zl5 F (n - 1 - 1) w fn hfn _ w.heap.size (W0.heap.size+1) W0.heap.size ow ow ow (YL _) ow N hN hNb pre x W hJ hl) hM).mono ?_
  rintro e W2 ⟨⟨v0,rfl⟩,ss,G,h2⟩
  obtain ⟨v,hv,hrow,hnil⟩:=h2.box
  have hend:=run_endLoop (P:=prog) h2.L (by simp [kcApRec])
  obtain ⟨W3,hW3⟩:∃ W3,W2.putObj (W0.heap.size+1) (.loop { kcApRec fn (.func (.func g) #[] lb) w.heap.size W0.heap.size .ready none with state:=.exhausted })=W3:=⟨_,rfl⟩
  rw [hW3] at hend
  have hg3:W2.grownBy W3 (some (W0.heap.size+1)):=by rw [← hW3];exact grownBy_putObj_a _ _ _
  have hv3:W3.heap[w.heap.size]? = some (.cells #[v] 31 (0,0)):=by rw [← hW3];exact (World.putObj_heap_other ow).trans hv
  have hK3:W3.heap[W0.heap.size]? = some (.deferred (some [])):=by rw [← hW3];exact (World.putObj_heap_other ow).trans h2.K
  have hrow3:=hrow.kept hg3 (ownsRow_ne_a hrow h2.L (fun cur e=>by first | cases e | exact hne (Ybu e).2.1))
  have hb3:Below w.heap.size w W3:=h2.below.grown hg3 h2.below.size (fun k e=>by cases e;omega)
  obtain ⟨hc3,hf3⟩:=cell_of_box_a hv3
  clear hW3
  refine ⟨none,W3,hend,?_⟩
  gi_wp2
  rw [← hs0]
  refine ⟨by simp,.inl ⟨_,_,rfl,run_takeDeferred hK3,?_⟩⟩
  exact ⟨_,results_tmp rfl _ _ _,v,ss,rfl,G,hrow3.kept (grownBy_putObj_a _ _ _) (ownsRow_ne_a hrow3 hK3 (fun cur e=>by first | cases e | exact hne (Ybu e).2.1)),hnil,hb3.grown (grownBy_putObj_a _ _ _) hb3.size (fun k e=>by cases e;omega)⟩
set_option maxHeartbeats 1000000 in
theorem Ziw (F:Fence) (n:Nat) (h8:F.fn 133) (h11:F.fn 176) (hro:F.round=none) (hn:3≤n) (g:Nat) (lb:Array Value) (hFg:F.fn g) (eg:∀ args w,(callFunc g args).run prog w = .ok (.enter g args) w)
  (S:List Ze→Prop) (N:Nat) (hN:N≤maxLen) (hNb:N*32≤140737488355328) (w:World) (hseq:SeqGives F (n - 1 - 1) prog g lb ZjO S N w) :
  CallsIn F n prog 133 #[.func (.func g) #[] lb] w fun e w'=>∃ (v:Value) (ss:List Ze),e = .returned v∧S ss∧w'.ownsRow w.heap.size 42 4 v ss.length (ss.flatMap Zpn)∧(v = .slice none 0 0 ↔ ss = [])∧Below w.heap.size w w':=by
 have h1:1≤n:=by omega
 have e11:∀ args w,(callFunc 176 args).run prog w = .ok (.enter 176 args) w:=enters_of func176 kr rfl
 refine callsIn_of_wp func133 rfl h8 ?_ hro
 simp only [ntmps133,Yaw,Yl,Yy,Nat.reduceAdd,Nat.reduceSub,Array.replicate_succ,Array.replicate_zero,List.push_toArray,List.append_toArray,Yam,Yal]
 gi_wp2_with (gi_at_fn 176;refine (ZfR F (n - 1) h11 hro ow g lb hFg eg S N hN hNb _ hseq).mono ?_;rintro e w' ⟨v,ss,rfl,G,hrow,hnil,hb⟩)
 go_ret
 exact ⟨v,ss,rfl,G,hrow,hnil,hb⟩
end Go.Proofs.YtlkpllemoepamaaGreat
namespace Go.Proofs.YtlkpllemoepamaaGreat
open Go Go.Gm Tryz
set_option linter.unusedVariables false
set_option linter.unusedSimpArgs false
set_option maxHeartbeats 4000000
set_option maxRecDepth 8000
open Go.RowKit Go.Maps Go.Sort Go.Shelf Go.ChangeMaps Go.MapKept
theorem Zpf {α:Type} {enc:α→Value} {dec:Value→α} (h:∀ x,dec (enc x)=x) {l m:List α} (hp:(l.map enc).Perm (m.map enc)):l.Perm m:=by
 have h1:=hp.map dec
 rw [Ybc,Ybc] at h1
 have e:dec ∘ enc=id:=by funext x;exact h x
 rwa [e,List.map_id,List.map_id] at h1
theorem Zjj {ν:Type} (ek:ν→PV) (mv:Value) (es:List (GE Ze ν)) (ck:Nat) (hN:es.length≤1000000000):FnG prog 133 2 [.clos 177 [.ref [.is mv]]] [Zbt ek (fun k=>∀ x ∈ Zag k,inR .i64 x) (kvS Zag) es ck mv,.star []] PV.one (fun v=>[Zbt ek (fun k=>∀ x ∈ Zag k,inR .i64 x) (kvS Zag) es ck mv,.ex fun l:List Ze=>.and (l.Perm (es.map (·.key))) (ZA 42 4 Zn l v)]):=fun w F vs hw hle hvs hpr=>by
 match vs,hvs with
 | [fv],hvs=>
  obtain ⟨caps,hfv,hcaps⟩:=hvs.1
  match caps,hcaps with
  | [cu],hcaps=>
   obtain ⟨Bm,off,us,hcu,hny,hBm,hc,hus⟩:=hcaps.1
   match us,hus with
   | [mu],hus=>
    have hmu:mu=mv:=hus.1.2.1
    subst hmu
    subst hcu
    subst hfv
    obtain ⟨b,rs,hmv,hb,hg,⟨hwf,hkeys⟩,hf⟩:=hpr 0 _ rfl
    have hst:∀ c,¬ F 2 c:=hpr 1 _ rfl
    subst hmv
    have hbl:b<w.heap.size:=(YT.1 hb).1
    have hm:w.cell? ⟨Bm,off,none⟩ = some (.map (some b)):=hc.1
    have hkm:rs.map (·.key)=es.map (·.key):=hg.keys
    have hbm:rs.map (·.born)=es.map (·.born):=hg.borns
    have hnd:(((rs.map (rEnc (kvS Zag))).toArray).toList.map (·.born)).Nodup:=by
     have e1:((rs.map (rEnc (kvS Zag))).toArray).toList.map (·.born)=rs.map (·.born):=by rw [Ybc];rfl
     rw [e1,hbm];exact hwf.1
    have hold:∀ x ∈ ((rs.map (rEnc (kvS Zag))).toArray).toList,x.born<ck:=fun x hx=>by
     obtain ⟨r,hr,rfl⟩:=Yv.1 hx
     have h1:r.born ∈ es.map (·.born):=hbm ▸ Yv.2 ⟨r,hr,rfl⟩
     obtain ⟨e,he,e1⟩:=Yv.1 h1
     show r.born<ck
     rw [← e1];exact hwf.2 e he
    have hkv:∀ x ∈ ((rs.map (rEnc (kvS Zag))).toArray).toList,∃ k:Ze,x.key=ZjO k:=fun x hx=>by
     obtain ⟨r,_,rfl⟩:=Yv.1 hx
     exact ⟨r.key,rfl⟩
    have hlen:((rs.map (rEnc (kvS Zag))).toArray).size=es.length:=by
     have h1:=Y1 List.length hkm
     simp at h1 ⊢;exact h1
    have hseq:SeqGives Fence.wide 10 prog 177 #[.pointer (some ⟨Bm,off,none⟩)] ZjO (fun ss=>(ss.map ZjO).Perm (((rs.map (rEnc (kvS Zag))).toArray).toList.map (·.key))) ((rs.map (rEnc (kvS Zag))).toArray).size w:=fun l J W hW hJ hY h0=>
     Zsg Fence.wide 10 trivial rfl ow l Bm off b ck _ hnd hold hkv J hY W hJ ((hW.cell (p:=⟨Bm,off,none⟩) hBm).trans hm) ((hW.block b hbl).trans hb) h0
    have eg:∀ args w,(callFunc 177 args).run prog w = .ok (.enter 177 args) w:=enters_of func177 kr rfl
    have hcalls:=callsIn_wide.1 (Ziw Fence.wide 12 trivial trivial rfl ow 177 #[.pointer (some ⟨Bm,off,none⟩)] trivial eg _ _ (by rw [hlen];unfold maxLen;omega) (by rw [hlen];omega) w hseq)
    refine hcalls.mono ?_
    rintro e w' ⟨v,ss,rfl,G,hrow,hnil,hbel⟩
    have hss:ss.Perm (es.map (·.key)):=by
     have e1:((rs.map (rEnc (kvS Zag))).toArray).toList.map (·.key)=(es.map (·.key)).map ZjO:=by
      rw [← hkm,Ybc,Ybc];rfl
     rw [e1] at G
     exact Zpf Zpx G
    have hown:∀ c,v.ownBlock=some c→w.heap.size≤c∧c<w'.heap.size:=fun c hc9=>by
     rcases hrow.2 with ⟨rfl,_⟩ | ⟨g,cap,cur,rfl,hbase,hgb,_⟩
     ·simp [Value.ownBlock] at hc9
     ·simp [Value.ownBlock] at hc9
      subst hc9
      exact ⟨hbase,(YT.1 hgb).1⟩
    have hrow0:w'.ownsRow 0 42 4 v ss.length (ss.flatMap Zpn):=⟨hrow.1,by
     rcases hrow.2 with h | ⟨g,cap,cur,h1,_,h3⟩
     ·exact .inl h
     ·exact .inr ⟨g,cap,cur,h1,Yw _,h3⟩⟩
    have hst2:Stp (List.range' 1 2) w F w' (fun n c=>F n c∨(n=2∧v.ownBlock=some c)):=⟨hbel.os,hbel.tape,hbel.output,hbel.size,fun c hc9 _=>hbel.block c hc9,fun n hn=>by
      funext c
      have:n≠2:=fun e=>hn (by subst e;simp)
      simp [this],fun n hn c hc9=>by
      rcases hc9 with h | ⟨_,h⟩
      ·exact .inl ⟨n,hn,h⟩
      ·exact .inr (hown c h).1⟩
    refine ⟨v,_,rfl,⟨fun n m c h1 h2=>?_,fun n c h1=>?_⟩,hst2,fun n c h1=>?_,?_,fun i h hi=>?_⟩
    ·rcases h1 with h1 | ⟨h1,h1'⟩ <;> rcases h2 with h2 | ⟨h2,h2'⟩
     ·exact hw.dis n m c h1 h2
     ·have:=hw.bd n c h1;have:=(hown c h2').1;omega
     ·have:=hw.bd m c h2;have:=(hown c h1').1;omega
     ·omega
    ·rcases h1 with h1 | ⟨_,h1⟩
     ·have:=hw.bd n c h1;have:=hbel.size;omega
     ·exact (hown c h1).2
    ·rcases h1 with h1 | ⟨h1,_⟩
     ·exact hle n c h1
     ·omega
    ·show v.oneCell' = true
     rcases hrow.2 with ⟨rfl,_⟩ | ⟨g,cap,cur,rfl,_⟩ <;> rfl
    ·match i,hi with
     | 0,hi=>
      simp only [Ybs,Y0] at hi
      subst hi
      exact ⟨b,rs,rfl,(hbel.block b hbl).trans hb,hg.mono hst2.ev,⟨hwf,hkeys⟩,fun c=>by rw [← hf c];simp⟩
     | 1,hi=>
      simp only [List.getElem?_cons_succ,Ybs,Y0] at hi
      subst hi
      refine ⟨ss,hss,ss.flatMap Zpn,hrow0,Zm3 fun x hx=>?_,fun c=>?_⟩
      ·obtain ⟨e,he,e1⟩:=Yv.1 (hss.mem_iff.1 hx)
       rw [← e1];exact hkeys e he
      ·have:=hst c
       simp [this]
end Go.Proofs.YtlkpllemoepamaaGreat
namespace Go.Proofs.YtlkpllemoepamaaGreat
open Go Go.Gm Tryz
set_option linter.unusedVariables false
set_option linter.unusedSimpArgs false
set_option maxHeartbeats 4000000
set_option maxRecDepth 8000
theorem Zsc (mv:Value):FnP prog 134 [.is mv] (.clos 177 [.ref [.is mv]]):=by
 refine FnP.mk func134 rfl ntmps134 rfl fun B a w F Z hfr G=>Ya ?_
 refine Zb G (qf (Znb 101 .t one_is) r1 qz (qC qZ)) Z [2,1] [101,0] (fun _=>rfl) (fun _=>rfl) fun τ a w F G=>?_
 try dsimp only [RS.sub,SF.sub,CF.sub,csub,Anc.sub,List.map,zCF,Zx,rTx,ZV,ZQ,Zo,rOp] at G
 generalize τ 1=v1 at G
 obtain ⟨F,G⟩:=G.giveRef 101 1 rfl rfl rfl
 obtain ⟨F,G⟩:=G.nM [2,1] [0]
 try dsimp only [Go.Gm.unCF] at G
 refine Za (Ya (rZ G (qf (Zbk (Args.one .t)) r1 qz (qO rr qZ)) Z [2] [0] fun G=>Yh ?_))
 refine Zw hfr G rfl rfl rfl .refl
theorem ZhW (l:List Ze):(Zbv ltE l).length≤l.length:=by
 have key:∀ (l acc:List Ze),(l.foldl (ZkX ltE) acc).length≤acc.length+l.length:=by
  intro l
  induction l with
  | nil=>intro acc;simp
  | cons e l ih=>
   intro acc
   rw [Yav,Yl]
   have h1:=ih (ZkX ltE acc e)
   have h2:(ZkX ltE acc e).length≤acc.length+1:=Zir ltE e acc false
   omega
 have:=key l []
 unfold Zbv
 simpa using this
theorem Ztc (mv:Value) (AA:List (Ze×Int)) (RR:List Ze) (hAR:AA.length+RR.length≤1000000):FnG prog 77 1 [.is mv] [ZeI AA RR mv] (.sl rHv (Zgr AA RR)) (fun _=>[ZeI AA RR mv]):=by
 refine FnG.mk func77 rfl ntmps77 rfl kr fun B F0 a w F Z hG G=>?_
 obtain ⟨⟨es,ck⟩,G⟩:=G.open_ex 1 rfl
 obtain ⟨hE,G⟩:=G.open_and 1 rfl
 replace G:=G.turn 1 rfl (r':=.ob (.val mv) (Zbt (fun n:Int=>PV.int .i64 n) (fun k=>∀ x ∈ Zag k,inR .i64 x) (kvS Zag) es ck)) (fun _ _ _ _ h=>h)
 try dsimp only at hE
 obtain ⟨F,G⟩:=G.nM [0] [1,0]
 refine Ya (rZ G (qC qZ) Z [2,0] [1,0] fun G=>Ya ?_)
 refine rZ G (qC qZ) Z [3,2,0] [1,0] fun G=>(Ya (Ya ?_))
 replace G:=G.fresh 60 rfl
 replace G:=G.turn 1 rfl (r':=RS.hp (Zbt (fun n:Int=>PV.int .i64 n) (fun k=>∀ x ∈ Zag k,inR .i64 x) (kvS Zag) es ck mv)) (fun _ _ _ _ h=>h)
 obtain ⟨F,G⟩:=G.nM [3,2,0] [60,1,0]
 refine Zbj 3 G kr (cG rfl (oM .t) r1 trivial (cG rfl (oP (Zsc mv) func134 (Args.one .t)) r1 trivial (cG rfl (Zou 1 60 (Zjj (fun n:Int=>PV.int .i64 n) mv es ck (by have:=hE.len;omega)) func133 rfl kr rfl (Args.one .t) pvOne1) r1 r2 Zai.nil))) kr (by rw [Z];kernel_rfl) fun a w F G=>?_
 replace G:=G.sub
 obtain ⟨F,G⟩:=G.nM [8,3,2,0] [60,1,0]
 try dsimp only [RS.sub,SF.sub,CF.sub,csub,Anc.sub,List.map,Zx,rTx,ZV,ZQ,Zo,rOp,Zn,rHv] at G
 generalize Act.tau a 8=v8 at G
 replace G:=G.turn 60 rfl (r':=RS.hp (HP.ex fun l:List Ze=>HP.and (l.Perm (es.map fun z:GE Ze Int=>z.key)) (ZA 42 4 Zn l v8))) (fun _ _ _ _ h=>h)
 obtain ⟨ks,G⟩:=G.open_ex 60 rfl
 obtain ⟨hks,G⟩:=G.open_and 60 rfl
 replace G:=G.turn 60 rfl (r':=.ob (.val v8) (ZA 42 4 Zn ks)) (fun _ _ _ _ h=>h)
 have hkl:ks.length≤1000000:=by have h1:=hks.length_eq;have h2:=hE.len;rw [YF] at h1;omega
 replace G:=G.turn 1 rfl (r':=.ob (.val mv) (Zbt (fun n:Int=>PV.int .i64 n) (fun k=>∀ x ∈ Zag k,inR .i64 x) (kvS Zag) es ck)) (fun _ _ _ _ h=>h)
 obtain ⟨F,G⟩:=G.give 60 8 rfl rfl
 obtain ⟨F,G⟩:=G.nM [8,3,2,0] [1,0]
 refine Zb0 G kr (cG rfl (oP (Zpe ks hkl) func132 (Args.one .t)) r1 trivial (cG rfl (Zbe Yb0 .t) r1 trivial (cG rfl (oM (.ci kr)) trivial trivial Zai.nil))) kr (by rw [Z];kernel_rfl) fun a w F G=>?_
 obtain ⟨F,G⟩:=G.nM [11,10,9,3,2,0] [1,0]
 try dsimp only [Zx,rTx,ZV,ZQ,Zo,rOp,Zn,rHv] at G
 rw [Zfc hE hks] at G
 have hkn:(Zbv ltE (ZgJ AA RR)).length≤1000000:=by rw [← Zfc hE hks];exact Y6 (ZhW ks) hkl
 refine Za (Yg ?_)
 replace G:=G.fresh 50 rfl
 replace G:=G.turn 50 rfl (ZaP (T:=125) (sz:=5) (R:=rHv))
 refine Zl (σ:=(Nat)×(Value)×(List HvD)) [0,2,9,10] [0,1] (fun s=>[(11,.pv (.int .i64 (s.1:Int))),(3,.pv (.is s.2.1))]) (fun s=>[(50,.ob (.val s.2.1) (ZA 125 5 rHv s.2.2))]) (fun s=>s.1≤(Zbv ltE (ZgJ AA RR)).length∧(s.2.2=((Zbv ltE (ZgJ AA RR)).take s.1).map fun e=>(⟨e,cntA AA RR e⟩:HvD))) (fun s=>(Zbv ltE (ZgJ AA RR)).length - s.1) ((0),(.slice none 0 0),([])) G ⟨rfl,rfl,rfl,rfl,rfl,rfl,tv⟩ ⟨rfl,rfl,rfl,tv⟩ ⟨Yw _,rfl⟩ ?_
 clear G;intro s a w F hC G
 obtain ⟨i,v,out⟩:=s
 try dsimp only at hC
 obtain ⟨F,G⟩:=G.nM [11,10,9,3,2,0] [50,1,0]
 try dsimp only at G
 obtain ⟨hi,hq⟩:=hC
 have hol:out.length≤i:=by rw [hq,YF,Yj];omega
 refine Ya (rZ G (qL r2) Z [12,11,10,9,3,2,0] [50,1,0] fun G=>Ya ?_)
 refine Zc G rfl (fun hc0=>?_) (fun hc0=>?_)
 ·have hil:i<(Zbv ltE (ZgJ AA RR)).length:=by simp at hc0;omega
  refine Yf (Za (Ya (Yg (Ya (Zb G (qy 4 Yb0 r2 (qf (oR true 4 .t) r1 qz (qf (oH [.int .i64 0,.int .i64 0,.int .i64 0,.int .i64 0] 101) trivial qz (qS 4 101 r2 r1 qZ)))) Z [11,10,9,5,3,2,0] [101,50,1,0] (fun _=>rfl) (fun _=>rfl) fun τ a w F G=>?_)))))
  try dsimp only [RS.sub,SF.sub,CF.sub,csub,Anc.sub,List.map,Zf,xL,xM,Nat.reduceAdd,xD,xE,xT,xU,xC,xN,zCF,ldSF,Zx,rTx,ZV,ZQ,Zo,rOp,Zn,rHv] at G
  generalize τ 5=v5 at G
  try simp only [Yc] at G
  refine Za (ZbI G (qR rr (qe 4 101 r1 r1 (qR rr (qe 4 101 r1 r1 (qf (Zae (ek:=(fun n:Int=>PV.int .i64 n)) (z0:=(0)) 1 Ycb ZcR kr (fun _ _=>⟨rfl,Zdf⟩) .is (ZG.agg (enc:=Zag) (k:=Nn (Zbv ltE (ZgJ AA RR)) i) (.pagg .t) rfl)) r2 r1 (qf (oB [(0,.tmp 16),(1,.tmp 19)] [.int .i64 0,.int .i64 0,.int .i64 0,.int .i64 0,.int .i64 0] [(0,4),(4,1)] (.agg rfl .t kr kr (.one rfl .t one_int kr .nil))) r2 qz (qf (o_buildSliceE (sz:=5) (zs:=[.int .i64 0,.int .i64 0,.int .i64 0,.int .i64 0,.int .i64 0]) (r:=[(0,.tmp 20)]) (l:=[_,_,_,_,_]) underlying73 kr kr kr kr rfl rfl (.agg rfl .t kr kr .nil) rfl) r1 qz (qf (Z1 (sz:=5) (bs:=40) 50 (.mk' underlying73 kr kr) (by intro x;rfl) .is (.arr (l':=[(⟨Nn (Zbv ltE (ZgJ AA RR)) i,(gGet (Nn (Zbv ltE (ZgJ AA RR)) i) es).getD 0⟩:HvD)]) .t) (by simp only [Yd,Yl,Yy];omega) (by decide)) ⟨rfl,rfl,tv⟩ ⟨rfl,tv⟩ (qO rr qZ))))))))) Z [11,10,9,3,2,0] [101,50,1,0] (fun _=>rfl) (fun _=>rfl) fun τ a w F G=>?_)
  try dsimp only [RS.sub,SF.sub,CF.sub,csub,Anc.sub,List.map,Zf,xL,xM,Nat.reduceAdd,xD,xE,xT,xU,xC,xN,zCF,ldSF,Zx,rTx,ZV,ZQ,Zo,rOp,Zn,rHv] at G
  generalize τ 22=v22 at G
  refine Zk (Za (rZ G (qp r1 (qR rr qZ)) Z [11,10,9,3,2,0] [101,50,1,0] fun G=>?_))
  replace G:=G.ent (i:=11) (s':=.pv (.int .i64 ((i+1:Nat):Int))) rfl (.int (Zd ow))
  obtain ⟨F,G⟩:=G.nM [10,9,2,0,3,11] [1,0,50]
  exact ⟨((i+1),_,_),F,⟨by omega,(by rw [Zt hil,YK,← hq,List.map_singleton];unfold cntA;rw [hE.val])⟩,G,by omega⟩
 have hil:i=(Zbv ltE (ZgJ AA RR)).length:=by simp at hc0;omega
 refine Yx (Zj (Zj (Zr (Za (Ya (rZ G (qR rr (qO rr qZ)) Z [2] [50,1,0] fun G=>Yh ?_))))))
 obtain ⟨F,G⟩:=G.give 50 2 rfl rfl
 have G:=G.turn 1 rfl (r':=RS.hp (ZeI AA RR mv)) (fun _ _ _ _ h=>⟨(es,ck),hE,h⟩)
 refine Za4 hG G rfl (.tmp rfl .nil) (.one (.sl (by rw [hq,hil,YC];rfl))) rfl
theorem Zqf (x:Int):FnP prog 79 [.int .i64 x] (.bool ((fun _=>true) x)):=by
 refine FnP.mk func79 rfl ntmps79 rfl fun B a w F Z hfr G=>Ya ?_
 refine rZ G qB Z [2] [0] fun G=>Ya ?_
 refine rZ G qB Z [2] [0] fun G=>Yh ?_
 refine Zw hfr G rfl rfl rfl (.bool rfl)
theorem Zsh (g:Zq) (hsm:ZbY g) (hAR:(wwC (fun _=>true) g).length+(rdC (fun _=>true) g).length≤1000000):FnP prog 38 [.agg (Zx g)] (.sl rHv (Zgr (wwC (fun _=>true) g) (rdC (fun _=>true) g))):=by
 refine FnP.mk func38 rfl ntmps38 rfl fun B a w F Z hfr G=>Ya ?_
 refine Zb G (qx 101 r1 (qC qZ)) Z [2,1] [101,0] (fun _=>rfl) (fun _=>rfl) fun τ a w F G=>?_
 try dsimp only [RS.sub,SF.sub,CF.sub,csub,Anc.sub,List.map,zCF,Zx,rTx,ZV,ZQ,Zo,rOp,rHv] at G
 generalize τ 1=v1 at G
 refine Za (Ya ?_)
 replace G:=G.fresh 102 rfl
 refine Zbj 2 G kr (cG rfl (oL true 2 101 .is) r1 r1 (cG rfl (ZaE 102 (Zm8 g hsm (fun _=>true) 79 f79 [] func79 rfl kr (fun x=>Zqf x)) func78 rfl kr (Args.two (.pagg .t) (.conv .f (Ent.fnClos))) pvOne1) r1 r1 Zai.nil)) kr (by rw [Z];kernel_rfl) fun a w F G=>?_
 replace G:=G.sub
 obtain ⟨F,G⟩:=G.nM [4,2] [102,101,0]
 try dsimp only [RS.sub,SF.sub,CF.sub,csub,Anc.sub,List.map,xD,xE,xT,xU,ldSF,Zx,rTx,ZV,ZQ,Zo,rOp,rHv] at G
 generalize Act.tau a 4=v4 at G
 replace G:=G.turn 102 rfl (r':=RS.hp (ZeI (wwC (fun _=>true) g) (rdC (fun _=>true) g) v4)) (fun _ _ _ _ h=>h)
 obtain ⟨F,G⟩:=G.nM [4,2] [102,101,0]
 refine Zb0 G kr (cG rfl (ZX 102 (Ztc _ (wwC (fun _=>true) g) (rdC (fun _=>true) g) hAR) func77 rfl kr (Args.one .t)) r1 r1 (cG rfl (oN .t) r1 trivial Zai.nil)) kr (by rw [Z];kernel_rfl) fun a w F G=>?_
 obtain ⟨F,G⟩:=G.nM [2] [102,101,0]
 try dsimp only [Zx,rTx,ZV,ZQ,Zo,rOp,rHv] at G
 refine Za (Yh (Zw hfr G rfl rfl rfl .refl))
end Go.Proofs.YtlkpllemoepamaaGreat
