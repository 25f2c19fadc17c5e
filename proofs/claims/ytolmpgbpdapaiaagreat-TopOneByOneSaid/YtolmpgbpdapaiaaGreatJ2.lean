/- Laws and walks. No condition beyond what each says. -/
import Derived.Test.YtolmpgbpdapaiaaGreatJ1
import Derived.Deep.QuietTactic
import Derived.BigQuiet
import Derived.Shelf.SlSortCmp.WholeK
import Derived.Sort.LotA
namespace Go.Proofs.YtolmpgbpdapaiaaGreat
open Go Go.Gm Tryz
set_option linter.unusedVariables false
set_option linter.unusedSimpArgs false
set_option maxHeartbeats 4000000
set_option maxRecDepth 8000
def ZbU:Zl:=⟨[],[]⟩
theorem ZO {g:Zl} (h:ZA g):Zjo TxD.id g.txs∧Zjo OrdD.key g.orders:=by
 constructor
 ·have hi:Zff (g.txs.map TxD.id):=ZfT fun i hi h0=>by
   have hi':i<g.txs.length:=XP
   rw [Zcb ow,Zcb hi']
   exact (h.2.1 i hi').1 h0
  rw [Z7]
  exact Ya3.1 hi
 ·have h2:=(ZcQ g).2 h.2.2
  have hi:Zff (g.orders.map OrdD.key):=ZfT fun i hi h0=>by
   have hi':i<g.orders.length:=XP
   rw [Zcb ow,Zcb hi']
   exact (h2.2 i hi').1 h0
  rw [Z7]
  exact Ya3.1 hi
def Zv8 (t:TxD) (v:Zaz):Bool:=decide (v.tx=t.id) && decide ((wcnt t.ops v.key:Int)<v.nth)
def ZvX (t x:TxD):Bool:=decide (x.id≠t.id) && (Zjj x).any (Zv8 t)
def Zvb (g:Zl) (t:TxD):Bool:=g.txs.any (ZvX t)
def ZvA (g:Zl) (t:TxD) (there:Int) (wanted:Bool):Int×Int:=if ¬ ZA g then (0,5) else if ZaU t≠0 then (0,ZaU t) else if isK TxD.id t.id g.txs≠wanted then (0,there) else if ZkT g t=false then (0,6) else (lowK TxD.id t.id g.txs,0)
def ZoZ (g:Zl) (t:TxD):Zl×Int:=if (ZvA g t 4 false).2≠0 then (ZbU,(ZvA g t 4 false).2) else if g.txs.length=4096 then (ZbU,2) else (⟨g.txs.take (lowK TxD.id t.id g.txs) ++ [t] ++ g.txs.drop (lowK TxD.id t.id g.txs),settleO t g.orders⟩,0)
def Ztn (id:Int):TxD:=⟨id,false,[]⟩
def ZoS (g:Zl) (id:Int):Zl×Int:=if ¬ ZA g then (ZbU,5) else if isK TxD.id id g.txs=false then (ZbU,3) else if Zvb g (Ztn id)=true then (ZbU,7) else (⟨g.txs.take (lowK TxD.id id g.txs)++g.txs.drop (lowK TxD.id id g.txs+1),settleO (Ztn id) g.orders⟩,0)
def ZsQ (g:Zl) (t:TxD):Zl×Int:=if (ZvA g t 3 true).2≠0 then (ZbU,(ZvA g t 3 true).2) else if Zvb g t=true then (ZbU,7) else (⟨g.txs.set (lowK TxD.id t.id g.txs) t,settleO t g.orders⟩,0)
theorem ZtY {α:Type} [Inhabited α] {κ:α→Int} {k:Int} {l:List α} (hs:Zjo κ l) (h:isK κ k l=true):lowK κ k l<l.length∧κ (Nn l (lowK κ k l))=k:=by
 obtain ⟨x,hx,hk⟩:=Ybd.1 h
 obtain ⟨q,hq,e⟩:=YR hx
 have hk':κ (Nn l q)=k:=by rw [nth_eq hq,e];simpa using hk
 have hl:=ZkB (κ:=κ) (k:=k) (l:=l) (i:=q) (Nat.le_of_lt hq) (fun p hp=>by have:=hs p q hp hq;omega) (fun p hp hp2=>by have:=ZkA hs hp hp2;omega)
 rw [hl]
 exact ⟨hq,hk'⟩
theorem Zo9 (l:List Int) (tx place:Int):(ZrA l tx place).1.length≤l.length:=by
 unfold ZrA
 split
 ·simp
 ·split
  ·simp
  ·rename_i h1 h2
   have hr:=Zhh tx l
   have h3:(l.eraseIdx (Z2 tx l).toNat).length=l.length - 1:=by rw [List.length_eraseIdx,Ye ow]
   show (Zv5 _ _ _).length≤_
   unfold Zv5
   split
   ·rw [Yc,Yh,Yp,YS];omega
   ·omega
def ZhN (g:Zl) (key:Int) (rule:List Int→List Int×Int):Zl×Int:=if ¬ ZA g then (ZbU,5) else if isK OrdD.key key g.orders=false then (ZbU,3) else if (rule (Nn g.orders (lowK OrdD.key key g.orders)).txs).2≠0 then (ZbU,(rule (Nn g.orders (lowK OrdD.key key g.orders)).txs).2) else (⟨g.txs,g.orders.set (lowK OrdD.key key g.orders) ⟨(Nn g.orders (lowK OrdD.key key g.orders)).key,(rule (Nn g.orders (lowK OrdD.key key g.orders)).txs).1⟩⟩,0)
def Zvg (o:OrdD) (l:List Int):List Int×Int:=if l.Perm o.txs then (o.txs,0) else ([],8)
def Zr1 (g:Zl) (o:OrdD):Zl×Int:=ZhN g o.key (Zvg o)
def Zv2 (g:Zl) (key id place:Int):Zl×Int:=ZhN g key fun l=>ZrA l id place
section
set_option linter.unusedSectionVars false
variable {α:Type} {κ:α→Int} {t x:α} {l out r:List α} {d:Bool}
def Zfp (κ:α→Int) (t:α):List α→Bool→List α
 | [],d=>if d=true then [] else [t]
 | x :: l,d=>(if d=false∧κ t≤κ x then [t] else [])++(if κ x=κ t then [] else [x])++Zfp κ t l (d || decide (κ t≤κ x))
theorem Zef:∀ l:List α,Zfp κ t l true=l.filter fun x=>!decide (κ x=κ t)
 | []=>rfl
 | x :: l=>by
  rw [Zfp,Yb XM,Yax,Bool.true_or,Zef l]
  split
  ·rename_i h;rw [Y9 XL];rfl
  ·rename_i h;rw [YT XL];rfl
theorem Zj1 {k:Int} (h:∀ x ∈ l,k<κ x):(l.filter fun x=>!decide (κ x=k))=l:=by
 rw [List.filter_eq_self]
 intro x hx
 have:=h x hx
 simp;omega
theorem Zph {k:Int} : lowK κ k (x :: l)=if κ x<k then lowK κ k l+1 else 0:=by
 unfold lowK
 split
 ·rename_i h1;rw [List.takeWhile_cons_of_pos W4,Yh]
 ·rename_i h1;rw [List.takeWhile_cons_of_neg W4];rfl
theorem Zq7 {k:Int} : isK κ k (x :: l)=(decide (κ x=k) || isK κ k l):=by unfold isK;rw [List.any_cons]
theorem ZnV (hs:l.Pairwise fun a b=>κ a<κ b) (hk:isK κ (κ t) l=false):Zfp κ t l false=l.take (lowK κ (κ t) l) ++ [t] ++ l.drop (lowK κ (κ t) l):=by
 induction l with
 | nil=>rfl
 | cons x l ih=>
  rw [Yu] at hs
  rw [Zq7,YaU,Yr] at hk
  rw [Zfp,Yb hk.1,Zph]
  by_cases h:κ x<κ t
  ·rw [Yb ow,Ye h,show (false || decide (κ t≤κ x))=false by simp;omega,ih hs.2 hk.2];simp
  ·rw [Ye ⟨rfl,ow⟩,Yb h,show (false || decide (κ t≤κ x))=true by simp;omega,Zef,Zj1 fun y hy=>by have:=hs.1 y hy;omega];simp
theorem Zoz {y:α} (h:y ∈ Zfp κ t l d):(y=t∧d=false)∨(y ∈ l∧κ y≠κ t):=by
 induction l generalizing d with
 | nil=>cases d <;> simp [Zfp] at h;exact .inl ⟨h,rfl⟩
 | cons x l ih=>
  rw [Zfp,YC,YC] at h
  rcases h with (h | h) | h
  ·split at h
   ·rename_i h1;exact .inl ⟨by simpa using h,h1.1⟩
   ·cases h
  ·split at h
   ·cases h
   ·rename_i h1
    have e:y=x:=XL
    subst e
    exact .inr ⟨by simp,h1⟩
  ·rcases ih h with ⟨h1,h2⟩ | ⟨h1,h2⟩
   ·rw [YaU] at h2;exact .inl ⟨h1,h2.1⟩
   ·exact .inr ⟨by simp [h1],h2⟩
theorem Zmz (hs:l.Pairwise fun a b=>κ a<κ b):(Zfp κ t l d).Pairwise fun a b=>κ a<κ b:=by
 induction l generalizing d with
 | nil=>cases d <;> simp [Zfp]
 | cons x l ih=>
  rw [Yu] at hs
  have hf:=hs.2.filter fun x=>!decide (κ x=κ t)
  rw [Zfp]
  by_cases hA:d=false∧κ t≤κ x
  ·rw [Ye hA,show (d || decide (κ t≤κ x))=true by simp [hA.2],Zef]
   have h1:∀ y ∈ l.filter (fun x=>!decide (κ x=κ t)),κ x<κ y:=fun y hy=>hs.1 y (YK.1 hy).1
   split
   ·rw [YQ,YaJ,Yu]
    exact ⟨fun y hy=>by have:=h1 y hy;omega,hf⟩
   ·rename_i h2
    rw [Y1,YaJ,YaJ,Yu,Yu]
    refine ⟨fun y hy=>?_,h1,hf⟩
    rcases Ym.1 hy with rfl | hy
    ·omega
    ·have:=h1 y hy;omega
  ·rw [Yb hA,Yax]
   have ih2:=ih (d:=d || decide (κ t≤κ x)) hs.2
   split
   ·simpa using ih2
   ·rename_i h2
    rw [YaJ,Yu]
    refine ⟨fun y hy=>?_,ih2⟩
    rcases Zoz hy with ⟨rfl,h3⟩ | ⟨h3,_⟩
    ·rw [YaU] at h3
     have:=Yk h3.2
     omega
    ·exact hs.1 y h3
end
def getO (os:List OrdD) (k:Int):List Int:=((os.find? fun o=>decide (o.key=k)).map OrdD.txs).getD []
theorem Zje {o:OrdD} {os:List OrdD} {k:Int} : getO (o :: os) k=if o.key=k then o.txs else getO os k:=by
 unfold getO
 rw [List.find?_cons]
 by_cases h:o.key=k <;> simp [h]
theorem ZcO {os:List OrdD} {o:OrdD} (hs:os.Pairwise fun a b=>a.key<b.key) (h:o ∈ os):getO os o.key=o.txs:=by
 induction os with
 | nil=>cases h
 | cons x os ih=>
  rw [Yu] at hs
  rw [Zje]
  rcases Ym.1 h with rfl | h
  ·rw [Ye rfl]
  ·have:=hs.1 o h
   rw [Yb ow,ih hs.2 h]
theorem Zfc {os:List OrdD} {k:Int} (h:getO os k≠[]):(⟨k,getO os k⟩:OrdD) ∈ os:=by
 induction os with
 | nil=>exact absurd rfl h
 | cons x os ih=>
  rw [Zje] at h ⊢
  by_cases e:x.key=k
  ·rw [Ye e];subst e;simp
  ·rw [Yb e] at h ⊢;simp [ih h]
def NE (os:List OrdD):Prop:=∀ o ∈ os,o.txs≠[]
theorem Zlv {l:List Zaj} {e:Zaj} (h:Zjo ZaN l) (hk:isK ZaN (ZaN e) l=false):Zjo ZaN (insE l e)∧(∀ s,s ∈ insE l e ↔ s ∈ l∨s=e)∧(insE l e).length=l.length+1:=by
 have hm:∀ s,s ∈ insE l e ↔ s ∈ l∨s=e:=fun s=>by
  unfold insE
  rw [YC,YC,Yn]
  constructor
  ·rintro ((h1 | h1) | h1)
   ·exact .inl (Yaw h1)
   ·exact .inr h1
   ·exact .inl (Ybs h1)
  ·rintro (h1 | h1)
   ·rw [← YaD (lowK ZaN (ZaN e) l) l,YC] at h1
    rcases h1 with h1 | h1
    ·exact .inl (.inl h1)
    ·exact .inr h1
   ·exact .inl (.inr h1)
 refine ⟨?_,hm,?_⟩
 ·unfold insE
  rw [← ZnV (Z7.1 h) hk]
  exact Z7.2 (Zmz (Z7.1 h))
 ·have:=Zom (κ:=ZaN) (k:=ZaN e) l
  unfold insE
  simp only [Yc,Yp,YS,YZ]
  omega
def ZsB (L:List (List Zaj)) (m:Nat):Prop:=∀ l ∈ L,l.length≤m∧Zjo ZaN l ∧ ∀ e ∈ l,okE e
theorem ZsB.r {L:List (List Zaj)} {m:Nat} (h:ZsB L m) (hm:m≤1000000):ZvH L:=fun l hl=>⟨Yaa (h l hl).1 hm,(h l hl).2⟩
theorem ZsB.set {L:List (List Zaj)} {m k:Nat} {e:Zaj} (h:ZsB L m) (hk:k<L.length) (he:okE e) (hn:isK ZaN (ZaN e) (Nn L k)=false):ZsB (L.set k (insE (Nn L k) e)) (m+1):=fun l hl=>by
 rcases List.mem_or_eq_of_mem_set hl with h1 | rfl
 ·exact ⟨Nat.le_succ_of_le (h l h1).1,(h l h1).2⟩
 ·obtain ⟨a1,a2,a3⟩:=h _ (nth_mem hk)
  obtain ⟨b1,b2,b3⟩:=Zlv a2 hn
  exact ⟨ow,b1,fun s hs=>((b2 s).1 hs).elim (a3 s) fun h9=>h9 ▸ he⟩
theorem Zn3 {l:List Zaj} {e:Zaj} (hl:∀ s ∈ l,okE s) (he:okE e):isK ZaN (ZaN e) l=true ↔ e ∈ l:=by
 unfold isK
 rw [Ybd]
 constructor
 ·rintro ⟨s,h1,h2⟩;exact keyE_inj (hl s h1) he (Yd h2) ▸ h1
 ·exact fun h=>⟨e,h,YL rfl⟩
structure Zfj (n:Nat) (E:List ZV) (O I:List (List Zaj)):Prop where
 ol:O.length=n
 il:I.length=n
 on:ZsB O E.length
 inn:ZsB I E.length
 ok:∀ x ∈ E,ZaE n x=true
 om:∀ u:Nat,u<n → ∀ e,e ∈ Nn O u ↔ ∃ x ∈ E,x.src=(u:Int)∧endO x=e
 im:∀ u:Nat,u<n → ∀ e,e ∈ Nn I u ↔ ∃ x ∈ E,x.dst=(u:Int)∧endI x=e
theorem Zfj.outK {n:Nat} {E:List ZV} {O I:List (List Zaj)} {x:ZV} (h:Zfj n E O I) (hn:n≤4096) (hx:ZaE n x=true):isK ZaN (ZaN (endO x)) (Nn O x.src.toNat)=true ↔ x ∈ E:=by
 obtain ⟨⟨s1,s2⟩,⟨d1,d2⟩,_⟩:=Z0.1 hx
 have hu:x.src.toNat<n:=ow
 rw [Zn3 (h.on _ (nth_mem (by rw [h.ol];exact hu))).2.2 (endO_ok hx hn),h.om _ hu]
 constructor
 ·rintro ⟨y,y1,y2,y3⟩
  have e:y=x:=by
   cases y;cases x
   simp only [endO,Zaj.mk.injEq] at y3
   simp only at y2 s1
   obtain ⟨a,b,c⟩:=y3
   rw [YaP s1] at y2
   subst a;subst b;subst c;subst y2;rfl
  exact e ▸ y1
 ·exact fun k=>⟨x,k,by rw [YaP s1],rfl⟩
theorem Zfj.has {n:Nat} {E:List ZV} {O I:List (List Zaj)} {x:ZV} (h:Zfj n E O I) (hn:n≤4096):Zp2 O x=true ↔ ZaE n x=true∧x ∈ E:=by
 unfold Zp2
 rw [h.ol,Yw]
 exact ⟨fun k=>⟨k.1,(h.outK hn k.1).1 k.2⟩,fun k=>⟨k.1,(h.outK hn k.1).2 k.2⟩⟩
theorem Zfj.inK {n:Nat} {E:List ZV} {O I:List (List Zaj)} {x:ZV} (h:Zfj n E O I) (hn:n≤4096) (hx:ZaE n x=true):isK ZaN (ZaN (endI x)) (Nn I x.dst.toNat)=true ↔ x ∈ E:=by
 obtain ⟨⟨s1,s2⟩,⟨d1,d2⟩,_⟩:=Z0.1 hx
 have hu:x.dst.toNat<n:=ow
 rw [Zn3 (h.inn _ (nth_mem (by rw [h.il];exact hu))).2.2 (endI_ok hx hn),h.im _ hu]
 constructor
 ·rintro ⟨y,y1,y2,y3⟩
  have e:y=x:=by
   cases y;cases x
   simp only [endI,Zaj.mk.injEq] at y3
   simp only at y2 d1
   obtain ⟨a,b,c⟩:=y3
   rw [YaP d1] at y2
   subst a;subst b;subst c;subst y2;rfl
  exact e ▸ y1
 ·exact fun k=>⟨x,k,by rw [YaP d1],rfl⟩
theorem ZkS {n:Nat} {E:List ZV} {L:List (List Zaj)} {x:ZV} {f:ZV→Int} {g:ZV→Zaj} (hl:L.length=n) (hm:∀ u:Nat,u<n → ∀ e,e ∈ Nn L u ↔ ∃ x ∈ E,f x=(u:Int)∧g x=e) (h0:0≤f x) (hr:Zjo ZaN (Nn L (f x).toNat)) (hk:isK ZaN (ZaN (g x)) (Nn L (f x).toNat)=false) :
  ∀ u:Nat,u<n → ∀ e,e ∈ Nn (L.set (f x).toNat (insE (Nn L (f x).toNat) (g x))) u ↔ ∃ y ∈ E ++ [x],f y=(u:Int)∧g y=e:=fun u hu e=>by
 rw [Zv9 ow]
 have hex:(∃ y ∈ E ++ [x],f y=(u:Int)∧g y=e) ↔ (∃ y ∈ E,f y=(u:Int)∧g y=e)∨(f x=(u:Int)∧g x=e):=by
  constructor
  ·rintro ⟨y,y1,y2⟩
   rcases YC.1 y1 with y1 | y1
   ·exact .inl ⟨y,y1,y2⟩
   ·rw [Yn.1 y1] at y2;exact .inr y2
  ·rintro (⟨y,y1,y2⟩ | k)
   ·exact ⟨y,Y6 _ y1,y2⟩
   ·exact ⟨x,by simp,k⟩
 rw [hex]
 by_cases hc:(f x).toNat=u
 ·rw [Ye hc,(Zlv hr hk).2.1,hc,hm u hu]
  constructor
  ·rintro (k | k)
   ·exact .inl k
   ·exact .inr ⟨ow,k.symm⟩
  ·rintro (k | k)
   ·exact .inl k
   ·exact .inr k.2.symm
 ·rw [Yb hc,hm u hu]
  exact ⟨.inl,fun k=>k.elim id fun k=>absurd ow hc⟩
theorem Zfj.add {n:Nat} {E:List ZV} {O I:List (List Zaj)} {x:ZV} (h:Zfj n E O I) (hn:n≤4096) (hx:ZaE n x=true) (hne:x ∉ E):Zfj n (E ++ [x]) (O.set x.src.toNat (insE (Nn O x.src.toNat) (endO x))) (I.set x.dst.toNat (insE (Nn I x.dst.toNat) (endI x))):=by
 have ko:=YbK.2 (fun k=>hne ((h.outK hn hx).1 k))
 have ki:=YbK.2 (fun k=>hne ((h.inK hn hx).1 k))
 obtain ⟨⟨s1,s2⟩,⟨d1,d2⟩,_⟩:=Z0.1 hx
 have hl:=h.ol
 have hl2:=h.il
 have so:x.src.toNat<O.length:=ow
 have si:x.dst.toNat<I.length:=ow
 refine ⟨by simp [hl],by simp [hl2],?_,?_,fun y hy=>?_,?_,?_⟩
 ·rw [Yc];exact h.on.set so (endO_ok hx hn) ko
 ·rw [Yc];exact h.inn.set si (endI_ok hx hn) ki
 ·rcases YC.1 hy with hy | hy
  ·exact h.ok y hy
  ·rw [Yn.1 hy];exact hx
 ·exact ZkS (f:=ZV.src) (g:=endO) hl h.om s1 (h.on _ (nth_mem so)).2.1 ko
 ·exact ZkS (f:=ZV.dst) (g:=endI) hl2 h.im d1 (h.inn _ (nth_mem si)).2.1 ki
theorem Zfj.next {n:Nat} {E:List ZV} {O I:List (List Zaj)} (h:Zfj n E O I) (mask u:Int):Zff (Zgp O mask u) ∧ ∀ v,v ∈ Zgp O mask u ↔ ∃ x ∈ E,x.src=u∧ofB mask x.kind=true∧x.dst=v:=by
 by_cases hu:0≤u∧u<O.length
 ·unfold Zgp
  rw [Ye hu]
  refine ⟨(Zas _).1,fun v=>?_⟩
  rw [(Zas _).2,YB]
  constructor
  ·rintro ⟨e,h1,h2⟩
   obtain ⟨h3,h4⟩:=YK.1 h1
   obtain ⟨x,x1,x2,rfl⟩:=(h.om u.toNat (by have:=h.ol;omega) e).1 h3
   exact ⟨x,x1,ow,h4,h2⟩
  ·rintro ⟨x,x1,x2,x3,x4⟩
   exact ⟨endO x,YK.2 ⟨(h.om u.toNat (by have:=h.ol;omega) _).2 ⟨x,x1,ow,rfl⟩,x3⟩,x4⟩
 ·unfold Zgp
  rw [Yb hu]
  refine ⟨List.Pairwise.nil,fun v=>⟨fun k=>(by cases k),?_⟩⟩
  rintro ⟨x,x1,x2,_⟩
  have:=(Z0.1 (h.ok x x1)).1
  have:=h.ol
  exact absurd ⟨ow,ow⟩ hu
def Zl9 (n:Nat) (E:List ZV) (x:ZV):List ZV:=if ZaE n x=true∧x ∉ E then E ++ [x] else E
theorem Zsi {n:Nat} {E:List ZV} {x y:ZV} : y ∈ Zl9 n E x ↔ y ∈ E∨(y=x∧ZaE n y=true):=by
 unfold Zl9
 split
 ·rename_i h
  rw [YC,Yn]
  exact ⟨fun k=>k.elim .inl fun e=>.inr ⟨e,e ▸ h.1⟩,fun k=>k.elim .inl fun e=>.inr e.1⟩
 ·rename_i h
  refine ⟨.inl,fun k=>k.elim id fun ⟨e,hr⟩=>?_⟩
  subst e
  exact Ya5 fun hx=>h ⟨hr,hx⟩
theorem Zlp {n:Nat} : ∀ {L E:List ZV} {y:ZV},y ∈ L.foldl (Zl9 n) E ↔ y ∈ E∨(y ∈ L∧ZaE n y=true)
 | [],E,y=>by simp
 | x :: L,E,y=>by
  rw [Yav,Zlp,Zsi,Ym]
  constructor
  ·rintro ((h | ⟨h,k⟩) | ⟨h,k⟩)
   ·exact .inl h
   ·exact .inr ⟨.inl h,k⟩
   ·exact .inr ⟨.inr h,k⟩
  ·rintro (h | ⟨h | h,k⟩)
   ·exact .inl (.inl h)
   ·exact .inl (.inr ⟨h,k⟩)
   ·exact .inr ⟨h,k⟩
theorem Zod {n:Nat} (E:List ZV) (x:ZV):(Zl9 n E x).length≤E.length+1:=by
 unfold Zl9;split <;> simp
theorem ZhH {n:Nat} : ∀ (L E:List ZV),(L.foldl (Zl9 n) E).length≤E.length+L.length
 | [],E=>YF _
 | x :: L,E=>by
  have h1:=ZhH (n:=n) L (Zl9 n E x)
  have h2:=Zod (n:=n) E x
  rw [Yav,Yh];omega
theorem Zfj.new (n:Nat):Zfj n [] (List.replicate n []) (List.replicate n []):=by
 have hn:∀ u:Nat,u<n→Nn (List.replicate n ([]:List Zaj)) u = []:=fun u hu=>by
  rw [nth_eq (by simpa using hu)];simp
 have hd:ZsB (List.replicate n []) ([]:List ZV).length:=fun l hl=>by
  rw [(List.mem_replicate.1 hl).2];exact ⟨YF _,Z7.2 .nil,fun e h=>by cases h⟩
 exact ⟨by simp,by simp,hd,hd,(fun x h=>by cases h),(fun u hu e=>by rw [hn u hu];simp),(fun u hu e=>by rw [hn u hu];simp)⟩
theorem Zfj.step {n:Nat} {E:List ZV} {O I:List (List Zaj)} (h:Zfj n E O I) (hn:n≤4096) (x:ZV) (m:Nat):Zfj n (Zl9 n E x) (Zis O I m x).1 (Zis O I m x).2.1∧(Zis O I m x).2.2.1≤m+1:=by
 unfold Zis Zl9
 rw [h.ol]
 by_cases hr:ZaE n x=true
 ·rw [Ye hr]
  by_cases hx:x ∈ E
  ·rw [Ye ((h.has hn).2 ⟨hr,hx⟩),Yb (fun k=>k.2 hx)];exact ⟨h,Nat.le_succ _⟩
  ·rw [Yb (fun k=>hx ((h.has hn).1 k).2),Ye ⟨hr,hx⟩];exact ⟨h.add hn hr hx,YF _⟩
 ·rw [Yb hr,Yb (fun k=>hr k.1)];exact ⟨h,Nat.le_succ _⟩
theorem Ziq {id:Int} {s r:List OpD} {o:OpD} : Zax id s (o :: r)=if Z1 o=false then 1 else if o.read=true∧o.tx=id∧(wcnt s o.key:Int)<o.nth then 6 else Zax id (s ++ [o]) r:=by rw [Zax]
theorem Znf (l:List Zi) (hl:l.length≤1000000):FnG prog 143 1 [.sl ZE l] [.star []] (PV.one) (fun v=>[Zz 116 4 ZE l v]):=by
 refine FnG.mk func143 rfl ntmps143 rfl kr fun B F0 a w F Z hG G=>?_
 obtain ⟨F,G⟩:=G.nM [0] [0]
 refine Ya (rZ G (qC qZ) Z Q0 [0] fun G=>(Ya (Ya ?_)))
 refine Zc G (qR rr (qf (Zdi Yb0 .t) r1 qz qZ)) Z QU [0] rfl rfl fun a w F G=>?_
 obtain ⟨β4,hβ4,G⟩:=G.pickBool 4 rfl
 obtain ⟨F,G⟩:=G.nM QU [0]
 refine Za (Zb G rfl (fun hc0=>?_) (fun hc0=>?_))
 ·have hg:l = []:=hβ4 hc0
  refine Ya (rZ G (qC qZ) Z Q0 [0] fun G=>(Yj (Zh ?_)))
  have G:=G.fresh 1 rfl
  have G:=G.turn 1 rfl (Za6 (T:=116) (sz:=4) (R:=ZE))
  have G:=G.turn 1 rfl (r':=RS.hp (Zz 116 4 ZE l (.slice none 0 0))) (fun _ _ _ _ h=>by rw [hg];exact h)
  refine Zaw (h':=fun v=>Zz 116 4 ZE l v) hG G rfl (.tmp rfl .nil) (.one .one) rfl
 have hg:l = [] ++ l:=rfl
 refine Yf (Za (Ya (rS G (qf (ZaR (R:=ZE) (sz:=4) 101 Yb0 kr) trivial qz (qR rr (qf (o_append (sz:=4) (bs:=32) 101 (.mk' Yb0 kr kr) Wh .same (.sl .t) Wk XW) ⟨rfl,rfl,tv⟩ ⟨rfl,tv⟩ (qO rr qZ)))) Z [2] KN fun τ G=>?_)))
 try dsimp only [RS.sub,SF.sub,CF.sub,csub,Anc.sub,List.map,Zd,xL,xM,Nat.reduceAdd,xD,xE,xT,xU,xC,xN,zCF,ZE] at G
 generalize τ 7=v7 at G
 refine Za (Yj ?_)
 obtain ⟨F,G⟩:=G.rename 101 1 rfl rfl
 have G:=G.turn 1 rfl (r':=RS.hp (Zz 116 4 ZE l v7)) (fun _ _ _ _ h=>by rw [hg];exact h)
 refine Zaw (h':=fun v=>Zz 116 4 ZE l v) hG G rfl (.tmp rfl .nil) (.one .one) rfl
theorem ZkK (v:Value) (l:List Zi) (hll:l.length≤1000000):FnG prog 181 1 [.is v] [Zz 116 4 ZE l v] (PV.one) (fun v=>[Zz 116 4 ZE (Zp l) v]):=by
 refine FnG.mk func181 rfl ntmps181 rfl kr fun B F0 a w F Z hG G=>?_
 replace G:=G.turn 1 rfl (r':=.ob (.val v) (Zz 116 4 ZE l)) (fun _ _ _ _ h=>h)
 refine Ya (rZ G (qC qZ) Z Q0 KQ fun G=>(Ya (Ya ?_)))
 refine rZ G (qR rr (qf (ZN 1 Yb0 .is) r1 r1 (qf (Zbb .t qi) r1 qz qZ))) Z [8,2,0] KQ fun G=>?_
 refine Zb G rfl (fun hc0=>?_) (fun hc0=>?_)
 ·have hg:(Zp l)=l:=ZbM Wl
  refine Ya (rZ G (qR rr (qO rr qZ)) Z Q0 KQ fun G=>(Yj (Zh ?_)))
  have G:=G.turn 1 rfl (r':=RS.hp (Zz 116 4 ZE (Zp l) v)) (fun _ _ _ _ h=>by rw [hg];exact h)
  refine Zaw (h':=fun v=>Zz 116 4 ZE (Zp l) v) hG G rfl (.tmp rfl .nil) (.one .one) rfl
 have hl2:2≤l.length:=Wl
 refine Yf (Za (Ya (Ya (rZ G (qI qZ) Z KR KQ fun G=>Yi ?_))))
 refine Zk (σ:=Nat) [0,2] [0,1] (fun s=>[(3,.pv (.int .i64 (s:Int)))]) (fun s=>[]) (fun s=>1≤s∧s≤l.length∧Zp (l.take s)=l.take s) (fun s=>l.length - s) (1) G ⟨rfl,rfl,rfl,tv⟩ ⟨rfl,rfl,tv⟩ ⟨ow,ow,ZbM Wm⟩ ?_
 clear G;intro k a w F hC G
 have hC:=X4
 obtain ⟨F,G⟩:=G.nM KR KQ
 have G:=X3
 obtain ⟨hk1,hkl,hkc⟩:=hC
 have hkw:IntKind.wrap .i64 ((k:Int) - 1)=(k:Int) - 1:=wrap_i64 ow
 refine Ya (Ya (rZ G (qR rr (qR rr (qf (ZN 1 Yb0 .is) r1 r1 (qL r2)))) Z [13,3,2,0] KQ fun G=>?_))
 refine Zb G rfl (fun hc1=>?_) (fun hc1=>?_)
 ·have hil:k<l.length:=WE
  have hst:=Zbl (l:=l) hk1 hil
  have hy0:(IntKind.wrap .i64 ((k:Int) - 1)).toNat=k - 1:=Wn
  refine Yf (Za (Ya (Yi (Ya (Zv G (qR rr (qR rr (qf (o_indexAddr_row (sz:=4) 1 (.mk Yb0 kr) .is .t ow ow XV) r2 r1 (qf (Zx (ag:=true) (sz':=4) (sz:=4) 1 .t Wh ow kr kr kr) r1 r1 (qR rr (qR rr (qf (o_sub .t qi) r1 qz (qf (o_indexAddr_row (sz:=4) 1 (.mk Yb0 kr) .is .t Wn Wn XV) r2 r1 (qf (Zx (ag:=true) (sz':=4) (sz:=4) 1 .t Wh Wn kr kr kr) r1 r1 (qf (o_eqlS (ks:=[true,true,true,true]) kr .t .t (.int (.int (.int (.int .nil))))) r2 qz qZ)))))))))) Z [25,3,2,0] KQ rfl rfl fun a w F G=>?_)))))
  try dsimp only [List.map,xD,xE,xT,xU,ldSF,ZE] at G
  try simp only [Yg] at G
  refine Za (Zb G rfl (fun hc2=>?_) (fun hc2=>?_))
  ·have heq:Nn l (k - 1)=Nn l k:=by rw [hy0] at hc2;simp only [ZvI] at hc2;simp at hc2;exact hc2.symm
   rw [Ye heq,hkc] at hst
   have hst0:=hst.symm
   refine Ya (rZ G (qR rr (qR rr (qf (Zbp (sz:=4) 1 (.mk Yb0 kr) .is .t ow ow) r2 r1 (qO rr qZ)))) Z QV KQ fun G=>(Ya (Ya ?_)))
   refine rZ G (qI qZ) Z Qf KQ fun G=>Yi ?_
   have hC0:1≤1∧1≤l.length - k∧k≤k∧k≤k+1 - 1∧l.length=l.length∧l.take k=Zp (l.take (k+1)) ∧ ∀ q,k+1 - 1≤q→q<l.length→Nn l q=Nn l q:=⟨ow,ow,ow,ow,rfl,hst0,fun q _ _=>rfl⟩
   refine Zk (σ:=Nat×Nat×List Zi) [0,2,4] [0] (fun s=>[(3,.pv (.int .i64 (s.1:Int))),(5,.pv (.int .i64 (s.2.1:Int)))]) (fun s=>[(1,.ob (.val v) (Zz 116 4 ZE s.2.2))]) (fun s=>1≤s.2.1∧s.2.1≤l.length - k∧k≤s.1∧s.1≤k+s.2.1 - 1∧s.2.2.length=l.length∧s.2.2.take s.1=Zp (l.take (k+s.2.1)) ∧ ∀ q,k+s.2.1 - 1≤q→q<l.length→Nn s.2.2 q=Nn l q) (fun s=>l.length - s.2.1) ((k),(1),(l)) G ⟨rfl,rfl,rfl,rfl,rfl,tv⟩ ⟨rfl,rfl,tv⟩ hC0 ?_
   clear G;intro s a w F hC G
   obtain ⟨k1,j,l1⟩:=s
   have hC:=X4
   obtain ⟨F,G⟩:=G.nM Qf KQ
   have G:=X3
   obtain ⟨hj1,hjk,hkk,hkj,hl1,htk,hrest⟩:=hC
   have hjw:IntKind.wrap .i64 ((j:Int) - 1)=(j:Int) - 1:=wrap_i64 ow
   refine Ya (Ya (rZ G (qR rr (qR rr (qf (ZjH 1 Yb0 .t ow) r1 r1 (qL r2)))) Z [32,5,4,3,2,0] KQ fun G=>?_))
   refine Zb G rfl (fun hc3=>?_) (fun hc3=>?_)
   ·have hjl:k+j<l.length:=Kb
    have hx1:(Nn l1 (((k:Int)).toNat+((j:Int)).toNat))=Nn l (k+j):=by rw [Yg,Yg];exact hrest _ ow hjl
    have hx0:Nn l1 (((k:Int)).toNat+(IntKind.wrap .i64 ((j:Int) - 1)).toNat)=Nn l (k+j - 1):=Kg
    have hstp:=Zbl (l:=l) (p:=k+j) ow hjl
    refine Yf (Za (Ya (Yi (Ya (Zv G (qR rr (qR rr (qf (o_indexAddr_sub (sz:=4) 1 (.mk Yb0 kr) .t .t ow ow XV) r2 r1 (qf (Zx (ag:=true) (sz':=4) (sz:=4) 1 .t Wh ow kr kr kr) r1 r1 (qR rr (qR rr (qf (o_sub .t qi) r1 qz (qf (o_indexAddr_sub (sz:=4) 1 (.mk Yb0 kr) .t .t Wo Wo XV) r2 r1 (qf (Zx (ag:=true) (sz':=4) (sz:=4) 1 .t Wh Wo kr kr kr) r1 r1 (qf (o_neqS (ks:=[true,true,true,true]) kr .t .t (.int (.int (.int (.int .nil))))) r2 qz qZ)))))))))) Z [44,5,4,3,2,0] KQ rfl rfl fun a w F G=>?_)))))
    try dsimp only [List.map,xD,xE,xT,xU,ldSF,ZE] at G
    try simp only [Yg] at G
    refine Za (Zb G rfl (fun hc4=>?_) (fun hc4=>?_))
    ·have hne:¬ Nn l (k+j - 1)=Nn l (k+j):=by rw [← hx1,← hx0];simp only [ZvI] at hc4;simp at hc4 ⊢;exact fun e=>hc4 e.symm
     rw [Yb hne] at hstp
     obtain ⟨i2,hi2e⟩:∃ i2,i2=k1+1:=⟨_,rfl⟩
     have hi2:IntKind.wrap .i64 ((k1:Int)+1)=(i2:Int):=by rw [hi2e];exact Za7 ow
     obtain ⟨l2,hl2e⟩:∃ l2,l2=l1.set k1 (Nn l1 (k+j)):=⟨_,rfl⟩
     have hx1b:Nn l1 (k+j)=Nn l (k+j):=hrest _ ow hjl
     have hC2:1≤j+1∧j+1≤l.length - k∧k≤i2∧i2≤k+(j+1) - 1∧l2.length=l.length∧l2.take i2=Zp (l.take (k+(j+1))) ∧ ∀ q,k+(j+1) - 1≤q→q<l.length→Nn l2 q=Nn l q:=⟨ow,ow,ow,ow,by rw [hl2e,YU];exact hl1,by rw [hl2e,hi2e,Zy Wp,List.take_set_of_le (YF _),htk,nth_eq Wp,List.getElem_set_self,hx1b];exact hstp.symm,fun q hq hq2=>by rw [hl2e,nth_eq Wp,List.getElem_set_ne ow,← nth_eq ow];exact hrest q ow hq2⟩
     refine Ya (Zc G (qR rr (qR rr (qR rr (qR rr (qf (o_indexAddr_sub (sz:=4) 1 (.mk Yb0 kr) .t .t ow ow XV) r2 r1 (qf (Zx (ag:=true) (sz':=4) (sz:=4) 1 .t Wh ow kr kr kr) r1 r1 (qf (o_indexAddr_row (sz:=4) 1 (.mk Yb0 kr) .is .t ow ow XV) r2 r1 (qf (Zka (sz:=4) 1 .t Wh ow (.conv .t (Ent.aggU (l:=ZE (Nn l1 (((k:Int)).toNat+((j:Int)).toNat))) rfl rfl)) kr) r2 r1 qZ)))))))) Z Qf KQ rfl rfl fun a w F G=>?_)
     try simp only [Yg] at G
     rw [← hl2e] at G
     refine Za (Zc G (qR rr (qp r1 (qO rr qZ))) Z Qf KQ rfl rfl fun a w F G=>Ze (Za ?_))
     refine rZ G (qR rr (qp r1 (qO rr qZ))) Z Qf KQ fun G=>?_
     have hmu:l.length - (j+1)<l.length - j:=ow
     replace G:=G.ent (i:=3) (s':=.pv (.int .i64 (i2:Int))) rfl (.int hi2)
     replace G:=G.eI 5 j
     obtain ⟨F,G⟩:=G.nM JX [0,1]
     exact ⟨((i2),(j+1),(l2)),F,hC2,G,hmu⟩
    have heq2:Nn l (k+j - 1)=Nn l (k+j):=by rw [← hx1,← hx0];simp only [ZvI] at hc4;simp at hc4 ⊢;exact hc4.symm
    rw [Ye heq2] at hstp
    obtain ⟨i2,hi2e⟩:∃ i2,i2=k1:=⟨_,rfl⟩
    have hi2:(k1:Int)=(i2:Int):=by rw [hi2e]
    obtain ⟨l2,hl2e⟩:∃ l2,l2=l1:=⟨_,rfl⟩
    rw [← hl2e] at G
    have hC2:1≤j+1∧j+1≤l.length - k∧k≤i2∧i2≤k+(j+1) - 1∧l2.length=l.length∧l2.take i2=Zp (l.take (k+(j+1))) ∧ ∀ q,k+(j+1) - 1≤q→q<l.length→Nn l2 q=Nn l q:=⟨ow,ow,ow,ow,by rw [hl2e];exact hl1,by rw [hl2e,hi2e,htk];exact hstp.symm,fun q hq hq2=>by rw [hl2e];exact hrest q ow hq2⟩
    refine Yf (Ze (Za (rZ G (qR rr (qp r1 (qO rr qZ))) Z Qf KQ fun G=>?_)))
    have hmu:l.length - (j+1)<l.length - j:=ow
    replace G:=G.ent (i:=3) (s':=.pv (.int .i64 (i2:Int))) rfl (.int hi2)
    replace G:=G.eI 5 j
    obtain ⟨F,G⟩:=G.nM JX [0,1]
    exact ⟨((i2),(j+1),(l2)),F,hC2,G,hmu⟩
   have hjl:k+j=l.length:=Kb
   have hg:(Zp l)=(l1.take k1++List.replicate (l1.length - k1) noE).take k1:=by rw [Yal Wm,Ybh,Nat.min_self,htk,hjl,YE]
   refine Yz (Zg (Zg (Zm (Za (Ya (rZ G (qR rr (qR rr (qf (Zbp (sz:=4) 1 (.mk Yb0 kr) .is .t ow ow) r2 r1 (qf (ZfN (R:=ZE) (z:=noE) (zs:=[.int .i64 0,.int .i64 0,.int .i64 0,.int .i64 0]) 1 Yb0 kr rfl rfl Zsm Wh .t XT) r1 r1 qZ)))) Z KR KQ fun G=>Ya ?_))))))
   refine rS G (qR rr (qR rr (qf (ZcH (sz:=4) 1 (.mk Yb0 kr) Wh .is .t ow XT) r2 r1 (qO rr qZ)))) Z KR KQ fun τ G=>?_
   have G:=XB
   generalize τ 59=v59 at G
   refine Za (Yj (Zn (Zh (Zh (Zn (Zh ?_))))))
   have G:=G.turn 1 rfl (r':=RS.hp (Zz 116 4 ZE (Zp l) v59)) (fun _ _ _ _ h=>by rw [hg];exact h)
   refine Zaw (h':=fun v=>Zz 116 4 ZE (Zp l) v) hG G rfl (.tmp rfl .nil) (.one .one) rfl
  have hne:¬ Nn l (k - 1)=Nn l k:=by rw [hy0] at hc2;simp only [ZvI] at hc2;simp at hc2;exact fun e=>hc2 e.symm
  rw [Yb hne] at hst
  refine Yf (Ze (Za (rZ G (qR rr (qp r1 (qO rr qZ))) Z KR KQ fun G=>?_)))
  replace G:=G.eI 3 k
  obtain ⟨F,G⟩:=G.nM [2,0,3] KQ
  exact ⟨(k+1),F,⟨ow,ow,by rw [hst,hkc,← Zy hil]⟩,G,ow⟩
 have hg:(Zp l)=l:=Km
 refine Yz (Zg (Zg (Zm (Za (Ya (rZ G (qR rr (qO rr qZ)) Z [2] KQ fun G=>Yj ?_))))))
 have G:=G.turn 1 rfl (r':=RS.hp (Zz 116 4 ZE (Zp l) v)) (fun _ _ _ _ h=>by rw [hg];exact h)
 refine Zaw (h':=fun v=>Zz 116 4 ZE (Zp l) v) hG G rfl (.tmp rfl .nil) (.one .one) rfl
def Zho:Go.Shelf.Ren:=⟨fun | 6=>179 | 15=>120 | 14=>219 | 28=>170 | 29=>171 | 20=>241 | 21=>242 | 22=>243 | 23=>244 | 24=>245 | 25=>246 | 26=>247 | 27=>248 | 46=>265 | 47=>203 | 48=>204 | 49=>266 | 50=>267 | 57=>276 | n=>n,fun | 22=>60 | 24=>116 | 25=>266 | 3=>3 | 39=>181 | 0=>0 | 53=>256 | 55=>74 | 4=>4 | 46=>249 | 45=>248 | 50=>162 | 5=>5 | 9=>9 | 66=>285 | 70=>289 | 76=>325 | 77=>175 | n=>n,fun  | n=>n⟩
theorem ZnA:Go.Proofs.SlLaysF0.n6 prog Zho where
 mixed:=by kernel_rfl
 f6:=⟨f179.name,by kernel_rfl,func179.trans (Y8 some kr)⟩
 f14:=⟨f219.name,by kernel_rfl,func219.trans (Y8 some kr)⟩
 f15:=func120.trans (Y8 some kr)
 f20:=⟨f241.name,by kernel_rfl,func241.trans (Y8 some kr)⟩
 f21:=⟨f242.name,by kernel_rfl,func242.trans (Y8 some kr)⟩
 f22:=⟨f243.name,by kernel_rfl,func243.trans (Y8 some kr)⟩
 f23:=⟨f244.name,by kernel_rfl,func244.trans (Y8 some kr)⟩
 f24:=⟨f245.name,by kernel_rfl,func245.trans (Y8 some kr)⟩
 f25:=⟨f246.name,by kernel_rfl,func246.trans (Y8 some kr)⟩
 f26:=⟨f247.name,by kernel_rfl,func247.trans (Y8 some kr)⟩
 f27:=⟨f248.name,by kernel_rfl,func248.trans (Y8 some kr)⟩
 f28:=func170.trans (Y8 some kr)
 f29:=func171.trans (Y8 some kr)
 f46:=⟨f265.name,by kernel_rfl,func265.trans (Y8 some kr)⟩
 f47:=func203.trans (Y8 some kr)
 f48:=func204.trans (Y8 some kr)
 f49:=⟨f266.name,by kernel_rfl,func266.trans (Y8 some kr)⟩
 f50:=⟨f267.name,by kernel_rfl,func267.trans (Y8 some kr)⟩
 f57:=⟨f276.name,by kernel_rfl,func276.trans (Y8 some kr)⟩
 t0:=underlying0
 a0:=Tryz.isAgg0
 z0:=Tryz.sizeOf0
 v0:=Tryz.zeroValue0
 t3:=Yb1
 a3:=Tryz.isAgg3
 z3:=Tryz.sizeOf3
 v3:=Tryz.zeroValue3
 t4:=underlying4
 a4:=Tryz.isAgg4
 z4:=Tryz.sizeOf4
 v4:=Tryz.zeroValue4
 t5:=Ycc
 a5:=Tryz.isAgg5
 z5:=Tryz.sizeOf5
 v5:=Tryz.zeroValue5
 t9:=Yb5
 a9:=Tryz.isAgg9
 z9:=Tryz.sizeOf9
 v9:=Tryz.zeroValue9
 t22:=Yb0
 a22:=Tryz.isAgg60
 z22:=Tryz.sizeOf60
 v22:=Tryz.zeroValue60
 t25:=underlying266
 a25:=Tryz.isAgg266
 z25:=Tryz.sizeOf266
 v25:=Tryz.zeroValue266
 t39:=Ycd
 a39:=Tryz.isAgg181
 z39:=Tryz.sizeOf181
 v39:=Tryz.zeroValue181
 t45:=underlying248
 a45:=Tryz.isAgg248
 z45:=Tryz.sizeOf248
 v45:=Tryz.zeroValue248
 t46:=underlying249
 a46:=Tryz.isAgg249
 z46:=Tryz.sizeOf249
 v46:=Tryz.zeroValue249
 t50:=underlying162
 a50:=Tryz.isAgg162
 z50:=Tryz.sizeOf162
 v50:=Tryz.zeroValue162
 t53:=underlying256
 a53:=Tryz.isAgg256
 z53:=Tryz.sizeOf256
 v53:=Tryz.zeroValue256
 t55:=Yb9
 a55:=Tryz.isAgg74
 z55:=Tryz.sizeOf74
 v55:=Tryz.zeroValue74
 t66:=underlying285
 a66:=Tryz.isAgg285
 z66:=Tryz.sizeOf285
 v66:=Tryz.zeroValue285
 t70:=underlying289
 a70:=Tryz.isAgg289
 z70:=Tryz.sizeOf289
 v70:=Tryz.zeroValue289
 t76:=underlying325
 a76:=Tryz.isAgg325
 z76:=Tryz.sizeOf325
 v76:=Tryz.zeroValue325
 t77:=underlying175
 a77:=Tryz.isAgg175
 z77:=Tryz.sizeOf175
 v77:=Tryz.zeroValue175
theorem Zwr (x:Int) (w:World):Calls prog 184 #[.int .i64 x] w fun e w'=>e = .returned (.bool false)∧w' = w:=by
 go_enter func184,ntmps184
 go_wp2
 go_ret
 exact ⟨by simp,rfl⟩
theorem Zvy (x y:Int) (w:World):Calls prog 133 #[.int .i64 x,.int .i64 y] w fun e w'=>e = .returned (.int .i64 (Zcx x y))∧w' = w:=by
 go_enter func133,ntmps133
 go_wp2_with (go_at_call 184;refine (Zwr _ _).mono ?_;rintro e w' ⟨rfl,rfl⟩)
 all_goals (go_ret;refine ⟨?_,rfl⟩;unfold Zcx; (repeat' split) <;> first | rfl | (exfalso;omega))
theorem Zwc {a:Int} (h:(a != 0)=true):¬ a=0:=by simpa using h
theorem Zt0 {a:Int} (h:(a != 0)=false):a=0:=by simpa using h
theorem Zta {x y:Zi} (h:(Zcx x.src y.src != 0)=true):cmpE x y=Zcx x.src y.src:=by unfold cmpE ZeN Zgo;rw [Yb (fun e=>Zwc h (Zcm.2 e))]
theorem Zt7 {x y:Zi} (h0:(Zcx x.src y.src != 0)=false) (h:(Zcx x.kind y.kind != 0)=true):cmpE x y=Zcx x.kind y.kind:=by unfold cmpE ZeN Zgo;rw [Ye (Zcm.1 (Zt0 h0))];unfold Zgo;rw [Yb (fun e=>Zwc h (Zcm.2 e))]
theorem ZtX {x y:Zi} (h0:(Zcx x.src y.src != 0)=false) (h1:(Zcx x.kind y.kind != 0)=false) (h:(Zcx x.key y.key != 0)=true):cmpE x y=Zcx x.key y.key:=by unfold cmpE ZeN Zgo;rw [Ye (Zcm.1 (Zt0 h0))];unfold Zgo;rw [Ye (Zcm.1 (Zt0 h1))];unfold Zgo;rw [Yb (fun e=>Zwc h (Zcm.2 e))]
theorem Znz {x y:Zi} (h0:(Zcx x.src y.src != 0)=false) (h1:(Zcx x.kind y.kind != 0)=false) (h2:(Zcx x.key y.key != 0)=false):cmpE x y=Zcx x.dst y.dst:=by
 unfold cmpE ZeN Zgo;rw [Ye (Zcm.1 (Zt0 h0))];unfold Zgo;rw [Ye (Zcm.1 (Zt0 h1))];unfold Zgo;rw [Ye (Zcm.1 (Zt0 h2))];unfold Zgo
 by_cases h:x.dst=y.dst
 ·rw [Ye h,Zcm.2 h];rfl
 ·rw [Yb h]
theorem Zuq {x y:Zi} (h0:(Zcx x.src y.src != 0)=false) (h1:(Zcx x.kind y.kind != 0)=false) (h2:(Zcx x.key y.key != 0)=false) (h3:(Zcx x.dst y.dst != 0)=false):cmpE x y=0:=by rw [Znz h0 h1 h2];exact Zt0 h3
def objs4 (x y:Zi):Array Obj:=#[Obj.cells #[.int .i64 x.src,.int .i64 x.dst,.int .i64 x.kind,.int .i64 x.key] 116,Obj.cells #[.int .i64 y.src,.int .i64 y.dst,.int .i64 y.kind,.int .i64 y.key] 116,Obj.cells #[.int .i64 x.src,.int .i64 x.kind,.int .i64 x.key,.int .i64 x.dst] 313,Obj.cells #[.int .i64 y.src,.int .i64 y.kind,.int .i64 y.key,.int .i64 y.dst] 313]
theorem Zq5 (x y:Zi) (w:World):Calls prog 180 #[.agg #[.int .i64 x.src,.int .i64 x.dst,.int .i64 x.kind,.int .i64 x.key],.agg #[.int .i64 y.src,.int .i64 y.dst,.int .i64 y.kind,.int .i64 y.key]] w fun e w'=>e = .returned (.int .i64 (cmpE x y)) ∧ ∃ q,w' = { w.drewN q with heap:=w.heap++objs4 x y } := by
 go_enter func180,ntmps180
 go_wp2
 have hw1:((((w.alloc (Obj.cells #[.int .i64 x.src,.int .i64 x.dst,.int .i64 x.kind,.int .i64 x.key] 116)).alloc (Obj.cells #[.int .i64 y.src,.int .i64 y.dst,.int .i64 y.kind,.int .i64 y.key] 116)).alloc (Obj.cells #[.int .i64 x.src,.int .i64 x.kind,.int .i64 x.key,.int .i64 x.dst] 313)).alloc (Obj.cells #[.int .i64 y.src,.int .i64 y.kind,.int .i64 y.key,.int .i64 y.dst] 313)) = { w with heap:=w.heap++objs4 x y } := by
  have e:∀ (w:World) (o:Obj),w.alloc o = { w with heap:=w.heap.push o } := fun _ _=>rfl
  simp only [e,objs4]
  congr 1
 rw [hw1]
 clear hw1
 have ka:∀ j v,(#[Value.int .i64 x.src,.int .i64 x.kind,.int .i64 x.key,.int .i64 x.dst])[j]? = some v→({ w with heap:=w.heap++objs4 x y } : World).cell? ⟨w.heap.size+1+1,j,none⟩ = some v:=by
  intro j v hj
  rw [ZI (vs:=#[Value.int .i64 x.src,.int .i64 x.kind,.int .i64 x.key,.int .i64 x.dst]) (T:=313) (fr:=(0,0)) (by show (w.heap++objs4 x y)[w.heap.size+1+1]? = _;rw [Array.getElem?_append_right ow,show w.heap.size+1+1 - w.heap.size=2 by omega];rfl)]
  exact hj
 have kb:∀ j v,(#[Value.int .i64 y.src,.int .i64 y.kind,.int .i64 y.key,.int .i64 y.dst])[j]? = some v→({ w with heap:=w.heap++objs4 x y } : World).cell? ⟨w.heap.size+1+1+1,j,none⟩ = some v:=by
  intro j v hj
  rw [ZI (vs:=#[Value.int .i64 y.src,.int .i64 y.kind,.int .i64 y.key,.int .i64 y.dst]) (T:=313) (fr:=(0,0)) (by show (w.heap++objs4 x y)[w.heap.size+1+1+1]? = _;rw [Array.getElem?_append_right ow,show w.heap.size+1+1+1 - w.heap.size=3 by omega];rfl)]
  exact hj
 have a0:({ w with heap:=w.heap++objs4 x y } : World).cell? ⟨w.heap.size+1+1,0,none⟩ = some (.int .i64 x.src):=ka 0 _ rfl
 have a1:({ w with heap:=w.heap++objs4 x y } : World).cell? ⟨w.heap.size+1+1,1,none⟩ = some (.int .i64 x.kind):=ka 1 _ rfl
 have a2:({ w with heap:=w.heap++objs4 x y } : World).cell? ⟨w.heap.size+1+1,2,none⟩ = some (.int .i64 x.key):=ka 2 _ rfl
 have a3:({ w with heap:=w.heap++objs4 x y } : World).cell? ⟨w.heap.size+1+1,3,none⟩ = some (.int .i64 x.dst):=ka 3 _ rfl
 have b0:({ w with heap:=w.heap++objs4 x y } : World).cell? ⟨w.heap.size+1+1+1,0,none⟩ = some (.int .i64 y.src):=kb 0 _ rfl
 have b1:({ w with heap:=w.heap++objs4 x y } : World).cell? ⟨w.heap.size+1+1+1,1,none⟩ = some (.int .i64 y.kind):=kb 1 _ rfl
 have b2:({ w with heap:=w.heap++objs4 x y } : World).cell? ⟨w.heap.size+1+1+1,2,none⟩ = some (.int .i64 y.key):=kb 2 _ rfl
 have b3:({ w with heap:=w.heap++objs4 x y } : World).cell? ⟨w.heap.size+1+1+1,3,none⟩ = some (.int .i64 y.dst):=kb 3 _ rfl
 clear ka kb
 have hfin:∀ q (w':World),w' = ({ w with heap:=w.heap++objs4 x y } : World).drewN q → ∃ q,w' = { w.drewN q with heap:=w.heap++objs4 x y } := fun q w' e=>⟨q,e⟩
 generalize ({ w with heap:=w.heap++objs4 x y } : World)=w1 at *
 generalize w.heap.size=n0 at *
 refine wp_loop_rounds 5 ?_
 rw [Ybz]
 go_wp2
 go_quiet ((go_at_call 133;refine Calls.quiet_of_same (Zvy _ _ _)))
 go_wp2
 ·go_ret
  exact ⟨Y8 (fun z=>Ending.returned (.int .i64 z)) (Zta WM).symm,hfin _ _ rfl⟩
 have hfin1:∀ q (w':World),w' = (w1.drewN nq).drewN q → ∃ q,w' = { w.drewN q with heap:=w.heap++objs4 x y } := fun q w' e=>hfin (nq+q) w' WN
 have a1':(w1.drewN nq).cell? ⟨n0+1+1,1,none⟩ = some (.int .i64 x.kind):=a1
 have b1':(w1.drewN nq).cell? ⟨n0+1+1+1,1,none⟩ = some (.int .i64 y.kind):=b1
 have a2':(w1.drewN nq).cell? ⟨n0+1+1,2,none⟩ = some (.int .i64 x.key):=a2
 have b2':(w1.drewN nq).cell? ⟨n0+1+1+1,2,none⟩ = some (.int .i64 y.key):=b2
 have a3':(w1.drewN nq).cell? ⟨n0+1+1,3,none⟩ = some (.int .i64 x.dst):=a3
 have b3':(w1.drewN nq).cell? ⟨n0+1+1+1,3,none⟩ = some (.int .i64 y.dst):=b3
 clear hfin a0 b0 a1 b1 a2 b2 a3 b3
 generalize w1.drewN nq=w2 at *
 rw [Ybz]
 go_wp2
 go_quiet ((go_at_call 133;refine Calls.quiet_of_same (Zvy _ _ _)))
 go_wp2
 ·go_ret
  exact ⟨Y8 (fun z=>Ending.returned (.int .i64 z)) (Zt7 WM WM).symm,hfin1 _ _ rfl⟩
 have hfin2:∀ q (w':World),w' = (w2.drewN nq).drewN q → ∃ q,w' = { w.drewN q with heap:=w.heap++objs4 x y } := fun q w' e=>hfin1 (nq+q) w' WN
 have a2'':(w2.drewN nq).cell? ⟨n0+1+1,2,none⟩ = some (.int .i64 x.key):=a2'
 have b2'':(w2.drewN nq).cell? ⟨n0+1+1+1,2,none⟩ = some (.int .i64 y.key):=b2'
 have a3'':(w2.drewN nq).cell? ⟨n0+1+1,3,none⟩ = some (.int .i64 x.dst):=a3'
 have b3'':(w2.drewN nq).cell? ⟨n0+1+1+1,3,none⟩ = some (.int .i64 y.dst):=b3'
 clear hfin1 a1' b1' a2' b2' a3' b3'
 generalize w2.drewN nq=w3 at *
 rw [Ybz]
 go_wp2
 go_quiet ((go_at_call 133;refine Calls.quiet_of_same (Zvy _ _ _)))
 go_wp2
 ·go_ret
  exact ⟨Y8 (fun z=>Ending.returned (.int .i64 z)) (ZtX WM WM WM).symm,hfin2 _ _ rfl⟩
 have hfin3:∀ q (w':World),w' = (w3.drewN nq).drewN q → ∃ q,w' = { w.drewN q with heap:=w.heap++objs4 x y } := fun q w' e=>hfin2 (nq+q) w' WN
 have a3''':(w3.drewN nq).cell? ⟨n0+1+1,3,none⟩ = some (.int .i64 x.dst):=a3''
 have b3''':(w3.drewN nq).cell? ⟨n0+1+1+1,3,none⟩ = some (.int .i64 y.dst):=b3''
 clear hfin2 a2'' b2'' a3'' b3''
 generalize w3.drewN nq=w4 at *
 rw [Ybz]
 go_wp2
 go_quiet ((go_at_call 133;refine Calls.quiet_of_same (Zvy _ _ _)))
 go_wp2
 ·go_ret
  exact ⟨Y8 (fun z=>Ending.returned (.int .i64 z)) (Znz WM WM WM).symm,hfin3 _ _ rfl⟩
 have hfin4:∀ q (w':World),w' = (w4.drewN nq).drewN q → ∃ q,w' = { w.drewN q with heap:=w.heap++objs4 x y } := fun q w' e=>hfin3 (nq+q) w' WN
 clear hfin3 a3''' b3'''
 generalize w4.drewN nq=w5 at *
 rw [Ybz]
 go_wp2
 go_ret
 exact ⟨Y8 (fun z=>Ending.returned (.int .i64 z)) (Zuq WM WM WM WM).symm,hfin4 0 _ rfl⟩
def ZeA (e:Zi):List Value:=[.int .i64 e.src,.int .i64 e.dst,.int .i64 e.kind,.int .i64 e.key]
theorem ZhF:∀ (l:List Zi) (j:Nat),(l.flatMap ZeA)[j]? = if j<l.length*4 then some ((ZeA l[j / 4]!)[j % 4]!) else none
 | [],j=>by simp
 | e :: l,j=>by
  rw [Y0]
  by_cases hj:j<4
  ·rw [List.getElem?_append_left (by simpa [ZeA] using hj),Ye XT,show j / 4=0 by omega,show j % 4=j by omega]
   match j,hj with
   | 0,_=>rfl
   | 1,_=>rfl
   | 2,_=>rfl
   | 3,_=>rfl
  ·obtain ⟨k,rfl⟩:∃ k,j=k+4:=⟨j - 4,ow⟩
   rw [List.getElem?_append_right (by simp [ZeA]),show k+4 - (ZeA e).length=k by simp [ZeA],ZhF l k,show (k+4) / 4=k / 4+1 by omega,show (k+4) % 4=k % 4 by omega]
   by_cases h:k<l.length*4
   ·rw [Ye h,Ye XT];simp
   ·rw [Yb h,Yb XT]
theorem ZgT (l:List Zi):(Go.Sort.flatK ZeA 4 l.toArray).toList=l.flatMap ZeA:=by
 apply List.ext_getElem?
 intro j
 rw [ZhF]
 by_cases h:j<l.length*4
 ·rw [Ye h];simp [Go.Sort.flatK,h]
 ·rw [Yb h];simp [Go.Sort.flatK];omega
def inE (e:Zi):Prop:=inR .i64 e.src∧inR .i64 e.dst∧inR .i64 e.kind∧inR .i64 e.key
theorem ZiR {w:World} {y:Ys} : ∀ {l:List Zi} {xs:List Value},PVs (l.flatMap ZE) xs w y→xs=l.flatMap ZeA ∧ ∀ e ∈ l,inE e
 | [],[],_=>⟨rfl,fun x hx=>by cases hx⟩
 | [],_ :: _,h=>h.elim
 | e :: l,[],h=>h.elim
 | e :: l,[_],h=>h.2.elim
 | e :: l,[_,_],h=>h.2.2.elim
 | e :: l,[_,_,_],h=>h.2.2.2.elim
 | e :: l,a :: b :: c :: d :: xs,h=>by
  have h1:a = .int .i64 e.src∧inR .i64 e.src:=h.1.2
  have h2:b = .int .i64 e.dst∧inR .i64 e.dst:=h.2.1.2
  have h3:c = .int .i64 e.kind∧inR .i64 e.kind:=h.2.2.1.2
  have h4:d = .int .i64 e.key∧inR .i64 e.key:=h.2.2.2.1.2
  obtain ⟨h5,h6⟩:=ZiR (l:=l) (xs:=xs) h.2.2.2.2
  exact ⟨by rw [h1.1,h2.1,h3.1,h4.1,h5];rfl,fun z hz=>by rcases Ym.1 hz with rfl | hz;exact ⟨h1.2,h2.2,h3.2,h4.2⟩;exact h6 z hz⟩
theorem ZeD {w:World} {y:Ys} : ∀ {l:List Zi},(∀ e ∈ l,inE e)→PVs (l.flatMap ZE) (l.flatMap ZeA) w y
 | [],_=>trivial
 | e :: l,h=>by
  have h1:=h e XM
  exact ⟨⟨rfl,rfl,h1.1⟩,⟨rfl,rfl,h1.2.1⟩,⟨rfl,rfl,h1.2.2.1⟩,⟨rfl,rfl,h1.2.2.2⟩,ZeD fun z hz=>h z W8⟩
theorem swoE:Go.Sort.SWO (Go.Proofs.ltOf cmpE) where
 irrefl x:=ZbQ.irr x
 trans x y z h1 h2:=ZbQ.tr x y z h1 h2
 ntrans x y z h1 h2:=by
  have h1:ltE x y=false:=h1
  have h2:ltE y z=false:=h2
  show ltE x z=false
  rw [ZjW] at *
  omega
theorem Ziv {w:World} {g n:Nat} {d:List Value} {os:Array Obj} {cur:Array Value} {e:TypeId} (hg:w.heap[g]? = some (.cells cur e (0,0))) (b:Nat) (hb:b<w.heap.size) :
  (Go.Sort.grow (Go.Sort.putRow id (Go.Sort.ahead w n) g 0 d.toArray) os).heap[b]? = if b=g then some (.cells (Go.Sort.putCells id 0 d.toArray cur) e (0,0)) else w.heap[b]?:=by
 unfold Go.Sort.grow Go.Sort.putRow Go.Sort.mapBlock Go.Sort.ahead
 simp only
 rw [Array.getElem?_append_left XS,Array.getElem?_modify]
 by_cases h:g=b
 ·subst h
  rw [Ye rfl,Ye rfl,hg];rfl
 ·rw [Yb h,Yb (fun e=>h e.symm)]
theorem Zpe {cur:Array Value} {d:List Value} (h:d.length≤cur.size):(Go.Sort.putCells id 0 d.toArray cur).toList.take d.length=d:=by
 apply YaM
 ·simp [Go.Sort.putCells];omega
 ·intro i h1 h2
  have hi:i<d.length:=h2
  simp [Go.Sort.putCells,hi]
theorem sortE_cmp (g n:Nat) (w:World):Go.Proofs.CmpLays prog 180 #[] ZeA 4 cmpE g 0 n w:=fun _ _ _ _ x y=>
 (Zq5 x y _).mono fun _ _ ⟨he,q,hq⟩=>⟨he,q,objs4 x y,hq⟩
theorem Zto (v:Value) (l:List Zi) (hlm:l.length≤1000000):FnG prog 179 1 [.is v,.is (.func (.func 180) #[] #[])] [Zz 116 4 ZE l v] (.tup []) (fun _=>[Zz 116 4 ZE (Zco l) v]):=by
 by_cases hl0:l = []
 ·subst hl0
  have h:=ZmG v [] XM (fun j _ h1=>absurd h1 XM)
  have e:Zco [] = []:=by simp [Zco]
  rw [e];exact h
 ·exact fun w F vs hw hle hvs hpr=>by
   match vs,hvs with
   | [u,fv],hvs=>
    have hu:u=v:=hvs.1.1
    have hfv:fv = .func (.func 180) #[] #[]:=hvs.2.1.1
    subst hu
    subst hfv
    obtain ⟨xs,⟨hxl,hx⟩,hp,hf⟩:=hpr 0 _ rfl
    rcases hx with ⟨rfl,h0⟩ | ⟨g,cap,cur,rfl,_,hg,hn,hcap,hcs,hct⟩
    ·exact absurd (YM h0) hl0
    ·have hgs:g<w.heap.size:=(YV.1 hg).1
     obtain ⟨hxe,hin⟩:=ZiR hp
     have hcl:l.length*4≤cur.size:=by rw [hcs];exact YN _ hn
     have hbig:l.toArray.size<4611686018427387904:=XT
     have hcur:∀ j,j<l.length*4→cur[j]? = (l.flatMap ZeA)[j]?:=fun j hj=>by
      have h1:(cur.toList.take (l.length*4))[j]? = (l.flatMap ZeA)[j]?:=by rw [hct,hxe]
      rw [List.getElem?_take_of_lt hj] at h1
      simpa using h1
     have hH:Go.Sort.HoldsK ZeA 4 w g 0 l.toArray:=fun j hj=>by
      have hj':j<l.length*4:=XJ
      refine ⟨?_,?_⟩
      ·rw [Yab,ZI hg,hcur j hj',ZhF,Ye hj',Go.Sort.get_flatK _ _ _ _ (by simpa using hj')]
       simp
      ·simp [World.frozen?,hg]
     have eg:∀ args w,(callFunc 180 args).run prog w = .ok (.enter 180 args) w:=enters_of func180 kr rfl
     have hcalls:Calls prog 179 #[.slice (some ⟨g,0,none⟩) l.toArray.size cap,.func (.func 180) #[] #[]] w fun e w'=>e = .returned (.tuple #[]) ∧ ∃ d' n os,Go.Sort.PermIn 0 l.toArray.size l.toArray d' ∧ Go.Sort.SortedIn (Go.Proofs.ltOf cmpE) 0 l.toArray.size d' ∧ w' = Go.Proofs.sortWorldK ZeA 4 w g 0 n d' os:=
      Go.Proofs.AnyQ.slices_SortFunc ZnA 4 Tryz.isAgg116 Tryz.sizeOf116 ZeA (fun _=>rfl) (fun x v hv=>by simp [ZeA] at hv;rcases hv with rfl | rfl | rfl | rfl <;> rfl) cmpE swoE 180 #[] g 0 cap l.toArray w eg (sortE_cmp g _ w) hH hgs hbig
     refine hcalls.mono ?_
     rintro e w' ⟨rfl,d',n,os,hperm,hsrt,rfl⟩
     have hd:d'.toList=Zco l:=Go.Sort.sorted_unique_holds swoE (fun x y h1 h2=>ZbQ.tot x y h1 h2) l.toArray d' hperm hsrt
     have hd2:d' = (Zco l).toArray:=by rw [← hd]
     subst hd2
     have hsl:(Zco l).length=l.length:=Zi9 l
     have hfl:(Go.Sort.flatK ZeA 4 (Zco l).toArray)=((Zco l).flatMap ZeA).toArray:=by rw [← ZgT]
     have hfn:((Zco l).flatMap ZeA).length=l.length*4:=by
      have h2:=Y8 List.length (ZgT (Zco l))
      rw [← h2,Array.length_toList,Go.Sort.size_flatK,YaF,hsl]
     have hW:Go.Proofs.sortWorldK ZeA 4 w g 0 n (Zco l).toArray os=Go.Sort.grow (Go.Sort.putRow id (Go.Sort.ahead w n) g 0 ((Zco l).flatMap ZeA).toArray) os:=by
      unfold Go.Proofs.sortWorldK Go.Sort.putRowK
      rw [hfl]
     rw [hW]
     have hheap:=fun b hb=>Ziv (n:=n) (d:=(Zco l).flatMap ZeA) (os:=os) hg b hb
     have hsz:(Go.Sort.grow (Go.Sort.putRow id (Go.Sort.ahead w n) g 0 ((Zco l).flatMap ZeA).toArray) os).heap.size=w.heap.size+os.size:=by simp [Go.Sort.ahead]
     have hfg:F 1 g:=(hf g).2 rfl
     have hst:Stp (List.range' 1 1) w F (Go.Sort.grow (Go.Sort.putRow id (Go.Sort.ahead w n) g 0 ((Zco l).flatMap ZeA).toArray) os) F:=
      ⟨rfl,rfl,rfl,by rw [hsz];omega,fun b hb hn=>by
       rw [hheap b hb,Yb (fun e=>by subst e;exact hn 1 XM hfg)],fun _ _=>rfl,fun n hn b hb=>.inl ⟨n,hn,hb⟩⟩
     refine ⟨.tuple #[],F,rfl,⟨hw.dis,fun n b hb=>by rw [hsz];have:=hw.bd n b hb;omega⟩,hst,hle,⟨[],rfl,tv⟩,fun i h hi=>?_⟩
     match i,hi with
     | 0,hi=>
      simp only [Yby,YX] at hi
      subst hi
      refine ⟨(Zco l).flatMap ZeA,⟨by rw [hfn,hsl],.inr ⟨g,cap,_,by rw [hsl],YA _,(hheap g hgs).trans (Ye rfl),by rw [hsl];exact hn,hcap,by simp [Go.Sort.putCells,hcs],?_⟩⟩,ZeD fun x hx=>hin x ((YaI l _).mem_iff.1 hx),hf⟩
      rw [hsl,← hfn];exact Zpe (by rw [hfn];exact hcl)
theorem Zq8 (l:List Zi) (hl:l.length≤1000000):FnP prog 124 [.sl ZE l] (.sl ZE (Zbv ltE l)):=by
 refine FnP.mk func124 rfl ntmps124 rfl fun B a w F Z hfr G=>?_
 have hll:=Sat.lenSl G (i:=0) rfl
 refine Ya (rZ G (qC qZ) Z Q0 [0] fun G=>Ya ?_)
 replace G:=G.fresh 101 rfl
 refine rS G (qR rr (qf (ZbS 101 (Znf l ow) func143 rfl kr (Args.one .t) pvOne1) r1 r1 (qO rr qZ))) Z Q8 KN fun τ G=>?_
 have G:=XB
 generalize τ 5=v5 at G
 refine Za (Ya (rZ G (qR rr (qf (ZbF 101 (Zto _ l ow) func179 rfl kr (Args.two .t .f)) r1 r1 qZ)) Z Q8 KN fun G=>Ya ?_))
 refine rS G (qR rr (qf (o_callRowN 101 (ZkK _ _ (by rw [Zi9];omega)) func181 rfl kr (Args.one .t) pvOne1) r1 r1 (qO rr qZ))) Z [2] KN fun τ G=>?_
 have G:=XB
 generalize τ 9=v9 at G
 refine Za (Yj ?_)
 obtain ⟨F,G⟩:=G.give 101 2 rfl rfl
 refine Zo hfr G rfl rfl rfl (.sl (ZmO l))
theorem ZgY {α:Type} {lt:α→α→Bool} (h:STO lt):∀ {l m:List α},Zou lt l→Zou lt m→(∀ x,x ∈ l ↔ x ∈ m)→l=m
 | [],[],_,_,_=>rfl
 | [],y :: m,_,_,he=>by have:=(he y).2 XM;cases this
 | x :: l,[],_,_,he=>by have:=(he x).1 XM;cases this
 | x :: l,y :: m,hl,hm,he=>by
  obtain ⟨h1,h2⟩:=Yu.1 hl
  obtain ⟨h3,h4⟩:=Yu.1 hm
  have hxy:x=y:=by
   rcases Ym.1 ((he x).1 XM) with e | hx
   ·exact e
   ·rcases Ym.1 ((he y).2 XM) with e | hy
    ·exact e.symm
    ·have a1:=h1 y hy
     have a2:=h3 x hx
     have a3:=h.tr x y x a1 a2
     rw [h.irr x] at a3;cases a3
  subst hxy
  congr 1
  refine ZgY h h2 h4 fun z=>⟨fun hz=>?_,fun hz=>?_⟩
  ·rcases Ym.1 ((he z).1 (Yy _ hz)) with e | h9
   ·subst e
    have:=h1 z hz
    rw [h.irr z] at this;cases this
   ·exact h9
  ·rcases Ym.1 ((he z).2 (Yy _ hz)) with e | h9
   ·subst e
    have:=h3 z hz
    rw [h.irr z] at this;cases this
   ·exact h9
theorem ZjS {l m:List Zi} (he:∀ x,x ∈ l ↔ x ∈ m):Zbv ltE l=Zbv ltE m:=
 ZgY ZbQ (ZbB ZbQ l).1 (ZbB ZbQ m).1 fun x=>by rw [(ZbB ZbQ l).2,(ZbB ZbQ m).2,he x]
structure HvD where
 edge:Zi
 cnt:Int
 deriving DecidableEq,Inhabited
def rHv (x:HvD):List PV:=[.int .i64 x.edge.src,.int .i64 x.edge.dst,.int .i64 x.edge.kind,.int .i64 x.edge.key,.int .i64 x.cnt]
def cntA (A:List (Zi×Int)) (R:List Zi) (e:Zi):Int:=Zm5 A e+(R.count e:Int)
def Zgq (A:List (Zi×Int)) (R:List Zi):List Zi:=A.map Prod.fst++R
def Zg5 (A:List (Zi×Int)) (R:List Zi):List HvD:=(Zbv ltE (Zgq A R)).map fun e=>⟨e,cntA A R e⟩
theorem Zfi {es:List (GE Zi Int)} {A:List (Zi×Int)} {R ks:List Zi} (hE:Zg0 es A R) (hk:ks.Perm (es.map (·.key))):Zbv ltE ks=Zbv ltE (Zgq A R):=ZjS fun x=>by
 unfold Zgq
 rw [hk.mem_iff,YC,← hE.key x,Ze1]
theorem Zg7 {A:List (Zi×Int)} {R:List Zi} : (Zg5 A R).length=(Zbv ltE (Zgq A R)).length:=YJ _
theorem ZqC {g:Zl} (h:ZA g):NE g.orders:=fun o ho=>by
 have h2:=(ZcQ g).2 h.2.2
 obtain ⟨j,hj,e⟩:=YR ho
 have:=(h2.2 j hj).2.1
 rwa [nth_eq hj,e] at this
structure EdD where
 kind:Int
 t:TxD
 o:OrdD
 place:Int
 deriving DecidableEq,Inhabited
def doH (g:Zl) (e:EdD):Zl×Int:=if e.kind=0 then ZoZ g e.t else if e.kind=1 then ZoS g e.t.id else if e.kind=2 then ZsQ g e.t else if e.kind=3 then Zr1 g e.o else if e.kind=4 then Zv2 g e.o.key e.t.id e.place else (ZbU,5)
def Zjb (e:EdD):Prop:=e.t.ops.length≤24∧e.o.txs.length≤24
instance (e:EdD):Decidable (Zjb e):=by unfold Zjb;exact inferInstance
def ZsE (l:List EdD):Prop:=l.length≤24 ∧ ∀ e ∈ l,Zjb e
instance (l:List EdD):Decidable (ZsE l):=by unfold ZsE;exact inferInstance
def Zlx (g:Zl) (e:EdD):Zl:=if (doH g e).2=0 then (doH g e).1 else g
def Fit (n:Nat) (g:Zl):Prop:=(g.txs.length≤n ∧ ∀ t ∈ g.txs,t.ops.length≤24)∧g.orders.length≤24*n ∧ ∀ o ∈ g.orders,o.txs.length≤n
theorem Fit.small {n:Nat} {g:Zl} (h:Fit n g) (hn:n≤30):Zcj g:=by
 obtain ⟨⟨h1,h2⟩,h3,h4⟩:=h
 exact ⟨⟨ow,fun t ht=>by have:=h2 t ht;omega⟩,ow,fun o ho=>by have:=h4 o ho;omega⟩
theorem Fit.zero:Fit 0 ZbU:=⟨⟨by simp [ZbU],fun t ht=>by cases ht⟩,by simp [ZbU],fun o ho=>by cases ho⟩
theorem Fit.up {n:Nat} {g:Zl} (h:Fit n g):Fit (n+1) g:=⟨⟨by have:=h.1.1;omega,h.1.2⟩,by have:=h.2.1;omega,fun o ho=>by have:=h.2.2 o ho;omega⟩
theorem Fit.none {n:Nat} : Fit n ZbU:=by
 induction n with
 | zero=>exact Fit.zero
 | succ n ih=>exact ih.up
theorem ZoT {os:List OrdD} {ks:List Int} {t:TxD} {o:OrdD} (h:o ∈ Zva t os ks):o ∈ os∨o.txs = []:=by
 unfold Zva at h
 split at h
 ·have key:∀ (ks:List Int) (os:List OrdD),o ∈ ks.foldl ZsI os→o ∈ os∨o.txs = []:=by
   intro ks
   induction ks with
   | nil=>intro os h;exact .inl h
   | cons k ks ih=>
    intro os h
    rcases ih _ h with h | h
    ·rcases ZrH h with h | h
     ·exact .inl h
     ·exact .inr (by rw [h])
    ·exact .inr h
  exact key ks os h
 ·exact .inl h
theorem ZmI {n:Nat} {t:TxD} {os:List OrdD} (ht:t.ops.length≤24) (h1:os.length≤24*n) (h2:∀ o ∈ os,o.txs.length≤n):(settleO t os).length≤24*(n+1) ∧ ∀ o ∈ settleO t os,o.txs.length≤n+1:=by
 have hk:=Zcu t
 have hl:(Zva t os (ZH t)).length≤os.length+(ZH t).length:=by
  unfold Zva
  split
  ·have key:∀ (ks:List Int) (os:List OrdD),(ks.foldl ZsI os).length≤os.length+ks.length:=by
    intro ks
    induction ks with
    | nil=>intro os;simp
    | cons k ks ih=>intro os;have h1:=ih (ZsI os k);have h2:=ZqL os k;rw [Yav,Yh];omega
   exact key _ _
  ·omega
 unfold settleO
 refine ⟨Yaa (Yac _ _) (by rw [YJ];omega),fun o ho=>?_⟩
 obtain ⟨o',ho',e⟩:=YB.1 (YK.1 ho).1
 have hlen:o'.txs.length≤n:=by
  rcases ZoT ho' with h | h
  ·exact h2 o' h
  ·rw [h];simp
 rw [← e]
 unfold Zwj
 show (if _ then _ else _:List Int).length≤_
 split
 ·unfold Zvi;split
  ·omega
  ·simp;omega
 ·unfold Zhz
  exact Yaa (Yac _ _) ow
theorem Zg1 {n:Nat} {g:Zl} {key:Int} {rule:List Int→List Int×Int} (hr:∀ l,(rule l).2=0→(rule l).1.length≤l.length) (h:Fit n g):Fit n (ZhN g key rule).1:=by
 unfold ZhN
 split
 ·exact Fit.none
 ·split
  ·exact Fit.none
  ·split
   ·exact Fit.none
   ·rename_i h1 h2 h3
    refine ⟨h.1,by show (List.set _ _ _).length≤_;rw [YU];exact h.2.1,fun o ho=>?_⟩
    rcases List.mem_or_eq_of_mem_set ho with h4 | h4
    ·exact h.2.2 o h4
    ·have hk:isK OrdD.key key g.orders=true:=W5
     have hlt:=(ZtY (ZO (Decidable.not_not.1 h1)).2 hk).1
     have:=hr _ (Decidable.not_not.1 h3)
     have:=h.2.2 _ (nth_mem hlt)
     rw [h4];show (rule _).1.length≤n;omega
theorem Fit.doH {n:Nat} {g:Zl} {e:EdD} (h:Fit n g) (he:Zjb e):Fit (n+1) (doH g e).1:=by
 have hset:∀ t:TxD,t.ops.length≤24 → ∀ txs:List TxD,txs.length≤n+1→(∀ t ∈ txs,t.ops.length≤24)→Fit (n+1) ⟨txs,settleO t g.orders⟩:=fun t ht txs h1 h2=>by
  obtain ⟨h3,h4⟩:=ZmI ht h.2.1 h.2.2
  exact ⟨⟨h1,h2⟩,h3,h4⟩
 unfold Go.Proofs.YtolmpgbpdapaiaaGreat.doH
 split
 ·unfold ZoZ
  split
  ·exact Fit.none
  ·split
   ·exact Fit.none
   ·refine hset _ he.1 _ ?_ fun t ht=>?_
    ·have:=h.1.1;rw [Yc,Yc,Yp,YS];simp;omega
    ·rw [YC,YC] at ht
     rcases ht with (ht | ht) | ht
     ·exact h.1.2 t (Yaw ht)
     ·rw [Yn.1 ht];exact he.1
     ·exact h.1.2 t (Ybs ht)
 ·split
  ·unfold ZoS
   split
   ·exact Fit.none
   ·split
    ·exact Fit.none
    ·split
     ·exact Fit.none
     ·refine hset _ (by simp [Ztn]) _ ?_ fun t ht=>?_
      ·have:=h.1.1;rw [Yc,Yp,YS];omega
      ·rw [YC] at ht
       rcases ht with ht | ht
       ·exact h.1.2 t (Yaw ht)
       ·exact h.1.2 t (Ybs ht)
  ·split
   ·unfold ZsQ
    split
    ·exact Fit.none
    ·split
     ·exact Fit.none
     ·refine hset _ he.1 _ ?_ fun t ht=>?_
      ·have:=h.1.1;rw [YU];omega
      ·rcases List.mem_or_eq_of_mem_set ht with ht | ht
       ·exact h.1.2 t ht
       ·rw [ht];exact he.1
   ·split
    ·refine (Zg1 (fun l h0=>?_) h).up
     unfold Zvg at h0 ⊢
     split at h0
     ·rename_i hp;rw [Ye hp,hp.length_eq];exact YF _
     ·simp at h0
    ·split
     ·exact (Zg1 (fun l h0=>by show (ZrA l _ _).1.length≤_;exact Zo9 _ _ _) h).up
     ·exact Fit.none
theorem Fit.step {n:Nat} {g:Zl} {e:EdD} (h:Fit n g) (he:Zjb e):Fit (n+1) (Zlx g e):=by
 unfold Zlx
 split
 ·exact h.doH he
 ·exact h.up
theorem Sat.aggInt {B:ZaV} {E:En} {a:Act} {w:World} {F:Fp} (h:Sat B E a w F) {i:Nat} {l:List PV} {k:Nat} {x:Int} (hl:Go.Gm.look E.s i=some (SF.pv (PV.agg l))) (hk:l[k]? = some (.int .i64 x)):inR .i64 x:=by
 obtain ⟨vs,_,hv⟩:=h.s i _ hl
 obtain ⟨v,_,h2⟩:=PVs.at hv hk
 exact h2.2
theorem ZsM (k:Int):FnP prog 107 [.int .i64 k] (.agg (rWd (Z3 k))):=by
 refine FnP.mk func107 rfl ntmps107 rfl fun B a w F Z hfr G=>Ya ?_
 refine rS G (qf (oH [.string ⟨#[]⟩,.int .i64 0,.int .i64 0] 101) trivial qz qZ) Z Q0 KN fun τ G=>?_
 have G:=X5
 generalize τ 2=v2 at G
 refine Za (Ya (Ya (rZ G (qR rr qZ) Z Q8 KN fun G=>(Yi (Ya ?_)))))
 refine rZ G (qf (o_eql .t qi) r1 qz (qO rr qZ)) Z QJ KN fun G=>?_
 refine Zb G rfl (fun hc0=>?_) (fun hc0=>?_)
 ·have hk:=Yd hc0
  subst hk
  refine Ya (rZ G (qf (oB [(0,_),(1,_),(2,_)] [.string ⟨#[]⟩,.int .i64 0,.int .i64 0] [(0,1),(1,1),(2,1)] (.one rfl (.cs kr) Zah kr (.one rfl qi one_int kr (.one rfl qi one_int kr .nil)))) trivial qz (qs 3 101 r2 r1 qZ)) Z [2] KN fun G=>(Yj (Zn (Zh ?_))))
  refine ZW hfr G rfl (.cl 101 true 3 rfl rfl .nil) (.one (.aggU rfl WO))
 have n1:=Yk hc0
 refine Ya (rZ G (qf (o_eql .t qi) r1 qz (qO rr qZ)) Z [7,3,2] KN fun G=>?_)
 refine Zb G rfl (fun hc1=>?_) (fun hc1=>?_)
 ·have hk:=Yd hc1
  subst hk
  refine Ya (rZ G (qf (oB [(0,_),(1,_),(2,_)] [.string ⟨#[]⟩,.int .i64 0,.int .i64 0] [(0,1),(1,1),(2,1)] (.one rfl (.cs kr) Zah kr (.one rfl qi one_int kr (.one rfl qi one_int kr .nil)))) trivial qz (qs 3 101 r2 r1 qZ)) Z [2] KN fun G=>(Yj (Zn (Zh ?_))))
  refine ZW hfr G rfl (.cl 101 true 3 rfl rfl .nil) (.one (.aggU rfl WO))
 have n2:=Yk hc1
 refine Ya (rZ G (qf (o_eql .t qi) r1 qz (qO rr qZ)) Z [10,3,2] KN fun G=>?_)
 refine Zb G rfl (fun hc2=>?_) (fun hc2=>?_)
 ·have hk:=Yd hc2
  subst hk
  refine Ya (rZ G (qf (oB [(0,_),(1,_),(2,_)] [.string ⟨#[]⟩,.int .i64 0,.int .i64 0] [(0,1),(1,1),(2,1)] (.one rfl (.cs kr) Zah kr (.one rfl qi one_int kr (.one rfl qi one_int kr .nil)))) trivial qz (qs 3 101 r2 r1 qZ)) Z [2] KN fun G=>(Yj (Zn (Zh ?_))))
  refine ZW hfr G rfl (.cl 101 true 3 rfl rfl .nil) (.one (.aggU rfl WO))
 have n3:=Yk hc2
 refine Ya (rZ G (qf (o_eql .t qi) r1 qz (qO rr qZ)) Z [13,3,2] KN fun G=>?_)
 refine Zb G rfl (fun hc3=>?_) (fun hc3=>?_)
 ·have hk:=Yd hc3
  subst hk
  refine Ya (rZ G (qf (oB [(0,_),(1,_),(2,_)] [.string ⟨#[]⟩,.int .i64 0,.int .i64 0] [(0,1),(1,1),(2,1)] (.one rfl (.cs kr) Zah kr (.one rfl qi one_int kr (.one rfl qi one_int kr .nil)))) trivial qz (qs 3 101 r2 r1 qZ)) Z [2] KN fun G=>(Yj (Zn (Zh ?_))))
  refine ZW hfr G rfl (.cl 101 true 3 rfl rfl .nil) (.one (.aggU rfl WO))
 have n4:=Yk hc3
 refine Ya (rZ G (qf (o_eql .t qi) r1 qz (qO rr qZ)) Z [16,3,2] KN fun G=>?_)
 refine Zb G rfl (fun hc4=>?_) (fun hc4=>?_)
 ·have hk:=Yd hc4
  subst hk
  refine Ya (rZ G (qf (oB [(0,_),(1,_),(2,_)] [.string ⟨#[]⟩,.int .i64 0,.int .i64 0] [(0,1),(1,1),(2,1)] (.one rfl (.cs kr) Zah kr (.one rfl qi one_int kr (.one rfl qi one_int kr .nil)))) trivial qz (qs 3 101 r2 r1 qZ)) Z [2] KN fun G=>(Yj (Zn (Zh ?_))))
  refine ZW hfr G rfl (.cl 101 true 3 rfl rfl .nil) (.one (.aggU rfl WO))
 have n5:=Yk hc4
 refine Ya (rZ G (qf (o_eql .t qi) r1 qz (qO rr qZ)) Z [19,3,2] KN fun G=>?_)
 refine Zb G rfl (fun hc5=>?_) (fun hc5=>?_)
 ·have hk:=Yd hc5
  subst hk
  refine Ya (rZ G (qf (oB [(0,_),(1,_),(2,_)] [.string ⟨#[]⟩,.int .i64 0,.int .i64 0] [(0,1),(1,1),(2,1)] (.one rfl (.cs kr) Zah kr (.one rfl qi one_int kr (.one rfl qi one_int kr .nil)))) trivial qz (qs 3 101 r2 r1 qZ)) Z [2] KN fun G=>(Yj (Zn (Zh ?_))))
  refine ZW hfr G rfl (.cl 101 true 3 rfl rfl .nil) (.one (.aggU rfl WO))
 have n6:=Yk hc5
 refine Ya (rZ G (qf (o_eql .t qi) r1 qz (qO rr qZ)) Z [22,3,2] KN fun G=>?_)
 refine Zb G rfl (fun hc6=>?_) (fun hc6=>?_)
 ·have hk:=Yd hc6
  subst hk
  refine Ya (rZ G (qf (oB [(0,_),(1,_),(2,_)] [.string ⟨#[]⟩,.int .i64 0,.int .i64 0] [(0,1),(1,1),(2,1)] (.one rfl (.cs kr) Zah kr (.one rfl qi one_int kr (.one rfl qi one_int kr .nil)))) trivial qz (qs 3 101 r2 r1 qZ)) Z [2] KN fun G=>(Yj (Zn (Zh ?_))))
  refine ZW hfr G rfl (.cl 101 true 3 rfl rfl .nil) (.one (.aggU rfl WO))
 have n7:=Yk hc6
 refine Ya (rZ G (qf (o_eql .t qi) r1 qz (qO rr qZ)) Z [25,3,2] KN fun G=>?_)
 refine Zb G rfl (fun hc7=>?_) (fun hc7=>?_)
 ·have hk:=Yd hc7
  subst hk
  refine Ya (rZ G (qf (oB [(0,_),(1,_),(2,_)] [.string ⟨#[]⟩,.int .i64 0,.int .i64 0] [(0,1),(1,1),(2,1)] (.one rfl (.cs kr) Zah kr (.one rfl qi one_int kr (.one rfl qi one_int kr .nil)))) trivial qz (qs 3 101 r2 r1 qZ)) Z [2] KN fun G=>(Yj (Zn (Zh ?_))))
  refine ZW hfr G rfl (.cl 101 true 3 rfl rfl .nil) (.one (.aggU rfl WO))
 have n8:=Yk hc7
 refine Ya (rZ G (qf (o_eql .t qi) r1 qz (qO rr qZ)) Z [28,3,2] KN fun G=>?_)
 refine Zb G rfl (fun hc8=>?_) (fun hc8=>?_)
 ·have hk:=Yd hc8
  subst hk
  refine Ya (rZ G (qf (oB [(0,_),(1,_),(2,_)] [.string ⟨#[]⟩,.int .i64 0,.int .i64 0] [(0,1),(1,1),(2,1)] (.one rfl (.cs kr) Zah kr (.one rfl qi one_int kr (.one rfl qi one_int kr .nil)))) trivial qz (qs 3 101 r2 r1 qZ)) Z [2] KN fun G=>(Yj (Zn (Zh ?_))))
  refine ZW hfr G rfl (.cl 101 true 3 rfl rfl .nil) (.one (.aggU rfl WO))
 have n9:=Yk hc8
 refine Ya (rZ G (qf (o_eql .t qi) r1 qz (qO rr qZ)) Z [31,3,2] KN fun G=>?_)
 refine Zb G rfl (fun hc9=>?_) (fun hc9=>?_)
 ·have hk:=Yd hc9
  subst hk
  refine Ya (rZ G (qf (oB [(0,_),(1,_),(2,_)] [.string ⟨#[]⟩,.int .i64 0,.int .i64 0] [(0,1),(1,1),(2,1)] (.one rfl (.cs kr) Zah kr (.one rfl qi one_int kr (.one rfl qi one_int kr .nil)))) trivial qz (qs 3 101 r2 r1 qZ)) Z [2] KN fun G=>(Yj (Zn (Zh ?_))))
  refine ZW hfr G rfl (.cl 101 true 3 rfl rfl .nil) (.one (.aggU rfl WO))
 have n10:=Yk hc9
 refine Ya (rZ G (qf (o_eql .t qi) r1 qz (qO rr qZ)) Z [34,3,2] KN fun G=>?_)
 refine Zb G rfl (fun hc10=>?_) (fun hc10=>?_)
 ·have hk:=Yd hc10
  subst hk
  refine Ya (rZ G (qf (oB [(0,_),(1,_),(2,_)] [.string ⟨#[]⟩,.int .i64 0,.int .i64 0] [(0,1),(1,1),(2,1)] (.one rfl (.cs kr) Zah kr (.one rfl qi one_int kr (.one rfl qi one_int kr .nil)))) trivial qz (qs 3 101 r2 r1 qZ)) Z [2] KN fun G=>(Yj (Zn (Zh ?_))))
  refine ZW hfr G rfl (.cl 101 true 3 rfl rfl .nil) (.one (.aggU rfl WO))
 have n11:=Yk hc10
 refine Ya (rZ G (qf (o_eql .t qi) r1 qz (qO rr qZ)) Z [37,2] KN fun G=>?_)
 refine Zb G rfl (fun hc11=>?_) (fun hc11=>?_)
 ·have hk:=Yd hc11
  subst hk
  refine Ya (rZ G (qf (oB [(0,_),(1,_),(2,_)] [.string ⟨#[]⟩,.int .i64 0,.int .i64 0] [(0,1),(1,1),(2,1)] (.one rfl (.cs kr) Zah kr (.one rfl qi one_int kr (.one rfl qi one_int kr .nil)))) trivial qz (qs 3 101 r2 r1 qZ)) Z [2] KN fun G=>(Yj (Zn (Zh ?_))))
  refine ZW hfr G rfl (.cl 101 true 3 rfl rfl .nil) (.one (.aggU rfl WO))
 have n12:=Yk hc11
 refine Yf (Ze (Za (Ya (rZ G (qf (oB [] [.string ⟨#[]⟩,.int .i64 0,.int .i64 0] [(0,1),(1,1),(2,1)] .nil) trivial qz (qs 3 101 r2 r1 qZ)) Z [2] KN fun G=>Yj ?_))))
 refine ZW hfr G rfl (.cl 101 true 3 rfl rfl .nil) (.one (.aggU rfl WO))
theorem Zug (p:Int):FnP prog 156 [.int .i64 p] (.tup [.bs (ZjT p),.bs (Zcq p)]):=by
 refine FnP.mk func156 rfl ntmps156 rfl fun B a w F Z hfr G=>Ya ?_
 refine rZ G (qf (oN (.cs kr)) trivial qz (qf (oN (.cs kr)) trivial qz qZ)) Z KR [0] fun G=>(Ya (Ya ?_))
 refine rZ G (qR rr qZ) Z QJ [0] fun G=>(Yi (Ya ?_))
 refine rZ G (qf (o_eql .t qi) r1 qz (qO rr qZ)) Z QQ [0] fun G=>?_
 refine Zb G rfl (fun hc0=>?_) (fun hc0=>?_)
 ·have hk:=Yd hc0
  subst hk
  refine Ya (rZ G (qf (oN (.cs kr)) trivial qz (qf (oN (.cs kr)) trivial qz qZ)) Z Q8 [0] fun G=>(Yj (Zn (Zh ?_))))
  refine ZW hfr G rfl (.tmp rfl (.tmp rfl .nil)) (.two (.bs WP) (.bs WQ))
 have n1:=Yk hc0
 refine Ya (rZ G (qf (o_eql .t qi) r1 qz (qO rr qZ)) Z [7,4,3,2] [0] fun G=>?_)
 refine Zb G rfl (fun hc1=>?_) (fun hc1=>?_)
 ·have hk:=Yd hc1
  subst hk
  refine Ya (rZ G (qf (oN (.cs kr)) trivial qz (qf (oN (.cs kr)) trivial qz qZ)) Z Q8 [0] fun G=>(Yj (Zn (Zh ?_))))
  refine ZW hfr G rfl (.tmp rfl (.tmp rfl .nil)) (.two (.bs WP) (.bs WQ))
 have n2:=Yk hc1
 refine Ya (rZ G (qf (o_eql .t qi) r1 qz (qO rr qZ)) Z [9,4,3,2] [0] fun G=>?_)
 refine Zb G rfl (fun hc2=>?_) (fun hc2=>?_)
 ·have hk:=Yd hc2
  subst hk
  refine Ya (rZ G (qf (oN (.cs kr)) trivial qz (qf (oN (.cs kr)) trivial qz qZ)) Z Q8 [0] fun G=>(Yj (Zn (Zh ?_))))
  refine ZW hfr G rfl (.tmp rfl (.tmp rfl .nil)) (.two (.bs WP) (.bs WQ))
 have n3:=Yk hc2
 refine Ya (rZ G (qf (o_eql .t qi) r1 qz (qO rr qZ)) Z [11,4,3,2] [0] fun G=>?_)
 refine Zb G rfl (fun hc3=>?_) (fun hc3=>?_)
 ·have hk:=Yd hc3
  subst hk
  refine Ya (rZ G (qf (oN (.cs kr)) trivial qz (qf (oN (.cs kr)) trivial qz qZ)) Z Q8 [0] fun G=>(Yj (Zn (Zh ?_))))
  refine ZW hfr G rfl (.tmp rfl (.tmp rfl .nil)) (.two (.bs WP) (.bs WQ))
 have n4:=Yk hc3
 refine Ya (rZ G (qf (o_eql .t qi) r1 qz (qO rr qZ)) Z [13,3,2] [0] fun G=>?_)
 refine Zb G rfl (fun hc4=>?_) (fun hc4=>?_)
 ·have hk:=Yd hc4
  subst hk
  refine Ya (rZ G (qf (oN (.cs kr)) trivial qz (qf (oN (.cs kr)) trivial qz qZ)) Z Q8 [0] fun G=>(Yj (Zn (Zh ?_))))
  refine ZW hfr G rfl (.tmp rfl (.tmp rfl .nil)) (.two (.bs WP) (.bs WQ))
 have n5:=Yk hc4
 refine Yf (Ze (Za (Ya (rZ G (qf (oN (.cs kr)) trivial qz (qf (oN (.cs kr)) trivial qz qZ)) Z Q8 [0] fun G=>Yj ?_))))
 refine ZW hfr G rfl (.tmp rfl (.tmp rfl .nil)) (.two (.bs WP) (.bs WQ))
theorem ZsU (p:Int):FnP prog 110 [.int .i64 p] (.bs (Zcq p)):=by
 refine FnP.mk func110 rfl ntmps110 rfl fun B a w F Z hfr G=>Ya ?_
 refine rZ G (qf (oN (.cs kr)) trivial qz qZ) Z Q0 [0] fun G=>Ya ?_
 refine rZ G (qR rr (qf (oP (Zug p) func156 (Args.one .t)) r1 qz (qR rr (qf (Zs .t rfl) r1 qz (qf (Zs .t rfl) r1 qz (qO rr (qO rr qZ))))))) Z [4,2] [0] fun G=>Ya ?_
 refine rZ G (qR rr (qO rr qZ)) Z [2] [0] fun G=>Yj ?_
 refine Zo hfr G rfl rfl rfl .refl
theorem Zfn (o:OpD):(Zao o).length≤100:=by
 by_cases hk:Z1 o=true
 ·exact ZiD hk
 ·unfold Zao;rw [Ye W7];simp
theorem Zk2 (t:TxD) (ht:t.ops.length≤1000000):FnP prog 108 [.agg (rTx t)] (.bs (ZfE t)):=by
 refine FnP.mk func108 rfl ntmps108 rfl fun B a w F Z hfr G=>?_
 have hid:=ZdC (Sat.aggInt G (i:=0) (k:=0) rfl rfl)
 have htl:=ZU hid
 have hhl:(Zcr t).length≤23:=by unfold Zcr;rw [Yc];split <;> simp only [Yh,Yq] <;> omega
 refine Ya (rS G (qx 101 r1 (qf (oN (.cs kr)) trivial qz qZ)) Z Q3 KN fun τ G=>?_)
 have G:=X5
 generalize τ 1=v1 at G
 refine Za (Ya (rS G (qf (oH [.pointer none,.slice none 0 0] 102) trivial qz qZ) Z Qa KP fun τ G=>?_))
 have G:=X5
 generalize τ 3=v3 at G
 obtain ⟨b,rfl⟩:=G.shape 102 rfl
 replace G:=G.fresh 9 rfl
 replace G:=G.turn 9 rfl (Za6 (T:=5) (sz:=1) (R:=rC))
 replace G:=G.fresh 10 rfl
 obtain ⟨F,G⟩:=G.push 10 9 rfl rfl rfl kr
 obtain ⟨F,G⟩:=G.push 10 102 rfl rfl rfl kr
 replace G:=G.turn 10 rfl (r':=RS.hp (ZX (.pointer (some ⟨b,0,none⟩)) [])) (fun _ _ _ _ h=>⟨_,.inl rfl,_,fun _=>rfl,h⟩)
 obtain ⟨F,G⟩:=G.nM Qa J8
 refine Za (Ya (Zc G (qg 0 101 r1 r1 (qa 101 r1 r1 (qf (oP (Zc3 t.id) func23 (Args.one .t)) r1 qz (qf (o_callG1 10 (Zal b [] XM (textL t.id) (ZhW _) ow) func55 rfl kr (Args.two .t .t)) r2 r1 qZ)))) Z Qa J8 rfl rfl fun a w F G=>?_))
 replace G:=G.turn 10 rfl (r':=RS.hp (ZX (.pointer (some ⟨b,0,none⟩)) (textL t.id))) (fun _ _ _ _ h=>⟨_,.inr rfl,h⟩)
 refine Za (Ya (Ya (rZ G (qg 1 101 r1 r1 (qa 101 r1 r1 qZ)) Z [11,3,2,1] J8 fun G=>?_)))
 refine Zb G rfl (fun hc0=>?_) (fun hc0=>?_)
 ·have hdn:t.done=true:=hc0
  refine Zc G (qf (o_callG1 10 (Zal b (textL t.id) ow [32,99] XM XM) func55 rfl kr (Args.two .t (.cs kr))) r1 r1 qZ) Z Qa J8 rfl rfl fun a w F G=>?_
  replace G:=G.turn 10 rfl (r':=RS.hp (ZX (.pointer (some ⟨b,0,none⟩)) (Zcr t++Ze8 (t.ops.take 0)))) (fun _ _ _ _ h=>⟨_,.inr rfl,by rw [show (Zcr t++Ze8 (t.ops.take 0))=textL t.id ++ [32,99] by unfold Zcr Ze8;rw [hdn];simp];exact h⟩)
  refine Za (Ya (Ya (rZ G (qg 2 101 r1 r1 (qa 101 r1 r1 (qu YbZ r1 (qJ qZ)))) Z [17,16,15,3,2] J8 fun G=>Yi ?_)))
  obtain ⟨F,G⟩:=G.nM QL Q4
  refine ZY (σ:=Nat) (fun s=>(⟨[(3,.pv (.is (.pointer (some ⟨b,0,none⟩)))),(15,.pv (.sl rOp t.ops)),(16,.pv (.int .i64 (t.ops.length:Nat))),(17,.pv (.int .i64 (s:Nat)))],[(0,frame B),(10,RS.hp (ZX (.pointer (some ⟨b,0,none⟩)) (Zcr t++Ze8 (t.ops.take s))))]⟩:En)) (fun s=>s≤t.ops.length) (fun s=>t.ops.length - s) 0 G (YA _) ?_
  clear G;intro i a w F hC G
  have hC:=X4
  have G:=X3
  have hi0:=hC
  have hct:(Ze8 (t.ops.take i)).length≤101*i:=Yaa (ZeY _) Wm
  refine Ya (rZ G (qL r2) Z [18,17,16,15,3] Q4 fun G=>Ya ?_)
  refine Zb G rfl (fun hc1=>?_) (fun hc1=>?_)
  ·have hi:i<t.ops.length:=by have h9:=Yd hc1;omega
   have hto:(Zao (Nn t.ops i)).length≤100:=Zfn _
   refine Yf (Za (Ya (Yi (Ya (rS G (qy 4 YbZ r2 (qf (oR true 4 .t) r1 qz (qf (oH [.bool false,.int .i64 0,.int .i64 0,.int .i64 0] 103) trivial qz (qS 4 103 r2 r1 qZ)))) Z [17,16,15,5,3] [103,10,0] fun τ G=>?_)))))
   have G:=X0
   generalize τ 5=v5 at G
   rw [Yg] at G
   refine Za (Zc G (qe 4 103 r1 r1 (qf (oP (Zlc (Nn t.ops i)) func154 (Args.one (.pagg .t))) r1 qz (qf (ZD (.cs kr) .t Ws) r1 qz (qf (o_callG1 10 (Zal b (Zcr t++Ze8 (t.ops.take i)) (by rw [Yc];omega) ([32] ++ (Zao (Nn t.ops i))) XM Wy) func55 rfl kr (Args.two .t .t)) r2 r1 qZ)))) Z QL Q4 rfl rfl fun a w F G=>Ze (Za ?_))
   refine rZ G (qp r1 (qR rr qZ)) Z QL Q4 fun G=>?_
   replace G:=G.turn 10 rfl (r':=RS.hp (ZX (.pointer (some ⟨b,0,none⟩)) (Zcr t++Ze8 (t.ops.take (i+1))))) (fun _ _ _ _ h=>⟨_,.inr rfl,by rw [Zig hi,← Y1];exact h⟩)
   replace G:=G.eI 17 i
   obtain ⟨F,G⟩:=G.nM QL Q4
   exact ⟨i+1,F,ow,G,ow⟩
  have hil:i=t.ops.length:=by have h9:=Yk hc1;omega
  rw [hil,YE] at G
  refine Yz (Zg (Zg (Zm (Za (Ya (rZ G (qf (o_callG1 10 (ZhP b (Zcr t++Ze8 t.ops)) func57 rfl kr (Args.one .t)) r1 r1 (qO rr qZ)) Z [2] Q4 fun G=>Yj ?_))))))
  refine Zo hfr G rfl rfl rfl (.bs (by unfold ZfE;rfl))
 have hdn:t.done=false:=hc0
 refine Zc G (qf (o_callG1 10 (Zal b (textL t.id) ow [32,97] XM XM) func55 rfl kr (Args.two .t (.cs kr))) r1 r1 qZ) Z Qa J8 rfl rfl fun a w F G=>?_
 replace G:=G.turn 10 rfl (r':=RS.hp (ZX (.pointer (some ⟨b,0,none⟩)) (Zcr t++Ze8 (t.ops.take 0)))) (fun _ _ _ _ h=>⟨_,.inr rfl,by rw [show (Zcr t++Ze8 (t.ops.take 0))=textL t.id ++ [32,97] by unfold Zcr Ze8;rw [hdn];simp];exact h⟩)
 refine Za (Ya (Ya (rZ G (qg 2 101 r1 r1 (qa 101 r1 r1 (qu YbZ r1 (qJ qZ)))) Z [17,16,15,3,2] J8 fun G=>Yi ?_)))
 obtain ⟨F,G⟩:=G.nM QL Q4
 refine ZY (σ:=Nat) (fun s=>(⟨[(3,.pv (.is (.pointer (some ⟨b,0,none⟩)))),(15,.pv (.sl rOp t.ops)),(16,.pv (.int .i64 (t.ops.length:Nat))),(17,.pv (.int .i64 (s:Nat)))],[(0,frame B),(10,RS.hp (ZX (.pointer (some ⟨b,0,none⟩)) (Zcr t++Ze8 (t.ops.take s))))]⟩:En)) (fun s=>s≤t.ops.length) (fun s=>t.ops.length - s) 0 G (YA _) ?_
 clear G;intro i a w F hC G
 have hC:=X4
 have G:=X3
 have hi0:=hC
 have hct:(Ze8 (t.ops.take i)).length≤101*i:=Yaa (ZeY _) Wm
 refine Ya (rZ G (qL r2) Z [18,17,16,15,3] Q4 fun G=>Ya ?_)
 refine Zb G rfl (fun hc2=>?_) (fun hc2=>?_)
 ·have hi:i<t.ops.length:=by have h9:=Yd hc2;omega
  have hto:(Zao (Nn t.ops i)).length≤100:=Zfn _
  refine Yf (Za (Ya (Yi (Ya (rS G (qy 4 YbZ r2 (qf (oR true 4 .t) r1 qz (qf (oH [.bool false,.int .i64 0,.int .i64 0,.int .i64 0] 104) trivial qz (qS 4 104 r2 r1 qZ)))) Z [17,16,15,5,3] [104,10,0] fun τ G=>?_)))))
  have G:=X0
  generalize τ 5=v5 at G
  rw [Yg] at G
  refine Za (Zc G (qe 4 104 r1 r1 (qf (oP (Zlc (Nn t.ops i)) func154 (Args.one (.pagg .t))) r1 qz (qf (ZD (.cs kr) .t Ws) r1 qz (qf (o_callG1 10 (Zal b (Zcr t++Ze8 (t.ops.take i)) (by rw [Yc];omega) ([32] ++ (Zao (Nn t.ops i))) XM Wy) func55 rfl kr (Args.two .t .t)) r2 r1 qZ)))) Z QL Q4 rfl rfl fun a w F G=>Ze (Za ?_))
  refine rZ G (qp r1 (qR rr qZ)) Z QL Q4 fun G=>?_
  replace G:=G.turn 10 rfl (r':=RS.hp (ZX (.pointer (some ⟨b,0,none⟩)) (Zcr t++Ze8 (t.ops.take (i+1))))) (fun _ _ _ _ h=>⟨_,.inr rfl,by rw [Zig hi,← Y1];exact h⟩)
  replace G:=G.eI 17 i
  obtain ⟨F,G⟩:=G.nM QL Q4
  exact ⟨i+1,F,ow,G,ow⟩
 have hil:i=t.ops.length:=by have h9:=Yk hc2;omega
 rw [hil,YE] at G
 refine Yz (Zg (Zg (Zm (Za (Ya (rZ G (qf (o_callG1 10 (ZhP b (Zcr t++Ze8 t.ops)) func57 rfl kr (Args.one .t)) r1 r1 (qO rr qZ)) Z [2] Q4 fun G=>Yj ?_))))))
 refine Zo hfr G rfl rfl rfl (.bs (by unfold ZfE;rfl))
theorem ZrW (x y:List Int):FnP prog 40 [.sl Zq x,.sl Zq y] (.bool (decide (x=y))):=by
 refine FnP.mk func40 rfl ntmps40 rfl fun B a w F Z hfr G=>?_
 have hxl:=Sat.lenSl G (i:=0) rfl
 refine Ya (rZ G qB Z KU [0] fun G=>(Ya (Ya ?_)))
 refine rZ G (qR rr (qu YbY r1 (qR rr (qu YbY r1 (qf (o_neq .t .t) r2 qz qZ))))) Z [10,4,1,0] [0] fun G=>?_
 refine Zb G rfl (fun hc0=>?_) (fun hc0=>?_)
 ·have hg:false=decide (x=y):=by
    rw [Yaj,Yr]
    intro h
    subst h
    simp at hc0
  refine Ya (rZ G qB Z KU [0] fun G=>(Yj (Zh ?_)))
  refine Zo hfr G rfl rfl rfl (.bool hg)
 have hl:x.length=y.length:=Wl
 refine Yf (Za (Ya (Ya (rZ G (qR rr (qu YbY r1 (qJ qZ))) Z QO [0] fun G=>Yi ?_))))
 obtain ⟨F,G⟩:=G.nM QI [0]
 refine ZY (σ:=Nat) (fun s=>(⟨[(0,.pv (.sl Zq x)),(1,.pv (.sl Zq y)),(12,.pv (.int .i64 x.length)),(13,.pv (.int .i64 s))],[(0,frame B)]⟩:En)) (fun s=>s≤x.length ∧ ∀ j,j<s→Nn x j=Nn y j) (fun s=>x.length - s) 0 G ⟨YA _,fun j hj=>absurd hj (Yah j)⟩ ?_
 clear G;intro i a w F hC G
 have hC:=X4
 have G:=X3
 obtain ⟨hi,hq⟩:=hC
 refine Ya (rZ G (qL r2) Z G3 [0] fun G=>Ya ?_)
 refine Zb G rfl (fun hc1=>?_) (fun hc1=>?_)
 ·have hil:i<x.length:=WE
  refine Yf (Za (Ya (Yi (Ya (rZ G (qR rr (qO rr qZ)) Z Ga [0] fun G=>Ya ?_)))))
  refine Zv G (qR rr (qR rr (qy 1 YbY r2 (qf (oR false 1 .t) r1 qz (qR rr (qR rr (qy 1 YbY r2 (qf (oR false 1 .t) r1 qz (qf (o_neq .t .t) r2 qz qZ))))))))) Z G4 [0] rfl rfl fun a w F G=>?_
  have G:=Xa
  refine Za (Zb G rfl (fun hc2=>?_) (fun hc2=>?_))
  ·have hg:false=decide (x=y):=by
     rw [Yaj,Yr]
     intro h
     subst h
     simp at hc2
   refine Ya (rZ G qB Z QO [0] fun G=>(Yj (Zn (Zh (Zh (Zn (Zh ?_)))))))
   refine Zo hfr G rfl rfl rfl (.bool hg)
  rw [Yg] at hc2
  have hqi:Nn x i=Nn y i:=WA
  refine Yf (Ze (Za (rZ G (qp r1 (qR rr qZ)) Z QI [0] fun G=>?_)))
  replace G:=G.eI 13 i
  obtain ⟨F,G⟩:=G.nM QI [0]
  exact ⟨i+1,F,⟨ow,fun j hj=>by rcases YY (Yag hj) with h | h;exact hq j h;rw [h];exact hqi⟩,G,ow⟩
 have hg:true=decide (x=y):=by
   rw [Yaj,Yl]
   exact ZdH hl fun j hj=>hq j WE
 refine Yz (Zg (Zg (Zm (Za (Ya (rZ G qB Z [4] [0] fun G=>Yj ?_))))))
 refine Zo hfr G rfl rfl rfl (.bool hg)
theorem ZiC (x y:List Int):FnP prog 13 [.sl Zq x,.sl Zq y] (.bool (decide (x=y))):=by
 refine FnP.mk func13 rfl ntmps13 rfl fun B a w F Z hfr G=>Ya ?_
 refine rZ G qB Z KU [0] fun G=>Ya ?_
 refine rZ G (qR rr (qR rr (qf (oP (ZrW x y) func40 (Args.two .t .t)) r2 qz (qO rr qZ)))) Z [4] [0] fun G=>Yj ?_
 refine Zo hfr G rfl rfl rfl .refl
theorem ZtR (u v:TxD):((decide (u.id=v.id) && (u.done == v.done)) && decide (u.ops=v.ops))=decide (u=v):=by
 cases u;cases v
 rw [Yau]
 simp [and_assoc]
theorem ZrX (u v:TxD):FnP prog 197 [.agg (rTx u),.agg (rTx v)] (.bool (decide (u=v))):=by
 refine FnP.mk func197 rfl ntmps197 rfl fun B a w F Z hfr G=>Ya ?_
 refine rS G (qx 101 r1 (qx 102 r1 qB)) Z QJ KP fun τ G=>?_
 have G:=X5
 generalize τ 2=v2,τ 3=v3 at G
 refine Za (Ya (rZ G (qg 0 101 r1 r1 (qa 101 r1 r1 (qg 0 102 r1 r1 (qa 102 r1 r1 (qf (o_eql .t .t) r2 qz (qR rr (qv 1 101 rfl r2 r1 (qw 101 rfl r2 r1 (qv 1 102 rfl r2 r1 (qw 102 rfl r2 r1 (qk rfl (fun h=>ZpI underlying4 (.w h) (.w h)) r3 qz (qf (ZC .t .t) r2 qz (qR rr (qv 2 101 rfl r2 r1 (qw 101 rfl r2 r1 (qv 2 102 rfl r2 r1 (qw 102 rfl r2 r1 (qk rfl (fun h=>oP (Zr5 u.ops v.ops) func230 (Args.two (.w h) (.w h))) r3 qz (qf (ZC .t .t) r2 qz (qO rr qZ)))))))))))))))))))) Z [4] KP fun G=>Yj ?_))
 refine Zo hfr G rfl rfl rfl (.bool (ZtR u v))
theorem ZnL (u v:ZhY):FnP prog 152 [.agg (Zjz u),.agg (Zjz v)] (.bool (decide (u=v))):=by
 refine FnP.mk func152 rfl ntmps152 rfl fun B a w F Z hfr G=>Ya ?_
 refine rS G (qx 101 r1 (qx 102 r1 qB)) Z QJ KP fun τ G=>?_
 have G:=X5
 generalize τ 2=v2,τ 3=v3 at G
 refine Za (Ya (ZkE G kr (nf (oF 0 101 .is) r1 r1 (nf (oL false 1 101 .adr) r1 r1 (nf (oF 0 102 .is) r1 r1 (nf (oL false 1 102 .adr) r1 r1 (nf (o_eql .t .t) r2 trivial (nM rfl rfl (nk rfl (fun h=>oF 1 101 .is) r2 r1 (nk rfl (fun h=>oL true 3 101 (.w h .adr)) r2 r1 (nk rfl (fun h=>oF 1 102 .is) r2 r1 (nk rfl (fun h=>oL true 3 102 (.w h .adr)) r2 r1 (nk rfl (fun h=>oP (ZrX u.tx v.tx) func197 (Args.two (.pagg (.w h)) (.pagg (.w h)))) r3 trivial (nf (ZC .t .t) r2 trivial (nM rfl rfl (nk rfl (fun h=>oF 4 101 .is) r2 r1 (nk rfl (fun h=>oF 0 101 (.w h .adr)) r2 r1 (nk rfl (fun h=>oL false 1 101 (.w h .adr)) r2 r1 (nk rfl (fun h=>oF 4 102 .is) r2 r1 (nk rfl (fun h=>oF 0 102 (.w h .adr)) r2 r1 (nk rfl (fun h=>oL false 1 102 (.w h .adr)) r2 r1 (nk rfl (fun h=>o_eql (.w h) (.w h)) r3 trivial (nf (ZC .t .t) r2 trivial (nM rfl rfl (nk rfl (fun h=>oF 4 101 .is) r2 r1 (nk rfl (fun h=>oF 1 101 (.w h .adr)) r2 r1 (nn [28,26,4,3,2] [102,101,0] rfl rfl (nk rfl (fun h=>oL false 1 101 (.w h .adr)) r2 r1 (nk rfl (fun h=>oF 4 102 .is) r2 r1 (nk rfl (fun h=>oF 1 102 (.w h .adr)) r2 r1 (nk rfl (fun h=>oL false 1 102 (.w h .adr)) r2 r1 (nk rfl (fun h=>oP (ZiC u.order.txs v.order.txs) func13 (Args.two (.w h) (.w h))) r3 trivial (nf (ZC .t .t) r2 trivial (nM rfl rfl (nk rfl (fun h=>oF 6 101 .is) r2 r1 (nk rfl (fun h=>oL false 1 101 (.w h .adr)) r2 r1 (nk rfl (fun h=>oF 6 102 .is) r2 r1 (nk rfl (fun h=>oL false 1 102 (.w h .adr)) r2 r1 (nk rfl (fun h=>o_eql (.w h) (.w h)) r3 trivial (nf (ZC .t .t) r2 trivial (nM rfl rfl (nk rfl (fun h=>oF 7 101 .is) r2 r1 (nk rfl (fun h=>oL false 1 101 (.w h .adr)) r2 r1 (nk rfl (fun h=>oF 7 102 .is) r2 r1 (nk rfl (fun h=>oL false 1 102 (.w h .adr)) r2 r1 (nk rfl (fun h=>o_eql (.w h) (.w h)) r3 trivial (nf (ZC .t .t) r2 trivial (nM rfl rfl (nk rfl (fun h=>oF 8 101 .is) r2 r1 (nk rfl (fun h=>oL false 1 101 (.w h .adr)) r2 r1 (nk rfl (fun h=>oF 8 102 .is) r2 r1 (nn [52,51,49,4,3,2] [102,101,0] rfl rfl (nk rfl (fun h=>oL false 1 102 (.w h .adr)) r2 r1 (nk rfl (fun h=>o_eql (.w h) (.w h)) r3 trivial (nf (ZC .t .t) r2 trivial (nM rfl rfl (nk rfl (fun h=>oF 9 101 .is) r2 r1 (nk rfl (fun h=>oL false 1 101 (.w h .adr)) r2 r1 (nk rfl (fun h=>oF 9 102 .is) r2 r1 (nk rfl (fun h=>oL false 1 102 (.w h .adr)) r2 r1 (nk rfl (fun h=>o_eql (.w h) (.w h)) r3 trivial (nf (ZC .t .t) r2 trivial (nN rfl rfl ChainN.nil))))))))))))))))))))))))))))))))))))))))))))))))))))))))))))) kr WG fun a w F G=>?_))
 obtain ⟨F,G⟩:=G.nM [4] KP
 have G:=Xa
 refine Za (Yj (Zo hfr G rfl rfl rfl (.bool (Ztx u v))))
theorem ZuL (c:ZhY):FnP prog 153 [.agg (Zjz c)] (.agg (Zjz (usedR c))):=by
 refine FnP.mk func153 rfl ntmps153 rfl fun B a w F Z hfr G=>Ya ?_
 refine rS G (qx 101 r1 (qf (oH [.int .i64 0,.int .i64 0,.bool false,.slice none 0 0,.int .i64 0,.slice none 0 0,.int .i64 0,.int .i64 0,.int .i64 0,.int .i64 0] 102) trivial qz qZ)) Z Q3 KP fun τ G=>?_
 have G:=X5
 generalize τ 1=v1,τ 2=v2 at G
 refine Za (Ya (rS G (qg 0 101 r1 r1 (qa 101 r1 r1 (qf (oB [(0,.tmp 5)] [.int .i64 0,.int .i64 0,.bool false,.slice none 0 0,.int .i64 0,.slice none 0 0,.int .i64 0,.int .i64 0,.int .i64 0,.int .i64 0] [(0,1),(1,3),(4,2),(6,1),(7,1),(8,1),(9,1)] (.one rfl .t one_int kr .nil)) r1 qz (qf (oH [.int .i64 0,.int .i64 0,.bool false,.slice none 0 0,.int .i64 0,.slice none 0 0,.int .i64 0,.int .i64 0,.int .i64 0,.int .i64 0] 103) trivial qz (qS 10 103 r2 r1 qZ))))) Z Qa KO fun τ G=>?_))
 have G:=X0
 generalize τ 3=v3 at G
 refine Za (Ya (Ya (rZ G (qg 0 101 r1 r1 (qa 101 r1 r1 qZ)) Z [8,3,2,1] KO fun G=>(Yi (Ya (Ya ?_))))))
 refine rZ G (qf (o_eql .t qi) r1 qz (qO rr qZ)) Z [9,8,3,2,1] KO fun G=>?_
 refine Zb G rfl (fun hc0=>?_) (fun hc0=>?_)
 ·have hk:c.kind=1∨c.kind=2:=by first | exact .inl (Yd hc0) | exact .inr (Yd hc0)
  have hr:usedR c = {zeroC c.kind with tx:=c.tx} := by unfold usedR;rw [Ye hk]
  refine Yf (Za (Zb G rfl (fun hc1=>?_) (fun hc1=>?_)))
  ·have hk:c.kind=1∨c.kind=2:=Kt
   have hr:usedR c = {zeroC c.kind with tx:=c.tx} := by unfold usedR;rw [Ye hk]
   refine Zc G (qg 1 101 r1 r1 (qf (oL true 3 101 .adr) r1 r1 (qg 1 103 r1 r1 (qf (oA 3 103 .adr .t) r2 r1 qZ)))) Z Q8 KO rfl rfl fun a w F G=>Ze (Za (Ya ?_))
   refine rZ G (qe 10 103 r1 r1 (qs 10 102 r2 r1 qZ)) Z [2] KO fun G=>Yj ?_
   refine ZW hfr G rfl (.cl 102 true 10 rfl rfl .nil) (.one (.aggLe rfl (by rw [hr];exact (by refine ⟨?_,?_,?_,?_,?_,?_,?_,?_,?_,?_,tv⟩ <;> first | exact Zee.refl | exact Zee.nilSl))))
  exact Bool.noConfusion (hc0.symm.trans hc1)
 have hn:=Yk hc0
 refine rZ G (qf (o_eql .t qi) r1 qz (qO rr qZ)) Z [9,8,3,2,1] KO fun G=>?_
 refine Zb G rfl (fun hc2=>?_) (fun hc2=>?_)
 ·have hk:c.kind=1∨c.kind=2:=Ku
  have hr:usedR c = {zeroC c.kind with tx:=c.tx} := by unfold usedR;rw [Ye hk]
  refine Zc G (qg 1 101 r1 r1 (qf (oL true 3 101 .adr) r1 r1 (qg 1 103 r1 r1 (qf (oA 3 103 .adr .t) r2 r1 qZ)))) Z Q8 KO rfl rfl fun a w F G=>Ze (Za (Ya ?_))
  refine rZ G (qe 10 103 r1 r1 (qs 10 102 r2 r1 qZ)) Z [2] KO fun G=>Yj ?_
  refine ZW hfr G rfl (.cl 102 true 10 rfl rfl .nil) (.one (.aggLe rfl (by rw [hr];exact (by refine ⟨?_,?_,?_,?_,?_,?_,?_,?_,?_,?_,tv⟩ <;> first | exact Zee.refl | exact Zee.nilSl))))
 have hn:=Yk hc2
 refine Ya (Ya (rZ G (qf (o_eql .t qi) r1 qz (qO rr qZ)) Z [15,8,3,2,1] KO fun G=>?_))
 refine Zb G rfl (fun hc3=>?_) (fun hc3=>?_)
 ·have hk:c.kind=3∨c.kind=10:=Kv
  have hr:usedR c = {zeroC c.kind with id:=c.id} := by unfold usedR;rw [Yb ow,Ye hk]
  refine Yf (Za (Zb G rfl (fun hc4=>?_) (fun hc4=>?_)))
  ·have hk:c.kind=3∨c.kind=10:=Kw
   have hr:usedR c = {zeroC c.kind with id:=c.id} := by unfold usedR;rw [Yb ow,Ye hk]
   refine Zc G (qg 7 101 r1 r1 (qa 101 r1 r1 (qg 7 103 r1 r1 (qf (ZZ 103 .adr .t one_int kr kr) r2 r1 qZ)))) Z Q8 KO rfl rfl fun a w F G=>Ze (Za (Ya ?_))
   refine rZ G (qe 10 103 r1 r1 (qs 10 102 r2 r1 qZ)) Z [2] KO fun G=>Yj ?_
   refine ZW hfr G rfl (.cl 102 true 10 rfl rfl .nil) (.one (.aggLe rfl (by rw [hr];exact (by refine ⟨?_,?_,?_,?_,?_,?_,?_,?_,?_,?_,tv⟩ <;> first | exact Zee.refl | exact Zee.nilSl))))
  exact Bool.noConfusion (hc3.symm.trans hc4)
 have hn:=Yk hc3
 refine rZ G (qf (o_eql .t qi) r1 qz (qO rr qZ)) Z [15,8,3,2,1] KO fun G=>?_
 refine Zb G rfl (fun hc5=>?_) (fun hc5=>?_)
 ·have hk:c.kind=3∨c.kind=10:=Kx
  have hr:usedR c = {zeroC c.kind with id:=c.id} := by unfold usedR;rw [Yb ow,Ye hk]
  refine Zc G (qg 7 101 r1 r1 (qa 101 r1 r1 (qg 7 103 r1 r1 (qf (ZZ 103 .adr .t one_int kr kr) r2 r1 qZ)))) Z Q8 KO rfl rfl fun a w F G=>Ze (Za (Ya ?_))
  refine rZ G (qe 10 103 r1 r1 (qs 10 102 r2 r1 qZ)) Z [2] KO fun G=>Yj ?_
  refine ZW hfr G rfl (.cl 102 true 10 rfl rfl .nil) (.one (.aggLe rfl (by rw [hr];exact (by refine ⟨?_,?_,?_,?_,?_,?_,?_,?_,?_,?_,tv⟩ <;> first | exact Zee.refl | exact Zee.nilSl))))
 have hn:=Yk hc5
 refine Ya (rZ G (qf (o_eql .t qi) r1 qz (qO rr qZ)) Z [21,8,3,2,1] KO fun G=>?_)
 refine Zb G rfl (fun hc6=>?_) (fun hc6=>?_)
 ·have hk:=Yd hc6
  have hr:usedR c = {zeroC c.kind with order:=c.order} := by unfold usedR;rw [Yb ow,Yb ow,Ye hk]
  refine Zc G (qg 4 101 r1 r1 (qf (oL true 2 101 .adr) r1 r1 (qg 4 103 r1 r1 (qf (oA 2 103 .adr .t) r2 r1 qZ)))) Z Q8 KO rfl rfl fun a w F G=>Ze (Za (Ya ?_))
  refine rZ G (qe 10 103 r1 r1 (qs 10 102 r2 r1 qZ)) Z [2] KO fun G=>Yj ?_
  refine ZW hfr G rfl (.cl 102 true 10 rfl rfl .nil) (.one (.aggLe rfl (by rw [hr];exact (by refine ⟨?_,?_,?_,?_,?_,?_,?_,?_,?_,?_,tv⟩ <;> first | exact Zee.refl | exact Zee.nilSl))))
 have hn:=Yk hc6
 refine Ya (rZ G (qf (o_eql .t qi) r1 qz (qO rr qZ)) Z [26,8,3,2,1] KO fun G=>?_)
 refine Zb G rfl (fun hc7=>?_) (fun hc7=>?_)
 ·have hk:=Yd hc7
  have hr:usedR c = {zeroC c.kind with key:=c.key,id:=c.id,place:=c.place} := by unfold usedR;rw [Yb ow,Yb ow,Yb ow,Ye hk]
  refine Zv G (qg 6 101 r1 r1 (qa 101 r1 r1 (qg 7 101 r1 r1 (qa 101 r1 r1 (qg 8 101 r1 r1 (qa 101 r1 r1 (qg 6 103 r1 r1 (qf (ZZ 103 .adr .t one_int kr kr) r2 r1 (qg 7 103 r1 r1 (qf (ZZ 103 .adr .t one_int kr kr) r2 r1 (qg 8 103 r1 r1 (qf (ZZ 103 .adr .t one_int kr kr) r2 r1 qZ)))))))))))) Z Q8 KO rfl rfl fun a w F G=>?_
  try dsimp only [List.map,Zd,xL,xM,Nat.reduceAdd,xD,xE,xT,xU,xC,xN,zCF,ldSF] at G
  refine Ze (Za (Ya (rZ G (qe 10 103 r1 r1 (qs 10 102 r2 r1 qZ)) Z [2] KO fun G=>Yj ?_)))
  refine ZW hfr G rfl (.cl 102 true 10 rfl rfl .nil) (.one (.aggLe rfl (by rw [hr];exact (by refine ⟨?_,?_,?_,?_,?_,?_,?_,?_,?_,?_,tv⟩ <;> first | exact Zee.refl | exact Zee.nilSl))))
 have hn:=Yk hc7
 refine Ya (rZ G (qf (o_eql .t qi) r1 qz (qO rr qZ)) Z [37,3,2,1] KO fun G=>?_)
 refine Zb G rfl (fun hc8=>?_) (fun hc8=>?_)
 ·have hk:=Yd hc8
  have hr:usedR c = {zeroC c.kind with phen:=c.phen} := by unfold usedR;rw [Yb ow,Yb ow,Yb ow,Yb ow,Ye hk]
  refine Zc G (qg 9 101 r1 r1 (qa 101 r1 r1 (qg 9 103 r1 r1 (qf (ZZ 103 .adr .t one_int kr kr) r2 r1 qZ)))) Z Q8 KO rfl rfl fun a w F G=>Ze (Za (Ya ?_))
  refine rZ G (qe 10 103 r1 r1 (qs 10 102 r2 r1 qZ)) Z [2] KO fun G=>Yj ?_
  refine ZW hfr G rfl (.cl 102 true 10 rfl rfl .nil) (.one (.aggLe rfl (by rw [hr];exact (by refine ⟨?_,?_,?_,?_,?_,?_,?_,?_,?_,?_,tv⟩ <;> first | exact Zee.refl | exact Zee.nilSl))))
 have hn:=Yk hc8
 have hr:usedR c=zeroC c.kind:=by unfold usedR;rw [Yb ow,Yb ow,Yb ow,Yb ow,Yb ow]
 refine Yf (Ze (Za (Ya (rZ G (qe 10 103 r1 r1 (qs 10 102 r2 r1 qZ)) Z [2] KO fun G=>Yj ?_))))
 refine ZW hfr G rfl (.cl 102 true 10 rfl rfl .nil) (.one (.aggLe rfl (by rw [hr];exact (by refine ⟨?_,?_,?_,?_,?_,?_,?_,?_,?_,?_,tv⟩ <;> first | exact Zee.refl | exact Zee.nilSl))))
instance (l:List TxD):Decidable (Zbg l):=by unfold Zbg;exact inferInstance
instance (l:List OrdD):Decidable (ZiU l):=by unfold ZiU;exact inferInstance
instance (g:Zl):Decidable (Zcj g):=by unfold Zcj;exact inferInstance
theorem writers_mem {l:List TxD} {k x:Int} : x ∈ ZQ l k ↔ ∃ t ∈ l,t.id=x∧t.done=true∧0<wcnt t.ops k:=by
 unfold ZQ
 rw [YB]
 constructor
 ·rintro ⟨t,ht,e⟩
  rw [YK] at ht
  simp at ht
  exact ⟨t,ht.1,e,ht.2.1,ht.2.2⟩
 ·rintro ⟨t,ht,e,h1,h2⟩
  exact ⟨t,by rw [YK];simp [ht,h1,h2],e⟩
theorem ZhX {l:List TxD} (h:Zjo TxD.id l) (k:Int):(ZQ l k).Nodup:=by
 unfold ZQ
 have h1:(l.map TxD.id).Nodup:=(Ya3.2 (Z7.1 h)).imp fun h=>YbU h
 exact (h1.sublist ((Ybj).map _))
theorem Zbm {l:List TxD} (h:Zjo TxD.id l) {t:TxD} (ht:t ∈ l):ZaM l t.id=some t:=by
 have h:=Z7.1 h
 induction l with
 | nil=>cases ht
 | cons x l ih=>
  rw [Yu] at h
  unfold ZaM
  rw [List.find?_cons]
  rcases Ym.1 ht with rfl | ht
  ·simp
  ·have:=h.1 t ht
   rw [show decide (x.id=t.id)=false by simp;omega]
   exact ih (Z7.2 h.2) ht h.2
theorem ZbY {g:Zl} : ZA g ↔ g.txs.length≤4096∧Zjo TxD.id g.txs∧(∀ t ∈ g.txs,ZaU t=0∧ZkT g t=true)∧Zjo OrdD.key g.orders∧NE g.orders ∧ ∀ k,(getO g.orders k).Perm (ZQ g.txs k):=by
 constructor
 ·intro h
  obtain ⟨r1',r2'⟩:=ZO h
  have hne:=ZqC h
  have h2:=(ZcQ g).2 h.2.2
  refine ⟨h.1,r1',fun t ht=>?_,r2',hne,fun k=>?_⟩
  ·obtain ⟨j,hj,e⟩:=YR ht
   have:=(h.2.1 j hj).2
   rwa [nth_eq hj,e] at this
  ·by_cases hk:getO g.orders k = []
   ·rw [hk]
    have hw:ZQ g.txs k = []:=by
     refine Decidable.byContradiction fun hw=>?_
     obtain ⟨j,hj,e⟩:=YR (ZcK.2 hw)
     have hjo:j<g.orders.length:=by rw [h.2.2.1];exact hj
     have h3:=(h.2.2.2 j hjo).1
     rw [nth_eq hj,e] at h3
     have h4:=ZcO (Z7.1 r2') (nth_mem hjo)
     rw [h3,hk] at h4
     exact hne _ (nth_mem hjo) h4.symm
    rw [hw]
   ·have hm:=Zfc hk
    obtain ⟨j,hj,e⟩:=YR hm
    have:=(h2.2 j hj).2.2
    rw [nth_eq hj,e] at this
    exact this
 ·rintro ⟨h1,h2,h3,h4,h5,h6⟩
  have hk:g.orders.map OrdD.key=Zb8 g.txs:=by
   refine Zeh (Ya3.2 (Z7.1 h4)) (Zas _).1 fun k=>?_
   rw [ZcK,YB]
   constructor
   ·rintro ⟨o,ho,rfl⟩ e
    have:=h6 o.key
    rw [e,ZcO (Z7.1 h4) ho] at this
    exact h5 o ho this.eq_nil
   ·intro e
    have:getO g.orders k≠[]:=fun e2=>by
     have:=h6 k
     rw [e2] at this
     exact e this.symm.eq_nil
    exact ⟨_,Zfc this,rfl⟩
  have hlen:g.orders.length=(Zb8 g.txs).length:=by rw [← hk,YJ]
  refine ⟨h1,fun i hi=>?_,(ZcQ g).1 ⟨hlen,fun i hi=>?_⟩⟩
  ·obtain ⟨g1,g2⟩:=h3 _ (nth_mem hi)
   exact ⟨fun h0=>h2 (i - 1) i ow hi,g1,g2⟩
  ·refine ⟨fun h0=>h4 (i - 1) i ow hi,h5 _ (nth_mem hi),?_⟩
   have:=h6 (Nn g.orders i).key
   rwa [ZcO (Z7.1 h4) (nth_mem hi)] at this
theorem Zml:ZA ZbU:=by decide +kernel
structure Zt8 where
 tx:Int
 place:Int
 vof:Zaz
 deriving DecidableEq,Inhabited
def ZjO (b:Zt8):List PV:=[.int .i64 b.tx,.int .i64 b.place,.int .i64 b.vof.tx,.int .i64 b.vof.key,.int .i64 b.vof.nth]
def uOf (g:Zl) (o:OpD):TxD:=(ZaM g.txs o.tx).getD zeroT
def ZfA (t u:TxD) (o:OpD) (phen:Int):Bool:=t.done && (if phen=2 then !u.done else decide (phen=3) && decide (o.nth<(wcnt u.ops o.key:Int)))
def ZlB (g:Zl) (phen:Int) (t:TxD) (o:OpD):Bool:=Zei t.id o && ZfA t (uOf g o) o phen
def ZcB (g:Zl) (phen:Int) (p:Int→Bool) (t:TxD) (l:List OpD):List Zt8:=(l.zipIdx.filter fun x=>p x.1.key && ZlB g phen t x.1).map fun x=>⟨t.id,(x.2:Int),ofO x.1⟩
theorem Zdb {g:Zl} {phen:Int} {p:Int→Bool} {t:TxD} {l:List OpD} {j:Nat} (hj:j<l.length):ZcB g phen p t (l.take (j+1))=ZcB g phen p t (l.take j)++if (p (Nn l j).key && ZlB g phen t (Nn l j))=true then [⟨t.id,j,ofO (Nn l j)⟩] else []:=by
 unfold ZcB
 rw [Zy hj,List.zipIdx_append,Yai,Y3]
 congr 1
 rw [Yp,show min j l.length=j by omega]
 by_cases h:(p (Nn l j).key && ZlB g phen t (Nn l j))=true
 ·rw [Ye h,List.zipIdx_cons,YT XL];simp
 ·rw [Yb h,List.zipIdx_cons,Y9 XL];simp
theorem Zg4 (g:Zl) (phen:Int) (p:Int→Bool) (t:TxD) (l:List OpD):(ZcB g phen p t l).length≤l.length:=by
 unfold ZcB
 rw [YJ]
 exact Yaa (Yac _ _) XM
def badsG (g:Zl) (phen:Int) (p:Int→Bool) (l:List TxD):List Zt8:=l.flatMap fun t=>ZcB g phen p t t.ops
theorem ZmQ {g:Zl} {phen:Int} {p:Int→Bool} {l:List TxD} {i:Nat} (hi:i<l.length):badsG g phen p (l.take (i+1))=badsG g phen p (l.take i)++ZcB g phen p (Nn l i) (Nn l i).ops:=by
 unfold badsG
 rw [Zy hi,Y2]
 simp
theorem ZlW {g:Zl} {phen:Int} {p:Int→Bool} {l:List TxD} (h:Zbg l) (i:Nat):(badsG g phen p (l.take i)).length≤1000*i:=by
 have key:∀ l:List TxD,(∀ t ∈ l,t.ops.length≤1000)→(badsG g phen p l).length≤1000*l.length:=by
  intro l
  induction l with
  | nil=>intro _;simp [badsG]
  | cons t l ih=>
   intro h
   have h1:=ih fun x hx=>h x XO
   have h2:=h t XM
   have h3:=Zg4 g phen p t t.ops
   unfold badsG at h1 ⊢
   rw [Y0,Yc,Yh]
   omega
 have h1:=key (l.take i) fun t ht=>h.2 t (Yaw ht)
 have h2:(l.take i).length≤i:=Wm
 exact Yaa h1 (Ybi _ h2)
def ZeK (g:Zl) (phen:Int) (p:Int→Bool):List Zt8:=if ZA g then badsG g phen p g.txs else []
theorem Znx {g:Zl} (hr:∀ i,i<g.txs.length→Zm4 g i):Zff (g.txs.map TxD.id):=ZfT fun i hi h0=>by
 have hi':i<g.txs.length:=XP
 rw [Zcb ow,Zcb hi']
 exact (hr i hi').1 h0
theorem Zvx {g:Zl} (hr:∀ i,i<g.txs.length→Zm4 g i) {i k:Nat} (hi:i<g.txs.length) (hk:k<i):(Nn g.txs k).id<(Nn g.txs i).id:=by
 have h:=Y4.1 (Znx hr) k i XT XP hk
 rw [nth_eq hi,nth_eq ow]
 simpa using h
def Zul (es:List (GE Int TxD)) (l:List TxD):Prop:=∀ id,gGet id es=ZaM l id
theorem Zs0 {g:Zl} (hr:∀ i,i<g.txs.length→Zm4 g i) {es:List (GE Int TxD)} {ck i:Nat} (h:Zul es (g.txs.take i)) (hi:i<g.txs.length):Zul (gPut (Nn g.txs i).id (Nn g.txs i) (es,ck)).1 (g.txs.take (i+1)):=fun id=>by
 rw [ZaQ,h id]
 unfold ZaM
 rw [Zy hi,List.find?_append]
 by_cases e:id=(Nn g.txs i).id
 ·subst e
  have hn:(g.txs.take i).find? (fun t=>decide (t.id=(Nn g.txs i).id))=none:=by
   rw [List.find?_eq_none]
   intro x hx
   obtain ⟨k,hk,e⟩:=YR hx
   rw [Yp] at hk
   have:=Zvx hr hi (show k<i by omega)
   rw [nth_eq ow] at this
   rw [YbI] at e
   rw [e] at this
   simp;omega
  simp [hn]
 ·rw [Yb e]
  have hn:[Nn g.txs i].find? (fun t=>decide (t.id=id))=none:=by simp;exact fun h=>e h.symm
  rw [hn];simp
def ZuD (x:Int):List PV:=[.int .u64 x]
def bitAt (ws:List Int) (j:Nat):Bool:=(Nn ws (j / 64)).toNat.testBit (j % 64)
def ZiE (ws:List Int) (j:Nat):List Int:=ws.set (j / 64) (((Nn ws (j / 64)).toNat ^^^ 2 ^ (j % 64):Nat):Int)
def hasW (n:Nat) (ws:List Int) (i:Int):Bool:=(decide (0≤i) && decide (i<n)) && bitAt ws i.toNat
def ZsN (n:Nat) (ws:List Int) (i:Int) (on:Bool):Bool:=(decide (0≤i) && decide (i<n)) && (hasW n ws i != on)
def setW (n:Nat) (ws:List Int) (i:Int) (on:Bool):List Int:=if ZsN n ws i on then ZiE ws i.toNat else ws
structure Zdc (n:Nat) (ws:List Int):Prop where
 hi:n≤65536
 len:ws.length=(n+63) / 64
 wd:∀ k,0≤Nn ws k∧Nn ws k<18446744073709551616
def ZqY (v wv:Value) (n:Nat) (ws:List Int):List RS:=[.pt (.val v) 337 [.pv (.int .i64 n),.pv (.is wv)],.ob (.val wv) (Zz 74 1 ZuD ws)]
def Zh3 (v:Value) (n:Nat) (ws:List Int):HP:=.ex fun wv:Value=>.and (Zdc n ws) (.star (ZqY v wv n ws))
theorem Znj {v:Value} {n:Nat} {ws:List Int} {w:World} {f y:Ys} (h:(Zh3 v n ws).p w f y):Zdc n ws ∧ ∃ b,v = .pointer (some ⟨b,0,none⟩):=by
 obtain ⟨_,hI,h⟩:=h
 exact ⟨hI,HP.star_pt h⟩
theorem shr6 (i:Int):i.fdiv (2 ^ min (6:Int).toNat (IntKind.bits .i64))=i / 64:=Ybm i (by decide)
theorem and63 (i:Int) (h:0≤i∧i≤9223372036854775807):bits .and .i64 i 63=i % 64:=by
 obtain ⟨X,rfl⟩:=Yaz h.1
 have h1:(BitVec.ofInt 64 (X:Int)).toNat=X:=KD
 have h2:(BitVec.ofInt 64 (63:Int)).toNat=2 ^ 6 - 1:=XW
 show IntKind.wrap .i64 (((BitVec.ofInt 64 (X:Int) &&& BitVec.ofInt 64 63).toNat:Nat):Int)=_
 rw [BitVec.toNat_and,h1,h2,Nat.and_two_pow_sub_one_eq_mod,wrap_i64 ow]
 omega
theorem and1 (x:Int) (h:0≤x∧x<18446744073709551616):bits .and .u64 x 1=x % 2:=by
 obtain ⟨X,rfl⟩:=Yaz h.1
 have h1:(BitVec.ofInt 64 (X:Int)).toNat=X:=KD
 have h2:(BitVec.ofInt 64 (1:Int)).toNat=2 ^ 1 - 1:=XW
 show IntKind.wrap .u64 (((BitVec.ofInt 64 (X:Int) &&& BitVec.ofInt 64 1).toNat:Nat):Int)=_
 rw [BitVec.toNat_and,h1,h2,Nat.and_two_pow_sub_one_eq_mod,Za0 ow]
 omega
theorem xor64 (x y:Nat) (hx:x<18446744073709551616) (hy:y<18446744073709551616):bits .xor .u64 (x:Int) (y:Int)=((x ^^^ y:Nat):Int):=by
 have h1:(BitVec.ofInt 64 (x:Int)).toNat=x:=KD
 have h2:(BitVec.ofInt 64 (y:Int)).toNat=y:=KD
 show IntKind.wrap .u64 (((BitVec.ofInt 64 (x:Int) ^^^ BitVec.ofInt 64 (y:Int)).toNat:Nat):Int)=_
 rw [BitVec.toNat_xor,h1,h2]
 exact Za0 (by have:=Nat.xor_lt_two_pow (n:=64) hx hy;omega)
theorem Zun {x:Int} (h:0≤x∧x<18446744073709551616) (i:Int) (hi:0≤i∧i≤9223372036854775807):decide (bits .and .u64 (x.fdiv (2 ^ min (IntKind.wrap .u64 (bits .and .i64 i 63)).toNat (IntKind.bits .u64))) 1=1)=x.toNat.testBit (i.toNat % 64):=by
 obtain ⟨X,rfl⟩:=Yaz h.1
 obtain ⟨I,rfl⟩:=Yaz hi.1
 rw [and63 _ hi,Za0 ow,Yg,Yg]
 have e1:min ((I:Int) % 64).toNat (IntKind.bits .u64)=I % 64:=by simp only [IntKind.bits];omega
 rw [e1,Ybm _ (by exact_mod_cast YA _)]
 have e2:(X:Int) / 2 ^ (I % 64)=((X / 2 ^ (I % 64):Nat):Int):=by norm_cast
 have hle:X / 2 ^ (I % 64)≤X:=Nat.div_le_self _ _
 rw [e2,Nat.testBit_eq_decide_div_mod_eq]
 generalize X / 2 ^ (I % 64)=q at hle ⊢
 rw [and1 _ ow]
 exact decide_eq_decide.2 ow
theorem Zdc.at {n:Nat} {ws:List Int} (h:Zdc n ws) (i:Int) (h0:0≤i) (h1:i<n):0≤i / 64∧i / 64<ws.length:=by have:=h.len;omega
theorem u64_nonneg (x:Int):0≤IntKind.wrap .u64 x:=by rw [Zaa];omega
theorem and_iff {a b:Prop} [Decidable a] [Decidable b] (h:(decide a && decide b)=true):a∧b:=by simpa using h
theorem ZuK (n:Nat) (p:PV):FnP prog 275 [.ref [.int .i64 n,p]] (.int .i64 n):=by
 refine FnP.mk func275 rfl ntmps275 rfl fun B a w F Z hfr G=>Ya ?_
 refine rZ G (qI qZ) Z Q0 [0] fun G=>(Ya (Ya ?_))
 refine rZ G (qR rr (qf (Zdz underlying307 .t) r1 qz qZ)) Z QU [0] fun G=>?_
 refine Zb G rfl (fun hc0=>?_) (fun hc0=>?_)
 ·simp at hc0
 refine Yf (Za (Ya (rZ G (qR rr (qf (ZM .t) r1 qz (qf (oG 0 .t) r1 qz (qf (oR false 1 .t) r1 qz (qO rr qZ))))) Z [2] [0] fun G=>Yj ?_)))
 refine Zo hfr G rfl rfl rfl .refl
theorem Zpl (n:Nat) (p:PV) (i:Int):FnP prog 264 [.ref [.int .i64 n,p],.int .i64 i] (.bool (decide (0≤i) && decide (i<n))):=by
 refine FnP.mk func264 rfl ntmps264 rfl fun B a w F Z hfr G=>Ya ?_
 refine rZ G qB Z KU [0] fun G=>Ya ?_
 refine rZ G (qR rr (qf (ZbD .t qi) r1 qz (qR rr (qm rfl rfl rfl rfl (qm rfl rfl rfl rfl (qk rfl (fun h=>oP (ZuK n p) func275 (Args.one (.w h))) r2 qz (qk rfl (fun h=>Zbb (.w h) (.w h)) r3 qz (qf (ZC .t .t) r2 qz (qO rr qZ))))))))) Z [4] [0] fun G=>Yj ?_
 refine Zo hfr G rfl rfl rfl .refl
theorem Int.toNat_ediv_64 {i:Int} (h:0≤i):(i / 64).toNat=i.toNat / 64:=by omega
theorem Zdh {a b:Prop} [Decidable a] [Decidable b] (h:¬ (a∧b)):(decide a && decide b)=false:=by rw [← YbS];exact YO h
theorem Zst (n:Nat) (ws:List Int) (hI:Zdc n ws) (i:Int):FnP prog 240 [.ref [.int .i64 n,.sl ZuD ws],.int .i64 i] (.bool (hasW n ws i)):=by
 refine FnP.mk func240 rfl ntmps240 rfl fun B a w F Z hfr G=>Ya ?_
 refine rZ G qB Z KU [0] fun G=>Ya ?_
 refine rZ G (qR rr (qR rr (qf (oP (Zpl n _ i) func264 (Args.two .t .t)) r2 qz (qR rr (qm rfl rfl rfl rfl (qk rfl (fun h=>ZM (.w h)) r2 qz (qk rfl (fun h=>oG 1 (.w h)) r2 qz (qk rfl (fun h=>oR false 1 (.w h)) r2 qz (qm rfl rfl rfl rfl (qk rfl (fun h=>Zf2 (.w h) qi XW) r2 qz (qk rfl (fun h=>o_indexAddr_sl (sz:=1) (.mk underlying335 kr) Wh (.w h) (.w h) (by rw [shr6];exact (hI.at i (and_iff h).1 (and_iff h).2).1) (by rw [shr6];exact (hI.at i (and_iff h).1 (and_iff h).2).2)) r3 qz (qk rfl (fun h=>oR false 1 (.w h)) r2 qz (qm rfl rfl rfl rfl (qk rfl (fun h=>o_and (.w h) qi) r2 qz (qk rfl (fun h=>o_conv Ycd kr (.w h)) r2 qz (qk rfl (fun h=>Zf2 (.w h) (.w h) (u64_nonneg _)) r3 qz (qk rfl (fun h=>o_and (.w h) qi) r2 qz (qk rfl (fun h=>o_eql (.w h) qi) r2 qz (qf (ZC .t .t) r2 qz (qO rr qZ)))))))))))))))))))) Z [4] [0] fun G=>Yj ?_
 refine Zo hfr G rfl rfl rfl (.bool (by unfold hasW bitAt;by_cases hb:0≤i∧i<n; (rw [shr6,Zun (hI.wd _) i (by have:=hI.hi;omega),Int.toNat_ediv_64 hb.1]); (simp only [Zdh hb,Bool.false_and])))
def rowN (m:Int):Nat:=(if m<0 then 0 else if m > 65536 then 65536 else m).toNat
theorem Zh2 (m:Int):rowN m≤65536:=by unfold rowN;split; (· omega);split <;> omega
theorem Ztw (m:Int):(if 65536<(if m<0 then 0 else m) then 65536 else if m<0 then 0 else m)=((rowN m:Nat):Int):=by unfold rowN;split <;> split <;> (try split) <;> omega
def ZhI (m:Int):List Int:=List.replicate ((rowN m+63) / 64) 0
theorem ZpD (k j:Nat):Nn (List.replicate k (0:Int)) j=0:=by
 by_cases h:j<k
 ·rw [nth_eq XL];simp
 ·unfold Nn;rw [YaN,YbF XT];rfl
theorem Zk6 (m:Int):Zdc (rowN m) (ZhI m):=⟨Zh2 m,by simp [ZhI],fun k=>by unfold ZhI;rw [ZpD];omega⟩
theorem Zq6 (m:Int):(IntKind.wrap .i64 (((rowN m:Nat):Int)+63)).fdiv (2 ^ min (6:Int).toNat (IntKind.bits .i64))=(((rowN m+63) / 64:Nat):Int):=by
 have:=Zh2 m
 rw [shr6,wrap_i64 ow];omega
theorem ZrU (w:World) (yy:Ys):PVs (ZuD 0) [.int .u64 0] w yy:=⟨⟨rfl,rfl,by simp [inR,IntKind.min,IntKind.max,IntKind.signed,IntKind.bits]⟩,tv⟩
theorem Zip (ws:List Int) (j:Nat):(ZiE ws j).length=ws.length:=by simp [ZiE]
theorem Zla {ws:List Int} {i j:Nat} {c:Int} (h:j<ws.length):Nn (ws.set i c) j=if i=j then c else Nn ws j:=by
 rw [nth_eq XL,nth_eq h,YbN]
theorem Zj2 {ws:List Int} {j:Nat} (h:ws.length≤j):Nn ws j=0:=by unfold Nn;rw [YaN,YbF h];rfl
theorem Zmx {x:Int} (h:0≤x∧x<18446744073709551616) (k:Nat) (hk:k<64):0≤(((x.toNat ^^^ 2 ^ k:Nat)):Int)∧(((x.toNat ^^^ 2 ^ k:Nat)):Int)<18446744073709551616:=by
 have h1:x.toNat<2 ^ 64:=ow
 have h2:2 ^ k<2 ^ 64:=Nat.pow_lt_pow_right XW hk
 have:=Nat.xor_lt_two_pow h1 h2
 omega
theorem Zdc.flip {n:Nat} {ws:List Int} (h:Zdc n ws) (j:Nat):Zdc n (ZiE ws j):=by
 refine ⟨h.hi,by rw [Zip];exact h.len,fun k=>?_⟩
 by_cases hk:k<ws.length
 ·unfold ZiE
  rw [Zla hk]
  split
  ·exact Zmx (h.wd _) _ (Nat.mod_lt _ XW)
  ·exact h.wd k
 ·rw [Zj2 (by rw [Zip];omega)];omega
theorem Zdc.setW {n:Nat} {ws:List Int} (h:Zdc n ws) (i:Int) (on:Bool):Zdc n (setW n ws i on):=by
 unfold Go.Proofs.YtolmpgbpdapaiaaGreat.setW
 split
 ·exact h.flip _
 ·exact h
theorem ZpL {x:Int} (h:0≤x∧x<18446744073709551616) (i:Int) (hi:0≤i∧i≤9223372036854775807):bits .xor .u64 x (IntKind.wrap .u64 (1*2 ^ min (IntKind.wrap .u64 (bits .and .i64 i 63)).toNat (IntKind.bits .u64)))=((x.toNat ^^^ 2 ^ (i.toNat % 64):Nat):Int):=by
 obtain ⟨X,rfl⟩:=Yaz h.1
 obtain ⟨I,rfl⟩:=Yaz hi.1
 rw [and63 _ hi,Za0 (by omega:0≤((I:Int) % 64)∧(I:Int) % 64≤_),Yg,Yg]
 have e1:min ((I:Int) % 64).toNat (IntKind.bits .u64)=I % 64:=by simp only [IntKind.bits];omega
 have h2:2 ^ (I % 64)<2 ^ 64:=Nat.pow_lt_pow_right XW (Nat.mod_lt _ XW)
 have e2:(1:Int)*2 ^ (I % 64)=((2 ^ (I % 64):Nat):Int):=by rw [Int.one_mul];norm_cast
 rw [e1,e2]
 generalize 2 ^ (I % 64)=q at h2 ⊢
 rw [Za0 ow,xor64 X q ow ow]
theorem Zvc (m:Int):FnG prog 216 1 [.int .i64 m] [.star []] (PV.ptr) (fun v=>[Zh3 v (rowN m) (ZhI m)]):=by
 refine FnG.mk func216 rfl ntmps216 rfl kr fun B F0 a w F Z hG G=>?_
 have hr:=Ztw m
 refine Ya (rZ G (qC qZ) Z Q0 KQ fun G=>Ya ?_)
 refine Zc G (qR rr (qf (Zup .t qi) r1 qz (qf (o_min .t qi) r1 qz (qO rr qZ)))) Z Q0 KQ rfl rfl fun a w F G=>?_
 rw [hr] at G
 refine Za (Ya (rS G (qR rr (qR rr (qp r1 (qf (Zf2 .t qi XW) r1 qz (qf (ZaY (R:=ZuD) (v:=0) (c:=(IntKind.wrap .i64 (((rowN m:Nat):Int)+63)).fdiv (2 ^ min (6:Int).toNat (IntKind.bits .i64))) (sz:=1) (bs:=8) (zs:=[.int .u64 0]) 101 underlying335 kr kr kr ZrU .t .t (by rw [Zq6];exact Ybp _) (by have:=Zh2 m;rw [Zq6];omega) (by have:=Zh2 m;rw [Zq6];omega)) r2 qz (qf (oB [(0,.tmp 6),(1,.tmp 10)] [.int .i64 0,.slice none 0 0] [(0,1),(1,1)] (.one rfl .t one_int kr (.same rfl kr .nil))) r2 qz (qf (oX 102 .t) r1 qz (qO rr qZ)))))))) Z [2] Jc fun τ G=>?_))
 try dsimp only [RS.sub,SF.sub,CF.sub,csub,Anc.sub,List.map,Zd,xL,xM,Nat.reduceAdd,xD,xE,xT,xU,xC,xN,zCF] at G
 generalize τ 12=v12,τ 10=v10 at G
 rw [Zq6,Yg] at G
 refine Za (Yj ?_)
 obtain ⟨b,rfl⟩:=G.shape 102 rfl
 obtain ⟨F,G⟩:=G.push 1 101 rfl rfl rfl kr
 obtain ⟨F,G⟩:=G.push 1 102 rfl rfl rfl kr
 have G:=G.turn 1 rfl (r':=RS.hp (Zh3 (.pointer (some ⟨b,0,none⟩)) (rowN m) (ZhI m))) (fun _ _ _ _ h=>⟨_,Zk6 m,h⟩)
 refine Zaw (h':=fun v=>Zh3 v (rowN m) (ZhI m)) hG G rfl (.tmp rfl .nil) (.one .ptr) rfl
theorem ZvO (b n:Nat) (ws:List Int) (i:Int) (on:Bool):FnG prog 261 1 [.is (.pointer (some ⟨b,0,none⟩)),.int .i64 i,.bool on] [Zh3 (.pointer (some ⟨b,0,none⟩)) n ws] (.bool (ZsN n ws i on)) (fun _=>[Zh3 (.pointer (some ⟨b,0,none⟩)) n (setW n ws i on)]):=by
 refine FnG.mk func261 rfl ntmps261 rfl kr fun B F0 a w F Z hG G=>?_
 obtain ⟨wv,G⟩:=G.open_ex 1 rfl
 obtain ⟨hI,G⟩:=G.open_and 1 rfl
 obtain ⟨F,G⟩:=G.peel 1 2 rfl rfl
 obtain ⟨F,G⟩:=G.peel 1 3 rfl rfl
 obtain ⟨F,G⟩:=G.nM [2,1,0] KR
 refine Ya (rZ G qB Z JH KR fun G=>(Ya (Ya ?_)))
 refine rZ G (qR rr (qR rr (qf (Zts (cells:=[.pv _,.pv _]) 2 (Zpl n _ i) (fun _ _ _ _ _ h=>h) rfl func264 rfl kr (Za1.two .is .t)) r2 r1 (qf (o_not .t) r1 qz (qR rr (qm rfl rfl rfl rfl (qm rfl rfl rfl rfl (qk rfl (fun h=>Zhx (cells:=[.pv _,.pv (.is wv)]) 2 3 1 (Zst n ws hI i) (fun _ _ _ _ _ h=>h) rfl func240 rfl kr rfl rfl (Za1.two (.w h .is) (.w h))) r3 r2 (qm rfl rfl rfl rfl (qk rfl (fun h=>ZpI underlying4 (.w h) (.w h)) r3 qz (qf (Zaq .t .t) r2 qz qZ))))))))))) Z [17,6,1,0] KR fun G=>?_
 refine Zb G rfl (fun hc0=>?_) (fun hc0=>?_)
 ·have hs:ZsN n ws i on=false:=Kf
  have hg:setW n ws i on=ws:=by unfold setW;rw [hs];rfl
  refine Ya (rZ G qB Z [6,1,0] KR fun G=>(Yj (Zh ?_)))
  have G:=G.fresh 1 rfl
  obtain ⟨F,G⟩:=G.push 1 3 rfl rfl rfl kr
  obtain ⟨F,G⟩:=G.push 1 2 rfl rfl rfl kr
  have G:=G.turn 1 rfl (r':=RS.hp (Zh3 (.pointer (some ⟨b,0,none⟩)) n (setW n ws i on))) (fun _ _ _ _ h=>⟨_,(hI.setW i on),(by rw [hg];exact h)⟩)
  refine ZL hG G rfl (.tmp rfl .nil) (.one (.bool hs.symm)) rfl
 have hs:ZsN n ws i on=true:=Kf
 have hg:setW n ws i on=ZiE ws i.toNat:=by unfold setW;rw [hs];rfl
 have hb:0≤i∧i<n:=by
   have hs':=hs
   simp only [ZsN,Yw,Yl] at hs'
   exact hs'.1
 have hhi:=hI.hi
 have hq:=hI.at i hb.1 hb.2
 rw [← shr6] at hq
 have hq2:(i.fdiv (2 ^ min (6:Int).toNat (IntKind.bits .i64))).toNat<ws.length:=ow
 refine Yf (Za (Ya (Zc G (qR rr (qf (o_nilCheck 2 .is XV) r1 r1 (qf (oF 1 2 .adr) r1 r1 (qa 2 r1 r1 (qR rr (qf (Zf2 .t qi XW) r1 qz (qf (o_indexAddr_row (sz:=1) 3 (.mk underlying335 kr) .is .t hq.1 hq.2 XV) r2 r1 (qf (Zx (ag:=false) (sz':=1) (sz:=1) 3 .t Wh hq2 kr kr kr) r1 r1 (qR rr (qf (o_and .t qi) r1 qz (qf (o_conv Ycd kr .t) r1 qz (qf (o_shl qi .t (u64_nonneg _)) r1 qz (qf (o_xor .t .t) r2 qz (qf (o_indexAddr_row (sz:=1) 3 (.mk underlying335 kr) .is .t hq.1 hq.2 XV) r2 r1 (qf (ZT (R:=ZuD) (sz:=1) (v:=_) 3 .t Wh hq2 .t rfl one_int kr) r2 r1 qZ))))))))))))))) Z [6] KR rfl rfl fun a w F G=>?_)))
 rw [ZpL (hI.wd _) i ow,shr6,Int.toNat_ediv_64 hb.1] at G
 refine Za (Ya (rZ G qB Z [6] KR fun G=>Yj ?_))
 have G:=G.fresh 1 rfl
 obtain ⟨F,G⟩:=G.push 1 3 rfl rfl rfl kr
 obtain ⟨F,G⟩:=G.push 1 2 rfl rfl rfl kr
 have G:=G.turn 1 rfl (r':=RS.hp (Zh3 (.pointer (some ⟨b,0,none⟩)) n (setW n ws i on))) (fun _ _ _ _ h=>⟨_,(hI.setW i on),(by rw [hg];exact h)⟩)
 refine ZL hG G rfl (.tmp rfl .nil) (.one (.bool hs.symm)) rfl
def places (n:Nat) (ws:List Int):List Int:=((List.range n).filter fun j=>bitAt ws j).map fun j:Nat=>(j:Int)
def ZuS (n:Nat) (ws:List Int):Prop:=∀ j,n≤j→bitAt ws j=false
def Up (n:Nat) (x:List Int):Prop:=x.Pairwise (· < ·) ∧ ∀ i ∈ x,0≤i∧i<n
structure Zed (n:Nat) (ws:List Int) (x:List Int):Prop where
 ok:Zdc n ws
 clean:ZuS n ws
 up:Up n x
 mem:∀ j:Nat,bitAt ws j=true ↔ (j:Int) ∈ x
theorem Zed.mk' {n:Nat} {ws x:List Int} (hok:Zdc n ws) (hc:ZuS n ws) (hu:Up n x) (h:∀ j:Nat,j<n→(bitAt ws j=true ↔ (j:Int) ∈ x)):Zed n ws x:=by
 refine ⟨hok,hc,hu,fun j=>?_⟩
 by_cases hj:j<n
 ·exact h j hj
 ·rw [hc j ow]
  constructor
  ·intro h;cases h
  ·intro hm;have:=hu.2 _ hm;omega
theorem Zed.in {n:Nat} {ws x:List Int} (h:Zed n ws x) (i:Int):hasW n ws i=decide (i ∈ x):=by
 unfold hasW
 by_cases hb:0≤i∧i<n
 ·have:=h.mem i.toNat
  rw [YaP hb.1] at this
  rw [show (decide (0≤i) && decide (i<(n:Int)))=true by simp [hb],Ybu]
  by_cases hm:i ∈ x
  ·rw [YL hm,this.2 hm]
  ·rw [YO hm]
   cases e:bitAt ws i.toNat
   ·rfl
   ·exact absurd (this.1 e) hm
 ·rw [Zdh hb,Bool.false_and,Yaj,Yr]
  intro hm
  exact hb (h.up.2 i hm)
theorem Zed.zero (m:Int):Zed (rowN m) (ZhI m) []:=by
 have hz:∀ j,bitAt (ZhI m) j=false:=fun j=>by unfold bitAt ZhI;rw [ZpD];simp
 exact ⟨Zk6 m,fun j _=>hz j,⟨List.Pairwise.nil,by simp⟩,fun j=>by simp [hz j]⟩
def ZpZ (i:Int):List Int→Bool→List Int
 | [],d=>if d then [] else [i]
 | x :: l,d=>(if d=false∧i≤x then [i] else [])++(if x=i then [] else [x])++ZpZ i l (d || decide (i≤x))
def putL (l:List Int) (n i:Int) (on:Bool):List Int:=ZpZ i l (!on || decide (i<0) || decide (n≤i))
theorem ZdG (i j:Int):∀ (l:List Int) (d:Bool),j ∈ ZpZ i l d ↔ (j≠i∧j ∈ l)∨(j=i∧d=false)
 | [],d=>by cases d <;> simp [ZpZ]
 | x :: l,d=>by
  rw [ZpZ,YC,YC,ZdG i j l]
  by_cases h1:i≤x <;> cases d <;> by_cases h2:x=i <;> by_cases h3:j=i <;> simp_all
  all_goals (try omega)
theorem Zks (i:Int):∀ (l:List Int) (d:Bool),l.Pairwise (· < ·)→(ZpZ i l d).Pairwise (· < ·)
 | [],d,_=>by cases d <;> simp [ZpZ]
 | x :: l,d,h=>by
  rw [Yu] at h
  have ih:=Zks i l (d || decide (i≤x)) h.2
  rw [ZpZ]
  by_cases h1:i≤x
  ·have hm:∀ j,j ∈ ZpZ i l (d || decide (i≤x))→x<j∧j≠i:=by
    intro j hj
    rw [ZdG] at hj
    rcases hj with hj | hj
    ·exact ⟨h.1 j hj.2,hj.1⟩
    ·simp [h1] at hj
   generalize (d || decide (i≤x))=d' at hm ih ⊢
   cases d <;> by_cases h2:x=i
   ·subst h2
    simp only [Yar,and_self,Yx,Yax,YQ,YaJ,Yu]
    exact ⟨fun j hj=>(hm j hj).1,ih⟩
   ·simp only [h1,and_self,Yx,h2,Yt,YaJ,Yao,Yax,Yu,Ym]
    refine ⟨?_,fun j hj=>(hm j hj).1,ih⟩
    rintro j (rfl | hj)
    ·omega
    ·have:=hm j hj;omega
   ·simp only [h2,Yx,YQ,Bool.true_eq_false,false_and,Yt,Yax]
    subst h2;exact ih
   ·simp only [h2,Yt,Bool.true_eq_false,false_and,Yax,YaJ,Yu]
    exact ⟨fun j hj=>(hm j hj).1,ih⟩
  ·have hm:∀ j,j ∈ ZpZ i l (d || decide (i≤x))→x<j:=by
    intro j hj
    rw [ZdG] at hj
    rcases hj with hj | hj
    ·exact h.1 j hj.2
    ·omega
   generalize (d || decide (i≤x))=d' at hm ih ⊢
   have h2:¬ x=i:=ow
   simp only [h1,and_false,Yt,h2,Yax,YaJ,Yu]
   exact ⟨hm,ih⟩
theorem ZlQ {l:List Int} {n i j:Int} {on:Bool} : j ∈ putL l n i on ↔ (j≠i∧j ∈ l)∨(j=i∧on=true∧0≤i∧i<n):=by
 unfold putL
 rw [ZdG]
 cases on <;> simp <;> omega
theorem Zuy {n:Nat} {l:List Int} (h:Up n l) (i:Int) (on:Bool):Up n (putL l n i on):=by
 refine ⟨Zks _ _ _ h.1,fun j hj=>?_⟩
 rw [ZlQ] at hj
 rcases hj with hj | hj
 ·exact h.2 j hj.2
 ·omega
theorem ZlR {n:Nat} {ws:List Int} (hI:Zdc n ws) (i:Int) (on:Bool) (j:Nat):bitAt (setW n ws i on) j=if 0≤i∧i<n∧i=j then on else bitAt ws j:=by
 unfold setW ZsN hasW
 by_cases hb:0≤i∧i<n
 ·rw [show (decide (0≤i) && decide (i<(n:Int)))=true by simp [hb],Ybu,Ybu]
  have hq:=hI.at i hb.1 hb.2
  have flip:∀ j,bitAt (ZiE ws i.toNat) j=if i=j then !bitAt ws j else bitAt ws j:=by
   intro j
   unfold bitAt ZiE
   by_cases hj:j / 64<ws.length
   ·rw [Zla hj]
    by_cases he:i.toNat / 64=j / 64
    ·rw [Ye he,Yg,Nat.testBit_xor,Nat.testBit_two_pow,he]
     by_cases e2:i=j
     ·subst e2;simp
     ·rw [Yb e2,show decide (i.toNat % 64=j % 64)=false by simp;omega,Bool.xor_false]
    ·rw [Yb he,Yb (fun e=>he ow)]
   ·rw [Zj2 Wp,Zj2 ow,Yb (fun e=>hj ow)]
  by_cases h1:(bitAt ws i.toNat != on)=true
  ·rw [Ye h1,flip j]
   by_cases e:i=j
   ·rw [Ye e,Ye ⟨hb.1,hb.2,e⟩]
    subst e
    rw [Yg] at h1
    cases hx:bitAt ws j <;> rw [hx] at h1 <;> cases on <;> simp_all
   ·rw [Yb e,Yb (fun h=>e h.2.2)]
  ·rw [Yb h1]
   by_cases e:i=j
   ·rw [Ye ⟨hb.1,hb.2,e⟩]
    subst e
    rw [Yg] at h1
    cases hx:bitAt ws j <;> rw [hx] at h1 <;> cases on <;> simp_all
   ·rw [Yb (fun h=>e h.2.2)]
 ·rw [Zdh hb,Bool.false_and,Yb XM,Yb (fun h=>hb ⟨h.1,h.2.1⟩)]
theorem Zed.set {n:Nat} {ws x:List Int} (h:Zed n ws x) (i:Int) (on:Bool):Zed n (setW n ws i on) (putL x n i on):=by
 refine Zed.mk' (h.ok.setW i on) (fun j hj=>?_) (Zuy h.up i on) (fun j hj=>?_)
 ·rw [ZlR h.ok,Yb ow,h.clean j hj]
 ·rw [ZlR h.ok,ZlQ]
  have:=h.mem j
  by_cases e:0≤i∧i<n∧i=j
  ·rw [Ye e]
   constructor
   ·intro ho;exact .inr ⟨e.2.2.symm,ho,e.1,e.2.1⟩
   ·rintro (⟨h1,_⟩ | ⟨_,h2,_⟩)
    ·exact absurd e.2.2.symm h1
    ·exact h2
  ·rw [Yb e,this]
   constructor
   ·intro hm
    refine .inl ⟨fun e'=>e ?_,hm⟩
    omega
   ·rintro (⟨_,h2⟩ | ⟨h1,_,h3,h4⟩)
    ·exact h2
    ·exact absurd ⟨h3,h4,h1.symm⟩ e
theorem Ent.adr0 {b:Nat} : Ent (.adr (.val (.pointer (some ⟨b,0,none⟩))) 0) (.pv (.is (.pointer (some ⟨b,0,none⟩)))):=fun _ _ _ _ h=>by
 have e:_=Value.pointer (some ⟨b,0,none⟩):=h
 exact ⟨e,by rw [e];rfl⟩
def ZtD (v rv:Value) (room:Int) (l:List Int):List RS:=[.pt (.val v) 334 [.pv (.is rv),.pv (.int .i64 room)],.ob (.val rv) (Zz 3 1 Zq l)]
def stH (v:Value) (room:Int) (l:List Int):HP:=.ex fun rv:Value=>.star (ZtD v rv room l)
def Zg3 (n:Int):Int:=if 65536<(if n<0 then 0 else n) then 65536 else (if n<0 then 0 else n)
theorem ZnC {n:Int} (h:0≤n∧n≤65536):Zg3 n=n:=by unfold Zg3;rw [Yb (show ¬ n<0 by omega),Yb ow]
def Zsj (room:Int) (l:List Int):Int:=if room - l.length=0 then 2 else 0
def Zmc (room:Int) (l:List Int) (x:Int):List Int:=if room - l.length=0 then l else l ++ [x]
theorem Zer {v:Value} {room:Int} {l:List Int} {w:World} {f y:Ys} (h:(stH v room l).p w f y):∃ b,v = .pointer (some ⟨b,0,none⟩):=by
 obtain ⟨rv,g⟩:=h
 exact HP.star_pt g
theorem Zi0 {room:Int} {l:List Int} (h:(l.length:Int)<room) (x:Int):Zsj room l=0∧Zmc room l x=l ++ [x]:=⟨Yb ow,Yb ow⟩
theorem nth_last {α:Type} [Inhabited α] {l:List α} {x:α} : Nn (l ++ [x]) l.length=x:=by rw [nth_eq (by simp)];simp
theorem ZrT {k:IntKind} {a:Int} {b:Bool} (v:Value) (w:World) (y:Ys) (w':World) (y':Ys) (h:(PV.tup [.int k a,.bool b]).p v w y):(PV.tup [.int k a,.bool b]).p v w' y':=by
 obtain ⟨vs,e,h⟩:=h
 exact ⟨vs,e,by
  match vs,h with
  | [u1,u2],h=>exact h⟩
theorem ZqW (n:Int):FnP prog 237 [.int .i64 n] (.int .i64 (Zg3 n)):=by
 refine FnP.mk func237 rfl ntmps237 rfl fun B a w F Z hfr G=>Ya ?_
 refine rZ G (qI qZ) Z Q0 [0] fun G=>Ya ?_
 refine rZ G (qR rr (qf (Zup .t qi) r1 qz (qf (o_min .t qi) r1 qz (qO rr qZ)))) Z [2] [0] fun G=>Yj ?_
 refine Zo hfr G rfl rfl rfl .refl
theorem ZsX (n:Int):FnG prog 215 1 [.int .i64 n] [.star []] (PV.ptr) (fun v=>[stH v (Zg3 n) []]):=by
 refine FnG.mk func215 rfl ntmps215 rfl kr fun B F0 a w F Z hG G=>Ya ?_
 refine rZ G (qC qZ) Z Q0 KQ fun G=>Ya ?_
 refine rS G (qR rr (qf (oP (ZqW n) func237 (Args.one .t)) r1 qz (qf (oB [(1,.tmp 4)] [.slice none 0 0,.int .i64 0] [(0,1),(1,1)] (.one rfl .t one_int kr .nil)) r1 qz (qf (oX 101 .t) r1 qz (qO rr qZ))))) Z [2] KS fun τ G=>?_
 have G:=Xx
 generalize τ 6=v6 at G
 refine Za (Yj ?_)
 obtain ⟨b,rfl⟩:=G.shape 101 rfl
 have G:=G.fresh 3 rfl
 have G:=G.turn 3 rfl (Za6 (T:=3) (sz:=1) (R:=Zq))
 obtain ⟨F,G⟩:=G.push 1 3 rfl rfl rfl kr
 obtain ⟨F,G⟩:=G.push 1 101 rfl rfl rfl kr
 have G:=G.turn 1 rfl (r':=RS.hp (stH (.pointer (some ⟨b,0,none⟩)) (Zg3 n) [])) (fun _ _ _ _ h=>⟨_,h⟩)
 refine Zaw (h':=fun v=>stH v (Zg3 n) []) hG G rfl (.tmp rfl .nil) (.one .ptr) rfl
theorem ZtF (room:Int) (l:List Int):FnP prog 280 [.ref [.sl Zq l,.int .i64 room]] (.int .i64 l.length):=by
 refine FnP.mk func280 rfl ntmps280 rfl fun B a w F Z hfr G=>Ya ?_
 refine rZ G (qI qZ) Z Q0 [0] fun G=>(Ya (Ya ?_))
 refine rZ G (qR rr (qf (Zdz underlying305 .t) r1 qz qZ)) Z QU [0] fun G=>?_
 refine Zb G rfl (fun hc0=>?_) (fun hc0=>?_)
 ·simp at hc0
 refine Yf (Za (Ya (rZ G (qR rr (qf (ZM .t) r1 qz (qf (oG 0 .t) r1 qz (qf (oG 0 .t) r1 qz (qf (oR false 1 .t) r1 qz (qu YbY r1 (qO rr qZ))))))) Z [2] [0] fun G=>Yj ?_)))
 refine Zo hfr G rfl rfl rfl .refl
theorem Zqj (room:Int) (l:List Int) (hr:0≤room∧room≤65536) (hn:(l.length:Int)≤room):FnP prog 271 [.ref [.sl Zq l,.int .i64 room]] (.int .i64 (room - l.length)):=by
 refine FnP.mk func271 rfl ntmps271 rfl fun B a w F Z hfr G=>Ya ?_
 refine rZ G (qI qZ) Z Q0 [0] fun G=>(Ya (Ya ?_))
 refine rZ G (qR rr (qf (Zdz underlying305 .t) r1 qz qZ)) Z QU [0] fun G=>?_
 refine Zb G rfl (fun hc0=>?_) (fun hc0=>?_)
 ·simp at hc0
 refine Yf (Za (Ya (Zv G (qR rr (qf (ZM .t) r1 qz (qf (oG 1 .t) r1 qz (qf (oR false 1 .t) r1 qz (qR rr (qf (ZM .t) r1 qz (qf (oG 0 .t) r1 qz (qf (oG 0 .t) r1 qz (qf (oR false 1 .t) r1 qz (qu YbY r1 (qf (o_sub .t .t) r2 qz (qO rr qZ)))))))))))) Z [2] [0] rfl rfl fun a w F G=>?_)))
 have G:=XC
 refine Za (Yj (Zo hfr G rfl rfl rfl (.int (wrap_i64 ow))))
theorem Zvk (b:Nat) (room:Int) (l:List Int) (x:Int) (hl:l.length≤70000):FnG prog 272 1 [.is (.pointer (some ⟨b,0,none⟩)),.int .i64 x] [stH (.pointer (some ⟨b,0,none⟩)) room l] (.tup []) (fun _=>[stH (.pointer (some ⟨b,0,none⟩)) room (l ++ [x])]):=by
 refine FnG.mk func272 rfl ntmps272 rfl kr fun B F0 a w F Z hG G=>?_
 obtain ⟨rv,G⟩:=G.open_ex 1 rfl
 obtain ⟨F,G⟩:=G.peel 1 2 rfl rfl
 obtain ⟨F,G⟩:=G.peel 1 3 rfl rfl
 obtain ⟨F,G⟩:=G.nM KQ KR
 refine rS G (qR rr (qR rr (qf (o_nilCheck 2 .is XV) r1 r1 (qf (oF 0 2 .adr) r1 r1 (qa 2 r1 r1 (qR rr (qf (Zj (sz:=1) (zs:=[.int .i64 0]) (r:=[(0,.tmp 9)]) (l:=[_]) YbY kr kr kr kr rfl rfl (.one rfl .t one_int kr .nil) rfl) r1 qz (qf (o_append (sz:=1) (bs:=8) 3 (.mk' YbY kr kr) Wh .is (.arr (l':=[_]) .t) Ws XW) ⟨rfl,rfl,tv⟩ ⟨rfl,tv⟩ (qf (o_nilCheck 2 .is XV) r1 r1 (qf (oF 0 2 .adr) r1 r1 (qf (o_storeS 2 .adr kr kr) r2 r1 qZ))))))))))) Z [] KR fun τ G=>?_
 have G:=Xv
 generalize τ 11=v11 at G
 have G:=G.fresh 1 rfl
 obtain ⟨F,G⟩:=G.push 1 3 rfl rfl rfl kr
 obtain ⟨F,G⟩:=G.push 1 2 rfl rfl rfl kr
 have G:=G.turn 1 rfl (r':=RS.hp (stH (.pointer (some ⟨b,0,none⟩)) room (l ++ [x]))) (fun _ _ _ _ h=>⟨_,h⟩)
 refine ZL hG G rfl .nil ZaB.none rfl
theorem ZqH (b:Nat) (room:Int) (l:List Int) (x:Int) (hr:0≤room∧room≤65536) (hn:(l.length:Int)≤room):FnG prog 260 1 [.is (.pointer (some ⟨b,0,none⟩)),.int .i64 x] [stH (.pointer (some ⟨b,0,none⟩)) room l] (.int .i64 (Zsj room l)) (fun _=>[stH (.pointer (some ⟨b,0,none⟩)) room (Zmc room l x)]):=by
 refine FnG.mk func260 rfl ntmps260 rfl kr fun B F0 a w F Z hG G=>?_
 obtain ⟨rv,G⟩:=G.open_ex 1 rfl
 obtain ⟨F,G⟩:=G.peel 1 2 rfl rfl
 obtain ⟨F,G⟩:=G.peel 1 3 rfl rfl
 obtain ⟨F,G⟩:=G.nM KQ KR
 refine Ya (rZ G (qI qZ) Z KU KR fun G=>(Ya (Ya ?_)))
 refine rZ G (qR rr (qf (Zhx (cells:=[.pv (.is rv),.pv _]) 2 3 0 (Zqj room l hr hn) (fun _ _ _ _ _ h=>h) rfl func271 rfl kr rfl rfl (Za1.one .is)) r1 r2 (qf (o_eql .t qi) r1 qz qZ))) Z [7,4,1,0] KR fun G=>?_
 refine Zb G rfl (fun hc0=>?_) (fun hc0=>?_)
 ·have hf:room - (l.length:Int)=0:=WV
  have hg:2=Zsj room l:=(Ye hf).symm
  have hg2:Zmc room l x=l:=Ye hf
  refine Ya (rZ G (qI qZ) Z KU KR fun G=>(Yj (Zh ?_)))
  have G:=G.fresh 1 rfl
  obtain ⟨F,G⟩:=G.push 1 3 rfl rfl rfl kr
  obtain ⟨F,G⟩:=G.push 1 2 rfl rfl rfl kr
  have G:=G.turn 1 rfl (r':=RS.hp (stH (.pointer (some ⟨b,0,none⟩)) room (Zmc room l x))) (fun _ _ _ _ h=>⟨_,(by rw [hg2];exact h)⟩)
  refine ZL hG G rfl (.tmp rfl .nil) (.one (.int We)) rfl
 have hf:¬ room - (l.length:Int)=0:=WV
 have hg:0=Zsj room l:=(Yb hf).symm
 have hg2:Zmc room l x=l ++ [x]:=Yb hf
 refine Yf (Za (Ya (Zai 3 G kr (cG rfl (oM .t) r1 trivial (cG rfl (o_nilCheck 2 .is XV) r1 r1 (cG rfl (oF 0 2 .adr) r1 r1 ChainN.nil))) kr WG fun a w F G=>?_)))
 obtain ⟨F,G⟩:=G.nM [10,4,1] KR
 try dsimp only [Zq] at G
 have G:=G.fresh 1 rfl
 obtain ⟨F,G⟩:=G.push 1 3 rfl rfl rfl kr
 obtain ⟨F,G⟩:=G.push 1 2 rfl rfl rfl kr
 have G:=G.turn 1 rfl (r':=RS.hp (stH (.pointer (some ⟨b,0,none⟩)) room l)) (fun _ _ _ _ h=>⟨_,h⟩)
 obtain ⟨F,G⟩:=G.nM [10,4,1] KQ
 refine Zat G kr (cG rfl (oM .t) r1 trivial (cG rfl (o_callG1 1 (Zvk b room l x ow) func272 rfl kr (Args.two (.conv .t (Ent.adr0)) .t)) r2 r1 ChainN.nil)) kr WG fun a w F G=>?_
 obtain ⟨F,G⟩:=G.nM [4] KQ
 try dsimp only [Zq] at G
 refine Za (Ya (rZ G (qI qZ) Z [4] KQ fun G=>Yj ?_))
 have G:=G.turn 1 rfl (r':=RS.hp (stH (.pointer (some ⟨b,0,none⟩)) room (Zmc room l x))) (fun _ _ _ _ h=>by rw [hg2];exact h)
 refine ZL hG G rfl (.tmp rfl .nil) (.one (.int We)) rfl
theorem Zov (b:Nat) (room:Int) (l:List Int) (x:Int) (hr:0≤room∧room≤65536) (h:(l.length:Int)<room):FnG prog 260 1 [.is (.pointer (some ⟨b,0,none⟩)),.int .i64 x] [stH (.pointer (some ⟨b,0,none⟩)) room l] (.int .i64 0) (fun _=>[stH (.pointer (some ⟨b,0,none⟩)) room (l ++ [x])]):=by
 have:=ZqH b room l x hr ow
 rw [(Zi0 h x).1,(Zi0 h x).2] at this;exact this
theorem Znu (room:Int) (l:List Int) (x:Int) (hl:l.length≤70000):FnP prog 273 [.ref [.sl Zq (l ++ [x]),.int .i64 room]] (.tup [.int .i64 x,.bool true]):=by
 refine FnP.mk func273 rfl ntmps273 rfl fun B a w F Z hfr G=>?_
 have hw1:IntKind.wrap .i64 (((l ++ [x]).length:Int) - 1)=((l.length:Nat):Int):=Kp
 refine Ya (rZ G (qI qB) Z KR [0] fun G=>(Ya (Ya ?_)))
 refine rZ G (qR rr (qf (oP (ZtF room (l ++ [x])) func280 (Args.one .t)) r1 qz (qf (o_eql .t qi) r1 qz qZ))) Z [6,3,2,0] [0] fun G=>?_
 refine Zb G rfl (fun hc0=>?_) (fun hc0=>?_)
 ·simp at hc0;try omega
 refine Yf (Za (Ya (Zv G (qR rr (qf (ZM .t) r1 qz (qf (oG 0 .t) r1 qz (qf (oG 0 .t) r1 qz (qf (oR false 1 .t) r1 qz (qR rr (qf (ZM .t) r1 qz (qf (oG 0 .t) r1 qz (qf (oG 0 .t) r1 qz (qf (oR false 1 .t) r1 qz (qu YbY r1 (qf (o_sub .t qi) r1 qz (qf (o_indexAddr_sl (sz:=1) (.mk YbY kr) Wh .t .t Wv WS) r2 qz (qf (oR false 1 .t) r1 qz (qO rr qB))))))))))))))) Z Q8 [0] rfl rfl fun a w F G=>?_)))
 have G:=XC
 try simp only [Yg] at G
 rw [hw1,Yg,nth_last] at G
 refine Za (Yj (ZW hfr G rfl (.tmp rfl (.tmp rfl .nil)) (.two .refl .refl)))
theorem Zuz (b:Nat) (room:Int) (l:List Int) (x:Int) (hl:l.length≤70000):FnG prog 274 1 [.is (.pointer (some ⟨b,0,none⟩))] [stH (.pointer (some ⟨b,0,none⟩)) room (l ++ [x])] (.tup []) (fun _=>[stH (.pointer (some ⟨b,0,none⟩)) room l]):=by
 refine FnG.mk func274 rfl ntmps274 rfl kr fun B F0 a w F Z hG G=>?_
 obtain ⟨rv,G⟩:=G.open_ex 1 rfl
 obtain ⟨F,G⟩:=G.peel 1 2 rfl rfl
 obtain ⟨F,G⟩:=G.peel 1 3 rfl rfl
 obtain ⟨F,G⟩:=G.nM [0] KR
 have hw1:IntKind.wrap .i64 (((l ++ [x]).length:Int) - 1)=((l.length:Nat):Int):=Kp
 refine rT G (qR rr (qR rr (qf (o_nilCheck 2 .is XV) r1 r1 (qf (oF 0 2 .adr) r1 r1 (qa 2 r1 r1 (qR rr (qf (o_nilCheck 2 .is XV) r1 r1 (qf (oF 0 2 .adr) r1 r1 (qa 2 r1 r1 (qf (ZN 3 YbY .is) r1 r1 (qf (o_sub .t qi) r1 qz (qf (ZcH (sz:=1) 3 (.mk YbY kr) Wh .is .t Wv WS) r2 r1 (qf (o_nilCheck 2 .is XV) r1 r1 (qf (oF 0 2 .adr) r1 r1 (qf (o_storeS 2 .adr kr kr) r2 r1 qZ))))))))))))))) Z [] KR fun τ G=>?_
 have G:=Xv
 generalize τ 13=v13 at G
 rw [hw1,Yg,List.take_left] at G
 have G:=G.fresh 1 rfl
 obtain ⟨F,G⟩:=G.push 1 3 rfl rfl rfl kr
 obtain ⟨F,G⟩:=G.push 1 2 rfl rfl rfl kr
 have G:=G.turn 1 rfl (r':=RS.hp (stH (.pointer (some ⟨b,0,none⟩)) room l)) (fun _ _ _ _ h=>⟨_,h⟩)
 refine ZL hG G rfl .nil ZaB.none rfl
theorem Zs9 (b:Nat) (room:Int) (l:List Int) (x:Int) (hl:l.length≤70000):FnG prog 262 1 [.is (.pointer (some ⟨b,0,none⟩))] [stH (.pointer (some ⟨b,0,none⟩)) room (l ++ [x])] (.tup [.int .i64 x,.bool true]) (fun _=>[stH (.pointer (some ⟨b,0,none⟩)) room l]):=by
 refine FnG.mk func262 rfl ntmps262 rfl kr fun B F0 a w F Z hG G=>?_
 obtain ⟨rv,G⟩:=G.open_ex 1 rfl
 obtain ⟨F,G⟩:=G.peel 1 2 rfl rfl
 obtain ⟨F,G⟩:=G.peel 1 3 rfl rfl
 obtain ⟨F,G⟩:=G.nM [0] KR
 refine Ya (rZ G (qI qB) Z KR KR fun G=>Ya ?_)
 refine rZ G (qR rr (qf (Zhx (cells:=[.pv (.is rv),.pv _]) 2 3 0 (Znu room l x hl) ZrT rfl func273 rfl kr rfl rfl (Za1.one .is)) r1 r2 (qR rr (qf (Zs .t rfl) r1 qz (qf (Zs .t rfl) r1 qz (qO rr (qO rr qZ))))))) Z Qf KR fun G=>(Ya (Ya ?_))
 refine rZ G (qR rr qZ) Z [11,5,4,3,2,0] KR fun G=>?_
 refine Zb G rfl (fun hc0=>?_) (fun hc0=>?_)
 ·refine Zai 3 G kr (cG rfl (oM .t) r1 trivial (cG rfl (o_nilCheck 2 .is XV) r1 r1 (cG rfl (oF 0 2 .adr) r1 r1 ChainN.nil))) kr WG fun a w F G=>?_
  obtain ⟨F,G⟩:=G.nM [14,5,4,3,2] KR
  try dsimp only [Zq] at G
  have G:=G.fresh 1 rfl
  obtain ⟨F,G⟩:=G.push 1 3 rfl rfl rfl kr
  obtain ⟨F,G⟩:=G.push 1 2 rfl rfl rfl kr
  have G:=G.turn 1 rfl (r':=RS.hp (stH (.pointer (some ⟨b,0,none⟩)) room (l ++ [x]))) (fun _ _ _ _ h=>⟨_,h⟩)
  obtain ⟨F,G⟩:=G.nM [14,5,4,3,2] KQ
  refine Zat G kr (cG rfl (o_callG1 1 (Zuz b room l x hl) func274 rfl kr (Args.one (.conv .t (Ent.adr0)))) r1 r1 ChainN.nil) kr WG fun a w F G=>?_
  obtain ⟨F,G⟩:=G.nM QQ KQ
  try dsimp only [Zq] at G
  refine Za (Ya (rZ G (qR rr (qR rr (qO rr (qO rr qZ)))) Z Q8 KQ fun G=>Yj ?_))
  refine ZL hG G rfl (.tmp rfl (.tmp rfl .nil)) (.two .refl .refl) rfl
 simp at hc0
end Go.Proofs.YtolmpgbpdapaiaaGreat
