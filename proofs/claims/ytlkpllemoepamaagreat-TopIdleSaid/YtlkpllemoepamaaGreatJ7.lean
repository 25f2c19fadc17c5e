/- Texts put together. No condition beyond those that each theorem says. -/
import Derived.Test.YtlkpllemoepamaaGreatJ6
import Derived.Test.YtlkpllemoepamaaGreatJ3
import Derived.Test.YtlkpllemoepamaaGreatJ4
import Derived.Test.YtlkpllemoepamaaGreatJ1
import Derived.Deep.QuietTactic
import Derived.BigQuiet
import Derived.Shelf.SlSortCmp.WholeK
import Derived.Sort.LotA
import Derived.Test.YtlkpllemoepamaaGreatJ2
namespace Go.Proofs.YtlkpllemoepamaaGreat
open Go Go.Gm Tryz
set_option linter.unusedVariables false
set_option linter.unusedSimpArgs false
set_option maxHeartbeats 4000000
set_option maxRecDepth 8000
section
set_option linter.unusedSectionVars false
variable {α:Type} {κ:α→Int} {t x:α} {l out r:List α} {d:Bool}
def Zgi (κ:α→Int) (t:α):List α→Bool→List α
 | [],d=>if d=true then [] else [t]
 | x :: l,d=>(if d=false∧κ t≤κ x then [t] else [])++(if κ x=κ t then [] else [x])++Zgi κ t l (d || decide (κ t≤κ x))
theorem ZeI:∀ l:List α,Zgi κ t l true=l.filter fun x=>!decide (κ x=κ t)
 | []=>rfl
 | x :: l=>by
  rw [Zgi,Yc (by simp),Yav,Yb0,ZeI l]
  split
  ·rename_i h;rw [Yas (by simpa using h)];rfl
  ·rename_i h;rw [Yar (by simpa using h)];rfl
theorem Zkb {k:Int} (h:∀ x ∈ l,k<κ x):(l.filter fun x=>!decide (κ x=k))=l:=by
 rw [Ybk]
 intro x hx
 have:=h x hx
 simp;omega
theorem Zo4 {k:Int} : lowK κ k (x :: l)=if κ x<k then lowK κ k l+1 else 0:=by
 unfold lowK
 split
 ·rename_i h1;rw [Ybo (by simpa using h1),Yl]
 ·rename_i h1;rw [List.takeWhile_cons_of_neg (by simpa using h1)];rfl
theorem Zdg {k:Int} : isK κ k (x :: l)=(decide (κ x=k) || isK κ k l):=by unfold isK;rw [YbQ]
theorem ZfL (hs:l.Pairwise fun a b=>κ a<κ b) (hk:isK κ (κ t) l=false):Zgi κ t l false=l.take (lowK κ (κ t) l) ++ [t] ++ l.drop (lowK κ (κ t) l):=by
 induction l with
 | nil=>rfl
 | cons x l ih=>
  rw [Yo] at hs
  rw [Zdg,YbS,YD] at hk
  rw [Zgi,Yc hk.1,Zo4]
  by_cases h:κ x<κ t
  ·rw [Yc ow,Yf h,show (false || decide (κ t≤κ x))=false by simp;omega,ih hs.2 hk.2];simp
  ·rw [Yf ⟨rfl,by omega⟩,Yc h,show (false || decide (κ t≤κ x))=true by simp;omega,ZeI,Zkb fun y hy=>by have:=hs.1 y hy;omega];simp
theorem Zqn {y:α} (h:y ∈ Zgi κ t l d):(y=t∧d=false)∨(y ∈ l∧κ y≠κ t):=by
 induction l generalizing d with
 | nil=>cases d <;> simp [Zgi] at h;exact .inl ⟨h,rfl⟩
 | cons x l ih=>
  rw [Zgi,Yz,Yz] at h
  rcases h with (h | h) | h
  ·split at h
   ·rename_i h1;exact .inl ⟨by simpa using h,h1.1⟩
   ·cases h
  ·split at h
   ·cases h
   ·rename_i h1
    have e:y=x:=by simpa using h
    subst e
    exact .inr ⟨by simp,h1⟩
  ·rcases ih h with ⟨h1,h2⟩ | ⟨h1,h2⟩
   ·rw [YbS] at h2;exact .inl ⟨h1,h2.1⟩
   ·exact .inr ⟨by simp [h1],h2⟩
theorem Zhk (hs:l.Pairwise fun a b=>κ a<κ b):(Zgi κ t l d).Pairwise fun a b=>κ a<κ b:=by
 induction l generalizing d with
 | nil=>cases d <;> simp [Zgi]
 | cons x l ih=>
  rw [Yo] at hs
  have hf:=hs.2.filter fun x=>!decide (κ x=κ t)
  rw [Zgi]
  by_cases hA:d=false∧κ t≤κ x
  ·rw [Yf hA,show (d || decide (κ t≤κ x))=true by simp [hA.2],ZeI]
   have h1:∀ y ∈ l.filter (fun x=>!decide (κ x=κ t)),κ x<κ y:=fun y hy=>hs.1 y (YV.1 hy).1
   split
   ·rw [YP,YaP,Yo]
    exact ⟨fun y hy=>by have:=h1 y hy;omega,hf⟩
   ·rename_i h2
    rw [YN,YaP,YaP,Yo,Yo]
    refine ⟨fun y hy=>?_,h1,hf⟩
    rcases Yj.1 hy with rfl | hy
    ·omega
    ·have:=h1 y hy;omega
  ·rw [Yc hA,Yav]
   have ih2:=ih (d:=d || decide (κ t≤κ x)) hs.2
   split
   ·simpa using ih2
   ·rename_i h2
    rw [YaP,Yo]
    refine ⟨fun y hy=>?_,ih2⟩
    rcases Zqn hy with ⟨rfl,h3⟩ | ⟨h3,_⟩
    ·rw [YbS] at h3
     have:=YJ h3.2
     omega
    ·exact hs.1 y h3
end
def getO (os:List OrdD) (k:Int):List Int:=((os.find? fun o=>decide (o.key=k)).map OrdD.txs).getD []
theorem ZaW {o:OrdD} {os:List OrdD} {k:Int} : getO (o :: os) k=if o.key=k then o.txs else getO os k:=by
 unfold getO
 rw [Yb4]
 by_cases h:o.key=k <;> simp [h]
theorem Zeb {os:List OrdD} {k:Int} (h:∀ o ∈ os,o.key≠k):getO os k = []:=by
 unfold getO
 rw [Ybu.2 fun o ho=>by simpa using h o ho];rfl
theorem Zd2 {os:List OrdD} {o:OrdD} (hs:os.Pairwise fun a b=>a.key<b.key) (h:o ∈ os):getO os o.key=o.txs:=by
 induction os with
 | nil=>cases h
 | cons x os ih=>
  rw [Yo] at hs
  rw [ZaW]
  rcases Yj.1 h with rfl | h
  ·rw [Yf rfl]
  ·have:=hs.1 o h
   rw [Yc ow,ih hs.2 h]
theorem ZhB {os:List OrdD} {k:Int} (h:getO os k≠[]):(⟨k,getO os k⟩:OrdD) ∈ os:=by
 induction os with
 | nil=>exact absurd rfl h
 | cons x os ih=>
  rw [ZaW] at h ⊢
  by_cases e:x.key=k
  ·rw [Yf e];subst e;simp
  ·rw [Yc e] at h ⊢;simp [ih h]
def NE (os:List OrdD):Prop:=∀ o ∈ os,o.txs≠[]
def Zic (t:TxD) (l:List Int) (k:Int):List Int:=if t.done=true∧0<wcnt t.ops k then withO l t.id else withoutO l t.id
theorem Zko {os:List OrdD} (hs:os.Pairwise fun a b=>a.key<b.key) (k:Int):getO (os.filter fun o=>!decide (o.txs = [])) k=getO os k:=by
 induction os with
 | nil=>rfl
 | cons x os ih=>
  rw [Yo] at hs
  rw [ZaW]
  by_cases e:x.txs = []
  ·rw [Yas (by simpa using e),ih hs.2]
   split
   ·rename_i hk
    rw [e,Zeb fun o ho=>by have:=hs.1 o ho;omega]
   ·rfl
  ·rw [Yar (by simpa using e),ZaW,ih hs.2]
theorem ZrN {t:TxD} {os:List OrdD} {k:Int} : getO (os.map (ZkG t)) k=if isK OrdD.key k os=true then Zic t (getO os k) k else []:=by
 induction os with
 | nil=>simp [getO,isK]
 | cons x os ih=>
  rw [YS,ZaW,ZaW,Zdg,ih]
  by_cases e:x.key=k
  ·subst e
   rw [Yf (show (ZkG t x).key=x.key from rfl),Yf rfl]
   simp [ZkG,Zic]
  ·rw [Yc (show ¬ (ZkG t x).key=k from e),Yc e,YF e,YbI]
theorem Zjn {k' k:Int} : ∀ {os:List OrdD},(os.Pairwise fun a b=>a.key<b.key)→getO (ZjV k' os) k=getO os k
 | [],_=>by unfold ZjV;rw [ZaW];split <;> rfl
 | x :: os,h=>by
  rw [Yo] at h
  unfold ZjV
  split
  ·rw [ZaW,ZaW,Zjn h.2]
  ·split
   ·rfl
   ·rw [ZaW]
    split
    ·rename_i h1 h2 h3
     have h3:k' = k:=h3
     subst h3
     refine (Zeb fun o ho=>?_).symm
     rcases Yj.1 ho with rfl | ho
     ·exact h2
     ·have:=h.1 o ho;omega
    ·rfl
theorem Zll {k' k:Int} : ∀ {os:List OrdD},isK OrdD.key k (ZjV k' os)=(isK OrdD.key k os || decide (k' = k))
 | []=>by simp [ZjV,isK]
 | x :: os=>by
  unfold ZjV
  split
  ·rw [Zdg,Zdg,Zll,Bool.or_assoc]
  ·split
   ·rename_i h2
    rw [Zdg]
    by_cases e:k' = k
    ·simp [h2,e]
    ·simp [e]
   ·rw [Zdg,Bool.or_comm]
theorem Zk2:∀ (ks:List Int) {os:List OrdD} (k:Int),Zcq OrdD.key os→getO (ks.foldl ZeY os) k=getO os k∧isK OrdD.key k (ks.foldl ZeY os)=(isK OrdD.key k os || decide (k ∈ ks))
 | [],os,k,_=>by simp
 | k' :: ks,os,k,h=>by
  obtain ⟨h1,h2⟩:=Zk2 ks k (insK_rise k' h)
  rw [Yan,h1,h2,ZhH k' h,Zjn (ZS.1 h),Zll]
  refine ⟨rfl,?_⟩
  rw [Bool.or_assoc]
  congr 1
  rw [Yai]
  simp only [YaM,Yq,Yj]
  exact ⟨fun h=>h.elim (fun h=>.inl h.symm) .inr,fun h=>h.elim (fun h=>.inl h.symm) .inr⟩
theorem ZtN {os:List OrdD} {k:Int} (h:isK OrdD.key k os=false):getO os k = []:=by
 refine Zeb fun o ho e=>?_
 unfold isK at h
 rw [List.any_eq_false] at h
 exact h o ho (by simpa using e)
theorem ZgS {t:TxD} {os:List OrdD} (h:Zcq OrdD.key os) (k:Int):getO (settleO t os) k=Zic t (getO os k) k:=by
 unfold settleO
 have hins:getO (ZdD t os (Zaa t)) k=getO os k∧isK OrdD.key k (ZdD t os (Zaa t))=(isK OrdD.key k os || (t.done && decide (k ∈ Zaa t)))∧Zcq OrdD.key (ZdD t os (Zaa t)):=by
  unfold ZdD
  split
  ·rename_i hd
   obtain ⟨h1,h2⟩:=Zk2 (Zaa t) k h
   refine ⟨h1,by rw [h2,hd,Ybf],?_⟩
   have key:∀ (ks:List Int) (os:List OrdD),Zcq OrdD.key os→Zcq OrdD.key (ks.foldl ZeY os):=by
    intro ks
    induction ks with
    | nil=>intro os h;exact h
    | cons k ks ih=>intro os h;exact ih _ (insK_rise k h)
   exact key _ _ h
  ·rename_i hd
   exact ⟨rfl,by simp [hd],h⟩
 obtain ⟨h1,h2,h3⟩:=hins
 have hm:((ZdD t os (Zaa t)).map (ZkG t)).Pairwise fun a b=>a.key<b.key:=YaW.2 ((ZS.1 h3).imp fun h=>h)
 rw [Zko hm,ZrN,h1,h2]
 split
 ·rfl
 ·rename_i hk
  simp only [YaM,not_or,Yr,Yq] at hk
  have hk1:isK OrdD.key k os=false:=by simpa using hk.1
  rw [ZtN hk1]
  unfold Zic
  rw [Yc fun h9=>hk.2 ⟨h9.1,Zdc.2 h9.2⟩];rfl
theorem Zkk {t:TxD} {os:List OrdD} (h:Zcq OrdD.key os) (hs:Zdz os):(settleO t os).Pairwise (fun a b=>a.key<b.key)∧NE (settleO t os):=by
 have h3:=(ZgQ (t:=t) h hs (Zaa t)).1
 have hm:((ZdD t os (Zaa t)).map (ZkG t)).Pairwise fun a b=>a.key<b.key:=YaW.2 ((ZS.1 h3).imp fun h=>h)
 refine ⟨hm.filter _,fun o ho=>?_⟩
 have:=(YV.1 ho).2
 simpa using this
theorem ZtW {os:List OrdD} {k:Int} {i:Nat} (hi:i<os.length) (h:(Nn os i).key=k) (hq:∀ q,q<i→(Nn os q).key≠k):getO os k=(Nn os i).txs:=by
 unfold getO
 rw [List.find?_eq_some_iff_getElem.2 ⟨by simpa using h,i,hi,(nth_eq hi).symm,fun j hj=>by have:=hq j hj;rw [nth_eq ow] at this;simpa using this⟩];rfl
theorem ZtS {os:List OrdD} {k:Int} (hq:∀ q,q<os.length→(Nn os q).key≠k):getO os k = []:=Zeb fun o ho=>by
 obtain ⟨j,hj,e⟩:=Yab ho
 have:=hq j hj
 rwa [nth_eq hj,e] at this
theorem ZlP {l:List Z8} {e:Z8} (h:Zcq Za2 l) (hk:isK Za2 (Za2 e) l=false):Zcq Za2 (insE l e)∧(∀ s,s ∈ insE l e ↔ s ∈ l∨s=e)∧(insE l e).length=l.length+1:=by
 have hm:∀ s,s ∈ insE l e ↔ s ∈ l∨s=e:=fun s=>by
  unfold insE
  rw [Yz,Yz,Yk]
  constructor
  ·rintro ((h1 | h1) | h1)
   ·exact .inl (Yak h1)
   ·exact .inr h1
   ·exact .inl (Ya1 h1)
  ·rintro (h1 | h1)
   ·rw [← YaF (lowK Za2 (Za2 e) l) l,Yz] at h1
    rcases h1 with h1 | h1
    ·exact .inl (.inl h1)
    ·exact .inr h1
   ·exact .inl (.inr h1)
 refine ⟨?_,hm,?_⟩
 ·unfold insE
  rw [← ZfL (ZS.1 h) hk]
  exact ZS.2 (Zhk (ZS.1 h))
 ·have:=ZhD (κ:=Za2) (k:=Za2 e) l
  unfold insE
  simp only [Yd,Yi,YE,YM]
  omega
def ZsJ (L:List (List Z8)) (m:Nat):Prop:=∀ l ∈ L,l.length≤m∧Zcq Za2 l ∧ ∀ e ∈ l,okE e
theorem ZsJ.r {L:List (List Z8)} {m:Nat} (h:ZsJ L m) (hm:m≤1000000):ZvL L:=fun l hl=>⟨Y1 (h l hl).1 hm,(h l hl).2⟩
theorem ZsJ.set {L:List (List Z8)} {m k:Nat} {e:Z8} (h:ZsJ L m) (hk:k<L.length) (he:okE e) (hn:isK Za2 (Za2 e) (Nn L k)=false):ZsJ (L.set k (insE (Nn L k) e)) (m+1):=fun l hl=>by
 rcases List.mem_or_eq_of_mem_set hl with h1 | rfl
 ·exact ⟨Nat.le_succ_of_le (h l h1).1,(h l h1).2⟩
 ·obtain ⟨a1,a2,a3⟩:=h _ (nth_mem hk)
  obtain ⟨b1,b2,b3⟩:=ZlP a2 hn
  exact ⟨by omega,b1,fun s hs=>((b2 s).1 hs).elim (a3 s) fun h9=>h9 ▸ he⟩
theorem Zph {l:List Z8} {e:Z8} (hl:∀ s ∈ l,okE s) (he:okE e):isK Za2 (Za2 e) l=true ↔ e ∈ l:=by
 unfold isK
 rw [Yaz]
 constructor
 ·rintro ⟨s,h1,h2⟩;exact keyE_inj (hl s h1) he (Yt h2) ▸ h1
 ·exact fun h=>⟨e,h,Yag rfl⟩
structure ZbN (n:Nat) (E:List Zx) (O I:List (List Z8)):Prop where
 ol:O.length=n
 il:I.length=n
 on:ZsJ O E.length
 inn:ZsJ I E.length
 ok:∀ x ∈ E,ZaK n x=true
 om:∀ u:Nat,u<n → ∀ e,e ∈ Nn O u ↔ ∃ x ∈ E,x.src=(u:Int)∧endO x=e
 im:∀ u:Nat,u<n → ∀ e,e ∈ Nn I u ↔ ∃ x ∈ E,x.dst=(u:Int)∧endI x=e
theorem ZbN.outK {n:Nat} {E:List Zx} {O I:List (List Z8)} {x:Zx} (h:ZbN n E O I) (hn:n≤4096) (hx:ZaK n x=true):isK Za2 (Za2 (endO x)) (Nn O x.src.toNat)=true ↔ x ∈ E:=by
 obtain ⟨⟨s1,s2⟩,⟨d1,d2⟩,_⟩:=ZP.1 hx
 have hu:x.src.toNat<n:=by omega
 rw [Zph (h.on _ (nth_mem (by rw [h.ol];exact hu))).2.2 (endO_ok hx hn),h.om _ hu]
 constructor
 ·rintro ⟨y,y1,y2,y3⟩
  have e:y=x:=by
   cases y;cases x
   simp only [endO,Z8.mk.injEq] at y3
   simp only at y2 s1
   obtain ⟨a,b,c⟩:=y3
   rw [YaO s1] at y2
   subst a;subst b;subst c;subst y2;rfl
  exact e ▸ y1
 ·exact fun k=>⟨x,k,by rw [YaO s1],rfl⟩
theorem ZbN.has {n:Nat} {E:List Zx} {O I:List (List Z8)} {x:Zx} (h:ZbN n E O I) (hn:n≤4096):Zqt O x=true ↔ ZaK n x=true∧x ∈ E:=by
 unfold Zqt
 rw [h.ol,Yr]
 exact ⟨fun k=>⟨k.1,(h.outK hn k.1).1 k.2⟩,fun k=>⟨k.1,(h.outK hn k.1).2 k.2⟩⟩
theorem ZbN.inK {n:Nat} {E:List Zx} {O I:List (List Z8)} {x:Zx} (h:ZbN n E O I) (hn:n≤4096) (hx:ZaK n x=true):isK Za2 (Za2 (endI x)) (Nn I x.dst.toNat)=true ↔ x ∈ E:=by
 obtain ⟨⟨s1,s2⟩,⟨d1,d2⟩,_⟩:=ZP.1 hx
 have hu:x.dst.toNat<n:=by omega
 rw [Zph (h.inn _ (nth_mem (by rw [h.il];exact hu))).2.2 (endI_ok hx hn),h.im _ hu]
 constructor
 ·rintro ⟨y,y1,y2,y3⟩
  have e:y=x:=by
   cases y;cases x
   simp only [endI,Z8.mk.injEq] at y3
   simp only at y2 d1
   obtain ⟨a,b,c⟩:=y3
   rw [YaO d1] at y2
   subst a;subst b;subst c;subst y2;rfl
  exact e ▸ y1
 ·exact fun k=>⟨x,k,by rw [YaO d1],rfl⟩
theorem ZlY {n:Nat} {E:List Zx} {L:List (List Z8)} {x:Zx} {f:Zx→Int} {g:Zx→Z8} (hl:L.length=n) (hm:∀ u:Nat,u<n → ∀ e,e ∈ Nn L u ↔ ∃ x ∈ E,f x=(u:Int)∧g x=e) (h0:0≤f x) (hr:Zcq Za2 (Nn L (f x).toNat)) (hk:isK Za2 (Za2 (g x)) (Nn L (f x).toNat)=false) :
  ∀ u:Nat,u<n → ∀ e,e ∈ Nn (L.set (f x).toNat (insE (Nn L (f x).toNat) (g x))) u ↔ ∃ y ∈ E ++ [x],f y=(u:Int)∧g y=e:=fun u hu e=>by
 rw [ZvN ow]
 have hex:(∃ y ∈ E ++ [x],f y=(u:Int)∧g y=e) ↔ (∃ y ∈ E,f y=(u:Int)∧g y=e)∨(f x=(u:Int)∧g x=e):=by
  constructor
  ·rintro ⟨y,y1,y2⟩
   rcases Yz.1 y1 with y1 | y1
   ·exact .inl ⟨y,y1,y2⟩
   ·rw [Yk.1 y1] at y2;exact .inr y2
  ·rintro (⟨y,y1,y2⟩ | k)
   ·exact ⟨y,Yaf _ y1,y2⟩
   ·exact ⟨x,by simp,k⟩
 rw [hex]
 by_cases hc:(f x).toNat=u
 ·rw [Yf hc,(ZlP hr hk).2.1,hc,hm u hu]
  constructor
  ·rintro (k | k)
   ·exact .inl k
   ·exact .inr ⟨by omega,k.symm⟩
  ·rintro (k | k)
   ·exact .inl k
   ·exact .inr k.2.symm
 ·rw [Yc hc,hm u hu]
  exact ⟨.inl,fun k=>k.elim id fun k=>absurd ow hc⟩
theorem ZbN.add {n:Nat} {E:List Zx} {O I:List (List Z8)} {x:Zx} (h:ZbN n E O I) (hn:n≤4096) (hx:ZaK n x=true) (hne:x ∉ E):ZbN n (E ++ [x]) (O.set x.src.toNat (insE (Nn O x.src.toNat) (endO x))) (I.set x.dst.toNat (insE (Nn I x.dst.toNat) (endI x))):=by
 have ko:=Bool.eq_false_iff.2 (fun k=>hne ((h.outK hn hx).1 k))
 have ki:=Bool.eq_false_iff.2 (fun k=>hne ((h.inK hn hx).1 k))
 obtain ⟨⟨s1,s2⟩,⟨d1,d2⟩,_⟩:=ZP.1 hx
 have hl:=h.ol
 have hl2:=h.il
 have so:x.src.toNat<O.length:=by omega
 have si:x.dst.toNat<I.length:=by omega
 refine ⟨by simp [hl],by simp [hl2],?_,?_,fun y hy=>?_,?_,?_⟩
 ·rw [Yd];exact h.on.set so (endO_ok hx hn) ko
 ·rw [Yd];exact h.inn.set si (endI_ok hx hn) ki
 ·rcases Yz.1 hy with hy | hy
  ·exact h.ok y hy
  ·rw [Yk.1 hy];exact hx
 ·exact ZlY (f:=Zx.src) (g:=endO) hl h.om s1 (h.on _ (nth_mem so)).2.1 ko
 ·exact ZlY (f:=Zx.dst) (g:=endI) hl2 h.im d1 (h.inn _ (nth_mem si)).2.1 ki
theorem ZbN.next {n:Nat} {E:List Zx} {O I:List (List Z8)} (h:ZbN n E O I) (mask u:Int):Zdu (adjO O mask u) ∧ ∀ v,v ∈ adjO O mask u ↔ ∃ x ∈ E,x.src=u∧ofB mask x.kind=true∧x.dst=v:=by
 by_cases hu:0≤u∧u<O.length
 ·unfold adjO
  rw [Yf hu]
  refine ⟨(ZV _).1,fun v=>?_⟩
  rw [(ZV _).2,Yv]
  constructor
  ·rintro ⟨e,h1,h2⟩
   obtain ⟨h3,h4⟩:=YV.1 h1
   obtain ⟨x,x1,x2,rfl⟩:=(h.om u.toNat (by have:=h.ol;omega) e).1 h3
   exact ⟨x,x1,by omega,h4,h2⟩
  ·rintro ⟨x,x1,x2,x3,x4⟩
   exact ⟨endO x,YV.2 ⟨(h.om u.toNat (by have:=h.ol;omega) _).2 ⟨x,x1,by omega,rfl⟩,x3⟩,x4⟩
 ·unfold adjO
  rw [Yc hu]
  refine ⟨List.Pairwise.nil,fun v=>⟨fun k=>(by cases k),?_⟩⟩
  rintro ⟨x,x1,x2,_⟩
  have:=(ZP.1 (h.ok x x1)).1
  have:=h.ol
  exact absurd ⟨by omega,by omega⟩ hu
def Zjm (n:Nat) (E:List Zx) (x:Zx):List Zx:=if ZaK n x=true∧x ∉ E then E ++ [x] else E
theorem ZqQ {n:Nat} {E:List Zx} {x y:Zx} : y ∈ Zjm n E x ↔ y ∈ E∨(y=x∧ZaK n y=true):=by
 unfold Zjm
 split
 ·rename_i h
  rw [Yz,Yk]
  exact ⟨fun k=>k.elim .inl fun e=>.inr ⟨e,e ▸ h.1⟩,fun k=>k.elim .inl fun e=>.inr e.1⟩
 ·rename_i h
  refine ⟨.inl,fun k=>k.elim id fun ⟨e,hr⟩=>?_⟩
  subst e
  exact Ybv fun hx=>h ⟨hr,hx⟩
theorem Zil {n:Nat} : ∀ {L E:List Zx} {y:Zx},y ∈ L.foldl (Zjm n) E ↔ y ∈ E∨(y ∈ L∧ZaK n y=true)
 | [],E,y=>by simp
 | x :: L,E,y=>by
  rw [Yan,Zil,ZqQ,Yj]
  constructor
  ·rintro ((h | ⟨h,k⟩) | ⟨h,k⟩)
   ·exact .inl h
   ·exact .inr ⟨.inl h,k⟩
   ·exact .inr ⟨.inr h,k⟩
  ·rintro (h | ⟨h | h,k⟩)
   ·exact .inl (.inl h)
   ·exact .inl (.inr ⟨h,k⟩)
   ·exact .inr ⟨h,k⟩
theorem Zos {n:Nat} (E:List Zx) (x:Zx):(Zjm n E x).length≤E.length+1:=by
 unfold Zjm;split <;> simp
theorem Zej {n:Nat} : ∀ (L E:List Zx),(L.foldl (Zjm n) E).length≤E.length+L.length
 | [],E=>YL _
 | x :: L,E=>by
  have h1:=Zej (n:=n) L (Zjm n E x)
  have h2:=Zos (n:=n) E x
  rw [Yan,Yl];omega
theorem ZbN.new (n:Nat):ZbN n [] (List.replicate n []) (List.replicate n []):=by
 have hn:∀ u:Nat,u<n→Nn (List.replicate n ([]:List Z8)) u = []:=fun u hu=>by
  rw [nth_eq (by simpa using hu)];simp
 have hd:ZsJ (List.replicate n []) ([]:List Zx).length:=fun l hl=>by
  rw [(List.mem_replicate.1 hl).2];exact ⟨YL _,ZS.2 .nil,fun e h=>by cases h⟩
 exact ⟨by simp,by simp,hd,hd,(fun x h=>by cases h),(fun u hu e=>by rw [hn u hu];simp),(fun u hu e=>by rw [hn u hu];simp)⟩
theorem ZbN.step {n:Nat} {E:List Zx} {O I:List (List Z8)} (h:ZbN n E O I) (hn:n≤4096) (x:Zx) (m:Nat):ZbN n (Zjm n E x) (ZeT O I m x).1 (ZeT O I m x).2.1∧(ZeT O I m x).2.2.1≤m+1:=by
 unfold ZeT Zjm
 rw [h.ol]
 by_cases hr:ZaK n x=true
 ·rw [Yf hr]
  by_cases hx:x ∈ E
  ·rw [Yf ((h.has hn).2 ⟨hr,hx⟩),Yc (fun k=>k.2 hx)];exact ⟨h,Nat.le_succ _⟩
  ·rw [Yc (fun k=>hx ((h.has hn).1 k).2),Yf ⟨hr,hx⟩];exact ⟨h.add hn hr hx,YL _⟩
 ·rw [Yc hr,Yc (fun k=>hr k.1)];exact ⟨h,Nat.le_succ _⟩
theorem Zpu (l:List Zg) (hl:l.length≤1000000):FnG prog 124 1 [.sl Zq l] [.star []] (PV.one) (fun v=>[Zy 42 4 Zq l v]):=by
 refine FnG.mk func124 rfl ntmps124 rfl kr fun B F0 a w F V hG G=>?_
 obtain ⟨F,G⟩:=G.nM [0] [0]
 refine Ya (rZ G (qC qZ) V [2,0] [0] fun G=>(Ya (Ya ?_)))
 refine Ze G (qR rr (qf (ZbG Yce .t) r1 qz qZ)) V [4,2,0] [0] rfl rfl fun a w F G=>?_
 obtain ⟨β4,hβ4,G⟩:=G.pickBool 4 rfl
 obtain ⟨F,G⟩:=G.nM [4,2,0] [0]
 refine Za (Zc G rfl (fun hc0=>?_) (fun hc0=>?_))
 ·have hg:l = []:=hβ4 hc0
  refine Ya (rZ G (qC qZ) V [2,0] [0] fun G=>(Yh (Zk ?_)))
  have G:=G.fresh 1 rfl
  have G:=G.turn 1 rfl (ZaE (T:=42) (sz:=4) (R:=Zq))
  have G:=G.turn 1 rfl (r':=RS.hp (Zy 42 4 Zq l (.slice none 0 0))) (fun _ _ _ _ h=>by rw [hg];exact h)
  refine Z1 (h':=fun v=>Zy 42 4 Zq l v) hG G rfl (.tmp rfl .nil) (.one .one) rfl
 have hg:l = [] ++ l:=rfl
 refine Ye (Za (Ya (Zb G (qf (Za6 (R:=Zq) (sz:=4) 101 Yce kr) trivial qz (qR rr (qf (ZR (sz:=4) (bs:=32) 101 (.mk' Yce kr kr) (by intro x;rfl) .same (.sl .t) (by simp only [Yd,Yy];omega) (by decide)) ⟨rfl,rfl,tv⟩ ⟨rfl,tv⟩ (qO rr qZ)))) V [2] [101,0] (fun _=>rfl) (fun _=>rfl) fun τ a w F G=>?_)))
 try dsimp only [RS.sub,SF.sub,CF.sub,csub,Anc.sub,List.map,Zf,xL,xM,Nat.reduceAdd,xD,xE,xT,xU,xC,xN,zCF,Zq] at G
 generalize τ 7=v7 at G
 refine Za (Yh ?_)
 obtain ⟨F,G⟩:=G.rename 101 1 rfl rfl
 have G:=G.turn 1 rfl (r':=RS.hp (Zy 42 4 Zq l v7)) (fun _ _ _ _ h=>by rw [hg];exact h)
 refine Z1 (h':=fun v=>Zy 42 4 Zq l v) hG G rfl (.tmp rfl .nil) (.one .one) rfl
theorem ZjZ (v:Value) (l:List Zg) (hll:l.length≤1000000):FnG prog 175 1 [.is v] [Zy 42 4 Zq l v] (PV.one) (fun v=>[Zy 42 4 Zq (Zt l) v]):=by
 refine FnG.mk func175 rfl ntmps175 rfl kr fun B F0 a w F V hG G=>?_
 replace G:=G.turn 1 rfl (r':=.ob (.val v) (Zy 42 4 Zq l)) (fun _ _ _ _ h=>h)
 refine Ya (rZ G (qC qZ) V [2,0] [1,0] fun G=>(Ya (Ya ?_)))
 refine rZ G (qR rr (qf (ZU 1 Yce .is) r1 r1 (qf (ZaA .t qi) r1 qz qZ))) V [8,2,0] [1,0] fun G=>?_
 refine Zc G rfl (fun hc0=>?_) (fun hc0=>?_)
 ·have hg:(Zt l)=l:=ZbV (by simp at hc0;omega)
  refine Ya (rZ G (qR rr (qO rr qZ)) V [2,0] [1,0] fun G=>(Yh (Zk ?_)))
  have G:=G.turn 1 rfl (r':=RS.hp (Zy 42 4 Zq (Zt l) v)) (fun _ _ _ _ h=>by rw [hg];exact h)
  refine Z1 (h':=fun v=>Zy 42 4 Zq (Zt l) v) hG G rfl (.tmp rfl .nil) (.one .one) rfl
 have hl2:2≤l.length:=by simp at hc0;omega
 refine Ye (Za (Ya (Ya (rZ G (qI qZ) V [3,2,0] [1,0] fun G=>Yg ?_))))
 refine Zl (σ:=Nat) [0,2] [0,1] (fun s=>[(3,.pv (.int .i64 (s:Int)))]) (fun s=>[]) (fun s=>1≤s∧s≤l.length∧Zt (l.take s)=l.take s) (fun s=>l.length - s) (1) G ⟨rfl,rfl,rfl,tv⟩ ⟨rfl,rfl,tv⟩ ⟨by omega,by omega,ZbV (by rw [Yi];omega)⟩ ?_
 clear G;intro k a w F hC G
 try dsimp only at hC
 obtain ⟨F,G⟩:=G.nM [3,2,0] [1,0]
 try dsimp only at G
 obtain ⟨hk1,hkl,hkc⟩:=hC
 have hkw:IntKind.wrap .i64 ((k:Int) - 1)=(k:Int) - 1:=Zz ow
 refine Ya (Ya (rZ G (qR rr (qR rr (qf (ZU 1 Yce .is) r1 r1 (qL r2)))) V [13,3,2,0] [1,0] fun G=>?_))
 refine Zc G rfl (fun hc1=>?_) (fun hc1=>?_)
 ·have hil:k<l.length:=by simp at hc1;omega
  have hst:=Zbt (l:=l) hk1 hil
  have hy0:(IntKind.wrap .i64 ((k:Int) - 1)).toNat=k - 1:=by rw [hkw];omega
  refine Ye (Za (Ya (Yg (Ya (Zv G (qR rr (qR rr (qf (o_indexAddr_row (sz:=4) 1 (.mk Yce kr) .is .t ow ow (by rfl)) r2 r1 (qf (Zu (ag:=true) (sz':=4) (sz:=4) 1 .t (by intro x;rfl) ow kr kr kr) r1 r1 (qR rr (qR rr (qf (o_sub .t qi) r1 qz (qf (o_indexAddr_row (sz:=4) 1 (.mk Yce kr) .is .t (by rw [hkw];omega) (by rw [hkw];omega) (by rfl)) r2 r1 (qf (Zu (ag:=true) (sz':=4) (sz:=4) 1 .t (by intro x;rfl) (by rw [hkw];omega) kr kr kr) r1 r1 (qf (o_eqlS (ks:=[true,true,true,true]) kr .t .t (.int (.int (.int (.int .nil))))) r2 qz qZ)))))))))) V [25,3,2,0] [1,0] rfl rfl fun a w F G=>?_)))))
  try dsimp only [List.map,xD,xE,xT,xU,ldSF,Zq] at G
  try simp only [Yb] at G
  refine Za (Zc G rfl (fun hc2=>?_) (fun hc2=>?_))
  ·have heq:Nn l (k - 1)=Nn l k:=by rw [hy0] at hc2;simp only [Zvs] at hc2;simp at hc2;exact hc2.symm
   rw [Yf heq,hkc] at hst
   have hst0:=hst.symm
   refine Ya (rZ G (qR rr (qR rr (qf (Z7 (sz:=4) 1 (.mk Yce kr) .is .t ow ow) r2 r1 (qO rr qZ)))) V [4,3,2,0] [1,0] fun G=>(Ya (Ya ?_)))
   refine rZ G (qI qZ) V [5,4,3,2,0] [1,0] fun G=>Yg ?_
   have hC0:1≤1∧1≤l.length - k∧k≤k∧k≤k+1 - 1∧l.length=l.length∧l.take k=Zt (l.take (k+1)) ∧ ∀ q,k+1 - 1≤q→q<l.length→Nn l q=Nn l q:=⟨by omega,by omega,by omega,by omega,rfl,hst0,fun q _ _=>rfl⟩
   refine Zl (σ:=Nat×Nat×List Zg) [0,2,4] [0] (fun s=>[(3,.pv (.int .i64 (s.1:Int))),(5,.pv (.int .i64 (s.2.1:Int)))]) (fun s=>[(1,.ob (.val v) (Zy 42 4 Zq s.2.2))]) (fun s=>1≤s.2.1∧s.2.1≤l.length - k∧k≤s.1∧s.1≤k+s.2.1 - 1∧s.2.2.length=l.length∧s.2.2.take s.1=Zt (l.take (k+s.2.1)) ∧ ∀ q,k+s.2.1 - 1≤q→q<l.length→Nn s.2.2 q=Nn l q) (fun s=>l.length - s.2.1) ((k),(1),(l)) G ⟨rfl,rfl,rfl,rfl,rfl,tv⟩ ⟨rfl,rfl,tv⟩ hC0 ?_
   clear G;intro s a w F hC G
   obtain ⟨k1,j,l1⟩:=s
   try dsimp only at hC
   obtain ⟨F,G⟩:=G.nM [5,4,3,2,0] [1,0]
   try dsimp only at G
   obtain ⟨hj1,hjk,hkk,hkj,hl1,htk,hrest⟩:=hC
   have hjw:IntKind.wrap .i64 ((j:Int) - 1)=(j:Int) - 1:=Zz ow
   refine Ya (Ya (rZ G (qR rr (qR rr (qf (Zi2 1 Yce .t ow) r1 r1 (qL r2)))) V [32,5,4,3,2,0] [1,0] fun G=>?_))
   refine Zc G rfl (fun hc3=>?_) (fun hc3=>?_)
   ·have hjl:k+j<l.length:=by simp at hc3;omega
    have hx1:(Nn l1 (((k:Int)).toNat+((j:Int)).toNat))=Nn l (k+j):=by rw [Yb,Yb];exact hrest _ ow hjl
    have hx0:Nn l1 (((k:Int)).toNat+(IntKind.wrap .i64 ((j:Int) - 1)).toNat)=Nn l (k+j - 1):=by rw [hjw,show ((k:Int)).toNat+((j:Int) - 1).toNat=k+j - 1 by omega];exact hrest _ ow ow
    have hstp:=Zbt (l:=l) (p:=k+j) ow hjl
    refine Ye (Za (Ya (Yg (Ya (Zv G (qR rr (qR rr (qf (o_indexAddr_sub (sz:=4) 1 (.mk Yce kr) .t .t ow ow (by rfl)) r2 r1 (qf (Zu (ag:=true) (sz':=4) (sz:=4) 1 .t (by intro x;rfl) ow kr kr kr) r1 r1 (qR rr (qR rr (qf (o_sub .t qi) r1 qz (qf (o_indexAddr_sub (sz:=4) 1 (.mk Yce kr) .t .t (by rw [hjw];omega) (by rw [hjw];omega) (by rfl)) r2 r1 (qf (Zu (ag:=true) (sz':=4) (sz:=4) 1 .t (by intro x;rfl) (by rw [hjw];omega) kr kr kr) r1 r1 (qf (o_neqS (ks:=[true,true,true,true]) kr .t .t (.int (.int (.int (.int .nil))))) r2 qz qZ)))))))))) V [44,5,4,3,2,0] [1,0] rfl rfl fun a w F G=>?_)))))
    try dsimp only [List.map,xD,xE,xT,xU,ldSF,Zq] at G
    try simp only [Yb] at G
    refine Za (Zc G rfl (fun hc4=>?_) (fun hc4=>?_))
    ·have hne:¬ Nn l (k+j - 1)=Nn l (k+j):=by rw [← hx1,← hx0];simp only [Zvs] at hc4;simp at hc4 ⊢;exact fun e=>hc4 e.symm
     rw [Yc hne] at hstp
     obtain ⟨i2,hi2e⟩:∃ i2,i2=k1+1:=⟨_,rfl⟩
     have hi2:IntKind.wrap .i64 ((k1:Int)+1)=(i2:Int):=by rw [hi2e];exact Zd ow
     obtain ⟨l2,hl2e⟩:∃ l2,l2=l1.set k1 (Nn l1 (k+j)):=⟨_,rfl⟩
     have hx1b:Nn l1 (k+j)=Nn l (k+j):=hrest _ ow hjl
     have hC2:1≤j+1∧j+1≤l.length - k∧k≤i2∧i2≤k+(j+1) - 1∧l2.length=l.length∧l2.take i2=Zt (l.take (k+(j+1))) ∧ ∀ q,k+(j+1) - 1≤q→q<l.length→Nn l2 q=Nn l q:=⟨by omega,by omega,by omega,by omega,by rw [hl2e,YI];exact hl1,by rw [hl2e,hi2e,Zp (by rw [YI];omega),YbG (YL _),htk,nth_eq (by rw [YI];omega),Yba,hx1b];exact hstp.symm,fun q hq hq2=>by rw [hl2e,nth_eq (by rw [YI];omega),YbH ow,← nth_eq ow];exact hrest q ow hq2⟩
     refine Ya (Ze G (qR rr (qR rr (qR rr (qR rr (qf (o_indexAddr_sub (sz:=4) 1 (.mk Yce kr) .t .t ow ow (by rfl)) r2 r1 (qf (Zu (ag:=true) (sz':=4) (sz:=4) 1 .t (by intro x;rfl) ow kr kr kr) r1 r1 (qf (o_indexAddr_row (sz:=4) 1 (.mk Yce kr) .is .t ow ow (by rfl)) r2 r1 (qf (ZdR (sz:=4) 1 .t (by intro x;rfl) ow (.conv .t (Ent.aggU (l:=Zq (Nn l1 (((k:Int)).toNat+((j:Int)).toNat))) rfl rfl)) kr) r2 r1 qZ)))))))) V [5,4,3,2,0] [1,0] rfl rfl fun a w F G=>?_)
     try simp only [Yb] at G
     rw [← hl2e] at G
     refine Za (Ze G (qR rr (qp r1 (qO rr qZ))) V [5,4,3,2,0] [1,0] rfl rfl fun a w F G=>Zi (Za ?_))
     refine rZ G (qR rr (qp r1 (qO rr qZ))) V [5,4,3,2,0] [1,0] fun G=>?_
     have hmu:l.length - (j+1)<l.length - j:=by omega
     replace G:=G.ent (i:=3) (s':=.pv (.int .i64 (i2:Int))) rfl (.int hi2)
     replace G:=G.ent (i:=5) (s':=.pv (.int .i64 ((j+1:Nat):Int))) rfl (.int (Zd ow))
     obtain ⟨F,G⟩:=G.nM [4,2,0,5,3] [0,1]
     exact ⟨((i2),(j+1),(l2)),F,hC2,G,hmu⟩
    have heq2:Nn l (k+j - 1)=Nn l (k+j):=by rw [← hx1,← hx0];simp only [Zvs] at hc4;simp at hc4 ⊢;exact hc4.symm
    rw [Yf heq2] at hstp
    obtain ⟨i2,hi2e⟩:∃ i2,i2=k1:=⟨_,rfl⟩
    have hi2:(k1:Int)=(i2:Int):=by rw [hi2e]
    obtain ⟨l2,hl2e⟩:∃ l2,l2=l1:=⟨_,rfl⟩
    rw [← hl2e] at G
    have hC2:1≤j+1∧j+1≤l.length - k∧k≤i2∧i2≤k+(j+1) - 1∧l2.length=l.length∧l2.take i2=Zt (l.take (k+(j+1))) ∧ ∀ q,k+(j+1) - 1≤q→q<l.length→Nn l2 q=Nn l q:=⟨by omega,by omega,by omega,by omega,by rw [hl2e];exact hl1,by rw [hl2e,hi2e,htk];exact hstp.symm,fun q hq hq2=>by rw [hl2e];exact hrest q ow hq2⟩
    refine Ye (Zi (Za (rZ G (qR rr (qp r1 (qO rr qZ))) V [5,4,3,2,0] [1,0] fun G=>?_)))
    have hmu:l.length - (j+1)<l.length - j:=by omega
    replace G:=G.ent (i:=3) (s':=.pv (.int .i64 (i2:Int))) rfl (.int hi2)
    replace G:=G.ent (i:=5) (s':=.pv (.int .i64 ((j+1:Nat):Int))) rfl (.int (Zd ow))
    obtain ⟨F,G⟩:=G.nM [4,2,0,5,3] [0,1]
    exact ⟨((i2),(j+1),(l2)),F,hC2,G,hmu⟩
   have hjl:k+j=l.length:=by simp at hc3;omega
   have hg:(Zt l)=(l1.take k1++List.replicate (l1.length - k1) noE).take k1:=by rw [YY (by rw [Yi];omega),YaS,Yb7,htk,hjl,YA]
   refine Yw (Zj (Zj (Zo (Za (Ya (rZ G (qR rr (qR rr (qf (Z7 (sz:=4) 1 (.mk Yce kr) .is .t ow ow) r2 r1 (qf (ZbB (R:=Zq) (z:=noE) (zs:=[.int .i64 0,.int .i64 0,.int .i64 0,.int .i64 0]) 1 Yce kr rfl rfl Zrq (by intro x;rfl) .t (by simp;omega)) r1 r1 qZ)))) V [3,2,0] [1,0] fun G=>Ya ?_))))))
   refine Zb G (qR rr (qR rr (qf (ZbH (sz:=4) 1 (.mk Yce kr) (by intro x;rfl) .is .t ow (by simp;omega)) r2 r1 (qO rr qZ)))) V [3,2,0] [1,0] (fun _=>rfl) (fun _=>rfl) fun τ a w F G=>?_
   try dsimp only [RS.sub,SF.sub,CF.sub,csub,Anc.sub,List.map,Zq] at G
   generalize τ 59=v59 at G
   refine Za (Yh (ZA (Zk (Zk (ZA (Zk ?_))))))
   have G:=G.turn 1 rfl (r':=RS.hp (Zy 42 4 Zq (Zt l) v59)) (fun _ _ _ _ h=>by rw [hg];exact h)
   refine Z1 (h':=fun v=>Zy 42 4 Zq (Zt l) v) hG G rfl (.tmp rfl .nil) (.one .one) rfl
  have hne:¬ Nn l (k - 1)=Nn l k:=by rw [hy0] at hc2;simp only [Zvs] at hc2;simp at hc2;exact fun e=>hc2 e.symm
  rw [Yc hne] at hst
  refine Ye (Zi (Za (rZ G (qR rr (qp r1 (qO rr qZ))) V [3,2,0] [1,0] fun G=>?_)))
  replace G:=G.ent (i:=3) (s':=.pv (.int .i64 ((k+1:Nat):Int))) rfl (.int (Zd ow))
  obtain ⟨F,G⟩:=G.nM [2,0,3] [1,0]
  exact ⟨(k+1),F,⟨by omega,by omega,by rw [hst,hkc,← Zp hil]⟩,G,by omega⟩
 have hg:(Zt l)=l:=by rw [show k=l.length by simp at hc1;omega,YA] at hkc;exact hkc
 refine Yw (Zj (Zj (Zo (Za (Ya (rZ G (qR rr (qO rr qZ)) V [2] [1,0] fun G=>Yh ?_))))))
 have G:=G.turn 1 rfl (r':=RS.hp (Zy 42 4 Zq (Zt l) v)) (fun _ _ _ _ h=>by rw [hg];exact h)
 refine Z1 (h':=fun v=>Zy 42 4 Zq (Zt l) v) hG G rfl (.tmp rfl .nil) (.one .one) rfl
def Zhy:Go.Shelf.Ren:=⟨fun | 6=>173 | 15=>142 | 14=>211 | 28=>189 | 29=>190 | 20=>232 | 21=>233 | 22=>234 | 23=>235 | 24=>236 | 25=>237 | 26=>238 | 27=>239 | 46=>249 | 47=>213 | 48=>214 | 49=>250 | 50=>251 | 57=>256 | n=>n,fun | 22=>31 | 24=>42 | 25=>245 | 3=>3 | 39=>162 | 0=>0 | 53=>260 | 55=>175 | 4=>4 | 46=>253 | 45=>252 | 50=>43 | 5=>5 | 9=>9 | 66=>290 | 70=>294 | 76=>309 | 77=>107 | n=>n,fun  | n=>n⟩
theorem Zqi:Go.Proofs.SlLaysF0.n6 prog Zhy where
 mixed:=by kernel_rfl
 f6:=⟨f173.name,by kernel_rfl,func173.trans (Y4 some kr)⟩
 f14:=⟨f211.name,by kernel_rfl,func211.trans (Y4 some kr)⟩
 f15:=func142.trans (Y4 some kr)
 f20:=⟨f232.name,by kernel_rfl,func232.trans (Y4 some kr)⟩
 f21:=⟨f233.name,by kernel_rfl,func233.trans (Y4 some kr)⟩
 f22:=⟨f234.name,by kernel_rfl,func234.trans (Y4 some kr)⟩
 f23:=⟨f235.name,by kernel_rfl,func235.trans (Y4 some kr)⟩
 f24:=⟨f236.name,by kernel_rfl,func236.trans (Y4 some kr)⟩
 f25:=⟨f237.name,by kernel_rfl,func237.trans (Y4 some kr)⟩
 f26:=⟨f238.name,by kernel_rfl,func238.trans (Y4 some kr)⟩
 f27:=⟨f239.name,by kernel_rfl,func239.trans (Y4 some kr)⟩
 f28:=func189.trans (Y4 some kr)
 f29:=func190.trans (Y4 some kr)
 f46:=⟨f249.name,by kernel_rfl,func249.trans (Y4 some kr)⟩
 f47:=func213.trans (Y4 some kr)
 f48:=func214.trans (Y4 some kr)
 f49:=⟨f250.name,by kernel_rfl,func250.trans (Y4 some kr)⟩
 f50:=⟨f251.name,by kernel_rfl,func251.trans (Y4 some kr)⟩
 f57:=⟨f256.name,by kernel_rfl,func256.trans (Y4 some kr)⟩
 t0:=underlying0
 a0:=Tryz.isAgg0
 z0:=Tryz.sizeOf0
 v0:=Tryz.zeroValue0
 t3:=Ycl
 a3:=Tryz.isAgg3
 z3:=Tryz.sizeOf3
 v3:=Tryz.zeroValue3
 t4:=Ycs
 a4:=Tryz.isAgg4
 z4:=Tryz.sizeOf4
 v4:=Tryz.zeroValue4
 t5:=underlying5
 a5:=Tryz.isAgg5
 z5:=Tryz.sizeOf5
 v5:=Tryz.zeroValue5
 t9:=Yct
 a9:=Tryz.isAgg9
 z9:=Tryz.sizeOf9
 v9:=Tryz.zeroValue9
 t22:=Yce
 a22:=Tryz.isAgg31
 z22:=Tryz.sizeOf31
 v22:=Tryz.zeroValue31
 t25:=underlying245
 a25:=Tryz.isAgg245
 z25:=Tryz.sizeOf245
 v25:=Tryz.zeroValue245
 t39:=Yck
 a39:=Tryz.isAgg162
 z39:=Tryz.sizeOf162
 v39:=Tryz.zeroValue162
 t45:=underlying252
 a45:=Tryz.isAgg252
 z45:=Tryz.sizeOf252
 v45:=Tryz.zeroValue252
 t46:=underlying253
 a46:=Tryz.isAgg253
 z46:=Tryz.sizeOf253
 v46:=Tryz.zeroValue253
 t50:=underlying43
 a50:=Tryz.isAgg43
 z50:=Tryz.sizeOf43
 v50:=Tryz.zeroValue43
 t53:=underlying260
 a53:=Tryz.isAgg260
 z53:=Tryz.sizeOf260
 v53:=Tryz.zeroValue260
 t55:=Ycu
 a55:=Tryz.isAgg175
 z55:=Tryz.sizeOf175
 v55:=Tryz.zeroValue175
 t66:=underlying290
 a66:=Tryz.isAgg290
 z66:=Tryz.sizeOf290
 v66:=Tryz.zeroValue290
 t70:=underlying294
 a70:=Tryz.isAgg294
 z70:=Tryz.sizeOf294
 v70:=Tryz.zeroValue294
 t76:=underlying309
 a76:=Tryz.isAgg309
 z76:=Tryz.sizeOf309
 v76:=Tryz.zeroValue309
 t77:=underlying107
 a77:=Tryz.isAgg107
 z77:=Tryz.sizeOf107
 v77:=Tryz.zeroValue107
theorem Zwm (x:Int) (w:World):Calls prog 151 #[.int .i64 x] w fun e w'=>e = .returned (.bool false)∧w' = w:=by
 go_enter func151,ntmps151
 go_wp2
 go_ret
 exact ⟨by simp,rfl⟩
theorem ZvH (x y:Int) (w:World):Calls prog 110 #[.int .i64 x,.int .i64 y] w fun e w'=>e = .returned (.int .i64 (Zc7 x y))∧w' = w:=by
 go_enter func110,ntmps110
 go_wp2_with (go_at_call 151;refine (Zwm _ _).mono ?_;rintro e w' ⟨rfl,rfl⟩)
 all_goals (go_ret;refine ⟨?_,rfl⟩;unfold Zc7; (repeat' split) <;> first | rfl | (exfalso;omega))
theorem Zv5 {a:Int} (h:(a != 0)=true):¬ a=0:=by simpa using h
theorem ZuB {a:Int} (h:(a != 0)=false):a=0:=by simpa using h
theorem Zuf {x y:Zg} (h:(Zc7 x.src y.src != 0)=true):cmpE x y=Zc7 x.src y.src:=by unfold cmpE Zfc Zgz;rw [Yc (fun e=>Zv5 h (ZcJ.2 e))]
theorem Zuj {x y:Zg} (h0:(Zc7 x.src y.src != 0)=false) (h:(Zc7 x.kind y.kind != 0)=true):cmpE x y=Zc7 x.kind y.kind:=by unfold cmpE Zfc Zgz;rw [Yf (ZcJ.1 (ZuB h0))];unfold Zgz;rw [Yc (fun e=>Zv5 h (ZcJ.2 e))]
theorem Zt1 {x y:Zg} (h0:(Zc7 x.src y.src != 0)=false) (h1:(Zc7 x.kind y.kind != 0)=false) (h:(Zc7 x.key y.key != 0)=true):cmpE x y=Zc7 x.key y.key:=by unfold cmpE Zfc Zgz;rw [Yf (ZcJ.1 (ZuB h0))];unfold Zgz;rw [Yf (ZcJ.1 (ZuB h1))];unfold Zgz;rw [Yc (fun e=>Zv5 h (ZcJ.2 e))]
theorem ZpV {x y:Zg} (h0:(Zc7 x.src y.src != 0)=false) (h1:(Zc7 x.kind y.kind != 0)=false) (h2:(Zc7 x.key y.key != 0)=false):cmpE x y=Zc7 x.dst y.dst:=by
 unfold cmpE Zfc Zgz;rw [Yf (ZcJ.1 (ZuB h0))];unfold Zgz;rw [Yf (ZcJ.1 (ZuB h1))];unfold Zgz;rw [Yf (ZcJ.1 (ZuB h2))];unfold Zgz
 by_cases h:x.dst=y.dst
 ·rw [Yf h,ZcJ.2 h];rfl
 ·rw [Yc h]
theorem Zuk {x y:Zg} (h0:(Zc7 x.src y.src != 0)=false) (h1:(Zc7 x.kind y.kind != 0)=false) (h2:(Zc7 x.key y.key != 0)=false) (h3:(Zc7 x.dst y.dst != 0)=false):cmpE x y=0:=by rw [ZpV h0 h1 h2];exact ZuB h3
def objs4 (x y:Zg):Array Obj:=#[Obj.cells #[.int .i64 x.src,.int .i64 x.dst,.int .i64 x.kind,.int .i64 x.key] 42,Obj.cells #[.int .i64 y.src,.int .i64 y.dst,.int .i64 y.kind,.int .i64 y.key] 42,Obj.cells #[.int .i64 x.src,.int .i64 x.kind,.int .i64 x.key,.int .i64 x.dst] 289,Obj.cells #[.int .i64 y.src,.int .i64 y.kind,.int .i64 y.key,.int .i64 y.dst] 289]
theorem ZqM (x y:Zg) (w:World):Calls prog 174 #[.agg #[.int .i64 x.src,.int .i64 x.dst,.int .i64 x.kind,.int .i64 x.key],.agg #[.int .i64 y.src,.int .i64 y.dst,.int .i64 y.kind,.int .i64 y.key]] w fun e w'=>e = .returned (.int .i64 (cmpE x y)) ∧ ∃ q,w' = { w.drewN q with heap:=w.heap++objs4 x y } := by
 go_enter func174,ntmps174
 go_wp2
 have hw1:((((w.alloc (Obj.cells #[.int .i64 x.src,.int .i64 x.dst,.int .i64 x.kind,.int .i64 x.key] 42)).alloc (Obj.cells #[.int .i64 y.src,.int .i64 y.dst,.int .i64 y.kind,.int .i64 y.key] 42)).alloc (Obj.cells #[.int .i64 x.src,.int .i64 x.kind,.int .i64 x.key,.int .i64 x.dst] 289)).alloc (Obj.cells #[.int .i64 y.src,.int .i64 y.kind,.int .i64 y.key,.int .i64 y.dst] 289)) = { w with heap:=w.heap++objs4 x y } := by
  have e:∀ (w:World) (o:Obj),w.alloc o = { w with heap:=w.heap.push o } := fun _ _=>rfl
  simp only [e,objs4]
  congr 1
 rw [hw1]
 clear hw1
 have ka:∀ j v,(#[Value.int .i64 x.src,.int .i64 x.kind,.int .i64 x.key,.int .i64 x.dst])[j]? = some v→({ w with heap:=w.heap++objs4 x y } : World).cell? ⟨w.heap.size+1+1,j,none⟩ = some v:=by
  intro j v hj
  rw [ZY (vs:=#[Value.int .i64 x.src,.int .i64 x.kind,.int .i64 x.key,.int .i64 x.dst]) (T:=289) (fr:=(0,0)) (by show (w.heap++objs4 x y)[w.heap.size+1+1]? = _;rw [Array.getElem?_append_right ow,show w.heap.size+1+1 - w.heap.size=2 by omega];rfl)]
  exact hj
 have kb:∀ j v,(#[Value.int .i64 y.src,.int .i64 y.kind,.int .i64 y.key,.int .i64 y.dst])[j]? = some v→({ w with heap:=w.heap++objs4 x y } : World).cell? ⟨w.heap.size+1+1+1,j,none⟩ = some v:=by
  intro j v hj
  rw [ZY (vs:=#[Value.int .i64 y.src,.int .i64 y.kind,.int .i64 y.key,.int .i64 y.dst]) (T:=289) (fr:=(0,0)) (by show (w.heap++objs4 x y)[w.heap.size+1+1+1]? = _;rw [Array.getElem?_append_right ow,show w.heap.size+1+1+1 - w.heap.size=3 by omega];rfl)]
  exact hj
 have a0:({ w with heap:=w.heap++objs4 x y } : World).cell? ⟨w.heap.size+1+1,0,none⟩ = some (.int .i64 x.src):=ka 0 _ rfl
 have a1:({ w with heap:=w.heap++objs4 x y } : World).cell? ⟨w.heap.size+1+1,1,none⟩ = some (.int .i64 x.kind):=ka 1 _ rfl
 have a2:({ w with heap:=w.heap++objs4 x y } : World).cell? ⟨w.heap.size+1+1,2,none⟩ = some (.int .i64 x.key):=ka 2 _ rfl
 have a3:({ w with heap:=w.heap++objs4 x y } : World).cell? ⟨w.heap.size+1+1,3,none⟩ = some (.int .i64 x.dst):=ka 3 _ rfl
 have b0:({ w with heap:=w.heap++objs4 x y } : World).cell? ⟨w.heap.size+1+1+1,0,none⟩ = some (.int .i64 y.src):=kb 0 _ rfl
 have b1:({ w with heap:=w.heap++objs4 x y } : World).cell? ⟨w.heap.size+1+1+1,1,none⟩ = some (.int .i64 y.kind):=kb 1 _ rfl
 have b2:({ w with heap:=w.heap++objs4 x y } : World).cell? ⟨w.heap.size+1+1+1,2,none⟩ = some (.int .i64 y.key):=kb 2 _ rfl
 have b3:({ w with heap:=w.heap++objs4 x y } : World).cell? ⟨w.heap.size+1+1+1,3,none⟩ = some (.int .i64 y.dst):=kb 3 _ rfl
 clear ka kb
 have hfin:∀ q (w':World),w' = ({ w with heap:=w.heap++objs4 x y } : World).drewN q → ∃ q,w' = { w.drewN q with heap:=w.heap++objs4 x y } := fun q w' e=>⟨q,e⟩
 generalize ({ w with heap:=w.heap++objs4 x y } : World)=w1 at *
 generalize w.heap.size=n0 at *
 refine wp_loop_rounds 5 ?_
 rw [YbJ]
 go_wp2
 go_quiet ((go_at_call 110;refine Calls.quiet_of_same (ZvH _ _ _)))
 go_wp2
 ·go_ret
  exact ⟨Y4 (fun z=>Ending.returned (.int .i64 z)) (Zuf (by assumption)).symm,hfin _ _ rfl⟩
 have hfin1:∀ q (w':World),w' = (w1.drewN nq).drewN q → ∃ q,w' = { w.drewN q with heap:=w.heap++objs4 x y } := fun q w' e=>hfin (nq+q) w' (by rw [e,World.drewN_drewN])
 have a1':(w1.drewN nq).cell? ⟨n0+1+1,1,none⟩ = some (.int .i64 x.kind):=a1
 have b1':(w1.drewN nq).cell? ⟨n0+1+1+1,1,none⟩ = some (.int .i64 y.kind):=b1
 have a2':(w1.drewN nq).cell? ⟨n0+1+1,2,none⟩ = some (.int .i64 x.key):=a2
 have b2':(w1.drewN nq).cell? ⟨n0+1+1+1,2,none⟩ = some (.int .i64 y.key):=b2
 have a3':(w1.drewN nq).cell? ⟨n0+1+1,3,none⟩ = some (.int .i64 x.dst):=a3
 have b3':(w1.drewN nq).cell? ⟨n0+1+1+1,3,none⟩ = some (.int .i64 y.dst):=b3
 clear hfin a0 b0 a1 b1 a2 b2 a3 b3
 generalize w1.drewN nq=w2 at *
 rw [YbJ]
 go_wp2
 go_quiet ((go_at_call 110;refine Calls.quiet_of_same (ZvH _ _ _)))
 go_wp2
 ·go_ret
  exact ⟨Y4 (fun z=>Ending.returned (.int .i64 z)) (Zuj (by assumption) (by assumption)).symm,hfin1 _ _ rfl⟩
 have hfin2:∀ q (w':World),w' = (w2.drewN nq).drewN q → ∃ q,w' = { w.drewN q with heap:=w.heap++objs4 x y } := fun q w' e=>hfin1 (nq+q) w' (by rw [e,World.drewN_drewN])
 have a2'':(w2.drewN nq).cell? ⟨n0+1+1,2,none⟩ = some (.int .i64 x.key):=a2'
 have b2'':(w2.drewN nq).cell? ⟨n0+1+1+1,2,none⟩ = some (.int .i64 y.key):=b2'
 have a3'':(w2.drewN nq).cell? ⟨n0+1+1,3,none⟩ = some (.int .i64 x.dst):=a3'
 have b3'':(w2.drewN nq).cell? ⟨n0+1+1+1,3,none⟩ = some (.int .i64 y.dst):=b3'
 clear hfin1 a1' b1' a2' b2' a3' b3'
 generalize w2.drewN nq=w3 at *
 rw [YbJ]
 go_wp2
 go_quiet ((go_at_call 110;refine Calls.quiet_of_same (ZvH _ _ _)))
 go_wp2
 ·go_ret
  exact ⟨Y4 (fun z=>Ending.returned (.int .i64 z)) (Zt1 (by assumption) (by assumption) (by assumption)).symm,hfin2 _ _ rfl⟩
 have hfin3:∀ q (w':World),w' = (w3.drewN nq).drewN q → ∃ q,w' = { w.drewN q with heap:=w.heap++objs4 x y } := fun q w' e=>hfin2 (nq+q) w' (by rw [e,World.drewN_drewN])
 have a3''':(w3.drewN nq).cell? ⟨n0+1+1,3,none⟩ = some (.int .i64 x.dst):=a3''
 have b3''':(w3.drewN nq).cell? ⟨n0+1+1+1,3,none⟩ = some (.int .i64 y.dst):=b3''
 clear hfin2 a2'' b2'' a3'' b3''
 generalize w3.drewN nq=w4 at *
 rw [YbJ]
 go_wp2
 go_quiet ((go_at_call 110;refine Calls.quiet_of_same (ZvH _ _ _)))
 go_wp2
 ·go_ret
  exact ⟨Y4 (fun z=>Ending.returned (.int .i64 z)) (ZpV (by assumption) (by assumption) (by assumption)).symm,hfin3 _ _ rfl⟩
 have hfin4:∀ q (w':World),w' = (w4.drewN nq).drewN q → ∃ q,w' = { w.drewN q with heap:=w.heap++objs4 x y } := fun q w' e=>hfin3 (nq+q) w' (by rw [e,World.drewN_drewN])
 clear hfin3 a3''' b3'''
 generalize w4.drewN nq=w5 at *
 rw [YbJ]
 go_wp2
 go_ret
 exact ⟨Y4 (fun z=>Ending.returned (.int .i64 z)) (Zuk (by assumption) (by assumption) (by assumption) (by assumption)).symm,hfin4 0 _ rfl⟩
def ZeV (e:Zg):List Value:=[.int .i64 e.src,.int .i64 e.dst,.int .i64 e.kind,.int .i64 e.key]
theorem ZhU:∀ (l:List Zg) (j:Nat),(l.flatMap ZeV)[j]? = if j<l.length*4 then some ((ZeV l[j / 4]!)[j % 4]!) else none
 | [],j=>by simp
 | e :: l,j=>by
  rw [YZ]
  by_cases hj:j<4
  ·rw [List.getElem?_append_left (by simpa [ZeV] using hj),Yf (by simp;omega),show j / 4=0 by omega,show j % 4=j by omega]
   match j,hj with
   | 0,_=>rfl
   | 1,_=>rfl
   | 2,_=>rfl
   | 3,_=>rfl
  ·obtain ⟨k,rfl⟩:∃ k,j=k+4:=⟨j - 4,by omega⟩
   rw [List.getElem?_append_right (by simp [ZeV]),show k+4 - (ZeV e).length=k by simp [ZeV],ZhU l k,show (k+4) / 4=k / 4+1 by omega,show (k+4) % 4=k % 4 by omega]
   by_cases h:k<l.length*4
   ·rw [Yf h,Yf (by simp;omega)];simp
   ·rw [Yc h,Yc (by simp;omega)]
theorem Zg1 (l:List Zg):(Go.Sort.flatK ZeV 4 l.toArray).toList=l.flatMap ZeV:=by
 apply List.ext_getElem?
 intro j
 rw [ZhU]
 by_cases h:j<l.length*4
 ·rw [Yf h];simp [Go.Sort.flatK,h]
 ·rw [Yc h];simp [Go.Sort.flatK];omega
def inE (e:Zg):Prop:=inR .i64 e.src∧inR .i64 e.dst∧inR .i64 e.kind∧inR .i64 e.key
theorem Zjr {w:World} {y:Ys} : ∀ {l:List Zg} {xs:List Value},PVs (l.flatMap Zq) xs w y→xs=l.flatMap ZeV ∧ ∀ e ∈ l,inE e
 | [],[],_=>⟨rfl,fun x hx=>by cases hx⟩
 | [],_ :: _,h=>h.elim
 | e :: l,[],h=>h.elim
 | e :: l,[_],h=>h.2.elim
 | e :: l,[_,_],h=>h.2.2.elim
 | e :: l,[_,_,_],h=>h.2.2.2.elim
 | e :: l,a :: b :: c :: d :: xs,h=>by
  have h1:a = .int .i64 e.src∧inR .i64 e.src:=h.1.2
  have h2:b = .int .i64 e.dst∧inR .i64 e.dst:=h.2.1.2
  have h3:c = .int .i64 e.kind∧inR .i64 e.kind:=h.2.2.1.2
  have h4:d = .int .i64 e.key∧inR .i64 e.key:=h.2.2.2.1.2
  obtain ⟨h5,h6⟩:=Zjr (l:=l) (xs:=xs) h.2.2.2.2
  exact ⟨by rw [h1.1,h2.1,h3.1,h4.1,h5];rfl,fun z hz=>by rcases Yj.1 hz with rfl | hz;exact ⟨h1.2,h2.2,h3.2,h4.2⟩;exact h6 z hz⟩
theorem ZeN {w:World} {y:Ys} : ∀ {l:List Zg},(∀ e ∈ l,inE e)→PVs (l.flatMap Zq) (l.flatMap ZeV) w y
 | [],_=>trivial
 | e :: l,h=>by
  have h1:=h e (by simp)
  exact ⟨⟨rfl,rfl,h1.1⟩,⟨rfl,rfl,h1.2.1⟩,⟨rfl,rfl,h1.2.2.1⟩,⟨rfl,rfl,h1.2.2.2⟩,ZeN fun z hz=>h z (by simp [hz])⟩
theorem swoE:Go.Sort.SWO (Go.Proofs.ltOf cmpE) where
 irrefl x:=Zbs.irr x
 trans x y z h1 h2:=Zbs.tr x y z h1 h2
 ntrans x y z h1 h2:=by
  have h1:ltE x y=false:=h1
  have h2:ltE y z=false:=h2
  show ltE x z=false
  rw [Zkv] at *
  omega
theorem Zjs {w:World} {g n:Nat} {d:List Value} {os:Array Obj} {cur:Array Value} {e:TypeId} (hg:w.heap[g]? = some (.cells cur e (0,0))) (b:Nat) (hb:b<w.heap.size) :
  (Go.Sort.grow (Go.Sort.putRow id (Go.Sort.ahead w n) g 0 d.toArray) os).heap[b]? = if b=g then some (.cells (Go.Sort.putCells id 0 d.toArray cur) e (0,0)) else w.heap[b]?:=by
 unfold Go.Sort.grow Go.Sort.putRow Go.Sort.mapBlock Go.Sort.ahead
 simp only
 rw [Array.getElem?_append_left (by simpa using hb),Array.getElem?_modify]
 by_cases h:g=b
 ·subst h
  rw [Yf rfl,Yf rfl,hg];rfl
 ·rw [Yc h,Yc (fun e=>h e.symm)]
theorem ZoB {cur:Array Value} {d:List Value} (h:d.length≤cur.size):(Go.Sort.putCells id 0 d.toArray cur).toList.take d.length=d:=by
 apply Ya3
 ·simp [Go.Sort.putCells];omega
 ·intro i h1 h2
  have hi:i<d.length:=h2
  simp [Go.Sort.putCells,hi]
theorem sortE_cmp (g n:Nat) (w:World):Go.Proofs.CmpLays prog 174 #[] ZeV 4 cmpE g 0 n w:=fun _ _ _ _ x y=>
 (ZqM x y _).mono fun _ _ ⟨he,q,hq⟩=>⟨he,q,objs4 x y,hq⟩
theorem Ztw (v:Value) (l:List Zg) (hlm:l.length≤1000000):FnG prog 173 1 [.is v,.is (.func (.func 174) #[] #[])] [Zy 42 4 Zq l v] (.tup []) (fun _=>[Zy 42 4 Zq (ZcQ l) v]):=by
 by_cases hl0:l = []
 ·subst hl0
  have h:=Zmq v [] (by simp) (fun j _ h1=>absurd h1 (by simp))
  have e:ZcQ [] = []:=by simp [ZcQ]
  rw [e];exact h
 ·exact fun w F vs hw hle hvs hpr=>by
   match vs,hvs with
   | [u,fv],hvs=>
    have hu:u=v:=hvs.1.1
    have hfv:fv = .func (.func 174) #[] #[]:=hvs.2.1.1
    subst hu
    subst hfv
    obtain ⟨xs,⟨hxl,hx⟩,hp,hf⟩:=hpr 0 _ rfl
    rcases hx with ⟨rfl,h0⟩ | ⟨g,cap,cur,rfl,_,hg,hn,hcap,hcs,hct⟩
    ·exact absurd (YR h0) hl0
    ·have hgs:g<w.heap.size:=(YW.1 hg).1
     obtain ⟨hxe,hin⟩:=Zjr hp
     have hcl:l.length*4≤cur.size:=by rw [hcs];exact YO _ hn
     have hbig:l.toArray.size<4611686018427387904:=by simp;omega
     have hcur:∀ j,j<l.length*4→cur[j]? = (l.flatMap ZeV)[j]?:=fun j hj=>by
      have h1:(cur.toList.take (l.length*4))[j]? = (l.flatMap ZeV)[j]?:=by rw [hct,hxe]
      rw [Ybz hj] at h1
      simpa using h1
     have hH:Go.Sort.HoldsK ZeV 4 w g 0 l.toArray:=fun j hj=>by
      have hj':j<l.length*4:=by simpa using hj
      refine ⟨?_,?_⟩
      ·rw [Y3,ZY hg,hcur j hj',ZhU,Yf hj',Go.Sort.get_flatK _ _ _ _ (by simpa using hj')]
       simp
      ·simp [World.frozen?,hg]
     have eg:∀ args w,(callFunc 174 args).run prog w = .ok (.enter 174 args) w:=enters_of func174 kr rfl
     have hcalls:Calls prog 173 #[.slice (some ⟨g,0,none⟩) l.toArray.size cap,.func (.func 174) #[] #[]] w fun e w'=>e = .returned (.tuple #[]) ∧ ∃ d' n os,Go.Sort.PermIn 0 l.toArray.size l.toArray d' ∧ Go.Sort.SortedIn (Go.Proofs.ltOf cmpE) 0 l.toArray.size d' ∧ w' = Go.Proofs.sortWorldK ZeV 4 w g 0 n d' os:=
      Go.Proofs.AnyQ.slices_SortFunc Zqi 4 Tryz.isAgg42 Tryz.sizeOf42 ZeV (fun _=>rfl) (fun x v hv=>by simp [ZeV] at hv;rcases hv with rfl | rfl | rfl | rfl <;> rfl) cmpE swoE 174 #[] g 0 cap l.toArray w eg (sortE_cmp g _ w) hH hgs hbig
     refine hcalls.mono ?_
     rintro e w' ⟨rfl,d',n,os,hperm,hsrt,rfl⟩
     have hd:d'.toList=ZcQ l:=Go.Sort.sorted_unique_holds swoE (fun x y h1 h2=>Zbs.tot x y h1 h2) l.toArray d' hperm hsrt
     have hd2:d' = (ZcQ l).toArray:=by rw [← hd]
     subst hd2
     have hsl:(ZcQ l).length=l.length:=ZiP l
     have hfl:(Go.Sort.flatK ZeV 4 (ZcQ l).toArray)=((ZcQ l).flatMap ZeV).toArray:=by rw [← Zg1]
     have hfn:((ZcQ l).flatMap ZeV).length=l.length*4:=by
      have h2:=Y4 List.length (Zg1 (ZcQ l))
      rw [← h2,Array.length_toList,Go.Sort.size_flatK,YaJ,hsl]
     have hW:Go.Proofs.sortWorldK ZeV 4 w g 0 n (ZcQ l).toArray os=Go.Sort.grow (Go.Sort.putRow id (Go.Sort.ahead w n) g 0 ((ZcQ l).flatMap ZeV).toArray) os:=by
      unfold Go.Proofs.sortWorldK Go.Sort.putRowK
      rw [hfl]
     rw [hW]
     have hheap:=fun b hb=>Zjs (n:=n) (d:=(ZcQ l).flatMap ZeV) (os:=os) hg b hb
     have hsz:(Go.Sort.grow (Go.Sort.putRow id (Go.Sort.ahead w n) g 0 ((ZcQ l).flatMap ZeV).toArray) os).heap.size=w.heap.size+os.size:=by simp [Go.Sort.ahead]
     have hfg:F 1 g:=(hf g).2 rfl
     have hst:Stp (List.range' 1 1) w F (Go.Sort.grow (Go.Sort.putRow id (Go.Sort.ahead w n) g 0 ((ZcQ l).flatMap ZeV).toArray) os) F:=
      ⟨rfl,rfl,rfl,by rw [hsz];omega,fun b hb hn=>by
       rw [hheap b hb,Yc (fun e=>by subst e;exact hn 1 (by simp) hfg)],fun _ _=>rfl,fun n hn b hb=>.inl ⟨n,hn,hb⟩⟩
     refine ⟨.tuple #[],F,rfl,⟨hw.dis,fun n b hb=>by rw [hsz];have:=hw.bd n b hb;omega⟩,hst,hle,⟨[],rfl,tv⟩,fun i h hi=>?_⟩
     match i,hi with
     | 0,hi=>
      simp only [YbF,Y6] at hi
      subst hi
      refine ⟨(ZcQ l).flatMap ZeV,⟨by rw [hfn,hsl],.inr ⟨g,cap,_,by rw [hsl],Yx _,(hheap g hgs).trans (Yf rfl),by rw [hsl];exact hn,hcap,by simp [Go.Sort.putCells,hcs],?_⟩⟩,ZeN fun x hx=>hin x ((YaU l _).mem_iff.1 hx),hf⟩
      rw [hsl,← hfn];exact ZoB (by rw [hfn];exact hcl)
theorem Zsf (l:List Zg) (hl:l.length≤1000000):FnP prog 132 [.sl Zq l] (.sl Zq (ZbK ltE l)):=by
 refine FnP.mk func132 rfl ntmps132 rfl fun B a w F V hfr G=>?_
 have hll:=Sat.lenSl G (i:=0) rfl
 refine Ya (rZ G (qC qZ) V [2,0] [0] fun G=>Ya ?_)
 replace G:=G.fresh 101 rfl
 refine Zb G (qR rr (qf (Zar 101 (Zpu l ow) func124 rfl kr (Args.one .t) pvOne1) r1 r1 (qO rr qZ))) V [3,2] [101,0] (fun _=>rfl) (fun _=>rfl) fun τ a w F G=>?_
 try dsimp only [RS.sub,SF.sub,CF.sub,csub,Anc.sub,List.map,Zq] at G
 generalize τ 5=v5 at G
 refine Za (Ya (rZ G (qR rr (qf (Zbk 101 (Ztw _ l ow) func173 rfl kr (Args.two .t .f)) r1 r1 qZ)) V [3,2] [101,0] fun G=>Ya ?_))
 refine Zb G (qR rr (qf (o_callRowN 101 (ZjZ _ _ (by rw [ZiP];omega)) func175 rfl kr (Args.one .t) pvOne1) r1 r1 (qO rr qZ))) V [2] [101,0] (fun _=>rfl) (fun _=>rfl) fun τ a w F G=>?_
 try dsimp only [RS.sub,SF.sub,CF.sub,csub,Anc.sub,List.map,Zq] at G
 generalize τ 9=v9 at G
 refine Za (Yh ?_)
 obtain ⟨F,G⟩:=G.give 101 2 rfl rfl
 refine Zs hfr G rfl rfl rfl (.sl (Znh l))
theorem ZgO {α:Type} {lt:α→α→Bool} (h:STO lt):∀ {l m:List α},Znz lt l→Znz lt m→(∀ x,x ∈ l ↔ x ∈ m)→l=m
 | [],[],_,_,_=>rfl
 | [],y :: m,_,_,he=>by have:=(he y).2 (by simp);cases this
 | x :: l,[],_,_,he=>by have:=(he x).1 (by simp);cases this
 | x :: l,y :: m,hl,hm,he=>by
  obtain ⟨h1,h2⟩:=Yo.1 hl
  obtain ⟨h3,h4⟩:=Yo.1 hm
  have hxy:x=y:=by
   rcases Yj.1 ((he x).1 (by simp)) with e | hx
   ·exact e
   ·rcases Yj.1 ((he y).2 (by simp)) with e | hy
    ·exact e.symm
    ·have a1:=h1 y hy
     have a2:=h3 x hx
     have a3:=h.tr x y x a1 a2
     rw [h.irr x] at a3;cases a3
  subst hxy
  congr 1
  refine ZgO h h2 h4 fun z=>⟨fun hz=>?_,fun hz=>?_⟩
  ·rcases Yj.1 ((he z).1 (YC _ hz)) with e | h9
   ·subst e
    have:=h1 z hz
    rw [h.irr z] at this;cases this
   ·exact h9
  ·rcases Yj.1 ((he z).2 (YC _ hz)) with e | h9
   ·subst e
    have:=h3 z hz
    rw [h.irr z] at this;cases this
   ·exact h9
theorem Zj7 {l m:List Zg} (he:∀ x,x ∈ l ↔ x ∈ m):ZbK ltE l=ZbK ltE m:=
 ZgO Zbs (Zbn Zbs l).1 (Zbn Zbs m).1 fun x=>by rw [(Zbn Zbs l).2,(Zbn Zbs m).2,he x]
structure HvD where
 edge:Zg
 cnt:Int
 deriving DecidableEq,Inhabited
def rHv (x:HvD):List PV:=[.int .i64 x.edge.src,.int .i64 x.edge.dst,.int .i64 x.edge.kind,.int .i64 x.edge.key,.int .i64 x.cnt]
def cntA (A:List (Zg×Int)) (R:List Zg) (e:Zg):Int:=Znt A e+(R.count e:Int)
def ZgC (A:List (Zg×Int)) (R:List Zg):List Zg:=A.map Prod.fst++R
def Zgf (A:List (Zg×Int)) (R:List Zg):List HvD:=(ZbK ltE (ZgC A R)).map fun e=>⟨e,cntA A R e⟩
theorem ZfF {es:List (GE Zg Int)} {A:List (Zg×Int)} {R ks:List Zg} (hE:Zhr es A R) (hk:ks.Perm (es.map (·.key))):ZbK ltE ks=ZbK ltE (ZgC A R):=Zj7 fun x=>by
 unfold ZgC
 rw [hk.mem_iff,Yz,← hE.key x,Ze7]
theorem Zhm {A:List (Zg×Int)} {R:List Zg} : (Zgf A R).length=(ZbK ltE (ZgC A R)).length:=YH _
theorem Zoi {l:List TxD} {id:Int} : (Z5 l id).isSome=isK TxD.id id l:=by
 unfold Z5 isK
 rw [Yai,List.find?_isSome,Yaz]
theorem Zqv {g:Zr} (h:ZW g):NE g.orders:=fun o ho=>by
 have h2:=(Zdd g).2 h.2.2
 obtain ⟨j,hj,e⟩:=Yab ho
 have:=(h2.2 j hj).2.1
 rwa [nth_eq hj,e] at this
structure EdD where
 kind:Int
 t:TxD
 o:OrdD
 place:Int
 deriving DecidableEq,Inhabited
def doH (g:Zr) (e:EdD):Zr×Int:=if e.kind=0 then Z3 g e.t else if e.kind=1 then ZpZ g e.t.id else if e.kind=2 then ZsW g e.t else if e.kind=3 then ZrC g e.o else if e.kind=4 then Zv3 g e.o.key e.t.id e.place else (Zc1,5)
def ZlI (e:EdD):Prop:=e.t.ops.length≤24∧e.o.txs.length≤24
instance (e:EdD):Decidable (ZlI e):=by unfold ZlI;exact inferInstance
def ZsK (l:List EdD):Prop:=l.length≤24 ∧ ∀ e ∈ l,ZlI e
instance (l:List EdD):Decidable (ZsK l):=by unfold ZsK;exact inferInstance
theorem Zg2 {os:List OrdD} {k:Int} : (Z2 (fun o:OrdD=>decide (o.key=k)) os<0→getO os k = [])∧(¬ Z2 (fun o:OrdD=>decide (o.key=k)) os<0 → ∃ i:Nat,Z2 (fun o:OrdD=>decide (o.key=k)) os=i∧i<os.length∧getO os k=(Nn os i).txs):=by
 rcases Zaw (fun o:OrdD=>decide (o.key=k)) os with ⟨h1,h2⟩ | ⟨i,h1,h2,h3,h4⟩
 ·exact ⟨fun _=>ZtS fun q hq=>by simpa using h2 q hq,fun h=>absurd (by rw [h1];decide) h⟩
 ·exact ⟨fun h=>by rw [h1] at h;omega,fun _=>⟨i,h1,h2,ZtW h2 (by simpa using h3) fun q hq=>by simpa using h4 q hq⟩⟩
def Fit (n:Nat) (g:Zr):Prop:=(g.txs.length≤n ∧ ∀ t ∈ g.txs,t.ops.length≤24)∧g.orders.length≤24*n ∧ ∀ o ∈ g.orders,o.txs.length≤n
theorem Fit.small {n:Nat} {g:Zr} (h:Fit n g) (hn:n≤30):Za9 g:=by
 obtain ⟨⟨h1,h2⟩,h3,h4⟩:=h
 exact ⟨⟨by omega,fun t ht=>by have:=h2 t ht;omega⟩,by omega,fun o ho=>by have:=h4 o ho;omega⟩
theorem Fit.zero:Fit 0 Zc1:=⟨⟨by simp [Zc1],fun t ht=>by cases ht⟩,by simp [Zc1],fun o ho=>by cases ho⟩
theorem Fit.up {n:Nat} {g:Zr} (h:Fit n g):Fit (n+1) g:=⟨⟨by have:=h.1.1;omega,h.1.2⟩,by have:=h.2.1;omega,fun o ho=>by have:=h.2.2 o ho;omega⟩
theorem Fit.none {n:Nat} : Fit n Zc1:=by
 induction n with
 | zero=>exact Fit.zero
 | succ n ih=>exact ih.up
theorem ZoI {os:List OrdD} {ks:List Int} {t:TxD} {o:OrdD} (h:o ∈ ZdD t os ks):o ∈ os∨o.txs = []:=by
 unfold ZdD at h
 split at h
 ·have key:∀ (ks:List Int) (os:List OrdD),o ∈ ks.foldl ZeY os→o ∈ os∨o.txs = []:=by
   intro ks
   induction ks with
   | nil=>intro os h;exact .inl h
   | cons k ks ih=>
    intro os h
    rcases ih _ h with h | h
    ·rcases Zmc h with h | h
     ·exact .inl h
     ·exact .inr (by rw [h])
    ·exact .inr h
  exact key ks os h
 ·exact .inl h
theorem ZmO {n:Nat} {t:TxD} {os:List OrdD} (ht:t.ops.length≤24) (h1:os.length≤24*n) (h2:∀ o ∈ os,o.txs.length≤n):(settleO t os).length≤24*(n+1) ∧ ∀ o ∈ settleO t os,o.txs.length≤n+1:=by
 have hk:=Zd5 t
 have hl:(ZdD t os (Zaa t)).length≤os.length+(Zaa t).length:=by
  unfold ZdD
  split
  ·have key:∀ (ks:List Int) (os:List OrdD),(ks.foldl ZeY os).length≤os.length+ks.length:=by
    intro ks
    induction ks with
    | nil=>intro os;simp
    | cons k ks ih=>intro os;have h1:=ih (ZeY os k);have h2:=Zlc os k;rw [Yan,Yl];omega
   exact key _ _
  ·omega
 unfold settleO
 refine ⟨Y1 (Yac _ _) (by rw [YH];omega),fun o ho=>?_⟩
 obtain ⟨o',ho',e⟩:=Yv.1 (YV.1 ho).1
 have hlen:o'.txs.length≤n:=by
  rcases ZoI ho' with h | h
  ·exact h2 o' h
  ·rw [h];simp
 rw [← e]
 unfold ZkG
 show (if _ then _ else _:List Int).length≤_
 split
 ·unfold withO;split
  ·omega
  ·simp;omega
 ·unfold withoutO
  exact Y1 (Yac _ _) ow
theorem Zhl {n:Nat} {g:Zr} {key:Int} {rule:List Int→List Int×Int} (hr:∀ l,(rule l).2=0→(rule l).1.length≤l.length) (h:Fit n g):Fit n (Zij g key rule).1:=by
 unfold Zij
 split
 ·exact Fit.none
 ·split
  ·exact Fit.none
  ·split
   ·exact Fit.none
   ·rename_i h1 h2 h3
    refine ⟨h.1,by show (List.set _ _ _).length≤_;rw [YI];exact h.2.1,fun o ho=>?_⟩
    rcases List.mem_or_eq_of_mem_set ho with h4 | h4
    ·exact h.2.2 o h4
    ·have hk:isK OrdD.key key g.orders=true:=by simpa using h2
     have hlt:=(Zte (Zaz (Yax.1 h1)).2 hk).1
     have:=hr _ (Yax.1 h3)
     have:=h.2.2 _ (nth_mem hlt)
     rw [h4];show (rule _).1.length≤n;omega
theorem Fit.doH {n:Nat} {g:Zr} {e:EdD} (h:Fit n g) (he:ZlI e):Fit (n+1) (doH g e).1:=by
 have hset:∀ t:TxD,t.ops.length≤24 → ∀ txs:List TxD,txs.length≤n+1→(∀ t ∈ txs,t.ops.length≤24)→Fit (n+1) ⟨txs,settleO t g.orders⟩:=fun t ht txs h1 h2=>by
  obtain ⟨h3,h4⟩:=ZmO ht h.2.1 h.2.2
  exact ⟨⟨h1,h2⟩,h3,h4⟩
 unfold Go.Proofs.YtlkpllemoepamaaGreat.doH
 split
 ·unfold Z3
  split
  ·exact Fit.none
  ·split
   ·exact Fit.none
   ·refine hset _ he.1 _ ?_ fun t ht=>?_
    ·have:=h.1.1;rw [Yd,Yd,Yi,YE];simp;omega
    ·rw [Yz,Yz] at ht
     rcases ht with (ht | ht) | ht
     ·exact h.1.2 t (Yak ht)
     ·rw [Yk.1 ht];exact he.1
     ·exact h.1.2 t (Ya1 ht)
 ·split
  ·unfold ZpZ
   split
   ·exact Fit.none
   ·split
    ·exact Fit.none
    ·split
     ·exact Fit.none
     ·refine hset _ (by simp [ZuF]) _ ?_ fun t ht=>?_
      ·have:=h.1.1;rw [Yd,Yi,YE];omega
      ·rw [Yz] at ht
       rcases ht with ht | ht
       ·exact h.1.2 t (Yak ht)
       ·exact h.1.2 t (Ya1 ht)
  ·split
   ·unfold ZsW
    split
    ·exact Fit.none
    ·split
     ·exact Fit.none
     ·refine hset _ he.1 _ ?_ fun t ht=>?_
      ·have:=h.1.1;rw [YI];omega
      ·rcases List.mem_or_eq_of_mem_set ht with ht | ht
       ·exact h.1.2 t ht
       ·rw [ht];exact he.1
   ·split
    ·refine (Zhl (fun l h0=>?_) h).up
     unfold Zvu at h0 ⊢
     split at h0
     ·rename_i hp;rw [Yf hp,hp.length_eq];exact YL _
     ·simp at h0
    ·split
     ·exact (Zhl (fun l h0=>by show (Zrm l _ _).1.length≤_;exact Zn5 _ _ _) h).up
     ·exact Fit.none
theorem ZqV (o:OrdD) (key:Int):FnP prog 41 [.agg (ZJ o),.ref [.int .i64 key]] (.bool (decide (o.key=key))):=by
 refine FnP.mk func41 rfl ntmps41 rfl fun B a w F V hfr G=>Ya ?_
 refine Zb G (qx 101 r1 qB) V [3,2,1] [101,0] (fun _=>rfl) (fun _=>rfl) fun τ a w F G=>?_
 try dsimp only [RS.sub,SF.sub,CF.sub,csub,Anc.sub,List.map,zCF,Zw,rTx,ZJ,ZT,Zn,rOp] at G
 generalize τ 2=v2 at G
 refine Za (Ya (rZ G (qg 0 101 r1 r1 (qa 101 r1 r1 (qf (oR false 1 .t) r1 qz (qf (o_eql .t .t) r2 qz (qO rr qZ))))) V [3] [101,0] fun G=>Yh ?_))
 refine Zs hfr G rfl rfl rfl .refl
theorem ZqL (g:Zr) (key:Int) (hs:Zdz g.orders):FnP prog 16 [.agg (Zw g),.int .i64 key] (.sl Zn (getO g.orders key)):=by
 refine FnP.mk func16 rfl ntmps16 rfl fun B a w F V hfr G=>?_
 have hso:=hs.1
 refine Ya (Zb G (qx 101 r1 (qf (Zf6 102 .t one_int) r1 qz (qC qZ))) V [4,3,2] [102,101,0] (fun _=>rfl) (fun _=>rfl) fun τ a w F G=>?_)
 try dsimp only [RS.sub,SF.sub,CF.sub,csub,Anc.sub,List.map,zCF,Zw,rTx,ZJ,ZT,Zn,rOp] at G
 generalize τ 2=v2,τ 3=v3 at G
 refine Za (Ya (Zat 2 G kr (cG rfl (oF 1 101 .is) r1 r1 (cG rfl (oL false 1 101 .adr) r1 r1 ChainN.nil)) kr (by rw [V];kernel_rfl) fun a w F G=>?_))
 obtain ⟨F,G⟩:=G.nM [7,4,3,2] [102,101,0]
 try dsimp only [List.map,xD,xE,xT,xU,ldSF,Zw,rTx,ZJ,ZT,Zn,rOp] at G
 obtain ⟨F,G⟩:=G.giveRef 102 3 rfl rfl rfl
 obtain ⟨F,G⟩:=G.nM [7,4,3,2] [101,0]
 try dsimp only [Go.Gm.unCF] at G
 refine ZaG G kr (cG rfl (ZaT (Args.one .t)) r1 trivial (cG rfl (oP (ZpK g.orders (fun o=>decide (o.key=key)) 41 f41 [.ref [.int .i64 key]] func41 rfl kr (fun o=>ZqV o key)) func40 (Args.two .t .t)) r2 trivial (cG rfl (oN .t) r1 trivial ChainN.nil))) kr (by rw [V];kernel_rfl) fun a w F G=>?_
 obtain ⟨F,G⟩:=G.nM [5,4,2] [101,0]
 try dsimp only [Zw,rTx,ZJ,ZT,Zn,rOp] at G
 refine Za (Ya (Ya (rZ G (qR rr (qf (ZaA .t qi) r1 qz qZ)) V [11,5,4,2] [101,0] fun G=>?_)))
 refine Zc G rfl (fun hc0=>?_) (fun hc0=>?_)
 ·have hg:[] = getO g.orders key:=(Zg2.1 (by simpa using hc0)).symm
  refine Ya (rZ G (qC qZ) V [5,4,2] [101,0] fun G=>(Yh (Zk ?_)))
  refine Zs hfr G rfl rfl rfl (by first | exact .sl hg | (rw [← hg];exact .nilSl))
 obtain ⟨fi,hfi,hfl,hfg⟩:=Zg2.2 (show ¬ Z2 (fun o:OrdD=>decide (o.key=key)) g.orders<0 by simpa using hc0)
 have hg:(Nn g.orders (Z2 (fun o:OrdD=>decide (o.key=key)) g.orders).toNat).txs=getO g.orders key:=by rw [hfi,Yb,hfg]
 refine Ye (Za (Ya (Ze G (qg 1 101 r1 r1 (qa 101 r1 r1 (qR rr (qf (o_indexAddr_sl (sz:=2) (.mk Ycf kr) (by intro x;rfl) .t .t (by rw [hfi];omega) (by rw [hfi];omega)) r2 qz (qf (oG 1 .t) r1 qz (qf (oR false 1 .t) r1 qz (qf (oP (cloneIP_c _ (by rw [hfi,Yb];have:=hs.at hfl;omega)) func42 (Args.one .t)) r1 qz (qO rr qZ)))))))) V [4] [101,0] rfl rfl fun a w F G=>?_)))
 try simp only [Yb] at G
 refine Za (Yh (Zs hfr G rfl rfl rfl (by first | exact .sl hg | (rw [← hg];exact .nilSl))))
instance (l:List TxD):Decidable (Za1 l):=by unfold Za1;exact inferInstance
instance (l:List OrdD):Decidable (Zdz l):=by unfold Zdz;exact inferInstance
instance (g:Zr):Decidable (Za9 g):=by unfold Za9;exact inferInstance
end Go.Proofs.YtlkpllemoepamaaGreat
