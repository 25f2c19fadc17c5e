/- Laws and walks. No condition beyond what each says. -/
import Derived.Test.YtlkpllemoepamaaGreatJ5
namespace Go.Proofs.YtlkpllemoepamaaGreat
open Go Go.Gm
set_option linter.unusedVariables false
set_option linter.unusedSimpArgs false
set_option maxHeartbeats 4000000
set_option maxRecDepth 8000
theorem Zfg {l:List TxD} {k x:Int} : x ∈ ZW l k ↔ ∃ t ∈ l,t.id=x∧t.done=true∧0<wcnt t.ops k:=by
 unfold ZW
 rw [Yv]
 constructor
 ·rintro ⟨t,ht,e⟩
  rw [YV] at ht
  simp at ht
  exact ⟨t,ht.1,e,ht.2.1,ht.2.2⟩
 ·rintro ⟨t,ht,e,h1,h2⟩
  exact ⟨t,by rw [YV];simp [ht,h1,h2],e⟩
theorem Zhl {l:List TxD} (h:Zgn TxD.id l) (k:Int):(ZW l k).Nodup:=by
 unfold ZW
 have h1:(l.map TxD.id).Nodup:=(Ybl.2 (Zac.1 h)).imp fun h=>Int.ne_of_lt h
 exact (h1.sublist ((List.filter_sublist).map _))
theorem Zdw {l:List TxD} (h:Zgn TxD.id l) {t:TxD} (ht:t ∈ l):Z0 l t.id=some t:=by
 have h:=Zac.1 h
 induction l with
 | nil=>cases ht
 | cons x l ih=>
  rw [Yq] at h
  unfold Z0
  rw [YbO]
  rcases Yk.1 ht with rfl | ht
  ·simp
  ·have:=h.1 t ht
   rw [show decide (x.id=t.id)=false by simp;omega]
   exact ih (Zac.2 h.2) ht h.2
theorem Zid {g:Zq} : ZK g ↔ g.txs.length≤4096∧Zgn TxD.id g.txs∧(∀ t ∈ g.txs,Za7 t=0∧Zkq g t=true)∧Zgn OrdD.key g.orders∧NE g.orders ∧ ∀ k,(getO g.orders k).Perm (ZW g.txs k):=by
 constructor
 ·intro h
  obtain ⟨r1',r2'⟩:=Zau h
  have hne:=Zqp h
  have h2:=(ZcT g).2 h.2.2
  refine ⟨h.1,r1',fun t ht=>?_,r2',hne,fun k=>?_⟩
  ·obtain ⟨j,hj,e⟩:=YY ht
   have:=(h.2.1 j hj).2
   rwa [nth_eq hj,e] at this
  ·by_cases hk:getO g.orders k = []
   ·rw [hk]
    have hw:ZW g.txs k = []:=by
     refine Decidable.byContradiction fun hw=>?_
     obtain ⟨j,hj,e⟩:=YY (ZcC.2 hw)
     have hjo:j<g.orders.length:=by rw [h.2.2.1];exact hj
     have h3:=(h.2.2.2 j hjo).1
     rw [nth_eq hj,e] at h3
     have h4:=ZdF (Zac.1 r2') (nth_mem hjo)
     rw [h3,hk] at h4
     exact hne _ (nth_mem hjo) h4.symm
    rw [hw]
   ·have hm:=ZgK hk
    obtain ⟨j,hj,e⟩:=YY hm
    have:=(h2.2 j hj).2.2
    rw [nth_eq hj,e] at this
    exact this
 ·rintro ⟨h1,h2,h3,h4,h5,h6⟩
  have hk:g.orders.map OrdD.key=Zcg g.txs:=by
   refine ZdV (Ybl.2 (Zac.1 h4)) (ZP _).1 fun k=>?_
   rw [ZcC,Yv]
   constructor
   ·rintro ⟨o,ho,rfl⟩ e
    have:=h6 o.key
    rw [e,ZdF (Zac.1 h4) ho] at this
    exact h5 o ho this.eq_nil
   ·intro e
    have:getO g.orders k≠[]:=fun e2=>by
     have:=h6 k
     rw [e2] at this
     exact e this.symm.eq_nil
    exact ⟨_,ZgK this,rfl⟩
  have hlen:g.orders.length=(Zcg g.txs).length:=by rw [← hk,YF]
  refine ⟨h1,fun i hi=>?_,(ZcT g).1 ⟨hlen,fun i hi=>?_⟩⟩
  ·obtain ⟨g1,g2⟩:=h3 _ (nth_mem hi)
   exact ⟨fun h0=>h2 (i - 1) i ow hi,g1,g2⟩
  ·refine ⟨fun h0=>h4 (i - 1) i ow hi,h5 _ (nth_mem hi),?_⟩
   have:=h6 (Nn g.orders i).key
   rwa [ZdF (Zac.1 h4) (nth_mem hi)] at this
structure Zox where
 tx:Int
 place:Int
 vof:ZbN
 deriving DecidableEq,Inhabited
def Zhv (b:Zox):List PV:=[.int .i64 b.tx,.int .i64 b.place,.int .i64 b.vof.tx,.int .i64 b.vof.key,.int .i64 b.vof.nth]
def uOf (g:Zq) (o:OpD):TxD:=(Z0 g.txs o.tx).getD zeroT
def Zga (t u:TxD) (o:OpD) (phen:Int):Bool:=t.done && (if phen=2 then !u.done else decide (phen=3) && decide (o.nth<(wcnt u.ops o.key:Int)))
def Zj5 (g:Zq) (phen:Int) (t:TxD) (o:OpD):Bool:=Zei t.id o && Zga t (uOf g o) o phen
def ZbW (g:Zq) (phen:Int) (p:Int→Bool) (t:TxD) (l:List OpD):List Zox:=(l.zipIdx.filter fun x=>p x.1.key && Zj5 g phen t x.1).map fun x=>⟨t.id,(x.2:Int),ofO x.1⟩
theorem Zc9 {g:Zq} {phen:Int} {p:Int→Bool} {t:TxD} {l:List OpD} {j:Nat} (hj:j<l.length):ZbW g phen p t (l.take (j+1))=ZbW g phen p t (l.take j)++if (p (Nn l j).key && Zj5 g phen t (Nn l j))=true then [⟨t.id,j,ofO (Nn l j)⟩] else []:=by
 unfold ZbW
 rw [Zt hj,List.zipIdx_append,Yaa,YK]
 congr 1
 rw [Yj,show min j l.length=j by omega]
 by_cases h:(p (Nn l j).key && Zj5 g phen t (Nn l j))=true
 ·rw [Ye h,List.zipIdx_cons,Yab (by simpa using h)];simp
 ·rw [Yb h,List.zipIdx_cons,Yag (by simpa using h)];simp
theorem Zf3 (g:Zq) (phen:Int) (p:Int→Bool) (t:TxD) (l:List OpD):(ZbW g phen p t l).length≤l.length:=by
 unfold ZbW
 rw [YF]
 exact Y6 (Y3 _ _) (by simp)
def badsG (g:Zq) (phen:Int) (p:Int→Bool) (l:List TxD):List Zox:=l.flatMap fun t=>ZbW g phen p t t.ops
theorem Zlf {g:Zq} {phen:Int} {p:Int→Bool} {l:List TxD} {i:Nat} (hi:i<l.length):badsG g phen p (l.take (i+1))=badsG g phen p (l.take i)++ZbW g phen p (Nn l i) (Nn l i).ops:=by
 unfold badsG
 rw [Zt hi,YS]
 simp
theorem Zks {g:Zq} {phen:Int} {p:Int→Bool} {l:List TxD} (h:ZaI l) (i:Nat):(badsG g phen p (l.take i)).length≤1000*i:=by
 have key:∀ l:List TxD,(∀ t ∈ l,t.ops.length≤1000)→(badsG g phen p l).length≤1000*l.length:=by
  intro l
  induction l with
  | nil=>intro _;simp [badsG]
  | cons t l ih=>
   intro h
   have h1:=ih fun x hx=>h x (by simp [hx])
   have h2:=h t (by simp)
   have h3:=Zf3 g phen p t t.ops
   unfold badsG at h1 ⊢
   rw [YX,Yd,Yl]
   omega
 have h1:=key (l.take i) fun t ht=>h.2 t (Yao ht)
 have h2:(l.take i).length≤i:=by rw [Yj];omega
 exact Y6 h1 (Ya6 _ h2)
def ZaC (g:Zq) (phen:Int) (p:Int→Bool):List Zox:=if ZK g then badsG g phen p g.txs else []
theorem ZmC {g:Zq} (hr:∀ i,i<g.txs.length→Zl2 g i):Zdp (g.txs.map TxD.id):=ZeW fun i hi h0=>by
 have hi':i<g.txs.length:=by simpa using hi
 rw [Zcf ow,Zcf hi']
 exact (hr i hi').1 h0
theorem Zsx {g:Zq} (hr:∀ i,i<g.txs.length→Zl2 g i) {i k:Nat} (hi:i<g.txs.length) (hk:k<i):(Nn g.txs k).id<(Nn g.txs i).id:=by
 have h:=Yah.1 (ZmC hr) k i (by simp;omega) (by simpa using hi) hk
 rw [nth_eq hi,nth_eq ow]
 simpa using h
def Zrz (es:List (GE Int TxD)) (l:List TxD):Prop:=∀ id,gGet id es=Z0 l id
theorem Zrg {g:Zq} (hr:∀ i,i<g.txs.length→Zl2 g i) {es:List (GE Int TxD)} {ck i:Nat} (h:Zrz es (g.txs.take i)) (hi:i<g.txs.length):Zrz (gPut (Nn g.txs i).id (Nn g.txs i) (es,ck)).1 (g.txs.take (i+1)):=fun id=>by
 rw [ZcZ,h id]
 unfold Z0
 rw [Zt hi,List.find?_append]
 by_cases e:id=(Nn g.txs i).id
 ·subst e
  have hn:(g.txs.take i).find? (fun t=>decide (t.id=(Nn g.txs i).id))=none:=by
   rw [Ybv]
   intro x hx
   obtain ⟨k,hk,e⟩:=YY hx
   rw [Yj] at hk
   have:=Zsx hr hi (show k<i by omega)
   rw [nth_eq ow] at this
   rw [List.getElem_take] at e
   rw [e] at this
   simp;omega
  simp [hn]
 ·rw [Yb e]
  have hn:[Nn g.txs i].find? (fun t=>decide (t.id=id))=none:=by simp;exact fun h=>e h.symm
  rw [hn];simp
def Zc2 (ws:List Int) (j:Nat):Bool:=(Nn ws (j / 64)).toNat.testBit (j % 64)
def Zi6 (ws:List Int) (j:Nat):List Int:=ws.set (j / 64) (((Nn ws (j / 64)).toNat ^^^ 2 ^ (j % 64):Nat):Int)
def ZtK (n:Nat) (ws:List Int) (i:Int):Bool:=(decide (0≤i) && decide (i<n)) && Zc2 ws i.toNat
def ZtI (n:Nat) (ws:List Int) (i:Int) (on:Bool):Bool:=(decide (0≤i) && decide (i<n)) && (ZtK n ws i != on)
def setW (n:Nat) (ws:List Int) (i:Int) (on:Bool):List Int:=if ZtI n ws i on then Zi6 ws i.toNat else ws
structure Zeg (n:Nat) (ws:List Int):Prop where
 hi:n≤65536
 len:ws.length=(n+63) / 64
 wd:∀ k,0≤Nn ws k∧Nn ws k<18446744073709551616
theorem Zeg.at {n:Nat} {ws:List Int} (h:Zeg n ws) (i:Int) (h0:0≤i) (h1:i<n):0≤i / 64∧i / 64<ws.length:=by have:=h.len;omega
theorem Zjk {a b:Prop} [Decidable a] [Decidable b] (h:¬ (a∧b)):(decide a && decide b)=false:=by rw [← YbM];exact YI h
def ZsF (m:Int):Nat:=(if m<0 then 0 else if m > 65536 then 65536 else m).toNat
theorem Zsu (m:Int):ZsF m≤65536:=by unfold ZsF;split; (· omega);split <;> omega
def ZlD (m:Int):List Int:=List.replicate ((ZsF m+63) / 64) 0
theorem Zme (k j:Nat):Nn (List.replicate k (0:Int)) j=0:=by
 by_cases h:j<k
 ·rw [nth_eq (by simpa using h)];simp
 ·unfold Nn;rw [Yat,YbA (by simp;omega)];rfl
theorem Zpj (m:Int):Zeg (ZsF m) (ZlD m):=⟨Zsu m,by simp [ZlD],fun k=>by unfold ZlD;rw [Zme];omega⟩
theorem ZiO (ws:List Int) (j:Nat):(Zi6 ws j).length=ws.length:=by simp [Zi6]
theorem ZjV {ws:List Int} {i j:Nat} {c:Int} (h:j<ws.length):Nn (ws.set i c) j=if i=j then c else Nn ws j:=by
 rw [nth_eq (by simpa using h),nth_eq h,YbJ]
theorem Zi8 {ws:List Int} {j:Nat} (h:ws.length≤j):Nn ws j=0:=by unfold Nn;rw [Yat,YbA h];rfl
theorem ZlI {x:Int} (h:0≤x∧x<18446744073709551616) (k:Nat) (hk:k<64):0≤(((x.toNat ^^^ 2 ^ k:Nat)):Int)∧(((x.toNat ^^^ 2 ^ k:Nat)):Int)<18446744073709551616:=by
 have h1:x.toNat<2 ^ 64:=by omega
 have h2:2 ^ k<2 ^ 64:=Nat.pow_lt_pow_right (by decide) hk
 have:=Nat.xor_lt_two_pow h1 h2
 omega
theorem Zeg.flip {n:Nat} {ws:List Int} (h:Zeg n ws) (j:Nat):Zeg n (Zi6 ws j):=by
 refine ⟨h.hi,by rw [ZiO];exact h.len,fun k=>?_⟩
 by_cases hk:k<ws.length
 ·unfold Zi6
  rw [ZjV hk]
  split
  ·exact ZlI (h.wd _) _ (YbC _ (by decide))
  ·exact h.wd k
 ·rw [Zi8 (by rw [ZiO];omega)];omega
theorem Zeg.setW {n:Nat} {ws:List Int} (h:Zeg n ws) (i:Int) (on:Bool):Zeg n (setW n ws i on):=by
 unfold Go.Proofs.YtlkpllemoepamaaGreat.setW
 split
 ·exact h.flip _
 ·exact h
def places (n:Nat) (ws:List Int):List Int:=((List.range n).filter fun j=>Zc2 ws j).map fun j:Nat=>(j:Int)
def Zs8 (n:Nat) (ws:List Int):Prop:=∀ j,n≤j→Zc2 ws j=false
def Up (n:Nat) (x:List Int):Prop:=x.Pairwise (· < ·) ∧ ∀ i ∈ x,0≤i∧i<n
structure ZiC (n:Nat) (ws:List Int) (x:List Int):Prop where
 ok:Zeg n ws
 clean:Zs8 n ws
 up:Up n x
 mem:∀ j:Nat,Zc2 ws j=true ↔ (j:Int) ∈ x
theorem ZiC.mk' {n:Nat} {ws x:List Int} (hok:Zeg n ws) (hc:Zs8 n ws) (hu:Up n x) (h:∀ j:Nat,j<n→(Zc2 ws j=true ↔ (j:Int) ∈ x)):ZiC n ws x:=by
 refine ⟨hok,hc,hu,fun j=>?_⟩
 by_cases hj:j<n
 ·exact h j hj
 ·rw [hc j ow]
  constructor
  ·intro h;cases h
  ·intro hm;have:=hu.2 _ hm;omega
theorem ZiC.zero (m:Int):ZiC (ZsF m) (ZlD m) []:=by
 have hz:∀ j,Zc2 (ZlD m) j=false:=fun j=>by unfold Zc2 ZlD;rw [Zme];simp
 exact ⟨Zpj m,fun j _=>hz j,⟨List.Pairwise.nil,by simp⟩,fun j=>by simp [hz j]⟩
def ZoB (i:Int):List Int→Bool→List Int
 | [],d=>if d then [] else [i]
 | x :: l,d=>(if d=false∧i≤x then [i] else [])++(if x=i then [] else [x])++ZoB i l (d || decide (i≤x))
def putL (l:List Int) (n i:Int) (on:Bool):List Int:=ZoB i l (!on || decide (i<0) || decide (n≤i))
theorem Zdr (i j:Int):∀ (l:List Int) (d:Bool),j ∈ ZoB i l d ↔ (j≠i∧j ∈ l)∨(j=i∧d=false)
 | [],d=>by cases d <;> simp [ZoB]
 | x :: l,d=>by
  rw [ZoB,YA,YA,Zdr i j l]
  by_cases h1:i≤x <;> cases d <;> by_cases h2:x=i <;> by_cases h3:j=i <;> simp_all
  all_goals (try omega)
theorem Zjx (i:Int):∀ (l:List Int) (d:Bool),l.Pairwise (· < ·)→(ZoB i l d).Pairwise (· < ·)
 | [],d,_=>by cases d <;> simp [ZoB]
 | x :: l,d,h=>by
  rw [Yq] at h
  have ih:=Zjx i l (d || decide (i≤x)) h.2
  rw [ZoB]
  by_cases h1:i≤x
  ·have hm:∀ j,j ∈ ZoB i l (d || decide (i≤x))→x<j∧j≠i:=by
    intro j hj
    rw [Zdr] at hj
    rcases hj with hj | hj
    ·exact ⟨h.1 j hj.2,hj.1⟩
    ·simp [h1] at hj
   generalize (d || decide (i≤x))=d' at hm ih ⊢
   cases d <;> by_cases h2:x=i
   ·subst h2
    simp only [Yaj,and_self,Yp,Yam,YN,YaB,Yq]
    exact ⟨fun j hj=>(hm j hj).1,ih⟩
   ·simp only [h1,and_self,Yp,h2,Yn,YaB,Yal,Yam,Yq,Yk]
    refine ⟨?_,fun j hj=>(hm j hj).1,ih⟩
    rintro j (rfl | hj)
    ·omega
    ·have:=hm j hj;omega
   ·simp only [h2,Yp,YN,Bool.true_eq_false,false_and,Yn,Yam]
    subst h2;exact ih
   ·simp only [h2,Yn,Bool.true_eq_false,false_and,Yam,YaB,Yq]
    exact ⟨fun j hj=>(hm j hj).1,ih⟩
  ·have hm:∀ j,j ∈ ZoB i l (d || decide (i≤x))→x<j:=by
    intro j hj
    rw [Zdr] at hj
    rcases hj with hj | hj
    ·exact h.1 j hj.2
    ·omega
   generalize (d || decide (i≤x))=d' at hm ih ⊢
   have h2:¬ x=i:=by omega
   simp only [h1,and_false,Yn,h2,Yam,YaB,Yq]
   exact ⟨hm,ih⟩
theorem Zkc {l:List Int} {n i j:Int} {on:Bool} : j ∈ putL l n i on ↔ (j≠i∧j ∈ l)∨(j=i∧on=true∧0≤i∧i<n):=by
 unfold putL
 rw [Zdr]
 cases on <;> simp <;> omega
theorem ZrF {n:Nat} {l:List Int} (h:Up n l) (i:Int) (on:Bool):Up n (putL l n i on):=by
 refine ⟨Zjx _ _ _ h.1,fun j hj=>?_⟩
 rw [Zkc] at hj
 rcases hj with hj | hj
 ·exact h.2 j hj.2
 ·omega
theorem ZjY {n:Nat} {ws:List Int} (hI:Zeg n ws) (i:Int) (on:Bool) (j:Nat):Zc2 (setW n ws i on) j=if 0≤i∧i<n∧i=j then on else Zc2 ws j:=by
 unfold setW ZtI ZtK
 by_cases hb:0≤i∧i<n
 ·rw [show (decide (0≤i) && decide (i<(n:Int)))=true by simp [hb],Ybp,Ybp]
  have hq:=hI.at i hb.1 hb.2
  have flip:∀ j,Zc2 (Zi6 ws i.toNat) j=if i=j then !Zc2 ws j else Zc2 ws j:=by
   intro j
   unfold Zc2 Zi6
   by_cases hj:j / 64<ws.length
   ·rw [ZjV hj]
    by_cases he:i.toNat / 64=j / 64
    ·rw [Ye he,Yc,Nat.testBit_xor,Nat.testBit_two_pow,he]
     by_cases e2:i=j
     ·subst e2;simp
     ·rw [Yb e2,show decide (i.toNat % 64=j % 64)=false by simp;omega,Bool.xor_false]
    ·rw [Yb he,Yb (fun e=>he ow)]
   ·rw [Zi8 (by rw [YR];omega),Zi8 ow,Yb (fun e=>hj ow)]
  by_cases h1:(Zc2 ws i.toNat != on)=true
  ·rw [Ye h1,flip j]
   by_cases e:i=j
   ·rw [Ye e,Ye ⟨hb.1,hb.2,e⟩]
    subst e
    rw [Yc] at h1
    cases hx:Zc2 ws j <;> rw [hx] at h1 <;> cases on <;> simp_all
   ·rw [Yb e,Yb (fun h=>e h.2.2)]
  ·rw [Yb h1]
   by_cases e:i=j
   ·rw [Ye ⟨hb.1,hb.2,e⟩]
    subst e
    rw [Yc] at h1
    cases hx:Zc2 ws j <;> rw [hx] at h1 <;> cases on <;> simp_all
   ·rw [Yb (fun h=>e h.2.2)]
 ·rw [Zjk hb,Bool.false_and,Yb (by simp),Yb (fun h=>hb ⟨h.1,h.2.1⟩)]
theorem ZiC.set {n:Nat} {ws x:List Int} (h:ZiC n ws x) (i:Int) (on:Bool):ZiC n (setW n ws i on) (putL x n i on):=by
 refine ZiC.mk' (h.ok.setW i on) (fun j hj=>?_) (ZrF h.up i on) (fun j hj=>?_)
 ·rw [ZjY h.ok,Yb ow,h.clean j hj]
 ·rw [ZjY h.ok,Zkc]
  have:=h.mem j
  by_cases e:0≤i∧i<n∧i=j
  ·rw [Ye e]
   constructor
   ·intro ho;exact .inr ⟨e.2.2.symm,ho,e.1,e.2.1⟩
   ·rintro (⟨h1,_⟩ | ⟨_,h2,_⟩)
    ·exact absurd e.2.2.symm h1
    ·exact h2
  ·rw [Yb e,this]
   constructor
   ·intro hm
    refine .inl ⟨fun e'=>e ?_,hm⟩
    omega
   ·rintro (⟨_,h2⟩ | ⟨h1,_,h3,h4⟩)
    ·exact h2
    ·exact absurd ⟨h3,h4,h1.symm⟩ e
inductive Rch (E:Int→Int→Prop) (u:Int):Int→Prop
 | one {v:Int} (h:E u v):Rch E u v
 | step {v w:Int} (h:Rch E u v) (k:E v w):Rch E u w
theorem Rch.trans {E:Int→Int→Prop} {u v w:Int} (h:Rch E u v) (k:Rch E v w):Rch E u w:=by
 induction k with
 | one k=>exact .step h k
 | step _ k ih=>exact .step ih k
def EJ (adj:Int→List Int) (x y:Int):Prop:=y ∈ adj x
def ZiR (f:Int→Int) (x c:Int):Int→Int:=fun y=>if y=x then c else f y
theorem Z8 {f:Int→Int} {x c:Int} : ZiR f x c x=c:=Ye rfl
theorem ZaQ {f:Int→Int} {x c y:Int} (h:y≠x):ZiR f x c y=f y:=Yb h
def ZcF (wh:Int→Int) (st:List Int) (d:Int):Prop:=wh d≠0∧d ∉ st
def Zm7 (adj:Int→List Int) (u x:Int):Prop:=x=u∨(Rch (EJ adj) u x∧Rch (EJ adj) x u)
def Zn2 (adj:Int→List Int) (u m:Int):Prop:=Zm7 adj u m ∧ ∀ x,Zm7 adj u x→m≤x
abbrev Znd:Type:=List (Int×List Int)
def NxT (wh:Int→Int) (way:Znd) (v y:Int):Prop:=(∃ q ∈ way,q.1=y)∧wh v<wh y ∧ ∀ p ∈ way,¬ (wh v<wh p.1∧wh p.1<wh y)
structure Tj (adj:Int→List Int) (wh lo out:Int→Int) (ck:Int) (st:List Int) (way:Znd):Prop where
 pos:∀ u ∈ st,0<wh u
 dec:st.Pairwise fun a b=>wh b<wh a
 vis:∀ u,0≤wh u∧wh u≤ck
 low:∀ u ∈ st,lo u≤wh u ∧ ∃ w ∈ st,wh w=lo u∧(w=u∨Rch (EJ adj) u w)
 fin:∀ u ∈ st,(∀ p ∈ way,p.1≠u)→lo u<wh u ∧ ∀ y ∈ adj u,ZcF wh st y∨(y ∈ st∧lo u≤wh y)
 done:∀ d,ZcF wh st d→(∀ y ∈ adj d,ZcF wh st y)∧Zn2 adj d (out d)
 onst:∀ r ∈ way,r.1 ∈ st
 sub:∀ r ∈ way,∀ y ∈ r.2,y ∈ adj r.1
 wdec:way.Pairwise fun a b=>wh b.1<wh a.1
 arcs:∀ r ∈ way,∀ y ∈ adj r.1,y ∉ r.2→ZcF wh st y∨(y ∈ st∧lo r.1≤wh y)∨NxT wh way r.1 y
 lows:∀ r ∈ way,∀ u ∈ st,(∀ p ∈ way,p.1≠u)→wh r.1<wh u→(∀ p ∈ way,¬ (wh r.1<wh p.1∧wh p.1<wh u))→lo r.1≤lo u
 reach:∀ r ∈ way,∀ u ∈ st,wh r.1≤wh u→u=r.1∨Rch (EJ adj) r.1 u
 root:∀ u ∈ st,∃ r,way.getLast? = some r∧wh r.1≤wh u
section
variable {adj:Int→List Int} {wh lo out:Int→Int} {ck:Int} {st:List Int} {rest:Znd} {v x:Int} {next:List Int}
theorem Zoa (h:st.Pairwise fun a b=>wh b<wh a) {a b:Int} (ha:a ∈ st) (hb:b ∈ st) (e:wh a=wh b):a=b:=by
 induction st with
 | nil=>cases ha
 | cons x l ih=>
  rw [Yq] at h
  rcases Yk.1 ha with e1 | ha2 <;> rcases Yk.1 hb with e2 | hb2
  ·rw [e1,e2]
  ·have:=h.1 b hb2;rw [e1] at e;omega
  ·have:=h.1 a ha2;rw [e2] at e;omega
  ·exact ih h.2 ha2 hb2
theorem Tj.zero:Tj adj (fun _=>0) lo out 0 [] []:=
 ⟨by simp,.nil,fun _=>⟨Yaj _,Yaj _⟩,by simp,by simp,fun d h=>absurd rfl h.1,by simp,by simp,.nil,by simp,by simp,by simp,by simp⟩
theorem Tj.first (h:Tj adj wh lo out ck [] []) (hx:wh x=0):Tj adj (ZiR wh x (ck+1)) (ZiR lo x (ck+1)) out (ck+1) [x] [(x,adj x)]:=by
 have hck:=(h.vis x).2
 have hd:∀ y,ZcF (ZiR wh x (ck+1)) [x] y ↔ ZcF wh [] y:=fun y=>by
  unfold ZcF
  by_cases e:y=x
  ·subst e;simp [hx]
  ·rw [ZaQ e];simp [e]
 have v0:=h.vis x
 refine ⟨fun u hu=>?_,by simp,fun u=>?_,fun u hu=>?_,fun u hu hp=>?_,fun d hdd=>?_,fun r hr=>?_,fun r hr y hy=>?_,by simp,fun r hr y hy hn=>?_,fun r hr u hu hp=>?_,fun r hr u hu _=>?_,fun u hu=>?_⟩
 ·obtain rfl:=Yi.1 hu;rw [Z8];omega
 ·by_cases e:u=x
  ·rw [e,Z8];omega
  ·rw [ZaQ e];have:=h.vis u;omega
 ·obtain rfl:=Yi.1 hu;exact ⟨by rw [Z8,Z8];exact Yaj _,u,by simp,by rw [Z8,Z8],.inl rfl⟩
 ·obtain rfl:=Yi.1 hu;exact absurd rfl (hp (u,adj u) (by simp))
 ·obtain ⟨h1,h2⟩:=h.done d ((hd d).1 hdd)
  exact ⟨fun y hy=>(hd y).2 (h1 y hy),h2⟩
 ·obtain rfl:=Yi.1 hr;simp
 ·obtain rfl:=Yi.1 hr;exact hy
 ·obtain rfl:=Yi.1 hr;exact absurd hy hn
 ·obtain rfl:=Yi.1 hr;obtain rfl:=Yi.1 hu;exact absurd rfl (hp (u,adj u) (by simp))
 ·obtain rfl:=Yi.1 hr;obtain rfl:=Yi.1 hu;exact .inl rfl
 ·obtain rfl:=Yi.1 hu;exact ⟨(u,adj u),rfl,Yaj _⟩
theorem Tj.top (h:Tj adj wh lo out ck st ((v,next) :: rest)):(∀ r ∈ rest,wh r.1<wh v) ∧ ∀ p ∈ (v,next) :: rest,wh p.1≤wh v:=by
 have h1:=(Yq.1 h.wdec).1
 refine ⟨h1,fun p hp=>?_⟩
 rcases Yk.1 hp with rfl | hp
 ·exact Yaj _
 ·exact YbR (h1 p hp)
theorem Tj.pass {c:Int} (h:Tj adj wh lo out ck st ((v,x :: next) :: rest)) (hc:(ZcF wh st x∧c=lo v)∨(x ∈ st∧c=min (lo v) (wh x))):Tj adj wh (ZiR lo v c) out ck st ((v,next) :: rest):=by
 have hvs:v ∈ st:=h.onst (v,x :: next) (by simp)
 have hxv:x ∈ adj v:=h.sub (v,x :: next) (by simp) x (by simp)
 obtain ⟨ht1,ht2⟩:=h.top
 have hcl:c≤lo v:=by rcases hc with ⟨_,h1⟩ | ⟨_,h1⟩ <;> omega
 have hfs:∀ p ∈ (v,next) :: rest,∃ q ∈ (v,x :: next) :: rest,q.1=p.1:=fun p hp=>by
  rcases Yk.1 hp with rfl | hp
  ·exact ⟨_,Ya0,rfl⟩
  ·exact ⟨p,by simp [hp],rfl⟩
 have hfs2:∀ p ∈ (v,x :: next) :: rest,∃ q ∈ (v,next) :: rest,q.1=p.1:=fun p hp=>by
  rcases Yk.1 hp with rfl | hp
  ·exact ⟨_,Ya0,rfl⟩
  ·exact ⟨p,by simp [hp],rfl⟩
 have hnx:∀ a y,NxT wh ((v,x :: next) :: rest) a y→NxT wh ((v,next) :: rest) a y:=fun a y ⟨⟨q,hq,e⟩,h2,h3⟩=>by
  obtain ⟨q',hq',e'⟩:=hfs2 q hq
  refine ⟨⟨q',hq',e'.trans e⟩,h2,fun p hp=>?_⟩
  obtain ⟨p',hp',e2⟩:=hfs p hp
  rw [← e2];exact h3 p' hp'
 have hrv:∀ r ∈ rest,r.1≠v:=fun r hr e=>by have:=ht1 r hr;rw [e] at this;omega
 refine ⟨h.pos,h.dec,h.vis,fun u hu=>?_,fun u hu hp=>?_,h.done,fun r hr=>?_,fun r hr y hy=>?_,Yq.2 (Yq.1 h.wdec),fun r hr y hy hn=>?_,fun r hr u hu hp hlt hb=>?_,fun r hr u hu hle=>?_,fun u hu=>?_⟩
 ·by_cases e:u=v
  ·subst e
   rw [Z8]
   obtain ⟨h1,w,hws,h2,h3⟩:=h.low u hu
   refine ⟨by omega,?_⟩
   rcases hc with ⟨_,h4⟩ | ⟨h5,h4⟩
   ·exact ⟨w,hws,by omega,h3⟩
   ·by_cases h6:lo u≤wh x
    ·exact ⟨w,hws,by omega,h3⟩
    ·exact ⟨x,h5,by omega,.inr (.one hxv)⟩
  ·rw [ZaQ e];exact h.low u hu
 ·have huv:u≠v:=fun e=>hp (v,next) (by simp) e.symm
  rw [ZaQ huv]
  exact h.fin u hu fun p hp2=>by
   obtain ⟨q,hq,e⟩:=hfs2 p hp2
   rw [← e];exact hp q hq
 ·obtain ⟨q,hq,e⟩:=hfs r hr
  rw [← e];exact h.onst q hq
 ·rcases Yk.1 hr with rfl | hr
  ·exact h.sub (v,x :: next) (by simp) y (by simp at hy ⊢;exact .inr hy)
  ·exact h.sub r (by simp [hr]) y hy
 ·rcases Yk.1 hr with rfl | hr
  ·show ZcF wh st y∨(y ∈ st∧ZiR lo v c v≤wh y)∨_
   rw [Z8]
   by_cases e:y=x
   ·subst e
    rcases hc with ⟨h1,_⟩ | ⟨h1,h2⟩
    ·exact .inl h1
    ·exact .inr (.inl ⟨h1,by omega⟩)
   ·rcases h.arcs (v,x :: next) (by simp) y hy (by simp at hn ⊢;exact ⟨e,hn⟩) with h1 | ⟨h1,h2⟩ | h3
    ·exact .inl h1
    ·have h2:lo v≤wh y:=h2
     exact .inr (.inl ⟨h1,by omega⟩)
    ·exact .inr (.inr (hnx _ _ h3))
  ·rw [ZaQ (hrv r hr)]
   rcases h.arcs r (by simp [hr]) y hy hn with h1 | h1 | h3
   ·exact .inl h1
   ·exact .inr (.inl h1)
   ·exact .inr (.inr (hnx _ _ h3))
 ·have huv:u≠v:=fun e=>hp (v,next) (by simp) e.symm
  rw [ZaQ huv]
  obtain ⟨r',hr',e⟩:=hfs r hr
  have h9:=h.lows r' hr' u hu (fun p hp2=>by
   obtain ⟨q,hq,e3⟩:=hfs2 p hp2
   rw [← e3];exact hp q hq) (by rw [e];exact hlt) fun p hp2=>by
   obtain ⟨q,hq,e3⟩:=hfs2 p hp2
   have:=hb q hq
   rwa [e3,← e] at this
  rw [e] at h9
  by_cases e2:r.1=v
  ·rw [e2] at h9 ⊢;rw [Z8];omega
  ·rw [ZaQ e2];exact h9
 ·obtain ⟨r',hr',e⟩:=hfs r hr
  rw [← e] at hle ⊢
  exact h.reach r' hr' u hu hle
 ·obtain ⟨r,h1,h2⟩:=h.root u hu
  cases rest with
  | nil=>simp at h1;exact ⟨(v,next),rfl,by rw [← h1] at h2;exact h2⟩
  | cons y l=>simp at h1;exact ⟨r,by simp [h1],h2⟩
theorem Tj.above {u0:Int} {nx:List Int} (h:Tj adj wh lo out ck st ((v,next) :: (u0,nx) :: rest)):wh u0<wh v∧(∀ r ∈ rest,wh r.1<wh u0):=by
 have h1:=Yq.1 h.wdec
 exact ⟨h1.1 (u0,nx) (by simp),(Yq.1 h1.2).1⟩
theorem Tj.stay {u0:Int} {nx:List Int} (h:Tj adj wh lo out ck st ((v,[]) :: (u0,nx) :: rest)) (hlo:lo v≠wh v):Tj adj wh (ZiR lo u0 (min (lo u0) (lo v))) out ck st ((u0,nx) :: rest):=by
 obtain ⟨a1,a2⟩:=h.above
 obtain ⟨ht1,ht2⟩:=h.top
 have hvs:v ∈ st:=h.onst (v,[]) (by simp)
 have hus:u0 ∈ st:=h.onst (u0,nx) (by simp)
 have hvu:v≠u0:=fun e=>by rw [e] at a1;omega
 have hr0:∀ r ∈ rest,r.1≠u0:=fun r hr e=>by have:=a2 r hr;rw [e] at this;omega
 have hlv:=h.low v hvs
 refine ⟨h.pos,h.dec,h.vis,fun u hu=>?_,fun u hu hp=>?_,h.done,fun r hr=>h.onst r (YB _ hr),fun r hr=>h.sub r (YB _ hr),(Yq.1 h.wdec).2,fun r hr y hy hn=>?_,fun r hr u hu hp hlt hb=>?_,fun r hr=>h.reach r (YB _ hr),fun u hu=>?_⟩
 ·by_cases e:u=u0
  ·subst e
   rw [Z8]
   obtain ⟨h1,w,hws,h2,h3⟩:=h.low u hu
   refine ⟨by omega,?_⟩
   by_cases h4:lo u≤lo v
   ·exact ⟨w,hws,by omega,h3⟩
   ·obtain ⟨h5,w2,hw2,h6,h7⟩:=hlv
    refine ⟨w2,hw2,by omega,.inr ?_⟩
    have h8:=(h.reach (u,nx) (by simp) v hvs (YbR a1)).resolve_left hvu
    rcases h7 with rfl | h7
    ·exact h8
    ·exact h8.trans h7
  ·rw [ZaQ e];exact h.low u hu
 ·have hu0:u≠u0:=fun e=>hp (u0,nx) (by simp) e.symm
  rw [ZaQ hu0]
  by_cases e:u=v
  ·subst e
   refine ⟨by have:=hlv.1;omega,fun y hy=>?_⟩
   rcases h.arcs (u,[]) (by simp) y hy (by simp) with h1 | h1 | ⟨⟨q,hq,e2⟩,h2,_⟩
   ·exact .inl h1
   ·exact .inr h1
   ·have:=ht2 q hq
    rw [e2] at this
    have h2:wh u<wh y:=h2
    omega
  ·refine h.fin u hu fun p hp2=>?_
   rcases Yk.1 hp2 with rfl | hp2
   ·exact fun e2=>e e2.symm
   ·exact hp p hp2
 ·rcases Yk.1 hr with rfl | hr2
  ·show ZcF wh st y∨(y ∈ st∧ZiR lo u0 _ u0≤wh y)∨_
   rw [Z8]
   rcases h.arcs (u0,nx) (by simp) y hy hn with h1 | ⟨h1,h2⟩ | ⟨⟨q,hq,e2⟩,h2,h3⟩
   ·exact .inl h1
   ·have h2:lo u0≤wh y:=h2
    exact .inr (.inl ⟨h1,by omega⟩)
   ·have h2:wh u0<wh y:=h2
    have h4:¬ (wh u0<wh v∧wh v<wh y):=h3 (v,[]) (by simp)
    have hy2:y=v:=by
     rcases Yk.1 hq with rfl | hq
     ·exact e2.symm
     ·rcases Yk.1 hq with rfl | hq
      ·have e2:u0=y:=e2
       rw [← e2] at h2;omega
      ·have:=a2 q hq
       rw [e2] at this;omega
    subst hy2
    exact .inr (.inl ⟨hvs,by have:=hlv.1;omega⟩)
  ·rw [ZaQ (hr0 r hr2)]
   rcases h.arcs r (by simp [hr2]) y hy hn with h1 | h1 | ⟨⟨q,hq,e2⟩,h2,h3⟩
   ·exact .inl h1
   ·exact .inr (.inl h1)
   ·refine .inr (.inr ⟨?_,h2,fun p hp=>h3 p (YB _ hp)⟩)
    rcases Yk.1 hq with rfl | hq
    ·have e2:v=y:=e2
     have h4:¬ (wh r.1<wh u0∧wh u0<wh y):=h3 (u0,nx) (by simp)
     exact absurd ⟨a2 r hr2,by rw [← e2];exact a1⟩ h4
    ·exact ⟨q,hq,e2⟩
 ·have hu0:u≠u0:=fun e=>hp (u0,nx) (by simp) e.symm
  rw [ZaQ hu0]
  rcases Yk.1 hr with rfl | hr2
  ·show ZiR lo u0 _ u0≤lo u
   rw [Z8]
   by_cases e:u=v
   ·subst e;omega
   ·have hp2:∀ p ∈ (v,[]) :: (u0,nx) :: rest,p.1≠u:=fun p hp3=>by
     rcases Yk.1 hp3 with rfl | hp3
     ·exact fun e2=>e e2.symm
     ·exact hp p hp3
    rcases Int.lt_or_le (wh u) (wh v) with h1 | h1
    ·have:=h.lows (u0,nx) (by simp) u hu hp2 hlt fun p hp3=>by
      rcases Yk.1 hp3 with rfl | hp3
      ·exact fun h9=>by have h9:wh v<wh u:=h9.2;omega
      ·exact hb p hp3
     have this:lo u0≤lo u:=this
     omega
    ·have h2:wh v<wh u:=by
      rcases Int.lt_or_eq_of_le h1 with h2 | h2
      ·exact h2
      ·exact absurd (Zoa h.dec hu hvs h2.symm) e
     have:=h.lows (v,[]) (by simp) u hu hp2 h2 fun p hp3 h9=>by
      have h10:=ht2 p hp3
      have h9:wh v<wh p.1:=h9.1
      omega
     have this:lo v≤lo u:=this
     omega
  ·rw [ZaQ (hr0 r hr2)]
   have h1:wh u<wh u0:=by
    have h2:¬ (wh r.1<wh u0∧wh u0<wh u):=hb (u0,nx) (by simp)
    have h3:=a2 r hr2
    rcases Int.lt_or_le (wh u) (wh u0) with h4 | h4
    ·exact h4
    ·have h5:wh u=wh u0:=by omega
     exact absurd (Zoa h.dec hu hus h5) hu0
   refine h.lows r (by simp [hr2]) u hu (fun p hp3=>?_) hlt fun p hp3=>?_
   ·rcases Yk.1 hp3 with rfl | hp3
    ·exact fun e2=>by have e2:v=u:=e2;rw [e2] at a1;omega
    ·exact hp p hp3
   ·rcases Yk.1 hp3 with rfl | hp3
    ·exact fun h9=>by have h9:wh v<wh u:=h9.2;omega
    ·exact hb p hp3
 ·obtain ⟨r,h1,h2⟩:=h.root u hu
  exact ⟨r,by simpa using h1,h2⟩
theorem Tj.part {A B:List Int} {m:Int} (h:Tj adj wh lo out ck (A++v :: B) ((v,[]) :: rest)) (hlo:lo v=wh v) (hm:m ∈ A ++ [v]) (hmin:∀ x ∈ A ++ [v],m≤x) :
  Tj adj wh lo (fun u=>if u ∈ A ++ [v] then m else out u) ck B rest:=by
 obtain ⟨ht1,ht2⟩:=h.top
 have hdec:=Ybg.1 h.dec
 have hdB:=Yq.1 hdec.2.1
 have hP:∀ u ∈ A ++ [v],wh v≤wh u∧u ∈ A++v :: B:=fun u hu=>by
  rcases YA.1 hu with h1 | h1
  ·exact ⟨YbR (hdec.2.2 u h1 v (by simp)),by simp [h1]⟩
  ·obtain rfl:=Yi.1 h1
   exact ⟨Yaj _,by simp⟩
 have Z:∀ u ∈ B,wh u<wh v∧u ∈ A++v :: B:=fun u hu=>⟨hdB.1 u hu,by simp [hu]⟩
 have hsplit:∀ u ∈ A++v :: B,u ∈ A ++ [v]∨u ∈ B:=fun u hu=>by
  rcases YA.1 hu with h1 | h1
  ·exact .inl (YA.2 (.inl h1))
  ·rcases Yk.1 h1 with h1 | h1
   ·exact .inl (by simp [h1])
   ·exact .inr h1
 have hvs:v ∈ A++v :: B:=by simp
 have hPt:∀ u ∈ A ++ [v],u≠v → ∀ p ∈ (v,[]) :: rest,p.1≠u:=fun u hu hne p hp e=>by
  rcases Yk.1 hp with rfl | hp
  ·exact hne e.symm
  ·have h1:=ht1 p hp
   rw [e] at h1
   have:=(hP u hu).1
   omega
 have hno:∀ u ∈ A ++ [v],wh v<wh u → ∀ p ∈ (v,[]) :: rest,¬ (wh v<wh p.1∧wh p.1<wh u):=fun u hu _ p hp h9=>by
  have:=ht2 p hp
  omega
 have hlow:∀ u ∈ A ++ [v],wh v≤lo u:=fun u hu=>by
  by_cases e:u=v
  ·rw [e,hlo];exact Yaj _
  ·have h1:wh v<wh u:=by
    rcases Int.lt_or_eq_of_le (hP u hu).1 with h1 | h1
    ·exact h1
    ·exact absurd (Zoa h.dec (hP u hu).2 hvs h1.symm) e
   have:=h.lows (v,[]) (by simp) u (hP u hu).2 (hPt u hu e) h1 (hno u hu h1)
   rw [← hlo];exact this
 have hback:∀ (k:Nat) (u:Int),u ∈ A ++ [v]→(wh u).toNat=k→u=v∨Rch (EJ adj) u v:=by
  intro k
  induction k using Nat.strongRecOn with
  | _ k ih=>
   intro u hu hk
   by_cases e:u=v
   ·exact .inl e
   ·refine .inr ?_
    have h1:=(h.fin u (hP u hu).2 (hPt u hu e)).1
    obtain ⟨_,w,hws,h2,h3⟩:=h.low u (hP u hu).2
    have h4:=hlow u hu
    have hwP:w ∈ A ++ [v]:=(hsplit w hws).resolve_right fun h9=>by have:=(Z w h9).1;omega
    have h5:Rch (EJ adj) u w:=h3.resolve_left fun e2=>by rw [e2] at h2;omega
    have h6:=h.pos w hws
    rcases ih (wh w).toNat ow w hwP rfl with h7 | h7
    ·rw [← h7];exact h5
    ·exact h5.trans h7
 have hfwd:∀ u ∈ A ++ [v],u=v∨Rch (EJ adj) v u:=fun u hu=>h.reach (v,[]) (by simp) u (hP u hu).2 (hP u hu).1
 have hcl:∀ u ∈ A ++ [v],∀ y ∈ adj u,ZcF wh (A++v :: B) y∨y ∈ A ++ [v]:=fun u hu y hy=>by
  have key:ZcF wh (A++v :: B) y∨(y ∈ A++v :: B∧wh v≤wh y):=by
   by_cases e:u=v
   ·rw [e] at hy
    rcases h.arcs (v,[]) (by simp) y hy (by simp) with h1 | ⟨h1,h2⟩ | ⟨⟨q,hq,e2⟩,h2,_⟩
    ·exact .inl h1
    ·exact .inr ⟨h1,by have h2:lo v≤wh y:=h2;omega⟩
    ·have h3:=ht2 q hq
     rw [e2] at h3
     have h2:wh v<wh y:=h2
     omega
   ·rcases (h.fin u (hP u hu).2 (hPt u hu e)).2 y hy with h1 | ⟨h1,h2⟩
    ·exact .inl h1
    ·exact .inr ⟨h1,by have:=hlow u hu;omega⟩
  rcases key with h1 | ⟨h1,h2⟩
  ·exact .inl h1
  ·exact .inr ((hsplit y h1).resolve_right fun h9=>by have:=(Z y h9).1;omega)
 have hdr:∀ {d y:Int},ZcF wh (A++v :: B) d→Rch (EJ adj) d y→ZcF wh (A++v :: B) y:=fun {d y} hd hr=>by
  induction hr with
  | one k=>exact (h.done _ hd).1 _ k
  | step _ k ih=>exact (h.done _ ih).1 _ k
 have hCr:∀ {u y:Int},u ∈ A ++ [v]→Rch (EJ adj) u y→ZcF wh (A++v :: B) y∨y ∈ A ++ [v]:=fun {u y} hu hr=>by
  induction hr with
  | one k=>exact hcl _ hu _ k
  | step _ k ih=>
   rcases ih with h1 | h1
   ·exact .inl ((h.done _ h1).1 _ k)
   ·exact hcl _ h1 _ k
 have hmut:∀ u ∈ A ++ [v],∀ x,Zm7 adj u x ↔ x ∈ A ++ [v]:=fun u hu x=>by
  constructor
  ·rintro (rfl | ⟨h1,h2⟩)
   ·exact hu
   ·rcases hCr hu h1 with h3 | h3
    ·exact absurd (hP u hu).2 (hdr h3 h2).2
    ·exact h3
  ·intro hx
   by_cases e:x=u
   ·exact .inl e
   ·refine .inr ?_
    have key:∀ a ∈ A ++ [v],∀ b ∈ A ++ [v],b≠a→Rch (EJ adj) a b:=fun a ha b hb hne=>by
     rcases hback _ a ha rfl with h1 | h1 <;> rcases hfwd b hb with h2 | h2
     ·exact absurd (h2.trans h1.symm) hne
     ·rw [h1];exact h2
     ·rw [h2];exact h1
     ·exact h1.trans h2
    exact ⟨key u hu x hx e,key x hx u hu fun e2=>e e2.symm⟩
 have hlab:∀ u ∈ A ++ [v],Zn2 adj u m:=fun u hu=>⟨(hmut u hu m).2 hm,fun x hx=>hmin x ((hmut u hu x).1 hx)⟩
 have hdn:∀ d,ZcF wh B d ↔ ZcF wh (A++v :: B) d∨d ∈ A ++ [v]:=fun d=>by
  constructor
  ·rintro ⟨h1,h2⟩
   by_cases h3:d ∈ A++v :: B
   ·exact .inr ((hsplit d h3).resolve_right h2)
   ·exact .inl ⟨h1,h3⟩
  ·rintro (⟨h1,h2⟩ | h1)
   ·exact ⟨h1,fun h3=>h2 (Z d h3).2⟩
   ·refine ⟨by have:=h.pos d (hP d h1).2;omega,fun h3=>?_⟩
    have:=(Z d h3).1
    have:=(hP d h1).1
    omega
 have hrB:∀ r ∈ rest,r.1 ∈ B:=fun r hr=>(hsplit r.1 (h.onst r (by simp [hr]))).resolve_left fun h9=>by
  have:=(hP _ h9).1
  have:=ht1 r hr
  omega
 refine ⟨fun u hu=>h.pos u (Z u hu).2,hdB.2,h.vis,fun u hu=>?_,fun u hu hp=>?_,fun d hd=>?_,hrB,fun r hr=>h.sub r (YB _ hr),(Yq.1 h.wdec).2,fun r hr y hy hn=>?_,fun r hr u hu hp hlt hb=>?_,fun r hr u hu hle=>h.reach r (YB _ hr) u (Z u hu).2 hle,fun u hu=>?_⟩
 ·obtain ⟨h1,w,hws,h2,h3⟩:=h.low u (Z u hu).2
  refine ⟨h1,w,(hsplit w hws).resolve_left fun h9=>?_,h2,h3⟩
  have:=(hP w h9).1
  have:=(Z u hu).1
  omega
 ·have huv:u≠v:=fun e=>by have:=(Z u hu).1;rw [e] at this;omega
  obtain ⟨h1,h2⟩:=h.fin u (Z u hu).2 fun p hp2=>by
   rcases Yk.1 hp2 with rfl | hp2
   ·exact fun e=>huv e.symm
   ·exact hp p hp2
  refine ⟨h1,fun y hy=>?_⟩
  rcases h2 y hy with h3 | ⟨h3,h4⟩
  ·exact .inl ((hdn y).2 (.inl h3))
  ·rcases hsplit y h3 with h5 | h5
   ·exact .inl ((hdn y).2 (.inr h5))
   ·exact .inr ⟨h5,h4⟩
 ·rcases (hdn d).1 hd with h1 | h1
  ·have hnp:d ∉ A ++ [v]:=fun h9=>h1.2 (hP d h9).2
   obtain ⟨h2,h3⟩:=h.done d h1
   refine ⟨fun y hy=>(hdn y).2 (.inl (h2 y hy)),?_⟩
   show Zn2 adj d (if d ∈ A ++ [v] then m else out d)
   rw [Yb hnp];exact h3
  ·refine ⟨fun y hy=>(hdn y).2 (hcl d h1 y hy),?_⟩
   show Zn2 adj d (if d ∈ A ++ [v] then m else out d)
   rw [Ye h1];exact hlab d h1
 ·rcases h.arcs r (by simp [hr]) y hy hn with h1 | ⟨h1,h2⟩ | ⟨⟨q,hq,e2⟩,h2,h3⟩
  ·exact .inl ((hdn y).2 (.inl h1))
  ·rcases hsplit y h1 with h5 | h5
   ·exact .inl ((hdn y).2 (.inr h5))
   ·exact .inr (.inl ⟨h5,h2⟩)
  ·rcases Yk.1 hq with rfl | hq
   ·have e2:v=y:=e2
    exact .inl ((hdn y).2 (.inr (by rw [← e2];simp)))
   ·exact .inr (.inr ⟨⟨q,hq,e2⟩,h2,fun p hp=>h3 p (YB _ hp)⟩)
 ·refine h.lows r (by simp [hr]) u (Z u hu).2 (fun p hp2=>?_) hlt fun p hp2=>?_
  ·rcases Yk.1 hp2 with rfl | hp2
   ·exact fun e=>by have e:v=u:=e;have:=(Z u hu).1;rw [e] at this;omega
   ·exact hp p hp2
  ·rcases Yk.1 hp2 with rfl | hp2
   ·exact fun h9=>by have h9:wh v<wh u:=h9.2;have:=(Z u hu).1;omega
   ·exact hb p hp2
 ·obtain ⟨r,h1,h2⟩:=h.root u (Z u hu).2
  cases rest with
  | nil=>simp at h1;rw [← h1] at h2;have:=(Z u hu).1;have h2:wh v≤wh u:=h2;omega
  | cons y l=>exact ⟨r,by simpa using h1,h2⟩
end
structure ZdY where
 wh:List Int
 lo:List Int
 wait:List Int
 inn:List Int
 ck:Int
 out:List Int
def fI (l:List Int):Int→Int:=fun x=>if 0≤x then Nn l x.toNat else 0
theorem Zct {l:List Int} {x:Int} (h:0≤x):fI l x=Nn l x.toNat:=Ye h
theorem Zce {l:List Int} {i j:Nat} {c:Int} (hi:i<l.length):Nn (l.set i c) j=if j=i then c else Nn l j:=by
 by_cases hj:j<l.length
 ·rw [nth_eq (by simpa using hj),YbJ,nth_eq hj]
  by_cases e:j=i
  ·rw [Ye e,Ye e.symm]
  ·rw [Yb e,Yb fun h=>e h.symm]
 ·rw [Yb ow]
  have e1:∀ (m:List Int),m.length≤j→Nn m j=(default:Int):=fun m hm=>by
   unfold Nn
   simp [Yat,hm]
  rw [e1 _ (by simp;omega),e1 _ ow]
theorem ZdB {l:List Int} {x c:Int} (h:0≤x∧x<l.length):fI (l.set x.toNat c)=ZiR (fI l) x c:=by
 funext y
 show (if 0≤y then Nn (l.set x.toNat c) y.toNat else 0)=if y=x then c else (if 0≤y then Nn l y.toNat else 0)
 by_cases hy:0≤y
 ·rw [Ye hy,Ye hy,Zce ow]
  by_cases e:y=x
  ·rw [Ye e,Ye (by rw [e])]
  ·rw [Yb e,Yb ow]
 ·rw [Yb hy,Yb hy,Yb ow]
def Zl3 (n:Nat) (wh:List Int):List Nat:=(List.range n).filter fun i=>decide (Nn wh i=0)
def muW (way:Znd):Nat:=(way.map fun r=>r.2.length+1).sum
def muU (n:Nat) (adj:Int→List Int) (wh:List Int):Nat:=((Zl3 n wh).map fun i:Nat=>(adj (i:Int)).length+2).sum
structure TI (n:Nat) (adj:Int→List Int) (s:ZdY) (way:Znd):Prop where
 tj:Tj adj (fI s.wh) (fI s.lo) (fI s.out) s.ck s.wait.reverse way.reverse
 lw:s.wh.length=n
 ll:s.lo.length=n
 lout:s.out.length=n
 rng:∀ u ∈ s.wait,0≤u∧u<n
 up:Up n s.inn
 mem:∀ u,u ∈ s.inn ↔ u ∈ s.wait
 cnt:s.ck+(Zl3 n s.wh).length=n
def ZeC (n:Nat) (s:ZdY) (x:Int):ZdY:=⟨s.wh.set x.toNat (s.ck+1),s.lo.set x.toNat (s.ck+1),s.wait ++ [x],putL s.inn n x true,s.ck+1,s.out⟩
theorem ZjA {n:Nat} {wh:List Int} {x c:Int} (hl:wh.length=n) (hx:0≤x∧x<n) (h0:Nn wh x.toNat=0) (hc:c≠0) (f:Nat→Nat) :
  ((Zl3 n (wh.set x.toNat c)).map f).sum+f x.toNat=((Zl3 n wh).map f).sum:=by
 have hlt:x.toNat<n:=by omega
 have e:Zl3 n (wh.set x.toNat c)=(Zl3 n wh).erase x.toNat:=by
  have hn:(Zl3 n wh).Nodup:=(List.nodup_range).filter _
  rw [hn.erase_eq_filter]
  unfold Zl3
  rw [List.filter_filter]
  refine List.filter_congr fun i hi=>?_
  rw [Zce ow]
  by_cases e:i=x.toNat
  ·rw [Ye e];simp [e,hc]
  ·rw [Yb e];simp [e]
 have hm:x.toNat ∈ Zl3 n wh:=YV.2 ⟨YaX.2 hlt,by simpa using h0⟩
 rw [e]
 have hp:=(List.perm_cons_erase hm).map f
 have:=hp.sum_nat
 rw [this,YQ,List.sum_cons,Nat.add_comm]
theorem ZgU {n:Nat} {l:List Int} {i j:Int} {on:Bool} (hi:0≤i∧i<n):j ∈ putL l n i on ↔ (j≠i∧j ∈ l)∨(j=i∧on=true):=by
 have e:(!on || decide (i<0) || decide ((n:Int)≤i)) = !on:=by
  rw [YI ow,YI ow,Bool.or_false,Bool.or_false]
 unfold putL
 rw [Zdr,e]
 simp
theorem ZjR {n:Nat} {l:List Int} {i:Int} {on:Bool} (h:Up n l) (hi:0≤i∧i<n):Up n (putL l n i on):=by
 refine ⟨?_,fun j hj=>?_⟩
 ·unfold putL;exact Zjx _ _ _ h.1
 ·rcases (ZgU hi).1 hj with h1 | h1
  ·exact h.2 j h1.2
  ·rw [h1.1];exact hi
section
variable {n:Nat} {adj:Int→List Int} {s:ZdY} {way:Znd} {v x:Int} {next:List Int}
theorem TI.zero (n:Nat) (adj:Int→List Int):TI n adj ⟨List.replicate n 0,List.replicate n 0,[],[],0,List.replicate n 0⟩ []:=by
 have e:fI (List.replicate n 0)=fun _=>0:=by
  funext y
  unfold fI
  split
  ·by_cases h:y.toNat<n
   ·rw [nth_eq (by simpa using h)];simp
   ·unfold Nn;simp [Yat,show n≤y.toNat by omega]
  ·rfl
 have hu:Zl3 n (List.replicate n 0)=List.range n:=Ya5.2 fun i hi=>by
  rw [nth_eq (by simpa using hi)];simp
 refine ⟨?_,by simp,by simp,by simp,by simp,⟨.nil,by simp⟩,by simp,?_⟩
 ·show Tj adj (fI (List.replicate n 0)) _ _ 0 [] []
  rw [e];exact Tj.zero
 ·show (0:Int)+((Zl3 n (List.replicate n 0)).length:Int)=n
  rw [hu];simp
theorem Zqq (hx:0≤x∧x<n) (h:TI n adj s way) (h0:fI s.wh x=0):(ZeC n s x).ck+(Zl3 n (ZeC n s x).wh).length=n∧muU n adj (ZeC n s x).wh+((adj x).length+2)=muU n adj s.wh:=by
 rw [Zct hx.1] at h0
 have hc:s.ck+1≠0:=by have:=(h.tj.vis x);omega
 have h1:=ZjA h.lw hx h0 hc (fun _=>1)
 have h2:=ZjA h.lw hx h0 hc (fun i:Nat=>(adj (i:Int)).length+2)
 have e:∀ l:List Nat,(l.map fun _=>1).sum=l.length:=fun l=>by
  induction l with
  | nil=>rfl
  | cons y l ih=>rw [YQ,List.sum_cons,ih,Yl];omega
 rw [e,e] at h1
 have hx2:((x.toNat:Nat):Int)=x:=by omega
 rw [hx2] at h2
 have:=h.cnt
 unfold ZeC muU
 dsimp only
 exact ⟨by omega,h2⟩
theorem Zmj (hx:0≤x∧x<n) (h:TI n adj s way):(∀ u ∈ (ZeC n s x).wait,0≤u∧u<n)∧Up n (ZeC n s x).inn ∧ ∀ u,u ∈ (ZeC n s x).inn ↔ u ∈ (ZeC n s x).wait:=by
 refine ⟨fun u hu=>?_,ZjR h.up hx,fun u=>?_⟩
 ·rcases YA.1 hu with h1 | h1
  ·exact h.rng u h1
  ·rw [Yi.1 h1];exact hx
 ·show u ∈ putL s.inn n x true ↔ u ∈ s.wait ++ [x]
  rw [ZgU hx,h.mem u,YA,Yi]
  by_cases e:u=x
  ·simp [e]
  ·simp [e]
theorem TI.first (hx:0≤x∧x<n) (h:TI n adj s []) (h0:fI s.wh x=0):TI n adj (ZeC n s x) [(x,adj x)]:=by
 have hw:s.wait = []:=by
  cases hc:s.wait with
  | nil=>rfl
  | cons y l=>
   obtain ⟨r,hr,_⟩:=h.tj.root y (YaC.2 (by rw [hc];simp))
   cases hr
 have htj:=h.tj
 rw [hw] at htj
 obtain ⟨r1',r2',r3'⟩:=Zmj hx h
 refine ⟨?_,by simp [ZeC,h.lw],by simp [ZeC,h.ll],h.lout,r1',r2',r3',(Zqq hx h h0).1⟩
 show Tj adj (fI (s.wh.set _ _)) (fI (s.lo.set _ _)) _ _ (s.wait ++ [x]).reverse _
 rw [hw,ZdB (by rw [h.lw];exact hx),ZdB (by rw [h.ll];exact hx)]
 exact htj.first h0
theorem TI.wait (hv:0≤v∧v<n) (h:TI n adj s (way ++ [(v,x :: next)])) (hx:x ∈ s.inn):TI n adj { s with lo:=s.lo.set v.toNat (min (fI s.lo v) (fI s.wh x)) } (way ++ [(v,next)]):=by
 have htj:=h.tj
 rw [YaL] at htj
 refine ⟨?_,h.lw,by simp [h.ll],h.lout,h.rng,h.up,h.mem,h.cnt⟩
 show Tj adj _ (fI (s.lo.set _ _)) _ _ _ _
 rw [ZdB (by rw [h.ll];exact hv),YaL]
 exact htj.pass (.inr ⟨YaC.2 ((h.mem x).1 hx),rfl⟩)
def partL (wait:List Int) (v:Int):List Int:=(wait.reverse.takeWhile fun y=>decide (y≠v)) ++ [v]
def keepL (wait:List Int) (v:Int):List Int:=((wait.reverse.dropWhile fun y=>decide (y≠v)).drop 1).reverse
theorem Zk8 {wait:List Int} {v:Int} (h:v ∈ wait):wait.reverse=(wait.reverse.takeWhile fun y=>decide (y≠v))++v :: (keepL wait v).reverse:=by
 have h1:=List.takeWhile_append_dropWhile (p:=fun y=>decide (y≠v)) (l:=wait.reverse)
 have h2:∃ t,wait.reverse.dropWhile (fun y=>decide (y≠v))=v :: t:=by
  have key:∀ l:List Int,v ∈ l → ∃ t,l.dropWhile (fun y=>decide (y≠v))=v :: t:=by
   intro l
   induction l with
   | nil=>intro h;cases h
   | cons y l ih=>
    intro h
    by_cases e:y=v
    ·rw [List.dropWhile_cons_of_neg (by simpa using e),e];exact ⟨l,rfl⟩
    ·rw [List.dropWhile_cons_of_pos (by simpa using e)]
     exact ih ((Yk.1 h).resolve_left fun h9=>e h9.symm)
  exact key _ (YaC.2 h)
 obtain ⟨t,h2⟩:=h2
 unfold keepL
 rw [h2] at h1 ⊢
 rw [List.reverse_reverse]
 exact h1.symm
def Zs0 (m:Int) (l:List Int):Prop:=m ∈ l ∧ ∀ x ∈ l,m≤x
def outL (part:List Int) (m:Int) (out:List Int):List Int:=part.foldl (fun o y=>o.set y.toNat m) out
def innL (n:Nat) (part:List Int) (inn:List Int):List Int:=part.foldl (fun l y=>putL l n y false) inn
theorem ZkS (m:Int):∀ (part out:List Int),(outL part m out).length=out.length
 | [],out=>rfl
 | y :: part,out=>by
  have:=ZkS m part (out.set y.toNat m)
  rw [YR] at this
  exact this
theorem ZmE (m:Int):∀ (part out:List Int),(∀ y ∈ part,0≤y∧y<out.length)→fI (outL part m out)=fun u=>if u ∈ part then m else fI out u
 | [],out,_=>by funext u;simp [outL]
 | y :: part,out,h=>by
  have h1:=h y (by simp)
  have ih:=ZmE m part (out.set y.toNat m) fun z hz=>by rw [YR];exact h z (by simp [hz])
  have e:outL (y :: part) m out=outL part m (out.set y.toNat m):=rfl
  rw [e,ih,ZdB h1]
  funext u
  unfold ZiR
  by_cases e1:u ∈ part
  ·rw [Ye e1,Ye (by simp [e1])]
  ·rw [Yb e1]
   by_cases e2:u=y
   ·rw [Ye e2,Ye (by simp [e2])]
   ·rw [Yb e2,Yb (by simp [e1,e2])]
theorem Zng (n:Nat):∀ (part inn:List Int),(∀ y ∈ part,0≤y∧y<(n:Int))→Up n inn→Up n (innL n part inn) ∧ ∀ u,u ∈ innL n part inn ↔ u ∈ inn∧u ∉ part
 | [],inn,_,hu=>⟨hu,fun u=>by simp [innL]⟩
 | y :: part,inn,h,hu=>by
  have h1:=h y (by simp)
  obtain ⟨i1,i2⟩:=Zng n part (putL inn n y false) (fun z hz=>h z (by simp [hz])) (ZjR hu h1)
  have e:innL n (y :: part) inn=innL n part (putL inn n y false):=rfl
  rw [e]
  refine ⟨i1,fun u=>?_⟩
  rw [i2,ZgU h1]
  simp
  constructor
  ·rintro ⟨⟨h2,h3⟩,h4⟩;exact ⟨h3,h2,h4⟩
  ·rintro ⟨h3,h2,h4⟩;exact ⟨⟨h2,h3⟩,h4⟩
def Zru (n:Nat) (s:ZdY) (v m:Int):ZdY:={ s with wait:=keepL s.wait v,inn:=innL n (partL s.wait v) s.inn,out:=outL (partL s.wait v) m s.out }
theorem TI.part {m:Int} (h:TI n adj s (way ++ [(v,[])])) (hlo:fI s.lo v=fI s.wh v) (hm:Zs0 m (partL s.wait v)):TI n adj (Zru n s v m) way:=by
 have htj:=h.tj
 rw [YaL] at htj
 have hvw:v ∈ s.wait:=YaC.1 (htj.onst (v,[]) (by simp))
 have hsp:=Zk8 hvw
 rw [hsp] at htj
 have hpr:∀ y ∈ partL s.wait v,0≤y∧y<(n:Int):=fun y hy=>by
  refine h.rng y (YaC.1 ?_)
  rw [hsp]
  unfold partL at hy
  rcases YA.1 hy with h1 | h1
  ·exact Yae _ h1
  ·rw [Yi.1 h1];simp
 have hnew:=htj.part hlo hm.1 hm.2
 obtain ⟨i1,i2⟩:=Zng n (partL s.wait v) s.inn hpr h.up
 have hsub:∀ u ∈ keepL s.wait v,u ∈ s.wait:=fun u hu=>YaC.1 (by rw [hsp];simp [hu])
 refine ⟨?_,h.lw,h.ll,by show (outL _ _ _).length=n;rw [ZkS];exact h.lout,fun u hu=>h.rng u (hsub u hu),i1,fun u=>?_,h.cnt⟩
 ·show Tj adj (fI s.wh) (fI s.lo) (fI (outL (partL s.wait v) m s.out)) s.ck (keepL s.wait v).reverse way.reverse
  rw [ZmE m _ _ fun y hy=>by rw [h.lout];exact hpr y hy]
  exact hnew
 ·show u ∈ innL n (partL s.wait v) s.inn ↔ u ∈ keepL s.wait v
  rw [i2,h.mem]
  have hd:=htj.dec
  constructor
  ·rintro ⟨h1,h2⟩
   have h3:u ∈ s.wait.reverse:=YaC.2 h1
   rw [hsp] at h3
   unfold partL at h2
   rcases YA.1 h3 with h4 | h4
   ·exact absurd (Yae _ h4) h2
   ·rcases Yk.1 h4 with h4 | h4
    ·exact absurd (YU _ (by simp [h4])) h2
    ·exact YaC.1 h4
  ·intro hu
   refine ⟨hsub u hu,fun h2=>?_⟩
   have hur:u ∈ (keepL s.wait v).reverse:=YaC.2 hu
   obtain ⟨_,d2,d3⟩:=Ybg.1 hd
   unfold partL at h2
   rcases YA.1 h2 with h4 | h4
   ·have:=d3 u h4 u (YB _ hur);omega
   ·have:=(Yq.1 d2).1 u hur
    rw [Yi.1 h4] at this;omega
theorem TI.stay {u0:Int} {nx:List Int} (hu:0≤u0∧u0<n) (h:TI n adj s (way ++ [(u0,nx)] ++ [(v,[])])) (hlo:fI s.lo v≠fI s.wh v):TI n adj { s with lo:=s.lo.set u0.toNat (min (fI s.lo u0) (fI s.lo v)) } (way ++ [(u0,nx)]):=by
 have htj:=h.tj
 rw [YaL,YaL] at htj
 refine ⟨?_,h.lw,by simp [h.ll],h.lout,h.rng,h.up,h.mem,h.cnt⟩
 show Tj adj _ (fI (s.lo.set _ _)) _ _ _ _
 rw [ZdB (by rw [h.ll];exact hu),YaL]
 exact htj.stay hlo
theorem TI.root (h:TI n adj s [(v,[])]):fI s.lo v=fI s.wh v:=by
 have hvs:=h.tj.onst (v,[]) (by simp)
 obtain ⟨h1,w,hw,h2,_⟩:=h.tj.low v hvs
 obtain ⟨r,h3,h4⟩:=h.tj.root w hw
 have:r=(v,[]):=by simpa using h3.symm
 rw [this] at h4
 have h4:fI s.wh v≤fI s.wh w:=h4
 omega
theorem TI.same {u0:Int} {nx:List Int} (h:TI n adj s (way ++ [(u0,nx)] ++ [(v,[])])) (hlo:fI s.lo v=fI s.wh v):min (fI s.lo u0) (fI s.lo v)=fI s.lo u0:=by
 have htj:=h.tj
 rw [YaL,YaL] at htj
 have h1:=htj.above.1
 have h2:=(htj.low u0 (htj.onst (u0,nx) (by simp))).1
 omega
end
theorem ZqB {P:Int→Prop} (h0:∀ x,P x→0≤x) {u:Int} (hu:P u):∃ m,P m ∧ ∀ x,P x→m≤x:=by
 apply YaI
 intro hn
 have key:∀ k:Nat,∀ x,P x→(k:Int)≤x:=by
  intro k
  induction k with
  | zero=>intro x hx;exact h0 x hx
  | succ k ih=>
   intro x hx
   have h1:=ih x hx
   by_cases e:x=k
   ·exact absurd ⟨x,hx,fun y hy=>by have:=ih y hy;omega⟩ hn
   ·omega
 have h1:=key (u.toNat+1) u hu
 have h2:=h0 u hu
 omega
theorem Znn {P:Nat→Int→Prop} : ∀ n:Nat,(∀ u,u<n → ∃ m,P u m) → ∃ L:List Int,L.length=n ∧ ∀ u,u<n→P u (Nn L u)
 | 0,_=>⟨[],rfl,fun u hu=>absurd hu (Y9 u)⟩
 | n+1,h=>by
  obtain ⟨L,h1,h2⟩:=Znn n fun u hu=>h u ow
  obtain ⟨m,hm⟩:=h n ow
  refine ⟨L ++ [m],by simp [h1],fun u hu=>?_⟩
  rw [nth_eq (by simp;omega)]
  by_cases e:u<n
  ·rw [List.getElem_append_left ow,← nth_eq ow];exact h2 u e
  ·have e:u=L.length:=by omega
   subst e
   rw [List.getElem_append_right ow];simpa [h1] using hm
def ZrD (adj:Int→List Int) (n:Nat) (L:List Int):Prop:=L.length=n ∧ ∀ u:Nat,u<n→Zn2 adj (u:Int) (Nn L u)
theorem Zn2.one {adj:Int→List Int} {u a b:Int} (h:Zn2 adj u a) (k:Zn2 adj u b):a=b:=Int.le_antisymm (h.2 b k.1) (k.2 a h.1)
theorem Zm7.symm {adj:Int→List Int} {u x:Int} (h:Zm7 adj u x):Zm7 adj x u:=h.elim (fun e=>.inl e.symm) fun e=>.inr ⟨e.2,e.1⟩
theorem Zm7.trans {adj:Int→List Int} {u x y:Int} (h:Zm7 adj u x) (k:Zm7 adj x y):Zm7 adj u y:=by
 rcases h with rfl | ⟨h1,h2⟩
 ·exact k
 ·rcases k with rfl | ⟨k1,k2⟩
  ·exact .inr ⟨h1,h2⟩
  ·exact .inr ⟨h1.trans k1,k2.trans h2⟩
theorem Zn2.same {adj:Int→List Int} {u v a b:Int} (h:Zn2 adj u a) (k:Zn2 adj v b):a=b ↔ Zm7 adj u v:=by
 constructor
 ·intro e;subst e;exact h.1.trans k.1.symm
 ·intro m
  exact Int.le_antisymm (h.2 b (m.trans k.1)) (k.2 a (m.symm.trans h.1))
theorem ZrD.one {adj:Int→List Int} {n:Nat} {L M:List Int} (h:ZrD adj n L) (k:ZrD adj n M):L=M:=by
 refine ZaK (by rw [h.1,k.1]) fun j hj=>?_
 rw [h.1] at hj
 exact (h.2 j hj).one (k.2 j hj)
theorem Zi9 {n:Nat} {l:List Int} (hnd:l.Nodup) (h:∀ y ∈ l,0≤y∧y<n):l.length≤n:=by
 have hn2:l.Nodup→(∀ y ∈ l,y ∈ (List.range n).map fun i:Nat=>(i:Int))→l.length≤((List.range n).map fun i:Nat=>(i:Int)).length:=fun a b=>List.Nodup.length_le_of_subset a b
 have:=hn2 hnd fun y hy=>Yv.2 ⟨y.toNat,YaX.2 (by have:=h y hy;omega),by have:=h y hy;omega⟩
 simpa using this
def Ztn:List Int→Int
 | []=>0
 | x :: l=>l.foldl min x
theorem ZmU {l:List Int} (h:l≠[]):Zs0 (Ztn l) l:=by
 have key:∀ (l:List Int) (x:Int),(l.foldl min x=x∨l.foldl min x ∈ l)∧l.foldl min x≤x ∧ ∀ y ∈ l,l.foldl min x≤y:=by
  intro l
  induction l with
  | nil=>intro x;exact ⟨.inl rfl,Yaj _,by simp⟩
  | cons a l ih=>
   intro x
   obtain ⟨h1,h2,h3⟩:=ih (min x a)
   rw [Yav]
   refine ⟨?_,by omega,fun y hy=>?_⟩
   ·rcases h1 with h1 | h1
    ·rw [h1]
     by_cases e:x≤a
     ·left;omega
     ·right;have:min x a=a:=by omega
      rw [this];simp
    ·right;simp [h1]
   ·rcases Yk.1 hy with rfl | hy
    ·omega
    ·exact h3 y hy
 cases l with
 | nil=>exact absurd rfl h
 | cons x l=>
  obtain ⟨h1,h2,h3⟩:=key l x
  refine ⟨?_,fun y hy=>?_⟩
  ·show l.foldl min x ∈ x :: l
   rcases h1 with h1 | h1
   ·rw [h1];simp
   ·simp [h1]
  ·rcases Yk.1 hy with rfl | hy
   ·exact h2
   ·exact h3 y hy
def leaveD (n:Nat) (s:ZdY) (v:Int):ZdY:=if fI s.lo v=fI s.wh v then Zru n s v (Ztn (partL s.wait v)) else s
theorem Zh4 (n:Nat) (s:ZdY) (v:Int):(leaveD n s v).wh=s.wh∧(leaveD n s v).lo=s.lo:=by unfold leaveD;split <;> exact ⟨rfl,rfl⟩
theorem Zki (w:List Int) (v:Int):partL w v≠[]:=by unfold partL;simp
section
variable {n:Nat} {adj:Int→List Int} {s:ZdY} {way:Znd} {v u:Int} {nx:List Int}
theorem Zpu {l:List Int} {i:Nat} : l.set i (Nn l i)=l:=by
 apply YaT (by simp)
 intro j h1 h2
 rw [YbJ]
 split
 ·rename_i e;subst e;rw [nth_eq h2]
 ·rfl
theorem TI.leftRoot (h:TI n adj s [(v,[])]):TI n adj (leaveD n s v) []:=by
 unfold leaveD
 rw [Ye h.root]
 exact TI.part (way:=[]) h h.root (ZmU (Zki _ _))
theorem TI.left (hu:0≤u∧u<n) (h:TI n adj s (way ++ [(u,nx)] ++ [(v,[])])):TI n adj { leaveD n s v with lo:=(leaveD n s v).lo.set u.toNat (min (fI s.lo u) (fI s.lo v)) } (way ++ [(u,nx)]):=by
 unfold leaveD
 by_cases e:fI s.lo v=fI s.wh v
 ·rw [Ye e]
  have h1:=TI.part (way:=way ++ [(u,nx)]) h e (ZmU (Zki _ _))
  have h2:=h.same e
  rw [h2,Zct hu.1]
  have:(Zru n s v (Ztn (partL s.wait v))).lo=s.lo:=rfl
  rw [this,Zpu]
  exact h1
 ·rw [Yb e];exact h.stay hu e
theorem TI.nodes (h:TI n adj s way):∀ r ∈ way,r.1 ∈ s.wait∧0≤r.1∧r.1<n:=fun r hr=>by
 have:=YaC.1 (h.tj.onst r (YaC.2 hr))
 exact ⟨this,h.rng _ this⟩
theorem ZgP (way:Znd) (r:Int×List Int):muW (way ++ [r])=muW way+(r.2.length+1):=by
 unfold muW;simp
end
def FrI (n:Nat) (adj:Int→List Int) (w0:List Int) (x:Int) (q:ZdY) (way:Znd):Prop:=TI n adj q way∧fI q.wh x≠0 ∧ ∀ y,fI w0 y≠0→fI q.wh y≠0
def muF (n:Nat) (adj:Int→List Int) (q:ZdY) (way:Znd):Nat:=muW way+muU n adj q.wh
section
variable {n:Nat} {adj:Int→List Int} {w0:List Int} {x:Int} {q:ZdY} {way:Znd} {v u y:Int} {nx nu:List Int}
theorem FrI.root (h:FrI n adj w0 x q [(v,[])]):FrI n adj w0 x (leaveD n q v) []∧muF n adj (leaveD n q v) [] < muF n adj q [(v,[])]:=by
 obtain ⟨h1,h2,h3⟩:=h
 have e:=(Zh4 n q v).1
 refine ⟨⟨h1.leftRoot,by rw [e];exact h2,fun y hy=>by rw [e];exact h3 y hy⟩,?_⟩
 unfold muF muW
 rw [e];simp
theorem FrI.left (h:FrI n adj w0 x q (way ++ [(u,nu)] ++ [(v,[])])):FrI n adj w0 x { leaveD n q v with lo:=(leaveD n q v).lo.set u.toNat (min (fI q.lo u) (fI q.lo v)) } (way ++ [(u,nu)])∧muF n adj { leaveD n q v with lo:=(leaveD n q v).lo.set u.toNat (min (fI q.lo u) (fI q.lo v)) } (way ++ [(u,nu)])<muF n adj q (way ++ [(u,nu)] ++ [(v,[])]):=by
 obtain ⟨h1,h2,h3⟩:=h
 have e:=(Zh4 n q v).1
 refine ⟨⟨h1.left (h1.nodes (u,nu) (by simp)).2,by show fI (leaveD n q v).wh x≠0;rw [e];exact h2,fun y hy=>by show fI (leaveD n q v).wh y≠0;rw [e];exact h3 y hy⟩,?_⟩
 show muW _+muU n adj (leaveD n q v).wh<muW _+muU n adj q.wh
 rw [e,ZgP (way ++ [(u,nu)])];omega
theorem FrI.wait (h:FrI n adj w0 x q (way ++ [(v,y :: nx)])) (hx:y ∈ q.inn):FrI n adj w0 x { q with lo:=q.lo.set v.toNat (min (fI q.lo v) (fI q.wh y)) } (way ++ [(v,nx)])∧muF n adj { q with lo:=q.lo.set v.toNat (min (fI q.lo v) (fI q.wh y)) } (way ++ [(v,nx)])<muF n adj q (way ++ [(v,y :: nx)]):=by
 obtain ⟨h1,h2,h3⟩:=h
 refine ⟨⟨h1.wait (h1.nodes (v,y :: nx) (by simp)).2 hx,h2,h3⟩,?_⟩
 show muW _+muU n adj q.wh<muW _+muU n adj q.wh
 rw [ZgP,ZgP,Yl];dsimp only;omega
end
end Go.Proofs.YtlkpllemoepamaaGreat
