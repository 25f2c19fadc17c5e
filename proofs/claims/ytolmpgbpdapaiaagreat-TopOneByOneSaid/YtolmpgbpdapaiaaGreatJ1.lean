/- Laws and walks. No condition beyond what each says. -/
import Derived.Test.YtolmpgbpdapaiaaGreatJ0
import Derived.Test.YtolmpgbpdapaiaaGreatLibE
namespace Go.Proofs.YtolmpgbpdapaiaaGreat
open Go Go.Gm Tryz
set_option linter.unusedVariables false
set_option linter.unusedSimpArgs false
set_option maxHeartbeats 4000000
set_option maxRecDepth 8000
structure ZhY where
 kind:Int
 tx:TxD
 order:OrdD
 key:Int
 id:Int
 place:Int
 phen:Int
 deriving DecidableEq,Inhabited
structure Zu5 where
 s:List UInt8
 least:Int
 most:Int
def Zjz (c:ZhY):List PV:=[.int .i64 c.kind,.int .i64 c.tx.id,.bool c.tx.done,.sl rOp c.tx.ops,.int .i64 c.order.key,.sl Zq c.order.txs,.int .i64 c.key,.int .i64 c.id,.int .i64 c.place,.int .i64 c.phen]
def rWd (d:Zu5):List PV:=[.bs d.s,.int .i64 d.least,.int .i64 d.most]
def zeroT:TxD:=⟨0,false,[]⟩
def zeroC (k:Int):ZhY:=⟨k,zeroT,⟨0,[]⟩,0,0,0,0⟩
def ZwA:List UInt8:=[97,100,100]
def ZwE:List UInt8:=[115,101,116]
def Zwv:List UInt8:=[100,101,108]
def Zww:List UInt8:=[111,114,100]
def Zwp:List UInt8:=[109,111,118]
def ZvT:List UInt8:=[117,110,100,111]
def ZvM:List UInt8:=[114,101,100,111]
def Zwz:List UInt8:=[97,115,107]
def Zwx:List UInt8:=[119,104,121]
def ZvV:List UInt8:=[116,101,108,108]
def ZvK:List UInt8:=[115,105,122,101]
def Zv0:List UInt8:=[100,117,109,112]
def Z3 (k:Int):Zu5:=
 if k=1 then ⟨ZwA,3,1073741824⟩ else if k=2 then ⟨ZwE,3,1073741824⟩ else if k=3 then ⟨Zwv,2,2⟩ else if k=4 then ⟨Zww,2,1073741824⟩
 else if k=5 then ⟨Zwp,4,4⟩ else if k=6 then ⟨ZvT,1,1⟩ else if k=7 then ⟨ZvM,1,1⟩ else if k=8 then ⟨Zwz,1,1⟩
 else if k=9 then ⟨Zwx,2,2⟩ else if k=10 then ⟨ZvV,2,2⟩ else if k=11 then ⟨ZvK,1,1⟩ else if k=12 then ⟨Zv0,1,1⟩ else ⟨[],0,0⟩
def Zrw (w:List UInt8):Nat→Nat→Int
 | _,0=>0
 | i,n+1=>if (Z3 (i:Int)).s=w then (i:Int) else Zrw w (i+1) n
def Zcq (p:Int):List UInt8:=if p=1 then [103,48] else if p=2 then [103,49,97] else if p=3 then [103,49,98] else if p=4 then [103,49,99] else if p=5 then [103,50] else []
def ZjT (p:Int):List UInt8:=if p=1 then [71,48] else if p=2 then [71,49,97] else if p=3 then [71,49,98] else if p=4 then [71,49,99] else if p=5 then [71,50,45,105,116,101,109] else []
def ZkW (w:List UInt8):Nat→Nat→Int
 | _,0=>0
 | i,n+1=>if Zcq (i:Int)=w then (i:Int) else ZkW w (i+1) n
def Zwd (w:List UInt8):Int:=ZkW w 1 5
def usedR (c:ZhY):ZhY:=
 if c.kind=1∨c.kind=2 then {zeroC c.kind with tx:=c.tx} else if c.kind=3∨c.kind=10 then {zeroC c.kind with id:=c.id} else if c.kind=4 then {zeroC c.kind with order:=c.order}
 else if c.kind=5 then {zeroC c.kind with key:=c.key,id:=c.id,place:=c.place} else if c.kind=9 then {zeroC c.kind with phen:=c.phen} else zeroC c.kind
def Ztk (n:Int):Bool:=decide (0≤n) && decide (n≤2147483647)
def Zcf (c:ZhY):List Int:=[c.tx.id,c.id,c.order.key,c.key,c.place] ++ c.order.txs
def ZmB (c:ZhY):Prop:=(Z3 c.kind).s≠[]∧c=usedR c∧c.tx.ops.length≤4095∧¬ (c.kind=9∧Zcq c.phen = [])
instance (c:ZhY):Decidable (ZmB c):=by unfold ZmB;exact inferInstance
def Zbh (c:ZhY):Bool:=decide (ZmB c) && ((Zcf c).all Ztk && c.tx.ops.all Z1)
def Ze8 (l:List OpD):List UInt8:=l.flatMap fun o=>32 :: Zao o
def Zcr (t:TxD):List UInt8:=textL t.id++(if t.done=true then [32,99] else [32,97])
def ZfE (t:TxD):List UInt8:=Zcr t++Ze8 t.ops
def ZaI (c:ZhY):List (List UInt8):=
 if c.kind=1∨c.kind=2 then [ZfE c.tx] else if c.kind=3∨c.kind=10 then [textL c.id] else if c.kind=4 then [Zdy (c.order.key :: c.order.txs)]
 else if c.kind=5 then [Zdy [c.key,c.id,c.place]] else if c.kind=9 then [Zcq c.phen] else []
def ZeE (c:ZhY):List UInt8:=if Zbh c=false then [] else ZaP ((Z3 c.kind).s :: ZaI c)
theorem Ztx (u v:ZhY):(((((((decide (u.kind=v.kind) && decide (u.tx=v.tx)) && decide (u.order.key=v.order.key)) && decide (u.order.txs=v.order.txs)) && decide (u.key=v.key)) && decide (u.id=v.id)) && decide (u.place=v.place)) && decide (u.phen=v.phen))=decide (u=v):=by
 obtain ⟨a1,a2,⟨a3,a4⟩,a5,a6,a7,a8⟩:=u
 obtain ⟨b1,b2,⟨b3,b4⟩,b5,b6,b7,b8⟩:=v
 rw [Yau]
 simp [and_assoc]
theorem kinds {k:Int} (h:1≤k∧k≤12):k=1∨k=2∨k=3∨k=4∨k=5∨k=6∨k=7∨k=8∨k=9∨k=10∨k=11∨k=12:=by omega
theorem Znp {k:Int} (h:(Z3 k).s≠[]):1≤k∧k≤12:=by
 rcases Classical.em (1≤k∧k≤12) with hk | hk
 ·exact hk
 ·exfalso
  apply h
  unfold Z3
  rw [Yb ow,Yb ow,Yb ow,Yb ow,Yb ow,Yb ow,Yb ow,Yb ow,Yb ow,Yb ow,Yb ow,Yb ow]
theorem Zo1 {p:Int} (h:Zcq p≠[]):(1≤p∧p≤5)∧Zwd (Zcq p)=p:=by
 have hp:1≤p∧p≤5:=by
  rcases Classical.em (1≤p∧p≤5) with hk | hk
  ·exact hk
  ·exfalso
   apply h
   unfold Zcq
   rw [Yb ow,Yb ow,Yb ow,Yb ow,Yb ow]
 refine ⟨hp,?_⟩
 have:p=1∨p=2∨p=3∨p=4∨p=5:=ow
 rcases this with rfl | rfl | rfl | rfl | rfl <;> decide +kernel
theorem ZeY:∀ l:List OpD,(Ze8 l).length≤101*l.length
 | []=>by simp [Ze8]
 | o :: l=>by
  have h1:=ZeY l
  have h2:(Zao o).length≤100:=by
   by_cases hk:Z1 o=true
   ·exact ZiD hk
   ·unfold Zao;rw [Ye W7];simp
  unfold Ze8 at h1 ⊢
  rw [Y0,Yc,Yh,Yh,Nat.mul_add]
  omega
theorem Zig {l:List OpD} {i:Nat} (h:i<l.length):Ze8 (l.take (i+1))=Ze8 (l.take i)++32 :: Zao (Nn l i):=by
 unfold Ze8
 rw [YaW h,Y2,nth_eq h]
 simp
theorem Zh8 {n:Int} : Ztk n=true ↔ 0≤n∧n≤2147483647:=by unfold Ztk;rw [Yw,Yl,Yl]
def Zbg (l:List TxD):Prop:=l.length≤1000 ∧ ∀ t ∈ l,t.ops.length≤1000
def ZiU (l:List OrdD):Prop:=l.length≤4000 ∧ ∀ o ∈ l,o.txs.length≤1000
def Zcj (h:Zl):Prop:=Zbg h.txs∧ZiU h.orders
theorem Zbg.at {l:List TxD} (h:Zbg l) {i:Nat} (hi:i<l.length):(Nn l i).ops.length≤1000:=h.2 _ (nth_mem hi)
theorem ZiU.at {l:List OrdD} (h:ZiU l) {i:Nat} (hi:i<l.length):(Nn l i).txs.length≤1000:=h.2 _ (nth_mem hi)
def ZaM (l:List TxD) (id:Int):Option TxD:=l.find? fun t=>decide (t.id=id)
theorem ZrN {l:List TxD} {id:Int} {i:Nat} (hi:i<l.length) (h:(Nn l i).id=id) (hq:∀ k,k<i→(Nn l k).id≠id):ZaM l id=some (Nn l i):=by
 unfold ZaM
 rw [List.find?_eq_some_iff_getElem]
 refine ⟨by simpa using h,i,hi,(nth_eq hi).symm,fun j hj=>?_⟩
 have:=hq j hj
 rw [nth_eq ow] at this
 simpa using this
theorem Zl7 {l:List TxD} {id:Int} (hq:∀ k,k<l.length→(Nn l k).id≠id):ZaM l id=none:=by
 unfold ZaM
 rw [List.find?_eq_none]
 intro x hx
 obtain ⟨k,hk,e⟩:=YR hx
 have:=hq k hk
 rw [nth_eq hk,e] at this
 simpa using this
theorem findT_mem {l:List TxD} {id:Int} {t:TxD} (h:ZaM l id=some t):t ∈ l∧t.id=id:=⟨List.mem_of_find?_eq_some h,by have:=List.find?_some h;simpa using this⟩
def ZrQ (h:Zl) (v:Zaz):Bool:=if v.tx=0∧v.nth=0 then decide (1≤v.key∧v.key≤1048575) else (ZaM h.txs v.tx).isSome && (decide (1≤v.nth) && decide (v.nth≤(wcnt ((ZaM h.txs v.tx).getD zeroT).ops v.key:Int)))
def ZkT (h:Zl) (t:TxD):Bool:=(Zjj t).all (ZrQ h)
def ZH (t:TxD):List Int:=ZcF ((t.ops.filter fun o=>!o.read).map OpD.key)
theorem Zba {t:TxD} {k:Int} : k ∈ ZH t ↔ 0<wcnt t.ops k:=by
 unfold ZH
 rw [(Zas _).2,YB]
 unfold wcnt
 rw [List.length_pos_iff_exists_mem]
 constructor
 ·rintro ⟨o,ho,e⟩
  rw [YK] at ho
  exact ⟨o,by rw [YK];exact ⟨ho.1,by simp [e];simpa using ho.2⟩⟩
 ·rintro ⟨o,ho⟩
  rw [YK] at ho
  simp at ho
  exact ⟨o,by rw [YK];simp [ho.1,ho.2.1],ho.2.2⟩
theorem Zcu (t:TxD):(ZH t).length≤t.ops.length:=Yaa (Zir _) (by rw [YJ];exact Yac _ _)
def ZQ (l:List TxD) (k:Int):List Int:=(l.filter fun t=>t.done && decide (0<wcnt t.ops k)).map TxD.id
theorem Zev (l:List TxD) (k:Int):(ZQ l k).length≤l.length:=by unfold ZQ;rw [YJ];exact Yac _ _
theorem Zdv {l:List TxD} {i:Nat} (hi:i<l.length) (k:Int):ZQ (l.take (i+1)) k=ZQ (l.take i) k++if (Nn l i).done=true∧0<wcnt (Nn l i).ops k then [(Nn l i).id] else []:=by
 unfold ZQ
 rw [Zy hi,Yai,Y3]
 congr 1
 by_cases h:(Nn l i).done=true∧0<wcnt (Nn l i).ops k
 ·rw [Ye h,YT (by simp [h.1,h.2])];rfl
 ·rw [Yb h,Y9 (by simp;intro e;exact Nat.eq_zero_of_not_pos fun e2=>h ⟨e,e2⟩)];rfl
def Zb8 (l:List TxD):List Int:=ZcF ((l.filter fun t=>t.done).flatMap ZH)
theorem Zre {l:List TxD} (h:Zbg l) (i:Nat):(Zb8 (l.take i)).length≤1000*i:=by
 unfold Zb8
 refine Yaa (Zir _) ?_
 have key:∀ l:List TxD,(∀ t ∈ l,t.ops.length≤1000)→((l.filter fun t=>t.done).flatMap ZH).length≤1000*l.length:=by
  intro l
  induction l with
  | nil=>intro _;simp
  | cons t l ih=>
   intro h
   have h1:=ih fun x hx=>h x XO
   have h2:=h t XM
   have h3:=Zcu t
   by_cases hd:t.done=true
   ·rw [YT (by simpa using hd),Y0,Yc,Yh]
    omega
   ·rw [Y9 (by simpa using hd),Yh]
    omega
 have h1:=key (l.take i) fun t ht=>h.2 t (Yaw ht)
 have h2:(l.take i).length≤i:=Wm
 exact Yaa h1 (Ybi _ h2)
theorem ZnU {l:List TxD} (h:Zbg l):(Zb8 l).length≤1000000:=by
 have h1:=Zre h l.length
 rw [YE] at h1
 have:=h.1
 omega
theorem ZcK {l:List TxD} {k:Int} : k ∈ Zb8 l ↔ ZQ l k≠[]:=by
 unfold Zb8
 rw [(Zas _).2,YaK]
 unfold ZQ
 rw [ne_eq,List.map_eq_nil_iff,Ybk]
 constructor
 ·rintro ⟨t,ht,hk⟩ hn
  rw [YK] at ht
  have:=hn t ht.1
  simp [ht.2] at this
  have:=Zba.1 hk
  simp_all
 ·intro hn
  simp only [Classical.not_forall] at hn
  obtain ⟨t,ht,h2⟩:=hn
  simp at h2
  exact ⟨t,by rw [YK];exact ⟨ht,by simpa using h2.1⟩,Zba.2 (Nat.pos_of_ne_zero h2.2)⟩
def Zm4 (h:Zl) (i:Nat):Prop:=(0<i→(Nn h.txs (i - 1)).id<(Nn h.txs i).id)∧ZaU (Nn h.txs i)=0∧ZkT h (Nn h.txs i)=true
instance (h:Zl) (i:Nat):Decidable (Zm4 h i):=by unfold Zm4;exact inferInstance
def ZrV (h:Zl) (i:Nat):Prop:=(Nn h.orders i).key=Nn (Zb8 h.txs) i∧(Nn h.orders i).txs.Perm (ZQ h.txs (Nn h.orders i).key)
instance (h:Zl) (i:Nat):Decidable (ZrV h i):=by unfold ZrV;exact inferInstance
def ZA (h:Zl):Prop:=h.txs.length≤4096∧(∀ i,i<h.txs.length→Zm4 h i)∧h.orders.length=(Zb8 h.txs).length ∧ ∀ i,i<h.orders.length→ZrV h i
instance (h:Zl):Decidable (ZA h):=by unfold ZA;exact inferInstance
def Zfd (h:Zl) (i:Nat):Prop:=(0<i→(Nn h.orders (i - 1)).key<(Nn h.orders i).key)∧(Nn h.orders i).txs≠[]∧(Nn h.orders i).txs.Perm (ZQ h.txs (Nn h.orders i).key)
theorem ZfT:∀ {l:List Int},(∀ i,i<l.length→0<i→Nn l (i - 1)<Nn l i)→Zff l
 | [],_=>List.Pairwise.nil
 | [x],_=>by simp
 | x :: y :: l,h=>by
  have ih:=ZfT (l:=y :: l) fun i hi h0=>by
   have:=h (i+1) XP ow
   obtain ⟨j,rfl⟩:∃ j,i=j+1:=⟨i - 1,ow⟩
   have hj:j<l.length:=XP
   rw [nth_eq (l:=x :: y :: l) XT,nth_eq (l:=x :: y :: l) XT] at this
   rw [nth_eq (l:=y :: l) XT,nth_eq (l:=y :: l) XT]
   exact this
  have h1:=h 1 XM ow
  rw [nth_eq XM,nth_eq XM] at h1
  simp at h1
  have ih2:=Yu.1 ih
  refine Yu.2 ⟨fun z hz=>?_,ih⟩
  rcases Ym.1 hz with rfl | hz
  ·exact h1
  ·have:=ih2.1 z hz;omega
theorem ZtQ {l:List Int} (h:Zff l) {i:Nat} (hi:i<l.length) (h0:0<i):Nn l (i - 1)<Nn l i:=by
 rw [nth_eq hi,nth_eq ow]
 exact Y4.1 h (i - 1) i ow hi ow
theorem Zkh:∀ {b a:List Int},Zff a→Zff b→(∀ x ∈ a,x ∈ b)→a.length≤b.length∧(a.length=b.length→a=b)
 | [],a,_,_,h=>by
  have:a = []:=List.eq_nil_iff_forall_not_mem.2 fun x hx=>by cases h x hx
  subst this;simp
 | y :: b,[],_,_,_=>⟨by simp,fun h=>by simp at h⟩
 | y :: b,x :: a,ha,hb,h=>by
  have ha':=Yu.1 ha
  have hb':=Yu.1 hb
  by_cases e:x=y
  ·subst e
   have ih:=Zkh (b:=b) (a:=a) ha'.2 hb'.2 fun z hz=>by
    rcases Ym.1 (h z W8) with e | e
    ·have:=ha'.1 z hz;omega
    ·exact e
   exact ⟨by simp;exact ih.1,fun hl=>by rw [ih.2 (by simpa using hl)]⟩
  ·have hx:y<x:=by
    rcases Ym.1 (h x XM) with e2 | e2
    ·exact absurd e2 e
    ·exact hb'.1 x e2
   have ih:=Zkh (b:=b) (a:=x :: a) ha hb'.2 fun z hz=>by
    rcases Ym.1 (h z hz) with e2 | e2
    ·rcases Ym.1 hz with e3 | e3
     ·omega
     ·have:=ha'.1 z e3;omega
    ·exact e2
   exact ⟨by have:=ih.1;simp at this ⊢;omega,fun hl=>by have:=ih.1;simp at this hl;omega⟩
theorem Zcb {α β:Type} [Inhabited α] [Inhabited β] {f:α→β} {l:List α} {i:Nat} (h:i<l.length):Nn (l.map f) i=f (Nn l i):=by
 rw [nth_eq XL,nth_eq h];simp
theorem ZcQ (h:Zl):(h.orders.length=(Zb8 h.txs).length ∧ ∀ i,i<h.orders.length→Zfd h i) ↔ (h.orders.length=(Zb8 h.txs).length ∧ ∀ i,i<h.orders.length→ZrV h i):=by
 have hK:Zff (Zb8 h.txs):=(Zas _).1
 constructor
 ·rintro ⟨hl,hq⟩
  refine ⟨hl,?_⟩
  have hO:Zff (h.orders.map OrdD.key):=ZfT fun i hi h0=>by
   have hi':i<h.orders.length:=XP
   rw [Zcb ow,Zcb hi']
   exact (hq i hi').1 h0
  have hsub:∀ x ∈ h.orders.map OrdD.key,x ∈ Zb8 h.txs:=fun x hx=>by
   obtain ⟨o,ho,rfl⟩:=YB.1 hx
   obtain ⟨k,hk,e⟩:=YR ho
   have:=hq k hk
   unfold Zfd at this
   rw [nth_eq hk,e] at this
   rw [ZcK]
   intro e2
   rw [e2] at this
   exact this.2.1 (List.Perm.eq_nil this.2.2)
  have he:=(Zkh hO hK hsub).2 (by simpa using hl)
  intro i hi
  refine ⟨?_,(hq i hi).2.2⟩
  rw [← he,Zcb hi]
 ·rintro ⟨hl,hq⟩
  refine ⟨hl,fun i hi=>?_⟩
  have hin:(Nn h.orders i).key ∈ Zb8 h.txs:=by rw [(hq i hi).1];exact nth_mem ow
  refine ⟨fun h0=>?_,fun e=>?_,(hq i hi).2⟩
  ·rw [(hq i hi).1,(hq (i - 1) ow).1]
   exact ZtQ hK ow h0
  ·have:=(hq i hi).2
   rw [e] at this
   exact ZcK.1 hin this.symm.eq_nil
theorem Zgr {h:Zl} (hb:4096<h.txs.length):false=decide (ZA h):=(YO fun hr=>by have:=hr.1;omega).symm
theorem Zjc {h:Zl} {i:Nat} (hi:i<h.txs.length) (hb:¬ Zm4 h i):false=decide (ZA h):=(YO fun hr=>hb (hr.2.1 i hi)).symm
theorem ZhU {h:Zl} (hb:h.orders.length≠(Zb8 h.txs).length):false=decide (ZA h):=(YO fun hr=>hb hr.2.2.1).symm
theorem Zgs {h:Zl} {i:Nat} (hi:i<h.orders.length) (hb:¬ Zfd h i):false=decide (ZA h):=(YO fun hr=>hb (((ZcQ h).2 hr.2.2).2 i hi)).symm
theorem Zkl {h:Zl} (h1:h.txs.length≤4096) (h2:∀ i,i<h.txs.length→Zm4 h i) (h3:h.orders.length=(Zb8 h.txs).length) (h4:∀ i,i<h.orders.length→Zfd h i):true=decide (ZA h):=(YL ⟨h1,h2,(ZcQ h).1 ⟨h3,h4⟩⟩).symm
def Zue (l:List Int):Option (List Int):=if l = [] then none else some l
theorem ZlK (l:List Int):(Zue l).getD [] = l:=by
 unfold Zue
 split
 ·rename_i h;rw [h];rfl
 ·rfl
def WrL (es:List (GE Int (List Int))) (l:List TxD):Prop:=GNd es ∧ ∀ k,gGet k es=Zue (ZQ l k)
def WrV (es:List (GE Int (Value×List Int))) (l:List TxD) (id:Int) (ks:List Int):Prop:=GNd es ∧ ∀ k,(gGet k es).map (·.2)=Zue (ZQ l k++if k ∈ ks then [id] else [])
theorem Zuj {id:Int} : WrV [] [] id []:=⟨by simp [GNd],fun k=>by simp [gGet,ZQ,Zue]⟩
theorem Zrd {es:List (GE Int (Value×List Int))} {l:List TxD} {id:Int} (h:WrV es l id []):WrL (ZbJ es) l:=⟨by unfold GNd;rw [ZkD];exact h.1,fun k=>by rw [Zeq,h.2];simp⟩
theorem Zr2 {es:List (GE Int (Value×List Int))} {l:List TxD} {id id':Int} (h:WrV es l id []):WrV es l id' []:=⟨h.1,fun k=>by rw [h.2];simp⟩
theorem ZtA {es:List (GE Int (Value×List Int))} {l:List TxD} {i:Nat} {id:Int} (h:WrV es (l.take i) id []) (hi:i<l.length) (hd:(Nn l i).done=false):WrV es (l.take (i+1)) id []:=⟨h.1,fun k=>by rw [h.2,Zdv hi];simp [hd]⟩
theorem Zui {es:List (GE Int (Value×List Int))} {l:List TxD} {i:Nat} {id:Int} (h:WrV es (l.take i) (Nn l i).id (ZH (Nn l i))) (hi:i<l.length) (hd:(Nn l i).done=true):WrV es (l.take (i+1)) id []:=⟨h.1,fun k=>by
 rw [h.2,Zdv hi]
 congr 1
 simp only [List.not_mem_nil,Yt,YQ]
 congr 1
 by_cases hk:k ∈ ZH (Nn l i)
 ·rw [Ye hk,Ye ⟨hd,Zba.1 hk⟩]
 ·rw [Yb hk,Yb fun h9=>hk (Zba.2 h9.2)]⟩
theorem ZsD {es:List (GE Int (Value×List Int))} {l:List TxD} {id:Int} {ks:List Int} {j:Nat} (h:WrV es l id (ks.take j)) (hn:ks.Nodup) (hj:j<ks.length):((gGet (Nn ks j) es).getD ZaX).2=ZQ l (Nn ks j):=by
 have h1:=h.2 (Nn ks j)
 have hni:Nn ks j ∉ ks.take j:=fun hm=>by
  rw [nth_eq hj] at hm
  obtain ⟨k,hk,e⟩:=YR hm
  rw [Yp] at hk
  rw [YbI] at e
  have h3:=Y4.1 hn k j ow hj ow
  exact h3 e
 rw [Yb hni,YQ] at h1
 have h2:=ZlK (ZQ l (Nn ks j))
 rw [← h1] at h2
 rw [← h2]
 cases gGet (Nn ks j) es <;> rfl
theorem Ztd {es:List (GE Int (Value×List Int))} {l:List TxD} {id:Int} {ks:List Int} {j ck:Nat} {v:Value} (h:WrV es l id (ks.take j)) (hn:ks.Nodup) (hj:j<ks.length):WrV (gPut (Nn ks j) (v,((gGet (Nn ks j) es).getD ZaX).2 ++ [id]) (es,ck)).1 l id (ks.take (j+1)):=⟨GNd.put h.1,fun k=>by
 rw [ZaQ,ZsD h hn hj,Zy hj]
 by_cases e:k=Nn ks j
 ·subst e
  rw [Ye rfl,Ye XM]
  simp [Zue]
 ·rw [Yb e,h.2]
  simp [e]⟩
theorem Zvm {es:List (GE Int (List Int))} {l:List TxD} (h:WrL es l) (k:Int):(gGet k es).getD [] = ZQ l k:=by rw [h.2,ZlK]
theorem ZuX {es:List (GE Int (List Int))} {l:List TxD} (h:WrL es l):es.length=(Zb8 l).length:=by
 have h1:(es.map (·.key)).Perm (Zb8 l):=by
  refine (List.perm_ext_iff_of_nodup h.1 ((Zas _).1.imp fun h=>YbU h)).2 fun k=>?_
  rw [← Ze1,h.2,show (k ∈ ZcF ((l.filter fun t=>t.done).flatMap ZH)) ↔ ZQ l k≠[] from ZcK]
  unfold Zue
  split <;> simp_all
 simpa using h1.length_eq
theorem ZfX (t:TxD):(ZH t).Nodup:=(Zas _).1.imp fun h=>YbU h
theorem ZoA {α:Type} {R:α→List PV} {w:World} {y:Ys} : (PV.sl R ([]:List α)).p (.slice none 0 0) w y:=⟨none,0,rfl,YF _,by unfold maxLen;omega,.inl rfl⟩
theorem ZrG (t:TxD) (hl:t.ops.length≤1000000):FnP prog 49 [.agg (rTx t)] (.agg (rTx t)):=by
 refine FnP.mk func49 rfl ntmps49 rfl fun B a w F Z hfr G=>Ya ?_
 refine rS G (qx 101 r1 (qf (oH [.int .i64 0,.bool false,.slice none 0 0] 102) trivial qz qZ)) Z Q3 KP fun τ G=>?_
 have G:=X2
 generalize τ 1=v1,τ 2=v2 at G
 refine Za (Ya ?_)
 replace G:=G.fresh 103 rfl
 refine rS G (qg 2 101 r1 r1 (qa 101 r1 r1 (qf (ZbS 103 (ZqP t.ops hl) func93 rfl kr (Args.one .t) pvOne1) r1 r1 (qg 2 101 r1 r1 (qf (o_storeS 101 .adr kr kr) r2 r1 qZ))))) Z Q3 KO fun τ G=>?_
 have G:=X1
 generalize τ 5=v5 at G
 obtain ⟨F,G⟩:=G.giveCell 103 101 2 rfl rfl rfl rfl rfl
 try dsimp only [List.set] at G
 obtain ⟨F,G⟩:=G.nM Q3 KP
 refine Za (Ya (rZ G (qe 3 101 r1 r1 (qs 3 102 r2 r1 qZ)) Z [2] KP fun G=>Yj ?_))
 refine ZW hfr G rfl (.cl 102 true 3 rfl rfl .nil) (.one (.aggU rfl rfl))
theorem ZsV (g:Zl) (id:Int) (hs:Zbg g.txs):FnP prog 36 [.agg (Zr g),.int .i64 id] (.tup [.agg (rTx ((ZaM g.txs id).getD zeroT)),.bool (ZaM g.txs id).isSome]):=by
 refine FnP.mk func36 rfl ntmps36 rfl fun B a w F Z hfr G=>?_
 have hsl:=hs.1
 refine Ya (rS G (qx 101 r1 (qf (oH [.int .i64 0,.bool false,.slice none 0 0] 102) trivial qz qB)) Z JC KP fun τ G=>?_)
 have G:=X2
 generalize τ 2=v2,τ 4=v4 at G
 refine Za (Ya (Ya (rZ G (qg 0 101 r1 r1 (qa 101 r1 r1 (qu Yb4 r1 (qJ qZ)))) Z Q6 KP fun G=>Yi ?_)))
 refine Zk (σ:=(Nat)) [1,4,5,9,10] [0,101,102] (fun s=>[(11,.pv (.int .i64 (s:Int)))]) (fun s=>[]) (fun s=>s≤g.txs.length∧(∀ k,k<s→(Nn g.txs k).id≠id)) (fun s=>g.txs.length - s) (0) G ⟨rfl,rfl,rfl,rfl,rfl,rfl,tv⟩ ⟨rfl,rfl,rfl,tv⟩ ⟨YA _,fun k hk=>absurd hk (Yah k)⟩ ?_
 clear G;intro i a w F hC G
 have hC:=X4
 obtain ⟨F,G⟩:=G.nM Q6 KP
 have G:=X3
 obtain ⟨hi,hq⟩:=hC
 refine Ya (rZ G (qL r2) Z JD KP fun G=>Ya ?_)
 refine Zb G rfl (fun hc0=>?_) (fun hc0=>?_)
 ·have hil:i<g.txs.length:=Wl
  refine Yf (Za (Ya (Yi (Ya (rS G (qy 3 Yb4 r2 (qf (oR true 3 .t) r1 qz (qf (oH [.int .i64 0,.bool false,.slice none 0 0] 103) trivial qz (qS 3 103 r2 r1 qZ)))) Z JN KO fun τ G=>?_)))))
  have G:=X1
  generalize τ 7=v7 at G
  try simp only [Yg] at G
  refine Za (Ya (rZ G (qg 0 103 r1 r1 (qa 103 r1 r1 (qR rr (qf (o_eql .t .t) r2 qz qZ)))) Z [18,11,10,9,7,5,4,1] KO fun G=>?_))
  refine Zb G rfl (fun hc1=>?_) (fun hc1=>?_)
  ·have hg:ZaM g.txs id=some (Nn g.txs i):=ZrN hil Wg hq
   refine Ya (rZ G (qe 3 103 r1 r1 (qf (oP (ZrG (Nn g.txs i) (by have:=hs.at hil;omega)) func49 (Args.one (.pagg .t))) r1 qz (qf (oA 3 102 .is (.conv .t .agg)) r2 r1 qB))) Z Q6 KO fun G=>(Yj (Zn (Zh (Zh (Zn (Zh ?_)))))))
   refine ZW hfr G rfl (.cl 102 true 3 rfl rfl (.tmp rfl .nil)) (.two WI (.bool (by rw [hg];rfl)))
  have hne:(Nn g.txs i).id≠id:=Wg
  refine Yf (Ze (Za (rZ G (qp r1 (qR rr qZ)) Z Q6 KO fun G=>?_)))
  replace G:=G.eI 11 i
  obtain ⟨F,G⟩:=G.nM [10,9,5,4,1,11] KP
  exact ⟨(i+1),F,⟨ow,(fun k hk=>by rcases YY (Yag hk) with h9 | h9;exact hq k h9;rw [h9];exact hne)⟩,G,ow⟩
 have hil:i=g.txs.length:=Wl
 have hg:ZaM g.txs id=none:=Zl7 (by rw [← hil];exact hq)
 refine Yz (Zg (Zg (Zm (Za (Ya (rZ G (qf (oB [] [.int .i64 0,.bool false,.slice none 0 0] [(0,1),(1,1),(2,1)] .nil) trivial qz (qs 3 102 r2 r1 qB)) Z [5,4] KP fun G=>Yj ?_))))))
 refine ZW hfr G rfl (.cl 102 true 3 rfl rfl (.tmp rfl .nil)) (.two WI (.bool (by rw [hg];rfl)))
theorem Zwg (g:Zl) (v:Zaz) (hs:Zbg g.txs):FnP prog 73 [.agg (Zr g),.agg (ZJ v)] (.bool (ZrQ g v)):=by
 refine FnP.mk func73 rfl ntmps73 rfl fun B a w F Z hfr G=>Ya ?_
 refine rS G (qx 101 r1 (qx 102 r1 qB)) Z QJ KP fun τ G=>?_
 have G:=X2
 generalize τ 2=v2,τ 3=v3 at G
 refine Za (Ya (Ya (rZ G (qg 0 102 r1 r1 (qa 102 r1 r1 (qf (o_eql .t qi) r1 qz (qR rr (qv 2 102 rfl r2 r1 (qw 102 rfl r2 r1 (qk rfl (fun h=>o_eql (.w h) qi) r2 qz (qf (ZC .t .t) r2 qz qZ)))))))) Z [14,4,3,2] KP fun G=>?_)))
 refine Zb G rfl (fun hc0=>?_) (fun hc0=>?_)
 ·have h0:(v.tx=0∧v.nth=0):=WV
  have hu:ZrQ g v=decide (1≤v.key∧v.key≤1048575):=by unfold ZrQ;rw [Ye h0]
  refine Ya (rZ G (qg 1 102 r1 r1 (qa 102 r1 r1 (qf (ZbD .t qi) r1 qz (qR rr (qv 1 102 rfl r2 r1 (qw 102 rfl r2 r1 (qk rfl (fun h=>o_leq (.w h) qi) r2 qz (qf (ZC .t .t) r2 qz (qO rr qZ))))))))) Z QJ KP fun G=>(Yj (Zh ?_)))
  refine Zo hfr G rfl rfl rfl (.bool WJ)
 have h0:¬ (v.tx=0∧v.nth=0):=WV
 have hfl:((ZaM g.txs v.tx).getD zeroT).ops.length≤1000:=by cases hf:ZaM g.txs v.tx with | none=>simp [zeroT] | some t=>exact hs.2 _ (findT_mem hf).1
 refine Yf (Za (Ya (rS G (qe 2 101 r1 r1 (qg 0 102 r1 r1 (qa 102 r1 r1 (qf (oP (ZsV g v.tx hs) func36 (Args.two (.pagg .t) .t)) r2 qz (qR rr (qf (Zs .t rfl) r1 qz (qf (Zs .t rfl) r1 qz (qf (oH [.int .i64 0,.bool false,.slice none 0 0] 103) trivial qz (qf (oA 3 103 .same (.conv .t .agg)) r2 r1 (qO rr qZ)))))))))) Z [6,5,4,3] KO fun τ G=>?_)))
 have G:=X1
 generalize τ 5=v5 at G
 refine Za (Ya (Zv G (qR rr (qR rr (qv 2 102 rfl r2 r1 (qw 102 rfl r2 r1 (qk rfl (fun h=>ZbD (.w h) qi) r2 qz (qf (ZC .t .t) r2 qz (qR rr (qk rfl (fun h=>oL true 3 103 .is) r2 r1 (qv 1 102 rfl r2 r1 (qw 102 rfl r2 r1 (qk rfl (fun h=>oP (Zf0 ((ZaM g.txs v.tx).getD zeroT) v.key ow) func51 (Args.two (.pagg (.w h)) (.w h))) r3 qz (qv 2 102 rfl r2 r1 (qw 102 rfl r2 r1 (qk rfl (fun h=>ZbD (.w h) (.w h)) r3 qz (qf (ZC .t .t) r2 qz (qO rr qZ)))))))))))))))) Z [4] KO rfl rfl fun a w F G=>?_))
 have G:=Xf
 refine Za (Yj (Zo hfr G rfl rfl rfl (.bool WJ)))
theorem ZfC {α:Type} [Inhabited α] {p:α→Bool} {l:List α} : decide (0≤Zap p l)=l.any p:=by
 rcases ZiP p l with ⟨h1,h2⟩ | ⟨i,h1,h2,h3,h4⟩
 ·rw [h1,Yaj,show decide ((0:Int) ≤ -1)=false by decide,List.any_eq_false]
  intro x hx
  obtain ⟨k,hk,e⟩:=YR hx
  have:=h2 k hk
  rw [nth_eq hk,e] at this
  simp [this]
 ·rw [h1,show decide ((0:Int)≤(i:Int))=true by simp,Yaj,Ybd]
  exact ⟨_,nth_mem h2,h3⟩
theorem Zt5 {α:Type} {p:α→Bool} {l:List α} : (!l.any fun v=>!p v)=l.all p:=by
 induction l with
 | nil=>rfl
 | cons x l ih=>rw [List.any_cons,List.all_cons,← ih];cases p x <;> simp
theorem ZtT (l : List Zaz) (p : Zaz → Bool) (f : FuncId) (fn : Func) (cps : List PV) (hf : prog.funcs[f]? = some fn) (hb : fn.body.isSome = true) (hnn : (fn.name == "runtime.NumGoroutine") = false) (hw : ∀ x, FnP prog f (.agg (ZJ x) :: cps) (.bool (p x))) : FnP prog 118 [.sl ZJ l, .clos f cps] (.int .i64 (Zap p l)) := by
 refine FnP.mk func118 rfl ntmps118 rfl fun B a w F Z hfr G=>?_
 have hll:=Sat.lenSl G (i:=0) rfl
 refine Ya (rZ G (qI qZ) Z KU [0] fun G=>(Ya (Ya ?_)))
 refine rZ G (qR rr (qu underlying137 r1 (qJ qZ))) Z Qm [0] fun G=>Yi ?_
 refine Zk (σ:=(Nat)) [0,1,4,7] [0] (fun s=>[(8,.pv (.int .i64 (s:Int)))]) (fun s=>[]) (fun s=>s≤l.length∧(∀ k,k<s→p (Nn l k)=false)) (fun s=>l.length - s) (0) G ⟨rfl,rfl,rfl,rfl,rfl,tv⟩ ⟨rfl,tv⟩ ⟨YA _,fun k hk=>absurd hk (Yah k)⟩ ?_
 clear G;intro i a w F hC G
 have hC:=X4
 obtain ⟨F,G⟩:=G.nM Qm [0]
 have G:=X3
 obtain ⟨hi,hq⟩:=hC
 refine Ya (rZ G (qL r2) Z Gb [0] fun G=>Ya ?_)
 refine Zb G rfl (fun hc0=>?_) (fun hc0=>?_)
 ·skip
  have hil:i<l.length:=Wl
  refine Yf (Za (Ya (Yi (Ya (rZ G (qR rr (qO rr qZ)) Z Gc [0] fun G=>Ya ?_)))))
  refine Zc G (qR rr (qR rr (qR rr (qy 3 underlying137 r2 (qf (oR true 3 .t) r1 qz (qf (Zab (avs:=[.agg (ZJ (Nn l i))]) .t (hw (Nn l i)) hf hb hnn (Args.one (.pagg .t))) r2 qz qZ)))))) Z JP [0] rfl rfl fun a w F G=>?_
  try simp only [Yg] at G
  refine Za (Zb G rfl (fun hc1=>?_) (fun hc1=>?_))
  ·skip
   have hg:(i:Int)=Zap p l:=(Zd2 hil hc1 hq).symm
   refine Ya (rZ G (qR rr (qO rr qZ)) Z Qm [0] fun G=>(Yj (Zn (Zh (Zh (Zn (Zh ?_)))))))
   refine Zo hfr G rfl rfl rfl (.int hg)
  have hne:p (Nn l i)=false:=hc1
  refine Yf (Ze (Za (rZ G (qp r1 (qR rr qZ)) Z Qm [0] fun G=>?_)))
  replace G:=G.eI 8 i
  obtain ⟨F,G⟩:=G.nM [7,4,1,0,8] [0]
  exact ⟨(i+1),F,⟨ow,(fun k hk=>by rcases YY (Yag hk) with h | h;exact hq k h;rw [h];exact hne)⟩,G,ow⟩
 have hil:i=l.length:=Wl
 have hg : -1=Zap p l:=(Zcv fun k hk=>hq k Wl).symm
 refine Yz (Zg (Zg (Zm (Za (Ya (rZ G (qI qZ) Z [4] [0] fun G=>Yj ?_))))))
 refine Zo hfr G rfl rfl rfl (.int hg)
theorem Ztj (l : List Zaz) (p : Zaz → Bool) (f : FuncId) (fn : Func) (cps : List PV) (hf : prog.funcs[f]? = some fn) (hb : fn.body.isSome = true) (hnn : (fn.name == "runtime.NumGoroutine") = false) (hw : ∀ x, FnP prog f (.agg (ZJ x) :: cps) (.bool (p x))) : FnP prog 70 [.sl ZJ l, .clos f cps] (.bool (l.any p)) := by
 refine FnP.mk func70 rfl ntmps70 rfl fun B a w F Z hfr G=>Ya ?_
 refine rZ G qB Z KU [0] fun G=>Ya ?_
 refine rZ G (qR rr (qR rr (qf (oP (ZtT l p f fn cps hf hb hnn hw) func118 (Args.two .t .t)) r2 qz (qf (ZbD .t qi) r1 qz (qO rr qZ))))) Z [4] [0] fun G=>Yj ?_
 refine Zo hfr G rfl rfl rfl (.bool (by rw [ZfC]))
theorem ZpS (v:Zaz) (g:Zl) (hs:Zbg g.txs):FnP prog 72 [.agg (ZJ v),.ref (Zr g)] (.bool (!ZrQ g v)):=by
 refine FnP.mk func72 rfl ntmps72 rfl fun B a w F Z hfr G=>Ya ?_
 refine rS G (qx 101 r1 qB) Z Qa KN fun τ G=>?_
 have G:=X2
 generalize τ 2=v2 at G
 refine Za (Ya (rZ G (qf (oR true 2 .t) r1 qz (qe 3 101 r1 r1 (qf (oP (Zwg g v hs) func73 (Args.two (.pagg .t) (.pagg .t))) r2 qz (qf (o_not .t) r1 qz (qO rr qZ))))) Z [3] KN fun G=>Yj ?_))
 refine Zo hfr G rfl rfl rfl .refl
theorem ZqS (g:Zl) (t:TxD) (hs:Zbg g.txs) (ht:t.ops.length≤1000):FnP prog 28 [.agg (Zr g),.agg (rTx t)] (.bool (ZkT g t)):=by
 refine FnP.mk func28 rfl ntmps28 rfl fun B a w F Z hfr G=>Ya ?_
 refine rS G (qx 101 r1 (qx 102 r1 qB)) Z QJ KP fun τ G=>?_
 have G:=X2
 generalize τ 2=v2,τ 3=v3 at G
 refine Za (Ya (Zai 2 G kr (cG rfl (oL true 3 102 .is) r1 r1 (cG rfl (oP (ZnK t ow) func71 (Args.one (.pagg .t))) r1 trivial ChainN.nil)) kr WG fun a w F G=>?_))
 obtain ⟨F,G⟩:=G.nM [6,4,2] KP
 have G:=Xf
 obtain ⟨F,G⟩:=G.giveRef 101 2 rfl rfl rfl
 obtain ⟨F,G⟩:=G.nM [6,4,2] QP
 have G:=XD
 refine Zat G kr (cG rfl (ZbV (Args.one .t)) r1 trivial (cG rfl (oP (Ztj (Zjj t) (fun v=>!ZrQ g v) 72 f72 [.ref (Zr g)] func72 rfl kr (fun v=>ZpS v g hs)) func70 (Args.two .t .t)) r2 trivial (cG rfl (o_not .t) r1 trivial (cG rfl (oN .t) r1 trivial ChainN.nil)))) kr WG fun a w F G=>?_
 obtain ⟨F,G⟩:=G.nM [4] QP
 have G:=Xz
 refine Za (Yj (Zo hfr G rfl rfl rfl (.bool (by rw [Zt5];rfl))))
theorem ZpG (g:Zl) (hs:Zbg g.txs):FnG prog 29 1 [.agg (Zr g)] [.star []] (PV.one) (fun v=>[HP.ex fun s:List (GE Int (List Int))×Nat=>HP.and (WrL s.1 g.txs) (mapG (fun l:List Int=>PV.sl Zq l) (fun _=>True) (fun n:Int=>Value.int .i64 n) s.1 s.2 v)]):=by
 refine FnG.mk func29 rfl ntmps29 rfl kr fun B F0 a w F Z hG G=>?_
 have hsl:=hs.1
 obtain ⟨F,G⟩:=G.nM [0] [0]
 refine Ya (rS G (qx 101 r1 (qC qZ)) Z Q3 KN fun τ G=>?_)
 have G:=X2
 generalize τ 1=v1 at G
 refine Za (Ya (rS G (qf (Z8 (ek:=(fun p:Value×List Int=>PV.is p.1)) (ok:=(fun _=>True)) (kv:=(fun n:Int=>Value.int .i64 n)) 102) trivial qz (qO rr qZ)) Z Qa KP fun τ G=>?_))
 have G:=Xq
 generalize τ 8=v8 at G
 replace G:=G.fresh 60 rfl
 replace G:=G.turn 60 rfl (r':=Zp1 3 1 Zq ([]:List (GE Int (Value×List Int)))) (fun _ _ _ _ h=>h)
 obtain ⟨F,G⟩:=G.nM Qa Qp
 refine Za (Ya (Ya (rZ G (qg 0 101 r1 r1 (qa 101 r1 r1 (qu Yb4 r1 (qJ qZ)))) Z Jw Qp fun G=>Yi ?_)))
 refine Zk (σ:=(Nat)×(List (GE Int (Value×List Int)))×(Nat)) [2,3,10,11] [0,101] (fun s=>[(12,.pv (.int .i64 (s.1:Int)))]) (fun s=>[(102,.ob (.val v8) (mapG (fun p:Value×List Int=>PV.is p.1) (fun _=>True) (fun n:Int=>Value.int .i64 n) s.2.1 s.2.2)),(60,Zp1 3 1 Zq s.2.1)]) (fun s=>s.1≤g.txs.length∧(WrV s.2.1 (g.txs.take s.1) 0 [])) (fun s=>g.txs.length - s.1) ((0),([]),(0)) G ⟨rfl,rfl,rfl,rfl,rfl,tv⟩ ⟨rfl,rfl,rfl,rfl,tv⟩ ⟨YA _,Zuj⟩ ?_
 clear G;intro s a w F hC G
 obtain ⟨i,es,ck⟩:=s
 have hC:=X4
 obtain ⟨F,G⟩:=G.nM Jw Qp
 have G:=X3
 obtain ⟨hi,hq⟩:=hC
 have hxl:=fun hil:i<g.txs.length=>hs.at hil
 refine Ya (rZ G (qL r2) Z [13,12,11,10,3,2] Qp fun G=>Ya ?_)
 refine Zb G rfl (fun hc0=>?_) (fun hc0=>?_)
 ·have hil:i<g.txs.length:=Wl
  have hio:=hil
  have hw0:=hq
  have htl:=hxl hil
  have hkt:=Zcu (Nn g.txs i)
  have hsl:=hs.1
  refine Yf (Za (Ya (Yi (Ya (rS G (qy 3 Yb4 r2 (qf (oR true 3 .t) r1 qz (qf (oH [.int .i64 0,.bool false,.slice none 0 0] 103) trivial qz (qS 3 103 r2 r1 qZ)))) Z [12,11,10,5,3,2] KZ fun τ G=>?_)))))
  have G:=X1
  generalize τ 5=v5 at G
  try simp only [Yg] at G
  refine Za (Ya (Ya (rZ G (qg 1 103 r1 r1 (qa 103 r1 r1 (qf (o_not .t) r1 qz qZ))) Z [18,12,11,10,5,3,2] KZ fun G=>?_)))
  refine Zb G rfl (fun hc1=>?_) (fun hc1=>?_)
  ·have hdn:(Nn g.txs i).done=false:=Wg
   obtain ⟨es2,he2⟩:∃ z,z=es:=⟨_,rfl⟩
   obtain ⟨ck2,hc2⟩:∃ z,z=ck:=⟨_,rfl⟩
   have hR2:WrV es2 (g.txs.take (i+1)) 0 []:=by rw [he2];exact ZtA hw0 hio hdn
   rw [← he2,← hc2] at G
   refine Yz (Zg (Zm (Za (rZ G (qp r1 (qR rr qZ)) Z Jw KZ fun G=>?_))))
   replace G:=G.eI 12 i
   obtain ⟨F,G⟩:=G.nM [11,10,3,2,12] [101,0,60,102]
   exact ⟨((i+1),(es2),(ck2)),F,⟨ow,hR2⟩,G,ow⟩
  have hdn:(Nn g.txs i).done=true:=Wg
  refine Yf (Za (Ya (Zc G (qe 3 103 r1 r1 (qf (oP (Zj3 (Nn g.txs i) (by have:=hxl hio;omega)) func43 (Args.one (.pagg .t))) r1 qz (qu YbY r1 (qJ qZ)))) Z QE KZ rfl rfl fun a w F G=>?_)))
  rw [show ZcF (((Nn g.txs i).ops.filter fun o=>!o.read).map OpD.key)=ZH (Nn g.txs i) from rfl] at G
  refine Za (Yi (Zk (σ:=(Nat)×(List (GE Int (Value×List Int)))×(Nat)) [2,3,5,10,11,12,20,21] [0,101,103] (fun s=>[(22,.pv (.int .i64 (s.1:Int)))]) (fun s=>[(102,.ob (.val v8) (mapG (fun p:Value×List Int=>PV.is p.1) (fun _=>True) (fun n:Int=>Value.int .i64 n) s.2.1 s.2.2)),(60,Zp1 3 1 Zq s.2.1)]) (fun s=>s.1≤(ZH (Nn g.txs i)).length∧(WrV s.2.1 (g.txs.take i) (Nn g.txs i).id ((ZH (Nn g.txs i)).take s.1))) (fun s=>(ZH (Nn g.txs i)).length - s.1) ((0),(es),(ck)) G ⟨rfl,rfl,rfl,rfl,rfl,rfl,rfl,rfl,rfl,tv⟩ ⟨rfl,rfl,rfl,rfl,rfl,tv⟩ ⟨YA _,(by simpa using Zr2 hw0)⟩ ?_))
  clear G;intro s a w F hC G
  obtain ⟨j,es,ck⟩:=s
  have hC:=X4
  obtain ⟨F,G⟩:=G.nM QE KZ
  have G:=X3
  obtain ⟨hi,hq⟩:=hC
  refine Ya (rZ G (qL r2) Z [23,22,21,20,12,11,10,5,3,2] KZ fun G=>Ya ?_)
  refine Zb G rfl (fun hc2=>?_) (fun hc2=>?_)
  ·have hil:j<(ZH (Nn g.txs i)).length:=Kj
   have hwo:=ZsD hq (ZfX _) hil
   have hwn:=Zev (g.txs.take i) (Nn (ZH (Nn g.txs i)) j)
   rw [Yp] at hwn
   rw [← hwo] at hwn
   refine Yf (Za (Ya (Yi (Ya (Zc G (qy 1 YbY r2 (qf (oR false 1 .t) r1 qz (qO rr qZ))) Z [22,21,20,12,11,10,7,5,3,2] KZ rfl rfl fun a w F G=>?_)))))
   try simp only [Yg] at G
   refine Za (Zai 5 G kr (cG rfl (oM .t) r1 trivial (cG rfl (oM .t) r1 trivial (cG rfl (oM .t) r1 trivial (cG rfl (oM .t) r1 trivial (cG rfl (ZR (ek:=(fun p:Value×List Int=>PV.is p.1)) (z0:=ZaX) 102 Yce (Za2 Yb1) kr (fun _ _=>⟨rfl,rfl⟩) .is (Zw.int .t rfl)) r2 r1 ChainN.nil))))) kr WG fun a w F G=>?_)
   obtain ⟨F,G⟩:=G.nM J9 KZ
   have G:=Xz
   obtain ⟨F,G⟩:=G.takeKey (T:=3) (sz:=1) (R:=Zq) 60 61 (Nn (ZH (Nn g.txs i)) j) rfl rfl
   obtain ⟨F,G⟩:=G.nM J9 Qq
   refine Ziz 4 G kr (cG rfl (oF 0 103 .is) r1 r1 (cG rfl (oL false 1 103 .adr) r1 r1 (cG rfl (Zj (sz:=1) (zs:=[.int .i64 0]) (r:=[(0,.tmp 32)]) (l:=[_]) YbY kr kr kr kr rfl rfl (.one rfl .t one_int kr .nil) rfl) r1 trivial (cG rfl (o_append (sz:=1) (bs:=8) 61 (.mk' YbY kr kr) Wh .is (.arr (l':=[_]) .t) Wy XW) ⟨rfl,rfl,tv⟩ ⟨rfl,tv⟩ ChainN.nil)))) kr WG fun a w F G=>?_
   replace G:=G.sub
   obtain ⟨F,G⟩:=G.nM [34,27,26,22,21,20,12,11,10,5,3,2] Qq
   have G:=X1
   generalize Act.tau a 34=v34 at G
   refine Zat G kr (cG rfl (o_mapUpdateG (ek:=(fun p:Value×List Int=>PV.is p.1)) (v:=((v34,((gGet (Nn (ZH (Nn g.txs i)) j) es).getD ZaX).2 ++ [(Nn g.txs i).id]):Value×List Int)) 102 Yce (Za2 Yb1) .is (Zw.int .t rfl) .t) r3 r1 ChainN.nil) kr WG fun a w F G=>?_
   obtain ⟨F,G⟩:=G.nM QE Qq
   have G:=Xz
   refine Ze (Za (rZ G (qp r1 (qR rr qZ)) Z QE Qq fun G=>?_))
   obtain ⟨F,G⟩:=G.putKey (T:=3) (sz:=1) (R:=Zq) 60 61 (Nn (ZH (Nn g.txs i)) j) ck rfl rfl rfl
   replace G:=G.eI 22 j
   obtain ⟨F,G⟩:=G.nM [21,20,12,11,10,5,3,2,22] [103,101,0,60,102]
   exact ⟨((j+1),((gPut (Nn (ZH (Nn g.txs i)) j) (v34,((gGet (Nn (ZH (Nn g.txs i)) j) es).getD ZaX).2 ++ [(Nn g.txs i).id]) (es,ck)).1),((gPut (Nn (ZH (Nn g.txs i)) j) (v34,((gGet (Nn (ZH (Nn g.txs i)) j) es).getD ZaX).2 ++ [(Nn g.txs i).id]) (es,ck)).2)),F,⟨ow,Ztd hq (ZfX _) hil⟩,G,ow⟩
  have hil:j=(ZH (Nn g.txs i)).length:=Kj
  obtain ⟨es2,he2⟩:∃ z,z=es:=⟨_,rfl⟩
  obtain ⟨ck2,hc2⟩:∃ z,z=ck:=⟨_,rfl⟩
  rw [hil,YE] at hq
  have hR2:WrV es2 (g.txs.take (i+1)) 0 []:=by rw [he2];exact Zui hq hio hdn
  rw [← he2,← hc2] at G
  refine Yz (Zg (Zg (Zm (Ze (Za (rZ G (qp r1 (qR rr qZ)) Z Jw KZ fun G=>?_))))))
  replace G:=G.eI 12 i
  obtain ⟨F,G⟩:=G.nM [11,10,3,2,12] [101,0,60,102]
  exact ⟨((i+1),(es2),(ck2)),F,⟨ow,hR2⟩,G,ow⟩
 have hil:i=g.txs.length:=Wl
 have hwl:=Zrd hq
 rw [hil,YE] at hwl
 refine Yz (Zg (Zg (Zm (Za (Ya (rZ G (qR rr (qO rr qZ)) Z [2] Qp fun G=>Yj ?_))))))
 obtain ⟨F,G⟩:=G.giveMap 102 60 rfl rfl rfl
 obtain ⟨F,G⟩:=G.rename 102 1 rfl rfl
 have G:=G.turn 1 rfl (r':=RS.hp (HP.ex fun s:List (GE Int (List Int))×Nat=>HP.and (WrL s.1 g.txs) (mapG (fun l:List Int=>PV.sl Zq l) (fun _=>True) (fun n:Int=>Value.int .i64 n) s.1 s.2 v8))) (fun _ _ _ _ h=>⟨(ZbJ es,ck),hwl,h⟩)
 refine Zaw (h':=fun v=>HP.ex fun s:List (GE Int (List Int))×Nat=>HP.and (WrL s.1 g.txs) (mapG (fun l:List Int=>PV.sl Zq l) (fun _=>True) (fun n:Int=>Value.int .i64 n) s.1 s.2 v)) hG G rfl (.tmp rfl .nil) (.one .one) rfl
theorem ZdL (g:Zl) (hs:Zcj g):FnP prog 9 [.agg (Zr g)] (.bool (decide (ZA g))):=by
 refine FnP.mk func9 rfl ntmps9 rfl fun B a w F Z hfr G=>?_
 have hsl:=hs.1.1
 have hso:=hs.2.1
 refine Ya (rS G (qx 101 r1 qB) Z Q3 KN fun τ G=>?_)
 have G:=X2
 generalize τ 1=v1 at G
 refine Za (Ya (Ya (rZ G (qg 0 101 r1 r1 (qa 101 r1 r1 (qu Yb4 r1 (qf (Zad .t qi) r1 qz qZ)))) Z [11,2,1] KN fun G=>?_)))
 refine Zb G rfl (fun hc0=>?_) (fun hc0=>?_)
 ·have hg:=Zgr (h:=g) Wl
  refine Ya (rZ G qB Z Q3 KN fun G=>(Yj (Zh ?_)))
  refine Zo hfr G rfl rfl rfl (.bool hg)
 have hlong:g.txs.length≤4096:=Wl
 refine Yf (Za (Ya (Ya (rZ G (qg 0 101 r1 r1 (qa 101 r1 r1 (qu Yb4 r1 (qJ qZ)))) Z Jx KN fun G=>Yi ?_))))
 refine Zk (σ:=(Nat)) [1,2,13,14] [0,101] (fun s=>[(15,.pv (.int .i64 (s:Int)))]) (fun s=>[]) (fun s=>s≤g.txs.length∧(∀ k,k<s→Zm4 g k)) (fun s=>g.txs.length - s) (0) G ⟨rfl,rfl,rfl,rfl,rfl,tv⟩ ⟨rfl,rfl,tv⟩ ⟨YA _,fun k hk=>absurd hk (Yah k)⟩ ?_
 clear G;intro i a w F hC G
 have hC:=X4
 obtain ⟨F,G⟩:=G.nM Jx KN
 have G:=X3
 obtain ⟨hi,hq⟩:=hC
 have hxl:=fun hil:i<g.txs.length=>hs.1.at hil
 have hiw:0<i→IntKind.wrap .i64 ((i:Int) - 1)=((i - 1:Nat):Int):=fun h0=>by rw [wrap_i64 ow];omega
 refine Ya (rZ G (qL r2) Z [16,15,14,13,2,1] KN fun G=>Ya ?_)
 refine Zb G rfl (fun hc1=>?_) (fun hc1=>?_)
 ·have hil:i<g.txs.length:=WE
  refine Yf (Za (Ya (Yi (Ya (rS G (qR rr (qy 3 Yb4 r2 (qf (oR true 3 .t) r1 qz (qf (oH [.int .i64 0,.bool false,.slice none 0 0] 102) trivial qz (qO rr (qS 3 102 r2 r1 qZ)))))) Z [15,14,13,4,3,2,1] KP fun τ G=>?_)))))
  have G:=X1
  generalize τ 4=v4 at G
  try simp only [Yg] at G
  refine Za (Ya (Zv G (qR rr (qf (Zad .t qi) r1 qz (qR rr (qv 0 101 rfl r2 r1 (qw 101 rfl r2 r1 (qm rfl rfl rfl rfl (qk rfl (fun h=>o_sub (.w h) qi) r2 qz (qk rfl (fun h=>o_indexAddr_sl (sz:=3) (.mk Yb4 kr) Wh (.w h) (.w h) WK WK) r3 qz (qk rfl (fun h=>oG 0 (.w h)) r2 qz (qk rfl (fun h=>oR false 1 (.w h)) r2 qz (qv 0 102 rfl r2 r1 (qw 102 rfl r2 r1 (qk rfl (fun h=>ZbD (.w h) (.w h)) r3 qz (qf (ZC .t .t) r2 qz (qR rr (qk rfl (fun h=>oL true 3 102 .is) r2 r1 (qk rfl (fun h=>oP (Zpd (Nn g.txs i)) func27 (Args.one (.pagg (.w h)))) r2 qz (qk rfl (fun h=>o_neq (.w h) qi) r2 qz (qf (Zaq .t .t) r2 qz (qR rr (qk rfl (fun h=>oL true 2 101 .is) r2 r1 (qk rfl (fun h=>oL true 3 102 .is) r2 r1 (qk rfl (fun h=>oP (ZqS g (Nn g.txs i) hs.1 (by have:=hxl hil;omega)) func28 (Args.two (.pagg (.w h)) (.pagg (.w h)))) r3 qz (qk rfl (fun h=>o_not (.w h)) r2 qz (qf (Zaq .t .t) r2 qz qZ))))))))))))))))))))))))) Z [44,15,14,13,2,1] KP rfl rfl fun a w F G=>?_))
  have G:=Xf
  try simp only [Yg] at G
  refine Za (Zb G rfl (fun hc2=>?_) (fun hc2=>?_))
  ·have hbad:¬ Zm4 g i:=by
     rintro ⟨g1,g2,g3⟩
     have h9:=hc2
     by_cases hi0:0<i
     · rw [hiw hi0,Yg] at h9
       have:=g1 hi0
       simp [g2,g3] at h9
       omega
     · have hi1:i=0:=ow
       subst hi1
       simp [g2,g3] at h9
   have hg:=Zjc hil hbad
   refine Ya (rZ G qB Z Jx KP fun G=>(Yj (Zn (Zh (Zh (Zn (Zh ?_)))))))
   refine Zo hfr G rfl rfl rfl (.bool hg)
  have hgood:Zm4 g i:=by
    have h9:=hc2
    by_cases hi0:0<i
    · rw [hiw hi0,Yg] at h9
      simp at h9
      exact ⟨fun _=>by omega,ow,h9.2⟩
    · have hi1:i=0:=ow
      subst hi1
      simp at h9
      exact ⟨fun h0=>absurd h0 (Nat.lt_irrefl 0),h9.1,h9.2⟩
  refine Yf (Ze (Za (rZ G (qp r1 (qR rr qZ)) Z Jx KP fun G=>?_)))
  replace G:=G.eI 15 i
  obtain ⟨F,G⟩:=G.nM [14,13,2,1,15] KN
  exact ⟨(i+1),F,⟨ow,(fun k hk=>by rcases YY (Yag hk) with h9 | h9;exact hq k h9;rw [h9];exact hgood)⟩,G,ow⟩
 have hil:i=g.txs.length:=WE
 have hall:∀ k,k<g.txs.length→Zm4 g k:=by rw [← hil];exact hq
 have hkn:=ZnU hs.1
 refine Yz (Zg (Zg (Zm (Za (Ya ?_)))))
 replace G:=G.fresh 103 rfl
 refine rS G (qe 2 101 r1 r1 (qf (ZbS 103 (ZpG g hs.1) func29 rfl kr (Args.one (.pagg .t)) pvOne1) r1 r1 (qO rr qZ))) Z G1 Qt fun τ G=>?_
 have G:=XA
 generalize τ 47=v47 at G
 replace G:=G.turn 103 rfl (r':=RS.hp (HP.ex fun s:List (GE Int (List Int))×Nat=>HP.and (WrL s.1 g.txs) (mapG (fun l:List Int=>PV.sl Zq l) (fun _=>True) (fun n:Int=>Value.int .i64 n) s.1 s.2 v47))) (fun _ _ _ _ h=>h)
 obtain ⟨sm,G⟩:=G.open_ex 103 rfl
 obtain ⟨hwm,G⟩:=G.open_and 103 rfl
 obtain ⟨es,ck⟩:=sm
 try dsimp only at hwm G
 replace G:=G.turn 103 rfl (r':=.ob (.val v47) (mapG (fun l:List Int=>PV.sl Zq l) (fun _=>True) (fun n:Int=>Value.int .i64 n) es ck)) (fun _ _ _ _ h=>h)
 have hgw:=Zvm hwm
 have hml:=ZuX hwm
 obtain ⟨F,G⟩:=G.nM G1 Qt
 refine Za (Ya (Ya (rZ G (qR rr (qf (ZgO 103 Yce .is ow) r1 r1 (qg 1 101 r1 r1 (qa 101 r1 r1 (qu Yb7 r1 (qf (o_neq .t .t) r2 qz qZ)))))) Z [53,5,2,1] Qt fun G=>?_)))
 refine Zb G rfl (fun hc3=>?_) (fun hc3=>?_)
 ·have hg:=ZhU (h:=g) (by simp at hc3;omega)
  refine Ya (rZ G qB Z G1 Qt fun G=>(Yj (Zh ?_)))
  refine Zo hfr G rfl rfl rfl (.bool hg)
 have hle:g.orders.length=(Zb8 g.txs).length:=Kb
 refine Yf (Za (Ya (Ya (rZ G (qg 1 101 r1 r1 (qa 101 r1 r1 (qu Yb7 r1 (qJ qZ)))) Z Je Qt fun G=>Yi ?_))))
 refine Zk (σ:=(Nat)) [1,2,5,55,56] [0,101,103] (fun s=>[(57,.pv (.int .i64 (s:Int)))]) (fun s=>[]) (fun s=>s≤g.orders.length∧(∀ k,k<s→Zfd g k)) (fun s=>g.orders.length - s) (0) G ⟨rfl,rfl,rfl,rfl,rfl,rfl,tv⟩ ⟨rfl,rfl,rfl,tv⟩ ⟨YA _,fun k hk=>absurd hk (Yah k)⟩ ?_
 clear G;intro i a w F hC G
 have hC:=X4
 obtain ⟨F,G⟩:=G.nM Je Qt
 have G:=X3
 obtain ⟨hi,hq⟩:=hC
 have hol:=fun hil:i<g.orders.length=>hs.2.at hil
 have hwl:=fun k=>Zev g.txs k
 have hiw:0<i→IntKind.wrap .i64 ((i:Int) - 1)=((i - 1:Nat):Int):=fun h0=>by rw [wrap_i64 ow];omega
 refine Ya (rZ G (qL r2) Z [58,57,56,55,5,2,1] Qt fun G=>Ya ?_)
 refine Zb G rfl (fun hc4=>?_) (fun hc4=>?_)
 ·have hil:i<g.orders.length:=Ki
  refine Yf (Za (Ya (Yi (Ya (rS G (qR rr (qy 2 Yb7 r2 (qf (oR true 2 .t) r1 qz (qf (oH [.int .i64 0,.slice none 0 0] 104) trivial qz (qO rr (qS 2 104 r2 r1 qZ)))))) Z [57,56,55,7,6,5,2,1] Jm fun τ G=>?_)))))
  have G:=X1
  generalize τ 7=v7 at G
  try simp only [Yg] at G
  refine Za (Ya (Zv G (qR rr (qf (Zad .t qi) r1 qz (qR rr (qv 1 101 rfl r2 r1 (qw 101 rfl r2 r1 (qm rfl rfl rfl rfl (qk rfl (fun h=>o_sub (.w h) qi) r2 qz (qk rfl (fun h=>o_indexAddr_sl (sz:=2) (.mk Yb7 kr) Wh (.w h) (.w h) WK WK) r3 qz (qk rfl (fun h=>oG 0 (.w h)) r2 qz (qk rfl (fun h=>oR false 1 (.w h)) r2 qz (qv 0 104 rfl r2 r1 (qw 104 rfl r2 r1 (qk rfl (fun h=>ZbD (.w h) (.w h)) r3 qz (qf (ZC .t .t) r2 qz (qR rr (qv 1 104 rfl r2 r1 (qw 104 rfl r2 r1 (qk rfl (fun h=>ZcS YbY (.w h)) r2 qz (qk rfl (fun h=>o_eql (.w h) qi) r2 qz (qf (Zaq .t .t) r2 qz (qR rr (qv 1 104 rfl r2 r1 (qw 104 rfl r2 r1 (qm rfl rfl rfl rfl (qv 0 104 rfl r2 r1 (qw 104 rfl r2 r1 (qk rfl (fun h=>ZR (ek:=(fun l:List Int=>PV.sl Zq l)) (z0:=([]:List Int)) 103 Yce (Za2 Yb1) kr (fun _ _=>ZoA) (.w h .is) (Zw.int (.w h) rfl)) r3 r1 (qk rfl (fun h=>oP (Zsr (Nn g.orders i).txs _ (by have:=hol hil;omega) (by rw [hgw];have:=hwl (Nn g.orders i).key;omega)) func30 (Args.two (.w h) (.w h))) r3 qz (qk rfl (fun h=>o_not (.w h)) r2 qz (qf (Zaq .t .t) r2 qz qZ)))))))))))))))))))))))))))))) Z [91,57,56,55,5,2,1] Jm rfl rfl fun a w F G=>?_))
  have G:=Xf
  try simp only [Yg] at G
  refine Za (Zb G rfl (fun hc5=>?_) (fun hc5=>?_))
  ·have hbad:¬ Zfd g i:=by
     rintro ⟨g1,g2,g3⟩
     have h9:=hc5
     rw [hgw] at h9
     have g4:(Nn g.orders i).txs.length≠0:=fun e=>g2 (YM e)
     by_cases hi0:0<i
     · rw [hiw hi0,Yg] at h9
       have:=g1 hi0
       simp [g2,g3] at h9
       omega
     · have hi1:i=0:=ow
       subst hi1
       simp [g2,g3] at h9
   have hg:=Zgs hil hbad
   refine Ya (rZ G qB Z Je Jm fun G=>(Yj (Zn (Zh (Zh (Zn (Zh ?_)))))))
   refine Zo hfr G rfl rfl rfl (.bool hg)
  have hgood:Zfd g i:=by
    have h9:=hc5
    rw [hgw] at h9
    by_cases hi0:0<i
    · rw [hiw hi0,Yg] at h9
      simp at h9
      exact ⟨fun _=>by omega,h9.1.2,h9.2⟩
    · have hi1:i=0:=ow
      subst hi1
      simp at h9
      exact ⟨fun h0=>absurd h0 (Nat.lt_irrefl 0),h9.1,h9.2⟩
  refine Yf (Ze (Za (rZ G (qp r1 (qR rr qZ)) Z Je Jm fun G=>?_)))
  replace G:=G.eI 57 i
  obtain ⟨F,G⟩:=G.nM [56,55,5,2,1,57] Qt
  exact ⟨(i+1),F,⟨ow,(fun k hk=>by rcases YY (Yag hk) with h9 | h9;exact hq k h9;rw [h9];exact hgood)⟩,G,ow⟩
 have hil:i=g.orders.length:=Ki
 have hg:=Zkl hlong hall ow (by rw [← hil];exact hq)
 refine Yz (Zg (Zg (Zm (Za (Ya (rZ G qB Z [2] Qt fun G=>Yj ?_))))))
 refine Zo hfr G rfl rfl rfl (.bool hg)
theorem PVs.lenAt {α:Type} {R:α→List PV} {l:List α} {v:Value} {w:World} {y:Ys} (h:(PV.sl R l).p v w y):l.length≤9223372036854775807:=by
 obtain ⟨_,cap,_,h1,h2,_⟩:=h
 unfold maxLen at h2
 omega
theorem Sat.lenHist {B:ZaV} {E:En} {a:Act} {w:World} {F:Fp} (h:Sat B E a w F) {i:Nat} {u:Zl} (hl:Go.Gm.look E.s i=some (SF.pv (PV.agg (Zr u)))):u.txs.length≤9223372036854775807∧u.orders.length≤9223372036854775807:=by
 obtain ⟨vs,_,hp⟩:=h.s i _ hl
 match vs,hp with
 | [x,y],hp=>exact ⟨PVs.lenAt hp.1.2,PVs.lenAt hp.2.1.2⟩
def Zu8 (l:List TxD):Prop:=l.length≤1000000 ∧ ∀ t ∈ l,t.ops.length≤1000000
def ZsS (l:List OrdD):Prop:=l.length≤1000000 ∧ ∀ t ∈ l,t.txs.length≤1000000
structure DOk (d:Zgj):Prop where
 was:Zu8 d.was
 now:Zu8 d.now
 old:ZsS d.old
 new:ZsS d.new
def inv (d:Zgj):Zgj:=⟨d.now,d.was,d.new,d.old⟩
theorem DOk.inv {d:Zgj} (h:DOk d):DOk (inv d):=⟨h.now,h.was,h.new,h.old⟩
def Zbw (h:Zl):Prop:=h.txs.length≤12∧h.orders.length≤24∧(∀ j,j<h.txs.length→(Nn h.txs j).ops.length≤24) ∧ ∀ j,j<h.orders.length→(Nn h.orders j).txs.length≤24
instance (h:Zl):Decidable (Zbw h):=by unfold Zbw;exact inferInstance
def ZlT (d:Zgj):Prop:=Zbw ⟨d.was,d.old⟩∧Zbw ⟨d.now,d.new⟩
instance (d:Zgj):Decidable (ZlT d):=by unfold ZlT;exact inferInstance
theorem Zuv {α:Type} [Inhabited α] {q:List α} {x:α} (h:x ∈ q):∃ j,j<q.length∧Nn q j=x:=by
 obtain ⟨j,hj,e⟩:=YR h
 exact ⟨j,hj,by rw [nth_eq hj];exact e⟩
theorem ZlT.ok {d:Zgj} (h:ZlT d):DOk d:=by
 obtain ⟨⟨h1,h2,h3,h4⟩,h5,h6,h7,h8⟩:=h
 dsimp only at h1 h2 h3 h4 h5 h6 h7 h8
 refine ⟨⟨ow,fun t ht=>?_⟩,⟨ow,fun t ht=>?_⟩,⟨ow,fun t ht=>?_⟩,⟨ow,fun t ht=>?_⟩⟩ <;> obtain ⟨j,hj,rfl⟩:=Zuv ht
 ·have:=h3 j hj;omega
 ·have:=h7 j hj;omega
 ·have:=h4 j hj;omega
 ·have:=h8 j hj;omega
theorem ZqV (u:Zl):FnP prog 8 [.agg (Zr u)] (.bool (decide (Zbw u))):=by
 refine FnP.mk func8 rfl ntmps8 rfl fun B a w F Z hfr G=>?_
 obtain ⟨hxl,hyl⟩:=Sat.lenHist G (i:=0) rfl
 refine Ya (rS G (qx 101 r1 qB) Z Q3 KN fun τ G=>?_)
 have G:=X5
 generalize τ 1=v1 at G
 refine Za (Ya (Ya (rZ G (qg 0 101 r1 r1 (qa 101 r1 r1 (qu Yb4 r1 (qf (Zad .t qi) r1 qz (qR rr (qv 1 101 rfl r2 r1 (qw 101 rfl r2 r1 (qk rfl (fun h=>ZcS Yb7 (.w h)) r2 qz (qk rfl (fun h=>Zad (.w h) qi) r2 qz (qf (Zaq .t .t) r2 qz qZ)))))))))) Z [16,2,1] KN fun G=>?_)))
 refine Zb G rfl (fun hc0=>?_) (fun hc0=>?_)
 ·have hg:false=decide (Zbw u):=by
    rw [Yaj,Yr]
    rintro ⟨g1,g2,g3,g4⟩
    simp at hc0;omega
  refine Ya (rZ G qB Z Q3 KN fun G=>(Yj (Zh ?_)))
  refine Zo hfr G rfl rfl rfl (.bool hg)
 have hb:u.txs.length≤12∧u.orders.length≤24:=Wl
 refine Yf (Za (Ya (Ya (rZ G (qg 0 101 r1 r1 (qa 101 r1 r1 (qu Yb4 r1 (qJ qZ)))) Z [20,19,18,2,1] KN fun G=>Yi ?_))))
 obtain ⟨F,G⟩:=G.nM [20,19,18,1] KN
 refine ZY (σ:=Nat) (fun s=>(⟨[(1,.pv (.is v1)),(18,.pv (.sl rTx u.txs)),(19,.pv (.int .i64 u.txs.length)),(20,.pv (.int .i64 s))],[(0,frame B),(101,.pt (.val v1) 25 [.pv (.sl rTx u.txs),.pv (.sl ZK u.orders)])]⟩:En)) (fun s=>s≤u.txs.length ∧ ∀ j,j<s→(Nn u.txs j).ops.length≤24) (fun s=>u.txs.length - s) 0 G ⟨YA _,fun j hj=>absurd hj (Yah j)⟩ ?_
 clear G;intro i a w F hC G
 have hC:=X4
 have G:=X3
 obtain ⟨hi,hq⟩:=hC
 refine Ya (rZ G (qL r2) Z [21,20,19,18,1] KN fun G=>Ya ?_)
 refine Zb G rfl (fun hc1=>?_) (fun hc1=>?_)
 ·have hil:i<u.txs.length:=WE
  refine Yf (Za (Ya (Yi (Ya (rS G (qy 3 Yb4 r2 (qf (oR true 3 .t) r1 qz (qf (oH [.int .i64 0,.bool false,.slice none 0 0] 102) trivial qz (qS 3 102 r2 r1 qZ)))) Z [20,19,18,4,1] KP fun τ G=>?_)))))
  have G:=X0
  generalize τ 4=v4 at G
  refine Za (Ya (rZ G (qg 2 102 r1 r1 (qa 102 r1 r1 (qu YbZ r1 (qf (Zad .t qi) r1 qz qZ)))) Z [27,20,19,18,1] KN fun G=>?_))
  refine Zb G rfl (fun hc2=>?_) (fun hc2=>?_)
  ·have hg:false=decide (Zbw u):=by
     rw [Yaj,Yr]
     rintro ⟨g1,g2,g3,g4⟩
     have:=g3 i hil;rw [Yg] at hc2;simp at hc2;omega
   refine Ya (rZ G qB Z [20,19,18,2,1] KN fun G=>(Yj (Zn (Zh (Zh (Zn (Zh ?_)))))))
   refine Zo hfr G rfl rfl rfl (.bool hg)
  have hqi:(Nn u.txs i).ops.length≤24:=by rw [Yg] at hc2;simp at hc2;omega
  refine Yf (Ze (Za (rZ G (qp r1 (qR rr qZ)) Z [20,19,18,1] KN fun G=>?_)))
  replace G:=G.eI 20 i
  obtain ⟨F,G⟩:=G.nM [20,19,18,1] KN
  exact ⟨i+1,F,⟨ow,fun j hj=>by rcases YY (Yag hj) with h | h;exact hq j h;rw [h];exact hqi⟩,G,ow⟩
 have hT:∀ j,j<u.txs.length→(Nn u.txs j).ops.length≤24:=fun j hj=>hq j WE
 clear hq hi
 refine Yz (Zg (Zg (Zm (Za (Ya (Ya (rZ G (qg 1 101 r1 r1 (qa 101 r1 r1 (qu Yb7 r1 (qJ qZ)))) Z G8 [0] fun G=>Yi ?_)))))))
 obtain ⟨F,G⟩:=G.nM G8 [0]
 refine ZY (σ:=Nat) (fun s=>(⟨[(30,.pv (.sl ZK u.orders)),(31,.pv (.int .i64 u.orders.length)),(32,.pv (.int .i64 s))],[(0,frame B)]⟩:En)) (fun s=>s≤u.orders.length ∧ ∀ j,j<s→(Nn u.orders j).txs.length≤24) (fun s=>u.orders.length - s) 0 G ⟨YA _,fun j hj=>absurd hj (Yah j)⟩ ?_
 clear G;intro i a w F hC G
 have hC:=X4
 have G:=X3
 obtain ⟨hi,hq⟩:=hC
 refine Ya (rZ G (qL r2) Z [33,32,31,30] [0] fun G=>Ya ?_)
 refine Zb G rfl (fun hc3=>?_) (fun hc3=>?_)
 ·have hil:i<u.orders.length:=Kb
  refine Yf (Za (Ya (Yi (Ya (rS G (qy 2 Yb7 r2 (qf (oR true 2 .t) r1 qz (qf (oH [.int .i64 0,.slice none 0 0] 103) trivial qz (qS 2 103 r2 r1 qZ)))) Z [32,31,30,6] [103,0] fun τ G=>?_)))))
  have G:=X0
  generalize τ 6=v6 at G
  refine Za (Ya (rZ G (qg 1 103 r1 r1 (qa 103 r1 r1 (qu YbY r1 (qf (Zad .t qi) r1 qz qZ)))) Z [39,32,31,30] [0] fun G=>?_))
  refine Zb G rfl (fun hc4=>?_) (fun hc4=>?_)
  ·have hg:false=decide (Zbw u):=by
     rw [Yaj,Yr]
     rintro ⟨g1,g2,g3,g4⟩
     have:=g4 i hil;rw [Yg] at hc4;simp at hc4;omega
   refine Ya (rZ G qB Z [32,31,30,2] [0] fun G=>(Yj (Zn (Zh (Zh (Zn (Zh ?_)))))))
   refine Zo hfr G rfl rfl rfl (.bool hg)
  have hqi:(Nn u.orders i).txs.length≤24:=by rw [Yg] at hc4;simp at hc4;omega
  refine Yf (Ze (Za (rZ G (qp r1 (qR rr qZ)) Z G8 [0] fun G=>?_)))
  replace G:=G.eI 32 i
  obtain ⟨F,G⟩:=G.nM G8 [0]
  exact ⟨i+1,F,⟨ow,fun j hj=>by rcases YY (Yag hj) with h | h;exact hq j h;rw [h];exact hqi⟩,G,ow⟩
 have hO:∀ j,j<u.orders.length→(Nn u.orders j).txs.length≤24:=fun j hj=>hq j (by simp at hc3;omega)
 have hg:true=decide (Zbw u):=by rw [Yaj,Yl];exact ⟨hb.1,hb.2,hT,hO⟩
 refine Yz (Zg (Zg (Zm (Za (Ya (rZ G qB Z [2] [0] fun G=>Yj ?_))))))
 refine Zo hfr G rfl rfl rfl (.bool hg)
instance (h:Zl):Decidable (Zbw h):=by unfold Zbw;exact inferInstance
theorem Zbw.small {h:Zl} (hl:Zbw h):Zcj h:=by
 obtain ⟨h1,h2,h3,h4⟩:=hl
 refine ⟨⟨ow,fun t ht=>?_⟩,ow,fun o ho=>?_⟩
 ·obtain ⟨j,hj,e⟩:=YR ht
  have:=h3 j hj
  rw [nth_eq hj,e] at this;omega
 ·obtain ⟨j,hj,e⟩:=YR ho
  have:=h4 j hj
  rw [nth_eq hj,e] at this;omega
theorem Zew {P:Program} {w:World} {d:Nat} {e:TypeId} (he:P.underlying e=some (.int .i64)) {l m:List Int} : ∀ (is:List Nat),(∀ i ∈ is,i<l.length∧i<m.length)→(Op.eqItems (d+1) e 1 (l.map fun n=>Value.int .i64 n).toArray (m.map fun n=>Value.int .i64 n).toArray is).run P w = .ok (is.all fun i=>decide (l[i]? = m[i]?)) w
 | [],_=>by simp [Op.eqItems]
 | i :: is,h=>by
  have hag:P.aggB e=some false:=by unfold Program.aggB;rw [he]
  obtain ⟨h1,h2⟩:=h i XM
  have p1:(part e (l.map fun n=>Value.int .i64 n).toArray (i*1)).run P w = .ok (.int .i64 l[i]) w:=by simp [part,ZaS hag,h1]
  have p2:(part e (m.map fun n=>Value.int .i64 n).toArray (i*1)).run P w = .ok (.int .i64 m[i]) w:=by simp [part,ZaS hag,h2]
  have p3:(Op.equalIn (d+1) e (.int .i64 l[i]) (.int .i64 m[i])).run P w = .ok (l[i] == m[i]) w:=run_equalIn_int w d e .i64 _ _ _ he
  have ih:=Zew (P:=P) (w:=w) (d:=d) he is (fun j hj=>h j (Yy _ hj))
  simp only [Op.eqItems,YD,p1,p2,p3,Yv]
  rw [List.all_cons,Yas h1,Yas h2]
  by_cases hab:l[i] = m[i]
  ·simp [hab,ih]
  ·simp [hab]
theorem Zot {l m:List Int} {n:Nat} (hl:l.length=n) (hm:m.length=n):((List.range n).all fun i=>decide (l[i]? = m[i]?))=decide (l=m):=by
 rw [Yau,Yad,Yl]
 constructor
 ·intro h
  apply List.ext_getElem?
  intro i
  by_cases hi:i<n
  ·simpa using h i (YaE.2 hi)
  ·rw [YbF ow,YbF ow]
 ·rintro rfl i _
  simp
theorem ZqG {P:Program} {κ:Type} [DecidableEq κ] {kt et:TypeId} {enc:κ→List Int} {n:Nat} (hl:∀ k,(enc k).length=n) (hi:∀ a b,enc a=enc b→a=b) (hu:P.underlying kt=some (.array n et)) (he:P.underlying et=some (.int .i64)) (hc:P.cellsOf et=1):ZjP P kt (fun k=>∀ x ∈ enc k,inR .i64 x) (kvS enc) where
 check:=fun b k w _=>by
  obtain ⟨ti,hti⟩:∃ i,P.info? et=some i:=info_of_underlying he
  have hag:P.aggB et=some false:=by unfold Program.aggB;rw [he]
  unfold kvS
  rw [show (10000:Nat)=9998+1+1 from rfl,Instr.checkKey]
  simp only [YD,Yo hu,Yv]
  simp only [Std.Legacy.Range.forIn_eq_forIn_range',Std.Legacy.Range.size,YbR,Nat.add_one_sub_one,Nat.div_one]
  have each:∀ i ∈ List.range' 0 n,i<(enc k).length:=by intro i h;rw [hl];simp [List.mem_range'] at h;omega
  generalize List.range' 0 n=is at each
  induction is with
  | nil=>simp
  | cons j is ih=>
   have h1:=each j XM
   have p1:(part et ((enc k).map fun n=>Value.int .i64 n).toArray (j*1)).run P w = .ok (.int .i64 (enc k)[j]) w:=by simp [part,ZaS hag,h1]
   have p2:(Instr.checkKey b (9998+1) et (.int .i64 (enc k)[j])).run P w = .ok () w:=Go.MapKept.run_checkKey he W9 b 9998
   simp only [List.forIn_cons,YD,run_sizeOf w hti,hc,Yv,p1,p2,YI]
   exact ih (fun y hy=>each y Wj)
 find:=fun es k w hok hks=>by
  obtain ⟨ti,hti⟩:∃ i,P.info? et=some i:=info_of_underlying he
  rw [run_findKey_eq (P:=P) (w:=w) (k:=kt) (by rw [hu]) (kvS enc k) (es.map (rEnc (kvS enc)))]
  have key:∀ (es:List (GE κ Value)) (j:Nat),(Instr.findAsking kt (kvS enc k) (es.map (rEnc (kvS enc))) j).run P w = .ok ((gIdx k es).map fun i=>(i+j,(gGet k es).getD undef)) w:=by
   intro es
   induction es with
   | nil=>intro j;simp [Instr.findAsking,gIdx]
   | cons e es ih=>
    intro j
    have hq:(Op.equal kt (kvS enc k) (kvS enc e.key)).run P w = .ok (decide (enc k=enc e.key)) w:=by
     unfold Op.equal Op.maxDepth kvS
     rw [show (10000:Nat)=9998+1+1 from rfl,run_equalIn_array w (9998+1) _ _ hu hti,hc,Zew he _ (fun i h=>by rw [hl,hl];simpa using h),Zot (hl _) (hl _)]
    rw [YG]
    unfold Instr.findAsking
    have ih':=ih (j+1)
    by_cases h:k=e.key
    ·have hek:enc k=enc e.key:=by rw [h]
     simp only [rEnc,YD,hq,hek,decide_true,Yv,Yx,YI]
     simp [gIdx,gGet,h]
    ·have hek:¬ enc k=enc e.key:=fun h'=>h (hi _ _ h')
     simp only [rEnc,YD,hq,YO hek,Yv,Ybo,Yt]
     rw [show (es.map fun e=>rEnc (kvS enc) e)=es.map (rEnc (kvS enc)) from rfl] at *
     rw [ih']
     simp only [gIdx,gGet,Yb h]
     cases hm:gIdx k es with
     | none=>rfl
     | some i=>simp;omega
  have:=key es 0
  simpa using this
 same:=fun k=>Zfx (enc k) 9999
def Zm5 {κ:Type} [DecidableEq κ] (A:List (κ×Int)) (k:κ):Int:=A.foldl (fun x z=>if k=z.1 then z.2 else x) 0
theorem Zjf {κ:Type} [DecidableEq κ] {A:List (κ×Int)} {z:κ×Int} {k:κ} : Zm5 (A ++ [z]) k=if k=z.1 then z.2 else Zm5 A k:=by unfold Zm5;rw [Ya2];rfl
theorem Zqk {κ:Type} [DecidableEq κ] {k:κ} (A:List (κ×Int)) (hA:∀ z ∈ A,z.2=1):0≤Zm5 A k∧Zm5 A k≤1:=by
 have key:∀ (A:List (κ×Int)) (x:Int),(∀ z ∈ A,z.2=1)→0≤x∧x≤1→0≤A.foldl (fun x z=>if k=z.1 then z.2 else x) x∧A.foldl (fun x z=>if k=z.1 then z.2 else x) x≤1:=by
  intro A
  induction A with
  | nil=>intro x _ h;exact h
  | cons z A ih=>
   intro x hz hx
   rw [Yav]
   refine ih _ (fun y hy=>hz y (Yy _ hy)) ?_
   have:=hz z XM
   split <;> omega
 exact key A 0 hA ow
structure Zdn where
 fst:Int
 snd:Int
 deriving DecidableEq,Inhabited
def ZeG (k:Zdn):List Int:=[k.fst,k.snd]
def Zag (e:Zi):List Int:=[e.src,e.dst,e.kind,e.key]
def Zc2 (l:List TxD):List (Int×Int):=(l.filter TxD.done).map fun t=>(t.id,1)
def ZbN (id:Int) (l:List OpD):List Zdn:=(l.filter fun o=>!o.read).map fun o=>⟨id,o.key⟩
def lastK (l:List TxD):List Zdn:=l.flatMap fun t=>if t.done=true then ZbN t.id t.ops else []
def atI (l:List Int) (j:Nat):Int:=if j=0 then 0 else Nn l (j - 1)
def nxO (o:OrdD) (j:Nat):List (Zdn×Int):=(List.range j).map fun i=>(⟨o.key,atI o.txs i⟩,Nn o.txs i)
def nxA (l:List OrdD):List (Zdn×Int):=l.flatMap fun o=>nxO o o.txs.length
theorem Zgg {l:List TxD} {i:Nat} (hi:i<l.length):Zc2 (l.take (i+1))=Zc2 (l.take i)++if (Nn l i).done=true then [((Nn l i).id,1)] else []:=by
 unfold Zc2
 rw [Zy hi,Yai,Y3]
 cases hd:(Nn l i).done <;> simp [hd]
theorem ZgF {l:List TxD} {i:Nat} (hi:i<l.length):lastK (l.take (i+1))=lastK (l.take i)++if (Nn l i).done=true then ZbN (Nn l i).id (Nn l i).ops else []:=by
 unfold lastK
 rw [Zy hi,Y2]
 simp
theorem Zf9 {id:Int} {l:List OpD} {j:Nat} (hj:j<l.length):ZbN id (l.take (j+1))=ZbN id (l.take j)++if (Nn l j).read=true then [] else [⟨id,(Nn l j).key⟩]:=by
 unfold ZbN
 rw [Zy hj,Yai,Y3]
 cases hd:(Nn l j).read <;> simp [hd]
theorem Zg2 (id:Int) (l:List OpD):(ZbN id l).length≤l.length:=by unfold ZbN;rw [YJ];exact Yac _ _
theorem ZoW {l:List TxD} (h:Zbg l) (i:Nat):(lastK (l.take i)).length≤1000*i:=by
 have key:∀ l:List TxD,(∀ t ∈ l,t.ops.length≤1000)→(lastK l).length≤1000*l.length:=by
  intro l
  induction l with
  | nil=>intro _;simp [lastK]
  | cons t l ih=>
   intro h
   have h1:=ih fun x hx=>h x XO
   have h2:=h t XM
   have h3:=Zg2 t.id t.ops
   unfold lastK at h1 ⊢
   rw [Y0,Yc,Yh]
   split
   ·omega
   ·simp only [Yq];omega
 have h1:=key (l.take i) fun t ht=>h.2 t (Yaw ht)
 have h2:(l.take i).length≤i:=Wm
 exact Yaa h1 (Ybi _ h2)
theorem Zrx {o:OrdD} {j:Nat} : nxO o (j+1)=nxO o j ++ [(⟨o.key,atI o.txs j⟩,Nn o.txs j)]:=by unfold nxO;rw [List.range_succ,Y3];rfl
theorem Zqs {l:List OrdD} {i:Nat} (hi:i<l.length):nxA (l.take (i+1))=nxA (l.take i)++nxO (Nn l i) (Nn l i).txs.length:=by
 unfold nxA
 rw [Zy hi,Y2]
 simp
def Zm9 {κ:Type} [DecidableEq κ] (es:List (GE κ Int)) (A:List (κ×Int)):Prop:=∀ k,(gGet k es).getD 0=Zm5 A k
def Zp4 {κ:Type} [DecidableEq κ] (es:List (GE κ Int)) (R:List κ):Prop:=∀ k,(gGet k es).getD 0=(R.count k:Int)
theorem ZpC {κ:Type} [DecidableEq κ] {es:List (GE κ Int)} {A:List (κ×Int)} {ck:Nat} {k:κ} {x:Int} (h:Zm9 es A):Zm9 (gPut k x (es,ck)).1 (A ++ [(k,x)]):=fun k'=>by
 rw [ZaQ,Zjf,← h k']
 split <;> rfl
theorem ZtB {κ:Type} [DecidableEq κ] {es:List (GE κ Int)} {R:List κ} {ck:Nat} {k:κ} (h:Zp4 es R) (hl:R.length≤100000000):Zp4 (gSet k (IntKind.wrap .i64 ((gGet k es).getD 0+1)) (gEns 0 k (es,ck)).1) (R ++ [k]):=fun k'=>by
 have hc:R.count k≤R.length:=List.count_le_length
 rw [ZcM,h k,wrap_i64 ow,YbJ]
 by_cases e:k' = k
 ·subst e;rw [Ye rfl];simp
 ·rw [Yb e,h k'];simp [List.count_cons,Ne.symm e]
def Zix (g:Zl) (id:Int):Int:=Zm5 (Zc2 g.txs) id
def Zmp (g:Zl) (id k:Int):Int:=((lastK g.txs).count ⟨id,k⟩:Int)
def nxI (g:Zl) (k x:Int):Int:=Zm5 (nxA g.orders) ⟨k,x⟩
def Zss (g:Zl) (t:TxD) (o:OpD):Bool:=decide (o.tx=t.id) || (!decide (o.tx=0) && (decide (Zix g o.tx=0) || !decide (Zmp g o.tx o.key=o.nth)))
def rdA (t:TxD) (o:OpD):List Zi:=if o.tx=0 then [] else [⟨o.tx,t.id,2,o.key⟩]
def rdB (g:Zl) (t:TxD) (o:OpD):List Zi:=if nxI g o.key o.tx≠0∧nxI g o.key o.tx≠t.id then [⟨t.id,nxI g o.key o.tx,3,o.key⟩] else []
def rdO (g:Zl) (t:TxD) (o:OpD):List Zi:=if Zss g t o=true then [] else rdA t o++rdB g t o
theorem Zuk (g:Zl) (t:TxD) (o:OpD):(rdO g t o).length≤2:=by
 unfold rdO rdA rdB
 split
 ·simp
 ·split <;> split <;> simp
def rdT (p:Int→Bool) (g:Zl) (t:TxD) (l:List OpD):List Zi:=l.flatMap fun o=>if (t.done && (o.read && p o.key))=true then rdO g t o else []
def rdH (p:Int→Bool) (g:Zl) (l:List TxD):List Zi:=l.flatMap fun t=>rdT p g t t.ops
theorem Zlg {p:Int→Bool} {g:Zl} {t:TxD} {l:List OpD} {j:Nat} (hj:j<l.length):rdT p g t (l.take (j+1))=rdT p g t (l.take j)++if (t.done && ((Nn l j).read && p (Nn l j).key))=true then rdO g t (Nn l j) else []:=by
 unfold rdT
 rw [Zy hj,Y2]
 simp
theorem Zp9 {p:Int→Bool} {g:Zl} {l:List TxD} {i:Nat} (hi:i<l.length):rdH p g (l.take (i+1))=rdH p g (l.take i)++rdT p g (Nn l i) (Nn l i).ops:=by
 unfold rdH
 rw [Zy hi,Y2]
 simp
theorem Zos (p:Int→Bool) (g:Zl) (t:TxD) (l:List OpD):(rdT p g t l).length≤2*l.length:=by
 induction l with
 | nil=>simp [rdT]
 | cons o l ih=>
  have h1:=Zuk g t o
  unfold rdT at ih ⊢
  rw [Y0,Yc,Yh]
  split
  ·omega
  ·simp only [Yq];omega
theorem Znn {p:Int→Bool} {g:Zl} {l:List TxD} (h:Zbg l) (i:Nat):(rdH p g (l.take i)).length≤2000*i:=by
 have key:∀ l:List TxD,(∀ t ∈ l,t.ops.length≤1000)→(rdH p g l).length≤2000*l.length:=by
  intro l
  induction l with
  | nil=>intro _;simp [rdH]
  | cons t l ih=>
   intro h
   have h1:=ih fun x hx=>h x XO
   have h2:=h t XM
   have h3:=Zos p g t t.ops
   unfold rdH at h1 ⊢
   rw [Y0,Yc,Yh]
   omega
 have h1:=key (l.take i) fun t ht=>h.2 t (Yaw ht)
 have h2:(l.take i).length≤i:=Wm
 exact Yaa h1 (Ybi _ h2)
def wwO (o:OrdD) (j:Nat):List (Zi×Int):=(List.range j).map fun i=>(⟨Nn o.txs i,Nn o.txs (i+1),1,o.key⟩,1)
def wwA (p:Int→Bool) (l:List OrdD):List (Zi×Int):=l.flatMap fun o=>if p o.key=true then wwO o (o.txs.length - 1) else []
theorem Zqg {o:OrdD} {j:Nat} : wwO o (j+1)=wwO o j ++ [(⟨Nn o.txs j,Nn o.txs (j+1),1,o.key⟩,1)]:=by unfold wwO;rw [List.range_succ,Y3];rfl
theorem Zqu {p:Int→Bool} {l:List OrdD} {i:Nat} (hi:i<l.length):wwA p (l.take (i+1))=wwA p (l.take i)++if p (Nn l i).key=true then wwO (Nn l i) ((Nn l i).txs.length - 1) else []:=by
 unfold wwA
 rw [Zy hi,Y2]
 simp
theorem ZoY {κ ν:Type} [DecidableEq κ] (k:κ) (v:ν):∀ es:List (GE κ ν),(gSet k v es).length=es.length
 | []=>rfl
 | e :: es=>by
  unfold gSet
  split
  ·rfl
  ·rw [Yh,Yh,ZoY k v es]
theorem Zu0 {κ ν:Type} [DecidableEq κ] (k:κ) (v:ν) (s:List (GE κ ν)×Nat):(gPut k v s).1.length≤s.1.length+1:=by
 unfold gPut
 split
 ·show (gSet k v s.1).length≤_
  rw [ZoY];omega
 ·show (s.1 ++ [_]).length≤_
  rw [Yc];simp
theorem Zvu {κ ν:Type} [DecidableEq κ] (z:ν) (k:κ) (s:List (GE κ ν)×Nat):(gEns z k s).1.length≤s.1.length+1:=by
 unfold gEns
 split
 ·omega
 ·show (s.1 ++ [_]).length≤_
  rw [Yc];simp
structure Zg0 (es:List (GE Zi Int)) (A:List (Zi×Int)) (R:List Zi):Prop where
 val:∀ e,(gGet e es).getD 0=Zm5 A e+(R.count e:Int)
 one:∀ z ∈ A,z.2=1
 key:∀ e,(gGet e es).isSome=true ↔ (e ∈ A.map Prod.fst∨e ∈ R)
 len:es.length≤A.length+R.length
theorem ZlD:Zg0 [] [] []:=⟨fun _=>rfl,by simp,fun e=>by simp [gGet],YA _⟩
theorem ZuA {es:List (GE Zi Int)} {A:List (Zi×Int)} {ck:Nat} {e:Zi} (h:Zg0 es A []):Zg0 (gPut e 1 (es,ck)).1 (A ++ [(e,1)]) []:=⟨fun k=>by
 have:=h.val k
 rw [ZaQ,Zjf]
 split
 ·rfl
 ·rw [this],fun z hz=>by
 rcases YC.1 hz with h1 | h1
 ·exact h.one z h1
 ·simp at h1;rw [h1],fun k=>by
 rw [ZaQ,Y3,YC]
 by_cases hk:k=e
 ·rw [Ye hk];simp [hk]
 ·rw [Yb hk,h.key k];simp [hk],by
 have h1:=h.len
 have h2:=Zu0 e (1:Int) (es,ck)
 rw [Yc]
 simp only [Yh,Yq] at h1 h2 ⊢
 omega⟩
theorem Zkt {es:List (GE Zi Int)} {A:List (Zi×Int)} {R:List Zi} {ck:Nat} {e:Zi} (h:Zg0 es A R) (hl:R.length≤100000000):Zg0 (gSet e (IntKind.wrap .i64 ((gGet e es).getD 0+1)) (gEns 0 e (es,ck)).1) A (R ++ [e]):=⟨fun k=>by
 have hc:R.count e≤R.length:=List.count_le_length
 have h1:=Zqk (k:=e) A h.one
 rw [ZcM,h.val e,wrap_i64 ow,YbJ]
 by_cases hk:k=e
 ·subst hk;rw [Ye rfl];simp;omega
 ·rw [Yb hk,h.val k];simp [List.count_cons,Ne.symm hk],h.one,fun k=>by
 rw [ZcM,YC]
 by_cases hk:k=e
 ·rw [Ye hk];simp [hk]
 ·rw [Yb hk,h.key k];simp [hk],by
 have h1:=h.len
 have h2:=Zvu (0:Int) e (es,ck)
 rw [ZoY,Yc]
 simp only [Yh,Yq] at h1 h2 ⊢
 omega⟩
structure FS where
 mA:Value
 mB:Value
 mC:Value
 eA:List (GE Int Int)
 kA:Nat
 eB:List (GE Zdn Int)
 kB:Nat
 eC:List (GE Zdn Int)
 kC:Nat
structure Zws (g:Zl) (s:FS):Prop where
 dn:Zm9 s.eA (Zc2 g.txs)
 la:Zp4 s.eB (lastK g.txs)
 nx:Zm9 s.eC (nxA g.orders)
theorem ZgR:ZjP prog 271 (fun k=>∀ x ∈ ZeG k,inR .i64 x) (kvS ZeG):=ZqG (et:=3) (n:=2) (fun _=>rfl) (fun a b h=>by cases a;cases b;simpa [ZeG] using h) kr kr kr
theorem ZcL:ZjP prog 116 (fun k=>∀ x ∈ Zag k,inR .i64 x) (kvS Zag):=Zc9 (n:=4) (fun _=>rfl) (fun a b h=>by cases a;cases b;simpa [Zag] using h) kr
def Zsy (g:Zl) (s:FS) (v:Value):List RS:=[.pt (.val v) 270 [.pv (.sl rTx g.txs),.pv (.sl ZK g.orders),.pv (.is s.mA),.pv (.is s.mB),.pv (.is s.mC)],.ob (.val s.mA) (mapG (fun n:Int=>PV.int .i64 n) (fun _=>True) (fun n:Int=>Value.int .i64 n) s.eA s.kA),.ob (.val s.mB) (mapG (fun n:Int=>PV.int .i64 n) (fun k=>∀ x ∈ ZeG k,inR .i64 x) (kvS ZeG) s.eB s.kB),.ob (.val s.mC) (mapG (fun n:Int=>PV.int .i64 n) (fun k=>∀ x ∈ ZeG k,inR .i64 x) (kvS ZeG) s.eC s.kC)]
def Zm3 (g:Zl) (v:Value):HP:=.ex fun s:FS=>.and (Zws g s) (.star (Zsy g s v))
def Zgm (A:List (Zi×Int)) (R:List Zi) (v:Value):HP:=.ex fun s:List (GE Zi Int)×Nat=>.and (Zg0 s.1 A R) (mapG (fun n:Int=>PV.int .i64 n) (fun k=>∀ x ∈ Zag k,inR .i64 x) (kvS Zag) s.1 s.2 v)
theorem Zvo (g:Zl) (hsm:Zcj g):FnG prog 127 1 [.agg (Zr g)] [.star []] (PV.ptr) (fun v=>[Zm3 g v]):=by
 refine FnG.mk func127 rfl ntmps127 rfl kr fun B F0 a w F Z hG G=>?_
 have hs:=hsm.1
 have hsl:=hs.1
 have hso:=hsm.2
 have hol1:=hso.1
 refine Ya (rS G (qx 101 r1 (qC qZ)) Z Q3 KS fun τ G=>?_)
 have G:=X2
 generalize τ 1=v1 at G
 refine Za (Ya (rS G (qe 2 101 r1 r1 (qf (Z8 (ek:=(fun n:Int=>PV.int .i64 n)) (ok:=(fun _=>True)) (kv:=(fun n:Int=>Value.int .i64 n)) 102) trivial qz (qf (Z8 (ek:=(fun n:Int=>PV.int .i64 n)) (ok:=(fun k=>∀ x ∈ ZeG k,inR .i64 x)) (kv:=(kvS ZeG)) 103) trivial qz (qf (Z8 (ek:=(fun n:Int=>PV.int .i64 n)) (ok:=(fun k=>∀ x ∈ ZeG k,inR .i64 x)) (kv:=(kvS ZeG)) 104) trivial qz (qf (oB [(0,.tmp 13),(1,.tmp 14),(2,.tmp 15),(3,.tmp 16)] [.slice none 0 0,.slice none 0 0,.map none,.map none,.map none] [(0,2),(2,1),(3,1),(4,1)] (.agg rfl .t kr kr (.same rfl kr (.same rfl kr (.same rfl kr .nil))))) r4 qz (qf (oX 105 .t) r1 qz (qO rr qZ))))))) Z Qa Q9 fun τ G=>?_))
 have G:=X1
 generalize τ 18=v18,τ 14=v14 at G
 generalize τ 15=v15,τ 16=v16 at G
 refine Za (Ya (Ya (rZ G (qg 0 101 r1 r1 (qa 101 r1 r1 (qu Yb4 r1 (qJ qZ)))) Z Jf Q9 fun G=>Yi ?_)))
 refine Zk (σ:=(Nat)×(List (GE Int Int))×(Nat)×(List (GE Zdn Int))×(Nat)) [1,2,3,20,21] [0,1,101,104,105] (fun s=>[(22,.pv (.int .i64 (s.1:Int)))]) (fun s=>[(102,.ob (.val v14) (mapG (fun n:Int=>PV.int .i64 n) (fun _=>True) (fun n:Int=>Value.int .i64 n) s.2.1 s.2.2.1)),(103,.ob (.val v15) (mapG (fun n:Int=>PV.int .i64 n) (fun k=>∀ x ∈ ZeG k,inR .i64 x) (kvS ZeG) s.2.2.2.1 s.2.2.2.2))]) (fun s=>s.1≤g.txs.length∧(Zm9 s.2.1 (Zc2 (g.txs.take s.1))∧Zp4 s.2.2.2.1 (lastK (g.txs.take s.1)))) (fun s=>g.txs.length - s.1) ((0),([]),(0),([]),(0)) G ⟨rfl,rfl,rfl,rfl,rfl,rfl,tv⟩ ⟨rfl,rfl,rfl,rfl,rfl,rfl,rfl,tv⟩ ⟨YA _,⟨fun _=>rfl,fun _=>rfl⟩⟩ ?_
 clear G;intro s a w F hC G
 obtain ⟨i,eA,kA,eB,kB⟩:=s
 have hC:=X4
 obtain ⟨F,G⟩:=G.nM Jf Q9
 have G:=X3
 obtain ⟨hi,hq⟩:=hC
 have hxl:=fun hil:i<g.txs.length=>hs.at hil
 refine Ya (rZ G (qL r2) Z [23,22,21,20,3,2,1] Q9 fun G=>Ya ?_)
 refine Zb G rfl (fun hc0=>?_) (fun hc0=>?_)
 ·have hil:i<g.txs.length:=Wl
  have hio:=hil
  have htl:=hxl hil
  have hsl:=hs.1
  have hdn0:=hq.1
  have hcn:=hq.2
  refine Yf (Za (Ya (Yi (Ya (rS G (qy 3 Yb4 r2 (qf (oR true 3 .t) r1 qz (qf (oH [.int .i64 0,.bool false,.slice none 0 0] 106) trivial qz (qS 3 106 r2 r1 qZ)))) Z [22,21,20,5,3,2,1] Q2 fun τ G=>?_)))))
  have G:=X1
  generalize τ 5=v5 at G
  try simp only [Yg] at G
  refine Za (Ya (Ya (rZ G (qg 1 106 r1 r1 (qa 106 r1 r1 (qf (o_not .t) r1 qz qZ))) Z [28,22,21,20,5,3,2,1] Q2 fun G=>?_)))
  refine Zb G rfl (fun hc1=>?_) (fun hc1=>?_)
  ·have hdn:(Nn g.txs i).done=false:=Wg
   obtain ⟨eA2,heA2⟩:∃ z,z=eA:=⟨_,rfl⟩
   obtain ⟨kA2,hkA2⟩:∃ z,z=kA:=⟨_,rfl⟩
   obtain ⟨eB2,heB2⟩:∃ z,z=eB:=⟨_,rfl⟩
   obtain ⟨kB2,hkB2⟩:∃ z,z=kB:=⟨_,rfl⟩
   rw [← heA2,← hkA2,← heB2,← hkB2] at G
   have hR2:Zm9 eA2 (Zc2 (g.txs.take (i+1)))∧Zp4 eB2 (lastK (g.txs.take (i+1))):=by rw [heA2,heB2,Zgg hio,ZgF hio,Yb (by rw [hdn];simp),Yb (by rw [hdn];simp),YQ,YQ];exact ⟨hdn0,hcn⟩
   refine Yz (Zg (Zm (Za (rZ G (qp r1 (qR rr qZ)) Z Jf Q2 fun G=>?_))))
   replace G:=G.eI 22 i
   obtain ⟨F,G⟩:=G.nM [21,20,3,2,1,22] JO
   exact ⟨((i+1),(eA2),(kA2),(eB2),(kB2)),F,⟨ow,hR2⟩,G,ow⟩
  have hdn:(Nn g.txs i).done=true:=Wg
  refine Yf (Za (Ya (Zv G (qR rr (qf (o_nilCheck 105 .is XV) r1 r1 (qf (oF 2 105 .adr) r1 r1 (qa 105 r1 r1 (qg 0 106 r1 r1 (qa 106 r1 r1 (qf (o_mapUpdateG (ek:=(fun n:Int=>PV.int .i64 n)) 102 Ycf (Za2 Yb1) .is (Zw.int .t rfl) qi) r2 r1 qZ))))))) Z [22,21,20,5,3,2,1] Q2 rfl rfl fun a w F G=>?_)))
  have G:=Xf
  obtain ⟨eA2,heA2⟩:∃ z,z=(gPut (Nn g.txs i).id 1 (eA,kA)).1:=⟨_,rfl⟩
  obtain ⟨kA2,hkA2⟩:∃ z,z=(gPut (Nn g.txs i).id 1 (eA,kA)).2:=⟨_,rfl⟩
  rw [← heA2,← hkA2] at G
  refine Za (Ya (rZ G (qg 2 106 r1 r1 (qa 106 r1 r1 (qu YbZ r1 (qJ qZ)))) Z Qn Q2 fun G=>Yi ?_))
  refine Zk (σ:=(Nat)×(List (GE Zdn Int))×(Nat)) [1,2,3,5,20,21,22,36,37] [0,1,101,102,104,105,106] (fun s=>[(38,.pv (.int .i64 (s.1:Int)))]) (fun s=>[(103,.ob (.val v15) (mapG (fun n:Int=>PV.int .i64 n) (fun k=>∀ x ∈ ZeG k,inR .i64 x) (kvS ZeG) s.2.1 s.2.2))]) (fun s=>s.1≤(Nn g.txs i).ops.length∧(Zp4 s.2.1 (lastK (g.txs.take i)++ZbN (Nn g.txs i).id ((Nn g.txs i).ops.take s.1)))) (fun s=>(Nn g.txs i).ops.length - s.1) ((0),(eB),(kB)) G ⟨rfl,rfl,rfl,rfl,rfl,rfl,rfl,rfl,rfl,rfl,tv⟩ ⟨rfl,rfl,rfl,rfl,rfl,rfl,rfl,rfl,tv⟩ ⟨YA _,(by show Zp4 _ (lastK (g.txs.take i) ++ []);rw [YQ];exact hcn)⟩ ?_
  clear G;intro s a w F hC G
  obtain ⟨j,eB3,kB3⟩:=s
  have hC:=X4
  obtain ⟨F,G⟩:=G.nM Qn Q2
  have G:=X3
  obtain ⟨hi,hq⟩:=hC
  refine Ya (rZ G (qL r2) Z [39,38,37,36,22,21,20,5,3,2,1] Q2 fun G=>Ya ?_)
  refine Zb G rfl (fun hc2=>?_) (fun hc2=>?_)
  ·have hil:j<(Nn g.txs i).ops.length:=Kj
   refine Yf (Za (Ya (Yi (Ya (rS G (qy 4 YbZ r2 (qf (oR true 4 .t) r1 qz (qf (oH [.bool false,.int .i64 0,.int .i64 0,.int .i64 0] 107) trivial qz (qS 4 107 r2 r1 qZ)))) Z [38,37,36,22,21,20,7,5,3,2,1] Qg fun τ G=>?_)))))
   have G:=X1
   generalize τ 7=v7 at G
   try simp only [Yg] at G
   refine Za (Ya (rZ G (qg 0 107 r1 r1 (qa 107 r1 r1 (qf (o_not .t) r1 qz qZ))) Z [44,38,37,36,22,21,20,7,5,3,2,1] Qg fun G=>?_))
   refine Zb G rfl (fun hc3=>?_) (fun hc3=>?_)
   ·have hrd:(Nn (Nn g.txs i).ops j).read=false:=KM
    replace G:=G.turnZ 103 (0) (⟨(Nn g.txs i).id,(Nn (Nn g.txs i).ops j).key⟩:Zdn) rfl
    refine ZaZ 103 13 (m1:=1) (m2:=2) kr G kr (qR rr (qf (o_nilCheck 105 .is XV) r1 r1 (qf (oF 3 105 .adr) r1 r1 (qa 105 r1 r1 (qg 0 106 r1 r1 (qa 106 r1 r1 (qg 1 107 r1 r1 (qa 107 r1 r1 (qf (Zcc (sz:=1) (r:=[(0,.tmp 50),(1,.tmp 52)]) (zs:=[.int .i64 0,.int .i64 0]) (pl:=[(0,1),(1,1)]) underlying271 kr kr rfl (.one rfl .t one_int kr (.one rfl .t one_int kr .nil)) XV) r2 qz (qf (ZbX (ek:=(fun n:Int=>PV.int .i64 n)) (z0:=(0)) 103 Yci ZgR kr (fun _ _=>⟨rfl,Zc5⟩) .is (Zw.agg (enc:=ZeG) (k:=(⟨(Nn g.txs i).id,(Nn (Nn g.txs i).ops j).key⟩:Zdn)) (.pagg .t) rfl)) r2 r1 (qp r1 (qf (ZaW (ek:=(fun n:Int=>PV.int .i64 n)) (z0:=(0)) 103 Yci ZgR kr (fun _ _=>⟨rfl,Zc5⟩) .is (Zw.agg (enc:=ZeG) (k:=(⟨(Nn g.txs i).id,(Nn (Nn g.txs i).ops j).key⟩:Zdn)) (.pagg .t) rfl) WF) r2 r1 (qf (Zs .t rfl) r1 qz (qf (ZaC 103 (ZbA _ _ _) .is .t .t) r3 r1 qZ)))))))))))))) kr kr kr rfl rfl rfl (fun _ _ _ _ h=>.inr h) WG fun a w F G=>?_
    obtain ⟨F,G⟩:=G.nM Qn Qg
    have G:=X6
    obtain ⟨eB4,heB4⟩:∃ z,z=gSet (⟨(Nn g.txs i).id,(Nn (Nn g.txs i).ops j).key⟩:Zdn) (IntKind.wrap .i64 ((gGet (⟨(Nn g.txs i).id,(Nn (Nn g.txs i).ops j).key⟩:Zdn) eB3).getD 0+1)) (gEns 0 (⟨(Nn g.txs i).id,(Nn (Nn g.txs i).ops j).key⟩:Zdn) (eB3,kB3)).1:=⟨_,rfl⟩
    obtain ⟨kB4,hkB4⟩:∃ z,z=(gEns 0 (⟨(Nn g.txs i).id,(Nn (Nn g.txs i).ops j).key⟩:Zdn) (eB3,kB3)).2:=⟨_,rfl⟩
    rw [← heB4,← hkB4] at G
    have hR3:Zp4 eB4 (lastK (g.txs.take i)++ZbN (Nn g.txs i).id ((Nn g.txs i).ops.take (j+1))):=by rw [heB4,Zf9 hil,Yb (by rw [hrd];simp),← Y1];exact ZtB hq (by have h1:=ZoW hs i;have h2:=Zg2 (Nn g.txs i).id ((Nn g.txs i).ops.take j);rw [Yp] at h2;rw [Yc];omega)
    refine Ze (Za (rZ G (qp r1 (qR rr qZ)) Z Qn Qg fun G=>?_))
    replace G:=G.eI 38 j
    obtain ⟨F,G⟩:=G.nM JF Jt
    exact ⟨((j+1),(eB4),(kB4)),F,⟨ow,hR3⟩,G,ow⟩
   have hrd:(Nn (Nn g.txs i).ops j).read=true:=KM
   obtain ⟨eB4,heB4⟩:∃ z,z=eB3:=⟨_,rfl⟩
   obtain ⟨kB4,hkB4⟩:∃ z,z=kB3:=⟨_,rfl⟩
   rw [← heB4,← hkB4] at G
   have hR3:Zp4 eB4 (lastK (g.txs.take i)++ZbN (Nn g.txs i).id ((Nn g.txs i).ops.take (j+1))):=by rw [heB4,Zf9 hil,Ye hrd,YQ];exact hq
   refine Yf (Ze (Za (rZ G (qp r1 (qR rr qZ)) Z Qn Qg fun G=>?_)))
   replace G:=G.eI 38 j
   obtain ⟨F,G⟩:=G.nM JF Jt
   exact ⟨((j+1),(eB4),(kB4)),F,⟨ow,hR3⟩,G,ow⟩
  have hil:j=(Nn g.txs i).ops.length:=Kj
  rw [hil,YE] at hq
  obtain ⟨eB2,heB2⟩:∃ z,z=eB3:=⟨_,rfl⟩
  obtain ⟨kB2,hkB2⟩:∃ z,z=kB3:=⟨_,rfl⟩
  rw [← heB2,← hkB2] at G
  have hR2:Zm9 eA2 (Zc2 (g.txs.take (i+1)))∧Zp4 eB2 (lastK (g.txs.take (i+1))):=by rw [heA2,heB2,Zgg hio,ZgF hio,Ye hdn,Ye hdn];exact ⟨ZpC hdn0,hq⟩
  refine Yz (Zg (Zg (Zm (Ze (Za (rZ G (qp r1 (qR rr qZ)) Z Jf Q2 fun G=>?_))))))
  replace G:=G.eI 22 i
  obtain ⟨F,G⟩:=G.nM [21,20,3,2,1,22] JO
  exact ⟨((i+1),(eA2),(kA2),(eB2),(kB2)),F,⟨ow,hR2⟩,G,ow⟩
 have hil:i=g.txs.length:=Wl
 rw [hil,YE] at hq
 have hdA:=hq.1
 have hdB:=hq.2
 refine Yz (Zg (Zg (Zm (Za (Ya (Ya (rZ G (qg 1 101 r1 r1 (qa 101 r1 r1 (qu Yb7 r1 (qJ qZ)))) Z G5 Q9 fun G=>Yi ?_)))))))
 refine Zk (σ:=(Nat)×(List (GE Zdn Int))×(Nat)) [2,3,61,62] [0,1,101,102,103,105] (fun s=>[(63,.pv (.int .i64 (s.1:Int)))]) (fun s=>[(104,.ob (.val v16) (mapG (fun n:Int=>PV.int .i64 n) (fun k=>∀ x ∈ ZeG k,inR .i64 x) (kvS ZeG) s.2.1 s.2.2))]) (fun s=>s.1≤g.orders.length∧(Zm9 s.2.1 (nxA (g.orders.take s.1)))) (fun s=>g.orders.length - s.1) ((0),([]),(0)) G ⟨rfl,rfl,rfl,rfl,rfl,tv⟩ ⟨rfl,rfl,rfl,rfl,rfl,rfl,rfl,tv⟩ ⟨YA _,(fun _=>rfl)⟩ ?_
 clear G;intro s a w F hC G
 obtain ⟨i,eC,kC⟩:=s
 have hC:=X4
 obtain ⟨F,G⟩:=G.nM G5 Q9
 have G:=X3
 obtain ⟨hi,hq⟩:=hC
 have hol:=fun hil:i<g.orders.length=>hso.at hil
 refine Ya (rZ G (qL r2) Z [64,63,62,61,3,2] Q9 fun G=>Ya ?_)
 refine Zb G rfl (fun hc4=>?_) (fun hc4=>?_)
 ·have hil:i<g.orders.length:=Ki
  have hio:=hil
  have hcn:=hq
  have hox:=hol hil
  have hol1:=hso.1
  refine Yf (Za (Ya (Yi (Ya (rS G (qy 2 Yb7 r2 (qf (oR true 2 .t) r1 qz (qf (oH [.int .i64 0,.slice none 0 0] 108) trivial qz (qS 2 108 r2 r1 qZ)))) Z [63,62,61,9,3,2] KW fun τ G=>?_)))))
  have G:=X1
  generalize τ 9=v9 at G
  try simp only [Yg] at G
  refine Za (Ya (rZ G (qI qZ) Z [63,62,61,10,9,3,2] KW fun G=>Ya ?_))
  refine rZ G (qg 1 108 r1 r1 (qa 108 r1 r1 (qu YbY r1 (qJ qZ)))) Z Qx KW fun G=>Yi ?_
  replace G:=G.ent (i:=10) (s':=.pv (.int .i64 (atI (Nn g.orders i).txs 0))) rfl (.int rfl)
  refine Zk (σ:=(Nat)×(List (GE Zdn Int))×(Nat)) [2,3,9,61,62,63,68,69] [0,1,101,102,103,105,108] (fun s=>[(70,.pv (.int .i64 (s.1:Int))),(10,.pv (.int .i64 (atI (Nn g.orders i).txs s.1)))]) (fun s=>[(104,.ob (.val v16) (mapG (fun n:Int=>PV.int .i64 n) (fun k=>∀ x ∈ ZeG k,inR .i64 x) (kvS ZeG) s.2.1 s.2.2))]) (fun s=>s.1≤(Nn g.orders i).txs.length∧(Zm9 s.2.1 (nxA (g.orders.take i)++nxO (Nn g.orders i) s.1))) (fun s=>(Nn g.orders i).txs.length - s.1) ((0),(eC),(kC)) G ⟨rfl,rfl,rfl,rfl,rfl,rfl,rfl,rfl,rfl,rfl,tv⟩ ⟨rfl,rfl,rfl,rfl,rfl,rfl,rfl,rfl,tv⟩ ⟨YA _,(by show Zm9 _ (nxA (g.orders.take i) ++ []);rw [YQ];exact hcn)⟩ ?_
  clear G;intro s a w F hC G
  obtain ⟨j,eC3,kC3⟩:=s
  have hC:=X4
  obtain ⟨F,G⟩:=G.nM Qx KW
  have G:=X3
  obtain ⟨hi,hq⟩:=hC
  refine Ya (rZ G (qL r2) Z [71,70,69,68,63,62,61,10,9,3,2] KW fun G=>Ya ?_)
  refine Zb G rfl (fun hc5=>?_) (fun hc5=>?_)
  ·have hil:j<(Nn g.orders i).txs.length:=by simp at hc5;omega
   refine Yf (Za (Ya (Yi (Ya (Zc G (qy 1 YbY r2 (qf (oR false 1 .t) r1 qz (qO rr qZ))) Z Jk KW rfl rfl fun a w F G=>?_)))))
   try simp only [Yg] at G
   refine Za (Ya (Zv G (qR rr (qf (o_nilCheck 105 .is XV) r1 r1 (qf (oF 4 105 .adr) r1 r1 (qa 105 r1 r1 (qg 0 108 r1 r1 (qa 108 r1 r1 (qR rr (qf (Zcc (sz:=1) (r:=[(0,.tmp 79),(1,.tmp 80)]) (zs:=[.int .i64 0,.int .i64 0]) (pl:=[(0,1),(1,1)]) underlying271 kr kr rfl (.one rfl .t one_int kr (.one rfl .t one_int kr .nil)) XV) r2 qz (qR rr (qf (o_mapUpdateG (ek:=(fun n:Int=>PV.int .i64 n)) 104 Yci ZgR .is (Zw.agg (enc:=ZeG) (k:=(⟨(Nn g.orders i).key,atI (Nn g.orders i).txs j⟩:Zdn)) (.pagg .t) rfl) .t) r3 r1 qZ)))))))))) Z Jk KW rfl rfl fun a w F G=>?_))
   have G:=X6
   obtain ⟨eC4,heC4⟩:∃ z,z=(gPut (⟨(Nn g.orders i).key,atI (Nn g.orders i).txs j⟩:Zdn) (Nn (Nn g.orders i).txs j) (eC3,kC3)).1:=⟨_,rfl⟩
   obtain ⟨kC4,hkC4⟩:∃ z,z=(gPut (⟨(Nn g.orders i).key,atI (Nn g.orders i).txs j⟩:Zdn) (Nn (Nn g.orders i).txs j) (eC3,kC3)).2:=⟨_,rfl⟩
   rw [← heC4,← hkC4] at G
   have hR3:Zm9 eC4 (nxA (g.orders.take i)++nxO (Nn g.orders i) (j+1)):=by rw [heC4,Zrx,← Y1];exact ZpC hq
   refine Za (Zc G (qR rr (qO rr qZ)) Z Qx KW rfl rfl fun a w F G=>Ze (Za ?_))
   refine rZ G (qp r1 (qR rr qZ)) Z Qx KW fun G=>?_
   replace G:=G.eI 70 j
   replace G:=G.ent (i:=10) (s':=.pv (.int .i64 (atI (Nn g.orders i).txs (j+1)))) rfl (.int (by simp [atI]))
   obtain ⟨F,G⟩:=G.nM [69,68,63,62,61,9,3,2,10,70] [108,105,103,102,101,1,0,104]
   exact ⟨((j+1),(eC4),(kC4)),F,⟨ow,hR3⟩,G,ow⟩
  have hil:j=(Nn g.orders i).txs.length:=by simp at hc5;omega
  rw [hil] at hq
  obtain ⟨eC2,heC2⟩:∃ z,z=eC3:=⟨_,rfl⟩
  obtain ⟨kC2,hkC2⟩:∃ z,z=kC3:=⟨_,rfl⟩
  rw [← heC2,← hkC2] at G
  have hR2:Zm9 eC2 (nxA (g.orders.take (i+1))):=by rw [heC2,Zqs hio];exact hq
  refine Yz (Zg (Zg (Zm (Ze (Za (rZ G (qp r1 (qR rr qZ)) Z G5 KW fun G=>?_))))))
  replace G:=G.eI 63 i
  obtain ⟨F,G⟩:=G.nM [62,61,3,2,63] [105,103,102,101,1,0,104]
  exact ⟨((i+1),(eC2),(kC2)),F,⟨ow,hR2⟩,G,ow⟩
 have hil:i=g.orders.length:=Ki
 rw [hil,YE] at hq
 have hdC:=hq
 refine Yz (Zg (Zg (Zm (Za (Ya (rZ G (qR rr (qO rr qZ)) Z [2] Q9 fun G=>Yj ?_))))))
 obtain ⟨b,rfl⟩:=G.shape 105 rfl
 obtain ⟨F,G⟩:=G.push 1 104 rfl rfl rfl kr
 obtain ⟨F,G⟩:=G.push 1 103 rfl rfl rfl kr
 obtain ⟨F,G⟩:=G.push 1 102 rfl rfl rfl kr
 obtain ⟨F,G⟩:=G.push 1 105 rfl rfl rfl kr
 have G:=G.turn 1 rfl (r':=RS.hp (Zm3 g (.pointer (some ⟨b,0,none⟩)))) (fun _ _ _ _ h=>⟨(⟨v14,v15,v16,eA,kA,eB,kB,eC,kC⟩:FS),⟨hdA,hdB,hdC⟩,h⟩)
 refine Zaw (h':=fun v=>Zm3 g v) hG G rfl (.tmp rfl .nil) (.one .ptr) rfl
theorem Zgf {P:Program} {B:ZaV} {F0:Fp} (hG:Zoj B F0 2) {E:En} {a:Act} {w:World} {F:Fp} {fn:Func} {q:PV} {k1 k2:HP} {ss:List SF} (G:Sat B E a w F) (h0:Go.Gm.look E.r 0=some (frame B)) (hr:ROk P E fn.results.toList ss) (hq:ZaB ss q)
  (h1:Go.Gm.look E.r 1=some (RS.hp k1)) (h2:Go.Gm.look E.r 2=some (RS.hp k2)):bodyPost P fn (RG B F0 2 q (fun _=>[k1,k2])) .ret a w:=
 Zs7 hG G h0 hr hq fun v τ y hv i h hi=>by
  match i,hi with
  | 0,hi=>simp at hi;subst hi;exact ⟨_,h1,ow,fun _ _ _ h=>h⟩
  | 1,hi=>simp at hi;subst hi;exact ⟨_,h2,ow,fun _ _ _ h=>h⟩
theorem Zur (b:Nat) (g:Zl) (t:TxD) (o:OpD) (mv:Value) (AA:List (Zi×Int)) (RR:List Zi) (hRR:RR.length≤10000000):FnG prog 128 2 [.is (.pointer (some ⟨b,0,none⟩)),.agg (rTx t),.agg (rOp o),.is mv] [Zm3 g (.pointer (some ⟨b,0,none⟩)),Zgm AA RR mv] (.tup []) (fun _=>[Zm3 g (.pointer (some ⟨b,0,none⟩)),Zgm AA (RR++rdO g t o) mv]):=by
 refine FnG.mk func128 rfl ntmps128 rfl kr fun B F0 a w F Z hG G=>?_
 obtain ⟨⟨mA,mB,mC,eA,kA,eB,kB,eC,kC⟩,G⟩:=G.open_ex 1 rfl
 obtain ⟨hI,G⟩:=G.open_and 1 rfl
 try dsimp only [Zsy] at G
 obtain ⟨F,G⟩:=G.peel 1 3 rfl rfl
 obtain ⟨F,G⟩:=G.peel 1 4 rfl rfl
 obtain ⟨F,G⟩:=G.peel 1 5 rfl rfl
 obtain ⟨F,G⟩:=G.peel 1 6 rfl rfl
 obtain ⟨⟨es,ck⟩,G⟩:=G.open_ex 2 rfl
 obtain ⟨hq0,G⟩:=G.open_and 2 rfl
 replace G:=G.turn 2 rfl (r':=.ob (.val mv) (mapG (fun n:Int=>PV.int .i64 n) (fun k=>∀ x ∈ Zag k,inR .i64 x) (kvS Zag) es ck)) (fun _ _ _ _ h=>h)
 try dsimp only at hI hq0
 obtain ⟨F,G⟩:=G.nM [3,2,1,0] [6,5,4,3,2,0]
 refine Ya (rS G (qx 101 r1 (qx 102 r1 qZ)) Z [6,5,3,0] Q7 fun τ G=>?_)
 have G:=X2
 generalize τ 5=v5,τ 6=v6 at G
 refine Za (Ya (Ya (Zv G (qg 2 102 r1 r1 (qa 102 r1 r1 (qg 0 101 r1 r1 (qa 101 r1 r1 (qf (o_eql .t .t) r2 qz (qR rr (qv 2 102 rfl r2 r1 (qw 102 rfl r2 r1 (qk rfl (fun h=>o_neq (.w h) qi) r2 qz (qk rfl (fun h=>oM (.w h)) r2 qz (Zu.cons (ZaF.cond2 rfl rfl (fun h=>Zcn .t XV)) r2 qz (Zu.cons (ZaF.cond2 rfl rfl (fun h=>o_nilCheck 3 (.w h .is) XV)) r2 r1 (Zu.cons (ZaF.cond2 rfl rfl (fun h=>ZS (off:=2) 3 (.w h .adr) kr XV)) r2 r1 (Zu.cons (ZaF.cond2 rfl rfl (fun h=>Zbz (ag:=false) (sz:=1) 3 (.w h .adr) kr kr kr XV)) r2 r1 (Zu.cons (ZaF.cond2 rfl rfl (fun h=>ZS (off:=2) 102 .is kr XV)) r2 r1 (Zu.cons (ZaF.cond2 rfl rfl (fun h=>Zbz (ag:=false) (sz:=1) 102 (.w h .adr) kr kr kr XV)) r2 r1 (Zu.cons (ZaF.cond2 rfl rfl (fun h=>ZR (ek:=(fun n:Int=>PV.int .i64 n)) (z0:=(0)) 4 Ycf (Za2 Yb1) kr (fun _ _=>⟨rfl,Zc5⟩) (.w h .is) (Zw.int (.w h) rfl))) r3 r1 (Zu.cons (ZaF.cond2 rfl rfl (fun h=>o_eql (.w h) qi)) r2 qz (Zu.cons (ZaF.cond2 rfl rfl (fun h=>Zcn (.w h) XV)) r2 qz (Zu.cons (ZaF.cond2 rfl rfl (fun h=>Zcn .t XV)) r2 qz (Zu.cons (ZaF.cond2 rfl rfl (fun h=>o_nilCheck 3 (.w h .is) XV)) r2 r1 (Zu.cons (ZaF.cond2 rfl rfl (fun h=>ZS (off:=3) 3 (.w h .adr) kr XV)) r2 r1 (Zu.cons (ZaF.cond2 rfl rfl (fun h=>Zbz (ag:=false) (sz:=1) 3 (.w h .adr) kr kr kr XV)) r2 r1 (Zu.cons (ZaF.cond2 rfl rfl (fun h=>ZS (off:=2) 102 .is kr XV)) r2 r1 (Zu.cons (ZaF.cond2 rfl rfl (fun h=>Zbz (ag:=false) (sz:=1) 102 (.w h .adr) kr kr kr XV)) r2 r1 (Zu.cons (ZaF.cond2 rfl rfl (fun h=>ZS (off:=1) 102 .is kr XV)) r2 r1 (Zu.cons (ZaF.cond2 rfl rfl (fun h=>Zbz (ag:=false) (sz:=1) 102 (.w h .adr) kr kr kr XV)) r2 r1 (Zu.cons (ZaF.cond2 rfl rfl (fun h=>Zcc (sz:=1) (r:=[(0,.tmp 33),(1,.tmp 35)]) (zs:=[.int .i64 0,.int .i64 0]) (pl:=[(0,1),(1,1)]) underlying271 kr kr rfl (.one rfl (.w h) one_int kr (.one rfl (.w h) one_int kr .nil)) XV)) r3 qz (Zu.cons (ZaF.cond2 rfl rfl (fun h=>ZR (ek:=(fun n:Int=>PV.int .i64 n)) (z0:=(0)) 5 Yci ZgR kr (fun _ _=>⟨rfl,Zc5⟩) (.w h .is) (Zw.agg (enc:=ZeG) (k:=(⟨o.tx,o.key⟩:Zdn)) (.pagg (.w h)) rfl))) r3 r1 (Zu.cons (ZaF.cond2 rfl rfl (fun h=>ZS (off:=3) 102 .is kr XV)) r2 r1 (Zu.cons (ZaF.cond2 rfl rfl (fun h=>Zbz (ag:=false) (sz:=1) 102 (.w h .adr) kr kr kr XV)) r2 r1 (Zu.cons (ZaF.cond2 rfl rfl (fun h=>o_neq (.w h) (.w h))) r3 qz (Zu.cons (ZaF.cond2 rfl rfl (fun h=>Zaq (.w h) (.wc h))) r3 qz (qk rfl (fun h=>ZC (.w h) (.wc h)) r3 qz (qf (Zaq .t .t) r2 qz qZ))))))))))))))))))))))))))))))))))) Z [43,6,5,3,0] Q7 rfl rfl fun a w F G=>?_)))
 have G:=X6
 refine Za (Zb G rfl (fun hc0=>?_) (fun hc0=>?_))
 ·have hno:Zss g t o=true:=Kq
  obtain ⟨es3,hes3⟩:∃ z,z=es:=⟨_,rfl⟩
  obtain ⟨ck3,hck3⟩:∃ z,z=ck:=⟨_,rfl⟩
  rw [← hes3,← hck3] at G
  have hR9:Zg0 es3 AA (RR++rdO g t o):=by rw [hes3];unfold rdO;rw [Ye hno,YQ];exact hq0
  refine Yj (Zh ?_)
  have G:=G.fresh 1 rfl
  obtain ⟨F,G⟩:=G.push 1 6 rfl rfl rfl kr
  obtain ⟨F,G⟩:=G.push 1 5 rfl rfl rfl kr
  obtain ⟨F,G⟩:=G.push 1 4 rfl rfl rfl kr
  obtain ⟨F,G⟩:=G.push 1 3 rfl rfl rfl kr
  have G:=G.turn 1 rfl (r':=RS.hp (Zm3 g (.pointer (some ⟨b,0,none⟩)))) (fun _ _ _ _ h=>⟨(⟨mA,mB,mC,eA,kA,eB,kB,eC,kC⟩:FS),hI,h⟩)
  have G:=G.turn 2 rfl (r':=RS.hp (Zgm AA (RR++rdO g t o) mv)) (fun _ _ _ _ h=>⟨(es3,ck3),hR9,h⟩)
  refine Zgf hG G rfl .nil ZaB.none rfl rfl
 have hno:Zss g t o=false:=Kq
 refine Yf (Za (Ya (Ya (rZ G (qg 2 102 r1 r1 (qa 102 r1 r1 (qf (o_neq .t qi) r1 qz qZ))) Z [46,6,5,3,0] Q7 fun G=>?_))))
 refine Zb G rfl (fun hc1=>?_) (fun hc1=>?_)
 ·have h0:¬ o.tx=0:=Wg
  replace G:=G.turnZ 2 (0) (⟨o.tx,t.id,2,o.key⟩:Zi) rfl
  refine ZaZ 2 12 (m1:=1) (m2:=2) kr G kr (qR rr (qg 2 102 r1 r1 (qa 102 r1 r1 (qg 0 101 r1 r1 (qa 101 r1 r1 (qg 1 102 r1 r1 (qa 102 r1 r1 (qf (oB [(0,.tmp 49),(1,.tmp 51),(2,_),(3,.tmp 53)] [.int .i64 0,.int .i64 0,.int .i64 0,.int .i64 0] [(0,1),(1,1),(2,1),(3,1)] (.one rfl .t one_int kr (.one rfl .t one_int kr (.one rfl qi one_int kr (.one rfl .t one_int kr .nil))))) r3 qz (qf (ZbX (ek:=(fun n:Int=>PV.int .i64 n)) (z0:=(0)) 2 Ych ZcL kr (fun _ _=>⟨rfl,Zc5⟩) .is (Zw.agg (enc:=Zag) (k:=(⟨o.tx,t.id,2,o.key⟩:Zi)) (.pagg .t) rfl)) r2 r1 (qp r1 (qf (ZaW (ek:=(fun n:Int=>PV.int .i64 n)) (z0:=(0)) 2 Ych ZcL kr (fun _ _=>⟨rfl,Zc5⟩) .is (Zw.agg (enc:=Zag) (k:=(⟨o.tx,t.id,2,o.key⟩:Zi)) (.pagg .t) rfl) WF) r2 r1 (qf (Zs .t rfl) r1 qz (qf (ZaC 2 (ZbA _ _ _) .is .t .t) r3 r1 qZ))))))))))))) kr kr kr rfl rfl rfl (fun _ _ _ _ h=>.inr h) WG fun a w F G=>?_
  obtain ⟨F,G⟩:=G.nM [6,5,3,0] Q7
  have G:=X6
  obtain ⟨es2,hes2⟩:∃ z,z=gSet (⟨o.tx,t.id,2,o.key⟩:Zi) (IntKind.wrap .i64 ((gGet (⟨o.tx,t.id,2,o.key⟩:Zi) es).getD 0+1)) (gEns 0 (⟨o.tx,t.id,2,o.key⟩:Zi) (es,ck)).1:=⟨_,rfl⟩
  obtain ⟨ck2,hck2⟩:∃ z,z=(gEns 0 (⟨o.tx,t.id,2,o.key⟩:Zi) (es,ck)).2:=⟨_,rfl⟩
  rw [← hes2,← hck2] at G
  have hR2:Zg0 es2 AA (RR++rdA t o):=by rw [hes2];unfold rdA;rw [Yb h0];exact Zkt hq0 ow
  refine Za (Ya (Zv G (qR rr (qf (o_nilCheck 3 .is XV) r1 r1 (qf (oF 4 3 .adr) r1 r1 (qa 3 r1 r1 (qg 1 102 r1 r1 (qa 102 r1 r1 (qg 2 102 r1 r1 (qa 102 r1 r1 (qf (Zcc (sz:=1) (r:=[(0,.tmp 64),(1,.tmp 66)]) (zs:=[.int .i64 0,.int .i64 0]) (pl:=[(0,1),(1,1)]) underlying271 kr kr rfl (.one rfl .t one_int kr (.one rfl .t one_int kr .nil)) XV) r2 qz (qf (ZR (ek:=(fun n:Int=>PV.int .i64 n)) (z0:=(0)) 6 Yci ZgR kr (fun _ _=>⟨rfl,Zc5⟩) .is (Zw.agg (enc:=ZeG) (k:=(⟨o.key,o.tx⟩:Zdn)) (.pagg .t) rfl)) r2 r1 (qO rr qZ))))))))))) Z [8,6,5,3] Q7 rfl rfl fun a w F G=>?_))
  have G:=X6
  rw [show (gGet (⟨o.key,o.tx⟩:Zdn) eC).getD 0=(nxI g o.key o.tx) from hI.nx _] at G
  refine Za (Ya (rZ G (qR rr (qf (o_neq .t qi) r1 qz (qR rr (qm rfl rfl rfl rfl (qv 0 101 rfl r2 r1 (qw 101 rfl r2 r1 (qk rfl (fun h=>o_neq (.w h) (.w h)) r3 qz (qf (ZC .t .t) r2 qz qZ)))))))) Z [76,8,6,5,3] Q7 fun G=>?_))
  refine Zb G rfl (fun hc2=>?_) (fun hc2=>?_)
  ·have h1:(nxI g o.key o.tx)≠0∧(nxI g o.key o.tx)≠t.id:=WA
   replace G:=G.turnZ 2 (0) (⟨t.id,(nxI g o.key o.tx),3,o.key⟩:Zi) rfl
   refine ZaZ 2 11 (m1:=1) (m2:=2) kr G kr (qR rr (qg 0 101 r1 r1 (qa 101 r1 r1 (qR rr (qg 1 102 r1 r1 (qa 102 r1 r1 (qf (oB [(0,.tmp 79),(1,.tmp 80),(2,_),(3,.tmp 82)] [.int .i64 0,.int .i64 0,.int .i64 0,.int .i64 0] [(0,1),(1,1),(2,1),(3,1)] (.one rfl .t one_int kr (.one rfl .t one_int kr (.one rfl qi one_int kr (.one rfl .t one_int kr .nil))))) r3 qz (qf (ZbX (ek:=(fun n:Int=>PV.int .i64 n)) (z0:=(0)) 2 Ych ZcL kr (fun _ _=>⟨rfl,Zc5⟩) .is (Zw.agg (enc:=Zag) (k:=(⟨t.id,(nxI g o.key o.tx),3,o.key⟩:Zi)) (.pagg .t) rfl)) r2 r1 (qp r1 (qf (ZaW (ek:=(fun n:Int=>PV.int .i64 n)) (z0:=(0)) 2 Ych ZcL kr (fun _ _=>⟨rfl,Zc5⟩) .is (Zw.agg (enc:=Zag) (k:=(⟨t.id,(nxI g o.key o.tx),3,o.key⟩:Zi)) (.pagg .t) rfl) WF) r2 r1 (qf (Zs .t rfl) r1 qz (qf (ZaC 2 (ZbA _ _ _) .is .t .t) r3 r1 qZ)))))))))))) kr kr kr rfl rfl rfl (fun _ _ _ _ h=>.inr h) WG fun a w F G=>?_
   obtain ⟨F,G⟩:=G.nM [] Q7
   have G:=X6
   obtain ⟨es3,hes3⟩:∃ z,z=gSet (⟨t.id,(nxI g o.key o.tx),3,o.key⟩:Zi) (IntKind.wrap .i64 ((gGet (⟨t.id,(nxI g o.key o.tx),3,o.key⟩:Zi) es2).getD 0+1)) (gEns 0 (⟨t.id,(nxI g o.key o.tx),3,o.key⟩:Zi) (es2,ck2)).1:=⟨_,rfl⟩
   obtain ⟨ck3,hck3⟩:∃ z,z=(gEns 0 (⟨t.id,(nxI g o.key o.tx),3,o.key⟩:Zi) (es2,ck2)).2:=⟨_,rfl⟩
   rw [← hes3,← hck3] at G
   have hR9:Zg0 es3 AA (RR++rdO g t o):=Kh
   have G:=G.fresh 1 rfl
   obtain ⟨F,G⟩:=G.push 1 6 rfl rfl rfl kr
   obtain ⟨F,G⟩:=G.push 1 5 rfl rfl rfl kr
   obtain ⟨F,G⟩:=G.push 1 4 rfl rfl rfl kr
   obtain ⟨F,G⟩:=G.push 1 3 rfl rfl rfl kr
   have G:=G.turn 1 rfl (r':=RS.hp (Zm3 g (.pointer (some ⟨b,0,none⟩)))) (fun _ _ _ _ h=>⟨(⟨mA,mB,mC,eA,kA,eB,kB,eC,kC⟩:FS),hI,h⟩)
   have G:=G.turn 2 rfl (r':=RS.hp (Zgm AA (RR++rdO g t o) mv)) (fun _ _ _ _ h=>⟨(es3,ck3),hR9,h⟩)
   refine Zgf hG G rfl .nil ZaB.none rfl rfl
  have h1:¬ ((nxI g o.key o.tx)≠0∧(nxI g o.key o.tx)≠t.id):=WA
  obtain ⟨es3,hes3⟩:∃ z,z=es2:=⟨_,rfl⟩
  obtain ⟨ck3,hck3⟩:∃ z,z=ck2:=⟨_,rfl⟩
  rw [← hes3,← hck3] at G
  have hR9:Zg0 es3 AA (RR++rdO g t o):=Kk
  refine Yf ?_
  have G:=G.fresh 1 rfl
  obtain ⟨F,G⟩:=G.push 1 6 rfl rfl rfl kr
  obtain ⟨F,G⟩:=G.push 1 5 rfl rfl rfl kr
  obtain ⟨F,G⟩:=G.push 1 4 rfl rfl rfl kr
  obtain ⟨F,G⟩:=G.push 1 3 rfl rfl rfl kr
  have G:=G.turn 1 rfl (r':=RS.hp (Zm3 g (.pointer (some ⟨b,0,none⟩)))) (fun _ _ _ _ h=>⟨(⟨mA,mB,mC,eA,kA,eB,kB,eC,kC⟩:FS),hI,h⟩)
  have G:=G.turn 2 rfl (r':=RS.hp (Zgm AA (RR++rdO g t o) mv)) (fun _ _ _ _ h=>⟨(es3,ck3),hR9,h⟩)
  refine Zgf hG G rfl .nil ZaB.none rfl rfl
 have h0:o.tx=0:=Wg
 obtain ⟨es2,hes2⟩:∃ z,z=es:=⟨_,rfl⟩
 obtain ⟨ck2,hck2⟩:∃ z,z=ck:=⟨_,rfl⟩
 rw [← hes2,← hck2] at G
 have hR2:Zg0 es2 AA (RR++rdA t o):=by rw [hes2];unfold rdA;rw [Ye h0,YQ];exact hq0
 refine Yf (Za (Ya (Zv G (qR rr (qf (o_nilCheck 3 .is XV) r1 r1 (qf (oF 4 3 .adr) r1 r1 (qa 3 r1 r1 (qg 1 102 r1 r1 (qa 102 r1 r1 (qg 2 102 r1 r1 (qa 102 r1 r1 (qf (Zcc (sz:=1) (r:=[(0,.tmp 64),(1,.tmp 66)]) (zs:=[.int .i64 0,.int .i64 0]) (pl:=[(0,1),(1,1)]) underlying271 kr kr rfl (.one rfl .t one_int kr (.one rfl .t one_int kr .nil)) XV) r2 qz (qf (ZR (ek:=(fun n:Int=>PV.int .i64 n)) (z0:=(0)) 6 Yci ZgR kr (fun _ _=>⟨rfl,Zc5⟩) .is (Zw.agg (enc:=ZeG) (k:=(⟨o.key,o.tx⟩:Zdn)) (.pagg .t) rfl)) r2 r1 (qO rr qZ))))))))))) Z [8,6,5,3] Q7 rfl rfl fun a w F G=>?_)))
 have G:=X6
 rw [show (gGet (⟨o.key,o.tx⟩:Zdn) eC).getD 0=(nxI g o.key o.tx) from hI.nx _] at G
 refine Za (Ya (rZ G (qR rr (qf (o_neq .t qi) r1 qz (qR rr (qm rfl rfl rfl rfl (qv 0 101 rfl r2 r1 (qw 101 rfl r2 r1 (qk rfl (fun h=>o_neq (.w h) (.w h)) r3 qz (qf (ZC .t .t) r2 qz qZ)))))))) Z [76,8,6,5,3] Q7 fun G=>?_))
 refine Zb G rfl (fun hc3=>?_) (fun hc3=>?_)
 ·have h1:(nxI g o.key o.tx)≠0∧(nxI g o.key o.tx)≠t.id:=KM
  replace G:=G.turnZ 2 (0) (⟨t.id,(nxI g o.key o.tx),3,o.key⟩:Zi) rfl
  refine ZaZ 2 11 (m1:=1) (m2:=2) kr G kr (qR rr (qg 0 101 r1 r1 (qa 101 r1 r1 (qR rr (qg 1 102 r1 r1 (qa 102 r1 r1 (qf (oB [(0,.tmp 79),(1,.tmp 80),(2,_),(3,.tmp 82)] [.int .i64 0,.int .i64 0,.int .i64 0,.int .i64 0] [(0,1),(1,1),(2,1),(3,1)] (.one rfl .t one_int kr (.one rfl .t one_int kr (.one rfl qi one_int kr (.one rfl .t one_int kr .nil))))) r3 qz (qf (ZbX (ek:=(fun n:Int=>PV.int .i64 n)) (z0:=(0)) 2 Ych ZcL kr (fun _ _=>⟨rfl,Zc5⟩) .is (Zw.agg (enc:=Zag) (k:=(⟨t.id,(nxI g o.key o.tx),3,o.key⟩:Zi)) (.pagg .t) rfl)) r2 r1 (qp r1 (qf (ZaW (ek:=(fun n:Int=>PV.int .i64 n)) (z0:=(0)) 2 Ych ZcL kr (fun _ _=>⟨rfl,Zc5⟩) .is (Zw.agg (enc:=Zag) (k:=(⟨t.id,(nxI g o.key o.tx),3,o.key⟩:Zi)) (.pagg .t) rfl) WF) r2 r1 (qf (Zs .t rfl) r1 qz (qf (ZaC 2 (ZbA _ _ _) .is .t .t) r3 r1 qZ)))))))))))) kr kr kr rfl rfl rfl (fun _ _ _ _ h=>.inr h) WG fun a w F G=>?_
  obtain ⟨F,G⟩:=G.nM [] Q7
  have G:=X6
  obtain ⟨es3,hes3⟩:∃ z,z=gSet (⟨t.id,(nxI g o.key o.tx),3,o.key⟩:Zi) (IntKind.wrap .i64 ((gGet (⟨t.id,(nxI g o.key o.tx),3,o.key⟩:Zi) es2).getD 0+1)) (gEns 0 (⟨t.id,(nxI g o.key o.tx),3,o.key⟩:Zi) (es2,ck2)).1:=⟨_,rfl⟩
  obtain ⟨ck3,hck3⟩:∃ z,z=(gEns 0 (⟨t.id,(nxI g o.key o.tx),3,o.key⟩:Zi) (es2,ck2)).2:=⟨_,rfl⟩
  rw [← hes3,← hck3] at G
  have hR9:Zg0 es3 AA (RR++rdO g t o):=Kh
  have G:=G.fresh 1 rfl
  obtain ⟨F,G⟩:=G.push 1 6 rfl rfl rfl kr
  obtain ⟨F,G⟩:=G.push 1 5 rfl rfl rfl kr
  obtain ⟨F,G⟩:=G.push 1 4 rfl rfl rfl kr
  obtain ⟨F,G⟩:=G.push 1 3 rfl rfl rfl kr
  have G:=G.turn 1 rfl (r':=RS.hp (Zm3 g (.pointer (some ⟨b,0,none⟩)))) (fun _ _ _ _ h=>⟨(⟨mA,mB,mC,eA,kA,eB,kB,eC,kC⟩:FS),hI,h⟩)
  have G:=G.turn 2 rfl (r':=RS.hp (Zgm AA (RR++rdO g t o) mv)) (fun _ _ _ _ h=>⟨(es3,ck3),hR9,h⟩)
  refine Zgf hG G rfl .nil ZaB.none rfl rfl
 have h1:¬ ((nxI g o.key o.tx)≠0∧(nxI g o.key o.tx)≠t.id):=KM
 obtain ⟨es3,hes3⟩:∃ z,z=es2:=⟨_,rfl⟩
 obtain ⟨ck3,hck3⟩:∃ z,z=ck2:=⟨_,rfl⟩
 rw [← hes3,← hck3] at G
 have hR9:Zg0 es3 AA (RR++rdO g t o):=Kk
 refine Yf ?_
 have G:=G.fresh 1 rfl
 obtain ⟨F,G⟩:=G.push 1 6 rfl rfl rfl kr
 obtain ⟨F,G⟩:=G.push 1 5 rfl rfl rfl kr
 obtain ⟨F,G⟩:=G.push 1 4 rfl rfl rfl kr
 obtain ⟨F,G⟩:=G.push 1 3 rfl rfl rfl kr
 have G:=G.turn 1 rfl (r':=RS.hp (Zm3 g (.pointer (some ⟨b,0,none⟩)))) (fun _ _ _ _ h=>⟨(⟨mA,mB,mC,eA,kA,eB,kB,eC,kC⟩:FS),hI,h⟩)
 have G:=G.turn 2 rfl (r':=RS.hp (Zgm AA (RR++rdO g t o) mv)) (fun _ _ _ _ h=>⟨(es3,ck3),hR9,h⟩)
 refine Zgf hG G rfl .nil ZaB.none rfl rfl
def wwC (p:Int→Bool) (g:Zl):List (Zi×Int):=if ZA g then wwA p g.orders else []
def rdC (p:Int→Bool) (g:Zl):List Zi:=if ZA g then rdH p g g.txs else []
theorem ZrE {g:Zl} {v:Value} {w:World} {f y:Ys} (h:(Zm3 g v).p w f y):∃ b,v = .pointer (some ⟨b,0,none⟩):=by
 obtain ⟨s,_,q⟩:=h
 exact HP.star_pt q
theorem ZoV (g : Zl) (hsm : Zcj g) (p : Int → Bool) (f : FuncId) (fn : Func) (cps : List PV) (hf : prog.funcs[f]? = some fn) (hb : fn.body.isSome = true) (hnn : (fn.name == "runtime.NumGoroutine") = false) (hw : ∀ x, FnP prog f (.int .i64 x :: cps) (.bool (p x))) : FnG prog 82 1 [.agg (Zr g), .clos f cps] [.star []] (PV.one) (fun v => [Zgm (wwC p g) (rdC p g) v]) := by
 refine FnG.mk func82 rfl ntmps82 rfl kr fun B F0 a w F Z hG G=>?_
 have hs:=hsm.1
 have hsl:=hs.1
 have hso:=hsm.2
 have hol1:=hso.1
 obtain ⟨F,G⟩:=G.nM KQ [0]
 refine Ya (rS G (qx 101 r1 (qC qZ)) Z QX KN fun τ G=>?_)
 have G:=X2
 generalize τ 2=v2 at G
 refine Za (Ya (rS G (qf (Z8 (ek:=(fun n:Int=>PV.int .i64 n)) (ok:=(fun k=>∀ x ∈ Zag k,inR .i64 x)) (kv:=(kvS Zag)) 102) trivial qz (qO rr qZ)) Z JC KP fun τ G=>?_))
 have G:=Xq
 generalize τ 14=v14 at G
 refine Za (Ya (Ya (rZ G (qe 2 101 r1 r1 (qf (oP (ZdL g hsm) func9 (Args.one (.pagg .t))) r1 qz (qf (o_not .t) r1 qz qZ))) Z [17,5,4,2,1] KP fun G=>?_)))
 refine Zb G rfl (fun hc0=>?_) (fun hc0=>?_)
 ·skip
  have hr:¬ ZA g:=WV
  have hgA:wwC p g = []:=Yb hr
  have hgR:rdC p g = []:=Yb hr
  replace G:=G.turn 102 rfl (r':=RS.hp (Zgm (wwC p g) (rdC p g) v14)) (fun _ _ _ _ h=>⟨([],0),by rw [hgA,hgR];exact ZlD,h⟩)
  obtain ⟨F,G⟩:=G.nM [17,5,4,2,1] KP
  refine Ya (rZ G (qR rr (qO rr qZ)) Z JC KP fun G=>(Yj (Zh ?_)))
  obtain ⟨F,G⟩:=G.rename 102 1 rfl rfl
  refine Zaw (h':=fun v=>Zgm (wwC p g) (rdC p g) v) hG G rfl (.tmp rfl .nil) (.one .one) rfl
 have hr:ZA g:=WV
 have hgA:wwC p g=wwA p g.orders:=Ye hr
 have hgR:rdC p g=rdH p g g.txs:=Ye hr
 refine Yf (Za (Ya ?_))
 replace G:=G.fresh 103 rfl
 refine rS G (qe 2 101 r1 r1 (qf (ZbS 103 (Zvo g hsm) func127 rfl kr (Args.one (.pagg .t)) PV.ptr_one) r1 r1 (qO rr qZ))) Z JY KO fun τ G=>?_
 have G:=XA
 generalize τ 20=v20 at G
 obtain ⟨_,_,_,ho⟩:=G.obGet 103 rfl
 obtain ⟨b,rfl⟩:=ZrE ho
 clear ho
 replace G:=G.turn 103 rfl (r':=RS.hp (Zm3 g (.pointer (some ⟨b,0,none⟩)))) (fun _ _ _ _ h=>h)
 obtain ⟨F,G⟩:=G.nM JY KO
 refine Za (Ya (Ya (rZ G (qg 1 101 r1 r1 (qa 101 r1 r1 (qu Yb7 r1 (qJ qZ)))) Z Jn KO fun G=>Yi ?_)))
 refine Zk (σ:=(Nat)×(List (GE Zi Int))×(Nat)) [1,2,4,5,6,22,23] [0,101,103] (fun s=>[(24,.pv (.int .i64 (s.1:Int)))]) (fun s=>[(102,.ob (.val v14) (mapG (fun n:Int=>PV.int .i64 n) (fun k=>∀ x ∈ Zag k,inR .i64 x) (kvS Zag) s.2.1 s.2.2))]) (fun s=>s.1≤g.orders.length∧(Zg0 s.2.1 (wwA p (g.orders.take s.1)) [])) (fun s=>g.orders.length - s.1) ((0),([]),(0)) G ⟨rfl,rfl,rfl,rfl,rfl,rfl,rfl,rfl,tv⟩ ⟨rfl,rfl,rfl,rfl,tv⟩ ⟨YA _,ZlD⟩ ?_
 clear G;intro s a w F hC G
 obtain ⟨i,es,ck⟩:=s
 have hC:=X4
 obtain ⟨F,G⟩:=G.nM Jn KO
 have G:=X3
 obtain ⟨hi,hq⟩:=hC
 have hol:=fun hil:i<g.orders.length=>hso.at hil
 refine Ya (rZ G (qL r2) Z JS KO fun G=>Ya ?_)
 refine Zb G rfl (fun hc1=>?_) (fun hc1=>?_)
 ·skip
  have hil:i<g.orders.length:=WE
  have hio:=hil
  have hcn:=hq
  have hox:=hol hil
  refine Yf (Za (Ya (Yi (Ya (rS G (qy 2 Yb7 r2 (qf (oR true 2 .t) r1 qz (qf (oH [.int .i64 0,.slice none 0 0] 104) trivial qz (qS 2 104 r2 r1 qZ)))) Z [24,23,22,8,6,5,4,2,1] Qj fun τ G=>?_)))))
  have G:=X1
  generalize τ 8=v8 at G
  try simp only [Yg] at G
  refine Za (Ya (rZ G (qI qZ) Z QK Qj fun G=>Yi ?_))
  replace G:=G.ent (i:=9) (s':=.pv (.int .i64 ((0+1:Nat):Int))) rfl (.int rfl)
  refine Zk (σ:=Nat×(List (GE Zi Int))×Nat) [1,2,4,5,6,8,22,23,24] [0,101,103,104] (fun s=>[(9,.pv (.int .i64 ((s.1+1:Nat):Int)))]) (fun s=>[(102,.ob (.val v14) (mapG (fun n:Int=>PV.int .i64 n) (fun k=>∀ x ∈ Zag k,inR .i64 x) (kvS Zag) s.2.1 s.2.2))]) (fun s=>s.1≤(Nn g.orders i).txs.length∧(0<s.1→p (Nn g.orders i).key=true∧s.1+1≤(Nn g.orders i).txs.length)∧Zg0 s.2.1 (wwA p (g.orders.take i)++wwO (Nn g.orders i) s.1) []) (fun s=>(Nn g.orders i).txs.length - s.1) ((0),(es),(ck)) G ⟨rfl,rfl,rfl,rfl,rfl,rfl,rfl,rfl,rfl,rfl,tv⟩ ⟨rfl,rfl,rfl,rfl,rfl,tv⟩ ⟨YA _,fun h9=>absurd h9 (Nat.lt_irrefl 0),by show Zg0 _ (wwA p (g.orders.take i) ++ []) [];rw [YQ];exact hcn⟩ ?_
  clear G;intro s a w F hC G
  obtain ⟨j,es3,ck3⟩:=s
  have hC:=X4
  obtain ⟨F,G⟩:=G.nM QK Qj
  have G:=X3
  obtain ⟨hj,hjp,hq⟩:=hC
  have hwj:IntKind.wrap .i64 (((j+1:Nat):Int) - 1)=(j:Int):=K3
  refine Ya (Ya (rZ G (qR rr (qg 1 104 r1 r1 (qa 104 r1 r1 (qu YbY r1 (qf (Zbb .t .t) r2 qz (qR rr (qm rfl rfl rfl rfl (qv 0 104 rfl r2 r1 (qw 104 rfl r2 r1 (qk rfl (fun h=>Zab (avs:=[.int .i64 (Nn g.orders i).key]) (.w h) (hw (Nn g.orders i).key) hf hb hnn (Args.one (.w h))) r3 qz (qf (ZC .t .t) r2 qz qZ))))))))))) Z [38,24,23,22,9,8,6,5,4,2,1] Qj fun G=>?_))
  refine Zb G rfl (fun hc2=>?_) (fun hc2=>?_)
  ·skip
   have hst:j+1<(Nn g.orders i).txs.length∧p (Nn g.orders i).key=true:=by have h9:=hc2;simp at h9;exact ⟨ow,h9.2⟩
   refine Yf (Za (Ya (Yi (Zv G (qR rr (qg 1 104 r1 r1 (qa 104 r1 r1 (qR rr (qf (o_sub .t qi) r1 qz (qf (o_indexAddr_sl (sz:=1) (.mk YbY kr) Wh .t .t (by rw [hwj];omega) (by rw [hwj];omega)) r2 qz (qf (oR false 1 .t) r1 qz (qg 1 104 r1 r1 (qa 104 r1 r1 (qR rr (qy 1 YbY r2 (qf (oR false 1 .t) r1 qz (qg 0 104 r1 r1 (qa 104 r1 r1 (qf (oB [(0,.tmp 47),(1,.tmp 52),(2,_),(3,.tmp 54)] [.int .i64 0,.int .i64 0,.int .i64 0,.int .i64 0] [(0,1),(1,1),(2,1),(3,1)] (.one rfl .t one_int kr (.one rfl .t one_int kr (.one rfl qi one_int kr (.one rfl .t one_int kr .nil))))) r3 qz (qf (o_mapUpdateG (ek:=(fun n:Int=>PV.int .i64 n)) 102 Ych ZcL .is (Zw.agg (enc:=Zag) (k:=(⟨Nn (Nn g.orders i).txs (IntKind.wrap .i64 (((j+1:Nat):Int) - 1)).toNat,Nn (Nn g.orders i).txs ((j+1:Nat):Int).toNat,1,(Nn g.orders i).key⟩:Zi)) (.pagg .t) rfl) qi) r2 r1 qZ)))))))))))))))) Z QK Qj rfl rfl fun a w F G=>?_))))
   have G:=X6
   try simp only [Yg] at G
   rw [hwj] at G
   try simp only [Yg] at G
   obtain ⟨es4,hes4⟩:∃ z,z=(gPut (⟨Nn (Nn g.orders i).txs j,Nn (Nn g.orders i).txs (j+1),1,(Nn g.orders i).key⟩:Zi) 1 (es3,ck3)).1:=⟨_,rfl⟩
   obtain ⟨ck4,hck4⟩:∃ z,z=(gPut (⟨Nn (Nn g.orders i).txs j,Nn (Nn g.orders i).txs (j+1),1,(Nn g.orders i).key⟩:Zi) 1 (es3,ck3)).2:=⟨_,rfl⟩
   rw [← hes4,← hck4] at G
   have hR3:Zg0 es4 (wwA p (g.orders.take i)++wwO (Nn g.orders i) (j+1)) []:=by rw [hes4,Zqg,← Y1];exact ZuA hq
   refine Ze (Za (rZ G (qR rr (qp r1 (qO rr qZ))) Z QK Qj fun G=>?_))
   have hC2:j+1≤(Nn g.orders i).txs.length∧(0<j+1→p (Nn g.orders i).key=true∧j+1+1≤(Nn g.orders i).txs.length)∧Zg0 es4 (wwA p (g.orders.take i)++wwO (Nn g.orders i) (j+1)) []:=⟨ow,fun _=>⟨hst.2,ow⟩,hR3⟩
   replace G:=G.ent (i:=9) (s':=.pv (.int .i64 ((j+1+1:Nat):Int))) rfl (.int (Za7 ow))
   obtain ⟨F,G⟩:=G.nM [24,23,22,8,6,5,4,2,1,9] [104,103,101,0,102]
   exact ⟨((j+1),(es4),(ck4)),F,hC2,G,ow⟩
  have hst:p (Nn g.orders i).key=true→(Nn g.orders i).txs.length≤j+1:=fun hpk=>by have h9:=hc2;simp [hpk] at h9;omega
  obtain ⟨es2,hes2⟩:∃ z,z=es3:=⟨_,rfl⟩
  obtain ⟨ck2,hck2⟩:∃ z,z=ck3:=⟨_,rfl⟩
  rw [← hes2,← hck2] at G
  have hR2:Zg0 es2 (wwA p (g.orders.take (i+1))) []:=by
    rw [hes2,Zqu hio]
    by_cases hpk:p (Nn g.orders i).key=true
    · rw [Ye hpk,show (Nn g.orders i).txs.length - 1=j by (have:=hst hpk;by_cases hj0:0<j; (have:=(hjp hj0).2;omega);omega)];exact hq
    · rw [Yb hpk]
      have hj0:j=0:=by
        by_cases hj0:0<j
        · exact absurd (hjp hj0).1 hpk
        · omega
      rw [hj0] at hq;exact hq
  refine Yz (Zg (Zg (Zm (Ze (Za (rZ G (qp r1 (qR rr qZ)) Z Jn Qj fun G=>?_))))))
  replace G:=G.eI 24 i
  obtain ⟨F,G⟩:=G.nM [23,22,6,5,4,2,1,24] [103,101,0,102]
  exact ⟨((i+1),(es2),(ck2)),F,⟨ow,hR2⟩,G,ow⟩
 have hil:i=g.orders.length:=WE
 rw [hil,YE] at hq
 replace G:=G.turn 102 rfl (r':=RS.hp (Zgm (wwA p g.orders) (rdH p g (g.txs.take 0)) v14)) (fun _ _ _ _ h=>⟨(es,ck),hq,h⟩)
 obtain ⟨F,G⟩:=G.nM JS KO
 refine Yz (Zg (Zg (Zm (Za (Ya (Ya (rZ G (qg 0 101 r1 r1 (qa 101 r1 r1 (qu Yb4 r1 (qJ qZ)))) Z JG KO fun G=>Yi ?_)))))))
 refine Zk (σ:=(Nat)) [1,4,5,6,58,59] [0,101,103] (fun s=>[(60,.pv (.int .i64 (s:Int)))]) (fun s=>[(102,RS.hp (Zgm (wwA p g.orders) (rdH p g (g.txs.take s)) v14))]) (fun s=>s≤g.txs.length∧(True)) (fun s=>g.txs.length - s) (0) G ⟨rfl,rfl,rfl,rfl,rfl,rfl,rfl,tv⟩ ⟨rfl,rfl,rfl,rfl,tv⟩ ⟨YA _,tv⟩ ?_
 clear G;intro i a w F hC G
 have hC:=X4
 obtain ⟨F,G⟩:=G.nM JG KO
 have G:=X3
 obtain ⟨hi,hq⟩:=hC
 have hxl:=fun hil:i<g.txs.length=>hs.at hil
 refine Ya (rZ G (qL r2) Z Ji KO fun G=>Ya ?_)
 refine Zb G rfl (fun hc3=>?_) (fun hc3=>?_)
 ·skip
  have hil:i<g.txs.length:=Kb
  have hio:=hil
  have htl:=hxl hil
  have hsl:=hs.1
  have hrl:=Znn (p:=p) (g:=g) hs i
  replace G:=G.turn 102 rfl (r':=RS.hp (Zgm (wwA p g.orders) (rdH p g (g.txs.take i)++rdT p g (Nn g.txs i) ((Nn g.txs i).ops.take 0)) v14)) (fun _ _ _ _ h=>by rw [List.take_zero,show rdT p g (Nn g.txs i) [] = [] from rfl,YQ];exact h)
  obtain ⟨F,G⟩:=G.nM Ji KO
  refine Yf (Za (Ya (Yi (Ya (rS G (qy 3 Yb4 r2 (qf (oR true 3 .t) r1 qz (qf (oH [.int .i64 0,.bool false,.slice none 0 0] 105) trivial qz (qS 3 105 r2 r1 qZ)))) Z [60,59,58,11,6,5,4,1] Qw fun τ G=>?_)))))
  have G:=X1
  generalize τ 11=v11 at G
  try simp only [Yg] at G
  refine Za (Ya (rZ G (qg 2 105 r1 r1 (qa 105 r1 r1 (qu YbZ r1 (qJ qZ)))) Z Qd Qw fun G=>Yi ?_))
  refine Zk (σ:=(Nat)) [1,4,5,6,11,58,59,60,65,66] [0,101,103,105] (fun s=>[(67,.pv (.int .i64 (s:Int)))]) (fun s=>[(102,RS.hp (Zgm (wwA p g.orders) (rdH p g (g.txs.take i)++rdT p g (Nn g.txs i) ((Nn g.txs i).ops.take s)) v14))]) (fun s=>s≤(Nn g.txs i).ops.length∧(True)) (fun s=>(Nn g.txs i).ops.length - s) (0) G ⟨rfl,rfl,rfl,rfl,rfl,rfl,rfl,rfl,rfl,rfl,rfl,tv⟩ ⟨rfl,rfl,rfl,rfl,rfl,tv⟩ ⟨YA _,tv⟩ ?_
  clear G;intro j a w F hC G
  have hC:=X4
  obtain ⟨F,G⟩:=G.nM Qd Qw
  have G:=X3
  obtain ⟨hi,hq⟩:=hC
  refine Ya (rZ G (qL r2) Z Ja Qw fun G=>Ya ?_)
  refine Zb G rfl (fun hc4=>?_) (fun hc4=>?_)
  ·skip
   have hil:j<(Nn g.txs i).ops.length:=Ki
   refine Yf (Za (Ya (Yi (Ya (rS G (qy 4 YbZ r2 (qf (oR true 4 .t) r1 qz (qf (oH [.bool false,.int .i64 0,.int .i64 0,.int .i64 0] 106) trivial qz (qS 4 106 r2 r1 qZ)))) Z [67,66,65,60,59,58,13,11,6,5,4,1] Qi fun τ G=>?_)))))
   have G:=X1
   generalize τ 13=v13 at G
   try simp only [Yg] at G
   refine Za (Ya (rZ G (qg 1 105 r1 r1 (qa 105 r1 r1 (qR rr (qv 0 106 rfl r2 r1 (qw 106 rfl r2 r1 (qf (ZC .t .t) r2 qz (qR rr (qm rfl rfl rfl rfl (qv 1 106 rfl r2 r1 (qw 106 rfl r2 r1 (qk rfl (fun h=>Zab (avs:=[.int .i64 (Nn (Nn g.txs i).ops j).key]) (.w h) (hw (Nn (Nn g.txs i).ops j).key) hf hb hnn (Args.one (.w h))) r3 qz (qf (ZC .t .t) r2 qz qZ)))))))))))) Z J1 Qi fun G=>?_))
   refine Zb G rfl (fun hc5=>?_) (fun hc5=>?_)
   ·skip
    have hpr:((Nn g.txs i).done && ((Nn (Nn g.txs i).ops j).read && p (Nn (Nn g.txs i).ops j).key))=true:=by have h9:=hc5;simp at h9;simp [h9]
    have hRR:(rdH p g (g.txs.take i)++rdT p g (Nn g.txs i) ((Nn g.txs i).ops.take j)).length≤10000000:=by have h9:=Zos p g (Nn g.txs i) ((Nn g.txs i).ops.take j);rw [Yp] at h9;rw [Yc];omega
    refine Zc G (qR rr (qe 3 105 r1 r1 (qe 4 106 r1 r1 (qR rr (qf (Zn1 103 102 (Zur b g (Nn g.txs i) (Nn (Nn g.txs i).ops j) _ _ _ hRR) func128 rfl kr rfl (Args.four .t (.pagg .t) (.pagg .t) .t)) r4 r2 qZ))))) Z Qd Qi rfl rfl fun a w F G=>?_
    replace G:=G.turn 102 rfl (r':=RS.hp (Zgm (wwA p g.orders) (rdH p g (g.txs.take i)++rdT p g (Nn g.txs i) ((Nn g.txs i).ops.take (j+1))) v14)) (fun _ _ _ _ h=>by rw [Zlg hil,Ye hpr,← Y1];exact h)
    obtain ⟨F,G⟩:=G.nM Qd Qi
    refine Ze (Za (rZ G (qp r1 (qR rr qZ)) Z Qd Qi fun G=>?_))
    replace G:=G.eI 67 j
    obtain ⟨F,G⟩:=G.nM Jo [105,103,101,0,102]
    exact ⟨(j+1),F,⟨ow,tv⟩,G,ow⟩
   have hpr:¬ ((Nn g.txs i).done && ((Nn (Nn g.txs i).ops j).read && p (Nn (Nn g.txs i).ops j).key))=true:=by intro h8;simp at h8;have h9:=hc5;simp [h8] at h9
   replace G:=G.turn 102 rfl (r':=RS.hp (Zgm (wwA p g.orders) (rdH p g (g.txs.take i)++rdT p g (Nn g.txs i) ((Nn g.txs i).ops.take (j+1))) v14)) (fun _ _ _ _ h=>by rw [Zlg hil,Yb hpr,YQ];exact h)
   obtain ⟨F,G⟩:=G.nM J1 Qi
   refine Yf (Ze (Za (rZ G (qp r1 (qR rr qZ)) Z Qd Qi fun G=>?_)))
   replace G:=G.eI 67 j
   obtain ⟨F,G⟩:=G.nM Jo [105,103,101,0,102]
   exact ⟨(j+1),F,⟨ow,tv⟩,G,ow⟩
  have hil:j=(Nn g.txs i).ops.length:=Ki
  replace G:=G.turn 102 rfl (r':=RS.hp (Zgm (wwA p g.orders) (rdH p g (g.txs.take (i+1))) v14)) (fun _ _ _ _ h=>by rw [Zp9 hio];rw [hil,YE] at h;exact h)
  obtain ⟨F,G⟩:=G.nM Ja Qw
  refine Yz (Zg (Zg (Zm (Ze (Za (rZ G (qp r1 (qR rr qZ)) Z JG Qw fun G=>?_))))))
  replace G:=G.eI 60 i
  obtain ⟨F,G⟩:=G.nM [59,58,6,5,4,1,60] [103,101,0,102]
  exact ⟨(i+1),F,⟨ow,tv⟩,G,ow⟩
 have hil:i=g.txs.length:=Kb
 replace G:=G.turn 102 rfl (r':=RS.hp (Zgm (wwC p g) (rdC p g) v14)) (fun _ _ _ _ h=>by rw [hgA,hgR];rw [hil,YE] at h;exact h)
 obtain ⟨F,G⟩:=G.nM Ji KO
 refine Yz (Zg (Zg (Zm (Za (Ya (rZ G (qR rr (qO rr qZ)) Z [4] KO fun G=>Yj ?_))))))
 obtain ⟨F,G⟩:=G.rename 102 1 rfl rfl
 refine Zaw (h':=fun v=>Zgm (wwC p g) (rdC p g) v) hG G rfl (.tmp rfl .nil) (.one .one) rfl
def rV (v:Value):List PV:=[.is v]
theorem Zbk {w:World} {y:Ys} : ∀ {rs:List RS} {f:Ys},stars w y rs f → ∀ r ∈ rs,∃ f1:Ys,(∀ b,f1 b→f b)∧r.holds tau0 w f1 y
 | [],f,_,r,h=>by cases h
 | x :: rs,f,⟨f1,f2,h1,h2,h3,h4,h5⟩,r,hr=>by
  rcases Ym.1 hr with rfl | hr
  ·exact ⟨f1,fun b hb=>(h1 b).2 (.inl hb),h4⟩
  ·obtain ⟨g,g1,g2⟩:=Zbk h5 r hr
   exact ⟨g,fun b hb=>(h1 b).2 (.inr (g1 b hb)),g2⟩
structure Zaj where
 kind:Int
 label:Int
 node:Int
 deriving DecidableEq,Inhabited
def ZaG (e:Zaj):List PV:=[.int .i64 e.kind,.int .i64 e.label,.int .i64 e.node]
def Zbd (l:List Zaj):List PV:=[.sl ZaG l]
def Zm6 (p:Value×List Zaj):HP:=Zz 296 3 ZaG p.2 p.1
def ZeJ (hs:List Value) (L:List (List Zaj)):List (Value×List Zaj):=(List.range hs.length).map fun k=>(Nn hs k,Nn L k)
theorem ZlF (hs:List Value) (L:List (List Zaj)):(ZeJ hs L).length=hs.length:=by unfold ZeJ;simp
theorem ZpU {hs:List Value} {L:List (List Zaj)} {k:Nat} (h:k<hs.length):(ZeJ hs L)[k]? = some (Nn hs k,Nn L k):=by unfold ZeJ;simp [h]
theorem Zqh (hs:List Value) (L:List (List Zaj)):(ZeJ hs L).map (·.1)=hs:=by
 apply YaM (by simp [ZeJ])
 intro j h1 h2
 simp [ZeJ,nth_eq h2]
theorem ZqD {hs:List Value} {L:List (List Zaj)} (h:hs.length=L.length):(ZeJ hs L).map (·.2)=L:=by
 apply YaM (by simp [ZeJ,h])
 intro j h1 h2
 simp [ZeJ,nth_eq h2]
def Zi2 (L:List (List Zaj)) (v:Value):HP:=.ex fun hs:List Value=>.and (hs.length=L.length) (.star [.ob (.val v) (Zz 299 1 rV hs),Zsu Zm6 (ZeJ hs L)])
theorem Zln {w:World} {y y':Ys} : ∀ {ps:List (Value×List Zaj)} {xs:List Value},PVs ((ps.map (·.1)).flatMap rV) xs w y→(∀ p ∈ ps,(PV.sl ZaG p.2).p p.1 w y')→PVs ((ps.map (·.2)).flatMap Zbd) xs w y'
 | [],[],_,_=>trivial
 | p :: ps,x :: xs,h,k=>by
  have e:x=p.1:=h.1.2.1
  refine ⟨⟨h.1.1,?_⟩,Zln (ps:=ps) h.2 fun q hq=>k q (Yy _ hq)⟩
  rw [e];exact k p Yay
 | [],_ :: _,h,_=>h.elim
 | _ :: _,[],h,_=>h.elim
theorem Zjh {L:List (List Zaj)} {v:Value} : Zs1 (Zi2 L v) v (.sl Zbd L):=fun w f y y' ⟨hs,hl,h⟩ hle hf hb=>by
 obtain ⟨f1,g1,g2⟩:=Zbk h (.ob (.val v) (Zz 299 1 rV hs)) XM
 obtain ⟨f2,m1,m2⟩:=Zbk h (Zsu Zm6 (ZeJ hs L)) XM
 have hrow:(Zz 299 1 rV hs v).p w f1 y:=g2
 have hfam:stars w y ((ZeJ hs L).map fun x=>RS.hp (Zm6 x)) f2:=m2
 obtain ⟨xs,k1,k2,k3⟩:=hrow
 obtain ⟨ad,cap,e8,h8,h9,h10⟩:=ZG k1
 rw [hl] at e8 h8
 refine ⟨ad,cap,e8,h8,h9,?_⟩
 rcases h10 with h10 | ⟨b',rfl,h11,h12⟩
 ·exact .inl (YM (by rw [← hl];exact h10))
 ·have hb':f1 b':=(k3 b').2 h11
  refine .inr ⟨b',0,xs,rfl,hf b' (g1 b' hb'),hb b' (g1 b' hb'),h12,?_⟩
  have key:=Zln (y:=y) (y':=y') (ps:=ZeJ hs L) (xs:=xs) (w:=w) (by rw [Zqh];exact k2) fun p hp=>by
   obtain ⟨f3,n1,n2⟩:=Zbk hfam (RS.hp (Zm6 p)) (YB.2 ⟨p,hp,rfl⟩)
   exact Zhv w f3 y y' n2 hle (fun b h=>hf b (m1 b (n1 b h))) (fun b h=>hb b (m1 b (n1 b h)))
  rwa [ZqD hl] at key
def Zp3 (O I:List (List Zaj)) (n:Nat) (v:Value):HP:=.ex fun ov:Value=>.ex fun iv:Value=>.star [.pt (.val v) 294 [.pv (.is ov),.pv (.is iv),.pv (.int .i64 n)],RS.hp (Zi2 O ov),RS.hp (Zi2 I iv)]
abbrev Zk7 (O I:List (List Zaj)) (n:Nat):PV:=.ref [.sl Zbd O,.sl Zbd I,.int .i64 n]
theorem ZhR {O I:List (List Zaj)} {n:Nat} {v:Value} : Zs1 (Zp3 O I n v) v (Zk7 O I n):=fun w f y y' ⟨ov,iv,h⟩ hle hf hb=>by
 obtain ⟨f1,g1,g2⟩:=Zbk h (.pt (.val v) 294 [.pv (.is ov),.pv (.is iv),.pv (.int .i64 n)]) XM
 obtain ⟨f2,m1,m2⟩:=Zbk h (RS.hp (Zi2 O ov)) XM
 obtain ⟨f3,n1,n2⟩:=Zbk h (RS.hp (Zi2 I iv)) XM
 have hO:=Zjh w f2 y y' m2 hle (fun b k=>hf b (m1 b k)) (fun b k=>hb b (m1 b k))
 have hI:=Zjh w f3 y y' n2 hle (fun b k=>hf b (n1 b k)) (fun b k=>hb b (n1 b k))
 obtain ⟨b,vs,k1,k2,k3,k4⟩:=g2
 have hb1:f1 b:=(k3 b).2 rfl
 refine ⟨b,0,vs.toList,k1,hf b (g1 b hb1),hb b (g1 b hb1),Zt.mk fun j u hj=>?_,?_⟩
 ·simp only [Yab]
  simp [World.cell?,k2]
  simpa using hj
 ·generalize vs.toList=us at k4
  match us,k4 with
  | [u1,u2,u3],k4=>
   have e1:u1=ov:=k4.1.2.1
   have e2:u2=iv:=k4.2.1.2.1
   refine ⟨⟨k4.1.1,?_⟩,⟨k4.2.1.1,?_⟩,⟨k4.2.2.1.1,k4.2.2.1.2⟩,tv⟩
   ·rw [e1];exact hO
   ·rw [e2];exact hI
structure ZV where
 src:Int
 dst:Int
 kind:Int
 label:Int
 deriving DecidableEq,Inhabited
def Zb5 (a:ZV):List PV:=[.int .i64 a.src,.int .i64 a.dst,.int .i64 a.kind,.int .i64 a.label]
def endO (x:ZV):Zaj:=⟨x.kind,x.label,x.dst⟩
def endI (x:ZV):Zaj:=⟨x.kind,x.label,x.src⟩
def ofB (mask kind:Int):Bool:=decide (bits .and .i64 (mask.fdiv (2 ^ min (IntKind.wrap .u64 kind).toNat (IntKind.bits .i64))) 1=1)
def ZaE (n:Nat) (x:ZV):Bool:=(((((decide (0≤x.src∧x.src<n)) && decide (0≤x.dst∧x.dst<n)) && decide (1≤x.kind)) && decide (x.kind≤3)) && decide (0≤x.label)) && decide (x.label≤1048575)
theorem ZiM (O I:List (List Zaj)) (m:Nat):FnP prog 212 [Zk7 O I m] (.int .i64 (O.length:Int)):=by
 refine FnP.mk func212 rfl ntmps212 rfl fun B a w F Z hfr G=>Ya ?_
 refine rZ G (qI qZ) Z Q0 [0] fun G=>(Ya (Ya ?_))
 refine rZ G (qR rr (qf (Zdz underlying227 .t) r1 qz qZ)) Z QU [0] fun G=>?_
 refine Zb G rfl (fun hc0=>?_) (fun hc0=>?_)
 ·simp at hc0
 refine Yf (Za (Ya (rZ G (qR rr (qf (ZM .t) r1 qz (qf (oG 0 .t) r1 qz (qf (oR false 1 .t) r1 qz (qu Ycg r1 (qO rr qZ)))))) Z [2] [0] fun G=>Yj ?_)))
 refine Zo hfr G rfl rfl rfl .refl
theorem Zh9 (O I:List (List Zaj)) (m:Nat) (u:Int):FnP prog 228 [Zk7 O I m,.int .i64 u] (.bool (decide (0≤u∧u<O.length))):=by
 refine FnP.mk func228 rfl ntmps228 rfl fun B a w F Z hfr G=>Ya ?_
 refine rZ G qB Z KU [0] fun G=>Ya ?_
 refine rZ G (qR rr (qf (ZbD .t qi) r1 qz (qR rr (qm rfl rfl rfl rfl (qm rfl rfl rfl rfl (qk rfl (fun h=>oP (ZiM O I m) func212 (Args.one (.w h))) r2 qz (qk rfl (fun h=>Zbb (.w h) (.w h)) r3 qz (qf (ZC .t .t) r2 qz (qO rr qZ))))))))) Z [4] [0] fun G=>Yj ?_
 refine Zo hfr G rfl rfl rfl (.bool (by by_cases h:0≤u <;> simp [h]))
theorem Zjm (O I:List (List Zaj)) (m:Nat) (x:ZV):FnP prog 208 [Zk7 O I m,.agg (Zb5 x)] (.bool (ZaE O.length x)):=by
 refine FnP.mk func208 rfl ntmps208 rfl fun B a w F Z hfr G=>Ya ?_
 refine rS G (qx 101 r1 qB) Z QN KN fun τ G=>?_
 have G:=X9
 generalize τ 3=v3 at G
 refine Za (Ya (rZ G (qR rr (qg 0 101 r1 r1 (qa 101 r1 r1 (qf (oP (Zh9 O I m x.src) func228 (Args.two .t .t)) r2 qz (qR rr (qm rfl rfl rfl rfl (qv 1 101 rfl r2 r1 (qw 101 rfl r2 r1 (qk rfl (fun h=>oP (Zh9 O I m x.dst) func228 (Args.two (.w h) (.w h))) r3 qz (qf (ZC .t .t) r2 qz (qR rr (qv 2 101 rfl r2 r1 (qw 101 rfl r2 r1 (qk rfl (fun h=>ZbD (.w h) qi) r2 qz (qf (ZC .t .t) r2 qz (qR rr (qv 2 101 rfl r2 r1 (qw 101 rfl r2 r1 (qk rfl (fun h=>o_leq (.w h) qi) r2 qz (qf (ZC .t .t) r2 qz (qR rr (qv 3 101 rfl r2 r1 (qw 101 rfl r2 r1 (qk rfl (fun h=>ZbD (.w h) qi) r2 qz (qf (ZC .t .t) r2 qz (qR rr (qv 3 101 rfl r2 r1 (qw 101 rfl r2 r1 (qk rfl (fun h=>o_leq (.w h) qi) r2 qz (qf (ZC .t .t) r2 qz (qO rr qZ))))))))))))))))))))))))))))))) Z [4] [0] fun G=>Yj ?_))
 refine Zo hfr G rfl rfl rfl (.bool (by unfold ZaE;simp))
theorem Zk0 (x:ZV):FnP prog 210 [.agg (Zb5 x)] (.tup [.agg (ZaG (endO x)),.agg (ZaG (endI x))]):=by
 refine FnP.mk func210 rfl ntmps210 rfl fun B a w F Z hfr G=>Ya ?_
 refine rS G (qx 101 r1 (qf (oH [.int .i64 0,.int .i64 0,.int .i64 0] 102) trivial qz (qf (oH [.int .i64 0,.int .i64 0,.int .i64 0] 103) trivial qz qZ))) Z Qa KO fun τ G=>?_
 have G:=X9
 generalize τ 1=v1,τ 2=v2,τ 3=v3 at G
 refine Za (Ya (Zv G (qg 2 101 r1 r1 (qa 101 r1 r1 (qg 3 101 r1 r1 (qa 101 r1 r1 (qg 1 101 r1 r1 (qa 101 r1 r1 (qf (oB [(0,.tmp 5),(1,.tmp 7),(2,.tmp 9)] [.int .i64 0,.int .i64 0,.int .i64 0] [(0,1),(1,1),(2,1)] (.one rfl .t one_int kr (.one rfl .t one_int kr (.one rfl .t one_int kr .nil)))) r3 qz (qg 2 101 r1 r1 (qa 101 r1 r1 (qg 3 101 r1 r1 (qa 101 r1 r1 (qg 0 101 r1 r1 (qa 101 r1 r1 (qf (oB [(0,.tmp 12),(1,.tmp 14),(2,.tmp 16)] [.int .i64 0,.int .i64 0,.int .i64 0] [(0,1),(1,1),(2,1)] (.one rfl .t one_int kr (.one rfl .t one_int kr (.one rfl .t one_int kr .nil)))) r3 qz (qs 3 102 r2 r1 (qs 3 103 r2 r1 qZ)))))))))))))))) Z Q8 [103,102,0] rfl rfl fun a w F G=>?_))
 have G:=XE
 refine Za (Yj (ZW hfr G rfl (.cl 102 true 3 rfl rfl (.cl 103 true 3 rfl rfl .nil)) (.two (.aggU rfl rfl) (.aggU rfl rfl))))
theorem ZuP (mask kind:Int):FnP prog 229 [.int .i64 mask,.int .i64 kind] (.bool (ofB mask kind)):=by
 refine FnP.mk func229 rfl ntmps229 rfl fun B a w F Z hfr G=>Ya ?_
 refine rZ G qB Z KU [0] fun G=>Ya ?_
 refine rZ G (qR rr (qR rr (qf (o_conv Ycd kr .t) r1 qz (qf (Zf2 .t .t  (by rw [Zaa];omega)) r2 qz (qf (o_and .t qi) r1 qz (qf (o_eql .t qi) r1 qz (qO rr qZ))))))) Z [4] [0] fun G=>Yj ?_
 refine Zo hfr G rfl rfl rfl (.bool rfl)
def ZeB (x y:Int):Int:=if x<y then -1 else if y<x then 1 else 0
theorem Zn5 {x y:Int} : ZeB x y<0 ↔ x<y:=by unfold ZeB;split <;> (try split) <;> omega
theorem Zte {x y:Int} : ZeB x y=0 ↔ x=y:=by unfold ZeB;split <;> (try split) <;> omega
theorem Zv7 {x:Int} (h:0≤x∧x≤18446744073709551615):IntKind.wrap .u64 x=x:=ZdW ⟨by simp [IntKind.min,IntKind.signed,IntKind.bits];omega,by simp [IntKind.max,IntKind.signed,IntKind.bits];omega⟩
theorem Ztb {i j:Nat} (h:i+j≤2000000):IntKind.wrap .i64 ((IntKind.wrap .u64 (IntKind.wrap .i64 ((i:Int)+(j:Int)))).fdiv (2 ^ min (1:Int).toNat (IntKind.bits .u64)))=(((i+j) / 2:Nat):Int):=by
 rw [wrap_i64 (x:=(i:Int)+(j:Int)) ow,Zv7 ow,show (2:Int) ^ min (1:Int).toNat (IntKind.bits .u64)=2 by decide,Ybm _ XW,wrap_i64 ow]
 omega
def Zjo {α:Type} [Inhabited α] (κ:α→Int) (l:List α):Prop:=∀ a b,a<b→b<l.length→κ (Nn l a)<κ (Nn l b)
def lowK {α:Type} (κ:α→Int) (k:Int) (l:List α):Nat:=(l.takeWhile fun x=>decide (κ x<k)).length
def isK {α:Type} (κ:α→Int) (k:Int) (l:List α):Bool:=l.any fun x=>decide (κ x=k)
theorem ZkB {α:Type} [Inhabited α] {κ:α→Int} {k:Int} : ∀ {l:List α} {i:Nat},i≤l.length→(∀ q,q<i→κ (Nn l q)<k)→(∀ q,i≤q→q<l.length→k≤κ (Nn l q))→lowK κ k l=i
 | [],i,hi,_,_=>by simp at hi;subst hi;rfl
 | x :: l,0,_,_,h2=>by
  have:=h2 0 (YF _) XM
  rw [nth_eq XM] at this
  unfold lowK
  rw [List.takeWhile_cons_of_neg (by simpa using this)];rfl
 | x :: l,i+1,hi,h1,h2=>by
  have hx:=h1 0 ow
  rw [nth_eq XM] at hx
  have ih:=ZkB (κ:=κ) (k:=k) (l:=l) (i:=i) XP (fun q hq=>by
   have:=h1 (q+1) ow
   rw [nth_eq (by simp at hi ⊢;omega)] at this
   rw [nth_eq (by simp at hi;omega)];simpa using this) (fun q hq hq2=>by
   have:=h2 (q+1) ow XT
   rw [nth_eq XT] at this
   rw [nth_eq hq2];simpa using this)
  unfold lowK at ih ⊢
  rw [List.takeWhile_cons_of_pos Wa,Yh,ih]
theorem Zvl {α:Type} [Inhabited α] {κ:α→Int} {k:Int} {l:List α} {i:Nat} (hi:i≤l.length) (hs:Zjo κ l) (h1:∀ q,q<i→κ (Nn l q)<k) (h2:∀ q,i≤q→q<l.length→k≤κ (Nn l q)):isK κ k l=true ↔ i<l.length∧κ (Nn l i)=k:=by
 unfold isK
 rw [Ybd]
 constructor
 ·rintro ⟨x,hx,hk⟩
  obtain ⟨q,hq,e⟩:=YR hx
  have hk':κ (Nn l q)=k:=by rw [nth_eq hq,e];simpa using hk
  have hiq:i≤q:=Nat.le_of_not_lt fun h=>by have:=h1 q h;omega
  rcases YY hiq with h | h
  ·have a1:=hs i q h hq
   have a2:=h2 i (YF _) ow
   omega
  ·subst h;exact ⟨hq,hk'⟩
 ·rintro ⟨h3,h4⟩
  exact ⟨_,nth_mem h3,by simpa using h4⟩
theorem ZkA {α:Type} [Inhabited α] {κ:α→Int} {l:List α} (hs:Zjo κ l) {a b:Nat} (h:a≤b) (hb:b<l.length):κ (Nn l a)≤κ (Nn l b):=by
 rcases YY h with h | h
 ·exact YaV (hs a b h hb)
 ·subst h;exact Yar _
theorem Zlu (x:Int):FnP prog 184 [.int .i64 x] (.bool false):=by
 refine FnP.mk func184 rfl ntmps184 rfl fun B a w F Z hfr G=>Ya ?_
 refine rZ G qB Z Q0 [0] fun G=>Ya ?_
 refine rZ G (qR rr (qR rr (qf (o_neq .t .t) r2 qz (qO rr qZ)))) Z [2] [0] fun G=>Yj ?_
 refine Zo hfr G rfl rfl rfl (.bool XM)
theorem Zox (x y:Int):FnP prog 133 [.int .i64 x,.int .i64 y] (.int .i64 (ZeB x y)):=by
 refine FnP.mk func133 rfl ntmps133 rfl fun B a w F Z hfr G=>Ya ?_
 refine rZ G (qI qZ) Z KU [0] fun G=>Ya ?_
 refine rZ G (qR rr (qf (oP (Zlu x) func184 (Args.one .t)) r1 qz (qO rr qZ))) Z Qh [0] fun G=>Ya ?_
 refine rZ G (qR rr (qf (oP (Zlu y) func184 (Args.one .t)) r1 qz (qO rr qZ))) Z QG [0] fun G=>(Ya (Ya ?_))
 refine rZ G (qR rr qZ) Z [11,6,4,1,0] [0] fun G=>?_
 refine Zb G rfl (fun hc0=>?_) (fun hc0=>?_)
 ·simp at hc0
 refine Yf (Za (Ya (Ya (rZ G (qR rr qZ) Z [13,4,1,0] [0] fun G=>?_))))
 refine Zb G rfl (fun hc1=>?_) (fun hc1=>?_)
 ·simp at hc1
 refine Yf (Za (Ya (Ya (rZ G (qR rr (qR rr (qL r2))) Z [16,4,1,0] [0] fun G=>?_))))
 refine Zb G rfl (fun hc2=>?_) (fun hc2=>?_)
 ·have hg:(-1:Int)=ZeB x y:=by unfold ZeB;rw [Ye WA]
  refine Ya (rZ G (qI qZ) Z KU [0] fun G=>(Yj (Zh ?_)))
  refine Zo hfr G rfl rfl rfl (.int hg)
 have h1:¬ x<y:=WA
 refine Yf (Za (Ya (Ya (rZ G (qR rr (qR rr (qf (Zad .t .t) r2 qz qZ))) Z [19,4] [0] fun G=>?_))))
 refine Zb G rfl (fun hc3=>?_) (fun hc3=>?_)
 ·have hg:(1:Int)=ZeB x y:=by unfold ZeB;rw [Yb h1,Ye (by simpa using hc3)]
  refine Ya (rZ G (qI qZ) Z [4] [0] fun G=>(Yj (Zh ?_)))
  refine Zo hfr G rfl rfl rfl (.int hg)
 have hg:(0:Int)=ZeB x y:=by unfold ZeB;rw [Yb h1,Yb (by simpa using hc3)]
 refine Yf (Za (Ya (rZ G (qI qZ) Z [4] [0] fun G=>Yj ?_)))
 refine Zo hfr G rfl rfl rfl (.int hg)
def orZ:List Int→Int
 | []=>0
 | x :: l=>if x=0 then orZ l else x
theorem ZsT:∀ {l:List Int} {i:Nat},i<l.length→(∀ q,q<i→Nn l q=0)→Nn l i≠0→orZ l=Nn l i
 | x :: l,0,h,_,hn=>by rw [nth_eq h] at hn ⊢;exact Yb hn
 | x :: l,i+1,h,hq,hn=>by
  have h':i<l.length:=XL
  have h0:=hq 0 ow
  rw [nth_eq XM] at h0
  have e:Nn (x :: l) (i+1)=Nn l i:=by rw [nth_eq h,nth_eq h'];rfl
  rw [e] at hn ⊢
  rw [orZ,Ye (show x=0 from h0)]
  exact ZsT h' (fun q hq2=>by
   have:=hq (q+1) ow
   rwa [nth_eq XT,List.getElem_cons_succ,← nth_eq ow] at this) hn
theorem Zli:∀ {l:List Int},(∀ q,q<l.length→Nn l q=0)→orZ l=0
 | [],_=>rfl
 | x :: l,hq=>by
  have h0:=hq 0 XM
  rw [nth_eq XM] at h0
  rw [orZ,Ye (show x=0 from h0)]
  exact Zli fun q hq2=>by
   have:=hq (q+1) XT
   rwa [nth_eq XT,List.getElem_cons_succ,← nth_eq hq2] at this
def okE (e:Zaj):Prop:=(0≤e.label∧e.label≤1048575)∧0≤e.node∧e.node≤4095
def ZaN (e:Zaj):Int:=(e.kind*1048576+e.label)*4096+e.node
theorem ZrI {a b:Zaj} (ha:okE a) (hb:okE b):orZ [ZeB a.kind b.kind,ZeB a.label b.label,ZeB a.node b.node] = ZeB (ZaN a) (ZaN b):=by
 obtain ⟨⟨a1,a2⟩,a3,a4⟩:=ha
 obtain ⟨⟨b1,b2⟩,b3,b4⟩:=hb
 unfold orZ orZ orZ orZ ZaN ZeB
 repeat' split
 all_goals omega
theorem keyE_inj {a b:Zaj} (ha:okE a) (hb:okE b) (h:ZaN a=ZaN b):a=b:=by
 obtain ⟨⟨a1,a2⟩,a3,a4⟩:=ha
 obtain ⟨⟨b1,b2⟩,b3,b4⟩:=hb
 unfold ZaN at h
 cases a;cases b
 simp only at *
 congr 1 <;> omega
theorem ZvR (l:List Int):FnP prog 257 [.sl Zq l] (.int .i64 (orZ l)):=by
 refine FnP.mk func257 rfl ntmps257 rfl fun B a w F Z hfr G=>?_
 have hxl:=Sat.lenSl G (i:=0) rfl
 refine Ya (rZ G (qI qZ) Z Q0 [0] fun G=>Ya ?_)
 refine rZ G (qI qZ) Z KR [0] fun G=>(Ya (Ya ?_))
 refine rZ G (qR rr (qu YbY r1 (qJ qZ))) Z QH [0] fun G=>Yi ?_
 refine Zk (σ:=(Nat)) [2,3,6,7] [0] (fun s=>[(8,.pv (.int .i64 (s:Int)))]) (fun s=>[]) (fun s=>s≤l.length∧(∀ q,q<s→Nn l q=0)) (fun s=>l.length - s) (0) G ⟨rfl,rfl,rfl,rfl,rfl,tv⟩ ⟨rfl,tv⟩ ⟨YA _,fun q hq=>absurd hq (Yah q)⟩ ?_
 clear G;intro i a w F hC G
 have hC:=X4
 obtain ⟨F,G⟩:=G.nM QH [0]
 have G:=X3
 obtain ⟨hi,hq⟩:=hC
 refine Ya (rZ G (qL r2) Z [9,8,7,6,3,2] [0] fun G=>Ya ?_)
 refine Zb G rfl (fun hc0=>?_) (fun hc0=>?_)
 ·have hil:i<l.length:=Wl
  refine Yf (Za (Ya (Yi (Ya (Zc G (qy 1 YbY r2 (qf (oR false 1 .t) r1 qz (qO rr qZ))) Z [8,7,6,5,3,2] [0] rfl rfl fun a w F G=>?_)))))
  try simp only [Yg] at G
  refine Za (Ya (rZ G (qR rr (qR rr (qf (o_neq .t .t) r2 qz qZ))) Z [14,8,7,6,5,3,2] [0] fun G=>?_))
  refine Zb G rfl (fun hc1=>?_) (fun hc1=>?_)
  ·have hg:Nn l i=orZ l:=(ZsT ow hq Wg).symm
   refine Ya (rZ G (qR rr (qO rr qZ)) Z QH [0] fun G=>(Yj (Zn (Zh (Zh (Zn (Zh ?_)))))))
   refine Zo hfr G rfl rfl rfl (.int hg)
  have hne:Nn l i=0:=Wg
  refine Yf (Ze (Za (rZ G (qp r1 (qR rr qZ)) Z QH [0] fun G=>?_)))
  replace G:=G.eI 8 i
  obtain ⟨F,G⟩:=G.nM [7,6,3,2,8] [0]
  exact ⟨(i+1),F,⟨ow,(fun q h9=>by rcases YY (Yag h9) with h8 | h8;exact hq q h8;rw [h8];exact hne)⟩,G,ow⟩
 have hil:i=l.length:=Wl
 have hg:(0:Int)=orZ l:=(Zli fun q h9=>hq q ow).symm
 refine Yz (Zg (Zg (Zm (Za (Ya (rZ G (qR rr (qO rr qZ)) Z [2] [0] fun G=>Yj ?_))))))
 refine Zo hfr G rfl rfl rfl (.int hg)
theorem ZsH (x y:Zaj) (hx:okE x) (hy:okE y):FnP prog 234 [.agg (ZaG x),.agg (ZaG y)] (.int .i64 (ZeB (ZaN x) (ZaN y))):=by
 refine FnP.mk func234 rfl ntmps234 rfl fun B a w F Z hfr G=>Ya ?_
 refine rS G (qx 101 r1 (qx 102 r1 (qI qZ))) Z QJ KP fun τ G=>?_
 have G:=X9
 generalize τ 2=v2,τ 3=v3 at G
 refine Za (Ya (Zv G (qg 0 101 r1 r1 (qa 101 r1 r1 (qg 0 102 r1 r1 (qa 102 r1 r1 (qf (oP (Zox x.kind y.kind) func133 (Args.two .t .t)) r2 qz (qg 1 101 r1 r1 (qa 101 r1 r1 (qg 1 102 r1 r1 (qa 102 r1 r1 (qf (oP (Zox x.label y.label) func133 (Args.two .t .t)) r2 qz (qg 2 101 r1 r1 (qa 101 r1 r1 (qg 2 102 r1 r1 (qa 102 r1 r1 (qf (oP (Zox x.node y.node) func133 (Args.two .t .t)) r2 qz (qf (Zj (sz:=1) (zs:=[.int .i64 0]) (r:=[(0,.tmp 9),(1,.tmp 14),(2,.tmp 19)]) (l:=[_,_,_]) YbY kr kr kr kr rfl rfl (.one rfl .t one_int kr (.one rfl .t one_int kr (.one rfl .t one_int kr .nil))) rfl) r3 qz (qf (oP (ZvR [ZeB x.kind y.kind,ZeB x.label y.label,ZeB x.node y.node]) func257 (Args.one (.conv .t (Ent.arrSl (R:=Zq) (l:=[ZeB x.kind y.kind,ZeB x.label y.label,ZeB x.node y.node]) rfl)))) r1 qz (qO rr qZ)))))))))))))))))) Z [4] [0] rfl rfl fun a w F G=>?_))
 have G:=XE
 refine Za (Yj (Zo hfr G rfl rfl rfl (.int (ZrI hx hy))))
theorem Zt2 {α:Type} {l:List α} {i:Nat} {x:α} (h:i=l.length):l.take i ++ [x] ++ l.drop i=l ++ [x]:=by rw [h];simp
theorem Zr3 {α:Type} {l l2 l3:List α} {i:Nat} {x z:α} (hi:i<l.length) (h2:l2=l.take i++List.replicate (l.length+1 - i) z) (h3:l3=l2.take i ++ [x] ++ l2.drop (i + [x].length)) :
  l.take i ++ [x] ++ l.drop i=l3.take (i+1)++l.drop i++l3.drop (i+1+(l.drop i).length):=by
 have e1:l2.take i=l.take i:=by
  rw [h2,Yal Wm,Ybh,Nat.min_self]
 have e0:l2.length=l.length+1:=by rw [h2,Yc,Yp,Ybb];omega
 have e2:l3.take (i+1)=l.take i ++ [x]:=by
  rw [h3,e1,Yal (by rw [Yc,Yp];simp;omega),Yaf (by rw [Yc,Yp];simp;omega)]
 have e3:l3.length=l.length+1:=by
  rw [h3,e1,Yc,Yc,Yp,YS,e0];simp;omega
 have e4:l3.drop (i+1+(l.drop i).length) = []:=List.drop_eq_nil_of_le (by rw [e3,YS];omega)
 rw [e2,e4,YQ]
theorem Zo0 {α:Type} {l l4:List α} {i:Nat} {x:α} (hi:i<l.length) (h4:l4=l.take (i+1)++l.drop i):l.take i ++ [x] ++ l.drop i=l4.take i ++ [x] ++ l4.drop (i + [x].length):=by
 have e1:l4.take i=l.take i:=by
  rw [h4,Yal Wm,Ybh,Ya7 ow]
 have e2:l4.drop (i + [x].length)=l.drop i:=by
  rw [h4,show i + [x].length=i+1 from rfl,List.drop_append_of_le_length Wm,List.drop_eq_nil_of_le Wm,Yax]
 rw [e1,e2]
theorem Zve (l : List Zaj) (e : Zaj) (k : Int) (hll : l.length ≤ 1000000) (hs : Zjo ZaN l) (f : FuncId) (fn : Func) (cps : List PV) (hf : prog.funcs[f]? = some fn) (hb : fn.body.isSome = true) (hnn : (fn.name == "runtime.NumGoroutine") = false) (hw : ∀ x ∈ l, FnP prog f (.agg (ZaG x) :: .agg (ZaG e) :: cps) (.int .i64 (ZeB (ZaN x) k))) : FnP prog 233 [.sl ZaG l, .agg (ZaG e), .clos f cps] (.tup [.int .i64 (lowK ZaN k l), .bool (isK ZaN k l)]) := by
 refine FnP.mk func233 rfl ntmps233 rfl fun B a w F Z hfr G=>Ya ?_
 refine rS G (qx 101 r1 (qI qB)) Z [7,6,4,2,0] KN fun τ G=>?_
 try dsimp only [RS.sub,SF.sub,CF.sub,csub,Anc.sub,List.map,zCF,ZaG] at G
 generalize τ 4=v4 at G
 refine Za (Ya (rZ G (qR rr (qu Yb2 r1 (qO rr qZ))) Z [8,7,6,4,2,0] KN fun G=>Ya ?_))
 refine rZ G (qR rr (qI (qO rr qZ))) Z J2 KN fun G=>(Ya (Yi ?_))
 refine Zk (σ:=Nat×Nat) [0,2,4,6,7,8] [0,101] (fun s=>[(9,.pv (.int .i64 (s.1:Int))),(10,.pv (.int .i64 (s.2:Int)))]) (fun s=>[]) (fun s=>s.1≤s.2∧s.2≤l.length∧(∀ q,q<s.1→ZaN (Nn l q)<k) ∧ ∀ q,s.2≤q→q<l.length→k≤ZaN (Nn l q)) (fun s=>s.2 - s.1) ((0),(l.length)) G ⟨rfl,rfl,rfl,rfl,rfl,rfl,rfl,rfl,tv⟩ ⟨rfl,rfl,tv⟩ ⟨YA _,YF _,fun q hq=>absurd hq (Yah q),fun q h1 h2=>by omega⟩ ?_
 clear G;intro s a w F hC G
 obtain ⟨i,j⟩:=s
 have hC:=X4
 obtain ⟨F,G⟩:=G.nM J2 KN
 have G:=X3
 obtain ⟨hij,hjl,hlo,hhi⟩:=hC
 have hgs:=Zvl (i:=i) ow hs hlo
 have hgl:=ZkB (i:=i) ow hlo
 refine Ya (Ya (rZ G (qR rr (qR rr (qL r2))) Z [17,10,9,8,7,6,4,2,0] KN fun G=>?_))
 refine Zb G rfl (fun hc0=>?_) (fun hc0=>?_)
 ·skip
  have hlt:i<j:=Wl
  refine Yf (Za (Yi (Ya (Zc G (qR rr (qR rr (qf (Zce .t .t) r2 qz (qf (o_conv Ycd kr .t) r1 qz (qf (Zf2 .t qi XW) r1 qz (qf (o_conv Yb1 kr .t) r1 qz (qO rr qZ))))))) Z [11,10,9,8,7,6,4,2,0] KN rfl rfl fun a w F G=>?_))))
  obtain ⟨m,hm⟩:∃ m:Nat,m=(i+j) / 2:=⟨_,rfl⟩
  replace G:=G.ent (i:=11) (s':=.pv (.int .i64 (m:Int))) rfl (.int (by rw [hm];exact Ztb ow))
  obtain ⟨F,G⟩:=G.nM [11,10,9,8,7,6,4,2,0] KN
  refine Za (Ya (Zv G (qR rr (qR rr (qR rr (qy 3 Yb2 r2 (qf (oR true 3 .t) r1 qz (qe 3 101 r1 r1 (qf (Zab (avs:=[.agg (ZaG (Nn l m)),.agg (ZaG e)]) .t (hw (Nn l m) (nth_mem ow)) hf hb hnn (Args.two (.pagg .t) (.pagg .t))) r3 qz (qf (Zbb .t qi) r1 qz qZ)))))))) Z [31,11,10,9,8,7,6,4,2,0] KN rfl rfl fun a w F G=>?_))
  try dsimp only [List.map,xD,xE,xT,xU,ldSF,ZaG] at G
  try simp only [Yg] at G
  refine Za (Zb G rfl (fun hc1=>?_) (fun hc1=>?_))
  ·skip
   have hmk:ZaN (Nn l m)<k:=Zn5.1 Wg
   obtain ⟨i2,hi2e⟩:∃ z,z=m+1:=⟨_,rfl⟩
   obtain ⟨j2,hj2e⟩:∃ z,z=j:=⟨_,rfl⟩
   have hi2:IntKind.wrap .i64 ((m:Int)+1)=(i2:Int):=by rw [hi2e];exact Za7 ow
   have hj2:(j:Int)=(j2:Int):=by rw [hj2e]
   have hmu:j2 - i2<j - i:=ow
   have hC2:i2≤j2∧j2≤l.length∧(∀ q,q<i2→ZaN (Nn l q)<k) ∧ ∀ q,j2≤q→q<l.length→k≤ZaN (Nn l q):=⟨ow,ow,fun q hq=>Int.lt_of_le_of_lt (ZkA hs ow ow) hmk,by rw [hj2e];exact hhi⟩
   refine Zc G (qR rr (qp r1 (qO rr qZ))) Z J2 KN rfl rfl fun a w F G=>Ze (Za ?_)
   replace G:=G.ent (i:=9) (s':=.pv (.int .i64 (i2:Int))) rfl (.int hi2)
   replace G:=G.ent (i:=10) (s':=.pv (.int .i64 (j2:Int))) rfl (.int hj2)
   obtain ⟨F,G⟩:=G.nM [8,7,6,4,2,0,10,9] KN
   exact ⟨((i2),(j2)),F,hC2,G,hmu⟩
  have hmk:k≤ZaN (Nn l m):=Int.not_lt.1 fun e=>(show ¬ ZeB (ZaN (Nn l m)) k<0 by simpa using hc1) (Zn5.2 e)
  obtain ⟨i2,hi2e⟩:∃ z,z=i:=⟨_,rfl⟩
  obtain ⟨j2,hj2e⟩:∃ z,z=m:=⟨_,rfl⟩
  have hi2:(i:Int)=(i2:Int):=by rw [hi2e]
  have hj2:(m:Int)=(j2:Int):=by rw [hj2e]
  have hmu:j2 - i2<j - i:=ow
  have hC2:i2≤j2∧j2≤l.length∧(∀ q,q<i2→ZaN (Nn l q)<k) ∧ ∀ q,j2≤q→q<l.length→k≤ZaN (Nn l q):=⟨ow,ow,by rw [hi2e];exact hlo,fun q h1 h2=>Int.le_trans hmk (ZkA hs ow h2)⟩
  refine Zc G (qR rr (qO rr qZ)) Z J2 KN rfl rfl fun a w F G=>Ze (Za ?_)
  replace G:=G.ent (i:=9) (s':=.pv (.int .i64 (i2:Int))) rfl (.int hi2)
  replace G:=G.ent (i:=10) (s':=.pv (.int .i64 (j2:Int))) rfl (.int hj2)
  obtain ⟨F,G⟩:=G.nM [8,7,6,4,2,0,10,9] KN
  exact ⟨((i2),(j2)),F,hC2,G,hmu⟩
 have hjj:i=j:=Wl
 subst hjj
 have hgl2:=hgl hhi
 have hgs2:=hgs hhi
 have hb2:(decide ((i:Int)<(l.length:Int)) && decide (ZeB (ZaN (Nn l i)) k=0))=isK ZaN k l:=by
   rw [Yau,hgs2]
   simp [Zte]
 refine Yz (Zg (Zg (Zm (Za (Ya (Zv G (qR rr (qR rr (qR rr (qf (Zbb .t .t) r2 qz (qR rr (qm rfl rfl rfl rfl (qm rfl rfl rfl rfl (qm rfl rfl rfl rfl (qk rfl (fun h=>o_indexAddr_sl (sz:=3) (.mk Yb2 kr) Wh (.w h) (.w h) ow (by have:=Yd h;omega)) r3 qz (qk rfl (fun h=>oR true 3 (.w h)) r2 qz (qk rfl (fun h=>oL true 3 101 .is) r2 r1 (qk rfl (fun h=>Zab (avs:=[.agg (ZaG (Nn l i)),.agg (ZaG e)]) (.w h) (hw (Nn l i) (nth_mem (by have:=Yd h;omega))) hf hb hnn (Args.two (.pagg (.w h)) (.pagg (.w h)))) r4 qz (qk rfl (fun h=>o_eql (.w h) qi) r2 qz (qf (ZC .t .t) r2 qz (qO rr (qO rr qZ)))))))))))))))) Z [7,6] [0] rfl rfl fun a w F G=>?_))))))
 try dsimp only [List.map,xD,xE,xT,xU,ldSF,ZaG] at G
 try simp only [Yg] at G
 refine Za (Yj (ZW hfr G rfl (.tmp rfl (.tmp rfl .nil)) (.two (.int (by rw [hgl2])) (.bool hb2))))
theorem ZuN (v:Value) (l:List Zaj) (i:Nat) (x:Zaj) (hll:l.length≤1000000) (hi:i≤l.length):FnG prog 235 1 [.is v,.int .i64 i,.sl ZaG [x]] [Zz 296 3 ZaG l v] (PV.one) (fun v=>[Zz 296 3 ZaG (l.take i ++ [x] ++ l.drop i) v]):=by
 refine FnG.mk func235 rfl ntmps235 rfl kr fun B F0 a w F Z hG G=>?_
 replace G:=G.turn 1 rfl (r':=.ob (.val v) (Zz 296 3 ZaG l)) (fun _ _ _ _ h=>h)
 refine Ya (rZ G (qC qZ) Z JH KQ fun G=>Ya ?_)
 refine rZ G (qR rr (qR rr (qf (Znc (sz:=3) 1 (.mk Yb2 kr) .is .t ow ow) r2 r1 qZ))) Z JH KQ fun G=>Ya ?_
 refine Zc G (qR rr (qu Yb2 r1 (qO rr qZ))) Z Qu KQ rfl rfl fun a w F G=>?_
 replace G:=G.ent (i:=7) (s':=.pv (.int .i64 1)) rfl (.int rfl)
 obtain ⟨F,G⟩:=G.nM Qu KQ
 refine Za (Ya (Ya (rZ G (qR rr (qf (o_eql .t qi) r1 qz qZ)) Z [16,7,6,2,1,0] KQ fun G=>?_)))
 refine Zb G rfl (fun hc0=>?_) (fun hc0=>?_)
 ·simp at hc0
 refine Yf (Za (Ya (rZ G (qR rr (qf (ZN 1 Yb2 .is) r1 r1 (qO rr qZ))) Z Qv KQ fun G=>(Ya (Ya ?_)))))
 refine rZ G (qR rr (qR rr (qf (o_eql .t .t) r2 qz qZ))) Z [22,8,7,6,2,1,0] KQ fun G=>?_
 refine Zb G rfl (fun hc1=>?_) (fun hc1=>?_)
 ·have hg:=Zt2 (x:=x) (by have h9:=hc1;simp at h9;omega:i=l.length)
  refine Ya (rS G (qR rr (qR rr (qf (o_append (sz:=3) (bs:=24) 1 (.mk' Yb2 kr kr) Wh .is (.sl .t) Ws XW) ⟨rfl,rfl,tv⟩ ⟨rfl,tv⟩ (qO rr qZ)))) Z Qv KQ fun τ G=>?_)
  try dsimp only [RS.sub,SF.sub,CF.sub,csub,Anc.sub,List.map,xC,xN,ZaG] at G
  generalize τ 25=v25 at G
  refine Za (Yj (Zh ?_))
  have G:=G.turn 1 rfl (r':=RS.hp (Zz 296 3 ZaG (l.take i ++ [x] ++ l.drop i) v25)) (fun _ _ _ _ h=>by rw [hg];exact h)
  refine Zaw (h':=fun v=>Zz 296 3 ZaG (l.take i ++ [x] ++ l.drop i) v) hG G rfl (.tmp rfl .nil) (.one .one) rfl
 have hil:i<l.length:=WE
 have hw1:IntKind.wrap .i64 ((i:Int)+1)=((i+1:Nat):Int):=Za7 ow
 have hwn:IntKind.wrap .i64 ((l.length:Int)+1)=((l.length+1:Nat):Int):=Za7 ow
 refine Yf (Za (Ya (Ya (rZ G (qR rr (qR rr (qf (Zce .t .t) r2 qz (qR rr (qf (Zpk 1 Yb2 .is) r1 r1 (qf (Zad .t .t) r2 qz qZ)))))) Z [31,8,7,6,2,1,0] KQ fun G=>?_))))
 refine Zb G rfl (fun hc2=>?_) (fun hc2=>?_)
 ·have hcap:capV v<l.length+1:=by rw [hwn] at hc2;simp at hc2;omega
  have hw:IntKind.wrap .i64 (IntKind.wrap .i64 ((l.length:Int)+1) - (i:Int))=((l.length+1 - i:Nat):Int):=by rw [hwn,wrap_i64 ow];omega
  refine Ya (rS G (qR rr (qR rr (qf (Zmm (sz:=3) 1 (.mk Yb2 kr) .is .t ow ow) r2 r1 (qR rr (qR rr (qf (Zce .t .t) r2 qz (qR rr (qf (o_sub .t .t) r2 qz (qf (ZgD (R:=ZaG) (z:=(⟨0,0,0⟩:Zaj)) (bs:=24) (sz:=3) (zs:=[.int .i64 0,.int .i64 0,.int .i64 0]) 1 101 Yb2 Yb1 kr kr kr Wh (fun _ _=>⟨⟨rfl,rfl,Zc5⟩,⟨rfl,rfl,Zc5⟩,⟨rfl,rfl,Zc5⟩,tv⟩) .t .t ow Wi Wi Wi Wi) ⟨rfl,rfl,tv⟩ ⟨rfl,tv⟩ (qO rr qZ)))))))))) Z QZ KS fun τ G=>?_)
  try dsimp only [RS.sub,SF.sub,CF.sub,csub,Anc.sub,List.map,xC,xN,ZaG] at G
  generalize τ 40=v40 at G
  rw [hw] at G
  simp only [Yg] at G
  obtain ⟨l2,hl2⟩:∃ y,y=l.take i++List.replicate (l.length+1 - i) (⟨0,0,0⟩:Zaj):=⟨_,rfl⟩
  rw [← hl2] at G
  have hl2n:l2.length=l.length+1:=by rw [hl2,Yc,Yp,Ybb];omega
  obtain ⟨F,G⟩:=G.give 1 0 rfl rfl
  obtain ⟨F,G⟩:=G.nM QZ KN
  refine Za (Ya (Zc G (qR rr (qR rr (qf (Zbp (sz:=3) 101 (.mk Yb2 kr) .is .t ow ow) r2 r1 (qR rr (qf (o_copy_sub 101 Yb2 kr Wh .t .t XM XT) r2 r1 qZ))))) Z QZ KN rfl rfl fun a w F G=>?_))
  simp only [Yg] at G
  obtain ⟨l3,hl3⟩:∃ y,y=l2.take i ++ [x] ++ l2.drop (i + [x].length):=⟨_,rfl⟩
  rw [← hl3] at G
  have hl3n:l3.length=l.length+1:=by rw [hl3,Yc,Yc,Yp,YS,hl2n];simp;omega
  refine Za (Ya (Zv G (qR rr (qR rr (qR rr (qf (Zce .t .t) r2 qz (qf (Zbp (sz:=3) 101 (.mk Yb2 kr) .is .t Wv Wv) r2 r1 (qR rr (qR rr (qf (o_slice_lo (sz:=3) (.mk Yb2 kr) Wh .t .t ow ow) r2 qz (qf (o_copy_sub 101 Yb2 kr Wh .t .t (by intro h9;have:=Y8 List.length h9;simp at this;omega) (by rw [hw1,YS];omega)) r2 r1 qZ))))))))) Z QZ KN rfl rfl fun a w F G=>?_))
  try dsimp only [ZaG] at G
  rw [hw1] at G
  simp only [Yg] at G
  have hg:=Zr3 (x:=x) hil hl2 hl3
  refine Za (Ya (rZ G (qR rr (qO rr qZ)) Z Qv KN fun G=>(Yj (Zh ?_))))
  obtain ⟨F,G⟩:=G.rename 101 1 rfl rfl
  have G:=G.turn 1 rfl (r':=RS.hp (Zz 296 3 ZaG (l.take i ++ [x] ++ l.drop i) v40)) (fun _ _ _ _ h=>by rw [hg];exact h)
  refine Zaw (h':=fun v=>Zz 296 3 ZaG (l.take i ++ [x] ++ l.drop i) v) hG G rfl (.tmp rfl .nil) (.one .one) rfl
 have hcap:l.length+1≤capV v:=by rw [hwn] at hc2;simp at hc2;omega
 refine Yf (Za (Ya (rS G (qR rr (qR rr (qR rr (qf (Zce .t .t) r2 qz (qf (Zmw (sz:=3) 1 (.mk Yb2 kr) .is .t (by rw [hwn];omega) ow) r2 r1 (qO rr qZ)))))) Z Qv KQ fun τ G=>?_)))
 try dsimp only [RS.sub,SF.sub,CF.sub,csub,Anc.sub,List.map,ZaG] at G
 generalize τ 60=v60 at G
 refine Za (Ya (Ya (rZ G (qR rr (qR rr (qR rr (qR rr (qf (Zce .t .t) r2 qz (qf (Zem (sz:=3) 1 (.mk Yb2 kr) .is .t Wv Wv) r2 r1 (qf (Zmu 1 func258 kr kr kr rfl Yb2 kr Wh .t .t Wv) r2 r1 (qf (o_not .t) r1 qz qZ)))))))) Z [68,8,7,6,2,1,0] KQ fun G=>?_)))
 refine Zb G rfl (fun hc3=>?_) (fun hc3=>?_)
 ·refine Ya (Zv G (qR rr (qR rr (qR rr (qf (Zce .t .t) r2 qz (qf (Zem (sz:=3) 1 (.mk Yb2 kr) .is .t Wv Wv) r2 r1 (qR rr (qR rr (qf (Zem (sz:=3) 1 (.mk Yb2 kr) .is .t ow ow) r2 r1 (qf (ZiV (k:=i) 1 Yb2 kr Wh .t .t (by rw [hw1];rfl) rfl ow) r2 r1 qZ))))))))) Z Qv KQ rfl rfl fun a w F G=>?_)
  try dsimp only [ZaG] at G
  obtain ⟨l4,hl4⟩:∃ y,y=l.take (i+1)++l.drop i:=⟨_,rfl⟩
  rw [← hl4] at G
  have hl4n:l4.length=l.length+1:=by rw [hl4,Yc,Yp,YS];omega
  refine Za (Ya (Zc G (qR rr (qR rr (qf (Zbp (sz:=3) 1 (.mk Yb2 kr) .is .t ow ow) r2 r1 (qR rr (qf (o_copy_sub 1 Yb2 kr Wh .t .t XM XT) r2 r1 qZ))))) Z Qv KQ rfl rfl fun a w F G=>?_))
  simp only [Yg] at G
  have hg:=Zo0 (x:=x) hil hl4
  refine Za (Ya (rZ G (qR rr (qO rr qZ)) Z Qv KQ fun G=>(Yj (Zh ?_))))
  have G:=G.turn 1 rfl (r':=RS.hp (Zz 296 3 ZaG (l.take i ++ [x] ++ l.drop i) v60)) (fun _ _ _ _ h=>by rw [hg];exact h)
  refine Zaw (h':=fun v=>Zz 296 3 ZaG (l.take i ++ [x] ++ l.drop i) v) hG G rfl (.tmp rfl .nil) (.one .one) rfl
 simp at hc3
theorem Ztz (l : List OrdD) (p : OrdD → Bool) (f : FuncId) (fn : Func) (cps : List PV) (hf : prog.funcs[f]? = some fn) (hb : fn.body.isSome = true) (hnn : (fn.name == "runtime.NumGoroutine") = false) (hw : ∀ x, FnP prog f (.agg (ZK x) :: cps) (.bool (p x))) : FnP prog 89 [.sl ZK l, .clos f cps] (.int .i64 (Zap p l)) := by
 refine FnP.mk func89 rfl ntmps89 rfl fun B a w F Z hfr G=>?_
 have hll:=Sat.lenSl G (i:=0) rfl
 refine Ya (rZ G (qI qZ) Z KU [0] fun G=>(Ya (Ya ?_)))
 refine rZ G (qR rr (qu Yb7 r1 (qJ qZ))) Z Qm [0] fun G=>Yi ?_
 refine Zk (σ:=(Nat)) [0,1,4,7] [0] (fun s=>[(8,.pv (.int .i64 (s:Int)))]) (fun s=>[]) (fun s=>s≤l.length∧(∀ k,k<s→p (Nn l k)=false)) (fun s=>l.length - s) (0) G ⟨rfl,rfl,rfl,rfl,rfl,tv⟩ ⟨rfl,tv⟩ ⟨YA _,fun k hk=>absurd hk (Yah k)⟩ ?_
 clear G;intro i a w F hC G
 have hC:=X4
 obtain ⟨F,G⟩:=G.nM Qm [0]
 have G:=X3
 obtain ⟨hi,hq⟩:=hC
 refine Ya (rZ G (qL r2) Z Gb [0] fun G=>Ya ?_)
 refine Zb G rfl (fun hc0=>?_) (fun hc0=>?_)
 ·skip
  have hil:i<l.length:=Wl
  refine Yf (Za (Ya (Yi (Ya (rZ G (qR rr (qO rr qZ)) Z Gc [0] fun G=>Ya ?_)))))
  refine Zc G (qR rr (qR rr (qR rr (qy 2 Yb7 r2 (qf (oR true 2 .t) r1 qz (qf (Zab (avs:=[.agg (ZK (Nn l i))]) .t (hw (Nn l i)) hf hb hnn (Args.one (.pagg .t))) r2 qz qZ)))))) Z JP [0] rfl rfl fun a w F G=>?_
  try simp only [Yg] at G
  refine Za (Zb G rfl (fun hc1=>?_) (fun hc1=>?_))
  ·skip
   have hg:(i:Int)=Zap p l:=(Zd2 hil hc1 hq).symm
   refine Ya (rZ G (qR rr (qO rr qZ)) Z Qm [0] fun G=>(Yj (Zn (Zh (Zh (Zn (Zh ?_)))))))
   refine Zo hfr G rfl rfl rfl (.int hg)
  have hne:p (Nn l i)=false:=hc1
  refine Yf (Ze (Za (rZ G (qp r1 (qR rr qZ)) Z Qm [0] fun G=>?_)))
  replace G:=G.eI 8 i
  obtain ⟨F,G⟩:=G.nM [7,4,1,0,8] [0]
  exact ⟨(i+1),F,⟨ow,(fun k hk=>by rcases YY (Yag hk) with h | h;exact hq k h;rw [h];exact hne)⟩,G,ow⟩
 have hil:i=l.length:=Wl
 have hg : -1=Zap p l:=(Zcv fun k hk=>hq k Wl).symm
 refine Yz (Zg (Zg (Zm (Za (Ya (rZ G (qI qZ) Z [4] [0] fun G=>Yj ?_))))))
 refine Zo hfr G rfl rfl rfl (.int hg)
def ZsI (os:List OrdD) (k:Int):List OrdD:=if isK OrdD.key k os=true then os else os.take (lowK OrdD.key k os) ++ [⟨k,[]⟩] ++ os.drop (lowK OrdD.key k os)
theorem Zom {α:Type} {κ:α→Int} {k:Int} (l:List α):lowK κ k l≤l.length:=by
 unfold lowK
 exact (List.takeWhile_sublist _).length_le
theorem Z7 {α:Type} [Inhabited α] {κ:α→Int} {l:List α} : Zjo κ l ↔ l.Pairwise fun a b=>κ a<κ b:=by
 rw [Y4]
 constructor
 ·intro h i j hi hj hij
  have:=h i j hij hj
  rwa [nth_eq hi,nth_eq hj] at this
 ·intro h a b hab hb
  rw [nth_eq ow,nth_eq hb]
  exact h a b ow hb hab
theorem ZqL (os:List OrdD) (k:Int):(ZsI os k).length≤os.length+1:=by
 unfold ZsI
 split
 ·omega
 ·rw [Yc,Yc,Yp,YS];simp;omega
theorem ZrH {os:List OrdD} {k:Int} {o:OrdD} (h:o ∈ ZsI os k):o ∈ os∨o = ⟨k,[]⟩:=by
 unfold ZsI at h
 split at h
 ·exact .inl h
 ·rw [YC,YC] at h
  rcases h with (h | h) | h
  ·exact .inl (Yaw h)
  ·exact .inr XL
  ·exact .inl (Ybs h)
def Zva (t:TxD) (os:List OrdD) (ks:List Int):List OrdD:=if t.done=true then ks.foldl ZsI os else os
def Zwj (t:TxD) (o:OrdD):OrdD:=⟨o.key,if t.done=true∧0<wcnt t.ops o.key then Zvi o.txs t.id else Zhz o.txs t.id⟩
def settleO (t:TxD) (os:List OrdD):List OrdD:=((Zva t os (ZH t)).map (Zwj t)).filter fun o=>!decide (o.txs = [])
abbrev Zwt (T TR:TypeId) (p va:Value) (os:List OrdD):HP:=HP.ex fun vb:Value=>HP.star [.pt (.val p) T [.pv (.is va),.pv (.is vb)],.ob (.val vb) (Zz TR 2 ZK os)]
theorem Zs8 {k:IntKind} {a:Int} {b:Bool} (v:Value) (w:World) (y y':Ys) (h:(PV.tup [.int k a,.bool b]).p v w y):(PV.tup [.int k a,.bool b]).p v w y':=by
 obtain ⟨vs,e,h⟩:=h
 match vs,h with
 | [_,_],h=>exact ⟨_,e,h⟩
def insE (l:List Zaj) (e:Zaj):List Zaj:=l.take (lowK ZaN (ZaN e) l) ++ [e] ++ l.drop (lowK ZaN (ZaN e) l)
theorem putE_c (v:Value) (l:List Zaj) (e:Zaj) (hll:l.length≤1000000) (hs:Zjo ZaN l) (hl:∀ x ∈ l,okE x) (he:okE e):FnG prog 211 1 [.is v,.agg (ZaG e)] [Zz 296 3 ZaG l v] (PV.one) (fun v=>[Zz 296 3 ZaG (insE l e) v]):=by
 refine FnG.mk func211 rfl ntmps211 rfl kr fun B F0 a w F Z hG G=>?_
 replace G:=G.turn 1 rfl (r':=.ob (.val v) (Zz 296 3 ZaG l)) (fun _ _ _ _ h=>h)
 refine Ya (rS G (qx 101 r1 (qC qZ)) Z QN KS fun τ G=>?_)
 have G:=X9
 generalize τ 3=v3 at G
 refine Za (Ya (rZ G (qR rr (qe 3 101 r1 r1 (qf (OpC.lendRow 1 [8] (oP (Zve l e (ZaN e) hll hs 234 f234 [] func234 rfl kr (fun x hx=>ZsH x e (hl x hx) he)) func233 (Args.three .t (.pagg .t) (.conv .f (Ent.fnClos)))) ⟨rfl,tv,tv⟩ (.pv Zs8) trivial XV) r2 r1 (qR rr (qf (Zs .t rfl) r1 qz (qf (Zs .t rfl) r1 qz (qO rr (qO rr qZ)))))))) Z QA KS fun G=>Ya ?_))
 refine rS G (qR rr (qR rr (qe 3 101 r1 r1 (qf (Zj (sz:=3) (zs:=[.int .i64 0,.int .i64 0,.int .i64 0]) (r:=[(0,.tmp 15)]) (l:=[_,_,_]) Yb2 kr kr kr kr rfl rfl (.agg rfl .t kr kr .nil) rfl) r1 qz (qf (o_callRowN 1 (ZuN v l (lowK ZaN (ZaN e) l) e hll (Zom l)) func235 rfl kr (Args.three .t .t (.conv .t (Ent.arrSl (R:=ZaG) (l:=[e]) rfl))) pvOne1) r3 r1 (qO rr qZ)))))) Z [4] KQ fun τ G=>?_
 have G:=X8
 generalize τ 17=v17 at G
 have hg:insE l e=l.take (lowK ZaN (ZaN e) l) ++ [e] ++ l.drop (lowK ZaN (ZaN e) l):=rfl
 refine Za (Yj ?_)
 have G:=G.turn 1 rfl (r':=RS.hp (Zz 296 3 ZaG (insE l e) v17)) (fun _ _ _ _ h=>by rw [hg];exact h)
 refine Zaw (h':=fun v=>Zz 296 3 ZaG (insE l e) v) hG G rfl (.tmp rfl .nil) (.one .one) rfl
def ZvH (L:List (List Zaj)):Prop:=∀ l ∈ L,l.length≤1000000∧Zjo ZaN l ∧ ∀ e ∈ l,okE e
def Zp2 (O:List (List Zaj)) (x:ZV):Bool:=ZaE O.length x && isK ZaN (ZaN (endO x)) (Nn O x.src.toNat)
theorem Z0 {n:Nat} {x:ZV} : ZaE n x=true ↔ (0≤x.src∧x.src<n)∧(0≤x.dst∧x.dst<n)∧(1≤x.kind∧x.kind≤3)∧0≤x.label∧x.label≤1048575:=by
 unfold ZaE
 simp only [Yw,Yl]
 constructor
 ·rintro ⟨⟨⟨⟨⟨a,b⟩,c⟩,d⟩,e⟩,f⟩;exact ⟨a,b,⟨c,d⟩,e,f⟩
 ·rintro ⟨a,b,⟨c,d⟩,e,f⟩;exact ⟨⟨⟨⟨⟨a,b⟩,c⟩,d⟩,e⟩,f⟩
theorem endO_ok {n:Nat} {x:ZV} (h:ZaE n x=true) (hn:n≤4096):okE (endO x):=by
 obtain ⟨h1,h2,h3,h4,h5⟩:=Z0.1 h
 exact ⟨⟨h4,h5⟩,h2.1,show x.dst≤4095 by omega⟩
theorem endI_ok {n:Nat} {x:ZV} (h:ZaE n x=true) (hn:n≤4096):okE (endI x):=by
 obtain ⟨h1,h2,h3,h4,h5⟩:=Z0.1 h
 exact ⟨⟨h4,h5⟩,h1.1,show x.src≤4095 by omega⟩
theorem Ztt (O I:List (List Zaj)) (m:Nat) (x:ZV) (hO:ZvH O) (hn:O.length≤4096):FnP prog 209 [Zk7 O I m,.agg (Zb5 x)] (.bool (Zp2 O x)):=by
 refine FnP.mk func209 rfl ntmps209 rfl fun B a w F Z hfr G=>Ya ?_
 refine rS G (qx 101 r1 qB) Z QN KN fun τ G=>?_
 have G:=X9
 generalize τ 3=v3 at G
 refine Za (Ya (Ya (rZ G (qR rr (qe 4 101 r1 r1 (qf (oP (Zjm O I m x) func208 (Args.two .t (.pagg .t))) r2 qz (qf (o_not .t) r1 qz qZ)))) Z [12,4,3,0] KN fun G=>?_)))
 refine Zb G rfl (fun hc0=>?_) (fun hc0=>?_)
 ·have hrf:ZaE O.length x=false:=WV
  have hg:false=Zp2 O x:=by unfold Zp2;rw [hrf];rfl
  refine Ya (rZ G qB Z QN KN fun G=>(Yj (Zh ?_)))
  refine Zo hfr G rfl rfl rfl (.bool hg)
 have hrt:ZaE O.length x=true:=WV
 obtain ⟨hs1,hs2⟩:=(Z0.1 hrt).1
 have hg:isK ZaN (ZaN (endO x)) (Nn O x.src.toNat)=Zp2 O x:=by unfold Zp2;rw [hrt,Ybu]
 refine Yf (Za (Ya (rS G (qe 4 101 r1 r1 (qf (oP (Zk0 x) func210 (Args.one (.pagg .t))) r1 qz (qR rr (qf (Zs .t rfl) r1 qz (qf (Zs .t rfl) r1 qz (qf (oH [.int .i64 0,.int .i64 0,.int .i64 0] 102) trivial qz (qf (oH [.int .i64 0,.int .i64 0,.int .i64 0] 103) trivial qz (qf (oA 3 102 .same (.conv .t .agg)) r2 r1 (qf (oA 3 103 .same (.conv .t .agg)) r2 r1 qZ))))))))) Z QA KP fun τ G=>?_)))
 have G:=X8
 generalize τ 5=v5,τ 6=v6 at G
 refine Za (Ya (Zv G (qR rr (qf (ZM .t) r1 qz (qf (oG 0 .t) r1 qz (qf (oR false 1 .t) r1 qz (qg 0 101 r1 r1 (qa 101 r1 r1 (qy 1 Ycg r2 (qf (oR false 1 .t) r1 qz (qe 3 102 r1 r1 (qf (oP (Zve (Nn O x.src.toNat) (endO x) (ZaN (endO x)) (hO _ (nth_mem ow)).1 (hO _ (nth_mem ow)).2.1 234 f234 [] func234 rfl kr (fun z hz=>ZsH z (endO x) ((hO _ (nth_mem ow)).2.2 z hz) (endO_ok hrt hn))) func233 (Args.three .t (.pagg .t) (.conv .f (Ent.fnClos)))) r2 qz (qR rr (qf (Zs .t rfl) r1 qz (qf (Zs .t rfl) r1 qz (qO rr (qO rr qZ))))))))))))))) Z [8,4] [0] rfl rfl fun a w F G=>?_))
 try dsimp only [List.map,xD,xE,xT,xU,ldSF,ZaG,Zbd,Zq,Zb5] at G
 try simp only [Yg] at G
 refine Za (Ya (rZ G (qR rr (qO rr qZ)) Z [4] [0] fun G=>Yj ?_))
 refine Zo hfr G rfl rfl rfl (.bool hg)
theorem Zv9 {α:Type} [Inhabited α] {l:List α} {k j:Nat} {v:α} (h:j<l.length):Nn (l.set k v) j=if k=j then v else Nn l j:=by
 rw [nth_eq XL,YbN]
 split
 ·rfl
 ·exact (nth_eq h).symm
theorem Zk8 {hs:List Value} {L:List (List Zaj)} {k:Nat} {v:Value} {l:List Zaj} (h2:hs.length=L.length):ZeJ (hs.set k v) (L.set k l)=(ZeJ hs L).set k (v,l):=by
 apply YaM (by simp [ZeJ])
 intro j h3 h4
 have hj:j<hs.length:=by simpa [ZeJ] using h3
 simp only [ZeJ,List.getElem_map,YbB,YbN]
 rw [Zv9 hj,Zv9 ow]
 split <;> rfl
def Zis (O I:List (List Zaj)) (m:Nat) (x:ZV):List (List Zaj)×List (List Zaj)×Nat×Int:=
 if ZaE O.length x then if Zp2 O x then (O,I,m,4) else (O.set x.src.toNat (insE (Nn O x.src.toNat) (endO x)),I.set x.dst.toNat (insE (Nn I x.dst.toNat) (endI x)),m+1,0) else (O,I,m,1)
theorem Zum (b:Nat) (O I:List (List Zaj)) (m:Nat) (x:ZV) (hO:ZvH O) (hI:ZvH I) (hOI:I.length=O.length) (hn:O.length≤4096) (hm:m<1000000):FnG prog 175 1 [.is (Value.pointer (some { block:=b,off:=0 })),.agg (Zb5 x)] [Zp3 O I m (Value.pointer (some { block:=b,off:=0 }))] (.int .i64 (Zis O I m x).2.2.2) (fun _=>[Zp3 (Zis O I m x).1 (Zis O I m x).2.1 (Zis O I m x).2.2.1 (Value.pointer (some { block:=b,off:=0 }))]):=by
 refine FnG.mk func175 rfl ntmps175 rfl kr fun B F0 a w F Z hG G=>Ya ?_
 refine rS G (qx 101 r1 (qI qZ)) Z QN KS fun τ G=>?_
 have G:=X9
 generalize τ 3=v3 at G
 refine Za (Ya (Yi (Ya (rZ G (qR rr (qe 4 101 r1 r1 (qf (OpC.lend 1 [8] ZhR (oP (Zjm O I m x) func208 (Args.two .t (.pagg .t))) ⟨rfl,tv,tv⟩ (.pv (fun _ _ _ _ h=>h)) trivial XV) r2 r1 (qf (o_not .t) r1 qz (qO rr qZ))))) Z [7,4,3,0] KS fun G=>?_))))
 refine Zb G rfl (fun hc0=>?_) (fun hc0=>?_)
 ·have hrf:ZaE O.length x=false:=WV
  have hg:Zis O I m x=(O,I,m,1):=by unfold Zis;rw [hrf];rfl
  refine Ya (rZ G (qI qZ) Z QN KS fun G=>(Yj (Zn (Zh ?_))))
  rw [hg]
  refine ZL hG G rfl (.tmp rfl .nil) (.one .refl) rfl
 have hrt:ZaE O.length x=true:=WV
 obtain ⟨⟨hs1,hs2⟩,⟨hd1,hd2⟩,_⟩:=Z0.1 hrt
 refine Ya (rZ G (qR rr (qe 4 101 r1 r1 (qf (OpC.lend 1 [13] ZhR (oP (Ztt O I m x hO hn) func209 (Args.two .t (.pagg .t))) ⟨rfl,tv,tv⟩ (.pv (fun _ _ _ _ h=>h)) trivial XV) r2 r1 (qO rr qZ)))) Z [12,4,3,0] KS fun G=>?_)
 refine Zb G rfl (fun hc1=>?_) (fun hc1=>?_)
 ·have hht:Zp2 O x=true:=hc1
  have hg:Zis O I m x=(O,I,m,4):=by unfold Zis;rw [hrt,hht];rfl
  refine Ya (rZ G (qI qZ) Z QN KS fun G=>(Yj (Zn (Zh ?_))))
  rw [hg]
  refine ZL hG G rfl (.tmp rfl .nil) (.one .refl) rfl
 have hhf:Zp2 O x=false:=hc1
 have hg:Zis O I m x=(O.set x.src.toNat (insE (Nn O x.src.toNat) (endO x)),I.set x.dst.toNat (insE (Nn I x.dst.toNat) (endI x)),m+1,0):=by unfold Zis;rw [hrt,hhf];rfl
 refine Yf (Ze (Za (Ya (rS G (qe 4 101 r1 r1 (qf (oP (Zk0 x) func210 (Args.one (.pagg .t))) r1 qz (qR rr (qf (Zs .t rfl) r1 qz (qf (Zs .t rfl) r1 qz (qf (oH [.int .i64 0,.int .i64 0,.int .i64 0] 102) trivial qz (qf (oH [.int .i64 0,.int .i64 0,.int .i64 0] 103) trivial qz (qf (oA 3 102 .same (.conv .t .agg)) r2 r1 (qf (oA 3 103 .same (.conv .t .agg)) r2 r1 qZ))))))))) Z JZ KY fun τ G=>?_))))
 have G:=X8
 generalize τ 5=v5,τ 6=v6 at G
 obtain ⟨ov,G⟩:=G.open_ex 1 rfl
 obtain ⟨iv,G⟩:=G.open_ex 1 rfl
 obtain ⟨F,G⟩:=G.peel 1 2 rfl rfl
 obtain ⟨F,G⟩:=G.peel 1 3 rfl rfl
 obtain ⟨F,G⟩:=G.peel 1 4 rfl rfl
 obtain ⟨hs,G⟩:=G.open_ex 3 rfl
 obtain ⟨hl1,G⟩:=G.open_and 3 rfl
 obtain ⟨F,G⟩:=G.peel 3 5 rfl rfl
 obtain ⟨F,G⟩:=G.peel 3 6 rfl rfl
 obtain ⟨js,G⟩:=G.open_ex 4 rfl
 obtain ⟨hl2,G⟩:=G.open_and 4 rfl
 obtain ⟨F,G⟩:=G.peel 4 7 rfl rfl
 obtain ⟨F,G⟩:=G.peel 4 8 rfl rfl
 obtain ⟨F,G⟩:=G.nM JZ [103,102,101,8,7,6,5,2,0]
 obtain ⟨F,G⟩:=G.takeAt Zm6 6 61 (x.src.toNat) rfl rfl (ZpU ow)
 replace G:=G.turn 61 rfl (r':=.ob (.val (Nn hs x.src.toNat)) (Zz 296 3 ZaG (Nn O x.src.toNat))) (fun _ _ _ _ h=>h)
 obtain ⟨F,G⟩:=G.nM JZ [103,102,101,61,8,7,6,5,2,0]
 obtain ⟨F,G⟩:=G.takeAt Zm6 8 62 (x.dst.toNat) rfl rfl (ZpU ow)
 replace G:=G.turn 62 rfl (r':=.ob (.val (Nn js x.dst.toNat)) (Zz 296 3 ZaG (Nn I x.dst.toNat))) (fun _ _ _ _ h=>h)
 obtain ⟨F,G⟩:=G.nM JZ [103,102,101,62,61,8,7,6,5,2,0]
 refine Za (Ya (rT G (qR rr (qf (o_nilCheck 2 .is XV) r1 r1 (qf (oF 0 2 .adr) r1 r1 (qa 2 r1 r1 (qg 0 101 r1 r1 (qa 101 r1 r1 (qR rr (qf (o_nilCheck 2 .is XV) r1 r1 (qf (oF 0 2 .adr) r1 r1 (qa 2 r1 r1 (qg 0 101 r1 r1 (qa 101 r1 r1 (qf (o_indexAddr_row (sz:=1) 5 (.mk Ycg kr) .is .t ow ow XV) r2 r1 (qf (Zx (ag:=false) (sz':=1) (sz:=1) 5 .t Wh ow kr kr kr) r1 r1 (qe 3 102 r1 r1 (qf (o_callRowN 61 (putE_c _ (Nn O x.src.toNat) (endO x) (hO _ (nth_mem ow)).1 (hO _ (nth_mem ow)).2.1 (hO _ (nth_mem ow)).2.2 (endO_ok hrt hn)) func211 rfl kr (Args.two .t (.pagg .t)) pvOne1) r2 r1 (qf (o_indexAddr_row (sz:=1) 5 (.mk Ycg kr) .is .t ow ow XV) r2 r1 (qf (Zls (i:=36) (j:=36) XV (fun z=>ZT (R:=rV) (sz:=1) (v:=z) 5 .t Wh ow .t rfl one_is kr)) r2 r1 qZ)))))))))))))))))) Z [6,4,3,0] [103,101,62,61,8,7,6,5,2,0] fun τ G=>?_))
 have G:=X8
 generalize τ 36=v36 at G
 try simp only [Yg] at G
 replace G:=G.turn 61 rfl (r':=RS.hp (Zm6 (v36,insE (Nn O x.src.toNat) (endO x)))) (fun _ _ _ _ h=>h)
 obtain ⟨F,G⟩:=G.putAt Zm6 (L:=ZeJ hs O) (x:=(v36,insE (Nn O x.src.toNat) (endO x))) 6 61 (x.src.toNat) (by rw [ZlF];omega) rfl rfl rfl
 rw [← Zk8 ow] at G
 obtain ⟨F,G⟩:=G.nM [6,4,3,0] [103,101,62,8,7,6,5,2,0]
 refine Za (Ya (rT G (qR rr (qf (o_nilCheck 2 .is XV) r1 r1 (qf (oF 1 2 .adr) r1 r1 (qa 2 r1 r1 (qg 1 101 r1 r1 (qa 101 r1 r1 (qR rr (qf (o_nilCheck 2 .is XV) r1 r1 (qf (oF 1 2 .adr) r1 r1 (qa 2 r1 r1 (qg 1 101 r1 r1 (qa 101 r1 r1 (qf (o_indexAddr_row (sz:=1) 7 (.mk Ycg kr) .is .t ow ow XV) r2 r1 (qf (Zx (ag:=false) (sz':=1) (sz:=1) 7 .t Wh ow kr kr kr) r1 r1 (qe 3 103 r1 r1 (qf (o_callRowN 62 (putE_c _ (Nn I x.dst.toNat) (endI x) (hI _ (nth_mem ow)).1 (hI _ (nth_mem ow)).2.1 (hI _ (nth_mem ow)).2.2 (endI_ok hrt hn)) func211 rfl kr (Args.two .t (.pagg .t)) pvOne1) r2 r1 (qf (o_indexAddr_row (sz:=1) 7 (.mk Ycg kr) .is .t ow ow XV) r2 r1 (qf (Zls (i:=53) (j:=53) XV (fun z=>ZT (R:=rV) (sz:=1) (v:=z) 7 .t Wh ow .t rfl one_is kr)) r2 r1 qZ)))))))))))))))))) Z G6 [62,8,7,6,5,2,0] fun τ G=>?_))
 have G:=X8
 generalize τ 53=v53 at G
 try simp only [Yg] at G
 replace G:=G.turn 62 rfl (r':=RS.hp (Zm6 (v53,insE (Nn I x.dst.toNat) (endI x)))) (fun _ _ _ _ h=>h)
 obtain ⟨F,G⟩:=G.putAt Zm6 (L:=ZeJ js I) (x:=(v53,insE (Nn I x.dst.toNat) (endI x))) 8 62 (x.dst.toNat) (by rw [ZlF];omega) rfl rfl rfl
 rw [← Zk8 ow] at G
 obtain ⟨F,G⟩:=G.nM G6 Gd
 refine Za (Ya (rZ G (qR rr (qf (o_nilCheck 2 .is XV) r1 r1 (qf (oF 2 2 .adr) r1 r1 (qa 2 r1 r1 (qp r1 (qf (o_nilCheck 2 .is XV) r1 r1 (qf (oF 2 2 .adr) r1 r1 (qf (ZZ 2 .adr .t one_int kr kr) r2 r1 qZ)))))))) Z [4] Gd fun G=>Ya ?_))
 refine rZ G (qI qZ) Z [4] Gd fun G=>Yj ?_
 rw [Za7 ow] at G
 have hl3:(hs.set x.src.toNat v36).length=(O.set x.src.toNat (insE (Nn O x.src.toNat) (endO x))).length:=by simp [hl1]
 have hl4:(js.set x.dst.toNat v53).length=(I.set x.dst.toNat (insE (Nn I x.dst.toNat) (endI x))).length:=by simp [hl2]
 have G:=G.fresh 3 rfl
 have G:=G.fresh 4 rfl
 have G:=G.fresh 1 rfl
 obtain ⟨F,G⟩:=G.push 3 6 rfl rfl rfl kr
 obtain ⟨F,G⟩:=G.push 3 5 rfl rfl rfl kr
 obtain ⟨F,G⟩:=G.push 4 8 rfl rfl rfl kr
 obtain ⟨F,G⟩:=G.push 4 7 rfl rfl rfl kr
 have G:=G.turn 3 rfl (r':=RS.hp (Zi2 _ ov)) (fun _ _ _ _ h=>⟨_,hl3,h⟩)
 have G:=G.turn 4 rfl (r':=RS.hp (Zi2 _ iv)) (fun _ _ _ _ h=>⟨_,hl4,h⟩)
 obtain ⟨F,G⟩:=G.push 1 4 rfl rfl rfl kr
 obtain ⟨F,G⟩:=G.push 1 3 rfl rfl rfl kr
 obtain ⟨F,G⟩:=G.push 1 2 rfl rfl rfl kr
 have G:=G.turn 1 rfl (r':=RS.hp (Zp3 (Zis O I m x).1 (Zis O I m x).2.1 (Zis O I m x).2.2.1 (Value.pointer (some { block:=b,off:=0 })))) (fun _ _ _ _ h=>by rw [hg];exact ⟨_,_,h⟩)
 refine ZL hG G rfl (.tmp rfl .nil) (.one (.int We)) rfl
def Zgp (O:List (List Zaj)) (mask u:Int):List Int:=if 0≤u∧u<O.length then ZcF (((Nn O u.toNat).filter fun e=>ofB mask e.kind).map Zaj.node) else []
theorem dgNodesOf_c (l:List Zaj) (mask:Int) (hl:l.length≤1000000):FnP prog 236 [.sl ZaG l,.int .i64 mask] (.sl Zq (ZcF ((l.filter fun e=>ofB mask e.kind).map Zaj.node))):=by
 refine FnP.mk func236 rfl ntmps236 rfl fun B a w F Z hfr G=>Ya ?_
 refine rZ G (qC qZ) Z KU [0] fun G=>Ya ?_
 refine rZ G (qC qZ) Z Qh [0] fun G=>(Ya (Ya ?_))
 refine rZ G (qR rr (qu Yb2 r1 (qJ qZ))) Z J7 [0] fun G=>Yi ?_
 replace G:=G.fresh 50 rfl
 replace G:=G.turn 50 rfl (Za6 (T:=3) (sz:=1) (R:=Zq))
 refine Zk (σ:=(Nat)×(Value)×(List Int)) [1,4,8,9] [0] (fun s=>[(10,.pv (.int .i64 (s.1:Int))),(5,.pv (.is s.2.1))]) (fun s=>[(50,.ob (.val s.2.1) (Zz 3 1 Zq s.2.2))]) (fun s=>s.1≤l.length∧(s.2.2=(((l.take s.1).filter fun e=>ofB mask e.kind).map Zaj.node))) (fun s=>l.length - s.1) ((0),(.slice none 0 0),([])) G ⟨rfl,rfl,rfl,rfl,rfl,rfl,tv⟩ ⟨rfl,rfl,tv⟩ ⟨YA _,rfl⟩ ?_
 clear G;intro s a w F hC G
 obtain ⟨i,v,out⟩:=s
 have hC:=X4
 obtain ⟨F,G⟩:=G.nM J7 JI
 have G:=X3
 obtain ⟨hi,hq⟩:=hC
 have hol:out.length≤i:=Ks
 refine Ya (rZ G (qL r2) Z [11,10,9,8,5,4,1] JI fun G=>Ya ?_)
 refine Zb G rfl (fun hc0=>?_) (fun hc0=>?_)
 ·have hil:i<l.length:=Wl
  refine Yf (Za (Ya (Yi (Ya (rS G (qy 3 Yb2 r2 (qf (oR true 3 .t) r1 qz (qf (oH [.int .i64 0,.int .i64 0,.int .i64 0] 101) trivial qz (qS 3 101 r2 r1 qZ)))) Z [10,9,8,7,5,4,1] Qo fun τ G=>?_)))))
  have G:=X8
  generalize τ 7=v7 at G
  try simp only [Yg] at G
  refine Za (Ya (rZ G (qR rr (qg 0 101 r1 r1 (qa 101 r1 r1 (qf (oP (ZuP mask (Nn l i).kind) func229 (Args.two .t .t)) r2 qz qZ)))) Z [17,10,9,8,7,5,4,1] Qo fun G=>?_))
  refine Zb G rfl (fun hc1=>?_) (fun hc1=>?_)
  ·have hBq:ofB mask (Nn l i).kind=true:=Wg
   refine rS G (qR rr (qg 2 101 r1 r1 (qa 101 r1 r1 (qf (Zj (sz:=1) (zs:=[.int .i64 0]) (r:=[(0,.tmp 20)]) (l:=[_]) YbY kr kr kr kr rfl rfl (.one rfl .t one_int kr .nil) rfl) r1 qz (qf (o_append (sz:=1) (bs:=8) 50 (.mk' YbY kr kr) Wh .is (.arr (l':=[_]) .t) WB XW) ⟨rfl,rfl,tv⟩ ⟨rfl,tv⟩ (qO rr qZ)))))) Z J7 Qo fun τ G=>?_
   have G:=X8
   generalize τ 22=v22 at G
   refine Ze (Za (rZ G (qp r1 (qR rr qZ)) Z J7 Qo fun G=>?_))
   replace G:=G.eI 10 i
   obtain ⟨F,G⟩:=G.nM [9,8,4,1,5,10] [0,50]
   exact ⟨((i+1),_,_),F,⟨ow,WC⟩,G,ow⟩
  have hBq:ofB mask (Nn l i).kind=false:=Wg
  refine Yf (Ze (Za (rZ G (qp r1 (qR rr qZ)) Z J7 Qo fun G=>?_)))
  replace G:=G.eI 10 i
  obtain ⟨F,G⟩:=G.nM [9,8,4,1,5,10] [0,50]
  exact ⟨((i+1),_,_),F,⟨ow,WC⟩,G,ow⟩
 have hil:i=l.length:=Wl
 refine Yz (Zg (Zg (Zm (Za (Ya (rZ G (qR rr (qf (ZbF 50 (ZlA _ out ow) func75 rfl kr (Args.one .t)) r1 r1 qZ)) Z [5,4] JI fun G=>Ya ?_))))))
 refine rS G (qR rr (qf (o_callRowN 50 (Zno _ _ (by rw [YbE];omega)) func130 rfl kr (Args.one .t) pvOne1) r1 r1 (qO rr qZ))) Z [4] JI fun τ G=>?_
 try dsimp only [RS.sub,SF.sub,CF.sub,csub,Anc.sub,List.map,ZaG,Zbd,Zq,Zb5] at G
 generalize τ 27=v27 at G
 refine Za (Yj ?_)
 obtain ⟨F,G⟩:=G.give 50 4 rfl rfl
 refine Zo hfr G rfl rfl rfl (.sl (by rw [Zd4,ZfD,hq,hil,YE]))
theorem Zqc (O I:List (List Zaj)) (m:Nat) (u mask:Int) (hO:∀ l ∈ O,l.length≤1000000):FnP prog 214 [Zk7 O I m,.int .i64 u,.int .i64 mask] (.sl Zq (Zgp O mask u)):=by
 refine FnP.mk func214 rfl ntmps214 rfl fun B a w F Z hfr G=>Ya ?_
 refine rZ G (qC qZ) Z JH [0] fun G=>(Ya (Ya ?_))
 refine rZ G (qR rr (qR rr (qf (oP (Zh9 O I m u) func228 (Args.two .t .t)) r2 qz (qf (o_not .t) r1 qz qZ)))) Z [10,6,2,1,0] [0] fun G=>?_
 refine Zb G rfl (fun hc0=>?_) (fun hc0=>?_)
 ·have hg:[] = Zgp O mask u:=by unfold Zgp;rw [Yb (by have h9:=hc0;simp at h9;omega)]
  refine Ya (rZ G (qC qZ) Z JH [0] fun G=>(Yj (Zh ?_)))
  refine Zo hfr G rfl rfl rfl (.trans .nilSl (.sl hg))
 have hth:0≤u∧u<O.length:=WV
 have hg:(ZcF (((Nn O u.toNat).filter fun e=>ofB mask e.kind).map Zaj.node))=Zgp O mask u:=by unfold Zgp;rw [Ye hth]
 refine Yf (Za (Ya (Zc G (qR rr (qf (ZM .t) r1 qz (qf (oG 0 .t) r1 qz (qf (oR false 1 .t) r1 qz (qR rr (qf (o_indexAddr_sl (sz:=1) (.mk Ycg kr) Wh .t .t (by exact hth.1) (by exact hth.2)) r2 qz (qf (oR false 1 .t) r1 qz (qR rr (qf (oP (dgNodesOf_c (Nn O u.toNat) mask (hO _ (nth_mem ow))) func236 (Args.two .t .t)) r2 qz (qO rr qZ)))))))))) Z [6] [0] rfl rfl fun a w F G=>?_)))
 try simp only [Yg] at G
 refine Za (Yj (Zo hfr G rfl rfl rfl (.sl hg)))
end Go.Proofs.YtolmpgbpdapaiaaGreat
