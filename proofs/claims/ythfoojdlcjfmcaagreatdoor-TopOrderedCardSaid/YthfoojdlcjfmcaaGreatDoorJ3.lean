/- Laws and walks. No condition beyond what each says. -/
import Derived.Test.YthfoojdlcjfmcaaGreatDoorJ2
namespace Go.Proofs.YthfoojdlcjfmcaaGreatDoor
open Go Go.Gm Tryz
set_option linter.unusedVariables false
set_option linter.unusedSimpArgs false
set_option maxHeartbeats 4000000
set_option maxRecDepth 8000
theorem Zk7 (l:List Int) (v:Int):FnP prog 58 [.sl rInt l,.int .i64 v] (.int .i64 (ZaR v l)):=by
 refine FnP.mk func58 O ntmps58 O fun B a w F J hfr G=>?_
 have hll:=Sat.lenSl G (i:=0) rfl
 refine Ya (rZ G (qI qZ) J [4,1,0] [0] fun G=>(Ya (Ya ?_)))
 refine rZ G (qR rr (qu Ybz r1 (qJ qZ))) J [8,7,4,1,0] [0] fun G=>Yj ?_
 refine Zo (σ:=(Nat)) [0,1,4,7] [0] (fun s=>[(8,.pv (.int .i64 (s:Int)))]) (fun s=>[]) (fun s=>s≤l.length∧(∀ k,k<s→Nn l k≠v)) (fun s=>l.length - s) (0) G ⟨rfl,rfl,rfl,rfl,rfl,tv⟩ ⟨rfl,tv⟩ ⟨Yr _,fun k hk=>absurd hk (Y5 k)⟩ ?_
 clear G;intro i a w F hC G
 try dsimp only at hC
 obtain ⟨F,G⟩:=G.nM [8,7,4,1,0] [0]
 try dsimp only at G
 obtain ⟨hi,hq⟩:=hC
 refine Ya (rZ G (qL r2) J [9,8,7,4,1,0] [0] fun G=>Ya ?_)
 refine Zc G O (fun hc0=>?_) (fun hc0=>?_)
 ·have hil:i<l.length:=by simp at hc0;omega
  refine Yi (Za (Ya (Yj (Ya (rZ G (qR rr (qO rr qZ)) J [8,7,5,4,1,0] [0] fun G=>Ya ?_)))))
  refine Zf G (qR rr (qR rr (qR rr (qy 1 Ybz r2 (qf (oR false 1 .t) r1 qz (qf (o_eql .t .t) r2 qz qZ)))))) J [16,8,7,5,4,1,0] [0] O O fun a w F G=>?_
  try simp only [Yc] at G
  refine Za (Zc G O (fun hc1=>?_) (fun hc1=>?_))
  ·have hg:(i:Int)=ZaR v l:=(Zls hil (by simp at hc1;omega) hq).symm
   refine Ya (rZ G (qR rr (qO rr qZ)) J [8,7,4,1,0] [0] fun G=>(Yg (Zl (Ze (Ze (Zl (Ze ?_)))))))
   refine Zt hfr G O O O (.int hg)
  have hne:Nn l i≠v:=by simp at hc1;omega
  refine Yi (Zk (Za (rZ G (qp r1 (qR rr qZ)) J [8,7,4,1,0] [0] fun G=>?_)))
  replace G:=G.ent (i:=8) (s':=.pv (.int .i64 ((i+1:Nat):Int))) O (.int (Zh ow))
  obtain ⟨F,G⟩:=G.nM [7,4,1,0,8] [0]
  exact ⟨(i+1),F,⟨by omega,(fun k hk=>by rcases YV (Y6 hk) with h | h;exact hq k h;rw [h];exact hne)⟩,G,by omega⟩
 have hil:i=l.length:=by simp at hc0;omega
 have hg : -1=ZaR v l:=(ZeE fun k hk=>hq k (by simp at hc0;omega)).symm
 refine YA (Zj (Zj (Zw (Za (Ya (rZ G (qI qZ) J [4] [0] fun G=>Yg ?_))))))
 refine Zt hfr G O O O (.int hg)
theorem Zjh (l:List Int) (v:Int):FnP prog 116 [.sl rInt l,.int .i64 v] (.bool (decide (v ∈ l))):=by
 refine FnP.mk func116 O ntmps116 O fun B a w F J hfr G=>Ya ?_
 refine rZ G qB J [4,1,0] [0] fun G=>Ya ?_
 refine rZ G (qR rr (qR rr (qf (oP (Zk7 l v) func58 (Args.two .t .t)) r2 qz (qf (ZeT .t qi) r1 qz (qO rr qZ))))) J [4] [0] fun G=>Yg ?_
 refine Zt hfr G O O O (.bool (by rw [decide_eq_decide];exact ZiX))
theorem Zk2 (x y:List Int):FnP prog 46 [.sl rInt x,.sl rInt y] (.bool (decide (x=y))):=by
 refine FnP.mk func46 O ntmps46 O fun B a w F J hfr G=>?_
 have hxl:=Sat.lenSl G (i:=0) rfl
 refine Ya (rZ G qB J [4,1,0] [0] fun G=>(Ya (Ya ?_)))
 refine rZ G (qR rr (qu Ybz r1 (qR rr (qu Ybz r1 (qf (o_neq .t .t) r2 qz qZ))))) J [10,4,1,0] [0] fun G=>?_
 refine Zc G O (fun hc0=>?_) (fun hc0=>?_)
 ·have hg:false=decide (x=y):=by
    rw [Y3,YG]
    intro h
    subst h
    simp at hc0
  refine Ya (rZ G qB J [4,1,0] [0] fun G=>(Yg (Ze ?_)))
  refine Zt hfr G O O O (.bool hg)
 have hl:x.length=y.length:=by simp at hc0;omega
 refine Yi (Za (Ya (Ya (rZ G (qR rr (qu Ybz r1 (qJ qZ))) J [13,12,4,1,0] [0] fun G=>Yj ?_))))
 obtain ⟨F,G⟩:=G.nM [13,12,1,0] [0]
 refine ZcR (σ:=Nat) (fun s=>(⟨[(0,.pv (.sl rInt x)),(1,.pv (.sl rInt y)),(12,.pv (.int .i64 x.length)),(13,.pv (.int .i64 s))],[(0,frame B)]⟩:En)) (fun s=>s≤x.length ∧ ∀ j,j<s→Nn x j=Nn y j) (fun s=>x.length - s) 0 G ⟨Yr _,fun j hj=>absurd hj (Y5 j)⟩ ?_
 clear G;intro i a w F hC G
 try dsimp only at hC
 try dsimp only at G
 obtain ⟨hi,hq⟩:=hC
 refine Ya (rZ G (qL r2) J [14,13,12,1,0] [0] fun G=>Ya ?_)
 refine Zc G O (fun hc1=>?_) (fun hc1=>?_)
 ·have hil:i<x.length:=by simp at hc1;omega
  refine Yi (Za (Ya (Yj (Ya (rZ G (qR rr (qO rr qZ)) J [13,12,5,1,0] [0] fun G=>Ya ?_)))))
  refine ZO G (qR rr (qR rr (qy 1 Ybz r2 (qf (oR false 1 .t) r1 qz (qR rr (qR rr (qy 1 Ybz r2 (qf (oR false 1 .t) r1 qz (qf (o_neq .t .t) r2 qz qZ))))))))) J [24,13,12,1,0] [0] O O fun a w F G=>?_
  try dsimp only [List.map,xD,xE,xT,xU,ldSF] at G
  refine Za (Zc G O (fun hc2=>?_) (fun hc2=>?_))
  ·have hg:false=decide (x=y):=by
     rw [Y3,YG]
     intro h
     subst h
     simp at hc2
   refine Ya (rZ G qB J [13,12,4,1,0] [0] fun G=>(Yg (Zl (Ze (Ze (Zl (Ze ?_)))))))
   refine Zt hfr G O O O (.bool hg)
  rw [Yc] at hc2
  have hqi:Nn x i=Nn y i:=by simpa using hc2
  refine Yi (Zk (Za (rZ G (qp r1 (qR rr qZ)) J [13,12,1,0] [0] fun G=>?_)))
  replace G:=G.ent (i:=13) (s':=.pv (.int .i64 ((i+1:Nat):Int))) O (.int (Zh ow))
  obtain ⟨F,G⟩:=G.nM [13,12,1,0] [0]
  exact ⟨i+1,F,⟨by omega,fun j hj=>by rcases YV (Y6 hj) with h | h;exact hq j h;rw [h];exact hqi⟩,G,by omega⟩
 have hg:true=decide (x=y):=by
   rw [Y3,Yu]
   exact Zda hl fun j hj=>hq j (by simp at hc1;omega)
 refine YA (Zj (Zj (Zw (Za (Ya (rZ G qB J [4] [0] fun G=>Yg ?_))))))
 refine Zt hfr G O O O (.bool hg)
theorem Zob (x y:List Int):FnP prog 34 [.sl rInt x,.sl rInt y] (.bool (decide (x=y))):=by
 refine FnP.mk func34 O ntmps34 O fun B a w F J hfr G=>Ya ?_
 refine rZ G qB J [4,1,0] [0] fun G=>Ya ?_
 refine rZ G (qR rr (qR rr (qf (oP (Zk2 x y) func46 (Args.two .t .t)) r2 qz (qO rr qZ)))) J [4] [0] fun G=>Yg ?_
 refine Zt hfr G O O O .refl
theorem Zj7 (x y:List Int) (hx:x.length≤1000000) (hy:y.length≤1000000):FnP prog 19 [.sl rInt x,.sl rInt y] (.bool (decide (x.Perm y))):=by
 refine FnP.mk func19 O ntmps19 O fun B a w F J hfr G=>Ya ?_
 refine rZ G qB J [4,1,0] [0] fun G=>Ya ?_
 replace G:=G.fresh 101 rfl
 replace G:=G.fresh 102 rfl
 refine Zb G (qR rr (qf (ZbW 101 (Zce x hx) func22 O kr (Args.one .t) Zbh) r1 r1 (qR rr (qf (ZbW 102 (Zce y hy) func22 O kr (Args.one .t) Zbh) r1 r1 (qO rr (qO rr qZ)))))) J [6,5,4] [102,101,0] (fun _=>rfl) (fun _=>rfl) fun τ a w F G=>?_
 try dsimp only [RS.sub,SF.sub,CF.sub,csub,Anc.sub,List.map,rInt] at G
 generalize τ 8=v8,τ 10=v10 at G
 refine Za (Ya (rZ G (qR rr (qf (ZeC 101 (Zkz _ x hx) func45 O kr (Args.one .t)) r1 r1 qZ)) J [6,5,4] [102,101,0] fun G=>Ya ?_))
 refine rZ G (qR rr (qf (ZeC 102 (Zkz _ y hy) func45 O kr (Args.one .t)) r1 r1 qZ)) J [6,5,4] [102,101,0] fun G=>Ya ?_
 refine rZ G (qR rr (qR rr (qf (OpC.lendRow 102 [16] (OpC.lendRow 101 [15] (oP (Zk2 _ _) func46 (Args.two .t .t)) ⟨rfl,tv,tv⟩ (.pv (fun _ _ _ _ h=>h)) trivial (by rfl)) ⟨tv,rfl,tv⟩ (.pv (fun _ _ _ _ h=>h)) trivial (by rfl)) r2 r2 (qO rr qZ)))) J [4] [102,101,0] fun G=>Yg ?_
 refine Zt hfr G O O O (.bool (by rw [decide_eq_decide];exact ZkA))
theorem Zow {u v:OrdD} : (decide (u.key=v.key) && decide (u.txs=v.txs))=decide (u=v):=by
 cases u;cases v
 rw [YaD]
 simp
def zeroT:TxD:=⟨0,false,[]⟩
def Zbd (l:List TxD):Prop:=l.length≤1000 ∧ ∀ t ∈ l,t.ops.length≤1000
def Zb7 (l:List OrdD):Prop:=l.length≤4000 ∧ ∀ o ∈ l,o.txs.length≤1000
def Zbk (h:Zn):Prop:=Zbd h.txs∧Zb7 h.orders
theorem Zbd.at {l:List TxD} (h:Zbd l) {i:Nat} (hi:i<l.length):(Nn l i).ops.length≤1000:=h.2 _ (Z5 hi)
theorem Zb7.at {l:List OrdD} (h:Zb7 l) {i:Nat} (hi:i<l.length):(Nn l i).txs.length≤1000:=h.2 _ (Z5 hi)
def ZaO (l:List TxD) (id:Int):Option TxD:=l.find? fun t=>decide (t.id=id)
theorem ZlS {l:List TxD} {id:Int} {i:Nat} (hi:i<l.length) (h:(Nn l i).id=id) (hq:∀ k,k<i→(Nn l k).id≠id):ZaO l id=some (Nn l i):=by
 unfold ZaO
 rw [List.find?_eq_some_iff_getElem]
 refine ⟨by simpa using h,i,hi,(Zm hi).symm,fun j hj=>?_⟩
 have:=hq j hj
 rw [Zm ow] at this
 simpa using this
theorem Zjo {l:List TxD} {id:Int} (hq:∀ k,k<l.length→(Nn l k).id≠id):ZaO l id=none:=by
 unfold ZaO
 rw [List.find?_eq_none]
 intro x hx
 obtain ⟨k,hk,e⟩:=YL hx
 have:=hq k hk
 rw [Zm hk,e] at this
 simpa using this
theorem findT_mem {l:List TxD} {id:Int} {t:TxD} (h:ZaO l id=some t):t ∈ l∧t.id=id:=⟨List.mem_of_find?_eq_some h,by have:=List.find?_some h;simpa using this⟩
def ZhA (h:Zn) (v:ZbA):Bool:=if v.tx=0∧v.nth=0 then decide (1≤v.key∧v.key≤1048575) else (ZaO h.txs v.tx).isSome && (decide (1≤v.nth) && decide (v.nth≤(wcnt ((ZaO h.txs v.tx).getD zeroT).ops v.key:Int)))
def ZdA (h:Zn) (t:TxD):Bool:=(ZaF t).all (ZhA h)
def ZP (t:TxD):List Int:=Zdq ((t.ops.filter fun o=>!o.read).map OpD.key)
theorem ZbS {t:TxD} {k:Int} : k ∈ ZP t ↔ 0<wcnt t.ops k:=by
 unfold ZP
 rw [(ZaH _).2,YD]
 unfold wcnt
 rw [List.length_pos_iff_exists_mem]
 constructor
 ·rintro ⟨o,ho,e⟩
  rw [YN] at ho
  exact ⟨o,by rw [YN];exact ⟨ho.1,by simp [e];simpa using ho.2⟩⟩
 ·rintro ⟨o,ho⟩
  rw [YN] at ho
  simp at ho
  exact ⟨o,by rw [YN];simp [ho.1,ho.2.1],ho.2.2⟩
theorem Zb2 (t:TxD):(ZP t).length≤t.ops.length:=Yau (Zd9 _) (by rw [YY];exact Yan _ _)
def ZH (l:List TxD) (k:Int):List Int:=(l.filter fun t=>t.done && decide (0<wcnt t.ops k)).map TxD.id
theorem ZbZ (l:List TxD) (k:Int):(ZH l k).length≤l.length:=by unfold ZH;rw [YY];exact Yan _ _
theorem Zdc {l:List TxD} {i:Nat} (hi:i<l.length) (k:Int):ZH (l.take (i+1)) k=ZH (l.take i) k++if (Nn l i).done=true∧0<wcnt (Nn l i).ops k then [(Nn l i).id] else []:=by
 unfold ZH
 rw [ZF hi,YaQ,Yap]
 congr 1
 by_cases h:(Nn l i).done=true∧0<wcnt (Nn l i).ops k
 ·rw [Ye h,Yaz (by simp [h.1,h.2])];rfl
 ·rw [Yb h,YaA (by simp;intro e;exact Nat.eq_zero_of_not_pos fun e2=>h ⟨e,e2⟩)];rfl
def Zbi (l:List TxD):List Int:=Zdq ((l.filter fun t=>t.done).flatMap ZP)
theorem ZmE {l:List TxD} (h:Zbd l) (i:Nat):(Zbi (l.take i)).length≤1000*i:=by
 unfold Zbi
 refine Yau (Zd9 _) ?_
 have key:∀ l:List TxD,(∀ t ∈ l,t.ops.length≤1000)→((l.filter fun t=>t.done).flatMap ZP).length≤1000*l.length:=by
  intro l
  induction l with
  | nil=>intro _;simp
  | cons t l ih=>
   intro h
   have h1:=ih fun x hx=>h x (by simp [hx])
   have h2:=h t (by simp)
   have h3:=Zb2 t
   by_cases hd:t.done=true
   ·rw [Yaz (by simpa using hd),Yar,Yd,Yv]
    omega
   ·rw [YaA (by simpa using hd),Yv]
    omega
 have h1:=key (l.take i) fun t ht=>h.2 t (YaB ht)
 have h2:(l.take i).length≤i:=by rw [Yf];omega
 exact Yau h1 (Nat.mul_le_mul_left _ h2)
theorem ZkZ {l:List TxD} (h:Zbd l):(Zbi l).length≤1000000:=by
 have h1:=ZmE h l.length
 rw [Y7] at h1
 have:=h.1
 omega
theorem ZbU {l:List TxD} {k:Int} : k ∈ Zbi l ↔ ZH l k≠[]:=by
 unfold Zbi
 rw [(ZaH _).2,List.mem_flatMap]
 unfold ZH
 rw [ne_eq,List.map_eq_nil_iff,List.filter_eq_nil_iff]
 constructor
 ·rintro ⟨t,ht,hk⟩ hn
  rw [YN] at ht
  have:=hn t ht.1
  simp [ht.2] at this
  have:=ZbS.1 hk
  simp_all
 ·intro hn
  simp only [Classical.not_forall] at hn
  obtain ⟨t,ht,h2⟩:=hn
  simp at h2
  exact ⟨t,by rw [YN];exact ⟨ht,by simpa using h2.1⟩,ZbS.2 (Nat.pos_of_ne_zero h2.2)⟩
def Zm3 (h:Zn) (i:Nat):Prop:=(0<i→(Nn h.txs (i - 1)).id<(Nn h.txs i).id)∧Zak (Nn h.txs i)=0∧ZdA h (Nn h.txs i)=true
instance (h:Zn) (i:Nat):Decidable (Zm3 h i):=by unfold Zm3;exact inferInstance
def Zmj (h:Zn) (i:Nat):Prop:=(Nn h.orders i).key=Nn (Zbi h.txs) i∧(Nn h.orders i).txs.Perm (ZH h.txs (Nn h.orders i).key)
instance (h:Zn) (i:Nat):Decidable (Zmj h i):=by unfold Zmj;exact inferInstance
def ZE (h:Zn):Prop:=h.txs.length≤4096∧(∀ i,i<h.txs.length→Zm3 h i)∧h.orders.length=(Zbi h.txs).length ∧ ∀ i,i<h.orders.length→Zmj h i
instance (h:Zn):Decidable (ZE h):=by unfold ZE;exact inferInstance
def ZeP (h:Zn) (i:Nat):Prop:=(0<i→(Nn h.orders (i - 1)).key<(Nn h.orders i).key)∧(Nn h.orders i).txs≠[]∧(Nn h.orders i).txs.Perm (ZH h.txs (Nn h.orders i).key)
theorem Zf8:∀ {l:List Int},(∀ i,i<l.length→0<i→Nn l (i - 1)<Nn l i)→Zdd l
 | [],_=>List.Pairwise.nil
 | [x],_=>by simp
 | x :: y :: l,h=>by
  have ih:=Zf8 (l:=y :: l) fun i hi h0=>by
   have:=h (i+1) (by simpa using hi) ow
   obtain ⟨j,rfl⟩:∃ j,i=j+1:=⟨i - 1,by omega⟩
   have hj:j<l.length:=by simpa using hi
   rw [Zm (l:=x :: y :: l) (by simp;omega),Zm (l:=x :: y :: l) (by simp;omega)] at this
   rw [Zm (l:=y :: l) (by simp;omega),Zm (l:=y :: l) (by simp;omega)]
   exact this
  have h1:=h 1 (by simp) ow
  rw [Zm (by simp),Zm (by simp)] at h1
  simp at h1
  have ih2:=Yq.1 ih
  refine Yq.2 ⟨fun z hz=>?_,ih⟩
  rcases Yo.1 hz with rfl | hz
  ·exact h1
  ·have:=ih2.1 z hz;omega
theorem Zoz {l:List Int} (h:Zdd l) {i:Nat} (hi:i<l.length) (h0:0<i):Nn l (i - 1)<Nn l i:=by
 rw [Zm hi,Zm ow]
 exact List.pairwise_iff_getElem.1 h (i - 1) i ow hi ow
theorem ZhR:∀ {b a:List Int},Zdd a→Zdd b→(∀ x ∈ a,x ∈ b)→a.length≤b.length∧(a.length=b.length→a=b)
 | [],a,_,_,h=>by
  have:a = []:=List.eq_nil_iff_forall_not_mem.2 fun x hx=>by cases h x hx
  subst this;simp
 | y :: b,[],_,_,_=>⟨by simp,fun h=>by simp at h⟩
 | y :: b,x :: a,ha,hb,h=>by
  have ha':=Yq.1 ha
  have hb':=Yq.1 hb
  by_cases e:x=y
  ·subst e
   have ih:=ZhR (b:=b) (a:=a) ha'.2 hb'.2 fun z hz=>by
    rcases Yo.1 (h z (by simp [hz])) with e | e
    ·have:=ha'.1 z hz;omega
    ·exact e
   exact ⟨by simp;exact ih.1,fun hl=>by rw [ih.2 (by simpa using hl)]⟩
  ·have hx:y<x:=by
    rcases Yo.1 (h x (by simp)) with e2 | e2
    ·exact absurd e2 e
    ·exact hb'.1 x e2
   have ih:=ZhR (b:=b) (a:=x :: a) ha hb'.2 fun z hz=>by
    rcases Yo.1 (h z hz) with e2 | e2
    ·rcases Yo.1 hz with e3 | e3
     ·omega
     ·have:=ha'.1 z e3;omega
    ·exact e2
   exact ⟨by have:=ih.1;simp at this ⊢;omega,fun hl=>by have:=ih.1;simp at this hl;omega⟩
theorem Zcy {α β:Type} [Inhabited α] [Inhabited β] {f:α→β} {l:List α} {i:Nat} (h:i<l.length):Nn (l.map f) i=f (Nn l i):=by
 rw [Zm (by simpa using h),Zm h];simp
theorem Zci (h:Zn):(h.orders.length=(Zbi h.txs).length ∧ ∀ i,i<h.orders.length→ZeP h i) ↔ (h.orders.length=(Zbi h.txs).length ∧ ∀ i,i<h.orders.length→Zmj h i):=by
 have hK:Zdd (Zbi h.txs):=(ZaH _).1
 constructor
 ·rintro ⟨hl,hq⟩
  refine ⟨hl,?_⟩
  have hO:Zdd (h.orders.map OrdD.key):=Zf8 fun i hi h0=>by
   have hi':i<h.orders.length:=by simpa using hi
   rw [Zcy ow,Zcy hi']
   exact (hq i hi').1 h0
  have hsub:∀ x ∈ h.orders.map OrdD.key,x ∈ Zbi h.txs:=fun x hx=>by
   obtain ⟨o,ho,rfl⟩:=YD.1 hx
   obtain ⟨k,hk,e⟩:=YL ho
   have:=hq k hk
   unfold ZeP at this
   rw [Zm hk,e] at this
   rw [ZbU]
   intro e2
   rw [e2] at this
   exact this.2.1 (List.Perm.eq_nil this.2.2)
  have he:=(ZhR hO hK hsub).2 (by simpa using hl)
  intro i hi
  refine ⟨?_,(hq i hi).2.2⟩
  rw [← he,Zcy hi]
 ·rintro ⟨hl,hq⟩
  refine ⟨hl,fun i hi=>?_⟩
  have hin:(Nn h.orders i).key ∈ Zbi h.txs:=by rw [(hq i hi).1];exact Z5 ow
  refine ⟨fun h0=>?_,fun e=>?_,(hq i hi).2⟩
  ·rw [(hq i hi).1,(hq (i - 1) ow).1]
   exact Zoz hK ow h0
  ·have:=(hq i hi).2
   rw [e] at this
   exact ZbU.1 hin this.symm.eq_nil
theorem Ze5 {h:Zn} (hb:4096<h.txs.length):false=decide (ZE h):=(Ym fun hr=>by have:=hr.1;omega).symm
theorem Zhl {h:Zn} {i:Nat} (hi:i<h.txs.length) (hb:¬ Zm3 h i):false=decide (ZE h):=(Ym fun hr=>hb (hr.2.1 i hi)).symm
theorem ZfP {h:Zn} (hb:h.orders.length≠(Zbi h.txs).length):false=decide (ZE h):=(Ym fun hr=>hb hr.2.2.1).symm
theorem Ze3 {h:Zn} {i:Nat} (hi:i<h.orders.length) (hb:¬ ZeP h i):false=decide (ZE h):=(Ym fun hr=>hb (((Zci h).2 hr.2.2).2 i hi)).symm
theorem Zho {h:Zn} (h1:h.txs.length≤4096) (h2:∀ i,i<h.txs.length→Zm3 h i) (h3:h.orders.length=(Zbi h.txs).length) (h4:∀ i,i<h.orders.length→ZeP h i):true=decide (ZE h):=(YR ⟨h1,h2,(Zci h).1 ⟨h3,h4⟩⟩).symm
def Zor (l:List Int):Option (List Int):=if l = [] then none else some l
theorem Zig (l:List Int):(Zor l).getD [] = l:=by
 unfold Zor
 split
 ·rename_i h;rw [h];rfl
 ·rfl
def WrL (es:List (GE Int (List Int))) (l:List TxD):Prop:=GNd es ∧ ∀ k,gGet k es=Zor (ZH l k)
def WrV (es:List (GE Int (Value×List Int))) (l:List TxD) (id:Int) (ks:List Int):Prop:=GNd es ∧ ∀ k,(gGet k es).map (·.2)=Zor (ZH l k++if k ∈ ks then [id] else [])
theorem Zn1 {id:Int} : WrV [] [] id []:=⟨by simp [GNd],fun k=>by simp [gGet,ZH,Zor]⟩
theorem Zmp {es:List (GE Int (Value×List Int))} {l:List TxD} {id:Int} (h:WrV es l id []):WrL (Zdv es) l:=⟨by unfold GNd;rw [ZhU];exact h.1,fun k=>by rw [Zfm,h.2];simp⟩
theorem Zmb {es:List (GE Int (Value×List Int))} {l:List TxD} {id id':Int} (h:WrV es l id []):WrV es l id' []:=⟨h.1,fun k=>by rw [h.2];simp⟩
theorem ZoD {es:List (GE Int (Value×List Int))} {l:List TxD} {i:Nat} {id:Int} (h:WrV es (l.take i) id []) (hi:i<l.length) (hd:(Nn l i).done=false):WrV es (l.take (i+1)) id []:=⟨h.1,fun k=>by rw [h.2,Zdc hi];simp [hd]⟩
theorem ZnV {es:List (GE Int (Value×List Int))} {l:List TxD} {i:Nat} {id:Int} (h:WrV es (l.take i) (Nn l i).id (ZP (Nn l i))) (hi:i<l.length) (hd:(Nn l i).done=true):WrV es (l.take (i+1)) id []:=⟨h.1,fun k=>by
 rw [h.2,Zdc hi]
 congr 1
 simp only [Ya8,Yk,Y2]
 congr 1
 by_cases hk:k ∈ ZP (Nn l i)
 ·rw [Ye hk,Ye ⟨hd,ZbS.1 hk⟩]
 ·rw [Yb hk,Yb fun h9=>hk (ZbS.2 h9.2)]⟩
theorem Znr {es:List (GE Int (Value×List Int))} {l:List TxD} {id:Int} {ks:List Int} {j:Nat} (h:WrV es l id (ks.take j)) (hn:ks.Nodup) (hj:j<ks.length):((gGet (Nn ks j) es).getD ZfX).2=ZH l (Nn ks j):=by
 have h1:=h.2 (Nn ks j)
 have hni:Nn ks j ∉ ks.take j:=fun hm=>by
  rw [Zm hj] at hm
  obtain ⟨k,hk,e⟩:=YL hm
  rw [Yf] at hk
  rw [List.getElem_take] at e
  have h3:=List.pairwise_iff_getElem.1 hn k j ow hj ow
  exact h3 e
 rw [Yb hni,Y2] at h1
 have h2:=Zig (ZH l (Nn ks j))
 rw [← h1] at h2
 rw [← h2]
 cases gGet (Nn ks j) es <;> rfl
theorem ZnP {es:List (GE Int (Value×List Int))} {l:List TxD} {id:Int} {ks:List Int} {j ck:Nat} {v:Value} (h:WrV es l id (ks.take j)) (hn:ks.Nodup) (hj:j<ks.length):WrV (gPut (Nn ks j) (v,((gGet (Nn ks j) es).getD ZfX).2 ++ [id]) (es,ck)).1 l id (ks.take (j+1)):=⟨GNd.put h.1,fun k=>by
 rw [ZfN,Znr h hn hj,ZF hj]
 by_cases e:k=Nn ks j
 ·subst e
  rw [Ye rfl,Ye (by simp)]
  simp [Zor]
 ·rw [Yb e,h.2]
  simp [e]⟩
theorem ZoV {es:List (GE Int (List Int))} {l:List TxD} (h:WrL es l) (k:Int):(gGet k es).getD [] = ZH l k:=by rw [h.2,Zig]
theorem Zo4 {es:List (GE Int (List Int))} {l:List TxD} (h:WrL es l):es.length=(Zbi l).length:=by
 have h1:(es.map (·.key)).Perm (Zbi l):=by
  refine (List.perm_ext_iff_of_nodup h.1 ((ZaH _).1.imp fun h=>Int.ne_of_lt h)).2 fun k=>?_
  rw [← Zgj,h.2,show (k ∈ Zdq ((l.filter fun t=>t.done).flatMap ZP)) ↔ ZH l k≠[] from ZbU]
  unfold Zor
  split <;> simp_all
 simpa using h1.length_eq
theorem ZdW (t:TxD):(ZP t).Nodup:=(ZaH _).1.imp fun h=>Int.ne_of_lt h
theorem ZgX {α:Type} {R:α→List PV} {w:World} {y:Ys} : (PV.sl R ([]:List α)).p (.slice none 0 0) w y:=⟨none,0,rfl,YO _,by unfold maxLen;omega,.inl rfl⟩
theorem ZlF (l : List OrdD) (p : OrdD → Bool) (f : FuncId) (fn : Func) (cps : List PV) (hf : prog.funcs[f]? = some fn) (hb : fn.body.isSome = true) (hnn : (fn.name == "runtime.NumGoroutine") = false) (hw : ∀ x, FnP prog f (.agg (ZA x) :: cps) (.bool (p x))) : FnP prog 20 [.sl ZA l, .clos f cps] (.int .i64 (ZV p l)) := by
 refine FnP.mk func20 O ntmps20 O fun B a w F J hfr G=>?_
 have hll:=Sat.lenSl G (i:=0) rfl
 refine Ya (rZ G (qI qZ) J [4,1,0] [0] fun G=>(Ya (Ya ?_)))
 refine rZ G (qR rr (qu YbB r1 (qJ qZ))) J [8,7,4,1,0] [0] fun G=>Yj ?_
 refine Zo (σ:=(Nat)) [0,1,4,7] [0] (fun s=>[(8,.pv (.int .i64 (s:Int)))]) (fun s=>[]) (fun s=>s≤l.length∧(∀ k,k<s→p (Nn l k)=false)) (fun s=>l.length - s) (0) G ⟨rfl,rfl,rfl,rfl,rfl,tv⟩ ⟨rfl,tv⟩ ⟨Yr _,fun k hk=>absurd hk (Y5 k)⟩ ?_
 clear G;intro i a w F hC G
 try dsimp only at hC
 obtain ⟨F,G⟩:=G.nM [8,7,4,1,0] [0]
 try dsimp only at G
 obtain ⟨hi,hq⟩:=hC
 refine Ya (rZ G (qL r2) J [9,8,7,4,1,0] [0] fun G=>Ya ?_)
 refine Zc G O (fun hc0=>?_) (fun hc0=>?_)
 ·skip
  have hil:i<l.length:=by simp at hc0;omega
  refine Yi (Za (Ya (Yj (Ya (rZ G (qR rr (qO rr qZ)) J [8,7,5,4,1,0] [0] fun G=>Ya ?_)))))
  refine Zf G (qR rr (qR rr (qR rr (qy 2 YbB r2 (qf (oR true 2 .t) r1 qz (qf (ZL (avs:=[.agg (ZA (Nn l i))]) .t (hw (Nn l i)) hf hb hnn (Args.one (.pagg .t))) r2 qz qZ)))))) J [16,8,7,5,4,1,0] [0] O O fun a w F G=>?_
  try simp only [Yc] at G
  refine Za (Zc G O (fun hc1=>?_) (fun hc1=>?_))
  ·skip
   have hg:(i:Int)=ZV p l:=(Zdr hil hc1 hq).symm
   refine Ya (rZ G (qR rr (qO rr qZ)) J [8,7,4,1,0] [0] fun G=>(Yg (Zl (Ze (Ze (Zl (Ze ?_)))))))
   refine Zt hfr G O O O (.int hg)
  have hne:p (Nn l i)=false:=hc1
  refine Yi (Zk (Za (rZ G (qp r1 (qR rr qZ)) J [8,7,4,1,0] [0] fun G=>?_)))
  replace G:=G.ent (i:=8) (s':=.pv (.int .i64 ((i+1:Nat):Int))) O (.int (Zh ow))
  obtain ⟨F,G⟩:=G.nM [7,4,1,0,8] [0]
  exact ⟨(i+1),F,⟨by omega,(fun k hk=>by rcases YV (Y6 hk) with h | h;exact hq k h;rw [h];exact hne)⟩,G,by omega⟩
 have hil:i=l.length:=by simp at hc0;omega
 have hg : -1=ZV p l:=(ZbK fun k hk=>hq k (by simp at hc0;omega)).symm
 refine YA (Zj (Zj (Zw (Za (Ya (rZ G (qI qZ) J [4] [0] fun G=>Yg ?_))))))
 refine Zt hfr G O O O (.int hg)
theorem Zoy (v : Value) (l : List OrdD) (hll : l.length ≤ 1000000) (p : OrdD → Bool) (f : FuncId) (fn : Func) (cps : List PV) (hf : prog.funcs[f]? = some fn) (hb : fn.body.isSome = true) (hnn : (fn.name == "runtime.NumGoroutine") = false) (hw : ∀ x, FnP prog f (.agg (ZA x) :: cps) (.bool (p x))) : FnG prog 82 1 [.is v, .clos f cps] [Zs 34 2 ZA l v] (PV.one) (fun v => [Zs 34 2 ZA (l.filter fun x => !p x) v]) := by
 refine FnG.mk func82 O ntmps82 O kr fun B F0 a w F J hG G=>?_
 replace G:=G.turn 1 O (r':=.ob (.val v) (Zs 34 2 ZA l)) (fun _ _ _ _ h=>h)
 refine Ya (rZ G (qC qZ) J [4,1,0] [1,0] fun G=>Ya ?_)
 refine rZ G (qR rr (qR rr (qf (OpC.lendRow 1 [8] (oP (ZlF l p f fn cps hf hb hnn hw) func20 (Args.two .t .t)) ⟨rfl,tv,tv⟩ (.pv (fun _ _ _ _ h=>h)) trivial (by rfl)) r2 r1 (qO rr qZ)))) J [5,4,1,0] [1,0] fun G=>(Ya (Ya ?_))
 refine rZ G (qR rr (qf (o_eql .t qi) r1 qz qZ)) J [12,5,4,1,0] [1,0] fun G=>?_
 refine Zc G O (fun hc0=>?_) (fun hc0=>?_)
 ·skip
  have hno:=(Zaq p l).resolve_right (by rintro ⟨i,h1,_⟩;simp at hc0;omega)
  have hg:(l.filter fun x=>!p x)=l:=Zdk hno.2
  refine Ya (rZ G (qR rr (qO rr qZ)) J [5,4,1,0] [1,0] fun G=>(Yg (Ze ?_)))
  have G:=G.turn 1 O (r':=RS.hp (Zs 34 2 ZA (l.filter fun x=>!p x) v)) (fun _ _ _ _ h=>by rw [hg];exact h)
  refine Zab (h':=fun v=>Zs 34 2 ZA (l.filter fun x=>!p x) v) hG G O (.tmp O .nil) (.one .one) rfl
 obtain ⟨i0,hi0,hi1,hip,hib⟩:=(Zaq p l).resolve_left (by rintro ⟨h1,_⟩;simp [h1] at hc0)
 have hst0:=ZfB hi1 hip hib
 refine Yi (Za (Ya (Ya (rZ G (qR rr (qp r1 (qO rr qZ))) J [6,5,4,1,0] [1,0] fun G=>Yj ?_))))
 have hC0:i0<i0+1∧i0+1≤l.length∧l.length=l.length∧l.take i0=(l.take (i0+1)).filter (fun x=>!p x) ∧ ∀ k,i0+1≤k→k<l.length→Nn l k=Nn l k:=⟨by omega,by omega,rfl,hst0,fun k _ _=>rfl⟩
 replace G:=G.ent (i:=5) (s':=.pv (.int .i64 (i0:Int))) O (.int hi0)
 replace G:=G.ent (i:=6) (s':=.pv (.int .i64 ((i0+1:Nat):Int))) O (.int (by rw [hi0,ZN ow];omega))
 refine Zo (σ:=Nat×Nat×List OrdD) [0,1,4] [0] (fun s=>[(5,.pv (.int .i64 (s.1:Int))),(6,.pv (.int .i64 (s.2.1:Int)))]) (fun s=>[(1,.ob (.val v) (Zs 34 2 ZA s.2.2))]) (fun s=>s.1<s.2.1∧s.2.1≤l.length∧s.2.2.length=l.length∧s.2.2.take s.1=(l.take s.2.1).filter (fun x=>!p x) ∧ ∀ k,s.2.1≤k→k<l.length→Nn s.2.2 k=Nn l k) (fun s=>l.length - s.2.1) ((i0),(i0+1),(l)) G ⟨rfl,rfl,rfl,rfl,rfl,tv⟩ ⟨rfl,rfl,tv⟩ hC0 ?_
 clear G;intro s a w F hC G
 obtain ⟨i,j,l1⟩:=s
 try dsimp only at hC
 obtain ⟨F,G⟩:=G.nM [6,5,4,1,0] [1,0]
 try dsimp only at G
 obtain ⟨hij,hj,hll1,htk,hrest⟩:=hC
 refine Ya (Ya (rZ G (qR rr (qR rr (qf (Zaj 1 YbB .is) r1 r1 (qL r2)))) J [19,6,5,4,1,0] [1,0] fun G=>?_))
 refine Zc G O (fun hc1=>?_) (fun hc1=>?_)
 ·skip
  have hjl:j<l.length:=by simp at hc1;omega
  have hnj:Nn l1 j=(Nn l j):=hrest j (YO _) hjl
  have hfs:=ZcJ (p:=fun x=>!p x) hjl
  refine Yi (Za (Ya (Yj (Ya (Zb G (qR rr (qR rr (qf (o_indexAddr_row (sz:=2) 1 (.mk YbB kr) .is .t ow ow (by rfl)) r2 r1 (qf (Zac (ag:=true) (sz':=2) (sz:=2) 1 .t (by intro x;rfl) ow kr kr kr) r1 r1 (qf (oH [.int .i64 0,.slice none 0 0] 101) trivial qz (qS 2 101 r2 r1 qZ)))))) J [7,6,5,4,1,0] [101,1,0] (fun _=>rfl) (fun _=>rfl) fun τ a w F G=>?_)))))
  try dsimp only [RS.sub,SF.sub,CF.sub,csub,Anc.sub,List.map,Zg,xL,xM,Nat.reduceAdd,xD,xE,xT,xU,xC,xN,zCF,ldSF,ZA] at G
  generalize τ 7=v7 at G
  try simp only [Yc] at G
  rw [hnj] at G
  refine Za (Ya (rZ G (qR rr (qe 2 101 r1 r1 (qf (ZL (avs:=[.agg (ZA (Nn l j))]) .t (hw (Nn l j)) hf hb hnn (Args.one (.pagg .t))) r2 qz (qf (o_not .t) r1 qz qZ)))) J [29,7,6,5,4,1,0] [101,1,0] fun G=>?_))
  refine Zc G O (fun hc2=>?_) (fun hc2=>?_)
  ·skip
   have hp:p (Nn l j)=false:=by simpa using hc2
   obtain ⟨i2,hi2e⟩:∃ i2,i2=i+1:=⟨_,rfl⟩
   have hi2:IntKind.wrap .i64 ((i:Int)+1)=(i2:Int):=by rw [hi2e];exact Zh ow
   obtain ⟨l2,hl2⟩:∃ l2,l2=l1.set i (Nn l j):=⟨_,rfl⟩
   have hC2:i2<j+1∧j+1≤l.length∧l2.length=l.length∧l2.take i2=(l.take (j+1)).filter (fun x=>!p x) ∧ ∀ k,j+1≤k→k<l.length→Nn l2 k=Nn l k:=⟨by omega,by omega,by rw [hl2,YF];exact hll1,by rw [hl2,hi2e,hfs,hp,← htk,ZF (by rw [YF];omega),List.take_set_of_le (YO _),Zm (by rw [YF];omega),List.getElem_set_self];rfl,fun k hk hk2=>by rw [hl2,Zm (by rw [YF];omega),List.getElem_set_ne ow,← Zm ow];exact hrest k ow hk2⟩
   refine Ya (Zf G (qR rr (qR rr (qe 2 101 r1 r1 (qf (o_indexAddr_row (sz:=2) 1 (.mk YbB kr) .is .t ow ow (by rfl)) r2 r1 (qf (ZeF (sz:=2) 1 .t (by intro x;rfl) ow (.conv .t (Ent.aggU (l:=ZA (Nn l j)) O O)) kr) r2 r1 qZ))))) J [6,5,4,1,0] [1,0] O O fun a w F G=>?_)
   try simp only [Yc] at G
   rw [← hl2] at G
   refine Za (Zf G (qR rr (qp r1 (qO rr qZ))) J [6,5,4,1,0] [1,0] O O fun a w F G=>Zk (Za ?_))
   refine rZ G (qR rr (qp r1 (qO rr qZ))) J [6,5,4,1,0] [1,0] fun G=>?_
   have hmu:l.length - (j+1)<l.length - j:=by omega
   replace G:=G.ent (i:=5) (s':=.pv (.int .i64 (i2:Int))) O (.int hi2)
   replace G:=G.ent (i:=6) (s':=.pv (.int .i64 ((j+1:Nat):Int))) O (.int (Zh ow))
   obtain ⟨F,G⟩:=G.nM [4,1,0,6,5] [0,1]
   exact ⟨((i2),(j+1),(l2)),F,hC2,G,hmu⟩
  have hp:p (Nn l j)=true:=by simpa using hc2
  obtain ⟨i2,hi2e⟩:∃ i2,i2=i:=⟨_,rfl⟩
  have hi2:(i:Int)=(i2:Int):=by rw [hi2e]
  obtain ⟨l2,hl2⟩:∃ l2,l2=l1:=⟨_,rfl⟩
  rw [← hl2] at G
  have hC2:i2<j+1∧j+1≤l.length∧l2.length=l.length∧l2.take i2=(l.take (j+1)).filter (fun x=>!p x) ∧ ∀ k,j+1≤k→k<l.length→Nn l2 k=Nn l k:=⟨by omega,by omega,by rw [hl2];exact hll1,by rw [hl2,hi2e,hfs,hp,htk];simp,fun k hk hk2=>by rw [hl2];exact hrest k ow hk2⟩
  refine Yi (Zk (Za (rZ G (qR rr (qp r1 (qO rr qZ))) J [6,5,4,1,0] [1,0] fun G=>?_)))
  have hmu:l.length - (j+1)<l.length - j:=by omega
  replace G:=G.ent (i:=5) (s':=.pv (.int .i64 (i2:Int))) O (.int hi2)
  replace G:=G.ent (i:=6) (s':=.pv (.int .i64 ((j+1:Nat):Int))) O (.int (Zh ow))
  obtain ⟨F,G⟩:=G.nM [4,1,0,6,5] [0,1]
  exact ⟨((i2),(j+1),(l2)),F,hC2,G,hmu⟩
 have hjl:j=l.length:=by simp at hc1;omega
 have hil2:i<l.length:=by omega
 have hg:(l.filter fun x=>!p x)=(l1.take i++List.replicate (l1.length - i) (⟨0,[]⟩:OrdD)).take i:=by rw [YH (by rw [Yf];omega),Yah,Ybl,htk,hjl,Y7]
 refine YA (Zj (Zj (Zw (Za (Ya (rZ G (qR rr (qR rr (qf (Zan (sz:=2) 1 (.mk YbB kr) .is .t ow ow) r2 r1 (qf (ZcB (R:=ZA) (z:=(⟨0,[]⟩:OrdD)) (zs:=[.int .i64 0,.slice none 0 0]) 1 YbB kr O O (fun _ _=>⟨⟨rfl,rfl,Zi3⟩,⟨rfl,ZgX⟩,tv⟩) (by intro x;rfl) .t (by simp;omega)) r1 r1 qZ)))) J [5,4,0] [1,0] fun G=>Ya ?_))))))
 refine Zb G (qR rr (qR rr (qf (Zem (sz:=2) 1 (.mk YbB kr) (by intro x;rfl) .is .t ow (by simp;omega)) r2 r1 (qO rr qZ)))) J [4] [1,0] (fun _=>rfl) (fun _=>rfl) fun τ a w F G=>?_
 try dsimp only [RS.sub,SF.sub,CF.sub,csub,Anc.sub,List.map,ZA] at G
 generalize τ 41=v41 at G
 refine Za (Yg ?_)
 have G:=G.turn 1 O (r':=RS.hp (Zs 34 2 ZA (l.filter fun x=>!p x) v41)) (fun _ _ _ _ h=>by rw [hg];exact h)
 refine Zab (h':=fun v=>Zs 34 2 ZA (l.filter fun x=>!p x) v) hG G O (.tmp O .nil) (.one .one) rfl
theorem Zpp (v:Value) (l:List TxD) (i:Nat) (x:TxD) (hll:l.length≤1000000) (hi:i≤l.length):FnG prog 49 1 [.is v,.int .i64 i,.sl rTx [x]] [Zs 37 3 rTx l v] (PV.one) (fun v=>[Zs 37 3 rTx (l.take i ++ [x] ++ l.drop i) v]):=by
 refine FnG.mk func49 O ntmps49 O kr fun B F0 a w F J hG G=>?_
 replace G:=G.turn 1 O (r':=.ob (.val v) (Zs 37 3 rTx l)) (fun _ _ _ _ h=>h)
 refine Ya (rZ G (qC qZ) J [6,2,1,0] [1,0] fun G=>Ya ?_)
 refine rZ G (qR rr (qR rr (qf (Zg4 (sz:=3) 1 (.mk YbA kr) .is .t ow ow) r2 r1 qZ))) J [6,2,1,0] [1,0] fun G=>Ya ?_
 refine Zf G (qR rr (qu YbA r1 (qO rr qZ))) J [7,6,2,1,0] [1,0] O O fun a w F G=>?_
 replace G:=G.ent (i:=7) (s':=.pv (.int .i64 1)) O (.int O)
 obtain ⟨F,G⟩:=G.nM [7,6,2,1,0] [1,0]
 refine Za (Ya (Ya (rZ G (qR rr (qf (o_eql .t qi) r1 qz qZ)) J [16,7,6,2,1,0] [1,0] fun G=>?_)))
 refine Zc G O (fun hc0=>?_) (fun hc0=>?_)
 ·simp at hc0
 refine Yi (Za (Ya (rZ G (qR rr (qf (Zaj 1 YbA .is) r1 r1 (qO rr qZ))) J [8,7,6,2,1,0] [1,0] fun G=>(Ya (Ya ?_)))))
 refine rZ G (qR rr (qR rr (qf (o_eql .t .t) r2 qz qZ))) J [22,8,7,6,2,1,0] [1,0] fun G=>?_
 refine Zc G O (fun hc1=>?_) (fun hc1=>?_)
 ·have hg:=Zki (x:=x) (by have h9:=hc1;simp at h9;omega:i=l.length)
  refine Ya (Zb G (qR rr (qR rr (qf (Z4 (sz:=3) (bs:=40) 1 (.mk' YbA kr kr) (by intro x;rfl) .is (.sl .t) (by simp only [Yv,YS];omega) (by decide)) ⟨rfl,rfl,tv⟩ ⟨rfl,tv⟩ (qO rr qZ)))) J [8,7,6,2,1,0] [1,0] (fun _=>rfl) (fun _=>rfl) fun τ a w F G=>?_)
  try dsimp only [RS.sub,SF.sub,CF.sub,csub,Anc.sub,List.map,xC,xN,rTx] at G
  generalize τ 25=v25 at G
  refine Za (Yg (Ze ?_))
  have G:=G.turn 1 O (r':=RS.hp (Zs 37 3 rTx (l.take i ++ [x] ++ l.drop i) v25)) (fun _ _ _ _ h=>by rw [hg];exact h)
  refine Zab (h':=fun v=>Zs 37 3 rTx (l.take i ++ [x] ++ l.drop i) v) hG G O (.tmp O .nil) (.one .one) rfl
 have hil:i<l.length:=by simp at hc1;omega
 have hw1:IntKind.wrap .i64 ((i:Int)+1)=((i+1:Nat):Int):=Zh ow
 have hwn:IntKind.wrap .i64 ((l.length:Int)+1)=((l.length+1:Nat):Int):=Zh ow
 refine Yi (Za (Ya (Ya (rZ G (qR rr (qR rr (qf (ZcL .t .t) r2 qz (qR rr (qf (ZgK 1 YbA .is) r1 r1 (qf (Zbs .t .t) r2 qz qZ)))))) J [31,8,7,6,2,1,0] [1,0] fun G=>?_))))
 refine Zc G O (fun hc2=>?_) (fun hc2=>?_)
 ·have hcap:capV v<l.length+1:=by rw [hwn] at hc2;simp at hc2;omega
  have hw:IntKind.wrap .i64 (IntKind.wrap .i64 ((l.length:Int)+1) - (i:Int))=((l.length+1 - i:Nat):Int):=by rw [hwn,ZN ow];omega
  refine Ya (Zb G (qR rr (qR rr (qf (Zdu (sz:=3) 1 (.mk YbA kr) .is .t ow ow) r2 r1 (qR rr (qR rr (qf (ZcL .t .t) r2 qz (qR rr (qf (o_sub .t .t) r2 qz (qf (Zcm (R:=rTx) (z:=(⟨0,false,[]⟩:TxD)) (bs:=40) (sz:=3) (zs:=[.int .i64 0,.bool false,.slice none 0 0]) 1 101 YbA YbD kr kr kr (by intro x;rfl) (fun _ _=>⟨⟨rfl,rfl,Zi3⟩,⟨rfl,rfl⟩,⟨rfl,ZgX⟩,tv⟩) .t .t ow (by rw [hw];omega) (by rw [hw];omega) (by rw [hw];omega) (by rw [hw];omega)) ⟨rfl,rfl,tv⟩ ⟨rfl,tv⟩ (qO rr qZ)))))))))) J [9,8,7,6,2,1,0] [101,1,0] (fun _=>rfl) (fun _=>rfl) fun τ a w F G=>?_)
  try dsimp only [RS.sub,SF.sub,CF.sub,csub,Anc.sub,List.map,xC,xN,rTx] at G
  generalize τ 40=v40 at G
  rw [hw] at G
  simp only [Yc] at G
  obtain ⟨l2,hl2⟩:∃ y,y=l.take i++List.replicate (l.length+1 - i) (⟨0,false,[]⟩:TxD):=⟨_,rfl⟩
  rw [← hl2] at G
  have hl2n:l2.length=l.length+1:=by rw [hl2,Yd,Yf,Ya2];omega
  obtain ⟨F,G⟩:=G.give 1 0 O rfl
  obtain ⟨F,G⟩:=G.nM [9,8,7,6,2,1,0] [101,0]
  refine Za (Ya (Zf G (qR rr (qR rr (qf (Zan (sz:=3) 101 (.mk YbA kr) .is .t ow ow) r2 r1 (qR rr (qf (o_copy_sub 101 YbA kr (by intro x;rfl) .t .t (by simp) (by simp;omega)) r2 r1 qZ))))) J [9,8,7,6,2,1,0] [101,0] O O fun a w F G=>?_))
  simp only [Yc] at G
  obtain ⟨l3,hl3⟩:∃ y,y=l2.take i ++ [x] ++ l2.drop (i + [x].length):=⟨_,rfl⟩
  rw [← hl3] at G
  have hl3n:l3.length=l.length+1:=by rw [hl3,Yd,Yd,Yf,Yt,hl2n];simp;omega
  refine Za (Ya (ZO G (qR rr (qR rr (qR rr (qf (ZcL .t .t) r2 qz (qf (Zan (sz:=3) 101 (.mk YbA kr) .is .t (by rw [hw1];omega) (by rw [hw1];omega)) r2 r1 (qR rr (qR rr (qf (ZfJ (sz:=3) (.mk YbA kr) (by intro x;rfl) .t .t ow ow) r2 qz (qf (o_copy_sub 101 YbA kr (by intro x;rfl) .t .t (by intro h9;have:=YZ List.length h9;simp at this;omega) (by rw [hw1,Yt];omega)) r2 r1 qZ))))))))) J [9,8,7,6,2,1,0] [101,0] O O fun a w F G=>?_))
  try dsimp only [rTx] at G
  rw [hw1] at G
  simp only [Yc] at G
  have hg:=Zib (x:=x) hil hl2 hl3
  refine Za (Ya (rZ G (qR rr (qO rr qZ)) J [8,7,6,2,1,0] [101,0] fun G=>(Yg (Ze ?_))))
  obtain ⟨F,G⟩:=G.rename 101 1 O rfl
  have G:=G.turn 1 O (r':=RS.hp (Zs 37 3 rTx (l.take i ++ [x] ++ l.drop i) v40)) (fun _ _ _ _ h=>by rw [hg];exact h)
  refine Zab (h':=fun v=>Zs 37 3 rTx (l.take i ++ [x] ++ l.drop i) v) hG G O (.tmp O .nil) (.one .one) rfl
 have hcap:l.length+1≤capV v:=by rw [hwn] at hc2;simp at hc2;omega
 refine Yi (Za (Ya (Zb G (qR rr (qR rr (qR rr (qf (ZcL .t .t) r2 qz (qf (Zfx (sz:=3) 1 (.mk YbA kr) .is .t (by rw [hwn];omega) ow) r2 r1 (qO rr qZ)))))) J [8,7,6,2,1,0] [1,0] (fun _=>rfl) (fun _=>rfl) fun τ a w F G=>?_)))
 try dsimp only [RS.sub,SF.sub,CF.sub,csub,Anc.sub,List.map,rTx] at G
 generalize τ 60=v60 at G
 refine Za (Ya (Ya (rZ G (qR rr (qR rr (qR rr (qR rr (qf (ZcL .t .t) r2 qz (qf (ZaW (sz:=3) 1 (.mk YbA kr) .is .t (by rw [hw1];omega) (by rw [hw1];omega)) r2 r1 (qf (Zfo 1 func74 kr kr kr O YbA kr (by intro x;rfl) .t .t (by rw [hw1];omega)) r2 r1 (qf (o_not .t) r1 qz qZ)))))))) J [68,8,7,6,2,1,0] [1,0] fun G=>?_)))
 refine Zc G O (fun hc3=>?_) (fun hc3=>?_)
 ·refine Ya (ZO G (qR rr (qR rr (qR rr (qf (ZcL .t .t) r2 qz (qf (ZaW (sz:=3) 1 (.mk YbA kr) .is .t (by rw [hw1];omega) (by rw [hw1];omega)) r2 r1 (qR rr (qR rr (qf (ZaW (sz:=3) 1 (.mk YbA kr) .is .t ow ow) r2 r1 (qf (Zdx (k:=i) 1 YbA kr (by intro x;rfl) .t .t (by rw [hw1];rfl) O ow) r2 r1 qZ))))))))) J [8,7,6,2,1,0] [1,0] O O fun a w F G=>?_)
  try dsimp only [rTx] at G
  obtain ⟨l4,hl4⟩:∃ y,y=l.take (i+1)++l.drop i:=⟨_,rfl⟩
  rw [← hl4] at G
  have hl4n:l4.length=l.length+1:=by rw [hl4,Yd,Yf,Yt];omega
  refine Za (Ya (Zf G (qR rr (qR rr (qf (Zan (sz:=3) 1 (.mk YbA kr) .is .t ow ow) r2 r1 (qR rr (qf (o_copy_sub 1 YbA kr (by intro x;rfl) .t .t (by simp) (by simp;omega)) r2 r1 qZ))))) J [8,7,6,2,1,0] [1,0] O O fun a w F G=>?_))
  simp only [Yc] at G
  have hg:=Zgq (x:=x) hil hl4
  refine Za (Ya (rZ G (qR rr (qO rr qZ)) J [8,7,6,2,1,0] [1,0] fun G=>(Yg (Ze ?_))))
  have G:=G.turn 1 O (r':=RS.hp (Zs 37 3 rTx (l.take i ++ [x] ++ l.drop i) v60)) (fun _ _ _ _ h=>by rw [hg];exact h)
  refine Zab (h':=fun v=>Zs 37 3 rTx (l.take i ++ [x] ++ l.drop i) v) hG G O (.tmp O .nil) (.one .one) rfl
 simp at hc3
theorem Zps (v:Value) (l:List OrdD) (i:Nat) (x:OrdD) (hll:l.length≤1000000) (hi:i≤l.length):FnG prog 79 1 [.is v,.int .i64 i,.sl ZA [x]] [Zs 34 2 ZA l v] (PV.one) (fun v=>[Zs 34 2 ZA (l.take i ++ [x] ++ l.drop i) v]):=by
 refine FnG.mk func79 O ntmps79 O kr fun B F0 a w F J hG G=>?_
 replace G:=G.turn 1 O (r':=.ob (.val v) (Zs 34 2 ZA l)) (fun _ _ _ _ h=>h)
 refine Ya (rZ G (qC qZ) J [6,2,1,0] [1,0] fun G=>Ya ?_)
 refine rZ G (qR rr (qR rr (qf (Zg4 (sz:=2) 1 (.mk YbB kr) .is .t ow ow) r2 r1 qZ))) J [6,2,1,0] [1,0] fun G=>Ya ?_
 refine Zf G (qR rr (qu YbB r1 (qO rr qZ))) J [7,6,2,1,0] [1,0] O O fun a w F G=>?_
 replace G:=G.ent (i:=7) (s':=.pv (.int .i64 1)) O (.int O)
 obtain ⟨F,G⟩:=G.nM [7,6,2,1,0] [1,0]
 refine Za (Ya (Ya (rZ G (qR rr (qf (o_eql .t qi) r1 qz qZ)) J [16,7,6,2,1,0] [1,0] fun G=>?_)))
 refine Zc G O (fun hc0=>?_) (fun hc0=>?_)
 ·simp at hc0
 refine Yi (Za (Ya (rZ G (qR rr (qf (Zaj 1 YbB .is) r1 r1 (qO rr qZ))) J [8,7,6,2,1,0] [1,0] fun G=>(Ya (Ya ?_)))))
 refine rZ G (qR rr (qR rr (qf (o_eql .t .t) r2 qz qZ))) J [22,8,7,6,2,1,0] [1,0] fun G=>?_
 refine Zc G O (fun hc1=>?_) (fun hc1=>?_)
 ·have hg:=Zki (x:=x) (by have h9:=hc1;simp at h9;omega:i=l.length)
  refine Ya (Zb G (qR rr (qR rr (qf (Z4 (sz:=2) (bs:=32) 1 (.mk' YbB kr kr) (by intro x;rfl) .is (.sl .t) (by simp only [Yv,YS];omega) (by decide)) ⟨rfl,rfl,tv⟩ ⟨rfl,tv⟩ (qO rr qZ)))) J [8,7,6,2,1,0] [1,0] (fun _=>rfl) (fun _=>rfl) fun τ a w F G=>?_)
  try dsimp only [RS.sub,SF.sub,CF.sub,csub,Anc.sub,List.map,xC,xN,ZA] at G
  generalize τ 25=v25 at G
  refine Za (Yg (Ze ?_))
  have G:=G.turn 1 O (r':=RS.hp (Zs 34 2 ZA (l.take i ++ [x] ++ l.drop i) v25)) (fun _ _ _ _ h=>by rw [hg];exact h)
  refine Zab (h':=fun v=>Zs 34 2 ZA (l.take i ++ [x] ++ l.drop i) v) hG G O (.tmp O .nil) (.one .one) rfl
 have hil:i<l.length:=by simp at hc1;omega
 have hw1:IntKind.wrap .i64 ((i:Int)+1)=((i+1:Nat):Int):=Zh ow
 have hwn:IntKind.wrap .i64 ((l.length:Int)+1)=((l.length+1:Nat):Int):=Zh ow
 refine Yi (Za (Ya (Ya (rZ G (qR rr (qR rr (qf (ZcL .t .t) r2 qz (qR rr (qf (ZgK 1 YbB .is) r1 r1 (qf (Zbs .t .t) r2 qz qZ)))))) J [31,8,7,6,2,1,0] [1,0] fun G=>?_))))
 refine Zc G O (fun hc2=>?_) (fun hc2=>?_)
 ·have hcap:capV v<l.length+1:=by rw [hwn] at hc2;simp at hc2;omega
  have hw:IntKind.wrap .i64 (IntKind.wrap .i64 ((l.length:Int)+1) - (i:Int))=((l.length+1 - i:Nat):Int):=by rw [hwn,ZN ow];omega
  refine Ya (Zb G (qR rr (qR rr (qf (Zdu (sz:=2) 1 (.mk YbB kr) .is .t ow ow) r2 r1 (qR rr (qR rr (qf (ZcL .t .t) r2 qz (qR rr (qf (o_sub .t .t) r2 qz (qf (Zcm (R:=ZA) (z:=(⟨0,[]⟩:OrdD)) (bs:=32) (sz:=2) (zs:=[.int .i64 0,.slice none 0 0]) 1 101 YbB YbD kr kr kr (by intro x;rfl) (fun _ _=>⟨⟨rfl,rfl,Zi3⟩,⟨rfl,ZgX⟩,tv⟩) .t .t ow (by rw [hw];omega) (by rw [hw];omega) (by rw [hw];omega) (by rw [hw];omega)) ⟨rfl,rfl,tv⟩ ⟨rfl,tv⟩ (qO rr qZ)))))))))) J [9,8,7,6,2,1,0] [101,1,0] (fun _=>rfl) (fun _=>rfl) fun τ a w F G=>?_)
  try dsimp only [RS.sub,SF.sub,CF.sub,csub,Anc.sub,List.map,xC,xN,ZA] at G
  generalize τ 40=v40 at G
  rw [hw] at G
  simp only [Yc] at G
  obtain ⟨l2,hl2⟩:∃ y,y=l.take i++List.replicate (l.length+1 - i) (⟨0,[]⟩:OrdD):=⟨_,rfl⟩
  rw [← hl2] at G
  have hl2n:l2.length=l.length+1:=by rw [hl2,Yd,Yf,Ya2];omega
  obtain ⟨F,G⟩:=G.give 1 0 O rfl
  obtain ⟨F,G⟩:=G.nM [9,8,7,6,2,1,0] [101,0]
  refine Za (Ya (Zf G (qR rr (qR rr (qf (Zan (sz:=2) 101 (.mk YbB kr) .is .t ow ow) r2 r1 (qR rr (qf (o_copy_sub 101 YbB kr (by intro x;rfl) .t .t (by simp) (by simp;omega)) r2 r1 qZ))))) J [9,8,7,6,2,1,0] [101,0] O O fun a w F G=>?_))
  simp only [Yc] at G
  obtain ⟨l3,hl3⟩:∃ y,y=l2.take i ++ [x] ++ l2.drop (i + [x].length):=⟨_,rfl⟩
  rw [← hl3] at G
  have hl3n:l3.length=l.length+1:=by rw [hl3,Yd,Yd,Yf,Yt,hl2n];simp;omega
  refine Za (Ya (ZO G (qR rr (qR rr (qR rr (qf (ZcL .t .t) r2 qz (qf (Zan (sz:=2) 101 (.mk YbB kr) .is .t (by rw [hw1];omega) (by rw [hw1];omega)) r2 r1 (qR rr (qR rr (qf (ZfJ (sz:=2) (.mk YbB kr) (by intro x;rfl) .t .t ow ow) r2 qz (qf (o_copy_sub 101 YbB kr (by intro x;rfl) .t .t (by intro h9;have:=YZ List.length h9;simp at this;omega) (by rw [hw1,Yt];omega)) r2 r1 qZ))))))))) J [9,8,7,6,2,1,0] [101,0] O O fun a w F G=>?_))
  try dsimp only [ZA] at G
  rw [hw1] at G
  simp only [Yc] at G
  have hg:=Zib (x:=x) hil hl2 hl3
  refine Za (Ya (rZ G (qR rr (qO rr qZ)) J [8,7,6,2,1,0] [101,0] fun G=>(Yg (Ze ?_))))
  obtain ⟨F,G⟩:=G.rename 101 1 O rfl
  have G:=G.turn 1 O (r':=RS.hp (Zs 34 2 ZA (l.take i ++ [x] ++ l.drop i) v40)) (fun _ _ _ _ h=>by rw [hg];exact h)
  refine Zab (h':=fun v=>Zs 34 2 ZA (l.take i ++ [x] ++ l.drop i) v) hG G O (.tmp O .nil) (.one .one) rfl
 have hcap:l.length+1≤capV v:=by rw [hwn] at hc2;simp at hc2;omega
 refine Yi (Za (Ya (Zb G (qR rr (qR rr (qR rr (qf (ZcL .t .t) r2 qz (qf (Zfx (sz:=2) 1 (.mk YbB kr) .is .t (by rw [hwn];omega) ow) r2 r1 (qO rr qZ)))))) J [8,7,6,2,1,0] [1,0] (fun _=>rfl) (fun _=>rfl) fun τ a w F G=>?_)))
 try dsimp only [RS.sub,SF.sub,CF.sub,csub,Anc.sub,List.map,ZA] at G
 generalize τ 60=v60 at G
 refine Za (Ya (Ya (rZ G (qR rr (qR rr (qR rr (qR rr (qf (ZcL .t .t) r2 qz (qf (ZaW (sz:=2) 1 (.mk YbB kr) .is .t (by rw [hw1];omega) (by rw [hw1];omega)) r2 r1 (qf (Zfo 1 func114 kr kr kr O YbB kr (by intro x;rfl) .t .t (by rw [hw1];omega)) r2 r1 (qf (o_not .t) r1 qz qZ)))))))) J [68,8,7,6,2,1,0] [1,0] fun G=>?_)))
 refine Zc G O (fun hc3=>?_) (fun hc3=>?_)
 ·refine Ya (ZO G (qR rr (qR rr (qR rr (qf (ZcL .t .t) r2 qz (qf (ZaW (sz:=2) 1 (.mk YbB kr) .is .t (by rw [hw1];omega) (by rw [hw1];omega)) r2 r1 (qR rr (qR rr (qf (ZaW (sz:=2) 1 (.mk YbB kr) .is .t ow ow) r2 r1 (qf (Zdx (k:=i) 1 YbB kr (by intro x;rfl) .t .t (by rw [hw1];rfl) O ow) r2 r1 qZ))))))))) J [8,7,6,2,1,0] [1,0] O O fun a w F G=>?_)
  try dsimp only [ZA] at G
  obtain ⟨l4,hl4⟩:∃ y,y=l.take (i+1)++l.drop i:=⟨_,rfl⟩
  rw [← hl4] at G
  have hl4n:l4.length=l.length+1:=by rw [hl4,Yd,Yf,Yt];omega
  refine Za (Ya (Zf G (qR rr (qR rr (qf (Zan (sz:=2) 1 (.mk YbB kr) .is .t ow ow) r2 r1 (qR rr (qf (o_copy_sub 1 YbB kr (by intro x;rfl) .t .t (by simp) (by simp;omega)) r2 r1 qZ))))) J [8,7,6,2,1,0] [1,0] O O fun a w F G=>?_))
  simp only [Yc] at G
  have hg:=Zgq (x:=x) hil hl4
  refine Za (Ya (rZ G (qR rr (qO rr qZ)) J [8,7,6,2,1,0] [1,0] fun G=>(Yg (Ze ?_))))
  have G:=G.turn 1 O (r':=RS.hp (Zs 34 2 ZA (l.take i ++ [x] ++ l.drop i) v60)) (fun _ _ _ _ h=>by rw [hg];exact h)
  refine Zab (h':=fun v=>Zs 34 2 ZA (l.take i ++ [x] ++ l.drop i) v) hG G O (.tmp O .nil) (.one .one) rfl
 simp at hc3
theorem ZoO (v:Value) (l:List TxD) (i:Nat) (hll:l.length≤1000000) (hi:i<l.length):FnG prog 54 1 [.is v,.int .i64 i,.int .i64 ((i+1:Nat):Int)] [Zs 37 3 rTx l v] (PV.one) (fun v=>[Zs 37 3 rTx (l.take i++l.drop (i+1)) v]):=by
 refine FnG.mk func54 O ntmps54 O kr fun B F0 a w F J hG G=>?_
 replace G:=G.turn 1 O (r':=.ob (.val v) (Zs 37 3 rTx l)) (fun _ _ _ _ h=>h)
 have hrc:=(G.rowCap (n:=1) rfl).1
 refine Ya (rZ G (qC qZ) J [6,2,1,0] [1,0] fun G=>Ya ?_)
 refine rZ G (qR rr (qR rr (qR rr (qR rr (qf (Zaj 1 YbA .is) r1 r1 (qf (ZmT (sz:=3) 1 (.mk YbA kr) .is .t .t .t ow ow ow ow) r4 r1 qZ)))))) J [6,2,1,0] [1,0] fun G=>(Ya (Ya ?_))
 refine rZ G (qR rr (qR rr (qf (o_eql .t .t) r2 qz qZ))) J [16,6,2,1,0] [1,0] fun G=>?_
 refine Zc G O (fun hc0=>?_) (fun hc0=>?_)
 ·simp at hc0;omega
 refine Yi (Za (Ya (rZ G (qR rr (qf (Zaj 1 YbA .is) r1 r1 (qO rr qZ))) J [7,6,2,1,0] [1,0] fun G=>Ya ?_)))
 refine ZO G (qR rr (qR rr (qf (Zdu (sz:=3) 1 (.mk YbA kr) .is .t ow ow) r2 r1 (qR rr (qR rr (qf (Zhk (sz:=3) 1 (.mk YbA kr) .is .t ow ow ow) r2 r1 (qf (ZfS 1 YbA kr (by intro x;rfl) .t .t ow ow ow) ⟨rfl,rfl,tv⟩ ⟨rfl,tv⟩ (qO rr qZ)))))))) J [7,6,0] [1,0] O O fun a w F G=>?_
 try dsimp only [xC,xN,rTx] at G
 simp only [Yc] at G
 obtain ⟨v2,hv2⟩:∃ y,y=Zgb (i+(l.length - (i+1))) v:=⟨_,rfl⟩
 rw [← hv2] at G
 have hcv:capV v2=capV v:=by rw [hv2];exact Zli _ _
 obtain ⟨l4,hl4⟩:∃ y,y=l.take i++l.drop (i+1):=⟨_,rfl⟩
 rw [← hl4] at G
 have hl4n:l4.length+1=l.length:=by rw [hl4,Yd,Yf,Yt];omega
 have hg:=hl4.symm
 refine Za (Ya (rZ G (qR rr (qR rr (qf (Zaj 1 YbA .is) r1 r1 (qR rr (qf (ZoC (sz:=3) 1 (.mk YbA kr) .is .t .t ow ow (by rw [hcv];omega)) r3 r1 (qf (Zgk (zs:=[.int .i64 0,.bool false,.slice none 0 0]) 1 YbA O O (ZjO (zs:=[.int .i64 0,.bool false,.slice none 0 0]) (R:=rTx) (v:=(⟨0,false,[]⟩:TxD)) O (by decide) (fun _ _=>⟨⟨rfl,rfl,Zi3⟩,⟨rfl,rfl⟩,⟨rfl,ZgX⟩,tv⟩) _) .t ow (by rw [hcv];omega)) r1 r1 qZ)))))) J [6,0] [1,0] fun G=>Ya ?_))
 refine rZ G (qR rr (qO rr qZ)) J [6] [1,0] fun G=>Yg ?_
 have G:=G.turn 1 O (r':=RS.hp (Zs 37 3 rTx (l.take i++l.drop (i+1)) v2)) (fun _ _ _ _ h=>by rw [hg];exact h)
 refine Zab (h':=fun v=>Zs 37 3 rTx (l.take i++l.drop (i+1)) v) hG G O (.tmp O .nil) (.one .one) rfl
theorem Zij (x:Int):FnP prog 119 [.int .i64 x] (.bool false):=by
 refine FnP.mk func119 O ntmps119 O fun B a w F J hfr G=>Ya ?_
 refine rZ G qB J [2,0] [0] fun G=>Ya ?_
 refine rZ G (qR rr (qR rr (qf (o_neq .t .t) r2 qz (qO rr qZ)))) J [2] [0] fun G=>Yg ?_
 refine Zt hfr G O O O (.bool (by simp))
theorem Znw (x y:Int):FnP prog 86 [.int .i64 x,.int .i64 y] (.int .i64 (ZfO x y)):=by
 refine FnP.mk func86 O ntmps86 O fun B a w F J hfr G=>Ya ?_
 refine rZ G (qI qZ) J [4,1,0] [0] fun G=>Ya ?_
 refine rZ G (qR rr (qf (oP (Zij x) func119 (Args.one .t)) r1 qz (qO rr qZ))) J [5,4,1,0] [0] fun G=>Ya ?_
 refine rZ G (qR rr (qf (oP (Zij y) func119 (Args.one .t)) r1 qz (qO rr qZ))) J [6,5,4,1,0] [0] fun G=>(Ya (Ya ?_))
 refine rZ G (qR rr qZ) J [11,6,4,1,0] [0] fun G=>?_
 refine Zc G O (fun hc0=>?_) (fun hc0=>?_)
 ·simp at hc0
 refine Yi (Za (Ya (Ya (rZ G (qR rr qZ) J [13,4,1,0] [0] fun G=>?_))))
 refine Zc G O (fun hc1=>?_) (fun hc1=>?_)
 ·simp at hc1
 refine Yi (Za (Ya (Ya (rZ G (qR rr (qR rr (qL r2))) J [16,4,1,0] [0] fun G=>?_))))
 refine Zc G O (fun hc2=>?_) (fun hc2=>?_)
 ·have hg:(-1:Int)=ZfO x y:=by unfold ZfO;rw [Ye (by simpa using hc2)]
  refine Ya (rZ G (qI qZ) J [4,1,0] [0] fun G=>(Yg (Ze ?_)))
  refine Zt hfr G O O O (.int hg)
 have h1:¬ x<y:=by simpa using hc2
 refine Yi (Za (Ya (Ya (rZ G (qR rr (qR rr (qf (Zbs .t .t) r2 qz qZ))) J [19,4] [0] fun G=>?_))))
 refine Zc G O (fun hc3=>?_) (fun hc3=>?_)
 ·have hg:(1:Int)=ZfO x y:=by unfold ZfO;rw [Yb h1,Ye (by simpa using hc3)]
  refine Ya (rZ G (qI qZ) J [4] [0] fun G=>(Yg (Ze ?_)))
  refine Zt hfr G O O O (.int hg)
 have hg:(0:Int)=ZfO x y:=by unfold ZfO;rw [Yb h1,Yb (by simpa using hc3)]
 refine Yi (Za (Ya (rZ G (qI qZ) J [4] [0] fun G=>Yg ?_)))
 refine Zt hfr G O O O (.int hg)
theorem Zmu (x:TxD) (k:Int):FnP prog 85 [.agg (rTx x),.int .i64 k] (.int .i64 (ZfO x.id k)):=by
 refine FnP.mk func85 O ntmps85 O fun B a w F J hfr G=>Ya ?_
 refine Zb G (qx 101 r1 (qI qZ)) J [4,2,1] [101,0] (fun _=>rfl) (fun _=>rfl) fun τ a w F G=>?_
 try dsimp only [RS.sub,SF.sub,CF.sub,csub,Anc.sub,List.map,zCF,rTx] at G
 generalize τ 2=v2 at G
 refine Za (Ya (rZ G (qg 0 101 r1 r1 (qa 101 r1 r1 (qR rr (qf (oP (Znw x.id k) func86 (Args.two .t .t)) r2 qz (qO rr qZ))))) J [4] [0] fun G=>Yg ?_))
 refine Zt hfr G O O O (.int O)
theorem ZjY (x:OrdD) (k:Int):FnP prog 78 [.agg (ZA x),.int .i64 k] (.int .i64 (ZfO x.key k)):=by
 refine FnP.mk func78 O ntmps78 O fun B a w F J hfr G=>Ya ?_
 refine Zb G (qx 101 r1 (qI qZ)) J [4,2,1] [101,0] (fun _=>rfl) (fun _=>rfl) fun τ a w F G=>?_
 try dsimp only [RS.sub,SF.sub,CF.sub,csub,Anc.sub,List.map,zCF,ZA] at G
 generalize τ 2=v2 at G
 refine Za (Ya (rZ G (qg 0 101 r1 r1 (qa 101 r1 r1 (qR rr (qf (oP (Znw x.key k) func86 (Args.two .t .t)) r2 qz (qO rr qZ))))) J [4] [0] fun G=>Yg ?_))
 refine Zt hfr G O O O (.int O)
theorem ZpT (l : List TxD) (k : Int) (hll : l.length ≤ 1000000) (hs : Zcc TxD.id l) (f : FuncId) (fn : Func) (cps : List PV) (hf : prog.funcs[f]? = some fn) (hb : fn.body.isSome = true) (hnn : (fn.name == "runtime.NumGoroutine") = false) (hw : ∀ x : TxD, FnP prog f (.agg (rTx x) :: .int .i64 k :: cps) (.int .i64 (ZfO (TxD.id x) k))) : FnP prog 84 [.sl rTx l, .int .i64 k, .clos f cps] (.tup [.int .i64 (lowK TxD.id k l), .bool (isK TxD.id k l)]) := by
 refine FnP.mk func84 O ntmps84 O fun B a w F J hfr G=>Ya ?_
 refine rZ G (qI qB) J [7,6,2,1,0] [0] fun G=>Ya ?_
 refine rZ G (qR rr (qu YbA r1 (qO rr qZ))) J [8,7,6,2,1,0] [0] fun G=>Ya ?_
 refine rZ G (qR rr (qI (qO rr qZ))) J [10,9,8,7,6,2,1,0] [0] fun G=>(Ya (Yj ?_))
 refine Zo (σ:=Nat×Nat) [0,1,2,6,7,8] [0] (fun s=>[(9,.pv (.int .i64 (s.1:Int))),(10,.pv (.int .i64 (s.2:Int)))]) (fun s=>[]) (fun s=>s.1≤s.2∧s.2≤l.length∧(∀ q,q<s.1→TxD.id (Nn l q)<k) ∧ ∀ q,s.2≤q→q<l.length→k≤TxD.id (Nn l q)) (fun s=>s.2 - s.1) ((0),(l.length)) G ⟨rfl,rfl,rfl,rfl,rfl,rfl,rfl,rfl,tv⟩ ⟨rfl,tv⟩ ⟨Yr _,YO _,fun q hq=>absurd hq (Y5 q),fun q h1 h2=>by omega⟩ ?_
 clear G;intro s a w F hC G
 obtain ⟨i,j⟩:=s
 try dsimp only at hC
 obtain ⟨F,G⟩:=G.nM [10,9,8,7,6,2,1,0] [0]
 try dsimp only at G
 obtain ⟨hij,hjl,hlo,hhi⟩:=hC
 have hgs:=Zno (i:=i) ow hs hlo
 have hgl:=ZfQ (i:=i) ow hlo
 refine Ya (Ya (rZ G (qR rr (qR rr (qL r2))) J [17,10,9,8,7,6,2,1,0] [0] fun G=>?_))
 refine Zc G O (fun hc0=>?_) (fun hc0=>?_)
 ·skip
  have hlt:i<j:=by simp at hc0;omega
  refine Yi (Za (Yj (Ya (Zf G (qR rr (qR rr (qf (ZcL .t .t) r2 qz (qf (o_conv YbG kr .t) r1 qz (qf (Zjq .t qi (by decide)) r1 qz (qf (o_conv YbD kr .t) r1 qz (qO rr qZ))))))) J [11,10,9,8,7,6,2,1,0] [0] O O fun a w F G=>?_))))
  obtain ⟨m,hm⟩:∃ m:Nat,m=(i+j) / 2:=⟨_,rfl⟩
  replace G:=G.ent (i:=11) (s':=.pv (.int .i64 (m:Int))) O (.int (by rw [hm];exact ZlC ow))
  obtain ⟨F,G⟩:=G.nM [11,10,9,8,7,6,2,1,0] [0]
  refine Za (Ya (Zf G (qR rr (qR rr (qR rr (qy 3 YbA r2 (qf (oR true 3 .t) r1 qz (qR rr (qf (ZL (avs:=[.agg (rTx (Nn l m)),.int .i64 k]) .t (hw (Nn l m)) hf hb hnn (Args.two (.pagg .t) .t)) r3 qz (qf (Zcz .t qi) r1 qz qZ)))))))) J [31,11,10,9,8,7,6,2,1,0] [0] O O fun a w F G=>?_))
  try simp only [Yc] at G
  refine Za (Zc G O (fun hc1=>?_) (fun hc1=>?_))
  ·skip
   have hmk:TxD.id (Nn l m)<k:=Zgh.1 (by simpa using hc1)
   obtain ⟨i2,hi2e⟩:∃ z,z=m+1:=⟨_,rfl⟩
   obtain ⟨j2,hj2e⟩:∃ z,z=j:=⟨_,rfl⟩
   have hi2:IntKind.wrap .i64 ((m:Int)+1)=(i2:Int):=by rw [hi2e];exact Zh ow
   have hj2:(j:Int)=(j2:Int):=by rw [hj2e]
   have hmu:j2 - i2<j - i:=by omega
   have hC2:i2≤j2∧j2≤l.length∧(∀ q,q<i2→TxD.id (Nn l q)<k) ∧ ∀ q,j2≤q→q<l.length→k≤TxD.id (Nn l q):=⟨by omega,by omega,fun q hq=>Int.lt_of_le_of_lt (Zeg hs ow ow) hmk,by rw [hj2e];exact hhi⟩
   refine Zf G (qR rr (qp r1 (qO rr qZ))) J [10,9,8,7,6,2,1,0] [0] O O fun a w F G=>Zk (Za ?_)
   replace G:=G.ent (i:=9) (s':=.pv (.int .i64 (i2:Int))) O (.int hi2)
   replace G:=G.ent (i:=10) (s':=.pv (.int .i64 (j2:Int))) O (.int hj2)
   obtain ⟨F,G⟩:=G.nM [8,7,6,2,1,0,10,9] [0]
   exact ⟨((i2),(j2)),F,hC2,G,hmu⟩
  have hmk:k≤TxD.id (Nn l m):=Int.not_lt.1 fun e=>(show ¬ ZfO (TxD.id (Nn l m)) k<0 by simpa using hc1) (Zgh.2 e)
  obtain ⟨i2,hi2e⟩:∃ z,z=i:=⟨_,rfl⟩
  obtain ⟨j2,hj2e⟩:∃ z,z=m:=⟨_,rfl⟩
  have hi2:(i:Int)=(i2:Int):=by rw [hi2e]
  have hj2:(m:Int)=(j2:Int):=by rw [hj2e]
  have hmu:j2 - i2<j - i:=by omega
  have hC2:i2≤j2∧j2≤l.length∧(∀ q,q<i2→TxD.id (Nn l q)<k) ∧ ∀ q,j2≤q→q<l.length→k≤TxD.id (Nn l q):=⟨by omega,by omega,by rw [hi2e];exact hlo,fun q h1 h2=>Int.le_trans hmk (Zeg hs ow h2)⟩
  refine Zf G (qR rr (qO rr qZ)) J [10,9,8,7,6,2,1,0] [0] O O fun a w F G=>Zk (Za ?_)
  replace G:=G.ent (i:=9) (s':=.pv (.int .i64 (i2:Int))) O (.int hi2)
  replace G:=G.ent (i:=10) (s':=.pv (.int .i64 (j2:Int))) O (.int hj2)
  obtain ⟨F,G⟩:=G.nM [8,7,6,2,1,0,10,9] [0]
  exact ⟨((i2),(j2)),F,hC2,G,hmu⟩
 have hjj:i=j:=by simp at hc0;omega
 subst hjj
 have hgl2:=hgl hhi
 have hgs2:=hgs hhi
 have hb2:(decide ((i:Int)<(l.length:Int)) && decide (ZfO (TxD.id (Nn l i)) k=0))=isK TxD.id k l:=by
   rw [YaD,hgs2]
   simp [Zks]
 refine YA (Zj (Zj (Zw (Za (Ya (Zf G (qR rr (qR rr (qR rr (qf (Zcz .t .t) r2 qz (qR rr (qm O O O O (qm O O O O (qm O O O O (qk O (fun h=>Z0 (sz:=3) (.mk YbA kr) (by intro x;rfl) (.w h) (.w h) ow (by have:=Yak h;omega)) r3 qz (qk O (fun h=>oR true 3 (.w h)) r2 qz (qm O O O O (qk O (fun h=>ZL (avs:=[.agg (rTx (Nn l i)),.int .i64 k]) (.w h) (hw (Nn l i)) hf hb hnn (Args.two (.pagg (.w h)) (.w h))) r4 qz (qk O (fun h=>o_eql (.w h) qi) r2 qz (qf (ZR .t .t) r2 qz (qO rr (qO rr qZ)))))))))))))))) J [7,6] [0] O O fun a w F G=>?_))))))
 try simp only [Yc] at G
 refine Za (Yg (ZK hfr G O (.tmp O (.tmp O .nil)) (.two (.int (by rw [hgl2])) (.bool hb2))))
theorem ZoW (l : List OrdD) (k : Int) (hll : l.length ≤ 1000000) (hs : Zcc OrdD.key l) (f : FuncId) (fn : Func) (cps : List PV) (hf : prog.funcs[f]? = some fn) (hb : fn.body.isSome = true) (hnn : (fn.name == "runtime.NumGoroutine") = false) (hw : ∀ x : OrdD, FnP prog f (.agg (ZA x) :: .int .i64 k :: cps) (.int .i64 (ZfO (OrdD.key x) k))) : FnP prog 77 [.sl ZA l, .int .i64 k, .clos f cps] (.tup [.int .i64 (lowK OrdD.key k l), .bool (isK OrdD.key k l)]) := by
 refine FnP.mk func77 O ntmps77 O fun B a w F J hfr G=>Ya ?_
 refine rZ G (qI qB) J [7,6,2,1,0] [0] fun G=>Ya ?_
 refine rZ G (qR rr (qu YbB r1 (qO rr qZ))) J [8,7,6,2,1,0] [0] fun G=>Ya ?_
 refine rZ G (qR rr (qI (qO rr qZ))) J [10,9,8,7,6,2,1,0] [0] fun G=>(Ya (Yj ?_))
 refine Zo (σ:=Nat×Nat) [0,1,2,6,7,8] [0] (fun s=>[(9,.pv (.int .i64 (s.1:Int))),(10,.pv (.int .i64 (s.2:Int)))]) (fun s=>[]) (fun s=>s.1≤s.2∧s.2≤l.length∧(∀ q,q<s.1→OrdD.key (Nn l q)<k) ∧ ∀ q,s.2≤q→q<l.length→k≤OrdD.key (Nn l q)) (fun s=>s.2 - s.1) ((0),(l.length)) G ⟨rfl,rfl,rfl,rfl,rfl,rfl,rfl,rfl,tv⟩ ⟨rfl,tv⟩ ⟨Yr _,YO _,fun q hq=>absurd hq (Y5 q),fun q h1 h2=>by omega⟩ ?_
 clear G;intro s a w F hC G
 obtain ⟨i,j⟩:=s
 try dsimp only at hC
 obtain ⟨F,G⟩:=G.nM [10,9,8,7,6,2,1,0] [0]
 try dsimp only at G
 obtain ⟨hij,hjl,hlo,hhi⟩:=hC
 have hgs:=Zno (i:=i) ow hs hlo
 have hgl:=ZfQ (i:=i) ow hlo
 refine Ya (Ya (rZ G (qR rr (qR rr (qL r2))) J [17,10,9,8,7,6,2,1,0] [0] fun G=>?_))
 refine Zc G O (fun hc0=>?_) (fun hc0=>?_)
 ·skip
  have hlt:i<j:=by simp at hc0;omega
  refine Yi (Za (Yj (Ya (Zf G (qR rr (qR rr (qf (ZcL .t .t) r2 qz (qf (o_conv YbG kr .t) r1 qz (qf (Zjq .t qi (by decide)) r1 qz (qf (o_conv YbD kr .t) r1 qz (qO rr qZ))))))) J [11,10,9,8,7,6,2,1,0] [0] O O fun a w F G=>?_))))
  obtain ⟨m,hm⟩:∃ m:Nat,m=(i+j) / 2:=⟨_,rfl⟩
  replace G:=G.ent (i:=11) (s':=.pv (.int .i64 (m:Int))) O (.int (by rw [hm];exact ZlC ow))
  obtain ⟨F,G⟩:=G.nM [11,10,9,8,7,6,2,1,0] [0]
  refine Za (Ya (Zf G (qR rr (qR rr (qR rr (qy 2 YbB r2 (qf (oR true 2 .t) r1 qz (qR rr (qf (ZL (avs:=[.agg (ZA (Nn l m)),.int .i64 k]) .t (hw (Nn l m)) hf hb hnn (Args.two (.pagg .t) .t)) r3 qz (qf (Zcz .t qi) r1 qz qZ)))))))) J [31,11,10,9,8,7,6,2,1,0] [0] O O fun a w F G=>?_))
  try simp only [Yc] at G
  refine Za (Zc G O (fun hc1=>?_) (fun hc1=>?_))
  ·skip
   have hmk:OrdD.key (Nn l m)<k:=Zgh.1 (by simpa using hc1)
   obtain ⟨i2,hi2e⟩:∃ z,z=m+1:=⟨_,rfl⟩
   obtain ⟨j2,hj2e⟩:∃ z,z=j:=⟨_,rfl⟩
   have hi2:IntKind.wrap .i64 ((m:Int)+1)=(i2:Int):=by rw [hi2e];exact Zh ow
   have hj2:(j:Int)=(j2:Int):=by rw [hj2e]
   have hmu:j2 - i2<j - i:=by omega
   have hC2:i2≤j2∧j2≤l.length∧(∀ q,q<i2→OrdD.key (Nn l q)<k) ∧ ∀ q,j2≤q→q<l.length→k≤OrdD.key (Nn l q):=⟨by omega,by omega,fun q hq=>Int.lt_of_le_of_lt (Zeg hs ow ow) hmk,by rw [hj2e];exact hhi⟩
   refine Zf G (qR rr (qp r1 (qO rr qZ))) J [10,9,8,7,6,2,1,0] [0] O O fun a w F G=>Zk (Za ?_)
   replace G:=G.ent (i:=9) (s':=.pv (.int .i64 (i2:Int))) O (.int hi2)
   replace G:=G.ent (i:=10) (s':=.pv (.int .i64 (j2:Int))) O (.int hj2)
   obtain ⟨F,G⟩:=G.nM [8,7,6,2,1,0,10,9] [0]
   exact ⟨((i2),(j2)),F,hC2,G,hmu⟩
  have hmk:k≤OrdD.key (Nn l m):=Int.not_lt.1 fun e=>(show ¬ ZfO (OrdD.key (Nn l m)) k<0 by simpa using hc1) (Zgh.2 e)
  obtain ⟨i2,hi2e⟩:∃ z,z=i:=⟨_,rfl⟩
  obtain ⟨j2,hj2e⟩:∃ z,z=m:=⟨_,rfl⟩
  have hi2:(i:Int)=(i2:Int):=by rw [hi2e]
  have hj2:(m:Int)=(j2:Int):=by rw [hj2e]
  have hmu:j2 - i2<j - i:=by omega
  have hC2:i2≤j2∧j2≤l.length∧(∀ q,q<i2→OrdD.key (Nn l q)<k) ∧ ∀ q,j2≤q→q<l.length→k≤OrdD.key (Nn l q):=⟨by omega,by omega,by rw [hi2e];exact hlo,fun q h1 h2=>Int.le_trans hmk (Zeg hs ow h2)⟩
  refine Zf G (qR rr (qO rr qZ)) J [10,9,8,7,6,2,1,0] [0] O O fun a w F G=>Zk (Za ?_)
  replace G:=G.ent (i:=9) (s':=.pv (.int .i64 (i2:Int))) O (.int hi2)
  replace G:=G.ent (i:=10) (s':=.pv (.int .i64 (j2:Int))) O (.int hj2)
  obtain ⟨F,G⟩:=G.nM [8,7,6,2,1,0,10,9] [0]
  exact ⟨((i2),(j2)),F,hC2,G,hmu⟩
 have hjj:i=j:=by simp at hc0;omega
 subst hjj
 have hgl2:=hgl hhi
 have hgs2:=hgs hhi
 have hb2:(decide ((i:Int)<(l.length:Int)) && decide (ZfO (OrdD.key (Nn l i)) k=0))=isK OrdD.key k l:=by
   rw [YaD,hgs2]
   simp [Zks]
 refine YA (Zj (Zj (Zw (Za (Ya (Zf G (qR rr (qR rr (qR rr (qf (Zcz .t .t) r2 qz (qR rr (qm O O O O (qm O O O O (qm O O O O (qk O (fun h=>Z0 (sz:=2) (.mk YbB kr) (by intro x;rfl) (.w h) (.w h) ow (by have:=Yak h;omega)) r3 qz (qk O (fun h=>oR true 2 (.w h)) r2 qz (qm O O O O (qk O (fun h=>ZL (avs:=[.agg (ZA (Nn l i)),.int .i64 k]) (.w h) (hw (Nn l i)) hf hb hnn (Args.two (.pagg (.w h)) (.w h))) r4 qz (qk O (fun h=>o_eql (.w h) qi) r2 qz (qf (ZR .t .t) r2 qz (qO rr (qO rr qZ)))))))))))))))) J [7,6] [0] O O fun a w F G=>?_))))))
 try simp only [Yc] at G
 refine Za (Yg (ZK hfr G O (.tmp O (.tmp O .nil)) (.two (.int (by rw [hgl2])) (.bool hb2))))
theorem Zk8 (g:Zn) (id:Int) (hs:Zbd g.txs) (hr:Zcc TxD.id g.txs):FnP prog 53 [.agg (Zp g),.int .i64 id] (.tup [.int .i64 (lowK TxD.id id g.txs),.bool (isK TxD.id id g.txs)]):=by
 refine FnP.mk func53 O ntmps53 O fun B a w F J hfr G=>?_
 have hsl:=hs.1
 refine Ya (Zb G (qx 101 r1 (qI qB)) J [5,4,2,1] [101,0] (fun _=>rfl) (fun _=>rfl) fun τ a w F G=>?_)
 try dsimp only [RS.sub,SF.sub,CF.sub,csub,Anc.sub,List.map,zCF,Zp,rTx,ZA,ZX,rInt,rOp] at G
 generalize τ 2=v2 at G
 refine Za (Ya (rZ G (qg 0 101 r1 r1 (qa 101 r1 r1 (qR rr (qf (oP (ZpT g.txs id ow hr 85 f85 [] func85 O kr (fun x=>Zmu x id)) func84 (Args.three .t .t (.conv .f (Ent.fnClos)))) r2 qz (qf (Zi .t O) r1 qz (qf (Zi .t O) r1 qz (qO rr (qO rr qZ)))))))) J [5,4] [101,0] fun G=>Yg ?_))
 refine ZK hfr G O (.tmp O (.tmp O .nil)) (.two .refl .refl)
theorem ZdJ (t:TxD) (hl:t.ops.length≤1000000):FnP prog 50 [.agg (rTx t)] (.agg (rTx t)):=by
 refine FnP.mk func50 O ntmps50 O fun B a w F J hfr G=>Ya ?_
 refine Zb G (qx 101 r1 (qf (oH [.int .i64 0,.bool false,.slice none 0 0] 102) trivial qz qZ)) J [2,1] [102,101,0] (fun _=>rfl) (fun _=>rfl) fun τ a w F G=>?_
 try dsimp only [RS.sub,SF.sub,CF.sub,csub,Anc.sub,List.map,zCF,Zp,rTx,ZA,ZX,rInt,rOp] at G
 generalize τ 1=v1,τ 2=v2 at G
 refine Za (Ya ?_)
 replace G:=G.fresh 103 rfl
 refine Zb G (qg 2 101 r1 r1 (qa 101 r1 r1 (qf (ZbW 103 (ZmF t.ops hl) func76 O kr (Args.one .t) Zbh) r1 r1 (qg 2 101 r1 r1 (qf (Zah 101 .adr kr kr) r2 r1 qZ))))) J [2,1] [103,102,101,0] (fun _=>rfl) (fun _=>rfl) fun τ a w F G=>?_
 try dsimp only [RS.sub,SF.sub,CF.sub,csub,Anc.sub,List.map,Zg,xL,xM,Nat.reduceAdd,xD,xE,xT,xU,xC,xN,zCF,ldSF,Zp,rTx,ZA,ZX,rInt,rOp] at G
 generalize τ 5=v5 at G
 obtain ⟨F,G⟩:=G.giveCell 103 101 2 O O O O rfl
 try dsimp only [List.set] at G
 obtain ⟨F,G⟩:=G.nM [2,1] [102,101,0]
 refine Za (Ya (rZ G (qe 3 101 r1 r1 (qs 3 102 r2 r1 qZ)) J [2] [102,101,0] fun G=>Yg ?_))
 refine ZK hfr G O (.cl 102 true 3 O O .nil) (.one (.aggU O O))
theorem Zo8 (g:Zn) (id:Int) (hs:Zbd g.txs):FnP prog 68 [.agg (Zp g),.int .i64 id] (.tup [.agg (rTx ((ZaO g.txs id).getD zeroT)),.bool (ZaO g.txs id).isSome]):=by
 refine FnP.mk func68 O ntmps68 O fun B a w F J hfr G=>?_
 have hsl:=hs.1
 refine Ya (Zb G (qx 101 r1 (qf (oH [.int .i64 0,.bool false,.slice none 0 0] 102) trivial qz qB)) J [5,4,2,1] [102,101,0] (fun _=>rfl) (fun _=>rfl) fun τ a w F G=>?_)
 try dsimp only [RS.sub,SF.sub,CF.sub,csub,Anc.sub,List.map,zCF,Zp,rTx,ZA,ZX,rInt,rOp] at G
 generalize τ 2=v2,τ 4=v4 at G
 refine Za (Ya (Ya (rZ G (qg 0 101 r1 r1 (qa 101 r1 r1 (qu YbA r1 (qJ qZ)))) J [11,10,9,5,4,1] [102,101,0] fun G=>Yj ?_)))
 refine Zo (σ:=(Nat)) [1,4,5,9,10] [0,101,102] (fun s=>[(11,.pv (.int .i64 (s:Int)))]) (fun s=>[]) (fun s=>s≤g.txs.length∧(∀ k,k<s→(Nn g.txs k).id≠id)) (fun s=>g.txs.length - s) (0) G ⟨rfl,rfl,rfl,rfl,rfl,rfl,tv⟩ ⟨rfl,rfl,rfl,tv⟩ ⟨Yr _,fun k hk=>absurd hk (Y5 k)⟩ ?_
 clear G;intro i a w F hC G
 try dsimp only at hC
 obtain ⟨F,G⟩:=G.nM [11,10,9,5,4,1] [102,101,0]
 try dsimp only at G
 obtain ⟨hi,hq⟩:=hC
 refine Ya (rZ G (qL r2) J [12,11,10,9,5,4,1] [102,101,0] fun G=>Ya ?_)
 refine Zc G O (fun hc0=>?_) (fun hc0=>?_)
 ·have hil:i<g.txs.length:=by simp at hc0;omega
  refine Yi (Za (Ya (Yj (Ya (Zb G (qy 3 YbA r2 (qf (oR true 3 .t) r1 qz (qf (oH [.int .i64 0,.bool false,.slice none 0 0] 103) trivial qz (qS 3 103 r2 r1 qZ)))) J [11,10,9,7,5,4,1] [103,102,101,0] (fun _=>rfl) (fun _=>rfl) fun τ a w F G=>?_)))))
  try dsimp only [RS.sub,SF.sub,CF.sub,csub,Anc.sub,List.map,Zg,xL,xM,Nat.reduceAdd,xD,xE,xT,xU,xC,xN,zCF,ldSF,Zp,rTx,ZA,ZX,rInt,rOp] at G
  generalize τ 7=v7 at G
  try simp only [Yc] at G
  refine Za (Ya (rZ G (qg 0 103 r1 r1 (qa 103 r1 r1 (qR rr (qf (o_eql .t .t) r2 qz qZ)))) J [18,11,10,9,7,5,4,1] [103,102,101,0] fun G=>?_))
  refine Zc G O (fun hc1=>?_) (fun hc1=>?_)
  ·have hg:ZaO g.txs id=some (Nn g.txs i):=ZlS hil (by simpa using hc1) hq
   refine Ya (rZ G (qe 3 103 r1 r1 (qf (oP (ZdJ (Nn g.txs i) (by have:=hs.at hil;omega)) func50 (Args.one (.pagg .t))) r1 qz (qf (oA 3 102 .is (.conv .t .agg)) r2 r1 qB))) J [11,10,9,5,4,1] [103,102,101,0] fun G=>(Yg (Zl (Ze (Ze (Zl (Ze ?_)))))))
   refine ZK hfr G O (.cl 102 true 3 O O (.tmp O .nil)) (.two (by rw [hg];first | exact .aggU O O | exact .aggLe O ⟨.refl,.refl,.nilSl,tv⟩) (.bool (by rw [hg];rfl)))
  have hne:(Nn g.txs i).id≠id:=by simpa using hc1
  refine Yi (Zk (Za (rZ G (qp r1 (qR rr qZ)) J [11,10,9,5,4,1] [103,102,101,0] fun G=>?_)))
  replace G:=G.ent (i:=11) (s':=.pv (.int .i64 ((i+1:Nat):Int))) O (.int (Zh ow))
  obtain ⟨F,G⟩:=G.nM [10,9,5,4,1,11] [102,101,0]
  exact ⟨(i+1),F,⟨by omega,(fun k hk=>by rcases YV (Y6 hk) with h9 | h9;exact hq k h9;rw [h9];exact hne)⟩,G,by omega⟩
 have hil:i=g.txs.length:=by simp at hc0;omega
 have hg:ZaO g.txs id=none:=Zjo (by rw [← hil];exact hq)
 refine YA (Zj (Zj (Zw (Za (Ya (rZ G (qf (oB [] [.int .i64 0,.bool false,.slice none 0 0] [(0,1),(1,1),(2,1)] .nil) trivial qz (qs 3 102 r2 r1 qB)) J [5,4] [102,101,0] fun G=>Yg ?_))))))
 refine ZK hfr G O (.cl 102 true 3 O O (.tmp O .nil)) (.two (by rw [hg];first | exact .aggU O O | exact .aggLe O ⟨.refl,.refl,.nilSl,tv⟩) (.bool (by rw [hg];rfl)))
theorem ZoY (g:Zn) (v:ZbA) (hs:Zbd g.txs):FnP prog 43 [.agg (Zp g),.agg (ZX v)] (.bool (ZhA g v)):=by
 refine FnP.mk func43 O ntmps43 O fun B a w F J hfr G=>Ya ?_
 refine Zb G (qx 101 r1 (qx 102 r1 qB)) J [4,3,2] [102,101,0] (fun _=>rfl) (fun _=>rfl) fun τ a w F G=>?_
 try dsimp only [RS.sub,SF.sub,CF.sub,csub,Anc.sub,List.map,zCF,Zp,rTx,ZA,ZX,rInt,rOp] at G
 generalize τ 2=v2,τ 3=v3 at G
 refine Za (Ya (Ya (rZ G (qg 0 102 r1 r1 (qa 102 r1 r1 (qf (o_eql .t qi) r1 qz (qR rr (qv 2 102 O r2 r1 (qw 102 O r2 r1 (qk O (fun h=>o_eql (.w h) qi) r2 qz (qf (ZR .t .t) r2 qz qZ)))))))) J [14,4,3,2] [102,101,0] fun G=>?_)))
 refine Zc G O (fun hc0=>?_) (fun hc0=>?_)
 ·have h0:(v.tx=0∧v.nth=0):=by simpa using hc0
  have hu:ZhA g v=decide (1≤v.key∧v.key≤1048575):=by unfold ZhA;rw [Ye h0]
  refine Ya (rZ G (qg 1 102 r1 r1 (qa 102 r1 r1 (qf (ZeT .t qi) r1 qz (qR rr (qv 1 102 O r2 r1 (qw 102 O r2 r1 (qk O (fun h=>ZoQ (.w h) qi) r2 qz (qf (ZR .t .t) r2 qz (qO rr qZ))))))))) J [4,3,2] [102,101,0] fun G=>(Yg (Ze ?_)))
  refine Zt hfr G O O O (.bool (by first | (rw [hu,Ybp];done) | (rw [hu];unfold idB;rw [Ybp];done) | (unfold ZhA wcnt;rw [Yb h0,Bool.and_assoc])))
 have h0:¬ (v.tx=0∧v.nth=0):=by simpa using hc0
 have hfl:((ZaO g.txs v.tx).getD zeroT).ops.length≤1000:=by cases hf:ZaO g.txs v.tx with | none=>simp [zeroT] | some t=>exact hs.2 _ (findT_mem hf).1
 refine Yi (Za (Ya (Zb G (qe 2 101 r1 r1 (qg 0 102 r1 r1 (qa 102 r1 r1 (qf (oP (Zo8 g v.tx hs) func68 (Args.two (.pagg .t) .t)) r2 qz (qR rr (qf (Zi .t O) r1 qz (qf (Zi .t O) r1 qz (qf (oH [.int .i64 0,.bool false,.slice none 0 0] 103) trivial qz (qf (oA 3 103 .same (.conv .t .agg)) r2 r1 (qO rr qZ)))))))))) J [6,5,4,3] [103,102,101,0] (fun _=>rfl) (fun _=>rfl) fun τ a w F G=>?_)))
 try dsimp only [RS.sub,SF.sub,CF.sub,csub,Anc.sub,List.map,Zg,xL,xM,Nat.reduceAdd,xD,xE,xT,xU,xC,xN,zCF,ldSF,Zp,rTx,ZA,ZX,rInt,rOp] at G
 generalize τ 5=v5 at G
 refine Za (Ya (ZO G (qR rr (qR rr (qv 2 102 O r2 r1 (qw 102 O r2 r1 (qk O (fun h=>ZeT (.w h) qi) r2 qz (qf (ZR .t .t) r2 qz (qR rr (qk O (fun h=>oL true 3 103 .is) r2 r1 (qv 1 102 O r2 r1 (qw 102 O r2 r1 (qk O (fun h=>oP (Zex ((ZaO g.txs v.tx).getD zeroT) v.key ow) func69 (Args.two (.pagg (.w h)) (.w h))) r3 qz (qv 2 102 O r2 r1 (qw 102 O r2 r1 (qk O (fun h=>ZeT (.w h) (.w h)) r3 qz (qf (ZR .t .t) r2 qz (qO rr qZ)))))))))))))))) J [4] [103,102,101,0] O O fun a w F G=>?_))
 try dsimp only [List.map,xD,xE,xT,xU,ldSF,Zp,rTx,ZA,ZX,rInt,rOp] at G
 refine Za (Yg (Zt hfr G O O O (.bool (by first | (rw [hu,Ybp];done) | (rw [hu];unfold idB;rw [Ybp];done) | (unfold ZhA wcnt;rw [Yb h0,Bool.and_assoc])))))
theorem cloneIP_c (l:List Int) (hl:l.length≤1000000):FnP prog 22 [.sl rInt l] (.sl rInt l):=by
 refine FnP.mk func22 O ntmps22 O fun B a w F J hfr G=>Ya ?_
 refine rZ G (qC qZ) J [2,0] [0] fun G=>(Ya (Ya ?_))
 refine Zf G (qR rr (qf (ZcF Ybz .t) r1 qz qZ)) J [4,2,0] [0] O O fun a w F G=>?_
 obtain ⟨β4,hβ4,G⟩:=G.pickBool 4 rfl
 obtain ⟨F,G⟩:=G.nM [4,2,0] [0]
 refine Za (Zc G O (fun hc0=>?_) (fun hc0=>?_))
 ·have hg:l = []:=hβ4 hc0
  refine Ya (rZ G (qC qZ) J [2,0] [0] fun G=>(Yg (Ze ?_)))
  refine Zt hfr G O O O (.trans .nilSl (.sl (by rw [hg])))
 have hg:l = [] ++ l:=rfl
 refine Yi (Za (Ya (Zb G (qf (Zby (R:=rInt) (sz:=1) 101 Ybz kr) trivial qz (qR rr (qf (Z4 (sz:=1) (bs:=8) 101 (.mk' Ybz kr kr) (by intro x;rfl) .same (.sl .t) (by simp only [Yd,YS];omega) (by decide)) ⟨rfl,rfl,tv⟩ ⟨rfl,tv⟩ (qO rr qZ)))) J [2] [101,0] (fun _=>rfl) (fun _=>rfl) fun τ a w F G=>?_)))
 try dsimp only [RS.sub,SF.sub,CF.sub,csub,Anc.sub,List.map,Zg,xL,xM,Nat.reduceAdd,xD,xE,xT,xU,xC,xN,zCF,rInt] at G
 generalize τ 7=v7 at G
 refine Za (Yg ?_)
 obtain ⟨F,G⟩:=G.give 101 2 O rfl
 refine Zt hfr G O O O (.sl (by rw [hg]))
theorem Zf4 (g:Zn) (hs:Zbk g):FnG prog 48 1 [.agg (Zp g)] [.star []] (PV.self Zpt) (fun v=>[Zop (Zs 37 3 rTx g.txs) (Zs 34 2 ZA g.orders) v]):=by
 refine FnG.mk func48 O ntmps48 O kr fun B F0 a w F J hG G=>?_
 have hsl:=hs.1.1
 have hso:=hs.2.1
 obtain ⟨F,G⟩:=G.nM [0] [0]
 refine Ya (Zb G (qx 101 r1 (qf (oH [.slice none 0 0,.slice none 0 0] 102) trivial qz qZ)) J [2,1] [102,101,0] (fun _=>rfl) (fun _=>rfl) fun τ a w F G=>?_)
 try dsimp only [RS.sub,SF.sub,CF.sub,csub,Anc.sub,List.map,zCF,Zp,rTx,ZA,ZX,rInt,rOp] at G
 generalize τ 1=v1,τ 2=v2 at G
 refine Za (Ya (Zb G (qf (oH [.slice none 0 0,.slice none 0 0] 103) trivial qz qZ) J [3,2,1] [103,102,101,0] (fun _=>rfl) (fun _=>rfl) fun τ a w F G=>?_))
 try dsimp only [RS.sub,SF.sub,CF.sub,csub,Anc.sub,List.map,zCF,Zp,rTx,ZA,ZX,rInt,rOp] at G
 generalize τ 3=v3 at G
 refine Za (Ya (Ya (rZ G (qg 0 101 r1 r1 (qa 101 r1 r1 (qu YbA r1 (qJ qZ)))) J [11,10,9,3,2,1] [103,102,101,0] fun G=>Yj ?_)))
 replace G:=G.fresh 50 rfl
 replace G:=G.turn 50 O (Zbm (T:=37) (sz:=3) (R:=rTx))
 refine Zo (σ:=(Nat)×(Value)×(List TxD)) [1,2,3,9,10] [0,101,102] (fun s=>[(11,.pv (.int .i64 (s.1:Int)))]) (fun s=>[(103,.pt (.val v3) 25 [.pv (.is s.2.1),.pv (.is (.slice none 0 0))]),(50,.ob (.val s.2.1) (Zs 37 3 rTx s.2.2))]) (fun s=>s.1≤g.txs.length∧(s.2.2=g.txs.take s.1)) (fun s=>g.txs.length - s.1) ((0),(.slice none 0 0),([])) G ⟨rfl,rfl,rfl,rfl,rfl,rfl,tv⟩ ⟨rfl,rfl,rfl,rfl,rfl,tv⟩ ⟨Yr _,rfl⟩ ?_
 clear G;intro s a w F hC G
 obtain ⟨i,va,oa⟩:=s
 try dsimp only at hC
 obtain ⟨F,G⟩:=G.nM [11,10,9,3,2,1] [103,102,101,50,0]
 try dsimp only at G
 obtain ⟨hi,hq⟩:=hC
 have hol:oa.length≤i:=by rw [hq,Yf];omega
 refine Ya (rZ G (qL r2) J [12,11,10,9,3,2,1] [103,102,101,50,0] fun G=>Ya ?_)
 refine Zc G O (fun hc0=>?_) (fun hc0=>?_)
 ·have hil:i<g.txs.length:=by simp at hc0;omega
  have hio:=hil
  refine Yi (Za (Ya (Yj (Ya (Zb G (qy 3 YbA r2 (qf (oR true 3 .t) r1 qz (qf (oH [.int .i64 0,.bool false,.slice none 0 0] 104) trivial qz (qS 3 104 r2 r1 qZ)))) J [11,10,9,5,3,2,1] [104,103,102,101,50,0] (fun _=>rfl) (fun _=>rfl) fun τ a w F G=>?_)))))
  try dsimp only [RS.sub,SF.sub,CF.sub,csub,Anc.sub,List.map,Zg,xL,xM,Nat.reduceAdd,xD,xE,xT,xU,xC,xN,zCF,ldSF,Zp,rTx,ZA,ZX,rInt,rOp] at G
  generalize τ 5=v5 at G
  try simp only [Yc] at G
  refine Za (Zbb G (qg 0 103 r1 r1 (qa 103 r1 r1 (qe 3 104 r1 r1 (qf (oP (ZdJ (Nn g.txs i) (by have:=hs.1.at hio;omega)) func50 (Args.one (.pagg .t))) r1 qz (qf (Zz (sz:=3) (zs:=[.int .i64 0,.bool false,.slice none 0 0]) (r:=[(0,.tmp 18)]) (l:=[_,_,_]) YbA kr kr kr kr O O (.agg O (.conv .t .agg) kr kr .nil) O) r1 qz (qf (Z4 (sz:=3) (bs:=40) 50 (.mk' YbA kr kr) (by intro x;rfl) .is (.arr (l':=[(Nn g.txs i)]) .t) (by simp only [Yd,Yv,YS];omega) (by decide)) ⟨rfl,rfl,tv⟩ ⟨rfl,tv⟩ (qg 0 103 r1 r1 (qf (Zah 103 .adr kr kr) r2 r1 qZ)))))))) J [11,10,9,3,2,1] [104,103,102,101,50,0] (fun _=>rfl) (fun _=>rfl) fun τ a w F G=>?_)
  try dsimp only [RS.sub,SF.sub,CF.sub,csub,Anc.sub,List.map,Zg,xL,xM,Nat.reduceAdd,xD,xE,xT,xU,xC,xN,zCF,ldSF,Zp,rTx,ZA,ZX,rInt,rOp] at G
  generalize τ 20=v20 at G
  refine Zk (Za (rZ G (qp r1 (qR rr qZ)) J [11,10,9,3,2,1] [104,103,102,101,50,0] fun G=>?_))
  replace G:=G.ent (i:=11) (s':=.pv (.int .i64 ((i+1:Nat):Int))) O (.int (Zh ow))
  obtain ⟨F,G⟩:=G.nM [10,9,3,2,1,11] [102,101,0,50,103]
  exact ⟨((i+1),_,_),F,⟨by omega,(by rw [ZF hil,← hq])⟩,G,by omega⟩
 have hil:i=g.txs.length:=by simp at hc0;omega
 have hqa:oa=g.txs:=by rw [hq,hil,Y7]
 subst hqa
 refine YA (Zj (Zj (Zw (Za (Ya (Ya (rZ G (qg 1 101 r1 r1 (qa 101 r1 r1 (qu YbB r1 (qJ qZ)))) J [26,25,24,3,2] [103,102,101,50,0] fun G=>Yj ?_)))))))
 replace G:=G.fresh 51 rfl
 replace G:=G.turn 51 O (Zbm (T:=34) (sz:=2) (R:=ZA))
 refine Zo (σ:=(Nat)×(Value)×(List OrdD)) [2,3,24,25] [0,50,101,102] (fun s=>[(26,.pv (.int .i64 (s.1:Int)))]) (fun s=>[(103,.pt (.val v3) 25 [.pv (.is va),.pv (.is s.2.1)]),(51,.ob (.val s.2.1) (Zs 34 2 ZA s.2.2))]) (fun s=>s.1≤g.orders.length∧(s.2.2=g.orders.take s.1)) (fun s=>g.orders.length - s.1) ((0),(.slice none 0 0),([])) G ⟨rfl,rfl,rfl,rfl,rfl,tv⟩ ⟨rfl,rfl,rfl,rfl,rfl,rfl,tv⟩ ⟨Yr _,rfl⟩ ?_
 clear G;intro s a w F hC G
 obtain ⟨i,vb,ob⟩:=s
 try dsimp only at hC
 obtain ⟨F,G⟩:=G.nM [26,25,24,3,2] [103,102,101,51,50,0]
 try dsimp only at G
 obtain ⟨hi,hq⟩:=hC
 have hol:ob.length≤i:=by rw [hq,Yf];omega
 refine Ya (rZ G (qL r2) J [27,26,25,24,3,2] [103,102,101,51,50,0] fun G=>Ya ?_)
 refine Zc G O (fun hc1=>?_) (fun hc1=>?_)
 ·have hil:i<g.orders.length:=by simp at hc1;omega
  have hio:=hil
  refine Yi (Za (Ya (Yj (Ya (Zb G (qy 2 YbB r2 (qf (oR true 2 .t) r1 qz (qf (oH [.int .i64 0,.slice none 0 0] 105) trivial qz (qS 2 105 r2 r1 qZ)))) J [26,25,24,7,3,2] [105,103,102,101,51,50,0] (fun _=>rfl) (fun _=>rfl) fun τ a w F G=>?_)))))
  try dsimp only [RS.sub,SF.sub,CF.sub,csub,Anc.sub,List.map,Zg,xL,xM,Nat.reduceAdd,xD,xE,xT,xU,xC,xN,zCF,ldSF,Zp,rTx,ZA,ZX,rInt,rOp] at G
  generalize τ 7=v7 at G
  try simp only [Yc] at G
  refine Za (Zbb G (qg 1 103 r1 r1 (qa 103 r1 r1 (qg 0 105 r1 r1 (qa 105 r1 r1 (qg 1 105 r1 r1 (qa 105 r1 r1 (qf (oP (cloneIP_c (Nn g.orders i).txs (by have:=hs.2.at hio;omega)) func22 (Args.one .t)) r1 qz (qf (oB [(0,.tmp 33),(1,.tmp 36)] [.int .i64 0,.slice none 0 0] [(0,1),(1,1)] (.one O .t one_int kr (.one O .t one_sl kr .nil))) r2 qz (qf (Zz (sz:=2) (zs:=[.int .i64 0,.slice none 0 0]) (r:=[(0,.tmp 37)]) (l:=[_,_]) YbB kr kr kr kr O O (.agg O .t kr kr .nil) O) r1 qz (qf (Z4 (sz:=2) (bs:=32) 51 (.mk' YbB kr kr) (by intro x;rfl) .is (.arr (l':=[(Nn g.orders i)]) .t) (by simp only [Yd,Yv,YS];omega) (by decide)) ⟨rfl,rfl,tv⟩ ⟨rfl,tv⟩ (qg 1 103 r1 r1 (qf (Zah 103 .adr kr kr) r2 r1 qZ)))))))))))) J [26,25,24,3,2] [105,103,102,101,51,50,0] (fun _=>rfl) (fun _=>rfl) fun τ a w F G=>?_)
  try dsimp only [RS.sub,SF.sub,CF.sub,csub,Anc.sub,List.map,Zg,xL,xM,Nat.reduceAdd,xD,xE,xT,xU,xC,xN,zCF,ldSF,Zp,rTx,ZA,ZX,rInt,rOp] at G
  generalize τ 39=v39 at G
  refine Zk (Za (rZ G (qp r1 (qR rr qZ)) J [26,25,24,3,2] [105,103,102,101,51,50,0] fun G=>?_))
  replace G:=G.ent (i:=26) (s':=.pv (.int .i64 ((i+1:Nat):Int))) O (.int (Zh ow))
  obtain ⟨F,G⟩:=G.nM [25,24,3,2,26] [102,101,50,0,51,103]
  exact ⟨((i+1),_,_),F,⟨by omega,(by rw [ZF hil,← hq])⟩,G,by omega⟩
 have hil:i=g.orders.length:=by simp at hc1;omega
 have hqb:ob=g.orders:=by rw [hq,hil,Y7]
 subst hqb
 refine YA (Zj (Zj (Zw (Za (Ya (rZ G (qe 2 103 r1 r1 (qs 2 102 r2 r1 qZ)) J [2] [103,102,101,51,50,0] fun G=>Yg ?_))))))
 have G:=G.fresh 1 rfl
 obtain ⟨F,G⟩:=G.push 1 51 O O O rfl
 obtain ⟨F,G⟩:=G.push 1 50 O O O rfl
 refine Zpl hG G O (.cl 102 true 2 O O .nil) (.one (.aggU O O)) rfl
theorem Zn3 (l:List Int) (tx:Int) (hl:l.length≤1000000):FnP prog 80 [.sl rInt l,.int .i64 tx] (.sl rInt (withO l tx)):=by
 refine FnP.mk func80 O ntmps80 O fun B a w F J hfr G=>?_
 have hll:=Sat.lenSl G (i:=0) rfl
 refine Ya (rZ G (qC qZ) J [4,1,0] [0] fun G=>Ya ?_)
 replace G:=G.fresh 101 rfl
 refine Zb G (qR rr (qf (ZbW 101 (Zce l hl) func22 O kr (Args.one .t) Zbh) r1 r1 (qO rr qZ))) J [5,4,1,0] [101,0] (fun _=>rfl) (fun _=>rfl) fun τ a w F G=>?_
 try dsimp only [RS.sub,SF.sub,CF.sub,csub,Anc.sub,List.map,rInt] at G
 generalize τ 7=v7 at G
 refine Za (Ya (Ya (rZ G (qR rr (qR rr (qf (oP (Zjh l tx) func116 (Args.two .t .t)) r2 qz qZ))) J [10,5,4,1] [101,0] fun G=>?_)))
 refine Zc G O (fun hc0=>?_) (fun hc0=>?_)
 ·have hm:tx ∈ l:=by simpa using hc0
  have hg:l=withO l tx:=(Ye hm).symm
  refine Ya (rZ G (qR rr (qO rr qZ)) J [5,4,1] [101,0] fun G=>(Yg (Ze ?_)))
  obtain ⟨F,G⟩:=G.give 101 4 O rfl
  refine Zt hfr G O O O (.sl hg)
 have hm:¬ tx ∈ l:=by simpa using hc0
 have hg:l ++ [tx] = withO l tx:=(Yb hm).symm
 refine Yi (Za (Ya (Zb G (qR rr (qR rr (qf (Zz (sz:=1) (zs:=[.int .i64 0]) (r:=[(0,.tmp 13)]) (l:=[_]) Ybz kr kr kr kr O O (.one O .t one_int kr .nil) O) r1 qz (qf (Z4 (sz:=1) (bs:=8) 101 (.mk' Ybz kr kr) (by intro x;rfl) .is (.arr (l':=[_]) .t) (by simp only [Yd,Yv,YS,Yf,Yt];omega) (by decide)) ⟨rfl,rfl,tv⟩ ⟨rfl,tv⟩ (qO rr qZ))))) J [4] [101,0] (fun _=>rfl) (fun _=>rfl) fun τ a w F G=>?_)))
 try dsimp only [RS.sub,SF.sub,CF.sub,csub,Anc.sub,List.map,Zg,xL,xM,Nat.reduceAdd,xD,xE,xT,xU,xC,xN,zCF,rInt] at G
 generalize τ 15=v15 at G
 refine Za (Yg ?_)
 obtain ⟨F,G⟩:=G.give 101 4 O rfl
 refine Zt hfr G O O O (.sl hg)
theorem Zjb (x tx:Int):FnP prog 118 [.int .i64 x,.ref [.int .i64 tx]] (.bool (decide (x=tx))):=by
 refine FnP.mk func118 O ntmps118 O fun B a w F J hfr G=>Ya ?_
 refine rZ G qB J [3,1,0] [0] fun G=>Ya ?_
 refine rZ G (qR rr (qf (oR false 1 .t) r1 qz (qf (o_eql .t .t) r2 qz (qO rr qZ)))) J [3] [0] fun G=>Yg ?_
 refine Zt hfr G O O O .refl
theorem ZjP (l:List Int) (tx:Int) (hl:l.length≤1000000):FnP prog 81 [.sl rInt l,.int .i64 tx] (.sl rInt (withoutO l tx)):=by
 refine FnP.mk func81 O ntmps81 O fun B a w F J hfr G=>?_
 have hll:=Sat.lenSl G (i:=0) rfl
 refine Ya (Zb G (qf (Zh6 101 .t one_int) r1 qz (qC qZ)) J [4,3,0] [101,0] (fun _=>rfl) (fun _=>rfl) fun τ a w F G=>?_)
 try dsimp only [RS.sub,SF.sub,CF.sub,csub,Anc.sub,List.map,zCF,rInt] at G
 generalize τ 3=v3 at G
 obtain ⟨F,G⟩:=G.giveRef 101 3 O O rfl
 obtain ⟨F,G⟩:=G.nM [4,3,0] [0]
 try dsimp only [Go.Gm.unCF] at G
 refine Za (Ya ?_)
 replace G:=G.fresh 102 rfl
 refine Zhy G kr (nM O O (nf (ZbW 102 (Zce l hl) func22 O kr (Args.one .t) Zbh) r1 r1 (nn [6,4,3] [102,0] O O (nf (ZaV (Args.one .t)) r1 trivial (nf (ZmB 6 102 (fun v=>ZnB _ l hl (fun x=>decide (x=tx)) 118 f118 [.ref [.int .i64 tx]] func118 O kr (fun x=>Zjb x tx)) func117 O kr (Zjn.two .same (.of .t)) Zbh) r2 r1 (nn [8,4] [102,0] O O (nN O O ZJ.nil))))))) kr (by rw [J];kernel_rfl) fun a w F G=>?_
 replace G:=G.sub
 obtain ⟨F,G⟩:=G.nM [4] [102,0]
 try dsimp only [RS.sub,SF.sub,CF.sub,csub,Anc.sub,List.map,rInt] at G
 generalize Act.tau a 8=v8 at G
 refine Za (Yg ?_)
 obtain ⟨F,G⟩:=G.give 102 4 O rfl
 refine Zt hfr G O O O (.sl (by simp [withoutO]))
end Go.Proofs.YthfoojdlcjfmcaaGreatDoor
