/- Texts put together. No condition beyond those that each theorem says. -/
import Derived.Test.YtlkpllemoepamaaGreatJ2
import Derived.Test.YtlkpllemoepamaaGreatLibG
import Derived.Test.YtlkpllemoepamaaGreatJ1
namespace Go.Proofs.YtlkpllemoepamaaGreat
open Go Go.Gm Tryz
set_option linter.unusedVariables false
set_option linter.unusedSimpArgs false
set_option maxHeartbeats 4000000
set_option maxRecDepth 8000
theorem Ztl {u v:OrdD} : (decide (u.key=v.key) && decide (u.txs=v.txs))=decide (u=v):=by
 cases u;cases v
 rw [Yan]
 simp
def zeroT:TxD:=⟨0,false,[]⟩
def Za0 (l:List TxD):Prop:=l.length≤1000 ∧ ∀ t ∈ l,t.ops.length≤1000
def Zgu (l:List OrdD):Prop:=l.length≤4000 ∧ ∀ o ∈ l,o.txs.length≤1000
def Zbc (h:Zt):Prop:=Za0 h.txs∧Zgu h.orders
theorem Za0.at {l:List TxD} (h:Za0 l) {i:Nat} (hi:i<l.length):(Nn l i).ops.length≤1000:=h.2 _ (nth_mem hi)
theorem Zgu.at {l:List OrdD} (h:Zgu l) {i:Nat} (hi:i<l.length):(Nn l i).txs.length≤1000:=h.2 _ (nth_mem hi)
def Zaj (l:List TxD) (id:Int):Option TxD:=l.find? fun t=>decide (t.id=id)
theorem Zrj {l:List TxD} {id:Int} {i:Nat} (hi:i<l.length) (h:(Nn l i).id=id) (hq:∀ k,k<i→(Nn l k).id≠id):Zaj l id=some (Nn l i):=by
 unfold Zaj
 rw [List.find?_eq_some_iff_getElem]
 refine ⟨by simpa using h,i,hi,(nth_eq hi).symm,fun j hj=>?_⟩
 have:=hq j hj
 rw [nth_eq ow] at this
 simpa using this
theorem Zmh {l:List TxD} {id:Int} (hq:∀ k,k<l.length→(Nn l k).id≠id):Zaj l id=none:=by
 unfold Zaj
 rw [YbH]
 intro x hx
 obtain ⟨k,hk,e⟩:=Yaf hx
 have:=hq k hk
 rw [nth_eq hk,e] at this
 simpa using this
theorem findT_mem {l:List TxD} {id:Int} {t:TxD} (h:Zaj l id=some t):t ∈ l∧t.id=id:=⟨List.mem_of_find?_eq_some h,by have:=List.find?_some h;simpa using this⟩
def Zsi (h:Zt) (v:Zcg):Bool:=if v.tx=0∧v.nth=0 then decide (1≤v.key∧v.key≤1048575) else (Zaj h.txs v.tx).isSome && (decide (1≤v.nth) && decide (v.nth≤(wcnt ((Zaj h.txs v.tx).getD zeroT).ops v.key:Int)))
def ZnT (h:Zt) (t:TxD):Bool:=(ZpK t).all (Zsi h)
def Zbu (t:TxD):List Int:=Zbq ((t.ops.filter fun o=>!o.read).map OpD.key)
theorem ZdX {t:TxD} {k:Int} : k ∈ Zbu t ↔ 0<wcnt t.ops k:=by
 unfold Zbu
 rw [(ZR _).2,Yu]
 unfold wcnt
 rw [List.length_pos_iff_exists_mem]
 constructor
 ·rintro ⟨o,ho,e⟩
  rw [Y4] at ho
  exact ⟨o,by rw [Y4];exact ⟨ho.1,by simp [e];simpa using ho.2⟩⟩
 ·rintro ⟨o,ho⟩
  rw [Y4] at ho
  simp at ho
  exact ⟨o,by rw [Y4];simp [ho.1,ho.2.1],ho.2.2⟩
theorem Zh6 (t:TxD):(Zbu t).length≤t.ops.length:=Y5 (Zf4 _) (by rw [YM];exact Yai _ _)
def Z0 (l:List TxD) (k:Int):List Int:=(l.filter fun t=>t.done && decide (0<wcnt t.ops k)).map TxD.id
theorem ZeC (l:List TxD) (k:Int):(Z0 l k).length≤l.length:=by unfold Z0;rw [YM];exact Yai _ _
theorem ZdF {l:List TxD} {i:Nat} (hi:i<l.length) (k:Int):Z0 (l.take (i+1)) k=Z0 (l.take i) k++if (Nn l i).done=true∧0<wcnt (Nn l i).ops k then [(Nn l i).id] else []:=by
 unfold Z0
 rw [Zr hi,Yae,YQ]
 congr 1
 by_cases h:(Nn l i).done=true∧0<wcnt (Nn l i).ops k
 ·rw [Yf h,Yar (by simp [h.1,h.2])];rfl
 ·rw [Yc h,Yaw (by simp;intro e;exact Nat.eq_zero_of_not_pos fun e2=>h ⟨e,e2⟩)];rfl
def Zco (l:List TxD):List Int:=Zbq ((l.filter fun t=>t.done).flatMap Zbu)
theorem ZqS {l:List TxD} (h:Za0 l) (i:Nat):(Zco (l.take i)).length≤1000*i:=by
 unfold Zco
 refine Y5 (Zf4 _) ?_
 have key:∀ l:List TxD,(∀ t ∈ l,t.ops.length≤1000)→((l.filter fun t=>t.done).flatMap Zbu).length≤1000*l.length:=by
  intro l
  induction l with
  | nil=>intro _;simp
  | cons t l ih=>
   intro h
   have h1:=ih fun x hx=>h x (by simp [hx])
   have h2:=h t (by simp)
   have h3:=Zh6 t
   by_cases hd:t.done=true
   ·rw [Yar (by simpa using hd),Y1,Yd,Yl]
    omega
   ·rw [Yaw (by simpa using hd),Yl]
    omega
 have h1:=key (l.take i) fun t ht=>h.2 t (YaS ht)
 have h2:(l.take i).length≤i:=by rw [Yj];omega
 exact Y5 h1 (Ybj _ h2)
theorem Zpa {l:List TxD} (h:Za0 l):(Zco l).length≤1000000:=by
 have h1:=ZqS h l.length
 rw [YD] at h1
 have:=h.1
 omega
theorem ZcP {l:List TxD} {k:Int} : k ∈ Zco l ↔ Z0 l k≠[]:=by
 unfold Zco
 rw [(ZR _).2,YaK]
 unfold Z0
 rw [ne_eq,List.map_eq_nil_iff,List.filter_eq_nil_iff]
 constructor
 ·rintro ⟨t,ht,hk⟩ hn
  rw [Y4] at ht
  have:=hn t ht.1
  simp [ht.2] at this
  have:=ZdX.1 hk
  simp_all
 ·intro hn
  simp only [Classical.not_forall] at hn
  obtain ⟨t,ht,h2⟩:=hn
  simp at h2
  exact ⟨t,by rw [Y4];exact ⟨ht,by simpa using h2.1⟩,ZdX.2 (Nat.pos_of_ne_zero h2.2)⟩
def ZmM (h:Zt) (i:Nat):Prop:=(0<i→(Nn h.txs (i - 1)).id<(Nn h.txs i).id)∧ZbV (Nn h.txs i)=0∧ZnT h (Nn h.txs i)=true
instance (h:Zt) (i:Nat):Decidable (ZmM h i):=by unfold ZmM;exact inferInstance
def Zqt (h:Zt) (i:Nat):Prop:=(Nn h.orders i).key=Nn (Zco h.txs) i∧(Nn h.orders i).txs.Perm (Z0 h.txs (Nn h.orders i).key)
instance (h:Zt) (i:Nat):Decidable (Zqt h i):=by unfold Zqt;exact inferInstance
def ZQ (h:Zt):Prop:=h.txs.length≤4096∧(∀ i,i<h.txs.length→ZmM h i)∧h.orders.length=(Zco h.txs).length ∧ ∀ i,i<h.orders.length→Zqt h i
instance (h:Zt):Decidable (ZQ h):=by unfold ZQ;exact inferInstance
def ZfP (h:Zt) (i:Nat):Prop:=(0<i→(Nn h.orders (i - 1)).key<(Nn h.orders i).key)∧(Nn h.orders i).txs≠[]∧(Nn h.orders i).txs.Perm (Z0 h.txs (Nn h.orders i).key)
theorem Ze7:∀ {l:List Int},(∀ i,i<l.length→0<i→Nn l (i - 1)<Nn l i)→Zdg l
 | [],_=>List.Pairwise.nil
 | [x],_=>by simp
 | x :: y :: l,h=>by
  have ih:=Ze7 (l:=y :: l) fun i hi h0=>by
   have:=h (i+1) (by simpa using hi) ow
   obtain ⟨j,rfl⟩:∃ j,i=j+1:=⟨i - 1,by omega⟩
   have hj:j<l.length:=by simpa using hi
   rw [nth_eq (l:=x :: y :: l) (by simp;omega),nth_eq (l:=x :: y :: l) (by simp;omega)] at this
   rw [nth_eq (l:=y :: l) (by simp;omega),nth_eq (l:=y :: l) (by simp;omega)]
   exact this
  have h1:=h 1 (by simp) ow
  rw [nth_eq (by simp),nth_eq (by simp)] at h1
  simp at h1
  have ih2:=Yp.1 ih
  refine Yp.2 ⟨fun z hz=>?_,ih⟩
  rcases Yi.1 hz with rfl | hz
  ·exact h1
  ·have:=ih2.1 z hz;omega
theorem ZsO {l:List Int} (h:Zdg l) {i:Nat} (hi:i<l.length) (h0:0<i):Nn l (i - 1)<Nn l i:=by
 rw [nth_eq hi,nth_eq ow]
 exact Yaz.1 h (i - 1) i ow hi ow
theorem Zj8:∀ {b a:List Int},Zdg a→Zdg b→(∀ x ∈ a,x ∈ b)→a.length≤b.length∧(a.length=b.length→a=b)
 | [],a,_,_,h=>by
  have:a = []:=List.eq_nil_iff_forall_not_mem.2 fun x hx=>by cases h x hx
  subst this;simp
 | y :: b,[],_,_,_=>⟨by simp,fun h=>by simp at h⟩
 | y :: b,x :: a,ha,hb,h=>by
  have ha':=Yp.1 ha
  have hb':=Yp.1 hb
  by_cases e:x=y
  ·subst e
   have ih:=Zj8 (b:=b) (a:=a) ha'.2 hb'.2 fun z hz=>by
    rcases Yi.1 (h z (by simp [hz])) with e | e
    ·have:=ha'.1 z hz;omega
    ·exact e
   exact ⟨by simp;exact ih.1,fun hl=>by rw [ih.2 (by simpa using hl)]⟩
  ·have hx:y<x:=by
    rcases Yi.1 (h x (by simp)) with e2 | e2
    ·exact absurd e2 e
    ·exact hb'.1 x e2
   have ih:=Zj8 (b:=b) (a:=x :: a) ha hb'.2 fun z hz=>by
    rcases Yi.1 (h z hz) with e2 | e2
    ·rcases Yi.1 hz with e3 | e3
     ·omega
     ·have:=ha'.1 z e3;omega
    ·exact e2
   exact ⟨by have:=ih.1;simp at this ⊢;omega,fun hl=>by have:=ih.1;simp at this hl;omega⟩
theorem Zcx {α β:Type} [Inhabited α] [Inhabited β] {f:α→β} {l:List α} {i:Nat} (h:i<l.length):Nn (l.map f) i=f (Nn l i):=by
 rw [nth_eq (by simpa using h),nth_eq h];simp
theorem Zc6 (h:Zt):(h.orders.length=(Zco h.txs).length ∧ ∀ i,i<h.orders.length→ZfP h i) ↔ (h.orders.length=(Zco h.txs).length ∧ ∀ i,i<h.orders.length→Zqt h i):=by
 have hK:Zdg (Zco h.txs):=(ZR _).1
 constructor
 ·rintro ⟨hl,hq⟩
  refine ⟨hl,?_⟩
  have hO:Zdg (h.orders.map OrdD.key):=Ze7 fun i hi h0=>by
   have hi':i<h.orders.length:=by simpa using hi
   rw [Zcx ow,Zcx hi']
   exact (hq i hi').1 h0
  have hsub:∀ x ∈ h.orders.map OrdD.key,x ∈ Zco h.txs:=fun x hx=>by
   obtain ⟨o,ho,rfl⟩:=Yu.1 hx
   obtain ⟨k,hk,e⟩:=Yaf ho
   have:=hq k hk
   unfold ZfP at this
   rw [nth_eq hk,e] at this
   rw [ZcP]
   intro e2
   rw [e2] at this
   exact this.2.1 (List.Perm.eq_nil this.2.2)
  have he:=(Zj8 hO hK hsub).2 (by simpa using hl)
  intro i hi
  refine ⟨?_,(hq i hi).2.2⟩
  rw [← he,Zcx hi]
 ·rintro ⟨hl,hq⟩
  refine ⟨hl,fun i hi=>?_⟩
  have hin:(Nn h.orders i).key ∈ Zco h.txs:=by rw [(hq i hi).1];exact nth_mem ow
  refine ⟨fun h0=>?_,fun e=>?_,(hq i hi).2⟩
  ·rw [(hq i hi).1,(hq (i - 1) ow).1]
   exact ZsO hK ow h0
  ·have:=(hq i hi).2
   rw [e] at this
   exact ZcP.1 hin this.symm.eq_nil
theorem Zgj {h:Zt} (hb:4096<h.txs.length):false=decide (ZQ h):=(YC fun hr=>by have:=hr.1;omega).symm
theorem ZiA {h:Zt} {i:Nat} (hi:i<h.txs.length) (hb:¬ ZmM h i):false=decide (ZQ h):=(YC fun hr=>hb (hr.2.1 i hi)).symm
theorem Zhr {h:Zt} (hb:h.orders.length≠(Zco h.txs).length):false=decide (ZQ h):=(YC fun hr=>hb hr.2.2.1).symm
theorem Zgh {h:Zt} {i:Nat} (hi:i<h.orders.length) (hb:¬ ZfP h i):false=decide (ZQ h):=(YC fun hr=>hb (((Zc6 h).2 hr.2.2).2 i hi)).symm
theorem ZjV {h:Zt} (h1:h.txs.length≤4096) (h2:∀ i,i<h.txs.length→ZmM h i) (h3:h.orders.length=(Zco h.txs).length) (h4:∀ i,i<h.orders.length→ZfP h i):true=decide (ZQ h):=(Yab ⟨h1,h2,(Zc6 h).1 ⟨h3,h4⟩⟩).symm
def Zs1 (l:List Int):Option (List Int):=if l = [] then none else some l
theorem ZkO (l:List Int):(Zs1 l).getD [] = l:=by
 unfold Zs1
 split
 ·rename_i h;rw [h];rfl
 ·rfl
def WrL (es:List (GE Int (List Int))) (l:List TxD):Prop:=GNd es ∧ ∀ k,gGet k es=Zs1 (Z0 l k)
def WrV (es:List (GE Int (Value×List Int))) (l:List TxD) (id:Int) (ks:List Int):Prop:=GNd es ∧ ∀ k,(gGet k es).map (·.2)=Zs1 (Z0 l k++if k ∈ ks then [id] else [])
theorem ZtE {id:Int} : WrV [] [] id []:=⟨by simp [GNd],fun k=>by simp [gGet,Z0,Zs1]⟩
theorem Zqw {es:List (GE Int (Value×List Int))} {l:List TxD} {id:Int} (h:WrV es l id []):WrL (Zes es) l:=⟨by unfold GNd;rw [ZjQ];exact h.1,fun k=>by rw [ZgF,h.2];simp⟩
theorem Zq3 {es:List (GE Int (Value×List Int))} {l:List TxD} {id id':Int} (h:WrV es l id []):WrV es l id' []:=⟨h.1,fun k=>by rw [h.2];simp⟩
theorem ZsG {es:List (GE Int (Value×List Int))} {l:List TxD} {i:Nat} {id:Int} (h:WrV es (l.take i) id []) (hi:i<l.length) (hd:(Nn l i).done=false):WrV es (l.take (i+1)) id []:=⟨h.1,fun k=>by rw [h.2,ZdF hi];simp [hd]⟩
theorem Zt1 {es:List (GE Int (Value×List Int))} {l:List TxD} {i:Nat} {id:Int} (h:WrV es (l.take i) (Nn l i).id (Zbu (Nn l i))) (hi:i<l.length) (hd:(Nn l i).done=true):WrV es (l.take (i+1)) id []:=⟨h.1,fun k=>by
 rw [h.2,ZdF hi]
 congr 1
 simp only [YbR,Yo,YP]
 congr 1
 by_cases hk:k ∈ Zbu (Nn l i)
 ·rw [Yf hk,Yf ⟨hd,ZdX.1 hk⟩]
 ·rw [Yc hk,Yc fun h9=>hk (ZdX.2 h9.2)]⟩
theorem Zsy {es:List (GE Int (Value×List Int))} {l:List TxD} {id:Int} {ks:List Int} {j:Nat} (h:WrV es l id (ks.take j)) (hn:ks.Nodup) (hj:j<ks.length):((gGet (Nn ks j) es).getD ZhT).2=Z0 l (Nn ks j):=by
 have h1:=h.2 (Nn ks j)
 have hni:Nn ks j ∉ ks.take j:=fun hm=>by
  rw [nth_eq hj] at hm
  obtain ⟨k,hk,e⟩:=Yaf hm
  rw [Yj] at hk
  rw [List.getElem_take] at e
  have h3:=Yaz.1 hn k j ow hj ow
  exact h3 e
 rw [Yc hni,YP] at h1
 have h2:=ZkO (Z0 l (Nn ks j))
 rw [← h1] at h2
 rw [← h2]
 cases gGet (Nn ks j) es <;> rfl
theorem ZsS {es:List (GE Int (Value×List Int))} {l:List TxD} {id:Int} {ks:List Int} {j ck:Nat} {v:Value} (h:WrV es l id (ks.take j)) (hn:ks.Nodup) (hj:j<ks.length):WrV (gPut (Nn ks j) (v,((gGet (Nn ks j) es).getD ZhT).2 ++ [id]) (es,ck)).1 l id (ks.take (j+1)):=⟨GNd.put h.1,fun k=>by
 rw [Zc1,Zsy h hn hj,Zr hj]
 by_cases e:k=Nn ks j
 ·subst e
  rw [Yf rfl,Yf (by simp)]
  simp [Zs1]
 ·rw [Yc e,h.2]
  simp [e]⟩
theorem ZuL {es:List (GE Int (List Int))} {l:List TxD} (h:WrL es l) (k:Int):(gGet k es).getD [] = Z0 l k:=by rw [h.2,ZkO]
theorem Zu3 {es:List (GE Int (List Int))} {l:List TxD} (h:WrL es l):es.length=(Zco l).length:=by
 have h1:(es.map (·.key)).Perm (Zco l):=by
  refine (List.perm_ext_iff_of_nodup h.1 ((ZR _).1.imp fun h=>Int.ne_of_lt h)).2 fun k=>?_
  rw [← ZeU,h.2,show (k ∈ Zbq ((l.filter fun t=>t.done).flatMap Zbu)) ↔ Z0 l k≠[] from ZcP]
  unfold Zs1
  split <;> simp_all
 simpa using h1.length_eq
theorem ZfQ (t:TxD):(Zbu t).Nodup:=(ZR _).1.imp fun h=>Int.ne_of_lt h
theorem Zsj {α:Type} {R:α→List PV} {w:World} {y:Ys} : (PV.sl R ([]:List α)).p (.slice none 0 0) w y:=⟨none,0,rfl,YO _,by unfold maxLen;omega,.inl rfl⟩
theorem ZkT (t:TxD) (hl:t.ops.length≤1000000):FnP prog 62 [.agg (rTx t)] (.agg (rTx t)):=by
 refine FnP.mk func62 rfl ntmps62 rfl fun B a w F V hfr G=>Ya ?_
 refine Zb G (qx 101 r1 (qf (oH [.int .i64 0,.bool false,.slice none 0 0] 102) trivial qz qZ)) V [2,1] [102,101,0] (fun _=>rfl) (fun _=>rfl) fun τ a w F G=>?_
 try dsimp only [RS.sub,SF.sub,CF.sub,csub,Anc.sub,List.map,zCF,Zs,rTx,ZP,ZS,rInt,rOp] at G
 generalize τ 1=v1 at G
 generalize τ 2=v2 at G
 refine Za (Ya ?_)
 replace G:=G.fresh 103 rfl
 refine Zb G (qg 2 101 r1 r1 (qa 101 r1 r1 (qf (Zav 103 (Zq9 t.ops hl) func102 rfl kr (Args.one .t) pvOne1) r1 r1 (qg 2 101 r1 r1 (qf (o_storeS 101 .adr kr kr) r2 r1 qZ))))) V [2,1] [103,102,101,0] (fun _=>rfl) (fun _=>rfl) fun τ a w F G=>?_
 try dsimp only [RS.sub,SF.sub,CF.sub,csub,Anc.sub,List.map,Ze,xL,xM,Nat.reduceAdd,xD,xE,xT,xU,xC,xN,zCF,ldSF,Zs,rTx,ZP,ZS,rInt,rOp] at G
 generalize τ 5=v5 at G
 obtain ⟨F,G⟩:=G.giveCell 103 101 2 rfl rfl rfl rfl rfl
 try dsimp only [List.set] at G
 obtain ⟨F,G⟩:=G.nM [2,1] [102,101,0]
 refine Za (Ya (rZ G (qe 3 101 r1 r1 (qs 3 102 r2 r1 qZ)) V [2] [102,101,0] fun G=>Yh ?_))
 refine Z2 hfr G rfl (.cl 102 true 3 rfl rfl .nil) (.one (.aggU rfl rfl))
theorem Zsz (g:Zt) (id:Int) (hs:Za0 g.txs):FnP prog 28 [.agg (Zs g),.int .i64 id] (.tup [.agg (rTx ((Zaj g.txs id).getD zeroT)),.bool (Zaj g.txs id).isSome]):=by
 refine FnP.mk func28 rfl ntmps28 rfl fun B a w F V hfr G=>?_
 have hsl:=hs.1
 refine Ya (Zb G (qx 101 r1 (qf (oH [.int .i64 0,.bool false,.slice none 0 0] 102) trivial qz qB)) V [5,4,2,1] [102,101,0] (fun _=>rfl) (fun _=>rfl) fun τ a w F G=>?_)
 try dsimp only [RS.sub,SF.sub,CF.sub,csub,Anc.sub,List.map,zCF,Zs,rTx,ZP,ZS,rInt,rOp] at G
 generalize τ 2=v2 at G
 generalize τ 4=v4 at G
 refine Za (Ya (Ya (rZ G (qg 0 101 r1 r1 (qa 101 r1 r1 (qu underlying22 r1 (qJ qZ)))) V [11,10,9,5,4,1] [102,101,0] fun G=>Yg ?_)))
 refine Zl (σ:=(Nat)) [1,4,5,9,10] [0,101,102] (fun s=>[(11,.pv (.int .i64 (s:Int)))]) (fun s=>[]) (fun s=>s≤g.txs.length∧(∀ k,k<s→(Nn g.txs k).id≠id)) (fun s=>g.txs.length - s) (0) G ⟨rfl,rfl,rfl,rfl,rfl,rfl,tv⟩ ⟨rfl,rfl,rfl,tv⟩ ⟨Yv _,fun k hk=>absurd hk (YX k)⟩ ?_
 clear G;intro i a w F hC G
 try dsimp only at hC
 obtain ⟨F,G⟩:=G.nM [11,10,9,5,4,1] [102,101,0]
 try dsimp only at G
 obtain ⟨hi,hq⟩:=hC
 refine Ya (rZ G (qL r2) V [12,11,10,9,5,4,1] [102,101,0] fun G=>Ya ?_)
 refine Zc G rfl (fun hc0=>?_) (fun hc0=>?_)
 ·have hil:i<g.txs.length:=by simp at hc0;omega
  refine Ye (Za (Ya (Yg (Ya (Zb G (qy 3 underlying22 r2 (qf (oR true 3 .t) r1 qz (qf (oH [.int .i64 0,.bool false,.slice none 0 0] 103) trivial qz (qS 3 103 r2 r1 qZ)))) V [11,10,9,7,5,4,1] [103,102,101,0] (fun _=>rfl) (fun _=>rfl) fun τ a w F G=>?_)))))
  try dsimp only [RS.sub,SF.sub,CF.sub,csub,Anc.sub,List.map,Ze,xL,xM,Nat.reduceAdd,xD,xE,xT,xU,xC,xN,zCF,ldSF,Zs,rTx,ZP,ZS,rInt,rOp] at G
  generalize τ 7=v7 at G
  try simp only [Yb] at G
  refine Za (Ya (rZ G (qg 0 103 r1 r1 (qa 103 r1 r1 (qR rr (qf (o_eql .t .t) r2 qz qZ)))) V [18,11,10,9,7,5,4,1] [103,102,101,0] fun G=>?_))
  refine Zc G rfl (fun hc1=>?_) (fun hc1=>?_)
  ·have hg:Zaj g.txs id=some (Nn g.txs i):=Zrj hil (by simpa using hc1) hq
   refine Ya (rZ G (qe 3 103 r1 r1 (qf (oP (ZkT (Nn g.txs i) (by have:=hs.at hil;omega)) func62 (Args.one (.pagg .t))) r1 qz (qf (oA 3 102 .is (.conv .t .agg)) r2 r1 qB))) V [11,10,9,5,4,1] [103,102,101,0] fun G=>(Yh (Zu (Zk (Zk (Zu (Zk ?_)))))))
   refine Z2 hfr G rfl (.cl 102 true 3 rfl rfl (.tmp rfl .nil)) (.two (by rw [hg];first | exact .aggU rfl rfl | exact .aggLe rfl ⟨.refl,.refl,.nilSl,tv⟩) (.bool (by rw [hg];rfl)))
  have hne:(Nn g.txs i).id≠id:=by simpa using hc1
  refine Ye (Zj (Za (rZ G (qp r1 (qR rr qZ)) V [11,10,9,5,4,1] [103,102,101,0] fun G=>?_)))
  replace G:=G.ent (i:=11) (s':=.pv (.int .i64 ((i+1:Nat):Int))) rfl (.int (Zd ow))
  obtain ⟨F,G⟩:=G.nM [10,9,5,4,1,11] [102,101,0]
  exact ⟨(i+1),F,⟨by omega,(fun k hk=>by rcases YS (YY hk) with h9 | h9;exact hq k h9;rw [h9];exact hne)⟩,G,by omega⟩
 have hil:i=g.txs.length:=by simp at hc0;omega
 have hg:Zaj g.txs id=none:=Zmh (by rw [← hil];exact hq)
 refine Yw (Zi (Zi (Zn (Za (Ya (rZ G (qf (oB [] [.int .i64 0,.bool false,.slice none 0 0] [(0,1),(1,1),(2,1)] .nil) trivial qz (qs 3 102 r2 r1 qB)) V [5,4] [102,101,0] fun G=>Yh ?_))))))
 refine Z2 hfr G rfl (.cl 102 true 3 rfl rfl (.tmp rfl .nil)) (.two (by rw [hg];first | exact .aggU rfl rfl | exact .aggLe rfl ⟨.refl,.refl,.nilSl,tv⟩) (.bool (by rw [hg];rfl)))
theorem Zvx (g:Zt) (v:Zcg) (hs:Za0 g.txs):FnP prog 90 [.agg (Zs g),.agg (ZS v)] (.bool (Zsi g v)):=by
 refine FnP.mk func90 rfl ntmps90 rfl fun B a w F V hfr G=>Ya ?_
 refine Zb G (qx 101 r1 (qx 102 r1 qB)) V [4,3,2] [102,101,0] (fun _=>rfl) (fun _=>rfl) fun τ a w F G=>?_
 try dsimp only [RS.sub,SF.sub,CF.sub,csub,Anc.sub,List.map,zCF,Zs,rTx,ZP,ZS,rInt,rOp] at G
 generalize τ 2=v2 at G
 generalize τ 3=v3 at G
 refine Za (Ya (Ya (rZ G (qg 0 102 r1 r1 (qa 102 r1 r1 (qf (o_eql .t qi) r1 qz (qR rr (qv 2 102 rfl r2 r1 (qw 102 rfl r2 r1 (qk rfl (fun h=>o_eql (.w h) qi) r2 qz (qf (ZD .t .t) r2 qz qZ)))))))) V [14,4,3,2] [102,101,0] fun G=>?_)))
 refine Zc G rfl (fun hc0=>?_) (fun hc0=>?_)
 ·have h0:(v.tx=0∧v.nth=0):=by simpa using hc0
  have hu:Zsi g v=decide (1≤v.key∧v.key≤1048575):=by unfold Zsi;rw [Yf h0]
  refine Ya (rZ G (qg 1 102 r1 r1 (qa 102 r1 r1 (qf (Zbi .t qi) r1 qz (qR rr (qv 1 102 rfl r2 r1 (qw 102 rfl r2 r1 (qk rfl (fun h=>Zj3 (.w h) qi) r2 qz (qf (ZD .t .t) r2 qz (qO rr qZ))))))))) V [4,3,2] [102,101,0] fun G=>(Yh (Zk ?_)))
  refine Zo hfr G rfl rfl rfl (.bool (by first | (rw [hu,YbY];done) | (rw [hu];unfold idB;rw [YbY];done) | (unfold Zsi wcnt;rw [Yc h0,Bool.and_assoc])))
 have h0:¬ (v.tx=0∧v.nth=0):=by simpa using hc0
 have hfl:((Zaj g.txs v.tx).getD zeroT).ops.length≤1000:=by cases hf:Zaj g.txs v.tx with | none=>simp [zeroT] | some t=>exact hs.2 _ (findT_mem hf).1
 refine Ye (Za (Ya (Zb G (qe 2 101 r1 r1 (qg 0 102 r1 r1 (qa 102 r1 r1 (qf (oP (Zsz g v.tx hs) func28 (Args.two (.pagg .t) .t)) r2 qz (qR rr (qf (Zh .t rfl) r1 qz (qf (Zh .t rfl) r1 qz (qf (oH [.int .i64 0,.bool false,.slice none 0 0] 103) trivial qz (qf (oA 3 103 .same (.conv .t .agg)) r2 r1 (qO rr qZ)))))))))) V [6,5,4,3] [103,102,101,0] (fun _=>rfl) (fun _=>rfl) fun τ a w F G=>?_)))
 try dsimp only [RS.sub,SF.sub,CF.sub,csub,Anc.sub,List.map,Ze,xL,xM,Nat.reduceAdd,xD,xE,xT,xU,xC,xN,zCF,ldSF,Zs,rTx,ZP,ZS,rInt,rOp] at G
 generalize τ 5=v5 at G
 refine Za (Ya (Zx G (qR rr (qR rr (qv 2 102 rfl r2 r1 (qw 102 rfl r2 r1 (qk rfl (fun h=>Zbi (.w h) qi) r2 qz (qf (ZD .t .t) r2 qz (qR rr (qk rfl (fun h=>oL true 3 103 .is) r2 r1 (qv 1 102 rfl r2 r1 (qw 102 rfl r2 r1 (qk rfl (fun h=>oP (Zft ((Zaj g.txs v.tx).getD zeroT) v.key ow) func29 (Args.two (.pagg (.w h)) (.w h))) r3 qz (qv 2 102 rfl r2 r1 (qw 102 rfl r2 r1 (qk rfl (fun h=>Zbi (.w h) (.w h)) r3 qz (qf (ZD .t .t) r2 qz (qO rr qZ)))))))))))))))) V [4] [103,102,101,0] rfl rfl fun a w F G=>?_))
 try dsimp only [List.map,xD,xE,xT,xU,ldSF,Zs,rTx,ZP,ZS,rInt,rOp] at G
 refine Za (Yh (Zo hfr G rfl rfl rfl (.bool (by first | (rw [hu,YbY];done) | (rw [hu];unfold idB;rw [YbY];done) | (unfold Zsi wcnt;rw [Yc h0,Bool.and_assoc])))))
theorem Zic {α:Type} [Inhabited α] {p:α→Bool} {l:List α} : decide (0≤Z3 p l)=l.any p:=by
 rcases ZbH p l with ⟨h1,h2⟩ | ⟨i,h1,h2,h3,h4⟩
 ·rw [h1,Yaj,show decide ((0:Int) ≤ -1)=false by decide,List.any_eq_false]
  intro x hx
  obtain ⟨k,hk,e⟩:=Yaf hx
  have:=h2 k hk
  rw [nth_eq hk,e] at this
  simp [this]
 ·rw [h1,show decide ((0:Int)≤(i:Int))=true by simp,Yaj,YaV]
  exact ⟨_,nth_mem h2,h3⟩
theorem ZtH {α:Type} {p:α→Bool} {l:List α} : (!l.any fun v=>!p v)=l.all p:=by
 induction l with
 | nil=>rfl
 | cons x l ih=>rw [YbZ,List.all_cons,← ih];cases p x <;> simp
theorem Zt2 (l : List Zcg) (p : Zcg → Bool) (f : FuncId) (fn : Func) (cps : List PV) (hf : prog.funcs[f]? = some fn) (hb : fn.body.isSome = true) (hnn : (fn.name == "runtime.NumGoroutine") = false) (hw : ∀ x, FnP prog f (.agg (ZS x) :: cps) (.bool (p x))) : FnP prog 138 [.sl ZS l, .clos f cps] (.int .i64 (Z3 p l)) := by
 refine FnP.mk func138 rfl ntmps138 rfl fun B a w F V hfr G=>?_
 have hll:=Sat.lenSl G (i:=0) rfl
 refine Ya (rZ G (qI qZ) V [4,1,0] [0] fun G=>(Ya (Ya ?_)))
 refine rZ G (qR rr (qu underlying139 r1 (qJ qZ))) V [8,7,4,1,0] [0] fun G=>Yg ?_
 refine Zl (σ:=(Nat)) [0,1,4,7] [0] (fun s=>[(8,.pv (.int .i64 (s:Int)))]) (fun s=>[]) (fun s=>s≤l.length∧(∀ k,k<s→p (Nn l k)=false)) (fun s=>l.length - s) (0) G ⟨rfl,rfl,rfl,rfl,rfl,tv⟩ ⟨rfl,tv⟩ ⟨Yv _,fun k hk=>absurd hk (YX k)⟩ ?_
 clear G;intro i a w F hC G
 try dsimp only at hC
 obtain ⟨F,G⟩:=G.nM [8,7,4,1,0] [0]
 try dsimp only at G
 obtain ⟨hi,hq⟩:=hC
 refine Ya (rZ G (qL r2) V [9,8,7,4,1,0] [0] fun G=>Ya ?_)
 refine Zc G rfl (fun hc0=>?_) (fun hc0=>?_)
 ·skip
  have hil:i<l.length:=by simp at hc0;omega
  refine Ye (Za (Ya (Yg (Ya (rZ G (qR rr (qO rr qZ)) V [8,7,5,4,1,0] [0] fun G=>Ya ?_)))))
  refine Zf G (qR rr (qR rr (qR rr (qy 3 underlying139 r2 (qf (oR true 3 .t) r1 qz (qf (ZN (avs:=[.agg (ZS (Nn l i))]) .t (hw (Nn l i)) hf hb hnn (Args.one (.pagg .t))) r2 qz qZ)))))) V [16,8,7,5,4,1,0] [0] rfl rfl fun a w F G=>?_
  try simp only [Yb] at G
  refine Za (Zc G rfl (fun hc1=>?_) (fun hc1=>?_))
  ·skip
   have hg:(i:Int)=Z3 p l:=(Zc7 hil hc1 hq).symm
   refine Ya (rZ G (qR rr (qO rr qZ)) V [8,7,4,1,0] [0] fun G=>(Yh (Zu (Zk (Zk (Zu (Zk ?_)))))))
   refine Zo hfr G rfl rfl rfl (.int hg)
  have hne:p (Nn l i)=false:=hc1
  refine Ye (Zj (Za (rZ G (qp r1 (qR rr qZ)) V [8,7,4,1,0] [0] fun G=>?_)))
  replace G:=G.ent (i:=8) (s':=.pv (.int .i64 ((i+1:Nat):Int))) rfl (.int (Zd ow))
  obtain ⟨F,G⟩:=G.nM [7,4,1,0,8] [0]
  exact ⟨(i+1),F,⟨by omega,(fun k hk=>by rcases YS (YY hk) with h | h;exact hq k h;rw [h];exact hne)⟩,G,by omega⟩
 have hil:i=l.length:=by simp at hc0;omega
 have hg : -1=Z3 p l:=(ZbT fun k hk=>hq k (by simp at hc0;omega)).symm
 refine Yw (Zi (Zi (Zn (Za (Ya (rZ G (qI qZ) V [4] [0] fun G=>Yh ?_))))))
 refine Zo hfr G rfl rfl rfl (.int hg)
theorem Zs4 (l : List Zcg) (p : Zcg → Bool) (f : FuncId) (fn : Func) (cps : List PV) (hf : prog.funcs[f]? = some fn) (hb : fn.body.isSome = true) (hnn : (fn.name == "runtime.NumGoroutine") = false) (hw : ∀ x, FnP prog f (.agg (ZS x) :: cps) (.bool (p x))) : FnP prog 87 [.sl ZS l, .clos f cps] (.bool (l.any p)) := by
 refine FnP.mk func87 rfl ntmps87 rfl fun B a w F V hfr G=>Ya ?_
 refine rZ G qB V [4,1,0] [0] fun G=>Ya ?_
 refine rZ G (qR rr (qR rr (qf (oP (Zt2 l p f fn cps hf hb hnn hw) func138 (Args.two .t .t)) r2 qz (qf (Zbi .t qi) r1 qz (qO rr qZ))))) V [4] [0] fun G=>Yh ?_
 refine Zo hfr G rfl rfl rfl (.bool (by rw [Zic]))
theorem Zoc (v:Zcg) (g:Zt) (hs:Za0 g.txs):FnP prog 89 [.agg (ZS v),.ref (Zs g)] (.bool (!Zsi g v)):=by
 refine FnP.mk func89 rfl ntmps89 rfl fun B a w F V hfr G=>Ya ?_
 refine Zb G (qx 101 r1 qB) V [3,2,1] [101,0] (fun _=>rfl) (fun _=>rfl) fun τ a w F G=>?_
 try dsimp only [RS.sub,SF.sub,CF.sub,csub,Anc.sub,List.map,zCF,Zs,rTx,ZP,ZS,rInt,rOp] at G
 generalize τ 2=v2 at G
 refine Za (Ya (rZ G (qf (oR true 2 .t) r1 qz (qe 3 101 r1 r1 (qf (oP (Zvx g v hs) func90 (Args.two (.pagg .t) (.pagg .t))) r2 qz (qf (o_not .t) r1 qz (qO rr qZ))))) V [3] [101,0] fun G=>Yh ?_))
 refine Zo hfr G rfl rfl rfl .refl
theorem Zrh (g:Zt) (t:TxD) (hs:Za0 g.txs) (ht:t.ops.length≤1000):FnP prog 45 [.agg (Zs g),.agg (rTx t)] (.bool (ZnT g t)):=by
 refine FnP.mk func45 rfl ntmps45 rfl fun B a w F V hfr G=>Ya ?_
 refine Zb G (qx 101 r1 (qx 102 r1 qB)) V [4,3,2] [102,101,0] (fun _=>rfl) (fun _=>rfl) fun τ a w F G=>?_
 try dsimp only [RS.sub,SF.sub,CF.sub,csub,Anc.sub,List.map,zCF,Zs,rTx,ZP,ZS,rInt,rOp] at G
 generalize τ 2=v2 at G
 generalize τ 3=v3 at G
 refine Za (Ya (Zad 2 G kr (cG rfl (oL true 3 102 .is) r1 r1 (cG rfl (oP (ZoR t ow) func88 (Args.one (.pagg .t))) r1 trivial ChainN.nil)) kr (by rw [V];kernel_rfl) fun a w F G=>?_))
 obtain ⟨F,G⟩:=G.nM [6,4,2] [102,101,0]
 try dsimp only [List.map,xD,xE,xT,xU,ldSF,Zs,rTx,ZP,ZS,rInt,rOp] at G
 obtain ⟨F,G⟩:=G.giveRef 101 2 rfl rfl rfl
 obtain ⟨F,G⟩:=G.nM [6,4,2] [102,0]
 try dsimp only [Go.Gm.unCF] at G
 refine Zax G kr (cG rfl (ZaH (Args.one .t)) r1 trivial (cG rfl (oP (Zs4 (ZpK t) (fun v=>!Zsi g v) 89 f89 [.ref (Zs g)] func89 rfl kr (fun v=>Zoc v g hs)) func87 (Args.two .t .t)) r2 trivial (cG rfl (o_not .t) r1 trivial (cG rfl (oN .t) r1 trivial ChainN.nil)))) kr (by rw [V];kernel_rfl) fun a w F G=>?_
 obtain ⟨F,G⟩:=G.nM [4] [102,0]
 try dsimp only [Zs,rTx,ZP,ZS,rInt,rOp] at G
 refine Za (Yh (Zo hfr G rfl rfl rfl (.bool (by rw [ZtH];rfl))))
theorem Zm0 (g:Zt) (hs:Za0 g.txs):FnG prog 46 1 [.agg (Zs g)] [.star []] (PV.one) (fun v=>[HP.ex fun s:List (GE Int (List Int))×Nat=>HP.and (WrL s.1 g.txs) (ZbA (fun l:List Int=>PV.sl rInt l) (fun _=>True) (fun n:Int=>Value.int .i64 n) s.1 s.2 v)]):=by
 refine FnG.mk func46 rfl ntmps46 rfl kr fun B F0 a w F V hG G=>?_
 have hsl:=hs.1
 obtain ⟨F,G⟩:=G.nM [0] [0]
 refine Ya (Zb G (qx 101 r1 (qC qZ)) V [2,1] [101,0] (fun _=>rfl) (fun _=>rfl) fun τ a w F G=>?_)
 try dsimp only [RS.sub,SF.sub,CF.sub,csub,Anc.sub,List.map,zCF,Zs,rTx,ZP,ZS,rInt,rOp] at G
 generalize τ 1=v1 at G
 refine Za (Ya (Zb G (qf (ZaR (ek:=(fun p:Value×List Int=>PV.is p.1)) (ok:=(fun _=>True)) (kv:=(fun n:Int=>Value.int .i64 n)) 102) trivial qz (qO rr qZ)) V [3,2,1] [102,101,0] (fun _=>rfl) (fun _=>rfl) fun τ a w F G=>?_))
 try dsimp only [RS.sub,SF.sub,CF.sub,csub,Anc.sub,List.map,Ze,xL,xM,Nat.reduceAdd,xD,xE,xT,xU,xC,xN,zCF,Zs,rTx,ZP,ZS,rInt,rOp] at G
 generalize τ 8=v8 at G
 replace G:=G.fresh 60 rfl
 replace G:=G.turn 60 rfl (r':=Zqd 3 1 rInt ([]:List (GE Int (Value×List Int)))) (fun _ _ _ _ h=>h)
 obtain ⟨F,G⟩:=G.nM [3,2,1] [102,101,60,0]
 refine Za (Ya (Ya (rZ G (qg 0 101 r1 r1 (qa 101 r1 r1 (qu underlying22 r1 (qJ qZ)))) V [12,11,10,3,2] [102,101,60,0] fun G=>Yg ?_)))
 refine Zl (σ:=(Nat)×(List (GE Int (Value×List Int)))×(Nat)) [2,3,10,11] [0,101] (fun s=>[(12,.pv (.int .i64 (s.1:Int)))]) (fun s=>[(102,.ob (.val v8) (ZbA (fun p:Value×List Int=>PV.is p.1) (fun _=>True) (fun n:Int=>Value.int .i64 n) s.2.1 s.2.2)),(60,Zqd 3 1 rInt s.2.1)]) (fun s=>s.1≤g.txs.length∧(WrV s.2.1 (g.txs.take s.1) 0 [])) (fun s=>g.txs.length - s.1) ((0),([]),(0)) G ⟨rfl,rfl,rfl,rfl,rfl,tv⟩ ⟨rfl,rfl,rfl,rfl,tv⟩ ⟨Yv _,ZtE⟩ ?_
 clear G;intro s a w F hC G
 obtain ⟨i,es,ck⟩:=s
 try dsimp only at hC
 obtain ⟨F,G⟩:=G.nM [12,11,10,3,2] [102,101,60,0]
 try dsimp only at G
 obtain ⟨hi,hq⟩:=hC
 have hxl:=fun hil:i<g.txs.length=>hs.at hil
 refine Ya (rZ G (qL r2) V [13,12,11,10,3,2] [102,101,60,0] fun G=>Ya ?_)
 refine Zc G rfl (fun hc0=>?_) (fun hc0=>?_)
 ·have hil:i<g.txs.length:=by simp at hc0;omega
  have hio:=hil
  have hw0:=hq
  have htl:=hxl hil
  have hkt:=Zh6 (Nn g.txs i)
  have hsl:=hs.1
  refine Ye (Za (Ya (Yg (Ya (Zb G (qy 3 underlying22 r2 (qf (oR true 3 .t) r1 qz (qf (oH [.int .i64 0,.bool false,.slice none 0 0] 103) trivial qz (qS 3 103 r2 r1 qZ)))) V [12,11,10,5,3,2] [103,102,101,60,0] (fun _=>rfl) (fun _=>rfl) fun τ a w F G=>?_)))))
  try dsimp only [RS.sub,SF.sub,CF.sub,csub,Anc.sub,List.map,Ze,xL,xM,Nat.reduceAdd,xD,xE,xT,xU,xC,xN,zCF,ldSF,Zs,rTx,ZP,ZS,rInt,rOp] at G
  generalize τ 5=v5 at G
  try simp only [Yb] at G
  refine Za (Ya (Ya (rZ G (qg 1 103 r1 r1 (qa 103 r1 r1 (qf (o_not .t) r1 qz qZ))) V [18,12,11,10,5,3,2] [103,102,101,60,0] fun G=>?_)))
  refine Zc G rfl (fun hc1=>?_) (fun hc1=>?_)
  ·have hdn:(Nn g.txs i).done=false:=by simpa using hc1
   obtain ⟨es2,he2⟩:∃ z,z=es:=⟨_,rfl⟩
   obtain ⟨ck2,hc2⟩:∃ z,z=ck:=⟨_,rfl⟩
   have hR2:WrV es2 (g.txs.take (i+1)) 0 []:=by rw [he2];exact ZsG hw0 hio hdn
   rw [← he2,← hc2] at G
   refine Yw (Zi (Zn (Za (rZ G (qp r1 (qR rr qZ)) V [12,11,10,3,2] [103,102,101,60,0] fun G=>?_))))
   replace G:=G.ent (i:=12) (s':=.pv (.int .i64 ((i+1:Nat):Int))) rfl (.int (Zd ow))
   obtain ⟨F,G⟩:=G.nM [11,10,3,2,12] [101,0,60,102]
   exact ⟨((i+1),(es2),(ck2)),F,⟨by omega,hR2⟩,G,by omega⟩
  have hdn:(Nn g.txs i).done=true:=by simpa using hc1
  refine Ye (Za (Ya (Zf G (qe 3 103 r1 r1 (qf (oP (Zth (Nn g.txs i) (by have:=hxl hio;omega)) func91 (Args.one (.pagg .t))) r1 qz (qu underlying45 r1 (qJ qZ)))) V [22,21,20,12,11,10,5,3,2] [103,102,101,60,0] rfl rfl fun a w F G=>?_)))
  rw [show Zbq (((Nn g.txs i).ops.filter fun o=>!o.read).map OpD.key)=Zbu (Nn g.txs i) from rfl] at G
  refine Za (Yg (Zl (σ:=(Nat)×(List (GE Int (Value×List Int)))×(Nat)) [2,3,5,10,11,12,20,21] [0,101,103] (fun s=>[(22,.pv (.int .i64 (s.1:Int)))]) (fun s=>[(102,.ob (.val v8) (ZbA (fun p:Value×List Int=>PV.is p.1) (fun _=>True) (fun n:Int=>Value.int .i64 n) s.2.1 s.2.2)),(60,Zqd 3 1 rInt s.2.1)]) (fun s=>s.1≤(Zbu (Nn g.txs i)).length∧(WrV s.2.1 (g.txs.take i) (Nn g.txs i).id ((Zbu (Nn g.txs i)).take s.1))) (fun s=>(Zbu (Nn g.txs i)).length - s.1) ((0),(es),(ck)) G ⟨rfl,rfl,rfl,rfl,rfl,rfl,rfl,rfl,rfl,tv⟩ ⟨rfl,rfl,rfl,rfl,rfl,tv⟩ ⟨Yv _,(by simpa using Zq3 hw0)⟩ ?_))
  clear G;intro s a w F hC G
  obtain ⟨j,es,ck⟩:=s
  try dsimp only at hC
  obtain ⟨F,G⟩:=G.nM [22,21,20,12,11,10,5,3,2] [103,102,101,60,0]
  try dsimp only at G
  obtain ⟨hi,hq⟩:=hC
  refine Ya (rZ G (qL r2) V [23,22,21,20,12,11,10,5,3,2] [103,102,101,60,0] fun G=>Ya ?_)
  refine Zc G rfl (fun hc2=>?_) (fun hc2=>?_)
  ·have hil:j<(Zbu (Nn g.txs i)).length:=by simp at hc2;omega
   have hwo:=Zsy hq (ZfQ _) hil
   have hwn:=ZeC (g.txs.take i) (Nn (Zbu (Nn g.txs i)) j)
   rw [Yj] at hwn
   rw [← hwo] at hwn
   refine Ye (Za (Ya (Yg (Ya (Zf G (qy 1 underlying45 r2 (qf (oR false 1 .t) r1 qz (qO rr qZ))) V [22,21,20,12,11,10,7,5,3,2] [103,102,101,60,0] rfl rfl fun a w F G=>?_)))))
   try simp only [Yb] at G
   refine Za (Zad 5 G kr (cG rfl (oM .t) r1 trivial (cG rfl (oM .t) r1 trivial (cG rfl (oM .t) r1 trivial (cG rfl (oM .t) r1 trivial (cG rfl (Zap (ek:=(fun p:Value×List Int=>PV.is p.1)) (z0:=ZhT) 102 underlying83 (Zcu underlying3) kr (fun _ _=>⟨rfl,rfl⟩) .is (ZI.int .t rfl)) r2 r1 ChainN.nil))))) kr (by rw [V];kernel_rfl) fun a w F G=>?_)
   obtain ⟨F,G⟩:=G.nM [30,27,26,22,21,20,12,11,10,5,3,2] [103,102,101,60,0]
   try dsimp only [Zs,rTx,ZP,ZS,rInt,rOp] at G
   obtain ⟨F,G⟩:=G.takeKey (T:=3) (sz:=1) (R:=rInt) 60 61 (Nn (Zbu (Nn g.txs i)) j) rfl rfl
   obtain ⟨F,G⟩:=G.nM [30,27,26,22,21,20,12,11,10,5,3,2] [103,102,101,61,60,0]
   refine Zif 4 G kr (cG rfl (oF 0 103 .is) r1 r1 (cG rfl (oL false 1 103 .adr) r1 r1 (cG rfl (o_buildSliceE (sz:=1) (zs:=[.int .i64 0]) (r:=[(0,.tmp 32)]) (l:=[_]) underlying45 kr kr kr kr rfl rfl (.one rfl .t one_int kr .nil) rfl) r1 trivial (cG rfl (ZW (sz:=1) (bs:=8) 61 (.mk' underlying45 kr kr) (by intro x;rfl) .is (.arr (l':=[_]) .t) (by simp only [Yd,Yl,Yy];omega) (by decide)) ⟨rfl,rfl,tv⟩ ⟨rfl,tv⟩ ChainN.nil)))) kr (by rw [V];kernel_rfl) fun a w F G=>?_
   replace G:=G.sub
   obtain ⟨F,G⟩:=G.nM [34,27,26,22,21,20,12,11,10,5,3,2] [103,102,101,61,60,0]
   try dsimp only [RS.sub,SF.sub,CF.sub,csub,Anc.sub,List.map,Ze,xL,xM,Nat.reduceAdd,xD,xE,xT,xU,xC,xN,zCF,ldSF,Zs,rTx,ZP,ZS,rInt,rOp] at G
   generalize Act.tau a 34=v34 at G
   refine Zax G kr (cG rfl (o_mapUpdateG (ek:=(fun p:Value×List Int=>PV.is p.1)) (v:=((v34,((gGet (Nn (Zbu (Nn g.txs i)) j) es).getD ZhT).2 ++ [(Nn g.txs i).id]):Value×List Int)) 102 underlying83 (Zcu underlying3) .is (ZI.int .t rfl) .t) r3 r1 ChainN.nil) kr (by rw [V];kernel_rfl) fun a w F G=>?_
   obtain ⟨F,G⟩:=G.nM [22,21,20,12,11,10,5,3,2] [103,102,101,61,60,0]
   try dsimp only [Zs,rTx,ZP,ZS,rInt,rOp] at G
   refine Zj (Za (rZ G (qp r1 (qR rr qZ)) V [22,21,20,12,11,10,5,3,2] [103,102,101,61,60,0] fun G=>?_))
   obtain ⟨F,G⟩:=G.putKey (T:=3) (sz:=1) (R:=rInt) 60 61 (Nn (Zbu (Nn g.txs i)) j) ck rfl rfl rfl
   replace G:=G.ent (i:=22) (s':=.pv (.int .i64 ((j+1:Nat):Int))) rfl (.int (Zd ow))
   obtain ⟨F,G⟩:=G.nM [21,20,12,11,10,5,3,2,22] [103,101,0,60,102]
   exact ⟨((j+1),((gPut (Nn (Zbu (Nn g.txs i)) j) (v34,((gGet (Nn (Zbu (Nn g.txs i)) j) es).getD ZhT).2 ++ [(Nn g.txs i).id]) (es,ck)).1),((gPut (Nn (Zbu (Nn g.txs i)) j) (v34,((gGet (Nn (Zbu (Nn g.txs i)) j) es).getD ZhT).2 ++ [(Nn g.txs i).id]) (es,ck)).2)),F,⟨by omega,ZsS hq (ZfQ _) hil⟩,G,by omega⟩
  have hil:j=(Zbu (Nn g.txs i)).length:=by simp at hc2;omega
  obtain ⟨es2,he2⟩:∃ z,z=es:=⟨_,rfl⟩
  obtain ⟨ck2,hc2⟩:∃ z,z=ck:=⟨_,rfl⟩
  rw [hil,YD] at hq
  have hR2:WrV es2 (g.txs.take (i+1)) 0 []:=by rw [he2];exact Zt1 hq hio hdn
  rw [← he2,← hc2] at G
  refine Yw (Zi (Zi (Zn (Zj (Za (rZ G (qp r1 (qR rr qZ)) V [12,11,10,3,2] [103,102,101,60,0] fun G=>?_))))))
  replace G:=G.ent (i:=12) (s':=.pv (.int .i64 ((i+1:Nat):Int))) rfl (.int (Zd ow))
  obtain ⟨F,G⟩:=G.nM [11,10,3,2,12] [101,0,60,102]
  exact ⟨((i+1),(es2),(ck2)),F,⟨by omega,hR2⟩,G,by omega⟩
 have hil:i=g.txs.length:=by simp at hc0;omega
 have hwl:=Zqw hq
 rw [hil,YD] at hwl
 refine Yw (Zi (Zi (Zn (Za (Ya (rZ G (qR rr (qO rr qZ)) V [2] [102,101,60,0] fun G=>Yh ?_))))))
 obtain ⟨F,G⟩:=G.giveMap 102 60 rfl rfl rfl
 obtain ⟨F,G⟩:=G.rename 102 1 rfl rfl
 have G:=G.turn 1 rfl (r':=RS.hp (HP.ex fun s:List (GE Int (List Int))×Nat=>HP.and (WrL s.1 g.txs) (ZbA (fun l:List Int=>PV.sl rInt l) (fun _=>True) (fun n:Int=>Value.int .i64 n) s.1 s.2 v8))) (fun _ _ _ _ h=>⟨(Zes es,ck),hwl,h⟩)
 refine Z8 (h':=fun v=>HP.ex fun s:List (GE Int (List Int))×Nat=>HP.and (WrL s.1 g.txs) (ZbA (fun l:List Int=>PV.sl rInt l) (fun _=>True) (fun n:Int=>Value.int .i64 n) s.1 s.2 v)) hG G rfl (.tmp rfl .nil) (.one .one) rfl
theorem Ztz (l:List Int) (tx:Int):FnP prog 15 [.sl rInt l,.int .i64 tx] (.tup [.int .i64 (ZdQ l tx).1,.bool (ZdQ l tx).2]):=by
 refine FnP.mk func15 rfl ntmps15 rfl fun B a w F V hfr G=>?_
 have hll:=Sat.lenSl G (i:=0) rfl
 have hxr:=ZgL tx l
 have hxw:IntKind.wrap .i64 (ZZ tx l+1)=ZZ tx l+1:=Zy ow
 have hxv:IntKind.wrap .i64 (ZZ tx l - 1)=ZZ tx l - 1:=Zy ow
 refine Ya (rZ G (qI qB) V [5,4,1,0] [0] fun G=>Ya ?_)
 refine rZ G (qI qZ) V [6,5,4,1,0] [0] fun G=>(Ya (Ya ?_))
 refine rZ G (qR rr (qf (o_neq .t qi) r1 qz qZ)) V [8,6,5,4,1,0] [0] fun G=>?_
 refine Zc G rfl (fun hc0=>?_) (fun hc0=>?_)
 ·have ht:tx≠0:=by simpa using hc0
  refine Ya (rZ G (qR rr (qR rr (qf (oP (Zpi l tx) func39 (Args.two .t .t)) r2 qz (qp r1 (qO rr qZ))))) V [6,5,4,0] [0] fun G=>Ya ?_)
  refine rZ G (qR rr (qf (o_eql .t qi) r1 qz qZ)) V [14,6,5,4,0] [0] fun G=>?_
  refine Zc G rfl (fun hc1=>?_) (fun hc1=>?_)
  ·have hix:ZZ tx l<0:=by simp [hxw] at hc1;omega
   have hg:ZdQ l tx=(0,false):=by unfold ZdQ;rw [Yf ⟨ht,hix⟩]
   refine Ya (rZ G (qI qB) V [6,5,4,0] [0] fun G=>(Yh (Zk ?_)))
   refine Z2 hfr G rfl (.tmp rfl (.tmp rfl .nil)) (.two (.int (by rw [hg];first | done | rfl | (rw [hxw];done) | (rw [hxv];done) | (rw [show IntKind.wrap .i64 (-1+1)=0 by decide];done))) (.bool (by rw [hg])))
  have hix:0≤ZZ tx l:=by simp [hxw] at hc1;omega
  refine Ye (Za (Ya (Ya (rZ G (qR rr (qR rr (qu underlying45 r1 (qf (o_eql .t .t) r2 qz qZ)))) V [18,6,5,4,0] [0] fun G=>?_))))
  refine Zc G rfl (fun hc2=>?_) (fun hc2=>?_)
  ·have hlx:=hc2
   first | rw [hxw] at hlx | skip
   have hg:ZdQ l tx=(0,false):=by unfold ZdQ;first | (rw [Yc ow,Yc ht,Yf (by simp at hlx;omega)];done) | (rw [Yc ow,Yf ht,Yf (by simp at hlx;omega)])
   refine Ya (rZ G (qI qB) V [6,5,4,0] [0] fun G=>(Yh (Zk ?_)))
   refine Z2 hfr G rfl (.tmp rfl (.tmp rfl .nil)) (.two (.int (by rw [hg];first | done | rfl | (rw [hxw];done) | (rw [hxv];done) | (rw [show IntKind.wrap .i64 (-1+1)=0 by decide];done))) (.bool (by rw [hg])))
  have hlx:=hc2
  first | rw [hxw] at hlx | skip
  have hln:=Yax (l:=l)
  have hlx2:=hlx
  simp at hlx
  have hg:ZdQ l tx=(Nn l (if tx=0 then 0 else ZZ tx l+1).toNat,true):=by unfold ZdQ;first | (rw [Yc ow,Yc ht,Yc ht,Yc ow];done) | (rw [Yc ow,Yf ht,Yf ht,Yc (by first | omega | (intro h0;have:l.length=0:=by omega;simp_all))];rfl)
  first | rw [Yc ht] at hg | rw [Yf ht] at hg
  try (have hl1:0<l.length:=by rcases Nat.eq_zero_or_pos l.length with h0 | h0;simp_all;exact h0)
  refine Ye (Za (Ya (Zf G (qR rr (qR rr (qf (o_indexAddr_sl (sz:=1) (.mk underlying45 kr) (by intro x;rfl) .t .t (by first | omega | (rw [hxw];omega)) (by first | omega | (rw [hxw];omega))) r2 qz (qf (oR false 1 .t) r1 qz (qO rr qB))))) V [5,4] [0] rfl rfl fun a w F G=>?_)))
  try simp only [Yb] at G
  refine Za (Yh (Z2 hfr G rfl (.tmp rfl (.tmp rfl .nil)) (.two (.int (by rw [hg];first | done | rfl | (rw [hxw];done) | (rw [hxv];done) | (rw [show IntKind.wrap .i64 (-1+1)=0 by decide];done))) (.bool (by rw [hg])))))
 have ht:tx=0:=by simpa using hc0
 refine Ye (Za (Ya (Ya (rZ G (qR rr (qR rr (qu underlying45 r1 (qf (o_eql .t .t) r2 qz qZ)))) V [18,6,5,4,0] [0] fun G=>?_))))
 refine Zc G rfl (fun hc3=>?_) (fun hc3=>?_)
 ·have hlx:=hc3
  first | rw [hxw] at hlx | skip
  have hg:ZdQ l tx=(0,false):=by unfold ZdQ;first | (rw [Yc ow,Yc ht,Yf (by simp at hlx;omega)];done) | (rw [Yc ow,Yf ht,Yf (by simp at hlx;omega)])
  refine Ya (rZ G (qI qB) V [6,5,4,0] [0] fun G=>(Yh (Zk ?_)))
  refine Z2 hfr G rfl (.tmp rfl (.tmp rfl .nil)) (.two (.int (by rw [hg];first | done | rfl | (rw [hxw];done) | (rw [hxv];done) | (rw [show IntKind.wrap .i64 (-1+1)=0 by decide];done))) (.bool (by rw [hg])))
 have hlx:=hc3
 first | rw [hxw] at hlx | skip
 have hln:=Yax (l:=l)
 have hlx2:=hlx
 simp at hlx
 have hg:ZdQ l tx=(Nn l (if tx=0 then 0 else ZZ tx l+1).toNat,true):=by unfold ZdQ;first | (rw [Yc ow,Yc ht,Yc ht,Yc ow];done) | (rw [Yc ow,Yf ht,Yf ht,Yc (by first | omega | (intro h0;have:l.length=0:=by omega;simp_all))];rfl)
 first | rw [Yc ht] at hg | rw [Yf ht] at hg
 try (have hl1:0<l.length:=by rcases Nat.eq_zero_or_pos l.length with h0 | h0;simp_all;exact h0)
 refine Ye (Za (Ya (Zf G (qR rr (qR rr (qf (o_indexAddr_sl (sz:=1) (.mk underlying45 kr) (by intro x;rfl) .t .t (by first | omega | (rw [hxw];omega)) (by first | omega | (rw [hxw];omega))) r2 qz (qf (oR false 1 .t) r1 qz (qO rr qB))))) V [5,4] [0] rfl rfl fun a w F G=>?_)))
 try simp only [Yb] at G
 refine Za (Yh (Z2 hfr G rfl (.tmp rfl (.tmp rfl .nil)) (.two (.int (by rw [hg];first | done | rfl | (rw [hxw];done) | (rw [hxv];done) | (rw [show IntKind.wrap .i64 (-1+1)=0 by decide];done))) (.bool (by rw [hg])))))
theorem ZeT (g:Zt) (hs:Zbc g):FnP prog 19 [.agg (Zs g)] (.bool (decide (ZQ g))):=by
 refine FnP.mk func19 rfl ntmps19 rfl fun B a w F V hfr G=>?_
 have hsl:=hs.1.1
 have hso:=hs.2.1
 refine Ya (Zb G (qx 101 r1 qB) V [2,1] [101,0] (fun _=>rfl) (fun _=>rfl) fun τ a w F G=>?_)
 try dsimp only [RS.sub,SF.sub,CF.sub,csub,Anc.sub,List.map,zCF,Zs,rTx,ZP,ZS,rInt,rOp] at G
 generalize τ 1=v1 at G
 refine Za (Ya (Ya (rZ G (qg 0 101 r1 r1 (qa 101 r1 r1 (qu underlying22 r1 (qf (ZaU .t qi) r1 qz qZ)))) V [11,2,1] [101,0] fun G=>?_)))
 refine Zc G rfl (fun hc0=>?_) (fun hc0=>?_)
 ·have hg:=Zgj (h:=g) (by simp at hc0;omega)
  refine Ya (rZ G qB V [2,1] [101,0] fun G=>(Yh (Zk ?_)))
  refine Zo hfr G rfl rfl rfl (.bool hg)
 have hlong:g.txs.length≤4096:=by simp at hc0;omega
 refine Ye (Za (Ya (Ya (rZ G (qg 0 101 r1 r1 (qa 101 r1 r1 (qu underlying22 r1 (qJ qZ)))) V [15,14,13,2,1] [101,0] fun G=>Yg ?_))))
 refine Zl (σ:=(Nat)) [1,2,13,14] [0,101] (fun s=>[(15,.pv (.int .i64 (s:Int)))]) (fun s=>[]) (fun s=>s≤g.txs.length∧(∀ k,k<s→ZmM g k)) (fun s=>g.txs.length - s) (0) G ⟨rfl,rfl,rfl,rfl,rfl,tv⟩ ⟨rfl,rfl,tv⟩ ⟨Yv _,fun k hk=>absurd hk (YX k)⟩ ?_
 clear G;intro i a w F hC G
 try dsimp only at hC
 obtain ⟨F,G⟩:=G.nM [15,14,13,2,1] [101,0]
 try dsimp only at G
 obtain ⟨hi,hq⟩:=hC
 have hxl:=fun hil:i<g.txs.length=>hs.1.at hil
 have hiw:0<i→IntKind.wrap .i64 ((i:Int) - 1)=((i - 1:Nat):Int):=fun h0=>by rw [Zy ow];omega
 refine Ya (rZ G (qL r2) V [16,15,14,13,2,1] [101,0] fun G=>Ya ?_)
 refine Zc G rfl (fun hc1=>?_) (fun hc1=>?_)
 ·have hil:i<g.txs.length:=by simp at hc1;omega
  refine Ye (Za (Ya (Yg (Ya (Zb G (qR rr (qy 3 underlying22 r2 (qf (oR true 3 .t) r1 qz (qf (oH [.int .i64 0,.bool false,.slice none 0 0] 102) trivial qz (qO rr (qS 3 102 r2 r1 qZ)))))) V [15,14,13,4,3,2,1] [102,101,0] (fun _=>rfl) (fun _=>rfl) fun τ a w F G=>?_)))))
  try dsimp only [RS.sub,SF.sub,CF.sub,csub,Anc.sub,List.map,Ze,xL,xM,Nat.reduceAdd,xD,xE,xT,xU,xC,xN,zCF,ldSF,Zs,rTx,ZP,ZS,rInt,rOp] at G
  generalize τ 4=v4 at G
  try simp only [Yb] at G
  refine Za (Ya (Zx G (qR rr (qf (ZaU .t qi) r1 qz (qR rr (qv 0 101 rfl r2 r1 (qw 101 rfl r2 r1 (qm rfl rfl rfl rfl (qk rfl (fun h=>o_sub (.w h) qi) r2 qz (qk rfl (fun h=>o_indexAddr_sl (sz:=3) (.mk underlying22 kr) (by intro x;rfl) (.w h) (.w h) (by rw [hiw (by simpa using h)];omega) (by rw [hiw (by simpa using h)];omega)) r3 qz (qk rfl (fun h=>oG 0 (.w h)) r2 qz (qk rfl (fun h=>oR false 1 (.w h)) r2 qz (qv 0 102 rfl r2 r1 (qw 102 rfl r2 r1 (qk rfl (fun h=>Zbi (.w h) (.w h)) r3 qz (qf (ZD .t .t) r2 qz (qR rr (qk rfl (fun h=>oL true 3 102 .is) r2 r1 (qk rfl (fun h=>oP (Zm6 (Nn g.txs i)) func44 (Args.one (.pagg (.w h)))) r2 qz (qk rfl (fun h=>o_neq (.w h) qi) r2 qz (qf (Zam .t .t) r2 qz (qR rr (qk rfl (fun h=>oL true 2 101 .is) r2 r1 (qk rfl (fun h=>oL true 3 102 .is) r2 r1 (qk rfl (fun h=>oP (Zrh g (Nn g.txs i) hs.1 (by have:=hxl hil;omega)) func45 (Args.two (.pagg (.w h)) (.pagg (.w h)))) r3 qz (qk rfl (fun h=>o_not (.w h)) r2 qz (qf (Zam .t .t) r2 qz qZ))))))))))))))))))))))))) V [44,15,14,13,2,1] [102,101,0] rfl rfl fun a w F G=>?_))
  try dsimp only [List.map,xD,xE,xT,xU,ldSF,Zs,rTx,ZP,ZS,rInt,rOp] at G
  try simp only [Yb] at G
  refine Za (Zc G rfl (fun hc2=>?_) (fun hc2=>?_))
  ·have hbad:¬ ZmM g i:=by
     rintro ⟨g1,g2,g3⟩
     have h9:=hc2
     by_cases hi0:0<i
     · rw [hiw hi0,Yb] at h9
       have:=g1 hi0
       simp [g2,g3] at h9
       omega
     · have hi1:i=0:=by omega
       subst hi1
       simp [g2,g3] at h9
   have hg:=ZiA hil hbad
   refine Ya (rZ G qB V [15,14,13,2,1] [102,101,0] fun G=>(Yh (Zu (Zk (Zk (Zu (Zk ?_)))))))
   refine Zo hfr G rfl rfl rfl (.bool hg)
  have hgood:ZmM g i:=by
    have h9:=hc2
    by_cases hi0:0<i
    · rw [hiw hi0,Yb] at h9
      simp at h9
      exact ⟨fun _=>by omega,by omega,h9.2⟩
    · have hi1:i=0:=by omega
      subst hi1
      simp at h9
      exact ⟨fun h0=>absurd h0 (Nat.lt_irrefl 0),h9.1,h9.2⟩
  refine Ye (Zj (Za (rZ G (qp r1 (qR rr qZ)) V [15,14,13,2,1] [102,101,0] fun G=>?_)))
  replace G:=G.ent (i:=15) (s':=.pv (.int .i64 ((i+1:Nat):Int))) rfl (.int (Zd ow))
  obtain ⟨F,G⟩:=G.nM [14,13,2,1,15] [101,0]
  exact ⟨(i+1),F,⟨by omega,(fun k hk=>by rcases YS (YY hk) with h9 | h9;exact hq k h9;rw [h9];exact hgood)⟩,G,by omega⟩
 have hil:i=g.txs.length:=by simp at hc1;omega
 have hall:∀ k,k<g.txs.length→ZmM g k:=by rw [← hil];exact hq
 have hkn:=Zpa hs.1
 refine Yw (Zi (Zi (Zn (Za (Ya ?_)))))
 replace G:=G.fresh 103 rfl
 refine Zb G (qe 2 101 r1 r1 (qf (Zav 103 (Zm0 g hs.1) func46 rfl kr (Args.one (.pagg .t)) pvOne1) r1 r1 (qO rr qZ))) V [5,2,1] [103,101,0] (fun _=>rfl) (fun _=>rfl) fun τ a w F G=>?_
 try dsimp only [RS.sub,SF.sub,CF.sub,csub,Anc.sub,List.map,xD,xE,xT,xU,ldSF,Zs,rTx,ZP,ZS,rInt,rOp] at G
 generalize τ 47=v47 at G
 replace G:=G.turn 103 rfl (r':=RS.hp (HP.ex fun s:List (GE Int (List Int))×Nat=>HP.and (WrL s.1 g.txs) (ZbA (fun l:List Int=>PV.sl rInt l) (fun _=>True) (fun n:Int=>Value.int .i64 n) s.1 s.2 v47))) (fun _ _ _ _ h=>h)
 obtain ⟨sm,G⟩:=G.open_ex 103 rfl
 obtain ⟨hwm,G⟩:=G.open_and 103 rfl
 obtain ⟨es,ck⟩:=sm
 try dsimp only at hwm G
 replace G:=G.turn 103 rfl (r':=.ob (.val v47) (ZbA (fun l:List Int=>PV.sl rInt l) (fun _=>True) (fun n:Int=>Value.int .i64 n) es ck)) (fun _ _ _ _ h=>h)
 have hgw:=ZuL hwm
 have hml:=Zu3 hwm
 obtain ⟨F,G⟩:=G.nM [5,2,1] [103,101,0]
 refine Za (Ya (Ya (rZ G (qR rr (qf (Zms 103 underlying83 .is ow) r1 r1 (qg 1 101 r1 r1 (qa 101 r1 r1 (qu underlying23 r1 (qf (o_neq .t .t) r2 qz qZ)))))) V [53,5,2,1] [103,101,0] fun G=>?_)))
 refine Zc G rfl (fun hc3=>?_) (fun hc3=>?_)
 ·have hg:=Zhr (h:=g) (by simp at hc3;omega)
  refine Ya (rZ G qB V [5,2,1] [103,101,0] fun G=>(Yh (Zk ?_)))
  refine Zo hfr G rfl rfl rfl (.bool hg)
 have hle:g.orders.length=(Zco g.txs).length:=by simp at hc3;omega
 refine Ye (Za (Ya (Ya (rZ G (qg 1 101 r1 r1 (qa 101 r1 r1 (qu underlying23 r1 (qJ qZ)))) V [57,56,55,5,2,1] [103,101,0] fun G=>Yg ?_))))
 refine Zl (σ:=(Nat)) [1,2,5,55,56] [0,101,103] (fun s=>[(57,.pv (.int .i64 (s:Int)))]) (fun s=>[]) (fun s=>s≤g.orders.length∧(∀ k,k<s→ZfP g k)) (fun s=>g.orders.length - s) (0) G ⟨rfl,rfl,rfl,rfl,rfl,rfl,tv⟩ ⟨rfl,rfl,rfl,tv⟩ ⟨Yv _,fun k hk=>absurd hk (YX k)⟩ ?_
 clear G;intro i a w F hC G
 try dsimp only at hC
 obtain ⟨F,G⟩:=G.nM [57,56,55,5,2,1] [103,101,0]
 try dsimp only at G
 obtain ⟨hi,hq⟩:=hC
 have hol:=fun hil:i<g.orders.length=>hs.2.at hil
 have hwl:=fun k=>ZeC g.txs k
 have hiw:0<i→IntKind.wrap .i64 ((i:Int) - 1)=((i - 1:Nat):Int):=fun h0=>by rw [Zy ow];omega
 refine Ya (rZ G (qL r2) V [58,57,56,55,5,2,1] [103,101,0] fun G=>Ya ?_)
 refine Zc G rfl (fun hc4=>?_) (fun hc4=>?_)
 ·have hil:i<g.orders.length:=by simp at hc4;omega
  refine Ye (Za (Ya (Yg (Ya (Zb G (qR rr (qy 2 underlying23 r2 (qf (oR true 2 .t) r1 qz (qf (oH [.int .i64 0,.slice none 0 0] 104) trivial qz (qO rr (qS 2 104 r2 r1 qZ)))))) V [57,56,55,7,6,5,2,1] [104,103,101,0] (fun _=>rfl) (fun _=>rfl) fun τ a w F G=>?_)))))
  try dsimp only [RS.sub,SF.sub,CF.sub,csub,Anc.sub,List.map,Ze,xL,xM,Nat.reduceAdd,xD,xE,xT,xU,xC,xN,zCF,ldSF,Zs,rTx,ZP,ZS,rInt,rOp] at G
  generalize τ 7=v7 at G
  try simp only [Yb] at G
  refine Za (Ya (Zx G (qR rr (qf (ZaU .t qi) r1 qz (qR rr (qv 1 101 rfl r2 r1 (qw 101 rfl r2 r1 (qm rfl rfl rfl rfl (qk rfl (fun h=>o_sub (.w h) qi) r2 qz (qk rfl (fun h=>o_indexAddr_sl (sz:=2) (.mk underlying23 kr) (by intro x;rfl) (.w h) (.w h) (by rw [hiw (by simpa using h)];omega) (by rw [hiw (by simpa using h)];omega)) r3 qz (qk rfl (fun h=>oG 0 (.w h)) r2 qz (qk rfl (fun h=>oR false 1 (.w h)) r2 qz (qv 0 104 rfl r2 r1 (qw 104 rfl r2 r1 (qk rfl (fun h=>Zbi (.w h) (.w h)) r3 qz (qf (ZD .t .t) r2 qz (qR rr (qv 1 104 rfl r2 r1 (qw 104 rfl r2 r1 (qk rfl (fun h=>ZcB underlying45 (.w h)) r2 qz (qk rfl (fun h=>o_eql (.w h) qi) r2 qz (qf (Zam .t .t) r2 qz (qR rr (qv 1 104 rfl r2 r1 (qw 104 rfl r2 r1 (qm rfl rfl rfl rfl (qv 0 104 rfl r2 r1 (qw 104 rfl r2 r1 (qk rfl (fun h=>Zap (ek:=(fun l:List Int=>PV.sl rInt l)) (z0:=([]:List Int)) 103 underlying83 (Zcu underlying3) kr (fun _ _=>Zsj) (.w h .is) (ZI.int (.w h) rfl)) r3 r1 (qk rfl (fun h=>oP (Zu4 (Nn g.orders i).txs _ (by have:=hol hil;omega) (by rw [hgw];have:=hwl (Nn g.orders i).key;omega)) func47 (Args.two (.w h) (.w h))) r3 qz (qk rfl (fun h=>o_not (.w h)) r2 qz (qf (Zam .t .t) r2 qz qZ)))))))))))))))))))))))))))))) V [91,57,56,55,5,2,1] [104,103,101,0] rfl rfl fun a w F G=>?_))
  try dsimp only [List.map,xD,xE,xT,xU,ldSF,Zs,rTx,ZP,ZS,rInt,rOp] at G
  try simp only [Yb] at G
  refine Za (Zc G rfl (fun hc5=>?_) (fun hc5=>?_))
  ·have hbad:¬ ZfP g i:=by
     rintro ⟨g1,g2,g3⟩
     have h9:=hc5
     rw [hgw] at h9
     have g4:(Nn g.orders i).txs.length≠0:=fun e=>g2 (YN e)
     by_cases hi0:0<i
     · rw [hiw hi0,Yb] at h9
       have:=g1 hi0
       simp [g2,g3] at h9
       omega
     · have hi1:i=0:=by omega
       subst hi1
       simp [g2,g3] at h9
   have hg:=Zgh hil hbad
   refine Ya (rZ G qB V [57,56,55,5,2,1] [104,103,101,0] fun G=>(Yh (Zu (Zk (Zk (Zu (Zk ?_)))))))
   refine Zo hfr G rfl rfl rfl (.bool hg)
  have hgood:ZfP g i:=by
    have h9:=hc5
    rw [hgw] at h9
    by_cases hi0:0<i
    · rw [hiw hi0,Yb] at h9
      simp at h9
      exact ⟨fun _=>by omega,h9.1.2,h9.2⟩
    · have hi1:i=0:=by omega
      subst hi1
      simp at h9
      exact ⟨fun h0=>absurd h0 (Nat.lt_irrefl 0),h9.1,h9.2⟩
  refine Ye (Zj (Za (rZ G (qp r1 (qR rr qZ)) V [57,56,55,5,2,1] [104,103,101,0] fun G=>?_)))
  replace G:=G.ent (i:=57) (s':=.pv (.int .i64 ((i+1:Nat):Int))) rfl (.int (Zd ow))
  obtain ⟨F,G⟩:=G.nM [56,55,5,2,1,57] [103,101,0]
  exact ⟨(i+1),F,⟨by omega,(fun k hk=>by rcases YS (YY hk) with h9 | h9;exact hq k h9;rw [h9];exact hgood)⟩,G,by omega⟩
 have hil:i=g.orders.length:=by simp at hc4;omega
 have hg:=ZjV hlong hall ow (by rw [← hil];exact hq)
 refine Yw (Zi (Zi (Zn (Za (Ya (rZ G qB V [2] [103,101,0] fun G=>Yh ?_))))))
 refine Zo hfr G rfl rfl rfl (.bool hg)
theorem ZqF (u v:Zt):(decide (u.txs=v.txs) && decide (u.orders=v.orders))=decide (u=v):=by
 cases u;cases v
 rw [Yan]
 simp
theorem PVs.lenAt {α:Type} {R:α→List PV} {l:List α} {v:Value} {w:World} {y:Ys} (h:(PV.sl R l).p v w y):l.length≤9223372036854775807:=by
 obtain ⟨_,cap,_,h1,h2,_⟩:=h
 unfold maxLen at h2
 omega
theorem Sat.lenHist {B:Zbh} {E:En} {a:Act} {w:World} {F:Fp} (h:Sat B E a w F) {i:Nat} {u:Zt} (hl:Go.Gm.look E.s i=some (SF.pv (PV.agg (Zs u)))):u.txs.length≤9223372036854775807∧u.orders.length≤9223372036854775807:=by
 obtain ⟨vs,_,hp⟩:=h.s i _ hl
 match vs,hp with
 | [x,y],hp=>exact ⟨PVs.lenAt hp.1.2,PVs.lenAt hp.2.1.2⟩
def Zva (l:List TxD):Prop:=l.length≤1000000 ∧ ∀ t ∈ l,t.ops.length≤1000000
def Zsd (l:List OrdD):Prop:=l.length≤1000000 ∧ ∀ t ∈ l,t.txs.length≤1000000
structure DOk (d:Zg3):Prop where
 was:Zva d.was
 now:Zva d.now
 old:Zsd d.old
 new:Zsd d.new
def inv (d:Zg3):Zg3:=⟨d.now,d.was,d.new,d.old⟩
end Go.Proofs.YtlkpllemoepamaaGreat
