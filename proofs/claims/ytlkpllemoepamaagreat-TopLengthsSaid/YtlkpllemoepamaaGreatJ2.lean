/- Laws and walks. No condition beyond what each says. -/
import Derived.Test.YtlkpllemoepamaaGreatJ1
namespace Go.Proofs.YtlkpllemoepamaaGreat
open Go Go.Gm Tryz
set_option linter.unusedVariables false
set_option linter.unusedSimpArgs false
set_option maxHeartbeats 4000000
set_option maxRecDepth 8000
theorem ZrB (l:List Int) (v:Int):FnP prog 39 [.sl Zo l,.int .i64 v] (.int .i64 (Zc4 v l)):=by
 refine FnP.mk func39 rfl ntmps39 rfl fun B a w F Z hfr G=>?_
 have hll:=Sat.lenSl G (i:=0) rfl
 refine Ya (rZ G (qI qZ) Z [4,1,0] [0] fun G=>(Ya (Ya ?_)))
 refine rZ G (qR rr (qu YbZ r1 (qJ qZ))) Z [8,7,4,1,0] [0] fun G=>Yg ?_
 refine Zl (σ:=(Nat)) [0,1,4,7] [0] (fun s=>[(8,.pv (.int .i64 (s:Int)))]) (fun s=>[]) (fun s=>s≤l.length∧(∀ k,k<s→Nn l k≠v)) (fun s=>l.length - s) (0) G ⟨rfl,rfl,rfl,rfl,rfl,tv⟩ ⟨rfl,tv⟩ ⟨Yw _,fun k hk=>absurd hk (Y9 k)⟩ ?_
 clear G;intro i a w F hC G
 try dsimp only at hC
 obtain ⟨F,G⟩:=G.nM [8,7,4,1,0] [0]
 try dsimp only at G
 obtain ⟨hi,hq⟩:=hC
 refine Ya (rZ G (qL r2) Z [9,8,7,4,1,0] [0] fun G=>Ya ?_)
 refine Zc G rfl (fun hc0=>?_) (fun hc0=>?_)
 ·have hil:i<l.length:=by simp at hc0;omega
  refine Yf (Za (Ya (Yg (Ya (rZ G (qR rr (qO rr qZ)) Z [8,7,5,4,1,0] [0] fun G=>Ya ?_)))))
  refine Zg G (qR rr (qR rr (qR rr (qy 1 YbZ r2 (qf (oR false 1 .t) r1 qz (qf (o_eql .t .t) r2 qz qZ)))))) Z [16,8,7,5,4,1,0] [0] rfl rfl fun a w F G=>?_
  try simp only [Yc] at G
  refine Za (Zc G rfl (fun hc1=>?_) (fun hc1=>?_))
  ·have hg:(i:Int)=Zc4 v l:=(ZiU hil (by simp at hc1;omega) hq).symm
   refine Ya (rZ G (qR rr (qO rr qZ)) Z [8,7,4,1,0] [0] fun G=>(Yh (ZB (Zm (Zm (ZB (Zm ?_)))))))
   refine Zw hfr G rfl rfl rfl (.int hg)
  have hne:Nn l i≠v:=by simp at hc1;omega
  refine Yf (Zk (Za (rZ G (qp r1 (qR rr qZ)) Z [8,7,4,1,0] [0] fun G=>?_)))
  replace G:=G.ent (i:=8) (s':=.pv (.int .i64 ((i+1:Nat):Int))) rfl (.int (Zd ow))
  obtain ⟨F,G⟩:=G.nM [7,4,1,0,8] [0]
  exact ⟨(i+1),F,⟨by omega,(fun k hk=>by rcases Y8 (Yad hk) with h | h;exact hq k h;rw [h];exact hne)⟩,G,by omega⟩
 have hil:i=l.length:=by simp at hc0;omega
 have hg : -1=Zc4 v l:=(ZeJ fun k hk=>hq k (by simp at hc0;omega)).symm
 refine Yx (Zj (Zj (Zr (Za (Ya (rZ G (qI qZ) Z [4] [0] fun G=>Yh ?_))))))
 refine Zw hfr G rfl rfl rfl (.int hg)
theorem Zr4 (x y:List Int):FnP prog 93 [.sl Zo x,.sl Zo y] (.bool (decide (x=y))):=by
 refine FnP.mk func93 rfl ntmps93 rfl fun B a w F Z hfr G=>?_
 have hxl:=Sat.lenSl G (i:=0) rfl
 refine Ya (rZ G qB Z [4,1,0] [0] fun G=>(Ya (Ya ?_)))
 refine rZ G (qR rr (qu YbZ r1 (qR rr (qu YbZ r1 (qf (o_neq .t .t) r2 qz qZ))))) Z [10,4,1,0] [0] fun G=>?_
 refine Zc G rfl (fun hc0=>?_) (fun hc0=>?_)
 ·have hg:false=decide (x=y):=by
    rw [Yay,YH]
    intro h
    subst h
    simp at hc0
  refine Ya (rZ G qB Z [4,1,0] [0] fun G=>(Yh (Zm ?_)))
  refine Zw hfr G rfl rfl rfl (.bool hg)
 have hl:x.length=y.length:=by simp at hc0;omega
 refine Yf (Za (Ya (Ya (rZ G (qR rr (qu YbZ r1 (qJ qZ))) Z [13,12,4,1,0] [0] fun G=>Yg ?_))))
 obtain ⟨F,G⟩:=G.nM [13,12,1,0] [0]
 refine Zbb (σ:=Nat) (fun s=>(⟨[(0,.pv (.sl Zo x)),(1,.pv (.sl Zo y)),(12,.pv (.int .i64 x.length)),(13,.pv (.int .i64 s))],[(0,frame B)]⟩:En)) (fun s=>s≤x.length ∧ ∀ j,j<s→Nn x j=Nn y j) (fun s=>x.length - s) 0 G ⟨Yw _,fun j hj=>absurd hj (Y9 j)⟩ ?_
 clear G;intro i a w F hC G
 try dsimp only at hC
 try dsimp only at G
 obtain ⟨hi,hq⟩:=hC
 refine Ya (rZ G (qL r2) Z [14,13,12,1,0] [0] fun G=>Ya ?_)
 refine Zc G rfl (fun hc1=>?_) (fun hc1=>?_)
 ·have hil:i<x.length:=by simp at hc1;omega
  refine Yf (Za (Ya (Yg (Ya (rZ G (qR rr (qO rr qZ)) Z [13,12,5,1,0] [0] fun G=>Ya ?_)))))
  refine Zz G (qR rr (qR rr (qy 1 YbZ r2 (qf (oR false 1 .t) r1 qz (qR rr (qR rr (qy 1 YbZ r2 (qf (oR false 1 .t) r1 qz (qf (o_neq .t .t) r2 qz qZ))))))))) Z [24,13,12,1,0] [0] rfl rfl fun a w F G=>?_
  try dsimp only [List.map,xD,xE,xT,xU,ldSF] at G
  refine Za (Zc G rfl (fun hc2=>?_) (fun hc2=>?_))
  ·have hg:false=decide (x=y):=by
     rw [Yay,YH]
     intro h
     subst h
     simp at hc2
   refine Ya (rZ G qB Z [13,12,4,1,0] [0] fun G=>(Yh (ZB (Zm (Zm (ZB (Zm ?_)))))))
   refine Zw hfr G rfl rfl rfl (.bool hg)
  rw [Yc] at hc2
  have hqi:Nn x i=Nn y i:=by simpa using hc2
  refine Yf (Zk (Za (rZ G (qp r1 (qR rr qZ)) Z [13,12,1,0] [0] fun G=>?_)))
  replace G:=G.ent (i:=13) (s':=.pv (.int .i64 ((i+1:Nat):Int))) rfl (.int (Zd ow))
  obtain ⟨F,G⟩:=G.nM [13,12,1,0] [0]
  exact ⟨i+1,F,⟨by omega,fun j hj=>by rcases Y8 (Yad hj) with h | h;exact hq j h;rw [h];exact hqi⟩,G,by omega⟩
 have hg:true=decide (x=y):=by
   rw [Yay,Yu]
   exact ZaK hl fun j hj=>hq j (by simp at hc1;omega)
 refine Yx (Zj (Zj (Zr (Za (Ya (rZ G qB Z [4] [0] fun G=>Yh ?_))))))
 refine Zw hfr G rfl rfl rfl (.bool hg)
theorem ZsO (x y:List Int) (hx:x.length≤1000000) (hy:y.length≤1000000):FnP prog 47 [.sl Zo x,.sl Zo y] (.bool (decide (x.Perm y))):=by
 refine FnP.mk func47 rfl ntmps47 rfl fun B a w F Z hfr G=>Ya ?_
 refine rZ G qB Z [4,1,0] [0] fun G=>Ya ?_
 replace G:=G.fresh 101 rfl
 replace G:=G.fresh 102 rfl
 refine Zb G (qR rr (qf (ZaE 101 (ZkH x hx) func42 rfl kr (Args.one .t) pvOne1) r1 r1 (qR rr (qf (ZaE 102 (ZkH y hy) func42 rfl kr (Args.one .t) pvOne1) r1 r1 (qO rr (qO rr qZ)))))) Z [6,5,4] [102,101,0] (fun _=>rfl) (fun _=>rfl) fun τ a w F G=>?_
 try dsimp only [RS.sub,SF.sub,CF.sub,csub,Anc.sub,List.map,Zo] at G
 generalize τ 8=v8,τ 10=v10 at G
 refine Za (Ya (rZ G (qR rr (qf (Za3 101 (Zio _ x hx) func92 rfl kr (Args.one .t)) r1 r1 qZ)) Z [6,5,4] [102,101,0] fun G=>Ya ?_))
 refine rZ G (qR rr (qf (Za3 102 (Zio _ y hy) func92 rfl kr (Args.one .t)) r1 r1 qZ)) Z [6,5,4] [102,101,0] fun G=>Ya ?_
 refine rZ G (qR rr (qR rr (qf (OpC.lendRow 102 [16] (OpC.lendRow 101 [15] (oP (Zr4 _ _) func93 (Args.two .t .t)) ⟨rfl,tv,tv⟩ (.pv (fun _ _ _ _ h=>h)) trivial (by rfl)) ⟨tv,rfl,tv⟩ (.pv (fun _ _ _ _ h=>h)) trivial (by rfl)) r2 r2 (qO rr qZ)))) Z [4] [102,101,0] fun G=>Yh ?_
 refine Zw hfr G rfl rfl rfl (.bool (by rw [decide_eq_decide];exact Zoq))
def zeroT:TxD:=⟨0,false,[]⟩
def ZaI (l:List TxD):Prop:=l.length≤1000 ∧ ∀ t ∈ l,t.ops.length≤1000
def Zgw (l:List OrdD):Prop:=l.length≤4000 ∧ ∀ o ∈ l,o.txs.length≤1000
def ZbY (h:Zq):Prop:=ZaI h.txs∧Zgw h.orders
theorem ZaI.at {l:List TxD} (h:ZaI l) {i:Nat} (hi:i<l.length):(Nn l i).ops.length≤1000:=h.2 _ (nth_mem hi)
theorem Zgw.at {l:List OrdD} (h:Zgw l) {i:Nat} (hi:i<l.length):(Nn l i).txs.length≤1000:=h.2 _ (nth_mem hi)
def Z0 (l:List TxD) (id:Int):Option TxD:=l.find? fun t=>decide (t.id=id)
theorem Zps {l:List TxD} {id:Int} {i:Nat} (hi:i<l.length) (h:(Nn l i).id=id) (hq:∀ k,k<i→(Nn l k).id≠id):Z0 l id=some (Nn l i):=by
 unfold Z0
 rw [List.find?_eq_some_iff_getElem]
 refine ⟨by simpa using h,i,hi,(nth_eq hi).symm,fun j hj=>?_⟩
 have:=hq j hj
 rw [nth_eq ow] at this
 simpa using this
theorem Zk6 {l:List TxD} {id:Int} (hq:∀ k,k<l.length→(Nn l k).id≠id):Z0 l id=none:=by
 unfold Z0
 rw [Ybv]
 intro x hx
 obtain ⟨k,hk,e⟩:=YY hx
 have:=hq k hk
 rw [nth_eq hk,e] at this
 simpa using this
theorem findT_mem {l:List TxD} {id:Int} {t:TxD} (h:Z0 l id=some t):t ∈ l∧t.id=id:=⟨List.mem_of_find?_eq_some h,by have:=List.find?_some h;simpa using this⟩
def ZqV (h:Zq) (v:ZbN):Bool:=if v.tx=0∧v.nth=0 then decide (1≤v.key∧v.key≤1048575) else (Z0 h.txs v.tx).isSome && (decide (1≤v.nth) && decide (v.nth≤(wcnt ((Z0 h.txs v.tx).getD zeroT).ops v.key:Int)))
def Zkq (h:Zq) (t:TxD):Bool:=(Zkd t).all (ZqV h)
def Za0 (t:TxD):List Int:=Zbu ((t.ops.filter fun o=>!o.read).map OpD.key)
theorem Zdy {t:TxD} {k:Int} : k ∈ Za0 t ↔ 0<wcnt t.ops k:=by
 unfold Za0
 rw [(ZP _).2,Yv]
 unfold wcnt
 rw [List.length_pos_iff_exists_mem]
 constructor
 ·rintro ⟨o,ho,e⟩
  rw [YV] at ho
  exact ⟨o,by rw [YV];exact ⟨ho.1,by simp [e];simpa using ho.2⟩⟩
 ·rintro ⟨o,ho⟩
  rw [YV] at ho
  simp at ho
  exact ⟨o,by rw [YV];simp [ho.1,ho.2.1],ho.2.2⟩
theorem Zfy (t:TxD):(Za0 t).length≤t.ops.length:=Y6 (Zfo _) (by rw [YF];exact Y3 _ _)
def ZW (l:List TxD) (k:Int):List Int:=(l.filter fun t=>t.done && decide (0<wcnt t.ops k)).map TxD.id
theorem Zeb (l:List TxD) (k:Int):(ZW l k).length≤l.length:=by unfold ZW;rw [YF];exact Y3 _ _
theorem ZdI {l:List TxD} {i:Nat} (hi:i<l.length) (k:Int):ZW (l.take (i+1)) k=ZW (l.take i) k++if (Nn l i).done=true∧0<wcnt (Nn l i).ops k then [(Nn l i).id] else []:=by
 unfold ZW
 rw [Zt hi,Yaa,YK]
 congr 1
 by_cases h:(Nn l i).done=true∧0<wcnt (Nn l i).ops k
 ·rw [Ye h,Yab (by simp [h.1,h.2])];rfl
 ·rw [Yb h,Yag (by simp;intro e;exact Nat.eq_zero_of_not_pos fun e2=>h ⟨e,e2⟩)];rfl
def Zcg (l:List TxD):List Int:=Zbu ((l.filter fun t=>t.done).flatMap Za0)
theorem Zpv {l:List TxD} (h:ZaI l) (i:Nat):(Zcg (l.take i)).length≤1000*i:=by
 unfold Zcg
 refine Y6 (Zfo _) ?_
 have key:∀ l:List TxD,(∀ t ∈ l,t.ops.length≤1000)→((l.filter fun t=>t.done).flatMap Za0).length≤1000*l.length:=by
  intro l
  induction l with
  | nil=>intro _;simp
  | cons t l ih=>
   intro h
   have h1:=ih fun x hx=>h x (by simp [hx])
   have h2:=h t (by simp)
   have h3:=Zfy t
   by_cases hd:t.done=true
   ·rw [Yab (by simpa using hd),YX,Yd,Yl]
    omega
   ·rw [Yag (by simpa using hd),Yl]
    omega
 have h1:=key (l.take i) fun t ht=>h.2 t (Yao ht)
 have h2:(l.take i).length≤i:=by rw [Yj];omega
 exact Y6 h1 (Ya6 _ h2)
theorem ZnO {l:List TxD} (h:ZaI l):(Zcg l).length≤1000000:=by
 have h1:=Zpv h l.length
 rw [YC] at h1
 have:=h.1
 omega
theorem ZcC {l:List TxD} {k:Int} : k ∈ Zcg l ↔ ZW l k≠[]:=by
 unfold Zcg
 rw [(ZP _).2,Yau]
 unfold ZW
 rw [ne_eq,List.map_eq_nil_iff,YaU]
 constructor
 ·rintro ⟨t,ht,hk⟩ hn
  rw [YV] at ht
  have:=hn t ht.1
  simp [ht.2] at this
  have:=Zdy.1 hk
  simp_all
 ·intro hn
  simp only [Classical.not_forall] at hn
  obtain ⟨t,ht,h2⟩:=hn
  simp at h2
  exact ⟨t,by rw [YV];exact ⟨ht,by simpa using h2.1⟩,Zdy.2 (Nat.pos_of_ne_zero h2.2)⟩
def Zl2 (h:Zq) (i:Nat):Prop:=(0<i→(Nn h.txs (i - 1)).id<(Nn h.txs i).id)∧Za7 (Nn h.txs i)=0∧Zkq h (Nn h.txs i)=true
instance (h:Zq) (i:Nat):Decidable (Zl2 h i):=by unfold Zl2;exact inferInstance
def Zp0 (h:Zq) (i:Nat):Prop:=(Nn h.orders i).key=Nn (Zcg h.txs) i∧(Nn h.orders i).txs.Perm (ZW h.txs (Nn h.orders i).key)
instance (h:Zq) (i:Nat):Decidable (Zp0 h i):=by unfold Zp0;exact inferInstance
def ZK (h:Zq):Prop:=h.txs.length≤4096∧(∀ i,i<h.txs.length→Zl2 h i)∧h.orders.length=(Zcg h.txs).length ∧ ∀ i,i<h.orders.length→Zp0 h i
instance (h:Zq):Decidable (ZK h):=by unfold ZK;exact inferInstance
def Ze5 (h:Zq) (i:Nat):Prop:=(0<i→(Nn h.orders (i - 1)).key<(Nn h.orders i).key)∧(Nn h.orders i).txs≠[]∧(Nn h.orders i).txs.Perm (ZW h.txs (Nn h.orders i).key)
theorem ZeW:∀ {l:List Int},(∀ i,i<l.length→0<i→Nn l (i - 1)<Nn l i)→Zdp l
 | [],_=>List.Pairwise.nil
 | [x],_=>by simp
 | x :: y :: l,h=>by
  have ih:=ZeW (l:=y :: l) fun i hi h0=>by
   have:=h (i+1) (by simpa using hi) ow
   obtain ⟨j,rfl⟩:∃ j,i=j+1:=⟨i - 1,by omega⟩
   have hj:j<l.length:=by simpa using hi
   rw [nth_eq (l:=x :: y :: l) (by simp;omega),nth_eq (l:=x :: y :: l) (by simp;omega)] at this
   rw [nth_eq (l:=y :: l) (by simp;omega),nth_eq (l:=y :: l) (by simp;omega)]
   exact this
  have h1:=h 1 (by simp) ow
  rw [nth_eq (by simp),nth_eq (by simp)] at h1
  simp at h1
  have ih2:=Yq.1 ih
  refine Yq.2 ⟨fun z hz=>?_,ih⟩
  rcases Yk.1 hz with rfl | hz
  ·exact h1
  ·have:=ih2.1 z hz;omega
theorem Zsb {l:List Int} (h:Zdp l) {i:Nat} (hi:i<l.length) (h0:0<i):Nn l (i - 1)<Nn l i:=by
 rw [nth_eq hi,nth_eq ow]
 exact Yah.1 h (i - 1) i ow hi ow
theorem Zjv:∀ {b a:List Int},Zdp a→Zdp b→(∀ x ∈ a,x ∈ b)→a.length≤b.length∧(a.length=b.length→a=b)
 | [],a,_,_,h=>by
  have:a = []:=List.eq_nil_iff_forall_not_mem.2 fun x hx=>by cases h x hx
  subst this;simp
 | y :: b,[],_,_,_=>⟨by simp,fun h=>by simp at h⟩
 | y :: b,x :: a,ha,hb,h=>by
  have ha':=Yq.1 ha
  have hb':=Yq.1 hb
  by_cases e:x=y
  ·subst e
   have ih:=Zjv (b:=b) (a:=a) ha'.2 hb'.2 fun z hz=>by
    rcases Yk.1 (h z (by simp [hz])) with e | e
    ·have:=ha'.1 z hz;omega
    ·exact e
   exact ⟨by simp;exact ih.1,fun hl=>by rw [ih.2 (by simpa using hl)]⟩
  ·have hx:y<x:=by
    rcases Yk.1 (h x (by simp)) with e2 | e2
    ·exact absurd e2 e
    ·exact hb'.1 x e2
   have ih:=Zjv (b:=b) (a:=x :: a) ha hb'.2 fun z hz=>by
    rcases Yk.1 (h z hz) with e2 | e2
    ·rcases Yk.1 hz with e3 | e3
     ·omega
     ·have:=ha'.1 z e3;omega
    ·exact e2
   exact ⟨by have:=ih.1;simp at this ⊢;omega,fun hl=>by have:=ih.1;simp at this hl;omega⟩
theorem Zcf {α β:Type} [Inhabited α] [Inhabited β] {f:α→β} {l:List α} {i:Nat} (h:i<l.length):Nn (l.map f) i=f (Nn l i):=by
 rw [nth_eq (by simpa using h),nth_eq h];simp
theorem ZcT (h:Zq):(h.orders.length=(Zcg h.txs).length ∧ ∀ i,i<h.orders.length→Ze5 h i) ↔ (h.orders.length=(Zcg h.txs).length ∧ ∀ i,i<h.orders.length→Zp0 h i):=by
 have hK:Zdp (Zcg h.txs):=(ZP _).1
 constructor
 ·rintro ⟨hl,hq⟩
  refine ⟨hl,?_⟩
  have hO:Zdp (h.orders.map OrdD.key):=ZeW fun i hi h0=>by
   have hi':i<h.orders.length:=by simpa using hi
   rw [Zcf ow,Zcf hi']
   exact (hq i hi').1 h0
  have hsub:∀ x ∈ h.orders.map OrdD.key,x ∈ Zcg h.txs:=fun x hx=>by
   obtain ⟨o,ho,rfl⟩:=Yv.1 hx
   obtain ⟨k,hk,e⟩:=YY ho
   have:=hq k hk
   unfold Ze5 at this
   rw [nth_eq hk,e] at this
   rw [ZcC]
   intro e2
   rw [e2] at this
   exact this.2.1 (List.Perm.eq_nil this.2.2)
  have he:=(Zjv hO hK hsub).2 (by simpa using hl)
  intro i hi
  refine ⟨?_,(hq i hi).2.2⟩
  rw [← he,Zcf hi]
 ·rintro ⟨hl,hq⟩
  refine ⟨hl,fun i hi=>?_⟩
  have hin:(Nn h.orders i).key ∈ Zcg h.txs:=by rw [(hq i hi).1];exact nth_mem ow
  refine ⟨fun h0=>?_,fun e=>?_,(hq i hi).2⟩
  ·rw [(hq i hi).1,(hq (i - 1) ow).1]
   exact Zsb hK ow h0
  ·have:=(hq i hi).2
   rw [e] at this
   exact ZcC.1 hin this.symm.eq_nil
theorem Zf0 {h:Zq} (hb:4096<h.txs.length):false=decide (ZK h):=(YI fun hr=>by have:=hr.1;omega).symm
theorem Zix {h:Zq} {i:Nat} (hi:i<h.txs.length) (hb:¬ Zl2 h i):false=decide (ZK h):=(YI fun hr=>hb (hr.2.1 i hi)).symm
theorem Zhh {h:Zq} (hb:h.orders.length≠(Zcg h.txs).length):false=decide (ZK h):=(YI fun hr=>hb hr.2.2.1).symm
theorem ZfX {h:Zq} {i:Nat} (hi:i<h.orders.length) (hb:¬ Ze5 h i):false=decide (ZK h):=(YI fun hr=>hb (((ZcT h).2 hr.2.2).2 i hi)).symm
theorem Zi3 {h:Zq} (h1:h.txs.length≤4096) (h2:∀ i,i<h.txs.length→Zl2 h i) (h3:h.orders.length=(Zcg h.txs).length) (h4:∀ i,i<h.orders.length→Ze5 h i):true=decide (ZK h):=(Yaf ⟨h1,h2,(ZcT h).1 ⟨h3,h4⟩⟩).symm
def ZrC (l:List Int):Option (List Int):=if l = [] then none else some l
theorem Zj2 (l:List Int):(ZrC l).getD [] = l:=by
 unfold ZrC
 split
 ·rename_i h;rw [h];rfl
 ·rfl
def WrL (es:List (GE Int (List Int))) (l:List TxD):Prop:=GNd es ∧ ∀ k,gGet k es=ZrC (ZW l k)
def WrV (es:List (GE Int (Value×List Int))) (l:List TxD) (id:Int) (ks:List Int):Prop:=GNd es ∧ ∀ k,(gGet k es).map (·.2)=ZrC (ZW l k++if k ∈ ks then [id] else [])
theorem Zrx {id:Int} : WrV [] [] id []:=⟨by simp [GNd],fun k=>by simp [gGet,ZW,ZrC]⟩
theorem ZoG {es:List (GE Int (Value×List Int))} {l:List TxD} {id:Int} (h:WrV es l id []):WrL (Zee es) l:=⟨by unfold GNd;rw [Zi7];exact h.1,fun k=>by rw [Zgx,h.2];simp⟩
theorem Zqi {es:List (GE Int (Value×List Int))} {l:List TxD} {id id':Int} (h:WrV es l id []):WrV es l id' []:=⟨h.1,fun k=>by rw [h.2];simp⟩
theorem Zq7 {es:List (GE Int (Value×List Int))} {l:List TxD} {i:Nat} {id:Int} (h:WrV es (l.take i) id []) (hi:i<l.length) (hd:(Nn l i).done=false):WrV es (l.take (i+1)) id []:=⟨h.1,fun k=>by rw [h.2,ZdI hi];simp [hd]⟩
theorem ZrW {es:List (GE Int (Value×List Int))} {l:List TxD} {i:Nat} {id:Int} (h:WrV es (l.take i) (Nn l i).id (Za0 (Nn l i))) (hi:i<l.length) (hd:(Nn l i).done=true):WrV es (l.take (i+1)) id []:=⟨h.1,fun k=>by
 rw [h.2,ZdI hi]
 congr 1
 simp only [YbG,Yn,YN]
 congr 1
 by_cases hk:k ∈ Za0 (Nn l i)
 ·rw [Ye hk,Ye ⟨hd,Zdy.1 hk⟩]
 ·rw [Yb hk,Yb fun h9=>hk (Zdy.2 h9.2)]⟩
theorem ZqO {es:List (GE Int (Value×List Int))} {l:List TxD} {id:Int} {ks:List Int} {j:Nat} (h:WrV es l id (ks.take j)) (hn:ks.Nodup) (hj:j<ks.length):((gGet (Nn ks j) es).getD ZgW).2=ZW l (Nn ks j):=by
 have h1:=h.2 (Nn ks j)
 have hni:Nn ks j ∉ ks.take j:=fun hm=>by
  rw [nth_eq hj] at hm
  obtain ⟨k,hk,e⟩:=YY hm
  rw [Yj] at hk
  rw [List.getElem_take] at e
  have h3:=Yah.1 hn k j ow hj ow
  exact h3 e
 rw [Yb hni,YN] at h1
 have h2:=Zj2 (ZW l (Nn ks j))
 rw [← h1] at h2
 rw [← h2]
 cases gGet (Nn ks j) es <;> rfl
theorem ZrG {es:List (GE Int (Value×List Int))} {l:List TxD} {id:Int} {ks:List Int} {j ck:Nat} {v:Value} (h:WrV es l id (ks.take j)) (hn:ks.Nodup) (hj:j<ks.length):WrV (gPut (Nn ks j) (v,((gGet (Nn ks j) es).getD ZgW).2 ++ [id]) (es,ck)).1 l id (ks.take (j+1)):=⟨GNd.put h.1,fun k=>by
 rw [ZcZ,ZqO h hn hj,Zt hj]
 by_cases e:k=Nn ks j
 ·subst e
  rw [Ye rfl,Ye (by simp)]
  simp [ZrC]
 ·rw [Yb e,h.2]
  simp [e]⟩
theorem ZsD {es:List (GE Int (List Int))} {l:List TxD} (h:WrL es l) (k:Int):(gGet k es).getD [] = ZW l k:=by rw [h.2,Zj2]
theorem ZsS {es:List (GE Int (List Int))} {l:List TxD} (h:WrL es l):es.length=(Zcg l).length:=by
 have h1:(es.map (·.key)).Perm (Zcg l):=by
  refine (List.perm_ext_iff_of_nodup h.1 ((ZP _).1.imp fun h=>Int.ne_of_lt h)).2 fun k=>?_
  rw [← Zeq,h.2,show (k ∈ Zbu ((l.filter fun t=>t.done).flatMap Za0)) ↔ ZW l k≠[] from ZcC]
  unfold ZrC
  split <;> simp_all
 simpa using h1.length_eq
theorem Zfl (t:TxD):(Za0 t).Nodup:=(ZP _).1.imp fun h=>Int.ne_of_lt h
theorem ZqC {α:Type} {R:α→List PV} {w:World} {y:Ys} : (PV.sl R ([]:List α)).p (.slice none 0 0) w y:=⟨none,0,rfl,YL _,by unfold maxLen;omega,.inl rfl⟩
theorem Zpz (t:TxD) (hl:t.ops.length≤1000000):FnP prog 62 [.agg (rTx t)] (.agg (rTx t)):=by
 refine FnP.mk func62 rfl ntmps62 rfl fun B a w F Z hfr G=>Ya ?_
 refine Zb G (qx 101 r1 (qf (oH [.int .i64 0,.bool false,.slice none 0 0] 102) trivial qz qZ)) Z [2,1] [102,101,0] (fun _=>rfl) (fun _=>rfl) fun τ a w F G=>?_
 try dsimp only [RS.sub,SF.sub,CF.sub,csub,Anc.sub,List.map,zCF,Zx,rTx,ZV,ZQ,Zo,rOp] at G
 generalize τ 1=v1,τ 2=v2 at G
 refine Za (Ya ?_)
 replace G:=G.fresh 103 rfl
 refine Zb G (qg 2 101 r1 r1 (qa 101 r1 r1 (qf (ZaE 103 (ZoC t.ops hl) func102 rfl kr (Args.one .t) pvOne1) r1 r1 (qg 2 101 r1 r1 (qf (Zcc 101 .adr kr kr) r2 r1 qZ))))) Z [2,1] [103,102,101,0] (fun _=>rfl) (fun _=>rfl) fun τ a w F G=>?_
 try dsimp only [RS.sub,SF.sub,CF.sub,csub,Anc.sub,List.map,Zf,xL,xM,Nat.reduceAdd,xD,xE,xT,xU,xC,xN,zCF,ldSF,Zx,rTx,ZV,ZQ,Zo,rOp] at G
 generalize τ 5=v5 at G
 obtain ⟨F,G⟩:=G.giveCell 103 101 2 rfl rfl rfl rfl rfl
 try dsimp only [List.set] at G
 obtain ⟨F,G⟩:=G.nM [2,1] [102,101,0]
 refine Za (Ya (rZ G (qe 3 101 r1 r1 (qs 3 102 r2 r1 qZ)) Z [2] [102,101,0] fun G=>Yh ?_))
 refine Zad hfr G rfl (.cl 102 true 3 rfl rfl .nil) (.one (.aggU rfl rfl))
theorem Zqz (g:Zq) (id:Int) (hs:ZaI g.txs):FnP prog 28 [.agg (Zx g),.int .i64 id] (.tup [.agg (rTx ((Z0 g.txs id).getD zeroT)),.bool (Z0 g.txs id).isSome]):=by
 refine FnP.mk func28 rfl ntmps28 rfl fun B a w F Z hfr G=>?_
 have hsl:=hs.1
 refine Ya (Zb G (qx 101 r1 (qf (oH [.int .i64 0,.bool false,.slice none 0 0] 102) trivial qz qB)) Z [5,4,2,1] [102,101,0] (fun _=>rfl) (fun _=>rfl) fun τ a w F G=>?_)
 try dsimp only [RS.sub,SF.sub,CF.sub,csub,Anc.sub,List.map,zCF,Zx,rTx,ZV,ZQ,Zo,rOp] at G
 generalize τ 2=v2,τ 4=v4 at G
 refine Za (Ya (Ya (rZ G (qg 0 101 r1 r1 (qa 101 r1 r1 (qu Yb3 r1 (qJ qZ)))) Z [11,10,9,5,4,1] [102,101,0] fun G=>Yg ?_)))
 refine Zl (σ:=(Nat)) [1,4,5,9,10] [0,101,102] (fun s=>[(11,.pv (.int .i64 (s:Int)))]) (fun s=>[]) (fun s=>s≤g.txs.length∧(∀ k,k<s→(Nn g.txs k).id≠id)) (fun s=>g.txs.length - s) (0) G ⟨rfl,rfl,rfl,rfl,rfl,rfl,tv⟩ ⟨rfl,rfl,rfl,tv⟩ ⟨Yw _,fun k hk=>absurd hk (Y9 k)⟩ ?_
 clear G;intro i a w F hC G
 try dsimp only at hC
 obtain ⟨F,G⟩:=G.nM [11,10,9,5,4,1] [102,101,0]
 try dsimp only at G
 obtain ⟨hi,hq⟩:=hC
 refine Ya (rZ G (qL r2) Z [12,11,10,9,5,4,1] [102,101,0] fun G=>Ya ?_)
 refine Zc G rfl (fun hc0=>?_) (fun hc0=>?_)
 ·have hil:i<g.txs.length:=by simp at hc0;omega
  refine Yf (Za (Ya (Yg (Ya (Zb G (qy 3 Yb3 r2 (qf (oR true 3 .t) r1 qz (qf (oH [.int .i64 0,.bool false,.slice none 0 0] 103) trivial qz (qS 3 103 r2 r1 qZ)))) Z [11,10,9,7,5,4,1] [103,102,101,0] (fun _=>rfl) (fun _=>rfl) fun τ a w F G=>?_)))))
  try dsimp only [RS.sub,SF.sub,CF.sub,csub,Anc.sub,List.map,Zf,xL,xM,Nat.reduceAdd,xD,xE,xT,xU,xC,xN,zCF,ldSF,Zx,rTx,ZV,ZQ,Zo,rOp] at G
  generalize τ 7=v7 at G
  try simp only [Yc] at G
  refine Za (Ya (rZ G (qg 0 103 r1 r1 (qa 103 r1 r1 (qR rr (qf (o_eql .t .t) r2 qz qZ)))) Z [18,11,10,9,7,5,4,1] [103,102,101,0] fun G=>?_))
  refine Zc G rfl (fun hc1=>?_) (fun hc1=>?_)
  ·have hg:Z0 g.txs id=some (Nn g.txs i):=Zps hil (by simpa using hc1) hq
   refine Ya (rZ G (qe 3 103 r1 r1 (qf (oP (Zpz (Nn g.txs i) (by have:=hs.at hil;omega)) func62 (Args.one (.pagg .t))) r1 qz (qf (oA 3 102 .is (.conv .t .agg)) r2 r1 qB))) Z [11,10,9,5,4,1] [103,102,101,0] fun G=>(Yh (ZB (Zm (Zm (ZB (Zm ?_)))))))
   refine Zad hfr G rfl (.cl 102 true 3 rfl rfl (.tmp rfl .nil)) (.two (by rw [hg];first | exact .aggU rfl rfl | exact .aggLe rfl ⟨.refl,.refl,.nilSl,tv⟩) (.bool (by rw [hg];rfl)))
  have hne:(Nn g.txs i).id≠id:=by simpa using hc1
  refine Yf (Zk (Za (rZ G (qp r1 (qR rr qZ)) Z [11,10,9,5,4,1] [103,102,101,0] fun G=>?_)))
  replace G:=G.ent (i:=11) (s':=.pv (.int .i64 ((i+1:Nat):Int))) rfl (.int (Zd ow))
  obtain ⟨F,G⟩:=G.nM [10,9,5,4,1,11] [102,101,0]
  exact ⟨(i+1),F,⟨by omega,(fun k hk=>by rcases Y8 (Yad hk) with h9 | h9;exact hq k h9;rw [h9];exact hne)⟩,G,by omega⟩
 have hil:i=g.txs.length:=by simp at hc0;omega
 have hg:Z0 g.txs id=none:=Zk6 (by rw [← hil];exact hq)
 refine Yx (Zj (Zj (Zr (Za (Ya (rZ G (qf (oB [] [.int .i64 0,.bool false,.slice none 0 0] [(0,1),(1,1),(2,1)] .nil) trivial qz (qs 3 102 r2 r1 qB)) Z [5,4] [102,101,0] fun G=>Yh ?_))))))
 refine Zad hfr G rfl (.cl 102 true 3 rfl rfl (.tmp rfl .nil)) (.two (by rw [hg];first | exact .aggU rfl rfl | exact .aggLe rfl ⟨.refl,.refl,.nilSl,tv⟩) (.bool (by rw [hg];rfl)))
theorem Ztx (g:Zq) (v:ZbN) (hs:ZaI g.txs):FnP prog 90 [.agg (Zx g),.agg (ZQ v)] (.bool (ZqV g v)):=by
 refine FnP.mk func90 rfl ntmps90 rfl fun B a w F Z hfr G=>Ya ?_
 refine Zb G (qx 101 r1 (qx 102 r1 qB)) Z [4,3,2] [102,101,0] (fun _=>rfl) (fun _=>rfl) fun τ a w F G=>?_
 try dsimp only [RS.sub,SF.sub,CF.sub,csub,Anc.sub,List.map,zCF,Zx,rTx,ZV,ZQ,Zo,rOp] at G
 generalize τ 2=v2,τ 3=v3 at G
 refine Za (Ya (Ya (rZ G (qg 0 102 r1 r1 (qa 102 r1 r1 (qf (o_eql .t qi) r1 qz (qR rr (qv 2 102 rfl r2 r1 (qw 102 rfl r2 r1 (qk rfl (fun h=>o_eql (.w h) qi) r2 qz (qf (ZH .t .t) r2 qz qZ)))))))) Z [14,4,3,2] [102,101,0] fun G=>?_)))
 refine Zc G rfl (fun hc0=>?_) (fun hc0=>?_)
 ·have h0:(v.tx=0∧v.nth=0):=by simpa using hc0
  have hu:ZqV g v=decide (1≤v.key∧v.key≤1048575):=by unfold ZqV;rw [Ye h0]
  refine Ya (rZ G (qg 1 102 r1 r1 (qa 102 r1 r1 (qf (ZbM .t qi) r1 qz (qR rr (qv 1 102 rfl r2 r1 (qw 102 rfl r2 r1 (qk rfl (fun h=>Zlu (.w h) qi) r2 qz (qf (ZH .t .t) r2 qz (qO rr qZ))))))))) Z [4,3,2] [102,101,0] fun G=>(Yh (Zm ?_)))
  refine Zw hfr G rfl rfl rfl (.bool (by first | (rw [hu,YbM];done) | (rw [hu];unfold idB;rw [YbM];done) | (unfold ZqV wcnt;rw [Yb h0,Bool.and_assoc])))
 have h0:¬ (v.tx=0∧v.nth=0):=by simpa using hc0
 have hfl:((Z0 g.txs v.tx).getD zeroT).ops.length≤1000:=by cases hf:Z0 g.txs v.tx with | none=>simp [zeroT] | some t=>exact hs.2 _ (findT_mem hf).1
 refine Yf (Za (Ya (Zb G (qe 2 101 r1 r1 (qg 0 102 r1 r1 (qa 102 r1 r1 (qf (oP (Zqz g v.tx hs) func28 (Args.two (.pagg .t) .t)) r2 qz (qR rr (qf (Zh .t rfl) r1 qz (qf (Zh .t rfl) r1 qz (qf (oH [.int .i64 0,.bool false,.slice none 0 0] 103) trivial qz (qf (oA 3 103 .same (.conv .t .agg)) r2 r1 (qO rr qZ)))))))))) Z [6,5,4,3] [103,102,101,0] (fun _=>rfl) (fun _=>rfl) fun τ a w F G=>?_)))
 try dsimp only [RS.sub,SF.sub,CF.sub,csub,Anc.sub,List.map,Zf,xL,xM,Nat.reduceAdd,xD,xE,xT,xU,xC,xN,zCF,ldSF,Zx,rTx,ZV,ZQ,Zo,rOp] at G
 generalize τ 5=v5 at G
 refine Za (Ya (Zz G (qR rr (qR rr (qv 2 102 rfl r2 r1 (qw 102 rfl r2 r1 (qk rfl (fun h=>ZbM (.w h) qi) r2 qz (qf (ZH .t .t) r2 qz (qR rr (qk rfl (fun h=>oL true 3 103 .is) r2 r1 (qv 1 102 rfl r2 r1 (qw 102 rfl r2 r1 (qk rfl (fun h=>oP (ZfD ((Z0 g.txs v.tx).getD zeroT) v.key ow) func29 (Args.two (.pagg (.w h)) (.w h))) r3 qz (qv 2 102 rfl r2 r1 (qw 102 rfl r2 r1 (qk rfl (fun h=>ZbM (.w h) (.w h)) r3 qz (qf (ZH .t .t) r2 qz (qO rr qZ)))))))))))))))) Z [4] [103,102,101,0] rfl rfl fun a w F G=>?_))
 try dsimp only [List.map,xD,xE,xT,xU,ldSF,Zx,rTx,ZV,ZQ,Zo,rOp] at G
 refine Za (Yh (Zw hfr G rfl rfl rfl (.bool (by first | (rw [hu,YbM];done) | (rw [hu];unfold idB;rw [YbM];done) | (unfold ZqV wcnt;rw [Yb h0,Bool.and_assoc])))))
theorem ZmF {α:Type} [Inhabited α] {p:α→Bool} {l:List α} : decide (0≤Z2 p l)=l.any p:=by
 rcases ZbD p l with ⟨h1,h2⟩ | ⟨i,h1,h2,h3,h4⟩
 ·rw [h1,Yay,show decide ((0:Int) ≤ -1)=false by decide,List.any_eq_false]
  intro x hx
  obtain ⟨k,hk,e⟩:=YY hx
  have:=h2 k hk
  rw [nth_eq hk,e] at this
  simp [this]
 ·rw [h1,show decide ((0:Int)≤(i:Int))=true by simp,Yay,YaJ]
  exact ⟨_,nth_mem h2,h3⟩
theorem Zsk {α:Type} {p:α→Bool} {l:List α} : (!l.any fun v=>!p v)=l.all p:=by
 induction l with
 | nil=>rfl
 | cons x l ih=>rw [YbN,List.all_cons,← ih];cases p x <;> simp
theorem Zri (l : List ZbN) (p : ZbN → Bool) (f : FuncId) (fn : Func) (cps : List PV) (hf : prog.funcs[f]? = some fn) (hb : fn.body.isSome = true) (hnn : (fn.name == "runtime.NumGoroutine") = false) (hw : ∀ x, FnP prog f (.agg (ZQ x) :: cps) (.bool (p x))) : FnP prog 138 [.sl ZQ l, .clos f cps] (.int .i64 (Z2 p l)) := by
 refine FnP.mk func138 rfl ntmps138 rfl fun B a w F Z hfr G=>?_
 have hll:=Sat.lenSl G (i:=0) rfl
 refine Ya (rZ G (qI qZ) Z [4,1,0] [0] fun G=>(Ya (Ya ?_)))
 refine rZ G (qR rr (qu underlying139 r1 (qJ qZ))) Z [8,7,4,1,0] [0] fun G=>Yg ?_
 refine Zl (σ:=(Nat)) [0,1,4,7] [0] (fun s=>[(8,.pv (.int .i64 (s:Int)))]) (fun s=>[]) (fun s=>s≤l.length∧(∀ k,k<s→p (Nn l k)=false)) (fun s=>l.length - s) (0) G ⟨rfl,rfl,rfl,rfl,rfl,tv⟩ ⟨rfl,tv⟩ ⟨Yw _,fun k hk=>absurd hk (Y9 k)⟩ ?_
 clear G;intro i a w F hC G
 try dsimp only at hC
 obtain ⟨F,G⟩:=G.nM [8,7,4,1,0] [0]
 try dsimp only at G
 obtain ⟨hi,hq⟩:=hC
 refine Ya (rZ G (qL r2) Z [9,8,7,4,1,0] [0] fun G=>Ya ?_)
 refine Zc G rfl (fun hc0=>?_) (fun hc0=>?_)
 ·skip
  have hil:i<l.length:=by simp at hc0;omega
  refine Yf (Za (Ya (Yg (Ya (rZ G (qR rr (qO rr qZ)) Z [8,7,5,4,1,0] [0] fun G=>Ya ?_)))))
  refine Zg G (qR rr (qR rr (qR rr (qy 3 underlying139 r2 (qf (oR true 3 .t) r1 qz (qf (Z6 (avs:=[.agg (ZQ (Nn l i))]) .t (hw (Nn l i)) hf hb hnn (Args.one (.pagg .t))) r2 qz qZ)))))) Z [16,8,7,5,4,1,0] [0] rfl rfl fun a w F G=>?_
  try simp only [Yc] at G
  refine Za (Zc G rfl (fun hc1=>?_) (fun hc1=>?_))
  ·skip
   have hg:(i:Int)=Z2 p l:=(Zd4 hil hc1 hq).symm
   refine Ya (rZ G (qR rr (qO rr qZ)) Z [8,7,4,1,0] [0] fun G=>(Yh (ZB (Zm (Zm (ZB (Zm ?_)))))))
   refine Zw hfr G rfl rfl rfl (.int hg)
  have hne:p (Nn l i)=false:=hc1
  refine Yf (Zk (Za (rZ G (qp r1 (qR rr qZ)) Z [8,7,4,1,0] [0] fun G=>?_)))
  replace G:=G.ent (i:=8) (s':=.pv (.int .i64 ((i+1:Nat):Int))) rfl (.int (Zd ow))
  obtain ⟨F,G⟩:=G.nM [7,4,1,0,8] [0]
  exact ⟨(i+1),F,⟨by omega,(fun k hk=>by rcases Y8 (Yad hk) with h | h;exact hq k h;rw [h];exact hne)⟩,G,by omega⟩
 have hil:i=l.length:=by simp at hc0;omega
 have hg : -1=Z2 p l:=(ZcI fun k hk=>hq k (by simp at hc0;omega)).symm
 refine Yx (Zj (Zj (Zr (Za (Ya (rZ G (qI qZ) Z [4] [0] fun G=>Yh ?_))))))
 refine Zw hfr G rfl rfl rfl (.int hg)
theorem Zrp (l : List ZbN) (p : ZbN → Bool) (f : FuncId) (fn : Func) (cps : List PV) (hf : prog.funcs[f]? = some fn) (hb : fn.body.isSome = true) (hnn : (fn.name == "runtime.NumGoroutine") = false) (hw : ∀ x, FnP prog f (.agg (ZQ x) :: cps) (.bool (p x))) : FnP prog 87 [.sl ZQ l, .clos f cps] (.bool (l.any p)) := by
 refine FnP.mk func87 rfl ntmps87 rfl fun B a w F Z hfr G=>Ya ?_
 refine rZ G qB Z [4,1,0] [0] fun G=>Ya ?_
 refine rZ G (qR rr (qR rr (qf (oP (Zri l p f fn cps hf hb hnn hw) func138 (Args.two .t .t)) r2 qz (qf (ZbM .t qi) r1 qz (qO rr qZ))))) Z [4] [0] fun G=>Yh ?_
 refine Zw hfr G rfl rfl rfl (.bool (by rw [ZmF]))
theorem Znq (v:ZbN) (g:Zq) (hs:ZaI g.txs):FnP prog 89 [.agg (ZQ v),.ref (Zx g)] (.bool (!ZqV g v)):=by
 refine FnP.mk func89 rfl ntmps89 rfl fun B a w F Z hfr G=>Ya ?_
 refine Zb G (qx 101 r1 qB) Z [3,2,1] [101,0] (fun _=>rfl) (fun _=>rfl) fun τ a w F G=>?_
 try dsimp only [RS.sub,SF.sub,CF.sub,csub,Anc.sub,List.map,zCF,Zx,rTx,ZV,ZQ,Zo,rOp] at G
 generalize τ 2=v2 at G
 refine Za (Ya (rZ G (qf (oR true 2 .t) r1 qz (qe 3 101 r1 r1 (qf (oP (Ztx g v hs) func90 (Args.two (.pagg .t) (.pagg .t))) r2 qz (qf (o_not .t) r1 qz (qO rr qZ))))) Z [3] [101,0] fun G=>Yh ?_))
 refine Zw hfr G rfl rfl rfl .refl
theorem ZoU (g:Zq) (t:TxD) (hs:ZaI g.txs) (ht:t.ops.length≤1000):FnP prog 45 [.agg (Zx g),.agg (rTx t)] (.bool (Zkq g t)):=by
 refine FnP.mk func45 rfl ntmps45 rfl fun B a w F Z hfr G=>Ya ?_
 refine Zb G (qx 101 r1 (qx 102 r1 qB)) Z [4,3,2] [102,101,0] (fun _=>rfl) (fun _=>rfl) fun τ a w F G=>?_
 try dsimp only [RS.sub,SF.sub,CF.sub,csub,Anc.sub,List.map,zCF,Zx,rTx,ZV,ZQ,Zo,rOp] at G
 generalize τ 2=v2,τ 3=v3 at G
 refine Za (Ya (Zbj 2 G kr (cG rfl (oL true 3 102 .is) r1 r1 (cG rfl (oP (ZnG t ow) func88 (Args.one (.pagg .t))) r1 trivial Zai.nil)) kr (by rw [Z];kernel_rfl) fun a w F G=>?_))
 obtain ⟨F,G⟩:=G.nM [6,4,2] [102,101,0]
 try dsimp only [List.map,xD,xE,xT,xU,ldSF,Zx,rTx,ZV,ZQ,Zo,rOp] at G
 obtain ⟨F,G⟩:=G.giveRef 101 2 rfl rfl rfl
 obtain ⟨F,G⟩:=G.nM [6,4,2] [102,0]
 try dsimp only [Go.Gm.unCF] at G
 refine Zb0 G kr (cG rfl (Zbk (Args.one .t)) r1 trivial (cG rfl (oP (Zrp (Zkd t) (fun v=>!ZqV g v) 89 f89 [.ref (Zx g)] func89 rfl kr (fun v=>Znq v g hs)) func87 (Args.two .t .t)) r2 trivial (cG rfl (o_not .t) r1 trivial (cG rfl (oN .t) r1 trivial Zai.nil)))) kr (by rw [Z];kernel_rfl) fun a w F G=>?_
 obtain ⟨F,G⟩:=G.nM [4] [102,0]
 try dsimp only [Zx,rTx,ZV,ZQ,Zo,rOp] at G
 refine Za (Yh (Zw hfr G rfl rfl rfl (.bool (by rw [Zsk];rfl))))
theorem Zmr (g:Zq) (hs:ZaI g.txs):FnG prog 46 1 [.agg (Zx g)] [.star []] (PV.one) (fun v=>[HP.ex fun s:List (GE Int (List Int))×Nat=>HP.and (WrL s.1 g.txs) (Zbt (fun l:List Int=>PV.sl Zo l) (fun _=>True) (fun n:Int=>Value.int .i64 n) s.1 s.2 v)]):=by
 refine FnG.mk func46 rfl ntmps46 rfl kr fun B F0 a w F Z hG G=>?_
 have hsl:=hs.1
 obtain ⟨F,G⟩:=G.nM [0] [0]
 refine Ya (Zb G (qx 101 r1 (qC qZ)) Z [2,1] [101,0] (fun _=>rfl) (fun _=>rfl) fun τ a w F G=>?_)
 try dsimp only [RS.sub,SF.sub,CF.sub,csub,Anc.sub,List.map,zCF,Zx,rTx,ZV,ZQ,Zo,rOp] at G
 generalize τ 1=v1 at G
 refine Za (Ya (Zb G (qf (ZaG (ek:=(fun p:Value×List Int=>PV.is p.1)) (ok:=(fun _=>True)) (kv:=(fun n:Int=>Value.int .i64 n)) 102) trivial qz (qO rr qZ)) Z [3,2,1] [102,101,0] (fun _=>rfl) (fun _=>rfl) fun τ a w F G=>?_))
 try dsimp only [RS.sub,SF.sub,CF.sub,csub,Anc.sub,List.map,Zf,xL,xM,Nat.reduceAdd,xD,xE,xT,xU,xC,xN,zCF,Zx,rTx,ZV,ZQ,Zo,rOp] at G
 generalize τ 8=v8 at G
 replace G:=G.fresh 60 rfl
 replace G:=G.turn 60 rfl (r':=Zqh 3 1 Zo ([]:List (GE Int (Value×List Int)))) (fun _ _ _ _ h=>h)
 obtain ⟨F,G⟩:=G.nM [3,2,1] [102,101,60,0]
 refine Za (Ya (Ya (rZ G (qg 0 101 r1 r1 (qa 101 r1 r1 (qu Yb3 r1 (qJ qZ)))) Z [12,11,10,3,2] [102,101,60,0] fun G=>Yg ?_)))
 refine Zl (σ:=(Nat)×(List (GE Int (Value×List Int)))×(Nat)) [2,3,10,11] [0,101] (fun s=>[(12,.pv (.int .i64 (s.1:Int)))]) (fun s=>[(102,.ob (.val v8) (Zbt (fun p:Value×List Int=>PV.is p.1) (fun _=>True) (fun n:Int=>Value.int .i64 n) s.2.1 s.2.2)),(60,Zqh 3 1 Zo s.2.1)]) (fun s=>s.1≤g.txs.length∧(WrV s.2.1 (g.txs.take s.1) 0 [])) (fun s=>g.txs.length - s.1) ((0),([]),(0)) G ⟨rfl,rfl,rfl,rfl,rfl,tv⟩ ⟨rfl,rfl,rfl,rfl,tv⟩ ⟨Yw _,Zrx⟩ ?_
 clear G;intro s a w F hC G
 obtain ⟨i,es,ck⟩:=s
 try dsimp only at hC
 obtain ⟨F,G⟩:=G.nM [12,11,10,3,2] [102,101,60,0]
 try dsimp only at G
 obtain ⟨hi,hq⟩:=hC
 have hxl:=fun hil:i<g.txs.length=>hs.at hil
 refine Ya (rZ G (qL r2) Z [13,12,11,10,3,2] [102,101,60,0] fun G=>Ya ?_)
 refine Zc G rfl (fun hc0=>?_) (fun hc0=>?_)
 ·have hil:i<g.txs.length:=by simp at hc0;omega
  have hio:=hil
  have hw0:=hq
  have htl:=hxl hil
  have hkt:=Zfy (Nn g.txs i)
  have hsl:=hs.1
  refine Yf (Za (Ya (Yg (Ya (Zb G (qy 3 Yb3 r2 (qf (oR true 3 .t) r1 qz (qf (oH [.int .i64 0,.bool false,.slice none 0 0] 103) trivial qz (qS 3 103 r2 r1 qZ)))) Z [12,11,10,5,3,2] [103,102,101,60,0] (fun _=>rfl) (fun _=>rfl) fun τ a w F G=>?_)))))
  try dsimp only [RS.sub,SF.sub,CF.sub,csub,Anc.sub,List.map,Zf,xL,xM,Nat.reduceAdd,xD,xE,xT,xU,xC,xN,zCF,ldSF,Zx,rTx,ZV,ZQ,Zo,rOp] at G
  generalize τ 5=v5 at G
  try simp only [Yc] at G
  refine Za (Ya (Ya (rZ G (qg 1 103 r1 r1 (qa 103 r1 r1 (qf (o_not .t) r1 qz qZ))) Z [18,12,11,10,5,3,2] [103,102,101,60,0] fun G=>?_)))
  refine Zc G rfl (fun hc1=>?_) (fun hc1=>?_)
  ·have hdn:(Nn g.txs i).done=false:=by simpa using hc1
   obtain ⟨es2,he2⟩:∃ z,z=es:=⟨_,rfl⟩
   obtain ⟨ck2,hc2⟩:∃ z,z=ck:=⟨_,rfl⟩
   have hR2:WrV es2 (g.txs.take (i+1)) 0 []:=by rw [he2];exact Zq7 hw0 hio hdn
   rw [← he2,← hc2] at G
   refine Yx (Zj (Zr (Za (rZ G (qp r1 (qR rr qZ)) Z [12,11,10,3,2] [103,102,101,60,0] fun G=>?_))))
   replace G:=G.ent (i:=12) (s':=.pv (.int .i64 ((i+1:Nat):Int))) rfl (.int (Zd ow))
   obtain ⟨F,G⟩:=G.nM [11,10,3,2,12] [101,0,60,102]
   exact ⟨((i+1),(es2),(ck2)),F,⟨by omega,hR2⟩,G,by omega⟩
  have hdn:(Nn g.txs i).done=true:=by simpa using hc1
  refine Yf (Za (Ya (Zg G (qe 3 103 r1 r1 (qf (oP (Zsj (Nn g.txs i) (by have:=hxl hio;omega)) func91 (Args.one (.pagg .t))) r1 qz (qu YbZ r1 (qJ qZ)))) Z [22,21,20,12,11,10,5,3,2] [103,102,101,60,0] rfl rfl fun a w F G=>?_)))
  rw [show Zbu (((Nn g.txs i).ops.filter fun o=>!o.read).map OpD.key)=Za0 (Nn g.txs i) from rfl] at G
  refine Za (Yg (Zl (σ:=(Nat)×(List (GE Int (Value×List Int)))×(Nat)) [2,3,5,10,11,12,20,21] [0,101,103] (fun s=>[(22,.pv (.int .i64 (s.1:Int)))]) (fun s=>[(102,.ob (.val v8) (Zbt (fun p:Value×List Int=>PV.is p.1) (fun _=>True) (fun n:Int=>Value.int .i64 n) s.2.1 s.2.2)),(60,Zqh 3 1 Zo s.2.1)]) (fun s=>s.1≤(Za0 (Nn g.txs i)).length∧(WrV s.2.1 (g.txs.take i) (Nn g.txs i).id ((Za0 (Nn g.txs i)).take s.1))) (fun s=>(Za0 (Nn g.txs i)).length - s.1) ((0),(es),(ck)) G ⟨rfl,rfl,rfl,rfl,rfl,rfl,rfl,rfl,rfl,tv⟩ ⟨rfl,rfl,rfl,rfl,rfl,tv⟩ ⟨Yw _,(by simpa using Zqi hw0)⟩ ?_))
  clear G;intro s a w F hC G
  obtain ⟨j,es,ck⟩:=s
  try dsimp only at hC
  obtain ⟨F,G⟩:=G.nM [22,21,20,12,11,10,5,3,2] [103,102,101,60,0]
  try dsimp only at G
  obtain ⟨hi,hq⟩:=hC
  refine Ya (rZ G (qL r2) Z [23,22,21,20,12,11,10,5,3,2] [103,102,101,60,0] fun G=>Ya ?_)
  refine Zc G rfl (fun hc2=>?_) (fun hc2=>?_)
  ·have hil:j<(Za0 (Nn g.txs i)).length:=by simp at hc2;omega
   have hwo:=ZqO hq (Zfl _) hil
   have hwn:=Zeb (g.txs.take i) (Nn (Za0 (Nn g.txs i)) j)
   rw [Yj] at hwn
   rw [← hwo] at hwn
   refine Yf (Za (Ya (Yg (Ya (Zg G (qy 1 YbZ r2 (qf (oR false 1 .t) r1 qz (qO rr qZ))) Z [22,21,20,12,11,10,7,5,3,2] [103,102,101,60,0] rfl rfl fun a w F G=>?_)))))
   try simp only [Yc] at G
   refine Za (Zbj 5 G kr (cG rfl (oM .t) r1 trivial (cG rfl (oM .t) r1 trivial (cG rfl (oM .t) r1 trivial (cG rfl (oM .t) r1 trivial (cG rfl (Zae (ek:=(fun p:Value×List Int=>PV.is p.1)) (z0:=ZgW) 102 underlying83 (Zck Yb4) kr (fun _ _=>⟨rfl,rfl⟩) .is (ZG.int .t rfl)) r2 r1 Zai.nil))))) kr (by rw [Z];kernel_rfl) fun a w F G=>?_)
   obtain ⟨F,G⟩:=G.nM [30,27,26,22,21,20,12,11,10,5,3,2] [103,102,101,60,0]
   try dsimp only [Zx,rTx,ZV,ZQ,Zo,rOp] at G
   obtain ⟨F,G⟩:=G.takeKey (T:=3) (sz:=1) (R:=Zo) 60 61 (Nn (Za0 (Nn g.txs i)) j) rfl rfl
   obtain ⟨F,G⟩:=G.nM [30,27,26,22,21,20,12,11,10,5,3,2] [103,102,101,61,60,0]
   refine Zip 4 G kr (cG rfl (oF 0 103 .is) r1 r1 (cG rfl (oL false 1 103 .adr) r1 r1 (cG rfl (o_buildSliceE (sz:=1) (zs:=[.int .i64 0]) (r:=[(0,.tmp 32)]) (l:=[_]) YbZ kr kr kr kr rfl rfl (.one rfl .t one_int kr .nil) rfl) r1 trivial (cG rfl (Z1 (sz:=1) (bs:=8) 61 (.mk' YbZ kr kr) (by intro x;rfl) .is (.arr (l':=[_]) .t) (by simp only [Yd,Yl,Yy];omega) (by decide)) ⟨rfl,rfl,tv⟩ ⟨rfl,tv⟩ Zai.nil)))) kr (by rw [Z];kernel_rfl) fun a w F G=>?_
   replace G:=G.sub
   obtain ⟨F,G⟩:=G.nM [34,27,26,22,21,20,12,11,10,5,3,2] [103,102,101,61,60,0]
   try dsimp only [RS.sub,SF.sub,CF.sub,csub,Anc.sub,List.map,Zf,xL,xM,Nat.reduceAdd,xD,xE,xT,xU,xC,xN,zCF,ldSF,Zx,rTx,ZV,ZQ,Zo,rOp] at G
   generalize Act.tau a 34=v34 at G
   refine Zb0 G kr (cG rfl (o_mapUpdateG (ek:=(fun p:Value×List Int=>PV.is p.1)) (v:=((v34,((gGet (Nn (Za0 (Nn g.txs i)) j) es).getD ZgW).2 ++ [(Nn g.txs i).id]):Value×List Int)) 102 underlying83 (Zck Yb4) .is (ZG.int .t rfl) .t) r3 r1 Zai.nil) kr (by rw [Z];kernel_rfl) fun a w F G=>?_
   obtain ⟨F,G⟩:=G.nM [22,21,20,12,11,10,5,3,2] [103,102,101,61,60,0]
   try dsimp only [Zx,rTx,ZV,ZQ,Zo,rOp] at G
   refine Zk (Za (rZ G (qp r1 (qR rr qZ)) Z [22,21,20,12,11,10,5,3,2] [103,102,101,61,60,0] fun G=>?_))
   obtain ⟨F,G⟩:=G.putKey (T:=3) (sz:=1) (R:=Zo) 60 61 (Nn (Za0 (Nn g.txs i)) j) ck rfl rfl rfl
   replace G:=G.ent (i:=22) (s':=.pv (.int .i64 ((j+1:Nat):Int))) rfl (.int (Zd ow))
   obtain ⟨F,G⟩:=G.nM [21,20,12,11,10,5,3,2,22] [103,101,0,60,102]
   exact ⟨((j+1),((gPut (Nn (Za0 (Nn g.txs i)) j) (v34,((gGet (Nn (Za0 (Nn g.txs i)) j) es).getD ZgW).2 ++ [(Nn g.txs i).id]) (es,ck)).1),((gPut (Nn (Za0 (Nn g.txs i)) j) (v34,((gGet (Nn (Za0 (Nn g.txs i)) j) es).getD ZgW).2 ++ [(Nn g.txs i).id]) (es,ck)).2)),F,⟨by omega,ZrG hq (Zfl _) hil⟩,G,by omega⟩
  have hil:j=(Za0 (Nn g.txs i)).length:=by simp at hc2;omega
  obtain ⟨es2,he2⟩:∃ z,z=es:=⟨_,rfl⟩
  obtain ⟨ck2,hc2⟩:∃ z,z=ck:=⟨_,rfl⟩
  rw [hil,YC] at hq
  have hR2:WrV es2 (g.txs.take (i+1)) 0 []:=by rw [he2];exact ZrW hq hio hdn
  rw [← he2,← hc2] at G
  refine Yx (Zj (Zj (Zr (Zk (Za (rZ G (qp r1 (qR rr qZ)) Z [12,11,10,3,2] [103,102,101,60,0] fun G=>?_))))))
  replace G:=G.ent (i:=12) (s':=.pv (.int .i64 ((i+1:Nat):Int))) rfl (.int (Zd ow))
  obtain ⟨F,G⟩:=G.nM [11,10,3,2,12] [101,0,60,102]
  exact ⟨((i+1),(es2),(ck2)),F,⟨by omega,hR2⟩,G,by omega⟩
 have hil:i=g.txs.length:=by simp at hc0;omega
 have hwl:=ZoG hq
 rw [hil,YC] at hwl
 refine Yx (Zj (Zj (Zr (Za (Ya (rZ G (qR rr (qO rr qZ)) Z [2] [102,101,60,0] fun G=>Yh ?_))))))
 obtain ⟨F,G⟩:=G.giveMap 102 60 rfl rfl rfl
 obtain ⟨F,G⟩:=G.rename 102 1 rfl rfl
 have G:=G.turn 1 rfl (r':=RS.hp (HP.ex fun s:List (GE Int (List Int))×Nat=>HP.and (WrL s.1 g.txs) (Zbt (fun l:List Int=>PV.sl Zo l) (fun _=>True) (fun n:Int=>Value.int .i64 n) s.1 s.2 v8))) (fun _ _ _ _ h=>⟨(Zee es,ck),hwl,h⟩)
 refine Z9 (h':=fun v=>HP.ex fun s:List (GE Int (List Int))×Nat=>HP.and (WrL s.1 g.txs) (Zbt (fun l:List Int=>PV.sl Zo l) (fun _=>True) (fun n:Int=>Value.int .i64 n) s.1 s.2 v)) hG G rfl (.tmp rfl .nil) (.one .one) rfl
theorem ZmV (l:List Int) (tx:Int):FnP prog 15 [.sl Zo l,.int .i64 tx] (.tup [.int .i64 (ZbX l tx).1,.bool (ZbX l tx).2]):=by
 refine FnP.mk func15 rfl ntmps15 rfl fun B a w F Z hfr G=>?_
 have hll:=Sat.lenSl G (i:=0) rfl
 have hxr:=Zgq tx l
 have hxw:IntKind.wrap .i64 (Zc4 tx l+1)=Zc4 tx l+1:=ZC ow
 have hxv:IntKind.wrap .i64 (Zc4 tx l - 1)=Zc4 tx l - 1:=ZC ow
 refine Ya (rZ G (qI qB) Z [5,4,1,0] [0] fun G=>Ya ?_)
 refine rZ G (qI qZ) Z [6,5,4,1,0] [0] fun G=>(Ya (Ya ?_))
 refine rZ G (qR rr (qf (o_neq .t qi) r1 qz qZ)) Z [8,6,5,4,1,0] [0] fun G=>?_
 refine Zc G rfl (fun hc0=>?_) (fun hc0=>?_)
 ·have ht:tx≠0:=by simpa using hc0
  refine Ya (rZ G (qR rr (qR rr (qf (oP (ZrB l tx) func39 (Args.two .t .t)) r2 qz (qp r1 (qO rr qZ))))) Z [6,5,4,0] [0] fun G=>Ya ?_)
  refine rZ G (qR rr (qf (o_eql .t qi) r1 qz qZ)) Z [14,6,5,4,0] [0] fun G=>?_
  refine Zc G rfl (fun hc1=>?_) (fun hc1=>?_)
  ·have hix:Zc4 tx l<0:=by simp [hxw] at hc1;omega
   have hg:ZbX l tx=(0,false):=by unfold ZbX;rw [Ye ⟨ht,hix⟩]
   refine Ya (rZ G (qI qB) Z [6,5,4,0] [0] fun G=>(Yh (Zm ?_)))
   refine Zad hfr G rfl (.tmp rfl (.tmp rfl .nil)) (.two (.int (by rw [hg];first | done | rfl | (rw [hxw];done) | (rw [hxv];done) | (rw [show IntKind.wrap .i64 (-1+1)=0 by decide];done))) (.bool (by rw [hg])))
  have hix:0≤Zc4 tx l:=by simp [hxw] at hc1;omega
  refine Yf (Za (Ya (Ya (rZ G (qR rr (qR rr (qu YbZ r1 (qf (o_eql .t .t) r2 qz qZ)))) Z [18,6,5,4,0] [0] fun G=>?_))))
  refine Zc G rfl (fun hc2=>?_) (fun hc2=>?_)
  ·have hlx:=hc2
   first | rw [hxw] at hlx | skip
   have hg:ZbX l tx=(0,false):=by unfold ZbX;first | (rw [Yb ow,Yb ht,Ye (by simp at hlx;omega)];done) | (rw [Yb ow,Ye ht,Ye (by simp at hlx;omega)])
   refine Ya (rZ G (qI qB) Z [6,5,4,0] [0] fun G=>(Yh (Zm ?_)))
   refine Zad hfr G rfl (.tmp rfl (.tmp rfl .nil)) (.two (.int (by rw [hg];first | done | rfl | (rw [hxw];done) | (rw [hxv];done) | (rw [show IntKind.wrap .i64 (-1+1)=0 by decide];done))) (.bool (by rw [hg])))
  have hlx:=hc2
  first | rw [hxw] at hlx | skip
  have hln:=Yap (l:=l)
  have hlx2:=hlx
  simp at hlx
  have hg:ZbX l tx=(Nn l (if tx=0 then 0 else Zc4 tx l+1).toNat,true):=by unfold ZbX;first | (rw [Yb ow,Yb ht,Yb ht,Yb ow];done) | (rw [Yb ow,Ye ht,Ye ht,Yb (by first | omega | (intro h0;have:l.length=0:=by omega;simp_all))];rfl)
  first | rw [Yb ht] at hg | rw [Ye ht] at hg
  try (have hl1:0<l.length:=by rcases Nat.eq_zero_or_pos l.length with h0 | h0;simp_all;exact h0)
  refine Yf (Za (Ya (Zg G (qR rr (qR rr (qf (ZI (sz:=1) (.mk YbZ kr) (by intro x;rfl) .t .t (by first | omega | (rw [hxw];omega)) (by first | omega | (rw [hxw];omega))) r2 qz (qf (oR false 1 .t) r1 qz (qO rr qB))))) Z [5,4] [0] rfl rfl fun a w F G=>?_)))
  try simp only [Yc] at G
  refine Za (Yh (Zad hfr G rfl (.tmp rfl (.tmp rfl .nil)) (.two (.int (by rw [hg];first | done | rfl | (rw [hxw];done) | (rw [hxv];done) | (rw [show IntKind.wrap .i64 (-1+1)=0 by decide];done))) (.bool (by rw [hg])))))
 have ht:tx=0:=by simpa using hc0
 refine Yf (Za (Ya (Ya (rZ G (qR rr (qR rr (qu YbZ r1 (qf (o_eql .t .t) r2 qz qZ)))) Z [18,6,5,4,0] [0] fun G=>?_))))
 refine Zc G rfl (fun hc3=>?_) (fun hc3=>?_)
 ·have hlx:=hc3
  first | rw [hxw] at hlx | skip
  have hg:ZbX l tx=(0,false):=by unfold ZbX;first | (rw [Yb ow,Yb ht,Ye (by simp at hlx;omega)];done) | (rw [Yb ow,Ye ht,Ye (by simp at hlx;omega)])
  refine Ya (rZ G (qI qB) Z [6,5,4,0] [0] fun G=>(Yh (Zm ?_)))
  refine Zad hfr G rfl (.tmp rfl (.tmp rfl .nil)) (.two (.int (by rw [hg];first | done | rfl | (rw [hxw];done) | (rw [hxv];done) | (rw [show IntKind.wrap .i64 (-1+1)=0 by decide];done))) (.bool (by rw [hg])))
 have hlx:=hc3
 first | rw [hxw] at hlx | skip
 have hln:=Yap (l:=l)
 have hlx2:=hlx
 simp at hlx
 have hg:ZbX l tx=(Nn l (if tx=0 then 0 else Zc4 tx l+1).toNat,true):=by unfold ZbX;first | (rw [Yb ow,Yb ht,Yb ht,Yb ow];done) | (rw [Yb ow,Ye ht,Ye ht,Yb (by first | omega | (intro h0;have:l.length=0:=by omega;simp_all))];rfl)
 first | rw [Yb ht] at hg | rw [Ye ht] at hg
 try (have hl1:0<l.length:=by rcases Nat.eq_zero_or_pos l.length with h0 | h0;simp_all;exact h0)
 refine Yf (Za (Ya (Zg G (qR rr (qR rr (qf (ZI (sz:=1) (.mk YbZ kr) (by intro x;rfl) .t .t (by first | omega | (rw [hxw];omega)) (by first | omega | (rw [hxw];omega))) r2 qz (qf (oR false 1 .t) r1 qz (qO rr qB))))) Z [5,4] [0] rfl rfl fun a w F G=>?_)))
 try simp only [Yc] at G
 refine Za (Yh (Zad hfr G rfl (.tmp rfl (.tmp rfl .nil)) (.two (.int (by rw [hg];first | done | rfl | (rw [hxw];done) | (rw [hxv];done) | (rw [show IntKind.wrap .i64 (-1+1)=0 by decide];done))) (.bool (by rw [hg])))))
theorem ZeA (g:Zq) (hs:ZbY g):FnP prog 19 [.agg (Zx g)] (.bool (decide (ZK g))):=by
 refine FnP.mk func19 rfl ntmps19 rfl fun B a w F Z hfr G=>?_
 have hsl:=hs.1.1
 have hso:=hs.2.1
 refine Ya (Zb G (qx 101 r1 qB) Z [2,1] [101,0] (fun _=>rfl) (fun _=>rfl) fun τ a w F G=>?_)
 try dsimp only [RS.sub,SF.sub,CF.sub,csub,Anc.sub,List.map,zCF,Zx,rTx,ZV,ZQ,Zo,rOp] at G
 generalize τ 1=v1 at G
 refine Za (Ya (Ya (rZ G (qg 0 101 r1 r1 (qa 101 r1 r1 (qu Yb3 r1 (qf (ZaV .t qi) r1 qz qZ)))) Z [11,2,1] [101,0] fun G=>?_)))
 refine Zc G rfl (fun hc0=>?_) (fun hc0=>?_)
 ·have hg:=Zf0 (h:=g) (by simp at hc0;omega)
  refine Ya (rZ G qB Z [2,1] [101,0] fun G=>(Yh (Zm ?_)))
  refine Zw hfr G rfl rfl rfl (.bool hg)
 have hlong:g.txs.length≤4096:=by simp at hc0;omega
 refine Yf (Za (Ya (Ya (rZ G (qg 0 101 r1 r1 (qa 101 r1 r1 (qu Yb3 r1 (qJ qZ)))) Z [15,14,13,2,1] [101,0] fun G=>Yg ?_))))
 refine Zl (σ:=(Nat)) [1,2,13,14] [0,101] (fun s=>[(15,.pv (.int .i64 (s:Int)))]) (fun s=>[]) (fun s=>s≤g.txs.length∧(∀ k,k<s→Zl2 g k)) (fun s=>g.txs.length - s) (0) G ⟨rfl,rfl,rfl,rfl,rfl,tv⟩ ⟨rfl,rfl,tv⟩ ⟨Yw _,fun k hk=>absurd hk (Y9 k)⟩ ?_
 clear G;intro i a w F hC G
 try dsimp only at hC
 obtain ⟨F,G⟩:=G.nM [15,14,13,2,1] [101,0]
 try dsimp only at G
 obtain ⟨hi,hq⟩:=hC
 have hxl:=fun hil:i<g.txs.length=>hs.1.at hil
 have hiw:0<i→IntKind.wrap .i64 ((i:Int) - 1)=((i - 1:Nat):Int):=fun h0=>by rw [ZC ow];omega
 refine Ya (rZ G (qL r2) Z [16,15,14,13,2,1] [101,0] fun G=>Ya ?_)
 refine Zc G rfl (fun hc1=>?_) (fun hc1=>?_)
 ·have hil:i<g.txs.length:=by simp at hc1;omega
  refine Yf (Za (Ya (Yg (Ya (Zb G (qR rr (qy 3 Yb3 r2 (qf (oR true 3 .t) r1 qz (qf (oH [.int .i64 0,.bool false,.slice none 0 0] 102) trivial qz (qO rr (qS 3 102 r2 r1 qZ)))))) Z [15,14,13,4,3,2,1] [102,101,0] (fun _=>rfl) (fun _=>rfl) fun τ a w F G=>?_)))))
  try dsimp only [RS.sub,SF.sub,CF.sub,csub,Anc.sub,List.map,Zf,xL,xM,Nat.reduceAdd,xD,xE,xT,xU,xC,xN,zCF,ldSF,Zx,rTx,ZV,ZQ,Zo,rOp] at G
  generalize τ 4=v4 at G
  try simp only [Yc] at G
  refine Za (Ya (Zz G (qR rr (qf (ZaV .t qi) r1 qz (qR rr (qv 0 101 rfl r2 r1 (qw 101 rfl r2 r1 (qm rfl rfl rfl rfl (qk rfl (fun h=>o_sub (.w h) qi) r2 qz (qk rfl (fun h=>ZI (sz:=3) (.mk Yb3 kr) (by intro x;rfl) (.w h) (.w h) (by rw [hiw (by simpa using h)];omega) (by rw [hiw (by simpa using h)];omega)) r3 qz (qk rfl (fun h=>oG 0 (.w h)) r2 qz (qk rfl (fun h=>oR false 1 (.w h)) r2 qz (qv 0 102 rfl r2 r1 (qw 102 rfl r2 r1 (qk rfl (fun h=>ZbM (.w h) (.w h)) r3 qz (qf (ZH .t .t) r2 qz (qR rr (qk rfl (fun h=>oL true 3 102 .is) r2 r1 (qk rfl (fun h=>oP (Zn8 (Nn g.txs i)) func44 (Args.one (.pagg (.w h)))) r2 qz (qk rfl (fun h=>o_neq (.w h) qi) r2 qz (qf (Zab .t .t) r2 qz (qR rr (qk rfl (fun h=>oL true 2 101 .is) r2 r1 (qk rfl (fun h=>oL true 3 102 .is) r2 r1 (qk rfl (fun h=>oP (ZoU g (Nn g.txs i) hs.1 (by have:=hxl hil;omega)) func45 (Args.two (.pagg (.w h)) (.pagg (.w h)))) r3 qz (qk rfl (fun h=>o_not (.w h)) r2 qz (qf (Zab .t .t) r2 qz qZ))))))))))))))))))))))))) Z [44,15,14,13,2,1] [102,101,0] rfl rfl fun a w F G=>?_))
  try dsimp only [List.map,xD,xE,xT,xU,ldSF,Zx,rTx,ZV,ZQ,Zo,rOp] at G
  try simp only [Yc] at G
  refine Za (Zc G rfl (fun hc2=>?_) (fun hc2=>?_))
  ·have hbad:¬ Zl2 g i:=by
     rintro ⟨g1,g2,g3⟩
     have h9:=hc2
     by_cases hi0:0<i
     · rw [hiw hi0,Yc] at h9
       have:=g1 hi0
       simp [g2,g3] at h9
       omega
     · have hi1:i=0:=by omega
       subst hi1
       simp [g2,g3] at h9
   have hg:=Zix hil hbad
   refine Ya (rZ G qB Z [15,14,13,2,1] [102,101,0] fun G=>(Yh (ZB (Zm (Zm (ZB (Zm ?_)))))))
   refine Zw hfr G rfl rfl rfl (.bool hg)
  have hgood:Zl2 g i:=by
    have h9:=hc2
    by_cases hi0:0<i
    · rw [hiw hi0,Yc] at h9
      simp at h9
      exact ⟨fun _=>by omega,by omega,h9.2⟩
    · have hi1:i=0:=by omega
      subst hi1
      simp at h9
      exact ⟨fun h0=>absurd h0 (Nat.lt_irrefl 0),h9.1,h9.2⟩
  refine Yf (Zk (Za (rZ G (qp r1 (qR rr qZ)) Z [15,14,13,2,1] [102,101,0] fun G=>?_)))
  replace G:=G.ent (i:=15) (s':=.pv (.int .i64 ((i+1:Nat):Int))) rfl (.int (Zd ow))
  obtain ⟨F,G⟩:=G.nM [14,13,2,1,15] [101,0]
  exact ⟨(i+1),F,⟨by omega,(fun k hk=>by rcases Y8 (Yad hk) with h9 | h9;exact hq k h9;rw [h9];exact hgood)⟩,G,by omega⟩
 have hil:i=g.txs.length:=by simp at hc1;omega
 have hall:∀ k,k<g.txs.length→Zl2 g k:=by rw [← hil];exact hq
 have hkn:=ZnO hs.1
 refine Yx (Zj (Zj (Zr (Za (Ya ?_)))))
 replace G:=G.fresh 103 rfl
 refine Zb G (qe 2 101 r1 r1 (qf (ZaE 103 (Zmr g hs.1) func46 rfl kr (Args.one (.pagg .t)) pvOne1) r1 r1 (qO rr qZ))) Z [5,2,1] [103,101,0] (fun _=>rfl) (fun _=>rfl) fun τ a w F G=>?_
 try dsimp only [RS.sub,SF.sub,CF.sub,csub,Anc.sub,List.map,xD,xE,xT,xU,ldSF,Zx,rTx,ZV,ZQ,Zo,rOp] at G
 generalize τ 47=v47 at G
 replace G:=G.turn 103 rfl (r':=RS.hp (HP.ex fun s:List (GE Int (List Int))×Nat=>HP.and (WrL s.1 g.txs) (Zbt (fun l:List Int=>PV.sl Zo l) (fun _=>True) (fun n:Int=>Value.int .i64 n) s.1 s.2 v47))) (fun _ _ _ _ h=>h)
 obtain ⟨sm,G⟩:=G.open_ex 103 rfl
 obtain ⟨hwm,G⟩:=G.open_and 103 rfl
 obtain ⟨es,ck⟩:=sm
 try dsimp only at hwm G
 replace G:=G.turn 103 rfl (r':=.ob (.val v47) (Zbt (fun l:List Int=>PV.sl Zo l) (fun _=>True) (fun n:Int=>Value.int .i64 n) es ck)) (fun _ _ _ _ h=>h)
 have hgw:=ZsD hwm
 have hml:=ZsS hwm
 obtain ⟨F,G⟩:=G.nM [5,2,1] [103,101,0]
 refine Za (Ya (Ya (rZ G (qR rr (qf (Zlb 103 underlying83 .is ow) r1 r1 (qg 1 101 r1 r1 (qa 101 r1 r1 (qu Yb6 r1 (qf (o_neq .t .t) r2 qz qZ)))))) Z [53,5,2,1] [103,101,0] fun G=>?_)))
 refine Zc G rfl (fun hc3=>?_) (fun hc3=>?_)
 ·have hg:=Zhh (h:=g) (by simp at hc3;omega)
  refine Ya (rZ G qB Z [5,2,1] [103,101,0] fun G=>(Yh (Zm ?_)))
  refine Zw hfr G rfl rfl rfl (.bool hg)
 have hle:g.orders.length=(Zcg g.txs).length:=by simp at hc3;omega
 refine Yf (Za (Ya (Ya (rZ G (qg 1 101 r1 r1 (qa 101 r1 r1 (qu Yb6 r1 (qJ qZ)))) Z [57,56,55,5,2,1] [103,101,0] fun G=>Yg ?_))))
 refine Zl (σ:=(Nat)) [1,2,5,55,56] [0,101,103] (fun s=>[(57,.pv (.int .i64 (s:Int)))]) (fun s=>[]) (fun s=>s≤g.orders.length∧(∀ k,k<s→Ze5 g k)) (fun s=>g.orders.length - s) (0) G ⟨rfl,rfl,rfl,rfl,rfl,rfl,tv⟩ ⟨rfl,rfl,rfl,tv⟩ ⟨Yw _,fun k hk=>absurd hk (Y9 k)⟩ ?_
 clear G;intro i a w F hC G
 try dsimp only at hC
 obtain ⟨F,G⟩:=G.nM [57,56,55,5,2,1] [103,101,0]
 try dsimp only at G
 obtain ⟨hi,hq⟩:=hC
 have hol:=fun hil:i<g.orders.length=>hs.2.at hil
 have hwl:=fun k=>Zeb g.txs k
 have hiw:0<i→IntKind.wrap .i64 ((i:Int) - 1)=((i - 1:Nat):Int):=fun h0=>by rw [ZC ow];omega
 refine Ya (rZ G (qL r2) Z [58,57,56,55,5,2,1] [103,101,0] fun G=>Ya ?_)
 refine Zc G rfl (fun hc4=>?_) (fun hc4=>?_)
 ·have hil:i<g.orders.length:=by simp at hc4;omega
  refine Yf (Za (Ya (Yg (Ya (Zb G (qR rr (qy 2 Yb6 r2 (qf (oR true 2 .t) r1 qz (qf (oH [.int .i64 0,.slice none 0 0] 104) trivial qz (qO rr (qS 2 104 r2 r1 qZ)))))) Z [57,56,55,7,6,5,2,1] [104,103,101,0] (fun _=>rfl) (fun _=>rfl) fun τ a w F G=>?_)))))
  try dsimp only [RS.sub,SF.sub,CF.sub,csub,Anc.sub,List.map,Zf,xL,xM,Nat.reduceAdd,xD,xE,xT,xU,xC,xN,zCF,ldSF,Zx,rTx,ZV,ZQ,Zo,rOp] at G
  generalize τ 7=v7 at G
  try simp only [Yc] at G
  refine Za (Ya (Zz G (qR rr (qf (ZaV .t qi) r1 qz (qR rr (qv 1 101 rfl r2 r1 (qw 101 rfl r2 r1 (qm rfl rfl rfl rfl (qk rfl (fun h=>o_sub (.w h) qi) r2 qz (qk rfl (fun h=>ZI (sz:=2) (.mk Yb6 kr) (by intro x;rfl) (.w h) (.w h) (by rw [hiw (by simpa using h)];omega) (by rw [hiw (by simpa using h)];omega)) r3 qz (qk rfl (fun h=>oG 0 (.w h)) r2 qz (qk rfl (fun h=>oR false 1 (.w h)) r2 qz (qv 0 104 rfl r2 r1 (qw 104 rfl r2 r1 (qk rfl (fun h=>ZbM (.w h) (.w h)) r3 qz (qf (ZH .t .t) r2 qz (qR rr (qv 1 104 rfl r2 r1 (qw 104 rfl r2 r1 (qk rfl (fun h=>Zbe YbZ (.w h)) r2 qz (qk rfl (fun h=>o_eql (.w h) qi) r2 qz (qf (Zab .t .t) r2 qz (qR rr (qv 1 104 rfl r2 r1 (qw 104 rfl r2 r1 (qm rfl rfl rfl rfl (qv 0 104 rfl r2 r1 (qw 104 rfl r2 r1 (qk rfl (fun h=>Zae (ek:=(fun l:List Int=>PV.sl Zo l)) (z0:=([]:List Int)) 103 underlying83 (Zck Yb4) kr (fun _ _=>ZqC) (.w h .is) (ZG.int (.w h) rfl)) r3 r1 (qk rfl (fun h=>oP (ZsO (Nn g.orders i).txs _ (by have:=hol hil;omega) (by rw [hgw];have:=hwl (Nn g.orders i).key;omega)) func47 (Args.two (.w h) (.w h))) r3 qz (qk rfl (fun h=>o_not (.w h)) r2 qz (qf (Zab .t .t) r2 qz qZ)))))))))))))))))))))))))))))) Z [91,57,56,55,5,2,1] [104,103,101,0] rfl rfl fun a w F G=>?_))
  try dsimp only [List.map,xD,xE,xT,xU,ldSF,Zx,rTx,ZV,ZQ,Zo,rOp] at G
  try simp only [Yc] at G
  refine Za (Zc G rfl (fun hc5=>?_) (fun hc5=>?_))
  ·have hbad:¬ Ze5 g i:=by
     rintro ⟨g1,g2,g3⟩
     have h9:=hc5
     rw [hgw] at h9
     have g4:(Nn g.orders i).txs.length≠0:=fun e=>g2 (YO e)
     by_cases hi0:0<i
     · rw [hiw hi0,Yc] at h9
       have:=g1 hi0
       simp [g2,g3] at h9
       omega
     · have hi1:i=0:=by omega
       subst hi1
       simp [g2,g3] at h9
   have hg:=ZfX hil hbad
   refine Ya (rZ G qB Z [57,56,55,5,2,1] [104,103,101,0] fun G=>(Yh (ZB (Zm (Zm (ZB (Zm ?_)))))))
   refine Zw hfr G rfl rfl rfl (.bool hg)
  have hgood:Ze5 g i:=by
    have h9:=hc5
    rw [hgw] at h9
    by_cases hi0:0<i
    · rw [hiw hi0,Yc] at h9
      simp at h9
      exact ⟨fun _=>by omega,h9.1.2,h9.2⟩
    · have hi1:i=0:=by omega
      subst hi1
      simp at h9
      exact ⟨fun h0=>absurd h0 (Nat.lt_irrefl 0),h9.1,h9.2⟩
  refine Yf (Zk (Za (rZ G (qp r1 (qR rr qZ)) Z [57,56,55,5,2,1] [104,103,101,0] fun G=>?_)))
  replace G:=G.ent (i:=57) (s':=.pv (.int .i64 ((i+1:Nat):Int))) rfl (.int (Zd ow))
  obtain ⟨F,G⟩:=G.nM [56,55,5,2,1,57] [103,101,0]
  exact ⟨(i+1),F,⟨by omega,(fun k hk=>by rcases Y8 (Yad hk) with h9 | h9;exact hq k h9;rw [h9];exact hgood)⟩,G,by omega⟩
 have hil:i=g.orders.length:=by simp at hc4;omega
 have hg:=Zi3 hlong hall ow (by rw [← hil];exact hq)
 refine Yx (Zj (Zj (Zr (Za (Ya (rZ G qB Z [2] [103,101,0] fun G=>Yh ?_))))))
 refine Zw hfr G rfl rfl rfl (.bool hg)
theorem PVs.lenAt {α:Type} {R:α→List PV} {l:List α} {v:Value} {w:World} {y:Ys} (h:(PV.sl R l).p v w y):l.length≤9223372036854775807:=by
 obtain ⟨_,cap,_,h1,h2,_⟩:=h
 unfold maxLen at h2
 omega
theorem Sat.lenHist {B:Za6} {E:En} {a:Act} {w:World} {F:Fp} (h:Sat B E a w F) {i:Nat} {u:Zq} (hl:Go.Gm.look E.s i=some (SF.pv (PV.agg (Zx u)))):u.txs.length≤9223372036854775807∧u.orders.length≤9223372036854775807:=by
 obtain ⟨vs,_,hp⟩:=h.s i _ hl
 match vs,hp with
 | [x,y],hp=>exact ⟨PVs.lenAt hp.1.2,PVs.lenAt hp.2.1.2⟩
def Zs1 (l:List TxD):Prop:=l.length≤1000000 ∧ ∀ t ∈ l,t.ops.length≤1000000
def ZqJ (l:List OrdD):Prop:=l.length≤1000000 ∧ ∀ t ∈ l,t.txs.length≤1000000
structure DOk (d:ZgC):Prop where
 was:Zs1 d.was
 now:Zs1 d.now
 old:ZqJ d.old
 new:ZqJ d.new
def inv (d:ZgC):ZgC:=⟨d.now,d.was,d.new,d.old⟩
end Go.Proofs.YtlkpllemoepamaaGreat
