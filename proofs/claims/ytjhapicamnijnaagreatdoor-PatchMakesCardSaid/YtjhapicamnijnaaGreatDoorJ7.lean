/- Texts put together. No condition beyond those that each theorem says. -/
import Derived.Test.YtjhapicamnijnaaGreatDoorJ6
import Derived.Test.YtjhapicamnijnaaGreatDoorJ0
import Derived.Test.YtjhapicamnijnaaGreatDoorLibL
import Derived.Shelf.SlIter.Collect
import Derived.Test.YtjhapicamnijnaaGreatDoorJ2
import Derived.Test.YtjhapicamnijnaaGreatDoorJ4
import Derived.Test.YtjhapicamnijnaaGreatDoorJ5
import Derived.Test.YtjhapicamnijnaaGreatDoorJ1
namespace Go.Proofs.YtjhapicamnijnaaGreatDoor
open Go Go.Gm
set_option linter.unusedVariables false
set_option linter.unusedSimpArgs false
set_option maxHeartbeats 4000000
set_option maxRecDepth 8000
def ZbN (Q:Zj→Prop):Zj→List CmdD→Zj→Prop
 | g,[],h=>h=g
 | g,c :: l,h=>(ZM g c).2=0∧Q (ZM g c).1∧ZbN Q (ZM g c).1 l h
theorem ZbN.play {Q:Zj→Prop} : ∀ {l:List CmdD} {g h:Zj},ZbN Q g l h → ∀ i,playC g l i=(h,i+l.length,0)
 | [],g,h,hp,i=>by rw [show h=g from hp];rfl
 | c :: l,g,h,hp,i=>by
   obtain ⟨h1,_,h2⟩:=hp
   rw [playC,if_neg (by simp [h1]),h2.play (i+1),List.length_cons,Nat.add_right_comm i 1 l.length,← Nat.add_assoc]
theorem ZbN.app {Q:Zj→Prop} : ∀ {l m:List CmdD} {g h k:Zj},ZbN Q g l h→ZbN Q h m k→ZbN Q g (l++m) k
 | [],m,g,h,k,h1,h2=>by rw [show h=g from h1] at h2;exact h2
 | c :: l,m,g,h,k,⟨h1,h3,h4⟩,h2=>⟨h1,h3,h4.app h2⟩
theorem ZbN.at {Q:Zj→Prop} : ∀ {l:List CmdD} {g h:Zj},ZbN Q g l h → ∀ {i:Nat},i<l.length → ∃ x,playC g (l.take i) 0=(x,i,0)∧(ZM x (Go.Gm.nth l i)).2=0∧Q (ZM x (Go.Gm.nth l i)).1∧playC g (l.take (i+1)) 0=((ZM x (Go.Gm.nth l i)).1,i+1,0)
 | c :: l,g,h,⟨h1,h2,h3⟩,0,_=>⟨g,rfl,h1,h2,by
   show playC g [c] 0=_
   rw [playC,if_neg (by simp [h1])];rfl⟩
 | c :: l,g,h,⟨h1,h2,h3⟩,i+1,hi=>by
   have hi':i<l.length:=by simpa using hi
   obtain ⟨x,k1,k2,k3,k4⟩:=h3.at hi'
   have sh:∀ (l:List CmdD) (g:Zj) (x:Zj) (n j:Nat),playC g l j=(x,n,0)→playC g l (j+1)=(x,n+1,0):=by
     intro l
     induction l with
     | nil=>intro g x n j h;simp only [playC,Prod.mk.injEq] at h ⊢;exact ⟨h.1,by rw [h.2.1],h.2.2⟩
     | cons c l ih=>
       intro g x n j h
       rw [playC] at h ⊢
       split at h
       · rename_i h9;simp only [Prod.mk.injEq] at h;exact absurd h.2.2 h9
       · rename_i h9;rw [if_neg h9];exact ih _ _ _ _ h
   have e:Go.Gm.nth (c :: l) (i+1)=Go.Gm.nth l i:=by rw [Zp hi,Zp hi'];rfl
   refine ⟨x,?_,by rw [e];exact k2,by rw [e];exact k3,?_⟩
   · show playC g (c :: l.take i) 0=_
     rw [playC,if_neg (by simp [h1])];exact sh _ _ _ _ _ k1
   · show playC g (c :: l.take (i+1)) 0=_
     rw [playC,if_neg (by simp [h1]),e];exact sh _ _ _ _ _ k4
def At (x:Zj) (F:Int→Option TxD):Prop:=∀ i,ZN x.txs i=F i
def ZpL (F:Int→Option TxD) (i:Int) (v:Option TxD):Int→Option TxD:=fun j=>if j=i then v else F j
theorem ZkI {l:List TxD} (h:Zb0 TxD.id l) {i:Int} {t:TxD} : ZN l i=some t ↔ t ∈ l∧t.id=i:=⟨findT_mem,fun ⟨h1,h2⟩=>by rw [← h2];exact Zbh h h1⟩
theorem Zii {l m:List TxD} {i:Int} {v:Option TxD} (hl:Zb0 TxD.id l) (hm:Zb0 TxD.id m) (hv:∀ t,v=some t→t.id=i) (h:∀ s,s ∈ m ↔ (s ∈ l∧s.id≠i)∨v=some s) (j:Int):ZN m j=if j=i then v else ZN l j:=by
 refine Option.ext fun t=>?_
 rw [show (ZN m j=some t ↔ t ∈ m∧t.id=j) from ZkI hm,h]
 by_cases e:j=i
 · rw [if_pos e]
   subst e
   exact ⟨fun ⟨h1,h2⟩=>h1.elim (fun h3=>absurd h2 h3.2) id,fun h1=>⟨.inr h1,hv t h1⟩⟩
 · rw [if_neg e,show (ZN l j=some t ↔ t ∈ l∧t.id=j) from ZkI hl]
   exact ⟨fun ⟨h1,h2⟩=>⟨h1.elim (fun h3=>h3.1) (fun h3=>absurd (h2.symm.trans (hv t h3)) e),h2⟩,fun ⟨h1,h2⟩=>⟨.inl ⟨h1,by rw [h2];exact e⟩,h2⟩⟩
theorem ZqK:∀ {a b:List TxD},(a.Pairwise fun x y=>x.id<y.id)→(b.Pairwise fun x y=>x.id<y.id)→(∀ o,o ∈ a ↔ o ∈ b)→a=b
 | [],[],_,_,_=>rfl
 | [],y :: b,_,_,h=>by have:=(h y).2 (by simp);cases this
 | x :: a,[],_,_,h=>by have:=(h x).1 (by simp);cases this
 | x :: a,y :: b,ha,hb,h=>by
   rw [List.pairwise_cons] at ha hb
   have e:x=y:=by
     rcases List.mem_cons.1 ((h x).1 (by simp)) with e | h1
     · exact e
     · rcases List.mem_cons.1 ((h y).2 (by simp)) with e | h2
       · exact e.symm
       · have:=ha.1 y h2;have:=hb.1 x h1;omega
   subst e
   rw [ZqK (a:=a) (b:=b) ha.2 hb.2 fun o=>?_]
   constructor
   · intro ho
     rcases List.mem_cons.1 ((h o).1 (by simp [ho])) with e | h1
     · have:=ha.1 o ho;rw [e] at this;omega
     · exact h1
   · intro ho
     rcases List.mem_cons.1 ((h o).2 (by simp [ho])) with e | h1
     · have:=hb.1 o ho;rw [e] at this;omega
     · exact h1
theorem Zs5 {x y:Zj} (hx:Zy x) (hy:Zy y) (h:At x (ZN y.txs)):x.txs=y.txs:=by
 have rx:=(Zs hx).1
 have ry:=(Zs hy).1
 refine ZqK (Zv.1 rx) (Zv.1 ry) fun t=>⟨fun ht=>?_,fun ht=>?_⟩
 · have:=Zbh rx ht
   rw [h] at this;exact (findT_mem this).1
 · have:=Zbh ry ht
   rw [← h] at this;exact (findT_mem this).1
theorem ZeU {x:Zj} {F:Int→Option TxD} (hx:Zy x) (h:At x F) {s:TxD} (hs:s ∈ x.txs):F s.id=some s:=by rw [← h];exact Zbh (Zs hx).1 hs
theorem ZlE {l:List TxD} {i:Int} {t:TxD} (h:ZN l i=some t):isK TxD.id i l=true:=by rw [← Zkn,h];rfl
theorem Zpe {l:List TxD} {i:Int} (h:ZN l i=none):isK TxD.id i l=false:=by rw [← Zkn,h];rfl
theorem ZaB {g:Zj} (h:Zy g) {t:TxD} (ht:t ∈ g.txs):Z1 t=0∧Zbt g t=true:=(Zaw.1 h).2.2.1 t ht
theorem Zfw {g:Zj} {t:TxD} (h:Zbt g t=true) {v:Zb1} (hv:v ∈ ZaE t):ZgR g v=true:=List.all_eq_true.1 h v hv
theorem ZgA (g:Zj) (t:TxD):Zbt g (bareT t)=true:=by unfold Zbt;rw [Zg5];rfl
theorem Zfq {t:TxD} (h:Z1 t=0):1≤t.id:=by
 unfold Z1 at h
 split at h
 · cases h
 · rename_i h1;exact (Decidable.not_not.1 h1).1
theorem Zqx {g:Zj} {v:Zb1} {t:TxD} (h:ZgR g v=true) (hv:1≤v.tx) (hf:ZN g.txs v.tx=some t):v.nth≤(wcnt t.ops v.key:Int):=by
 unfold ZgR at h
 rw [if_neg (by omega),hf] at h
 simp at h
 exact h.2
theorem ZsG {g:Zj} {v:Zb1} (h:ZgR g v=true) (hv:1≤v.tx):(ZN g.txs v.tx).isSome=true:=by
 unfold ZgR at h
 rw [if_neg (by omega)] at h
 simp only [Bool.and_eq_true] at h
 exact h.1
theorem Zkh {x:Zj} {t:TxD} (h:∀ y ∈ x.txs,y.id≠t.id → ∀ v ∈ ZaE y,v.tx=t.id→v.nth≤(wcnt t.ops v.key:Int)):ZeH x t=false:=by
 unfold ZeH
 rw [List.any_eq_false]
 intro y hy h2
 unfold ZjW at h2
 simp only [Bool.and_eq_true,decide_eq_true_eq,List.any_eq_true] at h2
 obtain ⟨h3,v,hv,h4⟩:=h2
 unfold ZjQ at h4
 simp only [Bool.and_eq_true,decide_eq_true_eq] at h4
 have:=h y hy h3 v hv h4.1
 omega
theorem ZiB {x:Zj} {t t0:TxD} (hx:Zy x) (ht:1≤t.id) (hf:ZN x.txs t.id=some t0) (hw:∀ k,wcnt t.ops k=wcnt t0.ops k):ZeH x t=false:=
 Zkh fun y hy _ v hv e=>by
   have:=Zqx (t:=t0) (Zfw (ZaB hx hy).2 hv) (by rw [e];exact ht) (by rw [e];exact hf)
   rw [hw];exact this
theorem Zsf {n:Nat} {x:Zj} {F:Int→Option TxD} {t:TxD} (hx:ZaT n x) (hn:n≤165) (h:At x F) (ht:Z1 t=0) (hl:t.ops.length≤24) (hi:F t.id=none) :
   (ZM x (Ze2 t)).2=0∧ZaT (n+1) (ZM x (Ze2 t)).1∧At (ZM x (Ze2 t)).1 (ZpL F t.id (some (bareT t))) ∧ ∀ k,getO (ZM x (Ze2 t)).1.orders k=Zfg (bareT t) (getO x.orders k) k:=by
 have hR:=hx.1
 have hk:isK TxD.id (bareT t).id x.txs=false:=Zpe (by rw [h];exact hi)
 have hm:mayH x (bareT t) 4 false=(((lowK TxD.id (bareT t).id x.txs:Nat):Int),0):=Zsc hR (Zbc ht) hk (ZgA x t)
 have hlen:=hx.2.1
 have e:ZM x (Ze2 t)=(⟨x.txs.take (lowK TxD.id (bareT t).id x.txs) ++ [bareT t] ++ x.txs.drop (lowK TxD.id (bareT t).id x.txs),settleO (bareT t) x.orders⟩,0):=by
   show Zaz x (bareT t)=_
   unfold Zaz
   rw [hm,if_neg (by simp),if_neg (by omega)]
 have h0:(ZM x (Ze2 t)).2=0:=by rw [e]
 refine ⟨h0,ZaT.edit2 hx hn ⟨Nat.le_trans (List.length_filter_le _ _) hl,Nat.zero_le _⟩ (by simp [h0]),?_,?_⟩
 · rw [e]
   obtain ⟨m1,m2⟩:=Zlo (Zs hR).1 hk
   intro j
   rw [Zii (v:=some (bareT t)) (Zs hR).1 m1 (fun s hs=>by cases hs;rfl) (fun s=>by rw [m2];simp [eq_comm]) j]
   unfold ZpL
   rw [h];rfl
 · rw [e];exact fun k=>ZeA (Zs hR).2 k
theorem Zn0 {n:Nat} {x:Zj} {F:Int→Option TxD} {t t0:TxD} (hx:ZaT n x) (hn:n≤165) (h:At x F) (ht:Z1 t=0) (hl:t.ops.length≤24) (hi:F t.id=some t0) (hd:Zbt x t=true) (hu:ZeH x t=false) :
   (ZM x (ZdU t)).2=0∧ZaT (n+1) (ZM x (ZdU t)).1∧At (ZM x (ZdU t)).1 (ZpL F t.id (some t)) ∧ ∀ k,getO (ZM x (ZdU t)).1.orders k=Zfg t (getO x.orders k) k:=by
 have hR:=hx.1
 have hk:isK TxD.id t.id x.txs=true:=ZlE (by rw [h];exact hi)
 have hm:mayH x t 3 true=(((lowK TxD.id t.id x.txs:Nat):Int),0):=Zsc hR ht hk hd
 have e:ZM x (ZdU t)=(⟨x.txs.set (lowK TxD.id t.id x.txs) t,settleO t x.orders⟩,0):=by
   show Za9 x t=_
   unfold Za9
   rw [hm,if_neg (by simp),if_neg (by simp [hu])]
 have h0:(ZM x (ZdU t)).2=0:=by rw [e]
 refine ⟨h0,ZaT.edit2 hx hn ⟨hl,Nat.zero_le _⟩ (by simp [h0]),?_,?_⟩
 · rw [e]
   obtain ⟨m1,m2⟩:=Zk8 (Zs hR).1 hk
   intro j
   rw [Zii (v:=some t) (Zs hR).1 m1 (fun s hs=>by cases hs;rfl) (fun s=>by rw [m2];simp [eq_comm]) j]
   unfold ZpL
   rw [h]
 · rw [e];exact fun k=>ZeA (Zs hR).2 k
theorem Zsx {n:Nat} {x:Zj} {F:Int→Option TxD} {t t0:TxD} (hx:ZaT n x) (hn:n≤165) (h:At x F) (hi:F t.id=some t0) (hu:ZeH x (Zdq t.id)=false) :
   (ZM x (Zfd t)).2=0∧ZaT (n+1) (ZM x (Zfd t)).1∧At (ZM x (Zfd t)).1 (ZpL F t.id none):=by
 have hR:=hx.1
 have hr:=(Zs hR).1
 have hk:isK TxD.id t.id x.txs=true:=ZlE (by rw [h];exact hi)
 have e:ZM x (Zfd t)=(⟨x.txs.filter fun s=>!decide (s.id=t.id),settleO (Zdq t.id) x.orders⟩,0):=by
   show Zam x t.id=_
   unfold Zam
   rw [if_neg (by simpa using hR),if_neg (by simp [hk]),if_neg (by simp [hu]),Zhd (Zv.1 hr) hk]
 have h0:(ZM x (Zfd t)).2=0:=by rw [e]
 refine ⟨h0,ZaT.edit2 hx hn ⟨Nat.zero_le _,Nat.zero_le _⟩ (by simp [h0]),?_⟩
 rw [e]
 intro j
 have hf:Zb0 TxD.id (x.txs.filter fun s=>!decide (s.id=t.id)):=Zv.2 ((Zv.1 hr).filter _)
 rw [Zii (v:=none) (i:=t.id) hr hf (fun s hs=>by cases hs) (fun s=>by rw [List.mem_filter];simp) j]
 unfold ZpL
 rw [h]
theorem ZaT.up {n:Nat} {g:Zj} (h:ZaT n g):ZaT (n+1) g:=⟨h.1,by have:=h.2.1;omega,h.2.2⟩
theorem ZaT.le {n m:Nat} {g:Zj} (h:ZaT n g) (hm:n≤m):ZaT m g:=⟨h.1,by have:=h.2.1;omega,h.2.2⟩
theorem stage {Q:Zj→Prop} {L:List TxD} {p:TxD→Bool} {m:TxD→CmdD} {I:List TxD→Zj→Prop}
   (hs:∀ A t B x n,L=A++t :: B→ZaT n x→n≤165→I A x→if p t=true then (ZM x (m t)).2=0∧ZaT (n+1) (ZM x (m t)).1∧I (A ++ [t]) (ZM x (m t)).1 else I (A ++ [t]) x)
   (hQ:∀ A x,ZaT 166 x→I A x→Q x):∀ (B A:List TxD) (x:Zj) (n:Nat),L=A++B→ZaT n x→n+B.length≤165→I A x → ∃ y,ZbN Q x ((B.filter p).map m) y∧ZaT (n+B.length) y∧I L y
 | [],A,x,n,hL,hx,hn,hI=>⟨x,rfl,hx,by rw [hL,List.append_nil];exact hI⟩
 | t :: B,A,x,n,hL,hx,hn,hI=>by
   rw [List.length_cons] at hn
   have h1:=hs A t B x n hL hx (by omega) hI
   have e:L=(A ++ [t])++B:=by rw [hL];simp
   by_cases hp:p t=true
   · rw [if_pos hp] at h1
     obtain ⟨k1,k2,k3⟩:=h1
     obtain ⟨y,y1,y2,y3⟩:=stage hs hQ B (A ++ [t]) _ (n+1) e k2 (by omega) k3
     refine ⟨y,?_,by rw [List.length_cons];exact y2.le (by omega),y3⟩
     rw [List.filter_cons_of_pos hp]
     exact ⟨k1,hQ _ _ (k2.le (by omega)) k3,y1⟩
   · rw [if_neg hp] at h1
     obtain ⟨y,y1,y2,y3⟩:=stage hs hQ B (A ++ [t]) x n e hx (by omega) h1
     refine ⟨y,?_,by rw [List.length_cons];exact y2.le (by omega),y3⟩
     rw [List.filter_cons_of_neg hp];exact y1
theorem ZeJ {L A B:List TxD} {t:TxD} (hr:Zb0 TxD.id L) (e:L=A++t :: B):ZN L t.id=some t∧(∀ s ∈ A,s.id<t.id) ∧ ∀ i,i≠t.id → ∀ s,ZN L i=some s→(s ∈ A ++ [t] ↔ s ∈ A):=by
 have hp:=Zv.1 hr
 refine ⟨Zbh hr (by rw [e];simp),?_,fun i hi s hs=>?_⟩
 · rw [e,List.pairwise_append] at hp
   exact fun s hs=>hp.2.2 s hs t (by simp)
 · have:=(findT_mem hs).2
   simp only [List.mem_append,List.mem_singleton]
   exact ⟨fun h=>h.resolve_right fun e2=>hi (by rw [← this,e2]),.inl⟩
theorem Zou {A:List TxD} {t:TxD} (h:∀ s ∈ A,s.id<t.id):t ∉ A:=fun h2=>by have:=h t h2;omega
theorem Zp6 {t:TxD} (h:ZcV t=false):bareT t=t:=by
 have h2:=Zoo t
 rw [h,Bool.not_eq_false',decide_eq_true_eq] at h2
 exact h2.symm
section
variable {a b:Zj}
def fT (b:Zj) (t:TxD):TxD:=if Za5 b t=true then t else bareT t
theorem ZsP (t:TxD):(fT b t).id=t.id:=by unfold fT;split <;> rfl
theorem ZsN (t:TxD) (k:Int):wcnt (fT b t).ops k=wcnt t.ops k:=by
 unfold fT;split
 · rfl
 · exact ZfF _ _
theorem Zqw (t:TxD):(fT b t).ops.length≤t.ops.length:=by
 unfold fT;split
 · exact Nat.le_refl _
 · exact List.length_filter_le _ _
theorem Zh3 {t:TxD} {v:Zb1} (h:v ∈ ZaE (fT b t)):Za5 b t=true∧v ∈ ZaE t:=by
 unfold fT at h
 split at h
 · rename_i h1;exact ⟨h1,h⟩
 · rw [Zg5] at h;cases h
theorem Zh0 {t:TxD} (h:Za5 b t=true):t ∈ b.txs∧ZN b.txs t.id=some t:=by
 unfold Za5 at h
 rw [Bool.and_eq_true,decide_eq_true_eq] at h
 obtain ⟨h1,h2⟩:=h
 cases hf:ZN b.txs t.id with
 | none=>rw [hf] at h1;cases h1
 | some u=>
   rw [hf] at h2
   have e:t=u:=h2
   exact ⟨by rw [e];exact (findT_mem hf).1,by rw [e]⟩
theorem ZpJ {t:TxD} (h:Za5 b t=true):hasT b t=true:=by unfold hasT;rw [(Zh0 h).2];rfl
theorem Zpi {t u:TxD} (h:ZN b.txs t.id=some u):Za5 b t=decide (t=u):=by
 unfold Za5;rw [h];simp
theorem ZoP {t:TxD} (h:Za5 b t=false) (hr:ZcV t=false):fT b t=t:=by
 unfold fT;rw [h];exact Zp6 hr
end
def tab (L:List TxD) (f g:TxD→Option TxD) (A:List TxD):Int→Option TxD:=fun i=>(ZN L i).bind fun s=>if s ∈ A then f s else g s
theorem Zdd {L A B:List TxD} {t:TxD} {f g:TxD→Option TxD} (hr:Zb0 TxD.id L) (e:L=A++t :: B):tab L f g (A ++ [t])=ZpL (tab L f g A) t.id (f t):=by
 obtain ⟨h1,h2,h3⟩:=ZeJ hr e
 funext i
 unfold ZpL tab
 by_cases hi:i=t.id
 · rw [if_pos hi,hi,h1]
   show (if t ∈ A ++ [t] then f t else g t)=f t
   rw [if_pos (by simp)]
 · rw [if_neg hi]
   cases hf:ZN L i with
   | none=>rfl
   | some s=>
     show (if s ∈ A ++ [t] then f s else g s)=if s ∈ A then f s else g s
     by_cases hs:s ∈ A
     · rw [if_pos hs,if_pos ((h3 i hi s hf).2 hs)]
     · rw [if_neg hs,if_neg fun h=>hs ((h3 i hi s hf).1 h)]
theorem tab_at {L A B:List TxD} {t:TxD} {f g:TxD→Option TxD} (hr:Zb0 TxD.id L) (e:L=A++t :: B):tab L f g A t.id=g t:=by
 obtain ⟨h1,h2,_⟩:=ZeJ hr e
 unfold tab
 rw [h1]
 show (if t ∈ A then f t else g t)=g t
 rw [if_neg (Zou h2)]
theorem Zeq {L A B:List TxD} {t:TxD} {f g:TxD→Option TxD} (hr:Zb0 TxD.id L) (e:L=A++t :: B) (h:f t=g t):tab L f g (A ++ [t])=tab L f g A:=by
 rw [Zdd hr e,h]
 funext i
 unfold ZpL
 split
 · rename_i hi;rw [hi,tab_at hr e]
 · rfl
theorem ZfL {L:List TxD} {f g:TxD→Option TxD} (i:Int):tab L f g [] i=(ZN L i).bind g:=by
 unfold tab;simp
theorem Zgr {L:List TxD} {f g:TxD→Option TxD} (i:Int):tab L f g L i=(ZN L i).bind f:=by
 unfold tab
 cases h:ZN L i with
 | none=>rfl
 | some s=>show (if s ∈ L then f s else g s)=f s;rw [if_pos (findT_mem h).1]
theorem ZeV {L A:List TxD} {f g:TxD→Option TxD} {i:Int} {y:TxD} (h:tab L f g A i=some y):∃ s,s ∈ L∧s.id=i∧((s ∈ A∧f s=some y)∨(s ∉ A∧g s=some y)):=by
 unfold tab at h
 cases hf:ZN L i with
 | none=>rw [hf] at h;cases h
 | some s=>
   rw [hf] at h
   have h:(if s ∈ A then f s else g s)=some y:=h
   refine ⟨s,(findT_mem hf).1,(findT_mem hf).2,?_⟩
   by_cases hs:s ∈ A
   · rw [if_pos hs] at h;exact .inl ⟨hs,h⟩
   · rw [if_neg hs] at h;exact .inr ⟨hs,h⟩
theorem Za6 {x:Zj} {F G:Int→Option TxD} (h:At x F) (e:∀ i,F i=G i):At x G:=fun i=>(h i).trans (e i)
def ZsX (x b:Zj):Prop:=∀ s ∈ x.txs,∃ u ∈ b.txs,u.id=s.id∧s.ops.length≤u.ops.length
section
variable {a b:Zj} {Q:Zj→Prop} (hQ:∀ x,ZaT 166 x→(a.txs = []→ZsX x b)→Q x)
include hQ
theorem Zr0 {n:Nat} (ha:ZaT n a) (hn:n+a.txs.length≤165):∃ y,ZbN Q a (fA a b) y∧ZaT (n+a.txs.length) y∧At y (fun i=>(ZN a.txs i).bind fun t=>some (fT b t)):=by
 have hr:=(Zs ha.1).1
 obtain ⟨y,h1,h2,h3⟩:=stage (Q:=Q) (L:=a.txs) (p:=fun t=>!Za5 b t && ZcV t) (m:=fun t=>ZdU (bareT t)) (I:=fun A x=>At x (tab a.txs (fun t=>some (fT b t)) some A)) (fun A t B x n e hx hn hI=>by
   have hm:t ∈ a.txs:=by rw [e];simp
   obtain ⟨hrt,_⟩:=ZaB ha.1 hm
   have hat:=tab_at (f:=fun t=>some (fT b t)) (g:=some) hr e
   split
   · rename_i hp
     simp only [Bool.and_eq_true,Bool.not_eq_true'] at hp
     obtain ⟨k1,k2,k3,_⟩:=Zn0 (t:=bareT t) (t0:=t) hx hn hI (Zbc hrt) (Nat.le_trans (List.length_filter_le _ _) (ha.2.2 t hm)) hat (ZgA x t) (ZiB hx.1 (Zfq (Zbc hrt)) (t0:=t) (by rw [hI];exact hat) fun k=>ZfF _ _)
     refine ⟨k1,k2,Za6 k3 fun i=>?_⟩
     rw [Zdd hr e]
     have:fT b t=bareT t:=by unfold fT;rw [hp.1];rfl
     rw [this];rfl
   · rename_i hp
     rw [Zeq hr e]
     · exact hI
     · show some (fT b t)=some t
       congr 1
       by_cases hj:Za5 b t=true
       · unfold fT;rw [if_pos hj]
       · exact ZoP (by simpa using hj) (by simpa [hj] using hp)) (fun A x hx hI=>hQ x hx fun h0 s hs=>by
   obtain ⟨u,hu,_⟩:=ZeV (ZeU hx.1 hI hs)
   rw [h0] at hu;cases hu) a.txs [] a n rfl ha hn (fun i=>by rw [ZfL];simp)
 exact ⟨y,h1,h2,Za6 h3 fun i=>Zgr i⟩
theorem ZsH {n:Nat} {x:Zj} (ha:Zy a) (hb:Zy b) (hx:ZaT n x) (hn:n+a.txs.length≤165) (hI:At x (fun i=>(ZN a.txs i).bind fun t=>some (fT b t))) :
   ∃ y,ZbN Q x (fB a b) y∧ZaT (n+a.txs.length) y∧At y (fun i=>(ZN a.txs i).bind fun t=>if hasT b t=true then some (fT b t) else none):=by
 have hr:=(Zs ha).1
 obtain ⟨y,h1,h2,h3⟩:=stage (Q:=Q) (L:=a.txs) (p:=fun t=>!hasT b t) (m:=Zfd) (I:=fun A x=>At x (tab a.txs (fun t=>if hasT b t=true then some (fT b t) else none) (fun t=>some (fT b t)) A)) (fun A t B x n e hx hn hI=>by
   have hm:t ∈ a.txs:=by rw [e];simp
   obtain ⟨hrt,_⟩:=ZaB ha hm
   split
   · rename_i hp
     have hp:hasT b t=false:=by simpa using hp
     have hu:ZeH x (Zdq t.id)=false:=Zkh fun y hy _ v hv e2=>by
       obtain ⟨s,hs,_,h9⟩:=ZeV (ZeU hx.1 hI hy)
       have hy2:y=fT b s:=by
         rcases h9 with ⟨_,h9⟩ | ⟨_,h9⟩
         · split at h9
           · exact (Option.some.inj h9).symm
           · cases h9
         · exact (Option.some.inj h9).symm
       rw [hy2] at hv
       obtain ⟨j1,j2⟩:=Zh3 hv
       have e3:v.tx=t.id:=e2
       have h8:=ZsG (Zfw (ZaB hb (Zh0 j1).1).2 j2) (by rw [e3];exact Zfq hrt)
       rw [e3] at h8
       have:hasT b t=true:=h8
       rw [hp] at this;cases this
     obtain ⟨k1,k2,k3⟩:=Zsx hx hn hI (tab_at hr e) hu
     refine ⟨k1,k2,Za6 k3 fun i=>?_⟩
     rw [Zdd hr e,if_neg (by simp [hp])]
   · rename_i hp
     rw [Zeq hr e]
     · exact hI
     · rw [if_pos (by simpa using hp)]) (fun A x hx hI=>hQ x hx fun h0 s hs=>by
   obtain ⟨u,hu,_⟩:=ZeV (ZeU hx.1 hI hs)
   rw [h0] at hu;cases hu) a.txs [] x n rfl hx hn (Za6 hI fun i=>by rw [ZfL])
 exact ⟨y,h1,h2,Za6 h3 fun i=>Zgr i⟩
theorem Zsy {n:Nat} {x:Zj} (ha:Zy a) (hb:Zy b) (hl:∀ t ∈ b.txs,t.ops.length≤24) (hx:ZaT n x) (hn:n+b.txs.length≤165) (hI:At x (fun i=>(ZN b.txs i).bind fun u=>(ZN a.txs u.id).map (fT b))) :
   ∃ y,ZbN Q x (fC a b) y∧ZaT (n+b.txs.length) y∧At y (fun i=>(ZN b.txs i).bind fun u=>if hasT a u=true then some (fT a u) else none):=by
 have hr:=(Zs hb).1
 obtain ⟨y,h1,h2,h3⟩:=stage (Q:=Q) (L:=b.txs) (p:=fun t=>hasT a t && !Za5 a t) (m:=fun t=>ZdU (bareT t)) (I:=fun A x=>At x (tab b.txs (fun u=>if hasT a u=true then some (fT a u) else none) (fun u=>(ZN a.txs u.id).map (fT b)) A)) (fun A t B x n e hx hn hI=>by
   have hm:t ∈ b.txs:=by rw [e];simp
   obtain ⟨hrt,_⟩:=ZaB hb hm
   have hft:=Zbh hr hm
   split
   · rename_i hp
     simp only [Bool.and_eq_true,Bool.not_eq_true'] at hp
     obtain ⟨s0,hs0⟩:=Option.isSome_iff_exists.1 (show (ZN a.txs t.id).isSome=true from hp.1)
     have hu:ZeH x (bareT t)=false:=Zkh fun y hy _ v hv e2=>by
       have e3:v.tx=t.id:=e2
       obtain ⟨s,hs,_,h9⟩:=ZeV (ZeU hx.1 hI hy)
       obtain ⟨w,hw,hv2⟩:∃ w ∈ b.txs,v ∈ ZaE w:=by
         rcases h9 with ⟨_,h9⟩ | ⟨_,h9⟩
         · split at h9
           · rw [← Option.some.inj h9] at hv
             exact ⟨s,hs,(Zh3 hv).2⟩
           · cases h9
         · obtain ⟨w,_,h9⟩:=Option.map_eq_some_iff.1 h9
           rw [← h9] at hv
           obtain ⟨j1,j2⟩:=Zh3 hv
           exact ⟨w,(Zh0 j1).1,j2⟩
       have h8:=Zqx (t:=t) (Zfw (ZaB hb hw).2 hv2) (by rw [e3];exact Zfq hrt) (by rw [e3];exact hft)
       rw [show wcnt (bareT t).ops v.key=wcnt t.ops v.key from ZfF _ _];exact h8
     obtain ⟨k1,k2,k3,_⟩:=Zn0 (t:=bareT t) (t0:=fT b s0) hx hn hI (Zbc hrt) (Nat.le_trans (List.length_filter_le _ _) (hl t hm)) (by
       show tab _ _ _ A t.id=_
       rw [tab_at hr e,hs0];rfl) (ZgA x t) hu
     refine ⟨k1,k2,Za6 k3 fun i=>?_⟩
     rw [Zdd hr e,if_pos hp.1]
     have:fT a t=bareT t:=by unfold fT;rw [hp.2];rfl
     rw [this];rfl
   · rename_i hp
     rw [Zeq hr e]
     · exact hI
     · by_cases hh:hasT a t=true
       · have hj:Za5 a t=true:=by simpa [hh] using hp
         have hjb:Za5 b t=true:=by rw [Zpi hft];simp
         rw [if_pos hh,(Zh0 hj).2]
         show some (fT a t)=some (fT b t)
         unfold fT;rw [if_pos hj,if_pos hjb]
       · rw [if_neg hh]
         have:ZN a.txs t.id=none:=by unfold hasT at hh;simpa using hh
         rw [this];rfl) (fun A x hx hI=>hQ x hx fun h0 s hs=>by
   obtain ⟨u,hu,_,h9⟩:=ZeV (ZeU hx.1 hI hs)
   exfalso
   have hn:∀ i,ZN a.txs i=none:=fun i=>by rw [h0];rfl
   rcases h9 with ⟨_,h9⟩ | ⟨_,h9⟩
   · split at h9
     · rename_i h8;unfold hasT at h8;rw [hn] at h8;cases h8
     · cases h9
   · rw [hn] at h9;cases h9) b.txs [] x n rfl hx hn (Za6 hI fun i=>by rw [ZfL])
 exact ⟨y,h1,h2,Za6 h3 fun i=>Zgr i⟩
omit hQ in
theorem Zjs {t:TxD} {l:List Int} {k:Int} (h:Ze0 l) (hx:t.done=true→0<wcnt t.ops k→t.id ∈ l ∨ ∀ z ∈ l,z<t.id):Ze0 (Zfg t l k):=by
 unfold Zfg
 split
 · rename_i h1
   unfold withO
   split
   · exact h
   · rename_i h2
     have h3:=(hx h1.1 h1.2).resolve_left h2
     exact List.pairwise_append.2 ⟨h,by simp,fun z hz w hw=>by rw [List.mem_singleton.1 hw];exact h3 z hz⟩
 · exact h.filter _
theorem Zsd {n:Nat} {x:Zj} (hb:Zy b) (hl:∀ t ∈ b.txs,t.ops.length≤24) (hx:ZaT n x) (hn:n+b.txs.length≤165) (hI:At x (fun i=>(ZN b.txs i).bind fun u=>if hasT a u=true then some (fT a u) else none)) (hO:a.txs = [] → ∀ k,Ze0 (getO x.orders k)) :
   ∃ y,ZbN Q x (fD a b) y∧ZaT (n+b.txs.length) y∧At y (fun i=>(ZN b.txs i).bind fun u=>some (fT a u))∧(a.txs = [] → ∀ k,Ze0 (getO y.orders k)):=by
 have hr:=(Zs hb).1
 obtain ⟨y,h1,h2,h3,h4⟩:=stage (Q:=Q) (L:=b.txs) (p:=fun t=>!hasT a t) (m:=Ze2) (I:=fun A x=>At x (tab b.txs (fun u=>some (fT a u)) (fun u=>if hasT a u=true then some (fT a u) else none) A)∧(a.txs = [] → ∀ k,Ze0 (getO x.orders k))) (fun A t B x n e hx hn hI=>by
   have hm:t ∈ b.txs:=by rw [e];simp
   obtain ⟨hrt,_⟩:=ZaB hb hm
   split
   · rename_i hp
     have hp:hasT a t=false:=by simpa using hp
     have hj:Za5 a t=false:=by
       cases hc:Za5 a t with
       | false=>rfl
       | true=>rw [ZpJ hc] at hp;cases hp
     obtain ⟨k1,k2,k3,k4⟩:=Zsf hx hn hI.1 hrt (hl t hm) (by rw [tab_at hr e,if_neg (by simp [hp])])
     refine ⟨k1,k2,Za6 k3 fun i=>?_,fun h0 k=>?_⟩
     · rw [Zdd hr e]
       have:fT a t=bareT t:=by unfold fT;rw [hj];rfl
       rw [this]
     · rw [k4]
       refine Zjs (hI.2 h0 k) fun _ _=>.inr fun z hz=>?_
       have hz2:=((Zaw.1 hx.1).2.2.2.2.2 k).mem_iff.1 hz
       obtain ⟨s,hs,e2,_⟩:=Zbe.1 hz2
       obtain ⟨u,hu,e3,h9⟩:=ZeV (ZeU hx.1 hI.1 hs)
       have hA:u ∈ A:=by
         rcases h9 with ⟨h9,_⟩ | ⟨_,h9⟩
         · exact h9
         · rw [show hasT a u=false by unfold hasT;rw [h0];rfl] at h9
           cases h9
       have:=(ZeJ hr e).2.1 u hA
       show z<t.id
       omega
   · rename_i hp
     refine ⟨?_,hI.2⟩
     rw [Zeq hr e]
     · exact hI.1
     · rw [if_pos (by simpa using hp)]) (fun A x hx hI=>hQ x hx fun _ s hs=>by
   obtain ⟨u,hu,e2,h9⟩:=ZeV (ZeU hx.1 hI.1 hs)
   have hy2:s=fT a u:=by
     rcases h9 with ⟨_,h9⟩ | ⟨_,h9⟩
     · exact (Option.some.inj h9).symm
     · split at h9
       · exact (Option.some.inj h9).symm
       · cases h9
   exact ⟨u,hu,e2,by rw [hy2];exact Zqw u⟩) b.txs [] x n rfl hx hn ⟨Za6 hI fun i=>by rw [ZfL],hO⟩
 exact ⟨y,h1,h2,Za6 h3 fun i=>Zgr i,h4⟩
theorem Zsh {n:Nat} {x:Zj} (hb:Zy b) (hl:∀ t ∈ b.txs,t.ops.length≤24) (hx:ZaT n x) (hn:n+b.txs.length≤165) (hI:At x (fun i=>(ZN b.txs i).bind fun u=>some (fT a u))) (hO:a.txs = [] → ∀ k,Ze0 (getO x.orders k)) :
   ∃ y,ZbN Q x (fE a b) y∧ZaT (n+b.txs.length) y∧y.txs=b.txs∧(a.txs = [] → ∀ k,Ze0 (getO y.orders k)):=by
 have hr:=(Zs hb).1
 obtain ⟨y,h1,h2,h3,h4⟩:=stage (Q:=Q) (L:=b.txs) (p:=fun t=>!Za5 a t && ZcV t) (m:=ZdU) (I:=fun A x=>At x (tab b.txs some (fun u=>some (fT a u)) A)∧(a.txs = [] → ∀ k,Ze0 (getO x.orders k))) (fun A t B x n e hx hn hI=>by
   have hm:t ∈ b.txs:=by rw [e];simp
   obtain ⟨hrt,hnd⟩:=ZaB hb hm
   split
   · rename_i hp
     have hat:ZN x.txs t.id=some (fT a t):=by rw [hI.1,tab_at hr e]
     have hd:Zbt x t=true:=by
       unfold Zbt
       rw [List.all_eq_true]
       intro v hv
       have h9:=Zfw hnd hv
       unfold ZgR at h9 ⊢
       split
       · rename_i hz;rw [if_pos hz] at h9;exact h9
       · rename_i hz
         rw [if_neg hz] at h9
         rw [hI.1]
         cases hf:ZN b.txs v.tx with
         | none=>rw [hf] at h9;cases h9
         | some u=>
           rw [hf] at h9
           unfold tab
           rw [hf]
           by_cases hu:u ∈ A
           · simpa [hu] using h9
           · have hw:=ZsN (b:=a) u v.key
             simp [hu,hw] at h9 ⊢
             exact h9
     obtain ⟨k1,k2,k3,k4⟩:=Zn0 (t0:=fT a t) hx hn hI.1 hrt (hl t hm) (tab_at hr e) hd (ZiB hx.1 (Zfq hrt) hat fun k=>(ZsN t k).symm)
     refine ⟨k1,k2,Za6 k3 fun i=>?_,fun h0 k=>?_⟩
     · rw [Zdd hr e]
     · rw [k4]
       refine Zjs (hI.2 h0 k) fun hdn hw=>.inl ?_
       refine ((Zaw.1 hx.1).2.2.2.2.2 k).mem_iff.2 (Zbe.2 ⟨fT a t,(findT_mem hat).1,ZsP t,?_,by rw [ZsN];exact hw⟩)
       unfold fT;split
       · exact hdn
       · exact hdn
   · rename_i hp
     refine ⟨?_,hI.2⟩
     rw [Zeq hr e]
     · exact hI.1
     · congr 1
       by_cases hj:Za5 a t=true
       · unfold fT;rw [if_pos hj]
       · exact (ZoP (by simpa using hj) (by simpa [hj] using hp)).symm) (fun A x hx hI=>hQ x hx fun _ s hs=>by
   obtain ⟨u,hu,e2,h9⟩:=ZeV (ZeU hx.1 hI.1 hs)
   refine ⟨u,hu,e2,?_⟩
   rcases h9 with ⟨_,h9⟩ | ⟨_,h9⟩
   · rw [← Option.some.inj h9];exact Nat.le_refl _
   · rw [← Option.some.inj h9];exact Zqw u) b.txs [] x n rfl hx hn ⟨Za6 hI fun i=>by rw [ZfL],hO⟩
 refine ⟨y,h1,h2,Zs5 h2.1 hb fun i=>?_,h4⟩
 rw [h3,Zgr];simp
theorem Zhc (hb:ZaT 12 b) {h0:Zj} {o:OrdD} {s:List Zcg} (hso:Zm8 (getO h0.orders o.key) o.txs s) (hne:getO h0.orders o.key≠[]):∀ (S2 S1:List Zcg) (x:Zj),s=S1++S2→Zy x→x.txs=b.txs→getO x.orders o.key=ZaZ (getO h0.orders o.key) S1 →
   ∃ y,ZbN Q x (S2.map (ZmD o.key)) y∧Zy y∧y.txs=b.txs∧getO y.orders o.key=o.txs ∧ ∀ k,k≠o.key→getO y.orders k=getO x.orders k
 | [],S1,x,e,hx,ht,hg=>⟨x,rfl,hx,ht,by rw [hg,← hso.done,e,List.append_nil],fun _ _=>rfl⟩
 | p :: S2,S1,x,e,hx,ht,hg=>by
   have hi:S1.length<s.length:=by rw [e];simp
   have h1:=hso.each S1.length hi
   have e1:s.take S1.length=S1:=by rw [e];simp
   have e2:Go.Gm.nth s S1.length=p:=by rw [Zp hi];simp [e]
   have e3:s.take (S1.length+1)=S1 ++ [p]:=by rw [ZE hi,e1,e2]
   rw [e1,e2,e3,← hg] at h1
   have hl:∀ i,ZaZ (getO h0.orders o.key) (s.take i)≠[]:=fun i h9=>by
     have:=hso.len i
     rw [h9] at this
     exact hne (List.eq_nil_of_length_eq_zero this.symm)
   have n1:getO x.orders o.key≠[]:=by rw [hg];have:=hl S1.length;rwa [e1] at this
   have n2:(Zal (getO x.orders o.key) p.key p.val).1≠[]:=by rw [h1];have:=hl (S1.length+1);rwa [e3] at this
   have hed:ZM x (ZmD o.key p)=Z8 x o.key fun l=>Zal l p.key p.val:=rfl
   have ht4:=Zqn (rule:=fun l=>Zal l p.key p.val) hx n1 (by rw [h1]) n2
   have h2:(ZM x (ZmD o.key p)).2=0:=by rw [hed,ht4]
   have hR:Zy (ZM x (ZmD o.key p)).1:=by
     rw [hed] at h2 ⊢
     exact Zc0 (rule:=fun l=>Zal l p.key p.val) (fun l h=>Zi3 h) h2
   have htx:(ZM x (ZmD o.key p)).1.txs=b.txs:=by rw [hed,ht4];exact ht
   have hgo:∀ k,getO (ZM x (ZmD o.key p)).1.orders k=if k=o.key then (Zal (getO x.orders o.key) p.key p.val).1 else getO x.orders k:=fun k=>by
     rw [hed,ht4]
     show getO (ZbX OrdD.key _ _ _) k=_
     rw [Zlz (Zv.1 (Zs hx).2),decide_eq_false n2]
     rfl
   obtain ⟨y,y1,y2,y3,y4,y5⟩:=Zhc hb hso hne S2 (S1 ++ [p]) (ZM x (ZmD o.key p)).1 (by rw [e];simp) hR htx (by rw [hgo,if_pos rfl,h1])
   refine ⟨y,⟨h2,hQ _ ⟨hR,by rw [htx];exact Nat.le_trans hb.2.1 (by omega),by rw [htx];exact hb.2.2⟩ fun _ s hs=>⟨s,by rw [← htx];exact hs,rfl,Nat.le_refl _⟩,y1⟩,y2,y3,y4,fun k hk=>?_⟩
   rw [y5 k hk,hgo,if_neg hk]
omit hQ in
theorem Ziw {h0:Zj} (hh:Zy h0) (hb:Zy b) (ht:h0.txs=b.txs) {o:OrdD} (ho:o ∈ b.orders):Zch (getO h0.orders o.key) o.txs∧getO h0.orders o.key≠[]:=by
 obtain ⟨_,b2,b3,b4,b5,b6⟩:=Zaw.1 hb
 obtain ⟨_,_,_,_,_,h6⟩:=Zaw.1 hh
 have p1:=h6 o.key
 have p2:=b6 o.key
 rw [Zbi (Zv.1 b4) ho] at p2
 rw [ht] at p1
 have hin:∀ z ∈ ZU b.txs o.key,1≤z∧z≤1048575:=fun z hz=>by
   obtain ⟨t,h1,h2,_⟩:=Zbe.1 hz
   have:=(b3 t h1).1
   unfold Z1 at this
   split at this
   · cases this
   · rename_i h3;rw [← h2];exact Decidable.not_not.1 h3
 have hnd:=Zci b2 o.key
 refine ⟨⟨⟨fun z hz=>hin z (p1.mem_iff.1 hz),p1.nodup_iff.2 hnd⟩,⟨fun z hz=>hin z (p2.mem_iff.1 hz),p2.nodup_iff.2 hnd⟩,p1.trans p2.symm⟩,fun h9=>?_⟩
 rw [h9] at p1
 exact b5 o ho (p2.trans p1.symm).eq_nil
theorem ZqC {h0:Zj} (hh:Zy h0) (hb:ZaT 12 b) (ht:h0.txs=b.txs):∀ (B A:List OrdD) (x:Zj),b.orders=A++B→Zy x→x.txs=b.txs→(∀ k,getO x.orders k=if (∃ o ∈ A,o.key=k) then getO b.orders k else getO h0.orders k) →
   ∃ y,ZbN Q x (B.flatMap (mvC h0)) y∧Zy y∧y.txs=b.txs ∧ ∀ k,getO y.orders k=if (∃ o ∈ b.orders,o.key=k) then getO b.orders k else getO h0.orders k
 | [],A,x,e,hx,hxt,hg=>⟨x,rfl,hx,hxt,by rw [e,List.append_nil] at *;exact hg⟩
 | o :: B,A,x,e,hx,hxt,hg=>by
   have ho:o ∈ b.orders:=by rw [e];simp
   have hbr:=Zv.1 (Zs hb.1).2
   obtain ⟨ok,hne⟩:=Ziw hh hb.1 ht ho
   have hnA:¬ ∃ u ∈ A,u.key=o.key:=fun ⟨u,hu,h9⟩=>by
     rw [e,List.pairwise_append] at hbr
     have:=hbr.2.2 u hu o (by simp)
     omega
   obtain ⟨y,y1,y2,y3,y4,y5⟩:=Zhc hQ hb (steps_facts ok rfl) hne (Zax (getO h0.orders o.key) 0 o.txs) [] x rfl hx hxt (by rw [hg,if_neg hnA];rfl)
   obtain ⟨z,z1,z2,z3,z4⟩:=ZqC hh hb ht B (A ++ [o]) y (by rw [e];simp) y2 y3 fun k=>by
     by_cases hk:k=o.key
     · rw [hk,y4,if_pos ⟨o,by simp,rfl⟩,Zbi hbr ho]
     · rw [y5 k hk,hg]
       by_cases h9:∃ u ∈ A,u.key=k
       · obtain ⟨u,hu,e9⟩:=h9
         rw [if_pos ⟨u,hu,e9⟩,if_pos ⟨u,by simp [hu],e9⟩]
       · rw [if_neg h9,if_neg]
         rintro ⟨u,hu,e9⟩
         rcases List.mem_append.1 hu with hu | hu
         · exact h9 ⟨u,hu,e9⟩
         · rw [List.mem_singleton.1 hu] at e9;exact hk e9.symm
   refine ⟨z,?_,z2,z3,z4⟩
   rw [List.flatMap_cons]
   refine ZbN.app ?_ z1
   unfold mvC ZaY
   rw [if_pos ok]
   exact y1
theorem ZdO (ha:ZaT 12 a) (hb:ZaT 12 b):∃ h0,playC a (ZX a b) 0=(h0,(ZX a b).length,0)∧Zy h0∧h0.txs=b.txs∧(a=zeroH → ∀ k,Ze0 (getO h0.orders k))∧ZbN Q a (Zae a b).1 b:=by
 have la:=ha.2.1
 have lb:=hb.2.1
 obtain ⟨x1,p1,f1,i1⟩:=Zr0 hQ ha (by omega)
 obtain ⟨x2,p2,f2,i2⟩:=ZsH hQ ha.1 hb.1 f1 (by omega) i1
 obtain ⟨x3,p3,f3,i3⟩:=Zsy hQ ha.1 hb.1 hb.2.2 f2 (by omega) (Za6 i2 fun i=>by
   cases hA:ZN a.txs i with
   | none=>
     cases hB:ZN b.txs i with
     | none=>rfl
     | some u=>show none=(ZN a.txs u.id).map (fT b);rw [(findT_mem hB).2,hA];rfl
   | some s=>
     cases hB:ZN b.txs i with
     | none=>
       show (if hasT b s=true then some (fT b s) else none)=none
       rw [if_neg];unfold hasT;rw [(findT_mem hA).2,hB];simp
     | some u=>
       show (if hasT b s=true then some (fT b s) else none)=(ZN a.txs u.id).map (fT b)
       rw [(findT_mem hB).2,hA,if_pos]
       · rfl
       · unfold hasT;rw [(findT_mem hA).2,hB];rfl)
 have hO:a.txs = [] → ∀ k,Ze0 (getO x3.orders k):=fun h0 k=>by
   have e1:x1=a:=by unfold fA at p1;rw [h0] at p1;exact p1
   have e2:x2=a:=by unfold fB at p2;rw [h0,e1] at p2;exact p2
   have e3:x3=a:=by
     unfold fC at p3
     rw [List.filter_eq_nil_iff.2 fun t _=>by simp [hasT,h0,ZN],e2] at p3
     exact p3
   have hol:=ha.1.2.2.1
   rw [h0] at hol
   rw [e3,List.eq_nil_of_length_eq_zero hol]
   exact List.Pairwise.nil
 obtain ⟨x4,p4,f4,i4,o4⟩:=Zsd hQ hb.1 hb.2.2 f3 (by omega) i3 hO
 obtain ⟨x5,p5,f5,i5,o5⟩:=Zsh hQ hb.1 hb.2.2 f4 (by omega) i4 o4
 have pf:ZbN Q a (ZX a b) x5:=(((p1.app p2).app p3).app p4).app p5
 have hpl:=pf.play 0
 rw [Nat.zero_add] at hpl
 refine ⟨x5,hpl,f5.1,i5,fun h0=>o5 (by rw [h0];rfl),?_⟩
 obtain ⟨y,y1,y2,y3,y4⟩:=ZqC hQ f5.1 hb i5 b.orders [] x5 rfl f5.1 i5 fun k=>by rw [if_neg (by simp)]
 have e:y=b:=by
   have hbr:=Zs hb.1
   have hyr:=Zs y2
   have ho:y.orders=b.orders:=ZrK (Zv.1 hyr.2) (Zv.1 hbr.2) (Zda y2) (Zda hb.1) fun k=>by
     rw [y4]
     split
     · rfl
     · rename_i h9
       have e1:getO b.orders k = []:=ZcZ fun o ho e=>h9 ⟨o,ho,e⟩
       have q1:=(Zaw.1 hb.1).2.2.2.2.2 k
       have q2:=(Zaw.1 f5.1).2.2.2.2.2 k
       rw [i5] at q2
       rw [e1] at q1
       rw [e1]
       exact (q2.trans q1.symm).eq_nil
   cases y;cases b
   simp only at y3 ho
   rw [y3,ho]
 subst e
 unfold Zae
 rw [if_neg (by simp [ha.1,hb.1]),hpl]
 exact pf.app y1
end
theorem patch_self {g:Zj} (hg:ZaT 12 g):(Zae g g).1 = []:=by
 obtain ⟨h0,h1,h2,h3,_,_⟩:=ZdO (a:=g) (b:=g) (Q:=fun _=>True) (fun _ _ _=>trivial) hg hg
 have hr:=(Zs hg.1).1
 have hj:∀ t ∈ g.txs,Za5 g t=true∧hasT g t=true:=fun t ht=>by
   have:=Zbh hr ht
   unfold Za5 hasT
   rw [this];simp
 have hf:ZX g g = []:=by
   show (((fA g g++fB g g)++fC g g)++fD g g)++fE g g = []
   unfold fA fB fC fD fE
   rw [List.filter_eq_nil_iff.2 fun t ht=>by simp [hj t ht],List.filter_eq_nil_iff.2 fun t ht=>by simp [hj t ht],List.filter_eq_nil_iff.2 fun t ht=>by simp [hj t ht]]
   simp
 have e:h0=g:=by rw [hf] at h1;exact (congrArg Prod.fst h1).symm
 unfold Zae
 rw [if_neg (by simp [hg.1]),h1,hf,e]
 dsimp only
 rw [List.nil_append,List.flatMap_eq_nil_iff]
 intro o ho
 unfold mvC ZaY
 rw [Zbi (Zv.1 (Zs hg.1).2) ho]
 split
 · rw [show Zax o.txs 0 o.txs = [] from ZdQ o.txs o.txs 0 rfl];rfl
 · rfl
theorem Zl1 {a b:Zj} (ha:ZaT 12 a) (hb:ZaT 12 b):(Zae a b).1 = [] ↔ a=b:=by
 constructor
 · intro h
   obtain ⟨h0,_,_,_,_,h5⟩:=ZdO (a:=a) (b:=b) (Q:=fun _=>True) (fun _ _ _=>trivial) ha hb
   rw [h] at h5
   exact (show b=a from h5).symm
 · intro h;subst h;exact patch_self ha
end Go.Proofs.YtjhapicamnijnaaGreatDoor
namespace Go.Proofs.YtjhapicamnijnaaGreatDoor
open Go Go.Gm
set_option linter.unusedVariables false
set_option linter.unusedSimpArgs false
set_option maxHeartbeats 4000000
set_option maxRecDepth 8000
open Go.RowKit Go.Maps Go.Sort Go.Shelf Go.ChangeMaps Go.MapKept
def Ztn (x:Int):List Value:=[.int .i64 x]
open Go.RowKit Go.Maps Go.Sort Go.Shelf
end Go.Proofs.YtjhapicamnijnaaGreatDoor
namespace Go.Proofs.YtjhapicamnijnaaGreatDoor
open Go Go.Gm
set_option linter.unusedVariables false
set_option linter.unusedSimpArgs false
set_option maxHeartbeats 4000000
set_option maxRecDepth 8000
open Go.RowKit Go.Maps Go.Sort Go.Shelf Go.ChangeMaps Go.MapKept
def Zmz : Code := (Code.region 2 #[{ dst := some 5, op := Op.assign (Operand.tmp 7), type := 3, pos := "iter.go:51", after := #[], guard := none }] false)
def ZpZ : Code := (Code.block 1 (Code.region 3 #[{ dst := some 8, op := Op.load 39 (Operand.tmp 2), type := 39, pos := "iter.go:52", after := #[], guard := none }, { dst := some 9, op := Op.move (Operand.tmp 5), type := 3, pos := "iter.go:52", after := #[], guard := none }, { dst := some 10, op := Op.buildSlice 39 1 #[(0, Operand.tmp 9)], type := 39, pos := "iter.go:52", after := #[{ on := 1, ground := Ground.data }], guard := none }, { dst := some 11, op := Op.call { callee := Callee.builtin Builtin.append, args := #[Operand.tmp 8, Operand.tmp 10], argTypes := #[39, 39] }, type := 39, pos := "iter.go:52", after := #[{ on := 0, ground := Ground.data }, { on := 2, ground := Ground.data }], guard := none }, { dst := none, op := Op.store 39 (Operand.tmp 2) (Operand.tmp 11), type := 0, pos := "iter.go:52", after := #[{ on := 3, ground := Ground.data }, { on := 3, ground := Ground.chain }, { on := 0, ground := Ground.phase }, { on := 1, ground := Ground.phase }, { on := 2, ground := Ground.phase }, { on := 3, ground := Ground.phase }], guard := none }] false))
def Zq9 (fn:FuncId) (sv:Value) (Bs D:Nat) (st:LoopState) (pend:Option Code):Loop:=
 { state:=st,pending:=pend,fn,tmps:=#[.slice none 0 0,sv,.pointer (some ⟨Bs,0,none⟩),undef,.slice none 0 0,undef,sv,undef,undef,undef,undef,undef,undef],params:=#[7],assign:=Zmz,body:=ZpZ,defers:=D }
structure Zti (w0:World) (fn:FuncId) (sv:Value) (Bs l D:Nat) (ss:List Int) (W:World):Prop where
 box:∃ v,W.heap[Bs]? = some (.cells #[v] 39 (0,0))∧W.ownsRow w0.heap.size 3 1 v ss.length (ss.flatMap Ztn)∧(v = .slice none 0 0 ↔ ss = [])
 L:W.heap[l]? = some (.loop (Zq9 fn sv Bs D .ready none))
 K:W.heap[D]? = some (.deferred (some []))
 below:Below w0.heap.size w0 W
end Go.Proofs.YtjhapicamnijnaaGreatDoor
namespace Go.Proofs.YtjhapicamnijnaaGreatDoor
open Go Go.Gm
set_option linter.unusedVariables false
set_option linter.unusedSimpArgs false
set_option maxHeartbeats 4000000
set_option maxRecDepth 8000
theorem Zrk (v : Value) (l : List OpD) (hll : l.length ≤ 1000000) (p : OpD → Bool) (f : FuncId) (fn : Func) (cps : List PV) (hf : Tryz.prog.funcs[f]? = some fn) (hb : fn.body.isSome = true) (hnn : (fn.name == "runtime.NumGoroutine") = false) (hw : ∀ x, FnP Tryz.prog f (.agg (rOp x) :: cps) (.bool (p x))) : FnG Tryz.prog 67 1 [.is v, .clos f cps] [Zu 53 4 rOp l v] (PV.one) (fun v => [Zu 53 4 rOp (l.filter fun x => !p x) v]) := by
 refine FnG.mk Tryz.func67 rfl Tryz.ntmps67 rfl (by kernel_rfl) ?_
 intro B F0 a w F hB hG hS
 replace hS:=hS.turn 1 rfl (r':=.ob (.val v) (Zu 53 4 rOp l)) (fun _ _ _ _ h=>h)
 refine wp_seq ?_
 refine Za hS (qC qZ) hB [4,1,0] [1,0] rfl rfl fun a w F hS=>Zb (wp_seq ?_)
 refine Za hS (qM rfl rfl (qM rfl rfl (qf (OpC.lendRow 1 [8] (oP (Zm2 l p f fn cps hf hb hnn hw) Tryz.func113 (Args.two .t .t)) ⟨rfl,trivial,trivial⟩ (.pv (fun _ _ _ _ h=>h)) trivial (by rfl)) r2 r1 (qN rfl rfl qZ)))) hB [5,4,1,0] [1,0] rfl rfl fun a w F hS=>Zb (wp_seq (wp_seq ?_))
 refine Za hS (qM rfl rfl (qf (o_eql .t qi) r1 qz qZ)) hB [12,5,4,1,0] [1,0] rfl rfl fun a w F hS=>Zb ?_
 refine Zd hS rfl (fun hc0=>?_) (fun hc0=>?_)
 ·skip
  have hno:=(Zaq p l).resolve_right (by rintro ⟨i,h1,_⟩;simp at hc0;omega)
  have hg:(l.filter fun x=>!p x)=l:=Zdf hno.2
  refine wp_seq ?_
  refine Za hS (qM rfl rfl (qN rfl rfl qZ)) hB [5,4,1,0] [1,0] rfl rfl fun a w F hS=>Zb (wp_ret (Ze ?_))
  have hS:=hS.turn 1 rfl (r':=RS.hp (Zu 53 4 rOp (l.filter fun x=>!p x) v)) (fun _ _ _ _ h=>by rw [hg];exact h)
  refine ZaG (h':=fun v=>Zu 53 4 rOp (l.filter fun x=>!p x) v) hG hS rfl (.tmp rfl .nil) (.one .one) rfl
 obtain ⟨i0,hi0,hi1,hip,hib⟩:=(Zaq p l).resolve_left (by rintro ⟨h1,_⟩;simp [h1] at hc0)
 have hst0:=ZeB hi1 hip hib
 refine wp_skip (Zb (wp_seq (wp_seq ?_)))
 refine Za hS (qM rfl rfl (qp r1 (qN rfl rfl qZ))) hB [6,5,4,1,0] [1,0] rfl rfl fun a w F hS=>Zb (wp_block ?_)
 have hC0:i0<i0+1∧i0+1≤l.length∧l.length=l.length∧l.take i0=(l.take (i0+1)).filter (fun x=>!p x) ∧ ∀ k,i0+1≤k→k<l.length→Go.Gm.nth l k=Go.Gm.nth l k:=⟨by omega,by omega,rfl,hst0,fun k _ _=>rfl⟩
 replace hS:=hS.ent (i:=5) (s':=.pv (.int .i64 (i0:Int))) rfl (.int hi0)
 replace hS:=hS.ent (i:=6) (s':=.pv (.int .i64 ((i0+1:Nat):Int))) rfl (.int (by rw [hi0,ZC (by omega)];omega))
 refine Zr (σ:=Nat×Nat×List OpD) [0,1,4] [0] (fun s=>[(5,.pv (.int .i64 (s.1:Int))),(6,.pv (.int .i64 (s.2.1:Int)))]) (fun s=>[(1,.ob (.val v) (Zu 53 4 rOp s.2.2))]) (fun s=>s.1<s.2.1∧s.2.1≤l.length∧s.2.2.length=l.length∧s.2.2.take s.1=(l.take s.2.1).filter (fun x=>!p x) ∧ ∀ k,s.2.1≤k→k<l.length→Go.Gm.nth s.2.2 k=Go.Gm.nth l k) (fun s=>l.length - s.2.1) ((i0),(i0+1),(l)) hS ⟨rfl,rfl,rfl,rfl,rfl,trivial⟩ ⟨rfl,rfl,trivial⟩ hC0 ?_
 clear hS;intro s a w F hC hS
 obtain ⟨i,j,l1⟩:=s
 try dsimp only at hC
 obtain ⟨F,hS⟩:=hS.nm [6,5,4,1,0] [1,0] rfl rfl
 try dsimp only at hS
 obtain ⟨hij,hj,hll1,htk,hrest⟩:=hC
 refine wp_seq (wp_seq ?_)
 refine Za hS (qM rfl rfl (qM rfl rfl (qf (ZT 1 Tryz.underlying36 .is) r1 r1 (qL r2)))) hB [19,6,5,4,1,0] [1,0] rfl rfl fun a w F hS=>Zb ?_
 refine Zd hS rfl (fun hc1=>?_) (fun hc1=>?_)
 ·skip
  have hjl:j<l.length:=by simp at hc1;omega
  have hnj:Go.Gm.nth l1 j=(Go.Gm.nth l j):=hrest j (Nat.le_refl _) hjl
  have hfs:=Zcd (p:=fun x=>!p x) hjl
  refine wp_skip (Zb (wp_seq (wp_block (wp_seq ?_))))
  refine Zc hS (qM rfl rfl (qM rfl rfl (qf (o_indexAddr_row (sz:=4) 1 (.mk Tryz.underlying36 (by kernel_rfl)) .is .t (by omega) (by omega) (by rfl)) r2 r1 (qf (Zau (ag:=true) (sz':=4) (sz:=4) 1 .t (by intro x;rfl) (by omega) (by kernel_rfl) (by kernel_rfl) (by kernel_rfl)) r1 r1 (qf (oH [.bool false,.int .i64 0,.int .i64 0,.int .i64 0] 101) trivial qz (qS 4 101 r2 r1 qZ)))))) hB [7,6,5,4,1,0] [101,1,0] (fun _=>rfl) (fun _=>rfl) fun τ a w F hS=>?_
  try dsimp only [RS.sub,SF.sub,CF.sub,csub,Anc.sub,List.map,Zf,xL,xM,Nat.reduceAdd,xD,xE,xT,xU,xC,xN,zCF,ldSF,rOp] at hS
  generalize τ 7=v7 at hS
  try simp only [Int.toNat_natCast] at hS
  rw [hnj] at hS
  refine Zb (wp_seq ?_)
  refine Za hS (qM rfl rfl (qe 4 101 r1 r1 (qf (ZS (avs:=[.agg (rOp (Go.Gm.nth l j))]) .t (hw (Go.Gm.nth l j)) hf hb hnn (Args.one (.pagg .t))) r2 qz (qf (o_not .t) r1 qz qZ)))) hB [29,7,6,5,4,1,0] [101,1,0] rfl rfl fun a w F hS=>Zb ?_
  refine Zd hS rfl (fun hc2=>?_) (fun hc2=>?_)
  ·skip
   have hp:p (Go.Gm.nth l j)=false:=by simpa using hc2
   obtain ⟨i2,hi2e⟩:∃ i2,i2=i+1:=⟨_,rfl⟩
   have hi2:IntKind.wrap .i64 ((i:Int)+1)=(i2:Int):=by rw [hi2e];exact wrap_succ (by omega)
   obtain ⟨l2,hl2⟩:∃ l2,l2=l1.set i (Go.Gm.nth l j):=⟨_,rfl⟩
   have hC2:i2<j+1∧j+1≤l.length∧l2.length=l.length∧l2.take i2=(l.take (j+1)).filter (fun x=>!p x) ∧ ∀ k,j+1≤k→k<l.length→Go.Gm.nth l2 k=Go.Gm.nth l k:=⟨by omega,by omega,by rw [hl2,List.length_set];exact hll1,by rw [hl2,hi2e,hfs,hp,← htk,ZE (by rw [List.length_set];omega),List.take_set_of_le (Nat.le_refl _),Zp (by rw [List.length_set];omega),List.getElem_set_self];rfl,fun k hk hk2=>by rw [hl2,Zp (by rw [List.length_set];omega),List.getElem_set_ne (by omega),← Zp (by omega)];exact hrest k (by omega) hk2⟩
   refine wp_seq ?_
   refine Za hS (qM rfl rfl (qM rfl rfl (qe 4 101 r1 r1 (qf (o_indexAddr_row (sz:=4) 1 (.mk Tryz.underlying36 (by kernel_rfl)) .is .t (by omega) (by omega) (by rfl)) r2 r1 (qf (ZdM (sz:=4) 1 .t (by intro x;rfl) (by omega) (.conv .t (Ent.aggU (l:=rOp (Go.Gm.nth l j)) rfl rfl)) (by kernel_rfl)) r2 r1 qZ))))) hB [6,5,4,1,0] [1,0] rfl rfl fun a w F hS=>?_
   try simp only [Int.toNat_natCast] at hS
   rw [← hl2] at hS
   refine Zb ?_
   refine Za hS (qM rfl rfl (qp r1 (qN rfl rfl qZ))) hB [6,5,4,1,0] [1,0] rfl rfl fun a w F hS=>Zh (Zb ?_)
   refine Za hS (qM rfl rfl (qp r1 (qN rfl rfl qZ))) hB [6,5,4,1,0] [1,0] rfl rfl fun a w F hS=>Zb ?_
   have hmu:l.length - (j+1)<l.length - j:=by omega
   replace hS:=hS.ent (i:=5) (s':=.pv (.int .i64 (i2:Int))) rfl (.int hi2)
   replace hS:=hS.ent (i:=6) (s':=.pv (.int .i64 ((j+1:Nat):Int))) rfl (.int (wrap_succ (by omega)))
   obtain ⟨F,hS⟩:=hS.nm [4,1,0,6,5] [0,1] rfl rfl
   exact ⟨((i2),(j+1),(l2)),F,hC2,hS,hmu⟩
  have hp:p (Go.Gm.nth l j)=true:=by simpa using hc2
  obtain ⟨i2,hi2e⟩:∃ i2,i2=i:=⟨_,rfl⟩
  have hi2:(i:Int)=(i2:Int):=by rw [hi2e]
  obtain ⟨l2,hl2⟩:∃ l2,l2=l1:=⟨_,rfl⟩
  rw [← hl2] at hS
  have hC2:i2<j+1∧j+1≤l.length∧l2.length=l.length∧l2.take i2=(l.take (j+1)).filter (fun x=>!p x) ∧ ∀ k,j+1≤k→k<l.length→Go.Gm.nth l2 k=Go.Gm.nth l k:=⟨by omega,by omega,by rw [hl2];exact hll1,by rw [hl2,hi2e,hfs,hp,htk];simp,fun k hk hk2=>by rw [hl2];exact hrest k (by omega) hk2⟩
  refine wp_skip (Zh (Zb ?_))
  refine Za hS (qM rfl rfl (qp r1 (qN rfl rfl qZ))) hB [6,5,4,1,0] [1,0] rfl rfl fun a w F hS=>Zb ?_
  have hmu:l.length - (j+1)<l.length - j:=by omega
  replace hS:=hS.ent (i:=5) (s':=.pv (.int .i64 (i2:Int))) rfl (.int hi2)
  replace hS:=hS.ent (i:=6) (s':=.pv (.int .i64 ((j+1:Nat):Int))) rfl (.int (wrap_succ (by omega)))
  obtain ⟨F,hS⟩:=hS.nm [4,1,0,6,5] [0,1] rfl rfl
  exact ⟨((i2),(j+1),(l2)),F,hC2,hS,hmu⟩
 have hjl:j=l.length:=by simp at hc1;omega
 have hil2:i<l.length:=by omega
 have hg:(l.filter fun x=>!p x)=(l1.take i++List.replicate (l1.length - i) (⟨false,0,0,0⟩:OpD)).take i:=by rw [List.take_append_of_le_length (by rw [List.length_take];omega),List.take_take,Nat.min_self,htk,hjl,List.take_length]
 refine wp_exit (Zi (Zi (Zo (Zb (wp_seq ?_)))))
 refine Za hS (qM rfl rfl (qM rfl rfl (qf (ZaJ (sz:=4) 1 (.mk Tryz.underlying36 (by kernel_rfl)) .is .t (by omega) (by omega)) r2 r1 (qf (Zcn (R:=rOp) (z:=(⟨false,0,0,0⟩:OpD)) (zs:=[.bool false,.int .i64 0,.int .i64 0,.int .i64 0]) 1 Tryz.underlying36 (by kernel_rfl) rfl rfl (fun _ _=>⟨⟨rfl,rfl⟩,⟨rfl,rfl,ZjD⟩,⟨rfl,rfl,ZjD⟩,⟨rfl,rfl,ZjD⟩,trivial⟩) (by intro x;rfl) .t (by simp;omega)) r1 r1 qZ)))) hB [5,4,0] [1,0] rfl rfl fun a w F hS=>Zb (wp_seq ?_)
 refine Zc hS (qM rfl rfl (qM rfl rfl (qf (ZbL (sz:=4) 1 (.mk Tryz.underlying36 (by kernel_rfl)) (by intro x;rfl) .is .t (by omega) (by simp;omega)) r2 r1 (qN rfl rfl qZ)))) hB [4] [1,0] (fun _=>rfl) (fun _=>rfl) fun τ a w F hS=>?_
 try dsimp only [RS.sub,SF.sub,CF.sub,csub,Anc.sub,List.map,rOp] at hS
 generalize τ 41=v41 at hS
 refine Zb (wp_ret ?_)
 have hS:=hS.turn 1 rfl (r':=RS.hp (Zu 53 4 rOp (l.filter fun x=>!p x) v41)) (fun _ _ _ _ h=>by rw [hg];exact h)
 refine ZaG (h':=fun v=>Zu 53 4 rOp (l.filter fun x=>!p x) v) hG hS rfl (.tmp rfl .nil) (.one .one) rfl
theorem ZrM (o:OpD):FnP Tryz.prog 68 [.agg (rOp o)] (.bool o.read):=by
 refine FnP.mk Tryz.func68 rfl Tryz.ntmps68 rfl ?_
 intro B a w F hB hfr hS
 refine wp_seq ?_
 refine Zc hS (qx 101 r1 qB) hB [2,1] [101,0] (fun _=>rfl) (fun _=>rfl) fun τ a w F hS=>?_
 try dsimp only [RS.sub,SF.sub,CF.sub,csub,Anc.sub,List.map,zCF,rOp] at hS
 generalize τ 1=v1 at hS
 refine Zb (wp_seq ?_)
 refine Za hS (qg 0 101 r1 r1 (qa 101 r1 r1 (qN rfl rfl qZ))) hB [2] [0] rfl rfl fun a w F hS=>Zb (wp_ret ?_)
 refine Zq hfr hS rfl rfl rfl .refl
theorem ZlM (t:TxD) (hl:t.ops.length≤1000000):FnP Tryz.prog 27 [.agg (rTx t)] (.agg (rTx (bareT t))):=by
 refine FnP.mk Tryz.func27 rfl Tryz.ntmps27 rfl ?_
 intro B a w F hB hfr hS
 refine wp_seq ?_
 refine Zc hS (qx 101 r1 (qf (oH [.int .i64 0,.bool false,.slice none 0 0] 102) trivial qz qZ)) hB [2,1] [102,101,0] (fun _=>rfl) (fun _=>rfl) fun τ a w F hS=>?_
 try dsimp only [RS.sub,SF.sub,CF.sub,csub,Anc.sub,List.map,zCF,rTx,rInt] at hS
 generalize τ 1=v1 at hS
 generalize τ 2=v2 at hS
 refine Zb (wp_seq ?_)
 replace hS:=hS.fresh 103 rfl
 refine Zc hS (qg 2 101 r1 r1 (qa 101 r1 r1 (qf (Za2 103 (Zdm t.ops hl) Tryz.func29 rfl (by kernel_rfl) (Args.one .t) ZaO) r1 r1 (qf (ZkB 5 103 (fun v=>Zrk _ t.ops hl (fun o=>o.read) 68 Tryz.f68 [] Tryz.func68 rfl (by kernel_rfl) (fun o=>ZrM o)) Tryz.func67 rfl (by kernel_rfl) (Zik.two .same (.of (.conv .f (Ent.fnClos)))) ZaO) r1 r1 (qg 2 101 r1 r1 (qf (Zad 101 .adr (by kernel_rfl) (by kernel_rfl)) r2 r1 qZ)))))) hB [2,1] [103,102,101,0] (fun _=>rfl) (fun _=>rfl) fun τ a w F hS=>?_
 try dsimp only [RS.sub,SF.sub,CF.sub,csub,Anc.sub,List.map,Zf,xL,xM,Nat.reduceAdd,xD,xE,xT,xU,xC,xN,zCF,ldSF,rTx,rInt] at hS
 generalize τ 6=v6 at hS
 obtain ⟨F,hS⟩:=hS.giveCell 103 101 2 rfl rfl rfl rfl rfl
 try dsimp only [List.set] at hS
 obtain ⟨F,hS⟩:=hS.nm [2,1] [102,101,0] rfl rfl
 refine Zb (wp_seq ?_)
 refine Za hS (qe 3 101 r1 r1 (qs 3 102 r2 r1 qZ)) hB [2] [102,101,0] rfl rfl fun a w F hS=>Zb (wp_ret ?_)
 refine Zt hfr hS rfl (.cl 102 true 3 rfl rfl .nil) (.one (.aggU rfl rfl))
theorem Zrr (l : List OpD) (p : OpD → Bool) (f : FuncId) (fn : Func) (cps : List PV) (hf : Tryz.prog.funcs[f]? = some fn) (hb : fn.body.isSome = true) (hnn : (fn.name == "runtime.NumGoroutine") = false) (hw : ∀ x, FnP Tryz.prog f (.agg (rOp x) :: cps) (.bool (p x))) : FnP Tryz.prog 69 [.sl rOp l, .clos f cps] (.bool (l.any p)) := by
 refine FnP.mk Tryz.func69 rfl Tryz.ntmps69 rfl ?_
 intro B a w F hB hfr hS
 refine wp_seq ?_
 refine Za hS qB hB [4,1,0] [0] rfl rfl fun a w F hS=>Zb (wp_seq ?_)
 refine Za hS (qM rfl rfl (qM rfl rfl (qf (oP (Zm2 l p f fn cps hf hb hnn hw) Tryz.func113 (Args.two .t .t)) r2 qz (qf (Zen .t qi) r1 qz (qN rfl rfl qZ))))) hB [4] [0] rfl rfl fun a w F hS=>Zb (wp_ret ?_)
 refine Zq hfr hS rfl rfl rfl (.bool (by rw [ZiZ]))
theorem Zmb (c:CmdD) (hc:c.order.txs.length≤998):FnP Tryz.prog 45 [.agg (rCmd c)] (.bool (Zaj c)):=by
 refine FnP.mk Tryz.func45 rfl Tryz.ntmps45 rfl ?_
 intro B a w F hB hfr hS
 have hnl:(ZaP c).length=c.order.txs.length+5:=by unfold ZaP;rw [List.length_append];simp only [List.length_cons,List.length_nil];omega
 refine wp_seq ?_
 refine Zc hS (qx 101 r1 qB) hB [2,1] [101,0] (fun _=>rfl) (fun _=>rfl) fun τ a w F hS=>?_
 try dsimp only [RS.sub,SF.sub,CF.sub,csub,Anc.sub,List.map,zCF] at hS
 generalize τ 1=v1 at hS
 refine Zb (wp_seq (wp_seq ?_))
 refine Zz hS (qg 0 101 r1 r1 (qa 101 r1 r1 (qf (oP (ZlL c.kind) Tryz.func38 (Args.one .t)) r1 qz (qf (ZhA (ft:=9) (off:=0) (by kernel_rfl) (by kernel_rfl) .t rfl) r1 qz (qf (o_eql_bs Tryz.underlying9 .t (.cs (by kernel_rfl))) r1 qz (qM rfl rfl (qk rfl (fun h=>oL true 10 101 .is) r2 r1 (qk rfl (fun h=>oL true 10 101 .is) r2 r1 (qk rfl (fun h=>oP (Zsj c) Tryz.func84 (Args.one (.pagg (.w h)))) r2 qz (qk rfl (fun h=>oP (Zjx c (usedR c)) Tryz.func13 (Args.two (.pagg (.w h)) (.w h))) r3 qz (qk rfl (fun h=>o_not (.w h)) r2 qz (qf (Zao .t .t) r2 qz (qM rfl rfl (qv 1 101 rfl r2 r1 (qk rfl (fun h=>oF 2 101 (.w h .adr)) r2 r1 (qw 101 rfl r2 r1 (qk rfl (fun h=>ZaM Tryz.underlying36 (.w h)) r2 qz (qk rfl (fun h=>ZaR (.w h) qi) r2 qz (qf (Zao .t .t) r2 qz (qM rfl rfl (qv 0 101 rfl r2 r1 (qw 101 rfl r2 r1 (qk rfl (fun h=>o_eql (.w h) qi) r2 qz (qk rfl (fun h=>oM (.w h)) r2 qz (ZI.cons (ZdD.cond2 rfl rfl (fun h=>Zbd (off:=9) 101 .is (by kernel_rfl) (by rfl))) r2 r1 (ZI.cons (ZdD.cond2 rfl rfl (fun h=>ZeX (ag:=false) (sz:=1) 101 (.w h .adr) (by kernel_rfl) (by kernel_rfl) (by kernel_rfl) (by rfl))) r2 r1 (ZI.cons (ZdD.cond2 rfl rfl (fun h=>Zn3 (Zog c.phen) Tryz.func49 rfl (by kernel_rfl) (Args.one (.w h)))) r2 qz (ZI.cons (ZdD.cond2 rfl rfl (fun h=>o_eql_bs Tryz.underlying9 (.w h) (.cs (by kernel_rfl)))) r2 qz (qk rfl (fun h=>ZK (.w h) (.wc h)) r3 qz (qf (Zao .t .t) r2 qz qZ)))))))))))))))))))))))))))))) hB [37,2,1] [101,0] rfl rfl fun a w F hS=>?_
 try dsimp only [List.map,xD,xE,xT,xU,ldSF] at hS
 refine Zb ?_
 refine Zd hS rfl (fun hc0=>?_) (fun hc0=>?_)
 ·skip
  have hg:false=Zaj c:=by
    unfold Zaj
    have hx:¬ ZmN c:=by
      rintro ⟨g1,g2,g3,g4⟩
      simp only [Bool.or_eq_true,Bool.and_eq_true,decide_eq_true_eq,Bool.not_eq_true',decide_eq_false_iff_not] at hc0
      rcases hc0 with ((hx | hx) | hx) | hx
      · exact g1 hx
      · exact hx g2
      · omega
      · exact g4 hx
    rw [decide_eq_false hx]
    rfl
  refine wp_seq ?_
  refine Za hS qB hB [2,1] [101,0] rfl rfl fun a w F hS=>Zb (wp_ret (Ze ?_))
  refine Zq hfr hS rfl rfl rfl (.bool hg)
 have hhd:ZmN c:=by
   rw [Bool.eq_false_iff] at hc0
   refine ⟨fun g=>hc0 ?_,Classical.byContradiction fun g=>hc0 ?_,Nat.le_of_not_lt fun g=>hc0 ?_,fun g=>hc0 ?_⟩
   · simp only [Bool.or_eq_true,Bool.and_eq_true,decide_eq_true_eq,Bool.not_eq_true',decide_eq_false_iff_not];exact .inl (.inl (.inl g))
   · simp only [Bool.or_eq_true,Bool.and_eq_true,decide_eq_true_eq,Bool.not_eq_true',decide_eq_false_iff_not];exact .inl (.inl (.inr g))
   · simp only [Bool.or_eq_true,Bool.and_eq_true,decide_eq_true_eq,Bool.not_eq_true',decide_eq_false_iff_not];exact .inl (.inr (by omega))
   · simp only [Bool.or_eq_true,Bool.and_eq_true,decide_eq_true_eq,Bool.not_eq_true',decide_eq_false_iff_not];exact .inr g
 have hol:=hhd.2.2.1
 refine wp_skip (Zb (wp_seq ?_))
 refine Zc hS (qg 1 101 r1 r1 (qf (oF 0 101 .adr) r1 r1 (qa 101 r1 r1 (qg 7 101 r1 r1 (qa 101 r1 r1 (qg 4 101 r1 r1 (qf (oF 0 101 .adr) r1 r1 (qa 101 r1 r1 (qg 6 101 r1 r1 (qa 101 r1 r1 (qg 8 101 r1 r1 (qa 101 r1 r1 (qf (Zdg (R:=rInt) (l:=[c.tx.id,c.id,c.order.key,c.key,c.place]) (sz:=1) (zs:=[.int .i64 0]) (r:=[(0,.tmp 40),(1,.tmp 42),(2,.tmp 45),(3,.tmp 47),(4,.tmp 49)]) 102 Tryz.underlying39 (by kernel_rfl) (by kernel_rfl) (by kernel_rfl) (by kernel_rfl) rfl rfl (.one rfl .t one_int (by kernel_rfl) (.one rfl .t one_int (by kernel_rfl) (.one rfl .t one_int (by kernel_rfl) (.one rfl .t one_int (by kernel_rfl) (.one rfl .t one_int (by kernel_rfl) .nil))))) rfl rfl (by intro x;rfl)) r5 qz (qg 4 101 r1 r1 (qf (oF 1 101 .adr) r1 r1 (qa 101 r1 r1 (qf (o_append (sz:=1) (bs:=8) 102 (.mk' Tryz.underlying39 (by kernel_rfl) (by kernel_rfl)) (by intro x;rfl) .same (.sl .t) (by simp only [List.length_cons,List.length_nil];omega) (by decide)) ⟨rfl,rfl,trivial⟩ ⟨rfl,trivial⟩ (qN rfl rfl qZ)))))))))))))))))) hB [3,2,1] [102,101,0] (fun _=>rfl) (fun _=>rfl) fun τ a w F hS=>?_
 try dsimp only [RS.sub,SF.sub,CF.sub,csub,Anc.sub,List.map,Zf,xL,xM,Nat.reduceAdd,xD,xE,xT,xU,xC,xN,zCF,ldSF] at hS
 generalize τ 54=v54 at hS
 refine Zb (wp_seq (wp_seq ?_))
 obtain ⟨F,hS⟩:=hS.give 102 3 rfl rfl
 obtain ⟨F,hS⟩:=hS.nm [3,2,1] [101,0] rfl rfl
 refine Za hS (qM rfl rfl (qu Tryz.underlying39 r1 (qJ qZ))) hB [57,56,55,2,1] [101,0] rfl rfl fun a w F hS=>Zb (wp_block ?_)
 obtain ⟨F,hS⟩:=hS.nm [57,56,55,1] [101,0] rfl rfl
 refine ZG (σ:=Nat) (fun s=>(⟨[(1,.pv (.is v1)),(55,.pv (.sl rInt (ZaP c))),(56,.pv (.int .i64 ((ZaP c).length:Nat))),(57,.pv (.int .i64 (s:Nat)))],[(0,frame B),(101,.pt (.val v1) 43 [.pv (.int .i64 c.kind),.pv (.int .i64 c.tx.id),.pv (.bool c.tx.done),.pv (.sl rOp c.tx.ops),.pv (.int .i64 c.order.key),.pv (.sl rInt c.order.txs),.pv (.int .i64 c.key),.pv (.int .i64 c.id),.pv (.int .i64 c.place),.pv (.int .i64 c.phen)])]⟩:En)) (fun s=>s≤(ZaP c).length ∧ ∀ j,j<s→Zqs (nth (ZaP c) j)=true) (fun s=>(ZaP c).length - s) 0 hS ⟨Nat.zero_le _,fun j hj=>absurd hj (Nat.not_lt_zero _)⟩ ?_
 clear hS;intro i a w F hC hS
 try dsimp only at hC
 try dsimp only at hS
 obtain ⟨hi0,hq⟩:=hC
 refine wp_seq ?_
 refine Za hS (qL r2) hB [58,57,56,55,1] [101,0] rfl rfl fun a w F hS=>Zb (wp_seq ?_)
 refine Zd hS rfl (fun hc1=>?_) (fun hc1=>?_)
 ·skip
  have hi:i<(ZaP c).length:=by have h9:=of_decide_eq_true hc1;omega
  refine wp_skip (Zb (wp_seq (wp_block (wp_seq ?_))))
  refine Za hS (qy 1 Tryz.underlying39 r2 (qf (oR false 1 .t) r1 qz (qN rfl rfl qZ))) hB [57,56,55,5,1] [101,0] rfl rfl fun a w F hS=>Zb (wp_seq ?_)
  refine Za hS (qM rfl rfl (qf (Zbq .t qi) r1 qz (qM rfl rfl (qm rfl rfl rfl rfl (qk rfl (fun h=>ZaR (.w h) qi) r2 qz (qf (Zao .t .t) r2 qz qZ)))))) hB [66,57,56,55,1] [101,0] rfl rfl fun a w F hS=>Zb ?_
  refine Zd hS rfl (fun hc2=>?_) (fun hc2=>?_)
  ·skip
   have hg:false=Zaj c:=by
     unfold Zaj
     have hx:¬ (ZaP c).all Zqs=true:=by
       intro h
       rw [List.all_eq_true] at h
       have h9:=h _ (ZB hi)
       rw [Zil] at h9
       rw [Int.toNat_natCast] at hc2
       simp only [Bool.or_eq_true,decide_eq_true_eq] at hc2
       omega
     rw [Bool.eq_false_iff.2 hx]
     simp
   refine wp_seq ?_
   refine Za hS qB hB [57,56,55,2,1] [101,0] rfl rfl fun a w F hS=>Zb (wp_ret (Zg (Ze (Ze (Zg (Ze ?_))))))
   refine Zq hfr hS rfl rfl rfl (.bool hg)
  have hqi:Zqs (nth (ZaP c) i)=true:=by
    rw [Int.toNat_natCast] at hc2
    rw [Zil]
    simp only [Bool.or_eq_false_iff,decide_eq_false_iff_not] at hc2
    omega
  refine wp_skip (Zh (Zb ?_))
  refine Za hS (qp r1 (qM rfl rfl qZ)) hB [57,56,55,1] [101,0] rfl rfl fun a w F hS=>Zb ?_
  replace hS:=hS.ent (i:=57) (s':=.pv (.int .i64 ((i+1:Nat):Int))) rfl (.int (wrap_succ (by omega)))
  obtain ⟨F,hS⟩:=hS.nm [57,56,55,1] [101,0] rfl rfl
  exact ⟨i+1,F,⟨by omega,fun j hj=>(Nat.lt_or_ge j i).elim (hq j) (fun h1=>(show i=j by omega) ▸ hqi)⟩,hS,by omega⟩
 have halln:(ZaP c).all Zqs=true:=by
   rw [List.all_eq_true]
   intro x hx
   obtain ⟨j,hj,rfl⟩:=List.getElem_of_mem hx
   rw [← Zp hj]
   exact hq j (by have h9:=of_decide_eq_false hc1;omega)
 refine wp_exit (Zi (Zi (Zo (Zb (wp_seq (wp_seq ?_))))))
 refine Za hS (qg 1 101 r1 r1 (qf (oF 2 101 .adr) r1 r1 (qa 101 r1 r1 (qu Tryz.underlying36 r1 (qJ qZ))))) hB [72,71,70] [101,0] rfl rfl fun a w F hS=>Zb (wp_block ?_)
 obtain ⟨F,hS⟩:=hS.nm [72,71,70] [0] rfl rfl
 refine ZG (σ:=Nat) (fun s=>(⟨[(70,.pv (.sl rOp c.tx.ops)),(71,.pv (.int .i64 (c.tx.ops.length:Nat))),(72,.pv (.int .i64 (s:Nat)))],[(0,frame B)]⟩:En)) (fun s=>s≤c.tx.ops.length ∧ ∀ j,j<s→ZZ (nth c.tx.ops j)=true) (fun s=>c.tx.ops.length - s) 0 hS ⟨Nat.zero_le _,fun j hj=>absurd hj (Nat.not_lt_zero _)⟩ ?_
 clear hS;intro k a w F hC hS
 try dsimp only at hC
 try dsimp only at hS
 obtain ⟨hk0,hqo⟩:=hC
 refine wp_seq ?_
 refine Za hS (qL r2) hB [73,72,71,70] [0] rfl rfl fun a w F hS=>Zb (wp_seq ?_)
 refine Zd hS rfl (fun hc3=>?_) (fun hc3=>?_)
 ·skip
  have hi:k<c.tx.ops.length:=by have h9:=of_decide_eq_true hc3;omega
  refine wp_skip (Zb (wp_seq (wp_block (wp_seq ?_))))
  refine Zc hS (qy 4 Tryz.underlying36 r2 (qf (oR true 4 .t) r1 qz (qf (oH [.bool false,.int .i64 0,.int .i64 0,.int .i64 0] 103) trivial qz (qS 4 103 r2 r1 qZ)))) hB [72,71,70,7] [103,0] (fun _=>rfl) (fun _=>rfl) fun τ a w F hS=>?_
  try dsimp only [RS.sub,SF.sub,CF.sub,csub,Anc.sub,List.map,Zf,xL,xM,Nat.reduceAdd,xD,xE,xT,xU,xC,xN,zCF,ldSF] at hS
  generalize τ 7=v7 at hS
  rw [Int.toNat_natCast] at hS
  refine Zb (wp_seq ?_)
  refine Za hS (qe 4 103 r1 r1 (qf (oP (Zd7 (nth c.tx.ops k)) Tryz.func58 (Args.one (.pagg .t))) r1 qz (qf (o_neq .t qi) r1 qz qZ))) hB [78,72,71,70] [0] rfl rfl fun a w F hS=>Zb ?_
  refine Zd hS rfl (fun hc4=>?_) (fun hc4=>?_)
  ·skip
   have hg:false=Zaj c:=by
     unfold Zaj
     have hx:¬ c.tx.ops.all ZZ=true:=by
       intro h
       rw [List.all_eq_true] at h
       have h9:=h _ (ZB hi)
       rw [Zfr.2 h9] at hc4
       simp at hc4
     rw [Bool.eq_false_iff.2 hx]
     simp
   refine wp_seq ?_
   refine Za hS qB hB [72,71,70,2] [0] rfl rfl fun a w F hS=>Zb (wp_ret (Zg (Ze (Ze (Zg (Ze ?_))))))
   refine Zq hfr hS rfl rfl rfl (.bool hg)
  have hqi:ZZ (nth c.tx.ops k)=true:=Zfr.1 (by simpa using hc4)
  refine wp_skip (Zh (Zb ?_))
  refine Za hS (qp r1 (qM rfl rfl qZ)) hB [72,71,70] [0] rfl rfl fun a w F hS=>Zb ?_
  replace hS:=hS.ent (i:=72) (s':=.pv (.int .i64 ((k+1:Nat):Int))) rfl (.int (wrap_succ (by omega)))
  obtain ⟨F,hS⟩:=hS.nm [72,71,70] [0] rfl rfl
  exact ⟨k+1,F,⟨by omega,fun j hj=>(Nat.lt_or_ge j k).elim (hqo j) (fun h1=>(show k=j by omega) ▸ hqi)⟩,hS,by omega⟩
 have hallo:c.tx.ops.all ZZ=true:=by
   rw [List.all_eq_true]
   intro x hx
   obtain ⟨j,hj,rfl⟩:=List.getElem_of_mem hx
   rw [← Zp hj]
   exact hqo j (by have h9:=of_decide_eq_false hc3;omega)
 have hg:true=Zaj c:=by unfold Zaj;rw [decide_eq_true hhd,halln,hallo];rfl
 refine wp_exit (Zi (Zi (Zo (Zb (wp_seq ?_)))))
 refine Za hS qB hB [2] [0] rfl rfl fun a w F hS=>Zb (wp_ret ?_)
 refine Zq hfr hS rfl rfl rfl (.bool hg)
theorem Zbu (k:Int):(ZP k).s.length≤4:=by
 rcases Classical.em (1≤k∧k≤12) with h | h
 · rcases kinds h with rfl | rfl | rfl | rfl | rfl | rfl | rfl | rfl | rfl | rfl | rfl | rfl <;> decide +kernel
 · have:(ZP k).s = []:=Classical.byContradiction fun hx=>h (Zer hx)
   rw [this];simp
theorem Zqa (p:Int):(Zbr p).length≤3:=by
 rcases Classical.em (Zbr p = []) with h | h
 · rw [h];simp
 · have:=(ZfM h).1
   have:p=1∨p=2∨p=3∨p=4∨p=5:=by omega
   rcases this with rfl | rfl | rfl | rfl | rfl <;> decide +kernel
theorem ZdK (l:List Int) (h:∀ n ∈ l,-9223372036854775808≤n∧n≤9223372036854775807):∀ i,i≤l.length→(Zah l i).length≤22*i
 | 0,_=>by simp [Zah]
 | i+1,hi=>by
   have h1:=ZdK l h i (by omega)
   have h2:=Zaf (h _ (ZB (show i<l.length by omega)))
   rw [Zah,List.length_append,List.length_append]
   split <;> simp only [List.length_cons,List.length_nil] <;> omega
theorem Ziq {c:CmdD} (h:Zaj c=true):∀ n ∈ ZaP c,0≤n∧n≤2147483647:=by
 unfold Zaj at h
 simp only [Bool.and_eq_true] at h
 intro n hn
 exact Zil.1 (List.all_eq_true.1 h.2.1 n hn)
theorem Zas {c:CmdD} (h:Zaj c=true):ZmN c:=by
 unfold Zaj at h
 simp only [Bool.and_eq_true] at h
 exact of_decide_eq_true h.1
theorem Znt (t:TxD) (h:0≤t.id∧t.id≤2147483647) (h2:t.ops.length≤4095):(Zfa t).length≤500000:=by
 have h1:=Zaf (n:=t.id) (by omega)
 have h3:=Zfo t.ops
 unfold Zfa Zcc
 rw [List.length_append,List.length_append]
 split <;> simp only [List.length_cons,List.length_nil] <;> omega
theorem Z2 {c:CmdD} (h:Zaj c=true) (hc:c.order.txs.length≤998):(ZaL c).length≤1∧sumL (ZaL c)≤500000:=by
 have hr:=Ziq h
 have hh:=(Zas h).2.2.1
 have m1:c.tx.id ∈ ZaP c:=by unfold ZaP;simp
 have m2:c.id ∈ ZaP c:=by unfold ZaP;simp
 unfold ZaL
 split
 · have:=Znt c.tx (hr _ m1) hh
   exact ⟨Nat.le_refl _,by simpa [sumL] using this⟩
 · split
   · have:=Zaf (n:=c.id) (by have:=hr _ m2;omega)
     exact ⟨Nat.le_refl _,by simp [sumL];omega⟩
   · split
     · have:=ZdK (c.order.key :: c.order.txs) (fun n hn=>by have:=hr n (by unfold ZaP;simp at hn ⊢;rcases hn with rfl | hn;exact .inr (.inr (.inl rfl));exact .inr (.inr (.inr (.inr (.inr hn)))));omega) _ (Nat.le_refl _)
       refine ⟨Nat.le_refl _,?_⟩
       have e:(c.order.key :: c.order.txs).length=c.order.txs.length+1:=by simp
       simp only [sumL,ZcT,List.map_cons,List.map_nil,List.sum_cons,List.sum_nil]
       omega
     · split
       · have:=ZdK [c.key,c.id,c.place] (fun n hn=>by have:=hr n (by unfold ZaP;simp at hn ⊢;rcases hn with rfl | rfl | rfl;exact .inr (.inr (.inr (.inl rfl)));exact .inr (.inl rfl);exact .inr (.inr (.inr (.inr (.inl rfl)))));omega) _ (Nat.le_refl _)
         have h66:(ZcT [c.key,c.id,c.place]).length≤66:=this
         refine ⟨Nat.le_refl _,?_⟩
         simp only [sumL,List.map_cons,List.map_nil,List.sum_cons,List.sum_nil]
         omega
       · split
         · have:=Zqa c.phen
           exact ⟨Nat.le_refl _,by simp [sumL];omega⟩
         · simp [sumL]
theorem ZnD (c:CmdD) (hc:c.order.txs.length≤998):FnP Tryz.prog 18 [.agg (rCmd c)] (.bs (ZcA c)):=by
 refine FnP.mk Tryz.func18 rfl Tryz.ntmps18 rfl ?_
 intro B a w F hB hfr hS
 refine wp_seq ?_
 refine Zc hS (qx 101 r1 (qf (oN (.cs (by kernel_rfl))) trivial qz qZ)) hB [2,1] [101,0] (fun _=>rfl) (fun _=>rfl) fun τ a w F hS=>?_
 try dsimp only [RS.sub,SF.sub,CF.sub,csub,Anc.sub,List.map,zCF] at hS
 generalize τ 1=v1 at hS
 refine Zb (wp_seq (wp_seq ?_))
 refine Za hS (qe 10 101 r1 r1 (qf (oP (Zmb c hc) Tryz.func45 (Args.one (.pagg .t))) r1 qz (qf (o_not .t) r1 qz qZ))) hB [6,2,1] [101,0] rfl rfl fun a w F hS=>Zb ?_
 refine Zd hS rfl (fun hc0=>?_) (fun hc0=>?_)
 ·skip
  have hg:([]:List UInt8)=ZcA c:=by unfold ZcA;rw [if_pos (by simpa using hc0)]
  refine wp_seq ?_
  refine Za hS (qf (oN (.cs (by kernel_rfl))) trivial qz qZ) hB [2,1] [101,0] rfl rfl fun a w F hS=>Zb (wp_ret (Ze ?_))
  refine Zq hfr hS rfl rfl rfl (.bs (by first | exact hg | (unfold ZcA;rw [if_neg (by rw [hrc];decide)])))
 have hrc:Zaj c=true:=by simpa using hc0
 refine wp_skip (Zb (wp_seq ?_))
 refine Zc hS (qg 0 101 r1 r1 (qa 101 r1 r1 (qf (oP (ZlL c.kind) Tryz.func38 (Args.one .t)) r1 qz (qf (ZhA (ft:=9) (off:=0) (by kernel_rfl) (by kernel_rfl) .t rfl) r1 qz (qf (Zdg (R:=rS) (l:=[(ZP c.kind).s]) (sz:=1) (zs:=[.string ⟨#[]⟩]) (r:=[(0,.tmp 10)]) 102 Tryz.underlying34 (by kernel_rfl) (by kernel_rfl) (by kernel_rfl) (by kernel_rfl) rfl rfl (.one rfl .t one_str (by kernel_rfl) .nil) rfl rfl (by intro x;rfl)) r1 qz (qN rfl rfl qZ)))))) hB [3,2,1] [102,101,0] (fun _=>rfl) (fun _=>rfl) fun τ a w F hS=>?_
 try dsimp only [RS.sub,SF.sub,CF.sub,csub,Anc.sub,List.map,Zf,xL,xM,Nat.reduceAdd,xD,xE,xT,xU,xC,xN,zCF,ldSF] at hS
 generalize τ 11=v11 at hS
 refine Zb (wp_seq (wp_seq ?_))
 refine Za hS (qg 0 101 r1 r1 (qa 101 r1 r1 qZ)) hB [13,3,2,1] [102,101,0] rfl rfl fun a w F hS=>Zb (wp_block (wp_seq (wp_seq ?_)))
 refine Za hS (qf (o_eql .t qi) r1 qz (qN rfl rfl qZ)) hB [14,13,3,2,1] [102,101,0] rfl rfl fun a w F hS=>Zb ?_
 refine Zd hS rfl (fun hc1=>?_) (fun hc1=>?_)
 ·skip
  have hk:c.kind=1∨c.kind=2:=by first | exact .inl (of_decide_eq_true hc1) | exact .inr (of_decide_eq_true hc1)
  have hlist:[(ZP c.kind).s,Zfa c.tx] = (ZP c.kind).s :: ZaL c:=by unfold ZaL;rw [if_pos hk]
  refine wp_skip (Zb ?_)
  refine Zd hS rfl (fun hc2=>?_) (fun hc2=>?_)
  ·skip
   have hk:c.kind=1∨c.kind=2:=by first | exact .inl (of_decide_eq_true hc2) | exact .inr (of_decide_eq_true hc2)
   have hlist:[(ZP c.kind).s,Zfa c.tx] = (ZP c.kind).s :: ZaL c:=by unfold ZaL;rw [if_pos hk]
   refine Zc hS (qM rfl rfl (qg 1 101 r1 r1 (qf (oL true 3 101 .adr) r1 r1 (qf (oP (ZkL c.tx (by have:=(Zas hrc).2.2.1;omega)) Tryz.func46 (Args.one (.pagg .t))) r1 qz (qf (Zk (sz:=1) (zs:=[.string ⟨#[]⟩]) (r:=[(0,.tmp 20)]) (l:=[_]) Tryz.underlying34 (by kernel_rfl) (by kernel_rfl) (by kernel_rfl) (by kernel_rfl) rfl rfl (.one rfl .t one_str (by kernel_rfl) .nil) rfl) r1 qz (qf (o_append (sz:=1) (bs:=16) 102 (.mk' Tryz.underlying34 (by kernel_rfl) (by kernel_rfl)) (by intro x;rfl) .is (.arr (l':=[Zfa c.tx]) .t) (by simp only [List.length_cons,List.length_nil];omega) (by decide)) ⟨rfl,rfl,trivial⟩ ⟨rfl,trivial⟩ (qN rfl rfl qZ))))))) hB [3,2] [102,101,0] (fun _=>rfl) (fun _=>rfl) fun τ a w F hS=>?_
   try dsimp only [RS.sub,SF.sub,CF.sub,csub,Anc.sub,List.map,Zf,xL,xM,Nat.reduceAdd,xD,xE,xT,xU,xC,xN,zCF,ldSF] at hS
   generalize τ 22=v22 at hS
   refine Zh (Zb (wp_seq ?_))
   rw [hlist] at hS
   obtain ⟨F,hS⟩:=hS.give 102 3 rfl rfl
   obtain ⟨F,hS⟩:=hS.nm [3,2] [101,0] rfl rfl
   refine Za hS (qM rfl rfl (qf (oP (ZeW ((ZP c.kind).s :: ZaL c) (by have:=(Z2 hrc hc).1;simp only [List.length_cons];omega) (by have h8:=(Z2 hrc hc).2;have h9:=Zbu c.kind;unfold sumL at h8 ⊢;rw [List.map_cons,List.sum_cons];omega)) Tryz.func50 (Args.one .t)) r1 qz (qN rfl rfl qZ))) hB [2] [101,0] rfl rfl fun a w F hS=>Zb (wp_ret ?_)
   refine Zq hfr hS rfl rfl rfl (.bs (by first | exact hg | (unfold ZcA;rw [if_neg (by rw [hrc];decide)])))
  exact Bool.noConfusion (hc1.symm.trans hc2)
 have hn:=of_decide_eq_false hc1
 refine Za hS (qf (o_eql .t qi) r1 qz (qN rfl rfl qZ)) hB [14,13,3,2,1] [102,101,0] rfl rfl fun a w F hS=>Zb ?_
 refine Zd hS rfl (fun hc3=>?_) (fun hc3=>?_)
 ·skip
  have hk:c.kind=1∨c.kind=2:=by first | exact .inl (of_decide_eq_true hc3) | exact .inr (of_decide_eq_true hc3)
  have hlist:[(ZP c.kind).s,Zfa c.tx] = (ZP c.kind).s :: ZaL c:=by unfold ZaL;rw [if_pos hk]
  refine Zc hS (qM rfl rfl (qg 1 101 r1 r1 (qf (oL true 3 101 .adr) r1 r1 (qf (oP (ZkL c.tx (by have:=(Zas hrc).2.2.1;omega)) Tryz.func46 (Args.one (.pagg .t))) r1 qz (qf (Zk (sz:=1) (zs:=[.string ⟨#[]⟩]) (r:=[(0,.tmp 20)]) (l:=[_]) Tryz.underlying34 (by kernel_rfl) (by kernel_rfl) (by kernel_rfl) (by kernel_rfl) rfl rfl (.one rfl .t one_str (by kernel_rfl) .nil) rfl) r1 qz (qf (o_append (sz:=1) (bs:=16) 102 (.mk' Tryz.underlying34 (by kernel_rfl) (by kernel_rfl)) (by intro x;rfl) .is (.arr (l':=[Zfa c.tx]) .t) (by simp only [List.length_cons,List.length_nil];omega) (by decide)) ⟨rfl,rfl,trivial⟩ ⟨rfl,trivial⟩ (qN rfl rfl qZ))))))) hB [3,2] [102,101,0] (fun _=>rfl) (fun _=>rfl) fun τ a w F hS=>?_
  try dsimp only [RS.sub,SF.sub,CF.sub,csub,Anc.sub,List.map,Zf,xL,xM,Nat.reduceAdd,xD,xE,xT,xU,xC,xN,zCF,ldSF] at hS
  generalize τ 22=v22 at hS
  refine Zh (Zb (wp_seq ?_))
  rw [hlist] at hS
  obtain ⟨F,hS⟩:=hS.give 102 3 rfl rfl
  obtain ⟨F,hS⟩:=hS.nm [3,2] [101,0] rfl rfl
  refine Za hS (qM rfl rfl (qf (oP (ZeW ((ZP c.kind).s :: ZaL c) (by have:=(Z2 hrc hc).1;simp only [List.length_cons];omega) (by have h8:=(Z2 hrc hc).2;have h9:=Zbu c.kind;unfold sumL at h8 ⊢;rw [List.map_cons,List.sum_cons];omega)) Tryz.func50 (Args.one .t)) r1 qz (qN rfl rfl qZ))) hB [2] [101,0] rfl rfl fun a w F hS=>Zb (wp_ret ?_)
  refine Zq hfr hS rfl rfl rfl (.bs (by first | exact hg | (unfold ZcA;rw [if_neg (by rw [hrc];decide)])))
 have hn:=of_decide_eq_false hc3
 refine wp_seq (wp_seq ?_)
 refine Za hS (qf (o_eql .t qi) r1 qz (qN rfl rfl qZ)) hB [23,13,3,2,1] [102,101,0] rfl rfl fun a w F hS=>Zb ?_
 refine Zd hS rfl (fun hc4=>?_) (fun hc4=>?_)
 ·skip
  have hk:c.kind=3∨c.kind=10:=by first | exact .inl (of_decide_eq_true hc4) | exact .inr (of_decide_eq_true hc4)
  have hlist:[(ZP c.kind).s,textL c.id] = (ZP c.kind).s :: ZaL c:=by unfold ZaL;rw [if_neg (by omega),if_pos hk]
  refine wp_skip (Zb ?_)
  refine Zd hS rfl (fun hc5=>?_) (fun hc5=>?_)
  ·skip
   have hk:c.kind=3∨c.kind=10:=by first | exact .inl (of_decide_eq_true hc5) | exact .inr (of_decide_eq_true hc5)
   have hlist:[(ZP c.kind).s,textL c.id] = (ZP c.kind).s :: ZaL c:=by unfold ZaL;rw [if_neg (by omega),if_pos hk]
   refine Zc hS (qM rfl rfl (qg 7 101 r1 r1 (qa 101 r1 r1 (qf (oP (Zdu c.id) Tryz.func47 (Args.one .t)) r1 qz (qf (Zk (sz:=1) (zs:=[.string ⟨#[]⟩]) (r:=[(0,.tmp 29)]) (l:=[_]) Tryz.underlying34 (by kernel_rfl) (by kernel_rfl) (by kernel_rfl) (by kernel_rfl) rfl rfl (.one rfl .t one_str (by kernel_rfl) .nil) rfl) r1 qz (qf (o_append (sz:=1) (bs:=16) 102 (.mk' Tryz.underlying34 (by kernel_rfl) (by kernel_rfl)) (by intro x;rfl) .is (.arr (l':=[textL c.id]) .t) (by simp only [List.length_cons,List.length_nil];omega) (by decide)) ⟨rfl,rfl,trivial⟩ ⟨rfl,trivial⟩ (qN rfl rfl qZ))))))) hB [3,2] [102,101,0] (fun _=>rfl) (fun _=>rfl) fun τ a w F hS=>?_
   try dsimp only [RS.sub,SF.sub,CF.sub,csub,Anc.sub,List.map,Zf,xL,xM,Nat.reduceAdd,xD,xE,xT,xU,xC,xN,zCF,ldSF] at hS
   generalize τ 31=v31 at hS
   refine Zh (Zb (wp_seq ?_))
   rw [hlist] at hS
   obtain ⟨F,hS⟩:=hS.give 102 3 rfl rfl
   obtain ⟨F,hS⟩:=hS.nm [3,2] [101,0] rfl rfl
   refine Za hS (qM rfl rfl (qf (oP (ZeW ((ZP c.kind).s :: ZaL c) (by have:=(Z2 hrc hc).1;simp only [List.length_cons];omega) (by have h8:=(Z2 hrc hc).2;have h9:=Zbu c.kind;unfold sumL at h8 ⊢;rw [List.map_cons,List.sum_cons];omega)) Tryz.func50 (Args.one .t)) r1 qz (qN rfl rfl qZ))) hB [2] [101,0] rfl rfl fun a w F hS=>Zb (wp_ret ?_)
   refine Zq hfr hS rfl rfl rfl (.bs (by first | exact hg | (unfold ZcA;rw [if_neg (by rw [hrc];decide)])))
  exact Bool.noConfusion (hc4.symm.trans hc5)
 have hn:=of_decide_eq_false hc4
 refine Za hS (qf (o_eql .t qi) r1 qz (qN rfl rfl qZ)) hB [23,13,3,2,1] [102,101,0] rfl rfl fun a w F hS=>Zb ?_
 refine Zd hS rfl (fun hc6=>?_) (fun hc6=>?_)
 ·skip
  have hk:c.kind=3∨c.kind=10:=by first | exact .inl (of_decide_eq_true hc6) | exact .inr (of_decide_eq_true hc6)
  have hlist:[(ZP c.kind).s,textL c.id] = (ZP c.kind).s :: ZaL c:=by unfold ZaL;rw [if_neg (by omega),if_pos hk]
  refine Zc hS (qM rfl rfl (qg 7 101 r1 r1 (qa 101 r1 r1 (qf (oP (Zdu c.id) Tryz.func47 (Args.one .t)) r1 qz (qf (Zk (sz:=1) (zs:=[.string ⟨#[]⟩]) (r:=[(0,.tmp 29)]) (l:=[_]) Tryz.underlying34 (by kernel_rfl) (by kernel_rfl) (by kernel_rfl) (by kernel_rfl) rfl rfl (.one rfl .t one_str (by kernel_rfl) .nil) rfl) r1 qz (qf (o_append (sz:=1) (bs:=16) 102 (.mk' Tryz.underlying34 (by kernel_rfl) (by kernel_rfl)) (by intro x;rfl) .is (.arr (l':=[textL c.id]) .t) (by simp only [List.length_cons,List.length_nil];omega) (by decide)) ⟨rfl,rfl,trivial⟩ ⟨rfl,trivial⟩ (qN rfl rfl qZ))))))) hB [3,2] [102,101,0] (fun _=>rfl) (fun _=>rfl) fun τ a w F hS=>?_
  try dsimp only [RS.sub,SF.sub,CF.sub,csub,Anc.sub,List.map,Zf,xL,xM,Nat.reduceAdd,xD,xE,xT,xU,xC,xN,zCF,ldSF] at hS
  generalize τ 31=v31 at hS
  refine Zh (Zb (wp_seq ?_))
  rw [hlist] at hS
  obtain ⟨F,hS⟩:=hS.give 102 3 rfl rfl
  obtain ⟨F,hS⟩:=hS.nm [3,2] [101,0] rfl rfl
  refine Za hS (qM rfl rfl (qf (oP (ZeW ((ZP c.kind).s :: ZaL c) (by have:=(Z2 hrc hc).1;simp only [List.length_cons];omega) (by have h8:=(Z2 hrc hc).2;have h9:=Zbu c.kind;unfold sumL at h8 ⊢;rw [List.map_cons,List.sum_cons];omega)) Tryz.func50 (Args.one .t)) r1 qz (qN rfl rfl qZ))) hB [2] [101,0] rfl rfl fun a w F hS=>Zb (wp_ret ?_)
  refine Zq hfr hS rfl rfl rfl (.bs (by first | exact hg | (unfold ZcA;rw [if_neg (by rw [hrc];decide)])))
 have hn:=of_decide_eq_false hc6
 refine wp_seq ?_
 refine Za hS (qf (o_eql .t qi) r1 qz (qN rfl rfl qZ)) hB [32,13,3,2,1] [102,101,0] rfl rfl fun a w F hS=>Zb ?_
 refine Zd hS rfl (fun hc7=>?_) (fun hc7=>?_)
 ·skip
  have hk:=of_decide_eq_true hc7
  have hlist:[(ZP c.kind).s,ZcT (c.order.key :: c.order.txs)] = (ZP c.kind).s :: ZaL c:=by unfold ZaL;rw [if_neg (by omega),if_neg (by omega),if_pos hk]
  refine Zc hS (qM rfl rfl (qg 4 101 r1 r1 (qf (oF 0 101 .adr) r1 r1 (qa 101 r1 r1 (qf (Zdg (R:=rInt) (l:=[c.order.key]) (sz:=1) (zs:=[.int .i64 0]) (r:=[(0,.tmp 37)]) 103 Tryz.underlying39 (by kernel_rfl) (by kernel_rfl) (by kernel_rfl) (by kernel_rfl) rfl rfl (.one rfl .t one_int (by kernel_rfl) .nil) rfl rfl (by intro x;rfl)) r1 qz (qg 4 101 r1 r1 (qf (oF 1 101 .adr) r1 r1 (qa 101 r1 r1 (qf (o_append (sz:=1) (bs:=8) 103 (.mk' Tryz.underlying39 (by kernel_rfl) (by kernel_rfl)) (by intro x;rfl) .same (.sl .t) (by simp only [List.length_cons,List.length_nil];omega) (by decide)) ⟨rfl,rfl,trivial⟩ ⟨rfl,trivial⟩ (qf (o_lendRow 103 (words_c (c.order.key :: c.order.txs) (by simp;omega)) (fun _ _ _ _ _ h=>h) Tryz.func48 rfl (by kernel_rfl) .same) r1 r1 (qf (Zk (sz:=1) (zs:=[.string ⟨#[]⟩]) (r:=[(0,.tmp 43)]) (l:=[_]) Tryz.underlying34 (by kernel_rfl) (by kernel_rfl) (by kernel_rfl) (by kernel_rfl) rfl rfl (.one rfl .t one_str (by kernel_rfl) .nil) rfl) r1 qz (qf (o_append (sz:=1) (bs:=16) 102 (.mk' Tryz.underlying34 (by kernel_rfl) (by kernel_rfl)) (by intro x;rfl) .is (.arr (l':=[ZcT (c.order.key :: c.order.txs)]) .t) (by simp only [List.length_cons,List.length_nil];omega) (by decide)) ⟨rfl,rfl,trivial⟩ ⟨rfl,trivial⟩ (qN rfl rfl qZ))))))))))))) hB [3,2] [103,102,101,0] (fun _=>rfl) (fun _=>rfl) fun τ a w F hS=>?_
  try dsimp only [RS.sub,SF.sub,CF.sub,csub,Anc.sub,List.map,Zf,xL,xM,Nat.reduceAdd,xD,xE,xT,xU,xC,xN,zCF,ldSF] at hS
  generalize τ 45=v45 at hS
  generalize τ 42=v42 at hS
  refine Zh (Zb (wp_seq ?_))
  rw [hlist] at hS
  obtain ⟨F,hS⟩:=hS.give 102 3 rfl rfl
  obtain ⟨F,hS⟩:=hS.nm [3,2] [103,101,0] rfl rfl
  refine Za hS (qM rfl rfl (qf (oP (ZeW ((ZP c.kind).s :: ZaL c) (by have:=(Z2 hrc hc).1;simp only [List.length_cons];omega) (by have h8:=(Z2 hrc hc).2;have h9:=Zbu c.kind;unfold sumL at h8 ⊢;rw [List.map_cons,List.sum_cons];omega)) Tryz.func50 (Args.one .t)) r1 qz (qN rfl rfl qZ))) hB [2] [103,101,0] rfl rfl fun a w F hS=>Zb (wp_ret ?_)
  refine Zq hfr hS rfl rfl rfl (.bs (by first | exact hg | (unfold ZcA;rw [if_neg (by rw [hrc];decide)])))
 have hn:=of_decide_eq_false hc7
 refine wp_seq ?_
 refine Za hS (qf (o_eql .t qi) r1 qz (qN rfl rfl qZ)) hB [46,13,3,2,1] [102,101,0] rfl rfl fun a w F hS=>Zb ?_
 refine Zd hS rfl (fun hc8=>?_) (fun hc8=>?_)
 ·skip
  have hk:=of_decide_eq_true hc8
  have hlist:[(ZP c.kind).s,ZcT [c.key,c.id,c.place]] = (ZP c.kind).s :: ZaL c:=by unfold ZaL;rw [if_neg (by omega),if_neg (by omega),if_neg (by omega),if_pos hk]
  refine Zc hS (qM rfl rfl (qg 6 101 r1 r1 (qa 101 r1 r1 (qg 7 101 r1 r1 (qa 101 r1 r1 (qg 8 101 r1 r1 (qa 101 r1 r1 (qf (Zk (sz:=1) (zs:=[.int .i64 0]) (r:=[(0,.tmp 50),(1,.tmp 52),(2,.tmp 54)]) (l:=[_,_,_]) Tryz.underlying39 (by kernel_rfl) (by kernel_rfl) (by kernel_rfl) (by kernel_rfl) rfl rfl (.one rfl .t one_int (by kernel_rfl) (.one rfl .t one_int (by kernel_rfl) (.one rfl .t one_int (by kernel_rfl) .nil))) rfl) r3 qz (qf (oP (words_c [c.key,c.id,c.place] (by simp)) Tryz.func48 (Args.one (.conv .t (Ent.arrSl (R:=rInt) (l:=[c.key,c.id,c.place]) rfl)))) r1 qz (qf (Zk (sz:=1) (zs:=[.string ⟨#[]⟩]) (r:=[(0,.tmp 56)]) (l:=[_]) Tryz.underlying34 (by kernel_rfl) (by kernel_rfl) (by kernel_rfl) (by kernel_rfl) rfl rfl (.one rfl .t one_str (by kernel_rfl) .nil) rfl) r1 qz (qf (o_append (sz:=1) (bs:=16) 102 (.mk' Tryz.underlying34 (by kernel_rfl) (by kernel_rfl)) (by intro x;rfl) .is (.arr (l':=[ZcT [c.key,c.id,c.place]]) .t) (by simp only [List.length_cons,List.length_nil];omega) (by decide)) ⟨rfl,rfl,trivial⟩ ⟨rfl,trivial⟩ (qN rfl rfl qZ)))))))))))) hB [3,2] [102,101,0] (fun _=>rfl) (fun _=>rfl) fun τ a w F hS=>?_
  try dsimp only [RS.sub,SF.sub,CF.sub,csub,Anc.sub,List.map,Zf,xL,xM,Nat.reduceAdd,xD,xE,xT,xU,xC,xN,zCF,ldSF] at hS
  generalize τ 58=v58 at hS
  refine Zh (Zb (wp_seq ?_))
  rw [hlist] at hS
  obtain ⟨F,hS⟩:=hS.give 102 3 rfl rfl
  obtain ⟨F,hS⟩:=hS.nm [3,2] [101,0] rfl rfl
  refine Za hS (qM rfl rfl (qf (oP (ZeW ((ZP c.kind).s :: ZaL c) (by have:=(Z2 hrc hc).1;simp only [List.length_cons];omega) (by have h8:=(Z2 hrc hc).2;have h9:=Zbu c.kind;unfold sumL at h8 ⊢;rw [List.map_cons,List.sum_cons];omega)) Tryz.func50 (Args.one .t)) r1 qz (qN rfl rfl qZ))) hB [2] [101,0] rfl rfl fun a w F hS=>Zb (wp_ret ?_)
  refine Zq hfr hS rfl rfl rfl (.bs (by first | exact hg | (unfold ZcA;rw [if_neg (by rw [hrc];decide)])))
 have hn:=of_decide_eq_false hc8
 refine wp_seq ?_
 refine Za hS (qf (o_eql .t qi) r1 qz (qN rfl rfl qZ)) hB [59,3,2,1] [102,101,0] rfl rfl fun a w F hS=>Zb ?_
 refine Zd hS rfl (fun hc9=>?_) (fun hc9=>?_)
 ·skip
  have hk:=of_decide_eq_true hc9
  have hlist:[(ZP c.kind).s,Zbr c.phen] = (ZP c.kind).s :: ZaL c:=by unfold ZaL;rw [if_neg (by omega),if_neg (by omega),if_neg (by omega),if_neg (by omega),if_pos hk]
  refine Zc hS (qM rfl rfl (qg 9 101 r1 r1 (qa 101 r1 r1 (qf (oP (Zog c.phen) Tryz.func49 (Args.one .t)) r1 qz (qf (Zk (sz:=1) (zs:=[.string ⟨#[]⟩]) (r:=[(0,.tmp 64)]) (l:=[_]) Tryz.underlying34 (by kernel_rfl) (by kernel_rfl) (by kernel_rfl) (by kernel_rfl) rfl rfl (.one rfl .t one_str (by kernel_rfl) .nil) rfl) r1 qz (qf (o_append (sz:=1) (bs:=16) 102 (.mk' Tryz.underlying34 (by kernel_rfl) (by kernel_rfl)) (by intro x;rfl) .is (.arr (l':=[Zbr c.phen]) .t) (by simp only [List.length_cons,List.length_nil];omega) (by decide)) ⟨rfl,rfl,trivial⟩ ⟨rfl,trivial⟩ (qN rfl rfl qZ))))))) hB [3,2] [102,101,0] (fun _=>rfl) (fun _=>rfl) fun τ a w F hS=>?_
  try dsimp only [RS.sub,SF.sub,CF.sub,csub,Anc.sub,List.map,Zf,xL,xM,Nat.reduceAdd,xD,xE,xT,xU,xC,xN,zCF,ldSF] at hS
  generalize τ 66=v66 at hS
  refine Zh (Zb (wp_seq ?_))
  rw [hlist] at hS
  obtain ⟨F,hS⟩:=hS.give 102 3 rfl rfl
  obtain ⟨F,hS⟩:=hS.nm [3,2] [101,0] rfl rfl
  refine Za hS (qM rfl rfl (qf (oP (ZeW ((ZP c.kind).s :: ZaL c) (by have:=(Z2 hrc hc).1;simp only [List.length_cons];omega) (by have h8:=(Z2 hrc hc).2;have h9:=Zbu c.kind;unfold sumL at h8 ⊢;rw [List.map_cons,List.sum_cons];omega)) Tryz.func50 (Args.one .t)) r1 qz (qN rfl rfl qZ))) hB [2] [101,0] rfl rfl fun a w F hS=>Zb (wp_ret ?_)
  refine Zq hfr hS rfl rfl rfl (.bs (by first | exact hg | (unfold ZcA;rw [if_neg (by rw [hrc];decide)])))
 have hn:=of_decide_eq_false hc9
 have hlist:[(ZP c.kind).s] = (ZP c.kind).s :: ZaL c:=by unfold ZaL;rw [if_neg (by omega),if_neg (by omega),if_neg (by omega),if_neg (by omega),if_neg (by omega)]
 refine wp_skip (Zh (Zb (wp_seq ?_)))
 rw [hlist] at hS
 obtain ⟨F,hS⟩:=hS.give 102 3 rfl rfl
 obtain ⟨F,hS⟩:=hS.nm [59,3,2,1] [101,0] rfl rfl
 refine Za hS (qM rfl rfl (qf (oP (ZeW ((ZP c.kind).s :: ZaL c) (by have:=(Z2 hrc hc).1;simp only [List.length_cons];omega) (by have h8:=(Z2 hrc hc).2;have h9:=Zbu c.kind;unfold sumL at h8 ⊢;rw [List.map_cons,List.sum_cons];omega)) Tryz.func50 (Args.one .t)) r1 qz (qN rfl rfl qZ))) hB [2] [101,0] rfl rfl fun a w F hS=>Zb (wp_ret ?_)
 refine Zq hfr hS rfl rfl rfl (.bs (by first | exact hg | (unfold ZcA;rw [if_neg (by rw [hrc];decide)])))
theorem Zm0 (l:List (List UInt8)) (hs:∀ x ∈ l,x.length≤1000000) (hn:l.length≤1000000):FnP Tryz.prog 77 [.sl rS l] (.tup [.sl rInt (numsR l).1,.int .i64 (numsR l).2]):=by
 refine FnP.mk Tryz.func77 rfl Tryz.ntmps77 rfl ?_
 intro B a w F hB hfr hS
 refine wp_seq ?_
 refine Za hS (qC (qI qZ)) hB [3,2,0] [0] rfl rfl fun a w F hS=>Zb (wp_seq ?_)
 refine Za hS (qC qZ) hB [4,3,2,0] [0] rfl rfl fun a w F hS=>Zb (wp_seq (wp_seq ?_))
 refine Za hS (qM rfl rfl (qu Tryz.underlying34 r1 (qJ qZ))) hB [11,10,9,4,3,2] [0] rfl rfl fun a w F hS=>Zb (wp_block ?_)
 replace hS:=hS.fresh 50 rfl
 replace hS:=hS.turn 50 rfl (ZaC (T:=3) (sz:=1) (R:=rInt))
 obtain ⟨F,hS⟩:=hS.nm [11,10,9,4] [50,0] rfl rfl
 refine ZG (σ:=(Nat×Value)) (fun s=>(⟨[(4,.pv (.is s.2)),(9,.pv (.sl rS l)),(10,.pv (.int .i64 (l.length:Nat))),(11,.pv (.int .i64 (s.1:Nat)))],[(0,frame B),(50,.ob (.val s.2) (Zu 3 1 rInt ((Zby l).take s.1)))]⟩:En)) (fun s=>s.1≤l.length ∧ ∀ j,j<s.1→(readR (nth l j)).2=0) (fun s=>l.length - s.1) (0,.slice none 0 0) hS ⟨Nat.zero_le _,fun j hj=>absurd hj (Nat.not_lt_zero _)⟩ ?_
 clear hS;intro s a w F hC hS
 obtain ⟨i,v⟩:=s
 try dsimp only at hC
 try dsimp only at hS
 obtain ⟨hi0,hz⟩:=hC
 try dsimp only at hi0 hz
 refine wp_seq ?_
 refine Za hS (qL r2) hB [12,11,10,9,4] [50,0] rfl rfl fun a w F hS=>Zb (wp_seq ?_)
 refine Zd hS rfl (fun hc0=>?_) (fun hc0=>?_)
 ·skip
  have hi:i<l.length:=by have h9:=of_decide_eq_true hc0;omega
  refine wp_skip (Zb (wp_seq (wp_block (wp_seq ?_))))
  refine Za hS (qy 1 Tryz.underlying34 r2 (qf (oR false 1 .t) r1 qz (qN rfl rfl qZ))) hB [11,10,9,6,4] [50,0] rfl rfl fun a w F hS=>?_
  rw [Int.toNat_natCast] at hS
  refine Zb (wp_seq ?_)
  refine Za hS (qM rfl rfl (qf (oP (read_c (nth l i) (by have h9:=hs _ (ZB hi);omega)) Tryz.func118 (Args.one .t)) r1 qz (qM rfl rfl (qf (o_extract .t rfl) r1 qz (qf (o_extract .t rfl) r1 qz (qN rfl rfl (qN rfl rfl qZ))))))) hB [11,10,9,8,7,4] [50,0] rfl rfl fun a w F hS=>Zb (wp_seq (wp_seq ?_))
  refine Za hS (qM rfl rfl (qf (o_neq .t qi) r1 qz qZ)) hB [21,11,10,9,8,7,4] [50,0] rfl rfl fun a w F hS=>Zb ?_
  refine Zd hS rfl (fun hc1=>?_) (fun hc1=>?_)
  ·skip
   have hw:(readR (nth l i)).2≠0:=by simpa using hc1
   have hb:=ZoX hi hz hw
   have hr:numsR l=([],(readR (nth l i)).2):=by unfold numsR;rw [if_pos (by rw [hb];exact hw),hb]
   refine wp_seq ?_
   refine Za hS (qM rfl rfl (qC (qN rfl rfl qZ))) hB [11,10,9,7,4,3,2] [50,0] rfl rfl fun a w F hS=>Zb (wp_ret (Ze (Zg (Ze (Ze (Zg (Ze ?_)))))))
   refine Zt hfr hS rfl (.tmp rfl (.tmp rfl .nil)) (.two (.trans .nilSl (.sl (by rw [hr]))) (.int (by rw [hr])))
  have hzi:(readR (nth l i)).2=0:=by simpa using hc1
  refine wp_skip (Zb ?_)
  refine Zc hS (qM rfl rfl (qM rfl rfl (qf (Zk (sz:=1) (zs:=[.int .i64 0]) (r:=[(0,.tmp 24)]) (l:=[_]) Tryz.underlying39 (by kernel_rfl) (by kernel_rfl) (by kernel_rfl) (by kernel_rfl) rfl rfl (.one rfl .t one_int (by kernel_rfl) .nil) rfl) r1 qz (qf (o_append (sz:=1) (bs:=8) 50 (.mk' Tryz.underlying39 (by kernel_rfl) (by kernel_rfl)) (by intro x;rfl) .is (.arr (l':=[(readR (nth l i)).1]) .t) (by simp only [List.length_cons,List.length_nil,List.length_take];rw [ZhG];omega) (by decide)) ⟨rfl,rfl,trivial⟩ ⟨rfl,trivial⟩ (qN rfl rfl qZ))))) hB [11,10,9,4] [50,0] (fun _=>rfl) (fun _=>rfl) fun τ a w F hS=>?_
  try dsimp only [RS.sub,SF.sub,CF.sub,csub,Anc.sub,List.map,Zf,xL,xM,Nat.reduceAdd,xD,xE,xT,xU,xC,xN,zCF] at hS
  generalize τ 26=v26 at hS
  refine Zh (Zb ?_)
  refine Za hS (qp r1 (qM rfl rfl qZ)) hB [11,10,9,4] [50,0] rfl rfl fun a w F hS=>Zb ?_
  rw [show (Zby l).take i ++ [(readR (nth l i)).1] = (Zby l).take (i+1) from Zef (f:=fun x=>(readR x).1) (by omega)] at hS
  replace hS:=hS.ent (i:=11) (s':=.pv (.int .i64 ((i+1:Nat):Int))) rfl (.int (wrap_succ (by omega)))
  obtain ⟨F,hS⟩:=hS.nm [11,10,9,4] [50,0] rfl rfl
  exact ⟨(i+1,v26),F,⟨by dsimp only;omega,fun j hj=>(Nat.lt_or_ge j i).elim (hz j) (fun h1=>(show i=j by dsimp only at hj;omega) ▸ hzi)⟩,hS,by dsimp only;omega⟩
 have hil:i=l.length:=by have h9:=of_decide_eq_false hc0;omega
 have hbz:=Zfj (l:=l) (fun j hj=>hz j (by omega))
 have hr:numsR l=(Zby l,0):=by unfold numsR;rw [if_neg (by rw [hbz];decide)]
 rw [show (Zby l).take i=Zby l from List.take_of_length_le (by rw [ZhG];omega)] at hS
 refine wp_exit (Zi (Zi (Zo (Zb (wp_seq ?_)))))
 obtain ⟨F,hS⟩:=hS.give 50 4 rfl rfl
 obtain ⟨F,hS⟩:=hS.nm [12,11,10,9,4] [0] rfl rfl
 refine Za hS (qM rfl rfl (qN rfl rfl (qI qZ))) hB [3,2] [0] rfl rfl fun a w F hS=>Zb (wp_ret ?_)
 refine Zt hfr hS rfl (.tmp rfl (.tmp rfl .nil)) (.two (.sl (by rw [hr])) (.int (by rw [hr])))
theorem ZdZ (l:List (List UInt8)) (hs:∀ x ∈ l,x.length≤1000000) (hn:l.length≤1000000) (h2:2≤l.length):FnP Tryz.prog 75 [.sl rS l] (.tup [.agg (rTx (txR l).1),.int .i64 (txR l).2]):=by
 refine FnP.mk Tryz.func75 rfl Tryz.ntmps75 rfl ?_
 intro B a w F hB hfr hS
 refine wp_seq ?_
 refine Zc hS (qf (oH [.int .i64 0,.bool false,.slice none 0 0] 101) trivial qz (qI qZ)) hB [3,2,0] [101,0] (fun _=>rfl) (fun _=>rfl) fun τ a w F hS=>?_
 try dsimp only [RS.sub,SF.sub,CF.sub,csub,Anc.sub,List.map,zCF] at hS
 generalize τ 2=v2 at hS
 refine Zb (wp_seq (wp_seq ?_))
 refine Za hS (qM rfl rfl (qu Tryz.underlying34 r1 (qf (o_sub .t qi) r1 qz (qf (ZaR .t qi) r1 qz qZ)))) hB [14,3,2,0] [101,0] rfl rfl fun a w F hS=>Zb ?_
 refine Zd hS rfl (fun hc0=>?_) (fun hc0=>?_)
 ·skip
  have hr:txR l=(zeroT,9):=by unfold txR;rw [if_pos (by have h9:=of_decide_eq_true hc0;rw [ZC (by omega)] at h9;omega)]
  refine wp_seq ?_
  refine Za hS (qf (oB [] [.int .i64 0,.bool false,.slice none 0 0] [(0,1),(1,1),(2,1)] .nil) trivial qz (qs 3 101 r2 r1 (qI qZ))) hB [3,2,0] [101,0] rfl rfl fun a w F hS=>Zb (wp_ret (Ze ?_))
  refine Zt hfr hS rfl (.cl 101 true 3 rfl rfl (.tmp rfl .nil)) (.two (.aggLe rfl (by rw [hr];exact ⟨.refl,.refl,.nilSl,trivial⟩)) (.int (by rw [hr])))
 have hl4:¬ 4097<l.length:=by have h9:=of_decide_eq_false hc0;rw [ZC (by omega)] at h9;omega
 have hd2:(l.drop 2).length=l.length - 2:=by rw [List.length_drop]
 refine wp_skip (Zb (wp_seq ?_))
 refine Za hS (qM rfl rfl (qf (o_indexAddr_sl (sz:=1) (.mk Tryz.underlying34 (by kernel_rfl)) (by intro x;rfl) .t qi (by decide) (by omega)) r1 qz (qf (oR false 1 .t) r1 qz (qf (oP (read_c (nth l 0) (by have h9:=hs _ (ZB (show 0<l.length by omega));omega)) Tryz.func118 (Args.one .t)) r1 qz (qM rfl rfl (qf (o_extract .t rfl) r1 qz (qf (o_extract .t rfl) r1 qz (qN rfl rfl (qN rfl rfl qZ))))))))) hB [5,4,3,2,0] [101,0] rfl rfl fun a w F hS=>Zb (wp_seq (wp_block (wp_seq ?_)))
 refine Za hS (qM rfl rfl (qf (o_neq .t qi) r1 qz (qN rfl rfl qZ))) hB [23,5,4,3,2,0] [101,0] rfl rfl fun a w F hS=>Zb ?_
 refine Zd hS rfl (fun hc1=>?_) (fun hc1=>?_)
 ·skip
  have hw:(readR (nth l 0)).2≠0:=by simpa using hc1
  have hr:txR l=(zeroT,(readR (nth l 0)).2):=by unfold txR;rw [if_neg hl4,if_pos hw]
  refine wp_seq ?_
  refine Za hS (qf (oB [] [.int .i64 0,.bool false,.slice none 0 0] [(0,1),(1,1),(2,1)] .nil) trivial qz (qM rfl rfl (qs 3 101 r2 r1 (qN rfl rfl qZ)))) hB [4,3,2,0] [101,0] rfl rfl fun a w F hS=>Zb (wp_ret (Zg (Ze ?_)))
  refine Zt hfr hS rfl (.cl 101 true 3 rfl rfl (.tmp rfl .nil)) (.two (.aggLe rfl (by rw [hr];exact ⟨.refl,.refl,.nilSl,trivial⟩)) (.int (by rw [hr])))
 have h0:¬ (readR (nth l 0)).2≠0:=by simpa using hc1
 refine wp_seq ?_
 refine Za hS (qM rfl rfl (qf (o_indexAddr_sl (sz:=1) (.mk Tryz.underlying34 (by kernel_rfl)) (by intro x;rfl) .t qi (by decide) (by omega)) r1 qz (qf (oR false 1 .t) r1 qz (qf (o_neq_bs Tryz.underlying9 .t (.cs (by kernel_rfl))) r1 qz (qM rfl rfl (qm rfl rfl rfl rfl (qk rfl (fun h=>o_indexAddr_sl (sz:=1) (.mk Tryz.underlying34 (by kernel_rfl)) (by intro x;rfl) (.w h) qi (by decide) (by omega)) r2 qz (qk rfl (fun h=>oR false 1 (.w h)) r2 qz (qk rfl (fun h=>o_neq_bs Tryz.underlying9 (.w h) (.cs (by kernel_rfl))) r2 qz (qf (ZK .t .t) r2 qz (qN rfl rfl qZ))))))))))) hB [28,4,3,2,0] [101,0] rfl rfl fun a w F hS=>Zb ?_
 refine Zd hS rfl (fun hc2=>?_) (fun hc2=>?_)
 ·skip
  have h1:nth l 1≠[99]∧nth l 1≠[97]:=by simpa using hc2
  have hr:txR l=(zeroT,11):=by unfold txR;rw [if_neg hl4,if_neg h0,if_pos h1]
  refine wp_seq ?_
  refine Za hS (qf (oB [] [.int .i64 0,.bool false,.slice none 0 0] [(0,1),(1,1),(2,1)] .nil) trivial qz (qs 3 101 r2 r1 (qI qZ))) hB [4,3,2,0] [101,0] rfl rfl fun a w F hS=>Zb (wp_ret (Zg (Ze ?_)))
  refine Zt hfr hS rfl (.cl 101 true 3 rfl rfl (.tmp rfl .nil)) (.two (.aggLe rfl (by rw [hr];exact ⟨.refl,.refl,.nilSl,trivial⟩)) (.int (by rw [hr])))
 have h1:¬ (nth l 1≠[99]∧nth l 1≠[97]):=by
   rintro ⟨g1,g2⟩
   rw [Bool.eq_false_iff] at hc2
   refine hc2 ?_
   simp only [Bool.and_eq_true,Bool.not_eq_true',decide_eq_false_iff_not]
   exact ⟨g1,g2⟩
 refine wp_skip (Zh (Zb (wp_seq ?_)))
 refine Zc hS (qM rfl rfl (qM rfl rfl (qf (o_indexAddr_sl (sz:=1) (.mk Tryz.underlying34 (by kernel_rfl)) (by intro x;rfl) .t qi (by decide) (by omega)) r1 qz (qf (oR false 1 .t) r1 qz (qf (o_eql_bs Tryz.underlying9 .t (.cs (by kernel_rfl))) r1 qz (qf (oB [(0,.tmp 40),(1,.tmp 44)] [.int .i64 0,.bool false,.slice none 0 0] [(0,1),(1,1),(2,1)] (.one rfl .t one_int (by kernel_rfl) (.one rfl .t one_bool (by kernel_rfl) .nil))) r2 qz (qf (oH [.int .i64 0,.bool false,.slice none 0 0] 102) trivial qz (qS 3 102 r2 r1 qZ)))))))) hB [6,3,2,0] [102,101,0] (fun _=>rfl) (fun _=>rfl) fun τ a w F hS=>?_
 try dsimp only [RS.sub,SF.sub,CF.sub,csub,Anc.sub,List.map,Zf,xL,xM,Nat.reduceAdd,xD,xE,xT,xU,xC,xN,zCF,ldSF] at hS
 generalize τ 6=v6 at hS
 refine Zb (wp_seq (wp_seq ?_))
 refine Za hS (qM rfl rfl (qf (o_slice_lo (sz:=1) (.mk Tryz.underlying34 (by kernel_rfl)) (by intro x;rfl) .t qi (by decide) (by omega)) r1 qz (qu Tryz.underlying34 r1 (qJ qZ)))) hB [49,48,47,6,3,2] [102,101,0] rfl rfl fun a w F hS=>Zb (wp_block ?_)
 replace hS:=hS.fresh 50 rfl
 replace hS:=hS.turn 50 rfl (ZaC (T:=53) (sz:=4) (R:=rOp))
 obtain ⟨F,hS⟩:=hS.nm [49,48,47,6,2] [102,101,50,0] rfl rfl
 refine ZG (σ:=(Nat×Value)) (fun s=>(⟨[(2,.pv (.is v2)),(6,.pv (.is v6)),(47,.pv (.sl rS (l.drop 2))),(48,.pv (.int .i64 ((l.drop 2).length:Nat))),(49,.pv (.int .i64 (s.1:Nat)))],[(0,frame B),(50,.ob (.val s.2) (Zu 53 4 rOp ((ZnJ (l.drop 2)).take s.1))),(101,.pt (.val v2) 38 [.pv (.int .i64 0),.pv (.bool false),.pv (.is (.slice none 0 0))]),(102,.pt (.val v6) 38 [.pv (.int .i64 (readR (nth l 0)).1),.pv (.bool (decide (nth l 1 = [99]))),.pv (.is s.2)])]⟩:En)) (fun s=>s.1≤(l.drop 2).length ∧ ∀ j,j<s.1→(opR (nth (l.drop 2) j)).2=0) (fun s=>(l.drop 2).length - s.1) (0,.slice none 0 0) hS ⟨Nat.zero_le _,fun j hj=>absurd hj (Nat.not_lt_zero _)⟩ ?_
 clear hS;intro s a w F hC hS
 obtain ⟨i,v⟩:=s
 try dsimp only at hC
 try dsimp only at hS
 obtain ⟨hi0,hz⟩:=hC
 try dsimp only at hi0 hz
 refine wp_seq ?_
 refine Za hS (qL r2) hB [50,49,48,47,6,2] [102,101,50,0] rfl rfl fun a w F hS=>Zb (wp_seq ?_)
 refine Zd hS rfl (fun hc3=>?_) (fun hc3=>?_)
 ·skip
  have hi:i<(l.drop 2).length:=by have h9:=of_decide_eq_true hc3;omega
  refine wp_skip (Zb (wp_seq (wp_block (wp_seq ?_))))
  refine Za hS (qy 1 Tryz.underlying34 r2 (qf (oR false 1 .t) r1 qz (qN rfl rfl qZ))) hB [49,48,47,8,6,2] [102,101,50,0] rfl rfl fun a w F hS=>?_
  rw [Int.toNat_natCast] at hS
  refine Zb (wp_seq ?_)
  refine Zc hS (qM rfl rfl (qf (oP (Zqd (nth (l.drop 2) i) (by have h9:=hs _ (List.mem_of_mem_drop (ZB hi));omega)) Tryz.func119 (Args.one .t)) r1 qz (qM rfl rfl (qf (o_extract .t rfl) r1 qz (qf (o_extract .t rfl) r1 qz (qf (oH [.bool false,.int .i64 0,.int .i64 0,.int .i64 0] 103) trivial qz (qf (oA 4 103 .same (.conv .t .agg)) r2 r1 (qN rfl rfl qZ)))))))) hB [49,48,47,10,9,6,2] [103,102,101,50,0] (fun _=>rfl) (fun _=>rfl) fun τ a w F hS=>?_
  try dsimp only [RS.sub,SF.sub,CF.sub,csub,Anc.sub,List.map,Zf,xL,xM,Nat.reduceAdd,xD,xE,xT,xU,xC,xN,zCF] at hS
  generalize τ 9=v9 at hS
  refine Zb (wp_seq (wp_seq ?_))
  refine Za hS (qM rfl rfl (qf (o_neq .t qi) r1 qz qZ)) hB [59,49,48,47,10,9,6,2] [103,102,101,50,0] rfl rfl fun a w F hS=>Zb ?_
  refine Zd hS rfl (fun hc4=>?_) (fun hc4=>?_)
  ·skip
   have hw:(opR (nth (l.drop 2) i)).2≠0:=by simpa using hc4
   have hb:=Zon hi hz hw
   have hr:txR l=(zeroT,(opR (nth (l.drop 2) i)).2):=by unfold txR;rw [if_neg hl4,if_neg h0,if_neg h1,if_pos (by rw [hb];exact hw),hb]
   refine wp_seq ?_
   refine Za hS (qf (oB [] [.int .i64 0,.bool false,.slice none 0 0] [(0,1),(1,1),(2,1)] .nil) trivial qz (qM rfl rfl (qs 3 101 r2 r1 (qN rfl rfl qZ)))) hB [49,48,47,9,6,3,2] [103,102,101,50,0] rfl rfl fun a w F hS=>Zb (wp_ret (Ze (Zg (Ze (Ze (Zg (Ze ?_)))))))
   refine Zt hfr hS rfl (.cl 101 true 3 rfl rfl (.tmp rfl .nil)) (.two (.aggLe rfl (by rw [hr];exact ⟨.refl,.refl,.nilSl,trivial⟩)) (.int (by rw [hr])))
  have hzi:(opR (nth (l.drop 2) i)).2=0:=by simpa using hc4
  refine wp_skip (Zb ?_)
  refine Zc hS (qg 2 102 r1 r1 (qa 102 r1 r1 (qe 4 103 r1 r1 (qf (Zk (sz:=4) (zs:=[.bool false,.int .i64 0,.int .i64 0,.int .i64 0]) (r:=[(0,.tmp 64)]) (l:=[_,_,_,_]) Tryz.underlying36 (by kernel_rfl) (by kernel_rfl) (by kernel_rfl) (by kernel_rfl) rfl rfl (.agg rfl .t (by kernel_rfl) (by kernel_rfl) .nil) rfl) r1 qz (qf (o_append (sz:=4) (bs:=32) 50 (.mk' Tryz.underlying36 (by kernel_rfl) (by kernel_rfl)) (by intro x;rfl) .is (.arr (l':=[(opR (nth (l.drop 2) i)).1]) .t) (by simp only [List.length_cons,List.length_nil,List.length_take];unfold ZnJ;rw [List.length_map];omega) (by decide)) ⟨rfl,rfl,trivial⟩ ⟨rfl,trivial⟩ (qg 2 102 r1 r1 (qf (Zad 102 .adr (by kernel_rfl) (by kernel_rfl)) r2 r1 qZ))))))) hB [49,48,47,6,2] [102,101,50,0] (fun _=>rfl) (fun _=>rfl) fun τ a w F hS=>?_
  try dsimp only [RS.sub,SF.sub,CF.sub,csub,Anc.sub,List.map,Zf,xL,xM,Nat.reduceAdd,xD,xE,xT,xU,xC,xN,zCF,ldSF] at hS
  generalize τ 66=v66 at hS
  refine Zh (Zb ?_)
  refine Za hS (qp r1 (qM rfl rfl qZ)) hB [49,48,47,6,2] [102,101,50,0] rfl rfl fun a w F hS=>Zb ?_
  rw [show (ZnJ (l.drop 2)).take i ++ [(opR (nth (l.drop 2) i)).1] = (ZnJ (l.drop 2)).take (i+1) from Zef (f:=fun x=>(opR x).1) (by omega)] at hS
  replace hS:=hS.ent (i:=49) (s':=.pv (.int .i64 ((i+1:Nat):Int))) rfl (.int (wrap_succ (by omega)))
  obtain ⟨F,hS⟩:=hS.nm [49,48,47,6,2] [102,101,50,0] rfl rfl
  exact ⟨(i+1,v66),F,⟨by dsimp only;omega,fun j hj=>(Nat.lt_or_ge j i).elim (hz j) (fun h1=>(show i=j by dsimp only at hj;omega) ▸ hzi)⟩,hS,by dsimp only;omega⟩
 have hil:i=(l.drop 2).length:=by have h9:=of_decide_eq_false hc3;omega
 have hbz:=ZfV (l:=(l.drop 2)) (fun j hj=>hz j (by omega))
 have hr:txR l=(⟨(readR (nth l 0)).1,decide (nth l 1 = [99]),ZnJ (l.drop 2)⟩,0):=by unfold txR;rw [if_neg hl4,if_neg h0,if_neg h1,if_neg (by rw [hbz];decide)]
 rw [show (ZnJ (l.drop 2)).take i=ZnJ (l.drop 2) from List.take_of_length_le (by unfold ZnJ;rw [List.length_map];omega)] at hS
 refine wp_exit (Zi (Zi (Zo (Zb (wp_seq ?_)))))
 obtain ⟨F,hS⟩:=hS.giveCell 50 102 2 rfl rfl rfl rfl rfl
 try dsimp only [List.set] at hS
 obtain ⟨F,hS⟩:=hS.nm [50,49,48,47,6,2] [102,101,0] rfl rfl
 refine Za hS (qe 3 102 r1 r1 (qs 3 101 r2 r1 (qI qZ))) hB [3,2] [102,101,0] rfl rfl fun a w F hS=>Zb (wp_ret ?_)
 refine Zt hfr hS rfl (.cl 101 true 3 rfl rfl (.tmp rfl .nil)) (.two (.aggU rfl (by rw [hr] <;> rfl)) (.int (by rw [hr])))
end Go.Proofs.YtjhapicamnijnaaGreatDoor
