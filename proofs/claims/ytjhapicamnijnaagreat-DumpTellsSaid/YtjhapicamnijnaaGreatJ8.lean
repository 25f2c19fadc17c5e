/- Texts put together. No condition beyond those that each theorem says. -/
import Derived.Test.YtjhapicamnijnaaGreatJ7
import Derived.Test.YtjhapicamnijnaaGreatJ5
import Derived.Test.YtjhapicamnijnaaGreatJ2
import Derived.Test.YtjhapicamnijnaaGreatJ0
import Derived.Test.YtjhapicamnijnaaGreatLibL
import Derived.Shelf.SlIter.Collect
namespace Go.Proofs.YtjhapicamnijnaaGreat
open Go Go.Gm
set_option linter.unusedVariables false
set_option linter.unusedSimpArgs false
set_option maxHeartbeats 4000000
set_option maxRecDepth 8000
theorem ZfL {l:List TxD} {k x:Int} : x ∈ ZU l k ↔ ∃ t ∈ l,t.id=x∧t.done=true∧0<wcnt t.ops k:=by
 unfold ZU
 rw [List.mem_map]
 constructor
 · rintro ⟨t,ht,e⟩
   rw [List.mem_filter] at ht
   simp at ht
   exact ⟨t,ht.1,e,ht.2.1,ht.2.2⟩
 · rintro ⟨t,ht,e,h1,h2⟩
   exact ⟨t,by rw [List.mem_filter];simp [ht,h1,h2],e⟩
theorem Zcn {l:List TxD} (h:ZcK TxD.id l) (k:Int):(ZU l k).Nodup:=by
 unfold ZU
 have h1:(l.map TxD.id).Nodup:=(List.pairwise_map.2 (ZE.1 h)).imp fun h=>Int.ne_of_lt h
 exact (h1.sublist ((List.filter_sublist).map _))
theorem ZhA {l:List TxD} (h:ZcK TxD.id l) {t:TxD} (ht:t ∈ l):ZaW l t.id=some t:=by
 have h:=ZE.1 h
 induction l with
 | nil=>cases ht
 | cons x l ih=>
   rw [List.pairwise_cons] at h
   unfold ZaW
   rw [List.find?_cons]
   rcases List.mem_cons.1 ht with rfl | ht
   · simp
   · have:=h.1 t ht
     rw [show decide (x.id=t.id)=false by simp;omega]
     exact ih (ZE.2 h.2) ht h.2
theorem Zn0 {l:List TxD} {id:Int} (h:∀ t ∈ l,t.id≠id):ZaW l id=none:=by
 unfold ZaW
 exact List.find?_eq_none.2 fun t ht=>by simpa using h t ht
theorem ZdL {g:HistD} : ZB g ↔ g.txs.length≤4096∧ZcK TxD.id g.txs∧(∀ t ∈ g.txs,ZT t=0∧ZaH g t=true)∧ZcK OrdD.key g.orders∧NE g.orders ∧ ∀ k,(getO g.orders k).Perm (ZU g.txs k):=by
 constructor
 · intro h
   obtain ⟨r1',r2'⟩:=ZR h
   have hne:=Zc2 h
   have h2:=(ZcR g).2 h.2.2
   refine ⟨h.1,r1',fun t ht=>?_,r2',hne,fun k=>?_⟩
   · obtain ⟨j,hj,e⟩:=List.getElem_of_mem ht
     have:=(h.2.1 j hj).2
     rwa [Zq hj,e] at this
   · by_cases hk:getO g.orders k = []
     · rw [hk]
       have hw:ZU g.txs k = []:=by
         refine Decidable.byContradiction fun hw=>?_
         obtain ⟨j,hj,e⟩:=List.getElem_of_mem (ZcD.2 hw)
         have hjo:j<g.orders.length:=by rw [h.2.2.1];exact hj
         have h3:=(h.2.2.2 j hjo).1
         rw [Zq hj,e] at h3
         have h4:=ZcQ (ZE.1 r2') (ZP hjo)
         rw [h3,hk] at h4
         exact hne _ (ZP hjo) h4.symm
       rw [hw]
     · have hm:=ZfA hk
       obtain ⟨j,hj,e⟩:=List.getElem_of_mem hm
       have:=(h2.2 j hj).2.2
       rw [Zq hj,e] at this
       exact this
 · rintro ⟨h1,h2,h3,h4,h5,h6⟩
   have hk:g.orders.map OrdD.key=Zaw g.txs:=by
     refine Zei (List.pairwise_map.2 (ZE.1 h4)) (ZaF _).1 fun k=>?_
     rw [ZcD,List.mem_map]
     constructor
     · rintro ⟨o,ho,rfl⟩ e
       have:=h6 o.key
       rw [e,ZcQ (ZE.1 h4) ho] at this
       exact h5 o ho this.eq_nil
     · intro e
       have:getO g.orders k≠[]:=fun e2=>by
         have:=h6 k
         rw [e2] at this
         exact e this.symm.eq_nil
       exact ⟨_,ZfA this,rfl⟩
   have hlen:g.orders.length=(Zaw g.txs).length:=by rw [← hk,List.length_map]
   refine ⟨h1,fun i hi=>?_,(ZcR g).1 ⟨hlen,fun i hi=>?_⟩⟩
   · obtain ⟨g1,g2⟩:=h3 _ (ZP hi)
     exact ⟨fun h0=>h2 (i - 1) i (by omega) hi,g1,g2⟩
   · refine ⟨fun h0=>h4 (i - 1) i (by omega) hi,h5 _ (ZP hi),?_⟩
     have:=h6 (Go.Gm.nth g.orders i).key
     rwa [ZcQ (ZE.1 h4) (ZP hi)] at this
theorem Zmd {t:TxD} {l:List Int} {k x:Int} : x ∈ Zc5 t l k ↔ (x ∈ l∧x≠t.id)∨(x=t.id∧t.done=true∧0<wcnt t.ops k):=by
 unfold Zc5
 by_cases h:t.done=true∧0<wcnt t.ops k
 · rw [if_pos h]
   unfold withO
   split
   · rename_i hi
     constructor
     · intro hx
       by_cases e:x=t.id
       · exact .inr ⟨e,h⟩
       · exact .inl ⟨hx,e⟩
     · rintro (⟨hx,_⟩ | ⟨rfl,_⟩)
       · exact hx
       · exact hi
   · rename_i hi
     rw [List.mem_append,List.mem_singleton]
     constructor
     · rintro (hx | hx)
       · exact .inl ⟨hx,fun e=>hi (e ▸ hx)⟩
       · exact .inr ⟨hx,h⟩
     · rintro (⟨hx,_⟩ | ⟨e,_⟩)
       · exact .inl hx
       · exact .inr e
 · rw [if_neg h]
   unfold withoutO
   rw [List.mem_filter,decide_eq_true_eq]
   exact ⟨fun h1=>.inl h1,fun h1=>h1.elim id fun h2=>absurd h2.2 h⟩
theorem ZiT {t:TxD} {l:List Int} (h:l.Nodup) (k:Int):(Zc5 t l k).Nodup:=by
 unfold Zc5
 split
 · unfold withO
   split
   · exact h
   · rename_i hi
     rw [List.nodup_append]
     exact ⟨h,by simp,fun a ha b hb=>by rw [List.mem_singleton] at hb;subst hb;exact fun e=>hi (e ▸ ha)⟩
 · exact h.filter _
theorem Zeg {g:HistD} {t:TxD} {b:Bool} {l:List TxD} (hR:ZB g) (hs:Zbq g.orders) (hr:ZcK TxD.id l) (hl:l.length≤4096) (hM:∀ s,s ∈ l ↔ (s ∈ g.txs∧s.id≠t.id)∨(s=t∧b=true))
   (ht:b=true→ZT t=0∧ZaH g t=true) (hb:b=false→t.done=false)
   (hu:∀ x ∈ l,∀ v ∈ ZV x,v.tx=t.id→ZeS g v=true→¬ (v.tx=0∧v.nth=0)→b=true∧v.nth≤(wcnt t.ops v.key:Int)):ZB ⟨l,settleO t g.orders⟩:=by
 obtain ⟨h1,h2,h3,h4,h5,h6⟩:=ZdL.1 hR
 obtain ⟨s1,s2⟩:=Zfb (t:=t) h4 hs
 have hhas:∀ x ∈ l,∀ v ∈ ZV x,ZeS g v=true→ZeS ⟨l,settleO t g.orders⟩ v=true:=by
   intro x hx v hv hg
   by_cases hz:v.tx=0∧v.nth=0
   · unfold ZeS at hg ⊢
     rw [if_pos hz] at hg ⊢
     exact hg
   · have hu2:=hu x hx v hv
     unfold ZeS at hg hu2 ⊢
     rw [if_neg hz] at hg hu2 ⊢
     by_cases e:v.tx=t.id
     · obtain ⟨b1,b2⟩:=hu2 e hg hz
       have hm:t ∈ l:=(hM t).2 (.inr ⟨rfl,b1⟩)
       have hf:=ZhA hr hm
       simp only [Bool.and_eq_true,decide_eq_true_eq] at hg ⊢
       show _∧_
       rw [e,hf]
       exact ⟨rfl,hg.2.1,b2⟩
     · have hf:ZaW l v.tx=ZaW g.txs v.tx:=by
         cases hc:ZaW g.txs v.tx with
         | none=>
           refine Zn0 fun s hsl es=>?_
           rcases (hM s).1 hsl with ⟨m1,m2⟩ | ⟨rfl,_⟩
           · have:=ZhA h2 m1
             rw [es,hc] at this;cases this
           · exact e es.symm
         | some s=>
           obtain ⟨m1,m2⟩:=findT_mem hc
           have hm:s ∈ l:=(hM s).2 (.inl ⟨m1,by rw [m2];exact e⟩)
           have:=ZhA hr hm
           rwa [m2] at this
       show (((ZaW l v.tx).isSome && _):Bool)=true
       rw [hf];exact hg
 refine ZdL.2 ⟨hl,hr,fun x hx=>?_,ZE.2 s1,s2,fun k=>?_⟩
 · have hx2:ZT x=0∧ZaH g x=true:=by
     rcases (hM x).1 hx with ⟨m1,_⟩ | ⟨rfl,b1⟩
     · exact h3 x m1
     · exact ht b1
   refine ⟨hx2.1,?_⟩
   have h7:=hx2.2
   unfold ZaH at h7 ⊢
   rw [List.all_eq_true] at h7 ⊢
   exact fun v hv=>hhas x hx v hv (h7 v hv)
 · rw [Zgn h4 k]
   have hn:(getO g.orders k).Nodup:=(h6 k).symm.nodup (Zcn h2 k)
   refine (List.perm_ext_iff_of_nodup (ZiT hn k) (Zcn hr k)).2 fun x=>?_
   rw [Zmd,ZfL,(h6 k).mem_iff,ZfL]
   constructor
   · rintro (⟨⟨s,m1,m2,m3,m4⟩,m5⟩ | ⟨rfl,m3,m4⟩)
     · exact ⟨s,(hM s).2 (.inl ⟨m1,by rw [m2];exact m5⟩),m2,m3,m4⟩
     · refine ⟨t,(hM t).2 (.inr ⟨rfl,?_⟩),rfl,m3,m4⟩
       cases b with
       | true=>rfl
       | false=>rw [hb rfl] at m3;cases m3
   · rintro ⟨s,m1,m2,m3,m4⟩
     rcases (hM s).1 m1 with ⟨m5,m6⟩ | ⟨rfl,_⟩
     · exact .inl ⟨⟨s,m5,m2,m3,m4⟩,by rw [← m2];exact m6⟩
     · exact .inr ⟨m2.symm,m3,m4⟩
theorem Zny {l:List TxD} {t:TxD} (h:ZcK TxD.id l) (hk:isK TxD.id t.id l=false):ZcK TxD.id (l.take (lowK TxD.id t.id l) ++ [t] ++ l.drop (lowK TxD.id t.id l)) ∧ ∀ s,s ∈ l.take (lowK TxD.id t.id l) ++ [t] ++ l.drop (lowK TxD.id t.id l) ↔ (s ∈ l∧s.id≠t.id)∨(s=t∧true=true):=by
 rw [← ZfT (ZE.1 h) hk]
 refine ⟨ZE.2 (ZcX (ZE.1 h)),fun s=>?_⟩
 rw [ZfT (ZE.1 h) hk,List.mem_append,List.mem_append,List.mem_singleton]
 have hne:∀ s ∈ l,s.id≠t.id:=fun s hs e=>by
   have:=List.any_eq_false.1 hk s hs
   simp at this;exact this e
 constructor
 · rintro ((h1 | h1) | h1)
   · exact .inl ⟨List.mem_of_mem_take h1,hne s (List.mem_of_mem_take h1)⟩
   · exact .inr ⟨h1,rfl⟩
   · exact .inl ⟨List.mem_of_mem_drop h1,hne s (List.mem_of_mem_drop h1)⟩
 · rintro (⟨h1,_⟩ | ⟨h1,_⟩)
   · rw [← List.take_append_drop (lowK TxD.id t.id l) l,List.mem_append] at h1
     rcases h1 with h1 | h1
     · exact .inl (.inl h1)
     · exact .inr h1
   · exact .inl (.inr h1)
theorem ZnK {l:List TxD} {t:TxD} (h:ZcK TxD.id l) (hk:isK TxD.id t.id l=true):ZcK TxD.id (l.set (lowK TxD.id t.id l) t) ∧ ∀ s,s ∈ l.set (lowK TxD.id t.id l) t ↔ (s ∈ l∧s.id≠t.id)∨(s=t∧true=true):=by
 rw [← ZfD (ZE.1 h) hk]
 refine ⟨ZE.2 (ZcX (ZE.1 h)),fun s=>?_⟩
 constructor
 · intro hs
   rcases ZdS hs with ⟨rfl,_⟩ | h1
   · exact .inr ⟨rfl,rfl⟩
   · exact .inl h1
 · have key:∀ (l:List TxD) (d:Bool),((s ∈ l∧s.id≠t.id)∨(s=t∧d=false))→s ∈ putGR TxD.id t l d:=by
     intro l
     induction l with
     | nil=>
       rintro d (⟨h1,_⟩ | ⟨rfl,h1⟩)
       · cases h1
       · subst h1;simp [putGR]
     | cons x l ih=>
       intro d hx
       rw [putGR,List.mem_append,List.mem_append]
       rcases hx with ⟨h1,h2⟩ | ⟨rfl,h1⟩
       · rcases List.mem_cons.1 h1 with rfl | h1
         · exact .inl (.inr (by rw [if_neg h2];simp))
         · exact .inr (ih _ (.inl ⟨h1,h2⟩))
       · by_cases hA:s.id≤x.id
         · exact .inl (.inl (by rw [if_pos ⟨h1,hA⟩];simp))
         · exact .inr (ih _ (.inr ⟨rfl,by rw [h1];simp;omega⟩))
   rintro (h1 | ⟨h1,_⟩)
   · exact key l false (.inl h1)
   · exact key l false (.inr ⟨h1,rfl⟩)
theorem ZnC {t:TxD} {v:ZbP} (h:v ∈ ZV t):v.tx≠t.id:=by
 have key:∀ (l:List OpD) (out:List ZbP),(∀ v ∈ out,v.tx≠t.id) → ∀ v ∈ l.foldl (ZaM t.id) out,v.tx≠t.id:=by
   intro l
   induction l with
   | nil=>intro out h;exact h
   | cons o l ih=>
     intro out h
     refine ih _ fun v hv=>?_
     unfold ZaM at hv
     split at hv
     · rename_i hc
       rcases List.mem_append.1 hv with hv | hv
       · exact h v hv
       · have e:v=ofO o:=by simpa using hv
         have hn:=hc.1
         unfold Zga at hn
         simp at hn
         rw [e]
         unfold ofO
         rw [if_pos hn.1.1]
         exact hn.2
     · exact h v hv
 exact key _ _ (fun v hv=>by cases hv) v h
theorem ZjQ {g:HistD} {v:ZbP} (h:ZeS g v=true) (hz:¬ (v.tx=0∧v.nth=0)):isK TxD.id v.tx g.txs=true∧1≤v.nth:=by
 unfold ZeS at h
 rw [if_neg hz,Bool.and_eq_true,Bool.and_eq_true,Zdl] at h
 exact ⟨h.1,by simpa using h.2.1⟩
theorem Zoi {g:HistD} {t x:TxD} {v:ZbP} (h:ZdE g t=false) (hx:x ∈ g.txs) (hn:x.id≠t.id) (hv:v ∈ ZV x) (e:v.tx=t.id):v.nth≤(wcnt t.ops v.key:Int):=by
 have h1:=List.any_eq_false.1 h x hx
 unfold ZeC at h1
 rw [decide_eq_true hn,Bool.true_and] at h1
 have h2:=List.any_eq_false.1 (by simpa using h1) v hv
 unfold Zgc at h2
 simp [e] at h2
 omega
theorem Zih {g:HistD} {t:TxD} (hs:ZaR g) (h:(Z9 g t).2=0):ZB (Z9 g t).1:=by
 unfold Z9 at h ⊢
 split at h
 · rename_i h1;exact absurd h h1
 · rename_i h1
   split at h
   · simp at h
   · rename_i h2
     obtain ⟨hr,hrt,hik,hnd,_⟩:=Zki (by decide) (Decidable.not_not.1 h1)
     rw [if_neg h1,if_neg h2]
     obtain ⟨m1,m2⟩:=Zny (ZR hr).1 hik
     refine Zeg (b:=true) hr hs.2 m1 ?_ m2 (fun _=>⟨hrt,hnd⟩) (fun h=>by cases h) fun x _ v _ e hv hz=>?_
     · have:=hr.1
       rw [List.length_append,List.length_append,List.length_take,List.length_drop];simp;omega
     · have:=(ZjQ hv hz).1
       rw [e,hik] at this;cases this
theorem Zjq {g:HistD} {t:TxD} (hs:ZaR g) (h:(ZaA g t).2=0):ZB (ZaA g t).1:=by
 unfold ZaA at h ⊢
 split at h
 · rename_i h1;exact absurd h h1
 · rename_i h1
   split at h
   · simp at h
   · rename_i h2
     obtain ⟨hr,hrt,hik,hnd,_⟩:=Zki (by decide) (Decidable.not_not.1 h1)
     rw [if_neg h1,if_neg h2]
     obtain ⟨m1,m2⟩:=ZnK (ZR hr).1 hik
     refine Zeg (b:=true) hr hs.2 m1 (by rw [List.length_set];exact hr.1) m2 (fun _=>⟨hrt,hnd⟩) (fun h=>by cases h) fun x hx v hv e _ _=>⟨rfl,?_⟩
     rcases (m2 x).1 hx with ⟨h3,h4⟩ | ⟨rfl,_⟩
     · exact Zoi (by simpa using h2) h3 h4 hv e
     · exact absurd e (ZnC hv)
theorem Zit {g:HistD} {id:Int} (hs:ZaR g) (h:(Z1 g id).2=0):ZB (Z1 g id).1:=by
 unfold Z1 at h ⊢
 split at h
 · simp at h
 · rename_i h1
   split at h
   · simp at h
   · rename_i h2
     split at h
     · simp at h
     · rename_i h3
       have hr:=Decidable.not_not.1 h1
       have hik:isK TxD.id id g.txs=true:=by simpa using h2
       have hri:=(ZR hr).1
       rw [if_neg h1,if_neg h2,if_neg h3,← Zgt (ZE.1 hri) hik]
       refine Zeg (b:=false) hr hs.2 (ZE.2 ((ZE.1 hri).filter _)) (Nat.le_trans (List.length_filter_le _ _) hr.1) (fun s=>?_) (fun h=>by cases h) (fun _=>rfl) fun x hx v hv e hg hz=>?_
       · rw [List.mem_filter];simp [ZbU]
       · rw [List.mem_filter] at hx
         have h5:=Zoi (t:=ZbU id) (by simpa using h3) hx.1 (by simpa [ZbU] using hx.2) hv e
         have h6:=(ZjQ hg hz).2
         have h7:wcnt (ZbU id).ops v.key=0:=rfl
         rw [h7] at h5
         omega
theorem Zev {g:HistD} {key:Int} {rule:List Int→List Int×Int} (hp:∀ l,(rule l).2=0→(rule l).1.Perm l) (h:(Zac g key rule).2=0):ZB (Zac g key rule).1:=by
 by_cases hr:ZB g
 · by_cases hg:getO g.orders key = []
   · rw [ZmE hr hg] at h;simp at h
   · by_cases h3:(rule (getO g.orders key)).2=0
     · have hpp:=hp _ h3
       have hne:(rule (getO g.orders key)).1≠[]:=fun e=>hg (by rw [e] at hpp;exact hpp.symm.eq_nil)
       rw [ZlS hr hg h3 hne,decide_eq_false hne]
       obtain ⟨h1,h2,h4,h5,h6,h7⟩:=ZdL.1 hr
       refine ZdL.2 ⟨h1,h2,fun t ht=>?_,ZE.2 (ZcX (ZE.1 h5)),fun o ho=>?_,fun k=>?_⟩
       · obtain ⟨g1,g2⟩:=h4 t ht
         exact ⟨g1,g2⟩
       · rcases ZdS ho with ⟨rfl,_⟩ | ⟨g1,_⟩
         · exact hne
         · exact h6 o g1
       · show (getO (putGR OrdD.key _ g.orders false) k).Perm _
         rw [ZkE (ZE.1 h5)]
         by_cases e:k=key
         · subst e
           rw [if_pos rfl]
           exact hpp.trans (h7 k)
         · rw [if_neg e];exact h7 k
     · rw [Zmn hr hg h3] at h;exact absurd h h3
 · rw [Zmu hr] at h;simp at h
theorem ZmX {o:OrdD} (l:List Int) (h:(Zc6 o l).2=0):(Zc6 o l).1.Perm l:=by
 unfold Zc6 at h ⊢
 split at h
 · rename_i hp;rw [if_pos hp];exact hp.symm
 · simp at h
theorem ZnS {g:HistD} {e:EdD} (hs:ZaR g) (h:(doH g e).2=0):ZB (doH g e).1:=by
 unfold doH at h ⊢
 by_cases k0:e.kind=0
 · rw [if_pos k0] at h ⊢;exact Zih hs h
 · rw [if_neg k0] at h ⊢
   by_cases k1:e.kind=1
   · rw [if_pos k1] at h ⊢;exact Zit hs h
   · rw [if_neg k1] at h ⊢
     by_cases k2:e.kind=2
     · rw [if_pos k2] at h ⊢;exact Zjq hs h
     · rw [if_neg k2] at h ⊢
       by_cases k3:e.kind=3
       · rw [if_pos k3] at h ⊢;exact Zev ZmX h
       · rw [if_neg k3] at h ⊢
         by_cases k4:e.kind=4
         · rw [if_pos k4] at h ⊢;exact Zev (rule:=fun l=>Zaa l e.t.id e.place) (fun l h=>ZhK h) h
         · rw [if_neg k4] at h;simp at h
theorem ZkU:ZB zeroH:=by decide +kernel
theorem Zn9 (x y:List Int) (hx:x.length≤1000000) (hy:y.length≤1000000):FnP Tryz.prog 33 [.sl rInt x,.sl rInt y] (.tup [.sl ZbI (Zae x y).1,.int .i64 (Zae x y).2]):=by
 refine FnP.mk Tryz.func33 rfl Tryz.ntmps33 rfl ?_
 intro B a w F hB hfr hS
 refine wp_seq ?_
 refine Za hS (qC (qI qZ)) hB [5,4,1,0] [0] rfl rfl fun a w F hS=>Zb (wp_seq (wp_seq ?_))
 refine Za hS (qM rfl rfl (qf (oP (Zj0 x) Tryz.func81 (Args.one .t)) r1 qz (qf (o_not .t) r1 qz (qM rfl rfl (qm rfl rfl rfl rfl (qk rfl (fun h=>oP (Zj0 y) Tryz.func81 (Args.one (.w h))) r2 qz (qk rfl (fun h=>o_not (.w h)) r2 qz (qf (Z4 .t .t) r2 qz (qM rfl rfl (qm rfl rfl rfl rfl (qm rfl rfl rfl rfl (qk rfl (fun h=>oP (Zml x y hx hy) Tryz.func46 (Args.two (.w h) (.w h))) r3 qz (qk rfl (fun h=>o_not (.w h)) r2 qz (qf (Z4 .t .t) r2 qz qZ)))))))))))))) hB [23,5,4,1,0] [0] rfl rfl fun a w F hS=>Zb ?_
 refine Zd hS rfl (fun hc0=>?_) (fun hc0=>?_)
 ·skip
  have hno:¬ Zbo x y:=by unfold Zbo;rintro ⟨k1,k2,k3⟩;simp [k1,k2,k3] at hc0
  have hm:Zae x y=([],8):=if_neg hno
  refine wp_seq ?_
  refine Za hS (qC (qI qZ)) hB [5,4,1,0] [0] rfl rfl fun a w F hS=>Zb (wp_ret (Zf ?_))
  refine Zr hfr hS rfl (.tmp rfl (.tmp rfl .nil)) (.two (.trans .nilSl (.sl (by rw [hm]))) (.int (by rw [hm])))
 have hok:Zbo x y:=by unfold Zbo;simp at hc0;simpa [and_assoc] using hc0
 have hxyl:=hok.2.2.length_eq
 refine wp_skip (Zb (wp_seq ?_))
 refine Za hS (qC qZ) hB [6,5,4,1,0] [0] rfl rfl fun a w F hS=>Zb (wp_seq ?_)
 replace hS:=hS.fresh 101 rfl
 refine Zc hS (qM rfl rfl (qf (Zby 101 (Zc1 x hx) Tryz.func82 rfl (by kernel_rfl) (Args.one .t) Za4) r1 r1 (qN rfl rfl qZ))) hB [7,6,5,4,1] [101,0] (fun _=>rfl) (fun _=>rfl) fun τ a w F hS=>?_
 try dsimp only [RS.sub,SF.sub,CF.sub,csub,Anc.sub,List.map,rInt,ZbI] at hS
 generalize τ 25=v25 at hS
 obtain ⟨F,hS⟩:=hS.give 101 7 rfl rfl
 obtain ⟨F,hS⟩:=hS.nm [7,6,5,4,1] [0] rfl rfl
 refine Zb (wp_seq (wp_seq ?_))
 refine Za hS (qM rfl rfl (qu Tryz.underlying41 r1 (qJ qZ))) hB [28,27,26,7,6,5,4] [0] rfl rfl fun a w F hS=>Zb (wp_block ?_)
 replace hS:=hS.fresh 50 rfl
 replace hS:=hS.turn 50 rfl (Zav (T:=70) (sz:=2) (R:=ZbI))
 refine Zl (σ:=(Nat)×(List Int)×(Value)×(List Zcs)) [4,5,26,27] [0] (fun s=>[(28,.pv (.int .i64 (s.1:Int))),(7,.pv (.sl rInt s.2.1)),(6,.pv (.is s.2.2.1))]) (fun s=>[(50,.ob (.val s.2.2.1) (Zy 70 2 ZbI s.2.2.2))]) (fun s=>s.1≤y.length∧(Zap x 0 y=s.2.2.2++Zap s.2.1 s.1 (y.drop s.1)∧(s.2.1).Perm x∧(s.2.2.2).length≤s.1)) (fun s=>y.length - s.1) ((0),(x),(.slice none 0 0),([])) hS ⟨rfl,rfl,rfl,rfl,rfl,rfl,rfl,trivial⟩ ⟨rfl,rfl,trivial⟩ ⟨Nat.zero_le _,⟨rfl,.refl _,Nat.zero_le _⟩⟩ ?_
 clear hS;intro s a w F hC hS
 obtain ⟨i,now,v,out⟩:=s
 try dsimp only at hC
 obtain ⟨F,hS⟩:=hS.nm [28,27,26,7,6,5,4] [50,0] rfl rfl
 try dsimp only at hS
 obtain ⟨hi,hq⟩:=hC
 obtain ⟨hst,hpm,hol⟩:=hq
 have hnl:now.length=x.length:=hpm.length_eq
 have hdn:=@ZZ _ _ y i
 refine wp_seq ?_
 refine Za hS (qL r2) hB [29,28,27,26,7,6,5,4] [50,0] rfl rfl fun a w F hS=>Zb (wp_seq ?_)
 refine Zd hS rfl (fun hc1=>?_) (fun hc1=>?_)
 ·skip
  have hil:i<y.length:=by simp at hc1;omega
  refine wp_skip (Zb (wp_seq (wp_block (wp_seq ?_))))
  refine Za hS (qM rfl rfl (qy 1 Tryz.underlying41 r2 (qf (oR false 1 .t) r1 qz (qN rfl rfl (qN rfl rfl qZ))))) hB [28,27,26,9,8,7,6,5,4] [50,0] rfl rfl fun a w F hS=>?_
  try simp only [Int.toNat_natCast] at hS
  refine Zb (wp_seq (wp_seq ?_))
  refine Za hS (qM rfl rfl (qM rfl rfl (qy 1 Tryz.underlying41 r2 (qf (oR false 1 .t) r1 qz (qM rfl rfl (qf (o_eql .t .t) r2 qz qZ)))))) hB [38,28,27,26,9,8,7,6,5,4] [50,0] rfl rfl fun a w F hS=>?_
  try simp only [Int.toNat_natCast] at hS
  refine Zb ?_
  refine Zd hS rfl (fun hc2=>?_) (fun hc2=>?_)
  ·skip
   have hne:Go.Gm.nth now i=Go.Gm.nth y i:=by simpa using hc2
   have hst2:=Zd7 (to:=y.drop (i+1)) hne
   rw [← ZZ hil] at hst2
   have hpm2:=hpm
   obtain ⟨now2,hn2⟩:∃ z,z=now:=⟨_,rfl⟩
   rw [← hn2] at hS hst hst2 hpm2
   refine wp_exit (Zi (Zo (Zb ?_)))
   refine Za hS (qp r1 (qM rfl rfl qZ)) hB [28,27,26,7,6,5,4] [50,0] rfl rfl fun a w F hS=>Zb ?_
   replace hS:=hS.ent (i:=28) (s':=.pv (.int .i64 ((i+1:Nat):Int))) rfl (.int (Ze (by omega)))
   obtain ⟨F,hS⟩:=hS.nm [27,26,5,4,6,7,28] [0,50] rfl rfl
   exact ⟨((i+1),(now2),_,_),F,⟨by omega,⟨by first | (rw [hst,hst2];done) | (rw [hst,hst2];simp),hpm2,by first | omega | (simp only [List.length_append,List.length_cons,List.length_nil];omega)⟩⟩,hS,by omega⟩
  have hne:¬ Go.Gm.nth now i=Go.Gm.nth y i:=by simpa using hc2
  have hst2:=Zf3 (to:=y.drop (i+1)) hne
  rw [← ZZ hil] at hst2
  have hpm2:=(Zb3 (place:=(i:Int)) (hpm.mem_iff.2 (hok.2.2.mem_iff.2 (ZP hil))) (by omega)).trans hpm
  obtain ⟨now2,hn2⟩:∃ z,z=(Zaa now (Go.Gm.nth y i) i).1:=⟨_,rfl⟩
  rw [← hn2] at hst2 hpm2
  refine wp_skip (Zb (wp_seq ?_))
  refine Za hS (qM rfl rfl (qM rfl rfl (qM rfl rfl (qf (oP (Zm3 now (Go.Gm.nth y i) i (by omega)) Tryz.func83 (Args.three .t .t .t)) r3 qz (qM rfl rfl (qf (o_extract .t rfl) r1 qz (qf (o_extract .t rfl) r1 qz (qN rfl rfl qZ)))))))) hB [28,27,26,9,8,7,6,5,4] [50,0] rfl rfl fun a w F hS=>?_
  rw [← hn2] at hS
  refine Zb ?_
  refine Zc hS (qM rfl rfl (qM rfl rfl (qM rfl rfl (qf (oB [(0,.tmp 47),(1,.tmp 48)] [.int .i64 0,.int .i64 0] [(0,1),(1,1)] (.one rfl .t one_int (by kernel_rfl) (.one rfl .t one_int (by kernel_rfl) .nil))) r2 qz (qf (Zj (sz:=2) (zs:=[.int .i64 0,.int .i64 0]) (r:=[(0,.tmp 49)]) (l:=[_,_]) Tryz.underlying65 (by kernel_rfl) (by kernel_rfl) (by kernel_rfl) (by kernel_rfl) rfl rfl (.agg rfl .t (by kernel_rfl) (by kernel_rfl) .nil) rfl) r1 qz (qf (o_append (sz:=2) (bs:=16) 50 (.mk' Tryz.underlying65 (by kernel_rfl) (by kernel_rfl)) (by intro x;rfl) .is (.arr (l':=[(⟨Go.Gm.nth y i,i⟩:Zcs)]) .t) (by simp only [List.length_append,List.length_cons,List.length_nil];omega) (by decide)) ⟨rfl,rfl,trivial⟩ ⟨rfl,trivial⟩ (qN rfl rfl qZ))))))) hB [28,27,26,7,6,5,4] [50,0] (fun _=>rfl) (fun _=>rfl) fun τ a w F hS=>?_
  try dsimp only [RS.sub,SF.sub,CF.sub,csub,Anc.sub,List.map,Zg,xL,xM,Nat.reduceAdd,xD,xE,xT,xU,xC,xN,zCF,rInt,ZbI] at hS
  generalize τ 51=v51 at hS
  refine Zh (Zb ?_)
  refine Za hS (qp r1 (qM rfl rfl qZ)) hB [28,27,26,7,6,5,4] [50,0] rfl rfl fun a w F hS=>Zb ?_
  replace hS:=hS.ent (i:=28) (s':=.pv (.int .i64 ((i+1:Nat):Int))) rfl (.int (Ze (by omega)))
  obtain ⟨F,hS⟩:=hS.nm [27,26,5,4,6,7,28] [0,50] rfl rfl
  exact ⟨((i+1),(now2),_,_),F,⟨by omega,⟨by first | (rw [hst,hst2];done) | (rw [hst,hst2];simp),hpm2,by first | omega | (simp only [List.length_append,List.length_cons,List.length_nil];omega)⟩⟩,hS,by omega⟩
 have hil:i=y.length:=by simp at hc1;omega
 rw [hil,List.drop_length,Zap,List.append_nil] at hst
 have hm:Zae x y=(out,0):=by unfold Zae;rw [if_pos hok,hst]
 refine wp_exit (Zi (Zi (Zo (Zb (wp_seq ?_)))))
 refine Za hS (qM rfl rfl (qN rfl rfl (qI qZ))) hB [5,4] [50,0] rfl rfl fun a w F hS=>Zb (wp_ret ?_)
 obtain ⟨F,hS⟩:=hS.give 50 4 rfl rfl
 refine Zr hfr hS rfl (.tmp rfl (.tmp rfl .nil)) (.two (.sl (by rw [hm])) (.int (by rw [hm])))
theorem ZmD (x y:List Int) (hx:x.length≤1000000) (hy:y.length≤1000000):FnP Tryz.prog 37 [.sl rInt x,.sl rInt y] (.tup [.sl ZbI (Zae x y).1,.int .i64 (Zae x y).2]):=by
 refine FnP.mk Tryz.func37 rfl Tryz.ntmps37 rfl ?_
 intro B a w F hB hfr hS
 refine wp_seq ?_
 refine Za hS (qC (qI qZ)) hB [5,4,1,0] [0] rfl rfl fun a w F hS=>Zb (wp_seq (wp_seq ?_))
 refine Za hS (qM rfl rfl (qf (oP (Zib x) Tryz.func94 (Args.one .t)) r1 qz (qf (o_not .t) r1 qz (qM rfl rfl (qm rfl rfl rfl rfl (qk rfl (fun h=>oP (Zib y) Tryz.func94 (Args.one (.w h))) r2 qz (qk rfl (fun h=>o_not (.w h)) r2 qz (qf (Z4 .t .t) r2 qz (qM rfl rfl (qm rfl rfl rfl rfl (qm rfl rfl rfl rfl (qk rfl (fun h=>oP (ZgO x y) Tryz.func89 (Args.two (.w h) (.w h))) r3 qz (qk rfl (fun h=>o_not (.w h)) r2 qz (qf (Z4 .t .t) r2 qz qZ)))))))))))))) hB [24,5,4,1,0] [0] rfl rfl fun a w F hS=>Zb ?_
 refine Zd hS rfl (fun hc0=>?_) (fun hc0=>?_)
 ·skip
  have hno:¬ Zbo x y:=by unfold Zbo;rintro ⟨k1,k2,k3⟩;simp [k1,k2,k3] at hc0
  have hm:Zae x y=([],8):=if_neg hno
  refine wp_seq ?_
  refine Za hS (qC (qI qZ)) hB [5,4,1,0] [0] rfl rfl fun a w F hS=>Zb (wp_ret (Zf ?_))
  refine Zr hfr hS rfl (.tmp rfl (.tmp rfl .nil)) (.two (.trans .nilSl (.sl (by rw [hm]))) (.int (by rw [hm])))
 have hok:Zbo x y:=by unfold Zbo;simp at hc0;simpa [and_assoc] using hc0
 have hxyl:=hok.2.2.length_eq
 refine wp_skip (Zb (wp_seq ?_))
 refine Za hS (qC qZ) hB [6,5,4,1,0] [0] rfl rfl fun a w F hS=>Zb (wp_seq (wp_seq ?_))
 refine Za hS (qM rfl rfl (qu Tryz.underlying41 r1 (qJ qZ))) hB [27,26,25,6,5,4,0] [0] rfl rfl fun a w F hS=>Zb (wp_block ?_)
 replace hS:=hS.fresh 50 rfl
 replace hS:=hS.turn 50 rfl (Zav (T:=70) (sz:=2) (R:=ZbI))
 refine Zl (σ:=(Nat)×(List Int)×(Value)×(List Zcs)) [4,5,25,26] [0] (fun s=>[(27,.pv (.int .i64 (s.1:Int))),(0,.pv (.sl rInt s.2.1)),(6,.pv (.is s.2.2.1))]) (fun s=>[(50,.ob (.val s.2.2.1) (Zy 70 2 ZbI s.2.2.2))]) (fun s=>s.1≤y.length∧(Zap x 0 y=s.2.2.2++Zap s.2.1 s.1 (y.drop s.1)∧(s.2.1).Perm x∧(s.2.2.2).length≤s.1)) (fun s=>y.length - s.1) ((0),(x),(.slice none 0 0),([])) hS ⟨rfl,rfl,rfl,rfl,rfl,rfl,rfl,trivial⟩ ⟨rfl,rfl,trivial⟩ ⟨Nat.zero_le _,⟨rfl,.refl _,Nat.zero_le _⟩⟩ ?_
 clear hS;intro s a w F hC hS
 obtain ⟨i,now,v,out⟩:=s
 try dsimp only at hC
 obtain ⟨F,hS⟩:=hS.nm [27,26,25,6,5,4,0] [50,0] rfl rfl
 try dsimp only at hS
 obtain ⟨hi,hq⟩:=hC
 obtain ⟨hst,hpm,hol⟩:=hq
 have hnl:now.length=x.length:=hpm.length_eq
 have hdn:=@ZZ _ _ y i
 refine wp_seq ?_
 refine Za hS (qL r2) hB [28,27,26,25,6,5,4,0] [50,0] rfl rfl fun a w F hS=>Zb (wp_seq ?_)
 refine Zd hS rfl (fun hc1=>?_) (fun hc1=>?_)
 ·skip
  have hil:i<y.length:=by simp at hc1;omega
  refine wp_skip (Zb (wp_seq (wp_block (wp_seq ?_))))
  refine Za hS (qM rfl rfl (qy 1 Tryz.underlying41 r2 (qf (oR false 1 .t) r1 qz (qN rfl rfl (qN rfl rfl qZ))))) hB [27,26,25,8,7,6,5,4,0] [50,0] rfl rfl fun a w F hS=>?_
  try simp only [Int.toNat_natCast] at hS
  refine Zb (wp_seq ?_)
  refine Za hS (qM rfl rfl (qM rfl rfl (qy 1 Tryz.underlying41 r2 (qf (oR false 1 .t) r1 qz (qM rfl rfl (qf (o_neq .t .t) r2 qz qZ)))))) hB [37,27,26,25,8,7,6,5,4,0] [50,0] rfl rfl fun a w F hS=>?_
  try simp only [Int.toNat_natCast] at hS
  refine Zb ?_
  refine Zd hS rfl (fun hc2=>?_) (fun hc2=>?_)
  ·skip
   have hne:¬ Go.Gm.nth now i=Go.Gm.nth y i:=by simpa using hc2
   have hst2:=Zf3 (to:=y.drop (i+1)) hne
   rw [← ZZ hil] at hst2
   have hpm2:=(Zb3 (place:=(i:Int)) (hpm.mem_iff.2 (hok.2.2.mem_iff.2 (ZP hil))) (by omega)).trans hpm
   obtain ⟨now2,hn2⟩:∃ z,z=(Zaa now (Go.Gm.nth y i) i).1:=⟨_,rfl⟩
   rw [← hn2] at hst2 hpm2
   refine wp_seq ?_
   refine Za hS (qM rfl rfl (qM rfl rfl (qM rfl rfl (qf (oP (ZjE now (Go.Gm.nth y i) i (by omega)) Tryz.func95 (Args.three .t .t .t)) r3 qz (qM rfl rfl (qf (o_extract .t rfl) r1 qz (qf (o_extract .t rfl) r1 qz (qN rfl rfl (qN rfl rfl qZ))))))))) hB [27,26,25,9,8,7,6,5,4,0] [50,0] rfl rfl fun a w F hS=>?_
   rw [← hn2] at hS
   refine Zb (wp_seq ?_)
   refine Za hS (qM rfl rfl (qN rfl rfl qZ)) hB [27,26,25,8,7,6,5,4,0] [50,0] rfl rfl fun a w F hS=>Zb ?_
   refine Zc hS (qM rfl rfl (qM rfl rfl (qM rfl rfl (qf (oB [(0,.tmp 47),(1,.tmp 48)] [.int .i64 0,.int .i64 0] [(0,1),(1,1)] (.one rfl .t one_int (by kernel_rfl) (.one rfl .t one_int (by kernel_rfl) .nil))) r2 qz (qf (Zj (sz:=2) (zs:=[.int .i64 0,.int .i64 0]) (r:=[(0,.tmp 49)]) (l:=[_,_]) Tryz.underlying65 (by kernel_rfl) (by kernel_rfl) (by kernel_rfl) (by kernel_rfl) rfl rfl (.agg rfl .t (by kernel_rfl) (by kernel_rfl) .nil) rfl) r1 qz (qf (o_append (sz:=2) (bs:=16) 50 (.mk' Tryz.underlying65 (by kernel_rfl) (by kernel_rfl)) (by intro x;rfl) .is (.arr (l':=[(⟨Go.Gm.nth y i,i⟩:Zcs)]) .t) (by simp only [List.length_append,List.length_cons,List.length_nil];omega) (by decide)) ⟨rfl,rfl,trivial⟩ ⟨rfl,trivial⟩ (qN rfl rfl qZ))))))) hB [27,26,25,6,5,4,0] [50,0] (fun _=>rfl) (fun _=>rfl) fun τ a w F hS=>?_
   try dsimp only [RS.sub,SF.sub,CF.sub,csub,Anc.sub,List.map,Zg,xL,xM,Nat.reduceAdd,xD,xE,xT,xU,xC,xN,zCF,rInt,ZbI] at hS
   generalize τ 51=v51 at hS
   refine Zh (Zb ?_)
   refine Za hS (qp r1 (qM rfl rfl qZ)) hB [27,26,25,6,5,4,0] [50,0] rfl rfl fun a w F hS=>Zb ?_
   replace hS:=hS.ent (i:=27) (s':=.pv (.int .i64 ((i+1:Nat):Int))) rfl (.int (Ze (by omega)))
   obtain ⟨F,hS⟩:=hS.nm [26,25,5,4,6,0,27] [0,50] rfl rfl
   exact ⟨((i+1),(now2),_,_),F,⟨by omega,⟨by first | (rw [hst,hst2];done) | (rw [hst,hst2];simp),hpm2,by first | omega | (simp only [List.length_append,List.length_cons,List.length_nil];omega)⟩⟩,hS,by omega⟩
  have hne:Go.Gm.nth now i=Go.Gm.nth y i:=by simpa using hc2
  have hst2:=Zd7 (to:=y.drop (i+1)) hne
  rw [← ZZ hil] at hst2
  have hpm2:=hpm
  obtain ⟨now2,hn2⟩:∃ z,z=now:=⟨_,rfl⟩
  rw [← hn2] at hS hst hst2 hpm2
  refine wp_skip (Zh (Zb ?_))
  refine Za hS (qp r1 (qM rfl rfl qZ)) hB [27,26,25,6,5,4,0] [50,0] rfl rfl fun a w F hS=>Zb ?_
  replace hS:=hS.ent (i:=27) (s':=.pv (.int .i64 ((i+1:Nat):Int))) rfl (.int (Ze (by omega)))
  obtain ⟨F,hS⟩:=hS.nm [26,25,5,4,6,0,27] [0,50] rfl rfl
  exact ⟨((i+1),(now2),_,_),F,⟨by omega,⟨by first | (rw [hst,hst2];done) | (rw [hst,hst2];simp),hpm2,by first | omega | (simp only [List.length_append,List.length_cons,List.length_nil];omega)⟩⟩,hS,by omega⟩
 have hil:i=y.length:=by simp at hc1;omega
 rw [hil,List.drop_length,Zap,List.append_nil] at hst
 have hm:Zae x y=(out,0):=by unfold Zae;rw [if_pos hok,hst]
 refine wp_exit (Zi (Zi (Zo (Zb (wp_seq ?_)))))
 refine Za hS (qM rfl rfl (qN rfl rfl (qI qZ))) hB [5,4] [50,0] rfl rfl fun a w F hS=>Zb (wp_ret ?_)
 obtain ⟨F,hS⟩:=hS.give 50 4 rfl rfl
 refine Zr hfr hS rfl (.tmp rfl (.tmp rfl .nil)) (.two (.sl (by rw [hm])) (.int (by rw [hm])))
theorem Zao.nth {l:List Int} (h:Zao l) {i:Nat} (hi:i<l.length):Go.Gm.nth l i≠0:=by
 have:=(h.1 _ (ZP hi)).1
 omega
theorem Zen:∀ (s:List Zcs) (l:List Int) (p:Zcs),Zbn l (s ++ [p])=(Zaa (Zbn l s) p.key p.val).1
 | [],l,p=>rfl
 | q :: s,l,p=>Zen s _ p
theorem ZfW:∀ (to now:List Int) (i:Int),∀ p ∈ Zap now i to,p.key ∈ to∧i≤p.val∧p.val<i+to.length
 | [],now,i,p,h=>by cases h
 | x :: to,now,i,p,h=>by
   have key:∀ now',p ∈ Zap now' (i+1) to→p.key ∈ x :: to∧i≤p.val∧p.val<i+(x :: to).length:=fun now' h=>by
     obtain ⟨h1,h2,h3⟩:=ZfW to now' (i+1) p h
     refine ⟨List.mem_cons_of_mem _ h1,by omega,?_⟩
     rw [List.length_cons];omega
   unfold Zap at h
   split at h
   · exact key _ h
   · rcases List.mem_cons.1 h with rfl | h
     · refine ⟨List.mem_cons_self,Int.le_refl _,?_⟩
       rw [List.length_cons]
       show i<_
       omega
     · exact key _ h
theorem Zcw:∀ (s:List Zcs) (l:List Int),(∀ p ∈ s,p.key ∈ l∧0≤p.val∧p.val<l.length)→(Zbn l s).Perm l
 | [],l,_=>.refl _
 | p :: s,l,h=>by
   obtain ⟨h1,h2,h3⟩:=h p (by simp)
   have hp:=Zb3 h1 ⟨h2,h3⟩
   refine (Zcw s _ fun q hq=>?_).trans hp
   obtain ⟨k1,k2,k3⟩:=h q (by simp [hq])
   exact ⟨hp.mem_iff.2 k1,k2,by rw [hp.length_eq];exact k3⟩
theorem Ze4:∀ (to now:List Int) (i:Nat),now.drop i=to→Zap now i to = []
 | [],now,i,_=>rfl
 | x :: to,now,i,h=>by
   have hi:i<now.length:=by
     rcases Nat.lt_or_ge i now.length with h1 | h1
     · exact h1
     · rw [List.drop_eq_nil_of_le h1] at h;cases h
   rw [ZZ hi] at h
   injection h with h1 h2
   rw [Zd7 h1]
   exact Ze4 to now (i+1) h2
structure Zo0 (x y:List Int) (s:List Zcs):Prop where
 keys:(s.map Zcs.key).Nodup
 done:Zbn x s=y
 each:∀ i,i<s.length→Zaa (Zbn x (s.take i)) (Go.Gm.nth s i).key (Go.Gm.nth s i).val=(Zbn x (s.take (i+1)),0)
 none:(s.length:Int)=0 ↔ x=y
 len:∀ i,(Zbn x (s.take i)).length=x.length
 short:s.length≤y.length
theorem steps_facts {x y:List Int} {s:List Zcs} (h:Zbo x y) (hs:s=Zap x 0 y):Zo0 x y s:=by
 have hv:∀ p ∈ s,p.key ∈ x∧0≤p.val∧p.val<x.length:=fun p hp=>by
   rw [hs] at hp
   obtain ⟨h1,h2,h3⟩:=ZfW y x 0 p hp
   exact ⟨h.2.2.mem_iff.2 h1,h2,by rw [h.2.2.length_eq];omega⟩
 have hvt:∀ i,∀ p ∈ s.take i,p.key ∈ x∧0≤p.val∧p.val<x.length:=fun i p hp=>hv p (List.mem_of_mem_take hp)
 have hd:Zbn x s=y:=by
   have:=Zdj y x [] h.2.2 rfl h.1.2
   rw [hs];exact this
 obtain ⟨ks,k1,k2⟩:=Zdg y x 0
 refine ⟨by rw [hs,k2];exact h.2.1.2.sublist k1,hd,fun i hi=>?_,⟨fun h0=>?_,fun e=>?_⟩,fun i=>(Zcw _ _ (hvt i)).length_eq,?_⟩
 · obtain ⟨h1,h2,h3⟩:=hv _ (ZP hi)
   have hp:=Zcw _ _ (hvt i)
   rw [Zt hi,Zen,Zhn (hp.mem_iff.2 h1) ⟨h2,by rw [hp.length_eq];exact h3⟩]
 · have:s = []:=List.eq_nil_of_length_eq_zero (by omega)
   rw [this] at hd;exact hd
 · subst e
   rw [hs,show Zap x 0 x = [] from Ze4 x x 0 rfl];rfl
 · have:=k1.length_le
   rw [← k2,List.length_map] at this
   rw [hs];exact this
def Zak (t:TxD):Bool:=t.ops.any fun o=>o.read
theorem Zdz (t:TxD):(!decide (t=bareT t))=Zak t:=by
 unfold Zak
 rw [Bool.eq_iff_iff]
 simp only [Bool.not_eq_true',decide_eq_false_iff_not,List.any_eq_true]
 constructor
 · intro h
   refine Classical.byContradiction fun h2=>h ?_
   obtain ⟨a,b,c⟩:=t
   unfold bareT
   congr 1
   symm
   rw [List.filter_eq_self]
   intro o ho
   cases hr:o.read with
   | false=>rfl
   | true=>exact absurd ⟨o,ho,hr⟩ h2
 · rintro ⟨o,ho,hr⟩ e
   have:o ∈ (bareT t).ops:=by rw [← e];exact ho
   unfold bareT at this
   have:=(List.mem_filter.1 this).2
   rw [hr] at this;cases this
def Zdt (t:TxD):CmdD:={zeroC 1 with tx:=bareT t}
def ZeI (t:TxD):CmdD:={zeroC 2 with tx:=t}
def Zna (k:Int) (p:Zcs):CmdD:={zeroC 5 with key:=k,id:=p.key,place:=p.val}
def ZbM (o:OrdD):List CmdD:=(Zae (o.txs.mergeSort leI) o.txs).1.map (Zna o.key)
def ZI (g:HistD):List CmdD:=if ZB g then (g.txs.map Zdt++(g.txs.filter Zak).map ZeI)++g.orders.flatMap ZbM else []
def Zad (g:HistD) (c:CmdD):HistD×Int:=if c.kind=1 then Z9 g c.tx else if c.kind=2 then ZaA g c.tx else if c.kind=3 then Z1 g c.id else if c.kind=4 then ZaV g c.order else if c.kind=5 then ZeA g c.key c.id c.place else (zeroH,11)
def Zbm:HistD→List CmdD→Nat→HistD×Nat×Int
 | g,[],i=>(g,i,0)
 | g,c :: l,i=>if (Zad g c).2≠0 then (zeroH,i,(Zad g c).2) else Zbm (Zad g c).1 l (i+1)
theorem ZiI {g0 g:HistD} {l:List CmdD} {i:Nat} (h:Zbm g0 l 0=Zbm g (l.drop i) i) (hi:i=l.length):Zbm g0 l 0=(g,l.length,0):=by
 rw [h,hi,List.drop_length];rfl
theorem Zia {g0 g:HistD} {l:List CmdD} {i:Nat} (h:Zbm g0 l 0=Zbm g (l.drop i) i) (hi:i<l.length) (h2:(Zad g (Go.Gm.nth l i)).2≠0):Zbm g0 l 0=(zeroH,i,(Zad g (Go.Gm.nth l i)).2):=by
 rw [h,ZZ hi,Zbm,if_pos h2]
theorem Zgv {g0 g:HistD} {l:List CmdD} {i:Nat} (h:Zbm g0 l 0=Zbm g (l.drop i) i) (hi:i<l.length) (h2:¬ (Zad g (Go.Gm.nth l i)).2≠0):Zbm g0 l 0=Zbm (Zad g (Go.Gm.nth l i)).1 (l.drop (i+1)) (i+1):=by
 rw [h,ZZ hi,Zbm,if_neg h2]
def Zbl (c:CmdD):Prop:=c.tx.ops.length≤24∧c.order.txs.length≤24
instance (c:CmdD):Decidable (Zbl c):=by unfold Zbl;exact inferInstance
def Zdd (l:List CmdD):Prop:=l.length≤40 ∧ ∀ c ∈ l,Zbl c
instance (l:List CmdD):Decidable (Zdd l):=by unfold Zdd;exact inferInstance
theorem LightC.at {l:List CmdD} (h:Zdd l) {i:Nat} (hi:i<l.length):Zbl (Go.Gm.nth l i):=h.2 _ (ZP hi)
def toE (c:CmdD):EdD:=if c.kind=1 then ⟨0,c.tx,⟨0,[]⟩,0⟩ else if c.kind=2 then ⟨2,c.tx,⟨0,[]⟩,0⟩ else if c.kind=3 then ⟨1,⟨c.id,false,[]⟩,⟨0,[]⟩,0⟩ else if c.kind=4 then ⟨3,zeroT,c.order,0⟩ else ⟨4,⟨c.id,false,[]⟩,⟨c.key,[]⟩,c.place⟩
theorem Zpm {g:HistD} {c:CmdD} (h:(Zad g c).2=0):Zad g c=doH g (toE c):=by
 unfold Zad at h ⊢
 unfold toE
 by_cases k1:c.kind=1
 · simp only [if_pos k1];rfl
 · by_cases k2:c.kind=2
   · simp only [if_neg k1,if_pos k2];rfl
   · by_cases k3:c.kind=3
     · simp only [if_neg k1,if_neg k2,if_pos k3];rfl
     · by_cases k4:c.kind=4
       · simp only [if_neg k1,if_neg k2,if_neg k3,if_pos k4];rfl
       · by_cases k5:c.kind=5
         · simp only [if_neg k1,if_neg k2,if_neg k3,if_neg k4,if_pos k5];rfl
         · simp only [if_neg k1,if_neg k2,if_neg k3,if_neg k4,if_neg k5] at h;exact absurd h (by decide)
theorem Zl5 {c:CmdD} (h:Zbl c):ZfE (toE c):=by
 unfold toE ZfE
 obtain ⟨h1,h2⟩:=h
 split
 · exact ⟨h1,Nat.zero_le _⟩
 · split
   · exact ⟨h1,Nat.zero_le _⟩
   · split
     · exact ⟨Nat.zero_le _,Nat.zero_le _⟩
     · split
       · exact ⟨Nat.zero_le _,h2⟩
       · exact ⟨Nat.zero_le _,Nat.zero_le _⟩
def Zl8 (n:Nat) (g:HistD):Prop:=ZB g∧g.txs.length≤n ∧ ∀ t ∈ g.txs,t.ops.length≤24
theorem Znu:∀ l:List TxD,(∀ t ∈ l,t.ops.length≤24)→(Zaw l).length≤24*l.length:=fun l h=>by
 unfold Zaw
 refine Nat.le_trans (Zcv _) ?_
 induction l with
 | nil=>simp
 | cons t l ih=>
   have h1:=ih fun x hx=>h x (by simp [hx])
   have h2:=h t (by simp)
   have h3:=ZbG t
   by_cases hd:t.done=true
   · rw [List.filter_cons_of_pos (by simpa using hd),List.flatMap_cons,List.length_append,List.length_cons]
     omega
   · rw [List.filter_cons_of_neg (by simpa using hd),List.length_cons]
     omega
theorem Zl8.fit {n:Nat} {g:HistD} (h:Zl8 n g):Fit n g:=by
 obtain ⟨hr,h1,h2⟩:=h
 refine ⟨⟨h1,h2⟩,?_,fun o ho=>?_⟩
 · have:=Znu g.txs h2
   rw [hr.2.2.1]
   exact Nat.le_trans this (Nat.mul_le_mul_left _ h1)
 · obtain ⟨i,hi,e⟩:=List.getElem_of_mem ho
   have:=(hr.2.2.2 i hi).2.length_eq
   rw [Zq hi,e] at this
   rw [this]
   exact Nat.le_trans (Zbh _ _) h1
theorem Fit.small40 {n:Nat} {g:HistD} (h:Fit n g) (hn:n≤41):ZaR g:=by
 obtain ⟨⟨h1,h2⟩,h3,h4⟩:=h
 exact ⟨⟨by omega,fun t ht=>by have:=h2 t ht;omega⟩,by omega,fun o ho=>by have:=h4 o ho;omega⟩
theorem Zl8.edit {n:Nat} {g:HistD} {c:CmdD} (h:Zl8 n g) (hn:n≤41) (hc:Zbl c) (h0:¬ (Zad g c).2≠0):Zl8 (n+1) (Zad g c).1:=by
 have h0:=Decidable.not_not.1 h0
 have e:=Zpm h0
 rw [e] at h0 ⊢
 have hf:=h.fit.doH (Zl5 hc)
 exact ⟨ZnS (h.fit.small40 hn) h0,hf.1.1,hf.1.2⟩
theorem Zl8.zero:Zl8 0 zeroH:=⟨ZkU,Nat.le_refl _,fun t ht=>by cases ht⟩
theorem Zh9 {l:List Int} (h:l.Nodup):ZaO l=l.mergeSort leI:=by
 have hp:=List.mergeSort_perm l leI
 have hs:List.Pairwise (fun x y=>x≤y) (l.mergeSort leI):=by
   have:=List.pairwise_mergeSort (le:=leI) (fun a b c h1 h2=>by simp [leI] at *;omega) (fun a b=>by simp [leI];omega) l
   exact this.imp fun h=>by simpa [leI] using h
 have hi:Zht (l.mergeSort leI):=by
   have hn:(l.mergeSort leI).Nodup:=hp.nodup_iff.2 h
   exact (hs.and hn).imp fun h=>by have:=h.1;have:=h.2;omega
 have hk:=ZaF l
 have h1:=ZfF hk.1 hi fun x hx=>hp.mem_iff.2 ((hk.2 x).1 hx)
 have h2:=ZfF hi hk.1 fun x hx=>(hk.2 x).2 (hp.mem_iff.1 hx)
 exact h1.2 (Nat.le_antisymm h1.1 h2.1)
theorem Zjb {g:HistD} (h:ZB g) {i:Nat} (hi:i<g.orders.length):(Go.Gm.nth g.orders i).txs.Nodup:=by
 have:=(h.2.2.2 i hi).2
 exact this.nodup_iff.2 (Zcn (ZR h).1 _)
theorem Zdf (x y:List Int):(Zae x y).1.length≤y.length:=by
 unfold Zae
 split
 · rename_i h;exact (steps_facts h rfl).short
 · simp
theorem ZhS (o:OrdD):(ZbM o).length≤o.txs.length:=by
 unfold ZbM;rw [List.length_map];exact Zdf _ _
theorem Zd6 {os:List OrdD} (h:Zbq os) (i:Nat):((os.take i).flatMap ZbM).length≤1000*i:=by
 induction i with
 | zero=>simp
 | succ i ih=>
   by_cases hi:i<os.length
   · rw [Zt hi,List.flatMap_append,List.length_append]
     have h1:=ZhS (Go.Gm.nth os i)
     have h2:=h.at hi
     simp only [List.flatMap_cons,List.flatMap_nil,List.append_nil]
     omega
   · rw [List.take_of_length_le (by omega)]
     rw [List.take_of_length_le (by omega)] at ih
     omega
theorem Zer {g:HistD} (h:ZaR g):(ZI g).length≤1002000:=by
 unfold ZI
 split
 · rw [List.length_append,List.length_append,List.length_map,List.length_map]
   have h1:=h.1.1
   have h2:=h.2.1
   have h3:=Zd6 h.2 g.orders.length
   rw [List.take_length] at h3
   have h4:=List.length_filter_le Zak g.txs
   omega
 · simp
theorem Zc8 {g:HistD} {c:CmdD} (h:c ∈ ZI g):c.order.txs = []:=by
 unfold ZI at h
 split at h
 · rcases List.mem_append.1 h with h | h
   · rcases List.mem_append.1 h with h | h
     · obtain ⟨t,_,rfl⟩:=List.mem_map.1 h;rfl
     · obtain ⟨t,_,rfl⟩:=List.mem_map.1 h;rfl
   · obtain ⟨o,_,h⟩:=List.mem_flatMap.1 h
     unfold ZbM at h
     obtain ⟨p,_,rfl⟩:=List.mem_map.1 h;rfl
 · cases h
theorem ZbA {g:HistD} (h:ZB g):ZI g=(g.txs.map Zdt++(g.txs.filter Zak).map ZeI)++g.orders.flatMap ZbM:=if_pos h
theorem Zcm {g:HistD} (h:¬ ZB g):ZI g = []:=if_neg h
theorem Zes {α:Type} [Inhabited α] {β:Type} {f:α→Bool} {m:α→β} {l:List α} {i:Nat} (h:i<l.length) (b:Bool) (hb:f (Go.Gm.nth l i)=b):((l.take (i+1)).filter f).map m=((l.take i).filter f).map m++if b=true then [m (Go.Gm.nth l i)] else []:=by
 rw [Zt h,List.filter_append,List.map_append]
 subst hb
 by_cases e:f (Go.Gm.nth l i)=true
 · rw [if_pos e,List.filter_cons_of_pos e];rfl
 · rw [if_neg e,List.filter_cons_of_neg e];rfl
theorem Zb4 {α β:Type} [Inhabited α] {m:α→β} {l:List α} {i:Nat} (h:i<l.length):(l.take (i+1)).map m=(l.take i).map m ++ [m (Go.Gm.nth l i)]:=by rw [Zt h,List.map_append];rfl
end Go.Proofs.YtjhapicamnijnaaGreat
namespace Go.Proofs.YtjhapicamnijnaaGreat
open Go Go.Gm
set_option linter.unusedVariables false
set_option linter.unusedSimpArgs false
set_option maxHeartbeats 4000000
set_option maxRecDepth 8000
open Go.RowKit Go.Maps Go.Sort Go.Shelf Go.ChangeMaps Go.MapKept
def Zns (x:Int):List Value:=[.int .i64 x]
def Zqb (x:Int):Value:=.int .i64 x
theorem Zno (x:Int):∀ u ∈ [Value.int .i64 x],u.oneCell' = true:=by simp [Value.oneCell']
theorem Zmi {w:World} {y:Ys} : ∀ {l:List Int},(∀ x ∈ l,inR .i64 x)→PVs (l.flatMap rInt) (l.flatMap Zns) w y
 | [],_=>trivial
 | x :: l,h=>⟨⟨rfl,rfl,h x (by simp)⟩,Zmi fun z hz=>h z (by simp [hz])⟩
open Go.RowKit Go.Maps Go.Sort Go.Shelf
def Zqo {α:Type} (F:Fence) (n:Nat) (P:Program) (g:Nat) (lb:Array Value) (enc:α→Value) (S:List α→Prop) (N:Nat) (w:World):Prop:=
 ∀ (l:Nat) (J:List α→World→Prop) (W:World),Below w.heap.size w W→AbidesFrom W.heap.size J→(∀ pre W1,J pre W1→Below w.heap.size w W1) →
   (∀ pre x W1,J pre W1→pre.length<N→YieldAt F (n - 1) P l #[enc x] W1 fun e W'=>e = .returned (.bool true)∧J (pre ++ [x]) W' ∧ KeepsWalks W1 W') →
   J [] W→CallsIn F n P g (#[.func (.yield l) #[] #[]] ++ lb) W fun e W'=>(∃ v,e = .returned v) ∧ ∃ xs,S xs∧J xs W'
set_option maxRecDepth 100000 in
set_option maxHeartbeats 1000000 in
theorem ZoM (F:Fence) (n:Nat) (h10:F.fn 168) (hro:F.round=none) (hn:1≤n) (l Bm boff cap:Nat) (ad:Option Addr) (w:World) (xs:List Int) (hx:xs.length≤9223372036854775807)
   (hc:∀ j (hj:j<xs.length),∃ b off,ad=some ⟨b,off,none⟩∧b<w.heap.size∧w.cell? ⟨b,off+j,none⟩ = some (.int .i64 xs[j]))
   (J:List Int→World→Prop) (hB:∀ pre W1,J pre W1→Below w.heap.size w W1)
   (hY:∀ pre x W,J pre W→pre.length<xs.length→YieldAt F (n - 1) Tryz.prog l #[.int .i64 x] W fun e W'=>e = .returned (.bool true)∧J (pre ++ [x]) W' ∧ KeepsWalks W W')
   (W:World) (hm:W.cell? ⟨Bm,boff,none⟩ = some (.slice ad xs.length cap)) (h0:J [] W) :
   CallsIn F n Tryz.prog 168 #[.func (.yield l) #[] #[],.pointer (some ⟨Bm,boff,none⟩)] W fun e W'=>(∃ v,e = .returned v) ∧ ∃ ss:List Int,ss=xs∧J ss W':=by
 refine callsIn_of_wp Tryz.func168 rfl h10 ?_ hro
 simp only [Tryz.ntmps168,List.size_toArray,List.length_cons,List.length_nil,Nat.reduceAdd,Nat.reduceSub,Array.replicate_succ,Array.replicate_zero,List.push_toArray,List.append_toArray,List.nil_append,List.cons_append]
 gi_wp2
 gi_loopg [4,7] xs.length (fun g s4 s7 wr=>∃ k:Nat,k≤xs.length∧xs.length - k≤g∧s7 = .int .i64 k∧J (xs.take k) wr)
 case atStart=>exact ⟨0,Nat.zero_le _,by omega,rfl,h0⟩
 case round=>
   obtain ⟨k,hk,hg,rfl,hJs⟩:=hrel
   by_cases hlt:k<xs.length
   · obtain ⟨b,off,rfl,hbl,hcell⟩:=hc k hlt
     have hbel:=hB _ _ hJs
     have g1:wr.cell? ⟨b,off+k,none⟩ = some (.int .i64 xs[k]):=(World.cell?_of_block (a:=⟨b,off+k,none⟩) (hbel.block b hbl)).trans hcell
     obtain ⟨fn,tmps,assign,body,hy,hR⟩:=hY (xs.take k) xs[k] wr hJs (by rw [List.length_take];omega)
     have hts:xs.take (k+1)=xs.take k ++ [xs[k]]:=List.take_succ_eq_append_getElem hlt
     generalize xs[k] = x at *
     have A:Aside (∀ j (hj:j<xs.length),∃ b' off',(some ⟨b,off,none⟩:Option Addr)=some ⟨b',off',none⟩∧b' < w.heap.size∧w.cell? ⟨b',off' + j,none⟩ = some (.int .i64 xs[j])):=hc
     clear hc hcell
     gi_wp2
     refine hR.mono ?_
     rintro e9 W3 ⟨rfl,hJ3,hk3⟩
     gi_wp2
     gi_roundg (xs.length - (k+1))
     case measure=>omega
     case rel=>exact ⟨k+1,by omega,by omega,by go_num,by rw [hts];exact hJ3⟩
   · have:k=xs.length:=by omega
     subst this
     clear hc
     gi_wp2
     go_end0
     exact ⟨⟨_,rfl⟩,xs,rfl,by rwa [List.take_length] at hJs⟩
end Go.Proofs.YtjhapicamnijnaaGreat
namespace Go.Proofs.YtjhapicamnijnaaGreat
open Go Go.Gm
set_option linter.unusedVariables false
set_option linter.unusedSimpArgs false
set_option maxHeartbeats 4000000
set_option maxRecDepth 8000
open Go.RowKit Go.Maps Go.Sort Go.Shelf Go.ChangeMaps Go.MapKept
theorem ZmG (w:World) (l:List Value) (t:TypeId):∀ j u,l[j]? = some u→(w.alloc (.cells l.toArray t)).cell? ((⟨w.heap.size,0,none⟩:Addr).add j)=some u:=by
 intro j u hj
 rw [show (⟨w.heap.size,0,none⟩:Addr).add j = ⟨w.heap.size,j,none⟩ from by cases j <;> simp [Addr.add]]
 rw [Za0 (vs:=l.toArray) (T:=t) (fr:=(0,0)) (World.alloc_heap_new w _)]
 simpa using hj
def Zec : Code := (Code.region 2 #[{ dst := some 5, op := Op.assign (Operand.tmp 7), type := 3, pos := "iter.go:51", after := #[], guard := none }] false)
def ZgU : Code := (Code.block 1 (Code.region 3 #[{ dst := some 8, op := Op.load 41 (Operand.tmp 2), type := 41, pos := "iter.go:52", after := #[], guard := none }, { dst := some 9, op := Op.move (Operand.tmp 5), type := 3, pos := "iter.go:52", after := #[], guard := none }, { dst := some 10, op := Op.buildSlice 41 1 #[(0, Operand.tmp 9)], type := 41, pos := "iter.go:52", after := #[{ on := 1, ground := Ground.data }], guard := none }, { dst := some 11, op := Op.call { callee := Callee.builtin Builtin.append, args := #[Operand.tmp 8, Operand.tmp 10], argTypes := #[41, 41] }, type := 41, pos := "iter.go:52", after := #[{ on := 0, ground := Ground.data }, { on := 2, ground := Ground.data }], guard := none }, { dst := none, op := Op.store 41 (Operand.tmp 2) (Operand.tmp 11), type := 0, pos := "iter.go:52", after := #[{ on := 3, ground := Ground.data }, { on := 3, ground := Ground.chain }, { on := 0, ground := Ground.phase }, { on := 1, ground := Ground.phase }, { on := 2, ground := Ground.phase }, { on := 3, ground := Ground.phase }], guard := none }] false))
def kcApRec (fn:FuncId) (sv:Value) (Bs D:Nat) (st:LoopState) (pend:Option Code):Loop:=
 { state:=st,pending:=pend,fn,tmps:=#[.slice none 0 0,sv,.pointer (some ⟨Bs,0,none⟩),undef,.slice none 0 0,undef,sv,undef,undef,undef,undef,undef,undef],params:=#[7],assign:=Zec,body:=ZgU,defers:=D }
structure Zh1 (w0:World) (fn:FuncId) (sv:Value) (Bs l D:Nat) (ss:List Int) (W:World):Prop where
 box:∃ v,W.heap[Bs]? = some (.cells #[v] 41 (0,0))∧W.ownsRow w0.heap.size 3 1 v ss.length (ss.flatMap Zns)∧(v = .slice none 0 0 ↔ ss = [])
 L:W.heap[l]? = some (.loop (kcApRec fn sv Bs D .ready none))
 K:W.heap[D]? = some (.deferred (some []))
 below:Below w0.heap.size w0 W
theorem Zjp (w0:World) (fn:FuncId) (sv:Value) (Bs l D B:Nat) (hB:w0.heap.size≤B):AbidesFrom B (Zh1 w0 fn sv Bs l D):=fun s W W' row h hg hrow=>by
 have hrow':∀ r,row=some r → ∃ o:Obj,W.heap[r]? = some o∧o.isWalk=true:=fun r e=>(hrow r e).2
 obtain ⟨v,hv,hr,hn⟩:=h.box
 exact ⟨⟨v,(grownBy_keeps hg hrow' hv rfl).trans hv,ownsRow_abides_a hr hg hrow',hn⟩,(grownBy_keeps hg hrow' h.L rfl).trans h.L,(grownBy_keeps hg hrow' h.K rfl).trans h.K,
   h.below.grown hg h.below.size (fun k e=>Nat.le_trans hB (hrow k e).1)⟩
set_option maxRecDepth 100000 in
set_option maxHeartbeats 2000000 in
theorem ZmR (F:Fence) (m:Nat) (w0:World) (fn:FuncId) (hfn:F.fn fn) (sv:Value) (Bs l D:Nat) (hBl:Bs≠l) (hDl:D≠l) (hDB:D≠Bs) (h0B:w0.heap.size≤Bs) (h0l:w0.heap.size≤l)
   (N:Nat) (hN:N≤maxLen) (hNb:N*8≤140737488355328) (ss:List Int) (x:Int) (W:World) (h:Zh1 w0 fn sv Bs l D ss W) (hlen:ss.length<N) :
   YieldAt F m Tryz.prog l #[(.int .i64 x)] W fun e W'=>e = .returned (.bool true)∧Zh1 w0 fn sv Bs l D (ss ++ [x]) W' ∧ KeepsWalks W W':=by
 have hne:41≠3:=by decide
 obtain ⟨i0,hi,hz0,hz1,hz2⟩:=info_parts (show (Tryz.prog.info? 3).map (fun i=>(i.zero,i.size,i.bytes))=some (some (.int .i64 0),1,8) from by kernel_rfl)
 obtain ⟨v,hv,hrow,_⟩:=h.box
 refine ⟨fn,#[.slice none 0 0,sv,.pointer (some ⟨Bs,0,none⟩),undef,.slice none 0 0,undef,sv,(.int .i64 x),undef,undef,undef,undef,undef],Zec,ZgU,by simpa [kcApRec] using run_yield (P:=Tryz.prog) (args:=#[(.int .i64 x)]) h.L rfl,roundIn_of_wpIn hfn ?_⟩
 have hl:l<W.heap.size:=(Array.getElem?_eq_some_iff.1 h.L).1
 have hbr:=run_beginRound (P:=Tryz.prog) h.L rfl
 obtain ⟨W2,hW2⟩:∃ W2,W.putObj l (.loop { kcApRec fn sv Bs D .ready none with state:=.busy })=W2:=⟨_,rfl⟩
 rw [hW2] at hbr
 have hg2:W.grownBy W2 (some l):=by rw [← hW2];exact grownBy_putObj_a _ _ _
 have hk2:KeepsWalks W W2:=by rw [← hW2];exact KeepsWalks.putObj _ h.L rfl
 have hv2:W2.heap[Bs]? = some (.cells #[v] 41 (0,0)):=by rw [← hW2];exact (World.putObj_heap_other hBl).trans hv
 have hK2:W2.heap[D]? = some (.deferred (some [])):=by rw [← hW2];exact (World.putObj_heap_other hDl).trans h.K
 have hL2:W2.heap[l]? = some (.loop { kcApRec fn sv Bs D .ready none with state:=.busy }):=by rw [← hW2];exact World.putObj_heap_same hl
 have hrow2:W2.ownsRow w0.heap.size 3 1 v ss.length (ss.flatMap Zns):=hrow.kept hg2 (ownsRow_ne_a hrow h.L (fun cur e=>by first | cases e | exact hne (Obj.cells.inj e).2.1))
 have hb2:Below w0.heap.size w0 W2:=h.below.grown hg2 h.below.size (fun k e=>by cases e;exact h0l)
 obtain ⟨hc2,hf2⟩:=cell_of_box_a hv2
 have hBlt:Bs<W2.heap.size:=(Array.getElem?_eq_some_iff.1 hv2).1
 have hl2:l<W2.heap.size:=(Array.getElem?_eq_some_iff.1 hL2).1
 have hDlt:D<W2.heap.size:=(Array.getElem?_eq_some_iff.1 hK2).1
 have ne_of:∀ {j:Nat} {o:Obj},W2.heap[j]? = some o→(∀ cur,o ≠ .cells cur 3 (0,0))→some j≠v.ownBlock:=fun hj hno=>by
   rcases ownsRow_ne_a hrow2 hj hno with e | e
   · rw [e];simp
   · exact fun e'=>e e'.symm
 clear hW2
 unfold Zec
 gi_wp2_with gi_round_op_a
 unfold ZgU
 gi_wp2_with (first
   | (gi_at_builtin;refine wpListIn_append_own _ rfl _ _ 41 rfl w0.heap.size 3 i0 (.int .i64 0) 1 8 Tryz.underlying41 hi hz0 hz1 hz2 rfl (by decide) _ _ _ rfl (hrow2.alloc _) ⟨W2.heap.size,0,none⟩ 1 1 ([.int .i64 x]) rfl rfl (ZmG _ _ _) (Zno x) (by omega) (by omega) (by have:=hb2.size;simp;omega) ?_;intro v' w3 hown' hg3 hnil3
      have hv3:w3.heap[Bs]? = some (.cells #[v] 41 (0,0)):=(hg3.block Bs (by simp;omega) (ne_of hv2 (fun cur e=>by first | cases e | exact hne (Obj.cells.inj e).2.1))).trans ((Below.heap_alloc _ _ Bs hBlt).trans hv2)
      obtain ⟨hc3,hf3⟩:=cell_of_box_a hv3
      obtain ⟨g',cap',cur',rfl,hbase',hgb',hr1,hr2,hr3,hr4⟩:∃ g' cap' cur',v' = .slice (some ⟨g',0,none⟩) (ss.length+1) cap' ∧ w0.heap.size≤g' ∧ w3.heap[g']? = some (.cells cur' 3 (0,0))∧ss.length+1≤cap' ∧ cap' ≤ maxLen∧cur'.size=cap' * 1∧cur'.toList.take ((ss.length+1)*1)=ss.flatMap Zns ++ [.int .i64 x]:=by
        rcases hown'.2 with ⟨_,h0⟩ | h'
        · exact absurd h0 (by omega)
        · exact h'
      go_frame)
   | gi_round_op_a)
 have hg3':(W2.alloc (.cells ([.int .i64 x]).toArray 3)).grownBy w3 v.ownBlock:=hg3
 have hL3:w3.heap[l]? = some (.loop { kcApRec fn sv Bs D .ready none with state:=.busy }):=(hg3'.block l (by simp;omega) (ne_of hL2 (fun cur e=>by first | cases e | exact hne (Obj.cells.inj e).2.1))).trans ((Below.heap_alloc _ _ l hl2).trans hL2)
 have hK3:w3.heap[D]? = some (.deferred (some [])):=(hg3'.block D (by simp;omega) (ne_of hK2 (fun cur e=>by first | cases e | exact hne (Obj.cells.inj e).2.1))).trans ((Below.heap_alloc _ _ D hDlt).trans hK2)
 obtain ⟨w4,hw4⟩:∃ w4,w3.setCell ⟨Bs,0,none⟩ (.slice (some ⟨g',0,none⟩) (ss.length+1) cap')=w4:=⟨_,rfl⟩
 rw [hw4]
 have hg4:w3.grownBy w4 (some Bs):=by rw [← hw4];exact grownBy_setCell0_a _ _ _
 have hv4:w4.heap[Bs]? = some (.cells #[.slice (some ⟨g',0,none⟩) (ss.length+1) cap'] 41 (0,0)):=by rw [← hw4];exact heap_setCell_box_a _ hv3
 have hL4:w4.heap[l]? = some (.loop { kcApRec fn sv Bs D .ready none with state:=.busy }):=(hg4.block l (Array.getElem?_eq_some_iff.1 hL3).1 (fun e=>hBl (by cases e;rfl))).trans hL3
 have hK4:w4.heap[D]? = some (.deferred (some [])):=(hg4.block D (Array.getElem?_eq_some_iff.1 hK3).1 (fun e=>hDB (by cases e;rfl))).trans hK3
 have hrow4:=hown'.kept hg4 (ownsRow_ne_a hown' hv3 (fun cur e=>by first | cases e | exact hne (Obj.cells.inj e).2.1))
 have hl4:l<w4.heap.size:=(Array.getElem?_eq_some_iff.1 hL4).1
 have hb3:Below w0.heap.size w0 w3:=(hb2.alloc hb2.size _).grown hg3' (by have:=hb2.size;simp;omega) (fun k e=>(hrow2.lt k e).1)
 have hb4:Below w0.heap.size w0 w4:=hb3.grown hg4 hb3.size (fun k e=>by cases e;exact h0B)
 have hk4:KeepsWalks W w4:=((hk2.trans (KeepsWalks.alloc _ _)).trans (KeepsWalks.of_grownBy hg3' (ownsRow_not_walk_a (hrow2.alloc _)))).trans (by rw [← hw4];exact KeepsWalks.setCell _ _ _)
 clear hw4
 refine ⟨_,_,run_endRound none hL4,rfl,⟨⟨_,(World.putObj_heap_other hBl).trans hv4,?_,by simp⟩,World.putObj_heap_same hl4,(World.putObj_heap_other hDl).trans hK4,hb4.grown (grownBy_putObj_a _ _ _) hb4.size (fun k e=>by cases e;exact h0l)⟩,hk4.trans (KeepsWalks.putObj _ hL4 rfl)⟩
 have:=hrow4.kept (grownBy_putObj_a w4 l (.loop { { kcApRec fn sv Bs D .ready none with state:=.busy } with state:=if (none:Option Code).isNone then .ready else .done,pending:=none })) (ownsRow_ne_a hrow4 hL4 (fun cur e=>by first | cases e | exact hne (Obj.cells.inj e).2.1))
 rw [List.flatMap_append,show [x].flatMap Zns = [.int .i64 x] from rfl,List.length_append]
 simpa using this
set_option maxRecDepth 100000 in
set_option maxHeartbeats 2000000 in
theorem Zge (F:Fence) (n:Nat) (h11:F.fn 205) (hro:F.round=none) (hn:2≤n) (g:Nat) (lb:Array Value) (hFg:F.fn g) (eg:∀ args w,(callFunc g args).run Tryz.prog w = .ok (.enter g args) w)
   (S:List Int→Prop) (N:Nat) (hN:N≤maxLen) (hNb:N*8≤140737488355328) (w:World) (hseq:Zqo F (n - 1) Tryz.prog g lb Zqb S N w) :
   CallsIn F n Tryz.prog 205 #[.slice none 0 0,.func (.func g) #[] lb] w fun e w'=>∃ (v:Value) (ss:List Int),e = .returned v∧S ss∧w'.ownsRow w.heap.size 3 1 v ss.length (ss.flatMap Zns)∧(v = .slice none 0 0 ↔ ss = [])∧Below w.heap.size w w':=by
 have h1:1≤n:=by omega
 have hne:41≠3:=by decide
 refine callsIn_of_wp_marks Tryz.func205 rfl h11 ?_ hro
 simp only [Tryz.ntmps205,List.size_toArray,List.length_cons,List.length_nil,Nat.reduceAdd,Nat.reduceSub,Array.replicate_succ,Array.replicate_zero,List.push_toArray,List.append_toArray,List.nil_append,List.cons_append]
 gi_wp2
 refine wpIn_rangeFunc ?_
 intro fn hfn
 rw [hro]
 obtain ⟨W0,hW0⟩:∃ W0,w.alloc (.cells #[.slice none 0 0] 41)=W0:=⟨_,rfl⟩
 have hs0:W0.heap.size=w.heap.size+1:=by rw [← hW0];simp
 have hv0:W0.heap[w.heap.size]? = some (.cells #[.slice none 0 0] 41 (0,0)):=by rw [← hW0];exact World.alloc_heap_new w _
 have hb0:Below w.heap.size w W0:=by rw [← hW0];exact (Below.refl _ w).alloc (Nat.le_refl _) _
 rw [hW0]
 obtain ⟨W1,hW1⟩:∃ W1,(W0.alloc (.deferred (some []))).alloc (.loop (kcApRec fn (.func (.func g) #[] lb) w.heap.size W0.heap.size .ready none))=W1:=⟨_,rfl⟩
 have hold:∀ k,k<W0.heap.size→W1.heap[k]? = W0.heap[k]?:=fun k hk=>by
   rw [← hW1];exact (Below.heap_alloc _ _ k (by simp;omega)).trans (Below.heap_alloc _ _ k hk)
 have hb1:Below w.heap.size w W1:=by rw [← hW1];exact (hb0.alloc hb0.size _).alloc (by have:=hb0.size;simp;omega) _
 have hs1:W1.heap.size=W0.heap.size+2:=by rw [← hW1];simp
 have hM:Zh1 w fn (.func (.func g) #[] lb) w.heap.size (W0.heap.size+1) W0.heap.size [] W1:=
   ⟨⟨_,(hold w.heap.size (by omega)).trans hv0,⟨rfl,.inl ⟨rfl,rfl⟩⟩,by simp⟩,
    by rw [← hW1];have:=World.alloc_heap_new (W0.alloc (.deferred (some []))) (.loop (kcApRec fn (.func (.func g) #[] lb) w.heap.size W0.heap.size .ready none));rwa [World.size_alloc] at this,
    by rw [← hW1];exact (Below.heap_alloc _ _ _ (by simp)).trans (World.alloc_heap_new W0 _),hb1⟩
 refine ⟨W0.heap.size+1,[{ target:=.collected W0.heap.size,args:=#[] }],W1,{ target:=.fn (.func g) lb,args:=#[.func (.yield (W0.heap.size+1)) #[] #[]] },W1,g,
   #[.func (.yield (W0.heap.size+1)) #[] #[]] ++ lb,W1,?_,?_,?_,?_,fun _=>h1,?_⟩
 · rw [← hW1];exact run_enterLoop_outer _ _ _ _ _
 · simp [resolve,go_sem]
 · intro f' hf';simp [Target.leads] at hf';subst hf';exact hFg
 · simp [invoke,go_sem,eg]
 · refine (hseq (W0.heap.size+1) (Zh1 w fn (.func (.func g) #[] lb) w.heap.size (W0.heap.size+1) W0.heap.size) W1 hb1 (Zjp _ _ _ _ _ _ _ hb1.size)
     (fun _ _ h=>h.below)
     (fun pre x W hJ hl=>ZmR F (n - 1 - 1) w fn hfn _ w.heap.size (W0.heap.size+1) W0.heap.size (by omega) (by omega) (by omega) (Nat.le_refl _) (by omega) N hN hNb pre x W hJ hl) hM).mono ?_
   rintro e W2 ⟨⟨v0,rfl⟩,ss,hS,h2⟩
   obtain ⟨v,hv,hrow,hnil⟩:=h2.box
   have hend:=run_endLoop (P:=Tryz.prog) h2.L (by simp [kcApRec])
   obtain ⟨W3,hW3⟩:∃ W3,W2.putObj (W0.heap.size+1) (.loop { kcApRec fn (.func (.func g) #[] lb) w.heap.size W0.heap.size .ready none with state:=.exhausted })=W3:=⟨_,rfl⟩
   rw [hW3] at hend
   have hg3:W2.grownBy W3 (some (W0.heap.size+1)):=by rw [← hW3];exact grownBy_putObj_a _ _ _
   have hv3:W3.heap[w.heap.size]? = some (.cells #[v] 41 (0,0)):=by rw [← hW3];exact (World.putObj_heap_other (by omega)).trans hv
   have hK3:W3.heap[W0.heap.size]? = some (.deferred (some [])):=by rw [← hW3];exact (World.putObj_heap_other (by omega)).trans h2.K
   have hrow3:=hrow.kept hg3 (ownsRow_ne_a hrow h2.L (fun cur e=>by first | cases e | exact hne (Obj.cells.inj e).2.1))
   have hb3:Below w.heap.size w W3:=h2.below.grown hg3 h2.below.size (fun k e=>by cases e;omega)
   obtain ⟨hc3,hf3⟩:=cell_of_box_a hv3
   clear hW3
   refine ⟨none,W3,hend,?_⟩
   gi_wp2
   rw [← hs0]
   refine ⟨by simp,.inl ⟨_,_,rfl,run_takeDeferred hK3,?_⟩⟩
   exact ⟨_,results_tmp rfl _ _ _,v,ss,rfl,hS,hrow3.kept (grownBy_putObj_a _ _ _) (ownsRow_ne_a hrow3 hK3 (fun cur e=>by first | cases e | exact hne (Obj.cells.inj e).2.1)),hnil,hb3.grown (grownBy_putObj_a _ _ _) hb3.size (fun k e=>by cases e;omega)⟩
set_option maxHeartbeats 1000000 in
theorem Ziv (F:Fence) (n:Nat) (h8:F.fn 167) (h11:F.fn 205) (hro:F.round=none) (hn:3≤n) (g:Nat) (lb:Array Value) (hFg:F.fn g) (eg:∀ args w,(callFunc g args).run Tryz.prog w = .ok (.enter g args) w)
   (S:List Int→Prop) (N:Nat) (hN:N≤maxLen) (hNb:N*8≤140737488355328) (w:World) (hseq:Zqo F (n - 1 - 1) Tryz.prog g lb Zqb S N w) :
   CallsIn F n Tryz.prog 167 #[.func (.func g) #[] lb] w fun e w'=>∃ (v:Value) (ss:List Int),e = .returned v∧S ss∧w'.ownsRow w.heap.size 3 1 v ss.length (ss.flatMap Zns)∧(v = .slice none 0 0 ↔ ss = [])∧Below w.heap.size w w':=by
 have h1:1≤n:=by omega
 have e11:∀ args w,(callFunc 205 args).run Tryz.prog w = .ok (.enter 205 args) w:=enters_of Tryz.func205 (by kernel_rfl) rfl
 refine callsIn_of_wp Tryz.func167 rfl h8 ?_ hro
 simp only [Tryz.ntmps167,List.size_toArray,List.length_cons,List.length_nil,Nat.reduceAdd,Nat.reduceSub,Array.replicate_succ,Array.replicate_zero,List.push_toArray,List.append_toArray,List.nil_append,List.cons_append]
 gi_wp2_with (gi_at_fn 205;refine (Zge F (n - 1) h11 hro (by omega) g lb hFg eg S N hN hNb _ hseq).mono ?_;rintro e w' ⟨v,ss,rfl,hS,hrow,hnil,hb⟩)
 go_ret
 exact ⟨v,ss,rfl,hS,hrow,hnil,hb⟩
end Go.Proofs.YtjhapicamnijnaaGreat
namespace Go.Proofs.YtjhapicamnijnaaGreat
open Go Go.Gm
set_option linter.unusedVariables false
set_option linter.unusedSimpArgs false
set_option maxHeartbeats 4000000
set_option maxRecDepth 8000
open Go.RowKit Go.Maps Go.Sort Go.Shelf Go.ChangeMaps Go.MapKept
theorem Zjh (xs:List Int) (hN:xs.length≤1000000000):FnG Tryz.prog 167 1 [.clos 168 [.ref [.sl rInt xs]]] [.star []] PV.one (fun v=>[Zy 3 1 rInt xs v]):=fun w F vs hw hle hvs hpr=>by
 match vs,hvs with
 | [fv],hvs=>
   obtain ⟨caps,hfv,hcaps⟩:=hvs.1
   match caps,hcaps with
   | [cu],hcaps=>
     obtain ⟨Bm,off,us,hcu,hny,hBm,hc,hus⟩:=hcaps.1
     match us,hus with
     | [sv],hus=>
       obtain ⟨ad,cap,hsv,hcap,hcm,hel⟩:=hus.1.2
       subst hsv
       subst hcu
       subst hfv
       have hst:∀ c,¬ F 1 c:=hpr 0 _ rfl
       have hm:w.cell? ⟨Bm,off,none⟩ = some (.slice ad xs.length cap):=hc.1
       have hcell:(∀ x ∈ xs,inR .i64 x) ∧ ∀ j (hj:j<xs.length),∃ b o,ad=some ⟨b,o,none⟩∧b<w.heap.size∧w.cell? ⟨b,o+j,none⟩ = some (.int .i64 xs[j]):=by
         rcases hel with rfl | ⟨b,o,vs,rfl,_,hbl,hca,hps⟩
         · exact ⟨fun x hx=>(by cases hx),fun j hj=>absurd hj (Nat.not_lt_zero j)⟩
         · obtain ⟨hve,hin⟩:=Zhy hps
           refine ⟨hin,fun j hj=>⟨b,o,rfl,hbl,?_⟩⟩
           exact hca.get j _ (by rw [hve];simp [hj])
       have hseq:Zqo Fence.wide 10 Tryz.prog 168 #[.pointer (some ⟨Bm,off,none⟩)] Zqb (fun ss=>ss=xs) xs.length w:=fun l J W hW hJ hB hY h0=>
         ZoM Fence.wide 10 trivial rfl (by omega) l Bm off cap ad w xs (by omega) hcell.2 J hB hY W ((hW.cell (p:=⟨Bm,off,none⟩) hBm).trans hm) h0
       have eg:∀ args w,(callFunc 168 args).run Tryz.prog w = .ok (.enter 168 args) w:=enters_of Tryz.func168 (by kernel_rfl) rfl
       have hcalls:=callsIn_wide.1 (Ziv Fence.wide 12 trivial trivial rfl (by omega) 168 #[.pointer (some ⟨Bm,off,none⟩)] trivial eg _ _ (by unfold maxLen;omega) (by omega) w hseq)
       refine hcalls.mono ?_
       rintro e w' ⟨v,ss,rfl,rfl,hrow,hnil,hbel⟩
       have hown:∀ c,v.ownBlock=some c→w.heap.size≤c∧c<w'.heap.size:=fun c hc9=>by
         rcases hrow.2 with ⟨rfl,_⟩ | ⟨g,cap,cur,rfl,hbase,hgb,_⟩
         · simp [Value.ownBlock] at hc9
         · simp [Value.ownBlock] at hc9
           subst hc9
           exact ⟨hbase,(Array.getElem?_eq_some_iff.1 hgb).1⟩
       have hrow0:w'.ownsRow 0 3 1 v ss.length (ss.flatMap Zns):=⟨hrow.1,by
         rcases hrow.2 with h | ⟨g,cap,cur,h1,_,h3⟩
         · exact .inl h
         · exact .inr ⟨g,cap,cur,h1,Nat.zero_le _,h3⟩⟩
       have hst2:Stp (List.range' 1 1) w F w' (fun n c=>F n c∨(n=1∧v.ownBlock=some c)):=⟨hbel.os,hbel.tape,hbel.output,hbel.size,fun c hc9 _=>hbel.block c hc9,fun n hn=>by
           funext c
           have:n≠1:=fun e=>hn (by subst e;simp)
           simp [this],fun n hn c hc9=>by
           rcases hc9 with h | ⟨_,h⟩
           · exact .inl ⟨n,hn,h⟩
           · exact .inr (hown c h).1⟩
       refine ⟨v,_,rfl,⟨fun n m c h1 h2=>?_,fun n c h1=>?_⟩,hst2,fun n c h1=>?_,?_,fun i h hi=>?_⟩
       · rcases h1 with h1 | ⟨h1,h1'⟩ <;> rcases h2 with h2 | ⟨h2,h2'⟩
         · exact hw.dis n m c h1 h2
         · have:=hw.bd n c h1;have:=(hown c h2').1;omega
         · have:=hw.bd m c h2;have:=(hown c h1').1;omega
         · omega
       · rcases h1 with h1 | ⟨_,h1⟩
         · have:=hw.bd n c h1;have:=hbel.size;omega
         · exact (hown c h1).2
       · rcases h1 with h1 | ⟨h1,_⟩
         · exact hle n c h1
         · omega
       · show v.oneCell' = true
         rcases hrow.2 with ⟨rfl,_⟩ | ⟨g,cap,cur,rfl,_⟩ <;> rfl
       · match i,hi with
         | 0,hi=>
           simp only [List.getElem?_cons_zero,Option.some.injEq] at hi
           subst hi
           refine ⟨ss.flatMap Zns,hrow0,Zmi hcell.1,fun c=>?_⟩
           have:=hst c
           simp [this]
end Go.Proofs.YtjhapicamnijnaaGreat
namespace Go.Proofs.YtjhapicamnijnaaGreat
open Go Go.Gm
set_option linter.unusedVariables false
set_option linter.unusedSimpArgs false
set_option maxHeartbeats 4000000
set_option maxRecDepth 8000
theorem Zoz (l:List Int):FnP Tryz.prog 110 [.sl rInt l] (.clos 168 [.ref [.sl rInt l]]):=by
 refine FnP.mk Tryz.func110 rfl Tryz.ntmps110 rfl ?_
 intro B a w F hB hfr hS
 refine wp_seq ?_
 refine Zc hS (qf (ZkB 101 .t one_sl) r1 qz (qC qZ)) hB [2,1] [101,0] (fun _=>rfl) (fun _=>rfl) fun τ a w F hS=>?_
 try dsimp only [RS.sub,SF.sub,CF.sub,csub,Anc.sub,List.map,zCF] at hS
 generalize τ 1=v1 at hS
 obtain ⟨F,hS⟩:=hS.giveRef 101 1 rfl rfl rfl
 obtain ⟨F,hS⟩:=hS.nm [2,1] [0] rfl rfl
 try dsimp only [Go.Gm.unCF] at hS
 refine Zb (wp_seq ?_)
 refine Za hS (qf (Zcc (Args.one .t)) r1 qz (qN rfl rfl qZ)) hB [2] [0] rfl rfl fun a w F hS=>Zb (wp_ret ?_)
 refine Zn hfr hS rfl rfl rfl .refl
theorem ZmM (l:List Int) (hl:l.length≤1000000):FnP Tryz.prog 109 [.clos 168 [.ref [.sl rInt l]]] (.sl rInt (l.mergeSort leI)):=by
 refine FnP.mk Tryz.func109 rfl Tryz.ntmps109 rfl ?_
 intro B a w F hB hfr hS
 refine wp_seq ?_
 refine Za hS (qC qZ) hB [2,0] [0] rfl rfl fun a w F hS=>Zb (wp_seq ?_)
 replace hS:=hS.fresh 101 rfl
 refine Zc hS (qM rfl rfl (qf (Zby 101 (Zjh l (by omega)) Tryz.func167 rfl (by kernel_rfl) (Args.one .t) Za4) r1 r1 (qN rfl rfl qZ))) hB [3,2] [101,0] (fun _=>rfl) (fun _=>rfl) fun τ a w F hS=>?_
 try dsimp only [RS.sub,SF.sub,CF.sub,csub,Anc.sub,List.map,rInt] at hS
 generalize τ 5=v5 at hS
 refine Zb (wp_seq ?_)
 refine Za hS (qM rfl rfl (qf (Zd0 101 (Zkq _ l hl) Tryz.func103 rfl (by kernel_rfl) (Args.one .t)) r1 r1 qZ)) hB [3,2] [101,0] rfl rfl fun a w F hS=>Zb (wp_seq ?_)
 refine Za hS (qM rfl rfl (qN rfl rfl qZ)) hB [2] [101,0] rfl rfl fun a w F hS=>Zb (wp_ret ?_)
 obtain ⟨F,hS⟩:=hS.give 101 2 rfl rfl
 refine Zn hfr hS rfl rfl rfl (.sl rfl)
theorem Zot (v : Value) (l : List OpD) (hll : l.length ≤ 1000000) (p : OpD → Bool) (f : FuncId) (fn : Func) (cps : List PV) (hf : Tryz.prog.funcs[f]? = some fn) (hb : fn.body.isSome = true) (hnn : (fn.name == "runtime.NumGoroutine") = false) (hw : ∀ x, FnP Tryz.prog f (.agg (rOp x) :: cps) (.bool (p x))) : FnG Tryz.prog 105 1 [.is v, .clos f cps] [Zy 59 4 rOp l v] (PV.one) (fun v => [Zy 59 4 rOp (l.filter fun x => !p x) v]) := by
 refine FnG.mk Tryz.func105 rfl Tryz.ntmps105 rfl (by kernel_rfl) ?_
 intro B F0 a w F hB hG hS
 replace hS:=hS.turn 1 rfl (r':=.ob (.val v) (Zy 59 4 rOp l)) (fun _ _ _ _ h=>h)
 refine wp_seq ?_
 refine Za hS (qC qZ) hB [4,1,0] [1,0] rfl rfl fun a w F hS=>Zb (wp_seq ?_)
 refine Za hS (qM rfl rfl (qM rfl rfl (qf (OpC.lendRow 1 [8] (oP (Zmr l p f fn cps hf hb hnn hw) Tryz.func166 (Args.two .t .t)) ⟨rfl,trivial,trivial⟩ (.pv (fun _ _ _ _ h=>h)) trivial (by rfl)) r2 r1 (qN rfl rfl qZ)))) hB [5,4,1,0] [1,0] rfl rfl fun a w F hS=>Zb (wp_seq (wp_seq ?_))
 refine Za hS (qM rfl rfl (qf (o_eql .t qi) r1 qz qZ)) hB [12,5,4,1,0] [1,0] rfl rfl fun a w F hS=>Zb ?_
 refine Zd hS rfl (fun hc0=>?_) (fun hc0=>?_)
 ·skip
  have hno:=(ZaJ p l).resolve_right (by rintro ⟨i,h1,_⟩;simp at hc0;omega)
  have hg:(l.filter fun x=>!p x)=l:=ZcP hno.2
  refine wp_seq ?_
  refine Za hS (qM rfl rfl (qN rfl rfl qZ)) hB [5,4,1,0] [1,0] rfl rfl fun a w F hS=>Zb (wp_ret (Zf ?_))
  have hS:=hS.turn 1 rfl (r':=RS.hp (Zy 59 4 rOp (l.filter fun x=>!p x) v)) (fun _ _ _ _ h=>by rw [hg];exact h)
  refine ZaS (h':=fun v=>Zy 59 4 rOp (l.filter fun x=>!p x) v) hG hS rfl (.tmp rfl .nil) (.one .one) rfl
 obtain ⟨i0,hi0,hi1,hip,hib⟩:=(ZaJ p l).resolve_left (by rintro ⟨h1,_⟩;simp [h1] at hc0)
 have hst0:=Zej hi1 hip hib
 refine wp_skip (Zb (wp_seq (wp_seq ?_)))
 refine Za hS (qM rfl rfl (qp r1 (qN rfl rfl qZ))) hB [6,5,4,1,0] [1,0] rfl rfl fun a w F hS=>Zb (wp_block ?_)
 have hC0:i0<i0+1∧i0+1≤l.length∧l.length=l.length∧l.take i0=(l.take (i0+1)).filter (fun x=>!p x) ∧ ∀ k,i0+1≤k→k<l.length→Go.Gm.nth l k=Go.Gm.nth l k:=⟨by omega,by omega,rfl,hst0,fun k _ _=>rfl⟩
 replace hS:=hS.ent (i:=5) (s':=.pv (.int .i64 (i0:Int))) rfl (.int hi0)
 replace hS:=hS.ent (i:=6) (s':=.pv (.int .i64 ((i0+1:Nat):Int))) rfl (.int (by rw [hi0,ZH (by omega)];omega))
 refine Zl (σ:=Nat×Nat×List OpD) [0,1,4] [0] (fun s=>[(5,.pv (.int .i64 (s.1:Int))),(6,.pv (.int .i64 (s.2.1:Int)))]) (fun s=>[(1,.ob (.val v) (Zy 59 4 rOp s.2.2))]) (fun s=>s.1<s.2.1∧s.2.1≤l.length∧s.2.2.length=l.length∧s.2.2.take s.1=(l.take s.2.1).filter (fun x=>!p x) ∧ ∀ k,s.2.1≤k→k<l.length→Go.Gm.nth s.2.2 k=Go.Gm.nth l k) (fun s=>l.length - s.2.1) ((i0),(i0+1),(l)) hS ⟨rfl,rfl,rfl,rfl,rfl,trivial⟩ ⟨rfl,rfl,trivial⟩ hC0 ?_
 clear hS;intro s a w F hC hS
 obtain ⟨i,j,l1⟩:=s
 try dsimp only at hC
 obtain ⟨F,hS⟩:=hS.nm [6,5,4,1,0] [1,0] rfl rfl
 try dsimp only at hS
 obtain ⟨hij,hj,hll1,htk,hrest⟩:=hC
 refine wp_seq (wp_seq ?_)
 refine Za hS (qM rfl rfl (qM rfl rfl (qf (Z6 1 Tryz.underlying38 .is) r1 r1 (qL r2)))) hB [19,6,5,4,1,0] [1,0] rfl rfl fun a w F hS=>Zb ?_
 refine Zd hS rfl (fun hc1=>?_) (fun hc1=>?_)
 ·skip
  have hjl:j<l.length:=by simp at hc1;omega
  have hnj:Go.Gm.nth l1 j=(Go.Gm.nth l j):=hrest j (Nat.le_refl _) hjl
  have hfs:=Zcr (p:=fun x=>!p x) hjl
  refine wp_skip (Zb (wp_seq (wp_block (wp_seq ?_))))
  refine Zc hS (qM rfl rfl (qM rfl rfl (qf (o_indexAddr_row (sz:=4) 1 (.mk Tryz.underlying38 (by kernel_rfl)) .is .t (by omega) (by omega) (by rfl)) r2 r1 (qf (ZaC (ag:=true) (sz':=4) (sz:=4) 1 .t (by intro x;rfl) (by omega) (by kernel_rfl) (by kernel_rfl) (by kernel_rfl)) r1 r1 (qf (oH [.bool false,.int .i64 0,.int .i64 0,.int .i64 0] 101) trivial qz (qS 4 101 r2 r1 qZ)))))) hB [7,6,5,4,1,0] [101,1,0] (fun _=>rfl) (fun _=>rfl) fun τ a w F hS=>?_
  try dsimp only [RS.sub,SF.sub,CF.sub,csub,Anc.sub,List.map,Zg,xL,xM,Nat.reduceAdd,xD,xE,xT,xU,xC,xN,zCF,ldSF,rOp] at hS
  generalize τ 7=v7 at hS
  try simp only [Int.toNat_natCast] at hS
  rw [hnj] at hS
  refine Zb (wp_seq ?_)
  refine Za hS (qM rfl rfl (qe 4 101 r1 r1 (qf (Z2 (avs:=[.agg (rOp (Go.Gm.nth l j))]) .t (hw (Go.Gm.nth l j)) hf hb hnn (Args.one (.pagg .t))) r2 qz (qf (o_not .t) r1 qz qZ)))) hB [29,7,6,5,4,1,0] [101,1,0] rfl rfl fun a w F hS=>Zb ?_
  refine Zd hS rfl (fun hc2=>?_) (fun hc2=>?_)
  ·skip
   have hp:p (Go.Gm.nth l j)=false:=by simpa using hc2
   obtain ⟨i2,hi2e⟩:∃ i2,i2=i+1:=⟨_,rfl⟩
   have hi2:IntKind.wrap .i64 ((i:Int)+1)=(i2:Int):=by rw [hi2e];exact Ze (by omega)
   obtain ⟨l2,hl2⟩:∃ l2,l2=l1.set i (Go.Gm.nth l j):=⟨_,rfl⟩
   have hC2:i2<j+1∧j+1≤l.length∧l2.length=l.length∧l2.take i2=(l.take (j+1)).filter (fun x=>!p x) ∧ ∀ k,j+1≤k→k<l.length→Go.Gm.nth l2 k=Go.Gm.nth l k:=⟨by omega,by omega,by rw [hl2,List.length_set];exact hll1,by rw [hl2,hi2e,hfs,hp,← htk,Zt (by rw [List.length_set];omega),List.take_set_of_le (Nat.le_refl _),Zq (by rw [List.length_set];omega),List.getElem_set_self];rfl,fun k hk hk2=>by rw [hl2,Zq (by rw [List.length_set];omega),List.getElem_set_ne (by omega),← Zq (by omega)];exact hrest k (by omega) hk2⟩
   refine wp_seq ?_
   refine Za hS (qM rfl rfl (qM rfl rfl (qe 4 101 r1 r1 (qf (o_indexAddr_row (sz:=4) 1 (.mk Tryz.underlying38 (by kernel_rfl)) .is .t (by omega) (by omega) (by rfl)) r2 r1 (qf (Zdk (sz:=4) 1 .t (by intro x;rfl) (by omega) (.conv .t (Ent.aggU (l:=rOp (Go.Gm.nth l j)) rfl rfl)) (by kernel_rfl)) r2 r1 qZ))))) hB [6,5,4,1,0] [1,0] rfl rfl fun a w F hS=>?_
   try simp only [Int.toNat_natCast] at hS
   rw [← hl2] at hS
   refine Zb ?_
   refine Za hS (qM rfl rfl (qp r1 (qN rfl rfl qZ))) hB [6,5,4,1,0] [1,0] rfl rfl fun a w F hS=>Zh (Zb ?_)
   refine Za hS (qM rfl rfl (qp r1 (qN rfl rfl qZ))) hB [6,5,4,1,0] [1,0] rfl rfl fun a w F hS=>Zb ?_
   have hmu:l.length - (j+1)<l.length - j:=by omega
   replace hS:=hS.ent (i:=5) (s':=.pv (.int .i64 (i2:Int))) rfl (.int hi2)
   replace hS:=hS.ent (i:=6) (s':=.pv (.int .i64 ((j+1:Nat):Int))) rfl (.int (Ze (by omega)))
   obtain ⟨F,hS⟩:=hS.nm [4,1,0,6,5] [0,1] rfl rfl
   exact ⟨((i2),(j+1),(l2)),F,hC2,hS,hmu⟩
  have hp:p (Go.Gm.nth l j)=true:=by simpa using hc2
  obtain ⟨i2,hi2e⟩:∃ i2,i2=i:=⟨_,rfl⟩
  have hi2:(i:Int)=(i2:Int):=by rw [hi2e]
  obtain ⟨l2,hl2⟩:∃ l2,l2=l1:=⟨_,rfl⟩
  rw [← hl2] at hS
  have hC2:i2<j+1∧j+1≤l.length∧l2.length=l.length∧l2.take i2=(l.take (j+1)).filter (fun x=>!p x) ∧ ∀ k,j+1≤k→k<l.length→Go.Gm.nth l2 k=Go.Gm.nth l k:=⟨by omega,by omega,by rw [hl2];exact hll1,by rw [hl2,hi2e,hfs,hp,htk];simp,fun k hk hk2=>by rw [hl2];exact hrest k (by omega) hk2⟩
  refine wp_skip (Zh (Zb ?_))
  refine Za hS (qM rfl rfl (qp r1 (qN rfl rfl qZ))) hB [6,5,4,1,0] [1,0] rfl rfl fun a w F hS=>Zb ?_
  have hmu:l.length - (j+1)<l.length - j:=by omega
  replace hS:=hS.ent (i:=5) (s':=.pv (.int .i64 (i2:Int))) rfl (.int hi2)
  replace hS:=hS.ent (i:=6) (s':=.pv (.int .i64 ((j+1:Nat):Int))) rfl (.int (Ze (by omega)))
  obtain ⟨F,hS⟩:=hS.nm [4,1,0,6,5] [0,1] rfl rfl
  exact ⟨((i2),(j+1),(l2)),F,hC2,hS,hmu⟩
 have hjl:j=l.length:=by simp at hc1;omega
 have hil2:i<l.length:=by omega
 have hg:(l.filter fun x=>!p x)=(l1.take i++List.replicate (l1.length - i) (⟨false,0,0,0⟩:OpD)).take i:=by rw [List.take_append_of_le_length (by rw [List.length_take];omega),List.take_take,Nat.min_self,htk,hjl,List.take_length]
 refine wp_exit (Zi (Zi (Zo (Zb (wp_seq ?_)))))
 refine Za hS (qM rfl rfl (qM rfl rfl (qf (ZaG (sz:=4) 1 (.mk Tryz.underlying38 (by kernel_rfl)) .is .t (by omega) (by omega)) r2 r1 (qf (Zcg (R:=rOp) (z:=(⟨false,0,0,0⟩:OpD)) (zs:=[.bool false,.int .i64 0,.int .i64 0,.int .i64 0]) 1 Tryz.underlying38 (by kernel_rfl) rfl rfl (fun _ _=>⟨⟨rfl,rfl⟩,⟨rfl,rfl,ZiP⟩,⟨rfl,rfl,ZiP⟩,⟨rfl,rfl,ZiP⟩,trivial⟩) (by intro x;rfl) .t (by simp;omega)) r1 r1 qZ)))) hB [5,4,0] [1,0] rfl rfl fun a w F hS=>Zb (wp_seq ?_)
 refine Zc hS (qM rfl rfl (qM rfl rfl (qf (ZcB (sz:=4) 1 (.mk Tryz.underlying38 (by kernel_rfl)) (by intro x;rfl) .is .t (by omega) (by simp;omega)) r2 r1 (qN rfl rfl qZ)))) hB [4] [1,0] (fun _=>rfl) (fun _=>rfl) fun τ a w F hS=>?_
 try dsimp only [RS.sub,SF.sub,CF.sub,csub,Anc.sub,List.map,rOp] at hS
 generalize τ 41=v41 at hS
 refine Zb (wp_ret ?_)
 have hS:=hS.turn 1 rfl (r':=RS.hp (Zy 59 4 rOp (l.filter fun x=>!p x) v41)) (fun _ _ _ _ h=>by rw [hg];exact h)
 refine ZaS (h':=fun v=>Zy 59 4 rOp (l.filter fun x=>!p x) v) hG hS rfl (.tmp rfl .nil) (.one .one) rfl
theorem ZoF (o:OpD):FnP Tryz.prog 106 [.agg (rOp o)] (.bool o.read):=by
 refine FnP.mk Tryz.func106 rfl Tryz.ntmps106 rfl ?_
 intro B a w F hB hfr hS
 refine wp_seq ?_
 refine Zc hS (qx 101 r1 qB) hB [2,1] [101,0] (fun _=>rfl) (fun _=>rfl) fun τ a w F hS=>?_
 try dsimp only [RS.sub,SF.sub,CF.sub,csub,Anc.sub,List.map,zCF,rOp] at hS
 generalize τ 1=v1 at hS
 refine Zb (wp_seq ?_)
 refine Za hS (qg 0 101 r1 r1 (qa 101 r1 r1 (qN rfl rfl qZ))) hB [2] [0] rfl rfl fun a w F hS=>Zb (wp_ret ?_)
 refine Zn hfr hS rfl rfl rfl .refl
theorem ZnV (t:TxD) (hl:t.ops.length≤1000000):FnP Tryz.prog 47 [.agg (rTx t)] (.agg (rTx (bareT t))):=by
 refine FnP.mk Tryz.func47 rfl Tryz.ntmps47 rfl ?_
 intro B a w F hB hfr hS
 refine wp_seq ?_
 refine Zc hS (qx 101 r1 (qf (oH [.int .i64 0,.bool false,.slice none 0 0] 102) trivial qz qZ)) hB [2,1] [102,101,0] (fun _=>rfl) (fun _=>rfl) fun τ a w F hS=>?_
 try dsimp only [RS.sub,SF.sub,CF.sub,csub,Anc.sub,List.map,zCF,rTx,rInt] at hS
 generalize τ 1=v1 at hS
 generalize τ 2=v2 at hS
 refine Zb (wp_seq ?_)
 replace hS:=hS.fresh 103 rfl
 refine Zc hS (qg 2 101 r1 r1 (qa 101 r1 r1 (qf (Zby 103 (ZhC t.ops hl) Tryz.func49 rfl (by kernel_rfl) (Args.one .t) Za4) r1 r1 (qf (ZkO 5 103 (fun v=>Zot _ t.ops hl (fun o=>o.read) 106 Tryz.f106 [] Tryz.func106 rfl (by kernel_rfl) (fun o=>ZoF o)) Tryz.func105 rfl (by kernel_rfl) (Zg3.two .same (.of (.conv .f (Ent.fnClos)))) Za4) r1 r1 (qg 2 101 r1 r1 (qf (ZaU 101 .adr (by kernel_rfl) (by kernel_rfl)) r2 r1 qZ)))))) hB [2,1] [103,102,101,0] (fun _=>rfl) (fun _=>rfl) fun τ a w F hS=>?_
 try dsimp only [RS.sub,SF.sub,CF.sub,csub,Anc.sub,List.map,Zg,xL,xM,Nat.reduceAdd,xD,xE,xT,xU,xC,xN,zCF,ldSF,rTx,rInt] at hS
 generalize τ 6=v6 at hS
 obtain ⟨F,hS⟩:=hS.giveCell 103 101 2 rfl rfl rfl rfl rfl
 try dsimp only [List.set] at hS
 obtain ⟨F,hS⟩:=hS.nm [2,1] [102,101,0] rfl rfl
 refine Zb (wp_seq ?_)
 refine Za hS (qe 3 101 r1 r1 (qs 3 102 r2 r1 qZ)) hB [2] [102,101,0] rfl rfl fun a w F hS=>Zb (wp_ret ?_)
 refine Zr hfr hS rfl (.cl 102 true 3 rfl rfl .nil) (.one (.aggU rfl rfl))
theorem Zio (t:TxD) (hl:t.ops.length≤1000000):FnP Tryz.prog 52 [.agg (rTx t)] (.agg (rTx (bareT t))):=by
 refine FnP.mk Tryz.func52 rfl Tryz.ntmps52 rfl ?_
 intro B a w F hB hfr hS
 refine wp_seq ?_
 refine Zc hS (qx 101 r1 (qf (oH [.int .i64 0,.bool false,.slice none 0 0] 102) trivial qz qZ)) hB [2,1] [102,101,0] (fun _=>rfl) (fun _=>rfl) fun τ a w F hS=>?_
 try dsimp only [RS.sub,SF.sub,CF.sub,csub,Anc.sub,List.map,zCF,rTx,rInt,rOp] at hS
 generalize τ 1=v1 at hS
 generalize τ 2=v2 at hS
 refine Zb (wp_seq ?_)
 refine Za hS (qC qZ) hB [3,2,1] [102,101,0] rfl rfl fun a w F hS=>Zb (wp_seq (wp_seq ?_))
 refine Za hS (qg 2 101 r1 r1 (qa 101 r1 r1 (qu Tryz.underlying38 r1 (qJ qZ)))) hB [9,8,7,3,2,1] [102,101,0] rfl rfl fun a w F hS=>Zb (wp_block ?_)
 replace hS:=hS.fresh 50 rfl
 replace hS:=hS.turn 50 rfl (Zav (T:=59) (sz:=4) (R:=rOp))
 refine Zl (σ:=(Nat)×(Value)×(List OpD)) [1,2,7,8] [0,101,102] (fun s=>[(9,.pv (.int .i64 (s.1:Int))),(3,.pv (.is s.2.1))]) (fun s=>[(50,.ob (.val s.2.1) (Zy 59 4 rOp s.2.2))]) (fun s=>s.1≤t.ops.length∧(s.2.2=((t.ops.take s.1).filter fun o=>!o.read))) (fun s=>t.ops.length - s.1) ((0),(.slice none 0 0),([])) hS ⟨rfl,rfl,rfl,rfl,rfl,rfl,trivial⟩ ⟨rfl,rfl,rfl,rfl,trivial⟩ ⟨Nat.zero_le _,rfl⟩ ?_
 clear hS;intro s a w F hC hS
 obtain ⟨i,v,out⟩:=s
 try dsimp only at hC
 obtain ⟨F,hS⟩:=hS.nm [9,8,7,3,2,1] [102,101,50,0] rfl rfl
 try dsimp only at hS
 obtain ⟨hi,hq⟩:=hC
 have hol:out.length≤i:=by rw [hq];exact Nat.le_trans (List.length_filter_le _ _) (by rw [List.length_take];omega)
 refine wp_seq ?_
 refine Za hS (qL r2) hB [10,9,8,7,3,2,1] [102,101,50,0] rfl rfl fun a w F hS=>Zb (wp_seq ?_)
 refine Zd hS rfl (fun hc0=>?_) (fun hc0=>?_)
 ·skip
  have hil:i<t.ops.length:=by simp at hc0;omega
  refine wp_skip (Zb (wp_seq (wp_block (wp_seq ?_))))
  refine Zc hS (qy 4 Tryz.underlying38 r2 (qf (oR true 4 .t) r1 qz (qf (oH [.bool false,.int .i64 0,.int .i64 0,.int .i64 0] 103) trivial qz (qS 4 103 r2 r1 qZ)))) hB [9,8,7,5,3,2,1] [103,102,101,50,0] (fun _=>rfl) (fun _=>rfl) fun τ a w F hS=>?_
  try dsimp only [RS.sub,SF.sub,CF.sub,csub,Anc.sub,List.map,Zg,xL,xM,Nat.reduceAdd,xD,xE,xT,xU,xC,xN,zCF,ldSF,rTx,rInt,rOp] at hS
  generalize τ 5=v5 at hS
  try simp only [Int.toNat_natCast] at hS
  refine Zb (wp_seq ?_)
  refine Za hS (qg 0 103 r1 r1 (qa 103 r1 r1 (qf (o_not .t) r1 qz qZ))) hB [15,9,8,7,5,3,2,1] [103,102,101,50,0] rfl rfl fun a w F hS=>Zb ?_
  refine Zd hS rfl (fun hc1=>?_) (fun hc1=>?_)
  ·skip
   have hBq:(Go.Gm.nth t.ops i).read=false:=by simpa using hc1
   refine Zc hS (qM rfl rfl (qe 4 103 r1 r1 (qf (Zj (sz:=4) (zs:=[.bool false,.int .i64 0,.int .i64 0,.int .i64 0]) (r:=[(0,.tmp 17)]) (l:=[_,_,_,_]) Tryz.underlying38 (by kernel_rfl) (by kernel_rfl) (by kernel_rfl) (by kernel_rfl) rfl rfl (.agg rfl .t (by kernel_rfl) (by kernel_rfl) .nil) rfl) r1 qz (qf (o_append (sz:=4) (bs:=32) 50 (.mk' Tryz.underlying38 (by kernel_rfl) (by kernel_rfl)) (by intro x;rfl) .is (.arr (l':=[_]) .t) (by simp only [List.length_append,List.length_cons,List.length_nil,List.length_take,List.length_drop];omega) (by decide)) ⟨rfl,rfl,trivial⟩ ⟨rfl,trivial⟩ (qN rfl rfl qZ))))) hB [9,8,7,3,2,1] [103,102,101,50,0] (fun _=>rfl) (fun _=>rfl) fun τ a w F hS=>?_
   try dsimp only [RS.sub,SF.sub,CF.sub,csub,Anc.sub,List.map,Zg,xL,xM,Nat.reduceAdd,xD,xE,xT,xU,xC,xN,zCF,ldSF,rTx,rInt,rOp] at hS
   generalize τ 19=v19 at hS
   refine Zh (Zb ?_)
   refine Za hS (qp r1 (qM rfl rfl qZ)) hB [9,8,7,3,2,1] [103,102,101,50,0] rfl rfl fun a w F hS=>Zb ?_
   replace hS:=hS.ent (i:=9) (s':=.pv (.int .i64 ((i+1:Nat):Int))) rfl (.int (Ze (by omega)))
   obtain ⟨F,hS⟩:=hS.nm [8,7,2,1,3,9] [102,101,0,50] rfl rfl
   exact ⟨((i+1),_,_),F,⟨by omega,(by rw [Zt hil,List.filter_append,← hq];simp [hBq])⟩,hS,by omega⟩
  have hBq:(Go.Gm.nth t.ops i).read=true:=by simpa using hc1
  refine wp_skip (Zh (Zb ?_))
  refine Za hS (qp r1 (qM rfl rfl qZ)) hB [9,8,7,3,2,1] [103,102,101,50,0] rfl rfl fun a w F hS=>Zb ?_
  replace hS:=hS.ent (i:=9) (s':=.pv (.int .i64 ((i+1:Nat):Int))) rfl (.int (Ze (by omega)))
  obtain ⟨F,hS⟩:=hS.nm [8,7,2,1,3,9] [102,101,0,50] rfl rfl
  exact ⟨((i+1),_,_),F,⟨by omega,(by rw [Zt hil,List.filter_append,← hq];simp [hBq])⟩,hS,by omega⟩
 have hil:i=t.ops.length:=by simp at hc0;omega
 have hqq:out=t.ops.filter fun o=>!o.read:=by rw [hq,hil,List.take_length]
 subst hqq
 refine wp_exit (Zi (Zi (Zo (Zb (wp_seq ?_)))))
 refine Za hS (qM rfl rfl (qg 2 101 r1 r1 (qf (Zaf 101 .adr .t Zj6 (by kernel_rfl) (by kernel_rfl)) r2 r1 qZ))) hB [2,1] [102,101,50,0] rfl rfl fun a w F hS=>?_
 obtain ⟨F,hS⟩:=hS.giveCell 50 101 2 rfl rfl rfl rfl rfl
 try dsimp only [List.set] at hS
 obtain ⟨F,hS⟩:=hS.nm [2,1] [102,101,0] rfl rfl
 refine Zb (wp_seq ?_)
 refine Za hS (qe 3 101 r1 r1 (qs 3 102 r2 r1 qZ)) hB [2] [102,101,0] rfl rfl fun a w F hS=>Zb (wp_ret ?_)
 refine Zr hfr hS rfl (.cl 102 true 3 rfl rfl .nil) (.one (.aggU rfl rfl))
end Go.Proofs.YtjhapicamnijnaaGreat
