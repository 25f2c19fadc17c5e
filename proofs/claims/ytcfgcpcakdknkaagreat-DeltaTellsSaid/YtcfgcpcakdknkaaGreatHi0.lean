/- Histories: the plain law. No condition beyond those that each theorem says. -/
import Derived.Test.YtcfgcpcakdknkaaGreatTx9
import Derived.Test.YtcfgcpcakdknkaaGreatTxN
import Derived.Test.YtcfgcpcakdknkaaGreatOr2
import Derived.Test.YtcfgcpcakdknkaaGreatLibG
import Derived.Test.YtcfgcpcakdknkaaGreatDaX
namespace Go.Proofs.YtcfgcpcakdknkaaGreat
open Go Go.Gm
set_option linter.unusedVariables false
set_option linter.unusedSimpArgs false
set_option maxHeartbeats 4000000
set_option maxRecDepth 8000
theorem ordD_is {u v:OrdD} : (decide (u.key=v.key) && decide (u.txs=v.txs))=decide (u=v):=by
 cases u;cases v
 rw [Bool.eq_iff_iff]
 simp
def zeroT:TxD:=⟨0,false,[]⟩
def SmallT (l:List TxD):Prop:=l.length≤1000 ∧ ∀ t ∈ l,t.ops.length≤1000
def SmallO (l:List OrdD):Prop:=l.length≤1000 ∧ ∀ o ∈ l,o.txs.length≤1000
def Small (h:HistD):Prop:=SmallT h.txs∧SmallO h.orders
theorem SmallT.at {l:List TxD} (h:SmallT l) {i:Nat} (hi:i<l.length):(Go.Gm.nth l i).ops.length≤1000:=h.2 _ (nth_mem hi)
theorem SmallO.at {l:List OrdD} (h:SmallO l) {i:Nat} (hi:i<l.length):(Go.Gm.nth l i).txs.length≤1000:=h.2 _ (nth_mem hi)
def findT (l:List TxD) (id:Int):Option TxD:=l.find? fun t=>decide (t.id=id)
theorem findT_at {l:List TxD} {id:Int} {i:Nat} (hi:i<l.length) (h:(Go.Gm.nth l i).id=id) (hq:∀ k,k<i→(Go.Gm.nth l k).id≠id):findT l id=some (Go.Gm.nth l i):=by
 unfold findT
 rw [List.find?_eq_some_iff_getElem]
 refine ⟨by simpa using h,i,hi,(nth_eq hi).symm,fun j hj=>?_⟩
 have:=hq j hj
 rw [nth_eq (by omega)] at this
 simpa using this
theorem findT_none {l:List TxD} {id:Int} (hq:∀ k,k<l.length→(Go.Gm.nth l k).id≠id):findT l id=none:=by
 unfold findT
 rw [List.find?_eq_none]
 intro x hx
 obtain ⟨k,hk,e⟩:=List.getElem_of_mem hx
 have:=hq k hk
 rw [nth_eq hk,e] at this
 simpa using this
theorem findT_mem {l:List TxD} {id:Int} {t:TxD} (h:findT l id=some t):t ∈ l∧t.id=id:=⟨List.mem_of_find?_eq_some h,by have:=List.find?_some h;simpa using this⟩
def hasH (h:HistD) (v:VerD):Bool:=if v.tx=0∧v.nth=0 then decide (1≤v.key∧v.key≤1048575) else (findT h.txs v.tx).isSome && (decide (1≤v.nth) && decide (v.nth≤(wcnt ((findT h.txs v.tx).getD zeroT).ops v.key:Int)))
def needsH (h:HistD) (t:TxD):Bool:=(needsT t).all (hasH h)
theorem needsH_true {h:HistD} {t:TxD} (hq:∀ k,k<(needsT t).length→hasH h (Go.Gm.nth (needsT t) k)=true):needsH h t=true:=by
 unfold needsH
 rw [List.all_eq_true]
 intro x hx
 obtain ⟨k,hk,e⟩:=List.getElem_of_mem hx
 have:=hq k hk
 rwa [nth_eq hk,e] at this
theorem needsH_false {h:HistD} {t:TxD} {i:Nat} (hi:i<(needsT t).length) (hn:hasH h (Go.Gm.nth (needsT t) i)=false):needsH h t=false:=by
 unfold needsH
 rw [List.all_eq_false]
 exact ⟨_,nth_mem hi,by simp [hn]⟩
def keysT (t:TxD):List Int:=keysL ((t.ops.filter fun o=>!o.read).map OpD.key)
theorem keysT_mem {t:TxD} {k:Int} : k ∈ keysT t ↔ 0<wcnt t.ops k:=by
 unfold keysT
 rw [(keysL_inc _).2,List.mem_map]
 unfold wcnt
 rw [List.length_pos_iff_exists_mem]
 constructor
 · rintro ⟨o,ho,e⟩
   rw [List.mem_filter] at ho
   exact ⟨o,by rw [List.mem_filter];exact ⟨ho.1,by simp [e];simpa using ho.2⟩⟩
 · rintro ⟨o,ho⟩
   rw [List.mem_filter] at ho
   simp at ho
   exact ⟨o,by rw [List.mem_filter];simp [ho.1,ho.2.1],ho.2.2⟩
theorem keysT_len (t:TxD):(keysT t).length≤t.ops.length:=Nat.le_trans (keysL_len _) (by rw [List.length_map];exact List.length_filter_le _ _)
def writersH (l:List TxD) (k:Int):List Int:=(l.filter fun t=>t.done && decide (0<wcnt t.ops k)).map TxD.id
theorem writersH_len (l:List TxD) (k:Int):(writersH l k).length≤l.length:=by unfold writersH;rw [List.length_map];exact List.length_filter_le _ _
theorem writersH_step {l:List TxD} {i:Nat} (hi:i<l.length) (k:Int):writersH (l.take (i+1)) k=writersH (l.take i) k++if (Go.Gm.nth l i).done=true∧0<wcnt (Go.Gm.nth l i).ops k then [(Go.Gm.nth l i).id] else []:=by
 unfold writersH
 rw [take_nth hi,List.filter_append,List.map_append]
 congr 1
 by_cases h:(Go.Gm.nth l i).done=true∧0<wcnt (Go.Gm.nth l i).ops k
 · rw [if_pos h,List.filter_cons_of_pos (by simp [h.1,h.2])];rfl
 · rw [if_neg h,List.filter_cons_of_neg (by simp;intro e;exact Nat.eq_zero_of_not_pos fun e2=>h ⟨e,e2⟩)];rfl
def keysH (l:List TxD):List Int:=keysL ((l.filter fun t=>t.done).flatMap keysT)
theorem keysH_step {l:List TxD} {i:Nat} (hi:i<l.length):keysH (l.take (i+1))=if (Go.Gm.nth l i).done=true then (keysT (Go.Gm.nth l i)).foldl putI (keysH (l.take i)) else keysH (l.take i):=by
 unfold keysH
 rw [take_nth hi,List.filter_append,List.flatMap_append]
 split
 · rename_i h
   rw [List.filter_cons_of_pos (by simpa using h)]
   unfold keysL
   rw [List.foldl_append]
   simp
 · rename_i h
   rw [List.filter_cons_of_neg (by simpa using h)]
   simp
theorem keysH_le {l:List TxD} (h:SmallT l) (i:Nat):(keysH (l.take i)).length≤1000*i:=by
 unfold keysH
 refine Nat.le_trans (keysL_len _) ?_
 have key:∀ l:List TxD,(∀ t ∈ l,t.ops.length≤1000)→((l.filter fun t=>t.done).flatMap keysT).length≤1000*l.length:=by
   intro l
   induction l with
   | nil=>intro _;simp
   | cons t l ih=>
     intro h
     have h1:=ih fun x hx=>h x (by simp [hx])
     have h2:=h t (by simp)
     have h3:=keysT_len t
     by_cases hd:t.done=true
     · rw [List.filter_cons_of_pos (by simpa using hd),List.flatMap_cons,List.length_append,List.length_cons]
       omega
     · rw [List.filter_cons_of_neg (by simpa using hd),List.length_cons]
       omega
 have h1:=key (l.take i) fun t ht=>h.2 t (List.mem_of_mem_take ht)
 have h2:(l.take i).length≤i:=by rw [List.length_take];omega
 exact Nat.le_trans h1 (Nat.mul_le_mul_left _ h2)
theorem keysH_len {l:List TxD} (h:SmallT l):(keysH l).length≤1000000:=by
 have h1:=keysH_le h l.length
 rw [List.take_length] at h1
 have:=h.1
 omega
theorem keysF_len (a:List Int):∀ b:List Int,(b.foldl putI a).length≤a.length+b.length:=by
 intro b
 induction b generalizing a with
 | nil=>simp
 | cons x b ih=>
   have h1:=ih (putI a x)
   have h2:(putI a x).length≤a.length+1:=putIR_len a false
   rw [List.foldl_cons,List.length_cons];omega
theorem keysH_mem {l:List TxD} {k:Int} : k ∈ keysH l ↔ writersH l k≠[]:=by
 unfold keysH
 rw [(keysL_inc _).2,List.mem_flatMap]
 unfold writersH
 rw [ne_eq,List.map_eq_nil_iff,List.filter_eq_nil_iff]
 constructor
 · rintro ⟨t,ht,hk⟩ hn
   rw [List.mem_filter] at ht
   have:=hn t ht.1
   simp [ht.2] at this
   have:=keysT_mem.1 hk
   simp_all
 · intro hn
   simp only [Classical.not_forall] at hn
   obtain ⟨t,ht,h2⟩:=hn
   simp at h2
   exact ⟨t,by rw [List.mem_filter];exact ⟨ht,by simpa using h2.1⟩,keysT_mem.2 (Nat.pos_of_ne_zero h2.2)⟩
def TxOk (h:HistD) (i:Nat):Prop:=(0<i→(Go.Gm.nth h.txs (i - 1)).id<(Go.Gm.nth h.txs i).id)∧rightT (Go.Gm.nth h.txs i)=0∧needsH h (Go.Gm.nth h.txs i)=true
instance (h:HistD) (i:Nat):Decidable (TxOk h i):=by unfold TxOk;exact inferInstance
def OrdOk (h:HistD) (i:Nat):Prop:=(Go.Gm.nth h.orders i).key=Go.Gm.nth (keysH h.txs) i∧(Go.Gm.nth h.orders i).txs.Perm (writersH h.txs (Go.Gm.nth h.orders i).key)
instance (h:HistD) (i:Nat):Decidable (OrdOk h i):=by unfold OrdOk;exact inferInstance
def RightH (h:HistD):Prop:=h.txs.length≤4096∧(∀ i,i<h.txs.length→TxOk h i)∧h.orders.length=(keysH h.txs).length ∧ ∀ i,i<h.orders.length→OrdOk h i
instance (h:HistD):Decidable (RightH h):=by unfold RightH;exact inferInstance
def OrdOk2 (h:HistD) (i:Nat):Prop:=(0<i→(Go.Gm.nth h.orders (i - 1)).key<(Go.Gm.nth h.orders i).key)∧(Go.Gm.nth h.orders i).txs≠[]∧(Go.Gm.nth h.orders i).txs.Perm (writersH h.txs (Go.Gm.nth h.orders i).key)
theorem inc_adj:∀ {l:List Int},(∀ i,i<l.length→0<i→Go.Gm.nth l (i - 1)<Go.Gm.nth l i)→IncI l
 | [],_=>List.Pairwise.nil
 | [x],_=>by simp
 | x :: y :: l,h=>by
   have ih:=inc_adj (l:=y :: l) fun i hi h0=>by
     have:=h (i+1) (by simpa using hi) (by omega)
     obtain ⟨j,rfl⟩:∃ j,i=j+1:=⟨i - 1,by omega⟩
     have hj:j<l.length:=by simpa using hi
     rw [nth_eq (l:=x :: y :: l) (by simp;omega),nth_eq (l:=x :: y :: l) (by simp;omega)] at this
     rw [nth_eq (l:=y :: l) (by simp;omega),nth_eq (l:=y :: l) (by simp;omega)]
     exact this
   have h1:=h 1 (by simp) (by omega)
   rw [nth_eq (by simp),nth_eq (by simp)] at h1
   simp at h1
   have ih2:=List.pairwise_cons.1 ih
   refine List.pairwise_cons.2 ⟨fun z hz=>?_,ih⟩
   rcases List.mem_cons.1 hz with rfl | hz
   · exact h1
   · have:=ih2.1 z hz;omega
theorem inc_nth {l:List Int} (h:IncI l) {i:Nat} (hi:i<l.length) (h0:0<i):Go.Gm.nth l (i - 1)<Go.Gm.nth l i:=by
 rw [nth_eq hi,nth_eq (by omega)]
 exact List.pairwise_iff_getElem.1 h (i - 1) i (by omega) hi (by omega)
theorem inc_sub:∀ {b a:List Int},IncI a→IncI b→(∀ x ∈ a,x ∈ b)→a.length≤b.length∧(a.length=b.length→a=b)
 | [],a,_,_,h=>by
   have:a = []:=List.eq_nil_iff_forall_not_mem.2 fun x hx=>by cases h x hx
   subst this;simp
 | y :: b,[],_,_,_=>⟨by simp,fun h=>by simp at h⟩
 | y :: b,x :: a,ha,hb,h=>by
   have ha':=List.pairwise_cons.1 ha
   have hb':=List.pairwise_cons.1 hb
   by_cases e:x=y
   · subst e
     have ih:=inc_sub (b:=b) (a:=a) ha'.2 hb'.2 fun z hz=>by
       rcases List.mem_cons.1 (h z (by simp [hz])) with e | e
       · have:=ha'.1 z hz;omega
       · exact e
     exact ⟨by simp;exact ih.1,fun hl=>by rw [ih.2 (by simpa using hl)]⟩
   · have hx:y<x:=by
       rcases List.mem_cons.1 (h x (by simp)) with e2 | e2
       · exact absurd e2 e
       · exact hb'.1 x e2
     have ih:=inc_sub (b:=b) (a:=x :: a) ha hb'.2 fun z hz=>by
       rcases List.mem_cons.1 (h z hz) with e2 | e2
       · rcases List.mem_cons.1 hz with e3 | e3
         · omega
         · have:=ha'.1 z e3;omega
       · exact e2
     exact ⟨by have:=ih.1;simp at this ⊢;omega,fun hl=>by have:=ih.1;simp at this hl;omega⟩
theorem nth_map {α β:Type} [Inhabited α] [Inhabited β] {f:α→β} {l:List α} {i:Nat} (h:i<l.length):Go.Gm.nth (l.map f) i=f (Go.Gm.nth l i):=by
 rw [nth_eq (by simpa using h),nth_eq h];simp
theorem ord_same (h:HistD):(h.orders.length=(keysH h.txs).length ∧ ∀ i,i<h.orders.length→OrdOk2 h i) ↔ (h.orders.length=(keysH h.txs).length ∧ ∀ i,i<h.orders.length→OrdOk h i):=by
 have hK:IncI (keysH h.txs):=(keysL_inc _).1
 constructor
 · rintro ⟨hl,hq⟩
   refine ⟨hl,?_⟩
   have hO:IncI (h.orders.map OrdD.key):=inc_adj fun i hi h0=>by
     have hi':i<h.orders.length:=by simpa using hi
     rw [nth_map (by omega),nth_map hi']
     exact (hq i hi').1 h0
   have hsub:∀ x ∈ h.orders.map OrdD.key,x ∈ keysH h.txs:=fun x hx=>by
     obtain ⟨o,ho,rfl⟩:=List.mem_map.1 hx
     obtain ⟨k,hk,e⟩:=List.getElem_of_mem ho
     have:=hq k hk
     unfold OrdOk2 at this
     rw [nth_eq hk,e] at this
     rw [keysH_mem]
     intro e2
     rw [e2] at this
     exact this.2.1 (List.Perm.eq_nil this.2.2)
   have he:=(inc_sub hO hK hsub).2 (by simpa using hl)
   intro i hi
   refine ⟨?_,(hq i hi).2.2⟩
   rw [← he,nth_map hi]
 · rintro ⟨hl,hq⟩
   refine ⟨hl,fun i hi=>?_⟩
   have hin:(Go.Gm.nth h.orders i).key ∈ keysH h.txs:=by rw [(hq i hi).1];exact nth_mem (by omega)
   refine ⟨fun h0=>?_,fun e=>?_,(hq i hi).2⟩
   · rw [(hq i hi).1,(hq (i - 1) (by omega)).1]
     exact inc_nth hK (by omega) h0
   · have:=(hq i hi).2
     rw [e] at this
     exact keysH_mem.1 hin this.symm.eq_nil
theorem right_bad_long {h:HistD} (hb:4096<h.txs.length):false=decide (RightH h):=(decide_eq_false fun hr=>by have:=hr.1;omega).symm
theorem right_bad_tx {h:HistD} {i:Nat} (hi:i<h.txs.length) (hb:¬ TxOk h i):false=decide (RightH h):=(decide_eq_false fun hr=>hb (hr.2.1 i hi)).symm
theorem right_bad_len {h:HistD} (hb:h.orders.length≠(keysH h.txs).length):false=decide (RightH h):=(decide_eq_false fun hr=>hb hr.2.2.1).symm
theorem right_bad_ord {h:HistD} {i:Nat} (hi:i<h.orders.length) (hb:¬ OrdOk h i):false=decide (RightH h):=(decide_eq_false fun hr=>hb (hr.2.2.2 i hi)).symm
theorem right_bad_ord2 {h:HistD} {i:Nat} (hi:i<h.orders.length) (hb:¬ OrdOk2 h i):false=decide (RightH h):=(decide_eq_false fun hr=>hb (((ord_same h).2 hr.2.2).2 i hi)).symm
theorem right_good {h:HistD} (h1:h.txs.length≤4096) (h2:∀ i,i<h.txs.length→TxOk h i) (h3:h.orders.length=(keysH h.txs).length) (h4:∀ i,i<h.orders.length→OrdOk h i):true=decide (RightH h):=(decide_eq_true ⟨h1,h2,h3,h4⟩).symm
theorem right_good2 {h:HistD} (h1:h.txs.length≤4096) (h2:∀ i,i<h.txs.length→TxOk h i) (h3:h.orders.length=(keysH h.txs).length) (h4:∀ i,i<h.orders.length→OrdOk2 h i):true=decide (RightH h):=(decide_eq_true ⟨h1,h2,(ord_same h).1 ⟨h3,h4⟩⟩).symm
def optL (l:List Int):Option (List Int):=if l = [] then none else some l
theorem optL_get (l:List Int):(optL l).getD [] = l:=by
 unfold optL
 split
 · rename_i h;rw [h];rfl
 · rfl
def WrL (es:List (GE Int (List Int))) (l:List TxD):Prop:=GNd es ∧ ∀ k,gGet k es=optL (writersH l k)
def WrV (es:List (GE Int (Value×List Int))) (l:List TxD) (id:Int) (ks:List Int):Prop:=GNd es ∧ ∀ k,(gGet k es).map (·.2)=optL (writersH l k++if k ∈ ks then [id] else [])
theorem wr_zero {id:Int} : WrV [] [] id []:=⟨by simp [GNd],fun k=>by simp [gGet,writersH,optL]⟩
theorem wr_lists {es:List (GE Int (Value×List Int))} {l:List TxD} {id:Int} (h:WrV es l id []):WrL (gLists es) l:=⟨by unfold GNd;rw [gLists_keys];exact h.1,fun k=>by rw [gGet_lists,h.2];simp⟩
theorem wr_other {es:List (GE Int (Value×List Int))} {l:List TxD} {id id':Int} (h:WrV es l id []):WrV es l id' []:=⟨h.1,fun k=>by rw [h.2];simp⟩
theorem wr_skip {es:List (GE Int (Value×List Int))} {l:List TxD} {i:Nat} {id:Int} (h:WrV es (l.take i) id []) (hi:i<l.length) (hd:(Go.Gm.nth l i).done=false):WrV es (l.take (i+1)) id []:=⟨h.1,fun k=>by rw [h.2,writersH_step hi];simp [hd]⟩
theorem wr_done {es:List (GE Int (Value×List Int))} {l:List TxD} {i:Nat} {id:Int} (h:WrV es (l.take i) (Go.Gm.nth l i).id (keysT (Go.Gm.nth l i))) (hi:i<l.length) (hd:(Go.Gm.nth l i).done=true):WrV es (l.take (i+1)) id []:=⟨h.1,fun k=>by
 rw [h.2,writersH_step hi]
 congr 1
 simp only [List.not_mem_nil,if_false,List.append_nil]
 congr 1
 by_cases hk:k ∈ keysT (Go.Gm.nth l i)
 · rw [if_pos hk,if_pos ⟨hd,keysT_mem.1 hk⟩]
 · rw [if_neg hk,if_neg fun h9=>hk (keysT_mem.2 h9.2)]⟩
theorem wr_old {es:List (GE Int (Value×List Int))} {l:List TxD} {id:Int} {ks:List Int} {j:Nat} (h:WrV es l id (ks.take j)) (hn:ks.Nodup) (hj:j<ks.length):((gGet (Go.Gm.nth ks j) es).getD noRow).2=writersH l (Go.Gm.nth ks j):=by
 have h1:=h.2 (Go.Gm.nth ks j)
 have hni:Go.Gm.nth ks j ∉ ks.take j:=fun hm=>by
   rw [nth_eq hj] at hm
   obtain ⟨k,hk,e⟩:=List.getElem_of_mem hm
   rw [List.length_take] at hk
   rw [List.getElem_take] at e
   have h3:=List.pairwise_iff_getElem.1 hn k j (by omega) hj (by omega)
   exact h3 e
 rw [if_neg hni,List.append_nil] at h1
 have h2:=optL_get (writersH l (Go.Gm.nth ks j))
 rw [← h1] at h2
 rw [← h2]
 cases gGet (Go.Gm.nth ks j) es <;> rfl
theorem wr_step {es:List (GE Int (Value×List Int))} {l:List TxD} {id:Int} {ks:List Int} {j ck:Nat} {v:Value} (h:WrV es l id (ks.take j)) (hn:ks.Nodup) (hj:j<ks.length):WrV (gPut (Go.Gm.nth ks j) (v,((gGet (Go.Gm.nth ks j) es).getD noRow).2 ++ [id]) (es,ck)).1 l id (ks.take (j+1)):=⟨GNd.put h.1,fun k=>by
 rw [gGet_put,wr_old h hn hj,take_nth hj]
 by_cases e:k=Go.Gm.nth ks j
 · subst e
   rw [if_pos rfl,if_pos (by simp)]
   simp [optL]
 · rw [if_neg e,h.2]
   simp [e]⟩
theorem wr_get {es:List (GE Int (List Int))} {l:List TxD} (h:WrL es l) (k:Int):(gGet k es).getD [] = writersH l k:=by rw [h.2,optL_get]
theorem wr_len {es:List (GE Int (List Int))} {l:List TxD} (h:WrL es l):es.length=(keysH l).length:=by
 have h1:(es.map (·.key)).Perm (keysH l):=by
   refine (List.perm_ext_iff_of_nodup h.1 ((keysL_inc _).1.imp fun h=>Int.ne_of_lt h)).2 fun k=>?_
   rw [← gGet_mem,h.2,show (k ∈ keysL ((l.filter fun t=>t.done).flatMap keysT)) ↔ writersH l k≠[] from keysH_mem]
   unfold optL
   split <;> simp_all
 simpa using h1.length_eq
theorem keysT_nodup (t:TxD):(keysT t).Nodup:=(keysL_inc _).1.imp fun h=>Int.ne_of_lt h
theorem sl_nil {α:Type} {R:α→List PV} {w:World} {y:Ys} : (PV.sl R ([]:List α)).p (.slice none 0 0) w y:=⟨none,0,rfl,Nat.le_refl _,by unfold maxLen;omega,.inl rfl⟩
end Go.Proofs.YtcfgcpcakdknkaaGreat
