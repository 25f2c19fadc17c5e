/- Texts put together. No condition beyond those that each theorem says. -/
import Derived.Test.YtjhapicamnijnaaGreatDoorJ1
import Derived.Test.YtjhapicamnijnaaGreatDoorJ2
import Derived.Test.YtjhapicamnijnaaGreatDoorJ0
import Derived.Test.YtjhapicamnijnaaGreatDoorLibX
import Derived.Test.YtjhapicamnijnaaGreatDoorLibG
import Derived.Test.YtjhapicamnijnaaGreatDoorLibE
namespace Go.Proofs.YtjhapicamnijnaaGreatDoor
open Go Go.Gm
set_option linter.unusedVariables false
set_option linter.unusedSimpArgs false
set_option maxHeartbeats 4000000
set_option maxRecDepth 8000
theorem Zjc (c:UInt8):∀ s,sumL (ZJ c s)≤s.length
 | []=>by simp [ZJ,sumL]
 | b :: r=>by
   have ih:=Zjc c r
   rw [ZcK]
   split
   · simp only [sumL,List.map_cons,List.sum_cons,List.length_nil,List.length_cons] at ih ⊢
     omega
   · match hs:ZJ c r with
     | []=>exact absurd hs (Zd1 c r)
     | x :: t=>
       rw [hs] at ih
       simp only [sumL,List.map_cons,List.sum_cons,List.length_cons] at ih ⊢
       omega
theorem Zkx (s:List UInt8):(wordsR s=([],0)∧s = [])∨wordsR s=([],14)∨wordsR s=(ZJ 32 s,0):=by
 unfold wordsR
 split
 · rename_i h;exact .inl ⟨rfl,h⟩
 · split
   · exact .inr (.inl rfl)
   · split
     · exact .inr (.inl rfl)
     · exact .inr (.inr rfl)
theorem ZjR (s:List UInt8):(wordsR s).1.length≤s.length+1∧sumL (wordsR s).1≤s.length:=by
 have h1:=Zei 32 s
 have h2:=List.count_le_length (a:=32) (l:=s)
 rcases Zkx s with ⟨h,_⟩ | h | h <;> rw [h]
 · simp [sumL]
 · simp [sumL]
 · exact ⟨by dsimp only;omega,Zjc 32 s⟩
def ZhJ (w:List UInt8):Prop:=w≠[] ∧ ∀ k,k<w.length→32<(nth w k).toNat∧(nth w k).toNat<127
theorem Zk2:∀ l:List (List UInt8),(∀ x ∈ l,x.all okB=true)→(Zab l).all okB=true
 | [],_=>rfl
 | [x],h=>h x (by simp)
 | x :: y :: r,h=>by
   have h1:=h x (by simp)
   have h2:=Zk2 (y :: r) fun z hz=>h z (by simp only [List.mem_cons] at hz ⊢;exact .inr hz)
   rw [Zab,List.all_append,h1,List.all_cons,h2]
   rfl
theorem Zmm {ws:List (List UInt8)} (h:∀ j,j<ws.length→ZhJ (nth ws j)):wordsR (Zab ws)=(ws,0):=by
 have hm:∀ x ∈ ws,ZhJ x:=fun x hx=>by
   obtain ⟨j,hj,rfl⟩:=List.getElem_of_mem hx
   rw [← Zp hj]
   exact h j hj
 have hc:∀ x ∈ ws,∀ c ∈ x,32<c.toNat∧c.toNat<127:=fun x hx c hc=>by
   obtain ⟨k,hk,rfl⟩:=List.getElem_of_mem hc
   rw [← Zp hk]
   exact (hm x hx).2 k hk
 by_cases h0:ws = []
 · subst h0;rfl
 · have hs:=Zhj ws h0 fun x hx hb=>by have:=(hc x hx 32 hb).1;simp at this
   have hne:Zab ws≠[]:=by
     match ws,h0,hm with
     | [x],_,hm=>exact (hm x (by simp)).1
     | x :: y :: r,_,_=>simp [Zab]
   refine Zkc hne (Zk2 ws fun x hx=>?_) hs.symm fun x hx=>(hm x hx).1
   rw [List.all_eq_true]
   intro c hcx
   have:=hc x hx c hcx
   unfold okB
   simp
   omega
structure CmdD where
 kind:Int
 tx:TxD
 order:OrdD
 key:Int
 id:Int
 place:Int
 phen:Int
 deriving DecidableEq,Inhabited
structure ZsC where
 s:List UInt8
 least:Int
 most:Int
def rCmd (c:CmdD):List PV:=[.int .i64 c.kind,.int .i64 c.tx.id,.bool c.tx.done,.sl rOp c.tx.ops,.int .i64 c.order.key,.sl rInt c.order.txs,.int .i64 c.key,.int .i64 c.id,.int .i64 c.place,.int .i64 c.phen]
def rWd (d:ZsC):List PV:=[.bs d.s,.int .i64 d.least,.int .i64 d.most]
def zeroT:TxD:=⟨0,false,[]⟩
def zeroC (k:Int):CmdD:=⟨k,zeroT,⟨0,[]⟩,0,0,0,0⟩
def Zte:List UInt8:=[97,100,100]
def Ztd:List UInt8:=[115,101,116]
def Ztk:List UInt8:=[100,101,108]
def Ztr:List UInt8:=[111,114,100]
def Ztm:List UInt8:=[109,111,118]
def ZsZ:List UInt8:=[117,110,100,111]
def Zs2:List UInt8:=[114,101,100,111]
def Ztp:List UInt8:=[97,115,107]
def Ztq:List UInt8:=[119,104,121]
def Zs9:List UInt8:=[116,101,108,108]
def Zs3:List UInt8:=[115,105,122,101]
def ZsO:List UInt8:=[100,117,109,112]
def ZP (k:Int):ZsC:=
 if k=1 then ⟨Zte,3,1073741824⟩ else if k=2 then ⟨Ztd,3,1073741824⟩ else if k=3 then ⟨Ztk,2,2⟩ else if k=4 then ⟨Ztr,2,1073741824⟩
 else if k=5 then ⟨Ztm,4,4⟩ else if k=6 then ⟨ZsZ,1,1⟩ else if k=7 then ⟨Zs2,1,1⟩ else if k=8 then ⟨Ztp,1,1⟩
 else if k=9 then ⟨Ztq,2,2⟩ else if k=10 then ⟨Zs9,2,2⟩ else if k=11 then ⟨Zs3,1,1⟩ else if k=12 then ⟨ZsO,1,1⟩ else ⟨[],0,0⟩
def Zcv (w:List UInt8):Nat→Nat→Int
 | _,0=>0
 | i,n+1=>if (ZP (i:Int)).s=w then (i:Int) else Zcv w (i+1) n
def ZbY (w:List UInt8):Int:=Zcv w 1 12
def Zbr (p:Int):List UInt8:=if p=1 then [103,48] else if p=2 then [103,49,97] else if p=3 then [103,49,98] else if p=4 then [103,49,99] else if p=5 then [103,50] else []
def Zj5 (p:Int):List UInt8:=if p=1 then [71,48] else if p=2 then [71,49,97] else if p=3 then [71,49,98] else if p=4 then [71,49,99] else if p=5 then [71,50,45,105,116,101,109] else []
def Zcr (w:List UInt8):Nat→Nat→Int
 | _,0=>0
 | i,n+1=>if Zbr (i:Int)=w then (i:Int) else Zcr w (i+1) n
def phenR (w:List UInt8):Int:=Zcr w 1 5
def numsR (l:List (List UInt8)):List Int×Int:=if Zis l≠0 then ([],Zis l) else (Zby l,0)
def Zo0:List (List UInt8)→Int
 | []=>0
 | x :: r=>if (opR x).2≠0 then (opR x).2 else Zo0 r
def ZnJ (l:List (List UInt8)):List OpD:=l.map fun x=>(opR x).1
def txR (l:List (List UInt8)):TxD×Int:=
 if 4097<l.length then (zeroT,9) else if (readR (nth l 0)).2≠0 then (zeroT,(readR (nth l 0)).2) else if nth l 1≠[99]∧nth l 1≠[97] then (zeroT,11)
 else if Zo0 (l.drop 2)≠0 then (zeroT,Zo0 (l.drop 2)) else (⟨(readR (nth l 0)).1,decide (nth l 1 = [99]),ZnJ (l.drop 2)⟩,0)
def fillR (k:Int) (l:List (List UInt8)):CmdD×Int:=
 if k=1∨k=2 then ({zeroC k with tx:=(txR l).1},(txR l).2) else if k=9 then ({zeroC k with phen:=phenR (nth l 0)},if phenR (nth l 0)=0 then 11 else 0)
 else if (numsR l).2≠0 then (zeroC k,(numsR l).2) else if k=3∨k=10 then ({zeroC k with id:=nth (numsR l).1 0},0)
 else if k=4 then ({zeroC k with order:=⟨nth (numsR l).1 0,(numsR l).1.drop 1⟩},0)
 else if k=5 then ({zeroC k with key:=nth (numsR l).1 0,id:=nth (numsR l).1 1,place:=nth (numsR l).1 2},0) else (zeroC k,0)
def Zdt (l:List (List UInt8)):CmdD×Int:=
 if l = [] then (zeroC 0,12) else if ZbY (nth l 0)=0 then (zeroC 0,11) else if (l.length:Int)<(ZP (ZbY (nth l 0))).least then (zeroC 0,12)
 else if (ZP (ZbY (nth l 0))).most<(l.length:Int) then (zeroC 0,13) else if (fillR (ZbY (nth l 0)) (l.drop 1)).2≠0 then (zeroC 0,(fillR (ZbY (nth l 0)) (l.drop 1)).2)
 else ((fillR (ZbY (nth l 0)) (l.drop 1)).1,0)
def ZbS (s:List UInt8):CmdD×Int:=if (wordsR s).2≠0 then (zeroC 0,(wordsR s).2) else Zdt (wordsR s).1
def usedR (c:CmdD):CmdD:=
 if c.kind=1∨c.kind=2 then {zeroC c.kind with tx:=c.tx} else if c.kind=3∨c.kind=10 then {zeroC c.kind with id:=c.id} else if c.kind=4 then {zeroC c.kind with order:=c.order}
 else if c.kind=5 then {zeroC c.kind with key:=c.key,id:=c.id,place:=c.place} else if c.kind=9 then {zeroC c.kind with phen:=c.phen} else zeroC c.kind
def Zqs (n:Int):Bool:=decide (0≤n) && decide (n≤2147483647)
def ZaP (c:CmdD):List Int:=[c.tx.id,c.id,c.order.key,c.key,c.place] ++ c.order.txs
def ZmN (c:CmdD):Prop:=(ZP c.kind).s≠[]∧c=usedR c∧c.tx.ops.length≤4095∧¬ (c.kind=9∧Zbr c.phen = [])
instance (c:CmdD):Decidable (ZmN c):=by unfold ZmN;exact inferInstance
def Zaj (c:CmdD):Bool:=decide (ZmN c) && ((ZaP c).all Zqs && c.tx.ops.all ZZ)
def Zfe (l:List OpD):List UInt8:=l.flatMap fun o=>32 :: Zap o
def Zcc (t:TxD):List UInt8:=textL t.id++(if t.done=true then [32,99] else [32,97])
def Zfa (t:TxD):List UInt8:=Zcc t++Zfe t.ops
def ZaL (c:CmdD):List (List UInt8):=
 if c.kind=1∨c.kind=2 then [Zfa c.tx] else if c.kind=3∨c.kind=10 then [textL c.id] else if c.kind=4 then [ZcT (c.order.key :: c.order.txs)]
 else if c.kind=5 then [ZcT [c.key,c.id,c.place]] else if c.kind=9 then [Zbr c.phen] else []
def ZcA (c:CmdD):List UInt8:=if Zaj c=false then [] else Zab ((ZP c.kind).s :: ZaL c)
theorem Zrf (u v:CmdD):(((((((decide (u.kind=v.kind) && decide (u.tx=v.tx)) && decide (u.order.key=v.order.key)) && decide (u.order.txs=v.order.txs)) && decide (u.key=v.key)) && decide (u.id=v.id)) && decide (u.place=v.place)) && decide (u.phen=v.phen))=decide (u=v):=by
 obtain ⟨a1,a2,⟨a3,a4⟩,a5,a6,a7,a8⟩:=u
 obtain ⟨b1,b2,⟨b3,b4⟩,b5,b6,b7,b8⟩:=v
 rw [Bool.eq_iff_iff]
 simp [and_assoc]
theorem kinds {k:Int} (h:1≤k∧k≤12):k=1∨k=2∨k=3∨k=4∨k=5∨k=6∨k=7∨k=8∨k=9∨k=10∨k=11∨k=12:=by omega
theorem ZmR {k:Int} (h:1≤k∧k≤12):ZbY (ZP k).s=k:=by
 rcases kinds h with rfl | rfl | rfl | rfl | rfl | rfl | rfl | rfl | rfl | rfl | rfl | rfl <;> decide +kernel
theorem Zer {k:Int} (h:(ZP k).s≠[]):1≤k∧k≤12:=by
 rcases Classical.em (1≤k∧k≤12) with hk | hk
 · exact hk
 · exfalso
   apply h
   unfold ZP
   rw [if_neg (by omega),if_neg (by omega),if_neg (by omega),if_neg (by omega),if_neg (by omega),if_neg (by omega),if_neg (by omega),if_neg (by omega),if_neg (by omega),if_neg (by omega),if_neg (by omega),if_neg (by omega)]
theorem ZfM {p:Int} (h:Zbr p≠[]):(1≤p∧p≤5)∧phenR (Zbr p)=p:=by
 have hp:1≤p∧p≤5:=by
   rcases Classical.em (1≤p∧p≤5) with hk | hk
   · exact hk
   · exfalso
     apply h
     unfold Zbr
     rw [if_neg (by omega),if_neg (by omega),if_neg (by omega),if_neg (by omega),if_neg (by omega)]
 refine ⟨hp,?_⟩
 have:p=1∨p=2∨p=3∨p=4∨p=5:=by omega
 rcases this with rfl | rfl | rfl | rfl | rfl <;> decide +kernel
theorem Zon:∀ {l:List (List UInt8)} {i:Nat},i<l.length→(∀ j,j<i→(opR (nth l j)).2=0)→(opR (nth l i)).2≠0→Zo0 l=(opR (nth l i)).2
 | [],i,h,_,_=>by simp at h
 | x :: r,0,_,_,h=>by rw [Zo0,show nth (x :: r) 0=x from rfl,if_pos (show (opR x).2≠0 from h)]
 | x :: r,i+1,h,k,hb=>by
   have h0:=k 0 (by omega)
   rw [Zo0,if_neg (by rw [show nth (x :: r) 0=x from rfl] at h0;simp [h0])]
   exact Zon (l:=r) (i:=i) (by simpa using h) (fun j hj=>k (j+1) (by omega)) hb
theorem ZfV:∀ {l:List (List UInt8)},(∀ j,j<l.length→(opR (nth l j)).2=0)→Zo0 l=0
 | [],_=>rfl
 | x :: r,k=>by
   have h0:=k 0 (by simp)
   rw [Zo0,if_neg (by rw [show nth (x :: r) 0=x from rfl] at h0;simp [h0])]
   exact ZfV (l:=r) fun j hj=>k (j+1) (by simpa using hj)
theorem ZhG (l:List (List UInt8)):(Zby l).length=l.length:=by unfold Zby;rw [List.length_map]
theorem ZpY {l:List (List UInt8)} (h:(numsR l).2=0):(numsR l).1=Zby l∧Zis l=0:=by
 unfold numsR at h ⊢
 by_cases hb:Zis l≠0
 · rw [if_pos hb] at h;exact absurd h hb
 · rw [if_neg hb];exact ⟨rfl,by simpa using hb⟩
theorem Zfo:∀ l:List OpD,(Zfe l).length≤101*l.length
 | []=>by simp [Zfe]
 | o :: l=>by
   have h1:=Zfo l
   have h2:(Zap o).length≤100:=by
     by_cases hk:ZZ o=true
     · exact ZiA hk
     · unfold Zap;rw [if_pos (by simpa using hk)];simp
   unfold Zfe at h1 ⊢
   rw [List.flatMap_cons,List.length_append,List.length_cons,List.length_cons,Nat.mul_add]
   omega
theorem Zjv {l:List OpD} {i:Nat} (h:i<l.length):Zfe (l.take (i+1))=Zfe (l.take i)++32 :: Zap (nth l i):=by
 unfold Zfe
 rw [List.take_succ_eq_append_getElem h,List.flatMap_append,Zp h]
 simp
theorem Zil {n:Int} : Zqs n=true ↔ 0≤n∧n≤2147483647:=by unfold Zqs;rw [Bool.and_eq_true,decide_eq_true_eq,decide_eq_true_eq]
theorem ZrA {u v:OrdD} : (decide (u.key=v.key) && decide (u.txs=v.txs))=decide (u=v):=by
 cases u;cases v
 rw [Bool.eq_iff_iff]
 simp
def Zba (l:List TxD):Prop:=l.length≤1000 ∧ ∀ t ∈ l,t.ops.length≤1000
def Zcx (l:List OrdD):Prop:=l.length≤4000 ∧ ∀ o ∈ l,o.txs.length≤1000
def Zbo (h:Zj):Prop:=Zba h.txs∧Zcx h.orders
theorem Zba.at {l:List TxD} (h:Zba l) {i:Nat} (hi:i<l.length):(Go.Gm.nth l i).ops.length≤1000:=h.2 _ (ZB hi)
theorem Zcx.at {l:List OrdD} (h:Zcx l) {i:Nat} (hi:i<l.length):(Go.Gm.nth l i).txs.length≤1000:=h.2 _ (ZB hi)
def ZN (l:List TxD) (id:Int):Option TxD:=l.find? fun t=>decide (t.id=id)
theorem Zo9 {l:List TxD} {id:Int} {i:Nat} (hi:i<l.length) (h:(Go.Gm.nth l i).id=id) (hq:∀ k,k<i→(Go.Gm.nth l k).id≠id):ZN l id=some (Go.Gm.nth l i):=by
 unfold ZN
 rw [List.find?_eq_some_iff_getElem]
 refine ⟨by simpa using h,i,hi,(Zp hi).symm,fun j hj=>?_⟩
 have:=hq j hj
 rw [Zp (by omega)] at this
 simpa using this
theorem ZlZ {l:List TxD} {id:Int} (hq:∀ k,k<l.length→(Go.Gm.nth l k).id≠id):ZN l id=none:=by
 unfold ZN
 rw [List.find?_eq_none]
 intro x hx
 obtain ⟨k,hk,e⟩:=List.getElem_of_mem hx
 have:=hq k hk
 rw [Zp hk,e] at this
 simpa using this
theorem findT_mem {l:List TxD} {id:Int} {t:TxD} (h:ZN l id=some t):t ∈ l∧t.id=id:=⟨List.mem_of_find?_eq_some h,by have:=List.find?_some h;simpa using this⟩
def ZgR (h:Zj) (v:Zb1):Bool:=if v.tx=0∧v.nth=0 then decide (1≤v.key∧v.key≤1048575) else (ZN h.txs v.tx).isSome && (decide (1≤v.nth) && decide (v.nth≤(wcnt ((ZN h.txs v.tx).getD zeroT).ops v.key:Int)))
def Zbt (h:Zj) (t:TxD):Bool:=(ZaE t).all (ZgR h)
def Z7 (t:TxD):List Int:=ZeG ((t.ops.filter fun o=>!o.read).map OpD.key)
theorem ZcS {t:TxD} {k:Int} : k ∈ Z7 t ↔ 0<wcnt t.ops k:=by
 unfold Z7
 rw [(Zbm _).2,List.mem_map]
 unfold wcnt
 rw [List.length_pos_iff_exists_mem]
 constructor
 · rintro ⟨o,ho,e⟩
   rw [List.mem_filter] at ho
   exact ⟨o,by rw [List.mem_filter];exact ⟨ho.1,by simp [e];simpa using ho.2⟩⟩
 · rintro ⟨o,ho⟩
   rw [List.mem_filter] at ho
   simp at ho
   exact ⟨o,by rw [List.mem_filter];simp [ho.1,ho.2.1],ho.2.2⟩
theorem ZcF (t:TxD):(Z7 t).length≤t.ops.length:=Nat.le_trans (Zf9 _) (by rw [List.length_map];exact List.length_filter_le _ _)
def ZU (l:List TxD) (k:Int):List Int:=(l.filter fun t=>t.done && decide (0<wcnt t.ops k)).map TxD.id
theorem ZbT (l:List TxD) (k:Int):(ZU l k).length≤l.length:=by unfold ZU;rw [List.length_map];exact List.length_filter_le _ _
theorem Zed {l:List TxD} {i:Nat} (hi:i<l.length) (k:Int):ZU (l.take (i+1)) k=ZU (l.take i) k++if (Go.Gm.nth l i).done=true∧0<wcnt (Go.Gm.nth l i).ops k then [(Go.Gm.nth l i).id] else []:=by
 unfold ZU
 rw [ZE hi,List.filter_append,List.map_append]
 congr 1
 by_cases h:(Go.Gm.nth l i).done=true∧0<wcnt (Go.Gm.nth l i).ops k
 · rw [if_pos h,List.filter_cons_of_pos (by simp [h.1,h.2])];rfl
 · rw [if_neg h,List.filter_cons_of_neg (by simp;intro e;exact Nat.eq_zero_of_not_pos fun e2=>h ⟨e,e2⟩)];rfl
def ZbU (l:List TxD):List Int:=ZeG ((l.filter fun t=>t.done).flatMap Z7)
theorem Zo6 {l:List TxD} (h:Zba l) (i:Nat):(ZbU (l.take i)).length≤1000*i:=by
 unfold ZbU
 refine Nat.le_trans (Zf9 _) ?_
 have key:∀ l:List TxD,(∀ t ∈ l,t.ops.length≤1000)→((l.filter fun t=>t.done).flatMap Z7).length≤1000*l.length:=by
   intro l
   induction l with
   | nil=>intro _;simp
   | cons t l ih=>
     intro h
     have h1:=ih fun x hx=>h x (by simp [hx])
     have h2:=h t (by simp)
     have h3:=ZcF t
     by_cases hd:t.done=true
     · rw [List.filter_cons_of_pos (by simpa using hd),List.flatMap_cons,List.length_append,List.length_cons]
       omega
     · rw [List.filter_cons_of_neg (by simpa using hd),List.length_cons]
       omega
 have h1:=key (l.take i) fun t ht=>h.2 t (List.mem_of_mem_take ht)
 have h2:(l.take i).length≤i:=by rw [List.length_take];omega
 exact Nat.le_trans h1 (Nat.mul_le_mul_left _ h2)
theorem Zm3 {l:List TxD} (h:Zba l):(ZbU l).length≤1000000:=by
 have h1:=Zo6 h l.length
 rw [List.take_length] at h1
 have:=h.1
 omega
theorem ZcU {l:List TxD} {k:Int} : k ∈ ZbU l ↔ ZU l k≠[]:=by
 unfold ZbU
 rw [(Zbm _).2,List.mem_flatMap]
 unfold ZU
 rw [ne_eq,List.map_eq_nil_iff,List.filter_eq_nil_iff]
 constructor
 · rintro ⟨t,ht,hk⟩ hn
   rw [List.mem_filter] at ht
   have:=hn t ht.1
   simp [ht.2] at this
   have:=ZcS.1 hk
   simp_all
 · intro hn
   simp only [Classical.not_forall] at hn
   obtain ⟨t,ht,h2⟩:=hn
   simp at h2
   exact ⟨t,by rw [List.mem_filter];exact ⟨ht,by simpa using h2.1⟩,ZcS.2 (Nat.pos_of_ne_zero h2.2)⟩
def ZpI (h:Zj) (i:Nat):Prop:=(0<i→(Go.Gm.nth h.txs (i - 1)).id<(Go.Gm.nth h.txs i).id)∧Z1 (Go.Gm.nth h.txs i)=0∧Zbt h (Go.Gm.nth h.txs i)=true
instance (h:Zj) (i:Nat):Decidable (ZpI h i):=by unfold ZpI;exact inferInstance
def Zpu (h:Zj) (i:Nat):Prop:=(Go.Gm.nth h.orders i).key=Go.Gm.nth (ZbU h.txs) i∧(Go.Gm.nth h.orders i).txs.Perm (ZU h.txs (Go.Gm.nth h.orders i).key)
instance (h:Zj) (i:Nat):Decidable (Zpu h i):=by unfold Zpu;exact inferInstance
def Zy (h:Zj):Prop:=h.txs.length≤4096∧(∀ i,i<h.txs.length→ZpI h i)∧h.orders.length=(ZbU h.txs).length ∧ ∀ i,i<h.orders.length→Zpu h i
instance (h:Zj):Decidable (Zy h):=by unfold Zy;exact inferInstance
def Zgi (h:Zj) (i:Nat):Prop:=(0<i→(Go.Gm.nth h.orders (i - 1)).key<(Go.Gm.nth h.orders i).key)∧(Go.Gm.nth h.orders i).txs≠[]∧(Go.Gm.nth h.orders i).txs.Perm (ZU h.txs (Go.Gm.nth h.orders i).key)
theorem Zh2:∀ {l:List Int},(∀ i,i<l.length→0<i→Go.Gm.nth l (i - 1)<Go.Gm.nth l i)→Ze0 l
 | [],_=>List.Pairwise.nil
 | [x],_=>by simp
 | x :: y :: l,h=>by
   have ih:=Zh2 (l:=y :: l) fun i hi h0=>by
     have:=h (i+1) (by simpa using hi) (by omega)
     obtain ⟨j,rfl⟩:∃ j,i=j+1:=⟨i - 1,by omega⟩
     have hj:j<l.length:=by simpa using hi
     rw [Zp (l:=x :: y :: l) (by simp;omega),Zp (l:=x :: y :: l) (by simp;omega)] at this
     rw [Zp (l:=y :: l) (by simp;omega),Zp (l:=y :: l) (by simp;omega)]
     exact this
   have h1:=h 1 (by simp) (by omega)
   rw [Zp (by simp),Zp (by simp)] at h1
   simp at h1
   have ih2:=List.pairwise_cons.1 ih
   refine List.pairwise_cons.2 ⟨fun z hz=>?_,ih⟩
   rcases List.mem_cons.1 hz with rfl | hz
   · exact h1
   · have:=ih2.1 z hz;omega
theorem ZrE {l:List Int} (h:Ze0 l) {i:Nat} (hi:i<l.length) (h0:0<i):Go.Gm.nth l (i - 1)<Go.Gm.nth l i:=by
 rw [Zp hi,Zp (by omega)]
 exact List.pairwise_iff_getElem.1 h (i - 1) i (by omega) hi (by omega)
theorem Zj2:∀ {b a:List Int},Ze0 a→Ze0 b→(∀ x ∈ a,x ∈ b)→a.length≤b.length∧(a.length=b.length→a=b)
 | [],a,_,_,h=>by
   have:a = []:=List.eq_nil_iff_forall_not_mem.2 fun x hx=>by cases h x hx
   subst this;simp
 | y :: b,[],_,_,_=>⟨by simp,fun h=>by simp at h⟩
 | y :: b,x :: a,ha,hb,h=>by
   have ha':=List.pairwise_cons.1 ha
   have hb':=List.pairwise_cons.1 hb
   by_cases e:x=y
   · subst e
     have ih:=Zj2 (b:=b) (a:=a) ha'.2 hb'.2 fun z hz=>by
       rcases List.mem_cons.1 (h z (by simp [hz])) with e | e
       · have:=ha'.1 z hz;omega
       · exact e
     exact ⟨by simp;exact ih.1,fun hl=>by rw [ih.2 (by simpa using hl)]⟩
   · have hx:y<x:=by
       rcases List.mem_cons.1 (h x (by simp)) with e2 | e2
       · exact absurd e2 e
       · exact hb'.1 x e2
     have ih:=Zj2 (b:=b) (a:=x :: a) ha hb'.2 fun z hz=>by
       rcases List.mem_cons.1 (h z hz) with e2 | e2
       · rcases List.mem_cons.1 hz with e3 | e3
         · omega
         · have:=ha'.1 z e3;omega
       · exact e2
     exact ⟨by have:=ih.1;simp at this ⊢;omega,fun hl=>by have:=ih.1;simp at this hl;omega⟩
theorem Zcm {α β:Type} [Inhabited α] [Inhabited β] {f:α→β} {l:List α} {i:Nat} (h:i<l.length):Go.Gm.nth (l.map f) i=f (Go.Gm.nth l i):=by
 rw [Zp (by simpa using h),Zp h];simp
theorem Zdk (h:Zj):(h.orders.length=(ZbU h.txs).length ∧ ∀ i,i<h.orders.length→Zgi h i) ↔ (h.orders.length=(ZbU h.txs).length ∧ ∀ i,i<h.orders.length→Zpu h i):=by
 have hK:Ze0 (ZbU h.txs):=(Zbm _).1
 constructor
 · rintro ⟨hl,hq⟩
   refine ⟨hl,?_⟩
   have hO:Ze0 (h.orders.map OrdD.key):=Zh2 fun i hi h0=>by
     have hi':i<h.orders.length:=by simpa using hi
     rw [Zcm (by omega),Zcm hi']
     exact (hq i hi').1 h0
   have hsub:∀ x ∈ h.orders.map OrdD.key,x ∈ ZbU h.txs:=fun x hx=>by
     obtain ⟨o,ho,rfl⟩:=List.mem_map.1 hx
     obtain ⟨k,hk,e⟩:=List.getElem_of_mem ho
     have:=hq k hk
     unfold Zgi at this
     rw [Zp hk,e] at this
     rw [ZcU]
     intro e2
     rw [e2] at this
     exact this.2.1 (List.Perm.eq_nil this.2.2)
   have he:=(Zj2 hO hK hsub).2 (by simpa using hl)
   intro i hi
   refine ⟨?_,(hq i hi).2.2⟩
   rw [← he,Zcm hi]
 · rintro ⟨hl,hq⟩
   refine ⟨hl,fun i hi=>?_⟩
   have hin:(Go.Gm.nth h.orders i).key ∈ ZbU h.txs:=by rw [(hq i hi).1];exact ZB (by omega)
   refine ⟨fun h0=>?_,fun e=>?_,(hq i hi).2⟩
   · rw [(hq i hi).1,(hq (i - 1) (by omega)).1]
     exact ZrE hK (by omega) h0
   · have:=(hq i hi).2
     rw [e] at this
     exact ZcU.1 hin this.symm.eq_nil
theorem ZgK {h:Zj} (hb:4096<h.txs.length):false=decide (Zy h):=(decide_eq_false fun hr=>by have:=hr.1;omega).symm
theorem Zi5 {h:Zj} {i:Nat} (hi:i<h.txs.length) (hb:¬ ZpI h i):false=decide (Zy h):=(decide_eq_false fun hr=>hb (hr.2.1 i hi)).symm
theorem ZhF {h:Zj} (hb:h.orders.length≠(ZbU h.txs).length):false=decide (Zy h):=(decide_eq_false fun hr=>hb hr.2.2.1).symm
theorem ZgM {h:Zj} {i:Nat} (hi:i<h.orders.length) (hb:¬ Zgi h i):false=decide (Zy h):=(decide_eq_false fun hr=>hb (((Zdk h).2 hr.2.2).2 i hi)).symm
theorem ZjM {h:Zj} (h1:h.txs.length≤4096) (h2:∀ i,i<h.txs.length→ZpI h i) (h3:h.orders.length=(ZbU h.txs).length) (h4:∀ i,i<h.orders.length→Zgi h i):true=decide (Zy h):=(decide_eq_true ⟨h1,h2,(Zdk h).1 ⟨h3,h4⟩⟩).symm
def ZqX (l:List Int):Option (List Int):=if l = [] then none else some l
theorem Zk3 (l:List Int):(ZqX l).getD [] = l:=by
 unfold ZqX
 split
 · rename_i h;rw [h];rfl
 · rfl
def WrL (es:List (GE Int (List Int))) (l:List TxD):Prop:=GNd es ∧ ∀ k,gGet k es=ZqX (ZU l k)
def WrV (es:List (GE Int (Value×List Int))) (l:List TxD) (id:Int) (ks:List Int):Prop:=GNd es ∧ ∀ k,(gGet k es).map (·.2)=ZqX (ZU l k++if k ∈ ks then [id] else [])
theorem ZqQ {id:Int} : WrV [] [] id []:=⟨by simp [GNd],fun k=>by simp [gGet,ZU,ZqX]⟩
theorem Zpd {es:List (GE Int (Value×List Int))} {l:List TxD} {id:Int} (h:WrV es l id []):WrL (ZeT es) l:=⟨by unfold GNd;rw [ZjU];exact h.1,fun k=>by rw [Zhl,h.2];simp⟩
theorem Zpx {es:List (GE Int (Value×List Int))} {l:List TxD} {id id':Int} (h:WrV es l id []):WrV es l id' []:=⟨h.1,fun k=>by rw [h.2];simp⟩
theorem ZqN {es:List (GE Int (Value×List Int))} {l:List TxD} {i:Nat} {id:Int} (h:WrV es (l.take i) id []) (hi:i<l.length) (hd:(Go.Gm.nth l i).done=false):WrV es (l.take (i+1)) id []:=⟨h.1,fun k=>by rw [h.2,Zed hi];simp [hd]⟩
theorem ZrJ {es:List (GE Int (Value×List Int))} {l:List TxD} {i:Nat} {id:Int} (h:WrV es (l.take i) (Go.Gm.nth l i).id (Z7 (Go.Gm.nth l i))) (hi:i<l.length) (hd:(Go.Gm.nth l i).done=true):WrV es (l.take (i+1)) id []:=⟨h.1,fun k=>by
 rw [h.2,Zed hi]
 congr 1
 simp only [List.not_mem_nil,if_false,List.append_nil]
 congr 1
 by_cases hk:k ∈ Z7 (Go.Gm.nth l i)
 · rw [if_pos hk,if_pos ⟨hd,ZcS.1 hk⟩]
 · rw [if_neg hk,if_neg fun h9=>hk (ZcS.2 h9.2)]⟩
theorem ZqE {es:List (GE Int (Value×List Int))} {l:List TxD} {id:Int} {ks:List Int} {j:Nat} (h:WrV es l id (ks.take j)) (hn:ks.Nodup) (hj:j<ks.length):((gGet (Go.Gm.nth ks j) es).getD Zio).2=ZU l (Go.Gm.nth ks j):=by
 have h1:=h.2 (Go.Gm.nth ks j)
 have hni:Go.Gm.nth ks j ∉ ks.take j:=fun hm=>by
   rw [Zp hj] at hm
   obtain ⟨k,hk,e⟩:=List.getElem_of_mem hm
   rw [List.length_take] at hk
   rw [List.getElem_take] at e
   have h3:=List.pairwise_iff_getElem.1 hn k j (by omega) hj (by omega)
   exact h3 e
 rw [if_neg hni,List.append_nil] at h1
 have h2:=Zk3 (ZU l (Go.Gm.nth ks j))
 rw [← h1] at h2
 rw [← h2]
 cases gGet (Go.Gm.nth ks j) es <;> rfl
theorem ZrR {es:List (GE Int (Value×List Int))} {l:List TxD} {id:Int} {ks:List Int} {j ck:Nat} {v:Value} (h:WrV es l id (ks.take j)) (hn:ks.Nodup) (hj:j<ks.length):WrV (gPut (Go.Gm.nth ks j) (v,((gGet (Go.Gm.nth ks j) es).getD Zio).2 ++ [id]) (es,ck)).1 l id (ks.take (j+1)):=⟨GNd.put h.1,fun k=>by
 rw [ZlD,ZqE h hn hj,ZE hj]
 by_cases e:k=Go.Gm.nth ks j
 · subst e
   rw [if_pos rfl,if_pos (by simp)]
   simp [ZqX]
 · rw [if_neg e,h.2]
   simp [e]⟩
theorem Zr9 {es:List (GE Int (List Int))} {l:List TxD} (h:WrL es l) (k:Int):(gGet k es).getD [] = ZU l k:=by rw [h.2,Zk3]
theorem Zsr {es:List (GE Int (List Int))} {l:List TxD} (h:WrL es l):es.length=(ZbU l).length:=by
 have h1:(es.map (·.key)).Perm (ZbU l):=by
   refine (List.perm_ext_iff_of_nodup h.1 ((Zbm _).1.imp fun h=>Int.ne_of_lt h)).2 fun k=>?_
   rw [← ZhT,h.2,show (k ∈ ZeG ((l.filter fun t=>t.done).flatMap Z7)) ↔ ZU l k≠[] from ZcU]
   unfold ZqX
   split <;> simp_all
 simpa using h1.length_eq
theorem ZgG (t:TxD):(Z7 t).Nodup:=(Zbm _).1.imp fun h=>Int.ne_of_lt h
theorem ZiD {α:Type} {R:α→List PV} {w:World} {y:Ys} : (PV.sl R ([]:List α)).p (.slice none 0 0) w y:=⟨none,0,rfl,Nat.le_refl _,by unfold maxLen;omega,.inl rfl⟩
theorem ZnT (l : List OrdD) (p : OrdD → Bool) (f : FuncId) (fn : Func) (cps : List PV) (hf : Tryz.prog.funcs[f]? = some fn) (hb : fn.body.isSome = true) (hnn : (fn.name == "runtime.NumGoroutine") = false) (hw : ∀ x, FnP Tryz.prog f (.agg (Zx x) :: cps) (.bool (p x))) : FnP Tryz.prog 82 [.sl Zx l, .clos f cps] (.int .i64 (Z3 p l)) := by
 refine FnP.mk Tryz.func82 rfl Tryz.ntmps82 rfl ?_
 intro B a w F hB hfr hS
 have hll:=Sat.lenSl hS (i:=0) rfl
 refine wp_seq ?_
 refine Za hS (qI qZ) hB [4,1,0] [0] rfl rfl fun a w F hS=>Zb (wp_seq (wp_seq ?_))
 refine Za hS (qM rfl rfl (qu Tryz.underlying23 r1 (qJ qZ))) hB [8,7,4,1,0] [0] rfl rfl fun a w F hS=>Zb (wp_block ?_)
 refine Zr (σ:=(Nat)) [0,1,4,7] [0] (fun s=>[(8,.pv (.int .i64 (s:Int)))]) (fun s=>[]) (fun s=>s≤l.length∧(∀ k,k<s→p (Go.Gm.nth l k)=false)) (fun s=>l.length - s) (0) hS ⟨rfl,rfl,rfl,rfl,rfl,trivial⟩ ⟨rfl,trivial⟩ ⟨Nat.zero_le _,fun k hk=>absurd hk (Nat.not_lt_zero k)⟩ ?_
 clear hS;intro i a w F hC hS
 try dsimp only at hC
 obtain ⟨F,hS⟩:=hS.nm [8,7,4,1,0] [0] rfl rfl
 try dsimp only at hS
 obtain ⟨hi,hq⟩:=hC
 refine wp_seq ?_
 refine Za hS (qL r2) hB [9,8,7,4,1,0] [0] rfl rfl fun a w F hS=>Zb (wp_seq ?_)
 refine Zd hS rfl (fun hc0=>?_) (fun hc0=>?_)
 ·skip
  have hil:i<l.length:=by simp at hc0;omega
  refine wp_skip (Zb (wp_seq (wp_block (wp_seq ?_))))
  refine Za hS (qM rfl rfl (qN rfl rfl qZ)) hB [8,7,5,4,1,0] [0] rfl rfl fun a w F hS=>Zb (wp_seq ?_)
  refine Za hS (qM rfl rfl (qM rfl rfl (qM rfl rfl (qy 2 Tryz.underlying23 r2 (qf (oR true 2 .t) r1 qz (qf (ZS (avs:=[.agg (Zx (Go.Gm.nth l i))]) .t (hw (Go.Gm.nth l i)) hf hb hnn (Args.one (.pagg .t))) r2 qz qZ)))))) hB [16,8,7,5,4,1,0] [0] rfl rfl fun a w F hS=>?_
  try simp only [Int.toNat_natCast] at hS
  refine Zb ?_
  refine Zd hS rfl (fun hc1=>?_) (fun hc1=>?_)
  ·skip
   have hg:(i:Int)=Z3 p l:=(Zc9 hil hc1 hq).symm
   refine wp_seq ?_
   refine Za hS (qM rfl rfl (qN rfl rfl qZ)) hB [8,7,4,1,0] [0] rfl rfl fun a w F hS=>Zb (wp_ret (Zg (Ze (Ze (Zg (Ze ?_))))))
   refine Zq hfr hS rfl rfl rfl (.int hg)
  have hne:p (Go.Gm.nth l i)=false:=hc1
  refine wp_skip (Zh (Zb ?_))
  refine Za hS (qp r1 (qM rfl rfl qZ)) hB [8,7,4,1,0] [0] rfl rfl fun a w F hS=>Zb ?_
  replace hS:=hS.ent (i:=8) (s':=.pv (.int .i64 ((i+1:Nat):Int))) rfl (.int (wrap_succ (by omega)))
  obtain ⟨F,hS⟩:=hS.nm [7,4,1,0,8] [0] rfl rfl
  exact ⟨(i+1),F,⟨by omega,(fun k hk=>by rcases Nat.lt_or_eq_of_le (Nat.le_of_lt_succ hk) with h | h;exact hq k h;rw [h];exact hne)⟩,hS,by omega⟩
 have hil:i=l.length:=by simp at hc0;omega
 have hg : -1=Z3 p l:=(ZbP fun k hk=>hq k (by simp at hc0;omega)).symm
 refine wp_exit (Zi (Zi (Zo (Zb (wp_seq ?_)))))
 refine Za hS (qI qZ) hB [4] [0] rfl rfl fun a w F hS=>Zb (wp_ret ?_)
 refine Zq hfr hS rfl rfl rfl (.int hg)
theorem ZqU (v : Value) (l : List OrdD) (hll : l.length ≤ 1000000) (p : OrdD → Bool) (f : FuncId) (fn : Func) (cps : List PV) (hf : Tryz.prog.funcs[f]? = some fn) (hb : fn.body.isSome = true) (hnn : (fn.name == "runtime.NumGoroutine") = false) (hw : ∀ x, FnP Tryz.prog f (.agg (Zx x) :: cps) (.bool (p x))) : FnG Tryz.prog 132 1 [.is v, .clos f cps] [Zu 41 2 Zx l v] (PV.one) (fun v => [Zu 41 2 Zx (l.filter fun x => !p x) v]) := by
 refine FnG.mk Tryz.func132 rfl Tryz.ntmps132 rfl (by kernel_rfl) ?_
 intro B F0 a w F hB hG hS
 replace hS:=hS.turn 1 rfl (r':=.ob (.val v) (Zu 41 2 Zx l)) (fun _ _ _ _ h=>h)
 refine wp_seq ?_
 refine Za hS (qC qZ) hB [4,1,0] [1,0] rfl rfl fun a w F hS=>Zb (wp_seq ?_)
 refine Za hS (qM rfl rfl (qM rfl rfl (qf (OpC.lendRow 1 [8] (oP (ZnT l p f fn cps hf hb hnn hw) Tryz.func82 (Args.two .t .t)) ⟨rfl,trivial,trivial⟩ (.pv (fun _ _ _ _ h=>h)) trivial (by rfl)) r2 r1 (qN rfl rfl qZ)))) hB [5,4,1,0] [1,0] rfl rfl fun a w F hS=>Zb (wp_seq (wp_seq ?_))
 refine Za hS (qM rfl rfl (qf (o_eql .t qi) r1 qz qZ)) hB [12,5,4,1,0] [1,0] rfl rfl fun a w F hS=>Zb ?_
 refine Zd hS rfl (fun hc0=>?_) (fun hc0=>?_)
 ·skip
  have hno:=(Zaq p l).resolve_right (by rintro ⟨i,h1,_⟩;simp at hc0;omega)
  have hg:(l.filter fun x=>!p x)=l:=Zdf hno.2
  refine wp_seq ?_
  refine Za hS (qM rfl rfl (qN rfl rfl qZ)) hB [5,4,1,0] [1,0] rfl rfl fun a w F hS=>Zb (wp_ret (Ze ?_))
  have hS:=hS.turn 1 rfl (r':=RS.hp (Zu 41 2 Zx (l.filter fun x=>!p x) v)) (fun _ _ _ _ h=>by rw [hg];exact h)
  refine ZaG (h':=fun v=>Zu 41 2 Zx (l.filter fun x=>!p x) v) hG hS rfl (.tmp rfl .nil) (.one .one) rfl
 obtain ⟨i0,hi0,hi1,hip,hib⟩:=(Zaq p l).resolve_left (by rintro ⟨h1,_⟩;simp [h1] at hc0)
 have hst0:=ZeB hi1 hip hib
 refine wp_skip (Zb (wp_seq (wp_seq ?_)))
 refine Za hS (qM rfl rfl (qp r1 (qN rfl rfl qZ))) hB [6,5,4,1,0] [1,0] rfl rfl fun a w F hS=>Zb (wp_block ?_)
 have hC0:i0<i0+1∧i0+1≤l.length∧l.length=l.length∧l.take i0=(l.take (i0+1)).filter (fun x=>!p x) ∧ ∀ k,i0+1≤k→k<l.length→Go.Gm.nth l k=Go.Gm.nth l k:=⟨by omega,by omega,rfl,hst0,fun k _ _=>rfl⟩
 replace hS:=hS.ent (i:=5) (s':=.pv (.int .i64 (i0:Int))) rfl (.int hi0)
 replace hS:=hS.ent (i:=6) (s':=.pv (.int .i64 ((i0+1:Nat):Int))) rfl (.int (by rw [hi0,ZC (by omega)];omega))
 refine Zr (σ:=Nat×Nat×List OrdD) [0,1,4] [0] (fun s=>[(5,.pv (.int .i64 (s.1:Int))),(6,.pv (.int .i64 (s.2.1:Int)))]) (fun s=>[(1,.ob (.val v) (Zu 41 2 Zx s.2.2))]) (fun s=>s.1<s.2.1∧s.2.1≤l.length∧s.2.2.length=l.length∧s.2.2.take s.1=(l.take s.2.1).filter (fun x=>!p x) ∧ ∀ k,s.2.1≤k→k<l.length→Go.Gm.nth s.2.2 k=Go.Gm.nth l k) (fun s=>l.length - s.2.1) ((i0),(i0+1),(l)) hS ⟨rfl,rfl,rfl,rfl,rfl,trivial⟩ ⟨rfl,rfl,trivial⟩ hC0 ?_
 clear hS;intro s a w F hC hS
 obtain ⟨i,j,l1⟩:=s
 try dsimp only at hC
 obtain ⟨F,hS⟩:=hS.nm [6,5,4,1,0] [1,0] rfl rfl
 try dsimp only at hS
 obtain ⟨hij,hj,hll1,htk,hrest⟩:=hC
 refine wp_seq (wp_seq ?_)
 refine Za hS (qM rfl rfl (qM rfl rfl (qf (ZT 1 Tryz.underlying23 .is) r1 r1 (qL r2)))) hB [19,6,5,4,1,0] [1,0] rfl rfl fun a w F hS=>Zb ?_
 refine Zd hS rfl (fun hc1=>?_) (fun hc1=>?_)
 ·skip
  have hjl:j<l.length:=by simp at hc1;omega
  have hnj:Go.Gm.nth l1 j=(Go.Gm.nth l j):=hrest j (Nat.le_refl _) hjl
  have hfs:=Zcd (p:=fun x=>!p x) hjl
  refine wp_skip (Zb (wp_seq (wp_block (wp_seq ?_))))
  refine Zc hS (qM rfl rfl (qM rfl rfl (qf (o_indexAddr_row (sz:=2) 1 (.mk Tryz.underlying23 (by kernel_rfl)) .is .t (by omega) (by omega) (by rfl)) r2 r1 (qf (Zau (ag:=true) (sz':=2) (sz:=2) 1 .t (by intro x;rfl) (by omega) (by kernel_rfl) (by kernel_rfl) (by kernel_rfl)) r1 r1 (qf (oH [.int .i64 0,.slice none 0 0] 101) trivial qz (qS 2 101 r2 r1 qZ)))))) hB [7,6,5,4,1,0] [101,1,0] (fun _=>rfl) (fun _=>rfl) fun τ a w F hS=>?_
  try dsimp only [RS.sub,SF.sub,CF.sub,csub,Anc.sub,List.map,Zf,xL,xM,Nat.reduceAdd,xD,xE,xT,xU,xC,xN,zCF,ldSF,Zx] at hS
  generalize τ 7=v7 at hS
  try simp only [Int.toNat_natCast] at hS
  rw [hnj] at hS
  refine Zb (wp_seq ?_)
  refine Za hS (qM rfl rfl (qe 2 101 r1 r1 (qf (ZS (avs:=[.agg (Zx (Go.Gm.nth l j))]) .t (hw (Go.Gm.nth l j)) hf hb hnn (Args.one (.pagg .t))) r2 qz (qf (o_not .t) r1 qz qZ)))) hB [29,7,6,5,4,1,0] [101,1,0] rfl rfl fun a w F hS=>Zb ?_
  refine Zd hS rfl (fun hc2=>?_) (fun hc2=>?_)
  ·skip
   have hp:p (Go.Gm.nth l j)=false:=by simpa using hc2
   obtain ⟨i2,hi2e⟩:∃ i2,i2=i+1:=⟨_,rfl⟩
   have hi2:IntKind.wrap .i64 ((i:Int)+1)=(i2:Int):=by rw [hi2e];exact wrap_succ (by omega)
   obtain ⟨l2,hl2⟩:∃ l2,l2=l1.set i (Go.Gm.nth l j):=⟨_,rfl⟩
   have hC2:i2<j+1∧j+1≤l.length∧l2.length=l.length∧l2.take i2=(l.take (j+1)).filter (fun x=>!p x) ∧ ∀ k,j+1≤k→k<l.length→Go.Gm.nth l2 k=Go.Gm.nth l k:=⟨by omega,by omega,by rw [hl2,List.length_set];exact hll1,by rw [hl2,hi2e,hfs,hp,← htk,ZE (by rw [List.length_set];omega),List.take_set_of_le (Nat.le_refl _),Zp (by rw [List.length_set];omega),List.getElem_set_self];rfl,fun k hk hk2=>by rw [hl2,Zp (by rw [List.length_set];omega),List.getElem_set_ne (by omega),← Zp (by omega)];exact hrest k (by omega) hk2⟩
   refine wp_seq ?_
   refine Za hS (qM rfl rfl (qM rfl rfl (qe 2 101 r1 r1 (qf (o_indexAddr_row (sz:=2) 1 (.mk Tryz.underlying23 (by kernel_rfl)) .is .t (by omega) (by omega) (by rfl)) r2 r1 (qf (ZdM (sz:=2) 1 .t (by intro x;rfl) (by omega) (.conv .t (Ent.aggU (l:=Zx (Go.Gm.nth l j)) rfl rfl)) (by kernel_rfl)) r2 r1 qZ))))) hB [6,5,4,1,0] [1,0] rfl rfl fun a w F hS=>?_
   try simp only [Int.toNat_natCast] at hS
   rw [← hl2] at hS
   refine Zb ?_
   refine Za hS (qM rfl rfl (qp r1 (qN rfl rfl qZ))) hB [6,5,4,1,0] [1,0] rfl rfl fun a w F hS=>Zh (Zb ?_)
   refine Za hS (qM rfl rfl (qp r1 (qN rfl rfl qZ))) hB [6,5,4,1,0] [1,0] rfl rfl fun a w F hS=>Zb ?_
   have hmu:l.length - (j+1)<l.length - j:=by omega
   replace hS:=hS.ent (i:=5) (s':=.pv (.int .i64 (i2:Int))) rfl (.int hi2)
   replace hS:=hS.ent (i:=6) (s':=.pv (.int .i64 ((j+1:Nat):Int))) rfl (.int (wrap_succ (by omega)))
   obtain ⟨F,hS⟩:=hS.nm [4,1,0,6,5] [0,1] rfl rfl
   exact ⟨((i2),(j+1),(l2)),F,hC2,hS,hmu⟩
  have hp:p (Go.Gm.nth l j)=true:=by simpa using hc2
  obtain ⟨i2,hi2e⟩:∃ i2,i2=i:=⟨_,rfl⟩
  have hi2:(i:Int)=(i2:Int):=by rw [hi2e]
  obtain ⟨l2,hl2⟩:∃ l2,l2=l1:=⟨_,rfl⟩
  rw [← hl2] at hS
  have hC2:i2<j+1∧j+1≤l.length∧l2.length=l.length∧l2.take i2=(l.take (j+1)).filter (fun x=>!p x) ∧ ∀ k,j+1≤k→k<l.length→Go.Gm.nth l2 k=Go.Gm.nth l k:=⟨by omega,by omega,by rw [hl2];exact hll1,by rw [hl2,hi2e,hfs,hp,htk];simp,fun k hk hk2=>by rw [hl2];exact hrest k (by omega) hk2⟩
  refine wp_skip (Zh (Zb ?_))
  refine Za hS (qM rfl rfl (qp r1 (qN rfl rfl qZ))) hB [6,5,4,1,0] [1,0] rfl rfl fun a w F hS=>Zb ?_
  have hmu:l.length - (j+1)<l.length - j:=by omega
  replace hS:=hS.ent (i:=5) (s':=.pv (.int .i64 (i2:Int))) rfl (.int hi2)
  replace hS:=hS.ent (i:=6) (s':=.pv (.int .i64 ((j+1:Nat):Int))) rfl (.int (wrap_succ (by omega)))
  obtain ⟨F,hS⟩:=hS.nm [4,1,0,6,5] [0,1] rfl rfl
  exact ⟨((i2),(j+1),(l2)),F,hC2,hS,hmu⟩
 have hjl:j=l.length:=by simp at hc1;omega
 have hil2:i<l.length:=by omega
 have hg:(l.filter fun x=>!p x)=(l1.take i++List.replicate (l1.length - i) (⟨0,[]⟩:OrdD)).take i:=by rw [List.take_append_of_le_length (by rw [List.length_take];omega),List.take_take,Nat.min_self,htk,hjl,List.take_length]
 refine wp_exit (Zi (Zi (Zo (Zb (wp_seq ?_)))))
 refine Za hS (qM rfl rfl (qM rfl rfl (qf (ZaJ (sz:=2) 1 (.mk Tryz.underlying23 (by kernel_rfl)) .is .t (by omega) (by omega)) r2 r1 (qf (Zcn (R:=Zx) (z:=(⟨0,[]⟩:OrdD)) (zs:=[.int .i64 0,.slice none 0 0]) 1 Tryz.underlying23 (by kernel_rfl) rfl rfl (fun _ _=>⟨⟨rfl,rfl,ZjD⟩,⟨rfl,ZiD⟩,trivial⟩) (by intro x;rfl) .t (by simp;omega)) r1 r1 qZ)))) hB [5,4,0] [1,0] rfl rfl fun a w F hS=>Zb (wp_seq ?_)
 refine Zc hS (qM rfl rfl (qM rfl rfl (qf (ZbL (sz:=2) 1 (.mk Tryz.underlying23 (by kernel_rfl)) (by intro x;rfl) .is .t (by omega) (by simp;omega)) r2 r1 (qN rfl rfl qZ)))) hB [4] [1,0] (fun _=>rfl) (fun _=>rfl) fun τ a w F hS=>?_
 try dsimp only [RS.sub,SF.sub,CF.sub,csub,Anc.sub,List.map,Zx] at hS
 generalize τ 41=v41 at hS
 refine Zb (wp_ret ?_)
 have hS:=hS.turn 1 rfl (r':=RS.hp (Zu 41 2 Zx (l.filter fun x=>!p x) v41)) (fun _ _ _ _ h=>by rw [hg];exact h)
 refine ZaG (h':=fun v=>Zu 41 2 Zx (l.filter fun x=>!p x) v) hG hS rfl (.tmp rfl .nil) (.one .one) rfl
theorem Zms {α:Type} {R:α→List PV} {zs:List Value} {sz:Nat} {v:α} (hz:zs.length=sz) (h0:0<sz) (hp:∀ w yy,PVs (R v) zs w yy) (n:Nat):∀ u ∈ (madeCells zs.toArray (n*sz)).toList,u.oneCell' = true:=
 (Zeb (R:=R) (v:=v) hz h0 (hp (default:World) (fun _=>False)) n).one
theorem ZnP {α:Type} {l:List α} {i:Nat} {x:α} (h:i=l.length):l.take i ++ [x] ++ l.drop i=l ++ [x]:=by rw [h];simp
theorem Zlp {α:Type} {l l2 l3:List α} {i:Nat} {x z:α} (hi:i<l.length) (h2:l2=l.take i++List.replicate (l.length+1 - i) z) (h3:l3=l2.take i ++ [x] ++ l2.drop (i + [x].length)) :
   l.take i ++ [x] ++ l.drop i=l3.take (i+1)++l.drop i++l3.drop (i+1+(l.drop i).length):=by
 have e1:l2.take i=l.take i:=by
   rw [h2,List.take_append_of_le_length (by rw [List.length_take];omega),List.take_take,Nat.min_self]
 have e0:l2.length=l.length+1:=by rw [h2,List.length_append,List.length_take,List.length_replicate];omega
 have e2:l3.take (i+1)=l.take i ++ [x]:=by
   rw [h3,e1,List.take_append_of_le_length (by rw [List.length_append,List.length_take];simp;omega),List.take_of_length_le (by rw [List.length_append,List.length_take];simp;omega)]
 have e3:l3.length=l.length+1:=by
   rw [h3,e1,List.length_append,List.length_append,List.length_take,List.length_drop,e0];simp;omega
 have e4:l3.drop (i+1+(l.drop i).length) = []:=List.drop_eq_nil_of_le (by rw [e3,List.length_drop];omega)
 rw [e2,e4,List.append_nil]
theorem ZiR {α:Type} {l l4:List α} {i:Nat} {x:α} (hi:i<l.length) (h4:l4=l.take (i+1)++l.drop i):l.take i ++ [x] ++ l.drop i=l4.take i ++ [x] ++ l4.drop (i + [x].length):=by
 have e1:l4.take i=l.take i:=by
   rw [h4,List.take_append_of_le_length (by rw [List.length_take];omega),List.take_take,Nat.min_eq_left (by omega)]
 have e2:l4.drop (i + [x].length)=l.drop i:=by
   rw [h4,show i + [x].length=i+1 from rfl,List.drop_append_of_le_length (by rw [List.length_take];omega),List.drop_eq_nil_of_le (by rw [List.length_take];omega),List.nil_append]
 rw [e1,e2]
theorem Zsz (v:Value) (l:List TxD) (i:Nat) (x:TxD) (hll:l.length≤1000000) (hi:i≤l.length):FnG Tryz.prog 94 1 [.is v,.int .i64 i,.sl rTx [x]] [Zu 38 3 rTx l v] (PV.one) (fun v=>[Zu 38 3 rTx (l.take i ++ [x] ++ l.drop i) v]):=by
 refine FnG.mk Tryz.func94 rfl Tryz.ntmps94 rfl (by kernel_rfl) ?_
 intro B F0 a w F hB hG hS
 replace hS:=hS.turn 1 rfl (r':=.ob (.val v) (Zu 38 3 rTx l)) (fun _ _ _ _ h=>h)
 refine wp_seq ?_
 refine Za hS (qC qZ) hB [6,2,1,0] [1,0] rfl rfl fun a w F hS=>Zb (wp_seq ?_)
 refine Za hS (qM rfl rfl (qM rfl rfl (qf (Zjm (sz:=3) 1 (.mk Tryz.underlying22 (by kernel_rfl)) .is .t (by omega) (by omega)) r2 r1 qZ))) hB [6,2,1,0] [1,0] rfl rfl fun a w F hS=>Zb (wp_seq ?_)
 refine Za hS (qM rfl rfl (qu Tryz.underlying22 r1 (qN rfl rfl qZ))) hB [7,6,2,1,0] [1,0] rfl rfl fun a w F hS=>?_
 replace hS:=hS.ent (i:=7) (s':=.pv (.int .i64 1)) rfl (.int rfl)
 obtain ⟨F,hS⟩:=hS.nm [7,6,2,1,0] [1,0] rfl rfl
 refine Zb (wp_seq (wp_seq ?_))
 refine Za hS (qM rfl rfl (qf (o_eql .t qi) r1 qz qZ)) hB [16,7,6,2,1,0] [1,0] rfl rfl fun a w F hS=>Zb ?_
 refine Zd hS rfl (fun hc0=>?_) (fun hc0=>?_)
 ·skip
  simp at hc0
 refine wp_skip (Zb (wp_seq ?_))
 refine Za hS (qM rfl rfl (qf (ZT 1 Tryz.underlying22 .is) r1 r1 (qN rfl rfl qZ))) hB [8,7,6,2,1,0] [1,0] rfl rfl fun a w F hS=>Zb (wp_seq (wp_seq ?_))
 refine Za hS (qM rfl rfl (qM rfl rfl (qf (o_eql .t .t) r2 qz qZ))) hB [22,8,7,6,2,1,0] [1,0] rfl rfl fun a w F hS=>Zb ?_
 refine Zd hS rfl (fun hc1=>?_) (fun hc1=>?_)
 ·skip
  have hg:=ZnP (x:=x) (by have h9:=hc1;simp at h9;omega:i=l.length)
  refine wp_seq ?_
  refine Zc hS (qM rfl rfl (qM rfl rfl (qf (o_append (sz:=3) (bs:=40) 1 (.mk' Tryz.underlying22 (by kernel_rfl) (by kernel_rfl)) (by intro x;rfl) .is (.sl .t) (by simp only [List.length_cons,List.length_nil];omega) (by decide)) ⟨rfl,rfl,trivial⟩ ⟨rfl,trivial⟩ (qN rfl rfl qZ)))) hB [8,7,6,2,1,0] [1,0] (fun _=>rfl) (fun _=>rfl) fun τ a w F hS=>?_
  try dsimp only [RS.sub,SF.sub,CF.sub,csub,Anc.sub,List.map,xC,xN,rTx] at hS
  generalize τ 25=v25 at hS
  refine Zb (wp_ret (Ze ?_))
  have hS:=hS.turn 1 rfl (r':=RS.hp (Zu 38 3 rTx (l.take i ++ [x] ++ l.drop i) v25)) (fun _ _ _ _ h=>by rw [hg];exact h)
  refine ZaG (h':=fun v=>Zu 38 3 rTx (l.take i ++ [x] ++ l.drop i) v) hG hS rfl (.tmp rfl .nil) (.one .one) rfl
 have hil:i<l.length:=by simp at hc1;omega
 have hw1:IntKind.wrap .i64 ((i:Int)+1)=((i+1:Nat):Int):=wrap_succ (by omega)
 have hwn:IntKind.wrap .i64 ((l.length:Int)+1)=((l.length+1:Nat):Int):=wrap_succ (by omega)
 refine wp_skip (Zb (wp_seq (wp_seq ?_)))
 refine Za hS (qM rfl rfl (qM rfl rfl (qf (Zbv .t .t) r2 qz (qM rfl rfl (qf (Zi2 1 Tryz.underlying22 .is) r1 r1 (qf (ZaR .t .t) r2 qz qZ)))))) hB [31,8,7,6,2,1,0] [1,0] rfl rfl fun a w F hS=>Zb ?_
 refine Zd hS rfl (fun hc2=>?_) (fun hc2=>?_)
 ·skip
  have hcap:capV v<l.length+1:=by rw [hwn] at hc2;simp at hc2;omega
  have hw:IntKind.wrap .i64 (IntKind.wrap .i64 ((l.length:Int)+1) - (i:Int))=((l.length+1 - i:Nat):Int):=by rw [hwn,ZC (by omega)];omega
  refine wp_seq ?_
  refine Zc hS (qM rfl rfl (qM rfl rfl (qf (Zc7 (sz:=3) 1 (.mk Tryz.underlying22 (by kernel_rfl)) .is .t (by omega) (by omega)) r2 r1 (qM rfl rfl (qM rfl rfl (qf (Zbv .t .t) r2 qz (qM rfl rfl (qf (o_sub .t .t) r2 qz (qf (ZbZ (R:=rTx) (z:=(⟨0,false,[]⟩:TxD)) (bs:=40) (sz:=3) (zs:=[.int .i64 0,.bool false,.slice none 0 0]) 1 101 Tryz.underlying22 Tryz.underlying3 (by kernel_rfl) (by kernel_rfl) (by kernel_rfl) (by intro x;rfl) (fun _ _=>⟨⟨rfl,rfl,ZjD⟩,⟨rfl,rfl⟩,⟨rfl,ZiD⟩,trivial⟩) .t .t (by omega) (by rw [hw];omega) (by rw [hw];omega) (by rw [hw];omega) (by rw [hw];omega)) ⟨rfl,rfl,trivial⟩ ⟨rfl,trivial⟩ (qN rfl rfl qZ)))))))))) hB [9,8,7,6,2,1,0] [101,1,0] (fun _=>rfl) (fun _=>rfl) fun τ a w F hS=>?_
  try dsimp only [RS.sub,SF.sub,CF.sub,csub,Anc.sub,List.map,xC,xN,rTx] at hS
  generalize τ 40=v40 at hS
  rw [hw] at hS
  simp only [Int.toNat_natCast] at hS
  obtain ⟨l2,hl2⟩:∃ y,y=l.take i++List.replicate (l.length+1 - i) (⟨0,false,[]⟩:TxD):=⟨_,rfl⟩
  rw [← hl2] at hS
  have hl2n:l2.length=l.length+1:=by rw [hl2,List.length_append,List.length_take,List.length_replicate];omega
  obtain ⟨F,hS⟩:=hS.give 1 0 rfl rfl
  obtain ⟨F,hS⟩:=hS.nm [9,8,7,6,2,1,0] [101,0] rfl rfl
  refine Zb (wp_seq ?_)
  refine Za hS (qM rfl rfl (qM rfl rfl (qf (ZaJ (sz:=3) 101 (.mk Tryz.underlying22 (by kernel_rfl)) .is .t (by omega) (by omega)) r2 r1 (qM rfl rfl (qf (o_copy_sub 101 Tryz.underlying22 (by kernel_rfl) (by intro x;rfl) .t .t (by simp) (by simp;omega)) r2 r1 qZ))))) hB [9,8,7,6,2,1,0] [101,0] rfl rfl fun a w F hS=>?_
  simp only [Int.toNat_natCast] at hS
  obtain ⟨l3,hl3⟩:∃ y,y=l2.take i ++ [x] ++ l2.drop (i + [x].length):=⟨_,rfl⟩
  rw [← hl3] at hS
  have hl3n:l3.length=l.length+1:=by rw [hl3,List.length_append,List.length_append,List.length_take,List.length_drop,hl2n];simp;omega
  refine Zb (wp_seq ?_)
  refine Zz hS (qM rfl rfl (qM rfl rfl (qM rfl rfl (qf (Zbv .t .t) r2 qz (qf (ZaJ (sz:=3) 101 (.mk Tryz.underlying22 (by kernel_rfl)) .is .t (by rw [hw1];omega) (by rw [hw1];omega)) r2 r1 (qM rfl rfl (qM rfl rfl (qf (o_slice_lo (sz:=3) (.mk Tryz.underlying22 (by kernel_rfl)) (by intro x;rfl) .t .t (by omega) (by omega)) r2 qz (qf (o_copy_sub 101 Tryz.underlying22 (by kernel_rfl) (by intro x;rfl) .t .t (by intro h9;have:=congrArg List.length h9;simp at this;omega) (by rw [hw1,List.length_drop];omega)) r2 r1 qZ))))))))) hB [9,8,7,6,2,1,0] [101,0] rfl rfl fun a w F hS=>?_
  try dsimp only [rTx] at hS
  rw [hw1] at hS
  simp only [Int.toNat_natCast] at hS
  have hg:=Zlp (x:=x) hil hl2 hl3
  refine Zb (wp_seq ?_)
  refine Za hS (qM rfl rfl (qN rfl rfl qZ)) hB [8,7,6,2,1,0] [101,0] rfl rfl fun a w F hS=>Zb (wp_ret (Ze ?_))
  obtain ⟨F,hS⟩:=hS.rename 101 1 rfl rfl
  have hS:=hS.turn 1 rfl (r':=RS.hp (Zu 38 3 rTx (l.take i ++ [x] ++ l.drop i) v40)) (fun _ _ _ _ h=>by rw [hg];exact h)
  refine ZaG (h':=fun v=>Zu 38 3 rTx (l.take i ++ [x] ++ l.drop i) v) hG hS rfl (.tmp rfl .nil) (.one .one) rfl
 have hcap:l.length+1≤capV v:=by rw [hwn] at hc2;simp at hc2;omega
 refine wp_skip (Zb (wp_seq ?_))
 refine Zc hS (qM rfl rfl (qM rfl rfl (qM rfl rfl (qf (Zbv .t .t) r2 qz (qf (Zhm (sz:=3) 1 (.mk Tryz.underlying22 (by kernel_rfl)) .is .t (by rw [hwn];omega) (by omega)) r2 r1 (qN rfl rfl qZ)))))) hB [8,7,6,2,1,0] [1,0] (fun _=>rfl) (fun _=>rfl) fun τ a w F hS=>?_
 try dsimp only [RS.sub,SF.sub,CF.sub,csub,Anc.sub,List.map,rTx] at hS
 generalize τ 60=v60 at hS
 refine Zb (wp_seq (wp_seq ?_))
 refine Za hS (qM rfl rfl (qM rfl rfl (qM rfl rfl (qM rfl rfl (qf (Zbv .t .t) r2 qz (qf (ZbB (sz:=3) 1 (.mk Tryz.underlying22 (by kernel_rfl)) .is .t (by rw [hw1];omega) (by rw [hw1];omega)) r2 r1 (qf (Zhg 1 Tryz.func125 (by kernel_rfl) (by kernel_rfl) (by kernel_rfl) rfl Tryz.underlying22 (by kernel_rfl) (by intro x;rfl) .t .t (by rw [hw1];omega)) r2 r1 (qf (o_not .t) r1 qz qZ)))))))) hB [68,8,7,6,2,1,0] [1,0] rfl rfl fun a w F hS=>Zb ?_
 refine Zd hS rfl (fun hc3=>?_) (fun hc3=>?_)
 ·skip
  refine wp_seq ?_
  refine Zz hS (qM rfl rfl (qM rfl rfl (qM rfl rfl (qf (Zbv .t .t) r2 qz (qf (ZbB (sz:=3) 1 (.mk Tryz.underlying22 (by kernel_rfl)) .is .t (by rw [hw1];omega) (by rw [hw1];omega)) r2 r1 (qM rfl rfl (qM rfl rfl (qf (ZbB (sz:=3) 1 (.mk Tryz.underlying22 (by kernel_rfl)) .is .t (by omega) (by omega)) r2 r1 (qf (Ze4 (k:=i) 1 Tryz.underlying22 (by kernel_rfl) (by intro x;rfl) .t .t (by rw [hw1];rfl) rfl (by omega)) r2 r1 qZ))))))))) hB [8,7,6,2,1,0] [1,0] rfl rfl fun a w F hS=>?_
  try dsimp only [rTx] at hS
  obtain ⟨l4,hl4⟩:∃ y,y=l.take (i+1)++l.drop i:=⟨_,rfl⟩
  rw [← hl4] at hS
  have hl4n:l4.length=l.length+1:=by rw [hl4,List.length_append,List.length_take,List.length_drop];omega
  refine Zb (wp_seq ?_)
  refine Za hS (qM rfl rfl (qM rfl rfl (qf (ZaJ (sz:=3) 1 (.mk Tryz.underlying22 (by kernel_rfl)) .is .t (by omega) (by omega)) r2 r1 (qM rfl rfl (qf (o_copy_sub 1 Tryz.underlying22 (by kernel_rfl) (by intro x;rfl) .t .t (by simp) (by simp;omega)) r2 r1 qZ))))) hB [8,7,6,2,1,0] [1,0] rfl rfl fun a w F hS=>?_
  simp only [Int.toNat_natCast] at hS
  have hg:=ZiR (x:=x) hil hl4
  refine Zb (wp_seq ?_)
  refine Za hS (qM rfl rfl (qN rfl rfl qZ)) hB [8,7,6,2,1,0] [1,0] rfl rfl fun a w F hS=>Zb (wp_ret (Ze ?_))
  have hS:=hS.turn 1 rfl (r':=RS.hp (Zu 38 3 rTx (l.take i ++ [x] ++ l.drop i) v60)) (fun _ _ _ _ h=>by rw [hg];exact h)
  refine ZaG (h':=fun v=>Zu 38 3 rTx (l.take i ++ [x] ++ l.drop i) v) hG hS rfl (.tmp rfl .nil) (.one .one) rfl
 simp at hc3
theorem ZsF (v:Value) (l:List OrdD) (i:Nat) (x:OrdD) (hll:l.length≤1000000) (hi:i≤l.length):FnG Tryz.prog 129 1 [.is v,.int .i64 i,.sl Zx [x]] [Zu 41 2 Zx l v] (PV.one) (fun v=>[Zu 41 2 Zx (l.take i ++ [x] ++ l.drop i) v]):=by
 refine FnG.mk Tryz.func129 rfl Tryz.ntmps129 rfl (by kernel_rfl) ?_
 intro B F0 a w F hB hG hS
 replace hS:=hS.turn 1 rfl (r':=.ob (.val v) (Zu 41 2 Zx l)) (fun _ _ _ _ h=>h)
 refine wp_seq ?_
 refine Za hS (qC qZ) hB [6,2,1,0] [1,0] rfl rfl fun a w F hS=>Zb (wp_seq ?_)
 refine Za hS (qM rfl rfl (qM rfl rfl (qf (Zjm (sz:=2) 1 (.mk Tryz.underlying23 (by kernel_rfl)) .is .t (by omega) (by omega)) r2 r1 qZ))) hB [6,2,1,0] [1,0] rfl rfl fun a w F hS=>Zb (wp_seq ?_)
 refine Za hS (qM rfl rfl (qu Tryz.underlying23 r1 (qN rfl rfl qZ))) hB [7,6,2,1,0] [1,0] rfl rfl fun a w F hS=>?_
 replace hS:=hS.ent (i:=7) (s':=.pv (.int .i64 1)) rfl (.int rfl)
 obtain ⟨F,hS⟩:=hS.nm [7,6,2,1,0] [1,0] rfl rfl
 refine Zb (wp_seq (wp_seq ?_))
 refine Za hS (qM rfl rfl (qf (o_eql .t qi) r1 qz qZ)) hB [16,7,6,2,1,0] [1,0] rfl rfl fun a w F hS=>Zb ?_
 refine Zd hS rfl (fun hc0=>?_) (fun hc0=>?_)
 ·skip
  simp at hc0
 refine wp_skip (Zb (wp_seq ?_))
 refine Za hS (qM rfl rfl (qf (ZT 1 Tryz.underlying23 .is) r1 r1 (qN rfl rfl qZ))) hB [8,7,6,2,1,0] [1,0] rfl rfl fun a w F hS=>Zb (wp_seq (wp_seq ?_))
 refine Za hS (qM rfl rfl (qM rfl rfl (qf (o_eql .t .t) r2 qz qZ))) hB [22,8,7,6,2,1,0] [1,0] rfl rfl fun a w F hS=>Zb ?_
 refine Zd hS rfl (fun hc1=>?_) (fun hc1=>?_)
 ·skip
  have hg:=ZnP (x:=x) (by have h9:=hc1;simp at h9;omega:i=l.length)
  refine wp_seq ?_
  refine Zc hS (qM rfl rfl (qM rfl rfl (qf (o_append (sz:=2) (bs:=32) 1 (.mk' Tryz.underlying23 (by kernel_rfl) (by kernel_rfl)) (by intro x;rfl) .is (.sl .t) (by simp only [List.length_cons,List.length_nil];omega) (by decide)) ⟨rfl,rfl,trivial⟩ ⟨rfl,trivial⟩ (qN rfl rfl qZ)))) hB [8,7,6,2,1,0] [1,0] (fun _=>rfl) (fun _=>rfl) fun τ a w F hS=>?_
  try dsimp only [RS.sub,SF.sub,CF.sub,csub,Anc.sub,List.map,xC,xN,Zx] at hS
  generalize τ 25=v25 at hS
  refine Zb (wp_ret (Ze ?_))
  have hS:=hS.turn 1 rfl (r':=RS.hp (Zu 41 2 Zx (l.take i ++ [x] ++ l.drop i) v25)) (fun _ _ _ _ h=>by rw [hg];exact h)
  refine ZaG (h':=fun v=>Zu 41 2 Zx (l.take i ++ [x] ++ l.drop i) v) hG hS rfl (.tmp rfl .nil) (.one .one) rfl
 have hil:i<l.length:=by simp at hc1;omega
 have hw1:IntKind.wrap .i64 ((i:Int)+1)=((i+1:Nat):Int):=wrap_succ (by omega)
 have hwn:IntKind.wrap .i64 ((l.length:Int)+1)=((l.length+1:Nat):Int):=wrap_succ (by omega)
 refine wp_skip (Zb (wp_seq (wp_seq ?_)))
 refine Za hS (qM rfl rfl (qM rfl rfl (qf (Zbv .t .t) r2 qz (qM rfl rfl (qf (Zi2 1 Tryz.underlying23 .is) r1 r1 (qf (ZaR .t .t) r2 qz qZ)))))) hB [31,8,7,6,2,1,0] [1,0] rfl rfl fun a w F hS=>Zb ?_
 refine Zd hS rfl (fun hc2=>?_) (fun hc2=>?_)
 ·skip
  have hcap:capV v<l.length+1:=by rw [hwn] at hc2;simp at hc2;omega
  have hw:IntKind.wrap .i64 (IntKind.wrap .i64 ((l.length:Int)+1) - (i:Int))=((l.length+1 - i:Nat):Int):=by rw [hwn,ZC (by omega)];omega
  refine wp_seq ?_
  refine Zc hS (qM rfl rfl (qM rfl rfl (qf (Zc7 (sz:=2) 1 (.mk Tryz.underlying23 (by kernel_rfl)) .is .t (by omega) (by omega)) r2 r1 (qM rfl rfl (qM rfl rfl (qf (Zbv .t .t) r2 qz (qM rfl rfl (qf (o_sub .t .t) r2 qz (qf (ZbZ (R:=Zx) (z:=(⟨0,[]⟩:OrdD)) (bs:=32) (sz:=2) (zs:=[.int .i64 0,.slice none 0 0]) 1 101 Tryz.underlying23 Tryz.underlying3 (by kernel_rfl) (by kernel_rfl) (by kernel_rfl) (by intro x;rfl) (fun _ _=>⟨⟨rfl,rfl,ZjD⟩,⟨rfl,ZiD⟩,trivial⟩) .t .t (by omega) (by rw [hw];omega) (by rw [hw];omega) (by rw [hw];omega) (by rw [hw];omega)) ⟨rfl,rfl,trivial⟩ ⟨rfl,trivial⟩ (qN rfl rfl qZ)))))))))) hB [9,8,7,6,2,1,0] [101,1,0] (fun _=>rfl) (fun _=>rfl) fun τ a w F hS=>?_
  try dsimp only [RS.sub,SF.sub,CF.sub,csub,Anc.sub,List.map,xC,xN,Zx] at hS
  generalize τ 40=v40 at hS
  rw [hw] at hS
  simp only [Int.toNat_natCast] at hS
  obtain ⟨l2,hl2⟩:∃ y,y=l.take i++List.replicate (l.length+1 - i) (⟨0,[]⟩:OrdD):=⟨_,rfl⟩
  rw [← hl2] at hS
  have hl2n:l2.length=l.length+1:=by rw [hl2,List.length_append,List.length_take,List.length_replicate];omega
  obtain ⟨F,hS⟩:=hS.give 1 0 rfl rfl
  obtain ⟨F,hS⟩:=hS.nm [9,8,7,6,2,1,0] [101,0] rfl rfl
  refine Zb (wp_seq ?_)
  refine Za hS (qM rfl rfl (qM rfl rfl (qf (ZaJ (sz:=2) 101 (.mk Tryz.underlying23 (by kernel_rfl)) .is .t (by omega) (by omega)) r2 r1 (qM rfl rfl (qf (o_copy_sub 101 Tryz.underlying23 (by kernel_rfl) (by intro x;rfl) .t .t (by simp) (by simp;omega)) r2 r1 qZ))))) hB [9,8,7,6,2,1,0] [101,0] rfl rfl fun a w F hS=>?_
  simp only [Int.toNat_natCast] at hS
  obtain ⟨l3,hl3⟩:∃ y,y=l2.take i ++ [x] ++ l2.drop (i + [x].length):=⟨_,rfl⟩
  rw [← hl3] at hS
  have hl3n:l3.length=l.length+1:=by rw [hl3,List.length_append,List.length_append,List.length_take,List.length_drop,hl2n];simp;omega
  refine Zb (wp_seq ?_)
  refine Zz hS (qM rfl rfl (qM rfl rfl (qM rfl rfl (qf (Zbv .t .t) r2 qz (qf (ZaJ (sz:=2) 101 (.mk Tryz.underlying23 (by kernel_rfl)) .is .t (by rw [hw1];omega) (by rw [hw1];omega)) r2 r1 (qM rfl rfl (qM rfl rfl (qf (o_slice_lo (sz:=2) (.mk Tryz.underlying23 (by kernel_rfl)) (by intro x;rfl) .t .t (by omega) (by omega)) r2 qz (qf (o_copy_sub 101 Tryz.underlying23 (by kernel_rfl) (by intro x;rfl) .t .t (by intro h9;have:=congrArg List.length h9;simp at this;omega) (by rw [hw1,List.length_drop];omega)) r2 r1 qZ))))))))) hB [9,8,7,6,2,1,0] [101,0] rfl rfl fun a w F hS=>?_
  try dsimp only [Zx] at hS
  rw [hw1] at hS
  simp only [Int.toNat_natCast] at hS
  have hg:=Zlp (x:=x) hil hl2 hl3
  refine Zb (wp_seq ?_)
  refine Za hS (qM rfl rfl (qN rfl rfl qZ)) hB [8,7,6,2,1,0] [101,0] rfl rfl fun a w F hS=>Zb (wp_ret (Ze ?_))
  obtain ⟨F,hS⟩:=hS.rename 101 1 rfl rfl
  have hS:=hS.turn 1 rfl (r':=RS.hp (Zu 41 2 Zx (l.take i ++ [x] ++ l.drop i) v40)) (fun _ _ _ _ h=>by rw [hg];exact h)
  refine ZaG (h':=fun v=>Zu 41 2 Zx (l.take i ++ [x] ++ l.drop i) v) hG hS rfl (.tmp rfl .nil) (.one .one) rfl
 have hcap:l.length+1≤capV v:=by rw [hwn] at hc2;simp at hc2;omega
 refine wp_skip (Zb (wp_seq ?_))
 refine Zc hS (qM rfl rfl (qM rfl rfl (qM rfl rfl (qf (Zbv .t .t) r2 qz (qf (Zhm (sz:=2) 1 (.mk Tryz.underlying23 (by kernel_rfl)) .is .t (by rw [hwn];omega) (by omega)) r2 r1 (qN rfl rfl qZ)))))) hB [8,7,6,2,1,0] [1,0] (fun _=>rfl) (fun _=>rfl) fun τ a w F hS=>?_
 try dsimp only [RS.sub,SF.sub,CF.sub,csub,Anc.sub,List.map,Zx] at hS
 generalize τ 60=v60 at hS
 refine Zb (wp_seq (wp_seq ?_))
 refine Za hS (qM rfl rfl (qM rfl rfl (qM rfl rfl (qM rfl rfl (qf (Zbv .t .t) r2 qz (qf (ZbB (sz:=2) 1 (.mk Tryz.underlying23 (by kernel_rfl)) .is .t (by rw [hw1];omega) (by rw [hw1];omega)) r2 r1 (qf (Zhg 1 Tryz.func158 (by kernel_rfl) (by kernel_rfl) (by kernel_rfl) rfl Tryz.underlying23 (by kernel_rfl) (by intro x;rfl) .t .t (by rw [hw1];omega)) r2 r1 (qf (o_not .t) r1 qz qZ)))))))) hB [68,8,7,6,2,1,0] [1,0] rfl rfl fun a w F hS=>Zb ?_
 refine Zd hS rfl (fun hc3=>?_) (fun hc3=>?_)
 ·skip
  refine wp_seq ?_
  refine Zz hS (qM rfl rfl (qM rfl rfl (qM rfl rfl (qf (Zbv .t .t) r2 qz (qf (ZbB (sz:=2) 1 (.mk Tryz.underlying23 (by kernel_rfl)) .is .t (by rw [hw1];omega) (by rw [hw1];omega)) r2 r1 (qM rfl rfl (qM rfl rfl (qf (ZbB (sz:=2) 1 (.mk Tryz.underlying23 (by kernel_rfl)) .is .t (by omega) (by omega)) r2 r1 (qf (Ze4 (k:=i) 1 Tryz.underlying23 (by kernel_rfl) (by intro x;rfl) .t .t (by rw [hw1];rfl) rfl (by omega)) r2 r1 qZ))))))))) hB [8,7,6,2,1,0] [1,0] rfl rfl fun a w F hS=>?_
  try dsimp only [Zx] at hS
  obtain ⟨l4,hl4⟩:∃ y,y=l.take (i+1)++l.drop i:=⟨_,rfl⟩
  rw [← hl4] at hS
  have hl4n:l4.length=l.length+1:=by rw [hl4,List.length_append,List.length_take,List.length_drop];omega
  refine Zb (wp_seq ?_)
  refine Za hS (qM rfl rfl (qM rfl rfl (qf (ZaJ (sz:=2) 1 (.mk Tryz.underlying23 (by kernel_rfl)) .is .t (by omega) (by omega)) r2 r1 (qM rfl rfl (qf (o_copy_sub 1 Tryz.underlying23 (by kernel_rfl) (by intro x;rfl) .t .t (by simp) (by simp;omega)) r2 r1 qZ))))) hB [8,7,6,2,1,0] [1,0] rfl rfl fun a w F hS=>?_
  simp only [Int.toNat_natCast] at hS
  have hg:=ZiR (x:=x) hil hl4
  refine Zb (wp_seq ?_)
  refine Za hS (qM rfl rfl (qN rfl rfl qZ)) hB [8,7,6,2,1,0] [1,0] rfl rfl fun a w F hS=>Zb (wp_ret (Ze ?_))
  have hS:=hS.turn 1 rfl (r':=RS.hp (Zu 41 2 Zx (l.take i ++ [x] ++ l.drop i) v60)) (fun _ _ _ _ h=>by rw [hg];exact h)
  refine ZaG (h':=fun v=>Zu 41 2 Zx (l.take i ++ [x] ++ l.drop i) v) hG hS rfl (.tmp rfl .nil) (.one .one) rfl
 simp at hc3
theorem Zr5 (v:Value) (l:List TxD) (i:Nat) (hll:l.length≤1000000) (hi:i<l.length):FnG Tryz.prog 99 1 [.is v,.int .i64 i,.int .i64 ((i+1:Nat):Int)] [Zu 38 3 rTx l v] (PV.one) (fun v=>[Zu 38 3 rTx (l.take i++l.drop (i+1)) v]):=by
 refine FnG.mk Tryz.func99 rfl Tryz.ntmps99 rfl (by kernel_rfl) ?_
 intro B F0 a w F hB hG hS
 replace hS:=hS.turn 1 rfl (r':=.ob (.val v) (Zu 38 3 rTx l)) (fun _ _ _ _ h=>h)
 have hrc:=(hS.rowCap (n:=1) rfl).1
 refine wp_seq ?_
 refine Za hS (qC qZ) hB [6,2,1,0] [1,0] rfl rfl fun a w F hS=>Zb (wp_seq ?_)
 refine Za hS (qM rfl rfl (qM rfl rfl (qM rfl rfl (qM rfl rfl (qf (ZT 1 Tryz.underlying22 .is) r1 r1 (qf (Zpp (sz:=3) 1 (.mk Tryz.underlying22 (by kernel_rfl)) .is .t .t .t (by omega) (by omega) (by omega) (by omega)) r4 r1 qZ)))))) hB [6,2,1,0] [1,0] rfl rfl fun a w F hS=>Zb (wp_seq (wp_seq ?_))
 refine Za hS (qM rfl rfl (qM rfl rfl (qf (o_eql .t .t) r2 qz qZ))) hB [16,6,2,1,0] [1,0] rfl rfl fun a w F hS=>Zb ?_
 refine Zd hS rfl (fun hc0=>?_) (fun hc0=>?_)
 ·skip
  simp at hc0;omega
 refine wp_skip (Zb (wp_seq ?_))
 refine Za hS (qM rfl rfl (qf (ZT 1 Tryz.underlying22 .is) r1 r1 (qN rfl rfl qZ))) hB [7,6,2,1,0] [1,0] rfl rfl fun a w F hS=>Zb (wp_seq ?_)
 refine Zz hS (qM rfl rfl (qM rfl rfl (qf (Zc7 (sz:=3) 1 (.mk Tryz.underlying22 (by kernel_rfl)) .is .t (by omega) (by omega)) r2 r1 (qM rfl rfl (qM rfl rfl (qf (Zjg (sz:=3) 1 (.mk Tryz.underlying22 (by kernel_rfl)) .is .t (by omega) (by omega) (by omega)) r2 r1 (qf (ZhP 1 Tryz.underlying22 (by kernel_rfl) (by intro x;rfl) .t .t (by omega) (by omega) (by omega)) ⟨rfl,rfl,trivial⟩ ⟨rfl,trivial⟩ (qN rfl rfl qZ)))))))) hB [7,6,0] [1,0] rfl rfl fun a w F hS=>?_
 try dsimp only [xC,xN,rTx] at hS
 simp only [Int.toNat_natCast] at hS
 obtain ⟨v2,hv2⟩:∃ y,y=Zif (i+(l.length - (i+1))) v:=⟨_,rfl⟩
 rw [← hv2] at hS
 have hcv:capV v2=capV v:=by rw [hv2];exact ZoT _ _
 obtain ⟨l4,hl4⟩:∃ y,y=l.take i++l.drop (i+1):=⟨_,rfl⟩
 rw [← hl4] at hS
 have hl4n:l4.length+1=l.length:=by rw [hl4,List.length_append,List.length_take,List.length_drop];omega
 have hg:=hl4.symm
 refine Zb (wp_seq ?_)
 refine Za hS (qM rfl rfl (qM rfl rfl (qf (ZT 1 Tryz.underlying22 .is) r1 r1 (qM rfl rfl (qf (Zrz (sz:=3) 1 (.mk Tryz.underlying22 (by kernel_rfl)) .is .t .t (by omega) (by omega) (by rw [hcv];omega)) r3 r1 (qf (ZhQ (zs:=[.int .i64 0,.bool false,.slice none 0 0]) 1 Tryz.underlying22 rfl rfl (Zms (zs:=[.int .i64 0,.bool false,.slice none 0 0]) (R:=rTx) (v:=(⟨0,false,[]⟩:TxD)) rfl (by decide) (fun _ _=>⟨⟨rfl,rfl,ZjD⟩,⟨rfl,rfl⟩,⟨rfl,ZiD⟩,trivial⟩) _) .t (by omega) (by rw [hcv];omega)) r1 r1 qZ)))))) hB [6,0] [1,0] rfl rfl fun a w F hS=>Zb (wp_seq ?_)
 refine Za hS (qM rfl rfl (qN rfl rfl qZ)) hB [6] [1,0] rfl rfl fun a w F hS=>Zb (wp_ret ?_)
 have hS:=hS.turn 1 rfl (r':=RS.hp (Zu 38 3 rTx (l.take i++l.drop (i+1)) v2)) (fun _ _ _ _ h=>by rw [hg];exact h)
 refine ZaG (h':=fun v=>Zu 38 3 rTx (l.take i++l.drop (i+1)) v) hG hS rfl (.tmp rfl .nil) (.one .one) rfl
def Zip (x y:Int):Int:=if x<y then -1 else if y<x then 1 else 0
theorem Zia {x y:Int} : Zip x y<0 ↔ x<y:=by unfold Zip;split <;> (try split) <;> omega
theorem Zm9 {x y:Int} : Zip x y=0 ↔ x=y:=by unfold Zip;split <;> (try split) <;> omega
theorem ZsY {x:Int} (h:0≤x∧x≤18446744073709551615):IntKind.wrap .u64 x=x:=ZhN ⟨by simp [IntKind.min,IntKind.signed,IntKind.bits];omega,by simp [IntKind.max,IntKind.signed,IntKind.bits];omega⟩
theorem Zov {i j:Nat} (h:i+j≤2000000):IntKind.wrap .i64 ((IntKind.wrap .u64 (IntKind.wrap .i64 ((i:Int)+(j:Int)))).fdiv (2 ^ min (1:Int).toNat (IntKind.bits .u64)))=(((i+j) / 2:Nat):Int):=by
 rw [ZC (x:=(i:Int)+(j:Int)) (by omega),ZsY (by omega),show (2:Int) ^ min (1:Int).toNat (IntKind.bits .u64)=2 by decide,Int.fdiv_eq_ediv_of_nonneg _ (by decide),ZC (by omega)]
 omega
def Zb0 {α:Type} [Inhabited α] (κ:α→Int) (l:List α):Prop:=∀ a b,a<b→b<l.length→κ (Go.Gm.nth l a)<κ (Go.Gm.nth l b)
def lowK {α:Type} (κ:α→Int) (k:Int) (l:List α):Nat:=(l.takeWhile fun x=>decide (κ x<k)).length
def isK {α:Type} (κ:α→Int) (k:Int) (l:List α):Bool:=l.any fun x=>decide (κ x=k)
theorem Zim {α:Type} [Inhabited α] {κ:α→Int} {k:Int} : ∀ {l:List α} {i:Nat},i≤l.length→(∀ q,q<i→κ (Go.Gm.nth l q)<k)→(∀ q,i≤q→q<l.length→k≤κ (Go.Gm.nth l q))→lowK κ k l=i
 | [],i,hi,_,_=>by simp at hi;subst hi;rfl
 | x :: l,0,_,_,h2=>by
   have:=h2 0 (Nat.le_refl _) (by simp)
   rw [Zp (by simp)] at this
   unfold lowK
   rw [List.takeWhile_cons_of_neg (by simpa using this)];rfl
 | x :: l,i+1,hi,h1,h2=>by
   have hx:=h1 0 (by omega)
   rw [Zp (by simp)] at hx
   have ih:=Zim (κ:=κ) (k:=k) (l:=l) (i:=i) (by simpa using hi) (fun q hq=>by
     have:=h1 (q+1) (by omega)
     rw [Zp (by simp at hi ⊢;omega)] at this
     rw [Zp (by simp at hi;omega)];simpa using this) (fun q hq hq2=>by
     have:=h2 (q+1) (by omega) (by simp;omega)
     rw [Zp (by simp;omega)] at this
     rw [Zp hq2];simpa using this)
   unfold lowK at ih ⊢
   rw [List.takeWhile_cons_of_pos (by simpa using hx),List.length_cons,ih]
theorem Zqq {α:Type} [Inhabited α] {κ:α→Int} {k:Int} {l:List α} {i:Nat} (hi:i≤l.length) (hs:Zb0 κ l) (h1:∀ q,q<i→κ (Go.Gm.nth l q)<k) (h2:∀ q,i≤q→q<l.length→k≤κ (Go.Gm.nth l q)):isK κ k l=true ↔ i<l.length∧κ (Go.Gm.nth l i)=k:=by
 unfold isK
 rw [List.any_eq_true]
 constructor
 · rintro ⟨x,hx,hk⟩
   obtain ⟨q,hq,e⟩:=List.getElem_of_mem hx
   have hk':κ (Go.Gm.nth l q)=k:=by rw [Zp hq,e];simpa using hk
   have hiq:i≤q:=Nat.le_of_not_lt fun h=>by have:=h1 q h;omega
   rcases Nat.lt_or_eq_of_le hiq with h | h
   · have a1:=hs i q h hq
     have a2:=h2 i (Nat.le_refl _) (by omega)
     omega
   · subst h;exact ⟨hq,hk'⟩
 · rintro ⟨h3,h4⟩
   exact ⟨_,ZB h3,by simpa using h4⟩
theorem ZfW {α:Type} [Inhabited α] {κ:α→Int} {l:List α} (hs:Zb0 κ l) {a b:Nat} (h:a≤b) (hb:b<l.length):κ (Go.Gm.nth l a)≤κ (Go.Gm.nth l b):=by
 rcases Nat.lt_or_eq_of_le h with h | h
 · exact Int.le_of_lt (hs a b h hb)
 · subst h;exact Int.le_refl _
theorem Zlw (x:Int):FnP Tryz.prog 163 [.int .i64 x] (.bool false):=by
 refine FnP.mk Tryz.func163 rfl Tryz.ntmps163 rfl ?_
 intro B a w F hB hfr hS
 refine wp_seq ?_
 refine Za hS qB hB [2,0] [0] rfl rfl fun a w F hS=>Zb (wp_seq ?_)
 refine Za hS (qM rfl rfl (qM rfl rfl (qf (o_neq .t .t) r2 qz (qN rfl rfl qZ)))) hB [2] [0] rfl rfl fun a w F hS=>Zb (wp_ret ?_)
 refine Zq hfr hS rfl rfl rfl (.bool (by simp))
theorem ZqA (x y:Int):FnP Tryz.prog 136 [.int .i64 x,.int .i64 y] (.int .i64 (Zip x y)):=by
 refine FnP.mk Tryz.func136 rfl Tryz.ntmps136 rfl ?_
 intro B a w F hB hfr hS
 refine wp_seq ?_
 refine Za hS (qI qZ) hB [4,1,0] [0] rfl rfl fun a w F hS=>Zb (wp_seq ?_)
 refine Za hS (qM rfl rfl (qf (oP (Zlw x) Tryz.func163 (Args.one .t)) r1 qz (qN rfl rfl qZ))) hB [5,4,1,0] [0] rfl rfl fun a w F hS=>Zb (wp_seq ?_)
 refine Za hS (qM rfl rfl (qf (oP (Zlw y) Tryz.func163 (Args.one .t)) r1 qz (qN rfl rfl qZ))) hB [6,5,4,1,0] [0] rfl rfl fun a w F hS=>Zb (wp_seq (wp_seq ?_))
 refine Za hS (qM rfl rfl qZ) hB [11,6,4,1,0] [0] rfl rfl fun a w F hS=>Zb ?_
 refine Zd hS rfl (fun hc0=>?_) (fun hc0=>?_)
 ·skip
  simp at hc0
 refine wp_skip (Zb (wp_seq (wp_seq ?_)))
 refine Za hS (qM rfl rfl qZ) hB [13,4,1,0] [0] rfl rfl fun a w F hS=>Zb ?_
 refine Zd hS rfl (fun hc1=>?_) (fun hc1=>?_)
 ·skip
  simp at hc1
 refine wp_skip (Zb (wp_seq (wp_seq ?_)))
 refine Za hS (qM rfl rfl (qM rfl rfl (qL r2))) hB [16,4,1,0] [0] rfl rfl fun a w F hS=>Zb ?_
 refine Zd hS rfl (fun hc2=>?_) (fun hc2=>?_)
 ·skip
  have hg:(-1:Int)=Zip x y:=by unfold Zip;rw [if_pos (by simpa using hc2)]
  refine wp_seq ?_
  refine Za hS (qI qZ) hB [4,1,0] [0] rfl rfl fun a w F hS=>Zb (wp_ret (Ze ?_))
  refine Zq hfr hS rfl rfl rfl (.int hg)
 have h1:¬ x<y:=by simpa using hc2
 refine wp_skip (Zb (wp_seq (wp_seq ?_)))
 refine Za hS (qM rfl rfl (qM rfl rfl (qf (ZaR .t .t) r2 qz qZ))) hB [19,4] [0] rfl rfl fun a w F hS=>Zb ?_
 refine Zd hS rfl (fun hc3=>?_) (fun hc3=>?_)
 ·skip
  have hg:(1:Int)=Zip x y:=by unfold Zip;rw [if_neg h1,if_pos (by simpa using hc3)]
  refine wp_seq ?_
  refine Za hS (qI qZ) hB [4] [0] rfl rfl fun a w F hS=>Zb (wp_ret (Ze ?_))
  refine Zq hfr hS rfl rfl rfl (.int hg)
 have hg:(0:Int)=Zip x y:=by unfold Zip;rw [if_neg h1,if_neg (by simpa using hc3)]
 refine wp_skip (Zb (wp_seq ?_))
 refine Za hS (qI qZ) hB [4] [0] rfl rfl fun a w F hS=>Zb (wp_ret ?_)
 refine Zq hfr hS rfl rfl rfl (.int hg)
theorem Zph (x:TxD) (k:Int):FnP Tryz.prog 135 [.agg (rTx x),.int .i64 k] (.int .i64 (Zip x.id k)):=by
 refine FnP.mk Tryz.func135 rfl Tryz.ntmps135 rfl ?_
 intro B a w F hB hfr hS
 refine wp_seq ?_
 refine Zc hS (qx 101 r1 (qI qZ)) hB [4,2,1] [101,0] (fun _=>rfl) (fun _=>rfl) fun τ a w F hS=>?_
 try dsimp only [RS.sub,SF.sub,CF.sub,csub,Anc.sub,List.map,zCF,rTx] at hS
 generalize τ 2=v2 at hS
 refine Zb (wp_seq ?_)
 refine Za hS (qg 0 101 r1 r1 (qa 101 r1 r1 (qM rfl rfl (qf (oP (ZqA x.id k) Tryz.func136 (Args.two .t .t)) r2 qz (qN rfl rfl qZ))))) hB [4] [0] rfl rfl fun a w F hS=>Zb (wp_ret ?_)
 refine Zq hfr hS rfl rfl rfl (.int rfl)
theorem Zox (x:OrdD) (k:Int):FnP Tryz.prog 128 [.agg (Zx x),.int .i64 k] (.int .i64 (Zip x.key k)):=by
 refine FnP.mk Tryz.func128 rfl Tryz.ntmps128 rfl ?_
 intro B a w F hB hfr hS
 refine wp_seq ?_
 refine Zc hS (qx 101 r1 (qI qZ)) hB [4,2,1] [101,0] (fun _=>rfl) (fun _=>rfl) fun τ a w F hS=>?_
 try dsimp only [RS.sub,SF.sub,CF.sub,csub,Anc.sub,List.map,zCF,Zx] at hS
 generalize τ 2=v2 at hS
 refine Zb (wp_seq ?_)
 refine Za hS (qg 0 101 r1 r1 (qa 101 r1 r1 (qM rfl rfl (qf (oP (ZqA x.key k) Tryz.func136 (Args.two .t .t)) r2 qz (qN rfl rfl qZ))))) hB [4] [0] rfl rfl fun a w F hS=>Zb (wp_ret ?_)
 refine Zq hfr hS rfl rfl rfl (.int rfl)
theorem ZsV (l : List TxD) (k : Int) (hll : l.length ≤ 1000000) (hs : Zb0 TxD.id l) (f : FuncId) (fn : Func) (cps : List PV) (hf : Tryz.prog.funcs[f]? = some fn) (hb : fn.body.isSome = true) (hnn : (fn.name == "runtime.NumGoroutine") = false) (hw : ∀ x : TxD, FnP Tryz.prog f (.agg (rTx x) :: .int .i64 k :: cps) (.int .i64 (Zip (TxD.id x) k))) : FnP Tryz.prog 134 [.sl rTx l, .int .i64 k, .clos f cps] (.tup [.int .i64 (lowK TxD.id k l), .bool (isK TxD.id k l)]) := by
 refine FnP.mk Tryz.func134 rfl Tryz.ntmps134 rfl ?_
 intro B a w F hB hfr hS
 refine wp_seq ?_
 refine Za hS (qI qB) hB [7,6,2,1,0] [0] rfl rfl fun a w F hS=>Zb (wp_seq ?_)
 refine Za hS (qM rfl rfl (qu Tryz.underlying22 r1 (qN rfl rfl qZ))) hB [8,7,6,2,1,0] [0] rfl rfl fun a w F hS=>Zb (wp_seq ?_)
 refine Za hS (qM rfl rfl (qI (qN rfl rfl qZ))) hB [10,9,8,7,6,2,1,0] [0] rfl rfl fun a w F hS=>Zb (wp_seq (wp_block ?_))
 refine Zr (σ:=Nat×Nat) [0,1,2,6,7,8] [0] (fun s=>[(9,.pv (.int .i64 (s.1:Int))),(10,.pv (.int .i64 (s.2:Int)))]) (fun s=>[]) (fun s=>s.1≤s.2∧s.2≤l.length∧(∀ q,q<s.1→TxD.id (Go.Gm.nth l q)<k) ∧ ∀ q,s.2≤q→q<l.length→k≤TxD.id (Go.Gm.nth l q)) (fun s=>s.2 - s.1) ((0),(l.length)) hS ⟨rfl,rfl,rfl,rfl,rfl,rfl,rfl,rfl,trivial⟩ ⟨rfl,trivial⟩ ⟨Nat.zero_le _,Nat.le_refl _,fun q hq=>absurd hq (Nat.not_lt_zero q),fun q h1 h2=>by omega⟩ ?_
 clear hS;intro s a w F hC hS
 obtain ⟨i,j⟩:=s
 try dsimp only at hC
 obtain ⟨F,hS⟩:=hS.nm [10,9,8,7,6,2,1,0] [0] rfl rfl
 try dsimp only at hS
 obtain ⟨hij,hjl,hlo,hhi⟩:=hC
 have hgs:=Zqq (i:=i) (by omega) hs hlo
 have hgl:=Zim (i:=i) (by omega) hlo
 refine wp_seq (wp_seq ?_)
 refine Za hS (qM rfl rfl (qM rfl rfl (qL r2))) hB [17,10,9,8,7,6,2,1,0] [0] rfl rfl fun a w F hS=>Zb ?_
 refine Zd hS rfl (fun hc0=>?_) (fun hc0=>?_)
 ·skip
  have hlt:i<j:=by simp at hc0;omega
  refine wp_skip (Zb (wp_block (wp_seq ?_)))
  refine Za hS (qM rfl rfl (qM rfl rfl (qf (Zbv .t .t) r2 qz (qf (Zcy Tryz.underlying178 (by kernel_rfl) .t) r1 qz (qf (Zsk .t qi (by decide)) r1 qz (qf (Zcy Tryz.underlying3 (by kernel_rfl) .t) r1 qz (qN rfl rfl qZ))))))) hB [11,10,9,8,7,6,2,1,0] [0] rfl rfl fun a w F hS=>?_
  obtain ⟨m,hm⟩:∃ m:Nat,m=(i+j) / 2:=⟨_,rfl⟩
  replace hS:=hS.ent (i:=11) (s':=.pv (.int .i64 (m:Int))) rfl (.int (by rw [hm];exact Zov (by omega)))
  obtain ⟨F,hS⟩:=hS.nm [11,10,9,8,7,6,2,1,0] [0] rfl rfl
  refine Zb (wp_seq ?_)
  refine Za hS (qM rfl rfl (qM rfl rfl (qM rfl rfl (qy 3 Tryz.underlying22 r2 (qf (oR true 3 .t) r1 qz (qM rfl rfl (qf (ZS (avs:=[.agg (rTx (Go.Gm.nth l m)),.int .i64 k]) .t (hw (Go.Gm.nth l m)) hf hb hnn (Args.two (.pagg .t) .t)) r3 qz (qf (Zbq .t qi) r1 qz qZ)))))))) hB [31,11,10,9,8,7,6,2,1,0] [0] rfl rfl fun a w F hS=>?_
  try simp only [Int.toNat_natCast] at hS
  refine Zb ?_
  refine Zd hS rfl (fun hc1=>?_) (fun hc1=>?_)
  ·skip
   have hmk:TxD.id (Go.Gm.nth l m)<k:=Zia.1 (by simpa using hc1)
   obtain ⟨i2,hi2e⟩:∃ z,z=m+1:=⟨_,rfl⟩
   obtain ⟨j2,hj2e⟩:∃ z,z=j:=⟨_,rfl⟩
   have hi2:IntKind.wrap .i64 ((m:Int)+1)=(i2:Int):=by rw [hi2e];exact wrap_succ (by omega)
   have hj2:(j:Int)=(j2:Int):=by rw [hj2e]
   have hmu:j2 - i2<j - i:=by omega
   have hC2:i2≤j2∧j2≤l.length∧(∀ q,q<i2→TxD.id (Go.Gm.nth l q)<k) ∧ ∀ q,j2≤q→q<l.length→k≤TxD.id (Go.Gm.nth l q):=⟨by omega,by omega,fun q hq=>Int.lt_of_le_of_lt (ZfW hs (by omega) (by omega)) hmk,by rw [hj2e];exact hhi⟩
   refine Za hS (qM rfl rfl (qp r1 (qN rfl rfl qZ))) hB [10,9,8,7,6,2,1,0] [0] rfl rfl fun a w F hS=>Zh (Zb ?_)
   replace hS:=hS.ent (i:=9) (s':=.pv (.int .i64 (i2:Int))) rfl (.int hi2)
   replace hS:=hS.ent (i:=10) (s':=.pv (.int .i64 (j2:Int))) rfl (.int hj2)
   obtain ⟨F,hS⟩:=hS.nm [8,7,6,2,1,0,10,9] [0] rfl rfl
   exact ⟨((i2),(j2)),F,hC2,hS,hmu⟩
  have hmk:k≤TxD.id (Go.Gm.nth l m):=Int.not_lt.1 fun e=>(show ¬ Zip (TxD.id (Go.Gm.nth l m)) k<0 by simpa using hc1) (Zia.2 e)
  obtain ⟨i2,hi2e⟩:∃ z,z=i:=⟨_,rfl⟩
  obtain ⟨j2,hj2e⟩:∃ z,z=m:=⟨_,rfl⟩
  have hi2:(i:Int)=(i2:Int):=by rw [hi2e]
  have hj2:(m:Int)=(j2:Int):=by rw [hj2e]
  have hmu:j2 - i2<j - i:=by omega
  have hC2:i2≤j2∧j2≤l.length∧(∀ q,q<i2→TxD.id (Go.Gm.nth l q)<k) ∧ ∀ q,j2≤q→q<l.length→k≤TxD.id (Go.Gm.nth l q):=⟨by omega,by omega,by rw [hi2e];exact hlo,fun q h1 h2=>Int.le_trans hmk (ZfW hs (by omega) h2)⟩
  refine Za hS (qM rfl rfl (qN rfl rfl qZ)) hB [10,9,8,7,6,2,1,0] [0] rfl rfl fun a w F hS=>Zh (Zb ?_)
  replace hS:=hS.ent (i:=9) (s':=.pv (.int .i64 (i2:Int))) rfl (.int hi2)
  replace hS:=hS.ent (i:=10) (s':=.pv (.int .i64 (j2:Int))) rfl (.int hj2)
  obtain ⟨F,hS⟩:=hS.nm [8,7,6,2,1,0,10,9] [0] rfl rfl
  exact ⟨((i2),(j2)),F,hC2,hS,hmu⟩
 have hjj:i=j:=by simp at hc0;omega
 subst hjj
 have hgl2:=hgl hhi
 have hgs2:=hgs hhi
 have hb2:(decide ((i:Int)<(l.length:Int)) && decide (Zip (TxD.id (Go.Gm.nth l i)) k=0))=isK TxD.id k l:=by
   rw [Bool.eq_iff_iff,hgs2]
   simp [Zm9]
 refine wp_exit (Zi (Zi (Zo (Zb (wp_seq ?_)))))
 refine Za hS (qM rfl rfl (qM rfl rfl (qM rfl rfl (qf (Zbq .t .t) r2 qz (qM rfl rfl (qm rfl rfl rfl rfl (qm rfl rfl rfl rfl (qm rfl rfl rfl rfl (qk rfl (fun h=>o_indexAddr_sl (sz:=3) (.mk Tryz.underlying22 (by kernel_rfl)) (by intro x;rfl) (.w h) (.w h) (by omega) (by have:=of_decide_eq_true h;omega)) r3 qz (qk rfl (fun h=>oR true 3 (.w h)) r2 qz (qm rfl rfl rfl rfl (qk rfl (fun h=>ZS (avs:=[.agg (rTx (Go.Gm.nth l i)),.int .i64 k]) (.w h) (hw (Go.Gm.nth l i)) hf hb hnn (Args.two (.pagg (.w h)) (.w h))) r4 qz (qk rfl (fun h=>o_eql (.w h) qi) r2 qz (qf (ZK .t .t) r2 qz (qN rfl rfl (qN rfl rfl qZ)))))))))))))))) hB [7,6] [0] rfl rfl fun a w F hS=>?_
 try simp only [Int.toNat_natCast] at hS
 refine Zb (wp_ret ?_)
 refine Zt hfr hS rfl (.tmp rfl (.tmp rfl .nil)) (.two (.int (by rw [hgl2])) (.bool hb2))
theorem Zsp (l : List OrdD) (k : Int) (hll : l.length ≤ 1000000) (hs : Zb0 OrdD.key l) (f : FuncId) (fn : Func) (cps : List PV) (hf : Tryz.prog.funcs[f]? = some fn) (hb : fn.body.isSome = true) (hnn : (fn.name == "runtime.NumGoroutine") = false) (hw : ∀ x : OrdD, FnP Tryz.prog f (.agg (Zx x) :: .int .i64 k :: cps) (.int .i64 (Zip (OrdD.key x) k))) : FnP Tryz.prog 127 [.sl Zx l, .int .i64 k, .clos f cps] (.tup [.int .i64 (lowK OrdD.key k l), .bool (isK OrdD.key k l)]) := by
 refine FnP.mk Tryz.func127 rfl Tryz.ntmps127 rfl ?_
 intro B a w F hB hfr hS
 refine wp_seq ?_
 refine Za hS (qI qB) hB [7,6,2,1,0] [0] rfl rfl fun a w F hS=>Zb (wp_seq ?_)
 refine Za hS (qM rfl rfl (qu Tryz.underlying23 r1 (qN rfl rfl qZ))) hB [8,7,6,2,1,0] [0] rfl rfl fun a w F hS=>Zb (wp_seq ?_)
 refine Za hS (qM rfl rfl (qI (qN rfl rfl qZ))) hB [10,9,8,7,6,2,1,0] [0] rfl rfl fun a w F hS=>Zb (wp_seq (wp_block ?_))
 refine Zr (σ:=Nat×Nat) [0,1,2,6,7,8] [0] (fun s=>[(9,.pv (.int .i64 (s.1:Int))),(10,.pv (.int .i64 (s.2:Int)))]) (fun s=>[]) (fun s=>s.1≤s.2∧s.2≤l.length∧(∀ q,q<s.1→OrdD.key (Go.Gm.nth l q)<k) ∧ ∀ q,s.2≤q→q<l.length→k≤OrdD.key (Go.Gm.nth l q)) (fun s=>s.2 - s.1) ((0),(l.length)) hS ⟨rfl,rfl,rfl,rfl,rfl,rfl,rfl,rfl,trivial⟩ ⟨rfl,trivial⟩ ⟨Nat.zero_le _,Nat.le_refl _,fun q hq=>absurd hq (Nat.not_lt_zero q),fun q h1 h2=>by omega⟩ ?_
 clear hS;intro s a w F hC hS
 obtain ⟨i,j⟩:=s
 try dsimp only at hC
 obtain ⟨F,hS⟩:=hS.nm [10,9,8,7,6,2,1,0] [0] rfl rfl
 try dsimp only at hS
 obtain ⟨hij,hjl,hlo,hhi⟩:=hC
 have hgs:=Zqq (i:=i) (by omega) hs hlo
 have hgl:=Zim (i:=i) (by omega) hlo
 refine wp_seq (wp_seq ?_)
 refine Za hS (qM rfl rfl (qM rfl rfl (qL r2))) hB [17,10,9,8,7,6,2,1,0] [0] rfl rfl fun a w F hS=>Zb ?_
 refine Zd hS rfl (fun hc0=>?_) (fun hc0=>?_)
 ·skip
  have hlt:i<j:=by simp at hc0;omega
  refine wp_skip (Zb (wp_block (wp_seq ?_)))
  refine Za hS (qM rfl rfl (qM rfl rfl (qf (Zbv .t .t) r2 qz (qf (Zcy Tryz.underlying178 (by kernel_rfl) .t) r1 qz (qf (Zsk .t qi (by decide)) r1 qz (qf (Zcy Tryz.underlying3 (by kernel_rfl) .t) r1 qz (qN rfl rfl qZ))))))) hB [11,10,9,8,7,6,2,1,0] [0] rfl rfl fun a w F hS=>?_
  obtain ⟨m,hm⟩:∃ m:Nat,m=(i+j) / 2:=⟨_,rfl⟩
  replace hS:=hS.ent (i:=11) (s':=.pv (.int .i64 (m:Int))) rfl (.int (by rw [hm];exact Zov (by omega)))
  obtain ⟨F,hS⟩:=hS.nm [11,10,9,8,7,6,2,1,0] [0] rfl rfl
  refine Zb (wp_seq ?_)
  refine Za hS (qM rfl rfl (qM rfl rfl (qM rfl rfl (qy 2 Tryz.underlying23 r2 (qf (oR true 2 .t) r1 qz (qM rfl rfl (qf (ZS (avs:=[.agg (Zx (Go.Gm.nth l m)),.int .i64 k]) .t (hw (Go.Gm.nth l m)) hf hb hnn (Args.two (.pagg .t) .t)) r3 qz (qf (Zbq .t qi) r1 qz qZ)))))))) hB [31,11,10,9,8,7,6,2,1,0] [0] rfl rfl fun a w F hS=>?_
  try simp only [Int.toNat_natCast] at hS
  refine Zb ?_
  refine Zd hS rfl (fun hc1=>?_) (fun hc1=>?_)
  ·skip
   have hmk:OrdD.key (Go.Gm.nth l m)<k:=Zia.1 (by simpa using hc1)
   obtain ⟨i2,hi2e⟩:∃ z,z=m+1:=⟨_,rfl⟩
   obtain ⟨j2,hj2e⟩:∃ z,z=j:=⟨_,rfl⟩
   have hi2:IntKind.wrap .i64 ((m:Int)+1)=(i2:Int):=by rw [hi2e];exact wrap_succ (by omega)
   have hj2:(j:Int)=(j2:Int):=by rw [hj2e]
   have hmu:j2 - i2<j - i:=by omega
   have hC2:i2≤j2∧j2≤l.length∧(∀ q,q<i2→OrdD.key (Go.Gm.nth l q)<k) ∧ ∀ q,j2≤q→q<l.length→k≤OrdD.key (Go.Gm.nth l q):=⟨by omega,by omega,fun q hq=>Int.lt_of_le_of_lt (ZfW hs (by omega) (by omega)) hmk,by rw [hj2e];exact hhi⟩
   refine Za hS (qM rfl rfl (qp r1 (qN rfl rfl qZ))) hB [10,9,8,7,6,2,1,0] [0] rfl rfl fun a w F hS=>Zh (Zb ?_)
   replace hS:=hS.ent (i:=9) (s':=.pv (.int .i64 (i2:Int))) rfl (.int hi2)
   replace hS:=hS.ent (i:=10) (s':=.pv (.int .i64 (j2:Int))) rfl (.int hj2)
   obtain ⟨F,hS⟩:=hS.nm [8,7,6,2,1,0,10,9] [0] rfl rfl
   exact ⟨((i2),(j2)),F,hC2,hS,hmu⟩
  have hmk:k≤OrdD.key (Go.Gm.nth l m):=Int.not_lt.1 fun e=>(show ¬ Zip (OrdD.key (Go.Gm.nth l m)) k<0 by simpa using hc1) (Zia.2 e)
  obtain ⟨i2,hi2e⟩:∃ z,z=i:=⟨_,rfl⟩
  obtain ⟨j2,hj2e⟩:∃ z,z=m:=⟨_,rfl⟩
  have hi2:(i:Int)=(i2:Int):=by rw [hi2e]
  have hj2:(m:Int)=(j2:Int):=by rw [hj2e]
  have hmu:j2 - i2<j - i:=by omega
  have hC2:i2≤j2∧j2≤l.length∧(∀ q,q<i2→OrdD.key (Go.Gm.nth l q)<k) ∧ ∀ q,j2≤q→q<l.length→k≤OrdD.key (Go.Gm.nth l q):=⟨by omega,by omega,by rw [hi2e];exact hlo,fun q h1 h2=>Int.le_trans hmk (ZfW hs (by omega) h2)⟩
  refine Za hS (qM rfl rfl (qN rfl rfl qZ)) hB [10,9,8,7,6,2,1,0] [0] rfl rfl fun a w F hS=>Zh (Zb ?_)
  replace hS:=hS.ent (i:=9) (s':=.pv (.int .i64 (i2:Int))) rfl (.int hi2)
  replace hS:=hS.ent (i:=10) (s':=.pv (.int .i64 (j2:Int))) rfl (.int hj2)
  obtain ⟨F,hS⟩:=hS.nm [8,7,6,2,1,0,10,9] [0] rfl rfl
  exact ⟨((i2),(j2)),F,hC2,hS,hmu⟩
 have hjj:i=j:=by simp at hc0;omega
 subst hjj
 have hgl2:=hgl hhi
 have hgs2:=hgs hhi
 have hb2:(decide ((i:Int)<(l.length:Int)) && decide (Zip (OrdD.key (Go.Gm.nth l i)) k=0))=isK OrdD.key k l:=by
   rw [Bool.eq_iff_iff,hgs2]
   simp [Zm9]
 refine wp_exit (Zi (Zi (Zo (Zb (wp_seq ?_)))))
 refine Za hS (qM rfl rfl (qM rfl rfl (qM rfl rfl (qf (Zbq .t .t) r2 qz (qM rfl rfl (qm rfl rfl rfl rfl (qm rfl rfl rfl rfl (qm rfl rfl rfl rfl (qk rfl (fun h=>o_indexAddr_sl (sz:=2) (.mk Tryz.underlying23 (by kernel_rfl)) (by intro x;rfl) (.w h) (.w h) (by omega) (by have:=of_decide_eq_true h;omega)) r3 qz (qk rfl (fun h=>oR true 2 (.w h)) r2 qz (qm rfl rfl rfl rfl (qk rfl (fun h=>ZS (avs:=[.agg (Zx (Go.Gm.nth l i)),.int .i64 k]) (.w h) (hw (Go.Gm.nth l i)) hf hb hnn (Args.two (.pagg (.w h)) (.w h))) r4 qz (qk rfl (fun h=>o_eql (.w h) qi) r2 qz (qf (ZK .t .t) r2 qz (qN rfl rfl (qN rfl rfl qZ)))))))))))))))) hB [7,6] [0] rfl rfl fun a w F hS=>?_
 try simp only [Int.toNat_natCast] at hS
 refine Zb (wp_ret ?_)
 refine Zt hfr hS rfl (.tmp rfl (.tmp rfl .nil)) (.two (.int (by rw [hgl2])) (.bool hb2))
theorem Zn4 (g:Zj) (id:Int) (hs:Zba g.txs) (hr:Zb0 TxD.id g.txs):FnP Tryz.prog 98 [.agg (Zn g),.int .i64 id] (.tup [.int .i64 (lowK TxD.id id g.txs),.bool (isK TxD.id id g.txs)]):=by
 refine FnP.mk Tryz.func98 rfl Tryz.ntmps98 rfl ?_
 intro B a w F hB hfr hS
 have hsl:=hs.1
 refine wp_seq ?_
 refine Zc hS (qx 101 r1 (qI qB)) hB [5,4,2,1] [101,0] (fun _=>rfl) (fun _=>rfl) fun τ a w F hS=>?_
 try dsimp only [RS.sub,SF.sub,CF.sub,csub,Anc.sub,List.map,zCF,Zn,rTx,Zx,ZO,rInt,rOp] at hS
 generalize τ 2=v2 at hS
 refine Zb (wp_seq ?_)
 refine Za hS (qg 0 101 r1 r1 (qa 101 r1 r1 (qM rfl rfl (qf (oP (ZsV g.txs id (by omega) hr 135 Tryz.f135 [] Tryz.func135 rfl (by kernel_rfl) (fun x=>Zph x id)) Tryz.func134 (Args.three .t .t (.conv .f (Ent.fnClos)))) r2 qz (qf (o_extract .t rfl) r1 qz (qf (o_extract .t rfl) r1 qz (qN rfl rfl (qN rfl rfl qZ)))))))) hB [5,4] [101,0] rfl rfl fun a w F hS=>Zb (wp_ret ?_)
 refine Zt hfr hS rfl (.tmp rfl (.tmp rfl .nil)) (.two .refl .refl)
theorem Zfv (t:TxD) (hl:t.ops.length≤1000000):FnP Tryz.prog 95 [.agg (rTx t)] (.agg (rTx t)):=by
 refine FnP.mk Tryz.func95 rfl Tryz.ntmps95 rfl ?_
 intro B a w F hB hfr hS
 refine wp_seq ?_
 refine Zc hS (qx 101 r1 (qf (oH [.int .i64 0,.bool false,.slice none 0 0] 102) trivial qz qZ)) hB [2,1] [102,101,0] (fun _=>rfl) (fun _=>rfl) fun τ a w F hS=>?_
 try dsimp only [RS.sub,SF.sub,CF.sub,csub,Anc.sub,List.map,zCF,Zn,rTx,Zx,ZO,rInt,rOp] at hS
 generalize τ 1=v1 at hS
 generalize τ 2=v2 at hS
 refine Zb (wp_seq ?_)
 replace hS:=hS.fresh 103 rfl
 refine Zc hS (qg 2 101 r1 r1 (qa 101 r1 r1 (qf (Za2 103 (Zdm t.ops hl) Tryz.func29 rfl (by kernel_rfl) (Args.one .t) ZaO) r1 r1 (qg 2 101 r1 r1 (qf (Zad 101 .adr (by kernel_rfl) (by kernel_rfl)) r2 r1 qZ))))) hB [2,1] [103,102,101,0] (fun _=>rfl) (fun _=>rfl) fun τ a w F hS=>?_
 try dsimp only [RS.sub,SF.sub,CF.sub,csub,Anc.sub,List.map,Zf,xL,xM,Nat.reduceAdd,xD,xE,xT,xU,xC,xN,zCF,ldSF,Zn,rTx,Zx,ZO,rInt,rOp] at hS
 generalize τ 5=v5 at hS
 obtain ⟨F,hS⟩:=hS.giveCell 103 101 2 rfl rfl rfl rfl rfl
 try dsimp only [List.set] at hS
 obtain ⟨F,hS⟩:=hS.nm [2,1] [102,101,0] rfl rfl
 refine Zb (wp_seq ?_)
 refine Za hS (qe 3 101 r1 r1 (qs 3 102 r2 r1 qZ)) hB [2] [102,101,0] rfl rfl fun a w F hS=>Zb (wp_ret ?_)
 refine Zt hfr hS rfl (.cl 102 true 3 rfl rfl .nil) (.one (.aggU rfl rfl))
theorem Zni (g:Zj) (id:Int) (hs:Zba g.txs):FnP Tryz.prog 107 [.agg (Zn g),.int .i64 id] (.tup [.agg (rTx ((ZN g.txs id).getD zeroT)),.bool (ZN g.txs id).isSome]):=by
 refine FnP.mk Tryz.func107 rfl Tryz.ntmps107 rfl ?_
 intro B a w F hB hfr hS
 have hsl:=hs.1
 refine wp_seq ?_
 refine Zc hS (qx 101 r1 (qf (oH [.int .i64 0,.bool false,.slice none 0 0] 102) trivial qz qB)) hB [5,4,2,1] [102,101,0] (fun _=>rfl) (fun _=>rfl) fun τ a w F hS=>?_
 try dsimp only [RS.sub,SF.sub,CF.sub,csub,Anc.sub,List.map,zCF,Zn,rTx,Zx,ZO,rInt,rOp] at hS
 generalize τ 2=v2 at hS
 generalize τ 4=v4 at hS
 refine Zb (wp_seq (wp_seq ?_))
 refine Za hS (qg 0 101 r1 r1 (qa 101 r1 r1 (qu Tryz.underlying22 r1 (qJ qZ)))) hB [11,10,9,5,4,1] [102,101,0] rfl rfl fun a w F hS=>Zb (wp_block ?_)
 refine Zr (σ:=(Nat)) [1,4,5,9,10] [0,101,102] (fun s=>[(11,.pv (.int .i64 (s:Int)))]) (fun s=>[]) (fun s=>s≤g.txs.length∧(∀ k,k<s→(Go.Gm.nth g.txs k).id≠id)) (fun s=>g.txs.length - s) (0) hS ⟨rfl,rfl,rfl,rfl,rfl,rfl,trivial⟩ ⟨rfl,rfl,rfl,trivial⟩ ⟨Nat.zero_le _,fun k hk=>absurd hk (Nat.not_lt_zero k)⟩ ?_
 clear hS;intro i a w F hC hS
 try dsimp only at hC
 obtain ⟨F,hS⟩:=hS.nm [11,10,9,5,4,1] [102,101,0] rfl rfl
 try dsimp only at hS
 obtain ⟨hi,hq⟩:=hC
 refine wp_seq ?_
 refine Za hS (qL r2) hB [12,11,10,9,5,4,1] [102,101,0] rfl rfl fun a w F hS=>Zb (wp_seq ?_)
 refine Zd hS rfl (fun hc0=>?_) (fun hc0=>?_)
 ·skip
  have hil:i<g.txs.length:=by simp at hc0;omega
  refine wp_skip (Zb (wp_seq (wp_block (wp_seq ?_))))
  refine Zc hS (qy 3 Tryz.underlying22 r2 (qf (oR true 3 .t) r1 qz (qf (oH [.int .i64 0,.bool false,.slice none 0 0] 103) trivial qz (qS 3 103 r2 r1 qZ)))) hB [11,10,9,7,5,4,1] [103,102,101,0] (fun _=>rfl) (fun _=>rfl) fun τ a w F hS=>?_
  try dsimp only [RS.sub,SF.sub,CF.sub,csub,Anc.sub,List.map,Zf,xL,xM,Nat.reduceAdd,xD,xE,xT,xU,xC,xN,zCF,ldSF,Zn,rTx,Zx,ZO,rInt,rOp] at hS
  generalize τ 7=v7 at hS
  try simp only [Int.toNat_natCast] at hS
  refine Zb (wp_seq ?_)
  refine Za hS (qg 0 103 r1 r1 (qa 103 r1 r1 (qM rfl rfl (qf (o_eql .t .t) r2 qz qZ)))) hB [18,11,10,9,7,5,4,1] [103,102,101,0] rfl rfl fun a w F hS=>Zb ?_
  refine Zd hS rfl (fun hc1=>?_) (fun hc1=>?_)
  ·skip
   have hg:ZN g.txs id=some (Go.Gm.nth g.txs i):=Zo9 hil (by simpa using hc1) hq
   refine wp_seq ?_
   refine Za hS (qe 3 103 r1 r1 (qf (oP (Zfv (Go.Gm.nth g.txs i) (by have:=hs.at hil;omega)) Tryz.func95 (Args.one (.pagg .t))) r1 qz (qf (oA 3 102 .is (.conv .t .agg)) r2 r1 qB))) hB [11,10,9,5,4,1] [103,102,101,0] rfl rfl fun a w F hS=>Zb (wp_ret (Zg (Ze (Ze (Zg (Ze ?_))))))
   refine Zt hfr hS rfl (.cl 102 true 3 rfl rfl (.tmp rfl .nil)) (.two (by rw [hg];first | exact .aggU rfl rfl | exact .aggLe rfl ⟨.refl,.refl,.nilSl,trivial⟩) (.bool (by rw [hg];rfl)))
  have hne:(Go.Gm.nth g.txs i).id≠id:=by simpa using hc1
  refine wp_skip (Zh (Zb ?_))
  refine Za hS (qp r1 (qM rfl rfl qZ)) hB [11,10,9,5,4,1] [103,102,101,0] rfl rfl fun a w F hS=>Zb ?_
  replace hS:=hS.ent (i:=11) (s':=.pv (.int .i64 ((i+1:Nat):Int))) rfl (.int (wrap_succ (by omega)))
  obtain ⟨F,hS⟩:=hS.nm [10,9,5,4,1,11] [102,101,0] rfl rfl
  exact ⟨(i+1),F,⟨by omega,(fun k hk=>by rcases Nat.lt_or_eq_of_le (Nat.le_of_lt_succ hk) with h9 | h9;exact hq k h9;rw [h9];exact hne)⟩,hS,by omega⟩
 have hil:i=g.txs.length:=by simp at hc0;omega
 have hg:ZN g.txs id=none:=ZlZ (by rw [← hil];exact hq)
 refine wp_exit (Zi (Zi (Zo (Zb (wp_seq ?_)))))
 refine Za hS (qf (oB [] [.int .i64 0,.bool false,.slice none 0 0] [(0,1),(1,1),(2,1)] .nil) trivial qz (qs 3 102 r2 r1 qB)) hB [5,4] [102,101,0] rfl rfl fun a w F hS=>Zb (wp_ret ?_)
 refine Zt hfr hS rfl (.cl 102 true 3 rfl rfl (.tmp rfl .nil)) (.two (by rw [hg];first | exact .aggU rfl rfl | exact .aggLe rfl ⟨.refl,.refl,.nilSl,trivial⟩) (.bool (by rw [hg];rfl)))
theorem Zs7 (g:Zj) (v:Zb1) (hs:Zba g.txs):FnP Tryz.prog 62 [.agg (Zn g),.agg (ZO v)] (.bool (ZgR g v)):=by
 refine FnP.mk Tryz.func62 rfl Tryz.ntmps62 rfl ?_
 intro B a w F hB hfr hS
 refine wp_seq ?_
 refine Zc hS (qx 101 r1 (qx 102 r1 qB)) hB [4,3,2] [102,101,0] (fun _=>rfl) (fun _=>rfl) fun τ a w F hS=>?_
 try dsimp only [RS.sub,SF.sub,CF.sub,csub,Anc.sub,List.map,zCF,Zn,rTx,Zx,ZO,rInt,rOp] at hS
 generalize τ 2=v2 at hS
 generalize τ 3=v3 at hS
 refine Zb (wp_seq (wp_seq ?_))
 refine Za hS (qg 0 102 r1 r1 (qa 102 r1 r1 (qf (o_eql .t qi) r1 qz (qM rfl rfl (qv 2 102 rfl r2 r1 (qw 102 rfl r2 r1 (qk rfl (fun h=>o_eql (.w h) qi) r2 qz (qf (ZK .t .t) r2 qz qZ)))))))) hB [14,4,3,2] [102,101,0] rfl rfl fun a w F hS=>Zb ?_
 refine Zd hS rfl (fun hc0=>?_) (fun hc0=>?_)
 ·skip
  have h0:(v.tx=0∧v.nth=0):=by simpa using hc0
  have hu:ZgR g v=decide (1≤v.key∧v.key≤1048575):=by unfold ZgR;rw [if_pos h0]
  refine wp_seq ?_
  refine Za hS (qg 1 102 r1 r1 (qa 102 r1 r1 (qf (Zen .t qi) r1 qz (qM rfl rfl (qv 1 102 rfl r2 r1 (qw 102 rfl r2 r1 (qk rfl (fun h=>Zsw (.w h) qi) r2 qz (qf (ZK .t .t) r2 qz (qN rfl rfl qZ))))))))) hB [4,3,2] [102,101,0] rfl rfl fun a w F hS=>Zb (wp_ret (Ze ?_))
  refine Zq hfr hS rfl rfl rfl (.bool (by first | (rw [hu,Bool.decide_and];done) | (rw [hu];unfold idB;rw [Bool.decide_and];done) | (unfold ZgR wcnt;rw [if_neg h0,Bool.and_assoc])))
 have h0:¬ (v.tx=0∧v.nth=0):=by simpa using hc0
 have hfl:((ZN g.txs v.tx).getD zeroT).ops.length≤1000:=by cases hf:ZN g.txs v.tx with | none=>simp [zeroT] | some t=>exact hs.2 _ (findT_mem hf).1
 refine wp_skip (Zb (wp_seq ?_))
 refine Zc hS (qe 2 101 r1 r1 (qg 0 102 r1 r1 (qa 102 r1 r1 (qf (oP (Zni g v.tx hs) Tryz.func107 (Args.two (.pagg .t) .t)) r2 qz (qM rfl rfl (qf (o_extract .t rfl) r1 qz (qf (o_extract .t rfl) r1 qz (qf (oH [.int .i64 0,.bool false,.slice none 0 0] 103) trivial qz (qf (oA 3 103 .same (.conv .t .agg)) r2 r1 (qN rfl rfl qZ)))))))))) hB [6,5,4,3] [103,102,101,0] (fun _=>rfl) (fun _=>rfl) fun τ a w F hS=>?_
 try dsimp only [RS.sub,SF.sub,CF.sub,csub,Anc.sub,List.map,Zf,xL,xM,Nat.reduceAdd,xD,xE,xT,xU,xC,xN,zCF,ldSF,Zn,rTx,Zx,ZO,rInt,rOp] at hS
 generalize τ 5=v5 at hS
 refine Zb (wp_seq ?_)
 refine Zz hS (qM rfl rfl (qM rfl rfl (qv 2 102 rfl r2 r1 (qw 102 rfl r2 r1 (qk rfl (fun h=>Zen (.w h) qi) r2 qz (qf (ZK .t .t) r2 qz (qM rfl rfl (qk rfl (fun h=>oL true 3 103 .is) r2 r1 (qv 1 102 rfl r2 r1 (qw 102 rfl r2 r1 (qk rfl (fun h=>oP (ZfU ((ZN g.txs v.tx).getD zeroT) v.key (by omega)) Tryz.func108 (Args.two (.pagg (.w h)) (.w h))) r3 qz (qv 2 102 rfl r2 r1 (qw 102 rfl r2 r1 (qk rfl (fun h=>Zen (.w h) (.w h)) r3 qz (qf (ZK .t .t) r2 qz (qN rfl rfl qZ)))))))))))))))) hB [4] [103,102,101,0] rfl rfl fun a w F hS=>?_
 try dsimp only [List.map,xD,xE,xT,xU,ldSF,Zn,rTx,Zx,ZO,rInt,rOp] at hS
 refine Zb (wp_ret ?_)
 refine Zq hfr hS rfl rfl rfl (.bool (by first | (rw [hu,Bool.decide_and];done) | (rw [hu];unfold idB;rw [Bool.decide_and];done) | (unfold ZgR wcnt;rw [if_neg h0,Bool.and_assoc])))
theorem cloneIP_c (l:List Int) (hl:l.length≤1000000):FnP Tryz.prog 64 [.sl rInt l] (.sl rInt l):=by
 refine FnP.mk Tryz.func64 rfl Tryz.ntmps64 rfl ?_
 intro B a w F hB hfr hS
 refine wp_seq ?_
 refine Za hS (qC qZ) hB [2,0] [0] rfl rfl fun a w F hS=>Zb (wp_seq (wp_seq ?_))
 refine Za hS (qM rfl rfl (qf (ZdN Tryz.underlying39 .t) r1 qz qZ)) hB [4,2,0] [0] rfl rfl fun a w F hS=>?_
 obtain ⟨β4,hβ4,hS⟩:=hS.pickBool 4 rfl
 obtain ⟨F,hS⟩:=hS.nm [4,2,0] [0] rfl rfl
 refine Zb ?_
 refine Zd hS rfl (fun hc0=>?_) (fun hc0=>?_)
 ·skip
  have hg:l = []:=hβ4 hc0
  refine wp_seq ?_
  refine Za hS (qC qZ) hB [2,0] [0] rfl rfl fun a w F hS=>Zb (wp_ret (Ze ?_))
  refine Zq hfr hS rfl rfl rfl (.trans .nilSl (.sl (by rw [hg])))
 have hg:l = [] ++ l:=rfl
 refine wp_skip (Zb (wp_seq ?_))
 refine Zc hS (qf (Zco (R:=rInt) (sz:=1) 101 Tryz.underlying39 (by kernel_rfl)) trivial qz (qM rfl rfl (qf (o_append (sz:=1) (bs:=8) 101 (.mk' Tryz.underlying39 (by kernel_rfl) (by kernel_rfl)) (by intro x;rfl) .same (.sl .t) (by simp only [List.length_append,List.length_nil];omega) (by decide)) ⟨rfl,rfl,trivial⟩ ⟨rfl,trivial⟩ (qN rfl rfl qZ)))) hB [2] [101,0] (fun _=>rfl) (fun _=>rfl) fun τ a w F hS=>?_
 try dsimp only [RS.sub,SF.sub,CF.sub,csub,Anc.sub,List.map,Zf,xL,xM,Nat.reduceAdd,xD,xE,xT,xU,xC,xN,zCF,rInt] at hS
 generalize τ 7=v7 at hS
 refine Zb (wp_ret ?_)
 obtain ⟨F,hS⟩:=hS.give 101 2 rfl rfl
 refine Zq hfr hS rfl rfl rfl (.sl (by rw [hg]))
theorem ZhY (g:Zj) (hs:Zbo g):FnG Tryz.prog 93 1 [.agg (Zn g)] [.star []] (PV.self ZsA) (fun v=>[Zrl (Zu 38 3 rTx g.txs) (Zu 41 2 Zx g.orders) v]):=by
 refine FnG.mk Tryz.func93 rfl Tryz.ntmps93 rfl (by kernel_rfl) ?_
 intro B F0 a w F hB hG hS
 have hsl:=hs.1.1
 have hso:=hs.2.1
 obtain ⟨F,hS⟩:=hS.nm [0] [0] rfl rfl
 refine wp_seq ?_
 refine Zc hS (qx 101 r1 (qf (oH [.slice none 0 0,.slice none 0 0] 102) trivial qz qZ)) hB [2,1] [102,101,0] (fun _=>rfl) (fun _=>rfl) fun τ a w F hS=>?_
 try dsimp only [RS.sub,SF.sub,CF.sub,csub,Anc.sub,List.map,zCF,Zn,rTx,Zx,ZO,rInt,rOp] at hS
 generalize τ 1=v1 at hS
 generalize τ 2=v2 at hS
 refine Zb (wp_seq ?_)
 refine Zc hS (qf (oH [.slice none 0 0,.slice none 0 0] 103) trivial qz qZ) hB [3,2,1] [103,102,101,0] (fun _=>rfl) (fun _=>rfl) fun τ a w F hS=>?_
 try dsimp only [RS.sub,SF.sub,CF.sub,csub,Anc.sub,List.map,zCF,Zn,rTx,Zx,ZO,rInt,rOp] at hS
 generalize τ 3=v3 at hS
 refine Zb (wp_seq (wp_seq ?_))
 refine Za hS (qg 0 101 r1 r1 (qa 101 r1 r1 (qu Tryz.underlying22 r1 (qJ qZ)))) hB [11,10,9,3,2,1] [103,102,101,0] rfl rfl fun a w F hS=>Zb (wp_block ?_)
 replace hS:=hS.fresh 50 rfl
 replace hS:=hS.turn 50 rfl (ZaC (T:=38) (sz:=3) (R:=rTx))
 refine Zr (σ:=(Nat)×(Value)×(List TxD)) [1,2,3,9,10] [0,101,102] (fun s=>[(11,.pv (.int .i64 (s.1:Int)))]) (fun s=>[(103,.pt (.val v3) 25 [.pv (.is s.2.1),.pv (.is (.slice none 0 0))]),(50,.ob (.val s.2.1) (Zu 38 3 rTx s.2.2))]) (fun s=>s.1≤g.txs.length∧(s.2.2=g.txs.take s.1)) (fun s=>g.txs.length - s.1) ((0),(.slice none 0 0),([])) hS ⟨rfl,rfl,rfl,rfl,rfl,rfl,trivial⟩ ⟨rfl,rfl,rfl,rfl,rfl,trivial⟩ ⟨Nat.zero_le _,rfl⟩ ?_
 clear hS;intro s a w F hC hS
 obtain ⟨i,va,oa⟩:=s
 try dsimp only at hC
 obtain ⟨F,hS⟩:=hS.nm [11,10,9,3,2,1] [103,102,101,50,0] rfl rfl
 try dsimp only at hS
 obtain ⟨hi,hq⟩:=hC
 have hol:oa.length≤i:=by rw [hq,List.length_take];omega
 refine wp_seq ?_
 refine Za hS (qL r2) hB [12,11,10,9,3,2,1] [103,102,101,50,0] rfl rfl fun a w F hS=>Zb (wp_seq ?_)
 refine Zd hS rfl (fun hc0=>?_) (fun hc0=>?_)
 ·skip
  have hil:i<g.txs.length:=by simp at hc0;omega
  have hio:=hil
  refine wp_skip (Zb (wp_seq (wp_block (wp_seq ?_))))
  refine Zc hS (qy 3 Tryz.underlying22 r2 (qf (oR true 3 .t) r1 qz (qf (oH [.int .i64 0,.bool false,.slice none 0 0] 104) trivial qz (qS 3 104 r2 r1 qZ)))) hB [11,10,9,5,3,2,1] [104,103,102,101,50,0] (fun _=>rfl) (fun _=>rfl) fun τ a w F hS=>?_
  try dsimp only [RS.sub,SF.sub,CF.sub,csub,Anc.sub,List.map,Zf,xL,xM,Nat.reduceAdd,xD,xE,xT,xU,xC,xN,zCF,ldSF,Zn,rTx,Zx,ZO,rInt,rOp] at hS
  generalize τ 5=v5 at hS
  try simp only [Int.toNat_natCast] at hS
  refine Zb ?_
  refine Zcp hS (qg 0 103 r1 r1 (qa 103 r1 r1 (qe 3 104 r1 r1 (qf (oP (Zfv (Go.Gm.nth g.txs i) (by have:=hs.1.at hio;omega)) Tryz.func95 (Args.one (.pagg .t))) r1 qz (qf (Zk (sz:=3) (zs:=[.int .i64 0,.bool false,.slice none 0 0]) (r:=[(0,.tmp 18)]) (l:=[_,_,_]) Tryz.underlying22 (by kernel_rfl) (by kernel_rfl) (by kernel_rfl) (by kernel_rfl) rfl rfl (.agg rfl (.conv .t .agg) (by kernel_rfl) (by kernel_rfl) .nil) rfl) r1 qz (qf (o_append (sz:=3) (bs:=40) 50 (.mk' Tryz.underlying22 (by kernel_rfl) (by kernel_rfl)) (by intro x;rfl) .is (.arr (l':=[(Go.Gm.nth g.txs i)]) .t) (by simp only [List.length_append,List.length_cons,List.length_nil];omega) (by decide)) ⟨rfl,rfl,trivial⟩ ⟨rfl,trivial⟩ (qg 0 103 r1 r1 (qf (Zad 103 .adr (by kernel_rfl) (by kernel_rfl)) r2 r1 qZ)))))))) hB [11,10,9,3,2,1] [104,103,102,101,50,0] (fun _=>rfl) (fun _=>rfl) fun τ a w F hS=>?_
  try dsimp only [RS.sub,SF.sub,CF.sub,csub,Anc.sub,List.map,Zf,xL,xM,Nat.reduceAdd,xD,xE,xT,xU,xC,xN,zCF,ldSF,Zn,rTx,Zx,ZO,rInt,rOp] at hS
  generalize τ 20=v20 at hS
  refine Zh (Zb ?_)
  refine Za hS (qp r1 (qM rfl rfl qZ)) hB [11,10,9,3,2,1] [104,103,102,101,50,0] rfl rfl fun a w F hS=>Zb ?_
  replace hS:=hS.ent (i:=11) (s':=.pv (.int .i64 ((i+1:Nat):Int))) rfl (.int (wrap_succ (by omega)))
  obtain ⟨F,hS⟩:=hS.nm [10,9,3,2,1,11] [102,101,0,50,103] rfl rfl
  exact ⟨((i+1),_,_),F,⟨by omega,(by rw [ZE hil,← hq])⟩,hS,by omega⟩
 have hil:i=g.txs.length:=by simp at hc0;omega
 have hqa:oa=g.txs:=by rw [hq,hil,List.take_length]
 subst hqa
 refine wp_exit (Zi (Zi (Zo (Zb (wp_seq (wp_seq ?_))))))
 refine Za hS (qg 1 101 r1 r1 (qa 101 r1 r1 (qu Tryz.underlying23 r1 (qJ qZ)))) hB [26,25,24,3,2] [103,102,101,50,0] rfl rfl fun a w F hS=>Zb (wp_block ?_)
 replace hS:=hS.fresh 51 rfl
 replace hS:=hS.turn 51 rfl (ZaC (T:=41) (sz:=2) (R:=Zx))
 refine Zr (σ:=(Nat)×(Value)×(List OrdD)) [2,3,24,25] [0,50,101,102] (fun s=>[(26,.pv (.int .i64 (s.1:Int)))]) (fun s=>[(103,.pt (.val v3) 25 [.pv (.is va),.pv (.is s.2.1)]),(51,.ob (.val s.2.1) (Zu 41 2 Zx s.2.2))]) (fun s=>s.1≤g.orders.length∧(s.2.2=g.orders.take s.1)) (fun s=>g.orders.length - s.1) ((0),(.slice none 0 0),([])) hS ⟨rfl,rfl,rfl,rfl,rfl,trivial⟩ ⟨rfl,rfl,rfl,rfl,rfl,rfl,trivial⟩ ⟨Nat.zero_le _,rfl⟩ ?_
 clear hS;intro s a w F hC hS
 obtain ⟨i,vb,ob⟩:=s
 try dsimp only at hC
 obtain ⟨F,hS⟩:=hS.nm [26,25,24,3,2] [103,102,101,51,50,0] rfl rfl
 try dsimp only at hS
 obtain ⟨hi,hq⟩:=hC
 have hol:ob.length≤i:=by rw [hq,List.length_take];omega
 refine wp_seq ?_
 refine Za hS (qL r2) hB [27,26,25,24,3,2] [103,102,101,51,50,0] rfl rfl fun a w F hS=>Zb (wp_seq ?_)
 refine Zd hS rfl (fun hc1=>?_) (fun hc1=>?_)
 ·skip
  have hil:i<g.orders.length:=by simp at hc1;omega
  have hio:=hil
  refine wp_skip (Zb (wp_seq (wp_block (wp_seq ?_))))
  refine Zc hS (qy 2 Tryz.underlying23 r2 (qf (oR true 2 .t) r1 qz (qf (oH [.int .i64 0,.slice none 0 0] 105) trivial qz (qS 2 105 r2 r1 qZ)))) hB [26,25,24,7,3,2] [105,103,102,101,51,50,0] (fun _=>rfl) (fun _=>rfl) fun τ a w F hS=>?_
  try dsimp only [RS.sub,SF.sub,CF.sub,csub,Anc.sub,List.map,Zf,xL,xM,Nat.reduceAdd,xD,xE,xT,xU,xC,xN,zCF,ldSF,Zn,rTx,Zx,ZO,rInt,rOp] at hS
  generalize τ 7=v7 at hS
  try simp only [Int.toNat_natCast] at hS
  refine Zb ?_
  refine Zcp hS (qg 1 103 r1 r1 (qa 103 r1 r1 (qg 0 105 r1 r1 (qa 105 r1 r1 (qg 1 105 r1 r1 (qa 105 r1 r1 (qf (oP (cloneIP_c (Go.Gm.nth g.orders i).txs (by have:=hs.2.at hio;omega)) Tryz.func64 (Args.one .t)) r1 qz (qf (oB [(0,.tmp 33),(1,.tmp 36)] [.int .i64 0,.slice none 0 0] [(0,1),(1,1)] (.one rfl .t one_int (by kernel_rfl) (.one rfl .t one_sl (by kernel_rfl) .nil))) r2 qz (qf (Zk (sz:=2) (zs:=[.int .i64 0,.slice none 0 0]) (r:=[(0,.tmp 37)]) (l:=[_,_]) Tryz.underlying23 (by kernel_rfl) (by kernel_rfl) (by kernel_rfl) (by kernel_rfl) rfl rfl (.agg rfl .t (by kernel_rfl) (by kernel_rfl) .nil) rfl) r1 qz (qf (o_append (sz:=2) (bs:=32) 51 (.mk' Tryz.underlying23 (by kernel_rfl) (by kernel_rfl)) (by intro x;rfl) .is (.arr (l':=[(Go.Gm.nth g.orders i)]) .t) (by simp only [List.length_append,List.length_cons,List.length_nil];omega) (by decide)) ⟨rfl,rfl,trivial⟩ ⟨rfl,trivial⟩ (qg 1 103 r1 r1 (qf (Zad 103 .adr (by kernel_rfl) (by kernel_rfl)) r2 r1 qZ)))))))))))) hB [26,25,24,3,2] [105,103,102,101,51,50,0] (fun _=>rfl) (fun _=>rfl) fun τ a w F hS=>?_
  try dsimp only [RS.sub,SF.sub,CF.sub,csub,Anc.sub,List.map,Zf,xL,xM,Nat.reduceAdd,xD,xE,xT,xU,xC,xN,zCF,ldSF,Zn,rTx,Zx,ZO,rInt,rOp] at hS
  generalize τ 39=v39 at hS
  refine Zh (Zb ?_)
  refine Za hS (qp r1 (qM rfl rfl qZ)) hB [26,25,24,3,2] [105,103,102,101,51,50,0] rfl rfl fun a w F hS=>Zb ?_
  replace hS:=hS.ent (i:=26) (s':=.pv (.int .i64 ((i+1:Nat):Int))) rfl (.int (wrap_succ (by omega)))
  obtain ⟨F,hS⟩:=hS.nm [25,24,3,2,26] [102,101,50,0,51,103] rfl rfl
  exact ⟨((i+1),_,_),F,⟨by omega,(by rw [ZE hil,← hq])⟩,hS,by omega⟩
 have hil:i=g.orders.length:=by simp at hc1;omega
 have hqb:ob=g.orders:=by rw [hq,hil,List.take_length]
 subst hqb
 refine wp_exit (Zi (Zi (Zo (Zb (wp_seq ?_)))))
 refine Za hS (qe 2 103 r1 r1 (qs 2 102 r2 r1 qZ)) hB [2] [103,102,101,51,50,0] rfl rfl fun a w F hS=>Zb (wp_ret ?_)
 have hS:=hS.fresh 1 rfl
 obtain ⟨F,hS⟩:=hS.push 1 51 rfl rfl rfl rfl
 obtain ⟨F,hS⟩:=hS.push 1 50 rfl rfl rfl rfl
 refine Zr8 hG hS rfl (.cl 102 true 2 rfl rfl .nil) (.one (.aggU rfl rfl)) rfl
end Go.Proofs.YtjhapicamnijnaaGreatDoor
