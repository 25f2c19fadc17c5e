/- Texts put together. No condition beyond those that each theorem says. -/
import Derived.Test.YtjhapicamnijnaaGreatDoorJ8
import Derived.Test.YtjhapicamnijnaaGreatDoorJ2
import Derived.Test.YtjhapicamnijnaaGreatDoorJ1
import Derived.Test.YtjhapicamnijnaaGreatDoorJ3
import Derived.Test.YtjhapicamnijnaaGreatDoorJ7
import Derived.Test.YtjhapicamnijnaaGreatDoorJ4
import Derived.Test.YtjhapicamnijnaaGreatDoorJ6
import Derived.Test.YtjhapicamnijnaaGreatDoorJ5
namespace Go.Proofs.YtjhapicamnijnaaGreatDoor
open Go Go.Gm
set_option linter.unusedVariables false
set_option linter.unusedSimpArgs false
set_option maxHeartbeats 4000000
set_option maxRecDepth 8000
theorem ZbX:∀ (r:List (List UInt8)) (x:List UInt8),Z3 (x :: r)=x++r.flatMap fun y=>32 :: y
 | [],x=>by simp [Z3]
 | y :: r,x=>by rw [Z3,ZbX r y,List.flatMap_cons];simp
theorem Zcq (l:List Int):∀ i,i≤l.length→Zab l i=Z3 ((l.map textL).take i)
 | 0,_=>rfl
 | i+1,h=>by
   have hi:i<l.length:=by omega
   rw [Zab,Zcq l i (by omega),Zn1 (by simpa using hi),show nth (l.map textL) i=textL (nth l i) by rw [Zn (by simpa using hi),Zn hi];simp]
   split <;> simp
theorem Zgj (l:List Int):ZcE l=Z3 (l.map textL):=by
 unfold ZcE
 rw [Zcq l _ (Nat.le_refl _),show l.length=(l.map textL).length by simp,List.take_length]
def Zdg (c:CmdD):List (List UInt8):=
 if c.kind=1∨c.kind=2 then textL c.tx.id :: (if c.tx.done=true then [99] else [97]) :: c.tx.ops.map Zah else if c.kind=3∨c.kind=10 then [textL c.id] else if c.kind=4 then (c.order.key :: c.order.txs).map textL
 else if c.kind=5 then [c.key,c.id,c.place].map textL else if c.kind=9 then [Zbe c.phen] else []
def wC (c:CmdD):List (List UInt8):=(ZL c.kind).s :: Zdg c
theorem Zk9:∀ l:List OpD,ZeQ l=(l.map Zah).flatMap fun y=>32 :: y
 | []=>rfl
 | o :: l=>by
   have:=Zk9 l
   unfold ZeQ at this ⊢
   rw [List.flatMap_cons,List.map_cons,List.flatMap_cons,this]
theorem Zmx {c:CmdD} (h:Zac c=true):ZaL c=Z3 (wC c):=by
 unfold ZaL wC
 rw [if_neg (by rw [h];decide),ZbX,ZbX]
 congr 1
 unfold Zay Zdg
 split
 · unfold ZeP Zb5
   rw [Zk9]
   simp only [List.flatMap_cons,List.flatMap_nil,List.append_nil]
   split <;> simp
 · split
   · rfl
   · split
     · rw [Zgj,List.map_cons,ZbX];simp
     · split
       · rw [Zgj,List.map_cons,ZbX];simp
       · split <;> rfl
theorem ZcL {x:List UInt8} (h:x≠[]) (k:∀ b ∈ x,32<b.toNat∧b.toNat<127):Zhf x:=⟨h,fun j hj=>k _ (ZB hj)⟩
theorem ZpX {c:UInt8} (h:digit c=true):32<c.toNat∧c.toNat<127:=by
 unfold digit at h
 simp at h
 omega
theorem ZbS {n:Int} (h:0≤n):∀ b ∈ textL n,32<b.toNat∧b.toNat<127:=fun b hb=>ZpX (List.all_eq_true.1 (Zby h) b hb)
theorem Zbr {n:Int} (h:0≤n):Zhf (textL n):=ZcL (ZbF n) (ZbS h)
theorem Zmt {o:OpD} (hk:ZR o=true):Zhf (Zah o):=by
 have hb:=ZbV hk
 have b1:=ZbS (n:=o.key) (by omega)
 have b2:=ZbS (n:=o.tx) (by omega)
 have b3:=ZbS (n:=o.nth) (by omega)
 have b0:=ZbS (n:=0) (by omega)
 by_cases hr:o.read=true
 · by_cases h:o.tx=0
   · rw [ZdA hk hr h]
     refine ZcL (by simp) fun b hb=>?_
     simp only [List.mem_cons,List.mem_append] at hb
     rcases hb with rfl | hb | rfl | hb
     · decide
     · exact b1 b hb
     · decide
     · exact b0 b hb
   · rw [Zeo hk hr h]
     refine ZcL (by simp) fun b hb=>?_
     simp only [List.mem_cons,List.mem_append] at hb
     rcases hb with rfl | hb | rfl | hb | rfl | hb
     · decide
     · exact b1 b hb
     · decide
     · exact b2 b hb
     · decide
     · exact b3 b hb
 · rw [Zds hk (by simpa using hr)]
   refine ZcL (by simp) fun b hb=>?_
   simp only [List.mem_cons] at hb
   rcases hb with rfl | hb
   · decide
   · exact b1 b hb
theorem ZoG {k:Int} (h:1≤k∧k≤12):Zhf (ZL k).s:=by
 have:(ZL k).s≠[]∧(ZL k).s.all (fun b=>decide (32<b.toNat) && decide (b.toNat<127))=true:=by
   rcases kinds h with rfl | rfl | rfl | rfl | rfl | rfl | rfl | rfl | rfl | rfl | rfl | rfl <;> decide +kernel
 refine ZcL this.1 fun b hb=>?_
 have h9:=List.all_eq_true.1 this.2 b hb
 simpa using h9
theorem Zoo {p:Int} (h:Zbe p≠[]):Zhf (Zbe p):=by
 have hp:=(Zfn h).1
 have:(Zbe p).all (fun b=>decide (32<b.toNat) && decide (b.toNat<127))=true:=by
   have:p=1∨p=2∨p=3∨p=4∨p=5:=by omega
   rcases this with rfl | rfl | rfl | rfl | rfl <;> decide +kernel
 refine ZcL h fun b hb=>?_
 have h9:=List.all_eq_true.1 this b hb
 simpa using h9
theorem Zjf {c:CmdD} (h:Zac c=true):∀ o ∈ c.tx.ops,ZR o=true:=by
 unfold Zac at h
 simp only [Bool.and_eq_true] at h
 exact fun o ho=>List.all_eq_true.1 h.2.2 o ho
theorem ZmO {c:CmdD} (h:Zac c=true):∀ x ∈ Zdg c,Zhf x:=by
 have hr:=ZhD h
 have hh:=Zak h
 have m1:=hr c.tx.id (by unfold ZaH;simp)
 have m2:=hr c.id (by unfold ZaH;simp)
 have m3:=hr c.order.key (by unfold ZaH;simp)
 have m4:=hr c.key (by unfold ZaH;simp)
 have m5:=hr c.place (by unfold ZaH;simp)
 have m6:∀ n ∈ c.order.txs,0≤n∧n≤2147483647:=fun n hn=>hr n (by unfold ZaH;simp [hn])
 have ho:=Zjf h
 unfold Zdg
 intro x hx
 split at hx
 · rcases List.mem_cons.1 hx with rfl | hx
   · exact Zbr m1.1
   · rcases List.mem_cons.1 hx with rfl | hx
     · split
       · exact ZcL (by simp) (fun b hb=>by simp at hb;subst hb;decide)
       · exact ZcL (by simp) (fun b hb=>by simp at hb;subst hb;decide)
     · obtain ⟨o,hm,rfl⟩:=List.mem_map.1 hx
       exact Zmt (ho o hm)
 · split at hx
   · simp at hx;subst hx;exact Zbr m2.1
   · split at hx
     · obtain ⟨n,hm,rfl⟩:=List.mem_map.1 hx
       rcases List.mem_cons.1 hm with rfl | hm
       · exact Zbr m3.1
       · exact Zbr (m6 n hm).1
     · split at hx
       · obtain ⟨n,hm,rfl⟩:=List.mem_map.1 hx
         simp only [List.mem_cons,List.not_mem_nil,or_false] at hm
         rcases hm with rfl | rfl | rfl
         · exact Zbr m4.1
         · exact Zbr m2.1
         · exact Zbr m5.1
       · split at hx
         · rename_i hk
           simp at hx;subst hx
           exact Zoo fun hc=>hh.2.2.2 ⟨hk,hc⟩
         · simp at hx
theorem ZrC {c:CmdD} (h:Zac c=true):∀ j,j<(wC c).length→Zhf (nth (wC c) j):=by
 intro j hj
 have hm:=ZB hj
 unfold wC at hm
 rcases List.mem_cons.1 hm with e | hm
 · unfold wC;rw [e];exact ZoG (Zd9 (Zak h).1)
 · exact ZmO h _ hm
theorem Zf7 {l:List Int} (h:∀ n ∈ l,0≤n∧n≤2147483647):numsR (l.map textL)=(l,0):=by
 have hz:∀ n ∈ l,readR (textL n)=(n,0):=fun n hn=>by
   have:=h n hn
   rw [Zgd this.1,if_neg (by omega)]
 have hb:Zib (l.map textL)=0:=ZeZ fun j hj=>by
   have hm:nth (l.map textL) j ∈ l.map textL:=ZB hj
   obtain ⟨n,hn,e⟩:=List.mem_map.1 hm
   rw [← e,hz n hn]
 unfold numsR
 rw [if_neg (by rw [hb];decide)]
 unfold Zbk
 rw [List.map_map]
 congr 1
 conv=>rhs;rw [← List.map_id l]
 exact List.map_congr_left fun n hn=>by simp [hz n hn]
theorem Zra {t:TxD} (h:0≤t.id∧t.id≤2147483647) (h2:t.ops.length≤4095) (h3:∀ o ∈ t.ops,ZR o=true):txR (textL t.id :: (if t.done=true then [99] else [97]) :: t.ops.map Zah)=(t,0):=by
 have hz:∀ o ∈ t.ops,opR (Zah o)=(o,0):=fun o ho=>Zp0 (h3 o ho)
 have hb:Zp5 (t.ops.map Zah)=0:=Zf6 fun j hj=>by
   have hm:nth (t.ops.map Zah) j ∈ t.ops.map Zah:=ZB hj
   obtain ⟨o,ho,e⟩:=List.mem_map.1 hm
   rw [← e,hz o ho]
 have ho:ZnL (t.ops.map Zah)=t.ops:=by
   unfold ZnL
   rw [List.map_map]
   conv=>rhs;rw [← List.map_id t.ops]
   exact List.map_congr_left fun o ho=>by simp [hz o ho]
 have hr:readR (textL t.id)=(t.id,0):=by rw [Zgd h.1,if_neg (by omega)]
 unfold txR
 have e0:nth (textL t.id :: (if t.done=true then [99] else [97]) :: t.ops.map Zah) 0=textL t.id:=rfl
 have e1:nth (textL t.id :: (if t.done=true then ([99]:List UInt8) else [97]) :: t.ops.map Zah) 1=if t.done=true then [99] else [97]:=rfl
 have e2:(textL t.id :: (if t.done=true then ([99]:List UInt8) else [97]) :: t.ops.map Zah).drop 2=t.ops.map Zah:=rfl
 rw [if_neg (by simp only [List.length_cons,List.length_map];omega),e0,e1,e2,hr,if_neg (by simp),if_neg (by cases t.done <;> simp),if_neg (by rw [hb];decide),ho]
 cases t with
 | mk i d o=>cases d <;> rfl
theorem Zow {c:CmdD} (h:Zac c=true):fillR c.kind (Zdg c)=(c,0):=by
 have hr:=ZhD h
 obtain ⟨hh,hu,hop,hph⟩:=Zak h
 have m1:=hr c.tx.id (by unfold ZaH;simp)
 have m2:=hr c.id (by unfold ZaH;simp)
 have m3:=hr c.order.key (by unfold ZaH;simp)
 have m4:=hr c.key (by unfold ZaH;simp)
 have m5:=hr c.place (by unfold ZaH;simp)
 have m6:∀ n ∈ c.order.txs,0≤n∧n≤2147483647:=fun n hn=>hr n (by unfold ZaH;simp [hn])
 have ho:=Zjf h
 unfold usedR at hu
 unfold fillR Zdg
 by_cases h1:c.kind=1∨c.kind=2
 · rw [if_pos h1,if_pos h1,Zra m1 hop ho]
   rw [if_pos h1] at hu
   exact Prod.ext hu.symm rfl
 · rw [if_neg h1] at hu ⊢
   rw [if_neg h1]
   by_cases h9:c.kind=9
   · rw [if_pos h9,if_neg (by omega),if_neg (by omega),if_neg (by omega),if_pos h9]
     rw [if_neg (by omega),if_neg (by omega),if_neg (by omega),if_pos h9] at hu
     have hc:=Zfn fun hc=>hph ⟨h9,hc⟩
     have e0:nth [Zbe c.phen] 0=Zbe c.phen:=rfl
     rw [e0,hc.2,if_neg (by omega)]
     exact Prod.ext hu.symm rfl
   · rw [if_neg h9]
     by_cases h3:c.kind=3∨c.kind=10
     · rw [if_pos h3] at hu ⊢
       have hn:=Zf7 (l:=[c.id]) (fun n hn=>by simp at hn;subst hn;exact m2)
       rw [show [textL c.id] = [c.id].map textL from rfl,hn,if_neg (by simp),if_pos h3]
       exact Prod.ext hu.symm rfl
     · rw [if_neg h3] at hu ⊢
       by_cases h4:c.kind=4
       · rw [if_pos h4] at hu ⊢
         have hn:=Zf7 (l:=c.order.key :: c.order.txs) (fun n hn=>by rcases List.mem_cons.1 hn with rfl | hn;exact m3;exact m6 n hn)
         rw [hn,if_neg (by simp),if_neg h3,if_pos h4]
         exact Prod.ext hu.symm rfl
       · rw [if_neg h4] at hu ⊢
         by_cases h5:c.kind=5
         · rw [if_pos h5] at hu ⊢
           have hn:=Zf7 (l:=[c.key,c.id,c.place]) (fun n hn=>by simp at hn;rcases hn with rfl | rfl | rfl;exact m4;exact m2;exact m5)
           rw [hn,if_neg (by simp),if_neg h3,if_neg h4,if_pos h5]
           exact Prod.ext hu.symm rfl
         · rw [if_neg h5,if_neg h9] at hu ⊢
           rw [if_neg (by simp [numsR,Zib]),if_neg h3,if_neg h4,if_neg h5]
           exact Prod.ext hu.symm rfl
theorem Zp1 {c:CmdD} (h:Zac c=true) (hc:c.order.txs.length≤998):(ZL c.kind).least≤((Zdg c).length:Int)+1∧((Zdg c).length:Int)+1≤(ZL c.kind).most:=by
 have hk:=Zd9 (Zak h).1
 have hop:=(Zak h).2.2.1
 obtain ⟨k,t,o,a1,a2,a3,a4⟩:=c
 dsimp only at hk hop hc ⊢
 rcases kinds hk with rfl | rfl | rfl | rfl | rfl | rfl | rfl | rfl | rfl | rfl | rfl | rfl
 all_goals (first | (refine ⟨?_,?_⟩ <;> (simp [Zdg,ZL];done)) | (refine ⟨?_,?_⟩ <;> (simp [Zdg,ZL] <;> omega)))
theorem ZpM {c:CmdD} (h:Zac c=true) (hc:c.order.txs.length≤998):Zdc (wC c)=(c,0):=by
 have hk:=Zd9 (Zak h).1
 have hl:=Zp1 h hc
 have hf:=Zow h
 unfold Zdc wC
 have e0:nth ((ZL c.kind).s :: Zdg c) 0=(ZL c.kind).s:=rfl
 have e1:((ZL c.kind).s :: Zdg c).drop 1=Zdg c:=rfl
 have e2:((((ZL c.kind).s :: Zdg c).length:Nat):Int)=((Zdg c).length:Int)+1:=by rw [List.length_cons];omega
 rw [e0,e1,e2,Zl2 hk,if_neg (by simp),if_neg (by omega),if_neg (by omega),if_neg (by omega),hf,if_neg (by simp)]
theorem ZmG {c:CmdD} (h:Zac c=true) (hc:c.order.txs.length≤998):Zbx (ZaL c)=(c,0):=by
 have hw:=ZmA (ZrC h)
 rw [Zmx h]
 unfold Zbx
 rw [hw,if_neg (by simp)]
 exact ZpM h hc
theorem Znm {c:CmdD} (h:Zac c=true) (hc:c.order.txs.length≤998):(ZaL c).length≤600000:=by
 obtain ⟨h1,h2⟩:=ZT h hc
 have h3:=Zbn c.kind
 have h4:=Zhc ((ZL c.kind).s :: Zay c)
 unfold ZaL
 rw [if_neg (by rw [h];decide)]
 unfold sumL at h2 h4
 rw [List.map_cons,List.sum_cons,List.length_cons] at h4
 omega
theorem ZiZ {id:Int} {s r:List OpD} {o:OpD} : Z8 id s (o :: r)=if ZR o=false then 1 else if o.read=true∧o.tx=id∧(wcnt s o.key:Int)<o.nth then 6 else Z8 id (s ++ [o]) r:=by rw [Z8]
theorem ZfA {id:Int} : ∀ (r s:List OpD),Z8 id s r=0 → ∀ o ∈ r,ZR o=true
 | [],_,_,o,ho=>by cases ho
 | x :: r,s,h,o,ho=>by
   rw [ZiZ] at h
   split at h
   · cases h
   · rename_i h1
     split at h
     · cases h
     · rcases List.mem_cons.1 ho with rfl | ho
       · simpa using h1
       · exact ZfA r _ h o ho
theorem ZcP {t:TxD} (h:ZU t=0):(1≤t.id∧t.id≤1048575)∧t.ops.length≤4095 ∧ ∀ o ∈ t.ops,ZR o=true:=by
 unfold ZU at h
 split at h
 · cases h
 · rename_i h1
   split at h
   · cases h
   · exact ⟨by omega,by omega,ZfA _ _ h⟩
def Zis (g:HistD) (l:List CmdD) (i:Nat):HistD:=(playC g (l.take i) 0).1
structure ZoX (g h:HistD) (l:List CmdD):Prop where
 fin:Zis g l l.length=h
 step:∀ i,i<l.length→ZJ (Zis g l i) (Go.Gm.nth l i)=(Zis g l (i+1),0)
 fit:∀ i,i≤l.length→ZaB 166 (Zis g l i)
theorem ZbB.way {g h:HistD} {l:List CmdD} (hg:ZaB 166 g) (hp:ZbB (ZaB 166) g l h):ZoX g h l:=by
 have e:=hp.play 0
 rw [Nat.zero_add] at e
 refine ⟨?_,fun i hi=>?_,fun i hi=>?_⟩
 · unfold Zis;rw [List.take_length,e]
 · obtain ⟨x,h1,h2,h3,h4⟩:=hp.at hi
   have e1:Zis g l i=x:=by unfold Zis;rw [h1]
   have e2:Zis g l (i+1)=(ZJ x (Go.Gm.nth l i)).1:=by unfold Zis;rw [h4]
   rw [e1,e2,← h2]
 · cases i with
   | zero=>exact hg
   | succ i=>
     obtain ⟨x,h1,h2,h3,h4⟩:=hp.at (i:=i) hi
     have e2:Zis g l (i+1)=(ZJ x (Go.Gm.nth l i)).1:=by unfold Zis;rw [h4]
     rw [e2];exact h3
theorem ZaB.small166 {n:Nat} {g:HistD} (h:ZaB n g) (hn:n≤166):Za0 g:=h.fit.small160 hn
theorem Znc {a b:HistD} (ha:ZaB 12 a) (hb:ZaB 12 b):ZoX a b (ZeF a b).1:=by
 obtain ⟨_,_,_,_,_,h⟩:=ZfI (a:=a) (b:=b) (Q:=ZaB 166) (fun x h1 _=>h1) ha hb
 exact h.way (ha.le (by omega))
theorem ZoP {g:HistD} (hg:ZaB 12 g):ZoX zeroH g (Zv g):=by
 have:=Znc (ZaB.le ZaB.zero (by omega)) hg
 rwa [Zg4 hg] at this
def Zi9 (c:CmdD):Prop:=Zac c=true∧c.order.txs = []∧ZaK c
theorem Zhg {c:CmdD} (h1:(ZL c.kind).s≠[]) (h2:c=usedR c) (h9:c.kind≠9) (h3:c.tx.ops.length≤24) (h4:c.order.txs = []) (h5:∀ o ∈ c.tx.ops,ZR o=true) (h6:∀ n ∈ [c.tx.id,c.id,c.order.key,c.key,c.place],0≤n∧n≤2147483647):Zi9 c:=by
 refine ⟨?_,h4,h3,by rw [h4];exact Nat.zero_le _⟩
 unfold Zac
 simp only [Bool.and_eq_true,decide_eq_true_eq,List.all_eq_true]
 refine ⟨⟨h1,h2,by omega,fun h=>h9 h.1⟩,fun n hn=>?_,h5⟩
 unfold ZaH at hn
 rw [h4,List.append_nil] at hn
 unfold Zqw
 simp
 exact h6 n hn
theorem Zhu {t:TxD} (h:ZU t=0) (hl:t.ops.length≤24):Zi9 (ZcM t):=by
 obtain ⟨h1,_,h3⟩:=ZcP h
 refine Zhg (by show Ztf≠[];decide) rfl (by show (2:Int)≠9;decide) hl rfl h3 fun n hn=>?_
 have:n=t.id∨n=0:=by
   unfold ZcM zeroC at hn
   simp at hn
   exact hn
 omega
theorem Zp7 {t:TxD} (h:ZU t=0) (hl:t.ops.length≤24):Zi9 (Zc6 t):=by
 obtain ⟨h1,_,h3⟩:=ZcP (Za5 h)
 refine Zhg (by show Ztc≠[];decide) rfl (by show (1:Int)≠9;decide) (Nat.le_trans (List.length_filter_le _ _) hl) rfl h3 fun n hn=>?_
 have:n=(bareT t).id∨n=0:=by
   unfold Zc6 zeroC at hn
   simp at hn
   exact hn
 omega
theorem ZpB {t:TxD} (h:ZU t=0):Zi9 (Zn6 t):=by
 obtain ⟨h1,_,_⟩:=ZcP h
 refine Zhg (by show Zth≠[];decide) rfl (by show (3:Int)≠9;decide) (Nat.zero_le _) rfl (fun o ho=>by cases ho) fun n hn=>?_
 have:n=0∨n=t.id:=by
   unfold Zn6 zeroC at hn
   simp [zeroT] at hn
   omega
 omega
theorem ZnA {g:HistD} (hg:Zx g) {o:OrdD} (ho:o ∈ g.orders):(0≤o.key∧o.key≤1048575)∧o.txs.length≤4096:=by
 have q:=(Z7.1 hg).2.2.2.2.2 o.key
 rw [Za8 (Zs.1 (Zq hg).2) ho] at q
 refine ⟨?_,by rw [q.length_eq];exact Nat.le_trans (ZbJ _ _) hg.1⟩
 have hw:ZN g.txs o.key≠[]:=fun h9=>by
   rw [h9] at q
   exact Zc4 hg o ho q.eq_nil
 obtain ⟨x,hx⟩:=List.exists_mem_of_ne_nil _ hw
 obtain ⟨t,h1,_,_,h2⟩:=Za6.1 hx
 have h3:=(ZcP (Zap hg h1).1).2.2
 unfold wcnt at h2
 obtain ⟨u,hu⟩:=List.exists_mem_of_length_pos h2
 have hu:=List.mem_filter.1 hu
 simp at hu
 have h4:=ZbV (h3 u hu.1)
 rw [← hu.2.2]
 omega
theorem Zo0 {k:Int} {p:Zb8} (hk:0≤k∧k≤1048575) (h1:0≤p.key∧p.key≤1048575) (h2:0≤p.val∧p.val≤4096):Zi9 (Zh8 k p):=by
 refine Zhg (by show Zs8≠[];decide) rfl (by show (5:Int)≠9;decide) (Nat.zero_le _) rfl (fun o ho=>by cases ho) fun n hn=>?_
 have:n=0∨n=p.key∨n=k∨n=p.val:=by
   unfold Zh8 zeroC at hn
   simp [zeroT] at hn
   omega
 omega
theorem ZlQ {x:List Int} {o:OrdD} {g:HistD} (hg:Zx g) (ho:o ∈ g.orders) {c:CmdD} (hc:c ∈ (ZaD x o.txs).1.map (Zh8 o.key)):Zi9 c:=by
 obtain ⟨p,hp,rfl⟩:=List.mem_map.1 hc
 obtain ⟨k1,k2⟩:=ZnA hg ho
 unfold ZaD at hp
 split at hp
 · rename_i hok
   obtain ⟨v1,v2,v3⟩:=Zdr o.txs x 0 p hp
   have:=hok.2.1.1 p.key v1
   exact Zo0 k1 (by omega) (by omega)
 · cases hp
theorem Zml {a b:HistD} (ha:ZaB 12 a) (hb:ZaB 12 b) {c:CmdD} (hc:c ∈ (ZeF a b).1):Zi9 c:=by
 have hl:∀ t:TxD,t.ops.length≤24→(bareT t).ops.length≤24:=fun t h=>Nat.le_trans (List.length_filter_le _ _) h
 unfold ZeF at hc
 rw [if_neg (by simp [ha.1,hb.1])] at hc
 rcases List.mem_append.1 hc with hc | hc
 · unfold Zbb at hc
   simp only [List.mem_append,List.mem_map,List.mem_filter] at hc
   rcases hc with (((⟨t,ht,rfl⟩ | ⟨t,ht,rfl⟩) | ⟨t,ht,rfl⟩) | ⟨t,ht,rfl⟩) | ⟨t,ht,rfl⟩
   · exact Zhu (Za5 (Zap ha.1 ht.1).1) (hl t (ha.2.2 t ht.1))
   · exact ZpB (Zap ha.1 ht.1).1
   · exact Zhu (Za5 (Zap hb.1 ht.1).1) (hl t (hb.2.2 t ht.1))
   · exact Zp7 (Zap hb.1 ht.1).1 (hb.2.2 t ht.1)
   · exact Zhu (Zap hb.1 ht.1).1 (hb.2.2 t ht.1)
 · obtain ⟨o,ho,hc⟩:=List.mem_flatMap.1 hc
   exact ZlQ hb.1 ho hc
theorem Zin {g:HistD} (hg:ZaB 12 g) {c:CmdD} (hc:c ∈ Zv g):Zi9 c:=by
 have:c ∈ (ZeF zeroH g).1:=by rw [Zg4 hg];exact hc
 exact Zml (ZaB.le ZaB.zero (by omega)) hg this
theorem ZhY (g:HistD) (c:CmdD) (hs:Za0 g) (hc:ZaK c):FnP Tryz.prog 19 [.agg (Zo g),.agg (rCmd c)] (.tup [.agg (Zo (ZJ g c).1),.int .i64 (ZJ g c).2]):=by
 refine FnP.mk Tryz.func19 rfl Tryz.ntmps19 rfl ?_
 intro B a w F hB hfr hS
 refine wp_seq ?_
 refine Zc hS (qx 101 r1 (qx 102 r1 (qf (oH [.slice none 0 0,.slice none 0 0] 103) trivial qz (qI qZ)))) hB [5,4,3,2] [103,102,101,0] (fun _=>rfl) (fun _=>rfl) fun τ a w F hS=>?_
 try dsimp only [RS.sub,SF.sub,CF.sub,csub,Anc.sub,List.map,zCF,Zo,rTx,Zz,ZQ,rInt,rOp,rCmd] at hS
 generalize τ 2=v2 at hS
 generalize τ 3=v3 at hS
 generalize τ 4=v4 at hS
 refine Zb (wp_seq (wp_seq ?_))
 refine Za hS (qg 0 102 r1 r1 (qa 102 r1 r1 qZ)) hB [7,5,4,3,2] [103,102,101,0] rfl rfl fun a w F hS=>Zb (wp_block (wp_seq ?_))
 refine Za hS (qf (o_eql .t qi) r1 qz (qN rfl rfl qZ)) hB [8,7,5,4,3,2] [103,102,101,0] rfl rfl fun a w F hS=>Zb ?_
 refine Zd hS rfl (fun hc0=>?_) (fun hc0=>?_)
 ·skip
  have hg:ZJ g c=Zam g c.tx:=by unfold ZJ;rw [if_pos (by simpa using hc0)]
  refine wp_seq ?_
  refine Za hS (qe 2 101 r1 r1 (qg 1 102 r1 r1 (qf (oL true 3 102 .adr) r1 r1 (qf (oP (ZnJ g c.tx hs (by have:=hc.1;omega)) Tryz.func51 (Args.two (.pagg .t) (.pagg .t))) r2 qz (qf (o_extract .t rfl) r1 qz (qf (o_extract .t rfl) r1 qz (qf (oA 2 103 .is (.conv .t .agg)) r2 r1 (qN rfl rfl qZ)))))))) hB [5,4] [103,102,101,0] rfl rfl fun a w F hS=>Zb (wp_ret (Zf (Ze ?_)))
  refine Zr hfr hS rfl (.cl 103 true 2 rfl rfl (.tmp rfl .nil)) (.two (by rw [hg];first | exact .aggU rfl rfl | exact .aggLe rfl ⟨PVLe.nilSl,PVLe.nilSl,trivial⟩) (.int (by rw [hg])))
 have k1:¬ c.kind=1:=by simpa using hc0
 refine wp_seq ?_
 refine Za hS (qf (o_eql .t qi) r1 qz (qN rfl rfl qZ)) hB [16,7,5,4,3,2] [103,102,101,0] rfl rfl fun a w F hS=>Zb ?_
 refine Zd hS rfl (fun hc1=>?_) (fun hc1=>?_)
 ·skip
  have hg:ZJ g c=Za4 g c.tx:=by unfold ZJ;rw [if_neg k1,if_pos (by simpa using hc1)]
  refine wp_seq ?_
  refine Za hS (qe 2 101 r1 r1 (qg 1 102 r1 r1 (qf (oL true 3 102 .adr) r1 r1 (qf (oP (Zo7 g c.tx hs (by have:=hc.1;omega)) Tryz.func52 (Args.two (.pagg .t) (.pagg .t))) r2 qz (qf (o_extract .t rfl) r1 qz (qf (o_extract .t rfl) r1 qz (qf (oA 2 103 .is (.conv .t .agg)) r2 r1 (qN rfl rfl qZ)))))))) hB [5,4] [103,102,101,0] rfl rfl fun a w F hS=>Zb (wp_ret (Zf (Ze ?_)))
  refine Zr hfr hS rfl (.cl 103 true 2 rfl rfl (.tmp rfl .nil)) (.two (by rw [hg];first | exact .aggU rfl rfl | exact .aggLe rfl ⟨PVLe.nilSl,PVLe.nilSl,trivial⟩) (.int (by rw [hg])))
 have k2:¬ c.kind=2:=by simpa using hc1
 refine wp_seq ?_
 refine Za hS (qf (o_eql .t qi) r1 qz (qN rfl rfl qZ)) hB [24,7,5,4,3,2] [103,102,101,0] rfl rfl fun a w F hS=>Zb ?_
 refine Zd hS rfl (fun hc2=>?_) (fun hc2=>?_)
 ·skip
  have hg:ZJ g c=Zad g c.id:=by unfold ZJ;rw [if_neg k1,if_neg k2,if_pos (by simpa using hc2)]
  refine wp_seq ?_
  refine Za hS (qe 2 101 r1 r1 (qg 7 102 r1 r1 (qa 102 r1 r1 (qf (oP (Zoz g c.id hs) Tryz.func53 (Args.two (.pagg .t) .t)) r2 qz (qf (o_extract .t rfl) r1 qz (qf (o_extract .t rfl) r1 qz (qf (oA 2 103 .is (.conv .t .agg)) r2 r1 (qN rfl rfl qZ)))))))) hB [5,4] [103,102,101,0] rfl rfl fun a w F hS=>Zb (wp_ret (Zf (Ze ?_)))
  refine Zr hfr hS rfl (.cl 103 true 2 rfl rfl (.tmp rfl .nil)) (.two (by rw [hg];first | exact .aggU rfl rfl | exact .aggLe rfl ⟨PVLe.nilSl,PVLe.nilSl,trivial⟩) (.int (by rw [hg])))
 have k3:¬ c.kind=3:=by simpa using hc2
 refine wp_seq ?_
 refine Za hS (qf (o_eql .t qi) r1 qz (qN rfl rfl qZ)) hB [32,7,5,4,3,2] [103,102,101,0] rfl rfl fun a w F hS=>Zb ?_
 refine Zd hS rfl (fun hc3=>?_) (fun hc3=>?_)
 ·skip
  have hg:ZJ g c=ZcZ g c.order:=by unfold ZJ;rw [if_neg k1,if_neg k2,if_neg k3,if_pos (by simpa using hc3)]
  refine wp_seq ?_
  refine Za hS (qe 2 101 r1 r1 (qg 4 102 r1 r1 (qf (oL true 2 102 .adr) r1 r1 (qf (oP (ZmI g c.order hs (by have:=hc.2;omega)) Tryz.func54 (Args.two (.pagg .t) (.pagg .t))) r2 qz (qf (o_extract .t rfl) r1 qz (qf (o_extract .t rfl) r1 qz (qf (oA 2 103 .is (.conv .t .agg)) r2 r1 (qN rfl rfl qZ)))))))) hB [5,4] [103,102,101,0] rfl rfl fun a w F hS=>Zb (wp_ret (Zf (Ze ?_)))
  refine Zr hfr hS rfl (.cl 103 true 2 rfl rfl (.tmp rfl .nil)) (.two (by rw [hg];first | exact .aggU rfl rfl | exact .aggLe rfl ⟨PVLe.nilSl,PVLe.nilSl,trivial⟩) (.int (by rw [hg])))
 have k4:¬ c.kind=4:=by simpa using hc3
 refine wp_seq ?_
 refine Za hS (qf (o_eql .t qi) r1 qz (qN rfl rfl qZ)) hB [40,5,4,3,2] [103,102,101,0] rfl rfl fun a w F hS=>Zb ?_
 refine Zd hS rfl (fun hc4=>?_) (fun hc4=>?_)
 ·skip
  have hg:ZJ g c=Zmp g c.key c.id c.place:=by unfold ZJ;rw [if_neg k1,if_neg k2,if_neg k3,if_neg k4,if_pos (by simpa using hc4)]
  refine wp_seq ?_
  refine Za hS (qe 2 101 r1 r1 (qg 6 102 r1 r1 (qa 102 r1 r1 (qg 7 102 r1 r1 (qa 102 r1 r1 (qg 8 102 r1 r1 (qa 102 r1 r1 (qf (oP (ZrQ g c.key c.id c.place hs) Tryz.func55 (Args.four (.pagg .t) .t .t .t)) r4 qz (qf (o_extract .t rfl) r1 qz (qf (o_extract .t rfl) r1 qz (qf (oA 2 103 .is (.conv .t .agg)) r2 r1 (qN rfl rfl qZ)))))))))))) hB [5,4] [103,102,101,0] rfl rfl fun a w F hS=>Zb (wp_ret (Zf (Ze ?_)))
  refine Zr hfr hS rfl (.cl 103 true 2 rfl rfl (.tmp rfl .nil)) (.two (by rw [hg];first | exact .aggU rfl rfl | exact .aggLe rfl ⟨PVLe.nilSl,PVLe.nilSl,trivial⟩) (.int (by rw [hg])))
 have k5:¬ c.kind=5:=by simpa using hc4
 have hg:ZJ g c=(zeroH,11):=by unfold ZJ;rw [if_neg k1,if_neg k2,if_neg k3,if_neg k4,if_neg k5]
 refine wp_skip (Zh (Zb (wp_seq ?_)))
 refine Za hS (qf (oB [] [.slice none 0 0,.slice none 0 0] [(0,1),(1,1)] .nil) trivial qz (qs 2 103 r2 r1 (qI qZ))) hB [5,4] [103,102,101,0] rfl rfl fun a w F hS=>Zb (wp_ret ?_)
 refine Zr hfr hS rfl (.cl 103 true 2 rfl rfl (.tmp rfl .nil)) (.two (by rw [hg];first | exact .aggU rfl rfl | exact .aggLe rfl ⟨PVLe.nilSl,PVLe.nilSl,trivial⟩) (.int (by rw [hg])))
theorem Zm5 (l:List CmdD) (hl:Zlc l):FnP Tryz.prog 9 [.sl rCmd l] (.tup [.agg (Zo (playC zeroH l 0).1),.int .i64 (((playC zeroH l 0).2.1:Nat):Int),.int .i64 (playC zeroH l 0).2.2]):=by
 refine FnP.mk Tryz.func9 rfl Tryz.ntmps9 rfl ?_
 intro B a w F hB hfr hS
 have hll:=hl.1
 refine wp_seq ?_
 refine Zc hS (qf (oH [.slice none 0 0,.slice none 0 0] 101) trivial qz (qI (qI qZ))) hB [4,3,2,0] [101,0] (fun _=>rfl) (fun _=>rfl) fun τ a w F hS=>?_
 try dsimp only [RS.sub,SF.sub,CF.sub,csub,Anc.sub,List.map,zCF,Zo,rTx,Zz,ZQ,rInt,rOp,rCmd] at hS
 generalize τ 2=v2 at hS
 refine Zb (wp_seq (wp_seq ?_))
 refine Za hS (qM rfl rfl (qu Tryz.underlying28 r1 (qJ qZ))) hB [11,10,9,4,3,2,0] [101,0] rfl rfl fun a w F hS=>Zb (wp_block ?_)
 replace hS:=hS.turn 101 rfl (r':=.pt (.val v2) 25 [.pv (.sl rTx zeroH.txs),.pv (.sl Zz zeroH.orders)]) (ZsC rfl rfl ⟨PVLe.nilSl,PVLe.nilSl,trivial⟩)
 refine Zp (σ:=(Nat)×(HistD)) [0,2,3,4,9,10] [0] (fun s=>[(11,.pv (.int .i64 (s.1:Int)))]) (fun s=>[(101,.pt (.val v2) 25 [.pv (.sl rTx (s.2).txs),.pv (.sl Zz (s.2).orders)])]) (fun s=>s.1≤l.length∧(playC zeroH l 0=playC s.2 (l.drop s.1) s.1∧ZaB s.1 s.2)) (fun s=>l.length - s.1) ((0),(zeroH)) hS ⟨rfl,rfl,rfl,rfl,rfl,rfl,rfl,trivial⟩ ⟨rfl,rfl,trivial⟩ ⟨Nat.zero_le _,⟨rfl,ZaB.zero⟩⟩ ?_
 clear hS;intro s a w F hC hS
 obtain ⟨i,gg⟩:=s
 try dsimp only at hC
 obtain ⟨F,hS⟩:=hS.nm [11,10,9,4,3,2,0] [101,0] rfl rfl
 try dsimp only at hS
 obtain ⟨hi,hq⟩:=hC
 obtain ⟨hpc,hfit⟩:=hq
 refine wp_seq ?_
 refine Za hS (qL r2) hB [12,11,10,9,4,3,2,0] [101,0] rfl rfl fun a w F hS=>Zb (wp_seq ?_)
 refine Zd hS rfl (fun hc0=>?_) (fun hc0=>?_)
 ·skip
  have hil:i<l.length:=by simp at hc0;omega
  have hio:=hil
  refine wp_skip (Zb (wp_seq (wp_block (wp_seq ?_))))
  refine Zc hS (qM rfl rfl (qy 10 Tryz.underlying28 r2 (qf (oR true 10 .t) r1 qz (qf (oH [.int .i64 0,.int .i64 0,.bool false,.slice none 0 0,.int .i64 0,.slice none 0 0,.int .i64 0,.int .i64 0,.int .i64 0,.int .i64 0] 102) trivial qz (qN rfl rfl (qS 10 102 r2 r1 qZ)))))) hB [11,10,9,6,5,4,3,2,0] [102,101,0] (fun _=>rfl) (fun _=>rfl) fun τ a w F hS=>?_
  try dsimp only [RS.sub,SF.sub,CF.sub,csub,Anc.sub,List.map,Zg,xL,xM,Nat.reduceAdd,xD,xE,xT,xU,xC,xN,zCF,ldSF,Zo,rTx,Zz,ZQ,rInt,rOp,rCmd] at hS
  generalize τ 6=v6 at hS
  try simp only [Int.toNat_natCast] at hS
  refine Zb (wp_seq ?_)
  refine Zc hS (qe 2 101 r1 r1 (qe 10 102 r1 r1 (qf (oP (ZhY gg (Go.Gm.nth l i) (hfit.fit.small40 (by have:=hl.1;omega)) (LightC.at hl hio)) Tryz.func19 (Args.two (.pagg .t) (.pagg .t))) r2 qz (qM rfl rfl (qf (o_extract .t rfl) r1 qz (qf (o_extract .t rfl) r1 qz (qf (oH [.slice none 0 0,.slice none 0 0] 103) trivial qz (qf (oA 2 103 .same (.conv .t .agg)) r2 r1 (qN rfl rfl qZ))))))))) hB [11,10,9,8,7,5,4,3,2,0] [103,102,101,0] (fun _=>rfl) (fun _=>rfl) fun τ a w F hS=>?_
  try dsimp only [RS.sub,SF.sub,CF.sub,csub,Anc.sub,List.map,Zg,xL,xM,Nat.reduceAdd,xD,xE,xT,xU,xC,xN,zCF,ldSF,Zo,rTx,Zz,ZQ,rInt,rOp,rCmd] at hS
  generalize τ 7=v7 at hS
  refine Zb (wp_seq (wp_seq ?_))
  refine Za hS (qM rfl rfl (qf (o_neq .t qi) r1 qz qZ)) hB [23,11,10,9,8,7,5,4,3,2,0] [103,102,101,0] rfl rfl fun a w F hS=>Zb ?_
  refine Zd hS rfl (fun hc1=>?_) (fun hc1=>?_)
  ·skip
   have hg:=Zm4 hpc hio (by simpa using hc1)
   refine wp_seq ?_
   refine Za hS (qf (oB [] [.slice none 0 0,.slice none 0 0] [(0,1),(1,1)] .nil) trivial qz (qM rfl rfl (qM rfl rfl (qs 2 101 r2 r1 (qN rfl rfl (qN rfl rfl qZ)))))) hB [11,10,9,7,4,3,2,0] [103,102,101,0] rfl rfl fun a w F hS=>Zb (wp_ret (Ze (Zf (Ze (Ze (Zf (Ze ?_)))))))
   refine Zr hfr hS rfl (.cl 101 true 2 rfl rfl (.tmp rfl (.tmp rfl .nil))) (.three (by rw [hg];first | exact .aggU rfl rfl | exact .aggLe rfl ⟨PVLe.nilSl,PVLe.nilSl,trivial⟩) (.int (by rw [hg])) (.int (by rw [hg])))
  have hok:¬ (ZJ gg (Go.Gm.nth l i)).2≠0:=by simpa using hc1
  refine wp_skip (Zb ?_)
  refine Za hS (qe 2 103 r1 r1 (qs 2 101 r2 r1 qZ)) hB [11,10,9,4,3,2,0] [103,102,101,0] rfl rfl fun a w F hS=>Zh (Zb ?_)
  refine Za hS (qp r1 (qM rfl rfl qZ)) hB [11,10,9,4,3,2,0] [103,102,101,0] rfl rfl fun a w F hS=>Zb ?_
  replace hS:=hS.ent (i:=11) (s':=.pv (.int .i64 ((i+1:Nat):Int))) rfl (.int (wrap_succ (by omega)))
  obtain ⟨F,hS⟩:=hS.nm [10,9,4,3,2,0,11] [0,101] rfl rfl
  exact ⟨((i+1),((ZJ gg (Go.Gm.nth l i)).1)),F,⟨by omega,⟨Zmm hpc hio hok,hfit.edit (by have:=hl.1;omega) (LightC.at hl hio) hok⟩⟩,hS,by omega⟩
 have hil:i=l.length:=by simp at hc0;omega
 have hg:=Znz hpc hil
 refine wp_exit (Zi (Zi (Zl (Zb (wp_seq ?_)))))
 refine Za hS (qe 2 101 r1 r1 (qM rfl rfl (qu Tryz.underlying28 r1 (qs 2 101 r2 r1 (qN rfl rfl (qI qZ)))))) hB [4,3,2] [101,0] rfl rfl fun a w F hS=>Zb (wp_ret ?_)
 refine Zr hfr hS rfl (.cl 101 true 2 rfl rfl (.tmp rfl (.tmp rfl .nil))) (.three (by rw [hg];first | exact .aggU rfl rfl | exact .aggLe rfl ⟨PVLe.nilSl,PVLe.nilSl,trivial⟩) (.int (by rw [hg])) (.int (by rw [hg])))
theorem ZpL (h9:HistD) (l:List CmdD) (hwo:ZoX zeroH h9 l) (hlt:∀ c ∈ l,ZaK c):FnP Tryz.prog 9 [.sl rCmd l] (.tup [.agg (Zo h9),.int .i64 ((l.length:Nat):Int),.int .i64 0]):=by
 refine FnP.mk Tryz.func9 rfl Tryz.ntmps9 rfl ?_
 intro B a w F hB hfr hS
 have hll:=Sat.lenSl hS (i:=0) rfl
 refine wp_seq ?_
 refine Zc hS (qf (oH [.slice none 0 0,.slice none 0 0] 101) trivial qz (qI (qI qZ))) hB [4,3,2,0] [101,0] (fun _=>rfl) (fun _=>rfl) fun τ a w F hS=>?_
 try dsimp only [RS.sub,SF.sub,CF.sub,csub,Anc.sub,List.map,zCF,Zo,rTx,Zz,ZQ,rInt,rOp,rCmd,Zjp,ZqZ,Zj8,Zet] at hS
 generalize τ 2=v2 at hS
 refine Zb (wp_seq (wp_seq ?_))
 refine Za hS (qM rfl rfl (qu Tryz.underlying28 r1 (qJ qZ))) hB [11,10,9,4,3,2,0] [101,0] rfl rfl fun a w F hS=>Zb (wp_block ?_)
 replace hS:=hS.turn 101 rfl (r':=.pt (.val v2) 25 [.pv (.sl rTx (Zis zeroH l 0).txs),.pv (.sl Zz (Zis zeroH l 0).orders)]) (ZsC rfl rfl ⟨PVLe.nilSl,PVLe.nilSl,trivial⟩)
 refine Zp (σ:=(Nat)) [0,2,3,4,9,10] [0] (fun s=>[(11,.pv (.int .i64 (s:Int)))]) (fun s=>[(101,.pt (.val v2) 25 [.pv (.sl rTx (Zis zeroH l s).txs),.pv (.sl Zz (Zis zeroH l s).orders)])]) (fun s=>s≤l.length∧(True)) (fun s=>l.length - s) (0) hS ⟨rfl,rfl,rfl,rfl,rfl,rfl,rfl,trivial⟩ ⟨rfl,rfl,trivial⟩ ⟨Nat.zero_le _,trivial⟩ ?_
 clear hS;intro i a w F hC hS
 try dsimp only at hC
 obtain ⟨F,hS⟩:=hS.nm [11,10,9,4,3,2,0] [101,0] rfl rfl
 try dsimp only at hS
 obtain ⟨hi,hq⟩:=hC
 refine wp_seq ?_
 refine Za hS (qL r2) hB [12,11,10,9,4,3,2,0] [101,0] rfl rfl fun a w F hS=>Zb (wp_seq ?_)
 refine Zd hS rfl (fun hc0=>?_) (fun hc0=>?_)
 ·skip
  have hil:i<l.length:=by simp at hc0;omega
  have hio:=hil
  refine wp_skip (Zb (wp_seq (wp_block (wp_seq ?_))))
  refine Zc hS (qM rfl rfl (qy 10 Tryz.underlying28 r2 (qf (oR true 10 .t) r1 qz (qf (oH [.int .i64 0,.int .i64 0,.bool false,.slice none 0 0,.int .i64 0,.slice none 0 0,.int .i64 0,.int .i64 0,.int .i64 0,.int .i64 0] 102) trivial qz (qN rfl rfl (qS 10 102 r2 r1 qZ)))))) hB [11,10,9,6,5,4,3,2,0] [102,101,0] (fun _=>rfl) (fun _=>rfl) fun τ a w F hS=>?_
  try dsimp only [RS.sub,SF.sub,CF.sub,csub,Anc.sub,List.map,Zg,xL,xM,Nat.reduceAdd,xD,xE,xT,xU,xC,xN,zCF,ldSF,Zo,rTx,Zz,ZQ,rInt,rOp,rCmd,Zjp,ZqZ,Zj8,Zet] at hS
  generalize τ 6=v6 at hS
  try simp only [Int.toNat_natCast] at hS
  refine Zb (wp_seq ?_)
  refine Zc hS (qe 2 101 r1 r1 (qe 10 102 r1 r1 (qf (oP (ZhY (Zis zeroH l i) (Go.Gm.nth l i) ((hwo.fit i hi).small166 (by omega)) (hlt _ (ZB hio))) Tryz.func19 (Args.two (.pagg .t) (.pagg .t))) r2 qz (qM rfl rfl (qf (o_extract .t rfl) r1 qz (qf (o_extract .t rfl) r1 qz (qf (oH [.slice none 0 0,.slice none 0 0] 103) trivial qz (qf (oA 2 103 .same (.conv .t .agg)) r2 r1 (qN rfl rfl qZ))))))))) hB [11,10,9,8,7,5,4,3,2,0] [103,102,101,0] (fun _=>rfl) (fun _=>rfl) fun τ a w F hS=>?_
  try dsimp only [RS.sub,SF.sub,CF.sub,csub,Anc.sub,List.map,Zg,xL,xM,Nat.reduceAdd,xD,xE,xT,xU,xC,xN,zCF,ldSF,Zo,rTx,Zz,ZQ,rInt,rOp,rCmd,Zjp,ZqZ,Zj8,Zet] at hS
  generalize τ 7=v7 at hS
  rw [hwo.step i hio] at hS
  dsimp only at hS
  refine Zb (wp_seq (wp_seq ?_))
  refine Za hS (qM rfl rfl (qf (o_neq .t qi) r1 qz qZ)) hB [23,11,10,9,8,7,5,4,3,2,0] [103,102,101,0] rfl rfl fun a w F hS=>Zb ?_
  refine Zd hS rfl (fun hc1=>?_) (fun hc1=>?_)
  ·skip
   simp at hc1
  refine wp_skip (Zb ?_)
  refine Za hS (qe 2 103 r1 r1 (qs 2 101 r2 r1 qZ)) hB [11,10,9,4,3,2,0] [103,102,101,0] rfl rfl fun a w F hS=>Zh (Zb ?_)
  refine Za hS (qp r1 (qM rfl rfl qZ)) hB [11,10,9,4,3,2,0] [103,102,101,0] rfl rfl fun a w F hS=>Zb ?_
  replace hS:=hS.ent (i:=11) (s':=.pv (.int .i64 ((i+1:Nat):Int))) rfl (.int (wrap_succ (by omega)))
  obtain ⟨F,hS⟩:=hS.nm [10,9,4,3,2,0,11] [0,101] rfl rfl
  exact ⟨(i+1),F,⟨by omega,trivial⟩,hS,by omega⟩
 have hil:i=l.length:=by simp at hc0;omega
 have hwe:Zis zeroH l i=h9:=by rw [hil];exact hwo.fin
 refine wp_exit (Zi (Zi (Zl (Zb (wp_seq ?_)))))
 refine Za hS (qe 2 101 r1 r1 (qM rfl rfl (qu Tryz.underlying28 r1 (qs 2 101 r2 r1 (qN rfl rfl (qI qZ)))))) hB [4,3,2] [101,0] rfl rfl fun a w F hS=>Zb (wp_ret ?_)
 refine Zr hfr hS rfl (.cl 101 true 2 rfl rfl (.tmp rfl (.tmp rfl .nil))) (.three (by rw [← hwe];first | exact .aggU rfl rfl | exact .aggLe rfl ⟨PVLe.nilSl,PVLe.nilSl,trivial⟩) (.int rfl) (.int rfl))
theorem Zkf {o:OrdD} (h:o.txs.Nodup):ZbR o=(ZaD (Zdh o.txs) o.txs).1.map (Zh8 o.key):=by unfold ZbR;rw [Zie h]
theorem zC_le (k i j:Int):ZdN [.int .i64 k,.int .i64 0,.bool false,.is (.slice none 0 0),.int .i64 0,.is (.slice none 0 0),.int .i64 j,.int .i64 i,.int .i64 0,.int .i64 0] (rCmd {zeroC k with key:=j,id:=i}):=⟨PVLe.refl,PVLe.refl,PVLe.refl,PVLe.nilSl,PVLe.refl,PVLe.nilSl,PVLe.refl,PVLe.refl,PVLe.refl,PVLe.refl,trivial⟩
theorem lvc:Zv (⟨[(⟨1,true,[⟨false,5,0,0⟩]⟩:TxD),(⟨2,true,[⟨true,5,1,1⟩,⟨false,5,0,0⟩]⟩:TxD)],[⟨5,[2,1]⟩]⟩:HistD)=([Zc6 (⟨1,true,[⟨false,5,0,0⟩]⟩:TxD),Zc6 (⟨2,true,[⟨true,5,1,1⟩,⟨false,5,0,0⟩]⟩:TxD),ZcM (⟨2,true,[⟨true,5,1,1⟩,⟨false,5,0,0⟩]⟩:TxD),Zh8 5 ⟨2,0⟩]:List CmdD):=by
 rw [Zcj (by decide +kernel)]
 rw [show ((⟨[(⟨1,true,[⟨false,5,0,0⟩]⟩:TxD),(⟨2,true,[⟨true,5,1,1⟩,⟨false,5,0,0⟩]⟩:TxD)],[⟨5,[2,1]⟩]⟩:HistD)).orders.flatMap ZbR=ZbR ⟨5,[2,1]⟩ from by simp,Zkf (by decide)]
 decide +kernel
theorem lvp:playC zeroH ([Zc6 (⟨1,true,[⟨false,5,0,0⟩]⟩:TxD),Zc6 (⟨2,true,[⟨true,5,1,1⟩,⟨false,5,0,0⟩]⟩:TxD),ZcM (⟨2,true,[⟨true,5,1,1⟩,⟨false,5,0,0⟩]⟩:TxD),Zh8 5 ⟨2,0⟩]:List CmdD) 0=((⟨[(⟨1,true,[⟨false,5,0,0⟩]⟩:TxD),(⟨2,true,[⟨true,5,1,1⟩,⟨false,5,0,0⟩]⟩:TxD)],[⟨5,[2,1]⟩]⟩:HistD),4,0):=by decide +kernel
theorem lvq:playC zeroH [({zeroC 1 with tx:=⟨1,false,[]⟩} : CmdD),({zeroC 1 with tx:=⟨1,false,[]⟩} : CmdD)] 0=(zeroH,1,4):=by decide +kernel
theorem lve:ZJ (⟨[(⟨1,true,[⟨false,5,0,0⟩]⟩:TxD),(⟨2,true,[⟨true,5,1,1⟩,⟨false,5,0,0⟩]⟩:TxD)],[⟨5,[2,1]⟩]⟩:HistD) ({zeroC 8 with key:=0,id:=0} : CmdD)=(zeroH,11):=by decide +kernel
theorem lvf:ZJ (⟨[(⟨1,true,[⟨false,5,0,0⟩]⟩:TxD),(⟨2,true,[⟨true,5,1,1⟩,⟨false,5,0,0⟩]⟩:TxD)],[⟨5,[2,1]⟩]⟩:HistD) ({zeroC 5 with key:=5,id:=1} : CmdD)=((⟨[(⟨1,true,[⟨false,5,0,0⟩]⟩:TxD),(⟨2,true,[⟨true,5,1,1⟩,⟨false,5,0,0⟩]⟩:TxD)],[⟨5,[1,2]⟩]⟩:HistD),0):=by decide +kernel
theorem lvs:([Zc6 (⟨1,true,[⟨false,5,0,0⟩]⟩:TxD),Zc6 (⟨2,true,[⟨true,5,1,1⟩,⟨false,5,0,0⟩]⟩:TxD),ZcM (⟨2,true,[⟨true,5,1,1⟩,⟨false,5,0,0⟩]⟩:TxD),Zh8 5 ⟨2,0⟩]:List CmdD).map ZaL = [[97,100,100,32,49,32,99,32,119,53],[97,100,100,32,50,32,99,32,119,53],[115,101,116,32,50,32,99,32,114,53,64,49,46,49,32,119,53],[109,111,118,32,53,32,50,32,48]]:=by decide +kernel
theorem ZmP  : FnP Tryz.prog 5 [] (.bool true):=by
 refine FnP.mk Tryz.func5 rfl Tryz.ntmps5 rfl ?_
 intro B a w F hB hfr hS
 refine wp_seq ?_
 refine Za hS qB hB [0] [0] rfl rfl fun a w F hS=>Zb (wp_seq ?_)
 refine Zc hS (qf (oB [(1,_)] [.bool false,.int .i64 0,.int .i64 0,.int .i64 0] [(0,1),(1,1),(2,1),(3,1)] (.one rfl qi one_int (by kernel_rfl) .nil)) trivial qz (qf (oB [(0,_),(1,_),(2,_),(3,_)] [.bool false,.int .i64 0,.int .i64 0,.int .i64 0] [(0,1),(1,1),(2,1),(3,1)] (.one rfl .cb one_bool (by kernel_rfl) (.one rfl qi one_int (by kernel_rfl) (.one rfl qi one_int (by kernel_rfl) (.one rfl qi one_int (by kernel_rfl) .nil))))) trivial qz (qf (oH [.bool false,.int .i64 0,.int .i64 0,.int .i64 0] 101) trivial qz (qf (oH [.bool false,.int .i64 0,.int .i64 0,.int .i64 0] 102) trivial qz (qS 4 101 r2 r1 (qS 4 102 r2 r1 qZ)))))) hB [2,1,0] [102,101,0] (fun _=>rfl) (fun _=>rfl) fun τ a w F hS=>?_
 try dsimp only [RS.sub,SF.sub,CF.sub,csub,Anc.sub,List.map,Zg,xL,xM,Nat.reduceAdd,xD,xE,xT,xU,xC,xN,zCF,Zo,rTx,Zz,ZQ,rInt,rOp,rCmd,rS] at hS
 generalize τ 1=v1 at hS
 generalize τ 2=v2 at hS
 refine Zb (wp_seq ?_)
 refine Zc hS (qe 4 101 r1 r1 (qf (Zk (sz:=4) (zs:=[.bool false,.int .i64 0,.int .i64 0,.int .i64 0]) (r:=[(0,.tmp 17)]) (l:=[_,_,_,_]) Tryz.underlying36 (by kernel_rfl) (by kernel_rfl) (by kernel_rfl) (by kernel_rfl) rfl rfl (.agg rfl .t (by kernel_rfl) (by kernel_rfl) .nil) rfl) r1 qz (qf (oB [(0,_),(1,_),(2,.tmp 18)] [.int .i64 0,.bool false,.slice none 0 0] [(0,1),(1,1),(2,1)] (.one rfl qi one_int (by kernel_rfl) (.one rfl .cb one_bool (by kernel_rfl) (.one rfl .t Zf1 (by kernel_rfl) .nil)))) r1 qz (qe 4 102 r1 r1 (qe 4 101 r1 r1 (qf (Zk (sz:=4) (zs:=[.bool false,.int .i64 0,.int .i64 0,.int .i64 0]) (r:=[(0,.tmp 20),(1,.tmp 21)]) (l:=[_,_,_,_,_,_,_,_]) Tryz.underlying36 (by kernel_rfl) (by kernel_rfl) (by kernel_rfl) (by kernel_rfl) rfl rfl (.agg rfl .t (by kernel_rfl) (by kernel_rfl) (.agg rfl .t (by kernel_rfl) (by kernel_rfl) .nil)) rfl) r2 qz (qf (oB [(0,_),(1,_),(2,.tmp 22)] [.int .i64 0,.bool false,.slice none 0 0] [(0,1),(1,1),(2,1)] (.one rfl qi one_int (by kernel_rfl) (.one rfl .cb one_bool (by kernel_rfl) (.one rfl .t Zf1 (by kernel_rfl) .nil)))) r1 qz (qf (Zk (sz:=3) (zs:=[.int .i64 0,.bool false,.slice none 0 0]) (r:=[(0,.tmp 19),(1,.tmp 23)]) (l:=[_,_,_,_,_,_]) Tryz.underlying22 (by kernel_rfl) (by kernel_rfl) (by kernel_rfl) (by kernel_rfl) rfl rfl (.agg rfl .t (by kernel_rfl) (by kernel_rfl) (.agg rfl .t (by kernel_rfl) (by kernel_rfl) .nil)) rfl) r2 qz (qf (Zk (sz:=1) (zs:=[.int .i64 0]) (r:=[(0,_),(1,_)]) (l:=[_,_]) Tryz.underlying39 (by kernel_rfl) (by kernel_rfl) (by kernel_rfl) (by kernel_rfl) rfl rfl (.one rfl qi one_int (by kernel_rfl) (.one rfl qi one_int (by kernel_rfl) .nil)) rfl) trivial qz (qf (oB [(0,_),(1,.tmp 25)] [.int .i64 0,.slice none 0 0] [(0,1),(1,1)] (.one rfl qi one_int (by kernel_rfl) (.one rfl .t Zf1 (by kernel_rfl) .nil))) r1 qz (qf (Zk (sz:=2) (zs:=[.int .i64 0,.slice none 0 0]) (r:=[(0,.tmp 26)]) (l:=[_,_]) Tryz.underlying23 (by kernel_rfl) (by kernel_rfl) (by kernel_rfl) (by kernel_rfl) rfl rfl (.agg rfl .t (by kernel_rfl) (by kernel_rfl) .nil) rfl) r1 qz (qf (oB [(0,.tmp 24),(1,.tmp 27)] [.slice none 0 0,.slice none 0 0] [(0,1),(1,1)] (.one rfl .t Zf1 (by kernel_rfl) (.one rfl .t Zf1 (by kernel_rfl) .nil))) r2 qz (qf (oH [.slice none 0 0,.slice none 0 0] 103) trivial qz (qS 2 103 r2 r1 qZ)))))))))))))) hB [3,0] [103,102,101,0] (fun _=>rfl) (fun _=>rfl) fun τ a w F hS=>?_
 try dsimp only [RS.sub,SF.sub,CF.sub,csub,Anc.sub,List.map,Zg,xL,xM,Nat.reduceAdd,xD,xE,xT,xU,xC,xN,zCF,ldSF,Zo,rTx,Zz,ZQ,rInt,rOp,rCmd,rS] at hS
 generalize τ 3=v3 at hS
 replace hS:=hS.turn 103 rfl (r':=.pt (.val v3) 25 [.pv (.sl rTx [(⟨1,true,[⟨false,5,0,0⟩]⟩:TxD),(⟨2,true,[⟨true,5,1,1⟩,⟨false,5,0,0⟩]⟩:TxD)]),.pv (.sl Zz [⟨5,[2,1]⟩])]) (ZsC rfl rfl ⟨PVLe.arrSl (R:=rTx) (l':=[(⟨1,true,[⟨false,5,0,0⟩]⟩:TxD),(⟨2,true,[⟨true,5,1,1⟩,⟨false,5,0,0⟩]⟩:TxD)]) rfl ⟨PVLe.refl,PVLe.refl,PVLe.arrSl (R:=rOp) (l':=[⟨false,5,0,0⟩]) rfl ZdN.refl,PVLe.refl,PVLe.refl,PVLe.arrSl (R:=rOp) (l':=[⟨true,5,1,1⟩,⟨false,5,0,0⟩]) rfl ZdN.refl,trivial⟩,PVLe.arrSl (R:=Zz) (l':=[⟨5,[2,1]⟩]) rfl ⟨PVLe.refl,PVLe.arrSl (R:=rInt) (l':=[2,1]) rfl ZdN.refl,trivial⟩,trivial⟩)
 obtain ⟨F,hS⟩:=hS.nm [3,0] [103,102,101,0] rfl rfl
 refine Zb (wp_seq ?_)
 refine Za hS (qe 2 103 r1 r1 (qf (oP (Zb6 (⟨[(⟨1,true,[⟨false,5,0,0⟩]⟩:TxD),(⟨2,true,[⟨true,5,1,1⟩,⟨false,5,0,0⟩]⟩:TxD)],[⟨5,[2,1]⟩]⟩:HistD) (by decide)) Tryz.func8 (Args.one (.pagg .t))) r1 qz (qN rfl rfl qZ))) hB [4,3,0] [103,102,101,0] rfl rfl fun a w F hS=>?_
 rw [lvc] at hS
 refine Zb (wp_seq ?_)
 refine Zc hS (qM rfl rfl (qf (oP (Zm5 ([Zc6 (⟨1,true,[⟨false,5,0,0⟩]⟩:TxD),Zc6 (⟨2,true,[⟨true,5,1,1⟩,⟨false,5,0,0⟩]⟩:TxD),ZcM (⟨2,true,[⟨true,5,1,1⟩,⟨false,5,0,0⟩]⟩:TxD),Zh8 5 ⟨2,0⟩]:List CmdD) (by decide)) Tryz.func9 (Args.one .t)) r1 qz (qM rfl rfl (qf (o_extract .t rfl) r1 qz (qf (o_extract .t rfl) r1 qz (qf (o_extract .t rfl) r1 qz (qf (oH [.slice none 0 0,.slice none 0 0] 104) trivial qz (qf (oA 2 104 .same (.conv .t .agg)) r2 r1 (qN rfl rfl (qN rfl rfl qZ)))))))))) hB [7,6,5,4,3,0] [104,103,102,101,0] (fun _=>rfl) (fun _=>rfl) fun τ a w F hS=>?_
 try dsimp only [RS.sub,SF.sub,CF.sub,csub,Anc.sub,List.map,Zg,xL,xM,Nat.reduceAdd,xD,xE,xT,xU,xC,xN,zCF,Zo,rTx,Zz,ZQ,rInt,rOp,rCmd,rS] at hS
 generalize τ 5=v5 at hS
 rw [lvp] at hS
 dsimp only at hS
 refine Zb (wp_seq ?_)
 refine Zc hS (qf (oB [(0,_)] [.int .i64 0,.bool false,.slice none 0 0] [(0,1),(1,1),(2,1)] (.one rfl qi one_int (by kernel_rfl) .nil)) trivial qz (qf (oB [(0,_),(1,.tmp 38)] [.int .i64 0,.int .i64 0,.bool false,.slice none 0 0,.int .i64 0,.slice none 0 0,.int .i64 0,.int .i64 0,.int .i64 0,.int .i64 0] [(0,1),(1,3),(4,2),(6,1),(7,1),(8,1),(9,1)] (.one rfl qi one_int (by kernel_rfl) (.agg rfl .t (by kernel_rfl) (by kernel_rfl) .nil))) r1 qz (qf (oB [(0,_)] [.int .i64 0,.bool false,.slice none 0 0] [(0,1),(1,1),(2,1)] (.one rfl qi one_int (by kernel_rfl) .nil)) trivial qz (qf (oB [(0,_),(1,.tmp 40)] [.int .i64 0,.int .i64 0,.bool false,.slice none 0 0,.int .i64 0,.slice none 0 0,.int .i64 0,.int .i64 0,.int .i64 0,.int .i64 0] [(0,1),(1,3),(4,2),(6,1),(7,1),(8,1),(9,1)] (.one rfl qi one_int (by kernel_rfl) (.agg rfl .t (by kernel_rfl) (by kernel_rfl) .nil))) r1 qz (qf (Zk (sz:=10) (zs:=[.int .i64 0,.int .i64 0,.bool false,.slice none 0 0,.int .i64 0,.slice none 0 0,.int .i64 0,.int .i64 0,.int .i64 0,.int .i64 0]) (r:=[(0,.tmp 39),(1,.tmp 41)]) (l:=[_,_,_,_,_,_,_,_,_,_,_,_,_,_,_,_,_,_,_,_]) Tryz.underlying28 (by kernel_rfl) (by kernel_rfl) (by kernel_rfl) (by kernel_rfl) rfl rfl (.agg rfl .t (by kernel_rfl) (by kernel_rfl) (.agg rfl .t (by kernel_rfl) (by kernel_rfl) .nil)) rfl) r2 qz (qf (oP (Zm5 [({zeroC 1 with tx:=⟨1,false,[]⟩} : CmdD),({zeroC 1 with tx:=⟨1,false,[]⟩} : CmdD)] (by decide)) Tryz.func9 (Args.one (.conv .t (entArr (l:=[.int .i64 1,.int .i64 1,.bool false,.is (.slice none 0 0),.int .i64 0,.is (.slice none 0 0),.int .i64 0,.int .i64 0,.int .i64 0,.int .i64 0,.int .i64 1,.int .i64 1,.bool false,.is (.slice none 0 0),.int .i64 0,.is (.slice none 0 0),.int .i64 0,.int .i64 0,.int .i64 0,.int .i64 0]) (R:=rCmd) (l':=[({zeroC 1 with tx:=⟨1,false,[]⟩} : CmdD),({zeroC 1 with tx:=⟨1,false,[]⟩} : CmdD)]) rfl ⟨PVLe.refl,PVLe.refl,PVLe.refl,PVLe.nilSl,PVLe.refl,PVLe.nilSl,PVLe.refl,PVLe.refl,PVLe.refl,PVLe.refl,PVLe.refl,PVLe.refl,PVLe.refl,PVLe.nilSl,PVLe.refl,PVLe.nilSl,PVLe.refl,PVLe.refl,PVLe.refl,PVLe.refl,trivial⟩)))) r1 qz (qM rfl rfl (qf (o_extract .t rfl) r1 qz (qf (o_extract .t rfl) r1 qz (qf (o_extract .t rfl) r1 qz (qf (oH [.slice none 0 0,.slice none 0 0] 105) trivial qz (qf (oA 2 105 .same (.conv .t .agg)) r2 r1 (qN rfl rfl (qN rfl rfl qZ)))))))))))))) hB [10,9,7,6,5,4,3,0] [105,104,103,102,101,0] (fun _=>rfl) (fun _=>rfl) fun τ a w F hS=>?_
 try dsimp only [RS.sub,SF.sub,CF.sub,csub,Anc.sub,List.map,Zg,xL,xM,Nat.reduceAdd,xD,xE,xT,xU,xC,xN,zCF,Zo,rTx,Zz,ZQ,rInt,rOp,rCmd,rS] at hS
 generalize τ 8=v8 at hS
 rw [lvq] at hS
 dsimp only at hS
 refine Zb (wp_seq ?_)
 refine Zc hS (qe 2 103 r1 r1 (qf (oB [(0,_)] [.int .i64 0,.int .i64 0,.bool false,.slice none 0 0,.int .i64 0,.slice none 0 0,.int .i64 0,.int .i64 0,.int .i64 0,.int .i64 0] [(0,1),(1,3),(4,2),(6,1),(7,1),(8,1),(9,1)] (.one rfl qi one_int (by kernel_rfl) .nil)) trivial qz (qf (oP (ZhY (⟨[(⟨1,true,[⟨false,5,0,0⟩]⟩:TxD),(⟨2,true,[⟨true,5,1,1⟩,⟨false,5,0,0⟩]⟩:TxD)],[⟨5,[2,1]⟩]⟩:HistD) ({zeroC 8 with key:=0,id:=0} : CmdD) (by decide) (by decide)) Tryz.func19 (Args.two (.pagg .t) (.conv (.pagg .t) (Ent.paggLe (zC_le 8 0 0))))) r2 qz (qM rfl rfl (qf (o_extract .t rfl) r1 qz (qf (o_extract .t rfl) r1 qz (qf (oH [.slice none 0 0,.slice none 0 0] 106) trivial qz (qf (oA 2 106 .same (.conv .t .agg)) r2 r1 (qN rfl rfl qZ))))))))) hB [12,10,9,7,6,5,4,3,0] [106,105,104,103,102,101,0] (fun _=>rfl) (fun _=>rfl) fun τ a w F hS=>?_
 try dsimp only [RS.sub,SF.sub,CF.sub,csub,Anc.sub,List.map,Zg,xL,xM,Nat.reduceAdd,xD,xE,xT,xU,xC,xN,zCF,ldSF,Zo,rTx,Zz,ZQ,rInt,rOp,rCmd,rS] at hS
 generalize τ 11=v11 at hS
 rw [lve] at hS
 dsimp only at hS
 refine Zb (wp_seq ?_)
 refine Zc hS (qe 2 103 r1 r1 (qf (oB [(0,_),(3,_),(4,_)] [.int .i64 0,.int .i64 0,.bool false,.slice none 0 0,.int .i64 0,.slice none 0 0,.int .i64 0,.int .i64 0,.int .i64 0,.int .i64 0] [(0,1),(1,3),(4,2),(6,1),(7,1),(8,1),(9,1)] (.one rfl qi one_int (by kernel_rfl) (.one rfl qi one_int (by kernel_rfl) (.one rfl qi one_int (by kernel_rfl) .nil)))) trivial qz (qf (oP (ZhY (⟨[(⟨1,true,[⟨false,5,0,0⟩]⟩:TxD),(⟨2,true,[⟨true,5,1,1⟩,⟨false,5,0,0⟩]⟩:TxD)],[⟨5,[2,1]⟩]⟩:HistD) ({zeroC 5 with key:=5,id:=1} : CmdD) (by decide) (by decide)) Tryz.func19 (Args.two (.pagg .t) (.conv (.pagg .t) (Ent.paggLe (zC_le 5 1 5))))) r2 qz (qM rfl rfl (qf (o_extract .t rfl) r1 qz (qf (o_extract .t rfl) r1 qz (qf (oH [.slice none 0 0,.slice none 0 0] 107) trivial qz (qf (oA 2 107 .same (.conv .t .agg)) r2 r1 (qN rfl rfl qZ))))))))) hB [14,13,12,10,9,7,6,5,4,3,0] [107,106,105,104,103,102,101,0] (fun _=>rfl) (fun _=>rfl) fun τ a w F hS=>?_
 try dsimp only [RS.sub,SF.sub,CF.sub,csub,Anc.sub,List.map,Zg,xL,xM,Nat.reduceAdd,xD,xE,xT,xU,xC,xN,zCF,ldSF,Zo,rTx,Zz,ZQ,rInt,rOp,rCmd,rS] at hS
 generalize τ 13=v13 at hS
 rw [lvf] at hS
 dsimp only at hS
 refine Zb (wp_seq ?_)
 refine Zdy hS (by kernel_rfl) (nf (oL true 2 103 .is) r1 r1 (nf (oP (ZeT (⟨[(⟨1,true,[⟨false,5,0,0⟩]⟩:TxD),(⟨2,true,[⟨true,5,1,1⟩,⟨false,5,0,0⟩]⟩:TxD)],[⟨5,[2,1]⟩]⟩:HistD) (by decide)) Tryz.func11 (Args.one (.pagg .t))) r1 trivial (nf (Zk (sz:=1) (zs:=[.string ⟨#[]⟩]) (r:=[(0,_),(1,_),(2,_),(3,_)]) (l:=[_,_,_,_]) Tryz.underlying34 (by kernel_rfl) (by kernel_rfl) (by kernel_rfl) (by kernel_rfl) rfl rfl (.one rfl (.cs (by kernel_rfl)) one_str (by kernel_rfl) (.one rfl (.cs (by kernel_rfl)) one_str (by kernel_rfl) (.one rfl (.cs (by kernel_rfl)) one_str (by kernel_rfl) (.one rfl (.cs (by kernel_rfl)) one_str (by kernel_rfl) .nil)))) rfl) trivial trivial (nf (oP (Zqr _ _) Tryz.func14 (Args.two .t (.conv .t (Ent.arrSl (R:=rS) (l:=[[97,100,100,32,49,32,99,32,119,53],[97,100,100,32,50,32,99,32,119,53],[115,101,116,32,50,32,99,32,114,53,64,49,46,49,32,119,53],[109,111,118,32,53,32,50,32,48]]) rfl)))) r2 trivial (nM rfl rfl (nm rfl rfl rfl rfl (nk rfl (fun h=>ZaI Tryz.underlying28 (.w h)) r2 trivial (nk rfl (fun h=>o_eql (.w h) (.ci (by kernel_rfl))) r2 trivial (nf (ZI .t .t) r2 trivial (nM rfl rfl (nm rfl rfl rfl rfl (nk rfl (fun h=>o_eql (.w h) (.ci (by kernel_rfl))) r2 trivial (nf (ZI .t .t) r2 trivial (nM rfl rfl (nm rfl rfl rfl rfl (nk rfl (fun h=>o_eql (.w h) (.ci (by kernel_rfl))) r2 trivial (nf (ZI .t .t) r2 trivial (nM rfl rfl (nk rfl (fun h=>oL true 2 104 .is) r2 r1 (nk rfl (fun h=>oL true 2 103 .is) r2 r1 (nn [78,77,76,14,13,12,10,9,3,0] [107,106,105,104,103,102,101,0] rfl rfl (nk rfl (fun h=>oP (ZlV (⟨[(⟨1,true,[⟨false,5,0,0⟩]⟩:TxD),(⟨2,true,[⟨true,5,1,1⟩,⟨false,5,0,0⟩]⟩:TxD)],[⟨5,[2,1]⟩]⟩:HistD) (⟨[(⟨1,true,[⟨false,5,0,0⟩]⟩:TxD),(⟨2,true,[⟨true,5,1,1⟩,⟨false,5,0,0⟩]⟩:TxD)],[⟨5,[2,1]⟩]⟩:HistD)) Tryz.func20 (Args.two (.pagg (.w h)) (.pagg (.w h)))) r3 trivial (nf (ZI .t .t) r2 trivial (nM rfl rfl (nm rfl rfl rfl rfl (nk rfl (fun h=>o_eql (.w h) (.ci (by kernel_rfl))) r2 trivial (nf (ZI .t .t) r2 trivial (nM rfl rfl (nm rfl rfl rfl rfl (nk rfl (fun h=>o_eql (.w h) (.ci (by kernel_rfl))) r2 trivial (nf (ZI .t .t) r2 trivial (nM rfl rfl (nm rfl rfl rfl rfl (nk rfl (fun h=>o_eql (.w h) (.ci (by kernel_rfl))) r2 trivial (nf (ZI .t .t) r2 trivial (nM rfl rfl (nm rfl rfl rfl rfl (nk rfl (fun h=>o_eql (.w h) (.ci (by kernel_rfl))) r2 trivial (nf (ZI .t .t) r2 trivial (nM rfl rfl (nk rfl (fun h=>oL true 2 107 .is) r2 r1 (nn [98,97,3,0] [107,106,105,104,103,102,101,0] rfl rfl (nk rfl (fun h=>oP (ZlR (⟨[(⟨1,true,[⟨false,5,0,0⟩]⟩:TxD),(⟨2,true,[⟨true,5,1,1⟩,⟨false,5,0,0⟩]⟩:TxD)],[⟨5,[1,2]⟩]⟩:HistD) 5) Tryz.func22 (Args.two (.pagg (.w h)) (.ci (by kernel_rfl)))) r2 trivial (nk rfl (fun h=>Zk (sz:=1) (zs:=[.int .i64 0]) (r:=[(0,_),(1,_)]) (l:=[_,_]) Tryz.underlying39 (by kernel_rfl) (by kernel_rfl) (by kernel_rfl) (by kernel_rfl) rfl rfl (.one rfl (.ci (by kernel_rfl)) one_int (by kernel_rfl) (.one rfl (.ci (by kernel_rfl)) one_int (by kernel_rfl) .nil)) rfl) r1 trivial (nk rfl (fun h=>oP (ZgK _ [1,2]) Tryz.func21 (Args.two (.w h) (.conv (.w h) (Ent.arrSl (R:=rInt) (l:=[1,2]) rfl)))) r3 trivial (nf (ZI .t .t) r2 trivial (nM rfl rfl (nk rfl (fun h=>oF 0 103 .is) r2 r1 (nk rfl (fun h=>oL false 1 103 (.w h .adr)) r2 r1 (nk rfl (fun h=>Zhb (r:=[(0,.tmp 105)]) (zs:=[.slice none 0 0,.slice none 0 0]) (pl:=[(0,1),(1,1)]) (by kernel_rfl) (by kernel_rfl) (.one rfl (.w h) one_sl (by kernel_rfl) .nil) (by rfl)) r2 trivial (nk rfl (fun h=>oP (ZeT (⟨[(⟨1,true,[⟨false,5,0,0⟩]⟩:TxD),(⟨2,true,[⟨true,5,1,1⟩,⟨false,5,0,0⟩]⟩:TxD)],[]⟩:HistD) (by decide)) Tryz.func11 (Args.one (.conv (.pagg (.w h)) (Ent.paggLe (l:=[.sl rTx [(⟨1,true,[⟨false,5,0,0⟩]⟩:TxD),(⟨2,true,[⟨true,5,1,1⟩,⟨false,5,0,0⟩]⟩:TxD)],.is (.slice none 0 0)]) (l':=Zo (⟨[(⟨1,true,[⟨false,5,0,0⟩]⟩:TxD),(⟨2,true,[⟨true,5,1,1⟩,⟨false,5,0,0⟩]⟩:TxD)],[]⟩:HistD)) ⟨PVLe.refl,PVLe.nilSl,trivial⟩)))) r2 trivial (nk rfl (fun h=>ZaI Tryz.underlying34 (.w h)) r2 trivial (nk rfl (fun h=>o_eql (.w h) (.ci (by kernel_rfl))) r2 trivial (nf (ZI .t .t) r2 trivial (nM rfl rfl (nk rfl (fun h=>Zhb (r:=[]) (zs:=[.slice none 0 0,.slice none 0 0]) (pl:=[(0,1),(1,1)]) (by kernel_rfl) (by kernel_rfl) .nil (by rfl)) r1 trivial (nk rfl (fun h=>oP (Zb6 zeroH (by decide)) Tryz.func8 (Args.one (.conv (.pagg (.w h)) (Ent.paggLe (l:=[.is (.slice none 0 0),.is (.slice none 0 0)]) (l':=Zo zeroH) ⟨PVLe.nilSl,PVLe.nilSl,trivial⟩)))) r2 trivial (nk rfl (fun h=>ZaI Tryz.underlying28 (.w h)) r2 trivial (nk rfl (fun h=>o_eql (.w h) (.ci (by kernel_rfl))) r2 trivial (nf (ZI .t .t) r2 trivial (nN rfl rfl ZP.nil))))))))))))))))))))))))))))))))))))))))))))))))))))))))))))) (by kernel_rfl) (by rw [hB];kernel_rfl) fun a w F hS=>?_
 obtain ⟨F,hS⟩:=hS.nm [0] [107,106,105,104,103,102,101,0] rfl rfl
 try dsimp only [List.map,Zg,xL,xM,Nat.reduceAdd,xD,xE,xT,xU,xC,xN,zCF,ldSF,Zo,rTx,Zz,ZQ,rInt,rOp,rCmd,rS] at hS
 refine Zb (wp_ret ?_)
 refine Zm hfr hS rfl rfl rfl (.bool (by rw [lvc,lvs];decide +kernel))
theorem ZjQ (g:HistD):FnP Tryz.prog 3 [.agg (Zo g)] (.bool true):=by
 refine FnP.mk Tryz.func3 rfl Tryz.ntmps3 rfl ?_
 intro B a w F hB hfr hS
 refine wp_seq ?_
 refine Zc hS (qx 101 r1 qB) hB [2,1] [101,0] (fun _=>rfl) (fun _=>rfl) fun τ a w F hS=>?_
 try dsimp only [RS.sub,SF.sub,CF.sub,csub,Anc.sub,List.map,zCF,Zo,rTx,Zz,ZQ,rInt,rOp,rCmd,Zjp,ZqZ,Zj8,Zet,rS] at hS
 generalize τ 1=v1 at hS
 refine Zb (wp_seq (wp_seq ?_))
 refine Za hS (qf (oP (ZmP) Tryz.func5 Args.nil) trivial qz (qf (o_not .t) r1 qz qZ)) hB [13,2,1] [101,0] rfl rfl fun a w F hS=>Zb ?_
 refine Zd hS rfl (fun hc0=>?_) (fun hc0=>?_)
 ·skip
  simp at hc0
 refine wp_skip (Zb (wp_seq (wp_seq ?_)))
 refine Za hS (qe 2 101 r1 r1 (qf (oP (Zp4 g) Tryz.func6 (Args.one (.pagg .t))) r1 qz (qf (o_not .t) r1 qz (qM rfl rfl (qk rfl (fun h=>oL true 2 101 .is) r2 r1 (qk rfl (fun h=>oP (Zd4 g (Zbt.small (by simpa using h))) Tryz.func7 (Args.one (.pagg (.w h)))) r2 qz (qk rfl (fun h=>o_not (.w h)) r2 qz (qf (ZaC .t .t) r2 qz qZ)))))))) hB [21,2,1] [101,0] rfl rfl fun a w F hS=>Zb ?_
 refine Zd hS rfl (fun hc1=>?_) (fun hc1=>?_)
 ·skip
  refine wp_seq ?_
  refine Za hS qB hB [2,1] [101,0] rfl rfl fun a w F hS=>Zb (wp_ret (Ze ?_))
  refine Zm hfr hS rfl rfl rfl (.bool (by first | rfl | simp))
 have hcx:=hc1
 simp at hcx
 obtain ⟨hcl,hcr⟩:=hcx
 have hpg:Zjo 12 g:=Zjo.light (Zbt.small hcl) hcl.1 hcl.2.2.1
 have hsg:=hpg.1
 have hf:ZaB 12 g:=⟨hcr,hpg.2⟩
 have hcn:=Zex hsg
 have hml:((Zv g).map ZaL).length=(Zv g).length:=by simp
 refine wp_skip (Zb (wp_seq ?_))
 refine Za hS (qe 2 101 r1 r1 (qf (oP (Zb6 g hsg) Tryz.func8 (Args.one (.pagg .t))) r1 qz (qN rfl rfl qZ))) hB [3,2,1] [101,0] rfl rfl fun a w F hS=>Zb (wp_seq ?_)
 refine Zc hS (qM rfl rfl (qf (oP (ZpL g (Zv g) (ZoP hf) (fun c hc=>(Zin hf hc).2.2)) Tryz.func9 (Args.one .t)) r1 qz (qM rfl rfl (qf (o_extract .t rfl) r1 qz (qf (o_extract .t rfl) r1 qz (qf (o_extract .t rfl) r1 qz (qf (oH [.slice none 0 0,.slice none 0 0] 102) trivial qz (qf (oA 2 102 .same (.conv .t .agg)) r2 r1 (qN rfl rfl (qN rfl rfl qZ)))))))))) hB [6,5,4,3,2,1] [102,101,0] (fun _=>rfl) (fun _=>rfl) fun τ a w F hS=>?_
 try dsimp only [RS.sub,SF.sub,CF.sub,csub,Anc.sub,List.map,Zg,xL,xM,Nat.reduceAdd,xD,xE,xT,xU,xC,xN,zCF,Zo,rTx,Zz,ZQ,rInt,rOp,rCmd,Zjp,ZqZ,Zj8,Zet,rS] at hS
 generalize τ 4=v4 at hS
 refine Zb (wp_seq (wp_seq ?_))
 refine Za hS (qM rfl rfl (qf (o_neq .t qi) r1 qz (qM rfl rfl (qm rfl rfl rfl rfl (qm rfl rfl rfl rfl (qk rfl (fun h=>ZaI Tryz.underlying28 (.w h)) r2 qz (qk rfl (fun h=>o_neq (.w h) (.w h)) r3 qz (qf (ZaC .t .t) r2 qz (qM rfl rfl (qk rfl (fun h=>oL true 2 102 .is) r2 r1 (qk rfl (fun h=>oL true 2 101 .is) r2 r1 (qk rfl (fun h=>oP (Zq0 _ _) Tryz.func10 (Args.two (.pagg (.w h)) (.pagg (.w h)))) r3 qz (qk rfl (fun h=>o_not (.w h)) r2 qz (qf (ZaC .t .t) r2 qz qZ)))))))))))))) hB [43,4,3,2,1] [102,101,0] rfl rfl fun a w F hS=>Zb ?_
 refine Zd hS rfl (fun hc2=>?_) (fun hc2=>?_)
 ·skip
  simp at hc2
 refine wp_skip (Zb (wp_seq ?_))
 refine Za hS (qe 2 101 r1 r1 (qf (oP (ZeT g hsg) Tryz.func11 (Args.one (.pagg .t))) r1 qz (qN rfl rfl qZ))) hB [7,4,3,2] [102,101,0] rfl rfl fun a w F hS=>Zb (wp_seq (wp_seq ?_))
 refine Za hS (qM rfl rfl (qu Tryz.underlying34 r1 (qM rfl rfl (qu Tryz.underlying28 r1 (qf (o_neq .t .t) r2 qz qZ))))) hB [50,7,4,3,2] [102,101,0] rfl rfl fun a w F hS=>Zb ?_
 refine Zd hS rfl (fun hc3=>?_) (fun hc3=>?_)
 ·skip
  simp at hc3
 refine wp_skip (Zb (wp_seq (wp_seq ?_)))
 refine Za hS (qM rfl rfl (qu Tryz.underlying34 r1 (qJ qZ))) hB [53,52,51,7,4,3,2] [102,101,0] rfl rfl fun a w F hS=>Zb (wp_block ?_)
 refine Zp (σ:=(Nat)) [2,3,4,7,51,52] [0,101,102] (fun s=>[(53,.pv (.int .i64 (s:Int)))]) (fun s=>[]) (fun s=>s≤((Zv g).map ZaL).length∧(True)) (fun s=>((Zv g).map ZaL).length - s) (0) hS ⟨rfl,rfl,rfl,rfl,rfl,rfl,rfl,trivial⟩ ⟨rfl,rfl,rfl,trivial⟩ ⟨Nat.zero_le _,trivial⟩ ?_
 clear hS;intro i a w F hC hS
 try dsimp only at hC
 obtain ⟨F,hS⟩:=hS.nm [53,52,51,7,4,3,2] [102,101,0] rfl rfl
 try dsimp only at hS
 obtain ⟨hi,hq⟩:=hC
 refine wp_seq ?_
 refine Za hS (qL r2) hB [54,53,52,51,7,4,3,2] [102,101,0] rfl rfl fun a w F hS=>Zb (wp_seq ?_)
 refine Zd hS rfl (fun hc4=>?_) (fun hc4=>?_)
 ·skip
  have hil:i<((Zv g).map ZaL).length:=by simp at hc4;omega
  have hio:=hil
  have hi2:i<(Zv g).length:=by omega
  have hgd:=Zin hf (ZB hi2)
  have hlm9:(Go.Gm.nth ((Zv g).map ZaL) i)=ZaL (Go.Gm.nth (Zv g) i):=ZbH hi2
  have hpt:Zbx (Go.Gm.nth ((Zv g).map ZaL) i)=((Go.Gm.nth (Zv g) i),0):=by rw [hlm9];exact ZmG hgd.1 (by rw [hgd.2.1];simp)
  have hpl:((Go.Gm.nth ((Zv g).map ZaL) i)).length≤1000000:=by rw [hlm9];have:=Znm hgd.1 (by rw [hgd.2.1];simp);omega
  refine wp_skip (Zb (wp_seq (wp_block (wp_seq ?_))))
  refine Za hS (qM rfl rfl (qf (o_indexAddr_sl (sz:=1) (.mk Tryz.underlying34 (by kernel_rfl)) (by intro x;rfl) .t .t (by omega) (by first | omega | (rw [List.length_map] at hio;omega))) r2 qz (qf (oR false 1 .t) r1 qz (qN rfl rfl (qN rfl rfl qZ))))) hB [53,52,51,9,8,7,4,3,2] [102,101,0] rfl rfl fun a w F hS=>?_
  try simp only [Int.toNat_natCast] at hS
  refine Zb (wp_seq ?_)
  refine Zc hS (qM rfl rfl (qf (oP (Zrx (Go.Gm.nth ((Zv g).map ZaL) i) hpl) Tryz.func12 (Args.one .t)) r1 qz (qM rfl rfl (qf (o_extract .t rfl) r1 qz (qf (o_extract .t rfl) r1 qz (qf (oH [.int .i64 0,.int .i64 0,.bool false,.slice none 0 0,.int .i64 0,.slice none 0 0,.int .i64 0,.int .i64 0,.int .i64 0,.int .i64 0] 103) trivial qz (qf (oA 10 103 .same (.conv .t .agg)) r2 r1 (qN rfl rfl qZ)))))))) hB [53,52,51,11,10,8,7,4,3,2] [103,102,101,0] (fun _=>rfl) (fun _=>rfl) fun τ a w F hS=>?_
  try dsimp only [RS.sub,SF.sub,CF.sub,csub,Anc.sub,List.map,Zg,xL,xM,Nat.reduceAdd,xD,xE,xT,xU,xC,xN,zCF,Zo,rTx,Zz,ZQ,rInt,rOp,rCmd,Zjp,ZqZ,Zj8,Zet,rS] at hS
  generalize τ 10=v10 at hS
  rw [hpt] at hS
  dsimp only at hS
  refine Zb (wp_seq ?_)
  refine Zw hS (qM rfl rfl (qf (o_neq .t qi) r1 qz (qM rfl rfl (qk rfl (fun h=>oL true 10 103 .is) r2 r1 (qm rfl rfl rfl rfl (qm rfl rfl rfl rfl (qk rfl (fun h=>o_indexAddr_sl (sz:=10) (.mk Tryz.underlying28 (by kernel_rfl)) (by intro x;rfl) (.w h) (.w h) (by omega) (by first | omega | (rw [List.length_map] at hio;omega))) r3 qz (qk rfl (fun h=>oR true 10 (.w h)) r2 qz (qk rfl (fun h=>oP (Zig (Go.Gm.nth (Zv g) i) (Go.Gm.nth (Zv g) i)) Tryz.func13 (Args.two (.pagg (.w h)) (.pagg (.w h)))) r3 qz (qk rfl (fun h=>o_not (.w h)) r2 qz (qf (ZaC .t .t) r2 qz qZ))))))))))) hB [73,53,52,51,7,4,3,2] [103,102,101,0] rfl rfl fun a w F hS=>?_
  try dsimp only [List.map,xD,xE,xT,xU,ldSF,Zo,rTx,Zz,ZQ,rInt,rOp,rCmd,Zjp,ZqZ,Zj8,Zet,rS] at hS
  try simp only [Int.toNat_natCast] at hS
  refine Zb ?_
  refine Zd hS rfl (fun hc5=>?_) (fun hc5=>?_)
  ·skip
   simp at hc5
  refine wp_skip (Zh (Zb ?_))
  refine Za hS (qp r1 (qM rfl rfl qZ)) hB [53,52,51,7,4,3,2] [103,102,101,0] rfl rfl fun a w F hS=>Zb ?_
  replace hS:=hS.ent (i:=53) (s':=.pv (.int .i64 ((i+1:Nat):Int))) rfl (.int (wrap_succ (by omega)))
  obtain ⟨F,hS⟩:=hS.nm [52,51,7,4,3,2,53] [102,101,0] rfl rfl
  exact ⟨(i+1),F,⟨by omega,trivial⟩,hS,by omega⟩
 have hil:i=((Zv g).map ZaL).length:=by simp at hc4;omega
 refine wp_exit (Zi (Zi (Zl (Zb (wp_seq ?_)))))
 refine Za hS (qe 2 102 r1 r1 (qf (oP (ZeT g hsg) Tryz.func11 (Args.one (.pagg .t))) r1 qz (qM rfl rfl (qf (oP (Zqr _ _) Tryz.func14 (Args.two .t .t)) r2 qz (qN rfl rfl qZ))))) hB [2] [102,101,0] rfl rfl fun a w F hS=>Zb (wp_ret ?_)
 refine Zm hfr hS rfl rfl rfl (.bool (by first | rfl | simp))
end Go.Proofs.YtjhapicamnijnaaGreatDoor
