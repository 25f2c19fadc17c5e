/- Texts put together. No condition beyond those that each theorem says. -/
import Derived.Test.YtjhapicamnijnaaGreatLibW
import Derived.Test.YtjhapicamnijnaaGreatLibL
import Derived.Shelf.Sort.Plain
import Derived.Shelf.Slices.In.SortNone
import Derived.Laws.BitsLemmas
import Derived.Laws.MathBits
import Derived.Test.YtjhapicamnijnaaGreatLibX
namespace Go.Proofs.YtjhapicamnijnaaGreat
open Go Go.Gm
set_option linter.unusedVariables false
set_option linter.unusedSimpArgs false
set_option maxHeartbeats 4000000
set_option maxRecDepth 8000
theorem ZP {x:Int} (h : -9223372036854775808≤x∧x≤9223372036854775807):IntKind.wrap .i64 x=x:=ZhX ⟨by simp [IntKind.min,IntKind.signed,IntKind.bits];omega,by simp [IntKind.max,IntKind.signed,IntKind.bits];omega⟩
theorem Ze {i:Nat} (h:i<9223372036854775807):IntKind.wrap .i64 ((i:Int)+1)=((i+1:Nat):Int):=by rw [ZP (by omega)];omega
theorem ZdA {x:Int} (h:0≤x∧x≤18446744073709551615):IntKind.wrap .u64 x=x:=ZhX ⟨by simp [IntKind.min,IntKind.signed,IntKind.bits];omega,by simp [IntKind.max,IntKind.signed,IntKind.bits];omega⟩
theorem Sat.lenSl {α:Type} {R:α→List PV} {B:Zbf} {E:En} {a:Act} {w:World} {F:Fp} (h:Sat B E a w F) {i:Nat} {l:List α} (hl:Go.Gm.look E.s i=some (SF.pv (PV.sl R l))):l.length≤9223372036854775807:=by
 obtain ⟨_,cap,_,h1,h2,_⟩:=h.s i _ hl
 unfold maxLen at h2
 omega
def rInt (n:Int):List PV:=[.int .i64 n]
theorem Zcm.any {ss:List SF} : Zcm ss .any:=fun _ _ _ _ _=>trivial
theorem Zbm {α:Type} [Inhabited α] {x y:List α} (hl:x.length=y.length) (h:∀ j,j<x.length→Go.Gm.nth x j=Go.Gm.nth y j):x=y:=by
 apply List.ext_getElem hl
 intro j h1 h2
 have:=h j h1
 rwa [Zz h1,Zz h2] at this
theorem Zlg {α:Type} [Inhabited α] {q:List α} {k:Nat} (h:k<q.length):q.take k ++ [Go.Gm.nth q k] = q.take (k+1):=by
 rw [Zz h,List.take_succ_eq_append_getElem h]
theorem ZM {α:Type} [Inhabited α] {q:List α} {k:Nat} (h:k<q.length):Go.Gm.nth q k ∈ q:=by rw [Zz h];exact List.getElem_mem h
theorem ZZ {α:Type} [Inhabited α] {l:List α} {i:Nat} (h:i<l.length):l.drop i=Go.Gm.nth l i :: l.drop (i+1):=by rw [Zz h];exact List.drop_eq_getElem_cons h
theorem Zt {α:Type} [Inhabited α] {l:List α} {i:Nat} (h:i<l.length):l.take (i+1)=l.take i ++ [Go.Gm.nth l i]:=(Zlg h).symm
structure Zb4 where
 key:Int
 val:Int
 deriving DecidableEq,Inhabited
def Zbr (p:Zb4):List PV:=[.int .i64 p.key,.int .i64 p.val]
section
variable {out t T:List Zb4} {k x:Int} {e:Zb4} {d:Bool}
end
def ZaT (v:Int):List Int→Int
 | []=>-1
 | x :: l=>if x=v then 0 else if ZaT v l<0 then -1 else ZaT v l+1
theorem ZdI {v:Int} : ∀ {l:List Int},(∀ k,k<l.length→Go.Gm.nth l k≠v)→ZaT v l = -1
 | [],_=>rfl
 | x :: l,h=>by
   have h0:x≠v:=h 0 (by simp)
   rw [ZaT,if_neg h0,ZdI (l:=l) fun k hk=>by have:=h (k+1) (by simpa using hk);exact this,if_pos (by decide)]
theorem Zif {v:Int} : ∀ {l:List Int} {i:Nat},i<l.length→Go.Gm.nth l i=v→(∀ k,k<i→Go.Gm.nth l k≠v)→ZaT v l=i
 | [],i,h,_,_=>by simp at h
 | x :: l,0,_,h,_=>by rw [ZaT,if_pos (show x=v from h)];rfl
 | x :: l,i+1,h,h1,h2=>by
   have h0:x≠v:=h2 0 (by omega)
   have:=Zif (l:=l) (i:=i) (by simpa using h) h1 fun k hk=>h2 (k+1) (by omega)
   rw [ZaT,if_neg h0,this,if_neg (by omega)];omega
theorem Zga {v:Int} {l:List Int} (h:v ∈ l):∃ i:Nat,ZaT v l=i∧i<l.length∧Go.Gm.nth l i=v ∧ ∀ k,k<i→Go.Gm.nth l k≠v:=by
 induction l with
 | nil=>cases h
 | cons x l ih=>
   by_cases hx:x=v
   · exact ⟨0,by rw [ZaT,if_pos hx];rfl,by simp,hx,fun k hk=>absurd hk (Nat.not_lt_zero k)⟩
   · obtain ⟨i,h1,h2,h3,h4⟩:=ih (by rcases List.mem_cons.1 h with h | h;exact absurd h.symm hx;exact h)
     refine ⟨i+1,by rw [ZaT,if_neg hx,h1,if_neg (by omega)];omega,by simpa using h2,h3,fun k hk=>?_⟩
     cases k with
     | zero=>exact hx
     | succ k=>exact h4 k (by omega)
theorem Zgz {v:Int} {l:List Int} (h:v ∉ l):ZaT v l = -1:=ZdI fun k hk e=>h (e ▸ ZM hk)
theorem ZdZ (v:Int) (l:List Int) : -1≤ZaT v l∧ZaT v l<l.length:=by
 by_cases h:v ∈ l
 · obtain ⟨i,h1,h2,_⟩:=Zga h
   omega
 · rw [Zgz h];omega
theorem Zi5 {v:Int} {l:List Int} : 0≤ZaT v l ↔ v ∈ l:=by
 constructor
 · intro h
   by_cases hm:v ∈ l
   · exact hm
   · rw [Zgz hm] at h;omega
 · intro h
   obtain ⟨i,h1,_⟩:=Zga h
   omega
def Zhs (l:List Int) (j x:Int):List Int:=if 0≤j∧j≤l.length then l.take j.toNat++x :: l.drop j.toNat else l
def Zal (l:List Int):Prop:=(∀ x ∈ l,1≤x∧x≤1048575)∧l.Nodup
instance (l:List Int):Decidable (Zal l):=by unfold Zal;exact inferInstance
theorem Zal.snoc {l:List Int} {x:Int} : Zal (l ++ [x]) ↔ Zal l∧(1≤x∧x≤1048575)∧x ∉ l:=by
 unfold Zal
 constructor
 · rintro ⟨h1,h2⟩
   rw [List.nodup_append] at h2
   exact ⟨⟨fun y hy=>h1 y (by simp [hy]),h2.1⟩,h1 x (by simp),fun hx=>h2.2.2 x hx x (by simp) rfl⟩
 · rintro ⟨⟨h1,h2⟩,h3,h4⟩
   refine ⟨fun y hy=>?_,List.nodup_append.2 ⟨h2,by simp,fun a ha b hb=>?_⟩⟩
   · rcases List.mem_append.1 hy with hy | hy
     · exact h1 y hy
     · rw [List.mem_singleton.1 hy];exact h3
   · rw [List.mem_singleton.1 hb]
     intro e;subst e;exact h4 ha
theorem Zal.take {l:List Int} (h:Zal l) (i:Nat):Zal (l.take i):=⟨fun x hx=>h.1 x (List.mem_of_mem_take hx),h.2.sublist (List.take_sublist i l)⟩
def leI (x y:Int):Bool:=decide (x≤y)
theorem ZlA {a b:List Int} : a.mergeSort leI=b.mergeSort leI ↔ a.Perm b:=by
 constructor
 · intro h
   exact (List.mergeSort_perm a leI).symm.trans (h ▸ List.mergeSort_perm b leI)
 · intro h
   have hs:∀ l:List Int,List.Pairwise (fun x y=>x≤y) (l.mergeSort leI):=fun l=>by
     have:=List.pairwise_mergeSort (le:=leI) (fun a b c h1 h2=>by simp [leI] at *;omega) (fun a b=>by simp [leI];omega) l
     exact this.imp fun h=>by simpa [leI] using h
   exact List.Perm.eq_of_pairwise (fun x y _ _ h1 h2=>Int.le_antisymm h1 h2) (hs a) (hs b) (((List.mergeSort_perm a leI).trans h).trans (List.mergeSort_perm b leI).symm)
theorem Zid {a b:List Int} : (a.length=b.length ∧ ∀ x ∈ a,a.count x=b.count x) ↔ a.Perm b:=by
 constructor
 · rintro ⟨hl,hc⟩
   have key:∀ (a b:List Int),(∀ x ∈ a,a.count x≤b.count x) → ∃ c,b.Perm (a++c):=by
     intro a
     induction a with
     | nil=>intro b _;exact ⟨b,List.Perm.refl _⟩
     | cons x a ih=>
       intro b h
       have hx:x ∈ b:=by
         have:=h x (by simp)
         rw [List.count_cons_self] at this
         exact List.count_pos_iff.1 (by omega)
       obtain ⟨c,hc⟩:=ih (b.erase x) fun y hy=>by
         have:=h y (by simp [hy])
         rw [List.count_cons] at this
         rw [List.count_erase]
         split at this <;> rename_i e
         · rw [if_pos e];omega
         · rw [if_neg e];omega
       exact ⟨c,(List.perm_cons_erase hx).trans (hc.cons x)⟩
   obtain ⟨c,hp⟩:=key a b fun x hx=>by rw [hc x hx];exact Nat.le_refl _
   have:=hp.length_eq
   rw [List.length_append] at this
   have hc0:c = []:=List.eq_nil_of_length_eq_zero (by omega)
   rw [hc0,List.append_nil] at hp
   exact hp.symm
 · intro h
   exact ⟨h.length_eq,fun x _=>h.count_eq x⟩
def withO (l:List Int) (tx:Int):List Int:=if tx ∈ l then l else l ++ [tx]
def withoutO (l:List Int) (tx:Int):List Int:=l.filter fun x=>decide (x≠tx)
def Z9 (l:List Int) (tx place:Int):List Int×Int:=if ZaT tx l<0 then ([],3) else if ¬ (0≤place∧place<l.length) then ([],1) else (Zhs (l.eraseIdx (ZaT tx l).toNat) place tx,0)
theorem Zmp {l:List Int} {i p:Nat} {x:Int} (hi:i<p) (hp:p<l.length) :
   ((l.take i++(l.drop (i+1)).take (p - i))++l.drop p).set p x=Zhs (l.eraseIdx i) p x:=by
 have e1:(l.take i++(l.drop (i+1)).take (p - i)).length=p:=by simp;omega
 unfold Zhs
 rw [if_pos ⟨by omega,by rw [List.length_eraseIdx,if_pos (by omega)];omega⟩,Int.toNat_natCast]
 rw [List.set_append_right _ _ (by omega),e1,Nat.sub_self]
 rw [List.drop_eq_getElem_cons hp,List.set_cons_zero,List.eraseIdx_eq_take_drop_succ]
 congr 1
 · rw [List.take_append,List.take_take,Nat.min_eq_right (by omega),List.length_take,Nat.min_eq_left (by omega)]
 · congr 1
   have e3:(l.take i).drop p = []:=List.drop_eq_nil_of_le (by rw [List.length_take];omega)
   rw [List.drop_append,List.length_take,Nat.min_eq_left (by omega),e3,List.nil_append,List.drop_drop]
   congr 1;omega
theorem Zmj {l:List Int} {i p:Nat} {x:Int} (hi:p≤i) (hp:i<l.length) :
   ((l.take (p+1)++(l.drop p).take (i - p))++l.drop (i+1)).set p x=Zhs (l.eraseIdx i) p x:=by
 unfold Zhs
 rw [if_pos ⟨by omega,by rw [List.length_eraseIdx,if_pos (by omega)];omega⟩,Int.toNat_natCast]
 rw [List.append_assoc,List.set_append_left _ _ (by simp;omega),List.take_succ_eq_append_getElem (by omega),List.set_append_right _ _ (by simp;omega)]
 rw [List.eraseIdx_eq_take_drop_succ]
 have e1:p - (l.take p).length=0:=by simp;omega
 rw [e1]
 simp only [List.set_cons_zero,List.append_assoc,List.singleton_append]
 congr 1
 · rw [List.take_append,List.take_take,Nat.min_eq_left (by omega),List.length_take]
   simp [show p - min i l.length=0 by omega]
 · congr 1
   rw [List.drop_append,List.length_take,Nat.min_eq_left (by omega),show p - i=0 by omega,List.drop_zero,List.drop_take]
def Zan (now:List Int) (i:Int):List Int→List Zb4
 | []=>[]
 | x :: to=>if Go.Gm.nth now i.toNat=x then Zan now (i+1) to else ⟨x,i⟩ :: Zan (Z9 now x i).1 (i+1) to
def Za7 (a b:List Int):Prop:=Zal a∧Zal b∧a.Perm b
instance (a b:List Int):Decidable (Za7 a b):=by unfold Za7;exact inferInstance
def Zae (a b:List Int):List Zb4×Int:=if Za7 a b then (Zan a 0 b,0) else ([],8)
theorem ZhH {v:Int} {l:List Int} (h:v ∈ l):l.eraseIdx (ZaT v l).toNat=l.erase v:=by
 induction l with
 | nil=>cases h
 | cons x l ih=>
   by_cases hx:x=v
   · subst hx
     rw [ZaT,if_pos rfl];simp
   · have hm:v ∈ l:=by rcases List.mem_cons.1 h with h | h;exact absurd h.symm hx;exact h
     obtain ⟨i,h1,h2,_⟩:=Zga hm
     rw [ZaT,if_neg hx,if_neg (by omega),h1,List.erase_cons_tail (by simpa using hx),← ih hm,h1]
     rw [show ((i:Int)+1).toNat=i+1 by omega,Int.toNat_natCast,List.eraseIdx_cons_succ]
theorem Zkx {l:List Int} {j x:Int} (h:0≤j∧j≤l.length):(Zhs l j x).Perm (x :: l):=by
 unfold Zhs
 rw [if_pos h]
 have:=(List.perm_middle (a:=x) (l₁:=l.take j.toNat) (l₂:=l.drop j.toNat))
 rwa [List.take_append_drop] at this
theorem Zge {l:List Int} {tx place:Int} (h:tx ∈ l) (hp:0≤place∧place<l.length):Z9 l tx place=(Zhs (l.erase tx) place tx,0):=by
 unfold Z9
 rw [if_neg (by have:=Zi5.2 h;omega),if_neg (by simpa using hp),ZhH h]
theorem ZbI {l:List Int} {tx place:Int} (h:tx ∈ l) (hp:0≤place∧place<l.length):(Z9 l tx place).1.Perm l:=by
 rw [Zge h hp]
 have hl:(l.erase tx).length=l.length - 1:=List.length_erase_of_mem h
 exact (Zkx (by omega)).trans (List.perm_cons_erase h).symm
def Za9 (l:List Int):List Zb4→List Int
 | []=>l
 | p :: s=>Za9 (Z9 l p.key p.val).1 s
theorem Zmd {l:List Int} {tx:Int} {i:Nat} (h:tx ∈ l) (hi:i<l.length) (hx:tx ∉ l.take i):(Z9 l tx i).1.take (i+1)=l.take i ++ [tx]:=by
 rw [Zge h (by omega)]
 have hl:(l.erase tx).length=l.length - 1:=List.length_erase_of_mem h
 show (Zhs (l.erase tx) i tx).take (i+1)=_
 unfold Zhs
 rw [if_pos (by omega),Int.toNat_natCast,List.take_append,List.take_of_length_le (by rw [List.length_take];omega),List.length_take,show i+1 - min i (l.erase tx).length=1 by omega]
 have e:(l.erase tx).take i=l.take i:=by
   conv=>lhs;rw [← List.take_append_drop i l]
   rw [List.erase_append_right _ hx,List.take_append,List.length_take,Nat.min_eq_left (by omega),Nat.sub_self,List.take_zero,List.append_nil,List.take_take,Nat.min_self]
 rw [e];rfl
theorem ZcX:∀ (to:List Int) (now pre:List Int),now.Perm (pre++to)→now.take pre.length=pre→now.Nodup→Za9 now (Zan now pre.length to)=pre++to
 | [],now,pre,hp,ht,hn=>by
   have:=hp.length_eq
   simp at this
   simp only [Zan,Za9,List.append_nil]
   rw [← ht,List.take_of_length_le (by omega)]
 | x :: to,now,pre,hp,ht,hn=>by
   have hl:=hp.length_eq
   simp at hl
   have hxm:x ∈ now:=hp.mem_iff.2 (by simp)
   have hnd:(pre++x :: to).Nodup:=hp.nodup hn
   have hxp:x ∉ pre:=fun h=>(List.nodup_append.1 hnd).2.2 x h x (by simp) rfl
   have e:pre++x :: to=(pre ++ [x])++to:=by simp
   have elen:((pre ++ [x]).length:Int)=(pre.length:Int)+1:=by simp
   unfold Zan
   rw [Int.toNat_natCast]
   split
   · rename_i h
     have:=ZcX to now (pre ++ [x]) (by rw [← e];exact hp) (by
       rw [List.length_append,List.length_singleton,Zt (by omega),h,ht]) hn
     rw [elen] at this
     rw [this,← e]
   · rename_i h
     show Za9 (Z9 now x pre.length).1 _=_
     have hp2:=ZbI (place:=(pre.length:Int)) hxm (by omega)
     have:=ZcX to (Z9 now x pre.length).1 (pre ++ [x]) (by rw [← e];exact hp2.trans hp) (by
       rw [List.length_append,List.length_singleton,Zmd hxm (by omega) (by rw [ht];exact hxp),ht]) (hp2.symm.nodup hn)
     rw [elen] at this
     rw [this,← e]
theorem ZcV:∀ (to:List Int) (now:List Int) (i:Int),∃ s,s.Sublist to∧(Zan now i to).map Zb4.key=s
 | [],now,i=>⟨[],List.Sublist.refl _,rfl⟩
 | x :: to,now,i=>by
   unfold Zan
   split
   · obtain ⟨s,h1,h2⟩:=ZcV to now (i+1)
     exact ⟨s,h1.cons x,h2⟩
   · obtain ⟨s,h1,h2⟩:=ZcV to (Z9 now x i).1 (i+1)
     exact ⟨x :: s,h1.cons_cons x,by rw [List.map_cons,h2]⟩
def Zhr:Go.Shelf.Ren:=⟨fun | 189=>103 | 125=>165 | 257=>164 | 128=>203 | 129=>204 | 294=>194 | 295=>195 | 296=>196 | 297=>197 | 298=>198 | 299=>199 | 216=>200 | 300=>201 | 301=>202 | 328=>215 | 329=>216 | 330=>217 | 331=>218 | 332=>219 | 215=>212 | 343=>224 | n=>n,fun | 28=>41 | 3=>3 | 46=>190 | 0=>0 | 51=>214 | 53=>166 | 4=>4 | 183=>207 | 182=>206 | 131=>146 | 5=>5 | 9=>9 | 218=>222 | 222=>226 | 228=>231 | 229=>232 | n=>n,fun  | n=>n⟩
theorem ZiU:Lays.n189 Tryz.prog Zhr where
 mixed:=by kernel_rfl
 f125:=Tryz.func165.trans (congrArg some (by kernel_rfl))
 f128:=Tryz.func203.trans (congrArg some (by kernel_rfl))
 f129:=Tryz.func204.trans (congrArg some (by kernel_rfl))
 f189:=Tryz.func103.trans (congrArg some (by kernel_rfl))
 f215:=Tryz.func212.trans (congrArg some (by kernel_rfl))
 f216:=Tryz.func200.trans (congrArg some (by kernel_rfl))
 f257:=Tryz.func164.trans (congrArg some (by kernel_rfl))
 f294:=Tryz.func194.trans (congrArg some (by kernel_rfl))
 f295:=Tryz.func195.trans (congrArg some (by kernel_rfl))
 f296:=Tryz.func196.trans (congrArg some (by kernel_rfl))
 f297:=Tryz.func197.trans (congrArg some (by kernel_rfl))
 f298:=Tryz.func198.trans (congrArg some (by kernel_rfl))
 f299:=Tryz.func199.trans (congrArg some (by kernel_rfl))
 f300:=Tryz.func201.trans (congrArg some (by kernel_rfl))
 f301:=Tryz.func202.trans (congrArg some (by kernel_rfl))
 f328:=Tryz.func215.trans (congrArg some (by kernel_rfl))
 f329:=Tryz.func216.trans (congrArg some (by kernel_rfl))
 f330:=Tryz.func217.trans (congrArg some (by kernel_rfl))
 f331:=Tryz.func218.trans (congrArg some (by kernel_rfl))
 f332:=Tryz.func219.trans (congrArg some (by kernel_rfl))
 f343:=Tryz.func224.trans (congrArg some (by kernel_rfl))
 t0:=Tryz.underlying0
 a0:=Tryz.isAgg0
 z0:=Tryz.sizeOf0
 v0:=Tryz.zeroValue0
 t3:=Tryz.underlying3
 a3:=Tryz.isAgg3
 z3:=Tryz.sizeOf3
 v3:=Tryz.zeroValue3
 t4:=Tryz.underlying4
 a4:=Tryz.isAgg4
 z4:=Tryz.sizeOf4
 v4:=Tryz.zeroValue4
 t5:=Tryz.underlying5
 a5:=Tryz.isAgg5
 z5:=Tryz.sizeOf5
 v5:=Tryz.zeroValue5
 t9:=Tryz.underlying9
 a9:=Tryz.isAgg9
 z9:=Tryz.sizeOf9
 v9:=Tryz.zeroValue9
 t28:=Tryz.underlying41
 a28:=Tryz.isAgg41
 z28:=Tryz.sizeOf41
 v28:=Tryz.zeroValue41
 t46:=Tryz.underlying190
 a46:=Tryz.isAgg190
 z46:=Tryz.sizeOf190
 v46:=Tryz.zeroValue190
 t51:=Tryz.underlying214
 a51:=Tryz.isAgg214
 z51:=Tryz.sizeOf214
 v51:=Tryz.zeroValue214
 t53:=Tryz.underlying166
 a53:=Tryz.isAgg166
 z53:=Tryz.sizeOf166
 v53:=Tryz.zeroValue166
 t131:=Tryz.underlying146
 a131:=Tryz.isAgg146
 z131:=Tryz.sizeOf146
 v131:=Tryz.zeroValue146
 t182:=Tryz.underlying206
 a182:=Tryz.isAgg206
 z182:=Tryz.sizeOf206
 v182:=Tryz.zeroValue206
 t183:=Tryz.underlying207
 a183:=Tryz.isAgg207
 z183:=Tryz.sizeOf207
 v183:=Tryz.zeroValue207
 t218:=Tryz.underlying222
 a218:=Tryz.isAgg222
 z218:=Tryz.sizeOf222
 v218:=Tryz.zeroValue222
 t222:=Tryz.underlying226
 a222:=Tryz.isAgg226
 z222:=Tryz.sizeOf226
 v222:=Tryz.zeroValue226
 t228:=Tryz.underlying231
 a228:=Tryz.isAgg231
 z228:=Tryz.sizeOf231
 v228:=Tryz.zeroValue231
 t229:=Tryz.underlying232
 a229:=Tryz.isAgg232
 z229:=Tryz.sizeOf232
 v229:=Tryz.zeroValue232
theorem Zkn (w:World):Calls Tryz.prog 103 #[.slice none 0 0] w (fun e w'=>e = .returned (.tuple #[])∧w' = w):=
 Go.calls_of_every_depth fun D=>Go.Proofs.AnyS.slices_Sort_int_none_in ZiU D none 0 w
theorem ZiM {w:World} {y:Ys} : ∀ {l:List Int} {xs:List Value},PVs (l.flatMap rInt) xs w y→xs=l.map (Value.int .i64) ∧ ∀ x ∈ l,inR .i64 x
 | [],[],_=>⟨rfl,fun x hx=>by cases hx⟩
 | [],_ :: _,h=>h.elim
 | x :: l,[],h=>h.elim
 | x :: l,v :: xs,h=>by
   have h1:v = .int .i64 x∧inR .i64 x:=h.1.2
   obtain ⟨h2,h3⟩:=ZiM (l:=l) (xs:=xs) h.2
   exact ⟨by rw [h1.1,h2];rfl,fun z hz=>by rcases List.mem_cons.1 hz with rfl | hz;exact h1.2;exact h3 z hz⟩
theorem ZeO {w:World} {y:Ys} : ∀ {l:List Int},(∀ x ∈ l,inR .i64 x)→PVs (l.flatMap rInt) (l.map (Value.int .i64)) w y
 | [],_=>trivial
 | x :: l,h=>⟨⟨rfl,rfl,h x (by simp)⟩,ZeO fun z hz=>h z (by simp [hz])⟩
theorem Zmy {l:List Int} {j:Nat} (hj:j<l.length):(l.toArray)[j]! = l[j]:=by simp [hj]
theorem Zie {w:World} {g n:Nat} {d:List Int} {os:Array Obj} {cur:Array Value} {e:TypeId} (hg:w.heap[g]? = some (.cells cur e (0,0))) (b:Nat) (hb:b<w.heap.size) :
   (Go.Sort.grow (Go.Sort.putRow (Value.int .i64) (Go.Sort.ahead w n) g 0 d.toArray) os).heap[b]? = if b=g then some (.cells (Go.Sort.putCells (Value.int .i64) 0 d.toArray cur) e (0,0)) else w.heap[b]?:=by
 unfold Go.Sort.grow Go.Sort.putRow Go.Sort.mapBlock Go.Sort.ahead
 simp only
 rw [Array.getElem?_append_left (by simpa using hb),Array.getElem?_modify]
 by_cases h:g=b
 · subst h
   rw [if_pos rfl,if_pos rfl,hg];rfl
 · rw [if_neg h,if_neg (fun e=>h e.symm)]
theorem Zmz {cur:Array Value} {d:List Int} (h:d.length≤cur.size):(Go.Sort.putCells (Value.int .i64) 0 d.toArray cur).toList.take d.length=d.map (Value.int .i64):=by
 apply List.ext_getElem
 · simp [Go.Sort.putCells];omega
 · intro i h1 h2
   have hi:i<d.length:=by simpa using h2
   simp [Go.Sort.putCells,hi]
theorem Zk8 (v:Value) (l:List Int) (hlm:l.length≤1000000):FnG Tryz.prog 103 1 [.is v] [Zw 3 1 rInt l v] (.tup []) (fun _=>[Zw 3 1 rInt (l.mergeSort leI) v]):=fun w F vs hw hle hvs hpr=>by
 match vs,hvs with
 | [u],hvs=>
   have hu:u=v:=hvs.1.1
   subst hu
   obtain ⟨xs,⟨hxl,hx⟩,hp,hf⟩:=hpr 0 _ rfl
   rcases hx with ⟨rfl,h0⟩ | ⟨g,cap,cur,rfl,_,hg,hn,hcap,hcs,hct⟩
   · have hl:l = []:=List.eq_nil_of_length_eq_zero h0
     subst hl
     refine (Zkn w).mono ?_
     rintro e w' ⟨rfl,rfl⟩
     refine ⟨.tuple #[],F,rfl,hw,⟨rfl,rfl,rfl,Nat.le_refl _,fun _ _ _=>rfl,fun _ _=>rfl,fun n hn b hb=>.inl ⟨n,hn,hb⟩⟩,hle,⟨[],rfl,trivial⟩,fun i h hi=>?_⟩
     match i,hi with
     | 0,hi=>simp at hi;subst hi;exact ⟨xs,⟨hxl,.inl ⟨rfl,rfl⟩⟩,by simpa using hp,hf⟩
   · have hgs:g<w.heap.size:=(Array.getElem?_eq_some_iff.1 hg).1
     obtain ⟨hxe,hin⟩:=ZiM hp
     have hcl:l.length≤cur.size:=by rw [hcs];omega
     have hbig:l.length<4611686018427387904:=by omega
     have hcur:∀ j (hj:j<l.length),cur[j]? = some (.int .i64 l[j]):=fun j hj=>by
       have h1:(cur.toList.take (l.length*1))[j]? = (l.map (Value.int .i64))[j]?:=by rw [hct,hxe]
       rw [List.getElem?_take_of_lt (by omega)] at h1
       simpa [hj] using h1
     have hH:Go.Sort.Holds (Value.int .i64) w g 0 l.toArray:=fun j hj=>by
       have hj':j<l.length:=by simpa using hj
       refine ⟨?_,?_⟩
       · rw [Zmy hj',Nat.zero_add,Zbd hg];exact hcur j hj'
       · simp [World.frozen?,hg]
     have hcalls:Calls Tryz.prog 103 #[.slice (some ⟨g,0,none⟩) l.length cap] w fun e w'=>e = .returned (.tuple #[]) ∧ ∃ n os,w' = Go.Sort.grow (Go.Sort.putRow (Value.int .i64) (Go.Sort.ahead w n) g 0 (l.mergeSort leI).toArray) os:=Go.Proofs.Any.slices_Sort_int ZiU g 0 cap l w hH hgs hbig
     refine hcalls.mono ?_
     rintro e w' ⟨rfl,n,os,rfl⟩
     have hsl:(l.mergeSort leI).length=l.length:=List.length_mergeSort l
     have hheap:=fun b hb=>Zie (n:=n) (d:=l.mergeSort leI) (os:=os) hg b hb
     have hsz:(Go.Sort.grow (Go.Sort.putRow (Value.int .i64) (Go.Sort.ahead w n) g 0 (l.mergeSort leI).toArray) os).heap.size=w.heap.size+os.size:=by simp [Go.Sort.ahead]
     have hfg:F 1 g:=(hf g).2 rfl
     have hst:Stp (List.range' 1 1) w F (Go.Sort.grow (Go.Sort.putRow (Value.int .i64) (Go.Sort.ahead w n) g 0 (l.mergeSort leI).toArray) os) F:=
       ⟨rfl,rfl,rfl,by rw [hsz];omega,fun b hb hn=>by
         rw [hheap b hb,if_neg (fun e=>by subst e;exact hn 1 (by simp) hfg)],fun _ _=>rfl,fun n hn b hb=>.inl ⟨n,hn,hb⟩⟩
     refine ⟨.tuple #[],F,rfl,⟨hw.dis,fun n b hb=>by rw [hsz];have:=hw.bd n b hb;omega⟩,hst,hle,⟨[],rfl,trivial⟩,fun i h hi=>?_⟩
     match i,hi with
     | 0,hi=>
       simp only [List.getElem?_cons_zero,Option.some.injEq] at hi
       subst hi
       refine ⟨(l.mergeSort leI).map (Value.int .i64),⟨by simp,.inr ⟨g,cap,_,by rw [hsl],Nat.zero_le _,(hheap g hgs).trans (if_pos rfl),by omega,hcap,by simp [Go.Sort.putCells,hcs],?_⟩⟩,ZeO fun x hx=>hin x ((List.mergeSort_perm l leI).mem_iff.1 hx),hf⟩
       rw [Nat.mul_one];exact Zmz (by omega)
theorem ZbX {α:Type} [Inhabited α] {p:α→Bool} {l:List α} {j:Nat} (h:j<l.length):(l.take (j+1)).filter p=(l.take j).filter p++if p (Go.Gm.nth l j)=true then [Go.Gm.nth l j] else []:=by
 rw [Zt h,List.filter_append]
 congr 1
 by_cases e:p (Go.Gm.nth l j)=true
 · rw [if_pos e];simp [e]
 · rw [if_neg e];simp at e;simp [e]
def Z5 {α:Type} [Inhabited α] (p:α→Bool) (l:List α):Int:=match l.findIdx? p with
 | some i=>i
 | none=>-1
theorem Zbv {α:Type} [Inhabited α] {p:α→Bool} {l:List α} (h:∀ k,k<l.length→p (Go.Gm.nth l k)=false):Z5 p l = -1:=by
 unfold Z5
 have:l.findIdx? p=none:=List.findIdx?_eq_none_iff.2 fun x hx=>by
   obtain ⟨k,hk,rfl⟩:=List.mem_iff_getElem.1 hx
   rw [← Zz hk];exact h k hk
 rw [this]
theorem Zcv {α:Type} [Inhabited α] {p:α→Bool} {l:List α} {i:Nat} (hi:i<l.length) (h:p (Go.Gm.nth l i)=true) (h2:∀ k,k<i→p (Go.Gm.nth l k)=false):Z5 p l=i:=by
 unfold Z5
 have:l.findIdx? p=some i:=List.findIdx?_eq_some_iff_getElem.2 ⟨hi,by rw [← Zz hi];exact h,fun k hk=>by rw [← Zz (by omega),h2 k hk];decide⟩
 rw [this]
theorem Zam {α:Type} [Inhabited α] (p:α→Bool) (l:List α):(Z5 p l = -1 ∧ ∀ k,k<l.length→p (Go.Gm.nth l k)=false) ∨ ∃ i:Nat,Z5 p l=i∧i<l.length∧p (Go.Gm.nth l i)=true ∧ ∀ k,k<i→p (Go.Gm.nth l k)=false:=by
 cases h:l.findIdx? p with
 | none=>
   left
   refine ⟨by unfold Z5;rw [h],fun k hk=>?_⟩
   have:=List.findIdx?_eq_none_iff.1 h l[k] (List.getElem_mem hk)
   rw [Zz hk];exact this
 | some i=>
   right
   obtain ⟨h1,h2,h3⟩:=List.findIdx?_eq_some_iff_getElem.1 h
   refine ⟨i,by unfold Z5;rw [h],h1,by rw [Zz h1];exact h2,fun k hk=>?_⟩
   rw [Zz (by omega)]
   simpa using h3 k hk
theorem ZcE {α:Type} [Inhabited α] {p:α→Bool} {l:List α} (h:∀ k,k<l.length→p (Go.Gm.nth l k)=false):l.filter (fun x=>!p x)=l:=by
 rw [List.filter_eq_self]
 intro x hx
 obtain ⟨k,hk,rfl⟩:=List.mem_iff_getElem.1 hx
 rw [← Zz hk,h k hk];rfl
theorem ZdR {α:Type} [Inhabited α] {p:α→Bool} {l:List α} {i:Nat} (hi:i<l.length) (hip:p (Go.Gm.nth l i)=true) (hib:∀ k,k<i→p (Go.Gm.nth l k)=false):l.take i=(l.take (i+1)).filter fun x=>!p x:=by
 have h:(l.take i).filter (fun x=>!p x)=l.take i:=ZcE fun k hk=>by
   rw [List.length_take] at hk
   rw [Zz (by rw [List.length_take];omega),List.getElem_take,← Zz (by omega)]
   exact hib k (by omega)
 rw [ZbX (p:=fun x=>!p x) hi,hip,h];simp
theorem ZhT:inR .i64 0:=by show IntKind.min .i64≤0∧0≤IntKind.max .i64;decide
theorem ZcC (l:List Int) (hl:l.length≤1000000):FnG Tryz.prog 82 1 [.sl rInt l] [.star []] (PV.one) (fun v=>[Zw 3 1 rInt l v]):=by
 refine FnG.mk Tryz.func82 rfl Tryz.ntmps82 rfl (by kernel_rfl) ?_
 intro B F0 a w F hB hG hS
 obtain ⟨F,hS⟩:=hS.nm [0] [0] rfl rfl
 refine wp_seq ?_
 refine Zb hS (qC qZ) hB [2,0] [0] rfl rfl fun a w F hS=>Za (wp_seq (wp_seq ?_))
 refine Zb hS (qM rfl rfl (qf (Zc9 Tryz.underlying41 .t) r1 qz qZ)) hB [4,2,0] [0] rfl rfl fun a w F hS=>?_
 obtain ⟨β4,hβ4,hS⟩:=hS.pickBool 4 rfl
 obtain ⟨F,hS⟩:=hS.nm [4,2,0] [0] rfl rfl
 refine Za ?_
 refine Zd hS rfl (fun hc0=>?_) (fun hc0=>?_)
 ·skip
  have hg:l = []:=hβ4 hc0
  refine wp_seq ?_
  refine Zb hS (qC qZ) hB [2,0] [0] rfl rfl fun a w F hS=>Za (wp_ret (Zg ?_))
  have hS:=hS.fresh 1 rfl
  have hS:=hS.turn 1 rfl (Zaf (T:=3) (sz:=1) (R:=rInt))
  have hS:=hS.turn 1 rfl (r':=RS.hp (Zw 3 1 rInt l (.slice none 0 0))) (fun _ _ _ _ h=>by rw [hg];exact h)
  refine Zat (h':=fun v=>Zw 3 1 rInt l v) hG hS rfl (.tmp rfl .nil) (.one .one) rfl
 have hg:l = [] ++ l:=rfl
 refine wp_skip (Za (wp_seq ?_))
 refine Zc hS (qf (ZaB (R:=rInt) (sz:=1) 101 Tryz.underlying41 (by kernel_rfl)) trivial qz (qM rfl rfl (qf (o_append (sz:=1) (bs:=8) 101 (.mk' Tryz.underlying41 (by kernel_rfl) (by kernel_rfl)) (by intro x;rfl) .same (.sl .t) (by simp only [List.length_append,List.length_nil];omega) (by decide)) ⟨rfl,rfl,trivial⟩ ⟨rfl,trivial⟩ (qN rfl rfl qZ)))) hB [2] [101,0] (fun _=>rfl) (fun _=>rfl) fun τ a w F hS=>?_
 try dsimp only [RS.sub,SF.sub,CF.sub,csub,Anc.sub,List.map,Zf,xL,xM,Nat.reduceAdd,xD,xE,xT,xU,xC,xN,zCF,rInt] at hS
 generalize τ 7=v7 at hS
 refine Za (wp_ret ?_)
 obtain ⟨F,hS⟩:=hS.rename 101 1 rfl rfl
 have hS:=hS.turn 1 rfl (r':=RS.hp (Zw 3 1 rInt l v7)) (fun _ _ _ _ h=>by rw [hg];exact h)
 refine Zat (h':=fun v=>Zw 3 1 rInt l v) hG hS rfl (.tmp rfl .nil) (.one .one) rfl
theorem Znn (l : List Int) (p : Int → Bool) (f : FuncId) (fn : Func) (cps : List PV) (hf : Tryz.prog.funcs[f]? = some fn) (hb : fn.body.isSome = true) (hnn : (fn.name == "runtime.NumGoroutine") = false) (hw : ∀ x, FnP Tryz.prog f (.int .i64 x :: cps) (.bool (p x))) : FnP Tryz.prog 222 [.sl rInt l, .clos f cps] (.int .i64 (Z5 p l)) := by
 refine FnP.mk Tryz.func222 rfl Tryz.ntmps222 rfl ?_
 intro B a w F hB hfr hS
 have hll:=Sat.lenSl hS (i:=0) rfl
 refine wp_seq ?_
 refine Zb hS (qI qZ) hB [4,1,0] [0] rfl rfl fun a w F hS=>Za (wp_seq (wp_seq ?_))
 refine Zb hS (qM rfl rfl (qu Tryz.underlying41 r1 (qJ qZ))) hB [8,7,4,1,0] [0] rfl rfl fun a w F hS=>Za (wp_block ?_)
 refine Zl (σ:=(Nat)) [0,1,4,7] [0] (fun s=>[(8,.pv (.int .i64 (s:Int)))]) (fun s=>[]) (fun s=>s≤l.length∧(∀ k,k<s→p (Go.Gm.nth l k)=false)) (fun s=>l.length - s) (0) hS ⟨rfl,rfl,rfl,rfl,rfl,trivial⟩ ⟨rfl,trivial⟩ ⟨Nat.zero_le _,fun k hk=>absurd hk (Nat.not_lt_zero k)⟩ ?_
 clear hS;intro i a w F hC hS
 try dsimp only at hC
 obtain ⟨F,hS⟩:=hS.nm [8,7,4,1,0] [0] rfl rfl
 try dsimp only at hS
 obtain ⟨hi,hq⟩:=hC
 refine wp_seq ?_
 refine Zb hS (qL r2) hB [9,8,7,4,1,0] [0] rfl rfl fun a w F hS=>Za (wp_seq ?_)
 refine Zd hS rfl (fun hc0=>?_) (fun hc0=>?_)
 ·skip
  have hil:i<l.length:=by simp at hc0;omega
  refine wp_skip (Za (wp_seq (wp_block (wp_seq ?_))))
  refine Zb hS (qM rfl rfl (qN rfl rfl qZ)) hB [8,7,5,4,1,0] [0] rfl rfl fun a w F hS=>Za (wp_seq ?_)
  refine Zb hS (qM rfl rfl (qM rfl rfl (qM rfl rfl (qy 1 Tryz.underlying41 r2 (qf (oR false 1 .t) r1 qz (qf (Z2 (avs:=[.int .i64 (Go.Gm.nth l i)]) .t (hw (Go.Gm.nth l i)) hf hb hnn (Args.one .t)) r2 qz qZ)))))) hB [16,8,7,5,4,1,0] [0] rfl rfl fun a w F hS=>?_
  try simp only [Int.toNat_natCast] at hS
  refine Za ?_
  refine Zd hS rfl (fun hc1=>?_) (fun hc1=>?_)
  ·skip
   have hg:(i:Int)=Z5 p l:=(Zcv hil hc1 hq).symm
   refine wp_seq ?_
   refine Zb hS (qM rfl rfl (qN rfl rfl qZ)) hB [8,7,4,1,0] [0] rfl rfl fun a w F hS=>Za (wp_ret (Zm (Zg (Zg (Zm (Zg ?_))))))
   refine Zr hfr hS rfl rfl rfl (.int hg)
  have hne:p (Go.Gm.nth l i)=false:=hc1
  refine wp_skip (Zi (Za ?_))
  refine Zb hS (qp r1 (qM rfl rfl qZ)) hB [8,7,4,1,0] [0] rfl rfl fun a w F hS=>Za ?_
  replace hS:=hS.ent (i:=8) (s':=.pv (.int .i64 ((i+1:Nat):Int))) rfl (.int (Ze (by omega)))
  obtain ⟨F,hS⟩:=hS.nm [7,4,1,0,8] [0] rfl rfl
  exact ⟨(i+1),F,⟨by omega,(fun k hk=>by rcases Nat.lt_or_eq_of_le (Nat.le_of_lt_succ hk) with h | h;exact hq k h;rw [h];exact hne)⟩,hS,by omega⟩
 have hil:i=l.length:=by simp at hc0;omega
 have hg : -1=Z5 p l:=(Zbv fun k hk=>hq k (by simp at hc0;omega)).symm
 refine wp_exit (Zk (Zk (Zq (Za (wp_seq ?_)))))
 refine Zb hS (qI qZ) hB [4] [0] rfl rfl fun a w F hS=>Za (wp_ret ?_)
 refine Zr hfr hS rfl rfl rfl (.int hg)
theorem Zm3 (v : Value) (l : List Int) (hll : l.length ≤ 1000000) (p : Int → Bool) (f : FuncId) (fn : Func) (cps : List PV) (hf : Tryz.prog.funcs[f]? = some fn) (hb : fn.body.isSome = true) (hnn : (fn.name == "runtime.NumGoroutine") = false) (hw : ∀ x, FnP Tryz.prog f (.int .i64 x :: cps) (.bool (p x))) : FnG Tryz.prog 210 1 [.is v, .clos f cps] [Zw 3 1 rInt l v] (PV.one) (fun v => [Zw 3 1 rInt (l.filter fun x => !p x) v]) := by
 refine FnG.mk Tryz.func210 rfl Tryz.ntmps210 rfl (by kernel_rfl) ?_
 intro B F0 a w F hB hG hS
 replace hS:=hS.turn 1 rfl (r':=.ob (.val v) (Zw 3 1 rInt l)) (fun _ _ _ _ h=>h)
 refine wp_seq ?_
 refine Zb hS (qC qZ) hB [4,1,0] [1,0] rfl rfl fun a w F hS=>Za (wp_seq ?_)
 refine Zb hS (qM rfl rfl (qM rfl rfl (qf (OpC.lendRow 1 [8] (oP (Znn l p f fn cps hf hb hnn hw) Tryz.func222 (Args.two .t .t)) ⟨rfl,trivial,trivial⟩ (.pv (fun _ _ _ _ h=>h)) trivial (by rfl)) r2 r1 (qN rfl rfl qZ)))) hB [5,4,1,0] [1,0] rfl rfl fun a w F hS=>Za (wp_seq (wp_seq ?_))
 refine Zb hS (qM rfl rfl (qf (o_eql .t qi) r1 qz qZ)) hB [12,5,4,1,0] [1,0] rfl rfl fun a w F hS=>Za ?_
 refine Zd hS rfl (fun hc0=>?_) (fun hc0=>?_)
 ·skip
  have hno:=(Zam p l).resolve_right (by rintro ⟨i,h1,_⟩;simp at hc0;omega)
  have hg:(l.filter fun x=>!p x)=l:=ZcE hno.2
  refine wp_seq ?_
  refine Zb hS (qM rfl rfl (qN rfl rfl qZ)) hB [5,4,1,0] [1,0] rfl rfl fun a w F hS=>Za (wp_ret (Zg ?_))
  have hS:=hS.turn 1 rfl (r':=RS.hp (Zw 3 1 rInt (l.filter fun x=>!p x) v)) (fun _ _ _ _ h=>by rw [hg];exact h)
  refine Zat (h':=fun v=>Zw 3 1 rInt (l.filter fun x=>!p x) v) hG hS rfl (.tmp rfl .nil) (.one .one) rfl
 obtain ⟨i0,hi0,hi1,hip,hib⟩:=(Zam p l).resolve_left (by rintro ⟨h1,_⟩;simp [h1] at hc0)
 have hst0:=ZdR hi1 hip hib
 refine wp_skip (Za (wp_seq (wp_seq ?_)))
 refine Zb hS (qM rfl rfl (qp r1 (qN rfl rfl qZ))) hB [6,5,4,1,0] [1,0] rfl rfl fun a w F hS=>Za (wp_block ?_)
 have hC0:i0<i0+1∧i0+1≤l.length∧l.length=l.length∧l.take i0=(l.take (i0+1)).filter (fun x=>!p x) ∧ ∀ k,i0+1≤k→k<l.length→Go.Gm.nth l k=Go.Gm.nth l k:=⟨by omega,by omega,rfl,hst0,fun k _ _=>rfl⟩
 replace hS:=hS.ent (i:=5) (s':=.pv (.int .i64 (i0:Int))) rfl (.int hi0)
 replace hS:=hS.ent (i:=6) (s':=.pv (.int .i64 ((i0+1:Nat):Int))) rfl (.int (by rw [hi0,ZP (by omega)];omega))
 refine Zl (σ:=Nat×Nat×List Int) [0,1,4] [0] (fun s=>[(5,.pv (.int .i64 (s.1:Int))),(6,.pv (.int .i64 (s.2.1:Int)))]) (fun s=>[(1,.ob (.val v) (Zw 3 1 rInt s.2.2))]) (fun s=>s.1<s.2.1∧s.2.1≤l.length∧s.2.2.length=l.length∧s.2.2.take s.1=(l.take s.2.1).filter (fun x=>!p x) ∧ ∀ k,s.2.1≤k→k<l.length→Go.Gm.nth s.2.2 k=Go.Gm.nth l k) (fun s=>l.length - s.2.1) ((i0),(i0+1),(l)) hS ⟨rfl,rfl,rfl,rfl,rfl,trivial⟩ ⟨rfl,rfl,trivial⟩ hC0 ?_
 clear hS;intro s a w F hC hS
 obtain ⟨i,j,l1⟩:=s
 try dsimp only at hC
 obtain ⟨F,hS⟩:=hS.nm [6,5,4,1,0] [1,0] rfl rfl
 try dsimp only at hS
 obtain ⟨hij,hj,hll1,htk,hrest⟩:=hC
 refine wp_seq (wp_seq ?_)
 refine Zb hS (qM rfl rfl (qM rfl rfl (qf (Z4 1 Tryz.underlying41 .is) r1 r1 (qL r2)))) hB [19,6,5,4,1,0] [1,0] rfl rfl fun a w F hS=>Za ?_
 refine Zd hS rfl (fun hc1=>?_) (fun hc1=>?_)
 ·skip
  have hjl:j<l.length:=by simp at hc1;omega
  have hnj:Go.Gm.nth l1 j=(Go.Gm.nth l j):=hrest j (Nat.le_refl _) hjl
  have hfs:=ZbX (p:=fun x=>!p x) hjl
  refine wp_skip (Za (wp_seq (wp_block (wp_seq ?_))))
  refine Zb hS (qM rfl rfl (qM rfl rfl (qf (o_indexAddr_row (sz:=1) 1 (.mk Tryz.underlying41 (by kernel_rfl)) .is .t (by omega) (by omega) (by rfl)) r2 r1 (qf (Zah (ag:=false) (sz':=1) (sz:=1) 1 .t (by intro x;rfl) (by omega) (by kernel_rfl) (by kernel_rfl) (by kernel_rfl)) r1 r1 (qN rfl rfl qZ))))) hB [7,6,5,4,1,0] [1,0] rfl rfl fun a w F hS=>?_
  try simp only [Int.toNat_natCast] at hS
  rw [hnj] at hS
  refine Za (wp_seq ?_)
  refine Zb hS (qM rfl rfl (qM rfl rfl (qf (Z2 (avs:=[.int .i64 (Go.Gm.nth l j)]) .t (hw (Go.Gm.nth l j)) hf hb hnn (Args.one .t)) r2 qz (qf (o_not .t) r1 qz qZ)))) hB [29,7,6,5,4,1,0] [1,0] rfl rfl fun a w F hS=>Za ?_
  refine Zd hS rfl (fun hc2=>?_) (fun hc2=>?_)
  ·skip
   have hp:p (Go.Gm.nth l j)=false:=by simpa using hc2
   obtain ⟨i2,hi2e⟩:∃ i2,i2=i+1:=⟨_,rfl⟩
   have hi2:IntKind.wrap .i64 ((i:Int)+1)=(i2:Int):=by rw [hi2e];exact Ze (by omega)
   obtain ⟨l2,hl2⟩:∃ l2,l2=l1.set i (Go.Gm.nth l j):=⟨_,rfl⟩
   have hC2:i2<j+1∧j+1≤l.length∧l2.length=l.length∧l2.take i2=(l.take (j+1)).filter (fun x=>!p x) ∧ ∀ k,j+1≤k→k<l.length→Go.Gm.nth l2 k=Go.Gm.nth l k:=⟨by omega,by omega,by rw [hl2,List.length_set];exact hll1,by rw [hl2,hi2e,hfs,hp,← htk,Zt (by rw [List.length_set];omega),List.take_set_of_le (Nat.le_refl _),Zz (by rw [List.length_set];omega),List.getElem_set_self];rfl,fun k hk hk2=>by rw [hl2,Zz (by rw [List.length_set];omega),List.getElem_set_ne (by omega),← Zz (by omega)];exact hrest k (by omega) hk2⟩
   refine wp_seq ?_
   refine Zb hS (qM rfl rfl (qM rfl rfl (qM rfl rfl (qf (o_indexAddr_row (sz:=1) 1 (.mk Tryz.underlying41 (by kernel_rfl)) .is .t (by omega) (by omega) (by rfl)) r2 r1 (qf (ZbB (R:=rInt) (sz:=1) (v:=(Go.Gm.nth l j)) 1 .t (by intro x;rfl) (by omega) .t rfl one_int (by kernel_rfl)) r2 r1 qZ))))) hB [6,5,4,1,0] [1,0] rfl rfl fun a w F hS=>?_
   try simp only [Int.toNat_natCast] at hS
   rw [← hl2] at hS
   refine Za ?_
   refine Zb hS (qM rfl rfl (qp r1 (qN rfl rfl qZ))) hB [6,5,4,1,0] [1,0] rfl rfl fun a w F hS=>Zi (Za ?_)
   refine Zb hS (qM rfl rfl (qp r1 (qN rfl rfl qZ))) hB [6,5,4,1,0] [1,0] rfl rfl fun a w F hS=>Za ?_
   have hmu:l.length - (j+1)<l.length - j:=by omega
   replace hS:=hS.ent (i:=5) (s':=.pv (.int .i64 (i2:Int))) rfl (.int hi2)
   replace hS:=hS.ent (i:=6) (s':=.pv (.int .i64 ((j+1:Nat):Int))) rfl (.int (Ze (by omega)))
   obtain ⟨F,hS⟩:=hS.nm [4,1,0,6,5] [0,1] rfl rfl
   exact ⟨((i2),(j+1),(l2)),F,hC2,hS,hmu⟩
  have hp:p (Go.Gm.nth l j)=true:=by simpa using hc2
  obtain ⟨i2,hi2e⟩:∃ i2,i2=i:=⟨_,rfl⟩
  have hi2:(i:Int)=(i2:Int):=by rw [hi2e]
  obtain ⟨l2,hl2⟩:∃ l2,l2=l1:=⟨_,rfl⟩
  rw [← hl2] at hS
  have hC2:i2<j+1∧j+1≤l.length∧l2.length=l.length∧l2.take i2=(l.take (j+1)).filter (fun x=>!p x) ∧ ∀ k,j+1≤k→k<l.length→Go.Gm.nth l2 k=Go.Gm.nth l k:=⟨by omega,by omega,by rw [hl2];exact hll1,by rw [hl2,hi2e,hfs,hp,htk];simp,fun k hk hk2=>by rw [hl2];exact hrest k (by omega) hk2⟩
  refine wp_skip (Zi (Za ?_))
  refine Zb hS (qM rfl rfl (qp r1 (qN rfl rfl qZ))) hB [6,5,4,1,0] [1,0] rfl rfl fun a w F hS=>Za ?_
  have hmu:l.length - (j+1)<l.length - j:=by omega
  replace hS:=hS.ent (i:=5) (s':=.pv (.int .i64 (i2:Int))) rfl (.int hi2)
  replace hS:=hS.ent (i:=6) (s':=.pv (.int .i64 ((j+1:Nat):Int))) rfl (.int (Ze (by omega)))
  obtain ⟨F,hS⟩:=hS.nm [4,1,0,6,5] [0,1] rfl rfl
  exact ⟨((i2),(j+1),(l2)),F,hC2,hS,hmu⟩
 have hjl:j=l.length:=by simp at hc1;omega
 have hil2:i<l.length:=by omega
 have hg:(l.filter fun x=>!p x)=(l1.take i++List.replicate (l1.length - i) (0:Int)).take i:=by rw [List.take_append_of_le_length (by rw [List.length_take];omega),List.take_take,Nat.min_self,htk,hjl,List.take_length]
 refine wp_exit (Zk (Zk (Zq (Za (wp_seq ?_)))))
 refine Zb hS (qM rfl rfl (qM rfl rfl (qf (Zaw (sz:=1) 1 (.mk Tryz.underlying41 (by kernel_rfl)) .is .t (by omega) (by omega)) r2 r1 (qf (ZbT (R:=rInt) (z:=(0:Int)) (zs:=[.int .i64 0]) 1 Tryz.underlying41 (by kernel_rfl) rfl rfl (fun _ _=>⟨⟨rfl,rfl,ZhT⟩,trivial⟩) (by intro x;rfl) .t (by simp;omega)) r1 r1 qZ)))) hB [5,4,0] [1,0] rfl rfl fun a w F hS=>Za (wp_seq ?_)
 refine Zc hS (qM rfl rfl (qM rfl rfl (qf (Zch (sz:=1) 1 (.mk Tryz.underlying41 (by kernel_rfl)) (by intro x;rfl) .is .t (by omega) (by simp;omega)) r2 r1 (qN rfl rfl qZ)))) hB [4] [1,0] (fun _=>rfl) (fun _=>rfl) fun τ a w F hS=>?_
 try dsimp only [RS.sub,SF.sub,CF.sub,csub,Anc.sub,List.map,rInt] at hS
 generalize τ 41=v41 at hS
 refine Za (wp_ret ?_)
 have hS:=hS.turn 1 rfl (r':=RS.hp (Zw 3 1 rInt (l.filter fun x=>!p x) v41)) (fun _ _ _ _ h=>by rw [hg];exact h)
 refine Zat (h':=fun v=>Zw 3 1 rInt (l.filter fun x=>!p x) v) hG hS rfl (.tmp rfl .nil) (.one .one) rfl
def ZF {α:Type} [DecidableEq α]:List α→List α
 | []=>[]
 | [x]=>[x]
 | x :: y :: l=>if x=y then ZF (y :: l) else x :: ZF (y :: l)
theorem ZbZ {α:Type} [DecidableEq α] (a b:α):∀ l:List α,ZF (l ++ [a,b])=if a=b then ZF (l ++ [a]) else ZF (l ++ [a]) ++ [b]
 | []=>by
   show (if a=b then [b] else a :: [b])=if a=b then [a] else [a] ++ [b]
   split
   · rename_i h;rw [h]
   · rfl
 | [x]=>by
   have ih:=ZbZ a b []
   show (if x=a then ZF ([] ++ [a,b]) else x :: ZF ([] ++ [a,b]))=if a=b then (if x=a then ZF ([] ++ [a]) else x :: ZF ([] ++ [a])) else (if x=a then ZF ([] ++ [a]) else x :: ZF ([] ++ [a])) ++ [b]
   rw [ih]
   by_cases h1:x=a <;> by_cases h2:a=b <;> simp [h1,h2]
 | x :: y :: l=>by
   have ih:=ZbZ a b (y :: l)
   show (if x=y then ZF (y :: l ++ [a,b]) else x :: ZF (y :: l ++ [a,b]))=if a=b then (if x=y then ZF (y :: l ++ [a]) else x :: ZF (y :: l ++ [a])) else (if x=y then ZF (y :: l ++ [a]) else x :: ZF (y :: l ++ [a])) ++ [b]
   rw [ih]
   by_cases h1:x=y <;> by_cases h2:a=b <;> simp [h1,h2]
theorem Zdk {α:Type} [DecidableEq α] [Inhabited α] {l:List α} {p:Nat} (h1:1≤p) (h2:p<l.length):ZF (l.take (p+1))=if Go.Gm.nth l (p - 1)=Go.Gm.nth l p then ZF (l.take p) else ZF (l.take p) ++ [Go.Gm.nth l p]:=by
 obtain ⟨q,rfl⟩:∃ q,p=q+1:=⟨p - 1,by omega⟩
 rw [Zt h2,Zt (show q<l.length by omega),List.append_assoc]
 exact ZbZ _ _ _
theorem Zd5 {α:Type} [DecidableEq α]:∀ {l:List α},l.length≤1→ZF l=l
 | [],_=>rfl
 | [x],_=>rfl
 | x :: y :: l,h=>by simp at h
theorem Zng (v:Value) (l:List Int) (hll:l.length≤1000000):FnG Tryz.prog 193 1 [.is v] [Zw 3 1 rInt l v] (PV.one) (fun v=>[Zw 3 1 rInt (ZF l) v]):=by
 refine FnG.mk Tryz.func193 rfl Tryz.ntmps193 rfl (by kernel_rfl) ?_
 intro B F0 a w F hB hG hS
 replace hS:=hS.turn 1 rfl (r':=.ob (.val v) (Zw 3 1 rInt l)) (fun _ _ _ _ h=>h)
 refine wp_seq ?_
 refine Zb hS (qC qZ) hB [2,0] [1,0] rfl rfl fun a w F hS=>Za (wp_seq (wp_seq ?_))
 refine Zb hS (qM rfl rfl (qf (Z4 1 Tryz.underlying41 .is) r1 r1 (qf (Zb3 .t qi) r1 qz qZ))) hB [8,2,0] [1,0] rfl rfl fun a w F hS=>Za ?_
 refine Zd hS rfl (fun hc0=>?_) (fun hc0=>?_)
 ·skip
  have hg:(ZF l)=l:=Zd5 (by simp at hc0;omega)
  refine wp_seq ?_
  refine Zb hS (qM rfl rfl (qN rfl rfl qZ)) hB [2,0] [1,0] rfl rfl fun a w F hS=>Za (wp_ret (Zg ?_))
  have hS:=hS.turn 1 rfl (r':=RS.hp (Zw 3 1 rInt (ZF l) v)) (fun _ _ _ _ h=>by rw [hg];exact h)
  refine Zat (h':=fun v=>Zw 3 1 rInt (ZF l) v) hG hS rfl (.tmp rfl .nil) (.one .one) rfl
 have hl2:2≤l.length:=by simp at hc0;omega
 refine wp_skip (Za (wp_seq (wp_seq ?_)))
 refine Zb hS (qI qZ) hB [3,2,0] [1,0] rfl rfl fun a w F hS=>Za (wp_block ?_)
 refine Zl (σ:=Nat) [0,2] [0,1] (fun s=>[(3,.pv (.int .i64 (s:Int)))]) (fun s=>[]) (fun s=>1≤s∧s≤l.length∧ZF (l.take s)=l.take s) (fun s=>l.length - s) (1) hS ⟨rfl,rfl,rfl,trivial⟩ ⟨rfl,rfl,trivial⟩ ⟨by omega,by omega,Zd5 (by rw [List.length_take];omega)⟩ ?_
 clear hS;intro k a w F hC hS
 try dsimp only at hC
 obtain ⟨F,hS⟩:=hS.nm [3,2,0] [1,0] rfl rfl
 try dsimp only at hS
 obtain ⟨hk1,hkl,hkc⟩:=hC
 have hkw:IntKind.wrap .i64 ((k:Int) - 1)=(k:Int) - 1:=ZP (by omega)
 refine wp_seq (wp_seq ?_)
 refine Zb hS (qM rfl rfl (qM rfl rfl (qf (Z4 1 Tryz.underlying41 .is) r1 r1 (qL r2)))) hB [13,3,2,0] [1,0] rfl rfl fun a w F hS=>Za ?_
 refine Zd hS rfl (fun hc1=>?_) (fun hc1=>?_)
 ·skip
  have hil:k<l.length:=by simp at hc1;omega
  have hst:=Zdk (l:=l) hk1 hil
  have hy0:(IntKind.wrap .i64 ((k:Int) - 1)).toNat=k - 1:=by rw [hkw];omega
  refine wp_skip (Za (wp_seq (wp_block (wp_seq ?_))))
  refine ZE hS (qM rfl rfl (qM rfl rfl (qf (o_indexAddr_row (sz:=1) 1 (.mk Tryz.underlying41 (by kernel_rfl)) .is .t (by omega) (by omega) (by rfl)) r2 r1 (qf (Zah (ag:=false) (sz':=1) (sz:=1) 1 .t (by intro x;rfl) (by omega) (by kernel_rfl) (by kernel_rfl) (by kernel_rfl)) r1 r1 (qM rfl rfl (qM rfl rfl (qf (o_sub .t qi) r1 qz (qf (o_indexAddr_row (sz:=1) 1 (.mk Tryz.underlying41 (by kernel_rfl)) .is .t (by rw [hkw];omega) (by rw [hkw];omega) (by rfl)) r2 r1 (qf (Zah (ag:=false) (sz':=1) (sz:=1) 1 .t (by intro x;rfl) (by rw [hkw];omega) (by kernel_rfl) (by kernel_rfl) (by kernel_rfl)) r1 r1 (qf (o_eql .t .t) r2 qz qZ)))))))))) hB [25,3,2,0] [1,0] rfl rfl fun a w F hS=>?_
  try dsimp only [List.map,xD,xE,xT,xU,ldSF,rInt] at hS
  try simp only [Int.toNat_natCast] at hS
  refine Za ?_
  refine Zd hS rfl (fun hc2=>?_) (fun hc2=>?_)
  ·skip
   have heq:Go.Gm.nth l (k - 1)=Go.Gm.nth l k:=by rw [hy0] at hc2;simp at hc2;exact hc2.symm
   rw [if_pos heq,hkc] at hst
   have hst0:=hst.symm
   refine wp_seq ?_
   refine Zb hS (qM rfl rfl (qM rfl rfl (qf (Zaw (sz:=1) 1 (.mk Tryz.underlying41 (by kernel_rfl)) .is .t (by omega) (by omega)) r2 r1 (qN rfl rfl qZ)))) hB [4,3,2,0] [1,0] rfl rfl fun a w F hS=>Za (wp_seq (wp_seq ?_))
   refine Zb hS (qI qZ) hB [5,4,3,2,0] [1,0] rfl rfl fun a w F hS=>Za (wp_block ?_)
   have hC0:1≤1∧1≤l.length - k∧k≤k∧k≤k+1 - 1∧l.length=l.length∧l.take k=ZF (l.take (k+1)) ∧ ∀ q,k+1 - 1≤q→q<l.length→Go.Gm.nth l q=Go.Gm.nth l q:=⟨by omega,by omega,by omega,by omega,rfl,hst0,fun q _ _=>rfl⟩
   refine Zl (σ:=Nat×Nat×List Int) [0,2,4] [0] (fun s=>[(3,.pv (.int .i64 (s.1:Int))),(5,.pv (.int .i64 (s.2.1:Int)))]) (fun s=>[(1,.ob (.val v) (Zw 3 1 rInt s.2.2))]) (fun s=>1≤s.2.1∧s.2.1≤l.length - k∧k≤s.1∧s.1≤k+s.2.1 - 1∧s.2.2.length=l.length∧s.2.2.take s.1=ZF (l.take (k+s.2.1)) ∧ ∀ q,k+s.2.1 - 1≤q→q<l.length→Go.Gm.nth s.2.2 q=Go.Gm.nth l q) (fun s=>l.length - s.2.1) ((k),(1),(l)) hS ⟨rfl,rfl,rfl,rfl,rfl,trivial⟩ ⟨rfl,rfl,trivial⟩ hC0 ?_
   clear hS;intro s a w F hC hS
   obtain ⟨k1,j,l1⟩:=s
   try dsimp only at hC
   obtain ⟨F,hS⟩:=hS.nm [5,4,3,2,0] [1,0] rfl rfl
   try dsimp only at hS
   obtain ⟨hj1,hjk,hkk,hkj,hl1,htk,hrest⟩:=hC
   have hjw:IntKind.wrap .i64 ((j:Int) - 1)=(j:Int) - 1:=ZP (by omega)
   refine wp_seq (wp_seq ?_)
   refine Zb hS (qM rfl rfl (qM rfl rfl (qf (Zky 1 Tryz.underlying41 .t (by omega)) r1 r1 (qL r2)))) hB [32,5,4,3,2,0] [1,0] rfl rfl fun a w F hS=>Za ?_
   refine Zd hS rfl (fun hc3=>?_) (fun hc3=>?_)
   ·skip
    have hjl:k+j<l.length:=by simp at hc3;omega
    have hx1:(Go.Gm.nth l1 (((k:Int)).toNat+((j:Int)).toNat))=Go.Gm.nth l (k+j):=by rw [Int.toNat_natCast,Int.toNat_natCast];exact hrest _ (by omega) hjl
    have hx0:Go.Gm.nth l1 (((k:Int)).toNat+(IntKind.wrap .i64 ((j:Int) - 1)).toNat)=Go.Gm.nth l (k+j - 1):=by rw [hjw,show ((k:Int)).toNat+((j:Int) - 1).toNat=k+j - 1 by omega];exact hrest _ (by omega) (by omega)
    have hstp:=Zdk (l:=l) (p:=k+j) (by omega) hjl
    refine wp_skip (Za (wp_seq (wp_block (wp_seq ?_))))
    refine ZE hS (qM rfl rfl (qM rfl rfl (qf (o_indexAddr_sub (sz:=1) 1 (.mk Tryz.underlying41 (by kernel_rfl)) .t .t (by omega) (by omega) (by rfl)) r2 r1 (qf (Zah (ag:=false) (sz':=1) (sz:=1) 1 .t (by intro x;rfl) (by omega) (by kernel_rfl) (by kernel_rfl) (by kernel_rfl)) r1 r1 (qM rfl rfl (qM rfl rfl (qf (o_sub .t qi) r1 qz (qf (o_indexAddr_sub (sz:=1) 1 (.mk Tryz.underlying41 (by kernel_rfl)) .t .t (by rw [hjw];omega) (by rw [hjw];omega) (by rfl)) r2 r1 (qf (Zah (ag:=false) (sz':=1) (sz:=1) 1 .t (by intro x;rfl) (by rw [hjw];omega) (by kernel_rfl) (by kernel_rfl) (by kernel_rfl)) r1 r1 (qf (o_neq .t .t) r2 qz qZ)))))))))) hB [44,5,4,3,2,0] [1,0] rfl rfl fun a w F hS=>?_
    try dsimp only [List.map,xD,xE,xT,xU,ldSF,rInt] at hS
    try simp only [Int.toNat_natCast] at hS
    refine Za ?_
    refine Zd hS rfl (fun hc4=>?_) (fun hc4=>?_)
    ·skip
     have hne:¬ Go.Gm.nth l (k+j - 1)=Go.Gm.nth l (k+j):=by rw [← hx1,← hx0];simp at hc4 ⊢;exact fun e=>hc4 e.symm
     rw [if_neg hne] at hstp
     obtain ⟨i2,hi2e⟩:∃ i2,i2=k1+1:=⟨_,rfl⟩
     have hi2:IntKind.wrap .i64 ((k1:Int)+1)=(i2:Int):=by rw [hi2e];exact Ze (by omega)
     obtain ⟨l2,hl2e⟩:∃ l2,l2=l1.set k1 (Go.Gm.nth l1 (k+j)):=⟨_,rfl⟩
     have hx1b:Go.Gm.nth l1 (k+j)=Go.Gm.nth l (k+j):=hrest _ (by omega) hjl
     have hC2:1≤j+1∧j+1≤l.length - k∧k≤i2∧i2≤k+(j+1) - 1∧l2.length=l.length∧l2.take i2=ZF (l.take (k+(j+1))) ∧ ∀ q,k+(j+1) - 1≤q→q<l.length→Go.Gm.nth l2 q=Go.Gm.nth l q:=⟨by omega,by omega,by omega,by omega,by rw [hl2e,List.length_set];exact hl1,by rw [hl2e,hi2e,Zt (by rw [List.length_set];omega),List.take_set_of_le (Nat.le_refl _),htk,Zz (by rw [List.length_set];omega),List.getElem_set_self,hx1b];exact hstp.symm,fun q hq hq2=>by rw [hl2e,Zz (by rw [List.length_set];omega),List.getElem_set_ne (by omega),← Zz (by omega)];exact hrest q (by omega) hq2⟩
     refine wp_seq ?_
     refine Zb hS (qM rfl rfl (qM rfl rfl (qM rfl rfl (qM rfl rfl (qf (o_indexAddr_sub (sz:=1) 1 (.mk Tryz.underlying41 (by kernel_rfl)) .t .t (by omega) (by omega) (by rfl)) r2 r1 (qf (Zah (ag:=false) (sz':=1) (sz:=1) 1 .t (by intro x;rfl) (by omega) (by kernel_rfl) (by kernel_rfl) (by kernel_rfl)) r1 r1 (qf (o_indexAddr_row (sz:=1) 1 (.mk Tryz.underlying41 (by kernel_rfl)) .is .t (by omega) (by omega) (by rfl)) r2 r1 (qf (ZbB (R:=rInt) (sz:=1) (v:=(Go.Gm.nth l1 (((k:Int)).toNat+((j:Int)).toNat))) 1 .t (by intro x;rfl) (by omega) .t rfl one_int (by kernel_rfl)) r2 r1 qZ)))))))) hB [5,4,3,2,0] [1,0] rfl rfl fun a w F hS=>?_
     try simp only [Int.toNat_natCast] at hS
     rw [← hl2e] at hS
     refine Za ?_
     refine Zb hS (qM rfl rfl (qp r1 (qN rfl rfl qZ))) hB [5,4,3,2,0] [1,0] rfl rfl fun a w F hS=>Zi (Za ?_)
     refine Zb hS (qM rfl rfl (qp r1 (qN rfl rfl qZ))) hB [5,4,3,2,0] [1,0] rfl rfl fun a w F hS=>Za ?_
     have hmu:l.length - (j+1)<l.length - j:=by omega
     replace hS:=hS.ent (i:=3) (s':=.pv (.int .i64 (i2:Int))) rfl (.int hi2)
     replace hS:=hS.ent (i:=5) (s':=.pv (.int .i64 ((j+1:Nat):Int))) rfl (.int (Ze (by omega)))
     obtain ⟨F,hS⟩:=hS.nm [4,2,0,5,3] [0,1] rfl rfl
     exact ⟨((i2),(j+1),(l2)),F,hC2,hS,hmu⟩
    have heq2:Go.Gm.nth l (k+j - 1)=Go.Gm.nth l (k+j):=by rw [← hx1,← hx0];simp at hc4 ⊢;exact hc4.symm
    rw [if_pos heq2] at hstp
    obtain ⟨i2,hi2e⟩:∃ i2,i2=k1:=⟨_,rfl⟩
    have hi2:(k1:Int)=(i2:Int):=by rw [hi2e]
    obtain ⟨l2,hl2e⟩:∃ l2,l2=l1:=⟨_,rfl⟩
    rw [← hl2e] at hS
    have hC2:1≤j+1∧j+1≤l.length - k∧k≤i2∧i2≤k+(j+1) - 1∧l2.length=l.length∧l2.take i2=ZF (l.take (k+(j+1))) ∧ ∀ q,k+(j+1) - 1≤q→q<l.length→Go.Gm.nth l2 q=Go.Gm.nth l q:=⟨by omega,by omega,by omega,by omega,by rw [hl2e];exact hl1,by rw [hl2e,hi2e,htk];exact hstp.symm,fun q hq hq2=>by rw [hl2e];exact hrest q (by omega) hq2⟩
    refine wp_skip (Zi (Za ?_))
    refine Zb hS (qM rfl rfl (qp r1 (qN rfl rfl qZ))) hB [5,4,3,2,0] [1,0] rfl rfl fun a w F hS=>Za ?_
    have hmu:l.length - (j+1)<l.length - j:=by omega
    replace hS:=hS.ent (i:=3) (s':=.pv (.int .i64 (i2:Int))) rfl (.int hi2)
    replace hS:=hS.ent (i:=5) (s':=.pv (.int .i64 ((j+1:Nat):Int))) rfl (.int (Ze (by omega)))
    obtain ⟨F,hS⟩:=hS.nm [4,2,0,5,3] [0,1] rfl rfl
    exact ⟨((i2),(j+1),(l2)),F,hC2,hS,hmu⟩
   have hjl:k+j=l.length:=by simp at hc3;omega
   have hg:(ZF l)=(l1.take k1++List.replicate (l1.length - k1) (0:Int)).take k1:=by rw [List.take_append_of_le_length (by rw [List.length_take];omega),List.take_take,Nat.min_self,htk,hjl,List.take_length]
   refine wp_exit (Zk (Zk (Zq (Za (wp_seq ?_)))))
   refine Zb hS (qM rfl rfl (qM rfl rfl (qf (Zaw (sz:=1) 1 (.mk Tryz.underlying41 (by kernel_rfl)) .is .t (by omega) (by omega)) r2 r1 (qf (ZbT (R:=rInt) (z:=(0:Int)) (zs:=[.int .i64 0]) 1 Tryz.underlying41 (by kernel_rfl) rfl rfl (fun _ _=>⟨⟨rfl,rfl,ZhT⟩,trivial⟩) (by intro x;rfl) .t (by simp;omega)) r1 r1 qZ)))) hB [3,2,0] [1,0] rfl rfl fun a w F hS=>Za (wp_seq ?_)
   refine Zc hS (qM rfl rfl (qM rfl rfl (qf (Zch (sz:=1) 1 (.mk Tryz.underlying41 (by kernel_rfl)) (by intro x;rfl) .is .t (by omega) (by simp;omega)) r2 r1 (qN rfl rfl qZ)))) hB [3,2,0] [1,0] (fun _=>rfl) (fun _=>rfl) fun τ a w F hS=>?_
   try dsimp only [RS.sub,SF.sub,CF.sub,csub,Anc.sub,List.map,rInt] at hS
   generalize τ 59=v59 at hS
   refine Za (wp_ret (Zm (Zg (Zg (Zm (Zg ?_))))))
   have hS:=hS.turn 1 rfl (r':=RS.hp (Zw 3 1 rInt (ZF l) v59)) (fun _ _ _ _ h=>by rw [hg];exact h)
   refine Zat (h':=fun v=>Zw 3 1 rInt (ZF l) v) hG hS rfl (.tmp rfl .nil) (.one .one) rfl
  have hne:¬ Go.Gm.nth l (k - 1)=Go.Gm.nth l k:=by rw [hy0] at hc2;simp at hc2;exact fun e=>hc2 e.symm
  rw [if_neg hne] at hst
  refine wp_skip (Zi (Za ?_))
  refine Zb hS (qM rfl rfl (qp r1 (qN rfl rfl qZ))) hB [3,2,0] [1,0] rfl rfl fun a w F hS=>Za ?_
  replace hS:=hS.ent (i:=3) (s':=.pv (.int .i64 ((k+1:Nat):Int))) rfl (.int (Ze (by omega)))
  obtain ⟨F,hS⟩:=hS.nm [2,0,3] [1,0] rfl rfl
  exact ⟨(k+1),F,⟨by omega,by omega,by rw [hst,hkc,← Zt hil]⟩,hS,by omega⟩
 have hg:(ZF l)=l:=by rw [show k=l.length by simp at hc1;omega,List.take_length] at hkc;exact hkc
 refine wp_exit (Zk (Zk (Zq (Za (wp_seq ?_)))))
 refine Zb hS (qM rfl rfl (qN rfl rfl qZ)) hB [2] [1,0] rfl rfl fun a w F hS=>Za (wp_ret ?_)
 have hS:=hS.turn 1 rfl (r':=RS.hp (Zw 3 1 rInt (ZF l) v)) (fun _ _ _ _ h=>by rw [hg];exact h)
 refine Zat (h':=fun v=>Zw 3 1 rInt (ZF l) v) hG hS rfl (.tmp rfl .nil) (.one .one) rfl
def putIR (n:Int):List Int→Bool→List Int
 | [],d=>if d then [] else [n]
 | x :: l,d=>(if d=false∧n≤x then [n] else [])++(if x=n then [] else [x])++putIR n l (d || decide (n≤x))
def Zb2 (l:List Int) (n:Int):List Int:=putIR n l false
abbrev ZgQ (l:List Int):Prop:=l.Pairwise fun a b=>a<b
theorem Zd1 {n:Int} : ∀ {l:List Int},(∀ x ∈ l,n<x)→putIR n l true=l
 | [],_=>rfl
 | x :: l,h=>by
   have:=h x (by simp)
   rw [putIR,Bool.true_or,Zd1 fun y hy=>h y (by simp [hy]),if_neg (by simp),if_neg (by omega)]
   rfl
theorem ZgG {n:Int} : ∀ {l:List Int},ZgQ l→ZgQ (Zb2 l n) ∧ ∀ x,x ∈ Zb2 l n ↔ x ∈ l∨x=n
 | [],_=>by simp [Zb2,putIR]
 | y :: l,h=>by
   have h':=List.pairwise_cons.1 h
   unfold Zb2
   by_cases h1:y<n
   · have e:putIR n (y :: l) false=y :: putIR n l false:=by
       rw [putIR,if_neg (by omega),if_neg (by omega),show (false || decide (n≤y))=false by simp;omega];rfl
     have ih:=ZgG (n:=n) h'.2
     rw [e]
     refine ⟨List.pairwise_cons.2 ⟨fun p hp=>?_,ih.1⟩,fun x=>?_⟩
     · rcases (ih.2 p).1 hp with hp | rfl
       · exact h'.1 p hp
       · exact h1
     · have:=ih.2 x
       unfold Zb2 at this
       simp only [List.mem_cons,this]
       constructor
       · rintro (h | h | h)
         · exact .inl (.inl h)
         · exact .inl (.inr h)
         · exact .inr h
       · rintro ((h | h) | h)
         · exact .inl h
         · exact .inr (.inl h)
         · exact .inr (.inr h)
   · by_cases h2:y=n
     · subst h2
       rw [putIR,if_pos ⟨rfl,Int.le_refl _⟩,if_pos rfl,show (false || decide (y≤y))=true by simp,Zd1 h'.1]
       exact ⟨h,fun x=>by simp;intro e;exact .inl e⟩
     · rw [putIR,if_pos ⟨rfl,by omega⟩,if_neg h2,show (false || decide (n≤y))=true by simp;omega,Zd1 fun x hx=>by have:=h'.1 x hx;omega]
       refine ⟨List.pairwise_cons.2 ⟨fun p hp=>?_,h⟩,fun x=>by simp;constructor <;> (rintro (h | h | h) <;> simp [h])⟩
       rcases List.mem_cons.1 hp with rfl | hp
       · omega
       · have:=h'.1 p hp;omega
def ZaO (l:List Int):List Int:=l.foldl Zb2 []
theorem ZaJ (l:List Int):ZgQ (ZaO l) ∧ ∀ x,x ∈ ZaO l ↔ x ∈ l:=by
 have key:∀ (l acc:List Int),ZgQ acc→ZgQ (l.foldl Zb2 acc) ∧ ∀ x,x ∈ l.foldl Zb2 acc ↔ x ∈ acc∨x ∈ l:=by
   intro l
   induction l with
   | nil=>intro acc h;exact ⟨h,fun x=>by simp⟩
   | cons y l ih=>
     intro acc h
     have h1:=ZgG (n:=y) h
     have h2:=ih (Zb2 acc y) h1.1
     refine ⟨h2.1,fun x=>?_⟩
     rw [List.foldl_cons,h2.2 x,h1.2 x,List.mem_cons]
     constructor
     · rintro ((h | h) | h)
       · exact .inl h
       · exact .inr (.inl h)
       · exact .inr (.inr h)
     · rintro (h | h | h)
       · exact .inl (.inl h)
       · exact .inl (.inr h)
       · exact .inr h
 have:=key l [] List.Pairwise.nil
 exact ⟨this.1,fun x=>by rw [show ZaO l=l.foldl Zb2 [] from rfl,this.2 x];simp⟩
theorem ZdW:∀ {a b:List Int},ZgQ a→ZgQ b→(∀ x,x ∈ a ↔ x ∈ b)→a=b
 | [],[],_,_,_=>rfl
 | [],y :: b,_,_,h=>by have:=(h y).2 (by simp);cases this
 | x :: a,[],_,_,h=>by have:=(h x).1 (by simp);cases this
 | x :: a,y :: b,ha,hb,h=>by
   have ha':=List.pairwise_cons.1 ha
   have hb':=List.pairwise_cons.1 hb
   have e:x=y:=by
     rcases List.mem_cons.1 ((h x).1 (by simp)) with e | e
     · exact e
     · rcases List.mem_cons.1 ((h y).2 (by simp)) with e2 | e2
       · exact e2.symm
       · have:=hb'.1 x e;have:=ha'.1 y e2;omega
   subst e
   congr 1
   refine ZdW ha'.2 hb'.2 fun z=>⟨fun hz=>?_,fun hz=>?_⟩
   · rcases List.mem_cons.1 ((h z).1 (by simp [hz])) with e | e
     · have:=ha'.1 z hz;omega
     · exact e
   · rcases List.mem_cons.1 ((h z).2 (by simp [hz])) with e | e
     · have:=hb'.1 z hz;omega
     · exact e
def ZaC:List Int→List Int
 | []=>[]
 | x :: l=>match ZaC l with
   | []=>[x]
   | y :: m=>if x=y then y :: m else x :: y :: m
theorem Zdu:∀ (x:Int) (l:List Int),∃ m,ZaC (x :: l)=x :: m
 | x,[]=>⟨[],rfl⟩
 | x,y :: l=>by
   obtain ⟨m,hm⟩:=Zdu y l
   unfold ZaC
   rw [hm]
   by_cases h:x=y
   · subst h;exact ⟨m,if_pos rfl⟩
   · exact ⟨y :: m,if_neg h⟩
theorem Zdm (x y:Int) (l:List Int):ZaC (x :: y :: l)=if x=y then ZaC (y :: l) else x :: ZaC (y :: l):=by
 obtain ⟨m,hm⟩:=Zdu y l
 conv=>lhs;unfold ZaC
 rw [hm]
theorem Zcn:∀ {l:List Int},l.Pairwise (fun a b=>a≤b)→ZgQ (ZaC l) ∧ ∀ x,x ∈ ZaC l ↔ x ∈ l
 | [],_=>by simp [ZaC]
 | [x],_=>by simp [ZaC]
 | x :: y :: l,h=>by
   have h':=List.pairwise_cons.1 h
   have ih:=Zcn h'.2
   rw [Zdm]
   split
   · rename_i e
     subst e
     exact ⟨ih.1,fun z=>by rw [ih.2 z];simp⟩
   · rename_i e
     refine ⟨List.pairwise_cons.2 ⟨fun z hz=>?_,ih.1⟩,fun z=>by rw [List.mem_cons,ih.2 z,← List.mem_cons]⟩
     have h1:=h'.1 y (by simp)
     rcases List.mem_cons.1 ((ih.2 z).1 hz) with rfl | hz2
     · omega
     · have:=(List.pairwise_cons.1 h'.2).1 z hz2
       omega
theorem ZlF (l:List Int):List.Pairwise (fun x y=>x≤y) (l.mergeSort leI):=by
 have:=List.pairwise_mergeSort (le:=leI) (fun a b c h1 h2=>by simp [leI] at *;omega) (fun a b=>by simp [leI];omega) l
 exact this.imp fun h=>by simpa [leI] using h
theorem Zii (l:List Int):ZaC (l.mergeSort leI)=ZaO l:=
 ZdW (Zcn (ZlF l)).1 (ZaJ l).1 fun x=>by rw [(Zcn (ZlF l)).2,(ZaJ l).2];exact (List.mergeSort_perm l leI).mem_iff
theorem ZfW:∀ l:List Int,ZF l=ZaC l
 | []=>rfl
 | [x]=>rfl
 | x :: y :: l=>by
   rw [Zdm,← ZfW (y :: l)];rfl
theorem Zeo {n x:Int} {l out r:List Int} {d:Bool} (hA:d=false∧n≤x) (hB:¬ x=n) (h:out++putIR n (x :: l) d=r):out ++ [n] ++ [x] ++ putIR n l true=r:=by
 rw [← h,putIR,if_pos hA,if_neg hB];simp [hA.2]
theorem Zey {n x:Int} {l out r:List Int} {d:Bool} (hA:d=false∧n≤x) (hB:x=n) (h:out++putIR n (x :: l) d=r):out ++ [n] ++ putIR n l true=r:=by
 rw [← h,putIR,if_pos hA,if_pos hB];simp [hA.2]
theorem Zk3 {n x:Int} {d:Bool} (hA:¬ (d=false∧n≤x)):(d || decide (n≤x))=d:=by
 cases d
 · simp at hA ⊢;omega
 · rfl
theorem Zeq {n x:Int} {l out r:List Int} {d:Bool} (hA:¬ (d=false∧n≤x)) (hB:¬ x=n) (h:out++putIR n (x :: l) d=r):out ++ [x] ++ putIR n l d=r:=by
 rw [← h,putIR,if_neg hA,if_neg hB,Zk3 hA];simp
theorem Zel {n x:Int} {l out r:List Int} {d:Bool} (hA:¬ (d=false∧n≤x)) (hB:x=n) (h:out++putIR n (x :: l) d=r):out++putIR n l d=r:=by
 rw [← h,putIR,if_neg hA,if_pos hB,Zk3 hA];simp
theorem Zdr {n:Int} : ∀ (l:List Int) (d:Bool),(putIR n l d).length≤l.length+1
 | [],d=>by cases d <;> simp [putIR]
 | x :: l,d=>by
   have h1:=Zdr (n:=n) l (d || decide (n≤x))
   have h2:∀ l:List Int,(putIR n l true).length≤l.length:=fun l=>by
     induction l with
     | nil=>simp [putIR]
     | cons y l ih=>
       rw [putIR,if_neg (by simp),List.length_append,List.length_append,Bool.true_or]
       split <;> simp <;> omega
   rw [putIR,List.length_append,List.length_append]
   have h3:=h2 l
   by_cases hA:d=false∧n≤x
   · rw [show (d || decide (n≤x))=true by simp [hA.2],if_pos hA]
     split <;> simp <;> omega
   · rw [if_neg hA]
     split <;> simp <;> omega
theorem Zkc (l:List Int) (n:Int) (hl:l.length≤1000000):FnP Tryz.prog 111 [.sl rInt l,.int .i64 n] (.sl rInt (Zb2 l n)):=by
 refine FnP.mk Tryz.func111 rfl Tryz.ntmps111 rfl ?_
 intro B a w F hB hfr hS
 have hll:=Sat.lenSl hS (i:=0) rfl
 refine wp_seq ?_
 refine Zb hS (qC qZ) hB [4,1,0] [0] rfl rfl fun a w F hS=>Za (wp_seq ?_)
 refine Zb hS (qC qZ) hB [5,4,1,0] [0] rfl rfl fun a w F hS=>Za (wp_seq ?_)
 refine Zb hS qB hB [6,5,4,1,0] [0] rfl rfl fun a w F hS=>Za (wp_seq (wp_seq ?_))
 refine Zb hS (qM rfl rfl (qu Tryz.underlying41 r1 (qJ qZ))) hB [11,10,9,6,5,4,1] [0] rfl rfl fun a w F hS=>Za (wp_block ?_)
 replace hS:=hS.fresh 50 rfl
 replace hS:=hS.turn 50 rfl (Zaf (T:=3) (sz:=1) (R:=rInt))
 refine Zl (σ:=(Nat)×(Bool)×(Value)×(List Int)) [1,4,9,10] [0] (fun s=>[(11,.pv (.int .i64 (s.1:Int))),(6,.pv (.bool s.2.1)),(5,.pv (.is s.2.2.1))]) (fun s=>[(50,.ob (.val s.2.2.1) (Zw 3 1 rInt s.2.2.2))]) (fun s=>s.1≤l.length∧(s.2.2.2++putIR n (l.drop s.1) s.2.1=Zb2 l n)) (fun s=>l.length - s.1) ((0),_,(.slice none 0 0),([])) hS ⟨rfl,rfl,rfl,rfl,rfl,rfl,rfl,trivial⟩ ⟨rfl,rfl,trivial⟩ ⟨Nat.zero_le _,rfl⟩ ?_
 clear hS;intro s a w F hC hS
 obtain ⟨i,d,v,out⟩:=s
 try dsimp only at hC
 obtain ⟨F,hS⟩:=hS.nm [11,10,9,6,5,4,1] [50,0] rfl rfl
 try dsimp only at hS
 obtain ⟨hi,hq⟩:=hC
 have hol:=congrArg List.length hq
 rw [List.length_append] at hol
 have htl:(Zb2 l n).length≤l.length+1:=Zdr l false
 refine wp_seq ?_
 refine Zb hS (qL r2) hB [12,11,10,9,6,5,4,1] [50,0] rfl rfl fun a w F hS=>Za (wp_seq ?_)
 refine Zd hS rfl (fun hc0=>?_) (fun hc0=>?_)
 ·skip
  have hil:i<l.length:=by simp at hc0;omega
  refine wp_skip (Za (wp_seq (wp_block (wp_seq ?_))))
  refine Zb hS (qy 1 Tryz.underlying41 r2 (qf (oR false 1 .t) r1 qz (qN rfl rfl qZ))) hB [11,10,9,8,6,5,4,1] [50,0] rfl rfl fun a w F hS=>?_
  try simp only [Int.toNat_natCast] at hS
  refine Za (wp_seq (wp_seq ?_))
  refine Zb hS (qM rfl rfl (qf (o_not .t) r1 qz (qM rfl rfl (qm rfl rfl rfl rfl (qm rfl rfl rfl rfl (qk rfl (fun h=>ZbF (.w h) (.w h)) r3 qz (qf (Zy .t .t) r2 qz qZ))))))) hB [21,11,10,9,8,6,5,4,1] [50,0] rfl rfl fun a w F hS=>Za ?_
  refine Zd hS rfl (fun hc1=>?_) (fun hc1=>?_)
  ·skip
   have hA:d=false∧n≤Go.Gm.nth l i:=by simpa using hc1
   refine wp_seq ?_
   refine Zc hS (qM rfl rfl (qM rfl rfl (qf (Zh (sz:=1) (zs:=[.int .i64 0]) (r:=[(0,.tmp 23)]) (l:=[_]) Tryz.underlying41 (by kernel_rfl) (by kernel_rfl) (by kernel_rfl) (by kernel_rfl) rfl rfl (.one rfl .t one_int (by kernel_rfl) .nil) rfl) r1 qz (qf (o_append (sz:=1) (bs:=8) 50 (.mk' Tryz.underlying41 (by kernel_rfl) (by kernel_rfl)) (by intro x;rfl) .is (.arr (l':=[n]) .t) (by simp only [List.length_append,List.length_cons,List.length_nil];omega) (by decide)) ⟨rfl,rfl,trivial⟩ ⟨rfl,trivial⟩ (qN rfl rfl qZ))))) hB [11,10,9,8,6,5,4,1] [50,0] (fun _=>rfl) (fun _=>rfl) fun τ a w F hS=>?_
   try dsimp only [RS.sub,SF.sub,CF.sub,csub,Anc.sub,List.map,Zf,xL,xM,Nat.reduceAdd,xD,xE,xT,xU,xC,xN,zCF,rInt] at hS
   generalize τ 25=v25 at hS
   refine Za ?_
   refine Zb hS qB hB [11,10,9,8,6,5,4,1] [50,0] rfl rfl fun a w F hS=>Za (wp_seq ?_)
   refine Zb hS (qM rfl rfl (qM rfl rfl (qf (o_neq .t .t) r2 qz qZ))) hB [28,11,10,9,8,6,5,4,1] [50,0] rfl rfl fun a w F hS=>Za ?_
   refine Zd hS rfl (fun hc2=>?_) (fun hc2=>?_)
   ·skip
    have hBq:¬ Go.Gm.nth l i=n:=by simpa using hc2
    refine Zc hS (qM rfl rfl (qM rfl rfl (qf (Zh (sz:=1) (zs:=[.int .i64 0]) (r:=[(0,.tmp 30)]) (l:=[_]) Tryz.underlying41 (by kernel_rfl) (by kernel_rfl) (by kernel_rfl) (by kernel_rfl) rfl rfl (.one rfl .t one_int (by kernel_rfl) .nil) rfl) r1 qz (qf (o_append (sz:=1) (bs:=8) 50 (.mk' Tryz.underlying41 (by kernel_rfl) (by kernel_rfl)) (by intro x;rfl) .is (.arr (l':=[Go.Gm.nth l i]) .t) (by simp only [List.length_append,List.length_cons,List.length_nil];omega) (by decide)) ⟨rfl,rfl,trivial⟩ ⟨rfl,trivial⟩ (qN rfl rfl qZ))))) hB [11,10,9,6,5,4,1] [50,0] (fun _=>rfl) (fun _=>rfl) fun τ a w F hS=>?_
    try dsimp only [RS.sub,SF.sub,CF.sub,csub,Anc.sub,List.map,Zf,xL,xM,Nat.reduceAdd,xD,xE,xT,xU,xC,xN,zCF,rInt] at hS
    generalize τ 32=v32 at hS
    refine Zi (Za ?_)
    refine Zb hS (qp r1 (qM rfl rfl qZ)) hB [11,10,9,6,5,4,1] [50,0] rfl rfl fun a w F hS=>Za ?_
    replace hS:=hS.ent (i:=11) (s':=.pv (.int .i64 ((i+1:Nat):Int))) rfl (.int (Ze (by omega)))
    obtain ⟨F,hS⟩:=hS.nm [10,9,4,1,5,6,11] [0,50] rfl rfl
    exact ⟨((i+1),_,_,_),F,⟨by omega,(by rw [ZZ hil] at hq;first | exact Zeo hA hBq hq | exact Zey hA hBq hq | exact Zeq hA hBq hq | exact Zel hA hBq hq)⟩,hS,by omega⟩
   have hBq:Go.Gm.nth l i=n:=by simpa using hc2
   refine wp_skip (Zi (Za ?_))
   refine Zb hS (qp r1 (qM rfl rfl qZ)) hB [11,10,9,6,5,4,1] [50,0] rfl rfl fun a w F hS=>Za ?_
   replace hS:=hS.ent (i:=11) (s':=.pv (.int .i64 ((i+1:Nat):Int))) rfl (.int (Ze (by omega)))
   obtain ⟨F,hS⟩:=hS.nm [10,9,4,1,5,6,11] [0,50] rfl rfl
   exact ⟨((i+1),_,_,_),F,⟨by omega,(by rw [ZZ hil] at hq;first | exact Zeo hA hBq hq | exact Zey hA hBq hq | exact Zeq hA hBq hq | exact Zel hA hBq hq)⟩,hS,by omega⟩
  have hA:¬ (d=false∧n≤Go.Gm.nth l i):=by rintro ⟨h1,h2⟩;subst h1;simp at hc1;omega
  refine wp_skip (Za (wp_seq ?_))
  refine Zb hS (qM rfl rfl (qM rfl rfl (qf (o_neq .t .t) r2 qz qZ))) hB [28,11,10,9,8,6,5,4,1] [50,0] rfl rfl fun a w F hS=>Za ?_
  refine Zd hS rfl (fun hc3=>?_) (fun hc3=>?_)
  ·skip
   have hBq:¬ Go.Gm.nth l i=n:=by simpa using hc3
   refine Zc hS (qM rfl rfl (qM rfl rfl (qf (Zh (sz:=1) (zs:=[.int .i64 0]) (r:=[(0,.tmp 30)]) (l:=[_]) Tryz.underlying41 (by kernel_rfl) (by kernel_rfl) (by kernel_rfl) (by kernel_rfl) rfl rfl (.one rfl .t one_int (by kernel_rfl) .nil) rfl) r1 qz (qf (o_append (sz:=1) (bs:=8) 50 (.mk' Tryz.underlying41 (by kernel_rfl) (by kernel_rfl)) (by intro x;rfl) .is (.arr (l':=[Go.Gm.nth l i]) .t) (by simp only [List.length_append,List.length_cons,List.length_nil];omega) (by decide)) ⟨rfl,rfl,trivial⟩ ⟨rfl,trivial⟩ (qN rfl rfl qZ))))) hB [11,10,9,6,5,4,1] [50,0] (fun _=>rfl) (fun _=>rfl) fun τ a w F hS=>?_
   try dsimp only [RS.sub,SF.sub,CF.sub,csub,Anc.sub,List.map,Zf,xL,xM,Nat.reduceAdd,xD,xE,xT,xU,xC,xN,zCF,rInt] at hS
   generalize τ 32=v32 at hS
   refine Zi (Za ?_)
   refine Zb hS (qp r1 (qM rfl rfl qZ)) hB [11,10,9,6,5,4,1] [50,0] rfl rfl fun a w F hS=>Za ?_
   replace hS:=hS.ent (i:=11) (s':=.pv (.int .i64 ((i+1:Nat):Int))) rfl (.int (Ze (by omega)))
   obtain ⟨F,hS⟩:=hS.nm [10,9,4,1,5,6,11] [0,50] rfl rfl
   exact ⟨((i+1),_,_,_),F,⟨by omega,(by rw [ZZ hil] at hq;first | exact Zeo hA hBq hq | exact Zey hA hBq hq | exact Zeq hA hBq hq | exact Zel hA hBq hq)⟩,hS,by omega⟩
  have hBq:Go.Gm.nth l i=n:=by simpa using hc3
  refine wp_skip (Zi (Za ?_))
  refine Zb hS (qp r1 (qM rfl rfl qZ)) hB [11,10,9,6,5,4,1] [50,0] rfl rfl fun a w F hS=>Za ?_
  replace hS:=hS.ent (i:=11) (s':=.pv (.int .i64 ((i+1:Nat):Int))) rfl (.int (Ze (by omega)))
  obtain ⟨F,hS⟩:=hS.nm [10,9,4,1,5,6,11] [0,50] rfl rfl
  exact ⟨((i+1),_,_,_),F,⟨by omega,(by rw [ZZ hil] at hq;first | exact Zeo hA hBq hq | exact Zey hA hBq hq | exact Zeq hA hBq hq | exact Zel hA hBq hq)⟩,hS,by omega⟩
 have hil:i=l.length:=by simp at hc0;omega
 refine wp_exit (Zk (Zk (Zq (Za (wp_seq (wp_seq ?_))))))
 refine Zb hS (qM rfl rfl (qf (o_not .t) r1 qz qZ)) hB [35,5,4,1] [50,0] rfl rfl fun a w F hS=>Za ?_
 refine Zd hS rfl (fun hc4=>?_) (fun hc4=>?_)
 ·skip
  have hfin:out ++ [n] = Zb2 l n:=by rw [hil,List.drop_length] at hq;cases d with | true=>simp at hc4 | false=>exact hq
  refine Zc hS (qM rfl rfl (qM rfl rfl (qf (Zh (sz:=1) (zs:=[.int .i64 0]) (r:=[(0,.tmp 37)]) (l:=[_]) Tryz.underlying41 (by kernel_rfl) (by kernel_rfl) (by kernel_rfl) (by kernel_rfl) rfl rfl (.one rfl .t one_int (by kernel_rfl) .nil) rfl) r1 qz (qf (o_append (sz:=1) (bs:=8) 50 (.mk' Tryz.underlying41 (by kernel_rfl) (by kernel_rfl)) (by intro x;rfl) .is (.arr (l':=[n]) .t) (by simp only [List.length_append,List.length_cons,List.length_nil];omega) (by decide)) ⟨rfl,rfl,trivial⟩ ⟨rfl,trivial⟩ (qN rfl rfl qZ))))) hB [5,4] [50,0] (fun _=>rfl) (fun _=>rfl) fun τ a w F hS=>?_
  try dsimp only [RS.sub,SF.sub,CF.sub,csub,Anc.sub,List.map,Zf,xL,xM,Nat.reduceAdd,xD,xE,xT,xU,xC,xN,zCF,rInt] at hS
  generalize τ 39=v39 at hS
  refine Za (wp_seq ?_)
  refine Zb hS (qM rfl rfl (qN rfl rfl qZ)) hB [4] [50,0] rfl rfl fun a w F hS=>Za (wp_ret ?_)
  obtain ⟨F,hS⟩:=hS.give 50 4 rfl rfl
  refine Zr hfr hS rfl rfl rfl (.sl hfin)
 have hfin:out=Zb2 l n:=by rw [hil,List.drop_length] at hq;cases d with | false=>simp at hc4 | true=>simpa [putIR] using hq
 refine wp_skip (Za (wp_seq ?_))
 refine Zb hS (qM rfl rfl (qN rfl rfl qZ)) hB [4] [50,0] rfl rfl fun a w F hS=>Za (wp_ret ?_)
 obtain ⟨F,hS⟩:=hS.give 50 4 rfl rfl
 refine Zr hfr hS rfl rfl rfl (.sl hfin)
structure OpD where
 read:Bool
 key:Int
 tx:Int
 nth:Int
 deriving DecidableEq,Inhabited
structure TxD where
 id:Int
 done:Bool
 ops:List OpD
 deriving DecidableEq,Inhabited
structure OrdD where
 key:Int
 txs:List Int
 deriving DecidableEq,Inhabited
structure Zn where
 txs:List TxD
 orders:List OrdD
 deriving DecidableEq,Inhabited
structure Zip where
 was:List TxD
 now:List TxD
 old:List OrdD
 new:List OrdD
 deriving DecidableEq,Inhabited
def rOp (o:OpD):List PV:=[.bool o.read,.int .i64 o.key,.int .i64 o.tx,.int .i64 o.nth]
def rTx (t:TxD):List PV:=[.int .i64 t.id,.bool t.done,.sl rOp t.ops]
def Zs (o:OrdD):List PV:=[.int .i64 o.key,.sl rInt o.txs]
def Zj (h:Zn):List PV:=[.sl rTx h.txs,.sl Zs h.orders]
theorem ZmP {u v:OpD} (h:(!((u.read == v.read) && (decide (u.key=v.key) && (decide (u.tx=v.tx) && (decide (u.nth=v.nth) && true)))))=false):u=v:=by
 cases u;cases v
 simp at h
 simp [h]
theorem ZjB (x y:List Int):FnP Tryz.prog 51 [.sl rInt x,.sl rInt y] (.bool (decide (x=y))):=by
 refine FnP.mk Tryz.func51 rfl Tryz.ntmps51 rfl ?_
 intro B a w F hB hfr hS
 have hxl:=Sat.lenSl hS (i:=0) rfl
 refine wp_seq ?_
 refine Zb hS qB hB [4,1,0] [0] rfl rfl fun a w F hS=>Za (wp_seq (wp_seq ?_))
 refine Zb hS (qM rfl rfl (qu Tryz.underlying41 r1 (qM rfl rfl (qu Tryz.underlying41 r1 (qf (o_neq .t .t) r2 qz qZ))))) hB [10,4,1,0] [0] rfl rfl fun a w F hS=>Za ?_
 refine Zd hS rfl (fun hc0=>?_) (fun hc0=>?_)
 ·skip
  have hg:false=decide (x=y):=by
    rw [eq_comm,decide_eq_false_iff_not]
    intro h
    subst h
    simp at hc0
  refine wp_seq ?_
  refine Zb hS qB hB [4,1,0] [0] rfl rfl fun a w F hS=>Za (wp_ret (Zg ?_))
  refine Zr hfr hS rfl rfl rfl (.bool hg)
 have hl:x.length=y.length:=by simp at hc0;omega
 refine wp_skip (Za (wp_seq (wp_seq ?_)))
 refine Zb hS (qM rfl rfl (qu Tryz.underlying41 r1 (qJ qZ))) hB [13,12,4,1,0] [0] rfl rfl fun a w F hS=>Za (wp_block ?_)
 obtain ⟨F,hS⟩:=hS.nm [13,12,1,0] [0] rfl rfl
 refine Zbe (σ:=Nat) (fun s=>(⟨[(0,.pv (.sl rInt x)),(1,.pv (.sl rInt y)),(12,.pv (.int .i64 x.length)),(13,.pv (.int .i64 s))],[(0,frame B)]⟩:En)) (fun s=>s≤x.length ∧ ∀ j,j<s→Go.Gm.nth x j=Go.Gm.nth y j) (fun s=>x.length - s) 0 hS ⟨Nat.zero_le _,fun j hj=>absurd hj (Nat.not_lt_zero j)⟩ ?_
 clear hS;intro i a w F hC hS
 try dsimp only at hC
 try dsimp only at hS
 obtain ⟨hi,hq⟩:=hC
 refine wp_seq ?_
 refine Zb hS (qL r2) hB [14,13,12,1,0] [0] rfl rfl fun a w F hS=>Za (wp_seq ?_)
 refine Zd hS rfl (fun hc1=>?_) (fun hc1=>?_)
 ·skip
  have hil:i<x.length:=by simp at hc1;omega
  refine wp_skip (Za (wp_seq (wp_block (wp_seq ?_))))
  refine Zb hS (qM rfl rfl (qN rfl rfl qZ)) hB [13,12,5,1,0] [0] rfl rfl fun a w F hS=>Za (wp_seq ?_)
  refine ZE hS (qM rfl rfl (qM rfl rfl (qy 1 Tryz.underlying41 r2 (qf (oR false 1 .t) r1 qz (qM rfl rfl (qM rfl rfl (qy 1 Tryz.underlying41 r2 (qf (oR false 1 .t) r1 qz (qf (o_neq .t .t) r2 qz qZ))))))))) hB [24,13,12,1,0] [0] rfl rfl fun a w F hS=>?_
  try dsimp only [List.map,xD,xE,xT,xU,ldSF] at hS
  refine Za ?_
  refine Zd hS rfl (fun hc2=>?_) (fun hc2=>?_)
  ·skip
   have hg:false=decide (x=y):=by
     rw [eq_comm,decide_eq_false_iff_not]
     intro h
     subst h
     simp at hc2
   refine wp_seq ?_
   refine Zb hS qB hB [13,12,4,1,0] [0] rfl rfl fun a w F hS=>Za (wp_ret (Zm (Zg (Zg (Zm (Zg ?_))))))
   refine Zr hfr hS rfl rfl rfl (.bool hg)
  rw [Int.toNat_natCast] at hc2
  have hqi:Go.Gm.nth x i=Go.Gm.nth y i:=by simpa using hc2
  refine wp_skip (Zi (Za ?_))
  refine Zb hS (qp r1 (qM rfl rfl qZ)) hB [13,12,1,0] [0] rfl rfl fun a w F hS=>Za ?_
  replace hS:=hS.ent (i:=13) (s':=.pv (.int .i64 ((i+1:Nat):Int))) rfl (.int (Ze (by omega)))
  obtain ⟨F,hS⟩:=hS.nm [13,12,1,0] [0] rfl rfl
  exact ⟨i+1,F,⟨by omega,fun j hj=>by rcases Nat.lt_or_eq_of_le (Nat.le_of_lt_succ hj) with h | h;exact hq j h;rw [h];exact hqi⟩,hS,by omega⟩
 have hg:true=decide (x=y):=by
   rw [eq_comm,decide_eq_true_eq]
   exact Zbm hl fun j hj=>hq j (by simp at hc1;omega)
 refine wp_exit (Zk (Zk (Zq (Za (wp_seq ?_)))))
 refine Zb hS qB hB [4] [0] rfl rfl fun a w F hS=>Za (wp_ret ?_)
 refine Zr hfr hS rfl rfl rfl (.bool hg)
theorem ZhI (x y:List OpD):FnP Tryz.prog 96 [.sl rOp x,.sl rOp y] (.bool (decide (x=y))):=by
 refine FnP.mk Tryz.func96 rfl Tryz.ntmps96 rfl ?_
 intro B a w F hB hfr hS
 have hxl:=Sat.lenSl hS (i:=0) rfl
 refine wp_seq ?_
 refine Zb hS qB hB [4,1,0] [0] rfl rfl fun a w F hS=>Za (wp_seq (wp_seq ?_))
 refine Zb hS (qM rfl rfl (qu Tryz.underlying38 r1 (qM rfl rfl (qu Tryz.underlying38 r1 (qf (o_neq .t .t) r2 qz qZ))))) hB [10,4,1,0] [0] rfl rfl fun a w F hS=>Za ?_
 refine Zd hS rfl (fun hc0=>?_) (fun hc0=>?_)
 ·skip
  have hg:false=decide (x=y):=by
    rw [eq_comm,decide_eq_false_iff_not]
    intro h
    subst h
    simp at hc0
  refine wp_seq ?_
  refine Zb hS qB hB [4,1,0] [0] rfl rfl fun a w F hS=>Za (wp_ret (Zg ?_))
  refine Zr hfr hS rfl rfl rfl (.bool hg)
 have hl:x.length=y.length:=by simp at hc0;omega
 refine wp_skip (Za (wp_seq (wp_seq ?_)))
 refine Zb hS (qM rfl rfl (qu Tryz.underlying38 r1 (qJ qZ))) hB [13,12,4,1,0] [0] rfl rfl fun a w F hS=>Za (wp_block ?_)
 obtain ⟨F,hS⟩:=hS.nm [13,12,1,0] [0] rfl rfl
 refine Zbe (σ:=Nat) (fun s=>(⟨[(0,.pv (.sl rOp x)),(1,.pv (.sl rOp y)),(12,.pv (.int .i64 x.length)),(13,.pv (.int .i64 s))],[(0,frame B)]⟩:En)) (fun s=>s≤x.length ∧ ∀ j,j<s→Go.Gm.nth x j=Go.Gm.nth y j) (fun s=>x.length - s) 0 hS ⟨Nat.zero_le _,fun j hj=>absurd hj (Nat.not_lt_zero j)⟩ ?_
 clear hS;intro i a w F hC hS
 try dsimp only at hC
 try dsimp only at hS
 obtain ⟨hi,hq⟩:=hC
 refine wp_seq ?_
 refine Zb hS (qL r2) hB [14,13,12,1,0] [0] rfl rfl fun a w F hS=>Za (wp_seq ?_)
 refine Zd hS rfl (fun hc1=>?_) (fun hc1=>?_)
 ·skip
  have hil:i<x.length:=by simp at hc1;omega
  refine wp_skip (Za (wp_seq (wp_block (wp_seq ?_))))
  refine Zb hS (qM rfl rfl (qN rfl rfl qZ)) hB [13,12,5,1,0] [0] rfl rfl fun a w F hS=>Za (wp_seq ?_)
  refine ZE hS (qM rfl rfl (qM rfl rfl (qy 4 Tryz.underlying38 r2 (qf (oR true 4 .t) r1 qz (qM rfl rfl (qM rfl rfl (qy 4 Tryz.underlying38 r2 (qf (oR true 4 .t) r1 qz (qf (Zlh (ks:=[false,true,true,true]) (by kernel_rfl) .t .t (.bool (.int (.int (.int .nil))))) r2 qz qZ))))))))) hB [24,13,12,1,0] [0] rfl rfl fun a w F hS=>?_
  try dsimp only [List.map,xD,xE,xT,xU,ldSF] at hS
  refine Za ?_
  refine Zd hS rfl (fun hc2=>?_) (fun hc2=>?_)
  ·skip
   have hg:false=decide (x=y):=by
     rw [eq_comm,decide_eq_false_iff_not]
     intro h
     subst h
     simp at hc2
   refine wp_seq ?_
   refine Zb hS qB hB [13,12,4,1,0] [0] rfl rfl fun a w F hS=>Za (wp_ret (Zm (Zg (Zg (Zm (Zg ?_))))))
   refine Zr hfr hS rfl rfl rfl (.bool hg)
  rw [Int.toNat_natCast] at hc2
  have hqi:Go.Gm.nth x i=Go.Gm.nth y i:=ZmP hc2
  refine wp_skip (Zi (Za ?_))
  refine Zb hS (qp r1 (qM rfl rfl qZ)) hB [13,12,1,0] [0] rfl rfl fun a w F hS=>Za ?_
  replace hS:=hS.ent (i:=13) (s':=.pv (.int .i64 ((i+1:Nat):Int))) rfl (.int (Ze (by omega)))
  obtain ⟨F,hS⟩:=hS.nm [13,12,1,0] [0] rfl rfl
  exact ⟨i+1,F,⟨by omega,fun j hj=>by rcases Nat.lt_or_eq_of_le (Nat.le_of_lt_succ hj) with h | h;exact hq j h;rw [h];exact hqi⟩,hS,by omega⟩
 have hg:true=decide (x=y):=by
   rw [eq_comm,decide_eq_true_eq]
   exact Zbm hl fun j hj=>hq j (by simp at hc1;omega)
 refine wp_exit (Zk (Zk (Zq (Za (wp_seq ?_)))))
 refine Zb hS qB hB [4] [0] rfl rfl fun a w F hS=>Za (wp_ret ?_)
 refine Zr hfr hS rfl rfl rfl (.bool hg)
theorem Zcw (l:List OpD) (hl:l.length≤1000000):FnG Tryz.prog 49 1 [.sl rOp l] [.star []] (PV.one) (fun v=>[Zw 59 4 rOp l v]):=by
 refine FnG.mk Tryz.func49 rfl Tryz.ntmps49 rfl (by kernel_rfl) ?_
 intro B F0 a w F hB hG hS
 obtain ⟨F,hS⟩:=hS.nm [0] [0] rfl rfl
 refine wp_seq ?_
 refine Zb hS (qC qZ) hB [2,0] [0] rfl rfl fun a w F hS=>Za (wp_seq (wp_seq ?_))
 refine Zb hS (qM rfl rfl (qf (Zc9 Tryz.underlying38 .t) r1 qz qZ)) hB [4,2,0] [0] rfl rfl fun a w F hS=>?_
 obtain ⟨β4,hβ4,hS⟩:=hS.pickBool 4 rfl
 obtain ⟨F,hS⟩:=hS.nm [4,2,0] [0] rfl rfl
 refine Za ?_
 refine Zd hS rfl (fun hc0=>?_) (fun hc0=>?_)
 ·skip
  have hg:l = []:=hβ4 hc0
  refine wp_seq ?_
  refine Zb hS (qC qZ) hB [2,0] [0] rfl rfl fun a w F hS=>Za (wp_ret (Zg ?_))
  have hS:=hS.fresh 1 rfl
  have hS:=hS.turn 1 rfl (Zaf (T:=59) (sz:=4) (R:=rOp))
  have hS:=hS.turn 1 rfl (r':=RS.hp (Zw 59 4 rOp l (.slice none 0 0))) (fun _ _ _ _ h=>by rw [hg];exact h)
  refine Zat (h':=fun v=>Zw 59 4 rOp l v) hG hS rfl (.tmp rfl .nil) (.one .one) rfl
 have hg:l = [] ++ l:=rfl
 refine wp_skip (Za (wp_seq ?_))
 refine Zc hS (qf (ZaB (R:=rOp) (sz:=4) 101 Tryz.underlying38 (by kernel_rfl)) trivial qz (qM rfl rfl (qf (o_append (sz:=4) (bs:=32) 101 (.mk' Tryz.underlying38 (by kernel_rfl) (by kernel_rfl)) (by intro x;rfl) .same (.sl .t) (by simp only [List.length_append,List.length_nil];omega) (by decide)) ⟨rfl,rfl,trivial⟩ ⟨rfl,trivial⟩ (qN rfl rfl qZ)))) hB [2] [101,0] (fun _=>rfl) (fun _=>rfl) fun τ a w F hS=>?_
 try dsimp only [RS.sub,SF.sub,CF.sub,csub,Anc.sub,List.map,Zf,xL,xM,Nat.reduceAdd,xD,xE,xT,xU,xC,xN,zCF,rOp] at hS
 generalize τ 7=v7 at hS
 refine Za (wp_ret ?_)
 obtain ⟨F,hS⟩:=hS.rename 101 1 rfl rfl
 have hS:=hS.turn 1 rfl (r':=RS.hp (Zw 59 4 rOp l v7)) (fun _ _ _ _ h=>by rw [hg];exact h)
 refine Zat (h':=fun v=>Zw 59 4 rOp l v) hG hS rfl (.tmp rfl .nil) (.one .one) rfl
theorem Zki (l : List OpD) (p : OpD → Bool) (f : FuncId) (fn : Func) (cps : List PV) (hf : Tryz.prog.funcs[f]? = some fn) (hb : fn.body.isSome = true) (hnn : (fn.name == "runtime.NumGoroutine") = false) (hw : ∀ x, FnP Tryz.prog f (.agg (rOp x) :: cps) (.bool (p x))) : FnP Tryz.prog 166 [.sl rOp l, .clos f cps] (.int .i64 (Z5 p l)) := by
 refine FnP.mk Tryz.func166 rfl Tryz.ntmps166 rfl ?_
 intro B a w F hB hfr hS
 have hll:=Sat.lenSl hS (i:=0) rfl
 refine wp_seq ?_
 refine Zb hS (qI qZ) hB [4,1,0] [0] rfl rfl fun a w F hS=>Za (wp_seq (wp_seq ?_))
 refine Zb hS (qM rfl rfl (qu Tryz.underlying38 r1 (qJ qZ))) hB [8,7,4,1,0] [0] rfl rfl fun a w F hS=>Za (wp_block ?_)
 refine Zl (σ:=(Nat)) [0,1,4,7] [0] (fun s=>[(8,.pv (.int .i64 (s:Int)))]) (fun s=>[]) (fun s=>s≤l.length∧(∀ k,k<s→p (Go.Gm.nth l k)=false)) (fun s=>l.length - s) (0) hS ⟨rfl,rfl,rfl,rfl,rfl,trivial⟩ ⟨rfl,trivial⟩ ⟨Nat.zero_le _,fun k hk=>absurd hk (Nat.not_lt_zero k)⟩ ?_
 clear hS;intro i a w F hC hS
 try dsimp only at hC
 obtain ⟨F,hS⟩:=hS.nm [8,7,4,1,0] [0] rfl rfl
 try dsimp only at hS
 obtain ⟨hi,hq⟩:=hC
 refine wp_seq ?_
 refine Zb hS (qL r2) hB [9,8,7,4,1,0] [0] rfl rfl fun a w F hS=>Za (wp_seq ?_)
 refine Zd hS rfl (fun hc0=>?_) (fun hc0=>?_)
 ·skip
  have hil:i<l.length:=by simp at hc0;omega
  refine wp_skip (Za (wp_seq (wp_block (wp_seq ?_))))
  refine Zb hS (qM rfl rfl (qN rfl rfl qZ)) hB [8,7,5,4,1,0] [0] rfl rfl fun a w F hS=>Za (wp_seq ?_)
  refine Zb hS (qM rfl rfl (qM rfl rfl (qM rfl rfl (qy 4 Tryz.underlying38 r2 (qf (oR true 4 .t) r1 qz (qf (Z2 (avs:=[.agg (rOp (Go.Gm.nth l i))]) .t (hw (Go.Gm.nth l i)) hf hb hnn (Args.one (.pagg .t))) r2 qz qZ)))))) hB [16,8,7,5,4,1,0] [0] rfl rfl fun a w F hS=>?_
  try simp only [Int.toNat_natCast] at hS
  refine Za ?_
  refine Zd hS rfl (fun hc1=>?_) (fun hc1=>?_)
  ·skip
   have hg:(i:Int)=Z5 p l:=(Zcv hil hc1 hq).symm
   refine wp_seq ?_
   refine Zb hS (qM rfl rfl (qN rfl rfl qZ)) hB [8,7,4,1,0] [0] rfl rfl fun a w F hS=>Za (wp_ret (Zm (Zg (Zg (Zm (Zg ?_))))))
   refine Zr hfr hS rfl rfl rfl (.int hg)
  have hne:p (Go.Gm.nth l i)=false:=hc1
  refine wp_skip (Zi (Za ?_))
  refine Zb hS (qp r1 (qM rfl rfl qZ)) hB [8,7,4,1,0] [0] rfl rfl fun a w F hS=>Za ?_
  replace hS:=hS.ent (i:=8) (s':=.pv (.int .i64 ((i+1:Nat):Int))) rfl (.int (Ze (by omega)))
  obtain ⟨F,hS⟩:=hS.nm [7,4,1,0,8] [0] rfl rfl
  exact ⟨(i+1),F,⟨by omega,(fun k hk=>by rcases Nat.lt_or_eq_of_le (Nat.le_of_lt_succ hk) with h | h;exact hq k h;rw [h];exact hne)⟩,hS,by omega⟩
 have hil:i=l.length:=by simp at hc0;omega
 have hg : -1=Z5 p l:=(Zbv fun k hk=>hq k (by simp at hc0;omega)).symm
 refine wp_exit (Zk (Zk (Zq (Za (wp_seq ?_)))))
 refine Zb hS (qI qZ) hB [4] [0] rfl rfl fun a w F hS=>Za (wp_ret ?_)
 refine Zr hfr hS rfl rfl rfl (.int hg)
def Ze9 (s:List UInt8):Nat:=s.foldl (fun a c=>a*10+(c.toNat - 48)) 0
def ZnI (u:Nat):List Int:=if h:u=0 then [] else ZnI (u / 10) ++ [((48+u % 10:Nat):Int)]
 termination_by u
 decreasing_by omega
def Zoh (u:Nat):List Int:=ZnI (u / 10) ++ [((48+u % 10:Nat):Int)]
theorem ZmR:ZnI 0 = []:=by unfold ZnI;simp
structure ZjM (u0 i u:Nat) (l:List Int):Prop where
 hl:l.length=20
 hi:i≤20
 hu:u<10 ^ i
 hb:u≤18446744073709551615
 ok:(i=20∧u=u0)∨(i<20∧ZnI u++l.drop i=Zoh u0)
theorem ZjM.start {u0:Nat} (h:u0≤18446744073709551615):ZjM u0 20 u0 [0,0,0,0,0,0,0,0,0,0,0,0,0,0,0,0,0,0,0,0]:=⟨rfl,Nat.le_refl _,by omega,h,.inl ⟨rfl,rfl⟩⟩
theorem ZjM.pos {u0 i u:Nat} {l:List Int} (h:ZjM u0 i u l) (hc:i=20∨0<u):1≤i:=by
 rcases hc with hc | hc
 · omega
 · rcases Nat.eq_zero_or_pos i with h0 | h0
   · have:=h.hu;rw [h0] at this;omega
   · exact h0
theorem ZjM.done {u0 i u:Nat} {l:List Int} (h:ZjM u0 i u l) (h1:i≠20) (h2:u=0):l.drop i=Zoh u0:=by
 rcases h.ok with ⟨h3,_⟩ | ⟨_,h3⟩
 · exact absurd h3 h1
 · rw [h2,ZmR] at h3;simpa using h3
structure Zma (u0 i x:Nat) (l:List UInt8):Prop where
 hl:l.length=i
 hi:i≤20
 hx:x<10 ^ (20 - i)
 hb:x≤18446744073709551615
 ok:(i=0∧x=u0∧l = [])∨(0<i∧(ZnI x).map toB++l=(Zoh u0).map toB)
theorem Zma.start {u0:Nat} (h:u0≤18446744073709551615):Zma u0 0 u0 []:=⟨rfl,by decide,by omega,h,.inl ⟨rfl,rfl,rfl⟩⟩
theorem Zma.done {u0 i x:Nat} {l:List UInt8} (h:Zma u0 i x l) (h1:i≠0) (h2:x=0):l=(Zoh u0).map toB:=by
 rcases h.ok with ⟨h3,_⟩ | ⟨_,h3⟩
 · exact absurd h3 h1
 · rw [h2,ZmR] at h3;simpa using h3
theorem FnG.cases {P:Program} {f:FuncId} {args:List PV} {h h1 h2:HP} {q:PV} {qr:Value→List HP} (hh:∀ w fb y,h.p w fb y→h1.p w fb y∨h2.p w fb y) (k1:FnG P f 1 args [h1] q qr) (k2:FnG P f 1 args [h2] q qr):FnG P f 1 args [h] q qr:=fun w F vs hw hle hvs hpr=>by
 rcases hh w (F 1) (U F) (hpr 0 h rfl) with hx | hx
 · exact k1 w F vs hw hle hvs (fun i h' hi=>by
     match i,hi with
     | 0,hi=>simp at hi;subst hi;exact hx)
 · exact k2 w F vs hw hle hvs (fun i h' hi=>by
     match i,hi with
     | 0,hi=>simp at hi;subst hi;exact hx)
structure ZoM where
 src:Int
 dst:Int
 kind:Int
 key:Int
 deriving DecidableEq,Inhabited
structure Zbz where
 tx:Int
 key:Int
 nth:Int
 deriving DecidableEq,Inhabited
def Zv (v:Zbz):List PV:=[.int .i64 v.tx,.int .i64 v.key,.int .i64 v.nth]
def noV:Zbz:=⟨0,0,0⟩
def idB (n:Int):Bool:=decide (1≤n) && decide (n≤1048575)
def Zbb (v:Zbz):Bool:=if v.tx=0 then idB v.key && decide (v.nth=0) else ((idB v.tx && idB v.key) && decide (1≤v.nth)) && decide (v.nth≤4095)
def Zof (v:Zbz):Int:=(v.tx*1048576+v.key)*4096+v.nth
def ZmK (v:Zbz):Int×Int:=if Zbb v then (Zof v,0) else (0,1)
theorem ZeH {n:Int} : idB n=true ↔ 1≤n∧n≤1048575:=by unfold idB;rw [Bool.and_eq_true,decide_eq_true_eq,decide_eq_true_eq]
theorem Zjx (k:Int):decide (k<1) = !decide (1≤k):=by rw [← decide_not];exact decide_eq_decide.2 (by omega)
theorem Zlu (m k:Int):decide (m<k) = !decide (k≤m):=by rw [← decide_not];exact decide_eq_decide.2 (by omega)
theorem or64 (x y:Nat) (hx:x<18446744073709551616) (hy:y<18446744073709551616):bits .or .u64 (x:Int) (y:Int)=((x ||| y:Nat):Int):=by
 have h1:(BitVec.ofInt 64 (x:Int)).toNat=x:=by rw [BitVec.toNat_ofInt];omega
 have h2:(BitVec.ofInt 64 (y:Int)).toNat=y:=by rw [BitVec.toNat_ofInt];omega
 show IntKind.wrap .u64 (((BitVec.ofInt 64 (x:Int) ||| BitVec.ofInt 64 (y:Int)).toNat:Nat):Int)=_
 rw [BitVec.toNat_or,h1,h2]
 exact ZdA (by have:=Nat.or_lt_two_pow (n:=64) hx hy;omega)
theorem Zoz {q:Nat} (h:q<18446744073709551616):IntKind.wrap .u64 (q:Int)=q:=ZdA (by omega)
theorem ZmQ {K:Int} (k:Nat) (hk:min K.toNat (IntKind.bits .u64)=k) (x y:Int) (hx:0≤x) (hy:0≤y) (hyk:y<2 ^ k) (hb:x*2 ^ k+y<18446744073709551616):bits .or .u64 (IntKind.wrap .u64 (x*2 ^ min K.toNat (IntKind.bits .u64))) y=x*2 ^ k+y:=by
 obtain ⟨X,rfl⟩:=Int.eq_ofNat_of_zero_le hx
 obtain ⟨Y,rfl⟩:=Int.eq_ofNat_of_zero_le hy
 rw [hk]
 have e2:(X:Int)*2 ^ k=((X*2 ^ k:Nat):Int):=by rw [Int.natCast_mul,Int.natCast_pow];rfl
 have hY:Y<2 ^ k:=by exact_mod_cast hyk
 have hor:X*2 ^ k ||| Y=X*2 ^ k+Y:=by rw [Nat.mul_comm];exact (Nat.two_pow_add_eq_or_of_lt hY X).symm
 rw [e2] at hb ⊢
 generalize X*2 ^ k=Q at hb hor ⊢
 rw [Zoz (by omega),or64 _ _ (by omega) (by omega),hor]
 omega
theorem ZiY {v:Zbz} (h:Zbb v=true):bits .or .u64 (IntKind.wrap .u64 (bits .or .u64 (IntKind.wrap .u64 (IntKind.wrap .u64 v.tx*2 ^ min (20:Int).toNat (IntKind.bits .u64))) (IntKind.wrap .u64 v.key)*2 ^ min (12:Int).toNat (IntKind.bits .u64))) (IntKind.wrap .u64 v.nth)=Zof v:=by
 have hb:(0≤v.tx∧v.tx≤1048575)∧(1≤v.key∧v.key≤1048575)∧(0≤v.nth∧v.nth≤4095):=by
   unfold Zbb at h
   split at h <;> simp only [Bool.and_eq_true,decide_eq_true_eq,ZeH] at h <;> omega
 obtain ⟨h1,h2,h3⟩:=hb
 rw [ZdA (x:=v.tx) (by omega),ZdA (x:=v.key) (by omega),ZdA (x:=v.nth) (by omega)]
 rw [ZmQ 20 rfl v.tx v.key (by omega) (by omega) (by omega) (by omega),ZmQ 12 rfl (v.tx*2 ^ 20+v.key) v.nth (by omega) (by omega) (by omega) (by omega)]
 unfold Zof
 omega
theorem ZoI (n:Int):FnP Tryz.prog 192 [.int .i64 n] (.bool (idB n)):=by
 refine FnP.mk Tryz.func192 rfl Tryz.ntmps192 rfl ?_
 intro B a w F hB hfr hS
 refine wp_seq ?_
 refine Zb hS qB hB [2,0] [0] rfl rfl fun a w F hS=>Za (wp_seq ?_)
 refine Zb hS (qM rfl rfl (qf (ZbF .t qi) r1 qz (qM rfl rfl (qm rfl rfl rfl rfl (qk rfl (fun h=>Zlq (.w h) qi) r2 qz (qf (Zy .t .t) r2 qz (qN rfl rfl qZ))))))) hB [2] [0] rfl rfl fun a w F hS=>Za (wp_ret ?_)
 refine Zr hfr hS rfl rfl rfl .refl
theorem ZdN (n:Int):FnP Tryz.prog 146 [.int .i64 n] (.bool (idB n)):=by
 refine FnP.mk Tryz.func146 rfl Tryz.ntmps146 rfl ?_
 intro B a w F hB hfr hS
 refine wp_seq ?_
 refine Zb hS qB hB [2,0] [0] rfl rfl fun a w F hS=>Za (wp_seq ?_)
 refine Zb hS (qM rfl rfl (qf (ZbF .t qi) r1 qz (qM rfl rfl (qm rfl rfl rfl rfl (qk rfl (fun h=>Zlq (.w h) qi) r2 qz (qf (Zy .t .t) r2 qz (qN rfl rfl qZ))))))) hB [2] [0] rfl rfl fun a w F hS=>Za (wp_ret ?_)
 refine Zr hfr hS rfl rfl rfl .refl
theorem ZfZ (v:Zbz):((!(decide (v.tx=0) && decide (v.nth=0)) && ((!idB v.tx || decide (v.nth<1)) || decide (4095<v.nth))) || !idB v.key) = !Zbb v:=by
 unfold Zbb
 by_cases h:v.tx=0
 · rw [if_pos h,decide_eq_true h]
   have hi:idB v.tx=false:=by rw [h];rfl
   rw [hi]
   cases decide (v.nth=0) <;> cases idB v.key <;> simp
 · rw [if_neg h,decide_eq_false h,Zjx,Zlu 4095]
   cases idB v.tx <;> cases idB v.key <;> cases decide (1≤v.nth) <;> cases decide (v.nth≤4095) <;> rfl
theorem ZkK (v:Zbz):FnP Tryz.prog 158 [.agg (Zv v)] (.tup [.int .u64 (ZmK v).1,.int .i64 (ZmK v).2]):=by
 refine FnP.mk Tryz.func158 rfl Tryz.ntmps158 rfl ?_
 intro B a w F hB hfr hS
 refine wp_seq ?_
 refine Zc hS (qx 101 r1 (qI (qI qZ))) hB [3,2,1] [101,0] (fun _=>rfl) (fun _=>rfl) fun τ a w F hS=>?_
 try dsimp only [RS.sub,SF.sub,CF.sub,csub,Anc.sub,List.map,zCF] at hS
 generalize τ 1=v1 at hS
 refine Za (wp_seq ?_)
 refine Zb hS (qg 0 101 r1 r1 (qa 101 r1 r1 (qf (o_eql .t qi) r1 qz (qM rfl rfl (qv 2 101 rfl r2 r1 (qw 101 rfl r2 r1 (qk rfl (fun h=>o_eql (.w h) qi) r2 qz (qf (Zy .t .t) r2 qz (qN rfl rfl qZ))))))))) hB [4,3,2,1] [101,0] rfl rfl fun a w F hS=>Za (wp_seq (wp_seq ?_))
 refine Zb hS (qM rfl rfl (qf (o_not .t) r1 qz (qM rfl rfl (qv 0 101 rfl r2 r1 (qw 101 rfl r2 r1 (qk rfl (fun h=>oP (ZoI _) Tryz.func192 (Args.one (.w h))) r2 qz (qk rfl (fun h=>o_not (.w h)) r2 qz (qk rfl (fun h=>oM (.w h)) r2 qz (ZN.cons (ZfC.cond2 rfl rfl (fun h=>Zbo (off:=2) 101 .is (by kernel_rfl) (by rfl))) r2 r1 (ZN.cons (ZfC.cond2 rfl rfl (fun h=>ZfV (ag:=false) (sz:=1) 101 (.w h .adr) (by kernel_rfl) (by kernel_rfl) (by kernel_rfl) (by rfl))) r2 r1 (ZN.cons (ZfC.cond2 rfl rfl (fun h=>Zb3 (.w h) qi)) r2 qz (qk rfl (fun h=>ZaI (.w h) (.wc h)) r3 qz (qk rfl (fun h=>oM (.w h)) r2 qz (ZN.cons (ZfC.cond2 rfl rfl (fun h=>Zbo (off:=2) 101 .is (by kernel_rfl) (by rfl))) r2 r1 (ZN.cons (ZfC.cond2 rfl rfl (fun h=>ZfV (ag:=false) (sz:=1) 101 (.w h .adr) (by kernel_rfl) (by kernel_rfl) (by kernel_rfl) (by rfl))) r2 r1 (ZN.cons (ZfC.cond2 rfl rfl (fun h=>ZaR (.w h) qi)) r2 qz (qk rfl (fun h=>ZaI (.w h) (.wc h)) r3 qz (qf (Zy .t .t) r2 qz (qM rfl rfl (qv 1 101 rfl r2 r1 (qw 101 rfl r2 r1 (qk rfl (fun h=>oP (ZoI _) Tryz.func192 (Args.one (.w h))) r2 qz (qk rfl (fun h=>o_not (.w h)) r2 qz (qf (ZaI .t .t) r2 qz qZ)))))))))))))))))))))))) hB [36,3,2,1] [101,0] rfl rfl fun a w F hS=>?_
 try dsimp only [List.map,xD,xE,xT,xU,ldSF] at hS
 refine Za ?_
 refine Zd hS rfl (fun hc0=>?_) (fun hc0=>?_)
 ·skip
  rw [ZfZ] at hc0
  have hr:Zbb v=false:=by simpa using hc0
  have hg:ZmK v=(0,1):=by unfold ZmK;rw [hr];rfl
  refine wp_seq ?_
  refine Zb hS (qI (qI qZ)) hB [3,2,1] [101,0] rfl rfl fun a w F hS=>Za (wp_ret (Zg ?_))
  refine ZA hfr hS rfl (.tmp rfl (.tmp rfl .nil)) (.two (.int (by rw [hg];try exact ZiY hr)) (.int (by rw [hg])))
 rw [ZfZ] at hc0
 have hr:Zbb v=true:=by simpa using hc0
 have hg:ZmK v=(Zof v,0):=if_pos hr
 refine wp_skip (Za (wp_seq ?_))
 refine Zb hS (qg 0 101 r1 r1 (qa 101 r1 r1 (qf (ZeB Tryz.underlying166 (by kernel_rfl) .t) r1 qz (qf (ZnZ .t qi (by decide)) r1 qz (qg 1 101 r1 r1 (qa 101 r1 r1 (qf (ZeB Tryz.underlying166 (by kernel_rfl) .t) r1 qz (qf (ZoK .t .t) r2 qz (qf (ZnZ .t qi (by decide)) r1 qz (qg 2 101 r1 r1 (qa 101 r1 r1 (qf (ZeB Tryz.underlying166 (by kernel_rfl) .t) r1 qz (qf (ZoK .t .t) r2 qz (qN rfl rfl (qI qZ))))))))))))))) hB [3,2] [0] rfl rfl fun a w F hS=>Za (wp_ret ?_)
 refine ZA hfr hS rfl (.tmp rfl (.tmp rfl .nil)) (.two (.int (by rw [hg];try exact ZiY hr)) (.int (by rw [hg])))
theorem Zmx (v:Zbz):FnP Tryz.prog 189 [.agg (Zv v)] (.bool (Zbb v)):=by
 refine FnP.mk Tryz.func189 rfl Tryz.ntmps189 rfl ?_
 intro B a w F hB hfr hS
 refine wp_seq ?_
 refine Zc hS (qx 101 r1 qB) hB [2,1] [101,0] (fun _=>rfl) (fun _=>rfl) fun τ a w F hS=>?_
 try dsimp only [RS.sub,SF.sub,CF.sub,csub,Anc.sub,List.map,zCF] at hS
 generalize τ 1=v1 at hS
 refine Za (wp_seq (wp_seq ?_))
 refine Zb hS (qg 0 101 r1 r1 (qa 101 r1 r1 (qf (o_eql .t qi) r1 qz qZ))) hB [5,2,1] [101,0] rfl rfl fun a w F hS=>Za ?_
 refine Zd hS rfl (fun hc0=>?_) (fun hc0=>?_)
 ·skip
  have h0:v.tx=0:=of_decide_eq_true hc0
  refine wp_seq ?_
  refine Zb hS (qg 1 101 r1 r1 (qa 101 r1 r1 (qf (oP (ZdN _) Tryz.func146 (Args.one .t)) r1 qz (qM rfl rfl (qv 2 101 rfl r2 r1 (qw 101 rfl r2 r1 (qk rfl (fun h=>o_eql (.w h) qi) r2 qz (qf (Zy .t .t) r2 qz (qN rfl rfl qZ))))))))) hB [2,1] [101,0] rfl rfl fun a w F hS=>Za (wp_ret (Zg ?_))
  refine Zr hfr hS rfl rfl rfl (.bool (by unfold Zbb;first | rw [if_pos h0] | rw [if_neg h0]))
 have h0:¬ v.tx=0:=of_decide_eq_false hc0
 refine wp_skip (Za (wp_seq ?_))
 refine Zb hS (qg 0 101 r1 r1 (qa 101 r1 r1 (qf (oP (ZdN _) Tryz.func146 (Args.one .t)) r1 qz (qM rfl rfl (qv 1 101 rfl r2 r1 (qw 101 rfl r2 r1 (qk rfl (fun h=>oP (ZdN _) Tryz.func146 (Args.one (.w h))) r2 qz (qf (Zy .t .t) r2 qz (qM rfl rfl (qv 2 101 rfl r2 r1 (qw 101 rfl r2 r1 (qk rfl (fun h=>ZbF (.w h) qi) r2 qz (qf (Zy .t .t) r2 qz (qM rfl rfl (qv 2 101 rfl r2 r1 (qw 101 rfl r2 r1 (qk rfl (fun h=>Zlq (.w h) qi) r2 qz (qf (Zy .t .t) r2 qz (qN rfl rfl qZ))))))))))))))))))) hB [2] [0] rfl rfl fun a w F hS=>Za (wp_ret ?_)
 refine Zr hfr hS rfl rfl rfl (.bool (by unfold Zbb;first | rw [if_pos h0] | rw [if_neg h0]))
theorem take_set {α:Type} {q:List α} {i:Nat} {v:α} (h:i<q.length):(q.set i v).take (i+1)=q.take i ++ [v]:=by
 rw [List.take_succ_eq_append_getElem (by simpa using h),List.getElem_set_self,List.take_set_of_le (Nat.le_refl _)]
theorem ne_of_lt {l:List UInt8} {k:Nat} (h:k<l.length):l≠[]:=by intro e;rw [e] at h;simp at h
def RdB (n:Int) (v:Nat):Prop:=0≤n∧n≤21474836479∧(v≤2147483647→n=v)∧(2147483647<v→2147483647<n)
theorem RdB.range {n:Int} {v:Nat} (h:RdB n v):0≤n∧n≤21474836479:=⟨h.1,h.2.1⟩
theorem RdB.val {n:Int} {v:Nat} (h:RdB n v) (hn:n≤2147483647):n=v:=by
 rcases Nat.lt_or_ge 2147483647 v with hh | hh
 · have:=h.2.2.2 hh;omega
 · exact h.2.2.1 hh
def ZaZ (o:OpD):Bool:=if o.read=true then Zbb ⟨o.tx,o.key,o.nth⟩ else (idB o.key && decide (o.tx=0)) && decide (o.nth=0)
def ofO (o:OpD):Zbz:=if o.read=true then ⟨o.tx,o.key,o.nth⟩ else noV
theorem three {l:List Int} (h:l.length=3):∃ x0 x1 x2,l = [x0,x1,x2]:=by
 match l,h with
 | [x0,x1,x2],_=>exact ⟨x0,x1,x2,rfl⟩
section
variable {b:UInt8} {r e e2:List UInt8}
end
end Go.Proofs.YtjhapicamnijnaaGreat
