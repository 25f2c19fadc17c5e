/- Texts put together. No condition beyond those that each theorem says. -/
import Derived.Test.YtjhapicamnijnaaGreatLibW
import Derived.Test.YtjhapicamnijnaaGreatLibL
import Derived.Shelf.Sort.Plain
import Derived.Shelf.Slices.In.SortNone
import Derived.Laws.BitsLemmas
import Derived.Laws.MathBits
namespace Go.Proofs.YtjhapicamnijnaaGreat
open Go Go.Gm
set_option linter.unusedVariables false
set_option linter.unusedSimpArgs false
set_option maxHeartbeats 4000000
set_option maxRecDepth 8000
theorem ZH {x:Int} (h : -9223372036854775808≤x∧x≤9223372036854775807):IntKind.wrap .i64 x=x:=Zju ⟨by simp [IntKind.min,IntKind.signed,IntKind.bits];omega,by simp [IntKind.max,IntKind.signed,IntKind.bits];omega⟩
theorem Ze {i:Nat} (h:i<9223372036854775807):IntKind.wrap .i64 ((i:Int)+1)=((i+1:Nat):Int):=by rw [ZH (by omega)];omega
theorem ZdD {x:Int} (h:0≤x∧x≤18446744073709551615):IntKind.wrap .u64 x=x:=Zju ⟨by simp [IntKind.min,IntKind.signed,IntKind.bits];omega,by simp [IntKind.max,IntKind.signed,IntKind.bits];omega⟩
theorem ZaT (x:Int):IntKind.wrap .u64 x=x % 18446744073709551616:=by simp [IntKind.wrap,IntKind.bits,IntKind.signed]
theorem Zca {x:Int} (h:inR .i64 x) : -9223372036854775808≤x∧x≤9223372036854775807:=by simpa [inR,IntKind.min,IntKind.max,IntKind.signed,IntKind.bits] using h
theorem Sat.lenSl {α:Type} {R:α→List PV} {B:Zbr} {E:En} {a:Act} {w:World} {F:Fp} (h:Sat B E a w F) {i:Nat} {l:List α} (hl:Go.Gm.look E.s i=some (SF.pv (PV.sl R l))):l.length≤9223372036854775807:=by
 obtain ⟨_,cap,_,h1,h2,_⟩:=h.s i _ hl
 unfold maxLen at h2
 omega
def rInt (n:Int):List PV:=[.int .i64 n]
def rS (s:List UInt8):List PV:=[.bs s]
theorem Zbd.any {ss:List SF} : Zbd ss .any:=fun _ _ _ _ _=>trivial
theorem Zbi {α:Type} [Inhabited α] {x y:List α} (hl:x.length=y.length) (h:∀ j,j<x.length→Go.Gm.nth x j=Go.Gm.nth y j):x=y:=by
 apply List.ext_getElem hl
 intro j h1 h2
 have:=h j h1
 rwa [Zq h1,Zq h2] at this
theorem ZlN {α:Type} [Inhabited α] {q:List α} {k:Nat} (h:k<q.length):q.take k ++ [Go.Gm.nth q k] = q.take (k+1):=by
 rw [Zq h,List.take_succ_eq_append_getElem h]
theorem ZP {α:Type} [Inhabited α] {q:List α} {k:Nat} (h:k<q.length):Go.Gm.nth q k ∈ q:=by rw [Zq h];exact List.getElem_mem h
theorem ZZ {α:Type} [Inhabited α] {l:List α} {i:Nat} (h:i<l.length):l.drop i=Go.Gm.nth l i :: l.drop (i+1):=by rw [Zq h];exact List.drop_eq_getElem_cons h
theorem Zt {α:Type} [Inhabited α] {l:List α} {i:Nat} (h:i<l.length):l.take (i+1)=l.take i ++ [Go.Gm.nth l i]:=(ZlN h).symm
structure Zcs where
 key:Int
 val:Int
 deriving DecidableEq,Inhabited
def ZbI (p:Zcs):List PV:=[.int .i64 p.key,.int .i64 p.val]
section
variable {out t T:List Zcs} {k x:Int} {e:Zcs} {d:Bool}
end
def Za2 (v:Int):List Int→Int
 | []=>-1
 | x :: l=>if x=v then 0 else if Za2 v l<0 then -1 else Za2 v l+1
theorem ZdI {v:Int} : ∀ {l:List Int},(∀ k,k<l.length→Go.Gm.nth l k≠v)→Za2 v l = -1
 | [],_=>rfl
 | x :: l,h=>by
   have h0:x≠v:=h 0 (by simp)
   rw [Za2,if_neg h0,ZdI (l:=l) fun k hk=>by have:=h (k+1) (by simpa using hk);exact this,if_pos (by decide)]
theorem Zi6 {v:Int} : ∀ {l:List Int} {i:Nat},i<l.length→Go.Gm.nth l i=v→(∀ k,k<i→Go.Gm.nth l k≠v)→Za2 v l=i
 | [],i,h,_,_=>by simp at h
 | x :: l,0,_,h,_=>by rw [Za2,if_pos (show x=v from h)];rfl
 | x :: l,i+1,h,h1,h2=>by
   have h0:x≠v:=h2 0 (by omega)
   have:=Zi6 (l:=l) (i:=i) (by simpa using h) h1 fun k hk=>h2 (k+1) (by omega)
   rw [Za2,if_neg h0,this,if_neg (by omega)];omega
theorem ZhD {v:Int} {l:List Int} (h:v ∈ l):∃ i:Nat,Za2 v l=i∧i<l.length∧Go.Gm.nth l i=v ∧ ∀ k,k<i→Go.Gm.nth l k≠v:=by
 induction l with
 | nil=>cases h
 | cons x l ih=>
   by_cases hx:x=v
   · exact ⟨0,by rw [Za2,if_pos hx];rfl,by simp,hx,fun k hk=>absurd hk (Nat.not_lt_zero k)⟩
   · obtain ⟨i,h1,h2,h3,h4⟩:=ih (by rcases List.mem_cons.1 h with h | h;exact absurd h.symm hx;exact h)
     refine ⟨i+1,by rw [Za2,if_neg hx,h1,if_neg (by omega)];omega,by simpa using h2,h3,fun k hk=>?_⟩
     cases k with
     | zero=>exact hx
     | succ k=>exact h4 k (by omega)
theorem ZhB {v:Int} {l:List Int} (h:v ∉ l):Za2 v l = -1:=ZdI fun k hk e=>h (e ▸ ZP hk)
theorem Zee (v:Int) (l:List Int) : -1≤Za2 v l∧Za2 v l<l.length:=by
 by_cases h:v ∈ l
 · obtain ⟨i,h1,h2,_⟩:=ZhD h
   omega
 · rw [ZhB h];omega
theorem Zj4 {v:Int} {l:List Int} : 0≤Za2 v l ↔ v ∈ l:=by
 constructor
 · intro h
   by_cases hm:v ∈ l
   · exact hm
   · rw [ZhB hm] at h;omega
 · intro h
   obtain ⟨i,h1,_⟩:=ZhD h
   omega
def ZiM (l:List Int) (j x:Int):List Int:=if 0≤j∧j≤l.length then l.take j.toNat++x :: l.drop j.toNat else l
def Zao (l:List Int):Prop:=(∀ x ∈ l,1≤x∧x≤1048575)∧l.Nodup
instance (l:List Int):Decidable (Zao l):=by unfold Zao;exact inferInstance
theorem Zao.snoc {l:List Int} {x:Int} : Zao (l ++ [x]) ↔ Zao l∧(1≤x∧x≤1048575)∧x ∉ l:=by
 unfold Zao
 constructor
 · rintro ⟨h1,h2⟩
   rw [List.nodup_append] at h2
   exact ⟨⟨fun y hy=>h1 y (by simp [hy]),h2.1⟩,h1 x (by simp),fun hx=>h2.2.2 x hx x (by simp) rfl⟩
 · rintro ⟨⟨h1,h2⟩,h3,h4⟩
   refine ⟨fun y hy=>?_,List.nodup_append.2 ⟨h2,by simp,fun a ha b hb=>?_⟩⟩
   · rcases List.mem_append.1 hy with hy | hy
     · exact h1 y hy
     · rw [List.mem_singleton.1 hy];exact h3
   · rw [List.mem_singleton.1 hb]
     intro e;subst e;exact h4 ha
theorem Zao.take {l:List Int} (h:Zao l) (i:Nat):Zao (l.take i):=⟨fun x hx=>h.1 x (List.mem_of_mem_take hx),h.2.sublist (List.take_sublist i l)⟩
def leI (x y:Int):Bool:=decide (x≤y)
theorem ZlT {a b:List Int} : a.mergeSort leI=b.mergeSort leI ↔ a.Perm b:=by
 constructor
 · intro h
   exact (List.mergeSort_perm a leI).symm.trans (h ▸ List.mergeSort_perm b leI)
 · intro h
   have hs:∀ l:List Int,List.Pairwise (fun x y=>x≤y) (l.mergeSort leI):=fun l=>by
     have:=List.pairwise_mergeSort (le:=leI) (fun a b c h1 h2=>by simp [leI] at *;omega) (fun a b=>by simp [leI];omega) l
     exact this.imp fun h=>by simpa [leI] using h
   exact List.Perm.eq_of_pairwise (fun x y _ _ h1 h2=>Int.le_antisymm h1 h2) (hs a) (hs b) (((List.mergeSort_perm a leI).trans h).trans (List.mergeSort_perm b leI).symm)
theorem Zi3 {a b:List Int} : (a.length=b.length ∧ ∀ x ∈ a,a.count x=b.count x) ↔ a.Perm b:=by
 constructor
 · rintro ⟨hl,hc⟩
   have key:∀ (a b:List Int),(∀ x ∈ a,a.count x≤b.count x) → ∃ c,b.Perm (a++c):=by
     intro a
     induction a with
     | nil=>intro b _;exact ⟨b,List.Perm.refl _⟩
     | cons x a ih=>
       intro b h
       have hx:x ∈ b:=by
         have:=h x (by simp)
         rw [List.count_cons_self] at this
         exact List.count_pos_iff.1 (by omega)
       obtain ⟨c,hc⟩:=ih (b.erase x) fun y hy=>by
         have:=h y (by simp [hy])
         rw [List.count_cons] at this
         rw [List.count_erase]
         split at this <;> rename_i e
         · rw [if_pos e];omega
         · rw [if_neg e];omega
       exact ⟨c,(List.perm_cons_erase hx).trans (hc.cons x)⟩
   obtain ⟨c,hp⟩:=key a b fun x hx=>by rw [hc x hx];exact Nat.le_refl _
   have:=hp.length_eq
   rw [List.length_append] at this
   have hc0:c = []:=List.eq_nil_of_length_eq_zero (by omega)
   rw [hc0,List.append_nil] at hp
   exact hp.symm
 · intro h
   exact ⟨h.length_eq,fun x _=>h.count_eq x⟩
def withO (l:List Int) (tx:Int):List Int:=if tx ∈ l then l else l ++ [tx]
def withoutO (l:List Int) (tx:Int):List Int:=l.filter fun x=>decide (x≠tx)
def Zaa (l:List Int) (tx place:Int):List Int×Int:=if Za2 tx l<0 then ([],3) else if ¬ (0≤place∧place<l.length) then ([],1) else (ZiM (l.eraseIdx (Za2 tx l).toNat) place tx,0)
theorem Zni {l:List Int} {i p:Nat} {x:Int} (hi:i<p) (hp:p<l.length) :
   ((l.take i++(l.drop (i+1)).take (p - i))++l.drop p).set p x=ZiM (l.eraseIdx i) p x:=by
 have e1:(l.take i++(l.drop (i+1)).take (p - i)).length=p:=by simp;omega
 unfold ZiM
 rw [if_pos ⟨by omega,by rw [List.length_eraseIdx,if_pos (by omega)];omega⟩,Int.toNat_natCast]
 rw [List.set_append_right _ _ (by omega),e1,Nat.sub_self]
 rw [List.drop_eq_getElem_cons hp,List.set_cons_zero,List.eraseIdx_eq_take_drop_succ]
 congr 1
 · rw [List.take_append,List.take_take,Nat.min_eq_right (by omega),List.length_take,Nat.min_eq_left (by omega)]
 · congr 1
   have e3:(l.take i).drop p = []:=List.drop_eq_nil_of_le (by rw [List.length_take];omega)
   rw [List.drop_append,List.length_take,Nat.min_eq_left (by omega),e3,List.nil_append,List.drop_drop]
   congr 1;omega
theorem Zng {l:List Int} {i p:Nat} {x:Int} (hi:p≤i) (hp:i<l.length) :
   ((l.take (p+1)++(l.drop p).take (i - p))++l.drop (i+1)).set p x=ZiM (l.eraseIdx i) p x:=by
 unfold ZiM
 rw [if_pos ⟨by omega,by rw [List.length_eraseIdx,if_pos (by omega)];omega⟩,Int.toNat_natCast]
 rw [List.append_assoc,List.set_append_left _ _ (by simp;omega),List.take_succ_eq_append_getElem (by omega),List.set_append_right _ _ (by simp;omega)]
 rw [List.eraseIdx_eq_take_drop_succ]
 have e1:p - (l.take p).length=0:=by simp;omega
 rw [e1]
 simp only [List.set_cons_zero,List.append_assoc,List.singleton_append]
 congr 1
 · rw [List.take_append,List.take_take,Nat.min_eq_left (by omega),List.length_take]
   simp [show p - min i l.length=0 by omega]
 · congr 1
   rw [List.drop_append,List.length_take,Nat.min_eq_left (by omega),show p - i=0 by omega,List.drop_zero,List.drop_take]
def Zap (now:List Int) (i:Int):List Int→List Zcs
 | []=>[]
 | x :: to=>if Go.Gm.nth now i.toNat=x then Zap now (i+1) to else ⟨x,i⟩ :: Zap (Zaa now x i).1 (i+1) to
def Zbo (a b:List Int):Prop:=Zao a∧Zao b∧a.Perm b
instance (a b:List Int):Decidable (Zbo a b):=by unfold Zbo;exact inferInstance
def Zae (a b:List Int):List Zcs×Int:=if Zbo a b then (Zap a 0 b,0) else ([],8)
theorem ZhN {v:Int} {l:List Int} (h:v ∈ l):l.eraseIdx (Za2 v l).toNat=l.erase v:=by
 induction l with
 | nil=>cases h
 | cons x l ih=>
   by_cases hx:x=v
   · subst hx
     rw [Za2,if_pos rfl];simp
   · have hm:v ∈ l:=by rcases List.mem_cons.1 h with h | h;exact absurd h.symm hx;exact h
     obtain ⟨i,h1,h2,_⟩:=ZhD hm
     rw [Za2,if_neg hx,if_neg (by omega),h1,List.erase_cons_tail (by simpa using hx),← ih hm,h1]
     rw [show ((i:Int)+1).toNat=i+1 by omega,Int.toNat_natCast,List.eraseIdx_cons_succ]
theorem Zmy {l:List Int} {j x:Int} (h:0≤j∧j≤l.length):(ZiM l j x).Perm (x :: l):=by
 unfold ZiM
 rw [if_pos h]
 have:=(List.perm_middle (a:=x) (l₁:=l.take j.toNat) (l₂:=l.drop j.toNat))
 rwa [List.take_append_drop] at this
theorem Zhn {l:List Int} {tx place:Int} (h:tx ∈ l) (hp:0≤place∧place<l.length):Zaa l tx place=(ZiM (l.erase tx) place tx,0):=by
 unfold Zaa
 rw [if_neg (by have:=Zj4.2 h;omega),if_neg (by simpa using hp),ZhN h]
theorem Zb3 {l:List Int} {tx place:Int} (h:tx ∈ l) (hp:0≤place∧place<l.length):(Zaa l tx place).1.Perm l:=by
 rw [Zhn h hp]
 have hl:(l.erase tx).length=l.length - 1:=List.length_erase_of_mem h
 exact (Zmy (by omega)).trans (List.perm_cons_erase h).symm
def Zbn (l:List Int):List Zcs→List Int
 | []=>l
 | p :: s=>Zbn (Zaa l p.key p.val).1 s
theorem Zn2 {l:List Int} {tx:Int} {i:Nat} (h:tx ∈ l) (hi:i<l.length) (hx:tx ∉ l.take i):(Zaa l tx i).1.take (i+1)=l.take i ++ [tx]:=by
 rw [Zhn h (by omega)]
 have hl:(l.erase tx).length=l.length - 1:=List.length_erase_of_mem h
 show (ZiM (l.erase tx) i tx).take (i+1)=_
 unfold ZiM
 rw [if_pos (by omega),Int.toNat_natCast,List.take_append,List.take_of_length_le (by rw [List.length_take];omega),List.length_take,show i+1 - min i (l.erase tx).length=1 by omega]
 have e:(l.erase tx).take i=l.take i:=by
   conv=>lhs;rw [← List.take_append_drop i l]
   rw [List.erase_append_right _ hx,List.take_append,List.length_take,Nat.min_eq_left (by omega),Nat.sub_self,List.take_zero,List.append_nil,List.take_take,Nat.min_self]
 rw [e];rfl
theorem Zdj:∀ (to:List Int) (now pre:List Int),now.Perm (pre++to)→now.take pre.length=pre→now.Nodup→Zbn now (Zap now pre.length to)=pre++to
 | [],now,pre,hp,ht,hn=>by
   have:=hp.length_eq
   simp at this
   simp only [Zap,Zbn,List.append_nil]
   rw [← ht,List.take_of_length_le (by omega)]
 | x :: to,now,pre,hp,ht,hn=>by
   have hl:=hp.length_eq
   simp at hl
   have hxm:x ∈ now:=hp.mem_iff.2 (by simp)
   have hnd:(pre++x :: to).Nodup:=hp.nodup hn
   have hxp:x ∉ pre:=fun h=>(List.nodup_append.1 hnd).2.2 x h x (by simp) rfl
   have e:pre++x :: to=(pre ++ [x])++to:=by simp
   have elen:((pre ++ [x]).length:Int)=(pre.length:Int)+1:=by simp
   unfold Zap
   rw [Int.toNat_natCast]
   split
   · rename_i h
     have:=Zdj to now (pre ++ [x]) (by rw [← e];exact hp) (by
       rw [List.length_append,List.length_singleton,Zt (by omega),h,ht]) hn
     rw [elen] at this
     rw [this,← e]
   · rename_i h
     show Zbn (Zaa now x pre.length).1 _=_
     have hp2:=Zb3 (place:=(pre.length:Int)) hxm (by omega)
     have:=Zdj to (Zaa now x pre.length).1 (pre ++ [x]) (by rw [← e];exact hp2.trans hp) (by
       rw [List.length_append,List.length_singleton,Zn2 hxm (by omega) (by rw [ht];exact hxp),ht]) (hp2.symm.nodup hn)
     rw [elen] at this
     rw [this,← e]
theorem Zdg:∀ (to:List Int) (now:List Int) (i:Int),∃ s,s.Sublist to∧(Zap now i to).map Zcs.key=s
 | [],now,i=>⟨[],List.Sublist.refl _,rfl⟩
 | x :: to,now,i=>by
   unfold Zap
   split
   · obtain ⟨s,h1,h2⟩:=Zdg to now (i+1)
     exact ⟨s,h1.cons x,h2⟩
   · obtain ⟨s,h1,h2⟩:=Zdg to (Zaa now x i).1 (i+1)
     exact ⟨x :: s,h1.cons_cons x,by rw [List.map_cons,h2]⟩
def Ziq:Go.Shelf.Ren:=⟨fun | 189=>103 | 125=>165 | 257=>164 | 128=>203 | 129=>204 | 294=>194 | 295=>195 | 296=>196 | 297=>197 | 298=>198 | 299=>199 | 216=>200 | 300=>201 | 301=>202 | 328=>215 | 329=>216 | 330=>217 | 331=>218 | 332=>219 | 215=>212 | 343=>224 | n=>n,fun | 28=>41 | 3=>3 | 46=>190 | 0=>0 | 51=>214 | 53=>166 | 4=>4 | 183=>207 | 182=>206 | 131=>146 | 5=>5 | 9=>9 | 218=>222 | 222=>226 | 228=>231 | 229=>232 | n=>n,fun  | n=>n⟩
theorem Zkp:Lays.n189 Tryz.prog Ziq where
 mixed:=by kernel_rfl
 f125:=Tryz.func165.trans (congrArg some (by kernel_rfl))
 f128:=Tryz.func203.trans (congrArg some (by kernel_rfl))
 f129:=Tryz.func204.trans (congrArg some (by kernel_rfl))
 f189:=Tryz.func103.trans (congrArg some (by kernel_rfl))
 f215:=Tryz.func212.trans (congrArg some (by kernel_rfl))
 f216:=Tryz.func200.trans (congrArg some (by kernel_rfl))
 f257:=Tryz.func164.trans (congrArg some (by kernel_rfl))
 f294:=Tryz.func194.trans (congrArg some (by kernel_rfl))
 f295:=Tryz.func195.trans (congrArg some (by kernel_rfl))
 f296:=Tryz.func196.trans (congrArg some (by kernel_rfl))
 f297:=Tryz.func197.trans (congrArg some (by kernel_rfl))
 f298:=Tryz.func198.trans (congrArg some (by kernel_rfl))
 f299:=Tryz.func199.trans (congrArg some (by kernel_rfl))
 f300:=Tryz.func201.trans (congrArg some (by kernel_rfl))
 f301:=Tryz.func202.trans (congrArg some (by kernel_rfl))
 f328:=Tryz.func215.trans (congrArg some (by kernel_rfl))
 f329:=Tryz.func216.trans (congrArg some (by kernel_rfl))
 f330:=Tryz.func217.trans (congrArg some (by kernel_rfl))
 f331:=Tryz.func218.trans (congrArg some (by kernel_rfl))
 f332:=Tryz.func219.trans (congrArg some (by kernel_rfl))
 f343:=Tryz.func224.trans (congrArg some (by kernel_rfl))
 t0:=Tryz.underlying0
 a0:=Tryz.isAgg0
 z0:=Tryz.sizeOf0
 v0:=Tryz.zeroValue0
 t3:=Tryz.underlying3
 a3:=Tryz.isAgg3
 z3:=Tryz.sizeOf3
 v3:=Tryz.zeroValue3
 t4:=Tryz.underlying4
 a4:=Tryz.isAgg4
 z4:=Tryz.sizeOf4
 v4:=Tryz.zeroValue4
 t5:=Tryz.underlying5
 a5:=Tryz.isAgg5
 z5:=Tryz.sizeOf5
 v5:=Tryz.zeroValue5
 t9:=Tryz.underlying9
 a9:=Tryz.isAgg9
 z9:=Tryz.sizeOf9
 v9:=Tryz.zeroValue9
 t28:=Tryz.underlying41
 a28:=Tryz.isAgg41
 z28:=Tryz.sizeOf41
 v28:=Tryz.zeroValue41
 t46:=Tryz.underlying190
 a46:=Tryz.isAgg190
 z46:=Tryz.sizeOf190
 v46:=Tryz.zeroValue190
 t51:=Tryz.underlying214
 a51:=Tryz.isAgg214
 z51:=Tryz.sizeOf214
 v51:=Tryz.zeroValue214
 t53:=Tryz.underlying166
 a53:=Tryz.isAgg166
 z53:=Tryz.sizeOf166
 v53:=Tryz.zeroValue166
 t131:=Tryz.underlying146
 a131:=Tryz.isAgg146
 z131:=Tryz.sizeOf146
 v131:=Tryz.zeroValue146
 t182:=Tryz.underlying206
 a182:=Tryz.isAgg206
 z182:=Tryz.sizeOf206
 v182:=Tryz.zeroValue206
 t183:=Tryz.underlying207
 a183:=Tryz.isAgg207
 z183:=Tryz.sizeOf207
 v183:=Tryz.zeroValue207
 t218:=Tryz.underlying222
 a218:=Tryz.isAgg222
 z218:=Tryz.sizeOf222
 v218:=Tryz.zeroValue222
 t222:=Tryz.underlying226
 a222:=Tryz.isAgg226
 z222:=Tryz.sizeOf226
 v222:=Tryz.zeroValue226
 t228:=Tryz.underlying231
 a228:=Tryz.isAgg231
 z228:=Tryz.sizeOf231
 v228:=Tryz.zeroValue231
 t229:=Tryz.underlying232
 a229:=Tryz.isAgg232
 z229:=Tryz.sizeOf232
 v229:=Tryz.zeroValue232
theorem ZmV (w:World):Calls Tryz.prog 103 #[.slice none 0 0] w (fun e w'=>e = .returned (.tuple #[])∧w' = w):=
 Go.calls_of_every_depth fun D=>Go.Proofs.AnyS.slices_Sort_int_none_in Zkp D none 0 w
theorem Zhy {w:World} {y:Ys} : ∀ {l:List Int} {xs:List Value},PVs (l.flatMap rInt) xs w y→xs=l.map (Value.int .i64) ∧ ∀ x ∈ l,inR .i64 x
 | [],[],_=>⟨rfl,fun x hx=>by cases hx⟩
 | [],_ :: _,h=>h.elim
 | x :: l,[],h=>h.elim
 | x :: l,v :: xs,h=>by
   have h1:v = .int .i64 x∧inR .i64 x:=h.1.2
   obtain ⟨h2,h3⟩:=Zhy (l:=l) (xs:=xs) h.2
   exact ⟨by rw [h1.1,h2];rfl,fun z hz=>by rcases List.mem_cons.1 hz with rfl | hz;exact h1.2;exact h3 z hz⟩
theorem Zfl {w:World} {y:Ys} : ∀ {l:List Int},(∀ x ∈ l,inR .i64 x)→PVs (l.flatMap rInt) (l.map (Value.int .i64)) w y
 | [],_=>trivial
 | x :: l,h=>⟨⟨rfl,rfl,h x (by simp)⟩,Zfl fun z hz=>h z (by simp [hz])⟩
theorem Zn7 {l:List Int} {j:Nat} (hj:j<l.length):(l.toArray)[j]! = l[j]:=by simp [hj]
theorem Zjf {w:World} {g n:Nat} {d:List Int} {os:Array Obj} {cur:Array Value} {e:TypeId} (hg:w.heap[g]? = some (.cells cur e (0,0))) (b:Nat) (hb:b<w.heap.size) :
   (Go.Sort.grow (Go.Sort.putRow (Value.int .i64) (Go.Sort.ahead w n) g 0 d.toArray) os).heap[b]? = if b=g then some (.cells (Go.Sort.putCells (Value.int .i64) 0 d.toArray cur) e (0,0)) else w.heap[b]?:=by
 unfold Go.Sort.grow Go.Sort.putRow Go.Sort.mapBlock Go.Sort.ahead
 simp only
 rw [Array.getElem?_append_left (by simpa using hb),Array.getElem?_modify]
 by_cases h:g=b
 · subst h
   rw [if_pos rfl,if_pos rfl,hg];rfl
 · rw [if_neg h,if_neg (fun e=>h e.symm)]
theorem Zoa {cur:Array Value} {d:List Int} (h:d.length≤cur.size):(Go.Sort.putCells (Value.int .i64) 0 d.toArray cur).toList.take d.length=d.map (Value.int .i64):=by
 apply List.ext_getElem
 · simp [Go.Sort.putCells];omega
 · intro i h1 h2
   have hi:i<d.length:=by simpa using h2
   simp [Go.Sort.putCells,hi]
theorem Zkq (v:Value) (l:List Int) (hlm:l.length≤1000000):FnG Tryz.prog 103 1 [.is v] [Zy 3 1 rInt l v] (.tup []) (fun _=>[Zy 3 1 rInt (l.mergeSort leI) v]):=fun w F vs hw hle hvs hpr=>by
 match vs,hvs with
 | [u],hvs=>
   have hu:u=v:=hvs.1.1
   subst hu
   obtain ⟨xs,⟨hxl,hx⟩,hp,hf⟩:=hpr 0 _ rfl
   rcases hx with ⟨rfl,h0⟩ | ⟨g,cap,cur,rfl,_,hg,hn,hcap,hcs,hct⟩
   · have hl:l = []:=List.eq_nil_of_length_eq_zero h0
     subst hl
     refine (ZmV w).mono ?_
     rintro e w' ⟨rfl,rfl⟩
     refine ⟨.tuple #[],F,rfl,hw,⟨rfl,rfl,rfl,Nat.le_refl _,fun _ _ _=>rfl,fun _ _=>rfl,fun n hn b hb=>.inl ⟨n,hn,hb⟩⟩,hle,⟨[],rfl,trivial⟩,fun i h hi=>?_⟩
     match i,hi with
     | 0,hi=>simp at hi;subst hi;exact ⟨xs,⟨hxl,.inl ⟨rfl,rfl⟩⟩,by simpa using hp,hf⟩
   · have hgs:g<w.heap.size:=(Array.getElem?_eq_some_iff.1 hg).1
     obtain ⟨hxe,hin⟩:=Zhy hp
     have hcl:l.length≤cur.size:=by rw [hcs];omega
     have hbig:l.length<4611686018427387904:=by omega
     have hcur:∀ j (hj:j<l.length),cur[j]? = some (.int .i64 l[j]):=fun j hj=>by
       have h1:(cur.toList.take (l.length*1))[j]? = (l.map (Value.int .i64))[j]?:=by rw [hct,hxe]
       rw [List.getElem?_take_of_lt (by omega)] at h1
       simpa [hj] using h1
     have hH:Go.Sort.Holds (Value.int .i64) w g 0 l.toArray:=fun j hj=>by
       have hj':j<l.length:=by simpa using hj
       refine ⟨?_,?_⟩
       · rw [Zn7 hj',Nat.zero_add,Za0 hg];exact hcur j hj'
       · simp [World.frozen?,hg]
     have hcalls:Calls Tryz.prog 103 #[.slice (some ⟨g,0,none⟩) l.length cap] w fun e w'=>e = .returned (.tuple #[]) ∧ ∃ n os,w' = Go.Sort.grow (Go.Sort.putRow (Value.int .i64) (Go.Sort.ahead w n) g 0 (l.mergeSort leI).toArray) os:=Go.Proofs.Any.slices_Sort_int Zkp g 0 cap l w hH hgs hbig
     refine hcalls.mono ?_
     rintro e w' ⟨rfl,n,os,rfl⟩
     have hsl:(l.mergeSort leI).length=l.length:=List.length_mergeSort l
     have hheap:=fun b hb=>Zjf (n:=n) (d:=l.mergeSort leI) (os:=os) hg b hb
     have hsz:(Go.Sort.grow (Go.Sort.putRow (Value.int .i64) (Go.Sort.ahead w n) g 0 (l.mergeSort leI).toArray) os).heap.size=w.heap.size+os.size:=by simp [Go.Sort.ahead]
     have hfg:F 1 g:=(hf g).2 rfl
     have hst:Stp (List.range' 1 1) w F (Go.Sort.grow (Go.Sort.putRow (Value.int .i64) (Go.Sort.ahead w n) g 0 (l.mergeSort leI).toArray) os) F:=
       ⟨rfl,rfl,rfl,by rw [hsz];omega,fun b hb hn=>by
         rw [hheap b hb,if_neg (fun e=>by subst e;exact hn 1 (by simp) hfg)],fun _ _=>rfl,fun n hn b hb=>.inl ⟨n,hn,hb⟩⟩
     refine ⟨.tuple #[],F,rfl,⟨hw.dis,fun n b hb=>by rw [hsz];have:=hw.bd n b hb;omega⟩,hst,hle,⟨[],rfl,trivial⟩,fun i h hi=>?_⟩
     match i,hi with
     | 0,hi=>
       simp only [List.getElem?_cons_zero,Option.some.injEq] at hi
       subst hi
       refine ⟨(l.mergeSort leI).map (Value.int .i64),⟨by simp,.inr ⟨g,cap,_,by rw [hsl],Nat.zero_le _,(hheap g hgs).trans (if_pos rfl),by omega,hcap,by simp [Go.Sort.putCells,hcs],?_⟩⟩,Zfl fun x hx=>hin x ((List.mergeSort_perm l leI).mem_iff.1 hx),hf⟩
       rw [Nat.mul_one];exact Zoa (by omega)
theorem Zcr {α:Type} [Inhabited α] {p:α→Bool} {l:List α} {j:Nat} (h:j<l.length):(l.take (j+1)).filter p=(l.take j).filter p++if p (Go.Gm.nth l j)=true then [Go.Gm.nth l j] else []:=by
 rw [Zt h,List.filter_append]
 congr 1
 by_cases e:p (Go.Gm.nth l j)=true
 · rw [if_pos e];simp [e]
 · rw [if_neg e];simp at e;simp [e]
def Zag {α:Type} [Inhabited α] (p:α→Bool) (l:List α):Int:=match l.findIdx? p with
 | some i=>i
 | none=>-1
theorem ZbJ {α:Type} [Inhabited α] {p:α→Bool} {l:List α} (h:∀ k,k<l.length→p (Go.Gm.nth l k)=false):Zag p l = -1:=by
 unfold Zag
 have:l.findIdx? p=none:=List.findIdx?_eq_none_iff.2 fun x hx=>by
   obtain ⟨k,hk,rfl⟩:=List.mem_iff_getElem.1 hx
   rw [← Zq hk];exact h k hk
 rw [this]
theorem ZcZ {α:Type} [Inhabited α] {p:α→Bool} {l:List α} {i:Nat} (hi:i<l.length) (h:p (Go.Gm.nth l i)=true) (h2:∀ k,k<i→p (Go.Gm.nth l k)=false):Zag p l=i:=by
 unfold Zag
 have:l.findIdx? p=some i:=List.findIdx?_eq_some_iff_getElem.2 ⟨hi,by rw [← Zq hi];exact h,fun k hk=>by rw [← Zq (by omega),h2 k hk];decide⟩
 rw [this]
theorem ZaJ {α:Type} [Inhabited α] (p:α→Bool) (l:List α):(Zag p l = -1 ∧ ∀ k,k<l.length→p (Go.Gm.nth l k)=false) ∨ ∃ i:Nat,Zag p l=i∧i<l.length∧p (Go.Gm.nth l i)=true ∧ ∀ k,k<i→p (Go.Gm.nth l k)=false:=by
 cases h:l.findIdx? p with
 | none=>
   left
   refine ⟨by unfold Zag;rw [h],fun k hk=>?_⟩
   have:=List.findIdx?_eq_none_iff.1 h l[k] (List.getElem_mem hk)
   rw [Zq hk];exact this
 | some i=>
   right
   obtain ⟨h1,h2,h3⟩:=List.findIdx?_eq_some_iff_getElem.1 h
   refine ⟨i,by unfold Zag;rw [h],h1,by rw [Zq h1];exact h2,fun k hk=>?_⟩
   rw [Zq (by omega)]
   simpa using h3 k hk
theorem ZcP {α:Type} [Inhabited α] {p:α→Bool} {l:List α} (h:∀ k,k<l.length→p (Go.Gm.nth l k)=false):l.filter (fun x=>!p x)=l:=by
 rw [List.filter_eq_self]
 intro x hx
 obtain ⟨k,hk,rfl⟩:=List.mem_iff_getElem.1 hx
 rw [← Zq hk,h k hk];rfl
theorem Zej {α:Type} [Inhabited α] {p:α→Bool} {l:List α} {i:Nat} (hi:i<l.length) (hip:p (Go.Gm.nth l i)=true) (hib:∀ k,k<i→p (Go.Gm.nth l k)=false):l.take i=(l.take (i+1)).filter fun x=>!p x:=by
 have h:(l.take i).filter (fun x=>!p x)=l.take i:=ZcP fun k hk=>by
   rw [List.length_take] at hk
   rw [Zq (by rw [List.length_take];omega),List.getElem_take,← Zq (by omega)]
   exact hib k (by omega)
 rw [Zcr (p:=fun x=>!p x) hi,hip,h];simp
theorem ZiP:inR .i64 0:=by show IntKind.min .i64≤0∧0≤IntKind.max .i64;decide
theorem Zc1 (l:List Int) (hl:l.length≤1000000):FnG Tryz.prog 82 1 [.sl rInt l] [.star []] (PV.one) (fun v=>[Zy 3 1 rInt l v]):=by
 refine FnG.mk Tryz.func82 rfl Tryz.ntmps82 rfl (by kernel_rfl) ?_
 intro B F0 a w F hB hG hS
 obtain ⟨F,hS⟩:=hS.nm [0] [0] rfl rfl
 refine wp_seq ?_
 refine Za hS (qC qZ) hB [2,0] [0] rfl rfl fun a w F hS=>Zb (wp_seq (wp_seq ?_))
 refine Za hS (qM rfl rfl (qf (Zdp Tryz.underlying41 .t) r1 qz qZ)) hB [4,2,0] [0] rfl rfl fun a w F hS=>?_
 obtain ⟨β4,hβ4,hS⟩:=hS.pickBool 4 rfl
 obtain ⟨F,hS⟩:=hS.nm [4,2,0] [0] rfl rfl
 refine Zb ?_
 refine Zd hS rfl (fun hc0=>?_) (fun hc0=>?_)
 ·skip
  have hg:l = []:=hβ4 hc0
  refine wp_seq ?_
  refine Za hS (qC qZ) hB [2,0] [0] rfl rfl fun a w F hS=>Zb (wp_ret (Zf ?_))
  have hS:=hS.fresh 1 rfl
  have hS:=hS.turn 1 rfl (Zav (T:=3) (sz:=1) (R:=rInt))
  have hS:=hS.turn 1 rfl (r':=RS.hp (Zy 3 1 rInt l (.slice none 0 0))) (fun _ _ _ _ h=>by rw [hg];exact h)
  refine ZaS (h':=fun v=>Zy 3 1 rInt l v) hG hS rfl (.tmp rfl .nil) (.one .one) rfl
 have hg:l = [] ++ l:=rfl
 refine wp_skip (Zb (wp_seq ?_))
 refine Zc hS (qf (ZaL (R:=rInt) (sz:=1) 101 Tryz.underlying41 (by kernel_rfl)) trivial qz (qM rfl rfl (qf (o_append (sz:=1) (bs:=8) 101 (.mk' Tryz.underlying41 (by kernel_rfl) (by kernel_rfl)) (by intro x;rfl) .same (.sl .t) (by simp only [List.length_append,List.length_nil];omega) (by decide)) ⟨rfl,rfl,trivial⟩ ⟨rfl,trivial⟩ (qN rfl rfl qZ)))) hB [2] [101,0] (fun _=>rfl) (fun _=>rfl) fun τ a w F hS=>?_
 try dsimp only [RS.sub,SF.sub,CF.sub,csub,Anc.sub,List.map,Zg,xL,xM,Nat.reduceAdd,xD,xE,xT,xU,xC,xN,zCF,rInt] at hS
 generalize τ 7=v7 at hS
 refine Zb (wp_ret ?_)
 obtain ⟨F,hS⟩:=hS.rename 101 1 rfl rfl
 have hS:=hS.turn 1 rfl (r':=RS.hp (Zy 3 1 rInt l v7)) (fun _ _ _ _ h=>by rw [hg];exact h)
 refine ZaS (h':=fun v=>Zy 3 1 rInt l v) hG hS rfl (.tmp rfl .nil) (.one .one) rfl
theorem Zov (l : List Int) (p : Int → Bool) (f : FuncId) (fn : Func) (cps : List PV) (hf : Tryz.prog.funcs[f]? = some fn) (hb : fn.body.isSome = true) (hnn : (fn.name == "runtime.NumGoroutine") = false) (hw : ∀ x, FnP Tryz.prog f (.int .i64 x :: cps) (.bool (p x))) : FnP Tryz.prog 222 [.sl rInt l, .clos f cps] (.int .i64 (Zag p l)) := by
 refine FnP.mk Tryz.func222 rfl Tryz.ntmps222 rfl ?_
 intro B a w F hB hfr hS
 have hll:=Sat.lenSl hS (i:=0) rfl
 refine wp_seq ?_
 refine Za hS (qI qZ) hB [4,1,0] [0] rfl rfl fun a w F hS=>Zb (wp_seq (wp_seq ?_))
 refine Za hS (qM rfl rfl (qu Tryz.underlying41 r1 (qJ qZ))) hB [8,7,4,1,0] [0] rfl rfl fun a w F hS=>Zb (wp_block ?_)
 refine Zl (σ:=(Nat)) [0,1,4,7] [0] (fun s=>[(8,.pv (.int .i64 (s:Int)))]) (fun s=>[]) (fun s=>s≤l.length∧(∀ k,k<s→p (Go.Gm.nth l k)=false)) (fun s=>l.length - s) (0) hS ⟨rfl,rfl,rfl,rfl,rfl,trivial⟩ ⟨rfl,trivial⟩ ⟨Nat.zero_le _,fun k hk=>absurd hk (Nat.not_lt_zero k)⟩ ?_
 clear hS;intro i a w F hC hS
 try dsimp only at hC
 obtain ⟨F,hS⟩:=hS.nm [8,7,4,1,0] [0] rfl rfl
 try dsimp only at hS
 obtain ⟨hi,hq⟩:=hC
 refine wp_seq ?_
 refine Za hS (qL r2) hB [9,8,7,4,1,0] [0] rfl rfl fun a w F hS=>Zb (wp_seq ?_)
 refine Zd hS rfl (fun hc0=>?_) (fun hc0=>?_)
 ·skip
  have hil:i<l.length:=by simp at hc0;omega
  refine wp_skip (Zb (wp_seq (wp_block (wp_seq ?_))))
  refine Za hS (qM rfl rfl (qN rfl rfl qZ)) hB [8,7,5,4,1,0] [0] rfl rfl fun a w F hS=>Zb (wp_seq ?_)
  refine Za hS (qM rfl rfl (qM rfl rfl (qM rfl rfl (qy 1 Tryz.underlying41 r2 (qf (oR false 1 .t) r1 qz (qf (Z2 (avs:=[.int .i64 (Go.Gm.nth l i)]) .t (hw (Go.Gm.nth l i)) hf hb hnn (Args.one .t)) r2 qz qZ)))))) hB [16,8,7,5,4,1,0] [0] rfl rfl fun a w F hS=>?_
  try simp only [Int.toNat_natCast] at hS
  refine Zb ?_
  refine Zd hS rfl (fun hc1=>?_) (fun hc1=>?_)
  ·skip
   have hg:(i:Int)=Zag p l:=(ZcZ hil hc1 hq).symm
   refine wp_seq ?_
   refine Za hS (qM rfl rfl (qN rfl rfl qZ)) hB [8,7,4,1,0] [0] rfl rfl fun a w F hS=>Zb (wp_ret (Zk (Zf (Zf (Zk (Zf ?_))))))
   refine Zn hfr hS rfl rfl rfl (.int hg)
  have hne:p (Go.Gm.nth l i)=false:=hc1
  refine wp_skip (Zh (Zb ?_))
  refine Za hS (qp r1 (qM rfl rfl qZ)) hB [8,7,4,1,0] [0] rfl rfl fun a w F hS=>Zb ?_
  replace hS:=hS.ent (i:=8) (s':=.pv (.int .i64 ((i+1:Nat):Int))) rfl (.int (Ze (by omega)))
  obtain ⟨F,hS⟩:=hS.nm [7,4,1,0,8] [0] rfl rfl
  exact ⟨(i+1),F,⟨by omega,(fun k hk=>by rcases Nat.lt_or_eq_of_le (Nat.le_of_lt_succ hk) with h | h;exact hq k h;rw [h];exact hne)⟩,hS,by omega⟩
 have hil:i=l.length:=by simp at hc0;omega
 have hg : -1=Zag p l:=(ZbJ fun k hk=>hq k (by simp at hc0;omega)).symm
 refine wp_exit (Zi (Zi (Zo (Zb (wp_seq ?_)))))
 refine Za hS (qI qZ) hB [4] [0] rfl rfl fun a w F hS=>Zb (wp_ret ?_)
 refine Zn hfr hS rfl rfl rfl (.int hg)
theorem Zo2 (v : Value) (l : List Int) (hll : l.length ≤ 1000000) (p : Int → Bool) (f : FuncId) (fn : Func) (cps : List PV) (hf : Tryz.prog.funcs[f]? = some fn) (hb : fn.body.isSome = true) (hnn : (fn.name == "runtime.NumGoroutine") = false) (hw : ∀ x, FnP Tryz.prog f (.int .i64 x :: cps) (.bool (p x))) : FnG Tryz.prog 210 1 [.is v, .clos f cps] [Zy 3 1 rInt l v] (PV.one) (fun v => [Zy 3 1 rInt (l.filter fun x => !p x) v]) := by
 refine FnG.mk Tryz.func210 rfl Tryz.ntmps210 rfl (by kernel_rfl) ?_
 intro B F0 a w F hB hG hS
 replace hS:=hS.turn 1 rfl (r':=.ob (.val v) (Zy 3 1 rInt l)) (fun _ _ _ _ h=>h)
 refine wp_seq ?_
 refine Za hS (qC qZ) hB [4,1,0] [1,0] rfl rfl fun a w F hS=>Zb (wp_seq ?_)
 refine Za hS (qM rfl rfl (qM rfl rfl (qf (OpC.lendRow 1 [8] (oP (Zov l p f fn cps hf hb hnn hw) Tryz.func222 (Args.two .t .t)) ⟨rfl,trivial,trivial⟩ (.pv (fun _ _ _ _ h=>h)) trivial (by rfl)) r2 r1 (qN rfl rfl qZ)))) hB [5,4,1,0] [1,0] rfl rfl fun a w F hS=>Zb (wp_seq (wp_seq ?_))
 refine Za hS (qM rfl rfl (qf (o_eql .t qi) r1 qz qZ)) hB [12,5,4,1,0] [1,0] rfl rfl fun a w F hS=>Zb ?_
 refine Zd hS rfl (fun hc0=>?_) (fun hc0=>?_)
 ·skip
  have hno:=(ZaJ p l).resolve_right (by rintro ⟨i,h1,_⟩;simp at hc0;omega)
  have hg:(l.filter fun x=>!p x)=l:=ZcP hno.2
  refine wp_seq ?_
  refine Za hS (qM rfl rfl (qN rfl rfl qZ)) hB [5,4,1,0] [1,0] rfl rfl fun a w F hS=>Zb (wp_ret (Zf ?_))
  have hS:=hS.turn 1 rfl (r':=RS.hp (Zy 3 1 rInt (l.filter fun x=>!p x) v)) (fun _ _ _ _ h=>by rw [hg];exact h)
  refine ZaS (h':=fun v=>Zy 3 1 rInt (l.filter fun x=>!p x) v) hG hS rfl (.tmp rfl .nil) (.one .one) rfl
 obtain ⟨i0,hi0,hi1,hip,hib⟩:=(ZaJ p l).resolve_left (by rintro ⟨h1,_⟩;simp [h1] at hc0)
 have hst0:=Zej hi1 hip hib
 refine wp_skip (Zb (wp_seq (wp_seq ?_)))
 refine Za hS (qM rfl rfl (qp r1 (qN rfl rfl qZ))) hB [6,5,4,1,0] [1,0] rfl rfl fun a w F hS=>Zb (wp_block ?_)
 have hC0:i0<i0+1∧i0+1≤l.length∧l.length=l.length∧l.take i0=(l.take (i0+1)).filter (fun x=>!p x) ∧ ∀ k,i0+1≤k→k<l.length→Go.Gm.nth l k=Go.Gm.nth l k:=⟨by omega,by omega,rfl,hst0,fun k _ _=>rfl⟩
 replace hS:=hS.ent (i:=5) (s':=.pv (.int .i64 (i0:Int))) rfl (.int hi0)
 replace hS:=hS.ent (i:=6) (s':=.pv (.int .i64 ((i0+1:Nat):Int))) rfl (.int (by rw [hi0,ZH (by omega)];omega))
 refine Zl (σ:=Nat×Nat×List Int) [0,1,4] [0] (fun s=>[(5,.pv (.int .i64 (s.1:Int))),(6,.pv (.int .i64 (s.2.1:Int)))]) (fun s=>[(1,.ob (.val v) (Zy 3 1 rInt s.2.2))]) (fun s=>s.1<s.2.1∧s.2.1≤l.length∧s.2.2.length=l.length∧s.2.2.take s.1=(l.take s.2.1).filter (fun x=>!p x) ∧ ∀ k,s.2.1≤k→k<l.length→Go.Gm.nth s.2.2 k=Go.Gm.nth l k) (fun s=>l.length - s.2.1) ((i0),(i0+1),(l)) hS ⟨rfl,rfl,rfl,rfl,rfl,trivial⟩ ⟨rfl,rfl,trivial⟩ hC0 ?_
 clear hS;intro s a w F hC hS
 obtain ⟨i,j,l1⟩:=s
 try dsimp only at hC
 obtain ⟨F,hS⟩:=hS.nm [6,5,4,1,0] [1,0] rfl rfl
 try dsimp only at hS
 obtain ⟨hij,hj,hll1,htk,hrest⟩:=hC
 refine wp_seq (wp_seq ?_)
 refine Za hS (qM rfl rfl (qM rfl rfl (qf (Z6 1 Tryz.underlying41 .is) r1 r1 (qL r2)))) hB [19,6,5,4,1,0] [1,0] rfl rfl fun a w F hS=>Zb ?_
 refine Zd hS rfl (fun hc1=>?_) (fun hc1=>?_)
 ·skip
  have hjl:j<l.length:=by simp at hc1;omega
  have hnj:Go.Gm.nth l1 j=(Go.Gm.nth l j):=hrest j (Nat.le_refl _) hjl
  have hfs:=Zcr (p:=fun x=>!p x) hjl
  refine wp_skip (Zb (wp_seq (wp_block (wp_seq ?_))))
  refine Za hS (qM rfl rfl (qM rfl rfl (qf (o_indexAddr_row (sz:=1) 1 (.mk Tryz.underlying41 (by kernel_rfl)) .is .t (by omega) (by omega) (by rfl)) r2 r1 (qf (ZaC (ag:=false) (sz':=1) (sz:=1) 1 .t (by intro x;rfl) (by omega) (by kernel_rfl) (by kernel_rfl) (by kernel_rfl)) r1 r1 (qN rfl rfl qZ))))) hB [7,6,5,4,1,0] [1,0] rfl rfl fun a w F hS=>?_
  try simp only [Int.toNat_natCast] at hS
  rw [hnj] at hS
  refine Zb (wp_seq ?_)
  refine Za hS (qM rfl rfl (qM rfl rfl (qf (Z2 (avs:=[.int .i64 (Go.Gm.nth l j)]) .t (hw (Go.Gm.nth l j)) hf hb hnn (Args.one .t)) r2 qz (qf (o_not .t) r1 qz qZ)))) hB [29,7,6,5,4,1,0] [1,0] rfl rfl fun a w F hS=>Zb ?_
  refine Zd hS rfl (fun hc2=>?_) (fun hc2=>?_)
  ·skip
   have hp:p (Go.Gm.nth l j)=false:=by simpa using hc2
   obtain ⟨i2,hi2e⟩:∃ i2,i2=i+1:=⟨_,rfl⟩
   have hi2:IntKind.wrap .i64 ((i:Int)+1)=(i2:Int):=by rw [hi2e];exact Ze (by omega)
   obtain ⟨l2,hl2⟩:∃ l2,l2=l1.set i (Go.Gm.nth l j):=⟨_,rfl⟩
   have hC2:i2<j+1∧j+1≤l.length∧l2.length=l.length∧l2.take i2=(l.take (j+1)).filter (fun x=>!p x) ∧ ∀ k,j+1≤k→k<l.length→Go.Gm.nth l2 k=Go.Gm.nth l k:=⟨by omega,by omega,by rw [hl2,List.length_set];exact hll1,by rw [hl2,hi2e,hfs,hp,← htk,Zt (by rw [List.length_set];omega),List.take_set_of_le (Nat.le_refl _),Zq (by rw [List.length_set];omega),List.getElem_set_self];rfl,fun k hk hk2=>by rw [hl2,Zq (by rw [List.length_set];omega),List.getElem_set_ne (by omega),← Zq (by omega)];exact hrest k (by omega) hk2⟩
   refine wp_seq ?_
   refine Za hS (qM rfl rfl (qM rfl rfl (qM rfl rfl (qf (o_indexAddr_row (sz:=1) 1 (.mk Tryz.underlying41 (by kernel_rfl)) .is .t (by omega) (by omega) (by rfl)) r2 r1 (qf (ZbS (R:=rInt) (sz:=1) (v:=(Go.Gm.nth l j)) 1 .t (by intro x;rfl) (by omega) .t rfl one_int (by kernel_rfl)) r2 r1 qZ))))) hB [6,5,4,1,0] [1,0] rfl rfl fun a w F hS=>?_
   try simp only [Int.toNat_natCast] at hS
   rw [← hl2] at hS
   refine Zb ?_
   refine Za hS (qM rfl rfl (qp r1 (qN rfl rfl qZ))) hB [6,5,4,1,0] [1,0] rfl rfl fun a w F hS=>Zh (Zb ?_)
   refine Za hS (qM rfl rfl (qp r1 (qN rfl rfl qZ))) hB [6,5,4,1,0] [1,0] rfl rfl fun a w F hS=>Zb ?_
   have hmu:l.length - (j+1)<l.length - j:=by omega
   replace hS:=hS.ent (i:=5) (s':=.pv (.int .i64 (i2:Int))) rfl (.int hi2)
   replace hS:=hS.ent (i:=6) (s':=.pv (.int .i64 ((j+1:Nat):Int))) rfl (.int (Ze (by omega)))
   obtain ⟨F,hS⟩:=hS.nm [4,1,0,6,5] [0,1] rfl rfl
   exact ⟨((i2),(j+1),(l2)),F,hC2,hS,hmu⟩
  have hp:p (Go.Gm.nth l j)=true:=by simpa using hc2
  obtain ⟨i2,hi2e⟩:∃ i2,i2=i:=⟨_,rfl⟩
  have hi2:(i:Int)=(i2:Int):=by rw [hi2e]
  obtain ⟨l2,hl2⟩:∃ l2,l2=l1:=⟨_,rfl⟩
  rw [← hl2] at hS
  have hC2:i2<j+1∧j+1≤l.length∧l2.length=l.length∧l2.take i2=(l.take (j+1)).filter (fun x=>!p x) ∧ ∀ k,j+1≤k→k<l.length→Go.Gm.nth l2 k=Go.Gm.nth l k:=⟨by omega,by omega,by rw [hl2];exact hll1,by rw [hl2,hi2e,hfs,hp,htk];simp,fun k hk hk2=>by rw [hl2];exact hrest k (by omega) hk2⟩
  refine wp_skip (Zh (Zb ?_))
  refine Za hS (qM rfl rfl (qp r1 (qN rfl rfl qZ))) hB [6,5,4,1,0] [1,0] rfl rfl fun a w F hS=>Zb ?_
  have hmu:l.length - (j+1)<l.length - j:=by omega
  replace hS:=hS.ent (i:=5) (s':=.pv (.int .i64 (i2:Int))) rfl (.int hi2)
  replace hS:=hS.ent (i:=6) (s':=.pv (.int .i64 ((j+1:Nat):Int))) rfl (.int (Ze (by omega)))
  obtain ⟨F,hS⟩:=hS.nm [4,1,0,6,5] [0,1] rfl rfl
  exact ⟨((i2),(j+1),(l2)),F,hC2,hS,hmu⟩
 have hjl:j=l.length:=by simp at hc1;omega
 have hil2:i<l.length:=by omega
 have hg:(l.filter fun x=>!p x)=(l1.take i++List.replicate (l1.length - i) (0:Int)).take i:=by rw [List.take_append_of_le_length (by rw [List.length_take];omega),List.take_take,Nat.min_self,htk,hjl,List.take_length]
 refine wp_exit (Zi (Zi (Zo (Zb (wp_seq ?_)))))
 refine Za hS (qM rfl rfl (qM rfl rfl (qf (ZaG (sz:=1) 1 (.mk Tryz.underlying41 (by kernel_rfl)) .is .t (by omega) (by omega)) r2 r1 (qf (Zcg (R:=rInt) (z:=(0:Int)) (zs:=[.int .i64 0]) 1 Tryz.underlying41 (by kernel_rfl) rfl rfl (fun _ _=>⟨⟨rfl,rfl,ZiP⟩,trivial⟩) (by intro x;rfl) .t (by simp;omega)) r1 r1 qZ)))) hB [5,4,0] [1,0] rfl rfl fun a w F hS=>Zb (wp_seq ?_)
 refine Zc hS (qM rfl rfl (qM rfl rfl (qf (ZcB (sz:=1) 1 (.mk Tryz.underlying41 (by kernel_rfl)) (by intro x;rfl) .is .t (by omega) (by simp;omega)) r2 r1 (qN rfl rfl qZ)))) hB [4] [1,0] (fun _=>rfl) (fun _=>rfl) fun τ a w F hS=>?_
 try dsimp only [RS.sub,SF.sub,CF.sub,csub,Anc.sub,List.map,rInt] at hS
 generalize τ 41=v41 at hS
 refine Zb (wp_ret ?_)
 have hS:=hS.turn 1 rfl (r':=RS.hp (Zy 3 1 rInt (l.filter fun x=>!p x) v41)) (fun _ _ _ _ h=>by rw [hg];exact h)
 refine ZaS (h':=fun v=>Zy 3 1 rInt (l.filter fun x=>!p x) v) hG hS rfl (.tmp rfl .nil) (.one .one) rfl
def ZD {α:Type} [DecidableEq α]:List α→List α
 | []=>[]
 | [x]=>[x]
 | x :: y :: l=>if x=y then ZD (y :: l) else x :: ZD (y :: l)
theorem Zch {α:Type} [DecidableEq α] (a b:α):∀ l:List α,ZD (l ++ [a,b])=if a=b then ZD (l ++ [a]) else ZD (l ++ [a]) ++ [b]
 | []=>by
   show (if a=b then [b] else a :: [b])=if a=b then [a] else [a] ++ [b]
   split
   · rename_i h;rw [h]
   · rfl
 | [x]=>by
   have ih:=Zch a b []
   show (if x=a then ZD ([] ++ [a,b]) else x :: ZD ([] ++ [a,b]))=if a=b then (if x=a then ZD ([] ++ [a]) else x :: ZD ([] ++ [a])) else (if x=a then ZD ([] ++ [a]) else x :: ZD ([] ++ [a])) ++ [b]
   rw [ih]
   by_cases h1:x=a <;> by_cases h2:a=b <;> simp [h1,h2]
 | x :: y :: l=>by
   have ih:=Zch a b (y :: l)
   show (if x=y then ZD (y :: l ++ [a,b]) else x :: ZD (y :: l ++ [a,b]))=if a=b then (if x=y then ZD (y :: l ++ [a]) else x :: ZD (y :: l ++ [a])) else (if x=y then ZD (y :: l ++ [a]) else x :: ZD (y :: l ++ [a])) ++ [b]
   rw [ih]
   by_cases h1:x=y <;> by_cases h2:a=b <;> simp [h1,h2]
theorem ZdP {α:Type} [DecidableEq α] [Inhabited α] {l:List α} {p:Nat} (h1:1≤p) (h2:p<l.length):ZD (l.take (p+1))=if Go.Gm.nth l (p - 1)=Go.Gm.nth l p then ZD (l.take p) else ZD (l.take p) ++ [Go.Gm.nth l p]:=by
 obtain ⟨q,rfl⟩:∃ q,p=q+1:=⟨p - 1,by omega⟩
 rw [Zt h2,Zt (show q<l.length by omega),List.append_assoc]
 exact Zch _ _ _
theorem Zeq {α:Type} [DecidableEq α]:∀ {l:List α},l.length≤1→ZD l=l
 | [],_=>rfl
 | [x],_=>rfl
 | x :: y :: l,h=>by simp at h
theorem Zpq (v:Value) (l:List Int) (hll:l.length≤1000000):FnG Tryz.prog 193 1 [.is v] [Zy 3 1 rInt l v] (PV.one) (fun v=>[Zy 3 1 rInt (ZD l) v]):=by
 refine FnG.mk Tryz.func193 rfl Tryz.ntmps193 rfl (by kernel_rfl) ?_
 intro B F0 a w F hB hG hS
 replace hS:=hS.turn 1 rfl (r':=.ob (.val v) (Zy 3 1 rInt l)) (fun _ _ _ _ h=>h)
 refine wp_seq ?_
 refine Za hS (qC qZ) hB [2,0] [1,0] rfl rfl fun a w F hS=>Zb (wp_seq (wp_seq ?_))
 refine Za hS (qM rfl rfl (qf (Z6 1 Tryz.underlying41 .is) r1 r1 (qf (Zbu .t qi) r1 qz qZ))) hB [8,2,0] [1,0] rfl rfl fun a w F hS=>Zb ?_
 refine Zd hS rfl (fun hc0=>?_) (fun hc0=>?_)
 ·skip
  have hg:(ZD l)=l:=Zeq (by simp at hc0;omega)
  refine wp_seq ?_
  refine Za hS (qM rfl rfl (qN rfl rfl qZ)) hB [2,0] [1,0] rfl rfl fun a w F hS=>Zb (wp_ret (Zf ?_))
  have hS:=hS.turn 1 rfl (r':=RS.hp (Zy 3 1 rInt (ZD l) v)) (fun _ _ _ _ h=>by rw [hg];exact h)
  refine ZaS (h':=fun v=>Zy 3 1 rInt (ZD l) v) hG hS rfl (.tmp rfl .nil) (.one .one) rfl
 have hl2:2≤l.length:=by simp at hc0;omega
 refine wp_skip (Zb (wp_seq (wp_seq ?_)))
 refine Za hS (qI qZ) hB [3,2,0] [1,0] rfl rfl fun a w F hS=>Zb (wp_block ?_)
 refine Zl (σ:=Nat) [0,2] [0,1] (fun s=>[(3,.pv (.int .i64 (s:Int)))]) (fun s=>[]) (fun s=>1≤s∧s≤l.length∧ZD (l.take s)=l.take s) (fun s=>l.length - s) (1) hS ⟨rfl,rfl,rfl,trivial⟩ ⟨rfl,rfl,trivial⟩ ⟨by omega,by omega,Zeq (by rw [List.length_take];omega)⟩ ?_
 clear hS;intro k a w F hC hS
 try dsimp only at hC
 obtain ⟨F,hS⟩:=hS.nm [3,2,0] [1,0] rfl rfl
 try dsimp only at hS
 obtain ⟨hk1,hkl,hkc⟩:=hC
 have hkw:IntKind.wrap .i64 ((k:Int) - 1)=(k:Int) - 1:=ZH (by omega)
 refine wp_seq (wp_seq ?_)
 refine Za hS (qM rfl rfl (qM rfl rfl (qf (Z6 1 Tryz.underlying41 .is) r1 r1 (qL r2)))) hB [13,3,2,0] [1,0] rfl rfl fun a w F hS=>Zb ?_
 refine Zd hS rfl (fun hc1=>?_) (fun hc1=>?_)
 ·skip
  have hil:k<l.length:=by simp at hc1;omega
  have hst:=ZdP (l:=l) hk1 hil
  have hy0:(IntKind.wrap .i64 ((k:Int) - 1)).toNat=k - 1:=by rw [hkw];omega
  refine wp_skip (Zb (wp_seq (wp_block (wp_seq ?_))))
  refine Zu hS (qM rfl rfl (qM rfl rfl (qf (o_indexAddr_row (sz:=1) 1 (.mk Tryz.underlying41 (by kernel_rfl)) .is .t (by omega) (by omega) (by rfl)) r2 r1 (qf (ZaC (ag:=false) (sz':=1) (sz:=1) 1 .t (by intro x;rfl) (by omega) (by kernel_rfl) (by kernel_rfl) (by kernel_rfl)) r1 r1 (qM rfl rfl (qM rfl rfl (qf (o_sub .t qi) r1 qz (qf (o_indexAddr_row (sz:=1) 1 (.mk Tryz.underlying41 (by kernel_rfl)) .is .t (by rw [hkw];omega) (by rw [hkw];omega) (by rfl)) r2 r1 (qf (ZaC (ag:=false) (sz':=1) (sz:=1) 1 .t (by intro x;rfl) (by rw [hkw];omega) (by kernel_rfl) (by kernel_rfl) (by kernel_rfl)) r1 r1 (qf (o_eql .t .t) r2 qz qZ)))))))))) hB [25,3,2,0] [1,0] rfl rfl fun a w F hS=>?_
  try dsimp only [List.map,xD,xE,xT,xU,ldSF,rInt] at hS
  try simp only [Int.toNat_natCast] at hS
  refine Zb ?_
  refine Zd hS rfl (fun hc2=>?_) (fun hc2=>?_)
  ·skip
   have heq:Go.Gm.nth l (k - 1)=Go.Gm.nth l k:=by rw [hy0] at hc2;simp at hc2;exact hc2.symm
   rw [if_pos heq,hkc] at hst
   have hst0:=hst.symm
   refine wp_seq ?_
   refine Za hS (qM rfl rfl (qM rfl rfl (qf (ZaG (sz:=1) 1 (.mk Tryz.underlying41 (by kernel_rfl)) .is .t (by omega) (by omega)) r2 r1 (qN rfl rfl qZ)))) hB [4,3,2,0] [1,0] rfl rfl fun a w F hS=>Zb (wp_seq (wp_seq ?_))
   refine Za hS (qI qZ) hB [5,4,3,2,0] [1,0] rfl rfl fun a w F hS=>Zb (wp_block ?_)
   have hC0:1≤1∧1≤l.length - k∧k≤k∧k≤k+1 - 1∧l.length=l.length∧l.take k=ZD (l.take (k+1)) ∧ ∀ q,k+1 - 1≤q→q<l.length→Go.Gm.nth l q=Go.Gm.nth l q:=⟨by omega,by omega,by omega,by omega,rfl,hst0,fun q _ _=>rfl⟩
   refine Zl (σ:=Nat×Nat×List Int) [0,2,4] [0] (fun s=>[(3,.pv (.int .i64 (s.1:Int))),(5,.pv (.int .i64 (s.2.1:Int)))]) (fun s=>[(1,.ob (.val v) (Zy 3 1 rInt s.2.2))]) (fun s=>1≤s.2.1∧s.2.1≤l.length - k∧k≤s.1∧s.1≤k+s.2.1 - 1∧s.2.2.length=l.length∧s.2.2.take s.1=ZD (l.take (k+s.2.1)) ∧ ∀ q,k+s.2.1 - 1≤q→q<l.length→Go.Gm.nth s.2.2 q=Go.Gm.nth l q) (fun s=>l.length - s.2.1) ((k),(1),(l)) hS ⟨rfl,rfl,rfl,rfl,rfl,trivial⟩ ⟨rfl,rfl,trivial⟩ hC0 ?_
   clear hS;intro s a w F hC hS
   obtain ⟨k1,j,l1⟩:=s
   try dsimp only at hC
   obtain ⟨F,hS⟩:=hS.nm [5,4,3,2,0] [1,0] rfl rfl
   try dsimp only at hS
   obtain ⟨hj1,hjk,hkk,hkj,hl1,htk,hrest⟩:=hC
   have hjw:IntKind.wrap .i64 ((j:Int) - 1)=(j:Int) - 1:=ZH (by omega)
   refine wp_seq (wp_seq ?_)
   refine Za hS (qM rfl rfl (qM rfl rfl (qf (ZlH 1 Tryz.underlying41 .t (by omega)) r1 r1 (qL r2)))) hB [32,5,4,3,2,0] [1,0] rfl rfl fun a w F hS=>Zb ?_
   refine Zd hS rfl (fun hc3=>?_) (fun hc3=>?_)
   ·skip
    have hjl:k+j<l.length:=by simp at hc3;omega
    have hx1:(Go.Gm.nth l1 (((k:Int)).toNat+((j:Int)).toNat))=Go.Gm.nth l (k+j):=by rw [Int.toNat_natCast,Int.toNat_natCast];exact hrest _ (by omega) hjl
    have hx0:Go.Gm.nth l1 (((k:Int)).toNat+(IntKind.wrap .i64 ((j:Int) - 1)).toNat)=Go.Gm.nth l (k+j - 1):=by rw [hjw,show ((k:Int)).toNat+((j:Int) - 1).toNat=k+j - 1 by omega];exact hrest _ (by omega) (by omega)
    have hstp:=ZdP (l:=l) (p:=k+j) (by omega) hjl
    refine wp_skip (Zb (wp_seq (wp_block (wp_seq ?_))))
    refine Zu hS (qM rfl rfl (qM rfl rfl (qf (o_indexAddr_sub (sz:=1) 1 (.mk Tryz.underlying41 (by kernel_rfl)) .t .t (by omega) (by omega) (by rfl)) r2 r1 (qf (ZaC (ag:=false) (sz':=1) (sz:=1) 1 .t (by intro x;rfl) (by omega) (by kernel_rfl) (by kernel_rfl) (by kernel_rfl)) r1 r1 (qM rfl rfl (qM rfl rfl (qf (o_sub .t qi) r1 qz (qf (o_indexAddr_sub (sz:=1) 1 (.mk Tryz.underlying41 (by kernel_rfl)) .t .t (by rw [hjw];omega) (by rw [hjw];omega) (by rfl)) r2 r1 (qf (ZaC (ag:=false) (sz':=1) (sz:=1) 1 .t (by intro x;rfl) (by rw [hjw];omega) (by kernel_rfl) (by kernel_rfl) (by kernel_rfl)) r1 r1 (qf (o_neq .t .t) r2 qz qZ)))))))))) hB [44,5,4,3,2,0] [1,0] rfl rfl fun a w F hS=>?_
    try dsimp only [List.map,xD,xE,xT,xU,ldSF,rInt] at hS
    try simp only [Int.toNat_natCast] at hS
    refine Zb ?_
    refine Zd hS rfl (fun hc4=>?_) (fun hc4=>?_)
    ·skip
     have hne:¬ Go.Gm.nth l (k+j - 1)=Go.Gm.nth l (k+j):=by rw [← hx1,← hx0];simp at hc4 ⊢;exact fun e=>hc4 e.symm
     rw [if_neg hne] at hstp
     obtain ⟨i2,hi2e⟩:∃ i2,i2=k1+1:=⟨_,rfl⟩
     have hi2:IntKind.wrap .i64 ((k1:Int)+1)=(i2:Int):=by rw [hi2e];exact Ze (by omega)
     obtain ⟨l2,hl2e⟩:∃ l2,l2=l1.set k1 (Go.Gm.nth l1 (k+j)):=⟨_,rfl⟩
     have hx1b:Go.Gm.nth l1 (k+j)=Go.Gm.nth l (k+j):=hrest _ (by omega) hjl
     have hC2:1≤j+1∧j+1≤l.length - k∧k≤i2∧i2≤k+(j+1) - 1∧l2.length=l.length∧l2.take i2=ZD (l.take (k+(j+1))) ∧ ∀ q,k+(j+1) - 1≤q→q<l.length→Go.Gm.nth l2 q=Go.Gm.nth l q:=⟨by omega,by omega,by omega,by omega,by rw [hl2e,List.length_set];exact hl1,by rw [hl2e,hi2e,Zt (by rw [List.length_set];omega),List.take_set_of_le (Nat.le_refl _),htk,Zq (by rw [List.length_set];omega),List.getElem_set_self,hx1b];exact hstp.symm,fun q hq hq2=>by rw [hl2e,Zq (by rw [List.length_set];omega),List.getElem_set_ne (by omega),← Zq (by omega)];exact hrest q (by omega) hq2⟩
     refine wp_seq ?_
     refine Za hS (qM rfl rfl (qM rfl rfl (qM rfl rfl (qM rfl rfl (qf (o_indexAddr_sub (sz:=1) 1 (.mk Tryz.underlying41 (by kernel_rfl)) .t .t (by omega) (by omega) (by rfl)) r2 r1 (qf (ZaC (ag:=false) (sz':=1) (sz:=1) 1 .t (by intro x;rfl) (by omega) (by kernel_rfl) (by kernel_rfl) (by kernel_rfl)) r1 r1 (qf (o_indexAddr_row (sz:=1) 1 (.mk Tryz.underlying41 (by kernel_rfl)) .is .t (by omega) (by omega) (by rfl)) r2 r1 (qf (ZbS (R:=rInt) (sz:=1) (v:=(Go.Gm.nth l1 (((k:Int)).toNat+((j:Int)).toNat))) 1 .t (by intro x;rfl) (by omega) .t rfl one_int (by kernel_rfl)) r2 r1 qZ)))))))) hB [5,4,3,2,0] [1,0] rfl rfl fun a w F hS=>?_
     try simp only [Int.toNat_natCast] at hS
     rw [← hl2e] at hS
     refine Zb ?_
     refine Za hS (qM rfl rfl (qp r1 (qN rfl rfl qZ))) hB [5,4,3,2,0] [1,0] rfl rfl fun a w F hS=>Zh (Zb ?_)
     refine Za hS (qM rfl rfl (qp r1 (qN rfl rfl qZ))) hB [5,4,3,2,0] [1,0] rfl rfl fun a w F hS=>Zb ?_
     have hmu:l.length - (j+1)<l.length - j:=by omega
     replace hS:=hS.ent (i:=3) (s':=.pv (.int .i64 (i2:Int))) rfl (.int hi2)
     replace hS:=hS.ent (i:=5) (s':=.pv (.int .i64 ((j+1:Nat):Int))) rfl (.int (Ze (by omega)))
     obtain ⟨F,hS⟩:=hS.nm [4,2,0,5,3] [0,1] rfl rfl
     exact ⟨((i2),(j+1),(l2)),F,hC2,hS,hmu⟩
    have heq2:Go.Gm.nth l (k+j - 1)=Go.Gm.nth l (k+j):=by rw [← hx1,← hx0];simp at hc4 ⊢;exact hc4.symm
    rw [if_pos heq2] at hstp
    obtain ⟨i2,hi2e⟩:∃ i2,i2=k1:=⟨_,rfl⟩
    have hi2:(k1:Int)=(i2:Int):=by rw [hi2e]
    obtain ⟨l2,hl2e⟩:∃ l2,l2=l1:=⟨_,rfl⟩
    rw [← hl2e] at hS
    have hC2:1≤j+1∧j+1≤l.length - k∧k≤i2∧i2≤k+(j+1) - 1∧l2.length=l.length∧l2.take i2=ZD (l.take (k+(j+1))) ∧ ∀ q,k+(j+1) - 1≤q→q<l.length→Go.Gm.nth l2 q=Go.Gm.nth l q:=⟨by omega,by omega,by omega,by omega,by rw [hl2e];exact hl1,by rw [hl2e,hi2e,htk];exact hstp.symm,fun q hq hq2=>by rw [hl2e];exact hrest q (by omega) hq2⟩
    refine wp_skip (Zh (Zb ?_))
    refine Za hS (qM rfl rfl (qp r1 (qN rfl rfl qZ))) hB [5,4,3,2,0] [1,0] rfl rfl fun a w F hS=>Zb ?_
    have hmu:l.length - (j+1)<l.length - j:=by omega
    replace hS:=hS.ent (i:=3) (s':=.pv (.int .i64 (i2:Int))) rfl (.int hi2)
    replace hS:=hS.ent (i:=5) (s':=.pv (.int .i64 ((j+1:Nat):Int))) rfl (.int (Ze (by omega)))
    obtain ⟨F,hS⟩:=hS.nm [4,2,0,5,3] [0,1] rfl rfl
    exact ⟨((i2),(j+1),(l2)),F,hC2,hS,hmu⟩
   have hjl:k+j=l.length:=by simp at hc3;omega
   have hg:(ZD l)=(l1.take k1++List.replicate (l1.length - k1) (0:Int)).take k1:=by rw [List.take_append_of_le_length (by rw [List.length_take];omega),List.take_take,Nat.min_self,htk,hjl,List.take_length]
   refine wp_exit (Zi (Zi (Zo (Zb (wp_seq ?_)))))
   refine Za hS (qM rfl rfl (qM rfl rfl (qf (ZaG (sz:=1) 1 (.mk Tryz.underlying41 (by kernel_rfl)) .is .t (by omega) (by omega)) r2 r1 (qf (Zcg (R:=rInt) (z:=(0:Int)) (zs:=[.int .i64 0]) 1 Tryz.underlying41 (by kernel_rfl) rfl rfl (fun _ _=>⟨⟨rfl,rfl,ZiP⟩,trivial⟩) (by intro x;rfl) .t (by simp;omega)) r1 r1 qZ)))) hB [3,2,0] [1,0] rfl rfl fun a w F hS=>Zb (wp_seq ?_)
   refine Zc hS (qM rfl rfl (qM rfl rfl (qf (ZcB (sz:=1) 1 (.mk Tryz.underlying41 (by kernel_rfl)) (by intro x;rfl) .is .t (by omega) (by simp;omega)) r2 r1 (qN rfl rfl qZ)))) hB [3,2,0] [1,0] (fun _=>rfl) (fun _=>rfl) fun τ a w F hS=>?_
   try dsimp only [RS.sub,SF.sub,CF.sub,csub,Anc.sub,List.map,rInt] at hS
   generalize τ 59=v59 at hS
   refine Zb (wp_ret (Zk (Zf (Zf (Zk (Zf ?_))))))
   have hS:=hS.turn 1 rfl (r':=RS.hp (Zy 3 1 rInt (ZD l) v59)) (fun _ _ _ _ h=>by rw [hg];exact h)
   refine ZaS (h':=fun v=>Zy 3 1 rInt (ZD l) v) hG hS rfl (.tmp rfl .nil) (.one .one) rfl
  have hne:¬ Go.Gm.nth l (k - 1)=Go.Gm.nth l k:=by rw [hy0] at hc2;simp at hc2;exact fun e=>hc2 e.symm
  rw [if_neg hne] at hst
  refine wp_skip (Zh (Zb ?_))
  refine Za hS (qM rfl rfl (qp r1 (qN rfl rfl qZ))) hB [3,2,0] [1,0] rfl rfl fun a w F hS=>Zb ?_
  replace hS:=hS.ent (i:=3) (s':=.pv (.int .i64 ((k+1:Nat):Int))) rfl (.int (Ze (by omega)))
  obtain ⟨F,hS⟩:=hS.nm [2,0,3] [1,0] rfl rfl
  exact ⟨(k+1),F,⟨by omega,by omega,by rw [hst,hkc,← Zt hil]⟩,hS,by omega⟩
 have hg:(ZD l)=l:=by rw [show k=l.length by simp at hc1;omega,List.take_length] at hkc;exact hkc
 refine wp_exit (Zi (Zi (Zo (Zb (wp_seq ?_)))))
 refine Za hS (qM rfl rfl (qN rfl rfl qZ)) hB [2] [1,0] rfl rfl fun a w F hS=>Zb (wp_ret ?_)
 have hS:=hS.turn 1 rfl (r':=RS.hp (Zy 3 1 rInt (ZD l) v)) (fun _ _ _ _ h=>by rw [hg];exact h)
 refine ZaS (h':=fun v=>Zy 3 1 rInt (ZD l) v) hG hS rfl (.tmp rfl .nil) (.one .one) rfl
def putIR (n:Int):List Int→Bool→List Int
 | [],d=>if d then [] else [n]
 | x :: l,d=>(if d=false∧n≤x then [n] else [])++(if x=n then [] else [x])++putIR n l (d || decide (n≤x))
def ZbY (l:List Int) (n:Int):List Int:=putIR n l false
abbrev Zht (l:List Int):Prop:=l.Pairwise fun a b=>a<b
theorem Zek {n:Int} : ∀ {l:List Int},(∀ x ∈ l,n<x)→putIR n l true=l
 | [],_=>rfl
 | x :: l,h=>by
   have:=h x (by simp)
   rw [putIR,Bool.true_or,Zek fun y hy=>h y (by simp [hy]),if_neg (by simp),if_neg (by omega)]
   rfl
theorem Zhv {n:Int} : ∀ {l:List Int},Zht l→Zht (ZbY l n) ∧ ∀ x,x ∈ ZbY l n ↔ x ∈ l∨x=n
 | [],_=>by simp [ZbY,putIR]
 | y :: l,h=>by
   have h':=List.pairwise_cons.1 h
   unfold ZbY
   by_cases h1:y<n
   · have e:putIR n (y :: l) false=y :: putIR n l false:=by
       rw [putIR,if_neg (by omega),if_neg (by omega),show (false || decide (n≤y))=false by simp;omega];rfl
     have ih:=Zhv (n:=n) h'.2
     rw [e]
     refine ⟨List.pairwise_cons.2 ⟨fun p hp=>?_,ih.1⟩,fun x=>?_⟩
     · rcases (ih.2 p).1 hp with hp | rfl
       · exact h'.1 p hp
       · exact h1
     · have:=ih.2 x
       unfold ZbY at this
       simp only [List.mem_cons,this]
       constructor
       · rintro (h | h | h)
         · exact .inl (.inl h)
         · exact .inl (.inr h)
         · exact .inr h
       · rintro ((h | h) | h)
         · exact .inl h
         · exact .inr (.inl h)
         · exact .inr (.inr h)
   · by_cases h2:y=n
     · subst h2
       rw [putIR,if_pos ⟨rfl,Int.le_refl _⟩,if_pos rfl,show (false || decide (y≤y))=true by simp,Zek h'.1]
       exact ⟨h,fun x=>by simp;intro e;exact .inl e⟩
     · rw [putIR,if_pos ⟨rfl,by omega⟩,if_neg h2,show (false || decide (n≤y))=true by simp;omega,Zek fun x hx=>by have:=h'.1 x hx;omega]
       refine ⟨List.pairwise_cons.2 ⟨fun p hp=>?_,h⟩,fun x=>by simp;constructor <;> (rintro (h | h | h) <;> simp [h])⟩
       rcases List.mem_cons.1 hp with rfl | hp
       · omega
       · have:=h'.1 p hp;omega
def ZaO (l:List Int):List Int:=l.foldl ZbY []
theorem ZaF (l:List Int):Zht (ZaO l) ∧ ∀ x,x ∈ ZaO l ↔ x ∈ l:=by
 have key:∀ (l acc:List Int),Zht acc→Zht (l.foldl ZbY acc) ∧ ∀ x,x ∈ l.foldl ZbY acc ↔ x ∈ acc∨x ∈ l:=by
   intro l
   induction l with
   | nil=>intro acc h;exact ⟨h,fun x=>by simp⟩
   | cons y l ih=>
     intro acc h
     have h1:=Zhv (n:=y) h
     have h2:=ih (ZbY acc y) h1.1
     refine ⟨h2.1,fun x=>?_⟩
     rw [List.foldl_cons,h2.2 x,h1.2 x,List.mem_cons]
     constructor
     · rintro ((h | h) | h)
       · exact .inl h
       · exact .inr (.inl h)
       · exact .inr (.inr h)
     · rintro (h | h | h)
       · exact .inl (.inl h)
       · exact .inl (.inr h)
       · exact .inr h
 have:=key l [] List.Pairwise.nil
 exact ⟨this.1,fun x=>by rw [show ZaO l=l.foldl ZbY [] from rfl,this.2 x];simp⟩
theorem Zei:∀ {a b:List Int},Zht a→Zht b→(∀ x,x ∈ a ↔ x ∈ b)→a=b
 | [],[],_,_,_=>rfl
 | [],y :: b,_,_,h=>by have:=(h y).2 (by simp);cases this
 | x :: a,[],_,_,h=>by have:=(h x).1 (by simp);cases this
 | x :: a,y :: b,ha,hb,h=>by
   have ha':=List.pairwise_cons.1 ha
   have hb':=List.pairwise_cons.1 hb
   have e:x=y:=by
     rcases List.mem_cons.1 ((h x).1 (by simp)) with e | e
     · exact e
     · rcases List.mem_cons.1 ((h y).2 (by simp)) with e2 | e2
       · exact e2.symm
       · have:=hb'.1 x e;have:=ha'.1 y e2;omega
   subst e
   congr 1
   refine Zei ha'.2 hb'.2 fun z=>⟨fun hz=>?_,fun hz=>?_⟩
   · rcases List.mem_cons.1 ((h z).1 (by simp [hz])) with e | e
     · have:=ha'.1 z hz;omega
     · exact e
   · rcases List.mem_cons.1 ((h z).2 (by simp [hz])) with e | e
     · have:=hb'.1 z hz;omega
     · exact e
def ZaK:List Int→List Int
 | []=>[]
 | x :: l=>match ZaK l with
   | []=>[x]
   | y :: m=>if x=y then y :: m else x :: y :: m
theorem ZdB:∀ (x:Int) (l:List Int),∃ m,ZaK (x :: l)=x :: m
 | x,[]=>⟨[],rfl⟩
 | x,y :: l=>by
   obtain ⟨m,hm⟩:=ZdB y l
   unfold ZaK
   rw [hm]
   by_cases h:x=y
   · subst h;exact ⟨m,if_pos rfl⟩
   · exact ⟨y :: m,if_neg h⟩
theorem ZdG (x y:Int) (l:List Int):ZaK (x :: y :: l)=if x=y then ZaK (y :: l) else x :: ZaK (y :: l):=by
 obtain ⟨m,hm⟩:=ZdB y l
 conv=>lhs;unfold ZaK
 rw [hm]
theorem Zcx:∀ {l:List Int},l.Pairwise (fun a b=>a≤b)→Zht (ZaK l) ∧ ∀ x,x ∈ ZaK l ↔ x ∈ l
 | [],_=>by simp [ZaK]
 | [x],_=>by simp [ZaK]
 | x :: y :: l,h=>by
   have h':=List.pairwise_cons.1 h
   have ih:=Zcx h'.2
   rw [ZdG]
   split
   · rename_i e
     subst e
     exact ⟨ih.1,fun z=>by rw [ih.2 z];simp⟩
   · rename_i e
     refine ⟨List.pairwise_cons.2 ⟨fun z hz=>?_,ih.1⟩,fun z=>by rw [List.mem_cons,ih.2 z,← List.mem_cons]⟩
     have h1:=h'.1 y (by simp)
     rcases List.mem_cons.1 ((ih.2 z).1 hz) with rfl | hz2
     · omega
     · have:=(List.pairwise_cons.1 h'.2).1 z hz2
       omega
theorem ZlI (l:List Int):List.Pairwise (fun x y=>x≤y) (l.mergeSort leI):=by
 have:=List.pairwise_mergeSort (le:=leI) (fun a b c h1 h2=>by simp [leI] at *;omega) (fun a b=>by simp [leI];omega) l
 exact this.imp fun h=>by simpa [leI] using h
theorem Zjy (l:List Int):ZaK (l.mergeSort leI)=ZaO l:=
 Zei (Zcx (ZlI l)).1 (ZaF l).1 fun x=>by rw [(Zcx (ZlI l)).2,(ZaF l).2];exact (List.mergeSort_perm l leI).mem_iff
theorem ZgH:∀ l:List Int,ZD l=ZaK l
 | []=>rfl
 | [x]=>rfl
 | x :: y :: l=>by
   rw [ZdG,← ZgH (y :: l)];rfl
theorem ZeE {n x:Int} {l out r:List Int} {d:Bool} (hA:d=false∧n≤x) (hB:¬ x=n) (h:out++putIR n (x :: l) d=r):out ++ [n] ++ [x] ++ putIR n l true=r:=by
 rw [← h,putIR,if_pos hA,if_neg hB];simp [hA.2]
theorem ZeN {n x:Int} {l out r:List Int} {d:Bool} (hA:d=false∧n≤x) (hB:x=n) (h:out++putIR n (x :: l) d=r):out ++ [n] ++ putIR n l true=r:=by
 rw [← h,putIR,if_pos hA,if_pos hB];simp [hA.2]
theorem Zm2 {n x:Int} {d:Bool} (hA:¬ (d=false∧n≤x)):(d || decide (n≤x))=d:=by
 cases d
 · simp at hA ⊢;omega
 · rfl
theorem ZeP {n x:Int} {l out r:List Int} {d:Bool} (hA:¬ (d=false∧n≤x)) (hB:¬ x=n) (h:out++putIR n (x :: l) d=r):out ++ [x] ++ putIR n l d=r:=by
 rw [← h,putIR,if_neg hA,if_neg hB,Zm2 hA];simp
theorem ZeF {n x:Int} {l out r:List Int} {d:Bool} (hA:¬ (d=false∧n≤x)) (hB:x=n) (h:out++putIR n (x :: l) d=r):out++putIR n l d=r:=by
 rw [← h,putIR,if_neg hA,if_pos hB,Zm2 hA];simp
theorem Zdw {n:Int} : ∀ (l:List Int) (d:Bool),(putIR n l d).length≤l.length+1
 | [],d=>by cases d <;> simp [putIR]
 | x :: l,d=>by
   have h1:=Zdw (n:=n) l (d || decide (n≤x))
   have h2:∀ l:List Int,(putIR n l true).length≤l.length:=fun l=>by
     induction l with
     | nil=>simp [putIR]
     | cons y l ih=>
       rw [putIR,if_neg (by simp),List.length_append,List.length_append,Bool.true_or]
       split <;> simp <;> omega
   rw [putIR,List.length_append,List.length_append]
   have h3:=h2 l
   by_cases hA:d=false∧n≤x
   · rw [show (d || decide (n≤x))=true by simp [hA.2],if_pos hA]
     split <;> simp <;> omega
   · rw [if_neg hA]
     split <;> simp <;> omega
theorem Zlz (l:List Int) (n:Int) (hl:l.length≤1000000):FnP Tryz.prog 111 [.sl rInt l,.int .i64 n] (.sl rInt (ZbY l n)):=by
 refine FnP.mk Tryz.func111 rfl Tryz.ntmps111 rfl ?_
 intro B a w F hB hfr hS
 have hll:=Sat.lenSl hS (i:=0) rfl
 refine wp_seq ?_
 refine Za hS (qC qZ) hB [4,1,0] [0] rfl rfl fun a w F hS=>Zb (wp_seq ?_)
 refine Za hS (qC qZ) hB [5,4,1,0] [0] rfl rfl fun a w F hS=>Zb (wp_seq ?_)
 refine Za hS qB hB [6,5,4,1,0] [0] rfl rfl fun a w F hS=>Zb (wp_seq (wp_seq ?_))
 refine Za hS (qM rfl rfl (qu Tryz.underlying41 r1 (qJ qZ))) hB [11,10,9,6,5,4,1] [0] rfl rfl fun a w F hS=>Zb (wp_block ?_)
 replace hS:=hS.fresh 50 rfl
 replace hS:=hS.turn 50 rfl (Zav (T:=3) (sz:=1) (R:=rInt))
 refine Zl (σ:=(Nat)×(Bool)×(Value)×(List Int)) [1,4,9,10] [0] (fun s=>[(11,.pv (.int .i64 (s.1:Int))),(6,.pv (.bool s.2.1)),(5,.pv (.is s.2.2.1))]) (fun s=>[(50,.ob (.val s.2.2.1) (Zy 3 1 rInt s.2.2.2))]) (fun s=>s.1≤l.length∧(s.2.2.2++putIR n (l.drop s.1) s.2.1=ZbY l n)) (fun s=>l.length - s.1) ((0),_,(.slice none 0 0),([])) hS ⟨rfl,rfl,rfl,rfl,rfl,rfl,rfl,trivial⟩ ⟨rfl,rfl,trivial⟩ ⟨Nat.zero_le _,rfl⟩ ?_
 clear hS;intro s a w F hC hS
 obtain ⟨i,d,v,out⟩:=s
 try dsimp only at hC
 obtain ⟨F,hS⟩:=hS.nm [11,10,9,6,5,4,1] [50,0] rfl rfl
 try dsimp only at hS
 obtain ⟨hi,hq⟩:=hC
 have hol:=congrArg List.length hq
 rw [List.length_append] at hol
 have htl:(ZbY l n).length≤l.length+1:=Zdw l false
 refine wp_seq ?_
 refine Za hS (qL r2) hB [12,11,10,9,6,5,4,1] [50,0] rfl rfl fun a w F hS=>Zb (wp_seq ?_)
 refine Zd hS rfl (fun hc0=>?_) (fun hc0=>?_)
 ·skip
  have hil:i<l.length:=by simp at hc0;omega
  refine wp_skip (Zb (wp_seq (wp_block (wp_seq ?_))))
  refine Za hS (qy 1 Tryz.underlying41 r2 (qf (oR false 1 .t) r1 qz (qN rfl rfl qZ))) hB [11,10,9,8,6,5,4,1] [50,0] rfl rfl fun a w F hS=>?_
  try simp only [Int.toNat_natCast] at hS
  refine Zb (wp_seq (wp_seq ?_))
  refine Za hS (qM rfl rfl (qf (o_not .t) r1 qz (qM rfl rfl (qm rfl rfl rfl rfl (qm rfl rfl rfl rfl (qk rfl (fun h=>ZbF (.w h) (.w h)) r3 qz (qf (ZA .t .t) r2 qz qZ))))))) hB [21,11,10,9,8,6,5,4,1] [50,0] rfl rfl fun a w F hS=>Zb ?_
  refine Zd hS rfl (fun hc1=>?_) (fun hc1=>?_)
  ·skip
   have hA:d=false∧n≤Go.Gm.nth l i:=by simpa using hc1
   refine wp_seq ?_
   refine Zc hS (qM rfl rfl (qM rfl rfl (qf (Zj (sz:=1) (zs:=[.int .i64 0]) (r:=[(0,.tmp 23)]) (l:=[_]) Tryz.underlying41 (by kernel_rfl) (by kernel_rfl) (by kernel_rfl) (by kernel_rfl) rfl rfl (.one rfl .t one_int (by kernel_rfl) .nil) rfl) r1 qz (qf (o_append (sz:=1) (bs:=8) 50 (.mk' Tryz.underlying41 (by kernel_rfl) (by kernel_rfl)) (by intro x;rfl) .is (.arr (l':=[n]) .t) (by simp only [List.length_append,List.length_cons,List.length_nil];omega) (by decide)) ⟨rfl,rfl,trivial⟩ ⟨rfl,trivial⟩ (qN rfl rfl qZ))))) hB [11,10,9,8,6,5,4,1] [50,0] (fun _=>rfl) (fun _=>rfl) fun τ a w F hS=>?_
   try dsimp only [RS.sub,SF.sub,CF.sub,csub,Anc.sub,List.map,Zg,xL,xM,Nat.reduceAdd,xD,xE,xT,xU,xC,xN,zCF,rInt] at hS
   generalize τ 25=v25 at hS
   refine Zb ?_
   refine Za hS qB hB [11,10,9,8,6,5,4,1] [50,0] rfl rfl fun a w F hS=>Zb (wp_seq ?_)
   refine Za hS (qM rfl rfl (qM rfl rfl (qf (o_neq .t .t) r2 qz qZ))) hB [28,11,10,9,8,6,5,4,1] [50,0] rfl rfl fun a w F hS=>Zb ?_
   refine Zd hS rfl (fun hc2=>?_) (fun hc2=>?_)
   ·skip
    have hBq:¬ Go.Gm.nth l i=n:=by simpa using hc2
    refine Zc hS (qM rfl rfl (qM rfl rfl (qf (Zj (sz:=1) (zs:=[.int .i64 0]) (r:=[(0,.tmp 30)]) (l:=[_]) Tryz.underlying41 (by kernel_rfl) (by kernel_rfl) (by kernel_rfl) (by kernel_rfl) rfl rfl (.one rfl .t one_int (by kernel_rfl) .nil) rfl) r1 qz (qf (o_append (sz:=1) (bs:=8) 50 (.mk' Tryz.underlying41 (by kernel_rfl) (by kernel_rfl)) (by intro x;rfl) .is (.arr (l':=[Go.Gm.nth l i]) .t) (by simp only [List.length_append,List.length_cons,List.length_nil];omega) (by decide)) ⟨rfl,rfl,trivial⟩ ⟨rfl,trivial⟩ (qN rfl rfl qZ))))) hB [11,10,9,6,5,4,1] [50,0] (fun _=>rfl) (fun _=>rfl) fun τ a w F hS=>?_
    try dsimp only [RS.sub,SF.sub,CF.sub,csub,Anc.sub,List.map,Zg,xL,xM,Nat.reduceAdd,xD,xE,xT,xU,xC,xN,zCF,rInt] at hS
    generalize τ 32=v32 at hS
    refine Zh (Zb ?_)
    refine Za hS (qp r1 (qM rfl rfl qZ)) hB [11,10,9,6,5,4,1] [50,0] rfl rfl fun a w F hS=>Zb ?_
    replace hS:=hS.ent (i:=11) (s':=.pv (.int .i64 ((i+1:Nat):Int))) rfl (.int (Ze (by omega)))
    obtain ⟨F,hS⟩:=hS.nm [10,9,4,1,5,6,11] [0,50] rfl rfl
    exact ⟨((i+1),_,_,_),F,⟨by omega,(by rw [ZZ hil] at hq;first | exact ZeE hA hBq hq | exact ZeN hA hBq hq | exact ZeP hA hBq hq | exact ZeF hA hBq hq)⟩,hS,by omega⟩
   have hBq:Go.Gm.nth l i=n:=by simpa using hc2
   refine wp_skip (Zh (Zb ?_))
   refine Za hS (qp r1 (qM rfl rfl qZ)) hB [11,10,9,6,5,4,1] [50,0] rfl rfl fun a w F hS=>Zb ?_
   replace hS:=hS.ent (i:=11) (s':=.pv (.int .i64 ((i+1:Nat):Int))) rfl (.int (Ze (by omega)))
   obtain ⟨F,hS⟩:=hS.nm [10,9,4,1,5,6,11] [0,50] rfl rfl
   exact ⟨((i+1),_,_,_),F,⟨by omega,(by rw [ZZ hil] at hq;first | exact ZeE hA hBq hq | exact ZeN hA hBq hq | exact ZeP hA hBq hq | exact ZeF hA hBq hq)⟩,hS,by omega⟩
  have hA:¬ (d=false∧n≤Go.Gm.nth l i):=by rintro ⟨h1,h2⟩;subst h1;simp at hc1;omega
  refine wp_skip (Zb (wp_seq ?_))
  refine Za hS (qM rfl rfl (qM rfl rfl (qf (o_neq .t .t) r2 qz qZ))) hB [28,11,10,9,8,6,5,4,1] [50,0] rfl rfl fun a w F hS=>Zb ?_
  refine Zd hS rfl (fun hc3=>?_) (fun hc3=>?_)
  ·skip
   have hBq:¬ Go.Gm.nth l i=n:=by simpa using hc3
   refine Zc hS (qM rfl rfl (qM rfl rfl (qf (Zj (sz:=1) (zs:=[.int .i64 0]) (r:=[(0,.tmp 30)]) (l:=[_]) Tryz.underlying41 (by kernel_rfl) (by kernel_rfl) (by kernel_rfl) (by kernel_rfl) rfl rfl (.one rfl .t one_int (by kernel_rfl) .nil) rfl) r1 qz (qf (o_append (sz:=1) (bs:=8) 50 (.mk' Tryz.underlying41 (by kernel_rfl) (by kernel_rfl)) (by intro x;rfl) .is (.arr (l':=[Go.Gm.nth l i]) .t) (by simp only [List.length_append,List.length_cons,List.length_nil];omega) (by decide)) ⟨rfl,rfl,trivial⟩ ⟨rfl,trivial⟩ (qN rfl rfl qZ))))) hB [11,10,9,6,5,4,1] [50,0] (fun _=>rfl) (fun _=>rfl) fun τ a w F hS=>?_
   try dsimp only [RS.sub,SF.sub,CF.sub,csub,Anc.sub,List.map,Zg,xL,xM,Nat.reduceAdd,xD,xE,xT,xU,xC,xN,zCF,rInt] at hS
   generalize τ 32=v32 at hS
   refine Zh (Zb ?_)
   refine Za hS (qp r1 (qM rfl rfl qZ)) hB [11,10,9,6,5,4,1] [50,0] rfl rfl fun a w F hS=>Zb ?_
   replace hS:=hS.ent (i:=11) (s':=.pv (.int .i64 ((i+1:Nat):Int))) rfl (.int (Ze (by omega)))
   obtain ⟨F,hS⟩:=hS.nm [10,9,4,1,5,6,11] [0,50] rfl rfl
   exact ⟨((i+1),_,_,_),F,⟨by omega,(by rw [ZZ hil] at hq;first | exact ZeE hA hBq hq | exact ZeN hA hBq hq | exact ZeP hA hBq hq | exact ZeF hA hBq hq)⟩,hS,by omega⟩
  have hBq:Go.Gm.nth l i=n:=by simpa using hc3
  refine wp_skip (Zh (Zb ?_))
  refine Za hS (qp r1 (qM rfl rfl qZ)) hB [11,10,9,6,5,4,1] [50,0] rfl rfl fun a w F hS=>Zb ?_
  replace hS:=hS.ent (i:=11) (s':=.pv (.int .i64 ((i+1:Nat):Int))) rfl (.int (Ze (by omega)))
  obtain ⟨F,hS⟩:=hS.nm [10,9,4,1,5,6,11] [0,50] rfl rfl
  exact ⟨((i+1),_,_,_),F,⟨by omega,(by rw [ZZ hil] at hq;first | exact ZeE hA hBq hq | exact ZeN hA hBq hq | exact ZeP hA hBq hq | exact ZeF hA hBq hq)⟩,hS,by omega⟩
 have hil:i=l.length:=by simp at hc0;omega
 refine wp_exit (Zi (Zi (Zo (Zb (wp_seq (wp_seq ?_))))))
 refine Za hS (qM rfl rfl (qf (o_not .t) r1 qz qZ)) hB [35,5,4,1] [50,0] rfl rfl fun a w F hS=>Zb ?_
 refine Zd hS rfl (fun hc4=>?_) (fun hc4=>?_)
 ·skip
  have hfin:out ++ [n] = ZbY l n:=by rw [hil,List.drop_length] at hq;cases d with | true=>simp at hc4 | false=>exact hq
  refine Zc hS (qM rfl rfl (qM rfl rfl (qf (Zj (sz:=1) (zs:=[.int .i64 0]) (r:=[(0,.tmp 37)]) (l:=[_]) Tryz.underlying41 (by kernel_rfl) (by kernel_rfl) (by kernel_rfl) (by kernel_rfl) rfl rfl (.one rfl .t one_int (by kernel_rfl) .nil) rfl) r1 qz (qf (o_append (sz:=1) (bs:=8) 50 (.mk' Tryz.underlying41 (by kernel_rfl) (by kernel_rfl)) (by intro x;rfl) .is (.arr (l':=[n]) .t) (by simp only [List.length_append,List.length_cons,List.length_nil];omega) (by decide)) ⟨rfl,rfl,trivial⟩ ⟨rfl,trivial⟩ (qN rfl rfl qZ))))) hB [5,4] [50,0] (fun _=>rfl) (fun _=>rfl) fun τ a w F hS=>?_
  try dsimp only [RS.sub,SF.sub,CF.sub,csub,Anc.sub,List.map,Zg,xL,xM,Nat.reduceAdd,xD,xE,xT,xU,xC,xN,zCF,rInt] at hS
  generalize τ 39=v39 at hS
  refine Zb (wp_seq ?_)
  refine Za hS (qM rfl rfl (qN rfl rfl qZ)) hB [4] [50,0] rfl rfl fun a w F hS=>Zb (wp_ret ?_)
  obtain ⟨F,hS⟩:=hS.give 50 4 rfl rfl
  refine Zn hfr hS rfl rfl rfl (.sl hfin)
 have hfin:out=ZbY l n:=by rw [hil,List.drop_length] at hq;cases d with | false=>simp at hc4 | true=>simpa [putIR] using hq
 refine wp_skip (Zb (wp_seq ?_))
 refine Za hS (qM rfl rfl (qN rfl rfl qZ)) hB [4] [50,0] rfl rfl fun a w F hS=>Zb (wp_ret ?_)
 obtain ⟨F,hS⟩:=hS.give 50 4 rfl rfl
 refine Zn hfr hS rfl rfl rfl (.sl hfin)
structure OpD where
 read:Bool
 key:Int
 tx:Int
 nth:Int
 deriving DecidableEq,Inhabited
structure TxD where
 id:Int
 done:Bool
 ops:List OpD
 deriving DecidableEq,Inhabited
structure OrdD where
 key:Int
 txs:List Int
 deriving DecidableEq,Inhabited
structure HistD where
 txs:List TxD
 orders:List OrdD
 deriving DecidableEq,Inhabited
structure Zkw where
 was:List TxD
 now:List TxD
 old:List OrdD
 new:List OrdD
 deriving DecidableEq,Inhabited
def rOp (o:OpD):List PV:=[.bool o.read,.int .i64 o.key,.int .i64 o.tx,.int .i64 o.nth]
def rTx (t:TxD):List PV:=[.int .i64 t.id,.bool t.done,.sl rOp t.ops]
def Zs (o:OrdD):List PV:=[.int .i64 o.key,.sl rInt o.txs]
def Zm (h:HistD):List PV:=[.sl rTx h.txs,.sl Zs h.orders]
theorem Zoo {u v:OpD} (h:(!((u.read == v.read) && (decide (u.key=v.key) && (decide (u.tx=v.tx) && (decide (u.nth=v.nth) && true)))))=false):u=v:=by
 cases u;cases v
 simp at h
 simp [h]
theorem Zgw (x y:List Int):FnP Tryz.prog 51 [.sl rInt x,.sl rInt y] (.bool (decide (x=y))):=by
 refine FnP.mk Tryz.func51 rfl Tryz.ntmps51 rfl ?_
 intro B a w F hB hfr hS
 have hxl:=Sat.lenSl hS (i:=0) rfl
 refine wp_seq ?_
 refine Za hS qB hB [4,1,0] [0] rfl rfl fun a w F hS=>Zb (wp_seq (wp_seq ?_))
 refine Za hS (qM rfl rfl (qu Tryz.underlying41 r1 (qM rfl rfl (qu Tryz.underlying41 r1 (qf (o_neq .t .t) r2 qz qZ))))) hB [10,4,1,0] [0] rfl rfl fun a w F hS=>Zb ?_
 refine Zd hS rfl (fun hc0=>?_) (fun hc0=>?_)
 ·skip
  have hg:false=decide (x=y):=by
    rw [eq_comm,decide_eq_false_iff_not]
    intro h
    subst h
    simp at hc0
  refine wp_seq ?_
  refine Za hS qB hB [4,1,0] [0] rfl rfl fun a w F hS=>Zb (wp_ret (Zf ?_))
  refine Zn hfr hS rfl rfl rfl (.bool hg)
 have hl:x.length=y.length:=by simp at hc0;omega
 refine wp_skip (Zb (wp_seq (wp_seq ?_)))
 refine Za hS (qM rfl rfl (qu Tryz.underlying41 r1 (qJ qZ))) hB [13,12,4,1,0] [0] rfl rfl fun a w F hS=>Zb (wp_block ?_)
 obtain ⟨F,hS⟩:=hS.nm [13,12,1,0] [0] rfl rfl
 refine ZQ (σ:=Nat) (fun s=>(⟨[(0,.pv (.sl rInt x)),(1,.pv (.sl rInt y)),(12,.pv (.int .i64 x.length)),(13,.pv (.int .i64 s))],[(0,frame B)]⟩:En)) (fun s=>s≤x.length ∧ ∀ j,j<s→Go.Gm.nth x j=Go.Gm.nth y j) (fun s=>x.length - s) 0 hS ⟨Nat.zero_le _,fun j hj=>absurd hj (Nat.not_lt_zero j)⟩ ?_
 clear hS;intro i a w F hC hS
 try dsimp only at hC
 try dsimp only at hS
 obtain ⟨hi,hq⟩:=hC
 refine wp_seq ?_
 refine Za hS (qL r2) hB [14,13,12,1,0] [0] rfl rfl fun a w F hS=>Zb (wp_seq ?_)
 refine Zd hS rfl (fun hc1=>?_) (fun hc1=>?_)
 ·skip
  have hil:i<x.length:=by simp at hc1;omega
  refine wp_skip (Zb (wp_seq (wp_block (wp_seq ?_))))
  refine Za hS (qM rfl rfl (qN rfl rfl qZ)) hB [13,12,5,1,0] [0] rfl rfl fun a w F hS=>Zb (wp_seq ?_)
  refine Zu hS (qM rfl rfl (qM rfl rfl (qy 1 Tryz.underlying41 r2 (qf (oR false 1 .t) r1 qz (qM rfl rfl (qM rfl rfl (qy 1 Tryz.underlying41 r2 (qf (oR false 1 .t) r1 qz (qf (o_neq .t .t) r2 qz qZ))))))))) hB [24,13,12,1,0] [0] rfl rfl fun a w F hS=>?_
  try dsimp only [List.map,xD,xE,xT,xU,ldSF] at hS
  refine Zb ?_
  refine Zd hS rfl (fun hc2=>?_) (fun hc2=>?_)
  ·skip
   have hg:false=decide (x=y):=by
     rw [eq_comm,decide_eq_false_iff_not]
     intro h
     subst h
     simp at hc2
   refine wp_seq ?_
   refine Za hS qB hB [13,12,4,1,0] [0] rfl rfl fun a w F hS=>Zb (wp_ret (Zk (Zf (Zf (Zk (Zf ?_))))))
   refine Zn hfr hS rfl rfl rfl (.bool hg)
  rw [Int.toNat_natCast] at hc2
  have hqi:Go.Gm.nth x i=Go.Gm.nth y i:=by simpa using hc2
  refine wp_skip (Zh (Zb ?_))
  refine Za hS (qp r1 (qM rfl rfl qZ)) hB [13,12,1,0] [0] rfl rfl fun a w F hS=>Zb ?_
  replace hS:=hS.ent (i:=13) (s':=.pv (.int .i64 ((i+1:Nat):Int))) rfl (.int (Ze (by omega)))
  obtain ⟨F,hS⟩:=hS.nm [13,12,1,0] [0] rfl rfl
  exact ⟨i+1,F,⟨by omega,fun j hj=>by rcases Nat.lt_or_eq_of_le (Nat.le_of_lt_succ hj) with h | h;exact hq j h;rw [h];exact hqi⟩,hS,by omega⟩
 have hg:true=decide (x=y):=by
   rw [eq_comm,decide_eq_true_eq]
   exact Zbi hl fun j hj=>hq j (by simp at hc1;omega)
 refine wp_exit (Zi (Zi (Zo (Zb (wp_seq ?_)))))
 refine Za hS qB hB [4] [0] rfl rfl fun a w F hS=>Zb (wp_ret ?_)
 refine Zn hfr hS rfl rfl rfl (.bool hg)
theorem Zmg (x y:List OpD):FnP Tryz.prog 96 [.sl rOp x,.sl rOp y] (.bool (decide (x=y))):=by
 refine FnP.mk Tryz.func96 rfl Tryz.ntmps96 rfl ?_
 intro B a w F hB hfr hS
 have hxl:=Sat.lenSl hS (i:=0) rfl
 refine wp_seq ?_
 refine Za hS qB hB [4,1,0] [0] rfl rfl fun a w F hS=>Zb (wp_seq (wp_seq ?_))
 refine Za hS (qM rfl rfl (qu Tryz.underlying38 r1 (qM rfl rfl (qu Tryz.underlying38 r1 (qf (o_neq .t .t) r2 qz qZ))))) hB [10,4,1,0] [0] rfl rfl fun a w F hS=>Zb ?_
 refine Zd hS rfl (fun hc0=>?_) (fun hc0=>?_)
 ·skip
  have hg:false=decide (x=y):=by
    rw [eq_comm,decide_eq_false_iff_not]
    intro h
    subst h
    simp at hc0
  refine wp_seq ?_
  refine Za hS qB hB [4,1,0] [0] rfl rfl fun a w F hS=>Zb (wp_ret (Zf ?_))
  refine Zn hfr hS rfl rfl rfl (.bool hg)
 have hl:x.length=y.length:=by simp at hc0;omega
 refine wp_skip (Zb (wp_seq (wp_seq ?_)))
 refine Za hS (qM rfl rfl (qu Tryz.underlying38 r1 (qJ qZ))) hB [13,12,4,1,0] [0] rfl rfl fun a w F hS=>Zb (wp_block ?_)
 obtain ⟨F,hS⟩:=hS.nm [13,12,1,0] [0] rfl rfl
 refine ZQ (σ:=Nat) (fun s=>(⟨[(0,.pv (.sl rOp x)),(1,.pv (.sl rOp y)),(12,.pv (.int .i64 x.length)),(13,.pv (.int .i64 s))],[(0,frame B)]⟩:En)) (fun s=>s≤x.length ∧ ∀ j,j<s→Go.Gm.nth x j=Go.Gm.nth y j) (fun s=>x.length - s) 0 hS ⟨Nat.zero_le _,fun j hj=>absurd hj (Nat.not_lt_zero j)⟩ ?_
 clear hS;intro i a w F hC hS
 try dsimp only at hC
 try dsimp only at hS
 obtain ⟨hi,hq⟩:=hC
 refine wp_seq ?_
 refine Za hS (qL r2) hB [14,13,12,1,0] [0] rfl rfl fun a w F hS=>Zb (wp_seq ?_)
 refine Zd hS rfl (fun hc1=>?_) (fun hc1=>?_)
 ·skip
  have hil:i<x.length:=by simp at hc1;omega
  refine wp_skip (Zb (wp_seq (wp_block (wp_seq ?_))))
  refine Za hS (qM rfl rfl (qN rfl rfl qZ)) hB [13,12,5,1,0] [0] rfl rfl fun a w F hS=>Zb (wp_seq ?_)
  refine Zu hS (qM rfl rfl (qM rfl rfl (qy 4 Tryz.underlying38 r2 (qf (oR true 4 .t) r1 qz (qM rfl rfl (qM rfl rfl (qy 4 Tryz.underlying38 r2 (qf (oR true 4 .t) r1 qz (qf (Zl6 (ks:=[false,true,true,true]) (by kernel_rfl) .t .t (.bool (.int (.int (.int .nil))))) r2 qz qZ))))))))) hB [24,13,12,1,0] [0] rfl rfl fun a w F hS=>?_
  try dsimp only [List.map,xD,xE,xT,xU,ldSF] at hS
  refine Zb ?_
  refine Zd hS rfl (fun hc2=>?_) (fun hc2=>?_)
  ·skip
   have hg:false=decide (x=y):=by
     rw [eq_comm,decide_eq_false_iff_not]
     intro h
     subst h
     simp at hc2
   refine wp_seq ?_
   refine Za hS qB hB [13,12,4,1,0] [0] rfl rfl fun a w F hS=>Zb (wp_ret (Zk (Zf (Zf (Zk (Zf ?_))))))
   refine Zn hfr hS rfl rfl rfl (.bool hg)
  rw [Int.toNat_natCast] at hc2
  have hqi:Go.Gm.nth x i=Go.Gm.nth y i:=Zoo hc2
  refine wp_skip (Zh (Zb ?_))
  refine Za hS (qp r1 (qM rfl rfl qZ)) hB [13,12,1,0] [0] rfl rfl fun a w F hS=>Zb ?_
  replace hS:=hS.ent (i:=13) (s':=.pv (.int .i64 ((i+1:Nat):Int))) rfl (.int (Ze (by omega)))
  obtain ⟨F,hS⟩:=hS.nm [13,12,1,0] [0] rfl rfl
  exact ⟨i+1,F,⟨by omega,fun j hj=>by rcases Nat.lt_or_eq_of_le (Nat.le_of_lt_succ hj) with h | h;exact hq j h;rw [h];exact hqi⟩,hS,by omega⟩
 have hg:true=decide (x=y):=by
   rw [eq_comm,decide_eq_true_eq]
   exact Zbi hl fun j hj=>hq j (by simp at hc1;omega)
 refine wp_exit (Zi (Zi (Zo (Zb (wp_seq ?_)))))
 refine Za hS qB hB [4] [0] rfl rfl fun a w F hS=>Zb (wp_ret ?_)
 refine Zn hfr hS rfl rfl rfl (.bool hg)
theorem ZhC (l:List OpD) (hl:l.length≤1000000):FnG Tryz.prog 49 1 [.sl rOp l] [.star []] (PV.one) (fun v=>[Zy 59 4 rOp l v]):=by
 refine FnG.mk Tryz.func49 rfl Tryz.ntmps49 rfl (by kernel_rfl) ?_
 intro B F0 a w F hB hG hS
 obtain ⟨F,hS⟩:=hS.nm [0] [0] rfl rfl
 refine wp_seq ?_
 refine Za hS (qC qZ) hB [2,0] [0] rfl rfl fun a w F hS=>Zb (wp_seq (wp_seq ?_))
 refine Za hS (qM rfl rfl (qf (Zdp Tryz.underlying38 .t) r1 qz qZ)) hB [4,2,0] [0] rfl rfl fun a w F hS=>?_
 obtain ⟨β4,hβ4,hS⟩:=hS.pickBool 4 rfl
 obtain ⟨F,hS⟩:=hS.nm [4,2,0] [0] rfl rfl
 refine Zb ?_
 refine Zd hS rfl (fun hc0=>?_) (fun hc0=>?_)
 ·skip
  have hg:l = []:=hβ4 hc0
  refine wp_seq ?_
  refine Za hS (qC qZ) hB [2,0] [0] rfl rfl fun a w F hS=>Zb (wp_ret (Zf ?_))
  have hS:=hS.fresh 1 rfl
  have hS:=hS.turn 1 rfl (Zav (T:=59) (sz:=4) (R:=rOp))
  have hS:=hS.turn 1 rfl (r':=RS.hp (Zy 59 4 rOp l (.slice none 0 0))) (fun _ _ _ _ h=>by rw [hg];exact h)
  refine ZaS (h':=fun v=>Zy 59 4 rOp l v) hG hS rfl (.tmp rfl .nil) (.one .one) rfl
 have hg:l = [] ++ l:=rfl
 refine wp_skip (Zb (wp_seq ?_))
 refine Zc hS (qf (ZaL (R:=rOp) (sz:=4) 101 Tryz.underlying38 (by kernel_rfl)) trivial qz (qM rfl rfl (qf (o_append (sz:=4) (bs:=32) 101 (.mk' Tryz.underlying38 (by kernel_rfl) (by kernel_rfl)) (by intro x;rfl) .same (.sl .t) (by simp only [List.length_append,List.length_nil];omega) (by decide)) ⟨rfl,rfl,trivial⟩ ⟨rfl,trivial⟩ (qN rfl rfl qZ)))) hB [2] [101,0] (fun _=>rfl) (fun _=>rfl) fun τ a w F hS=>?_
 try dsimp only [RS.sub,SF.sub,CF.sub,csub,Anc.sub,List.map,Zg,xL,xM,Nat.reduceAdd,xD,xE,xT,xU,xC,xN,zCF,rOp] at hS
 generalize τ 7=v7 at hS
 refine Zb (wp_ret ?_)
 obtain ⟨F,hS⟩:=hS.rename 101 1 rfl rfl
 have hS:=hS.turn 1 rfl (r':=RS.hp (Zy 59 4 rOp l v7)) (fun _ _ _ _ h=>by rw [hg];exact h)
 refine ZaS (h':=fun v=>Zy 59 4 rOp l v) hG hS rfl (.tmp rfl .nil) (.one .one) rfl
theorem Zmr (l : List OpD) (p : OpD → Bool) (f : FuncId) (fn : Func) (cps : List PV) (hf : Tryz.prog.funcs[f]? = some fn) (hb : fn.body.isSome = true) (hnn : (fn.name == "runtime.NumGoroutine") = false) (hw : ∀ x, FnP Tryz.prog f (.agg (rOp x) :: cps) (.bool (p x))) : FnP Tryz.prog 166 [.sl rOp l, .clos f cps] (.int .i64 (Zag p l)) := by
 refine FnP.mk Tryz.func166 rfl Tryz.ntmps166 rfl ?_
 intro B a w F hB hfr hS
 have hll:=Sat.lenSl hS (i:=0) rfl
 refine wp_seq ?_
 refine Za hS (qI qZ) hB [4,1,0] [0] rfl rfl fun a w F hS=>Zb (wp_seq (wp_seq ?_))
 refine Za hS (qM rfl rfl (qu Tryz.underlying38 r1 (qJ qZ))) hB [8,7,4,1,0] [0] rfl rfl fun a w F hS=>Zb (wp_block ?_)
 refine Zl (σ:=(Nat)) [0,1,4,7] [0] (fun s=>[(8,.pv (.int .i64 (s:Int)))]) (fun s=>[]) (fun s=>s≤l.length∧(∀ k,k<s→p (Go.Gm.nth l k)=false)) (fun s=>l.length - s) (0) hS ⟨rfl,rfl,rfl,rfl,rfl,trivial⟩ ⟨rfl,trivial⟩ ⟨Nat.zero_le _,fun k hk=>absurd hk (Nat.not_lt_zero k)⟩ ?_
 clear hS;intro i a w F hC hS
 try dsimp only at hC
 obtain ⟨F,hS⟩:=hS.nm [8,7,4,1,0] [0] rfl rfl
 try dsimp only at hS
 obtain ⟨hi,hq⟩:=hC
 refine wp_seq ?_
 refine Za hS (qL r2) hB [9,8,7,4,1,0] [0] rfl rfl fun a w F hS=>Zb (wp_seq ?_)
 refine Zd hS rfl (fun hc0=>?_) (fun hc0=>?_)
 ·skip
  have hil:i<l.length:=by simp at hc0;omega
  refine wp_skip (Zb (wp_seq (wp_block (wp_seq ?_))))
  refine Za hS (qM rfl rfl (qN rfl rfl qZ)) hB [8,7,5,4,1,0] [0] rfl rfl fun a w F hS=>Zb (wp_seq ?_)
  refine Za hS (qM rfl rfl (qM rfl rfl (qM rfl rfl (qy 4 Tryz.underlying38 r2 (qf (oR true 4 .t) r1 qz (qf (Z2 (avs:=[.agg (rOp (Go.Gm.nth l i))]) .t (hw (Go.Gm.nth l i)) hf hb hnn (Args.one (.pagg .t))) r2 qz qZ)))))) hB [16,8,7,5,4,1,0] [0] rfl rfl fun a w F hS=>?_
  try simp only [Int.toNat_natCast] at hS
  refine Zb ?_
  refine Zd hS rfl (fun hc1=>?_) (fun hc1=>?_)
  ·skip
   have hg:(i:Int)=Zag p l:=(ZcZ hil hc1 hq).symm
   refine wp_seq ?_
   refine Za hS (qM rfl rfl (qN rfl rfl qZ)) hB [8,7,4,1,0] [0] rfl rfl fun a w F hS=>Zb (wp_ret (Zk (Zf (Zf (Zk (Zf ?_))))))
   refine Zn hfr hS rfl rfl rfl (.int hg)
  have hne:p (Go.Gm.nth l i)=false:=hc1
  refine wp_skip (Zh (Zb ?_))
  refine Za hS (qp r1 (qM rfl rfl qZ)) hB [8,7,4,1,0] [0] rfl rfl fun a w F hS=>Zb ?_
  replace hS:=hS.ent (i:=8) (s':=.pv (.int .i64 ((i+1:Nat):Int))) rfl (.int (Ze (by omega)))
  obtain ⟨F,hS⟩:=hS.nm [7,4,1,0,8] [0] rfl rfl
  exact ⟨(i+1),F,⟨by omega,(fun k hk=>by rcases Nat.lt_or_eq_of_le (Nat.le_of_lt_succ hk) with h | h;exact hq k h;rw [h];exact hne)⟩,hS,by omega⟩
 have hil:i=l.length:=by simp at hc0;omega
 have hg : -1=Zag p l:=(ZbJ fun k hk=>hq k (by simp at hc0;omega)).symm
 refine wp_exit (Zi (Zi (Zo (Zb (wp_seq ?_)))))
 refine Za hS (qI qZ) hB [4] [0] rfl rfl fun a w F hS=>Zb (wp_ret ?_)
 refine Zn hfr hS rfl rfl rfl (.int hg)
theorem Zi4 (x:Int):IntKind.wrap .u8 x=x % 256:=by simp [IntKind.wrap,IntKind.bits,IntKind.signed]
def Zfh (s:List UInt8):Nat:=s.foldl (fun a c=>a*10+(c.toNat - 48)) 0
def Zl4 (u:Nat):List Int:=if h:u=0 then [] else Zl4 (u / 10) ++ [((48+u % 10:Nat):Int)]
 termination_by u
 decreasing_by omega
def ZeG (u:Nat):List Int:=Zl4 (u / 10) ++ [((48+u % 10:Nat):Int)]
theorem ZkG:Zl4 0 = []:=by unfold Zl4;simp
theorem Zhh {u:Nat} (h:u≠0):Zl4 u=ZeG u:=by unfold Zl4 ZeG;simp [h]
def textL (n:Int):List UInt8:=if n<0 then 45 :: (ZeG n.natAbs).map toB else (ZeG n.natAbs).map toB
structure Zfu (u0 i u:Nat) (l:List Int):Prop where
 hl:l.length=20
 hi:i≤20
 hu:u<10 ^ i
 hb:u≤18446744073709551615
 ok:(i=20∧u=u0)∨(i<20∧Zl4 u++l.drop i=ZeG u0)
theorem Zfu.start {u0:Nat} (h:u0≤18446744073709551615):Zfu u0 20 u0 [0,0,0,0,0,0,0,0,0,0,0,0,0,0,0,0,0,0,0,0]:=⟨rfl,Nat.le_refl _,by omega,h,.inl ⟨rfl,rfl⟩⟩
theorem Zfu.pos {u0 i u:Nat} {l:List Int} (h:Zfu u0 i u l) (hc:i=20∨0<u):1≤i:=by
 rcases hc with hc | hc
 · omega
 · rcases Nat.eq_zero_or_pos i with h0 | h0
   · have:=h.hu;rw [h0] at this;omega
   · exact h0
theorem Zfu.next {u0 i u:Nat} {l:List Int} (h:Zfu u0 i u l) (hc:i=20∨0<u):Zfu u0 (i - 1) (u / 10) (l.set (i - 1) ((48+u % 10:Nat):Int)):=by
 have h1:=h.pos hc
 have hi:=h.hi
 have hl:=h.hl
 have hd:(l.set (i - 1) ((48+u % 10:Nat):Int)).drop (i - 1)=((48+u % 10:Nat):Int) :: l.drop i:=by
   rw [List.drop_eq_getElem_cons (by rw [List.length_set];omega),List.getElem_set_self,show i - 1+1=i by omega,List.drop_set_of_lt (by omega)]
 refine ⟨by rw [List.length_set];exact h.hl,by omega,?_,by have:=h.hb;omega,.inr ⟨by omega,?_⟩⟩
 · have:=h.hu
   rw [show i=(i - 1)+1 by omega,Nat.pow_succ] at this
   omega
 · rw [hd]
   have e:Zl4 (u / 10)++((48+u % 10:Nat):Int) :: l.drop i=ZeG u++l.drop i:=by
     unfold ZeG;simp
   rw [e]
   rcases h.ok with ⟨h2,h3⟩ | ⟨h2,h3⟩
   · rw [h2,h3,List.drop_of_length_le (by omega)];simp
   · rw [← Zhh (by omega)];exact h3
theorem Zfu.done {u0 i u:Nat} {l:List Int} (h:Zfu u0 i u l) (h1:i≠20) (h2:u=0):l.drop i=ZeG u0:=by
 rcases h.ok with ⟨h3,_⟩ | ⟨_,h3⟩
 · exact absurd h3 h1
 · rw [h2,ZkG] at h3;simpa using h3
theorem Zj1 (u:Nat) (hu:u≤18446744073709551615):FnP Tryz.prog 138 [.int .u64 (u:Int)] (.bs ((ZeG u).map toB)):=by
 refine FnP.mk Tryz.func138 rfl Tryz.ntmps138 rfl ?_
 intro B a w F hB hfr hS
 refine wp_seq ?_
 refine Za hS (qf (oN (.cs (by kernel_rfl))) trivial qz qZ) hB [2,0] [0] rfl rfl fun a w F hS=>Zb (wp_seq ?_)
 refine Zc hS (qf (oH [.int .u8 0,.int .u8 0,.int .u8 0,.int .u8 0,.int .u8 0,.int .u8 0,.int .u8 0,.int .u8 0,.int .u8 0,.int .u8 0,.int .u8 0,.int .u8 0,.int .u8 0,.int .u8 0,.int .u8 0,.int .u8 0,.int .u8 0,.int .u8 0,.int .u8 0,.int .u8 0] 101) trivial qz qZ) hB [3,2,0] [101,0] (fun _=>rfl) (fun _=>rfl) fun τ a w F hS=>?_
 try dsimp only [RS.sub,SF.sub,CF.sub,csub,Anc.sub,List.map,zCF] at hS
 generalize τ 3=v3 at hS
 refine Zb (wp_seq ?_)
 refine Za hS (qI qZ) hB [4,3,2,0] [101,0] rfl rfl fun a w F hS=>Zb (wp_seq (wp_block ?_))
 replace hS:=hS.turn 101 rfl (r':=.ob (.val v3) (Zo9 202 (fun x=>PV.int .u8 x) [0,0,0,0,0,0,0,0,0,0,0,0,0,0,0,0,0,0,0,0])) (fun τ w f y h=>Zmb (f:=(fun x=>PV.int .u8 x)) (l:=[0,0,0,0,0,0,0,0,0,0,0,0,0,0,0,0,0,0,0,0]) τ w f y h)
 obtain ⟨F,hS⟩:=hS.nm [4,3,0] [101,0] rfl rfl
 refine ZQ (σ:=(Nat×Nat×List Int)) (fun s=>(⟨[(0,.pv (.int .u64 s.2.1)),(3,.pv (.is v3)),(4,.pv (.int .i64 s.1))],[(0,frame B),(101,.ob (.val v3) (Zo9 202 (fun x=>PV.int .u8 x) s.2.2))]⟩:En)) (fun s=>Zfu u s.1 s.2.1 s.2.2) (fun s=>s.1) (20,u,[0,0,0,0,0,0,0,0,0,0,0,0,0,0,0,0,0,0,0,0]) hS (Zfu.start hu) ?_
 clear hS;intro s a w F hC hS
 obtain ⟨i,x,l⟩:=s
 try dsimp only at hC
 try dsimp only at hS
 have hl:=hC.hl
 have hi:=hC.hi
 have hbx:=hC.hb
 try dsimp only at hl hi hbx
 refine wp_seq (wp_seq ?_)
 refine Za hS (qM rfl rfl (qf (o_eql .t qi) r1 qz (qM rfl rfl (qm rfl rfl rfl rfl (qk rfl (fun h=>Zal (.w h) qi) r2 qz (qf (Z4 .t .t) r2 qz qZ)))))) hB [10,4,3,0] [101,0] rfl rfl fun a w F hS=>Zb ?_
 refine Zd hS rfl (fun hc0=>?_) (fun hc0=>?_)
 ·skip
  have hcc:i=20∨0<x:=by simp only [Bool.or_eq_true,decide_eq_true_eq] at hc0;omega
  have hip:=hC.pos hcc
  try dsimp only at hip
  refine wp_skip (Zb (wp_block (wp_seq ?_)))
  refine Za hS (qM rfl rfl (qf (o_sub .t qi) r1 qz (qN rfl rfl qZ))) hB [4,3,0] [101,0] rfl rfl fun a w F hS=>?_
  rw [show IntKind.wrap .i64 ((i:Int) - 1)=((i - 1:Nat):Int) by rw [ZH (by omega)];omega] at hS
  refine Zb (wp_seq ?_)
  refine Za hS (qM rfl rfl (qM rfl rfl (qf (ZoX .t qi (by decide)) r1 qz (qf (ZbX qi .t) r1 qz (qf (Zb7 Tryz.underlying5 (by kernel_rfl) .t) r1 qz (qf (Zgd (sz:=1) 101 Tryz.underlying202 (by kernel_rfl) .is .t (by omega) (by omega)) r2 r1 (qf (Zk4 101 .adr .t one_int (by kernel_rfl) (by rw [hl];omega)) r2 r1 qZ))))))) hB [4,3,0] [101,0] rfl rfl fun a w F hS=>?_
  rw [show 0+((i - 1:Nat):Int).toNat*1=i - 1 by omega] at hS
  rw [show IntKind.wrap .u8 (IntKind.wrap .u64 (48+(x:Int).tmod 10))=((48+x % 10:Nat):Int) by rw [Zi4,ZaT,Int.tmod_eq_emod_of_nonneg (by omega)];omega] at hS
  refine Zb ?_
  refine Za hS (qM rfl rfl (qf (ZnP .t qi (by decide)) r1 qz (qN rfl rfl qZ))) hB [4,3,0] [101,0] rfl rfl fun a w F hS=>Zh (Zb ?_)
  replace hS:=hS.ent (i:=0) (s':=.pv (.int .u64 ((x / 10:Nat):Int))) rfl (.int (by rw [ZaT,Int.tdiv_eq_ediv_of_nonneg (by omega)];omega))
  obtain ⟨F,hS⟩:=hS.nm [4,3,0] [101,0] rfl rfl
  exact ⟨(i - 1,x / 10,l.set (i - 1) ((48+x % 10:Nat):Int)),F,(hC.next hcc),hS,by dsimp only;omega⟩
 have hcc:i≠20∧x=0:=by simp only [Bool.or_eq_false_iff,decide_eq_false_iff_not] at hc0;omega
 have hdd:=hC.done hcc.1 hcc.2
 refine wp_exit (Zi (Zi (Zo (Zb (wp_seq ?_)))))
 replace hS:=hS.turn 101 rfl Zjo
 obtain ⟨F,hS⟩:=hS.giveRef 101 3 rfl rfl (Zka _ _)
 rw [Zks] at hS
 obtain ⟨F,hS⟩:=hS.nm [10,4,3,0] [0] rfl rfl
 refine Za hS (qM rfl rfl (qf (Zi0 (sz:=1) (R:=rB) (l:=l) Tryz.underlying202 (by kernel_rfl) (by intro x;rfl) hl (by decide) .t .t (by omega) (by omega)) r2 qz (qf (o_conv_sl_bs Tryz.underlying156 Tryz.underlying5 Tryz.underlying9 .t) r1 qz (qN rfl rfl qZ)))) hB [2] [0] rfl rfl fun a w F hS=>Zb (wp_ret ?_)
 refine Zn hfr hS rfl rfl rfl (.bs (by rw [Int.toNat_natCast,hdd]))
end Go.Proofs.YtjhapicamnijnaaGreat
