/- Texts put together. No condition beyond those that each theorem says. -/
import Derived.Test.YtjhapicamnijnaaGreatLibW
import Derived.Test.YtjhapicamnijnaaGreatLibL
import Derived.Shelf.Sort.Plain
import Derived.Shelf.Slices.In.SortNone
import Derived.Laws.BitsLemmas
import Derived.Laws.MathBits
namespace Go.Proofs.YtjhapicamnijnaaGreat
open Go Go.Gm
set_option linter.unusedVariables false
set_option linter.unusedSimpArgs false
set_option maxHeartbeats 4000000
set_option maxRecDepth 8000
theorem ZM {x:Int} (h : -9223372036854775808≤x∧x≤9223372036854775807):IntKind.wrap .i64 x=x:=Zjd ⟨by simp [IntKind.min,IntKind.signed,IntKind.bits];omega,by simp [IntKind.max,IntKind.signed,IntKind.bits];omega⟩
theorem Ze {i:Nat} (h:i<9223372036854775807):IntKind.wrap .i64 ((i:Int)+1)=((i+1:Nat):Int):=by rw [ZM (by omega)];omega
theorem ZdL {x:Int} (h:0≤x∧x≤18446744073709551615):IntKind.wrap .u64 x=x:=Zjd ⟨by simp [IntKind.min,IntKind.signed,IntKind.bits];omega,by simp [IntKind.max,IntKind.signed,IntKind.bits];omega⟩
theorem ZdZ (x:Int):IntKind.wrap .u64 x=x % 18446744073709551616:=by simp [IntKind.wrap,IntKind.bits,IntKind.signed]
theorem Zge {x:Int} (h:inR .i64 x) : -9223372036854775808≤x∧x≤9223372036854775807:=by simpa [inR,IntKind.min,IntKind.max,IntKind.signed,IntKind.bits] using h
theorem Sat.lenSl {α:Type} {R:α→List PV} {B:Zbr} {E:En} {a:Act} {w:World} {F:Fp} (h:Sat B E a w F) {i:Nat} {l:List α} (hl:Go.Gm.look E.s i=some (SF.pv (PV.sl R l))):l.length≤9223372036854775807:=by
 obtain ⟨_,cap,_,h1,h2,_⟩:=h.s i _ hl
 unfold maxLen at h2
 omega
def rInt (n:Int):List PV:=[.int .i64 n]
def rS (s:List UInt8):List PV:=[.bs s]
theorem Zbl.any {ss:List SF} : Zbl ss .any:=fun _ _ _ _ _=>trivial
theorem ZaP {α:Type} [Inhabited α] {x y:List α} (hl:x.length=y.length) (h:∀ j,j<x.length→Go.Gm.nth x j=Go.Gm.nth y j):x=y:=by
 apply List.ext_getElem hl
 intro j h1 h2
 have:=h j h1
 rwa [Zt h1,Zt h2] at this
theorem ZmB {α:Type} [Inhabited α] {q:List α} {k:Nat} (h:k<q.length):q.take k ++ [Go.Gm.nth q k] = q.take (k+1):=by
 rw [Zt h,List.take_succ_eq_append_getElem h]
theorem ZR {α:Type} [Inhabited α] {q:List α} {k:Nat} (h:k<q.length):Go.Gm.nth q k ∈ q:=by rw [Zt h];exact List.getElem_mem h
theorem Zcb {α:Type} [Inhabited α] {l:List α} {i:Nat} (h:i<l.length):l.drop i=Go.Gm.nth l i :: l.drop (i+1):=by rw [Zt h];exact List.drop_eq_getElem_cons h
theorem ZD {α:Type} [Inhabited α] {l:List α} {i:Nat} (h:i<l.length):l.take (i+1)=l.take i ++ [Go.Gm.nth l i]:=(ZmB h).symm
structure Zco where
 key:Int
 val:Int
 deriving DecidableEq,Inhabited
def Zdb (p:Zco):List PV:=[.int .i64 p.key,.int .i64 p.val]
section
variable {out t T:List Zco} {k x:Int} {e:Zco} {d:Bool}
end
def Zbs (v:Int):List Int→Int
 | []=>-1
 | x :: l=>if x=v then 0 else if Zbs v l<0 then -1 else Zbs v l+1
theorem ZfS {v:Int} : ∀ {l:List Int},(∀ k,k<l.length→Go.Gm.nth l k≠v)→Zbs v l = -1
 | [],_=>rfl
 | x :: l,h=>by
   have h0:x≠v:=h 0 (by simp)
   rw [Zbs,if_neg h0,ZfS (l:=l) fun k hk=>by have:=h (k+1) (by simpa using hk);exact this,if_pos (by decide)]
theorem Zna {v:Int} : ∀ {l:List Int} {i:Nat},i<l.length→Go.Gm.nth l i=v→(∀ k,k<i→Go.Gm.nth l k≠v)→Zbs v l=i
 | [],i,h,_,_=>by simp at h
 | x :: l,0,_,h,_=>by rw [Zbs,if_pos (show x=v from h)];rfl
 | x :: l,i+1,h,h1,h2=>by
   have h0:x≠v:=h2 0 (by omega)
   have:=Zna (l:=l) (i:=i) (by simpa using h) h1 fun k hk=>h2 (k+1) (by omega)
   rw [Zbs,if_neg h0,this,if_neg (by omega)];omega
theorem Zhr {v:Int} {l:List Int} (h:v ∈ l):∃ i:Nat,Zbs v l=i∧i<l.length∧Go.Gm.nth l i=v ∧ ∀ k,k<i→Go.Gm.nth l k≠v:=by
 induction l with
 | nil=>cases h
 | cons x l ih=>
   by_cases hx:x=v
   · exact ⟨0,by rw [Zbs,if_pos hx];rfl,by simp,hx,fun k hk=>absurd hk (Nat.not_lt_zero k)⟩
   · obtain ⟨i,h1,h2,h3,h4⟩:=ih (by rcases List.mem_cons.1 h with h | h;exact absurd h.symm hx;exact h)
     refine ⟨i+1,by rw [Zbs,if_neg hx,h1,if_neg (by omega)];omega,by simpa using h2,h3,fun k hk=>?_⟩
     cases k with
     | zero=>exact hx
     | succ k=>exact h4 k (by omega)
theorem ZhJ {v:Int} {l:List Int} (h:v ∉ l):Zbs v l = -1:=ZfS fun k hk e=>h (e ▸ ZR hk)
theorem ZgX (v:Int) (l:List Int) : -1≤Zbs v l∧Zbs v l<l.length:=by
 by_cases h:v ∈ l
 · obtain ⟨i,h1,h2,_⟩:=Zhr h
   omega
 · rw [ZhJ h];omega
theorem Zkc {v:Int} {l:List Int} : 0≤Zbs v l ↔ v ∈ l:=by
 constructor
 · intro h
   by_cases hm:v ∈ l
   · exact hm
   · rw [ZhJ hm] at h;omega
 · intro h
   obtain ⟨i,h1,_⟩:=Zhr h
   omega
def Zl0 (l:List Int) (j x:Int):List Int:=if 0≤j∧j≤l.length then l.take j.toNat++x :: l.drop j.toNat else l
def ZaU (l:List Int):Prop:=(∀ x ∈ l,1≤x∧x≤1048575)∧l.Nodup
instance (l:List Int):Decidable (ZaU l):=by unfold ZaU;exact inferInstance
theorem ZaU.snoc {l:List Int} {x:Int} : ZaU (l ++ [x]) ↔ ZaU l∧(1≤x∧x≤1048575)∧x ∉ l:=by
 unfold ZaU
 constructor
 · rintro ⟨h1,h2⟩
   rw [List.nodup_append] at h2
   exact ⟨⟨fun y hy=>h1 y (by simp [hy]),h2.1⟩,h1 x (by simp),fun hx=>h2.2.2 x hx x (by simp) rfl⟩
 · rintro ⟨⟨h1,h2⟩,h3,h4⟩
   refine ⟨fun y hy=>?_,List.nodup_append.2 ⟨h2,by simp,fun a ha b hb=>?_⟩⟩
   · rcases List.mem_append.1 hy with hy | hy
     · exact h1 y hy
     · rw [List.mem_singleton.1 hy];exact h3
   · rw [List.mem_singleton.1 hb]
     intro e;subst e;exact h4 ha
theorem ZaU.take {l:List Int} (h:ZaU l) (i:Nat):ZaU (l.take i):=⟨fun x hx=>h.1 x (List.mem_of_mem_take hx),h.2.sublist (List.take_sublist i l)⟩
def leI (x y:Int):Bool:=decide (x≤y)
theorem ZmL {a b:List Int} : a.mergeSort leI=b.mergeSort leI ↔ a.Perm b:=by
 constructor
 · intro h
   exact (List.mergeSort_perm a leI).symm.trans (h ▸ List.mergeSort_perm b leI)
 · intro h
   have hs:∀ l:List Int,List.Pairwise (fun x y=>x≤y) (l.mergeSort leI):=fun l=>by
     have:=List.pairwise_mergeSort (le:=leI) (fun a b c h1 h2=>by simp [leI] at *;omega) (fun a b=>by simp [leI];omega) l
     exact this.imp fun h=>by simpa [leI] using h
   exact List.Perm.eq_of_pairwise (fun x y _ _ h1 h2=>Int.le_antisymm h1 h2) (hs a) (hs b) (((List.mergeSort_perm a leI).trans h).trans (List.mergeSort_perm b leI).symm)
def withO (l:List Int) (tx:Int):List Int:=if tx ∈ l then l else l ++ [tx]
def withoutO (l:List Int) (tx:Int):List Int:=l.filter fun x=>decide (x≠tx)
def Zam (l:List Int) (tx place:Int):List Int×Int:=if Zbs tx l<0 then ([],3) else if ¬ (0≤place∧place<l.length) then ([],1) else (Zl0 (l.eraseIdx (Zbs tx l).toNat) place tx,0)
theorem Zop {l:List Int} {i p:Nat} {x:Int} (hi:i<p) (hp:p<l.length) :
   ((l.take i++(l.drop (i+1)).take (p - i))++l.drop p).set p x=Zl0 (l.eraseIdx i) p x:=by
 have e1:(l.take i++(l.drop (i+1)).take (p - i)).length=p:=by simp;omega
 unfold Zl0
 rw [if_pos ⟨by omega,by rw [List.length_eraseIdx,if_pos (by omega)];omega⟩,Int.toNat_natCast]
 rw [List.set_append_right _ _ (by omega),e1,Nat.sub_self]
 rw [List.drop_eq_getElem_cons hp,List.set_cons_zero,List.eraseIdx_eq_take_drop_succ]
 congr 1
 · rw [List.take_append,List.take_take,Nat.min_eq_right (by omega),List.length_take,Nat.min_eq_left (by omega)]
 · congr 1
   have e3:(l.take i).drop p = []:=List.drop_eq_nil_of_le (by rw [List.length_take];omega)
   rw [List.drop_append,List.length_take,Nat.min_eq_left (by omega),e3,List.nil_append,List.drop_drop]
   congr 1;omega
theorem Zor {l:List Int} {i p:Nat} {x:Int} (hi:p≤i) (hp:i<l.length) :
   ((l.take (p+1)++(l.drop p).take (i - p))++l.drop (i+1)).set p x=Zl0 (l.eraseIdx i) p x:=by
 unfold Zl0
 rw [if_pos ⟨by omega,by rw [List.length_eraseIdx,if_pos (by omega)];omega⟩,Int.toNat_natCast]
 rw [List.append_assoc,List.set_append_left _ _ (by simp;omega),List.take_succ_eq_append_getElem (by omega),List.set_append_right _ _ (by simp;omega)]
 rw [List.eraseIdx_eq_take_drop_succ]
 have e1:p - (l.take p).length=0:=by simp;omega
 rw [e1]
 simp only [List.set_cons_zero,List.append_assoc,List.singleton_append]
 congr 1
 · rw [List.take_append,List.take_take,Nat.min_eq_left (by omega),List.length_take]
   simp [show p - min i l.length=0 by omega]
 · congr 1
   rw [List.drop_append,List.length_take,Nat.min_eq_left (by omega),show p - i=0 by omega,List.drop_zero,List.drop_take]
def ZaA (now:List Int) (i:Int):List Int→List Zco
 | []=>[]
 | x :: to=>if Go.Gm.nth now i.toNat=x then ZaA now (i+1) to else ⟨x,i⟩ :: ZaA (Zam now x i).1 (i+1) to
def Zcc (a b:List Int):Prop:=ZaU a∧ZaU b∧a.Perm b
instance (a b:List Int):Decidable (Zcc a b):=by unfold Zcc;exact inferInstance
def Zak (a b:List Int):List Zco×Int:=if Zcc a b then (ZaA a 0 b,0) else ([],8)
theorem Zi3 {v:Int} {l:List Int} (h:v ∈ l):l.eraseIdx (Zbs v l).toNat=l.erase v:=by
 induction l with
 | nil=>cases h
 | cons x l ih=>
   by_cases hx:x=v
   · subst hx
     rw [Zbs,if_pos rfl];simp
   · have hm:v ∈ l:=by rcases List.mem_cons.1 h with h | h;exact absurd h.symm hx;exact h
     obtain ⟨i,h1,h2,_⟩:=Zhr hm
     rw [Zbs,if_neg hx,if_neg (by omega),h1,List.erase_cons_tail (by simpa using hx),← ih hm,h1]
     rw [show ((i:Int)+1).toNat=i+1 by omega,Int.toNat_natCast,List.eraseIdx_cons_succ]
theorem ZmQ {l:List Int} {j x:Int} (h:0≤j∧j≤l.length):(Zl0 l j x).Perm (x :: l):=by
 unfold Zl0
 rw [if_pos h]
 have:=(List.perm_middle (a:=x) (l₁:=l.take j.toNat) (l₂:=l.drop j.toNat))
 rwa [List.take_append_drop] at this
theorem ZhF {l:List Int} {tx place:Int} (h:tx ∈ l) (hp:0≤place∧place<l.length):Zam l tx place=(Zl0 (l.erase tx) place tx,0):=by
 unfold Zam
 rw [if_neg (by have:=Zkc.2 h;omega),if_neg (by simpa using hp),Zi3 h]
theorem Zc0 {l:List Int} {tx place:Int} (h:tx ∈ l) (hp:0≤place∧place<l.length):(Zam l tx place).1.Perm l:=by
 rw [ZhF h hp]
 have hl:(l.erase tx).length=l.length - 1:=List.length_erase_of_mem h
 exact (ZmQ (by omega)).trans (List.perm_cons_erase h).symm
def Za1 (l:List Int):List Zco→List Int
 | []=>l
 | p :: s=>Za1 (Zam l p.key p.val).1 s
theorem Zok {l:List Int} {tx:Int} {i:Nat} (h:tx ∈ l) (hi:i<l.length) (hx:tx ∉ l.take i):(Zam l tx i).1.take (i+1)=l.take i ++ [tx]:=by
 rw [ZhF h (by omega)]
 have hl:(l.erase tx).length=l.length - 1:=List.length_erase_of_mem h
 show (Zl0 (l.erase tx) i tx).take (i+1)=_
 unfold Zl0
 rw [if_pos (by omega),Int.toNat_natCast,List.take_append,List.take_of_length_le (by rw [List.length_take];omega),List.length_take,show i+1 - min i (l.erase tx).length=1 by omega]
 have e:(l.erase tx).take i=l.take i:=by
   conv=>lhs;rw [← List.take_append_drop i l]
   rw [List.erase_append_right _ hx,List.take_append,List.length_take,Nat.min_eq_left (by omega),Nat.sub_self,List.take_zero,List.append_nil,List.take_take,Nat.min_self]
 rw [e];rfl
theorem Zdw:∀ (to:List Int) (now pre:List Int),now.Perm (pre++to)→now.take pre.length=pre→now.Nodup→Za1 now (ZaA now pre.length to)=pre++to
 | [],now,pre,hp,ht,hn=>by
   have:=hp.length_eq
   simp at this
   simp only [ZaA,Za1,List.append_nil]
   rw [← ht,List.take_of_length_le (by omega)]
 | x :: to,now,pre,hp,ht,hn=>by
   have hl:=hp.length_eq
   simp at hl
   have hxm:x ∈ now:=hp.mem_iff.2 (by simp)
   have hnd:(pre++x :: to).Nodup:=hp.nodup hn
   have hxp:x ∉ pre:=fun h=>(List.nodup_append.1 hnd).2.2 x h x (by simp) rfl
   have e:pre++x :: to=(pre ++ [x])++to:=by simp
   have elen:((pre ++ [x]).length:Int)=(pre.length:Int)+1:=by simp
   unfold ZaA
   rw [Int.toNat_natCast]
   split
   · rename_i h
     have:=Zdw to now (pre ++ [x]) (by rw [← e];exact hp) (by
       rw [List.length_append,List.length_singleton,ZD (by omega),h,ht]) hn
     rw [elen] at this
     rw [this,← e]
   · rename_i h
     show Za1 (Zam now x pre.length).1 _=_
     have hp2:=Zc0 (place:=(pre.length:Int)) hxm (by omega)
     have:=Zdw to (Zam now x pre.length).1 (pre ++ [x]) (by rw [← e];exact hp2.trans hp) (by
       rw [List.length_append,List.length_singleton,Zok hxm (by omega) (by rw [ht];exact hxp),ht]) (hp2.symm.nodup hn)
     rw [elen] at this
     rw [this,← e]
theorem Zdo:∀ (to:List Int) (now:List Int) (i:Int),∃ s,s.Sublist to∧(ZaA now i to).map Zco.key=s
 | [],now,i=>⟨[],List.Sublist.refl _,rfl⟩
 | x :: to,now,i=>by
   unfold ZaA
   split
   · obtain ⟨s,h1,h2⟩:=Zdo to now (i+1)
     exact ⟨s,h1.cons x,h2⟩
   · obtain ⟨s,h1,h2⟩:=Zdo to (Zam now x i).1 (i+1)
     exact ⟨x :: s,h1.cons_cons x,by rw [List.map_cons,h2]⟩
def Zh4:Go.Shelf.Ren:=⟨fun | 189=>103 | 125=>165 | 257=>164 | 128=>203 | 129=>204 | 294=>194 | 295=>195 | 296=>196 | 297=>197 | 298=>198 | 299=>199 | 216=>200 | 300=>201 | 301=>202 | 328=>215 | 329=>216 | 330=>217 | 331=>218 | 332=>219 | 215=>212 | 343=>224 | n=>n,fun | 28=>41 | 3=>3 | 46=>190 | 0=>0 | 51=>214 | 53=>166 | 4=>4 | 183=>207 | 182=>206 | 131=>146 | 5=>5 | 9=>9 | 218=>222 | 222=>226 | 228=>231 | 229=>232 | n=>n,fun  | n=>n⟩
theorem ZkS:Lays.n189 Tryz.prog Zh4 where
 mixed:=by kernel_rfl
 f125:=Tryz.func165.trans (congrArg some (by kernel_rfl))
 f128:=Tryz.func203.trans (congrArg some (by kernel_rfl))
 f129:=Tryz.func204.trans (congrArg some (by kernel_rfl))
 f189:=Tryz.func103.trans (congrArg some (by kernel_rfl))
 f215:=Tryz.func212.trans (congrArg some (by kernel_rfl))
 f216:=Tryz.func200.trans (congrArg some (by kernel_rfl))
 f257:=Tryz.func164.trans (congrArg some (by kernel_rfl))
 f294:=Tryz.func194.trans (congrArg some (by kernel_rfl))
 f295:=Tryz.func195.trans (congrArg some (by kernel_rfl))
 f296:=Tryz.func196.trans (congrArg some (by kernel_rfl))
 f297:=Tryz.func197.trans (congrArg some (by kernel_rfl))
 f298:=Tryz.func198.trans (congrArg some (by kernel_rfl))
 f299:=Tryz.func199.trans (congrArg some (by kernel_rfl))
 f300:=Tryz.func201.trans (congrArg some (by kernel_rfl))
 f301:=Tryz.func202.trans (congrArg some (by kernel_rfl))
 f328:=Tryz.func215.trans (congrArg some (by kernel_rfl))
 f329:=Tryz.func216.trans (congrArg some (by kernel_rfl))
 f330:=Tryz.func217.trans (congrArg some (by kernel_rfl))
 f331:=Tryz.func218.trans (congrArg some (by kernel_rfl))
 f332:=Tryz.func219.trans (congrArg some (by kernel_rfl))
 f343:=Tryz.func224.trans (congrArg some (by kernel_rfl))
 t0:=Tryz.underlying0
 a0:=Tryz.isAgg0
 z0:=Tryz.sizeOf0
 v0:=Tryz.zeroValue0
 t3:=Tryz.underlying3
 a3:=Tryz.isAgg3
 z3:=Tryz.sizeOf3
 v3:=Tryz.zeroValue3
 t4:=Tryz.underlying4
 a4:=Tryz.isAgg4
 z4:=Tryz.sizeOf4
 v4:=Tryz.zeroValue4
 t5:=Tryz.underlying5
 a5:=Tryz.isAgg5
 z5:=Tryz.sizeOf5
 v5:=Tryz.zeroValue5
 t9:=Tryz.underlying9
 a9:=Tryz.isAgg9
 z9:=Tryz.sizeOf9
 v9:=Tryz.zeroValue9
 t28:=Tryz.underlying41
 a28:=Tryz.isAgg41
 z28:=Tryz.sizeOf41
 v28:=Tryz.zeroValue41
 t46:=Tryz.underlying190
 a46:=Tryz.isAgg190
 z46:=Tryz.sizeOf190
 v46:=Tryz.zeroValue190
 t51:=Tryz.underlying214
 a51:=Tryz.isAgg214
 z51:=Tryz.sizeOf214
 v51:=Tryz.zeroValue214
 t53:=Tryz.underlying166
 a53:=Tryz.isAgg166
 z53:=Tryz.sizeOf166
 v53:=Tryz.zeroValue166
 t131:=Tryz.underlying146
 a131:=Tryz.isAgg146
 z131:=Tryz.sizeOf146
 v131:=Tryz.zeroValue146
 t182:=Tryz.underlying206
 a182:=Tryz.isAgg206
 z182:=Tryz.sizeOf206
 v182:=Tryz.zeroValue206
 t183:=Tryz.underlying207
 a183:=Tryz.isAgg207
 z183:=Tryz.sizeOf207
 v183:=Tryz.zeroValue207
 t218:=Tryz.underlying222
 a218:=Tryz.isAgg222
 z218:=Tryz.sizeOf222
 v218:=Tryz.zeroValue222
 t222:=Tryz.underlying226
 a222:=Tryz.isAgg226
 z222:=Tryz.sizeOf226
 v222:=Tryz.zeroValue226
 t228:=Tryz.underlying231
 a228:=Tryz.isAgg231
 z228:=Tryz.sizeOf231
 v228:=Tryz.zeroValue231
 t229:=Tryz.underlying232
 a229:=Tryz.isAgg232
 z229:=Tryz.sizeOf232
 v229:=Tryz.zeroValue232
theorem Znu (w:World):Calls Tryz.prog 103 #[.slice none 0 0] w (fun e w'=>e = .returned (.tuple #[])∧w' = w):=
 Go.calls_of_every_depth fun D=>Go.Proofs.AnyS.slices_Sort_int_none_in ZkS D none 0 w
theorem ZhC {w:World} {y:Ys} : ∀ {l:List Int} {xs:List Value},PVs (l.flatMap rInt) xs w y→xs=l.map (Value.int .i64) ∧ ∀ x ∈ l,inR .i64 x
 | [],[],_=>⟨rfl,fun x hx=>by cases hx⟩
 | [],_ :: _,h=>h.elim
 | x :: l,[],h=>h.elim
 | x :: l,v :: xs,h=>by
   have h1:v = .int .i64 x∧inR .i64 x:=h.1.2
   obtain ⟨h2,h3⟩:=ZhC (l:=l) (xs:=xs) h.2
   exact ⟨by rw [h1.1,h2];rfl,fun z hz=>by rcases List.mem_cons.1 hz with rfl | hz;exact h1.2;exact h3 z hz⟩
theorem Zfh {w:World} {y:Ys} : ∀ {l:List Int},(∀ x ∈ l,inR .i64 x)→PVs (l.flatMap rInt) (l.map (Value.int .i64)) w y
 | [],_=>trivial
 | x :: l,h=>⟨⟨rfl,rfl,h x (by simp)⟩,Zfh fun z hz=>h z (by simp [hz])⟩
theorem Zn9 {l:List Int} {j:Nat} (hj:j<l.length):(l.toArray)[j]! = l[j]:=by simp [hj]
theorem Zjk {w:World} {g n:Nat} {d:List Int} {os:Array Obj} {cur:Array Value} {e:TypeId} (hg:w.heap[g]? = some (.cells cur e (0,0))) (b:Nat) (hb:b<w.heap.size) :
   (Go.Sort.grow (Go.Sort.putRow (Value.int .i64) (Go.Sort.ahead w n) g 0 d.toArray) os).heap[b]? = if b=g then some (.cells (Go.Sort.putCells (Value.int .i64) 0 d.toArray cur) e (0,0)) else w.heap[b]?:=by
 unfold Go.Sort.grow Go.Sort.putRow Go.Sort.mapBlock Go.Sort.ahead
 simp only
 rw [Array.getElem?_append_left (by simpa using hb),Array.getElem?_modify]
 by_cases h:g=b
 · subst h
   rw [if_pos rfl,if_pos rfl,hg];rfl
 · rw [if_neg h,if_neg (fun e=>h e.symm)]
theorem ZnV {cur:Array Value} {d:List Int} (h:d.length≤cur.size):(Go.Sort.putCells (Value.int .i64) 0 d.toArray cur).toList.take d.length=d.map (Value.int .i64):=by
 apply List.ext_getElem
 · simp [Go.Sort.putCells];omega
 · intro i h1 h2
   have hi:i<d.length:=by simpa using h2
   simp [Go.Sort.putCells,hi]
theorem ZjY (v:Value) (l:List Int) (hlm:l.length≤1000000):FnG Tryz.prog 103 1 [.is v] [Zx 3 1 rInt l v] (.tup []) (fun _=>[Zx 3 1 rInt (l.mergeSort leI) v]):=fun w F vs hw hle hvs hpr=>by
 match vs,hvs with
 | [u],hvs=>
   have hu:u=v:=hvs.1.1
   subst hu
   obtain ⟨xs,⟨hxl,hx⟩,hp,hf⟩:=hpr 0 _ rfl
   rcases hx with ⟨rfl,h0⟩ | ⟨g,cap,cur,rfl,_,hg,hn,hcap,hcs,hct⟩
   · have hl:l = []:=List.eq_nil_of_length_eq_zero h0
     subst hl
     refine (Znu w).mono ?_
     rintro e w' ⟨rfl,rfl⟩
     refine ⟨.tuple #[],F,rfl,hw,⟨rfl,rfl,rfl,Nat.le_refl _,fun _ _ _=>rfl,fun _ _=>rfl,fun n hn b hb=>.inl ⟨n,hn,hb⟩⟩,hle,⟨[],rfl,trivial⟩,fun i h hi=>?_⟩
     match i,hi with
     | 0,hi=>simp at hi;subst hi;exact ⟨xs,⟨hxl,.inl ⟨rfl,rfl⟩⟩,by simpa using hp,hf⟩
   · have hgs:g<w.heap.size:=(Array.getElem?_eq_some_iff.1 hg).1
     obtain ⟨hxe,hin⟩:=ZhC hp
     have hcl:l.length≤cur.size:=by rw [hcs];omega
     have hbig:l.length<4611686018427387904:=by omega
     have hcur:∀ j (hj:j<l.length),cur[j]? = some (.int .i64 l[j]):=fun j hj=>by
       have h1:(cur.toList.take (l.length*1))[j]? = (l.map (Value.int .i64))[j]?:=by rw [hct,hxe]
       rw [List.getElem?_take_of_lt (by omega)] at h1
       simpa [hj] using h1
     have hH:Go.Sort.Holds (Value.int .i64) w g 0 l.toArray:=fun j hj=>by
       have hj':j<l.length:=by simpa using hj
       refine ⟨?_,?_⟩
       · rw [Zn9 hj',Nat.zero_add,Za6 hg];exact hcur j hj'
       · simp [World.frozen?,hg]
     have hcalls:Calls Tryz.prog 103 #[.slice (some ⟨g,0,none⟩) l.length cap] w fun e w'=>e = .returned (.tuple #[]) ∧ ∃ n os,w' = Go.Sort.grow (Go.Sort.putRow (Value.int .i64) (Go.Sort.ahead w n) g 0 (l.mergeSort leI).toArray) os:=Go.Proofs.Any.slices_Sort_int ZkS g 0 cap l w hH hgs hbig
     refine hcalls.mono ?_
     rintro e w' ⟨rfl,n,os,rfl⟩
     have hsl:(l.mergeSort leI).length=l.length:=List.length_mergeSort l
     have hheap:=fun b hb=>Zjk (n:=n) (d:=l.mergeSort leI) (os:=os) hg b hb
     have hsz:(Go.Sort.grow (Go.Sort.putRow (Value.int .i64) (Go.Sort.ahead w n) g 0 (l.mergeSort leI).toArray) os).heap.size=w.heap.size+os.size:=by simp [Go.Sort.ahead]
     have hfg:F 1 g:=(hf g).2 rfl
     have hst:Stp (List.range' 1 1) w F (Go.Sort.grow (Go.Sort.putRow (Value.int .i64) (Go.Sort.ahead w n) g 0 (l.mergeSort leI).toArray) os) F:=
       ⟨rfl,rfl,rfl,by rw [hsz];omega,fun b hb hn=>by
         rw [hheap b hb,if_neg (fun e=>by subst e;exact hn 1 (by simp) hfg)],fun _ _=>rfl,fun n hn b hb=>.inl ⟨n,hn,hb⟩⟩
     refine ⟨.tuple #[],F,rfl,⟨hw.dis,fun n b hb=>by rw [hsz];have:=hw.bd n b hb;omega⟩,hst,hle,⟨[],rfl,trivial⟩,fun i h hi=>?_⟩
     match i,hi with
     | 0,hi=>
       simp only [List.getElem?_cons_zero,Option.some.injEq] at hi
       subst hi
       refine ⟨(l.mergeSort leI).map (Value.int .i64),⟨by simp,.inr ⟨g,cap,_,by rw [hsl],Nat.zero_le _,(hheap g hgs).trans (if_pos rfl),by omega,hcap,by simp [Go.Sort.putCells,hcs],?_⟩⟩,Zfh fun x hx=>hin x ((List.mergeSort_perm l leI).mem_iff.1 hx),hf⟩
       rw [Nat.mul_one];exact ZnV (by omega)
theorem Zca {α:Type} [Inhabited α] {p:α→Bool} {l:List α} {j:Nat} (h:j<l.length):(l.take (j+1)).filter p=(l.take j).filter p++if p (Go.Gm.nth l j)=true then [Go.Gm.nth l j] else []:=by
 rw [ZD h,List.filter_append]
 congr 1
 by_cases e:p (Go.Gm.nth l j)=true
 · rw [if_pos e];simp [e]
 · rw [if_neg e];simp at e;simp [e]
def ZZ {α:Type} [Inhabited α] (p:α→Bool) (l:List α):Int:=match l.findIdx? p with
 | some i=>i
 | none=>-1
theorem ZbM {α:Type} [Inhabited α] {p:α→Bool} {l:List α} (h:∀ k,k<l.length→p (Go.Gm.nth l k)=false):ZZ p l = -1:=by
 unfold ZZ
 have:l.findIdx? p=none:=List.findIdx?_eq_none_iff.2 fun x hx=>by
   obtain ⟨k,hk,rfl⟩:=List.mem_iff_getElem.1 hx
   rw [← Zt hk];exact h k hk
 rw [this]
theorem Zc7 {α:Type} [Inhabited α] {p:α→Bool} {l:List α} {i:Nat} (hi:i<l.length) (h:p (Go.Gm.nth l i)=true) (h2:∀ k,k<i→p (Go.Gm.nth l k)=false):ZZ p l=i:=by
 unfold ZZ
 have:l.findIdx? p=some i:=List.findIdx?_eq_some_iff_getElem.2 ⟨hi,by rw [← Zt hi];exact h,fun k hk=>by rw [← Zt (by omega),h2 k hk];decide⟩
 rw [this]
theorem Zap {α:Type} [Inhabited α] (p:α→Bool) (l:List α):(ZZ p l = -1 ∧ ∀ k,k<l.length→p (Go.Gm.nth l k)=false) ∨ ∃ i:Nat,ZZ p l=i∧i<l.length∧p (Go.Gm.nth l i)=true ∧ ∀ k,k<i→p (Go.Gm.nth l k)=false:=by
 cases h:l.findIdx? p with
 | none=>
   left
   refine ⟨by unfold ZZ;rw [h],fun k hk=>?_⟩
   have:=List.findIdx?_eq_none_iff.1 h l[k] (List.getElem_mem hk)
   rw [Zt hk];exact this
 | some i=>
   right
   obtain ⟨h1,h2,h3⟩:=List.findIdx?_eq_some_iff_getElem.1 h
   refine ⟨i,by unfold ZZ;rw [h],h1,by rw [Zt h1];exact h2,fun k hk=>?_⟩
   rw [Zt (by omega)]
   simpa using h3 k hk
theorem Zc2 {α:Type} [Inhabited α] {p:α→Bool} {l:List α} (h:∀ k,k<l.length→p (Go.Gm.nth l k)=false):l.filter (fun x=>!p x)=l:=by
 rw [List.filter_eq_self]
 intro x hx
 obtain ⟨k,hk,rfl⟩:=List.mem_iff_getElem.1 hx
 rw [← Zt hk,h k hk];rfl
theorem Zel {α:Type} [Inhabited α] {p:α→Bool} {l:List α} {i:Nat} (hi:i<l.length) (hip:p (Go.Gm.nth l i)=true) (hib:∀ k,k<i→p (Go.Gm.nth l k)=false):l.take i=(l.take (i+1)).filter fun x=>!p x:=by
 have h:(l.take i).filter (fun x=>!p x)=l.take i:=Zc2 fun k hk=>by
   rw [List.length_take] at hk
   rw [Zt (by rw [List.length_take];omega),List.getElem_take,← Zt (by omega)]
   exact hib k (by omega)
 rw [Zca (p:=fun x=>!p x) hi,hip,h];simp
theorem Zi8:inR .i64 0:=by show IntKind.min .i64≤0∧0≤IntKind.max .i64;decide
theorem Zc3 (l:List Int) (hl:l.length≤1000000):FnG Tryz.prog 82 1 [.sl rInt l] [.star []] (PV.one) (fun v=>[Zx 3 1 rInt l v]):=by
 refine FnG.mk Tryz.func82 rfl Tryz.ntmps82 rfl (by kernel_rfl) ?_
 intro B F0 a w F hB hG hS
 obtain ⟨F,hS⟩:=hS.nm [0] [0] rfl rfl
 refine wp_seq ?_
 refine Za hS (qC qZ) hB [2,0] [0] rfl rfl fun a w F hS=>Zb (wp_seq (wp_seq ?_))
 refine Za hS (qM rfl rfl (qf (Zdi Tryz.underlying41 .t) r1 qz qZ)) hB [4,2,0] [0] rfl rfl fun a w F hS=>?_
 obtain ⟨β4,hβ4,hS⟩:=hS.pickBool 4 rfl
 obtain ⟨F,hS⟩:=hS.nm [4,2,0] [0] rfl rfl
 refine Zb ?_
 refine Zd hS rfl (fun hc0=>?_) (fun hc0=>?_)
 ·skip
  have hg:l = []:=hβ4 hc0
  refine wp_seq ?_
  refine Za hS (qC qZ) hB [2,0] [0] rfl rfl fun a w F hS=>Zb (wp_ret (Zg ?_))
  have hS:=hS.fresh 1 rfl
  have hS:=hS.turn 1 rfl (Zav (T:=3) (sz:=1) (R:=rInt))
  have hS:=hS.turn 1 rfl (r':=RS.hp (Zx 3 1 rInt l (.slice none 0 0))) (fun _ _ _ _ h=>by rw [hg];exact h)
  refine ZaD (h':=fun v=>Zx 3 1 rInt l v) hG hS rfl (.tmp rfl .nil) (.one .one) rfl
 have hg:l = [] ++ l:=rfl
 refine wp_skip (Zb (wp_seq ?_))
 refine Zc hS (qf (Zb9 (R:=rInt) (sz:=1) 101 Tryz.underlying41 (by kernel_rfl)) trivial qz (qM rfl rfl (qf (o_append (sz:=1) (bs:=8) 101 (.mk' Tryz.underlying41 (by kernel_rfl) (by kernel_rfl)) (by intro x;rfl) .same (.sl .t) (by simp only [List.length_append,List.length_nil];omega) (by decide)) ⟨rfl,rfl,trivial⟩ ⟨rfl,trivial⟩ (qN rfl rfl qZ)))) hB [2] [101,0] (fun _=>rfl) (fun _=>rfl) fun τ a w F hS=>?_
 try dsimp only [RS.sub,SF.sub,CF.sub,csub,Anc.sub,List.map,Zf,xL,xM,Nat.reduceAdd,xD,xE,xT,xU,xC,xN,zCF,rInt] at hS
 generalize τ 7=v7 at hS
 refine Zb (wp_ret ?_)
 obtain ⟨F,hS⟩:=hS.rename 101 1 rfl rfl
 have hS:=hS.turn 1 rfl (r':=RS.hp (Zx 3 1 rInt l v7)) (fun _ _ _ _ h=>by rw [hg];exact h)
 refine ZaD (h':=fun v=>Zx 3 1 rInt l v) hG hS rfl (.tmp rfl .nil) (.one .one) rfl
theorem Zp9 (l : List Int) (p : Int → Bool) (f : FuncId) (fn : Func) (cps : List PV) (hf : Tryz.prog.funcs[f]? = some fn) (hb : fn.body.isSome = true) (hnn : (fn.name == "runtime.NumGoroutine") = false) (hw : ∀ x, FnP Tryz.prog f (.int .i64 x :: cps) (.bool (p x))) : FnP Tryz.prog 222 [.sl rInt l, .clos f cps] (.int .i64 (ZZ p l)) := by
 refine FnP.mk Tryz.func222 rfl Tryz.ntmps222 rfl ?_
 intro B a w F hB hfr hS
 have hll:=Sat.lenSl hS (i:=0) rfl
 refine wp_seq ?_
 refine Za hS (qI qZ) hB [4,1,0] [0] rfl rfl fun a w F hS=>Zb (wp_seq (wp_seq ?_))
 refine Za hS (qM rfl rfl (qu Tryz.underlying41 r1 (qJ qZ))) hB [8,7,4,1,0] [0] rfl rfl fun a w F hS=>Zb (wp_block ?_)
 refine Zo (σ:=(Nat)) [0,1,4,7] [0] (fun s=>[(8,.pv (.int .i64 (s:Int)))]) (fun s=>[]) (fun s=>s≤l.length∧(∀ k,k<s→p (Go.Gm.nth l k)=false)) (fun s=>l.length - s) (0) hS ⟨rfl,rfl,rfl,rfl,rfl,trivial⟩ ⟨rfl,trivial⟩ ⟨Nat.zero_le _,fun k hk=>absurd hk (Nat.not_lt_zero k)⟩ ?_
 clear hS;intro i a w F hC hS
 try dsimp only at hC
 obtain ⟨F,hS⟩:=hS.nm [8,7,4,1,0] [0] rfl rfl
 try dsimp only at hS
 obtain ⟨hi,hq⟩:=hC
 refine wp_seq ?_
 refine Za hS (qL r2) hB [9,8,7,4,1,0] [0] rfl rfl fun a w F hS=>Zb (wp_seq ?_)
 refine Zd hS rfl (fun hc0=>?_) (fun hc0=>?_)
 ·skip
  have hil:i<l.length:=by simp at hc0;omega
  refine wp_skip (Zb (wp_seq (wp_block (wp_seq ?_))))
  refine Za hS (qM rfl rfl (qN rfl rfl qZ)) hB [8,7,5,4,1,0] [0] rfl rfl fun a w F hS=>Zb (wp_seq ?_)
  refine Za hS (qM rfl rfl (qM rfl rfl (qM rfl rfl (qy 1 Tryz.underlying41 r2 (qf (oR false 1 .t) r1 qz (qf (ZU (avs:=[.int .i64 (Go.Gm.nth l i)]) .t (hw (Go.Gm.nth l i)) hf hb hnn (Args.one .t)) r2 qz qZ)))))) hB [16,8,7,5,4,1,0] [0] rfl rfl fun a w F hS=>?_
  try simp only [Int.toNat_natCast] at hS
  refine Zb ?_
  refine Zd hS rfl (fun hc1=>?_) (fun hc1=>?_)
  ·skip
   have hg:(i:Int)=ZZ p l:=(Zc7 hil hc1 hq).symm
   refine wp_seq ?_
   refine Za hS (qM rfl rfl (qN rfl rfl qZ)) hB [8,7,4,1,0] [0] rfl rfl fun a w F hS=>Zb (wp_ret (Zl (Zg (Zg (Zl (Zg ?_))))))
   refine Zq hfr hS rfl rfl rfl (.int hg)
  have hne:p (Go.Gm.nth l i)=false:=hc1
  refine wp_skip (Zi (Zb ?_))
  refine Za hS (qp r1 (qM rfl rfl qZ)) hB [8,7,4,1,0] [0] rfl rfl fun a w F hS=>Zb ?_
  replace hS:=hS.ent (i:=8) (s':=.pv (.int .i64 ((i+1:Nat):Int))) rfl (.int (Ze (by omega)))
  obtain ⟨F,hS⟩:=hS.nm [7,4,1,0,8] [0] rfl rfl
  exact ⟨(i+1),F,⟨by omega,(fun k hk=>by rcases Nat.lt_or_eq_of_le (Nat.le_of_lt_succ hk) with h | h;exact hq k h;rw [h];exact hne)⟩,hS,by omega⟩
 have hil:i=l.length:=by simp at hc0;omega
 have hg : -1=ZZ p l:=(ZbM fun k hk=>hq k (by simp at hc0;omega)).symm
 refine wp_exit (Zj (Zj (Zp (Zb (wp_seq ?_)))))
 refine Za hS (qI qZ) hB [4] [0] rfl rfl fun a w F hS=>Zb (wp_ret ?_)
 refine Zq hfr hS rfl rfl rfl (.int hg)
theorem ZpY (v : Value) (l : List Int) (hll : l.length ≤ 1000000) (p : Int → Bool) (f : FuncId) (fn : Func) (cps : List PV) (hf : Tryz.prog.funcs[f]? = some fn) (hb : fn.body.isSome = true) (hnn : (fn.name == "runtime.NumGoroutine") = false) (hw : ∀ x, FnP Tryz.prog f (.int .i64 x :: cps) (.bool (p x))) : FnG Tryz.prog 210 1 [.is v, .clos f cps] [Zx 3 1 rInt l v] (PV.one) (fun v => [Zx 3 1 rInt (l.filter fun x => !p x) v]) := by
 refine FnG.mk Tryz.func210 rfl Tryz.ntmps210 rfl (by kernel_rfl) ?_
 intro B F0 a w F hB hG hS
 replace hS:=hS.turn 1 rfl (r':=.ob (.val v) (Zx 3 1 rInt l)) (fun _ _ _ _ h=>h)
 refine wp_seq ?_
 refine Za hS (qC qZ) hB [4,1,0] [1,0] rfl rfl fun a w F hS=>Zb (wp_seq ?_)
 refine Za hS (qM rfl rfl (qM rfl rfl (qf (OpC.lendRow 1 [8] (oP (Zp9 l p f fn cps hf hb hnn hw) Tryz.func222 (Args.two .t .t)) ⟨rfl,trivial,trivial⟩ (.pv (fun _ _ _ _ h=>h)) trivial (by rfl)) r2 r1 (qN rfl rfl qZ)))) hB [5,4,1,0] [1,0] rfl rfl fun a w F hS=>Zb (wp_seq (wp_seq ?_))
 refine Za hS (qM rfl rfl (qf (o_eql .t qi) r1 qz qZ)) hB [12,5,4,1,0] [1,0] rfl rfl fun a w F hS=>Zb ?_
 refine Zd hS rfl (fun hc0=>?_) (fun hc0=>?_)
 ·skip
  have hno:=(Zap p l).resolve_right (by rintro ⟨i,h1,_⟩;simp at hc0;omega)
  have hg:(l.filter fun x=>!p x)=l:=Zc2 hno.2
  refine wp_seq ?_
  refine Za hS (qM rfl rfl (qN rfl rfl qZ)) hB [5,4,1,0] [1,0] rfl rfl fun a w F hS=>Zb (wp_ret (Zg ?_))
  have hS:=hS.turn 1 rfl (r':=RS.hp (Zx 3 1 rInt (l.filter fun x=>!p x) v)) (fun _ _ _ _ h=>by rw [hg];exact h)
  refine ZaD (h':=fun v=>Zx 3 1 rInt (l.filter fun x=>!p x) v) hG hS rfl (.tmp rfl .nil) (.one .one) rfl
 obtain ⟨i0,hi0,hi1,hip,hib⟩:=(Zap p l).resolve_left (by rintro ⟨h1,_⟩;simp [h1] at hc0)
 have hst0:=Zel hi1 hip hib
 refine wp_skip (Zb (wp_seq (wp_seq ?_)))
 refine Za hS (qM rfl rfl (qp r1 (qN rfl rfl qZ))) hB [6,5,4,1,0] [1,0] rfl rfl fun a w F hS=>Zb (wp_block ?_)
 have hC0:i0<i0+1∧i0+1≤l.length∧l.length=l.length∧l.take i0=(l.take (i0+1)).filter (fun x=>!p x) ∧ ∀ k,i0+1≤k→k<l.length→Go.Gm.nth l k=Go.Gm.nth l k:=⟨by omega,by omega,rfl,hst0,fun k _ _=>rfl⟩
 replace hS:=hS.ent (i:=5) (s':=.pv (.int .i64 (i0:Int))) rfl (.int hi0)
 replace hS:=hS.ent (i:=6) (s':=.pv (.int .i64 ((i0+1:Nat):Int))) rfl (.int (by rw [hi0,ZM (by omega)];omega))
 refine Zo (σ:=Nat×Nat×List Int) [0,1,4] [0] (fun s=>[(5,.pv (.int .i64 (s.1:Int))),(6,.pv (.int .i64 (s.2.1:Int)))]) (fun s=>[(1,.ob (.val v) (Zx 3 1 rInt s.2.2))]) (fun s=>s.1<s.2.1∧s.2.1≤l.length∧s.2.2.length=l.length∧s.2.2.take s.1=(l.take s.2.1).filter (fun x=>!p x) ∧ ∀ k,s.2.1≤k→k<l.length→Go.Gm.nth s.2.2 k=Go.Gm.nth l k) (fun s=>l.length - s.2.1) ((i0),(i0+1),(l)) hS ⟨rfl,rfl,rfl,rfl,rfl,trivial⟩ ⟨rfl,rfl,trivial⟩ hC0 ?_
 clear hS;intro s a w F hC hS
 obtain ⟨i,j,l1⟩:=s
 try dsimp only at hC
 obtain ⟨F,hS⟩:=hS.nm [6,5,4,1,0] [1,0] rfl rfl
 try dsimp only at hS
 obtain ⟨hij,hj,hll1,htk,hrest⟩:=hC
 refine wp_seq (wp_seq ?_)
 refine Za hS (qM rfl rfl (qM rfl rfl (qf (ZV 1 Tryz.underlying41 .is) r1 r1 (qL r2)))) hB [19,6,5,4,1,0] [1,0] rfl rfl fun a w F hS=>Zb ?_
 refine Zd hS rfl (fun hc1=>?_) (fun hc1=>?_)
 ·skip
  have hjl:j<l.length:=by simp at hc1;omega
  have hnj:Go.Gm.nth l1 j=(Go.Gm.nth l j):=hrest j (Nat.le_refl _) hjl
  have hfs:=Zca (p:=fun x=>!p x) hjl
  refine wp_skip (Zb (wp_seq (wp_block (wp_seq ?_))))
  refine Za hS (qM rfl rfl (qM rfl rfl (qf (o_indexAddr_row (sz:=1) 1 (.mk Tryz.underlying41 (by kernel_rfl)) .is .t (by omega) (by omega) (by rfl)) r2 r1 (qf (Zar (ag:=false) (sz':=1) (sz:=1) 1 .t (by intro x;rfl) (by omega) (by kernel_rfl) (by kernel_rfl) (by kernel_rfl)) r1 r1 (qN rfl rfl qZ))))) hB [7,6,5,4,1,0] [1,0] rfl rfl fun a w F hS=>?_
  try simp only [Int.toNat_natCast] at hS
  rw [hnj] at hS
  refine Zb (wp_seq ?_)
  refine Za hS (qM rfl rfl (qM rfl rfl (qf (ZU (avs:=[.int .i64 (Go.Gm.nth l j)]) .t (hw (Go.Gm.nth l j)) hf hb hnn (Args.one .t)) r2 qz (qf (o_not .t) r1 qz qZ)))) hB [29,7,6,5,4,1,0] [1,0] rfl rfl fun a w F hS=>Zb ?_
  refine Zd hS rfl (fun hc2=>?_) (fun hc2=>?_)
  ·skip
   have hp:p (Go.Gm.nth l j)=false:=by simpa using hc2
   obtain ⟨i2,hi2e⟩:∃ i2,i2=i+1:=⟨_,rfl⟩
   have hi2:IntKind.wrap .i64 ((i:Int)+1)=(i2:Int):=by rw [hi2e];exact Ze (by omega)
   obtain ⟨l2,hl2⟩:∃ l2,l2=l1.set i (Go.Gm.nth l j):=⟨_,rfl⟩
   have hC2:i2<j+1∧j+1≤l.length∧l2.length=l.length∧l2.take i2=(l.take (j+1)).filter (fun x=>!p x) ∧ ∀ k,j+1≤k→k<l.length→Go.Gm.nth l2 k=Go.Gm.nth l k:=⟨by omega,by omega,by rw [hl2,List.length_set];exact hll1,by rw [hl2,hi2e,hfs,hp,← htk,ZD (by rw [List.length_set];omega),List.take_set_of_le (Nat.le_refl _),Zt (by rw [List.length_set];omega),List.getElem_set_self];rfl,fun k hk hk2=>by rw [hl2,Zt (by rw [List.length_set];omega),List.getElem_set_ne (by omega),← Zt (by omega)];exact hrest k (by omega) hk2⟩
   refine wp_seq ?_
   refine Za hS (qM rfl rfl (qM rfl rfl (qM rfl rfl (qf (o_indexAddr_row (sz:=1) 1 (.mk Tryz.underlying41 (by kernel_rfl)) .is .t (by omega) (by omega) (by rfl)) r2 r1 (qf (ZbN (R:=rInt) (sz:=1) (v:=(Go.Gm.nth l j)) 1 .t (by intro x;rfl) (by omega) .t rfl one_int (by kernel_rfl)) r2 r1 qZ))))) hB [6,5,4,1,0] [1,0] rfl rfl fun a w F hS=>?_
   try simp only [Int.toNat_natCast] at hS
   rw [← hl2] at hS
   refine Zb ?_
   refine Za hS (qM rfl rfl (qp r1 (qN rfl rfl qZ))) hB [6,5,4,1,0] [1,0] rfl rfl fun a w F hS=>Zi (Zb ?_)
   refine Za hS (qM rfl rfl (qp r1 (qN rfl rfl qZ))) hB [6,5,4,1,0] [1,0] rfl rfl fun a w F hS=>Zb ?_
   have hmu:l.length - (j+1)<l.length - j:=by omega
   replace hS:=hS.ent (i:=5) (s':=.pv (.int .i64 (i2:Int))) rfl (.int hi2)
   replace hS:=hS.ent (i:=6) (s':=.pv (.int .i64 ((j+1:Nat):Int))) rfl (.int (Ze (by omega)))
   obtain ⟨F,hS⟩:=hS.nm [4,1,0,6,5] [0,1] rfl rfl
   exact ⟨((i2),(j+1),(l2)),F,hC2,hS,hmu⟩
  have hp:p (Go.Gm.nth l j)=true:=by simpa using hc2
  obtain ⟨i2,hi2e⟩:∃ i2,i2=i:=⟨_,rfl⟩
  have hi2:(i:Int)=(i2:Int):=by rw [hi2e]
  obtain ⟨l2,hl2⟩:∃ l2,l2=l1:=⟨_,rfl⟩
  rw [← hl2] at hS
  have hC2:i2<j+1∧j+1≤l.length∧l2.length=l.length∧l2.take i2=(l.take (j+1)).filter (fun x=>!p x) ∧ ∀ k,j+1≤k→k<l.length→Go.Gm.nth l2 k=Go.Gm.nth l k:=⟨by omega,by omega,by rw [hl2];exact hll1,by rw [hl2,hi2e,hfs,hp,htk];simp,fun k hk hk2=>by rw [hl2];exact hrest k (by omega) hk2⟩
  refine wp_skip (Zi (Zb ?_))
  refine Za hS (qM rfl rfl (qp r1 (qN rfl rfl qZ))) hB [6,5,4,1,0] [1,0] rfl rfl fun a w F hS=>Zb ?_
  have hmu:l.length - (j+1)<l.length - j:=by omega
  replace hS:=hS.ent (i:=5) (s':=.pv (.int .i64 (i2:Int))) rfl (.int hi2)
  replace hS:=hS.ent (i:=6) (s':=.pv (.int .i64 ((j+1:Nat):Int))) rfl (.int (Ze (by omega)))
  obtain ⟨F,hS⟩:=hS.nm [4,1,0,6,5] [0,1] rfl rfl
  exact ⟨((i2),(j+1),(l2)),F,hC2,hS,hmu⟩
 have hjl:j=l.length:=by simp at hc1;omega
 have hil2:i<l.length:=by omega
 have hg:(l.filter fun x=>!p x)=(l1.take i++List.replicate (l1.length - i) (0:Int)).take i:=by rw [List.take_append_of_le_length (by rw [List.length_take];omega),List.take_take,Nat.min_self,htk,hjl,List.take_length]
 refine wp_exit (Zj (Zj (Zp (Zb (wp_seq ?_)))))
 refine Za hS (qM rfl rfl (qM rfl rfl (qf (ZaH (sz:=1) 1 (.mk Tryz.underlying41 (by kernel_rfl)) .is .t (by omega) (by omega)) r2 r1 (qf (Zcf (R:=rInt) (z:=(0:Int)) (zs:=[.int .i64 0]) 1 Tryz.underlying41 (by kernel_rfl) rfl rfl (fun _ _=>⟨⟨rfl,rfl,Zi8⟩,trivial⟩) (by intro x;rfl) .t (by simp;omega)) r1 r1 qZ)))) hB [5,4,0] [1,0] rfl rfl fun a w F hS=>Zb (wp_seq ?_)
 refine Zc hS (qM rfl rfl (qM rfl rfl (qf (Zb6 (sz:=1) 1 (.mk Tryz.underlying41 (by kernel_rfl)) (by intro x;rfl) .is .t (by omega) (by simp;omega)) r2 r1 (qN rfl rfl qZ)))) hB [4] [1,0] (fun _=>rfl) (fun _=>rfl) fun τ a w F hS=>?_
 try dsimp only [RS.sub,SF.sub,CF.sub,csub,Anc.sub,List.map,rInt] at hS
 generalize τ 41=v41 at hS
 refine Zb (wp_ret ?_)
 have hS:=hS.turn 1 rfl (r':=RS.hp (Zx 3 1 rInt (l.filter fun x=>!p x) v41)) (fun _ _ _ _ h=>by rw [hg];exact h)
 refine ZaD (h':=fun v=>Zx 3 1 rInt (l.filter fun x=>!p x) v) hG hS rfl (.tmp rfl .nil) (.one .one) rfl
def ZE {α:Type} [DecidableEq α]:List α→List α
 | []=>[]
 | [x]=>[x]
 | x :: y :: l=>if x=y then ZE (y :: l) else x :: ZE (y :: l)
theorem Zb8 {α:Type} [DecidableEq α] (a b:α):∀ l:List α,ZE (l ++ [a,b])=if a=b then ZE (l ++ [a]) else ZE (l ++ [a]) ++ [b]
 | []=>by
   show (if a=b then [b] else a :: [b])=if a=b then [a] else [a] ++ [b]
   split
   · rename_i h;rw [h]
   · rfl
 | [x]=>by
   have ih:=Zb8 a b []
   show (if x=a then ZE ([] ++ [a,b]) else x :: ZE ([] ++ [a,b]))=if a=b then (if x=a then ZE ([] ++ [a]) else x :: ZE ([] ++ [a])) else (if x=a then ZE ([] ++ [a]) else x :: ZE ([] ++ [a])) ++ [b]
   rw [ih]
   by_cases h1:x=a <;> by_cases h2:a=b <;> simp [h1,h2]
 | x :: y :: l=>by
   have ih:=Zb8 a b (y :: l)
   show (if x=y then ZE (y :: l ++ [a,b]) else x :: ZE (y :: l ++ [a,b]))=if a=b then (if x=y then ZE (y :: l ++ [a]) else x :: ZE (y :: l ++ [a])) else (if x=y then ZE (y :: l ++ [a]) else x :: ZE (y :: l ++ [a])) ++ [b]
   rw [ih]
   by_cases h1:x=y <;> by_cases h2:a=b <;> simp [h1,h2]
theorem ZdV {α:Type} [DecidableEq α] [Inhabited α] {l:List α} {p:Nat} (h1:1≤p) (h2:p<l.length):ZE (l.take (p+1))=if Go.Gm.nth l (p - 1)=Go.Gm.nth l p then ZE (l.take p) else ZE (l.take p) ++ [Go.Gm.nth l p]:=by
 obtain ⟨q,rfl⟩:∃ q,p=q+1:=⟨p - 1,by omega⟩
 rw [ZD h2,ZD (show q<l.length by omega),List.append_assoc]
 exact Zb8 _ _ _
theorem ZeH {α:Type} [DecidableEq α]:∀ {l:List α},l.length≤1→ZE l=l
 | [],_=>rfl
 | [x],_=>rfl
 | x :: y :: l,h=>by simp at h
theorem ZpU (v:Value) (l:List Int) (hll:l.length≤1000000):FnG Tryz.prog 193 1 [.is v] [Zx 3 1 rInt l v] (PV.one) (fun v=>[Zx 3 1 rInt (ZE l) v]):=by
 refine FnG.mk Tryz.func193 rfl Tryz.ntmps193 rfl (by kernel_rfl) ?_
 intro B F0 a w F hB hG hS
 replace hS:=hS.turn 1 rfl (r':=.ob (.val v) (Zx 3 1 rInt l)) (fun _ _ _ _ h=>h)
 refine wp_seq ?_
 refine Za hS (qC qZ) hB [2,0] [1,0] rfl rfl fun a w F hS=>Zb (wp_seq (wp_seq ?_))
 refine Za hS (qM rfl rfl (qf (ZV 1 Tryz.underlying41 .is) r1 r1 (qf (Zcr .t qi) r1 qz qZ))) hB [8,2,0] [1,0] rfl rfl fun a w F hS=>Zb ?_
 refine Zd hS rfl (fun hc0=>?_) (fun hc0=>?_)
 ·skip
  have hg:(ZE l)=l:=ZeH (by simp at hc0;omega)
  refine wp_seq ?_
  refine Za hS (qM rfl rfl (qN rfl rfl qZ)) hB [2,0] [1,0] rfl rfl fun a w F hS=>Zb (wp_ret (Zg ?_))
  have hS:=hS.turn 1 rfl (r':=RS.hp (Zx 3 1 rInt (ZE l) v)) (fun _ _ _ _ h=>by rw [hg];exact h)
  refine ZaD (h':=fun v=>Zx 3 1 rInt (ZE l) v) hG hS rfl (.tmp rfl .nil) (.one .one) rfl
 have hl2:2≤l.length:=by simp at hc0;omega
 refine wp_skip (Zb (wp_seq (wp_seq ?_)))
 refine Za hS (qI qZ) hB [3,2,0] [1,0] rfl rfl fun a w F hS=>Zb (wp_block ?_)
 refine Zo (σ:=Nat) [0,2] [0,1] (fun s=>[(3,.pv (.int .i64 (s:Int)))]) (fun s=>[]) (fun s=>1≤s∧s≤l.length∧ZE (l.take s)=l.take s) (fun s=>l.length - s) (1) hS ⟨rfl,rfl,rfl,trivial⟩ ⟨rfl,rfl,trivial⟩ ⟨by omega,by omega,ZeH (by rw [List.length_take];omega)⟩ ?_
 clear hS;intro k a w F hC hS
 try dsimp only at hC
 obtain ⟨F,hS⟩:=hS.nm [3,2,0] [1,0] rfl rfl
 try dsimp only at hS
 obtain ⟨hk1,hkl,hkc⟩:=hC
 have hkw:IntKind.wrap .i64 ((k:Int) - 1)=(k:Int) - 1:=ZM (by omega)
 refine wp_seq (wp_seq ?_)
 refine Za hS (qM rfl rfl (qM rfl rfl (qf (ZV 1 Tryz.underlying41 .is) r1 r1 (qL r2)))) hB [13,3,2,0] [1,0] rfl rfl fun a w F hS=>Zb ?_
 refine Zd hS rfl (fun hc1=>?_) (fun hc1=>?_)
 ·skip
  have hil:k<l.length:=by simp at hc1;omega
  have hst:=ZdV (l:=l) hk1 hil
  have hy0:(IntKind.wrap .i64 ((k:Int) - 1)).toNat=k - 1:=by rw [hkw];omega
  refine wp_skip (Zb (wp_seq (wp_block (wp_seq ?_))))
  refine ZC hS (qM rfl rfl (qM rfl rfl (qf (o_indexAddr_row (sz:=1) 1 (.mk Tryz.underlying41 (by kernel_rfl)) .is .t (by omega) (by omega) (by rfl)) r2 r1 (qf (Zar (ag:=false) (sz':=1) (sz:=1) 1 .t (by intro x;rfl) (by omega) (by kernel_rfl) (by kernel_rfl) (by kernel_rfl)) r1 r1 (qM rfl rfl (qM rfl rfl (qf (o_sub .t qi) r1 qz (qf (o_indexAddr_row (sz:=1) 1 (.mk Tryz.underlying41 (by kernel_rfl)) .is .t (by rw [hkw];omega) (by rw [hkw];omega) (by rfl)) r2 r1 (qf (Zar (ag:=false) (sz':=1) (sz:=1) 1 .t (by intro x;rfl) (by rw [hkw];omega) (by kernel_rfl) (by kernel_rfl) (by kernel_rfl)) r1 r1 (qf (o_eql .t .t) r2 qz qZ)))))))))) hB [25,3,2,0] [1,0] rfl rfl fun a w F hS=>?_
  try dsimp only [List.map,xD,xE,xT,xU,ldSF,rInt] at hS
  try simp only [Int.toNat_natCast] at hS
  refine Zb ?_
  refine Zd hS rfl (fun hc2=>?_) (fun hc2=>?_)
  ·skip
   have heq:Go.Gm.nth l (k - 1)=Go.Gm.nth l k:=by rw [hy0] at hc2;simp at hc2;exact hc2.symm
   rw [if_pos heq,hkc] at hst
   have hst0:=hst.symm
   refine wp_seq ?_
   refine Za hS (qM rfl rfl (qM rfl rfl (qf (ZaH (sz:=1) 1 (.mk Tryz.underlying41 (by kernel_rfl)) .is .t (by omega) (by omega)) r2 r1 (qN rfl rfl qZ)))) hB [4,3,2,0] [1,0] rfl rfl fun a w F hS=>Zb (wp_seq (wp_seq ?_))
   refine Za hS (qI qZ) hB [5,4,3,2,0] [1,0] rfl rfl fun a w F hS=>Zb (wp_block ?_)
   have hC0:1≤1∧1≤l.length - k∧k≤k∧k≤k+1 - 1∧l.length=l.length∧l.take k=ZE (l.take (k+1)) ∧ ∀ q,k+1 - 1≤q→q<l.length→Go.Gm.nth l q=Go.Gm.nth l q:=⟨by omega,by omega,by omega,by omega,rfl,hst0,fun q _ _=>rfl⟩
   refine Zo (σ:=Nat×Nat×List Int) [0,2,4] [0] (fun s=>[(3,.pv (.int .i64 (s.1:Int))),(5,.pv (.int .i64 (s.2.1:Int)))]) (fun s=>[(1,.ob (.val v) (Zx 3 1 rInt s.2.2))]) (fun s=>1≤s.2.1∧s.2.1≤l.length - k∧k≤s.1∧s.1≤k+s.2.1 - 1∧s.2.2.length=l.length∧s.2.2.take s.1=ZE (l.take (k+s.2.1)) ∧ ∀ q,k+s.2.1 - 1≤q→q<l.length→Go.Gm.nth s.2.2 q=Go.Gm.nth l q) (fun s=>l.length - s.2.1) ((k),(1),(l)) hS ⟨rfl,rfl,rfl,rfl,rfl,trivial⟩ ⟨rfl,rfl,trivial⟩ hC0 ?_
   clear hS;intro s a w F hC hS
   obtain ⟨k1,j,l1⟩:=s
   try dsimp only at hC
   obtain ⟨F,hS⟩:=hS.nm [5,4,3,2,0] [1,0] rfl rfl
   try dsimp only at hS
   obtain ⟨hj1,hjk,hkk,hkj,hl1,htk,hrest⟩:=hC
   have hjw:IntKind.wrap .i64 ((j:Int) - 1)=(j:Int) - 1:=ZM (by omega)
   refine wp_seq (wp_seq ?_)
   refine Za hS (qM rfl rfl (qM rfl rfl (qf (Znc 1 Tryz.underlying41 .t (by omega)) r1 r1 (qL r2)))) hB [32,5,4,3,2,0] [1,0] rfl rfl fun a w F hS=>Zb ?_
   refine Zd hS rfl (fun hc3=>?_) (fun hc3=>?_)
   ·skip
    have hjl:k+j<l.length:=by simp at hc3;omega
    have hx1:(Go.Gm.nth l1 (((k:Int)).toNat+((j:Int)).toNat))=Go.Gm.nth l (k+j):=by rw [Int.toNat_natCast,Int.toNat_natCast];exact hrest _ (by omega) hjl
    have hx0:Go.Gm.nth l1 (((k:Int)).toNat+(IntKind.wrap .i64 ((j:Int) - 1)).toNat)=Go.Gm.nth l (k+j - 1):=by rw [hjw,show ((k:Int)).toNat+((j:Int) - 1).toNat=k+j - 1 by omega];exact hrest _ (by omega) (by omega)
    have hstp:=ZdV (l:=l) (p:=k+j) (by omega) hjl
    refine wp_skip (Zb (wp_seq (wp_block (wp_seq ?_))))
    refine ZC hS (qM rfl rfl (qM rfl rfl (qf (o_indexAddr_sub (sz:=1) 1 (.mk Tryz.underlying41 (by kernel_rfl)) .t .t (by omega) (by omega) (by rfl)) r2 r1 (qf (Zar (ag:=false) (sz':=1) (sz:=1) 1 .t (by intro x;rfl) (by omega) (by kernel_rfl) (by kernel_rfl) (by kernel_rfl)) r1 r1 (qM rfl rfl (qM rfl rfl (qf (o_sub .t qi) r1 qz (qf (o_indexAddr_sub (sz:=1) 1 (.mk Tryz.underlying41 (by kernel_rfl)) .t .t (by rw [hjw];omega) (by rw [hjw];omega) (by rfl)) r2 r1 (qf (Zar (ag:=false) (sz':=1) (sz:=1) 1 .t (by intro x;rfl) (by rw [hjw];omega) (by kernel_rfl) (by kernel_rfl) (by kernel_rfl)) r1 r1 (qf (o_neq .t .t) r2 qz qZ)))))))))) hB [44,5,4,3,2,0] [1,0] rfl rfl fun a w F hS=>?_
    try dsimp only [List.map,xD,xE,xT,xU,ldSF,rInt] at hS
    try simp only [Int.toNat_natCast] at hS
    refine Zb ?_
    refine Zd hS rfl (fun hc4=>?_) (fun hc4=>?_)
    ·skip
     have hne:¬ Go.Gm.nth l (k+j - 1)=Go.Gm.nth l (k+j):=by rw [← hx1,← hx0];simp at hc4 ⊢;exact fun e=>hc4 e.symm
     rw [if_neg hne] at hstp
     obtain ⟨i2,hi2e⟩:∃ i2,i2=k1+1:=⟨_,rfl⟩
     have hi2:IntKind.wrap .i64 ((k1:Int)+1)=(i2:Int):=by rw [hi2e];exact Ze (by omega)
     obtain ⟨l2,hl2e⟩:∃ l2,l2=l1.set k1 (Go.Gm.nth l1 (k+j)):=⟨_,rfl⟩
     have hx1b:Go.Gm.nth l1 (k+j)=Go.Gm.nth l (k+j):=hrest _ (by omega) hjl
     have hC2:1≤j+1∧j+1≤l.length - k∧k≤i2∧i2≤k+(j+1) - 1∧l2.length=l.length∧l2.take i2=ZE (l.take (k+(j+1))) ∧ ∀ q,k+(j+1) - 1≤q→q<l.length→Go.Gm.nth l2 q=Go.Gm.nth l q:=⟨by omega,by omega,by omega,by omega,by rw [hl2e,List.length_set];exact hl1,by rw [hl2e,hi2e,ZD (by rw [List.length_set];omega),List.take_set_of_le (Nat.le_refl _),htk,Zt (by rw [List.length_set];omega),List.getElem_set_self,hx1b];exact hstp.symm,fun q hq hq2=>by rw [hl2e,Zt (by rw [List.length_set];omega),List.getElem_set_ne (by omega),← Zt (by omega)];exact hrest q (by omega) hq2⟩
     refine wp_seq ?_
     refine Za hS (qM rfl rfl (qM rfl rfl (qM rfl rfl (qM rfl rfl (qf (o_indexAddr_sub (sz:=1) 1 (.mk Tryz.underlying41 (by kernel_rfl)) .t .t (by omega) (by omega) (by rfl)) r2 r1 (qf (Zar (ag:=false) (sz':=1) (sz:=1) 1 .t (by intro x;rfl) (by omega) (by kernel_rfl) (by kernel_rfl) (by kernel_rfl)) r1 r1 (qf (o_indexAddr_row (sz:=1) 1 (.mk Tryz.underlying41 (by kernel_rfl)) .is .t (by omega) (by omega) (by rfl)) r2 r1 (qf (ZbN (R:=rInt) (sz:=1) (v:=(Go.Gm.nth l1 (((k:Int)).toNat+((j:Int)).toNat))) 1 .t (by intro x;rfl) (by omega) .t rfl one_int (by kernel_rfl)) r2 r1 qZ)))))))) hB [5,4,3,2,0] [1,0] rfl rfl fun a w F hS=>?_
     try simp only [Int.toNat_natCast] at hS
     rw [← hl2e] at hS
     refine Zb ?_
     refine Za hS (qM rfl rfl (qp r1 (qN rfl rfl qZ))) hB [5,4,3,2,0] [1,0] rfl rfl fun a w F hS=>Zi (Zb ?_)
     refine Za hS (qM rfl rfl (qp r1 (qN rfl rfl qZ))) hB [5,4,3,2,0] [1,0] rfl rfl fun a w F hS=>Zb ?_
     have hmu:l.length - (j+1)<l.length - j:=by omega
     replace hS:=hS.ent (i:=3) (s':=.pv (.int .i64 (i2:Int))) rfl (.int hi2)
     replace hS:=hS.ent (i:=5) (s':=.pv (.int .i64 ((j+1:Nat):Int))) rfl (.int (Ze (by omega)))
     obtain ⟨F,hS⟩:=hS.nm [4,2,0,5,3] [0,1] rfl rfl
     exact ⟨((i2),(j+1),(l2)),F,hC2,hS,hmu⟩
    have heq2:Go.Gm.nth l (k+j - 1)=Go.Gm.nth l (k+j):=by rw [← hx1,← hx0];simp at hc4 ⊢;exact hc4.symm
    rw [if_pos heq2] at hstp
    obtain ⟨i2,hi2e⟩:∃ i2,i2=k1:=⟨_,rfl⟩
    have hi2:(k1:Int)=(i2:Int):=by rw [hi2e]
    obtain ⟨l2,hl2e⟩:∃ l2,l2=l1:=⟨_,rfl⟩
    rw [← hl2e] at hS
    have hC2:1≤j+1∧j+1≤l.length - k∧k≤i2∧i2≤k+(j+1) - 1∧l2.length=l.length∧l2.take i2=ZE (l.take (k+(j+1))) ∧ ∀ q,k+(j+1) - 1≤q→q<l.length→Go.Gm.nth l2 q=Go.Gm.nth l q:=⟨by omega,by omega,by omega,by omega,by rw [hl2e];exact hl1,by rw [hl2e,hi2e,htk];exact hstp.symm,fun q hq hq2=>by rw [hl2e];exact hrest q (by omega) hq2⟩
    refine wp_skip (Zi (Zb ?_))
    refine Za hS (qM rfl rfl (qp r1 (qN rfl rfl qZ))) hB [5,4,3,2,0] [1,0] rfl rfl fun a w F hS=>Zb ?_
    have hmu:l.length - (j+1)<l.length - j:=by omega
    replace hS:=hS.ent (i:=3) (s':=.pv (.int .i64 (i2:Int))) rfl (.int hi2)
    replace hS:=hS.ent (i:=5) (s':=.pv (.int .i64 ((j+1:Nat):Int))) rfl (.int (Ze (by omega)))
    obtain ⟨F,hS⟩:=hS.nm [4,2,0,5,3] [0,1] rfl rfl
    exact ⟨((i2),(j+1),(l2)),F,hC2,hS,hmu⟩
   have hjl:k+j=l.length:=by simp at hc3;omega
   have hg:(ZE l)=(l1.take k1++List.replicate (l1.length - k1) (0:Int)).take k1:=by rw [List.take_append_of_le_length (by rw [List.length_take];omega),List.take_take,Nat.min_self,htk,hjl,List.take_length]
   refine wp_exit (Zj (Zj (Zp (Zb (wp_seq ?_)))))
   refine Za hS (qM rfl rfl (qM rfl rfl (qf (ZaH (sz:=1) 1 (.mk Tryz.underlying41 (by kernel_rfl)) .is .t (by omega) (by omega)) r2 r1 (qf (Zcf (R:=rInt) (z:=(0:Int)) (zs:=[.int .i64 0]) 1 Tryz.underlying41 (by kernel_rfl) rfl rfl (fun _ _=>⟨⟨rfl,rfl,Zi8⟩,trivial⟩) (by intro x;rfl) .t (by simp;omega)) r1 r1 qZ)))) hB [3,2,0] [1,0] rfl rfl fun a w F hS=>Zb (wp_seq ?_)
   refine Zc hS (qM rfl rfl (qM rfl rfl (qf (Zb6 (sz:=1) 1 (.mk Tryz.underlying41 (by kernel_rfl)) (by intro x;rfl) .is .t (by omega) (by simp;omega)) r2 r1 (qN rfl rfl qZ)))) hB [3,2,0] [1,0] (fun _=>rfl) (fun _=>rfl) fun τ a w F hS=>?_
   try dsimp only [RS.sub,SF.sub,CF.sub,csub,Anc.sub,List.map,rInt] at hS
   generalize τ 59=v59 at hS
   refine Zb (wp_ret (Zl (Zg (Zg (Zl (Zg ?_))))))
   have hS:=hS.turn 1 rfl (r':=RS.hp (Zx 3 1 rInt (ZE l) v59)) (fun _ _ _ _ h=>by rw [hg];exact h)
   refine ZaD (h':=fun v=>Zx 3 1 rInt (ZE l) v) hG hS rfl (.tmp rfl .nil) (.one .one) rfl
  have hne:¬ Go.Gm.nth l (k - 1)=Go.Gm.nth l k:=by rw [hy0] at hc2;simp at hc2;exact fun e=>hc2 e.symm
  rw [if_neg hne] at hst
  refine wp_skip (Zi (Zb ?_))
  refine Za hS (qM rfl rfl (qp r1 (qN rfl rfl qZ))) hB [3,2,0] [1,0] rfl rfl fun a w F hS=>Zb ?_
  replace hS:=hS.ent (i:=3) (s':=.pv (.int .i64 ((k+1:Nat):Int))) rfl (.int (Ze (by omega)))
  obtain ⟨F,hS⟩:=hS.nm [2,0,3] [1,0] rfl rfl
  exact ⟨(k+1),F,⟨by omega,by omega,by rw [hst,hkc,← ZD hil]⟩,hS,by omega⟩
 have hg:(ZE l)=l:=by rw [show k=l.length by simp at hc1;omega,List.take_length] at hkc;exact hkc
 refine wp_exit (Zj (Zj (Zp (Zb (wp_seq ?_)))))
 refine Za hS (qM rfl rfl (qN rfl rfl qZ)) hB [2] [1,0] rfl rfl fun a w F hS=>Zb (wp_ret ?_)
 have hS:=hS.turn 1 rfl (r':=RS.hp (Zx 3 1 rInt (ZE l) v)) (fun _ _ _ _ h=>by rw [hg];exact h)
 refine ZaD (h':=fun v=>Zx 3 1 rInt (ZE l) v) hG hS rfl (.tmp rfl .nil) (.one .one) rfl
def Zda (n:Int):List Int→Bool→List Int
 | [],d=>if d then [] else [n]
 | x :: l,d=>(if d=false∧n≤x then [n] else [])++(if x=n then [] else [x])++Zda n l (d || decide (n≤x))
def ZlR (l:List Int) (n:Int):List Int:=Zda n l false
abbrev Zd0 (l:List Int):Prop:=l.Pairwise fun a b=>a<b
theorem Zev {n:Int} : ∀ {l:List Int},(∀ x ∈ l,n<x)→Zda n l true=l
 | [],_=>rfl
 | x :: l,h=>by
   have:=h x (by simp)
   rw [Zda,Bool.true_or,Zev fun y hy=>h y (by simp [hy]),if_neg (by simp),if_neg (by omega)]
   rfl
theorem Zlc {n:Int} : ∀ {l:List Int},Zd0 l→Zd0 (ZlR l n) ∧ ∀ x,x ∈ ZlR l n ↔ x ∈ l∨x=n
 | [],_=>by simp [ZlR,Zda]
 | y :: l,h=>by
   have h':=List.pairwise_cons.1 h
   unfold ZlR
   by_cases h1:y<n
   · have e:Zda n (y :: l) false=y :: Zda n l false:=by
       rw [Zda,if_neg (by omega),if_neg (by omega),show (false || decide (n≤y))=false by simp;omega];rfl
     have ih:=Zlc (n:=n) h'.2
     rw [e]
     refine ⟨List.pairwise_cons.2 ⟨fun p hp=>?_,ih.1⟩,fun x=>?_⟩
     · rcases (ih.2 p).1 hp with hp | rfl
       · exact h'.1 p hp
       · exact h1
     · have:=ih.2 x
       unfold ZlR at this
       simp only [List.mem_cons,this]
       constructor
       · rintro (h | h | h)
         · exact .inl (.inl h)
         · exact .inl (.inr h)
         · exact .inr h
       · rintro ((h | h) | h)
         · exact .inl h
         · exact .inr (.inl h)
         · exact .inr (.inr h)
   · by_cases h2:y=n
     · subst h2
       rw [Zda,if_pos ⟨rfl,Int.le_refl _⟩,if_pos rfl,show (false || decide (y≤y))=true by simp,Zev h'.1]
       exact ⟨h,fun x=>by simp;intro e;exact .inl e⟩
     · rw [Zda,if_pos ⟨rfl,by omega⟩,if_neg h2,show (false || decide (n≤y))=true by simp;omega,Zev fun x hx=>by have:=h'.1 x hx;omega]
       refine ⟨List.pairwise_cons.2 ⟨fun p hp=>?_,h⟩,fun x=>by simp;constructor <;> (rintro (h | h | h) <;> simp [h])⟩
       rcases List.mem_cons.1 hp with rfl | hp
       · omega
       · have:=h'.1 p hp;omega
def Zdz (l:List Int):List Int:=l.foldl ZlR []
theorem Zaw (l:List Int):Zd0 (Zdz l) ∧ ∀ x,x ∈ Zdz l ↔ x ∈ l:=by
 have key:∀ (l acc:List Int),Zd0 acc→Zd0 (l.foldl ZlR acc) ∧ ∀ x,x ∈ l.foldl ZlR acc ↔ x ∈ acc∨x ∈ l:=by
   intro l
   induction l with
   | nil=>intro acc h;exact ⟨h,fun x=>by simp⟩
   | cons y l ih=>
     intro acc h
     have h1:=Zlc (n:=y) h
     have h2:=ih (ZlR acc y) h1.1
     refine ⟨h2.1,fun x=>?_⟩
     rw [List.foldl_cons,h2.2 x,h1.2 x,List.mem_cons]
     constructor
     · rintro ((h | h) | h)
       · exact .inl h
       · exact .inr (.inl h)
       · exact .inr (.inr h)
     · rintro (h | h | h)
       · exact .inl (.inl h)
       · exact .inl (.inr h)
       · exact .inr h
 have:=key l [] List.Pairwise.nil
 exact ⟨this.1,fun x=>by rw [show Zdz l=l.foldl ZlR [] from rfl,this.2 x];simp⟩
theorem ZcS:∀ {a b:List Int},Zd0 a→Zd0 b→(∀ x,x ∈ a ↔ x ∈ b)→a=b
 | [],[],_,_,_=>rfl
 | [],y :: b,_,_,h=>by have:=(h y).2 (by simp);cases this
 | x :: a,[],_,_,h=>by have:=(h x).1 (by simp);cases this
 | x :: a,y :: b,ha,hb,h=>by
   have ha':=List.pairwise_cons.1 ha
   have hb':=List.pairwise_cons.1 hb
   have e:x=y:=by
     rcases List.mem_cons.1 ((h x).1 (by simp)) with e | e
     · exact e
     · rcases List.mem_cons.1 ((h y).2 (by simp)) with e2 | e2
       · exact e2.symm
       · have:=hb'.1 x e;have:=ha'.1 y e2;omega
   subst e
   congr 1
   refine ZcS ha'.2 hb'.2 fun z=>⟨fun hz=>?_,fun hz=>?_⟩
   · rcases List.mem_cons.1 ((h z).1 (by simp [hz])) with e | e
     · have:=ha'.1 z hz;omega
     · exact e
   · rcases List.mem_cons.1 ((h z).2 (by simp [hz])) with e | e
     · have:=hb'.1 z hz;omega
     · exact e
def ZaK:List Int→List Int
 | []=>[]
 | x :: l=>match ZaK l with
   | []=>[x]
   | y :: m=>if x=y then y :: m else x :: y :: m
theorem ZdP:∀ (x:Int) (l:List Int),∃ m,ZaK (x :: l)=x :: m
 | x,[]=>⟨[],rfl⟩
 | x,y :: l=>by
   obtain ⟨m,hm⟩:=ZdP y l
   unfold ZaK
   rw [hm]
   by_cases h:x=y
   · subst h;exact ⟨m,if_pos rfl⟩
   · exact ⟨y :: m,if_neg h⟩
theorem ZdG (x y:Int) (l:List Int):ZaK (x :: y :: l)=if x=y then ZaK (y :: l) else x :: ZaK (y :: l):=by
 obtain ⟨m,hm⟩:=ZdP y l
 conv=>lhs;unfold ZaK
 rw [hm]
theorem Zcx:∀ {l:List Int},l.Pairwise (fun a b=>a≤b)→Zd0 (ZaK l) ∧ ∀ x,x ∈ ZaK l ↔ x ∈ l
 | [],_=>by simp [ZaK]
 | [x],_=>by simp [ZaK]
 | x :: y :: l,h=>by
   have h':=List.pairwise_cons.1 h
   have ih:=Zcx h'.2
   rw [ZdG]
   split
   · rename_i e
     subst e
     exact ⟨ih.1,fun z=>by rw [ih.2 z];simp⟩
   · rename_i e
     refine ⟨List.pairwise_cons.2 ⟨fun z hz=>?_,ih.1⟩,fun z=>by rw [List.mem_cons,ih.2 z,← List.mem_cons]⟩
     have h1:=h'.1 y (by simp)
     rcases List.mem_cons.1 ((ih.2 z).1 hz) with rfl | hz2
     · omega
     · have:=(List.pairwise_cons.1 h'.2).1 z hz2
       omega
theorem Znn (l:List Int):List.Pairwise (fun x y=>x≤y) (l.mergeSort leI):=by
 have:=List.pairwise_mergeSort (le:=leI) (fun a b c h1 h2=>by simp [leI] at *;omega) (fun a b=>by simp [leI];omega) l
 exact this.imp fun h=>by simpa [leI] using h
theorem ZjI (l:List Int):ZaK (l.mergeSort leI)=Zdz l:=
 ZcS (Zcx (Znn l)).1 (Zaw l).1 fun x=>by rw [(Zcx (Znn l)).2,(Zaw l).2];exact (List.mergeSort_perm l leI).mem_iff
theorem Zg2:∀ l:List Int,ZE l=ZaK l
 | []=>rfl
 | [x]=>rfl
 | x :: y :: l=>by
   rw [ZdG,← Zg2 (y :: l)];rfl
theorem Zix {n:Int} : ∀ (l:List Int) (d:Bool),(Zda n l d).length≤l.length+1
 | [],d=>by cases d <;> simp [Zda]
 | x :: l,d=>by
   have h1:=Zix (n:=n) l (d || decide (n≤x))
   have h2:∀ l:List Int,(Zda n l true).length≤l.length:=fun l=>by
     induction l with
     | nil=>simp [Zda]
     | cons y l ih=>
       rw [Zda,if_neg (by simp),List.length_append,List.length_append,Bool.true_or]
       split <;> simp <;> omega
   rw [Zda,List.length_append,List.length_append]
   have h3:=h2 l
   by_cases hA:d=false∧n≤x
   · rw [show (d || decide (n≤x))=true by simp [hA.2],if_pos hA]
     split <;> simp <;> omega
   · rw [if_neg hA]
     split <;> simp <;> omega
structure OpD where
 read:Bool
 key:Int
 tx:Int
 nth:Int
 deriving DecidableEq,Inhabited
structure TxD where
 id:Int
 done:Bool
 ops:List OpD
 deriving DecidableEq,Inhabited
structure OrdD where
 key:Int
 txs:List Int
 deriving DecidableEq,Inhabited
structure HistD where
 txs:List TxD
 orders:List OrdD
 deriving DecidableEq,Inhabited
structure ZkG where
 was:List TxD
 now:List TxD
 old:List OrdD
 new:List OrdD
 deriving DecidableEq,Inhabited
def rOp (o:OpD):List PV:=[.bool o.read,.int .i64 o.key,.int .i64 o.tx,.int .i64 o.nth]
def rTx (t:TxD):List PV:=[.int .i64 t.id,.bool t.done,.sl rOp t.ops]
def Zs (o:OrdD):List PV:=[.int .i64 o.key,.sl rInt o.txs]
def Zk (h:HistD):List PV:=[.sl rTx h.txs,.sl Zs h.orders]
theorem ZoX {u v:OpD} (h:(!((u.read == v.read) && (decide (u.key=v.key) && (decide (u.tx=v.tx) && (decide (u.nth=v.nth) && true)))))=false):u=v:=by
 cases u;cases v
 simp at h
 simp [h]
theorem ZgP (x y:List Int):FnP Tryz.prog 51 [.sl rInt x,.sl rInt y] (.bool (decide (x=y))):=by
 refine FnP.mk Tryz.func51 rfl Tryz.ntmps51 rfl ?_
 intro B a w F hB hfr hS
 have hxl:=Sat.lenSl hS (i:=0) rfl
 refine wp_seq ?_
 refine Za hS qB hB [4,1,0] [0] rfl rfl fun a w F hS=>Zb (wp_seq (wp_seq ?_))
 refine Za hS (qM rfl rfl (qu Tryz.underlying41 r1 (qM rfl rfl (qu Tryz.underlying41 r1 (qf (o_neq .t .t) r2 qz qZ))))) hB [10,4,1,0] [0] rfl rfl fun a w F hS=>Zb ?_
 refine Zd hS rfl (fun hc0=>?_) (fun hc0=>?_)
 ·skip
  have hg:false=decide (x=y):=by
    rw [eq_comm,decide_eq_false_iff_not]
    intro h
    subst h
    simp at hc0
  refine wp_seq ?_
  refine Za hS qB hB [4,1,0] [0] rfl rfl fun a w F hS=>Zb (wp_ret (Zg ?_))
  refine Zq hfr hS rfl rfl rfl (.bool hg)
 have hl:x.length=y.length:=by simp at hc0;omega
 refine wp_skip (Zb (wp_seq (wp_seq ?_)))
 refine Za hS (qM rfl rfl (qu Tryz.underlying41 r1 (qJ qZ))) hB [13,12,4,1,0] [0] rfl rfl fun a w F hS=>Zb (wp_block ?_)
 obtain ⟨F,hS⟩:=hS.nm [13,12,1,0] [0] rfl rfl
 refine Z7 (σ:=Nat) (fun s=>(⟨[(0,.pv (.sl rInt x)),(1,.pv (.sl rInt y)),(12,.pv (.int .i64 x.length)),(13,.pv (.int .i64 s))],[(0,frame B)]⟩:En)) (fun s=>s≤x.length ∧ ∀ j,j<s→Go.Gm.nth x j=Go.Gm.nth y j) (fun s=>x.length - s) 0 hS ⟨Nat.zero_le _,fun j hj=>absurd hj (Nat.not_lt_zero j)⟩ ?_
 clear hS;intro i a w F hC hS
 try dsimp only at hC
 try dsimp only at hS
 obtain ⟨hi,hq⟩:=hC
 refine wp_seq ?_
 refine Za hS (qL r2) hB [14,13,12,1,0] [0] rfl rfl fun a w F hS=>Zb (wp_seq ?_)
 refine Zd hS rfl (fun hc1=>?_) (fun hc1=>?_)
 ·skip
  have hil:i<x.length:=by simp at hc1;omega
  refine wp_skip (Zb (wp_seq (wp_block (wp_seq ?_))))
  refine Za hS (qM rfl rfl (qN rfl rfl qZ)) hB [13,12,5,1,0] [0] rfl rfl fun a w F hS=>Zb (wp_seq ?_)
  refine ZC hS (qM rfl rfl (qM rfl rfl (qy 1 Tryz.underlying41 r2 (qf (oR false 1 .t) r1 qz (qM rfl rfl (qM rfl rfl (qy 1 Tryz.underlying41 r2 (qf (oR false 1 .t) r1 qz (qf (o_neq .t .t) r2 qz qZ))))))))) hB [24,13,12,1,0] [0] rfl rfl fun a w F hS=>?_
  try dsimp only [List.map,xD,xE,xT,xU,ldSF] at hS
  refine Zb ?_
  refine Zd hS rfl (fun hc2=>?_) (fun hc2=>?_)
  ·skip
   have hg:false=decide (x=y):=by
     rw [eq_comm,decide_eq_false_iff_not]
     intro h
     subst h
     simp at hc2
   refine wp_seq ?_
   refine Za hS qB hB [13,12,4,1,0] [0] rfl rfl fun a w F hS=>Zb (wp_ret (Zl (Zg (Zg (Zl (Zg ?_))))))
   refine Zq hfr hS rfl rfl rfl (.bool hg)
  rw [Int.toNat_natCast] at hc2
  have hqi:Go.Gm.nth x i=Go.Gm.nth y i:=by simpa using hc2
  refine wp_skip (Zi (Zb ?_))
  refine Za hS (qp r1 (qM rfl rfl qZ)) hB [13,12,1,0] [0] rfl rfl fun a w F hS=>Zb ?_
  replace hS:=hS.ent (i:=13) (s':=.pv (.int .i64 ((i+1:Nat):Int))) rfl (.int (Ze (by omega)))
  obtain ⟨F,hS⟩:=hS.nm [13,12,1,0] [0] rfl rfl
  exact ⟨i+1,F,⟨by omega,fun j hj=>by rcases Nat.lt_or_eq_of_le (Nat.le_of_lt_succ hj) with h | h;exact hq j h;rw [h];exact hqi⟩,hS,by omega⟩
 have hg:true=decide (x=y):=by
   rw [eq_comm,decide_eq_true_eq]
   exact ZaP hl fun j hj=>hq j (by simp at hc1;omega)
 refine wp_exit (Zj (Zj (Zp (Zb (wp_seq ?_)))))
 refine Za hS qB hB [4] [0] rfl rfl fun a w F hS=>Zb (wp_ret ?_)
 refine Zq hfr hS rfl rfl rfl (.bool hg)
theorem ZmS (x y:List OpD):FnP Tryz.prog 96 [.sl rOp x,.sl rOp y] (.bool (decide (x=y))):=by
 refine FnP.mk Tryz.func96 rfl Tryz.ntmps96 rfl ?_
 intro B a w F hB hfr hS
 have hxl:=Sat.lenSl hS (i:=0) rfl
 refine wp_seq ?_
 refine Za hS qB hB [4,1,0] [0] rfl rfl fun a w F hS=>Zb (wp_seq (wp_seq ?_))
 refine Za hS (qM rfl rfl (qu Tryz.underlying38 r1 (qM rfl rfl (qu Tryz.underlying38 r1 (qf (o_neq .t .t) r2 qz qZ))))) hB [10,4,1,0] [0] rfl rfl fun a w F hS=>Zb ?_
 refine Zd hS rfl (fun hc0=>?_) (fun hc0=>?_)
 ·skip
  have hg:false=decide (x=y):=by
    rw [eq_comm,decide_eq_false_iff_not]
    intro h
    subst h
    simp at hc0
  refine wp_seq ?_
  refine Za hS qB hB [4,1,0] [0] rfl rfl fun a w F hS=>Zb (wp_ret (Zg ?_))
  refine Zq hfr hS rfl rfl rfl (.bool hg)
 have hl:x.length=y.length:=by simp at hc0;omega
 refine wp_skip (Zb (wp_seq (wp_seq ?_)))
 refine Za hS (qM rfl rfl (qu Tryz.underlying38 r1 (qJ qZ))) hB [13,12,4,1,0] [0] rfl rfl fun a w F hS=>Zb (wp_block ?_)
 obtain ⟨F,hS⟩:=hS.nm [13,12,1,0] [0] rfl rfl
 refine Z7 (σ:=Nat) (fun s=>(⟨[(0,.pv (.sl rOp x)),(1,.pv (.sl rOp y)),(12,.pv (.int .i64 x.length)),(13,.pv (.int .i64 s))],[(0,frame B)]⟩:En)) (fun s=>s≤x.length ∧ ∀ j,j<s→Go.Gm.nth x j=Go.Gm.nth y j) (fun s=>x.length - s) 0 hS ⟨Nat.zero_le _,fun j hj=>absurd hj (Nat.not_lt_zero j)⟩ ?_
 clear hS;intro i a w F hC hS
 try dsimp only at hC
 try dsimp only at hS
 obtain ⟨hi,hq⟩:=hC
 refine wp_seq ?_
 refine Za hS (qL r2) hB [14,13,12,1,0] [0] rfl rfl fun a w F hS=>Zb (wp_seq ?_)
 refine Zd hS rfl (fun hc1=>?_) (fun hc1=>?_)
 ·skip
  have hil:i<x.length:=by simp at hc1;omega
  refine wp_skip (Zb (wp_seq (wp_block (wp_seq ?_))))
  refine Za hS (qM rfl rfl (qN rfl rfl qZ)) hB [13,12,5,1,0] [0] rfl rfl fun a w F hS=>Zb (wp_seq ?_)
  refine ZC hS (qM rfl rfl (qM rfl rfl (qy 4 Tryz.underlying38 r2 (qf (oR true 4 .t) r1 qz (qM rfl rfl (qM rfl rfl (qy 4 Tryz.underlying38 r2 (qf (oR true 4 .t) r1 qz (qf (Znh (ks:=[false,true,true,true]) (by kernel_rfl) .t .t (.bool (.int (.int (.int .nil))))) r2 qz qZ))))))))) hB [24,13,12,1,0] [0] rfl rfl fun a w F hS=>?_
  try dsimp only [List.map,xD,xE,xT,xU,ldSF] at hS
  refine Zb ?_
  refine Zd hS rfl (fun hc2=>?_) (fun hc2=>?_)
  ·skip
   have hg:false=decide (x=y):=by
     rw [eq_comm,decide_eq_false_iff_not]
     intro h
     subst h
     simp at hc2
   refine wp_seq ?_
   refine Za hS qB hB [13,12,4,1,0] [0] rfl rfl fun a w F hS=>Zb (wp_ret (Zl (Zg (Zg (Zl (Zg ?_))))))
   refine Zq hfr hS rfl rfl rfl (.bool hg)
  rw [Int.toNat_natCast] at hc2
  have hqi:Go.Gm.nth x i=Go.Gm.nth y i:=ZoX hc2
  refine wp_skip (Zi (Zb ?_))
  refine Za hS (qp r1 (qM rfl rfl qZ)) hB [13,12,1,0] [0] rfl rfl fun a w F hS=>Zb ?_
  replace hS:=hS.ent (i:=13) (s':=.pv (.int .i64 ((i+1:Nat):Int))) rfl (.int (Ze (by omega)))
  obtain ⟨F,hS⟩:=hS.nm [13,12,1,0] [0] rfl rfl
  exact ⟨i+1,F,⟨by omega,fun j hj=>by rcases Nat.lt_or_eq_of_le (Nat.le_of_lt_succ hj) with h | h;exact hq j h;rw [h];exact hqi⟩,hS,by omega⟩
 have hg:true=decide (x=y):=by
   rw [eq_comm,decide_eq_true_eq]
   exact ZaP hl fun j hj=>hq j (by simp at hc1;omega)
 refine wp_exit (Zj (Zj (Zp (Zb (wp_seq ?_)))))
 refine Za hS qB hB [4] [0] rfl rfl fun a w F hS=>Zb (wp_ret ?_)
 refine Zq hfr hS rfl rfl rfl (.bool hg)
theorem Zce (l:List OpD) (hl:l.length≤1000000):FnG Tryz.prog 49 1 [.sl rOp l] [.star []] (PV.one) (fun v=>[Zx 59 4 rOp l v]):=by
 refine FnG.mk Tryz.func49 rfl Tryz.ntmps49 rfl (by kernel_rfl) ?_
 intro B F0 a w F hB hG hS
 obtain ⟨F,hS⟩:=hS.nm [0] [0] rfl rfl
 refine wp_seq ?_
 refine Za hS (qC qZ) hB [2,0] [0] rfl rfl fun a w F hS=>Zb (wp_seq (wp_seq ?_))
 refine Za hS (qM rfl rfl (qf (Zdi Tryz.underlying38 .t) r1 qz qZ)) hB [4,2,0] [0] rfl rfl fun a w F hS=>?_
 obtain ⟨β4,hβ4,hS⟩:=hS.pickBool 4 rfl
 obtain ⟨F,hS⟩:=hS.nm [4,2,0] [0] rfl rfl
 refine Zb ?_
 refine Zd hS rfl (fun hc0=>?_) (fun hc0=>?_)
 ·skip
  have hg:l = []:=hβ4 hc0
  refine wp_seq ?_
  refine Za hS (qC qZ) hB [2,0] [0] rfl rfl fun a w F hS=>Zb (wp_ret (Zg ?_))
  have hS:=hS.fresh 1 rfl
  have hS:=hS.turn 1 rfl (Zav (T:=59) (sz:=4) (R:=rOp))
  have hS:=hS.turn 1 rfl (r':=RS.hp (Zx 59 4 rOp l (.slice none 0 0))) (fun _ _ _ _ h=>by rw [hg];exact h)
  refine ZaD (h':=fun v=>Zx 59 4 rOp l v) hG hS rfl (.tmp rfl .nil) (.one .one) rfl
 have hg:l = [] ++ l:=rfl
 refine wp_skip (Zb (wp_seq ?_))
 refine Zc hS (qf (Zb9 (R:=rOp) (sz:=4) 101 Tryz.underlying38 (by kernel_rfl)) trivial qz (qM rfl rfl (qf (o_append (sz:=4) (bs:=32) 101 (.mk' Tryz.underlying38 (by kernel_rfl) (by kernel_rfl)) (by intro x;rfl) .same (.sl .t) (by simp only [List.length_append,List.length_nil];omega) (by decide)) ⟨rfl,rfl,trivial⟩ ⟨rfl,trivial⟩ (qN rfl rfl qZ)))) hB [2] [101,0] (fun _=>rfl) (fun _=>rfl) fun τ a w F hS=>?_
 try dsimp only [RS.sub,SF.sub,CF.sub,csub,Anc.sub,List.map,Zf,xL,xM,Nat.reduceAdd,xD,xE,xT,xU,xC,xN,zCF,rOp] at hS
 generalize τ 7=v7 at hS
 refine Zb (wp_ret ?_)
 obtain ⟨F,hS⟩:=hS.rename 101 1 rfl rfl
 have hS:=hS.turn 1 rfl (r':=RS.hp (Zx 59 4 rOp l v7)) (fun _ _ _ _ h=>by rw [hg];exact h)
 refine ZaD (h':=fun v=>Zx 59 4 rOp l v) hG hS rfl (.tmp rfl .nil) (.one .one) rfl
theorem Zmk (l : List OpD) (p : OpD → Bool) (f : FuncId) (fn : Func) (cps : List PV) (hf : Tryz.prog.funcs[f]? = some fn) (hb : fn.body.isSome = true) (hnn : (fn.name == "runtime.NumGoroutine") = false) (hw : ∀ x, FnP Tryz.prog f (.agg (rOp x) :: cps) (.bool (p x))) : FnP Tryz.prog 166 [.sl rOp l, .clos f cps] (.int .i64 (ZZ p l)) := by
 refine FnP.mk Tryz.func166 rfl Tryz.ntmps166 rfl ?_
 intro B a w F hB hfr hS
 have hll:=Sat.lenSl hS (i:=0) rfl
 refine wp_seq ?_
 refine Za hS (qI qZ) hB [4,1,0] [0] rfl rfl fun a w F hS=>Zb (wp_seq (wp_seq ?_))
 refine Za hS (qM rfl rfl (qu Tryz.underlying38 r1 (qJ qZ))) hB [8,7,4,1,0] [0] rfl rfl fun a w F hS=>Zb (wp_block ?_)
 refine Zo (σ:=(Nat)) [0,1,4,7] [0] (fun s=>[(8,.pv (.int .i64 (s:Int)))]) (fun s=>[]) (fun s=>s≤l.length∧(∀ k,k<s→p (Go.Gm.nth l k)=false)) (fun s=>l.length - s) (0) hS ⟨rfl,rfl,rfl,rfl,rfl,trivial⟩ ⟨rfl,trivial⟩ ⟨Nat.zero_le _,fun k hk=>absurd hk (Nat.not_lt_zero k)⟩ ?_
 clear hS;intro i a w F hC hS
 try dsimp only at hC
 obtain ⟨F,hS⟩:=hS.nm [8,7,4,1,0] [0] rfl rfl
 try dsimp only at hS
 obtain ⟨hi,hq⟩:=hC
 refine wp_seq ?_
 refine Za hS (qL r2) hB [9,8,7,4,1,0] [0] rfl rfl fun a w F hS=>Zb (wp_seq ?_)
 refine Zd hS rfl (fun hc0=>?_) (fun hc0=>?_)
 ·skip
  have hil:i<l.length:=by simp at hc0;omega
  refine wp_skip (Zb (wp_seq (wp_block (wp_seq ?_))))
  refine Za hS (qM rfl rfl (qN rfl rfl qZ)) hB [8,7,5,4,1,0] [0] rfl rfl fun a w F hS=>Zb (wp_seq ?_)
  refine Za hS (qM rfl rfl (qM rfl rfl (qM rfl rfl (qy 4 Tryz.underlying38 r2 (qf (oR true 4 .t) r1 qz (qf (ZU (avs:=[.agg (rOp (Go.Gm.nth l i))]) .t (hw (Go.Gm.nth l i)) hf hb hnn (Args.one (.pagg .t))) r2 qz qZ)))))) hB [16,8,7,5,4,1,0] [0] rfl rfl fun a w F hS=>?_
  try simp only [Int.toNat_natCast] at hS
  refine Zb ?_
  refine Zd hS rfl (fun hc1=>?_) (fun hc1=>?_)
  ·skip
   have hg:(i:Int)=ZZ p l:=(Zc7 hil hc1 hq).symm
   refine wp_seq ?_
   refine Za hS (qM rfl rfl (qN rfl rfl qZ)) hB [8,7,4,1,0] [0] rfl rfl fun a w F hS=>Zb (wp_ret (Zl (Zg (Zg (Zl (Zg ?_))))))
   refine Zq hfr hS rfl rfl rfl (.int hg)
  have hne:p (Go.Gm.nth l i)=false:=hc1
  refine wp_skip (Zi (Zb ?_))
  refine Za hS (qp r1 (qM rfl rfl qZ)) hB [8,7,4,1,0] [0] rfl rfl fun a w F hS=>Zb ?_
  replace hS:=hS.ent (i:=8) (s':=.pv (.int .i64 ((i+1:Nat):Int))) rfl (.int (Ze (by omega)))
  obtain ⟨F,hS⟩:=hS.nm [7,4,1,0,8] [0] rfl rfl
  exact ⟨(i+1),F,⟨by omega,(fun k hk=>by rcases Nat.lt_or_eq_of_le (Nat.le_of_lt_succ hk) with h | h;exact hq k h;rw [h];exact hne)⟩,hS,by omega⟩
 have hil:i=l.length:=by simp at hc0;omega
 have hg : -1=ZZ p l:=(ZbM fun k hk=>hq k (by simp at hc0;omega)).symm
 refine wp_exit (Zj (Zj (Zp (Zb (wp_seq ?_)))))
 refine Za hS (qI qZ) hB [4] [0] rfl rfl fun a w F hS=>Zb (wp_ret ?_)
 refine Zq hfr hS rfl rfl rfl (.int hg)
theorem Zpl (x:Int):IntKind.wrap .u8 x=x % 256:=by simp [IntKind.wrap,IntKind.bits,IntKind.signed]
def ZfD (s:List UInt8):Nat:=s.foldl (fun a c=>a*10+(c.toNat - 48)) 0
def Zmg (u:Nat):List Int:=if h:u=0 then [] else Zmg (u / 10) ++ [((48+u % 10:Nat):Int)]
 termination_by u
 decreasing_by omega
def Zgx (u:Nat):List Int:=Zmg (u / 10) ++ [((48+u % 10:Nat):Int)]
theorem Zkb:Zmg 0 = []:=by unfold Zmg;simp
theorem ZhZ {u:Nat} (h:u≠0):Zmg u=Zgx u:=by unfold Zmg Zgx;simp [h]
def textL (n:Int):List UInt8:=if n<0 then 45 :: (Zgx n.natAbs).map toB else (Zgx n.natAbs).map toB
structure Zfn (u0 i u:Nat) (l:List Int):Prop where
 hl:l.length=20
 hi:i≤20
 hu:u<10 ^ i
 hb:u≤18446744073709551615
 ok:(i=20∧u=u0)∨(i<20∧Zmg u++l.drop i=Zgx u0)
theorem Zfn.start {u0:Nat} (h:u0≤18446744073709551615):Zfn u0 20 u0 [0,0,0,0,0,0,0,0,0,0,0,0,0,0,0,0,0,0,0,0]:=⟨rfl,Nat.le_refl _,by omega,h,.inl ⟨rfl,rfl⟩⟩
theorem Zfn.pos {u0 i u:Nat} {l:List Int} (h:Zfn u0 i u l) (hc:i=20∨0<u):1≤i:=by
 rcases hc with hc | hc
 · omega
 · rcases Nat.eq_zero_or_pos i with h0 | h0
   · have:=h.hu;rw [h0] at this;omega
   · exact h0
theorem Zfn.next {u0 i u:Nat} {l:List Int} (h:Zfn u0 i u l) (hc:i=20∨0<u):Zfn u0 (i - 1) (u / 10) (l.set (i - 1) ((48+u % 10:Nat):Int)):=by
 have h1:=h.pos hc
 have hi:=h.hi
 have hl:=h.hl
 have hd:(l.set (i - 1) ((48+u % 10:Nat):Int)).drop (i - 1)=((48+u % 10:Nat):Int) :: l.drop i:=by
   rw [List.drop_eq_getElem_cons (by rw [List.length_set];omega),List.getElem_set_self,show i - 1+1=i by omega,List.drop_set_of_lt (by omega)]
 refine ⟨by rw [List.length_set];exact h.hl,by omega,?_,by have:=h.hb;omega,.inr ⟨by omega,?_⟩⟩
 · have:=h.hu
   rw [show i=(i - 1)+1 by omega,Nat.pow_succ] at this
   omega
 · rw [hd]
   have e:Zmg (u / 10)++((48+u % 10:Nat):Int) :: l.drop i=Zgx u++l.drop i:=by
     unfold Zgx;simp
   rw [e]
   rcases h.ok with ⟨h2,h3⟩ | ⟨h2,h3⟩
   · rw [h2,h3,List.drop_of_length_le (by omega)];simp
   · rw [← ZhZ (by omega)];exact h3
theorem Zfn.done {u0 i u:Nat} {l:List Int} (h:Zfn u0 i u l) (h1:i≠20) (h2:u=0):l.drop i=Zgx u0:=by
 rcases h.ok with ⟨h3,_⟩ | ⟨_,h3⟩
 · exact absurd h3 h1
 · rw [h2,Zkb] at h3;simpa using h3
theorem ZkN (u:Nat) (hu:u≤18446744073709551615):FnP Tryz.prog 138 [.int .u64 (u:Int)] (.bs ((Zgx u).map toB)):=by
 refine FnP.mk Tryz.func138 rfl Tryz.ntmps138 rfl ?_
 intro B a w F hB hfr hS
 refine wp_seq ?_
 refine Za hS (qf (oN (.cs (by kernel_rfl))) trivial qz qZ) hB [2,0] [0] rfl rfl fun a w F hS=>Zb (wp_seq ?_)
 refine Zc hS (qf (oH [.int .u8 0,.int .u8 0,.int .u8 0,.int .u8 0,.int .u8 0,.int .u8 0,.int .u8 0,.int .u8 0,.int .u8 0,.int .u8 0,.int .u8 0,.int .u8 0,.int .u8 0,.int .u8 0,.int .u8 0,.int .u8 0,.int .u8 0,.int .u8 0,.int .u8 0,.int .u8 0] 101) trivial qz qZ) hB [3,2,0] [101,0] (fun _=>rfl) (fun _=>rfl) fun τ a w F hS=>?_
 try dsimp only [RS.sub,SF.sub,CF.sub,csub,Anc.sub,List.map,zCF] at hS
 generalize τ 3=v3 at hS
 refine Zb (wp_seq ?_)
 refine Za hS (qI qZ) hB [4,3,2,0] [101,0] rfl rfl fun a w F hS=>Zb (wp_seq (wp_block ?_))
 replace hS:=hS.turn 101 rfl (r':=.ob (.val v3) (Zpt 202 (fun x=>PV.int .u8 x) [0,0,0,0,0,0,0,0,0,0,0,0,0,0,0,0,0,0,0,0])) (fun τ w f y h=>ZmU (f:=(fun x=>PV.int .u8 x)) (l:=[0,0,0,0,0,0,0,0,0,0,0,0,0,0,0,0,0,0,0,0]) τ w f y h)
 obtain ⟨F,hS⟩:=hS.nm [4,3,0] [101,0] rfl rfl
 refine Z7 (σ:=(Nat×Nat×List Int)) (fun s=>(⟨[(0,.pv (.int .u64 s.2.1)),(3,.pv (.is v3)),(4,.pv (.int .i64 s.1))],[(0,frame B),(101,.ob (.val v3) (Zpt 202 (fun x=>PV.int .u8 x) s.2.2))]⟩:En)) (fun s=>Zfn u s.1 s.2.1 s.2.2) (fun s=>s.1) (20,u,[0,0,0,0,0,0,0,0,0,0,0,0,0,0,0,0,0,0,0,0]) hS (Zfn.start hu) ?_
 clear hS;intro s a w F hC hS
 obtain ⟨i,x,l⟩:=s
 try dsimp only at hC
 try dsimp only at hS
 have hl:=hC.hl
 have hi:=hC.hi
 have hbx:=hC.hb
 try dsimp only at hl hi hbx
 refine wp_seq (wp_seq ?_)
 refine Za hS (qM rfl rfl (qf (o_eql .t qi) r1 qz (qM rfl rfl (qm rfl rfl rfl rfl (qk rfl (fun h=>o_gtr (.w h) qi) r2 qz (qf (ZaL .t .t) r2 qz qZ)))))) hB [10,4,3,0] [101,0] rfl rfl fun a w F hS=>Zb ?_
 refine Zd hS rfl (fun hc0=>?_) (fun hc0=>?_)
 ·skip
  have hcc:i=20∨0<x:=by simp only [Bool.or_eq_true,decide_eq_true_eq] at hc0;omega
  have hip:=hC.pos hcc
  try dsimp only at hip
  refine wp_skip (Zb (wp_block (wp_seq ?_)))
  refine Za hS (qM rfl rfl (qf (o_sub .t qi) r1 qz (qN rfl rfl qZ))) hB [4,3,0] [101,0] rfl rfl fun a w F hS=>?_
  rw [show IntKind.wrap .i64 ((i:Int) - 1)=((i - 1:Nat):Int) by rw [ZM (by omega)];omega] at hS
  refine Zb (wp_seq ?_)
  refine Za hS (qM rfl rfl (qM rfl rfl (qf (Zrb .t qi (by decide)) r1 qz (qf (ZbX qi .t) r1 qz (qf (Zdg Tryz.underlying5 (by kernel_rfl) .t) r1 qz (qf (Zgv (sz:=1) 101 Tryz.underlying202 (by kernel_rfl) .is .t (by omega) (by omega)) r2 r1 (qf (ZlD 101 .adr .t one_int (by kernel_rfl) (by rw [hl];omega)) r2 r1 qZ))))))) hB [4,3,0] [101,0] rfl rfl fun a w F hS=>?_
  rw [show 0+((i - 1:Nat):Int).toNat*1=i - 1 by omega] at hS
  rw [show IntKind.wrap .u8 (IntKind.wrap .u64 (48+(x:Int).tmod 10))=((48+x % 10:Nat):Int) by rw [Zpl,ZdZ,Int.tmod_eq_emod_of_nonneg (by omega)];omega] at hS
  refine Zb ?_
  refine Za hS (qM rfl rfl (qf (Zql .t qi (by decide)) r1 qz (qN rfl rfl qZ))) hB [4,3,0] [101,0] rfl rfl fun a w F hS=>Zi (Zb ?_)
  replace hS:=hS.ent (i:=0) (s':=.pv (.int .u64 ((x / 10:Nat):Int))) rfl (.int (by rw [ZdZ,Int.tdiv_eq_ediv_of_nonneg (by omega)];omega))
  obtain ⟨F,hS⟩:=hS.nm [4,3,0] [101,0] rfl rfl
  exact ⟨(i - 1,x / 10,l.set (i - 1) ((48+x % 10:Nat):Int)),F,(hC.next hcc),hS,by dsimp only;omega⟩
 have hcc:i≠20∧x=0:=by simp only [Bool.or_eq_false_iff,decide_eq_false_iff_not] at hc0;omega
 have hdd:=hC.done hcc.1 hcc.2
 refine wp_exit (Zj (Zj (Zp (Zb (wp_seq ?_)))))
 replace hS:=hS.turn 101 rfl Zjq
 obtain ⟨F,hS⟩:=hS.giveRef 101 3 rfl rfl (Zkl _ _)
 rw [Zlb] at hS
 obtain ⟨F,hS⟩:=hS.nm [10,4,3,0] [0] rfl rfl
 refine Za hS (qM rfl rfl (qf (ZjR (sz:=1) (R:=rB) (l:=l) Tryz.underlying202 (by kernel_rfl) (by intro x;rfl) hl (by decide) .t .t (by omega) (by omega)) r2 qz (qf (o_conv_sl_bs Tryz.underlying156 Tryz.underlying5 Tryz.underlying9 .t) r1 qz (qN rfl rfl qZ)))) hB [2] [0] rfl rfl fun a w F hS=>Zb (wp_ret ?_)
 refine Zq hfr hS rfl rfl rfl (.bs (by rw [Int.toNat_natCast,hdd]))
theorem Zhz:∀ (k u:Nat),u<10 ^ k→(Zmg u).length≤k
 | 0,u,h=>by
   have:u=0:=by simpa using h
   rw [this,Zkb];simp
 | k+1,u,h=>by
   by_cases h0:u=0
   · rw [h0,Zkb];simp
   · rw [ZhZ h0]
     unfold Zgx
     have:=Zhz k (u / 10) (by rw [Nat.pow_succ] at h;omega)
     rw [List.length_append]
     simp only [List.length_cons,List.length_nil]
     omega
theorem ZjZ {u:Nat} (h:u≤18446744073709551615):(Zgx u).length≤20:=by
 have:=Zhz 19 (u / 10) (by omega)
 unfold Zgx
 rw [List.length_append]
 simp only [List.length_cons,List.length_nil]
 omega
theorem Zhg {n:Int} (h : -9223372036854775808≤n∧n≤9223372036854775807):n.natAbs≤18446744073709551615:=by omega
structure ZjX (u0 i x:Nat) (l:List UInt8):Prop where
 hl:l.length=i
 hi:i≤20
 hx:x<10 ^ (20 - i)
 hb:x≤18446744073709551615
 ok:(i=0∧x=u0∧l = [])∨(0<i∧(Zmg x).map toB++l=(Zgx u0).map toB)
theorem ZjX.start {u0:Nat} (h:u0≤18446744073709551615):ZjX u0 0 u0 []:=⟨rfl,by decide,by omega,h,.inl ⟨rfl,rfl,rfl⟩⟩
theorem ZjX.next {u0 i x:Nat} {l:List UInt8} (h:ZjX u0 i x l) (hc:i=0∨0<x):ZjX u0 (i+1) (x / 10) (toB ((48+x % 10:Nat):Int) :: l):=by
 have hi:=h.hi
 have hlt:i<20:=by
   rcases hc with hc | hc
   · omega
   · rcases Nat.lt_or_ge i 20 with h1 | h1
     · exact h1
     · have:=h.hx;rw [show 20 - i=0 by omega] at this;omega
 refine ⟨by rw [List.length_cons,h.hl],by omega,?_,by have:=h.hb;omega,.inr ⟨by omega,?_⟩⟩
 · have:=h.hx
   rw [show 20 - i=(20 - (i+1))+1 by omega,Nat.pow_succ] at this
   omega
 · have e:(Zmg (x / 10)).map toB++toB ((48+x % 10:Nat):Int) :: l=(Zgx x).map toB++l:=by unfold Zgx;simp
   rw [e]
   rcases h.ok with ⟨_,h3,h4⟩ | ⟨h2,h3⟩
   · rw [h3,h4];simp
   · rw [← ZhZ (by omega)];exact h3
theorem ZjX.done {u0 i x:Nat} {l:List UInt8} (h:ZjX u0 i x l) (h1:i≠0) (h2:x=0):l=(Zgx u0).map toB:=by
 rcases h.ok with ⟨h3,_⟩ | ⟨_,h3⟩
 · exact absurd h3 h1
 · rw [h2,Zkb] at h3;simpa using h3
theorem Zdf (n:Int):FnP Tryz.prog 69 [.int .i64 n] (.bs (textL n)):=by
 refine FnP.mk Tryz.func69 rfl Tryz.ntmps69 rfl ?_
 intro B a w F hB hfr hS
 have hn:=Zge (hS.range (i:=0) rfl)
 have hz:=ZjZ (Zhg hn)
 refine wp_seq ?_
 refine Za hS (qf (oN (.cs (by kernel_rfl))) trivial qz qZ) hB [2,0] [0] rfl rfl fun a w F hS=>Zb (wp_seq (wp_seq ?_))
 refine Za hS (qM rfl rfl (qf (Zcr .t qi) r1 qz qZ)) hB [4,2,0] [0] rfl rfl fun a w F hS=>Zb ?_
 refine Zd hS rfl (fun hc0=>?_) (fun hc0=>?_)
 ·skip
  have hb:n<0:=of_decide_eq_true hc0
  have hu:IntKind.wrap .u64 (0 - IntKind.wrap .u64 n)=(n.natAbs:Int):=by rw [ZdZ,ZdZ];omega
  have hg:textL n=45 :: (Zgx n.natAbs).map toB:=if_pos hb
  refine wp_seq ?_
  refine Za hS (qM rfl rfl (qf (Zdg Tryz.underlying166 (by kernel_rfl) .t) r1 qz (qf (Zq4 .t) r1 qz (qf (oP (ZkN n.natAbs (Zhg hn)) Tryz.func138 (Args.one (.conv .t (.int hu)))) r1 qz (qf (Za7 (.cs (by kernel_rfl)) .t (by simp only [List.length_cons,List.length_nil,List.length_map];omega)) r1 qz (qN rfl rfl qZ)))))) hB [2,0] [0] rfl rfl fun a w F hS=>Zb (wp_ret (Zg ?_))
  refine Zq hfr hS rfl rfl rfl (.bs (by rw [hg];try rfl))
 have hb:¬ n<0:=of_decide_eq_false hc0
 have hu:IntKind.wrap .u64 n=(n.natAbs:Int):=by rw [ZdZ];omega
 have hg:textL n=(Zgx n.natAbs).map toB:=if_neg hb
 refine wp_skip (Zb (wp_seq ?_))
 refine Za hS (qM rfl rfl (qf (Zdg Tryz.underlying166 (by kernel_rfl) .t) r1 qz (qf (oP (ZkN n.natAbs (Zhg hn)) Tryz.func138 (Args.one (.conv .t (.int hu)))) r1 qz (qN rfl rfl qZ)))) hB [2] [0] rfl rfl fun a w F hS=>Zb (wp_ret ?_)
 refine Zq hfr hS rfl rfl rfl (.bs (by rw [hg];try rfl))
def bH (v ad:Value) (l:List UInt8):HP:=.ex fun rv=>.and (l = []→rv = .slice none 0 0) (.star [.pt (.val v) 158 [.pv (.is ad),.pv (.is rv)],.ob (.val rv) (Zx 5 1 rC l)])
def Z0 (v:Value) (l:List UInt8):HP:=.ex fun ad=>.and (ad = .pointer none∨ad=v) (bH v ad l)
theorem FnG.cases {P:Program} {f:FuncId} {args:List PV} {h h1 h2:HP} {q:PV} {qr:Value→List HP} (hh:∀ w fb y,h.p w fb y→h1.p w fb y∨h2.p w fb y) (k1:FnG P f 1 args [h1] q qr) (k2:FnG P f 1 args [h2] q qr):FnG P f 1 args [h] q qr:=fun w F vs hw hle hvs hpr=>by
 rcases hh w (F 1) (U F) (hpr 0 h rfl) with hx | hx
 · exact k1 w F vs hw hle hvs (fun i h' hi=>by
     match i,hi with
     | 0,hi=>simp at hi;subst hi;exact hx)
 · exact k2 w F vs hw hle hvs (fun i h' hi=>by
     match i,hi with
     | 0,hi=>simp at hi;subst hi;exact hx)
theorem Zgr {v:Value} {l:List UInt8} (w:World) (fb y:Ys) (h:(Z0 v l).p w fb y):(bH v (.pointer none) l).p w fb y∨(bH v v l).p w fb y:=by
 obtain ⟨ad,h1,h2⟩:=h
 rcases h1 with rfl | rfl
 · exact .inl h2
 · exact .inr h2
theorem copy0 (b:Nat) (l:List UInt8):FnG Tryz.prog 186 1 [.is (.pointer (some ⟨b,0,none⟩))] [bH (.pointer (some ⟨b,0,none⟩)) (.pointer none) l] (.any) (fun _=>[bH (.pointer (some ⟨b,0,none⟩)) (.pointer (some ⟨b,0,none⟩)) l]):=by
 refine FnG.mk Tryz.func186 rfl Tryz.ntmps186 rfl (by kernel_rfl) ?_
 intro B F0 a w F hB hG hS
 obtain ⟨rv,hS⟩:=hS.open_ex 1 rfl
 obtain ⟨hI,hS⟩:=hS.open_and 1 rfl
 obtain ⟨F,hS⟩:=hS.peel 1 2 rfl rfl
 obtain ⟨F,hS⟩:=hS.peel 1 3 rfl rfl
 obtain ⟨F,hS⟩:=hS.nm [0] [3,2,0] rfl rfl
 refine wp_seq ?_
 refine Za hS (qM rfl rfl (qf (Zw 2 .is (by rfl)) r1 r1 (qf (oF 0 2 .adr) r1 r1 (qa 2 r1 r1 (qf (Zd7 _ Tryz.underlying155 rfl .t) r1 qz qZ))))) hB [6,0] [3,2,0] rfl rfl fun a w F hS=>Zb ?_
 refine Zd hS rfl (fun hc0=>?_) (fun hc0=>?_)
 ·skip
  refine Za hS (qM rfl rfl (qM rfl rfl (qf (Zd8 2 Tryz.underlying155 Tryz.underlying220 (by kernel_rfl) (by kernel_rfl) .t) r1 r1 (qf (ZgS Tryz.func213 (by kernel_rfl) (by kernel_rfl) (by kernel_rfl) (by kernel_rfl) .t) r1 qz (qf (Ze7 2 Tryz.underlying220 Tryz.underlying155 (by kernel_rfl) (by kernel_rfl) .t) r1 r1 (qf (Zw 2 .is (by rfl)) r1 r1 (qf (oF 0 2 .adr) r1 r1 (qf (Zbh 2 .adr .t ZnE (by kernel_rfl) (by kernel_rfl)) r2 r1 qZ)))))))) hB [] [3,2,0] rfl rfl fun a w F hS=>?_
  have hS:=hS.fresh 1 rfl
  obtain ⟨F,hS⟩:=hS.push 1 3 rfl rfl rfl (by kernel_rfl)
  obtain ⟨F,hS⟩:=hS.push 1 2 rfl rfl rfl (by kernel_rfl)
  have hS:=hS.turn 1 rfl (r':=RS.hp (bH (.pointer (some ⟨b,0,none⟩)) (.pointer (some ⟨b,0,none⟩)) l)) (fun _ _ _ _ h=>⟨_,hI,h⟩)
  refine ZbD hG hS rfl .nil Zbl.any rfl
 simp at hc0
theorem copy1 (b:Nat) (l:List UInt8):FnG Tryz.prog 186 1 [.is (.pointer (some ⟨b,0,none⟩))] [bH (.pointer (some ⟨b,0,none⟩)) (.pointer (some ⟨b,0,none⟩)) l] (.any) (fun _=>[bH (.pointer (some ⟨b,0,none⟩)) (.pointer (some ⟨b,0,none⟩)) l]):=by
 refine FnG.mk Tryz.func186 rfl Tryz.ntmps186 rfl (by kernel_rfl) ?_
 intro B F0 a w F hB hG hS
 obtain ⟨rv,hS⟩:=hS.open_ex 1 rfl
 obtain ⟨hI,hS⟩:=hS.open_and 1 rfl
 obtain ⟨F,hS⟩:=hS.peel 1 2 rfl rfl
 obtain ⟨F,hS⟩:=hS.peel 1 3 rfl rfl
 obtain ⟨F,hS⟩:=hS.nm [0] [3,2,0] rfl rfl
 refine wp_seq ?_
 refine Za hS (qM rfl rfl (qf (Zw 2 .is (by rfl)) r1 r1 (qf (oF 0 2 .adr) r1 r1 (qa 2 r1 r1 (qf (Zd7 _ Tryz.underlying155 rfl .t) r1 qz qZ))))) hB [6,0] [3,2,0] rfl rfl fun a w F hS=>Zb ?_
 refine Zd hS rfl (fun hc0=>?_) (fun hc0=>?_)
 ·skip
  simp at hc0
 refine wp_seq ?_
 refine Za hS (qM rfl rfl (qf (Zw 2 .is (by rfl)) r1 r1 (qf (oF 0 2 .adr) r1 r1 (qa 2 r1 r1 (qM rfl rfl (qf (ZgQ Tryz.underlying155 (by kernel_rfl) .t .t) r2 qz qZ)))))) hB [19] [3,2,0] rfl rfl fun a w F hS=>Zb ?_
 refine Zd hS rfl (fun hc1=>?_) (fun hc1=>?_)
 ·skip
  simp at hc1
 refine wp_skip ?_
 have hS:=hS.fresh 1 rfl
 obtain ⟨F,hS⟩:=hS.push 1 3 rfl rfl rfl (by kernel_rfl)
 obtain ⟨F,hS⟩:=hS.push 1 2 rfl rfl rfl (by kernel_rfl)
 have hS:=hS.turn 1 rfl (r':=RS.hp (bH (.pointer (some ⟨b,0,none⟩)) (.pointer (some ⟨b,0,none⟩)) l)) (fun _ _ _ _ h=>⟨_,hI,h⟩)
 refine ZbD hG hS rfl .nil Zbl.any rfl
theorem ZoY (b:Nat) (l:List UInt8):FnG Tryz.prog 186 1 [.is (.pointer (some ⟨b,0,none⟩))] [Z0 (.pointer (some ⟨b,0,none⟩)) l] .any (fun _=>[bH (.pointer (some ⟨b,0,none⟩)) (.pointer (some ⟨b,0,none⟩)) l]):=FnG.cases Zgr (copy0 b l) (copy1 b l)
theorem Zjp (b:Nat) (l:List UInt8) (hl:l.length≤1000000000) (c:UInt8):FnG Tryz.prog 139 1 [.is (.pointer (some ⟨b,0,none⟩)),.int .u8 (c.toNat:Int)] [Z0 (.pointer (some ⟨b,0,none⟩)) l] (.any) (fun _=>[bH (.pointer (some ⟨b,0,none⟩)) (.pointer (some ⟨b,0,none⟩)) (l ++ [c])]):=by
 refine FnG.mk Tryz.func139 rfl Tryz.ntmps139 rfl (by kernel_rfl) ?_
 intro B F0 a w F hB hG hS
 refine wp_seq ?_
 refine Za hS (qC qZ) hB [4,1,0] [1,0] rfl rfl fun a w F hS=>Zb (wp_seq ?_)
 refine Za hS (qM rfl rfl (qf (o_callG1 1 (ZoY b l) Tryz.func186 rfl (by kernel_rfl) (Args.one .t)) r1 r1 qZ)) hB [4,1,0] [1,0] rfl rfl fun a w F hS=>?_
 obtain ⟨rv,hS⟩:=hS.open_ex 1 rfl
 obtain ⟨hI,hS⟩:=hS.open_and 1 rfl
 obtain ⟨F,hS⟩:=hS.peel 1 2 rfl rfl
 obtain ⟨F,hS⟩:=hS.peel 1 3 rfl rfl
 obtain ⟨F,hS⟩:=hS.nm [4,1,0] [3,2,0] rfl rfl
 refine Zb (wp_seq ?_)
 refine Zc hS (qM rfl rfl (qM rfl rfl (qf (Zw 2 .is (by rfl)) r1 r1 (qf (oF 1 2 .adr) r1 r1 (qa 2 r1 r1 (qM rfl rfl (qf (Zh (sz:=1) (zs:=[.int .u8 0]) (r:=[(0,.tmp 12)]) (l:=[_]) Tryz.underlying156 (by kernel_rfl) (by kernel_rfl) (by kernel_rfl) (by kernel_rfl) rfl rfl (.one rfl .t one_int (by kernel_rfl) .nil) rfl) r1 qz (qf (o_append (sz:=1) (bs:=1) 3 (.mk' Tryz.underlying156 (by kernel_rfl) (by kernel_rfl)) (by intro x;rfl) .is (.arr (l':=[c]) .t) (by simp only [List.length_cons,List.length_nil];omega) (by decide)) ⟨rfl,rfl,trivial⟩ ⟨rfl,trivial⟩ (qf (Zw 2 .is (by rfl)) r1 r1 (qf (oF 1 2 .adr) r1 r1 (qf (Zac 2 .adr (by kernel_rfl) (by kernel_rfl)) r2 r1 qZ))))))))))) hB [4] [3,2,0] (fun _=>rfl) (fun _=>rfl) fun τ a w F hS=>?_
 try dsimp only [RS.sub,SF.sub,CF.sub,csub,Anc.sub,List.map,Zf,xL,xM,Nat.reduceAdd,xD,xE,xT,xU,xC,xN,zCF,ldSF] at hS
 generalize τ 14=v14 at hS
 refine Zb (wp_seq ?_)
 refine Za hS (qC qZ) hB [4] [3,2,0] rfl rfl fun a w F hS=>Zb (wp_ret ?_)
 have hS:=hS.fresh 1 rfl
 obtain ⟨F,hS⟩:=hS.push 1 3 rfl rfl rfl (by kernel_rfl)
 obtain ⟨F,hS⟩:=hS.push 1 2 rfl rfl rfl (by kernel_rfl)
 have hS:=hS.turn 1 rfl (r':=RS.hp (bH (.pointer (some ⟨b,0,none⟩)) (.pointer (some ⟨b,0,none⟩)) (l ++ [c]))) (fun _ _ _ _ h=>⟨_,(by intro hh;simp at hh),h⟩)
 refine ZbD hG hS rfl (.tmp rfl .nil) Zbl.any rfl
theorem Zau (b:Nat) (l:List UInt8) (hl:l.length≤1000000000) (x:List UInt8) (hx:x≠[]) (hxl:x.length≤1000000000):FnG Tryz.prog 135 1 [.is (.pointer (some ⟨b,0,none⟩)),.bs x] [Z0 (.pointer (some ⟨b,0,none⟩)) l] (.any) (fun _=>[bH (.pointer (some ⟨b,0,none⟩)) (.pointer (some ⟨b,0,none⟩)) (l++x)]):=by
 refine FnG.mk Tryz.func135 rfl Tryz.ntmps135 rfl (by kernel_rfl) ?_
 intro B F0 a w F hB hG hS
 refine wp_seq ?_
 refine Za hS (qI (qC qZ)) hB [5,4,1,0] [1,0] rfl rfl fun a w F hS=>Zb (wp_seq ?_)
 refine Za hS (qM rfl rfl (qf (o_callG1 1 (ZoY b l) Tryz.func186 rfl (by kernel_rfl) (Args.one .t)) r1 r1 qZ)) hB [5,4,1,0] [1,0] rfl rfl fun a w F hS=>?_
 obtain ⟨rv,hS⟩:=hS.open_ex 1 rfl
 obtain ⟨hI,hS⟩:=hS.open_and 1 rfl
 obtain ⟨F,hS⟩:=hS.peel 1 2 rfl rfl
 obtain ⟨F,hS⟩:=hS.peel 1 3 rfl rfl
 obtain ⟨F,hS⟩:=hS.nm [5,4,1,0] [3,2,0] rfl rfl
 refine Zb (wp_seq ?_)
 refine Zc hS (qM rfl rfl (qM rfl rfl (qf (Zw 2 .is (by rfl)) r1 r1 (qf (oF 1 2 .adr) r1 r1 (qa 2 r1 r1 (qM rfl rfl (qf (ZeF 3 Tryz.underlying156 Tryz.underlying9 (by kernel_rfl) .is .t (by omega)) ⟨rfl,rfl,trivial⟩ ⟨rfl,trivial⟩ (qf (Zw 2 .is (by rfl)) r1 r1 (qf (oF 1 2 .adr) r1 r1 (qf (Zac 2 .adr (by kernel_rfl) (by kernel_rfl)) r2 r1 qZ)))))))))) hB [5,4,1] [3,2,0] (fun _=>rfl) (fun _=>rfl) fun τ a w F hS=>?_
 try dsimp only [RS.sub,SF.sub,CF.sub,csub,Anc.sub,List.map,Zf,xL,xM,Nat.reduceAdd,xD,xE,xT,xU,xC,xN,zCF,ldSF] at hS
 generalize τ 14=v14 at hS
 refine Zb (wp_seq ?_)
 refine Za hS (qM rfl rfl (qf (o_len_bs Tryz.underlying9 .t) r1 qz (qN rfl rfl (qC qZ)))) hB [5,4] [3,2,0] rfl rfl fun a w F hS=>Zb (wp_ret ?_)
 have hS:=hS.fresh 1 rfl
 obtain ⟨F,hS⟩:=hS.push 1 3 rfl rfl rfl (by kernel_rfl)
 obtain ⟨F,hS⟩:=hS.push 1 2 rfl rfl rfl (by kernel_rfl)
 have hS:=hS.turn 1 rfl (r':=RS.hp (bH (.pointer (some ⟨b,0,none⟩)) (.pointer (some ⟨b,0,none⟩)) (l++x))) (fun _ _ _ _ h=>⟨_,(by intro hh;exact absurd (List.append_eq_nil_iff.1 hh).2 hx),h⟩)
 refine ZbD hG hS rfl (.tmp rfl (.tmp rfl .nil)) Zbl.any rfl
theorem ZpJ (b:Nat):FnG Tryz.prog 137 1 [.is (.pointer (some ⟨b,0,none⟩))] [Z0 (.pointer (some ⟨b,0,none⟩)) []] (.bs []) (fun _=>[HP.star []]):=by
 refine FnG.mk Tryz.func137 rfl Tryz.ntmps137 rfl (by kernel_rfl) ?_
 intro B F0 a w F hB hG hS
 obtain ⟨ad,hS⟩:=hS.open_ex 1 rfl
 obtain ⟨hA,hS⟩:=hS.open_and 1 rfl
 obtain ⟨rv,hS⟩:=hS.open_ex 1 rfl
 obtain ⟨hI,hS⟩:=hS.open_and 1 rfl
 obtain rfl:=hI rfl
 obtain ⟨F,hS⟩:=hS.peel 1 2 rfl rfl
 obtain ⟨F,hS⟩:=hS.peel 1 3 rfl rfl
 obtain ⟨F,hS⟩:=hS.nm [0] [3,2,0] rfl rfl
 refine wp_seq ?_
 refine Za hS (qf (oN (.cs (by kernel_rfl))) trivial qz qZ) hB [2,0] [3,2,0] rfl rfl fun a w F hS=>Zb (wp_seq ?_)
 refine ZC hS (qM rfl rfl (qf (Zw 2 .is (by rfl)) r1 r1 (qf (oF 1 2 .adr) r1 r1 (qa 2 r1 r1 (qf (Zfy .t) r1 qz (qM rfl rfl (qf (Zw 2 .is (by rfl)) r1 r1 (qf (oF 1 2 .adr) r1 r1 (qa 2 r1 r1 (qf (ZV 3 Tryz.underlying156 .is) r1 r1 (qf (Zd1 .t .t) r2 qz (qN rfl rfl qZ)))))))))))) hB [2] [3,2,0] rfl rfl fun a w F hS=>?_
 try dsimp only [List.map,xD,xE,xT,xU,ldSF] at hS
 refine Zb (wp_ret ?_)
 have hS:=hS.fresh 1 rfl
 refine ZbD (h':=HP.star []) hG hS rfl (.tmp rfl .nil) (.one .refl) rfl
theorem Zpf (b:Nat) (l:List UInt8) (hne:l≠[]):FnG Tryz.prog 137 1 [.is (.pointer (some ⟨b,0,none⟩))] [Z0 (.pointer (some ⟨b,0,none⟩)) l] (.bs l) (fun _=>[HP.star []]):=by
 refine FnG.mk Tryz.func137 rfl Tryz.ntmps137 rfl (by kernel_rfl) ?_
 intro B F0 a w F hB hG hS
 obtain ⟨ad,hS⟩:=hS.open_ex 1 rfl
 obtain ⟨hA,hS⟩:=hS.open_and 1 rfl
 obtain ⟨rv,hS⟩:=hS.open_ex 1 rfl
 obtain ⟨hI,hS⟩:=hS.open_and 1 rfl
 obtain ⟨F,hS⟩:=hS.peel 1 2 rfl rfl
 obtain ⟨F,hS⟩:=hS.peel 1 3 rfl rfl
 obtain ⟨F,hS⟩:=hS.nm [0] [3,2,0] rfl rfl
 refine wp_seq ?_
 refine Za hS (qf (oN (.cs (by kernel_rfl))) trivial qz qZ) hB [2,0] [3,2,0] rfl rfl fun a w F hS=>Zb (wp_seq ?_)
 refine ZC hS (qM rfl rfl (qf (Zw 2 .is (by rfl)) r1 r1 (qf (oF 1 2 .adr) r1 r1 (qa 2 r1 r1 (qf (Zf1 3 hne .is (by rfl)) r1 r1 (qM rfl rfl (qf (Zw 2 .is (by rfl)) r1 r1 (qf (oF 1 2 .adr) r1 r1 (qa 2 r1 r1 (qf (ZV 3 Tryz.underlying156 .is) r1 r1 (qf (Zdd 3 Tryz.underlying201 (by kernel_rfl) hne .t) r2 r1 (qN rfl rfl qZ)))))))))))) hB [2] [3,2,0] rfl rfl fun a w F hS=>?_
 try dsimp only [List.map,xD,xE,xT,xU,ldSF] at hS
 refine Zb (wp_ret ?_)
 have hS:=hS.fresh 1 rfl
 refine ZbD (h':=HP.star []) hG hS rfl (.tmp rfl .nil) (.one .refl) rfl
theorem ZhP (b:Nat) (l:List UInt8):FnG Tryz.prog 137 1 [.is (.pointer (some ⟨b,0,none⟩))] [Z0 (.pointer (some ⟨b,0,none⟩)) l] (.bs l) (fun _=>[HP.star []]):=by
 by_cases h:l = []
 · subst h;exact ZpJ b
 · exact Zpf b l h
def Zaj (l:List Int):Nat→List UInt8
 | 0=>[]
 | i+1=>Zaj l i++(if 0<i then [32] else [])++textL (nth l i)
def Zcm (l:List Int):List UInt8:=Zaj l l.length
theorem Zpn (u:Nat):Zgx u≠[]:=by unfold Zgx;simp
theorem ZhQ (n:Int):textL n≠[]:=by
 unfold textL
 split
 · simp
 · simpa using Zpn _
theorem Zae {n:Int} (h : -9223372036854775808≤n∧n≤9223372036854775807):(textL n).length≤21:=by
 have:=ZjZ (Zhg h)
 unfold textL
 split <;> simp <;> omega
theorem words_c (l:List Int) (hlen:l.length≤1000):FnP Tryz.prog 70 [.sl rInt l] (.bs (Zcm l)):=by
 refine FnP.mk Tryz.func70 rfl Tryz.ntmps70 rfl ?_
 intro B a w F hB hfr hS
 refine wp_seq ?_
 refine Za hS (qf (oN (.cs (by kernel_rfl))) trivial qz qZ) hB [2,0] [0] rfl rfl fun a w F hS=>Zb (wp_seq ?_)
 refine Zc hS (qf (oH [.pointer none,.slice none 0 0] 101) trivial qz qZ) hB [3,2,0] [101,0] (fun _=>rfl) (fun _=>rfl) fun τ a w F hS=>?_
 try dsimp only [RS.sub,SF.sub,CF.sub,csub,Anc.sub,List.map,zCF] at hS
 generalize τ 3=v3 at hS
 obtain ⟨b,rfl⟩:=hS.shape 101 rfl
 replace hS:=hS.fresh 9 rfl
 replace hS:=hS.turn 9 rfl (Zav (T:=5) (sz:=1) (R:=rC))
 replace hS:=hS.fresh 10 rfl
 obtain ⟨F,hS⟩:=hS.push 10 9 rfl rfl rfl (by kernel_rfl)
 obtain ⟨F,hS⟩:=hS.push 10 101 rfl rfl rfl (by kernel_rfl)
 replace hS:=hS.turn 10 rfl (r':=RS.hp (Z0 (.pointer (some ⟨b,0,none⟩)) (Zaj l 0))) (fun _ _ _ _ h=>⟨_,.inl rfl,_,fun _=>rfl,h⟩)
 obtain ⟨F,hS⟩:=hS.nm [3,2,0] [10,0] rfl rfl
 refine Zb (wp_seq (wp_seq ?_))
 refine Za hS (qM rfl rfl (qu Tryz.underlying41 r1 (qJ qZ))) hB [8,7,6,3,2] [10,0] rfl rfl fun a w F hS=>Zb (wp_block ?_)
 obtain ⟨F,hS⟩:=hS.nm [8,7,6,3] [10,0] rfl rfl
 refine Z7 (σ:=Nat) (fun s=>(⟨[(3,.pv (.is (.pointer (some ⟨b,0,none⟩)))),(6,.pv (.sl rInt l)),(7,.pv (.int .i64 l.length)),(8,.pv (.int .i64 s))],[(0,frame B),(10,RS.hp (Z0 (.pointer (some ⟨b,0,none⟩)) (Zaj l s)))]⟩:En)) (fun s=>s≤l.length∧(Zaj l s).length≤22*s) (fun s=>l.length - s) 0 hS ⟨Nat.zero_le _,Nat.le_refl _⟩ ?_
 clear hS;intro i a w F hC hS
 try dsimp only at hC
 try dsimp only at hS
 obtain ⟨hi,hw⟩:=hC
 refine wp_seq ?_
 refine Za hS (qL r2) hB [9,8,7,6,3] [10,0] rfl rfl fun a w F hS=>Zb (wp_seq ?_)
 refine Zd hS rfl (fun hc0=>?_) (fun hc0=>?_)
 ·skip
  have hil:i<l.length:=by simp at hc0;omega
  refine wp_skip (Zb (wp_seq (wp_block (wp_seq ?_))))
  refine Za hS (qM rfl rfl (qy 1 Tryz.underlying41 r2 (qf (oR false 1 .t) r1 qz (qN rfl rfl (qN rfl rfl qZ))))) hB [8,7,6,5,4,3] [10,0] rfl rfl fun a w F hS=>?_
  have hn:=Zge (hS.range (i:=5) rfl)
  rw [Int.toNat_natCast] at hS hn
  have htl:=Zae hn
  refine Zb (wp_seq (wp_seq ?_))
  refine Za hS (qM rfl rfl (qf (o_gtr .t qi) r1 qz qZ)) hB [14,8,7,6,5,3] [10,0] rfl rfl fun a w F hS=>Zb ?_
  refine Zd hS rfl (fun hc1=>?_) (fun hc1=>?_)
  ·skip
   refine Za hS (qf (o_callG1 10 (Zjp b (Zaj l i) (by omega) 32) Tryz.func139 rfl (by kernel_rfl) (Args.two .t qi)) r1 r1 qZ) hB [8,7,6,5,3] [10,0] rfl rfl fun a w F hS=>?_
   have hi0:0<i:=by simp at hc1;omega
   obtain ⟨q2,hq2⟩:∃ q2,q2=Zaj l i++(if 0<i then [32] else []):=⟨_,rfl⟩
   have hql:q2.length≤22*i+1:=by rw [hq2];split <;> simp <;> omega
   replace hS:=hS.turn 10 rfl (r':=RS.hp (Z0 (.pointer (some ⟨b,0,none⟩)) q2)) (fun _ _ _ _ h=>⟨_,.inr rfl,by rw [hq2,if_pos hi0];exact h⟩)
   refine Zb ?_
   refine Za hS (qM rfl rfl (qf (oP (Zdf (nth l i)) Tryz.func69 (Args.one .t)) r1 qz (qf (o_callG1 10 (Zau b q2 (by omega) (textL (nth l i)) (ZhQ _) (by have:=Zae hn;omega)) Tryz.func135 rfl (by kernel_rfl) (Args.two .t .t)) r2 r1 qZ))) hB [8,7,6,3] [10,0] rfl rfl fun a w F hS=>Zi (Zb ?_)
   refine Za hS (qp r1 (qM rfl rfl qZ)) hB [8,7,6,3] [10,0] rfl rfl fun a w F hS=>Zb ?_
   replace hS:=hS.turn 10 rfl (r':=RS.hp (Z0 (.pointer (some ⟨b,0,none⟩)) (Zaj l (i+1)))) (fun _ _ _ _ h=>⟨_,.inr rfl,by rw [Zaj,← hq2];exact h⟩)
   replace hS:=hS.ent (i:=8) (s':=.pv (.int .i64 ((i+1:Nat):Int))) rfl (.int (Ze (by omega)))
   obtain ⟨F,hS⟩:=hS.nm [8,7,6,3] [10,0] rfl rfl
   exact ⟨i+1,F,⟨by omega,by rw [Zaj,← hq2,List.length_append];omega⟩,hS,by omega⟩
  have hi0:¬ 0<i:=by simp at hc1;omega
  obtain ⟨q2,hq2⟩:∃ q2,q2=Zaj l i++(if 0<i then [32] else []):=⟨_,rfl⟩
  have hql:q2.length≤22*i+1:=by rw [hq2];split <;> simp <;> omega
  rw [show Zaj l i=q2 by rw [hq2,if_neg hi0,List.append_nil]] at hS
  refine wp_skip (Zb ?_)
  refine Za hS (qM rfl rfl (qf (oP (Zdf (nth l i)) Tryz.func69 (Args.one .t)) r1 qz (qf (o_callG1 10 (Zau b q2 (by omega) (textL (nth l i)) (ZhQ _) (by have:=Zae hn;omega)) Tryz.func135 rfl (by kernel_rfl) (Args.two .t .t)) r2 r1 qZ))) hB [8,7,6,3] [10,0] rfl rfl fun a w F hS=>Zi (Zb ?_)
  refine Za hS (qp r1 (qM rfl rfl qZ)) hB [8,7,6,3] [10,0] rfl rfl fun a w F hS=>Zb ?_
  replace hS:=hS.turn 10 rfl (r':=RS.hp (Z0 (.pointer (some ⟨b,0,none⟩)) (Zaj l (i+1)))) (fun _ _ _ _ h=>⟨_,.inr rfl,by rw [Zaj,← hq2];exact h⟩)
  replace hS:=hS.ent (i:=8) (s':=.pv (.int .i64 ((i+1:Nat):Int))) rfl (.int (Ze (by omega)))
  obtain ⟨F,hS⟩:=hS.nm [8,7,6,3] [10,0] rfl rfl
  exact ⟨i+1,F,⟨by omega,by rw [Zaj,← hq2,List.length_append];omega⟩,hS,by omega⟩
 have hil:i=l.length:=by simp at hc0;omega
 rw [hil] at hS
 refine wp_exit (Zj (Zj (Zp (Zb (wp_seq ?_)))))
 refine Za hS (qf (o_callG1 10 (ZhP b (Zaj l l.length)) Tryz.func137 rfl (by kernel_rfl) (Args.one .t)) r1 r1 (qN rfl rfl qZ)) hB [2] [10,0] rfl rfl fun a w F hS=>Zb (wp_ret ?_)
 refine Zq hfr hS rfl rfl rfl (.bs rfl)
end Go.Proofs.YtjhapicamnijnaaGreat
