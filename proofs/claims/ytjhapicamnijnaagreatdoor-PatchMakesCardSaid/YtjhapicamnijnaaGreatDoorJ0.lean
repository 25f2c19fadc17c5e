/- Texts put together. No condition beyond those that each theorem says. -/
import Derived.Test.YtjhapicamnijnaaGreatDoorLibW
import Derived.Test.YtjhapicamnijnaaGreatDoorLibL
import Derived.Shelf.Sort.Plain
import Derived.Shelf.Slices.In.SortNone
import Derived.Laws.BitsLemmas
import Derived.Laws.MathBits
namespace Go.Proofs.YtjhapicamnijnaaGreatDoor
open Go Go.Gm
set_option linter.unusedVariables false
set_option linter.unusedSimpArgs false
set_option maxHeartbeats 4000000
set_option maxRecDepth 8000
theorem ZC {x:Int} (h : -9223372036854775808≤x∧x≤9223372036854775807):IntKind.wrap .i64 x=x:=ZhN ⟨by simp [IntKind.min,IntKind.signed,IntKind.bits];omega,by simp [IntKind.max,IntKind.signed,IntKind.bits];omega⟩
theorem wrap_succ {i:Nat} (h:i<9223372036854775807):IntKind.wrap .i64 ((i:Int)+1)=((i+1:Nat):Int):=by rw [ZC (by omega)];omega
theorem Zde {x:Int} (h:0≤x∧x≤18446744073709551615):IntKind.wrap .u64 x=x:=ZhN ⟨by simp [IntKind.min,IntKind.signed,IntKind.bits];omega,by simp [IntKind.max,IntKind.signed,IntKind.bits];omega⟩
theorem Zrg {x:Int} (h:0≤x∧x≤255):IntKind.wrap .u8 x=x:=ZhN ⟨by simp [IntKind.min,IntKind.signed,IntKind.bits];omega,by simp [IntKind.max,IntKind.signed,IntKind.bits];omega⟩
theorem Zc8 (x:Int):IntKind.wrap .u64 x=x % 18446744073709551616:=by simp [IntKind.wrap,IntKind.bits,IntKind.signed]
theorem ZgI {x:Int} (h:inR .i64 x) : -9223372036854775808≤x∧x≤9223372036854775807:=by simpa [inR,IntKind.min,IntKind.max,IntKind.signed,IntKind.bits] using h
theorem Sat.lenBs {B:Zbp} {E:En} {a:Act} {w:World} {F:Fp} (h:Sat B E a w F) {i:Nat} {l:List UInt8} (hl:Go.Gm.look E.s i=some (SF.pv (PV.bs l))):l.length≤9223372036854775807:=by
 have:=(h.s i _ hl).2
 rw [Zac] at this
 unfold maxLen at this
 omega
theorem Sat.lenSl {α:Type} {R:α→List PV} {B:Zbp} {E:En} {a:Act} {w:World} {F:Fp} (h:Sat B E a w F) {i:Nat} {l:List α} (hl:Go.Gm.look E.s i=some (SF.pv (PV.sl R l))):l.length≤9223372036854775807:=by
 obtain ⟨_,cap,_,h1,h2,_⟩:=h.s i _ hl
 unfold maxLen at h2
 omega
def rInt (n:Int):List PV:=[.int .i64 n]
def rS (s:List UInt8):List PV:=[.bs s]
theorem Zbn.any {ss:List SF} : Zbn ss .any:=fun _ _ _ _ _=>trivial
theorem Za0 {α:Type} [Inhabited α] {x y:List α} (hl:x.length=y.length) (h:∀ j,j<x.length→Go.Gm.nth x j=Go.Gm.nth y j):x=y:=by
 apply List.ext_getElem hl
 intro j h1 h2
 have:=h j h1
 rwa [Zp h1,Zp h2] at this
theorem Zjt {α:Type} [Inhabited α] {q:List α} {k:Nat} (h:k<q.length):q.take k ++ [Go.Gm.nth q k] = q.take (k+1):=by
 rw [Zp h,List.take_succ_eq_append_getElem h]
theorem ZB {α:Type} [Inhabited α] {q:List α} {k:Nat} (h:k<q.length):Go.Gm.nth q k ∈ q:=by rw [Zp h];exact List.getElem_mem h
theorem Zcu {α:Type} [Inhabited α] {l:List α} {i:Nat} (h:i<l.length):l.drop i=Go.Gm.nth l i :: l.drop (i+1):=by rw [Zp h];exact List.drop_eq_getElem_cons h
theorem ZE {α:Type} [Inhabited α] {l:List α} {i:Nat} (h:i<l.length):l.take (i+1)=l.take i ++ [Go.Gm.nth l i]:=(Zjt h).symm
structure Zcg where
 key:Int
 val:Int
 deriving DecidableEq,Inhabited
def Zff (p:Zcg):List PV:=[.int .i64 p.key,.int .i64 p.val]
section
variable {out t T:List Zcg} {k x:Int} {e:Zcg} {d:Bool}
end
def Zbw (v:Int):List Int→Int
 | []=>-1
 | x :: l=>if x=v then 0 else if Zbw v l<0 then -1 else Zbw v l+1
theorem Zfy {v:Int} : ∀ {l:List Int},(∀ k,k<l.length→Go.Gm.nth l k≠v)→Zbw v l = -1
 | [],_=>rfl
 | x :: l,h=>by
   have h0:x≠v:=h 0 (by simp)
   rw [Zbw,if_neg h0,Zfy (l:=l) fun k hk=>by have:=h (k+1) (by simpa using hk);exact this,if_pos (by decide)]
theorem Zno {v:Int} : ∀ {l:List Int} {i:Nat},i<l.length→Go.Gm.nth l i=v→(∀ k,k<i→Go.Gm.nth l k≠v)→Zbw v l=i
 | [],i,h,_,_=>by simp at h
 | x :: l,0,_,h,_=>by rw [Zbw,if_pos (show x=v from h)];rfl
 | x :: l,i+1,h,h1,h2=>by
   have h0:x≠v:=h2 0 (by omega)
   have:=Zno (l:=l) (i:=i) (by simpa using h) h1 fun k hk=>h2 (k+1) (by omega)
   rw [Zbw,if_neg h0,this,if_neg (by omega)];omega
theorem ZhU {v:Int} {l:List Int} (h:v ∈ l):∃ i:Nat,Zbw v l=i∧i<l.length∧Go.Gm.nth l i=v ∧ ∀ k,k<i→Go.Gm.nth l k≠v:=by
 induction l with
 | nil=>cases h
 | cons x l ih=>
   by_cases hx:x=v
   · exact ⟨0,by rw [Zbw,if_pos hx];rfl,by simp,hx,fun k hk=>absurd hk (Nat.not_lt_zero k)⟩
   · obtain ⟨i,h1,h2,h3,h4⟩:=ih (by rcases List.mem_cons.1 h with h | h;exact absurd h.symm hx;exact h)
     refine ⟨i+1,by rw [Zbw,if_neg hx,h1,if_neg (by omega)];omega,by simpa using h2,h3,fun k hk=>?_⟩
     cases k with
     | zero=>exact hx
     | succ k=>exact h4 k (by omega)
theorem ZhK {v:Int} {l:List Int} (h:v ∉ l):Zbw v l = -1:=Zfy fun k hk e=>h (e ▸ ZB hk)
theorem ZgZ (v:Int) (l:List Int) : -1≤Zbw v l∧Zbw v l<l.length:=by
 by_cases h:v ∈ l
 · obtain ⟨i,h1,h2,_⟩:=ZhU h
   omega
 · rw [ZhK h];omega
theorem ZkX {v:Int} {l:List Int} : 0≤Zbw v l ↔ v ∈ l:=by
 constructor
 · intro h
   by_cases hm:v ∈ l
   · exact hm
   · rw [ZhK hm] at h;omega
 · intro h
   obtain ⟨i,h1,_⟩:=ZhU h
   omega
def ZmV (l:List Int) (j x:Int):List Int:=if 0≤j∧j≤l.length then l.take j.toNat++x :: l.drop j.toNat else l
def ZaX (l:List Int):Prop:=(∀ x ∈ l,1≤x∧x≤1048575)∧l.Nodup
instance (l:List Int):Decidable (ZaX l):=by unfold ZaX;exact inferInstance
theorem ZaX.snoc {l:List Int} {x:Int} : ZaX (l ++ [x]) ↔ ZaX l∧(1≤x∧x≤1048575)∧x ∉ l:=by
 unfold ZaX
 constructor
 · rintro ⟨h1,h2⟩
   rw [List.nodup_append] at h2
   exact ⟨⟨fun y hy=>h1 y (by simp [hy]),h2.1⟩,h1 x (by simp),fun hx=>h2.2.2 x hx x (by simp) rfl⟩
 · rintro ⟨⟨h1,h2⟩,h3,h4⟩
   refine ⟨fun y hy=>?_,List.nodup_append.2 ⟨h2,by simp,fun a ha b hb=>?_⟩⟩
   · rcases List.mem_append.1 hy with hy | hy
     · exact h1 y hy
     · rw [List.mem_singleton.1 hy];exact h3
   · rw [List.mem_singleton.1 hb]
     intro e;subst e;exact h4 ha
theorem ZaX.take {l:List Int} (h:ZaX l) (i:Nat):ZaX (l.take i):=⟨fun x hx=>h.1 x (List.mem_of_mem_take hx),h.2.sublist (List.take_sublist i l)⟩
def leI (x y:Int):Bool:=decide (x≤y)
theorem Zol {a b:List Int} : a.mergeSort leI=b.mergeSort leI ↔ a.Perm b:=by
 constructor
 · intro h
   exact (List.mergeSort_perm a leI).symm.trans (h ▸ List.mergeSort_perm b leI)
 · intro h
   have hs:∀ l:List Int,List.Pairwise (fun x y=>x≤y) (l.mergeSort leI):=fun l=>by
     have:=List.pairwise_mergeSort (le:=leI) (fun a b c h1 h2=>by simp [leI] at *;omega) (fun a b=>by simp [leI];omega) l
     exact this.imp fun h=>by simpa [leI] using h
   exact List.Perm.eq_of_pairwise (fun x y _ _ h1 h2=>Int.le_antisymm h1 h2) (hs a) (hs b) (((List.mergeSort_perm a leI).trans h).trans (List.mergeSort_perm b leI).symm)
def withO (l:List Int) (tx:Int):List Int:=if tx ∈ l then l else l ++ [tx]
def withoutO (l:List Int) (tx:Int):List Int:=l.filter fun x=>decide (x≠tx)
def Zal (l:List Int) (tx place:Int):List Int×Int:=if Zbw tx l<0 then ([],3) else if ¬ (0≤place∧place<l.length) then ([],1) else (ZmV (l.eraseIdx (Zbw tx l).toNat) place tx,0)
theorem Zpq {l:List Int} {i p:Nat} {x:Int} (hi:i<p) (hp:p<l.length) :
   ((l.take i++(l.drop (i+1)).take (p - i))++l.drop p).set p x=ZmV (l.eraseIdx i) p x:=by
 have e1:(l.take i++(l.drop (i+1)).take (p - i)).length=p:=by simp;omega
 unfold ZmV
 rw [if_pos ⟨by omega,by rw [List.length_eraseIdx,if_pos (by omega)];omega⟩,Int.toNat_natCast]
 rw [List.set_append_right _ _ (by omega),e1,Nat.sub_self]
 rw [List.drop_eq_getElem_cons hp,List.set_cons_zero,List.eraseIdx_eq_take_drop_succ]
 congr 1
 · rw [List.take_append,List.take_take,Nat.min_eq_right (by omega),List.length_take,Nat.min_eq_left (by omega)]
 · congr 1
   have e3:(l.take i).drop p = []:=List.drop_eq_nil_of_le (by rw [List.length_take];omega)
   rw [List.drop_append,List.length_take,Nat.min_eq_left (by omega),e3,List.nil_append,List.drop_drop]
   congr 1;omega
theorem Zpv {l:List Int} {i p:Nat} {x:Int} (hi:p≤i) (hp:i<l.length) :
   ((l.take (p+1)++(l.drop p).take (i - p))++l.drop (i+1)).set p x=ZmV (l.eraseIdx i) p x:=by
 unfold ZmV
 rw [if_pos ⟨by omega,by rw [List.length_eraseIdx,if_pos (by omega)];omega⟩,Int.toNat_natCast]
 rw [List.append_assoc,List.set_append_left _ _ (by simp;omega),List.take_succ_eq_append_getElem (by omega),List.set_append_right _ _ (by simp;omega)]
 rw [List.eraseIdx_eq_take_drop_succ]
 have e1:p - (l.take p).length=0:=by simp;omega
 rw [e1]
 simp only [List.set_cons_zero,List.append_assoc,List.singleton_append]
 congr 1
 · rw [List.take_append,List.take_take,Nat.min_eq_left (by omega),List.length_take]
   simp [show p - min i l.length=0 by omega]
 · congr 1
   rw [List.drop_append,List.length_take,Nat.min_eq_left (by omega),show p - i=0 by omega,List.drop_zero,List.drop_take]
def Zax (now:List Int) (i:Int):List Int→List Zcg
 | []=>[]
 | x :: to=>if Go.Gm.nth now i.toNat=x then Zax now (i+1) to else ⟨x,i⟩ :: Zax (Zal now x i).1 (i+1) to
def Zch (a b:List Int):Prop:=ZaX a∧ZaX b∧a.Perm b
instance (a b:List Int):Decidable (Zch a b):=by unfold Zch;exact inferInstance
def ZaY (a b:List Int):List Zcg×Int:=if Zch a b then (Zax a 0 b,0) else ([],8)
theorem ZiT {v:Int} {l:List Int} (h:v ∈ l):l.eraseIdx (Zbw v l).toNat=l.erase v:=by
 induction l with
 | nil=>cases h
 | cons x l ih=>
   by_cases hx:x=v
   · subst hx
     rw [Zbw,if_pos rfl];simp
   · have hm:v ∈ l:=by rcases List.mem_cons.1 h with h | h;exact absurd h.symm hx;exact h
     obtain ⟨i,h1,h2,_⟩:=ZhU hm
     rw [Zbw,if_neg hx,if_neg (by omega),h1,List.erase_cons_tail (by simpa using hx),← ih hm,h1]
     rw [show ((i:Int)+1).toNat=i+1 by omega,Int.toNat_natCast,List.eraseIdx_cons_succ]
theorem ZnQ {l:List Int} {j x:Int} (h:0≤j∧j≤l.length):(ZmV l j x).Perm (x :: l):=by
 unfold ZmV
 rw [if_pos h]
 have:=(List.perm_middle (a:=x) (l₁:=l.take j.toNat) (l₂:=l.drop j.toNat))
 rwa [List.take_append_drop] at this
theorem Zh7 {l:List Int} {tx place:Int} (h:tx ∈ l) (hp:0≤place∧place<l.length):Zal l tx place=(ZmV (l.erase tx) place tx,0):=by
 unfold Zal
 rw [if_neg (by have:=ZkX.2 h;omega),if_neg (by simpa using hp),ZiT h]
theorem Zdj {l:List Int} {tx place:Int} (h:tx ∈ l) (hp:0≤place∧place<l.length):(Zal l tx place).1.Perm l:=by
 rw [Zh7 h hp]
 have hl:(l.erase tx).length=l.length - 1:=List.length_erase_of_mem h
 exact (ZnQ (by omega)).trans (List.perm_cons_erase h).symm
def ZaZ (l:List Int):List Zcg→List Int
 | []=>l
 | p :: s=>ZaZ (Zal l p.key p.val).1 s
theorem Zql {l:List Int} {tx:Int} {i:Nat} (h:tx ∈ l) (hi:i<l.length) (hx:tx ∉ l.take i):(Zal l tx i).1.take (i+1)=l.take i ++ [tx]:=by
 rw [Zh7 h (by omega)]
 have hl:(l.erase tx).length=l.length - 1:=List.length_erase_of_mem h
 show (ZmV (l.erase tx) i tx).take (i+1)=_
 unfold ZmV
 rw [if_pos (by omega),Int.toNat_natCast,List.take_append,List.take_of_length_le (by rw [List.length_take];omega),List.length_take,show i+1 - min i (l.erase tx).length=1 by omega]
 have e:(l.erase tx).take i=l.take i:=by
   conv=>lhs;rw [← List.take_append_drop i l]
   rw [List.erase_append_right _ hx,List.take_append,List.length_take,Nat.min_eq_left (by omega),Nat.sub_self,List.take_zero,List.append_nil,List.take_take,Nat.min_self]
 rw [e];rfl
theorem Zdv:∀ (to:List Int) (now pre:List Int),now.Perm (pre++to)→now.take pre.length=pre→now.Nodup→ZaZ now (Zax now pre.length to)=pre++to
 | [],now,pre,hp,ht,hn=>by
   have:=hp.length_eq
   simp at this
   simp only [Zax,ZaZ,List.append_nil]
   rw [← ht,List.take_of_length_le (by omega)]
 | x :: to,now,pre,hp,ht,hn=>by
   have hl:=hp.length_eq
   simp at hl
   have hxm:x ∈ now:=hp.mem_iff.2 (by simp)
   have hnd:(pre++x :: to).Nodup:=hp.nodup hn
   have hxp:x ∉ pre:=fun h=>(List.nodup_append.1 hnd).2.2 x h x (by simp) rfl
   have e:pre++x :: to=(pre ++ [x])++to:=by simp
   have elen:((pre ++ [x]).length:Int)=(pre.length:Int)+1:=by simp
   unfold Zax
   rw [Int.toNat_natCast]
   split
   · rename_i h
     have:=Zdv to now (pre ++ [x]) (by rw [← e];exact hp) (by
       rw [List.length_append,List.length_singleton,ZE (by omega),h,ht]) hn
     rw [elen] at this
     rw [this,← e]
   · rename_i h
     show ZaZ (Zal now x pre.length).1 _=_
     have hp2:=Zdj (place:=(pre.length:Int)) hxm (by omega)
     have:=Zdv to (Zal now x pre.length).1 (pre ++ [x]) (by rw [← e];exact hp2.trans hp) (by
       rw [List.length_append,List.length_singleton,Zql hxm (by omega) (by rw [ht];exact hxp),ht]) (hp2.symm.nodup hn)
     rw [elen] at this
     rw [this,← e]
theorem ZdP:∀ (to:List Int) (now:List Int) (i:Int),∃ s,s.Sublist to∧(Zax now i to).map Zcg.key=s
 | [],now,i=>⟨[],List.Sublist.refl _,rfl⟩
 | x :: to,now,i=>by
   unfold Zax
   split
   · obtain ⟨s,h1,h2⟩:=ZdP to now (i+1)
     exact ⟨s,h1.cons x,h2⟩
   · obtain ⟨s,h1,h2⟩:=ZdP to (Zal now x i).1 (i+1)
     exact ⟨x :: s,h1.cons_cons x,by rw [List.map_cons,h2]⟩
def Zjj:Go.Shelf.Ren:=⟨fun | 189=>65 | 125=>112 | 257=>111 | 128=>148 | 129=>149 | 294=>139 | 295=>140 | 296=>141 | 297=>142 | 298=>143 | 299=>144 | 216=>145 | 300=>146 | 301=>147 | 328=>164 | 329=>165 | 330=>166 | 331=>167 | 332=>168 | 215=>163 | 343=>179 | n=>n,fun | 28=>39 | 3=>3 | 46=>178 | 0=>0 | 51=>211 | 53=>152 | 4=>4 | 183=>204 | 182=>203 | 131=>162 | 5=>5 | 9=>9 | 218=>225 | 222=>229 | 228=>240 | 229=>241 | n=>n,fun  | n=>n⟩
theorem ZkY:Lays.n189 Tryz.prog Zjj where
 mixed:=by kernel_rfl
 f125:=Tryz.func112.trans (congrArg some (by kernel_rfl))
 f128:=Tryz.func148.trans (congrArg some (by kernel_rfl))
 f129:=Tryz.func149.trans (congrArg some (by kernel_rfl))
 f189:=Tryz.func65.trans (congrArg some (by kernel_rfl))
 f215:=Tryz.func163.trans (congrArg some (by kernel_rfl))
 f216:=Tryz.func145.trans (congrArg some (by kernel_rfl))
 f257:=Tryz.func111.trans (congrArg some (by kernel_rfl))
 f294:=Tryz.func139.trans (congrArg some (by kernel_rfl))
 f295:=Tryz.func140.trans (congrArg some (by kernel_rfl))
 f296:=Tryz.func141.trans (congrArg some (by kernel_rfl))
 f297:=Tryz.func142.trans (congrArg some (by kernel_rfl))
 f298:=Tryz.func143.trans (congrArg some (by kernel_rfl))
 f299:=Tryz.func144.trans (congrArg some (by kernel_rfl))
 f300:=Tryz.func146.trans (congrArg some (by kernel_rfl))
 f301:=Tryz.func147.trans (congrArg some (by kernel_rfl))
 f328:=Tryz.func164.trans (congrArg some (by kernel_rfl))
 f329:=Tryz.func165.trans (congrArg some (by kernel_rfl))
 f330:=Tryz.func166.trans (congrArg some (by kernel_rfl))
 f331:=Tryz.func167.trans (congrArg some (by kernel_rfl))
 f332:=Tryz.func168.trans (congrArg some (by kernel_rfl))
 f343:=Tryz.func179.trans (congrArg some (by kernel_rfl))
 t0:=Tryz.underlying0
 a0:=Tryz.isAgg0
 z0:=Tryz.sizeOf0
 v0:=Tryz.zeroValue0
 t3:=Tryz.underlying3
 a3:=Tryz.isAgg3
 z3:=Tryz.sizeOf3
 v3:=Tryz.zeroValue3
 t4:=Tryz.underlying4
 a4:=Tryz.isAgg4
 z4:=Tryz.sizeOf4
 v4:=Tryz.zeroValue4
 t5:=Tryz.underlying5
 a5:=Tryz.isAgg5
 z5:=Tryz.sizeOf5
 v5:=Tryz.zeroValue5
 t9:=Tryz.underlying9
 a9:=Tryz.isAgg9
 z9:=Tryz.sizeOf9
 v9:=Tryz.zeroValue9
 t28:=Tryz.underlying39
 a28:=Tryz.isAgg39
 z28:=Tryz.sizeOf39
 v28:=Tryz.zeroValue39
 t46:=Tryz.underlying178
 a46:=Tryz.isAgg178
 z46:=Tryz.sizeOf178
 v46:=Tryz.zeroValue178
 t51:=Tryz.underlying211
 a51:=Tryz.isAgg211
 z51:=Tryz.sizeOf211
 v51:=Tryz.zeroValue211
 t53:=Tryz.underlying152
 a53:=Tryz.isAgg152
 z53:=Tryz.sizeOf152
 v53:=Tryz.zeroValue152
 t131:=Tryz.underlying162
 a131:=Tryz.isAgg162
 z131:=Tryz.sizeOf162
 v131:=Tryz.zeroValue162
 t182:=Tryz.underlying203
 a182:=Tryz.isAgg203
 z182:=Tryz.sizeOf203
 v182:=Tryz.zeroValue203
 t183:=Tryz.underlying204
 a183:=Tryz.isAgg204
 z183:=Tryz.sizeOf204
 v183:=Tryz.zeroValue204
 t218:=Tryz.underlying225
 a218:=Tryz.isAgg225
 z218:=Tryz.sizeOf225
 v218:=Tryz.zeroValue225
 t222:=Tryz.underlying229
 a222:=Tryz.isAgg229
 z222:=Tryz.sizeOf229
 v222:=Tryz.zeroValue229
 t228:=Tryz.underlying240
 a228:=Tryz.isAgg240
 z228:=Tryz.sizeOf240
 v228:=Tryz.zeroValue240
 t229:=Tryz.underlying241
 a229:=Tryz.isAgg241
 z229:=Tryz.sizeOf241
 v229:=Tryz.zeroValue241
theorem ZoB (w:World):Calls Tryz.prog 65 #[.slice none 0 0] w (fun e w'=>e = .returned (.tuple #[])∧w' = w):=
 Go.calls_of_every_depth fun D=>Go.Proofs.AnyS.slices_Sort_int_none_in ZkY D none 0 w
theorem ZkK {w:World} {y:Ys} : ∀ {l:List Int} {xs:List Value},PVs (l.flatMap rInt) xs w y→xs=l.map (Value.int .i64) ∧ ∀ x ∈ l,inR .i64 x
 | [],[],_=>⟨rfl,fun x hx=>by cases hx⟩
 | [],_ :: _,h=>h.elim
 | x :: l,[],h=>h.elim
 | x :: l,v :: xs,h=>by
   have h1:v = .int .i64 x∧inR .i64 x:=h.1.2
   obtain ⟨h2,h3⟩:=ZkK (l:=l) (xs:=xs) h.2
   exact ⟨by rw [h1.1,h2];rfl,fun z hz=>by rcases List.mem_cons.1 hz with rfl | hz;exact h1.2;exact h3 z hz⟩
theorem ZfS {w:World} {y:Ys} : ∀ {l:List Int},(∀ x ∈ l,inR .i64 x)→PVs (l.flatMap rInt) (l.map (Value.int .i64)) w y
 | [],_=>trivial
 | x :: l,h=>⟨⟨rfl,rfl,h x (by simp)⟩,ZfS fun z hz=>h z (by simp [hz])⟩
theorem Zpr {l:List Int} {j:Nat} (hj:j<l.length):(l.toArray)[j]! = l[j]:=by simp [hj]
theorem Zkg {w:World} {g n:Nat} {d:List Int} {os:Array Obj} {cur:Array Value} {e:TypeId} (hg:w.heap[g]? = some (.cells cur e (0,0))) (b:Nat) (hb:b<w.heap.size) :
   (Go.Sort.grow (Go.Sort.putRow (Value.int .i64) (Go.Sort.ahead w n) g 0 d.toArray) os).heap[b]? = if b=g then some (.cells (Go.Sort.putCells (Value.int .i64) 0 d.toArray cur) e (0,0)) else w.heap[b]?:=by
 unfold Go.Sort.grow Go.Sort.putRow Go.Sort.mapBlock Go.Sort.ahead
 simp only
 rw [Array.getElem?_append_left (by simpa using hb),Array.getElem?_modify]
 by_cases h:g=b
 · subst h
   rw [if_pos rfl,if_pos rfl,hg];rfl
 · rw [if_neg h,if_neg (fun e=>h e.symm)]
theorem ZpR {cur:Array Value} {d:List Int} (h:d.length≤cur.size):(Go.Sort.putCells (Value.int .i64) 0 d.toArray cur).toList.take d.length=d.map (Value.int .i64):=by
 apply List.ext_getElem
 · simp [Go.Sort.putCells];omega
 · intro i h1 h2
   have hi:i<d.length:=by simpa using h2
   simp [Go.Sort.putCells,hi]
theorem ZmZ (v:Value) (l:List Int) (hlm:l.length≤1000000):FnG Tryz.prog 65 1 [.is v] [Zu 3 1 rInt l v] (.tup []) (fun _=>[Zu 3 1 rInt (l.mergeSort leI) v]):=fun w F vs hw hle hvs hpr=>by
 match vs,hvs with
 | [u],hvs=>
   have hu:u=v:=hvs.1.1
   subst hu
   obtain ⟨xs,⟨hxl,hx⟩,hp,hf⟩:=hpr 0 _ rfl
   rcases hx with ⟨rfl,h0⟩ | ⟨g,cap,cur,rfl,_,hg,hn,hcap,hcs,hct⟩
   · have hl:l = []:=List.eq_nil_of_length_eq_zero h0
     subst hl
     refine (ZoB w).mono ?_
     rintro e w' ⟨rfl,rfl⟩
     refine ⟨.tuple #[],F,rfl,hw,⟨rfl,rfl,rfl,Nat.le_refl _,fun _ _ _=>rfl,fun _ _=>rfl,fun n hn b hb=>.inl ⟨n,hn,hb⟩⟩,hle,⟨[],rfl,trivial⟩,fun i h hi=>?_⟩
     match i,hi with
     | 0,hi=>simp at hi;subst hi;exact ⟨xs,⟨hxl,.inl ⟨rfl,rfl⟩⟩,by simpa using hp,hf⟩
   · have hgs:g<w.heap.size:=(Array.getElem?_eq_some_iff.1 hg).1
     obtain ⟨hxe,hin⟩:=ZkK hp
     have hcl:l.length≤cur.size:=by rw [hcs];omega
     have hbig:l.length<4611686018427387904:=by omega
     have hcur:∀ j (hj:j<l.length),cur[j]? = some (.int .i64 l[j]):=fun j hj=>by
       have h1:(cur.toList.take (l.length*1))[j]? = (l.map (Value.int .i64))[j]?:=by rw [hct,hxe]
       rw [List.getElem?_take_of_lt (by omega)] at h1
       simpa [hj] using h1
     have hH:Go.Sort.Holds (Value.int .i64) w g 0 l.toArray:=fun j hj=>by
       have hj':j<l.length:=by simpa using hj
       refine ⟨?_,?_⟩
       · rw [Zpr hj',Nat.zero_add,Zbx hg];exact hcur j hj'
       · simp [World.frozen?,hg]
     have hcalls:Calls Tryz.prog 65 #[.slice (some ⟨g,0,none⟩) l.length cap] w fun e w'=>e = .returned (.tuple #[]) ∧ ∃ n os,w' = Go.Sort.grow (Go.Sort.putRow (Value.int .i64) (Go.Sort.ahead w n) g 0 (l.mergeSort leI).toArray) os:=Go.Proofs.Any.slices_Sort_int ZkY g 0 cap l w hH hgs hbig
     refine hcalls.mono ?_
     rintro e w' ⟨rfl,n,os,rfl⟩
     have hsl:(l.mergeSort leI).length=l.length:=List.length_mergeSort l
     have hheap:=fun b hb=>Zkg (n:=n) (d:=l.mergeSort leI) (os:=os) hg b hb
     have hsz:(Go.Sort.grow (Go.Sort.putRow (Value.int .i64) (Go.Sort.ahead w n) g 0 (l.mergeSort leI).toArray) os).heap.size=w.heap.size+os.size:=by simp [Go.Sort.ahead]
     have hfg:F 1 g:=(hf g).2 rfl
     have hst:Stp (List.range' 1 1) w F (Go.Sort.grow (Go.Sort.putRow (Value.int .i64) (Go.Sort.ahead w n) g 0 (l.mergeSort leI).toArray) os) F:=
       ⟨rfl,rfl,rfl,by rw [hsz];omega,fun b hb hn=>by
         rw [hheap b hb,if_neg (fun e=>by subst e;exact hn 1 (by simp) hfg)],fun _ _=>rfl,fun n hn b hb=>.inl ⟨n,hn,hb⟩⟩
     refine ⟨.tuple #[],F,rfl,⟨hw.dis,fun n b hb=>by rw [hsz];have:=hw.bd n b hb;omega⟩,hst,hle,⟨[],rfl,trivial⟩,fun i h hi=>?_⟩
     match i,hi with
     | 0,hi=>
       simp only [List.getElem?_cons_zero,Option.some.injEq] at hi
       subst hi
       refine ⟨(l.mergeSort leI).map (Value.int .i64),⟨by simp,.inr ⟨g,cap,_,by rw [hsl],Nat.zero_le _,(hheap g hgs).trans (if_pos rfl),by omega,hcap,by simp [Go.Sort.putCells,hcs],?_⟩⟩,ZfS fun x hx=>hin x ((List.mergeSort_perm l leI).mem_iff.1 hx),hf⟩
       rw [Nat.mul_one];exact ZpR (by omega)
theorem Zcd {α:Type} [Inhabited α] {p:α→Bool} {l:List α} {j:Nat} (h:j<l.length):(l.take (j+1)).filter p=(l.take j).filter p++if p (Go.Gm.nth l j)=true then [Go.Gm.nth l j] else []:=by
 rw [ZE h,List.filter_append]
 congr 1
 by_cases e:p (Go.Gm.nth l j)=true
 · rw [if_pos e];simp [e]
 · rw [if_neg e];simp at e;simp [e]
def Z3 {α:Type} [Inhabited α] (p:α→Bool) (l:List α):Int:=match l.findIdx? p with
 | some i=>i
 | none=>-1
theorem ZbP {α:Type} [Inhabited α] {p:α→Bool} {l:List α} (h:∀ k,k<l.length→p (Go.Gm.nth l k)=false):Z3 p l = -1:=by
 unfold Z3
 have:l.findIdx? p=none:=List.findIdx?_eq_none_iff.2 fun x hx=>by
   obtain ⟨k,hk,rfl⟩:=List.mem_iff_getElem.1 hx
   rw [← Zp hk];exact h k hk
 rw [this]
theorem Zc9 {α:Type} [Inhabited α] {p:α→Bool} {l:List α} {i:Nat} (hi:i<l.length) (h:p (Go.Gm.nth l i)=true) (h2:∀ k,k<i→p (Go.Gm.nth l k)=false):Z3 p l=i:=by
 unfold Z3
 have:l.findIdx? p=some i:=List.findIdx?_eq_some_iff_getElem.2 ⟨hi,by rw [← Zp hi];exact h,fun k hk=>by rw [← Zp (by omega),h2 k hk];decide⟩
 rw [this]
theorem Zaq {α:Type} [Inhabited α] (p:α→Bool) (l:List α):(Z3 p l = -1 ∧ ∀ k,k<l.length→p (Go.Gm.nth l k)=false) ∨ ∃ i:Nat,Z3 p l=i∧i<l.length∧p (Go.Gm.nth l i)=true ∧ ∀ k,k<i→p (Go.Gm.nth l k)=false:=by
 cases h:l.findIdx? p with
 | none=>
   left
   refine ⟨by unfold Z3;rw [h],fun k hk=>?_⟩
   have:=List.findIdx?_eq_none_iff.1 h l[k] (List.getElem_mem hk)
   rw [Zp hk];exact this
 | some i=>
   right
   obtain ⟨h1,h2,h3⟩:=List.findIdx?_eq_some_iff_getElem.1 h
   refine ⟨i,by unfold Z3;rw [h],h1,by rw [Zp h1];exact h2,fun k hk=>?_⟩
   rw [Zp (by omega)]
   simpa using h3 k hk
theorem Zdf {α:Type} [Inhabited α] {p:α→Bool} {l:List α} (h:∀ k,k<l.length→p (Go.Gm.nth l k)=false):l.filter (fun x=>!p x)=l:=by
 rw [List.filter_eq_self]
 intro x hx
 obtain ⟨k,hk,rfl⟩:=List.mem_iff_getElem.1 hx
 rw [← Zp hk,h k hk];rfl
theorem ZeB {α:Type} [Inhabited α] {p:α→Bool} {l:List α} {i:Nat} (hi:i<l.length) (hip:p (Go.Gm.nth l i)=true) (hib:∀ k,k<i→p (Go.Gm.nth l k)=false):l.take i=(l.take (i+1)).filter fun x=>!p x:=by
 have h:(l.take i).filter (fun x=>!p x)=l.take i:=Zdf fun k hk=>by
   rw [List.length_take] at hk
   rw [Zp (by rw [List.length_take];omega),List.getElem_take,← Zp (by omega)]
   exact hib k (by omega)
 rw [Zcd (p:=fun x=>!p x) hi,hip,h];simp
theorem ZjD:inR .i64 0:=by show IntKind.min .i64≤0∧0≤IntKind.max .i64;decide
theorem Zdb (l:List Int) (hl:l.length≤1000000):FnG Tryz.prog 64 1 [.sl rInt l] [.star []] (PV.one) (fun v=>[Zu 3 1 rInt l v]):=by
 refine FnG.mk Tryz.func64 rfl Tryz.ntmps64 rfl (by kernel_rfl) ?_
 intro B F0 a w F hB hG hS
 obtain ⟨F,hS⟩:=hS.nm [0] [0] rfl rfl
 refine wp_seq ?_
 refine Za hS (qC qZ) hB [2,0] [0] rfl rfl fun a w F hS=>Zb (wp_seq (wp_seq ?_))
 refine Za hS (qM rfl rfl (qf (ZdN Tryz.underlying39 .t) r1 qz qZ)) hB [4,2,0] [0] rfl rfl fun a w F hS=>?_
 obtain ⟨β4,hβ4,hS⟩:=hS.pickBool 4 rfl
 obtain ⟨F,hS⟩:=hS.nm [4,2,0] [0] rfl rfl
 refine Zb ?_
 refine Zd hS rfl (fun hc0=>?_) (fun hc0=>?_)
 ·skip
  have hg:l = []:=hβ4 hc0
  refine wp_seq ?_
  refine Za hS (qC qZ) hB [2,0] [0] rfl rfl fun a w F hS=>Zb (wp_ret (Ze ?_))
  have hS:=hS.fresh 1 rfl
  have hS:=hS.turn 1 rfl (ZaC (T:=3) (sz:=1) (R:=rInt))
  have hS:=hS.turn 1 rfl (r':=RS.hp (Zu 3 1 rInt l (.slice none 0 0))) (fun _ _ _ _ h=>by rw [hg];exact h)
  refine ZaG (h':=fun v=>Zu 3 1 rInt l v) hG hS rfl (.tmp rfl .nil) (.one .one) rfl
 have hg:l = [] ++ l:=rfl
 refine wp_skip (Zb (wp_seq ?_))
 refine Zc hS (qf (Zco (R:=rInt) (sz:=1) 101 Tryz.underlying39 (by kernel_rfl)) trivial qz (qM rfl rfl (qf (o_append (sz:=1) (bs:=8) 101 (.mk' Tryz.underlying39 (by kernel_rfl) (by kernel_rfl)) (by intro x;rfl) .same (.sl .t) (by simp only [List.length_append,List.length_nil];omega) (by decide)) ⟨rfl,rfl,trivial⟩ ⟨rfl,trivial⟩ (qN rfl rfl qZ)))) hB [2] [101,0] (fun _=>rfl) (fun _=>rfl) fun τ a w F hS=>?_
 try dsimp only [RS.sub,SF.sub,CF.sub,csub,Anc.sub,List.map,Zf,xL,xM,Nat.reduceAdd,xD,xE,xT,xU,xC,xN,zCF,rInt] at hS
 generalize τ 7=v7 at hS
 refine Zb (wp_ret ?_)
 obtain ⟨F,hS⟩:=hS.rename 101 1 rfl rfl
 have hS:=hS.turn 1 rfl (r':=RS.hp (Zu 3 1 rInt l v7)) (fun _ _ _ _ h=>by rw [hg];exact h)
 refine ZaG (h':=fun v=>Zu 3 1 rInt l v) hG hS rfl (.tmp rfl .nil) (.one .one) rfl
theorem Zq5 (l : List Int) (p : Int → Bool) (f : FuncId) (fn : Func) (cps : List PV) (hf : Tryz.prog.funcs[f]? = some fn) (hb : fn.body.isSome = true) (hnn : (fn.name == "runtime.NumGoroutine") = false) (hw : ∀ x, FnP Tryz.prog f (.int .i64 x :: cps) (.bool (p x))) : FnP Tryz.prog 178 [.sl rInt l, .clos f cps] (.int .i64 (Z3 p l)) := by
 refine FnP.mk Tryz.func178 rfl Tryz.ntmps178 rfl ?_
 intro B a w F hB hfr hS
 have hll:=Sat.lenSl hS (i:=0) rfl
 refine wp_seq ?_
 refine Za hS (qI qZ) hB [4,1,0] [0] rfl rfl fun a w F hS=>Zb (wp_seq (wp_seq ?_))
 refine Za hS (qM rfl rfl (qu Tryz.underlying39 r1 (qJ qZ))) hB [8,7,4,1,0] [0] rfl rfl fun a w F hS=>Zb (wp_block ?_)
 refine Zr (σ:=(Nat)) [0,1,4,7] [0] (fun s=>[(8,.pv (.int .i64 (s:Int)))]) (fun s=>[]) (fun s=>s≤l.length∧(∀ k,k<s→p (Go.Gm.nth l k)=false)) (fun s=>l.length - s) (0) hS ⟨rfl,rfl,rfl,rfl,rfl,trivial⟩ ⟨rfl,trivial⟩ ⟨Nat.zero_le _,fun k hk=>absurd hk (Nat.not_lt_zero k)⟩ ?_
 clear hS;intro i a w F hC hS
 try dsimp only at hC
 obtain ⟨F,hS⟩:=hS.nm [8,7,4,1,0] [0] rfl rfl
 try dsimp only at hS
 obtain ⟨hi,hq⟩:=hC
 refine wp_seq ?_
 refine Za hS (qL r2) hB [9,8,7,4,1,0] [0] rfl rfl fun a w F hS=>Zb (wp_seq ?_)
 refine Zd hS rfl (fun hc0=>?_) (fun hc0=>?_)
 ·skip
  have hil:i<l.length:=by simp at hc0;omega
  refine wp_skip (Zb (wp_seq (wp_block (wp_seq ?_))))
  refine Za hS (qM rfl rfl (qN rfl rfl qZ)) hB [8,7,5,4,1,0] [0] rfl rfl fun a w F hS=>Zb (wp_seq ?_)
  refine Za hS (qM rfl rfl (qM rfl rfl (qM rfl rfl (qy 1 Tryz.underlying39 r2 (qf (oR false 1 .t) r1 qz (qf (ZS (avs:=[.int .i64 (Go.Gm.nth l i)]) .t (hw (Go.Gm.nth l i)) hf hb hnn (Args.one .t)) r2 qz qZ)))))) hB [16,8,7,5,4,1,0] [0] rfl rfl fun a w F hS=>?_
  try simp only [Int.toNat_natCast] at hS
  refine Zb ?_
  refine Zd hS rfl (fun hc1=>?_) (fun hc1=>?_)
  ·skip
   have hg:(i:Int)=Z3 p l:=(Zc9 hil hc1 hq).symm
   refine wp_seq ?_
   refine Za hS (qM rfl rfl (qN rfl rfl qZ)) hB [8,7,4,1,0] [0] rfl rfl fun a w F hS=>Zb (wp_ret (Zg (Ze (Ze (Zg (Ze ?_))))))
   refine Zq hfr hS rfl rfl rfl (.int hg)
  have hne:p (Go.Gm.nth l i)=false:=hc1
  refine wp_skip (Zh (Zb ?_))
  refine Za hS (qp r1 (qM rfl rfl qZ)) hB [8,7,4,1,0] [0] rfl rfl fun a w F hS=>Zb ?_
  replace hS:=hS.ent (i:=8) (s':=.pv (.int .i64 ((i+1:Nat):Int))) rfl (.int (wrap_succ (by omega)))
  obtain ⟨F,hS⟩:=hS.nm [7,4,1,0,8] [0] rfl rfl
  exact ⟨(i+1),F,⟨by omega,(fun k hk=>by rcases Nat.lt_or_eq_of_le (Nat.le_of_lt_succ hk) with h | h;exact hq k h;rw [h];exact hne)⟩,hS,by omega⟩
 have hil:i=l.length:=by simp at hc0;omega
 have hg : -1=Z3 p l:=(ZbP fun k hk=>hq k (by simp at hc0;omega)).symm
 refine wp_exit (Zi (Zi (Zo (Zb (wp_seq ?_)))))
 refine Za hS (qI qZ) hB [4] [0] rfl rfl fun a w F hS=>Zb (wp_ret ?_)
 refine Zq hfr hS rfl rfl rfl (.int hg)
theorem ZrB (v : Value) (l : List Int) (hll : l.length ≤ 1000000) (p : Int → Bool) (f : FuncId) (fn : Func) (cps : List PV) (hf : Tryz.prog.funcs[f]? = some fn) (hb : fn.body.isSome = true) (hnn : (fn.name == "runtime.NumGoroutine") = false) (hw : ∀ x, FnP Tryz.prog f (.int .i64 x :: cps) (.bool (p x))) : FnG Tryz.prog 161 1 [.is v, .clos f cps] [Zu 3 1 rInt l v] (PV.one) (fun v => [Zu 3 1 rInt (l.filter fun x => !p x) v]) := by
 refine FnG.mk Tryz.func161 rfl Tryz.ntmps161 rfl (by kernel_rfl) ?_
 intro B F0 a w F hB hG hS
 replace hS:=hS.turn 1 rfl (r':=.ob (.val v) (Zu 3 1 rInt l)) (fun _ _ _ _ h=>h)
 refine wp_seq ?_
 refine Za hS (qC qZ) hB [4,1,0] [1,0] rfl rfl fun a w F hS=>Zb (wp_seq ?_)
 refine Za hS (qM rfl rfl (qM rfl rfl (qf (OpC.lendRow 1 [8] (oP (Zq5 l p f fn cps hf hb hnn hw) Tryz.func178 (Args.two .t .t)) ⟨rfl,trivial,trivial⟩ (.pv (fun _ _ _ _ h=>h)) trivial (by rfl)) r2 r1 (qN rfl rfl qZ)))) hB [5,4,1,0] [1,0] rfl rfl fun a w F hS=>Zb (wp_seq (wp_seq ?_))
 refine Za hS (qM rfl rfl (qf (o_eql .t qi) r1 qz qZ)) hB [12,5,4,1,0] [1,0] rfl rfl fun a w F hS=>Zb ?_
 refine Zd hS rfl (fun hc0=>?_) (fun hc0=>?_)
 ·skip
  have hno:=(Zaq p l).resolve_right (by rintro ⟨i,h1,_⟩;simp at hc0;omega)
  have hg:(l.filter fun x=>!p x)=l:=Zdf hno.2
  refine wp_seq ?_
  refine Za hS (qM rfl rfl (qN rfl rfl qZ)) hB [5,4,1,0] [1,0] rfl rfl fun a w F hS=>Zb (wp_ret (Ze ?_))
  have hS:=hS.turn 1 rfl (r':=RS.hp (Zu 3 1 rInt (l.filter fun x=>!p x) v)) (fun _ _ _ _ h=>by rw [hg];exact h)
  refine ZaG (h':=fun v=>Zu 3 1 rInt (l.filter fun x=>!p x) v) hG hS rfl (.tmp rfl .nil) (.one .one) rfl
 obtain ⟨i0,hi0,hi1,hip,hib⟩:=(Zaq p l).resolve_left (by rintro ⟨h1,_⟩;simp [h1] at hc0)
 have hst0:=ZeB hi1 hip hib
 refine wp_skip (Zb (wp_seq (wp_seq ?_)))
 refine Za hS (qM rfl rfl (qp r1 (qN rfl rfl qZ))) hB [6,5,4,1,0] [1,0] rfl rfl fun a w F hS=>Zb (wp_block ?_)
 have hC0:i0<i0+1∧i0+1≤l.length∧l.length=l.length∧l.take i0=(l.take (i0+1)).filter (fun x=>!p x) ∧ ∀ k,i0+1≤k→k<l.length→Go.Gm.nth l k=Go.Gm.nth l k:=⟨by omega,by omega,rfl,hst0,fun k _ _=>rfl⟩
 replace hS:=hS.ent (i:=5) (s':=.pv (.int .i64 (i0:Int))) rfl (.int hi0)
 replace hS:=hS.ent (i:=6) (s':=.pv (.int .i64 ((i0+1:Nat):Int))) rfl (.int (by rw [hi0,ZC (by omega)];omega))
 refine Zr (σ:=Nat×Nat×List Int) [0,1,4] [0] (fun s=>[(5,.pv (.int .i64 (s.1:Int))),(6,.pv (.int .i64 (s.2.1:Int)))]) (fun s=>[(1,.ob (.val v) (Zu 3 1 rInt s.2.2))]) (fun s=>s.1<s.2.1∧s.2.1≤l.length∧s.2.2.length=l.length∧s.2.2.take s.1=(l.take s.2.1).filter (fun x=>!p x) ∧ ∀ k,s.2.1≤k→k<l.length→Go.Gm.nth s.2.2 k=Go.Gm.nth l k) (fun s=>l.length - s.2.1) ((i0),(i0+1),(l)) hS ⟨rfl,rfl,rfl,rfl,rfl,trivial⟩ ⟨rfl,rfl,trivial⟩ hC0 ?_
 clear hS;intro s a w F hC hS
 obtain ⟨i,j,l1⟩:=s
 try dsimp only at hC
 obtain ⟨F,hS⟩:=hS.nm [6,5,4,1,0] [1,0] rfl rfl
 try dsimp only at hS
 obtain ⟨hij,hj,hll1,htk,hrest⟩:=hC
 refine wp_seq (wp_seq ?_)
 refine Za hS (qM rfl rfl (qM rfl rfl (qf (ZT 1 Tryz.underlying39 .is) r1 r1 (qL r2)))) hB [19,6,5,4,1,0] [1,0] rfl rfl fun a w F hS=>Zb ?_
 refine Zd hS rfl (fun hc1=>?_) (fun hc1=>?_)
 ·skip
  have hjl:j<l.length:=by simp at hc1;omega
  have hnj:Go.Gm.nth l1 j=(Go.Gm.nth l j):=hrest j (Nat.le_refl _) hjl
  have hfs:=Zcd (p:=fun x=>!p x) hjl
  refine wp_skip (Zb (wp_seq (wp_block (wp_seq ?_))))
  refine Za hS (qM rfl rfl (qM rfl rfl (qf (o_indexAddr_row (sz:=1) 1 (.mk Tryz.underlying39 (by kernel_rfl)) .is .t (by omega) (by omega) (by rfl)) r2 r1 (qf (Zau (ag:=false) (sz':=1) (sz:=1) 1 .t (by intro x;rfl) (by omega) (by kernel_rfl) (by kernel_rfl) (by kernel_rfl)) r1 r1 (qN rfl rfl qZ))))) hB [7,6,5,4,1,0] [1,0] rfl rfl fun a w F hS=>?_
  try simp only [Int.toNat_natCast] at hS
  rw [hnj] at hS
  refine Zb (wp_seq ?_)
  refine Za hS (qM rfl rfl (qM rfl rfl (qf (ZS (avs:=[.int .i64 (Go.Gm.nth l j)]) .t (hw (Go.Gm.nth l j)) hf hb hnn (Args.one .t)) r2 qz (qf (o_not .t) r1 qz qZ)))) hB [29,7,6,5,4,1,0] [1,0] rfl rfl fun a w F hS=>Zb ?_
  refine Zd hS rfl (fun hc2=>?_) (fun hc2=>?_)
  ·skip
   have hp:p (Go.Gm.nth l j)=false:=by simpa using hc2
   obtain ⟨i2,hi2e⟩:∃ i2,i2=i+1:=⟨_,rfl⟩
   have hi2:IntKind.wrap .i64 ((i:Int)+1)=(i2:Int):=by rw [hi2e];exact wrap_succ (by omega)
   obtain ⟨l2,hl2⟩:∃ l2,l2=l1.set i (Go.Gm.nth l j):=⟨_,rfl⟩
   have hC2:i2<j+1∧j+1≤l.length∧l2.length=l.length∧l2.take i2=(l.take (j+1)).filter (fun x=>!p x) ∧ ∀ k,j+1≤k→k<l.length→Go.Gm.nth l2 k=Go.Gm.nth l k:=⟨by omega,by omega,by rw [hl2,List.length_set];exact hll1,by rw [hl2,hi2e,hfs,hp,← htk,ZE (by rw [List.length_set];omega),List.take_set_of_le (Nat.le_refl _),Zp (by rw [List.length_set];omega),List.getElem_set_self];rfl,fun k hk hk2=>by rw [hl2,Zp (by rw [List.length_set];omega),List.getElem_set_ne (by omega),← Zp (by omega)];exact hrest k (by omega) hk2⟩
   refine wp_seq ?_
   refine Za hS (qM rfl rfl (qM rfl rfl (qM rfl rfl (qf (o_indexAddr_row (sz:=1) 1 (.mk Tryz.underlying39 (by kernel_rfl)) .is .t (by omega) (by omega) (by rfl)) r2 r1 (qf (ZaV (R:=rInt) (sz:=1) (v:=(Go.Gm.nth l j)) 1 .t (by intro x;rfl) (by omega) .t rfl one_int (by kernel_rfl)) r2 r1 qZ))))) hB [6,5,4,1,0] [1,0] rfl rfl fun a w F hS=>?_
   try simp only [Int.toNat_natCast] at hS
   rw [← hl2] at hS
   refine Zb ?_
   refine Za hS (qM rfl rfl (qp r1 (qN rfl rfl qZ))) hB [6,5,4,1,0] [1,0] rfl rfl fun a w F hS=>Zh (Zb ?_)
   refine Za hS (qM rfl rfl (qp r1 (qN rfl rfl qZ))) hB [6,5,4,1,0] [1,0] rfl rfl fun a w F hS=>Zb ?_
   have hmu:l.length - (j+1)<l.length - j:=by omega
   replace hS:=hS.ent (i:=5) (s':=.pv (.int .i64 (i2:Int))) rfl (.int hi2)
   replace hS:=hS.ent (i:=6) (s':=.pv (.int .i64 ((j+1:Nat):Int))) rfl (.int (wrap_succ (by omega)))
   obtain ⟨F,hS⟩:=hS.nm [4,1,0,6,5] [0,1] rfl rfl
   exact ⟨((i2),(j+1),(l2)),F,hC2,hS,hmu⟩
  have hp:p (Go.Gm.nth l j)=true:=by simpa using hc2
  obtain ⟨i2,hi2e⟩:∃ i2,i2=i:=⟨_,rfl⟩
  have hi2:(i:Int)=(i2:Int):=by rw [hi2e]
  obtain ⟨l2,hl2⟩:∃ l2,l2=l1:=⟨_,rfl⟩
  rw [← hl2] at hS
  have hC2:i2<j+1∧j+1≤l.length∧l2.length=l.length∧l2.take i2=(l.take (j+1)).filter (fun x=>!p x) ∧ ∀ k,j+1≤k→k<l.length→Go.Gm.nth l2 k=Go.Gm.nth l k:=⟨by omega,by omega,by rw [hl2];exact hll1,by rw [hl2,hi2e,hfs,hp,htk];simp,fun k hk hk2=>by rw [hl2];exact hrest k (by omega) hk2⟩
  refine wp_skip (Zh (Zb ?_))
  refine Za hS (qM rfl rfl (qp r1 (qN rfl rfl qZ))) hB [6,5,4,1,0] [1,0] rfl rfl fun a w F hS=>Zb ?_
  have hmu:l.length - (j+1)<l.length - j:=by omega
  replace hS:=hS.ent (i:=5) (s':=.pv (.int .i64 (i2:Int))) rfl (.int hi2)
  replace hS:=hS.ent (i:=6) (s':=.pv (.int .i64 ((j+1:Nat):Int))) rfl (.int (wrap_succ (by omega)))
  obtain ⟨F,hS⟩:=hS.nm [4,1,0,6,5] [0,1] rfl rfl
  exact ⟨((i2),(j+1),(l2)),F,hC2,hS,hmu⟩
 have hjl:j=l.length:=by simp at hc1;omega
 have hil2:i<l.length:=by omega
 have hg:(l.filter fun x=>!p x)=(l1.take i++List.replicate (l1.length - i) (0:Int)).take i:=by rw [List.take_append_of_le_length (by rw [List.length_take];omega),List.take_take,Nat.min_self,htk,hjl,List.take_length]
 refine wp_exit (Zi (Zi (Zo (Zb (wp_seq ?_)))))
 refine Za hS (qM rfl rfl (qM rfl rfl (qf (ZaJ (sz:=1) 1 (.mk Tryz.underlying39 (by kernel_rfl)) .is .t (by omega) (by omega)) r2 r1 (qf (Zcn (R:=rInt) (z:=(0:Int)) (zs:=[.int .i64 0]) 1 Tryz.underlying39 (by kernel_rfl) rfl rfl (fun _ _=>⟨⟨rfl,rfl,ZjD⟩,trivial⟩) (by intro x;rfl) .t (by simp;omega)) r1 r1 qZ)))) hB [5,4,0] [1,0] rfl rfl fun a w F hS=>Zb (wp_seq ?_)
 refine Zc hS (qM rfl rfl (qM rfl rfl (qf (ZbL (sz:=1) 1 (.mk Tryz.underlying39 (by kernel_rfl)) (by intro x;rfl) .is .t (by omega) (by simp;omega)) r2 r1 (qN rfl rfl qZ)))) hB [4] [1,0] (fun _=>rfl) (fun _=>rfl) fun τ a w F hS=>?_
 try dsimp only [RS.sub,SF.sub,CF.sub,csub,Anc.sub,List.map,rInt] at hS
 generalize τ 41=v41 at hS
 refine Zb (wp_ret ?_)
 have hS:=hS.turn 1 rfl (r':=RS.hp (Zu 3 1 rInt (l.filter fun x=>!p x) v41)) (fun _ _ _ _ h=>by rw [hg];exact h)
 refine ZaG (h':=fun v=>Zu 3 1 rInt (l.filter fun x=>!p x) v) hG hS rfl (.tmp rfl .nil) (.one .one) rfl
def ZD {α:Type} [DecidableEq α]:List α→List α
 | []=>[]
 | [x]=>[x]
 | x :: y :: l=>if x=y then ZD (y :: l) else x :: ZD (y :: l)
theorem Zcs {α:Type} [DecidableEq α] (a b:α):∀ l:List α,ZD (l ++ [a,b])=if a=b then ZD (l ++ [a]) else ZD (l ++ [a]) ++ [b]
 | []=>by
   show (if a=b then [b] else a :: [b])=if a=b then [a] else [a] ++ [b]
   split
   · rename_i h;rw [h]
   · rfl
 | [x]=>by
   have ih:=Zcs a b []
   show (if x=a then ZD ([] ++ [a,b]) else x :: ZD ([] ++ [a,b]))=if a=b then (if x=a then ZD ([] ++ [a]) else x :: ZD ([] ++ [a])) else (if x=a then ZD ([] ++ [a]) else x :: ZD ([] ++ [a])) ++ [b]
   rw [ih]
   by_cases h1:x=a <;> by_cases h2:a=b <;> simp [h1,h2]
 | x :: y :: l=>by
   have ih:=Zcs a b (y :: l)
   show (if x=y then ZD (y :: l ++ [a,b]) else x :: ZD (y :: l ++ [a,b]))=if a=b then (if x=y then ZD (y :: l ++ [a]) else x :: ZD (y :: l ++ [a])) else (if x=y then ZD (y :: l ++ [a]) else x :: ZD (y :: l ++ [a])) ++ [b]
   rw [ih]
   by_cases h1:x=y <;> by_cases h2:a=b <;> simp [h1,h2]
theorem Zes {α:Type} [DecidableEq α] [Inhabited α] {l:List α} {p:Nat} (h1:1≤p) (h2:p<l.length):ZD (l.take (p+1))=if Go.Gm.nth l (p - 1)=Go.Gm.nth l p then ZD (l.take p) else ZD (l.take p) ++ [Go.Gm.nth l p]:=by
 obtain ⟨q,rfl⟩:∃ q,p=q+1:=⟨p - 1,by omega⟩
 rw [ZE h2,ZE (show q<l.length by omega),List.append_assoc]
 exact Zcs _ _ _
theorem Ze7 {α:Type} [DecidableEq α]:∀ {l:List α},l.length≤1→ZD l=l
 | [],_=>rfl
 | [x],_=>rfl
 | x :: y :: l,h=>by simp at h
theorem Zq7 (v:Value) (l:List Int) (hll:l.length≤1000000):FnG Tryz.prog 138 1 [.is v] [Zu 3 1 rInt l v] (PV.one) (fun v=>[Zu 3 1 rInt (ZD l) v]):=by
 refine FnG.mk Tryz.func138 rfl Tryz.ntmps138 rfl (by kernel_rfl) ?_
 intro B F0 a w F hB hG hS
 replace hS:=hS.turn 1 rfl (r':=.ob (.val v) (Zu 3 1 rInt l)) (fun _ _ _ _ h=>h)
 refine wp_seq ?_
 refine Za hS (qC qZ) hB [2,0] [1,0] rfl rfl fun a w F hS=>Zb (wp_seq (wp_seq ?_))
 refine Za hS (qM rfl rfl (qf (ZT 1 Tryz.underlying39 .is) r1 r1 (qf (Zbq .t qi) r1 qz qZ))) hB [8,2,0] [1,0] rfl rfl fun a w F hS=>Zb ?_
 refine Zd hS rfl (fun hc0=>?_) (fun hc0=>?_)
 ·skip
  have hg:(ZD l)=l:=Ze7 (by simp at hc0;omega)
  refine wp_seq ?_
  refine Za hS (qM rfl rfl (qN rfl rfl qZ)) hB [2,0] [1,0] rfl rfl fun a w F hS=>Zb (wp_ret (Ze ?_))
  have hS:=hS.turn 1 rfl (r':=RS.hp (Zu 3 1 rInt (ZD l) v)) (fun _ _ _ _ h=>by rw [hg];exact h)
  refine ZaG (h':=fun v=>Zu 3 1 rInt (ZD l) v) hG hS rfl (.tmp rfl .nil) (.one .one) rfl
 have hl2:2≤l.length:=by simp at hc0;omega
 refine wp_skip (Zb (wp_seq (wp_seq ?_)))
 refine Za hS (qI qZ) hB [3,2,0] [1,0] rfl rfl fun a w F hS=>Zb (wp_block ?_)
 refine Zr (σ:=Nat) [0,2] [0,1] (fun s=>[(3,.pv (.int .i64 (s:Int)))]) (fun s=>[]) (fun s=>1≤s∧s≤l.length∧ZD (l.take s)=l.take s) (fun s=>l.length - s) (1) hS ⟨rfl,rfl,rfl,trivial⟩ ⟨rfl,rfl,trivial⟩ ⟨by omega,by omega,Ze7 (by rw [List.length_take];omega)⟩ ?_
 clear hS;intro k a w F hC hS
 try dsimp only at hC
 obtain ⟨F,hS⟩:=hS.nm [3,2,0] [1,0] rfl rfl
 try dsimp only at hS
 obtain ⟨hk1,hkl,hkc⟩:=hC
 have hkw:IntKind.wrap .i64 ((k:Int) - 1)=(k:Int) - 1:=ZC (by omega)
 refine wp_seq (wp_seq ?_)
 refine Za hS (qM rfl rfl (qM rfl rfl (qf (ZT 1 Tryz.underlying39 .is) r1 r1 (qL r2)))) hB [13,3,2,0] [1,0] rfl rfl fun a w F hS=>Zb ?_
 refine Zd hS rfl (fun hc1=>?_) (fun hc1=>?_)
 ·skip
  have hil:k<l.length:=by simp at hc1;omega
  have hst:=Zes (l:=l) hk1 hil
  have hy0:(IntKind.wrap .i64 ((k:Int) - 1)).toNat=k - 1:=by rw [hkw];omega
  refine wp_skip (Zb (wp_seq (wp_block (wp_seq ?_))))
  refine Zz hS (qM rfl rfl (qM rfl rfl (qf (o_indexAddr_row (sz:=1) 1 (.mk Tryz.underlying39 (by kernel_rfl)) .is .t (by omega) (by omega) (by rfl)) r2 r1 (qf (Zau (ag:=false) (sz':=1) (sz:=1) 1 .t (by intro x;rfl) (by omega) (by kernel_rfl) (by kernel_rfl) (by kernel_rfl)) r1 r1 (qM rfl rfl (qM rfl rfl (qf (o_sub .t qi) r1 qz (qf (o_indexAddr_row (sz:=1) 1 (.mk Tryz.underlying39 (by kernel_rfl)) .is .t (by rw [hkw];omega) (by rw [hkw];omega) (by rfl)) r2 r1 (qf (Zau (ag:=false) (sz':=1) (sz:=1) 1 .t (by intro x;rfl) (by rw [hkw];omega) (by kernel_rfl) (by kernel_rfl) (by kernel_rfl)) r1 r1 (qf (o_eql .t .t) r2 qz qZ)))))))))) hB [25,3,2,0] [1,0] rfl rfl fun a w F hS=>?_
  try dsimp only [List.map,xD,xE,xT,xU,ldSF,rInt] at hS
  try simp only [Int.toNat_natCast] at hS
  refine Zb ?_
  refine Zd hS rfl (fun hc2=>?_) (fun hc2=>?_)
  ·skip
   have heq:Go.Gm.nth l (k - 1)=Go.Gm.nth l k:=by rw [hy0] at hc2;simp at hc2;exact hc2.symm
   rw [if_pos heq,hkc] at hst
   have hst0:=hst.symm
   refine wp_seq ?_
   refine Za hS (qM rfl rfl (qM rfl rfl (qf (ZaJ (sz:=1) 1 (.mk Tryz.underlying39 (by kernel_rfl)) .is .t (by omega) (by omega)) r2 r1 (qN rfl rfl qZ)))) hB [4,3,2,0] [1,0] rfl rfl fun a w F hS=>Zb (wp_seq (wp_seq ?_))
   refine Za hS (qI qZ) hB [5,4,3,2,0] [1,0] rfl rfl fun a w F hS=>Zb (wp_block ?_)
   have hC0:1≤1∧1≤l.length - k∧k≤k∧k≤k+1 - 1∧l.length=l.length∧l.take k=ZD (l.take (k+1)) ∧ ∀ q,k+1 - 1≤q→q<l.length→Go.Gm.nth l q=Go.Gm.nth l q:=⟨by omega,by omega,by omega,by omega,rfl,hst0,fun q _ _=>rfl⟩
   refine Zr (σ:=Nat×Nat×List Int) [0,2,4] [0] (fun s=>[(3,.pv (.int .i64 (s.1:Int))),(5,.pv (.int .i64 (s.2.1:Int)))]) (fun s=>[(1,.ob (.val v) (Zu 3 1 rInt s.2.2))]) (fun s=>1≤s.2.1∧s.2.1≤l.length - k∧k≤s.1∧s.1≤k+s.2.1 - 1∧s.2.2.length=l.length∧s.2.2.take s.1=ZD (l.take (k+s.2.1)) ∧ ∀ q,k+s.2.1 - 1≤q→q<l.length→Go.Gm.nth s.2.2 q=Go.Gm.nth l q) (fun s=>l.length - s.2.1) ((k),(1),(l)) hS ⟨rfl,rfl,rfl,rfl,rfl,trivial⟩ ⟨rfl,rfl,trivial⟩ hC0 ?_
   clear hS;intro s a w F hC hS
   obtain ⟨k1,j,l1⟩:=s
   try dsimp only at hC
   obtain ⟨F,hS⟩:=hS.nm [5,4,3,2,0] [1,0] rfl rfl
   try dsimp only at hS
   obtain ⟨hj1,hjk,hkk,hkj,hl1,htk,hrest⟩:=hC
   have hjw:IntKind.wrap .i64 ((j:Int) - 1)=(j:Int) - 1:=ZC (by omega)
   refine wp_seq (wp_seq ?_)
   refine Za hS (qM rfl rfl (qM rfl rfl (qf (Zom 1 Tryz.underlying39 .t (by omega)) r1 r1 (qL r2)))) hB [32,5,4,3,2,0] [1,0] rfl rfl fun a w F hS=>Zb ?_
   refine Zd hS rfl (fun hc3=>?_) (fun hc3=>?_)
   ·skip
    have hjl:k+j<l.length:=by simp at hc3;omega
    have hx1:(Go.Gm.nth l1 (((k:Int)).toNat+((j:Int)).toNat))=Go.Gm.nth l (k+j):=by rw [Int.toNat_natCast,Int.toNat_natCast];exact hrest _ (by omega) hjl
    have hx0:Go.Gm.nth l1 (((k:Int)).toNat+(IntKind.wrap .i64 ((j:Int) - 1)).toNat)=Go.Gm.nth l (k+j - 1):=by rw [hjw,show ((k:Int)).toNat+((j:Int) - 1).toNat=k+j - 1 by omega];exact hrest _ (by omega) (by omega)
    have hstp:=Zes (l:=l) (p:=k+j) (by omega) hjl
    refine wp_skip (Zb (wp_seq (wp_block (wp_seq ?_))))
    refine Zz hS (qM rfl rfl (qM rfl rfl (qf (o_indexAddr_sub (sz:=1) 1 (.mk Tryz.underlying39 (by kernel_rfl)) .t .t (by omega) (by omega) (by rfl)) r2 r1 (qf (Zau (ag:=false) (sz':=1) (sz:=1) 1 .t (by intro x;rfl) (by omega) (by kernel_rfl) (by kernel_rfl) (by kernel_rfl)) r1 r1 (qM rfl rfl (qM rfl rfl (qf (o_sub .t qi) r1 qz (qf (o_indexAddr_sub (sz:=1) 1 (.mk Tryz.underlying39 (by kernel_rfl)) .t .t (by rw [hjw];omega) (by rw [hjw];omega) (by rfl)) r2 r1 (qf (Zau (ag:=false) (sz':=1) (sz:=1) 1 .t (by intro x;rfl) (by rw [hjw];omega) (by kernel_rfl) (by kernel_rfl) (by kernel_rfl)) r1 r1 (qf (o_neq .t .t) r2 qz qZ)))))))))) hB [44,5,4,3,2,0] [1,0] rfl rfl fun a w F hS=>?_
    try dsimp only [List.map,xD,xE,xT,xU,ldSF,rInt] at hS
    try simp only [Int.toNat_natCast] at hS
    refine Zb ?_
    refine Zd hS rfl (fun hc4=>?_) (fun hc4=>?_)
    ·skip
     have hne:¬ Go.Gm.nth l (k+j - 1)=Go.Gm.nth l (k+j):=by rw [← hx1,← hx0];simp at hc4 ⊢;exact fun e=>hc4 e.symm
     rw [if_neg hne] at hstp
     obtain ⟨i2,hi2e⟩:∃ i2,i2=k1+1:=⟨_,rfl⟩
     have hi2:IntKind.wrap .i64 ((k1:Int)+1)=(i2:Int):=by rw [hi2e];exact wrap_succ (by omega)
     obtain ⟨l2,hl2e⟩:∃ l2,l2=l1.set k1 (Go.Gm.nth l1 (k+j)):=⟨_,rfl⟩
     have hx1b:Go.Gm.nth l1 (k+j)=Go.Gm.nth l (k+j):=hrest _ (by omega) hjl
     have hC2:1≤j+1∧j+1≤l.length - k∧k≤i2∧i2≤k+(j+1) - 1∧l2.length=l.length∧l2.take i2=ZD (l.take (k+(j+1))) ∧ ∀ q,k+(j+1) - 1≤q→q<l.length→Go.Gm.nth l2 q=Go.Gm.nth l q:=⟨by omega,by omega,by omega,by omega,by rw [hl2e,List.length_set];exact hl1,by rw [hl2e,hi2e,ZE (by rw [List.length_set];omega),List.take_set_of_le (Nat.le_refl _),htk,Zp (by rw [List.length_set];omega),List.getElem_set_self,hx1b];exact hstp.symm,fun q hq hq2=>by rw [hl2e,Zp (by rw [List.length_set];omega),List.getElem_set_ne (by omega),← Zp (by omega)];exact hrest q (by omega) hq2⟩
     refine wp_seq ?_
     refine Za hS (qM rfl rfl (qM rfl rfl (qM rfl rfl (qM rfl rfl (qf (o_indexAddr_sub (sz:=1) 1 (.mk Tryz.underlying39 (by kernel_rfl)) .t .t (by omega) (by omega) (by rfl)) r2 r1 (qf (Zau (ag:=false) (sz':=1) (sz:=1) 1 .t (by intro x;rfl) (by omega) (by kernel_rfl) (by kernel_rfl) (by kernel_rfl)) r1 r1 (qf (o_indexAddr_row (sz:=1) 1 (.mk Tryz.underlying39 (by kernel_rfl)) .is .t (by omega) (by omega) (by rfl)) r2 r1 (qf (ZaV (R:=rInt) (sz:=1) (v:=(Go.Gm.nth l1 (((k:Int)).toNat+((j:Int)).toNat))) 1 .t (by intro x;rfl) (by omega) .t rfl one_int (by kernel_rfl)) r2 r1 qZ)))))))) hB [5,4,3,2,0] [1,0] rfl rfl fun a w F hS=>?_
     try simp only [Int.toNat_natCast] at hS
     rw [← hl2e] at hS
     refine Zb ?_
     refine Za hS (qM rfl rfl (qp r1 (qN rfl rfl qZ))) hB [5,4,3,2,0] [1,0] rfl rfl fun a w F hS=>Zh (Zb ?_)
     refine Za hS (qM rfl rfl (qp r1 (qN rfl rfl qZ))) hB [5,4,3,2,0] [1,0] rfl rfl fun a w F hS=>Zb ?_
     have hmu:l.length - (j+1)<l.length - j:=by omega
     replace hS:=hS.ent (i:=3) (s':=.pv (.int .i64 (i2:Int))) rfl (.int hi2)
     replace hS:=hS.ent (i:=5) (s':=.pv (.int .i64 ((j+1:Nat):Int))) rfl (.int (wrap_succ (by omega)))
     obtain ⟨F,hS⟩:=hS.nm [4,2,0,5,3] [0,1] rfl rfl
     exact ⟨((i2),(j+1),(l2)),F,hC2,hS,hmu⟩
    have heq2:Go.Gm.nth l (k+j - 1)=Go.Gm.nth l (k+j):=by rw [← hx1,← hx0];simp at hc4 ⊢;exact hc4.symm
    rw [if_pos heq2] at hstp
    obtain ⟨i2,hi2e⟩:∃ i2,i2=k1:=⟨_,rfl⟩
    have hi2:(k1:Int)=(i2:Int):=by rw [hi2e]
    obtain ⟨l2,hl2e⟩:∃ l2,l2=l1:=⟨_,rfl⟩
    rw [← hl2e] at hS
    have hC2:1≤j+1∧j+1≤l.length - k∧k≤i2∧i2≤k+(j+1) - 1∧l2.length=l.length∧l2.take i2=ZD (l.take (k+(j+1))) ∧ ∀ q,k+(j+1) - 1≤q→q<l.length→Go.Gm.nth l2 q=Go.Gm.nth l q:=⟨by omega,by omega,by omega,by omega,by rw [hl2e];exact hl1,by rw [hl2e,hi2e,htk];exact hstp.symm,fun q hq hq2=>by rw [hl2e];exact hrest q (by omega) hq2⟩
    refine wp_skip (Zh (Zb ?_))
    refine Za hS (qM rfl rfl (qp r1 (qN rfl rfl qZ))) hB [5,4,3,2,0] [1,0] rfl rfl fun a w F hS=>Zb ?_
    have hmu:l.length - (j+1)<l.length - j:=by omega
    replace hS:=hS.ent (i:=3) (s':=.pv (.int .i64 (i2:Int))) rfl (.int hi2)
    replace hS:=hS.ent (i:=5) (s':=.pv (.int .i64 ((j+1:Nat):Int))) rfl (.int (wrap_succ (by omega)))
    obtain ⟨F,hS⟩:=hS.nm [4,2,0,5,3] [0,1] rfl rfl
    exact ⟨((i2),(j+1),(l2)),F,hC2,hS,hmu⟩
   have hjl:k+j=l.length:=by simp at hc3;omega
   have hg:(ZD l)=(l1.take k1++List.replicate (l1.length - k1) (0:Int)).take k1:=by rw [List.take_append_of_le_length (by rw [List.length_take];omega),List.take_take,Nat.min_self,htk,hjl,List.take_length]
   refine wp_exit (Zi (Zi (Zo (Zb (wp_seq ?_)))))
   refine Za hS (qM rfl rfl (qM rfl rfl (qf (ZaJ (sz:=1) 1 (.mk Tryz.underlying39 (by kernel_rfl)) .is .t (by omega) (by omega)) r2 r1 (qf (Zcn (R:=rInt) (z:=(0:Int)) (zs:=[.int .i64 0]) 1 Tryz.underlying39 (by kernel_rfl) rfl rfl (fun _ _=>⟨⟨rfl,rfl,ZjD⟩,trivial⟩) (by intro x;rfl) .t (by simp;omega)) r1 r1 qZ)))) hB [3,2,0] [1,0] rfl rfl fun a w F hS=>Zb (wp_seq ?_)
   refine Zc hS (qM rfl rfl (qM rfl rfl (qf (ZbL (sz:=1) 1 (.mk Tryz.underlying39 (by kernel_rfl)) (by intro x;rfl) .is .t (by omega) (by simp;omega)) r2 r1 (qN rfl rfl qZ)))) hB [3,2,0] [1,0] (fun _=>rfl) (fun _=>rfl) fun τ a w F hS=>?_
   try dsimp only [RS.sub,SF.sub,CF.sub,csub,Anc.sub,List.map,rInt] at hS
   generalize τ 59=v59 at hS
   refine Zb (wp_ret (Zg (Ze (Ze (Zg (Ze ?_))))))
   have hS:=hS.turn 1 rfl (r':=RS.hp (Zu 3 1 rInt (ZD l) v59)) (fun _ _ _ _ h=>by rw [hg];exact h)
   refine ZaG (h':=fun v=>Zu 3 1 rInt (ZD l) v) hG hS rfl (.tmp rfl .nil) (.one .one) rfl
  have hne:¬ Go.Gm.nth l (k - 1)=Go.Gm.nth l k:=by rw [hy0] at hc2;simp at hc2;exact fun e=>hc2 e.symm
  rw [if_neg hne] at hst
  refine wp_skip (Zh (Zb ?_))
  refine Za hS (qM rfl rfl (qp r1 (qN rfl rfl qZ))) hB [3,2,0] [1,0] rfl rfl fun a w F hS=>Zb ?_
  replace hS:=hS.ent (i:=3) (s':=.pv (.int .i64 ((k+1:Nat):Int))) rfl (.int (wrap_succ (by omega)))
  obtain ⟨F,hS⟩:=hS.nm [2,0,3] [1,0] rfl rfl
  exact ⟨(k+1),F,⟨by omega,by omega,by rw [hst,hkc,← ZE hil]⟩,hS,by omega⟩
 have hg:(ZD l)=l:=by rw [show k=l.length by simp at hc1;omega,List.take_length] at hkc;exact hkc
 refine wp_exit (Zi (Zi (Zo (Zb (wp_seq ?_)))))
 refine Za hS (qM rfl rfl (qN rfl rfl qZ)) hB [2] [1,0] rfl rfl fun a w F hS=>Zb (wp_ret ?_)
 have hS:=hS.turn 1 rfl (r':=RS.hp (Zu 3 1 rInt (ZD l) v)) (fun _ _ _ _ h=>by rw [hg];exact h)
 refine ZaG (h':=fun v=>Zu 3 1 rInt (ZD l) v) hG hS rfl (.tmp rfl .nil) (.one .one) rfl
def Zdp (n:Int):List Int→Bool→List Int
 | [],d=>if d then [] else [n]
 | x :: l,d=>(if d=false∧n≤x then [n] else [])++(if x=n then [] else [x])++Zdp n l (d || decide (n≤x))
def ZlW (l:List Int) (n:Int):List Int:=Zdp n l false
abbrev Ze0 (l:List Int):Prop:=l.Pairwise fun a b=>a<b
theorem ZeK {n:Int} : ∀ {l:List Int},(∀ x ∈ l,n<x)→Zdp n l true=l
 | [],_=>rfl
 | x :: l,h=>by
   have:=h x (by simp)
   rw [Zdp,Bool.true_or,ZeK fun y hy=>h y (by simp [hy]),if_neg (by simp),if_neg (by omega)]
   rfl
theorem Zla {n:Int} : ∀ {l:List Int},Ze0 l→Ze0 (ZlW l n) ∧ ∀ x,x ∈ ZlW l n ↔ x ∈ l∨x=n
 | [],_=>by simp [ZlW,Zdp]
 | y :: l,h=>by
   have h':=List.pairwise_cons.1 h
   unfold ZlW
   by_cases h1:y<n
   · have e:Zdp n (y :: l) false=y :: Zdp n l false:=by
       rw [Zdp,if_neg (by omega),if_neg (by omega),show (false || decide (n≤y))=false by simp;omega];rfl
     have ih:=Zla (n:=n) h'.2
     rw [e]
     refine ⟨List.pairwise_cons.2 ⟨fun p hp=>?_,ih.1⟩,fun x=>?_⟩
     · rcases (ih.2 p).1 hp with hp | rfl
       · exact h'.1 p hp
       · exact h1
     · have:=ih.2 x
       unfold ZlW at this
       simp only [List.mem_cons,this]
       constructor
       · rintro (h | h | h)
         · exact .inl (.inl h)
         · exact .inl (.inr h)
         · exact .inr h
       · rintro ((h | h) | h)
         · exact .inl h
         · exact .inr (.inl h)
         · exact .inr (.inr h)
   · by_cases h2:y=n
     · subst h2
       rw [Zdp,if_pos ⟨rfl,Int.le_refl _⟩,if_pos rfl,show (false || decide (y≤y))=true by simp,ZeK h'.1]
       exact ⟨h,fun x=>by simp;intro e;exact .inl e⟩
     · rw [Zdp,if_pos ⟨rfl,by omega⟩,if_neg h2,show (false || decide (n≤y))=true by simp;omega,ZeK fun x hx=>by have:=h'.1 x hx;omega]
       refine ⟨List.pairwise_cons.2 ⟨fun p hp=>?_,h⟩,fun x=>by simp;constructor <;> (rintro (h | h | h) <;> simp [h])⟩
       rcases List.mem_cons.1 hp with rfl | hp
       · omega
       · have:=h'.1 p hp;omega
def ZeG (l:List Int):List Int:=l.foldl ZlW []
theorem Zbm (l:List Int):Ze0 (ZeG l) ∧ ∀ x,x ∈ ZeG l ↔ x ∈ l:=by
 have key:∀ (l acc:List Int),Ze0 acc→Ze0 (l.foldl ZlW acc) ∧ ∀ x,x ∈ l.foldl ZlW acc ↔ x ∈ acc∨x ∈ l:=by
   intro l
   induction l with
   | nil=>intro acc h;exact ⟨h,fun x=>by simp⟩
   | cons y l ih=>
     intro acc h
     have h1:=Zla (n:=y) h
     have h2:=ih (ZlW acc y) h1.1
     refine ⟨h2.1,fun x=>?_⟩
     rw [List.foldl_cons,h2.2 x,h1.2 x,List.mem_cons]
     constructor
     · rintro ((h | h) | h)
       · exact .inl h
       · exact .inr (.inl h)
       · exact .inr (.inr h)
     · rintro (h | h | h)
       · exact .inl (.inl h)
       · exact .inl (.inr h)
       · exact .inr h
 have:=key l [] List.Pairwise.nil
 exact ⟨this.1,fun x=>by rw [show ZeG l=l.foldl ZlW [] from rfl,this.2 x];simp⟩
theorem ZeL:∀ {a b:List Int},Ze0 a→Ze0 b→(∀ x,x ∈ a ↔ x ∈ b)→a=b
 | [],[],_,_,_=>rfl
 | [],y :: b,_,_,h=>by have:=(h y).2 (by simp);cases this
 | x :: a,[],_,_,h=>by have:=(h x).1 (by simp);cases this
 | x :: a,y :: b,ha,hb,h=>by
   have ha':=List.pairwise_cons.1 ha
   have hb':=List.pairwise_cons.1 hb
   have e:x=y:=by
     rcases List.mem_cons.1 ((h x).1 (by simp)) with e | e
     · exact e
     · rcases List.mem_cons.1 ((h y).2 (by simp)) with e2 | e2
       · exact e2.symm
       · have:=hb'.1 x e;have:=ha'.1 y e2;omega
   subst e
   congr 1
   refine ZeL ha'.2 hb'.2 fun z=>⟨fun hz=>?_,fun hz=>?_⟩
   · rcases List.mem_cons.1 ((h z).1 (by simp [hz])) with e | e
     · have:=ha'.1 z hz;omega
     · exact e
   · rcases List.mem_cons.1 ((h z).2 (by simp [hz])) with e | e
     · have:=hb'.1 z hz;omega
     · exact e
def ZaK:List Int→List Int
 | []=>[]
 | x :: l=>match ZaK l with
   | []=>[x]
   | y :: m=>if x=y then y :: m else x :: y :: m
theorem Zd9:∀ (x:Int) (l:List Int),∃ m,ZaK (x :: l)=x :: m
 | x,[]=>⟨[],rfl⟩
 | x,y :: l=>by
   obtain ⟨m,hm⟩:=Zd9 y l
   unfold ZaK
   rw [hm]
   by_cases h:x=y
   · subst h;exact ⟨m,if_pos rfl⟩
   · exact ⟨y :: m,if_neg h⟩
theorem Zew (x y:Int) (l:List Int):ZaK (x :: y :: l)=if x=y then ZaK (y :: l) else x :: ZaK (y :: l):=by
 obtain ⟨m,hm⟩:=Zd9 y l
 conv=>lhs;unfold ZaK
 rw [hm]
theorem Zc3:∀ {l:List Int},l.Pairwise (fun a b=>a≤b)→Ze0 (ZaK l) ∧ ∀ x,x ∈ ZaK l ↔ x ∈ l
 | [],_=>by simp [ZaK]
 | [x],_=>by simp [ZaK]
 | x :: y :: l,h=>by
   have h':=List.pairwise_cons.1 h
   have ih:=Zc3 h'.2
   rw [Zew]
   split
   · rename_i e
     subst e
     exact ⟨ih.1,fun z=>by rw [ih.2 z];simp⟩
   · rename_i e
     refine ⟨List.pairwise_cons.2 ⟨fun z hz=>?_,ih.1⟩,fun z=>by rw [List.mem_cons,ih.2 z,← List.mem_cons]⟩
     have h1:=h'.1 y (by simp)
     rcases List.mem_cons.1 ((ih.2 z).1 hz) with rfl | hz2
     · omega
     · have:=(List.pairwise_cons.1 h'.2).1 z hz2
       omega
theorem Znq (l:List Int):List.Pairwise (fun x y=>x≤y) (l.mergeSort leI):=by
 have:=List.pairwise_mergeSort (le:=leI) (fun a b c h1 h2=>by simp [leI] at *;omega) (fun a b=>by simp [leI];omega) l
 exact this.imp fun h=>by simpa [leI] using h
theorem ZjZ (l:List Int):ZaK (l.mergeSort leI)=ZeG l:=
 ZeL (Zc3 (Znq l)).1 (Zbm l).1 fun x=>by rw [(Zc3 (Znq l)).2,(Zbm l).2];exact (List.mergeSort_perm l leI).mem_iff
theorem Zha:∀ l:List Int,ZD l=ZaK l
 | []=>rfl
 | [x]=>rfl
 | x :: y :: l=>by
   rw [Zew,← Zha (y :: l)];rfl
theorem ZjB {n:Int} : ∀ (l:List Int) (d:Bool),(Zdp n l d).length≤l.length+1
 | [],d=>by cases d <;> simp [Zdp]
 | x :: l,d=>by
   have h1:=ZjB (n:=n) l (d || decide (n≤x))
   have h2:∀ l:List Int,(Zdp n l true).length≤l.length:=fun l=>by
     induction l with
     | nil=>simp [Zdp]
     | cons y l ih=>
       rw [Zdp,if_neg (by simp),List.length_append,List.length_append,Bool.true_or]
       split <;> simp <;> omega
   rw [Zdp,List.length_append,List.length_append]
   have h3:=h2 l
   by_cases hA:d=false∧n≤x
   · rw [show (d || decide (n≤x))=true by simp [hA.2],if_pos hA]
     split <;> simp <;> omega
   · rw [if_neg hA]
     split <;> simp <;> omega
structure OpD where
 read:Bool
 key:Int
 tx:Int
 nth:Int
 deriving DecidableEq,Inhabited
structure TxD where
 id:Int
 done:Bool
 ops:List OpD
 deriving DecidableEq,Inhabited
structure OrdD where
 key:Int
 txs:List Int
 deriving DecidableEq,Inhabited
structure Zj where
 txs:List TxD
 orders:List OrdD
 deriving DecidableEq,Inhabited
structure ZlF where
 was:List TxD
 now:List TxD
 old:List OrdD
 new:List OrdD
 deriving DecidableEq,Inhabited
def rOp (o:OpD):List PV:=[.bool o.read,.int .i64 o.key,.int .i64 o.tx,.int .i64 o.nth]
def rTx (t:TxD):List PV:=[.int .i64 t.id,.bool t.done,.sl rOp t.ops]
def Zx (o:OrdD):List PV:=[.int .i64 o.key,.sl rInt o.txs]
def Zn (h:Zj):List PV:=[.sl rTx h.txs,.sl Zx h.orders]
theorem ZqF {u v:OpD} (h:(!((u.read == v.read) && (decide (u.key=v.key) && (decide (u.tx=v.tx) && (decide (u.nth=v.nth) && true)))))=false):u=v:=by
 cases u;cases v
 simp at h
 simp [h]
theorem ZmJ (x y:List Int):FnP Tryz.prog 21 [.sl rInt x,.sl rInt y] (.bool (decide (x=y))):=by
 refine FnP.mk Tryz.func21 rfl Tryz.ntmps21 rfl ?_
 intro B a w F hB hfr hS
 have hxl:=Sat.lenSl hS (i:=0) rfl
 refine wp_seq ?_
 refine Za hS qB hB [4,1,0] [0] rfl rfl fun a w F hS=>Zb (wp_seq (wp_seq ?_))
 refine Za hS (qM rfl rfl (qu Tryz.underlying39 r1 (qM rfl rfl (qu Tryz.underlying39 r1 (qf (o_neq .t .t) r2 qz qZ))))) hB [10,4,1,0] [0] rfl rfl fun a w F hS=>Zb ?_
 refine Zd hS rfl (fun hc0=>?_) (fun hc0=>?_)
 ·skip
  have hg:false=decide (x=y):=by
    rw [eq_comm,decide_eq_false_iff_not]
    intro h
    subst h
    simp at hc0
  refine wp_seq ?_
  refine Za hS qB hB [4,1,0] [0] rfl rfl fun a w F hS=>Zb (wp_ret (Ze ?_))
  refine Zq hfr hS rfl rfl rfl (.bool hg)
 have hl:x.length=y.length:=by simp at hc0;omega
 refine wp_skip (Zb (wp_seq (wp_seq ?_)))
 refine Za hS (qM rfl rfl (qu Tryz.underlying39 r1 (qJ qZ))) hB [13,12,4,1,0] [0] rfl rfl fun a w F hS=>Zb (wp_block ?_)
 obtain ⟨F,hS⟩:=hS.nm [13,12,1,0] [0] rfl rfl
 refine ZG (σ:=Nat) (fun s=>(⟨[(0,.pv (.sl rInt x)),(1,.pv (.sl rInt y)),(12,.pv (.int .i64 x.length)),(13,.pv (.int .i64 s))],[(0,frame B)]⟩:En)) (fun s=>s≤x.length ∧ ∀ j,j<s→Go.Gm.nth x j=Go.Gm.nth y j) (fun s=>x.length - s) 0 hS ⟨Nat.zero_le _,fun j hj=>absurd hj (Nat.not_lt_zero j)⟩ ?_
 clear hS;intro i a w F hC hS
 try dsimp only at hC
 try dsimp only at hS
 obtain ⟨hi,hq⟩:=hC
 refine wp_seq ?_
 refine Za hS (qL r2) hB [14,13,12,1,0] [0] rfl rfl fun a w F hS=>Zb (wp_seq ?_)
 refine Zd hS rfl (fun hc1=>?_) (fun hc1=>?_)
 ·skip
  have hil:i<x.length:=by simp at hc1;omega
  refine wp_skip (Zb (wp_seq (wp_block (wp_seq ?_))))
  refine Za hS (qM rfl rfl (qN rfl rfl qZ)) hB [13,12,5,1,0] [0] rfl rfl fun a w F hS=>Zb (wp_seq ?_)
  refine Zz hS (qM rfl rfl (qM rfl rfl (qy 1 Tryz.underlying39 r2 (qf (oR false 1 .t) r1 qz (qM rfl rfl (qM rfl rfl (qy 1 Tryz.underlying39 r2 (qf (oR false 1 .t) r1 qz (qf (o_neq .t .t) r2 qz qZ))))))))) hB [24,13,12,1,0] [0] rfl rfl fun a w F hS=>?_
  try dsimp only [List.map,xD,xE,xT,xU,ldSF] at hS
  refine Zb ?_
  refine Zd hS rfl (fun hc2=>?_) (fun hc2=>?_)
  ·skip
   have hg:false=decide (x=y):=by
     rw [eq_comm,decide_eq_false_iff_not]
     intro h
     subst h
     simp at hc2
   refine wp_seq ?_
   refine Za hS qB hB [13,12,4,1,0] [0] rfl rfl fun a w F hS=>Zb (wp_ret (Zg (Ze (Ze (Zg (Ze ?_))))))
   refine Zq hfr hS rfl rfl rfl (.bool hg)
  rw [Int.toNat_natCast] at hc2
  have hqi:Go.Gm.nth x i=Go.Gm.nth y i:=by simpa using hc2
  refine wp_skip (Zh (Zb ?_))
  refine Za hS (qp r1 (qM rfl rfl qZ)) hB [13,12,1,0] [0] rfl rfl fun a w F hS=>Zb ?_
  replace hS:=hS.ent (i:=13) (s':=.pv (.int .i64 ((i+1:Nat):Int))) rfl (.int (wrap_succ (by omega)))
  obtain ⟨F,hS⟩:=hS.nm [13,12,1,0] [0] rfl rfl
  exact ⟨i+1,F,⟨by omega,fun j hj=>by rcases Nat.lt_or_eq_of_le (Nat.le_of_lt_succ hj) with h | h;exact hq j h;rw [h];exact hqi⟩,hS,by omega⟩
 have hg:true=decide (x=y):=by
   rw [eq_comm,decide_eq_true_eq]
   exact Za0 hl fun j hj=>hq j (by simp at hc1;omega)
 refine wp_exit (Zi (Zi (Zo (Zb (wp_seq ?_)))))
 refine Za hS qB hB [4] [0] rfl rfl fun a w F hS=>Zb (wp_ret ?_)
 refine Zq hfr hS rfl rfl rfl (.bool hg)
theorem ZnA (x y:List OpD):FnP Tryz.prog 103 [.sl rOp x,.sl rOp y] (.bool (decide (x=y))):=by
 refine FnP.mk Tryz.func103 rfl Tryz.ntmps103 rfl ?_
 intro B a w F hB hfr hS
 have hxl:=Sat.lenSl hS (i:=0) rfl
 refine wp_seq ?_
 refine Za hS qB hB [4,1,0] [0] rfl rfl fun a w F hS=>Zb (wp_seq (wp_seq ?_))
 refine Za hS (qM rfl rfl (qu Tryz.underlying36 r1 (qM rfl rfl (qu Tryz.underlying36 r1 (qf (o_neq .t .t) r2 qz qZ))))) hB [10,4,1,0] [0] rfl rfl fun a w F hS=>Zb ?_
 refine Zd hS rfl (fun hc0=>?_) (fun hc0=>?_)
 ·skip
  have hg:false=decide (x=y):=by
    rw [eq_comm,decide_eq_false_iff_not]
    intro h
    subst h
    simp at hc0
  refine wp_seq ?_
  refine Za hS qB hB [4,1,0] [0] rfl rfl fun a w F hS=>Zb (wp_ret (Ze ?_))
  refine Zq hfr hS rfl rfl rfl (.bool hg)
 have hl:x.length=y.length:=by simp at hc0;omega
 refine wp_skip (Zb (wp_seq (wp_seq ?_)))
 refine Za hS (qM rfl rfl (qu Tryz.underlying36 r1 (qJ qZ))) hB [13,12,4,1,0] [0] rfl rfl fun a w F hS=>Zb (wp_block ?_)
 obtain ⟨F,hS⟩:=hS.nm [13,12,1,0] [0] rfl rfl
 refine ZG (σ:=Nat) (fun s=>(⟨[(0,.pv (.sl rOp x)),(1,.pv (.sl rOp y)),(12,.pv (.int .i64 x.length)),(13,.pv (.int .i64 s))],[(0,frame B)]⟩:En)) (fun s=>s≤x.length ∧ ∀ j,j<s→Go.Gm.nth x j=Go.Gm.nth y j) (fun s=>x.length - s) 0 hS ⟨Nat.zero_le _,fun j hj=>absurd hj (Nat.not_lt_zero j)⟩ ?_
 clear hS;intro i a w F hC hS
 try dsimp only at hC
 try dsimp only at hS
 obtain ⟨hi,hq⟩:=hC
 refine wp_seq ?_
 refine Za hS (qL r2) hB [14,13,12,1,0] [0] rfl rfl fun a w F hS=>Zb (wp_seq ?_)
 refine Zd hS rfl (fun hc1=>?_) (fun hc1=>?_)
 ·skip
  have hil:i<x.length:=by simp at hc1;omega
  refine wp_skip (Zb (wp_seq (wp_block (wp_seq ?_))))
  refine Za hS (qM rfl rfl (qN rfl rfl qZ)) hB [13,12,5,1,0] [0] rfl rfl fun a w F hS=>Zb (wp_seq ?_)
  refine Zz hS (qM rfl rfl (qM rfl rfl (qy 4 Tryz.underlying36 r2 (qf (oR true 4 .t) r1 qz (qM rfl rfl (qM rfl rfl (qy 4 Tryz.underlying36 r2 (qf (oR true 4 .t) r1 qz (qf (Zoz (ks:=[false,true,true,true]) (by kernel_rfl) .t .t (.bool (.int (.int (.int .nil))))) r2 qz qZ))))))))) hB [24,13,12,1,0] [0] rfl rfl fun a w F hS=>?_
  try dsimp only [List.map,xD,xE,xT,xU,ldSF] at hS
  refine Zb ?_
  refine Zd hS rfl (fun hc2=>?_) (fun hc2=>?_)
  ·skip
   have hg:false=decide (x=y):=by
     rw [eq_comm,decide_eq_false_iff_not]
     intro h
     subst h
     simp at hc2
   refine wp_seq ?_
   refine Za hS qB hB [13,12,4,1,0] [0] rfl rfl fun a w F hS=>Zb (wp_ret (Zg (Ze (Ze (Zg (Ze ?_))))))
   refine Zq hfr hS rfl rfl rfl (.bool hg)
  rw [Int.toNat_natCast] at hc2
  have hqi:Go.Gm.nth x i=Go.Gm.nth y i:=ZqF hc2
  refine wp_skip (Zh (Zb ?_))
  refine Za hS (qp r1 (qM rfl rfl qZ)) hB [13,12,1,0] [0] rfl rfl fun a w F hS=>Zb ?_
  replace hS:=hS.ent (i:=13) (s':=.pv (.int .i64 ((i+1:Nat):Int))) rfl (.int (wrap_succ (by omega)))
  obtain ⟨F,hS⟩:=hS.nm [13,12,1,0] [0] rfl rfl
  exact ⟨i+1,F,⟨by omega,fun j hj=>by rcases Nat.lt_or_eq_of_le (Nat.le_of_lt_succ hj) with h | h;exact hq j h;rw [h];exact hqi⟩,hS,by omega⟩
 have hg:true=decide (x=y):=by
   rw [eq_comm,decide_eq_true_eq]
   exact Za0 hl fun j hj=>hq j (by simp at hc1;omega)
 refine wp_exit (Zi (Zi (Zo (Zb (wp_seq ?_)))))
 refine Za hS qB hB [4] [0] rfl rfl fun a w F hS=>Zb (wp_ret ?_)
 refine Zq hfr hS rfl rfl rfl (.bool hg)
theorem Zdm (l:List OpD) (hl:l.length≤1000000):FnG Tryz.prog 29 1 [.sl rOp l] [.star []] (PV.one) (fun v=>[Zu 53 4 rOp l v]):=by
 refine FnG.mk Tryz.func29 rfl Tryz.ntmps29 rfl (by kernel_rfl) ?_
 intro B F0 a w F hB hG hS
 obtain ⟨F,hS⟩:=hS.nm [0] [0] rfl rfl
 refine wp_seq ?_
 refine Za hS (qC qZ) hB [2,0] [0] rfl rfl fun a w F hS=>Zb (wp_seq (wp_seq ?_))
 refine Za hS (qM rfl rfl (qf (ZdN Tryz.underlying36 .t) r1 qz qZ)) hB [4,2,0] [0] rfl rfl fun a w F hS=>?_
 obtain ⟨β4,hβ4,hS⟩:=hS.pickBool 4 rfl
 obtain ⟨F,hS⟩:=hS.nm [4,2,0] [0] rfl rfl
 refine Zb ?_
 refine Zd hS rfl (fun hc0=>?_) (fun hc0=>?_)
 ·skip
  have hg:l = []:=hβ4 hc0
  refine wp_seq ?_
  refine Za hS (qC qZ) hB [2,0] [0] rfl rfl fun a w F hS=>Zb (wp_ret (Ze ?_))
  have hS:=hS.fresh 1 rfl
  have hS:=hS.turn 1 rfl (ZaC (T:=53) (sz:=4) (R:=rOp))
  have hS:=hS.turn 1 rfl (r':=RS.hp (Zu 53 4 rOp l (.slice none 0 0))) (fun _ _ _ _ h=>by rw [hg];exact h)
  refine ZaG (h':=fun v=>Zu 53 4 rOp l v) hG hS rfl (.tmp rfl .nil) (.one .one) rfl
 have hg:l = [] ++ l:=rfl
 refine wp_skip (Zb (wp_seq ?_))
 refine Zc hS (qf (Zco (R:=rOp) (sz:=4) 101 Tryz.underlying36 (by kernel_rfl)) trivial qz (qM rfl rfl (qf (o_append (sz:=4) (bs:=32) 101 (.mk' Tryz.underlying36 (by kernel_rfl) (by kernel_rfl)) (by intro x;rfl) .same (.sl .t) (by simp only [List.length_append,List.length_nil];omega) (by decide)) ⟨rfl,rfl,trivial⟩ ⟨rfl,trivial⟩ (qN rfl rfl qZ)))) hB [2] [101,0] (fun _=>rfl) (fun _=>rfl) fun τ a w F hS=>?_
 try dsimp only [RS.sub,SF.sub,CF.sub,csub,Anc.sub,List.map,Zf,xL,xM,Nat.reduceAdd,xD,xE,xT,xU,xC,xN,zCF,rOp] at hS
 generalize τ 7=v7 at hS
 refine Zb (wp_ret ?_)
 obtain ⟨F,hS⟩:=hS.rename 101 1 rfl rfl
 have hS:=hS.turn 1 rfl (r':=RS.hp (Zu 53 4 rOp l v7)) (fun _ _ _ _ h=>by rw [hg];exact h)
 refine ZaG (h':=fun v=>Zu 53 4 rOp l v) hG hS rfl (.tmp rfl .nil) (.one .one) rfl
theorem Zm2 (l : List OpD) (p : OpD → Bool) (f : FuncId) (fn : Func) (cps : List PV) (hf : Tryz.prog.funcs[f]? = some fn) (hb : fn.body.isSome = true) (hnn : (fn.name == "runtime.NumGoroutine") = false) (hw : ∀ x, FnP Tryz.prog f (.agg (rOp x) :: cps) (.bool (p x))) : FnP Tryz.prog 113 [.sl rOp l, .clos f cps] (.int .i64 (Z3 p l)) := by
 refine FnP.mk Tryz.func113 rfl Tryz.ntmps113 rfl ?_
 intro B a w F hB hfr hS
 have hll:=Sat.lenSl hS (i:=0) rfl
 refine wp_seq ?_
 refine Za hS (qI qZ) hB [4,1,0] [0] rfl rfl fun a w F hS=>Zb (wp_seq (wp_seq ?_))
 refine Za hS (qM rfl rfl (qu Tryz.underlying36 r1 (qJ qZ))) hB [8,7,4,1,0] [0] rfl rfl fun a w F hS=>Zb (wp_block ?_)
 refine Zr (σ:=(Nat)) [0,1,4,7] [0] (fun s=>[(8,.pv (.int .i64 (s:Int)))]) (fun s=>[]) (fun s=>s≤l.length∧(∀ k,k<s→p (Go.Gm.nth l k)=false)) (fun s=>l.length - s) (0) hS ⟨rfl,rfl,rfl,rfl,rfl,trivial⟩ ⟨rfl,trivial⟩ ⟨Nat.zero_le _,fun k hk=>absurd hk (Nat.not_lt_zero k)⟩ ?_
 clear hS;intro i a w F hC hS
 try dsimp only at hC
 obtain ⟨F,hS⟩:=hS.nm [8,7,4,1,0] [0] rfl rfl
 try dsimp only at hS
 obtain ⟨hi,hq⟩:=hC
 refine wp_seq ?_
 refine Za hS (qL r2) hB [9,8,7,4,1,0] [0] rfl rfl fun a w F hS=>Zb (wp_seq ?_)
 refine Zd hS rfl (fun hc0=>?_) (fun hc0=>?_)
 ·skip
  have hil:i<l.length:=by simp at hc0;omega
  refine wp_skip (Zb (wp_seq (wp_block (wp_seq ?_))))
  refine Za hS (qM rfl rfl (qN rfl rfl qZ)) hB [8,7,5,4,1,0] [0] rfl rfl fun a w F hS=>Zb (wp_seq ?_)
  refine Za hS (qM rfl rfl (qM rfl rfl (qM rfl rfl (qy 4 Tryz.underlying36 r2 (qf (oR true 4 .t) r1 qz (qf (ZS (avs:=[.agg (rOp (Go.Gm.nth l i))]) .t (hw (Go.Gm.nth l i)) hf hb hnn (Args.one (.pagg .t))) r2 qz qZ)))))) hB [16,8,7,5,4,1,0] [0] rfl rfl fun a w F hS=>?_
  try simp only [Int.toNat_natCast] at hS
  refine Zb ?_
  refine Zd hS rfl (fun hc1=>?_) (fun hc1=>?_)
  ·skip
   have hg:(i:Int)=Z3 p l:=(Zc9 hil hc1 hq).symm
   refine wp_seq ?_
   refine Za hS (qM rfl rfl (qN rfl rfl qZ)) hB [8,7,4,1,0] [0] rfl rfl fun a w F hS=>Zb (wp_ret (Zg (Ze (Ze (Zg (Ze ?_))))))
   refine Zq hfr hS rfl rfl rfl (.int hg)
  have hne:p (Go.Gm.nth l i)=false:=hc1
  refine wp_skip (Zh (Zb ?_))
  refine Za hS (qp r1 (qM rfl rfl qZ)) hB [8,7,4,1,0] [0] rfl rfl fun a w F hS=>Zb ?_
  replace hS:=hS.ent (i:=8) (s':=.pv (.int .i64 ((i+1:Nat):Int))) rfl (.int (wrap_succ (by omega)))
  obtain ⟨F,hS⟩:=hS.nm [7,4,1,0,8] [0] rfl rfl
  exact ⟨(i+1),F,⟨by omega,(fun k hk=>by rcases Nat.lt_or_eq_of_le (Nat.le_of_lt_succ hk) with h | h;exact hq k h;rw [h];exact hne)⟩,hS,by omega⟩
 have hil:i=l.length:=by simp at hc0;omega
 have hg : -1=Z3 p l:=(ZbP fun k hk=>hq k (by simp at hc0;omega)).symm
 refine wp_exit (Zi (Zi (Zo (Zb (wp_seq ?_)))))
 refine Za hS (qI qZ) hB [4] [0] rfl rfl fun a w F hS=>Zb (wp_ret ?_)
 refine Zq hfr hS rfl rfl rfl (.int hg)
theorem ZjG (x:Int):IntKind.wrap .u8 x=x % 256:=by simp [IntKind.wrap,IntKind.bits,IntKind.signed]
def digit (c:UInt8):Bool:=decide (48≤c.toNat) && decide (c.toNat≤57)
def valOf (s:List UInt8):Nat:=s.foldl (fun a c=>a*10+(c.toNat - 48)) 0
def readR (s:List UInt8):Int×Int:=
 if s = []∨(1<s.length∧nth s 0=48) then (0,10) else if s.all digit=false then (0,10) else if 2147483647<valOf s then (0,1) else ((valOf s:Int),0)
theorem Zpm {s:List UInt8} {i:Nat} (h:i<s.length):valOf (s.take (i+1))=valOf (s.take i)*10+((nth s i).toNat - 48):=by
 unfold valOf
 rw [Zp h,List.take_succ_eq_append_getElem h,List.foldl_append]
 rfl
theorem Zp9 {s:List UInt8} {i:Nat} (h:i<s.length):(s.take (i+1)).all digit=((s.take i).all digit && digit (nth s i)):=by
 rw [Zp h,List.take_succ_eq_append_getElem h,List.all_append]
 simp only [List.all_cons,List.all_nil,Bool.and_true]
theorem ZrH {s:List UInt8} {i:Nat} (h:i<s.length) (hd:digit (nth s i)=false):s.all digit=false:=by
 rw [List.all_eq_false]
 exact ⟨nth s i,by rw [Zp h];exact List.getElem_mem h,by simp [hd]⟩
def ZiQ (u:Nat):List Int:=if h:u=0 then [] else ZiQ (u / 10) ++ [((48+u % 10:Nat):Int)]
 termination_by u
 decreasing_by omega
def ZdL (u:Nat):List Int:=ZiQ (u / 10) ++ [((48+u % 10:Nat):Int)]
theorem Ze1:ZiQ 0 = []:=by unfold ZiQ;simp
theorem Zek {u:Nat} (h:u≠0):ZiQ u=ZdL u:=by unfold ZiQ ZdL;simp [h]
def textL (n:Int):List UInt8:=if n<0 then 45 :: (ZdL n.natAbs).map toB else (ZdL n.natAbs).map toB
structure Zgj (u0 i u:Nat) (l:List Int):Prop where
 hl:l.length=20
 hi:i≤20
 hu:u<10 ^ i
 hb:u≤18446744073709551615
 ok:(i=20∧u=u0)∨(i<20∧ZiQ u++l.drop i=ZdL u0)
theorem Zgj.start {u0:Nat} (h:u0≤18446744073709551615):Zgj u0 20 u0 [0,0,0,0,0,0,0,0,0,0,0,0,0,0,0,0,0,0,0,0]:=⟨rfl,Nat.le_refl _,by omega,h,.inl ⟨rfl,rfl⟩⟩
theorem Zgj.pos {u0 i u:Nat} {l:List Int} (h:Zgj u0 i u l) (hc:i=20∨0<u):1≤i:=by
 rcases hc with hc | hc
 · omega
 · rcases Nat.eq_zero_or_pos i with h0 | h0
   · have:=h.hu;rw [h0] at this;omega
   · exact h0
theorem Zgj.next {u0 i u:Nat} {l:List Int} (h:Zgj u0 i u l) (hc:i=20∨0<u):Zgj u0 (i - 1) (u / 10) (l.set (i - 1) ((48+u % 10:Nat):Int)):=by
 have h1:=h.pos hc
 have hi:=h.hi
 have hl:=h.hl
 have hd:(l.set (i - 1) ((48+u % 10:Nat):Int)).drop (i - 1)=((48+u % 10:Nat):Int) :: l.drop i:=by
   rw [List.drop_eq_getElem_cons (by rw [List.length_set];omega),List.getElem_set_self,show i - 1+1=i by omega,List.drop_set_of_lt (by omega)]
 refine ⟨by rw [List.length_set];exact h.hl,by omega,?_,by have:=h.hb;omega,.inr ⟨by omega,?_⟩⟩
 · have:=h.hu
   rw [show i=(i - 1)+1 by omega,Nat.pow_succ] at this
   omega
 · rw [hd]
   have e:ZiQ (u / 10)++((48+u % 10:Nat):Int) :: l.drop i=ZdL u++l.drop i:=by
     unfold ZdL;simp
   rw [e]
   rcases h.ok with ⟨h2,h3⟩ | ⟨h2,h3⟩
   · rw [h2,h3,List.drop_of_length_le (by omega)];simp
   · rw [← Zek (by omega)];exact h3
theorem Zgj.done {u0 i u:Nat} {l:List Int} (h:Zgj u0 i u l) (h1:i≠20) (h2:u=0):l.drop i=ZdL u0:=by
 rcases h.ok with ⟨h3,_⟩ | ⟨_,h3⟩
 · exact absurd h3 h1
 · rw [h2,Ze1] at h3;simpa using h3
theorem Zld (u:Nat) (hu:u≤18446744073709551615):FnP Tryz.prog 88 [.int .u64 (u:Int)] (.bs ((ZdL u).map toB)):=by
 refine FnP.mk Tryz.func88 rfl Tryz.ntmps88 rfl ?_
 intro B a w F hB hfr hS
 refine wp_seq ?_
 refine Za hS (qf (oN (.cs (by kernel_rfl))) trivial qz qZ) hB [2,0] [0] rfl rfl fun a w F hS=>Zb (wp_seq ?_)
 refine Zc hS (qf (oH [.int .u8 0,.int .u8 0,.int .u8 0,.int .u8 0,.int .u8 0,.int .u8 0,.int .u8 0,.int .u8 0,.int .u8 0,.int .u8 0,.int .u8 0,.int .u8 0,.int .u8 0,.int .u8 0,.int .u8 0,.int .u8 0,.int .u8 0,.int .u8 0,.int .u8 0,.int .u8 0] 101) trivial qz qZ) hB [3,2,0] [101,0] (fun _=>rfl) (fun _=>rfl) fun τ a w F hS=>?_
 try dsimp only [RS.sub,SF.sub,CF.sub,csub,Anc.sub,List.map,zCF] at hS
 generalize τ 3=v3 at hS
 refine Zb (wp_seq ?_)
 refine Za hS (qI qZ) hB [4,3,2,0] [101,0] rfl rfl fun a w F hS=>Zb (wp_seq (wp_block ?_))
 replace hS:=hS.turn 101 rfl (r':=.ob (.val v3) (Ziu 190 (fun x=>PV.int .u8 x) [0,0,0,0,0,0,0,0,0,0,0,0,0,0,0,0,0,0,0,0])) (fun τ w f y h=>Zky (f:=(fun x=>PV.int .u8 x)) (l:=[0,0,0,0,0,0,0,0,0,0,0,0,0,0,0,0,0,0,0,0]) τ w f y h)
 obtain ⟨F,hS⟩:=hS.nm [4,3,0] [101,0] rfl rfl
 refine ZG (σ:=(Nat×Nat×List Int)) (fun s=>(⟨[(0,.pv (.int .u64 s.2.1)),(3,.pv (.is v3)),(4,.pv (.int .i64 s.1))],[(0,frame B),(101,.ob (.val v3) (Ziu 190 (fun x=>PV.int .u8 x) s.2.2))]⟩:En)) (fun s=>Zgj u s.1 s.2.1 s.2.2) (fun s=>s.1) (20,u,[0,0,0,0,0,0,0,0,0,0,0,0,0,0,0,0,0,0,0,0]) hS (Zgj.start hu) ?_
 clear hS;intro s a w F hC hS
 obtain ⟨i,x,l⟩:=s
 try dsimp only at hC
 try dsimp only at hS
 have hl:=hC.hl
 have hi:=hC.hi
 have hbx:=hC.hb
 try dsimp only at hl hi hbx
 refine wp_seq (wp_seq ?_)
 refine Za hS (qM rfl rfl (qf (o_eql .t qi) r1 qz (qM rfl rfl (qm rfl rfl rfl rfl (qk rfl (fun h=>ZaR (.w h) qi) r2 qz (qf (Zao .t .t) r2 qz qZ)))))) hB [10,4,3,0] [101,0] rfl rfl fun a w F hS=>Zb ?_
 refine Zd hS rfl (fun hc0=>?_) (fun hc0=>?_)
 ·skip
  have hcc:i=20∨0<x:=by simp only [Bool.or_eq_true,decide_eq_true_eq] at hc0;omega
  have hip:=hC.pos hcc
  try dsimp only at hip
  refine wp_skip (Zb (wp_block (wp_seq ?_)))
  refine Za hS (qM rfl rfl (qf (o_sub .t qi) r1 qz (qN rfl rfl qZ))) hB [4,3,0] [101,0] rfl rfl fun a w F hS=>?_
  rw [show IntKind.wrap .i64 ((i:Int) - 1)=((i - 1:Nat):Int) by rw [ZC (by omega)];omega] at hS
  refine Zb (wp_seq ?_)
  refine Za hS (qM rfl rfl (qM rfl rfl (qf (ZsW .t qi (by decide)) r1 qz (qf (Zbv qi .t) r1 qz (qf (Zcy Tryz.underlying5 (by kernel_rfl) .t) r1 qz (qf (ZbV (sz:=1) 101 Tryz.underlying190 (by kernel_rfl) .is .t (by omega) (by omega)) r2 r1 (qf (Zey 101 .adr .t one_int (by kernel_rfl) (by rw [hl];omega)) r2 r1 qZ))))))) hB [4,3,0] [101,0] rfl rfl fun a w F hS=>?_
  rw [show 0+((i - 1:Nat):Int).toNat*1=i - 1 by omega] at hS
  rw [show IntKind.wrap .u8 (IntKind.wrap .u64 (48+(x:Int).tmod 10))=((48+x % 10:Nat):Int) by rw [ZjG,Zc8,Int.tmod_eq_emod_of_nonneg (by omega)];omega] at hS
  refine Zb ?_
  refine Za hS (qM rfl rfl (qf (Zr3 .t qi (by decide)) r1 qz (qN rfl rfl qZ))) hB [4,3,0] [101,0] rfl rfl fun a w F hS=>Zh (Zb ?_)
  replace hS:=hS.ent (i:=0) (s':=.pv (.int .u64 ((x / 10:Nat):Int))) rfl (.int (by rw [Zc8,Int.tdiv_eq_ediv_of_nonneg (by omega)];omega))
  obtain ⟨F,hS⟩:=hS.nm [4,3,0] [101,0] rfl rfl
  exact ⟨(i - 1,x / 10,l.set (i - 1) ((48+x % 10:Nat):Int)),F,(hC.next hcc),hS,by dsimp only;omega⟩
 have hcc:i≠20∧x=0:=by simp only [Bool.or_eq_false_iff,decide_eq_false_iff_not] at hc0;omega
 have hdd:=hC.done hcc.1 hcc.2
 refine wp_exit (Zi (Zi (Zo (Zb (wp_seq ?_)))))
 replace hS:=hS.turn 101 rfl ZdA
 obtain ⟨F,hS⟩:=hS.giveRef 101 3 rfl rfl (ZhR _ _)
 rw [Zh1] at hS
 obtain ⟨F,hS⟩:=hS.nm [10,4,3,0] [0] rfl rfl
 refine Za hS (qM rfl rfl (qf (ZjL (sz:=1) (R:=rB) (l:=l) Tryz.underlying190 (by kernel_rfl) (by intro x;rfl) hl (by decide) .t .t (by omega) (by omega)) r2 qz (qf (o_conv_sl_bs Tryz.underlying142 Tryz.underlying5 Tryz.underlying9 .t) r1 qz (qN rfl rfl qZ)))) hB [2] [0] rfl rfl fun a w F hS=>Zb (wp_ret ?_)
 refine Zq hfr hS rfl rfl rfl (.bs (by rw [Int.toNat_natCast,hdd]))
theorem Zlk:∀ (k u:Nat),u<10 ^ k→(ZiQ u).length≤k
 | 0,u,h=>by
   have:u=0:=by simpa using h
   rw [this,Ze1];simp
 | k+1,u,h=>by
   by_cases h0:u=0
   · rw [h0,Ze1];simp
   · rw [Zek h0]
     unfold ZdL
     have:=Zlk k (u / 10) (by rw [Nat.pow_succ] at h;omega)
     rw [List.length_append]
     simp only [List.length_cons,List.length_nil]
     omega
theorem ZkD {u:Nat} (h:u≤18446744073709551615):(ZdL u).length≤20:=by
 have:=Zlk 19 (u / 10) (by omega)
 unfold ZdL
 rw [List.length_append]
 simp only [List.length_cons,List.length_nil]
 omega
theorem ZhZ {n:Int} (h : -9223372036854775808≤n∧n≤9223372036854775807):n.natAbs≤18446744073709551615:=by omega
structure Zkq (u0 i x:Nat) (l:List UInt8):Prop where
 hl:l.length=i
 hi:i≤20
 hx:x<10 ^ (20 - i)
 hb:x≤18446744073709551615
 ok:(i=0∧x=u0∧l = [])∨(0<i∧(ZiQ x).map toB++l=(ZdL u0).map toB)
theorem Zkq.start {u0:Nat} (h:u0≤18446744073709551615):Zkq u0 0 u0 []:=⟨rfl,by decide,by omega,h,.inl ⟨rfl,rfl,rfl⟩⟩
theorem Zkq.next {u0 i x:Nat} {l:List UInt8} (h:Zkq u0 i x l) (hc:i=0∨0<x):Zkq u0 (i+1) (x / 10) (toB ((48+x % 10:Nat):Int) :: l):=by
 have hi:=h.hi
 have hlt:i<20:=by
   rcases hc with hc | hc
   · omega
   · rcases Nat.lt_or_ge i 20 with h1 | h1
     · exact h1
     · have:=h.hx;rw [show 20 - i=0 by omega] at this;omega
 refine ⟨by rw [List.length_cons,h.hl],by omega,?_,by have:=h.hb;omega,.inr ⟨by omega,?_⟩⟩
 · have:=h.hx
   rw [show 20 - i=(20 - (i+1))+1 by omega,Nat.pow_succ] at this
   omega
 · have e:(ZiQ (x / 10)).map toB++toB ((48+x % 10:Nat):Int) :: l=(ZdL x).map toB++l:=by unfold ZdL;simp
   rw [e]
   rcases h.ok with ⟨_,h3,h4⟩ | ⟨h2,h3⟩
   · rw [h3,h4];simp
   · rw [← Zek (by omega)];exact h3
theorem Zkq.done {u0 i x:Nat} {l:List UInt8} (h:Zkq u0 i x l) (h1:i≠0) (h2:x=0):l=(ZdL u0).map toB:=by
 rcases h.ok with ⟨h3,_⟩ | ⟨_,h3⟩
 · exact absurd h3 h1
 · rw [h2,Ze1] at h3;simpa using h3
theorem Zdu (n:Int):FnP Tryz.prog 47 [.int .i64 n] (.bs (textL n)):=by
 refine FnP.mk Tryz.func47 rfl Tryz.ntmps47 rfl ?_
 intro B a w F hB hfr hS
 have hn:=ZgI (hS.range (i:=0) rfl)
 have hz:=ZkD (ZhZ hn)
 refine wp_seq ?_
 refine Za hS (qf (oN (.cs (by kernel_rfl))) trivial qz qZ) hB [2,0] [0] rfl rfl fun a w F hS=>Zb (wp_seq (wp_seq ?_))
 refine Za hS (qM rfl rfl (qf (Zbq .t qi) r1 qz qZ)) hB [4,2,0] [0] rfl rfl fun a w F hS=>Zb ?_
 refine Zd hS rfl (fun hc0=>?_) (fun hc0=>?_)
 ·skip
  have hb:n<0:=of_decide_eq_true hc0
  have hu:IntKind.wrap .u64 (0 - IntKind.wrap .u64 n)=(n.natAbs:Int):=by rw [Zc8,Zc8];omega
  have hg:textL n=45 :: (ZdL n.natAbs).map toB:=if_pos hb
  refine wp_seq ?_
  refine Za hS (qM rfl rfl (qf (Zcy Tryz.underlying152 (by kernel_rfl) .t) r1 qz (qf (ZsM .t) r1 qz (qf (oP (Zld n.natAbs (ZhZ hn)) Tryz.func88 (Args.one (.conv .t (.int hu)))) r1 qz (qf (Za4 (.cs (by kernel_rfl)) .t (by simp only [List.length_cons,List.length_nil,List.length_map];omega)) r1 qz (qN rfl rfl qZ)))))) hB [2,0] [0] rfl rfl fun a w F hS=>Zb (wp_ret (Ze ?_))
  refine Zq hfr hS rfl rfl rfl (.bs (by rw [hg];try rfl))
 have hb:¬ n<0:=of_decide_eq_false hc0
 have hu:IntKind.wrap .u64 n=(n.natAbs:Int):=by rw [Zc8];omega
 have hg:textL n=(ZdL n.natAbs).map toB:=if_neg hb
 refine wp_skip (Zb (wp_seq ?_))
 refine Za hS (qM rfl rfl (qf (Zcy Tryz.underlying152 (by kernel_rfl) .t) r1 qz (qf (oP (Zld n.natAbs (ZhZ hn)) Tryz.func88 (Args.one (.conv .t (.int hu)))) r1 qz (qN rfl rfl qZ)))) hB [2] [0] rfl rfl fun a w F hS=>Zb (wp_ret ?_)
 refine Zq hfr hS rfl rfl rfl (.bs (by rw [hg];try rfl))
def bH (v ad:Value) (l:List UInt8):HP:=.ex fun rv=>.and (l = []→rv = .slice none 0 0) (.star [.pt (.val v) 144 [.pv (.is ad),.pv (.is rv)],.ob (.val rv) (Zu 5 1 rC l)])
def Z5 (v:Value) (l:List UInt8):HP:=.ex fun ad=>.and (ad = .pointer none∨ad=v) (bH v ad l)
theorem FnG.cases {P:Program} {f:FuncId} {args:List PV} {h h1 h2:HP} {q:PV} {qr:Value→List HP} (hh:∀ w fb y,h.p w fb y→h1.p w fb y∨h2.p w fb y) (k1:FnG P f 1 args [h1] q qr) (k2:FnG P f 1 args [h2] q qr):FnG P f 1 args [h] q qr:=fun w F vs hw hle hvs hpr=>by
 rcases hh w (F 1) (U F) (hpr 0 h rfl) with hx | hx
 · exact k1 w F vs hw hle hvs (fun i h' hi=>by
     match i,hi with
     | 0,hi=>simp at hi;subst hi;exact hx)
 · exact k2 w F vs hw hle hvs (fun i h' hi=>by
     match i,hi with
     | 0,hi=>simp at hi;subst hi;exact hx)
theorem ZgL {v:Value} {l:List UInt8} (w:World) (fb y:Ys) (h:(Z5 v l).p w fb y):(bH v (.pointer none) l).p w fb y∨(bH v v l).p w fb y:=by
 obtain ⟨ad,h1,h2⟩:=h
 rcases h1 with rfl | rfl
 · exact .inl h2
 · exact .inr h2
theorem copy0 (b:Nat) (l:List UInt8):FnG Tryz.prog 123 1 [.is (.pointer (some ⟨b,0,none⟩))] [bH (.pointer (some ⟨b,0,none⟩)) (.pointer none) l] (.any) (fun _=>[bH (.pointer (some ⟨b,0,none⟩)) (.pointer (some ⟨b,0,none⟩)) l]):=by
 refine FnG.mk Tryz.func123 rfl Tryz.ntmps123 rfl (by kernel_rfl) ?_
 intro B F0 a w F hB hG hS
 obtain ⟨rv,hS⟩:=hS.open_ex 1 rfl
 obtain ⟨hI,hS⟩:=hS.open_and 1 rfl
 obtain ⟨F,hS⟩:=hS.peel 1 2 rfl rfl
 obtain ⟨F,hS⟩:=hS.peel 1 3 rfl rfl
 obtain ⟨F,hS⟩:=hS.nm [0] [3,2,0] rfl rfl
 refine wp_seq ?_
 refine Za hS (qM rfl rfl (qf (o_nilCheck 2 .is (by rfl)) r1 r1 (qf (oF 0 2 .adr) r1 r1 (qa 2 r1 r1 (qf (Zel _ Tryz.underlying141 rfl .t) r1 qz qZ))))) hB [6,0] [3,2,0] rfl rfl fun a w F hS=>Zb ?_
 refine Zd hS rfl (fun hc0=>?_) (fun hc0=>?_)
 ·skip
  refine Za hS (qM rfl rfl (qM rfl rfl (qf (Zeh 2 Tryz.underlying141 Tryz.underlying219 (by kernel_rfl) (by kernel_rfl) .t) r1 r1 (qf (Zhw Tryz.func155 (by kernel_rfl) (by kernel_rfl) (by kernel_rfl) (by kernel_rfl) .t) r1 qz (qf (ZfZ 2 Tryz.underlying219 Tryz.underlying141 (by kernel_rfl) (by kernel_rfl) .t) r1 r1 (qf (o_nilCheck 2 .is (by rfl)) r1 r1 (qf (oF 0 2 .adr) r1 r1 (qf (o_store1 2 .adr .t ZnB (by kernel_rfl) (by kernel_rfl)) r2 r1 qZ)))))))) hB [] [3,2,0] rfl rfl fun a w F hS=>?_
  have hS:=hS.fresh 1 rfl
  obtain ⟨F,hS⟩:=hS.push 1 3 rfl rfl rfl (by kernel_rfl)
  obtain ⟨F,hS⟩:=hS.push 1 2 rfl rfl rfl (by kernel_rfl)
  have hS:=hS.turn 1 rfl (r':=RS.hp (bH (.pointer (some ⟨b,0,none⟩)) (.pointer (some ⟨b,0,none⟩)) l)) (fun _ _ _ _ h=>⟨_,hI,h⟩)
  refine Zay hG hS rfl .nil Zbn.any rfl
 simp at hc0
theorem copy1 (b:Nat) (l:List UInt8):FnG Tryz.prog 123 1 [.is (.pointer (some ⟨b,0,none⟩))] [bH (.pointer (some ⟨b,0,none⟩)) (.pointer (some ⟨b,0,none⟩)) l] (.any) (fun _=>[bH (.pointer (some ⟨b,0,none⟩)) (.pointer (some ⟨b,0,none⟩)) l]):=by
 refine FnG.mk Tryz.func123 rfl Tryz.ntmps123 rfl (by kernel_rfl) ?_
 intro B F0 a w F hB hG hS
 obtain ⟨rv,hS⟩:=hS.open_ex 1 rfl
 obtain ⟨hI,hS⟩:=hS.open_and 1 rfl
 obtain ⟨F,hS⟩:=hS.peel 1 2 rfl rfl
 obtain ⟨F,hS⟩:=hS.peel 1 3 rfl rfl
 obtain ⟨F,hS⟩:=hS.nm [0] [3,2,0] rfl rfl
 refine wp_seq ?_
 refine Za hS (qM rfl rfl (qf (o_nilCheck 2 .is (by rfl)) r1 r1 (qf (oF 0 2 .adr) r1 r1 (qa 2 r1 r1 (qf (Zel _ Tryz.underlying141 rfl .t) r1 qz qZ))))) hB [6,0] [3,2,0] rfl rfl fun a w F hS=>Zb ?_
 refine Zd hS rfl (fun hc0=>?_) (fun hc0=>?_)
 ·skip
  simp at hc0
 refine wp_seq ?_
 refine Za hS (qM rfl rfl (qf (o_nilCheck 2 .is (by rfl)) r1 r1 (qf (oF 0 2 .adr) r1 r1 (qa 2 r1 r1 (qM rfl rfl (qf (ZgU Tryz.underlying141 (by kernel_rfl) .t .t) r2 qz qZ)))))) hB [19] [3,2,0] rfl rfl fun a w F hS=>Zb ?_
 refine Zd hS rfl (fun hc1=>?_) (fun hc1=>?_)
 ·skip
  simp at hc1
 refine wp_skip ?_
 have hS:=hS.fresh 1 rfl
 obtain ⟨F,hS⟩:=hS.push 1 3 rfl rfl rfl (by kernel_rfl)
 obtain ⟨F,hS⟩:=hS.push 1 2 rfl rfl rfl (by kernel_rfl)
 have hS:=hS.turn 1 rfl (r':=RS.hp (bH (.pointer (some ⟨b,0,none⟩)) (.pointer (some ⟨b,0,none⟩)) l)) (fun _ _ _ _ h=>⟨_,hI,h⟩)
 refine Zay hG hS rfl .nil Zbn.any rfl
theorem Zqv (b:Nat) (l:List UInt8):FnG Tryz.prog 123 1 [.is (.pointer (some ⟨b,0,none⟩))] [Z5 (.pointer (some ⟨b,0,none⟩)) l] .any (fun _=>[bH (.pointer (some ⟨b,0,none⟩)) (.pointer (some ⟨b,0,none⟩)) l]):=FnG.cases ZgL (copy0 b l) (copy1 b l)
theorem Zkw (b:Nat) (l:List UInt8) (hl:l.length≤1000000000) (c:UInt8):FnG Tryz.prog 89 1 [.is (.pointer (some ⟨b,0,none⟩)),.int .u8 (c.toNat:Int)] [Z5 (.pointer (some ⟨b,0,none⟩)) l] (.any) (fun _=>[bH (.pointer (some ⟨b,0,none⟩)) (.pointer (some ⟨b,0,none⟩)) (l ++ [c])]):=by
 refine FnG.mk Tryz.func89 rfl Tryz.ntmps89 rfl (by kernel_rfl) ?_
 intro B F0 a w F hB hG hS
 refine wp_seq ?_
 refine Za hS (qC qZ) hB [4,1,0] [1,0] rfl rfl fun a w F hS=>Zb (wp_seq ?_)
 refine Za hS (qM rfl rfl (qf (o_callG1 1 (Zqv b l) Tryz.func123 rfl (by kernel_rfl) (Args.one .t)) r1 r1 qZ)) hB [4,1,0] [1,0] rfl rfl fun a w F hS=>?_
 obtain ⟨rv,hS⟩:=hS.open_ex 1 rfl
 obtain ⟨hI,hS⟩:=hS.open_and 1 rfl
 obtain ⟨F,hS⟩:=hS.peel 1 2 rfl rfl
 obtain ⟨F,hS⟩:=hS.peel 1 3 rfl rfl
 obtain ⟨F,hS⟩:=hS.nm [4,1,0] [3,2,0] rfl rfl
 refine Zb (wp_seq ?_)
 refine Zc hS (qM rfl rfl (qM rfl rfl (qf (o_nilCheck 2 .is (by rfl)) r1 r1 (qf (oF 1 2 .adr) r1 r1 (qa 2 r1 r1 (qM rfl rfl (qf (Zk (sz:=1) (zs:=[.int .u8 0]) (r:=[(0,.tmp 12)]) (l:=[_]) Tryz.underlying142 (by kernel_rfl) (by kernel_rfl) (by kernel_rfl) (by kernel_rfl) rfl rfl (.one rfl .t one_int (by kernel_rfl) .nil) rfl) r1 qz (qf (o_append (sz:=1) (bs:=1) 3 (.mk' Tryz.underlying142 (by kernel_rfl) (by kernel_rfl)) (by intro x;rfl) .is (.arr (l':=[c]) .t) (by simp only [List.length_cons,List.length_nil];omega) (by decide)) ⟨rfl,rfl,trivial⟩ ⟨rfl,trivial⟩ (qf (o_nilCheck 2 .is (by rfl)) r1 r1 (qf (oF 1 2 .adr) r1 r1 (qf (Zad 2 .adr (by kernel_rfl) (by kernel_rfl)) r2 r1 qZ))))))))))) hB [4] [3,2,0] (fun _=>rfl) (fun _=>rfl) fun τ a w F hS=>?_
 try dsimp only [RS.sub,SF.sub,CF.sub,csub,Anc.sub,List.map,Zf,xL,xM,Nat.reduceAdd,xD,xE,xT,xU,xC,xN,zCF,ldSF] at hS
 generalize τ 14=v14 at hS
 refine Zb (wp_seq ?_)
 refine Za hS (qC qZ) hB [4] [3,2,0] rfl rfl fun a w F hS=>Zb (wp_ret ?_)
 have hS:=hS.fresh 1 rfl
 obtain ⟨F,hS⟩:=hS.push 1 3 rfl rfl rfl (by kernel_rfl)
 obtain ⟨F,hS⟩:=hS.push 1 2 rfl rfl rfl (by kernel_rfl)
 have hS:=hS.turn 1 rfl (r':=RS.hp (bH (.pointer (some ⟨b,0,none⟩)) (.pointer (some ⟨b,0,none⟩)) (l ++ [c]))) (fun _ _ _ _ h=>⟨_,(by intro hh;simp at hh),h⟩)
 refine Zay hG hS rfl (.tmp rfl .nil) Zbn.any rfl
theorem Zar (b:Nat) (l:List UInt8) (hl:l.length≤1000000000) (x:List UInt8) (hx:x≠[]) (hxl:x.length≤1000000000):FnG Tryz.prog 85 1 [.is (.pointer (some ⟨b,0,none⟩)),.bs x] [Z5 (.pointer (some ⟨b,0,none⟩)) l] (.any) (fun _=>[bH (.pointer (some ⟨b,0,none⟩)) (.pointer (some ⟨b,0,none⟩)) (l++x)]):=by
 refine FnG.mk Tryz.func85 rfl Tryz.ntmps85 rfl (by kernel_rfl) ?_
 intro B F0 a w F hB hG hS
 refine wp_seq ?_
 refine Za hS (qI (qC qZ)) hB [5,4,1,0] [1,0] rfl rfl fun a w F hS=>Zb (wp_seq ?_)
 refine Za hS (qM rfl rfl (qf (o_callG1 1 (Zqv b l) Tryz.func123 rfl (by kernel_rfl) (Args.one .t)) r1 r1 qZ)) hB [5,4,1,0] [1,0] rfl rfl fun a w F hS=>?_
 obtain ⟨rv,hS⟩:=hS.open_ex 1 rfl
 obtain ⟨hI,hS⟩:=hS.open_and 1 rfl
 obtain ⟨F,hS⟩:=hS.peel 1 2 rfl rfl
 obtain ⟨F,hS⟩:=hS.peel 1 3 rfl rfl
 obtain ⟨F,hS⟩:=hS.nm [5,4,1,0] [3,2,0] rfl rfl
 refine Zb (wp_seq ?_)
 refine Zc hS (qM rfl rfl (qM rfl rfl (qf (o_nilCheck 2 .is (by rfl)) r1 r1 (qf (oF 1 2 .adr) r1 r1 (qa 2 r1 r1 (qM rfl rfl (qf (Ze6 3 Tryz.underlying142 Tryz.underlying9 (by kernel_rfl) .is .t (by omega)) ⟨rfl,rfl,trivial⟩ ⟨rfl,trivial⟩ (qf (o_nilCheck 2 .is (by rfl)) r1 r1 (qf (oF 1 2 .adr) r1 r1 (qf (Zad 2 .adr (by kernel_rfl) (by kernel_rfl)) r2 r1 qZ)))))))))) hB [5,4,1] [3,2,0] (fun _=>rfl) (fun _=>rfl) fun τ a w F hS=>?_
 try dsimp only [RS.sub,SF.sub,CF.sub,csub,Anc.sub,List.map,Zf,xL,xM,Nat.reduceAdd,xD,xE,xT,xU,xC,xN,zCF,ldSF] at hS
 generalize τ 14=v14 at hS
 refine Zb (wp_seq ?_)
 refine Za hS (qM rfl rfl (qf (Z0 Tryz.underlying9 .t) r1 qz (qN rfl rfl (qC qZ)))) hB [5,4] [3,2,0] rfl rfl fun a w F hS=>Zb (wp_ret ?_)
 have hS:=hS.fresh 1 rfl
 obtain ⟨F,hS⟩:=hS.push 1 3 rfl rfl rfl (by kernel_rfl)
 obtain ⟨F,hS⟩:=hS.push 1 2 rfl rfl rfl (by kernel_rfl)
 have hS:=hS.turn 1 rfl (r':=RS.hp (bH (.pointer (some ⟨b,0,none⟩)) (.pointer (some ⟨b,0,none⟩)) (l++x))) (fun _ _ _ _ h=>⟨_,(by intro hh;exact absurd (List.append_eq_nil_iff.1 hh).2 hx),h⟩)
 refine Zay hG hS rfl (.tmp rfl (.tmp rfl .nil)) Zbn.any rfl
theorem ZqP (b:Nat):FnG Tryz.prog 87 1 [.is (.pointer (some ⟨b,0,none⟩))] [Z5 (.pointer (some ⟨b,0,none⟩)) []] (.bs []) (fun _=>[HP.star []]):=by
 refine FnG.mk Tryz.func87 rfl Tryz.ntmps87 rfl (by kernel_rfl) ?_
 intro B F0 a w F hB hG hS
 obtain ⟨ad,hS⟩:=hS.open_ex 1 rfl
 obtain ⟨hA,hS⟩:=hS.open_and 1 rfl
 obtain ⟨rv,hS⟩:=hS.open_ex 1 rfl
 obtain ⟨hI,hS⟩:=hS.open_and 1 rfl
 obtain rfl:=hI rfl
 obtain ⟨F,hS⟩:=hS.peel 1 2 rfl rfl
 obtain ⟨F,hS⟩:=hS.peel 1 3 rfl rfl
 obtain ⟨F,hS⟩:=hS.nm [0] [3,2,0] rfl rfl
 refine wp_seq ?_
 refine Za hS (qf (oN (.cs (by kernel_rfl))) trivial qz qZ) hB [2,0] [3,2,0] rfl rfl fun a w F hS=>Zb (wp_seq ?_)
 refine Zz hS (qM rfl rfl (qf (o_nilCheck 2 .is (by rfl)) r1 r1 (qf (oF 1 2 .adr) r1 r1 (qa 2 r1 r1 (qf (ZgC .t) r1 qz (qM rfl rfl (qf (o_nilCheck 2 .is (by rfl)) r1 r1 (qf (oF 1 2 .adr) r1 r1 (qa 2 r1 r1 (qf (ZT 3 Tryz.underlying142 .is) r1 r1 (qf (Zd6 .t .t) r2 qz (qN rfl rfl qZ)))))))))))) hB [2] [3,2,0] rfl rfl fun a w F hS=>?_
 try dsimp only [List.map,xD,xE,xT,xU,ldSF] at hS
 refine Zb (wp_ret ?_)
 have hS:=hS.fresh 1 rfl
 refine Zay (h':=HP.star []) hG hS rfl (.tmp rfl .nil) (.one .refl) rfl
theorem ZrU (b:Nat) (l:List UInt8) (hne:l≠[]):FnG Tryz.prog 87 1 [.is (.pointer (some ⟨b,0,none⟩))] [Z5 (.pointer (some ⟨b,0,none⟩)) l] (.bs l) (fun _=>[HP.star []]):=by
 refine FnG.mk Tryz.func87 rfl Tryz.ntmps87 rfl (by kernel_rfl) ?_
 intro B F0 a w F hB hG hS
 obtain ⟨ad,hS⟩:=hS.open_ex 1 rfl
 obtain ⟨hA,hS⟩:=hS.open_and 1 rfl
 obtain ⟨rv,hS⟩:=hS.open_ex 1 rfl
 obtain ⟨hI,hS⟩:=hS.open_and 1 rfl
 obtain ⟨F,hS⟩:=hS.peel 1 2 rfl rfl
 obtain ⟨F,hS⟩:=hS.peel 1 3 rfl rfl
 obtain ⟨F,hS⟩:=hS.nm [0] [3,2,0] rfl rfl
 refine wp_seq ?_
 refine Za hS (qf (oN (.cs (by kernel_rfl))) trivial qz qZ) hB [2,0] [3,2,0] rfl rfl fun a w F hS=>Zb (wp_seq ?_)
 refine Zz hS (qM rfl rfl (qf (o_nilCheck 2 .is (by rfl)) r1 r1 (qf (oF 1 2 .adr) r1 r1 (qa 2 r1 r1 (qf (Zf8 3 hne .is (by rfl)) r1 r1 (qM rfl rfl (qf (o_nilCheck 2 .is (by rfl)) r1 r1 (qf (oF 1 2 .adr) r1 r1 (qa 2 r1 r1 (qf (ZT 3 Tryz.underlying142 .is) r1 r1 (qf (Zds 3 Tryz.underlying189 (by kernel_rfl) hne .t) r2 r1 (qN rfl rfl qZ)))))))))))) hB [2] [3,2,0] rfl rfl fun a w F hS=>?_
 try dsimp only [List.map,xD,xE,xT,xU,ldSF] at hS
 refine Zb (wp_ret ?_)
 have hS:=hS.fresh 1 rfl
 refine Zay (h':=HP.star []) hG hS rfl (.tmp rfl .nil) (.one .refl) rfl
theorem Zir (b:Nat) (l:List UInt8):FnG Tryz.prog 87 1 [.is (.pointer (some ⟨b,0,none⟩))] [Z5 (.pointer (some ⟨b,0,none⟩)) l] (.bs l) (fun _=>[HP.star []]):=by
 by_cases h:l = []
 · subst h;exact ZqP b
 · exact ZrU b l h
def Zah (l:List Int):Nat→List UInt8
 | 0=>[]
 | i+1=>Zah l i++(if 0<i then [32] else [])++textL (nth l i)
def ZcT (l:List Int):List UInt8:=Zah l l.length
theorem Zoj (u:Nat):ZdL u≠[]:=by unfold ZdL;simp
theorem ZbQ (n:Int):textL n≠[]:=by
 unfold textL
 split
 · simp
 · simpa using Zoj _
theorem Zaf {n:Int} (h : -9223372036854775808≤n∧n≤9223372036854775807):(textL n).length≤21:=by
 have:=ZkD (ZhZ h)
 unfold textL
 split <;> simp <;> omega
theorem words_c (l:List Int) (hlen:l.length≤1000):FnP Tryz.prog 48 [.sl rInt l] (.bs (ZcT l)):=by
 refine FnP.mk Tryz.func48 rfl Tryz.ntmps48 rfl ?_
 intro B a w F hB hfr hS
 refine wp_seq ?_
 refine Za hS (qf (oN (.cs (by kernel_rfl))) trivial qz qZ) hB [2,0] [0] rfl rfl fun a w F hS=>Zb (wp_seq ?_)
 refine Zc hS (qf (oH [.pointer none,.slice none 0 0] 101) trivial qz qZ) hB [3,2,0] [101,0] (fun _=>rfl) (fun _=>rfl) fun τ a w F hS=>?_
 try dsimp only [RS.sub,SF.sub,CF.sub,csub,Anc.sub,List.map,zCF] at hS
 generalize τ 3=v3 at hS
 obtain ⟨b,rfl⟩:=hS.shape 101 rfl
 replace hS:=hS.fresh 9 rfl
 replace hS:=hS.turn 9 rfl (ZaC (T:=5) (sz:=1) (R:=rC))
 replace hS:=hS.fresh 10 rfl
 obtain ⟨F,hS⟩:=hS.push 10 9 rfl rfl rfl (by kernel_rfl)
 obtain ⟨F,hS⟩:=hS.push 10 101 rfl rfl rfl (by kernel_rfl)
 replace hS:=hS.turn 10 rfl (r':=RS.hp (Z5 (.pointer (some ⟨b,0,none⟩)) (Zah l 0))) (fun _ _ _ _ h=>⟨_,.inl rfl,_,fun _=>rfl,h⟩)
 obtain ⟨F,hS⟩:=hS.nm [3,2,0] [10,0] rfl rfl
 refine Zb (wp_seq (wp_seq ?_))
 refine Za hS (qM rfl rfl (qu Tryz.underlying39 r1 (qJ qZ))) hB [8,7,6,3,2] [10,0] rfl rfl fun a w F hS=>Zb (wp_block ?_)
 obtain ⟨F,hS⟩:=hS.nm [8,7,6,3] [10,0] rfl rfl
 refine ZG (σ:=Nat) (fun s=>(⟨[(3,.pv (.is (.pointer (some ⟨b,0,none⟩)))),(6,.pv (.sl rInt l)),(7,.pv (.int .i64 l.length)),(8,.pv (.int .i64 s))],[(0,frame B),(10,RS.hp (Z5 (.pointer (some ⟨b,0,none⟩)) (Zah l s)))]⟩:En)) (fun s=>s≤l.length∧(Zah l s).length≤22*s) (fun s=>l.length - s) 0 hS ⟨Nat.zero_le _,Nat.le_refl _⟩ ?_
 clear hS;intro i a w F hC hS
 try dsimp only at hC
 try dsimp only at hS
 obtain ⟨hi,hw⟩:=hC
 refine wp_seq ?_
 refine Za hS (qL r2) hB [9,8,7,6,3] [10,0] rfl rfl fun a w F hS=>Zb (wp_seq ?_)
 refine Zd hS rfl (fun hc0=>?_) (fun hc0=>?_)
 ·skip
  have hil:i<l.length:=by simp at hc0;omega
  refine wp_skip (Zb (wp_seq (wp_block (wp_seq ?_))))
  refine Za hS (qM rfl rfl (qy 1 Tryz.underlying39 r2 (qf (oR false 1 .t) r1 qz (qN rfl rfl (qN rfl rfl qZ))))) hB [8,7,6,5,4,3] [10,0] rfl rfl fun a w F hS=>?_
  have hn:=ZgI (hS.range (i:=5) rfl)
  rw [Int.toNat_natCast] at hS hn
  have htl:=Zaf hn
  refine Zb (wp_seq (wp_seq ?_))
  refine Za hS (qM rfl rfl (qf (ZaR .t qi) r1 qz qZ)) hB [14,8,7,6,5,3] [10,0] rfl rfl fun a w F hS=>Zb ?_
  refine Zd hS rfl (fun hc1=>?_) (fun hc1=>?_)
  ·skip
   refine Za hS (qf (o_callG1 10 (Zkw b (Zah l i) (by omega) 32) Tryz.func89 rfl (by kernel_rfl) (Args.two .t qi)) r1 r1 qZ) hB [8,7,6,5,3] [10,0] rfl rfl fun a w F hS=>?_
   have hi0:0<i:=by simp at hc1;omega
   obtain ⟨q2,hq2⟩:∃ q2,q2=Zah l i++(if 0<i then [32] else []):=⟨_,rfl⟩
   have hql:q2.length≤22*i+1:=by rw [hq2];split <;> simp <;> omega
   replace hS:=hS.turn 10 rfl (r':=RS.hp (Z5 (.pointer (some ⟨b,0,none⟩)) q2)) (fun _ _ _ _ h=>⟨_,.inr rfl,by rw [hq2,if_pos hi0];exact h⟩)
   refine Zb ?_
   refine Za hS (qM rfl rfl (qf (oP (Zdu (nth l i)) Tryz.func47 (Args.one .t)) r1 qz (qf (o_callG1 10 (Zar b q2 (by omega) (textL (nth l i)) (ZbQ _) (by have:=Zaf hn;omega)) Tryz.func85 rfl (by kernel_rfl) (Args.two .t .t)) r2 r1 qZ))) hB [8,7,6,3] [10,0] rfl rfl fun a w F hS=>Zh (Zb ?_)
   refine Za hS (qp r1 (qM rfl rfl qZ)) hB [8,7,6,3] [10,0] rfl rfl fun a w F hS=>Zb ?_
   replace hS:=hS.turn 10 rfl (r':=RS.hp (Z5 (.pointer (some ⟨b,0,none⟩)) (Zah l (i+1)))) (fun _ _ _ _ h=>⟨_,.inr rfl,by rw [Zah,← hq2];exact h⟩)
   replace hS:=hS.ent (i:=8) (s':=.pv (.int .i64 ((i+1:Nat):Int))) rfl (.int (wrap_succ (by omega)))
   obtain ⟨F,hS⟩:=hS.nm [8,7,6,3] [10,0] rfl rfl
   exact ⟨i+1,F,⟨by omega,by rw [Zah,← hq2,List.length_append];omega⟩,hS,by omega⟩
  have hi0:¬ 0<i:=by simp at hc1;omega
  obtain ⟨q2,hq2⟩:∃ q2,q2=Zah l i++(if 0<i then [32] else []):=⟨_,rfl⟩
  have hql:q2.length≤22*i+1:=by rw [hq2];split <;> simp <;> omega
  rw [show Zah l i=q2 by rw [hq2,if_neg hi0,List.append_nil]] at hS
  refine wp_skip (Zb ?_)
  refine Za hS (qM rfl rfl (qf (oP (Zdu (nth l i)) Tryz.func47 (Args.one .t)) r1 qz (qf (o_callG1 10 (Zar b q2 (by omega) (textL (nth l i)) (ZbQ _) (by have:=Zaf hn;omega)) Tryz.func85 rfl (by kernel_rfl) (Args.two .t .t)) r2 r1 qZ))) hB [8,7,6,3] [10,0] rfl rfl fun a w F hS=>Zh (Zb ?_)
  refine Za hS (qp r1 (qM rfl rfl qZ)) hB [8,7,6,3] [10,0] rfl rfl fun a w F hS=>Zb ?_
  replace hS:=hS.turn 10 rfl (r':=RS.hp (Z5 (.pointer (some ⟨b,0,none⟩)) (Zah l (i+1)))) (fun _ _ _ _ h=>⟨_,.inr rfl,by rw [Zah,← hq2];exact h⟩)
  replace hS:=hS.ent (i:=8) (s':=.pv (.int .i64 ((i+1:Nat):Int))) rfl (.int (wrap_succ (by omega)))
  obtain ⟨F,hS⟩:=hS.nm [8,7,6,3] [10,0] rfl rfl
  exact ⟨i+1,F,⟨by omega,by rw [Zah,← hq2,List.length_append];omega⟩,hS,by omega⟩
 have hil:i=l.length:=by simp at hc0;omega
 rw [hil] at hS
 refine wp_exit (Zi (Zi (Zo (Zb (wp_seq ?_)))))
 refine Za hS (qf (o_callG1 10 (Zir b (Zah l l.length)) Tryz.func87 rfl (by kernel_rfl) (Args.one .t)) r1 r1 (qN rfl rfl qZ)) hB [2] [10,0] rfl rfl fun a w F hS=>Zb (wp_ret ?_)
 refine Zq hfr hS rfl rfl rfl (.bs rfl)
end Go.Proofs.YtjhapicamnijnaaGreatDoor
