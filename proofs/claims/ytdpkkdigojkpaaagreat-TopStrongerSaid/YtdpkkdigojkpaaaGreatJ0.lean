/- Texts put together. No condition beyond those that each theorem says. -/
import Derived.Test.YtdpkkdigojkpaaaGreatLibW
import Derived.Test.YtdpkkdigojkpaaaGreatLibL
import Derived.Shelf.Sort.Plain
import Derived.Shelf.Slices.In.SortNone
namespace Go.Proofs.YtdpkkdigojkpaaaGreat
open Go Go.Gm
set_option linter.unusedVariables false
set_option linter.unusedSimpArgs false
set_option maxHeartbeats 4000000
set_option maxRecDepth 8000
theorem ZJ {x:Int} (h : -9223372036854775808≤x∧x≤9223372036854775807):IntKind.wrap .i64 x=x:=Zfs ⟨by simp [IntKind.min,IntKind.signed,IntKind.bits];omega,by simp [IntKind.max,IntKind.signed,IntKind.bits];omega⟩
theorem Ze {i:Nat} (h:i<9223372036854775807):IntKind.wrap .i64 ((i:Int)+1)=((i+1:Nat):Int):=by rw [ZJ (by omega)];omega
theorem ZaQ {x:Int} (h:0≤x∧x≤18446744073709551615):IntKind.wrap .u64 x=x:=Zfs ⟨by simp [IntKind.min,IntKind.signed,IntKind.bits];omega,by simp [IntKind.max,IntKind.signed,IntKind.bits];omega⟩
theorem Zdd (x:Int):IntKind.wrap .u64 x=x % 18446744073709551616:=by simp [IntKind.wrap,IntKind.bits,IntKind.signed]
theorem Sat.lenSl {α:Type} {R:α→List PV} {B:Za2} {E:En} {a:Act} {w:World} {F:Fp} (h:Sat B E a w F) {i:Nat} {l:List α} (hl:Go.Gm.look E.s i=some (SF.pv (PV.sl R l))):l.length≤9223372036854775807:=by
 obtain ⟨_,cap,_,h1,h2,_⟩:=h.s i _ hl
 unfold maxLen at h2
 omega
def Zo (n:Int):List PV:=[.int .i64 n]
theorem ZaF.any {ss:List SF} : ZaF ss .any:=fun _ _ _ _ _=>trivial
theorem Zig {α:Type} [Inhabited α] {x y:List α} (hl:x.length=y.length) (h:∀ j,j<x.length→Go.Gm.nth x j=Go.Gm.nth y j):x=y:=by
 apply List.ext_getElem hl
 intro j h1 h2
 have:=h j h1
 rwa [nth_eq h1,nth_eq h2] at this
theorem Zl8 {α:Type} [Inhabited α] {q:List α} {k:Nat} (h:k<q.length):q.take k ++ [Go.Gm.nth q k] = q.take (k+1):=by
 rw [nth_eq h,List.take_succ_eq_append_getElem h]
theorem nth_mem {α:Type} [Inhabited α] {q:List α} {k:Nat} (h:k<q.length):Go.Gm.nth q k ∈ q:=by rw [nth_eq h];exact List.getElem_mem h
theorem Zo8 {α:Type} [Inhabited α] {l:List α} {i:Nat} (h:i<l.length):l.drop i=Go.Gm.nth l i :: l.drop (i+1):=by rw [nth_eq h];exact List.drop_eq_getElem_cons h
theorem Zv {α:Type} [Inhabited α] {l:List α} {i:Nat} (h:i<l.length):l.take (i+1)=l.take i ++ [Go.Gm.nth l i]:=(Zl8 h).symm
structure Znl where
 key:Int
 val:Int
 deriving DecidableEq,Inhabited
section
variable {out t T:List Znl} {k x:Int} {e:Znl} {d:Bool}
end
def Zax (v:Int):List Int→Int
 | []=>-1
 | x :: l=>if x=v then 0 else if Zax v l<0 then -1 else Zax v l+1
theorem Zft {v:Int} : ∀ {l:List Int},(∀ k,k<l.length→Go.Gm.nth l k≠v)→Zax v l = -1
 | [],_=>rfl
 | x :: l,h=>by
   have h0:x≠v:=h 0 (by simp)
   rw [Zax,if_neg h0,Zft (l:=l) fun k hk=>by have:=h (k+1) (by simpa using hk);exact this,if_pos (by decide)]
theorem ZlD {v:Int} : ∀ {l:List Int} {i:Nat},i<l.length→Go.Gm.nth l i=v→(∀ k,k<i→Go.Gm.nth l k≠v)→Zax v l=i
 | [],i,h,_,_=>by simp at h
 | x :: l,0,_,h,_=>by rw [Zax,if_pos (show x=v from h)];rfl
 | x :: l,i+1,h,h1,h2=>by
   have h0:x≠v:=h2 0 (by omega)
   have:=ZlD (l:=l) (i:=i) (by simpa using h) h1 fun k hk=>h2 (k+1) (by omega)
   rw [Zax,if_neg h0,this,if_neg (by omega)];omega
theorem Zdi {v:Int} {l:List Int} (h:v ∈ l):∃ i:Nat,Zax v l=i∧i<l.length∧Go.Gm.nth l i=v ∧ ∀ k,k<i→Go.Gm.nth l k≠v:=by
 induction l with
 | nil=>cases h
 | cons x l ih=>
   by_cases hx:x=v
   · exact ⟨0,by rw [Zax,if_pos hx];rfl,by simp,hx,fun k hk=>absurd hk (Nat.not_lt_zero k)⟩
   · obtain ⟨i,h1,h2,h3,h4⟩:=ih (by rcases List.mem_cons.1 h with h | h;exact absurd h.symm hx;exact h)
     refine ⟨i+1,by rw [Zax,if_neg hx,h1,if_neg (by omega)];omega,by simpa using h2,h3,fun k hk=>?_⟩
     cases k with
     | zero=>exact hx
     | succ k=>exact h4 k (by omega)
theorem Zj6 {v:Int} {l:List Int} (h:v ∉ l):Zax v l = -1:=Zft fun k hk e=>h (e ▸ nth_mem hk)
theorem Zkl (v:Int) (l:List Int) : -1≤Zax v l∧Zax v l<l.length:=by
 by_cases h:v ∈ l
 · obtain ⟨i,h1,h2,_⟩:=Zdi h
   omega
 · rw [Zj6 h];omega
theorem Zoh {v:Int} {l:List Int} : 0≤Zax v l ↔ v ∈ l:=by
 constructor
 · intro h
   by_cases hm:v ∈ l
   · exact hm
   · rw [Zj6 hm] at h;omega
 · intro h
   obtain ⟨i,h1,_⟩:=Zdi h
   omega
def ZrZ (l:List Int) (j x:Int):List Int:=if 0≤j∧j≤l.length then l.take j.toNat++x :: l.drop j.toNat else l
def ZeN (l:List Int):Prop:=(∀ x ∈ l,1≤x∧x≤1048575)∧l.Nodup
instance (l:List Int):Decidable (ZeN l):=by unfold ZeN;exact inferInstance
theorem ZeN.take {l:List Int} (h:ZeN l) (i:Nat):ZeN (l.take i):=⟨fun x hx=>h.1 x (List.mem_of_mem_take hx),h.2.sublist (List.take_sublist i l)⟩
def leI (x y:Int):Bool:=decide (x≤y)
theorem Zlj {a b:List Int} : a.mergeSort leI=b.mergeSort leI ↔ a.Perm b:=by
 constructor
 · intro h
   exact (List.mergeSort_perm a leI).symm.trans (h ▸ List.mergeSort_perm b leI)
 · intro h
   have hs:∀ l:List Int,List.Pairwise (fun x y=>x≤y) (l.mergeSort leI):=fun l=>by
     have:=List.pairwise_mergeSort (le:=leI) (fun a b c h1 h2=>by simp [leI] at *;omega) (fun a b=>by simp [leI];omega) l
     exact this.imp fun h=>by simpa [leI] using h
   exact List.Perm.eq_of_pairwise (fun x y _ _ h1 h2=>Int.le_antisymm h1 h2) (hs a) (hs b) (((List.mergeSort_perm a leI).trans h).trans (List.mergeSort_perm b leI).symm)
def withO (l:List Int) (tx:Int):List Int:=if tx ∈ l then l else l ++ [tx]
def withoutO (l:List Int) (tx:Int):List Int:=l.filter fun x=>decide (x≠tx)
def Zo1 (l:List Int) (tx place:Int):List Int×Int:=if Zax tx l<0 then ([],3) else if ¬ (0≤place∧place<l.length) then ([],1) else (ZrZ (l.eraseIdx (Zax tx l).toNat) place tx,0)
def Zmh (a b:List Int):Prop:=ZeN a∧ZeN b∧a.Perm b
instance (a b:List Int):Decidable (Zmh a b):=by unfold Zmh;exact inferInstance
def Zhj:Go.Shelf.Ren:=⟨fun | 189=>65 | 125=>125 | 257=>128 | 128=>199 | 129=>200 | 294=>202 | 295=>203 | 296=>204 | 297=>205 | 298=>206 | 299=>207 | 216=>186 | 300=>208 | 301=>209 | 328=>258 | 329=>254 | 330=>255 | 331=>259 | 332=>260 | 215=>201 | 343=>291 | n=>n,fun | 28=>34 | 3=>3 | 46=>174 | 0=>0 | 51=>247 | 53=>235 | 4=>4 | 183=>241 | 182=>240 | 131=>109 | 5=>5 | 9=>9 | 218=>296 | 222=>300 | 228=>342 | 229=>146 | n=>n,fun  | n=>n⟩
theorem ZjU:Lays.n189 Tryz.prog Zhj where
 mixed:=by kernel_rfl
 f125:=Tryz.func125.trans (congrArg some (by kernel_rfl))
 f128:=Tryz.func199.trans (congrArg some (by kernel_rfl))
 f129:=Tryz.func200.trans (congrArg some (by kernel_rfl))
 f189:=Tryz.func65.trans (congrArg some (by kernel_rfl))
 f215:=Tryz.func201.trans (congrArg some (by kernel_rfl))
 f216:=Tryz.func186.trans (congrArg some (by kernel_rfl))
 f257:=Tryz.func128.trans (congrArg some (by kernel_rfl))
 f294:=Tryz.func202.trans (congrArg some (by kernel_rfl))
 f295:=Tryz.func203.trans (congrArg some (by kernel_rfl))
 f296:=Tryz.func204.trans (congrArg some (by kernel_rfl))
 f297:=Tryz.func205.trans (congrArg some (by kernel_rfl))
 f298:=Tryz.func206.trans (congrArg some (by kernel_rfl))
 f299:=Tryz.func207.trans (congrArg some (by kernel_rfl))
 f300:=Tryz.func208.trans (congrArg some (by kernel_rfl))
 f301:=Tryz.func209.trans (congrArg some (by kernel_rfl))
 f328:=Tryz.func258.trans (congrArg some (by kernel_rfl))
 f329:=Tryz.func254.trans (congrArg some (by kernel_rfl))
 f330:=Tryz.func255.trans (congrArg some (by kernel_rfl))
 f331:=Tryz.func259.trans (congrArg some (by kernel_rfl))
 f332:=Tryz.func260.trans (congrArg some (by kernel_rfl))
 f343:=Tryz.func291.trans (congrArg some (by kernel_rfl))
 t0:=Tryz.underlying0
 a0:=Tryz.isAgg0
 z0:=Tryz.sizeOf0
 v0:=Tryz.zeroValue0
 t3:=Tryz.underlying3
 a3:=Tryz.isAgg3
 z3:=Tryz.sizeOf3
 v3:=Tryz.zeroValue3
 t4:=Tryz.underlying4
 a4:=Tryz.isAgg4
 z4:=Tryz.sizeOf4
 v4:=Tryz.zeroValue4
 t5:=Tryz.underlying5
 a5:=Tryz.isAgg5
 z5:=Tryz.sizeOf5
 v5:=Tryz.zeroValue5
 t9:=Tryz.underlying9
 a9:=Tryz.isAgg9
 z9:=Tryz.sizeOf9
 v9:=Tryz.zeroValue9
 t28:=Tryz.underlying34
 a28:=Tryz.isAgg34
 z28:=Tryz.sizeOf34
 v28:=Tryz.zeroValue34
 t46:=Tryz.underlying174
 a46:=Tryz.isAgg174
 z46:=Tryz.sizeOf174
 v46:=Tryz.zeroValue174
 t51:=Tryz.underlying247
 a51:=Tryz.isAgg247
 z51:=Tryz.sizeOf247
 v51:=Tryz.zeroValue247
 t53:=Tryz.underlying235
 a53:=Tryz.isAgg235
 z53:=Tryz.sizeOf235
 v53:=Tryz.zeroValue235
 t131:=Tryz.underlying109
 a131:=Tryz.isAgg109
 z131:=Tryz.sizeOf109
 v131:=Tryz.zeroValue109
 t182:=Tryz.underlying240
 a182:=Tryz.isAgg240
 z182:=Tryz.sizeOf240
 v182:=Tryz.zeroValue240
 t183:=Tryz.underlying241
 a183:=Tryz.isAgg241
 z183:=Tryz.sizeOf241
 v183:=Tryz.zeroValue241
 t218:=Tryz.underlying296
 a218:=Tryz.isAgg296
 z218:=Tryz.sizeOf296
 v218:=Tryz.zeroValue296
 t222:=Tryz.underlying300
 a222:=Tryz.isAgg300
 z222:=Tryz.sizeOf300
 v222:=Tryz.zeroValue300
 t228:=Tryz.underlying342
 a228:=Tryz.isAgg342
 z228:=Tryz.sizeOf342
 v228:=Tryz.zeroValue342
 t229:=Tryz.underlying146
 a229:=Tryz.isAgg146
 z229:=Tryz.sizeOf146
 v229:=Tryz.zeroValue146
theorem Znj (w:World):Calls Tryz.prog 65 #[.slice none 0 0] w (fun e w'=>e = .returned (.tuple #[])∧w' = w):=
 Go.calls_of_every_depth fun D=>Go.Proofs.AnyS.slices_Sort_int_none_in ZjU D none 0 w
theorem Zkh {w:World} {y:Ys} : ∀ {l:List Int} {xs:List Value},PVs (l.flatMap Zo) xs w y→xs=l.map (Value.int .i64) ∧ ∀ x ∈ l,inR .i64 x
 | [],[],_=>⟨rfl,fun x hx=>by cases hx⟩
 | [],_ :: _,h=>h.elim
 | x :: l,[],h=>h.elim
 | x :: l,v :: xs,h=>by
   have h1:v = .int .i64 x∧inR .i64 x:=h.1.2
   obtain ⟨h2,h3⟩:=Zkh (l:=l) (xs:=xs) h.2
   exact ⟨by rw [h1.1,h2];rfl,fun z hz=>by rcases List.mem_cons.1 hz with rfl | hz;exact h1.2;exact h3 z hz⟩
theorem ZeY {w:World} {y:Ys} : ∀ {l:List Int},(∀ x ∈ l,inR .i64 x)→PVs (l.flatMap Zo) (l.map (Value.int .i64)) w y
 | [],_=>trivial
 | x :: l,h=>⟨⟨rfl,rfl,h x (by simp)⟩,ZeY fun z hz=>h z (by simp [hz])⟩
theorem ZnK {l:List Int} {j:Nat} (hj:j<l.length):(l.toArray)[j]! = l[j]:=by simp [hj]
theorem Ziv {w:World} {g n:Nat} {d:List Int} {os:Array Obj} {cur:Array Value} {e:TypeId} (hg:w.heap[g]? = some (.cells cur e (0,0))) (b:Nat) (hb:b<w.heap.size) :
   (Go.Sort.grow (Go.Sort.putRow (Value.int .i64) (Go.Sort.ahead w n) g 0 d.toArray) os).heap[b]? = if b=g then some (.cells (Go.Sort.putCells (Value.int .i64) 0 d.toArray cur) e (0,0)) else w.heap[b]?:=by
 unfold Go.Sort.grow Go.Sort.putRow Go.Sort.mapBlock Go.Sort.ahead
 simp only
 rw [Array.getElem?_append_left (by simpa using hb),Array.getElem?_modify]
 by_cases h:g=b
 · subst h
   rw [if_pos rfl,if_pos rfl,hg];rfl
 · rw [if_neg h,if_neg (fun e=>h e.symm)]
theorem Zou {cur:Array Value} {d:List Int} (h:d.length≤cur.size):(Go.Sort.putCells (Value.int .i64) 0 d.toArray cur).toList.take d.length=d.map (Value.int .i64):=by
 apply List.ext_getElem
 · simp [Go.Sort.putCells];omega
 · intro i h1 h2
   have hi:i<d.length:=by simpa using h2
   simp [Go.Sort.putCells,hi]
theorem Zjz (v:Value) (l:List Int) (hlm:l.length≤1000000):FnG Tryz.prog 65 1 [.is v] [Zu 3 1 Zo l v] (.tup []) (fun _=>[Zu 3 1 Zo (l.mergeSort leI) v]):=fun w F vs hw hle hvs hpr=>by
 match vs,hvs with
 | [u],hvs=>
   have hu:u=v:=hvs.1.1
   subst hu
   obtain ⟨xs,⟨hxl,hx⟩,hp,hf⟩:=hpr 0 _ rfl
   rcases hx with ⟨rfl,h0⟩ | ⟨g,cap,cur,rfl,_,hg,hn,hcap,hcs,hct⟩
   · have hl:l = []:=List.eq_nil_of_length_eq_zero h0
     subst hl
     refine (Znj w).mono ?_
     rintro e w' ⟨rfl,rfl⟩
     refine ⟨.tuple #[],F,rfl,hw,⟨rfl,rfl,rfl,Nat.le_refl _,fun _ _ _=>rfl,fun _ _=>rfl,fun n hn b hb=>.inl ⟨n,hn,hb⟩⟩,hle,⟨[],rfl,trivial⟩,fun i h hi=>?_⟩
     match i,hi with
     | 0,hi=>simp at hi;subst hi;exact ⟨xs,⟨hxl,.inl ⟨rfl,rfl⟩⟩,by simpa using hp,hf⟩
   · have hgs:g<w.heap.size:=(Array.getElem?_eq_some_iff.1 hg).1
     obtain ⟨hxe,hin⟩:=Zkh hp
     have hcl:l.length≤cur.size:=by rw [hcs];omega
     have hbig:l.length<4611686018427387904:=by omega
     have hcur:∀ j (hj:j<l.length),cur[j]? = some (.int .i64 l[j]):=fun j hj=>by
       have h1:(cur.toList.take (l.length*1))[j]? = (l.map (Value.int .i64))[j]?:=by rw [hct,hxe]
       rw [List.getElem?_take_of_lt (by omega)] at h1
       simpa [hj] using h1
     have hH:Go.Sort.Holds (Value.int .i64) w g 0 l.toArray:=fun j hj=>by
       have hj':j<l.length:=by simpa using hj
       refine ⟨?_,?_⟩
       · rw [ZnK hj',Nat.zero_add,ZM hg];exact hcur j hj'
       · simp [World.frozen?,hg]
     have hcalls:Calls Tryz.prog 65 #[.slice (some ⟨g,0,none⟩) l.length cap] w fun e w'=>e = .returned (.tuple #[]) ∧ ∃ n os,w' = Go.Sort.grow (Go.Sort.putRow (Value.int .i64) (Go.Sort.ahead w n) g 0 (l.mergeSort leI).toArray) os:=Go.Proofs.Any.slices_Sort_int ZjU g 0 cap l w hH hgs hbig
     refine hcalls.mono ?_
     rintro e w' ⟨rfl,n,os,rfl⟩
     have hsl:(l.mergeSort leI).length=l.length:=List.length_mergeSort l
     have hheap:=fun b hb=>Ziv (n:=n) (d:=l.mergeSort leI) (os:=os) hg b hb
     have hsz:(Go.Sort.grow (Go.Sort.putRow (Value.int .i64) (Go.Sort.ahead w n) g 0 (l.mergeSort leI).toArray) os).heap.size=w.heap.size+os.size:=by simp [Go.Sort.ahead]
     have hfg:F 1 g:=(hf g).2 rfl
     have hst:Stp (List.range' 1 1) w F (Go.Sort.grow (Go.Sort.putRow (Value.int .i64) (Go.Sort.ahead w n) g 0 (l.mergeSort leI).toArray) os) F:=
       ⟨rfl,rfl,rfl,by rw [hsz];omega,fun b hb hn=>by
         rw [hheap b hb,if_neg (fun e=>by subst e;exact hn 1 (by simp) hfg)],fun _ _=>rfl,fun n hn b hb=>.inl ⟨n,hn,hb⟩⟩
     refine ⟨.tuple #[],F,rfl,⟨hw.dis,fun n b hb=>by rw [hsz];have:=hw.bd n b hb;omega⟩,hst,hle,⟨[],rfl,trivial⟩,fun i h hi=>?_⟩
     match i,hi with
     | 0,hi=>
       simp only [List.getElem?_cons_zero,Option.some.injEq] at hi
       subst hi
       refine ⟨(l.mergeSort leI).map (Value.int .i64),⟨by simp,.inr ⟨g,cap,_,by rw [hsl],Nat.zero_le _,(hheap g hgs).trans (if_pos rfl),by omega,hcap,by simp [Go.Sort.putCells,hcs],?_⟩⟩,ZeY fun x hx=>hin x ((List.mergeSort_perm l leI).mem_iff.1 hx),hf⟩
       rw [Nat.mul_one];exact Zou (by omega)
structure Zk where
 src:Int
 dst:Int
 kind:Int
 key:Int
 deriving DecidableEq,Inhabited
structure ZbB where
 tx:Int
 key:Int
 nth:Int
 deriving DecidableEq,Inhabited
def ZI (e:Zk):List PV:=[.int .i64 e.src,.int .i64 e.dst,.int .i64 e.kind,.int .i64 e.key]
def ZS (v:ZbB):List PV:=[.int .i64 v.tx,.int .i64 v.key,.int .i64 v.nth]
def noE:Zk:=⟨0,0,0,0⟩
def noV:ZbB:=⟨0,0,0⟩
def idB (n:Int):Bool:=decide (1≤n) && decide (n≤1048575)
def Zb4 (v:ZbB):Bool:=if v.tx=0 then idB v.key && decide (v.nth=0) else ((idB v.tx && idB v.key) && decide (1≤v.nth)) && decide (v.nth≤4095)
def ZrR (v:ZbB):Int:=(v.tx*1048576+v.key)*4096+v.nth
def Zpu (v:ZbB):Int×Int:=if Zb4 v then (ZrR v,0) else (0,1)
theorem Zi1 {n:Int} : idB n=true ↔ 1≤n∧n≤1048575:=by unfold idB;rw [Bool.and_eq_true,decide_eq_true_eq,decide_eq_true_eq]
theorem ZkF (k:Int):decide (k<1) = !decide (1≤k):=by rw [← decide_not];exact decide_eq_decide.2 (by omega)
theorem Znf (m k:Int):decide (m<k) = !decide (k≤m):=by rw [← decide_not];exact decide_eq_decide.2 (by omega)
theorem or64 (x y:Nat) (hx:x<18446744073709551616) (hy:y<18446744073709551616):bits .or .u64 (x:Int) (y:Int)=((x ||| y:Nat):Int):=by
 have h1:(BitVec.ofInt 64 (x:Int)).toNat=x:=by rw [BitVec.toNat_ofInt];omega
 have h2:(BitVec.ofInt 64 (y:Int)).toNat=y:=by rw [BitVec.toNat_ofInt];omega
 show IntKind.wrap .u64 (((BitVec.ofInt 64 (x:Int) ||| BitVec.ofInt 64 (y:Int)).toNat:Nat):Int)=_
 rw [BitVec.toNat_or,h1,h2]
 exact ZaQ (by have:=Nat.or_lt_two_pow (n:=64) hx hy;omega)
theorem ZoB {q:Nat} (h:q<18446744073709551616):IntKind.wrap .u64 (q:Int)=q:=ZaQ (by omega)
theorem ofN {q:Nat} (h:q<18446744073709551616):(BitVec.ofInt 64 (q:Int)).toNat=q:=by rw [BitVec.toNat_ofInt];omega
theorem Zpw {K:Int} (k:Nat) (hk:min K.toNat (IntKind.bits .u64)=k) (x y:Int) (hx:0≤x) (hy:0≤y) (hyk:y<2 ^ k) (hb:x*2 ^ k+y<18446744073709551616):bits .or .u64 (IntKind.wrap .u64 (x*2 ^ min K.toNat (IntKind.bits .u64))) y=x*2 ^ k+y:=by
 obtain ⟨X,rfl⟩:=Int.eq_ofNat_of_zero_le hx
 obtain ⟨Y,rfl⟩:=Int.eq_ofNat_of_zero_le hy
 rw [hk]
 have e2:(X:Int)*2 ^ k=((X*2 ^ k:Nat):Int):=by rw [Int.natCast_mul,Int.natCast_pow];rfl
 have hY:Y<2 ^ k:=by exact_mod_cast hyk
 have hor:X*2 ^ k ||| Y=X*2 ^ k+Y:=by rw [Nat.mul_comm];exact (Nat.two_pow_add_eq_or_of_lt hY X).symm
 rw [e2] at hb ⊢
 generalize X*2 ^ k=Q at hb hor ⊢
 rw [ZoB (by omega),or64 _ _ (by omega) (by omega),hor]
 omega
theorem Zjy {v:ZbB} (h:Zb4 v=true):bits .or .u64 (IntKind.wrap .u64 (bits .or .u64 (IntKind.wrap .u64 (IntKind.wrap .u64 v.tx*2 ^ min (20:Int).toNat (IntKind.bits .u64))) (IntKind.wrap .u64 v.key)*2 ^ min (12:Int).toNat (IntKind.bits .u64))) (IntKind.wrap .u64 v.nth)=ZrR v:=by
 have hb:(0≤v.tx∧v.tx≤1048575)∧(1≤v.key∧v.key≤1048575)∧(0≤v.nth∧v.nth≤4095):=by
   unfold Zb4 at h
   split at h <;> simp only [Bool.and_eq_true,decide_eq_true_eq,Zi1] at h <;> omega
 obtain ⟨h1,h2,h3⟩:=hb
 rw [ZaQ (x:=v.tx) (by omega),ZaQ (x:=v.key) (by omega),ZaQ (x:=v.nth) (by omega)]
 rw [Zpw 20 rfl v.tx v.key (by omega) (by omega) (by omega) (by omega),Zpw 12 rfl (v.tx*2 ^ 20+v.key) v.nth (by omega) (by omega) (by omega) (by omega)]
 unfold ZrR
 omega
theorem mask {x:Int} (h:0≤x∧x≤18446744073709551615) {K:Int} (k:Nat) (hk:min K.toNat (IntKind.bits .u64)=k) (hk2:k<64):bits .and .u64 x (IntKind.wrap .u64 (IntKind.wrap .u64 (1*2 ^ min K.toNat (IntKind.bits .u64)) - 1))=x % 2 ^ k:=by
 obtain ⟨X,rfl⟩:=Int.eq_ofNat_of_zero_le h.1
 rw [hk,Int.one_mul]
 have hp1:2 ^ k<2 ^ 64:=Nat.pow_lt_pow_right (by decide) hk2
 have hp:2 ^ k<18446744073709551616:=hp1
 have hp0:0<2 ^ k:=Nat.two_pow_pos k
 have e2:(2:Int) ^ k=((2 ^ k:Nat):Int):=by norm_cast
 have e3:∀ q:Nat,0<q→(q:Int) - 1=((q - 1:Nat):Int):=fun q h=>by omega
 rw [e2,ZoB hp,e3 _ hp0,ZoB (by omega)]
 show IntKind.wrap .u64 (((BitVec.ofInt 64 (X:Int) &&& BitVec.ofInt 64 ((2 ^ k - 1:Nat):Int)).toNat:Nat):Int)=_
 rw [BitVec.toNat_and,ofN (by omega),ofN (by omega),Nat.and_two_pow_sub_one_eq_mod]
 have hm:=Nat.mod_le X (2 ^ k)
 rw [ZoB (by omega)]
 norm_cast
theorem Zsn (n:Int):FnP Tryz.prog 251 [.int .i64 n] (.bool (idB n)):=by
 refine FnP.mk Tryz.func251 rfl Tryz.ntmps251 rfl ?_
 intro B a w F hB hfr hS
 refine wp_seq ?_
 refine Zb hS qB hB [2,0] [0] rfl rfl fun a w F hS=>Za (wp_seq ?_)
 refine Zb hS (qM rfl rfl (qf (ZbW .t qi) r1 qz (qM rfl rfl (qm rfl rfl rfl rfl (qk rfl (fun h=>Zk0 (.w h) qi) r2 qz (qf (ZN .t .t) r2 qz (qN rfl rfl qZ))))))) hB [2] [0] rfl rfl fun a w F hS=>Za (wp_ret ?_)
 refine Zw hfr hS rfl rfl rfl .refl
theorem Zf5 (v:ZbB):((!(decide (v.tx=0) && decide (v.nth=0)) && ((!idB v.tx || decide (v.nth<1)) || decide (4095<v.nth))) || !idB v.key) = !Zb4 v:=by
 unfold Zb4
 by_cases h:v.tx=0
 · rw [if_pos h,decide_eq_true h]
   have hi:idB v.tx=false:=by rw [h];rfl
   rw [hi]
   cases decide (v.nth=0) <;> cases idB v.key <;> simp
 · rw [if_neg h,decide_eq_false h,ZkF,Znf 4095]
   cases idB v.tx <;> cases idB v.key <;> cases decide (1≤v.nth) <;> cases decide (v.nth≤4095) <;> rfl
theorem ZmF (v:ZbB):FnP Tryz.prog 188 [.agg (ZS v)] (.tup [.int .u64 (Zpu v).1,.int .i64 (Zpu v).2]):=by
 refine FnP.mk Tryz.func188 rfl Tryz.ntmps188 rfl ?_
 intro B a w F hB hfr hS
 refine wp_seq ?_
 refine Zc hS (qx 101 r1 (qI (qI qZ))) hB [3,2,1] [101,0] (fun _=>rfl) (fun _=>rfl) fun τ a w F hS=>?_
 try dsimp only [RS.sub,SF.sub,CF.sub,csub,Anc.sub,List.map,zCF] at hS
 generalize τ 1=v1 at hS
 refine Za (wp_seq ?_)
 refine Zb hS (qg 0 101 r1 r1 (qa 101 r1 r1 (qf (o_eql .t qi) r1 qz (qM rfl rfl (qv 2 101 rfl r2 r1 (qw 101 rfl r2 r1 (qk rfl (fun h=>o_eql (.w h) qi) r2 qz (qf (ZN .t .t) r2 qz (qN rfl rfl qZ))))))))) hB [4,3,2,1] [101,0] rfl rfl fun a w F hS=>Za (wp_seq (wp_seq ?_))
 refine Zb hS (qM rfl rfl (qf (o_not .t) r1 qz (qM rfl rfl (qv 0 101 rfl r2 r1 (qw 101 rfl r2 r1 (qk rfl (fun h=>oP (Zsn _) Tryz.func251 (Args.one (.w h))) r2 qz (qk rfl (fun h=>o_not (.w h)) r2 qz (qk rfl (fun h=>oM (.w h)) r2 qz (ZB.cons (ZaY.cond2 rfl rfl (fun h=>ZX (off:=2) 101 .is (by kernel_rfl) (by rfl))) r2 r1 (ZB.cons (ZaY.cond2 rfl rfl (fun h=>Zbs (ag:=false) (sz:=1) 101 (.w h .adr) (by kernel_rfl) (by kernel_rfl) (by kernel_rfl) (by rfl))) r2 r1 (ZB.cons (ZaY.cond2 rfl rfl (fun h=>ZbC (.w h) qi)) r2 qz (qk rfl (fun h=>Zbc (.w h) (.wc h)) r3 qz (qk rfl (fun h=>oM (.w h)) r2 qz (ZB.cons (ZaY.cond2 rfl rfl (fun h=>ZX (off:=2) 101 .is (by kernel_rfl) (by rfl))) r2 r1 (ZB.cons (ZaY.cond2 rfl rfl (fun h=>Zbs (ag:=false) (sz:=1) 101 (.w h .adr) (by kernel_rfl) (by kernel_rfl) (by kernel_rfl) (by rfl))) r2 r1 (ZB.cons (ZaY.cond2 rfl rfl (fun h=>Zbi (.w h) qi)) r2 qz (qk rfl (fun h=>Zbc (.w h) (.wc h)) r3 qz (qf (ZN .t .t) r2 qz (qM rfl rfl (qv 1 101 rfl r2 r1 (qw 101 rfl r2 r1 (qk rfl (fun h=>oP (Zsn _) Tryz.func251 (Args.one (.w h))) r2 qz (qk rfl (fun h=>o_not (.w h)) r2 qz (qf (Zbc .t .t) r2 qz qZ)))))))))))))))))))))))) hB [36,3,2,1] [101,0] rfl rfl fun a w F hS=>?_
 try dsimp only [List.map,xD,xE,xT,xU,ldSF] at hS
 refine Za ?_
 refine Zd hS rfl (fun hc0=>?_) (fun hc0=>?_)
 ·skip
  rw [Zf5] at hc0
  have hr:Zb4 v=false:=by simpa using hc0
  have hg:Zpu v=(0,1):=by unfold Zpu;rw [hr];rfl
  refine wp_seq ?_
  refine Zb hS (qI (qI qZ)) hB [3,2,1] [101,0] rfl rfl fun a w F hS=>Za (wp_ret (Zi ?_))
  refine Zao hfr hS rfl (.tmp rfl (.tmp rfl .nil)) (.two (.int (by rw [hg];try exact Zjy hr)) (.int (by rw [hg])))
 rw [Zf5] at hc0
 have hr:Zb4 v=true:=by simpa using hc0
 have hg:Zpu v=(ZrR v,0):=if_pos hr
 refine wp_skip (Za (wp_seq ?_))
 refine Zb hS (qg 0 101 r1 r1 (qa 101 r1 r1 (qf (o_conv Tryz.underlying235 (by kernel_rfl) .t) r1 qz (qf (o_shl .t qi (by decide)) r1 qz (qg 1 101 r1 r1 (qa 101 r1 r1 (qf (o_conv Tryz.underlying235 (by kernel_rfl) .t) r1 qz (qf (Zsj .t .t) r2 qz (qf (o_shl .t qi (by decide)) r1 qz (qg 2 101 r1 r1 (qa 101 r1 r1 (qf (o_conv Tryz.underlying235 (by kernel_rfl) .t) r1 qz (qf (Zsj .t .t) r2 qz (qN rfl rfl (qI qZ))))))))))))))) hB [3,2] [0] rfl rfl fun a w F hS=>Za (wp_ret ?_)
 refine Zao hfr hS rfl (.tmp rfl (.tmp rfl .nil)) (.two (.int (by rw [hg];try exact Zjy hr)) (.int (by rw [hg])))
def Zch (x y:Int):Int:=if x<y then -1 else if y<x then 1 else 0
def Zen (e:Zk):List Int:=[e.src,e.kind,e.key,e.dst]
def Zfz:List Int→List Int→Int
 | x :: xs,y :: ys=>if x=y then Zfz xs ys else Zch x y
 | _,_=>0
def cmpE (e f:Zk):Int:=Zfz (Zen e) (Zen f)
theorem Zb6 {x y:Int} : Zch x y=0 ↔ x=y:=by unfold Zch;split <;> (try split) <;> omega
theorem Zmj:∀ (k:Nat) (xs ys:List Int),k<xs.length→k<ys.length→(∀ j,j<k→Go.Gm.nth xs j=Go.Gm.nth ys j)→Go.Gm.nth xs k≠Go.Gm.nth ys k→Zfz xs ys=Zch (Go.Gm.nth xs k) (Go.Gm.nth ys k)
 | _,[],_,h,_,_,_=>by simp at h
 | _,_ :: _,[],_,h,_,_=>by simp at h
 | 0,x :: xs,y :: ys,_,_,_,hn=>by
   have hn':x≠y:=hn
   unfold Zfz
   rw [if_neg hn']
   rfl
 | k+1,x :: xs,y :: ys,h1,h2,hj,hn=>by
   have h0:x=y:=hj 0 (by omega)
   unfold Zfz
   rw [if_pos h0]
   exact Zmj k xs ys (by simpa using h1) (by simpa using h2) (fun j h=>hj (j+1) (by omega)) hn
theorem Zi4:∀ (xs ys:List Int),xs.length=ys.length→(∀ j,j<xs.length→Go.Gm.nth xs j=Go.Gm.nth ys j)→Zfz xs ys=0
 | [],[],_,_=>rfl
 | [],_ :: _,h,_=>by simp at h
 | _ :: _,[],h,_=>by simp at h
 | x :: xs,y :: ys,h,hj=>by
   have h0:x=y:=hj 0 (by simp)
   unfold Zfz
   rw [if_pos h0]
   exact Zi4 xs ys (by simpa using h) (fun j h=>hj (j+1) (by simpa using h))
theorem ZmN (n:Int):FnP Tryz.prog 201 [.int .i64 n] (.bool false):=by
 refine FnP.mk Tryz.func201 rfl Tryz.ntmps201 rfl ?_
 intro B a w F hB hfr hS
 refine wp_seq ?_
 refine Zb hS qB hB [2,0] [0] rfl rfl fun a w F hS=>Za (wp_seq ?_)
 refine Zb hS (qM rfl rfl (qM rfl rfl (qf (o_neq .t .t) r2 qz (qN rfl rfl qZ)))) hB [2] [0] rfl rfl fun a w F hS=>Za (wp_ret ?_)
 refine Zw hfr hS rfl rfl rfl (.bool (by simp))
theorem Zri (m n:Int):FnP Tryz.prog 127 [.int .i64 m,.int .i64 n] (.int .i64 (Zch m n)):=by
 refine FnP.mk Tryz.func127 rfl Tryz.ntmps127 rfl ?_
 intro B a w F hB hfr hS
 refine wp_seq ?_
 refine Zb hS (qI qZ) hB [4,1,0] [0] rfl rfl fun a w F hS=>Za (wp_seq ?_)
 refine Zb hS (qM rfl rfl (qf (oP (ZmN _) Tryz.func201 (Args.one .t)) r1 qz (qN rfl rfl qZ))) hB [5,4,1,0] [0] rfl rfl fun a w F hS=>Za (wp_seq ?_)
 refine Zb hS (qM rfl rfl (qf (oP (ZmN _) Tryz.func201 (Args.one .t)) r1 qz (qN rfl rfl qZ))) hB [6,5,4,1,0] [0] rfl rfl fun a w F hS=>Za (wp_seq (wp_seq ?_))
 refine Zb hS (qM rfl rfl qZ) hB [11,6,4,1,0] [0] rfl rfl fun a w F hS=>Za ?_
 refine Zd hS rfl (fun hc0=>?_) (fun hc0=>?_)
 ·skip
  cases hc0
 refine wp_skip (Za (wp_seq (wp_seq ?_)))
 refine Zb hS (qM rfl rfl qZ) hB [13,4,1,0] [0] rfl rfl fun a w F hS=>Za ?_
 refine Zd hS rfl (fun hc1=>?_) (fun hc1=>?_)
 ·skip
  cases hc1
 refine wp_skip (Za (wp_seq (wp_seq ?_)))
 refine Zb hS (qM rfl rfl (qM rfl rfl (qL r2))) hB [16,4,1,0] [0] rfl rfl fun a w F hS=>Za ?_
 refine Zd hS rfl (fun hc2=>?_) (fun hc2=>?_)
 ·skip
  have hg:Zch m n = -1:=if_pos (of_decide_eq_true hc2)
  refine wp_seq ?_
  refine Zb hS (qI qZ) hB [4,1,0] [0] rfl rfl fun a w F hS=>Za (wp_ret (Zi ?_))
  refine Zw hfr hS rfl rfl rfl (.int (by rw [hg]))
 have h1:¬ m<n:=of_decide_eq_false hc2
 refine wp_skip (Za (wp_seq (wp_seq ?_)))
 refine Zb hS (qM rfl rfl (qM rfl rfl (qf (Zbi .t .t) r2 qz qZ))) hB [19,4] [0] rfl rfl fun a w F hS=>Za ?_
 refine Zd hS rfl (fun hc3=>?_) (fun hc3=>?_)
 ·skip
  have hg:Zch m n=1:=by unfold Zch;rw [if_neg h1,if_pos (of_decide_eq_true hc3)]
  refine wp_seq ?_
  refine Zb hS (qI qZ) hB [4] [0] rfl rfl fun a w F hS=>Za (wp_ret (Zi ?_))
  refine Zw hfr hS rfl rfl rfl (.int (by rw [hg]))
 have hg:Zch m n=0:=by unfold Zch;rw [if_neg h1,if_neg (of_decide_eq_false hc3)]
 refine wp_skip (Za (wp_seq ?_))
 refine Zb hS (qI qZ) hB [4] [0] rfl rfl fun a w F hS=>Za (wp_ret ?_)
 refine Zw hfr hS rfl rfl rfl (.int (by rw [hg]))
theorem ZmK (d e:Zk):FnP Tryz.prog 285 [.agg (ZI d),.agg (ZI e)] (.int .i64 (cmpE d e)):=by
 refine FnP.mk Tryz.func285 rfl Tryz.ntmps285 rfl ?_
 intro B a w F hB hfr hS
 refine wp_seq ?_
 refine Zc hS (qx 101 r1 (qx 102 r1 (qI qZ))) hB [4,3,2] [102,101,0] (fun _=>rfl) (fun _=>rfl) fun τ a w F hS=>?_
 try dsimp only [RS.sub,SF.sub,CF.sub,csub,Anc.sub,List.map,zCF] at hS
 generalize τ 2=v2 at hS
 generalize τ 3=v3 at hS
 refine Za (wp_seq ?_)
 refine Zc hS (qg 0 101 r1 r1 (qa 101 r1 r1 (qg 2 101 r1 r1 (qa 101 r1 r1 (qg 3 101 r1 r1 (qa 101 r1 r1 (qg 1 101 r1 r1 (qa 101 r1 r1 (qf (Zbr (sz:=1) (r:=[(0,.tmp 10),(1,.tmp 12),(2,.tmp 14),(3,.tmp 16)]) (zs:=[.int .i64 0,.int .i64 0,.int .i64 0,.int .i64 0]) (pl:=[(0,1),(1,1),(2,1),(3,1)]) Tryz.underlying358 (by kernel_rfl) (by kernel_rfl) rfl (.one rfl .t one_int (by kernel_rfl) (.one rfl .t one_int (by kernel_rfl) (.one rfl .t one_int (by kernel_rfl) (.one rfl .t one_int (by kernel_rfl) .nil)))) (by rfl)) r4 qz (qf (oH [.int .i64 0,.int .i64 0,.int .i64 0,.int .i64 0] 103) trivial qz (qS 4 103 r2 r1 qZ))))))))))) hB [5,4,3] [103,102,0] (fun _=>rfl) (fun _=>rfl) fun τ a w F hS=>?_
 try dsimp only [RS.sub,SF.sub,CF.sub,csub,Anc.sub,List.map,Zf,xL,xM,Nat.reduceAdd,xD,xE,xT,xU,xC,xN,zCF,ldSF] at hS
 generalize τ 5=v5 at hS
 refine Za (wp_seq ?_)
 refine Zc hS (qg 0 102 r1 r1 (qa 102 r1 r1 (qg 2 102 r1 r1 (qa 102 r1 r1 (qg 3 102 r1 r1 (qa 102 r1 r1 (qg 1 102 r1 r1 (qa 102 r1 r1 (qf (Zbr (sz:=1) (r:=[(0,.tmp 19),(1,.tmp 21),(2,.tmp 23),(3,.tmp 25)]) (zs:=[.int .i64 0,.int .i64 0,.int .i64 0,.int .i64 0]) (pl:=[(0,1),(1,1),(2,1),(3,1)]) Tryz.underlying358 (by kernel_rfl) (by kernel_rfl) rfl (.one rfl .t one_int (by kernel_rfl) (.one rfl .t one_int (by kernel_rfl) (.one rfl .t one_int (by kernel_rfl) (.one rfl .t one_int (by kernel_rfl) .nil)))) (by rfl)) r4 qz (qf (oH [.int .i64 0,.int .i64 0,.int .i64 0,.int .i64 0] 104) trivial qz (qS 4 104 r2 r1 qZ))))))))))) hB [6,5,4] [104,103,0] (fun _=>rfl) (fun _=>rfl) fun τ a w F hS=>?_
 try dsimp only [RS.sub,SF.sub,CF.sub,csub,Anc.sub,List.map,Zf,xL,xM,Nat.reduceAdd,xD,xE,xT,xU,xC,xN,zCF,ldSF] at hS
 generalize τ 6=v6 at hS
 refine Za (wp_seq (wp_seq ?_))
 refine Zb hS (qJ qZ) hB [27,6,5,4] [104,103,0] rfl rfl fun a w F hS=>Za (wp_block ?_)
 replace hS:=hS.turn 103 rfl (r':=.ob (.val v5) (ZkR 358 (fun x=>PV.int .i64 x) (Zen d))) (fun τ w f y h=>ZiC (f:=(fun x=>PV.int .i64 x)) (l:=Zen d) τ w f y h)
 replace hS:=hS.turn 104 rfl (r':=.ob (.val v6) (ZkR 358 (fun x=>PV.int .i64 x) (Zen e))) (fun τ w f y h=>ZiC (f:=(fun x=>PV.int .i64 x)) (l:=Zen e) τ w f y h)
 obtain ⟨F,hS⟩:=hS.nm [27,6,5] [104,103,0] rfl rfl
 refine Zbt (σ:=Nat) (fun s=>(⟨[(5,.pv (.is v5)),(6,.pv (.is v6)),(27,.pv (.int .i64 s))],[(0,frame B),(103,.ob (.val v5) (ZkR 358 (fun x=>PV.int .i64 x) (Zen d))),(104,.ob (.val v6) (ZkR 358 (fun x=>PV.int .i64 x) (Zen e)))]⟩:En)) (fun s=>s≤4 ∧ ∀ j,j<s→Go.Gm.nth (Zen d) j=Go.Gm.nth (Zen e) j) (fun s=>4 - s) 0 hS ⟨by decide,fun j hj=>absurd hj (Nat.not_lt_zero j)⟩ ?_
 clear hS;intro k a w F hC hS
 try dsimp only at hC
 try dsimp only at hS
 obtain ⟨hk,hq⟩:=hC
 refine wp_seq ?_
 refine Zb hS (qf (ZbC .t qi) r1 qz qZ) hB [28,27,6,5] [104,103,0] rfl rfl fun a w F hS=>Za (wp_seq ?_)
 refine Zd hS rfl (fun hc0=>?_) (fun hc0=>?_)
 ·skip
  have hkl:k<4:=by simp at hc0;omega
  refine wp_skip (Za (wp_seq (wp_block (wp_seq ?_))))
  refine Zb hS (qM rfl rfl (qN rfl rfl qZ)) hB [27,7,6,5] [104,103,0] rfl rfl fun a w F hS=>Za (wp_seq ?_)
  refine Zy hS (qM rfl rfl (qf (Zby (sz:=1) 103 Tryz.underlying358 (by kernel_rfl) .is .t (by omega) (by omega)) r2 r1 (qf (Zhp 103 .adr (by kernel_rfl) (by kernel_rfl) (by simp only [Zen,List.length_cons,List.length_nil];omega)) r1 r1 (qM rfl rfl (qf (Zby (sz:=1) 104 Tryz.underlying358 (by kernel_rfl) .is .t (by omega) (by omega)) r2 r1 (qf (Zhp 104 .adr (by kernel_rfl) (by kernel_rfl) (by simp only [Zen,List.length_cons,List.length_nil];omega)) r1 r1 (qf (oP (Zri _ _) Tryz.func127 (Args.two .t .t)) r2 qz (qN rfl rfl qZ)))))))) hB [27,8,6,5] [104,103,0] rfl rfl fun a w F hS=>?_
  try dsimp only [List.map,xD,xE,xT,xU,ldSF] at hS
  simp only [Nat.zero_add,Nat.mul_one,Int.toNat_natCast] at hS
  refine Za (wp_seq ?_)
  refine Zb hS (qM rfl rfl (qf (o_neq .t qi) r1 qz qZ)) hB [38,27,8,6,5] [104,103,0] rfl rfl fun a w F hS=>Za ?_
  refine Zd hS rfl (fun hc1=>?_) (fun hc1=>?_)
  ·skip
   have hne:Zch (Go.Gm.nth (Zen d) k) (Go.Gm.nth (Zen e) k)≠0:=by simpa using hc1
   have hg:cmpE d e=Zch (Go.Gm.nth (Zen d) k) (Go.Gm.nth (Zen e) k):=Zmj k _ _ hkl hkl hq (fun e=>hne (Zb6.2 e))
   refine wp_seq ?_
   refine Zb hS (qM rfl rfl (qN rfl rfl qZ)) hB [27,6,5,4] [104,103,0] rfl rfl fun a w F hS=>Za (wp_ret (Zs (Zi (Zi (Zs (Zi ?_))))))
   refine Zw hfr hS rfl rfl rfl (.int (by rw [hg]))
  have hqk:Go.Gm.nth (Zen d) k=Go.Gm.nth (Zen e) k:=Zb6.1 (by simpa using hc1)
  refine wp_skip (Zj (Za ?_))
  refine Zb hS (qp r1 (qM rfl rfl qZ)) hB [27,6,5] [104,103,0] rfl rfl fun a w F hS=>Za ?_
  replace hS:=hS.ent (i:=27) (s':=.pv (.int .i64 ((k+1:Nat):Int))) rfl (.int (Ze (by omega)))
  obtain ⟨F,hS⟩:=hS.nm [27,6,5] [104,103,0] rfl rfl
  exact ⟨k+1,F,⟨by omega,fun j hj=>by rcases Nat.lt_or_eq_of_le (Nat.le_of_lt_succ hj) with h | h;exact hq j h;rw [h];exact hqk⟩,hS,by omega⟩
 have hg:cmpE d e=0:=Zi4 _ _ rfl fun j hj=>hq j (by simp only [Zen,List.length_cons,List.length_nil] at hj;simp at hc0;omega)
 refine wp_exit (Zh (Zh (Zp (Za (wp_seq ?_)))))
 refine Zb hS (qI qZ) hB [4] [104,103,0] rfl rfl fun a w F hS=>Za (wp_ret ?_)
 refine Zw hfr hS rfl rfl rfl (.int (by rw [hg]))
theorem Zp5 (x:Int) (hx:0≤x∧x<256):FnP Tryz.prog 200 [.int .u64 x] (.any):=by
 refine FnP.mk Tryz.func200 rfl Tryz.ntmps200 rfl ?_
 intro B a w F hB hfr hS
 have u8w:IntKind.wrap .u8 x=x:=Zfs ⟨by simp [IntKind.min,IntKind.signed,IntKind.bits];omega,by simp [IntKind.max,IntKind.signed,IntKind.bits];omega⟩
 have hx256:x<(256:Nat):=by omega
 refine wp_seq ?_
 refine Zb hS (qI qZ) hB [2,0] [0] rfl rfl fun a w F hS=>Za (wp_seq (wp_seq ?_))
 refine Zb hS (qM rfl rfl (qf (ZbW .t qi) r1 qz qZ)) hB [4,2,0] [0] rfl rfl fun a w F hS=>Za ?_
 refine Zd hS rfl (fun hc0=>?_) (fun hc0=>?_)
 ·skip
  simp at hc0;omega
 refine wp_skip (Za (wp_seq (wp_seq ?_)))
 refine Zb hS (qM rfl rfl (qf (ZbW .t qi) r1 qz qZ)) hB [8,2,0] [0] rfl rfl fun a w F hS=>Za ?_
 refine Zd hS rfl (fun hc1=>?_) (fun hc1=>?_)
 ·skip
  simp at hc1;omega
 refine wp_skip (Za (wp_seq (wp_seq ?_)))
 refine Zb hS (qM rfl rfl (qf (ZbW .t qi) r1 qz qZ)) hB [14,2,0] [0] rfl rfl fun a w F hS=>Za ?_
 refine Zd hS rfl (fun hc2=>?_) (fun hc2=>?_)
 ·skip
  simp at hc2;omega
 refine wp_skip (Za (wp_seq ?_))
 refine Zb hS (qM rfl rfl (qM rfl rfl (qf (o_conv Tryz.underlying5 (by kernel_rfl) .t) r1 qz (qf (Zku Tryz.underlying9 (.cs (by kernel_rfl)) .t (by rw [u8w];omega) (by rw [u8w];exact hx256)) r1 qz (qf (o_conv Tryz.underlying3 (by kernel_rfl) .t) r1 qz (qf (Zck .t .t) r2 qz (qN rfl rfl qZ))))))) hB [2] [0] rfl rfl fun a w F hS=>Za (wp_ret ?_)
 refine Zw hfr hS rfl rfl rfl .any
theorem Zot (x:Int) (hx:0≤x∧x<256):FnP Tryz.prog 125 [.int .u64 x] (.any):=by
 refine FnP.mk Tryz.func125 rfl Tryz.ntmps125 rfl ?_
 intro B a w F hB hfr hS
 refine wp_seq ?_
 refine Zb hS (qI qZ) hB [2,0] [0] rfl rfl fun a w F hS=>Za (wp_seq ?_)
 refine wp_cond (by rfl) ?_
 refine wp_skip (Za (wp_seq ?_))
 refine Zb hS (qM rfl rfl (qf (oP (Zp5 x hx) Tryz.func200 (Args.one .t)) r1 qz (qN rfl rfl qZ))) hB [2] [0] rfl rfl fun a w F hS=>Za (wp_ret ?_)
 refine Zw hfr hS rfl rfl rfl .any
theorem ZoZ (v:Value) (l:List Zk) (hl:l.length≤12) (hs:∀ j,0<j→j<l.length→¬ cmpE (Go.Gm.nth l j) (Go.Gm.nth l (j - 1))<0):FnG Tryz.prog 321 1 [.is v,.int .i64 0,.int .i64 l.length,.is (.func (.func 285) #[] #[])] [Zu 192 4 ZI l v] (.tup []) (fun _=>[Zu 192 4 ZI l v]):=by
 refine FnG.mk Tryz.func321 rfl Tryz.ntmps321 rfl (by kernel_rfl) ?_
 intro B F0 a w F hB hG hS
 have hS:=hS.turn 1 rfl (r':=RS.ob (.val v) (Zu 192 4 ZI l)) (fun _ _ _ _ h=>h)
 obtain ⟨F,hS⟩:=hS.nm [3,2,1,0] [1,0] rfl rfl
 refine wp_seq ?_
 refine Zb hS (qM rfl rfl (qp r1 (qN rfl rfl qZ))) hB [8,3,2,1,0] [1,0] rfl rfl fun a w F hS=>Za (wp_block ?_)
 replace hS:=hS.ent (i:=8) (s':=.pv (.int .i64 ((1:Nat):Int))) rfl (.int (by decide))
 obtain ⟨F,hS⟩:=hS.nm [8,3,2,1,0] [1,0] rfl rfl
 refine Zbt (σ:=Nat) (fun s=>(⟨[(0,.pv (.is v)),(1,.pv (.int .i64 0)),(2,.pv (.int .i64 l.length)),(3,.pv (.is (.func (.func 285) #[] #[]))),(8,.pv (.int .i64 s))],[(0,frame B),(1,.ob (.val v) (Zu 192 4 ZI l))]⟩:En)) (fun s=>1≤s∧s≤13) (fun s=>13 - s) 1 hS ⟨by decide,by decide⟩ ?_
 clear hS;intro i a w F hC hS
 try dsimp only at hC
 try dsimp only at hS
 obtain ⟨hi1,hi2⟩:=hC
 have hw:IntKind.wrap .i64 ((i:Int) - 1)=((i - 1:Nat):Int):=by rw [ZJ (by omega)];omega
 refine wp_seq (wp_seq ?_)
 refine Zb hS (qM rfl rfl (qM rfl rfl (qL r2))) hB [14,8,3,2,1,0] [1,0] rfl rfl fun a w F hS=>Za ?_
 refine Zd hS rfl (fun hc0=>?_) (fun hc0=>?_)
 ·skip
  have hil:i<l.length:=by simp at hc0;omega
  refine wp_skip (Za (wp_seq (wp_block (wp_seq ?_))))
  refine Zb hS (qM rfl rfl (qN rfl rfl qZ)) hB [9,8,3,2,1,0] [1,0] rfl rfl fun a w F hS=>Za (wp_block ?_)
  obtain ⟨F,hS⟩:=hS.nm [9,8,3,2,1,0] [1,0] rfl rfl
  refine Zbt (σ:=Unit) (fun s=>(⟨[(0,.pv (.is v)),(1,.pv (.int .i64 0)),(2,.pv (.int .i64 l.length)),(3,.pv (.is (.func (.func 285) #[] #[]))),(8,.pv (.int .i64 i)),(9,.pv (.int .i64 i))],[(0,frame B),(1,.ob (.val v) (Zu 192 4 ZI l))]⟩:En)) (fun s=>True) (fun s=>0) () hS trivial ?_
  clear hS;intro u a w F hC hS
  try dsimp only at hC
  try dsimp only at hS
  refine wp_seq (wp_seq ?_)
  refine Zy hS (qM rfl rfl (qM rfl rfl (qf (Zbi .t .t) r2 qz (qM rfl rfl (qm rfl rfl rfl rfl (qm rfl rfl rfl rfl (qm rfl rfl rfl rfl (qk rfl (fun h=>o_indexAddr_row (sz:=4) 1 (.mk Tryz.underlying127 (by kernel_rfl)) (.w h .is) (.w h) (by omega) (by omega) (by rfl)) r3 r1 (qk rfl (fun h=>Zz (ag:=true) (sz':=4) (sz:=4) 1 (.w h) (by intro x;rfl) (by omega) (by kernel_rfl) (by kernel_rfl) (by kernel_rfl)) r2 r1 (qm rfl rfl rfl rfl (qm rfl rfl rfl rfl (qk rfl (fun h=>o_sub (.w h) qi) r2 qz (qk rfl (fun h=>o_indexAddr_row (sz:=4) 1 (.mk Tryz.underlying127 (by kernel_rfl)) (.w h .is) (.w h) (by rw [hw];omega) (by rw [hw];omega) (by rfl)) r3 r1 (qk rfl (fun h=>Zz (ag:=true) (sz':=4) (sz:=4) 1 (.w h) (by intro x;rfl) (by rw [hw];omega) (by kernel_rfl) (by kernel_rfl) (by kernel_rfl)) r2 r1 (qk rfl (fun h=>ZoR (.w h) (ZmK _ _) Tryz.func285 rfl (by kernel_rfl) (Args.two (.pagg (.w h)) (.pagg (.w h)))) r4 qz (qk rfl (fun h=>ZbC (.w h) qi) r2 qz (qf (ZN .t .t) r2 qz qZ))))))))))))))))) hB [34,9,8,3,2,1,0] [1,0] rfl rfl fun a w F hS=>?_
  try dsimp only [List.map,xD,xE,xT,xU,ldSF] at hS
  refine Za ?_
  refine Zd hS rfl (fun hc1=>?_) (fun hc1=>?_)
  ·skip
   simp only [Bool.and_eq_true,decide_eq_true_eq,Int.toNat_natCast,hw] at hc1
   exact (hs i (by omega) (by omega) hc1.2).elim
  refine wp_exit (Zh (Zh (Zp (Zj (Za ?_)))))
  refine Zb hS (qM rfl rfl (qp r1 (qN rfl rfl qZ))) hB [8,3,2,1,0] [1,0] rfl rfl fun a w F hS=>Za ?_
  replace hS:=hS.ent (i:=8) (s':=.pv (.int .i64 ((i+1:Nat):Int))) rfl (.int (Ze (by omega)))
  obtain ⟨F,hS⟩:=hS.nm [8,3,2,1,0] [1,0] rfl rfl
  exact ⟨i+1,F,⟨by omega,by omega⟩,hS,by omega⟩
 refine wp_exit (Zh (Zh (Zp ?_)))
 have hS:=hS.turn 1 rfl (r':=RS.hp (Zu 192 4 ZI l v)) (fun _ _ _ _ h=>h)
 refine Zas hG hS rfl .nil ZaF.none rfl
theorem Zr3 (v:Value) (l:List Zk) (hl:l.length≤12) (hs:∀ j,0<j→j<l.length→¬ cmpE (Go.Gm.nth l j) (Go.Gm.nth l (j - 1))<0):FnG Tryz.prog 308 1 [.is v,.int .i64 0,.int .i64 l.length,.any,.is (.func (.func 285) #[] #[])] [Zu 192 4 ZI l v] (.tup []) (fun _=>[Zu 192 4 ZI l v]):=by
 refine FnG.mk Tryz.func308 rfl Tryz.ntmps308 rfl (by kernel_rfl) ?_
 intro B F0 a w F hB hG hS
 have hS:=hS.turn 1 rfl (r':=RS.ob (.val v) (Zu 192 4 ZI l)) (fun _ _ _ _ h=>h)
 obtain ⟨F,hS⟩:=hS.nm [4,3,2,1,0] [1,0] rfl rfl
 refine wp_seq ?_
 refine Zb hS qB hB [10,4,3,2,1,0] [1,0] rfl rfl fun a w F hS=>Za (wp_seq ?_)
 refine Zb hS qB hB [11,10,4,3,2,1,0] [1,0] rfl rfl fun a w F hS=>Za (wp_block ?_)
 obtain ⟨F,hS⟩:=hS.nm [4,2,1,0] [1,0] rfl rfl
 refine Zbt (σ:=Unit) (fun s=>(⟨[(0,.pv (.is v)),(1,.pv (.int .i64 0)),(2,.pv (.int .i64 l.length)),(4,.pv (.is (.func (.func 285) #[] #[])))],[(0,frame B),(1,.ob (.val v) (Zu 192 4 ZI l))]⟩:En)) (fun s=>True) (fun s=>0) () hS trivial ?_
 clear hS;intro u a w F hC hS
 try dsimp only at hC
 try dsimp only at hS
 refine wp_block (wp_seq ?_)
 refine Zb hS (qM rfl rfl (qM rfl rfl (qf (o_sub .t .t) r2 qz (qN rfl rfl qZ)))) hB [12,4,2,1,0] [1,0] rfl rfl fun a w F hS=>?_
 skip
 refine Za (wp_seq (wp_seq ?_))
 refine Zb hS (qM rfl rfl (qf (Zk0 .t qi) r1 qz qZ)) hB [25,12,4,2,1,0] [1,0] rfl rfl fun a w F hS=>Za ?_
 refine Zd hS rfl (fun hc0=>?_) (fun hc0=>?_)
 ·skip
  refine wp_seq ?_
  refine Zb hS (qM rfl rfl (qM rfl rfl (qM rfl rfl (qM rfl rfl (qf (Zbe 1 (ZoZ v l hl hs) Tryz.func321 rfl (by kernel_rfl) (Args.four .t .t .t .t)) r4 r1 qZ))))) hB [12,4,2,1,0] [1,0] rfl rfl fun a w F hS=>Za (wp_ret (Zi (Zs (Zi (Zs ?_)))))
  have hS:=hS.turn 1 rfl (r':=RS.hp (Zu 192 4 ZI l v)) (fun _ _ _ _ h=>h)
  refine Zas hG hS rfl .nil ZaF.none rfl
 rw [ZJ (by omega)] at hc0
 simp at hc0
 omega
theorem ZkS (v:Value) (l:List Zk) (hl:l.length≤12) (hs:∀ j,0<j→j<l.length→¬ cmpE (Go.Gm.nth l j) (Go.Gm.nth l (j - 1))<0):FnG Tryz.prog 284 1 [.is v,.is (.func (.func 285) #[] #[])] [Zu 192 4 ZI l v] (.tup []) (fun _=>[Zu 192 4 ZI l v]):=by
 refine FnG.mk Tryz.func284 rfl Tryz.ntmps284 rfl (by kernel_rfl) ?_
 intro B F0 a w F hB hG hS
 have hS:=hS.turn 1 rfl (r':=RS.ob (.val v) (Zu 192 4 ZI l)) (fun _ _ _ _ h=>h)
 obtain ⟨F,hS⟩:=hS.nm [1,0] [1,0] rfl rfl
 refine wp_seq ?_
 refine Zb hS (qM rfl rfl (qf (ZQ 1 Tryz.underlying127 .is) r1 r1 (qN rfl rfl qZ))) hB [4,1,0] [1,0] rfl rfl fun a w F hS=>?_
 have hxl:0≤IntKind.wrap .u64 (l.length:Int)∧IntKind.wrap .u64 (l.length:Int)<256:=by rw [Zdd];omega
 refine Za ?_
 refine Zb hS (qM rfl rfl (qM rfl rfl (qM rfl rfl (qf (o_conv Tryz.underlying174 (by kernel_rfl) .t) r1 qz (qf (oP (Zot _ hxl) Tryz.func125 (Args.one .t)) r1 qz (qM rfl rfl (qf (Zbe 1 (Zr3 v l hl hs) Tryz.func308 rfl (by kernel_rfl) (Args.five .t qi .t .t .t)) r4 r1 qZ))))))) hB [] [1,0] rfl rfl fun a w F hS=>?_
 have hS:=hS.turn 1 rfl (r':=RS.hp (Zu 192 4 ZI l v)) (fun _ _ _ _ h=>h)
 refine Zas hG hS rfl .nil ZaF.none rfl
theorem ZnI (w:World) (yy:Ys):PVs (ZI noE) [.int .i64 0,.int .i64 0,.int .i64 0,.int .i64 0] w yy:=by
 have h:inR .i64 0:=by simp [inR,IntKind.min,IntKind.max,IntKind.signed,IntKind.bits]
 exact ⟨⟨rfl,rfl,h⟩,⟨rfl,rfl,h⟩,⟨rfl,rfl,h⟩,⟨rfl,rfl,h⟩,trivial⟩
theorem Zc4:inR .i64 0:=by show IntKind.min .i64≤0∧0≤IntKind.max .i64;decide
def Zm {α:Type} [DecidableEq α]:List α→List α
 | []=>[]
 | [x]=>[x]
 | x :: y :: l=>if x=y then Zm (y :: l) else x :: Zm (y :: l)
theorem ZbQ {α:Type} [DecidableEq α] (a b:α):∀ l:List α,Zm (l ++ [a,b])=if a=b then Zm (l ++ [a]) else Zm (l ++ [a]) ++ [b]
 | []=>by
   show (if a=b then [b] else a :: [b])=if a=b then [a] else [a] ++ [b]
   split
   · rename_i h;rw [h]
   · rfl
 | [x]=>by
   have ih:=ZbQ a b []
   show (if x=a then Zm ([] ++ [a,b]) else x :: Zm ([] ++ [a,b]))=if a=b then (if x=a then Zm ([] ++ [a]) else x :: Zm ([] ++ [a])) else (if x=a then Zm ([] ++ [a]) else x :: Zm ([] ++ [a])) ++ [b]
   rw [ih]
   by_cases h1:x=a <;> by_cases h2:a=b <;> simp [h1,h2]
 | x :: y :: l=>by
   have ih:=ZbQ a b (y :: l)
   show (if x=y then Zm (y :: l ++ [a,b]) else x :: Zm (y :: l ++ [a,b]))=if a=b then (if x=y then Zm (y :: l ++ [a]) else x :: Zm (y :: l ++ [a])) else (if x=y then Zm (y :: l ++ [a]) else x :: Zm (y :: l ++ [a])) ++ [b]
   rw [ih]
   by_cases h1:x=y <;> by_cases h2:a=b <;> simp [h1,h2]
theorem Za5 {α:Type} [DecidableEq α] [Inhabited α] {l:List α} {p:Nat} (h1:1≤p) (h2:p<l.length):Zm (l.take (p+1))=if Go.Gm.nth l (p - 1)=Go.Gm.nth l p then Zm (l.take p) else Zm (l.take p) ++ [Go.Gm.nth l p]:=by
 obtain ⟨q,rfl⟩:∃ q,p=q+1:=⟨p - 1,by omega⟩
 rw [Zv h2,Zv (show q<l.length by omega),List.append_assoc]
 exact ZbQ _ _ _
theorem Zbq {α:Type} [DecidableEq α]:∀ {l:List α},l.length≤1→Zm l=l
 | [],_=>rfl
 | [x],_=>rfl
 | x :: y :: l,h=>by simp at h
structure STO {α:Type} (lt:α→α→Bool):Prop where
 irr:∀ a,lt a a=false
 tr:∀ a b c,lt a b=true→lt b c=true→lt a c=true
 tot:∀ a b,lt a b=false→lt b a=false→a=b
section
variable {α:Type} {lt:α→α→Bool}
theorem STO.asym (h:STO lt) {a b:α} (k:lt a b=true):lt b a=false:=by
 cases e:lt b a with
 | false=>rfl
 | true=>have:=h.tr a b a k e;rw [h.irr] at this;cases this
theorem STO.ne (h:STO lt) {a b:α} (k:lt a b=true):a≠b:=fun e=>by subst e;rw [h.irr] at k;cases k
theorem STO.le (h:STO lt) {a b c:α} (h1:lt a b=true) (h2:lt c b=false):lt a c=true:=by
 cases e:lt a c with
 | true=>rfl
 | false=>
   cases e2:lt c a with
   | true=>have:=h.tr c a b e2 h1;rw [h2] at this;cases this
   | false=>have:=h.tot a c e e2;subst this;rw [h1] at h2;cases h2
abbrev ZmO (lt:α→α→Bool) (l:List α):Prop:=l.Pairwise fun a b=>lt a b=true
theorem Zfo (h:STO lt):∀ {a b:List α},ZmO lt a→ZmO lt b→(∀ x,x ∈ a ↔ x ∈ b)→a=b
 | [],[],_,_,_=>rfl
 | [],y :: b,_,_,k=>by have:=(k y).2 (by simp);cases this
 | x :: a,[],_,_,k=>by have:=(k x).1 (by simp);cases this
 | x :: a,y :: b,ha,hb,k=>by
   have ha':=List.pairwise_cons.1 ha
   have hb':=List.pairwise_cons.1 hb
   have e:x=y:=by
     rcases List.mem_cons.1 ((k x).1 (by simp)) with e | e
     · exact e
     · rcases List.mem_cons.1 ((k y).2 (by simp)) with e2 | e2
       · exact e2.symm
       · have h1:=h.asym (hb'.1 x e);rw [ha'.1 y e2] at h1;cases h1
   subst e
   congr 1
   refine Zfo h ha'.2 hb'.2 fun z=>⟨fun hz=>?_,fun hz=>?_⟩
   · rcases List.mem_cons.1 ((k z).1 (by simp [hz])) with e | e
     · exact absurd e.symm (h.ne (ha'.1 z hz))
     · exact e
   · rcases List.mem_cons.1 ((k z).2 (by simp [hz])) with e | e
     · exact absurd e.symm (h.ne (hb'.1 z hz))
     · exact e
theorem ZjJ (h:STO lt) (l:List α):(l.mergeSort fun x y=>!lt y x).Pairwise (fun a b=>lt b a=false):=by
 have:=List.pairwise_mergeSort (le:=fun x y=>!lt y x) (fun a b c h1 h2=>by
   simp at h1 h2 ⊢
   cases e:lt c a with
   | false=>rfl
   | true=>have:=h.le e h1;rw [h2] at this;cases this) (fun a b=>by
   cases e:lt b a with
   | false=>simp
   | true=>simp [h.asym e]) l
 exact this.imp fun h=>by simpa using h
variable [DecidableEq α]
def ZdE (lt:α→α→Bool) (e:α):List α→Bool→List α
 | [],d=>if d then [] else [e]
 | x :: l,d=>(if d=false∧lt x e=false then [e] else [])++(if x=e then [] else [x])++ZdE lt e l (d || !lt x e)
def Zk1 (lt:α→α→Bool) (l:List α) (e:α):List α:=ZdE lt e l false
theorem ZhT (lt:α→α→Bool) (e:α):∀ (l:List α) (d:Bool),(ZdE lt e l d).length≤l.length+(if d then 0 else 1)
 | [],d=>by cases d <;> simp [ZdE]
 | x :: l,d=>by
   have ih:=ZhT lt e l (d || !lt x e)
   have h1:(if x=e then ([]:List α) else [x]).length≤1:=by split <;> simp
   have h2:(if d=false∧lt x e=false then [e] else ([]:List α)).length+(if (d || !lt x e)=true then 0 else 1)≤if d=true then 0 else 1:=by
     cases d <;> cases lt x e <;> simp
   rw [ZdE,List.length_append,List.length_append,List.length_cons]
   omega
theorem ZdR (h:STO lt) {e:α} : ∀ {l:List α},(∀ x ∈ l,lt e x=true)→ZdE lt e l true=l
 | [],_=>rfl
 | x :: l,k=>by
   have h1:=k x (by simp)
   rw [ZdE,Bool.true_or,ZdR h fun y hy=>k y (by simp [hy]),if_neg (by simp),if_neg (h.ne h1).symm]
   rfl
theorem Zji (h:STO lt) {e:α} : ∀ {l:List α},ZmO lt l→ZmO lt (Zk1 lt l e) ∧ ∀ x,x ∈ Zk1 lt l e ↔ x ∈ l∨x=e
 | [],_=>by simp [Zk1,ZdE]
 | y :: l,k=>by
   have h':=List.pairwise_cons.1 k
   unfold Zk1
   cases h1:lt y e with
   | true=>
     have e1:ZdE lt e (y :: l) false=y :: ZdE lt e l false:=by
       rw [ZdE,if_neg (by rw [h1];simp),if_neg (h.ne h1),h1];rfl
     have ih:=Zji h (e:=e) h'.2
     rw [e1]
     refine ⟨List.pairwise_cons.2 ⟨fun p hp=>?_,ih.1⟩,fun x=>?_⟩
     · rcases (ih.2 p).1 hp with hp | rfl
       · exact h'.1 p hp
       · exact h1
     · have:=ih.2 x
       unfold Zk1 at this
       simp only [List.mem_cons,this,or_assoc]
   | false=>
     by_cases h2:y=e
     · subst h2
       rw [ZdE,if_pos ⟨rfl,h1⟩,if_pos rfl,h1,show (false || !false)=true from rfl,ZdR h h'.1]
       exact ⟨k,fun x=>by simp;intro e;exact .inl e⟩
     · have h3:lt e y=true:=by
         cases e3:lt e y with
         | true=>rfl
         | false=>exact absurd (h.tot y e h1 e3) h2
       rw [ZdE,if_pos ⟨rfl,h1⟩,if_neg h2,h1,show (false || !false)=true from rfl,ZdR h fun x hx=>h.tr e y x h3 (h'.1 x hx)]
       refine ⟨List.pairwise_cons.2 ⟨fun p hp=>?_,k⟩,fun x=>by simp;constructor <;> (rintro (h | h | h) <;> simp [h])⟩
       rcases List.mem_cons.1 hp with rfl | hp
       · exact h3
       · exact h.tr e y p h3 (h'.1 p hp)
def Zbf (lt:α→α→Bool) (l:List α):List α:=l.foldl (Zk1 lt) []
theorem Zbh (h:STO lt) (l:List α):ZmO lt (Zbf lt l) ∧ ∀ x,x ∈ Zbf lt l ↔ x ∈ l:=by
 have key:∀ (l acc:List α),ZmO lt acc→ZmO lt (l.foldl (Zk1 lt) acc) ∧ ∀ x,x ∈ l.foldl (Zk1 lt) acc ↔ x ∈ acc∨x ∈ l:=by
   intro l
   induction l with
   | nil=>intro acc k;exact ⟨k,fun x=>by simp⟩
   | cons y l ih=>
     intro acc k
     have h1:=Zji h (e:=y) k
     have h2:=ih (Zk1 lt acc y) h1.1
     refine ⟨h2.1,fun x=>?_⟩
     rw [List.foldl_cons,h2.2 x,h1.2 x,List.mem_cons,or_assoc]
 have:=key l [] List.Pairwise.nil
 exact ⟨this.1,fun x=>by rw [show Zbf lt l=l.foldl (Zk1 lt) [] from rfl,this.2 x];simp⟩
theorem Zcr (h:STO lt):∀ {l:List α},l.Pairwise (fun a b=>lt b a=false)→ZmO lt (Zm l) ∧ ∀ x,x ∈ Zm l ↔ x ∈ l
 | [],_=>by simp [Zm]
 | [x],_=>by simp [Zm]
 | x :: y :: l,k=>by
   have h':=List.pairwise_cons.1 k
   have ih:=Zcr h h'.2
   show ZmO lt (if x=y then Zm (y :: l) else x :: Zm (y :: l)) ∧ ∀ z,z ∈ (if x=y then Zm (y :: l) else x :: Zm (y :: l)) ↔ _
   split
   · rename_i e
     subst e
     exact ⟨ih.1,fun z=>by rw [ih.2 z];simp⟩
   · rename_i e
     have hxy:lt x y=true:=by
       cases e2:lt x y with
       | true=>rfl
       | false=>exact absurd (h.tot x y e2 (h'.1 y (by simp))) e
     refine ⟨List.pairwise_cons.2 ⟨fun z hz=>?_,ih.1⟩,fun z=>by rw [List.mem_cons,ih.2 z,← List.mem_cons]⟩
     rcases List.mem_cons.1 ((ih.2 z).1 hz) with rfl | hz2
     · exact hxy
     · exact h.le hxy ((List.pairwise_cons.1 h'.2).1 z hz2)
theorem ZhN (h:STO lt) (l:List α):Zm (l.mergeSort fun x y=>!lt y x)=Zbf lt l:=
 Zfo h (Zcr h (ZjJ h l)).1 (Zbh h l).1 fun x=>by rw [(Zcr h (ZjJ h l)).2,(Zbh h l).2];exact (List.mergeSort_perm l _).mem_iff
end
theorem ZrX (d e:Zk):(decide (d.src=e.src) && (decide (d.dst=e.dst) && (decide (d.kind=e.kind) && (decide (d.key=e.key) && true))))=decide (d=e):=by
 cases d;cases e
 rw [Bool.eq_iff_iff]
 simp
def ltE (a b:Zk):Bool:=decide (cmpE a b<0)
theorem ZjR (a b:Zk):(cmpE a b<0 ↔ a.src<b.src∨a.src=b.src∧(a.kind<b.kind∨a.kind=b.kind∧(a.key<b.key∨a.key=b.key∧a.dst<b.dst))):=by
 unfold cmpE Zen Zfz
 by_cases h1:a.src=b.src
 · rw [if_pos h1]
   unfold Zfz
   by_cases h2:a.kind=b.kind
   · rw [if_pos h2]
     unfold Zfz
     by_cases h3:a.key=b.key
     · rw [if_pos h3]
       unfold Zfz
       by_cases h4:a.dst=b.dst
       · rw [if_pos h4];unfold Zfz;simp;omega
       · rw [if_neg h4];unfold Zch;split <;> (try split) <;> omega
     · rw [if_neg h3];unfold Zch;split <;> (try split) <;> omega
   · rw [if_neg h2];unfold Zch;split <;> (try split) <;> omega
 · rw [if_neg h1];unfold Zch;split <;> (try split) <;> omega
theorem ZpY (a b:Zk):ltE a b=true ↔ a.src<b.src∨a.src=b.src∧(a.kind<b.kind∨a.kind=b.kind∧(a.key<b.key∨a.key=b.key∧a.dst<b.dst)):=by unfold ltE;rw [decide_eq_true_eq,ZjR]
theorem ZiV (a b:Zk):ltE a b=false ↔ ¬ (a.src<b.src∨a.src=b.src∧(a.kind<b.kind∨a.kind=b.kind∧(a.key<b.key∨a.key=b.key∧a.dst<b.dst))):=by unfold ltE;rw [decide_eq_false_iff_not,ZjR]
theorem ZbA:STO ltE where
 irr a:=by rw [ZiV];omega
 tr a b c h1 h2:=by rw [ZpY] at *;omega
 tot a b h1 h2:=by
   rw [ZiV] at h1 h2
   cases a;cases b
   simp only [Zk.mk.injEq] at *
   omega
def Zb7 (l:List Zk):List Zk:=l.mergeSort fun x y=>!ltE y x
theorem Zko (l:List Zk):Zm (Zb7 l)=Zbf ltE l:=ZhN ZbA l
theorem Zij (l:List Zk):(Zb7 l).length=l.length:=List.length_mergeSort l
theorem ZcU {α:Type} [Inhabited α] {p:α→Bool} {l:List α} {j:Nat} (h:j<l.length):(l.take (j+1)).filter p=(l.take j).filter p++if p (Go.Gm.nth l j)=true then [Go.Gm.nth l j] else []:=by
 rw [Zv h,List.filter_append]
 congr 1
 by_cases e:p (Go.Gm.nth l j)=true
 · rw [if_pos e];simp [e]
 · rw [if_neg e];simp at e;simp [e]
def Z6 {α:Type} [Inhabited α] (p:α→Bool) (l:List α):Int:=match l.findIdx? p with
 | some i=>i
 | none=>-1
theorem Zbp {α:Type} [Inhabited α] {p:α→Bool} {l:List α} (h:∀ k,k<l.length→p (Go.Gm.nth l k)=false):Z6 p l = -1:=by
 unfold Z6
 have:l.findIdx? p=none:=List.findIdx?_eq_none_iff.2 fun x hx=>by
   obtain ⟨k,hk,rfl⟩:=List.mem_iff_getElem.1 hx
   rw [← nth_eq hk];exact h k hk
 rw [this]
theorem Zcx {α:Type} [Inhabited α] {p:α→Bool} {l:List α} {i:Nat} (hi:i<l.length) (h:p (Go.Gm.nth l i)=true) (h2:∀ k,k<i→p (Go.Gm.nth l k)=false):Z6 p l=i:=by
 unfold Z6
 have:l.findIdx? p=some i:=List.findIdx?_eq_some_iff_getElem.2 ⟨hi,by rw [← nth_eq hi];exact h,fun k hk=>by rw [← nth_eq (by omega),h2 k hk];decide⟩
 rw [this]
theorem ZaT {α:Type} [Inhabited α] (p:α→Bool) (l:List α):(Z6 p l = -1 ∧ ∀ k,k<l.length→p (Go.Gm.nth l k)=false) ∨ ∃ i:Nat,Z6 p l=i∧i<l.length∧p (Go.Gm.nth l i)=true ∧ ∀ k,k<i→p (Go.Gm.nth l k)=false:=by
 cases h:l.findIdx? p with
 | none=>
   left
   refine ⟨by unfold Z6;rw [h],fun k hk=>?_⟩
   have:=List.findIdx?_eq_none_iff.1 h l[k] (List.getElem_mem hk)
   rw [nth_eq hk];exact this
 | some i=>
   right
   obtain ⟨h1,h2,h3⟩:=List.findIdx?_eq_some_iff_getElem.1 h
   refine ⟨i,by unfold Z6;rw [h],h1,by rw [nth_eq h1];exact h2,fun k hk=>?_⟩
   rw [nth_eq (by omega)]
   simpa using h3 k hk
theorem ZdD {α:Type} [Inhabited α] {p:α→Bool} {l:List α} (h:∀ k,k<l.length→p (Go.Gm.nth l k)=false):l.filter (fun x=>!p x)=l:=by
 rw [List.filter_eq_self]
 intro x hx
 obtain ⟨k,hk,rfl⟩:=List.mem_iff_getElem.1 hx
 rw [← nth_eq hk,h k hk];rfl
theorem Zf3 {α:Type} [Inhabited α] {p:α→Bool} {l:List α} {i:Nat} (hi:i<l.length) (hip:p (Go.Gm.nth l i)=true) (hib:∀ k,k<i→p (Go.Gm.nth l k)=false):l.take i=(l.take (i+1)).filter fun x=>!p x:=by
 have h:(l.take i).filter (fun x=>!p x)=l.take i:=ZdD fun k hk=>by
   rw [List.length_take] at hk
   rw [nth_eq (by rw [List.length_take];omega),List.getElem_take,← nth_eq (by omega)]
   exact hib k (by omega)
 rw [ZcU (p:=fun x=>!p x) hi,hip,h];simp
theorem Zeu (l:List Int) (hl:l.length≤1000000):FnG Tryz.prog 64 1 [.sl Zo l] [.star []] (PV.one) (fun v=>[Zu 3 1 Zo l v]):=by
 refine FnG.mk Tryz.func64 rfl Tryz.ntmps64 rfl (by kernel_rfl) ?_
 intro B F0 a w F hB hG hS
 obtain ⟨F,hS⟩:=hS.nm [0] [0] rfl rfl
 refine wp_seq ?_
 refine Zb hS (qC qZ) hB [2,0] [0] rfl rfl fun a w F hS=>Za (wp_seq (wp_seq ?_))
 refine Zb hS (qM rfl rfl (qf (ZbS Tryz.underlying34 .t) r1 qz qZ)) hB [4,2,0] [0] rfl rfl fun a w F hS=>?_
 obtain ⟨β4,hβ4,hS⟩:=hS.pickBool 4 rfl
 obtain ⟨F,hS⟩:=hS.nm [4,2,0] [0] rfl rfl
 refine Za ?_
 refine Zd hS rfl (fun hc0=>?_) (fun hc0=>?_)
 ·skip
  have hg:l = []:=hβ4 hc0
  refine wp_seq ?_
  refine Zb hS (qC qZ) hB [2,0] [0] rfl rfl fun a w F hS=>Za (wp_ret (Zi ?_))
  have hS:=hS.fresh 1 rfl
  have hS:=hS.turn 1 rfl (Zbj (T:=3) (sz:=1) (R:=Zo))
  have hS:=hS.turn 1 rfl (r':=RS.hp (Zu 3 1 Zo l (.slice none 0 0))) (fun _ _ _ _ h=>by rw [hg];exact h)
  refine Z2 (h':=fun v=>Zu 3 1 Zo l v) hG hS rfl (.tmp rfl .nil) (.one .one) rfl
 have hg:l = [] ++ l:=rfl
 refine wp_skip (Za (wp_seq ?_))
 refine Zc hS (qf (Za3 (R:=Zo) (sz:=1) 101 Tryz.underlying34 (by kernel_rfl)) trivial qz (qM rfl rfl (qf (ZV (sz:=1) (bs:=8) 101 (.mk' Tryz.underlying34 (by kernel_rfl) (by kernel_rfl)) (by intro x;rfl) .same (.sl .t) (by simp only [List.length_append,List.length_nil];omega) (by decide)) ⟨rfl,rfl,trivial⟩ ⟨rfl,trivial⟩ (qN rfl rfl qZ)))) hB [2] [101,0] (fun _=>rfl) (fun _=>rfl) fun τ a w F hS=>?_
 try dsimp only [RS.sub,SF.sub,CF.sub,csub,Anc.sub,List.map,Zf,xL,xM,Nat.reduceAdd,xD,xE,xT,xU,xC,xN,zCF,Zo] at hS
 generalize τ 7=v7 at hS
 refine Za (wp_ret ?_)
 obtain ⟨F,hS⟩:=hS.rename 101 1 rfl rfl
 have hS:=hS.turn 1 rfl (r':=RS.hp (Zu 3 1 Zo l v7)) (fun _ _ _ _ h=>by rw [hg];exact h)
 refine Z2 (h':=fun v=>Zu 3 1 Zo l v) hG hS rfl (.tmp rfl .nil) (.one .one) rfl
theorem Zq2 (l : List Int) (p : Int → Bool) (f : FuncId) (fn : Func) (cps : List PV) (hf : Tryz.prog.funcs[f]? = some fn) (hb : fn.body.isSome = true) (hnn : (fn.name == "runtime.NumGoroutine") = false) (hw : ∀ x, FnP Tryz.prog f (.int .i64 x :: cps) (.bool (p x))) : FnP Tryz.prog 262 [.sl Zo l, .clos f cps] (.int .i64 (Z6 p l)) := by
 refine FnP.mk Tryz.func262 rfl Tryz.ntmps262 rfl ?_
 intro B a w F hB hfr hS
 have hll:=Sat.lenSl hS (i:=0) rfl
 refine wp_seq ?_
 refine Zb hS (qI qZ) hB [4,1,0] [0] rfl rfl fun a w F hS=>Za (wp_seq (wp_seq ?_))
 refine Zb hS (qM rfl rfl (qu Tryz.underlying34 r1 (qJ qZ))) hB [8,7,4,1,0] [0] rfl rfl fun a w F hS=>Za (wp_block ?_)
 refine Zl (σ:=(Nat)) [0,1,4,7] [0] (fun s=>[(8,.pv (.int .i64 (s:Int)))]) (fun s=>[]) (fun s=>s≤l.length∧(∀ k,k<s→p (Go.Gm.nth l k)=false)) (fun s=>l.length - s) (0) hS ⟨rfl,rfl,rfl,rfl,rfl,trivial⟩ ⟨rfl,trivial⟩ ⟨Nat.zero_le _,fun k hk=>absurd hk (Nat.not_lt_zero k)⟩ ?_
 clear hS;intro i a w F hC hS
 try dsimp only at hC
 obtain ⟨F,hS⟩:=hS.nm [8,7,4,1,0] [0] rfl rfl
 try dsimp only at hS
 obtain ⟨hi,hq⟩:=hC
 refine wp_seq ?_
 refine Zb hS (qL r2) hB [9,8,7,4,1,0] [0] rfl rfl fun a w F hS=>Za (wp_seq ?_)
 refine Zd hS rfl (fun hc0=>?_) (fun hc0=>?_)
 ·skip
  have hil:i<l.length:=by simp at hc0;omega
  refine wp_skip (Za (wp_seq (wp_block (wp_seq ?_))))
  refine Zb hS (qM rfl rfl (qN rfl rfl qZ)) hB [8,7,5,4,1,0] [0] rfl rfl fun a w F hS=>Za (wp_seq ?_)
  refine Zb hS (qM rfl rfl (qM rfl rfl (qM rfl rfl (qy 1 Tryz.underlying34 r2 (qf (oR false 1 .t) r1 qz (qf (ZK (avs:=[.int .i64 (Go.Gm.nth l i)]) .t (hw (Go.Gm.nth l i)) hf hb hnn (Args.one .t)) r2 qz qZ)))))) hB [16,8,7,5,4,1,0] [0] rfl rfl fun a w F hS=>?_
  try simp only [Int.toNat_natCast] at hS
  refine Za ?_
  refine Zd hS rfl (fun hc1=>?_) (fun hc1=>?_)
  ·skip
   have hg:(i:Int)=Z6 p l:=(Zcx hil hc1 hq).symm
   refine wp_seq ?_
   refine Zb hS (qM rfl rfl (qN rfl rfl qZ)) hB [8,7,4,1,0] [0] rfl rfl fun a w F hS=>Za (wp_ret (Zs (Zi (Zi (Zs (Zi ?_))))))
   refine Zw hfr hS rfl rfl rfl (.int hg)
  have hne:p (Go.Gm.nth l i)=false:=hc1
  refine wp_skip (Zj (Za ?_))
  refine Zb hS (qp r1 (qM rfl rfl qZ)) hB [8,7,4,1,0] [0] rfl rfl fun a w F hS=>Za ?_
  replace hS:=hS.ent (i:=8) (s':=.pv (.int .i64 ((i+1:Nat):Int))) rfl (.int (Ze (by omega)))
  obtain ⟨F,hS⟩:=hS.nm [7,4,1,0,8] [0] rfl rfl
  exact ⟨(i+1),F,⟨by omega,(fun k hk=>by rcases Nat.lt_or_eq_of_le (Nat.le_of_lt_succ hk) with h | h;exact hq k h;rw [h];exact hne)⟩,hS,by omega⟩
 have hil:i=l.length:=by simp at hc0;omega
 have hg : -1=Z6 p l:=(Zbp fun k hk=>hq k (by simp at hc0;omega)).symm
 refine wp_exit (Zh (Zh (Zp (Za (wp_seq ?_)))))
 refine Zb hS (qI qZ) hB [4] [0] rfl rfl fun a w F hS=>Za (wp_ret ?_)
 refine Zw hfr hS rfl rfl rfl (.int hg)
theorem Zqk (v : Value) (l : List Int) (hll : l.length ≤ 1000000) (p : Int → Bool) (f : FuncId) (fn : Func) (cps : List PV) (hf : Tryz.prog.funcs[f]? = some fn) (hb : fn.body.isSome = true) (hnn : (fn.name == "runtime.NumGoroutine") = false) (hw : ∀ x, FnP Tryz.prog f (.int .i64 x :: cps) (.bool (p x))) : FnG Tryz.prog 213 1 [.is v, .clos f cps] [Zu 3 1 Zo l v] (PV.one) (fun v => [Zu 3 1 Zo (l.filter fun x => !p x) v]) := by
 refine FnG.mk Tryz.func213 rfl Tryz.ntmps213 rfl (by kernel_rfl) ?_
 intro B F0 a w F hB hG hS
 replace hS:=hS.turn 1 rfl (r':=.ob (.val v) (Zu 3 1 Zo l)) (fun _ _ _ _ h=>h)
 refine wp_seq ?_
 refine Zb hS (qC qZ) hB [4,1,0] [1,0] rfl rfl fun a w F hS=>Za (wp_seq ?_)
 refine Zb hS (qM rfl rfl (qM rfl rfl (qf (OpC.lendRow 1 [8] (oP (Zq2 l p f fn cps hf hb hnn hw) Tryz.func262 (Args.two .t .t)) ⟨rfl,trivial,trivial⟩ (.pv (fun _ _ _ _ h=>h)) trivial (by rfl)) r2 r1 (qN rfl rfl qZ)))) hB [5,4,1,0] [1,0] rfl rfl fun a w F hS=>Za (wp_seq (wp_seq ?_))
 refine Zb hS (qM rfl rfl (qf (o_eql .t qi) r1 qz qZ)) hB [12,5,4,1,0] [1,0] rfl rfl fun a w F hS=>Za ?_
 refine Zd hS rfl (fun hc0=>?_) (fun hc0=>?_)
 ·skip
  have hno:=(ZaT p l).resolve_right (by rintro ⟨i,h1,_⟩;simp at hc0;omega)
  have hg:(l.filter fun x=>!p x)=l:=ZdD hno.2
  refine wp_seq ?_
  refine Zb hS (qM rfl rfl (qN rfl rfl qZ)) hB [5,4,1,0] [1,0] rfl rfl fun a w F hS=>Za (wp_ret (Zi ?_))
  have hS:=hS.turn 1 rfl (r':=RS.hp (Zu 3 1 Zo (l.filter fun x=>!p x) v)) (fun _ _ _ _ h=>by rw [hg];exact h)
  refine Z2 (h':=fun v=>Zu 3 1 Zo (l.filter fun x=>!p x) v) hG hS rfl (.tmp rfl .nil) (.one .one) rfl
 obtain ⟨i0,hi0,hi1,hip,hib⟩:=(ZaT p l).resolve_left (by rintro ⟨h1,_⟩;simp [h1] at hc0)
 have hst0:=Zf3 hi1 hip hib
 refine wp_skip (Za (wp_seq (wp_seq ?_)))
 refine Zb hS (qM rfl rfl (qp r1 (qN rfl rfl qZ))) hB [6,5,4,1,0] [1,0] rfl rfl fun a w F hS=>Za (wp_block ?_)
 have hC0:i0<i0+1∧i0+1≤l.length∧l.length=l.length∧l.take i0=(l.take (i0+1)).filter (fun x=>!p x) ∧ ∀ k,i0+1≤k→k<l.length→Go.Gm.nth l k=Go.Gm.nth l k:=⟨by omega,by omega,rfl,hst0,fun k _ _=>rfl⟩
 replace hS:=hS.ent (i:=5) (s':=.pv (.int .i64 (i0:Int))) rfl (.int hi0)
 replace hS:=hS.ent (i:=6) (s':=.pv (.int .i64 ((i0+1:Nat):Int))) rfl (.int (by rw [hi0,ZJ (by omega)];omega))
 refine Zl (σ:=Nat×Nat×List Int) [0,1,4] [0] (fun s=>[(5,.pv (.int .i64 (s.1:Int))),(6,.pv (.int .i64 (s.2.1:Int)))]) (fun s=>[(1,.ob (.val v) (Zu 3 1 Zo s.2.2))]) (fun s=>s.1<s.2.1∧s.2.1≤l.length∧s.2.2.length=l.length∧s.2.2.take s.1=(l.take s.2.1).filter (fun x=>!p x) ∧ ∀ k,s.2.1≤k→k<l.length→Go.Gm.nth s.2.2 k=Go.Gm.nth l k) (fun s=>l.length - s.2.1) ((i0),(i0+1),(l)) hS ⟨rfl,rfl,rfl,rfl,rfl,trivial⟩ ⟨rfl,rfl,trivial⟩ hC0 ?_
 clear hS;intro s a w F hC hS
 obtain ⟨i,j,l1⟩:=s
 try dsimp only at hC
 obtain ⟨F,hS⟩:=hS.nm [6,5,4,1,0] [1,0] rfl rfl
 try dsimp only at hS
 obtain ⟨hij,hj,hll1,htk,hrest⟩:=hC
 refine wp_seq (wp_seq ?_)
 refine Zb hS (qM rfl rfl (qM rfl rfl (qf (ZQ 1 Tryz.underlying34 .is) r1 r1 (qL r2)))) hB [19,6,5,4,1,0] [1,0] rfl rfl fun a w F hS=>Za ?_
 refine Zd hS rfl (fun hc1=>?_) (fun hc1=>?_)
 ·skip
  have hjl:j<l.length:=by simp at hc1;omega
  have hnj:Go.Gm.nth l1 j=(Go.Gm.nth l j):=hrest j (Nat.le_refl _) hjl
  have hfs:=ZcU (p:=fun x=>!p x) hjl
  refine wp_skip (Za (wp_seq (wp_block (wp_seq ?_))))
  refine Zb hS (qM rfl rfl (qM rfl rfl (qf (o_indexAddr_row (sz:=1) 1 (.mk Tryz.underlying34 (by kernel_rfl)) .is .t (by omega) (by omega) (by rfl)) r2 r1 (qf (Zz (ag:=false) (sz':=1) (sz:=1) 1 .t (by intro x;rfl) (by omega) (by kernel_rfl) (by kernel_rfl) (by kernel_rfl)) r1 r1 (qN rfl rfl qZ))))) hB [7,6,5,4,1,0] [1,0] rfl rfl fun a w F hS=>?_
  try simp only [Int.toNat_natCast] at hS
  rw [hnj] at hS
  refine Za (wp_seq ?_)
  refine Zb hS (qM rfl rfl (qM rfl rfl (qf (ZK (avs:=[.int .i64 (Go.Gm.nth l j)]) .t (hw (Go.Gm.nth l j)) hf hb hnn (Args.one .t)) r2 qz (qf (o_not .t) r1 qz qZ)))) hB [29,7,6,5,4,1,0] [1,0] rfl rfl fun a w F hS=>Za ?_
  refine Zd hS rfl (fun hc2=>?_) (fun hc2=>?_)
  ·skip
   have hp:p (Go.Gm.nth l j)=false:=by simpa using hc2
   obtain ⟨i2,hi2e⟩:∃ i2,i2=i+1:=⟨_,rfl⟩
   have hi2:IntKind.wrap .i64 ((i:Int)+1)=(i2:Int):=by rw [hi2e];exact Ze (by omega)
   obtain ⟨l2,hl2⟩:∃ l2,l2=l1.set i (Go.Gm.nth l j):=⟨_,rfl⟩
   have hC2:i2<j+1∧j+1≤l.length∧l2.length=l.length∧l2.take i2=(l.take (j+1)).filter (fun x=>!p x) ∧ ∀ k,j+1≤k→k<l.length→Go.Gm.nth l2 k=Go.Gm.nth l k:=⟨by omega,by omega,by rw [hl2,List.length_set];exact hll1,by rw [hl2,hi2e,hfs,hp,← htk,Zv (by rw [List.length_set];omega),List.take_set_of_le (Nat.le_refl _),nth_eq (by rw [List.length_set];omega),List.getElem_set_self];rfl,fun k hk hk2=>by rw [hl2,nth_eq (by rw [List.length_set];omega),List.getElem_set_ne (by omega),← nth_eq (by omega)];exact hrest k (by omega) hk2⟩
   refine wp_seq ?_
   refine Zb hS (qM rfl rfl (qM rfl rfl (qM rfl rfl (qf (o_indexAddr_row (sz:=1) 1 (.mk Tryz.underlying34 (by kernel_rfl)) .is .t (by omega) (by omega) (by rfl)) r2 r1 (qf (ZZ (R:=Zo) (sz:=1) (v:=(Go.Gm.nth l j)) 1 .t (by intro x;rfl) (by omega) .t rfl one_int (by kernel_rfl)) r2 r1 qZ))))) hB [6,5,4,1,0] [1,0] rfl rfl fun a w F hS=>?_
   try simp only [Int.toNat_natCast] at hS
   rw [← hl2] at hS
   refine Za ?_
   refine Zb hS (qM rfl rfl (qp r1 (qN rfl rfl qZ))) hB [6,5,4,1,0] [1,0] rfl rfl fun a w F hS=>Zj (Za ?_)
   refine Zb hS (qM rfl rfl (qp r1 (qN rfl rfl qZ))) hB [6,5,4,1,0] [1,0] rfl rfl fun a w F hS=>Za ?_
   have hmu:l.length - (j+1)<l.length - j:=by omega
   replace hS:=hS.ent (i:=5) (s':=.pv (.int .i64 (i2:Int))) rfl (.int hi2)
   replace hS:=hS.ent (i:=6) (s':=.pv (.int .i64 ((j+1:Nat):Int))) rfl (.int (Ze (by omega)))
   obtain ⟨F,hS⟩:=hS.nm [4,1,0,6,5] [0,1] rfl rfl
   exact ⟨((i2),(j+1),(l2)),F,hC2,hS,hmu⟩
  have hp:p (Go.Gm.nth l j)=true:=by simpa using hc2
  obtain ⟨i2,hi2e⟩:∃ i2,i2=i:=⟨_,rfl⟩
  have hi2:(i:Int)=(i2:Int):=by rw [hi2e]
  obtain ⟨l2,hl2⟩:∃ l2,l2=l1:=⟨_,rfl⟩
  rw [← hl2] at hS
  have hC2:i2<j+1∧j+1≤l.length∧l2.length=l.length∧l2.take i2=(l.take (j+1)).filter (fun x=>!p x) ∧ ∀ k,j+1≤k→k<l.length→Go.Gm.nth l2 k=Go.Gm.nth l k:=⟨by omega,by omega,by rw [hl2];exact hll1,by rw [hl2,hi2e,hfs,hp,htk];simp,fun k hk hk2=>by rw [hl2];exact hrest k (by omega) hk2⟩
  refine wp_skip (Zj (Za ?_))
  refine Zb hS (qM rfl rfl (qp r1 (qN rfl rfl qZ))) hB [6,5,4,1,0] [1,0] rfl rfl fun a w F hS=>Za ?_
  have hmu:l.length - (j+1)<l.length - j:=by omega
  replace hS:=hS.ent (i:=5) (s':=.pv (.int .i64 (i2:Int))) rfl (.int hi2)
  replace hS:=hS.ent (i:=6) (s':=.pv (.int .i64 ((j+1:Nat):Int))) rfl (.int (Ze (by omega)))
  obtain ⟨F,hS⟩:=hS.nm [4,1,0,6,5] [0,1] rfl rfl
  exact ⟨((i2),(j+1),(l2)),F,hC2,hS,hmu⟩
 have hjl:j=l.length:=by simp at hc1;omega
 have hil2:i<l.length:=by omega
 have hg:(l.filter fun x=>!p x)=(l1.take i++List.replicate (l1.length - i) (0:Int)).take i:=by rw [List.take_append_of_le_length (by rw [List.length_take];omega),List.take_take,Nat.min_self,htk,hjl,List.take_length]
 refine wp_exit (Zh (Zh (Zp (Za (wp_seq ?_)))))
 refine Zb hS (qM rfl rfl (qM rfl rfl (qf (Zag (sz:=1) 1 (.mk Tryz.underlying34 (by kernel_rfl)) .is .t (by omega) (by omega)) r2 r1 (qf (ZbN (R:=Zo) (z:=(0:Int)) (zs:=[.int .i64 0]) 1 Tryz.underlying34 (by kernel_rfl) rfl rfl (fun _ _=>⟨⟨rfl,rfl,Zc4⟩,trivial⟩) (by intro x;rfl) .t (by simp;omega)) r1 r1 qZ)))) hB [5,4,0] [1,0] rfl rfl fun a w F hS=>Za (wp_seq ?_)
 refine Zc hS (qM rfl rfl (qM rfl rfl (qf (ZbK (sz:=1) 1 (.mk Tryz.underlying34 (by kernel_rfl)) (by intro x;rfl) .is .t (by omega) (by simp;omega)) r2 r1 (qN rfl rfl qZ)))) hB [4] [1,0] (fun _=>rfl) (fun _=>rfl) fun τ a w F hS=>?_
 try dsimp only [RS.sub,SF.sub,CF.sub,csub,Anc.sub,List.map,Zo] at hS
 generalize τ 41=v41 at hS
 refine Za (wp_ret ?_)
 have hS:=hS.turn 1 rfl (r':=RS.hp (Zu 3 1 Zo (l.filter fun x=>!p x) v41)) (fun _ _ _ _ h=>by rw [hg];exact h)
 refine Z2 (h':=fun v=>Zu 3 1 Zo (l.filter fun x=>!p x) v) hG hS rfl (.tmp rfl .nil) (.one .one) rfl
theorem ZmC (v:Value) (l:List Int) (hll:l.length≤1000000):FnG Tryz.prog 185 1 [.is v] [Zu 3 1 Zo l v] (PV.one) (fun v=>[Zu 3 1 Zo (Zm l) v]):=by
 refine FnG.mk Tryz.func185 rfl Tryz.ntmps185 rfl (by kernel_rfl) ?_
 intro B F0 a w F hB hG hS
 replace hS:=hS.turn 1 rfl (r':=.ob (.val v) (Zu 3 1 Zo l)) (fun _ _ _ _ h=>h)
 refine wp_seq ?_
 refine Zb hS (qC qZ) hB [2,0] [1,0] rfl rfl fun a w F hS=>Za (wp_seq (wp_seq ?_))
 refine Zb hS (qM rfl rfl (qf (ZQ 1 Tryz.underlying34 .is) r1 r1 (qf (ZbC .t qi) r1 qz qZ))) hB [8,2,0] [1,0] rfl rfl fun a w F hS=>Za ?_
 refine Zd hS rfl (fun hc0=>?_) (fun hc0=>?_)
 ·skip
  have hg:(Zm l)=l:=Zbq (by simp at hc0;omega)
  refine wp_seq ?_
  refine Zb hS (qM rfl rfl (qN rfl rfl qZ)) hB [2,0] [1,0] rfl rfl fun a w F hS=>Za (wp_ret (Zi ?_))
  have hS:=hS.turn 1 rfl (r':=RS.hp (Zu 3 1 Zo (Zm l) v)) (fun _ _ _ _ h=>by rw [hg];exact h)
  refine Z2 (h':=fun v=>Zu 3 1 Zo (Zm l) v) hG hS rfl (.tmp rfl .nil) (.one .one) rfl
 have hl2:2≤l.length:=by simp at hc0;omega
 refine wp_skip (Za (wp_seq (wp_seq ?_)))
 refine Zb hS (qI qZ) hB [3,2,0] [1,0] rfl rfl fun a w F hS=>Za (wp_block ?_)
 refine Zl (σ:=Nat) [0,2] [0,1] (fun s=>[(3,.pv (.int .i64 (s:Int)))]) (fun s=>[]) (fun s=>1≤s∧s≤l.length∧Zm (l.take s)=l.take s) (fun s=>l.length - s) (1) hS ⟨rfl,rfl,rfl,trivial⟩ ⟨rfl,rfl,trivial⟩ ⟨by omega,by omega,Zbq (by rw [List.length_take];omega)⟩ ?_
 clear hS;intro k a w F hC hS
 try dsimp only at hC
 obtain ⟨F,hS⟩:=hS.nm [3,2,0] [1,0] rfl rfl
 try dsimp only at hS
 obtain ⟨hk1,hkl,hkc⟩:=hC
 have hkw:IntKind.wrap .i64 ((k:Int) - 1)=(k:Int) - 1:=ZJ (by omega)
 refine wp_seq (wp_seq ?_)
 refine Zb hS (qM rfl rfl (qM rfl rfl (qf (ZQ 1 Tryz.underlying34 .is) r1 r1 (qL r2)))) hB [13,3,2,0] [1,0] rfl rfl fun a w F hS=>Za ?_
 refine Zd hS rfl (fun hc1=>?_) (fun hc1=>?_)
 ·skip
  have hil:k<l.length:=by simp at hc1;omega
  have hst:=Za5 (l:=l) hk1 hil
  have hy0:(IntKind.wrap .i64 ((k:Int) - 1)).toNat=k - 1:=by rw [hkw];omega
  refine wp_skip (Za (wp_seq (wp_block (wp_seq ?_))))
  refine Zy hS (qM rfl rfl (qM rfl rfl (qf (o_indexAddr_row (sz:=1) 1 (.mk Tryz.underlying34 (by kernel_rfl)) .is .t (by omega) (by omega) (by rfl)) r2 r1 (qf (Zz (ag:=false) (sz':=1) (sz:=1) 1 .t (by intro x;rfl) (by omega) (by kernel_rfl) (by kernel_rfl) (by kernel_rfl)) r1 r1 (qM rfl rfl (qM rfl rfl (qf (o_sub .t qi) r1 qz (qf (o_indexAddr_row (sz:=1) 1 (.mk Tryz.underlying34 (by kernel_rfl)) .is .t (by rw [hkw];omega) (by rw [hkw];omega) (by rfl)) r2 r1 (qf (Zz (ag:=false) (sz':=1) (sz:=1) 1 .t (by intro x;rfl) (by rw [hkw];omega) (by kernel_rfl) (by kernel_rfl) (by kernel_rfl)) r1 r1 (qf (o_eql .t .t) r2 qz qZ)))))))))) hB [25,3,2,0] [1,0] rfl rfl fun a w F hS=>?_
  try dsimp only [List.map,xD,xE,xT,xU,ldSF,Zo] at hS
  try simp only [Int.toNat_natCast] at hS
  refine Za ?_
  refine Zd hS rfl (fun hc2=>?_) (fun hc2=>?_)
  ·skip
   have heq:Go.Gm.nth l (k - 1)=Go.Gm.nth l k:=by rw [hy0] at hc2;simp at hc2;exact hc2.symm
   rw [if_pos heq,hkc] at hst
   have hst0:=hst.symm
   refine wp_seq ?_
   refine Zb hS (qM rfl rfl (qM rfl rfl (qf (Zag (sz:=1) 1 (.mk Tryz.underlying34 (by kernel_rfl)) .is .t (by omega) (by omega)) r2 r1 (qN rfl rfl qZ)))) hB [4,3,2,0] [1,0] rfl rfl fun a w F hS=>Za (wp_seq (wp_seq ?_))
   refine Zb hS (qI qZ) hB [5,4,3,2,0] [1,0] rfl rfl fun a w F hS=>Za (wp_block ?_)
   have hC0:1≤1∧1≤l.length - k∧k≤k∧k≤k+1 - 1∧l.length=l.length∧l.take k=Zm (l.take (k+1)) ∧ ∀ q,k+1 - 1≤q→q<l.length→Go.Gm.nth l q=Go.Gm.nth l q:=⟨by omega,by omega,by omega,by omega,rfl,hst0,fun q _ _=>rfl⟩
   refine Zl (σ:=Nat×Nat×List Int) [0,2,4] [0] (fun s=>[(3,.pv (.int .i64 (s.1:Int))),(5,.pv (.int .i64 (s.2.1:Int)))]) (fun s=>[(1,.ob (.val v) (Zu 3 1 Zo s.2.2))]) (fun s=>1≤s.2.1∧s.2.1≤l.length - k∧k≤s.1∧s.1≤k+s.2.1 - 1∧s.2.2.length=l.length∧s.2.2.take s.1=Zm (l.take (k+s.2.1)) ∧ ∀ q,k+s.2.1 - 1≤q→q<l.length→Go.Gm.nth s.2.2 q=Go.Gm.nth l q) (fun s=>l.length - s.2.1) ((k),(1),(l)) hS ⟨rfl,rfl,rfl,rfl,rfl,trivial⟩ ⟨rfl,rfl,trivial⟩ hC0 ?_
   clear hS;intro s a w F hC hS
   obtain ⟨k1,j,l1⟩:=s
   try dsimp only at hC
   obtain ⟨F,hS⟩:=hS.nm [5,4,3,2,0] [1,0] rfl rfl
   try dsimp only at hS
   obtain ⟨hj1,hjk,hkk,hkj,hl1,htk,hrest⟩:=hC
   have hjw:IntKind.wrap .i64 ((j:Int) - 1)=(j:Int) - 1:=ZJ (by omega)
   refine wp_seq (wp_seq ?_)
   refine Zb hS (qM rfl rfl (qM rfl rfl (qf (Zh9 1 Tryz.underlying34 .t (by omega)) r1 r1 (qL r2)))) hB [32,5,4,3,2,0] [1,0] rfl rfl fun a w F hS=>Za ?_
   refine Zd hS rfl (fun hc3=>?_) (fun hc3=>?_)
   ·skip
    have hjl:k+j<l.length:=by simp at hc3;omega
    have hx1:(Go.Gm.nth l1 (((k:Int)).toNat+((j:Int)).toNat))=Go.Gm.nth l (k+j):=by rw [Int.toNat_natCast,Int.toNat_natCast];exact hrest _ (by omega) hjl
    have hx0:Go.Gm.nth l1 (((k:Int)).toNat+(IntKind.wrap .i64 ((j:Int) - 1)).toNat)=Go.Gm.nth l (k+j - 1):=by rw [hjw,show ((k:Int)).toNat+((j:Int) - 1).toNat=k+j - 1 by omega];exact hrest _ (by omega) (by omega)
    have hstp:=Za5 (l:=l) (p:=k+j) (by omega) hjl
    refine wp_skip (Za (wp_seq (wp_block (wp_seq ?_))))
    refine Zy hS (qM rfl rfl (qM rfl rfl (qf (o_indexAddr_sub (sz:=1) 1 (.mk Tryz.underlying34 (by kernel_rfl)) .t .t (by omega) (by omega) (by rfl)) r2 r1 (qf (Zz (ag:=false) (sz':=1) (sz:=1) 1 .t (by intro x;rfl) (by omega) (by kernel_rfl) (by kernel_rfl) (by kernel_rfl)) r1 r1 (qM rfl rfl (qM rfl rfl (qf (o_sub .t qi) r1 qz (qf (o_indexAddr_sub (sz:=1) 1 (.mk Tryz.underlying34 (by kernel_rfl)) .t .t (by rw [hjw];omega) (by rw [hjw];omega) (by rfl)) r2 r1 (qf (Zz (ag:=false) (sz':=1) (sz:=1) 1 .t (by intro x;rfl) (by rw [hjw];omega) (by kernel_rfl) (by kernel_rfl) (by kernel_rfl)) r1 r1 (qf (o_neq .t .t) r2 qz qZ)))))))))) hB [44,5,4,3,2,0] [1,0] rfl rfl fun a w F hS=>?_
    try dsimp only [List.map,xD,xE,xT,xU,ldSF,Zo] at hS
    try simp only [Int.toNat_natCast] at hS
    refine Za ?_
    refine Zd hS rfl (fun hc4=>?_) (fun hc4=>?_)
    ·skip
     have hne:¬ Go.Gm.nth l (k+j - 1)=Go.Gm.nth l (k+j):=by rw [← hx1,← hx0];simp at hc4 ⊢;exact fun e=>hc4 e.symm
     rw [if_neg hne] at hstp
     obtain ⟨i2,hi2e⟩:∃ i2,i2=k1+1:=⟨_,rfl⟩
     have hi2:IntKind.wrap .i64 ((k1:Int)+1)=(i2:Int):=by rw [hi2e];exact Ze (by omega)
     obtain ⟨l2,hl2e⟩:∃ l2,l2=l1.set k1 (Go.Gm.nth l1 (k+j)):=⟨_,rfl⟩
     have hx1b:Go.Gm.nth l1 (k+j)=Go.Gm.nth l (k+j):=hrest _ (by omega) hjl
     have hC2:1≤j+1∧j+1≤l.length - k∧k≤i2∧i2≤k+(j+1) - 1∧l2.length=l.length∧l2.take i2=Zm (l.take (k+(j+1))) ∧ ∀ q,k+(j+1) - 1≤q→q<l.length→Go.Gm.nth l2 q=Go.Gm.nth l q:=⟨by omega,by omega,by omega,by omega,by rw [hl2e,List.length_set];exact hl1,by rw [hl2e,hi2e,Zv (by rw [List.length_set];omega),List.take_set_of_le (Nat.le_refl _),htk,nth_eq (by rw [List.length_set];omega),List.getElem_set_self,hx1b];exact hstp.symm,fun q hq hq2=>by rw [hl2e,nth_eq (by rw [List.length_set];omega),List.getElem_set_ne (by omega),← nth_eq (by omega)];exact hrest q (by omega) hq2⟩
     refine wp_seq ?_
     refine Zb hS (qM rfl rfl (qM rfl rfl (qM rfl rfl (qM rfl rfl (qf (o_indexAddr_sub (sz:=1) 1 (.mk Tryz.underlying34 (by kernel_rfl)) .t .t (by omega) (by omega) (by rfl)) r2 r1 (qf (Zz (ag:=false) (sz':=1) (sz:=1) 1 .t (by intro x;rfl) (by omega) (by kernel_rfl) (by kernel_rfl) (by kernel_rfl)) r1 r1 (qf (o_indexAddr_row (sz:=1) 1 (.mk Tryz.underlying34 (by kernel_rfl)) .is .t (by omega) (by omega) (by rfl)) r2 r1 (qf (ZZ (R:=Zo) (sz:=1) (v:=(Go.Gm.nth l1 (((k:Int)).toNat+((j:Int)).toNat))) 1 .t (by intro x;rfl) (by omega) .t rfl one_int (by kernel_rfl)) r2 r1 qZ)))))))) hB [5,4,3,2,0] [1,0] rfl rfl fun a w F hS=>?_
     try simp only [Int.toNat_natCast] at hS
     rw [← hl2e] at hS
     refine Za ?_
     refine Zb hS (qM rfl rfl (qp r1 (qN rfl rfl qZ))) hB [5,4,3,2,0] [1,0] rfl rfl fun a w F hS=>Zj (Za ?_)
     refine Zb hS (qM rfl rfl (qp r1 (qN rfl rfl qZ))) hB [5,4,3,2,0] [1,0] rfl rfl fun a w F hS=>Za ?_
     have hmu:l.length - (j+1)<l.length - j:=by omega
     replace hS:=hS.ent (i:=3) (s':=.pv (.int .i64 (i2:Int))) rfl (.int hi2)
     replace hS:=hS.ent (i:=5) (s':=.pv (.int .i64 ((j+1:Nat):Int))) rfl (.int (Ze (by omega)))
     obtain ⟨F,hS⟩:=hS.nm [4,2,0,5,3] [0,1] rfl rfl
     exact ⟨((i2),(j+1),(l2)),F,hC2,hS,hmu⟩
    have heq2:Go.Gm.nth l (k+j - 1)=Go.Gm.nth l (k+j):=by rw [← hx1,← hx0];simp at hc4 ⊢;exact hc4.symm
    rw [if_pos heq2] at hstp
    obtain ⟨i2,hi2e⟩:∃ i2,i2=k1:=⟨_,rfl⟩
    have hi2:(k1:Int)=(i2:Int):=by rw [hi2e]
    obtain ⟨l2,hl2e⟩:∃ l2,l2=l1:=⟨_,rfl⟩
    rw [← hl2e] at hS
    have hC2:1≤j+1∧j+1≤l.length - k∧k≤i2∧i2≤k+(j+1) - 1∧l2.length=l.length∧l2.take i2=Zm (l.take (k+(j+1))) ∧ ∀ q,k+(j+1) - 1≤q→q<l.length→Go.Gm.nth l2 q=Go.Gm.nth l q:=⟨by omega,by omega,by omega,by omega,by rw [hl2e];exact hl1,by rw [hl2e,hi2e,htk];exact hstp.symm,fun q hq hq2=>by rw [hl2e];exact hrest q (by omega) hq2⟩
    refine wp_skip (Zj (Za ?_))
    refine Zb hS (qM rfl rfl (qp r1 (qN rfl rfl qZ))) hB [5,4,3,2,0] [1,0] rfl rfl fun a w F hS=>Za ?_
    have hmu:l.length - (j+1)<l.length - j:=by omega
    replace hS:=hS.ent (i:=3) (s':=.pv (.int .i64 (i2:Int))) rfl (.int hi2)
    replace hS:=hS.ent (i:=5) (s':=.pv (.int .i64 ((j+1:Nat):Int))) rfl (.int (Ze (by omega)))
    obtain ⟨F,hS⟩:=hS.nm [4,2,0,5,3] [0,1] rfl rfl
    exact ⟨((i2),(j+1),(l2)),F,hC2,hS,hmu⟩
   have hjl:k+j=l.length:=by simp at hc3;omega
   have hg:(Zm l)=(l1.take k1++List.replicate (l1.length - k1) (0:Int)).take k1:=by rw [List.take_append_of_le_length (by rw [List.length_take];omega),List.take_take,Nat.min_self,htk,hjl,List.take_length]
   refine wp_exit (Zh (Zh (Zp (Za (wp_seq ?_)))))
   refine Zb hS (qM rfl rfl (qM rfl rfl (qf (Zag (sz:=1) 1 (.mk Tryz.underlying34 (by kernel_rfl)) .is .t (by omega) (by omega)) r2 r1 (qf (ZbN (R:=Zo) (z:=(0:Int)) (zs:=[.int .i64 0]) 1 Tryz.underlying34 (by kernel_rfl) rfl rfl (fun _ _=>⟨⟨rfl,rfl,Zc4⟩,trivial⟩) (by intro x;rfl) .t (by simp;omega)) r1 r1 qZ)))) hB [3,2,0] [1,0] rfl rfl fun a w F hS=>Za (wp_seq ?_)
   refine Zc hS (qM rfl rfl (qM rfl rfl (qf (ZbK (sz:=1) 1 (.mk Tryz.underlying34 (by kernel_rfl)) (by intro x;rfl) .is .t (by omega) (by simp;omega)) r2 r1 (qN rfl rfl qZ)))) hB [3,2,0] [1,0] (fun _=>rfl) (fun _=>rfl) fun τ a w F hS=>?_
   try dsimp only [RS.sub,SF.sub,CF.sub,csub,Anc.sub,List.map,Zo] at hS
   generalize τ 59=v59 at hS
   refine Za (wp_ret (Zs (Zi (Zi (Zs (Zi ?_))))))
   have hS:=hS.turn 1 rfl (r':=RS.hp (Zu 3 1 Zo (Zm l) v59)) (fun _ _ _ _ h=>by rw [hg];exact h)
   refine Z2 (h':=fun v=>Zu 3 1 Zo (Zm l) v) hG hS rfl (.tmp rfl .nil) (.one .one) rfl
  have hne:¬ Go.Gm.nth l (k - 1)=Go.Gm.nth l k:=by rw [hy0] at hc2;simp at hc2;exact fun e=>hc2 e.symm
  rw [if_neg hne] at hst
  refine wp_skip (Zj (Za ?_))
  refine Zb hS (qM rfl rfl (qp r1 (qN rfl rfl qZ))) hB [3,2,0] [1,0] rfl rfl fun a w F hS=>Za ?_
  replace hS:=hS.ent (i:=3) (s':=.pv (.int .i64 ((k+1:Nat):Int))) rfl (.int (Ze (by omega)))
  obtain ⟨F,hS⟩:=hS.nm [2,0,3] [1,0] rfl rfl
  exact ⟨(k+1),F,⟨by omega,by omega,by rw [hst,hkc,← Zv hil]⟩,hS,by omega⟩
 have hg:(Zm l)=l:=by rw [show k=l.length by simp at hc1;omega,List.take_length] at hkc;exact hkc
 refine wp_exit (Zh (Zh (Zp (Za (wp_seq ?_)))))
 refine Zb hS (qM rfl rfl (qN rfl rfl qZ)) hB [2] [1,0] rfl rfl fun a w F hS=>Za (wp_ret ?_)
 have hS:=hS.turn 1 rfl (r':=RS.hp (Zu 3 1 Zo (Zm l) v)) (fun _ _ _ _ h=>by rw [hg];exact h)
 refine Z2 (h':=fun v=>Zu 3 1 Zo (Zm l) v) hG hS rfl (.tmp rfl .nil) (.one .one) rfl
def ZcM (n:Int):List Int→Bool→List Int
 | [],d=>if d then [] else [n]
 | x :: l,d=>(if d=false∧n≤x then [n] else [])++(if x=n then [] else [x])++ZcM n l (d || decide (n≤x))
def ZkZ (l:List Int) (n:Int):List Int:=ZcM n l false
abbrev Zg5 (l:List Int):Prop:=l.Pairwise fun a b=>a<b
theorem ZdI {n:Int} : ∀ {l:List Int},(∀ x ∈ l,n<x)→ZcM n l true=l
 | [],_=>rfl
 | x :: l,h=>by
   have:=h x (by simp)
   rw [ZcM,Bool.true_or,ZdI fun y hy=>h y (by simp [hy]),if_neg (by simp),if_neg (by omega)]
   rfl
theorem ZjX {n:Int} : ∀ {l:List Int},Zg5 l→Zg5 (ZkZ l n) ∧ ∀ x,x ∈ ZkZ l n ↔ x ∈ l∨x=n
 | [],_=>by simp [ZkZ,ZcM]
 | y :: l,h=>by
   have h':=List.pairwise_cons.1 h
   unfold ZkZ
   by_cases h1:y<n
   · have e:ZcM n (y :: l) false=y :: ZcM n l false:=by
       rw [ZcM,if_neg (by omega),if_neg (by omega),show (false || decide (n≤y))=false by simp;omega];rfl
     have ih:=ZjX (n:=n) h'.2
     rw [e]
     refine ⟨List.pairwise_cons.2 ⟨fun p hp=>?_,ih.1⟩,fun x=>?_⟩
     · rcases (ih.2 p).1 hp with hp | rfl
       · exact h'.1 p hp
       · exact h1
     · have:=ih.2 x
       unfold ZkZ at this
       simp only [List.mem_cons,this]
       constructor
       · rintro (h | h | h)
         · exact .inl (.inl h)
         · exact .inl (.inr h)
         · exact .inr h
       · rintro ((h | h) | h)
         · exact .inl h
         · exact .inr (.inl h)
         · exact .inr (.inr h)
   · by_cases h2:y=n
     · subst h2
       rw [ZcM,if_pos ⟨rfl,Int.le_refl _⟩,if_pos rfl,show (false || decide (y≤y))=true by simp,ZdI h'.1]
       exact ⟨h,fun x=>by simp;intro e;exact .inl e⟩
     · rw [ZcM,if_pos ⟨rfl,by omega⟩,if_neg h2,show (false || decide (n≤y))=true by simp;omega,ZdI fun x hx=>by have:=h'.1 x hx;omega]
       refine ⟨List.pairwise_cons.2 ⟨fun p hp=>?_,h⟩,fun x=>by simp;constructor <;> (rintro (h | h | h) <;> simp [h])⟩
       rcases List.mem_cons.1 hp with rfl | hp
       · omega
       · have:=h'.1 p hp;omega
def ZcL (l:List Int):List Int:=l.foldl ZkZ []
theorem Zar (l:List Int):Zg5 (ZcL l) ∧ ∀ x,x ∈ ZcL l ↔ x ∈ l:=by
 have key:∀ (l acc:List Int),Zg5 acc→Zg5 (l.foldl ZkZ acc) ∧ ∀ x,x ∈ l.foldl ZkZ acc ↔ x ∈ acc∨x ∈ l:=by
   intro l
   induction l with
   | nil=>intro acc h;exact ⟨h,fun x=>by simp⟩
   | cons y l ih=>
     intro acc h
     have h1:=ZjX (n:=y) h
     have h2:=ih (ZkZ acc y) h1.1
     refine ⟨h2.1,fun x=>?_⟩
     rw [List.foldl_cons,h2.2 x,h1.2 x,List.mem_cons]
     constructor
     · rintro ((h | h) | h)
       · exact .inl h
       · exact .inr (.inl h)
       · exact .inr (.inr h)
     · rintro (h | h | h)
       · exact .inl (.inl h)
       · exact .inl (.inr h)
       · exact .inr h
 have:=key l [] List.Pairwise.nil
 exact ⟨this.1,fun x=>by rw [show ZcL l=l.foldl ZkZ [] from rfl,this.2 x];simp⟩
theorem ZdX:∀ {a b:List Int},Zg5 a→Zg5 b→(∀ x,x ∈ a ↔ x ∈ b)→a=b
 | [],[],_,_,_=>rfl
 | [],y :: b,_,_,h=>by have:=(h y).2 (by simp);cases this
 | x :: a,[],_,_,h=>by have:=(h x).1 (by simp);cases this
 | x :: a,y :: b,ha,hb,h=>by
   have ha':=List.pairwise_cons.1 ha
   have hb':=List.pairwise_cons.1 hb
   have e:x=y:=by
     rcases List.mem_cons.1 ((h x).1 (by simp)) with e | e
     · exact e
     · rcases List.mem_cons.1 ((h y).2 (by simp)) with e2 | e2
       · exact e2.symm
       · have:=hb'.1 x e;have:=ha'.1 y e2;omega
   subst e
   congr 1
   refine ZdX ha'.2 hb'.2 fun z=>⟨fun hz=>?_,fun hz=>?_⟩
   · rcases List.mem_cons.1 ((h z).1 (by simp [hz])) with e | e
     · have:=ha'.1 z hz;omega
     · exact e
   · rcases List.mem_cons.1 ((h z).2 (by simp [hz])) with e | e
     · have:=hb'.1 z hz;omega
     · exact e
def Zal:List Int→List Int
 | []=>[]
 | x :: l=>match Zal l with
   | []=>[x]
   | y :: m=>if x=y then y :: m else x :: y :: m
theorem Zdw:∀ (x:Int) (l:List Int),∃ m,Zal (x :: l)=x :: m
 | x,[]=>⟨[],rfl⟩
 | x,y :: l=>by
   obtain ⟨m,hm⟩:=Zdw y l
   unfold Zal
   rw [hm]
   by_cases h:x=y
   · subst h;exact ⟨m,if_pos rfl⟩
   · exact ⟨y :: m,if_neg h⟩
theorem Zdl (x y:Int) (l:List Int):Zal (x :: y :: l)=if x=y then Zal (y :: l) else x :: Zal (y :: l):=by
 obtain ⟨m,hm⟩:=Zdw y l
 conv=>lhs;unfold Zal
 rw [hm]
theorem Zcp:∀ {l:List Int},l.Pairwise (fun a b=>a≤b)→Zg5 (Zal l) ∧ ∀ x,x ∈ Zal l ↔ x ∈ l
 | [],_=>by simp [Zal]
 | [x],_=>by simp [Zal]
 | x :: y :: l,h=>by
   have h':=List.pairwise_cons.1 h
   have ih:=Zcp h'.2
   rw [Zdl]
   split
   · rename_i e
     subst e
     exact ⟨ih.1,fun z=>by rw [ih.2 z];simp⟩
   · rename_i e
     refine ⟨List.pairwise_cons.2 ⟨fun z hz=>?_,ih.1⟩,fun z=>by rw [List.mem_cons,ih.2 z,← List.mem_cons]⟩
     have h1:=h'.1 y (by simp)
     rcases List.mem_cons.1 ((ih.2 z).1 hz) with rfl | hz2
     · omega
     · have:=(List.pairwise_cons.1 h'.2).1 z hz2
       omega
theorem Zly (l:List Int):List.Pairwise (fun x y=>x≤y) (l.mergeSort leI):=by
 have:=List.pairwise_mergeSort (le:=leI) (fun a b c h1 h2=>by simp [leI] at *;omega) (fun a b=>by simp [leI];omega) l
 exact this.imp fun h=>by simpa [leI] using h
theorem ZeI (l:List Int):Zal (l.mergeSort leI)=ZcL l:=
 ZdX (Zcp (Zly l)).1 (Zar l).1 fun x=>by rw [(Zcp (Zly l)).2,(Zar l).2];exact (List.mergeSort_perm l leI).mem_iff
theorem ZdU:∀ l:List Int,Zm l=Zal l
 | []=>rfl
 | [x]=>rfl
 | x :: y :: l=>by
   rw [Zdl,← ZdU (y :: l)];rfl
theorem Zhr {n:Int} : ∀ (l:List Int) (d:Bool),(ZcM n l d).length≤l.length+1
 | [],d=>by cases d <;> simp [ZcM]
 | x :: l,d=>by
   have h1:=Zhr (n:=n) l (d || decide (n≤x))
   have h2:∀ l:List Int,(ZcM n l true).length≤l.length:=fun l=>by
     induction l with
     | nil=>simp [ZcM]
     | cons y l ih=>
       rw [ZcM,if_neg (by simp),List.length_append,List.length_append,Bool.true_or]
       split <;> simp <;> omega
   rw [ZcM,List.length_append,List.length_append]
   have h3:=h2 l
   by_cases hA:d=false∧n≤x
   · rw [show (d || decide (n≤x))=true by simp [hA.2],if_pos hA]
     split <;> simp <;> omega
   · rw [if_neg hA]
     split <;> simp <;> omega
structure OpD where
 read:Bool
 key:Int
 tx:Int
 nth:Int
 deriving DecidableEq,Inhabited
structure TxD where
 id:Int
 done:Bool
 ops:List OpD
 deriving DecidableEq,Inhabited
structure OrdD where
 key:Int
 txs:List Int
 deriving DecidableEq,Inhabited
structure Zn where
 txs:List TxD
 orders:List OrdD
 deriving DecidableEq,Inhabited
structure Zkb where
 was:List TxD
 now:List TxD
 old:List OrdD
 new:List OrdD
 deriving DecidableEq,Inhabited
def rOp (o:OpD):List PV:=[.bool o.read,.int .i64 o.key,.int .i64 o.tx,.int .i64 o.nth]
def rTx (t:TxD):List PV:=[.int .i64 t.id,.bool t.done,.sl rOp t.ops]
def ZF (o:OrdD):List PV:=[.int .i64 o.key,.sl Zo o.txs]
def Zr (h:Zn):List PV:=[.sl rTx h.txs,.sl ZF h.orders]
theorem Zn0 (l:List OpD) (hl:l.length≤1000000):FnG Tryz.prog 59 1 [.sl rOp l] [.star []] (PV.one) (fun v=>[Zu 75 4 rOp l v]):=by
 refine FnG.mk Tryz.func59 rfl Tryz.ntmps59 rfl (by kernel_rfl) ?_
 intro B F0 a w F hB hG hS
 obtain ⟨F,hS⟩:=hS.nm [0] [0] rfl rfl
 refine wp_seq ?_
 refine Zb hS (qC qZ) hB [2,0] [0] rfl rfl fun a w F hS=>Za (wp_seq (wp_seq ?_))
 refine Zb hS (qM rfl rfl (qf (ZbS Tryz.underlying31 .t) r1 qz qZ)) hB [4,2,0] [0] rfl rfl fun a w F hS=>?_
 obtain ⟨β4,hβ4,hS⟩:=hS.pickBool 4 rfl
 obtain ⟨F,hS⟩:=hS.nm [4,2,0] [0] rfl rfl
 refine Za ?_
 refine Zd hS rfl (fun hc0=>?_) (fun hc0=>?_)
 ·skip
  have hg:l = []:=hβ4 hc0
  refine wp_seq ?_
  refine Zb hS (qC qZ) hB [2,0] [0] rfl rfl fun a w F hS=>Za (wp_ret (Zi ?_))
  have hS:=hS.fresh 1 rfl
  have hS:=hS.turn 1 rfl (Zbj (T:=75) (sz:=4) (R:=rOp))
  have hS:=hS.turn 1 rfl (r':=RS.hp (Zu 75 4 rOp l (.slice none 0 0))) (fun _ _ _ _ h=>by rw [hg];exact h)
  refine Z2 (h':=fun v=>Zu 75 4 rOp l v) hG hS rfl (.tmp rfl .nil) (.one .one) rfl
 have hg:l = [] ++ l:=rfl
 refine wp_skip (Za (wp_seq ?_))
 refine Zc hS (qf (Za3 (R:=rOp) (sz:=4) 101 Tryz.underlying31 (by kernel_rfl)) trivial qz (qM rfl rfl (qf (ZV (sz:=4) (bs:=32) 101 (.mk' Tryz.underlying31 (by kernel_rfl) (by kernel_rfl)) (by intro x;rfl) .same (.sl .t) (by simp only [List.length_append,List.length_nil];omega) (by decide)) ⟨rfl,rfl,trivial⟩ ⟨rfl,trivial⟩ (qN rfl rfl qZ)))) hB [2] [101,0] (fun _=>rfl) (fun _=>rfl) fun τ a w F hS=>?_
 try dsimp only [RS.sub,SF.sub,CF.sub,csub,Anc.sub,List.map,Zf,xL,xM,Nat.reduceAdd,xD,xE,xT,xU,xC,xN,zCF,rOp] at hS
 generalize τ 7=v7 at hS
 refine Za (wp_ret ?_)
 obtain ⟨F,hS⟩:=hS.rename 101 1 rfl rfl
 have hS:=hS.turn 1 rfl (r':=RS.hp (Zu 75 4 rOp l v7)) (fun _ _ _ _ h=>by rw [hg];exact h)
 refine Z2 (h':=fun v=>Zu 75 4 rOp l v) hG hS rfl (.tmp rfl .nil) (.one .one) rfl
def Zb5 (o:OpD):Bool:=if o.read=true then Zb4 ⟨o.tx,o.key,o.nth⟩ else (idB o.key && decide (o.tx=0)) && decide (o.nth=0)
def ofO (o:OpD):ZbB:=if o.read=true then ⟨o.tx,o.key,o.nth⟩ else noV
def Zci (o:OpD):Int:=if Zb5 o=true then 0 else 1
theorem Zm2 {o:OpD} (h:Zb5 o=true):(1≤o.key∧o.key≤1048575)∧(0≤o.tx∧o.tx≤1048575)∧(0≤o.nth∧o.nth≤4095):=by
 unfold Zb5 at h
 split at h
 · unfold Zb4 at h
   dsimp only at h
   split at h <;> simp only [Bool.and_eq_true,decide_eq_true_eq,Zi1] at h <;> omega
 · simp only [Bool.and_eq_true,decide_eq_true_eq,Zi1] at h
   omega
theorem ZfY {o:OpD} (h:o.read=true):Zb5 o=Zb4 (ofO o):=by unfold Zb5 ofO;rw [if_pos h,if_pos h]
theorem Zfn {o:OpD} (h:o.read=false):Zb5 o=((idB o.key && decide (o.tx=0)) && decide (o.nth=0)):=by unfold Zb5;rw [if_neg (by rw [h];decide)]
theorem ZkN (v:ZbB):(Zpu v).2=if Zb4 v=true then 0 else 1:=by unfold Zpu;split <;> rfl
theorem Zlm (o:OpD):FnP Tryz.prog 121 [.agg (rOp o)] (.agg (ZS (ofO o))):=by
 refine FnP.mk Tryz.func121 rfl Tryz.ntmps121 rfl ?_
 intro B a w F hB hfr hS
 refine wp_seq ?_
 refine Zc hS (qx 101 r1 (qf (oH [.int .i64 0,.int .i64 0,.int .i64 0] 102) trivial qz qZ)) hB [2,1] [102,101,0] (fun _=>rfl) (fun _=>rfl) fun τ a w F hS=>?_
 try dsimp only [RS.sub,SF.sub,CF.sub,csub,Anc.sub,List.map,zCF] at hS
 generalize τ 1=v1 at hS
 generalize τ 2=v2 at hS
 refine Za (wp_seq (wp_seq ?_))
 refine Zb hS (qg 0 101 r1 r1 (qa 101 r1 r1 (qf (o_not .t) r1 qz qZ))) hB [5,2,1] [102,101,0] rfl rfl fun a w F hS=>Za ?_
 refine Zd hS rfl (fun hc0=>?_) (fun hc0=>?_)
 ·skip
  have hr:o.read=false:=by simpa using hc0
  refine wp_seq ?_
  refine Zb hS (qf (oB [] [.int .i64 0,.int .i64 0,.int .i64 0] [(0,1),(1,1),(2,1)] .nil) trivial qz (qs 3 102 r2 r1 qZ)) hB [2,1] [102,101,0] rfl rfl fun a w F hS=>Za (wp_ret (Zi ?_))
  refine Zao hfr hS rfl (.cl 102 true 3 rfl rfl .nil) (.one (.aggU rfl (by unfold ofO;rw [hr];rfl)))
 have hr:o.read=true:=by simpa using hc0
 refine wp_skip (Za (wp_seq ?_))
 refine Zb hS (qg 2 101 r1 r1 (qa 101 r1 r1 (qg 1 101 r1 r1 (qa 101 r1 r1 (qg 3 101 r1 r1 (qa 101 r1 r1 (qf (oB [(0,.tmp 8),(1,.tmp 10),(2,.tmp 12)] [.int .i64 0,.int .i64 0,.int .i64 0] [(0,1),(1,1),(2,1)] (.one rfl .t one_int (by kernel_rfl) (.one rfl .t one_int (by kernel_rfl) (.one rfl .t one_int (by kernel_rfl) .nil)))) r3 qz (qs 3 102 r2 r1 qZ)))))))) hB [2] [102,101,0] rfl rfl fun a w F hS=>Za (wp_ret ?_)
 refine Zao hfr hS rfl (.cl 102 true 3 rfl rfl .nil) (.one (.aggU rfl (by unfold ofO;rw [hr];rfl)))
theorem Zlw (o:OpD):FnP Tryz.prog 122 [.agg (rOp o)] (.int .i64 (Zci o)):=by
 refine FnP.mk Tryz.func122 rfl Tryz.ntmps122 rfl ?_
 intro B a w F hB hfr hS
 refine wp_seq ?_
 refine Zc hS (qx 101 r1 (qI qZ)) hB [2,1] [101,0] (fun _=>rfl) (fun _=>rfl) fun τ a w F hS=>?_
 try dsimp only [RS.sub,SF.sub,CF.sub,csub,Anc.sub,List.map,zCF] at hS
 generalize τ 1=v1 at hS
 refine Za (wp_seq (wp_seq ?_))
 refine Zb hS (qg 0 101 r1 r1 (qa 101 r1 r1 qZ)) hB [6,2,1] [101,0] rfl rfl fun a w F hS=>Za ?_
 refine Zd hS rfl (fun hc0=>?_) (fun hc0=>?_)
 ·skip
  have hg:(Zpu (ofO o)).2=Zci o:=by rw [ZkN];unfold Zci;rw [ZfY hc0]
  refine wp_seq ?_
  refine Zb hS (qe 4 101 r1 r1 (qf (oP (Zlm o) Tryz.func121 (Args.one (.pagg .t))) r1 qz (qf (oP (ZmF (ofO o)) Tryz.func188 (Args.one .t)) r1 qz (qM rfl rfl (qf (Zq .t rfl) r1 qz (qf (Zq .t rfl) r1 qz (qN rfl rfl (qN rfl rfl qZ)))))))) hB [4,2,1] [101,0] rfl rfl fun a w F hS=>Za (wp_seq ?_)
  refine Zb hS (qM rfl rfl (qN rfl rfl qZ)) hB [2,1] [101,0] rfl rfl fun a w F hS=>Za (wp_ret (Zi ?_))
  refine Zw hfr hS rfl rfl rfl (.int hg)
 have hr:o.read=false:=hc0
 refine wp_skip (Za (wp_seq (wp_seq ?_)))
 refine Zb hS (qe 4 101 r1 r1 (qg 1 101 r1 r1 (qa 101 r1 r1 (qf (oB [(1,.tmp 16)] [.bool false,.int .i64 0,.int .i64 0,.int .i64 0] [(0,1),(1,1),(2,1),(3,1)] (.one rfl .t one_int (by kernel_rfl) .nil)) r1 qz (qf (o_neqS (ks:=[false,true,true,true]) (by kernel_rfl) .t .t (.bool (.int (.int (.int .nil))))) r2 qz (qM rfl rfl (qv 1 101 rfl r2 r1 (qw 101 rfl r2 r1 (qk rfl (fun h=>ZbC (.w h) qi) r2 qz (qf (Zbc .t .t) r2 qz (qM rfl rfl (qv 1 101 rfl r2 r1 (qw 101 rfl r2 r1 (qk rfl (fun h=>Zbi (.w h) qi) r2 qz (qf (Zbc .t .t) r2 qz qZ))))))))))))))) hB [28,2] [101,0] rfl rfl fun a w F hS=>Za ?_
 refine Zd hS rfl (fun hc1=>?_) (fun hc1=>?_)
 ·skip
  have hg:(1:Int)=Zci o:=by
    unfold Zci
    rw [if_neg]
    rw [Zfn hr]
    simp [hr,idB] at hc1 ⊢
    omega
  refine wp_seq ?_
  refine Zb hS (qI qZ) hB [2] [101,0] rfl rfl fun a w F hS=>Za (wp_ret (Zi ?_))
  refine Zw hfr hS rfl rfl rfl (.int hg)
 have hg:(0:Int)=Zci o:=by
   unfold Zci
   rw [if_pos]
   rw [Zfn hr]
   simp [hr,idB] at hc1 ⊢
   omega
 refine wp_skip (Za (wp_seq ?_))
 refine Zb hS (qI qZ) hB [2] [101,0] rfl rfl fun a w F hS=>Za (wp_ret ?_)
 refine Zw hfr hS rfl rfl rfl (.int hg)
theorem ZpF (t : TxD) (hl : t.ops.length ≤ 1000000) (p : OpD → Bool) (f : FuncId) (fn : Func) (cps : List PV) (hf : Tryz.prog.funcs[f]? = some fn) (hb : fn.body.isSome = true) (hnn : (fn.name == "runtime.NumGoroutine") = false) (hw : ∀ x, FnP Tryz.prog f (.agg (rOp x) :: cps) (.bool (p x))) : FnP Tryz.prog 117 [.agg (rTx t), .clos f cps] (.sl Zo (ZcL ((t.ops.filter p).map OpD.key))) := by
 refine FnP.mk Tryz.func117 rfl Tryz.ntmps117 rfl ?_
 intro B a w F hB hfr hS
 refine wp_seq ?_
 refine Zc hS (qx 101 r1 (qC qZ)) hB [4,2,1] [101,0] (fun _=>rfl) (fun _=>rfl) fun τ a w F hS=>?_
 try dsimp only [RS.sub,SF.sub,CF.sub,csub,Anc.sub,List.map,zCF,Zo,rOp,rTx] at hS
 generalize τ 2=v2 at hS
 refine Za (wp_seq ?_)
 refine Zb hS (qC qZ) hB [5,4,2,1] [101,0] rfl rfl fun a w F hS=>Za (wp_seq (wp_seq ?_))
 refine Zb hS (qg 2 101 r1 r1 (qa 101 r1 r1 (qu Tryz.underlying31 r1 (qJ qZ)))) hB [11,10,9,5,4,1] [101,0] rfl rfl fun a w F hS=>Za (wp_block ?_)
 replace hS:=hS.fresh 50 rfl
 replace hS:=hS.turn 50 rfl (Zbj (T:=3) (sz:=1) (R:=Zo))
 refine Zl (σ:=(Nat)×(Value)×(List Int)) [1,4,9,10] [0,101] (fun s=>[(11,.pv (.int .i64 (s.1:Int))),(5,.pv (.is s.2.1))]) (fun s=>[(50,.ob (.val s.2.1) (Zu 3 1 Zo s.2.2))]) (fun s=>s.1≤t.ops.length∧(s.2.2=(((t.ops.take s.1).filter p).map OpD.key))) (fun s=>t.ops.length - s.1) ((0),(.slice none 0 0),([])) hS ⟨rfl,rfl,rfl,rfl,rfl,rfl,trivial⟩ ⟨rfl,rfl,rfl,trivial⟩ ⟨Nat.zero_le _,rfl⟩ ?_
 clear hS;intro s a w F hC hS
 obtain ⟨i,v,out⟩:=s
 try dsimp only at hC
 obtain ⟨F,hS⟩:=hS.nm [11,10,9,5,4,1] [101,50,0] rfl rfl
 try dsimp only at hS
 obtain ⟨hi,hq⟩:=hC
 have hol:out.length≤i:=by rw [hq,List.length_map];exact Nat.le_trans (List.length_filter_le _ _) (by rw [List.length_take];omega)
 refine wp_seq ?_
 refine Zb hS (qL r2) hB [12,11,10,9,5,4,1] [101,50,0] rfl rfl fun a w F hS=>Za (wp_seq ?_)
 refine Zd hS rfl (fun hc0=>?_) (fun hc0=>?_)
 ·skip
  have hil:i<t.ops.length:=by simp at hc0;omega
  refine wp_skip (Za (wp_seq (wp_block (wp_seq ?_))))
  refine Zc hS (qy 4 Tryz.underlying31 r2 (qf (oR true 4 .t) r1 qz (qf (oH [.bool false,.int .i64 0,.int .i64 0,.int .i64 0] 102) trivial qz (qS 4 102 r2 r1 qZ)))) hB [11,10,9,7,5,4,1] [102,101,50,0] (fun _=>rfl) (fun _=>rfl) fun τ a w F hS=>?_
  try dsimp only [RS.sub,SF.sub,CF.sub,csub,Anc.sub,List.map,Zf,xL,xM,Nat.reduceAdd,xD,xE,xT,xU,xC,xN,zCF,ldSF,Zo,rOp,rTx] at hS
  generalize τ 7=v7 at hS
  try simp only [Int.toNat_natCast] at hS
  refine Za (wp_seq ?_)
  refine Zb hS (qM rfl rfl (qe 4 102 r1 r1 (qf (ZK (avs:=[.agg (rOp (Go.Gm.nth t.ops i))]) .t (hw (Go.Gm.nth t.ops i)) hf hb hnn (Args.one (.pagg .t))) r2 qz qZ))) hB [17,11,10,9,7,5,4,1] [102,101,50,0] rfl rfl fun a w F hS=>Za ?_
  refine Zd hS rfl (fun hc1=>?_) (fun hc1=>?_)
  ·skip
   have hBq:p (Go.Gm.nth t.ops i)=true:=by simpa using hc1
   refine Zc hS (qM rfl rfl (qg 1 102 r1 r1 (qa 102 r1 r1 (qf (Zt (sz:=1) (zs:=[.int .i64 0]) (r:=[(0,.tmp 20)]) (l:=[_]) Tryz.underlying34 (by kernel_rfl) (by kernel_rfl) (by kernel_rfl) (by kernel_rfl) rfl rfl (.one rfl .t one_int (by kernel_rfl) .nil) rfl) r1 qz (qf (ZV (sz:=1) (bs:=8) 50 (.mk' Tryz.underlying34 (by kernel_rfl) (by kernel_rfl)) (by intro x;rfl) .is (.arr (l':=[(Go.Gm.nth t.ops i).key]) .t) (by simp only [List.length_append,List.length_cons,List.length_nil,List.length_take,List.length_drop];omega) (by decide)) ⟨rfl,rfl,trivial⟩ ⟨rfl,trivial⟩ (qN rfl rfl qZ)))))) hB [11,10,9,5,4,1] [102,101,50,0] (fun _=>rfl) (fun _=>rfl) fun τ a w F hS=>?_
   try dsimp only [RS.sub,SF.sub,CF.sub,csub,Anc.sub,List.map,Zf,xL,xM,Nat.reduceAdd,xD,xE,xT,xU,xC,xN,zCF,ldSF,Zo,rOp,rTx] at hS
   generalize τ 22=v22 at hS
   refine Zj (Za ?_)
   refine Zb hS (qp r1 (qM rfl rfl qZ)) hB [11,10,9,5,4,1] [102,101,50,0] rfl rfl fun a w F hS=>Za ?_
   replace hS:=hS.ent (i:=11) (s':=.pv (.int .i64 ((i+1:Nat):Int))) rfl (.int (Ze (by omega)))
   obtain ⟨F,hS⟩:=hS.nm [10,9,4,1,5,11] [101,0,50] rfl rfl
   exact ⟨((i+1),_,_),F,⟨by omega,(by rw [Zv hil,List.filter_append,List.map_append,← hq];simp [hBq])⟩,hS,by omega⟩
  have hBq:p (Go.Gm.nth t.ops i)=false:=by simpa using hc1
  refine wp_skip (Zj (Za ?_))
  refine Zb hS (qp r1 (qM rfl rfl qZ)) hB [11,10,9,5,4,1] [102,101,50,0] rfl rfl fun a w F hS=>Za ?_
  replace hS:=hS.ent (i:=11) (s':=.pv (.int .i64 ((i+1:Nat):Int))) rfl (.int (Ze (by omega)))
  obtain ⟨F,hS⟩:=hS.nm [10,9,4,1,5,11] [101,0,50] rfl rfl
  exact ⟨((i+1),_,_),F,⟨by omega,(by rw [Zv hil,List.filter_append,List.map_append,← hq];simp [hBq])⟩,hS,by omega⟩
 have hil:i=t.ops.length:=by simp at hc0;omega
 refine wp_exit (Zh (Zh (Zp (Za (wp_seq ?_)))))
 refine Zb hS (qM rfl rfl (qf (Zbe 50 (Zjz _ out (by omega)) Tryz.func65 rfl (by kernel_rfl) (Args.one .t)) r1 r1 qZ)) hB [5,4] [101,50,0] rfl rfl fun a w F hS=>Za (wp_seq ?_)
 refine Zc hS (qM rfl rfl (qf (o_callRowN 50 (ZmC _ _ (by rw [List.length_mergeSort];omega)) Tryz.func185 rfl (by kernel_rfl) (Args.one .t) pvOne1) r1 r1 (qN rfl rfl qZ))) hB [4] [101,50,0] (fun _=>rfl) (fun _=>rfl) fun τ a w F hS=>?_
 try dsimp only [RS.sub,SF.sub,CF.sub,csub,Anc.sub,List.map,Zo,rOp,rTx] at hS
 generalize τ 27=v27 at hS
 refine Za (wp_ret ?_)
 obtain ⟨F,hS⟩:=hS.give 50 4 rfl rfl
 refine Zw hfr hS rfl rfl rfl (.sl (by rw [ZdU,ZeI,hq,hil,List.take_length]))
end Go.Proofs.YtdpkkdigojkpaaaGreat
