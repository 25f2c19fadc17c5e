/- Laws and walks. No condition beyond what each says. -/
import Derived.Shelf.Sort.Plain
import Derived.Shelf.Slices.In.SortNone
import Derived.Laws.BitsLemmas
import Derived.Laws.MathBits
import Derived.Test.YtolmpgbpdapaiaaGreatLibG
namespace Go.Proofs.YtolmpgbpdapaiaaGreat
open Go Go.Gm Tryz
set_option linter.unusedVariables false
set_option linter.unusedSimpArgs false
set_option maxHeartbeats 4000000
set_option maxRecDepth 8000
theorem YbY:type_of% @underlying32:=@underlying32
theorem YbZ:type_of% @underlying57:=@underlying57
theorem Yb0:type_of% @underlying60:=@underlying60
theorem Yb1:type_of% @underlying3:=@underlying3
theorem Yb2:type_of% @underlying299:=@underlying299
theorem Yb3:type_of% @underlying186:=@underlying186
theorem Yb4:type_of% @underlying22:=@underlying22
theorem Yb5:type_of% @underlying9:=@underlying9
theorem Yb6:type_of% @underlying112:=@underlying112
theorem Yb7:type_of% @underlying23:=@underlying23
theorem Yb8:type_of% @underlying304:=@underlying304
theorem Yb9:type_of% @underlying74:=@underlying74
theorem Yca:type_of% @underlying341:=@underlying341
theorem Ycb:type_of% @underlying111:=@underlying111
theorem Ycc:type_of% @underlying5:=@underlying5
theorem Ycd:type_of% @underlying181:=@underlying181
theorem Yce:type_of% @underlying77:=@underlying77
theorem Ycf:type_of% @underlying144:=@underlying144
theorem Ycg:type_of% @underlying292:=@underlying292
theorem Ych:type_of% @underlying154:=@underlying154
theorem Yci:type_of% @underlying268:=@underlying268
theorem Ycj:type_of% @underlying230:=@underlying230
theorem Yck:type_of% @underlying28:=@underlying28
theorem wrap_i64 {x:Int} (h : -9223372036854775808≤x∧x≤9223372036854775807):IntKind.wrap .i64 x=x:=ZdW ⟨by simp [IntKind.min,IntKind.signed,IntKind.bits];omega,by simp [IntKind.max,IntKind.signed,IntKind.bits];omega⟩
theorem Za7 {i:Nat} (h:i<9223372036854775807):IntKind.wrap .i64 ((i:Int)+1)=((i+1:Nat):Int):=by rw [wrap_i64 ow];omega
theorem Za0 {x:Int} (h:0≤x∧x≤18446744073709551615):IntKind.wrap .u64 x=x:=ZdW ⟨by simp [IntKind.min,IntKind.signed,IntKind.bits];omega,by simp [IntKind.max,IntKind.signed,IntKind.bits];omega⟩
theorem Zaa (x:Int):IntKind.wrap .u64 x=x % 18446744073709551616:=by simp [IntKind.wrap,IntKind.bits,IntKind.signed]
theorem ZdC {x:Int} (h:inR .i64 x) : -9223372036854775808≤x∧x≤9223372036854775807:=by simpa [inR,IntKind.min,IntKind.max,IntKind.signed,IntKind.bits] using h
theorem Sat.lenSl {α:Type} {R:α→List PV} {B:ZaV} {E:En} {a:Act} {w:World} {F:Fp} (h:Sat B E a w F) {i:Nat} {l:List α} (hl:Go.Gm.look E.s i=some (SF.pv (PV.sl R l))):l.length≤9223372036854775807:=by
 obtain ⟨_,cap,_,h1,h2,_⟩:=h.s i _ hl
 unfold maxLen at h2
 omega
def Zq (n:Int):List PV:=[.int .i64 n]
def Zmq (s:List UInt8):List PV:=[.bs s]
theorem ZaB.any {ss:List SF} : ZaB ss .any:=fun _ _ _ _ _=>trivial
theorem ZdH {α:Type} [Inhabited α] {x y:List α} (hl:x.length=y.length) (h:∀ j,j<x.length→Nn x j=Nn y j):x=y:=by
 apply YaM hl
 intro j h1 h2
 have:=h j h1
 rwa [nth_eq h1,nth_eq h2] at this
theorem Zpt {α:Type} [Inhabited α] {q:List α} {k:Nat} (h:k<q.length):q.take k ++ [Nn q k] = q.take (k+1):=by
 rw [nth_eq h,YaW h]
theorem nth_mem {α:Type} [Inhabited α] {q:List α} {k:Nat} (h:k<q.length):Nn q k ∈ q:=by rw [nth_eq h];exact YaL h
theorem Zqo {α:Type} [Inhabited α] {l:List α} {i:Nat} (h:i<l.length):l.drop i=Nn l i :: l.drop (i+1):=by rw [nth_eq h];exact Ya4 h
theorem Zy {α:Type} [Inhabited α] {l:List α} {i:Nat} (h:i<l.length):l.take (i+1)=l.take i ++ [Nn l i]:=(Zpt h).symm
structure Zny where
 key:Int
 val:Int
 deriving DecidableEq,Inhabited
section
variable {out t T:List Zny} {k x:Int} {e:Zny} {d:Bool}
end
def Z2 (v:Int):List Int→Int
 | []=>-1
 | x :: l=>if x=v then 0 else if Z2 v l<0 then -1 else Z2 v l+1
theorem Zio {v:Int} : ∀ {l:List Int},(∀ k,k<l.length→Nn l k≠v)→Z2 v l = -1
 | [],_=>rfl
 | x :: l,h=>by
  have h0:x≠v:=h 0 XM
  rw [Z2,Yb h0,Zio (l:=l) fun k hk=>by have:=h (k+1) W7;exact this,Ye XW]
theorem ZpX {v:Int} : ∀ {l:List Int} {i:Nat},i<l.length→Nn l i=v→(∀ k,k<i→Nn l k≠v)→Z2 v l=i
 | [],i,h,_,_=>by simp at h
 | x :: l,0,_,h,_=>by rw [Z2,Ye (show x=v from h)];rfl
 | x :: l,i+1,h,h1,h2=>by
  have h0:x≠v:=h2 0 ow
  have:=ZpX (l:=l) (i:=i) XL h1 fun k hk=>h2 (k+1) ow
  rw [Z2,Yb h0,this,Yb ow];omega
theorem ZaA {v:Int} {l:List Int} (h:v ∈ l):∃ i:Nat,Z2 v l=i∧i<l.length∧Nn l i=v ∧ ∀ k,k<i→Nn l k≠v:=by
 induction l with
 | nil=>cases h
 | cons x l ih=>
  by_cases hx:x=v
  ·exact ⟨0,by rw [Z2,Ye hx];rfl,by simp,hx,fun k hk=>absurd hk (Yah k)⟩
  ·obtain ⟨i,h1,h2,h3,h4⟩:=ih (by rcases Ym.1 h with h | h;exact absurd h.symm hx;exact h)
   refine ⟨i+1,by rw [Z2,Yb hx,h1,Yb ow];omega,by simpa using h2,h3,fun k hk=>?_⟩
   cases k with
   | zero=>exact hx
   | succ k=>exact h4 k ow
theorem ZlX {v:Int} {l:List Int} (h:v ∉ l):Z2 v l = -1:=Zio fun k hk e=>h (e ▸ nth_mem hk)
theorem Zhh (v:Int) (l:List Int) : -1≤Z2 v l∧Z2 v l<l.length:=by
 by_cases h:v ∈ l
 ·obtain ⟨i,h1,h2,_⟩:=ZaA h
  omega
 ·rw [ZlX h];omega
theorem Zqm {v:Int} {l:List Int} : 0≤Z2 v l ↔ v ∈ l:=by
 constructor
 ·intro h
  by_cases hm:v ∈ l
  ·exact hm
  ·rw [ZlX hm] at h;omega
 ·intro h
  obtain ⟨i,h1,_⟩:=ZaA h
  omega
def Zv5 (l:List Int) (j x:Int):List Int:=if 0≤j∧j≤l.length then l.take j.toNat++x :: l.drop j.toNat else l
def ZfK (l:List Int):Prop:=(∀ x ∈ l,1≤x∧x≤1048575)∧l.Nodup
instance (l:List Int):Decidable (ZfK l):=by unfold ZfK;exact inferInstance
theorem ZfK.take {l:List Int} (h:ZfK l) (i:Nat):ZfK (l.take i):=⟨fun x hx=>h.1 x (Yaw hx),h.2.sublist (List.take_sublist i l)⟩
def leI (x y:Int):Bool:=decide (x≤y)
theorem Znm {a b:List Int} : a.mergeSort leI=b.mergeSort leI ↔ a.Perm b:=by
 constructor
 ·intro h
  exact (YaI a leI).symm.trans (h ▸ YaI b leI)
 ·intro h
  have hs:∀ l:List Int,List.Pairwise (fun x y=>x≤y) (l.mergeSort leI):=fun l=>by
   have:=Ybx (le:=leI) (fun a b c h1 h2=>by simp [leI] at *;omega) (fun a b=>by simp [leI];omega) l
   exact this.imp fun h=>by simpa [leI] using h
  exact List.Perm.eq_of_pairwise (fun x y _ _ h1 h2=>Int.le_antisymm h1 h2) (hs a) (hs b) (((YaI a leI).trans h).trans (YaI b leI).symm)
def Zvi (l:List Int) (tx:Int):List Int:=if tx ∈ l then l else l ++ [tx]
def Zhz (l:List Int) (tx:Int):List Int:=l.filter fun x=>decide (x≠tx)
def ZrA (l:List Int) (tx place:Int):List Int×Int:=if Z2 tx l<0 then ([],3) else if ¬ (0≤place∧place<l.length) then ([],1) else (Zv5 (l.eraseIdx (Z2 tx l).toNat) place tx,0)
def ZnG (a b:List Int):Prop:=ZfK a∧ZfK b∧a.Perm b
instance (a b:List Int):Decidable (ZnG a b):=by unfold ZnG;exact inferInstance
def ZiF:Go.Shelf.Ren:=⟨fun | 189=>75 | 125=>120 | 257=>119 | 128=>170 | 129=>171 | 294=>161 | 295=>162 | 296=>163 | 297=>164 | 298=>165 | 299=>166 | 216=>167 | 300=>168 | 301=>169 | 328=>202 | 329=>203 | 330=>204 | 331=>205 | 332=>206 | 215=>184 | 343=>232 | n=>n,fun | 28=>32 | 3=>3 | 46=>181 | 0=>0 | 51=>256 | 53=>74 | 4=>4 | 183=>249 | 182=>248 | 131=>162 | 5=>5 | 9=>9 | 218=>285 | 222=>289 | 228=>325 | 229=>175 | n=>n,fun  | n=>n⟩
theorem ZlV:Lays.n189 prog ZiF where
 mixed:=by kernel_rfl
 f125:=func120.trans (Y8 some kr)
 f128:=func170.trans (Y8 some kr)
 f129:=func171.trans (Y8 some kr)
 f189:=func75.trans (Y8 some kr)
 f215:=func184.trans (Y8 some kr)
 f216:=func167.trans (Y8 some kr)
 f257:=func119.trans (Y8 some kr)
 f294:=func161.trans (Y8 some kr)
 f295:=func162.trans (Y8 some kr)
 f296:=func163.trans (Y8 some kr)
 f297:=func164.trans (Y8 some kr)
 f298:=func165.trans (Y8 some kr)
 f299:=func166.trans (Y8 some kr)
 f300:=func168.trans (Y8 some kr)
 f301:=func169.trans (Y8 some kr)
 f328:=func202.trans (Y8 some kr)
 f329:=func203.trans (Y8 some kr)
 f330:=func204.trans (Y8 some kr)
 f331:=func205.trans (Y8 some kr)
 f332:=func206.trans (Y8 some kr)
 f343:=func232.trans (Y8 some kr)
 t0:=underlying0
 a0:=Tryz.isAgg0
 z0:=Tryz.sizeOf0
 v0:=Tryz.zeroValue0
 t3:=Yb1
 a3:=Tryz.isAgg3
 z3:=Tryz.sizeOf3
 v3:=Tryz.zeroValue3
 t4:=underlying4
 a4:=Tryz.isAgg4
 z4:=Tryz.sizeOf4
 v4:=Tryz.zeroValue4
 t5:=Ycc
 a5:=Tryz.isAgg5
 z5:=Tryz.sizeOf5
 v5:=Tryz.zeroValue5
 t9:=Yb5
 a9:=Tryz.isAgg9
 z9:=Tryz.sizeOf9
 v9:=Tryz.zeroValue9
 t28:=YbY
 a28:=Tryz.isAgg32
 z28:=Tryz.sizeOf32
 v28:=Tryz.zeroValue32
 t46:=Ycd
 a46:=Tryz.isAgg181
 z46:=Tryz.sizeOf181
 v46:=Tryz.zeroValue181
 t51:=underlying256
 a51:=Tryz.isAgg256
 z51:=Tryz.sizeOf256
 v51:=Tryz.zeroValue256
 t53:=Yb9
 a53:=Tryz.isAgg74
 z53:=Tryz.sizeOf74
 v53:=Tryz.zeroValue74
 t131:=underlying162
 a131:=Tryz.isAgg162
 z131:=Tryz.sizeOf162
 v131:=Tryz.zeroValue162
 t182:=underlying248
 a182:=Tryz.isAgg248
 z182:=Tryz.sizeOf248
 v182:=Tryz.zeroValue248
 t183:=underlying249
 a183:=Tryz.isAgg249
 z183:=Tryz.sizeOf249
 v183:=Tryz.zeroValue249
 t218:=underlying285
 a218:=Tryz.isAgg285
 z218:=Tryz.sizeOf285
 v218:=Tryz.zeroValue285
 t222:=underlying289
 a222:=Tryz.isAgg289
 z222:=Tryz.sizeOf289
 v222:=Tryz.zeroValue289
 t228:=underlying325
 a228:=Tryz.isAgg325
 z228:=Tryz.sizeOf325
 v228:=Tryz.zeroValue325
 t229:=underlying175
 a229:=Tryz.isAgg175
 z229:=Tryz.sizeOf175
 v229:=Tryz.zeroValue175
theorem ZpA (w:World):Calls prog 75 #[.slice none 0 0] w (fun e w'=>e = .returned (.tuple #[])∧w' = w):=
 Go.calls_of_every_depth fun D=>Go.Proofs.AnyS.slices_Sort_int_none_in ZlV D none 0 w
theorem ZlS {w:World} {y:Ys} : ∀ {l:List Int} {xs:List Value},PVs (l.flatMap Zq) xs w y→xs=l.map (Value.int .i64) ∧ ∀ x ∈ l,inR .i64 x
 | [],[],_=>⟨rfl,fun x hx=>by cases hx⟩
 | [],_ :: _,h=>h.elim
 | x :: l,[],h=>h.elim
 | x :: l,v :: xs,h=>by
  have h1:v = .int .i64 x∧inR .i64 x:=h.1.2
  obtain ⟨h2,h3⟩:=ZlS (l:=l) (xs:=xs) h.2
  exact ⟨by rw [h1.1,h2];rfl,fun z hz=>by rcases Ym.1 hz with rfl | hz;exact h1.2;exact h3 z hz⟩
theorem Ze6 {w:World} {y:Ys} : ∀ {l:List Int},(∀ x ∈ l,inR .i64 x)→PVs (l.flatMap Zq) (l.map (Value.int .i64)) w y
 | [],_=>trivial
 | x :: l,h=>⟨⟨rfl,rfl,h x XM⟩,Ze6 fun z hz=>h z W8⟩
theorem ZrP {l:List Int} {j:Nat} (hj:j<l.length):(l.toArray)[j]! = l[j]:=by simp [hj]
theorem Zkv {w:World} {g n:Nat} {d:List Int} {os:Array Obj} {cur:Array Value} {e:TypeId} (hg:w.heap[g]? = some (.cells cur e (0,0))) (b:Nat) (hb:b<w.heap.size) :
  (Go.Sort.grow (Go.Sort.putRow (Value.int .i64) (Go.Sort.ahead w n) g 0 d.toArray) os).heap[b]? = if b=g then some (.cells (Go.Sort.putCells (Value.int .i64) 0 d.toArray cur) e (0,0)) else w.heap[b]?:=by
 unfold Go.Sort.grow Go.Sort.putRow Go.Sort.mapBlock Go.Sort.ahead
 simp only
 rw [Array.getElem?_append_left XS,Array.getElem?_modify]
 by_cases h:g=b
 ·subst h
  rw [Ye rfl,Ye rfl,hg];rfl
 ·rw [Yb h,Yb (fun e=>h e.symm)]
theorem Zr7 {cur:Array Value} {d:List Int} (h:d.length≤cur.size):(Go.Sort.putCells (Value.int .i64) 0 d.toArray cur).toList.take d.length=d.map (Value.int .i64):=by
 apply YaM
 ·simp [Go.Sort.putCells];omega
 ·intro i h1 h2
  have hi:i<d.length:=W5
  simp [Go.Sort.putCells,hi]
theorem ZlA (v:Value) (l:List Int) (hlm:l.length≤1000000):FnG prog 75 1 [.is v] [Zz 3 1 Zq l v] (.tup []) (fun _=>[Zz 3 1 Zq (l.mergeSort leI) v]):=fun w F vs hw hle hvs hpr=>by
 match vs,hvs with
 | [u],hvs=>
  have hu:u=v:=hvs.1.1
  subst hu
  obtain ⟨xs,⟨hxl,hx⟩,hp,hf⟩:=hpr 0 _ rfl
  rcases hx with ⟨rfl,h0⟩ | ⟨g,cap,cur,rfl,_,hg,hn,hcap,hcs,hct⟩
  ·have hl:l = []:=YM h0
   subst hl
   refine (ZpA w).mono ?_
   rintro e w' ⟨rfl,rfl⟩
   refine ⟨.tuple #[],F,rfl,hw,⟨rfl,rfl,rfl,YF _,fun _ _ _=>rfl,fun _ _=>rfl,fun n hn b hb=>.inl ⟨n,hn,hb⟩⟩,hle,⟨[],rfl,tv⟩,fun i h hi=>?_⟩
   match i,hi with
   | 0,hi=>simp at hi;subst hi;exact ⟨xs,⟨hxl,.inl ⟨rfl,rfl⟩⟩,by simpa using hp,hf⟩
  ·have hgs:g<w.heap.size:=(YV.1 hg).1
   obtain ⟨hxe,hin⟩:=ZlS hp
   have hcl:l.length≤cur.size:=by rw [hcs];omega
   have hbig:l.length<4611686018427387904:=ow
   have hcur:∀ j (hj:j<l.length),cur[j]? = some (.int .i64 l[j]):=fun j hj=>by
    have h1:(cur.toList.take (l.length*1))[j]? = (l.map (Value.int .i64))[j]?:=by rw [hct,hxe]
    rw [List.getElem?_take_of_lt ow] at h1
    simpa [hj] using h1
   have hH:Go.Sort.Holds (Value.int .i64) w g 0 l.toArray:=fun j hj=>by
    have hj':j<l.length:=XJ
    refine ⟨?_,?_⟩
    ·rw [ZrP hj',Yab,ZI hg];exact hcur j hj'
    ·simp [World.frozen?,hg]
   have hcalls:Calls prog 75 #[.slice (some ⟨g,0,none⟩) l.length cap] w fun e w'=>e = .returned (.tuple #[]) ∧ ∃ n os,w' = Go.Sort.grow (Go.Sort.putRow (Value.int .i64) (Go.Sort.ahead w n) g 0 (l.mergeSort leI).toArray) os:=Go.Proofs.Any.slices_Sort_int ZlV g 0 cap l w hH hgs hbig
   refine hcalls.mono ?_
   rintro e w' ⟨rfl,n,os,rfl⟩
   have hsl:(l.mergeSort leI).length=l.length:=YbE l
   have hheap:=fun b hb=>Zkv (n:=n) (d:=l.mergeSort leI) (os:=os) hg b hb
   have hsz:(Go.Sort.grow (Go.Sort.putRow (Value.int .i64) (Go.Sort.ahead w n) g 0 (l.mergeSort leI).toArray) os).heap.size=w.heap.size+os.size:=by simp [Go.Sort.ahead]
   have hfg:F 1 g:=(hf g).2 rfl
   have hst:Stp (List.range' 1 1) w F (Go.Sort.grow (Go.Sort.putRow (Value.int .i64) (Go.Sort.ahead w n) g 0 (l.mergeSort leI).toArray) os) F:=
    ⟨rfl,rfl,rfl,by rw [hsz];omega,fun b hb hn=>by
     rw [hheap b hb,Yb (fun e=>by subst e;exact hn 1 XM hfg)],fun _ _=>rfl,fun n hn b hb=>.inl ⟨n,hn,hb⟩⟩
   refine ⟨.tuple #[],F,rfl,⟨hw.dis,fun n b hb=>by rw [hsz];have:=hw.bd n b hb;omega⟩,hst,hle,⟨[],rfl,tv⟩,fun i h hi=>?_⟩
   match i,hi with
   | 0,hi=>
    simp only [Yby,YX] at hi
    subst hi
    refine ⟨(l.mergeSort leI).map (Value.int .i64),⟨by simp,.inr ⟨g,cap,_,by rw [hsl],YA _,(hheap g hgs).trans (Ye rfl),ow,hcap,by simp [Go.Sort.putCells,hcs],?_⟩⟩,Ze6 fun x hx=>hin x ((YaI l leI).mem_iff.1 hx),hf⟩
    rw [Nat.mul_one];exact Zr7 ow
structure Zi where
 src:Int
 dst:Int
 kind:Int
 key:Int
 deriving DecidableEq,Inhabited
structure Zaz where
 tx:Int
 key:Int
 nth:Int
 deriving DecidableEq,Inhabited
def ZE (e:Zi):List PV:=[.int .i64 e.src,.int .i64 e.dst,.int .i64 e.kind,.int .i64 e.key]
def ZJ (v:Zaz):List PV:=[.int .i64 v.tx,.int .i64 v.key,.int .i64 v.nth]
def noE:Zi:=⟨0,0,0,0⟩
def noV:Zaz:=⟨0,0,0⟩
def idB (n:Int):Bool:=decide (1≤n) && decide (n≤1048575)
def ZaT (v:Zaz):Bool:=if v.tx=0 then idB v.key && decide (v.nth=0) else ((idB v.tx && idB v.key) && decide (1≤v.nth)) && decide (v.nth≤4095)
def Zvz (v:Zaz):Int:=(v.tx*1048576+v.key)*4096+v.nth
def Zsv (v:Zaz):Int×Int:=if ZaT v then (Zvz v,0) else (0,1)
theorem Zkf {n:Int} : idB n=true ↔ 1≤n∧n≤1048575:=by unfold idB;rw [Yw,Yl,Yl]
theorem Zmi (k:Int):decide (k<1) = !decide (1≤k):=by rw [← decide_not];exact decide_eq_decide.2 ow
theorem ZnQ (m k:Int):decide (m<k) = !decide (k≤m):=by rw [← decide_not];exact decide_eq_decide.2 ow
theorem or64 (x y:Nat) (hx:x<18446744073709551616) (hy:y<18446744073709551616):bits .or .u64 (x:Int) (y:Int)=((x ||| y:Nat):Int):=by
 have h1:(BitVec.ofInt 64 (x:Int)).toNat=x:=KD
 have h2:(BitVec.ofInt 64 (y:Int)).toNat=y:=KD
 show IntKind.wrap .u64 (((BitVec.ofInt 64 (x:Int) ||| BitVec.ofInt 64 (y:Int)).toNat:Nat):Int)=_
 rw [BitVec.toNat_or,h1,h2]
 exact Za0 (by have:=Nat.or_lt_two_pow (n:=64) hx hy;omega)
theorem Zsn {q:Nat} (h:q<18446744073709551616):IntKind.wrap .u64 (q:Int)=q:=Za0 ow
theorem ofN {q:Nat} (h:q<18446744073709551616):(BitVec.ofInt 64 (q:Int)).toNat=q:=by rw [Ybc];omega
theorem Zsz {K:Int} (k:Nat) (hk:min K.toNat (IntKind.bits .u64)=k) (x y:Int) (hx:0≤x) (hy:0≤y) (hyk:y<2 ^ k) (hb:x*2 ^ k+y<18446744073709551616):bits .or .u64 (IntKind.wrap .u64 (x*2 ^ min K.toNat (IntKind.bits .u64))) y=x*2 ^ k+y:=by
 obtain ⟨X,rfl⟩:=Yaz hx
 obtain ⟨Y,rfl⟩:=Yaz hy
 rw [hk]
 have e2:(X:Int)*2 ^ k=((X*2 ^ k:Nat):Int):=by rw [Int.natCast_mul,Int.natCast_pow];rfl
 have hY:Y<2 ^ k:=by exact_mod_cast hyk
 have hor:X*2 ^ k ||| Y=X*2 ^ k+Y:=by rw [Nat.mul_comm];exact (Nat.two_pow_add_eq_or_of_lt hY X).symm
 rw [e2] at hb ⊢
 generalize X*2 ^ k=Q at hb hor ⊢
 rw [Zsn ow,or64 _ _ ow ow,hor]
 omega
theorem Zll {v:Zaz} (h:ZaT v=true):bits .or .u64 (IntKind.wrap .u64 (bits .or .u64 (IntKind.wrap .u64 (IntKind.wrap .u64 v.tx*2 ^ min (20:Int).toNat (IntKind.bits .u64))) (IntKind.wrap .u64 v.key)*2 ^ min (12:Int).toNat (IntKind.bits .u64))) (IntKind.wrap .u64 v.nth)=Zvz v:=by
 have hb:(0≤v.tx∧v.tx≤1048575)∧(1≤v.key∧v.key≤1048575)∧(0≤v.nth∧v.nth≤4095):=by
  unfold ZaT at h
  split at h <;> simp only [Yw,Yl,Zkf] at h <;> omega
 obtain ⟨h1,h2,h3⟩:=hb
 rw [Za0 (x:=v.tx) ow,Za0 (x:=v.key) ow,Za0 (x:=v.nth) ow]
 rw [Zsz 20 rfl v.tx v.key ow ow ow ow,Zsz 12 rfl (v.tx*2 ^ 20+v.key) v.nth ow ow ow ow]
 unfold Zvz
 omega
theorem mask {x:Int} (h:0≤x∧x≤18446744073709551615) {K:Int} (k:Nat) (hk:min K.toNat (IntKind.bits .u64)=k) (hk2:k<64):bits .and .u64 x (IntKind.wrap .u64 (IntKind.wrap .u64 (1*2 ^ min K.toNat (IntKind.bits .u64)) - 1))=x % 2 ^ k:=by
 obtain ⟨X,rfl⟩:=Yaz h.1
 rw [hk,Int.one_mul]
 have hp1:2 ^ k<2 ^ 64:=Nat.pow_lt_pow_right XW hk2
 have hp:2 ^ k<18446744073709551616:=hp1
 have hp0:0<2 ^ k:=Nat.two_pow_pos k
 have e2:(2:Int) ^ k=((2 ^ k:Nat):Int):=by norm_cast
 have e3:∀ q:Nat,0<q→(q:Int) - 1=((q - 1:Nat):Int):=fun q h=>by omega
 rw [e2,Zsn hp,e3 _ hp0,Zsn ow]
 show IntKind.wrap .u64 (((BitVec.ofInt 64 (X:Int) &&& BitVec.ofInt 64 ((2 ^ k - 1:Nat):Int)).toNat:Nat):Int)=_
 rw [BitVec.toNat_and,ofN ow,ofN ow,Nat.and_two_pow_sub_one_eq_mod]
 have hm:=Nat.mod_le X (2 ^ k)
 rw [Zsn ow]
 norm_cast
theorem Zwn (n:Int):FnP prog 160 [.int .i64 n] (.bool (idB n)):=by
 refine FnP.mk func160 rfl ntmps160 rfl fun B a w F Z hfr G=>Ya ?_
 refine rZ G qB Z Q0 [0] fun G=>Ya ?_
 refine rZ G (qR rr (qf (ZbD .t qi) r1 qz (qR rr (qm rfl rfl rfl rfl (qk rfl (fun h=>o_leq (.w h) qi) r2 qz (qf (ZC .t .t) r2 qz (qO rr qZ))))))) Z [2] [0] fun G=>Yj ?_
 refine Zo hfr G rfl rfl rfl .refl
theorem ZhO (n:Int):FnP prog 201 [.int .i64 n] (.bool (idB n)):=by
 refine FnP.mk func201 rfl ntmps201 rfl fun B a w F Z hfr G=>Ya ?_
 refine rZ G qB Z Q0 [0] fun G=>Ya ?_
 refine rZ G (qR rr (qf (ZbD .t qi) r1 qz (qR rr (qm rfl rfl rfl rfl (qk rfl (fun h=>o_leq (.w h) qi) r2 qz (qf (ZC .t .t) r2 qz (qO rr qZ))))))) Z [2] [0] fun G=>Yj ?_
 refine Zo hfr G rfl rfl rfl .refl
theorem Zhi (v:Zaz):((!(decide (v.tx=0) && decide (v.nth=0)) && ((!idB v.tx || decide (v.nth<1)) || decide (4095<v.nth))) || !idB v.key) = !ZaT v:=by
 unfold ZaT
 by_cases h:v.tx=0
 ·rw [Ye h,YL h]
  have hi:idB v.tx=false:=by rw [h];rfl
  rw [hi]
  cases decide (v.nth=0) <;> cases idB v.key <;> simp
 ·rw [Yb h,YO h,Zmi,ZnQ 4095]
  cases idB v.tx <;> cases idB v.key <;> cases decide (1≤v.nth) <;> cases decide (v.nth≤4095) <;> rfl
theorem ZpB (v:Zaz):FnP prog 117 [.agg (ZJ v)] (.tup [.int .u64 (Zsv v).1,.int .i64 (Zsv v).2]):=by
 refine FnP.mk func117 rfl ntmps117 rfl fun B a w F Z hfr G=>Ya ?_
 refine rS G (qx 101 r1 (qI (qI qZ))) Z Qa KN fun τ G=>?_
 have G:=X5
 generalize τ 1=v1 at G
 refine Za (Ya (rZ G (qg 0 101 r1 r1 (qa 101 r1 r1 (qf (o_eql .t qi) r1 qz (qR rr (qv 2 101 rfl r2 r1 (qw 101 rfl r2 r1 (qk rfl (fun h=>o_eql (.w h) qi) r2 qz (qf (ZC .t .t) r2 qz (qO rr qZ))))))))) Z Ge KN fun G=>(Ya (Ya ?_))))
 refine Zc G (qR rr (qf (o_not .t) r1 qz (qR rr (qv 0 101 rfl r2 r1 (qw 101 rfl r2 r1 (qk rfl (fun h=>oP (Zwn _) func160 (Args.one (.w h))) r2 qz (qk rfl (fun h=>o_not (.w h)) r2 qz (qk rfl (fun h=>oM (.w h)) r2 qz (Zu.cons (ZaF.cond2 rfl rfl (fun h=>ZS (off:=2) 101 .is kr XV)) r2 r1 (Zu.cons (ZaF.cond2 rfl rfl (fun h=>Zbz (ag:=false) (sz:=1) 101 (.w h .adr) kr kr kr XV)) r2 r1 (Zu.cons (ZaF.cond2 rfl rfl (fun h=>Zbb (.w h) qi)) r2 qz (qk rfl (fun h=>Zaq (.w h) (.wc h)) r3 qz (qk rfl (fun h=>oM (.w h)) r2 qz (Zu.cons (ZaF.cond2 rfl rfl (fun h=>ZS (off:=2) 101 .is kr XV)) r2 r1 (Zu.cons (ZaF.cond2 rfl rfl (fun h=>Zbz (ag:=false) (sz:=1) 101 (.w h .adr) kr kr kr XV)) r2 r1 (Zu.cons (ZaF.cond2 rfl rfl (fun h=>Zad (.w h) qi)) r2 qz (qk rfl (fun h=>Zaq (.w h) (.wc h)) r3 qz (qf (ZC .t .t) r2 qz (qR rr (qv 1 101 rfl r2 r1 (qw 101 rfl r2 r1 (qk rfl (fun h=>oP (Zwn _) func160 (Args.one (.w h))) r2 qz (qk rfl (fun h=>o_not (.w h)) r2 qz (qf (Zaq .t .t) r2 qz qZ)))))))))))))))))))))))) Z [36,3,2,1] KN rfl rfl fun a w F G=>?_
 have G:=Xa
 refine Za (Zb G rfl (fun hc0=>?_) (fun hc0=>?_))
 ·rw [Zhi] at hc0
  have hr:ZaT v=false:=WV
  have hg:Zsv v=(0,1):=by unfold Zsv;rw [hr];rfl
  refine Ya (rZ G (qI (qI qZ)) Z Qa KN fun G=>(Yj (Zh ?_)))
  refine ZW hfr G rfl (.tmp rfl (.tmp rfl .nil)) (.two (.int (by rw [hg];try exact Zll hr)) (.int We))
 rw [Zhi] at hc0
 have hr:ZaT v=true:=WV
 have hg:Zsv v=(Zvz v,0):=Ye hr
 refine Yf (Za (Ya (rZ G (qg 0 101 r1 r1 (qa 101 r1 r1 (qf (o_conv Yb9 kr .t) r1 qz (qf (o_shl .t qi XW) r1 qz (qg 1 101 r1 r1 (qa 101 r1 r1 (qf (o_conv Yb9 kr .t) r1 qz (qf (Zwi .t .t) r2 qz (qf (o_shl .t qi XW) r1 qz (qg 2 101 r1 r1 (qa 101 r1 r1 (qf (o_conv Yb9 kr .t) r1 qz (qf (Zwi .t .t) r2 qz (qO rr (qI qZ))))))))))))))) Z Q8 [0] fun G=>Yj ?_)))
 refine ZW hfr G rfl (.tmp rfl (.tmp rfl .nil)) (.two (.int (by rw [hg];try exact Zll hr)) (.int We))
theorem ZrF (v:Zaz):FnP prog 199 [.agg (ZJ v)] (.bool (ZaT v)):=by
 refine FnP.mk func199 rfl ntmps199 rfl fun B a w F Z hfr G=>Ya ?_
 refine rS G (qx 101 r1 qB) Z Q3 KN fun τ G=>?_
 have G:=X5
 generalize τ 1=v1 at G
 refine Za (Ya (Ya (rZ G (qg 0 101 r1 r1 (qa 101 r1 r1 (qf (o_eql .t qi) r1 qz qZ))) Z G1 KN fun G=>?_)))
 refine Zb G rfl (fun hc0=>?_) (fun hc0=>?_)
 ·have h0:v.tx=0:=Yd hc0
  refine Ya (rZ G (qg 1 101 r1 r1 (qa 101 r1 r1 (qf (oP (ZhO _) func201 (Args.one .t)) r1 qz (qR rr (qv 2 101 rfl r2 r1 (qw 101 rfl r2 r1 (qk rfl (fun h=>o_eql (.w h) qi) r2 qz (qf (ZC .t .t) r2 qz (qO rr qZ))))))))) Z Q3 KN fun G=>(Yj (Zh ?_)))
  refine Zo hfr G rfl rfl rfl (.bool (by unfold ZaT;first | rw [Ye h0] | rw [Yb h0]))
 have h0:¬ v.tx=0:=Yk hc0
 refine Yf (Za (Ya (rZ G (qg 0 101 r1 r1 (qa 101 r1 r1 (qf (oP (ZhO _) func201 (Args.one .t)) r1 qz (qR rr (qv 1 101 rfl r2 r1 (qw 101 rfl r2 r1 (qk rfl (fun h=>oP (ZhO _) func201 (Args.one (.w h))) r2 qz (qf (ZC .t .t) r2 qz (qR rr (qv 2 101 rfl r2 r1 (qw 101 rfl r2 r1 (qk rfl (fun h=>ZbD (.w h) qi) r2 qz (qf (ZC .t .t) r2 qz (qR rr (qv 2 101 rfl r2 r1 (qw 101 rfl r2 r1 (qk rfl (fun h=>o_leq (.w h) qi) r2 qz (qf (ZC .t .t) r2 qz (qO rr qZ))))))))))))))))))) Z [2] [0] fun G=>Yj ?_)))
 refine Zo hfr G rfl rfl rfl (.bool (by unfold ZaT;first | rw [Ye h0] | rw [Yb h0]))
def Zcx (x y:Int):Int:=if x<y then -1 else if y<x then 1 else 0
def ZeN (e:Zi):List Int:=[e.src,e.kind,e.key,e.dst]
def Zgo:List Int→List Int→Int
 | x :: xs,y :: ys=>if x=y then Zgo xs ys else Zcx x y
 | _,_=>0
def cmpE (e f:Zi):Int:=Zgo (ZeN e) (ZeN f)
theorem Zcm {x y:Int} : Zcx x y=0 ↔ x=y:=by unfold Zcx;split <;> (try split) <;> omega
theorem ZpK:∀ (k:Nat) (xs ys:List Int),k<xs.length→k<ys.length→(∀ j,j<k→Nn xs j=Nn ys j)→Nn xs k≠Nn ys k→Zgo xs ys=Zcx (Nn xs k) (Nn ys k)
 | _,[],_,h,_,_,_=>by simp at h
 | _,_ :: _,[],_,h,_,_=>by simp at h
 | 0,x :: xs,y :: ys,_,_,_,hn=>by
  have hn':x≠y:=hn
  unfold Zgo
  rw [Yb hn']
  rfl
 | k+1,x :: xs,y :: ys,h1,h2,hj,hn=>by
  have h0:x=y:=hj 0 ow
  unfold Zgo
  rw [Ye h0]
  exact ZpK k xs ys W4 W5 (fun j h=>hj (j+1) ow) hn
theorem ZlI:∀ (xs ys:List Int),xs.length=ys.length→(∀ j,j<xs.length→Nn xs j=Nn ys j)→Zgo xs ys=0
 | [],[],_,_=>rfl
 | [],_ :: _,h,_=>by simp at h
 | _ :: _,[],h,_=>by simp at h
 | x :: xs,y :: ys,h,hj=>by
  have h0:x=y:=hj 0 XM
  unfold Zgo
  rw [Ye h0]
  exact ZlI xs ys XL (fun j h=>hj (j+1) XL)
theorem Zpn (n:Int):FnP prog 184 [.int .i64 n] (.bool false):=by
 refine FnP.mk func184 rfl ntmps184 rfl fun B a w F Z hfr G=>Ya ?_
 refine rZ G qB Z Q0 [0] fun G=>Ya ?_
 refine rZ G (qR rr (qR rr (qf (o_neq .t .t) r2 qz (qO rr qZ)))) Z [2] [0] fun G=>Yj ?_
 refine Zo hfr G rfl rfl rfl (.bool XM)
theorem Zvw (m n:Int):FnP prog 133 [.int .i64 m,.int .i64 n] (.int .i64 (Zcx m n)):=by
 refine FnP.mk func133 rfl ntmps133 rfl fun B a w F Z hfr G=>Ya ?_
 refine rZ G (qI qZ) Z KU [0] fun G=>Ya ?_
 refine rZ G (qR rr (qf (oP (Zpn _) func184 (Args.one .t)) r1 qz (qO rr qZ))) Z Qh [0] fun G=>Ya ?_
 refine rZ G (qR rr (qf (oP (Zpn _) func184 (Args.one .t)) r1 qz (qO rr qZ))) Z QG [0] fun G=>(Ya (Ya ?_))
 refine rZ G (qR rr qZ) Z [11,6,4,1,0] [0] fun G=>?_
 refine Zb G rfl (fun hc0=>?_) (fun hc0=>?_)
 ·cases hc0
 refine Yf (Za (Ya (Ya (rZ G (qR rr qZ) Z [13,4,1,0] [0] fun G=>?_))))
 refine Zb G rfl (fun hc1=>?_) (fun hc1=>?_)
 ·cases hc1
 refine Yf (Za (Ya (Ya (rZ G (qR rr (qR rr (qL r2))) Z [16,4,1,0] [0] fun G=>?_))))
 refine Zb G rfl (fun hc2=>?_) (fun hc2=>?_)
 ·have hg:Zcx m n = -1:=Ye (Yd hc2)
  refine Ya (rZ G (qI qZ) Z KU [0] fun G=>(Yj (Zh ?_)))
  refine Zo hfr G rfl rfl rfl (.int We)
 have h1:¬ m<n:=Yk hc2
 refine Yf (Za (Ya (Ya (rZ G (qR rr (qR rr (qf (Zad .t .t) r2 qz qZ))) Z [19,4] [0] fun G=>?_))))
 refine Zb G rfl (fun hc3=>?_) (fun hc3=>?_)
 ·have hg:Zcx m n=1:=by unfold Zcx;rw [Yb h1,Ye (Yd hc3)]
  refine Ya (rZ G (qI qZ) Z [4] [0] fun G=>(Yj (Zh ?_)))
  refine Zo hfr G rfl rfl rfl (.int We)
 have hg:Zcx m n=0:=by unfold Zcx;rw [Yb h1,Yb (Yk hc3)]
 refine Yf (Za (Ya (rZ G (qI qZ) Z [4] [0] fun G=>Yj ?_)))
 refine Zo hfr G rfl rfl rfl (.int We)
theorem ZnH (d e:Zi):FnP prog 180 [.agg (ZE d),.agg (ZE e)] (.int .i64 (cmpE d e)):=by
 refine FnP.mk func180 rfl ntmps180 rfl fun B a w F Z hfr G=>Ya ?_
 refine rS G (qx 101 r1 (qx 102 r1 (qI qZ))) Z QJ KP fun τ G=>?_
 have G:=X5
 generalize τ 2=v2,τ 3=v3 at G
 refine Za (Ya (rS G (qg 0 101 r1 r1 (qa 101 r1 r1 (qg 2 101 r1 r1 (qa 101 r1 r1 (qg 3 101 r1 r1 (qa 101 r1 r1 (qg 1 101 r1 r1 (qa 101 r1 r1 (qf (Zcc (sz:=1) (r:=[(0,.tmp 10),(1,.tmp 12),(2,.tmp 14),(3,.tmp 16)]) (zs:=[.int .i64 0,.int .i64 0,.int .i64 0,.int .i64 0]) (pl:=[(0,1),(1,1),(2,1),(3,1)]) underlying313 kr kr rfl (.one rfl .t one_int kr (.one rfl .t one_int kr (.one rfl .t one_int kr (.one rfl .t one_int kr .nil)))) XV) r4 qz (qf (oH [.int .i64 0,.int .i64 0,.int .i64 0,.int .i64 0] 103) trivial qz (qS 4 103 r2 r1 qZ))))))))))) Z [5,4,3] [103,102,0] fun τ G=>?_))
 have G:=X0
 generalize τ 5=v5 at G
 refine Za (Ya (rS G (qg 0 102 r1 r1 (qa 102 r1 r1 (qg 2 102 r1 r1 (qa 102 r1 r1 (qg 3 102 r1 r1 (qa 102 r1 r1 (qg 1 102 r1 r1 (qa 102 r1 r1 (qf (Zcc (sz:=1) (r:=[(0,.tmp 19),(1,.tmp 21),(2,.tmp 23),(3,.tmp 25)]) (zs:=[.int .i64 0,.int .i64 0,.int .i64 0,.int .i64 0]) (pl:=[(0,1),(1,1),(2,1),(3,1)]) underlying313 kr kr rfl (.one rfl .t one_int kr (.one rfl .t one_int kr (.one rfl .t one_int kr (.one rfl .t one_int kr .nil)))) XV) r4 qz (qf (oH [.int .i64 0,.int .i64 0,.int .i64 0,.int .i64 0] 104) trivial qz (qS 4 104 r2 r1 qZ))))))))))) Z [6,5,4] Qs fun τ G=>?_))
 have G:=X0
 generalize τ 6=v6 at G
 refine Za (Ya (Ya (rZ G (qJ qZ) Z [27,6,5,4] Qs fun G=>Yi ?_)))
 replace G:=G.turn 103 rfl (r':=.ob (.val v5) (Zkn 313 (fun x=>PV.int .i64 x) (ZeN d))) (fun τ w f y h=>Zh6 (f:=(fun x=>PV.int .i64 x)) (l:=ZeN d) τ w f y h)
 replace G:=G.turn 104 rfl (r':=.ob (.val v6) (Zkn 313 (fun x=>PV.int .i64 x) (ZeN e))) (fun τ w f y h=>Zh6 (f:=(fun x=>PV.int .i64 x)) (l:=ZeN e) τ w f y h)
 obtain ⟨F,G⟩:=G.nM [27,6,5] Qs
 refine ZY (σ:=Nat) (fun s=>(⟨[(5,.pv (.is v5)),(6,.pv (.is v6)),(27,.pv (.int .i64 s))],[(0,frame B),(103,.ob (.val v5) (Zkn 313 (fun x=>PV.int .i64 x) (ZeN d))),(104,.ob (.val v6) (Zkn 313 (fun x=>PV.int .i64 x) (ZeN e)))]⟩:En)) (fun s=>s≤4 ∧ ∀ j,j<s→Nn (ZeN d) j=Nn (ZeN e) j) (fun s=>4 - s) 0 G ⟨by decide,fun j hj=>absurd hj (Yah j)⟩ ?_
 clear G;intro k a w F hC G
 have hC:=X4
 have G:=X3
 obtain ⟨hk,hq⟩:=hC
 refine Ya (rZ G (qf (Zbb .t qi) r1 qz qZ) Z [28,27,6,5] Qs fun G=>Ya ?_)
 refine Zb G rfl (fun hc0=>?_) (fun hc0=>?_)
 ·have hkl:k<4:=Wl
  refine Yf (Za (Ya (Yi (Ya (rZ G (qR rr (qO rr qZ)) Z [27,7,6,5] Qs fun G=>Ya ?_)))))
  refine Zv G (qR rr (qf (Za3 (sz:=1) 103 underlying313 kr .is .t ow ow) r2 r1 (qf (ZjE 103 .adr kr kr (by simp only [ZeN,Yh,Yq];omega)) r1 r1 (qR rr (qf (Za3 (sz:=1) 104 underlying313 kr .is .t ow ow) r2 r1 (qf (ZjE 104 .adr kr kr (by simp only [ZeN,Yh,Yq];omega)) r1 r1 (qf (oP (Zvw _ _) func133 (Args.two .t .t)) r2 qz (qO rr qZ)))))))) Z [27,8,6,5] Qs rfl rfl fun a w F G=>?_
  have G:=Xa
  simp only [Yab,Nat.mul_one,Yg] at G
  refine Za (Ya (rZ G (qR rr (qf (o_neq .t qi) r1 qz qZ)) Z [38,27,8,6,5] Qs fun G=>?_))
  refine Zb G rfl (fun hc1=>?_) (fun hc1=>?_)
  ·have hne:Zcx (Nn (ZeN d) k) (Nn (ZeN e) k)≠0:=Wg
   have hg:cmpE d e=Zcx (Nn (ZeN d) k) (Nn (ZeN e) k):=ZpK k _ _ hkl hkl hq (fun e=>hne (Zcm.2 e))
   refine Ya (rZ G (qR rr (qO rr qZ)) Z [27,6,5,4] Qs fun G=>(Yj (Zn (Zh (Zh (Zn (Zh ?_)))))))
   refine Zo hfr G rfl rfl rfl (.int We)
  have hqk:Nn (ZeN d) k=Nn (ZeN e) k:=Zcm.1 Wg
  refine Yf (Ze (Za (rZ G (qp r1 (qR rr qZ)) Z [27,6,5] Qs fun G=>?_)))
  replace G:=G.eI 27 k
  obtain ⟨F,G⟩:=G.nM [27,6,5] Qs
  exact ⟨k+1,F,⟨ow,fun j hj=>by rcases YY (Yag hj) with h | h;exact hq j h;rw [h];exact hqk⟩,G,ow⟩
 have hg:cmpE d e=0:=ZlI _ _ rfl fun j hj=>hq j (by simp only [ZeN,Yh,Yq] at hj;simp at hc0;omega)
 refine Yz (Zg (Zg (Zm (Za (Ya (rZ G (qI qZ) Z [4] Qs fun G=>Yj ?_))))))
 refine Zo hfr G rfl rfl rfl (.int We)
theorem Zs4 (x:Int) (hx:0≤x∧x<256):FnP prog 171 [.int .u64 x] (.any):=by
 refine FnP.mk func171 rfl ntmps171 rfl fun B a w F Z hfr G=>?_
 have u8w:IntKind.wrap .u8 x=x:=ZdW ⟨by simp [IntKind.min,IntKind.signed,IntKind.bits];omega,by simp [IntKind.max,IntKind.signed,IntKind.bits];omega⟩
 have hx256:x<(256:Nat):=ow
 refine Ya (rZ G (qI qZ) Z Q0 [0] fun G=>(Ya (Ya ?_)))
 refine rZ G (qR rr (qf (ZbD .t qi) r1 qz qZ)) Z QU [0] fun G=>?_
 refine Zb G rfl (fun hc0=>?_) (fun hc0=>?_)
 ·simp at hc0;omega
 refine Yf (Za (Ya (Ya (rZ G (qR rr (qf (ZbD .t qi) r1 qz qZ)) Z [8,2,0] [0] fun G=>?_))))
 refine Zb G rfl (fun hc1=>?_) (fun hc1=>?_)
 ·simp at hc1;omega
 refine Yf (Za (Ya (Ya (rZ G (qR rr (qf (ZbD .t qi) r1 qz qZ)) Z [14,2,0] [0] fun G=>?_))))
 refine Zb G rfl (fun hc2=>?_) (fun hc2=>?_)
 ·simp at hc2;omega
 refine Yf (Za (Ya (rZ G (qR rr (qR rr (qf (o_conv Ycc kr .t) r1 qz (qf (ZmC Yb5 (.cs kr) .t (by rw [u8w];omega) (by rw [u8w];exact hx256)) r1 qz (qf (o_conv Yb1 kr .t) r1 qz (qf (Zce .t .t) r2 qz (qO rr qZ))))))) Z [2] [0] fun G=>Yj ?_)))
 refine Zo hfr G rfl rfl rfl .any
theorem Zr6 (x:Int) (hx:0≤x∧x<256):FnP prog 120 [.int .u64 x] (.any):=by
 refine FnP.mk func120 rfl ntmps120 rfl fun B a w F Z hfr G=>Ya ?_
 refine rZ G (qI qZ) Z Q0 [0] fun G=>Ya ?_
 refine wp_cond XV ?_
 refine Yf (Za (Ya (rZ G (qR rr (qf (oP (Zs4 x hx) func171 (Args.one .t)) r1 qz (qO rr qZ))) Z [2] [0] fun G=>Yj ?_)))
 refine Zo hfr G rfl rfl rfl .any
theorem Zqn (v:Value) (l:List Zi) (hl:l.length≤12) (hs:∀ j,0<j→j<l.length→¬ cmpE (Nn l j) (Nn l (j - 1))<0):FnG prog 241 1 [.is v,.int .i64 0,.int .i64 l.length,.is (.func (.func 180) #[] #[])] [Zz 116 4 ZE l v] (.tup []) (fun _=>[Zz 116 4 ZE l v]):=by
 refine FnG.mk func241 rfl ntmps241 rfl kr fun B F0 a w F Z hG G=>?_
 have G:=G.turn 1 rfl (r':=RS.ob (.val v) (Zz 116 4 ZE l)) (fun _ _ _ _ h=>h)
 obtain ⟨F,G⟩:=G.nM [3,2,1,0] KQ
 refine Ya (rZ G (qR rr (qp r1 (qO rr qZ))) Z JW KQ fun G=>Yi ?_)
 replace G:=G.ent (i:=8) (s':=.pv (.int .i64 ((1:Nat):Int))) rfl (.int XW)
 obtain ⟨F,G⟩:=G.nM JW KQ
 refine ZY (σ:=Nat) (fun s=>(⟨[(0,.pv (.is v)),(1,.pv (.int .i64 0)),(2,.pv (.int .i64 l.length)),(3,.pv (.is (.func (.func 180) #[] #[]))),(8,.pv (.int .i64 s))],[(0,frame B),(1,.ob (.val v) (Zz 116 4 ZE l))]⟩:En)) (fun s=>1≤s∧s≤13) (fun s=>13 - s) 1 G ⟨by decide,by decide⟩ ?_
 clear G;intro i a w F hC G
 have hC:=X4
 have G:=X3
 obtain ⟨hi1,hi2⟩:=hC
 have hw:IntKind.wrap .i64 ((i:Int) - 1)=((i - 1:Nat):Int):=K3
 refine Ya (Ya (rZ G (qR rr (qR rr (qL r2))) Z [14,8,3,2,1,0] KQ fun G=>?_))
 refine Zb G rfl (fun hc0=>?_) (fun hc0=>?_)
 ·have hil:i<l.length:=Wl
  refine Yf (Za (Ya (Yi (Ya (rZ G (qR rr (qO rr qZ)) Z [9,8,3,2,1,0] KQ fun G=>Yi ?_)))))
  obtain ⟨F,G⟩:=G.nM [9,8,3,2,1,0] KQ
  refine ZY (σ:=Unit) (fun s=>(⟨[(0,.pv (.is v)),(1,.pv (.int .i64 0)),(2,.pv (.int .i64 l.length)),(3,.pv (.is (.func (.func 180) #[] #[]))),(8,.pv (.int .i64 i)),(9,.pv (.int .i64 i))],[(0,frame B),(1,.ob (.val v) (Zz 116 4 ZE l))]⟩:En)) (fun s=>True) (fun s=>0) () G trivial ?_
  clear G;intro u a w F hC G
  have hC:=X4
  have G:=X3
  refine Ya (Ya (Zv G (qR rr (qR rr (qf (Zad .t .t) r2 qz (qR rr (qm rfl rfl rfl rfl (qm rfl rfl rfl rfl (qm rfl rfl rfl rfl (qk rfl (fun h=>o_indexAddr_row (sz:=4) 1 (.mk Yb0 kr) (.w h .is) (.w h) ow ow XV) r3 r1 (qk rfl (fun h=>Zx (ag:=true) (sz':=4) (sz:=4) 1 (.w h) Wh ow kr kr kr) r2 r1 (qm rfl rfl rfl rfl (qm rfl rfl rfl rfl (qk rfl (fun h=>o_sub (.w h) qi) r2 qz (qk rfl (fun h=>o_indexAddr_row (sz:=4) 1 (.mk Yb0 kr) (.w h .is) (.w h) Wi Wi XV) r3 r1 (qk rfl (fun h=>Zx (ag:=true) (sz':=4) (sz:=4) 1 (.w h) Wh Wi kr kr kr) r2 r1 (qk rfl (fun h=>Zsf (.w h) (ZnH _ _) func180 rfl kr (Args.two (.pagg (.w h)) (.pagg (.w h)))) r4 qz (qk rfl (fun h=>Zbb (.w h) qi) r2 qz (qf (ZC .t .t) r2 qz qZ))))))))))))))))) Z [34,9,8,3,2,1,0] KQ rfl rfl fun a w F G=>?_))
  have G:=Xa
  refine Za (Zb G rfl (fun hc1=>?_) (fun hc1=>?_))
  ·simp only [Yw,Yl,Yg,hw] at hc1
   exact (hs i ow ow hc1.2).elim
  refine Yz (Zg (Zg (Zm (Ze (Za (rZ G (qR rr (qp r1 (qO rr qZ))) Z JW KQ fun G=>?_))))))
  replace G:=G.eI 8 i
  obtain ⟨F,G⟩:=G.nM JW KQ
  exact ⟨i+1,F,⟨ow,ow⟩,G,ow⟩
 refine Yz (Zg (Zg (Zm ?_)))
 have G:=G.turn 1 rfl (r':=RS.hp (Zz 116 4 ZE l v)) (fun _ _ _ _ h=>h)
 refine ZL hG G rfl .nil ZaB.none rfl
theorem ZvW (v:Value) (l:List Zi) (hl:l.length≤12) (hs:∀ j,0<j→j<l.length→¬ cmpE (Nn l j) (Nn l (j - 1))<0):FnG prog 219 1 [.is v,.int .i64 0,.int .i64 l.length,.any,.is (.func (.func 180) #[] #[])] [Zz 116 4 ZE l v] (.tup []) (fun _=>[Zz 116 4 ZE l v]):=by
 refine FnG.mk func219 rfl ntmps219 rfl kr fun B F0 a w F Z hG G=>?_
 have G:=G.turn 1 rfl (r':=RS.ob (.val v) (Zz 116 4 ZE l)) (fun _ _ _ _ h=>h)
 obtain ⟨F,G⟩:=G.nM [4,3,2,1,0] KQ
 refine Ya (rZ G qB Z [10,4,3,2,1,0] KQ fun G=>Ya ?_)
 refine rZ G qB Z [11,10,4,3,2,1,0] KQ fun G=>Yi ?_
 obtain ⟨F,G⟩:=G.nM [4,2,1,0] KQ
 refine ZY (σ:=Unit) (fun s=>(⟨[(0,.pv (.is v)),(1,.pv (.int .i64 0)),(2,.pv (.int .i64 l.length)),(4,.pv (.is (.func (.func 180) #[] #[])))],[(0,frame B),(1,.ob (.val v) (Zz 116 4 ZE l))]⟩:En)) (fun s=>True) (fun s=>0) () G trivial ?_
 clear G;intro u a w F hC G
 have hC:=X4
 have G:=X3
 refine Yi (Ya (Zc G (qR rr (qR rr (qf (o_sub .t .t) r2 qz (qO rr qZ)))) Z [12,4,2,1,0] KQ rfl rfl fun a w F G=>?_))
 skip
 refine Za (Ya (Ya (rZ G (qR rr (qf (o_leq .t qi) r1 qz qZ)) Z [25,12,4,2,1,0] KQ fun G=>?_)))
 refine Zb G rfl (fun hc0=>?_) (fun hc0=>?_)
 ·refine Ya (rZ G (qR rr (qR rr (qR rr (qR rr (qf (ZbF 1 (Zqn v l hl hs) func241 rfl kr (Args.four .t .t .t .t)) r4 r1 qZ))))) Z [12,4,2,1,0] KQ fun G=>(Yj (Zh (Zn (Zh (Zn ?_))))))
  have G:=G.turn 1 rfl (r':=RS.hp (Zz 116 4 ZE l v)) (fun _ _ _ _ h=>h)
  refine ZL hG G rfl .nil ZaB.none rfl
 rw [wrap_i64 ow] at hc0
 simp at hc0
 omega
theorem ZmG (v:Value) (l:List Zi) (hl:l.length≤12) (hs:∀ j,0<j→j<l.length→¬ cmpE (Nn l j) (Nn l (j - 1))<0):FnG prog 179 1 [.is v,.is (.func (.func 180) #[] #[])] [Zz 116 4 ZE l v] (.tup []) (fun _=>[Zz 116 4 ZE l v]):=by
 refine FnG.mk func179 rfl ntmps179 rfl kr fun B F0 a w F Z hG G=>?_
 have G:=G.turn 1 rfl (r':=RS.ob (.val v) (Zz 116 4 ZE l)) (fun _ _ _ _ h=>h)
 obtain ⟨F,G⟩:=G.nM KQ KQ
 refine Ya (Zc G (qR rr (qf (ZN 1 Yb0 .is) r1 r1 (qO rr qZ))) Z KU KQ rfl rfl fun a w F G=>?_)
 have hxl:0≤IntKind.wrap .u64 (l.length:Int)∧IntKind.wrap .u64 (l.length:Int)<256:=by rw [Zaa];omega
 refine Za (Zc G (qR rr (qR rr (qR rr (qf (o_conv Ycd kr .t) r1 qz (qf (oP (Zr6 _ hxl) func120 (Args.one .t)) r1 qz (qR rr (qf (ZbF 1 (ZvW v l hl hs) func219 rfl kr (Args.five .t qi .t .t .t)) r4 r1 qZ))))))) Z [] KQ rfl rfl fun a w F G=>?_)
 have G:=G.turn 1 rfl (r':=RS.hp (Zz 116 4 ZE l v)) (fun _ _ _ _ h=>h)
 refine ZL hG G rfl .nil ZaB.none rfl
theorem Zsm (w:World) (yy:Ys):PVs (ZE noE) [.int .i64 0,.int .i64 0,.int .i64 0,.int .i64 0] w yy:=by
 have h:inR .i64 0:=by simp [inR,IntKind.min,IntKind.max,IntKind.signed,IntKind.bits]
 exact ⟨⟨rfl,rfl,h⟩,⟨rfl,rfl,h⟩,⟨rfl,rfl,h⟩,⟨rfl,rfl,h⟩,tv⟩
theorem Zc5:inR .i64 0:=by show IntKind.min .i64≤0∧0≤IntKind.max .i64;decide
def Zp {α:Type} [DecidableEq α]:List α→List α
 | []=>[]
 | [x]=>[x]
 | x :: y :: l=>if x=y then Zp (y :: l) else x :: Zp (y :: l)
theorem Zci {α:Type} [DecidableEq α] (a b:α):∀ l:List α,Zp (l ++ [a,b])=if a=b then Zp (l ++ [a]) else Zp (l ++ [a]) ++ [b]
 | []=>by
  show (if a=b then [b] else a :: [b])=if a=b then [a] else [a] ++ [b]
  split
  ·rename_i h;rw [h]
  ·rfl
 | [x]=>by
  have ih:=Zci a b []
  show (if x=a then Zp ([] ++ [a,b]) else x :: Zp ([] ++ [a,b]))=if a=b then (if x=a then Zp ([] ++ [a]) else x :: Zp ([] ++ [a])) else (if x=a then Zp ([] ++ [a]) else x :: Zp ([] ++ [a])) ++ [b]
  rw [ih]
  by_cases h1:x=a <;> by_cases h2:a=b <;> simp [h1,h2]
 | x :: y :: l=>by
  have ih:=Zci a b (y :: l)
  show (if x=y then Zp (y :: l ++ [a,b]) else x :: Zp (y :: l ++ [a,b]))=if a=b then (if x=y then Zp (y :: l ++ [a]) else x :: Zp (y :: l ++ [a])) else (if x=y then Zp (y :: l ++ [a]) else x :: Zp (y :: l ++ [a])) ++ [b]
  rw [ih]
  by_cases h1:x=y <;> by_cases h2:a=b <;> simp [h1,h2]
theorem Zbl {α:Type} [DecidableEq α] [Inhabited α] {l:List α} {p:Nat} (h1:1≤p) (h2:p<l.length):Zp (l.take (p+1))=if Nn l (p - 1)=Nn l p then Zp (l.take p) else Zp (l.take p) ++ [Nn l p]:=by
 obtain ⟨q,rfl⟩:∃ q,p=q+1:=⟨p - 1,ow⟩
 rw [Zy h2,Zy (show q<l.length by omega),Y1]
 exact Zci _ _ _
theorem ZbM {α:Type} [DecidableEq α]:∀ {l:List α},l.length≤1→Zp l=l
 | [],_=>rfl
 | [x],_=>rfl
 | x :: y :: l,h=>by simp at h
structure STO {α:Type} (lt:α→α→Bool):Prop where
 irr:∀ a,lt a a=false
 tr:∀ a b c,lt a b=true→lt b c=true→lt a c=true
 tot:∀ a b,lt a b=false→lt b a=false→a=b
section
variable {α:Type} {lt:α→α→Bool}
theorem STO.asym (h:STO lt) {a b:α} (k:lt a b=true):lt b a=false:=by
 cases e:lt b a with
 | false=>rfl
 | true=>have:=h.tr a b a k e;rw [h.irr] at this;cases this
theorem STO.ne (h:STO lt) {a b:α} (k:lt a b=true):a≠b:=fun e=>by subst e;rw [h.irr] at k;cases k
theorem STO.le (h:STO lt) {a b c:α} (h1:lt a b=true) (h2:lt c b=false):lt a c=true:=by
 cases e:lt a c with
 | true=>rfl
 | false=>
  cases e2:lt c a with
  | true=>have:=h.tr c a b e2 h1;rw [h2] at this;cases this
  | false=>have:=h.tot a c e e2;subst this;rw [h1] at h2;cases h2
abbrev Zou (lt:α→α→Bool) (l:List α):Prop:=l.Pairwise fun a b=>lt a b=true
theorem Zge (h:STO lt):∀ {a b:List α},Zou lt a→Zou lt b→(∀ x,x ∈ a ↔ x ∈ b)→a=b
 | [],[],_,_,_=>rfl
 | [],y :: b,_,_,k=>by have:=(k y).2 XM;cases this
 | x :: a,[],_,_,k=>by have:=(k x).1 XM;cases this
 | x :: a,y :: b,ha,hb,k=>by
  have ha':=Yu.1 ha
  have hb':=Yu.1 hb
  have e:x=y:=by
   rcases Ym.1 ((k x).1 XM) with e | e
   ·exact e
   ·rcases Ym.1 ((k y).2 XM) with e2 | e2
    ·exact e2.symm
    ·have h1:=h.asym (hb'.1 x e);rw [ha'.1 y e2] at h1;cases h1
  subst e
  congr 1
  refine Zge h ha'.2 hb'.2 fun z=>⟨fun hz=>?_,fun hz=>?_⟩
  ·rcases Ym.1 ((k z).1 W8) with e | e
   ·exact absurd e.symm (h.ne (ha'.1 z hz))
   ·exact e
  ·rcases Ym.1 ((k z).2 W8) with e | e
   ·exact absurd e.symm (h.ne (hb'.1 z hz))
   ·exact e
theorem ZlJ (h:STO lt) (l:List α):(l.mergeSort fun x y=>!lt y x).Pairwise (fun a b=>lt b a=false):=by
 have:=Ybx (le:=fun x y=>!lt y x) (fun a b c h1 h2=>by
  simp at h1 h2 ⊢
  cases e:lt c a with
  | false=>rfl
  | true=>have:=h.le e h1;rw [h2] at this;cases this) (fun a b=>by
  cases e:lt b a with
  | false=>simp
  | true=>simp [h.asym e]) l
 exact this.imp fun h=>by simpa using h
variable [DecidableEq α]
def Zec (lt:α→α→Bool) (e:α):List α→Bool→List α
 | [],d=>if d then [] else [e]
 | x :: l,d=>(if d=false∧lt x e=false then [e] else [])++(if x=e then [] else [x])++Zec lt e l (d || !lt x e)
def ZmH (lt:α→α→Bool) (l:List α) (e:α):List α:=Zec lt e l false
theorem Ziy (lt:α→α→Bool) (e:α):∀ (l:List α) (d:Bool),(Zec lt e l d).length≤l.length+(if d then 0 else 1)
 | [],d=>by cases d <;> simp [Zec]
 | x :: l,d=>by
  have ih:=Ziy lt e l (d || !lt x e)
  have h1:(if x=e then ([]:List α) else [x]).length≤1:=by split <;> simp
  have h2:(if d=false∧lt x e=false then [e] else ([]:List α)).length+(if (d || !lt x e)=true then 0 else 1)≤if d=true then 0 else 1:=by
   cases d <;> cases lt x e <;> simp
  rw [Zec,Yc,Yc,Yh]
  omega
theorem Zel (h:STO lt) {e:α} : ∀ {l:List α},(∀ x ∈ l,lt e x=true)→Zec lt e l true=l
 | [],_=>rfl
 | x :: l,k=>by
  have h1:=k x XM
  rw [Zec,Bool.true_or,Zel h fun y hy=>k y Wj,Yb XM,Yb (h.ne h1).symm]
  rfl
theorem ZkZ (h:STO lt) {e:α} : ∀ {l:List α},Zou lt l→Zou lt (ZmH lt l e) ∧ ∀ x,x ∈ ZmH lt l e ↔ x ∈ l∨x=e
 | [],_=>by simp [ZmH,Zec]
 | y :: l,k=>by
  have h':=Yu.1 k
  unfold ZmH
  cases h1:lt y e with
  | true=>
   have e1:Zec lt e (y :: l) false=y :: Zec lt e l false:=by
    rw [Zec,Yb (by rw [h1];simp),Yb (h.ne h1),h1];rfl
   have ih:=ZkZ h (e:=e) h'.2
   rw [e1]
   refine ⟨Yu.2 ⟨fun p hp=>?_,ih.1⟩,fun x=>?_⟩
   ·rcases (ih.2 p).1 hp with hp | rfl
    ·exact h'.1 p hp
    ·exact h1
   ·have:=ih.2 x
    unfold ZmH at this
    simp only [Ym,this,or_assoc]
  | false=>
   by_cases h2:y=e
   ·subst h2
    rw [Zec,Ye ⟨rfl,h1⟩,Ye rfl,h1,show (false || !false)=true from rfl,Zel h h'.1]
    exact ⟨k,fun x=>by simp;intro e;exact .inl e⟩
   ·have h3:lt e y=true:=by
     cases e3:lt e y with
     | true=>rfl
     | false=>exact absurd (h.tot y e h1 e3) h2
    rw [Zec,Ye ⟨rfl,h1⟩,Yb h2,h1,show (false || !false)=true from rfl,Zel h fun x hx=>h.tr e y x h3 (h'.1 x hx)]
    refine ⟨Yu.2 ⟨fun p hp=>?_,k⟩,fun x=>by simp;constructor <;> (rintro (h | h | h) <;> simp [h])⟩
    rcases Ym.1 hp with rfl | hp
    ·exact h3
    ·exact h.tr e y p h3 (h'.1 p hp)
def Zbv (lt:α→α→Bool) (l:List α):List α:=l.foldl (ZmH lt) []
theorem ZbB (h:STO lt) (l:List α):Zou lt (Zbv lt l) ∧ ∀ x,x ∈ Zbv lt l ↔ x ∈ l:=by
 have key:∀ (l acc:List α),Zou lt acc→Zou lt (l.foldl (ZmH lt) acc) ∧ ∀ x,x ∈ l.foldl (ZmH lt) acc ↔ x ∈ acc∨x ∈ l:=by
  intro l
  induction l with
  | nil=>intro acc k;exact ⟨k,fun x=>by simp⟩
  | cons y l ih=>
   intro acc k
   have h1:=ZkZ h (e:=y) k
   have h2:=ih (ZmH lt acc y) h1.1
   refine ⟨h2.1,fun x=>?_⟩
   rw [Yav,h2.2 x,h1.2 x,Ym,or_assoc]
 have:=key l [] List.Pairwise.nil
 exact ⟨this.1,fun x=>by rw [show Zbv lt l=l.foldl (ZmH lt) [] from rfl,this.2 x];simp⟩
theorem Zcw (h:STO lt):∀ {l:List α},l.Pairwise (fun a b=>lt b a=false)→Zou lt (Zp l) ∧ ∀ x,x ∈ Zp l ↔ x ∈ l
 | [],_=>by simp [Zp]
 | [x],_=>by simp [Zp]
 | x :: y :: l,k=>by
  have h':=Yu.1 k
  have ih:=Zcw h h'.2
  show Zou lt (if x=y then Zp (y :: l) else x :: Zp (y :: l)) ∧ ∀ z,z ∈ (if x=y then Zp (y :: l) else x :: Zp (y :: l)) ↔ _
  split
  ·rename_i e
   subst e
   exact ⟨ih.1,fun z=>by rw [ih.2 z];simp⟩
  ·rename_i e
   have hxy:lt x y=true:=by
    cases e2:lt x y with
    | true=>rfl
    | false=>exact absurd (h.tot x y e2 (h'.1 y XM)) e
   refine ⟨Yu.2 ⟨fun z hz=>?_,ih.1⟩,fun z=>by rw [Ym,ih.2 z,← Ym]⟩
   rcases Ym.1 ((ih.2 z).1 hz) with rfl | hz2
   ·exact hxy
   ·exact h.le hxy ((Yu.1 h'.2).1 z hz2)
theorem Zjk (h:STO lt) (l:List α):Zp (l.mergeSort fun x y=>!lt y x)=Zbv lt l:=
 Zge h (Zcw h (ZlJ h l)).1 (ZbB h l).1 fun x=>by rw [(Zcw h (ZlJ h l)).2,(ZbB h l).2];exact (YaI l _).mem_iff
end
theorem ZvI (d e:Zi):(decide (d.src=e.src) && (decide (d.dst=e.dst) && (decide (d.kind=e.kind) && (decide (d.key=e.key) && true))))=decide (d=e):=by
 cases d;cases e
 rw [Yau]
 simp
def ltE (a b:Zi):Bool:=decide (cmpE a b<0)
theorem Zlk (a b:Zi):(cmpE a b<0 ↔ a.src<b.src∨a.src=b.src∧(a.kind<b.kind∨a.kind=b.kind∧(a.key<b.key∨a.key=b.key∧a.dst<b.dst))):=by
 unfold cmpE ZeN Zgo
 by_cases h1:a.src=b.src
 ·rw [Ye h1]
  unfold Zgo
  by_cases h2:a.kind=b.kind
  ·rw [Ye h2]
   unfold Zgo
   by_cases h3:a.key=b.key
   ·rw [Ye h3]
    unfold Zgo
    by_cases h4:a.dst=b.dst
    ·rw [Ye h4];unfold Zgo;simp;omega
    ·rw [Yb h4];unfold Zcx;split <;> (try split) <;> omega
   ·rw [Yb h3];unfold Zcx;split <;> (try split) <;> omega
  ·rw [Yb h2];unfold Zcx;split <;> (try split) <;> omega
 ·rw [Yb h1];unfold Zcx;split <;> (try split) <;> omega
theorem Zut (a b:Zi):ltE a b=true ↔ a.src<b.src∨a.src=b.src∧(a.kind<b.kind∨a.kind=b.kind∧(a.key<b.key∨a.key=b.key∧a.dst<b.dst)):=by unfold ltE;rw [Yl,Zlk]
theorem ZjW (a b:Zi):ltE a b=false ↔ ¬ (a.src<b.src∨a.src=b.src∧(a.kind<b.kind∨a.kind=b.kind∧(a.key<b.key∨a.key=b.key∧a.dst<b.dst))):=by unfold ltE;rw [Yr,Zlk]
theorem ZbQ:STO ltE where
 irr a:=by rw [ZjW];omega
 tr a b c h1 h2:=by rw [Zut] at *;omega
 tot a b h1 h2:=by
  rw [ZjW] at h1 h2
  cases a;cases b
  simp only [Zi.mk.injEq] at *
  omega
def Zco (l:List Zi):List Zi:=l.mergeSort fun x y=>!ltE y x
theorem ZmO (l:List Zi):Zp (Zco l)=Zbv ltE l:=Zjk ZbQ l
theorem Zi9 (l:List Zi):(Zco l).length=l.length:=YbE l
def Zap {α:Type} [Inhabited α] (p:α→Bool) (l:List α):Int:=match l.findIdx? p with
 | some i=>i
 | none=>-1
theorem Zcv {α:Type} [Inhabited α] {p:α→Bool} {l:List α} (h:∀ k,k<l.length→p (Nn l k)=false):Zap p l = -1:=by
 unfold Zap
 have:l.findIdx? p=none:=List.findIdx?_eq_none_iff.2 fun x hx=>by
  obtain ⟨k,hk,rfl⟩:=YbL.1 hx
  rw [← nth_eq hk];exact h k hk
 rw [this]
theorem Zd2 {α:Type} [Inhabited α] {p:α→Bool} {l:List α} {i:Nat} (hi:i<l.length) (h:p (Nn l i)=true) (h2:∀ k,k<i→p (Nn l k)=false):Zap p l=i:=by
 unfold Zap
 have:l.findIdx? p=some i:=List.findIdx?_eq_some_iff_getElem.2 ⟨hi,by rw [← nth_eq hi];exact h,fun k hk=>by rw [← nth_eq ow,h2 k hk];decide⟩
 rw [this]
theorem ZiP {α:Type} [Inhabited α] (p:α→Bool) (l:List α):(Zap p l = -1 ∧ ∀ k,k<l.length→p (Nn l k)=false) ∨ ∃ i:Nat,Zap p l=i∧i<l.length∧p (Nn l i)=true ∧ ∀ k,k<i→p (Nn l k)=false:=by
 cases h:l.findIdx? p with
 | none=>
  left
  refine ⟨by unfold Zap;rw [h],fun k hk=>?_⟩
  have:=List.findIdx?_eq_none_iff.1 h l[k] (YaL hk)
  rw [nth_eq hk];exact this
 | some i=>
  right
  obtain ⟨h1,h2,h3⟩:=List.findIdx?_eq_some_iff_getElem.1 h
  refine ⟨i,by unfold Zap;rw [h],h1,by rw [nth_eq h1];exact h2,fun k hk=>?_⟩
  rw [nth_eq ow]
  simpa using h3 k hk
theorem ZlM (l:List Int) (hl:l.length≤1000000):FnG prog 74 1 [.sl Zq l] [.star []] (PV.one) (fun v=>[Zz 3 1 Zq l v]):=by
 refine FnG.mk func74 rfl ntmps74 rfl kr fun B F0 a w F Z hG G=>?_
 obtain ⟨F,G⟩:=G.nM [0] [0]
 refine Ya (rZ G (qC qZ) Z Q0 [0] fun G=>(Ya (Ya ?_)))
 refine Zc G (qR rr (qf (Zdi YbY .t) r1 qz qZ)) Z QU [0] rfl rfl fun a w F G=>?_
 obtain ⟨β4,hβ4,G⟩:=G.pickBool 4 rfl
 obtain ⟨F,G⟩:=G.nM QU [0]
 refine Za (Zb G rfl (fun hc0=>?_) (fun hc0=>?_))
 ·have hg:l = []:=hβ4 hc0
  refine Ya (rZ G (qC qZ) Z Q0 [0] fun G=>(Yj (Zh ?_)))
  have G:=G.fresh 1 rfl
  have G:=G.turn 1 rfl (Za6 (T:=3) (sz:=1) (R:=Zq))
  have G:=G.turn 1 rfl (r':=RS.hp (Zz 3 1 Zq l (.slice none 0 0))) (fun _ _ _ _ h=>by rw [hg];exact h)
  refine Zaw (h':=fun v=>Zz 3 1 Zq l v) hG G rfl (.tmp rfl .nil) (.one .one) rfl
 have hg:l = [] ++ l:=rfl
 refine Yf (Za (Ya (rS G (qf (ZaR (R:=Zq) (sz:=1) 101 YbY kr) trivial qz (qR rr (qf (o_append (sz:=1) (bs:=8) 101 (.mk' YbY kr kr) Wh .same (.sl .t) Wk XW) ⟨rfl,rfl,tv⟩ ⟨rfl,tv⟩ (qO rr qZ)))) Z [2] KN fun τ G=>?_)))
 have G:=Xx
 generalize τ 7=v7 at G
 refine Za (Yj ?_)
 obtain ⟨F,G⟩:=G.rename 101 1 rfl rfl
 have G:=G.turn 1 rfl (r':=RS.hp (Zz 3 1 Zq l v7)) (fun _ _ _ _ h=>by rw [hg];exact h)
 refine Zaw (h':=fun v=>Zz 3 1 Zq l v) hG G rfl (.tmp rfl .nil) (.one .one) rfl
theorem Zno (v:Value) (l:List Int) (hll:l.length≤1000000):FnG prog 130 1 [.is v] [Zz 3 1 Zq l v] (PV.one) (fun v=>[Zz 3 1 Zq (Zp l) v]):=by
 refine FnG.mk func130 rfl ntmps130 rfl kr fun B F0 a w F Z hG G=>?_
 replace G:=G.turn 1 rfl (r':=.ob (.val v) (Zz 3 1 Zq l)) (fun _ _ _ _ h=>h)
 refine Ya (rZ G (qC qZ) Z Q0 KQ fun G=>(Ya (Ya ?_)))
 refine rZ G (qR rr (qf (ZN 1 YbY .is) r1 r1 (qf (Zbb .t qi) r1 qz qZ))) Z [8,2,0] KQ fun G=>?_
 refine Zb G rfl (fun hc0=>?_) (fun hc0=>?_)
 ·have hg:(Zp l)=l:=ZbM Wl
  refine Ya (rZ G (qR rr (qO rr qZ)) Z Q0 KQ fun G=>(Yj (Zh ?_)))
  have G:=G.turn 1 rfl (r':=RS.hp (Zz 3 1 Zq (Zp l) v)) (fun _ _ _ _ h=>by rw [hg];exact h)
  refine Zaw (h':=fun v=>Zz 3 1 Zq (Zp l) v) hG G rfl (.tmp rfl .nil) (.one .one) rfl
 have hl2:2≤l.length:=Wl
 refine Yf (Za (Ya (Ya (rZ G (qI qZ) Z KR KQ fun G=>Yi ?_))))
 refine Zk (σ:=Nat) [0,2] [0,1] (fun s=>[(3,.pv (.int .i64 (s:Int)))]) (fun s=>[]) (fun s=>1≤s∧s≤l.length∧Zp (l.take s)=l.take s) (fun s=>l.length - s) (1) G ⟨rfl,rfl,rfl,tv⟩ ⟨rfl,rfl,tv⟩ ⟨ow,ow,ZbM Wm⟩ ?_
 clear G;intro k a w F hC G
 have hC:=X4
 obtain ⟨F,G⟩:=G.nM KR KQ
 have G:=X3
 obtain ⟨hk1,hkl,hkc⟩:=hC
 have hkw:IntKind.wrap .i64 ((k:Int) - 1)=(k:Int) - 1:=wrap_i64 ow
 refine Ya (Ya (rZ G (qR rr (qR rr (qf (ZN 1 YbY .is) r1 r1 (qL r2)))) Z [13,3,2,0] KQ fun G=>?_))
 refine Zb G rfl (fun hc1=>?_) (fun hc1=>?_)
 ·have hil:k<l.length:=WE
  have hst:=Zbl (l:=l) hk1 hil
  have hy0:(IntKind.wrap .i64 ((k:Int) - 1)).toNat=k - 1:=Wn
  refine Yf (Za (Ya (Yi (Ya (Zv G (qR rr (qR rr (qf (o_indexAddr_row (sz:=1) 1 (.mk YbY kr) .is .t ow ow XV) r2 r1 (qf (Zx (ag:=false) (sz':=1) (sz:=1) 1 .t Wh ow kr kr kr) r1 r1 (qR rr (qR rr (qf (o_sub .t qi) r1 qz (qf (o_indexAddr_row (sz:=1) 1 (.mk YbY kr) .is .t Wn Wn XV) r2 r1 (qf (Zx (ag:=false) (sz':=1) (sz:=1) 1 .t Wh Wn kr kr kr) r1 r1 (qf (o_eql .t .t) r2 qz qZ)))))))))) Z [25,3,2,0] KQ rfl rfl fun a w F G=>?_)))))
  have G:=XC
  try simp only [Yg] at G
  refine Za (Zb G rfl (fun hc2=>?_) (fun hc2=>?_))
  ·have heq:Nn l (k - 1)=Nn l k:=by rw [hy0] at hc2;simp at hc2;exact hc2.symm
   rw [Ye heq,hkc] at hst
   have hst0:=hst.symm
   refine Ya (rZ G (qR rr (qR rr (qf (Zbp (sz:=1) 1 (.mk YbY kr) .is .t ow ow) r2 r1 (qO rr qZ)))) Z QV KQ fun G=>(Ya (Ya ?_)))
   refine rZ G (qI qZ) Z Qf KQ fun G=>Yi ?_
   have hC0:1≤1∧1≤l.length - k∧k≤k∧k≤k+1 - 1∧l.length=l.length∧l.take k=Zp (l.take (k+1)) ∧ ∀ q,k+1 - 1≤q→q<l.length→Nn l q=Nn l q:=⟨ow,ow,ow,ow,rfl,hst0,fun q _ _=>rfl⟩
   refine Zk (σ:=Nat×Nat×List Int) [0,2,4] [0] (fun s=>[(3,.pv (.int .i64 (s.1:Int))),(5,.pv (.int .i64 (s.2.1:Int)))]) (fun s=>[(1,.ob (.val v) (Zz 3 1 Zq s.2.2))]) (fun s=>1≤s.2.1∧s.2.1≤l.length - k∧k≤s.1∧s.1≤k+s.2.1 - 1∧s.2.2.length=l.length∧s.2.2.take s.1=Zp (l.take (k+s.2.1)) ∧ ∀ q,k+s.2.1 - 1≤q→q<l.length→Nn s.2.2 q=Nn l q) (fun s=>l.length - s.2.1) ((k),(1),(l)) G ⟨rfl,rfl,rfl,rfl,rfl,tv⟩ ⟨rfl,rfl,tv⟩ hC0 ?_
   clear G;intro s a w F hC G
   obtain ⟨k1,j,l1⟩:=s
   have hC:=X4
   obtain ⟨F,G⟩:=G.nM Qf KQ
   have G:=X3
   obtain ⟨hj1,hjk,hkk,hkj,hl1,htk,hrest⟩:=hC
   have hjw:IntKind.wrap .i64 ((j:Int) - 1)=(j:Int) - 1:=wrap_i64 ow
   refine Ya (Ya (rZ G (qR rr (qR rr (qf (ZjH 1 YbY .t ow) r1 r1 (qL r2)))) Z [32,5,4,3,2,0] KQ fun G=>?_))
   refine Zb G rfl (fun hc3=>?_) (fun hc3=>?_)
   ·have hjl:k+j<l.length:=Kb
    have hx1:(Nn l1 (((k:Int)).toNat+((j:Int)).toNat))=Nn l (k+j):=by rw [Yg,Yg];exact hrest _ ow hjl
    have hx0:Nn l1 (((k:Int)).toNat+(IntKind.wrap .i64 ((j:Int) - 1)).toNat)=Nn l (k+j - 1):=Kg
    have hstp:=Zbl (l:=l) (p:=k+j) ow hjl
    refine Yf (Za (Ya (Yi (Ya (Zv G (qR rr (qR rr (qf (o_indexAddr_sub (sz:=1) 1 (.mk YbY kr) .t .t ow ow XV) r2 r1 (qf (Zx (ag:=false) (sz':=1) (sz:=1) 1 .t Wh ow kr kr kr) r1 r1 (qR rr (qR rr (qf (o_sub .t qi) r1 qz (qf (o_indexAddr_sub (sz:=1) 1 (.mk YbY kr) .t .t Wo Wo XV) r2 r1 (qf (Zx (ag:=false) (sz':=1) (sz:=1) 1 .t Wh Wo kr kr kr) r1 r1 (qf (o_neq .t .t) r2 qz qZ)))))))))) Z [44,5,4,3,2,0] KQ rfl rfl fun a w F G=>?_)))))
    have G:=XC
    try simp only [Yg] at G
    refine Za (Zb G rfl (fun hc4=>?_) (fun hc4=>?_))
    ·have hne:¬ Nn l (k+j - 1)=Nn l (k+j):=by rw [← hx1,← hx0];simp at hc4 ⊢;exact fun e=>hc4 e.symm
     rw [Yb hne] at hstp
     obtain ⟨i2,hi2e⟩:∃ i2,i2=k1+1:=⟨_,rfl⟩
     have hi2:IntKind.wrap .i64 ((k1:Int)+1)=(i2:Int):=by rw [hi2e];exact Za7 ow
     obtain ⟨l2,hl2e⟩:∃ l2,l2=l1.set k1 (Nn l1 (k+j)):=⟨_,rfl⟩
     have hx1b:Nn l1 (k+j)=Nn l (k+j):=hrest _ ow hjl
     have hC2:1≤j+1∧j+1≤l.length - k∧k≤i2∧i2≤k+(j+1) - 1∧l2.length=l.length∧l2.take i2=Zp (l.take (k+(j+1))) ∧ ∀ q,k+(j+1) - 1≤q→q<l.length→Nn l2 q=Nn l q:=⟨ow,ow,ow,ow,by rw [hl2e,YU];exact hl1,by rw [hl2e,hi2e,Zy Wp,List.take_set_of_le (YF _),htk,nth_eq Wp,List.getElem_set_self,hx1b];exact hstp.symm,fun q hq hq2=>by rw [hl2e,nth_eq Wp,List.getElem_set_ne ow,← nth_eq ow];exact hrest q ow hq2⟩
     refine Ya (Zc G (qR rr (qR rr (qR rr (qR rr (qf (o_indexAddr_sub (sz:=1) 1 (.mk YbY kr) .t .t ow ow XV) r2 r1 (qf (Zx (ag:=false) (sz':=1) (sz:=1) 1 .t Wh ow kr kr kr) r1 r1 (qf (o_indexAddr_row (sz:=1) 1 (.mk YbY kr) .is .t ow ow XV) r2 r1 (qf (ZT (R:=Zq) (sz:=1) (v:=(Nn l1 (((k:Int)).toNat+((j:Int)).toNat))) 1 .t Wh ow .t rfl one_int kr) r2 r1 qZ)))))))) Z Qf KQ rfl rfl fun a w F G=>?_)
     try simp only [Yg] at G
     rw [← hl2e] at G
     refine Za (Zc G (qR rr (qp r1 (qO rr qZ))) Z Qf KQ rfl rfl fun a w F G=>Ze (Za ?_))
     refine rZ G (qR rr (qp r1 (qO rr qZ))) Z Qf KQ fun G=>?_
     have hmu:l.length - (j+1)<l.length - j:=ow
     replace G:=G.ent (i:=3) (s':=.pv (.int .i64 (i2:Int))) rfl (.int hi2)
     replace G:=G.eI 5 j
     obtain ⟨F,G⟩:=G.nM JX [0,1]
     exact ⟨((i2),(j+1),(l2)),F,hC2,G,hmu⟩
    have heq2:Nn l (k+j - 1)=Nn l (k+j):=by rw [← hx1,← hx0];simp at hc4 ⊢;exact hc4.symm
    rw [Ye heq2] at hstp
    obtain ⟨i2,hi2e⟩:∃ i2,i2=k1:=⟨_,rfl⟩
    have hi2:(k1:Int)=(i2:Int):=by rw [hi2e]
    obtain ⟨l2,hl2e⟩:∃ l2,l2=l1:=⟨_,rfl⟩
    rw [← hl2e] at G
    have hC2:1≤j+1∧j+1≤l.length - k∧k≤i2∧i2≤k+(j+1) - 1∧l2.length=l.length∧l2.take i2=Zp (l.take (k+(j+1))) ∧ ∀ q,k+(j+1) - 1≤q→q<l.length→Nn l2 q=Nn l q:=⟨ow,ow,ow,ow,by rw [hl2e];exact hl1,by rw [hl2e,hi2e,htk];exact hstp.symm,fun q hq hq2=>by rw [hl2e];exact hrest q ow hq2⟩
    refine Yf (Ze (Za (rZ G (qR rr (qp r1 (qO rr qZ))) Z Qf KQ fun G=>?_)))
    have hmu:l.length - (j+1)<l.length - j:=ow
    replace G:=G.ent (i:=3) (s':=.pv (.int .i64 (i2:Int))) rfl (.int hi2)
    replace G:=G.eI 5 j
    obtain ⟨F,G⟩:=G.nM JX [0,1]
    exact ⟨((i2),(j+1),(l2)),F,hC2,G,hmu⟩
   have hjl:k+j=l.length:=Kb
   have hg:(Zp l)=(l1.take k1++List.replicate (l1.length - k1) (0:Int)).take k1:=by rw [Yal Wm,Ybh,Nat.min_self,htk,hjl,YE]
   refine Yz (Zg (Zg (Zm (Za (Ya (rZ G (qR rr (qR rr (qf (Zbp (sz:=1) 1 (.mk YbY kr) .is .t ow ow) r2 r1 (qf (ZfN (R:=Zq) (z:=(0:Int)) (zs:=[.int .i64 0]) 1 YbY kr rfl rfl (fun _ _=>⟨⟨rfl,rfl,Zc5⟩,tv⟩) Wh .t XT) r1 r1 qZ)))) Z KR KQ fun G=>Ya ?_))))))
   refine rS G (qR rr (qR rr (qf (ZcH (sz:=1) 1 (.mk YbY kr) Wh .is .t ow XT) r2 r1 (qO rr qZ)))) Z KR KQ fun τ G=>?_
   try dsimp only [RS.sub,SF.sub,CF.sub,csub,Anc.sub,List.map,Zq] at G
   generalize τ 59=v59 at G
   refine Za (Yj (Zn (Zh (Zh (Zn (Zh ?_))))))
   have G:=G.turn 1 rfl (r':=RS.hp (Zz 3 1 Zq (Zp l) v59)) (fun _ _ _ _ h=>by rw [hg];exact h)
   refine Zaw (h':=fun v=>Zz 3 1 Zq (Zp l) v) hG G rfl (.tmp rfl .nil) (.one .one) rfl
  have hne:¬ Nn l (k - 1)=Nn l k:=by rw [hy0] at hc2;simp at hc2;exact fun e=>hc2 e.symm
  rw [Yb hne] at hst
  refine Yf (Ze (Za (rZ G (qR rr (qp r1 (qO rr qZ))) Z KR KQ fun G=>?_)))
  replace G:=G.eI 3 k
  obtain ⟨F,G⟩:=G.nM [2,0,3] KQ
  exact ⟨(k+1),F,⟨ow,ow,by rw [hst,hkc,← Zy hil]⟩,G,ow⟩
 have hg:(Zp l)=l:=Km
 refine Yz (Zg (Zg (Zm (Za (Ya (rZ G (qR rr (qO rr qZ)) Z [2] KQ fun G=>Yj ?_))))))
 have G:=G.turn 1 rfl (r':=RS.hp (Zz 3 1 Zq (Zp l) v)) (fun _ _ _ _ h=>by rw [hg];exact h)
 refine Zaw (h':=fun v=>Zz 3 1 Zq (Zp l) v) hG G rfl (.tmp rfl .nil) (.one .one) rfl
def ZcU (n:Int):List Int→Bool→List Int
 | [],d=>if d then [] else [n]
 | x :: l,d=>(if d=false∧n≤x then [n] else [])++(if x=n then [] else [x])++ZcU n l (d || decide (n≤x))
def Zm1 (l:List Int) (n:Int):List Int:=ZcU n l false
abbrev Zff (l:List Int):Prop:=l.Pairwise fun a b=>a<b
theorem Zd1 {n:Int} : ∀ {l:List Int},(∀ x ∈ l,n<x)→ZcU n l true=l
 | [],_=>rfl
 | x :: l,h=>by
  have:=h x XM
  rw [ZcU,Bool.true_or,Zd1 fun y hy=>h y Wj,Yb XM,Yb ow]
  rfl
theorem ZlE {n:Int} : ∀ {l:List Int},Zff l→Zff (Zm1 l n) ∧ ∀ x,x ∈ Zm1 l n ↔ x ∈ l∨x=n
 | [],_=>by simp [Zm1,ZcU]
 | y :: l,h=>by
  have h':=Yu.1 h
  unfold Zm1
  by_cases h1:y<n
  ·have e:ZcU n (y :: l) false=y :: ZcU n l false:=by
    rw [ZcU,Yb ow,Yb ow,show (false || decide (n≤y))=false by simp;omega];rfl
   have ih:=ZlE (n:=n) h'.2
   rw [e]
   refine ⟨Yu.2 ⟨fun p hp=>?_,ih.1⟩,fun x=>?_⟩
   ·rcases (ih.2 p).1 hp with hp | rfl
    ·exact h'.1 p hp
    ·exact h1
   ·have:=ih.2 x
    unfold Zm1 at this
    simp only [Ym,this]
    constructor
    ·rintro (h | h | h)
     ·exact .inl (.inl h)
     ·exact .inl (.inr h)
     ·exact .inr h
    ·rintro ((h | h) | h)
     ·exact .inl h
     ·exact .inr (.inl h)
     ·exact .inr (.inr h)
  ·by_cases h2:y=n
   ·subst h2
    rw [ZcU,Ye ⟨rfl,Yar _⟩,Ye rfl,show (false || decide (y≤y))=true by simp,Zd1 h'.1]
    exact ⟨h,fun x=>by simp;intro e;exact .inl e⟩
   ·rw [ZcU,Ye ⟨rfl,ow⟩,Yb h2,show (false || decide (n≤y))=true by simp;omega,Zd1 fun x hx=>by have:=h'.1 x hx;omega]
    refine ⟨Yu.2 ⟨fun p hp=>?_,h⟩,fun x=>by simp;constructor <;> (rintro (h | h | h) <;> simp [h])⟩
    rcases Ym.1 hp with rfl | hp
    ·omega
    ·have:=h'.1 p hp;omega
def ZcF (l:List Int):List Int:=l.foldl Zm1 []
theorem Zas (l:List Int):Zff (ZcF l) ∧ ∀ x,x ∈ ZcF l ↔ x ∈ l:=by
 have key:∀ (l acc:List Int),Zff acc→Zff (l.foldl Zm1 acc) ∧ ∀ x,x ∈ l.foldl Zm1 acc ↔ x ∈ acc∨x ∈ l:=by
  intro l
  induction l with
  | nil=>intro acc h;exact ⟨h,fun x=>by simp⟩
  | cons y l ih=>
   intro acc h
   have h1:=ZlE (n:=y) h
   have h2:=ih (Zm1 acc y) h1.1
   refine ⟨h2.1,fun x=>?_⟩
   rw [Yav,h2.2 x,h1.2 x,Ym]
   constructor
   ·rintro ((h | h) | h)
    ·exact .inl h
    ·exact .inr (.inl h)
    ·exact .inr (.inr h)
   ·rintro (h | h | h)
    ·exact .inl (.inl h)
    ·exact .inl (.inr h)
    ·exact .inr h
 have:=key l [] List.Pairwise.nil
 exact ⟨this.1,fun x=>by rw [show ZcF l=l.foldl Zm1 [] from rfl,this.2 x];simp⟩
theorem Zeh:∀ {a b:List Int},Zff a→Zff b→(∀ x,x ∈ a ↔ x ∈ b)→a=b
 | [],[],_,_,_=>rfl
 | [],y :: b,_,_,h=>by have:=(h y).2 XM;cases this
 | x :: a,[],_,_,h=>by have:=(h x).1 XM;cases this
 | x :: a,y :: b,ha,hb,h=>by
  have ha':=Yu.1 ha
  have hb':=Yu.1 hb
  have e:x=y:=by
   rcases Ym.1 ((h x).1 XM) with e | e
   ·exact e
   ·rcases Ym.1 ((h y).2 XM) with e2 | e2
    ·exact e2.symm
    ·have:=hb'.1 x e;have:=ha'.1 y e2;omega
  subst e
  congr 1
  refine Zeh ha'.2 hb'.2 fun z=>⟨fun hz=>?_,fun hz=>?_⟩
  ·rcases Ym.1 ((h z).1 W8) with e | e
   ·have:=ha'.1 z hz;omega
   ·exact e
  ·rcases Ym.1 ((h z).2 W8) with e | e
   ·have:=hb'.1 z hz;omega
   ·exact e
def ZaD:List Int→List Int
 | []=>[]
 | x :: l=>match ZaD l with
  | []=>[x]
  | y :: m=>if x=y then y :: m else x :: y :: m
theorem ZdM:∀ (x:Int) (l:List Int),∃ m,ZaD (x :: l)=x :: m
 | x,[]=>⟨[],rfl⟩
 | x,y :: l=>by
  obtain ⟨m,hm⟩:=ZdM y l
  unfold ZaD
  rw [hm]
  by_cases h:x=y
  ·subst h;exact ⟨m,Ye rfl⟩
  ·exact ⟨y :: m,Yb h⟩
theorem Zdr (x y:Int) (l:List Int):ZaD (x :: y :: l)=if x=y then ZaD (y :: l) else x :: ZaD (y :: l):=by
 obtain ⟨m,hm⟩:=ZdM y l
 conv=>lhs;unfold ZaD
 rw [hm]
theorem ZcA:∀ {l:List Int},l.Pairwise (fun a b=>a≤b)→Zff (ZaD l) ∧ ∀ x,x ∈ ZaD l ↔ x ∈ l
 | [],_=>by simp [ZaD]
 | [x],_=>by simp [ZaD]
 | x :: y :: l,h=>by
  have h':=Yu.1 h
  have ih:=ZcA h'.2
  rw [Zdr]
  split
  ·rename_i e
   subst e
   exact ⟨ih.1,fun z=>by rw [ih.2 z];simp⟩
  ·rename_i e
   refine ⟨Yu.2 ⟨fun z hz=>?_,ih.1⟩,fun z=>by rw [Ym,ih.2 z,← Ym]⟩
   have h1:=h'.1 y XM
   rcases Ym.1 ((ih.2 z).1 hz) with rfl | hz2
   ·omega
   ·have:=(Yu.1 h'.2).1 z hz2
    omega
theorem Zn6 (l:List Int):List.Pairwise (fun x y=>x≤y) (l.mergeSort leI):=by
 have:=Ybx (le:=leI) (fun a b c h1 h2=>by simp [leI] at *;omega) (fun a b=>by simp [leI];omega) l
 exact this.imp fun h=>by simpa [leI] using h
theorem ZfD (l:List Int):ZaD (l.mergeSort leI)=ZcF l:=
 Zeh (ZcA (Zn6 l)).1 (Zas l).1 fun x=>by rw [(ZcA (Zn6 l)).2,(Zas l).2];exact (YaI l leI).mem_iff
theorem Zd4:∀ l:List Int,Zp l=ZaD l
 | []=>rfl
 | [x]=>rfl
 | x :: y :: l=>by
  rw [Zdr,← Zd4 (y :: l)];rfl
theorem ZjL {n:Int} : ∀ (l:List Int) (d:Bool),(ZcU n l d).length≤l.length+1
 | [],d=>by cases d <;> simp [ZcU]
 | x :: l,d=>by
  have h1:=ZjL (n:=n) l (d || decide (n≤x))
  have h2:∀ l:List Int,(ZcU n l true).length≤l.length:=fun l=>by
   induction l with
   | nil=>simp [ZcU]
   | cons y l ih=>
    rw [ZcU,Yb XM,Yc,Yc,Bool.true_or]
    split <;> simp <;> omega
  rw [ZcU,Yc,Yc]
  have h3:=h2 l
  by_cases hA:d=false∧n≤x
  ·rw [show (d || decide (n≤x))=true by simp [hA.2],Ye hA]
   split <;> simp <;> omega
  ·rw [Yb hA]
   split <;> simp <;> omega
structure OpD where
 read:Bool
 key:Int
 tx:Int
 nth:Int
 deriving DecidableEq,Inhabited
structure TxD where
 id:Int
 done:Bool
 ops:List OpD
 deriving DecidableEq,Inhabited
structure OrdD where
 key:Int
 txs:List Int
 deriving DecidableEq,Inhabited
structure Zl where
 txs:List TxD
 orders:List OrdD
 deriving DecidableEq,Inhabited
structure Zgj where
 was:List TxD
 now:List TxD
 old:List OrdD
 new:List OrdD
 deriving DecidableEq,Inhabited
def rOp (o:OpD):List PV:=[.bool o.read,.int .i64 o.key,.int .i64 o.tx,.int .i64 o.nth]
def rTx (t:TxD):List PV:=[.int .i64 t.id,.bool t.done,.sl rOp t.ops]
def ZK (o:OrdD):List PV:=[.int .i64 o.key,.sl Zq o.txs]
def Zr (h:Zl):List PV:=[.sl rTx h.txs,.sl ZK h.orders]
theorem ZuW {u v:OpD} (h:(!((u.read == v.read) && (decide (u.key=v.key) && (decide (u.tx=v.tx) && (decide (u.nth=v.nth) && true)))))=false):u=v:=by
 cases u;cases v
 simp at h
 simp [h]
theorem ZqP (l:List OpD) (hl:l.length≤1000000):FnG prog 93 1 [.sl rOp l] [.star []] (PV.one) (fun v=>[Zz 55 4 rOp l v]):=by
 refine FnG.mk func93 rfl ntmps93 rfl kr fun B F0 a w F Z hG G=>?_
 obtain ⟨F,G⟩:=G.nM [0] [0]
 refine Ya (rZ G (qC qZ) Z Q0 [0] fun G=>(Ya (Ya ?_)))
 refine Zc G (qR rr (qf (Zdi YbZ .t) r1 qz qZ)) Z QU [0] rfl rfl fun a w F G=>?_
 obtain ⟨β4,hβ4,G⟩:=G.pickBool 4 rfl
 obtain ⟨F,G⟩:=G.nM QU [0]
 refine Za (Zb G rfl (fun hc0=>?_) (fun hc0=>?_))
 ·have hg:l = []:=hβ4 hc0
  refine Ya (rZ G (qC qZ) Z Q0 [0] fun G=>(Yj (Zh ?_)))
  have G:=G.fresh 1 rfl
  have G:=G.turn 1 rfl (Za6 (T:=55) (sz:=4) (R:=rOp))
  have G:=G.turn 1 rfl (r':=RS.hp (Zz 55 4 rOp l (.slice none 0 0))) (fun _ _ _ _ h=>by rw [hg];exact h)
  refine Zaw (h':=fun v=>Zz 55 4 rOp l v) hG G rfl (.tmp rfl .nil) (.one .one) rfl
 have hg:l = [] ++ l:=rfl
 refine Yf (Za (Ya (rS G (qf (ZaR (R:=rOp) (sz:=4) 101 YbZ kr) trivial qz (qR rr (qf (o_append (sz:=4) (bs:=32) 101 (.mk' YbZ kr kr) Wh .same (.sl .t) Wk XW) ⟨rfl,rfl,tv⟩ ⟨rfl,tv⟩ (qO rr qZ)))) Z [2] KN fun τ G=>?_)))
 have G:=Xw
 generalize τ 7=v7 at G
 refine Za (Yj ?_)
 obtain ⟨F,G⟩:=G.rename 101 1 rfl rfl
 have G:=G.turn 1 rfl (r':=RS.hp (Zz 55 4 rOp l v7)) (fun _ _ _ _ h=>by rw [hg];exact h)
 refine Zaw (h':=fun v=>Zz 55 4 rOp l v) hG G rfl (.tmp rfl .nil) (.one .one) rfl
theorem ZkH (x:Int):IntKind.wrap .u8 x=x % 256:=by simp [IntKind.wrap,IntKind.bits,IntKind.signed]
def ZiK (s:List UInt8):Nat:=s.foldl (fun a c=>a*10+(c.toNat - 48)) 0
def ZnN (u:Nat):List Int:=if h:u=0 then [] else ZnN (u / 10) ++ [((48+u % 10:Nat):Int)]
 termination_by u
 decreasing_by omega
def ZeM (u:Nat):List Int:=ZnN (u / 10) ++ [((48+u % 10:Nat):Int)]
theorem ZkX:ZnN 0 = []:=by unfold ZnN;simp
theorem Zhl {u:Nat} (h:u≠0):ZnN u=ZeM u:=by unfold ZnN ZeM;simp [h]
def textL (n:Int):List UInt8:=if n<0 then 45 :: (ZeM n.natAbs).map toB else (ZeM n.natAbs).map toB
structure ZfO (u0 i u:Nat) (l:List Int):Prop where
 hl:l.length=20
 hi:i≤20
 hu:u<10 ^ i
 hb:u≤18446744073709551615
 ok:(i=20∧u=u0)∨(i<20∧ZnN u++l.drop i=ZeM u0)
theorem ZfO.start {u0:Nat} (h:u0≤18446744073709551615):ZfO u0 20 u0 [0,0,0,0,0,0,0,0,0,0,0,0,0,0,0,0,0,0,0,0]:=⟨rfl,YF _,by omega,h,.inl ⟨rfl,rfl⟩⟩
theorem ZfO.pos {u0 i u:Nat} {l:List Int} (h:ZfO u0 i u l) (hc:i=20∨0<u):1≤i:=by
 rcases hc with hc | hc
 ·omega
 ·rcases Nat.eq_zero_or_pos i with h0 | h0
  ·have:=h.hu;rw [h0] at this;omega
  ·exact h0
theorem ZfO.next {u0 i u:Nat} {l:List Int} (h:ZfO u0 i u l) (hc:i=20∨0<u):ZfO u0 (i - 1) (u / 10) (l.set (i - 1) ((48+u % 10:Nat):Int)):=by
 have h1:=h.pos hc
 have hi:=h.hi
 have hl:=h.hl
 have hd:(l.set (i - 1) ((48+u % 10:Nat):Int)).drop (i - 1)=((48+u % 10:Nat):Int) :: l.drop i:=by
  rw [Ya4 Wp,List.getElem_set_self,show i - 1+1=i by omega,List.drop_set_of_lt ow]
 refine ⟨by rw [YU];exact h.hl,ow,?_,by have:=h.hb;omega,.inr ⟨ow,?_⟩⟩
 ·have:=h.hu
  rw [show i=(i - 1)+1 by omega,Nat.pow_succ] at this
  omega
 ·rw [hd]
  have e:ZnN (u / 10)++((48+u % 10:Nat):Int) :: l.drop i=ZeM u++l.drop i:=by
   unfold ZeM;simp
  rw [e]
  rcases h.ok with ⟨h2,h3⟩ | ⟨h2,h3⟩
  ·rw [h2,h3,YaY ow];simp
  ·rw [← Zhl ow];exact h3
theorem ZfO.done {u0 i u:Nat} {l:List Int} (h:ZfO u0 i u l) (h1:i≠20) (h2:u=0):l.drop i=ZeM u0:=by
 rcases h.ok with ⟨h3,_⟩ | ⟨_,h3⟩
 ·exact absurd h3 h1
 ·rw [h2,ZkX] at h3;simpa using h3
theorem Zlt (u:Nat) (hu:u≤18446744073709551615):FnP prog 58 [.int .u64 (u:Int)] (.bs ((ZeM u).map toB)):=by
 refine FnP.mk func58 rfl ntmps58 rfl fun B a w F Z hfr G=>Ya ?_
 refine rZ G (qf (oN (.cs kr)) trivial qz qZ) Z Q0 [0] fun G=>Ya ?_
 refine rS G (qf (oH [.int .u8 0,.int .u8 0,.int .u8 0,.int .u8 0,.int .u8 0,.int .u8 0,.int .u8 0,.int .u8 0,.int .u8 0,.int .u8 0,.int .u8 0,.int .u8 0,.int .u8 0,.int .u8 0,.int .u8 0,.int .u8 0,.int .u8 0,.int .u8 0,.int .u8 0,.int .u8 0] 101) trivial qz qZ) Z KR KN fun τ G=>?_
 have G:=X5
 generalize τ 3=v3 at G
 refine Za (Ya (rZ G (qI qZ) Z QV KN fun G=>(Ya (Yi ?_))))
 replace G:=G.turn 101 rfl (r':=.ob (.val v3) (Zkn 180 (fun x=>PV.int .u8 x) [0,0,0,0,0,0,0,0,0,0,0,0,0,0,0,0,0,0,0,0])) (fun τ w f y h=>Zh6 (f:=(fun x=>PV.int .u8 x)) (l:=[0,0,0,0,0,0,0,0,0,0,0,0,0,0,0,0,0,0,0,0]) τ w f y h)
 obtain ⟨F,G⟩:=G.nM QN KN
 refine ZY (σ:=(Nat×Nat×List Int)) (fun s=>(⟨[(0,.pv (.int .u64 s.2.1)),(3,.pv (.is v3)),(4,.pv (.int .i64 s.1))],[(0,frame B),(101,.ob (.val v3) (Zkn 180 (fun x=>PV.int .u8 x) s.2.2))]⟩:En)) (fun s=>ZfO u s.1 s.2.1 s.2.2) (fun s=>s.1) (20,u,[0,0,0,0,0,0,0,0,0,0,0,0,0,0,0,0,0,0,0,0]) G (ZfO.start hu) ?_
 clear G;intro s a w F hC G
 obtain ⟨i,x,l⟩:=s
 have hC:=X4
 have G:=X3
 have hl:=hC.hl
 have hi:=hC.hi
 have hbx:=hC.hb
 try dsimp only at hl hi hbx
 refine Ya (Ya (rZ G (qR rr (qf (o_eql .t qi) r1 qz (qR rr (qm rfl rfl rfl rfl (qk rfl (fun h=>Zad (.w h) qi) r2 qz (qf (Zaq .t .t) r2 qz qZ)))))) Z [10,4,3,0] KN fun G=>?_))
 refine Zb G rfl (fun hc0=>?_) (fun hc0=>?_)
 ·have hcc:i=20∨0<x:=by simp only [Yaq,Yl] at hc0;omega
  have hip:=hC.pos hcc
  try dsimp only at hip
  refine Yf (Za (Yi (Ya (Zc G (qR rr (qf (o_sub .t qi) r1 qz (qO rr qZ))) Z QN KN rfl rfl fun a w F G=>?_))))
  rw [show IntKind.wrap .i64 ((i:Int) - 1)=((i - 1:Nat):Int) by rw [wrap_i64 ow];omega] at G
  refine Za (Ya (Zc G (qR rr (qR rr (qf (Zjs .t qi XW) r1 qz (qf (Zce qi .t) r1 qz (qf (o_conv Ycc kr .t) r1 qz (qf (Za3 (sz:=1) 101 underlying180 kr .is .t ow ow) r2 r1 (qf (Zhg 101 .adr .t one_int kr (by rw [hl];omega)) r2 r1 qZ))))))) Z QN KN rfl rfl fun a w F G=>?_))
  rw [show 0+((i - 1:Nat):Int).toNat*1=i - 1 by omega] at G
  rw [show IntKind.wrap .u8 (IntKind.wrap .u64 (48+(x:Int).tmod 10))=((48+x % 10:Nat):Int) by rw [ZkH,Zaa,Int.tmod_eq_emod_of_nonneg ow];omega] at G
  refine Za (Zc G (qR rr (qf (ZmW .t qi XW) r1 qz (qO rr qZ))) Z QN KN rfl rfl fun a w F G=>Ze (Za ?_))
  replace G:=G.ent (i:=0) (s':=.pv (.int .u64 ((x / 10:Nat):Int))) rfl (.int Wq)
  obtain ⟨F,G⟩:=G.nM QN KN
  exact ⟨(i - 1,x / 10,l.set (i - 1) ((48+x % 10:Nat):Int)),F,(hC.next hcc),G,by dsimp only;omega⟩
 have hcc:i≠20∧x=0:=by simp only [YaU,Yr] at hc0;omega
 have hdd:=hC.done hcc.1 hcc.2
 refine Yz (Zg (Zg (Zm (Za (Ya ?_)))))
 replace G:=G.turn 101 rfl Zf7
 obtain ⟨F,G⟩:=G.giveRef 101 3 rfl rfl (ZlC _ _)
 rw [ZlU] at G
 obtain ⟨F,G⟩:=G.nM [10,4,3,0] [0]
 refine rZ G (qR rr (qf (Zkw (sz:=1) (R:=rB) (l:=l) underlying180 kr Wh hl XW .t .t ow ow) r2 qz (qf (o_conv_sl_bs Yb6 Ycc Yb5 .t) r1 qz (qO rr qZ)))) Z [2] [0] fun G=>Yj ?_
 refine Zo hfr G rfl rfl rfl (.bs (by rw [Yg,hdd]))
theorem ZkO:∀ (k u:Nat),u<10 ^ k→(ZnN u).length≤k
 | 0,u,h=>by
  have:u=0:=by simpa using h
  rw [this,ZkX];simp
 | k+1,u,h=>by
  by_cases h0:u=0
  ·rw [h0,ZkX];simp
  ·rw [Zhl h0]
   unfold ZeM
   have:=ZkO k (u / 10) (by rw [Nat.pow_succ] at h;omega)
   rw [Yc]
   simp only [Yh,Yq]
   omega
theorem Zh4 {u:Nat} (h:u≤18446744073709551615):(ZeM u).length≤20:=by
 have:=ZkO 19 (u / 10) ow
 unfold ZeM
 rw [Yc]
 simp only [Yh,Yq]
 omega
theorem Zdf {n:Int} (h : -9223372036854775808≤n∧n≤9223372036854775807):n.natAbs≤18446744073709551615:=by omega
structure Zfa (u0 i x:Nat) (l:List UInt8):Prop where
 hl:l.length=i
 hi:i≤20
 hx:x<10 ^ (20 - i)
 hb:x≤18446744073709551615
 ok:(i=0∧x=u0∧l = [])∨(0<i∧(ZnN x).map toB++l=(ZeM u0).map toB)
theorem Zfa.start {u0:Nat} (h:u0≤18446744073709551615):Zfa u0 0 u0 []:=⟨rfl,by decide,by omega,h,.inl ⟨rfl,rfl,rfl⟩⟩
theorem Zfa.next {u0 i x:Nat} {l:List UInt8} (h:Zfa u0 i x l) (hc:i=0∨0<x):Zfa u0 (i+1) (x / 10) (toB ((48+x % 10:Nat):Int) :: l):=by
 have hi:=h.hi
 have hlt:i<20:=by
  rcases hc with hc | hc
  ·omega
  ·rcases Nat.lt_or_ge i 20 with h1 | h1
   ·exact h1
   ·have:=h.hx;rw [show 20 - i=0 by omega] at this;omega
 refine ⟨by rw [Yh,h.hl],ow,?_,by have:=h.hb;omega,.inr ⟨ow,?_⟩⟩
 ·have:=h.hx
  rw [show 20 - i=(20 - (i+1))+1 by omega,Nat.pow_succ] at this
  omega
 ·have e:(ZnN (x / 10)).map toB++toB ((48+x % 10:Nat):Int) :: l=(ZeM x).map toB++l:=by unfold ZeM;simp
  rw [e]
  rcases h.ok with ⟨_,h3,h4⟩ | ⟨h2,h3⟩
  ·rw [h3,h4];simp
  ·rw [← Zhl ow];exact h3
theorem Zfa.done {u0 i x:Nat} {l:List UInt8} (h:Zfa u0 i x l) (h1:i≠0) (h2:x=0):l=(ZeM u0).map toB:=by
 rcases h.ok with ⟨h3,_⟩ | ⟨_,h3⟩
 ·exact absurd h3 h1
 ·rw [h2,ZkX] at h3;simpa using h3
theorem Zc3 (n:Int):FnP prog 23 [.int .i64 n] (.bs (textL n)):=by
 refine FnP.mk func23 rfl ntmps23 rfl fun B a w F Z hfr G=>?_
 have hn:=ZdC (G.range (i:=0) rfl)
 have hz:=Zh4 (Zdf hn)
 refine Ya (rZ G (qf (oN (.cs kr)) trivial qz qZ) Z Q0 [0] fun G=>(Ya (Ya ?_)))
 refine rZ G (qR rr (qf (Zbb .t qi) r1 qz qZ)) Z QU [0] fun G=>?_
 refine Zb G rfl (fun hc0=>?_) (fun hc0=>?_)
 ·have hb:n<0:=Yd hc0
  have hu:IntKind.wrap .u64 (0 - IntKind.wrap .u64 n)=(n.natAbs:Int):=by rw [Zaa,Zaa];omega
  have hg:textL n=45 :: (ZeM n.natAbs).map toB:=Ye hb
  refine Ya (rZ G (qR rr (qf (o_conv Yb9 kr .t) r1 qz (qf (Zwf .t) r1 qz (qf (oP (Zlt n.natAbs (Zdf hn)) func58 (Args.one (.conv .t (.int hu)))) r1 qz (qf (ZD (.cs kr) .t Wr) r1 qz (qO rr qZ)))))) Z Q0 [0] fun G=>(Yj (Zh ?_)))
  refine Zo hfr G rfl rfl rfl (.bs (by rw [hg];try rfl))
 have hb:¬ n<0:=Yk hc0
 have hu:IntKind.wrap .u64 n=(n.natAbs:Int):=by rw [Zaa];omega
 have hg:textL n=(ZeM n.natAbs).map toB:=Yb hb
 refine Yf (Za (Ya (rZ G (qR rr (qf (o_conv Yb9 kr .t) r1 qz (qf (oP (Zlt n.natAbs (Zdf hn)) func58 (Args.one (.conv .t (.int hu)))) r1 qz (qO rr qZ)))) Z [2] [0] fun G=>Yj ?_)))
 refine Zo hfr G rfl rfl rfl (.bs (by rw [hg];try rfl))
theorem Zb1 (n:Int):FnP prog 65 [.int .i64 n] (.bs (textL n)):=by
 refine FnP.mk func65 rfl ntmps65 rfl fun B a w F Z hfr G=>?_
 have hn:=ZdC (G.range (i:=0) rfl)
 have hz:=Zh4 (Zdf hn)
 refine Ya (rZ G (qf (oN (.cs kr)) trivial qz qZ) Z Q0 [0] fun G=>Ya ?_)
 refine rZ G (qR rr (qf (o_conv Yb9 kr .t) r1 qz (qO rr qZ))) Z KR [0] fun G=>(Ya (Ya ?_))
 refine rZ G (qR rr (qf (Zbb .t qi) r1 qz qZ)) Z [9,3,2,0] [0] fun G=>?_
 refine Zb G rfl (fun hc0=>?_) (fun hc0=>?_)
 ·have hb:n<0:=Yd hc0
  have hu:IntKind.wrap .u64 (0 - IntKind.wrap .u64 n)=(n.natAbs:Int):=by rw [Zaa,Zaa];omega
  refine rZ G (qR rr (qf (o_sub qi .t) r1 qz (qO rr qZ))) Z KR [0] fun G=>Ya ?_
  refine rZ G (qf (oN (.cs kr)) trivial qz qZ) Z QV [0] fun G=>(Ya (Ya ?_))
  refine rZ G (qI qZ) Z Qf [0] fun G=>Yi ?_
  replace G:=G.ent (i:=3) (s':=.pv (.int .u64 (n.natAbs:Int))) rfl (.int hu)
  obtain ⟨F,G⟩:=G.nM QA [0]
  refine ZY (σ:=(Nat×Nat×List UInt8)) (fun s=>(⟨[(0,.pv (.int .i64 n)),(3,.pv (.int .u64 s.2.1)),(4,.pv (.bs s.2.2)),(5,.pv (.int .i64 s.1))],[(0,frame B)]⟩:En)) (fun s=>Zfa n.natAbs s.1 s.2.1 s.2.2) (fun s=>s.2.1+(if s.1=0 then 1 else 0)) (0,n.natAbs,[]) G (Zfa.start (Zdf hn)) ?_
  clear G;intro s a w F hC G
  obtain ⟨i,x,l⟩:=s
  have hC:=X4
  have G:=X3
  have hl:=hC.hl
  have hi:=hC.hi
  have hbx:=hC.hb
  try dsimp only at hl hi hbx
  refine Ya (Ya (rZ G (qR rr (qf (o_eql .t qi) r1 qz (qR rr (qm rfl rfl rfl rfl (qk rfl (fun h=>Zad (.w h) qi) r2 qz (qf (Zaq .t .t) r2 qz qZ)))))) Z [17,5,4,3,0] [0] fun G=>?_))
  refine Zb G rfl (fun hc1=>?_) (fun hc1=>?_)
  ·have hcc:i=0∨0<x:=by simp only [Yaq,Yl] at hc1;omega
   have hbyte:IntKind.wrap .u8 (IntKind.wrap .u64 (48+(x:Int).tmod 10))=((48+x % 10:Nat):Int):=Kz
   refine Yf (Za (Ya (Yi (Ya (rZ G (qR rr (qf (Zjs .t qi XW) r1 qz (qf (Zce qi .t) r1 qz (qf (o_conv Ycc kr .t) r1 qz (qf (Zj (sz:=1) (zs:=[.int .u8 0]) (r:=[(0,.tmp 23)]) (l:=[_]) Yb6 kr kr kr kr rfl rfl (.one rfl .t one_int kr .nil) rfl) r1 qz (qf (ZdN (l:=[IntKind.wrap .u8 (IntKind.wrap .u64 (48+(x:Int).tmod 10))]) Yb6 Ycc Yb5 kr .t) r1 qz (qR rr (qf (ZD .t .t Wr) r2 qz (qO rr qZ))))))))) Z QA [0] fun G=>?_)))))
   refine Zc G (qR rr (qf (ZmW .t qi XW) r1 qz (qO rr qZ))) Z QA [0] rfl rfl fun a w F G=>Ze (Za ?_)
   refine rZ G (qR rr (qp r1 (qO rr qZ))) Z QA [0] fun G=>?_
   replace G:=G.ent (i:=3) (s':=.pv (.int .u64 ((x / 10:Nat):Int))) rfl (.int Wq)
   replace G:=G.ent (i:=4) (s':=.pv (.bs (toB ((48+x % 10:Nat):Int) :: l))) rfl (.bs (by rw [← hbyte];try rfl))
   replace G:=G.eI 5 i
   obtain ⟨F,G⟩:=G.nM QA [0]
   exact ⟨(i+1,x / 10,toB ((48+x % 10:Nat):Int) :: l),F,(hC.next hcc),G,by dsimp only;split <;> split <;> omega⟩
  have hcc:i≠0∧x=0:=by simp only [YaU,Yr] at hc1;omega
  have hdd:=hC.done hcc.1 hcc.2
  try dsimp only at hdd
  refine Yz (Zg (Zg (Zm (Za (Ya (Ya (rZ G (qR rr (qf (Zbb .t qi) r1 qz qZ)) Z [31,4] [0] fun G=>?_)))))))
  refine Zb G rfl (fun hc2=>?_) (fun hc2=>?_)
  ·have hg:textL n=45 :: (ZeM n.natAbs).map toB:=Ye (Yd hc2)
   refine Ya (rZ G (qR rr (qf (ZD (.cs kr) .t Ws) r1 qz (qO rr qZ))) Z [4,2] [0] fun G=>(Yj (Zh ?_)))
   refine Zo hfr G rfl rfl rfl (.bs Wt)
  have hg:textL n=(ZeM n.natAbs).map toB:=Yb (Yk hc2)
  refine Yf (Za (Ya (rZ G (qR rr (qO rr qZ)) Z [2] [0] fun G=>Yj ?_)))
  refine Zo hfr G rfl rfl rfl (.bs Wt)
 have hb:¬ n<0:=Yk hc0
 have hu:IntKind.wrap .u64 n=(n.natAbs:Int):=by rw [Zaa];omega
 refine Yf (Za (Ya (rZ G (qf (oN (.cs kr)) trivial qz qZ) Z QV [0] fun G=>(Ya (Ya ?_)))))
 refine rZ G (qI qZ) Z Qf [0] fun G=>Yi ?_
 replace G:=G.ent (i:=3) (s':=.pv (.int .u64 (n.natAbs:Int))) rfl (.int hu)
 obtain ⟨F,G⟩:=G.nM QA [0]
 refine ZY (σ:=(Nat×Nat×List UInt8)) (fun s=>(⟨[(0,.pv (.int .i64 n)),(3,.pv (.int .u64 s.2.1)),(4,.pv (.bs s.2.2)),(5,.pv (.int .i64 s.1))],[(0,frame B)]⟩:En)) (fun s=>Zfa n.natAbs s.1 s.2.1 s.2.2) (fun s=>s.2.1+(if s.1=0 then 1 else 0)) (0,n.natAbs,[]) G (Zfa.start (Zdf hn)) ?_
 clear G;intro s a w F hC G
 obtain ⟨i,x,l⟩:=s
 have hC:=X4
 have G:=X3
 have hl:=hC.hl
 have hi:=hC.hi
 have hbx:=hC.hb
 try dsimp only at hl hi hbx
 refine Ya (Ya (rZ G (qR rr (qf (o_eql .t qi) r1 qz (qR rr (qm rfl rfl rfl rfl (qk rfl (fun h=>Zad (.w h) qi) r2 qz (qf (Zaq .t .t) r2 qz qZ)))))) Z [17,5,4,3,0] [0] fun G=>?_))
 refine Zb G rfl (fun hc3=>?_) (fun hc3=>?_)
 ·have hcc:i=0∨0<x:=by simp only [Yaq,Yl] at hc3;omega
  have hbyte:IntKind.wrap .u8 (IntKind.wrap .u64 (48+(x:Int).tmod 10))=((48+x % 10:Nat):Int):=Kz
  refine Yf (Za (Ya (Yi (Ya (rZ G (qR rr (qf (Zjs .t qi XW) r1 qz (qf (Zce qi .t) r1 qz (qf (o_conv Ycc kr .t) r1 qz (qf (Zj (sz:=1) (zs:=[.int .u8 0]) (r:=[(0,.tmp 23)]) (l:=[_]) Yb6 kr kr kr kr rfl rfl (.one rfl .t one_int kr .nil) rfl) r1 qz (qf (ZdN (l:=[IntKind.wrap .u8 (IntKind.wrap .u64 (48+(x:Int).tmod 10))]) Yb6 Ycc Yb5 kr .t) r1 qz (qR rr (qf (ZD .t .t Wr) r2 qz (qO rr qZ))))))))) Z QA [0] fun G=>?_)))))
  refine Zc G (qR rr (qf (ZmW .t qi XW) r1 qz (qO rr qZ))) Z QA [0] rfl rfl fun a w F G=>Ze (Za ?_)
  refine rZ G (qR rr (qp r1 (qO rr qZ))) Z QA [0] fun G=>?_
  replace G:=G.ent (i:=3) (s':=.pv (.int .u64 ((x / 10:Nat):Int))) rfl (.int Wq)
  replace G:=G.ent (i:=4) (s':=.pv (.bs (toB ((48+x % 10:Nat):Int) :: l))) rfl (.bs (by rw [← hbyte];try rfl))
  replace G:=G.eI 5 i
  obtain ⟨F,G⟩:=G.nM QA [0]
  exact ⟨(i+1,x / 10,toB ((48+x % 10:Nat):Int) :: l),F,(hC.next hcc),G,by dsimp only;split <;> split <;> omega⟩
 have hcc:i≠0∧x=0:=by simp only [YaU,Yr] at hc3;omega
 have hdd:=hC.done hcc.1 hcc.2
 try dsimp only at hdd
 refine Yz (Zg (Zg (Zm (Za (Ya (Ya (rZ G (qR rr (qf (Zbb .t qi) r1 qz qZ)) Z [31,4] [0] fun G=>?_)))))))
 refine Zb G rfl (fun hc4=>?_) (fun hc4=>?_)
 ·have hg:textL n=45 :: (ZeM n.natAbs).map toB:=Ye (Yd hc4)
  refine Ya (rZ G (qR rr (qf (ZD (.cs kr) .t Ws) r1 qz (qO rr qZ))) Z [4,2] [0] fun G=>(Yj (Zh ?_)))
  refine Zo hfr G rfl rfl rfl (.bs Wt)
 have hg:textL n=(ZeM n.natAbs).map toB:=Yb (Yk hc4)
 refine Yf (Za (Ya (rZ G (qR rr (qO rr qZ)) Z [2] [0] fun G=>Yj ?_)))
 refine Zo hfr G rfl rfl rfl (.bs Wt)
def bH (v ad:Value) (l:List UInt8):HP:=.ex fun rv=>.and (l = []→rv = .slice none 0 0) (.star [.pt (.val v) 114 [.pv (.is ad),.pv (.is rv)],.ob (.val rv) (Zz 5 1 rC l)])
def ZX (v:Value) (l:List UInt8):HP:=.ex fun ad=>.and (ad = .pointer none∨ad=v) (bH v ad l)
theorem FnG.cases {P:Program} {f:FuncId} {args:List PV} {h h1 h2:HP} {q:PV} {qr:Value→List HP} (hh:∀ w fb y,h.p w fb y→h1.p w fb y∨h2.p w fb y) (k1:FnG P f 1 args [h1] q qr) (k2:FnG P f 1 args [h2] q qr):FnG P f 1 args [h] q qr:=fun w F vs hw hle hvs hpr=>by
 rcases hh w (F 1) (U F) (hpr 0 h rfl) with hx | hx
 ·exact k1 w F vs hw hle hvs (fun i h' hi=>by
  match i,hi with
  | 0,hi=>simp at hi;subst hi;exact hx)
 ·exact k2 w F vs hw hle hvs (fun i h' hi=>by
  match i,hi with
  | 0,hi=>simp at hi;subst hi;exact hx)
theorem Zgu {v:Value} {l:List UInt8} (w:World) (fb y:Ys) (h:(ZX v l).p w fb y):(bH v (.pointer none) l).p w fb y∨(bH v v l).p w fb y:=by
 obtain ⟨ad,h1,h2⟩:=h
 rcases h1 with rfl | rfl
 ·exact .inl h2
 ·exact .inr h2
theorem copy0 (b:Nat) (l:List UInt8):FnG prog 105 1 [.is (.pointer (some ⟨b,0,none⟩))] [bH (.pointer (some ⟨b,0,none⟩)) (.pointer none) l] (.any) (fun _=>[bH (.pointer (some ⟨b,0,none⟩)) (.pointer (some ⟨b,0,none⟩)) l]):=by
 refine FnG.mk func105 rfl ntmps105 rfl kr fun B F0 a w F Z hG G=>?_
 obtain ⟨rv,G⟩:=G.open_ex 1 rfl
 obtain ⟨hI,G⟩:=G.open_and 1 rfl
 obtain ⟨F,G⟩:=G.peel 1 2 rfl rfl
 obtain ⟨F,G⟩:=G.peel 1 3 rfl rfl
 obtain ⟨F,G⟩:=G.nM [0] KR
 refine Ya (rZ G (qR rr (qf (o_nilCheck 2 .is XV) r1 r1 (qf (oF 0 2 .adr) r1 r1 (qa 2 r1 r1 (qf (ZdA _ Ycb rfl .t) r1 qz qZ))))) Z [6,0] KR fun G=>?_)
 refine Zb G rfl (fun hc0=>?_) (fun hc0=>?_)
 ·refine Zc G (qR rr (qR rr (qf (ZdK 2 Ycb underlying239 kr kr .t) r1 r1 (qf (Zhd func151 kr kr kr kr .t) r1 qz (qf (ZfV 2 underlying239 Ycb kr kr .t) r1 r1 (qf (o_nilCheck 2 .is XV) r1 r1 (qf (oF 0 2 .adr) r1 r1 (qf (ZZ 2 .adr .t one_is kr kr) r2 r1 qZ)))))))) Z [] KR rfl rfl fun a w F G=>?_
  have G:=G.fresh 1 rfl
  obtain ⟨F,G⟩:=G.push 1 3 rfl rfl rfl kr
  obtain ⟨F,G⟩:=G.push 1 2 rfl rfl rfl kr
  have G:=G.turn 1 rfl (r':=RS.hp (bH (.pointer (some ⟨b,0,none⟩)) (.pointer (some ⟨b,0,none⟩)) l)) (fun _ _ _ _ h=>⟨_,hI,h⟩)
  refine ZL hG G rfl .nil ZaB.any rfl
 simp at hc0
theorem copy1 (b:Nat) (l:List UInt8):FnG prog 105 1 [.is (.pointer (some ⟨b,0,none⟩))] [bH (.pointer (some ⟨b,0,none⟩)) (.pointer (some ⟨b,0,none⟩)) l] (.any) (fun _=>[bH (.pointer (some ⟨b,0,none⟩)) (.pointer (some ⟨b,0,none⟩)) l]):=by
 refine FnG.mk func105 rfl ntmps105 rfl kr fun B F0 a w F Z hG G=>?_
 obtain ⟨rv,G⟩:=G.open_ex 1 rfl
 obtain ⟨hI,G⟩:=G.open_and 1 rfl
 obtain ⟨F,G⟩:=G.peel 1 2 rfl rfl
 obtain ⟨F,G⟩:=G.peel 1 3 rfl rfl
 obtain ⟨F,G⟩:=G.nM [0] KR
 refine Ya (rZ G (qR rr (qf (o_nilCheck 2 .is XV) r1 r1 (qf (oF 0 2 .adr) r1 r1 (qa 2 r1 r1 (qf (ZdA _ Ycb rfl .t) r1 qz qZ))))) Z [6,0] KR fun G=>?_)
 refine Zb G rfl (fun hc0=>?_) (fun hc0=>?_)
 ·simp at hc0
 refine Ya (rZ G (qR rr (qf (o_nilCheck 2 .is XV) r1 r1 (qf (oF 0 2 .adr) r1 r1 (qa 2 r1 r1 (qR rr (qf (ZgM Ycb kr .t .t) r2 qz qZ)))))) Z [19] KR fun G=>?_)
 refine Zb G rfl (fun hc1=>?_) (fun hc1=>?_)
 ·simp at hc1
 refine Yf ?_
 have G:=G.fresh 1 rfl
 obtain ⟨F,G⟩:=G.push 1 3 rfl rfl rfl kr
 obtain ⟨F,G⟩:=G.push 1 2 rfl rfl rfl kr
 have G:=G.turn 1 rfl (r':=RS.hp (bH (.pointer (some ⟨b,0,none⟩)) (.pointer (some ⟨b,0,none⟩)) l)) (fun _ _ _ _ h=>⟨_,hI,h⟩)
 refine ZL hG G rfl .nil ZaB.any rfl
theorem ZsA (b:Nat) (l:List UInt8):FnG prog 105 1 [.is (.pointer (some ⟨b,0,none⟩))] [ZX (.pointer (some ⟨b,0,none⟩)) l] .any (fun _=>[bH (.pointer (some ⟨b,0,none⟩)) (.pointer (some ⟨b,0,none⟩)) l]):=FnG.cases Zgu (copy0 b l) (copy1 b l)
theorem ZjQ (b:Nat) (l:List UInt8) (hl:l.length≤1000000000) (c:UInt8):FnG prog 155 1 [.is (.pointer (some ⟨b,0,none⟩)),.int .u8 (c.toNat:Int)] [ZX (.pointer (some ⟨b,0,none⟩)) l] (.any) (fun _=>[bH (.pointer (some ⟨b,0,none⟩)) (.pointer (some ⟨b,0,none⟩)) (l ++ [c])]):=by
 refine FnG.mk func155 rfl ntmps155 rfl kr fun B F0 a w F Z hG G=>Ya ?_
 refine rZ G (qC qZ) Z KU KQ fun G=>Ya ?_
 refine Zc G (qR rr (qf (o_callG1 1 (ZsA b l) func105 rfl kr (Args.one .t)) r1 r1 qZ)) Z KU KQ rfl rfl fun a w F G=>?_
 obtain ⟨rv,G⟩:=G.open_ex 1 rfl
 obtain ⟨hI,G⟩:=G.open_and 1 rfl
 obtain ⟨F,G⟩:=G.peel 1 2 rfl rfl
 obtain ⟨F,G⟩:=G.peel 1 3 rfl rfl
 obtain ⟨F,G⟩:=G.nM KU KR
 refine Za (Ya (rS G (qR rr (qR rr (qf (o_nilCheck 2 .is XV) r1 r1 (qf (oF 1 2 .adr) r1 r1 (qa 2 r1 r1 (qR rr (qf (Zj (sz:=1) (zs:=[.int .u8 0]) (r:=[(0,.tmp 12)]) (l:=[_]) Yb6 kr kr kr kr rfl rfl (.one rfl .t one_int kr .nil) rfl) r1 qz (qf (o_append (sz:=1) (bs:=1) 3 (.mk' Yb6 kr kr) Wh .is (.arr (l':=[c]) .t) Ws XW) ⟨rfl,rfl,tv⟩ ⟨rfl,tv⟩ (qf (o_nilCheck 2 .is XV) r1 r1 (qf (oF 1 2 .adr) r1 r1 (qf (o_storeS 2 .adr kr kr) r2 r1 qZ))))))))))) Z [4] KR fun τ G=>?_))
 have G:=X0
 generalize τ 14=v14 at G
 refine Za (Ya (rZ G (qC qZ) Z [4] KR fun G=>Yj ?_))
 have G:=G.fresh 1 rfl
 obtain ⟨F,G⟩:=G.push 1 3 rfl rfl rfl kr
 obtain ⟨F,G⟩:=G.push 1 2 rfl rfl rfl kr
 have G:=G.turn 1 rfl (r':=RS.hp (bH (.pointer (some ⟨b,0,none⟩)) (.pointer (some ⟨b,0,none⟩)) (l ++ [c]))) (fun _ _ _ _ h=>⟨_,(by intro hh;simp at hh),h⟩)
 refine ZL hG G rfl (.tmp rfl .nil) ZaB.any rfl
theorem Zal (b:Nat) (l:List UInt8) (hl:l.length≤1000000000) (x:List UInt8) (hx:x≠[]) (hxl:x.length≤1000000000):FnG prog 55 1 [.is (.pointer (some ⟨b,0,none⟩)),.bs x] [ZX (.pointer (some ⟨b,0,none⟩)) l] (.any) (fun _=>[bH (.pointer (some ⟨b,0,none⟩)) (.pointer (some ⟨b,0,none⟩)) (l++x)]):=by
 refine FnG.mk func55 rfl ntmps55 rfl kr fun B F0 a w F Z hG G=>Ya ?_
 refine rZ G (qI (qC qZ)) Z Qh KQ fun G=>Ya ?_
 refine Zc G (qR rr (qf (o_callG1 1 (ZsA b l) func105 rfl kr (Args.one .t)) r1 r1 qZ)) Z Qh KQ rfl rfl fun a w F G=>?_
 obtain ⟨rv,G⟩:=G.open_ex 1 rfl
 obtain ⟨hI,G⟩:=G.open_and 1 rfl
 obtain ⟨F,G⟩:=G.peel 1 2 rfl rfl
 obtain ⟨F,G⟩:=G.peel 1 3 rfl rfl
 obtain ⟨F,G⟩:=G.nM Qh KR
 refine Za (Ya (rS G (qR rr (qR rr (qf (o_nilCheck 2 .is XV) r1 r1 (qf (oF 1 2 .adr) r1 r1 (qa 2 r1 r1 (qR rr (qf (ZeC 3 Yb6 Yb5 kr .is .t ow) ⟨rfl,rfl,tv⟩ ⟨rfl,tv⟩ (qf (o_nilCheck 2 .is XV) r1 r1 (qf (oF 1 2 .adr) r1 r1 (qf (o_storeS 2 .adr kr kr) r2 r1 qZ)))))))))) Z G2 KR fun τ G=>?_))
 have G:=X0
 generalize τ 14=v14 at G
 refine Za (Ya (rZ G (qR rr (qf (Zb9 Yb5 .t) r1 qz (qO rr (qC qZ)))) Z [5,4] KR fun G=>Yj ?_))
 have G:=G.fresh 1 rfl
 obtain ⟨F,G⟩:=G.push 1 3 rfl rfl rfl kr
 obtain ⟨F,G⟩:=G.push 1 2 rfl rfl rfl kr
 have G:=G.turn 1 rfl (r':=RS.hp (bH (.pointer (some ⟨b,0,none⟩)) (.pointer (some ⟨b,0,none⟩)) (l++x))) (fun _ _ _ _ h=>⟨_,(by intro hh;exact absurd (List.append_eq_nil_iff.1 hh).2 hx),h⟩)
 refine ZL hG G rfl (.tmp rfl (.tmp rfl .nil)) ZaB.any rfl
theorem Zua (b:Nat):FnG prog 57 1 [.is (.pointer (some ⟨b,0,none⟩))] [ZX (.pointer (some ⟨b,0,none⟩)) []] (.bs []) (fun _=>[HP.star []]):=by
 refine FnG.mk func57 rfl ntmps57 rfl kr fun B F0 a w F Z hG G=>?_
 obtain ⟨ad,G⟩:=G.open_ex 1 rfl
 obtain ⟨hA,G⟩:=G.open_and 1 rfl
 obtain ⟨rv,G⟩:=G.open_ex 1 rfl
 obtain ⟨hI,G⟩:=G.open_and 1 rfl
 obtain rfl:=hI rfl
 obtain ⟨F,G⟩:=G.peel 1 2 rfl rfl
 obtain ⟨F,G⟩:=G.peel 1 3 rfl rfl
 obtain ⟨F,G⟩:=G.nM [0] KR
 refine Ya (rZ G (qf (oN (.cs kr)) trivial qz qZ) Z Q0 KR fun G=>Ya ?_)
 refine Zv G (qR rr (qf (o_nilCheck 2 .is XV) r1 r1 (qf (oF 1 2 .adr) r1 r1 (qa 2 r1 r1 (qf (Ze7 .t) r1 qz (qR rr (qf (o_nilCheck 2 .is XV) r1 r1 (qf (oF 1 2 .adr) r1 r1 (qa 2 r1 r1 (qf (ZN 3 Yb6 .is) r1 r1 (qf (ZdQ .t .t) r2 qz (qO rr qZ)))))))))))) Z [2] KR rfl rfl fun a w F G=>?_
 have G:=Xa
 refine Za (Yj ?_)
 have G:=G.fresh 1 rfl
 refine ZL (h':=HP.star []) hG G rfl (.tmp rfl .nil) (.one .refl) rfl
theorem Zs5 (b:Nat) (l:List UInt8) (hne:l≠[]):FnG prog 57 1 [.is (.pointer (some ⟨b,0,none⟩))] [ZX (.pointer (some ⟨b,0,none⟩)) l] (.bs l) (fun _=>[HP.star []]):=by
 refine FnG.mk func57 rfl ntmps57 rfl kr fun B F0 a w F Z hG G=>?_
 obtain ⟨ad,G⟩:=G.open_ex 1 rfl
 obtain ⟨hA,G⟩:=G.open_and 1 rfl
 obtain ⟨rv,G⟩:=G.open_ex 1 rfl
 obtain ⟨hI,G⟩:=G.open_and 1 rfl
 obtain ⟨F,G⟩:=G.peel 1 2 rfl rfl
 obtain ⟨F,G⟩:=G.peel 1 3 rfl rfl
 obtain ⟨F,G⟩:=G.nM [0] KR
 refine Ya (rZ G (qf (oN (.cs kr)) trivial qz qZ) Z Q0 KR fun G=>Ya ?_)
 refine Zv G (qR rr (qf (o_nilCheck 2 .is XV) r1 r1 (qf (oF 1 2 .adr) r1 r1 (qa 2 r1 r1 (qf (ZfZ 3 hne .is XV) r1 r1 (qR rr (qf (o_nilCheck 2 .is XV) r1 r1 (qf (oF 1 2 .adr) r1 r1 (qa 2 r1 r1 (qf (ZN 3 Yb6 .is) r1 r1 (qf (Zc0 3 underlying179 kr hne .t) r2 r1 (qO rr qZ)))))))))))) Z [2] KR rfl rfl fun a w F G=>?_
 have G:=Xa
 refine Za (Yj ?_)
 have G:=G.fresh 1 rfl
 refine ZL (h':=HP.star []) hG G rfl (.tmp rfl .nil) (.one .refl) rfl
theorem ZhP (b:Nat) (l:List UInt8):FnG prog 57 1 [.is (.pointer (some ⟨b,0,none⟩))] [ZX (.pointer (some ⟨b,0,none⟩)) l] (.bs l) (fun _=>[HP.star []]):=by
 by_cases h:l = []
 ·subst h;exact Zua b
 ·exact Zs5 b l h
def Zak (l:List Int):Nat→List UInt8
 | 0=>[]
 | i+1=>Zak l i++(if 0<i then [32] else [])++textL (Nn l i)
def Zdy (l:List Int):List UInt8:=Zak l l.length
theorem ZtK (u:Nat):ZeM u≠[]:=by unfold ZeM;simp
theorem ZhW (n:Int):textL n≠[]:=by
 unfold textL
 split
 ·simp
 ·simpa using ZtK _
theorem ZU {n:Int} (h : -9223372036854775808≤n∧n≤9223372036854775807):(textL n).length≤21:=by
 have:=Zh4 (Zdf h)
 unfold textL
 split <;> simp <;> omega
theorem words_c (l:List Int) (hlen:l.length≤1000):FnP prog 109 [.sl Zq l] (.bs (Zdy l)):=by
 refine FnP.mk func109 rfl ntmps109 rfl fun B a w F Z hfr G=>Ya ?_
 refine rZ G (qf (oN (.cs kr)) trivial qz qZ) Z Q0 [0] fun G=>Ya ?_
 refine rS G (qf (oH [.pointer none,.slice none 0 0] 101) trivial qz qZ) Z KR KN fun τ G=>?_
 have G:=X5
 generalize τ 3=v3 at G
 obtain ⟨b,rfl⟩:=G.shape 101 rfl
 replace G:=G.fresh 9 rfl
 replace G:=G.turn 9 rfl (Za6 (T:=5) (sz:=1) (R:=rC))
 replace G:=G.fresh 10 rfl
 obtain ⟨F,G⟩:=G.push 10 9 rfl rfl rfl kr
 obtain ⟨F,G⟩:=G.push 10 101 rfl rfl rfl kr
 replace G:=G.turn 10 rfl (r':=RS.hp (ZX (.pointer (some ⟨b,0,none⟩)) (Zak l 0))) (fun _ _ _ _ h=>⟨_,.inl rfl,_,fun _=>rfl,h⟩)
 obtain ⟨F,G⟩:=G.nM KR Q4
 refine Za (Ya (Ya (rZ G (qR rr (qu YbY r1 (qJ qZ))) Z QH Q4 fun G=>Yi ?_)))
 obtain ⟨F,G⟩:=G.nM Jh Q4
 refine ZY (σ:=Nat) (fun s=>(⟨[(3,.pv (.is (.pointer (some ⟨b,0,none⟩)))),(6,.pv (.sl Zq l)),(7,.pv (.int .i64 l.length)),(8,.pv (.int .i64 s))],[(0,frame B),(10,RS.hp (ZX (.pointer (some ⟨b,0,none⟩)) (Zak l s)))]⟩:En)) (fun s=>s≤l.length∧(Zak l s).length≤22*s) (fun s=>l.length - s) 0 G ⟨YA _,YF _⟩ ?_
 clear G;intro i a w F hC G
 have hC:=X4
 have G:=X3
 obtain ⟨hi,hw⟩:=hC
 refine Ya (rZ G (qL r2) Z [9,8,7,6,3] Q4 fun G=>Ya ?_)
 refine Zb G rfl (fun hc0=>?_) (fun hc0=>?_)
 ·have hil:i<l.length:=Wl
  refine Yf (Za (Ya (Yi (Ya (Zc G (qR rr (qy 1 YbY r2 (qf (oR false 1 .t) r1 qz (qO rr (qO rr qZ))))) Z [8,7,6,5,4,3] Q4 rfl rfl fun a w F G=>?_)))))
  have hn:=ZdC (G.range (i:=5) rfl)
  rw [Yg] at G hn
  have htl:=ZU hn
  refine Za (Ya (Ya (rZ G (qR rr (qf (Zad .t qi) r1 qz qZ)) Z [14,8,7,6,5,3] Q4 fun G=>?_)))
  refine Zb G rfl (fun hc1=>?_) (fun hc1=>?_)
  ·refine Zc G (qf (o_callG1 10 (ZjQ b (Zak l i) ow 32) func155 rfl kr (Args.two .t qi)) r1 r1 qZ) Z [8,7,6,5,3] Q4 rfl rfl fun a w F G=>?_
   have hi0:0<i:=WE
   obtain ⟨q2,hq2⟩:∃ q2,q2=Zak l i++(if 0<i then [32] else []):=⟨_,rfl⟩
   have hql:q2.length≤22*i+1:=by rw [hq2];split <;> simp <;> omega
   replace G:=G.turn 10 rfl (r':=RS.hp (ZX (.pointer (some ⟨b,0,none⟩)) q2)) (fun _ _ _ _ h=>⟨_,.inr rfl,by rw [hq2,Ye hi0];exact h⟩)
   refine Za (Zc G (qR rr (qf (oP (Zc3 (Nn l i)) func23 (Args.one .t)) r1 qz (qf (o_callG1 10 (Zal b q2 ow (textL (Nn l i)) (ZhW _) (by have:=ZU hn;omega)) func55 rfl kr (Args.two .t .t)) r2 r1 qZ))) Z Jh Q4 rfl rfl fun a w F G=>Ze (Za ?_))
   refine rZ G (qp r1 (qR rr qZ)) Z Jh Q4 fun G=>?_
   replace G:=G.turn 10 rfl (r':=RS.hp (ZX (.pointer (some ⟨b,0,none⟩)) (Zak l (i+1)))) (fun _ _ _ _ h=>⟨_,.inr rfl,by rw [Zak,← hq2];exact h⟩)
   replace G:=G.eI 8 i
   obtain ⟨F,G⟩:=G.nM Jh Q4
   exact ⟨i+1,F,⟨ow,by rw [Zak,← hq2,Yc];omega⟩,G,ow⟩
  have hi0:¬ 0<i:=WE
  obtain ⟨q2,hq2⟩:∃ q2,q2=Zak l i++(if 0<i then [32] else []):=⟨_,rfl⟩
  have hql:q2.length≤22*i+1:=by rw [hq2];split <;> simp <;> omega
  rw [show Zak l i=q2 by rw [hq2,Yb hi0,YQ]] at G
  refine Yf (Za (Zc G (qR rr (qf (oP (Zc3 (Nn l i)) func23 (Args.one .t)) r1 qz (qf (o_callG1 10 (Zal b q2 ow (textL (Nn l i)) (ZhW _) (by have:=ZU hn;omega)) func55 rfl kr (Args.two .t .t)) r2 r1 qZ))) Z Jh Q4 rfl rfl fun a w F G=>Ze (Za ?_)))
  refine rZ G (qp r1 (qR rr qZ)) Z Jh Q4 fun G=>?_
  replace G:=G.turn 10 rfl (r':=RS.hp (ZX (.pointer (some ⟨b,0,none⟩)) (Zak l (i+1)))) (fun _ _ _ _ h=>⟨_,.inr rfl,by rw [Zak,← hq2];exact h⟩)
  replace G:=G.eI 8 i
  obtain ⟨F,G⟩:=G.nM Jh Q4
  exact ⟨i+1,F,⟨ow,by rw [Zak,← hq2,Yc];omega⟩,G,ow⟩
 have hil:i=l.length:=Wl
 rw [hil] at G
 refine Yz (Zg (Zg (Zm (Za (Ya (rZ G (qf (o_callG1 10 (ZhP b (Zak l l.length)) func57 rfl kr (Args.one .t)) r1 r1 (qO rr qZ)) Z [2] Q4 fun G=>Yj ?_))))))
 refine Zo hfr G rfl rfl rfl (.bs rfl)
def ZaP:List (List UInt8)→List UInt8
 | []=>[]
 | [x]=>x
 | x :: y :: r=>x++32 :: ZaP (y :: r)
def bZ (v ad:Value):HP:=.star [.pt (.val v) 114 [.pv (.is ad),.pv (.is (.slice none 0 0))],.ob (.val (.slice none 0 0)) (Zz 5 1 rC [])]
def bW (v:Value) (l:List UInt8):HP:=.ex fun rv=>.star [.pt (.val v) 114 [.pv (.is v),.pv (.is rv)],.ob (.val rv) (Zz 5 1 rC l)]
def sumL (l:List (List UInt8)):Nat:=(l.map List.length).sum
theorem ZhJ (l:List (List UInt8)) (i:Nat) (h:i<l.length):sumL (l.take (i+1))=sumL (l.take i)+(Nn l i).length:=by
 unfold sumL
 rw [YaW h,nth_eq h]
 simp only [Y3,List.sum_append,YG,Ya8,YaO,List.sum_nil,Ybg]
theorem ZkR (l:List (List UInt8)) (i:Nat):sumL (l.take i)≤sumL l:=by
 conv=>rhs;rw [← YaD i l]
 unfold sumL
 rw [Y3,List.sum_append]
 omega
theorem Znd {l:List (List UInt8)} {i:Nat} (h:i<l.length):(Nn l i).length≤sumL l:=by
 have h1:=ZhJ l i h
 have h2:=ZkR l (i+1)
 omega
theorem Zlj:∀ l:List (List UInt8),(ZaP l).length≤sumL l+l.length
 | []=>by simp [ZaP]
 | [x]=>by simp [ZaP,sumL]
 | x :: y :: r=>by
  have:=Zlj (y :: r)
  simp [ZaP,sumL] at this ⊢
  omega
theorem Ziu:∀ (l:List (List UInt8)) (x:List UInt8),l≠[]→ZaP (l ++ [x])=ZaP l ++ [32] ++ x
 | [],x,h=>absurd rfl h
 | [a],x,_=>by simp [ZaP]
 | a :: b :: r,x,_=>by
  have:=Ziu (b :: r) x XM
  simp only [Yao] at this ⊢
  rw [ZaP,this,ZaP]
  simp
theorem Zn9 {l:List (List UInt8)} {i:Nat} (h:i+1<l.length):ZaP (l.take (i+2))=ZaP (l.take (i+1)) ++ [32] ++ Nn (l.drop 1) i:=by
 rw [show i+2=(i+1)+1 from rfl,YaW h,Ziu _ _ (by intro e;have:=Y8 List.length e;rw [Yp,Yq] at this;omega)]
 congr 1
 rw [nth_eq XT]
 simp [YbC]
theorem Ztr {k:Int} (h:1≤k) (h2:k≤1000000):2≤IntKind.wrap .i64 (Int.tdiv 9223372036854775807 k):=by
 rw [YaX XW]
 have h3:9223372036854≤(9223372036854775807:Int) / k:=(Int.le_ediv_iff_mul_le ow).2 ow
 have h4:(9223372036854775807:Int) / k≤9223372036854775807:=Int.ediv_le_self _ XW
 rw [wrap_i64 ow]
 omega
theorem ZvP (b:Nat):FnG prog 105 1 [.is (.pointer (some ⟨b,0,none⟩))] [bZ (.pointer (some ⟨b,0,none⟩)) (.pointer none)] (.any) (fun _=>[bZ (.pointer (some ⟨b,0,none⟩)) (.pointer (some ⟨b,0,none⟩))]):=by
 refine FnG.mk func105 rfl ntmps105 rfl kr fun B F0 a w F Z hG G=>?_
 obtain ⟨F,G⟩:=G.peel 1 2 rfl rfl
 obtain ⟨F,G⟩:=G.peel 1 3 rfl rfl
 obtain ⟨F,G⟩:=G.nM [0] KR
 refine Ya (rZ G (qR rr (qf (o_nilCheck 2 .is XV) r1 r1 (qf (oF 0 2 .adr) r1 r1 (qa 2 r1 r1 (qf (ZdA _ Ycb rfl .t) r1 qz qZ))))) Z [6,0] KR fun G=>?_)
 refine Zb G rfl (fun hc0=>?_) (fun hc0=>?_)
 ·refine Zc G (qR rr (qR rr (qf (ZdK 2 Ycb underlying239 kr kr .t) r1 r1 (qf (Zhd func151 kr kr kr kr .t) r1 qz (qf (ZfV 2 underlying239 Ycb kr kr .t) r1 r1 (qf (o_nilCheck 2 .is XV) r1 r1 (qf (oF 0 2 .adr) r1 r1 (qf (ZZ 2 .adr .t one_is kr kr) r2 r1 qZ)))))))) Z [] KR rfl rfl fun a w F G=>?_
  have G:=G.fresh 1 rfl
  obtain ⟨F,G⟩:=G.push 1 3 rfl rfl rfl kr
  obtain ⟨F,G⟩:=G.push 1 2 rfl rfl rfl kr
  have G:=G.turn 1 rfl (r':=RS.hp (bZ (.pointer (some ⟨b,0,none⟩)) (.pointer (some ⟨b,0,none⟩)))) (fun _ _ _ _ h=>h)
  refine ZL hG G rfl .nil ZaB.any rfl
 simp at hc0
theorem Zv4 (b:Nat) (l:List UInt8):FnG prog 105 1 [.is (.pointer (some ⟨b,0,none⟩))] [bW (.pointer (some ⟨b,0,none⟩)) l] (.any) (fun _=>[bW (.pointer (some ⟨b,0,none⟩)) l]):=by
 refine FnG.mk func105 rfl ntmps105 rfl kr fun B F0 a w F Z hG G=>?_
 obtain ⟨rv,G⟩:=G.open_ex 1 rfl
 obtain ⟨F,G⟩:=G.peel 1 2 rfl rfl
 obtain ⟨F,G⟩:=G.peel 1 3 rfl rfl
 obtain ⟨F,G⟩:=G.nM [0] KR
 refine Ya (rZ G (qR rr (qf (o_nilCheck 2 .is XV) r1 r1 (qf (oF 0 2 .adr) r1 r1 (qa 2 r1 r1 (qf (ZdA _ Ycb rfl .t) r1 qz qZ))))) Z [6,0] KR fun G=>?_)
 refine Zb G rfl (fun hc0=>?_) (fun hc0=>?_)
 ·simp at hc0
 refine Ya (rZ G (qR rr (qf (o_nilCheck 2 .is XV) r1 r1 (qf (oF 0 2 .adr) r1 r1 (qa 2 r1 r1 (qR rr (qf (ZgM Ycb kr .t .t) r2 qz qZ)))))) Z [19] KR fun G=>?_)
 refine Zb G rfl (fun hc1=>?_) (fun hc1=>?_)
 ·simp at hc1
 refine Yf ?_
 have G:=G.fresh 1 rfl
 obtain ⟨F,G⟩:=G.push 1 3 rfl rfl rfl kr
 obtain ⟨F,G⟩:=G.push 1 2 rfl rfl rfl kr
 have G:=G.turn 1 rfl (r':=RS.hp (bW (.pointer (some ⟨b,0,none⟩)) l)) (fun _ _ _ _ h=>⟨_,h⟩)
 refine ZL hG G rfl .nil ZaB.any rfl
theorem writeW (b:Nat) (l x:List UInt8) (hl:l.length≤1000000000) (hx:x.length≤1000000000):FnG prog 55 1 [.is (.pointer (some ⟨b,0,none⟩)),.bs x] [bW (.pointer (some ⟨b,0,none⟩)) l] (.any) (fun _=>[bW (.pointer (some ⟨b,0,none⟩)) (l++x)]):=by
 refine FnG.mk func55 rfl ntmps55 rfl kr fun B F0 a w F Z hG G=>Ya ?_
 refine rZ G (qI (qC qZ)) Z Qh KQ fun G=>Ya ?_
 refine Zc G (qR rr (qf (o_callG1 1 (Zv4 b l) func105 rfl kr (Args.one .t)) r1 r1 qZ)) Z Qh KQ rfl rfl fun a w F G=>?_
 obtain ⟨rv,G⟩:=G.open_ex 1 rfl
 obtain ⟨F,G⟩:=G.peel 1 2 rfl rfl
 obtain ⟨F,G⟩:=G.peel 1 3 rfl rfl
 obtain ⟨F,G⟩:=G.nM Qh KR
 refine Za (Ya (rS G (qR rr (qR rr (qf (o_nilCheck 2 .is XV) r1 r1 (qf (oF 1 2 .adr) r1 r1 (qa 2 r1 r1 (qR rr (qf (ZeC 3 Yb6 Yb5 kr .is .t ow) ⟨rfl,rfl,tv⟩ ⟨rfl,tv⟩ (qf (o_nilCheck 2 .is XV) r1 r1 (qf (oF 1 2 .adr) r1 r1 (qf (o_storeS 2 .adr kr kr) r2 r1 qZ)))))))))) Z G2 KR fun τ G=>?_))
 have G:=X0
 generalize τ 14=v14 at G
 refine Za (Ya (rZ G (qR rr (qf (Zb9 Yb5 .t) r1 qz (qO rr (qC qZ)))) Z [5,4] KR fun G=>Yj ?_))
 have G:=G.fresh 1 rfl
 obtain ⟨F,G⟩:=G.push 1 3 rfl rfl rfl kr
 obtain ⟨F,G⟩:=G.push 1 2 rfl rfl rfl kr
 have G:=G.turn 1 rfl (r':=RS.hp (bW (.pointer (some ⟨b,0,none⟩)) (l++x))) (fun _ _ _ _ h=>⟨_,h⟩)
 refine ZL hG G rfl (.tmp rfl (.tmp rfl .nil)) ZaB.any rfl
theorem ZsZ (b:Nat) (l:List UInt8) (hne:l≠[]):FnG prog 57 1 [.is (.pointer (some ⟨b,0,none⟩))] [bW (.pointer (some ⟨b,0,none⟩)) l] (.bs l) (fun _=>[HP.star []]):=by
 refine FnG.mk func57 rfl ntmps57 rfl kr fun B F0 a w F Z hG G=>?_
 obtain ⟨rv,G⟩:=G.open_ex 1 rfl
 obtain ⟨F,G⟩:=G.peel 1 2 rfl rfl
 obtain ⟨F,G⟩:=G.peel 1 3 rfl rfl
 obtain ⟨F,G⟩:=G.nM [0] KR
 refine Ya (rZ G (qf (oN (.cs kr)) trivial qz qZ) Z Q0 KR fun G=>Ya ?_)
 refine Zv G (qR rr (qf (o_nilCheck 2 .is XV) r1 r1 (qf (oF 1 2 .adr) r1 r1 (qa 2 r1 r1 (qf (ZfZ 3 hne .is XV) r1 r1 (qR rr (qf (o_nilCheck 2 .is XV) r1 r1 (qf (oF 1 2 .adr) r1 r1 (qa 2 r1 r1 (qf (ZN 3 Yb6 .is) r1 r1 (qf (Zc0 3 underlying179 kr hne .t) r2 r1 (qO rr qZ)))))))))))) Z [2] KR rfl rfl fun a w F G=>?_
 have G:=Xa
 refine Za (Yj ?_)
 have G:=G.fresh 1 rfl
 refine ZL (h':=HP.star []) hG G rfl (.tmp rfl .nil) (.one .refl) rfl
theorem ZvZ (b:Nat) (n:Int) (h0:1≤n) (h1:n≤1000000000):FnG prog 231 1 [.is (.pointer (some ⟨b,0,none⟩)),.int .i64 n] [bZ (.pointer (some ⟨b,0,none⟩)) (.pointer (some ⟨b,0,none⟩))] (.any) (fun _=>[bW (.pointer (some ⟨b,0,none⟩)) []]):=by
 refine FnG.mk func231 rfl ntmps231 rfl kr fun B F0 a w F Z hG G=>?_
 have hw:IntKind.wrap .i64 (IntKind.wrap .i64 (2*0)+n)=n:=by rw [show IntKind.wrap .i64 (2*0)=0 from rfl,Int.zero_add];exact wrap_i64 ow
 obtain ⟨F,G⟩:=G.peel 1 2 rfl rfl
 obtain ⟨F,G⟩:=G.peel 1 3 rfl rfl
 obtain ⟨F,G⟩:=G.nM KQ KR
 refine Ya (rT G (qR rr (qf (o_nilCheck 2 .is XV) r1 r1 (qf (oF 1 2 .adr) r1 r1 (qa 2 r1 r1 (qf (ZiJ Yb6 .t) r1 qz (qf (Zmr qi .t) r1 qz (qR rr (qf (Zce .t .t) r2 qz (qf (Zij 101 func256 kr kr kr rfl Yb6 .t Wi Wi) r1 qz (qR rr (qf (o_nilCheck 2 .is XV) r1 r1 (qf (oF 1 2 .adr) r1 r1 (qa 2 r1 r1 (qf (ZN 3 Yb6 .is) r1 r1 (qf (ZcH (sz:=1) 101 (.mk Yb6 kr) Wh .same .t XW XT) r2 r1 (qO rr qZ)))))))))))))))) Z G6 [101,3,2,0] fun τ G=>?_)
 try dsimp only [RS.sub,SF.sub,CF.sub,csub,Anc.sub,List.map,xD,xE,xT,xU,ldSF] at G
 generalize τ 19=v19 at G
 replace G:=G.turn 101 rfl (r':=RS.ob (.val v19) (Zz 5 1 rC [])) (fun τ w f y h=>Zrp (R:=ZvN) τ w f y XL)
 refine Za (Ya (rZ G (qR rr (qR rr (qf (o_nilCheck 2 .is XV) r1 r1 (qf (oF 1 2 .adr) r1 r1 (qa 2 r1 r1 (qf (ZtI 101 Yb6 kr .is .t) r2 r1 qZ)))))) Z G6 [101,3,2,0] fun G=>?_))
 refine Zc G (qR rr (qR rr (qf (o_nilCheck 2 .is XV) r1 r1 (qf (oF 1 2 .adr) r1 r1 (qf (ZZ 2 .adr .t one_is kr kr) r2 r1 qZ))))) Z [] [101,3,2,0] rfl rfl fun a w F G=>?_
 have G:=G.fresh 1 rfl
 obtain ⟨F,G⟩:=G.push 1 101 rfl rfl rfl kr
 obtain ⟨F,G⟩:=G.push 1 2 rfl rfl rfl kr
 have G:=G.turn 1 rfl (r':=RS.hp (bW (.pointer (some ⟨b,0,none⟩)) [])) (fun _ _ _ _ h=>⟨_,h⟩)
 refine ZL hG G rfl .nil ZaB.any rfl
theorem ZvY (b:Nat) (n:Int) (h0:1≤n) (h1:n≤1000000000):FnG prog 198 1 [.is (.pointer (some ⟨b,0,none⟩)),.int .i64 n] [bZ (.pointer (some ⟨b,0,none⟩)) (.pointer none)] (.any) (fun _=>[bW (.pointer (some ⟨b,0,none⟩)) []]):=by
 refine FnG.mk func198 rfl ntmps198 rfl kr fun B F0 a w F Z hG G=>Ya ?_
 refine Zc G (qR rr (qf (o_callG1 1 (ZvP b) func105 rfl kr (Args.one .t)) r1 r1 qZ)) Z KQ KQ rfl rfl fun a w F G=>?_
 obtain ⟨F,G⟩:=G.peel 1 2 rfl rfl
 obtain ⟨F,G⟩:=G.peel 1 3 rfl rfl
 obtain ⟨F,G⟩:=G.nM KQ KR
 refine Za (Ya (Ya (rZ G (qR rr (qf (Zbb .t qi) r1 qz qZ)) Z [7,1,0] KR fun G=>?_)))
 refine Zb G rfl (fun hc0=>?_) (fun hc0=>?_)
 ·simp at hc0;omega
 refine Yf (Za (Ya (Zv G (qR rr (qf (o_nilCheck 2 .is XV) r1 r1 (qf (oF 1 2 .adr) r1 r1 (qa 2 r1 r1 (qf (ZiJ Yb6 .t) r1 qz (qR rr (qf (o_nilCheck 2 .is XV) r1 r1 (qf (oF 1 2 .adr) r1 r1 (qa 2 r1 r1 (qf (ZN 3 Yb6 .is) r1 r1 (qf (o_sub .t .t) r2 qz (qR rr (qL r2))))))))))))) Z [21,1,0] KR rfl rfl fun a w F G=>?_)))
 have G:=Xa
 refine Za (Zb G rfl (fun hc1=>?_) (fun hc1=>?_))
 ·replace G:=G.fresh 1 rfl
  obtain ⟨F,G⟩:=G.push 1 3 rfl rfl rfl kr
  obtain ⟨F,G⟩:=G.push 1 2 rfl rfl rfl kr
  replace G:=G.turn 1 rfl (r':=RS.hp (bZ (.pointer (some ⟨b,0,none⟩)) (.pointer (some ⟨b,0,none⟩)))) (fun _ _ _ _ h=>h)
  obtain ⟨F,G⟩:=G.nM [21,1,0] KQ
  refine Zc G (qR rr (qR rr (qf (o_callG1 1 (ZvZ b n h0 h1) func231 rfl kr (Args.two .t .t)) r2 r1 qZ))) Z [] KQ rfl rfl fun a w F G=>ZL hG G rfl .nil ZaB.any rfl
 have h9:¬ (0:Int)<n:=Yk hc1
 omega
theorem ZtU {l:List (List UInt8)} (h:2≤l.length):ZaP l≠[]:=by
 match l,h with
 | x :: y :: r,_=>simp [ZaP]
theorem Zru {l:List (List UInt8)} (h:0<l.length):Nn l 0=ZaP (l.take (0+1)):=by
 match l,h with
 | x :: r,_=>simp [ZaP,Nn]
theorem ZuC (l:List (List UInt8)) (hn:l.length≤1000000) (hs:sumL l≤900000000):FnP prog 157 [.sl Zmq l,.bs [32]] (.bs (ZaP l)):=by
 refine FnP.mk func157 rfl ntmps157 rfl fun B a w F Z hfr G=>Ya ?_
 refine rZ G (qf (oN (.cs kr)) trivial qz qZ) Z KU [0] fun G=>(Ya (Ya ?_))
 refine rZ G (qR rr (qu Yb3 r1 qZ)) Z [12,4,1,0] [0] fun G=>(Yi (Ya ?_))
 refine rZ G (qf (o_eql .t qi) r1 qz (qO rr qZ)) Z QO [0] fun G=>?_
 refine Zb G rfl (fun hc0=>?_) (fun hc0=>?_)
 ·have hr:ZaP l = []:=by
    have h9:l = []:=WV
    rw [h9];rfl
  refine Ya (rZ G (qf (oN (.cs kr)) trivial qz qZ) Z KU [0] fun G=>(Yj (Zn (Zh ?_))))
  refine Zo hfr G rfl rfl rfl (.bs Wu)
 have hl0:l≠[]:=by intro e;rw [e] at hc0;simp at hc0
 refine Ya (rZ G (qf (o_eql .t qi) r1 qz (qO rr qZ)) Z [15,4,1,0] [0] fun G=>?_)
 refine Zb G rfl (fun hc1=>?_) (fun hc1=>?_)
 ·have hl1:l.length=1:=WE
  have hr:ZaP l=Nn l 0:=by match l,hl1 with | [x],_=>rfl
  refine Ya (rZ G (qR rr (qf (o_indexAddr_sl (sz:=1) (.mk Yb3 kr) Wh .t qi XW XT) r1 qz (qf (oR false 1 .t) r1 qz (qO rr qZ)))) Z KU [0] fun G=>(Yj (Zn (Zh ?_))))
  refine Zo hfr G rfl rfl rfl (.bs Wu)
 have hl2:2≤l.length:=by have:=Ya0.2 hl0;simp at hc1;omega
 have hw1:IntKind.wrap .i64 ((l.length:Int) - 1)=((l.length - 1:Nat):Int):=K3
 have hsz:IntKind.wrap .i64 (0+IntKind.wrap .i64 (1*((l.length - 1:Nat):Int)))=((l.length - 1+sumL (l.take 0):Nat):Int):=by rw [wrap_i64 (x:=1*_) ow,wrap_i64 ow];simp [sumL]
 have hdl:(l.drop 1).length=l.length - 1:=XM
 refine Yf (Ze (Za (Ya (rZ G (qI qZ) Z Qh [0] fun G=>(Ya (Ya ?_))))))
 refine rZ G (qR rr (qf (Zb9 Yb5 .t) r1 qz (qf (Zad .t qi) r1 qz qZ))) Z [22,5,4,1,0] [0] fun G=>?_
 refine Zb G rfl (fun hc2=>?_) (fun hc2=>?_)
 ·refine Ya (Ya (rZ G (qR rr (qf (Zb9 Yb5 .t) r1 qz (qR rr (qu Yb3 r1 (qf (o_sub .t qi) r1 qz (qf (ZmW qi .t Wv) r1 qz (qf (ZbD .t .t) r2 qz qZ))))))) Z [29,5,4,1,0] [0] fun G=>?_))
  refine Zb G rfl (fun hc3=>?_) (fun hc3=>?_)
  ·have h9:=Yd hc3
   rw [hw1] at h9
   have:=Ztr (k:=((l.length - 1:Nat):Int)) ow ow
   try simp only [Yh,Yq] at h9
   omega
  refine Yf (Za (Zc G (qR rr (qR rr (qf (Zb9 Yb5 .t) r1 qz (qR rr (qu Yb3 r1 (qf (o_sub .t qi) r1 qz (qf (Zmr .t .t) r2 qz (qf (Zce .t .t) r2 qz (qO rr qZ))))))))) Z Qh [0] rfl rfl fun a w F G=>?_))
  rw [hw1] at G
  refine Za (Ya (Ya (rZ G (qR rr (qu Yb3 r1 (qJ qZ))) Z [41,40,39,5,4,1,0] [0] fun G=>Yi ?_)))
  replace G:=G.ent (i:=5) (s':=.pv (.int .i64 ((l.length - 1+sumL (l.take 0):Nat):Int))) rfl (.int hsz)
  obtain ⟨F,G⟩:=G.nM Jd [0]
  refine ZY (σ:=Nat) (fun s=>(⟨[(0,.pv (.sl Zmq l)),(1,.pv (.bs [32])),(5,.pv (.int .i64 ((l.length - 1+sumL (l.take s):Nat):Int))),(39,.pv (.sl Zmq l)),(40,.pv (.int .i64 (l.length:Nat))),(41,.pv (.int .i64 (s:Nat)))],[(0,frame B)]⟩:En)) (fun s=>s≤l.length) (fun s=>l.length - s) 0 G (YA _) ?_
  clear G;intro i a w F hC G
  have hC:=X4
  have G:=X3
  have hi0:=hC
  have hsi:=ZkR l i
  refine Ya (rZ G (qL r2) Z [42,41,40,39,5,1,0] [0] fun G=>Ya ?_)
  refine Zb G rfl (fun hc4=>?_) (fun hc4=>?_)
  ·have hi:i<l.length:=Ki
   have hwl:=Znd hi
   have hst:=ZhJ l i hi
   have hsi1:=ZkR l (i+1)
   refine Yf (Za (Ya (Yi (Ya (Zc G (qy 1 Yb3 r2 (qf (oR false 1 .t) r1 qz (qO rr qZ))) Z [41,40,39,7,5,1,0] [0] rfl rfl fun a w F G=>?_)))))
   rw [Yg] at G
   refine Za (Ya (Ya (rZ G (qR rr (qf (Zb9 Yb5 .t) r1 qz (qR rr (qf (o_sub qi .t) r1 qz (qf (Zad .t .t) r2 qz qZ))))) Z [49,41,40,39,7,5,1,0] [0] fun G=>?_)))
   refine Zb G rfl (fun hc5=>?_) (fun hc5=>?_)
   ·have h9:=Yd hc5
    rw [wrap_i64 ow] at h9
    omega
   refine Yf (Za (Zc G (qR rr (qR rr (qf (Zb9 Yb5 .t) r1 qz (qf (Zce .t .t) r2 qz (qO rr qZ))))) Z Jd [0] rfl rfl fun a w F G=>Ze (Za ?_)))
   refine rZ G (qp r1 (qR rr qZ)) Z Jd [0] fun G=>?_
   replace G:=G.eI 41 i
   replace G:=G.ent (i:=5) (s':=.pv (.int .i64 ((l.length - 1+sumL (l.take (i+1)):Nat):Int))) rfl (.int (by rw [ZhJ l i hi,wrap_i64 ow];omega))
   obtain ⟨F,G⟩:=G.nM Jd [0]
   exact ⟨i+1,F,ow,G,ow⟩
  have hi:i=l.length:=Ki
  refine Yz (Zg (Zg (Zm (Za (Ya (rS G (qf (oH [.pointer none,.slice none 0 0] 101) trivial qz qZ) Z [8,5,1,0] KN fun τ G=>?_))))))
  have G:=X5
  generalize τ 8=v8 at G
  rw [hi,YE] at G
  obtain ⟨b,rfl⟩:=G.shape 101 rfl
  replace G:=G.fresh 9 rfl
  replace G:=G.turn 9 rfl (Za6 (T:=5) (sz:=1) (R:=rC))
  replace G:=G.fresh 10 rfl
  obtain ⟨F,G⟩:=G.push 10 9 rfl rfl rfl kr
  obtain ⟨F,G⟩:=G.push 10 101 rfl rfl rfl kr
  replace G:=G.turn 10 rfl (r':=RS.hp (bZ (.pointer (some ⟨b,0,none⟩)) (.pointer none))) (fun _ _ _ _ h=>h)
  obtain ⟨F,G⟩:=G.nM [8,5,1,0] Q4
  refine Za (Ya (rZ G (qR rr (qf (o_callG1 10 (ZvY b ((l.length - 1+sumL l:Nat):Int) ow ow) func198 rfl kr (Args.two .t .t)) r2 r1 qZ)) Z [8,1,0] Q4 fun G=>Ya ?_))
  refine Zc G (qR rr (qf (o_indexAddr_sl (sz:=1) (.mk Yb3 kr) Wh .t qi XW XT) r1 qz (qf (oR false 1 .t) r1 qz (qf (o_callG1 10 (writeW b [] (Nn l 0) XM (by have:=Znd (l:=l) (i:=0) ow;omega)) func55 rfl kr (Args.two .t .t)) r2 r1 qZ)))) Z [8,1,0] Q4 rfl rfl fun a w F G=>?_
  replace G:=G.turn 10 rfl (r':=RS.hp (bW (.pointer (some ⟨b,0,none⟩)) (ZaP (l.take (0+1))))) (fun _ _ _ _ h=>by rw [← Zru ow];exact h)
  refine Za (Ya (Ya (rZ G (qR rr (qf (o_slice_lo (sz:=1) (.mk Yb3 kr) Wh .t qi XW ow) r1 qz (qu Yb3 r1 (qJ qZ)))) Z J5 Q4 fun G=>Yi ?_)))
  obtain ⟨F,G⟩:=G.nM J5 Q4
  refine ZY (σ:=Nat) (fun s=>(⟨[(1,.pv (.bs [32])),(8,.pv (.is (.pointer (some ⟨b,0,none⟩)))),(63,.pv (.sl Zmq (l.drop 1))),(64,.pv (.int .i64 ((l.drop 1).length:Nat))),(65,.pv (.int .i64 (s:Nat)))],[(0,frame B),(10,RS.hp (bW (.pointer (some ⟨b,0,none⟩)) (ZaP (l.take (s+1)))))]⟩:En)) (fun s=>s≤(l.drop 1).length) (fun s=>(l.drop 1).length - s) 0 G (YA _) ?_
  clear G;intro i a w F hC G
  have hC:=X4
  have G:=X3
  have hi0:=hC
  have hjl:=Zlj (l.take (i+1))
  have hsi:=ZkR l (i+1)
  have htl:=List.length_take_le (i+1) l
  refine Ya (rZ G (qL r2) Z [66,65,64,63,8,1] Q4 fun G=>Ya ?_)
  refine Zb G rfl (fun hc6=>?_) (fun hc6=>?_)
  ·have hi1:i+1<l.length:=by simp at hc6;omega
   have hwl:(Nn (l.drop 1) i).length≤sumL l:=by rw [show Nn (l.drop 1) i=Nn l (i+1) by rw [nth_eq ow,nth_eq hi1];simp [YbC]];exact Znd hi1
   refine Yf (Za (Ya (Yi (Ya (Zc G (qy 1 Yb3 r2 (qf (oR false 1 .t) r1 qz (qO rr qZ))) Z [65,64,63,10,8,1] Q4 rfl rfl fun a w F G=>?_)))))
   rw [Yg] at G
   refine Za (Ya (rZ G (qR rr (qf (o_callG1 10 (writeW b (ZaP (l.take (i+1))) [32] ow XM) func55 rfl kr (Args.two .t .t)) r2 r1 qZ)) Z [65,64,63,10,8,1] Q4 fun G=>?_))
   refine Zc G (qR rr (qf (o_callG1 10 (writeW b (ZaP (l.take (i+1)) ++ [32]) (Nn (l.drop 1) i) (by rw [Yc];simp;omega) ow) func55 rfl kr (Args.two .t .t)) r2 r1 qZ)) Z J5 Q4 rfl rfl fun a w F G=>Ze (Za ?_)
   refine rZ G (qp r1 (qR rr qZ)) Z J5 Q4 fun G=>?_
   rw [← Zn9 hi1] at G
   replace G:=G.eI 65 i
   obtain ⟨F,G⟩:=G.nM J5 Q4
   exact ⟨i+1,F,ow,G,ow⟩
  have hi2:i+1=l.length:=by simp at hc6;omega
  have hfin:ZaP (l.take (i+1))=ZaP l:=by rw [hi2,YE]
  have hjne:ZaP l≠[]:=ZtU hl2
  rw [hfin] at G
  refine Yz (Zg (Zg (Zm (Za (Ya (rZ G (qf (o_callG1 10 (ZsZ b (ZaP l) hjne) func57 rfl kr (Args.one .t)) r1 r1 (qO rr qZ)) Z [4] Q4 fun G=>Yj ?_))))))
  refine Zo hfr G rfl rfl rfl (.bs Wu)
 simp at hc2
theorem Zez (l:List (List UInt8)) (hn:l.length≤1000000) (hs:sumL l≤900000000):FnP prog 111 [.sl Zmq l] (.bs (ZaP l)):=by
 refine FnP.mk func111 rfl ntmps111 rfl fun B a w F Z hfr G=>Ya ?_
 refine rZ G (qf (oN (.cs kr)) trivial qz qZ) Z Q0 [0] fun G=>Ya ?_
 refine rZ G (qR rr (qf (oP (ZuC l hn hs) func157 (Args.two .t (.cs kr))) r1 qz (qO rr qZ))) Z [2] [0] fun G=>Yj ?_
 refine Zo hfr G rfl rfl rfl .refl
def RdB (n:Int) (v:Nat):Prop:=0≤n∧n≤21474836479∧(v≤2147483647→n=v)∧(2147483647<v→2147483647<n)
theorem RdB.range {n:Int} {v:Nat} (h:RdB n v):0≤n∧n≤21474836479:=⟨h.1,h.2.1⟩
theorem RdB.val {n:Int} {v:Nat} (h:RdB n v) (hn:n≤2147483647):n=v:=by
 rcases Nat.lt_or_ge 2147483647 v with hh | hh
 ·have:=h.2.2.2 hh;omega
 ·exact h.2.2.1 hh
def Z1 (o:OpD):Bool:=if o.read=true then ZaT ⟨o.tx,o.key,o.nth⟩ else (idB o.key && decide (o.tx=0)) && decide (o.nth=0)
def ofO (o:OpD):Zaz:=if o.read=true then ⟨o.tx,o.key,o.nth⟩ else noV
def Zao (o:OpD):List UInt8:=if Z1 o=false then [] else if o.read=false then 119 :: textL o.key else if o.tx=0 then (114 :: textL o.key) ++ [64,48] else (((114 :: textL o.key) ++ [64] ++ textL o.tx) ++ [46])++textL o.nth
section
variable {b:UInt8} {r e e2:List UInt8}
end
def ZbE (o:OpD):Int:=if Z1 o=true then 0 else 1
theorem ZdO {o:OpD} (h:Z1 o=true):(1≤o.key∧o.key≤1048575)∧(0≤o.tx∧o.tx≤1048575)∧(0≤o.nth∧o.nth≤4095):=by
 unfold Z1 at h
 split at h
 ·unfold ZaT at h
  dsimp only at h
  split at h <;> simp only [Yw,Yl,Zkf] at h <;> omega
 ·simp only [Yw,Yl,Zkf] at h
  omega
theorem Zd6 {o:OpD} (h:o.read=true):Z1 o=ZaT (ofO o):=by unfold Z1 ofO;rw [Ye h,Ye h]
theorem Zdk {o:OpD} (h:o.read=false):Z1 o=((idB o.key && decide (o.tx=0)) && decide (o.nth=0)):=by unfold Z1;rw [Yb (by rw [h];decide)]
theorem Zmj (v:Zaz):(Zsv v).2=if ZaT v=true then 0 else 1:=by unfold Zsv;split <;> rfl
theorem Zjg (o:OpD):FnP prog 86 [.agg (rOp o)] (.agg (ZJ (ofO o))):=by
 refine FnP.mk func86 rfl ntmps86 rfl fun B a w F Z hfr G=>Ya ?_
 refine rS G (qx 101 r1 (qf (oH [.int .i64 0,.int .i64 0,.int .i64 0] 102) trivial qz qZ)) Z Q3 KP fun τ G=>?_
 have G:=X5
 generalize τ 1=v1,τ 2=v2 at G
 refine Za (Ya (Ya (rZ G (qg 0 101 r1 r1 (qa 101 r1 r1 (qf (o_not .t) r1 qz qZ))) Z G1 KP fun G=>?_)))
 refine Zb G rfl (fun hc0=>?_) (fun hc0=>?_)
 ·have hr:o.read=false:=WV
  refine Ya (rZ G (qf (oB [] [.int .i64 0,.int .i64 0,.int .i64 0] [(0,1),(1,1),(2,1)] .nil) trivial qz (qs 3 102 r2 r1 qZ)) Z Q3 KP fun G=>(Yj (Zh ?_)))
  refine ZW hfr G rfl (.cl 102 true 3 rfl rfl .nil) (.one (.aggU rfl Ww))
 have hr:o.read=true:=WV
 refine Yf (Za (Ya (rZ G (qg 2 101 r1 r1 (qa 101 r1 r1 (qg 1 101 r1 r1 (qa 101 r1 r1 (qg 3 101 r1 r1 (qa 101 r1 r1 (qf (oB [(0,.tmp 8),(1,.tmp 10),(2,.tmp 12)] [.int .i64 0,.int .i64 0,.int .i64 0] [(0,1),(1,1),(2,1)] (.one rfl .t one_int kr (.one rfl .t one_int kr (.one rfl .t one_int kr .nil)))) r3 qz (qs 3 102 r2 r1 qZ)))))))) Z [2] KP fun G=>Yj ?_)))
 refine ZW hfr G rfl (.cl 102 true 3 rfl rfl .nil) (.one (.aggU rfl Ww))
theorem ZtE (o:OpD):FnP prog 200 [.agg (rOp o)] (.agg (ZJ (ofO o))):=by
 refine FnP.mk func200 rfl ntmps200 rfl fun B a w F Z hfr G=>Ya ?_
 refine rS G (qx 101 r1 (qf (oH [.int .i64 0,.int .i64 0,.int .i64 0] 102) trivial qz qZ)) Z Q3 KP fun τ G=>?_
 have G:=X5
 generalize τ 1=v1,τ 2=v2 at G
 refine Za (Ya (Ya (rZ G (qg 0 101 r1 r1 (qa 101 r1 r1 (qf (o_not .t) r1 qz qZ))) Z G1 KP fun G=>?_)))
 refine Zb G rfl (fun hc0=>?_) (fun hc0=>?_)
 ·have hr:o.read=false:=WV
  refine Ya (rZ G (qf (oB [] [.int .i64 0,.int .i64 0,.int .i64 0] [(0,1),(1,1),(2,1)] .nil) trivial qz (qs 3 102 r2 r1 qZ)) Z Q3 KP fun G=>(Yj (Zh ?_)))
  refine ZW hfr G rfl (.cl 102 true 3 rfl rfl .nil) (.one (.aggU rfl Ww))
 have hr:o.read=true:=WV
 refine Yf (Za (Ya (rZ G (qg 2 101 r1 r1 (qa 101 r1 r1 (qg 1 101 r1 r1 (qa 101 r1 r1 (qg 3 101 r1 r1 (qa 101 r1 r1 (qf (oB [(0,.tmp 8),(1,.tmp 10),(2,.tmp 12)] [.int .i64 0,.int .i64 0,.int .i64 0] [(0,1),(1,1),(2,1)] (.one rfl .t one_int kr (.one rfl .t one_int kr (.one rfl .t one_int kr .nil)))) r3 qz (qs 3 102 r2 r1 qZ)))))))) Z [2] KP fun G=>Yj ?_)))
 refine ZW hfr G rfl (.cl 102 true 3 rfl rfl .nil) (.one (.aggU rfl Ww))
theorem ZfL (o:OpD):FnP prog 69 [.agg (rOp o)] (.int .i64 (ZbE o)):=by
 refine FnP.mk func69 rfl ntmps69 rfl fun B a w F Z hfr G=>Ya ?_
 refine rS G (qx 101 r1 (qI qZ)) Z Q3 KN fun τ G=>?_
 have G:=X5
 generalize τ 1=v1 at G
 refine Za (Ya (Ya (rZ G (qg 0 101 r1 r1 (qa 101 r1 r1 qZ)) Z [6,2,1] KN fun G=>?_)))
 refine Zb G rfl (fun hc0=>?_) (fun hc0=>?_)
 ·have hg:(Zsv (ofO o)).2=ZbE o:=by rw [Zmj];unfold ZbE;rw [Zd6 hc0]
  refine Ya (rZ G (qe 4 101 r1 r1 (qf (oP (Zjg o) func86 (Args.one (.pagg .t))) r1 qz (qf (oP (ZpB (ofO o)) func117 (Args.one .t)) r1 qz (qR rr (qf (Zs .t rfl) r1 qz (qf (Zs .t rfl) r1 qz (qO rr (qO rr qZ)))))))) Z QX KN fun G=>Ya ?_)
  refine rZ G (qR rr (qO rr qZ)) Z Q3 KN fun G=>(Yj (Zh ?_))
  refine Zo hfr G rfl rfl rfl (.int hg)
 have hr:o.read=false:=hc0
 refine Yf (Za (Ya (Ya (rZ G (qe 4 101 r1 r1 (qg 1 101 r1 r1 (qa 101 r1 r1 (qf (oB [(1,.tmp 16)] [.bool false,.int .i64 0,.int .i64 0,.int .i64 0] [(0,1),(1,1),(2,1),(3,1)] (.one rfl .t one_int kr .nil)) r1 qz (qf (o_neqS (ks:=[false,true,true,true]) kr .t .t (.bool (.int (.int (.int .nil))))) r2 qz (qR rr (qv 1 101 rfl r2 r1 (qw 101 rfl r2 r1 (qk rfl (fun h=>Zbb (.w h) qi) r2 qz (qf (Zaq .t .t) r2 qz (qR rr (qv 1 101 rfl r2 r1 (qw 101 rfl r2 r1 (qk rfl (fun h=>Zad (.w h) qi) r2 qz (qf (Zaq .t .t) r2 qz qZ))))))))))))))) Z [28,2] KN fun G=>?_))))
 refine Zb G rfl (fun hc1=>?_) (fun hc1=>?_)
 ·have hg:(1:Int)=ZbE o:=by
    unfold ZbE
    rw [Yb]
    rw [Zdk hr]
    simp [hr,idB] at hc1 ⊢
    omega
  refine Ya (rZ G (qI qZ) Z [2] KN fun G=>(Yj (Zh ?_)))
  refine Zo hfr G rfl rfl rfl (.int hg)
 have hg:(0:Int)=ZbE o:=by
   unfold ZbE
   rw [Ye]
   rw [Zdk hr]
   simp [hr,idB] at hc1 ⊢
   omega
 refine Yf (Za (Ya (rZ G (qI qZ) Z [2] KN fun G=>Yj ?_)))
 refine Zo hfr G rfl rfl rfl (.int hg)
theorem ZjD (o:OpD):FnP prog 159 [.agg (rOp o)] (.bool (Z1 o)):=by
 refine FnP.mk func159 rfl ntmps159 rfl fun B a w F Z hfr G=>Ya ?_
 refine rS G (qx 101 r1 qB) Z Q3 KN fun τ G=>?_
 have G:=X5
 generalize τ 1=v1 at G
 refine Za (Ya (Ya (rZ G (qg 0 101 r1 r1 (qa 101 r1 r1 qZ)) Z QX KN fun G=>?_)))
 refine Zb G rfl (fun hc0=>?_) (fun hc0=>?_)
 ·have hg:ZaT (ofO o)=Z1 o:=(Zd6 hc0).symm
  refine Ya (rZ G (qe 4 101 r1 r1 (qf (oP (ZtE o) func200 (Args.one (.pagg .t))) r1 qz (qf (oP (ZrF (ofO o)) func199 (Args.one .t)) r1 qz (qO rr qZ)))) Z Q3 KN fun G=>(Yj (Zh ?_)))
  refine Zo hfr G rfl rfl rfl (.bool hg)
 have hg:((idB o.key && decide (o.tx=0)) && decide (o.nth=0))=Z1 o:=(Zdk hc0).symm
 refine Yf (Za (Ya (rZ G (qg 1 101 r1 r1 (qa 101 r1 r1 (qf (oP (ZhO o.key) func201 (Args.one .t)) r1 qz (qR rr (qv 2 101 rfl r2 r1 (qw 101 rfl r2 r1 (qk rfl (fun h=>o_eql (.w h) qi) r2 qz (qf (ZC .t .t) r2 qz (qR rr (qv 3 101 rfl r2 r1 (qw 101 rfl r2 r1 (qk rfl (fun h=>o_eql (.w h) qi) r2 qz (qf (ZC .t .t) r2 qz (qO rr qZ)))))))))))))) Z [2] KN fun G=>Yj ?_)))
 refine Zo hfr G rfl rfl rfl (.bool hg)
theorem Zlc (o:OpD):FnP prog 154 [.agg (rOp o)] (.bs (Zao o)):=by
 refine FnP.mk func154 rfl ntmps154 rfl fun B a w F Z hfr G=>Ya ?_
 refine rS G (qx 101 r1 (qf (oN (.cs kr)) trivial qz qZ)) Z Q3 KN fun τ G=>?_
 have G:=X5
 generalize τ 1=v1 at G
 refine Za (Ya (Yi (Ya (rZ G (qe 4 101 r1 r1 (qf (oP (ZfL o) func69 (Args.one (.pagg .t))) r1 qz (qf (o_neq .t qi) r1 qz (qO rr qZ)))) Z Qa KN fun G=>?_))))
 refine Zb G rfl (fun hc0=>?_) (fun hc0=>?_)
 ·have hg:([]:List UInt8)=Zao o:=by unfold Zao;rw [Ye];unfold ZbE at hc0;simpa using hc0
  refine Ya (rZ G (qf (oN (.cs kr)) trivial qz qZ) Z Q3 KN fun G=>(Yj (Zn (Zh ?_))))
  refine Zo hfr G rfl rfl rfl (.bs hg)
 have hk:Z1 o=true:=by unfold ZbE at hc0;simpa using hc0
 have hb:=ZdO hk
 have l1:=ZU (n:=o.key) ow
 have l2:=ZU (n:=o.tx) ow
 have l3:=ZU (n:=o.nth) ow
 refine Ya (rZ G (qg 0 101 r1 r1 (qa 101 r1 r1 (qf (o_not .t) r1 qz (qO rr qZ)))) Z [7,2,1] KN fun G=>?_)
 refine Zb G rfl (fun hc1=>?_) (fun hc1=>?_)
 ·have hg:[119] ++ textL o.key=Zao o:=by unfold Zao;rw [Yb Wx];rw [Ye Wg];rfl
  refine Ya (rZ G (qg 1 101 r1 r1 (qa 101 r1 r1 (qf (oP (Zc3 _) func23 (Args.one .t)) r1 qz (qf (ZD (.cs kr) .t Wy) r1 qz (qO rr qZ))))) Z Q3 KN fun G=>(Yj (Zn (Zh ?_))))
  refine Zo hfr G rfl rfl rfl (.bs hg)
 have hr:o.read=true:=Wg
 refine Ya (rZ G (qg 2 101 r1 r1 (qa 101 r1 r1 (qf (o_eql .t qi) r1 qz (qO rr qZ)))) Z [15,2,1] KN fun G=>?_)
 refine Zb G rfl (fun hc2=>?_) (fun hc2=>?_)
 ·have hg:([114] ++ textL o.key) ++ [64,48] = Zao o:=by unfold Zao;rw [Yb Wx];rw [Yb Wz,Ye WA];rfl
  refine Ya (rZ G (qg 1 101 r1 r1 (qa 101 r1 r1 (qf (oP (Zc3 _) func23 (Args.one .t)) r1 qz (qf (ZD (.cs kr) .t Wy) r1 qz (qf (ZD .t (.cs kr) Wy) r1 qz (qO rr qZ)))))) Z Q3 KN fun G=>(Yj (Zn (Zh ?_))))
  refine Zo hfr G rfl rfl rfl (.bs hg)
 have hg:((((([114] ++ textL o.key) ++ [64])++textL o.tx) ++ [46])++textL o.nth)=Zao o:=by unfold Zao;rw [Yb Wx];rw [Yb Wz,Yb WA];rfl
 refine Yf (Ze (Za (Ya (Zv G (qg 1 101 r1 r1 (qa 101 r1 r1 (qf (oP (Zc3 _) func23 (Args.one .t)) r1 qz (qf (ZD (.cs kr) .t Wy) r1 qz (qf (ZD .t (.cs kr) Wy) r1 qz (qg 2 101 r1 r1 (qa 101 r1 r1 (qf (oP (Zc3 _) func23 (Args.one .t)) r1 qz (qf (ZD .t .t Wy) r2 qz (qf (ZD .t (.cs kr) Wy) r1 qz (qg 3 101 r1 r1 (qa 101 r1 r1 (qf (oP (Zc3 _) func23 (Args.one .t)) r1 qz (qf (ZD .t .t Wy) r2 qz (qO rr qZ))))))))))))))) Z [2] KN rfl rfl fun a w F G=>?_))))
 have G:=Xa
 refine Za (Yj (Zo hfr G rfl rfl rfl (.bs hg)))
theorem Zi4:textL 0 = [48]:=by decide +kernel
theorem Zdl (o:OpD):FnP prog 116 [.agg (rOp o)] (.bs (Zao o)):=by
 refine FnP.mk func116 rfl ntmps116 rfl fun B a w F Z hfr G=>Ya ?_
 refine rS G (qx 101 r1 (qf (oN (.cs kr)) trivial qz qZ)) Z Q3 KN fun τ G=>?_
 have G:=X5
 generalize τ 1=v1 at G
 refine Za (Ya (Ya (rZ G (qe 4 101 r1 r1 (qf (oP (ZjD o) func159 (Args.one (.pagg .t))) r1 qz (qf (o_not .t) r1 qz qZ))) Z [6,2,1] KN fun G=>?_)))
 refine Zb G rfl (fun hc0=>?_) (fun hc0=>?_)
 ·have hg:([]:List UInt8)=Zao o:=by unfold Zao;rw [Ye];simpa using hc0
  refine Ya (rZ G (qf (oN (.cs kr)) trivial qz qZ) Z Q3 KN fun G=>(Yj (Zh ?_)))
  refine Zo hfr G rfl rfl rfl (.bs hg)
 have hk:Z1 o=true:=WV
 have hb:=ZdO hk
 have l1:=ZU (n:=o.key) ow
 have l2:=ZU (n:=o.tx) ow
 have l3:=ZU (n:=o.nth) ow
 refine Yf (Za (Ya (Ya (rZ G (qg 0 101 r1 r1 (qa 101 r1 r1 (qf (o_not .t) r1 qz qZ))) Z [9,2,1] KN fun G=>?_))))
 refine Zb G rfl (fun hc1=>?_) (fun hc1=>?_)
 ·have hg:[119] ++ textL o.key=Zao o:=by unfold Zao;rw [Yb Wx];rw [Ye Wg];rfl
  refine Ya (rZ G (qg 1 101 r1 r1 (qa 101 r1 r1 (qf (oP (Zb1 _) func65 (Args.one .t)) r1 qz (qf (ZD (.cs kr) .t Wy) r1 qz (qO rr qZ))))) Z Q3 KN fun G=>(Yj (Zh ?_)))
  refine Zo hfr G rfl rfl rfl (.bs hg)
 have hr:o.read=true:=Wg
 refine Yf (Za (Ya (Zv G (qg 1 101 r1 r1 (qa 101 r1 r1 (qf (oP (Zb1 _) func65 (Args.one .t)) r1 qz (qf (ZD (.cs kr) .t Wy) r1 qz (qf (ZD .t (.cs kr) Wy) r1 qz (qg 2 101 r1 r1 (qa 101 r1 r1 (qf (oP (Zb1 _) func65 (Args.one .t)) r1 qz (qf (ZD .t .t Wy) r2 qz (qO rr qZ)))))))))) Z Qa KN rfl rfl fun a w F G=>?_)))
 have G:=Xa
 refine Za (Ya (Ya (rZ G (qg 2 101 r1 r1 (qa 101 r1 r1 (qf (o_eql .t qi) r1 qz qZ))) Z [25,3,2,1] KN fun G=>?_)))
 refine Zb G rfl (fun hc2=>?_) (fun hc2=>?_)
 ·have hg:(([114] ++ textL o.key) ++ [64])++textL o.tx=Zao o:=by
   have ht:o.tx=0:=WA
   unfold Zao;rw [Yb Wx]
   rw [Yb Wz,Ye ht,ht,Zi4,Y1]
   rfl
  refine Ya (rZ G (qR rr (qO rr qZ)) Z Qa KN fun G=>(Yj (Zh ?_)))
  refine Zo hfr G rfl rfl rfl (.bs hg)
 have hg:((((([114] ++ textL o.key) ++ [64])++textL o.tx) ++ [46])++textL o.nth)=Zao o:=by unfold Zao;rw [Yb Wx];rw [Yb Wz,Yb WA];rfl
 refine Yf (Za (Ya (rZ G (qR rr (qf (ZD .t (.cs kr) Wy) r1 qz (qg 3 101 r1 r1 (qa 101 r1 r1 (qf (oP (Zb1 _) func65 (Args.one .t)) r1 qz (qf (ZD .t .t Wy) r2 qz (qO rr qZ))))))) Z [2] KN fun G=>Yj ?_)))
 refine Zo hfr G rfl rfl rfl (.bs hg)
theorem Zlq {o:OpD} : ZbE o=0 ↔ Z1 o=true:=by unfold ZbE;split <;> simp_all
theorem Zkr {o:OpD} (hk:Z1 o=true) (hr:o.read=false):Zao o=119 :: textL o.key:=by unfold Zao;rw [Yb (by rw [hk];decide),Ye hr]
theorem Zkb {o:OpD} (hk:Z1 o=true) (hr:o.read=true) (h:o.tx=0):Zao o=114 :: (textL o.key++64 :: textL 0):=by
 unfold Zao
 rw [Yb Wx,Yb Wz,Ye h,Zi4]
 simp
theorem ZmU {o:OpD} (hk:Z1 o=true) (hr:o.read=true) (h:o.tx≠0):Zao o=114 :: (textL o.key++64 :: (textL o.tx++46 :: textL o.nth)):=by
 unfold Zao
 rw [Yb Wx,Yb Wz,Yb h]
 simp
theorem ZiD {o:OpD} (hk:Z1 o=true):(Zao o).length≤100:=by
 have hb:=ZdO hk
 have l1:=ZU (n:=o.key) ow
 have l2:=ZU (n:=o.tx) ow
 have l3:=ZU (n:=o.nth) ow
 have l4:=ZU (n:=0) ow
 by_cases hr:o.read=true
 ·by_cases h:o.tx=0
  ·rw [Zkb hk hr h]
   simp only [Yh,Yc]
   omega
  ·rw [ZmU hk hr h]
   simp only [Yh,Yc]
   omega
 ·rw [Zkr hk (by simpa using hr)]
  simp only [Yh]
  omega
theorem Zs3 (t : TxD) (hl : t.ops.length ≤ 1000000) (p : OpD → Bool) (f : FuncId) (fn : Func) (cps : List PV) (hf : prog.funcs[f]? = some fn) (hb : fn.body.isSome = true) (hnn : (fn.name == "runtime.NumGoroutine") = false) (hw : ∀ x, FnP prog f (.agg (rOp x) :: cps) (.bool (p x))) : FnP prog 87 [.agg (rTx t), .clos f cps] (.sl Zq (ZcF ((t.ops.filter p).map OpD.key))) := by
 refine FnP.mk func87 rfl ntmps87 rfl fun B a w F Z hfr G=>Ya ?_
 refine rS G (qx 101 r1 (qC qZ)) Z QX KN fun τ G=>?_
 have G:=Xu
 generalize τ 2=v2 at G
 refine Za (Ya (rZ G (qC qZ) Z JC KN fun G=>(Ya (Ya ?_))))
 refine rZ G (qg 2 101 r1 r1 (qa 101 r1 r1 (qu YbZ r1 (qJ qZ)))) Z Q6 KN fun G=>Yi ?_
 replace G:=G.fresh 50 rfl
 replace G:=G.turn 50 rfl (Za6 (T:=3) (sz:=1) (R:=Zq))
 refine Zk (σ:=(Nat)×(Value)×(List Int)) [1,4,9,10] [0,101] (fun s=>[(11,.pv (.int .i64 (s.1:Int))),(5,.pv (.is s.2.1))]) (fun s=>[(50,.ob (.val s.2.1) (Zz 3 1 Zq s.2.2))]) (fun s=>s.1≤t.ops.length∧(s.2.2=(((t.ops.take s.1).filter p).map OpD.key))) (fun s=>t.ops.length - s.1) ((0),(.slice none 0 0),([])) G ⟨rfl,rfl,rfl,rfl,rfl,rfl,tv⟩ ⟨rfl,rfl,rfl,tv⟩ ⟨YA _,rfl⟩ ?_
 clear G;intro s a w F hC G
 obtain ⟨i,v,out⟩:=s
 have hC:=X4
 obtain ⟨F,G⟩:=G.nM Q6 Qo
 have G:=X3
 obtain ⟨hi,hq⟩:=hC
 have hol:out.length≤i:=Ks
 refine Ya (rZ G (qL r2) Z JD Qo fun G=>Ya ?_)
 refine Zb G rfl (fun hc0=>?_) (fun hc0=>?_)
 ·skip
  have hil:i<t.ops.length:=Wl
  refine Yf (Za (Ya (Yi (Ya (rS G (qy 4 YbZ r2 (qf (oR true 4 .t) r1 qz (qf (oH [.bool false,.int .i64 0,.int .i64 0,.int .i64 0] 102) trivial qz (qS 4 102 r2 r1 qZ)))) Z JN KV fun τ G=>?_)))))
  have G:=Xd
  generalize τ 7=v7 at G
  try simp only [Yg] at G
  refine Za (Ya (rZ G (qR rr (qe 4 102 r1 r1 (qf (Zab (avs:=[.agg (rOp (Nn t.ops i))]) .t (hw (Nn t.ops i)) hf hb hnn (Args.one (.pagg .t))) r2 qz qZ))) Z [17,11,10,9,7,5,4,1] KV fun G=>?_))
  refine Zb G rfl (fun hc1=>?_) (fun hc1=>?_)
  ·skip
   have hBq:p (Nn t.ops i)=true:=Wg
   refine rS G (qR rr (qg 1 102 r1 r1 (qa 102 r1 r1 (qf (Zj (sz:=1) (zs:=[.int .i64 0]) (r:=[(0,.tmp 20)]) (l:=[_]) YbY kr kr kr kr rfl rfl (.one rfl .t one_int kr .nil) rfl) r1 qz (qf (o_append (sz:=1) (bs:=8) 50 (.mk' YbY kr kr) Wh .is (.arr (l':=[(Nn t.ops i).key]) .t) WB XW) ⟨rfl,rfl,tv⟩ ⟨rfl,tv⟩ (qO rr qZ)))))) Z Q6 KV fun τ G=>?_
   have G:=Xd
   generalize τ 22=v22 at G
   refine Ze (Za (rZ G (qp r1 (qR rr qZ)) Z Q6 KV fun G=>?_))
   replace G:=G.eI 11 i
   obtain ⟨F,G⟩:=G.nM Jl G7
   exact ⟨((i+1),_,_),F,⟨ow,WC⟩,G,ow⟩
  have hBq:p (Nn t.ops i)=false:=Wg
  refine Yf (Ze (Za (rZ G (qp r1 (qR rr qZ)) Z Q6 KV fun G=>?_)))
  replace G:=G.eI 11 i
  obtain ⟨F,G⟩:=G.nM Jl G7
  exact ⟨((i+1),_,_),F,⟨ow,WC⟩,G,ow⟩
 have hil:i=t.ops.length:=Wl
 refine Yz (Zg (Zg (Zm (Za (Ya (rZ G (qR rr (qf (ZbF 50 (ZlA _ out ow) func75 rfl kr (Args.one .t)) r1 r1 qZ)) Z [5,4] Qo fun G=>Ya ?_))))))
 refine rS G (qR rr (qf (o_callRowN 50 (Zno _ _ (by rw [YbE];omega)) func130 rfl kr (Args.one .t) pvOne1) r1 r1 (qO rr qZ))) Z [4] Qo fun τ G=>?_
 try dsimp only [RS.sub,SF.sub,CF.sub,csub,Anc.sub,List.map,Zq,rOp,rTx] at G
 generalize τ 27=v27 at G
 refine Za (Yj ?_)
 obtain ⟨F,G⟩:=G.give 50 4 rfl rfl
 refine Zo hfr G rfl rfl rfl (.sl (by rw [Zd4,ZfD,hq,hil,YE]))
theorem Zir (l:List Int):(ZcF l).length≤l.length:=by
 have key:∀ (l acc:List Int),(l.foldl Zm1 acc).length≤acc.length+l.length:=fun l=>by
  induction l with
  | nil=>intro acc;simp
  | cons x l ih=>
   intro acc
   have h1:=ih (Zm1 acc x)
   have h2:(Zm1 acc x).length≤acc.length+1:=ZjL acc false
   rw [Yav,Yh];omega
 have:=key l []
 simpa [ZcF] using this
theorem Ent.fnClos {f:FuncId} : Ent (.pv (.is (.func (.func f) #[] #[]))) (.pv (.clos f [])):=fun τ w y v h=>⟨[],h.1,tv⟩
theorem Zuo (o:OpD):FnP prog 88 [.agg (rOp o)] (.bool (!o.read)):=by
 refine FnP.mk func88 rfl ntmps88 rfl fun B a w F Z hfr G=>Ya ?_
 refine rS G (qx 101 r1 qB) Z Q3 KN fun τ G=>?_
 try dsimp only [RS.sub,SF.sub,CF.sub,csub,Anc.sub,List.map,zCF,rOp] at G
 generalize τ 1=v1 at G
 refine Za (Ya (rZ G (qg 0 101 r1 r1 (qa 101 r1 r1 (qf (o_not .t) r1 qz (qO rr qZ)))) Z [2] [0] fun G=>Yj ?_))
 refine Zo hfr G rfl rfl rfl (.bool rfl)
theorem Zj3 (t:TxD) (hl:t.ops.length≤1000000):FnP prog 43 [.agg (rTx t)] (.sl Zq (ZcF ((t.ops.filter fun o=>!o.read).map OpD.key))):=by
 refine FnP.mk func43 rfl ntmps43 rfl fun B a w F Z hfr G=>Ya ?_
 refine rS G (qx 101 r1 (qC qZ)) Z Q3 KN fun τ G=>?_
 try dsimp only [RS.sub,SF.sub,CF.sub,csub,Anc.sub,List.map,zCF,rTx,Zq] at G
 generalize τ 1=v1 at G
 refine Za (Ya (rZ G (qe 3 101 r1 r1 (qf (oP (Zs3 t hl (fun o=>!o.read) 88 f88 [] func88 rfl kr (fun o=>Zuo o)) func87 (Args.two (.pagg .t) (.conv .f (Ent.fnClos)))) r1 qz (qO rr qZ))) Z [2] [0] fun G=>Yj ?_))
 refine Zo hfr G rfl rfl rfl (.sl rfl)
theorem Zf0 (t:TxD) (n:Int) (hl:t.ops.length≤1000000):FnP prog 51 [.agg (rTx t),.int .i64 n] (.int .i64 (((t.ops.filter fun o=>!o.read && decide (o.key=n)).length:Nat):Int)):=by
 refine FnP.mk func51 rfl ntmps51 rfl fun B a w F Z hfr G=>?_
 have hll:t.ops.length≤1000000:=hl
 refine Ya (rS G (qx 101 r1 (qI qZ)) Z QX KN fun τ G=>?_)
 have G:=Xu
 generalize τ 2=v2 at G
 refine Za (Ya (rZ G (qI qZ) Z JC KN fun G=>(Ya (Ya ?_))))
 refine rZ G (qg 2 101 r1 r1 (qa 101 r1 r1 (qu YbZ r1 (qJ qZ)))) Z Q6 [0] fun G=>Yi ?_
 refine Zk (σ:=(Nat)) [1,4,9,10] [0] (fun s=>[(11,.pv (.int .i64 (s:Int))),(5,.pv (.int .i64 ((((t.ops.take s).filter fun o=>!o.read && decide (o.key=n)).length:Nat):Int)))]) (fun s=>[]) (fun s=>s≤t.ops.length∧(True)) (fun s=>t.ops.length - s) (0) G ⟨rfl,rfl,rfl,rfl,rfl,rfl,tv⟩ ⟨rfl,tv⟩ ⟨YA _,tv⟩ ?_
 clear G;intro i a w F hC G
 have hC:=X4
 obtain ⟨F,G⟩:=G.nM Q6 [0]
 have G:=X3
 obtain ⟨hi,hq⟩:=hC
 refine Ya (rZ G (qL r2) Z JD [0] fun G=>Ya ?_)
 refine Zb G rfl (fun hc0=>?_) (fun hc0=>?_)
 ·have hil:i<t.ops.length:=Wl
  refine Yf (Za (Ya (Yi (Ya (rS G (qy 4 YbZ r2 (qf (oR true 4 .t) r1 qz (qf (oH [.bool false,.int .i64 0,.int .i64 0,.int .i64 0] 102) trivial qz (qS 4 102 r2 r1 qZ)))) Z JN QP fun τ G=>?_)))))
  have G:=Xd
  generalize τ 7=v7 at G
  try simp only [Yg] at G
  refine Za (Ya (rZ G (qg 0 102 r1 r1 (qa 102 r1 r1 (qf (o_not .t) r1 qz (qR rr (qv 1 102 rfl r2 r1 (qw 102 rfl r2 r1 (qm rfl rfl rfl rfl (qk rfl (fun h=>o_eql (.w h) (.w h)) r3 qz (qf (ZC .t .t) r2 qz qZ))))))))) Z [23,11,10,9,5,4,1] [0] fun G=>?_))
  refine Zb G rfl (fun hc1=>?_) (fun hc1=>?_)
  ·have hstp:((t.ops.take (i+1)).filter fun o=>!o.read && decide (o.key=n))=((t.ops.take i).filter fun o=>!o.read && decide (o.key=n))++(if (!(Nn t.ops i).read && decide ((Nn t.ops i).key=n))=true then [(Nn t.ops i)] else []):=Kn
   have hle:((t.ops.take i).filter fun o=>!o.read && decide (o.key=n)).length≤i:=Yaa (Yac _ _) Wm
   have hBq:(!(Nn t.ops i).read && decide ((Nn t.ops i).key=n))=true:=hc1
   have hcc:IntKind.wrap .i64 (((((t.ops.take i).filter fun o=>!o.read && decide (o.key=n)).length:Nat):Int)+1)=((((t.ops.take (i+1)).filter fun o=>!o.read && decide (o.key=n)).length:Nat):Int):=by rw [hstp,Ye hBq,Yc,wrap_i64 ow];simp
   refine Zc G (qR rr (qp r1 (qO rr qZ))) Z Q6 [0] rfl rfl fun a w F G=>Ze (Za ?_)
   refine rZ G (qp r1 (qR rr qZ)) Z Q6 [0] fun G=>?_
   replace G:=G.eI 11 i
   replace G:=G.ent (i:=5) (s':=.pv (.int .i64 ((((t.ops.take (i+1)).filter fun o=>!o.read && decide (o.key=n)).length:Nat):Int))) rfl (.int hcc)
   obtain ⟨F,G⟩:=G.nM Jl [0]
   exact ⟨(i+1),F,⟨ow,tv⟩,G,ow⟩
  have hstp:((t.ops.take (i+1)).filter fun o=>!o.read && decide (o.key=n))=((t.ops.take i).filter fun o=>!o.read && decide (o.key=n))++(if (!(Nn t.ops i).read && decide ((Nn t.ops i).key=n))=true then [(Nn t.ops i)] else []):=Kn
  have hle:((t.ops.take i).filter fun o=>!o.read && decide (o.key=n)).length≤i:=Yaa (Yac _ _) Wm
  have hBq:(!(Nn t.ops i).read && decide ((Nn t.ops i).key=n))=false:=hc1
  have hcc:((((t.ops.take i).filter fun o=>!o.read && decide (o.key=n)).length:Nat):Int)=((((t.ops.take (i+1)).filter fun o=>!o.read && decide (o.key=n)).length:Nat):Int):=by rw [hstp,Yb (by rw [hBq];simp),YQ]
  refine Yf (Ze (Za (rZ G (qp r1 (qR rr qZ)) Z Q6 [0] fun G=>?_)))
  replace G:=G.eI 11 i
  replace G:=G.ent (i:=5) (s':=.pv (.int .i64 ((((t.ops.take (i+1)).filter fun o=>!o.read && decide (o.key=n)).length:Nat):Int))) rfl (.int hcc)
  obtain ⟨F,G⟩:=G.nM Jl [0]
  exact ⟨(i+1),F,⟨ow,tv⟩,G,ow⟩
 have hil:i=t.ops.length:=Wl
 refine Yz (Zg (Zg (Zm (Za (Ya (rZ G (qR rr (qO rr qZ)) Z [4] [0] fun G=>Yj ?_))))))
 refine Zo hfr G rfl rfl rfl (.int (by rw [hil,YE]))
def wcnt (l:List OpD) (k:Int):Nat:=(l.filter fun o=>!o.read && decide (o.key=k)).length
theorem ZiX {l:List OpD} {i:Nat} (h:i<l.length) (k:Int):wcnt (l.take (i+1)) k=wcnt (l.take i) k+if (Nn l i).read=false∧(Nn l i).key=k then 1 else 0:=by
 unfold wcnt
 rw [Zy h,Yai,Yc]
 congr 1
 by_cases h1:(Nn l i).read=false∧(Nn l i).key=k
 ·rw [Ye h1];simp [h1.1,h1.2]
 ·rw [Yb h1]
  have:(!(Nn l i).read && decide ((Nn l i).key=k))=false:=by
   cases hr:(Nn l i).read with
   | true=>rfl
   | false=>simp;exact fun e=>h1 ⟨hr,e⟩
  simp [this]
theorem ZtG (l:List OpD) (i:Nat) (k:Int):wcnt (l.take i) k≤i:=Yaa (Yac _ _) (by rw [Yp];omega)
def Zax (id:Int):List OpD→List OpD→Int
 | _,[]=>0
 | s,o :: r=>if Z1 o=false then 1 else if o.read=true∧o.tx=id∧(wcnt s o.key:Int)<o.nth then 6 else Zax id (s ++ [o]) r
def ZaU (t:TxD):Int:=if ¬ (1≤t.id∧t.id≤1048575) then 1 else if 4095<t.ops.length then 9 else Zax t.id [] t.ops
theorem ZcN {id:Int} {l:List OpD} {i:Nat} (h:i<l.length):Zax id (l.take i) (l.drop i)=if Z1 (Nn l i)=false then 1 else if (Nn l i).read=true∧(Nn l i).tx=id∧(wcnt (l.take i) (Nn l i).key:Int)<(Nn l i).nth then 6 else Zax id (l.take (i+1)) (l.drop (i+1)):=by
 rw [Zqo h,Zax,Zy h]
theorem ZkF {id:Int} {l:List OpD} {i:Nat} (h:i=l.length):Zax id (l.take i) (l.drop i)=0:=by rw [h,List.drop_length];rfl
def Zei (id:Int) (o:OpD):Bool:=(o.read && !decide (o.tx=0)) && !decide (o.tx=id)
def ZaL (id:Int) (out:List Zaz) (o:OpD):List Zaz:=if Zei id o=true∧ofO o ∉ out then out ++ [ofO o] else out
def ZcY (id:Int) (l:List OpD):List Zaz:=l.foldl (ZaL id) []
def Zjj (t:TxD):List Zaz:=ZcY t.id t.ops
theorem ZkC {id:Int} {l:List OpD} {i:Nat} (h:i<l.length):ZcY id (l.take (i+1))=ZaL id (ZcY id (l.take i)) (Nn l i):=by
 unfold ZcY
 rw [Zy h,Ya2]
 rfl
theorem Zjq (id:Int) (out:List Zaz) (o:OpD):(ZaL id out o).length≤out.length+1:=by
 unfold ZaL
 split <;> simp
theorem Zmf (id:Int) (l:List OpD) (i:Nat):(ZcY id (l.take i)).length≤i:=by
 have key:∀ (l:List OpD) (out:List Zaz),(l.foldl (ZaL id) out).length≤out.length+l.length:=by
  intro l
  induction l with
  | nil=>intro out;simp
  | cons x l ih=>
   intro out
   have h1:=ih (ZaL id out x)
   have h2:=Zjq id out x
   rw [Yav,Yh];omega
 have:=key (l.take i) []
 rw [Yp] at this
 unfold ZcY
 simp at this ⊢
 omega
structure Za8 where
 key:Int
 nth:Int
 deriving DecidableEq,Inhabited
def Zbf (p:Za8):List Int:=[p.key,p.nth]
def ZcZ (v:Zaz):List Int:=[v.tx,v.key,v.nth]
def Zck (es:List (GE Za8 Int)) (s:List OpD):Prop:=∀ k n,0≤n→(gGet (⟨k,n⟩:Za8) es).getD 0=if n=0 then (wcnt s k:Int) else if n≤wcnt s k then 1 else 0
theorem Zo7:Zck [] []:=fun k n h=>by
 show (0:Int)=_
 have:wcnt [] k=0:=rfl
 rw [this]
 split
 ·rfl
 ·rw [Yb XT]
theorem Znh {es:List (GE Za8 Int)} {l:List OpD} {i:Nat} (h:Zck es (l.take i)) (hi:i<l.length) (hr:(Nn l i).read=true):Zck es (l.take (i+1)):=fun k n hn=>by
 rw [h k n hn,ZiX hi,Yb (c:=(Nn l i).read=false∧(Nn l i).key=k) WD,Ybg]
theorem Zpg {es es2:List (GE Za8 Int)} {l:List OpD} {i:Nat} {c:Int} (h:Zck es (l.take i)) (hi:i<l.length) (hr:(Nn l i).read=false) (hc:c=(wcnt (l.take i) (Nn l i).key:Int)+1)
  (he:∀ p,(gGet p es2).getD 0=if p = ⟨(Nn l i).key,c⟩ then 1 else if p = ⟨(Nn l i).key,0⟩ then c else (gGet p es).getD 0):Zck es2 (l.take (i+1)):=fun k n hn=>by
 have hk:=h k n hn
 rw [he,hk,ZiX hi]
 by_cases e:(Nn l i).key=k
 ·rw [Ye (c:=(Nn l i).read=false∧_) ⟨hr,e⟩]
  rw [e] at hc
  rw [e]
  by_cases e2:n=c
  ·subst e2
   rw [Ye rfl,Yb ow,Ye ow]
  ·rw [Yb (by simp [e2])]
   by_cases e3:n=0
   ·subst e3
    rw [Ye rfl,Ye rfl,hc];simp
   ·rw [Yb (by simp [e3]),Yb e3,Yb e3]
    by_cases e4:n≤(wcnt (l.take i) k:Int)
    ·rw [Ye e4,Ye ow]
    ·rw [Yb e4,Yb ow]
 ·rw [Yb (c:=(Nn l i).read=false∧_) (by simp [e]),Ybg,Yb (by simp;exact fun h=>absurd h.symm e),Yb (by simp;exact fun h=>absurd h.symm e)]
def ZdT (es:List (GE Zaz Int)) (i:Nat) (out:List Zaz):Prop:=∀ v,0≤(gGet v es).getD 0∧(gGet v es).getD 0≤i∧(0<(gGet v es).getD 0 ↔ v ∈ out)
theorem Zql:ZdT [] 0 []:=fun v=>⟨Yar _,Yar _,by show (0:Int)<0 ↔ _;simp⟩
theorem Zsa {es:List (GE Zaz Int)} {i:Nat} {out:List Zaz} (h:ZdT es i out):ZdT es (i+1) out:=fun v=>⟨(h v).1,by have:=(h v).2.1;omega,(h v).2.2⟩
theorem ZqU {es es2:List (GE Zaz Int)} {i:Nat} {out:List Zaz} {v:Zaz} (h:ZdT es i out) (he:∀ u,(gGet u es2).getD 0=if u=v then (gGet v es).getD 0+1 else (gGet u es).getD 0):ZdT es2 (i+1) (if v ∈ out then out else out ++ [v]):=fun u=>by
 have h1:=h u
 have h2:=h v
 rw [he u]
 by_cases e:u=v
 ·subst e
  rw [Ye rfl]
  refine ⟨ow,ow,?_⟩
  constructor
  ·intro _;split <;> simp_all
  ·intro _;omega
 ·rw [Yb e]
  refine ⟨ow,ow,?_⟩
  rw [h1.2.2]
  split
  ·rfl
  ·simp [e]
theorem Zhe {κ:Type} [DecidableEq κ] {k p:κ} {x:Int} (s:List (GE κ Int)×Nat):(gGet p (gSet k x (gEns 0 k s).1)).getD 0=if p=k then x else (gGet p s.1).getD 0:=by
 rw [ZcM];split <;> rfl
theorem Zrj {κ:Type} [DecidableEq κ] {k p:κ} {x:Int} (s:List (GE κ Int)×Nat):(gGet p (gPut k x s).1).getD 0=if p=k then x else (gGet p s.1).getD 0:=by
 rw [ZaQ];split <;> rfl
theorem Zfv:ZjP prog 135 (fun k=>∀ x ∈ Zbf k,inR .i64 x) (kvS Zbf):=Zc9 (n:=2) (fun _=>rfl) (fun a b h=>by cases a;cases b;simpa [Zbf] using h) kr
theorem ZoX:ZjP prog 62 (fun k=>∀ x ∈ ZcZ k,inR .i64 x) (kvS ZcZ):=Zc9 (n:=3) (fun _=>rfl) (fun a b h=>by cases a;cases b;simpa [ZcZ] using h) kr
theorem Zjr {es:List (GE Za8 Int)} {s:List OpD} {o:OpD} {id:Int} (h:Zck es s) (hk:Z1 o=true) (hr:o.read=true) (hid:1≤id):(o.tx=id∧(gGet (⟨o.key,o.nth⟩:Za8) es).getD 0=0) ↔ (o.read=true∧o.tx=id∧(wcnt s o.key:Int)<o.nth):=by
 have hb:=ZdO hk
 have h1:=h o.key o.nth ow
 constructor
 ·rintro ⟨e1,e2⟩
  refine ⟨hr,e1,?_⟩
  have hn:1≤o.nth:=by
   rw [Zd6 hr] at hk
   unfold ofO at hk
   rw [Ye hr] at hk
   unfold ZaT at hk
   rw [Yb (show ¬ o.tx=0 by omega)] at hk
   simp at hk
   omega
  rw [e2,Yb ow] at h1
  split at h1
  ·cases h1
  ·omega
 ·rintro ⟨_,e1,e2⟩
  refine ⟨e1,?_⟩
  rw [h1,Yb ow,Yb ow]
theorem Zpd (t:TxD):FnP prog 27 [.agg (rTx t)] (.int .i64 (ZaU t)):=by
 refine FnP.mk func27 rfl ntmps27 rfl fun B a w F Z hfr G=>Ya ?_
 refine rS G (qx 101 r1 (qI qZ)) Z Q3 KN fun τ G=>?_
 have G:=Xu
 generalize τ 1=v1 at G
 refine Za (Ya (Yi (Ya (rZ G (qg 0 101 r1 r1 (qa 101 r1 r1 (qf (Zbb .t qi) r1 qz (qR rr (qv 0 101 rfl r2 r1 (qw 101 rfl r2 r1 (qk rfl (fun h=>Zad (.w h) qi) r2 qz (qf (Zaq .t .t) r2 qz (qO rr qZ))))))))) Z [7,2,1] KN fun G=>?_))))
 refine Zb G rfl (fun hc0=>?_) (fun hc0=>?_)
 ·have hg:1=ZaU t:=by unfold ZaU;rw [Ye Wl]
  refine Ya (rZ G (qI qZ) Z Q3 KN fun G=>(Yj (Zn (Zh ?_))))
  refine Zo hfr G rfl rfl rfl (.int hg)
 have hid:1≤t.id∧t.id≤1048575:=Wl
 refine Ya (rZ G (qg 2 101 r1 r1 (qa 101 r1 r1 (qu YbZ r1 (qf (Zad .t qi) r1 qz (qO rr qZ))))) Z [16,2,1] KN fun G=>?_)
 refine Zb G rfl (fun hc1=>?_) (fun hc1=>?_)
 ·have hg:9=ZaU t:=by unfold ZaU;rw [Yb ow,Ye WE]
  refine Ya (rZ G (qI qZ) Z Q3 KN fun G=>(Yj (Zn (Zh ?_))))
  refine Zo hfr G rfl rfl rfl (.int hg)
 have hlen:t.ops.length≤4095:=WE
 have hT:ZaU t=Zax t.id [] t.ops:=by unfold ZaU;rw [Yb ow,Yb ow]
 refine Yf (Ze (Za (Ya (rS G (qf (Z8 (ek:=(fun n:Int=>PV.int .i64 n)) (ok:=(fun k=>∀ x ∈ Zbf k,inR .i64 x)) (kv:=(kvS Zbf)) 102) trivial qz (qO rr qZ)) Z Qa KP fun τ G=>?_))))
 try dsimp only [RS.sub,SF.sub,CF.sub,csub,Anc.sub,List.map,Zd,xL,xM,Nat.reduceAdd,xD,xE,xT,xU,xC,xN,zCF,Zq,rOp,rTx] at G
 generalize τ 21=v21 at G
 refine Za (Ya (Ya (rZ G (qg 2 101 r1 r1 (qa 101 r1 r1 (qu YbZ r1 (qJ qZ)))) Z QW KP fun G=>Yi ?_)))
 refine Zk (σ:=(Nat)×(List (GE Za8 Int))×(Nat)) [1,2,3,23,24] [0,101] (fun s=>[(25,.pv (.int .i64 (s.1:Int)))]) (fun s=>[(102,.ob (.val v21) (mapG (fun n:Int=>PV.int .i64 n) (fun k=>∀ x ∈ Zbf k,inR .i64 x) (kvS Zbf) s.2.1 s.2.2))]) (fun s=>s.1≤t.ops.length∧(Zax t.id [] t.ops=Zax t.id (t.ops.take s.1) (t.ops.drop s.1)∧Zck s.2.1 (t.ops.take s.1))) (fun s=>t.ops.length - s.1) ((0),([]),(0)) G ⟨rfl,rfl,rfl,rfl,rfl,rfl,tv⟩ ⟨rfl,rfl,rfl,tv⟩ ⟨YA _,⟨rfl,Zo7⟩⟩ ?_
 clear G;intro s a w F hC G
 obtain ⟨i,es,ck⟩:=s
 have hC:=X4
 obtain ⟨F,G⟩:=G.nM QW KP
 have G:=X3
 obtain ⟨hi,hq⟩:=hC
 obtain ⟨hrt,hsp⟩:=hq
 have hwl:=fun k=>ZtG t.ops i k
 refine Ya (rZ G (qL r2) Z [26,25,24,23,3,2,1] KP fun G=>Ya ?_)
 refine Zb G rfl (fun hc2=>?_) (fun hc2=>?_)
 ·have hil:i<t.ops.length:=Kj
  refine Yf (Za (Ya (Yi (Ya (rS G (qy 4 YbZ r2 (qf (oR true 4 .t) r1 qz (qf (oH [.bool false,.int .i64 0,.int .i64 0,.int .i64 0] 103) trivial qz (qS 4 103 r2 r1 qZ)))) Z J0 KO fun τ G=>?_)))))
  have G:=Xd
  generalize τ 5=v5 at G
  try simp only [Yg] at G
  refine Za (Ya (Ya (rZ G (qe 4 103 r1 r1 (qf (oP (ZfL (Nn t.ops i)) func69 (Args.one (.pagg .t))) r1 qz (qO rr qZ))) Z [25,24,23,6,5,3,2,1] KO fun G=>Ya ?_)))
  refine rZ G (qR rr (qf (o_neq .t qi) r1 qz qZ)) Z [32,25,24,23,6,5,3,2,1] KO fun G=>?_
  refine Zb G rfl (fun hc3=>?_) (fun hc3=>?_)
  ·have hk:Z1 (Nn t.ops i)=false:=by unfold ZbE at hc3;simpa using hc3
   have hg:ZbE (Nn t.ops i)=ZaU t:=by rw [hT,hrt,ZcN hil,Ye hk];unfold ZbE;rw [hk];rfl
   refine Ya (rZ G (qR rr (qO rr qZ)) Z J0 KO fun G=>(Yj (Zh (Zn (Zh (Zh (Zn (Zh ?_))))))))
   refine Zo hfr G rfl rfl rfl (.int hg)
  have hk:Z1 (Nn t.ops i)=true:=by unfold ZbE at hc3;simpa using hc3
  refine Yf (Za (Ya (Ya (rZ G (qg 0 103 r1 r1 (qa 103 r1 r1 (qf (o_not .t) r1 qz qZ))) Z [36,25,24,23,5,3,2,1] KO fun G=>?_))))
  refine Zb G rfl (fun hc4=>?_) (fun hc4=>?_)
  ·have hr:(Nn t.ops i).read=false:=KL
   have hm0:=hsp (Nn t.ops i).key 0 (Yar _)
   rw [Ye rfl] at hm0
   have hwc:IntKind.wrap .i64 (((gGet (⟨(Nn t.ops i).key,0⟩:Za8) es).getD 0)+1)=(wcnt (t.ops.take i) (Nn t.ops i).key:Int)+1:=by rw [hm0];exact wrap_i64 (by have:=hwl (Nn t.ops i).key;omega)
   refine Ya ?_
   replace G:=G.turnZ 102 (0) (⟨(Nn t.ops i).key,0⟩:Za8) rfl
   refine ZaZ 102 8 (m1:=1) (m2:=2) kr G kr (qR rr (qg 1 103 r1 r1 (qa 103 r1 r1 (qf (oB [(0,.tmp 39),(1,_)] [.int .i64 0,.int .i64 0] [(0,1),(1,1)] (.one rfl .t one_int kr (.one rfl qi one_int kr .nil))) r1 qz (qf (ZbX (ek:=(fun n:Int=>PV.int .i64 n)) (z0:=(0)) 102 underlying132 Zfv kr (fun _ _=>⟨rfl,Zc5⟩) .is (Zw.agg (enc:=Zbf) (k:=(⟨(Nn t.ops i).key,0⟩:Za8)) (.pagg .t) rfl)) r2 r1 (qp r1 (qf (ZaW (ek:=(fun n:Int=>PV.int .i64 n)) (z0:=(0)) 102 underlying132 Zfv kr (fun _ _=>⟨rfl,Zc5⟩) .is (Zw.agg (enc:=Zbf) (k:=(⟨(Nn t.ops i).key,0⟩:Za8)) (.pagg .t) rfl) WF) r2 r1 (qf (Zs .t rfl) r1 qz (qf (ZaC 102 (ZbA _ _ _) .is .t .t) r3 r1 qZ))))))))) kr kr kr rfl rfl rfl (fun _ _ _ _ h=>.inr h) WG fun a w F G=>?_
   obtain ⟨F,G⟩:=G.nM J0 KO
   have G:=XF
   obtain ⟨es1,he1⟩:∃ z,z=gSet (⟨(Nn t.ops i).key,0⟩:Za8) (IntKind.wrap .i64 (((gGet (⟨(Nn t.ops i).key,0⟩:Za8) es).getD 0)+1)) (gEns 0 (⟨(Nn t.ops i).key,0⟩:Za8) (es,ck)).1:=⟨_,rfl⟩
   obtain ⟨ck1,hc1⟩:∃ z,z=(gEns 0 (⟨(Nn t.ops i).key,0⟩:Za8) (es,ck)).2:=⟨_,rfl⟩
   rw [← he1,← hc1] at G
   refine Za (Ya (Zv G (qR rr (qg 1 103 r1 r1 (qa 103 r1 r1 (qR rr (qg 1 103 r1 r1 (qa 103 r1 r1 (qf (oB [(0,.tmp 50),(1,_)] [.int .i64 0,.int .i64 0] [(0,1),(1,1)] (.one rfl .t one_int kr (.one rfl qi one_int kr .nil))) r1 qz (qf (ZR (ek:=(fun n:Int=>PV.int .i64 n)) (z0:=(0)) 102 underlying132 Zfv kr (fun _ _=>⟨rfl,Zc5⟩) .is (Zw.agg (enc:=Zbf) (k:=(⟨(Nn t.ops i).key,0⟩:Za8)) (.pagg .t) rfl)) r2 r1 (qf (oB [(0,.tmp 47),(1,.tmp 52)] [.int .i64 0,.int .i64 0] [(0,1),(1,1)] (.one rfl .t one_int kr (.one rfl .t one_int kr .nil))) r2 qz (qf (o_mapUpdateG (ek:=(fun n:Int=>PV.int .i64 n)) 102 underlying132 Zfv .is (Zw.agg (enc:=Zbf) (k:=(⟨(Nn t.ops i).key,(gGet (⟨(Nn t.ops i).key,0⟩:Za8) es1).getD 0⟩:Za8)) (.pagg .t) rfl) qi) r2 r1 qZ)))))))))) Z J0 KO rfl rfl fun a w F G=>?_))
   have G:=XF
   have hv1:∀ p,(gGet p es1).getD 0=if p=(⟨(Nn t.ops i).key,0⟩:Za8) then (wcnt (t.ops.take i) (Nn t.ops i).key:Int)+1 else (gGet p es).getD 0:=fun p=>by rw [he1,Zhe,hwc]
   obtain ⟨es2,he2⟩:∃ z,z=(gPut (⟨(Nn t.ops i).key,(gGet (⟨(Nn t.ops i).key,0⟩:Za8) es1).getD 0⟩:Za8) 1 (es1,ck1)).1:=⟨_,rfl⟩
   obtain ⟨ck2,hc2⟩:∃ z,z=(gPut (⟨(Nn t.ops i).key,(gGet (⟨(Nn t.ops i).key,0⟩:Za8) es1).getD 0⟩:Za8) 1 (es1,ck1)).2:=⟨_,rfl⟩
   rw [← he2,← hc2] at G
   have hR2:Zax t.id [] t.ops=Zax t.id (t.ops.take (i+1)) (t.ops.drop (i+1))∧Zck es2 (t.ops.take (i+1)):=⟨by rw [hrt,ZcN hil,Yb Wx,Yb (by rw [hr];simp)],Zpg hsp hil hr rfl (fun p=>by rw [he2,Zrj];dsimp only;rw [hv1,hv1,Ye rfl])⟩
   refine Za (Yz (Zg (Zm (Za (rZ G (qp r1 (qR rr qZ)) Z QW KO fun G=>?_)))))
   replace G:=G.eI 25 i
   obtain ⟨F,G⟩:=G.nM [24,23,3,2,1,25] [101,0,102]
   exact ⟨((i+1),(es2),(ck2)),F,⟨ow,hR2⟩,G,ow⟩
  have hr:(Nn t.ops i).read=true:=KL
  refine Yf (Za (Ya (rZ G (qg 2 103 r1 r1 (qa 103 r1 r1 (qg 0 101 r1 r1 (qa 101 r1 r1 (qf (o_eql .t .t) r2 qz (qR rr (qm rfl rfl rfl rfl (qv 1 103 rfl r2 r1 (qw 103 rfl r2 r1 (qv 3 103 rfl r2 r1 (qw 103 rfl r2 r1 (qk rfl (fun h=>Zpm (r:=[(0,.tmp 62),(1,.tmp 64)]) (zs:=[.int .i64 0,.int .i64 0]) (pl:=[(0,1),(1,1)]) kr kr (.one rfl (.w h) one_int kr (.one rfl (.w h) one_int kr .nil)) XV) r3 qz (qk rfl (fun h=>ZR (ek:=(fun n:Int=>PV.int .i64 n)) (z0:=(0)) 102 underlying132 Zfv kr (fun _ _=>⟨rfl,Zc5⟩) (.w h .is) (Zw.agg (enc:=Zbf) (k:=(⟨(Nn t.ops i).key,(Nn t.ops i).nth⟩:Za8)) (.pagg (.w h)) rfl)) r3 r1 (qk rfl (fun h=>o_eql (.w h) qi) r2 qz (qf (ZC .t .t) r2 qz qZ))))))))))))))) Z [68,25,24,23,3,2,1] KO fun G=>?_)))
  refine Zb G rfl (fun hc5=>?_) (fun hc5=>?_)
  ·have hg:6=ZaU t:=by rw [hT,hrt,ZcN hil,Yb Wx,Ye ((Zjr hsp hk hr hid.1).1 (by simpa using hc5))]
   refine Ya (rZ G (qI qZ) Z QW KO fun G=>(Yj (Zn (Zh (Zh (Zn (Zh ?_)))))))
   refine Zo hfr G rfl rfl rfl (.int hg)
  have hno:=fun h9=>(by simpa using hc5:¬ ((Nn t.ops i).tx=t.id∧(gGet (⟨(Nn t.ops i).key,(Nn t.ops i).nth⟩:Za8) es).getD 0=0)) ((Zjr hsp hk hr hid.1).2 h9)
  obtain ⟨es2,he2⟩:∃ z,z=es:=⟨_,rfl⟩
  obtain ⟨ck2,hc2⟩:∃ z,z=ck:=⟨_,rfl⟩
  have hR2:Zax t.id [] t.ops=Zax t.id (t.ops.take (i+1)) (t.ops.drop (i+1))∧Zck es2 (t.ops.take (i+1)):=⟨by rw [hrt,ZcN hil,Yb Wx,Yb hno],by rw [he2];exact Znh hsp hil hr⟩
  rw [← he2,← hc2] at G
  refine Yf (Ze (Za (rZ G (qp r1 (qR rr qZ)) Z QW KO fun G=>?_)))
  replace G:=G.eI 25 i
  obtain ⟨F,G⟩:=G.nM [24,23,3,2,1,25] [101,0,102]
  exact ⟨((i+1),(es2),(ck2)),F,⟨ow,hR2⟩,G,ow⟩
 have hil:i=t.ops.length:=Kj
 have hg:0=ZaU t:=by rw [hT,hrt,ZkF hil]
 refine Yz (Zg (Zg (Zm (Za (Ya (rZ G (qI qZ) Z [2] KP fun G=>Yj ?_))))))
 refine Zo hfr G rfl rfl rfl (.int hg)
theorem ZnK (t:TxD) (hl:t.ops.length≤1000000):FnP prog 71 [.agg (rTx t)] (.sl ZJ (Zjj t)):=by
 refine FnP.mk func71 rfl ntmps71 rfl fun B a w F Z hfr G=>Ya ?_
 refine rS G (qx 101 r1 (qC qZ)) Z Q3 KN fun τ G=>?_
 try dsimp only [RS.sub,SF.sub,CF.sub,csub,Anc.sub,List.map,zCF,Zq,rOp,rTx,ZJ] at G
 generalize τ 1=v1 at G
 refine Za (Ya (rZ G (qC qZ) Z Qa KN fun G=>Ya ?_))
 refine rS G (qf (Z8 (ek:=(fun n:Int=>PV.int .i64 n)) (ok:=(fun k=>∀ x ∈ ZcZ k,inR .i64 x)) (kv:=(kvS ZcZ)) 102) trivial qz (qO rr qZ)) Z Ge KP fun τ G=>?_
 try dsimp only [RS.sub,SF.sub,CF.sub,csub,Anc.sub,List.map,Zd,xL,xM,Nat.reduceAdd,xD,xE,xT,xU,xC,xN,zCF,Zq,rOp,rTx,ZJ] at G
 generalize τ 8=v8 at G
 refine Za (Ya (Ya (rZ G (qg 2 101 r1 r1 (qa 101 r1 r1 (qu YbZ r1 (qJ qZ)))) Z QB KP fun G=>Yi ?_)))
 replace G:=G.fresh 50 rfl
 replace G:=G.turn 50 rfl (Za6 (T:=62) (sz:=3) (R:=ZJ))
 refine Zk (σ:=(Nat)×(List (GE Zaz Int))×(Nat)×(Value)×(List Zaz)) [1,2,4,10,11] [0,101] (fun s=>[(12,.pv (.int .i64 (s.1:Int))),(3,.pv (.is s.2.2.2.1))]) (fun s=>[(102,.ob (.val v8) (mapG (fun n:Int=>PV.int .i64 n) (fun k=>∀ x ∈ ZcZ k,inR .i64 x) (kvS ZcZ) s.2.1 s.2.2.1)),(50,.ob (.val s.2.2.2.1) (Zz 62 3 ZJ s.2.2.2.2))]) (fun s=>s.1≤t.ops.length∧(s.2.2.2.2=ZcY t.id (t.ops.take s.1)∧ZdT s.2.1 s.1 s.2.2.2.2)) (fun s=>t.ops.length - s.1) ((0),([]),(0),(.slice none 0 0),([])) G ⟨rfl,rfl,rfl,rfl,rfl,rfl,rfl,tv⟩ ⟨rfl,rfl,rfl,rfl,tv⟩ ⟨YA _,⟨rfl,Zql⟩⟩ ?_
 clear G;intro s a w F hC G
 obtain ⟨i,es,ck,v,out⟩:=s
 have hC:=X4
 obtain ⟨F,G⟩:=G.nM QB KV
 have G:=X3
 obtain ⟨hi,hq⟩:=hC
 obtain ⟨hou,hvi⟩:=hq
 have hol:out.length≤i:=by rw [hou];exact Zmf _ _ _
 have hst:=fun hil:i<t.ops.length=>ZkC (id:=t.id) hil
 refine Ya (rZ G (qL r2) Z [13,12,11,10,4,3,2,1] KV fun G=>Ya ?_)
 refine Zb G rfl (fun hc0=>?_) (fun hc0=>?_)
 ·have hil:i<t.ops.length:=Wl
  refine Yf (Za (Ya (Yi (Ya (rS G (qy 4 YbZ r2 (qf (oR true 4 .t) r1 qz (qf (oH [.bool false,.int .i64 0,.int .i64 0,.int .i64 0] 103) trivial qz (qS 4 103 r2 r1 qZ)))) Z [12,11,10,6,4,3,2,1] Qc fun τ G=>?_)))))
  have G:=Xg
  generalize τ 6=v6 at G
  try simp only [Yg] at G
  refine Za (Ya (rS G (qe 4 103 r1 r1 (qf (oP (Zjg (Nn t.ops i)) func86 (Args.one (.pagg .t))) r1 qz (qf (oH [.int .i64 0,.int .i64 0,.int .i64 0] 104) trivial qz (qf (oA 3 104 .same (.conv .t .agg)) r2 r1 qZ)))) Z [12,11,10,7,6,4,3,2,1] QS fun τ G=>?_))
  have G:=Xg
  generalize τ 7=v7 at G
  refine Za (Ya (Ya (rZ G (qg 0 103 r1 r1 (qa 103 r1 r1 (qf (o_not .t) r1 qz (qR rr (qv 0 104 rfl r2 r1 (qw 104 rfl r2 r1 (qk rfl (fun h=>o_eql (.w h) qi) r2 qz (qf (Zaq .t .t) r2 qz (qR rr (qv 0 104 rfl r2 r1 (qw 104 rfl r2 r1 (qv 0 101 rfl r2 r1 (qw 101 rfl r2 r1 (qk rfl (fun h=>o_eql (.w h) (.w h)) r3 qz (qf (Zaq .t .t) r2 qz qZ))))))))))))))) Z [32,12,11,10,7,4,3,2,1] QS fun G=>?_)))
  refine Zb G rfl (fun hc1=>?_) (fun hc1=>?_)
  ·have hno:Zei t.id (Nn t.ops i)=false:=by unfold Zei;unfold ofO at hc1;cases hr:(Nn t.ops i).read <;> simp [hr] at hc1 ⊢;omega
   obtain ⟨es2,he2⟩:∃ z,z=es:=⟨_,rfl⟩
   obtain ⟨ck2,hc2⟩:∃ z,z=ck:=⟨_,rfl⟩
   obtain ⟨out2,ho2⟩:∃ z,z=out:=⟨_,rfl⟩
   have hR2:out2=ZcY t.id (t.ops.take (i+1))∧ZdT es2 (i+1) out2:=⟨by rw [ho2,hou,hst hil];unfold ZaL;rw [Yb WH],by rw [he2,ho2];exact Zsa hvi⟩
   rw [← he2,← hc2,← ho2] at G
   refine Yz (Zg (Zm (Za (rZ G (qp r1 (qR rr qZ)) Z QB Qc fun G=>?_))))
   replace G:=G.eI 12 i
   obtain ⟨F,G⟩:=G.nM JE J6
   exact ⟨((i+1),(es2),(ck2),_,(out2)),F,⟨ow,hR2⟩,G,ow⟩
  have hyes:Zei t.id (Nn t.ops i)=true:=by unfold Zei;unfold ofO at hc1;cases hr:(Nn t.ops i).read <;> simp [hr] at hc1 ⊢;exact hc1
  have hvr:=hvi (ofO (Nn t.ops i))
  have hw1:IntKind.wrap .i64 (((gGet (ofO (Nn t.ops i)) es).getD 0)+1)=((gGet (ofO (Nn t.ops i)) es).getD 0)+1:=wrap_i64 (by have:=Sat.lenSl G (i:=10) rfl;omega)
  refine Yf (Za (Ya ?_))
  replace G:=G.turnZ 102 (0) (ofO (Nn t.ops i)) rfl
  refine ZaZ 102 6 (m1:=1) (m2:=2) kr G kr (qR rr (qe 3 104 r1 r1 (qf (ZbX (ek:=(fun n:Int=>PV.int .i64 n)) (z0:=(0)) 102 underlying196 ZoX kr (fun _ _=>⟨rfl,Zc5⟩) .is (Zw.agg (enc:=ZcZ) (k:=(ofO (Nn t.ops i))) (.pagg .t) rfl)) r2 r1 (qp r1 (qf (ZaW (ek:=(fun n:Int=>PV.int .i64 n)) (z0:=(0)) 102 underlying196 ZoX kr (fun _ _=>⟨rfl,Zc5⟩) .is (Zw.agg (enc:=ZcZ) (k:=(ofO (Nn t.ops i))) (.pagg .t) rfl) WF) r2 r1 (qf (Zs .t rfl) r1 qz (qf (ZaC 102 (ZbA _ _ _) .is .t .t) r3 r1 qZ))))))) kr kr kr rfl rfl rfl (fun _ _ _ _ h=>.inr h) WG fun a w F G=>?_
  obtain ⟨F,G⟩:=G.nM [12,11,10,7,4,3,2,1] QS
  try dsimp only [List.map,xD,xE,xT,xU,ldSF,Zq,rOp,rTx,ZJ] at G
  obtain ⟨es2,he2⟩:∃ z,z=gSet (ofO (Nn t.ops i)) (IntKind.wrap .i64 (((gGet (ofO (Nn t.ops i)) es).getD 0)+1)) (gEns 0 (ofO (Nn t.ops i)) (es,ck)).1:=⟨_,rfl⟩
  obtain ⟨ck2,hc2⟩:∃ z,z=(gEns 0 (ofO (Nn t.ops i)) (es,ck)).2:=⟨_,rfl⟩
  rw [← he2,← hc2] at G
  have hvv:∀ u,(gGet u es2).getD 0=if u=(ofO (Nn t.ops i)) then ((gGet (ofO (Nn t.ops i)) es).getD 0)+1 else (gGet u es).getD 0:=fun u=>by rw [he2,Zhe,hw1]
  have hmv:(gGet (ofO (Nn t.ops i)) es2).getD 0=((gGet (ofO (Nn t.ops i)) es).getD 0)+1:=by rw [hvv,Ye rfl]
  have hvs:=ZqU hvi hvv
  refine Za (Ya (rZ G (qR rr (qe 3 104 r1 r1 (qf (ZR (ek:=(fun n:Int=>PV.int .i64 n)) (z0:=(0)) 102 underlying196 ZoX kr (fun _ _=>⟨rfl,Zc5⟩) .is (Zw.agg (enc:=ZcZ) (k:=(ofO (Nn t.ops i))) (.pagg .t) rfl)) r2 r1 (qf (o_eql .t qi) r1 qz qZ)))) Z [42,12,11,10,7,4,3,2,1] QS fun G=>?_))
  refine Zb G rfl (fun hc2=>?_) (fun hc2=>?_)
  ·have hnm:(ofO (Nn t.ops i)) ∉ out:=KA
   obtain ⟨out2,ho2⟩:∃ z,z=out ++ [(ofO (Nn t.ops i))]:=⟨_,rfl⟩
   have hR2:out2=ZcY t.id (t.ops.take (i+1))∧ZdT es2 (i+1) out2:=⟨by rw [ho2,hst hil];unfold ZaL;rw [Ye ⟨hyes,by rw [← hou];exact hnm⟩,← hou],by have:=hvs;rw [Yb hnm] at this;rw [ho2];exact this⟩
   refine rS G (qR rr (qe 3 104 r1 r1 (qf (Zj (sz:=3) (zs:=[.int .i64 0,.int .i64 0,.int .i64 0]) (r:=[(0,.tmp 44)]) (l:=[_,_,_]) underlying137 kr kr kr kr rfl rfl (.agg rfl .t kr kr .nil) rfl) r1 qz (qf (o_append (sz:=3) (bs:=24) 50 (.mk' underlying137 kr kr) Wh .is (.arr (l':=[_]) .t) WB XW) ⟨rfl,rfl,tv⟩ ⟨rfl,tv⟩ (qO rr qZ))))) Z QB Qc fun τ G=>?_
   have G:=Xg
   generalize τ 46=v46 at G
   rw [← ho2] at G
   refine Ze (Za (rZ G (qp r1 (qR rr qZ)) Z QB Qc fun G=>?_))
   replace G:=G.eI 12 i
   obtain ⟨F,G⟩:=G.nM JE J6
   exact ⟨((i+1),(es2),(ck2),_,(out2)),F,⟨ow,hR2⟩,G,ow⟩
  have hnm:(ofO (Nn t.ops i)) ∈ out:=KA
  obtain ⟨out2,ho2⟩:∃ z,z=out:=⟨_,rfl⟩
  have hR2:out2=ZcY t.id (t.ops.take (i+1))∧ZdT es2 (i+1) out2:=⟨by rw [ho2,hst hil];unfold ZaL;rw [Yb (by rw [← hou];simp [hnm])];exact hou,by have:=hvs;rw [Ye hnm] at this;rw [ho2];exact this⟩
  rw [← ho2] at G
  refine Yf (Ze (Za (rZ G (qp r1 (qR rr qZ)) Z QB Qc fun G=>?_)))
  replace G:=G.eI 12 i
  obtain ⟨F,G⟩:=G.nM JE J6
  exact ⟨((i+1),(es2),(ck2),_,(out2)),F,⟨ow,hR2⟩,G,ow⟩
 have hil:i=t.ops.length:=Wl
 refine Yz (Zg (Zg (Zm (Za (Ya (rZ G (qR rr (qO rr qZ)) Z [2] KV fun G=>Yj ?_))))))
 obtain ⟨F,G⟩:=G.give 50 2 rfl rfl
 refine Zo hfr G rfl rfl rfl (.sl (by rw [hou,hil,YE];rfl))
theorem Zud (x y:List Int):FnP prog 40 [.sl Zq x,.sl Zq y] (.bool (decide (x=y))):=by
 refine FnP.mk func40 rfl ntmps40 rfl fun B a w F Z hfr G=>?_
 have hxl:=Sat.lenSl G (i:=0) rfl
 refine Ya (rZ G qB Z KU [0] fun G=>(Ya (Ya ?_)))
 refine rZ G (qR rr (qu YbY r1 (qR rr (qu YbY r1 (qf (o_neq .t .t) r2 qz qZ))))) Z [10,4,1,0] [0] fun G=>?_
 refine Zb G rfl (fun hc0=>?_) (fun hc0=>?_)
 ·have hg:false=decide (x=y):=by
    rw [Yaj,Yr]
    intro h
    subst h
    simp at hc0
  refine Ya (rZ G qB Z KU [0] fun G=>(Yj (Zh ?_)))
  refine Zo hfr G rfl rfl rfl (.bool hg)
 have hl:x.length=y.length:=Wl
 refine Yf (Za (Ya (Ya (rZ G (qR rr (qu YbY r1 (qJ qZ))) Z QO [0] fun G=>Yi ?_))))
 obtain ⟨F,G⟩:=G.nM QI [0]
 refine ZY (σ:=Nat) (fun s=>(⟨[(0,.pv (.sl Zq x)),(1,.pv (.sl Zq y)),(12,.pv (.int .i64 x.length)),(13,.pv (.int .i64 s))],[(0,frame B)]⟩:En)) (fun s=>s≤x.length ∧ ∀ j,j<s→Nn x j=Nn y j) (fun s=>x.length - s) 0 G ⟨YA _,fun j hj=>absurd hj (Yah j)⟩ ?_
 clear G;intro i a w F hC G
 have hC:=X4
 have G:=X3
 obtain ⟨hi,hq⟩:=hC
 refine Ya (rZ G (qL r2) Z G3 [0] fun G=>Ya ?_)
 refine Zb G rfl (fun hc1=>?_) (fun hc1=>?_)
 ·have hil:i<x.length:=WE
  refine Yf (Za (Ya (Yi (Ya (rZ G (qR rr (qO rr qZ)) Z Ga [0] fun G=>Ya ?_)))))
  refine Zv G (qR rr (qR rr (qy 1 YbY r2 (qf (oR false 1 .t) r1 qz (qR rr (qR rr (qy 1 YbY r2 (qf (oR false 1 .t) r1 qz (qf (o_neq .t .t) r2 qz qZ))))))))) Z G4 [0] rfl rfl fun a w F G=>?_
  have G:=Xa
  refine Za (Zb G rfl (fun hc2=>?_) (fun hc2=>?_))
  ·have hg:false=decide (x=y):=by
     rw [Yaj,Yr]
     intro h
     subst h
     simp at hc2
   refine Ya (rZ G qB Z QO [0] fun G=>(Yj (Zn (Zh (Zh (Zn (Zh ?_)))))))
   refine Zo hfr G rfl rfl rfl (.bool hg)
  rw [Yg] at hc2
  have hqi:Nn x i=Nn y i:=WA
  refine Yf (Ze (Za (rZ G (qp r1 (qR rr qZ)) Z QI [0] fun G=>?_)))
  replace G:=G.eI 13 i
  obtain ⟨F,G⟩:=G.nM QI [0]
  exact ⟨i+1,F,⟨ow,fun j hj=>by rcases YY (Yag hj) with h | h;exact hq j h;rw [h];exact hqi⟩,G,ow⟩
 have hg:true=decide (x=y):=by
   rw [Yaj,Yl]
   exact ZdH hl fun j hj=>hq j WE
 refine Yz (Zg (Zg (Zm (Za (Ya (rZ G qB Z [4] [0] fun G=>Yj ?_))))))
 refine Zo hfr G rfl rfl rfl (.bool hg)
theorem Zsr (x y:List Int) (hx:x.length≤1000000) (hy:y.length≤1000000):FnP prog 30 [.sl Zq x,.sl Zq y] (.bool (decide (x.Perm y))):=by
 refine FnP.mk func30 rfl ntmps30 rfl fun B a w F Z hfr G=>Ya ?_
 refine rZ G qB Z KU [0] fun G=>Ya ?_
 replace G:=G.fresh 101 rfl
 replace G:=G.fresh 102 rfl
 refine rS G (qR rr (qf (ZbS 101 (ZlM x hx) func74 rfl kr (Args.one .t) pvOne1) r1 r1 (qR rr (qf (ZbS 102 (ZlM y hy) func74 rfl kr (Args.one .t) pvOne1) r1 r1 (qO rr (qO rr qZ)))))) Z [6,5,4] KP fun τ G=>?_
 try dsimp only [RS.sub,SF.sub,CF.sub,csub,Anc.sub,List.map,Zq] at G
 generalize τ 8=v8,τ 10=v10 at G
 refine Za (Ya (rZ G (qR rr (qf (ZbF 101 (ZlA _ x hx) func75 rfl kr (Args.one .t)) r1 r1 qZ)) Z [6,5,4] KP fun G=>Ya ?_))
 refine rZ G (qR rr (qf (ZbF 102 (ZlA _ y hy) func75 rfl kr (Args.one .t)) r1 r1 qZ)) Z [6,5,4] KP fun G=>Ya ?_
 refine rZ G (qR rr (qR rr (qf (OpC.lendRow 102 [16] (OpC.lendRow 101 [15] (oP (Zud _ _) func40 (Args.two .t .t)) ⟨rfl,tv,tv⟩ (.pv (fun _ _ _ _ h=>h)) trivial XV) ⟨tv,rfl,tv⟩ (.pv (fun _ _ _ _ h=>h)) trivial XV) r2 r2 (qO rr qZ)))) Z [4] KP fun G=>Yj ?_
 refine Zo hfr G rfl rfl rfl (.bool (by rw [decide_eq_decide];exact Znm))
theorem Zs6 (x y:List OpD):FnP prog 255 [.sl rOp x,.sl rOp y] (.bool (decide (x=y))):=by
 refine FnP.mk func255 rfl ntmps255 rfl fun B a w F Z hfr G=>?_
 have hxl:=Sat.lenSl G (i:=0) rfl
 refine Ya (rZ G qB Z KU [0] fun G=>(Ya (Ya ?_)))
 refine rZ G (qR rr (qu YbZ r1 (qR rr (qu YbZ r1 (qf (o_neq .t .t) r2 qz qZ))))) Z [10,4,1,0] [0] fun G=>?_
 refine Zb G rfl (fun hc0=>?_) (fun hc0=>?_)
 ·have hg:false=decide (x=y):=by
    rw [Yaj,Yr]
    intro h
    subst h
    simp at hc0
  refine Ya (rZ G qB Z KU [0] fun G=>(Yj (Zh ?_)))
  refine Zo hfr G rfl rfl rfl (.bool hg)
 have hl:x.length=y.length:=Wl
 refine Yf (Za (Ya (Ya (rZ G (qR rr (qu YbZ r1 (qJ qZ))) Z QO [0] fun G=>Yi ?_))))
 obtain ⟨F,G⟩:=G.nM QI [0]
 refine ZY (σ:=Nat) (fun s=>(⟨[(0,.pv (.sl rOp x)),(1,.pv (.sl rOp y)),(12,.pv (.int .i64 x.length)),(13,.pv (.int .i64 s))],[(0,frame B)]⟩:En)) (fun s=>s≤x.length ∧ ∀ j,j<s→Nn x j=Nn y j) (fun s=>x.length - s) 0 G ⟨YA _,fun j hj=>absurd hj (Yah j)⟩ ?_
 clear G;intro i a w F hC G
 have hC:=X4
 have G:=X3
 obtain ⟨hi,hq⟩:=hC
 refine Ya (rZ G (qL r2) Z G3 [0] fun G=>Ya ?_)
 refine Zb G rfl (fun hc1=>?_) (fun hc1=>?_)
 ·have hil:i<x.length:=WE
  refine Yf (Za (Ya (Yi (Ya (rZ G (qR rr (qO rr qZ)) Z Ga [0] fun G=>Ya ?_)))))
  refine Zv G (qR rr (qR rr (qy 4 YbZ r2 (qf (oR true 4 .t) r1 qz (qR rr (qR rr (qy 4 YbZ r2 (qf (oR true 4 .t) r1 qz (qf (o_neqS (ks:=[false,true,true,true]) kr .t .t (.bool (.int (.int (.int .nil))))) r2 qz qZ))))))))) Z G4 [0] rfl rfl fun a w F G=>?_
  have G:=Xa
  refine Za (Zb G rfl (fun hc2=>?_) (fun hc2=>?_))
  ·have hg:false=decide (x=y):=by
     rw [Yaj,Yr]
     intro h
     subst h
     simp at hc2
   refine Ya (rZ G qB Z QO [0] fun G=>(Yj (Zn (Zh (Zh (Zn (Zh ?_)))))))
   refine Zo hfr G rfl rfl rfl (.bool hg)
  rw [Yg] at hc2
  have hqi:Nn x i=Nn y i:=ZuW hc2
  refine Yf (Ze (Za (rZ G (qp r1 (qR rr qZ)) Z QI [0] fun G=>?_)))
  replace G:=G.eI 13 i
  obtain ⟨F,G⟩:=G.nM QI [0]
  exact ⟨i+1,F,⟨ow,fun j hj=>by rcases YY (Yag hj) with h | h;exact hq j h;rw [h];exact hqi⟩,G,ow⟩
 have hg:true=decide (x=y):=by
   rw [Yaj,Yl]
   exact ZdH hl fun j hj=>hq j WE
 refine Yz (Zg (Zg (Zm (Za (Ya (rZ G qB Z [4] [0] fun G=>Yj ?_))))))
 refine Zo hfr G rfl rfl rfl (.bool hg)
theorem Zr5 (x y:List OpD):FnP prog 230 [.sl rOp x,.sl rOp y] (.bool (decide (x=y))):=by
 refine FnP.mk func230 rfl ntmps230 rfl fun B a w F Z hfr G=>Ya ?_
 refine rZ G qB Z KU [0] fun G=>Ya ?_
 refine rZ G (qR rr (qR rr (qf (oP (Zs6 x y) func255 (Args.two .t .t)) r2 qz (qO rr qZ)))) Z [4] [0] fun G=>Yj ?_
 refine Zo hfr G rfl rfl rfl .refl
end Go.Proofs.YtolmpgbpdapaiaaGreat
