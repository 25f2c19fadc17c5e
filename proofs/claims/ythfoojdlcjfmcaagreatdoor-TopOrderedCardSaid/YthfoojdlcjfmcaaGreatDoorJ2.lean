/- Laws and walks. No condition beyond what each says. -/
import Derived.Shelf.Sort.Plain
import Derived.Shelf.Slices.In.SortNone
import Derived.Test.YthfoojdlcjfmcaaGreatDoorJ1
namespace Go.Proofs.YthfoojdlcjfmcaaGreatDoor
open Go Go.Gm Tryz
set_option linter.unusedVariables false
set_option linter.unusedSimpArgs false
set_option maxHeartbeats 4000000
set_option maxRecDepth 8000
def ZgS:Go.Shelf.Ren:=⟨fun | 189=>45 | 125=>73 | 257=>72 | 128=>111 | 129=>112 | 294=>102 | 295=>103 | 296=>104 | 297=>105 | 298=>106 | 299=>107 | 216=>108 | 300=>109 | 301=>110 | 328=>134 | 329=>135 | 330=>136 | 331=>137 | 332=>138 | 215=>119 | 343=>162 | n=>n,fun | 28=>26 | 3=>3 | 46=>149 | 0=>0 | 51=>204 | 53=>136 | 4=>4 | 183=>197 | 182=>196 | 131=>114 | 5=>5 | 9=>9 | 218=>232 | 222=>236 | 228=>259 | 229=>189 | n=>n,fun  | n=>n⟩
theorem ZiY:Lays.n189 prog ZgS where
 mixed:=by kernel_rfl
 f125:=func73.trans (YZ some kr)
 f128:=func111.trans (YZ some kr)
 f129:=func112.trans (YZ some kr)
 f189:=func45.trans (YZ some kr)
 f215:=func119.trans (YZ some kr)
 f216:=func108.trans (YZ some kr)
 f257:=func72.trans (YZ some kr)
 f294:=func102.trans (YZ some kr)
 f295:=func103.trans (YZ some kr)
 f296:=func104.trans (YZ some kr)
 f297:=func105.trans (YZ some kr)
 f298:=func106.trans (YZ some kr)
 f299:=func107.trans (YZ some kr)
 f300:=func109.trans (YZ some kr)
 f301:=func110.trans (YZ some kr)
 f328:=func134.trans (YZ some kr)
 f329:=func135.trans (YZ some kr)
 f330:=func136.trans (YZ some kr)
 f331:=func137.trans (YZ some kr)
 f332:=func138.trans (YZ some kr)
 f343:=func162.trans (YZ some kr)
 t0:=underlying0
 a0:=Tryz.isAgg0
 z0:=Tryz.sizeOf0
 v0:=Tryz.zeroValue0
 t3:=YbD
 a3:=Tryz.isAgg3
 z3:=Tryz.sizeOf3
 v3:=Tryz.zeroValue3
 t4:=underlying4
 a4:=Tryz.isAgg4
 z4:=Tryz.sizeOf4
 v4:=Tryz.zeroValue4
 t5:=underlying5
 a5:=Tryz.isAgg5
 z5:=Tryz.sizeOf5
 v5:=Tryz.zeroValue5
 t9:=underlying9
 a9:=Tryz.isAgg9
 z9:=Tryz.sizeOf9
 v9:=Tryz.zeroValue9
 t28:=Ybz
 a28:=Tryz.isAgg26
 z28:=Tryz.sizeOf26
 v28:=Tryz.zeroValue26
 t46:=YbG
 a46:=Tryz.isAgg149
 z46:=Tryz.sizeOf149
 v46:=Tryz.zeroValue149
 t51:=underlying204
 a51:=Tryz.isAgg204
 z51:=Tryz.sizeOf204
 v51:=Tryz.zeroValue204
 t53:=underlying136
 a53:=Tryz.isAgg136
 z53:=Tryz.sizeOf136
 v53:=Tryz.zeroValue136
 t131:=underlying114
 a131:=Tryz.isAgg114
 z131:=Tryz.sizeOf114
 v131:=Tryz.zeroValue114
 t182:=underlying196
 a182:=Tryz.isAgg196
 z182:=Tryz.sizeOf196
 v182:=Tryz.zeroValue196
 t183:=underlying197
 a183:=Tryz.isAgg197
 z183:=Tryz.sizeOf197
 v183:=Tryz.zeroValue197
 t218:=underlying232
 a218:=Tryz.isAgg232
 z218:=Tryz.sizeOf232
 v218:=Tryz.zeroValue232
 t222:=underlying236
 a222:=Tryz.isAgg236
 z222:=Tryz.sizeOf236
 v222:=Tryz.zeroValue236
 t228:=underlying259
 a228:=Tryz.isAgg259
 z228:=Tryz.sizeOf259
 v228:=Tryz.zeroValue259
 t229:=underlying189
 a229:=Tryz.isAgg189
 z229:=Tryz.sizeOf189
 v229:=Tryz.zeroValue189
theorem Zlq (w:World):Calls prog 45 #[.slice none 0 0] w (fun e w'=>e = .returned (.tuple #[])∧w' = w):=
 Go.calls_of_every_depth fun D=>Go.Proofs.AnyS.slices_Sort_int_none_in ZiY D none 0 w
theorem ZiL {w:World} {y:Ys} : ∀ {l:List Int} {xs:List Value},PVs (l.flatMap rInt) xs w y→xs=l.map (Value.int .i64) ∧ ∀ x ∈ l,inR .i64 x
 | [],[],_=>⟨rfl,fun x hx=>by cases hx⟩
 | [],_ :: _,h=>h.elim
 | x :: l,[],h=>h.elim
 | x :: l,v :: xs,h=>by
  have h1:v = .int .i64 x∧inR .i64 x:=h.1.2
  obtain ⟨h2,h3⟩:=ZiL (l:=l) (xs:=xs) h.2
  exact ⟨by rw [h1.1,h2];rfl,fun z hz=>by rcases Yo.1 hz with rfl | hz;exact h1.2;exact h3 z hz⟩
theorem ZdX {w:World} {y:Ys} : ∀ {l:List Int},(∀ x ∈ l,inR .i64 x)→PVs (l.flatMap rInt) (l.map (Value.int .i64)) w y
 | [],_=>trivial
 | x :: l,h=>⟨⟨rfl,rfl,h x (by simp)⟩,ZdX fun z hz=>h z (by simp [hz])⟩
theorem ZlN {l:List Int} {j:Nat} (hj:j<l.length):(l.toArray)[j]! = l[j]:=by simp [hj]
theorem Zhx {w:World} {g n:Nat} {d:List Int} {os:Array Obj} {cur:Array Value} {e:TypeId} (hg:w.heap[g]? = some (.cells cur e (0,0))) (b:Nat) (hb:b<w.heap.size) :
  (Go.Sort.grow (Go.Sort.putRow (Value.int .i64) (Go.Sort.ahead w n) g 0 d.toArray) os).heap[b]? = if b=g then some (.cells (Go.Sort.putCells (Value.int .i64) 0 d.toArray cur) e (0,0)) else w.heap[b]?:=by
 unfold Go.Sort.grow Go.Sort.putRow Go.Sort.mapBlock Go.Sort.ahead
 simp only
 rw [Array.getElem?_append_left (by simpa using hb),Array.getElem?_modify]
 by_cases h:g=b
 ·subst h
  rw [Ye rfl,Ye rfl,hg];rfl
 ·rw [Yb h,Yb (fun e=>h e.symm)]
theorem Zl5 {cur:Array Value} {d:List Int} (h:d.length≤cur.size):(Go.Sort.putCells (Value.int .i64) 0 d.toArray cur).toList.take d.length=d.map (Value.int .i64):=by
 apply Ybi
 ·simp [Go.Sort.putCells];omega
 ·intro i h1 h2
  have hi:i<d.length:=by simpa using h2
  simp [Go.Sort.putCells,hi]
theorem Zkz (v:Value) (l:List Int) (hlm:l.length≤1000000):FnG prog 45 1 [.is v] [Zs 3 1 rInt l v] (.tup []) (fun _=>[Zs 3 1 rInt (l.mergeSort leI) v]):=fun w F vs hw hle hvs hpr=>by
 match vs,hvs with
 | [u],hvs=>
  have hu:u=v:=hvs.1.1
  subst hu
  obtain ⟨xs,⟨hxl,hx⟩,hp,hf⟩:=hpr 0 _ rfl
  rcases hx with ⟨rfl,h0⟩ | ⟨g,cap,cur,rfl,_,hg,hn,hcap,hcs,hct⟩
  ·have hl:l = []:=YE h0
   subst hl
   refine (Zlq w).mono ?_
   rintro e w' ⟨rfl,rfl⟩
   refine ⟨.tuple #[],F,rfl,hw,⟨rfl,rfl,rfl,YO _,fun _ _ _=>rfl,fun _ _=>rfl,fun n hn b hb=>.inl ⟨n,hn,hb⟩⟩,hle,⟨[],rfl,tv⟩,fun i h hi=>?_⟩
   match i,hi with
   | 0,hi=>simp at hi;subst hi;exact ⟨xs,⟨hxl,.inl ⟨rfl,rfl⟩⟩,by simpa using hp,hf⟩
  ·have hgs:g<w.heap.size:=(Array.getElem?_eq_some_iff.1 hg).1
   obtain ⟨hxe,hin⟩:=ZiL hp
   have hcl:l.length≤cur.size:=by rw [hcs];omega
   have hbig:l.length<4611686018427387904:=by omega
   have hcur:∀ j (hj:j<l.length),cur[j]? = some (.int .i64 l[j]):=fun j hj=>by
    have h1:(cur.toList.take (l.length*1))[j]? = (l.map (Value.int .i64))[j]?:=by rw [hct,hxe]
    rw [List.getElem?_take_of_lt ow] at h1
    simpa [hj] using h1
   have hH:Go.Sort.Holds (Value.int .i64) w g 0 l.toArray:=fun j hj=>by
    have hj':j<l.length:=by simpa using hj
    refine ⟨?_,?_⟩
    ·rw [ZlN hj',YP,Zar hg];exact hcur j hj'
    ·simp [World.frozen?,hg]
   have hcalls:Calls prog 45 #[.slice (some ⟨g,0,none⟩) l.length cap] w fun e w'=>e = .returned (.tuple #[]) ∧ ∃ n os,w' = Go.Sort.grow (Go.Sort.putRow (Value.int .i64) (Go.Sort.ahead w n) g 0 (l.mergeSort leI).toArray) os:=Go.Proofs.Any.slices_Sort_int ZiY g 0 cap l w hH hgs hbig
   refine hcalls.mono ?_
   rintro e w' ⟨rfl,n,os,rfl⟩
   have hsl:(l.mergeSort leI).length=l.length:=List.length_mergeSort l
   have hheap:=fun b hb=>Zhx (n:=n) (d:=l.mergeSort leI) (os:=os) hg b hb
   have hsz:(Go.Sort.grow (Go.Sort.putRow (Value.int .i64) (Go.Sort.ahead w n) g 0 (l.mergeSort leI).toArray) os).heap.size=w.heap.size+os.size:=by simp [Go.Sort.ahead]
   have hfg:F 1 g:=(hf g).2 rfl
   have hst:Stp (List.range' 1 1) w F (Go.Sort.grow (Go.Sort.putRow (Value.int .i64) (Go.Sort.ahead w n) g 0 (l.mergeSort leI).toArray) os) F:=
    ⟨rfl,rfl,rfl,by rw [hsz];omega,fun b hb hn=>by
     rw [hheap b hb,Yb (fun e=>by subst e;exact hn 1 (by simp) hfg)],fun _ _=>rfl,fun n hn b hb=>.inl ⟨n,hn,hb⟩⟩
   refine ⟨.tuple #[],F,rfl,⟨hw.dis,fun n b hb=>by rw [hsz];have:=hw.bd n b hb;omega⟩,hst,hle,⟨[],rfl,tv⟩,fun i h hi=>?_⟩
   match i,hi with
   | 0,hi=>
    simp only [List.getElem?_cons_zero,YT] at hi
    subst hi
    refine ⟨(l.mergeSort leI).map (Value.int .i64),⟨by simp,.inr ⟨g,cap,_,by rw [hsl],Yr _,(hheap g hgs).trans (Ye O),by omega,hcap,by simp [Go.Sort.putCells,hcs],?_⟩⟩,ZdX fun x hx=>hin x ((YaZ l leI).mem_iff.1 hx),hf⟩
    rw [Ya3];exact Zl5 ow
theorem ZcJ {α:Type} [Inhabited α] {p:α→Bool} {l:List α} {j:Nat} (h:j<l.length):(l.take (j+1)).filter p=(l.take j).filter p++if p (Nn l j)=true then [Nn l j] else []:=by
 rw [ZF h,YaQ]
 congr 1
 by_cases e:p (Nn l j)=true
 ·rw [Ye e];simp [e]
 ·rw [Yb e];simp at e;simp [e]
def ZV {α:Type} [Inhabited α] (p:α→Bool) (l:List α):Int:=match l.findIdx? p with
 | some i=>i
 | none=>-1
theorem ZbK {α:Type} [Inhabited α] {p:α→Bool} {l:List α} (h:∀ k,k<l.length→p (Nn l k)=false):ZV p l = -1:=by
 unfold ZV
 have:l.findIdx? p=none:=List.findIdx?_eq_none_iff.2 fun x hx=>by
  obtain ⟨k,hk,rfl⟩:=List.mem_iff_getElem.1 hx
  rw [← Zm hk];exact h k hk
 rw [this]
theorem Zdr {α:Type} [Inhabited α] {p:α→Bool} {l:List α} {i:Nat} (hi:i<l.length) (h:p (Nn l i)=true) (h2:∀ k,k<i→p (Nn l k)=false):ZV p l=i:=by
 unfold ZV
 have:l.findIdx? p=some i:=List.findIdx?_eq_some_iff_getElem.2 ⟨hi,by rw [← Zm hi];exact h,fun k hk=>by rw [← Zm ow,h2 k hk];decide⟩
 rw [this]
theorem Zaq {α:Type} [Inhabited α] (p:α→Bool) (l:List α):(ZV p l = -1 ∧ ∀ k,k<l.length→p (Nn l k)=false) ∨ ∃ i:Nat,ZV p l=i∧i<l.length∧p (Nn l i)=true ∧ ∀ k,k<i→p (Nn l k)=false:=by
 cases h:l.findIdx? p with
 | none=>
  left
  refine ⟨by unfold ZV;rw [h],fun k hk=>?_⟩
  have:=List.findIdx?_eq_none_iff.1 h l[k] (Ybh hk)
  rw [Zm hk];exact this
 | some i=>
  right
  obtain ⟨h1,h2,h3⟩:=List.findIdx?_eq_some_iff_getElem.1 h
  refine ⟨i,by unfold ZV;rw [h],h1,by rw [Zm h1];exact h2,fun k hk=>?_⟩
  rw [Zm ow]
  simpa using h3 k hk
theorem Zdk {α:Type} [Inhabited α] {p:α→Bool} {l:List α} (h:∀ k,k<l.length→p (Nn l k)=false):l.filter (fun x=>!p x)=l:=by
 rw [List.filter_eq_self]
 intro x hx
 obtain ⟨k,hk,rfl⟩:=List.mem_iff_getElem.1 hx
 rw [← Zm hk,h k hk];rfl
theorem ZfB {α:Type} [Inhabited α] {p:α→Bool} {l:List α} {i:Nat} (hi:i<l.length) (hip:p (Nn l i)=true) (hib:∀ k,k<i→p (Nn l k)=false):l.take i=(l.take (i+1)).filter fun x=>!p x:=by
 have h:(l.take i).filter (fun x=>!p x)=l.take i:=Zdk fun k hk=>by
  rw [Yf] at hk
  rw [Zm (by rw [Yf];omega),List.getElem_take,← Zm ow]
  exact hib k ow
 rw [ZcJ (p:=fun x=>!p x) hi,hip,h];simp
theorem Zoi (l : List Int) (p : Int → Bool) (f : FuncId) (fn : Func) (cps : List PV) (hf : prog.funcs[f]? = some fn) (hb : fn.body.isSome = true) (hnn : (fn.name == "runtime.NumGoroutine") = false) (hw : ∀ x, FnP prog f (.int .i64 x :: cps) (.bool (p x))) : FnP prog 141 [.sl rInt l, .clos f cps] (.int .i64 (ZV p l)) := by
 refine FnP.mk func141 O ntmps141 O fun B a w F J hfr G=>?_
 have hll:=Sat.lenSl G (i:=0) rfl
 refine Ya (rZ G (qI qZ) J [4,1,0] [0] fun G=>(Ya (Ya ?_)))
 refine rZ G (qR rr (qu Ybz r1 (qJ qZ))) J [8,7,4,1,0] [0] fun G=>Yj ?_
 refine Zo (σ:=(Nat)) [0,1,4,7] [0] (fun s=>[(8,.pv (.int .i64 (s:Int)))]) (fun s=>[]) (fun s=>s≤l.length∧(∀ k,k<s→p (Nn l k)=false)) (fun s=>l.length - s) (0) G ⟨rfl,rfl,rfl,rfl,rfl,tv⟩ ⟨rfl,tv⟩ ⟨Yr _,fun k hk=>absurd hk (Y5 k)⟩ ?_
 clear G;intro i a w F hC G
 try dsimp only at hC
 obtain ⟨F,G⟩:=G.nM [8,7,4,1,0] [0]
 try dsimp only at G
 obtain ⟨hi,hq⟩:=hC
 refine Ya (rZ G (qL r2) J [9,8,7,4,1,0] [0] fun G=>Ya ?_)
 refine Zc G O (fun hc0=>?_) (fun hc0=>?_)
 ·skip
  have hil:i<l.length:=by simp at hc0;omega
  refine Yi (Za (Ya (Yj (Ya (rZ G (qR rr (qO rr qZ)) J [8,7,5,4,1,0] [0] fun G=>Ya ?_)))))
  refine Zf G (qR rr (qR rr (qR rr (qy 1 Ybz r2 (qf (oR false 1 .t) r1 qz (qf (ZL (avs:=[.int .i64 (Nn l i)]) .t (hw (Nn l i)) hf hb hnn (Args.one .t)) r2 qz qZ)))))) J [16,8,7,5,4,1,0] [0] O O fun a w F G=>?_
  try simp only [Yc] at G
  refine Za (Zc G O (fun hc1=>?_) (fun hc1=>?_))
  ·skip
   have hg:(i:Int)=ZV p l:=(Zdr hil hc1 hq).symm
   refine Ya (rZ G (qR rr (qO rr qZ)) J [8,7,4,1,0] [0] fun G=>(Yg (Zl (Ze (Ze (Zl (Ze ?_)))))))
   refine Zt hfr G O O O (.int hg)
  have hne:p (Nn l i)=false:=hc1
  refine Yi (Zk (Za (rZ G (qp r1 (qR rr qZ)) J [8,7,4,1,0] [0] fun G=>?_)))
  replace G:=G.ent (i:=8) (s':=.pv (.int .i64 ((i+1:Nat):Int))) O (.int (Zh ow))
  obtain ⟨F,G⟩:=G.nM [7,4,1,0,8] [0]
  exact ⟨(i+1),F,⟨by omega,(fun k hk=>by rcases YV (Y6 hk) with h | h;exact hq k h;rw [h];exact hne)⟩,G,by omega⟩
 have hil:i=l.length:=by simp at hc0;omega
 have hg : -1=ZV p l:=(ZbK fun k hk=>hq k (by simp at hc0;omega)).symm
 refine YA (Zj (Zj (Zw (Za (Ya (rZ G (qI qZ) J [4] [0] fun G=>Yg ?_))))))
 refine Zt hfr G O O O (.int hg)
theorem ZnB (v : Value) (l : List Int) (hll : l.length ≤ 1000000) (p : Int → Bool) (f : FuncId) (fn : Func) (cps : List PV) (hf : prog.funcs[f]? = some fn) (hb : fn.body.isSome = true) (hnn : (fn.name == "runtime.NumGoroutine") = false) (hw : ∀ x, FnP prog f (.int .i64 x :: cps) (.bool (p x))) : FnG prog 117 1 [.is v, .clos f cps] [Zs 3 1 rInt l v] (PV.one) (fun v => [Zs 3 1 rInt (l.filter fun x => !p x) v]) := by
 refine FnG.mk func117 O ntmps117 O kr fun B F0 a w F J hG G=>?_
 replace G:=G.turn 1 O (r':=.ob (.val v) (Zs 3 1 rInt l)) (fun _ _ _ _ h=>h)
 refine Ya (rZ G (qC qZ) J [4,1,0] [1,0] fun G=>Ya ?_)
 refine rZ G (qR rr (qR rr (qf (OpC.lendRow 1 [8] (oP (Zoi l p f fn cps hf hb hnn hw) func141 (Args.two .t .t)) ⟨rfl,tv,tv⟩ (.pv (fun _ _ _ _ h=>h)) trivial (by rfl)) r2 r1 (qO rr qZ)))) J [5,4,1,0] [1,0] fun G=>(Ya (Ya ?_))
 refine rZ G (qR rr (qf (o_eql .t qi) r1 qz qZ)) J [12,5,4,1,0] [1,0] fun G=>?_
 refine Zc G O (fun hc0=>?_) (fun hc0=>?_)
 ·skip
  have hno:=(Zaq p l).resolve_right (by rintro ⟨i,h1,_⟩;simp at hc0;omega)
  have hg:(l.filter fun x=>!p x)=l:=Zdk hno.2
  refine Ya (rZ G (qR rr (qO rr qZ)) J [5,4,1,0] [1,0] fun G=>(Yg (Ze ?_)))
  have G:=G.turn 1 O (r':=RS.hp (Zs 3 1 rInt (l.filter fun x=>!p x) v)) (fun _ _ _ _ h=>by rw [hg];exact h)
  refine Zab (h':=fun v=>Zs 3 1 rInt (l.filter fun x=>!p x) v) hG G O (.tmp O .nil) (.one .one) rfl
 obtain ⟨i0,hi0,hi1,hip,hib⟩:=(Zaq p l).resolve_left (by rintro ⟨h1,_⟩;simp [h1] at hc0)
 have hst0:=ZfB hi1 hip hib
 refine Yi (Za (Ya (Ya (rZ G (qR rr (qp r1 (qO rr qZ))) J [6,5,4,1,0] [1,0] fun G=>Yj ?_))))
 have hC0:i0<i0+1∧i0+1≤l.length∧l.length=l.length∧l.take i0=(l.take (i0+1)).filter (fun x=>!p x) ∧ ∀ k,i0+1≤k→k<l.length→Nn l k=Nn l k:=⟨by omega,by omega,rfl,hst0,fun k _ _=>rfl⟩
 replace G:=G.ent (i:=5) (s':=.pv (.int .i64 (i0:Int))) O (.int hi0)
 replace G:=G.ent (i:=6) (s':=.pv (.int .i64 ((i0+1:Nat):Int))) O (.int (by rw [hi0,ZN ow];omega))
 refine Zo (σ:=Nat×Nat×List Int) [0,1,4] [0] (fun s=>[(5,.pv (.int .i64 (s.1:Int))),(6,.pv (.int .i64 (s.2.1:Int)))]) (fun s=>[(1,.ob (.val v) (Zs 3 1 rInt s.2.2))]) (fun s=>s.1<s.2.1∧s.2.1≤l.length∧s.2.2.length=l.length∧s.2.2.take s.1=(l.take s.2.1).filter (fun x=>!p x) ∧ ∀ k,s.2.1≤k→k<l.length→Nn s.2.2 k=Nn l k) (fun s=>l.length - s.2.1) ((i0),(i0+1),(l)) G ⟨rfl,rfl,rfl,rfl,rfl,tv⟩ ⟨rfl,rfl,tv⟩ hC0 ?_
 clear G;intro s a w F hC G
 obtain ⟨i,j,l1⟩:=s
 try dsimp only at hC
 obtain ⟨F,G⟩:=G.nM [6,5,4,1,0] [1,0]
 try dsimp only at G
 obtain ⟨hij,hj,hll1,htk,hrest⟩:=hC
 refine Ya (Ya (rZ G (qR rr (qR rr (qf (Zaj 1 Ybz .is) r1 r1 (qL r2)))) J [19,6,5,4,1,0] [1,0] fun G=>?_))
 refine Zc G O (fun hc1=>?_) (fun hc1=>?_)
 ·skip
  have hjl:j<l.length:=by simp at hc1;omega
  have hnj:Nn l1 j=(Nn l j):=hrest j (YO _) hjl
  have hfs:=ZcJ (p:=fun x=>!p x) hjl
  refine Yi (Za (Ya (Yj (Ya (Zf G (qR rr (qR rr (qf (o_indexAddr_row (sz:=1) 1 (.mk Ybz kr) .is .t ow ow (by rfl)) r2 r1 (qf (Zac (ag:=false) (sz':=1) (sz:=1) 1 .t (by intro x;rfl) ow kr kr kr) r1 r1 (qO rr qZ))))) J [7,6,5,4,1,0] [1,0] O O fun a w F G=>?_)))))
  try simp only [Yc] at G
  rw [hnj] at G
  refine Za (Ya (rZ G (qR rr (qR rr (qf (ZL (avs:=[.int .i64 (Nn l j)]) .t (hw (Nn l j)) hf hb hnn (Args.one .t)) r2 qz (qf (o_not .t) r1 qz qZ)))) J [29,7,6,5,4,1,0] [1,0] fun G=>?_))
  refine Zc G O (fun hc2=>?_) (fun hc2=>?_)
  ·skip
   have hp:p (Nn l j)=false:=by simpa using hc2
   obtain ⟨i2,hi2e⟩:∃ i2,i2=i+1:=⟨_,rfl⟩
   have hi2:IntKind.wrap .i64 ((i:Int)+1)=(i2:Int):=by rw [hi2e];exact Zh ow
   obtain ⟨l2,hl2⟩:∃ l2,l2=l1.set i (Nn l j):=⟨_,rfl⟩
   have hC2:i2<j+1∧j+1≤l.length∧l2.length=l.length∧l2.take i2=(l.take (j+1)).filter (fun x=>!p x) ∧ ∀ k,j+1≤k→k<l.length→Nn l2 k=Nn l k:=⟨by omega,by omega,by rw [hl2,YF];exact hll1,by rw [hl2,hi2e,hfs,hp,← htk,ZF (by rw [YF];omega),List.take_set_of_le (YO _),Zm (by rw [YF];omega),List.getElem_set_self];rfl,fun k hk hk2=>by rw [hl2,Zm (by rw [YF];omega),List.getElem_set_ne ow,← Zm ow];exact hrest k ow hk2⟩
   refine Ya (Zf G (qR rr (qR rr (qR rr (qf (o_indexAddr_row (sz:=1) 1 (.mk Ybz kr) .is .t ow ow (by rfl)) r2 r1 (qf (ZaG (R:=rInt) (sz:=1) (v:=(Nn l j)) 1 .t (by intro x;rfl) ow .t O one_int kr) r2 r1 qZ))))) J [6,5,4,1,0] [1,0] O O fun a w F G=>?_)
   try simp only [Yc] at G
   rw [← hl2] at G
   refine Za (Zf G (qR rr (qp r1 (qO rr qZ))) J [6,5,4,1,0] [1,0] O O fun a w F G=>Zk (Za ?_))
   refine rZ G (qR rr (qp r1 (qO rr qZ))) J [6,5,4,1,0] [1,0] fun G=>?_
   have hmu:l.length - (j+1)<l.length - j:=by omega
   replace G:=G.ent (i:=5) (s':=.pv (.int .i64 (i2:Int))) O (.int hi2)
   replace G:=G.ent (i:=6) (s':=.pv (.int .i64 ((j+1:Nat):Int))) O (.int (Zh ow))
   obtain ⟨F,G⟩:=G.nM [4,1,0,6,5] [0,1]
   exact ⟨((i2),(j+1),(l2)),F,hC2,G,hmu⟩
  have hp:p (Nn l j)=true:=by simpa using hc2
  obtain ⟨i2,hi2e⟩:∃ i2,i2=i:=⟨_,rfl⟩
  have hi2:(i:Int)=(i2:Int):=by rw [hi2e]
  obtain ⟨l2,hl2⟩:∃ l2,l2=l1:=⟨_,rfl⟩
  rw [← hl2] at G
  have hC2:i2<j+1∧j+1≤l.length∧l2.length=l.length∧l2.take i2=(l.take (j+1)).filter (fun x=>!p x) ∧ ∀ k,j+1≤k→k<l.length→Nn l2 k=Nn l k:=⟨by omega,by omega,by rw [hl2];exact hll1,by rw [hl2,hi2e,hfs,hp,htk];simp,fun k hk hk2=>by rw [hl2];exact hrest k ow hk2⟩
  refine Yi (Zk (Za (rZ G (qR rr (qp r1 (qO rr qZ))) J [6,5,4,1,0] [1,0] fun G=>?_)))
  have hmu:l.length - (j+1)<l.length - j:=by omega
  replace G:=G.ent (i:=5) (s':=.pv (.int .i64 (i2:Int))) O (.int hi2)
  replace G:=G.ent (i:=6) (s':=.pv (.int .i64 ((j+1:Nat):Int))) O (.int (Zh ow))
  obtain ⟨F,G⟩:=G.nM [4,1,0,6,5] [0,1]
  exact ⟨((i2),(j+1),(l2)),F,hC2,G,hmu⟩
 have hjl:j=l.length:=by simp at hc1;omega
 have hil2:i<l.length:=by omega
 have hg:(l.filter fun x=>!p x)=(l1.take i++List.replicate (l1.length - i) (0:Int)).take i:=by rw [YH (by rw [Yf];omega),Yah,Ybl,htk,hjl,Y7]
 refine YA (Zj (Zj (Zw (Za (Ya (rZ G (qR rr (qR rr (qf (Zan (sz:=1) 1 (.mk Ybz kr) .is .t ow ow) r2 r1 (qf (ZcB (R:=rInt) (z:=(0:Int)) (zs:=[.int .i64 0]) 1 Ybz kr O O (fun _ _=>⟨⟨rfl,rfl,Zi3⟩,tv⟩) (by intro x;rfl) .t (by simp;omega)) r1 r1 qZ)))) J [5,4,0] [1,0] fun G=>Ya ?_))))))
 refine Zb G (qR rr (qR rr (qf (Zem (sz:=1) 1 (.mk Ybz kr) (by intro x;rfl) .is .t ow (by simp;omega)) r2 r1 (qO rr qZ)))) J [4] [1,0] (fun _=>rfl) (fun _=>rfl) fun τ a w F G=>?_
 try dsimp only [RS.sub,SF.sub,CF.sub,csub,Anc.sub,List.map,rInt] at G
 generalize τ 41=v41 at G
 refine Za (Yg ?_)
 have G:=G.turn 1 O (r':=RS.hp (Zs 3 1 rInt (l.filter fun x=>!p x) v41)) (fun _ _ _ _ h=>by rw [hg];exact h)
 refine Zab (h':=fun v=>Zs 3 1 rInt (l.filter fun x=>!p x) v) hG G O (.tmp O .nil) (.one .one) rfl
def Zv {α:Type} [DecidableEq α]:List α→List α
 | []=>[]
 | [x]=>[x]
 | x :: y :: l=>if x=y then Zv (y :: l) else x :: Zv (y :: l)
theorem Zbt {α:Type} [DecidableEq α] (a b:α):∀ l:List α,Zv (l ++ [a,b])=if a=b then Zv (l ++ [a]) else Zv (l ++ [a]) ++ [b]
 | []=>by
  show (if a=b then [b] else a :: [b])=if a=b then [a] else [a] ++ [b]
  split
  ·rename_i h;rw [h]
  ·rfl
 | [x]=>by
  have ih:=Zbt a b []
  show (if x=a then Zv ([] ++ [a,b]) else x :: Zv ([] ++ [a,b]))=if a=b then (if x=a then Zv ([] ++ [a]) else x :: Zv ([] ++ [a])) else (if x=a then Zv ([] ++ [a]) else x :: Zv ([] ++ [a])) ++ [b]
  rw [ih]
  by_cases h1:x=a <;> by_cases h2:a=b <;> simp [h1,h2]
 | x :: y :: l=>by
  have ih:=Zbt a b (y :: l)
  show (if x=y then Zv (y :: l ++ [a,b]) else x :: Zv (y :: l ++ [a,b]))=if a=b then (if x=y then Zv (y :: l ++ [a]) else x :: Zv (y :: l ++ [a])) else (if x=y then Zv (y :: l ++ [a]) else x :: Zv (y :: l ++ [a])) ++ [b]
  rw [ih]
  by_cases h1:x=y <;> by_cases h2:a=b <;> simp [h1,h2]
theorem ZcW {α:Type} [DecidableEq α] [Inhabited α] {l:List α} {p:Nat} (h1:1≤p) (h2:p<l.length):Zv (l.take (p+1))=if Nn l (p - 1)=Nn l p then Zv (l.take p) else Zv (l.take p) ++ [Nn l p]:=by
 obtain ⟨q,rfl⟩:∃ q,p=q+1:=⟨p - 1,by omega⟩
 rw [ZF h2,ZF (show q<l.length by omega),Yad]
 exact Zbt _ _ _
theorem Zdz {α:Type} [DecidableEq α]:∀ {l:List α},l.length≤1→Zv l=l
 | [],_=>rfl
 | [x],_=>rfl
 | x :: y :: l,h=>by simp at h
theorem ZnZ (v:Value) (l:List Int) (hll:l.length≤1000000):FnG prog 101 1 [.is v] [Zs 3 1 rInt l v] (PV.one) (fun v=>[Zs 3 1 rInt (Zv l) v]):=by
 refine FnG.mk func101 O ntmps101 O kr fun B F0 a w F J hG G=>?_
 replace G:=G.turn 1 O (r':=.ob (.val v) (Zs 3 1 rInt l)) (fun _ _ _ _ h=>h)
 refine Ya (rZ G (qC qZ) J [2,0] [1,0] fun G=>(Ya (Ya ?_)))
 refine rZ G (qR rr (qf (Zaj 1 Ybz .is) r1 r1 (qf (Zcz .t qi) r1 qz qZ))) J [8,2,0] [1,0] fun G=>?_
 refine Zc G O (fun hc0=>?_) (fun hc0=>?_)
 ·have hg:(Zv l)=l:=Zdz (by simp at hc0;omega)
  refine Ya (rZ G (qR rr (qO rr qZ)) J [2,0] [1,0] fun G=>(Yg (Ze ?_)))
  have G:=G.turn 1 O (r':=RS.hp (Zs 3 1 rInt (Zv l) v)) (fun _ _ _ _ h=>by rw [hg];exact h)
  refine Zab (h':=fun v=>Zs 3 1 rInt (Zv l) v) hG G O (.tmp O .nil) (.one .one) rfl
 have hl2:2≤l.length:=by simp at hc0;omega
 refine Yi (Za (Ya (Ya (rZ G (qI qZ) J [3,2,0] [1,0] fun G=>Yj ?_))))
 refine Zo (σ:=Nat) [0,2] [0,1] (fun s=>[(3,.pv (.int .i64 (s:Int)))]) (fun s=>[]) (fun s=>1≤s∧s≤l.length∧Zv (l.take s)=l.take s) (fun s=>l.length - s) (1) G ⟨rfl,rfl,rfl,tv⟩ ⟨rfl,rfl,tv⟩ ⟨by omega,by omega,Zdz (by rw [Yf];omega)⟩ ?_
 clear G;intro k a w F hC G
 try dsimp only at hC
 obtain ⟨F,G⟩:=G.nM [3,2,0] [1,0]
 try dsimp only at G
 obtain ⟨hk1,hkl,hkc⟩:=hC
 have hkw:IntKind.wrap .i64 ((k:Int) - 1)=(k:Int) - 1:=ZN ow
 refine Ya (Ya (rZ G (qR rr (qR rr (qf (Zaj 1 Ybz .is) r1 r1 (qL r2)))) J [13,3,2,0] [1,0] fun G=>?_))
 refine Zc G O (fun hc1=>?_) (fun hc1=>?_)
 ·have hil:k<l.length:=by simp at hc1;omega
  have hst:=ZcW (l:=l) hk1 hil
  have hy0:(IntKind.wrap .i64 ((k:Int) - 1)).toNat=k - 1:=by rw [hkw];omega
  refine Yi (Za (Ya (Yj (Ya (ZO G (qR rr (qR rr (qf (o_indexAddr_row (sz:=1) 1 (.mk Ybz kr) .is .t ow ow (by rfl)) r2 r1 (qf (Zac (ag:=false) (sz':=1) (sz:=1) 1 .t (by intro x;rfl) ow kr kr kr) r1 r1 (qR rr (qR rr (qf (o_sub .t qi) r1 qz (qf (o_indexAddr_row (sz:=1) 1 (.mk Ybz kr) .is .t (by rw [hkw];omega) (by rw [hkw];omega) (by rfl)) r2 r1 (qf (Zac (ag:=false) (sz':=1) (sz:=1) 1 .t (by intro x;rfl) (by rw [hkw];omega) kr kr kr) r1 r1 (qf (o_eql .t .t) r2 qz qZ)))))))))) J [25,3,2,0] [1,0] O O fun a w F G=>?_)))))
  try dsimp only [List.map,xD,xE,xT,xU,ldSF,rInt] at G
  try simp only [Yc] at G
  refine Za (Zc G O (fun hc2=>?_) (fun hc2=>?_))
  ·have heq:Nn l (k - 1)=Nn l k:=by rw [hy0] at hc2;simp at hc2;exact hc2.symm
   rw [Ye heq,hkc] at hst
   have hst0:=hst.symm
   refine Ya (rZ G (qR rr (qR rr (qf (Zan (sz:=1) 1 (.mk Ybz kr) .is .t ow ow) r2 r1 (qO rr qZ)))) J [4,3,2,0] [1,0] fun G=>(Ya (Ya ?_)))
   refine rZ G (qI qZ) J [5,4,3,2,0] [1,0] fun G=>Yj ?_
   have hC0:1≤1∧1≤l.length - k∧k≤k∧k≤k+1 - 1∧l.length=l.length∧l.take k=Zv (l.take (k+1)) ∧ ∀ q,k+1 - 1≤q→q<l.length→Nn l q=Nn l q:=⟨by omega,by omega,by omega,by omega,rfl,hst0,fun q _ _=>rfl⟩
   refine Zo (σ:=Nat×Nat×List Int) [0,2,4] [0] (fun s=>[(3,.pv (.int .i64 (s.1:Int))),(5,.pv (.int .i64 (s.2.1:Int)))]) (fun s=>[(1,.ob (.val v) (Zs 3 1 rInt s.2.2))]) (fun s=>1≤s.2.1∧s.2.1≤l.length - k∧k≤s.1∧s.1≤k+s.2.1 - 1∧s.2.2.length=l.length∧s.2.2.take s.1=Zv (l.take (k+s.2.1)) ∧ ∀ q,k+s.2.1 - 1≤q→q<l.length→Nn s.2.2 q=Nn l q) (fun s=>l.length - s.2.1) ((k),(1),(l)) G ⟨rfl,rfl,rfl,rfl,rfl,tv⟩ ⟨rfl,rfl,tv⟩ hC0 ?_
   clear G;intro s a w F hC G
   obtain ⟨k1,j,l1⟩:=s
   try dsimp only at hC
   obtain ⟨F,G⟩:=G.nM [5,4,3,2,0] [1,0]
   try dsimp only at G
   obtain ⟨hj1,hjk,hkk,hkj,hl1,htk,hrest⟩:=hC
   have hjw:IntKind.wrap .i64 ((j:Int) - 1)=(j:Int) - 1:=ZN ow
   refine Ya (Ya (rZ G (qR rr (qR rr (qf (Zlj 1 Ybz .t ow) r1 r1 (qL r2)))) J [32,5,4,3,2,0] [1,0] fun G=>?_))
   refine Zc G O (fun hc3=>?_) (fun hc3=>?_)
   ·have hjl:k+j<l.length:=by simp at hc3;omega
    have hx1:(Nn l1 (((k:Int)).toNat+((j:Int)).toNat))=Nn l (k+j):=by rw [Yc,Yc];exact hrest _ ow hjl
    have hx0:Nn l1 (((k:Int)).toNat+(IntKind.wrap .i64 ((j:Int) - 1)).toNat)=Nn l (k+j - 1):=by rw [hjw,show ((k:Int)).toNat+((j:Int) - 1).toNat=k+j - 1 by omega];exact hrest _ ow ow
    have hstp:=ZcW (l:=l) (p:=k+j) ow hjl
    refine Yi (Za (Ya (Yj (Ya (ZO G (qR rr (qR rr (qf (o_indexAddr_sub (sz:=1) 1 (.mk Ybz kr) .t .t ow ow (by rfl)) r2 r1 (qf (Zac (ag:=false) (sz':=1) (sz:=1) 1 .t (by intro x;rfl) ow kr kr kr) r1 r1 (qR rr (qR rr (qf (o_sub .t qi) r1 qz (qf (o_indexAddr_sub (sz:=1) 1 (.mk Ybz kr) .t .t (by rw [hjw];omega) (by rw [hjw];omega) (by rfl)) r2 r1 (qf (Zac (ag:=false) (sz':=1) (sz:=1) 1 .t (by intro x;rfl) (by rw [hjw];omega) kr kr kr) r1 r1 (qf (o_neq .t .t) r2 qz qZ)))))))))) J [44,5,4,3,2,0] [1,0] O O fun a w F G=>?_)))))
    try dsimp only [List.map,xD,xE,xT,xU,ldSF,rInt] at G
    try simp only [Yc] at G
    refine Za (Zc G O (fun hc4=>?_) (fun hc4=>?_))
    ·have hne:¬ Nn l (k+j - 1)=Nn l (k+j):=by rw [← hx1,← hx0];simp at hc4 ⊢;exact fun e=>hc4 e.symm
     rw [Yb hne] at hstp
     obtain ⟨i2,hi2e⟩:∃ i2,i2=k1+1:=⟨_,rfl⟩
     have hi2:IntKind.wrap .i64 ((k1:Int)+1)=(i2:Int):=by rw [hi2e];exact Zh ow
     obtain ⟨l2,hl2e⟩:∃ l2,l2=l1.set k1 (Nn l1 (k+j)):=⟨_,rfl⟩
     have hx1b:Nn l1 (k+j)=Nn l (k+j):=hrest _ ow hjl
     have hC2:1≤j+1∧j+1≤l.length - k∧k≤i2∧i2≤k+(j+1) - 1∧l2.length=l.length∧l2.take i2=Zv (l.take (k+(j+1))) ∧ ∀ q,k+(j+1) - 1≤q→q<l.length→Nn l2 q=Nn l q:=⟨by omega,by omega,by omega,by omega,by rw [hl2e,YF];exact hl1,by rw [hl2e,hi2e,ZF (by rw [YF];omega),List.take_set_of_le (YO _),htk,Zm (by rw [YF];omega),List.getElem_set_self,hx1b];exact hstp.symm,fun q hq hq2=>by rw [hl2e,Zm (by rw [YF];omega),List.getElem_set_ne ow,← Zm ow];exact hrest q ow hq2⟩
     refine Ya (Zf G (qR rr (qR rr (qR rr (qR rr (qf (o_indexAddr_sub (sz:=1) 1 (.mk Ybz kr) .t .t ow ow (by rfl)) r2 r1 (qf (Zac (ag:=false) (sz':=1) (sz:=1) 1 .t (by intro x;rfl) ow kr kr kr) r1 r1 (qf (o_indexAddr_row (sz:=1) 1 (.mk Ybz kr) .is .t ow ow (by rfl)) r2 r1 (qf (ZaG (R:=rInt) (sz:=1) (v:=(Nn l1 (((k:Int)).toNat+((j:Int)).toNat))) 1 .t (by intro x;rfl) ow .t O one_int kr) r2 r1 qZ)))))))) J [5,4,3,2,0] [1,0] O O fun a w F G=>?_)
     try simp only [Yc] at G
     rw [← hl2e] at G
     refine Za (Zf G (qR rr (qp r1 (qO rr qZ))) J [5,4,3,2,0] [1,0] O O fun a w F G=>Zk (Za ?_))
     refine rZ G (qR rr (qp r1 (qO rr qZ))) J [5,4,3,2,0] [1,0] fun G=>?_
     have hmu:l.length - (j+1)<l.length - j:=by omega
     replace G:=G.ent (i:=3) (s':=.pv (.int .i64 (i2:Int))) O (.int hi2)
     replace G:=G.ent (i:=5) (s':=.pv (.int .i64 ((j+1:Nat):Int))) O (.int (Zh ow))
     obtain ⟨F,G⟩:=G.nM [4,2,0,5,3] [0,1]
     exact ⟨((i2),(j+1),(l2)),F,hC2,G,hmu⟩
    have heq2:Nn l (k+j - 1)=Nn l (k+j):=by rw [← hx1,← hx0];simp at hc4 ⊢;exact hc4.symm
    rw [Ye heq2] at hstp
    obtain ⟨i2,hi2e⟩:∃ i2,i2=k1:=⟨_,rfl⟩
    have hi2:(k1:Int)=(i2:Int):=by rw [hi2e]
    obtain ⟨l2,hl2e⟩:∃ l2,l2=l1:=⟨_,rfl⟩
    rw [← hl2e] at G
    have hC2:1≤j+1∧j+1≤l.length - k∧k≤i2∧i2≤k+(j+1) - 1∧l2.length=l.length∧l2.take i2=Zv (l.take (k+(j+1))) ∧ ∀ q,k+(j+1) - 1≤q→q<l.length→Nn l2 q=Nn l q:=⟨by omega,by omega,by omega,by omega,by rw [hl2e];exact hl1,by rw [hl2e,hi2e,htk];exact hstp.symm,fun q hq hq2=>by rw [hl2e];exact hrest q ow hq2⟩
    refine Yi (Zk (Za (rZ G (qR rr (qp r1 (qO rr qZ))) J [5,4,3,2,0] [1,0] fun G=>?_)))
    have hmu:l.length - (j+1)<l.length - j:=by omega
    replace G:=G.ent (i:=3) (s':=.pv (.int .i64 (i2:Int))) O (.int hi2)
    replace G:=G.ent (i:=5) (s':=.pv (.int .i64 ((j+1:Nat):Int))) O (.int (Zh ow))
    obtain ⟨F,G⟩:=G.nM [4,2,0,5,3] [0,1]
    exact ⟨((i2),(j+1),(l2)),F,hC2,G,hmu⟩
   have hjl:k+j=l.length:=by simp at hc3;omega
   have hg:(Zv l)=(l1.take k1++List.replicate (l1.length - k1) (0:Int)).take k1:=by rw [YH (by rw [Yf];omega),Yah,Ybl,htk,hjl,Y7]
   refine YA (Zj (Zj (Zw (Za (Ya (rZ G (qR rr (qR rr (qf (Zan (sz:=1) 1 (.mk Ybz kr) .is .t ow ow) r2 r1 (qf (ZcB (R:=rInt) (z:=(0:Int)) (zs:=[.int .i64 0]) 1 Ybz kr O O (fun _ _=>⟨⟨rfl,rfl,Zi3⟩,tv⟩) (by intro x;rfl) .t (by simp;omega)) r1 r1 qZ)))) J [3,2,0] [1,0] fun G=>Ya ?_))))))
   refine Zb G (qR rr (qR rr (qf (Zem (sz:=1) 1 (.mk Ybz kr) (by intro x;rfl) .is .t ow (by simp;omega)) r2 r1 (qO rr qZ)))) J [3,2,0] [1,0] (fun _=>rfl) (fun _=>rfl) fun τ a w F G=>?_
   try dsimp only [RS.sub,SF.sub,CF.sub,csub,Anc.sub,List.map,rInt] at G
   generalize τ 59=v59 at G
   refine Za (Yg (Zl (Ze (Ze (Zl (Ze ?_))))))
   have G:=G.turn 1 O (r':=RS.hp (Zs 3 1 rInt (Zv l) v59)) (fun _ _ _ _ h=>by rw [hg];exact h)
   refine Zab (h':=fun v=>Zs 3 1 rInt (Zv l) v) hG G O (.tmp O .nil) (.one .one) rfl
  have hne:¬ Nn l (k - 1)=Nn l k:=by rw [hy0] at hc2;simp at hc2;exact fun e=>hc2 e.symm
  rw [Yb hne] at hst
  refine Yi (Zk (Za (rZ G (qR rr (qp r1 (qO rr qZ))) J [3,2,0] [1,0] fun G=>?_)))
  replace G:=G.ent (i:=3) (s':=.pv (.int .i64 ((k+1:Nat):Int))) O (.int (Zh ow))
  obtain ⟨F,G⟩:=G.nM [2,0,3] [1,0]
  exact ⟨(k+1),F,⟨by omega,by omega,by rw [hst,hkc,← ZF hil]⟩,G,by omega⟩
 have hg:(Zv l)=l:=by rw [show k=l.length by simp at hc1;omega,Y7] at hkc;exact hkc
 refine YA (Zj (Zj (Zw (Za (Ya (rZ G (qR rr (qO rr qZ)) J [2] [1,0] fun G=>Yg ?_))))))
 have G:=G.turn 1 O (r':=RS.hp (Zs 3 1 rInt (Zv l) v)) (fun _ _ _ _ h=>by rw [hg];exact h)
 refine Zab (h':=fun v=>Zs 3 1 rInt (Zv l) v) hG G O (.tmp O .nil) (.one .one) rfl
def Zai:List Int→List Int
 | []=>[]
 | x :: l=>match Zai l with
  | []=>[x]
  | y :: m=>if x=y then y :: m else x :: y :: m
theorem Zc4:∀ (x:Int) (l:List Int),∃ m,Zai (x :: l)=x :: m
 | x,[]=>⟨[],rfl⟩
 | x,y :: l=>by
  obtain ⟨m,hm⟩:=Zc4 y l
  unfold Zai
  rw [hm]
  by_cases h:x=y
  ·subst h;exact ⟨m,Ye rfl⟩
  ·exact ⟨y :: m,Yb h⟩
theorem ZcY (x y:Int) (l:List Int):Zai (x :: y :: l)=if x=y then Zai (y :: l) else x :: Zai (y :: l):=by
 obtain ⟨m,hm⟩:=Zc4 y l
 conv=>lhs;unfold Zai
 rw [hm]
theorem ZbV:∀ {l:List Int},l.Pairwise (fun a b=>a≤b)→Zdd (Zai l) ∧ ∀ x,x ∈ Zai l ↔ x ∈ l
 | [],_=>by simp [Zai]
 | [x],_=>by simp [Zai]
 | x :: y :: l,h=>by
  have h':=Yq.1 h
  have ih:=ZbV h'.2
  rw [ZcY]
  split
  ·rename_i e
   subst e
   exact ⟨ih.1,fun z=>by rw [ih.2 z];simp⟩
  ·rename_i e
   refine ⟨Yq.2 ⟨fun z hz=>?_,ih.1⟩,fun z=>by rw [Yo,ih.2 z,← Yo]⟩
   have h1:=h'.1 y (by simp)
   rcases Yo.1 ((ih.2 z).1 hz) with rfl | hz2
   ·omega
   ·have:=(Yq.1 h'.2).1 z hz2
    omega
theorem Zll (l:List Int):List.Pairwise (fun x y=>x≤y) (l.mergeSort leI):=by
 have:=List.pairwise_mergeSort (le:=leI) (fun a b c h1 h2=>by simp [leI] at *;omega) (fun a b=>by simp [leI];omega) l
 exact this.imp fun h=>by simpa [leI] using h
theorem ZhP (l:List Int):Zai (l.mergeSort leI)=Zdq l:=
 Zdj (ZbV (Zll l)).1 (ZaH l).1 fun x=>by rw [(ZbV (Zll l)).2,(ZaH l).2];exact (YaZ l leI).mem_iff
theorem ZfG:∀ l:List Int,Zv l=Zai l
 | []=>rfl
 | [x]=>rfl
 | x :: y :: l=>by
  rw [ZcY,← ZfG (y :: l)];rfl
structure OpD where
 read:Bool
 key:Int
 tx:Int
 nth:Int
 deriving DecidableEq,Inhabited
structure TxD where
 id:Int
 done:Bool
 ops:List OpD
 deriving DecidableEq,Inhabited
structure OrdD where
 key:Int
 txs:List Int
 deriving DecidableEq,Inhabited
structure Zn where
 txs:List TxD
 orders:List OrdD
 deriving DecidableEq,Inhabited
structure ZiW where
 was:List TxD
 now:List TxD
 old:List OrdD
 new:List OrdD
 deriving DecidableEq,Inhabited
def rOp (o:OpD):List PV:=[.bool o.read,.int .i64 o.key,.int .i64 o.tx,.int .i64 o.nth]
def rTx (t:TxD):List PV:=[.int .i64 t.id,.bool t.done,.sl rOp t.ops]
def ZA (o:OrdD):List PV:=[.int .i64 o.key,.sl rInt o.txs]
def Zp (h:Zn):List PV:=[.sl rTx h.txs,.sl ZA h.orders]
theorem ZoX {u v:OpD} (h:(!((u.read == v.read) && (decide (u.key=v.key) && (decide (u.tx=v.tx) && (decide (u.nth=v.nth) && true)))))=false):u=v:=by
 cases u;cases v
 simp at h
 simp [h]
theorem ZmF (l:List OpD) (hl:l.length≤1000000):FnG prog 76 1 [.sl rOp l] [.star []] (PV.one) (fun v=>[Zs 54 4 rOp l v]):=by
 refine FnG.mk func76 O ntmps76 O kr fun B F0 a w F J hG G=>?_
 obtain ⟨F,G⟩:=G.nM [0] [0]
 refine Ya (rZ G (qC qZ) J [2,0] [0] fun G=>(Ya (Ya ?_)))
 refine Zf G (qR rr (qf (ZcF YbC .t) r1 qz qZ)) J [4,2,0] [0] O O fun a w F G=>?_
 obtain ⟨β4,hβ4,G⟩:=G.pickBool 4 rfl
 obtain ⟨F,G⟩:=G.nM [4,2,0] [0]
 refine Za (Zc G O (fun hc0=>?_) (fun hc0=>?_))
 ·have hg:l = []:=hβ4 hc0
  refine Ya (rZ G (qC qZ) J [2,0] [0] fun G=>(Yg (Ze ?_)))
  have G:=G.fresh 1 rfl
  have G:=G.turn 1 O (Zbm (T:=54) (sz:=4) (R:=rOp))
  have G:=G.turn 1 O (r':=RS.hp (Zs 54 4 rOp l (.slice none 0 0))) (fun _ _ _ _ h=>by rw [hg];exact h)
  refine Zab (h':=fun v=>Zs 54 4 rOp l v) hG G O (.tmp O .nil) (.one .one) rfl
 have hg:l = [] ++ l:=rfl
 refine Yi (Za (Ya (Zb G (qf (Zby (R:=rOp) (sz:=4) 101 YbC kr) trivial qz (qR rr (qf (Z4 (sz:=4) (bs:=32) 101 (.mk' YbC kr kr) (by intro x;rfl) .same (.sl .t) (by simp only [Yd,YS];omega) (by decide)) ⟨rfl,rfl,tv⟩ ⟨rfl,tv⟩ (qO rr qZ)))) J [2] [101,0] (fun _=>rfl) (fun _=>rfl) fun τ a w F G=>?_)))
 try dsimp only [RS.sub,SF.sub,CF.sub,csub,Anc.sub,List.map,Zg,xL,xM,Nat.reduceAdd,xD,xE,xT,xU,xC,xN,zCF,rOp] at G
 generalize τ 7=v7 at G
 refine Za (Yg ?_)
 obtain ⟨F,G⟩:=G.rename 101 1 O rfl
 have G:=G.turn 1 O (r':=RS.hp (Zs 54 4 rOp l v7)) (fun _ _ _ _ h=>by rw [hg];exact h)
 refine Zab (h':=fun v=>Zs 54 4 rOp l v) hG G O (.tmp O .nil) (.one .one) rfl
structure Zqa where
 src:Int
 dst:Int
 kind:Int
 key:Int
 deriving DecidableEq,Inhabited
structure ZbA where
 tx:Int
 key:Int
 nth:Int
 deriving DecidableEq,Inhabited
def ZX (v:ZbA):List PV:=[.int .i64 v.tx,.int .i64 v.key,.int .i64 v.nth]
def noV:ZbA:=⟨0,0,0⟩
def idB (n:Int):Bool:=decide (1≤n) && decide (n≤1048575)
def ZbF (v:ZbA):Bool:=if v.tx=0 then idB v.key && decide (v.nth=0) else ((idB v.tx && idB v.key) && decide (1≤v.nth)) && decide (v.nth≤4095)
def Zpv (v:ZbA):Int:=(v.tx*1048576+v.key)*4096+v.nth
def Znl (v:ZbA):Int×Int:=if ZbF v then (Zpv v,0) else (0,1)
theorem ZhC {n:Int} : idB n=true ↔ 1≤n∧n≤1048575:=by unfold idB;rw [Yw,Yu,Yu]
theorem Zjg (k:Int):decide (k<1) = !decide (1≤k):=by rw [← decide_not];exact decide_eq_decide.2 ow
theorem ZkV (m k:Int):decide (m<k) = !decide (k≤m):=by rw [← decide_not];exact decide_eq_decide.2 ow
theorem or64 (x y:Nat) (hx:x<18446744073709551616) (hy:y<18446744073709551616):bits .or .u64 (x:Int) (y:Int)=((x ||| y:Nat):Int):=by
 have h1:(BitVec.ofInt 64 (x:Int)).toNat=x:=by rw [Yat];omega
 have h2:(BitVec.ofInt 64 (y:Int)).toNat=y:=by rw [Yat];omega
 show IntKind.wrap .u64 (((BitVec.ofInt 64 (x:Int) ||| BitVec.ofInt 64 (y:Int)).toNat:Nat):Int)=_
 rw [BitVec.toNat_or,h1,h2]
 exact Z3 (by have:=Nat.or_lt_two_pow (n:=64) hx hy;omega)
theorem ZpM {q:Nat} (h:q<18446744073709551616):IntKind.wrap .u64 (q:Int)=q:=Z3 ow
theorem Znt {K:Int} (k:Nat) (hk:min K.toNat (IntKind.bits .u64)=k) (x y:Int) (hx:0≤x) (hy:0≤y) (hyk:y<2 ^ k) (hb:x*2 ^ k+y<18446744073709551616):bits .or .u64 (IntKind.wrap .u64 (x*2 ^ min K.toNat (IntKind.bits .u64))) y=x*2 ^ k+y:=by
 obtain ⟨X,rfl⟩:=Y9 hx
 obtain ⟨Y,rfl⟩:=Y9 hy
 rw [hk]
 have e2:(X:Int)*2 ^ k=((X*2 ^ k:Nat):Int):=by rw [Int.natCast_mul,Int.natCast_pow];rfl
 have hY:Y<2 ^ k:=by exact_mod_cast hyk
 have hor:X*2 ^ k ||| Y=X*2 ^ k+Y:=by rw [Nat.mul_comm];exact (Nat.two_pow_add_eq_or_of_lt hY X).symm
 rw [e2] at hb ⊢
 generalize X*2 ^ k=Q at hb hor ⊢
 rw [ZpM ow,or64 _ _ ow ow,hor]
 omega
theorem ZiZ {v:ZbA} (h:ZbF v=true):bits .or .u64 (IntKind.wrap .u64 (bits .or .u64 (IntKind.wrap .u64 (IntKind.wrap .u64 v.tx*2 ^ min (20:Int).toNat (IntKind.bits .u64))) (IntKind.wrap .u64 v.key)*2 ^ min (12:Int).toNat (IntKind.bits .u64))) (IntKind.wrap .u64 v.nth)=Zpv v:=by
 have hb:(0≤v.tx∧v.tx≤1048575)∧(1≤v.key∧v.key≤1048575)∧(0≤v.nth∧v.nth≤4095):=by
  unfold ZbF at h
  split at h <;> simp only [Yw,Yu,ZhC] at h <;> omega
 obtain ⟨h1,h2,h3⟩:=hb
 rw [Z3 (x:=v.tx) ow,Z3 (x:=v.key) ow,Z3 (x:=v.nth) ow]
 rw [Znt 20 rfl v.tx v.key ow ow ow ow,Znt 12 rfl (v.tx*2 ^ 20+v.key) v.nth ow ow ow ow]
 unfold Zpv
 omega
theorem Zp2 (n:Int):FnP prog 100 [.int .i64 n] (.bool (idB n)):=by
 refine FnP.mk func100 O ntmps100 O fun B a w F J hfr G=>Ya ?_
 refine rZ G qB J [2,0] [0] fun G=>Ya ?_
 refine rZ G (qR rr (qf (ZeT .t qi) r1 qz (qR rr (qm O O O O (qk O (fun h=>ZoQ (.w h) qi) r2 qz (qf (ZR .t .t) r2 qz (qO rr qZ))))))) J [2] [0] fun G=>Yg ?_
 refine Zt hfr G O O O .refl
theorem Ze8 (v:ZbA):((!(decide (v.tx=0) && decide (v.nth=0)) && ((!idB v.tx || decide (v.nth<1)) || decide (4095<v.nth))) || !idB v.key) = !ZbF v:=by
 unfold ZbF
 by_cases h:v.tx=0
 ·rw [Ye h,YR h]
  have hi:idB v.tx=false:=by rw [h];rfl
  rw [hi]
  cases decide (v.nth=0) <;> cases idB v.key <;> simp
 ·rw [Yb h,Ym h,Zjg,ZkV 4095]
  cases idB v.tx <;> cases idB v.key <;> cases decide (1≤v.nth) <;> cases decide (v.nth≤4095) <;> rfl
theorem Zk1 (v:ZbA):FnP prog 65 [.agg (ZX v)] (.tup [.int .u64 (Znl v).1,.int .i64 (Znl v).2]):=by
 refine FnP.mk func65 O ntmps65 O fun B a w F J hfr G=>Ya ?_
 refine Zb G (qx 101 r1 (qI (qI qZ))) J [3,2,1] [101,0] (fun _=>rfl) (fun _=>rfl) fun τ a w F G=>?_
 try dsimp only [RS.sub,SF.sub,CF.sub,csub,Anc.sub,List.map,zCF] at G
 generalize τ 1=v1 at G
 refine Za (Ya (rZ G (qg 0 101 r1 r1 (qa 101 r1 r1 (qf (o_eql .t qi) r1 qz (qR rr (qv 2 101 O r2 r1 (qw 101 O r2 r1 (qk O (fun h=>o_eql (.w h) qi) r2 qz (qf (ZR .t .t) r2 qz (qO rr qZ))))))))) J [4,3,2,1] [101,0] fun G=>(Ya (Ya ?_))))
 refine Zf G (qR rr (qf (o_not .t) r1 qz (qR rr (qv 0 101 O r2 r1 (qw 101 O r2 r1 (qk O (fun h=>oP (Zp2 _) func100 (Args.one (.w h))) r2 qz (qk O (fun h=>o_not (.w h)) r2 qz (qk O (fun h=>oM (.w h)) r2 qz (Zu.cons (ZbB.cond2 O O (fun h=>Za5 (off:=2) 101 .is kr (by rfl))) r2 r1 (Zu.cons (ZbB.cond2 O O (fun h=>Zfp (ag:=false) (sz:=1) 101 (.w h .adr) kr kr kr (by rfl))) r2 r1 (Zu.cons (ZbB.cond2 O O (fun h=>Zcz (.w h) qi)) r2 qz (qk O (fun h=>ZaM (.w h) (.wc h)) r3 qz (qk O (fun h=>oM (.w h)) r2 qz (Zu.cons (ZbB.cond2 O O (fun h=>Za5 (off:=2) 101 .is kr (by rfl))) r2 r1 (Zu.cons (ZbB.cond2 O O (fun h=>Zfp (ag:=false) (sz:=1) 101 (.w h .adr) kr kr kr (by rfl))) r2 r1 (Zu.cons (ZbB.cond2 O O (fun h=>Zbs (.w h) qi)) r2 qz (qk O (fun h=>ZaM (.w h) (.wc h)) r3 qz (qf (ZR .t .t) r2 qz (qR rr (qv 1 101 O r2 r1 (qw 101 O r2 r1 (qk O (fun h=>oP (Zp2 _) func100 (Args.one (.w h))) r2 qz (qk O (fun h=>o_not (.w h)) r2 qz (qf (ZaM .t .t) r2 qz qZ)))))))))))))))))))))))) J [36,3,2,1] [101,0] O O fun a w F G=>?_
 try dsimp only [List.map,xD,xE,xT,xU,ldSF] at G
 refine Za (Zc G O (fun hc0=>?_) (fun hc0=>?_))
 ·rw [Ze8] at hc0
  have hr:ZbF v=false:=by simpa using hc0
  have hg:Znl v=(0,1):=by unfold Znl;rw [hr];rfl
  refine Ya (rZ G (qI (qI qZ)) J [3,2,1] [101,0] fun G=>(Yg (Ze ?_)))
  refine ZK hfr G O (.tmp O (.tmp O .nil)) (.two (.int (by rw [hg];try exact ZiZ hr)) (.int (by rw [hg])))
 rw [Ze8] at hc0
 have hr:ZbF v=true:=by simpa using hc0
 have hg:Znl v=(Zpv v,0):=Ye hr
 refine Yi (Za (Ya (rZ G (qg 0 101 r1 r1 (qa 101 r1 r1 (qf (o_conv underlying136 kr .t) r1 qz (qf (o_shl .t qi (by decide)) r1 qz (qg 1 101 r1 r1 (qa 101 r1 r1 (qf (o_conv underlying136 kr .t) r1 qz (qf (Zp3 .t .t) r2 qz (qf (o_shl .t qi (by decide)) r1 qz (qg 2 101 r1 r1 (qa 101 r1 r1 (qf (o_conv underlying136 kr .t) r1 qz (qf (Zp3 .t .t) r2 qz (qO rr (qI qZ))))))))))))))) J [3,2] [0] fun G=>Yg ?_)))
 refine ZK hfr G O (.tmp O (.tmp O .nil)) (.two (.int (by rw [hg];try exact ZiZ hr)) (.int (by rw [hg])))
def ZbE (o:OpD):Bool:=if o.read=true then ZbF ⟨o.tx,o.key,o.nth⟩ else (idB o.key && decide (o.tx=0)) && decide (o.nth=0)
def ofO (o:OpD):ZbA:=if o.read=true then ⟨o.tx,o.key,o.nth⟩ else noV
def ZbM (o:OpD):Int:=if ZbE o=true then 0 else 1
theorem ZkQ {o:OpD} (h:ZbE o=true):(1≤o.key∧o.key≤1048575)∧(0≤o.tx∧o.tx≤1048575)∧(0≤o.nth∧o.nth≤4095):=by
 unfold ZbE at h
 split at h
 ·unfold ZbF at h
  dsimp only at h
  split at h <;> simp only [Yw,Yu,ZhC] at h <;> omega
 ·simp only [Yw,Yu,ZhC] at h
  omega
theorem Ze9 {o:OpD} (h:o.read=true):ZbE o=ZbF (ofO o):=by unfold ZbE ofO;rw [Ye h,Ye h]
theorem Zeo {o:OpD} (h:o.read=false):ZbE o=((idB o.key && decide (o.tx=0)) && decide (o.nth=0)):=by unfold ZbE;rw [Yb (by rw [h];decide)]
theorem ZjF (v:ZbA):(Znl v).2=if ZbF v=true then 0 else 1:=by unfold Znl;split <;> rfl
theorem Znq (o:OpD):FnP prog 66 [.agg (rOp o)] (.agg (ZX (ofO o))):=by
 refine FnP.mk func66 O ntmps66 O fun B a w F J hfr G=>Ya ?_
 refine Zb G (qx 101 r1 (qf (oH [.int .i64 0,.int .i64 0,.int .i64 0] 102) trivial qz qZ)) J [2,1] [102,101,0] (fun _=>rfl) (fun _=>rfl) fun τ a w F G=>?_
 try dsimp only [RS.sub,SF.sub,CF.sub,csub,Anc.sub,List.map,zCF] at G
 generalize τ 1=v1,τ 2=v2 at G
 refine Za (Ya (Ya (rZ G (qg 0 101 r1 r1 (qa 101 r1 r1 (qf (o_not .t) r1 qz qZ))) J [5,2,1] [102,101,0] fun G=>?_)))
 refine Zc G O (fun hc0=>?_) (fun hc0=>?_)
 ·have hr:o.read=false:=by simpa using hc0
  refine Ya (rZ G (qf (oB [] [.int .i64 0,.int .i64 0,.int .i64 0] [(0,1),(1,1),(2,1)] .nil) trivial qz (qs 3 102 r2 r1 qZ)) J [2,1] [102,101,0] fun G=>(Yg (Ze ?_)))
  refine ZK hfr G O (.cl 102 true 3 O O .nil) (.one (.aggU O (by unfold ofO;rw [hr];rfl)))
 have hr:o.read=true:=by simpa using hc0
 refine Yi (Za (Ya (rZ G (qg 2 101 r1 r1 (qa 101 r1 r1 (qg 1 101 r1 r1 (qa 101 r1 r1 (qg 3 101 r1 r1 (qa 101 r1 r1 (qf (oB [(0,.tmp 8),(1,.tmp 10),(2,.tmp 12)] [.int .i64 0,.int .i64 0,.int .i64 0] [(0,1),(1,1),(2,1)] (.one O .t one_int kr (.one O .t one_int kr (.one O .t one_int kr .nil)))) r3 qz (qs 3 102 r2 r1 qZ)))))))) J [2] [102,101,0] fun G=>Yg ?_)))
 refine ZK hfr G O (.cl 102 true 3 O O .nil) (.one (.aggU O (by unfold ofO;rw [hr];rfl)))
theorem ZjZ (o:OpD):FnP prog 39 [.agg (rOp o)] (.int .i64 (ZbM o)):=by
 refine FnP.mk func39 O ntmps39 O fun B a w F J hfr G=>Ya ?_
 refine Zb G (qx 101 r1 (qI qZ)) J [2,1] [101,0] (fun _=>rfl) (fun _=>rfl) fun τ a w F G=>?_
 try dsimp only [RS.sub,SF.sub,CF.sub,csub,Anc.sub,List.map,zCF] at G
 generalize τ 1=v1 at G
 refine Za (Ya (Ya (rZ G (qg 0 101 r1 r1 (qa 101 r1 r1 qZ)) J [6,2,1] [101,0] fun G=>?_)))
 refine Zc G O (fun hc0=>?_) (fun hc0=>?_)
 ·have hg:(Znl (ofO o)).2=ZbM o:=by rw [ZjF];unfold ZbM;rw [Ze9 hc0]
  refine Ya (rZ G (qe 4 101 r1 r1 (qf (oP (Znq o) func66 (Args.one (.pagg .t))) r1 qz (qf (oP (Zk1 (ofO o)) func65 (Args.one .t)) r1 qz (qR rr (qf (Zi .t O) r1 qz (qf (Zi .t O) r1 qz (qO rr (qO rr qZ)))))))) J [4,2,1] [101,0] fun G=>Ya ?_)
  refine rZ G (qR rr (qO rr qZ)) J [2,1] [101,0] fun G=>(Yg (Ze ?_))
  refine Zt hfr G O O O (.int hg)
 have hr:o.read=false:=hc0
 refine Yi (Za (Ya (Ya (rZ G (qe 4 101 r1 r1 (qg 1 101 r1 r1 (qa 101 r1 r1 (qf (oB [(1,.tmp 16)] [.bool false,.int .i64 0,.int .i64 0,.int .i64 0] [(0,1),(1,1),(2,1),(3,1)] (.one O .t one_int kr .nil)) r1 qz (qf (Znp (ks:=[false,true,true,true]) kr .t .t (.bool (.int (.int (.int .nil))))) r2 qz (qR rr (qv 1 101 O r2 r1 (qw 101 O r2 r1 (qk O (fun h=>Zcz (.w h) qi) r2 qz (qf (ZaM .t .t) r2 qz (qR rr (qv 1 101 O r2 r1 (qw 101 O r2 r1 (qk O (fun h=>Zbs (.w h) qi) r2 qz (qf (ZaM .t .t) r2 qz qZ))))))))))))))) J [28,2] [101,0] fun G=>?_))))
 refine Zc G O (fun hc1=>?_) (fun hc1=>?_)
 ·have hg:(1:Int)=ZbM o:=by
    unfold ZbM
    rw [Yb]
    rw [Zeo hr]
    simp [hr,idB] at hc1 ⊢
    omega
  refine Ya (rZ G (qI qZ) J [2] [101,0] fun G=>(Yg (Ze ?_)))
  refine Zt hfr G O O O (.int hg)
 have hg:(0:Int)=ZbM o:=by
   unfold ZbM
   rw [Ye]
   rw [Zeo hr]
   simp [hr,idB] at hc1 ⊢
   omega
 refine Yi (Za (Ya (rZ G (qI qZ) J [2] [101,0] fun G=>Yg ?_)))
 refine Zt hfr G O O O (.int hg)
theorem Zov (t : TxD) (hl : t.ops.length ≤ 1000000) (p : OpD → Bool) (f : FuncId) (fn : Func) (cps : List PV) (hf : prog.funcs[f]? = some fn) (hb : fn.body.isSome = true) (hnn : (fn.name == "runtime.NumGoroutine") = false) (hw : ∀ x, FnP prog f (.agg (rOp x) :: cps) (.bool (p x))) : FnP prog 70 [.agg (rTx t), .clos f cps] (.sl rInt (Zdq ((t.ops.filter p).map OpD.key))) := by
 refine FnP.mk func70 O ntmps70 O fun B a w F J hfr G=>Ya ?_
 refine Zb G (qx 101 r1 (qC qZ)) J [4,2,1] [101,0] (fun _=>rfl) (fun _=>rfl) fun τ a w F G=>?_
 try dsimp only [RS.sub,SF.sub,CF.sub,csub,Anc.sub,List.map,zCF,rInt,rOp,rTx] at G
 generalize τ 2=v2 at G
 refine Za (Ya (rZ G (qC qZ) J [5,4,2,1] [101,0] fun G=>(Ya (Ya ?_))))
 refine rZ G (qg 2 101 r1 r1 (qa 101 r1 r1 (qu YbC r1 (qJ qZ)))) J [11,10,9,5,4,1] [101,0] fun G=>Yj ?_
 replace G:=G.fresh 50 rfl
 replace G:=G.turn 50 O (Zbm (T:=3) (sz:=1) (R:=rInt))
 refine Zo (σ:=(Nat)×(Value)×(List Int)) [1,4,9,10] [0,101] (fun s=>[(11,.pv (.int .i64 (s.1:Int))),(5,.pv (.is s.2.1))]) (fun s=>[(50,.ob (.val s.2.1) (Zs 3 1 rInt s.2.2))]) (fun s=>s.1≤t.ops.length∧(s.2.2=(((t.ops.take s.1).filter p).map OpD.key))) (fun s=>t.ops.length - s.1) ((0),(.slice none 0 0),([])) G ⟨rfl,rfl,rfl,rfl,rfl,rfl,tv⟩ ⟨rfl,rfl,rfl,tv⟩ ⟨Yr _,rfl⟩ ?_
 clear G;intro s a w F hC G
 obtain ⟨i,v,out⟩:=s
 try dsimp only at hC
 obtain ⟨F,G⟩:=G.nM [11,10,9,5,4,1] [101,50,0]
 try dsimp only at G
 obtain ⟨hi,hq⟩:=hC
 have hol:out.length≤i:=by rw [hq,YY];exact Yau (Yan _ _) (by rw [Yf];omega)
 refine Ya (rZ G (qL r2) J [12,11,10,9,5,4,1] [101,50,0] fun G=>Ya ?_)
 refine Zc G O (fun hc0=>?_) (fun hc0=>?_)
 ·skip
  have hil:i<t.ops.length:=by simp at hc0;omega
  refine Yi (Za (Ya (Yj (Ya (Zb G (qy 4 YbC r2 (qf (oR true 4 .t) r1 qz (qf (oH [.bool false,.int .i64 0,.int .i64 0,.int .i64 0] 102) trivial qz (qS 4 102 r2 r1 qZ)))) J [11,10,9,7,5,4,1] [102,101,50,0] (fun _=>rfl) (fun _=>rfl) fun τ a w F G=>?_)))))
  try dsimp only [RS.sub,SF.sub,CF.sub,csub,Anc.sub,List.map,Zg,xL,xM,Nat.reduceAdd,xD,xE,xT,xU,xC,xN,zCF,ldSF,rInt,rOp,rTx] at G
  generalize τ 7=v7 at G
  try simp only [Yc] at G
  refine Za (Ya (rZ G (qR rr (qe 4 102 r1 r1 (qf (ZL (avs:=[.agg (rOp (Nn t.ops i))]) .t (hw (Nn t.ops i)) hf hb hnn (Args.one (.pagg .t))) r2 qz qZ))) J [17,11,10,9,7,5,4,1] [102,101,50,0] fun G=>?_))
  refine Zc G O (fun hc1=>?_) (fun hc1=>?_)
  ·skip
   have hBq:p (Nn t.ops i)=true:=by simpa using hc1
   refine Zb G (qR rr (qg 1 102 r1 r1 (qa 102 r1 r1 (qf (Zz (sz:=1) (zs:=[.int .i64 0]) (r:=[(0,.tmp 20)]) (l:=[_]) Ybz kr kr kr kr O O (.one O .t one_int kr .nil) O) r1 qz (qf (Z4 (sz:=1) (bs:=8) 50 (.mk' Ybz kr kr) (by intro x;rfl) .is (.arr (l':=[(Nn t.ops i).key]) .t) (by simp only [Yd,Yv,YS,Yf,Yt];omega) (by decide)) ⟨rfl,rfl,tv⟩ ⟨rfl,tv⟩ (qO rr qZ)))))) J [11,10,9,5,4,1] [102,101,50,0] (fun _=>rfl) (fun _=>rfl) fun τ a w F G=>?_
   try dsimp only [RS.sub,SF.sub,CF.sub,csub,Anc.sub,List.map,Zg,xL,xM,Nat.reduceAdd,xD,xE,xT,xU,xC,xN,zCF,ldSF,rInt,rOp,rTx] at G
   generalize τ 22=v22 at G
   refine Zk (Za (rZ G (qp r1 (qR rr qZ)) J [11,10,9,5,4,1] [102,101,50,0] fun G=>?_))
   replace G:=G.ent (i:=11) (s':=.pv (.int .i64 ((i+1:Nat):Int))) O (.int (Zh ow))
   obtain ⟨F,G⟩:=G.nM [10,9,4,1,5,11] [101,0,50]
   exact ⟨((i+1),_,_),F,⟨by omega,(by rw [ZF hil,YaQ,Yap,← hq];simp [hBq])⟩,G,by omega⟩
  have hBq:p (Nn t.ops i)=false:=by simpa using hc1
  refine Yi (Zk (Za (rZ G (qp r1 (qR rr qZ)) J [11,10,9,5,4,1] [102,101,50,0] fun G=>?_)))
  replace G:=G.ent (i:=11) (s':=.pv (.int .i64 ((i+1:Nat):Int))) O (.int (Zh ow))
  obtain ⟨F,G⟩:=G.nM [10,9,4,1,5,11] [101,0,50]
  exact ⟨((i+1),_,_),F,⟨by omega,(by rw [ZF hil,YaQ,Yap,← hq];simp [hBq])⟩,G,by omega⟩
 have hil:i=t.ops.length:=by simp at hc0;omega
 refine YA (Zj (Zj (Zw (Za (Ya (rZ G (qR rr (qf (ZeC 50 (Zkz _ out ow) func45 O kr (Args.one .t)) r1 r1 qZ)) J [5,4] [101,50,0] fun G=>Ya ?_))))))
 refine Zb G (qR rr (qf (ZaX 50 (ZnZ _ _ (by rw [List.length_mergeSort];omega)) func101 O kr (Args.one .t) Zbh) r1 r1 (qO rr qZ))) J [4] [101,50,0] (fun _=>rfl) (fun _=>rfl) fun τ a w F G=>?_
 try dsimp only [RS.sub,SF.sub,CF.sub,csub,Anc.sub,List.map,rInt,rOp,rTx] at G
 generalize τ 27=v27 at G
 refine Za (Yg ?_)
 obtain ⟨F,G⟩:=G.give 50 4 O rfl
 refine Zt hfr G O O O (.sl (by rw [ZfG,ZhP,hq,hil,Y7]))
theorem Zd9 (l:List Int):(Zdq l).length≤l.length:=by
 have key:∀ (l acc:List Int),(l.foldl Zft acc).length≤acc.length+l.length:=fun l=>by
  induction l with
  | nil=>intro acc;simp
  | cons x l ih=>
   intro acc
   have h1:=ih (Zft acc x)
   have h2:(Zft acc x).length≤acc.length+1:=ZgD acc false
   rw [Yav,Yv];omega
 have:=key l []
 simpa [Zdq] using this
theorem Ent.fnClos {f:FuncId} : Ent (.pv (.is (.func (.func f) #[] #[]))) (.pv (.clos f [])):=fun τ w y v h=>⟨[],h.1,tv⟩
theorem Zoh (o:OpD):FnP prog 71 [.agg (rOp o)] (.bool (!o.read)):=by
 refine FnP.mk func71 O ntmps71 O fun B a w F J hfr G=>Ya ?_
 refine Zb G (qx 101 r1 qB) J [2,1] [101,0] (fun _=>rfl) (fun _=>rfl) fun τ a w F G=>?_
 try dsimp only [RS.sub,SF.sub,CF.sub,csub,Anc.sub,List.map,zCF,rOp] at G
 generalize τ 1=v1 at G
 refine Za (Ya (rZ G (qg 0 101 r1 r1 (qa 101 r1 r1 (qf (o_not .t) r1 qz (qO rr qZ)))) J [2] [0] fun G=>Yg ?_))
 refine Zt hfr G O O O (.bool O)
theorem Zj2 (t:TxD) (hl:t.ops.length≤1000000):FnP prog 44 [.agg (rTx t)] (.sl rInt (Zdq ((t.ops.filter fun o=>!o.read).map OpD.key))):=by
 refine FnP.mk func44 O ntmps44 O fun B a w F J hfr G=>Ya ?_
 refine Zb G (qx 101 r1 (qC qZ)) J [2,1] [101,0] (fun _=>rfl) (fun _=>rfl) fun τ a w F G=>?_
 try dsimp only [RS.sub,SF.sub,CF.sub,csub,Anc.sub,List.map,zCF,rTx,rInt] at G
 generalize τ 1=v1 at G
 refine Za (Ya (rZ G (qe 3 101 r1 r1 (qf (oP (Zov t hl (fun o=>!o.read) 71 f71 [] func71 O kr (fun o=>Zoh o)) func70 (Args.two (.pagg .t) (.conv .f (Ent.fnClos)))) r1 qz (qO rr qZ))) J [2] [0] fun G=>Yg ?_))
 refine Zt hfr G O O O (.sl O)
theorem Zex (t:TxD) (n:Int) (hl:t.ops.length≤1000000):FnP prog 69 [.agg (rTx t),.int .i64 n] (.int .i64 (((t.ops.filter fun o=>!o.read && decide (o.key=n)).length:Nat):Int)):=by
 refine FnP.mk func69 O ntmps69 O fun B a w F J hfr G=>?_
 have hll:t.ops.length≤1000000:=hl
 refine Ya (Zb G (qx 101 r1 (qI qZ)) J [4,2,1] [101,0] (fun _=>rfl) (fun _=>rfl) fun τ a w F G=>?_)
 try dsimp only [RS.sub,SF.sub,CF.sub,csub,Anc.sub,List.map,zCF,rInt,rOp,rTx] at G
 generalize τ 2=v2 at G
 refine Za (Ya (rZ G (qI qZ) J [5,4,2,1] [101,0] fun G=>(Ya (Ya ?_))))
 refine rZ G (qg 2 101 r1 r1 (qa 101 r1 r1 (qu YbC r1 (qJ qZ)))) J [11,10,9,5,4,1] [0] fun G=>Yj ?_
 refine Zo (σ:=(Nat)) [1,4,9,10] [0] (fun s=>[(11,.pv (.int .i64 (s:Int))),(5,.pv (.int .i64 ((((t.ops.take s).filter fun o=>!o.read && decide (o.key=n)).length:Nat):Int)))]) (fun s=>[]) (fun s=>s≤t.ops.length∧(True)) (fun s=>t.ops.length - s) (0) G ⟨rfl,rfl,rfl,rfl,rfl,rfl,tv⟩ ⟨rfl,tv⟩ ⟨Yr _,tv⟩ ?_
 clear G;intro i a w F hC G
 try dsimp only at hC
 obtain ⟨F,G⟩:=G.nM [11,10,9,5,4,1] [0]
 try dsimp only at G
 obtain ⟨hi,hq⟩:=hC
 refine Ya (rZ G (qL r2) J [12,11,10,9,5,4,1] [0] fun G=>Ya ?_)
 refine Zc G O (fun hc0=>?_) (fun hc0=>?_)
 ·have hil:i<t.ops.length:=by simp at hc0;omega
  refine Yi (Za (Ya (Yj (Ya (Zb G (qy 4 YbC r2 (qf (oR true 4 .t) r1 qz (qf (oH [.bool false,.int .i64 0,.int .i64 0,.int .i64 0] 102) trivial qz (qS 4 102 r2 r1 qZ)))) J [11,10,9,7,5,4,1] [102,0] (fun _=>rfl) (fun _=>rfl) fun τ a w F G=>?_)))))
  try dsimp only [RS.sub,SF.sub,CF.sub,csub,Anc.sub,List.map,Zg,xL,xM,Nat.reduceAdd,xD,xE,xT,xU,xC,xN,zCF,ldSF,rInt,rOp,rTx] at G
  generalize τ 7=v7 at G
  try simp only [Yc] at G
  refine Za (Ya (rZ G (qg 0 102 r1 r1 (qa 102 r1 r1 (qf (o_not .t) r1 qz (qR rr (qv 1 102 O r2 r1 (qw 102 O r2 r1 (qm O O O O (qk O (fun h=>o_eql (.w h) (.w h)) r3 qz (qf (ZR .t .t) r2 qz qZ))))))))) J [23,11,10,9,5,4,1] [0] fun G=>?_))
  refine Zc G O (fun hc1=>?_) (fun hc1=>?_)
  ·have hstp:((t.ops.take (i+1)).filter fun o=>!o.read && decide (o.key=n))=((t.ops.take i).filter fun o=>!o.read && decide (o.key=n))++(if (!(Nn t.ops i).read && decide ((Nn t.ops i).key=n))=true then [(Nn t.ops i)] else []):=by rw [ZF hil,YaQ];simp only [List.filter_cons,List.filter_nil]
   have hle:((t.ops.take i).filter fun o=>!o.read && decide (o.key=n)).length≤i:=Yau (Yan _ _) (by rw [Yf];omega)
   have hBq:(!(Nn t.ops i).read && decide ((Nn t.ops i).key=n))=true:=hc1
   have hcc:IntKind.wrap .i64 (((((t.ops.take i).filter fun o=>!o.read && decide (o.key=n)).length:Nat):Int)+1)=((((t.ops.take (i+1)).filter fun o=>!o.read && decide (o.key=n)).length:Nat):Int):=by rw [hstp,Ye hBq,Yd,ZN ow];simp
   refine Zf G (qR rr (qp r1 (qO rr qZ))) J [11,10,9,5,4,1] [0] O O fun a w F G=>Zk (Za ?_)
   refine rZ G (qp r1 (qR rr qZ)) J [11,10,9,5,4,1] [0] fun G=>?_
   replace G:=G.ent (i:=11) (s':=.pv (.int .i64 ((i+1:Nat):Int))) O (.int (Zh ow))
   replace G:=G.ent (i:=5) (s':=.pv (.int .i64 ((((t.ops.take (i+1)).filter fun o=>!o.read && decide (o.key=n)).length:Nat):Int))) O (.int hcc)
   obtain ⟨F,G⟩:=G.nM [10,9,4,1,5,11] [0]
   exact ⟨(i+1),F,⟨by omega,tv⟩,G,by omega⟩
  have hstp:((t.ops.take (i+1)).filter fun o=>!o.read && decide (o.key=n))=((t.ops.take i).filter fun o=>!o.read && decide (o.key=n))++(if (!(Nn t.ops i).read && decide ((Nn t.ops i).key=n))=true then [(Nn t.ops i)] else []):=by rw [ZF hil,YaQ];simp only [List.filter_cons,List.filter_nil]
  have hle:((t.ops.take i).filter fun o=>!o.read && decide (o.key=n)).length≤i:=Yau (Yan _ _) (by rw [Yf];omega)
  have hBq:(!(Nn t.ops i).read && decide ((Nn t.ops i).key=n))=false:=hc1
  have hcc:((((t.ops.take i).filter fun o=>!o.read && decide (o.key=n)).length:Nat):Int)=((((t.ops.take (i+1)).filter fun o=>!o.read && decide (o.key=n)).length:Nat):Int):=by rw [hstp,Yb (by rw [hBq];simp),Y2]
  refine Yi (Zk (Za (rZ G (qp r1 (qR rr qZ)) J [11,10,9,5,4,1] [0] fun G=>?_)))
  replace G:=G.ent (i:=11) (s':=.pv (.int .i64 ((i+1:Nat):Int))) O (.int (Zh ow))
  replace G:=G.ent (i:=5) (s':=.pv (.int .i64 ((((t.ops.take (i+1)).filter fun o=>!o.read && decide (o.key=n)).length:Nat):Int))) O (.int hcc)
  obtain ⟨F,G⟩:=G.nM [10,9,4,1,5,11] [0]
  exact ⟨(i+1),F,⟨by omega,tv⟩,G,by omega⟩
 have hil:i=t.ops.length:=by simp at hc0;omega
 refine YA (Zj (Zj (Zw (Za (Ya (rZ G (qR rr (qO rr qZ)) J [4] [0] fun G=>Yg ?_))))))
 refine Zt hfr G O O O (.int (by rw [hil,Y7]))
def wcnt (l:List OpD) (k:Int):Nat:=(l.filter fun o=>!o.read && decide (o.key=k)).length
theorem Zgs {l:List OpD} {i:Nat} (h:i<l.length) (k:Int):wcnt (l.take (i+1)) k=wcnt (l.take i) k+if (Nn l i).read=false∧(Nn l i).key=k then 1 else 0:=by
 unfold wcnt
 rw [ZF h,YaQ,Yd]
 congr 1
 by_cases h1:(Nn l i).read=false∧(Nn l i).key=k
 ·rw [Ye h1];simp [h1.1,h1.2]
 ·rw [Yb h1]
  have:(!(Nn l i).read && decide ((Nn l i).key=k))=false:=by
   cases hr:(Nn l i).read with
   | true=>rfl
   | false=>simp;exact fun e=>h1 ⟨hr,e⟩
  simp [this]
theorem Zol (l:List OpD) (i:Nat) (k:Int):wcnt (l.take i) k≤i:=Yau (Yan _ _) (by rw [Yf];omega)
def ZaB (id:Int):List OpD→List OpD→Int
 | _,[]=>0
 | s,o :: r=>if ZbE o=false then 1 else if o.read=true∧o.tx=id∧(wcnt s o.key:Int)<o.nth then 6 else ZaB id (s ++ [o]) r
def Zak (t:TxD):Int:=if ¬ (1≤t.id∧t.id≤1048575) then 1 else if 4095<t.ops.length then 9 else ZaB t.id [] t.ops
theorem Zcg {id:Int} {l:List OpD} {i:Nat} (h:i<l.length):ZaB id (l.take i) (l.drop i)=if ZbE (Nn l i)=false then 1 else if (Nn l i).read=true∧(Nn l i).tx=id∧(wcnt (l.take i) (Nn l i).key:Int)<(Nn l i).nth then 6 else ZaB id (l.take (i+1)) (l.drop (i+1)):=by
 rw [Zba h,ZaB,ZF h]
theorem Zht {id:Int} {l:List OpD} {i:Nat} (h:i=l.length):ZaB id (l.take i) (l.drop i)=0:=by rw [h,Ybj];rfl
def Zi8 (id:Int) (o:OpD):Bool:=(o.read && !decide (o.tx=0)) && !decide (o.tx=id)
def Zaw (id:Int) (out:List ZbA) (o:OpD):List ZbA:=if Zi8 id o=true∧ofO o ∉ out then out ++ [ofO o] else out
def Zcn (id:Int) (l:List OpD):List ZbA:=l.foldl (Zaw id) []
def ZaF (t:TxD):List ZbA:=Zcn t.id t.ops
theorem ZhK {id:Int} {l:List OpD} {i:Nat} (h:i<l.length):Zcn id (l.take (i+1))=Zaw id (Zcn id (l.take i)) (Nn l i):=by
 unfold Zcn
 rw [ZF h,List.foldl_append]
 rfl
theorem Zgx (id:Int) (out:List ZbA) (o:OpD):(Zaw id out o).length≤out.length+1:=by
 unfold Zaw
 split <;> simp
theorem Zfy (id:Int) (l:List OpD) (i:Nat):(Zcn id (l.take i)).length≤i:=by
 have key:∀ (l:List OpD) (out:List ZbA),(l.foldl (Zaw id) out).length≤out.length+l.length:=by
  intro l
  induction l with
  | nil=>intro out;simp
  | cons x l ih=>
   intro out
   have h1:=ih (Zaw id out x)
   have h2:=Zgx id out x
   rw [Yav,Yv];omega
 have:=key (l.take i) []
 rw [Yf] at this
 unfold Zcn
 simp at this ⊢
 omega
structure ZaN where
 key:Int
 nth:Int
 deriving DecidableEq,Inhabited
def ZaP (p:ZaN):List Int:=[p.key,p.nth]
def Zcp (v:ZbA):List Int:=[v.tx,v.key,v.nth]
def Zbv (es:List (GE ZaN Int)) (s:List OpD):Prop:=∀ k n,0≤n→(gGet (⟨k,n⟩:ZaN) es).getD 0=if n=0 then (wcnt s k:Int) else if n≤wcnt s k then 1 else 0
theorem ZkN:Zbv [] []:=fun k n h=>by
 show (0:Int)=_
 have:wcnt [] k=0:=rfl
 rw [this]
 split
 ·rfl
 ·rw [Yb (by simp;omega)]
theorem ZjV {es:List (GE ZaN Int)} {l:List OpD} {i:Nat} (h:Zbv es (l.take i)) (hi:i<l.length) (hr:(Nn l i).read=true):Zbv es (l.take (i+1)):=fun k n hn=>by
 rw [h k n hn,Zgs hi,Yb (c:=(Nn l i).read=false∧(Nn l i).key=k) (by simp [hr]),YaO]
theorem ZkH {es es2:List (GE ZaN Int)} {l:List OpD} {i:Nat} {c:Int} (h:Zbv es (l.take i)) (hi:i<l.length) (hr:(Nn l i).read=false) (hc:c=(wcnt (l.take i) (Nn l i).key:Int)+1)
  (he:∀ p,(gGet p es2).getD 0=if p = ⟨(Nn l i).key,c⟩ then 1 else if p = ⟨(Nn l i).key,0⟩ then c else (gGet p es).getD 0):Zbv es2 (l.take (i+1)):=fun k n hn=>by
 have hk:=h k n hn
 rw [he,hk,Zgs hi]
 by_cases e:(Nn l i).key=k
 ·rw [Ye (c:=(Nn l i).read=false∧_) ⟨hr,e⟩]
  rw [e] at hc
  rw [e]
  by_cases e2:n=c
  ·subst e2
   rw [Ye rfl,Yb ow,Ye ow]
  ·rw [Yb (by simp [e2])]
   by_cases e3:n=0
   ·subst e3
    rw [Ye rfl,Ye rfl,hc];simp
   ·rw [Yb (by simp [e3]),Yb e3,Yb e3]
    by_cases e4:n≤(wcnt (l.take i) k:Int)
    ·rw [Ye e4,Ye ow]
    ·rw [Yb e4,Yb ow]
 ·rw [Yb (c:=(Nn l i).read=false∧_) (by simp [e]),YaO,Yb (by simp;exact fun h=>absurd h.symm e),Yb (by simp;exact fun h=>absurd h.symm e)]
def ZcN (es:List (GE ZbA Int)) (i:Nat) (out:List ZbA):Prop:=∀ v,0≤(gGet v es).getD 0∧(gGet v es).getD 0≤i∧(0<(gGet v es).getD 0 ↔ v ∈ out)
theorem Zmg:ZcN [] 0 []:=fun v=>⟨Ya6 _,Ya6 _,by show (0:Int)<0 ↔ _;simp⟩
theorem ZmG {es:List (GE ZbA Int)} {i:Nat} {out:List ZbA} (h:ZcN es i out):ZcN es (i+1) out:=fun v=>⟨(h v).1,by have:=(h v).2.1;omega,(h v).2.2⟩
theorem ZmX {es es2:List (GE ZbA Int)} {i:Nat} {out:List ZbA} {v:ZbA} (h:ZcN es i out) (he:∀ u,(gGet u es2).getD 0=if u=v then (gGet v es).getD 0+1 else (gGet u es).getD 0):ZcN es2 (i+1) (if v ∈ out then out else out ++ [v]):=fun u=>by
 have h1:=h u
 have h2:=h v
 rw [he u]
 by_cases e:u=v
 ·subst e
  rw [Ye rfl]
  refine ⟨by omega,by omega,?_⟩
  constructor
  ·intro _;split <;> simp_all
  ·intro _;omega
 ·rw [Yb e]
  refine ⟨by omega,by omega,?_⟩
  rw [h1.2.2]
  split
  ·rfl
  ·simp [e]
theorem Zfr {κ:Type} [DecidableEq κ] {k p:κ} {x:Int} (s:List (GE κ Int)×Nat):(gGet p (gSet k x (gEns 0 k s).1)).getD 0=if p=k then x else (gGet p s.1).getD 0:=by
 rw [Zi2];split <;> rfl
theorem Zmt {κ:Type} [DecidableEq κ] {k p:κ} {x:Int} (s:List (GE κ Int)×Nat):(gGet p (gPut k x s).1).getD 0=if p=k then x else (gGet p s.1).getD 0:=by
 rw [ZfN];split <;> rfl
theorem Zet:ZlX prog 97 (fun k=>∀ x ∈ ZaP k,inR .i64 x) (kvS ZaP):=Zed (n:=2) (fun _=>rfl) (fun a b h=>by cases a;cases b;simpa [ZaP] using h) kr
theorem Zlg:ZlX prog 101 (fun k=>∀ x ∈ Zcp k,inR .i64 x) (kvS Zcp):=Zed (n:=3) (fun _=>rfl) (fun a b h=>by cases a;cases b;simpa [Zcp] using h) kr
theorem ZgQ {es:List (GE ZaN Int)} {s:List OpD} {o:OpD} {id:Int} (h:Zbv es s) (hk:ZbE o=true) (hr:o.read=true) (hid:1≤id):(o.tx=id∧(gGet (⟨o.key,o.nth⟩:ZaN) es).getD 0=0) ↔ (o.read=true∧o.tx=id∧(wcnt s o.key:Int)<o.nth):=by
 have hb:=ZkQ hk
 have h1:=h o.key o.nth ow
 constructor
 ·rintro ⟨e1,e2⟩
  refine ⟨hr,e1,?_⟩
  have hn:1≤o.nth:=by
   rw [Ze9 hr] at hk
   unfold ofO at hk
   rw [Ye hr] at hk
   unfold ZbF at hk
   rw [Yb (show ¬ o.tx=0 by omega)] at hk
   simp at hk
   omega
  rw [e2,Yb ow] at h1
  split at h1
  ·cases h1
  ·omega
 ·rintro ⟨_,e1,e2⟩
  refine ⟨e1,?_⟩
  rw [h1,Yb ow,Yb ow]
theorem Zhm (t:TxD):FnP prog 16 [.agg (rTx t)] (.int .i64 (Zak t)):=by
 refine FnP.mk func16 O ntmps16 O fun B a w F J hfr G=>Ya ?_
 refine Zb G (qx 101 r1 (qI qZ)) J [2,1] [101,0] (fun _=>rfl) (fun _=>rfl) fun τ a w F G=>?_
 try dsimp only [RS.sub,SF.sub,CF.sub,csub,Anc.sub,List.map,zCF,rInt,rOp,rTx] at G
 generalize τ 1=v1 at G
 refine Za (Ya (Yj (Ya (rZ G (qg 0 101 r1 r1 (qa 101 r1 r1 (qf (Zcz .t qi) r1 qz (qR rr (qv 0 101 O r2 r1 (qw 101 O r2 r1 (qk O (fun h=>Zbs (.w h) qi) r2 qz (qf (ZaM .t .t) r2 qz (qO rr qZ))))))))) J [7,2,1] [101,0] fun G=>?_))))
 refine Zc G O (fun hc0=>?_) (fun hc0=>?_)
 ·have hg:1=Zak t:=by unfold Zak;rw [Ye (by simp at hc0;omega)]
  refine Ya (rZ G (qI qZ) J [2,1] [101,0] fun G=>(Yg (Zl (Ze ?_))))
  refine Zt hfr G O O O (.int hg)
 have hid:1≤t.id∧t.id≤1048575:=by simp at hc0;omega
 refine Ya (rZ G (qg 2 101 r1 r1 (qa 101 r1 r1 (qu YbC r1 (qf (Zbs .t qi) r1 qz (qO rr qZ))))) J [16,2,1] [101,0] fun G=>?_)
 refine Zc G O (fun hc1=>?_) (fun hc1=>?_)
 ·have hg:9=Zak t:=by unfold Zak;rw [Yb ow,Ye (by simp at hc1;omega)]
  refine Ya (rZ G (qI qZ) J [2,1] [101,0] fun G=>(Yg (Zl (Ze ?_))))
  refine Zt hfr G O O O (.int hg)
 have hlen:t.ops.length≤4095:=by simp at hc1;omega
 have hT:Zak t=ZaB t.id [] t.ops:=by unfold Zak;rw [Yb ow,Yb ow]
 refine Yi (Zk (Za (Ya (Zb G (qf (Z7 (ek:=(fun n:Int=>PV.int .i64 n)) (ok:=(fun k=>∀ x ∈ ZaP k,inR .i64 x)) (kv:=(kvS ZaP)) 102) trivial qz (qO rr qZ)) J [3,2,1] [102,101,0] (fun _=>rfl) (fun _=>rfl) fun τ a w F G=>?_))))
 try dsimp only [RS.sub,SF.sub,CF.sub,csub,Anc.sub,List.map,Zg,xL,xM,Nat.reduceAdd,xD,xE,xT,xU,xC,xN,zCF,rInt,rOp,rTx] at G
 generalize τ 21=v21 at G
 refine Za (Ya (Ya (rZ G (qg 2 101 r1 r1 (qa 101 r1 r1 (qu YbC r1 (qJ qZ)))) J [25,24,23,3,2,1] [102,101,0] fun G=>Yj ?_)))
 refine Zo (σ:=(Nat)×(List (GE ZaN Int))×(Nat)) [1,2,3,23,24] [0,101] (fun s=>[(25,.pv (.int .i64 (s.1:Int)))]) (fun s=>[(102,.ob (.val v21) (ZbO (fun n:Int=>PV.int .i64 n) (fun k=>∀ x ∈ ZaP k,inR .i64 x) (kvS ZaP) s.2.1 s.2.2))]) (fun s=>s.1≤t.ops.length∧(ZaB t.id [] t.ops=ZaB t.id (t.ops.take s.1) (t.ops.drop s.1)∧Zbv s.2.1 (t.ops.take s.1))) (fun s=>t.ops.length - s.1) ((0),([]),(0)) G ⟨rfl,rfl,rfl,rfl,rfl,rfl,tv⟩ ⟨rfl,rfl,rfl,tv⟩ ⟨Yr _,⟨rfl,ZkN⟩⟩ ?_
 clear G;intro s a w F hC G
 obtain ⟨i,es,ck⟩:=s
 try dsimp only at hC
 obtain ⟨F,G⟩:=G.nM [25,24,23,3,2,1] [102,101,0]
 try dsimp only at G
 obtain ⟨hi,hq⟩:=hC
 obtain ⟨hrt,hsp⟩:=hq
 have hwl:=fun k=>Zol t.ops i k
 refine Ya (rZ G (qL r2) J [26,25,24,23,3,2,1] [102,101,0] fun G=>Ya ?_)
 refine Zc G O (fun hc2=>?_) (fun hc2=>?_)
 ·have hil:i<t.ops.length:=by simp at hc2;omega
  refine Yi (Za (Ya (Yj (Ya (Zb G (qy 4 YbC r2 (qf (oR true 4 .t) r1 qz (qf (oH [.bool false,.int .i64 0,.int .i64 0,.int .i64 0] 103) trivial qz (qS 4 103 r2 r1 qZ)))) J [25,24,23,5,3,2,1] [103,102,101,0] (fun _=>rfl) (fun _=>rfl) fun τ a w F G=>?_)))))
  try dsimp only [RS.sub,SF.sub,CF.sub,csub,Anc.sub,List.map,Zg,xL,xM,Nat.reduceAdd,xD,xE,xT,xU,xC,xN,zCF,ldSF,rInt,rOp,rTx] at G
  generalize τ 5=v5 at G
  try simp only [Yc] at G
  refine Za (Ya (Ya (rZ G (qe 4 103 r1 r1 (qf (oP (ZjZ (Nn t.ops i)) func39 (Args.one (.pagg .t))) r1 qz (qO rr qZ))) J [25,24,23,6,5,3,2,1] [103,102,101,0] fun G=>Ya ?_)))
  refine rZ G (qR rr (qf (o_neq .t qi) r1 qz qZ)) J [32,25,24,23,6,5,3,2,1] [103,102,101,0] fun G=>?_
  refine Zc G O (fun hc3=>?_) (fun hc3=>?_)
  ·have hk:ZbE (Nn t.ops i)=false:=by unfold ZbM at hc3;simpa using hc3
   have hg:ZbM (Nn t.ops i)=Zak t:=by rw [hT,hrt,Zcg hil,Ye hk];unfold ZbM;rw [hk];rfl
   refine Ya (rZ G (qR rr (qO rr qZ)) J [25,24,23,5,3,2,1] [103,102,101,0] fun G=>(Yg (Ze (Zl (Ze (Ze (Zl (Ze ?_))))))))
   refine Zt hfr G O O O (.int hg)
  have hk:ZbE (Nn t.ops i)=true:=by unfold ZbM at hc3;simpa using hc3
  refine Yi (Za (Ya (Ya (rZ G (qg 0 103 r1 r1 (qa 103 r1 r1 (qf (o_not .t) r1 qz qZ))) J [36,25,24,23,5,3,2,1] [103,102,101,0] fun G=>?_))))
  refine Zc G O (fun hc4=>?_) (fun hc4=>?_)
  ·have hr:(Nn t.ops i).read=false:=by simpa using hc4
   have hm0:=hsp (Nn t.ops i).key 0 (Ya6 _)
   rw [Ye rfl] at hm0
   have hwc:IntKind.wrap .i64 (((gGet (⟨(Nn t.ops i).key,0⟩:ZaN) es).getD 0)+1)=(wcnt (t.ops.take i) (Nn t.ops i).key:Int)+1:=by rw [hm0];exact ZN (by have:=hwl (Nn t.ops i).key;omega)
   refine Ya ?_
   replace G:=G.turnZ 102 (0) (⟨(Nn t.ops i).key,0⟩:ZaN) rfl
   refine Zel 102 8 (m1:=1) (m2:=2) kr G kr (qR rr (qg 1 103 r1 r1 (qa 103 r1 r1 (qf (oB [(0,.tmp 39),(1,_)] [.int .i64 0,.int .i64 0] [(0,1),(1,1)] (.one O .t one_int kr (.one O qi one_int kr .nil))) r1 qz (qf (ZgR (ek:=(fun n:Int=>PV.int .i64 n)) (z0:=(0)) 102 underlying94 Zet kr (fun _ _=>⟨rfl,Zi3⟩) .is (ZM.agg (enc:=ZaP) (k:=(⟨(Nn t.ops i).key,0⟩:ZaN)) (.pagg .t) O)) r2 r1 (qp r1 (qf (Zew (ek:=(fun n:Int=>PV.int .i64 n)) (z0:=(0)) 102 underlying94 Zet kr (fun _ _=>⟨rfl,Zi3⟩) .is (ZM.agg (enc:=ZaP) (k:=(⟨(Nn t.ops i).key,0⟩:ZaN)) (.pagg .t) O) (by intros;first | rfl | simp [Anc.v,upd])) r2 r1 (qf (Zi .t O) r1 qz (qf (Zc5 102 (Zd3 _ _ _) .is .t .t) r3 r1 qZ))))))))) kr kr kr O O O (fun _ _ _ _ h=>.inr h) (by rw [J];kernel_rfl) fun a w F G=>?_
   obtain ⟨F,G⟩:=G.nM [25,24,23,5,3,2,1] [103,102,101,0]
   try dsimp only [List.map,Zg,xL,xM,Nat.reduceAdd,xD,xE,xT,xU,xC,xN,zCF,ldSF,rInt,rOp,rTx] at G
   obtain ⟨es1,he1⟩:∃ z,z=gSet (⟨(Nn t.ops i).key,0⟩:ZaN) (IntKind.wrap .i64 (((gGet (⟨(Nn t.ops i).key,0⟩:ZaN) es).getD 0)+1)) (gEns 0 (⟨(Nn t.ops i).key,0⟩:ZaN) (es,ck)).1:=⟨_,rfl⟩
   obtain ⟨ck1,hc1⟩:∃ z,z=(gEns 0 (⟨(Nn t.ops i).key,0⟩:ZaN) (es,ck)).2:=⟨_,rfl⟩
   rw [← he1,← hc1] at G
   refine Za (Ya (ZO G (qR rr (qg 1 103 r1 r1 (qa 103 r1 r1 (qR rr (qg 1 103 r1 r1 (qa 103 r1 r1 (qf (oB [(0,.tmp 50),(1,_)] [.int .i64 0,.int .i64 0] [(0,1),(1,1)] (.one O .t one_int kr (.one O qi one_int kr .nil))) r1 qz (qf (Za7 (ek:=(fun n:Int=>PV.int .i64 n)) (z0:=(0)) 102 underlying94 Zet kr (fun _ _=>⟨rfl,Zi3⟩) .is (ZM.agg (enc:=ZaP) (k:=(⟨(Nn t.ops i).key,0⟩:ZaN)) (.pagg .t) O)) r2 r1 (qf (oB [(0,.tmp 47),(1,.tmp 52)] [.int .i64 0,.int .i64 0] [(0,1),(1,1)] (.one O .t one_int kr (.one O .t one_int kr .nil))) r2 qz (qf (Zb0 (ek:=(fun n:Int=>PV.int .i64 n)) 102 underlying94 Zet .is (ZM.agg (enc:=ZaP) (k:=(⟨(Nn t.ops i).key,(gGet (⟨(Nn t.ops i).key,0⟩:ZaN) es1).getD 0⟩:ZaN)) (.pagg .t) O) qi) r2 r1 qZ)))))))))) J [25,24,23,5,3,2,1] [103,102,101,0] O O fun a w F G=>?_))
   try dsimp only [List.map,Zg,xL,xM,Nat.reduceAdd,xD,xE,xT,xU,xC,xN,zCF,ldSF,rInt,rOp,rTx] at G
   have hv1:∀ p,(gGet p es1).getD 0=if p=(⟨(Nn t.ops i).key,0⟩:ZaN) then (wcnt (t.ops.take i) (Nn t.ops i).key:Int)+1 else (gGet p es).getD 0:=fun p=>by rw [he1,Zfr,hwc]
   obtain ⟨es2,he2⟩:∃ z,z=(gPut (⟨(Nn t.ops i).key,(gGet (⟨(Nn t.ops i).key,0⟩:ZaN) es1).getD 0⟩:ZaN) 1 (es1,ck1)).1:=⟨_,rfl⟩
   obtain ⟨ck2,hc2⟩:∃ z,z=(gPut (⟨(Nn t.ops i).key,(gGet (⟨(Nn t.ops i).key,0⟩:ZaN) es1).getD 0⟩:ZaN) 1 (es1,ck1)).2:=⟨_,rfl⟩
   rw [← he2,← hc2] at G
   have hR2:ZaB t.id [] t.ops=ZaB t.id (t.ops.take (i+1)) (t.ops.drop (i+1))∧Zbv es2 (t.ops.take (i+1)):=⟨by rw [hrt,Zcg hil,Yb (by rw [hk];decide),Yb (by rw [hr];simp)],ZkH hsp hil hr rfl (fun p=>by rw [he2,Zmt];dsimp only;rw [hv1,hv1,Ye rfl])⟩
   refine Za (YA (Zj (Zw (Za (rZ G (qp r1 (qR rr qZ)) J [25,24,23,3,2,1] [103,102,101,0] fun G=>?_)))))
   replace G:=G.ent (i:=25) (s':=.pv (.int .i64 ((i+1:Nat):Int))) O (.int (Zh ow))
   obtain ⟨F,G⟩:=G.nM [24,23,3,2,1,25] [101,0,102]
   exact ⟨((i+1),(es2),(ck2)),F,⟨by omega,hR2⟩,G,by omega⟩
  have hr:(Nn t.ops i).read=true:=by simpa using hc4
  refine Yi (Za (Ya (rZ G (qg 2 103 r1 r1 (qa 103 r1 r1 (qg 0 101 r1 r1 (qa 101 r1 r1 (qf (o_eql .t .t) r2 qz (qR rr (qm O O O O (qv 1 103 O r2 r1 (qw 103 O r2 r1 (qv 3 103 O r2 r1 (qw 103 O r2 r1 (qk O (fun h=>Zkq (r:=[(0,.tmp 62),(1,.tmp 64)]) (zs:=[.int .i64 0,.int .i64 0]) (pl:=[(0,1),(1,1)]) kr kr (.one O (.w h) one_int kr (.one O (.w h) one_int kr .nil)) (by rfl)) r3 qz (qk O (fun h=>Za7 (ek:=(fun n:Int=>PV.int .i64 n)) (z0:=(0)) 102 underlying94 Zet kr (fun _ _=>⟨rfl,Zi3⟩) (.w h .is) (ZM.agg (enc:=ZaP) (k:=(⟨(Nn t.ops i).key,(Nn t.ops i).nth⟩:ZaN)) (.pagg (.w h)) O)) r3 r1 (qk O (fun h=>o_eql (.w h) qi) r2 qz (qf (ZR .t .t) r2 qz qZ))))))))))))))) J [68,25,24,23,3,2,1] [103,102,101,0] fun G=>?_)))
  refine Zc G O (fun hc5=>?_) (fun hc5=>?_)
  ·have hg:6=Zak t:=by rw [hT,hrt,Zcg hil,Yb (by rw [hk];decide),Ye ((ZgQ hsp hk hr hid.1).1 (by simpa using hc5))]
   refine Ya (rZ G (qI qZ) J [25,24,23,3,2,1] [103,102,101,0] fun G=>(Yg (Zl (Ze (Ze (Zl (Ze ?_)))))))
   refine Zt hfr G O O O (.int hg)
  have hno:=fun h9=>(by simpa using hc5:¬ ((Nn t.ops i).tx=t.id∧(gGet (⟨(Nn t.ops i).key,(Nn t.ops i).nth⟩:ZaN) es).getD 0=0)) ((ZgQ hsp hk hr hid.1).2 h9)
  obtain ⟨es2,he2⟩:∃ z,z=es:=⟨_,rfl⟩
  obtain ⟨ck2,hc2⟩:∃ z,z=ck:=⟨_,rfl⟩
  have hR2:ZaB t.id [] t.ops=ZaB t.id (t.ops.take (i+1)) (t.ops.drop (i+1))∧Zbv es2 (t.ops.take (i+1)):=⟨by rw [hrt,Zcg hil,Yb (by rw [hk];decide),Yb hno],by rw [he2];exact ZjV hsp hil hr⟩
  rw [← he2,← hc2] at G
  refine Yi (Zk (Za (rZ G (qp r1 (qR rr qZ)) J [25,24,23,3,2,1] [103,102,101,0] fun G=>?_)))
  replace G:=G.ent (i:=25) (s':=.pv (.int .i64 ((i+1:Nat):Int))) O (.int (Zh ow))
  obtain ⟨F,G⟩:=G.nM [24,23,3,2,1,25] [101,0,102]
  exact ⟨((i+1),(es2),(ck2)),F,⟨by omega,hR2⟩,G,by omega⟩
 have hil:i=t.ops.length:=by simp at hc2;omega
 have hg:0=Zak t:=by rw [hT,hrt,Zht hil]
 refine YA (Zj (Zj (Zw (Za (Ya (rZ G (qI qZ) J [2] [102,101,0] fun G=>Yg ?_))))))
 refine Zt hfr G O O O (.int hg)
theorem Zgw (t:TxD) (hl:t.ops.length≤1000000):FnP prog 41 [.agg (rTx t)] (.sl ZX (ZaF t)):=by
 refine FnP.mk func41 O ntmps41 O fun B a w F J hfr G=>Ya ?_
 refine Zb G (qx 101 r1 (qC qZ)) J [2,1] [101,0] (fun _=>rfl) (fun _=>rfl) fun τ a w F G=>?_
 try dsimp only [RS.sub,SF.sub,CF.sub,csub,Anc.sub,List.map,zCF,rInt,rOp,rTx,ZX] at G
 generalize τ 1=v1 at G
 refine Za (Ya (rZ G (qC qZ) J [3,2,1] [101,0] fun G=>Ya ?_))
 refine Zb G (qf (Z7 (ek:=(fun n:Int=>PV.int .i64 n)) (ok:=(fun k=>∀ x ∈ Zcp k,inR .i64 x)) (kv:=(kvS Zcp)) 102) trivial qz (qO rr qZ)) J [4,3,2,1] [102,101,0] (fun _=>rfl) (fun _=>rfl) fun τ a w F G=>?_
 try dsimp only [RS.sub,SF.sub,CF.sub,csub,Anc.sub,List.map,Zg,xL,xM,Nat.reduceAdd,xD,xE,xT,xU,xC,xN,zCF,rInt,rOp,rTx,ZX] at G
 generalize τ 8=v8 at G
 refine Za (Ya (Ya (rZ G (qg 2 101 r1 r1 (qa 101 r1 r1 (qu YbC r1 (qJ qZ)))) J [12,11,10,4,3,2,1] [102,101,0] fun G=>Yj ?_)))
 replace G:=G.fresh 50 rfl
 replace G:=G.turn 50 O (Zbm (T:=101) (sz:=3) (R:=ZX))
 refine Zo (σ:=(Nat)×(List (GE ZbA Int))×(Nat)×(Value)×(List ZbA)) [1,2,4,10,11] [0,101] (fun s=>[(12,.pv (.int .i64 (s.1:Int))),(3,.pv (.is s.2.2.2.1))]) (fun s=>[(102,.ob (.val v8) (ZbO (fun n:Int=>PV.int .i64 n) (fun k=>∀ x ∈ Zcp k,inR .i64 x) (kvS Zcp) s.2.1 s.2.2.1)),(50,.ob (.val s.2.2.2.1) (Zs 101 3 ZX s.2.2.2.2))]) (fun s=>s.1≤t.ops.length∧(s.2.2.2.2=Zcn t.id (t.ops.take s.1)∧ZcN s.2.1 s.1 s.2.2.2.2)) (fun s=>t.ops.length - s.1) ((0),([]),(0),(.slice none 0 0),([])) G ⟨rfl,rfl,rfl,rfl,rfl,rfl,rfl,tv⟩ ⟨rfl,rfl,rfl,rfl,tv⟩ ⟨Yr _,⟨rfl,Zmg⟩⟩ ?_
 clear G;intro s a w F hC G
 obtain ⟨i,es,ck,v,out⟩:=s
 try dsimp only at hC
 obtain ⟨F,G⟩:=G.nM [12,11,10,4,3,2,1] [102,101,50,0]
 try dsimp only at G
 obtain ⟨hi,hq⟩:=hC
 obtain ⟨hou,hvi⟩:=hq
 have hol:out.length≤i:=by rw [hou];exact Zfy _ _ _
 have hst:=fun hil:i<t.ops.length=>ZhK (id:=t.id) hil
 refine Ya (rZ G (qL r2) J [13,12,11,10,4,3,2,1] [102,101,50,0] fun G=>Ya ?_)
 refine Zc G O (fun hc0=>?_) (fun hc0=>?_)
 ·have hil:i<t.ops.length:=by simp at hc0;omega
  refine Yi (Za (Ya (Yj (Ya (Zb G (qy 4 YbC r2 (qf (oR true 4 .t) r1 qz (qf (oH [.bool false,.int .i64 0,.int .i64 0,.int .i64 0] 103) trivial qz (qS 4 103 r2 r1 qZ)))) J [12,11,10,6,4,3,2,1] [103,102,101,50,0] (fun _=>rfl) (fun _=>rfl) fun τ a w F G=>?_)))))
  try dsimp only [RS.sub,SF.sub,CF.sub,csub,Anc.sub,List.map,Zg,xL,xM,Nat.reduceAdd,xD,xE,xT,xU,xC,xN,zCF,ldSF,rInt,rOp,rTx,ZX] at G
  generalize τ 6=v6 at G
  try simp only [Yc] at G
  refine Za (Ya (Zb G (qe 4 103 r1 r1 (qf (oP (Znq (Nn t.ops i)) func66 (Args.one (.pagg .t))) r1 qz (qf (oH [.int .i64 0,.int .i64 0,.int .i64 0] 104) trivial qz (qf (oA 3 104 .same (.conv .t .agg)) r2 r1 qZ)))) J [12,11,10,7,6,4,3,2,1] [104,103,102,101,50,0] (fun _=>rfl) (fun _=>rfl) fun τ a w F G=>?_))
  try dsimp only [RS.sub,SF.sub,CF.sub,csub,Anc.sub,List.map,Zg,xL,xM,Nat.reduceAdd,xD,xE,xT,xU,xC,xN,zCF,ldSF,rInt,rOp,rTx,ZX] at G
  generalize τ 7=v7 at G
  refine Za (Ya (Ya (rZ G (qg 0 103 r1 r1 (qa 103 r1 r1 (qf (o_not .t) r1 qz (qR rr (qv 0 104 O r2 r1 (qw 104 O r2 r1 (qk O (fun h=>o_eql (.w h) qi) r2 qz (qf (ZaM .t .t) r2 qz (qR rr (qv 0 104 O r2 r1 (qw 104 O r2 r1 (qv 0 101 O r2 r1 (qw 101 O r2 r1 (qk O (fun h=>o_eql (.w h) (.w h)) r3 qz (qf (ZaM .t .t) r2 qz qZ))))))))))))))) J [32,12,11,10,7,4,3,2,1] [104,103,102,101,50,0] fun G=>?_)))
  refine Zc G O (fun hc1=>?_) (fun hc1=>?_)
  ·have hno:Zi8 t.id (Nn t.ops i)=false:=by unfold Zi8;unfold ofO at hc1;cases hr:(Nn t.ops i).read <;> simp [hr] at hc1 ⊢;omega
   obtain ⟨es2,he2⟩:∃ z,z=es:=⟨_,rfl⟩
   obtain ⟨ck2,hc2⟩:∃ z,z=ck:=⟨_,rfl⟩
   obtain ⟨out2,ho2⟩:∃ z,z=out:=⟨_,rfl⟩
   have hR2:out2=Zcn t.id (t.ops.take (i+1))∧ZcN es2 (i+1) out2:=⟨by rw [ho2,hou,hst hil];unfold Zaw;rw [Yb (by rw [hno];simp)],by rw [he2,ho2];exact ZmG hvi⟩
   rw [← he2,← hc2,← ho2] at G
   refine YA (Zj (Zw (Za (rZ G (qp r1 (qR rr qZ)) J [12,11,10,4,3,2,1] [103,102,101,50,0] fun G=>?_))))
   replace G:=G.ent (i:=12) (s':=.pv (.int .i64 ((i+1:Nat):Int))) O (.int (Zh ow))
   obtain ⟨F,G⟩:=G.nM [11,10,4,2,1,3,12] [101,0,50,102]
   exact ⟨((i+1),(es2),(ck2),_,(out2)),F,⟨by omega,hR2⟩,G,by omega⟩
  have hyes:Zi8 t.id (Nn t.ops i)=true:=by unfold Zi8;unfold ofO at hc1;cases hr:(Nn t.ops i).read <;> simp [hr] at hc1 ⊢;exact hc1
  have hvr:=hvi (ofO (Nn t.ops i))
  have hw1:IntKind.wrap .i64 (((gGet (ofO (Nn t.ops i)) es).getD 0)+1)=((gGet (ofO (Nn t.ops i)) es).getD 0)+1:=ZN (by have:=Sat.lenSl G (i:=10) rfl;omega)
  refine Yi (Za (Ya ?_))
  replace G:=G.turnZ 102 (0) (ofO (Nn t.ops i)) rfl
  refine Zel 102 6 (m1:=1) (m2:=2) kr G kr (qR rr (qe 3 104 r1 r1 (qf (ZgR (ek:=(fun n:Int=>PV.int .i64 n)) (z0:=(0)) 102 underlying141 Zlg kr (fun _ _=>⟨rfl,Zi3⟩) .is (ZM.agg (enc:=Zcp) (k:=(ofO (Nn t.ops i))) (.pagg .t) O)) r2 r1 (qp r1 (qf (Zew (ek:=(fun n:Int=>PV.int .i64 n)) (z0:=(0)) 102 underlying141 Zlg kr (fun _ _=>⟨rfl,Zi3⟩) .is (ZM.agg (enc:=Zcp) (k:=(ofO (Nn t.ops i))) (.pagg .t) O) (by intros;first | rfl | simp [Anc.v,upd])) r2 r1 (qf (Zi .t O) r1 qz (qf (Zc5 102 (Zd3 _ _ _) .is .t .t) r3 r1 qZ))))))) kr kr kr O O O (fun _ _ _ _ h=>.inr h) (by rw [J];kernel_rfl) fun a w F G=>?_
  obtain ⟨F,G⟩:=G.nM [12,11,10,7,4,3,2,1] [104,103,102,101,50,0]
  try dsimp only [List.map,xD,xE,xT,xU,ldSF,rInt,rOp,rTx,ZX] at G
  obtain ⟨es2,he2⟩:∃ z,z=gSet (ofO (Nn t.ops i)) (IntKind.wrap .i64 (((gGet (ofO (Nn t.ops i)) es).getD 0)+1)) (gEns 0 (ofO (Nn t.ops i)) (es,ck)).1:=⟨_,rfl⟩
  obtain ⟨ck2,hc2⟩:∃ z,z=(gEns 0 (ofO (Nn t.ops i)) (es,ck)).2:=⟨_,rfl⟩
  rw [← he2,← hc2] at G
  have hvv:∀ u,(gGet u es2).getD 0=if u=(ofO (Nn t.ops i)) then ((gGet (ofO (Nn t.ops i)) es).getD 0)+1 else (gGet u es).getD 0:=fun u=>by rw [he2,Zfr,hw1]
  have hmv:(gGet (ofO (Nn t.ops i)) es2).getD 0=((gGet (ofO (Nn t.ops i)) es).getD 0)+1:=by rw [hvv,Ye rfl]
  have hvs:=ZmX hvi hvv
  refine Za (Ya (rZ G (qR rr (qe 3 104 r1 r1 (qf (Za7 (ek:=(fun n:Int=>PV.int .i64 n)) (z0:=(0)) 102 underlying141 Zlg kr (fun _ _=>⟨rfl,Zi3⟩) .is (ZM.agg (enc:=Zcp) (k:=(ofO (Nn t.ops i))) (.pagg .t) O)) r2 r1 (qf (o_eql .t qi) r1 qz qZ)))) J [42,12,11,10,7,4,3,2,1] [104,103,102,101,50,0] fun G=>?_))
  refine Zc G O (fun hc2=>?_) (fun hc2=>?_)
  ·have hnm:(ofO (Nn t.ops i)) ∉ out:=by rw [← hvr.2.2];rw [hmv] at hc2;simp at hc2;omega
   obtain ⟨out2,ho2⟩:∃ z,z=out ++ [(ofO (Nn t.ops i))]:=⟨_,rfl⟩
   have hR2:out2=Zcn t.id (t.ops.take (i+1))∧ZcN es2 (i+1) out2:=⟨by rw [ho2,hst hil];unfold Zaw;rw [Ye ⟨hyes,by rw [← hou];exact hnm⟩,← hou],by have:=hvs;rw [Yb hnm] at this;rw [ho2];exact this⟩
   refine Zb G (qR rr (qe 3 104 r1 r1 (qf (Zz (sz:=3) (zs:=[.int .i64 0,.int .i64 0,.int .i64 0]) (r:=[(0,.tmp 44)]) (l:=[_,_,_]) YbH kr kr kr kr O O (.agg O .t kr kr .nil) O) r1 qz (qf (Z4 (sz:=3) (bs:=24) 50 (.mk' YbH kr kr) (by intro x;rfl) .is (.arr (l':=[_]) .t) (by simp only [Yd,Yv,YS,Yf,Yt];omega) (by decide)) ⟨rfl,rfl,tv⟩ ⟨rfl,tv⟩ (qO rr qZ))))) J [12,11,10,4,3,2,1] [103,102,101,50,0] (fun _=>rfl) (fun _=>rfl) fun τ a w F G=>?_
   try dsimp only [RS.sub,SF.sub,CF.sub,csub,Anc.sub,List.map,Zg,xL,xM,Nat.reduceAdd,xD,xE,xT,xU,xC,xN,zCF,ldSF,rInt,rOp,rTx,ZX] at G
   generalize τ 46=v46 at G
   rw [← ho2] at G
   refine Zk (Za (rZ G (qp r1 (qR rr qZ)) J [12,11,10,4,3,2,1] [103,102,101,50,0] fun G=>?_))
   replace G:=G.ent (i:=12) (s':=.pv (.int .i64 ((i+1:Nat):Int))) O (.int (Zh ow))
   obtain ⟨F,G⟩:=G.nM [11,10,4,2,1,3,12] [101,0,50,102]
   exact ⟨((i+1),(es2),(ck2),_,(out2)),F,⟨by omega,hR2⟩,G,by omega⟩
  have hnm:(ofO (Nn t.ops i)) ∈ out:=by rw [← hvr.2.2];rw [hmv] at hc2;simp at hc2;omega
  obtain ⟨out2,ho2⟩:∃ z,z=out:=⟨_,rfl⟩
  have hR2:out2=Zcn t.id (t.ops.take (i+1))∧ZcN es2 (i+1) out2:=⟨by rw [ho2,hst hil];unfold Zaw;rw [Yb (by rw [← hou];simp [hnm])];exact hou,by have:=hvs;rw [Ye hnm] at this;rw [ho2];exact this⟩
  rw [← ho2] at G
  refine Yi (Zk (Za (rZ G (qp r1 (qR rr qZ)) J [12,11,10,4,3,2,1] [103,102,101,50,0] fun G=>?_)))
  replace G:=G.ent (i:=12) (s':=.pv (.int .i64 ((i+1:Nat):Int))) O (.int (Zh ow))
  obtain ⟨F,G⟩:=G.nM [11,10,4,2,1,3,12] [101,0,50,102]
  exact ⟨((i+1),(es2),(ck2),_,(out2)),F,⟨by omega,hR2⟩,G,by omega⟩
 have hil:i=t.ops.length:=by simp at hc0;omega
 refine YA (Zj (Zj (Zw (Za (Ya (rZ G (qR rr (qO rr qZ)) J [2] [102,101,50,0] fun G=>Yg ?_))))))
 obtain ⟨F,G⟩:=G.give 50 2 O rfl
 refine Zt hfr G O O O (.sl (by rw [hou,hil,Y7];rfl))
end Go.Proofs.YthfoojdlcjfmcaaGreatDoor
