/- The library's sort of integers. No condition beyond those that each theorem says. -/
import Derived.Shelf.Sort.Plain
import Derived.Shelf.Slices.In.SortNone
import Derived.Test.YtcfgcpcakdknkaaGreatOr0
namespace Go.Proofs.YtcfgcpcakdknkaaGreat
open Go Go.Gm
set_option linter.unusedVariables false
set_option linter.unusedSimpArgs false
set_option maxHeartbeats 4000000
set_option maxRecDepth 8000
def laysSort_ren:Go.Shelf.Ren:=⟨fun | 189=>82 | 125=>123 | 257=>122 | 128=>160 | 129=>161 | 294=>151 | 295=>152 | 296=>153 | 297=>154 | 298=>155 | 299=>156 | 216=>157 | 300=>158 | 301=>159 | 328=>177 | 329=>178 | 330=>179 | 331=>180 | 332=>181 | 215=>147 | 343=>186 | n=>n,fun | 28=>35 | 3=>3 | 46=>147 | 0=>0 | 51=>178 | 53=>180 | 4=>4 | 183=>170 | 182=>169 | 131=>175 | 5=>5 | 9=>9 | 218=>193 | 222=>197 | 228=>200 | 229=>201 | n=>n,fun  | n=>n⟩
theorem laysSort:Lays.n189 Tryz.prog laysSort_ren where
 mixed:=by kernel_rfl
 f125:=Tryz.func123.trans (congrArg some (by kernel_rfl))
 f128:=Tryz.func160.trans (congrArg some (by kernel_rfl))
 f129:=Tryz.func161.trans (congrArg some (by kernel_rfl))
 f189:=Tryz.func82.trans (congrArg some (by kernel_rfl))
 f215:=Tryz.func147.trans (congrArg some (by kernel_rfl))
 f216:=Tryz.func157.trans (congrArg some (by kernel_rfl))
 f257:=Tryz.func122.trans (congrArg some (by kernel_rfl))
 f294:=Tryz.func151.trans (congrArg some (by kernel_rfl))
 f295:=Tryz.func152.trans (congrArg some (by kernel_rfl))
 f296:=Tryz.func153.trans (congrArg some (by kernel_rfl))
 f297:=Tryz.func154.trans (congrArg some (by kernel_rfl))
 f298:=Tryz.func155.trans (congrArg some (by kernel_rfl))
 f299:=Tryz.func156.trans (congrArg some (by kernel_rfl))
 f300:=Tryz.func158.trans (congrArg some (by kernel_rfl))
 f301:=Tryz.func159.trans (congrArg some (by kernel_rfl))
 f328:=Tryz.func177.trans (congrArg some (by kernel_rfl))
 f329:=Tryz.func178.trans (congrArg some (by kernel_rfl))
 f330:=Tryz.func179.trans (congrArg some (by kernel_rfl))
 f331:=Tryz.func180.trans (congrArg some (by kernel_rfl))
 f332:=Tryz.func181.trans (congrArg some (by kernel_rfl))
 f343:=Tryz.func186.trans (congrArg some (by kernel_rfl))
 t0:=Tryz.underlying0
 a0:=Tryz.isAgg0
 z0:=Tryz.sizeOf0
 v0:=Tryz.zeroValue0
 t3:=Tryz.underlying3
 a3:=Tryz.isAgg3
 z3:=Tryz.sizeOf3
 v3:=Tryz.zeroValue3
 t4:=Tryz.underlying4
 a4:=Tryz.isAgg4
 z4:=Tryz.sizeOf4
 v4:=Tryz.zeroValue4
 t5:=Tryz.underlying5
 a5:=Tryz.isAgg5
 z5:=Tryz.sizeOf5
 v5:=Tryz.zeroValue5
 t9:=Tryz.underlying9
 a9:=Tryz.isAgg9
 z9:=Tryz.sizeOf9
 v9:=Tryz.zeroValue9
 t28:=Tryz.underlying35
 a28:=Tryz.isAgg35
 z28:=Tryz.sizeOf35
 v28:=Tryz.zeroValue35
 t46:=Tryz.underlying147
 a46:=Tryz.isAgg147
 z46:=Tryz.sizeOf147
 v46:=Tryz.zeroValue147
 t51:=Tryz.underlying178
 a51:=Tryz.isAgg178
 z51:=Tryz.sizeOf178
 v51:=Tryz.zeroValue178
 t53:=Tryz.underlying180
 a53:=Tryz.isAgg180
 z53:=Tryz.sizeOf180
 v53:=Tryz.zeroValue180
 t131:=Tryz.underlying175
 a131:=Tryz.isAgg175
 z131:=Tryz.sizeOf175
 v131:=Tryz.zeroValue175
 t182:=Tryz.underlying169
 a182:=Tryz.isAgg169
 z182:=Tryz.sizeOf169
 v182:=Tryz.zeroValue169
 t183:=Tryz.underlying170
 a183:=Tryz.isAgg170
 z183:=Tryz.sizeOf170
 v183:=Tryz.zeroValue170
 t218:=Tryz.underlying193
 a218:=Tryz.isAgg193
 z218:=Tryz.sizeOf193
 v218:=Tryz.zeroValue193
 t222:=Tryz.underlying197
 a222:=Tryz.isAgg197
 z222:=Tryz.sizeOf197
 v222:=Tryz.zeroValue197
 t228:=Tryz.underlying200
 a228:=Tryz.isAgg200
 z228:=Tryz.sizeOf200
 v228:=Tryz.zeroValue200
 t229:=Tryz.underlying201
 a229:=Tryz.isAgg201
 z229:=Tryz.sizeOf201
 v229:=Tryz.zeroValue201
theorem sort_none (w:World):Calls Tryz.prog 82 #[.slice none 0 0] w (fun e w'=>e = .returned (.tuple #[])∧w' = w):=
 Go.calls_of_every_depth fun D=>Go.Proofs.AnyS.slices_Sort_int_none_in laysSort D none 0 w
theorem PVs_ints {w:World} {y:Ys} : ∀ {l:List Int} {xs:List Value},PVs (l.flatMap rInt) xs w y→xs=l.map (Value.int .i64) ∧ ∀ x ∈ l,inR .i64 x
 | [],[],_=>⟨rfl,fun x hx=>by cases hx⟩
 | [],_ :: _,h=>h.elim
 | x :: l,[],h=>h.elim
 | x :: l,v :: xs,h=>by
   have h1:v = .int .i64 x∧inR .i64 x:=h.1.2
   obtain ⟨h2,h3⟩:=PVs_ints (l:=l) (xs:=xs) h.2
   exact ⟨by rw [h1.1,h2];rfl,fun z hz=>by rcases List.mem_cons.1 hz with rfl | hz;exact h1.2;exact h3 z hz⟩
theorem PVs_of_ints {w:World} {y:Ys} : ∀ {l:List Int},(∀ x ∈ l,inR .i64 x)→PVs (l.flatMap rInt) (l.map (Value.int .i64)) w y
 | [],_=>trivial
 | x :: l,h=>⟨⟨rfl,rfl,h x (by simp)⟩,PVs_of_ints fun z hz=>h z (by simp [hz])⟩
theorem get_ints {l:List Int} {j:Nat} (hj:j<l.length):(l.toArray)[j]! = l[j]:=by simp [hj]
theorem sorted_heap {w:World} {g n:Nat} {d:List Int} {os:Array Obj} {cur:Array Value} {e:TypeId} (hg:w.heap[g]? = some (.cells cur e (0,0))) (b:Nat) (hb:b<w.heap.size) :
   (Go.Sort.grow (Go.Sort.putRow (Value.int .i64) (Go.Sort.ahead w n) g 0 d.toArray) os).heap[b]? = if b=g then some (.cells (Go.Sort.putCells (Value.int .i64) 0 d.toArray cur) e (0,0)) else w.heap[b]?:=by
 unfold Go.Sort.grow Go.Sort.putRow Go.Sort.mapBlock Go.Sort.ahead
 simp only
 rw [Array.getElem?_append_left (by simpa using hb),Array.getElem?_modify]
 by_cases h:g=b
 · subst h
   rw [if_pos rfl,if_pos rfl,hg];rfl
 · rw [if_neg h,if_neg (fun e=>h e.symm)]
theorem put_take {cur:Array Value} {d:List Int} (h:d.length≤cur.size):(Go.Sort.putCells (Value.int .i64) 0 d.toArray cur).toList.take d.length=d.map (Value.int .i64):=by
 apply List.ext_getElem
 · simp [Go.Sort.putCells];omega
 · intro i h1 h2
   have hi:i<d.length:=by simpa using h2
   simp [Go.Sort.putCells,hi]
theorem sort_c (v:Value) (l:List Int) (hlm:l.length≤1000000):FnG Tryz.prog 82 1 [.is v] [rowH 3 1 rInt l v] (.tup []) (fun _=>[rowH 3 1 rInt (l.mergeSort leI) v]):=fun w F vs hw hle hvs hpr=>by
 match vs,hvs with
 | [u],hvs=>
   have hu:u=v:=hvs.1.1
   subst hu
   obtain ⟨xs,⟨hxl,hx⟩,hp,hf⟩:=hpr 0 _ rfl
   rcases hx with ⟨rfl,h0⟩ | ⟨g,cap,cur,rfl,_,hg,hn,hcap,hcs,hct⟩
   · have hl:l = []:=List.eq_nil_of_length_eq_zero h0
     subst hl
     refine (sort_none w).mono ?_
     rintro e w' ⟨rfl,rfl⟩
     refine ⟨.tuple #[],F,rfl,hw,⟨rfl,rfl,rfl,Nat.le_refl _,fun _ _ _=>rfl,fun _ _=>rfl,fun n hn b hb=>.inl ⟨n,hn,hb⟩⟩,hle,⟨[],rfl,trivial⟩,fun i h hi=>?_⟩
     match i,hi with
     | 0,hi=>simp at hi;subst hi;exact ⟨xs,⟨hxl,.inl ⟨rfl,rfl⟩⟩,by simpa using hp,hf⟩
   · have hgs:g<w.heap.size:=(Array.getElem?_eq_some_iff.1 hg).1
     obtain ⟨hxe,hin⟩:=PVs_ints hp
     have hcl:l.length≤cur.size:=by rw [hcs];omega
     have hbig:l.length<4611686018427387904:=by omega
     have hcur:∀ j (hj:j<l.length),cur[j]? = some (.int .i64 l[j]):=fun j hj=>by
       have h1:(cur.toList.take (l.length*1))[j]? = (l.map (Value.int .i64))[j]?:=by rw [hct,hxe]
       rw [List.getElem?_take_of_lt (by omega)] at h1
       simpa [hj] using h1
     have hH:Go.Sort.Holds (Value.int .i64) w g 0 l.toArray:=fun j hj=>by
       have hj':j<l.length:=by simpa using hj
       refine ⟨?_,?_⟩
       · rw [get_ints hj',Nat.zero_add,cell_of_block hg];exact hcur j hj'
       · simp [World.frozen?,hg]
     have hcalls:Calls Tryz.prog 82 #[.slice (some ⟨g,0,none⟩) l.length cap] w fun e w'=>e = .returned (.tuple #[]) ∧ ∃ n os,w' = Go.Sort.grow (Go.Sort.putRow (Value.int .i64) (Go.Sort.ahead w n) g 0 (l.mergeSort leI).toArray) os:=Go.Proofs.Any.slices_Sort_int laysSort g 0 cap l w hH hgs hbig
     refine hcalls.mono ?_
     rintro e w' ⟨rfl,n,os,rfl⟩
     have hsl:(l.mergeSort leI).length=l.length:=List.length_mergeSort l
     have hheap:=fun b hb=>sorted_heap (n:=n) (d:=l.mergeSort leI) (os:=os) hg b hb
     have hsz:(Go.Sort.grow (Go.Sort.putRow (Value.int .i64) (Go.Sort.ahead w n) g 0 (l.mergeSort leI).toArray) os).heap.size=w.heap.size+os.size:=by simp [Go.Sort.ahead]
     have hfg:F 1 g:=(hf g).2 rfl
     have hst:Stp (List.range' 1 1) w F (Go.Sort.grow (Go.Sort.putRow (Value.int .i64) (Go.Sort.ahead w n) g 0 (l.mergeSort leI).toArray) os) F:=
       ⟨rfl,rfl,rfl,by rw [hsz];omega,fun b hb hn=>by
         rw [hheap b hb,if_neg (fun e=>by subst e;exact hn 1 (by simp) hfg)],fun _ _=>rfl,fun n hn b hb=>.inl ⟨n,hn,hb⟩⟩
     refine ⟨.tuple #[],F,rfl,⟨hw.dis,fun n b hb=>by rw [hsz];have:=hw.bd n b hb;omega⟩,hst,hle,⟨[],rfl,trivial⟩,fun i h hi=>?_⟩
     match i,hi with
     | 0,hi=>
       simp only [List.getElem?_cons_zero,Option.some.injEq] at hi
       subst hi
       refine ⟨(l.mergeSort leI).map (Value.int .i64),⟨by simp,.inr ⟨g,cap,_,by rw [hsl],Nat.zero_le _,(hheap g hgs).trans (if_pos rfl),by omega,hcap,by simp [Go.Sort.putCells,hcs],?_⟩⟩,PVs_of_ints fun x hx=>hin x ((List.mergeSort_perm l leI).mem_iff.1 hx),hf⟩
       rw [Nat.mul_one];exact put_take (by omega)
end Go.Proofs.YtcfgcpcakdknkaaGreat
