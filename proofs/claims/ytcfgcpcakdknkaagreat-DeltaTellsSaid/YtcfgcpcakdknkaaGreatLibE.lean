/- Walks: rows changed in place. No condition. -/
import Derived.Test.YtcfgcpcakdknkaaGreatLibG
import Derived.Lib.AppendZerosOnto
import Derived.Lib.Overlaps
namespace Go.Gm
set_option linter.unusedVariables false
set_option linter.unusedSimpArgs false
set_option linter.unusedSectionVars false
def capV:Value→Nat
 | .slice _ _ c=>c
 | _=>0
def headV (i:Nat):Value→Value
 | .slice a _ c=>.slice a i c
 | v=>v
section
variable {P:Program} {d:Option Nat} {t ty:TypeId} {pos:String} {af:Array Edge} {g:Option (Nat×Bool)} {x y z:Operand} {ps qs rs:List (Nat×SF)} {α:Type} {R:α→List PV} {l:List α} {e sz:Nat} {v:Value}
theorem o_head_row {k:IntKind} {j:Int} (n:Nat) (he:elemOk P t e sz) (hx:IsAnc x ps (.val v)) (hy:Opd y qs (.pv (.int k j))) (h0:0≤j) (h1:j≤l.length) :
   OpC P ⟨d,.slice t x none (some y) none,ty,pos,af,g⟩ ⟨ps++qs,[(n,.ob (.val v) (rowH e sz R l))],.pv (.is (headV j.toNat v)),[]⟩:=
 OpC.read fun act w F hp hr=>by
   obtain ⟨xs,h2,h3,h4⟩:=hr (n,.ob (.val v) (rowH e sz R l)) (by simp)
   obtain ⟨ad,cap,e1,h5,h6,h7⟩:=row_shape h2
   simp only [Anc.v] at e1
   have e2:=(hy act w _ hp.right).1
   have e3:act.eval x = .slice ad l.length cap:=by rw [hx act w _ hp.left];exact e1
   have hh:(Instr.sliceBounds true l.length cap none (some (.int k j)) none).run P w = .ok (0,j.toNat,cap) w:=by
     have:j≤cap:=by omega
     simp [Instr.sliceBounds,Instr.sliceBound,asIntOf,h0,this]
   have hv:(if cap=0 then ad else ad.map (·.add (0*sz)))=ad:=by
     split
     · rfl
     · cases ad <;> simp [Addr.add]
   refine ⟨.slice ad j.toNat cap,?_,fun τ _=>⟨by rw [e1];rfl,rfl⟩⟩
   simp only [execOp,e3,e2,Option.map_none,Option.map_some,Instr.sliceAt,Sem.run_bind,run_underlying he.1,Result.andThen_ok,Instr.slice,hh,run_sizeOf he.2,Sem.run_pure,hv,Nat.sub_zero]
theorem PVs.set {p:PV} {u:Value} {w:World} {yy:Ys} (hu:u.oneCell' = true) (hp:p.p u w yy):∀ {qs:List PV} {us:List Value} (k:Nat),k<qs.length→PVs qs us w yy→PVs (qs.set k p) (us.set k u) w yy
 | [],us,k,h,_=>by simp at h
 | q :: qs,[],k,_,h=>h.elim
 | q :: qs,x :: us,0,_,h=>⟨⟨hu,hp⟩,h.2⟩
 | q :: qs,x :: us,k+1,hk,h=>⟨h.1,PVs.set hu hp k (by simpa using hk) h.2⟩
theorem o_append_zeros {i d' bs:Nat} {m:Int} {k kn:IntKind} {tn:TypeId} {zs:List Value} {z:α} (n n':Nat) (hu:P.underlying t=some (.slice e)) (htn:P.underlying tn=some (.int kn)) (hi:(P.info? e).map (fun i=>(i.size,i.bytes,i.zero.map (·.cells.toList)))=some (sz,bs,some zs)) (hz:Nat.beq zs.length sz=true) (h0:Nat.blt 0 sz=true) (hR:∀ x,(R x).length=sz) (hp:∀ w yy,PVs (R z) zs w yy)
   (hx:Opd x ps (.pv (.is (headV i v)))) (hy:Opd y qs (.pv (.int k m))) (h1:i≤l.length) (h2:capV v<i+m.toNat) (h3:0<m) (hb:(i+m.toNat)*bs≤140737488355328) (h63:i+m.toNat≤9223372036854775807) :
   OpC P ⟨some d',.call { callee:=.builtin .append,args:=#[x,y],argTypes:=#[t,tn] },ty,pos,af,g⟩ ⟨ps++qs,[(n,.ob (.val v) (rowH e sz R l))],.same d',[(n',.ob (.slot d') (rowH e sz R (l.take i++List.replicate m.toNat z)))]⟩:=fun act w F K Q hw hpp hr ht=>by
 obtain ⟨xs,r1,r2,r3⟩:=hr (n,.ob (.val v) (rowH e sz R l)) (by simp)
 simp only [Anc.v] at r1 r3
 have hxl:=r1.1
 obtain ⟨ti,hti,hi2⟩:=Option.map_eq_some_iff.1 hi
 simp only [Prod.mk.injEq] at hi2
 obtain ⟨e1,e2,e3⟩:=hi2
 obtain ⟨zv,hz1,hz2⟩:=Option.map_eq_some_iff.1 e3
 have hzl:zs.length=sz:=Nat.eq_of_beq_eq_true hz
 have hsz:0<sz:=by simpa [Nat.blt_eq] using h0
 have hmk:(m.toNat:Int)=m:=Int.toNat_of_nonneg (by omega)
 have hmade:∀ q,(Builtin.zeroCells zv.cells q).toList=(madeCells zs.toArray (q*sz)).toList:=fun q=>by
   rw [← hz2];unfold Builtin.zeroCells madeCells;rw [← hzl,← hz2];simp
 have hil:i*sz≤l.length*sz:=Nat.mul_le_mul_right _ h1
 have hol:(xs.take (i*sz)).length=i*sz:=by rw [List.length_take];omega
 obtain ⟨base,hev,hold⟩:∃ base,headV i v = .slice base i (capV v)∧(Builtin.firstCells ti.size i (.slice base i (capV v))).run P w.drew = .ok (xs.take (i*sz)).toArray w.drew:=by
   rcases r1.2 with ⟨hv0,hn0⟩ | ⟨b,cap,cur,ev,_,hg,hnc,hcm,hcs,htake⟩
   · have hi0:i=0:=by omega
     subst hi0
     refine ⟨none,by rw [hv0];rfl,?_⟩
     simp [Builtin.firstCells]
   · refine ⟨some ⟨b,0,none⟩,by rw [ev];rfl,?_⟩
     have hsrc:∀ q u,(xs.take (i*sz))[q]? = some u→w.drew.cell? ((⟨b,0,none⟩:Addr).add q)=some u:=fun q u hq=>by
       rw [List.getElem?_take] at hq
       split at hq
       · rw [← htake,List.getElem?_take] at hq
         split at hq
         · rw [add_lit]
           have hg':w.drew.heap[b]? = some (.cells cur e (0,0)):=hg
           simp only [World.cell?,hg']
           simpa using hq
         · cases hq
       · cases hq
     have hld:=run_loadCells_list (P:=P) w.drew ⟨b,0,none⟩ (xs.take (i*sz)) hsrc
     rw [hol] at hld
     simp [Builtin.firstCells,e1,hld]
 have ex:act.eval x = .slice base i (capV v):=by rw [(hx act w (U F) hpp.left).1,hev]
 have ey:act.eval y = .int k (m.toNat:Int):=by rw [(hy act w (U F) hpp.right).1,hmk]
 have hfit:=growslice_fits (bytes:=ti.bytes) h2 (by rw [e2];exact hb)
 have hgz:=Lib.run_append_grow_zeros (P:=P) w t tn ty e ti zv k kn hu htn hti hz1 base i (capV v) (xs.take (i*sz)) hold m.toNat (by omega) (by rw [e1];exact hsz) h2 (by omega) (by
   rw [e2]
   have:m.toNat*bs≤(i+m.toNat)*bs:=Nat.mul_le_mul_right _ (by omega)
   omega) hfit
 obtain ⟨cap',hcap'⟩:∃ c,c=grownCap w (i+m.toNat) (capV v) e:=⟨_,rfl⟩
 have hge:i+m.toNat≤cap':=by rw [hcap'];exact grownCap_ge _ _ _ _
 have hle:cap' ≤ maxLen:=by rw [hcap'];exact grownCap_le_maxLen _ _ _ _ (by unfold maxLen;exact h63)
 rw [← hcap'] at hgz
 have hw2:Wf F w.drew:=⟨hw.dis,hw.bd⟩
 obtain ⟨g1,g2⟩:=new_block hw2 n' (.cells ((xs.take (i*sz)).toArray++Builtin.zeroCells zv.cells m.toNat++Builtin.zeroCells zv.cells (cap' - (i+m.toNat))) e)
 have g3:Stp [n'] w F (w.drew.alloc (.cells ((xs.take (i*sz)).toArray++Builtin.zeroCells zv.cells m.toNat++Builtin.zeroCells zv.cells (cap' - (i+m.toNat))) e)) _:=⟨g2.os,g2.tape,g2.output,g2.size,g2.keep,g2.fkeep,g2.fnew⟩
 have hrun:(execOp act.eval ⟨some d',.call { callee:=.builtin .append,args:=#[x,y],argTypes:=#[t,tn] },ty,pos,af,g⟩).run P w = .ok (.value (.slice (some ⟨w.heap.size,0,none⟩) (i+m.toNat) cap')) (w.drew.alloc (.cells ((xs.take (i*sz)).toArray++Builtin.zeroCells zv.cells m.toNat++Builtin.zeroCells zv.cells (cap' - (i+m.toNat))) e)):=by
   simp only [execOp,resolve,invoke,builtin,ex,ey,Sem.run_bind,Sem.run_pure,Result.andThen_ok,List.map_toArray,List.map_cons,List.map_nil,hgz]
 simp only [Oper.wp,hrun,Oper.upon]
 refine ht _ _ _ g1 g3 ⟨by simp [upd],rfl⟩ ?_
 intro q hq
 simp only [List.mem_singleton] at hq
 subst hq
 have hτ:upd (Act.tau act) (some d') (.slice (some ⟨w.heap.size,0,none⟩) (i+m.toNat) cap') d' = .slice (some ⟨w.heap.size,0,none⟩) (i+m.toNat) cap':=by simp [upd]
 have hml:∀ q,(madeCells zs.toArray (q*sz)).toList.length=q*sz:=fun q=>by simp [size_madeCells]
 have hll:(l.take i++List.replicate m.toNat z).length=i+m.toNat:=by simp;omega
 have hls:((xs.take (i*sz)).toArray++Builtin.zeroCells zv.cells m.toNat++Builtin.zeroCells zv.cells (cap' - (i+m.toNat))).toList=xs.take (i*sz)++(madeCells zs.toArray (m.toNat*sz)).toList++(madeCells zs.toArray ((cap' - (i+m.toNat))*sz)).toList:=by
   simp only [Array.toList_append,hmade]
 have hsub:(cap' - (i+m.toNat))*sz=cap' * sz - (i+m.toNat)*sz:=Nat.sub_mul _ _ _
 have hsz2:(i+m.toNat)*sz≤cap' * sz:=Nat.mul_le_mul_right _ hge
 have hadd:(i+m.toNat)*sz=i*sz+m.toNat*sz:=Nat.add_mul _ _ _
 refine ⟨xs.take (i*sz)++(madeCells zs.toArray (m.toNat*sz)).toList,⟨by rw [hll,List.length_append,hol,hml,hadd],.inr ⟨w.heap.size,cap',_,?_,Nat.zero_le _,heap_alloc_new _ _,by rw [hll];exact hge,hle,?_,?_⟩⟩,?_,fun b=>?_⟩
 · simp only [Anc.v,hτ,hll]
 · rw [← Array.length_toList,hls];simp only [List.length_append,hol,hml];omega
 · rw [hls,hll,hadd,List.take_append_of_le_length (by simp only [List.length_append,hol,hml];omega),List.take_of_length_le (by simp only [List.length_append,hol,hml];omega)]
 · rw [List.flatMap_append,fm_take hR]
   exact (PVs.mono g3.ev (r2.take _)).append (made_pvs hzl hsz (hp _ _) _)
 · simp [Anc.v,hτ,Value.ownBlock,eq_comm]
def cellN (i:Nat):Value→Value
 | .agg cs=>cs.toList.getD i undef
 | _=>undef
abbrev pairQ (v:Value):PV:=.agg [.is (cellN 0 v),.is (cellN 1 v)]
abbrev pairH (k1 k2:Value→HP) (v:Value):HP:=HP.star [.ob (.val (cellN 0 v)) k1,.ob (.val (cellN 1 v)) k2]
end
end Go.Gm
