/- Walks: what is told of internal/bytealg;going over texts;arrays. No condition. -/
import Derived.Test.YtdpkkdigojkpaaaGreatLibW
import Derived.Lib.Bytealg
import Derived.Lib.MakeNoZero
import Derived.Laws.RangeAny
namespace Go.Gm
set_option linter.unusedVariables false
set_option linter.unusedSimpArgs false
section
variable {P:Program} {d:Option Nat} {t ty:TypeId} {pos:String} {af:Array Edge} {g:Option (Nat×Bool)} {x y:Operand} {ps qs:List (Nat×SF)}
end
end Go.Gm
namespace Go.Gm
set_option linter.unusedVariables false
set_option linter.unusedSimpArgs false
section
variable {P:Program} {d:Option Nat} {t ty:TypeId} {pos:String} {af:Array Edge} {g:Option (Nat×Bool)} {x y:Operand} {ps qs:List (Nat×SF)} {l:List UInt8} {k:Nat}
end
end Go.Gm
namespace Go.Gm
set_option linter.unusedVariables false
set_option linter.unusedSimpArgs false
section
variable {P:Program} {d:Option Nat} {t t' ty:TypeId} {pos:String} {af:Array Edge} {g:Option (Nat×Bool)} {x y:Operand} {ps qs:List (Nat×SF)} {k:IntKind} {i:Int} {T:TypeId} {α:Type} {f:α→PV} {l:List α} {u:Value}
theorem ZoV {T:TypeId} {f:α→PV} {l:List α} {an:Anc} (τ:Tau) (w:World) (fb y:Ys) (h:(RS.pt an T (l.map fun x=>CF.pv (f x))).holds τ w fb y):(RS.ob an (ZkR T f l)).holds τ w fb y:=by
 obtain ⟨b,vs,e,h1,h2,h3⟩:=ZbY h
 have:(RS.pt (.val (an.v τ)) T (l.map fun x=>CF.pv (f x))).holds tau0 w fb y:=by
   refine RS.closed (r:=RS.pt (.val (an.v τ)) T (l.map fun x=>CF.pv (f x))) (by simp [RS.deps,Anc.deps,Zdm]) (?_:RS.holds τ w fb y (RS.pt (.val (an.v τ)) T (l.map fun x=>CF.pv (f x))))
   exact h
 exact this
theorem Zol {d' n:Nat} {zv:Value} {z:α} (m:Nat) (hz:P.zeros t=some (List.replicate n zv)) (hf:zCF zv=CF.pv (f z)) :
   OpC P ⟨some d',.alloc t,ty,pos,af,g⟩ ⟨[],[],.same d',[(m,.ob (.slot d') (ZkR t f (List.replicate n z)))]⟩:=fun a w F K Q hw hs hp ht=>
 Zne (P:=P) (d':=d') (ty:=ty) (pos:=pos) (af:=af) (g:=g) m hz a w F K Q hw hs hp (fun v w' F' h1 h2 h3 h4=>ht v w' F' h1 h2 h3 (fun q hq=>by
   simp only [List.mem_singleton] at hq
   subst hq
   have:=h4 (m,.pt (.slot d') t ((List.replicate n zv).map zCF)) (by simp)
   rw [List.map_replicate,hf] at this
   refine ZoV _ _ _ _ ?_
   rw [List.map_replicate]
   exact this))
end
end Go.Gm
namespace Go.Gm
set_option linter.unusedVariables false
set_option linter.unusedSimpArgs false
def _root_.Go.Program.fieldTO (P:Program) (s:TypeId) (f:Nat):Option (TypeId×Nat):=match P.underlying s with
 | some (.struct fs)=>match fs[f]? with
   | some fd=>some (fd.type,fd.offset)
   | none=>none
 | _=>none
theorem PVs.at {w y} : ∀ {l:List PV} {vs:List Value} {k:Nat} {p:PV},PVs l vs w y→l[k]? = some p → ∃ v,vs[k]? = some v∧p.p v w y
 | [],_,_,_,_,h=>by simp at h
 | q :: l,[],_,_,h,_=>h.elim
 | q :: l,v :: vs,0,p,h,hk=>by
   simp at hk;subst hk
   exact ⟨v,rfl,h.1.2⟩
 | q :: l,v :: vs,k+1,p,h,hk=>by
   obtain ⟨u,h1,h2⟩:=PVs.at h.2 (by simpa using hk)
   exact ⟨u,by simpa using h1,h2⟩
section
variable {P:Program} {d:Option Nat} {t ty:TypeId} {pos:String} {af:Array Edge} {g:Option (Nat×Bool)} {x:Operand} {ps:List (Nat×SF)}
theorem Zln {f:Nat} {ft:TypeId} {off:Nat} (h:P.fieldTO t f=some (ft,off)) (vs:Array Value) (w:World):(Instr.field t (.agg vs) f).run P w=(part ft vs off).run P w:=by
 unfold Program.fieldTO at h
 split at h
 · rename_i fs hu
   split at h
   · rename_i fd hf
     simp only [Option.some.injEq,Prod.mk.injEq] at h
     obtain ⟨rfl,rfl⟩:=h
     simp [Instr.field,run_underlying hu,hf,asAgg]
   · cases h
 · cases h
theorem Zg0 {f:Nat} {ft:TypeId} {off:Nat} {l:List PV} {p:PV} (h:P.fieldTO t f=some (ft,off)) (ha:P.aggB ft=some false) (hx:Opd x ps (.pv (.agg l))) (hl:l[off]? = some p) :
   OpC P ⟨d,.field t x f,ty,pos,af,g⟩ ⟨ps,[],.pv p,[]⟩:=
 OpC.pure fun a w yy hp=>by
   obtain ⟨vs,e1,hv⟩:=hx a w yy hp
   obtain ⟨v,h1,h2⟩:=PVs.at hv hl
   refine ⟨v,?_,fun _ _=>h2⟩
   simp [execOp,e1,Zln h,part,Zac ha,h1]
end
end Go.Gm
namespace Go.Gm
set_option linter.unusedVariables false
set_option linter.unusedSimpArgs false
section
variable {P:Program} {d:Option Nat} {ty:TypeId} {pos:String} {af:Array Edge} {g:Option (Nat×Bool)} {ps:List (Nat×SF)} {x:Operand} {α:Type} {R:α→List PV} {l:List α}
end
end Go.Gm
namespace Go.Gm
set_option linter.unusedVariables false
set_option linter.unusedSimpArgs false
inductive ChainN (P:Program) (ops:Array Oper):En→List Oper→List CD→En→Prop
 | nil {E:En} : ChainN P ops E [] [] E
 | cons {E:En} {o:Oper} {c:CD} {l:List Oper} {cs:List CD} {E':En} (hc:ZaY P ops o c) (hs:Z3 E.s c.ps) (hr:Z3 E.r c.pr)
     (t:ChainN P ops (E.step o c) l cs E'):ChainN P ops E (o :: l) (c :: cs) E'
 | norm {E:En} {l:List Oper} {cs:List CD} {E':En} (L:List (Nat×SF)) (R:List (Nat×RS)) (hL:Z3 E.s L) (hR:Z3 E.r R) (t:ChainN P ops ⟨L,R⟩ l cs E'):ChainN P ops E l cs E'
theorem cG {P:Program} {ops:Array Oper} {E:En} {o:Oper} {c:CD} {l:List Oper} {cs:List CD} {E':En} (hg:o.guard=none) (h:OpC P o c) (hs:Z3 E.s c.ps) (hr:Z3 E.r c.pr) (t:ChainN P ops (E.step o c) l cs E'):ChainN P ops E (o :: l) (c :: cs) E':=ChainN.cons (ZaY.free hg h) hs hr t
section
variable {P:Program} {ops:Array Oper} {Q:Exit→Act→World→Prop}
theorem ZhE {B:Za2} {rest:List Oper} {l:List Oper} {cs:List CD} {E E':En} (hc:ChainN P ops E l cs E'):∀ (named:List Nat) (a:Act) (w:World) (F:Fp),
   okSeq l cs named=true→dstsIn B.n l=true→(∀ x ∈ E.s,∀ j ∈ x.2.deps,j ∈ named)→(∀ x ∈ E.r,∀ j ∈ x.2.deps,j ∈ named)→Sat B E a w F →
   (∀ a w F,Sat B E' a w F→wpList P ops Q rest a w)→wpList P ops Q (l++rest) a w:=by
 induction hc with
 | nil=>
   intro named a w F ho hd hs hr hS hQ
   exact hQ a w F hS
 | @norm E l cs E' L R hL hR t ih=>
   intro named a w F ho hd hs hr hS hQ
   obtain ⟨F',hS'⟩:=hS.norm L R hL hR
   exact ih named a w F' ho hd (fun x hx=>hs x (Zaf (hL.get x hx))) (fun x hx=>hr x (Zaf (hR.get x hx))) hS' hQ
 | @cons E o c l cs E' hc hls hlr t ih=>
   intro named a w F ho hd hs hr hS hQ
   simp only [okSeq,Bool.and_eq_true] at ho
   simp only [dstsIn,Bool.and_eq_true] at hd
   have hdd:∀ i,o.dst=some i→i<a.tmps.size:=by
     intro i hi
     have:=hd.1
     rw [hi] at this
     rw [hS.n]
     exact of_decide_eq_true (by simpa [Nat.blt_eq] using this)
   rw [List.cons_append]
   refine wpList_step fun K hK=>hc a w F K Q hS.wf (fun x hx=>hS.s _ _ (hls.get x hx)) (fun x hx=>hS.r _ _ (hlr.get x hx)) ?_
   intro v w' F' hwf' hst hq hqr
   refine hK _ _ ?_
   have hnd:∀ j,j ∈ named→o.dst≠some j:=by
     intro j hj e
     have:=ho.1
     rw [e] at this
     simp [hj] at this
   have keeps:=ZdT (c:=c) (v:=v) hdd hS.wf hst
   refine ih (c.deps++named) _ _ F' ho.2 hd.2 ?_ ?_ ⟨hwf',hS.ev.trans hst.ev,by rw [Act.size_put];exact hS.n,by rw [Act.defers_put];exact hS.df,?_,?_,?_⟩ hQ
   · intro x hx j hj
     simp only [En.step] at hx
     split at hx
     · rcases List.mem_cons.1 hx with rfl | hx
       · exact List.mem_append_left _ (by simp [CD.deps,hj])
       · exact List.mem_append_right _ (hs x hx j hj)
     · exact List.mem_append_right _ (hs x hx j hj)
   · intro x hx j hj
     simp only [En.step] at hx
     rcases List.mem_append.1 hx with hx | hx
     · refine List.mem_append_left _ ?_
       simp only [CD.deps]
       exact List.mem_append_right _ (List.mem_flatMap.2 ⟨x,hx,hj⟩)
     · exact List.mem_append_right _ (hr x hx j hj)
   · intro i s hl
     have hold:look E.s i=some s→o.dst≠some i→s.holds (Act.tau (a.put o.dst v)) w' (U F') (Act.tau (a.put o.dst v) i):=fun hl hi=>
       keeps.1 i s (fun j hj=>hnd j (hs _ (Zaf hl) j hj)) hi (hS.s i s hl)
     simp only [En.step] at hl
     cases hdst:o.dst with
     | none=>rw [hdst] at hl hold;exact hold hl (by simp)
     | some d=>
       rw [hdst] at hl hold
       simp only [] at hl
       rw [Zg] at hl
       by_cases e:d=i
       · subst e
         simp at hl
         subst hl
         rw [hdst] at hq hdd
         rw [Act.tau_put a (some d) v hdd]
         have:upd (Act.tau a) (some d) v d=v:=by simp [upd]
         rw [this];exact hq
       · rw [if_neg e] at hl
         exact hold hl (by simpa using e)
   · intro n r hl
     simp only [En.step] at hl
     rw [Zbm] at hl
     by_cases hn:n ∈ c.W
     · obtain ⟨x,hx⟩:=Zbb (l:=c.qr) (i:=n) hn
       rw [hx] at hl
       simp at hl
       subst hl
       rw [Act.tau_put a o.dst v hdd]
       exact hqr _ (Zaf hx)
     · rw [Zcq (l:=c.qr) (i:=n) hn] at hl
       simp at hl
       exact keeps.2 n r (fun j hj=>hnd j (hr _ (Zaf hl) j hj)) hn (hS.r n r hl)
   · intro n b hb
     simp only [En.step]
     rw [Zbm]
     by_cases hn:n ∈ c.W
     · obtain ⟨x,hx⟩:=Zbb (l:=c.qr) (i:=n) hn
       exact ⟨x,by rw [hx];rfl⟩
     · rw [hst.fkeep n hn] at hb
       obtain ⟨r,hr'⟩:=hS.em n b hb
       rw [Zcq (l:=c.qr) (i:=n) hn]
       exact ⟨r,by simpa using hr'⟩
theorem Zj8 {B:Za2} {l:List Oper} {cs:List CD} {E E':En} (hc:ChainN P ops E l cs E') (named:List Nat) (a:Act) (w:World) (F:Fp) (h1:okSeq l cs named=true) (h2:dstsIn B.n l=true) (h3:∀ x ∈ E.s,∀ j ∈ x.2.deps,j ∈ named) (h4:∀ x ∈ E.r,∀ j ∈ x.2.deps,j ∈ named) (hS:Sat B E a w F)
   (hQ:∀ a w F,Sat B E' a w F→Q .normal a w):wpList P ops Q l a w:=by
 have:=ZhE (rest:=[]) hc named a w F h1 h2 h3 h4 hS (fun a w F h=>wpList_nil (hQ a w F h))
 rwa [List.append_nil] at this
theorem ZhZ {B:Za2} {l:List Oper} {cs:List CD} {E E':En} {a:Act} {w:World} {F:Fp} (n:Nat) (hS:Sat B E a w F) (hE:E.shutB=true) (hc:ChainN P ops E (l.take n) cs E') (ho:okSeq (l.take n) cs [] = true) (hd:dstsIn B.n (l.take n)=true)
   (hQ:∀ a w F,Sat B E' a w F→wpList P ops Q (l.drop n) a w):wpList P ops Q l a w:=by
 have:=ZhE (rest:=l.drop n) hc [] a w F ho hd (fun x hx j hj=>by rw [(En.shut_of hE).1 x hx] at hj;cases hj) (fun x hx j hj=>by rw [(En.shut_of hE).2 x hx] at hj;cases hj) hS hQ
 rwa [List.take_append_drop] at this
theorem Zah {B:Za2} {id:Nat} {l:List Oper} {cs:List CD} {E E':En} {a:Act} {w:World} {F:Fp} (n:Nat) (hS:Sat B E a w F) (hE:E.shutB=true) (hc:ChainN P l.toArray E (l.take n) cs E') (ho:okSeq (l.take n) cs [] = true) (hd:dstsIn B.n (l.take n)=true)
   (hQ:∀ a w F,Sat B E' a w F→wpList P l.toArray Q (l.drop n) a w):(Code.region id l.toArray false).wp P Q a w:=
 wp_region_list (by
   rw [List.toList_toArray]
   exact ZhZ n hS hE hc ho hd hQ)
theorem Zav {B:Za2} {l:List Oper} {cs:List CD} {E E':En} {a:Act} {w:World} {F:Fp} (hS:Sat B E a w F) (hE:E.shutB=true) (hc:ChainN P ops E l cs E') (ho:okSeq l cs [] = true) (hd:dstsIn B.n l=true)
   (hQ:∀ a w F,Sat B E' a w F→Q .normal a w):wpList P ops Q l a w:=
 Zj8 hc [] a w F ho hd (fun x hx j hj=>by rw [(En.shut_of hE).1 x hx] at hj;cases hj) (fun x hx j hj=>by rw [(En.shut_of hE).2 x hx] at hj;cases hj) hS hQ
theorem ZiP {B:Za2} {id:Nat} {l:List Oper} {cs:List CD} {E E':En} {a:Act} {w:World} {F:Fp} (hS:Sat B E a w F) (hE:E.shutB=true)
   (hc:ChainN P l.toArray E l cs E') (ho:okSeq l cs [] = true) (hd:dstsIn B.n l=true)
   (hQ:∀ a w F,Sat B E' a w F→Q .normal a w):(Code.region id l.toArray false).wp P Q a w:=
 wp_region_list (by
   rw [List.toList_toArray]
   exact Zj8 hc [] a w F ho hd (fun x hx j hj=>by rw [(En.shut_of hE).1 x hx] at hj;cases hj) (fun x hx j hj=>by rw [(En.shut_of hE).2 x hx] at hj;cases hj) hS hQ)
end
section
variable {P:Program} {ops:Array Oper} {E E':En} {d:Option Nat} {op:Op} {ty:TypeId} {pos:String} {af:Array Edge} {l:List Oper} {cs:List CD}
theorem nf {c:CD} (h:OpC P ⟨d,op,ty,pos,af,none⟩ c) (hs:Z3 E.s c.ps) (hr:Z3 E.r c.pr) (t:ChainN P ops (E.step ⟨d,op,ty,pos,af,none⟩ c) l cs E'):ChainN P ops E (⟨d,op,ty,pos,af,none⟩ :: l) (c :: cs) E':=cG rfl h hs hr t
theorem nM {i:Nat} {s:SF} (hl:look E.s i=some s) (hd:ZaN d s=true) (t:ChainN P ops (E.step ⟨d,.move (.tmp i),ty,pos,af,none⟩ ⟨[(i,s)],[],s,[]⟩) l cs E'):ChainN P ops E (⟨d,.move (.tmp i),ty,pos,af,none⟩ :: l) (⟨[(i,s)],[],s,[]⟩ :: cs) E':=cG rfl (Zec .t hd) ⟨hl,trivial⟩ trivial t
theorem nN {i:Nat} {s:SF} (hl:look E.s i=some s) (hd:ZaN d s=true) (t:ChainN P ops (E.step ⟨d,.assign (.tmp i),ty,pos,af,none⟩ ⟨[(i,s)],[],s,[]⟩) l cs E'):ChainN P ops E (⟨d,.assign (.tmp i),ty,pos,af,none⟩ :: l) (⟨[(i,s)],[],s,[]⟩ :: cs) E':=cG rfl (ZgY .t hd) ⟨hl,trivial⟩ trivial t
theorem nm {j sj i:Nat} {want β:Bool} {s:SF} (hj:(ops[j]?).bind (·.dst)=some sj) (hb:look E.s sj=some (.pv (.bool β))) (hl:look E.s i=some s) (hd:ZaN d s=true)
 (t:ChainN P ops (E.step ⟨d,.move (.tmp i),ty,pos,af,some (j,want)⟩ ⟨[(sj,.pv (.bool β)),(i,s)],[],.when (β=want) s,[]⟩) l cs E'):ChainN P ops E (⟨d,.move (.tmp i),ty,pos,af,some (j,want)⟩ :: l) (⟨[(sj,.pv (.bool β)),(i,s)],[],.when (β=want) s,[]⟩ :: cs) E':=.cons (.cond rfl hj fun _=>Zec .t hd) ⟨hb,hl,trivial⟩ trivial t
theorem nn (is ns:List Nat) {L:List (Nat×SF)} {R:List (Nat×RS)} (hL:Zdt E.s is [] = some L) (hR:Zdt E.r ns [] = some R) (t:ChainN P ops ⟨L,R⟩ l cs E'):ChainN P ops E l cs E':=.norm L R (ZdA hL trivial) (ZdA hR trivial) t
end
end Go.Gm
namespace Go.Gm
open Go.Lib
set_option linter.unusedVariables false
set_option linter.unusedSimpArgs false
section
variable {P:Program} {d:Option Nat} {t ty:TypeId} {pos:String} {af:Array Edge} {g:Option (Nat×Bool)} {x y:Operand} {ps qs:List (Nat×SF)} {T:TypeId}
end
end Go.Gm
