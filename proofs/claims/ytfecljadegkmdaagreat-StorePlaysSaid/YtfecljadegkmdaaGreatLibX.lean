/- Walks: what is told of internal/bytealg;going over texts;arrays. No condition. -/
import Derived.Test.YtfecljadegkmdaaGreatLibW
import Derived.Lib.Bytealg
import Derived.Lib.MakeNoZero
import Derived.Laws.RangeAny
namespace Go.Gm
set_option linter.unusedVariables false
set_option linter.unusedSimpArgs false
section
variable {P:Program} {d:Option Nat} {t ty:TypeId} {pos:String} {af:Array Edge} {g:Option (Nat×Bool)} {x y:Operand} {ps qs:List (Nat×SF)}
end
end Go.Gm
namespace Go.Gm
set_option linter.unusedVariables false
set_option linter.unusedSimpArgs false
def PV.eqv (v:Value):PV:=⟨fun u _ _=>u=v,fun _ h=>h⟩
section
variable {P:Program} {d:Option Nat} {t ty:TypeId} {pos:String} {af:Array Edge} {g:Option (Nat×Bool)} {x y:Operand} {ps qs:List (Nat×SF)} {l:List UInt8} {k:Nat}
end
end Go.Gm
namespace Go.Gm
set_option linter.unusedVariables false
set_option linter.unusedSimpArgs false
section
variable {P:Program} {d:Option Nat} {t t' ty:TypeId} {pos:String} {af:Array Edge} {g:Option (Nat×Bool)} {x y:Operand} {ps qs:List (Nat×SF)} {k:IntKind} {i:Int} {T:TypeId} {α:Type} {f:α→PV} {l:List α} {u:Value}
end
end Go.Gm
namespace Go.Gm
set_option linter.unusedVariables false
set_option linter.unusedSimpArgs false
def _root_.Go.Program.fieldTO (P:Program) (s:TypeId) (f:Nat):Option (TypeId×Nat):=match P.underlying s with
 | some (.struct fs)=>match fs[f]? with
  | some fd=>some (fd.type,fd.offset)
  | none=>none
 | _=>none
theorem PVs.at {w y} : ∀ {l:List PV} {vs:List Value} {k:Nat} {p:PV},PVs l vs w y→l[k]? = some p → ∃ v,vs[k]? = some v∧p.p v w y
 | [],_,_,_,_,h=>by simp at h
 | q :: l,[],_,_,h,_=>h.elim
 | q :: l,v :: vs,0,p,h,hk=>by
  simp at hk;subst hk
  exact ⟨v,rfl,h.1.2⟩
 | q :: l,v :: vs,k+1,p,h,hk=>by
  obtain ⟨u,h1,h2⟩:=PVs.at h.2 (by simpa using hk)
  exact ⟨u,by simpa using h1,h2⟩
section
variable {P:Program} {d:Option Nat} {t ty:TypeId} {pos:String} {af:Array Edge} {g:Option (Nat×Bool)} {x:Operand} {ps:List (Nat×SF)}
theorem Zpf {f:Nat} {ft:TypeId} {off:Nat} (h:P.fieldTO t f=some (ft,off)) (vs:Array Value) (w:World):(Instr.field t (.agg vs) f).run P w=(part ft vs off).run P w:=by
 unfold Program.fieldTO at h
 split at h
 ·rename_i fs hu
  split at h
  ·rename_i fd hf
   simp only [Yae,Prod.mk.injEq] at h
   obtain ⟨rfl,rfl⟩:=h
   simp [Instr.field,Yz hu,hf,asAgg]
  ·cases h
 ·cases h
theorem ZeL {f:Nat} {ft:TypeId} {off:Nat} {l:List PV} {p:PV} (h:P.fieldTO t f=some (ft,off)) (ha:P.aggB ft=some false) (hx:Opd x ps (.pv (.agg l))) (hl:l[off]? = some p) :
  OpC P ⟨d,.field t x f,ty,pos,af,g⟩ ⟨ps,[],.pv p,[]⟩:=
 OpC.pure fun a w yy hp=>by
  obtain ⟨vs,e1,hv⟩:=hx a w yy hp
  obtain ⟨v,h1,h2⟩:=PVs.at hv hl
  refine ⟨v,?_,fun _ _=>h2⟩
  simp [execOp,e1,Zpf h,part,Zde ha,h1]
end
end Go.Gm
namespace Go.Gm
set_option linter.unusedVariables false
set_option linter.unusedSimpArgs false
section
variable {P:Program} {d:Option Nat} {ty:TypeId} {pos:String} {af:Array Edge} {g:Option (Nat×Bool)} {ps:List (Nat×SF)} {x:Operand} {α:Type} {R:α→List PV} {l:List α}
end
end Go.Gm
namespace Go.Gm
set_option linter.unusedVariables false
set_option linter.unusedSimpArgs false
inductive ZaD (P:Program) (ops:Array Oper):En→List Oper→List CD→En→Prop
 | nil {E:En} : ZaD P ops E [] [] E
 | cons {E:En} {o:Oper} {c:CD} {l:List Oper} {cs:List CD} {E':En} (hc:Z9 P ops o c) (hs:ZaJ E.s c.ps) (hr:ZaJ E.r c.pr)
     (t:ZaD P ops (E.step o c) l cs E'):ZaD P ops E (o :: l) (c :: cs) E'
 | norm {E:En} {l:List Oper} {cs:List CD} {E':En} (L:List (Nat×SF)) (R:List (Nat×RS)) (hL:ZaJ E.s L) (hR:ZaJ E.r R) (t:ZaD P ops ⟨L,R⟩ l cs E'):ZaD P ops E l cs E'
theorem cG {P:Program} {ops:Array Oper} {E:En} {o:Oper} {c:CD} {l:List Oper} {cs:List CD} {E':En} (hg:o.guard=none) (h:OpC P o c) (hs:ZaJ E.s c.ps) (hr:ZaJ E.r c.pr) (t:ZaD P ops (E.step o c) l cs E'):ZaD P ops E (o :: l) (c :: cs) E':=ZaD.cons (Z9.free hg h) hs hr t
section
variable {P:Program} {ops:Array Oper} {Q:Exit→Act→World→Prop}
theorem Zj2 {B:Zb3} {rest:List Oper} {l:List Oper} {cs:List CD} {E E':En} (hc:ZaD P ops E l cs E'):∀ (named:List Nat) (a:Act) (w:World) (F:Fp),
  okSeq l cs named=true→dstsIn B.n l=true→(∀ x ∈ E.s,∀ j ∈ x.2.deps,j ∈ named)→(∀ x ∈ E.r,∀ j ∈ x.2.deps,j ∈ named)→Sat B E a w F →
  (∀ a w F,Sat B E' a w F→wpList P ops Q rest a w)→wpList P ops Q (l++rest) a w:=by
 induction hc with
 | nil=>
  intro named a w F ho hd hs hr O hQ
  exact hQ a w F O
 | @norm E l cs E' L R hL hR t ih=>
  intro named a w F ho hd hs hr O hQ
  obtain ⟨F',hS'⟩:=O.norm L R hL hR
  exact ih named a w F' ho hd (fun x hx=>hs x (ZaU (hL.get x hx))) (fun x hx=>hr x (ZaU (hR.get x hx))) hS' hQ
 | @cons E o c l cs E' hc hls hlr t ih=>
  intro named a w F ho hd hs hr O hQ
  simp only [okSeq,Yx] at ho
  simp only [dstsIn,Yx] at hd
  have hdd:∀ i,o.dst=some i→i<a.tmps.size:=by
   intro i hi
   have:=hd.1
   rw [hi] at this
   rw [O.n]
   exact Yv (by simpa [YaM] using this)
  rw [Y1]
  refine wpList_step fun K hK=>hc a w F K Q O.wf (fun x hx=>O.s _ _ (hls.get x hx)) (fun x hx=>O.r _ _ (hlr.get x hx)) ?_
  intro v w' F' hwf' hst hq hqr
  refine hK _ _ ?_
  have hnd:∀ j,j ∈ named→o.dst≠some j:=by
   intro j hj e
   have:=ho.1
   rw [e] at this
   simp [hj] at this
  have keeps:=ZfI (c:=c) (v:=v) hdd O.wf hst
  refine ih (c.deps++named) _ _ F' ho.2 hd.2 ?_ ?_ ⟨hwf',O.ev.trans hst.ev,by rw [Act.size_put];exact O.n,by rw [Act.defers_put];exact O.df,?_,?_,?_⟩ hQ
  ·intro x hx j hj
   simp only [En.step] at hx
   split at hx
   ·rcases Yp.1 hx with rfl | hx
    ·exact Yaw _ (by simp [CD.deps,hj])
    ·exact Y7 _ (hs x hx j hj)
   ·exact Y7 _ (hs x hx j hj)
  ·intro x hx j hj
   simp only [En.step] at hx
   rcases YH.1 hx with hx | hx
   ·refine Yaw _ ?_
    simp only [CD.deps]
    exact Y7 _ (List.mem_flatMap.2 ⟨x,hx,hj⟩)
   ·exact Y7 _ (hr x hx j hj)
  ·intro i s hl
   have hold:look E.s i=some s→o.dst≠some i→s.holds (Act.tau (a.put o.dst v)) w' (U F') (Act.tau (a.put o.dst v) i):=fun hl hi=>
    keeps.1 i s (fun j hj=>hnd j (hs _ (ZaU hl) j hj)) hi (O.s i s hl)
   simp only [En.step] at hl
   cases hdst:o.dst with
   | none=>rw [hdst] at hl hold;exact hold hl W5
   | some d=>
    rw [hdst] at hl hold
    simp only [] at hl
    rw [Zq] at hl
    by_cases e:d=i
    ·subst e
     simp at hl
     subst hl
     rw [hdst] at hq hdd
     rw [Act.tau_put a (some d) v hdd]
     have:upd (Act.tau a) (some d) v d=v:=by simp [upd]
     rw [this];exact hq
    ·rw [Yb e] at hl
     exact hold hl W6
  ·intro n r hl
   simp only [En.step] at hl
   rw [Zcz] at hl
   by_cases hn:n ∈ c.W
   ·obtain ⟨x,hx⟩:=Zcx (l:=c.qr) (i:=n) hn
    rw [hx] at hl
    simp at hl
    subst hl
    rw [Act.tau_put a o.dst v hdd]
    exact hqr _ (ZaU hx)
   ·rw [ZdG (l:=c.qr) (i:=n) hn] at hl
    simp at hl
    exact keeps.2 n r (fun j hj=>hnd j (hr _ (ZaU hl) j hj)) hn (O.r n r hl)
  ·intro n b hb
   simp only [En.step]
   rw [Zcz]
   by_cases hn:n ∈ c.W
   ·obtain ⟨x,hx⟩:=Zcx (l:=c.qr) (i:=n) hn
    exact ⟨x,by rw [hx];rfl⟩
   ·rw [hst.fkeep n hn] at hb
    obtain ⟨r,hr'⟩:=O.em n b hb
    rw [ZdG (l:=c.qr) (i:=n) hn]
    exact ⟨r,by simpa using hr'⟩
theorem Zrg {B:Zb3} {l:List Oper} {cs:List CD} {E E':En} (hc:ZaD P ops E l cs E') (named:List Nat) (a:Act) (w:World) (F:Fp) (h1:okSeq l cs named=true) (h2:dstsIn B.n l=true) (h3:∀ x ∈ E.s,∀ j ∈ x.2.deps,j ∈ named) (h4:∀ x ∈ E.r,∀ j ∈ x.2.deps,j ∈ named) (O:Sat B E a w F)
  (hQ:∀ a w F,Sat B E' a w F→Q .normal a w):wpList P ops Q l a w:=by
 have:=Zj2 (rest:=[]) hc named a w F h1 h2 h3 h4 O (fun a w F h=>wpList_nil (hQ a w F h))
 rwa [YF] at this
theorem ZkS {B:Zb3} {l:List Oper} {cs:List CD} {E E':En} {a:Act} {w:World} {F:Fp} (n:Nat) (O:Sat B E a w F) (hE:E.shutB=true) (hc:ZaD P ops E (l.take n) cs E') (ho:okSeq (l.take n) cs [] = true) (hd:dstsIn B.n (l.take n)=true)
  (hQ:∀ a w F,Sat B E' a w F→wpList P ops Q (l.drop n) a w):wpList P ops Q l a w:=by
 have:=Zj2 (rest:=l.drop n) hc [] a w F ho hd (fun x hx j hj=>by rw [(En.shut_of hE).1 x hx] at hj;cases hj) (fun x hx j hj=>by rw [(En.shut_of hE).2 x hx] at hj;cases hj) O hQ
 rwa [YY] at this
theorem ZbB {B:Zb3} {id:Nat} {l:List Oper} {cs:List CD} {E E':En} {a:Act} {w:World} {F:Fp} (n:Nat) (O:Sat B E a w F) (hE:E.shutB=true) (hc:ZaD P l.toArray E (l.take n) cs E') (ho:okSeq (l.take n) cs [] = true) (hd:dstsIn B.n (l.take n)=true)
  (hQ:∀ a w F,Sat B E' a w F→wpList P l.toArray Q (l.drop n) a w):(Code.region id l.toArray false).wp P Q a w:=
 wp_region_list (by
  rw [List.toList_toArray]
  exact ZkS n O hE hc ho hd hQ)
theorem Zb6 {B:Zb3} {l:List Oper} {cs:List CD} {E E':En} {a:Act} {w:World} {F:Fp} (O:Sat B E a w F) (hE:E.shutB=true) (hc:ZaD P ops E l cs E') (ho:okSeq l cs [] = true) (hd:dstsIn B.n l=true)
  (hQ:∀ a w F,Sat B E' a w F→Q .normal a w):wpList P ops Q l a w:=
 Zrg hc [] a w F ho hd (fun x hx j hj=>by rw [(En.shut_of hE).1 x hx] at hj;cases hj) (fun x hx j hj=>by rw [(En.shut_of hE).2 x hx] at hj;cases hj) O hQ
end
section
variable {P:Program} {ops:Array Oper} {E E':En} {d:Option Nat} {op:Op} {ty:TypeId} {pos:String} {af:Array Edge} {l:List Oper} {cs:List CD}
end
end Go.Gm
namespace Go.Gm
open Go.Lib
set_option linter.unusedVariables false
set_option linter.unusedSimpArgs false
section
variable {P:Program} {d:Option Nat} {t ty:TypeId} {pos:String} {af:Array Edge} {g:Option (Nat×Bool)} {x y:Operand} {ps qs:List (Nat×SF)} {T:TypeId}
end
end Go.Gm
