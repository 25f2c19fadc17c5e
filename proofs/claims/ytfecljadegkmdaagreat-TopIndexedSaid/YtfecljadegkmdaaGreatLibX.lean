/- Walks: what is told of internal/bytealg;going over texts;arrays. No condition. -/
import Derived.Test.YtfecljadegkmdaaGreatLibW
import Derived.Lib.Bytealg
import Derived.Lib.MakeNoZero
import Derived.Laws.RangeAny
namespace Go.Gm
set_option linter.unusedVariables false
set_option linter.unusedSimpArgs false
section
variable {P:Program} {d:Option Nat} {t ty:TypeId} {pos:String} {af:Array Edge} {g:Option (Nat×Bool)} {x y:Operand} {ps qs:List (Nat×SF)}
end
end Go.Gm
namespace Go.Gm
set_option linter.unusedVariables false
set_option linter.unusedSimpArgs false
def PV.eqv (v:Value):PV:=⟨fun u _ _=>u=v,fun _ h=>h⟩
section
variable {P:Program} {d:Option Nat} {t ty:TypeId} {pos:String} {af:Array Edge} {g:Option (Nat×Bool)} {x y:Operand} {ps qs:List (Nat×SF)} {l:List UInt8} {k:Nat}
end
end Go.Gm
namespace Go.Gm
set_option linter.unusedVariables false
set_option linter.unusedSimpArgs false
section
variable {P:Program} {d:Option Nat} {t t' ty:TypeId} {pos:String} {af:Array Edge} {g:Option (Nat×Bool)} {x y:Operand} {ps qs:List (Nat×SF)} {k:IntKind} {i:Int} {T:TypeId} {α:Type} {f:α→PV} {l:List α} {u:Value}
end
end Go.Gm
namespace Go.Gm
set_option linter.unusedVariables false
set_option linter.unusedSimpArgs false
theorem PVs.at {w y} : ∀ {l:List PV} {vs:List Value} {k:Nat} {p:PV},PVs l vs w y→l[k]? = some p → ∃ v,vs[k]? = some v∧p.p v w y
 | [],_,_,_,_,h=>by simp at h
 | q :: l,[],_,_,h,_=>h.elim
 | q :: l,v :: vs,0,p,h,hk=>by
  simp at hk;subst hk
  exact ⟨v,rfl,h.1.2⟩
 | q :: l,v :: vs,k+1,p,h,hk=>by
  obtain ⟨u,h1,h2⟩:=PVs.at h.2 (by simpa using hk)
  exact ⟨u,by simpa using h1,h2⟩
section
variable {P:Program} {d:Option Nat} {t ty:TypeId} {pos:String} {af:Array Edge} {g:Option (Nat×Bool)} {x:Operand} {ps:List (Nat×SF)}
end
end Go.Gm
namespace Go.Gm
set_option linter.unusedVariables false
set_option linter.unusedSimpArgs false
section
variable {P:Program} {d:Option Nat} {ty:TypeId} {pos:String} {af:Array Edge} {g:Option (Nat×Bool)} {ps:List (Nat×SF)} {x:Operand} {α:Type} {R:α→List PV} {l:List α}
end
end Go.Gm
namespace Go.Gm
set_option linter.unusedVariables false
set_option linter.unusedSimpArgs false
inductive ZO (P:Program) (ops:Array Oper):En→List Oper→List CD→En→Prop
 | nil {E:En} : ZO P ops E [] [] E
 | cons {E:En} {o:Oper} {c:CD} {l:List Oper} {cs:List CD} {E':En} (hc:Cert P ops o c) (hs:Z1 E.s c.ps) (hr:Z1 E.r c.pr)
     (t:ZO P ops (E.step o c) l cs E'):ZO P ops E (o :: l) (c :: cs) E'
 | norm {E:En} {l:List Oper} {cs:List CD} {E':En} (L:List (Nat×SF)) (R:List (Nat×RS)) (hL:Z1 E.s L) (hR:Z1 E.r R) (t:ZO P ops ⟨L,R⟩ l cs E'):ZO P ops E l cs E'
theorem cG {P:Program} {ops:Array Oper} {E:En} {o:Oper} {c:CD} {l:List Oper} {cs:List CD} {E':En} (hg:o.guard=none) (h:OpC P o c) (hs:Z1 E.s c.ps) (hr:Z1 E.r c.pr) (t:ZO P ops (E.step o c) l cs E'):ZO P ops E (o :: l) (c :: cs) E':=ZO.cons (Cert.free hg h) hs hr t
section
variable {P:Program} {ops:Array Oper} {Q:Exit→Act→World→Prop}
theorem Zg0 {B:ZaK} {rest:List Oper} {l:List Oper} {cs:List CD} {E E':En} (hc:ZO P ops E l cs E'):∀ (named:List Nat) (a:Act) (w:World) (F:Fp),
  okSeq l cs named=true→dstsIn B.n l=true→(∀ x ∈ E.s,∀ j ∈ x.2.deps,j ∈ named)→(∀ x ∈ E.r,∀ j ∈ x.2.deps,j ∈ named)→Sat B E a w F →
  (∀ a w F,Sat B E' a w F→wpList P ops Q rest a w)→wpList P ops Q (l++rest) a w:=by
 induction hc with
 | nil=>
  intro named a w F ho hd hs hr G hQ
  exact hQ a w F G
 | @norm E l cs E' L R hL hR t ih=>
  intro named a w F ho hd hs hr G hQ
  obtain ⟨F',hS'⟩:=G.norm L R hL hR
  exact ih named a w F' ho hd (fun x hx=>hs x (Zab (hL.get x hx))) (fun x hx=>hr x (Zab (hR.get x hx))) hS' hQ
 | @cons E o c l cs E' hc hls hlr t ih=>
  intro named a w F ho hd hs hr G hQ
  simp only [okSeq,Yr] at ho
  simp only [dstsIn,Yr] at hd
  have hdd:∀ i,o.dst=some i→i<a.tmps.size:=by
   intro i hi
   have:=hd.1
   rw [hi] at this
   rw [G.n]
   exact YV (by simpa [Yav] using this)
  rw [Ya6]
  refine wpList_step fun K hK=>hc a w F K Q G.wf (fun x hx=>G.s _ _ (hls.get x hx)) (fun x hx=>G.r _ _ (hlr.get x hx)) ?_
  intro v w' F' hwf' hst hq hqr
  refine hK _ _ ?_
  have hnd:∀ j,j ∈ named→o.dst≠some j:=by
   intro j hj e
   have:=ho.1
   rw [e] at this
   simp [hj] at this
  have keeps:=ZdJ (c:=c) (v:=v) hdd G.wf hst
  refine ih (c.deps++named) _ _ F' ho.2 hd.2 ?_ ?_ ⟨hwf',G.ev.trans hst.ev,by rw [Act.size_put];exact G.n,by rw [Act.defers_put];exact G.df,?_,?_,?_⟩ hQ
  ·intro x hx j hj
   simp only [En.step] at hx
   split at hx
   ·rcases Yo.1 hx with rfl | hx
    ·exact Yaf _ (by simp [CD.deps,hj])
    ·exact Y0 _ (hs x hx j hj)
   ·exact Y0 _ (hs x hx j hj)
  ·intro x hx j hj
   simp only [En.step] at hx
   rcases YC.1 hx with hx | hx
   ·refine Yaf _ ?_
    simp only [CD.deps]
    exact Y0 _ (List.mem_flatMap.2 ⟨x,hx,hj⟩)
   ·exact Y0 _ (hr x hx j hj)
  ·intro i s hl
   have hold:look E.s i=some s→o.dst≠some i→s.holds (Act.tau (a.put o.dst v)) w' (U F') (Act.tau (a.put o.dst v) i):=fun hl hi=>
    keeps.1 i s (fun j hj=>hnd j (hs _ (Zab hl) j hj)) hi (G.s i s hl)
   simp only [En.step] at hl
   cases hdst:o.dst with
   | none=>rw [hdst] at hl hold;exact hold hl XA
   | some d=>
    rw [hdst] at hl hold
    simp only [] at hl
    rw [Zf] at hl
    by_cases e:d=i
    ·subst e
     simp at hl
     subst hl
     rw [hdst] at hq hdd
     rw [Act.tau_put a (some d) v hdd]
     have:upd (Act.tau a) (some d) v d=v:=by simp [upd]
     rw [this];exact hq
    ·rw [Yb e] at hl
     exact hold hl XB
  ·intro n r hl
   simp only [En.step] at hl
   rw [Zbo] at hl
   by_cases hn:n ∈ c.W
   ·obtain ⟨x,hx⟩:=Zba (l:=c.qr) (i:=n) hn
    rw [hx] at hl
    simp at hl
    subst hl
    rw [Act.tau_put a o.dst v hdd]
    exact hqr _ (Zab hx)
   ·rw [Zb2 (l:=c.qr) (i:=n) hn] at hl
    simp at hl
    exact keeps.2 n r (fun j hj=>hnd j (hr _ (Zab hl) j hj)) hn (G.r n r hl)
  ·intro n b hb
   simp only [En.step]
   rw [Zbo]
   by_cases hn:n ∈ c.W
   ·obtain ⟨x,hx⟩:=Zba (l:=c.qr) (i:=n) hn
    exact ⟨x,by rw [hx];rfl⟩
   ·rw [hst.fkeep n hn] at hb
    obtain ⟨r,hr'⟩:=G.em n b hb
    rw [Zb2 (l:=c.qr) (i:=n) hn]
    exact ⟨r,by simpa using hr'⟩
theorem ZiC {B:ZaK} {l:List Oper} {cs:List CD} {E E':En} (hc:ZO P ops E l cs E') (named:List Nat) (a:Act) (w:World) (F:Fp) (h1:okSeq l cs named=true) (h2:dstsIn B.n l=true) (h3:∀ x ∈ E.s,∀ j ∈ x.2.deps,j ∈ named) (h4:∀ x ∈ E.r,∀ j ∈ x.2.deps,j ∈ named) (G:Sat B E a w F)
  (hQ:∀ a w F,Sat B E' a w F→Q .normal a w):wpList P ops Q l a w:=by
 have:=Zg0 (rest:=[]) hc named a w F h1 h2 h3 h4 G (fun a w F h=>wpList_nil (hQ a w F h))
 rwa [Y3] at this
theorem Zc4 {B:ZaK} {l:List Oper} {cs:List CD} {E E':En} {a:Act} {w:World} {F:Fp} (n:Nat) (G:Sat B E a w F) (hE:E.shutB=true) (hc:ZO P ops E (l.take n) cs E') (ho:okSeq (l.take n) cs [] = true) (hd:dstsIn B.n (l.take n)=true)
  (hQ:∀ a w F,Sat B E' a w F→wpList P ops Q (l.drop n) a w):wpList P ops Q l a w:=by
 have:=Zg0 (rest:=l.drop n) hc [] a w F ho hd (fun x hx j hj=>by rw [(En.shut_of hE).1 x hx] at hj;cases hj) (fun x hx j hj=>by rw [(En.shut_of hE).2 x hx] at hj;cases hj) G hQ
 rwa [YaR] at this
theorem ZaS {B:ZaK} {id:Nat} {l:List Oper} {cs:List CD} {E E':En} {a:Act} {w:World} {F:Fp} (n:Nat) (G:Sat B E a w F) (hE:E.shutB=true) (hc:ZO P l.toArray E (l.take n) cs E') (ho:okSeq (l.take n) cs [] = true) (hd:dstsIn B.n (l.take n)=true)
  (hQ:∀ a w F,Sat B E' a w F→wpList P l.toArray Q (l.drop n) a w):(Code.region id l.toArray false).wp P Q a w:=
 wp_region_list (by
  rw [List.toList_toArray]
  exact Zc4 n G hE hc ho hd hQ)
theorem Zbl {B:ZaK} {l:List Oper} {cs:List CD} {E E':En} {a:Act} {w:World} {F:Fp} (G:Sat B E a w F) (hE:E.shutB=true) (hc:ZO P ops E l cs E') (ho:okSeq l cs [] = true) (hd:dstsIn B.n l=true)
  (hQ:∀ a w F,Sat B E' a w F→Q .normal a w):wpList P ops Q l a w:=
 ZiC hc [] a w F ho hd (fun x hx j hj=>by rw [(En.shut_of hE).1 x hx] at hj;cases hj) (fun x hx j hj=>by rw [(En.shut_of hE).2 x hx] at hj;cases hj) G hQ
theorem Zh1 {B:ZaK} {id:Nat} {l:List Oper} {cs:List CD} {E E':En} {a:Act} {w:World} {F:Fp} (G:Sat B E a w F) (hE:E.shutB=true)
  (hc:ZO P l.toArray E l cs E') (ho:okSeq l cs [] = true) (hd:dstsIn B.n l=true)
  (hQ:∀ a w F,Sat B E' a w F→Q .normal a w):(Code.region id l.toArray false).wp P Q a w:=
 wp_region_list (by
  rw [List.toList_toArray]
  exact ZiC hc [] a w F ho hd (fun x hx j hj=>by rw [(En.shut_of hE).1 x hx] at hj;cases hj) (fun x hx j hj=>by rw [(En.shut_of hE).2 x hx] at hj;cases hj) G hQ)
end
section
variable {P:Program} {ops:Array Oper} {E E':En} {d:Option Nat} {op:Op} {ty:TypeId} {pos:String} {af:Array Edge} {l:List Oper} {cs:List CD}
theorem nf {c:CD} (h:OpC P ⟨d,op,ty,pos,af,none⟩ c) (hs:Z1 E.s c.ps) (hr:Z1 E.r c.pr) (t:ZO P ops (E.step ⟨d,op,ty,pos,af,none⟩ c) l cs E'):ZO P ops E (⟨d,op,ty,pos,af,none⟩ :: l) (c :: cs) E':=cG rfl h hs hr t
theorem nM {i:Nat} {s:SF} (hl:look E.s i=some s) (hd:ZaL d s=true) (t:ZO P ops (E.step ⟨d,.move (.tmp i),ty,pos,af,none⟩ ⟨[(i,s)],[],s,[]⟩) l cs E'):ZO P ops E (⟨d,.move (.tmp i),ty,pos,af,none⟩ :: l) (⟨[(i,s)],[],s,[]⟩ :: cs) E':=cG rfl (o_move .t hd) ⟨hl,tv⟩ trivial t
theorem nN {i:Nat} {s:SF} (hl:look E.s i=some s) (hd:ZaL d s=true) (t:ZO P ops (E.step ⟨d,.assign (.tmp i),ty,pos,af,none⟩ ⟨[(i,s)],[],s,[]⟩) l cs E'):ZO P ops E (⟨d,.assign (.tmp i),ty,pos,af,none⟩ :: l) (⟨[(i,s)],[],s,[]⟩ :: cs) E':=cG rfl (Zgf .t hd) ⟨hl,tv⟩ trivial t
theorem nn (is ns:List Nat) {L:List (Nat×SF)} {R:List (Nat×RS)} (hL:Zbp E.s is [] = some L) (hR:Zbp E.r ns [] = some R) (t:ZO P ops ⟨L,R⟩ l cs E'):ZO P ops E l cs E':=.norm L R (Zc7 hL tv) (Zc7 hR tv) t
end
end Go.Gm
namespace Go.Gm
open Go.Lib
set_option linter.unusedVariables false
set_option linter.unusedSimpArgs false
section
variable {P:Program} {d:Option Nat} {t ty:TypeId} {pos:String} {af:Array Edge} {g:Option (Nat×Bool)} {x y:Operand} {ps qs:List (Nat×SF)} {T:TypeId}
end
end Go.Gm
