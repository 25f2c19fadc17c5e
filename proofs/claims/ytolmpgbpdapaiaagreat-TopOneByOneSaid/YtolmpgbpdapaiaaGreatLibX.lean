/- Walks: what is told of internal/bytealg;going over texts;arrays. No condition. -/
import Derived.Test.YtolmpgbpdapaiaaGreatLibW
import Derived.Lib.Bytealg
import Derived.Lib.MakeNoZero
import Derived.Laws.RangeAny
namespace Go.Gm
set_option linter.unusedVariables false
set_option linter.unusedSimpArgs false
section
variable {P:Program} {d:Option Nat} {t ty:TypeId} {pos:String} {af:Array Edge} {g:Option (Nat×Bool)} {x y:Operand} {ps qs:List (Nat×SF)}
def ZvN (_:Unit):List PV:=[.any]
theorem ZgU:∀ (n t:Nat) (acc:Array Value),(∀ v ∈ acc.toList,v.oneCell' = true) → ∀ v ∈ (Extern.BytealgMakeNoZero.digits n t acc).toList,v.oneCell' = true
 | 0,_,acc,h=>h
 | n+1,t,acc,h=>by
  rw [Extern.BytealgMakeNoZero.digits]
  refine ZgU n _ _ fun v hv=>?_
  simp only [Array.toList_push,YC,Yn] at hv
  rcases hv with hv | rfl
  ·exact h v hv
  ·rfl
theorem ZnB {w:World} {yy:Ys} : ∀ {vs:List Value},(∀ v ∈ vs,v.oneCell' = true)→PVs ((List.replicate vs.length ()).flatMap ZvN) vs w yy
 | [],_=>trivial
 | v :: vs,h=>by
  rw [Yh,List.replicate_succ,Y0]
  exact ⟨⟨h v XM,tv⟩,ZnB fun u hu=>h u (by simp [hu])⟩
theorem ZfH {w:World} (pp:Array TypeId) (t e:TypeId) (ht:P.underlying t=some (.slice e)) (n:Nat) (hn:n≤281474976710656) :
    ∃ cs:Array Value,(Extern.BytealgMakeNoZero.makeNoZero pp #[t] #[.int .i64 n]).run P w = .ok (.slice (some ⟨w.heap.size,0,none⟩) n cs.size) (w.drew.drew.alloc (.cells cs e))∧n≤cs.size∧cs.size≤maxLen ∧ ∀ v ∈ cs.toList,v.oneCell' = true:=by
  have hdef:Extern.BytealgMakeNoZero.makeNoZero pp #[t] #[.int .i64 n] =
      (do
        let .slice elem ← underlying t | stuck "bytealg.MakeNoZero: slice type expected"
        if (n : Int) < 0 || (n : Int) > 2 ^ 48 then runtimePanic (.error "makeslice: len out of range")
        let cap ← choose (.appendCap (n:Int).toNat 0 elem)
        askRoom cap
        let bytes ← choose (.extern "internal/bytealg.MakeNoZero.bytes" 0)
        let a ← newRow elem (Extern.BytealgMakeNoZero.digits cap bytes #[])
        pure (.slice (some a) (n:Int).toNat cap)):=rfl
  refine ⟨Extern.BytealgMakeNoZero.digits (grownCap w n 0 e) ((Question.extern "internal/bytealg.MakeNoZero.bytes" 0).cut (w.tape (w.drawn + 1) (.extern "internal/bytealg.MakeNoZero.bytes" 0))) #[], ?_, ?_, ?_, ZgU _ _ _ XM⟩
  · rw [hdef]
    have h1:¬ (n:Int)<0:=ow
    have h2:¬ (281474976710656:Int)<(n:Int):=ow
    simp [Yo ht,h1,h2,Question.forced,newRow,Lib.size_digits,grownCap]
  · rw [Lib.size_digits]
    simpa using grownCap_ge w n 0 e
  · rw [Lib.size_digits]
    simpa using grownCap_le_maxLen w n 0 e (by unfold maxLen;omega)
theorem Zij {f : FuncId} {fn : Func} {tys pp : Array TypeId} {e d' : TypeId} {n : Int} (m : Nat) (hf : P.funcs[f]? = some fn) (hname : (fn.name == "runtime.NumGoroutine") = false) (hb : fn.body.isNone = true) (hn : Extern.findNext fn = none) (he : Extern.find fn = some (Extern.BytealgMakeNoZero.makeNoZero pp #[t])) (hu : P.underlying t = some (.slice e)) (hx : Opd x ps (.pv (.int .i64 n))) (h0 : 0 ≤ n) (h1 : n ≤ 281474976710656) :
   OpC P ⟨some d',.call { callee:=.value (.func f),args:=#[x],argTypes:=tys },ty,pos,af,g⟩ ⟨ps,[],.same d',[(m,.ob (.slot d') (Zz e 1 ZvN (List.replicate n.toNat ())))]⟩:=fun a w F K Q hw hp hr ht=>by
 have ex:=(hx a w (U F) hp).1
 obtain ⟨cs,hrun0,hc1,hc2,hc3⟩:=ZfH (P:=P) (w:=w) pp t e hu n.toNat ow
 rw [show ((n.toNat:Nat):Int)=n by omega] at hrun0
 have hc:=run_callFunc_extern (P:=P) hf hname hb hn he #[.int .i64 n] w
 have e2:a.eval (.func f) = .func (.func f) #[] #[]:=rfl
 rw [hrun0] at hc
 have hrun:(execOp a.eval ⟨some d',.call { callee:=.value (.func f),args:=#[x],argTypes:=tys },ty,pos,af,g⟩).run P w = .ok (.value (.slice (some ⟨w.heap.size,0,none⟩) n.toNat cs.size)) (w.drew.drew.alloc (.cells cs e)):=by
   simpa [execOp,resolve,ex,e2,Deferred.ofValue,invoke] using hc
 have hwd:Wf F w.drew.drew:=⟨hw.dis,hw.bd⟩
 obtain ⟨g1,g2⟩:=ZaJ hwd m (.cells cs e)
 have g3:Stp [m] w F (w.drew.drew.alloc (.cells cs e)) (fun k=>if k=m then fun b=>b=w.drew.drew.heap.size else F k):=⟨g2.os,g2.tape,g2.output,g2.size,g2.keep,g2.fkeep,g2.fnew⟩
 simp only [Oper.wp,hrun,Oper.upon]
 refine ht _ _ _ g1 g3 ⟨by simp [upd],rfl⟩ ?_
 intro q hq
 simp only [Yn] at hq
 subst hq
 have hτ:upd (Act.tau a) (some d') (.slice (some ⟨w.heap.size,0,none⟩) n.toNat cs.size) d' = .slice (some ⟨w.heap.size,0,none⟩) n.toNat cs.size:=KI
 have htl:(cs.toList.take n.toNat).length=n.toNat:=by rw [Yp];simp;omega
 refine ⟨cs.toList.take n.toNat,⟨by simp [htl],.inr ⟨w.heap.size,cs.size,cs,?_,YA _,Yat w.drew.drew _,by simpa using hc1,hc2,by simp,?_⟩⟩,?_,fun b=>?_⟩
 · simp only [Anc.v,hτ,Ybb]
 · simp
 · have:=ZnB (w:=w.drew.drew.alloc (.cells cs e)) (yy:=U (fun k=>if k=m then fun b=>b=w.drew.drew.heap.size else F k)) (vs:=cs.toList.take n.toNat) (fun v hv=>hc3 v (Yaw hv))
   rw [htl] at this
   exact this
 · simp [Anc.v,hτ,Value.ownBlock,Yaj]
theorem Zrp {α β:Type} {T sz:Nat} {R:α→List PV} {R':β→List PV} {v:Value} (τ:Tau) (w:World) (f y:Ys) (h:(RS.ob (.val v) (Zz T sz R ([]:List α))).holds τ w f y):(RS.ob (.val v) (Zz T sz R' ([]:List β))).holds τ w f y:=by
 obtain ⟨xs,h1,h2,h3⟩:=h
 exact ⟨xs,h1,by match xs,h2 with
  | [],_=>trivial,h3⟩
theorem ZiJ {e:TypeId} (hu:P.underlying t=some (.slice e)) (hx:Opd x ps (.pv (.is (.slice none 0 0)))) :
  OpC P ⟨d,.call { callee:=.builtin .cap,args:=#[x],argTypes:=#[t] },ty,pos,af,g⟩ ⟨ps,[],.pv (.int .i64 0),[]⟩:=
 OpC.pure fun a w yy hp=>by
  have e1:=(hx a w yy hp).1
  refine ⟨.int .i64 0,?_,fun _ _=>⟨rfl,by simp [inR,IntKind.min,IntKind.max,IntKind.signed,IntKind.bits]⟩⟩
  simp [execOp,resolve,invoke,builtin,e1,Builtin.cap_,Yo hu,goInt]
theorem ZtI {α:Type} {R:α→List PV} {e sz T:TypeId} {a:Anc} {t2:TypeId} (n:Nat) (hu:P.underlying t=some (.slice e)) (hs:(P.info? e).map (·.size)=some sz) (hx:Zar x ps a) (hy:Opd y qs (.pv (.is (.slice none 0 0)))) :
  OpC P ⟨d,.call { callee:=.builtin .copy,args:=#[x,y],argTypes:=#[t,t2] },ty,pos,af,g⟩ ⟨ps++qs,[(n,.ob a (Zz T sz R ([]:List α)))],.pv (.int .i64 0),[]⟩:=
 OpC.read fun act w F hp hr=>by
  obtain ⟨xs,h2,h3,h4⟩:=hr (n,.ob a (Zz T sz R ([]:List α))) XM
  obtain ⟨ad,cap,e1,h5,h6,h7⟩:=ZG h2
  have ex:act.eval x = .slice ad 0 cap:=Ke
  have ey:=(hy act w _ hp.right).1
  refine ⟨.int .i64 0,?_,fun _ _=>⟨rfl,by simp [inR,IntKind.min,IntKind.max,IntKind.signed,IntKind.bits]⟩⟩
  cases ad with
  | none=>simp [execOp,resolve,invoke,builtin,ex,ey,Builtin.copy_,Yo hu,Builtin.lenOf,Builtin.firstCells,run_sizeOf hs,goInt]
  | some ad=>simp [execOp,resolve,invoke,builtin,ex,ey,Builtin.copy_,Yo hu,Builtin.lenOf,Builtin.firstCells,run_sizeOf hs,goInt,storeCells]
end
end Go.Gm
namespace Go.Gm
set_option linter.unusedVariables false
set_option linter.unusedSimpArgs false
def PV.eqv (v:Value):PV:=⟨fun u _ _=>u=v,fun _ h=>h⟩
section
variable {P:Program} {d:Option Nat} {t ty:TypeId} {pos:String} {af:Array Edge} {g:Option (Nat×Bool)} {x y:Operand} {ps qs:List (Nat×SF)} {l:List UInt8} {k:Nat}
end
end Go.Gm
namespace Go.Gm
set_option linter.unusedVariables false
set_option linter.unusedSimpArgs false
section
variable {P:Program} {d:Option Nat} {t t' ty:TypeId} {pos:String} {af:Array Edge} {g:Option (Nat×Bool)} {x y:Operand} {ps qs:List (Nat×SF)} {k:IntKind} {i:Int} {T:TypeId} {α:Type} {f:α→PV} {l:List α} {u:Value}
theorem Zqz {T:TypeId} {f:α→PV} {l:List α} {an:Anc} (τ:Tau) (w:World) (fb y:Ys) (h:(RS.pt an T (l.map fun x=>CF.pv (f x))).holds τ w fb y):(RS.ob an (Zkn T f l)).holds τ w fb y:=by
 obtain ⟨b,vs,e,h1,h2,h3⟩:=Zbe h
 have:(RS.pt (.val (an.v τ)) T (l.map fun x=>CF.pv (f x))).holds tau0 w fb y:=by
  refine RS.closed (r:=RS.pt (.val (an.v τ)) T (l.map fun x=>CF.pv (f x))) W6 (?_:RS.holds τ w fb y (RS.pt (.val (an.v τ)) T (l.map fun x=>CF.pv (f x))))
  exact h
 exact this
theorem Zqa {d' n:Nat} {zv:Value} {z:α} (m:Nat) (hz:P.zeros t=some (List.replicate n zv)) (hf:zCF zv=CF.pv (f z)) :
  OpC P ⟨some d',.alloc t,ty,pos,af,g⟩ ⟨[],[],.same d',[(m,.ob (.slot d') (Zkn t f (List.replicate n z)))]⟩:=fun a w F K Q hw hs hp ht=>
 ZpT (P:=P) (d':=d') (ty:=ty) (pos:=pos) (af:=af) (g:=g) m hz a w F K Q hw hs hp (fun v w' F' h1 h2 h3 h4=>ht v w' F' h1 h2 h3 (fun q hq=>by
  simp only [Yn] at hq
  subst hq
  have:=h4 (m,.pt (.slot d') t ((List.replicate n zv).map zCF)) XM
  rw [List.map_replicate,hf] at this
  refine Zqz _ _ _ _ ?_
  rw [List.map_replicate]
  exact this))
end
end Go.Gm
namespace Go.Gm
set_option linter.unusedVariables false
set_option linter.unusedSimpArgs false
def _root_.Go.Program.fieldTO (P:Program) (s:TypeId) (f:Nat):Option (TypeId×Nat):=match P.underlying s with
 | some (.struct fs)=>match fs[f]? with
  | some fd=>some (fd.type,fd.offset)
  | none=>none
 | _=>none
theorem PVs.at {w y} : ∀ {l:List PV} {vs:List Value} {k:Nat} {p:PV},PVs l vs w y→l[k]? = some p → ∃ v,vs[k]? = some v∧p.p v w y
 | [],_,_,_,_,h=>by simp at h
 | q :: l,[],_,_,h,_=>h.elim
 | q :: l,v :: vs,0,p,h,hk=>by
  simp at hk;subst hk
  exact ⟨v,rfl,h.1.2⟩
 | q :: l,v :: vs,k+1,p,h,hk=>by
  obtain ⟨u,h1,h2⟩:=PVs.at h.2 W7
  exact ⟨u,by simpa using h1,h2⟩
section
variable {P:Program} {d:Option Nat} {t ty:TypeId} {pos:String} {af:Array Edge} {g:Option (Nat×Bool)} {x:Operand} {ps:List (Nat×SF)}
theorem Zo6 {f:Nat} {ft:TypeId} {off:Nat} (h:P.fieldTO t f=some (ft,off)) (vs:Array Value) (w:World):(Instr.field t (.agg vs) f).run P w=(part ft vs off).run P w:=by
 unfold Program.fieldTO at h
 split at h
 ·rename_i fs hu
  split at h
  ·rename_i fd hf
   simp only [YX,Prod.mk.injEq] at h
   obtain ⟨rfl,rfl⟩:=h
   simp [Instr.field,Yo hu,hf,asAgg]
  ·cases h
 ·cases h
theorem Zia {f:Nat} {ft:TypeId} {off:Nat} {l:List PV} {p:PV} (h:P.fieldTO t f=some (ft,off)) (ha:P.aggB ft=some false) (hx:Opd x ps (.pv (.agg l))) (hl:l[off]? = some p) :
  OpC P ⟨d,.field t x f,ty,pos,af,g⟩ ⟨ps,[],.pv p,[]⟩:=
 OpC.pure fun a w yy hp=>by
  obtain ⟨vs,e1,hv⟩:=hx a w yy hp
  obtain ⟨v,h1,h2⟩:=PVs.at hv hl
  refine ⟨v,?_,fun _ _=>h2⟩
  simp [execOp,e1,Zo6 h,part,ZaS ha,h1]
end
end Go.Gm
namespace Go.Gm
set_option linter.unusedVariables false
set_option linter.unusedSimpArgs false
section
variable {P:Program} {d:Option Nat} {ty:TypeId} {pos:String} {af:Array Edge} {g:Option (Nat×Bool)} {ps:List (Nat×SF)} {x:Operand} {α:Type} {R:α→List PV} {l:List α}
theorem o_lendRow {f:FuncId} {tys:Array TypeId} {an:Anc} {T sz:Nat} {q:PV} {fn:Func} (n:Nat) (hc:FnP P f [.sl R l] q) (hq:∀ v w y w' y',q.p v w y→q.p v w' y')
    (hf : P.funcs[f]? = some fn) (hb : fn.body.isSome = true) (hn : (fn.name == "runtime.NumGoroutine") = false) (hx : Zar x ps an) :
    OpC P ⟨d,.call { callee:=.value (.func f),args:=#[x],argTypes:=tys },ty,pos,af,g⟩ ⟨ps,[(n,.ob an (Zz T sz R l))],.pv q,[]⟩:=fun a w F K Q hw hp hr ht=>by
  obtain ⟨xs,r1,r2,r3⟩:=hr (n,.ob an (Zz T sz R l)) XM
  have e1:a.eval x=an.v (Act.tau a):=hx a w (U F) hp
  have hle:=Zeo F n
  have hev:=Ev.less w hle
  have hsl:(PV.sl R l).p (a.eval x) w (U (drop F n)):=by
    rw [e1]
    obtain ⟨ad,cap,e8,h8,h9,h10⟩:=ZG r1
    refine ⟨ad,cap,e8,h8,h9,?_⟩
    rcases h10 with h10 | ⟨b',rfl,h11,h12⟩
    · exact .inl (YM h10)
    · have hb':F n b':=(r3 b').2 h11
      refine .inr ⟨b',0,xs,rfl,?_,hw.bd n b' hb',h12,PVs.mono hev r2⟩
      rintro ⟨m,hm⟩
      unfold drop at hm
      by_cases e2:m=n
      · simp only [e2,Yx] at hm
      · simp only [e2,Yt] at hm
        exact e2 (hw.dis m n b' hm hb')
  have hbn:fn.body≠none:=Kd
  have hn' : fn.name ≠ "runtime.NumGoroutine" := by intro h; rw [h] at hn; simp at hn
  have hrun:(execOp a.eval ⟨d,.call { callee:=.value (.func f),args:=#[x],argTypes:=tys },ty,pos,af,g⟩).run P w = .ok (.enter f [a.eval x].toArray) w:=by
    have e2:a.eval (.func f) = .func (.func f) #[] #[]:=rfl
    simp [execOp,resolve,e2,Deferred.ofValue,invoke,callFunc,hf,hn',hbn]
  simp only [Oper.wp,hrun,Oper.upon]
  refine (hc w (U (drop F n)) [a.eval x] (fun b hb=>by obtain ⟨m,hm⟩:=hle b hb;exact hw.bd m b hm) ⟨hsl,tv⟩).mono ?_
  rintro e' w' ⟨v,rfl,hqv,hbel⟩
  have hst:Stp [] w F w' F:=⟨hbel.os,hbel.tape,hbel.output,hbel.size,fun b hb _=>hbel.block b hb,fun _ _=>rfl,fun _ h=>by cases h⟩
  exact ht v w' F ⟨hw.dis,fun n b hn=>Yam (hw.bd n b hn) hbel.size⟩ hst (hq _ _ _ _ _ hqv) (fun x hx=>by cases hx)
end
end Go.Gm
namespace Go.Gm
set_option linter.unusedVariables false
set_option linter.unusedSimpArgs false
inductive ChainN (P:Program) (ops:Array Oper):En→List Oper→List CD→En→Prop
 | nil {E:En} : ChainN P ops E [] [] E
 | cons {E:En} {o:Oper} {c:CD} {l:List Oper} {cs:List CD} {E':En} (hc:ZaF P ops o c) (hs:Z5 E.s c.ps) (hr:Z5 E.r c.pr)
     (t:ChainN P ops (E.step o c) l cs E'):ChainN P ops E (o :: l) (c :: cs) E'
 | norm {E:En} {l:List Oper} {cs:List CD} {E':En} (L:List (Nat×SF)) (R:List (Nat×RS)) (hL:Z5 E.s L) (hR:Z5 E.r R) (t:ChainN P ops ⟨L,R⟩ l cs E'):ChainN P ops E l cs E'
theorem cG {P:Program} {ops:Array Oper} {E:En} {o:Oper} {c:CD} {l:List Oper} {cs:List CD} {E':En} (hg:o.guard=none) (h:OpC P o c) (hs:Z5 E.s c.ps) (hr:Z5 E.r c.pr) (t:ChainN P ops (E.step o c) l cs E'):ChainN P ops E (o :: l) (c :: cs) E':=ChainN.cons (ZaF.free hg h) hs hr t
section
variable {P:Program} {ops:Array Oper} {Q:Exit→Act→World→Prop}
theorem Zjy {B:ZaV} {rest:List Oper} {l:List Oper} {cs:List CD} {E E':En} (hc:ChainN P ops E l cs E'):∀ (named:List Nat) (a:Act) (w:World) (F:Fp),
  okSeq l cs named=true→dstsIn B.n l=true→(∀ x ∈ E.s,∀ j ∈ x.2.deps,j ∈ named)→(∀ x ∈ E.r,∀ j ∈ x.2.deps,j ∈ named)→Sat B E a w F →
  (∀ a w F,Sat B E' a w F→wpList P ops Q rest a w)→wpList P ops Q (l++rest) a w:=by
 induction hc with
 | nil=>
  intro named a w F ho hd hs hr G hQ
  exact hQ a w F G
 | @norm E l cs E' L R hL hR t ih=>
  intro named a w F ho hd hs hr G hQ
  obtain ⟨F',hS'⟩:=G.norm L R hL hR
  exact ih named a w F' ho hd (fun x hx=>hs x (Zam (hL.get x hx))) (fun x hx=>hr x (Zam (hR.get x hx))) hS' hQ
 | @cons E o c l cs E' hc hls hlr t ih=>
  intro named a w F ho hd hs hr G hQ
  simp only [okSeq,Yw] at ho
  simp only [dstsIn,Yw] at hd
  have hdd:∀ i,o.dst=some i→i<a.tmps.size:=by
   intro i hi
   have:=hd.1
   rw [hi] at this
   rw [G.n]
   exact Yd (by simpa [YaA] using this)
  rw [Yao]
  refine wpList_step fun K hK=>hc a w F K Q G.wf (fun x hx=>G.s _ _ (hls.get x hx)) (fun x hx=>G.r _ _ (hlr.get x hx)) ?_
  intro v w' F' hwf' hst hq hqr
  refine hK _ _ ?_
  have hnd:∀ j,j ∈ named→o.dst≠some j:=by
   intro j hj e
   have:=ho.1
   rw [e] at this
   simp [hj] at this
  have keeps:=Zej (c:=c) (v:=v) hdd G.wf hst
  refine ih (c.deps++named) _ _ F' ho.2 hd.2 ?_ ?_ ⟨hwf',G.ev.trans hst.ev,by rw [Act.size_put];exact G.n,by rw [Act.defers_put];exact G.df,?_,?_,?_⟩ hQ
  ·intro x hx j hj
   simp only [En.step] at hx
   split at hx
   ·rcases Ym.1 hx with rfl | hx
    ·exact Y6 _ (by simp [CD.deps,hj])
    ·exact YW _ (hs x hx j hj)
   ·exact YW _ (hs x hx j hj)
  ·intro x hx j hj
   simp only [En.step] at hx
   rcases YC.1 hx with hx | hx
   ·refine Y6 _ ?_
    simp only [CD.deps]
    exact YW _ (YaK.2 ⟨x,hx,hj⟩)
   ·exact YW _ (hr x hx j hj)
  ·intro i s hl
   have hold:look E.s i=some s→o.dst≠some i→s.holds (Act.tau (a.put o.dst v)) w' (U F') (Act.tau (a.put o.dst v) i):=fun hl hi=>
    keeps.1 i s (fun j hj=>hnd j (hs _ (Zam hl) j hj)) hi (G.s i s hl)
   simp only [En.step] at hl
   cases hdst:o.dst with
   | none=>rw [hdst] at hl hold;exact hold hl XM
   | some d=>
    rw [hdst] at hl hold
    simp only [] at hl
    rw [Zf] at hl
    by_cases e:d=i
    ·subst e
     simp at hl
     subst hl
     rw [hdst] at hq hdd
     rw [Act.tau_put a (some d) v hdd]
     have:upd (Act.tau a) (some d) v d=v:=by simp [upd]
     rw [this];exact hq
    ·rw [Yb e] at hl
     exact hold hl XN
  ·intro n r hl
   simp only [En.step] at hl
   rw [Zbx] at hl
   by_cases hn:n ∈ c.W
   ·obtain ⟨x,hx⟩:=Zbo (l:=c.qr) (i:=n) hn
    rw [hx] at hl
    simp at hl
    subst hl
    rw [Act.tau_put a o.dst v hdd]
    exact hqr _ (Zam hx)
   ·rw [Zcz (l:=c.qr) (i:=n) hn] at hl
    simp at hl
    exact keeps.2 n r (fun j hj=>hnd j (hr _ (Zam hl) j hj)) hn (G.r n r hl)
  ·intro n b hb
   simp only [En.step]
   rw [Zbx]
   by_cases hn:n ∈ c.W
   ·obtain ⟨x,hx⟩:=Zbo (l:=c.qr) (i:=n) hn
    exact ⟨x,by rw [hx];rfl⟩
   ·rw [hst.fkeep n hn] at hb
    obtain ⟨r,hr'⟩:=G.em n b hb
    rw [Zcz (l:=c.qr) (i:=n) hn]
    exact ⟨r,by simpa using hr'⟩
theorem Zlm {B:ZaV} {l:List Oper} {cs:List CD} {E E':En} (hc:ChainN P ops E l cs E') (named:List Nat) (a:Act) (w:World) (F:Fp) (h1:okSeq l cs named=true) (h2:dstsIn B.n l=true) (h3:∀ x ∈ E.s,∀ j ∈ x.2.deps,j ∈ named) (h4:∀ x ∈ E.r,∀ j ∈ x.2.deps,j ∈ named) (G:Sat B E a w F)
  (hQ:∀ a w F,Sat B E' a w F→Q .normal a w):wpList P ops Q l a w:=by
 have:=Zjy (rest:=[]) hc named a w F h1 h2 h3 h4 G (fun a w F h=>wpList_nil (hQ a w F h))
 rwa [YQ] at this
theorem Ziz {B:ZaV} {l:List Oper} {cs:List CD} {E E':En} {a:Act} {w:World} {F:Fp} (n:Nat) (G:Sat B E a w F) (hE:E.shutB=true) (hc:ChainN P ops E (l.take n) cs E') (ho:okSeq (l.take n) cs [] = true) (hd:dstsIn B.n (l.take n)=true)
  (hQ:∀ a w F,Sat B E' a w F→wpList P ops Q (l.drop n) a w):wpList P ops Q l a w:=by
 have:=Zjy (rest:=l.drop n) hc [] a w F ho hd (fun x hx j hj=>by rw [(En.shut_of hE).1 x hx] at hj;cases hj) (fun x hx j hj=>by rw [(En.shut_of hE).2 x hx] at hj;cases hj) G hQ
 rwa [YaD] at this
theorem Zai {B:ZaV} {id:Nat} {l:List Oper} {cs:List CD} {E E':En} {a:Act} {w:World} {F:Fp} (n:Nat) (G:Sat B E a w F) (hE:E.shutB=true) (hc:ChainN P l.toArray E (l.take n) cs E') (ho:okSeq (l.take n) cs [] = true) (hd:dstsIn B.n (l.take n)=true)
  (hQ:∀ a w F,Sat B E' a w F→wpList P l.toArray Q (l.drop n) a w):(Code.region id l.toArray false).wp P Q a w:=
 wp_region_list (by
  rw [List.toList_toArray]
  exact Ziz n G hE hc ho hd hQ)
theorem Zat {B:ZaV} {l:List Oper} {cs:List CD} {E E':En} {a:Act} {w:World} {F:Fp} (G:Sat B E a w F) (hE:E.shutB=true) (hc:ChainN P ops E l cs E') (ho:okSeq l cs [] = true) (hd:dstsIn B.n l=true)
  (hQ:∀ a w F,Sat B E' a w F→Q .normal a w):wpList P ops Q l a w:=
 Zlm hc [] a w F ho hd (fun x hx j hj=>by rw [(En.shut_of hE).1 x hx] at hj;cases hj) (fun x hx j hj=>by rw [(En.shut_of hE).2 x hx] at hj;cases hj) G hQ
theorem ZkE {B:ZaV} {id:Nat} {l:List Oper} {cs:List CD} {E E':En} {a:Act} {w:World} {F:Fp} (G:Sat B E a w F) (hE:E.shutB=true)
  (hc:ChainN P l.toArray E l cs E') (ho:okSeq l cs [] = true) (hd:dstsIn B.n l=true)
  (hQ:∀ a w F,Sat B E' a w F→Q .normal a w):(Code.region id l.toArray false).wp P Q a w:=
 wp_region_list (by
  rw [List.toList_toArray]
  exact Zlm hc [] a w F ho hd (fun x hx j hj=>by rw [(En.shut_of hE).1 x hx] at hj;cases hj) (fun x hx j hj=>by rw [(En.shut_of hE).2 x hx] at hj;cases hj) G hQ)
end
section
variable {P:Program} {ops:Array Oper} {E E':En} {d:Option Nat} {op:Op} {ty:TypeId} {pos:String} {af:Array Edge} {l:List Oper} {cs:List CD}
theorem nf {c:CD} (h:OpC P ⟨d,op,ty,pos,af,none⟩ c) (hs:Z5 E.s c.ps) (hr:Z5 E.r c.pr) (t:ChainN P ops (E.step ⟨d,op,ty,pos,af,none⟩ c) l cs E'):ChainN P ops E (⟨d,op,ty,pos,af,none⟩ :: l) (c :: cs) E':=cG rfl h hs hr t
theorem nk {j sj:Nat} {want β:Bool} {ps:List (Nat×SF)} {pr:List (Nat×RS)} {q:SF} (hj:(ops[j]?).bind (·.dst)=some sj) (h:β=want→OpC P ⟨d,op,ty,pos,af,some (j,want)⟩ ⟨ps,pr,q,[]⟩) (hs:Z5 E.s ((sj,.pv (.bool β)) :: ps)) (hr:Z5 E.r pr)
 (t:ChainN P ops (E.step ⟨d,op,ty,pos,af,some (j,want)⟩ ⟨(sj,.pv (.bool β)) :: ps,pr,.when (β=want) q,[]⟩) l cs E'):ChainN P ops E (⟨d,op,ty,pos,af,some (j,want)⟩ :: l) (⟨(sj,.pv (.bool β)) :: ps,pr,.when (β=want) q,[]⟩ :: cs) E':=.cons (.cond rfl hj h) hs hr t
theorem nM {i:Nat} {s:SF} (hl:look E.s i=some s) (hd:ZaO d s=true) (t:ChainN P ops (E.step ⟨d,.move (.tmp i),ty,pos,af,none⟩ ⟨[(i,s)],[],s,[]⟩) l cs E'):ChainN P ops E (⟨d,.move (.tmp i),ty,pos,af,none⟩ :: l) (⟨[(i,s)],[],s,[]⟩ :: cs) E':=cG rfl (Zcn .t hd) ⟨hl,tv⟩ trivial t
theorem nN {i:Nat} {s:SF} (hl:look E.s i=some s) (hd:ZaO d s=true) (t:ChainN P ops (E.step ⟨d,.assign (.tmp i),ty,pos,af,none⟩ ⟨[(i,s)],[],s,[]⟩) l cs E'):ChainN P ops E (⟨d,.assign (.tmp i),ty,pos,af,none⟩ :: l) (⟨[(i,s)],[],s,[]⟩ :: cs) E':=cG rfl (ZhS .t hd) ⟨hl,tv⟩ trivial t
theorem nm {j sj i:Nat} {want β:Bool} {s:SF} (hj:(ops[j]?).bind (·.dst)=some sj) (hb:look E.s sj=some (.pv (.bool β))) (hl:look E.s i=some s) (hd:ZaO d s=true)
 (t:ChainN P ops (E.step ⟨d,.move (.tmp i),ty,pos,af,some (j,want)⟩ ⟨[(sj,.pv (.bool β)),(i,s)],[],.when (β=want) s,[]⟩) l cs E'):ChainN P ops E (⟨d,.move (.tmp i),ty,pos,af,some (j,want)⟩ :: l) (⟨[(sj,.pv (.bool β)),(i,s)],[],.when (β=want) s,[]⟩ :: cs) E':=.cons (.cond rfl hj fun _=>Zcn .t hd) ⟨hb,hl,tv⟩ trivial t
theorem nn (is ns:List Nat) {L:List (Nat×SF)} {R:List (Nat×RS)} (hL:ZbG E.s is [] = some L) (hR:ZbG E.r ns [] = some R) (t:ChainN P ops ⟨L,R⟩ l cs E'):ChainN P ops E l cs E':=.norm L R (ZdJ hL tv) (ZdJ hR tv) t
end
end Go.Gm
namespace Go.Gm
open Go.Lib
set_option linter.unusedVariables false
set_option linter.unusedSimpArgs false
section
variable {P:Program} {d:Option Nat} {t ty:TypeId} {pos:String} {af:Array Edge} {g:Option (Nat×Bool)} {x y:Operand} {ps qs:List (Nat×SF)} {T:TypeId}
end
end Go.Gm
