/- Walks: rows changed in place. No condition. -/
import Derived.Test.YtolmpgbpdapaiaaGreatLibG
import Derived.Lib.AppendZerosOnto
import Derived.Lib.Overlaps
namespace Go.Gm
set_option linter.unusedVariables false
set_option linter.unusedSimpArgs false
set_option linter.unusedSectionVars false
def capV:Value→Nat
 | .slice _ _ c=>c
 | _=>0
def ZtO (i:Nat):Value→Value
 | .slice a _ c=>.slice a i c
 | v=>v
def ZwF (sz k:Nat):Value→Value
 | .slice (some a) n c=>.slice (some (if c - k=0 then a else ⟨a.block,a.off+k*sz,none⟩)) (n - k) (c - k)
 | v=>v
theorem ZjZ {w:World} {b T sz cap n:Nat} {cur:Array Value} {us:List Value} (hg:w.heap[b]? = some (.cells cur T (0,0))) (hus:us.length=cap*sz) (hn:n≤cap) (hcm:cap≤maxLen):(w.setRow b us.toArray).ownsRow 0 T sz (.slice (some ⟨b,0,none⟩) n cap) n (us.take (n*sz)):=
 ⟨by rw [Yp,hus,Ya7 (YN _ hn)],.inr ⟨b,cap,us.toArray,rfl,YA _,Ybt w b cur _ T (0,0) hg,hn,hcm,by simpa using hus,by simp⟩⟩
section
variable {P:Program} {d:Option Nat} {t ty:TypeId} {pos:String} {af:Array Edge} {g:Option (Nat×Bool)} {x y z:Operand} {ps qs rs:List (Nat×SF)} {α:Type} {R:α→List PV} {l:List α} {e sz:Nat} {v:Value}
theorem Zf8 {w:World} {dT sT ty elem g o dLen dCap n sz:Nat} {a:Addr} {sLen sCap:Nat} {cur:Array Value} {t:TypeId} {cs:List Value}
  (hu:P.underlying dT=some (.slice elem)) (hs:(P.info? elem).map (·.size)=some sz) (hg:w.heap[g]? = some (.cells cur t (0,0))) (hm:Nat.min sLen dLen=n) (hn:cs.length=n*sz)
  (hsrc:∀ j v,cs[j]? = some v→w.cell? (a.add j)=some v) (hfit:o+cs.length≤cur.size) (h1:∀ v ∈ cs,v.oneCell' = true) :
  (Builtin.copy_ #[dT,sT] ty #[.slice (some ⟨g,o,none⟩) dLen dCap,.slice (some a) sLen sCap]).run P w =
   .ok (goInt n) (w.setRow g (cur.toList.take o++cs++cur.toList.drop (o+cs.length)).toArray):=by
 have hl:=YaR (P:=P) w a cs hsrc
 have hst:=YaB P g o t cs 0 cur w hg (by simpa using hfit) h1
 cases hq:P.info? elem with
 | none=>simp [hq] at hs
 | some i=>
  have hi:i.size=sz:=by simpa [hq] using hs
  rw [Ybg] at hst
  simp [Builtin.copy_,Yo hu,Builtin.lenOf,Builtin.firstCells,sizeOf,typeInfo,hq,hi,hm,← hn,hl,hst]
theorem Zpk (n:Nat) (hu:P.underlying t=some (.slice e)) (hx:Zar x ps (.val v)) :
  OpC P ⟨d,.call { callee:=.builtin .cap,args:=#[x],argTypes:=#[t] },ty,pos,af,g⟩ ⟨ps,[(n,.ob (.val v) (Zz e sz R l))],.pv (.int .i64 (capV v:Int)),[]⟩:=
 OpC.read fun act w F hp hr=>by
  obtain ⟨xs,h1,h2,h3⟩:=hr (n,.ob (.val v) (Zz e sz R l)) XM
  obtain ⟨ad,cap,e1,h4,h5,_⟩:=ZG h1
  simp only [Anc.v] at e1
  have e2:act.eval x = .slice ad l.length cap:=Kr
  have e3:capV v=cap:=by rw [e1];rfl
  refine ⟨.int .i64 (capV v:Int),?_,fun _ _=>⟨rfl,?_⟩⟩
  ·rw [e3];simp [execOp,resolve,invoke,builtin,e2,Builtin.cap_,Yo hu,goInt]
  ·rw [e3];unfold maxLen at h5
   simp [inR,IntKind.min,IntKind.max,IntKind.signed,IntKind.bits];omega
theorem Zmm {k:IntKind} {j:Int} (n:Nat) (he:Zby P t e sz) (hx:Zar x ps (.val v)) (hy:Opd y qs (.pv (.int k j))) (h0:0≤j) (h1:j≤l.length) :
  OpC P ⟨d,.slice t x none (some y) none,ty,pos,af,g⟩ ⟨ps++qs,[(n,.ob (.val v) (Zz e sz R l))],.pv (.is (ZtO j.toNat v)),[]⟩:=
 OpC.read fun act w F hp hr=>by
  obtain ⟨xs,h2,h3,h4⟩:=hr (n,.ob (.val v) (Zz e sz R l)) XM
  obtain ⟨ad,cap,e1,h5,h6,h7⟩:=ZG h2
  simp only [Anc.v] at e1
  have e2:=(hy act w _ hp.right).1
  have e3:act.eval x = .slice ad l.length cap:=Ke
  have hh:(Instr.sliceBounds true l.length cap none (some (.int k j)) none).run P w = .ok (0,j.toNat,cap) w:=by
   have:j≤cap:=ow
   simp [Instr.sliceBounds,Instr.sliceBound,asIntOf,h0,this]
  have hv:(if cap=0 then ad else ad.map (·.add (0*sz)))=ad:=by
   split
   ·rfl
   ·cases ad <;> simp [Addr.add]
  refine ⟨.slice ad j.toNat cap,?_,fun τ _=>⟨by rw [e1];rfl,rfl⟩⟩
  simp only [execOp,e3,e2,YaS,YaC,Instr.sliceAt,YD,Yo he.1,Yv,Instr.slice,hh,run_sizeOf he.2,YI,hv,YbR]
theorem Znc {k:IntKind} {j:Int} (n:Nat) (he:Zby P t e sz) (hx:Zar x ps (.val v)) (hy:Opd y qs (.pv (.int k j))) (h0:0≤j) (h1:j≤l.length) :
  OpC P ⟨d,.slice t x (some y) none none,ty,pos,af,g⟩ ⟨ps++qs,[(n,.ob (.val v) (Zz e sz R l))],.pv .any,[]⟩:=
 OpC.read fun act w F hp hr=>by
  obtain ⟨xs,h2,h3,h4⟩:=hr (n,.ob (.val v) (Zz e sz R l)) XM
  obtain ⟨ad,cap,e1,h5,h6,h7⟩:=ZG h2
  simp only [Anc.v] at e1
  have e2:=(hy act w _ hp.right).1
  have e3:act.eval x = .slice ad l.length cap:=Ke
  have hh:(Instr.sliceBounds true l.length cap (some (.int k j)) none none).run P w = .ok (j.toNat,l.length,cap) w:=by
   have:j≤l.length:=h1
   simp [Instr.sliceBounds,Instr.sliceBound,asIntOf,h0,this]
  refine ⟨.slice (if cap=j.toNat then ad else ad.map (·.add (j.toNat*sz))) (l.length - j.toNat) (cap - j.toNat),?_,fun τ _=>trivial⟩
  simp only [execOp,e3,e2,YaS,YaC,Instr.sliceAt,YD,Yo he.1,Yv,Instr.slice,hh,run_sizeOf he.2,YI]
theorem Zvn {w:World} {b off:Nat} {vs:List Value} (hc:Zt w b off vs):∀ j v,vs[j]? = some v→w.cell? ((⟨b,off,none⟩:Addr).add j)=some v:=fun j v hj=>by rw [add_lit];exact Zt.get hc j v hj
theorem o_copy_sub {s:List α} {k d':Nat} {t2:TypeId} (n:Nat) (hu:P.underlying t=some (.slice e)) (hs:(P.info? e).map (·.size)=some sz) (hR:∀ x,(R x).length=sz) (hx:Opd x ps (.pv (.is (Znl sz k v)))) (hy:Opd y qs (.pv (.sl R s))) (hs0:s≠[]) (hk:k+s.length≤l.length) :
  OpC P ⟨some d',.call { callee:=.builtin .copy,args:=#[x,y],argTypes:=#[t,t2] },ty,pos,af,g⟩ ⟨ps++qs,[(n,.ob (.val v) (Zz e sz R l))],.pv .any,[(n,.ob (.val v) (Zz e sz R (l.take k++s++l.drop (k+s.length))))]⟩:=fun act w F K Q hw hp hr ht=>by
 obtain ⟨xs,r1,r2,r3⟩:=hr (n,.ob (.val v) (Zz e sz R l)) XM
 simp only [Anc.v] at r1 r3
 have hxl:=r1.1
 have hsl0:0<s.length:=Ya0.2 hs0
 rcases r1.2 with ⟨_,hn0⟩ | ⟨b,cap,cur,ev,_,hg,hnc,hcm,hcs,htake⟩
 ·omega
 ·have ex:act.eval x = .slice (some ⟨b,0+k*sz,none⟩) (l.length - k) (cap - k):=by rw [(hx act w (U F) hp.left).1,ev];rfl
  obtain ⟨sa,sc,es,hsc,hscm,hsv⟩:=hy act w (U F) hp.right
  obtain ⟨sb,soff,svs,rfl,hny,hsb,hcells,hpv⟩:=hsv.resolve_left hs0
  have hcl:svs.length=s.length*sz:=by rw [← hpv.len,ZpE hR]
  have hcur:cur.toList.length=cur.size:=XM
  have hfit:k*sz+s.length*sz≤l.length*sz:=by rw [← Ybq];exact YN _ hk
  have hfit2:l.length*sz≤cur.size:=by rw [hcs];exact YN _ hnc
  have hf:∀ z,F n z ↔ z=b:=fun z=>by rw [r3 z,ev];simp [Value.ownBlock,Yaj]
  have hc:=Zf8 (P:=P) (w:=w) (dT:=t) (sT:=t2) (ty:=ty) (g:=b) (o:=0+k*sz) (dLen:=l.length - k) (dCap:=cap - k) (n:=s.length) (a:=⟨sb,soff,none⟩) (sLen:=s.length) (sCap:=sc) hu hs hg (by show min s.length (l.length - k)=_;omega) hcl (Zvn hcells) (by rw [hcl];omega) hpv.one
  rw [Yab] at hc ex
  have hrun:(execOp act.eval ⟨some d',.call { callee:=.builtin .copy,args:=#[x,y],argTypes:=#[t,t2] },ty,pos,af,g⟩).run P w = .ok (.value (goInt s.length)) (w.setRow b (cur.toList.take (k*sz)++svs++cur.toList.drop (k*sz+svs.length)).toArray):=by
   simp only [execOp,resolve,invoke,builtin,ex,es]
   simp [hc,resolve,invoke,builtin,ex,es]
  obtain ⟨g1,g2⟩:=Zbq hw hg hf (cur.toList.take (k*sz)++svs++cur.toList.drop (k*sz+svs.length)).toArray
  simp only [Oper.wp,hrun,Oper.upon]
  refine ht _ _ F g1 g2 trivial ?_
  intro z' hz'
  simp only [Yn] at hz'
  subst hz'
  have hll:(l.take k++s++l.drop (k+s.length)).length=l.length:=XT
  have htk:=ZhQ (cur:=cur.toList) (us:=svs) (k:=k*sz) (sz:=s.length*sz) (N:=l.length*sz) hfit hcl (by rw [hcur];exact hfit2)
  rw [htake] at htk
  have hown:=ZjZ (n:=l.length) (sz:=sz) (us:=cur.toList.take (k*sz)++svs++cur.toList.drop (k*sz+svs.length)) hg (by simp only [Yc,Yp,YS,hcur,hcl];omega) hnc hcm
  rw [htk] at hown
  refine ⟨xs.take (k*sz)++svs++xs.drop (k*sz+s.length*sz),by rw [hll];simp only [Anc.v];rw [ev];exact hown,?_,r3⟩
  rw [Y2,Y2,Zes hR,Zj0 hR,Ybq]
  have hp1:=PVs.mono g2.ev r2
  exact ((hp1.take _).append (PVs.mono g2.ev hpv)).append (hp1.drop _)
def Ztp {α:Type} (T sz:Nat) (R:α→List PV) (l:List α) (v:Value):HP:=
 ⟨fun w f y=>∃ xs ys,w.ownsRow 0 T sz v (l.length+1) (xs++ys)∧xs.length=l.length*sz∧PVs (l.flatMap R) xs w y ∧ ∀ b,f b ↔ v.ownBlock=some b,
  fun {w f y w' y'} h hf ⟨xs,ys,h1,h2,h3,h4⟩=>⟨xs,ys,Zeu h1 (fun b hb=>hf b ((h4 b).2 hb)),h2,PVs.mono h h3,h4⟩⟩
theorem Zmw {d':Nat} {k:IntKind} {j:Int} (n:Nat) (he:Zby P t e sz) (hx:Zar x ps (.val v)) (hy:Opd y qs (.pv (.int k j))) (h1:j=l.length+1) (h2:l.length+1≤capV v) :
  OpC P ⟨some d',.slice t x none (some y) none,ty,pos,af,g⟩ ⟨ps++qs,[(n,.ob (.val v) (Zz e sz R l))],.same d',[(n,.ob (.slot d') (Ztp e sz R l))]⟩:=fun act w F K Q hw hp hr ht=>by
 obtain ⟨xs,r1,r2,r3⟩:=hr (n,.ob (.val v) (Zz e sz R l)) XM
 simp only [Anc.v] at r1 r3
 have hxl:=r1.1
 rcases r1.2 with ⟨hv0,hn0⟩ | ⟨b,cap,cur,ev,_,hg,hnc,hcm,hcs,htake⟩
 ·rw [hv0] at h2;simp [capV] at h2
 ·have hcv:capV v=cap:=by rw [ev];rfl
  have e2:=(hy act w _ hp.right).1
  have e3:act.eval x = .slice (some ⟨b,0,none⟩) l.length cap:=by rw [hx act w _ hp.left];exact ev
  have hh:(Instr.sliceBounds true l.length cap none (some (.int k j)) none).run P w = .ok (0,l.length+1,cap) w:=by
   have a1:0≤j:=ow
   have a2:j≤cap:=ow
   have a3:j.toNat=l.length+1:=ow
   simp [Instr.sliceBounds,Instr.sliceBound,asIntOf,a1,a2,a3]
  have hv:(if cap=0 then some (⟨b,0,none⟩:Addr) else some ((⟨b,0,none⟩:Addr).add (0*sz)))=some ⟨b,0,none⟩:=by
   split
   ·rfl
   ·simp [Addr.add]
  have hrun:(execOp act.eval ⟨some d',.slice t x none (some y) none,ty,pos,af,g⟩).run P w = .ok (.value (.slice (some ⟨b,0,none⟩) (l.length+1) cap)) w:=by
   simp only [execOp,e3,e2,YaS,YaC,Instr.sliceAt,YD,Yo he.1,Yv,Instr.slice,hh,run_sizeOf he.2,YI,hv,YbR]
  simp only [Oper.wp,hrun,Oper.upon]
  refine ht _ w F hw ⟨rfl,rfl,rfl,YF _,fun _ _ _=>rfl,fun _ _=>rfl,fun m hm c hc=>.inl ⟨m,hm,hc⟩⟩ ⟨by simp [upd],rfl⟩ ?_
  intro z' hz'
  simp only [Yn] at hz'
  subst hz'
  have hτ:upd (Act.tau act) (some d') (.slice (some ⟨b,0,none⟩) (l.length+1) cap) d' = .slice (some ⟨b,0,none⟩) (l.length+1) cap:=KI
  have hcur:cur.toList.length=cur.size:=XM
  have hle:(l.length+1)*sz≤cur.size:=by rw [hcs];exact YN _ ow
  have hml:(l.length+1)*sz=l.length*sz+sz:=Ya9 _ _
  refine ⟨xs,(cur.toList.drop (l.length*sz)).take sz,?_,hxl,r2,fun c=>by simp only [Anc.v,hτ];rw [r3,ev];rfl⟩
  simp only [Anc.v,hτ]
  have hsplit:cur.toList.take ((l.length+1)*sz)=xs++(cur.toList.drop (l.length*sz)).take sz:=by
   rw [hml,List.take_add,htake]
  refine ⟨by rw [Yc,hxl,Yp,YS,hcur];omega,.inr ⟨b,cap,cur,rfl,YA _,hg,ow,hcm,hcs,hsplit⟩⟩
theorem Zem {k:IntKind} {j:Int} (n:Nat) (he:Zby P t e sz) (hx:Zar x ps (.val v)) (hy:Opd y qs (.pv (.int k j))) (h0:0≤j) (h1:j≤l.length) :
  OpC P ⟨d,.slice t x (some y) none none,ty,pos,af,g⟩ ⟨ps++qs,[(n,.ob (.val v) (Ztp e sz R l))],.pv (.is (Znl sz j.toNat v)),[]⟩:=
 OpC.read fun act w F hp hr=>by
  obtain ⟨xs,ys,h2,h3,h4,h8⟩:=hr (n,.ob (.val v) (Ztp e sz R l)) XM
  obtain ⟨ad,cap,e1,h5,h6,h7⟩:=ZG h2
  simp only [Anc.v] at e1
  have e2:=(hy act w _ hp.right).1
  have e3:act.eval x = .slice ad (l.length+1) cap:=Ke
  rcases h7 with h7 | ⟨b,rfl,_,_⟩
  ·omega
  ·subst e1
   have hh:(Instr.sliceBounds true (l.length+1) cap (some (.int k j)) none none).run P w = .ok (j.toNat,l.length+1,cap) w:=by
    have:j≤((l.length+1:Nat):Int):=ow
    simp only [Instr.sliceBounds,Instr.sliceBound,asIntOf,h0]
    simp [h0]
    intro h9;omega
   have hne2:¬ cap=j.toNat:=ow
   have had:(⟨b,0,none⟩:Addr).add (j.toNat*sz) = ⟨b,0+j.toNat*sz,none⟩:=by
    unfold Addr.add
    split
    ·rename_i h;simp [h]
    ·rfl
   refine ⟨Znl sz j.toNat (.slice (some ⟨b,0,none⟩) (l.length+1) cap),?_,fun τ _=>⟨rfl,rfl⟩⟩
   simp only [execOp,e3,e2,YaS,YaC,Instr.sliceAt,YD,Yo he.1,Yv,Instr.slice,hh,run_sizeOf he.2,YI,Znl,had,Yb hne2]
theorem ZmA {w:World} {b off:Nat} {u:Value} (h:w.cell? ⟨b,off,none⟩ = some u):∃ cs T m,w.heap[b]? = some (.cells cs T m)∧0<cs.size:=by
 unfold World.cell? at h
 split at h
 ·rename_i cs T m hb
  refine ⟨cs,T,m,hb,?_⟩
  cases hz:cs.size with
  | zero=>simp [Array.size_eq_zero_iff.1 hz] at h
  | succ n=>omega
 ·cases h
theorem Zmu {s : List α} {k : Nat} {t2 : TypeId} {f : FuncId} {fn : Func} {tys : Array TypeId} (n : Nat) (hf : P.funcs[f]? = some fn) (hname : (fn.name == "runtime.NumGoroutine") = false) (hb : fn.body.isNone = true) (hn : Extern.findNext fn = none) (he : Extern.find fn = some (Extern.SlicesOverlaps.overlaps #[t, t] #[t2])) (hu : P.underlying t = some (.slice e)) (hs : (P.info? e).map (·.size) = some sz) (hR : ∀ x, (R x).length = sz)
    (hx:Opd x ps (.pv (.sl R s))) (hy:Opd y qs (.pv (.is (Znl sz k v)))) (hk:k≤l.length) :
    OpC P ⟨d,.call { callee:=.value (.func f),args:=#[x,y],argTypes:=tys },ty,pos,af,g⟩ ⟨ps++qs,[(n,.ob (.val v) (Ztp e sz R l))],.pv (.bool false),[]⟩:=
  OpC.read fun act w F hp hr=>by
    obtain ⟨xs,ys,r1,r2,r3,r4⟩:=hr (n,.ob (.val v) (Ztp e sz R l)) XM
    simp only [Anc.v] at r1 r4
    obtain ⟨sa,sc,es,hsc,hscm,hsv⟩:=hx act w (U F) hp.left
    rcases r1.2 with ⟨_,hn0⟩ | ⟨b,cap,cur,ev,_,hg,hnc,hcm,hcs,htake⟩
    · omega
    · have ey:act.eval y = .slice (some ⟨b,0+k*sz,none⟩) (l.length+1 - k) (cap - k):=by rw [(hy act w (U F) hp.right).1,ev];rfl
      have hc:=run_callFunc_extern (P:=P) hf hname hb hn he #[.slice sa s.length sc,.slice (some ⟨b,0+k*sz,none⟩) (l.length+1 - k) (cap - k)] w
      have e2:act.eval (.func f) = .func (.func f) #[] #[]:=rfl
      have hres:(Extern.SlicesOverlaps.overlaps #[t,t] #[t2] #[.slice sa s.length sc,.slice (some ⟨b,0+k*sz,none⟩) (l.length+1 - k) (cap - k)]).run P w = .ok (.bool false) w:=by
        by_cases h0:s.length=0∨l.length+1 - k=0∨sz=0
        · cases sa with
          | none=>
            change Sem.run P (α:=Value) (do
              let some t := (#[t, t] : Array TypeId)[0]? | stuck "slices.overlaps: no parameter types"
              let .slice elem ← underlying t | stuck "slices.overlaps: slice type expected"
              let size ← sizeOf elem
              match (none:Option Addr),(some ⟨b,0+k*sz,none⟩:Option Addr) with
              | some a,some b=>
                if s.length=0∨l.length+1 - k=0∨size=0 then pure (Value.bool false)
                else if a.block != b.block && (← frozen a) && (← frozen b) then unsupported .addressObserved
                else do
                  if a.block != b.block then do
                    noView a;noView b
                    if ← mayBeOne a b then return Value.bool ((← choose (.extern "sameAddr.stringBytes" 2)) == 1)
                  pure (Value.bool (a.block == b.block && a.off<b.off+(l.length+1 - k)*size && b.off<a.off+s.length*size))
              | _,_=>pure (Value.bool false)) w=_
            simp [Yo hu,run_sizeOf hs]
          | some sa=>
            change Sem.run P (α:=Value) (do
              let some t := (#[t, t] : Array TypeId)[0]? | stuck "slices.overlaps: no parameter types"
              let .slice elem ← underlying t | stuck "slices.overlaps: slice type expected"
              let size ← sizeOf elem
              match (some sa:Option Addr),(some ⟨b,0+k*sz,none⟩:Option Addr) with
              | some a,some b=>
                if s.length=0∨l.length+1 - k=0∨size=0 then pure (Value.bool false)
                else if a.block != b.block && (← frozen a) && (← frozen b) then unsupported .addressObserved
                else do
                  if a.block != b.block then do
                    noView a;noView b
                    if ← mayBeOne a b then return Value.bool ((← choose (.extern "sameAddr.stringBytes" 2)) == 1)
                  pure (Value.bool (a.block == b.block && a.off<b.off+(l.length+1 - k)*size && b.off<a.off+s.length*size))
              | _,_=>pure (Value.bool false)) w=_
            have h0':s = []∨l.length+1 - k=0∨sz=0:=h0.imp YM id
            simp [Yo hu,run_sizeOf hs,h0']
        · have hs0:s≠[]:=fun e=>h0 (.inl (by rw [e];rfl))
          obtain ⟨sb,soff,svs,rfl,hny,hsb,hcells,hpv⟩:=hsv.resolve_left hs0
          have hbb:F n b:=(r4 b).2 (by rw [ev];rfl)
          have hne:sb≠b:=fun e=>hny ⟨n,by rw [e];exact hbb⟩
          have hsl:svs.length=s.length*sz:=by rw [← hpv.len,ZpE hR]
          have hpos:0<svs.length:=by rw [hsl];exact Nat.mul_pos ow ow
          obtain ⟨u,svs',rfl⟩:∃ u svs',svs=u :: svs':=by
            cases svs with
            | nil=>simp at hpos
            | cons u svs'=>exact ⟨u,svs',rfl⟩
          obtain ⟨cs,T',m',hsbk,hcs0⟩:=ZmA hcells.1
          obtain ⟨cn,hcn⟩:∃ cn,cs.size=cn+1:=⟨cs.size - 1,ow⟩
          have hnb:(sb != b)=true:=by simpa using hne
          have hnb':(sb == b)=false:=by simpa using hne
          have hsa:w.shape? sb=some (T',cn+1):=by simp [World.shape?,hsbk,hcn]
          have hsh:w.shape? b=some (e,cur.size):=by simp [World.shape?,hg]
          have hfb:∀ o,w.frozen? ⟨b,o,none⟩ = false:=fun o=>by simp [World.frozen?,hg]
          have hlb:¬ l.length+1 - k=0:=fun e=>h0 (.inr (.inl e))
          have hszb:¬ sz=0:=fun e=>h0 (.inr (.inr e))
          have hslb:¬ s.length=0:=fun e=>h0 (.inl e)
          change Sem.run P (α:=Value) (do
            let some t := (#[t, t] : Array TypeId)[0]? | stuck "slices.overlaps: no parameter types"
            let .slice elem ← underlying t | stuck "slices.overlaps: slice type expected"
            let size ← sizeOf elem
            match (some ⟨sb,soff,none⟩:Option Addr),(some ⟨b,0+k*sz,none⟩:Option Addr) with
            | some a,some b=>
              if s.length=0∨l.length+1 - k=0∨size=0 then pure (Value.bool false)
              else if a.block != b.block && (← frozen a) && (← frozen b) then unsupported .addressObserved
              else do
                if a.block != b.block then do
                  noView a;noView b
                  if ← mayBeOne a b then return Value.bool ((← choose (.extern "sameAddr.stringBytes" 2)) == 1)
                pure (Value.bool (a.block == b.block && a.off<b.off+(l.length+1 - k)*size && b.off<a.off+s.length*size))
            | _,_=>pure (Value.bool false)) w=_
          cases hfa:w.frozen? ⟨sb,soff,none⟩ <;> cases hfe:w.frozen? ⟨sb,cn+1,none⟩ <;>
            simp [Yo hu,run_sizeOf hs,hs0,hlb,hszb,hslb,hnb,hnb',frozen,noView,viewAt,mayBeOne,stringish,shape,Sem.run,hsa,hsh,hfa,hfe,hfb]
      refine ⟨.bool false,?_,fun _ _=>rfl⟩
      rw [hres] at hc
      simpa [execOp,resolve,es,ey,e2,Deferred.ofValue,invoke] using hc
theorem ZiV {k k1 k0 d':Nat} {t2:TypeId} (n:Nat) (hu:P.underlying t=some (.slice e)) (hs:(P.info? e).map (·.size)=some sz) (hR:∀ x,(R x).length=sz) (hx:Opd x ps (.pv (.is (Znl sz k1 v)))) (hy:Opd y qs (.pv (.is (Znl sz k0 v)))) (h1':k1=k+1) (h0':k0=k) (hk:k<l.length) :
  OpC P ⟨some d',.call { callee:=.builtin .copy,args:=#[x,y],argTypes:=#[t,t2] },ty,pos,af,g⟩ ⟨ps++qs,[(n,.ob (.val v) (Ztp e sz R l))],.pv .any,[(n,.ob (.val v) (Zz e sz R (l.take (k+1)++l.drop k)))]⟩:=fun act w F K Q hw hp hr ht=>by
 subst h1';subst k0
 obtain ⟨xs,ys,r1,r2,r3,r4⟩:=hr (n,.ob (.val v) (Ztp e sz R l)) XM
 simp only [Anc.v] at r1 r4
 have hxl:=r1.1
 rcases r1.2 with ⟨_,hn0⟩ | ⟨b,cap,cur,ev,_,hg,hnc,hcm,hcs,htake⟩
 ·omega
 ·have ex:act.eval x = .slice (some ⟨b,0+(k+1)*sz,none⟩) (l.length+1 - (k+1)) (cap - (k+1)):=by rw [(hx act w (U F) hp.left).1,ev];rfl
  have ey:act.eval y = .slice (some ⟨b,0+k*sz,none⟩) (l.length+1 - k) (cap - k):=by rw [(hy act w (U F) hp.right).1,ev];rfl
  rw [Yab] at ex ey
  have hcur:cur.toList.length=cur.size:=XM
  have hml:(l.length+1)*sz=l.length*sz+sz:=Ya9 _ _
  have hfitN:(l.length+1)*sz≤cur.size:=by rw [hcs];exact YN _ hnc
  have htx:cur.toList.take (l.length*sz)=xs:=by
   have:cur.toList.take (l.length*sz)=(cur.toList.take ((l.length+1)*sz)).take (l.length*sz):=by rw [Ybh,Ya7 ow]
   rw [this,htake,Yal ow,Yaf ow]
  have hkl:k*sz≤l.length*sz:=YN _ ow
  have hk1:(k+1)*sz=k*sz+sz:=Ya9 _ _
  have hk1l:(k+1)*sz≤l.length*sz:=YN _ hk
  have hsub:(l.length - k)*sz=l.length*sz - k*sz:=Nat.sub_mul _ _ _
  have hcl:(xs.drop (k*sz)).length=(l.length - k)*sz:=by rw [YS,r2,hsub]
  have hf:∀ z,F n z ↔ z=b:=fun z=>by rw [r4 z,ev];simp [Value.ownBlock,Yaj]
  have hsrc:∀ j u,(xs.drop (k*sz))[j]? = some u→w.cell? ((⟨b,k*sz,none⟩:Addr).add j)=some u:=fun j u hj=>by
   rw [List.getElem?_drop,← htx,Ybn] at hj
   split at hj
   ·rw [add_lit]
    simp only [World.cell?,hg]
    simpa using hj
   ·cases hj
  have hone:∀ u ∈ xs.drop (k*sz),u.oneCell' = true:=fun u hu=>r3.one u (Ybs hu)
  have hc:=Zf8 (P:=P) (w:=w) (dT:=t) (sT:=t2) (ty:=ty) (g:=b) (o:=(k+1)*sz) (dLen:=l.length+1 - (k+1)) (dCap:=cap - (k+1)) (n:=l.length - k) (a:=⟨b,k*sz,none⟩) (sLen:=l.length+1 - k) (sCap:=cap - k) hu hs hg (by show min (l.length+1 - k) (l.length+1 - (k+1))=_;omega) hcl hsrc (by rw [hcl];omega) hone
  have hrun:(execOp act.eval ⟨some d',.call { callee:=.builtin .copy,args:=#[x,y],argTypes:=#[t,t2] },ty,pos,af,g⟩).run P w = .ok (.value (goInt (l.length - k:Nat))) (w.setRow b (cur.toList.take ((k+1)*sz)++xs.drop (k*sz)++cur.toList.drop ((k+1)*sz+(xs.drop (k*sz)).length)).toArray):=by
   simp only [execOp,resolve,invoke,builtin,YD,YI,Yv,Ybe,YG,Ya8,ex,ey,hc]
  obtain ⟨g1,g2⟩:=Zbq hw hg hf (cur.toList.take ((k+1)*sz)++xs.drop (k*sz)++cur.toList.drop ((k+1)*sz+(xs.drop (k*sz)).length)).toArray
  simp only [Oper.wp,hrun,Oper.upon]
  refine ht _ _ F g1 g2 trivial ?_
  intro z' hz'
  simp only [Yn] at hz'
  subst hz'
  have hll:(l.take (k+1)++l.drop k).length=l.length+1:=XT
  have hown:=ZjZ (n:=l.length+1) (sz:=sz) (us:=cur.toList.take ((k+1)*sz)++xs.drop (k*sz)++cur.toList.drop ((k+1)*sz+(xs.drop (k*sz)).length)) hg (by simp only [Yc,Yp,YS,hcur,r2];omega) hnc hcm
  have htk:(cur.toList.take ((k+1)*sz)++xs.drop (k*sz)++cur.toList.drop ((k+1)*sz+(xs.drop (k*sz)).length)).take ((l.length+1)*sz)=xs.take ((k+1)*sz)++xs.drop (k*sz):=by
   have e1:cur.toList.take ((k+1)*sz)=xs.take ((k+1)*sz):=by rw [← htx,Ybh,Ya7 hk1l]
   rw [e1,Yal (by simp only [Yc,Yp,YS,r2];omega),Yaf (by simp only [Yc,Yp,YS,r2];omega)]
  rw [htk] at hown
  refine ⟨xs.take ((k+1)*sz)++xs.drop (k*sz),by rw [hll];simp only [Anc.v];rw [ev];exact hown,?_,r4⟩
  rw [Y2,Zes hR,Zj0 hR]
  have hp1:=PVs.mono g2.ev r3
  exact (hp1.take _).append (hp1.drop _)
theorem ZgA {ty':TypeId} {i off:Nat} {d':Option Nat} (n:Nat) (hx:Opd x ps (.adr (.val v) (i*sz+off))) (hR:∀ x,(R x).length=sz) (hi:i<l.length) :
  OpC P ⟨d',.nilCheck x,ty',pos,af,g⟩ ⟨ps,[(n,.ob (.val v) (Zz e sz R l))],.adr (.val v) (i*sz+off),[]⟩:=
 OpC.read fun act w F hp hr=>by
  obtain ⟨xs,h1,h2,h3⟩:=hr (n,.ob (.val v) (Zz e sz R l)) XM
  simp only [Anc.v] at h1
  rcases h1.2 with ⟨_,h0⟩ | ⟨b,cap,cur,ev,_,hg,hnc,hcm,hcs,htake⟩
  ·omega
  ·have ex:act.eval x = .pointer (some ⟨b,i*sz+off,none⟩):=by
    have:=hx act w (U F) hp
    simp only [SF.holds,Anc.v,ev,shift,Yab] at this
    exact this
   refine ⟨.pointer (some ⟨b,i*sz+off,none⟩),by simp [execOp,ex],fun τ' ht=>?_⟩
   simp [SF.holds,Anc.v,ev,shift]
theorem o_nilCheck_row0 {ty':TypeId} {i:Nat} {d':Option Nat} (n:Nat) (hx:Opd x ps (.adr (.val v) (i*sz))) (hR:∀ x,(R x).length=sz) (hi:i<l.length) :
  OpC P ⟨d',.nilCheck x,ty',pos,af,g⟩ ⟨ps,[(n,.ob (.val v) (Zz e sz R l))],.adr (.val v) (i*sz),[]⟩:=
 ZgA (off:=0) n hx hR hi
theorem PVs.set {p:PV} {u:Value} {w:World} {yy:Ys} (hu:u.oneCell' = true) (hp:p.p u w yy):∀ {qs:List PV} {us:List Value} (k:Nat),k<qs.length→PVs qs us w yy→PVs (qs.set k p) (us.set k u) w yy
 | [],us,k,h,_=>by simp at h
 | q :: qs,[],k,_,h=>h.elim
 | q :: qs,x :: us,0,_,h=>⟨⟨hu,hp⟩,h.2⟩
 | q :: qs,x :: us,k+1,hk,h=>⟨h.1,PVs.set hu hp k W7 h.2⟩
theorem Zik [Inhabited α] {i off:Nat} {v':α} {p:PV} (n:Nat) (hx:Opd x ps (.adr (.val v) (i*sz+off))) (hR:∀ x,(R x).length=sz) (hi:i<l.length) (ho:off<sz) (hy:Opd y qs (.pv p)) (h1':∀ v w yy,p.p v w yy→v.oneCell' = true)
  (hv:R v' = (R (Nn l i)).set off p) (hs:(P.info? t).map (·.size)=some 1) :
  OpC P ⟨none,.store t x y,ty,pos,af,g⟩ ⟨ps++qs,[(n,.ob (.val v) (Zz e sz R l))],.pv .any,[(n,.ob (.val v) (Zz e sz R (l.set i v')))]⟩:=fun act w F K Q hw hp hr ht=>by
 obtain ⟨xs,h1,h2,h3⟩:=hr (n,.ob (.val v) (Zz e sz R l)) XM
 simp only [Anc.v] at h1 h3
 have hpv:=hy act w (U F) hp.right
 have hone:=h1' _ _ _ hpv
 have hxl:=h1.1
 rcases h1.2 with ⟨_,h0⟩ | ⟨b,cap,cur,ev,_,hg,hnc,hcm,hcs,htake⟩
 ·omega
 ·have ex:act.eval x = .pointer (some ⟨b,i*sz+off,none⟩):=by
   have:=hx act w (U F) hp.left
   simp only [SF.holds,Anc.v,ev,shift,Yab] at this
   exact this
  have hfit:i*sz+sz≤l.length*sz:=KK
  have hfit2:l.length*sz≤cur.size:=Ky
  have hcur:cur.toList.length=cur.size:=XM
  have hst:=YaB P b (i*sz+off) e [act.eval y] 0 cur w hg XT (by simpa using hone)
  have hcell:(act.eval y).cells = #[act.eval y]:=by cases e1:act.eval y <;> rw [e1] at hone <;> first | rfl | simp [Value.oneCell'] at hone
  have hmid:(cur.toList.take (i*sz+off) ++ [act.eval y] ++ cur.toList.drop (i*sz+off + [act.eval y].length))=cur.toList.set (i*sz+off) (act.eval y):=by
   rw [List.set_eq_take_append_cons_drop,Ye ow];simp
  rw [Ybg,hmid] at hst
  have hrun:(execOp act.eval ⟨none,.store t x y,ty,pos,af,g⟩).run P w = .ok .skip (w.setRow b (cur.toList.set (i*sz+off) (act.eval y)).toArray):=by
   simp [execOp,ex,Instr.storeAt,Instr.sureAddr,storeVar,run_sizeOf hs,hcell,hst]
  have hf:∀ z,F n z ↔ z=b:=fun z=>by rw [h3 z,ev];simp [Value.ownBlock,Yaj]
  obtain ⟨g1,g2⟩:=Zbq hw hg hf (cur.toList.set (i*sz+off) (act.eval y)).toArray
  simp only [Oper.wp,hrun,Oper.upon]
  refine ht undef _ F g1 g2 trivial ?_
  intro z hz
  simp only [Yn] at hz
  subst hz
  have hown:=ZjZ (n:=l.length) (sz:=sz) (us:=cur.toList.set (i*sz+off) (act.eval y)) hg (by rw [YU,hcur];exact hcs) hnc hcm
  rw [List.take_set,htake] at hown
  have hpk:=PVs.pick hR i hi h2
  have hus:PVs (R v') (((xs.drop (i*sz)).take sz).set off (act.eval y)) w (U F):=by
   rw [hv];exact PVs.set hone hpv off (by rw [hR];exact ho) hpk
  have hsr:=PVs.setR hR hus i hi h2
  have hxs:xs.take (i*sz)++((xs.drop (i*sz)).take sz).set off (act.eval y)++xs.drop (i*sz+sz)=xs.set (i*sz+off) (act.eval y):=by
   have h9:xs=xs.take (i*sz)++(xs.drop (i*sz)).take sz++xs.drop (i*sz+sz):=by
    rw [Y1,← YbT,YaD,YaD]
   have hl1:(xs.take (i*sz)).length=i*sz:=Wm
   have hl2:((xs.drop (i*sz)).take sz).length=sz:=by rw [Yp,YS];omega
   conv=>rhs;rw [h9]
   rw [Y1,Y1,List.set_append_right _ _ ow,hl1,Nat.add_sub_cancel_left,List.set_append_left _ _ ow]
  rw [hxs] at hsr
  refine ⟨xs.set (i*sz+off) (act.eval y),by simp only [Anc.v,YU];rw [ev];exact hown,PVs.mono g2.ev hsr,h3⟩
theorem ZgD {i d' bs:Nat} {m:Int} {k kn:IntKind} {tn:TypeId} {zs:List Value} {z:α} (n n':Nat) (hu:P.underlying t=some (.slice e)) (htn:P.underlying tn=some (.int kn)) (hi:(P.info? e).map (fun i=>(i.size,i.bytes,i.zero.map (·.cells.toList)))=some (sz,bs,some zs)) (hz:Nat.beq zs.length sz=true) (h0:Nat.blt 0 sz=true) (hR:∀ x,(R x).length=sz) (hp:∀ w yy,PVs (R z) zs w yy)
  (hx:Opd x ps (.pv (.is (ZtO i v)))) (hy:Opd y qs (.pv (.int k m))) (h1:i≤l.length) (h2:capV v<i+m.toNat) (h3:0<m) (hb:(i+m.toNat)*bs≤140737488355328) (h63:i+m.toNat≤9223372036854775807) :
  OpC P ⟨some d',.call { callee:=.builtin .append,args:=#[x,y],argTypes:=#[t,tn] },ty,pos,af,g⟩ ⟨ps++qs,[(n,.ob (.val v) (Zz e sz R l))],.same d',[(n',.ob (.slot d') (Zz e sz R (l.take i++List.replicate m.toNat z)))]⟩:=fun act w F K Q hw hpp hr ht=>by
 obtain ⟨xs,r1,r2,r3⟩:=hr (n,.ob (.val v) (Zz e sz R l)) XM
 simp only [Anc.v] at r1 r3
 have hxl:=r1.1
 obtain ⟨ti,hti,hi2⟩:=Y7.1 hi
 simp only [Prod.mk.injEq] at hi2
 obtain ⟨e1,e2,e3⟩:=hi2
 obtain ⟨zv,hz1,hz2⟩:=Y7.1 e3
 have hzl:zs.length=sz:=Y5 hz
 have hsz:0<sz:=by simpa [YaA] using h0
 have hmk:(m.toNat:Int)=m:=YaP ow
 have hmade:∀ q,(Builtin.zeroCells zv.cells q).toList=(madeCells zs.toArray (q*sz)).toList:=fun q=>by
  rw [← hz2];unfold Builtin.zeroCells madeCells;rw [← hzl,← hz2];simp
 have hil:i*sz≤l.length*sz:=YN _ h1
 have hol:(xs.take (i*sz)).length=i*sz:=Wm
 obtain ⟨base,hev,hold⟩:∃ base,ZtO i v = .slice base i (capV v)∧(Builtin.firstCells ti.size i (.slice base i (capV v))).run P w.drew = .ok (xs.take (i*sz)).toArray w.drew:=by
  rcases r1.2 with ⟨hv0,hn0⟩ | ⟨b,cap,cur,ev,_,hg,hnc,hcm,hcs,htake⟩
  ·have hi0:i=0:=ow
   subst hi0
   refine ⟨none,by rw [hv0];rfl,?_⟩
   simp [Builtin.firstCells]
  ·refine ⟨some ⟨b,0,none⟩,by rw [ev];rfl,?_⟩
   have hsrc:∀ q u,(xs.take (i*sz))[q]? = some u→w.drew.cell? ((⟨b,0,none⟩:Addr).add q)=some u:=fun q u hq=>by
    rw [Ybn] at hq
    split at hq
    ·rw [← htake,Ybn] at hq
     split at hq
     ·rw [add_lit]
      have hg':w.drew.heap[b]? = some (.cells cur e (0,0)):=hg
      simp only [World.cell?,hg']
      simpa using hq
     ·cases hq
    ·cases hq
   have hld:=YaR (P:=P) w.drew ⟨b,0,none⟩ (xs.take (i*sz)) hsrc
   rw [hol] at hld
   simp [Builtin.firstCells,e1,hld]
 have ex:act.eval x = .slice base i (capV v):=by rw [(hx act w (U F) hpp.left).1,hev]
 have ey:act.eval y = .int k (m.toNat:Int):=by rw [(hy act w (U F) hpp.right).1,hmk]
 have hfit:=growslice_fits (bytes:=ti.bytes) h2 (by rw [e2];exact hb)
 have hgz:=Lib.run_append_grow_zeros (P:=P) w t tn ty e ti zv k kn hu htn hti hz1 base i (capV v) (xs.take (i*sz)) hold m.toNat ow (by rw [e1];exact hsz) h2 ow (by
  rw [e2]
  have:m.toNat*bs≤(i+m.toNat)*bs:=YN _ ow
  omega) hfit
 obtain ⟨cap',hcap'⟩:∃ c,c=grownCap w (i+m.toNat) (capV v) e:=⟨_,rfl⟩
 have hge:i+m.toNat≤cap':=by rw [hcap'];exact grownCap_ge _ _ _ _
 have hle:cap' ≤ maxLen:=by rw [hcap'];exact grownCap_le_maxLen _ _ _ _ (by unfold maxLen;exact h63)
 rw [← hcap'] at hgz
 have hw2:Wf F w.drew:=⟨hw.dis,hw.bd⟩
 obtain ⟨g1,g2⟩:=ZaJ hw2 n' (.cells ((xs.take (i*sz)).toArray++Builtin.zeroCells zv.cells m.toNat++Builtin.zeroCells zv.cells (cap' - (i+m.toNat))) e)
 have g3:Stp [n'] w F (w.drew.alloc (.cells ((xs.take (i*sz)).toArray++Builtin.zeroCells zv.cells m.toNat++Builtin.zeroCells zv.cells (cap' - (i+m.toNat))) e)) _:=⟨g2.os,g2.tape,g2.output,g2.size,g2.keep,g2.fkeep,g2.fnew⟩
 have hrun:(execOp act.eval ⟨some d',.call { callee:=.builtin .append,args:=#[x,y],argTypes:=#[t,tn] },ty,pos,af,g⟩).run P w = .ok (.value (.slice (some ⟨w.heap.size,0,none⟩) (i+m.toNat) cap')) (w.drew.alloc (.cells ((xs.take (i*sz)).toArray++Builtin.zeroCells zv.cells m.toNat++Builtin.zeroCells zv.cells (cap' - (i+m.toNat))) e)):=by
  simp only [execOp,resolve,invoke,builtin,ex,ey,YD,YI,Yv,Ybe,YG,Ya8,hgz]
 simp only [Oper.wp,hrun,Oper.upon]
 refine ht _ _ _ g1 g3 ⟨by simp [upd],rfl⟩ ?_
 intro q hq
 simp only [Yn] at hq
 subst hq
 have hτ:upd (Act.tau act) (some d') (.slice (some ⟨w.heap.size,0,none⟩) (i+m.toNat) cap') d' = .slice (some ⟨w.heap.size,0,none⟩) (i+m.toNat) cap':=KI
 have hml:∀ q,(madeCells zs.toArray (q*sz)).toList.length=q*sz:=fun q=>by simp [size_madeCells]
 have hll:(l.take i++List.replicate m.toNat z).length=i+m.toNat:=XT
 have hls:((xs.take (i*sz)).toArray++Builtin.zeroCells zv.cells m.toNat++Builtin.zeroCells zv.cells (cap' - (i+m.toNat))).toList=xs.take (i*sz)++(madeCells zs.toArray (m.toNat*sz)).toList++(madeCells zs.toArray ((cap' - (i+m.toNat))*sz)).toList:=by
  simp only [Array.toList_append,hmade]
 have hsub:(cap' - (i+m.toNat))*sz=cap' * sz - (i+m.toNat)*sz:=Nat.sub_mul _ _ _
 have hsz2:(i+m.toNat)*sz≤cap' * sz:=YN _ hge
 have hadd:(i+m.toNat)*sz=i*sz+m.toNat*sz:=Ybq _ _ _
 refine ⟨xs.take (i*sz)++(madeCells zs.toArray (m.toNat*sz)).toList,⟨by rw [hll,Yc,hol,hml,hadd],.inr ⟨w.heap.size,cap',_,?_,YA _,Yat _ _,by rw [hll];exact hge,hle,?_,?_⟩⟩,?_,fun b=>?_⟩
 ·simp only [Anc.v,hτ,hll]
 ·rw [← Array.length_toList,hls];simp only [Yc,hol,hml];omega
 ·rw [hls,hll,hadd,Yal (by simp only [Yc,hol,hml];omega),Yaf (by simp only [Yc,hol,hml];omega)]
 ·rw [Y2,Zes hR]
  exact (PVs.mono g3.ev (r2.take _)).append (ZeQ hzl hsz (hp _ _) _)
 ·simp [Anc.v,hτ,Value.ownBlock,Yaj]
def Zqv (i:Nat):Value→Value
 | .agg cs=>cs.toList.getD i undef
 | _=>undef
abbrev ZwD (v:Value):PV:=.agg [.is (Zqv 0 v),.is (Zqv 1 v)]
abbrev Zwy (k1 k2:Value→HP) (v:Value):HP:=HP.star [.ob (.val (Zqv 0 v)) k1,.ob (.val (Zqv 1 v)) k2]
end
theorem o_fieldAddr_row {P:Program} {d:Option Nat} {ty:TypeId} {pos:String} {af:Array Edge} {g:Option (Nat×Bool)} {x:Operand} {ps:List (Nat×SF)} {a:Anc} {α:Type} {R:α→List PV} {l:List α} {T sz i:Nat} {s:TypeId} {f off:Nat} (n:Nat) (hx:Opd x ps (.adr a (i*sz))) (hi:i<l.length) (ho:P.fieldOff s f=some off) (hd:ZaO d (.adr a (i*sz+off))=true) :
  OpC P ⟨d,.fieldAddr s x f,ty,pos,af,g⟩ ⟨ps,[(n,.ob a (Zz T sz R l))],.adr a (i*sz+off),[]⟩:=
 OpC.read fun act w F hp hr=>by
  obtain ⟨xs,h2,h3,h4⟩:=hr (n,.ob a (Zz T sz R l)) XM
  obtain ⟨ad,cap,e1,h5,h6,h7⟩:=ZG h2
  rcases h7 with h7 | ⟨b,rfl,_,_⟩
  ·omega
  ·have ev:a.v (Act.tau act) = .slice (some ⟨b,0,none⟩) l.length cap:=e1
   have e2:act.eval x = .pointer (some ⟨b,i*sz,none⟩):=by
    have:=hx act w (U F) hp
    simp only [SF.holds,ev,shift,Yab] at this
    exact this
   refine ⟨.pointer (some ⟨b,i*sz+off,none⟩),by simp [execOp,e2,Zc6 ho],fun τ' ht=>Z9 (w:=w) (y:=U F) hd ht ?_⟩
   simp [SF.holds,ev,shift]
end Go.Gm
