/- Walks: contracts that lean on a table. No condition. -/
import Derived.Test.YthfoojdlcjfmcaaGreatDoorLibX
import Derived.ChangeArms
import Derived.FnData
import Derived.LaidMore
import Derived.SevenTiedAt
import Derived.Stop.Joined
namespace Go.Gm
set_option linter.unusedVariables false
set_option linter.unusedSimpArgs false
open Go.RowKit Go.WideShapes Go.ChangeShapes
def gH (p:PV) (v:Value):HP:=⟨fun w f y=>(∀ b,¬ f b)∧p.p v w y,fun h hf k=>⟨k.1,p.mono h k.2⟩⟩
def ZlM (P:Program) (p:PV) (u:Value) (f:FuncId) (args:List PV) (q:PV):Prop:=
 ∀ (w:World) (y:Ys) (vs:List Value),(∀ b,y b→b<w.heap.size)→p.p u w y→PVt args vs w y →
  Calls P f vs.toArray w fun e w'=>∃ v,e = .returned v∧q.p v w' y∧Below w.heap.size w w'
theorem ZlM.mk {P:Program} {p:PV} {u:Value} {f:FuncId} {args:List PV} {q:PV} {fn:Func} {c:Code} {n:Nat} (hf:P.funcs[f]? = some fn) (hb:fn.body=some c) (hn:fn.ntmps=n) (ha:Nat.ble args.length n=true)
  (h:∀ B a w F,B.n=n→B.fr=B.y→Sat B ⟨Zd4 args 0,[(0,frame B),(9,RS.hp (gH p u))]⟩ a w F→c.wp P (bodyPost P fn (RP B q)) a w):ZlM P p u f args q:=fun w y vs hy hg hvs=>by
 have hl:=hvs.len
 have hle:vs.length≤n:=by rw [← hl];exact Y1 ha
 refine calls_of_wp hf hb (h ⟨w,y,y,n⟩ _ w (fun m b=>m=0∧y b) O O ?_)
 have hU:U (fun m b=>m=0∧y b)=y:=by funext b;simp [U]
 refine ⟨⟨fun i j b hi hj=>by rw [hi.1,hj.1],fun i b hi=>hy b hi.2⟩,?_,?_,rfl,fun i s hs=>?_,fun i r hr=>?_,fun i b hi=>⟨frame ⟨w,y,y,n⟩,by obtain ⟨rfl,_⟩:=hi;rfl⟩⟩
 ·rw [hU];exact Ev.refl w y
 ·subst hn;simp;omega
 ·rw [hU]
  obtain ⟨v,h1,h2,h3⟩:=Zbw hvs hs
  have:Act.tau { tmps:=vs.toArray++Array.replicate (fn.ntmps - vs.toArray.size) undef,defers:=[] } i=v:=by
   simp only [Ybs] at h2
   have hi:i<vs.length:=(Yx.1 h2).1
   have h2':vs[i] = v:=by simpa [hi] using h2
   simp [Act.tau,Array.getElem?_append,hi,h2']
  rw [this];exact h3 _
 ·rw [Zd] at hr
  by_cases e:0=i
  ·subst e
   simp at hr
   subst hr
   exact ⟨fun b=>by simp,fun b _=>rfl⟩
  ·rw [Yb e,Zd] at hr
   by_cases e9:9=i
   ·subst e9
    simp at hr
    subst hr
    refine ⟨fun b hb=>?_,?_⟩
    ·have:(9:Nat)=0:=hb.1
     omega
    ·rw [hU];exact hg
   ·rw [Yb e9] at hr;simp [look] at hr
section
variable {P:Program} {p:PV} {u:Value} {d:Option Nat} {t ty:TypeId} {pos:String} {af:Array Edge} {g:Option (Nat×Bool)} {x y:Operand} {ps qs:List (Nat×SF)}
theorem Zil {f:FuncId} {args:Array Operand} {tys:Array TypeId} {avs:List PV} {q:PV} {fn:Func} (m:Nat)
    (hc : ZlM P p u f avs q) (hf : P.funcs[f]? = some fn) (hb : fn.body.isSome = true) (hn : (fn.name == "runtime.NumGoroutine") = false)
    (ha:∀ (a:Act) w y,Hps ps (Act.tau a) w y → ∃ vs:List Value,args.map a.eval=vs.toArray∧PVt avs vs w y) :
    OpC P ⟨d,.call { callee:=.value (.func f),args:=args,argTypes:=tys },ty,pos,af,g⟩ ⟨ps,[(m,RS.hp (gH p u))],.pv q,[]⟩:=fun a w F K Q hw hp hr ht=>by
  have hg:p.p u w (U F):=(hr (m,RS.hp (gH p u)) (by simp)).2
  obtain ⟨vs,e,hvs⟩:=ha a w (U F) hp
  have hbn:fn.body≠none:=by intro h;rw [h] at hb;cases hb
  have hn' : fn.name ≠ "runtime.NumGoroutine" := by intro h; rw [h] at hn; simp at hn
  have hrun:(execOp a.eval ⟨d,.call { callee:=.value (.func f),args:=args,argTypes:=tys },ty,pos,af,g⟩).run P w = .ok (.enter f vs.toArray) w:=by
    have e2:a.eval (.func f) = .func (.func f) #[] #[]:=rfl
    simp [execOp,resolve,e,e2,Deferred.ofValue,invoke,callFunc,hf,hn',hbn]
  simp only [Oper.wp,hrun,Oper.upon]
  refine (hc w (U F) vs (fun b ⟨n,hn⟩=>hw.bd n b hn) hg hvs).mono ?_
  rintro e' w' ⟨v,rfl,hq,hbel⟩
  have hst:Stp [] w F w' F:=⟨hbel.os,hbel.tape,hbel.output,hbel.size,fun b hb _=>hbel.block b hb,fun _ _=>rfl,fun _ h=>by cases h⟩
  exact ht v w' F ⟨hw.dis,fun n b hn=>Y0 (hw.bd n b hn) hbel.size⟩ hst hq (fun x hx=>by cases hx)
end
section
variable {P:Program}
theorem Ze1 {p0:PV} {u0:Value} {f:FuncId} {fn:Func} {s:ChangeSpec} {β:Type} {AA:β→List PV} {tb:TypeId} (hl:laidOutB P=true) (hts:∀ t ∈ fn.params.toList,P.readableRec t=true∧t<P.types.size) {ts:List TypeId} (hA0:Zkb P ts AA) (hp:fn.params.toList=ts) (hF:∀ b,ZlM P p0 u0 f (AA b) (.bool true))
  (hv:s.vars = []) (hr:fn.resultTypes = #[tb]) (hb:P.underlying tb=some .bool) (hs:∀ (H:Type) (ds:List (DataW H)),ds.length=fn.params.toList.length→s.fn H ds = { results:=[.lit (.bool true)],args:=ds,vars:=[] })
  {apart fresh handsOn again:Bool} (H:Type) (enc:TypeId×Value→H) (W:World) (base:Nat) (args:Array Value) (ds gs:List (DataW H)) (before:List MemPlace)
  (hgl:p0.p u0 W noY) (hval:∀ (j:Nat) t v,fn.params[j]? = some t→args[j]? = some v→Value.okWide P W .any base t v) (hW:DataW.Whole enc P fn.params.toList s.vars apart W args.toList ds gs before) :
  Calls P f args W fun e W'=>∃ v,e = .returned v∧s.post enc P fn apart fresh handsOn again W args v W':=by
 have hA:Zkb P fn.params.toList AA:=by rw [hp];exact hA0
 have hW':=hW
 obtain ⟨p,q,hd,hg,hbe,hz,hn⟩:=hW
 have hg':DataW.TrodVars enc P W (fun _=>true) [] gs q:=by rw [← hv];exact hg
 obtain ⟨hgs,hqs⟩:=trodVars_none hg'
 subst hgs;subst hqs
 obtain ⟨b,hargs⟩:=hA H enc W 0 _ true .any base args.toList ds p (fun j t v h1 h2=>hval j t v (by simpa using h1) (by simpa using h2)) hd
 have hlen:=ZeI hd
 have hcall:=hF b W noY args.toList (fun b h=>h.elim) hgl hargs
 rw [Array.toArray_toList] at hcall
 refine hcall.mono fun e W' h=>?_
 obtain ⟨v,rfl,hq,hbel⟩:=h
 have hv':v = .bool true:=hq
 subst hv'
 have hlt:∀ p ∈ before,p.block<W.heap.size:=fun p hp=>hW'.lt p hp
 have hsp:=hs H (ds ++ []) (by rw [Y2];exact hlen)
 refine ⟨_,rfl,?_⟩
 have hps:before=p:=by rw [hbe,Y2]
 have hagain:∀ sp:Nat→Bool,(∀ x ∈ before,sp x.block=true)→DataW.TrodAll enc P W' 0 sp true fn.params.toList args.toList (s.fn H (ds ++ [])).args p:=fun sp h=>by
  rw [hsp,Y2]
  exact Zc2 hl hts hd (fun x hx=>hbel.same (hlt x (by rw [hps];exact hx))) (fun x hx=>h x (by rw [hps];exact hx))
 have hres:∀ (c:Nat) (sp:Nat→Bool) (hd:Bool),DataW.TrodAll enc P W' c sp hd fn.resultTypes.toList ((Value.bool true).resultList fn.resultTypes.size) (s.fn H (ds ++ [])).results []:=fun c sp hd=>by
  rw [hsp,hr]
  exact trodAll_cons_mk (shut_bool hb _) trodAll_mk0
 have hvars:∀ sp:Nat→Bool,DataW.TrodVars enc P W' sp s.vars (s.fn H (ds ++ [])).vars []:=fun sp=>by rw [hsp,hv];rfl
 have hold:∀ x ∈ before,(fun b=>decide (b<W.heap.size)) x.block=true:=fun x hx=>by simpa using hlt x hx
 refine ⟨ds,[],before,[],p,[],hW',hres _ _ _,hagain _ hold,hvars _,World.keptBut_mono (fun x hx=>⟨hx,?_⟩) (hbel.frame _),fun _=>?_⟩
 ·rw [hps] at hx;exact Or.inr (by simpa using hx)
 ·refine ⟨ok_one hr O (okWide_bool_mk hb _),_,_,([] ++ p) ++ [],⟨[] ++ p,[],trodAll_append (hagain _ (fun _ _=>rfl)) (hres _ _ _),hvars _,rfl,?_,?_⟩,?_⟩
  ·intro c off hp
   have hp':MemPlace.cell c off ∈ before:=by rw [hps];simpa using hp
   rw [hbel.frozen (p:=⟨c,off,none⟩) (hlt _ hp')]
   exact hz c off hp'
  ·intro ha
   have:=hn ha
   rw [hps] at this
   simpa using this
  ·intro x hx _
   rw [hps]
   simpa using hx
end
section
variable {P:Program}
theorem ZhE {H:Type} {enc:TypeId×Value→H} {w:World} {base:Nat} {sp:Nat→Bool} {held:Bool} {fuel:Nat} {t e:TypeId} {n:Nat} {k:IntKind} {cs:List Value} {tab:List Int} {q:List MemPlace} (ht:P.underlying t=some (.array n e)) (he:P.underlying e=some (.int k)) (hce:P.cellsOf e=1) (hct:P.cellsOf t=n) (hn:tab.length=n)
  (h:DataW.trod enc P w base sp held fuel t cs=some (.agg (tab.map fun c=>.lit (.int k c)),q)):cs=tab.map (Value.int k) ∧ ∀ c ∈ tab,(Lit.int k c).wf=true:=by
 obtain ⟨xs,m,rfl,hx,hlen,hxl,hel⟩:=DataW.trod_array ht h
 simp only [Prod.mk.injEq,DataW.agg.injEq] at hx
 have key:∀ i (hi:i<n),∃ c,cs[i]? = some (.int k c)∧tab[i]? = some c∧(Lit.int k c).wf=true:=by
  intro i hi
  have h1:=hel i hi
  rw [hce,Ya3,Yal ow] at h1
  obtain ⟨c,e1,e2,e3⟩:=DataW.trod_int he h1
  have hcl:i<cs.length:=by omega
  refine ⟨c,?_,?_,e3⟩
  ·have e4:((cs.drop i).take 1)[0]? = some (.int k c):=by rw [e1];rfl
   rw [List.getElem?_take_of_lt (by decide),List.getElem?_drop] at e4
   simpa using e4
  ·have h2:(xs.map (·.1))[i]? = (tab.map fun c=>(DataW.lit (Lit.int k c):DataW H))[i]?:=by rw [← hx.1]
   rw [List.getElem?_map,List.getElem?_map,Yal (by omega:i<xs.length),e2,Yal (by omega:i<tab.length)] at h2
   simp at h2
   rw [Yal (by omega:i<tab.length),h2]
 refine ⟨List.ext_getElem? fun i=>?_,fun c hc=>?_⟩
 ·rw [List.getElem?_map]
  by_cases hi:i<n
  ·obtain ⟨c,h1,h2,_⟩:=key i hi
   rw [h1,h2];rfl
  ·rw [Ybd ow,Ybd ow];rfl
 ·obtain ⟨i,hi,e⟩:=YL hc
  obtain ⟨c',_,h2,h3⟩:=key i ow
  rw [Yal hi,e] at h2
  simp at h2
  rw [h2];exact h3
theorem ZgN {w:World} {y:Ys} {k:IntKind} : ∀ {tab:List Int},(∀ c ∈ tab,(Lit.int k c).wf=true)→PVs (tab.map fun c=>PV.int k c) (tab.map (Value.int k)) w y
 | [],_=>trivial
 | c :: tab,h=>⟨⟨rfl,rfl,by have:=h c (by simp);simpa [Lit.wf,inR] using this⟩,ZgN fun c hc=>h c (by simp [hc])⟩
theorem Zk4 {w:World} {k:IntKind} {name:String} {g:Nat} {cs:Array Value} {tab:List Int} (hg:P.globalNamed name=some g) (hv:w.var? P name=some cs) (hc:cs.toList=tab.map (Value.int k)) (hw:∀ c ∈ tab,(Lit.int k c).wf=true) (hne:tab≠[]) :
  (PV.ref (tab.map fun c=>PV.int k c)).p (.pointer (some ⟨g,0,none⟩)) w noY:=by
 have hcell:=fun i=>World.var?_cell hg hv i
 have hsz:cs.size=tab.length:=by have:=YZ List.length hc;simpa using this
 have hcells:Zq w g 0 (tab.map (Value.int k)):=by
  refine Zq.mk fun j v hj=>?_
  rw [YP,hcell j,← hj,← hc]
  simp
 refine ⟨g,0,tab.map (Value.int k),rfl,fun h=>h.elim,?_,hcells,ZgN hw⟩
 match tab,hne,hcells with
 | c :: tab,_,hcells=>exact hcells.lt
end
end Go.Gm
