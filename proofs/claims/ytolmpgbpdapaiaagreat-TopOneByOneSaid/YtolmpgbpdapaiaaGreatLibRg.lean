/- Walks: ranges over maps. No condition. -/
import Derived.Test.YtolmpgbpdapaiaaGreatLibG
import Derived.Maps.RangeRun
namespace Go.Gm
open Go.RowKit Go.ChangeMaps Go.MapKept
set_option linter.unusedVariables false
set_option linter.unusedSimpArgs false
set_option linter.unusedSectionVars false
def iterM (mv:Value) (clock:Nat) (seen:List Nat) (v:Value):HP:=
 ⟨fun w f y=>∃ b r,mv = .map (some b)∧v = .pointer (some ⟨r,0,none⟩)∧w.heap[r]? = some (.mapIter (some b) clock seen.toArray clock) ∧ ∀ x,f x ↔ x=r,
  fun _ hf ⟨b,r,e1,e2,h1,h2⟩=>⟨b,r,e1,e2,(hf r ((h2 r).2 rfl)).trans h1,h2⟩⟩
def Zgd:Value→Bool
 | .tuple vs=>vs.size == 3
 | _=>false
section
variable {κ ν:Type} [DecidableEq κ]
def Zvt (es:List (GE κ ν)) (seen:List Nat) (v:Value):Option (GE κ ν)→Prop
 | some e=>e ∈ es∧e.born ∉ seen ∧ ∃ k u,v = .tuple #[.bool true,k,u]
 | none=>(∀ e ∈ es,e.born ∈ seen)∧v = .tuple #[.bool false]
def Zl8 (seen:List Nat):Option (GE κ ν)→List Nat
 | some e=>seen ++ [e.born]
 | none=>seen
def Zky (mv itv:Value) (clock:Nat) (es:List (GE κ ν)) (seen:List Nat) (v:Value):HP:=.ex fun o:Option (GE κ ν)=>.and (Zvt es seen v o) (iterM mv clock (Zl8 seen o) itv)
variable {P:Program} {d:Option Nat} {t ty:TypeId} {pos:String} {af:Array Edge} {g:Option (Nat×Bool)} {x:Operand} {ps:List (Nat×SF)} {kt et:TypeId} {ek:ν→PV} {ok:κ→Prop} {kv:κ→Value} {es:List (GE κ ν)} {clock:Nat} {mv itv:Value} {seen:List Nat}
theorem Zrm {d':Nat} (m n:Nat) (hu:P.underlying t=some (.map kt et)) (hx:Zar x ps (.val mv)) :
  OpC P ⟨some d',.range t x,ty,pos,af,g⟩ ⟨ps,[(m,.ob (.val mv) (mapG ek ok kv es clock))],.same d',[(n,.ob (.slot d') (iterM mv clock []))]⟩:=fun a w F K Q hw hp hr ht=>by
 obtain ⟨b,rs,e1,hb,_,_,_⟩:=hr (m,.ob (.val mv) (mapG ek ok kv es clock)) XM
 have e1:mv = .map (some b):=e1
 have ex:a.eval x = .map (some b):=by rw [hx a w _ hp];exact e1
 have hrun:(execOp a.eval ⟨some d',.range t x,ty,pos,af,g⟩).run P w = .ok (.value (.pointer (some ⟨w.heap.size,0,none⟩))) (w.alloc (.mapIter (some b) clock #[] clock)):=by
  simp [execOp,ex,run_range_map w t kt et b _ clock hu hb,Result.andThen]
 obtain ⟨g1,g2⟩:=ZaJ hw n (.mapIter (some b) clock #[] clock)
 simp only [Oper.wp,hrun,Oper.upon]
 refine ht _ _ _ g1 g2 ⟨by simp [upd],rfl⟩ ?_
 intro q hq
 simp only [Yn] at hq
 subst hq
 exact ⟨b,w.heap.size,e1,by simp [Anc.v,upd],Yat w _,fun b=>by simp⟩
theorem GR.bornL {w:World} {y:Ys} : ∀ {es:List (GE κ ν)} {rs:List (GE κ Value)},GR ek es rs w y → ∀ {r:GE κ Value},r ∈ rs → ∃ e ∈ es,e.key=r.key∧e.born=r.born∧(ek e.val).p r.val w y
 | [],[],_,r,h=>by cases h
 | e :: es,r0 :: rs,h,r,hr=>by
  rcases Ym.1 hr with rfl | hr
  ·exact ⟨e,by simp,h.1⟩
  ·obtain ⟨e',h1,h2⟩:=GR.bornL h.2 hr
   exact ⟨e',Yy _ h1,h2⟩
 | [],_ :: _,k,_,_=>k.elim
 | _ :: _,[],k,_,_=>k.elim
theorem GR.bornR {w:World} {y:Ys} : ∀ {es:List (GE κ ν)} {rs:List (GE κ Value)},GR ek es rs w y → ∀ {e:GE κ ν},e ∈ es → ∃ r ∈ rs,e.key=r.key∧e.born=r.born∧(ek e.val).p r.val w y
 | [],[],_,r,h=>by cases h
 | e0 :: es,r :: rs,h,e,he=>by
  rcases Ym.1 he with rfl | he
  ·exact ⟨r,by simp,h.1⟩
  ·obtain ⟨e',h1,h2⟩:=GR.bornR h.2 he
   exact ⟨e',Yy _ h1,h2⟩
 | [],_ :: _,k,_,_=>k.elim
 | _ :: _,[],k,_,_=>k.elim
theorem GR.bornsL {w:World} {y:Ys} : ∀ {es:List (GE κ ν)} {rs:List (GE κ Value)},GR ek es rs w y→rs.map (·.born)=es.map (·.born)
 | [],[],_=>rfl
 | e :: es,r :: rs,h=>by rw [YG,YG,GR.bornsL h.2,h.1.2.1]
 | [],_ :: _,k=>k.elim
 | _ :: _,[],k=>k.elim
theorem Ztu {w:World} {y:Ys} {rs:List (GE κ Value)} (hg:GR ek es rs w y) (hw:GWf es clock):∀ z ∈ (rs.map (rEnc kv)).toArray.toList,z.born<clock:=fun z hz=>by
 obtain ⟨r,h1,rfl⟩:=YB.1 (by simpa using hz)
 obtain ⟨e,h2,_,h3,_⟩:=hg.bornL h1
 show r.born<clock
 rw [← h3];exact hw.2 e h2
theorem Ztc {d':Nat} (n m:Nat) (hx:Zar x ps (.val itv)) :
  OpC P ⟨some d',.next x false,ty,pos,af,g⟩ ⟨ps,[(n,.ob (.val itv) (iterM mv clock seen)),(m,.ob (.val mv) (mapG ek ok kv es clock))],.fn d' (fun z=>.eqv z),[(n,.ob (.slot d') (Zky mv itv clock es seen))]⟩:=fun a w F K Q hw hp hr ht=>by
 obtain ⟨b0,r,e0,e1,hr1,hf1⟩:=hr (n,.ob (.val itv) (iterM mv clock seen)) XM
 obtain ⟨b,rs,e2,hb,hg,hrg,hf2⟩:=hr (m,.ob (.val mv) (mapG ek ok kv es clock)) XM
 have e1:itv = .pointer (some ⟨r,0,none⟩):=e1
 have e2:mv = .map (some b):=e2
 have eb:b0=b:=by rw [e2] at e0;simpa using e0.symm
 subst eb
 have ex:a.eval x = .pointer (some ⟨r,0,none⟩):=by rw [hx a w _ hp];exact e1
 have hbF:F n r:=(hf1 r).2 rfl
 have hbl:r<w.heap.size:=hw.bd n r hbF
 rcases run_next_at (P:=P) w ty r b0 clock clock seen.toArray _ clock hr1 hb (Ztu hg hrg.1) (YF _) with ⟨h0,hrun⟩ | ⟨z,hz,w1,hal,hrun⟩
 ·have hrun2:(execOp a.eval ⟨some d',.next x false,ty,pos,af,g⟩).run P w = .ok (.value (.tuple #[.bool false])) w:=by simp [execOp,ex,hrun,Result.andThen]
  simp only [Oper.wp,hrun2,Oper.upon]
  refine ht _ w F hw ⟨rfl,rfl,rfl,YF _,fun _ _ _=>rfl,fun _ _=>rfl,fun k hk c hc=>.inl ⟨k,hk,hc⟩⟩ (by show _=_;simp [upd]) ?_
  intro q hq
  simp only [Yn] at hq
  subst hq
  refine ⟨none,⟨fun e he=>?_,by simp [Anc.v,upd]⟩,b0,r,e2,e1,hr1,hf1⟩
  obtain ⟨r',h1,h2,h3,_⟩:=hg.bornR he
  have:=all_seen _ _ h0 (rEnc kv r') (by simpa using ⟨r',h1,rfl⟩)
  rw [h3]
  simpa [rEnc] using this
 ·have hrun2:(execOp a.eval ⟨some d',.next x false,ty,pos,af,g⟩).run P w = .ok (.value (.tuple #[.bool true,z.key,z.val])) (setBlock w1 r (.mapIter (some b0) clock (seen.toArray.push z.born) clock)):=by simp [execOp,ex,hrun,Result.andThen]
  simp only [Oper.wp,hrun2,Oper.upon]
  have hheap:w1.heap=w.heap:=by rcases hal with rfl | rfl <;> rfl
  have hz2:=mem_left hz
  obtain ⟨r',h1,rfl⟩:=YB.1 (by simpa using hz2.1)
  obtain ⟨e,h2,h3,h4,_⟩:=hg.bornL h1
  have key:∀ (w2:World),w2=setBlock w1 r (.mapIter (some b0) clock (seen.toArray.push (rEnc kv r').born) clock)→w2.os=w.os∧w2.tape=w.tape∧w2.output=w.output∧w2.heap=w.heap.setIfInBounds r (.mapIter (some b0) clock (seen.toArray.push (rEnc kv r').born) clock):=fun w2 hw2=>by
   subst hw2
   rcases hal with rfl | rfl <;> exact ⟨rfl,rfl,rfl,rfl⟩
  obtain ⟨k1,k2,k3,k4⟩:=key _ rfl
  generalize setBlock w1 r (.mapIter (some b0) clock (seen.toArray.push (rEnc kv r').born) clock)=w2 at k1 k2 k3 k4 ⊢
  refine ht _ w2 F ⟨hw.dis,fun i c hc=>by rw [k4,Array.size_setIfInBounds];exact hw.bd i c hc⟩ ⟨k1,k2,k3,by rw [k4,Array.size_setIfInBounds];exact YF _,fun c _ hc=>by
   have hne:r≠c:=fun e=>hc n (.head _) (by rw [← e];exact hbF)
   rw [k4,YaZ hne],fun _ _=>rfl,fun k hk c hc=>.inl ⟨k,hk,hc⟩⟩ (by show _=_;simp [upd]) ?_
  intro q hq
  simp only [Yn] at hq
  subst hq
  refine ⟨some e,⟨h2,?_,kv r'.key,r'.val,by simp [Anc.v,upd,rEnc]⟩,b0,r,e2,e1,?_,hf1⟩
  ·rw [h4]
   have:=hz2.2
   simpa [rEnc] using this
  ·rw [k4]
   simp [hbl,rEnc,Zl8,h4]
theorem ZtP {i:Nat} (n:Nat) (hd:d≠some i):OpC P ⟨d,.extract (.tmp i) 0,ty,pos,af,g⟩ ⟨[],[(n,.ob (.slot i) (Zky mv itv clock es seen))],.fn i (fun z=>.bool (Zgd z)),[]⟩:=
 OpC.read fun act w F hp hr=>by
  obtain ⟨o,ho,_⟩:=hr (n,.ob (.slot i) (Zky mv itv clock es seen)) XM
  have e0:act.eval (.tmp i)=Act.tau act i:=rfl
  cases o with
  | some e=>
   obtain ⟨_,_,k,u,h3⟩:=ho
   have h3:Act.tau act i = .tuple #[.bool true,k,u]:=h3
   refine ⟨.bool true,by simp [execOp,Instr.extract,e0,h3],fun τ' hτ=>?_⟩
   show (PV.bool (Zgd (τ' i))).p _ _ _
   rw [hτ i hd,h3];rfl
  | none=>
   have h3:Act.tau act i = .tuple #[.bool false]:=ho.2
   refine ⟨.bool false,by simp [execOp,Instr.extract,e0,h3],fun τ' hτ=>?_⟩
   show (PV.bool (Zgd (τ' i))).p _ _ _
   rw [hτ i hd,h3];rfl
theorem ZqJ {e:GE κ ν} {kp:PV} (n m:Nat) (he:e ∈ es) (hkp:∀ w y,kp.p (kv e.key) w y) (hx:Zar x ps (.val itv)) :
  OpC P ⟨d,.entry x,ty,pos,af,g⟩ ⟨ps,[(n,.ob (.val itv) (iterM mv clock (seen ++ [e.born]))),(m,.ob (.val mv) (mapG ek ok kv es clock))],.pv (.tup [kp,ek e.val]),[]⟩:=
 OpC.read fun act w F hp hr=>by
  obtain ⟨b0,r,e0,e1,hr1,hf1⟩:=hr (n,.ob (.val itv) (iterM mv clock (seen ++ [e.born]))) XM
  obtain ⟨b,rs,e2,hb,hg,hrg,hf2⟩:=hr (m,.ob (.val mv) (mapG ek ok kv es clock)) XM
  have e1:itv = .pointer (some ⟨r,0,none⟩):=e1
  have e2:mv = .map (some b):=e2
  have eb:b0=b:=by rw [e2] at e0;simpa using e0.symm
  subst eb
  have ex:act.eval x = .pointer (some ⟨r,0,none⟩):=Kr
  obtain ⟨r',h1,h2,h3,h4⟩:=hg.bornR he
  have hnd:((rs.map (rEnc kv)).toArray.toList.map (·.born)).Nodup:=by
   have:=hg.bornsL
   have e9:(rs.map (rEnc kv)).map (·.born)=rs.map (·.born):=by rw [Yba];rfl
   simp only [List.toList_toArray]
   rw [e9,this];exact hrg.1.1
  have hpush:(seen ++ [e.born]).toArray=seen.toArray.push (rEnc kv r').born:=by rw [h3];simp [rEnc]
  rw [hpush] at hr1
  have hrun:=run_entry_at (P:=P) w r b0 clock seen.toArray _ clock (rEnc kv r') hr1 hb (by simpa using ⟨r',h1,rfl⟩) hnd
  refine ⟨.tuple #[kv r'.key,r'.val],by simp [execOp,ex,hrun,Result.andThen,rEnc],fun _ _=>⟨[_,_],rfl,by rw [← h2];exact hkp _ _,h4,tv⟩⟩
end
section
variable {B:ZaV} {E:En} {a:Act} {w:World} {F:Fp} {κ ν:Type} [DecidableEq κ] {es:List (GE κ ν)} {clock:Nat} {mv itv v:Value} {seen:List Nat}
theorem Sat.nextTrue (h:Sat B E a w F) (n:Nat) (hl:look E.r n=some (.ob (.val v) (Zky mv itv clock es seen))) (hb:Zgd v=true) :
  ∃ e ∈ es,e.born ∉ seen∧Sat B ⟨E.s,(n,.ob (.val itv) (iterM mv clock (seen ++ [e.born]))) :: E.r⟩ a w F:=by
 have h1:=h.turn n hl (r':=RS.hp (Zky mv itv clock es seen v)) (fun _ _ _ _ k=>k)
 obtain ⟨o,h2⟩:=h1.open_ex n (by rw [Zf,Ye rfl];rfl)
 obtain ⟨ho,h3⟩:=h2.open_and n Wd
 have h4:=h3.turn n (r:=RS.hp (iterM mv clock (Zl8 seen o) itv)) Wd (r':=.ob (.val itv) (iterM mv clock (Zl8 seen o))) (fun _ _ _ _ k=>k)
 cases o with
 | some e=>
  refine ⟨e,ho.1,ho.2.1,h4.congr (fun _=>rfl) fun k=>?_⟩
  simp only [Zf]
  split <;> rfl
 | none=>
  have h3:v=_:=ho.2
  rw [h3] at hb;simp [Zgd] at hb
theorem Sat.nextFalse (h:Sat B E a w F) (n:Nat) (hl:look E.r n=some (.ob (.val v) (Zky mv itv clock es seen))) (hb:Zgd v=false) :
  (∀ e ∈ es,e.born ∈ seen)∧Sat B ⟨E.s,(n,.ob (.val itv) (iterM mv clock seen)) :: E.r⟩ a w F:=by
 have h1:=h.turn n hl (r':=RS.hp (Zky mv itv clock es seen v)) (fun _ _ _ _ k=>k)
 obtain ⟨o,h2⟩:=h1.open_ex n (by rw [Zf,Ye rfl];rfl)
 obtain ⟨ho,h3⟩:=h2.open_and n Wd
 have h4:=h3.turn n (r:=RS.hp (iterM mv clock (Zl8 seen o) itv)) Wd (r':=.ob (.val itv) (iterM mv clock (Zl8 seen o))) (fun _ _ _ _ k=>k)
 cases o with
 | some e=>
  obtain ⟨_,_,k,u,h3⟩:=ho
  rw [h3] at hb;simp [Zgd] at hb
 | none=>
  refine ⟨ho.1,h4.congr (fun _=>rfl) fun k=>?_⟩
  simp only [Zf]
  split <;> rfl
end
end Go.Gm
