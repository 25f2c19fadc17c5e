/- Walks: ranges over maps. No condition. -/
import Derived.Test.YthfoojdlcjfmcaaGreatDoorLibG
import Derived.Maps.RangeRun
namespace Go.Gm
open Go.RowKit Go.ChangeMaps Go.MapKept
set_option linter.unusedVariables false
set_option linter.unusedSimpArgs false
set_option linter.unusedSectionVars false
section
variable {κ ν:Type} [DecidableEq κ]
variable {P:Program} {d:Option Nat} {t ty:TypeId} {pos:String} {af:Array Edge} {g:Option (Nat×Bool)} {x:Operand} {ps:List (Nat×SF)} {kt et:TypeId} {ek:ν→PV} {ok:κ→Prop} {kv:κ→Value} {es:List (GE κ ν)} {clock:Nat} {mv itv:Value} {seen:List Nat}
theorem Zm8 {an:Anc} (m:Nat) (hu:P.underlying t=some (.map kt et)) (hx:Zal x ps an) :
  OpC P ⟨none,.call { callee:=.builtin .clear,args:=#[x],argTypes:=#[t] },ty,pos,af,g⟩ ⟨ps,[(m,.ob an (ZbO ek ok kv es clock))],.pv .any,[(m,.ob an (ZbO ek ok kv [] clock))]⟩:=fun act w F K Q hw hp hr ht=>by
 obtain ⟨b,us,e1,hb,hg,hrg,hf⟩:=hr (m,.ob an (ZbO ek ok kv es clock)) (by simp)
 have ex:act.eval x = .map (some b):=by rw [← e1];exact hx act w _ hp
 have hrun:(execOp act.eval ⟨none,.call { callee:=.builtin .clear,args:=#[x],argTypes:=#[t] },ty,pos,af,g⟩).run P w = .ok (.value (.tuple #[])) { w with heap:=w.heap.setIfInBounds b (.map #[] clock) } := by
  simp [execOp,resolve,ex,invoke,builtin,Builtin.clear_,Yh hu,YQ hb,Yaj _ hb]
 obtain ⟨g1,g2⟩:=Zc0 (o':=.map #[] clock) hw hb hf
 simp only [Oper.wp,hrun,Oper.upon]
 refine ht _ _ F g1 g2 trivial ?_
 intro q hq
 simp only [Yl] at hq
 subst hq
 exact ⟨b,[],e1,by simpa using (YaY (o':=.map #[] clock) hb).1,tv,⟨⟨by simp,by simp⟩,by simp [ZeY]⟩,hf⟩
end
section
variable {B:Zax} {E:En} {a:Act} {w:World} {F:Fp} {κ ν:Type} [DecidableEq κ] {es:List (GE κ ν)} {clock:Nat} {mv itv v:Value} {seen:List Nat}
end
end Go.Gm
