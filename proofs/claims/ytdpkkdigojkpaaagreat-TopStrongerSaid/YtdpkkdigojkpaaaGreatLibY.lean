/- Walks: contracts that lean on a table. No condition. -/
import Derived.Test.YtdpkkdigojkpaaaGreatLibX
import Derived.OpenShut
import Derived.ChangeArms
import Derived.FnData
import Derived.LaidMore
import Derived.SevenTiedAt
import Derived.ProofKit
import Derived.Stop.Joined
namespace Go.Gm
set_option linter.unusedVariables false
set_option linter.unusedSimpArgs false
open Go.RowKit Go.WideShapes Go.ChangeShapes
def gH (p:PV) (v:Value):HP:=⟨fun w f y=>(∀ b,¬ f b)∧p.p v w y,fun h hf k=>⟨k.1,p.mono h k.2⟩⟩
def Zso (P:Program) (p:PV) (u:Value) (f:FuncId) (args:List PV) (q:PV):Prop:=
 ∀ (w:World) (y:Ys) (vs:List Value),(∀ b,y b→b<w.heap.size)→p.p u w y→PVt args vs w y →
   Calls P f vs.toArray w fun e w'=>∃ v,e = .returned v∧q.p v w' y∧Below w.heap.size w w'
theorem Zso.mk {P:Program} {p:PV} {u:Value} {f:FuncId} {args:List PV} {q:PV} {fn:Func} {c:Code} {n:Nat} (hf:P.funcs[f]? = some fn) (hb:fn.body=some c) (hn:fn.ntmps=n) (ha:Nat.ble args.length n=true)
   (h:∀ B a w F,B.n=n→B.fr=B.y→Sat B ⟨ZeM args 0,[(0,frame B),(9,RS.hp (gH p u))]⟩ a w F→c.wp P (bodyPost P fn (RP B q)) a w):Zso P p u f args q:=fun w y vs hy hg hvs=>by
 have hl:=hvs.len
 have hle:vs.length≤n:=by rw [← hl];exact Nat.le_of_ble_eq_true ha
 refine calls_of_wp hf hb (h ⟨w,y,y,n⟩ _ w (fun m b=>m=0∧y b) rfl rfl ?_)
 have hU:U (fun m b=>m=0∧y b)=y:=by funext b;simp [U]
 refine ⟨⟨fun i j b hi hj=>by rw [hi.1,hj.1],fun i b hi=>hy b hi.2⟩,?_,?_,rfl,fun i s hs=>?_,fun i r hr=>?_,fun i b hi=>⟨frame ⟨w,y,y,n⟩,by obtain ⟨rfl,_⟩:=hi;rfl⟩⟩
 · rw [hU];exact Ev.refl w y
 · subst hn;simp;omega
 · rw [hU]
   obtain ⟨v,h1,h2,h3⟩:=Zb3 hvs hs
   have:Act.tau { tmps:=vs.toArray++Array.replicate (fn.ntmps - vs.toArray.size) undef,defers:=[] } i=v:=by
     simp only [Nat.sub_zero] at h2
     have hi:i<vs.length:=(List.getElem?_eq_some_iff.1 h2).1
     have h2':vs[i] = v:=by simpa [hi] using h2
     simp [Act.tau,Array.getElem?_append,hi,h2']
   rw [this];exact h3 _
 · rw [Zg] at hr
   by_cases e:0=i
   · subst e
     simp at hr
     subst hr
     exact ⟨fun b=>by simp,fun b _=>rfl⟩
   · rw [if_neg e,Zg] at hr
     by_cases e9:9=i
     · subst e9
       simp at hr
       subst hr
       refine ⟨fun b hb=>?_,?_⟩
       · have:(9:Nat)=0:=hb.1
         omega
       · rw [hU];exact hg
     · rw [if_neg e9] at hr;simp [look] at hr
section
variable {P:Program} {p:PV} {u:Value} {d:Option Nat} {t ty:TypeId} {pos:String} {af:Array Edge} {g:Option (Nat×Bool)} {x y:Operand} {ps qs:List (Nat×SF)}
end
section
variable {P:Program}
end
section
variable {P:Program}
end
end Go.Gm
