/- Walks: rows changed in place. No condition. -/
import Derived.Test.YtfecljadegkmdaaGreatLibG
import Derived.Lib.AppendZerosOnto
import Derived.Lib.Overlaps
namespace Go.Gm
set_option linter.unusedVariables false
set_option linter.unusedSimpArgs false
set_option linter.unusedSectionVars false
section
variable {P:Program} {d:Option Nat} {t ty:TypeId} {pos:String} {af:Array Edge} {g:Option (Nat×Bool)} {x y z:Operand} {ps qs rs:List (Nat×SF)} {α:Type} {R:α→List PV} {l:List α} {e sz:Nat} {v:Value}
def ZrO (i:Nat):Value→Value
 | .agg cs=>cs.toList.getD i undef
 | _=>undef
abbrev Zvd (v:Value):PV:=.agg [.is (ZrO 0 v),.is (ZrO 1 v)]
abbrev Zu9 (k1 k2:Value→HP) (v:Value):HP:=HP.star [.ob (.val (ZrO 0 v)) k1,.ob (.val (ZrO 1 v)) k2]
end
theorem ZdY {P:Program} {d:Option Nat} {ty:TypeId} {pos:String} {af:Array Edge} {g:Option (Nat×Bool)} {x:Operand} {ps:List (Nat×SF)} {a:Anc} {α:Type} {R:α→List PV} {l:List α} {T sz i:Nat} {s:TypeId} {f off:Nat} (n:Nat) (hx:Opd x ps (.adr a (i*sz))) (hi:i<l.length) (ho:P.fieldOff s f=some off) (hd:Zcd d (.adr a (i*sz+off))=true) :
  OpC P ⟨d,.fieldAddr s x f,ty,pos,af,g⟩ ⟨ps,[(n,.ob a (ZM T sz R l))],.adr a (i*sz+off),[]⟩:=
 OpC.read fun act w F hp hr=>by
  obtain ⟨xs,h2,h3,h4⟩:=hr (n,.ob a (ZM T sz R l)) W5
  obtain ⟨ad,cap,e1,h5,h6,h7⟩:=ZaH h2
  rcases h7 with h7 | ⟨b,rfl,_,_⟩
  ·omega
  ·have ev:a.v (Act.tau act) = .slice (some ⟨b,0,none⟩) l.length cap:=e1
   have e2:act.eval x = .pointer (some ⟨b,i*sz,none⟩):=by
    have:=hx act w (U F) hp
    simp only [SF.holds,ev,shift,Yaj] at this
    exact this
   refine ⟨.pointer (some ⟨b,i*sz+off,none⟩),by simp [execOp,e2,ZcC ho],fun τ' ht=>Za1 (w:=w) (y:=U F) hd ht ?_⟩
   simp [SF.holds,ev,shift]
end Go.Gm
