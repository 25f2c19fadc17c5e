/- Walks: values behind interfaces;new things told as facts. No condition. -/
import Derived.Test.YthfoojdlcjfmcaaGreatDoorLibE
namespace Go.Gm
set_option linter.unusedVariables false
set_option linter.unusedSimpArgs false
def PV.ifc (t:TypeId) (p:PV):PV:=⟨fun u w y=>∃ v,u = .iface t v∧p.p v w y,fun h ⟨v,e,k⟩=>⟨v,e,p.mono h k⟩⟩
section
variable {P:Program} {d:Option Nat} {ty:TypeId} {pos:String} {af:Array Edge} {g:Option (Nat×Bool)} {x:Operand} {ps:List (Nat×SF)} {T T' xT:TypeId} {p:PV} {fs:Array Field}
end
end Go.Gm
namespace Go.Gm
set_option linter.unusedVariables false
set_option linter.unusedSimpArgs false
def ZpY (N:Nat) (p q:PV):Prop:=∀ v w y y',p.p v w y' → (∀ b,y b→¬ y' b→b<N)→q.p v w y
theorem ZpY.int {N:Nat} {k:IntKind} {x:Int} : ZpY N (.int k x) (.int k x):=fun _ _ _ _ h _=>h
end Go.Gm
