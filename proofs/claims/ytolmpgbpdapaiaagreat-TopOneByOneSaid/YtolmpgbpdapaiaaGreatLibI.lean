/- Walks: values behind interfaces;new things told as facts. No condition. -/
import Derived.Test.YtolmpgbpdapaiaaGreatLibE
namespace Go.Gm
set_option linter.unusedVariables false
set_option linter.unusedSimpArgs false
def PV.ifc (t:TypeId) (p:PV):PV:=⟨fun u w y=>∃ v,u = .iface t v∧p.p v w y,fun h ⟨v,e,k⟩=>⟨v,e,p.mono h k⟩⟩
section
variable {P:Program} {d:Option Nat} {ty:TypeId} {pos:String} {af:Array Edge} {g:Option (Nat×Bool)} {x:Operand} {ps:List (Nat×SF)} {T T' xT:TypeId} {p:PV} {fs:Array Field}
end
end Go.Gm
namespace Go.Gm
set_option linter.unusedVariables false
set_option linter.unusedSimpArgs false
def ZrC (N:Nat) (p q:PV):Prop:=∀ v w y y',p.p v w y' → (∀ b,y b→¬ y' b→b<N)→q.p v w y
theorem ZrC.int {N:Nat} {k:IntKind} {x:Int} : ZrC N (.int k x) (.int k x):=fun _ _ _ _ h _=>h
theorem ZrC.bool {N:Nat} {x:Bool} : ZrC N (.bool x) (.bool x):=fun _ _ _ _ h _=>h
def ZnT (N:Nat):List PV→List PV→Prop
 | [],[]=>True
 | p :: ps,q :: qs=>ZrC N p q∧ZnT N ps qs
 | _,_=>False
theorem ZrC.pvs {N:Nat} {w:World} {y y':Ys} (hy:∀ b,y b→¬ y' b→b<N):∀ {ps qs:List PV} {vs:List Value},ZnT N ps qs→PVs ps vs w y' → PVs qs vs w y:=by
 intro ps
 induction ps with
 | nil=>intro qs vs h k;cases qs with
  | nil=>cases vs with
   | nil=>trivial
   | cons v vs=>exact k.elim
  | cons q qs=>exact h.elim
 | cons p ps ih=>intro qs vs h k;cases qs with
  | nil=>exact h.elim
  | cons q qs=>cases vs with
   | nil=>exact k.elim
   | cons v vs=>exact ⟨⟨k.1.1,h.1 v w y y' k.1.2 hy⟩,ih h.2 k.2⟩
theorem ZrC.agg {N:Nat} {l l':List PV} (h:ZnT N l l'):ZrC N (.agg l) (.agg l'):=fun v w y y' ⟨vs,e,k⟩ hy=>⟨vs,e,ZrC.pvs hy h k⟩
end Go.Gm
