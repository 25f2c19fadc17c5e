/- Walks: values behind interfaces;new things told as facts. No condition. -/
import Derived.Test.YtfecljadegkmdaaGreatLibE
namespace Go.Gm
set_option linter.unusedVariables false
set_option linter.unusedSimpArgs false
section
variable {P:Program} {d:Option Nat} {ty:TypeId} {pos:String} {af:Array Edge} {g:Option (Nat×Bool)} {x:Operand} {ps:List (Nat×SF)} {T T' xT:TypeId} {p:PV} {fs:Array Field}
end
end Go.Gm
namespace Go.Gm
set_option linter.unusedVariables false
set_option linter.unusedSimpArgs false
def Zn3 (N:Nat) (p q:PV):Prop:=∀ v w y y',p.p v w y' → (∀ b,y b→¬ y' b→b<N)→q.p v w y
theorem Zn3.int {N:Nat} {k:IntKind} {x:Int} : Zn3 N (.int k x) (.int k x):=fun _ _ _ _ h _=>h
def Zll (N:Nat):List PV→List PV→Prop
 | [],[]=>True
 | p :: ps,q :: qs=>Zn3 N p q∧Zll N ps qs
 | _,_=>False
theorem Zn3.pvs {N:Nat} {w:World} {y y':Ys} (hy:∀ b,y b→¬ y' b→b<N):∀ {ps qs:List PV} {vs:List Value},Zll N ps qs→PVs ps vs w y' → PVs qs vs w y:=by
 intro ps
 induction ps with
 | nil=>intro qs vs h k;cases qs with
  | nil=>cases vs with
   | nil=>trivial
   | cons v vs=>exact k.elim
  | cons q qs=>exact h.elim
 | cons p ps ih=>intro qs vs h k;cases qs with
  | nil=>exact h.elim
  | cons q qs=>cases vs with
   | nil=>exact k.elim
   | cons v vs=>exact ⟨⟨k.1.1,h.1 v w y y' k.1.2 hy⟩,ih h.2 k.2⟩
theorem Zn3.agg {N:Nat} {l l':List PV} (h:Zll N l l'):Zn3 N (.agg l) (.agg l'):=fun v w y y' ⟨vs,e,k⟩ hy=>⟨vs,e,Zn3.pvs hy h k⟩
end Go.Gm
