/- Walks: rows changed in place. No condition. -/
import Derived.Test.YtcfgcpcakdknkaaGreatLibG
import Derived.Lib.AppendZerosOnto
import Derived.Lib.Overlaps

namespace Go.Gm
set_option linter.unusedVariables false
set_option linter.unusedSimpArgs false
set_option linter.unusedSectionVars false
section
variable {P : Program} {d : Option Nat} {t ty : TypeId} {pos : String} {af : Array Edge} {g : Option (Nat × Bool)} {x y z : Operand} {ps qs rs : List (Nat × SF)} {α : Type} {R : α → List PV} {l : List α} {e sz : Nat} {v : Value}
theorem PVs.set {p : PV} {u : Value} {w : World} {yy : Ys} (hu : u.oneCell' = true) (hp : p.p u w yy) : ∀ {qs : List PV} {us : List Value} (k : Nat), k < qs.length → PVs qs us w yy → PVs (qs.set k p) (us.set k u) w yy
  | [], us, k, h, _ => by simp at h
  | q :: qs, [], k, _, h => h.elim
  | q :: qs, x :: us, 0, _, h => ⟨⟨hu, hp⟩, h.2⟩
  | q :: qs, x :: us, k + 1, hk, h => ⟨h.1, PVs.set hu hp k (by simpa using hk) h.2⟩
def cellN (i : Nat) : Value → Value
  | .agg cs => cs.toList.getD i undef
  | _ => undef
/-- A struct of two rows. -/
abbrev pairQ (v : Value) : PV := .agg [.is (cellN 0 v), .is (cellN 1 v)]
abbrev pairH (k1 k2 : Value → HP) (v : Value) : HP := HP.star [.ob (.val (cellN 0 v)) k1, .ob (.val (cellN 1 v)) k2]
end
end Go.Gm
