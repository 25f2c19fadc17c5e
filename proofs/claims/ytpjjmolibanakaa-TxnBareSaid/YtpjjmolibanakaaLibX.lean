/- Walks: what is told of internal/bytealg; going over texts; arrays. No condition. -/
import Derived.Test.YtpjjmolibanakaaLibW
import Derived.Lib.Bytealg
import Derived.Lib.MakeNoZero
import Derived.Laws.RangeAny

namespace Go.Gm
set_option linter.unusedVariables false
set_option linter.unusedSimpArgs false
section
variable {P : Program} {d : Option Nat} {t ty : TypeId} {pos : String} {af : Array Edge} {g : Option (Nat × Bool)} {x y : Operand} {ps qs : List (Nat × SF)}
end
end Go.Gm

namespace Go.Gm
set_option linter.unusedVariables false
set_option linter.unusedSimpArgs false
section
variable {P : Program} {d : Option Nat} {t ty : TypeId} {pos : String} {af : Array Edge} {g : Option (Nat × Bool)} {x y : Operand} {ps qs : List (Nat × SF)} {l : List UInt8} {k : Nat}
end
end Go.Gm

namespace Go.Gm
set_option linter.unusedVariables false
set_option linter.unusedSimpArgs false
section
variable {P : Program} {d : Option Nat} {t t' ty : TypeId} {pos : String} {af : Array Edge} {g : Option (Nat × Bool)} {x y : Operand} {ps qs : List (Nat × SF)} {k : IntKind} {i : Int} {T : TypeId} {α : Type} {f : α → PV} {l : List α} {u : Value}
end
end Go.Gm

namespace Go.Gm
set_option linter.unusedVariables false
set_option linter.unusedSimpArgs false
def _root_.Go.Program.fieldTO (P : Program) (s : TypeId) (f : Nat) : Option (TypeId × Nat) := match P.underlying s with
  | some (.struct fs) => match fs[f]? with
    | some fd => some (fd.type, fd.offset)
    | none => none
  | _ => none
theorem PVs.at {w y} : ∀ {l : List PV} {vs : List Value} {k : Nat} {p : PV}, PVs l vs w y → l[k]? = some p → ∃ v, vs[k]? = some v ∧ p.p v w y
  | [], _, _, _, _, h => by simp at h
  | q :: l, [], _, _, h, _ => h.elim
  | q :: l, v :: vs, 0, p, h, hk => by
    simp at hk; subst hk
    exact ⟨v, rfl, h.1.2⟩
  | q :: l, v :: vs, k + 1, p, h, hk => by
    obtain ⟨u, h1, h2⟩ := PVs.at h.2 (by simpa using hk)
    exact ⟨u, by simpa using h1, h2⟩
section
variable {P : Program} {d : Option Nat} {t ty : TypeId} {pos : String} {af : Array Edge} {g : Option (Nat × Bool)} {x : Operand} {ps : List (Nat × SF)}
theorem run_field {f : Nat} {ft : TypeId} {off : Nat} (h : P.fieldTO t f = some (ft, off)) (vs : Array Value) (w : World) : (Instr.field t (.agg vs) f).run P w = (part ft vs off).run P w := by
  unfold Program.fieldTO at h
  split at h
  · rename_i fs hu
    split at h
    · rename_i fd hf
      simp only [Option.some.injEq, Prod.mk.injEq] at h
      obtain ⟨rfl, rfl⟩ := h
      simp [Instr.field, run_underlying hu, hf, asAgg]
    · cases h
  · cases h
/-- A field of one cell. -/
theorem o_field1 {f : Nat} {ft : TypeId} {off : Nat} {l : List PV} {p : PV} (h : P.fieldTO t f = some (ft, off)) (ha : P.aggB ft = some false) (hx : Opd x ps (.pv (.agg l))) (hl : l[off]? = some p) :
    OpC P ⟨d, .field t x f, ty, pos, af, g⟩ ⟨ps, [], .pv p, []⟩ :=
  OpC.pure fun a w yy hp => by
    obtain ⟨vs, e1, hv⟩ := hx a w yy hp
    obtain ⟨v, h1, h2⟩ := PVs.at hv hl
    refine ⟨v, ?_, fun _ _ => h2⟩
    simp [execOp, e1, run_field h, part, run_isAgg ha, h1]
end
end Go.Gm

namespace Go.Gm
set_option linter.unusedVariables false
set_option linter.unusedSimpArgs false
section
variable {P : Program} {d : Option Nat} {ty : TypeId} {pos : String} {af : Array Edge} {g : Option (Nat × Bool)} {ps : List (Nat × SF)} {x : Operand} {α : Type} {R : α → List PV} {l : List α}
end
end Go.Gm

namespace Go.Gm
set_option linter.unusedVariables false
set_option linter.unusedSimpArgs false
inductive ChainN (P : Program) (ops : Array Oper) : En → List Oper → List CD → En → Prop
  | nil {E : En} : ChainN P ops E [] [] E
  | cons {E : En} {o : Oper} {c : CD} {l : List Oper} {cs : List CD} {E' : En} (hc : Cert P ops o c) (hs : Looks E.s c.ps) (hr : Looks E.r c.pr)
      (t : ChainN P ops (E.step o c) l cs E') : ChainN P ops E (o :: l) (c :: cs) E'
  | norm {E : En} {l : List Oper} {cs : List CD} {E' : En} (L : List (Nat × SF)) (R : List (Nat × RS)) (hL : Looks E.s L) (hR : Looks E.r R) (t : ChainN P ops ⟨L, R⟩ l cs E') : ChainN P ops E l cs E'
section
variable {P : Program} {ops : Array Oper} {Q : Exit → Act → World → Prop}
end
end Go.Gm

namespace Go.Gm
open Go.Lib
set_option linter.unusedVariables false
set_option linter.unusedSimpArgs false
section
variable {P : Program} {d : Option Nat} {t ty : TypeId} {pos : String} {af : Array Edge} {g : Option (Nat × Bool)} {x y : Operand} {ps qs : List (Nat × SF)} {T : TypeId}
end
end Go.Gm
