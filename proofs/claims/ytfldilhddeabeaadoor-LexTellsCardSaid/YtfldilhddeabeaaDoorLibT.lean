/- Strings among what a row hands in; slices written out. No condition. -/
import Derived.Test.YtfldilhddeabeaaDoorLibP
import Derived.Test.YtfldilhddeabeaaDoorLibS
namespace Go.Gm
set_option linter.unusedVariables false
set_option linter.unusedSimpArgs false
theorem Ent.arrSl {α : Type} {R : α → List PV} {l : List α} (h : Nat.ble l.length maxLen = true) : Ent (.pv (.arr l.length (l.flatMap R))) (.pv (.sl R l)) := fun τ w y v ⟨b, vs, e, h1, h2, h3, h4⟩ =>
  ⟨some ⟨b, 0, none⟩, l.length, e, Nat.le_refl _, Nat.le_of_ble_eq_true h, .inr ⟨b, 0, vs, rfl, h1, h2, h3, h4⟩⟩
theorem reads_bs {P : Program} {t : TypeId} (hu : P.underlying t = some .string) : Reads P t (fun l : List UInt8 => [.bs l]) :=
  (reads_str hu).map (fun s => s.data.toList) (fun s => by cases s; simp)
end Go.Gm
