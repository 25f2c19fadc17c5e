/- Data held against data. No condition beyond those that each theorem says. -/
import Derived.Test.YtfldilhddeabeaaDoorDa1
namespace Go.Proofs.YtfldilhddeabeaaDoor
open Go Go.Gm
set_option linter.unusedVariables false
set_option linter.unusedSimpArgs false
set_option maxHeartbeats 4000000
set_option maxRecDepth 8000


theorem txD_eq (u v : TxD) : ((decide (u.id = v.id) && (u.done == v.done)) && decide (u.ops = v.ops)) = decide (u = v) := by
  cases u; cases v
  rw [Bool.eq_iff_iff]
  simp [and_assoc]
theorem ordD_eq (u v : OrdD) : (decide (u.key = v.key) && decide (u.txs = v.txs)) = decide (u = v) := by
  cases u; cases v
  rw [Bool.eq_iff_iff]
  simp
theorem histD_eq (u v : HistD) : (decide (u.txs = v.txs) && decide (u.orders = v.orders)) = decide (u = v) := by
  cases u; cases v
  rw [Bool.eq_iff_iff]
  simp
theorem deltaD_eq (u v : DeltaD) : (decide ((⟨u.was, u.old⟩ : HistD) = ⟨v.was, v.old⟩) && decide ((⟨u.now, u.new⟩ : HistD) = ⟨v.now, v.new⟩)) = decide (u = v) := by
  cases u; cases v
  rw [Bool.eq_iff_iff]
  simp
  constructor
  · rintro ⟨⟨h1, h2⟩, h3, h4⟩; exact ⟨h1, h3, h2, h4⟩
  · rintro ⟨h1, h2, h3, h4⟩; exact ⟨⟨h1, h3⟩, h2, h4⟩

end Go.Proofs.YtfldilhddeabeaaDoor
