/- Maps: Put, Del. No condition beyond those that each theorem says. -/
import Derived.Test.YtdfpljecogijaaaAv5
import Derived.Test.YtdfpljecogijaaaAv6
namespace Go.Proofs.Ytdfpljecogijaaa
open Go Go.Gm
set_option linter.unusedVariables false
set_option linter.unusedSimpArgs false
set_option maxHeartbeats 4000000
set_option maxRecDepth 8000


theorem lookT_has {k : Int} : ∀ {t : Tree}, (lookT k t).2 = true ↔ HasT k t
  | .nil => by simp [lookT, HasT]
  | .node l p r => by
    have hl := @lookT_has k l
    have hr := @lookT_has k r
    unfold lookT HasT
    split
    · exact hl
    · split
      · exact hr
      · simp
/-- What is told behind an edit: with an error the arena is as it was. -/
def toldM (n : Nat) (m : St) : St := (if m.2.1 ≠ 0 then arCut m.1 n else m.1, m.2.1, if m.2.1 ≠ 0 then 0 else m.2.2)
def putM (room : Int) (q : List Cell) (p : PairD) (t : Tree) (root : Int) : St := toldM q.length (putS id room q 0 p t root)
def delM (room : Int) (q : List Cell) (k : Int) (t : Tree) (root : Int) : St := if (lookT k t).2 = true then toldM q.length (delS id room q 0 k t root) else (q, 3, 0)
theorem toldM_good {kf : Int → Int} {room lo n : Int} {q : List Cell} {m : St} {t : Tree} (h : Good kf room q lo n m t) : (∃ e : List Cell, (toldM q.length m).1 = q ++ e ∧ (toldM q.length m).2.1 = 0 ∧ Rep kf (q ++ e) t (toldM q.length m).2.2 ∧ lo ≤ e.length ∧ (e.length : Int) ≤ n) ∨ (toldM q.length m = (q, 2, 0) ∧ room < q.length + n) := by
  obtain ⟨e, e1, e2, ⟨e3, e4, e5⟩ | ⟨e3, e4⟩⟩ := h
  · refine .inl ⟨e, ?_⟩
    unfold toldM
    rw [if_neg (by omega), if_neg (by omega)]
    exact ⟨e1, e3, by rw [← e1]; exact e4, e5, e2⟩
  · refine .inr ⟨?_, e4⟩
    unfold toldM
    rw [if_pos (by omega), if_pos (by omega), e3, e1]
    have : arCut (q ++ e) q.length = q := by
      unfold arCut
      rw [if_pos (by simp only [List.length_append]; omega), Int.toNat_natCast, List.take_left]
    rw [this]

end Go.Proofs.Ytdfpljecogijaaa
