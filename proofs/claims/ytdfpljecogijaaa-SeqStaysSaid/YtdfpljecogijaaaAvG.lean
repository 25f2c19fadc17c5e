/- Maps against the document: one deed. No condition beyond those that each theorem says. -/
import Derived.Test.YtdfpljecogijaaaAvE
namespace Go.Proofs.Ytdfpljecogijaaa
open Go Go.Gm
set_option linter.unusedVariables false
set_option linter.unusedSimpArgs false
set_option maxHeartbeats 4000000
set_option maxRecDepth 8000


theorem getL_has (k : Int) : ∀ l : List PairD, (getL k l).2 = hasP l k
  | [] => rfl
  | p :: l => by
    rw [getL]
    have := getL_has k l
    unfold hasP at this ⊢
    rw [List.any_cons]
    split <;> rename_i h
    · simp [h]
    · rw [this]; simp [h]
theorem MapOk.has {q : List Cell} {t : Tree} {root : Int} (h : MapOk q t root) (k : Int) : (lookT k t).2 = hasP (tList t) k := by rw [lookT_list k h.inc, getL_has]
theorem MapOk.move {t : Tree} (h : Inc (tList t)) (hs : tSize t ≤ 1000000) (room : Int) :
    (∃ (e : List Cell) (r : Int), moveM room [] t = (e, 0, r) ∧ MapOk e (allT ((tList t).length + 1) (tList t)) r ∧ e.length = (tList t).length) ∨ (moveM room [] t = ([], 2, 0) ∧ room < (tList t).length) := by
  have hl := tSize_list t
  rcases toldM_good (allS_good (kf := id) (room := room) ((tList t).length + 1) [] (tList t) (by omega) (by omega) (fun _ _ => rfl)) with ⟨e, e1, e2, e3, e4, e5⟩ | ⟨e1, e2⟩
  · refine .inl ⟨e, _, Prod.ext e1 (Prod.ext e2 rfl), ⟨e3, (allT_high _ _ (by omega)).2, ?_⟩, by omega⟩
    rw [allT_list _ _ (by omega)]; exact h
  · exact .inr ⟨e1, by simpa using e2⟩
/-- What a deed makes: the arena's cells, the map, its pairs; and the new arena, if there is one. -/
structure StepO where
  q : List Cell
  root : Int
  t : Tree
  l : List PairD
  mv : Option (Int × List Cell)
/-- A map that has just some pairs. -/
def OneOk (q : List Cell) (root : Int) (t : Tree) (l : List PairD) (n : Int) : Prop := MapOk q t root ∧ tList t = l ∧ tSize t ≤ n
theorem OneOk.app {q e : List Cell} {root : Int} {t : Tree} {l : List PairD} {n m : Int} (h : OneOk q root t l n) (hm : n ≤ m) : OneOk (q ++ e) root t l m := ⟨h.1.app, h.2.1, Int.le_trans h.2.2 hm⟩
structure OneM where
  b : Nat
  j : Nat
  root : Int
  t : Tree
  l : List PairD
  deriving Inhabited
theorem aRoom_c (b : Nat) (room : Int) (q : List Cell) : FnG Try.prog 38 1 [.is (arV (some b))] [arH (some b) room q] (.int .i64 (room - q.length)) (fun _ => [arH (some b) room q]) := arRoom_c b room q
theorem arH_ok {b : Nat} {room : Int} {q : List Cell} {w : World} {f y : Ys} (h : (arH (some b) room q).p w f y) : ArOk room q := by
  obtain ⟨_, _, h, _⟩ := h
  exact h
end Go.Proofs.Ytdfpljecogijaaa
