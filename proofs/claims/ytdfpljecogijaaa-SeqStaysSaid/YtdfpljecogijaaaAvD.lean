/- Maps grow. No condition beyond those that each theorem says. -/
import Derived.Test.YtdfpljecogijaaaAvC
namespace Go.Proofs.Ytdfpljecogijaaa
open Go Go.Gm
set_option linter.unusedVariables false
set_option linter.unusedSimpArgs false
set_option maxHeartbeats 4000000
set_option maxRecDepth 8000


theorem putPR_mem {k v : Int} {p : PairD} : ∀ (l : List PairD) (d : Bool), p ∈ putPR k v l d → p ∈ l ∨ p = ⟨k, v⟩
  | [], d, h => by cases d <;> simp [putPR] at h; exact .inr h
  | x :: l, d, h => by
    rw [putPR, List.mem_append, List.mem_append] at h
    rcases h with (h | h) | h
    · split at h <;> simp at h; exact .inr h
    · split at h <;> simp at h; exact .inl (by simp [h])
    · rcases putPR_mem l _ h with h | h
      · exact .inl (by simp [h])
      · exact .inr h
theorem putPR_done {k v : Int} : ∀ {l : List PairD}, (∀ p ∈ l, k < p.key) → putPR k v l true = l
  | [], _ => rfl
  | p :: l, h => by
    have := h p (by simp)
    rw [putPR, Bool.true_or, putPR_done fun x hx => h x (by simp [hx]), if_neg (by simp), if_neg (by omega)]
    rfl
theorem putP_inc {k v : Int} : ∀ {l : List PairD}, Inc l → Inc (putP l k v)
  | [], _ => by simp [putP, putPR, Inc]
  | x :: l, h => by
    have h' := List.pairwise_cons.1 h
    unfold putP
    by_cases h1 : x.key < k
    · have e : putPR k v (x :: l) false = x :: putP l k v := putPR_app_lo (l := [x]) (m := l) (by simpa using h1)
      rw [e]
      refine List.pairwise_cons.2 ⟨fun p hp => ?_, putP_inc h'.2⟩
      rcases putPR_mem l false hp with hp | rfl
      · exact h'.1 p hp
      · exact h1
    · by_cases h2 : x.key = k
      · rw [putPR, if_pos ⟨rfl, by omega⟩, if_pos h2, show (false || decide (k ≤ x.key)) = true by simp; omega, putPR_done fun p hp => by have := h'.1 p hp; omega]
        exact List.pairwise_cons.2 ⟨fun p hp => by have := h'.1 p hp; show k < p.key; omega, h'.2⟩
      · rw [putPR_low (fun p hp => by
          rcases List.mem_cons.1 hp with rfl | hp
          · omega
          · have := h'.1 p hp; omega)]
        refine List.pairwise_cons.2 ⟨fun p hp => ?_, h⟩
        show k < p.key
        rcases List.mem_cons.1 hp with rfl | hp
        · omega
        · have := h'.1 p hp; omega
theorem delP_inc {k : Int} {l : List PairD} (h : Inc l) : Inc (delP l k) := List.Pairwise.filter _ h
/-- A right map. -/
structure MapOk (q : List Cell) (t : Tree) (root : Int) : Prop where
  rep : Rep id q t root
  bal : Bal t
  inc : Inc (tList t)
theorem MapOk.app {q e : List Cell} {t : Tree} {root : Int} (h : MapOk q t root) : MapOk (q ++ e) t root := ⟨h.rep.app e, h.bal, h.inc⟩
theorem MapOk.nil (q : List Cell) : MapOk q .nil 0 := ⟨rfl, trivial, List.Pairwise.nil⟩
theorem MapOk.put {room : Int} {q : List Cell} {t : Tree} {root : Int} (h : MapOk q t root) (k v : Int) (hs : tSize t < 1000000) :
    (∃ (e : List Cell) (r : Int), putM room q ⟨k, v⟩ t root = (q ++ e, 0, r) ∧ MapOk (q ++ e) (putT ⟨k, v⟩ t) r ∧ (e.length : Int) ≤ 3 * (tHigh t + 1)) ∨ (putM room q ⟨k, v⟩ t root = (q, 2, 0) ∧ room < q.length + 3 * (tHigh t + 1)) := by
  rcases toldM_good (putS_good (room := room) (p := ⟨k, v⟩) rfl h.rep hs) with ⟨e, e1, e2, e3, e4, e5⟩ | ⟨e1, e2⟩
  · refine .inl ⟨e, (putM room q ⟨k, v⟩ t root).2.2, ?_, ⟨e3, (putT_bal _ h.bal).1, ?_⟩, e5⟩
    · exact Prod.ext e1 (Prod.ext e2 rfl)
    · rw [putT_list _ h.inc]; exact putP_inc h.inc
  · exact .inr ⟨e1, e2⟩
theorem MapOk.del {room : Int} {q : List Cell} {t : Tree} {root : Int} (h : MapOk q t root) (k : Int) (hs : tSize t ≤ 1000000) :
    (¬ (lookT k t).2 = true ∧ delM room q k t root = (q, 3, 0)) ∨ (lookT k t).2 = true ∧ ((∃ (e : List Cell) (r : Int), delM room q k t root = (q ++ e, 0, r) ∧ MapOk (q ++ e) (delT k t) r ∧ (e.length : Int) ≤ 3 * (tHigh t + 1)) ∨ (delM room q k t root = (q, 2, 0) ∧ room < q.length + 3 * (tHigh t + 1))) := by
  by_cases hl : (lookT k t).2 = true
  · refine .inr ⟨hl, ?_⟩
    have hd : delM room q k t root = toldM q.length (delS id room q 0 k t root) := if_pos hl
    rw [hd]
    rcases toldM_good (delS_good (room := room) h.rep (lookT_has.1 hl) hs (fun _ _ => rfl)) with ⟨e, e1, e2, e3, e4, e5⟩ | ⟨e1, e2⟩
    · refine .inl ⟨e, _, ?_, ⟨e3, (delT_bal _ h.bal).1, ?_⟩, e5⟩
      · exact Prod.ext e1 (Prod.ext e2 rfl)
      · rw [delT_list _ h.inc]; exact delP_inc h.inc
    · exact .inr ⟨e1, e2⟩
  · exact .inl ⟨hl, if_neg hl⟩
theorem MapOk.high {q : List Cell} {t : Tree} {root : Int} (h : MapOk q t root) (hs : tSize t ≤ 1000000) : 0 ≤ tHigh t ∧ tHigh t ≤ 40 := ⟨tHigh_nn t, high_bound h.bal hs⟩
/-- 1 << high against the square. -/
theorem shl_high {t : Tree} (h : Bal t) (hs : tSize t ≤ 1000000) : ¬ IntKind.wrap .i64 (IntKind.wrap .i64 (tSize t + 1) * IntKind.wrap .i64 (tSize t + 1)) < IntKind.wrap .i64 (1 * 2 ^ min (IntKind.wrap .u64 (tHigh t)).toNat (IntKind.bits .i64)) := by
  have h1 := bal_two h
  have h2 := high_bound h hs
  have h3 := tHigh_nn t
  have h4 := tSize_nn t
  have h5 : (tSize t + 1) * (tSize t + 1) ≤ 1000001 * 1000001 := Int.mul_le_mul (by omega) (by omega) (by omega) (by omega)
  have h6 : 0 ≤ (tSize t + 1) * (tSize t + 1) := Int.mul_nonneg (by omega) (by omega)
  rw [wrap_i64 (x := tSize t + 1) (by omega), wrap_u64 (by omega), wrap_i64 (by omega)]
  have h7 : min (tHigh t).toNat (IntKind.bits .i64) = (tHigh t).toNat := by
    have : IntKind.bits .i64 = 64 := rfl
    omega
  rw [h7, Int.one_mul, wrap_i64 (by have : (0:Int) < 2 ^ (tHigh t).toNat := Int.pow_pos (by decide); omega)]
  omega
end Go.Proofs.Ytdfpljecogijaaa
