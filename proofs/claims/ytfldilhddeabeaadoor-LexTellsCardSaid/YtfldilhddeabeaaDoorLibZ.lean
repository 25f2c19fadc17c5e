/- Going over a text, letter by letter. No condition. -/
import Derived.Test.YtfldilhddeabeaaDoorLibX
import Derived.Laws.RangeAny
namespace Go.Gm
set_option linter.unusedVariables false
set_option linter.unusedSimpArgs false
/-- Who goes over a text, and how far he came. -/
def iterH (l : List UInt8) (at' : Nat) (v : Value) : HP := ⟨fun w f y => ∃ b, v = .pointer (some ⟨b, 0, none⟩) ∧ w.heap[b]? = some (.stringIter ⟨l.toArray⟩ at') ∧ ∀ x, f x ↔ x = b, fun _ hf ⟨b, e, h1, h2⟩ => ⟨b, e, (hf b ((h2 b).2 rfl)).trans h1, h2⟩⟩
def runeAt (l : List UInt8) (k : Nat) : Nat := (Utf8.decode ⟨l.toArray⟩ k).1
def nextPos (l : List UInt8) (k : Nat) : Nat := if k < l.length then k + (Utf8.decode ⟨l.toArray⟩ k).2 else k
def nextV (l : List UInt8) (k : Nat) : Value := if k < l.length then .tuple #[.bool true, .int .i64 k, .int .i32 (runeAt l k)] else .tuple #[.bool false]
def PV.eqv (v : Value) : PV := ⟨fun u _ _ => u = v, fun _ h => h⟩
theorem rune_ascii {l : List UInt8} {k : Nat} (h : k < l.length) (ha : (nth l k).toNat < 128) : runeAt l k = (nth l k).toNat ∧ nextPos l k = k + 1 := by
  have hs : k < (ByteArray.mk l.toArray).size := by rw [size_mk]; exact h
  have e : (ByteArray.mk l.toArray)[k]'hs = nth l k := by rw [nth_eq h]; rfl
  have := decode_ascii ⟨l.toArray⟩ k hs (by rw [e]; exact ha)
  unfold runeAt nextPos
  rw [if_pos h, this, e]
  exact ⟨rfl, rfl⟩
theorem rune_high {l : List UInt8} {k : Nat} (h : k < l.length) (ha : 128 ≤ (nth l k).toNat) : 128 ≤ runeAt l k := by
  have hs : k < (ByteArray.mk l.toArray).size := by rw [size_mk]; exact h
  have e : (ByteArray.mk l.toArray)[k]'hs = nth l k := by rw [nth_eq h]; rfl
  exact (decode_high ⟨l.toArray⟩ k hs (by rw [e]; exact ha)).1
section
variable {P : Program} {d : Option Nat} {t ty : TypeId} {pos : String} {af : Array Edge} {g : Option (Nat × Bool)} {x y : Operand} {ps qs : List (Nat × SF)} {l : List UInt8} {k : Nat}
theorem o_range_str {d' : Nat} (n : Nat) (hu : P.underlying t = some .string) (hx : Opd x ps (.pv (.bs l))) :
    OpC P ⟨some d', .range t x, ty, pos, af, g⟩ ⟨ps, [], .same d', [(n, .ob (.slot d') (iterH l 0))]⟩ := fun a w F K Q hw hps hr ht => by
  have ex := (hx a w (U F) hps).1
  have hrun : (execOp a.eval ⟨some d', .range t x, ty, pos, af, g⟩).run P w = .ok (.value (.pointer (some ⟨w.heap.size, 0, none⟩))) (w.alloc (.stringIter ⟨l.toArray⟩ 0)) := by
    simp only [execOp, ex, Sem.run_bind, run_range_string w t ⟨l.toArray⟩ hu, Result.andThen_ok, Sem.run_pure]
    rfl
  obtain ⟨g1, g2⟩ := new_block hw n (.stringIter ⟨l.toArray⟩ 0)
  simp only [Oper.wp, hrun, Oper.upon]
  refine ht _ _ _ g1 g2 ⟨by simp [upd], rfl⟩ ?_
  intro q hq
  simp only [List.mem_singleton] at hq
  subst hq
  exact ⟨w.heap.size, by simp [Anc.v, upd], heap_alloc_new w _, fun b => by simp⟩
theorem o_next_str {v : Value} (n : Nat) (hx : IsAnc x ps (.val v)) :
    OpC P ⟨d, .next x true, ty, pos, af, g⟩ ⟨ps, [(n, .ob (.val v) (iterH l k))], .pv (.eqv (nextV l k)), [(n, .ob (.val v) (iterH l (nextPos l k)))]⟩ := fun a w F K Q hw hp hr ht => by
  obtain ⟨b, e1, h1, h2⟩ := hr (n, .ob (.val v) (iterH l k)) (by simp)
  simp only [Anc.v] at e1
  have ex : a.eval x = .pointer (some ⟨b, 0, none⟩) := by rw [hx a w _ hp]; exact e1
  have hbF : F n b := (h2 b).2 rfl
  have hbl : b < w.heap.size := hw.bd n b hbF
  by_cases hk : k < l.length
  · have hrun : (execOp a.eval ⟨d, .next x true, ty, pos, af, g⟩).run P w = .ok (.value (nextV l k)) { w with heap := w.heap.setIfInBounds b (.stringIter ⟨l.toArray⟩ (nextPos l k)) } := by
      have hs : k < (ByteArray.mk l.toArray).size := by rw [size_mk]; exact hk
      simp only [execOp, ex, Instr.next, getObj, setObj, Sem.run_bind, Sem.run, h1, Result.andThen, hs, if_true, nextV, nextPos, runeAt, if_pos hk]
      simp [goInt, Sem.run, h1]
    have g1 : Wf F { w with heap := w.heap.setIfInBounds b (.stringIter ⟨l.toArray⟩ (nextPos l k)) } := ⟨hw.dis, fun i c hc => by simpa using hw.bd i c hc⟩
    have g2 : Stp [n] w F { w with heap := w.heap.setIfInBounds b (.stringIter ⟨l.toArray⟩ (nextPos l k)) } F := ⟨rfl, rfl, rfl, by simp, fun c _ hc => by
      have hne : b ≠ c := fun e => hc n (by simp) (by rw [← e]; exact hbF)
      show (w.heap.setIfInBounds b _)[c]? = _
      rw [Array.getElem?_setIfInBounds_ne hne], fun _ _ => rfl, fun m hm c hc => .inl ⟨m, hm, hc⟩⟩
    simp only [Oper.wp, hrun, Oper.upon]
    refine ht _ _ F g1 g2 rfl ?_
    intro q hq
    simp only [List.mem_singleton] at hq
    subst hq
    refine ⟨b, by simp only [Anc.v]; exact e1, ?_, h2⟩
    show (w.heap.setIfInBounds b _)[b]? = _
    simp [hbl]
  · have hnp : nextPos l k = k := if_neg hk
    have hrun : (execOp a.eval ⟨d, .next x true, ty, pos, af, g⟩).run P w = .ok (.value (nextV l k)) w := by
      have hs : ¬ k < (ByteArray.mk l.toArray).size := by rw [size_mk]; exact hk
      simp only [execOp, ex, Instr.next, getObj, setObj, Sem.run_bind, Sem.run, h1, Result.andThen, hs, if_false, nextV, if_neg hk]
      simp [Sem.run, h1]
    have g2 : Stp [n] w F w F := ⟨rfl, rfl, rfl, Nat.le_refl _, fun _ _ _ => rfl, fun _ _ => rfl, fun m hm c hc => .inl ⟨m, hm, hc⟩⟩
    simp only [Oper.wp, hrun, Oper.upon]
    refine ht _ _ F hw g2 rfl ?_
    intro q hq
    simp only [List.mem_singleton] at hq
    subst hq
    rw [hnp]
    exact ⟨b, by simp only [Anc.v]; exact e1, h1, h2⟩
theorem o_ext0 (hx : Opd x ps (.pv (.eqv (nextV l k)))) : OpC P ⟨d, .extract x 0, ty, pos, af, g⟩ ⟨ps, [], .pv (.bool (decide (k < l.length))), []⟩ :=
  OpC.pure fun a w yy hp => by
    have e : a.eval x = nextV l k := hx a w yy hp
    by_cases hk : k < l.length
    · exact ⟨.bool true, by simp [execOp, Instr.extract, e, nextV, if_pos hk], fun _ _ => by simp [hk]; rfl⟩
    · exact ⟨.bool false, by simp [execOp, Instr.extract, e, nextV, if_neg hk], fun _ _ => by simp [hk]; rfl⟩
theorem o_ext2 (hx : Opd x ps (.pv (.eqv (nextV l k)))) (hk : k < l.length) : OpC P ⟨d, .extract x 2, ty, pos, af, g⟩ ⟨ps, [], .pv (.int .i32 (runeAt l k)), []⟩ :=
  OpC.pure fun a w yy hp => by
    have e : a.eval x = nextV l k := hx a w yy hp
    refine ⟨.int .i32 (runeAt l k), by simp [execOp, Instr.extract, e, nextV, if_pos hk], fun _ _ => ⟨rfl, ?_⟩⟩
    have := decode_le ⟨l.toArray⟩ k
    unfold runeAt
    simp [inR, IntKind.min, IntKind.max, IntKind.signed, IntKind.bits]; omega
end
end Go.Gm
