/- Walks: what is told of internal/bytealg; going over texts; arrays. No condition. -/
import Derived.Test.YtjdcnjemhjldoaaDoorLibW
import Derived.Lib.Bytealg
import Derived.Lib.MakeNoZero
import Derived.Laws.RangeAny

namespace Go.Gm
set_option linter.unusedVariables false
set_option linter.unusedSimpArgs false
theorem indexByte_lt (c : UInt8) : ∀ l : List UInt8, Lib.indexByte l c < l.length ∧ -1 ≤ Lib.indexByte l c
  | [] => by simp [Lib.indexByte]
  | b :: l => by
    have ih := indexByte_lt c l
    unfold Lib.indexByte
    rw [List.length_cons]
    split
    · omega
    · split
      · omega
      · omega
section
variable {P : Program} {d : Option Nat} {t ty : TypeId} {pos : String} {af : Array Edge} {g : Option (Nat × Bool)} {x y : Operand} {ps qs : List (Nat × SF)}
theorem o_indexByte {f : FuncId} {fn : Func} {tys : Array TypeId} {l : List UInt8} {c : Int} (hf : P.funcs[f]? = some fn) (hname : (fn.name == "runtime.NumGoroutine") = false) (hb : fn.body.isNone = true) (hn : Extern.findNext fn = none) (he : Extern.find fn = some Extern.BytealgIndexByte.indexByte) (hx : Opd x ps (.pv (.bs l))) (hy : Opd y qs (.pv (.int .u8 c))) :
    OpC P ⟨d, .call { callee := .value (.func f), args := #[x, y], argTypes := tys }, ty, pos, af, g⟩ ⟨ps ++ qs, [], .pv (.int .i64 (Lib.indexByte l (toB c))), []⟩ :=
  OpC.pure fun a w yy hp => by
    have e1 := hx a w yy hp.left
    have e3 := (hy a w yy hp.right).1
    have hc := run_callFunc_extern (P := P) hf hname hb hn he #[.string ⟨l.toArray⟩, .int .u8 c] w
    have e2 : a.eval (.func f) = .func (.func f) #[] #[] := rfl
    rw [Lib.run_indexByteString] at hc
    refine ⟨.int .i64 (Lib.indexByte l (toB c)), ?_, fun _ _ => ⟨rfl, ?_⟩⟩
    · simpa [execOp, resolve, e1.1, e3, e2, Deferred.ofValue, invoke, toB] using hc
    · have h1 := indexByte_lt (toB c) l
      have h2 := e1.2
      rw [size_mk] at h2
      unfold maxLen at h2
      simp [inR, IntKind.min, IntKind.max, IntKind.signed, IntKind.bits]; omega
theorem o_countByte {f : FuncId} {fn : Func} {tys : Array TypeId} {l : List UInt8} {c : Int} (hf : P.funcs[f]? = some fn) (hname : (fn.name == "runtime.NumGoroutine") = false) (hb : fn.body.isNone = true) (hn : Extern.findNext fn = none) (he : Extern.find fn = some Extern.BytealgCount.count) (hx : Opd x ps (.pv (.bs l))) (hy : Opd y qs (.pv (.int .u8 c))) :
    OpC P ⟨d, .call { callee := .value (.func f), args := #[x, y], argTypes := tys }, ty, pos, af, g⟩ ⟨ps ++ qs, [], .pv (.int .i64 ((l.count (toB c) : Nat) : Int)), []⟩ :=
  OpC.pure fun a w yy hp => by
    have e1 := hx a w yy hp.left
    have e3 := (hy a w yy hp.right).1
    have hc := run_callFunc_extern (P := P) hf hname hb hn he #[.string ⟨l.toArray⟩, .int .u8 c] w
    have e2 : a.eval (.func f) = .func (.func f) #[] #[] := rfl
    rw [Lib.run_countString] at hc
    refine ⟨.int .i64 ((l.count (toB c) : Nat) : Int), ?_, fun _ _ => ⟨rfl, ?_⟩⟩
    · simpa [execOp, resolve, e1.1, e3, e2, Deferred.ofValue, invoke, toB, Lib.countByte] using hc
    · have h1 := List.count_le_length (a := toB c) (l := l)
      have h2 := e1.2
      rw [size_mk] at h2
      unfold maxLen at h2
      simp [inR, IntKind.min, IntKind.max, IntKind.signed, IntKind.bits]; omega
/-- Cells of which nothing is known. -/
def rAny (_ : Unit) : List PV := [.any]
theorem digits_one : ∀ (n t : Nat) (acc : Array Value), (∀ v ∈ acc.toList, v.oneCell' = true) → ∀ v ∈ (Extern.BytealgMakeNoZero.digits n t acc).toList, v.oneCell' = true
  | 0, _, acc, h => h
  | n + 1, t, acc, h => by
    rw [Extern.BytealgMakeNoZero.digits]
    refine digits_one n _ _ fun v hv => ?_
    simp only [Array.toList_push, List.mem_append, List.mem_singleton] at hv
    rcases hv with hv | rfl
    · exact h v hv
    · rfl
theorem any_pvs {w : World} {yy : Ys} : ∀ {vs : List Value}, (∀ v ∈ vs, v.oneCell' = true) → PVs ((List.replicate vs.length ()).flatMap rAny) vs w yy
  | [], _ => trivial
  | v :: vs, h => by
    rw [List.length_cons, List.replicate_succ, List.flatMap_cons]
    exact ⟨⟨h v (by simp), trivial⟩, any_pvs fun u hu => h u (by simp [hu])⟩
theorem run_makeNoZero' {w : World} (pp : Array TypeId) (t e : TypeId) (ht : P.underlying t = some (.slice e)) (n : Nat) (hn : n ≤ 281474976710656) :
    ∃ cs : Array Value, (Extern.BytealgMakeNoZero.makeNoZero pp #[t] #[.int .i64 n]).run P w = .ok (.slice (some ⟨w.heap.size, 0, none⟩) n cs.size) (w.drew.drew.alloc (.cells cs e)) ∧ n ≤ cs.size ∧ cs.size ≤ maxLen ∧ ∀ v ∈ cs.toList, v.oneCell' = true := by
  have hdef : Extern.BytealgMakeNoZero.makeNoZero pp #[t] #[.int .i64 n] =
      (do
        let .slice elem ← underlying t | stuck "bytealg.MakeNoZero: slice type expected"
        if (n : Int) < 0 || (n : Int) > 2 ^ 48 then runtimePanic (.error "makeslice: len out of range")
        let cap ← choose (.appendCap (n : Int).toNat 0 elem)
        askRoom cap
        let bytes ← choose (.extern "internal/bytealg.MakeNoZero.bytes" 0)
        let a ← newRow elem (Extern.BytealgMakeNoZero.digits cap bytes #[])
        pure (.slice (some a) (n : Int).toNat cap)) := rfl
  refine ⟨Extern.BytealgMakeNoZero.digits (grownCap w n 0 e) ((Question.extern "internal/bytealg.MakeNoZero.bytes" 0).cut (w.tape (w.drawn + 1) (.extern "internal/bytealg.MakeNoZero.bytes" 0))) #[], ?_, ?_, ?_, digits_one _ _ _ (by simp)⟩
  · rw [hdef]
    have h1 : ¬ (n : Int) < 0 := by omega
    have h2 : ¬ (281474976710656 : Int) < (n : Int) := by omega
    simp [run_underlying ht, h1, h2, Question.forced, newRow, Lib.size_digits, grownCap]
  · rw [Lib.size_digits]
    simpa using grownCap_ge w n 0 e
  · rw [Lib.size_digits]
    simpa using grownCap_le_maxLen w n 0 e (by unfold maxLen; omega)
theorem o_makeNoZero {f : FuncId} {fn : Func} {tys pp : Array TypeId} {e d' : TypeId} {n : Int} (m : Nat) (hf : P.funcs[f]? = some fn) (hname : (fn.name == "runtime.NumGoroutine") = false) (hb : fn.body.isNone = true) (hn : Extern.findNext fn = none) (he : Extern.find fn = some (Extern.BytealgMakeNoZero.makeNoZero pp #[t])) (hu : P.underlying t = some (.slice e)) (hx : Opd x ps (.pv (.int .i64 n))) (h0 : 0 ≤ n) (h1 : n ≤ 281474976710656) :
    OpC P ⟨some d', .call { callee := .value (.func f), args := #[x], argTypes := tys }, ty, pos, af, g⟩ ⟨ps, [], .same d', [(m, .ob (.slot d') (rowH e 1 rAny (List.replicate n.toNat ())))]⟩ := fun a w F K Q hw hp hr ht => by
  have ex := (hx a w (U F) hp).1
  obtain ⟨cs, hrun0, hc1, hc2, hc3⟩ := run_makeNoZero' (P := P) (w := w) pp t e hu n.toNat (by omega)
  rw [show ((n.toNat : Nat) : Int) = n by omega] at hrun0
  have hc := run_callFunc_extern (P := P) hf hname hb hn he #[.int .i64 n] w
  have e2 : a.eval (.func f) = .func (.func f) #[] #[] := rfl
  rw [hrun0] at hc
  have hrun : (execOp a.eval ⟨some d', .call { callee := .value (.func f), args := #[x], argTypes := tys }, ty, pos, af, g⟩).run P w = .ok (.value (.slice (some ⟨w.heap.size, 0, none⟩) n.toNat cs.size)) (w.drew.drew.alloc (.cells cs e)) := by
    simpa [execOp, resolve, ex, e2, Deferred.ofValue, invoke] using hc
  have hwd : Wf F w.drew.drew := ⟨hw.dis, hw.bd⟩
  obtain ⟨g1, g2⟩ := new_block hwd m (.cells cs e)
  have g3 : Stp [m] w F (w.drew.drew.alloc (.cells cs e)) (fun k => if k = m then fun b => b = w.drew.drew.heap.size else F k) := ⟨g2.os, g2.tape, g2.output, g2.size, g2.keep, g2.fkeep, g2.fnew⟩
  simp only [Oper.wp, hrun, Oper.upon]
  refine ht _ _ _ g1 g3 ⟨by simp [upd], rfl⟩ ?_
  intro q hq
  simp only [List.mem_singleton] at hq
  subst hq
  have hτ : upd (Act.tau a) (some d') (.slice (some ⟨w.heap.size, 0, none⟩) n.toNat cs.size) d' = .slice (some ⟨w.heap.size, 0, none⟩) n.toNat cs.size := by simp [upd]
  have htl : (cs.toList.take n.toNat).length = n.toNat := by rw [List.length_take]; simp; omega
  refine ⟨cs.toList.take n.toNat, ⟨by simp [htl], .inr ⟨w.heap.size, cs.size, cs, ?_, Nat.zero_le _, heap_alloc_new w.drew.drew _, by simpa using hc1, hc2, by simp, ?_⟩⟩, ?_, fun b => ?_⟩
  · simp only [Anc.v, hτ, List.length_replicate]
  · simp
  · have := any_pvs (w := w.drew.drew.alloc (.cells cs e)) (yy := U (fun k => if k = m then fun b => b = w.drew.drew.heap.size else F k)) (vs := cs.toList.take n.toNat) (fun v hv => hc3 v (List.mem_of_mem_take hv))
    rw [htl] at this
    exact this
  · simp [Anc.v, hτ, Value.ownBlock, eq_comm]
theorem row_none {α β : Type} {T sz : Nat} {R : α → List PV} {R' : β → List PV} {v : Value} (τ : Tau) (w : World) (f y : Ys) (h : (RS.ob (.val v) (rowH T sz R ([] : List α))).holds τ w f y) : (RS.ob (.val v) (rowH T sz R' ([] : List β))).holds τ w f y := by
  obtain ⟨xs, h1, h2, h3⟩ := h
  exact ⟨xs, h1, by match xs, h2 with
    | [], _ => trivial, h3⟩
theorem o_cap_nil {e : TypeId} (hu : P.underlying t = some (.slice e)) (hx : Opd x ps (.pv (.is (.slice none 0 0)))) :
    OpC P ⟨d, .call { callee := .builtin .cap, args := #[x], argTypes := #[t] }, ty, pos, af, g⟩ ⟨ps, [], .pv (.int .i64 0), []⟩ :=
  OpC.pure fun a w yy hp => by
    have e1 := (hx a w yy hp).1
    refine ⟨.int .i64 0, ?_, fun _ _ => ⟨rfl, by simp [inR, IntKind.min, IntKind.max, IntKind.signed, IntKind.bits]⟩⟩
    simp [execOp, resolve, invoke, builtin, e1, Builtin.cap_, run_underlying hu, goInt]
theorem o_copy0 {α : Type} {R : α → List PV} {e sz T : TypeId} {a : Anc} {t2 : TypeId} (n : Nat) (hu : P.underlying t = some (.slice e)) (hs : (P.info? e).map (·.size) = some sz) (hx : IsAnc x ps a) (hy : Opd y qs (.pv (.is (.slice none 0 0)))) :
    OpC P ⟨d, .call { callee := .builtin .copy, args := #[x, y], argTypes := #[t, t2] }, ty, pos, af, g⟩ ⟨ps ++ qs, [(n, .ob a (rowH T sz R ([] : List α)))], .pv (.int .i64 0), []⟩ :=
  OpC.read fun act w F hp hr => by
    obtain ⟨xs, h2, h3, h4⟩ := hr (n, .ob a (rowH T sz R ([] : List α))) (by simp)
    obtain ⟨ad, cap, e1, h5, h6, h7⟩ := row_shape h2
    have ex : act.eval x = .slice ad 0 cap := by rw [hx act w _ hp.left]; exact e1
    have ey := (hy act w _ hp.right).1
    refine ⟨.int .i64 0, ?_, fun _ _ => ⟨rfl, by simp [inR, IntKind.min, IntKind.max, IntKind.signed, IntKind.bits]⟩⟩
    cases ad with
    | none => simp [execOp, resolve, invoke, builtin, ex, ey, Builtin.copy_, run_underlying hu, Builtin.lenOf, Builtin.firstCells, run_sizeOf hs, goInt]
    | some ad => simp [execOp, resolve, invoke, builtin, ex, ey, Builtin.copy_, run_underlying hu, Builtin.lenOf, Builtin.firstCells, run_sizeOf hs, goInt, storeCells]
end
end Go.Gm

namespace Go.Gm
set_option linter.unusedVariables false
set_option linter.unusedSimpArgs false
/-- Who goes over a text, and how far he came. -/
def iterH (l : List UInt8) (at' : Nat) (v : Value) : HP := ⟨fun w f y => ∃ b, v = .pointer (some ⟨b, 0, none⟩) ∧ w.heap[b]? = some (.stringIter ⟨l.toArray⟩ at') ∧ ∀ x, f x ↔ x = b, fun _ hf ⟨b, e, h1, h2⟩ => ⟨b, e, (hf b ((h2 b).2 rfl)).trans h1, h2⟩⟩
def runeAt (l : List UInt8) (k : Nat) : Nat := (Utf8.decode ⟨l.toArray⟩ k).1
def nextPos (l : List UInt8) (k : Nat) : Nat := if k < l.length then k + (Utf8.decode ⟨l.toArray⟩ k).2 else k
def nextV (l : List UInt8) (k : Nat) : Value := if k < l.length then .tuple #[.bool true, .int .i64 k, .int .i32 (runeAt l k)] else .tuple #[.bool false]
def PV.eqv (v : Value) : PV := ⟨fun u _ _ => u = v, fun _ h => h⟩
theorem rune_ascii {l : List UInt8} {k : Nat} (h : k < l.length) (ha : (nth l k).toNat < 128) : runeAt l k = (nth l k).toNat ∧ nextPos l k = k + 1 := by
  have hs : k < (ByteArray.mk l.toArray).size := by rw [size_mk]; exact h
  have e : (ByteArray.mk l.toArray)[k]'hs = nth l k := by rw [nth_eq h]; rfl
  have := decode_ascii ⟨l.toArray⟩ k hs (by rw [e]; exact ha)
  unfold runeAt nextPos
  rw [if_pos h, this, e]
  exact ⟨rfl, rfl⟩
theorem rune_high {l : List UInt8} {k : Nat} (h : k < l.length) (ha : 128 ≤ (nth l k).toNat) : 128 ≤ runeAt l k := by
  have hs : k < (ByteArray.mk l.toArray).size := by rw [size_mk]; exact h
  have e : (ByteArray.mk l.toArray)[k]'hs = nth l k := by rw [nth_eq h]; rfl
  exact (decode_high ⟨l.toArray⟩ k hs (by rw [e]; exact ha)).1
section
variable {P : Program} {d : Option Nat} {t ty : TypeId} {pos : String} {af : Array Edge} {g : Option (Nat × Bool)} {x y : Operand} {ps qs : List (Nat × SF)} {l : List UInt8} {k : Nat}
theorem o_range_str {d' : Nat} (n : Nat) (hu : P.underlying t = some .string) (hx : Opd x ps (.pv (.bs l))) :
    OpC P ⟨some d', .range t x, ty, pos, af, g⟩ ⟨ps, [], .same d', [(n, .ob (.slot d') (iterH l 0))]⟩ := fun a w F K Q hw hps hr ht => by
  have ex := (hx a w (U F) hps).1
  have hrun : (execOp a.eval ⟨some d', .range t x, ty, pos, af, g⟩).run P w = .ok (.value (.pointer (some ⟨w.heap.size, 0, none⟩))) (w.alloc (.stringIter ⟨l.toArray⟩ 0)) := by
    simp only [execOp, ex, Sem.run_bind, run_range_string w t ⟨l.toArray⟩ hu, Result.andThen_ok, Sem.run_pure]
    rfl
  obtain ⟨g1, g2⟩ := new_block hw n (.stringIter ⟨l.toArray⟩ 0)
  simp only [Oper.wp, hrun, Oper.upon]
  refine ht _ _ _ g1 g2 ⟨by simp [upd], rfl⟩ ?_
  intro q hq
  simp only [List.mem_singleton] at hq
  subst hq
  exact ⟨w.heap.size, by simp [Anc.v, upd], heap_alloc_new w _, fun b => by simp⟩
theorem o_next_str {v : Value} (n : Nat) (hx : IsAnc x ps (.val v)) :
    OpC P ⟨d, .next x true, ty, pos, af, g⟩ ⟨ps, [(n, .ob (.val v) (iterH l k))], .pv (.eqv (nextV l k)), [(n, .ob (.val v) (iterH l (nextPos l k)))]⟩ := fun a w F K Q hw hp hr ht => by
  obtain ⟨b, e1, h1, h2⟩ := hr (n, .ob (.val v) (iterH l k)) (by simp)
  simp only [Anc.v] at e1
  have ex : a.eval x = .pointer (some ⟨b, 0, none⟩) := by rw [hx a w _ hp]; exact e1
  have hbF : F n b := (h2 b).2 rfl
  have hbl : b < w.heap.size := hw.bd n b hbF
  by_cases hk : k < l.length
  · have hrun : (execOp a.eval ⟨d, .next x true, ty, pos, af, g⟩).run P w = .ok (.value (nextV l k)) { w with heap := w.heap.setIfInBounds b (.stringIter ⟨l.toArray⟩ (nextPos l k)) } := by
      have hs : k < (ByteArray.mk l.toArray).size := by rw [size_mk]; exact hk
      simp only [execOp, ex, Instr.next, getObj, setObj, Sem.run_bind, Sem.run, h1, Result.andThen, hs, if_true, nextV, nextPos, runeAt, if_pos hk]
      simp [goInt, Sem.run, h1]
    have g1 : Wf F { w with heap := w.heap.setIfInBounds b (.stringIter ⟨l.toArray⟩ (nextPos l k)) } := ⟨hw.dis, fun i c hc => by simpa using hw.bd i c hc⟩
    have g2 : Stp [n] w F { w with heap := w.heap.setIfInBounds b (.stringIter ⟨l.toArray⟩ (nextPos l k)) } F := ⟨rfl, rfl, rfl, by simp, fun c _ hc => by
      have hne : b ≠ c := fun e => hc n (by simp) (by rw [← e]; exact hbF)
      show (w.heap.setIfInBounds b _)[c]? = _
      rw [Array.getElem?_setIfInBounds_ne hne], fun _ _ => rfl, fun m hm c hc => .inl ⟨m, hm, hc⟩⟩
    simp only [Oper.wp, hrun, Oper.upon]
    refine ht _ _ F g1 g2 rfl ?_
    intro q hq
    simp only [List.mem_singleton] at hq
    subst hq
    refine ⟨b, by simp only [Anc.v]; exact e1, ?_, h2⟩
    show (w.heap.setIfInBounds b _)[b]? = _
    simp [hbl]
  · have hnp : nextPos l k = k := if_neg hk
    have hrun : (execOp a.eval ⟨d, .next x true, ty, pos, af, g⟩).run P w = .ok (.value (nextV l k)) w := by
      have hs : ¬ k < (ByteArray.mk l.toArray).size := by rw [size_mk]; exact hk
      simp only [execOp, ex, Instr.next, getObj, setObj, Sem.run_bind, Sem.run, h1, Result.andThen, hs, if_false, nextV, if_neg hk]
      simp [Sem.run, h1]
    have g2 : Stp [n] w F w F := ⟨rfl, rfl, rfl, Nat.le_refl _, fun _ _ _ => rfl, fun _ _ => rfl, fun m hm c hc => .inl ⟨m, hm, hc⟩⟩
    simp only [Oper.wp, hrun, Oper.upon]
    refine ht _ _ F hw g2 rfl ?_
    intro q hq
    simp only [List.mem_singleton] at hq
    subst hq
    rw [hnp]
    exact ⟨b, by simp only [Anc.v]; exact e1, h1, h2⟩
theorem o_ext0 (hx : Opd x ps (.pv (.eqv (nextV l k)))) : OpC P ⟨d, .extract x 0, ty, pos, af, g⟩ ⟨ps, [], .pv (.bool (decide (k < l.length))), []⟩ :=
  OpC.pure fun a w yy hp => by
    have e : a.eval x = nextV l k := hx a w yy hp
    by_cases hk : k < l.length
    · exact ⟨.bool true, by simp [execOp, Instr.extract, e, nextV, if_pos hk], fun _ _ => by simp [hk]; rfl⟩
    · exact ⟨.bool false, by simp [execOp, Instr.extract, e, nextV, if_neg hk], fun _ _ => by simp [hk]; rfl⟩
theorem o_ext2 (hx : Opd x ps (.pv (.eqv (nextV l k)))) (hk : k < l.length) : OpC P ⟨d, .extract x 2, ty, pos, af, g⟩ ⟨ps, [], .pv (.int .i32 (runeAt l k)), []⟩ :=
  OpC.pure fun a w yy hp => by
    have e : a.eval x = nextV l k := hx a w yy hp
    refine ⟨.int .i32 (runeAt l k), by simp [execOp, Instr.extract, e, nextV, if_pos hk], fun _ _ => ⟨rfl, ?_⟩⟩
    have := decode_le ⟨l.toArray⟩ k
    unfold runeAt
    simp [inR, IntKind.min, IntKind.max, IntKind.signed, IntKind.bits]; omega
end
end Go.Gm

namespace Go.Gm
set_option linter.unusedVariables false
set_option linter.unusedSimpArgs false
theorem flat_one {α : Type} (f : α → PV) : ∀ l : List α, l.flatMap (fun x => [f x]) = l.map f
  | [] => rfl
  | x :: l => by rw [List.flatMap_cons, flat_one f l]; rfl
section
variable {P : Program} {d : Option Nat} {t t' ty : TypeId} {pos : String} {af : Array Edge} {g : Option (Nat × Bool)} {x y : Operand} {ps qs : List (Nat × SF)} {k : IntKind} {i : Int} {T : TypeId} {α : Type} {f : α → PV} {l : List α} {u : Value}
theorem pt_arrB' {T : TypeId} {f : α → PV} {l : List α} {an : Anc} (τ : Tau) (w : World) (fb y : Ys) (h : (RS.pt an T (l.map fun x => CF.pv (f x))).holds τ w fb y) : (RS.ob an (arrB T f l)).holds τ w fb y := by
  obtain ⟨b, vs, e, h1, h2, h3⟩ := pt_open h
  have : (RS.pt (.val (an.v τ)) T (l.map fun x => CF.pv (f x))).holds tau0 w fb y := by
    refine RS.closed (r := RS.pt (.val (an.v τ)) T (l.map fun x => CF.pv (f x))) (by simp [RS.deps, Anc.deps, cdeps_map]) (?_ : RS.holds τ w fb y (RS.pt (.val (an.v τ)) T (l.map fun x => CF.pv (f x))))
    exact h
  exact this
theorem arrB_pt' {T : TypeId} {f : α → PV} {l : List α} {an : Anc} (τ : Tau) (w : World) (fb y : Ys) (h : (RS.ob an (arrB T f l)).holds τ w fb y) : (RS.pt an T (l.map fun x => CF.pv (f x))).holds τ w fb y := by
  have h2 : (RS.ob (.val (an.v τ)) (arrB T f l)).holds τ w fb y := h
  exact arrB_pt τ w fb y h2
theorem o_allocA {d' n : Nat} {zv : Value} {z : α} (m : Nat) (hz : P.zeros t = some (List.replicate n zv)) (hf : zCF zv = CF.pv (f z)) :
    OpC P ⟨some d', .alloc t, ty, pos, af, g⟩ ⟨[], [], .same d', [(m, .ob (.slot d') (arrB t f (List.replicate n z)))]⟩ := fun a w F K Q hw hs hp ht =>
  o_alloc (P := P) (d' := d') (ty := ty) (pos := pos) (af := af) (g := g) m hz a w F K Q hw hs hp (fun v w' F' h1 h2 h3 h4 => ht v w' F' h1 h2 h3 (fun q hq => by
    simp only [List.mem_singleton] at hq
    subst hq
    have := h4 (m, .pt (.slot d') t ((List.replicate n zv).map zCF)) (by simp)
    rw [List.map_replicate, hf] at this
    refine pt_arrB' _ _ _ _ ?_
    rw [List.map_replicate]
    exact this))
theorem ld_all (f : α → PV) (l : List α) (sz : Nat) (h : l.length = sz) : ldSF true sz (l.map fun x => CF.pv (f x)) 0 = .agg (l.map fun x => CF.pv (f x)) := by
  simp [ldSF, ← h, List.take_of_length_le]
theorem o_load_all {sz : Nat} {an : Anc} (n : Nat) (hx : AdrOk x ps an 0) (ha : P.aggB t = some true) (hs : (P.info? t).map (·.size) = some sz) (hl : l.length = sz) :
    OpC P ⟨d, .load t x, ty, pos, af, g⟩ ⟨ps, [(n, .ob an (arrB T f l))], .pv (.agg (l.map f)), []⟩ := by
  have := o_load (d := d) (ty := ty) (pos := pos) (af := af) (g := g) (P := P) (cells := l.map fun x => CF.pv (f x)) (T := T) n hx ha hs (by simp [wid, hl]) (by rw [ld_all f l sz hl]; cases d <;> simp [depOk, SF.deps, cdeps_map])
  rw [ld_all f l sz hl] at this
  refine OpC.res (fun a w F K Q hw hs' hp ht => this a w F K Q hw hs' hp (fun v w' F' h1 h2 h3 h4 => ht v w' F' h1 h2 ?_ h4)) arrB_pt' rfl (fun _ _ _ h => h)
  have h5 : Ent (.agg (l.map fun x => CF.pv (f x))) (.pv (.agg (l.map f))) := by
    have := Ent.pagg (l := l.map f)
    rwa [List.map_map] at this
  exact h5 _ _ _ _ h3
theorem st_all (f : α → PV) (l l' : List α) (h : l'.length = l.length) : stCells (l.map fun x => CF.pv (f x)) 0 (l'.map fun x => CF.pv (f x)) = l'.map fun x => CF.pv (f x) := by
  simp [stCells, h]
theorem o_store_all {sz : Nat} {an : Anc} {l' : List α} (n : Nat) (hx : AdrOk x ps an 0) (hy : Opd y qs (.pv (.agg (l'.map f)))) (hs : (P.info? t).map (·.size) = some sz) (hl : l.length = sz) (hl' : l'.length = sz) :
    OpC P ⟨none, .store t x y, ty, pos, af, g⟩ ⟨ps ++ qs, [(n, .ob an (arrB T f l))], .pv .any, [(n, .ob an (arrB T f l'))]⟩ := by
  have hy' : Opd y qs (.agg (l'.map fun x => CF.pv (f x))) := by
    have := hy.conv (Ent.agg (l := l'.map f))
    rwa [List.map_map] at this
  refine OpC.res (o_storeA (cells := l.map fun x => CF.pv (f x)) (T := T) n hx hy' hs (by simp [hl']) (by simp [hl])) arrB_pt' rfl (fun τ w F h => ?_)
  intro z hz
  simp only [List.mem_singleton] at hz
  subst hz
  have := h (n, .pt an T (stCells (l.map fun x => CF.pv (f x)) 0 (l'.map fun x => CF.pv (f x)))) (by simp)
  rw [st_all f l l' (by rw [hl, hl'])] at this
  exact pt_arrB' _ _ _ _ this
/-- An empty slice, only read. -/
theorem o_buildSlice0E {β : Type} {R : β → List PV} {e sz : Nat} (hu : P.underlying t = some (.slice e)) (hsz : (P.info? e).map (·.size) = some sz) :
    OpC P ⟨d, .buildSlice t 0 #[], ty, pos, af, g⟩ ⟨[], [], .pv (.sl R ([] : List β)), []⟩ := fun a w F K Q hw hp hr ht => by
  have hrun : (execOp a.eval ⟨d, .buildSlice t 0 #[], ty, pos, af, g⟩).run P w = .ok (.value (.slice (some ⟨w.heap.size, 0, none⟩) 0 0)) (w.alloc (.cells #[] e)) := by
    simp [execOp, Instr.buildSlice, run_underlying hu, run_sizeOf hsz, Instr.fill, newRow]
    congr 2
    exact Array.eq_empty_of_size_eq_zero (by simp)
  have hst : Stp [] w F (w.alloc (.cells #[] e)) F := ⟨rfl, rfl, rfl, by simp, fun b hb _ => heap_alloc_old w _ hb, fun _ _ => rfl, fun _ h => by cases h⟩
  simp only [Oper.wp, hrun, Oper.upon]
  exact ht _ _ F ⟨hw.dis, fun n b hn => by have := hw.bd n b hn; simp; omega⟩ hst ⟨some ⟨w.heap.size, 0, none⟩, 0, rfl, Nat.le_refl _, Nat.zero_le _, .inl rfl⟩ (fun x hx => by cases hx)
/-- A place of an array that is only read. -/
theorem o_indexAddr_refA [Inhabited α] {len e : Nat} (hu : P.underlying t = some (.array len e)) (hs : (P.info? e).map (·.size) = some 1) (hx : Opd x ps (.pv (.ref (l.map f)))) (hy : Opd y qs (.pv (.int k i))) (h0 : 0 ≤ i) (h1 : i < len) (hl : l.length = len) :
    OpC P ⟨d, .indexAddr t x y, ty, pos, af, g⟩ ⟨ps ++ qs, [], .pv (.ref [f (nth l i.toNat)]), []⟩ :=
  OpC.pure fun a w yy hp => by
    obtain ⟨b, off, vs, e1, hy1, hb, hc, hpv⟩ := hx a w yy hp.left
    have e2 := (hy a w yy hp.right).1
    have hv := PVs.pick (R := fun x => [f x]) (sz := 1) (fun _ => rfl) i.toNat (by omega : i.toNat < l.length) (vs := vs) (by rw [flat_one]; exact hpv)
    refine ⟨.pointer (some ⟨b, off + i.toNat * 1, none⟩), ?_, fun _ _ => ⟨b, off + i.toNat * 1, _, rfl, hy1, hb, hc.slice, hv⟩⟩
    simp [execOp, Instr.indexAt, e1, e2, asIntOf, asInt, run_underlying hu, Instr.sureAddr, if_pos (And.intro h0 h1), run_sizeOf hs, add_lit]
end
end Go.Gm
