/- What internal/bytealg tells: of a byte's first place, and how often it stands in a text; a row of bytes that nobody wrote. No condition. -/
import Derived.Test.YtfldilhddeabeaaDoorLibW
import Derived.Lib.Bytealg
import Derived.Lib.MakeNoZero
namespace Go.Gm
set_option linter.unusedVariables false
set_option linter.unusedSimpArgs false
theorem indexByte_lt (c : UInt8) : ∀ l : List UInt8, Lib.indexByte l c < l.length ∧ -1 ≤ Lib.indexByte l c
  | [] => by simp [Lib.indexByte]
  | b :: l => by
    have ih := indexByte_lt c l
    unfold Lib.indexByte
    rw [List.length_cons]
    split
    · omega
    · split
      · omega
      · omega
section
variable {P : Program} {d : Option Nat} {t ty : TypeId} {pos : String} {af : Array Edge} {g : Option (Nat × Bool)} {x y : Operand} {ps qs : List (Nat × SF)}
theorem o_indexByte {f : FuncId} {fn : Func} {tys : Array TypeId} {l : List UInt8} {c : Int} (hf : P.funcs[f]? = some fn) (hname : (fn.name == "runtime.NumGoroutine") = false) (hb : fn.body.isNone = true) (hn : Extern.findNext fn = none) (he : Extern.find fn = some Extern.BytealgIndexByte.indexByte) (hx : Opd x ps (.pv (.bs l))) (hy : Opd y qs (.pv (.int .u8 c))) :
    OpC P ⟨d, .call { callee := .value (.func f), args := #[x, y], argTypes := tys }, ty, pos, af, g⟩ ⟨ps ++ qs, [], .pv (.int .i64 (Lib.indexByte l (toB c))), []⟩ :=
  OpC.pure fun a w yy hp => by
    have e1 := hx a w yy hp.left
    have e3 := (hy a w yy hp.right).1
    have hc := run_callFunc_extern (P := P) hf hname hb hn he #[.string ⟨l.toArray⟩, .int .u8 c] w
    have e2 : a.eval (.func f) = .func (.func f) #[] #[] := rfl
    rw [Lib.run_indexByteString] at hc
    refine ⟨.int .i64 (Lib.indexByte l (toB c)), ?_, fun _ _ => ⟨rfl, ?_⟩⟩
    · simpa [execOp, resolve, e1.1, e3, e2, Deferred.ofValue, invoke, toB] using hc
    · have h1 := indexByte_lt (toB c) l
      have h2 := e1.2
      rw [size_mk] at h2
      unfold maxLen at h2
      simp [inR, IntKind.min, IntKind.max, IntKind.signed, IntKind.bits]; omega
theorem o_countByte {f : FuncId} {fn : Func} {tys : Array TypeId} {l : List UInt8} {c : Int} (hf : P.funcs[f]? = some fn) (hname : (fn.name == "runtime.NumGoroutine") = false) (hb : fn.body.isNone = true) (hn : Extern.findNext fn = none) (he : Extern.find fn = some Extern.BytealgCount.count) (hx : Opd x ps (.pv (.bs l))) (hy : Opd y qs (.pv (.int .u8 c))) :
    OpC P ⟨d, .call { callee := .value (.func f), args := #[x, y], argTypes := tys }, ty, pos, af, g⟩ ⟨ps ++ qs, [], .pv (.int .i64 ((l.count (toB c) : Nat) : Int)), []⟩ :=
  OpC.pure fun a w yy hp => by
    have e1 := hx a w yy hp.left
    have e3 := (hy a w yy hp.right).1
    have hc := run_callFunc_extern (P := P) hf hname hb hn he #[.string ⟨l.toArray⟩, .int .u8 c] w
    have e2 : a.eval (.func f) = .func (.func f) #[] #[] := rfl
    rw [Lib.run_countString] at hc
    refine ⟨.int .i64 ((l.count (toB c) : Nat) : Int), ?_, fun _ _ => ⟨rfl, ?_⟩⟩
    · simpa [execOp, resolve, e1.1, e3, e2, Deferred.ofValue, invoke, toB, Lib.countByte] using hc
    · have h1 := List.count_le_length (a := toB c) (l := l)
      have h2 := e1.2
      rw [size_mk] at h2
      unfold maxLen at h2
      simp [inR, IntKind.min, IntKind.max, IntKind.signed, IntKind.bits]; omega
/-- Cells of which nothing is known. -/
def rAny (_ : Unit) : List PV := [.any]
theorem digits_one : ∀ (n t : Nat) (acc : Array Value), (∀ v ∈ acc.toList, v.oneCell' = true) → ∀ v ∈ (Extern.BytealgMakeNoZero.digits n t acc).toList, v.oneCell' = true
  | 0, _, acc, h => h
  | n + 1, t, acc, h => by
    rw [Extern.BytealgMakeNoZero.digits]
    refine digits_one n _ _ fun v hv => ?_
    simp only [Array.toList_push, List.mem_append, List.mem_singleton] at hv
    rcases hv with hv | rfl
    · exact h v hv
    · rfl
theorem any_pvs {w : World} {yy : Ys} : ∀ {vs : List Value}, (∀ v ∈ vs, v.oneCell' = true) → PVs ((List.replicate vs.length ()).flatMap rAny) vs w yy
  | [], _ => trivial
  | v :: vs, h => by
    rw [List.length_cons, List.replicate_succ, List.flatMap_cons]
    exact ⟨⟨h v (by simp), trivial⟩, any_pvs fun u hu => h u (by simp [hu])⟩
theorem run_makeNoZero' {w : World} (pp : Array TypeId) (t e : TypeId) (ht : P.underlying t = some (.slice e)) (n : Nat) (hn : n ≤ 281474976710656) :
    ∃ cs : Array Value, (Extern.BytealgMakeNoZero.makeNoZero pp #[t] #[.int .i64 n]).run P w = .ok (.slice (some ⟨w.heap.size, 0, none⟩) n cs.size) (w.drew.drew.alloc (.cells cs e)) ∧ n ≤ cs.size ∧ cs.size ≤ maxLen ∧ ∀ v ∈ cs.toList, v.oneCell' = true := by
  have hdef : Extern.BytealgMakeNoZero.makeNoZero pp #[t] #[.int .i64 n] =
      (do
        let .slice elem ← underlying t | stuck "bytealg.MakeNoZero: slice type expected"
        if (n : Int) < 0 || (n : Int) > 2 ^ 48 then runtimePanic (.error "makeslice: len out of range")
        let cap ← choose (.appendCap (n : Int).toNat 0 elem)
        askRoom cap
        let bytes ← choose (.extern "internal/bytealg.MakeNoZero.bytes" 0)
        let a ← newRow elem (Extern.BytealgMakeNoZero.digits cap bytes #[])
        pure (.slice (some a) (n : Int).toNat cap)) := rfl
  refine ⟨Extern.BytealgMakeNoZero.digits (grownCap w n 0 e) ((Question.extern "internal/bytealg.MakeNoZero.bytes" 0).cut (w.tape (w.drawn + 1) (.extern "internal/bytealg.MakeNoZero.bytes" 0))) #[], ?_, ?_, ?_, digits_one _ _ _ (by simp)⟩
  · rw [hdef]
    have h1 : ¬ (n : Int) < 0 := by omega
    have h2 : ¬ (281474976710656 : Int) < (n : Int) := by omega
    simp [run_underlying ht, h1, h2, Question.forced, newRow, Lib.size_digits, grownCap]
  · rw [Lib.size_digits]
    simpa using grownCap_ge w n 0 e
  · rw [Lib.size_digits]
    simpa using grownCap_le_maxLen w n 0 e (by unfold maxLen; omega)
theorem o_makeNoZero {f : FuncId} {fn : Func} {tys pp : Array TypeId} {e d' : TypeId} {n : Int} (m : Nat) (hf : P.funcs[f]? = some fn) (hname : (fn.name == "runtime.NumGoroutine") = false) (hb : fn.body.isNone = true) (hn : Extern.findNext fn = none) (he : Extern.find fn = some (Extern.BytealgMakeNoZero.makeNoZero pp #[t])) (hu : P.underlying t = some (.slice e)) (hx : Opd x ps (.pv (.int .i64 n))) (h0 : 0 ≤ n) (h1 : n ≤ 281474976710656) :
    OpC P ⟨some d', .call { callee := .value (.func f), args := #[x], argTypes := tys }, ty, pos, af, g⟩ ⟨ps, [], .same d', [(m, .ob (.slot d') (rowH e 1 rAny (List.replicate n.toNat ())))]⟩ := fun a w F K Q hw hp hr ht => by
  have ex := (hx a w (U F) hp).1
  obtain ⟨cs, hrun0, hc1, hc2, hc3⟩ := run_makeNoZero' (P := P) (w := w) pp t e hu n.toNat (by omega)
  rw [show ((n.toNat : Nat) : Int) = n by omega] at hrun0
  have hc := run_callFunc_extern (P := P) hf hname hb hn he #[.int .i64 n] w
  have e2 : a.eval (.func f) = .func (.func f) #[] #[] := rfl
  rw [hrun0] at hc
  have hrun : (execOp a.eval ⟨some d', .call { callee := .value (.func f), args := #[x], argTypes := tys }, ty, pos, af, g⟩).run P w = .ok (.value (.slice (some ⟨w.heap.size, 0, none⟩) n.toNat cs.size)) (w.drew.drew.alloc (.cells cs e)) := by
    simpa [execOp, resolve, ex, e2, Deferred.ofValue, invoke] using hc
  have hwd : Wf F w.drew.drew := ⟨hw.dis, hw.bd⟩
  obtain ⟨g1, g2⟩ := new_block hwd m (.cells cs e)
  have g3 : Stp [m] w F (w.drew.drew.alloc (.cells cs e)) (fun k => if k = m then fun b => b = w.drew.drew.heap.size else F k) := ⟨g2.os, g2.tape, g2.output, g2.size, g2.keep, g2.fkeep, g2.fnew⟩
  simp only [Oper.wp, hrun, Oper.upon]
  refine ht _ _ _ g1 g3 ⟨by simp [upd], rfl⟩ ?_
  intro q hq
  simp only [List.mem_singleton] at hq
  subst hq
  have hτ : upd (Act.tau a) (some d') (.slice (some ⟨w.heap.size, 0, none⟩) n.toNat cs.size) d' = .slice (some ⟨w.heap.size, 0, none⟩) n.toNat cs.size := by simp [upd]
  have htl : (cs.toList.take n.toNat).length = n.toNat := by rw [List.length_take]; simp; omega
  refine ⟨cs.toList.take n.toNat, ⟨by simp [htl], .inr ⟨w.heap.size, cs.size, cs, ?_, Nat.zero_le _, heap_alloc_new w.drew.drew _, by simpa using hc1, hc2, by simp, ?_⟩⟩, ?_, fun b => ?_⟩
  · simp only [Anc.v, hτ, List.length_replicate]
  · simp
  · have := any_pvs (w := w.drew.drew.alloc (.cells cs e)) (yy := U (fun k => if k = m then fun b => b = w.drew.drew.heap.size else F k)) (vs := cs.toList.take n.toNat) (fun v hv => hc3 v (List.mem_of_mem_take hv))
    rw [htl] at this
    exact this
  · simp [Anc.v, hτ, Value.ownBlock, eq_comm]
theorem row_none {α β : Type} {T sz : Nat} {R : α → List PV} {R' : β → List PV} {v : Value} (τ : Tau) (w : World) (f y : Ys) (h : (RS.ob (.val v) (rowH T sz R ([] : List α))).holds τ w f y) : (RS.ob (.val v) (rowH T sz R' ([] : List β))).holds τ w f y := by
  obtain ⟨xs, h1, h2, h3⟩ := h
  exact ⟨xs, h1, by match xs, h2 with
    | [], _ => trivial, h3⟩
theorem o_cap_nil {e : TypeId} (hu : P.underlying t = some (.slice e)) (hx : Opd x ps (.pv (.is (.slice none 0 0)))) :
    OpC P ⟨d, .call { callee := .builtin .cap, args := #[x], argTypes := #[t] }, ty, pos, af, g⟩ ⟨ps, [], .pv (.int .i64 0), []⟩ :=
  OpC.pure fun a w yy hp => by
    have e1 := (hx a w yy hp).1
    refine ⟨.int .i64 0, ?_, fun _ _ => ⟨rfl, by simp [inR, IntKind.min, IntKind.max, IntKind.signed, IntKind.bits]⟩⟩
    simp [execOp, resolve, invoke, builtin, e1, Builtin.cap_, run_underlying hu, goInt]
theorem o_copy0 {α : Type} {R : α → List PV} {e sz T : TypeId} {a : Anc} {t2 : TypeId} (n : Nat) (hu : P.underlying t = some (.slice e)) (hs : (P.info? e).map (·.size) = some sz) (hx : IsAnc x ps a) (hy : Opd y qs (.pv (.is (.slice none 0 0)))) :
    OpC P ⟨d, .call { callee := .builtin .copy, args := #[x, y], argTypes := #[t, t2] }, ty, pos, af, g⟩ ⟨ps ++ qs, [(n, .ob a (rowH T sz R ([] : List α)))], .pv (.int .i64 0), []⟩ :=
  OpC.read fun act w F hp hr => by
    obtain ⟨xs, h2, h3, h4⟩ := hr (n, .ob a (rowH T sz R ([] : List α))) (by simp)
    obtain ⟨ad, cap, e1, h5, h6, h7⟩ := row_shape h2
    have ex : act.eval x = .slice ad 0 cap := by rw [hx act w _ hp.left]; exact e1
    have ey := (hy act w _ hp.right).1
    refine ⟨.int .i64 0, ?_, fun _ _ => ⟨rfl, by simp [inR, IntKind.min, IntKind.max, IntKind.signed, IntKind.bits]⟩⟩
    cases ad with
    | none => simp [execOp, resolve, invoke, builtin, ex, ey, Builtin.copy_, run_underlying hu, Builtin.lenOf, Builtin.firstCells, run_sizeOf hs, goInt]
    | some ad => simp [execOp, resolve, invoke, builtin, ex, ey, Builtin.copy_, run_underlying hu, Builtin.lenOf, Builtin.firstCells, run_sizeOf hs, goInt, storeCells]
end
end Go.Gm
