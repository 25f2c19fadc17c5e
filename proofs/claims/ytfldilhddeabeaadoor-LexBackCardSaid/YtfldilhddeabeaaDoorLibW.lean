/- Arrays put together; calls of function values; rows handed to callees; the rest of a row, and its clearing. No condition. -/
import Derived.Test.YtfldilhddeabeaaDoorLibV
namespace Go.Gm
set_option linter.unusedVariables false
set_option linter.unusedSimpArgs false
section
variable {P : Program} {d : Option Nat} {t ty : TypeId} {pos : String} {af : Array Edge} {g : Option (Nat × Bool)} {x y : Operand} {ps qs : List (Nat × SF)}
/-- An array is put together. -/
theorem o_buildA {len e sz : Nat} {pl : List (Nat × Nat)} {zs : List Value} {r : List (Nat × Operand)} {cs' : List CF} (hu : P.underlying t = some (.array len e)) (hs : (P.info? e).map (·.size) = some sz) (hz : P.zeros t = some zs) (hpl : ((List.range len).map fun i => (i * sz, sz)) = pl) (hparts : Parts P pl r ps (zs.map zCF) cs') (hd : depOk d (.agg cs') = true) :
    OpC P ⟨d, .build t r.toArray, ty, pos, af, g⟩ ⟨ps, [], .agg cs', []⟩ :=
  OpC.pure fun a w yy hp => by
    obtain ⟨z, h1, h2, h3⟩ := zeros_run hz
    obtain ⟨us, h4, h5⟩ := fill_run (place := fun i => some (i * sz, sz)) (fun i q h => by
      rw [← hpl] at h
      obtain ⟨j, hj, rfl⟩ := List.mem_map.1 (List.mem_of_getElem? h)
      rw [List.getElem?_map] at h
      obtain ⟨k, hk, e⟩ := Option.map_eq_some_iff.1 h
      have hk' := List.getElem?_eq_some_iff.1 hk
      obtain ⟨hk1, hk2⟩ := hk'
      rw [List.getElem_range] at hk2
      subst hk2
      rw [← e]) hparts hp zs.toArray (by simpa using zCFs h2)
    refine ⟨.agg us, ?_, fun τ' ht => depOk_mono hd ht ⟨us.toList, by simp, h5⟩⟩
    have e : (r.toArray.map fun (x : Nat × Operand) => (x.1, a.eval x.2)) = (r.map fun x => (x.1, a.eval x.2)).toArray := by simp
    have h4' : Instr.fill (fun i => some (i * sz, sz)) zs.toArray (r.map fun x => (x.1, a.eval x.2)) = some us := h4
    simp only [execOp, Instr.build, e, Sem.run_bind, h3, Result.andThen_ok, h1, run_underlying hu, run_sizeOf hs, h4', Sem.run_pure]
/-- A call of a function value. -/
theorem o_callPV {f : FuncId} {args : Array Operand} {tys : Array TypeId} {avs : List PV} {q : PV} {fn : Func} (hx : Opd x qs (.pv (.is (.func (.func f) #[] #[]))))
    (hc : FnP P f avs q) (hf : P.funcs[f]? = some fn) (hb : fn.body.isSome = true) (hn : (fn.name == "runtime.NumGoroutine") = false)
    (ha : ∀ (a : Act) w y, Hps ps (Act.tau a) w y → ∃ vs : List Value, args.map a.eval = vs.toArray ∧ PVt avs vs w y) :
    OpC P ⟨d, .call { callee := .value x, args := args, argTypes := tys }, ty, pos, af, g⟩ ⟨qs ++ ps, [], .pv q, []⟩ := fun a w F K Q hw hp hr ht => by
  obtain ⟨vs, e, hvs⟩ := ha a w (U F) hp.right
  have e2 : a.eval x = .func (.func f) #[] #[] := (hx a w (U F) hp.left).1
  have hbn : fn.body ≠ none := by intro h; rw [h] at hb; cases hb
  have hn' : fn.name ≠ "runtime.NumGoroutine" := by intro h; rw [h] at hn; simp at hn
  have hrun : (execOp a.eval ⟨d, .call { callee := .value x, args := args, argTypes := tys }, ty, pos, af, g⟩).run P w = .ok (.enter f vs.toArray) w := by
    simp [execOp, resolve, e, e2, Deferred.ofValue, invoke, callFunc, hf, hn', hbn]
  simp only [Oper.wp, hrun, Oper.upon]
  refine (hc w (U F) vs (fun b ⟨n, hn⟩ => hw.bd n b hn) hvs).mono ?_
  rintro e' w' ⟨v, rfl, hq, hbel⟩
  have hst : Stp [] w F w' F := ⟨hbel.os, hbel.tape, hbel.output, hbel.size, fun b hb _ => hbel.block b hb, fun _ _ => rfl, fun _ h => by cases h⟩
  exact ht v w' F ⟨hw.dis, fun n b hn => Nat.lt_of_lt_of_le (hw.bd n b hn) hbel.size⟩ hst hq (fun x hx => by cases hx)
/-- A call that is handed a row of one's own. -/
theorem o_callRow {α : Type} {R : α → List PV} {T sz : Nat} {l l' : List α} {v : Value} {f : FuncId} {args : Array Operand} {tys : Array TypeId} {d' : Nat} {avs : List PV} {q : PV} {fn : Func} (n : Nat)
    (hc : FnG P f 1 avs [rowH T sz R l v] q (fun _ => [rowH T sz R l' v])) (hf : P.funcs[f]? = some fn) (hb : fn.body.isSome = true) (hn : (fn.name == "runtime.NumGoroutine") = false)
    (ha : ∀ (a : Act) w y, Hps ps (Act.tau a) w y → ∃ vs : List Value, args.map a.eval = vs.toArray ∧ PVt avs vs w y) :
    OpC P ⟨some d', .call { callee := .value (.func f), args := args, argTypes := tys }, ty, pos, af, g⟩ ⟨ps, [(n, .ob (.val v) (rowH T sz R l))], .pv q, [(n, .ob (.val v) (rowH T sz R l'))]⟩ :=
  OpC.res (o_callG1 n hc hf hb hn ha) (fun τ w fb y h => h) rfl (fun τ w F h => by
    intro z hz
    simp only [List.mem_singleton] at hz
    subst hz
    exact h (n, RS.hp (rowH T sz R l' v)) (by simp))
/-- A call that is handed a row, and hands on another thing, known by the result. -/
theorem o_callRowN {α : Type} {R : α → List PV} {T sz : Nat} {l : List α} {v : Value} {f : FuncId} {args : Array Operand} {tys : Array TypeId} {d' : Nat} {avs : List PV} {h' : Value → HP} {q : PV} {fn : Func} (n : Nat)
    (hc : FnG P f 1 avs [rowH T sz R l v] q (fun u => [h' u])) (hf : P.funcs[f]? = some fn) (hb : fn.body.isSome = true) (hn : (fn.name == "runtime.NumGoroutine") = false)
    (ha : ∀ (a : Act) w y, Hps ps (Act.tau a) w y → ∃ vs : List Value, args.map a.eval = vs.toArray ∧ PVt avs vs w y) (h1 : ∀ v w y, q.p v w y → v.oneCell' = true) :
    OpC P ⟨some d', .call { callee := .value (.func f), args := args, argTypes := tys }, ty, pos, af, g⟩ ⟨ps, [(n, .ob (.val v) (rowH T sz R l))], .same d', [(n, RS.ob (.slot d') h')]⟩ :=
  OpC.res (o_callG (prs := [(n, RS.hp (rowH T sz R l v))]) (is := [n]) hc hf hb hn ha rfl (by simp) (fun τ w F hr i x hi => by
      match i, hi with
      | 0, hi => simp at hi; subst hi; exact ⟨n, rfl, hr (n, RS.hp (rowH T sz R l v)) (by simp)⟩)
    (fun _ _ _ _ h => ⟨by simp [upd], h1 _ _ _ h⟩) (fun x hx => by
      simp only [List.mem_singleton] at hx
      subst hx
      exact ⟨0, rfl, fun v τ w f y ⟨k, hk, hp⟩ => by
        simp at hk; subst hk
        simpa [RS.holds, Anc.v, upd] using hp⟩) rfl (fun _ => rfl)) (fun τ w fb y h => h) rfl (fun _ _ _ h => h)
theorem Args.four {x1 x2 x3 x4 : Operand} {ps1 ps2 ps3 ps4 : List (Nat × SF)} {p1 p2 p3 p4 : PV} (h1 : Opd x1 ps1 (.pv p1)) (h2 : Opd x2 ps2 (.pv p2)) (h3 : Opd x3 ps3 (.pv p3)) (h4 : Opd x4 ps4 (.pv p4)) :
    ∀ (a : Act) w y, Hps (ps1 ++ (ps2 ++ (ps3 ++ ps4))) (Act.tau a) w y → ∃ vs : List Value, (#[x1, x2, x3, x4] : Array Operand).map a.eval = vs.toArray ∧ PVt [p1, p2, p3, p4] vs w y :=
  fun a w y hp => ⟨[a.eval x1, a.eval x2, a.eval x3, a.eval x4], by simp, h1 a w y hp.left, h2 a w y hp.right.left, h3 a w y hp.right.right.left, h4 a w y hp.right.right.right, trivial⟩
theorem Args.five {x1 x2 x3 x4 x5 : Operand} {ps1 ps2 ps3 ps4 ps5 : List (Nat × SF)} {p1 p2 p3 p4 p5 : PV} (h1 : Opd x1 ps1 (.pv p1)) (h2 : Opd x2 ps2 (.pv p2)) (h3 : Opd x3 ps3 (.pv p3)) (h4 : Opd x4 ps4 (.pv p4)) (h5 : Opd x5 ps5 (.pv p5)) :
    ∀ (a : Act) w y, Hps (ps1 ++ (ps2 ++ (ps3 ++ (ps4 ++ ps5)))) (Act.tau a) w y → ∃ vs : List Value, (#[x1, x2, x3, x4, x5] : Array Operand).map a.eval = vs.toArray ∧ PVt [p1, p2, p3, p4, p5] vs w y :=
  fun a w y hp => ⟨[a.eval x1, a.eval x2, a.eval x3, a.eval x4, a.eval x5], by simp, h1 a w y hp.left, h2 a w y hp.right.left, h3 a w y hp.right.right.left, h4 a w y hp.right.right.right.left, h5 a w y hp.right.right.right.right, trivial⟩
def PV.oneC : PV := ⟨fun u _ _ => u.oneCell' = true, fun _ h => h⟩
theorem PV.oneC_one (v : Value) (w : World) (y : Ys) (h : PV.oneC.p v w y) : v.oneCell' = true := h
theorem Ent.oneC {v : Value} : Ent (.pv (.is v)) (.pv PV.oneC) := fun _ _ _ _ h => h.2
theorem Ent.any {p : PV} : Ent (.pv p) (.pv .any) := fun _ _ _ _ _ => trivial
/-- The rest of a slice behind its first elements. -/
def subV (sz k : Nat) : Value → Value
  | .slice (some a) n c => .slice (some ⟨a.block, a.off + k * sz, none⟩) (n - k) (c - k)
  | v => v
theorem o_sub_row {α : Type} {R : α → List PV} {l : List α} {e sz : Nat} {k : IntKind} {j : Int} {v : Value} (n : Nat) (he : elemOk P t e sz) (hx : IsAnc x ps (.val v)) (hy : Opd y qs (.pv (.int k j))) (h0 : 0 ≤ j) (h1 : j < l.length) :
    OpC P ⟨d, .slice t x (some y) none none, ty, pos, af, g⟩ ⟨ps ++ qs, [(n, .ob (.val v) (rowH e sz R l))], .pv (.is (subV sz j.toNat v)), []⟩ :=
  OpC.read fun act w F hp hr => by
    obtain ⟨xs, h2, h3, h4⟩ := hr (n, .ob (.val v) (rowH e sz R l)) (by simp)
    obtain ⟨ad, cap, e1, h5, h6, h7⟩ := row_shape h2
    simp only [Anc.v] at e1
    have e2 := (hy act w _ hp.right).1
    have e3 : act.eval x = .slice ad l.length cap := by rw [hx act w _ hp.left]; exact e1
    rcases h7 with h7 | ⟨b, rfl, _, _⟩
    · omega
    · subst e1
      have hh : (Instr.sliceBounds true l.length cap (some (.int k j)) none none).run P w = .ok (j.toNat, l.length, cap) w := by
        have : j ≤ l.length := by omega
        simp [Instr.sliceBounds, Instr.sliceBound, asIntOf, h0, this]
      refine ⟨.slice (some ⟨b, 0 + j.toNat * sz, none⟩) (l.length - j.toNat) (cap - j.toNat), ?_, fun τ _ => ⟨rfl, rfl⟩⟩
      have hne : ¬ cap - j.toNat = 0 := by omega
      have hne2 : ¬ cap = j.toNat := by omega
      have had : (if j.toNat * sz = 0 then (⟨b, 0, none⟩ : Addr) else ⟨b, 0 + j.toNat * sz, none⟩) = ⟨b, 0 + j.toNat * sz, none⟩ := by
        split
        · rename_i h; rw [h]
        · rfl
      simp only [execOp, e3, e2, Option.map_none, Option.map_some, Instr.sliceAt, Sem.run_bind, run_underlying he.1, Result.andThen_ok, Instr.slice, hh, run_sizeOf he.2, Sem.run_pure, if_neg hne, Addr.add]
      simp [hne2, had]
      try exact fun h => h.symm
theorem o_len_sub {α : Type} {R : α → List PV} {l : List α} {e sz k : Nat} {v : Value} (n : Nat) (hu : P.underlying t = some (.slice e)) (hx : Opd x ps (.pv (.is (subV sz k v)))) (hk : k < l.length) :
    OpC P ⟨d, .call { callee := .builtin .len, args := #[x], argTypes := #[t] }, ty, pos, af, g⟩ ⟨ps, [(n, .ob (.val v) (rowH e sz R l))], .pv (.int .i64 ((l.length - k : Nat) : Int)), []⟩ :=
  OpC.read fun act w F hp hr => by
    obtain ⟨xs, h2, h3, h4⟩ := hr (n, .ob (.val v) (rowH e sz R l)) (by simp)
    obtain ⟨ad, cap, e1, h5, h6, h7⟩ := row_shape h2
    simp only [Anc.v] at e1
    rcases h7 with h7 | ⟨b, rfl, _, _⟩
    · omega
    · subst e1
      have e3 : act.eval x = .slice (some ⟨b, 0 + k * sz, none⟩) (l.length - k) (cap - k) := (hx act w _ hp).1
      refine ⟨.int .i64 ((l.length - k : Nat) : Int), ?_, fun τ _ => ⟨rfl, ?_⟩⟩
      · simp [execOp, resolve, invoke, builtin, e3, run_len_slice w t ty (some ⟨b, k * sz, none⟩) (l.length - k) (cap - k) (elem_eq hu), goInt]
      · unfold maxLen at h6
        simp [inR, IntKind.min, IntKind.max, IntKind.signed, IntKind.bits]; omega
theorem o_clear_row {α : Type} {R : α → List PV} {l : List α} {e sz k : Nat} {v : Value} {z : α} {zs : List Value} (n : Nat) (hu : P.underlying t = some (.slice e)) (hzs : P.zeros e = some zs) (hzl : zs.length = sz) (h0 : Nat.blt 0 sz = true) (hzp : ∀ w yy, PVs (R z) zs w yy) (hR : ∀ x, (R x).length = sz) (hx : Opd x ps (.pv (.is (subV sz k v)))) (hk : k < l.length) :
    OpC P ⟨none, .call { callee := .builtin .clear, args := #[x], argTypes := #[t] }, ty, pos, af, g⟩ ⟨ps, [(n, .ob (.val v) (rowH e sz R l))], .pv .any, [(n, .ob (.val v) (rowH e sz R (l.take k ++ List.replicate (l.length - k) z)))]⟩ := fun act w F K Q hw hp hr ht => by
  obtain ⟨xs, h1, h2, h3⟩ := hr (n, .ob (.val v) (rowH e sz R l)) (by simp)
  obtain ⟨zv, z1, z2, z3⟩ := zeros_run hzs
  simp only [Anc.v] at h1 h3
  have hxl := h1.1
  rcases h1.2 with ⟨_, hn0⟩ | ⟨b, cap, cur, ev, _, hg, hnc, hcm, hcs, htake⟩
  · omega
  · have ex : act.eval x = .slice (some ⟨b, 0 + k * sz, none⟩) (l.length - k) (cap - k) := by rw [(hx act w (U F) hp).1, ev]; rfl
    obtain ⟨m, hm⟩ : ∃ m, l.length - k = m + 1 := ⟨l.length - k - 1, by omega⟩
    have hmade : (Builtin.zeroCells zv.cells (l.length - k)).toList = (madeCells zs.toArray ((l.length - k) * sz)).toList := by
      rw [z1]; unfold Builtin.zeroCells madeCells; rw [List.size_toArray, hzl]
    have hmp : ∀ w' yy, PVs ((List.replicate (l.length - k) z).flatMap R) (madeCells zs.toArray ((l.length - k) * sz)).toList w' yy := fun w' yy => made_pvs hzl (by simpa [Nat.blt_eq] using h0) (hzp w' yy) _
    have hml : (madeCells zs.toArray ((l.length - k) * sz)).toList.length = (l.length - k) * sz := by simp [size_madeCells]
    have hfit : k * sz + (l.length - k) * sz = l.length * sz := by rw [← Nat.add_mul]; congr 1; omega
    have hfit2 : l.length * sz ≤ cur.size := by rw [hcs]; exact Nat.mul_le_mul_right sz hnc
    have hst := run_storeCells_at P b (k * sz) e (madeCells zs.toArray ((l.length - k) * sz)).toList 0 cur w hg (by rw [hml]; omega) (hmp w (U F)).one
    have hrun : (execOp act.eval ⟨none, .call { callee := .builtin .clear, args := #[x], argTypes := #[t] }, ty, pos, af, g⟩).run P w = .ok (.value (.tuple #[])) (w.setRow b (cur.toList.take (k * sz) ++ (madeCells zs.toArray ((l.length - k) * sz)).toList ++ cur.toList.drop (k * sz + (madeCells zs.toArray ((l.length - k) * sz)).toList.length)).toArray) := by
      rw [Nat.add_zero] at hst
      simp only [Nat.zero_add] at ex
      have hcl : (Builtin.clear_ #[t] ty #[.slice (some ⟨b, k * sz, none⟩) (l.length - k) (cap - k)]).run P w = .ok (.tuple #[]) (w.setRow b (cur.toList.take (k * sz) ++ (madeCells zs.toArray ((l.length - k) * sz)).toList ++ cur.toList.drop (k * sz + (madeCells zs.toArray ((l.length - k) * sz)).toList.length)).toArray) := by
        rw [← hmade] at hst ⊢
        rw [hm] at hst ⊢
        simp [Builtin.clear_, run_underlying hu, z3]
        simp at hst
        rw [hst]
        rfl
      simp only [execOp, resolve, invoke, builtin, ex]
      simp [hcl, resolve, invoke, builtin, ex]
    have hf : ∀ z, F n z ↔ z = b := fun z => by rw [h3 z, ev]; simp [Value.ownBlock, eq_comm]
    obtain ⟨g1, g2⟩ := set_block hw hg hf (cur.toList.take (k * sz) ++ (madeCells zs.toArray ((l.length - k) * sz)).toList ++ cur.toList.drop (k * sz + (madeCells zs.toArray ((l.length - k) * sz)).toList.length)).toArray
    simp only [Oper.wp, hrun, Oper.upon]
    refine ht _ _ F g1 g2 trivial ?_
    intro z' hz'
    simp only [List.mem_singleton] at hz'
    subst hz'
    have hll : (l.take k ++ List.replicate (l.length - k) z).length = l.length := by simp; omega
    refine ⟨xs.take (k * sz) ++ (madeCells zs.toArray ((l.length - k) * sz)).toList, ⟨?_, .inr ⟨b, cap, _, by rw [hll]; exact ev, Nat.zero_le _, setRow_heap w b cur _ e (0, 0) hg, by rw [hll]; exact hnc, hcm, ?_, ?_⟩⟩, ?_, h3⟩
    · rw [hll, List.length_append, List.length_take, hml, hxl]; omega
    · have : cur.toList.length = cur.size := by simp
      simp only [List.size_toArray, List.length_append, List.length_take, List.length_drop, this, hml]
      omega
    · rw [hll]
      simp only []
      rw [List.take_append_of_le_length (by simp only [List.length_append, List.length_take, hml]; have : cur.toList.length = cur.size := by simp
                                            omega)]
      rw [List.take_of_length_le (by simp only [List.length_append, List.length_take, hml]; omega), ← htake, List.take_take, Nat.min_eq_left (by omega)]
    · rw [List.flatMap_append]
      refine PVs.append ?_ (hmp _ _)
      rw [fm_take hR]
      exact PVs.take _ (PVs.mono g2.ev h2)
end
end Go.Gm
