/- A store into a row of one's own. No condition. -/
import Derived.Test.YtfldilhddeabeaaDoorLibT
import Derived.Laws.MakeOwn
import Derived.Lib.SliceRun
namespace Go.Gm
set_option linter.unusedVariables false
set_option linter.unusedSimpArgs false
section
variable {P : Program} {t ty : TypeId} {pos : String} {af : Array Edge} {g : Option (Nat × Bool)} {x y : Operand} {ps qs : List (Nat × SF)} {α : Type} {R : α → List PV} {l : List α}
theorem PVs.setR {sz : Nat} (hR : ∀ x, (R x).length = sz) {w yy} {v : α} {us : List Value} (hu : PVs (R v) us w yy) : ∀ {l : List α} {xs : List Value} (i : Nat), i < l.length → PVs (l.flatMap R) xs w yy → PVs ((l.set i v).flatMap R) (xs.take (i * sz) ++ us ++ xs.drop (i * sz + sz)) w yy
  | [], xs, i, h, _ => by simp at h
  | z :: l, xs, 0, _, h => by
    rw [List.flatMap_cons] at h
    obtain ⟨us1, us2, rfl, h1, h2⟩ := PVs.split h
    have hl : us1.length = sz := by rw [← h1.len, hR]
    rw [List.set_cons_zero, List.flatMap_cons, Nat.zero_mul, List.take_zero, List.nil_append, Nat.zero_add, ← hl, List.drop_left]
    exact PVs.append hu h2
  | z :: l, xs, i + 1, hi, h => by
    rw [List.flatMap_cons] at h
    obtain ⟨us1, us2, rfl, h1, h2⟩ := PVs.split h
    have hl : us1.length = sz := by rw [← h1.len, hR]
    have ih := PVs.setR hR hu (l := l) i (by simpa using hi) h2
    rw [List.set_cons_succ, List.flatMap_cons, Nat.succ_mul, show i * sz + sz = us1.length + i * sz by omega, show us1.length + i * sz + sz = us1.length + (i * sz + sz) by omega, List.take_length_add_append, List.drop_length_add_append, List.append_assoc, List.append_assoc]
    exact PVs.append h1 (by rw [← List.append_assoc]; exact ih)
theorem take_mid {cur us : List Value} {k sz N : Nat} (hk : k + sz ≤ N) (hu : us.length = sz) (hc : N ≤ cur.length) : (cur.take k ++ us ++ cur.drop (k + us.length)).take N = (cur.take N).take k ++ us ++ (cur.take N).drop (k + sz) := by
  rw [List.take_take, Nat.min_eq_left (by omega), hu]
  have h1 : (cur.take k ++ us).length = k + sz := by rw [List.length_append, List.length_take, hu]; omega
  rw [List.take_append, h1, List.take_of_length_le (by omega), List.drop_take]
theorem o_store_row {T sz i : Nat} {a : Anc} {v : α} (n : Nat) (hx : Opd x ps (.adr a (i * sz))) (hR : ∀ x, (R x).length = sz) (hi : i < l.length) (hy : Opd y qs (.pv (.agg (R v)))) (hs : (P.info? t).map (·.size) = some sz) :
    OpC P ⟨none, .store t x y, ty, pos, af, g⟩ ⟨ps ++ qs, [(n, .ob a (rowH T sz R l))], .pv .any, [(n, .ob a (rowH T sz R (l.set i v)))]⟩ := fun act w F K Q hw hp hr ht => by
  obtain ⟨xs, h1, h2, h3⟩ := hr (n, .ob a (rowH T sz R l)) (by simp)
  have ex0 : act.eval x = shift (i * sz) (a.v (Act.tau act)) := hx act w (U F) hp.left
  obtain ⟨us, eu, hu⟩ := hy act w (U F) hp.right
  have hul : us.length = sz := by rw [← hu.len, hR]
  have hxl := h1.1
  rcases h1.2 with ⟨_, h0⟩ | ⟨b, cap, cur, ev, _, hg, hnc, hcm, hcs, htake⟩
  · omega
  · have ex : act.eval x = .pointer (some ⟨b, i * sz, none⟩) := by rw [ex0, ev]; simp [shift]
    have hfit : i * sz + sz ≤ l.length * sz := by rw [← Nat.succ_mul]; exact Nat.mul_le_mul_right sz hi
    have hfit2 : l.length * sz ≤ cur.size := by rw [hcs]; exact Nat.mul_le_mul_right sz hnc
    have hst := run_storeCells_at P b (i * sz) T us 0 cur w hg (by omega) hu.one
    have hrun : (execOp act.eval ⟨none, .store t x y, ty, pos, af, g⟩).run P w = .ok .skip (w.setRow b (cur.toList.take (i * sz) ++ us ++ cur.toList.drop (i * sz + us.length)).toArray) := by
      simp [execOp, ex, Instr.storeAt, Instr.sureAddr, storeVar, run_sizeOf hs, eu, Value.cells, hul, hst]
    have hf : ∀ z, F n z ↔ z = b := fun z => by rw [h3 z, ev]; simp [Value.ownBlock, eq_comm]
    obtain ⟨g1, g2⟩ := set_block hw hg hf (cur.toList.take (i * sz) ++ us ++ cur.toList.drop (i * sz + us.length)).toArray
    simp only [Oper.wp, hrun, Oper.upon]
    refine ht undef _ F g1 g2 trivial ?_
    intro z hz
    simp only [List.mem_singleton] at hz
    subst hz
    have eτ : upd (Act.tau act) none undef = Act.tau act := by funext i; simp [upd]
    show RS.holds (upd (Act.tau act) none undef) _ _ _ _
    rw [eτ]
    refine ⟨xs.take (i * sz) ++ us ++ xs.drop (i * sz + sz), ⟨?_, .inr ⟨b, cap, _, by rw [List.length_set]; exact ev, Nat.zero_le _, setRow_heap w b cur _ T (0, 0) hg, by rw [List.length_set]; exact hnc, hcm, ?_, ?_⟩⟩, PVs.setR hR (PVs.mono g2.ev hu) i hi (PVs.mono g2.ev h2), h3⟩
    · rw [List.length_set, List.length_append, List.length_append, List.length_take, List.length_drop, hxl, hul]; omega
    · have : cur.toList.length = cur.size := by simp
      simp only [List.size_toArray, List.length_append, List.length_take, List.length_drop, this, hul]
      omega
    · rw [List.length_set]
      have := take_mid (cur := cur.toList) (us := us) (k := i * sz) (sz := sz) (N := l.length * sz) hfit hul (by simpa using hfit2)
      rw [htake] at this
      simpa using this
theorem made_list (zs : List Value) (sz : Nat) (hz : zs.length = sz) (h0 : 0 < sz) : ∀ n, (madeCells zs.toArray ((n + 1) * sz)).toList = (madeCells zs.toArray (n * sz)).toList ++ zs := fun n => by
  simp only [madeCells, Array.toList_map, Array.toList_range, Nat.succ_mul, List.range_add, List.map_append, List.map_map]
  congr 1
  apply List.ext_getElem
  · simp [hz]
  · intro j h1 h2
    have hj : j < sz := by simpa using h1
    simp only [List.getElem_map, List.getElem_range, Function.comp, List.size_toArray, hz]
    rw [Nat.mul_comm n sz, Nat.mul_add_mod, Nat.mod_eq_of_lt hj]
    simp [h2]
theorem made_pvs {w : World} {yy : Ys} {zs : List Value} {sz : Nat} {v : α} (hz : zs.length = sz) (h0 : 0 < sz) (hp : PVs (R v) zs w yy) : ∀ n, PVs ((List.replicate n v).flatMap R) (madeCells zs.toArray (n * sz)).toList w yy
  | 0 => by simp [madeCells, PVs]
  | n + 1 => by
    rw [made_list zs sz hz h0 n, List.replicate_succ', List.flatMap_append]
    refine PVs.append (made_pvs hz h0 hp n) ?_
    simpa using hp
theorem o_makeSlice {e sz bs d' : Nat} {k : IntKind} {c : Int} {v : α} {zs : List Value} (n : Nat) (hu : P.underlying t = some (.slice e)) (hi : (P.info? e).map (fun i => (i.size, i.bytes, i.zero.map (·.cells.toList))) = some (sz, bs, some zs)) (hz : Nat.beq zs.length sz = true) (h0 : Nat.blt 0 sz = true) (hp : ∀ w yy, PVs (R v) zs w yy)
    (hx : Opd x ps (.pv (.int k c))) (hy : Opd y qs (.pv (.int k c))) (hc : 0 ≤ c) (hb : (bs : Int) * c ≤ 281474976710656) (hm : c ≤ 9223372036854775807) :
    OpC P ⟨some d', .makeSlice t x y, ty, pos, af, g⟩ ⟨ps ++ qs, [], .same d', [(n, .ob (.slot d') (rowH e sz R (List.replicate c.toNat v)))]⟩ := fun a w F K Q hw hps hr ht => by
  obtain ⟨i, hi1, hi2⟩ := Option.map_eq_some_iff.1 hi
  simp only [Prod.mk.injEq] at hi2
  obtain ⟨e1, e2, e3⟩ := hi2
  obtain ⟨z, hz1, hz2⟩ := Option.map_eq_some_iff.1 e3
  have ex := (hx a w (U F) hps.left).1
  have ey := (hy a w (U F) hps.right).1
  have hzc : z.cells = zs.toArray := by rw [← hz2]
  have hr' := run_make (P := P) w t e i z hu hi1 hz1 k k c c hc (Int.le_refl _) (by rw [e2]; exact hb) hm
  rw [hzc, e1] at hr'
  have hrun : (execOp a.eval ⟨some d', .makeSlice t x y, ty, pos, af, g⟩).run P w = .ok (.value (.slice (some ⟨w.heap.size, 0, none⟩) c.toNat c.toNat)) (w.alloc (.cells (madeCells zs.toArray (c.toNat * sz)) e)) := by
    simp only [execOp, ex, ey, Sem.run_bind, hr', Result.andThen_ok, Sem.run_pure]
  obtain ⟨g1, g2⟩ := new_block hw n (.cells (madeCells zs.toArray (c.toNat * sz)) e)
  simp only [Oper.wp, hrun, Oper.upon]
  refine ht _ _ _ g1 g2 ⟨by simp [upd], rfl⟩ ?_
  intro q hq
  simp only [List.mem_singleton] at hq
  subst hq
  have hτ : upd (Act.tau a) (some d') (.slice (some ⟨w.heap.size, 0, none⟩) c.toNat c.toNat) d' = .slice (some ⟨w.heap.size, 0, none⟩) c.toNat c.toNat := by simp [upd]
  have hlen : (madeCells zs.toArray (c.toNat * sz)).size = c.toNat * sz := size_madeCells _ _
  refine ⟨(madeCells zs.toArray (c.toNat * sz)).toList, ⟨by simp [hlen], .inr ⟨w.heap.size, c.toNat, _, ?_, Nat.zero_le _, heap_alloc_new w _, by simp, by unfold maxLen; omega, hlen, ?_⟩⟩, made_pvs (Nat.eq_of_beq_eq_true hz) (by simpa [Nat.blt_eq] using h0) (hp _ _) _, fun b => ?_⟩
  · simp only [Anc.v, hτ, List.length_replicate]
  · rw [List.length_replicate]; exact List.take_of_length_le (by simp [hlen])
  · simp [Anc.v, hτ, Value.ownBlock, eq_comm]
end

/-- A block of cells as a thing that is handed to a callee. -/
def blkH (T : TypeId) (cells : List CF) (v : Value) : HP := ⟨fun w f y => (RS.pt (.val v) T cells).holds tau0 w f y, fun h hf k => RS.mono h hf (fun _ _ => rfl) k⟩
theorem blk_pt {T : TypeId} {cells : List CF} {v : Value} (hd : noDeps (cdeps cells) = true) (τ : Tau) (w : World) (f y : Ys) (h : (RS.hp (blkH T cells v)).holds τ w f y) : (RS.pt (.val v) T cells).holds τ w f y :=
  RS.closed (by simp [RS.deps, Anc.deps, noDeps_eq hd]) h
theorem pt_blk {T : TypeId} {cells : List CF} {v : Value} (hd : noDeps (cdeps cells) = true) (τ : Tau) (w : World) (f y : Ys) (h : (RS.pt (.val v) T cells).holds τ w f y) : (RS.hp (blkH T cells v)).holds τ w f y :=
  RS.closed (r := RS.pt (.val v) T cells) (by simp [RS.deps, Anc.deps, noDeps_eq hd]) h
section
variable {P : Program} {ty : TypeId} {pos : String} {af : Array Edge} {g : Option (Nat × Bool)} {ps : List (Nat × SF)}
/-- A call that is handed a block of one's own. -/
theorem o_callB {f : FuncId} {args : Array Operand} {tys : Array TypeId} {d' : Nat} {avs : List PV} {T : TypeId} {cells cells' : List CF} {v : Value} {q : PV} {fn : Func} (n : Nat) (hd : noDeps (cdeps cells) = true) (hd' : noDeps (cdeps cells') = true)
    (hc : FnG P f 1 avs [blkH T cells v] q (fun _ => [blkH T cells' v])) (hf : P.funcs[f]? = some fn) (hb : fn.body.isSome = true) (hn : (fn.name == "runtime.NumGoroutine") = false)
    (ha : ∀ (a : Act) w y, Hps ps (Act.tau a) w y → ∃ vs : List Value, args.map a.eval = vs.toArray ∧ PVt avs vs w y) :
    OpC P ⟨some d', .call { callee := .value (.func f), args := args, argTypes := tys }, ty, pos, af, g⟩ ⟨ps, [(n, .pt (.val v) T cells)], .pv q, [(n, .pt (.val v) T cells')]⟩ :=
  OpC.res (o_callG1 n hc hf hb hn ha) (fun τ w fb y h => pt_blk hd τ w fb y h) rfl (fun τ w F h => by
    intro z hz
    simp only [List.mem_singleton] at hz
    subst hz
    exact blk_pt hd' _ _ _ _ (h (n, RS.hp (blkH T cells' v)) (by simp)))
end

/-- Some truth value. -/
def PV.boolIf (c : Prop) : PV := ⟨fun u _ _ => ∃ b, u = .bool b ∧ (b = true → c), fun _ h => h⟩
theorem Sat.pickBool {B : Base} {E : En} {a : Act} {w : World} {F : Fp} (h : Sat B E a w F) {c : Prop} (i : Nat) (hl : look E.s i = some (.pv (.boolIf c))) : ∃ b, (b = true → c) ∧ Sat B ⟨(i, .pv (.bool b)) :: E.s, E.r⟩ a w F := by
  obtain ⟨b, hb, hbc⟩ := h.s i _ hl
  refine ⟨b, hbc, h.wf, h.ev, h.n, h.df, fun j t hj => ?_, h.r, h.em⟩
  rw [look_cons] at hj
  split at hj
  · rename_i e
    simp only [Option.some.injEq] at hj; subst hj; subst e
    exact hb
  · exact h.s j t hj
section
variable {P : Program} {d : Option Nat} {t t' ty : TypeId} {pos : String} {af : Array Edge} {g : Option (Nat × Bool)} {x : Operand} {ps : List (Nat × SF)} {α : Type} {R : α → List PV} {l : List α}
/-- A slice that is only read, held against nil: it is not said which. -/
theorem o_eql_nilsl {e : TypeId} (hu : P.underlying t = some (.slice e)) (hx : Opd x ps (.pv (.sl R l))) :
    OpC P ⟨d, .binOp .eql t x (.const (.slice none 0 0)) t', ty, pos, af, g⟩ ⟨ps, [], .pv (.boolIf (l = [])), []⟩ :=
  OpC.pure fun a w yy hp => by
    obtain ⟨ad, cap, e1, _, _, h3⟩ := hx a w yy hp
    have hr := Go.Lib.run_eql_slice_nil (P := P) w t e ad l.length cap 0 0 hu
    refine ⟨.bool ad.isNone, ?_, fun _ _ => ⟨_, rfl, fun hn => ?_⟩⟩
    · simp only [execOp, e1, ev_const, Sem.run_bind, show (eqGuard .eql t x (.const (.slice none 0 0)) (.slice ad l.length cap) (.slice none 0 0)).run P w = .ok () w from rfl, Result.andThen_ok, hr, Sem.run_pure]
    · rcases h3 with h3 | ⟨b, off, vs, rfl, _⟩
      · exact h3
      · cases hn
end
end Go.Gm
