/- Structs put together and held against one another; small slices; tuples; loops; what a fact says of numbers. No condition. -/
import Derived.Test.YtfldilhddeabeaaDoorLibL
import Derived.Laws.StructEq
namespace Go.Gm
set_option linter.unusedVariables false
set_option linter.unusedSimpArgs false

section
variable {P : Program} {d : Option Nat} {ty : TypeId} {pos : String} {af : Array Edge} {g : Option (Nat × Bool)}
variable {x y : Operand} {ps qs : List (Nat × SF)} {t T : TypeId}

/-- A part of a tuple. -/
theorem o_extract {l : List PV} {i : Nat} {p : PV} (hx : Opd x ps (.pv (.tup l))) (hi : l[i]? = some p) : OpC P ⟨d, .extract x i, ty, pos, af, g⟩ ⟨ps, [], .pv p, []⟩ :=
  OpC.pure fun a w yy hp => by
    obtain ⟨vs, e, h⟩ := hx a w yy hp
    have : ∀ {l : List PV} {vs : List Value} {i : Nat} {p : PV}, PVt l vs w yy → l[i]? = some p → ∃ v, vs[i]? = some v ∧ p.p v w yy := by
      intro l
      induction l with
      | nil => intro vs i p _ h; simp at h
      | cons q l ih =>
        intro vs i p h hi
        cases vs with
        | nil => exact h.elim
        | cons v vs =>
          cases i with
          | zero => simp at hi; subst hi; exact ⟨v, rfl, h.1⟩
          | succ i => obtain ⟨u, h1, h2⟩ := ih h.2 (i := i) (by simpa using hi); exact ⟨u, by simpa using h1, h2⟩
    obtain ⟨v, h1, h2⟩ := this h hi
    exact ⟨v, by simp [execOp, Instr.extract, e, h1], fun _ _ => h2⟩

/-- A struct's places. -/
def _root_.Go.Program.places (P : Program) (t : TypeId) : Option (List (Nat × Nat)) := match P.underlying t with
  | some (.struct fs) => fs.toList.mapM fun f => (P.info? f.type).map fun i => (f.offset, i.size)
  | _ => none

/-- The parts, one by one, laid over the cells. -/
inductive Parts (P : Program) (pl : List (Nat × Nat)) : List (Nat × Operand) → List (Nat × SF) → List CF → List CF → Prop
  | nil {cs : List CF} : Parts P pl [] [] cs cs
  | agg {i off sz : Nat} {x : Operand} {r : List (Nat × Operand)} {ps qs : List (Nat × SF)} {l cs cs' : List CF} (hp : pl[i]? = some (off, sz)) (hx : Opd x ps (.agg l)) (hl : Nat.beq l.length sz = true) (hk : Nat.ble (off + sz) cs.length = true)
      (hr : Parts P pl r qs (stCells cs off l) cs') : Parts P pl ((i, x) :: r) (ps ++ qs) cs cs'
  | one {i off : Nat} {x : Operand} {r : List (Nat × Operand)} {ps qs : List (Nat × SF)} {p : PV} {cs cs' : List CF} (hp : pl[i]? = some (off, 1)) (hx : Opd x ps (.pv p)) (h1 : ∀ v w yy, p.p v w yy → v.oneCell' = true) (hk : Nat.ble (off + 1) cs.length = true)
      (hr : Parts P pl r qs (stCells cs off [.pv p]) cs') : Parts P pl ((i, x) :: r) (ps ++ qs) cs cs'
  | same {i off j k : Nat} {r : List (Nat × Operand)} {qs : List (Nat × SF)} {cs cs' : List CF} (hp : pl[i]? = some (off, 1)) (hk : Nat.ble (off + 1) cs.length = true)
      (hr : Parts P pl r qs (stCells cs off [.same k]) cs') : Parts P pl ((i, .tmp j) :: r) ((j, .same k) :: qs) cs cs'

theorem foldl_set (us : List Value) : ∀ (vs : Array Value) (off k : Nat), off + k + us.length ≤ vs.size →
    ((us.zipIdx k).foldl (fun cs (x : Value × Nat) => cs.setIfInBounds (off + x.2) x.1) vs).toList = vs.toList.take (off + k) ++ us ++ vs.toList.drop (off + k + us.length) := by
  induction us with
  | nil => intro vs off k h; simp
  | cons u us ih =>
    intro vs off k h
    simp only [List.length_cons] at h
    rw [List.zipIdx_cons, List.foldl_cons, ih _ off (k + 1) (by simp; omega)]
    simp only [Array.toList_setIfInBounds]
    have hlt : off + k < vs.toList.length := by simp; omega
    have e1 : (vs.toList.set (off + k) u) = vs.toList.take (off + k) ++ u :: vs.toList.drop (off + k + 1) := by
      rw [List.set_eq_take_append_cons_drop, if_pos hlt]
    have hl : (vs.toList.take (off + k)).length = off + k := by simp; omega
    have e2 : (vs.toList.set (off + k) u).take (off + (k + 1)) = vs.toList.take (off + k) ++ [u] := by
      rw [e1, List.take_append, hl, List.take_of_length_le (l := vs.toList.take (off + k)) (by rw [hl]; omega)]
      rw [show off + (k + 1) - (off + k) = 1 by omega]; simp
    have e3 : (vs.toList.set (off + k) u).drop (off + (k + 1) + us.length) = vs.toList.drop (off + k + (us.length + 1)) := by
      rw [e1, List.drop_append, hl, List.drop_of_length_le (l := vs.toList.take (off + k)) (by rw [hl]; omega)]
      rw [show off + (k + 1) + us.length - (off + k) = us.length + 1 by omega]
      simp only [List.nil_append, List.drop_succ_cons, List.drop_drop]
      congr 1; omega
    rw [e2, e3]
    simp

theorem fill_run {pl : List (Nat × Nat)} {place : Nat → Option (Nat × Nat)} (hpl : ∀ i q, pl[i]? = some q → place i = some q) {a : Act} {w : World} {yy : Ys} : ∀ {r : List (Nat × Operand)} {ps : List (Nat × SF)} {cs cs' : List CF}, Parts P pl r ps cs cs' → Hps ps (Act.tau a) w yy → ∀ (vs : Array Value), CFs (Act.tau a) w yy cs vs.toList →
    ∃ us : Array Value, Instr.fill place vs (r.map fun x => (x.1, a.eval x.2)) = some us ∧ CFs (Act.tau a) w yy cs' us.toList := by
  have step : ∀ {off sz i : Nat} {v : Value} {l cs : List CF} {news : List Value} {vs : Array Value} {rest : List (Nat × Value)}, pl[i]? = some (off, sz) → v.cells = news.toArray → CFs (Act.tau a) w yy l news → l.length = sz → off + sz ≤ cs.length → CFs (Act.tau a) w yy cs vs.toList →
      ∃ vs' : Array Value, Instr.fill place vs ((i, v) :: rest) = Instr.fill place vs' rest ∧ CFs (Act.tau a) w yy (stCells cs off l) vs'.toList := by
    intro off sz i v l cs news vs rest hp hv hl hsz hk hc
    have e1 : news.length = sz := by rw [← hl.len]; exact hsz
    have e2 : off + sz ≤ vs.size := by have := hc.len; simp at this; omega
    refine ⟨(v.cells.zipIdx.foldl (fun cs (x : Value × Nat) => cs.setIfInBounds (off + x.2) x.1) vs), ?_, ?_⟩
    · simp only [Instr.fill, hpl _ _ hp, hv]
      simp [e1]
      intro hc; omega
    · rw [hv]
      have := foldl_set news vs off 0 (by omega)
      simp only [Nat.add_zero] at this
      have e3 : (news.toArray.zipIdx.foldl (fun cs (x : Value × Nat) => cs.setIfInBounds (off + x.2) x.1) vs).toList = vs.toList.take off ++ news ++ vs.toList.drop (off + news.length) := by
        rw [← this]; simp
      rw [e3]
      simp only [stCells, hl.len]
      exact ((hc.take off).append hl).append (hc.drop (off + news.length))
  have one_cells : ∀ {v : Value}, v.oneCell' = true → v.cells = [v].toArray := by
    intro v h
    cases v <;> first | rfl | simp [Value.oneCell'] at h
  intro r ps cs cs' hparts
  induction hparts with
  | nil => intro _ vs hc; exact ⟨vs, by simp [Instr.fill], hc⟩
  | @agg i off sz x r ps qs l cs cs' hp hx hl hk hr ih =>
    intro hps vs hc
    obtain ⟨news, e, hn⟩ := hx a w yy hps.left
    obtain ⟨vs', h1, h2⟩ := step (rest := r.map fun x => (x.1, a.eval x.2)) hp (v := a.eval x) (by rw [e]; rfl) hn (Nat.eq_of_beq_eq_true hl) (Nat.le_of_ble_eq_true hk) hc
    obtain ⟨us, h3, h4⟩ := ih hps.right vs' h2
    exact ⟨us, by rw [List.map_cons, h1, h3], h4⟩
  | @one i off x r ps qs p cs cs' hp hx h1 hk hr ih =>
    intro hps vs hc
    have hpx := hx a w yy hps.left
    have ho := h1 _ _ _ hpx
    obtain ⟨vs', h2, h3⟩ := step (rest := r.map fun x => (x.1, a.eval x.2)) hp (one_cells ho) (l := [.pv p]) ⟨⟨ho, hpx⟩, trivial⟩ rfl (Nat.le_of_ble_eq_true hk) hc
    obtain ⟨us, h4, h5⟩ := ih hps.right vs' h3
    exact ⟨us, by rw [List.map_cons, h2, h4], h5⟩
  | @same i off j k r qs cs cs' hp hk hr ih =>
    intro hps vs hc
    have hpx : (SF.same k).holds (Act.tau a) w yy (a.eval (.tmp j)) := hps (j, .same k) (by simp)
    have ho := hpx.2
    obtain ⟨vs', h2, h3⟩ := step (rest := r.map fun x => (x.1, a.eval x.2)) hp (one_cells ho) (l := [.same k]) ⟨⟨ho, hpx⟩, trivial⟩ rfl (Nat.le_of_ble_eq_true hk) hc
    obtain ⟨us, h4, h5⟩ := ih (fun x hx => hps x (by simp [hx])) vs' h3
    exact ⟨us, by rw [List.map_cons, h2, h4], h5⟩

def placeSem (f : Field) : Sem (Nat × Nat) := do pure (f.offset, ← sizeOf f.type)
theorem places_run {pl : List (Nat × Nat)} (h : P.places t = some pl) : ∃ fs : Array Field, P.underlying t = some (.struct fs) ∧ ∀ w, (fs.mapM placeSem).run P w = .ok pl.toArray w := by
  unfold Program.places at h
  split at h
  · rename_i fs hu
    refine ⟨fs, hu, fun w => ?_⟩
    rcases fs with ⟨fs⟩
    simp only [] at h
    rw [List.mapM_toArray]
    have : ∀ (fs : List Field) (pl : List (Nat × Nat)), (fs.mapM fun f => (P.info? f.type).map fun i => (f.offset, i.size)) = some pl → (fs.mapM placeSem).run P w = .ok pl w := by
      intro fs
      induction fs with
      | nil => intro pl h; simp at h; subst h; simp
      | cons f fs ih =>
        intro pl h
        simp only [List.mapM_cons] at h
        cases hi : P.info? f.type with
        | none => rw [hi] at h; simp at h
        | some i =>
          rw [hi] at h
          simp only [Option.map_some] at h
          cases hm : (fs.mapM fun f => (P.info? f.type).map fun i => (f.offset, i.size)) with
          | none => rw [hm] at h; simp at h
          | some ps =>
            rw [hm] at h
            simp at h
            subst h
            have e := run_sizeOf (P := P) (t := f.type) (n := i.size) (by rw [hi]; rfl) w
            simp only [List.mapM_cons, placeSem, Sem.run_bind, e, Result.andThen_ok, Sem.run_pure]
            rw [ih ps hm]; rfl
    have h2 := this fs pl h
    generalize (fs.mapM placeSem) = m at h2
    simp [h2]
  · cases h

/-- A struct is put together. -/
theorem o_build {pl : List (Nat × Nat)} {zs : List Value} {r : List (Nat × Operand)} {cs' : List CF} (hz : P.zeros t = some zs) (hpl : P.places t = some pl) (hparts : Parts P pl r ps (zs.map zCF) cs') (hd : depOk d (.agg cs') = true) :
    OpC P ⟨d, .build t r.toArray, ty, pos, af, g⟩ ⟨ps, [], .agg cs', []⟩ :=
  OpC.pure fun a w yy hp => by
    obtain ⟨z, h1, h2, h3⟩ := zeros_run hz
    obtain ⟨fs, hu, hfs⟩ := places_run hpl
    obtain ⟨us, h4, h5⟩ := fill_run (place := fun i => pl.toArray[i]?) (fun i q h => by simpa using h) hparts hp zs.toArray (by simpa using zCFs h2)
    refine ⟨.agg us, ?_, fun τ' ht => depOk_mono hd ht ⟨us.toList, by simp, h5⟩⟩
    have e : (r.toArray.map fun (x : Nat × Operand) => (x.1, a.eval x.2)) = (r.map fun x => (x.1, a.eval x.2)).toArray := by simp
    have h4' : Instr.fill (fun i => pl.toArray[i]?) zs.toArray (r.map fun x => (x.1, a.eval x.2)) = some us := h4
    have hfs' := hfs w
    unfold placeSem at hfs'
    simp only [execOp, Instr.build, e, Sem.run_bind, h3, Result.andThen_ok, h1, run_underlying hu, hfs', h4', Sem.run_pure]

/-- A slice written out: only read from here on. -/
theorem o_buildSlice {e sz n : Nat} {zs : List Value} {r : List (Nat × Operand)} {l : List PV} (hu : P.underlying t = some (.slice e)) (hsz : (P.info? e).map (·.size) = some sz) (hz : P.zeros e = some zs) (hn : Nat.ble (n * sz) 1000 = true) (h0 : Nat.blt 0 (n * sz) = true) (hzl : zs.length = sz)
    {zz : List CF} (hzz : ((List.range (n * sz)).map fun i => zCF (zs.getD (i % sz) undef)) = zz)
    (hparts : Parts P ((List.range n).map fun i => (i * sz, sz)) r ps zz (l.map CF.pv)) :
    OpC P ⟨d, .buildSlice t n r.toArray, ty, pos, af, g⟩ ⟨ps, [], .pv (.arr n l), []⟩ := fun a w F K Q hw hp hr ht => by
  obtain ⟨z, h1, h2, h3⟩ := zeros_run hz
  have hn' := Nat.le_of_ble_eq_true hn
  have h0' : 0 < n * sz := by simpa [Nat.blt_eq] using h0
  have hsz0 : 0 < sz := Nat.pos_of_mul_pos_left h0'
  have hzs0 : CFs (Act.tau a) w (U F) zz ((List.range (n * sz)).map fun i => zs.getD (i % sz) undef) := by
    rw [← hzz]
    have : ∀ is : List Nat, CFs (Act.tau a) w (U F) (is.map fun i => zCF (zs.getD (i % sz) undef)) (is.map fun i => zs.getD (i % sz) undef) := by
      intro is
      induction is with
      | nil => trivial
      | cons i is ih =>
        refine ⟨?_, ih⟩
        have hlt : i % sz < zs.length := by rw [hzl]; exact Nat.mod_lt _ hsz0
        have hg : zs.getD (i % sz) undef = zs[i % sz] := by simp [hlt]
        have hok : zOk zs[i % sz] = true := (List.all_eq_true.1 h2) _ (List.getElem_mem hlt)
        have := zCFs (τ := Act.tau a) (w := w) (y := U F) (vs := [zs[i % sz]]) (by simp [hok])
        show (zs.getD (i % sz) undef).oneCell' = true ∧ CF.holds (Act.tau a) w (U F) (zCF (zs.getD (i % sz) undef)) (zs.getD (i % sz) undef)
        rw [hg]
        exact this.1
    exact this _
  obtain ⟨us, h4, h5⟩ := fill_run (place := fun i => some (i * sz, sz)) (fun i q h => by
    rw [List.getElem?_map] at h
    cases hr : (List.range n)[i]? with
    | none => rw [hr] at h; simp at h
    | some j =>
      rw [hr] at h
      have := (List.getElem?_eq_some_iff.1 hr).2
      simp at this h
      rw [← h, ← this]) hparts hp (((List.range (n * sz)).map fun i => zs.getD (i % sz) undef).toArray) (by simpa using hzs0)
  have e1 : (r.toArray.map fun (x : Nat × Operand) => (x.1, a.eval x.2)) = (r.map fun x => (x.1, a.eval x.2)).toArray := by simp
  have e2 : ((Array.range (n * sz)).map fun x => z.cells[x % z.cells.size]!) = ((List.range (n * sz)).map fun i => zs.getD (i % sz) undef).toArray := by
    rw [h1]
    apply Array.ext
    · simp
    · intro i hi1 hi2
      have hlt : i % sz < zs.length := by rw [hzl]; exact Nat.mod_lt _ hsz0
      simp [hzl, List.getElem?_eq_getElem hlt]
  have hrun : (execOp a.eval ⟨d, .buildSlice t n r.toArray, ty, pos, af, g⟩).run P w = .ok (.value (.slice (some ⟨w.heap.size, 0, none⟩) n n)) (w.alloc (.cells us e)) := by
    have hbig : ¬ (n * sz > 2 ^ 24) := by omega
    have hne : ¬ (n * sz = 0) := by omega
    simp only [execOp, Instr.buildSlice, e1, Sem.run_bind, run_underlying hu, Result.andThen_ok, run_sizeOf hsz, if_neg hbig, if_neg hne, h3, Sem.run_pure, e2, h4, newRow, run_newObj_alloc]
  obtain ⟨g1, g2⟩ := new_block hw 0 (.cells us e)
  have hev : Ev w (U F) (w.alloc (.cells us e)) (U F) := ⟨rfl, rfl, rfl, by simp, fun b hb hy => ⟨heap_alloc_old w _ hb, hy⟩⟩
  have hst : Stp [] w F (w.alloc (.cells us e)) F := ⟨rfl, rfl, rfl, by simp, fun b hb _ => heap_alloc_old w _ hb, fun _ _ => rfl, fun _ h => by cases h⟩
  simp only [Oper.wp, hrun, Oper.upon]
  refine ht _ _ F ⟨hw.dis, fun n b hn => by have := hw.bd n b hn; simp; omega⟩ hst ⟨w.heap.size, us.toList, rfl, fun ⟨k, hk⟩ => Nat.lt_irrefl _ (hw.bd k _ hk), by simp, ?_, ?_⟩ (fun x hx => by cases hx)
  · refine cellsAt.mk fun j v hj => ?_
    rw [Nat.zero_add, cell_of_block (heap_alloc_new w _)]
    simpa using hj
  · have : ∀ {l : List PV} {vs : List Value} {τ : Tau} {w : World} {y : Ys}, CFs τ w y (l.map CF.pv) vs → PVs l vs w y := by
      intro l
      induction l with
      | nil => intro vs τ w y h; cases vs; trivial; exact h.elim
      | cons p l ih => intro vs τ w y h; cases vs with
        | nil => exact h.elim
        | cons v vs => exact ⟨h.1, ih h.2⟩
    exact PVs.mono hev (this h5)

/-- An empty slice, one's own. -/
theorem o_buildSlice0 {α : Type} {R : α → List PV} {e sz : Nat} {d' : Nat} (n : Nat) (hu : P.underlying t = some (.slice e)) (hsz : (P.info? e).map (·.size) = some sz) :
    OpC P ⟨some d', .buildSlice t 0 #[], ty, pos, af, g⟩ ⟨[], [], .same d', [(n, .ob (.slot d') (rowH e sz R ([] : List α)))]⟩ := fun a w F K Q hw hp hr ht => by
  have hrun : (execOp a.eval ⟨some d', .buildSlice t 0 #[], ty, pos, af, g⟩).run P w = .ok (.value (.slice (some ⟨w.heap.size, 0, none⟩) 0 0)) (w.alloc (.cells #[] e)) := by
    simp [execOp, Instr.buildSlice, run_underlying hu, run_sizeOf hsz, Instr.fill, newRow]
    congr 2
    exact Array.eq_empty_of_size_eq_zero (by simp)
  obtain ⟨g1, g2⟩ := new_block hw n (.cells #[] e)
  simp only [Oper.wp, hrun, Oper.upon]
  refine ht _ _ _ g1 g2 ⟨by simp [upd], rfl⟩ ?_
  intro x hx
  simp only [List.mem_singleton] at hx
  subst hx
  refine ⟨[], ?_, trivial, fun b => by simp [Anc.v, upd, Value.ownBlock]; omega⟩
  have := World.ownsRow_made (base := 0) (e := e) (size := sz) w #[] 0 (Nat.zero_le _) (Nat.zero_le _) (by simp)
  simpa [Anc.v, upd] using this
end
end Go.Gm
