/- What each operation does to memory that is owned, or only read; calls; a function's beginning and its end. No condition. -/
import Derived.Test.YtfldilhddeabeaaDoorLibD
namespace Go.Gm
set_option linter.unusedVariables false
set_option linter.unusedSimpArgs false

theorem CFs.len {τ w y} : ∀ {cs : List CF} {vs : List Value}, CFs τ w y cs vs → cs.length = vs.length
  | [], [], _ => rfl
  | c :: cs, v :: vs, h => by simp [CFs.len h.2]
  | [], _ :: _, h => h.elim
  | _ :: _, [], h => h.elim
theorem CFs.get {τ w y} : ∀ {cs : List CF} {vs : List Value}, CFs τ w y cs vs → ∀ (i : Nat) (c : CF), cs[i]? = some c → ∃ v, vs[i]? = some v ∧ c.holds τ w y v
  | [], [], _, i, c, h => by simp at h
  | c :: cs, v :: vs, h, 0, c', hi => by simp at hi; subst hi; exact ⟨v, rfl, h.1.2⟩
  | c :: cs, v :: vs, h, i + 1, c', hi => by
    obtain ⟨u, h1, h2⟩ := CFs.get h.2 i c' (by simpa using hi)
    exact ⟨u, by simpa using h1, h2⟩
  | [], _ :: _, h, _, _, _ => h.elim
  | _ :: _, [], h, _, _, _ => h.elim
theorem CFs.drop {τ w y} : ∀ {cs : List CF} {vs : List Value} (k : Nat), CFs τ w y cs vs → CFs τ w y (cs.drop k) (vs.drop k)
  | cs, vs, 0, h => h
  | [], [], k + 1, h => trivial
  | c :: cs, v :: vs, k + 1, h => by simpa using CFs.drop k h.2
  | [], _ :: _, _ + 1, h => h.elim
  | _ :: _, [], _ + 1, h => h.elim
theorem CFs.take {τ w y} : ∀ {cs : List CF} {vs : List Value} (k : Nat), CFs τ w y cs vs → CFs τ w y (cs.take k) (vs.take k)
  | cs, vs, 0, h => by simp [CFs]
  | [], [], k + 1, h => trivial
  | c :: cs, v :: vs, k + 1, h => ⟨h.1, CFs.take k h.2⟩
  | [], _ :: _, _ + 1, h => h.elim
  | _ :: _, [], _ + 1, h => h.elim
theorem CFs.append {τ w y} : ∀ {cs ds : List CF} {vs us : List Value}, CFs τ w y cs vs → CFs τ w y ds us → CFs τ w y (cs ++ ds) (vs ++ us)
  | [], _, [], _, _, k => k
  | c :: cs, _, v :: vs, _, h, k => ⟨h.1, CFs.append h.2 k⟩
  | [], _, _ :: _, _, h, _ => h.elim
  | _ :: _, _, [], _, h, _ => h.elim
theorem CFs.one {τ w y} : ∀ {cs : List CF} {vs : List Value}, CFs τ w y cs vs → ∀ v ∈ vs, v.oneCell' = true
  | [], [], _, v, hv => by cases hv
  | c :: cs, v :: vs, h, u, hu => by
    rcases List.mem_cons.1 hu with rfl | hu
    · exact h.1.1
    · exact CFs.one h.2 u hu
  | [], _ :: _, h, _, _ => h.elim
  | _ :: _, [], h, _, _ => h.elim
theorem CFs.of_pvs {τ w y} : ∀ {ps : List PV} {vs : List Value}, PVs ps vs w y → CFs τ w y (ps.map CF.pv) vs
  | [], [], _ => trivial
  | p :: ps, v :: vs, h => ⟨h.1, CFs.of_pvs h.2⟩
  | [], _ :: _, h => h.elim
  | _ :: _, [], h => h.elim

def _root_.Go.Program.aggB (P : Program) (t : TypeId) : Option Bool := match P.underlying t with
  | some (.struct _) | some (.array _ _) => some true
  | some _ => some false
  | none => none
theorem run_isAgg {P : Program} {t : TypeId} {b : Bool} (h : P.aggB t = some b) (w : World) : (isAgg t).run P w = .ok b w := by
  unfold Program.aggB at h
  cases hu : P.underlying t with
  | none => rw [hu] at h; cases h
  | some u =>
    rw [hu] at h
    unfold isAgg
    simp only [Sem.run_bind, run_underlying hu, Result.andThen_ok]
    cases u <;> simp at h <;> subst h <;> rfl

theorem run_sizeOf {P : Program} {t : TypeId} {n : Nat} (h : (P.info? t).map (·.size) = some n) (w : World) : (sizeOf t).run P w = .ok n w := by
  cases hi : P.info? t with
  | none => rw [hi] at h; cases h
  | some i => rw [hi] at h; simp at h; subst h; simp [sizeOf, typeInfo, hi]

/-- A cell's fact as a slot's. -/
def CF.toSF : CF → SF
  | .pv p => .pv p
  | .same i => .agg [.same i]
def ldSF (agg : Bool) (sz : Nat) (cells : List CF) (k : Nat) : SF := match agg with
  | true => .agg ((cells.drop k).take sz)
  | false => match cells[k]? with
    | some (.pv p) => .pv p
    | _ => .pv .any

def wid (ag : Bool) (sz : Nat) : Nat := match ag with | true => sz | false => 1

theorem cell_of_block {w : World} {b : Nat} {vs : Array Value} {T : TypeId} {fr : Nat × Nat} (h : w.heap[b]? = some (.cells vs T fr)) (j : Nat) : w.cell? ⟨b, j, none⟩ = vs[j]? := by
  simp [World.cell?, h]

theorem run_load {P : Program} {τ : Tau} {w : World} {y : Ys} {b k sz : Nat} {t T : TypeId} {ag : Bool} {vs : Array Value} {fr : Nat × Nat} {cells : List CF}
    (ha : P.aggB t = some ag) (hs : (P.info? t).map (·.size) = some sz) (hb : w.heap[b]? = some (.cells vs T fr)) (hc : CFs τ w y cells vs.toList)
    (hk : Nat.ble (k + wid ag sz) cells.length = true) :
    ∃ v, (loadVar t ⟨b, k, none⟩).run P w = .ok v w ∧ (ldSF ag sz cells k).holds τ w y v := by
  have hl := hc.len
  simp only [Array.length_toList] at hl
  have hk' : k + wid ag sz ≤ vs.size := by rw [← hl]; exact Nat.le_of_ble_eq_true hk
  cases ag with
  | true =>
    simp only [wid] at hk'
    have h1 := run_loadCells_list (P := P) w ⟨b, k, none⟩ ((vs.toList.drop k).take sz) (by
      intro j v hj
      rw [add_lit, cell_of_block hb]
      rw [List.getElem?_take] at hj
      split at hj
      · simpa using hj
      · cases hj)
    have h2 : ((vs.toList.drop k).take sz).length = sz := by simp; omega
    rw [h2] at h1
    refine ⟨.agg ((vs.toList.drop k).take sz).toArray, ?_, _, rfl, (hc.drop k).take sz⟩
    simp [loadVar, run_isAgg ha, run_sizeOf hs, h1]
  | false =>
    simp only [wid] at hk'
    have hlt : k < vs.size := by omega
    refine ⟨vs[k], ?_, ?_⟩
    · have hcell : w.cell? ⟨b, k, none⟩ = some vs[k] := by rw [cell_of_block hb]; simp [hlt]
      simp [loadVar, run_isAgg ha, load, Sem.run, hcell]
    · have hkc : k < cells.length := by omega
      obtain ⟨v, h1, h2⟩ := hc.get k cells[k] (by simp [hkc])
      have : v = vs[k] := by simpa [hlt] using h1.symm
      subst this
      simp only [ldSF, List.getElem?_eq_getElem hkc]
      cases e : cells[k] with
      | pv p => rw [e] at h2; exact h2
      | same i => trivial

section
variable {P : Program} {d : Option Nat} {ty : TypeId} {pos : String} {af : Array Edge} {g : Option (Nat × Bool)}
variable {x y : Operand} {ps qs : List (Nat × SF)} {t T : TypeId} {a : Anc} {k : Nat} {cells : List CF} {n : Nat}

/-- The resource's block, and what it holds. -/
theorem pt_open {τ : Tau} {w : World} {f yy : Ys} (h : (RS.pt a T cells).holds τ w f yy) :
    ∃ b vs, a.v τ = .pointer (some ⟨b, 0, none⟩) ∧ w.heap[b]? = some (.cells vs T (0, 0)) ∧ (∀ x, f x ↔ x = b) ∧ CFs τ w yy cells vs.toList := h

/-- What x holds is the address of a block's cell. -/
def AdrOk (x : Operand) (ps : List (Nat × SF)) (a : Anc) (k : Nat) : Prop := ∀ (act : Act) w y, Hps ps (Act.tau act) w y → ∀ b, a.v (Act.tau act) = .pointer (some ⟨b, 0, none⟩) → act.eval x = .pointer (some ⟨b, k, none⟩)
theorem AdrOk.adr {i : Nat} {a : Anc} {k : Nat} : AdrOk (.tmp i) [(i, .adr a k)] a k := fun act w y h b e => by
  have : act.eval (.tmp i) = shift k (a.v (Act.tau act)) := h (i, .adr a k) (by simp)
  rw [this, e]; simp [shift]
theorem AdrOk.same {i j : Nat} : AdrOk (.tmp i) [(i, .same j)] (.slot j) 0 := fun act w y h b e => by
  have : act.eval (.tmp i) = Act.tau act j := (h (i, .same j) (by simp)).1
  rw [this]; exact e
theorem AdrOk.is {i : Nat} {v : Value} : AdrOk (.tmp i) [(i, .pv (.is v))] (.val v) 0 := fun act w y h b e => by
  have : act.eval (.tmp i) = v := (h (i, .pv (.is v)) (by simp)).1
  rw [this]; exact e
theorem AdrOk.w {c : Prop} {i : Nat} {s : SF} {a : Anc} {k : Nat} (hc : c) (h : AdrOk (.tmp i) [(i, s)] a k) : AdrOk (.tmp i) [(i, .when c s)] a k := fun act w y hp =>
  h act w y (fun x hx => by simp only [List.mem_singleton] at hx; subst hx; exact (hp (i, .when c s) (by simp)).1 hc)

theorem o_load {ag : Bool} {sz : Nat} (n : Nat) (hx : AdrOk x ps a k) (ha : P.aggB t = some ag) (hs : (P.info? t).map (·.size) = some sz)
    (hk : Nat.ble (k + wid ag sz) cells.length = true) (hd : depOk d (ldSF ag sz cells k) = true) :
    OpC P ⟨d, .load t x, ty, pos, af, g⟩ ⟨ps, [(n, .pt a T cells)], ldSF ag sz cells k, []⟩ :=
  OpC.read fun act w F hp hr => by
    obtain ⟨b, vs, e, hb, hf, hc⟩ := pt_open (hr (n, .pt a T cells) (by simp))
    have ex : act.eval x = .pointer (some ⟨b, k, none⟩) := hx act w (U F) hp b e
    obtain ⟨v, h1, h2⟩ := run_load (P := P) ha hs hb hc hk
    refine ⟨v, ?_, fun τ' ht => depOk_mono hd ht h2⟩
    simp [execOp, ex, Instr.loadAt, Instr.sureAddr, h1]

theorem o_nilCheck (n : Nat) (hx : AdrOk x ps a k) (hd : depOk d (.adr a k) = true) :
    OpC P ⟨d, .nilCheck x, ty, pos, af, g⟩ ⟨ps, [(n, .pt a T cells)], .adr a k, []⟩ :=
  OpC.read fun act w F hp hr => by
    obtain ⟨b, vs, e, hb, hf, hc⟩ := pt_open (hr (n, .pt a T cells) (by simp))
    have ex : act.eval x = .pointer (some ⟨b, k, none⟩) := hx act w (U F) hp b e
    have h0 : (SF.adr a k).holds (Act.tau act) w (U F) (.pointer (some ⟨b, k, none⟩)) := by simp [SF.holds, e, shift]
    refine ⟨.pointer (some ⟨b, k, none⟩), ?_, fun τ' ht => depOk_mono hd ht h0⟩
    simp [execOp, ex]

def _root_.Go.Program.fieldOff (P : Program) (s : TypeId) (f : Nat) : Option Nat := match P.underlying s with
  | some (.struct fs) => match fs[f]? with
    | some fd => match P.info? fd.type with
      | some i => if i.size = 0 then none else some fd.offset
      | none => none
    | none => none
  | _ => none
theorem run_fieldAt {P : Program} {s : TypeId} {f off : Nat} (h : P.fieldOff s f = some off) (b k : Nat) (w : World) :
    (Instr.fieldAt s (.pointer (some ⟨b, k, none⟩)) f).run P w = .ok (.pointer (some ⟨b, k + off, none⟩)) w := by
  unfold Program.fieldOff at h
  split at h
  · rename_i fs hu
    split at h
    · rename_i fd hf
      split at h
      · rename_i i hi
        split at h
        · cases h
        · rename_i hz
          simp at h
          subst h
          simp [Instr.fieldAt, run_underlying hu, hf, Instr.sureAddr, fieldPlace, sizeOf, typeInfo, hi, hz, add_lit]
      · cases h
    · cases h
  · cases h

theorem o_fieldAddr {s : TypeId} {f off : Nat} (n : Nat) (hx : AdrOk x ps a k) (ho : P.fieldOff s f = some off) (hd : depOk d (.adr a (k + off)) = true) :
    OpC P ⟨d, .fieldAddr s x f, ty, pos, af, g⟩ ⟨ps, [(n, .pt a T cells)], .adr a (k + off), []⟩ :=
  OpC.read fun act w F hp hr => by
    obtain ⟨b, vs, e, hb, hf, hc⟩ := pt_open (hr (n, .pt a T cells) (by simp))
    have ex : act.eval x = .pointer (some ⟨b, k, none⟩) := hx act w (U F) hp b e
    refine ⟨.pointer (some ⟨b, k + off, none⟩), by simp [execOp, ex, run_fieldAt ho], fun τ' ht => depOk_mono hd ht ?_⟩
    simp [SF.holds, e, shift]

/-- A new block. -/
theorem new_block {w : World} {F : Fp} (hw : Wf F w) (n : Nat) (o : Obj) :
    Wf (fun m => if m = n then fun b => b = w.heap.size else F m) (w.alloc o) ∧ Stp [n] w F (w.alloc o) (fun m => if m = n then fun b => b = w.heap.size else F m) := by
  have hs : (w.alloc o).heap.size = w.heap.size + 1 := by simp
  refine ⟨⟨fun i j b hi hj => ?_, fun i b hi => ?_⟩, ⟨rfl, rfl, rfl, by rw [hs]; omega, fun b hb _ => heap_alloc_old w o hb, fun m hm => ?_, fun m hm b hb => ?_⟩⟩
  · by_cases e1 : i = n <;> by_cases e2 : j = n <;> simp [e1, e2] at hi hj
    · rw [e1, e2]
    · subst hi; have := hw.bd j _ hj; omega
    · subst hj; have := hw.bd i _ hi; omega
    · exact hw.dis i j b hi hj
  · rw [hs]
    by_cases e1 : i = n <;> simp [e1] at hi
    · omega
    · have := hw.bd i b hi; omega
  · simp at hm; simp [hm]
  · simp at hm; subst hm; simp at hb; right; omega

/-- 'v' is laid into a new block. -/
theorem o_new {o : Oper} {d' : Nat} {ps : List (Nat × SF)} {cells : List CF} (n : Nat) (hdst : o.dst = some d')
    (h : ∀ (a : Act) w y, Hps ps (Act.tau a) w y → ∃ vs : List Value, CFs (Act.tau a) w y cells vs ∧
      (execOp a.eval o).run P w = .ok (.value (.pointer (some ⟨w.heap.size, 0, none⟩))) (w.alloc (.cells vs.toArray T (0, 0)))) (hd : (cdeps cells).contains d' = false) :
    OpC P o ⟨ps, [], .same d', [(n, .pt (.slot d') T cells)]⟩ := fun act w F K Q hw hs hr ht => by
  obtain ⟨vs, hc, hrun⟩ := h act w (U F) hs
  obtain ⟨h1, h2⟩ := new_block hw n (.cells vs.toArray T (0, 0))
  simp only [Oper.wp, hrun, Oper.upon]
  have hτ : upd (Act.tau act) o.dst (.pointer (some ⟨w.heap.size, 0, none⟩)) d' = .pointer (some ⟨w.heap.size, 0, none⟩) := by simp [upd, hdst]
  refine ht _ _ _ h1 h2 ?_ ?_
  · exact ⟨hτ.symm, rfl⟩
  · intro x hx
    simp only [List.mem_singleton] at hx
    subst hx
    refine ⟨w.heap.size, vs.toArray, hτ, heap_alloc_new w _, fun x => by simp, ?_⟩
    refine CFs.mono h2.ev (fun i hi => ?_) hc
    have : i ≠ d' := fun e => by subst e; simp [hi] at hd
    simp [upd, hdst, Ne.symm this]

/-- What zero cells are. -/
def zCF : Value → CF
  | .int k n => .pv (.int k n)
  | .bool b => .pv (.bool b)
  | .string s => .pv (.str s)
  | v => .pv (.is v)
def zOk : Value → Bool
  | .int k n => decide (k.min ≤ n) && decide (n ≤ k.max)
  | .string s => Nat.ble s.size maxLen
  | .agg _ => false
  | .tuple _ => false
  | _ => true
def _root_.Go.Program.zeros (P : Program) (t : TypeId) : Option (List Value) := match P.info? t with
  | some i => match i.zero with
    | some z => if z.cells.toList.all zOk then some z.cells.toList else none
    | none => none
  | none => none
theorem zCFs {τ w y} : ∀ {vs : List Value}, vs.all zOk = true → CFs τ w y (vs.map zCF) vs
  | [], _ => trivial
  | v :: vs, h => by
    simp only [List.all_cons, Bool.and_eq_true] at h
    refine ⟨?_, zCFs h.2⟩
    cases v <;> first | exact ⟨rfl, rfl⟩ | exact ⟨rfl, rfl, rfl⟩ | (have := h.1; simp [zOk] at this; exact ⟨rfl, rfl, this⟩) | (have := h.1; simp [zOk] at this)
theorem zeros_run {t : TypeId} {zs : List Value} (h : P.zeros t = some zs) : ∃ z : Value, z.cells = zs.toArray ∧ zs.all zOk = true ∧ ∀ w, (zeroValue t).run P w = .ok z w := by
  unfold Program.zeros at h
  cases hi : P.info? t with
  | none => rw [hi] at h; cases h
  | some i =>
    rw [hi] at h
    simp only [] at h
    cases hz : i.zero with
    | none => rw [hz] at h; cases h
    | some z =>
      rw [hz] at h
      simp only [] at h
      split at h
      · rename_i hok
        simp at h
        subst h
        exact ⟨z, by simp, hok, fun w => by simp [zeroValue, typeInfo, hi, hz]⟩
      · cases h

theorem o_alloc {d' : Nat} {zs : List Value} (n : Nat) (hz : P.zeros t = some zs) :
    OpC P ⟨some d', .alloc t, ty, pos, af, g⟩ ⟨[], [], .same d', [(n, .pt (.slot d') t (zs.map zCF))]⟩ := by
  obtain ⟨z, h1, h2, h3⟩ := zeros_run hz
  refine o_new n rfl (fun a w y _ => ⟨zs, zCFs h2, ?_⟩) ?_
  · simp [execOp, Instr.alloc, h3, newVar, newRow, h1]
  · have : ∀ vs : List Value, cdeps (vs.map zCF) = [] := by
      intro vs
      induction vs with
      | nil => rfl
      | cons v vs ih => simp only [List.map_cons, cdeps, ih, List.append_nil]; cases v <;> rfl
    rw [this]; rfl

/-- The cells of a slot's value. -/
theorem o_boxA {d' : Nat} (n : Nat) (hx : Opd x ps (.agg cells)) (hd : (cdeps cells).contains d' = false) :
    OpC P ⟨some d', .box t x, ty, pos, af, g⟩ ⟨ps, [], .same d', [(n, .pt (.slot d') t cells)]⟩ :=
  o_new n rfl (fun a w y hp => by
    obtain ⟨vs, e, hc⟩ := hx a w y hp
    exact ⟨vs, hc, by simp [execOp, Instr.box, e, newVar, newRow, Value.cells]⟩) hd
theorem Ent.agg {l : List PV} : Ent (.pv (.agg l)) (.agg (l.map CF.pv)) := fun τ w y v ⟨vs, e, h⟩ => ⟨vs, e, CFs.of_pvs h⟩
theorem PVs.of_cfs {w y} {τ : Tau} : ∀ {ps : List PV} {vs : List Value}, CFs τ w y (ps.map CF.pv) vs → PVs ps vs w y
  | [], [], _ => trivial
  | p :: ps, v :: vs, h => ⟨h.1, PVs.of_cfs h.2⟩
  | [], _ :: _, h => h.elim
  | _ :: _, [], h => h.elim
theorem Opd.pagg {l : List PV} (h : Opd x ps (.agg (l.map CF.pv))) : Opd x ps (.pv (.agg l)) := fun a w y hp => by
  obtain ⟨vs, e, k⟩ := h a w y hp
  exact ⟨vs, e, PVs.of_cfs k⟩
theorem Ent.pagg {l : List PV} : Ent (.agg (l.map CF.pv)) (.pv (.agg l)) := fun τ w y v ⟨vs, e, k⟩ => ⟨vs, e, PVs.of_cfs k⟩
theorem CFt.of_pvt {τ w y} : ∀ {ps : List PV} {vs : List Value}, PVt ps vs w y → CFt τ w y (ps.map CF.pv) vs
  | [], [], _ => trivial
  | p :: ps, v :: vs, h => ⟨h.1, CFt.of_pvt h.2⟩
  | [], _ :: _, h => h.elim
  | _ :: _, [], h => h.elim
theorem Ent.tup {l : List PV} : Ent (.pv (.tup l)) (.tup (l.map CF.pv)) := fun τ w y v ⟨vs, e, h⟩ => ⟨vs, e, CFt.of_pvt h⟩
/-- A store into a block that is owned. -/
def stCells (cells : List CF) (k : Nat) (new : List CF) : List CF := cells.take k ++ new ++ cells.drop (k + new.length)

/-- A store into a block of one's own: its world. -/
theorem set_block {w : World} {F : Fp} (hw : Wf F w) {n b : Nat} {vs : Array Value} {T : TypeId} (hb : w.heap[b]? = some (.cells vs T (0, 0))) (hf : ∀ x, F n x ↔ x = b) (us : Array Value) :
    Wf F (w.setRow b us) ∧ Stp [n] w F (w.setRow b us) F :=
  ⟨⟨hw.dis, fun i c hc => by rw [setRow_size]; exact hw.bd i c hc⟩, rfl, rfl, rfl, by rw [setRow_size]; exact Nat.le_refl _,
    fun c _ hc => setRow_other w b c us (fun e => hc n (by simp) ((hf c).2 e)), fun _ _ => rfl, fun m hm c hc => .inl ⟨m, hm, hc⟩⟩

theorem o_storeG {cs new : List CF} {sz : Nat} (n : Nat) (hx : AdrOk x ps a k)
    (hy : ∀ (act : Act) w yy, Hps qs (Act.tau act) w yy → ∃ us : List Value, (act.eval y).cells = us.toArray ∧ CFs (Act.tau act) w yy new us)
    (hs : (P.info? t).map (·.size) = some sz) (hl : new.length = sz) (hk : Nat.ble (k + sz) cells.length = true) :
    OpC P ⟨none, .store t x y, ty, pos, af, g⟩ ⟨ps ++ qs, [(n, .pt a T cells)], .pv .any, [(n, .pt a T (stCells cells k new))]⟩ := fun act w F K Q hw hp hr ht => by
  obtain ⟨b, vs, e, hb, hf, hc⟩ := pt_open (hr (n, .pt a T cells) (by simp))
  have ex : act.eval x = .pointer (some ⟨b, k, none⟩) := hx act w (U F) hp.left b e
  obtain ⟨us, eu, hu⟩ := hy act w (U F) hp.right
  have hul : us.length = sz := by rw [← hu.len]; exact hl
  have hcl := hc.len
  have hk' : k + sz ≤ vs.size := by have := Nat.le_of_ble_eq_true hk; simp at hcl; omega
  have hst := run_storeCells_at P b k T us 0 vs w hb (by omega) hu.one
  have hrun : (execOp act.eval ⟨none, .store t x y, ty, pos, af, g⟩).run P w = .ok .skip (w.setRow b (vs.toList.take k ++ us ++ vs.toList.drop (k + us.length)).toArray) := by
    simp [execOp, ex, Instr.storeAt, Instr.sureAddr, storeVar, run_sizeOf hs, eu, hul, hst]
  obtain ⟨h1, h2⟩ := set_block hw hb hf (vs.toList.take k ++ us ++ vs.toList.drop (k + us.length)).toArray
  simp only [Oper.wp, hrun, Oper.upon]
  refine ht undef _ F h1 h2 trivial ?_
  intro z hz
  simp only [List.mem_singleton] at hz
  subst hz
  have eτ : upd (Act.tau act) none undef = Act.tau act := by funext i; simp [upd]
  show RS.holds (upd (Act.tau act) none undef) _ _ _ _
  rw [eτ]
  refine ⟨b, _, e, setRow_heap w b vs _ T (0, 0) hb, hf, ?_⟩
  have hlen : new.length = us.length := hu.len
  simp only [stCells, hlen]
  refine CFs.mono h2.ev (fun _ _ => rfl) ?_
  exact ((hc.take k).append hu).append (hc.drop (k + us.length))

theorem o_storeA {new : List CF} {sz : Nat} (n : Nat) (hx : AdrOk x ps a k) (hy : Opd y qs (.agg new))
    (hs : (P.info? t).map (·.size) = some sz) (hl : Nat.beq new.length sz = true) (hk : Nat.ble (k + sz) cells.length = true) :
    OpC P ⟨none, .store t x y, ty, pos, af, g⟩ ⟨ps ++ qs, [(n, .pt a T cells)], .pv .any, [(n, .pt a T (stCells cells k new))]⟩ :=
  o_storeG (cs := new) n hx (fun act w yy h => by
    obtain ⟨us, e, hc⟩ := hy act w yy h
    exact ⟨us, by rw [e]; rfl, hc⟩) hs (Nat.eq_of_beq_eq_true hl) hk
theorem o_store1 {p : PV} (n : Nat) (hx : AdrOk x ps a k) (hy : Opd y qs (.pv p)) (h1 : ∀ v w yy, p.p v w yy → v.oneCell' = true)
    (hs : (P.info? t).map (·.size) = some 1) (hk : Nat.ble (k + 1) cells.length = true) :
    OpC P ⟨none, .store t x y, ty, pos, af, g⟩ ⟨ps ++ qs, [(n, .pt a T cells)], .pv .any, [(n, .pt a T (stCells cells k [.pv p]))]⟩ :=
  o_storeG (cs := []) n hx (fun act w yy h => by
    have hp := hy act w yy h
    have h1' := h1 _ _ _ hp
    refine ⟨[act.eval y], ?_, ⟨h1', hp⟩, trivial⟩
    cases e : act.eval y <;> rw [e] at h1' <;> first | rfl | simp [Value.oneCell'] at h1') hs rfl hk
theorem one_int {k : IntKind} {n : Int} : ∀ v w yy, (PV.int k n).p v w yy → v.oneCell' = true := fun v _ _ h => by rw [h.1]; rfl
theorem one_bool {b : Bool} : ∀ v w yy, (PV.bool b).p v w yy → v.oneCell' = true := fun v _ _ h => by rw [show v = _ from h]; rfl
theorem one_str {s : ByteArray} : ∀ v w yy, (PV.str s).p v w yy → v.oneCell' = true := fun v _ _ h => by rw [h.1]; rfl
theorem one_is {u : Value} : ∀ v w yy, (PV.is u).p v w yy → v.oneCell' = true := fun v _ _ e => e.2
/-- A handle is stored. -/
theorem o_storeS {j : Nat} (n : Nat) (hx : AdrOk x ps a k) {i : Nat}
    (hs : (P.info? t).map (·.size) = some 1) (hk : Nat.ble (k + 1) cells.length = true) :
    OpC P ⟨none, .store t x (.tmp i), ty, pos, af, g⟩ ⟨ps ++ [(i, .same j)], [(n, .pt a T cells)], .pv .any, [(n, .pt a T (stCells cells k [.same j]))]⟩ :=
  o_storeG (cs := []) n hx (fun act w yy h => by
    have hp := h (i, .same j) (by simp)
    have h1' : (act.eval (.tmp i)).oneCell' = true := hp.2
    refine ⟨[act.eval (.tmp i)], ?_, ⟨h1', hp⟩, trivial⟩
    cases e : act.eval (.tmp i) <;> rw [e] at h1' <;> first | rfl | simp [Value.oneCell'] at h1') hs rfl hk
theorem one_sl {α : Type} {R : α → List PV} {l : List α} : ∀ v w yy, (PV.sl R l).p v w yy → v.oneCell' = true := fun v _ _ ⟨_, _, e, _⟩ => by rw [e]; rfl
end
end Go.Gm
