/- Slices that are only read, and rows that are owned. No condition. -/
import Derived.Test.YtfldilhddeabeaaDoorLibH
namespace Go.Gm
set_option linter.unusedVariables false
set_option linter.unusedSimpArgs false

/-- A pointer to cells that are only read. -/
def PV.ref (l : List PV) : PV :=
  ⟨fun u w y => ∃ b off vs, u = .pointer (some ⟨b, off, none⟩) ∧ ¬ y b ∧ b < w.heap.size ∧ cellsAt w b off vs ∧ PVs l vs w y,
    fun {v w y w' y'} h ⟨b, off, vs, e, hy, hb, hc, hp⟩ => ⟨b, off, vs, e, (h.block b hb hy).2, Nat.lt_of_lt_of_le hb h.size, cellsAt.block (h.block b hb hy).1 hc, PVs.mono h hp⟩⟩

/-- n elements whose cells, all together, are told. -/
def PV.arr (n : Nat) (l : List PV) : PV :=
  ⟨fun u w y => ∃ b vs, u = .slice (some ⟨b, 0, none⟩) n n ∧ ¬ y b ∧ b < w.heap.size ∧ cellsAt w b 0 vs ∧ PVs l vs w y,
    fun {v w y w' y'} h ⟨b, vs, e, hy, hb, hc, hp⟩ => ⟨b, vs, e, (h.block b hb hy).2, Nat.lt_of_lt_of_le hb h.size, cellsAt.block (h.block b hb hy).1 hc, PVs.mono h hp⟩⟩

def nth {α : Type} [Inhabited α] (l : List α) (i : Nat) : α := l.getD i default
theorem nth_eq {α : Type} [Inhabited α] {l : List α} {i : Nat} (h : i < l.length) : nth l i = l[i] := by simp [nth, h]

theorem PVs.pick {α : Type} [Inhabited α] {R : α → List PV} {sz : Nat} (hR : ∀ x, (R x).length = sz) {w y} : ∀ {l : List α} {vs : List Value} (i : Nat), i < l.length → PVs (l.flatMap R) vs w y → PVs (R (nth l i)) ((vs.drop (i * sz)).take sz) w y
  | [], vs, i, h, _ => by simp at h
  | x :: l, vs, 0, h, hp => by
    simp only [List.flatMap_cons] at hp
    obtain ⟨us, zs, rfl, h1, h2⟩ := PVs.split hp
    have e : us.length = sz := by rw [← h1.len, hR]
    simp [nth, ← e]; exact h1
  | x :: l, vs, i + 1, h, hp => by
    simp only [List.flatMap_cons] at hp
    obtain ⟨us, zs, rfl, h1, h2⟩ := PVs.split hp
    have e : us.length = sz := by rw [← h1.len, hR]
    have := PVs.pick hR i (by simpa using h) h2
    rw [show (i + 1) * sz = us.length + i * sz by rw [e, Nat.add_mul]; omega, ← List.drop_drop, List.drop_left]
    simpa [nth] using this

theorem fm_len {α : Type} {R : α → List PV} {sz : Nat} (hR : ∀ x, (R x).length = sz) (l : List α) : (l.flatMap R).length = l.length * sz := by
  induction l with
  | nil => simp
  | cons x l ih => simp [List.flatMap_cons, ih, hR, Nat.add_mul]; omega
theorem fm_take {α : Type} {R : α → List PV} {sz : Nat} (hR : ∀ x, (R x).length = sz) : ∀ (n : Nat) (l : List α), (l.take n).flatMap R = (l.flatMap R).take (n * sz) := by
  intro n
  induction n with
  | zero => intro l; simp
  | succ n ih =>
    intro l
    cases l with
    | nil => simp
    | cons x l =>
      simp only [List.take_succ_cons, List.flatMap_cons, ih, List.take_append, hR, Nat.add_mul, Nat.one_mul, Nat.add_sub_cancel]
      rw [List.take_of_length_le (l := R x) (by rw [hR]; omega)]
theorem fm_drop {α : Type} {R : α → List PV} {sz : Nat} (hR : ∀ x, (R x).length = sz) : ∀ (n : Nat) (l : List α), (l.drop n).flatMap R = (l.flatMap R).drop (n * sz) := by
  intro n
  induction n with
  | zero => intro l; simp
  | succ n ih =>
    intro l
    cases l with
    | nil => simp
    | cons x l =>
      simp only [List.drop_succ_cons, List.flatMap_cons, ih, List.drop_append, hR, Nat.add_mul, Nat.one_mul, Nat.add_sub_cancel]
      rw [List.drop_of_length_le (l := R x) (by rw [hR]; omega)]
      simp

theorem PVs.cfs {w y} {τ : Tau} {ps : List PV} {vs : List Value} (h : PVs ps vs w y) : CFs τ w y (ps.map CF.pv) vs := CFs.of_pvs h
theorem PVs.take {w y} : ∀ {ps : List PV} {vs : List Value} (k : Nat), PVs ps vs w y → PVs (ps.take k) (vs.take k) w y
  | ps, vs, 0, h => by simp [PVs]
  | [], [], k + 1, h => trivial
  | p :: ps, v :: vs, k + 1, h => ⟨h.1, PVs.take k h.2⟩
  | [], _ :: _, _ + 1, h => h.elim
  | _ :: _, [], _ + 1, h => h.elim
theorem PVs.drop {w y} : ∀ {ps : List PV} {vs : List Value} (k : Nat), PVs ps vs w y → PVs (ps.drop k) (vs.drop k) w y
  | ps, vs, 0, h => h
  | [], [], k + 1, h => trivial
  | p :: ps, v :: vs, k + 1, h => by simpa using PVs.drop k h.2
  | [], _ :: _, _ + 1, h => h.elim
  | _ :: _, [], _ + 1, h => h.elim
theorem PVs.one {w y} : ∀ {ps : List PV} {vs : List Value}, PVs ps vs w y → ∀ v ∈ vs, v.oneCell' = true
  | [], [], _, v, hv => by cases hv
  | p :: ps, v :: vs, h, u, hu => by
    rcases List.mem_cons.1 hu with rfl | hu
    · exact h.1.1
    · exact PVs.one h.2 u hu
  | [], _ :: _, h, _, _ => h.elim
  | _ :: _, [], h, _, _ => h.elim
theorem cellsAt.slice {w : World} {b off k n : Nat} {vs : List Value} (h : cellsAt w b off vs) : cellsAt w b (off + k) ((vs.drop k).take n) := by
  refine cellsAt.mk fun j v hj => ?_
  rw [List.getElem?_take] at hj
  split at hj
  · have := h.get (k + j) v (by simpa using hj)
    rw [show off + k + j = off + (k + j) by omega]; exact this
  · cases hj

section
variable {P : Program} {d : Option Nat} {ty : TypeId} {pos : String} {af : Array Edge} {g : Option (Nat × Bool)}
variable {x y : Operand} {ps qs : List (Nat × SF)} {t T : TypeId} {α : Type} {R : α → List PV} {l : List α}

def elemOk (P : Program) (t e sz : Nat) : Prop := P.underlying t = some (.slice e) ∧ (P.info? e).map (·.size) = some sz
theorem elemOk.mk {t e sz : Nat} (h1 : P.underlying t = some (.slice e)) (h2 : (P.info? e).map (·.size) = some sz) : elemOk P t e sz := ⟨h1, h2⟩
theorem elem_eq {t e : Nat} (h : P.underlying t = some (.slice e)) : P.underlying t = some (.slice (P.elem t)) := by simp [Program.elem, h]
theorem elem_is {t e : Nat} (h : P.underlying t = some (.slice e)) : P.elem t = e := by simp [Program.elem, h]

/-- len of a slice. -/
theorem o_len_sl {e : TypeId} (hu : P.underlying t = some (.slice e)) (hx : Opd x ps (.pv (.sl R l))) :
    OpC P ⟨d, .call { callee := .builtin .len, args := #[x], argTypes := #[t] }, ty, pos, af, g⟩ ⟨ps, [], .pv (.int .i64 l.length), []⟩ :=
  OpC.pure fun a w yy hp => by
    obtain ⟨ad, cap, e1, h1, h2, _⟩ := hx a w yy hp
    refine ⟨.int .i64 l.length, ?_, fun _ _ => ⟨rfl, ?_⟩⟩
    · simp [execOp, resolve, invoke, builtin, e1, run_len_slice w t ty ad l.length cap (elem_eq hu), goInt]
    · unfold maxLen at h2
      simp [inR, IntKind.min, IntKind.max, IntKind.signed, IntKind.bits]; omega

theorem run_index {e sz : Nat} (h : elemOk P t e sz) {b off len cap : Nat} {i : Int} (h0 : 0 ≤ i) (h1 : i < len) {k : IntKind} (w : World) :
    (Instr.indexAt t (.slice (some ⟨b, off, none⟩) len cap) (.int k i)).run P w = .ok (.pointer (some ⟨b, off + i.toNat * sz, none⟩)) w := by
  rw [run_indexAt_slice w t ⟨b, off, none⟩ len cap k i (elem_eq h.1), if_pos ⟨h0, h1⟩, elem_is h.1]
  rw [run_sizeOf h.2]
  simp [add_lit]

/-- A place of a slice that is only read. -/
theorem o_indexAddr_sl [Inhabited α] {e sz : Nat} {k : IntKind} {i : Int} (he : elemOk P t e sz) (hR : ∀ x, (R x).length = sz) (hx : Opd x ps (.pv (.sl R l))) (hy : Opd y qs (.pv (.int k i))) (h0 : 0 ≤ i) (h1 : i < l.length) :
    OpC P ⟨d, .indexAddr t x y, ty, pos, af, g⟩ ⟨ps ++ qs, [], .pv (.ref (R (nth l i.toNat))), []⟩ :=
  OpC.pure fun a w yy hp => by
    obtain ⟨ad, cap, e1, h3, h4, h5⟩ := hx a w yy hp.left
    have e2 := (hy a w yy hp.right).1
    rcases h5 with rfl | ⟨b, off, vs, rfl, hyb, hb, hc, hpv⟩
    · simp at h1; omega
    · refine ⟨.pointer (some ⟨b, off + i.toNat * sz, none⟩), ?_, fun _ _ => ⟨b, off + i.toNat * sz, (vs.drop (i.toNat * sz)).take sz, rfl, hyb, hb, hc.slice, PVs.pick hR i.toNat (by omega) hpv⟩⟩
      simp [execOp, e1, e2, run_index he h0 h1]

theorem run_load_at {b off sz : Nat} {ag : Bool} {vs : List Value} {w : World} {yy : Ys} {l : List PV} (ha : P.aggB t = some ag) (hs : (P.info? t).map (·.size) = some sz) (hc : cellsAt w b off vs) (hp : PVs l vs w yy)
    (hk : Nat.ble (wid ag sz) l.length = true) : ∃ v, (loadVar t ⟨b, off, none⟩).run P w = .ok v w ∧ ∀ τ, (ldSF ag sz (l.map CF.pv) 0).holds τ w yy v := by
  have hlen := hp.len
  have hk' := Nat.le_of_ble_eq_true hk
  cases ag with
  | true =>
    simp only [wid] at hk'
    have h1 := run_loadCells_list (P := P) w ⟨b, off, none⟩ (vs.take sz) (fun j v hj => by
      rw [add_lit]
      rw [List.getElem?_take] at hj
      split at hj
      · exact hc.get j v hj
      · cases hj)
    have h2 : (vs.take sz).length = sz := by simp; omega
    rw [h2] at h1
    refine ⟨.agg (vs.take sz).toArray, by simp [loadVar, run_isAgg ha, run_sizeOf hs, h1], fun τ => ⟨vs.take sz, rfl, ?_⟩⟩
    simp only [List.drop_zero]
    exact (PVs.cfs hp).take sz
  | false =>
    simp only [wid] at hk'
    match l, vs, hp, hc with
    | p :: l, v :: vs, hp, hc =>
      have hcell := hc.1
      exact ⟨v, by simp [loadVar, run_isAgg ha, load, Sem.run, hcell], fun τ => hp.1.2⟩
    | [], _, hp, _ => simp at hk'

/-- A load from what is only read. -/
theorem o_load_ref {ag : Bool} {sz : Nat} {l : List PV} (hx : Opd x ps (.pv (.ref l))) (ha : P.aggB t = some ag) (hs : (P.info? t).map (·.size) = some sz) (hk : Nat.ble (wid ag sz) l.length = true) :
    OpC P ⟨d, .load t x, ty, pos, af, g⟩ ⟨ps, [], ldSF ag sz (l.map CF.pv) 0, []⟩ :=
  OpC.pure fun a w yy hp => by
    obtain ⟨b, off, vs, e1, _, _, hc, hpv⟩ := hx a w yy hp
    obtain ⟨v, h1, h2⟩ := run_load_at (P := P) ha hs hc hpv hk
    exact ⟨v, by simp [execOp, e1, Instr.loadAt, Instr.sureAddr, h1], fun τ _ => h2 τ⟩
theorem o_fieldAddr_ref {s : TypeId} {f off : Nat} {l : List PV} (hx : Opd x ps (.pv (.ref l))) (ho : P.fieldOff s f = some off) :
    OpC P ⟨d, .fieldAddr s x f, ty, pos, af, g⟩ ⟨ps, [], .pv (.ref (l.drop off)), []⟩ :=
  OpC.pure fun a w yy hp => by
    obtain ⟨b, k, vs, e1, hy, hb, hc, hpv⟩ := hx a w yy hp
    refine ⟨.pointer (some ⟨b, k + off, none⟩), by simp [execOp, e1, run_fieldAt ho], fun τ _ => ⟨b, k + off, vs.drop off, rfl, hy, hb, ?_, PVs.drop off hpv⟩⟩
    have := hc.slice (k := off) (n := vs.length)
    rw [List.take_of_length_le (by simp)] at this
    exact this

/-- A slice of a slice that is only read. -/
theorem o_slice_sl {e sz : Nat} {lo hi : Option Operand} {k1 k2 : IntKind} {i j : Int} {rs : List (Nat × SF)} (he : elemOk P t e sz) (hR : ∀ x, (R x).length = sz) (hx : Opd x ps (.pv (.sl R l)))
    (hlo : match lo with | some z => Opd z qs (.pv (.int k1 i)) | none => qs = [] ∧ i = 0) (hhi : match hi with | some z => Opd z rs (.pv (.int k2 j)) | none => rs = [] ∧ j = l.length)
    (h0 : 0 ≤ i) (h1 : i ≤ j) (h2 : j ≤ l.length) :
    OpC P ⟨d, .slice t x lo hi none, ty, pos, af, g⟩ ⟨ps ++ (qs ++ rs), [], .pv (.sl R ((l.take j.toNat).drop i.toNat)), []⟩ :=
  OpC.pure fun a w yy hp => by
    obtain ⟨ad, cap, e1, h3, h4, h5⟩ := hx a w yy hp.left
    have hlen : ((l.take j.toNat).drop i.toNat).length = j.toNat - i.toNat := by simp; omega
    have hbl : ∀ (v : Value) (k : IntKind) (z : Int) (c : BoundsCode) (m : Nat), 0 ≤ z → z ≤ m → (Instr.sliceBound (.int k z) m c).run P w = .ok z.toNat w := by
      intro v k z c m hz1 hz2
      simp [Instr.sliceBound, asIntOf, hz1, hz2]
    have hrun : (Instr.slice t (.slice ad l.length cap) (lo.map a.eval) (hi.map a.eval) none).run P w = .ok (.slice (if cap = i.toNat then ad else ad.map (·.add (i.toNat * sz))) (j.toNat - i.toNat) (cap - i.toNat)) w := by
      have hh : (Instr.sliceBounds true l.length cap (lo.map a.eval) (hi.map a.eval) none).run P w = .ok (i.toNat, j.toNat, cap) w := by
        cases hi with
        | none =>
          obtain ⟨_, rfl⟩ := hhi
          cases lo with
          | none =>
            obtain ⟨_, rfl⟩ := hlo
            simp [Instr.sliceBounds]
          | some z =>
            have ez := (hlo a w yy hp.right.left).1
            simp [Instr.sliceBounds, ez, hbl undef k1 i .sliceB l.length h0 h1]
        | some z =>
          have ez := (hhi a w yy hp.right.right).1
          cases lo with
          | none =>
            obtain ⟨_, rfl⟩ := hlo
            simp [Instr.sliceBounds, ez, hbl undef k2 j .sliceAcap cap (by omega) (by omega)]
          | some z' =>
            have ez' := (hlo a w yy hp.right.left).1
            simp [Instr.sliceBounds, ez, ez', hbl undef k2 j .sliceAcap cap (by omega) (by omega), hbl undef k1 i .sliceB j.toNat h0 (by omega)]
      simp [Instr.slice, run_underlying he.1, hh, run_sizeOf he.2]
    have hexec : (execOp a.eval ⟨d, .slice t x lo hi none, ty, pos, af, g⟩).run P w = .ok (.value (.slice (if cap = i.toNat then ad else ad.map (·.add (i.toNat * sz))) (j.toNat - i.toNat) (cap - i.toNat))) w := by
      have hs : (Instr.sliceAt t (.slice ad l.length cap) (lo.map a.eval) (hi.map a.eval) none).run P w = (Instr.slice t (.slice ad l.length cap) (lo.map a.eval) (hi.map a.eval) none).run P w := by
        simp [Instr.sliceAt, run_underlying he.1]
      simp only [execOp, e1, Option.map_none, Sem.run_bind, hs, hrun, Result.andThen_ok, Sem.run_pure]
    refine ⟨_, hexec, fun τ _ => ?_⟩
    refine ⟨_, _, by rw [hlen], by rw [hlen]; omega, by omega, ?_⟩
    by_cases hnil : (l.take j.toNat).drop i.toNat = []
    · exact .inl hnil
    · right
      have hl : 0 < ((l.take j.toNat).drop i.toNat).length := List.length_pos_iff.2 hnil
      rw [hlen] at hl
      rcases h5 with rfl | ⟨b, off, vs, rfl, hyb, hb, hc, hpv⟩
      · simp at h2; omega
      · have hne : cap ≠ i.toNat := by omega
        rw [if_neg hne]
        refine ⟨b, off + i.toNat * sz, (vs.take (j.toNat * sz)).drop (i.toNat * sz), by simp [add_lit], hyb, hb, ?_, ?_⟩
        · have h6 : cellsAt w b off (vs.take (j.toNat * sz)) := by
            have := hc.slice (k := 0) (n := j.toNat * sz)
            simpa using this
          have := h6.slice (k := i.toNat * sz) (n := (vs.take (j.toNat * sz)).length)
          rw [List.take_of_length_le (by simp)] at this
          exact this
        · rw [fm_drop hR, fm_take hR]
          exact PVs.drop _ (PVs.take _ hpv)
end
end Go.Gm
