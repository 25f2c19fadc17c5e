/- Rows that are owned: append, reading, cutting. No condition. -/
import Derived.Test.YtfldilhddeabeaaDoorLibI
namespace Go.Gm
set_option linter.unusedVariables false
set_option linter.unusedSimpArgs false

theorem ownsRow_heap {w w' : World} {e sz n : Nat} {v : Value} {xs : List Value} (h : w.ownsRow 0 e sz v n xs) (hb : ∀ b, v.ownBlock = some b → w'.heap[b]? = w.heap[b]?) : w'.ownsRow 0 e sz v n xs := by
  refine ⟨h.1, ?_⟩
  rcases h.2 with h2 | ⟨g, cap, cur, rfl, h0, hg, r⟩
  · exact .inl h2
  · exact .inr ⟨g, cap, cur, rfl, h0, by rw [hb g (by simp [Value.ownBlock])]; exact hg, r⟩

/-- A row that is owned: v is the slice, l its elements. -/
def rowH {α : Type} (T sz : Nat) (R : α → List PV) (l : List α) (v : Value) : HP :=
  ⟨fun w f y => ∃ xs, w.ownsRow 0 T sz v l.length xs ∧ PVs (l.flatMap R) xs w y ∧ ∀ b, f b ↔ v.ownBlock = some b,
   fun {w f y w' y'} h hf ⟨xs, h1, h2, h3⟩ => ⟨xs, ownsRow_heap h1 (fun b hb => hf b ((h3 b).2 hb)), PVs.mono h h2, h3⟩⟩

theorem rowH_nil {α : Type} {T sz : Nat} {R : α → List PV} {w : World} {y : Ys} : (rowH T sz R ([] : List α) (.slice none 0 0)).p w (fun _ => False) y :=
  ⟨[], World.ownsRow_nil w 0 T sz, trivial, fun b => by simp [Value.ownBlock]⟩

theorem row_shape {w : World} {e sz n : Nat} {v : Value} {xs : List Value} (h : w.ownsRow 0 e sz v n xs) : ∃ ad cap, v = .slice ad n cap ∧ n ≤ cap ∧ cap ≤ maxLen ∧ (n = 0 ∨ ∃ b, ad = some ⟨b, 0, none⟩ ∧ v.ownBlock = some b ∧ cellsAt w b 0 xs) := by
  rcases h.2 with ⟨rfl, rfl⟩ | ⟨g, cap, cur, rfl, _, hg, h1, h2, h3, h4⟩
  · exact ⟨none, 0, rfl, Nat.le_refl _, by unfold maxLen; omega, .inl rfl⟩
  · refine ⟨_, cap, rfl, h1, h2, .inr ⟨g, rfl, rfl, ?_⟩⟩
    have := h.cells (g := g) rfl
    exact cellsAt.mk fun j u hu => by have := this j u hu; rw [add_lit] at this; exact this

section
variable {P : Program} {d : Option Nat} {ty : TypeId} {pos : String} {af : Array Edge} {g : Option (Nat × Bool)}
variable {x y : Operand} {ps qs : List (Nat × SF)} {t T : TypeId} {α : Type} {R : α → List PV} {l : List α} {a : Anc}

/-- What x holds is the handle of a resource. -/
def IsAnc (x : Operand) (ps : List (Nat × SF)) (a : Anc) : Prop := ∀ (act : Act) w y, Hps ps (Act.tau act) w y → act.eval x = a.v (Act.tau act)
theorem IsAnc.is {i : Nat} {v : Value} : IsAnc (.tmp i) [(i, .pv (.is v))] (.val v) := fun act w y h => (h (i, .pv (.is v)) (by simp)).1
theorem IsAnc.same {i j : Nat} : IsAnc (.tmp i) [(i, .same j)] (.slot j) := fun act w y h => (h (i, .same j) (by simp)).1
theorem IsAnc.w {c : Prop} {i : Nat} {s : SF} {a : Anc} (hc : c) (h : IsAnc (.tmp i) [(i, s)] a) : IsAnc (.tmp i) [(i, .when c s)] a := fun act w y hp =>
  h act w y (fun x hx => by simp only [List.mem_singleton] at hx; subst hx; exact (hp (i, .when c s) (by simp)).1 hc)
/-- An empty slice, as a handle. -/
theorem IsAnc.nil : IsAnc (.const (.slice none 0 0)) [] (.val (.slice none 0 0)) := fun _ _ _ _ => rfl

theorem o_len_row {e sz : Nat} (n : Nat) (hu : P.underlying t = some (.slice e)) (hx : IsAnc x ps a) :
    OpC P ⟨d, .call { callee := .builtin .len, args := #[x], argTypes := #[t] }, ty, pos, af, g⟩ ⟨ps, [(n, .ob a (rowH T sz R l))], .pv (.int .i64 l.length), []⟩ :=
  OpC.read fun act w F hp hr => by
    obtain ⟨xs, h1, h2, h3⟩ := hr (n, .ob a (rowH T sz R l)) (by simp)
    obtain ⟨ad, cap, e1, h4, h5, _⟩ := row_shape h1
    have e2 : act.eval x = .slice ad l.length cap := by rw [hx act w _ hp]; exact e1
    refine ⟨.int .i64 l.length, ?_, fun _ _ => ⟨rfl, ?_⟩⟩
    · simp [execOp, resolve, invoke, builtin, e2, run_len_slice w t ty ad l.length cap (elem_eq hu), goInt]
    · unfold maxLen at h5
      simp [inR, IntKind.min, IntKind.max, IntKind.signed, IntKind.bits]; omega

/-- A place of a row. -/
theorem o_indexAddr_row {e sz : Nat} {k : IntKind} {i : Int} (n : Nat) (he : elemOk P t e sz) (hx : IsAnc x ps a) (hy : Opd y qs (.pv (.int k i))) (h0 : 0 ≤ i) (h1 : i < l.length) (hd : depOk d (.adr a (i.toNat * sz)) = true) :
    OpC P ⟨d, .indexAddr t x y, ty, pos, af, g⟩ ⟨ps ++ qs, [(n, .ob a (rowH T sz R l))], .adr a (i.toNat * sz), []⟩ :=
  OpC.read fun act w F hp hr => by
    obtain ⟨xs, h2, h3, h4⟩ := hr (n, .ob a (rowH T sz R l)) (by simp)
    obtain ⟨ad, cap, e1, h5, h6, h7⟩ := row_shape h2
    have e2 := (hy act w _ hp.right).1
    have e3 : act.eval x = .slice ad l.length cap := by rw [hx act w _ hp.left]; exact e1
    rcases h7 with h7 | ⟨b, rfl, _, _⟩
    · omega
    · have ev : a.v (Act.tau act) = .slice (some ⟨b, 0, none⟩) l.length cap := e1
      refine ⟨.pointer (some ⟨b, 0 + i.toNat * sz, none⟩), by simp [execOp, e3, e2, run_index he h0 h1], fun τ' ht => depOk_mono (w := w) (y := U F) hd ht ?_⟩
      simp [SF.holds, ev, shift]

theorem run_load_row {w : World} {f yy : Ys} {sz : Nat} {ag : Bool} {τ : Tau} {sz' i off : Nat} [Inhabited α] (hr : (RS.ob a (rowH T sz R l)).holds τ w f yy) (hR : ∀ x, (R x).length = sz) (hi : i < l.length) (hoff : off + wid ag sz' ≤ sz)
    (ha : P.aggB t = some ag) (hs : (P.info? t).map (·.size) = some sz') :
    ∃ b cap v, a.v τ = .slice (some ⟨b, 0, none⟩) l.length cap ∧ (loadVar t ⟨b, i * sz + off, none⟩).run P w = .ok v w ∧ ∀ τ, (ldSF ag sz' (((R (nth l i)).drop off).map CF.pv) 0).holds τ w yy v := by
  obtain ⟨xs, h2, h3, h4⟩ := hr
  obtain ⟨ad, cap, e1, h5, h6, h7⟩ := row_shape h2
  rcases h7 with h7 | ⟨b, rfl, _, hc⟩
  · omega
  · have hp := PVs.drop off (PVs.pick hR i hi h3)
    have hc' := (hc.slice (k := i * sz) (n := sz)).slice (k := off) (n := ((xs.drop (i * sz)).take sz).length)
    rw [List.take_of_length_le (by simp), Nat.zero_add] at hc'
    obtain ⟨v, h8, h9⟩ := run_load_at (P := P) ha hs hc' hp (by
      refine Nat.ble_eq_true_of_le ?_
      simp [hR]; omega)
    exact ⟨b, cap, v, e1, h8, h9⟩

/-- A load from an element of a row: 'off' cells behind its beginning. -/
theorem o_load_row {sz : Nat} {ag : Bool} {sz' i off : Nat} [Inhabited α] (n : Nat) (hx : Opd x ps (.adr a (i * sz + off))) (hR : ∀ x, (R x).length = sz) (hi : i < l.length) (hoff : Nat.ble (off + wid ag sz') sz = true)
    (ha : P.aggB t = some ag) (hs : (P.info? t).map (·.size) = some sz') :
    OpC P ⟨d, .load t x, ty, pos, af, g⟩ ⟨ps, [(n, .ob a (rowH T sz R l))], ldSF ag sz' (((R (nth l i)).drop off).map CF.pv) 0, []⟩ :=
  OpC.read fun act w F hp hr => by
    obtain ⟨b, cap, v, e1, h1, h2⟩ := run_load_row (P := P) (yy := U F) (hr (n, .ob a (rowH T sz R l)) (by simp)) hR hi (Nat.le_of_ble_eq_true hoff) ha hs
    have e2 : act.eval x = .pointer (some ⟨b, i * sz + off, none⟩) := by
      have := hx act w (U F) hp
      simp only [SF.holds, e1, shift, Nat.zero_add] at this
      exact this
    exact ⟨v, by simp [execOp, e2, Instr.loadAt, Instr.sureAddr, h1], fun τ _ => h2 τ⟩
theorem o_load_row0 {sz : Nat} {ag : Bool} {sz' i : Nat} [Inhabited α] (n : Nat) (hx : Opd x ps (.adr a (i * sz))) (hR : ∀ x, (R x).length = sz) (hi : i < l.length) (hoff : Nat.ble (wid ag sz') sz = true)
    (ha : P.aggB t = some ag) (hs : (P.info? t).map (·.size) = some sz') :
    OpC P ⟨d, .load t x, ty, pos, af, g⟩ ⟨ps, [(n, .ob a (rowH T sz R l))], ldSF ag sz' ((R (nth l i)).map CF.pv) 0, []⟩ :=
  o_load_row (off := 0) n hx hR hi (by simpa using hoff) ha hs

/-- The row of the table for an element. -/
structure elemI (P : Program) (t T sz bs : Nat) : Prop where
  u : P.underlying t = some (.slice T)
  i : ∃ i z, P.info? T = some i ∧ i.zero = some z ∧ i.size = sz ∧ i.bytes = bs ∧ z.cells.size = sz
  p : 0 < sz
theorem elemI.mk' {t T sz bs : Nat} (h1 : P.underlying t = some (.slice T)) (h2 : (P.info? T).map (fun i => (i.size, i.bytes, i.zero.map (·.cells.size))) = some (sz, bs, some sz)) (h3 : Nat.blt 0 sz = true) : elemI P t T sz bs := by
  refine ⟨h1, ?_, by simpa [Nat.blt_eq] using h3⟩
  cases hi : P.info? T with
  | none => rw [hi] at h2; cases h2
  | some i =>
    rw [hi] at h2
    simp at h2
    obtain ⟨e1, e2, z, e3, e4⟩ := h2
    exact ⟨i, z, rfl, e3, e1, e2, e4⟩

theorem append_law {w : World} {t T sz bs : Nat} {ty : TypeId} (he : elemI P t T sz bs) {v : Value} {n : Nat} {xs : List Value} (hown : w.ownsRow 0 T sz v n xs) {b off m c : Nat} {news : List Value} (hl : news.length = m * sz) (hc : cellsAt w b off news) (h1 : ∀ u ∈ news, u.oneCell' = true)
    (h63 : n + m ≤ maxLen) (hbytes : (n + m) * bs ≤ 140737488355328) :
    ∃ v' w', (Builtin.append_ #[t, t] ty #[v, .slice (some ⟨b, off, none⟩) m c]).run P w = .ok v' w' ∧ w'.ownsRow 0 T sz v' (n + m) (xs ++ news) ∧ w.grownBy w' v.ownBlock ∧ ∀ k, v'.ownBlock = some k → v.ownBlock = some k ∨ k = w.heap.size := by
  obtain ⟨i, z, hi, hz, hsz, hby, hzs⟩ := he.i
  have hnews : ∀ j u, news[j]? = some u → w.cell? ((⟨b, off, none⟩ : Addr).add j) = some u := fun j u hu => by rw [add_lit]; exact hc.get j u hu
  obtain ⟨v', w', r1, r2, r3, r4⟩ := run_append_own (P := P) w 0 t ty T i z sz bs he.u hi hz hsz hby hzs he.p v n xs hown ⟨b, off, none⟩ m c news hl hnews h1 h63 hbytes (Nat.zero_le _)
  refine ⟨v', w', r1, r2, r3, fun k hk => ?_⟩
  subst hsz; subst hby
  rcases hown.2 with ⟨rfl, rfl⟩ | ⟨g, cap, cur, rfl, _, hg, hnc, hcm, hcs, htake⟩
  · by_cases hm : m = 0
    · have := r4.2 ⟨rfl, hm⟩
      rw [this] at hk; simp [Value.ownBlock] at hk
    · have hr := run_append_nil (P := P) w t ty T i z he.u hi hz ⟨b, off, none⟩ m c news hl hnews (by omega) (by unfold maxLen at h63; omega) (by have := hbytes; simp only [Nat.zero_add] at this; omega)
      rw [r1] at hr
      simp only [Result.ok.injEq] at hr
      rw [hr.1] at hk
      simp [Value.ownBlock] at hk
      exact .inr hk.symm
  · by_cases hroom : n + m ≤ cap
    · have hfit : n * i.size + news.length ≤ cur.size := by rw [hl, hcs, ← Nat.add_mul]; exact Nat.mul_le_mul_right _ hroom
      have hr := run_append_room (P := P) w t ty T i he.u hi g n cap cur hg ⟨b, off, none⟩ m c news hl hnews h1 hroom hfit
      rw [r1] at hr
      simp only [Result.ok.injEq] at hr
      rw [hr.1] at hk
      exact .inl hk
    · have holds : ∀ j u, xs[j]? = some u → w.cell? ((⟨g, 0, none⟩ : Addr).add j) = some u := hown.cells (g := g) rfl
      have hr := run_append_grow (P := P) w t ty T i z he.u hi hz ⟨g, 0, none⟩ n cap xs hown.1 holds ⟨b, off, none⟩ m c news hl hnews (by omega) (by unfold maxLen at h63; omega) (growslice_fits (by omega) hbytes)
      rw [r1] at hr
      simp only [Result.ok.injEq] at hr
      rw [hr.1] at hk
      simp [Value.ownBlock] at hk
      exact .inr hk.symm

/-- One row for another, of the same owner. -/
theorem grown_row {w w' : World} {F : Fp} (hw : Wf F w) {n : Nat} {v v' : Value} (hg : w.grownBy w' v.ownBlock) (hf : ∀ b, F n b ↔ v.ownBlock = some b) (hv : ∀ k, v'.ownBlock = some k → v.ownBlock = some k ∨ k = w.heap.size)
    (hlt : ∀ k, v'.ownBlock = some k → k < w'.heap.size) :
    Wf (fun m => if m = n then fun b => v'.ownBlock = some b else F m) w' ∧ Stp [n] w F w' (fun m => if m = n then fun b => v'.ownBlock = some b else F m) := by
  refine ⟨⟨fun i j b hi hj => ?_, fun i b hi => ?_⟩, ⟨hg.os, hg.tape, hg.output, hg.size, fun b hb hn => ?_, fun m hm => ?_, fun m hm b hb => ?_⟩⟩
  · by_cases e1 : i = n <;> by_cases e2 : j = n <;> simp [e1, e2] at hi hj
    · rw [e1, e2]
    · rcases hv b hi with h | h
      · rw [e1]; exact hw.dis n j b ((hf b).2 h) hj
      · have := hw.bd j b hj; omega
    · rcases hv b hj with h | h
      · rw [e2]; exact hw.dis i n b hi ((hf b).2 h)
      · have := hw.bd i b hi; omega
    · exact hw.dis i j b hi hj
  · by_cases e1 : i = n <;> simp [e1] at hi
    · exact hlt b hi
    · exact Nat.lt_of_lt_of_le (hw.bd i b hi) hg.size
  · refine hg.block b hb (fun e => hn n (by simp) ((hf b).2 e.symm))
  · simp at hm; simp [hm]
  · simp at hm
    subst hm
    simp at hb
    rcases hv b hb with h | h
    · exact .inl ⟨m, by simp, (hf b).2 h⟩
    · right; omega

/-- A row is cut. -/
theorem o_cut_row {e sz : Nat} {d' : Nat} {k : IntKind} {j : Int} (n : Nat) (he : elemOk P t e sz) (hR : ∀ x, (R x).length = sz) (hx : IsAnc x ps a) (hy : Opd y qs (.pv (.int k j))) (h0 : 0 ≤ j) (h1 : j ≤ l.length) :
    OpC P ⟨some d', .slice t x none (some y) none, ty, pos, af, g⟩ ⟨ps ++ qs, [(n, .ob a (rowH e sz R l))], .same d', [(n, .ob (.slot d') (rowH e sz R (l.take j.toNat)))]⟩ := fun act w F K Q hw hp hr ht => by
  obtain ⟨xs, h2, h3, h4⟩ := hr (n, .ob a (rowH e sz R l)) (by simp)
  obtain ⟨ad, cap, e1, h5, h6, h7⟩ := row_shape h2
  have e2 := (hy act w _ hp.right).1
  have e3 : act.eval x = .slice ad l.length cap := by rw [hx act w _ hp.left]; exact e1
  have hh : (Instr.sliceBounds true l.length cap none (some (.int k j)) none).run P w = .ok (0, j.toNat, cap) w := by
    have : j ≤ cap := by omega
    simp [Instr.sliceBounds, Instr.sliceBound, asIntOf, h0, this]
  have hv : (if cap = 0 then ad else ad.map (·.add (0 * sz))) = ad := by
    split
    · rfl
    · cases ad <;> simp [Addr.add]
  have hrun : (execOp act.eval ⟨some d', .slice t x none (some y) none, ty, pos, af, g⟩).run P w = .ok (.value (.slice ad j.toNat cap)) w := by
    simp only [execOp, e3, e2, Option.map_none, Option.map_some, Instr.sliceAt, Sem.run_bind, run_underlying he.1, Result.andThen_ok, Instr.slice, hh, run_sizeOf he.2, Sem.run_pure, hv, Nat.sub_zero]
  have hlt : (l.take j.toNat).length = j.toNat := by simp; omega
  have hown : w.ownsRow 0 e sz (.slice ad j.toNat cap) j.toNat (xs.take (j.toNat * sz)) := by
    refine ⟨by rw [List.length_take, h2.1, Nat.min_eq_left (Nat.mul_le_mul_right _ (by omega))], ?_⟩
    rcases h2.2 with ⟨hn, hl0⟩ | ⟨g, cap', cur, hv', hb, hg, k1, k2, k3, k4⟩
    · rw [e1] at hn
      simp only [Value.slice.injEq] at hn
      left
      have hj : j.toNat = 0 := by omega
      rw [hj, hn.1, hn.2.2]
      exact ⟨rfl, rfl⟩
    · rw [e1] at hv'
      simp only [Value.slice.injEq] at hv'
      obtain ⟨rfl, _, rfl⟩ := hv'
      refine .inr ⟨g, cap, cur, rfl, hb, hg, by omega, k2, k3, ?_⟩
      rw [← k4, List.take_take, Nat.min_eq_left (Nat.mul_le_mul_right _ (by omega))]
  have hob : (Value.slice ad j.toNat cap).ownBlock = (a.v (Act.tau act)).ownBlock := by rw [e1]; cases ad <;> rfl
  simp only [Oper.wp, hrun, Oper.upon]
  refine ht _ w F hw ⟨rfl, rfl, rfl, Nat.le_refl _, fun _ _ _ => rfl, fun _ _ => rfl, fun m hm b hb => .inl ⟨m, hm, hb⟩⟩ ⟨by simp [upd], rfl⟩ ?_
  intro z hz
  simp only [List.mem_singleton] at hz
  subst hz
  have hτ : upd (Act.tau act) (some d') (.slice ad j.toNat cap) d' = .slice ad j.toNat cap := by simp [upd]
  refine ⟨xs.take (j.toNat * sz), ?_, ?_, ?_⟩
  · simp only [Anc.v, hτ, hlt]; exact hown
  · rw [fm_take hR]; exact PVs.take _ h3
  · intro b; simp only [Anc.v, hτ, hob]; exact h4 b
/-- What is appended. -/
def SrcOk (y : Operand) (qs : List (Nat × SF)) (R : α → List PV) (l' : List α) : Prop := ∀ (act : Act) w yy, Hps qs (Act.tau act) w yy → ∃ c, (l' = [] ∧ ∃ ad, act.eval y = .slice ad 0 c) ∨
  ∃ b off news, act.eval y = .slice (some ⟨b, off, none⟩) l'.length c ∧ cellsAt w b off news ∧ PVs (l'.flatMap R) news w yy
theorem SrcOk.arr {l' : List α} (h : Opd y qs (.pv (.arr l'.length (l'.flatMap R)))) : SrcOk y qs R l' := fun act w yy hp => by
  obtain ⟨b, news, e1, _, _, hc, hpv⟩ := h act w yy hp
  exact ⟨_, .inr ⟨b, 0, news, e1, hc, hpv⟩⟩
theorem SrcOk.sl {l' : List α} (h : Opd y qs (.pv (.sl R l'))) : SrcOk y qs R l' := fun act w yy hp => by
  obtain ⟨ad, cap, e1, _, _, h3⟩ := h act w yy hp
  rcases h3 with rfl | ⟨b, off, news, rfl, _, _, hc, hpv⟩
  · exact ⟨cap, .inl ⟨rfl, ad, e1⟩⟩
  · exact ⟨cap, .inr ⟨b, off, news, e1, hc, hpv⟩⟩
theorem run_append_zero {w : World} {t T sz bs : Nat} {ty : TypeId} (he : elemI P t T sz bs) {v : Value} {n : Nat} {xs : List Value} (hown : w.ownsRow 0 T sz v n xs) (ad : Option Addr) (c : Nat) :
    (Builtin.append_ #[t, t] ty #[v, .slice ad 0 c]).run P w = .ok v w := by
  obtain ⟨i, z, hi, hz, hsz, hby, hzs⟩ := he.i
  obtain ⟨ad', cap, rfl, h1, _⟩ := row_shape hown
  have hf : ∀ (ad : Option Addr), (Builtin.firstCells i.size 0 (.slice ad 0 c)).run P w = .ok #[] w := by
    intro ad
    cases ad with
    | none => simp [Builtin.firstCells]
    | some a => simp [Builtin.firstCells, loadCells, loadCellsFrom]
  cases ad' with
  | none => simp [Builtin.append_, run_underlying he.u, sizeOf, typeInfo, hi, Builtin.lenOf, h1, hf]
  | some a' => simp [Builtin.append_, run_underlying he.u, sizeOf, typeInfo, hi, Builtin.lenOf, h1, hf, storeCells]

theorem o_append {l' : List α} {d' : Nat} {T sz bs : Nat} (n : Nat) (he : elemI P t T sz bs) (hR : ∀ x, (R x).length = sz) (hx : IsAnc x ps a) (hy : SrcOk y qs R l') (hb : (l.length + l'.length) * bs ≤ 140737488355328) (hbs : 0 < bs) :
    OpC P ⟨some d', .call { callee := .builtin .append, args := #[x, y], argTypes := #[t, t] }, ty, pos, af, g⟩ ⟨ps ++ qs, [(n, .ob a (rowH T sz R l))], .same d', [(n, .ob (.slot d') (rowH T sz R (l ++ l')))]⟩ := fun act w F K Q hw hp hr ht => by
  obtain ⟨xs, h1, h2, h3⟩ := hr (n, .ob a (rowH T sz R l)) (by simp)
  have e2 : act.eval x = a.v (Act.tau act) := hx act w _ hp.left
  have hlen : l.length + l'.length ≤ maxLen := by
    unfold maxLen
    have : l.length + l'.length ≤ (l.length + l'.length) * bs := Nat.le_mul_of_pos_right _ hbs
    omega
  have hall : ∃ v' w' news, (Builtin.append_ #[t, t] ty #[act.eval x, act.eval y]).run P w = .ok v' w' ∧ w'.ownsRow 0 T sz v' (l.length + l'.length) (xs ++ news) ∧ w.grownBy w' (a.v (Act.tau act)).ownBlock ∧ (∀ k, v'.ownBlock = some k → (a.v (Act.tau act)).ownBlock = some k ∨ k = w.heap.size) ∧ PVs (l'.flatMap R) news w (U F) := by
    obtain ⟨c, ⟨rfl, ad, e1⟩ | ⟨b, off, news, e1, hc, hpv⟩⟩ := hy act w _ hp.right
    · refine ⟨a.v (Act.tau act), w, [], by rw [e2, e1]; exact run_append_zero he h1 ad c, by simpa using h1, ⟨rfl, rfl, rfl, Nat.le_refl _, fun _ _ _ => rfl⟩, fun k hk => .inl hk, trivial⟩
    · obtain ⟨v', w', r1, r2, r3, r4⟩ := append_law (P := P) (ty := ty) he h1 (c := c) (by rw [← hpv.len, fm_len hR]) hc hpv.one hlen hb
      exact ⟨v', w', news, by rw [e2, e1]; exact r1, r2, r3, r4, hpv⟩
  obtain ⟨v', w', news, r1, r2, r3, r4, hpv⟩ := hall
  have hrun : (execOp act.eval ⟨some d', .call { callee := .builtin .append, args := #[x, y], argTypes := #[t, t] }, ty, pos, af, g⟩).run P w = .ok (.value v') w' := by
    simp only [execOp, resolve, invoke, builtin, Sem.run_bind, Sem.run_pure, Result.andThen_ok, List.map_toArray, List.map_cons, List.map_nil, r1]
  simp only [Oper.wp, hrun, Oper.upon]
  obtain ⟨g1, g2⟩ := grown_row hw r3 h3 r4 (fun k hk => (r2.lt k hk).2)
  refine ht v' w' _ g1 g2 (by
    obtain ⟨ad, cap, e, _⟩ := row_shape r2
    exact ⟨by simp [upd], by rw [e]; rfl⟩) ?_
  intro z hz
  simp only [List.mem_singleton] at hz
  subst hz
  have hτ : upd (Act.tau act) (some d') v' d' = v' := by simp [upd]
  refine ⟨xs ++ news, ?_, ?_, ?_⟩
  · simp only [Anc.v, hτ, List.length_append]; exact r2
  · rw [List.flatMap_append]
    exact PVs.append (PVs.mono g2.ev h2) (PVs.mono g2.ev hpv)
  · intro b; simp [Anc.v, hτ]
end
end Go.Gm
