/- From what the row says of an input to what slots hold; and from a contract to the row's answer. No condition. -/
import Derived.Test.YtfldilhddeabeaaDoorLibO
import Derived.ProofKit
import Derived.OpenShut
import Derived.WideKeyArgs
import Derived.Carry
import Derived.Deep.Slices
namespace Go.Gm
open Go.ChangeShapes Go.WideShapes Go.ChangeAt Go.RowKit Go.Deep
set_option linter.unusedVariables false
set_option linter.unusedSimpArgs false

abbrev noY : Ys := fun _ => False

/-- Whoever reads a value of the type meets cells as R tells of some b. -/
def Reads (P : Program) (t : TypeId) {β : Type} (R : β → List PV) : Prop :=
  ∀ (H : Type) (enc : TypeId × Value → H) (w : World) (base : Nat) (sp : Nat → Bool) (held : Bool) (n : Nat) (cs : List Value) (x : DataW H × List MemPlace), DataW.trod enc P w base sp held n t cs = some x → ∃ b : β, PVs (R b) cs w noY

section
variable {P : Program} {t : TypeId}
theorem wf_inR {k : IntKind} {n : Int} (h : (Lit.int k n).wf = true) : inR k n := by simpa [Lit.wf, inR] using h
theorem reads_int {k : IntKind} (hu : P.underlying t = some (.int k)) : Reads P t (fun i : Int => [.int k i]) := fun H enc w base sp held n cs x h => by
  obtain ⟨i, rfl, _, hw⟩ := DataW.trod_int hu h
  exact ⟨i, ⟨rfl, rfl, wf_inR hw⟩, trivial⟩
theorem reads_bool (hu : P.underlying t = some .bool) : Reads P t (fun b : Bool => [.bool b]) := fun H enc w base sp held n cs x h => by
  obtain ⟨b, rfl, _⟩ := DataW.trod_bool hu h
  exact ⟨b, ⟨rfl, rfl⟩, trivial⟩
theorem reads_str (hu : P.underlying t = some .string) : Reads P t (fun s : ByteArray => [.str s]) := fun H enc w base sp held n cs x h => by
  obtain ⟨s, rfl, _, hs⟩ := DataW.trod_string hu h
  exact ⟨s, ⟨rfl, rfl, hs⟩, trivial⟩
theorem Reads.map {β γ : Type} {R : β → List PV} {R' : γ → List PV} (h : Reads P t R) (f : β → γ) (e : ∀ b, R b = R' (f b)) : Reads P t R' := fun H enc w base sp held n cs x hx => by
  obtain ⟨b, hb⟩ := h H enc w base sp held n cs x hx
  exact ⟨f b, by rw [← e b]; exact hb⟩

/-- Fields one by one, from a place on. -/
def ReadsF (P : Program) (fs : List Field) (off tot : Nat) {β : Type} (R : β → List PV) : Prop :=
  ∀ (H : Type) (enc : TypeId × Value → H) (w : World) (base : Nat) (sp : Nat → Bool) (held : Bool) (n : Nat) (cs : List Value), cs.length = tot →
    (∀ (i : Nat) (f : Field), fs[i]? = some f → ∃ x, DataW.trod enc P w base sp held n f.type ((cs.drop f.offset).take (P.cellsOf f.type)) = some x) → ∃ b : β, PVs (R b) (cs.drop off) w noY
theorem readsF_nil {tot : Nat} : ReadsF P [] tot tot (fun _ : Unit => []) := fun H enc w base sp held n cs hl _ => ⟨(), by rw [List.drop_of_length_le (by omega)]; trivial⟩
theorem readsF_cons {f : Field} {fs : List Field} {off k tot : Nat} {β γ : Type} {R : β → List PV} {R' : γ → List PV} (ho : Nat.beq f.offset off = true) (hk : Nat.beq (P.cellsOf f.type) k = true) (h : Reads P f.type R) (h' : ReadsF P fs (off + k) tot R') :
    ReadsF P (f :: fs) off tot (fun p : β × γ => R p.1 ++ R' p.2) := fun H enc w base sp held n cs hl hx => by
  obtain ⟨x, hf⟩ := hx 0 f rfl
  obtain ⟨b, hb⟩ := h H enc w base sp held n _ x hf
  obtain ⟨c, hc⟩ := h' H enc w base sp held n cs hl (fun i g hg => hx (i + 1) g (by simpa using hg))
  refine ⟨(b, c), ?_⟩
  have e1 := Nat.eq_of_beq_eq_true ho
  have e2 := Nat.eq_of_beq_eq_true hk
  rw [e1, e2] at hb
  have := PVs.append hb hc
  rwa [show cs.drop (off + k) = (cs.drop off).drop k by rw [List.drop_drop], List.take_append_drop] at this
theorem reads_struct {fs : List Field} {tot : Nat} {β : Type} {R : β → List PV} (hu : P.underlying t = some (.struct fs.toArray)) (hc : Nat.beq (P.cellsOf t) tot = true) (h : ReadsF P fs 0 tot R) : Reads P t R := fun H enc w base sp held n cs x hx => by
  obtain ⟨xs, m, rfl, _, hl, hls, hf⟩ := DataW.trod_struct hu hx
  have := h H enc w base sp held m cs (by rw [hl]; exact Nat.eq_of_beq_eq_true hc) (fun i f hi => by
    have h1 := hf i f (by simpa using hi)
    have hi' : i < xs.length := by
      rw [hls]
      have := (List.getElem?_eq_some_iff.1 hi).1
      simpa using this
    exact ⟨xs[i], by rw [h1]; simp [hi']⟩)
  simpa using this

theorem cells_at {w : World} {base n : Nat} {a : Addr} {cs : List Value} (h : w.cells? base a n = some cs) : cs.length = n ∧ cellsAt w a.block a.off cs ∧ (0 < n → a.spot = none) := by
  obtain ⟨_, hl, hc⟩ := World.cells?_some h
  have hsp : 0 < n → a.spot = none := fun h0 => by
    have h1 := hc 0 h0
    simp only [Addr.add, if_true] at h1
    have : (w.cell? a).isSome = true := by rw [h1]; simp [List.getElem?_eq_getElem (show 0 < cs.length by omega)]
    unfold World.cell? at this
    split at this
    · split at this
      · cases this
      · rename_i hh; simpa using hh
    · cases this
  refine ⟨hl, cellsAt.mk fun j v hj => ?_, hsp⟩
  have hjl : j < n := by rw [← hl]; exact (List.getElem?_eq_some_iff.1 hj).1
  have h1 := hc j hjl
  rw [hj] at h1
  have e : a.add j = ⟨a.block, a.off + j, none⟩ := by
    unfold Addr.add
    by_cases h0 : j = 0
    · subst h0
      have := hsp hjl
      cases a; simp_all
    · simp [h0]
  rw [← e]; exact h1

theorem reads_slice {e : TypeId} {β : Type} {R : β → List PV} (hu : P.underlying t = some (.slice e)) (hc : Nat.blt 0 (P.cellsOf e) = true) (h : Reads P e R) : Reads P t (fun l : List β => [.sl R l]) := fun H enc w base sp held n cs x hx => by
  have hpos : 0 < P.cellsOf e := by simpa [Nat.blt_eq] using hc
  rcases open_slice hu hx with ⟨rfl, _⟩ | ⟨a, len, cap, m, k, D, Pl, rfl, _, hl, hm, hmm, _, hel⟩
  · exact ⟨[], ⟨rfl, none, 0, rfl, Nat.le_refl _, Nat.zero_le _, .inl rfl⟩, trivial⟩
  · have hle : len ≤ m := by rw [hmm]; split <;> omega
    have key : ∀ j, j ≤ len → ∃ (l : List β) (vs : List Value), l.length = j ∧ vs.length = j * P.cellsOf e ∧ cellsAt w a.block a.off vs ∧ PVs (l.flatMap R) vs w noY := by
      intro j
      induction j with
      | zero => intro _; exact ⟨[], [], rfl, by simp, trivial, trivial⟩
      | succ j ih =>
        intro hj
        obtain ⟨l, vs, h1, h2, h3, h4⟩ := ih (by omega)
        obtain ⟨cs', h5, h6⟩ := hel j (by omega)
        obtain ⟨b, hb⟩ := h H enc w base sp held k cs' _ h6
        obtain ⟨h7, h8, _⟩ := cells_at h5
        refine ⟨l ++ [b], vs ++ cs', by simp [h1], by rw [List.length_append, h2, h7, Nat.succ_mul], cellsAt.append h3 ?_, ?_⟩
        · have e1 : (a.add (j * P.cellsOf e)).block = a.block := by unfold Addr.add; split <;> rfl
          have e2 : (a.add (j * P.cellsOf e)).off = a.off + j * P.cellsOf e := by unfold Addr.add; split <;> simp_all
          rw [e1, e2] at h8
          rw [h2]; exact h8
        · rw [List.flatMap_append]
          exact PVs.append h4 (by simpa using hb)
    obtain ⟨l, vs, h1, h2, h3, h4⟩ := key len (Nat.le_refl _)
    refine ⟨l, ⟨rfl, some a, cap, by rw [h1], by omega, hm, ?_⟩, trivial⟩
    by_cases h0 : len = 0
    · exact .inl (List.eq_nil_of_length_eq_zero (by omega))
    · right
      obtain ⟨cs', h5, h6⟩ := hel 0 (by omega)
      have hs := (cells_at h5).2.2 hpos
      have hspot : a.spot = none := by simpa [Addr.add] using hs
      have hlen : 0 < vs.length := by rw [h2]; exact Nat.mul_pos (by omega) hpos
      refine ⟨a.block, a.off, vs, by cases a; simp_all, fun h => h, ?_, h3, h4⟩
      match vs, hlen, h3 with
      | v :: vs, _, h3 => exact cellsAt.lt h3

/-- Whoever reads an argument of the type. -/
def ArgR (P : Program) (t : TypeId) {β : Type} (A : β → PV) : Prop :=
  ∀ (H : Type) (enc : TypeId × Value → H) (w : World) (base : Nat) (sp : Nat → Bool) (held : Bool) (r : Reach) (b0 : Nat) (v : Value) (d : DataW H) (ps : List MemPlace), Value.okWide P w r b0 t v → DataW.Trod enc P w base sp held t v d ps → ∃ b : β, (A b).p v w noY
def oneType (P : Program) (t : TypeId) : Bool := match P.underlying t with
  | some (.int _) => true
  | some .bool => true
  | some .string => true
  | some (.slice _) => true
  | _ => false
theorem one_cells {w : World} {r : Reach} {b0 : Nat} {v : Value} (ht : oneType P t = true) (h : Value.okWide P w r b0 t v) : v.cells.toList = [v] := by
  cases hu : P.underlying t with
  | none => simp [oneType, hu] at ht
  | some d =>
    cases d <;> simp [oneType, hu] at ht <;> simp only [Value.okWide, hu, Cell.okWide] at h <;> (unfold Cell.ok at h) <;> simp only [hu] at h <;> cases v <;> first | rfl | (exact h.elim)
theorem argR_one {β : Type} {A : β → PV} (ht : oneType P t = true) (h : Reads P t (fun b => [A b])) : ArgR P t A := fun H enc w base sp held r b0 v d ps ho ⟨n, hn⟩ => by
  rw [one_cells ht ho] at hn
  obtain ⟨b, hb⟩ := h H enc w base sp held n _ _ hn
  exact ⟨b, hb.1.2⟩
theorem argR_agg {β : Type} {R : β → List PV} {fs : Array Field} (hu : P.underlying t = some (.struct fs)) (h : Reads P t R) : ArgR P t (fun b => .agg (R b)) := fun H enc w base sp held r b0 v d ps ho ⟨n, hn⟩ => by
  unfold Value.okWide at ho
  simp only [hu] at ho
  obtain ⟨cs, rfl, _⟩ := ho
  obtain ⟨b, hb⟩ := h H enc w base sp held n _ _ hn
  exact ⟨b, cs.toList, by simp, hb⟩

def ArgsR (P : Program) (ts : List TypeId) {β : Type} (AA : β → List PV) : Prop :=
  ∀ (H : Type) (enc : TypeId × Value → H) (w : World) (base : Nat) (sp : Nat → Bool) (held : Bool) (r : Reach) (b0 : Nat) (vs : List Value) (ds : List (DataW H)) (ps : List MemPlace), (∀ (j : Nat) t v, ts[j]? = some t → vs[j]? = some v → Value.okWide P w r b0 t v) →
    DataW.TrodAll enc P w base sp held ts vs ds ps → ∃ b : β, PVt (AA b) vs w noY
theorem argsR_nil : ArgsR P [] (fun _ : Unit => []) := fun H enc w base sp held r b0 vs ds ps _ h => by
  obtain ⟨rfl, rfl, rfl⟩ := trodAll_nil h
  exact ⟨(), trivial⟩
theorem argsR_cons {ts : List TypeId} {β γ : Type} {A : β → PV} {AA : γ → List PV} (h : ArgR P t A) (h' : ArgsR P ts AA) : ArgsR P (t :: ts) (fun p : β × γ => A p.1 :: AA p.2) := fun H enc w base sp held r b0 vs ds ps ho hd => by
  obtain ⟨v, vs', d, ds', p, q, rfl, rfl, rfl, h1, h2⟩ := trodAll_cons hd
  obtain ⟨b, hb⟩ := h H enc w base sp held r b0 v d p (ho 0 t v rfl rfl) h1
  obtain ⟨c, hc⟩ := h' H enc w base sp held r b0 vs' ds' q (fun j t v h3 h4 => ho (j + 1) t v (by simpa using h3) (by simpa using h4)) h2
  exact ⟨(b, c), hb, hc⟩

theorem trodAll_len {H : Type} {enc : TypeId × Value → H} {w : World} {base : Nat} {sp : Nat → Bool} {held : Bool} : ∀ {ts : List TypeId} {vs : List Value} {ds : List (DataW H)} {ps : List MemPlace}, DataW.TrodAll enc P w base sp held ts vs ds ps → ds.length = ts.length
  | [], vs, ds, ps, h => by obtain ⟨rfl, rfl, rfl⟩ := trodAll_nil h; rfl
  | t :: ts, vs, ds, ps, h => by
    obtain ⟨v, vs', d, ds', p, q, rfl, rfl, rfl, h1, h2⟩ := trodAll_cons h
    simp [trodAll_len h2]
theorem trodAll_again {H : Type} {enc : TypeId × Value → H} {W W' : World} {sp' : Nat → Bool} (hl : laidOutB P = true) : ∀ {ts : List TypeId} {vs : List Value} {ds : List (DataW H)} {ps : List MemPlace}, (∀ t ∈ ts, P.readableRec t = true ∧ t < P.types.size) →
    DataW.TrodAll enc P W 0 (fun _ => true) true ts vs ds ps → (∀ p ∈ ps, W.sameAt W' p) → (∀ p ∈ ps, sp' p.block = true) → DataW.TrodAll enc P W' 0 sp' true ts vs ds ps
  | [], vs, ds, ps, _, h, _, _ => by obtain ⟨rfl, rfl, rfl⟩ := trodAll_nil h; exact trodAll_mk0
  | t :: ts, vs, ds, ps, ht, h, h1, h2 => by
    obtain ⟨v, vs', d, ds', p, q, rfl, rfl, rfl, h3, h4⟩ := trodAll_cons h
    refine trodAll_cons_mk (WideElems.Trod_stays hl (ht t (by simp)).1 (ht t (by simp)).2 h3 (fun p hp => h1 p (List.mem_append_left _ hp)) (fun p hp => h2 p (List.mem_append_left _ hp)))
      (trodAll_again hl (fun t ht' => ht t (by simp [ht'])) h4 (fun p hp => h1 p (List.mem_append_right _ hp)) (fun p hp => h2 p (List.mem_append_right _ hp)))

/-- The row's answer of a law that says 'true' and lets the input read as it did. -/
theorem law_contract {f : FuncId} {fn : Func} {s : ChangeSpec} {β : Type} {AA : β → List PV} {tb : TypeId} (hl : laidOutB P = true) (hts : ∀ t ∈ fn.params.toList, P.readableRec t = true ∧ t < P.types.size) {ts : List TypeId} (hA0 : ArgsR P ts AA) (hp : fn.params.toList = ts) (hF : ∀ b, FnP P f (AA b) (.bool true))
    (hv : s.vars = []) (hr : fn.resultTypes = #[tb]) (hb : P.underlying tb = some .bool) (hs : ∀ (H : Type) (ds : List (DataW H)), ds.length = fn.params.toList.length → s.fn H ds = { results := [.lit (.bool true)], args := ds, vars := [] })
    {apart fresh handsOn again : Bool} (H : Type) (enc : TypeId × Value → H) (W : World) (base : Nat) (args : Array Value) (ds gs : List (DataW H)) (before : List MemPlace)
    (hval : ∀ (j : Nat) t v, fn.params[j]? = some t → args[j]? = some v → Value.okWide P W .any base t v) (hW : DataW.Whole enc P fn.params.toList s.vars apart W args.toList ds gs before) :
    Calls P f args W fun e W' => ∃ v, e = .returned v ∧ s.post enc P fn apart fresh handsOn again W args v W' := by
  have hA : ArgsR P fn.params.toList AA := by rw [hp]; exact hA0
  have hW' := hW
  obtain ⟨p, q, hd, hg, hbe, hz, hn⟩ := hW
  have hg' : DataW.TrodVars enc P W (fun _ => true) [] gs q := by rw [← hv]; exact hg
  obtain ⟨hgs, hqs⟩ := trodVars_none hg'
  subst hgs; subst hqs
  obtain ⟨b, hargs⟩ := hA H enc W 0 _ true .any base args.toList ds p (fun j t v h1 h2 => hval j t v (by simpa using h1) (by simpa using h2)) hd
  have hlen := trodAll_len hd
  have hcall := hF b W noY args.toList (fun b h => h.elim) hargs
  rw [Array.toArray_toList] at hcall
  refine hcall.mono fun e W' h => ?_
  obtain ⟨v, rfl, hq, hbel⟩ := h
  have hv' : v = .bool true := hq
  subst hv'
  have hlt : ∀ p ∈ before, p.block < W.heap.size := fun p hp => hW'.lt p hp
  have hsp := hs H (ds ++ []) (by rw [List.append_nil]; exact hlen)
  refine ⟨_, rfl, ?_⟩
  have hps : before = p := by rw [hbe, List.append_nil]
  have hagain : ∀ sp : Nat → Bool, (∀ x ∈ before, sp x.block = true) → DataW.TrodAll enc P W' 0 sp true fn.params.toList args.toList (s.fn H (ds ++ [])).args p := fun sp h => by
    rw [hsp, List.append_nil]
    exact trodAll_again hl hts hd (fun x hx => hbel.same (hlt x (by rw [hps]; exact hx))) (fun x hx => h x (by rw [hps]; exact hx))
  have hres : ∀ (c : Nat) (sp : Nat → Bool) (hd : Bool), DataW.TrodAll enc P W' c sp hd fn.resultTypes.toList ((Value.bool true).resultList fn.resultTypes.size) (s.fn H (ds ++ [])).results [] := fun c sp hd => by
    rw [hsp, hr]
    exact trodAll_cons_mk (shut_bool hb _) trodAll_mk0
  have hvars : ∀ sp : Nat → Bool, DataW.TrodVars enc P W' sp s.vars (s.fn H (ds ++ [])).vars [] := fun sp => by rw [hsp, hv]; rfl
  have hold : ∀ x ∈ before, (fun b => decide (b < W.heap.size)) x.block = true := fun x hx => by simpa using hlt x hx
  refine ⟨ds, [], before, [], p, [], hW', hres _ _ _, hagain _ hold, hvars _, World.keptBut_mono (fun x hx => ⟨hx, ?_⟩) (hbel.frame _), fun _ => ?_⟩
  · rw [hps] at hx; exact Or.inr (by simpa using hx)
  · refine ⟨ok_one hr rfl (okWide_bool_mk hb _), _, _, ([] ++ p) ++ [], ⟨[] ++ p, [], trodAll_append (hagain _ (fun _ _ => rfl)) (hres _ _ _), hvars _, rfl, ?_, ?_⟩, ?_⟩
    · intro c off hp
      have hp' : MemPlace.cell c off ∈ before := by rw [hps]; simpa using hp
      rw [hbel.frozen (p := ⟨c, off, none⟩) (hlt _ hp')]
      exact hz c off hp'
    · intro ha
      have := hn ha
      rw [hps] at this
      simpa using this
    · intro x hx _
      rw [hps]
      simpa using hx
end
end Go.Gm
