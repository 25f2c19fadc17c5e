/- Who reaches whom, while arcs come and go: the plain law. No condition beyond those that each theorem says. -/
import Derived.Test.YtpahapjcdldodaaDoorCk0
namespace Go.Proofs.YtpahapjcdldodaaDoor
open Go Go.Gm
set_option linter.unusedVariables false
set_option linter.unusedSimpArgs false
set_option maxHeartbeats 4000000
set_option maxRecDepth 8000


theorem up_nil {n : Nat} : Up n [] := ⟨List.Pairwise.nil, by simp⟩
theorem len_split (l : List Int) (p : Int → Bool) : l.length = (l.filter p).length + (l.filter fun x => !p x).length := by
  induction l with
  | nil => rfl
  | cons a l ih =>
    cases h : p a <;> simp [h] <;> omega
theorem or_split {n : Nat} {x z : List Int} (hx : Up n x) (hz : Up n z) : (orL x n z).length = x.length + (minusL z x).length := by
  have ho := orL_up hx z
  have e1 : (orL x n z).filter (fun i => decide (i ∈ x)) = x := up_ext (filter_up ho _).1 hx.1 fun i => by
    rw [List.mem_filter, mem_orL hx]
    constructor
    · rintro ⟨_, h⟩; simpa using h
    · intro h; exact ⟨.inl h, by simpa using h⟩
  have e2 : (orL x n z).filter (fun i => !decide (i ∈ x)) = minusL z x := up_ext (filter_up ho _).1 (filter_up hz _).1 fun i => by
    unfold minusL
    rw [List.mem_filter, mem_orL hx, List.mem_filter]
    constructor
    · rintro ⟨h1 | h1, h2⟩
      · simp at h2; exact absurd h1 h2
      · exact ⟨h1.1, h2⟩
    · rintro ⟨h1, h2⟩; have := hz.2 i h1; exact ⟨.inr ⟨h1, this.1, this.2⟩, h2⟩
  have := len_split (orL x n z) (fun i => decide (i ∈ x))
  rw [e1, e2] at this
  exact this

theorem EQ_add {q : List PairD} {u v : Int} (a b : Int) : EQ_ (q ++ [⟨u, v⟩]) a b ↔ EQ_ q a b ∨ (a = u ∧ b = v) := by
  unfold EQ_
  rw [List.mem_append, List.mem_singleton, PairD.mk.injEq]
theorem add_none {q : List PairD} {u v : Int} (h : v ∈ reachQ q u) (x : Int) : reachQ (q ++ [⟨u, v⟩]) x = reachQ q x :=
  reachQ_eq fun w => Rch.add_same EQ_add (((reachQ_spec q u).2 v).1 h)
theorem InN.add {n : Nat} {q : List PairD} {u v : Int} (h : InN n q) (hu : 0 ≤ u ∧ u < n) (hv : 0 ≤ v ∧ v < n) : InN n (q ++ [⟨u, v⟩]) := fun p hp => by
  rcases List.mem_append.1 hp with hp | hp
  · exact h p hp
  · rw [List.mem_singleton] at hp; subst hp; exact ⟨hu, hv⟩
theorem InN.erase {n : Nat} {q : List PairD} {p : PairD} (h : InN n q) : InN n (q.erase p) := fun x hx => h x (List.mem_of_mem_erase hx)
theorem add_row {n : Nat} {q : List PairD} {u v x : Int} (hq : InN n q) (hu : 0 ≤ u ∧ u < n) (hv : 0 ≤ v ∧ v < n) (h : x = u ∨ u ∈ reachQ q x) : orL (reachQ q x) n (putL (reachQ q v) n v true) = reachQ (q ++ [⟨u, v⟩]) x := by
  have h1 := reachQ_up hq x
  refine up_ext (orL_up h1 _).1 (reachQ_spec _ x).1 fun w => ?_
  have h2 : x = u ∨ Rch (EQ_ q) x u := h.imp id fun k => ((reachQ_spec q x).2 u).1 k
  rw [mem_orL h1, mem_putL, (reachQ_spec q x).2, (reachQ_spec q v).2, (reachQ_spec _ x).2, Rch.add EQ_add]
  constructor
  · rintro (k | ⟨k, _⟩)
    · exact .inl k
    · rcases k with k | k
      · exact .inr ⟨h2, .inr k.2⟩
      · exact .inr ⟨h2, .inl k.1⟩
  · rintro (k | ⟨_, k⟩)
    · exact .inl k
    · refine .inr ?_
      rcases k with rfl | k
      · exact ⟨.inr ⟨rfl, rfl, hv⟩, hv⟩
      · have hb := (reachQ_up hq v).2 w (((reachQ_spec q v).2 w).2 k)
        by_cases e : w = v
        · subst e; exact ⟨.inr ⟨rfl, rfl, hv⟩, hv⟩
        · exact ⟨.inl ⟨e, k⟩, hb⟩
theorem add_row_no {q : List PairD} {u v x : Int} (h : ¬ (x = u ∨ u ∈ reachQ q x)) : reachQ (q ++ [⟨u, v⟩]) x = reachQ q x := by
  rw [(reachQ_spec q x).2] at h
  refine reachQ_eq fun w => ?_
  rw [Rch.add EQ_add]
  exact ⟨fun k => by rcases k with k | k; exact k; exact absurd k.1 h, .inl⟩
theorem drop_more {q : List PairD} {p : PairD} (h : p ∈ q.erase p) (x : PairD) : x ∈ q.erase p ↔ x ∈ q := by
  by_cases e : x = p
  · subst e; exact ⟨fun _ => List.mem_of_mem_erase h, fun _ => h⟩
  · exact List.mem_erase_of_ne e
theorem EQ_drop {q : List PairD} {u v : Int} (h : (⟨u, v⟩ : PairD) ∈ q) (a b : Int) : EQ_ q a b ↔ EQ_ (q.erase ⟨u, v⟩) a b ∨ (a = u ∧ b = v) := by
  unfold EQ_
  by_cases e : (⟨a, b⟩ : PairD) = ⟨u, v⟩
  · rw [PairD.mk.injEq] at e
    obtain ⟨rfl, rfl⟩ := e
    exact ⟨fun _ => .inr ⟨rfl, rfl⟩, fun _ => h⟩
  · rw [List.mem_erase_of_ne e]
    rw [PairD.mk.injEq] at e
    exact ⟨.inl, fun k => by rcases k with k | k; exact k; exact absurd k e⟩
theorem drop_row_no {q : List PairD} {u v x : Int} (h : (⟨u, v⟩ : PairD) ∈ q) (hx : ¬ (x = u ∨ u ∈ reachQ q x)) : reachQ (q.erase ⟨u, v⟩) x = reachQ q x := by
  rw [(reachQ_spec q x).2] at hx
  exact reachQ_eq fun w => Rch.drop_same (EQ_drop h) hx
/-- What look keeps. -/
structure LookV (n : Nat) (q : List PairD) (x : Int) (row wait : List Int) : Prop where
  up : Up n row
  rch : ∀ v ∈ row, Rch (EQ_ q) x v
  sub : ∀ v ∈ wait, v ∈ row
  one : ∀ w, EQ_ q x w → w ∈ row
  all : ∀ v ∈ row, v ∈ wait ∨ ∀ w, EQ_ q v w → w ∈ row
theorem look_start {n : Nat} {q : List PairD} {x : Int} (h : InN n q) : LookV n q x (nextQ q n x) (nextQ q n x) := ⟨nextQ_up q n x, fun v hv => .one ((mem_nextQ h).1 hv), fun _ h => h, fun w hw => (mem_nextQ h).2 hw, fun v hv => .inl hv⟩
theorem look_end {n : Nat} {q : List PairD} {x : Int} {row : List Int} (h : LookV n q x row []) : row = reachQ q x := by
  refine up_ext h.up.1 (reachQ_spec q x).1 fun w => ?_
  rw [(reachQ_spec q x).2]
  refine ⟨h.rch w, fun k => ?_⟩
  induction k with
  | one k => exact h.one _ k
  | step _ k ih =>
    rcases h.all _ ih with j | j
    · cases j
    · exact j _ k
theorem look_step {n : Nat} {q : List PairD} {x y : Int} {row wait : List Int} (hq : InN n q) (h : LookV n q x row (wait ++ [y])) : LookV n q x (orL row n (minusL (nextQ q n y) row)) (wait ++ minusL (nextQ q n y) row) := by
  have hy : y ∈ row := h.sub y (by simp)
  have hf : ∀ w, w ∈ minusL (nextQ q n y) row ↔ EQ_ q y w ∧ w ∉ row := fun w => by unfold minusL; rw [List.mem_filter, mem_nextQ hq]; simp
  have hm : ∀ w, w ∈ orL row n (minusL (nextQ q n y) row) ↔ w ∈ row ∨ EQ_ q y w := fun w => by
    rw [mem_orL h.up, hf]
    constructor
    · rintro (k | k)
      · exact .inl k
      · exact .inr k.1.1
    · rintro (k | k)
      · exact .inl k
      · by_cases e : w ∈ row
        · exact .inl e
        · exact .inr ⟨⟨k, e⟩, (hq _ k).2⟩
  refine ⟨orL_up h.up _, fun v hv => ?_, fun v hv => ?_, fun w hw => (hm w).2 (.inl (h.one w hw)), fun v hv => ?_⟩
  · rcases (hm v).1 hv with k | k
    · exact h.rch v k
    · exact .step (h.rch y hy) k
  · rcases List.mem_append.1 hv with k | k
    · exact (hm v).2 (.inl (h.sub v (by simp [k])))
    · exact (hm v).2 (.inr ((hf v).1 k).1)
  · by_cases e : v ∈ row
    · by_cases e2 : v = y
      · subst e2; exact .inr fun w hw => (hm w).2 (.inr hw)
      · rcases h.all v e with k | k
        · rcases List.mem_append.1 k with k | k
          · exact .inl (by simp [k])
          · exact absurd (by simpa using k) e2
        · exact .inr fun w hw => (hm w).2 (.inl (k w hw))
    · rcases (hm v).1 hv with k | k
      · exact absurd k e
      · exact .inl (List.mem_append.2 (.inr ((hf v).2 ⟨k, e⟩)))
theorem up_len {n : Nat} {x : List Int} (h : Up n x) : x.length ≤ n := by
  have := inc_sub_len (d := (List.range n).map fun j : Nat => (j : Int)) h.1 fun v hv => mem_range_up.2 (h.2 v hv)
  simpa using this
theorem look_len {n : Nat} {row z : List Int} (h : Up n row) (hz : Up n z) : (orL row n (minusL z row)).length = row.length + (minusL z row).length := by
  rw [or_split h (show Up n (minusL z row) from ⟨hz.1.filter _, fun i hi => hz.2 i (List.mem_filter.1 hi).1⟩)]
  congr 1
  unfold minusL
  rw [List.filter_filter]
  congr 1
  refine List.filter_congr fun i _ => ?_
  simp
/-- All rows, and which ones are not the same. -/
def rowsQ (q : List PairD) (n : Nat) : List (List Int) := (List.range n).map fun i : Nat => reachQ q (i : Int)
def otherL (a b : List (List Int)) : List Int := ((List.range a.length).filter fun i => !decide (Go.Gm.nth a i = Go.Gm.nth b i)).map fun i : Nat => (i : Int)
theorem rowsQ_len (q : List PairD) (n : Nat) : (rowsQ q n).length = n := by unfold rowsQ; rw [List.length_map, List.length_range]
theorem rowsQ_nth {q : List PairD} {n i : Nat} (h : i < n) : Go.Gm.nth (rowsQ q n) i = reachQ q (i : Int) := by
  unfold rowsQ
  rw [nth_eq (by simpa using h), List.getElem_map, List.getElem_range]
theorem rowsQ_congr {q r : List PairD} (n : Nat) (h : ∀ x, reachQ q x = reachQ r x) : rowsQ q n = rowsQ r n := by unfold rowsQ; exact List.map_congr_left fun i _ => h _
theorem otherL_self (a : List (List Int)) : otherL a a = [] := by unfold otherL; rw [List.filter_eq_nil_iff.2 (by simp)]; rfl

/-- Values of arrays of 32 bits. -/
def kv32 {κ : Type} (enc : κ → List Int) (k : κ) : Value := .agg ((enc k).map fun n => Value.int .i32 n).toArray
theorem same_ints32 (l : List Int) (n : Nat) : Instr.sameBits (n + 1) (.agg (l.map fun n => Value.int .i32 n).toArray) (.agg (l.map fun n => Value.int .i32 n).toArray) = true := by
  unfold Instr.sameBits
  simp
  intro a b h
  have key : ∀ (l : List Int), (a, b) ∈ (l.map fun n => Value.int .i32 n).zip (l.map fun n => Value.int .i32 n) → ∃ x, a = .int .i32 x ∧ b = .int .i32 x := by
    intro l
    induction l with
    | nil => intro h; simp at h
    | cons x l ih =>
      intro h
      simp at h
      rcases h with ⟨rfl, rfl⟩ | h
      · exact ⟨x, rfl, rfl⟩
      · exact ih (by simpa using h)
  obtain ⟨x, rfl, rfl⟩ := key l (by simpa using h)
  cases n <;> simp [Instr.sameBits]
theorem eqItems_ints32 {P : Program} {w : World} {d : Nat} {e : TypeId} (he : P.underlying e = some (.int .i32)) {l m : List Int} : ∀ (is : List Nat), (∀ i ∈ is, i < l.length ∧ i < m.length) → (Op.eqItems (d + 1) e 1 (l.map fun n => Value.int .i32 n).toArray (m.map fun n => Value.int .i32 n).toArray is).run P w = .ok (is.all fun i => decide (l[i]? = m[i]?)) w
  | [], _ => by simp [Op.eqItems]
  | i :: is, h => by
    have hag : P.aggB e = some false := by unfold Program.aggB; rw [he]
    obtain ⟨h1, h2⟩ := h i (by simp)
    have p1 : (part e (l.map fun n => Value.int .i32 n).toArray (i * 1)).run P w = .ok (.int .i32 l[i]) w := by simp [part, run_isAgg hag, h1]
    have p2 : (part e (m.map fun n => Value.int .i32 n).toArray (i * 1)).run P w = .ok (.int .i32 m[i]) w := by simp [part, run_isAgg hag, h2]
    have p3 : (Op.equalIn (d + 1) e (.int .i32 l[i]) (.int .i32 m[i])).run P w = .ok (l[i] == m[i]) w := run_equalIn_int w d e .i32 _ _ _ he
    have ih := eqItems_ints32 (P := P) (w := w) (d := d) he is (fun j hj => h j (List.mem_cons_of_mem _ hj))
    simp only [Op.eqItems, Sem.run_bind, p1, p2, p3, Result.andThen_ok]
    rw [List.all_cons, List.getElem?_eq_getElem h1, List.getElem?_eq_getElem h2]
    by_cases hab : l[i] = m[i]
    · simp [hab, ih]
    · simp [hab]
theorem all_range32 {l m : List Int} {n : Nat} (hl : l.length = n) (hm : m.length = n) : ((List.range n).all fun i => decide (l[i]? = m[i]?)) = decide (l = m) := by
  rw [Bool.eq_iff_iff, List.all_eq_true, decide_eq_true_eq]
  constructor
  · intro h
    apply List.ext_getElem?
    intro i
    by_cases hi : i < n
    · simpa using h i (List.mem_range.2 hi)
    · rw [List.getElem?_eq_none (by omega), List.getElem?_eq_none (by omega)]
  · rintro rfl i _
    simp
/-- Arrays of integers of 32 bits as keys. -/
theorem key_arr32 {P : Program} {κ : Type} [DecidableEq κ] {kt et : TypeId} {enc : κ → List Int} {n : Nat} (hl : ∀ k, (enc k).length = n) (hi : ∀ a b, enc a = enc b → a = b) (hu : P.underlying kt = some (.array n et)) (he : P.underlying et = some (.int .i32)) (hc : P.cellsOf et = 1) : KeyG P kt (fun k => ∀ x ∈ enc k, inR .i32 x) (kv32 enc) where
  check := fun b k w _ => by
    obtain ⟨ti, hti⟩ : ∃ i, P.info? et = some i := info_of_underlying he
    have hag : P.aggB et = some false := by unfold Program.aggB; rw [he]
    unfold kv32
    rw [show (10000 : Nat) = 9998 + 1 + 1 from rfl, Instr.checkKey]
    simp only [Sem.run_bind, run_underlying hu, Result.andThen_ok]
    simp only [Std.Legacy.Range.forIn_eq_forIn_range', Std.Legacy.Range.size, Nat.sub_zero, Nat.add_one_sub_one, Nat.div_one]
    have each : ∀ i ∈ List.range' 0 n, i < (enc k).length := by intro i h; rw [hl]; simp [List.mem_range'] at h; omega
    generalize List.range' 0 n = is at each
    induction is with
    | nil => simp
    | cons j is ih =>
      have h1 := each j (by simp)
      have p1 : (part et ((enc k).map fun n => Value.int .i32 n).toArray (j * 1)).run P w = .ok (.int .i32 (enc k)[j]) w := by simp [part, run_isAgg hag, h1]
      have p2 : (Instr.checkKey b (9998 + 1) et (.int .i32 (enc k)[j])).run P w = .ok () w := Go.MapKept.run_checkKey he (by simp [Go.MapKept.IsKey]) b 9998
      simp only [List.forIn_cons, Sem.run_bind, run_sizeOf w hti, hc, Result.andThen_ok, p1, p2, Sem.run_pure]
      exact ih (fun y hy => each y (by simp [hy]))
  find := fun es k w hok hks => by
    obtain ⟨ti, hti⟩ : ∃ i, P.info? et = some i := info_of_underlying he
    rw [run_findKey_eq (P := P) (w := w) (k := kt) (by rw [hu]) (kv32 enc k) (es.map (rEnc (kv32 enc)))]
    have key : ∀ (es : List (GE κ Value)) (j : Nat), (Instr.findAsking kt (kv32 enc k) (es.map (rEnc (kv32 enc))) j).run P w = .ok ((gIdx k es).map fun i => (i + j, (gGet k es).getD undef)) w := by
      intro es
      induction es with
      | nil => intro j; simp [Instr.findAsking, gIdx]
      | cons e es ih =>
        intro j
        have hq : (Op.equal kt (kv32 enc k) (kv32 enc e.key)).run P w = .ok (decide (enc k = enc e.key)) w := by
          unfold Op.equal Op.maxDepth kv32
          rw [show (10000 : Nat) = 9998 + 1 + 1 from rfl, run_equalIn_array w (9998 + 1) _ _ hu hti, hc, eqItems_ints32 he _ (fun i h => by rw [hl, hl]; simpa using h), all_range32 (hl _) (hl _)]
        rw [List.map_cons]
        unfold Instr.findAsking
        have ih' := ih (j + 1)
        by_cases h : k = e.key
        · have hek : enc k = enc e.key := by rw [h]
          simp only [rEnc, Sem.run_bind, hq, hek, decide_true, Result.andThen_ok, if_true, Sem.run_pure]
          simp [gIdx, gGet, h]
        · have hek : ¬ enc k = enc e.key := fun h' => h (hi _ _ h')
          simp only [rEnc, Sem.run_bind, hq, decide_eq_false hek, Result.andThen_ok, Bool.false_eq_true, if_false]
          rw [show (es.map fun e => rEnc (kv32 enc) e) = es.map (rEnc (kv32 enc)) from rfl] at *
          rw [ih']
          simp only [gIdx, gGet, if_neg h]
          cases hm : gIdx k es with
          | none => rfl
          | some i => simp; omega
    have := key es 0
    simpa using this
  same := fun k => same_ints32 (enc k) 9999
theorem pvs_ints32 {w : World} {y : Ys} : ∀ {l : List Int} {vs : List Value}, PVs (l.map fun n => PV.int .i32 n) vs w y → vs = l.map (fun n => Value.int .i32 n) ∧ ∀ x ∈ l, inR .i32 x
  | [], [], _ => ⟨rfl, by simp⟩
  | [], _ :: _, h => h.elim
  | _ :: _, [], h => h.elim
  | n :: l, v :: vs, h => by
    obtain ⟨h1, h2⟩ := pvs_ints32 (l := l) h.2
    have h3 : v = .int .i32 n ∧ inR .i32 n := h.1.2
    exact ⟨by rw [h3.1, h1]; rfl, fun x hx => by rcases List.mem_cons.1 hx with rfl | hx; exact h3.2; exact h2 x hx⟩
theorem IsKeyOf.agg32 {κ : Type} {x : Operand} {ps : List (Nat × SF)} {enc : κ → List Int} {k : κ} {l : List PV} (h : Opd x ps (.pv (.agg l))) (e : l = (enc k).map fun n => PV.int .i32 n) : IsKeyOf (fun k => ∀ x ∈ enc k, inR .i32 x) (kv32 enc) x ps k := fun a w yy hp => by
  subst e
  obtain ⟨vs, e1, hv⟩ := h a w yy hp
  obtain ⟨h1, h2⟩ := pvs_ints32 hv
  exact ⟨by rw [e1, h1]; rfl, h2⟩
def encP (p : PairD) : List Int := [p.key, p.val]

def roomN (n : Int) : Nat := (if n < 0 then 0 else if n > 4096 then 4096 else n).toNat
theorem roomN_le (n : Int) : roomN n ≤ 4096 := by unfold roomN; split; (· omega); split <;> omega
theorem roomN_eq (n : Int) : (if 4096 < (if n < 0 then 0 else n) then 4096 else if n < 0 then 0 else n) = ((roomN n : Nat) : Int) := by unfold roomN; split <;> split <;> (try split) <;> omega

end Go.Proofs.YtpahapjcdldodaaDoor
