/- Ds0, Ds1, Ds2, Ds3, in one text. -/
import Derived.Test.YtpnaolljmhhdbaaHi6
import Derived.Test.YtpnaolljmhhdbaaPk3
import Derived.Test.YtpnaolljmhhdbaaHiL
import Derived.Test.YtpnaolljmhhdbaaLibE
namespace Go.Proofs.Ytpnaolljmhhdbaa
open Go Go.Gm
set_option linter.unusedVariables false
set_option linter.unusedSimpArgs false
set_option maxHeartbeats 4000000
set_option maxRecDepth 8000

theorem eqItems_ints {P : Program} {w : World} {d : Nat} {e : TypeId} (he : P.underlying e = some (.int .i64)) {l m : List Int} : ∀ (is : List Nat), (∀ i ∈ is, i < l.length ∧ i < m.length) → (Op.eqItems (d + 1) e 1 (l.map fun n => Value.int .i64 n).toArray (m.map fun n => Value.int .i64 n).toArray is).run P w = .ok (is.all fun i => decide (l[i]? = m[i]?)) w
  | [], _ => by simp [Op.eqItems]
  | i :: is, h => by
    have hag : P.aggB e = some false := by unfold Program.aggB; rw [he]
    obtain ⟨h1, h2⟩ := h i (by simp)
    have p1 : (part e (l.map fun n => Value.int .i64 n).toArray (i * 1)).run P w = .ok (.int .i64 l[i]) w := by simp [part, run_isAgg hag, h1]
    have p2 : (part e (m.map fun n => Value.int .i64 n).toArray (i * 1)).run P w = .ok (.int .i64 m[i]) w := by simp [part, run_isAgg hag, h2]
    have p3 : (Op.equalIn (d + 1) e (.int .i64 l[i]) (.int .i64 m[i])).run P w = .ok (l[i] == m[i]) w := run_equalIn_int w d e .i64 _ _ _ he
    have ih := eqItems_ints (P := P) (w := w) (d := d) he is (fun j hj => h j (List.mem_cons_of_mem _ hj))
    simp only [Op.eqItems, Sem.run_bind, p1, p2, p3, Result.andThen_ok]
    rw [List.all_cons, List.getElem?_eq_getElem h1, List.getElem?_eq_getElem h2]
    by_cases hab : l[i] = m[i]
    · simp [hab, ih]
    · simp [hab]
theorem all_range {l m : List Int} {n : Nat} (hl : l.length = n) (hm : m.length = n) : ((List.range n).all fun i => decide (l[i]? = m[i]?)) = decide (l = m) := by
  rw [Bool.eq_iff_iff, List.all_eq_true, decide_eq_true_eq]
  constructor
  · intro h
    apply List.ext_getElem?
    intro i
    by_cases hi : i < n
    · simpa using h i (List.mem_range.2 hi)
    · rw [List.getElem?_eq_none (by omega), List.getElem?_eq_none (by omega)]
  · rintro rfl i _
    simp
/-- Arrays of integers as keys. -/
theorem key_arrG {P : Program} {κ : Type} [DecidableEq κ] {kt et : TypeId} {enc : κ → List Int} {n : Nat} (hl : ∀ k, (enc k).length = n) (hi : ∀ a b, enc a = enc b → a = b) (hu : P.underlying kt = some (.array n et)) (he : P.underlying et = some (.int .i64)) (hc : P.cellsOf et = 1) : KeyG P kt (fun k => ∀ x ∈ enc k, inR .i64 x) (kvS enc) where
  check := fun b k w _ => by
    obtain ⟨ti, hti⟩ : ∃ i, P.info? et = some i := info_of_underlying he
    have hag : P.aggB et = some false := by unfold Program.aggB; rw [he]
    unfold kvS
    rw [show (10000 : Nat) = 9998 + 1 + 1 from rfl, Instr.checkKey]
    simp only [Sem.run_bind, run_underlying hu, Result.andThen_ok]
    simp only [Std.Legacy.Range.forIn_eq_forIn_range', Std.Legacy.Range.size, Nat.sub_zero, Nat.add_one_sub_one, Nat.div_one]
    have each : ∀ i ∈ List.range' 0 n, i < (enc k).length := by intro i h; rw [hl]; simp [List.mem_range'] at h; omega
    generalize List.range' 0 n = is at each
    induction is with
    | nil => simp
    | cons j is ih =>
      have h1 := each j (by simp)
      have p1 : (part et ((enc k).map fun n => Value.int .i64 n).toArray (j * 1)).run P w = .ok (.int .i64 (enc k)[j]) w := by simp [part, run_isAgg hag, h1]
      have p2 : (Instr.checkKey b (9998 + 1) et (.int .i64 (enc k)[j])).run P w = .ok () w := Go.MapKept.run_checkKey he (by simp [Go.MapKept.IsKey]) b 9998
      simp only [List.forIn_cons, Sem.run_bind, run_sizeOf w hti, hc, Result.andThen_ok, p1, p2, Sem.run_pure]
      exact ih (fun y hy => each y (by simp [hy]))
  find := fun es k w hok hks => by
    obtain ⟨ti, hti⟩ : ∃ i, P.info? et = some i := info_of_underlying he
    rw [run_findKey_eq (P := P) (w := w) (k := kt) (by rw [hu]) (kvS enc k) (es.map (rEnc (kvS enc)))]
    have key : ∀ (es : List (GE κ Value)) (j : Nat), (Instr.findAsking kt (kvS enc k) (es.map (rEnc (kvS enc))) j).run P w = .ok ((gIdx k es).map fun i => (i + j, (gGet k es).getD undef)) w := by
      intro es
      induction es with
      | nil => intro j; simp [Instr.findAsking, gIdx]
      | cons e es ih =>
        intro j
        have hq : (Op.equal kt (kvS enc k) (kvS enc e.key)).run P w = .ok (decide (enc k = enc e.key)) w := by
          unfold Op.equal Op.maxDepth kvS
          rw [show (10000 : Nat) = 9998 + 1 + 1 from rfl, run_equalIn_array w (9998 + 1) _ _ hu hti, hc, eqItems_ints he _ (fun i h => by rw [hl, hl]; simpa using h), all_range (hl _) (hl _)]
        rw [List.map_cons]
        unfold Instr.findAsking
        have ih' := ih (j + 1)
        by_cases h : k = e.key
        · have hek : enc k = enc e.key := by rw [h]
          simp only [rEnc, Sem.run_bind, hq, hek, decide_true, Result.andThen_ok, if_true, Sem.run_pure]
          simp [gIdx, gGet, h]
        · have hek : ¬ enc k = enc e.key := fun h' => h (hi _ _ h')
          simp only [rEnc, Sem.run_bind, hq, decide_eq_false hek, Result.andThen_ok, Bool.false_eq_true, if_false]
          rw [show (es.map fun e => rEnc (kvS enc) e) = es.map (rEnc (kvS enc)) from rfl] at *
          rw [ih']
          simp only [gIdx, gGet, if_neg h]
          cases hm : gIdx k es with
          | none => rfl
          | some i => simp; omega
    have := key es 0
    simpa using this
  same := fun k => same_ints (enc k) 9999
/-- What was put last. -/
def asgF {κ : Type} [DecidableEq κ] (A : List (κ × Int)) (k : κ) : Int := A.foldl (fun x z => if k = z.1 then z.2 else x) 0
theorem asgF_snoc {κ : Type} [DecidableEq κ] {A : List (κ × Int)} {z : κ × Int} {k : κ} : asgF (A ++ [z]) k = if k = z.1 then z.2 else asgF A k := by unfold asgF; rw [List.foldl_append]; rfl
theorem asgF_one {κ : Type} [DecidableEq κ] {k : κ} (A : List (κ × Int)) (hA : ∀ z ∈ A, z.2 = 1) : 0 ≤ asgF A k ∧ asgF A k ≤ 1 := by
  have key : ∀ (A : List (κ × Int)) (x : Int), (∀ z ∈ A, z.2 = 1) → 0 ≤ x ∧ x ≤ 1 → 0 ≤ A.foldl (fun x z => if k = z.1 then z.2 else x) x ∧ A.foldl (fun x z => if k = z.1 then z.2 else x) x ≤ 1 := by
    intro A
    induction A with
    | nil => intro x _ h; exact h
    | cons z A ih =>
      intro x hz hx
      rw [List.foldl_cons]
      refine ih _ (fun y hy => hz y (List.mem_cons_of_mem _ hy)) ?_
      have := hz z (by simp)
      split <;> omega
  exact key A 0 hA (by omega)
structure KeyD where
  fst : Int
  snd : Int
  deriving DecidableEq, Inhabited
def encK (k : KeyD) : List Int := [k.fst, k.snd]
def encEi (e : EdgeD) : List Int := [e.src, e.dst, e.kind, e.key]
def donesA (l : List TxD) : List (Int × Int) := (l.filter TxD.done).map fun t => (t.id, 1)
def lastK1 (id : Int) (l : List OpD) : List KeyD := (l.filter fun o => !o.read).map fun o => ⟨id, o.key⟩
def lastK (l : List TxD) : List KeyD := l.flatMap fun t => if t.done = true then lastK1 t.id t.ops else []
def atI (l : List Int) (j : Nat) : Int := if j = 0 then 0 else Go.Gm.nth l (j - 1)
def nxO (o : OrdD) (j : Nat) : List (KeyD × Int) := (List.range j).map fun i => (⟨o.key, atI o.txs i⟩, Go.Gm.nth o.txs i)
def nxA (l : List OrdD) : List (KeyD × Int) := l.flatMap fun o => nxO o o.txs.length
theorem donesA_step {l : List TxD} {i : Nat} (hi : i < l.length) : donesA (l.take (i + 1)) = donesA (l.take i) ++ if (Go.Gm.nth l i).done = true then [((Go.Gm.nth l i).id, 1)] else [] := by
  unfold donesA
  rw [take_nth hi, List.filter_append, List.map_append]
  cases hd : (Go.Gm.nth l i).done <;> simp [hd]
theorem lastK_step {l : List TxD} {i : Nat} (hi : i < l.length) : lastK (l.take (i + 1)) = lastK (l.take i) ++ if (Go.Gm.nth l i).done = true then lastK1 (Go.Gm.nth l i).id (Go.Gm.nth l i).ops else [] := by
  unfold lastK
  rw [take_nth hi, List.flatMap_append]
  simp
theorem lastK1_step {id : Int} {l : List OpD} {j : Nat} (hj : j < l.length) : lastK1 id (l.take (j + 1)) = lastK1 id (l.take j) ++ if (Go.Gm.nth l j).read = true then [] else [⟨id, (Go.Gm.nth l j).key⟩] := by
  unfold lastK1
  rw [take_nth hj, List.filter_append, List.map_append]
  cases hd : (Go.Gm.nth l j).read <;> simp [hd]
theorem lastK1_len (id : Int) (l : List OpD) : (lastK1 id l).length ≤ l.length := by unfold lastK1; rw [List.length_map]; exact List.length_filter_le _ _
theorem lastK_len {l : List TxD} (h : SmallT l) (i : Nat) : (lastK (l.take i)).length ≤ 1000 * i := by
  have key : ∀ l : List TxD, (∀ t ∈ l, t.ops.length ≤ 1000) → (lastK l).length ≤ 1000 * l.length := by
    intro l
    induction l with
    | nil => intro _; simp [lastK]
    | cons t l ih =>
      intro h
      have h1 := ih fun x hx => h x (by simp [hx])
      have h2 := h t (by simp)
      have h3 := lastK1_len t.id t.ops
      unfold lastK at h1 ⊢
      rw [List.flatMap_cons, List.length_append, List.length_cons]
      split
      · omega
      · simp only [List.length_nil]; omega
  have h1 := key (l.take i) fun t ht => h.2 t (List.mem_of_mem_take ht)
  have h2 : (l.take i).length ≤ i := by rw [List.length_take]; omega
  exact Nat.le_trans h1 (Nat.mul_le_mul_left _ h2)
theorem nxO_step {o : OrdD} {j : Nat} : nxO o (j + 1) = nxO o j ++ [(⟨o.key, atI o.txs j⟩, Go.Gm.nth o.txs j)] := by unfold nxO; rw [List.range_succ, List.map_append]; rfl
theorem nxA_step {l : List OrdD} {i : Nat} (hi : i < l.length) : nxA (l.take (i + 1)) = nxA (l.take i) ++ nxO (Go.Gm.nth l i) (Go.Gm.nth l i).txs.length := by
  unfold nxA
  rw [take_nth hi, List.flatMap_append]
  simp
/-- Maps of what was put last, and of how often. -/
def AsgV {κ : Type} [DecidableEq κ] (es : List (GE κ Int)) (A : List (κ × Int)) : Prop := ∀ k, (gGet k es).getD 0 = asgF A k
def CntV {κ : Type} [DecidableEq κ] (es : List (GE κ Int)) (R : List κ) : Prop := ∀ k, (gGet k es).getD 0 = (R.count k : Int)
theorem asg_put {κ : Type} [DecidableEq κ] {es : List (GE κ Int)} {A : List (κ × Int)} {ck : Nat} {k : κ} {x : Int} (h : AsgV es A) : AsgV (gPut k x (es, ck)).1 (A ++ [(k, x)]) := fun k' => by
  rw [gGet_put, asgF_snoc, ← h k']
  split <;> rfl
theorem cnt_inc {κ : Type} [DecidableEq κ] {es : List (GE κ Int)} {R : List κ} {ck : Nat} {k : κ} (h : CntV es R) (hl : R.length ≤ 100000000) : CntV (gSet k (IntKind.wrap .i64 ((gGet k es).getD 0 + 1)) (gEns 0 k (es, ck)).1) (R ++ [k]) := fun k' => by
  have hc : R.count k ≤ R.length := List.count_le_length
  rw [gGet_entry, h k, wrap_i64 (by omega), List.count_append]
  by_cases e : k' = k
  · subst e; rw [if_pos rfl]; simp
  · rw [if_neg e, h k']; simp [List.count_cons, Ne.symm e]
/-- The edges a read is a reason for. -/
def doneI (g : HistD) (id : Int) : Int := asgF (donesA g.txs) id
def lastI (g : HistD) (id k : Int) : Int := ((lastK g.txs).count ⟨id, k⟩ : Int)
def nxI (g : HistD) (k x : Int) : Int := asgF (nxA g.orders) ⟨k, x⟩
def rdNo (g : HistD) (t : TxD) (o : OpD) : Bool := decide (o.tx = t.id) || (!decide (o.tx = 0) && (decide (doneI g o.tx = 0) || !decide (lastI g o.tx o.key = o.nth)))
def rdA (t : TxD) (o : OpD) : List EdgeD := if o.tx = 0 then [] else [⟨o.tx, t.id, 2, o.key⟩]
def rdB (g : HistD) (t : TxD) (o : OpD) : List EdgeD := if nxI g o.key o.tx ≠ 0 ∧ nxI g o.key o.tx ≠ t.id then [⟨t.id, nxI g o.key o.tx, 3, o.key⟩] else []
def rdO (g : HistD) (t : TxD) (o : OpD) : List EdgeD := if rdNo g t o = true then [] else rdA t o ++ rdB g t o
theorem rdO_len (g : HistD) (t : TxD) (o : OpD) : (rdO g t o).length ≤ 2 := by
  unfold rdO rdA rdB
  split
  · simp
  · split <;> split <;> simp
def rdT (p : Int → Bool) (g : HistD) (t : TxD) (l : List OpD) : List EdgeD := l.flatMap fun o => if (t.done && (o.read && p o.key)) = true then rdO g t o else []
def rdH (p : Int → Bool) (g : HistD) (l : List TxD) : List EdgeD := l.flatMap fun t => rdT p g t t.ops
theorem rdT_step {p : Int → Bool} {g : HistD} {t : TxD} {l : List OpD} {j : Nat} (hj : j < l.length) : rdT p g t (l.take (j + 1)) = rdT p g t (l.take j) ++ if (t.done && ((Go.Gm.nth l j).read && p (Go.Gm.nth l j).key)) = true then rdO g t (Go.Gm.nth l j) else [] := by
  unfold rdT
  rw [take_nth hj, List.flatMap_append]
  simp
theorem rdH_step {p : Int → Bool} {g : HistD} {l : List TxD} {i : Nat} (hi : i < l.length) : rdH p g (l.take (i + 1)) = rdH p g (l.take i) ++ rdT p g (Go.Gm.nth l i) (Go.Gm.nth l i).ops := by
  unfold rdH
  rw [take_nth hi, List.flatMap_append]
  simp
theorem rdT_len (p : Int → Bool) (g : HistD) (t : TxD) (l : List OpD) : (rdT p g t l).length ≤ 2 * l.length := by
  induction l with
  | nil => simp [rdT]
  | cons o l ih =>
    have h1 := rdO_len g t o
    unfold rdT at ih ⊢
    rw [List.flatMap_cons, List.length_append, List.length_cons]
    split
    · omega
    · simp only [List.length_nil]; omega
theorem rdH_len {p : Int → Bool} {g : HistD} {l : List TxD} (h : SmallT l) (i : Nat) : (rdH p g (l.take i)).length ≤ 2000 * i := by
  have key : ∀ l : List TxD, (∀ t ∈ l, t.ops.length ≤ 1000) → (rdH p g l).length ≤ 2000 * l.length := by
    intro l
    induction l with
    | nil => intro _; simp [rdH]
    | cons t l ih =>
      intro h
      have h1 := ih fun x hx => h x (by simp [hx])
      have h2 := h t (by simp)
      have h3 := rdT_len p g t t.ops
      unfold rdH at h1 ⊢
      rw [List.flatMap_cons, List.length_append, List.length_cons]
      omega
  have h1 := key (l.take i) fun t ht => h.2 t (List.mem_of_mem_take ht)
  have h2 : (l.take i).length ≤ i := by rw [List.length_take]; omega
  exact Nat.le_trans h1 (Nat.mul_le_mul_left _ h2)
def wwO (o : OrdD) (j : Nat) : List (EdgeD × Int) := (List.range j).map fun i => (⟨Go.Gm.nth o.txs i, Go.Gm.nth o.txs (i + 1), 1, o.key⟩, 1)
def wwA (p : Int → Bool) (l : List OrdD) : List (EdgeD × Int) := l.flatMap fun o => if p o.key = true then wwO o (o.txs.length - 1) else []
theorem wwO_step {o : OrdD} {j : Nat} : wwO o (j + 1) = wwO o j ++ [(⟨Go.Gm.nth o.txs j, Go.Gm.nth o.txs (j + 1), 1, o.key⟩, 1)] := by unfold wwO; rw [List.range_succ, List.map_append]; rfl
theorem wwA_step {p : Int → Bool} {l : List OrdD} {i : Nat} (hi : i < l.length) : wwA p (l.take (i + 1)) = wwA p (l.take i) ++ if p (Go.Gm.nth l i).key = true then wwO (Go.Gm.nth l i) ((Go.Gm.nth l i).txs.length - 1) else [] := by
  unfold wwA
  rw [take_nth hi, List.flatMap_append]
  simp
theorem gS_len {κ ν : Type} [DecidableEq κ] (k : κ) (v : ν) : ∀ es : List (GE κ ν), (gSet k v es).length = es.length
  | [] => rfl
  | e :: es => by
    unfold gSet
    split
    · rfl
    · rw [List.length_cons, List.length_cons, gS_len k v es]
theorem gP_len {κ ν : Type} [DecidableEq κ] (k : κ) (v : ν) (s : List (GE κ ν) × Nat) : (gPut k v s).1.length ≤ s.1.length + 1 := by
  unfold gPut
  split
  · show (gSet k v s.1).length ≤ _
    rw [gS_len]; omega
  · show (s.1 ++ [_]).length ≤ _
    rw [List.length_append]; simp
theorem gE_len {κ ν : Type} [DecidableEq κ] (z : ν) (k : κ) (s : List (GE κ ν) × Nat) : (gEns z k s).1.length ≤ s.1.length + 1 := by
  unfold gEns
  split
  · omega
  · show (s.1 ++ [_]).length ≤ _
    rw [List.length_append]; simp
/-- The counted edges. -/
structure EdgV (es : List (GE EdgeD Int)) (A : List (EdgeD × Int)) (R : List EdgeD) : Prop where
  val : ∀ e, (gGet e es).getD 0 = asgF A e + (R.count e : Int)
  one : ∀ z ∈ A, z.2 = 1
  key : ∀ e, (gGet e es).isSome = true ↔ (e ∈ A.map Prod.fst ∨ e ∈ R)
  len : es.length ≤ A.length + R.length
theorem edg_zero : EdgV [] [] [] := ⟨fun _ => rfl, by simp, fun e => by simp [gGet], Nat.zero_le _⟩
theorem edg_put {es : List (GE EdgeD Int)} {A : List (EdgeD × Int)} {ck : Nat} {e : EdgeD} (h : EdgV es A []) : EdgV (gPut e 1 (es, ck)).1 (A ++ [(e, 1)]) [] := ⟨fun k => by
  have := h.val k
  rw [gGet_put, asgF_snoc]
  split
  · rfl
  · rw [this], fun z hz => by
  rcases List.mem_append.1 hz with h1 | h1
  · exact h.one z h1
  · simp at h1; rw [h1], fun k => by
  rw [gGet_put, List.map_append, List.mem_append]
  by_cases hk : k = e
  · rw [if_pos hk]; simp [hk]
  · rw [if_neg hk, h.key k]; simp [hk], by
  have h1 := h.len
  have h2 := gP_len e (1 : Int) (es, ck)
  rw [List.length_append]
  simp only [List.length_cons, List.length_nil] at h1 h2 ⊢
  omega⟩
theorem edg_inc {es : List (GE EdgeD Int)} {A : List (EdgeD × Int)} {R : List EdgeD} {ck : Nat} {e : EdgeD} (h : EdgV es A R) (hl : R.length ≤ 100000000) : EdgV (gSet e (IntKind.wrap .i64 ((gGet e es).getD 0 + 1)) (gEns 0 e (es, ck)).1) A (R ++ [e]) := ⟨fun k => by
  have hc : R.count e ≤ R.length := List.count_le_length
  have h1 := asgF_one (k := e) A h.one
  rw [gGet_entry, h.val e, wrap_i64 (by omega), List.count_append]
  by_cases hk : k = e
  · subst hk; rw [if_pos rfl]; simp; omega
  · rw [if_neg hk, h.val k]; simp [List.count_cons, Ne.symm hk], h.one, fun k => by
  rw [gGet_entry, List.mem_append]
  by_cases hk : k = e
  · rw [if_pos hk]; simp [hk]
  · rw [if_neg hk, h.key k]; simp [hk], by
  have h1 := h.len
  have h2 := gE_len (0 : Int) e (es, ck)
  rw [gS_len, List.length_append]
  simp only [List.length_cons, List.length_nil] at h1 h2 ⊢
  omega⟩
structure FS where
  mA : Value
  mB : Value
  mC : Value
  eA : List (GE Int Int)
  kA : Nat
  eB : List (GE KeyD Int)
  kB : Nat
  eC : List (GE KeyD Int)
  kC : Nat
structure FInv (g : HistD) (s : FS) : Prop where
  dn : AsgV s.eA (donesA g.txs)
  la : CntV s.eB (lastK g.txs)
  nx : AsgV s.eC (nxA g.orders)

theorem keyKey : KeyG Try.prog 148 (fun k => ∀ x ∈ encK k, inR .i64 x) (kvS encK) := key_arrG (et := 3) (n := 2) (fun _ => rfl) (fun a b h => by cases a; cases b; simpa [encK] using h) (by kernel_rfl) (by kernel_rfl) (by kernel_rfl)
theorem keyEdge : KeyG Try.prog 24 (fun k => ∀ x ∈ encEi k, inR .i64 x) (kvS encEi) := key_structG (n := 4) (fun _ => rfl) (fun a b h => by cases a; cases b; simpa [encEi] using h) (by kernel_rfl)

def fParts (g : HistD) (s : FS) (v : Value) : List RS := [.pt (.val v) 147 [.pv (.sl rTx g.txs), .pv (.sl rOrd g.orders), .pv (.is s.mA), .pv (.is s.mB), .pv (.is s.mC)], .ob (.val s.mA) (mapG (fun n : Int => PV.int .i64 n) (fun _ => True) (fun n : Int => Value.int .i64 n) s.eA s.kA), .ob (.val s.mB) (mapG (fun n : Int => PV.int .i64 n) (fun k => ∀ x ∈ encK k, inR .i64 x) (kvS encK) s.eB s.kB), .ob (.val s.mC) (mapG (fun n : Int => PV.int .i64 n) (fun k => ∀ x ∈ encK k, inR .i64 x) (kvS encK) s.eC s.kC)]
def finH (g : HistD) (v : Value) : HP := .ex fun s : FS => .and (FInv g s) (.star (fParts g s v))
def edgH (A : List (EdgeD × Int)) (R : List EdgeD) (v : Value) : HP := .ex fun s : List (GE EdgeD Int) × Nat => .and (EdgV s.1 A R) (mapG (fun n : Int => PV.int .i64 n) (fun k => ∀ x ∈ encEi k, inR .i64 x) (kvS encEi) s.1 s.2 v)

end Go.Proofs.Ytpnaolljmhhdbaa
namespace Go.Proofs.Ytpnaolljmhhdbaa
open Go Go.Gm
set_option linter.unusedVariables false
set_option linter.unusedSimpArgs false
set_option maxHeartbeats 4000000
set_option maxRecDepth 8000

theorem look_c (g : HistD) (hsm : Small g) : FnG Try.prog 66 1 [.agg (rHist g)] [.star []] (PV.ptr) (fun v => [finH g v]) := by
  refine FnG.mk Try.func66 rfl Try.ntmps66 rfl (by kernel_rfl) ?_
  intro B F0 a w F hB hG hS
  have hs := hsm.1
  have hsl := hs.1
  have hso := hsm.2
  have hol1 := hso.1
  refine wp_seq ?_
  refine region_q hS
    (cF rfl (oX 101 (.conv .t .agg)) r1 trivial
    (cF rfl (oN (.c rfl)) trivial trivial
    Chain.nil))
    hB ?_
  clear hS; intro a w F hS
  replace hS := hS.sub
  obtain ⟨F, hS⟩ := hS.nm [2, 1] [101, 1, 0] rfl rfl
  try dsimp only [RS.sub, SF.sub, CF.sub, csub, Anc.sub, List.map, zCF, rHist, rTx, rOrd, rVer, rInt, rOp] at hS
  generalize Act.tau a 1 = v1 at hS
  refine then_n (wp_seq ?_)
  refine region_q hS
    (cF rfl (oL true 2 101 .is) r1 r1
    (cF rfl (o_makeMapG (ek := (fun n : Int => PV.int .i64 n)) (ok := (fun _ => True)) (kv := (fun n : Int => Value.int .i64 n)) 102) trivial trivial
    (cF rfl (o_makeMapG (ek := (fun n : Int => PV.int .i64 n)) (ok := (fun k => ∀ x ∈ encK k, inR .i64 x)) (kv := (kvS encK)) 103) trivial trivial
    (cF rfl (o_makeMapG (ek := (fun n : Int => PV.int .i64 n)) (ok := (fun k => ∀ x ∈ encK k, inR .i64 x)) (kv := (kvS encK)) 104) trivial trivial
    (cF rfl (oB [(0, .tmp 13), (1, .tmp 14), (2, .tmp 15), (3, .tmp 16)] [.slice none 0 0, .slice none 0 0, .map none, .map none, .map none] [(0, 2), (2, 1), (3, 1), (4, 1)] (.agg rfl .t (by kernel_rfl) (by kernel_rfl) (.same rfl (by kernel_rfl) (.same rfl (by kernel_rfl) (.same rfl (by kernel_rfl) .nil))))) r4 trivial
    (cF rfl (oX 105 .t) r1 trivial
    (cF rfl (oN .t) r1 trivial
    Chain.nil)))))))
    hB ?_
  clear hS; intro a w F hS
  replace hS := hS.sub
  obtain ⟨F, hS⟩ := hS.nm [3, 2, 1] [105, 104, 103, 102, 101, 1, 0] rfl rfl
  try dsimp only [RS.sub, SF.sub, CF.sub, csub, Anc.sub, List.map, stCells, xL, xM, Nat.reduceAdd, xD, xE, xT, xU, xC, xN, zCF, ldSF, rHist, rTx, rOrd, rVer, rInt, rOp] at hS
  generalize Act.tau a 18 = v18 at hS
  generalize Act.tau a 14 = v14 at hS
  generalize Act.tau a 15 = v15 at hS
  generalize Act.tau a 16 = v16 at hS
  refine then_n (wp_seq (wp_seq ?_))
  refine region_q hS
    (cF rfl (oF 0 101 .is) r1 r1
    (cF rfl (oL false 1 101 .adr) r1 r1
    (cF rfl (o_len_sl Try.underlying39 .t) r1 trivial
    (cF rfl (oM (.ci (by kernel_rfl))) trivial trivial
    Chain.nil))))
    hB ?_
  clear hS; intro a w F hS
  obtain ⟨F, hS⟩ := hS.nm [22, 21, 20, 3, 2, 1] [105, 104, 103, 102, 101, 1, 0] rfl rfl
  try dsimp only [List.map, xD, xE, xT, xU, ldSF, rHist, rTx, rOrd, rVer, rInt, rOp] at hS
  refine then_n (wp_block ?_)
  refine loop_keep (σ := (Nat) × (List (GE Int Int)) × (Nat) × (List (GE KeyD Int)) × (Nat)) [1, 2, 3, 20, 21] [0, 1, 101, 104, 105] (fun s => [(22, .pv (.int .i64 (s.1 : Int)))]) (fun s => [(102, .ob (.val v14) (mapG (fun n : Int => PV.int .i64 n) (fun _ => True) (fun n : Int => Value.int .i64 n) s.2.1 s.2.2.1)), (103, .ob (.val v15) (mapG (fun n : Int => PV.int .i64 n) (fun k => ∀ x ∈ encK k, inR .i64 x) (kvS encK) s.2.2.2.1 s.2.2.2.2))]) (fun s => s.1 ≤ g.txs.length ∧ (AsgV s.2.1 (donesA (g.txs.take s.1)) ∧ CntV s.2.2.2.1 (lastK (g.txs.take s.1)))) (fun s => g.txs.length - s.1) ((0), ([]), (0), ([]), (0)) hS ⟨rfl, rfl, rfl, rfl, rfl, rfl, trivial⟩ ⟨rfl, rfl, rfl, rfl, rfl, rfl, rfl, trivial⟩ ⟨Nat.zero_le _, ⟨fun _ => rfl, fun _ => rfl⟩⟩ ?_
  clear hS; intro s a w F hC hS
  obtain ⟨i, eA, kA, eB, kB⟩ := s
  try dsimp only at hC
  obtain ⟨F, hS⟩ := hS.nm [22, 21, 20, 3, 2, 1] [105, 104, 103, 102, 101, 1, 0] rfl rfl
  try dsimp only at hS
  obtain ⟨hi, hq⟩ := hC
  have hxl := fun hil : i < g.txs.length => hs.at hil
  refine wp_seq ?_
  refine region_q hS
    (cF rfl (o_lss .t .t) r2 trivial
    Chain.nil)
    hB ?_
  clear hS; intro a w F hS
  obtain ⟨F, hS⟩ := hS.nm [23, 22, 21, 20, 3, 2, 1] [105, 104, 103, 102, 101, 1, 0] rfl rfl
  try dsimp only [rHist, rTx, rOrd, rVer, rInt, rOp] at hS
  refine then_n (wp_seq ?_)
  refine cond_b hS rfl (fun hc0 => ?_) (fun hc0 => ?_)
  ·skip
   have hil : i < g.txs.length := by simp at hc0; omega
   have hio := hil
   have htl := hxl hil
   have hsl := hs.1
   have hdn0 := hq.1
   have hcn := hq.2
   refine wp_skip (then_n (wp_seq (wp_block (wp_seq ?_))))
   refine region_q hS
     (cF rfl (o_indexAddr_sl (sz := 3) (.mk Try.underlying39 (by kernel_rfl)) (by intro x; rfl) .t .t (by omega) (by omega)) r2 trivial
     (cF rfl (oR true 3 .t) r1 trivial
     (cF rfl (oH [.int .i64 0, .bool false, .slice none 0 0] 106) trivial trivial
     (cF rfl (oA 3 106 .same .t) r2 r1
     Chain.nil))))
     hB ?_
   clear hS; intro a w F hS
   replace hS := hS.sub
   obtain ⟨F, hS⟩ := hS.nm [25, 24, 23, 22, 21, 20, 5, 3, 2, 1] [106, 105, 104, 103, 102, 101, 1, 0] rfl rfl
   try dsimp only [RS.sub, SF.sub, CF.sub, csub, Anc.sub, List.map, stCells, xL, xM, Nat.reduceAdd, xD, xE, xT, xU, xC, xN, zCF, ldSF, rHist, rTx, rOrd, rVer, rInt, rOp] at hS
   generalize Act.tau a 5 = v5 at hS
   try simp only [Int.toNat_natCast] at hS
   refine then_n (wp_seq (wp_seq ?_))
   refine region_q hS
     (cF rfl (oF 1 106 .is) r1 r1
     (cF rfl (oL false 1 106 .adr) r1 r1
     (cF rfl (o_not .t) r1 trivial
     Chain.nil)))
     hB ?_
   clear hS; intro a w F hS
   obtain ⟨F, hS⟩ := hS.nm [28, 27, 26, 25, 24, 23, 22, 21, 20, 5, 3, 2, 1] [106, 105, 104, 103, 102, 101, 1, 0] rfl rfl
   try dsimp only [List.map, xD, xE, xT, xU, ldSF, rHist, rTx, rOrd, rVer, rInt, rOp] at hS
   refine then_n ?_
   refine cond_b hS rfl (fun hc1 => ?_) (fun hc1 => ?_)
   ·skip
    have hdn : (Go.Gm.nth g.txs i).done = false := by simpa using hc1
    obtain ⟨eA2, heA2⟩ : ∃ z, z = eA := ⟨_, rfl⟩
    obtain ⟨kA2, hkA2⟩ : ∃ z, z = kA := ⟨_, rfl⟩
    obtain ⟨eB2, heB2⟩ : ∃ z, z = eB := ⟨_, rfl⟩
    obtain ⟨kB2, hkB2⟩ : ∃ z, z = kB := ⟨_, rfl⟩
    rw [← heA2, ← hkA2, ← heB2, ← hkB2] at hS
    have hR2 : AsgV eA2 (donesA (g.txs.take (i + 1))) ∧ CntV eB2 (lastK (g.txs.take (i + 1))) := by rw [heA2, heB2, donesA_step hio, lastK_step hio, if_neg (by rw [hdn]; simp), if_neg (by rw [hdn]; simp), List.append_nil, List.append_nil]; exact ⟨hdn0, hcn⟩
    refine wp_exit (then_x (block_x (then_n ?_)))
    refine region_q hS
      (cF rfl (o_add .t (.ci (by kernel_rfl))) r1 trivial
      (cF rfl (oM .t) r1 trivial
      Chain.nil))
      hB ?_
    clear hS; intro a w F hS
    obtain ⟨F, hS⟩ := hS.nm [59, 28, 27, 26, 25, 24, 23, 22, 21, 20, 5, 3, 2, 1] [106, 105, 104, 103, 102, 101, 1, 0] rfl rfl
    try dsimp only [rHist, rTx, rOrd, rVer, rInt, rOp] at hS
    refine then_n ?_
    replace hS := hS.ent (i := 22) (s' := .pv (.int .i64 ((i + 1 : Nat) : Int))) rfl (.int (wrap_succ (by omega)))
    obtain ⟨F, hS⟩ := hS.nm [21, 20, 3, 2, 1, 22] [105, 104, 101, 1, 0, 103, 102] rfl rfl
    exact ⟨((i + 1), (eA2), (kA2), (eB2), (kB2)), F, ⟨by omega, hR2⟩, hS, by omega⟩
   have hdn : (Go.Gm.nth g.txs i).done = true := by simpa using hc1
   refine wp_skip (then_n (wp_seq ?_))
   refine region_any (by kernel_rfl) hS (by kernel_rfl)
     (cF rfl (oM .t) r1 trivial
     (cF rfl (o_nilCheck 105 .is (by rfl)) r1 r1
     (cF rfl (oF 2 105 .adr) r1 r1
     (cF rfl (oL false 1 105 .adr) r1 r1
     (cF rfl (oF 0 106 .is) r1 r1
     (cF rfl (oL false 1 106 .adr) r1 r1
     (cF rfl (o_mapUpdateG (ek := (fun n : Int => PV.int .i64 n)) 102 Try.underlying144 (key_intG Try.underlying3) .is (IsKeyOf.int .t rfl) (.ci (by kernel_rfl))) r2 r1
     Chain.nil)))))))
     (by kernel_rfl) (by rw [hB]; kernel_rfl) ?_
   clear hS; intro a w F hS
   obtain ⟨F, hS⟩ := hS.nm [34, 33, 32, 31, 30, 29, 28, 27, 26, 25, 24, 23, 22, 21, 20, 5, 3, 2, 1] [106, 105, 104, 103, 102, 101, 1, 0] rfl rfl
   try dsimp only [List.map, xD, xE, xT, xU, ldSF, rHist, rTx, rOrd, rVer, rInt, rOp] at hS
   obtain ⟨eA2, heA2⟩ : ∃ z, z = (gPut (Go.Gm.nth g.txs i).id 1 (eA, kA)).1 := ⟨_, rfl⟩
   obtain ⟨kA2, hkA2⟩ : ∃ z, z = (gPut (Go.Gm.nth g.txs i).id 1 (eA, kA)).2 := ⟨_, rfl⟩
   rw [← heA2, ← hkA2] at hS
   refine then_n (wp_seq ?_)
   refine region_q hS
     (cF rfl (oF 2 106 .is) r1 r1
     (cF rfl (oL false 1 106 .adr) r1 r1
     (cF rfl (o_len_sl Try.underlying73 .t) r1 trivial
     (cF rfl (oM (.ci (by kernel_rfl))) trivial trivial
     Chain.nil))))
     hB ?_
   clear hS; intro a w F hS
   obtain ⟨F, hS⟩ := hS.nm [38, 37, 36, 35, 34, 33, 32, 31, 30, 29, 28, 27, 26, 25, 24, 23, 22, 21, 20, 5, 3, 2, 1] [106, 105, 104, 103, 102, 101, 1, 0] rfl rfl
   try dsimp only [List.map, xD, xE, xT, xU, ldSF, rHist, rTx, rOrd, rVer, rInt, rOp] at hS
   refine then_n (wp_block ?_)
   refine loop_keep (σ := (Nat) × (List (GE KeyD Int)) × (Nat)) [1, 2, 3, 5, 20, 21, 22, 23, 24, 25, 26, 27, 28, 29, 30, 31, 32, 33, 34, 35, 36, 37] [0, 1, 101, 102, 104, 105, 106] (fun s => [(38, .pv (.int .i64 (s.1 : Int)))]) (fun s => [(103, .ob (.val v15) (mapG (fun n : Int => PV.int .i64 n) (fun k => ∀ x ∈ encK k, inR .i64 x) (kvS encK) s.2.1 s.2.2))]) (fun s => s.1 ≤ (Go.Gm.nth g.txs i).ops.length ∧ (CntV s.2.1 (lastK (g.txs.take i) ++ lastK1 (Go.Gm.nth g.txs i).id ((Go.Gm.nth g.txs i).ops.take s.1)))) (fun s => (Go.Gm.nth g.txs i).ops.length - s.1) ((0), (eB), (kB)) hS ⟨rfl, rfl, rfl, rfl, rfl, rfl, rfl, rfl, rfl, rfl, rfl, rfl, rfl, rfl, rfl, rfl, rfl, rfl, rfl, rfl, rfl, rfl, rfl, trivial⟩ ⟨rfl, rfl, rfl, rfl, rfl, rfl, rfl, rfl, trivial⟩ ⟨Nat.zero_le _, (by show CntV _ (lastK (g.txs.take i) ++ []); rw [List.append_nil]; exact hcn)⟩ ?_
   clear hS; intro s a w F hC hS
   obtain ⟨j, eB3, kB3⟩ := s
   try dsimp only at hC
   obtain ⟨F, hS⟩ := hS.nm [38, 37, 36, 35, 34, 33, 32, 31, 30, 29, 28, 27, 26, 25, 24, 23, 22, 21, 20, 5, 3, 2, 1] [106, 105, 104, 103, 102, 101, 1, 0] rfl rfl
   try dsimp only at hS
   obtain ⟨hi, hq⟩ := hC
   refine wp_seq ?_
   refine region_q hS
     (cF rfl (o_lss .t .t) r2 trivial
     Chain.nil)
     hB ?_
   clear hS; intro a w F hS
   obtain ⟨F, hS⟩ := hS.nm [39, 38, 37, 36, 35, 34, 33, 32, 31, 30, 29, 28, 27, 26, 25, 24, 23, 22, 21, 20, 5, 3, 2, 1] [106, 105, 104, 103, 102, 101, 1, 0] rfl rfl
   try dsimp only [rHist, rTx, rOrd, rVer, rInt, rOp] at hS
   refine then_n (wp_seq ?_)
   refine cond_b hS rfl (fun hc2 => ?_) (fun hc2 => ?_)
   ·skip
    have hil : j < (Go.Gm.nth g.txs i).ops.length := by simp at hc2; omega
    refine wp_skip (then_n (wp_seq (wp_block (wp_seq ?_))))
    refine region_q hS
      (cF rfl (o_indexAddr_sl (sz := 4) (.mk Try.underlying73 (by kernel_rfl)) (by intro x; rfl) .t .t (by omega) (by omega)) r2 trivial
      (cF rfl (oR true 4 .t) r1 trivial
      (cF rfl (oH [.bool false, .int .i64 0, .int .i64 0, .int .i64 0] 107) trivial trivial
      (cF rfl (oA 4 107 .same .t) r2 r1
      Chain.nil))))
      hB ?_
    clear hS; intro a w F hS
    replace hS := hS.sub
    obtain ⟨F, hS⟩ := hS.nm [41, 40, 39, 38, 37, 36, 35, 34, 33, 32, 31, 30, 29, 28, 27, 26, 25, 24, 23, 22, 21, 20, 7, 5, 3, 2, 1] [107, 106, 105, 104, 103, 102, 101, 1, 0] rfl rfl
    try dsimp only [RS.sub, SF.sub, CF.sub, csub, Anc.sub, List.map, stCells, xL, xM, Nat.reduceAdd, xD, xE, xT, xU, xC, xN, zCF, ldSF, rHist, rTx, rOrd, rVer, rInt, rOp] at hS
    generalize Act.tau a 7 = v7 at hS
    try simp only [Int.toNat_natCast] at hS
    refine then_n (wp_seq ?_)
    refine region_q hS
      (cF rfl (oF 0 107 .is) r1 r1
      (cF rfl (oL false 1 107 .adr) r1 r1
      (cF rfl (o_not .t) r1 trivial
      Chain.nil)))
      hB ?_
    clear hS; intro a w F hS
    obtain ⟨F, hS⟩ := hS.nm [44, 43, 42, 41, 40, 39, 38, 37, 36, 35, 34, 33, 32, 31, 30, 29, 28, 27, 26, 25, 24, 23, 22, 21, 20, 7, 5, 3, 2, 1] [107, 106, 105, 104, 103, 102, 101, 1, 0] rfl rfl
    try dsimp only [List.map, xD, xE, xT, xU, ldSF, rHist, rTx, rOrd, rVer, rInt, rOp] at hS
    refine then_n ?_
    refine cond_b hS rfl (fun hc3 => ?_) (fun hc3 => ?_)
    ·skip
     have hrd : (Go.Gm.nth (Go.Gm.nth g.txs i).ops j).read = false := by simpa using hc3
     replace hS := hS.turnZ 103 (0) (⟨(Go.Gm.nth g.txs i).id, (Go.Gm.nth (Go.Gm.nth g.txs i).ops j).key⟩ : KeyD) rfl
     refine region_anyS 103 13 (m1 := 1) (m2 := 2) (by kernel_rfl) hS (by kernel_rfl)
       (cF rfl (oM .t) r1 trivial
       (cF rfl (o_nilCheck 105 .is (by rfl)) r1 r1
       (cF rfl (oF 3 105 .adr) r1 r1
       (cF rfl (oL false 1 105 .adr) r1 r1
       (cF rfl (oF 0 106 .is) r1 r1
       (cF rfl (oL false 1 106 .adr) r1 r1
       (cF rfl (oF 1 107 .is) r1 r1
       (cF rfl (oL false 1 107 .adr) r1 r1
       (cF rfl (o_buildA (sz := 1) (r := [(0, .tmp 50), (1, .tmp 52)]) (zs := [.int .i64 0, .int .i64 0]) (pl := [(0, 1), (1, 1)]) Try.underlying148 (by kernel_rfl) (by kernel_rfl) rfl (.one rfl .t one_int (by kernel_rfl) (.one rfl .t one_int (by kernel_rfl) .nil)) (by rfl)) r2 trivial
       (cF rfl (o_lookupZ (ek := (fun n : Int => PV.int .i64 n)) (z0 := (0)) 103 Try.underlying145 keyKey (by kernel_rfl) (fun _ _ => ⟨rfl, inR0⟩) .is (IsKeyOf.agg (enc := encK) (k := (⟨(Go.Gm.nth g.txs i).id, (Go.Gm.nth (Go.Gm.nth g.txs i).ops j).key⟩ : KeyD)) (.pagg .t) rfl)) r2 r1
       (cF rfl (o_add .t (.ci (by kernel_rfl))) r1 trivial
       (cF rfl (o_mapEntryZ (ek := (fun n : Int => PV.int .i64 n)) (z0 := (0)) 103 Try.underlying145 keyKey (by kernel_rfl) (fun _ _ => ⟨rfl, inR0⟩) .is (IsKeyOf.agg (enc := encK) (k := (⟨(Go.Gm.nth g.txs i).id, (Go.Gm.nth (Go.Gm.nth g.txs i).ops j).key⟩ : KeyD)) (.pagg .t) rfl) (by intros; first | rfl | simp [Anc.v, upd])) r2 r1
       (cF rfl (o_extract .t rfl) r1 trivial
       (cF rfl (o_entryStoreG 103 (gEns_born _ _ _) .is .t .t) r3 r1
       Chain.nil))))))))))))))
       (by kernel_rfl) (by kernel_rfl) (by kernel_rfl) rfl rfl rfl (fun _ _ _ _ h => .inr h) (by rw [hB]; kernel_rfl) ?_
     clear hS; intro a w F hS
     obtain ⟨F, hS⟩ := hS.nm [57, 56, 55, 54, 53, 52, 51, 50, 49, 48, 47, 46, 45, 44, 43, 42, 41, 40, 39, 38, 37, 36, 35, 34, 33, 32, 31, 30, 29, 28, 27, 26, 25, 24, 23, 22, 21, 20, 7, 5, 3, 2, 1] [107, 106, 105, 104, 103, 102, 101, 1, 0] rfl rfl
     try dsimp only [List.map, stCells, xL, xM, Nat.reduceAdd, xD, xE, xT, xU, xC, xN, zCF, ldSF, rHist, rTx, rOrd, rVer, rInt, rOp] at hS
     obtain ⟨eB4, heB4⟩ : ∃ z, z = gSet (⟨(Go.Gm.nth g.txs i).id, (Go.Gm.nth (Go.Gm.nth g.txs i).ops j).key⟩ : KeyD) (IntKind.wrap .i64 ((gGet (⟨(Go.Gm.nth g.txs i).id, (Go.Gm.nth (Go.Gm.nth g.txs i).ops j).key⟩ : KeyD) eB3).getD 0 + 1)) (gEns 0 (⟨(Go.Gm.nth g.txs i).id, (Go.Gm.nth (Go.Gm.nth g.txs i).ops j).key⟩ : KeyD) (eB3, kB3)).1 := ⟨_, rfl⟩
     obtain ⟨kB4, hkB4⟩ : ∃ z, z = (gEns 0 (⟨(Go.Gm.nth g.txs i).id, (Go.Gm.nth (Go.Gm.nth g.txs i).ops j).key⟩ : KeyD) (eB3, kB3)).2 := ⟨_, rfl⟩
     rw [← heB4, ← hkB4] at hS
     have hR3 : CntV eB4 (lastK (g.txs.take i) ++ lastK1 (Go.Gm.nth g.txs i).id ((Go.Gm.nth g.txs i).ops.take (j + 1))) := by rw [heB4, lastK1_step hil, if_neg (by rw [hrd]; simp), ← List.append_assoc]; exact cnt_inc hq (by have h1 := lastK_len hs i; have h2 := lastK1_len (Go.Gm.nth g.txs i).id ((Go.Gm.nth g.txs i).ops.take j); rw [List.length_take] at h2; rw [List.length_append]; omega)
     refine block_n (then_n ?_)
     refine region_q hS
       (cF rfl (o_add .t (.ci (by kernel_rfl))) r1 trivial
       (cF rfl (oM .t) r1 trivial
       Chain.nil))
       hB ?_
     clear hS; intro a w F hS
     obtain ⟨F, hS⟩ := hS.nm [58, 57, 56, 55, 54, 53, 52, 51, 50, 49, 48, 47, 46, 45, 44, 43, 42, 41, 40, 39, 38, 37, 36, 35, 34, 33, 32, 31, 30, 29, 28, 27, 26, 25, 24, 23, 22, 21, 20, 7, 5, 3, 2, 1] [107, 106, 105, 104, 103, 102, 101, 1, 0] rfl rfl
     try dsimp only [rHist, rTx, rOrd, rVer, rInt, rOp] at hS
     refine then_n ?_
     replace hS := hS.ent (i := 38) (s' := .pv (.int .i64 ((j + 1 : Nat) : Int))) rfl (.int (wrap_succ (by omega)))
     obtain ⟨F, hS⟩ := hS.nm [37, 36, 35, 34, 33, 32, 31, 30, 29, 28, 27, 26, 25, 24, 23, 22, 21, 20, 5, 3, 2, 1, 38] [106, 105, 104, 102, 101, 1, 0, 103] rfl rfl
     exact ⟨((j + 1), (eB4), (kB4)), F, ⟨by omega, hR3⟩, hS, by omega⟩
    have hrd : (Go.Gm.nth (Go.Gm.nth g.txs i).ops j).read = true := by simpa using hc3
    obtain ⟨eB4, heB4⟩ : ∃ z, z = eB3 := ⟨_, rfl⟩
    obtain ⟨kB4, hkB4⟩ : ∃ z, z = kB3 := ⟨_, rfl⟩
    rw [← heB4, ← hkB4] at hS
    have hR3 : CntV eB4 (lastK (g.txs.take i) ++ lastK1 (Go.Gm.nth g.txs i).id ((Go.Gm.nth g.txs i).ops.take (j + 1))) := by rw [heB4, lastK1_step hil, if_pos hrd, List.append_nil]; exact hq
    refine wp_skip (block_n (then_n ?_))
    refine region_q hS
      (cF rfl (o_add .t (.ci (by kernel_rfl))) r1 trivial
      (cF rfl (oM .t) r1 trivial
      Chain.nil))
      hB ?_
    clear hS; intro a w F hS
    obtain ⟨F, hS⟩ := hS.nm [58, 44, 43, 42, 41, 40, 39, 38, 37, 36, 35, 34, 33, 32, 31, 30, 29, 28, 27, 26, 25, 24, 23, 22, 21, 20, 7, 5, 3, 2, 1] [107, 106, 105, 104, 103, 102, 101, 1, 0] rfl rfl
    try dsimp only [rHist, rTx, rOrd, rVer, rInt, rOp] at hS
    refine then_n ?_
    replace hS := hS.ent (i := 38) (s' := .pv (.int .i64 ((j + 1 : Nat) : Int))) rfl (.int (wrap_succ (by omega)))
    obtain ⟨F, hS⟩ := hS.nm [37, 36, 35, 34, 33, 32, 31, 30, 29, 28, 27, 26, 25, 24, 23, 22, 21, 20, 5, 3, 2, 1, 38] [106, 105, 104, 102, 101, 1, 0, 103] rfl rfl
    exact ⟨((j + 1), (eB4), (kB4)), F, ⟨by omega, hR3⟩, hS, by omega⟩
   have hil : j = (Go.Gm.nth g.txs i).ops.length := by simp at hc2; omega
   rw [hil, List.take_length] at hq
   obtain ⟨eB2, heB2⟩ : ∃ z, z = eB3 := ⟨_, rfl⟩
   obtain ⟨kB2, hkB2⟩ : ∃ z, z = kB3 := ⟨_, rfl⟩
   rw [← heB2, ← hkB2] at hS
   have hR2 : AsgV eA2 (donesA (g.txs.take (i + 1))) ∧ CntV eB2 (lastK (g.txs.take (i + 1))) := by rw [heA2, heB2, donesA_step hio, lastK_step hio, if_pos hdn, if_pos hdn]; exact ⟨asg_put hdn0, hq⟩
   refine wp_exit (then_x (then_x (block_x (block_n (then_n ?_)))))
   refine region_q hS
     (cF rfl (o_add .t (.ci (by kernel_rfl))) r1 trivial
     (cF rfl (oM .t) r1 trivial
     Chain.nil))
     hB ?_
   clear hS; intro a w F hS
   obtain ⟨F, hS⟩ := hS.nm [59, 39, 38, 37, 36, 35, 34, 33, 32, 31, 30, 29, 28, 27, 26, 25, 24, 23, 22, 21, 20, 5, 3, 2, 1] [106, 105, 104, 103, 102, 101, 1, 0] rfl rfl
   try dsimp only [rHist, rTx, rOrd, rVer, rInt, rOp] at hS
   refine then_n ?_
   replace hS := hS.ent (i := 22) (s' := .pv (.int .i64 ((i + 1 : Nat) : Int))) rfl (.int (wrap_succ (by omega)))
   obtain ⟨F, hS⟩ := hS.nm [21, 20, 3, 2, 1, 22] [105, 104, 101, 1, 0, 103, 102] rfl rfl
   exact ⟨((i + 1), (eA2), (kA2), (eB2), (kB2)), F, ⟨by omega, hR2⟩, hS, by omega⟩
  have hil : i = g.txs.length := by simp at hc0; omega
  rw [hil, List.take_length] at hq
  have hdA := hq.1
  have hdB := hq.2
  refine wp_exit (then_x (then_x (block_x (then_n (wp_seq (wp_seq ?_))))))
  refine region_q hS
    (cF rfl (oF 1 101 .is) r1 r1
    (cF rfl (oL false 1 101 .adr) r1 r1
    (cF rfl (o_len_sl Try.underlying40 .t) r1 trivial
    (cF rfl (oM (.ci (by kernel_rfl))) trivial trivial
    Chain.nil))))
    hB ?_
  clear hS; intro a w F hS
  obtain ⟨F, hS⟩ := hS.nm [63, 62, 61, 3, 2] [105, 104, 103, 102, 101, 1, 0] rfl rfl
  try dsimp only [List.map, xD, xE, xT, xU, ldSF, rHist, rTx, rOrd, rVer, rInt, rOp] at hS
  refine then_n (wp_block ?_)
  refine loop_keep (σ := (Nat) × (List (GE KeyD Int)) × (Nat)) [2, 3, 61, 62] [0, 1, 101, 102, 103, 105] (fun s => [(63, .pv (.int .i64 (s.1 : Int)))]) (fun s => [(104, .ob (.val v16) (mapG (fun n : Int => PV.int .i64 n) (fun k => ∀ x ∈ encK k, inR .i64 x) (kvS encK) s.2.1 s.2.2))]) (fun s => s.1 ≤ g.orders.length ∧ (AsgV s.2.1 (nxA (g.orders.take s.1)))) (fun s => g.orders.length - s.1) ((0), ([]), (0)) hS ⟨rfl, rfl, rfl, rfl, rfl, trivial⟩ ⟨rfl, rfl, rfl, rfl, rfl, rfl, rfl, trivial⟩ ⟨Nat.zero_le _, (fun _ => rfl)⟩ ?_
  clear hS; intro s a w F hC hS
  obtain ⟨i, eC, kC⟩ := s
  try dsimp only at hC
  obtain ⟨F, hS⟩ := hS.nm [63, 62, 61, 3, 2] [105, 104, 103, 102, 101, 1, 0] rfl rfl
  try dsimp only at hS
  obtain ⟨hi, hq⟩ := hC
  have hol := fun hil : i < g.orders.length => hso.at hil
  refine wp_seq ?_
  refine region_q hS
    (cF rfl (o_lss .t .t) r2 trivial
    Chain.nil)
    hB ?_
  clear hS; intro a w F hS
  obtain ⟨F, hS⟩ := hS.nm [64, 63, 62, 61, 3, 2] [105, 104, 103, 102, 101, 1, 0] rfl rfl
  try dsimp only [rHist, rTx, rOrd, rVer, rInt, rOp] at hS
  refine then_n (wp_seq ?_)
  refine cond_b hS rfl (fun hc4 => ?_) (fun hc4 => ?_)
  ·skip
   have hil : i < g.orders.length := by simp at hc4; omega
   have hio := hil
   have hcn := hq
   have hox := hol hil
   have hol1 := hso.1
   refine wp_skip (then_n (wp_seq (wp_block (wp_seq ?_))))
   refine region_q hS
     (cF rfl (o_indexAddr_sl (sz := 2) (.mk Try.underlying40 (by kernel_rfl)) (by intro x; rfl) .t .t (by omega) (by omega)) r2 trivial
     (cF rfl (oR true 2 .t) r1 trivial
     (cF rfl (oH [.int .i64 0, .slice none 0 0] 108) trivial trivial
     (cF rfl (oA 2 108 .same .t) r2 r1
     Chain.nil))))
     hB ?_
   clear hS; intro a w F hS
   replace hS := hS.sub
   obtain ⟨F, hS⟩ := hS.nm [66, 65, 64, 63, 62, 61, 9, 3, 2] [108, 105, 104, 103, 102, 101, 1, 0] rfl rfl
   try dsimp only [RS.sub, SF.sub, CF.sub, csub, Anc.sub, List.map, stCells, xL, xM, Nat.reduceAdd, xD, xE, xT, xU, xC, xN, zCF, ldSF, rHist, rTx, rOrd, rVer, rInt, rOp] at hS
   generalize Act.tau a 9 = v9 at hS
   try simp only [Int.toNat_natCast] at hS
   refine then_n (wp_seq ?_)
   refine region_q hS
     (cF rfl (oN (.ci (by kernel_rfl))) trivial trivial
     Chain.nil)
     hB ?_
   clear hS; intro a w F hS
   obtain ⟨F, hS⟩ := hS.nm [66, 65, 64, 63, 62, 61, 10, 9, 3, 2] [108, 105, 104, 103, 102, 101, 1, 0] rfl rfl
   try dsimp only [rHist, rTx, rOrd, rVer, rInt, rOp] at hS
   refine then_n (wp_seq ?_)
   refine region_q hS
     (cF rfl (oF 1 108 .is) r1 r1
     (cF rfl (oL false 1 108 .adr) r1 r1
     (cF rfl (o_len_sl Try.underlying76 .t) r1 trivial
     (cF rfl (oM (.ci (by kernel_rfl))) trivial trivial
     Chain.nil))))
     hB ?_
   clear hS; intro a w F hS
   obtain ⟨F, hS⟩ := hS.nm [70, 69, 68, 67, 66, 65, 64, 63, 62, 61, 10, 9, 3, 2] [108, 105, 104, 103, 102, 101, 1, 0] rfl rfl
   try dsimp only [List.map, xD, xE, xT, xU, ldSF, rHist, rTx, rOrd, rVer, rInt, rOp] at hS
   refine then_n (wp_block ?_)
   replace hS := hS.ent (i := 10) (s' := .pv (.int .i64 (atI (Go.Gm.nth g.orders i).txs 0))) rfl (.int rfl)
   refine loop_keep (σ := (Nat) × (List (GE KeyD Int)) × (Nat)) [2, 3, 9, 61, 62, 63, 64, 65, 66, 67, 68, 69] [0, 1, 101, 102, 103, 105, 108] (fun s => [(70, .pv (.int .i64 (s.1 : Int))), (10, .pv (.int .i64 (atI (Go.Gm.nth g.orders i).txs s.1)))]) (fun s => [(104, .ob (.val v16) (mapG (fun n : Int => PV.int .i64 n) (fun k => ∀ x ∈ encK k, inR .i64 x) (kvS encK) s.2.1 s.2.2))]) (fun s => s.1 ≤ (Go.Gm.nth g.orders i).txs.length ∧ (AsgV s.2.1 (nxA (g.orders.take i) ++ nxO (Go.Gm.nth g.orders i) s.1))) (fun s => (Go.Gm.nth g.orders i).txs.length - s.1) ((0), (eC), (kC)) hS ⟨rfl, rfl, rfl, rfl, rfl, rfl, rfl, rfl, rfl, rfl, rfl, rfl, rfl, rfl, trivial⟩ ⟨rfl, rfl, rfl, rfl, rfl, rfl, rfl, rfl, trivial⟩ ⟨Nat.zero_le _, (by show AsgV _ (nxA (g.orders.take i) ++ []); rw [List.append_nil]; exact hcn)⟩ ?_
   clear hS; intro s a w F hC hS
   obtain ⟨j, eC3, kC3⟩ := s
   try dsimp only at hC
   obtain ⟨F, hS⟩ := hS.nm [70, 69, 68, 67, 66, 65, 64, 63, 62, 61, 10, 9, 3, 2] [108, 105, 104, 103, 102, 101, 1, 0] rfl rfl
   try dsimp only at hS
   obtain ⟨hi, hq⟩ := hC
   refine wp_seq ?_
   refine region_q hS
     (cF rfl (o_lss .t .t) r2 trivial
     Chain.nil)
     hB ?_
   clear hS; intro a w F hS
   obtain ⟨F, hS⟩ := hS.nm [71, 70, 69, 68, 67, 66, 65, 64, 63, 62, 61, 10, 9, 3, 2] [108, 105, 104, 103, 102, 101, 1, 0] rfl rfl
   try dsimp only [rHist, rTx, rOrd, rVer, rInt, rOp] at hS
   refine then_n (wp_seq ?_)
   refine cond_b hS rfl (fun hc5 => ?_) (fun hc5 => ?_)
   ·skip
    have hil : j < (Go.Gm.nth g.orders i).txs.length := by simp at hc5; omega
    refine wp_skip (then_n (wp_seq (wp_block (wp_seq ?_))))
    refine region_q hS
      (cF rfl (o_indexAddr_sl (sz := 1) (.mk Try.underlying76 (by kernel_rfl)) (by intro x; rfl) .t .t (by omega) (by omega)) r2 trivial
      (cF rfl (oR false 1 .t) r1 trivial
      (cF rfl (oN .t) r1 trivial
      Chain.nil)))
      hB ?_
    clear hS; intro a w F hS
    obtain ⟨F, hS⟩ := hS.nm [73, 72, 71, 70, 69, 68, 67, 66, 65, 64, 63, 62, 61, 12, 10, 9, 3, 2] [108, 105, 104, 103, 102, 101, 1, 0] rfl rfl
    try dsimp only [List.map, xD, xE, xT, xU, ldSF, rHist, rTx, rOrd, rVer, rInt, rOp] at hS
    try simp only [Int.toNat_natCast] at hS
    refine then_n (wp_seq ?_)
    refine region_any (by kernel_rfl) hS (by kernel_rfl)
      (cF rfl (oM .t) r1 trivial
      (cF rfl (o_nilCheck 105 .is (by rfl)) r1 r1
      (cF rfl (oF 4 105 .adr) r1 r1
      (cF rfl (oL false 1 105 .adr) r1 r1
      (cF rfl (oF 0 108 .is) r1 r1
      (cF rfl (oL false 1 108 .adr) r1 r1
      (cF rfl (oM .t) r1 trivial
      (cF rfl (o_buildA (sz := 1) (r := [(0, .tmp 79), (1, .tmp 80)]) (zs := [.int .i64 0, .int .i64 0]) (pl := [(0, 1), (1, 1)]) Try.underlying148 (by kernel_rfl) (by kernel_rfl) rfl (.one rfl .t one_int (by kernel_rfl) (.one rfl .t one_int (by kernel_rfl) .nil)) (by rfl)) r2 trivial
      (cF rfl (oM .t) r1 trivial
      (cF rfl (o_mapUpdateG (ek := (fun n : Int => PV.int .i64 n)) 104 Try.underlying145 keyKey .is (IsKeyOf.agg (enc := encK) (k := (⟨(Go.Gm.nth g.orders i).key, atI (Go.Gm.nth g.orders i).txs j⟩ : KeyD)) (.pagg .t) rfl) .t) r3 r1
      Chain.nil))))))))))
      (by kernel_rfl) (by rw [hB]; kernel_rfl) ?_
    clear hS; intro a w F hS
    obtain ⟨F, hS⟩ := hS.nm [82, 81, 80, 79, 78, 77, 76, 75, 74, 73, 72, 71, 70, 69, 68, 67, 66, 65, 64, 63, 62, 61, 12, 10, 9, 3, 2] [108, 105, 104, 103, 102, 101, 1, 0] rfl rfl
    try dsimp only [List.map, stCells, xL, xM, Nat.reduceAdd, xD, xE, xT, xU, xC, xN, zCF, ldSF, rHist, rTx, rOrd, rVer, rInt, rOp] at hS
    obtain ⟨eC4, heC4⟩ : ∃ z, z = (gPut (⟨(Go.Gm.nth g.orders i).key, atI (Go.Gm.nth g.orders i).txs j⟩ : KeyD) (Go.Gm.nth (Go.Gm.nth g.orders i).txs j) (eC3, kC3)).1 := ⟨_, rfl⟩
    obtain ⟨kC4, hkC4⟩ : ∃ z, z = (gPut (⟨(Go.Gm.nth g.orders i).key, atI (Go.Gm.nth g.orders i).txs j⟩ : KeyD) (Go.Gm.nth (Go.Gm.nth g.orders i).txs j) (eC3, kC3)).2 := ⟨_, rfl⟩
    rw [← heC4, ← hkC4] at hS
    have hR3 : AsgV eC4 (nxA (g.orders.take i) ++ nxO (Go.Gm.nth g.orders i) (j + 1)) := by rw [heC4, nxO_step, ← List.append_assoc]; exact asg_put hq
    refine then_n ?_
    refine region_q hS
      (cF rfl (oM .t) r1 trivial
      (cF rfl (oN .t) r1 trivial
      Chain.nil))
      hB ?_
    clear hS; intro a w F hS
    obtain ⟨F, hS⟩ := hS.nm [83, 82, 81, 80, 79, 78, 77, 76, 75, 74, 73, 72, 71, 70, 69, 68, 67, 66, 65, 64, 63, 62, 61, 12, 10, 9, 3, 2] [108, 105, 104, 103, 102, 101, 1, 0] rfl rfl
    try dsimp only [rHist, rTx, rOrd, rVer, rInt, rOp] at hS
    refine block_n (then_n ?_)
    refine region_q hS
      (cF rfl (o_add .t (.ci (by kernel_rfl))) r1 trivial
      (cF rfl (oM .t) r1 trivial
      Chain.nil))
      hB ?_
    clear hS; intro a w F hS
    obtain ⟨F, hS⟩ := hS.nm [84, 83, 82, 81, 80, 79, 78, 77, 76, 75, 74, 73, 72, 71, 70, 69, 68, 67, 66, 65, 64, 63, 62, 61, 12, 10, 9, 3, 2] [108, 105, 104, 103, 102, 101, 1, 0] rfl rfl
    try dsimp only [rHist, rTx, rOrd, rVer, rInt, rOp] at hS
    refine then_n ?_
    replace hS := hS.ent (i := 70) (s' := .pv (.int .i64 ((j + 1 : Nat) : Int))) rfl (.int (wrap_succ (by omega)))
    replace hS := hS.ent (i := 10) (s' := .pv (.int .i64 (atI (Go.Gm.nth g.orders i).txs (j + 1)))) rfl (.int (by simp [atI]))
    obtain ⟨F, hS⟩ := hS.nm [69, 68, 67, 66, 65, 64, 63, 62, 61, 9, 3, 2, 10, 70] [108, 105, 103, 102, 101, 1, 0, 104] rfl rfl
    exact ⟨((j + 1), (eC4), (kC4)), F, ⟨by omega, hR3⟩, hS, by omega⟩
   have hil : j = (Go.Gm.nth g.orders i).txs.length := by simp at hc5; omega
   rw [hil] at hq
   obtain ⟨eC2, heC2⟩ : ∃ z, z = eC3 := ⟨_, rfl⟩
   obtain ⟨kC2, hkC2⟩ : ∃ z, z = kC3 := ⟨_, rfl⟩
   rw [← heC2, ← hkC2] at hS
   have hR2 : AsgV eC2 (nxA (g.orders.take (i + 1))) := by rw [heC2, nxA_step hio]; exact hq
   refine wp_exit (then_x (then_x (block_x (block_n (then_n ?_)))))
   refine region_q hS
     (cF rfl (o_add .t (.ci (by kernel_rfl))) r1 trivial
     (cF rfl (oM .t) r1 trivial
     Chain.nil))
     hB ?_
   clear hS; intro a w F hS
   obtain ⟨F, hS⟩ := hS.nm [85, 71, 70, 69, 68, 67, 66, 65, 64, 63, 62, 61, 10, 9, 3, 2] [108, 105, 104, 103, 102, 101, 1, 0] rfl rfl
   try dsimp only [rHist, rTx, rOrd, rVer, rInt, rOp] at hS
   refine then_n ?_
   replace hS := hS.ent (i := 63) (s' := .pv (.int .i64 ((i + 1 : Nat) : Int))) rfl (.int (wrap_succ (by omega)))
   obtain ⟨F, hS⟩ := hS.nm [62, 61, 3, 2, 63] [105, 103, 102, 101, 1, 0, 104] rfl rfl
   exact ⟨((i + 1), (eC2), (kC2)), F, ⟨by omega, hR2⟩, hS, by omega⟩
  have hil : i = g.orders.length := by simp at hc4; omega
  rw [hil, List.take_length] at hq
  have hdC := hq
  refine wp_exit (then_x (then_x (block_x (then_n (wp_seq ?_)))))
  refine region_q hS
    (cF rfl (oM .t) r1 trivial
    (cF rfl (oN .t) r1 trivial
    Chain.nil))
    hB ?_
  clear hS; intro a w F hS
  obtain ⟨F, hS⟩ := hS.nm [2] [105, 104, 103, 102, 101, 1, 0] rfl rfl
  try dsimp only [rHist, rTx, rOrd, rVer, rInt, rOp] at hS
  refine then_n (wp_ret ?_)
  obtain ⟨b, rfl⟩ := hS.shape 105 rfl
  obtain ⟨F, hS⟩ := hS.push 1 104 rfl rfl rfl (by kernel_rfl)
  obtain ⟨F, hS⟩ := hS.push 1 103 rfl rfl rfl (by kernel_rfl)
  obtain ⟨F, hS⟩ := hS.push 1 102 rfl rfl rfl (by kernel_rfl)
  obtain ⟨F, hS⟩ := hS.push 1 105 rfl rfl rfl (by kernel_rfl)
  have hS := hS.turn 1 rfl (r' := RS.hp (finH g (.pointer (some ⟨b, 0, none⟩)))) (fun _ _ _ _ h => ⟨(⟨v14, v15, v16, eA, kA, eB, kB, eC, kC⟩ : FS), ⟨hdA, hdB, hdC⟩, h⟩)
  refine ret_N1 (h' := fun v => finH g v) hG hS rfl (.tmp rfl .nil) (.one .ptr) rfl

end Go.Proofs.Ytpnaolljmhhdbaa
namespace Go.Proofs.Ytpnaolljmhhdbaa
open Go Go.Gm
set_option linter.unusedVariables false
set_option linter.unusedSimpArgs false
set_option maxHeartbeats 4000000
set_option maxRecDepth 8000

theorem ret_G2c {P : Program} {B : Base} {F0 : Fp} (hG : BaseG B F0 2) {E : En} {a : Act} {w : World} {F : Fp} {fn : Func} {q : PV} {k1 k2 : HP} {ss : List SF} (hS : Sat B E a w F) (h0 : Go.Gm.look E.r 0 = some (frame B)) (hr : ROk P E fn.results.toList ss) (hq : Tells ss q)
    (h1 : Go.Gm.look E.r 1 = some (RS.hp k1)) (h2 : Go.Gm.look E.r 2 = some (RS.hp k2)) : bodyPost P fn (RG B F0 2 q (fun _ => [k1, k2])) .ret a w :=
  ret_G hG hS h0 hr hq fun v τ y hv i h hi => by
    match i, hi with
    | 0, hi => simp at hi; subst hi; exact ⟨_, h1, by omega, fun _ _ _ h => h⟩
    | 1, hi => simp at hi; subst hi; exact ⟨_, h2, by omega, fun _ _ _ h => h⟩

theorem dread_c (b : Nat) (g : HistD) (t : TxD) (o : OpD) (mv : Value) (AA : List (EdgeD × Int)) (RR : List EdgeD) (hRR : RR.length ≤ 10000000) : FnG Try.prog 67 2 [.is (.pointer (some ⟨b, 0, none⟩)), .agg (rTx t), .agg (rOp o), .is mv] [finH g (.pointer (some ⟨b, 0, none⟩)), edgH AA RR mv] (.tup []) (fun _ => [finH g (.pointer (some ⟨b, 0, none⟩)), edgH AA (RR ++ rdO g t o) mv]) := by
  refine FnG.mk Try.func67 rfl Try.ntmps67 rfl (by kernel_rfl) ?_
  intro B F0 a w F hB hG hS
  obtain ⟨⟨mA, mB, mC, eA, kA, eB, kB, eC, kC⟩, hS⟩ := hS.open_ex 1 rfl
  obtain ⟨hI, hS⟩ := hS.open_and 1 rfl
  try dsimp only [fParts] at hS
  obtain ⟨F, hS⟩ := hS.peel 1 3 rfl rfl
  obtain ⟨F, hS⟩ := hS.peel 1 4 rfl rfl
  obtain ⟨F, hS⟩ := hS.peel 1 5 rfl rfl
  obtain ⟨F, hS⟩ := hS.peel 1 6 rfl rfl
  obtain ⟨⟨es, ck⟩, hS⟩ := hS.open_ex 2 rfl
  obtain ⟨hq0, hS⟩ := hS.open_and 2 rfl
  replace hS := hS.turn 2 rfl (r' := .ob (.val mv) (mapG (fun n : Int => PV.int .i64 n) (fun k => ∀ x ∈ encEi k, inR .i64 x) (kvS encEi) es ck)) (fun _ _ _ _ h => h)
  try dsimp only at hI hq0
  obtain ⟨F, hS⟩ := hS.nm [3, 2, 1, 0] [6, 5, 4, 3, 2, 0] rfl rfl
  refine wp_seq ?_
  refine region_q hS
    (cF rfl (oX 101 (.conv .t .agg)) r1 trivial
    (cF rfl (oX 102 (.conv .t .agg)) r1 trivial
    Chain.nil))
    hB ?_
  clear hS; intro a w F hS
  replace hS := hS.sub
  obtain ⟨F, hS⟩ := hS.nm [6, 5, 3, 0] [102, 101, 6, 5, 4, 3, 2, 0] rfl rfl
  try dsimp only [RS.sub, SF.sub, CF.sub, csub, Anc.sub, List.map, zCF, rHist, rTx, rOrd, rVer, rInt, rOp] at hS
  generalize Act.tau a 5 = v5 at hS
  generalize Act.tau a 6 = v6 at hS
  refine then_n (wp_seq (wp_seq ?_))
  refine region_any (by kernel_rfl) hS (by kernel_rfl)
    (cF rfl (oF 2 102 .is) r1 r1
    (cF rfl (oL false 1 102 .adr) r1 r1
    (cF rfl (oF 0 101 .is) r1 r1
    (cF rfl (oL false 1 101 .adr) r1 r1
    (cF rfl (o_eql .t .t) r2 trivial
    (cF rfl (oM .t) r1 trivial
    (Chain.cons (Cert.cond rfl rfl (fun h => o_fieldAddr (off := 2) 102 .is (by kernel_rfl) (by rfl))) r2 r1
    (Chain.cons (Cert.cond rfl rfl (fun h => o_load (ag := false) (sz := 1) 102 (.w h .adr) (by kernel_rfl) (by kernel_rfl) (by kernel_rfl) (by rfl))) r2 r1
    (Chain.cons (Cert.cond rfl rfl (fun h => o_neq (.w h) (.ci (by kernel_rfl)))) r2 trivial
    (Chain.cons (Cert.cond rfl rfl (fun h => o_move (.w h) (by rfl))) r2 trivial
    (Chain.cons (Cert.cond2 rfl rfl (fun h => o_move .t (by rfl))) r2 trivial
    (Chain.cons (Cert.cond2 rfl rfl (fun h => o_nilCheck 3 (.w h .is) (by rfl))) r2 r1
    (Chain.cons (Cert.cond2 rfl rfl (fun h => o_fieldAddr (off := 2) 3 (.w h .adr) (by kernel_rfl) (by rfl))) r2 r1
    (Chain.cons (Cert.cond2 rfl rfl (fun h => o_load (ag := false) (sz := 1) 3 (.w h .adr) (by kernel_rfl) (by kernel_rfl) (by kernel_rfl) (by rfl))) r2 r1
    (Chain.cons (Cert.cond2 rfl rfl (fun h => o_fieldAddr (off := 2) 102 .is (by kernel_rfl) (by rfl))) r2 r1
    (Chain.cons (Cert.cond2 rfl rfl (fun h => o_load (ag := false) (sz := 1) 102 (.w h .adr) (by kernel_rfl) (by kernel_rfl) (by kernel_rfl) (by rfl))) r2 r1
    (Chain.cons (Cert.cond2 rfl rfl (fun h => o_lookupG (ek := (fun n : Int => PV.int .i64 n)) (z0 := (0)) 4 Try.underlying144 (key_intG Try.underlying3) (by kernel_rfl) (fun _ _ => ⟨rfl, inR0⟩) (.w h .is) (IsKeyOf.int (.w h) rfl))) r3 r1
    (Chain.cons (Cert.cond2 rfl rfl (fun h => o_eql (.w h) (.ci (by kernel_rfl)))) r2 trivial
    (Chain.cons (Cert.cond2 rfl rfl (fun h => o_move (.w h) (by rfl))) r2 trivial
    (Chain.cons (Cert.cond2 rfl rfl (fun h => o_move .t (by rfl))) r2 trivial
    (Chain.cons (Cert.cond2 rfl rfl (fun h => o_nilCheck 3 (.w h .is) (by rfl))) r2 r1
    (Chain.cons (Cert.cond2 rfl rfl (fun h => o_fieldAddr (off := 3) 3 (.w h .adr) (by kernel_rfl) (by rfl))) r2 r1
    (Chain.cons (Cert.cond2 rfl rfl (fun h => o_load (ag := false) (sz := 1) 3 (.w h .adr) (by kernel_rfl) (by kernel_rfl) (by kernel_rfl) (by rfl))) r2 r1
    (Chain.cons (Cert.cond2 rfl rfl (fun h => o_fieldAddr (off := 2) 102 .is (by kernel_rfl) (by rfl))) r2 r1
    (Chain.cons (Cert.cond2 rfl rfl (fun h => o_load (ag := false) (sz := 1) 102 (.w h .adr) (by kernel_rfl) (by kernel_rfl) (by kernel_rfl) (by rfl))) r2 r1
    (Chain.cons (Cert.cond2 rfl rfl (fun h => o_fieldAddr (off := 1) 102 .is (by kernel_rfl) (by rfl))) r2 r1
    (Chain.cons (Cert.cond2 rfl rfl (fun h => o_load (ag := false) (sz := 1) 102 (.w h .adr) (by kernel_rfl) (by kernel_rfl) (by kernel_rfl) (by rfl))) r2 r1
    (Chain.cons (Cert.cond2 rfl rfl (fun h => o_buildA (sz := 1) (r := [(0, .tmp 33), (1, .tmp 35)]) (zs := [.int .i64 0, .int .i64 0]) (pl := [(0, 1), (1, 1)]) Try.underlying148 (by kernel_rfl) (by kernel_rfl) rfl (.one rfl (.w h) one_int (by kernel_rfl) (.one rfl (.w h) one_int (by kernel_rfl) .nil)) (by rfl))) r3 trivial
    (Chain.cons (Cert.cond2 rfl rfl (fun h => o_lookupG (ek := (fun n : Int => PV.int .i64 n)) (z0 := (0)) 5 Try.underlying145 keyKey (by kernel_rfl) (fun _ _ => ⟨rfl, inR0⟩) (.w h .is) (IsKeyOf.agg (enc := encK) (k := (⟨o.tx, o.key⟩ : KeyD)) (.pagg (.w h)) rfl))) r3 r1
    (Chain.cons (Cert.cond2 rfl rfl (fun h => o_fieldAddr (off := 3) 102 .is (by kernel_rfl) (by rfl))) r2 r1
    (Chain.cons (Cert.cond2 rfl rfl (fun h => o_load (ag := false) (sz := 1) 102 (.w h .adr) (by kernel_rfl) (by kernel_rfl) (by kernel_rfl) (by rfl))) r2 r1
    (Chain.cons (Cert.cond2 rfl rfl (fun h => o_neq (.w h) (.w h))) r3 trivial
    (Chain.cons (Cert.cond2 rfl rfl (fun h => o_or2 (.w h) (.wc h))) r3 trivial
    (Chain.cons (Cert.cond rfl rfl (fun h => o_and2 (.w h) (.wc h))) r3 trivial
    (cF rfl (o_or2 .t .t) r2 trivial
    Chain.nil)))))))))))))))))))))))))))))))))))
    (by kernel_rfl) (by rw [hB]; kernel_rfl) ?_
  clear hS; intro a w F hS
  obtain ⟨F, hS⟩ := hS.nm [43, 6, 5, 3, 0] [102, 101, 6, 5, 4, 3, 2, 0] rfl rfl
  try dsimp only [List.map, stCells, xL, xM, Nat.reduceAdd, xD, xE, xT, xU, xC, xN, zCF, ldSF, rHist, rTx, rOrd, rVer, rInt, rOp] at hS
  refine then_n ?_
  refine cond_b hS rfl (fun hc0 => ?_) (fun hc0 => ?_)
  ·skip
   have hno : rdNo g t o = true := by unfold rdNo doneI lastI; rw [← hI.dn, ← hI.la]; simpa using hc0
   obtain ⟨es3, hes3⟩ : ∃ z, z = es := ⟨_, rfl⟩
   obtain ⟨ck3, hck3⟩ : ∃ z, z = ck := ⟨_, rfl⟩
   rw [← hes3, ← hck3] at hS
   have hR9 : EdgV es3 AA (RR ++ rdO g t o) := by rw [hes3]; unfold rdO; rw [if_pos hno, List.append_nil]; exact hq0
   refine wp_ret (then_r ?_)
   have hS := hS.fresh 1 rfl
   obtain ⟨F, hS⟩ := hS.push 1 6 rfl rfl rfl (by kernel_rfl)
   obtain ⟨F, hS⟩ := hS.push 1 5 rfl rfl rfl (by kernel_rfl)
   obtain ⟨F, hS⟩ := hS.push 1 4 rfl rfl rfl (by kernel_rfl)
   obtain ⟨F, hS⟩ := hS.push 1 3 rfl rfl rfl (by kernel_rfl)
   have hS := hS.turn 1 rfl (r' := RS.hp (finH g (.pointer (some ⟨b, 0, none⟩)))) (fun _ _ _ _ h => ⟨(⟨mA, mB, mC, eA, kA, eB, kB, eC, kC⟩ : FS), hI, h⟩)
   have hS := hS.turn 2 rfl (r' := RS.hp (edgH AA (RR ++ rdO g t o) mv)) (fun _ _ _ _ h => ⟨(es3, ck3), hR9, h⟩)
   refine ret_G2c hG hS rfl .nil Tells.none rfl rfl
  have hno : rdNo g t o = false := by unfold rdNo doneI lastI; rw [← hI.dn, ← hI.la]; simpa using hc0
  refine wp_skip (then_n (wp_seq (wp_seq ?_)))
  refine region_q hS
    (cF rfl (oF 2 102 .is) r1 r1
    (cF rfl (oL false 1 102 .adr) r1 r1
    (cF rfl (o_neq .t (.ci (by kernel_rfl))) r1 trivial
    Chain.nil)))
    hB ?_
  clear hS; intro a w F hS
  obtain ⟨F, hS⟩ := hS.nm [46, 6, 5, 3, 0] [102, 101, 6, 5, 4, 3, 2, 0] rfl rfl
  try dsimp only [List.map, xD, xE, xT, xU, ldSF, rHist, rTx, rOrd, rVer, rInt, rOp] at hS
  refine then_n ?_
  refine cond_b hS rfl (fun hc1 => ?_) (fun hc1 => ?_)
  ·skip
   have h0 : ¬ o.tx = 0 := by simpa using hc1
   replace hS := hS.turnZ 2 (0) (⟨o.tx, t.id, 2, o.key⟩ : EdgeD) rfl
   refine region_anyS 2 12 (m1 := 1) (m2 := 2) (by kernel_rfl) hS (by kernel_rfl)
     (cF rfl (oM .t) r1 trivial
     (cF rfl (oF 2 102 .is) r1 r1
     (cF rfl (oL false 1 102 .adr) r1 r1
     (cF rfl (oF 0 101 .is) r1 r1
     (cF rfl (oL false 1 101 .adr) r1 r1
     (cF rfl (oF 1 102 .is) r1 r1
     (cF rfl (oL false 1 102 .adr) r1 r1
     (cF rfl (oB [(0, .tmp 49), (1, .tmp 51), (2, _), (3, .tmp 53)] [.int .i64 0, .int .i64 0, .int .i64 0, .int .i64 0] [(0, 1), (1, 1), (2, 1), (3, 1)] (.one rfl .t one_int (by kernel_rfl) (.one rfl .t one_int (by kernel_rfl) (.one rfl (.ci (by kernel_rfl)) one_int (by kernel_rfl) (.one rfl .t one_int (by kernel_rfl) .nil))))) r3 trivial
     (cF rfl (o_lookupZ (ek := (fun n : Int => PV.int .i64 n)) (z0 := (0)) 2 Try.underlying87 keyEdge (by kernel_rfl) (fun _ _ => ⟨rfl, inR0⟩) .is (IsKeyOf.agg (enc := encEi) (k := (⟨o.tx, t.id, 2, o.key⟩ : EdgeD)) (.pagg .t) rfl)) r2 r1
     (cF rfl (o_add .t (.ci (by kernel_rfl))) r1 trivial
     (cF rfl (o_mapEntryZ (ek := (fun n : Int => PV.int .i64 n)) (z0 := (0)) 2 Try.underlying87 keyEdge (by kernel_rfl) (fun _ _ => ⟨rfl, inR0⟩) .is (IsKeyOf.agg (enc := encEi) (k := (⟨o.tx, t.id, 2, o.key⟩ : EdgeD)) (.pagg .t) rfl) (by intros; first | rfl | simp [Anc.v, upd])) r2 r1
     (cF rfl (o_extract .t rfl) r1 trivial
     (cF rfl (o_entryStoreG 2 (gEns_born _ _ _) .is .t .t) r3 r1
     Chain.nil)))))))))))))
     (by kernel_rfl) (by kernel_rfl) (by kernel_rfl) rfl rfl rfl (fun _ _ _ _ h => .inr h) (by rw [hB]; kernel_rfl) ?_
   clear hS; intro a w F hS
   obtain ⟨F, hS⟩ := hS.nm [6, 5, 3, 0] [102, 101, 6, 5, 4, 3, 2, 0] rfl rfl
   try dsimp only [List.map, stCells, xL, xM, Nat.reduceAdd, xD, xE, xT, xU, xC, xN, zCF, ldSF, rHist, rTx, rOrd, rVer, rInt, rOp] at hS
   obtain ⟨es2, hes2⟩ : ∃ z, z = gSet (⟨o.tx, t.id, 2, o.key⟩ : EdgeD) (IntKind.wrap .i64 ((gGet (⟨o.tx, t.id, 2, o.key⟩ : EdgeD) es).getD 0 + 1)) (gEns 0 (⟨o.tx, t.id, 2, o.key⟩ : EdgeD) (es, ck)).1 := ⟨_, rfl⟩
   obtain ⟨ck2, hck2⟩ : ∃ z, z = (gEns 0 (⟨o.tx, t.id, 2, o.key⟩ : EdgeD) (es, ck)).2 := ⟨_, rfl⟩
   rw [← hes2, ← hck2] at hS
   have hR2 : EdgV es2 AA (RR ++ rdA t o) := by rw [hes2]; unfold rdA; rw [if_neg h0]; exact edg_inc hq0 (by omega)
   refine then_n (wp_seq ?_)
   refine region_any (by kernel_rfl) hS (by kernel_rfl)
     (cF rfl (oM .t) r1 trivial
     (cF rfl (o_nilCheck 3 .is (by rfl)) r1 r1
     (cF rfl (oF 4 3 .adr) r1 r1
     (cF rfl (oL false 1 3 .adr) r1 r1
     (cF rfl (oF 1 102 .is) r1 r1
     (cF rfl (oL false 1 102 .adr) r1 r1
     (cF rfl (oF 2 102 .is) r1 r1
     (cF rfl (oL false 1 102 .adr) r1 r1
     (cF rfl (o_buildA (sz := 1) (r := [(0, .tmp 64), (1, .tmp 66)]) (zs := [.int .i64 0, .int .i64 0]) (pl := [(0, 1), (1, 1)]) Try.underlying148 (by kernel_rfl) (by kernel_rfl) rfl (.one rfl .t one_int (by kernel_rfl) (.one rfl .t one_int (by kernel_rfl) .nil)) (by rfl)) r2 trivial
     (cF rfl (o_lookupG (ek := (fun n : Int => PV.int .i64 n)) (z0 := (0)) 6 Try.underlying145 keyKey (by kernel_rfl) (fun _ _ => ⟨rfl, inR0⟩) .is (IsKeyOf.agg (enc := encK) (k := (⟨o.key, o.tx⟩ : KeyD)) (.pagg .t) rfl)) r2 r1
     (cF rfl (oN .t) r1 trivial
     Chain.nil)))))))))))
     (by kernel_rfl) (by rw [hB]; kernel_rfl) ?_
   clear hS; intro a w F hS
   obtain ⟨F, hS⟩ := hS.nm [8, 6, 5, 3] [102, 101, 6, 5, 4, 3, 2, 0] rfl rfl
   try dsimp only [List.map, stCells, xL, xM, Nat.reduceAdd, xD, xE, xT, xU, xC, xN, zCF, ldSF, rHist, rTx, rOrd, rVer, rInt, rOp] at hS
   rw [show (gGet (⟨o.key, o.tx⟩ : KeyD) eC).getD 0 = (nxI g o.key o.tx) from hI.nx _] at hS
   refine then_n (wp_seq ?_)
   refine region_q hS
     (cF rfl (oM .t) r1 trivial
     (cF rfl (o_neq .t (.ci (by kernel_rfl))) r1 trivial
     (cF rfl (oM .t) r1 trivial
     (Chain.cons (Cert.cond rfl rfl (fun h => o_move .t (by rfl))) r2 trivial
     (Chain.cons (Cert.cond rfl rfl (fun h => o_fieldAddr (off := 0) 101 .is (by kernel_rfl) (by rfl))) r2 r1
     (Chain.cons (Cert.cond rfl rfl (fun h => o_load (ag := false) (sz := 1) 101 (.w h .adr) (by kernel_rfl) (by kernel_rfl) (by kernel_rfl) (by rfl))) r2 r1
     (Chain.cons (Cert.cond rfl rfl (fun h => o_neq (.w h) (.w h))) r3 trivial
     (cF rfl (o_and2 .t .t) r2 trivial
     Chain.nil))))))))
     hB ?_
   clear hS; intro a w F hS
   obtain ⟨F, hS⟩ := hS.nm [76, 8, 6, 5, 3] [102, 101, 6, 5, 4, 3, 2, 0] rfl rfl
   try dsimp only [List.map, xD, xE, xT, xU, ldSF, rHist, rTx, rOrd, rVer, rInt, rOp] at hS
   refine then_n ?_
   refine cond_b hS rfl (fun hc2 => ?_) (fun hc2 => ?_)
   ·skip
    have h1 : (nxI g o.key o.tx) ≠ 0 ∧ (nxI g o.key o.tx) ≠ t.id := by simpa using hc2
    replace hS := hS.turnZ 2 (0) (⟨t.id, (nxI g o.key o.tx), 3, o.key⟩ : EdgeD) rfl
    refine region_anyS 2 11 (m1 := 1) (m2 := 2) (by kernel_rfl) hS (by kernel_rfl)
      (cF rfl (oM .t) r1 trivial
      (cF rfl (oF 0 101 .is) r1 r1
      (cF rfl (oL false 1 101 .adr) r1 r1
      (cF rfl (oM .t) r1 trivial
      (cF rfl (oF 1 102 .is) r1 r1
      (cF rfl (oL false 1 102 .adr) r1 r1
      (cF rfl (oB [(0, .tmp 79), (1, .tmp 80), (2, _), (3, .tmp 82)] [.int .i64 0, .int .i64 0, .int .i64 0, .int .i64 0] [(0, 1), (1, 1), (2, 1), (3, 1)] (.one rfl .t one_int (by kernel_rfl) (.one rfl .t one_int (by kernel_rfl) (.one rfl (.ci (by kernel_rfl)) one_int (by kernel_rfl) (.one rfl .t one_int (by kernel_rfl) .nil))))) r3 trivial
      (cF rfl (o_lookupZ (ek := (fun n : Int => PV.int .i64 n)) (z0 := (0)) 2 Try.underlying87 keyEdge (by kernel_rfl) (fun _ _ => ⟨rfl, inR0⟩) .is (IsKeyOf.agg (enc := encEi) (k := (⟨t.id, (nxI g o.key o.tx), 3, o.key⟩ : EdgeD)) (.pagg .t) rfl)) r2 r1
      (cF rfl (o_add .t (.ci (by kernel_rfl))) r1 trivial
      (cF rfl (o_mapEntryZ (ek := (fun n : Int => PV.int .i64 n)) (z0 := (0)) 2 Try.underlying87 keyEdge (by kernel_rfl) (fun _ _ => ⟨rfl, inR0⟩) .is (IsKeyOf.agg (enc := encEi) (k := (⟨t.id, (nxI g o.key o.tx), 3, o.key⟩ : EdgeD)) (.pagg .t) rfl) (by intros; first | rfl | simp [Anc.v, upd])) r2 r1
      (cF rfl (o_extract .t rfl) r1 trivial
      (cF rfl (o_entryStoreG 2 (gEns_born _ _ _) .is .t .t) r3 r1
      Chain.nil))))))))))))
      (by kernel_rfl) (by kernel_rfl) (by kernel_rfl) rfl rfl rfl (fun _ _ _ _ h => .inr h) (by rw [hB]; kernel_rfl) ?_
    clear hS; intro a w F hS
    obtain ⟨F, hS⟩ := hS.nm [] [102, 101, 6, 5, 4, 3, 2, 0] rfl rfl
    try dsimp only [List.map, stCells, xL, xM, Nat.reduceAdd, xD, xE, xT, xU, xC, xN, zCF, ldSF, rHist, rTx, rOrd, rVer, rInt, rOp] at hS
    obtain ⟨es3, hes3⟩ : ∃ z, z = gSet (⟨t.id, (nxI g o.key o.tx), 3, o.key⟩ : EdgeD) (IntKind.wrap .i64 ((gGet (⟨t.id, (nxI g o.key o.tx), 3, o.key⟩ : EdgeD) es2).getD 0 + 1)) (gEns 0 (⟨t.id, (nxI g o.key o.tx), 3, o.key⟩ : EdgeD) (es2, ck2)).1 := ⟨_, rfl⟩
    obtain ⟨ck3, hck3⟩ : ∃ z, z = (gEns 0 (⟨t.id, (nxI g o.key o.tx), 3, o.key⟩ : EdgeD) (es2, ck2)).2 := ⟨_, rfl⟩
    rw [← hes3, ← hck3] at hS
    have hR9 : EdgV es3 AA (RR ++ rdO g t o) := by rw [hes3]; unfold rdO; rw [if_neg (by rw [hno]; simp)]; unfold rdB; rw [if_pos h1, ← List.append_assoc]; exact edg_inc hR2 (by have h9 : (rdA t o).length ≤ 1 := by { unfold rdA; split <;> simp }; rw [List.length_append]; omega)
    have hS := hS.fresh 1 rfl
    obtain ⟨F, hS⟩ := hS.push 1 6 rfl rfl rfl (by kernel_rfl)
    obtain ⟨F, hS⟩ := hS.push 1 5 rfl rfl rfl (by kernel_rfl)
    obtain ⟨F, hS⟩ := hS.push 1 4 rfl rfl rfl (by kernel_rfl)
    obtain ⟨F, hS⟩ := hS.push 1 3 rfl rfl rfl (by kernel_rfl)
    have hS := hS.turn 1 rfl (r' := RS.hp (finH g (.pointer (some ⟨b, 0, none⟩)))) (fun _ _ _ _ h => ⟨(⟨mA, mB, mC, eA, kA, eB, kB, eC, kC⟩ : FS), hI, h⟩)
    have hS := hS.turn 2 rfl (r' := RS.hp (edgH AA (RR ++ rdO g t o) mv)) (fun _ _ _ _ h => ⟨(es3, ck3), hR9, h⟩)
    refine ret_G2c hG hS rfl .nil Tells.none rfl rfl
   have h1 : ¬ ((nxI g o.key o.tx) ≠ 0 ∧ (nxI g o.key o.tx) ≠ t.id) := by simpa using hc2
   obtain ⟨es3, hes3⟩ : ∃ z, z = es2 := ⟨_, rfl⟩
   obtain ⟨ck3, hck3⟩ : ∃ z, z = ck2 := ⟨_, rfl⟩
   rw [← hes3, ← hck3] at hS
   have hR9 : EdgV es3 AA (RR ++ rdO g t o) := by rw [hes3]; unfold rdO; rw [if_neg (by rw [hno]; simp)]; unfold rdB; rw [if_neg h1, List.append_nil]; exact hR2
   refine wp_skip ?_
   have hS := hS.fresh 1 rfl
   obtain ⟨F, hS⟩ := hS.push 1 6 rfl rfl rfl (by kernel_rfl)
   obtain ⟨F, hS⟩ := hS.push 1 5 rfl rfl rfl (by kernel_rfl)
   obtain ⟨F, hS⟩ := hS.push 1 4 rfl rfl rfl (by kernel_rfl)
   obtain ⟨F, hS⟩ := hS.push 1 3 rfl rfl rfl (by kernel_rfl)
   have hS := hS.turn 1 rfl (r' := RS.hp (finH g (.pointer (some ⟨b, 0, none⟩)))) (fun _ _ _ _ h => ⟨(⟨mA, mB, mC, eA, kA, eB, kB, eC, kC⟩ : FS), hI, h⟩)
   have hS := hS.turn 2 rfl (r' := RS.hp (edgH AA (RR ++ rdO g t o) mv)) (fun _ _ _ _ h => ⟨(es3, ck3), hR9, h⟩)
   refine ret_G2c hG hS rfl .nil Tells.none rfl rfl
  have h0 : o.tx = 0 := by simpa using hc1
  obtain ⟨es2, hes2⟩ : ∃ z, z = es := ⟨_, rfl⟩
  obtain ⟨ck2, hck2⟩ : ∃ z, z = ck := ⟨_, rfl⟩
  rw [← hes2, ← hck2] at hS
  have hR2 : EdgV es2 AA (RR ++ rdA t o) := by rw [hes2]; unfold rdA; rw [if_pos h0, List.append_nil]; exact hq0
  refine wp_skip (then_n (wp_seq ?_))
  refine region_any (by kernel_rfl) hS (by kernel_rfl)
    (cF rfl (oM .t) r1 trivial
    (cF rfl (o_nilCheck 3 .is (by rfl)) r1 r1
    (cF rfl (oF 4 3 .adr) r1 r1
    (cF rfl (oL false 1 3 .adr) r1 r1
    (cF rfl (oF 1 102 .is) r1 r1
    (cF rfl (oL false 1 102 .adr) r1 r1
    (cF rfl (oF 2 102 .is) r1 r1
    (cF rfl (oL false 1 102 .adr) r1 r1
    (cF rfl (o_buildA (sz := 1) (r := [(0, .tmp 64), (1, .tmp 66)]) (zs := [.int .i64 0, .int .i64 0]) (pl := [(0, 1), (1, 1)]) Try.underlying148 (by kernel_rfl) (by kernel_rfl) rfl (.one rfl .t one_int (by kernel_rfl) (.one rfl .t one_int (by kernel_rfl) .nil)) (by rfl)) r2 trivial
    (cF rfl (o_lookupG (ek := (fun n : Int => PV.int .i64 n)) (z0 := (0)) 6 Try.underlying145 keyKey (by kernel_rfl) (fun _ _ => ⟨rfl, inR0⟩) .is (IsKeyOf.agg (enc := encK) (k := (⟨o.key, o.tx⟩ : KeyD)) (.pagg .t) rfl)) r2 r1
    (cF rfl (oN .t) r1 trivial
    Chain.nil)))))))))))
    (by kernel_rfl) (by rw [hB]; kernel_rfl) ?_
  clear hS; intro a w F hS
  obtain ⟨F, hS⟩ := hS.nm [8, 6, 5, 3] [102, 101, 6, 5, 4, 3, 2, 0] rfl rfl
  try dsimp only [List.map, stCells, xL, xM, Nat.reduceAdd, xD, xE, xT, xU, xC, xN, zCF, ldSF, rHist, rTx, rOrd, rVer, rInt, rOp] at hS
  rw [show (gGet (⟨o.key, o.tx⟩ : KeyD) eC).getD 0 = (nxI g o.key o.tx) from hI.nx _] at hS
  refine then_n (wp_seq ?_)
  refine region_q hS
    (cF rfl (oM .t) r1 trivial
    (cF rfl (o_neq .t (.ci (by kernel_rfl))) r1 trivial
    (cF rfl (oM .t) r1 trivial
    (Chain.cons (Cert.cond rfl rfl (fun h => o_move .t (by rfl))) r2 trivial
    (Chain.cons (Cert.cond rfl rfl (fun h => o_fieldAddr (off := 0) 101 .is (by kernel_rfl) (by rfl))) r2 r1
    (Chain.cons (Cert.cond rfl rfl (fun h => o_load (ag := false) (sz := 1) 101 (.w h .adr) (by kernel_rfl) (by kernel_rfl) (by kernel_rfl) (by rfl))) r2 r1
    (Chain.cons (Cert.cond rfl rfl (fun h => o_neq (.w h) (.w h))) r3 trivial
    (cF rfl (o_and2 .t .t) r2 trivial
    Chain.nil))))))))
    hB ?_
  clear hS; intro a w F hS
  obtain ⟨F, hS⟩ := hS.nm [76, 8, 6, 5, 3] [102, 101, 6, 5, 4, 3, 2, 0] rfl rfl
  try dsimp only [List.map, xD, xE, xT, xU, ldSF, rHist, rTx, rOrd, rVer, rInt, rOp] at hS
  refine then_n ?_
  refine cond_b hS rfl (fun hc3 => ?_) (fun hc3 => ?_)
  ·skip
   have h1 : (nxI g o.key o.tx) ≠ 0 ∧ (nxI g o.key o.tx) ≠ t.id := by simpa using hc3
   replace hS := hS.turnZ 2 (0) (⟨t.id, (nxI g o.key o.tx), 3, o.key⟩ : EdgeD) rfl
   refine region_anyS 2 11 (m1 := 1) (m2 := 2) (by kernel_rfl) hS (by kernel_rfl)
     (cF rfl (oM .t) r1 trivial
     (cF rfl (oF 0 101 .is) r1 r1
     (cF rfl (oL false 1 101 .adr) r1 r1
     (cF rfl (oM .t) r1 trivial
     (cF rfl (oF 1 102 .is) r1 r1
     (cF rfl (oL false 1 102 .adr) r1 r1
     (cF rfl (oB [(0, .tmp 79), (1, .tmp 80), (2, _), (3, .tmp 82)] [.int .i64 0, .int .i64 0, .int .i64 0, .int .i64 0] [(0, 1), (1, 1), (2, 1), (3, 1)] (.one rfl .t one_int (by kernel_rfl) (.one rfl .t one_int (by kernel_rfl) (.one rfl (.ci (by kernel_rfl)) one_int (by kernel_rfl) (.one rfl .t one_int (by kernel_rfl) .nil))))) r3 trivial
     (cF rfl (o_lookupZ (ek := (fun n : Int => PV.int .i64 n)) (z0 := (0)) 2 Try.underlying87 keyEdge (by kernel_rfl) (fun _ _ => ⟨rfl, inR0⟩) .is (IsKeyOf.agg (enc := encEi) (k := (⟨t.id, (nxI g o.key o.tx), 3, o.key⟩ : EdgeD)) (.pagg .t) rfl)) r2 r1
     (cF rfl (o_add .t (.ci (by kernel_rfl))) r1 trivial
     (cF rfl (o_mapEntryZ (ek := (fun n : Int => PV.int .i64 n)) (z0 := (0)) 2 Try.underlying87 keyEdge (by kernel_rfl) (fun _ _ => ⟨rfl, inR0⟩) .is (IsKeyOf.agg (enc := encEi) (k := (⟨t.id, (nxI g o.key o.tx), 3, o.key⟩ : EdgeD)) (.pagg .t) rfl) (by intros; first | rfl | simp [Anc.v, upd])) r2 r1
     (cF rfl (o_extract .t rfl) r1 trivial
     (cF rfl (o_entryStoreG 2 (gEns_born _ _ _) .is .t .t) r3 r1
     Chain.nil))))))))))))
     (by kernel_rfl) (by kernel_rfl) (by kernel_rfl) rfl rfl rfl (fun _ _ _ _ h => .inr h) (by rw [hB]; kernel_rfl) ?_
   clear hS; intro a w F hS
   obtain ⟨F, hS⟩ := hS.nm [] [102, 101, 6, 5, 4, 3, 2, 0] rfl rfl
   try dsimp only [List.map, stCells, xL, xM, Nat.reduceAdd, xD, xE, xT, xU, xC, xN, zCF, ldSF, rHist, rTx, rOrd, rVer, rInt, rOp] at hS
   obtain ⟨es3, hes3⟩ : ∃ z, z = gSet (⟨t.id, (nxI g o.key o.tx), 3, o.key⟩ : EdgeD) (IntKind.wrap .i64 ((gGet (⟨t.id, (nxI g o.key o.tx), 3, o.key⟩ : EdgeD) es2).getD 0 + 1)) (gEns 0 (⟨t.id, (nxI g o.key o.tx), 3, o.key⟩ : EdgeD) (es2, ck2)).1 := ⟨_, rfl⟩
   obtain ⟨ck3, hck3⟩ : ∃ z, z = (gEns 0 (⟨t.id, (nxI g o.key o.tx), 3, o.key⟩ : EdgeD) (es2, ck2)).2 := ⟨_, rfl⟩
   rw [← hes3, ← hck3] at hS
   have hR9 : EdgV es3 AA (RR ++ rdO g t o) := by rw [hes3]; unfold rdO; rw [if_neg (by rw [hno]; simp)]; unfold rdB; rw [if_pos h1, ← List.append_assoc]; exact edg_inc hR2 (by have h9 : (rdA t o).length ≤ 1 := by { unfold rdA; split <;> simp }; rw [List.length_append]; omega)
   have hS := hS.fresh 1 rfl
   obtain ⟨F, hS⟩ := hS.push 1 6 rfl rfl rfl (by kernel_rfl)
   obtain ⟨F, hS⟩ := hS.push 1 5 rfl rfl rfl (by kernel_rfl)
   obtain ⟨F, hS⟩ := hS.push 1 4 rfl rfl rfl (by kernel_rfl)
   obtain ⟨F, hS⟩ := hS.push 1 3 rfl rfl rfl (by kernel_rfl)
   have hS := hS.turn 1 rfl (r' := RS.hp (finH g (.pointer (some ⟨b, 0, none⟩)))) (fun _ _ _ _ h => ⟨(⟨mA, mB, mC, eA, kA, eB, kB, eC, kC⟩ : FS), hI, h⟩)
   have hS := hS.turn 2 rfl (r' := RS.hp (edgH AA (RR ++ rdO g t o) mv)) (fun _ _ _ _ h => ⟨(es3, ck3), hR9, h⟩)
   refine ret_G2c hG hS rfl .nil Tells.none rfl rfl
  have h1 : ¬ ((nxI g o.key o.tx) ≠ 0 ∧ (nxI g o.key o.tx) ≠ t.id) := by simpa using hc3
  obtain ⟨es3, hes3⟩ : ∃ z, z = es2 := ⟨_, rfl⟩
  obtain ⟨ck3, hck3⟩ : ∃ z, z = ck2 := ⟨_, rfl⟩
  rw [← hes3, ← hck3] at hS
  have hR9 : EdgV es3 AA (RR ++ rdO g t o) := by rw [hes3]; unfold rdO; rw [if_neg (by rw [hno]; simp)]; unfold rdB; rw [if_neg h1, List.append_nil]; exact hR2
  refine wp_skip ?_
  have hS := hS.fresh 1 rfl
  obtain ⟨F, hS⟩ := hS.push 1 6 rfl rfl rfl (by kernel_rfl)
  obtain ⟨F, hS⟩ := hS.push 1 5 rfl rfl rfl (by kernel_rfl)
  obtain ⟨F, hS⟩ := hS.push 1 4 rfl rfl rfl (by kernel_rfl)
  obtain ⟨F, hS⟩ := hS.push 1 3 rfl rfl rfl (by kernel_rfl)
  have hS := hS.turn 1 rfl (r' := RS.hp (finH g (.pointer (some ⟨b, 0, none⟩)))) (fun _ _ _ _ h => ⟨(⟨mA, mB, mC, eA, kA, eB, kB, eC, kC⟩ : FS), hI, h⟩)
  have hS := hS.turn 2 rfl (r' := RS.hp (edgH AA (RR ++ rdO g t o) mv)) (fun _ _ _ _ h => ⟨(es3, ck3), hR9, h⟩)
  refine ret_G2c hG hS rfl .nil Tells.none rfl rfl

end Go.Proofs.Ytpnaolljmhhdbaa
namespace Go.Proofs.Ytpnaolljmhhdbaa
open Go Go.Gm
set_option linter.unusedVariables false
set_option linter.unusedSimpArgs false
set_option maxHeartbeats 4000000
set_option maxRecDepth 8000

def wwC (p : Int → Bool) (g : HistD) : List (EdgeD × Int) := if RightH g then wwA p g.orders else []
def rdC (p : Int → Bool) (g : HistD) : List EdgeD := if RightH g then rdH p g g.txs else []
theorem finH_ptr {g : HistD} {v : Value} {w : World} {f y : Ys} (h : (finH g v).p w f y) : ∃ b, v = .pointer (some ⟨b, 0, none⟩) := by
  obtain ⟨s, _, q⟩ := h
  exact HP.star_pt q

theorem counted_c (g : HistD) (hsm : Small g) (p : Int → Bool) (f : FuncId) (fn : Func) (cps : List PV) (hf : Try.prog.funcs[f]? = some fn) (hb : fn.body.isSome = true) (hnn : (fn.name == "runtime.NumGoroutine") = false) (hw : ∀ x, FnP Try.prog f (.int .i64 x :: cps) (.bool (p x))) : FnG Try.prog 42 1 [.agg (rHist g), .clos f cps] [.star []] (PV.one) (fun v => [edgH (wwC p g) (rdC p g) v]) := by
  refine FnG.mk Try.func42 rfl Try.ntmps42 rfl (by kernel_rfl) ?_
  intro B F0 a w F hB hG hS
  have hs := hsm.1
  have hsl := hs.1
  have hso := hsm.2
  have hol1 := hso.1
  obtain ⟨F, hS⟩ := hS.nm [1, 0] [0] rfl rfl
  refine wp_seq ?_
  refine region_q hS
    (cF rfl (oX 101 (.conv .t .agg)) r1 trivial
    (cF rfl (oN (.c rfl)) trivial trivial
    Chain.nil))
    hB ?_
  clear hS; intro a w F hS
  replace hS := hS.sub
  obtain ⟨F, hS⟩ := hS.nm [4, 2, 1] [101, 0] rfl rfl
  try dsimp only [RS.sub, SF.sub, CF.sub, csub, Anc.sub, List.map, zCF, rHist, rTx, rOrd, rVer, rInt, rOp] at hS
  generalize Act.tau a 2 = v2 at hS
  refine then_n (wp_seq ?_)
  refine region_q hS
    (cF rfl (o_makeMapG (ek := (fun n : Int => PV.int .i64 n)) (ok := (fun k => ∀ x ∈ encEi k, inR .i64 x)) (kv := (kvS encEi)) 102) trivial trivial
    (cF rfl (oN .t) r1 trivial
    Chain.nil))
    hB ?_
  clear hS; intro a w F hS
  replace hS := hS.sub
  obtain ⟨F, hS⟩ := hS.nm [5, 4, 2, 1] [102, 101, 0] rfl rfl
  try dsimp only [RS.sub, SF.sub, CF.sub, csub, Anc.sub, List.map, stCells, xL, xM, Nat.reduceAdd, xD, xE, xT, xU, xC, xN, zCF, rHist, rTx, rOrd, rVer, rInt, rOp] at hS
  generalize Act.tau a 14 = v14 at hS
  refine then_n (wp_seq (wp_seq ?_))
  refine region_q hS
    (cF rfl (oL true 2 101 .is) r1 r1
    (cF rfl (oP (rightH_c g hsm) Try.func17 (Args.one (.pagg .t))) r1 trivial
    (cF rfl (o_not .t) r1 trivial
    Chain.nil)))
    hB ?_
  clear hS; intro a w F hS
  obtain ⟨F, hS⟩ := hS.nm [17, 5, 4, 2, 1] [102, 101, 0] rfl rfl
  try dsimp only [List.map, xD, xE, xT, xU, ldSF, rHist, rTx, rOrd, rVer, rInt, rOp] at hS
  refine then_n ?_
  refine cond_b hS rfl (fun hc0 => ?_) (fun hc0 => ?_)
  ·skip
   have hr : ¬ RightH g := by simpa using hc0
   have hgA : wwC p g = [] := if_neg hr
   have hgR : rdC p g = [] := if_neg hr
   replace hS := hS.turn 102 rfl (r' := RS.hp (edgH (wwC p g) (rdC p g) v14)) (fun _ _ _ _ h => ⟨([], 0), by rw [hgA, hgR]; exact edg_zero, h⟩)
   obtain ⟨F, hS⟩ := hS.nm [17, 5, 4, 2, 1] [102, 101, 0] rfl rfl
   refine wp_seq ?_
   refine region_q hS
     (cF rfl (oM .t) r1 trivial
     (cF rfl (oN .t) r1 trivial
     Chain.nil))
     hB ?_
   clear hS; intro a w F hS
   obtain ⟨F, hS⟩ := hS.nm [5, 4, 2, 1] [102, 101, 0] rfl rfl
   try dsimp only [rHist, rTx, rOrd, rVer, rInt, rOp] at hS
   refine then_n (wp_ret (then_r ?_))
   obtain ⟨F, hS⟩ := hS.rename 102 1 rfl rfl
   refine ret_N1 (h' := fun v => edgH (wwC p g) (rdC p g) v) hG hS rfl (.tmp rfl .nil) (.one .one) rfl
  have hr : RightH g := by simpa using hc0
  have hgA : wwC p g = wwA p g.orders := if_pos hr
  have hgR : rdC p g = rdH p g g.txs := if_pos hr
  refine wp_skip (then_n (wp_seq ?_))
  replace hS := hS.fresh 103 rfl
  refine region_q hS
    (cF rfl (oL true 2 101 .is) r1 r1
    (cF rfl (o_callN 103 (look_c g hsm) Try.func66 rfl (by kernel_rfl) (Args.one (.pagg .t)) PV.ptr_one) r1 r1
    (cF rfl (oN .t) r1 trivial
    Chain.nil)))
    hB ?_
  clear hS; intro a w F hS
  replace hS := hS.sub
  obtain ⟨F, hS⟩ := hS.nm [6, 5, 4, 2, 1] [103, 102, 101, 0] rfl rfl
  try dsimp only [RS.sub, SF.sub, CF.sub, csub, Anc.sub, List.map, xD, xE, xT, xU, ldSF, rHist, rTx, rOrd, rVer, rInt, rOp] at hS
  generalize Act.tau a 20 = v20 at hS
  obtain ⟨_, _, _, ho⟩ := hS.obGet 103 rfl
  obtain ⟨b, rfl⟩ := finH_ptr ho
  clear ho
  replace hS := hS.turn 103 rfl (r' := RS.hp (finH g (.pointer (some ⟨b, 0, none⟩)))) (fun _ _ _ _ h => h)
  obtain ⟨F, hS⟩ := hS.nm [6, 5, 4, 2, 1] [103, 102, 101, 0] rfl rfl
  refine then_n (wp_seq (wp_seq ?_))
  refine region_q hS
    (cF rfl (oF 1 101 .is) r1 r1
    (cF rfl (oL false 1 101 .adr) r1 r1
    (cF rfl (o_len_sl Try.underlying40 .t) r1 trivial
    (cF rfl (oM (.ci (by kernel_rfl))) trivial trivial
    Chain.nil))))
    hB ?_
  clear hS; intro a w F hS
  obtain ⟨F, hS⟩ := hS.nm [24, 23, 22, 6, 5, 4, 2, 1] [103, 102, 101, 0] rfl rfl
  try dsimp only [List.map, xD, xE, xT, xU, ldSF, rHist, rTx, rOrd, rVer, rInt, rOp] at hS
  refine then_n (wp_block ?_)
  refine loop_keep (σ := (Nat) × (List (GE EdgeD Int)) × (Nat)) [1, 2, 4, 5, 6, 22, 23] [0, 101, 103] (fun s => [(24, .pv (.int .i64 (s.1 : Int)))]) (fun s => [(102, .ob (.val v14) (mapG (fun n : Int => PV.int .i64 n) (fun k => ∀ x ∈ encEi k, inR .i64 x) (kvS encEi) s.2.1 s.2.2))]) (fun s => s.1 ≤ g.orders.length ∧ (EdgV s.2.1 (wwA p (g.orders.take s.1)) [])) (fun s => g.orders.length - s.1) ((0), ([]), (0)) hS ⟨rfl, rfl, rfl, rfl, rfl, rfl, rfl, rfl, trivial⟩ ⟨rfl, rfl, rfl, rfl, trivial⟩ ⟨Nat.zero_le _, edg_zero⟩ ?_
  clear hS; intro s a w F hC hS
  obtain ⟨i, es, ck⟩ := s
  try dsimp only at hC
  obtain ⟨F, hS⟩ := hS.nm [24, 23, 22, 6, 5, 4, 2, 1] [103, 102, 101, 0] rfl rfl
  try dsimp only at hS
  obtain ⟨hi, hq⟩ := hC
  have hol := fun hil : i < g.orders.length => hso.at hil
  refine wp_seq ?_
  refine region_q hS
    (cF rfl (o_lss .t .t) r2 trivial
    Chain.nil)
    hB ?_
  clear hS; intro a w F hS
  obtain ⟨F, hS⟩ := hS.nm [25, 24, 23, 22, 6, 5, 4, 2, 1] [103, 102, 101, 0] rfl rfl
  try dsimp only [rHist, rTx, rOrd, rVer, rInt, rOp] at hS
  refine then_n (wp_seq ?_)
  refine cond_b hS rfl (fun hc1 => ?_) (fun hc1 => ?_)
  ·skip
   have hil : i < g.orders.length := by simp at hc1; omega
   have hio := hil
   have hcn := hq
   have hox := hol hil
   refine wp_skip (then_n (wp_seq (wp_block (wp_seq ?_))))
   refine region_q hS
     (cF rfl (o_indexAddr_sl (sz := 2) (.mk Try.underlying40 (by kernel_rfl)) (by intro x; rfl) .t .t (by omega) (by omega)) r2 trivial
     (cF rfl (oR true 2 .t) r1 trivial
     (cF rfl (oH [.int .i64 0, .slice none 0 0] 104) trivial trivial
     (cF rfl (oA 2 104 .same .t) r2 r1
     Chain.nil))))
     hB ?_
   clear hS; intro a w F hS
   replace hS := hS.sub
   obtain ⟨F, hS⟩ := hS.nm [27, 26, 25, 24, 23, 22, 8, 6, 5, 4, 2, 1] [104, 103, 102, 101, 0] rfl rfl
   try dsimp only [RS.sub, SF.sub, CF.sub, csub, Anc.sub, List.map, stCells, xL, xM, Nat.reduceAdd, xD, xE, xT, xU, xC, xN, zCF, ldSF, rHist, rTx, rOrd, rVer, rInt, rOp] at hS
   generalize Act.tau a 8 = v8 at hS
   try simp only [Int.toNat_natCast] at hS
   refine then_n (wp_seq ?_)
   refine region_q hS
     (cF rfl (oN (.ci (by kernel_rfl))) trivial trivial
     Chain.nil)
     hB ?_
   clear hS; intro a w F hS
   obtain ⟨F, hS⟩ := hS.nm [27, 26, 25, 24, 23, 22, 9, 8, 6, 5, 4, 2, 1] [104, 103, 102, 101, 0] rfl rfl
   try dsimp only [rHist, rTx, rOrd, rVer, rInt, rOp] at hS
   refine then_n (wp_block ?_)
   replace hS := hS.ent (i := 9) (s' := .pv (.int .i64 ((0 + 1 : Nat) : Int))) rfl (.int rfl)
   refine loop_keep (σ := Nat × (List (GE EdgeD Int)) × Nat) [1, 2, 4, 5, 6, 8, 22, 23, 24, 25, 26, 27] [0, 101, 103, 104] (fun s => [(9, .pv (.int .i64 ((s.1 + 1 : Nat) : Int)))]) (fun s => [(102, .ob (.val v14) (mapG (fun n : Int => PV.int .i64 n) (fun k => ∀ x ∈ encEi k, inR .i64 x) (kvS encEi) s.2.1 s.2.2))]) (fun s => s.1 ≤ (Go.Gm.nth g.orders i).txs.length ∧ (0 < s.1 → p (Go.Gm.nth g.orders i).key = true ∧ s.1 + 1 ≤ (Go.Gm.nth g.orders i).txs.length) ∧ EdgV s.2.1 (wwA p (g.orders.take i) ++ wwO (Go.Gm.nth g.orders i) s.1) []) (fun s => (Go.Gm.nth g.orders i).txs.length - s.1) ((0), (es), (ck)) hS ⟨rfl, rfl, rfl, rfl, rfl, rfl, rfl, rfl, rfl, rfl, rfl, rfl, rfl, trivial⟩ ⟨rfl, rfl, rfl, rfl, rfl, trivial⟩ ⟨Nat.zero_le _, fun h9 => absurd h9 (Nat.lt_irrefl 0), by show EdgV _ (wwA p (g.orders.take i) ++ []) []; rw [List.append_nil]; exact hcn⟩ ?_
   clear hS; intro s a w F hC hS
   obtain ⟨j, es3, ck3⟩ := s
   try dsimp only at hC
   obtain ⟨F, hS⟩ := hS.nm [27, 26, 25, 24, 23, 22, 9, 8, 6, 5, 4, 2, 1] [104, 103, 102, 101, 0] rfl rfl
   try dsimp only at hS
   obtain ⟨hj, hjp, hq⟩ := hC
   have hwj : IntKind.wrap .i64 (((j + 1 : Nat) : Int) - 1) = (j : Int) := by rw [wrap_i64 (by omega)]; omega
   refine wp_seq (wp_seq ?_)
   refine region_q hS
     (cF rfl (oM .t) r1 trivial
     (cF rfl (oF 1 104 .is) r1 r1
     (cF rfl (oL false 1 104 .adr) r1 r1
     (cF rfl (o_len_sl Try.underlying76 .t) r1 trivial
     (cF rfl (o_lss .t .t) r2 trivial
     (cF rfl (oM .t) r1 trivial
     (Chain.cons (Cert.cond rfl rfl (fun h => o_move .t (by rfl))) r2 trivial
     (Chain.cons (Cert.cond rfl rfl (fun h => o_fieldAddr (off := 0) 104 .is (by kernel_rfl) (by rfl))) r2 r1
     (Chain.cons (Cert.cond rfl rfl (fun h => o_load (ag := false) (sz := 1) 104 (.w h .adr) (by kernel_rfl) (by kernel_rfl) (by kernel_rfl) (by rfl))) r2 r1
     (Chain.cons (Cert.cond rfl rfl (fun h => o_callClosP (avs := [.int .i64 (Go.Gm.nth g.orders i).key]) (.w h) (hw (Go.Gm.nth g.orders i).key) hf hb hnn (Args.one (.w h)))) r3 trivial
     (cF rfl (o_and2 .t .t) r2 trivial
     Chain.nil)))))))))))
     hB ?_
   clear hS; intro a w F hS
   obtain ⟨F, hS⟩ := hS.nm [38, 37, 36, 35, 34, 33, 32, 31, 30, 29, 28, 27, 26, 25, 24, 23, 22, 9, 8, 6, 5, 4, 2, 1] [104, 103, 102, 101, 0] rfl rfl
   try dsimp only [List.map, xD, xE, xT, xU, ldSF, rHist, rTx, rOrd, rVer, rInt, rOp] at hS
   refine then_n ?_
   refine cond_b hS rfl (fun hc2 => ?_) (fun hc2 => ?_)
   ·skip
    have hst : j + 1 < (Go.Gm.nth g.orders i).txs.length ∧ p (Go.Gm.nth g.orders i).key = true := by have h9 := hc2; simp at h9; exact ⟨by omega, h9.2⟩
    refine wp_skip (then_n (wp_seq (wp_block ?_)))
    refine region_any (by kernel_rfl) hS (by kernel_rfl)
      (cF rfl (oM .t) r1 trivial
      (cF rfl (oF 1 104 .is) r1 r1
      (cF rfl (oL false 1 104 .adr) r1 r1
      (cF rfl (oM .t) r1 trivial
      (cF rfl (o_sub .t (.ci (by kernel_rfl))) r1 trivial
      (cF rfl (o_indexAddr_sl (sz := 1) (.mk Try.underlying76 (by kernel_rfl)) (by intro x; rfl) .t .t (by rw [hwj]; omega) (by rw [hwj]; omega)) r2 trivial
      (cF rfl (oR false 1 .t) r1 trivial
      (cF rfl (oF 1 104 .is) r1 r1
      (cF rfl (oL false 1 104 .adr) r1 r1
      (cF rfl (oM .t) r1 trivial
      (cF rfl (o_indexAddr_sl (sz := 1) (.mk Try.underlying76 (by kernel_rfl)) (by intro x; rfl) .t .t (by omega) (by omega)) r2 trivial
      (cF rfl (oR false 1 .t) r1 trivial
      (cF rfl (oF 0 104 .is) r1 r1
      (cF rfl (oL false 1 104 .adr) r1 r1
      (cF rfl (oB [(0, .tmp 47), (1, .tmp 52), (2, _), (3, .tmp 54)] [.int .i64 0, .int .i64 0, .int .i64 0, .int .i64 0] [(0, 1), (1, 1), (2, 1), (3, 1)] (.one rfl .t one_int (by kernel_rfl) (.one rfl .t one_int (by kernel_rfl) (.one rfl (.ci (by kernel_rfl)) one_int (by kernel_rfl) (.one rfl .t one_int (by kernel_rfl) .nil))))) r3 trivial
      (cF rfl (o_mapUpdateG (ek := (fun n : Int => PV.int .i64 n)) 102 Try.underlying87 keyEdge .is (IsKeyOf.agg (enc := encEi) (k := (⟨Go.Gm.nth (Go.Gm.nth g.orders i).txs (IntKind.wrap .i64 (((j + 1 : Nat) : Int) - 1)).toNat, Go.Gm.nth (Go.Gm.nth g.orders i).txs ((j + 1 : Nat) : Int).toNat, 1, (Go.Gm.nth g.orders i).key⟩ : EdgeD)) (.pagg .t) rfl) (.ci (by kernel_rfl))) r2 r1
      Chain.nil))))))))))))))))
      (by kernel_rfl) (by rw [hB]; kernel_rfl) ?_
    clear hS; intro a w F hS
    obtain ⟨F, hS⟩ := hS.nm [55, 54, 53, 52, 51, 50, 49, 48, 47, 46, 45, 44, 43, 42, 41, 38, 37, 36, 35, 34, 33, 32, 31, 30, 29, 28, 27, 26, 25, 24, 23, 22, 9, 8, 6, 5, 4, 2, 1] [104, 103, 102, 101, 0] rfl rfl
    try dsimp only [List.map, stCells, xL, xM, Nat.reduceAdd, xD, xE, xT, xU, xC, xN, zCF, ldSF, rHist, rTx, rOrd, rVer, rInt, rOp] at hS
    try simp only [Int.toNat_natCast] at hS
    rw [hwj] at hS
    try simp only [Int.toNat_natCast] at hS
    obtain ⟨es4, hes4⟩ : ∃ z, z = (gPut (⟨Go.Gm.nth (Go.Gm.nth g.orders i).txs j, Go.Gm.nth (Go.Gm.nth g.orders i).txs (j + 1), 1, (Go.Gm.nth g.orders i).key⟩ : EdgeD) 1 (es3, ck3)).1 := ⟨_, rfl⟩
    obtain ⟨ck4, hck4⟩ : ∃ z, z = (gPut (⟨Go.Gm.nth (Go.Gm.nth g.orders i).txs j, Go.Gm.nth (Go.Gm.nth g.orders i).txs (j + 1), 1, (Go.Gm.nth g.orders i).key⟩ : EdgeD) 1 (es3, ck3)).2 := ⟨_, rfl⟩
    rw [← hes4, ← hck4] at hS
    have hR3 : EdgV es4 (wwA p (g.orders.take i) ++ wwO (Go.Gm.nth g.orders i) (j + 1)) [] := by rw [hes4, wwO_step, ← List.append_assoc]; exact edg_put hq
    refine block_n (then_n ?_)
    refine region_q hS
      (cF rfl (oM .t) r1 trivial
      (cF rfl (o_add .t (.ci (by kernel_rfl))) r1 trivial
      (cF rfl (oN .t) r1 trivial
      Chain.nil)))
      hB ?_
    clear hS; intro a w F hS
    obtain ⟨F, hS⟩ := hS.nm [55, 54, 53, 52, 51, 50, 49, 48, 47, 46, 45, 44, 43, 42, 41, 40, 39, 38, 37, 36, 35, 34, 33, 32, 31, 30, 29, 28, 27, 26, 25, 24, 23, 22, 9, 8, 6, 5, 4, 2, 1] [104, 103, 102, 101, 0] rfl rfl
    try dsimp only [rHist, rTx, rOrd, rVer, rInt, rOp] at hS
    refine then_n ?_
    have hC2 : j + 1 ≤ (Go.Gm.nth g.orders i).txs.length ∧ (0 < j + 1 → p (Go.Gm.nth g.orders i).key = true ∧ j + 1 + 1 ≤ (Go.Gm.nth g.orders i).txs.length) ∧ EdgV es4 (wwA p (g.orders.take i) ++ wwO (Go.Gm.nth g.orders i) (j + 1)) [] := ⟨by omega, fun _ => ⟨hst.2, by omega⟩, hR3⟩
    replace hS := hS.ent (i := 9) (s' := .pv (.int .i64 ((j + 1 + 1 : Nat) : Int))) rfl (.int (wrap_succ (by omega)))
    obtain ⟨F, hS⟩ := hS.nm [27, 26, 25, 24, 23, 22, 8, 6, 5, 4, 2, 1, 9] [104, 103, 101, 0, 102] rfl rfl
    exact ⟨((j + 1), (es4), (ck4)), F, hC2, hS, by omega⟩
   have hst : p (Go.Gm.nth g.orders i).key = true → (Go.Gm.nth g.orders i).txs.length ≤ j + 1 := fun hpk => by have h9 := hc2; simp [hpk] at h9; omega
   obtain ⟨es2, hes2⟩ : ∃ z, z = es3 := ⟨_, rfl⟩
   obtain ⟨ck2, hck2⟩ : ∃ z, z = ck3 := ⟨_, rfl⟩
   rw [← hes2, ← hck2] at hS
   have hR2 : EdgV es2 (wwA p (g.orders.take (i + 1))) [] := by
     rw [hes2, wwA_step hio]
     by_cases hpk : p (Go.Gm.nth g.orders i).key = true
     · rw [if_pos hpk, show (Go.Gm.nth g.orders i).txs.length - 1 = j by (have := hst hpk; by_cases hj0 : 0 < j; (have := (hjp hj0).2; omega); omega)]; exact hq
     · rw [if_neg hpk]
       have hj0 : j = 0 := by
         by_cases hj0 : 0 < j
         · exact absurd (hjp hj0).1 hpk
         · omega
       rw [hj0] at hq; exact hq
   refine wp_exit (then_x (then_x (block_x (block_n (then_n ?_)))))
   refine region_q hS
     (cF rfl (o_add .t (.ci (by kernel_rfl))) r1 trivial
     (cF rfl (oM .t) r1 trivial
     Chain.nil))
     hB ?_
   clear hS; intro a w F hS
   obtain ⟨F, hS⟩ := hS.nm [56, 38, 37, 36, 35, 34, 33, 32, 31, 30, 29, 28, 27, 26, 25, 24, 23, 22, 9, 8, 6, 5, 4, 2, 1] [104, 103, 102, 101, 0] rfl rfl
   try dsimp only [rHist, rTx, rOrd, rVer, rInt, rOp] at hS
   refine then_n ?_
   replace hS := hS.ent (i := 24) (s' := .pv (.int .i64 ((i + 1 : Nat) : Int))) rfl (.int (wrap_succ (by omega)))
   obtain ⟨F, hS⟩ := hS.nm [23, 22, 6, 5, 4, 2, 1, 24] [103, 101, 0, 102] rfl rfl
   exact ⟨((i + 1), (es2), (ck2)), F, ⟨by omega, hR2⟩, hS, by omega⟩
  have hil : i = g.orders.length := by simp at hc1; omega
  rw [hil, List.take_length] at hq
  replace hS := hS.turn 102 rfl (r' := RS.hp (edgH (wwA p g.orders) (rdH p g (g.txs.take 0)) v14)) (fun _ _ _ _ h => ⟨(es, ck), hq, h⟩)
  obtain ⟨F, hS⟩ := hS.nm [25, 24, 23, 22, 6, 5, 4, 2, 1] [103, 102, 101, 0] rfl rfl
  refine wp_exit (then_x (then_x (block_x (then_n (wp_seq (wp_seq ?_))))))
  refine region_q hS
    (cF rfl (oF 0 101 .is) r1 r1
    (cF rfl (oL false 1 101 .adr) r1 r1
    (cF rfl (o_len_sl Try.underlying39 .t) r1 trivial
    (cF rfl (oM (.ci (by kernel_rfl))) trivial trivial
    Chain.nil))))
    hB ?_
  clear hS; intro a w F hS
  obtain ⟨F, hS⟩ := hS.nm [60, 59, 58, 6, 5, 4, 1] [103, 102, 101, 0] rfl rfl
  try dsimp only [List.map, xD, xE, xT, xU, ldSF, rHist, rTx, rOrd, rVer, rInt, rOp] at hS
  refine then_n (wp_block ?_)
  refine loop_keep (σ := (Nat)) [1, 4, 5, 6, 58, 59] [0, 101, 103] (fun s => [(60, .pv (.int .i64 (s : Int)))]) (fun s => [(102, RS.hp (edgH (wwA p g.orders) (rdH p g (g.txs.take s)) v14))]) (fun s => s ≤ g.txs.length ∧ (True)) (fun s => g.txs.length - s) (0) hS ⟨rfl, rfl, rfl, rfl, rfl, rfl, rfl, trivial⟩ ⟨rfl, rfl, rfl, rfl, trivial⟩ ⟨Nat.zero_le _, trivial⟩ ?_
  clear hS; intro i a w F hC hS
  try dsimp only at hC
  obtain ⟨F, hS⟩ := hS.nm [60, 59, 58, 6, 5, 4, 1] [103, 102, 101, 0] rfl rfl
  try dsimp only at hS
  obtain ⟨hi, hq⟩ := hC
  have hxl := fun hil : i < g.txs.length => hs.at hil
  refine wp_seq ?_
  refine region_q hS
    (cF rfl (o_lss .t .t) r2 trivial
    Chain.nil)
    hB ?_
  clear hS; intro a w F hS
  obtain ⟨F, hS⟩ := hS.nm [61, 60, 59, 58, 6, 5, 4, 1] [103, 102, 101, 0] rfl rfl
  try dsimp only [rHist, rTx, rOrd, rVer, rInt, rOp] at hS
  refine then_n (wp_seq ?_)
  refine cond_b hS rfl (fun hc3 => ?_) (fun hc3 => ?_)
  ·skip
   have hil : i < g.txs.length := by simp at hc3; omega
   have hio := hil
   have htl := hxl hil
   have hsl := hs.1
   have hrl := rdH_len (p := p) (g := g) hs i
   replace hS := hS.turn 102 rfl (r' := RS.hp (edgH (wwA p g.orders) (rdH p g (g.txs.take i) ++ rdT p g (Go.Gm.nth g.txs i) ((Go.Gm.nth g.txs i).ops.take 0)) v14)) (fun _ _ _ _ h => by rw [List.take_zero, show rdT p g (Go.Gm.nth g.txs i) [] = [] from rfl, List.append_nil]; exact h)
   obtain ⟨F, hS⟩ := hS.nm [61, 60, 59, 58, 6, 5, 4, 1] [103, 102, 101, 0] rfl rfl
   refine wp_skip (then_n (wp_seq (wp_block (wp_seq ?_))))
   refine region_q hS
     (cF rfl (o_indexAddr_sl (sz := 3) (.mk Try.underlying39 (by kernel_rfl)) (by intro x; rfl) .t .t (by omega) (by omega)) r2 trivial
     (cF rfl (oR true 3 .t) r1 trivial
     (cF rfl (oH [.int .i64 0, .bool false, .slice none 0 0] 105) trivial trivial
     (cF rfl (oA 3 105 .same .t) r2 r1
     Chain.nil))))
     hB ?_
   clear hS; intro a w F hS
   replace hS := hS.sub
   obtain ⟨F, hS⟩ := hS.nm [63, 62, 61, 60, 59, 58, 11, 6, 5, 4, 1] [105, 103, 102, 101, 0] rfl rfl
   try dsimp only [RS.sub, SF.sub, CF.sub, csub, Anc.sub, List.map, stCells, xL, xM, Nat.reduceAdd, xD, xE, xT, xU, xC, xN, zCF, ldSF, rHist, rTx, rOrd, rVer, rInt, rOp] at hS
   generalize Act.tau a 11 = v11 at hS
   try simp only [Int.toNat_natCast] at hS
   refine then_n (wp_seq ?_)
   refine region_q hS
     (cF rfl (oF 2 105 .is) r1 r1
     (cF rfl (oL false 1 105 .adr) r1 r1
     (cF rfl (o_len_sl Try.underlying73 .t) r1 trivial
     (cF rfl (oM (.ci (by kernel_rfl))) trivial trivial
     Chain.nil))))
     hB ?_
   clear hS; intro a w F hS
   obtain ⟨F, hS⟩ := hS.nm [67, 66, 65, 64, 63, 62, 61, 60, 59, 58, 11, 6, 5, 4, 1] [105, 103, 102, 101, 0] rfl rfl
   try dsimp only [List.map, xD, xE, xT, xU, ldSF, rHist, rTx, rOrd, rVer, rInt, rOp] at hS
   refine then_n (wp_block ?_)
   refine loop_keep (σ := (Nat)) [1, 4, 5, 6, 11, 58, 59, 60, 61, 62, 63, 64, 65, 66] [0, 101, 103, 105] (fun s => [(67, .pv (.int .i64 (s : Int)))]) (fun s => [(102, RS.hp (edgH (wwA p g.orders) (rdH p g (g.txs.take i) ++ rdT p g (Go.Gm.nth g.txs i) ((Go.Gm.nth g.txs i).ops.take s)) v14))]) (fun s => s ≤ (Go.Gm.nth g.txs i).ops.length ∧ (True)) (fun s => (Go.Gm.nth g.txs i).ops.length - s) (0) hS ⟨rfl, rfl, rfl, rfl, rfl, rfl, rfl, rfl, rfl, rfl, rfl, rfl, rfl, rfl, rfl, trivial⟩ ⟨rfl, rfl, rfl, rfl, rfl, trivial⟩ ⟨Nat.zero_le _, trivial⟩ ?_
   clear hS; intro j a w F hC hS
   try dsimp only at hC
   obtain ⟨F, hS⟩ := hS.nm [67, 66, 65, 64, 63, 62, 61, 60, 59, 58, 11, 6, 5, 4, 1] [105, 103, 102, 101, 0] rfl rfl
   try dsimp only at hS
   obtain ⟨hi, hq⟩ := hC
   refine wp_seq ?_
   refine region_q hS
     (cF rfl (o_lss .t .t) r2 trivial
     Chain.nil)
     hB ?_
   clear hS; intro a w F hS
   obtain ⟨F, hS⟩ := hS.nm [68, 67, 66, 65, 64, 63, 62, 61, 60, 59, 58, 11, 6, 5, 4, 1] [105, 103, 102, 101, 0] rfl rfl
   try dsimp only [rHist, rTx, rOrd, rVer, rInt, rOp] at hS
   refine then_n (wp_seq ?_)
   refine cond_b hS rfl (fun hc4 => ?_) (fun hc4 => ?_)
   ·skip
    have hil : j < (Go.Gm.nth g.txs i).ops.length := by simp at hc4; omega
    refine wp_skip (then_n (wp_seq (wp_block (wp_seq ?_))))
    refine region_q hS
      (cF rfl (o_indexAddr_sl (sz := 4) (.mk Try.underlying73 (by kernel_rfl)) (by intro x; rfl) .t .t (by omega) (by omega)) r2 trivial
      (cF rfl (oR true 4 .t) r1 trivial
      (cF rfl (oH [.bool false, .int .i64 0, .int .i64 0, .int .i64 0] 106) trivial trivial
      (cF rfl (oA 4 106 .same .t) r2 r1
      Chain.nil))))
      hB ?_
    clear hS; intro a w F hS
    replace hS := hS.sub
    obtain ⟨F, hS⟩ := hS.nm [70, 69, 68, 67, 66, 65, 64, 63, 62, 61, 60, 59, 58, 13, 11, 6, 5, 4, 1] [106, 105, 103, 102, 101, 0] rfl rfl
    try dsimp only [RS.sub, SF.sub, CF.sub, csub, Anc.sub, List.map, stCells, xL, xM, Nat.reduceAdd, xD, xE, xT, xU, xC, xN, zCF, ldSF, rHist, rTx, rOrd, rVer, rInt, rOp] at hS
    generalize Act.tau a 13 = v13 at hS
    try simp only [Int.toNat_natCast] at hS
    refine then_n (wp_seq ?_)
    refine region_q hS
      (cF rfl (oF 1 105 .is) r1 r1
      (cF rfl (oL false 1 105 .adr) r1 r1
      (cF rfl (oM .t) r1 trivial
      (Chain.cons (Cert.cond rfl rfl (fun h => o_fieldAddr (off := 0) 106 .is (by kernel_rfl) (by rfl))) r2 r1
      (Chain.cons (Cert.cond rfl rfl (fun h => o_load (ag := false) (sz := 1) 106 (.w h .adr) (by kernel_rfl) (by kernel_rfl) (by kernel_rfl) (by rfl))) r2 r1
      (cF rfl (o_and2 .t .t) r2 trivial
      (cF rfl (oM .t) r1 trivial
      (Chain.cons (Cert.cond rfl rfl (fun h => o_move .t (by rfl))) r2 trivial
      (Chain.cons (Cert.cond rfl rfl (fun h => o_fieldAddr (off := 1) 106 .is (by kernel_rfl) (by rfl))) r2 r1
      (Chain.cons (Cert.cond rfl rfl (fun h => o_load (ag := false) (sz := 1) 106 (.w h .adr) (by kernel_rfl) (by kernel_rfl) (by kernel_rfl) (by rfl))) r2 r1
      (Chain.cons (Cert.cond rfl rfl (fun h => o_callClosP (avs := [.int .i64 (Go.Gm.nth (Go.Gm.nth g.txs i).ops j).key]) (.w h) (hw (Go.Gm.nth (Go.Gm.nth g.txs i).ops j).key) hf hb hnn (Args.one (.w h)))) r3 trivial
      (cF rfl (o_and2 .t .t) r2 trivial
      Chain.nil))))))))))))
      hB ?_
    clear hS; intro a w F hS
    obtain ⟨F, hS⟩ := hS.nm [82, 81, 80, 79, 78, 77, 76, 75, 74, 73, 72, 71, 70, 69, 68, 67, 66, 65, 64, 63, 62, 61, 60, 59, 58, 13, 11, 6, 5, 4, 1] [106, 105, 103, 102, 101, 0] rfl rfl
    try dsimp only [List.map, xD, xE, xT, xU, ldSF, rHist, rTx, rOrd, rVer, rInt, rOp] at hS
    refine then_n ?_
    refine cond_b hS rfl (fun hc5 => ?_) (fun hc5 => ?_)
    ·skip
     have hpr : ((Go.Gm.nth g.txs i).done && ((Go.Gm.nth (Go.Gm.nth g.txs i).ops j).read && p (Go.Gm.nth (Go.Gm.nth g.txs i).ops j).key)) = true := by have h9 := hc5; simp at h9; simp [h9]
     have hRR : (rdH p g (g.txs.take i) ++ rdT p g (Go.Gm.nth g.txs i) ((Go.Gm.nth g.txs i).ops.take j)).length ≤ 10000000 := by have h9 := rdT_len p g (Go.Gm.nth g.txs i) ((Go.Gm.nth g.txs i).ops.take j); rw [List.length_take] at h9; rw [List.length_append]; omega
     refine region_q hS
       (cF rfl (oM .t) r1 trivial
       (cF rfl (oL true 3 105 .is) r1 r1
       (cF rfl (oL true 4 106 .is) r1 r1
       (cF rfl (oM .t) r1 trivial
       (cF rfl (o_callG2c 103 102 (dread_c b g (Go.Gm.nth g.txs i) (Go.Gm.nth (Go.Gm.nth g.txs i).ops j) _ _ _ hRR) Try.func67 rfl (by kernel_rfl) rfl (Args.four .t (.pagg .t) (.pagg .t) .t)) r4 r2
       Chain.nil)))))
       hB ?_
     clear hS; intro a w F hS
     obtain ⟨F, hS⟩ := hS.nm [86, 85, 84, 83, 82, 81, 80, 79, 78, 77, 76, 75, 74, 73, 72, 71, 70, 69, 68, 67, 66, 65, 64, 63, 62, 61, 60, 59, 58, 13, 11, 6, 5, 4, 1] [106, 105, 103, 102, 101, 0] rfl rfl
     try dsimp only [List.map, xD, xE, xT, xU, ldSF, rHist, rTx, rOrd, rVer, rInt, rOp] at hS
     replace hS := hS.turn 102 rfl (r' := RS.hp (edgH (wwA p g.orders) (rdH p g (g.txs.take i) ++ rdT p g (Go.Gm.nth g.txs i) ((Go.Gm.nth g.txs i).ops.take (j + 1))) v14)) (fun _ _ _ _ h => by rw [rdT_step hil, if_pos hpr, ← List.append_assoc]; exact h)
     obtain ⟨F, hS⟩ := hS.nm [86, 85, 84, 83, 82, 81, 80, 79, 78, 77, 76, 75, 74, 73, 72, 71, 70, 69, 68, 67, 66, 65, 64, 63, 62, 61, 60, 59, 58, 13, 11, 6, 5, 4, 1] [106, 105, 103, 102, 101, 0] rfl rfl
     refine block_n (then_n ?_)
     refine region_q hS
       (cF rfl (o_add .t (.ci (by kernel_rfl))) r1 trivial
       (cF rfl (oM .t) r1 trivial
       Chain.nil))
       hB ?_
     clear hS; intro a w F hS
     obtain ⟨F, hS⟩ := hS.nm [88, 86, 85, 84, 83, 82, 81, 80, 79, 78, 77, 76, 75, 74, 73, 72, 71, 70, 69, 68, 67, 66, 65, 64, 63, 62, 61, 60, 59, 58, 13, 11, 6, 5, 4, 1] [106, 105, 103, 102, 101, 0] rfl rfl
     try dsimp only [rHist, rTx, rOrd, rVer, rInt, rOp] at hS
     refine then_n ?_
     replace hS := hS.ent (i := 67) (s' := .pv (.int .i64 ((j + 1 : Nat) : Int))) rfl (.int (wrap_succ (by omega)))
     obtain ⟨F, hS⟩ := hS.nm [66, 65, 64, 63, 62, 61, 60, 59, 58, 11, 6, 5, 4, 1, 67] [105, 103, 101, 0, 102] rfl rfl
     exact ⟨(j + 1), F, ⟨by omega, trivial⟩, hS, by omega⟩
    have hpr : ¬ ((Go.Gm.nth g.txs i).done && ((Go.Gm.nth (Go.Gm.nth g.txs i).ops j).read && p (Go.Gm.nth (Go.Gm.nth g.txs i).ops j).key)) = true := by intro h8; simp at h8; have h9 := hc5; simp [h8] at h9
    replace hS := hS.turn 102 rfl (r' := RS.hp (edgH (wwA p g.orders) (rdH p g (g.txs.take i) ++ rdT p g (Go.Gm.nth g.txs i) ((Go.Gm.nth g.txs i).ops.take (j + 1))) v14)) (fun _ _ _ _ h => by rw [rdT_step hil, if_neg hpr, List.append_nil]; exact h)
    obtain ⟨F, hS⟩ := hS.nm [82, 81, 80, 79, 78, 77, 76, 75, 74, 73, 72, 71, 70, 69, 68, 67, 66, 65, 64, 63, 62, 61, 60, 59, 58, 13, 11, 6, 5, 4, 1] [106, 105, 103, 102, 101, 0] rfl rfl
    refine wp_skip (block_n (then_n ?_))
    refine region_q hS
      (cF rfl (o_add .t (.ci (by kernel_rfl))) r1 trivial
      (cF rfl (oM .t) r1 trivial
      Chain.nil))
      hB ?_
    clear hS; intro a w F hS
    obtain ⟨F, hS⟩ := hS.nm [88, 82, 81, 80, 79, 78, 77, 76, 75, 74, 73, 72, 71, 70, 69, 68, 67, 66, 65, 64, 63, 62, 61, 60, 59, 58, 13, 11, 6, 5, 4, 1] [106, 105, 103, 102, 101, 0] rfl rfl
    try dsimp only [rHist, rTx, rOrd, rVer, rInt, rOp] at hS
    refine then_n ?_
    replace hS := hS.ent (i := 67) (s' := .pv (.int .i64 ((j + 1 : Nat) : Int))) rfl (.int (wrap_succ (by omega)))
    obtain ⟨F, hS⟩ := hS.nm [66, 65, 64, 63, 62, 61, 60, 59, 58, 11, 6, 5, 4, 1, 67] [105, 103, 101, 0, 102] rfl rfl
    exact ⟨(j + 1), F, ⟨by omega, trivial⟩, hS, by omega⟩
   have hil : j = (Go.Gm.nth g.txs i).ops.length := by simp at hc4; omega
   replace hS := hS.turn 102 rfl (r' := RS.hp (edgH (wwA p g.orders) (rdH p g (g.txs.take (i + 1))) v14)) (fun _ _ _ _ h => by rw [rdH_step hio]; rw [hil, List.take_length] at h; exact h)
   obtain ⟨F, hS⟩ := hS.nm [68, 67, 66, 65, 64, 63, 62, 61, 60, 59, 58, 11, 6, 5, 4, 1] [105, 103, 102, 101, 0] rfl rfl
   refine wp_exit (then_x (then_x (block_x (block_n (then_n ?_)))))
   refine region_q hS
     (cF rfl (o_add .t (.ci (by kernel_rfl))) r1 trivial
     (cF rfl (oM .t) r1 trivial
     Chain.nil))
     hB ?_
   clear hS; intro a w F hS
   obtain ⟨F, hS⟩ := hS.nm [89, 68, 67, 66, 65, 64, 63, 62, 61, 60, 59, 58, 11, 6, 5, 4, 1] [105, 103, 102, 101, 0] rfl rfl
   try dsimp only [rHist, rTx, rOrd, rVer, rInt, rOp] at hS
   refine then_n ?_
   replace hS := hS.ent (i := 60) (s' := .pv (.int .i64 ((i + 1 : Nat) : Int))) rfl (.int (wrap_succ (by omega)))
   obtain ⟨F, hS⟩ := hS.nm [59, 58, 6, 5, 4, 1, 60] [103, 101, 0, 102] rfl rfl
   exact ⟨(i + 1), F, ⟨by omega, trivial⟩, hS, by omega⟩
  have hil : i = g.txs.length := by simp at hc3; omega
  replace hS := hS.turn 102 rfl (r' := RS.hp (edgH (wwC p g) (rdC p g) v14)) (fun _ _ _ _ h => by rw [hgA, hgR]; rw [hil, List.take_length] at h; exact h)
  obtain ⟨F, hS⟩ := hS.nm [61, 60, 59, 58, 6, 5, 4, 1] [103, 102, 101, 0] rfl rfl
  refine wp_exit (then_x (then_x (block_x (then_n (wp_seq ?_)))))
  refine region_q hS
    (cF rfl (oM .t) r1 trivial
    (cF rfl (oN .t) r1 trivial
    Chain.nil))
    hB ?_
  clear hS; intro a w F hS
  obtain ⟨F, hS⟩ := hS.nm [4] [103, 102, 101, 0] rfl rfl
  try dsimp only [rHist, rTx, rOrd, rVer, rInt, rOp] at hS
  refine then_n (wp_ret ?_)
  obtain ⟨F, hS⟩ := hS.rename 102 1 rfl rfl
  refine ret_N1 (h' := fun v => edgH (wwC p g) (rdC p g) v) hG hS rfl (.tmp rfl .nil) (.one .one) rfl

end Go.Proofs.Ytpnaolljmhhdbaa
