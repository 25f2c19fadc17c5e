/- Slots. No condition beyond those that each theorem says. -/
import Derived.Test.YtdfpljecogijaaaDoorRw11
import Derived.Test.YtdfpljecogijaaaDoorLibP
namespace Go.Proofs.YtdfpljecogijaaaDoor
open Go Go.Gm
set_option linter.unusedVariables false
set_option linter.unusedSimpArgs false
set_option maxHeartbeats 4000000
set_option maxRecDepth 8000


structure PairD where
  key : Int
  val : Int
  deriving DecidableEq, Inhabited
def rPair (p : PairD) : List PV := [.int .i64 p.key, .int .i64 p.val]
def rI32 (x : Int) : List PV := [.int .i32 x]
/-- Whose each slot is, as pairs. -/
def pairsF : Nat → List Int → List PairD
  | _, [] => []
  | n, x :: t => (if x = 0 then [] else [⟨(n : Int), x⟩]) ++ pairsF (n + 1) t
theorem pairsF_cons (n : Nat) (x : Int) (t : List Int) : pairsF n (x :: t) = (if x = 0 then [] else [⟨(n : Int), x⟩]) ++ pairsF (n + 1) t := rfl
def slotL (q : List PairD) (id : Int) : Int := ((q.find? fun p => decide (p.val = id)).map (·.key)).getD (-1)
def idL (q : List PairD) (s : Int) : Int := ((q.find? fun p => decide (p.key = s)).map (·.val)).getD 0
def putPR (k v : Int) : List PairD → Bool → List PairD
  | [], d => if d then [] else [⟨k, v⟩]
  | p :: l, d => (if d = false ∧ k ≤ p.key then [⟨k, v⟩] else []) ++ (if p.key = k then [] else [p]) ++ putPR k v l (d || decide (k ≤ p.key))
def putP (l : List PairD) (k v : Int) : List PairD := putPR k v l false
def delP (l : List PairD) (k : Int) : List PairD := l.filter fun p => !decide (p.key = k)
def hasP (l : List PairD) (k : Int) : Bool := l.any fun p => decide (p.key = k)
/-- The slot of an id. -/
def slotF : Nat → List Int → Int → Int
  | _, [], _ => -1
  | n, x :: t, id => if x = id ∧ x ≠ 0 then n else slotF (n + 1) t id
theorem slotF_spec (id : Int) : ∀ (ids : List Int) (n : Nat), (slotF n ids id = -1 ∧ ∀ i, i < ids.length → Go.Gm.nth ids i = id → id = 0) ∨ (∃ i, i < ids.length ∧ slotF n ids id = ((n + i : Nat) : Int) ∧ Go.Gm.nth ids i = id ∧ id ≠ 0)
  | [], n => .inl ⟨rfl, fun i h => by simp at h⟩
  | x :: t, n => by
    unfold slotF
    by_cases h : x = id ∧ x ≠ 0
    · rw [if_pos h]
      exact .inr ⟨0, by simp, by simp, h.1, by rw [← h.1]; exact h.2⟩
    · rw [if_neg h]
      rcases slotF_spec id t (n + 1) with ⟨h1, h2⟩ | ⟨i, h1, h2, h3⟩
      · refine .inl ⟨h1, fun i hi he => ?_⟩
        cases i with
        | zero =>
          have e : x = id := he
          by_cases h0 : id = 0
          · exact h0
          · exact absurd ⟨e, by rw [e]; exact h0⟩ h
        | succ i => exact h2 i (by simpa using hi) he
      · exact .inr ⟨i + 1, by simpa using h1, by rw [h2]; omega, h3⟩
theorem slotL_pairs (id : Int) : ∀ (ids : List Int) (n : Nat), slotL (pairsF n ids) id = slotF n ids id
  | [], _ => rfl
  | x :: t, n => by
    have ih := slotL_pairs id t (n + 1)
    unfold slotL at ih ⊢
    rw [pairsF_cons]
    unfold slotF
    by_cases h0 : x = 0
    · rw [if_pos h0, if_neg (fun h => h.2 h0), List.nil_append, ih]
    · rw [if_neg h0, List.singleton_append, List.find?_cons]
      by_cases h : x = id
      · simp [h]; intro h1; exact absurd (h.trans h1) h0
      · simp only [decide_eq_false h]
        rw [if_neg (fun k => h k.1), ih]
theorem pairsF_key {ids : List Int} : ∀ {n : Nat} {p : PairD}, p ∈ pairsF n ids → (n : Int) ≤ p.key := by
  induction ids with
  | nil => intro n p h; cases h
  | cons x t ih =>
    intro n p h
    rw [pairsF_cons] at h
    rcases List.mem_append.1 h with h | h
    · split at h
      · cases h
      · simp at h; subst h; exact Int.le_refl _
    · have := ih h; omega
theorem idL_low {q : List PairD} {s : Int} (h : ∀ p ∈ q, s < p.key) : idL q s = 0 := by
  unfold idL
  rw [List.find?_eq_none.2 fun p hp => by have := h p hp; simp; omega]
  rfl
theorem idL_pairs (s : Int) : ∀ (ids : List Int) (n : Nat), idL (pairsF n ids) s = if (n : Int) ≤ s ∧ s < n + ids.length then Go.Gm.nth ids (s - n).toNat else 0
  | [], n => by
    rw [if_neg (fun h => by simp at h; omega)]; rfl
  | x :: t, n => by
    have ih := idL_pairs s t (n + 1)
    by_cases hs : s = n
    · subst hs
      rw [if_pos (by simp; omega)]
      have e0 : Go.Gm.nth (x :: t) ((n : Int) - n).toNat = x := by simp [Go.Gm.nth]
      rw [e0]
      rw [pairsF_cons]
      by_cases h0 : x = 0
      · rw [if_pos h0, List.nil_append, idL_low fun p hp => by have := pairsF_key hp; omega, h0]
      · rw [if_neg h0]
        simp [idL]
    · have e : idL (pairsF n (x :: t)) s = idL (pairsF (n + 1) t) s := by
        rw [pairsF_cons]
        by_cases h0 : x = 0
        · rw [if_pos h0, List.nil_append]
        · rw [if_neg h0, List.singleton_append]
          unfold idL
          rw [List.find?_cons, decide_eq_false (fun h => hs h.symm)]
      rw [e, ih]
      by_cases h : (n : Int) ≤ s ∧ s < n + (x :: t).length
      · rw [if_pos h, if_pos (by simp at h; omega)]
        have e2 : (s - n).toNat = (s - ((n + 1 : Nat) : Int)).toNat + 1 := by omega
        rw [e2]
        simp [Go.Gm.nth]
      · rw [if_neg h, if_neg (by simp at h; omega)]
theorem putPR_low {k v : Int} {l : List PairD} (h : ∀ p ∈ l, k < p.key) : putPR k v l false = ⟨k, v⟩ :: l := by
  have done : ∀ l : List PairD, (∀ p ∈ l, k < p.key) → putPR k v l true = l := by
    intro l
    induction l with
    | nil => intro _; rfl
    | cons p l ih =>
      intro h
      have := h p (by simp)
      rw [putPR, Bool.true_or, ih fun x hx => h x (by simp [hx]), if_neg (by simp), if_neg (by omega)]
      rfl
  cases l with
  | nil => rfl
  | cons p l =>
    have h1 := h p (by simp)
    rw [putPR, show (false || decide (k ≤ p.key)) = true by simp; omega, done l fun x hx => h x (by simp [hx])]
    rw [if_pos ⟨rfl, by omega⟩, if_neg (by omega)]
    rfl
theorem put_pairs {v : Int} (hv : v ≠ 0) : ∀ (ids : List Int) (n i : Nat), i < ids.length → Go.Gm.nth ids i = 0 → putP (pairsF n ids) ((n + i : Nat) : Int) v = pairsF n (ids.set i v)
  | [], _, _, h, _ => by simp at h
  | x :: t, n, 0, _, h0 => by
    have e : x = 0 := h0
    subst e
    unfold putP
    rw [List.set_cons_zero, pairsF_cons, pairsF_cons, if_pos rfl, if_neg hv, List.nil_append]
    exact putPR_low fun p hp => by have := pairsF_key hp; omega
  | x :: t, n, i + 1, h, h0 => by
    have ih := put_pairs hv t (n + 1) i (by simpa using h) h0
    rw [List.set_cons_succ, pairsF_cons, pairsF_cons, ← ih]
    unfold putP
    by_cases hx : x = 0
    · rw [if_pos hx, List.nil_append, List.nil_append]
      congr 1
      omega
    · rw [if_neg hx, List.singleton_append, List.singleton_append, putPR]
      simp only
      rw [if_neg (by omega), if_neg (by omega), show (false || decide (((n + (i + 1) : Nat) : Int) ≤ (n : Int))) = false by simp; omega]
      simp only [List.nil_append, List.singleton_append, List.cons.injEq, true_and]
      congr 1
      omega
theorem del_low {k : Int} {l : List PairD} (h : ∀ p ∈ l, k < p.key) : delP l k = l := by
  unfold delP
  rw [List.filter_eq_self]
  intro p hp
  have := h p hp
  simp; omega
theorem del_pairs : ∀ (ids : List Int) (n i : Nat), i < ids.length → delP (pairsF n ids) ((n + i : Nat) : Int) = pairsF n (ids.set i 0)
  | [], _, _, h => by simp at h
  | x :: t, n, 0, _ => by
    rw [List.set_cons_zero, pairsF_cons, pairsF_cons, if_pos rfl, List.nil_append]
    have hl : delP (pairsF (n + 1) t) ((n + 0 : Nat) : Int) = pairsF (n + 1) t := del_low fun p hp => by have := pairsF_key hp; omega
    unfold delP at hl ⊢
    rw [List.filter_append, hl]
    split <;> simp
  | x :: t, n, i + 1, h => by
    have ih := del_pairs t (n + 1) i (by simpa using h)
    rw [List.set_cons_succ, pairsF_cons, pairsF_cons, ← ih]
    unfold delP
    rw [List.filter_append]
    congr 1
    · split
      · rfl
      · rw [List.filter_cons_of_pos (by simp; omega)]; rfl
    · congr 1
      funext p
      congr 2
      exact propext ⟨fun h => by rw [h]; omega, fun h => by rw [h]; omega⟩
def cntI (ids : List Int) : Nat := ids.countP fun x => decide (x ≠ 0)
theorem pairs_len : ∀ (ids : List Int) (n : Nat), (pairsF n ids).length = cntI ids
  | [], _ => rfl
  | x :: t, n => by
    have ih := pairs_len t (n + 1)
    rw [pairsF_cons]
    unfold cntI at *
    rw [List.length_append, ih, List.countP_cons]
    by_cases h : x = 0 <;> simp [h]; omega
theorem cntI_le (ids : List Int) : cntI ids ≤ ids.length := List.countP_le_length
theorem cntI_set {ids : List Int} {i : Nat} {v : Int} (h : i < ids.length) : cntI (ids.set i v) + (if Go.Gm.nth ids i ≠ 0 then 1 else 0) = cntI ids + (if v ≠ 0 then 1 else 0) := by
  induction ids generalizing i with
  | nil => simp at h
  | cons x t ih =>
    cases i with
    | zero =>
      unfold cntI
      rw [List.set_cons_zero, List.countP_cons, List.countP_cons]
      have e : Go.Gm.nth (x :: t) 0 = x := rfl
      rw [e]
      by_cases h1 : x = 0 <;> by_cases h2 : v = 0 <;> simp [h1, h2]
    | succ i =>
      have := ih (i := i) (by simpa using h)
      have e : Go.Gm.nth (x :: t) (i + 1) = Go.Gm.nth t i := rfl
      unfold cntI at this ⊢
      rw [List.set_cons_succ, List.countP_cons, List.countP_cons, e]
      omega
theorem cntI_full {ids : List Int} : cntI ids = ids.length ↔ ∀ i, i < ids.length → Go.Gm.nth ids i ≠ 0 := by
  unfold cntI
  rw [List.countP_eq_length]
  constructor
  · intro h i hi
    have := h _ (nth_mem hi)
    simpa using this
  · intro h x hx
    obtain ⟨i, hi, rfl⟩ := List.getElem_of_mem hx
    have := h i hi
    rw [nth_eq hi] at this
    simpa using this
/-- The slots that are free. -/
def freeL (ids : List Int) : List Int := ((List.range ids.length).filter fun i => decide (Go.Gm.nth ids i = 0)).map fun i : Nat => (i : Int)
theorem mem_freeL {ids : List Int} {i : Int} : i ∈ freeL ids ↔ 0 ≤ i ∧ i < ids.length ∧ Go.Gm.nth ids i.toNat = 0 := by
  unfold freeL
  rw [List.mem_map]
  constructor
  · rintro ⟨j, hj, rfl⟩
    rw [List.mem_filter, List.mem_range] at hj
    exact ⟨by omega, by omega, by simpa using hj.2⟩
  · rintro ⟨h1, h2, h3⟩
    exact ⟨i.toNat, by rw [List.mem_filter, List.mem_range]; exact ⟨by omega, by simpa using h3⟩, by omega⟩
theorem freeL_up (ids : List Int) : Up ids.length (freeL ids) := by
  refine ⟨?_, fun i hi => by have := mem_freeL.1 hi; omega⟩
  unfold freeL
  rw [List.pairwise_map]
  refine List.Pairwise.imp (R := fun a b : Nat => a < b) (fun h => by omega) ?_
  exact List.Pairwise.filter _ List.pairwise_lt_range
theorem free_take {ids : List Int} {i : Nat} {v : Int} (h : i < ids.length) (hv : v ≠ 0) : putL (freeL ids) ids.length i false = freeL (ids.set i v) := by
  refine up_ext (putL_up (freeL_up ids) i false).1 (freeL_up _).1 fun j => ?_
  rw [mem_putL, mem_freeL, mem_freeL, List.length_set]
  constructor
  · rintro (⟨h1, h2, h3, h4⟩ | ⟨_, h2, _⟩)
    · refine ⟨h2, h3, ?_⟩
      rw [nth_setI (by omega), if_neg (fun e => h1 (by omega))]; exact h4
    · cases h2
  · rintro ⟨h2, h3, h4⟩
    rw [nth_setI (by omega)] at h4
    split at h4
    · exact absurd h4 hv
    · exact .inl ⟨fun e => by subst e; simp at *, h2, h3, h4⟩
theorem free_free {ids : List Int} {i : Nat} (h : i < ids.length) : putL (freeL ids) ids.length i true = freeL (ids.set i 0) := by
  refine up_ext (putL_up (freeL_up ids) i true).1 (freeL_up _).1 fun j => ?_
  rw [mem_putL, mem_freeL, mem_freeL, List.length_set]
  constructor
  · rintro (⟨h1, h2, h3, h4⟩ | ⟨h1, _, h2, h3⟩)
    · refine ⟨h2, h3, ?_⟩
      rw [nth_setI (by omega), if_neg (fun e => h1 (by omega))]; exact h4
    · exact ⟨by omega, by omega, by rw [nth_setI (by omega), if_pos (by omega)]⟩
  · rintro ⟨h2, h3, h4⟩
    rw [nth_setI (by omega)] at h4
    by_cases e : j = i
    · exact .inr ⟨e, rfl, by omega, by omega⟩
    · rw [if_neg (by omega)] at h4
      exact .inl ⟨e, h2, h3, h4⟩
/-- What holds of slots. -/
structure SlotsOk (N : Nat) (ids : List Int) (es : List (MapE Int)) : Prop where
  hi : N ≤ 4096
  len : ids.length = N
  rg : ∀ i, i < N → 0 ≤ Go.Gm.nth ids i ∧ Go.Gm.nth ids i ≤ 1048575
  one : ∀ i j, i < N → j < N → Go.Gm.nth ids i = Go.Gm.nth ids j → Go.Gm.nth ids i ≠ 0 → i = j
  nd : MNd es
  get : ∀ k v, mGet k es = some v ↔ k ≠ 0 ∧ ∃ i : Nat, v = i ∧ i < N ∧ Go.Gm.nth ids i = k
  cnt : es.length = cntI ids
theorem SlotsOk.slot {N : Nat} {ids : List Int} {es : List (MapE Int)} (h : SlotsOk N ids es) (id : Int) : (mGet id es).isSome = decide (0 ≤ slotF 0 ids id) ∧ mVal id es = max (slotF 0 ids id) 0 ∧ slotF 0 ids id < N ∧ -1 ≤ slotF 0 ids id := by
  have hl := h.len
  rw [mVal_get]
  rcases slotF_spec id ids 0 with ⟨h1, h2⟩ | ⟨i, h1, h2, h3, h4⟩
  · have hn : mGet id es = none := by
      cases hg : mGet id es with
      | none => rfl
      | some v =>
        obtain ⟨k1, i, _, k3, k4⟩ := (h.get id v).1 hg
        exact absurd (h2 i (by omega) k4) k1
    rw [hn, h1]
    simp
    omega
  · have hs : mGet id es = some (i : Int) := (h.get id i).2 ⟨h4, i, rfl, by omega, h3⟩
    rw [hs, h2]
    simp
    omega
theorem SlotsOk.take {N : Nat} {ids : List Int} {es es' : List (MapE Int)} {id : Int} {i : Nat} (h : SlotsOk N ids es) (hid : 1 ≤ id ∧ id ≤ 1048575) (hs : slotF 0 ids id < 0) (hi : i < N) (h0 : Go.Gm.nth ids i = 0)
    (hnd : MNd es') (hget : ∀ k, mGet k es' = if k = id then some (i : Int) else mGet k es) (hlen : es'.length = es.length + 1) : SlotsOk N (ids.set i id) es' := by
  have hl := h.len
  have hno : ∀ j, j < N → Go.Gm.nth ids j ≠ id := by
    intro j hj e
    rcases slotF_spec id ids 0 with ⟨_, h2⟩ | ⟨j, _, h2, _⟩
    · have := h2 j (by omega) e; omega
    · omega
  have hn : ∀ j, j < N → Go.Gm.nth (ids.set i id) j = if i = j then id else Go.Gm.nth ids j := fun j hj => nth_setI (by omega)
  refine ⟨h.hi, by rw [List.length_set]; exact h.len, fun j hj => ?_, fun j k hj hk he hne => ?_, hnd, fun k v => ?_, ?_⟩
  · rw [hn j hj]
    split
    · omega
    · exact h.rg j hj
  · rw [hn j hj] at he hne
    rw [hn k hk] at he
    by_cases e1 : i = j <;> by_cases e2 : i = k <;> simp [e1, e2] at he hne
    · omega
    · subst e1; simp [e2] at he; exact absurd he.symm (hno k hk)
    · subst e2; simp [e1] at he; exact absurd he (hno j hj)
    · exact h.one j k hj hk he hne
  · rw [hget k]
    by_cases e : k = id
    · rw [if_pos e]
      constructor
      · intro hv
        simp at hv
        exact ⟨by omega, i, hv.symm, hi, by rw [hn i hi, if_pos rfl, e]⟩
      · rintro ⟨_, j, rfl, hj, he⟩
        rw [hn j hj] at he
        split at he
        · rename_i e3; subst e3; rfl
        · exact absurd (he.trans e) (hno j hj)
    · rw [if_neg e, h.get]
      constructor
      · rintro ⟨k0, j, rfl, hj, he⟩
        exact ⟨k0, j, rfl, hj, by rw [hn j hj, if_neg (fun e4 => by subst e4; rw [h0] at he; exact k0 he.symm)]; exact he⟩
      · rintro ⟨k0, j, rfl, hj, he⟩
        rw [hn j hj] at he
        split at he
        · exact absurd he.symm e
        · exact ⟨k0, j, rfl, hj, he⟩
  · have := cntI_set (ids := ids) (i := i) (v := id) (by omega)
    rw [if_neg (by simp [h0]), if_pos (by omega)] at this
    rw [hlen, h.cnt]
    omega
theorem SlotsOk.free {N : Nat} {ids : List Int} {es : List (MapE Int)} {id : Int} {i : Nat} (h : SlotsOk N ids es) (hs : slotF 0 ids id = (i : Int)) : i < N ∧ Go.Gm.nth ids i = id ∧ id ≠ 0 ∧ SlotsOk N (ids.set i 0) (mDel id es) := by
  have hl := h.len
  obtain ⟨hi, he, hne⟩ : i < N ∧ Go.Gm.nth ids i = id ∧ id ≠ 0 := by
    rcases slotF_spec id ids 0 with ⟨h1, _⟩ | ⟨j, h1, h2, h3, h4⟩
    · omega
    · have : i = j := by omega
      subst this
      exact ⟨by omega, h3, h4⟩
  have hn : ∀ j, j < N → Go.Gm.nth (ids.set i 0) j = if i = j then 0 else Go.Gm.nth ids j := fun j hj => nth_setI (by omega)
  refine ⟨hi, he, hne, h.hi, by rw [List.length_set]; exact h.len, fun j hj => ?_, fun j k hj hk he hne => ?_, h.nd.del, fun k v => ?_, ?_⟩
  · rw [hn j hj]
    split
    · omega
    · exact h.rg j hj
  · rw [hn j hj] at he hne
    rw [hn k hk] at he
    by_cases e1 : i = j <;> by_cases e2 : i = k <;> simp [e1, e2] at he hne
    · subst e2; simp [e1] at he; exact absurd he hne.2
    · exact h.one j k hj hk he hne
  · rw [mGet_del h.nd]
    by_cases e : k = id
    · rw [if_pos e]
      constructor
      · intro hv; cases hv
      · rintro ⟨k0, j, rfl, hj, hx⟩
        rw [hn j hj] at hx
        split at hx
        · exact absurd hx.symm k0
        · rename_i hij
          exact absurd (h.one i j hi hj (by rw [he, hx, e]) (by rw [he]; exact hne)) hij
    · rw [if_neg e, h.get]
      constructor
      · rintro ⟨k0, j, rfl, hj, hx⟩
        exact ⟨k0, j, rfl, hj, by rw [hn j hj, if_neg (fun e4 => by subst e4; exact e (hx.symm.trans he))]; exact hx⟩
      · rintro ⟨k0, j, rfl, hj, hx⟩
        rw [hn j hj] at hx
        split at hx
        · exact absurd hx.symm k0
        · exact ⟨k0, j, rfl, hj, hx⟩
  · have := cntI_set (ids := ids) (i := i) (v := 0) (by omega)
    rw [if_pos (by rw [he]; exact hne), if_neg (by simp)] at this
    have hg : (mGet id es).isSome = true := by rw [(h.get id i).2 ⟨hne, i, rfl, hi, he⟩]; rfl
    rw [mDel_length, if_pos hg, h.cnt]
    omega
def zerosI (N : Nat) : List Int := List.replicate N 0
theorem SlotsOk.new {N : Nat} (h : N ≤ 4096) : SlotsOk N (zerosI N) [] := by
  have hz : ∀ i, Go.Gm.nth (zerosI N) i = 0 := fun i => nth_rep N i
  refine ⟨h, by simp [zerosI], fun i _ => by rw [hz]; omega, fun i j _ _ _ hne => absurd (hz i) hne, by simp [MNd], fun k v => ?_, ?_⟩
  · constructor
    · intro h; cases h
    · rintro ⟨k0, j, _, _, hx⟩; rw [hz] at hx; exact absurd hx.symm k0
  · unfold cntI zerosI
    rw [eq_comm, List.length_nil, List.countP_eq_zero]
    intro x hx
    have := List.eq_of_mem_replicate hx
    simp [this]
/-- The first free slot. -/
def firstZ (ids : List Int) : Int := nextL (freeL ids) 0
theorem firstZ_spec {ids : List Int} {i : Nat} (hi : i < ids.length) (h0 : Go.Gm.nth ids i = 0) (h : ∀ j, j < i → Go.Gm.nth ids j ≠ 0) : firstZ ids = i :=
  nextL_eq (freeL_up ids).1 (mem_freeL.2 ⟨by omega, by omega, by simpa using h0⟩) (by omega) fun k hk _ => by
    obtain ⟨h1, h2, h3⟩ := mem_freeL.1 hk
    by_cases e : k < i
    · exact absurd h3 (h k.toNat (by omega))
    · omega
theorem firstZ_get {N : Nat} {ids : List Int} {es : List (MapE Int)} (h : SlotsOk N ids es) (hc : cntI ids ≠ N) : ∃ i : Nat, firstZ ids = i ∧ i < N ∧ Go.Gm.nth ids i = 0 ∧ ∀ j, j < i → Go.Gm.nth ids j ≠ 0 := by
  have hl := h.len
  have hex : ∃ i, i < ids.length ∧ Go.Gm.nth ids i = 0 := by
    apply Classical.byContradiction
    intro hn
    exact hc (by rw [← hl]; exact cntI_full.2 fun i hi e => hn ⟨i, hi, e⟩)
  obtain ⟨i, hi, hmin⟩ := least (fun i => i < ids.length ∧ Go.Gm.nth ids i = 0) hex
  have hfirst : ∀ j, j < i → Go.Gm.nth ids j ≠ 0 := fun j hj e => by have := hmin j ⟨by omega, e⟩; omega
  exact ⟨i, firstZ_spec hi.1 hi.2 hfirst, by omega, hi.2, hfirst⟩
/-- Taking. -/
def takeI (N : Nat) (ids : List Int) (id : Int) : List Int × Int × Int :=
  if ¬ (1 ≤ id ∧ id ≤ 1048575) then (ids, 0, 1) else if 0 ≤ slotF 0 ids id then (ids, 0, 4) else if cntI ids = N then (ids, 0, 2) else (ids.set (firstZ ids).toNat id, firstZ ids, 0)
def freeI (ids : List Int) (id : Int) : List Int × Int := if 0 ≤ slotF 0 ids id then (ids.set (slotF 0 ids id).toNat 0, 0) else (ids, 3)

end Go.Proofs.YtdfpljecogijaaaDoor
