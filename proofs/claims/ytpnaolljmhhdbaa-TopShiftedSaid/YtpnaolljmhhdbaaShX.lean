/- Sh0, Sh1, Sh6, in one text. -/
import Derived.Test.YtpnaolljmhhdbaaTwX
import Derived.Test.YtpnaolljmhhdbaaPk3
namespace Go.Proofs.Ytpnaolljmhhdbaa
open Go Go.Gm
set_option linter.unusedVariables false
set_option linter.unusedSimpArgs false
set_option maxHeartbeats 4000000
set_option maxRecDepth 8000

def shO (u c : Int) (o : OpD) : OpD := ⟨o.read, o.key + c, if o.read = true ∧ ¬ o.tx = 0 then o.tx + u else o.tx, o.nth⟩
def shT (u c : Int) (t : TxD) : TxD := ⟨t.id + u, t.done, t.ops.map (shO u c)⟩
def shR (u c : Int) (o : OrdD) : OrdD := ⟨o.key + c, o.txs.map (· + u)⟩
def shH (u c : Int) (g : HistD) : HistD := ⟨g.txs.map (shT u c), g.orders.map (shR u c)⟩
def shE (u c : Int) (e : EdgeD) : EdgeD := ⟨e.src + u, e.dst + u, e.kind, e.key + c⟩
def LowH (m : Int) (g : HistD) : Prop := ∀ t ∈ g.txs, (1 ≤ t.id ∧ t.id ≤ m) ∧ ∀ o ∈ t.ops, 1 ≤ o.key ∧ o.key ≤ m
theorem shO_wcnt (u c : Int) (l : List OpD) (k : Int) : wcnt (l.map (shO u c)) (k + c) = wcnt l k := by
  unfold wcnt
  rw [List.filter_map, List.length_map]
  congr 1
  refine List.filter_congr fun o _ => ?_
  show (!o.read && decide (o.key + c = k + c)) = _
  congr 1
  rw [decide_eq_decide]
  omega
theorem shE_inj {u c : Int} {d e : EdgeD} (h : shE u c d = shE u c e) : d = e := by
  unfold shE at h
  injection h with h1 h2 h3 h4
  cases d; cases e
  simp only [EdgeD.mk.injEq]
  simp only at h1 h2 h3 h4
  omega
theorem shE_cmp (u c : Int) (d e : EdgeD) : cmpE (shE u c d) (shE u c e) = cmpE d e := by
  have hc : ∀ x y z : Int, cmpI (x + z) (y + z) = cmpI x y := fun x y z => by unfold cmpI; split <;> split <;> (try split) <;> (try split) <;> omega
  unfold cmpE keyL cmpL cmpL cmpL cmpL
  simp only [shE, hc]
  by_cases h1 : d.src = e.src
  · rw [if_pos h1, if_pos (by omega)]
    by_cases h2 : d.kind = e.kind
    · rw [if_pos h2, if_pos h2]
      by_cases h3 : d.key = e.key
      · rw [if_pos h3, if_pos (by omega)]
        by_cases h4 : d.dst = e.dst
        · rw [if_pos h4, if_pos (by omega)]
        · rw [if_neg h4, if_neg (by omega)]
      · rw [if_neg h3, if_neg (by omega)]
    · rw [if_neg h2, if_neg h2]
  · rw [if_neg h1, if_neg (by omega)]
theorem asgF_map {κ κ2 : Type} [DecidableEq κ] [DecidableEq κ2] {f : κ → κ2} {k : κ} : ∀ {A : List (κ × Int)}, (∀ z ∈ A, f k = f z.1 → k = z.1) → asgF (A.map fun z => (f z.1, z.2)) (f k) = asgF A k := by
  have key : ∀ (A : List (κ × Int)) (x : Int), (∀ z ∈ A, f k = f z.1 → k = z.1) → (A.map fun z => (f z.1, z.2)).foldl (fun x z => if f k = z.1 then z.2 else x) x = A.foldl (fun x z => if k = z.1 then z.2 else x) x := by
    intro A
    induction A with
    | nil => intro x _; rfl
    | cons z A ih =>
      intro x hf
      rw [List.map_cons, List.foldl_cons, List.foldl_cons]
      have e : (if f k = f z.1 then z.2 else x) = if k = z.1 then z.2 else x := by
        by_cases h : k = z.1
        · rw [if_pos h, if_pos (by rw [h])]
        · rw [if_neg h, if_neg fun h9 => h (hf z (by simp) h9)]
      show (A.map _).foldl _ (if f k = f z.1 then z.2 else x) = _
      rw [e]
      exact ih _ fun y hy => hf y (List.mem_cons_of_mem _ hy)
  intro A hf
  exact key A 0 hf
theorem count_map_inj {α β : Type} [DecidableEq α] [DecidableEq β] {f : α → β} (hf : ∀ x y, f x = f y → x = y) (l : List α) (x : α) : (l.map f).count (f x) = l.count x := by
  induction l with
  | nil => rfl
  | cons y l ih =>
    rw [List.map_cons, List.count_cons, List.count_cons, ih]
    congr 1
    by_cases h : y = x
    · subst h; simp
    · have h2 : ¬ f y = f x := fun e => h (hf _ _ e)
      simp [h, h2]
theorem shR_ww (u c : Int) (o : OrdD) : wwO (shR u c o) ((shR u c o).txs.length - 1) = (wwO o (o.txs.length - 1)).map fun z => (shE u c z.1, z.2) := by
  unfold wwO
  have hl : (shR u c o).txs.length = o.txs.length := List.length_map _
  rw [hl, List.map_map]
  refine List.map_congr_left fun i hi => ?_
  have hi2 := List.mem_range.1 hi
  show ((⟨Go.Gm.nth (o.txs.map (· + u)) i, Go.Gm.nth (o.txs.map (· + u)) (i + 1), 1, o.key + c⟩ : EdgeD), (1 : Int)) = _
  rw [nth_map (by omega), nth_map (by omega)]
  rfl
theorem shH_ww (u c : Int) (l : List OrdD) : wwA (fun _ => true) (l.map (shR u c)) = (wwA (fun _ => true) l).map fun z => (shE u c z.1, z.2) := by
  unfold wwA
  rw [List.flatMap_map, List.map_flatMap]
  congr 1
  funext o
  exact shR_ww u c o
theorem shH_dones (u c : Int) (l : List TxD) : donesA (l.map (shT u c)) = (donesA l).map fun z => (z.1 + u, z.2) := by
  unfold donesA
  rw [List.filter_map, List.map_map, List.map_map]
  rfl
theorem shH_doneI (u c : Int) (g : HistD) (id : Int) : doneI (shH u c g) (id + u) = doneI g id := by
  unfold doneI
  show asgF (donesA (g.txs.map (shT u c))) (id + u) = _
  rw [shH_dones]
  exact asgF_map (f := fun x : Int => x + u) fun z _ h => by omega
def shK (u c : Int) (k : KeyD) : KeyD := ⟨k.fst + u, k.snd + c⟩
theorem shK_inj {u c : Int} {d e : KeyD} (h : shK u c d = shK u c e) : d = e := by
  unfold shK at h
  injection h with h1 h2
  cases d; cases e
  simp only [KeyD.mk.injEq]
  simp only at h1 h2
  omega
theorem shH_last (u c : Int) (l : List TxD) : lastK (l.map (shT u c)) = (lastK l).map (shK u c) := by
  unfold lastK
  rw [List.flatMap_map, List.map_flatMap]
  congr 1
  funext t
  show (if t.done = true then lastK1 (t.id + u) (t.ops.map (shO u c)) else []) = _
  split
  · unfold lastK1
    rw [List.filter_map, List.map_map, List.map_map]
    rfl
  · rfl
theorem shH_lastI (u c : Int) (g : HistD) (id k : Int) : lastI (shH u c g) (id + u) (k + c) = lastI g id k := by
  unfold lastI
  show ((lastK (g.txs.map (shT u c))).count (shK u c ⟨id, k⟩) : Int) = _
  rw [shH_last, count_map_inj (fun x y h => shK_inj h)]
/-- An id that may be none. -/
def shI (u x : Int) : Int := if x = 0 then 0 else x + u
theorem shI_inj {u x y : Int} (hu : 0 ≤ u) (hx : 0 ≤ x) (hy : 0 ≤ y) (h : shI u x = shI u y) : x = y := by
  unfold shI at h
  split at h <;> split at h <;> omega
def shN (u c : Int) (k : KeyD) : KeyD := ⟨k.fst + c, shI u k.snd⟩
/-- Orders hold ids alone. -/
def PosO (l : List OrdD) : Prop := ∀ o ∈ l, ∀ x ∈ o.txs, 1 ≤ x
theorem atI_nn {l : List Int} (h : ∀ x ∈ l, 1 ≤ x) {j : Nat} (hj : j < l.length) : 0 ≤ atI l j := by
  unfold atI
  split
  · omega
  · have := h _ (nth_mem (show j - 1 < l.length by omega)); omega
theorem atI_shift {u : Int} {l : List Int} (h : ∀ x ∈ l, 1 ≤ x) {j : Nat} (hj : j < l.length) : atI (l.map (· + u)) j = shI u (atI l j) := by
  unfold atI
  by_cases h0 : j = 0
  · rw [if_pos h0, if_pos h0]; rfl
  · rw [if_neg h0, if_neg h0, nth_map (by omega)]
    have := h _ (nth_mem (show j - 1 < l.length by omega))
    unfold shI
    rw [if_neg (by omega)]
theorem shH_nxO {u c : Int} {o : OrdD} (h : ∀ x ∈ o.txs, 1 ≤ x) : nxO (shR u c o) (shR u c o).txs.length = (nxO o o.txs.length).map fun z => (shN u c z.1, z.2 + u) := by
  unfold nxO
  have hl : (shR u c o).txs.length = o.txs.length := List.length_map _
  rw [hl, List.map_map]
  refine List.map_congr_left fun i hi => ?_
  have hi2 := List.mem_range.1 hi
  show ((⟨o.key + c, atI (o.txs.map (· + u)) i⟩ : KeyD), Go.Gm.nth (o.txs.map (· + u)) i) = _
  rw [atI_shift h hi2, nth_map hi2]
  rfl
theorem shH_nxA {u c : Int} {l : List OrdD} (h : PosO l) : nxA (l.map (shR u c)) = (nxA l).map fun z => (shN u c z.1, z.2 + u) := by
  induction l with
  | nil => rfl
  | cons o l ih =>
    have h1 := ih fun x hx => h x (List.mem_cons_of_mem _ hx)
    have h2 := shH_nxO (u := u) (c := c) (h o (by simp))
    unfold nxA at h1 ⊢
    rw [List.map_cons, List.flatMap_cons, List.flatMap_cons, List.map_append, h1, h2]
theorem nxA_pos {l : List OrdD} (h : PosO l) : ∀ z ∈ nxA l, 0 ≤ z.1.snd ∧ 1 ≤ z.2 := by
  intro z hz
  unfold nxA at hz
  obtain ⟨o, ho, hz⟩ := List.mem_flatMap.1 hz
  unfold nxO at hz
  obtain ⟨i, hi, rfl⟩ := List.mem_map.1 hz
  have hi2 := List.mem_range.1 hi
  exact ⟨atI_nn (h o ho) hi2, h o ho _ (nth_mem hi2)⟩
theorem asgF_shift {u c : Int} {k : KeyD} (hu : 0 ≤ u) (hk : 0 ≤ k.snd) : ∀ {A : List (KeyD × Int)}, (∀ z ∈ A, 0 ≤ z.1.snd ∧ 1 ≤ z.2) → asgF (A.map fun z => (shN u c z.1, z.2 + u)) (shN u c k) = shI u (asgF A k) ∧ 0 ≤ asgF A k := by
  have key : ∀ (A : List (KeyD × Int)) (x : Int), (∀ z ∈ A, 0 ≤ z.1.snd ∧ 1 ≤ z.2) → 0 ≤ x → (A.map fun z => (shN u c z.1, z.2 + u)).foldl (fun x z => if shN u c k = z.1 then z.2 else x) (shI u x) = shI u (A.foldl (fun x z => if k = z.1 then z.2 else x) x) ∧ 0 ≤ A.foldl (fun x z => if k = z.1 then z.2 else x) x := by
    intro A
    induction A with
    | nil => intro x _ hx; exact ⟨rfl, hx⟩
    | cons z A ih =>
      intro x hf hx
      obtain ⟨h1, h2⟩ := hf z (by simp)
      rw [List.map_cons, List.foldl_cons, List.foldl_cons]
      have e : (if shN u c k = shN u c z.1 then z.2 + u else shI u x) = shI u (if k = z.1 then z.2 else x) := by
        by_cases h : k = z.1
        · rw [if_pos h, if_pos (by rw [h])]
          unfold shI
          rw [if_neg (by omega)]
        · rw [if_neg h, if_neg fun h9 => h (by
            unfold shN at h9
            injection h9 with h3 h4
            have h5 := shI_inj hu hk h1 h4
            cases k; cases hz : z.1
            rw [hz] at h3 h5
            simp only [KeyD.mk.injEq]
            simp only at h3 h5
            omega)]
      show (A.map _).foldl _ (if shN u c k = shN u c z.1 then z.2 + u else shI u x) = _ ∧ _
      rw [e]
      exact ih _ (fun y hy => hf y (List.mem_cons_of_mem _ hy)) (by split <;> omega)
  intro A hf
  exact key A 0 hf (by omega)
theorem shH_nxI {u c : Int} {g : HistD} (hu : 0 ≤ u) (hp : PosO g.orders) {k x : Int} (hx : 0 ≤ x) : nxI (shH u c g) (k + c) (shI u x) = shI u (nxI g k x) ∧ 0 ≤ nxI g k x := by
  unfold nxI
  show asgF (nxA (g.orders.map (shR u c))) (shN u c ⟨k, x⟩) = _ ∧ _
  rw [shH_nxA hp]
  exact asgF_shift hu hx (nxA_pos hp)
/-- An edge of a read goes with the shift. -/
theorem shH_rdO {u c : Int} {g : HistD} (hu : 0 ≤ u) (hp : PosO g.orders) {t : TxD} {o : OpD} (ht : 1 ≤ t.id) (ho : o.read = true) (hx : 0 ≤ o.tx) : rdO (shH u c g) (shT u c t) (shO u c o) = (rdO g t o).map (shE u c) := by
  obtain ⟨hn, hn0⟩ := shH_nxI (c := c) (k := o.key) hu hp hx
  have etx : (shO u c o).tx = shI u o.tx := by
    unfold shO shI
    by_cases h : o.tx = 0
    · simp [h]
    · simp [h, ho]
  have ekey : (shO u c o).key = o.key + c := rfl
  have eid : (shT u c t).id = t.id + u := rfl
  have hno : rdNo (shH u c g) (shT u c t) (shO u c o) = rdNo g t o := by
    unfold rdNo
    rw [etx, ekey, eid, show (shO u c o).nth = o.nth from rfl]
    by_cases h0 : o.tx = 0
    · rw [h0, show shI u 0 = 0 from rfl]
      simp only [decide_true, Bool.not_true, Bool.false_and, Bool.or_false]
      rw [decide_eq_decide]
      omega
    · rw [show shI u o.tx = o.tx + u from if_neg h0, shH_doneI, shH_lastI]
      congr 1
      · rw [decide_eq_decide]; omega
      · congr 1
        congr 1
        rw [decide_eq_decide]; omega
  unfold rdO
  rw [hno]
  split
  · rfl
  · rw [List.map_append]
    congr 1
    · unfold rdA
      rw [etx, ekey, eid]
      by_cases h0 : o.tx = 0
      · rw [if_pos h0, if_pos (by rw [h0]; rfl)]; rfl
      · rw [if_neg h0, show shI u o.tx = o.tx + u from if_neg h0, if_neg (by omega)]; rfl
    · unfold rdB
      rw [etx, ekey, eid, hn]
      by_cases h0 : nxI g o.key o.tx = 0
      · rw [if_neg (by rw [h0]; exact fun h9 => h9.1 rfl), if_neg (by rw [h0]; exact fun h9 => h9.1 rfl)]; rfl
      · rw [show shI u (nxI g o.key o.tx) = nxI g o.key o.tx + u from if_neg h0]
        by_cases h1 : nxI g o.key o.tx = t.id
        · rw [if_neg (by omega), if_neg (by omega)]; rfl
        · rw [if_pos (by omega), if_pos (by omega)]; rfl
theorem rightTL_all {id : Int} : ∀ (r s : List OpD), rightTL id s r = 0 → ∀ o ∈ r, rightO o = true
  | [], _, _, o, ho => by cases ho
  | x :: r, s, h, o, ho => by
    rw [rightTL_cons] at h
    split at h
    · cases h
    · rename_i h1
      split at h
      · cases h
      · rcases List.mem_cons.1 ho with rfl | ho
        · simpa using h1
        · exact rightTL_all r _ h o ho
theorem rightT_all {t : TxD} (h : rightT t = 0) : (1 ≤ t.id ∧ t.id ≤ 1048575) ∧ rightTL t.id [] t.ops = 0 ∧ ∀ o ∈ t.ops, rightO o = true := by
  unfold rightT at h
  split at h
  · cases h
  · rename_i h1
    split at h
    · cases h
    · exact ⟨by omega, h, rightTL_all _ _ h⟩
theorem shH_rdT {u c : Int} {g : HistD} (hu : 0 ≤ u) (hp : PosO g.orders) {t : TxD} (ht : 1 ≤ t.id) {l : List OpD} (hl : ∀ o ∈ l, rightO o = true) : rdT (fun _ => true) (shH u c g) (shT u c t) (l.map (shO u c)) = (rdT (fun _ => true) g t l).map (shE u c) := by
  induction l with
  | nil => rfl
  | cons o l ih =>
    have h1 := ih fun x hx => hl x (List.mem_cons_of_mem _ hx)
    unfold rdT at h1 ⊢
    rw [List.map_cons, List.flatMap_cons, List.flatMap_cons, List.map_append, h1]
    congr 1
    show (if (t.done && (o.read && true)) = true then _ else _) = _
    by_cases h : (t.done && (o.read && true)) = true
    · rw [if_pos h, if_pos h]
      have hr : o.read = true := by simp at h; exact h.2
      exact shH_rdO hu hp ht hr (right_rng (hl o (by simp))).2.1.1
    · rw [if_neg h, if_neg h]; rfl
theorem shH_rdH {u c : Int} {g : HistD} (hu : 0 ≤ u) (hp : PosO g.orders) {l : List TxD} (hl : ∀ t ∈ l, rightT t = 0) : rdH (fun _ => true) (shH u c g) (l.map (shT u c)) = (rdH (fun _ => true) g l).map (shE u c) := by
  induction l with
  | nil => rfl
  | cons t l ih =>
    have h1 := ih fun x hx => hl x (List.mem_cons_of_mem _ hx)
    have h2 := rightT_all (hl t (by simp))
    have h3 := shH_rdT (c := c) hu hp h2.1.1 h2.2.2
    unfold rdH at h1 ⊢
    rw [List.map_cons, List.flatMap_cons, List.flatMap_cons, List.map_append, h1]
    congr 1
theorem shO_right {u c : Int} {o : OpD} (hu : 0 ≤ u ∧ u ≤ 40000) (hc : 0 ≤ c ∧ c ≤ 40000) (h : rightO o = true) (hk : o.key ≤ 1000000) (ht : o.tx ≤ 1000000) : rightO (shO u c o) = true := by
  obtain ⟨⟨k1, k2⟩, ⟨t1, t2⟩, n1, n2⟩ := right_rng h
  unfold rightO at h ⊢
  by_cases hr : o.read = true
  · rw [if_pos hr] at h
    rw [if_pos (show (shO u c o).read = true from hr)]
    unfold rightV at h ⊢
    have etx : (shO u c o).tx = shI u o.tx := by
      unfold shO shI
      by_cases h : o.tx = 0
      · simp [h]
      · simp [h, hr]
    dsimp only at h ⊢
    rw [etx, show (shO u c o).key = o.key + c from rfl, show (shO u c o).nth = o.nth from rfl]
    by_cases h0 : o.tx = 0
    · rw [if_pos h0] at h
      rw [if_pos (by rw [h0]; rfl)]
      simp only [Bool.and_eq_true, decide_eq_true_eq, idB_iff] at h ⊢
      omega
    · rw [if_neg h0] at h
      rw [show shI u o.tx = o.tx + u from if_neg h0, if_neg (by omega)]
      simp only [Bool.and_eq_true, decide_eq_true_eq, idB_iff] at h ⊢
      omega
  · rw [if_neg hr] at h
    rw [if_neg (show ¬ (shO u c o).read = true from hr)]
    have etx : (shO u c o).tx = o.tx := by unfold shO; simp [hr]
    rw [etx, show (shO u c o).key = o.key + c from rfl, show (shO u c o).nth = o.nth from rfl]
    simp only [Bool.and_eq_true, decide_eq_true_eq, idB_iff] at h ⊢
    omega
theorem rightTL_shift {u c id : Int} (hid : 1 ≤ id) (hu : 0 ≤ u) : ∀ (r s : List OpD), rightTL id s r = 0 → (∀ o ∈ r, rightO (shO u c o) = true) → rightTL (id + u) (s.map (shO u c)) (r.map (shO u c)) = 0
  | [], _, _, _ => rfl
  | o :: r, s, h, ho => by
    have hal := rightTL_all _ _ h o (by simp)
    rw [rightTL_cons] at h
    rw [List.map_cons, rightTL_cons, if_neg (by rw [ho o (by simp)]; decide)]
    split at h
    · cases h
    · split at h
      · cases h
      · rename_i h1 h2
        have ih := rightTL_shift (u := u) (c := c) hid hu r (s ++ [o]) h fun x hx => ho x (List.mem_cons_of_mem _ hx)
        rw [List.map_append, List.map_singleton] at ih
        rw [if_neg]
        · exact ih
        · rintro ⟨g1, g2, g3⟩
          have hr : o.read = true := g1
          rw [show (shO u c o).key = o.key + c from rfl, shO_wcnt] at g3
          refine h2 ⟨hr, ?_, g3⟩
          have ht := (right_rng hal).2.1.1
          unfold shO at g2
          dsimp only at g2
          split at g2 <;> rename_i h9
          · omega
          · have h0 : o.tx = 0 := by
              by_cases h0 : o.tx = 0
              · exact h0
              · exact absurd ⟨hr, h0⟩ h9
            omega
theorem findT_shift {u c : Int} (l : List TxD) (id : Int) : findT (l.map (shT u c)) (id + u) = (findT l id).map (shT u c) := by
  unfold findT
  rw [List.find?_map]
  congr 2
  funext t
  show decide (t.id + u = id + u) = decide (t.id = id)
  rw [decide_eq_decide]
  omega
def shV (u c : Int) (v : VerD) : VerD := ⟨shI u v.tx, v.key + c, v.nth⟩
theorem shV_inj {u c : Int} (hu : 0 ≤ u) {v w : VerD} (hv : 0 ≤ v.tx) (hw : 0 ≤ w.tx) (h : shV u c v = shV u c w) : v = w := by
  unfold shV at h
  injection h with h1 h2 h3
  have h4 := shI_inj hu hv hw h1
  cases v; cases w
  simp only [VerD.mk.injEq]
  simp only at h2 h3 h4
  omega
theorem shO_tx {u c : Int} {o : OpD} (hr : o.read = true) : (shO u c o).tx = shI u o.tx := by
  unfold shO shI
  by_cases h : o.tx = 0
  · simp [h]
  · simp [h, hr]
theorem ofO_read {o : OpD} (hr : o.read = true) : ofO o = ⟨o.tx, o.key, o.nth⟩ := by unfold ofO; rw [if_pos hr]
theorem ofO_shift {u c : Int} {o : OpD} (hr : o.read = true) : ofO (shO u c o) = shV u c (ofO o) := by
  rw [ofO_read hr, ofO_read (show (shO u c o).read = true from hr), shO_tx hr]
  rfl
theorem needO_shift {u c id : Int} (hu : 0 ≤ u) (hid : 1 ≤ id) {o : OpD} (ho : 0 ≤ o.tx) : needO (id + u) (shO u c o) = needO id o := by
  unfold needO
  cases hr : o.read with
  | false => rw [show (shO u c o).read = false from hr]; rfl
  | true =>
    rw [show (shO u c o).read = true from hr, shO_tx hr]
    unfold shI
    by_cases h0 : o.tx = 0
    · simp [h0]
    · rw [if_neg h0]
      simp only [Bool.true_and]
      congr 1
      · congr 1; rw [decide_eq_decide]; omega
      · congr 1; rw [decide_eq_decide]; omega
theorem needs_shift {u c id : Int} (hu : 0 ≤ u) (hid : 1 ≤ id) : ∀ (l : List OpD) (out : List VerD), (∀ o ∈ l, 0 ≤ o.tx) → (∀ v ∈ out, 0 ≤ v.tx) → (l.map (shO u c)).foldl (needStep (id + u)) (out.map (shV u c)) = (l.foldl (needStep id) out).map (shV u c)
  | [], _, _, _ => rfl
  | o :: l, out, hl, ho => by
    rw [List.map_cons, List.foldl_cons, List.foldl_cons]
    have h0 := hl o (by simp)
    have e : needStep (id + u) (out.map (shV u c)) (shO u c o) = (needStep id out o).map (shV u c) ∧ ∀ v ∈ needStep id out o, 0 ≤ v.tx := by
      by_cases hn : needO id o = true
      · have hr : o.read = true := by unfold needO at hn; simp at hn; exact hn.1.1
        have hof : (ofO o).tx = o.tx := by rw [ofO_read hr]
        unfold needStep
        rw [needO_shift hu hid h0, ofO_shift hr]
        by_cases hm : ofO o ∈ out
        · rw [if_neg (fun h => h.2 (List.mem_map.2 ⟨_, hm, rfl⟩)), if_neg (fun h => h.2 hm)]
          exact ⟨rfl, ho⟩
        · rw [if_pos ⟨hn, fun h => by
            obtain ⟨v, hv, e⟩ := List.mem_map.1 h
            have := shV_inj hu (ho v hv) (by rw [hof]; exact h0) e
            exact hm (this ▸ hv)⟩, if_pos ⟨hn, hm⟩, List.map_append]
          exact ⟨rfl, fun v hv => by
            rcases List.mem_append.1 hv with h | h
            · exact ho v h
            · simp at h; rw [h, hof]; exact h0⟩
      · unfold needStep
        rw [needO_shift hu hid h0, if_neg (fun h => hn h.1), if_neg (fun h => hn h.1)]
        exact ⟨rfl, ho⟩
    rw [e.1]
    exact needs_shift hu hid l _ (fun x hx => hl x (List.mem_cons_of_mem _ hx)) e.2
theorem needsT_shift {u c : Int} (hu : 0 ≤ u) {t : TxD} (hid : 1 ≤ t.id) (hl : ∀ o ∈ t.ops, 0 ≤ o.tx) : needsT (shT u c t) = (needsT t).map (shV u c) := needs_shift hu hid t.ops [] hl (by simp)
theorem hasH_shift {u c : Int} {g : HistD} (hid : ∀ t ∈ g.txs, 1 ≤ t.id) (hu : 0 ≤ u) (hc : 0 ≤ c ∧ c ≤ 40000) {v : VerD} (hv : 0 ≤ v.tx) (hk : v.key ≤ 1000000) (h : hasH g v = true) : hasH (shH u c g) (shV u c v) = true := by
  unfold hasH at h ⊢
  rw [show (shV u c v).nth = v.nth from rfl, show (shV u c v).key = v.key + c from rfl, show (shV u c v).tx = shI u v.tx from rfl, show (shH u c g).txs = g.txs.map (shT u c) from rfl]
  by_cases h0 : v.tx = 0
  · rw [h0] at h ⊢
    rw [show shI u 0 = 0 from rfl]
    by_cases hn : v.nth = 0
    · rw [if_pos ⟨rfl, hn⟩] at h ⊢
      rw [decide_eq_true_eq] at h ⊢
      omega
    · rw [if_neg (fun h9 => hn h9.2)] at h
      cases hf : findT g.txs 0 with
      | none => rw [hf] at h; simp at h
      | some t =>
        obtain ⟨h1, h2⟩ := findT_mem hf
        have := hid t h1
        omega
  · rw [if_neg (fun h9 => h0 h9.1)] at h
    rw [show shI u v.tx = v.tx + u from if_neg h0, if_neg (fun h9 => by have := h9.1; omega), findT_shift]
    cases hf : findT g.txs v.tx with
    | none => rw [hf] at h; simp at h
    | some t =>
      rw [hf] at h
      simp only [Option.map_some, Option.isSome_some, Option.getD_some, Bool.true_and] at h ⊢
      have hw : wcnt (shT u c t).ops (v.key + c) = wcnt t.ops v.key := shO_wcnt u c t.ops v.key
      simp only [hw]
      exact h
theorem keysT_iff {t : TxD} {k : Int} : k ∈ keysT t ↔ ∃ o ∈ t.ops, o.read = false ∧ o.key = k := by
  unfold keysT
  rw [(keysL_inc _).2, List.mem_map]
  constructor
  · rintro ⟨o, ho, rfl⟩
    obtain ⟨h1, h2⟩ := List.mem_filter.1 ho
    exact ⟨o, h1, by simpa using h2, rfl⟩
  · rintro ⟨o, h1, h2, rfl⟩
    exact ⟨o, List.mem_filter.2 ⟨h1, by simp [h2]⟩, rfl⟩
theorem keysH_iff {l : List TxD} {k : Int} : k ∈ keysH l ↔ ∃ t ∈ l, t.done = true ∧ k ∈ keysT t := by
  unfold keysH
  rw [(keysL_inc _).2, List.mem_flatMap]
  constructor
  · rintro ⟨t, ht, hk⟩
    obtain ⟨h1, h2⟩ := List.mem_filter.1 ht
    exact ⟨t, h1, h2, hk⟩
  · rintro ⟨t, h1, h2, hk⟩
    exact ⟨t, List.mem_filter.2 ⟨h1, h2⟩, hk⟩
theorem keysH_shift {u c : Int} (l : List TxD) : keysH (l.map (shT u c)) = (keysH l).map (· + c) := by
  refine inc_unique (keysL_inc _).1 ?_ fun k => ?_
  · exact List.pairwise_map.2 ((keysL_inc _).1.imp fun h => by omega)
  · rw [keysH_iff, List.mem_map]
    constructor
    · rintro ⟨t', ht', hd, hk⟩
      obtain ⟨t, ht, rfl⟩ := List.mem_map.1 ht'
      obtain ⟨o', ho', h2, h3⟩ := keysT_iff.1 hk
      obtain ⟨o, ho, rfl⟩ := List.mem_map.1 ho'
      exact ⟨o.key, keysH_iff.2 ⟨t, ht, hd, keysT_iff.2 ⟨o, ho, h2, rfl⟩⟩, h3⟩
    · rintro ⟨k0, hk0, rfl⟩
      obtain ⟨t, ht, hd, hk⟩ := keysH_iff.1 hk0
      obtain ⟨o, ho, h2, h3⟩ := keysT_iff.1 hk
      exact ⟨shT u c t, List.mem_map.2 ⟨t, ht, rfl⟩, hd, keysT_iff.2 ⟨shO u c o, List.mem_map.2 ⟨o, ho, rfl⟩, h2, by show o.key + c = k0 + c; rw [h3]⟩⟩
theorem writersH_shift {u c : Int} (l : List TxD) (k : Int) : writersH (l.map (shT u c)) (k + c) = (writersH l k).map (· + u) := by
  unfold writersH
  rw [List.filter_map, List.map_map, List.map_map]
  have e : ((fun t : TxD => t.done && decide (0 < wcnt t.ops (k + c))) ∘ shT u c) = fun t => t.done && decide (0 < wcnt t.ops k) := by
    funext t
    show (t.done && decide (0 < wcnt (t.ops.map (shO u c)) (k + c))) = _
    rw [shO_wcnt]
  rw [e]
  rfl
theorem need_mem {t : TxD} {o : OpD} (ho : o ∈ t.ops) (hd : needO t.id o = true) : ofO o ∈ needsT t := by
  have key : ∀ (l : List OpD) (out : List VerD), (ofO o ∈ out ∨ o ∈ l) → ofO o ∈ l.foldl (needStep t.id) out := by
    intro l
    induction l with
    | nil => intro out h; rcases h with h | h; exact h; cases h
    | cons x l ih =>
      intro out h
      rw [List.foldl_cons]
      refine ih _ ?_
      rcases h with h | h
      · left
        unfold needStep
        split
        · exact List.mem_append_left _ h
        · exact h
      · rcases List.mem_cons.1 h with rfl | h
        · left
          unfold needStep
          by_cases hin : ofO o ∈ out
          · rw [if_neg (by simp [hin])]; exact hin
          · rw [if_pos ⟨hd, hin⟩]; simp
        · exact .inr h
  exact key t.ops [] (.inr ho)
theorem needs_from {t : TxD} {v : VerD} (h : v ∈ needsT t) : ∃ o ∈ t.ops, o.read = true ∧ v = ofO o := by
  have key : ∀ (l : List OpD) (out : List VerD), v ∈ l.foldl (needStep t.id) out → v ∈ out ∨ ∃ o ∈ l, o.read = true ∧ v = ofO o := by
    intro l
    induction l with
    | nil => intro out h; exact .inl h
    | cons x l ih =>
      intro out h
      rw [List.foldl_cons] at h
      rcases ih _ h with h | ⟨o, ho, h⟩
      · unfold needStep at h
        split at h
        · rename_i hn
          rcases List.mem_append.1 h with h | h
          · exact .inl h
          · simp at h
            have hr : x.read = true := by have := hn.1; unfold needO at this; simp at this; exact this.1.1
            exact .inr ⟨x, by simp, hr, h⟩
        · exact .inl h
      · exact .inr ⟨o, List.mem_cons_of_mem _ ho, h⟩
  rcases key t.ops [] h with h | h
  · cases h
  · exact h
theorem tx_le {g : HistD} (hl : LowH 1000000 g) {t : TxD} (ht : t ∈ g.txs) (hr : rightT t = 0) (hn : needsH g t = true) {o : OpD} (ho : o ∈ t.ops) : o.tx ≤ 1000000 := by
  have hro := (rightT_all hr).2.2 o ho
  cases hrd : o.read with
  | false =>
    unfold rightO at hro
    rw [if_neg (by rw [hrd]; decide)] at hro
    simp only [Bool.and_eq_true, decide_eq_true_eq] at hro
    omega
  | true =>
    by_cases h0 : o.tx = 0
    · omega
    · by_cases h1 : o.tx = t.id
      · have := (hl t ht).1; omega
      · have h2 := List.all_eq_true.1 hn _ (need_mem ho (by unfold needO; simp [hrd, h0, h1]))
        rw [ofO_read hrd] at h2
        unfold hasH at h2
        rw [if_neg (fun h9 => h0 h9.1)] at h2
        cases hf : findT g.txs o.tx with
        | none => rw [hf] at h2; simp at h2
        | some s =>
          obtain ⟨h3, h4⟩ := findT_mem hf
          have := (hl s h3).1
          omega
theorem right_shift {u c : Int} {g : HistD} (hu : 0 ≤ u ∧ u ≤ 40000) (hc : 0 ≤ c ∧ c ≤ 40000) (hl : LowH 1000000 g) (hr : RightH g) : RightH (shH u c g) := by
  obtain ⟨h1, h2, h3, h4⟩ := hr
  refine ⟨by show (g.txs.map (shT u c)).length ≤ 4096; rw [List.length_map]; exact h1, fun i hi => ?_, by show (g.orders.map (shR u c)).length = (keysH (g.txs.map (shT u c))).length; rw [keysH_shift, List.length_map, List.length_map]; exact h3, fun i hi => ?_⟩
  · have hi' : i < g.txs.length := by
      have : i < (g.txs.map (shT u c)).length := hi
      rwa [List.length_map] at this
    obtain ⟨a1, a2, a3⟩ := h2 i hi'
    have hm := nth_mem hi'
    have hlt := hl _ hm
    obtain ⟨b1, b2, b3⟩ := rightT_all a2
    have hnn : ∀ o ∈ (Go.Gm.nth g.txs i).ops, 0 ≤ o.tx := fun o ho => (right_rng (b3 o ho)).2.1.1
    refine ⟨fun h0 => ?_, ?_, ?_⟩
    · show (Go.Gm.nth (g.txs.map (shT u c)) (i - 1)).id < (Go.Gm.nth (g.txs.map (shT u c)) i).id
      rw [nth_map (by omega), nth_map hi']
      have := a1 h0
      show (Go.Gm.nth g.txs (i - 1)).id + u < (Go.Gm.nth g.txs i).id + u
      omega
    · show rightT (Go.Gm.nth (g.txs.map (shT u c)) i) = 0
      rw [nth_map hi']
      have hlen : ¬ 4095 < (Go.Gm.nth g.txs i).ops.length := by
        intro h9
        unfold rightT at a2
        rw [if_neg (by omega), if_pos h9] at a2
        cases a2
      unfold rightT
      rw [if_neg (by show ¬ ¬ (1 ≤ (Go.Gm.nth g.txs i).id + u ∧ (Go.Gm.nth g.txs i).id + u ≤ 1048575); omega), if_neg (by show ¬ 4095 < ((Go.Gm.nth g.txs i).ops.map (shO u c)).length; rw [List.length_map]; exact hlen)]
      exact rightTL_shift (s := []) b1.1 hu.1 _ b2 fun o ho => shO_right hu hc (b3 o ho) (hlt.2 o ho).2 (tx_le hl hm a2 a3 ho)
    · show needsH (shH u c g) (Go.Gm.nth (g.txs.map (shT u c)) i) = true
      rw [nth_map hi']
      unfold needsH at a3 ⊢
      rw [needsT_shift hu.1 b1.1 hnn, List.all_map, List.all_eq_true]
      intro v hv
      obtain ⟨o, ho, hrd, rfl⟩ := needs_from hv
      have h9 := List.all_eq_true.1 a3 _ hv
      exact hasH_shift (fun t ht => (hl t ht).1.1) hu.1 hc (by rw [ofO_read hrd]; exact hnn o ho) (by rw [ofO_read hrd]; exact (hlt.2 o ho).2) h9
  · have hi' : i < g.orders.length := by
      have : i < (g.orders.map (shR u c)).length := hi
      rwa [List.length_map] at this
    obtain ⟨b1, b2⟩ := h4 i hi'
    have hkl : i < (keysH g.txs).length := by rw [← h3]; exact hi'
    refine ⟨?_, ?_⟩
    · show (Go.Gm.nth (g.orders.map (shR u c)) i).key = Go.Gm.nth (keysH (g.txs.map (shT u c))) i
      rw [keysH_shift, nth_map hi', nth_map hkl, ← b1]
      rfl
    · show (Go.Gm.nth (g.orders.map (shR u c)) i).txs.Perm (writersH (g.txs.map (shT u c)) (Go.Gm.nth (g.orders.map (shR u c)) i).key)
      rw [nth_map hi']
      show ((Go.Gm.nth g.orders i).txs.map (· + u)).Perm (writersH (g.txs.map (shT u c)) ((Go.Gm.nth g.orders i).key + c))
      rw [writersH_shift]
      exact b2.map _
theorem pos_of_right {g : HistD} (hl : LowH 1000000 g) (hr : RightH g) : PosO g.orders := by
  intro o ho x hx
  obtain ⟨i, hi, e⟩ := List.getElem_of_mem ho
  obtain ⟨_, b2⟩ := hr.2.2.2 i hi
  rw [nth_eq hi, e] at b2
  have h1 := b2.mem_iff.1 hx
  unfold writersH at h1
  obtain ⟨t, ht, rfl⟩ := List.mem_map.1 h1
  exact (hl t (List.mem_filter.1 ht).1).1.1

end Go.Proofs.Ytpnaolljmhhdbaa
namespace Go.Proofs.Ytpnaolljmhhdbaa
open Go Go.Gm
set_option linter.unusedVariables false
set_option linter.unusedSimpArgs false
set_option maxHeartbeats 4000000
set_option maxRecDepth 8000

theorem ltE_shift (u c : Int) (d e : EdgeD) : ltE (shE u c d) (shE u c e) = ltE d e := by unfold ltE; rw [shE_cmp]
theorem keysG_shift (u c : Int) (l : List EdgeD) : keysG ltE (l.map (shE u c)) = (keysG ltE l).map (shE u c) := by
  refine hvG_unique ltE_sto (keysG_inc ltE_sto _).1 ?_ fun x => ?_
  · exact List.pairwise_map.2 ((keysG_inc ltE_sto l).1.imp fun {d e} h => by rw [ltE_shift]; exact h)
  · rw [(keysG_inc ltE_sto _).2, List.mem_map, List.mem_map]
    constructor
    · rintro ⟨e, he, rfl⟩; exact ⟨e, ((keysG_inc ltE_sto l).2 e).2 he, rfl⟩
    · rintro ⟨e, he, rfl⟩; exact ⟨e, ((keysG_inc ltE_sto l).2 e).1 he, rfl⟩
def shX (u c : Int) (x : HvD) : HvD := ⟨shE u c x.edge, x.cnt⟩
theorem cntA_shift (u c : Int) (A : List (EdgeD × Int)) (R : List EdgeD) (e : EdgeD) : cntA (A.map fun z => (shE u c z.1, z.2)) (R.map (shE u c)) (shE u c e) = cntA A R e := by
  unfold cntA
  rw [asgF_map (f := shE u c) fun z _ h => shE_inj h, count_map_inj fun x y h => shE_inj h]
theorem edgesL_shift (u c : Int) (A : List (EdgeD × Int)) (R : List EdgeD) : edgesL (A.map fun z => (shE u c z.1, z.2)) (R.map (shE u c)) = (edgesL A R).map (shX u c) := by
  unfold edgesL
  have e : allE (A.map fun z => (shE u c z.1, z.2)) (R.map (shE u c)) = (allE A R).map (shE u c) := by
    unfold allE
    rw [List.map_append, List.map_map, List.map_map]
    rfl
  rw [e, keysG_shift, List.map_map, List.map_map]
  refine List.map_congr_left fun x _ => ?_
  show (⟨shE u c x, cntA _ _ (shE u c x)⟩ : HvD) = ⟨shE u c x, cntA A R x⟩
  rw [cntA_shift]
/-- The edges of a shifted history. -/
theorem edges_shift {u c : Int} {g : HistD} (hu : 0 ≤ u ∧ u ≤ 40000) (hc : 0 ≤ c ∧ c ≤ 40000) (hl : LowH 1000000 g) (hr : RightH g) : edgesL (wwC (fun _ => true) (shH u c g)) (rdC (fun _ => true) (shH u c g)) = (edgesL (wwC (fun _ => true) g) (rdC (fun _ => true) g)).map (shX u c) := by
  have h1 : wwC (fun _ => true) (shH u c g) = (wwC (fun _ => true) g).map fun z => (shE u c z.1, z.2) := by
    unfold wwC
    rw [if_pos hr, if_pos (right_shift hu hc hl hr)]
    exact shH_ww u c g.orders
  have h2 : rdC (fun _ => true) (shH u c g) = (rdC (fun _ => true) g).map (shE u c) := by
    unfold rdC
    rw [if_pos hr, if_pos (right_shift hu hc hl hr)]
    refine shH_rdH hu.1 (pos_of_right hl hr) fun t ht => ?_
    obtain ⟨i, hi, e⟩ := List.getElem_of_mem ht
    have h9 := (hr.2.1 i hi).2.1
    rwa [nth_eq hi, e] at h9
  rw [h1, h2, edgesL_shift]

end Go.Proofs.Ytpnaolljmhhdbaa
namespace Go.Proofs.Ytpnaolljmhhdbaa
open Go Go.Gm
set_option linter.unusedVariables false
set_option linter.unusedSimpArgs false
set_option maxHeartbeats 4000000
set_option maxRecDepth 8000

theorem ord_low {g : HistD} (hl : LowH 1000000 g) (hr : RightH g) : ∀ o ∈ g.orders, (1 ≤ o.key ∧ o.key ≤ 1000000) ∧ ∀ x ∈ o.txs, 1 ≤ x ∧ x ≤ 1000000 := by
  intro o ho
  obtain ⟨i, hi, e⟩ := List.getElem_of_mem ho
  obtain ⟨b1, b2⟩ := hr.2.2.2 i hi
  rw [nth_eq hi, e] at b1 b2
  refine ⟨?_, fun x hx => ?_⟩
  · have hk : o.key ∈ keysH g.txs := by rw [b1]; exact nth_mem (by rw [← hr.2.2.1]; exact hi)
    obtain ⟨t, ht, _, hk⟩ := keysH_iff.1 hk
    obtain ⟨p, hp, _, e2⟩ := keysT_iff.1 hk
    rw [← e2]; exact (hl t ht).2 p hp
  · have h1 := b2.mem_iff.1 hx
    unfold writersH at h1
    obtain ⟨t, ht, rfl⟩ := List.mem_map.1 h1
    exact (hl t (List.mem_filter.1 ht).1).1
theorem ops_right {g : HistD} (hr : RightH g) : ∀ t ∈ g.txs, ∀ o ∈ t.ops, rightO o = true := by
  intro t ht
  obtain ⟨i, hi, e⟩ := List.getElem_of_mem ht
  have h := (hr.2.1 i hi).2.1
  rw [nth_eq hi, e] at h
  exact (rightT_all h).2.2
def lowE (e : EdgeD) : Prop := (-2000000 ≤ e.src ∧ e.src ≤ 2000000) ∧ (-2000000 ≤ e.dst ∧ e.dst ≤ 2000000) ∧ (-2000000 ≤ e.key ∧ e.key ≤ 2000000)
theorem asgF_rng {κ : Type} [DecidableEq κ] {k : κ} {m : Int} (hm : 0 ≤ m) : ∀ {A : List (κ × Int)}, (∀ z ∈ A, 0 ≤ z.2 ∧ z.2 ≤ m) → 0 ≤ asgF A k ∧ asgF A k ≤ m := by
  have key : ∀ (A : List (κ × Int)) (x : Int), (∀ z ∈ A, 0 ≤ z.2 ∧ z.2 ≤ m) → 0 ≤ x ∧ x ≤ m → 0 ≤ A.foldl (fun x z => if k = z.1 then z.2 else x) x ∧ A.foldl (fun x z => if k = z.1 then z.2 else x) x ≤ m := by
    intro A
    induction A with
    | nil => intro x _ h; exact h
    | cons z A ih =>
      intro x hz hx
      rw [List.foldl_cons]
      refine ih _ (fun y hy => hz y (List.mem_cons_of_mem _ hy)) ?_
      have := hz z (by simp)
      split <;> omega
  intro A hA
  exact key A 0 hA (by omega)
theorem nx_low {g : HistD} (hl : LowH 1000000 g) (hr : RightH g) (k x : Int) : 0 ≤ nxI g k x ∧ nxI g k x ≤ 1000000 := by
  unfold nxI
  refine asgF_rng (by omega) fun z hz => ?_
  unfold nxA at hz
  obtain ⟨o, ho, hz⟩ := List.mem_flatMap.1 hz
  unfold nxO at hz
  obtain ⟨i, hi, rfl⟩ := List.mem_map.1 hz
  have h := (ord_low hl hr o ho).2 _ (nth_mem (List.mem_range.1 hi))
  show 0 ≤ Go.Gm.nth o.txs i ∧ Go.Gm.nth o.txs i ≤ 1000000
  omega
theorem ww_low {g : HistD} (hl : LowH 1000000 g) (hr : RightH g) : ∀ z ∈ wwC (fun _ => true) g, lowE z.1 := by
  intro z hz
  unfold wwC at hz
  rw [if_pos hr] at hz
  unfold wwA at hz
  obtain ⟨o, ho, hz⟩ := List.mem_flatMap.1 hz
  have hz : z ∈ wwO o (o.txs.length - 1) := hz
  unfold wwO at hz
  obtain ⟨i, hi, rfl⟩ := List.mem_map.1 hz
  have hi2 := List.mem_range.1 hi
  obtain ⟨h1, h2⟩ := ord_low hl hr o ho
  have h3 := h2 _ (nth_mem (show i < o.txs.length by omega))
  have h4 := h2 _ (nth_mem (show i + 1 < o.txs.length by omega))
  unfold lowE
  dsimp only
  omega
theorem rd_low {g : HistD} (hl : LowH 1000000 g) (hr : RightH g) : ∀ e ∈ rdC (fun _ => true) g, lowE e := by
  intro e he
  unfold rdC at he
  rw [if_pos hr] at he
  unfold rdH at he
  obtain ⟨t, ht, he⟩ := List.mem_flatMap.1 he
  unfold rdT at he
  obtain ⟨o, ho, he⟩ := List.mem_flatMap.1 he
  split at he
  · have h1 := (hl t ht).1
    have h2 := (hl t ht).2 o ho
    have h3 := (right_rng (ops_right hr t ht o ho)).2.1
    have h4 := nx_low hl hr o.key o.tx
    unfold rdO rdA rdB at he
    split at he
    · cases he
    · rcases List.mem_append.1 he with he | he
      · split at he
        · cases he
        · simp at he; rw [he]; unfold lowE; dsimp only; omega
      · split at he
        · simp at he; rw [he]; unfold lowE; dsimp only; omega
        · cases he
  · cases he
theorem edges_low {g : HistD} (hl : LowH 1000000 g) (hr : RightH g) {i : Nat} (hi : i < (edgesL (wwC (fun _ => true) g) (rdC (fun _ => true) g)).length) : lowE (Go.Gm.nth (edgesL (wwC (fun _ => true) g) (rdC (fun _ => true) g)) i).edge := by
  have hi2 := hi
  rw [edgesL_len] at hi2
  rw [edgesL_nth hi2]
  have key : ∀ e, e ∈ allE (wwC (fun _ => true) g) (rdC (fun _ => true) g) → lowE e := by
    intro e h
    unfold allE at h
    rcases List.mem_append.1 h with h | h
    · obtain ⟨z, hz, rfl⟩ := List.mem_map.1 h
      exact ww_low hl hr z hz
    · exact rd_low hl hr _ h
  exact key _ (((keysG_inc ltE_sto _).2 _).1 (nth_mem hi2))

end Go.Proofs.Ytpnaolljmhhdbaa
