/- HistoryRight, HistoryAlone. No condition beyond those that each theorem says. -/
import Derived.Test.YtpjjmolibanakaaGreatEdW
namespace Go.Proofs.YtpjjmolibanakaaGreat
open Go Go.Gm
set_option linter.unusedVariables false
set_option linter.unusedSimpArgs false
set_option maxHeartbeats 4000000
set_option maxRecDepth 8000


theorem writers_mem {l : List TxD} {k x : Int} : x ∈ writersH l k ↔ ∃ t ∈ l, t.id = x ∧ t.done = true ∧ 0 < wcnt t.ops k := by
  unfold writersH
  rw [List.mem_map]
  constructor
  · rintro ⟨t, ht, e⟩
    rw [List.mem_filter] at ht
    simp at ht
    exact ⟨t, ht.1, e, ht.2.1, ht.2.2⟩
  · rintro ⟨t, ht, e, h1, h2⟩
    exact ⟨t, by rw [List.mem_filter]; simp [ht, h1, h2], e⟩
theorem writers_nodup {l : List TxD} (h : Rise TxD.id l) (k : Int) : (writersH l k).Nodup := by
  unfold writersH
  have h1 : (l.map TxD.id).Nodup := (List.pairwise_map.2 (rise_iff.1 h)).imp fun h => Int.ne_of_lt h
  exact (h1.sublist ((List.filter_sublist).map _))
theorem find_mem {l : List TxD} (h : Rise TxD.id l) {t : TxD} (ht : t ∈ l) : findT l t.id = some t := by
  have h := rise_iff.1 h
  induction l with
  | nil => cases ht
  | cons x l ih =>
    rw [List.pairwise_cons] at h
    unfold findT
    rw [List.find?_cons]
    rcases List.mem_cons.1 ht with rfl | ht
    · simp
    · have := h.1 t ht
      rw [show decide (x.id = t.id) = false by simp; omega]
      exact ih (rise_iff.2 h.2) ht h.2
theorem find_not {l : List TxD} {id : Int} (h : ∀ t ∈ l, t.id ≠ id) : findT l id = none := by
  unfold findT
  exact List.find?_eq_none.2 fun t ht => by simpa using h t ht
theorem right_iff {g : HistD} : RightH g ↔ g.txs.length ≤ 4096 ∧ Rise TxD.id g.txs ∧ (∀ t ∈ g.txs, rightT t = 0 ∧ needsH g t = true) ∧ Rise OrdD.key g.orders ∧ NE g.orders ∧ ∀ k, (getO g.orders k).Perm (writersH g.txs k) := by
  constructor
  · intro h
    obtain ⟨r1', r2'⟩ := right_rise h
    have hne := right_ne h
    have h2 := (ord_same g).2 h.2.2
    refine ⟨h.1, r1', fun t ht => ?_, r2', hne, fun k => ?_⟩
    · obtain ⟨j, hj, e⟩ := List.getElem_of_mem ht
      have := (h.2.1 j hj).2
      rwa [nth_eq hj, e] at this
    · by_cases hk : getO g.orders k = []
      · rw [hk]
        have hw : writersH g.txs k = [] := by
          refine Decidable.byContradiction fun hw => ?_
          obtain ⟨j, hj, e⟩ := List.getElem_of_mem (keysH_mem.2 hw)
          have hjo : j < g.orders.length := by rw [h.2.2.1]; exact hj
          have h3 := (h.2.2.2 j hjo).1
          rw [nth_eq hj, e] at h3
          have h4 := getO_mem (rise_iff.1 r2') (nth_mem hjo)
          rw [h3, hk] at h4
          exact hne _ (nth_mem hjo) h4.symm
        rw [hw]
      · have hm := getO_in hk
        obtain ⟨j, hj, e⟩ := List.getElem_of_mem hm
        have := (h2.2 j hj).2.2
        rw [nth_eq hj, e] at this
        exact this
  · rintro ⟨h1, h2, h3, h4, h5, h6⟩
    have hk : g.orders.map OrdD.key = keysH g.txs := by
      refine inc_unique (List.pairwise_map.2 (rise_iff.1 h4)) (keysL_inc _).1 fun k => ?_
      rw [keysH_mem, List.mem_map]
      constructor
      · rintro ⟨o, ho, rfl⟩ e
        have := h6 o.key
        rw [e, getO_mem (rise_iff.1 h4) ho] at this
        exact h5 o ho this.eq_nil
      · intro e
        have : getO g.orders k ≠ [] := fun e2 => by
          have := h6 k
          rw [e2] at this
          exact e this.symm.eq_nil
        exact ⟨_, getO_in this, rfl⟩
    have hlen : g.orders.length = (keysH g.txs).length := by rw [← hk, List.length_map]
    refine ⟨h1, fun i hi => ?_, (ord_same g).1 ⟨hlen, fun i hi => ?_⟩⟩
    · obtain ⟨g1, g2⟩ := h3 _ (nth_mem hi)
      exact ⟨fun h0 => h2 (i - 1) i (by omega) hi, g1, g2⟩
    · refine ⟨fun h0 => h4 (i - 1) i (by omega) hi, h5 _ (nth_mem hi), ?_⟩
      have := h6 (Go.Gm.nth g.orders i).key
      rwa [getO_mem (rise_iff.1 h4) (nth_mem hi)] at this
theorem listF_mem {t : TxD} {l : List Int} {k x : Int} : x ∈ listF t l k ↔ (x ∈ l ∧ x ≠ t.id) ∨ (x = t.id ∧ t.done = true ∧ 0 < wcnt t.ops k) := by
  unfold listF
  by_cases h : t.done = true ∧ 0 < wcnt t.ops k
  · rw [if_pos h]
    unfold withO
    split
    · rename_i hi
      constructor
      · intro hx
        by_cases e : x = t.id
        · exact .inr ⟨e, h⟩
        · exact .inl ⟨hx, e⟩
      · rintro (⟨hx, _⟩ | ⟨rfl, _⟩)
        · exact hx
        · exact hi
    · rename_i hi
      rw [List.mem_append, List.mem_singleton]
      constructor
      · rintro (hx | hx)
        · exact .inl ⟨hx, fun e => hi (e ▸ hx)⟩
        · exact .inr ⟨hx, h⟩
      · rintro (⟨hx, _⟩ | ⟨e, _⟩)
        · exact .inl hx
        · exact .inr e
  · rw [if_neg h]
    unfold withoutO
    rw [List.mem_filter, decide_eq_true_eq]
    exact ⟨fun h1 => .inl h1, fun h1 => h1.elim id fun h2 => absurd h2.2 h⟩
theorem listF_nodup {t : TxD} {l : List Int} (h : l.Nodup) (k : Int) : (listF t l k).Nodup := by
  unfold listF
  split
  · unfold withO
    split
    · exact h
    · rename_i hi
      rw [List.nodup_append]
      exact ⟨h, by simp, fun a ha b hb => by rw [List.mem_singleton] at hb; subst hb; exact fun e => hi (e ▸ ha)⟩
  · exact h.filter _
theorem edit_right {g : HistD} {t : TxD} {b : Bool} {l : List TxD} (hR : RightH g) (hs : SmallO g.orders) (hr : Rise TxD.id l) (hl : l.length ≤ 4096) (hM : ∀ s, s ∈ l ↔ (s ∈ g.txs ∧ s.id ≠ t.id) ∨ (s = t ∧ b = true))
    (ht : b = true → rightT t = 0 ∧ needsH g t = true) (hb : b = false → t.done = false)
    (hu : ∀ x ∈ l, ∀ v ∈ needsT x, v.tx = t.id → hasH g v = true → ¬ (v.tx = 0 ∧ v.nth = 0) → b = true ∧ v.nth ≤ (wcnt t.ops v.key : Int)) : RightH ⟨l, settleO t g.orders⟩ := by
  obtain ⟨h1, h2, h3, h4, h5, h6⟩ := right_iff.1 hR
  obtain ⟨s1, s2⟩ := settle_rise (t := t) h4 hs
  have hhas : ∀ x ∈ l, ∀ v ∈ needsT x, hasH g v = true → hasH ⟨l, settleO t g.orders⟩ v = true := by
    intro x hx v hv hg
    by_cases hz : v.tx = 0 ∧ v.nth = 0
    · unfold hasH at hg ⊢
      rw [if_pos hz] at hg ⊢
      exact hg
    · have hu2 := hu x hx v hv
      unfold hasH at hg hu2 ⊢
      rw [if_neg hz] at hg hu2 ⊢
      by_cases e : v.tx = t.id
      · obtain ⟨b1, b2⟩ := hu2 e hg hz
        have hm : t ∈ l := (hM t).2 (.inr ⟨rfl, b1⟩)
        have hf := find_mem hr hm
        simp only [Bool.and_eq_true, decide_eq_true_eq] at hg ⊢
        show _ ∧ _
        rw [e, hf]
        exact ⟨rfl, hg.2.1, b2⟩
      · have hf : findT l v.tx = findT g.txs v.tx := by
          cases hc : findT g.txs v.tx with
          | none =>
            refine find_not fun s hsl es => ?_
            rcases (hM s).1 hsl with ⟨m1, m2⟩ | ⟨rfl, _⟩
            · have := find_mem h2 m1
              rw [es, hc] at this; cases this
            · exact e es.symm
          | some s =>
            obtain ⟨m1, m2⟩ := findT_mem hc
            have hm : s ∈ l := (hM s).2 (.inl ⟨m1, by rw [m2]; exact e⟩)
            have := find_mem hr hm
            rwa [m2] at this
        show (((findT l v.tx).isSome && _) : Bool) = true
        rw [hf]; exact hg
  refine right_iff.2 ⟨hl, hr, fun x hx => ?_, rise_iff.2 s1, s2, fun k => ?_⟩
  · have hx2 : rightT x = 0 ∧ needsH g x = true := by
      rcases (hM x).1 hx with ⟨m1, _⟩ | ⟨rfl, b1⟩
      · exact h3 x m1
      · exact ht b1
    refine ⟨hx2.1, ?_⟩
    have h7 := hx2.2
    unfold needsH at h7 ⊢
    rw [List.all_eq_true] at h7 ⊢
    exact fun v hv => hhas x hx v hv (h7 v hv)
  · rw [settle_get h4 k]
    have hn : (getO g.orders k).Nodup := (h6 k).symm.nodup (writers_nodup h2 k)
    refine (List.perm_ext_iff_of_nodup (listF_nodup hn k) (writers_nodup hr k)).2 fun x => ?_
    rw [listF_mem, writers_mem, (h6 k).mem_iff, writers_mem]
    constructor
    · rintro (⟨⟨s, m1, m2, m3, m4⟩, m5⟩ | ⟨rfl, m3, m4⟩)
      · exact ⟨s, (hM s).2 (.inl ⟨m1, by rw [m2]; exact m5⟩), m2, m3, m4⟩
      · refine ⟨t, (hM t).2 (.inr ⟨rfl, ?_⟩), rfl, m3, m4⟩
        cases b with
        | true => rfl
        | false => rw [hb rfl] at m3; cases m3
    · rintro ⟨s, m1, m2, m3, m4⟩
      rcases (hM s).1 m1 with ⟨m5, m6⟩ | ⟨rfl, _⟩
      · exact .inl ⟨⟨s, m5, m2, m3, m4⟩, by rw [← m2]; exact m6⟩
      · exact .inr ⟨m2.symm, m3, m4⟩
theorem rise_new {l : List TxD} {t : TxD} (h : Rise TxD.id l) (hk : isK TxD.id t.id l = false) : Rise TxD.id (l.take (lowK TxD.id t.id l) ++ [t] ++ l.drop (lowK TxD.id t.id l)) ∧ ∀ s, s ∈ l.take (lowK TxD.id t.id l) ++ [t] ++ l.drop (lowK TxD.id t.id l) ↔ (s ∈ l ∧ s.id ≠ t.id) ∨ (s = t ∧ true = true) := by
  rw [← putGR_new (rise_iff.1 h) hk]
  refine ⟨rise_iff.2 (putGR_rise (rise_iff.1 h)), fun s => ?_⟩
  rw [putGR_new (rise_iff.1 h) hk, List.mem_append, List.mem_append, List.mem_singleton]
  have hne : ∀ s ∈ l, s.id ≠ t.id := fun s hs e => by
    have := List.any_eq_false.1 hk s hs
    simp at this; exact this e
  constructor
  · rintro ((h1 | h1) | h1)
    · exact .inl ⟨List.mem_of_mem_take h1, hne s (List.mem_of_mem_take h1)⟩
    · exact .inr ⟨h1, rfl⟩
    · exact .inl ⟨List.mem_of_mem_drop h1, hne s (List.mem_of_mem_drop h1)⟩
  · rintro (⟨h1, _⟩ | ⟨h1, _⟩)
    · rw [← List.take_append_drop (lowK TxD.id t.id l) l, List.mem_append] at h1
      rcases h1 with h1 | h1
      · exact .inl (.inl h1)
      · exact .inr h1
    · exact .inl (.inr h1)
theorem rise_old {l : List TxD} {t : TxD} (h : Rise TxD.id l) (hk : isK TxD.id t.id l = true) : Rise TxD.id (l.set (lowK TxD.id t.id l) t) ∧ ∀ s, s ∈ l.set (lowK TxD.id t.id l) t ↔ (s ∈ l ∧ s.id ≠ t.id) ∨ (s = t ∧ true = true) := by
  rw [← putGR_old (rise_iff.1 h) hk]
  refine ⟨rise_iff.2 (putGR_rise (rise_iff.1 h)), fun s => ?_⟩
  constructor
  · intro hs
    rcases putGR_mem hs with ⟨rfl, _⟩ | h1
    · exact .inr ⟨rfl, rfl⟩
    · exact .inl h1
  · have key : ∀ (l : List TxD) (d : Bool), ((s ∈ l ∧ s.id ≠ t.id) ∨ (s = t ∧ d = false)) → s ∈ putGR TxD.id t l d := by
      intro l
      induction l with
      | nil =>
        rintro d (⟨h1, _⟩ | ⟨rfl, h1⟩)
        · cases h1
        · subst h1; simp [putGR]
      | cons x l ih =>
        intro d hx
        rw [putGR, List.mem_append, List.mem_append]
        rcases hx with ⟨h1, h2⟩ | ⟨rfl, h1⟩
        · rcases List.mem_cons.1 h1 with rfl | h1
          · exact .inl (.inr (by rw [if_neg h2]; simp))
          · exact .inr (ih _ (.inl ⟨h1, h2⟩))
        · by_cases hA : s.id ≤ x.id
          · exact .inl (.inl (by rw [if_pos ⟨h1, hA⟩]; simp))
          · exact .inr (ih _ (.inr ⟨rfl, by rw [h1]; simp; omega⟩))
    rintro (h1 | ⟨h1, _⟩)
    · exact key l false (.inl h1)
    · exact key l false (.inr ⟨h1, rfl⟩)
theorem needs_tx {t : TxD} {v : VerD} (h : v ∈ needsT t) : v.tx ≠ t.id := by
  have key : ∀ (l : List OpD) (out : List VerD), (∀ v ∈ out, v.tx ≠ t.id) → ∀ v ∈ l.foldl (needStep t.id) out, v.tx ≠ t.id := by
    intro l
    induction l with
    | nil => intro out h; exact h
    | cons o l ih =>
      intro out h
      refine ih _ fun v hv => ?_
      unfold needStep at hv
      split at hv
      · rename_i hc
        rcases List.mem_append.1 hv with hv | hv
        · exact h v hv
        · have e : v = ofO o := by simpa using hv
          have hn := hc.1
          unfold needO at hn
          simp at hn
          rw [e]
          unfold ofO
          rw [if_pos hn.1.1]
          exact hn.2
      · exact h v hv
  exact key _ _ (fun v hv => by cases hv) v h
theorem has_find {g : HistD} {v : VerD} (h : hasH g v = true) (hz : ¬ (v.tx = 0 ∧ v.nth = 0)) : isK TxD.id v.tx g.txs = true ∧ 1 ≤ v.nth := by
  unfold hasH at h
  rw [if_neg hz, Bool.and_eq_true, Bool.and_eq_true, find_is] at h
  exact ⟨h.1, by simpa using h.2.1⟩
theorem unused {g : HistD} {t x : TxD} {v : VerD} (h : usedH g t = false) (hx : x ∈ g.txs) (hn : x.id ≠ t.id) (hv : v ∈ needsT x) (e : v.tx = t.id) : v.nth ≤ (wcnt t.ops v.key : Int) := by
  have h1 := List.any_eq_false.1 h x hx
  unfold usedX at h1
  rw [decide_eq_true hn, Bool.true_and] at h1
  have h2 := List.any_eq_false.1 (by simpa using h1) v hv
  unfold usedV at h2
  simp [e] at h2
  omega
theorem insert_right {g : HistD} {t : TxD} (hs : Small g) (h : (insertH g t).2 = 0) : RightH (insertH g t).1 := by
  unfold insertH at h ⊢
  split at h
  · rename_i h1; exact absurd h h1
  · rename_i h1
    split at h
    · simp at h
    · rename_i h2
      obtain ⟨hr, hrt, hik, hnd, _⟩ := may_ok (by decide) (Decidable.not_not.1 h1)
      rw [if_neg h1, if_neg h2]
      obtain ⟨m1, m2⟩ := rise_new (right_rise hr).1 hik
      refine edit_right (b := true) hr hs.2 m1 ?_ m2 (fun _ => ⟨hrt, hnd⟩) (fun h => by cases h) fun x _ v _ e hv hz => ?_
      · have := hr.1
        rw [List.length_append, List.length_append, List.length_take, List.length_drop]; simp; omega
      · have := (has_find hv hz).1
        rw [e, hik] at this; cases this
theorem amend_right {g : HistD} {t : TxD} (hs : Small g) (h : (amendH g t).2 = 0) : RightH (amendH g t).1 := by
  unfold amendH at h ⊢
  split at h
  · rename_i h1; exact absurd h h1
  · rename_i h1
    split at h
    · simp at h
    · rename_i h2
      obtain ⟨hr, hrt, hik, hnd, _⟩ := may_ok (by decide) (Decidable.not_not.1 h1)
      rw [if_neg h1, if_neg h2]
      obtain ⟨m1, m2⟩ := rise_old (right_rise hr).1 hik
      refine edit_right (b := true) hr hs.2 m1 (by rw [List.length_set]; exact hr.1) m2 (fun _ => ⟨hrt, hnd⟩) (fun h => by cases h) fun x hx v hv e _ _ => ⟨rfl, ?_⟩
      rcases (m2 x).1 hx with ⟨h3, h4⟩ | ⟨rfl, _⟩
      · exact unused (by simpa using h2) h3 h4 hv e
      · exact absurd e (needs_tx hv)
theorem delete_right {g : HistD} {id : Int} (hs : Small g) (h : (deleteH g id).2 = 0) : RightH (deleteH g id).1 := by
  unfold deleteH at h ⊢
  split at h
  · simp at h
  · rename_i h1
    split at h
    · simp at h
    · rename_i h2
      split at h
      · simp at h
      · rename_i h3
        have hr := Decidable.not_not.1 h1
        have hik : isK TxD.id id g.txs = true := by simpa using h2
        have hri := (right_rise hr).1
        rw [if_neg h1, if_neg h2, if_neg h3, ← filter_low (rise_iff.1 hri) hik]
        refine edit_right (b := false) hr hs.2 (rise_iff.2 ((rise_iff.1 hri).filter _)) (Nat.le_trans (List.length_filter_le _ _) hr.1) (fun s => ?_) (fun h => by cases h) (fun _ => rfl) fun x hx v hv e hg hz => ?_
        · rw [List.mem_filter]; simp [noneT]
        · rw [List.mem_filter] at hx
          have h5 := unused (t := noneT id) (by simpa using h3) hx.1 (by simpa [noneT] using hx.2) hv e
          have h6 := (has_find hg hz).2
          have h7 : wcnt (noneT id).ops v.key = 0 := rfl
          rw [h7] at h5
          omega
theorem turned_right {g : HistD} {key : Int} {rule : List Int → List Int × Int} (hp : ∀ l, (rule l).2 = 0 → (rule l).1.Perm l) (h : (turnedH g key rule).2 = 0) : RightH (turnedH g key rule).1 := by
  by_cases hr : RightH g
  · by_cases hg : getO g.orders key = []
    · rw [turn_2 hr hg] at h; simp at h
    · by_cases h3 : (rule (getO g.orders key)).2 = 0
      · have hpp := hp _ h3
        have hne : (rule (getO g.orders key)).1 ≠ [] := fun e => hg (by rw [e] at hpp; exact hpp.symm.eq_nil)
        rw [turn_4 hr hg h3 hne, decide_eq_false hne]
        obtain ⟨h1, h2, h4, h5, h6, h7⟩ := right_iff.1 hr
        refine right_iff.2 ⟨h1, h2, fun t ht => ?_, rise_iff.2 (putGR_rise (rise_iff.1 h5)), fun o ho => ?_, fun k => ?_⟩
        · obtain ⟨g1, g2⟩ := h4 t ht
          exact ⟨g1, g2⟩
        · rcases putGR_mem ho with ⟨rfl, _⟩ | ⟨g1, _⟩
          · exact hne
          · exact h6 o g1
        · show (getO (putGR OrdD.key _ g.orders false) k).Perm _
          rw [getO_put (rise_iff.1 h5)]
          by_cases e : k = key
          · subst e
            rw [if_pos rfl]
            exact hpp.trans (h7 k)
          · rw [if_neg e]; exact h7 k
      · rw [turn_3 hr hg h3] at h; exact absurd h h3
  · rw [turn_1 hr] at h; simp at h
theorem rule_perm {o : OrdD} (l : List Int) (h : (ruleR o l).2 = 0) : (ruleR o l).1.Perm l := by
  unfold ruleR at h ⊢
  split at h
  · rename_i hp; rw [if_pos hp]; exact hp.symm
  · simp at h
/-- Right stays right. -/
theorem do_right {g : HistD} {e : EdD} (hs : Small g) (h : (doH g e).2 = 0) : RightH (doH g e).1 := by
  unfold doH at h ⊢
  by_cases k0 : e.kind = 0
  · rw [if_pos k0] at h ⊢; exact insert_right hs h
  · rw [if_neg k0] at h ⊢
    by_cases k1 : e.kind = 1
    · rw [if_pos k1] at h ⊢; exact delete_right hs h
    · rw [if_neg k1] at h ⊢
      by_cases k2 : e.kind = 2
      · rw [if_pos k2] at h ⊢; exact amend_right hs h
      · rw [if_neg k2] at h ⊢
        by_cases k3 : e.kind = 3
        · rw [if_pos k3] at h ⊢; exact turned_right rule_perm h
        · rw [if_neg k3] at h ⊢
          by_cases k4 : e.kind = 4
          · rw [if_pos k4] at h ⊢; exact turned_right (rule := fun l => moveO l e.t.id e.place) (fun l h => move_perm h) h
          · rw [if_neg k4] at h; simp at h
theorem zero_right : RightH zeroH := by decide +kernel
theorem play_right {l : List EdD} (hl : ∀ e ∈ l, lightE e) : ∀ i, i ≤ l.length → i ≤ 24 → RightH ((l.take i).foldl playStep zeroH)
  | 0, _, _ => zero_right
  | i + 1, hi, h24 => by
    rw [take_nth (by omega), List.foldl_append]
    have h1 := play_right hl i (by omega) (by omega)
    have h2 := (Fit.play hl i (by omega)).small (by omega)
    show RightH (playStep _ _)
    unfold playStep
    split
    · rename_i h3; exact do_right h2 h3
    · exact h1
/-- Who is not named is as it was. -/
theorem do_alone {g : HistD} {e : EdD} (hg : RightH g) (h : (doH g e).2 = 0) {t : TxD} (ht : t ∈ g.txs) (hn : t.id ≠ e.t.id) : findT (doH g e).1.txs t.id = some t := by
  have hri := (right_rise hg).1
  unfold doH at h ⊢
  by_cases k0 : e.kind = 0
  · rw [if_pos k0] at h ⊢
    unfold insertH at h ⊢
    split at h
    · rename_i h1; exact absurd h h1
    · rename_i h1
      split at h
      · simp at h
      · rename_i h2
        obtain ⟨_, _, hik, _, _⟩ := may_ok (by decide) (Decidable.not_not.1 h1)
        rw [if_neg h1, if_neg h2]
        obtain ⟨m1, m2⟩ := rise_new hri hik
        exact find_mem m1 ((m2 t).2 (.inl ⟨ht, hn⟩))
  · rw [if_neg k0] at h ⊢
    by_cases k1 : e.kind = 1
    · rw [if_pos k1] at h ⊢
      unfold deleteH at h ⊢
      split at h
      · simp at h
      · rename_i h1
        split at h
        · simp at h
        · rename_i h2
          split at h
          · simp at h
          · rename_i h3
            have hik : isK TxD.id e.t.id g.txs = true := by simpa using h2
            rw [if_neg h1, if_neg h2, if_neg h3, ← filter_low (rise_iff.1 hri) hik]
            exact find_mem (rise_iff.2 ((rise_iff.1 hri).filter _)) (by rw [List.mem_filter]; exact ⟨ht, by simpa using hn⟩)
    · rw [if_neg k1] at h ⊢
      by_cases k2 : e.kind = 2
      · rw [if_pos k2] at h ⊢
        unfold amendH at h ⊢
        split at h
        · rename_i h1; exact absurd h h1
        · rename_i h1
          split at h
          · simp at h
          · rename_i h2
            obtain ⟨_, _, hik, _, _⟩ := may_ok (by decide) (Decidable.not_not.1 h1)
            rw [if_neg h1, if_neg h2]
            obtain ⟨m1, m2⟩ := rise_old hri hik
            exact find_mem m1 ((m2 t).2 (.inl ⟨ht, hn⟩))
      · rw [if_neg k2] at h ⊢
        have htu : ∀ key rule, (turnedH g key rule).2 = 0 → (turnedH g key rule).1.txs = g.txs := fun key rule h => by
          unfold turnedH at h ⊢
          split at h
          · simp at h
          · rename_i h1
            split at h
            · simp at h
            · rename_i h2
              split at h
              · rename_i h3; exact absurd h h3
              · rename_i h3; rw [if_neg h1, if_neg h2, if_neg h3]
        by_cases k3 : e.kind = 3
        · rw [if_pos k3] at h ⊢
          show findT (turnedH _ _ _).1.txs _ = _
          rw [htu _ _ h]; exact find_mem hri ht
        · rw [if_neg k3] at h ⊢
          by_cases k4 : e.kind = 4
          · rw [if_pos k4] at h ⊢
            show findT (turnedH _ _ _).1.txs _ = _
            rw [htu _ _ h]; exact find_mem hri ht
          · rw [if_neg k4] at h; simp at h
theorem do_len {g : HistD} {e : EdD} (h : (doH g e).2 = 0) (hk : 2 < e.kind) : (doH g e).1.txs.length = g.txs.length := by
  have htu : ∀ key rule, (turnedH g key rule).2 = 0 → (turnedH g key rule).1.txs = g.txs := fun key rule h => by
    unfold turnedH at h ⊢
    split at h
    · simp at h
    · rename_i h1
      split at h
      · simp at h
      · rename_i h2
        split at h
        · rename_i h3; exact absurd h h3
        · rename_i h3; rw [if_neg h1, if_neg h2, if_neg h3]
  unfold doH at h ⊢
  rw [if_neg (by omega), if_neg (by omega), if_neg (by omega)] at h ⊢
  by_cases k3 : e.kind = 3
  · rw [if_pos k3] at h ⊢
    show (turnedH _ _ _).1.txs.length = _
    rw [htu _ _ h]
  · rw [if_neg k3] at h ⊢
    by_cases k4 : e.kind = 4
    · rw [if_pos k4] at h ⊢
      show (turnedH _ _ _).1.txs.length = _
      rw [htu _ _ h]
    · rw [if_neg k4] at h; simp at h
/-- The numbers of a list that another one has, too. -/
def andL (a b : List Int) : List Int := a.filter fun x => decide (x ∈ b)
theorem and_listF {t : TxD} (l : List Int) (k : Int) : andL l (listF t l k) = andL (listF t l k) l := by
  unfold andL
  unfold listF
  split
  · unfold withO
    split
    · rfl
    · rename_i hi
      have e1 : l.filter (fun x => decide (x ∈ l ++ [t.id])) = l := List.filter_eq_self.2 fun x hx => by simp [hx]
      have e2 : (l ++ [t.id]).filter (fun x => decide (x ∈ l)) = l := by
        rw [List.filter_append, List.filter_cons_of_neg (by simpa using hi), List.filter_nil, List.append_nil]
        exact List.filter_eq_self.2 fun x hx => by simpa using hx
      rw [e1, e2]
  · unfold withoutO
    rw [List.filter_eq_self (l := l.filter _) |>.2 fun x hx => by simpa using (List.mem_filter.1 hx).1]
    refine List.filter_congr fun x hx => ?_
    simp [hx]
theorem do_common {g : HistD} {e : EdD} (hg : RightH g) (h : (doH g e).2 = 0) (hk : ¬ 2 < e.kind) (key : Int) : andL (getO g.orders key) (getO (doH g e).1.orders key) = andL (getO (doH g e).1.orders key) (getO g.orders key) := by
  have hr2 := (right_rise hg).2
  have hst : ∀ t, andL (getO g.orders key) (getO (settleO t g.orders) key) = andL (getO (settleO t g.orders) key) (getO g.orders key) := fun t => by rw [settle_get hr2]; exact and_listF _ _
  unfold doH at h ⊢
  by_cases k0 : e.kind = 0
  · rw [if_pos k0] at h ⊢
    unfold insertH at h ⊢
    split at h
    · rename_i h1; exact absurd h h1
    · rename_i h1
      split at h
      · simp at h
      · rename_i h2; rw [if_neg h1, if_neg h2]; exact hst _
  · rw [if_neg k0] at h ⊢
    by_cases k1 : e.kind = 1
    · rw [if_pos k1] at h ⊢
      unfold deleteH at h ⊢
      split at h
      · simp at h
      · rename_i h1
        split at h
        · simp at h
        · rename_i h2
          split at h
          · simp at h
          · rename_i h3; rw [if_neg h1, if_neg h2, if_neg h3]; exact hst _
    · rw [if_neg k1] at h ⊢
      by_cases k2 : e.kind = 2
      · rw [if_pos k2] at h ⊢
        unfold amendH at h ⊢
        split at h
        · rename_i h1; exact absurd h h1
        · rename_i h1
          split at h
          · simp at h
          · rename_i h2; rw [if_neg h1, if_neg h2]; exact hst _
      · rw [if_neg k2, if_neg (by omega), if_neg (by omega)] at h; simp at h

theorem and01_c (l m : List Int) (hl : l.length ≤ 1000000) : FnP Tryz.prog 64 [.sl rInt l, .sl rInt m] (.sl rInt (andL l m)) := by
  refine FnP.mk Tryz.func64 rfl Tryz.ntmps64 rfl ?_
  intro B a w F hB hfr hS
  refine wp_seq ?_
  refine region_q hS
    (cF rfl (oN (.c rfl)) trivial trivial
    Chain.nil)
    hB ?_
  clear hS; intro a w F hS
  obtain ⟨F, hS⟩ := hS.nm [4, 1, 0] [0] rfl rfl
  try dsimp only [rHist, rTx, rOrd, rVer, rInt, rOp] at hS
  refine then_n (wp_seq ?_)
  refine region_q hS
    (cF rfl (oN (.c rfl)) trivial trivial
    Chain.nil)
    hB ?_
  clear hS; intro a w F hS
  obtain ⟨F, hS⟩ := hS.nm [5, 4, 1, 0] [0] rfl rfl
  try dsimp only [rHist, rTx, rOrd, rVer, rInt, rOp] at hS
  refine then_n (wp_seq (wp_seq ?_))
  refine region_q hS
    (cF rfl (oM .t) r1 trivial
    (cF rfl (o_len_sl Tryz.underlying37 .t) r1 trivial
    (cF rfl (oM (.ci (by kernel_rfl))) trivial trivial
    Chain.nil)))
    hB ?_
  clear hS; intro a w F hS
  obtain ⟨F, hS⟩ := hS.nm [10, 9, 8, 5, 4, 1] [0] rfl rfl
  try dsimp only [rHist, rTx, rOrd, rVer, rInt, rOp] at hS
  refine then_n (wp_block ?_)
  replace hS := hS.fresh 50 rfl
  replace hS := hS.turn 50 rfl (nilRow (T := 3) (sz := 1) (R := rInt))
  refine loop_keep (σ := (Nat) × (Value) × (List Int)) [1, 4, 8, 9] [0] (fun s => [(10, .pv (.int .i64 (s.1 : Int))), (5, .pv (.is s.2.1))]) (fun s => [(50, .ob (.val s.2.1) (rowH 3 1 rInt s.2.2))]) (fun s => s.1 ≤ l.length ∧ (s.2.2 = andL (l.take s.1) m)) (fun s => l.length - s.1) ((0), (.slice none 0 0), ([])) hS ⟨rfl, rfl, rfl, rfl, rfl, rfl, trivial⟩ ⟨rfl, rfl, trivial⟩ ⟨Nat.zero_le _, rfl⟩ ?_
  clear hS; intro s a w F hC hS
  obtain ⟨i, v, out⟩ := s
  try dsimp only at hC
  obtain ⟨F, hS⟩ := hS.nm [10, 9, 8, 5, 4, 1] [50, 0] rfl rfl
  try dsimp only at hS
  obtain ⟨hi, hq⟩ := hC
  have hol : out.length ≤ i := by rw [hq]; exact Nat.le_trans (List.length_filter_le _ _) (by rw [List.length_take]; omega)
  refine wp_seq ?_
  refine region_q hS
    (cF rfl (o_lss .t .t) r2 trivial
    Chain.nil)
    hB ?_
  clear hS; intro a w F hS
  obtain ⟨F, hS⟩ := hS.nm [11, 10, 9, 8, 5, 4, 1] [50, 0] rfl rfl
  try dsimp only [rHist, rTx, rOrd, rVer, rInt, rOp] at hS
  refine then_n (wp_seq ?_)
  refine cond_b hS rfl (fun hc0 => ?_) (fun hc0 => ?_)
  ·skip
   have hil : i < l.length := by simp at hc0; omega
   refine wp_skip (then_n (wp_seq (wp_block (wp_seq ?_))))
   refine region_q hS
     (cF rfl (o_indexAddr_sl (sz := 1) (.mk Tryz.underlying37 (by kernel_rfl)) (by intro x; rfl) .t .t (by omega) (by omega)) r2 trivial
     (cF rfl (oR false 1 .t) r1 trivial
     (cF rfl (oN .t) r1 trivial
     Chain.nil)))
     hB ?_
   clear hS; intro a w F hS
   obtain ⟨F, hS⟩ := hS.nm [13, 12, 11, 10, 9, 8, 7, 5, 4, 1] [50, 0] rfl rfl
   try dsimp only [List.map, xD, xE, xT, xU, ldSF, rHist, rTx, rOrd, rVer, rInt, rOp] at hS
   try simp only [Int.toNat_natCast] at hS
   refine then_n (wp_seq ?_)
   refine region_q hS
     (cF rfl (oM .t) r1 trivial
     (cF rfl (oM .t) r1 trivial
     (cF rfl (oP (in_c m (Go.Gm.nth l i)) Tryz.func95 (Args.two .t .t)) r2 trivial
     Chain.nil)))
     hB ?_
   clear hS; intro a w F hS
   obtain ⟨F, hS⟩ := hS.nm [16, 15, 14, 13, 12, 11, 10, 9, 8, 7, 5, 4, 1] [50, 0] rfl rfl
   try dsimp only [rHist, rTx, rOrd, rVer, rInt, rOp] at hS
   refine then_n ?_
   refine cond_b hS rfl (fun hc1 => ?_) (fun hc1 => ?_)
   ·skip
    have hst9 : out ++ [(Go.Gm.nth l i)] = andL (l.take (i + 1)) m := by unfold andL at hq ⊢; rw [take_nth hil, List.filter_append, ← hq, List.filter_cons_of_pos (by simpa using hc1)]; rfl
    refine region_q hS
      (cF rfl (oM .t) r1 trivial
      (cF rfl (oM .t) r1 trivial
      (cF rfl (o_buildSliceE (sz := 1) (zs := [.int .i64 0]) (r := [(0, .tmp 18)]) (l := [_]) Tryz.underlying37 (by kernel_rfl) (by kernel_rfl) (by kernel_rfl) (by kernel_rfl) rfl rfl (.one rfl .t one_int (by kernel_rfl) .nil) rfl) r1 trivial
      (cF rfl (o_append (sz := 1) (bs := 8) 50 (.mk' Tryz.underlying37 (by kernel_rfl) (by kernel_rfl)) (by intro x; rfl) .is (.arr (l' := [(Go.Gm.nth l i)]) .t) (by simp only [List.length_append, List.length_cons, List.length_nil]; omega) (by decide)) ⟨rfl, rfl, trivial⟩ ⟨rfl, trivial⟩
      (cF rfl (oN .t) r1 trivial
      Chain.nil)))))
      hB ?_
    clear hS; intro a w F hS
    replace hS := hS.sub
    obtain ⟨F, hS⟩ := hS.nm [20, 19, 18, 17, 16, 15, 14, 13, 12, 11, 10, 9, 8, 7, 5, 4, 1] [50, 0] rfl rfl
    try dsimp only [RS.sub, SF.sub, CF.sub, csub, Anc.sub, List.map, stCells, xL, xM, Nat.reduceAdd, xD, xE, xT, xU, xC, xN, zCF, rHist, rTx, rOrd, rVer, rInt, rOp] at hS
    generalize Act.tau a 20 = v20 at hS
    refine block_n (then_n ?_)
    refine region_q hS
      (cF rfl (o_add .t (.ci (by kernel_rfl))) r1 trivial
      (cF rfl (oM .t) r1 trivial
      Chain.nil))
      hB ?_
    clear hS; intro a w F hS
    obtain ⟨F, hS⟩ := hS.nm [21, 20, 19, 18, 17, 16, 15, 14, 13, 12, 11, 10, 9, 8, 7, 5, 4, 1] [50, 0] rfl rfl
    try dsimp only [rHist, rTx, rOrd, rVer, rInt, rOp] at hS
    refine then_n ?_
    replace hS := hS.ent (i := 10) (s' := .pv (.int .i64 ((i + 1 : Nat) : Int))) rfl (.int (wrap_succ (by omega)))
    obtain ⟨F, hS⟩ := hS.nm [9, 8, 4, 1, 5, 10] [0, 50] rfl rfl
    exact ⟨((i + 1), _, _), F, ⟨by omega, hst9⟩, hS, by omega⟩
   have hst9 : out = andL (l.take (i + 1)) m := by unfold andL at hq ⊢; rw [take_nth hil, List.filter_append, ← hq, List.filter_cons_of_neg (by simpa using hc1), List.filter_nil, List.append_nil]
   refine wp_skip (block_n (then_n ?_))
   refine region_q hS
     (cF rfl (o_add .t (.ci (by kernel_rfl))) r1 trivial
     (cF rfl (oM .t) r1 trivial
     Chain.nil))
     hB ?_
   clear hS; intro a w F hS
   obtain ⟨F, hS⟩ := hS.nm [21, 16, 15, 14, 13, 12, 11, 10, 9, 8, 7, 5, 4, 1] [50, 0] rfl rfl
   try dsimp only [rHist, rTx, rOrd, rVer, rInt, rOp] at hS
   refine then_n ?_
   replace hS := hS.ent (i := 10) (s' := .pv (.int .i64 ((i + 1 : Nat) : Int))) rfl (.int (wrap_succ (by omega)))
   obtain ⟨F, hS⟩ := hS.nm [9, 8, 4, 1, 5, 10] [0, 50] rfl rfl
   exact ⟨((i + 1), _, _), F, ⟨by omega, hst9⟩, hS, by omega⟩
  have hil : i = l.length := by simp at hc0; omega
  refine wp_exit (then_x (then_x (block_x (then_n (wp_seq ?_)))))
  refine region_q hS
    (cF rfl (oM .t) r1 trivial
    (cF rfl (oN .t) r1 trivial
    Chain.nil))
    hB ?_
  clear hS; intro a w F hS
  obtain ⟨F, hS⟩ := hS.nm [4] [50, 0] rfl rfl
  try dsimp only [rHist, rTx, rOrd, rVer, rInt, rOp] at hS
  refine then_n (wp_ret ?_)
  obtain ⟨F, hS⟩ := hS.give 50 4 rfl rfl
  refine ret_P hfr hS rfl (.tmp rfl .nil) (.one (.sl (by rw [hq, hil, List.take_length])))

theorem common_c (l m : List Int) (hl : l.length ≤ 1000000) : FnP Tryz.prog 28 [.sl rInt l, .sl rInt m] (.sl rInt (andL l m)) := by
  refine FnP.mk Tryz.func28 rfl Tryz.ntmps28 rfl ?_
  intro B a w F hB hfr hS
  refine wp_seq ?_
  refine region_q hS
    (cF rfl (oN (.c rfl)) trivial trivial
    Chain.nil)
    hB ?_
  clear hS; intro a w F hS
  obtain ⟨F, hS⟩ := hS.nm [4, 1, 0] [0] rfl rfl
  try dsimp only [rHist, rTx, rOrd, rVer, rInt, rOp] at hS
  refine then_n (wp_seq ?_)
  refine region_q hS
    (cF rfl (oM .t) r1 trivial
    (cF rfl (oM .t) r1 trivial
    (cF rfl (oP (and01_c l m hl) Tryz.func64 (Args.two .t .t)) r2 trivial
    (cF rfl (oN .t) r1 trivial
    Chain.nil))))
    hB ?_
  clear hS; intro a w F hS
  obtain ⟨F, hS⟩ := hS.nm [4] [0] rfl rfl
  try dsimp only [rHist, rTx, rOrd, rVer, rInt, rOp] at hS
  refine then_n (wp_ret ?_)
  refine ret_P hfr hS rfl (.tmp rfl .nil) (.one .refl)

theorem historyAlone_c (l : List EdD) (e : EdD) (key : Int) : FnP Tryz.prog 6 [.sl rEd l, .agg (rEd e), .int .i64 key] (.bool true) := by
  refine FnP.mk Tryz.func6 rfl Tryz.ntmps6 rfl ?_
  intro B a w F hB hfr hS
  refine wp_seq ?_
  refine region_q hS
    (cF rfl (oX 101 (.conv .t .agg)) r1 trivial
    (cF rfl (oN .cb) trivial trivial
    Chain.nil))
    hB ?_
  clear hS; intro a w F hS
  replace hS := hS.sub
  obtain ⟨F, hS⟩ := hS.nm [6, 4, 2, 0] [101, 0] rfl rfl
  try dsimp only [RS.sub, SF.sub, CF.sub, csub, Anc.sub, List.map, zCF, rHist, rTx, rOrd, rVer, rInt, rOp, rEd] at hS
  generalize Act.tau a 4 = v4 at hS
  refine then_n (wp_seq (wp_seq ?_))
  refine region_q hS
    (cF rfl (oP (lives12_c) Tryz.func8 Args.nil) trivial trivial
    (cF rfl (o_not .t) r1 trivial
    Chain.nil))
    hB ?_
  clear hS; intro a w F hS
  obtain ⟨F, hS⟩ := hS.nm [17, 6, 4, 2, 0] [101, 0] rfl rfl
  try dsimp only [rHist, rTx, rOrd, rVer, rInt, rOp, rEd] at hS
  refine then_n ?_
  refine cond_b hS rfl (fun hc0 => ?_) (fun hc0 => ?_)
  ·skip
   simp at hc0
  refine wp_skip (then_n (wp_seq (wp_seq ?_)))
  refine region_q hS
    (cF rfl (oM .t) r1 trivial
    (cF rfl (oP (lightL_c l) Tryz.func23 (Args.one .t)) r1 trivial
    (cF rfl (o_not .t) r1 trivial
    (cF rfl (oM .t) r1 trivial
    (Chain.cons (Cert.cond rfl rfl (fun h => o_load (ag := true) (sz := 7) 101 .is (by kernel_rfl) (by kernel_rfl) (by kernel_rfl) (by rfl))) r2 r1
    (Chain.cons (Cert.cond rfl rfl (fun h => o_callP (lightE_c e) Tryz.func26 rfl (by kernel_rfl) (Args.one (.pagg (.w h))))) r2 trivial
    (Chain.cons (Cert.cond rfl rfl (fun h => o_not (.w h))) r2 trivial
    (cF rfl (o_or2 .t .t) r2 trivial
    Chain.nil))))))))
    hB ?_
  clear hS; intro a w F hS
  obtain ⟨F, hS⟩ := hS.nm [25, 6, 4, 2, 0] [101, 0] rfl rfl
  try dsimp only [List.map, xD, xE, xT, xU, ldSF, rHist, rTx, rOrd, rVer, rInt, rOp, rEd] at hS
  refine then_n ?_
  refine cond_b hS rfl (fun hc1 => ?_) (fun hc1 => ?_)
  ·skip
   refine wp_seq ?_
   refine region_q hS
     (cF rfl (oN .cb) trivial trivial
     Chain.nil)
     hB ?_
   clear hS; intro a w F hS
   obtain ⟨F, hS⟩ := hS.nm [6, 4, 2, 0] [101, 0] rfl rfl
   try dsimp only [rHist, rTx, rOrd, rVer, rInt, rOp, rEd] at hS
   refine then_n (wp_ret (then_r ?_))
   refine ret_P hfr hS rfl (.tmp rfl .nil) (.one (.bool (by first | rfl | simp [hdl] | simp [hdc])))
  have hl : lightL l := by simp at hc1; exact hc1.1
  have he : lightE e := by simp at hc1; exact hc1.2
  have hfp : Fit l.length (playH l) := by have := Fit.play hl.2 l.length (Nat.le_refl _); rwa [List.take_length] at this
  have hsm := hfp.small (by have := hl.1; omega)
  have hrp : RightH (playH l) := by have := play_right hl.2 l.length (Nat.le_refl _) hl.1; rwa [List.take_length] at this
  have hsx : Small (doH (playH l) e).1 := (hfp.doH he).small (by have := hl.1; omega)
  have hpl := hsm.1.1
  refine wp_skip (then_n (wp_seq ?_))
  refine region_q hS
    (cF rfl (oM .t) r1 trivial
    (cF rfl (oP (play_c l hl) Tryz.func27 (Args.one .t)) r1 trivial
    (cF rfl (oH [.slice none 0 0, .slice none 0 0] 102) trivial trivial
    (cF rfl (oA 2 102 .same (.conv .t .agg)) r2 r1
    Chain.nil))))
    hB ?_
  clear hS; intro a w F hS
  replace hS := hS.sub
  obtain ⟨F, hS⟩ := hS.nm [7, 6, 4, 2] [102, 101, 0] rfl rfl
  try dsimp only [RS.sub, SF.sub, CF.sub, csub, Anc.sub, List.map, stCells, xL, xM, Nat.reduceAdd, xD, xE, xT, xU, xC, xN, zCF, rHist, rTx, rOrd, rVer, rInt, rOp, rEd] at hS
  generalize Act.tau a 7 = v7 at hS
  refine then_n (wp_seq ?_)
  refine region_q hS
    (cF rfl (oL true 2 102 .is) r1 r1
    (cF rfl (oL true 7 101 .is) r1 r1
    (cF rfl (oP (hDo_c (playH l) e hsm he) Tryz.func24 (Args.two (.pagg .t) (.pagg .t))) r2 trivial
    (cF rfl (oM .t) r1 trivial
    (cF rfl (o_extract .t rfl) r1 trivial
    (cF rfl (o_extract .t rfl) r1 trivial
    (cF rfl (oH [.slice none 0 0, .slice none 0 0] 103) trivial trivial
    (cF rfl (oA 2 103 .same (.conv .t .agg)) r2 r1
    (cF rfl (oN .t) r1 trivial
    Chain.nil)))))))))
    hB ?_
  clear hS; intro a w F hS
  replace hS := hS.sub
  obtain ⟨F, hS⟩ := hS.nm [9, 8, 7, 6, 4, 2] [103, 102, 101, 0] rfl rfl
  try dsimp only [RS.sub, SF.sub, CF.sub, csub, Anc.sub, List.map, stCells, xL, xM, Nat.reduceAdd, xD, xE, xT, xU, xC, xN, zCF, ldSF, rHist, rTx, rOrd, rVer, rInt, rOp, rEd] at hS
  generalize Act.tau a 8 = v8 at hS
  refine then_n (wp_seq (wp_seq ?_))
  refine region_q hS
    (cF rfl (oM .t) r1 trivial
    (cF rfl (o_neq .t (.ci (by kernel_rfl))) r1 trivial
    Chain.nil))
    hB ?_
  clear hS; intro a w F hS
  obtain ⟨F, hS⟩ := hS.nm [35, 8, 7, 6, 4, 2] [103, 102, 101, 0] rfl rfl
  try dsimp only [rHist, rTx, rOrd, rVer, rInt, rOp, rEd] at hS
  refine then_n ?_
  refine cond_b hS rfl (fun hc2 => ?_) (fun hc2 => ?_)
  ·skip
   refine wp_seq ?_
   refine region_q hS
     (cF rfl (oN .cb) trivial trivial
     Chain.nil)
     hB ?_
   clear hS; intro a w F hS
   obtain ⟨F, hS⟩ := hS.nm [8, 7, 6, 4, 2] [103, 102, 101, 0] rfl rfl
   try dsimp only [rHist, rTx, rOrd, rVer, rInt, rOp, rEd] at hS
   refine then_n (wp_ret (then_r ?_))
   refine ret_P hfr hS rfl (.tmp rfl .nil) (.one (.bool (by first | rfl | simp [hdl] | simp [hdc])))
  have hd0 : (doH (playH l) e).2 = 0 := by simpa using hc2
  refine wp_skip (then_n (wp_seq (wp_seq ?_)))
  refine region_q hS
    (cF rfl (oF 0 102 .is) r1 r1
    (cF rfl (oL false 1 102 .adr) r1 r1
    (cF rfl (o_len_sl Tryz.underlying22 .t) r1 trivial
    (cF rfl (oM (.ci (by kernel_rfl))) trivial trivial
    Chain.nil))))
    hB ?_
  clear hS; intro a w F hS
  obtain ⟨F, hS⟩ := hS.nm [39, 38, 37, 8, 7, 6, 4, 2] [103, 102, 101, 0] rfl rfl
  try dsimp only [List.map, xD, xE, xT, xU, ldSF, rHist, rTx, rOrd, rVer, rInt, rOp, rEd] at hS
  refine then_n (wp_block ?_)
  refine loop_keep (σ := (Nat)) [2, 4, 6, 7, 8, 37, 38] [0, 101, 102, 103] (fun s => [(39, .pv (.int .i64 (s : Int)))]) (fun s => []) (fun s => s ≤ (playH l).txs.length ∧ (True)) (fun s => (playH l).txs.length - s) (0) hS ⟨rfl, rfl, rfl, rfl, rfl, rfl, rfl, rfl, trivial⟩ ⟨rfl, rfl, rfl, rfl, trivial⟩ ⟨Nat.zero_le _, trivial⟩ ?_
  clear hS; intro i a w F hC hS
  try dsimp only at hC
  obtain ⟨F, hS⟩ := hS.nm [39, 38, 37, 8, 7, 6, 4, 2] [103, 102, 101, 0] rfl rfl
  try dsimp only at hS
  obtain ⟨hi, hq⟩ := hC
  refine wp_seq ?_
  refine region_q hS
    (cF rfl (o_lss .t .t) r2 trivial
    Chain.nil)
    hB ?_
  clear hS; intro a w F hS
  obtain ⟨F, hS⟩ := hS.nm [40, 39, 38, 37, 8, 7, 6, 4, 2] [103, 102, 101, 0] rfl rfl
  try dsimp only [rHist, rTx, rOrd, rVer, rInt, rOp, rEd] at hS
  refine then_n (wp_seq ?_)
  refine cond_b hS rfl (fun hc3 => ?_) (fun hc3 => ?_)
  ·skip
   have hil : i < (playH l).txs.length := by simp at hc3; omega
   have hio := hil
   refine wp_skip (then_n (wp_seq (wp_block (wp_seq ?_))))
   refine region_q hS
     (cF rfl (o_indexAddr_sl (sz := 3) (.mk Tryz.underlying22 (by kernel_rfl)) (by intro x; rfl) .t .t (by omega) (by omega)) r2 trivial
     (cF rfl (oR true 3 .t) r1 trivial
     (cF rfl (oH [.int .i64 0, .bool false, .slice none 0 0] 104) trivial trivial
     (cF rfl (oA 3 104 .same .t) r2 r1
     Chain.nil))))
     hB ?_
   clear hS; intro a w F hS
   replace hS := hS.sub
   obtain ⟨F, hS⟩ := hS.nm [42, 41, 40, 39, 38, 37, 11, 8, 7, 6, 4, 2] [104, 103, 102, 101, 0] rfl rfl
   try dsimp only [RS.sub, SF.sub, CF.sub, csub, Anc.sub, List.map, stCells, xL, xM, Nat.reduceAdd, xD, xE, xT, xU, xC, xN, zCF, ldSF, rHist, rTx, rOrd, rVer, rInt, rOp, rEd] at hS
   generalize Act.tau a 11 = v11 at hS
   try simp only [Int.toNat_natCast] at hS
   refine then_n (wp_seq ?_)
   refine region_q hS
     (cF rfl (oL true 2 103 .is) r1 r1
     (cF rfl (oF 0 104 .is) r1 r1
     (cF rfl (oL false 1 104 .adr) r1 r1
     (cF rfl (oP (find_c (doH (playH l) e).1 (Go.Gm.nth (playH l).txs i).id hsx.1) Tryz.func9 (Args.two (.pagg .t) .t)) r2 trivial
     (cF rfl (oM .t) r1 trivial
     (cF rfl (o_extract .t rfl) r1 trivial
     (cF rfl (o_extract .t rfl) r1 trivial
     (cF rfl (oH [.int .i64 0, .bool false, .slice none 0 0] 105) trivial trivial
     (cF rfl (oA 3 105 .same (.conv .t .agg)) r2 r1
     (cF rfl (oN .t) r1 trivial
     Chain.nil))))))))))
     hB ?_
   clear hS; intro a w F hS
   replace hS := hS.sub
   obtain ⟨F, hS⟩ := hS.nm [49, 48, 47, 46, 45, 44, 43, 42, 41, 40, 39, 38, 37, 13, 12, 11, 8, 7, 6, 4, 2] [105, 104, 103, 102, 101, 0] rfl rfl
   try dsimp only [RS.sub, SF.sub, CF.sub, csub, Anc.sub, List.map, stCells, xL, xM, Nat.reduceAdd, xD, xE, xT, xU, xC, xN, zCF, ldSF, rHist, rTx, rOrd, rVer, rInt, rOp, rEd] at hS
   generalize Act.tau a 12 = v12 at hS
   refine then_n (wp_seq ?_)
   refine region_q hS
     (cF rfl (oF 0 104 .is) r1 r1
     (cF rfl (oL false 1 104 .adr) r1 r1
     (cF rfl (oF 1 101 .is) r1 r1
     (cF rfl (oF 0 101 .adr) r1 r1
     (cF rfl (oL false 1 101 .adr) r1 r1
     (cF rfl (o_neq .t .t) r2 trivial
     (cF rfl (oM .t) r1 trivial
     (Chain.cons (Cert.cond rfl rfl (fun h => o_move .t (by rfl))) r2 trivial
     (Chain.cons (Cert.cond rfl rfl (fun h => o_not (.w h))) r2 trivial
     (Chain.cons (Cert.cond rfl rfl (fun h => o_move (.w h) (by rfl))) r2 trivial
     (Chain.cons (Cert.cond2 rfl rfl (fun h => o_load (ag := true) (sz := 3) 104 .is (by kernel_rfl) (by kernel_rfl) (by kernel_rfl) (by rfl))) r2 r1
     (Chain.cons (Cert.cond2 rfl rfl (fun h => o_load (ag := true) (sz := 3) 105 .is (by kernel_rfl) (by kernel_rfl) (by kernel_rfl) (by rfl))) r2 r1
     (Chain.cons (Cert.cond2 rfl rfl (fun h => o_callP (refTxSame_c _ _) Tryz.func11 rfl (by kernel_rfl) (Args.two (.pagg (.w h)) (.pagg (.w h))))) r3 trivial
     (Chain.cons (Cert.cond2 rfl rfl (fun h => o_not (.w h))) r2 trivial
     (Chain.cons (Cert.cond rfl rfl (fun h => o_or2 (.w h) (.wc h))) r3 trivial
     (cF rfl (o_and2 .t .t) r2 trivial
     Chain.nil))))))))))))))))
     hB ?_
   clear hS; intro a w F hS
   obtain ⟨F, hS⟩ := hS.nm [65, 64, 63, 62, 61, 60, 59, 58, 57, 56, 55, 54, 53, 52, 51, 50, 49, 48, 47, 46, 45, 44, 43, 42, 41, 40, 39, 38, 37, 13, 12, 11, 8, 7, 6, 4, 2] [105, 104, 103, 102, 101, 0] rfl rfl
   try dsimp only [List.map, xD, xE, xT, xU, ldSF, rHist, rTx, rOrd, rVer, rInt, rOp, rEd] at hS
   refine then_n ?_
   refine cond_b hS rfl (fun hc4 => ?_) (fun hc4 => ?_)
   ·skip
    by_cases hne : (Go.Gm.nth (playH l).txs i).id ≠ e.t.id
    · have hfi := do_alone hrp hd0 (nth_mem hio) hne
      simp [hfi] at hc4
    · simp at hc4
      exact absurd hc4.1 hne
   refine wp_skip (block_n (then_n ?_))
   refine region_q hS
     (cF rfl (o_add .t (.ci (by kernel_rfl))) r1 trivial
     (cF rfl (oM .t) r1 trivial
     Chain.nil))
     hB ?_
   clear hS; intro a w F hS
   obtain ⟨F, hS⟩ := hS.nm [66, 65, 64, 63, 62, 61, 60, 59, 58, 57, 56, 55, 54, 53, 52, 51, 50, 49, 48, 47, 46, 45, 44, 43, 42, 41, 40, 39, 38, 37, 13, 12, 11, 8, 7, 6, 4, 2] [105, 104, 103, 102, 101, 0] rfl rfl
   try dsimp only [rHist, rTx, rOrd, rVer, rInt, rOp, rEd] at hS
   refine then_n ?_
   replace hS := hS.ent (i := 39) (s' := .pv (.int .i64 ((i + 1 : Nat) : Int))) rfl (.int (wrap_succ (by omega)))
   obtain ⟨F, hS⟩ := hS.nm [38, 37, 8, 7, 6, 4, 2, 39] [103, 102, 101, 0] rfl rfl
   exact ⟨(i + 1), F, ⟨by omega, trivial⟩, hS, by omega⟩
  have hil : i = (playH l).txs.length := by simp at hc3; omega
  refine wp_exit (then_x (then_x (block_x (then_n (wp_seq (wp_seq ?_))))))
  refine region_q hS
    (cF rfl (oF 0 101 .is) r1 r1
    (cF rfl (oL false 1 101 .adr) r1 r1
    (cF rfl (o_gtr .t (.ci (by kernel_rfl))) r1 trivial
    Chain.nil)))
    hB ?_
  clear hS; intro a w F hS
  obtain ⟨F, hS⟩ := hS.nm [69, 8, 7, 6, 2] [103, 102, 101, 0] rfl rfl
  try dsimp only [List.map, xD, xE, xT, xU, ldSF, rHist, rTx, rOrd, rVer, rInt, rOp, rEd] at hS
  refine then_n ?_
  refine cond_b hS rfl (fun hc5 => ?_) (fun hc5 => ?_)
  ·skip
   have hdl := do_len hd0 (by simpa using hc5)
   refine wp_seq ?_
   refine region_q hS
     (cF rfl (oF 0 103 .is) r1 r1
     (cF rfl (oL false 1 103 .adr) r1 r1
     (cF rfl (o_len_sl Tryz.underlying22 .t) r1 trivial
     (cF rfl (oF 0 102 .is) r1 r1
     (cF rfl (oL false 1 102 .adr) r1 r1
     (cF rfl (o_len_sl Tryz.underlying22 .t) r1 trivial
     (cF rfl (o_eql .t .t) r2 trivial
     (cF rfl (oN .t) r1 trivial
     Chain.nil))))))))
     hB ?_
   clear hS; intro a w F hS
   obtain ⟨F, hS⟩ := hS.nm [8, 7, 6, 2] [103, 102, 101, 0] rfl rfl
   try dsimp only [List.map, xD, xE, xT, xU, ldSF, rHist, rTx, rOrd, rVer, rInt, rOp, rEd] at hS
   refine then_n (wp_ret (then_r ?_))
   refine ret_P hfr hS rfl (.tmp rfl .nil) (.one (.bool (by first | rfl | simp [hdl] | simp [hdc])))
  have hdc := do_common hrp hd0 (by simpa using hc5) key
  refine wp_skip (then_n (wp_seq ?_))
  refine region_any (by kernel_rfl) hS (by kernel_rfl)
    (cF rfl (oL true 2 102 .is) r1 r1
    (cF rfl (oM .t) r1 trivial
    (cF rfl (oP (hOrder_c (playH l) key hsm.2) Tryz.func15 (Args.two (.pagg .t) .t)) r2 trivial
    (cF rfl (oL true 2 103 .is) r1 r1
    (cF rfl (oM .t) r1 trivial
    (cF rfl (oP (hOrder_c (doH (playH l) e).1 key hsx.2) Tryz.func15 (Args.two (.pagg .t) .t)) r2 trivial
    (cF rfl (oN .t) r1 trivial
    (cF rfl (oN .t) r1 trivial
    Chain.nil))))))))
    (by kernel_rfl) (by rw [hB]; kernel_rfl) ?_
  clear hS; intro a w F hS
  obtain ⟨F, hS⟩ := hS.nm [15, 14, 6] [103, 102, 101, 0] rfl rfl
  try dsimp only [List.map, xD, xE, xT, xU, ldSF, rHist, rTx, rOrd, rVer, rInt, rOp, rEd] at hS
  refine then_n (wp_seq ?_)
  refine region_q hS
    (cF rfl (oM .t) r1 trivial
    (cF rfl (oM .t) r1 trivial
    (cF rfl (oP (common_c _ _ (by have := getO_len hsm.2 key; omega)) Tryz.func28 (Args.two .t .t)) r2 trivial
    (cF rfl (oM .t) r1 trivial
    (cF rfl (oM .t) r1 trivial
    (cF rfl (oP (common_c _ _ (by have := getO_len hsx.2 key; omega)) Tryz.func28 (Args.two .t .t)) r2 trivial
    (cF rfl (oP (sameInts_c _ _) Tryz.func14 (Args.two .t .t)) r2 trivial
    (cF rfl (oN .t) r1 trivial
    Chain.nil))))))))
    hB ?_
  clear hS; intro a w F hS
  obtain ⟨F, hS⟩ := hS.nm [6] [103, 102, 101, 0] rfl rfl
  try dsimp only [rHist, rTx, rOrd, rVer, rInt, rOp, rEd] at hS
  refine then_n (wp_ret ?_)
  refine ret_P hfr hS rfl (.tmp rfl .nil) (.one (.bool (by first | rfl | simp [hdl] | simp [hdc])))

end Go.Proofs.YtpjjmolibanakaaGreat
