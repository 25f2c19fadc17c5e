/- HistoryRight, HistoryAlone. No condition beyond those that each theorem says. -/
import Derived.Test.YtpjjmolibanakaaGreatEdW
namespace Go.Proofs.YtpjjmolibanakaaGreat
open Go Go.Gm
set_option linter.unusedVariables false
set_option linter.unusedSimpArgs false
set_option maxHeartbeats 4000000
set_option maxRecDepth 8000


theorem writers_mem {l : List TxD} {k x : Int} : x ∈ writersH l k ↔ ∃ t ∈ l, t.id = x ∧ t.done = true ∧ 0 < wcnt t.ops k := by
  unfold writersH
  rw [List.mem_map]
  constructor
  · rintro ⟨t, ht, e⟩
    rw [List.mem_filter] at ht
    simp at ht
    exact ⟨t, ht.1, e, ht.2.1, ht.2.2⟩
  · rintro ⟨t, ht, e, h1, h2⟩
    exact ⟨t, by rw [List.mem_filter]; simp [ht, h1, h2], e⟩
theorem writers_nodup {l : List TxD} (h : Rise TxD.id l) (k : Int) : (writersH l k).Nodup := by
  unfold writersH
  have h1 : (l.map TxD.id).Nodup := (List.pairwise_map.2 (rise_iff.1 h)).imp fun h => Int.ne_of_lt h
  exact (h1.sublist ((List.filter_sublist).map _))
theorem find_mem {l : List TxD} (h : Rise TxD.id l) {t : TxD} (ht : t ∈ l) : findT l t.id = some t := by
  have h := rise_iff.1 h
  induction l with
  | nil => cases ht
  | cons x l ih =>
    rw [List.pairwise_cons] at h
    unfold findT
    rw [List.find?_cons]
    rcases List.mem_cons.1 ht with rfl | ht
    · simp
    · have := h.1 t ht
      rw [show decide (x.id = t.id) = false by simp; omega]
      exact ih (rise_iff.2 h.2) ht h.2
theorem find_not {l : List TxD} {id : Int} (h : ∀ t ∈ l, t.id ≠ id) : findT l id = none := by
  unfold findT
  exact List.find?_eq_none.2 fun t ht => by simpa using h t ht
theorem right_iff {g : HistD} : RightH g ↔ g.txs.length ≤ 4096 ∧ Rise TxD.id g.txs ∧ (∀ t ∈ g.txs, rightT t = 0 ∧ needsH g t = true) ∧ Rise OrdD.key g.orders ∧ NE g.orders ∧ ∀ k, (getO g.orders k).Perm (writersH g.txs k) := by
  constructor
  · intro h
    obtain ⟨r1', r2'⟩ := right_rise h
    have hne := right_ne h
    have h2 := (ord_same g).2 h.2.2
    refine ⟨h.1, r1', fun t ht => ?_, r2', hne, fun k => ?_⟩
    · obtain ⟨j, hj, e⟩ := List.getElem_of_mem ht
      have := (h.2.1 j hj).2
      rwa [nth_eq hj, e] at this
    · by_cases hk : getO g.orders k = []
      · rw [hk]
        have hw : writersH g.txs k = [] := by
          refine Decidable.byContradiction fun hw => ?_
          obtain ⟨j, hj, e⟩ := List.getElem_of_mem (keysH_mem.2 hw)
          have hjo : j < g.orders.length := by rw [h.2.2.1]; exact hj
          have h3 := (h.2.2.2 j hjo).1
          rw [nth_eq hj, e] at h3
          have h4 := getO_mem (rise_iff.1 r2') (nth_mem hjo)
          rw [h3, hk] at h4
          exact hne _ (nth_mem hjo) h4.symm
        rw [hw]
      · have hm := getO_in hk
        obtain ⟨j, hj, e⟩ := List.getElem_of_mem hm
        have := (h2.2 j hj).2.2
        rw [nth_eq hj, e] at this
        exact this
  · rintro ⟨h1, h2, h3, h4, h5, h6⟩
    have hk : g.orders.map OrdD.key = keysH g.txs := by
      refine inc_unique (List.pairwise_map.2 (rise_iff.1 h4)) (keysL_inc _).1 fun k => ?_
      rw [keysH_mem, List.mem_map]
      constructor
      · rintro ⟨o, ho, rfl⟩ e
        have := h6 o.key
        rw [e, getO_mem (rise_iff.1 h4) ho] at this
        exact h5 o ho this.eq_nil
      · intro e
        have : getO g.orders k ≠ [] := fun e2 => by
          have := h6 k
          rw [e2] at this
          exact e this.symm.eq_nil
        exact ⟨_, getO_in this, rfl⟩
    have hlen : g.orders.length = (keysH g.txs).length := by rw [← hk, List.length_map]
    refine ⟨h1, fun i hi => ?_, (ord_same g).1 ⟨hlen, fun i hi => ?_⟩⟩
    · obtain ⟨g1, g2⟩ := h3 _ (nth_mem hi)
      exact ⟨fun h0 => h2 (i - 1) i (by omega) hi, g1, g2⟩
    · refine ⟨fun h0 => h4 (i - 1) i (by omega) hi, h5 _ (nth_mem hi), ?_⟩
      have := h6 (Go.Gm.nth g.orders i).key
      rwa [getO_mem (rise_iff.1 h4) (nth_mem hi)] at this
theorem listF_mem {t : TxD} {l : List Int} {k x : Int} : x ∈ listF t l k ↔ (x ∈ l ∧ x ≠ t.id) ∨ (x = t.id ∧ t.done = true ∧ 0 < wcnt t.ops k) := by
  unfold listF
  by_cases h : t.done = true ∧ 0 < wcnt t.ops k
  · rw [if_pos h]
    unfold withO
    split
    · rename_i hi
      constructor
      · intro hx
        by_cases e : x = t.id
        · exact .inr ⟨e, h⟩
        · exact .inl ⟨hx, e⟩
      · rintro (⟨hx, _⟩ | ⟨rfl, _⟩)
        · exact hx
        · exact hi
    · rename_i hi
      rw [List.mem_append, List.mem_singleton]
      constructor
      · rintro (hx | hx)
        · exact .inl ⟨hx, fun e => hi (e ▸ hx)⟩
        · exact .inr ⟨hx, h⟩
      · rintro (⟨hx, _⟩ | ⟨e, _⟩)
        · exact .inl hx
        · exact .inr e
  · rw [if_neg h]
    unfold withoutO
    rw [List.mem_filter, decide_eq_true_eq]
    exact ⟨fun h1 => .inl h1, fun h1 => h1.elim id fun h2 => absurd h2.2 h⟩
theorem listF_nodup {t : TxD} {l : List Int} (h : l.Nodup) (k : Int) : (listF t l k).Nodup := by
  unfold listF
  split
  · unfold withO
    split
    · exact h
    · rename_i hi
      rw [List.nodup_append]
      exact ⟨h, by simp, fun a ha b hb => by rw [List.mem_singleton] at hb; subst hb; exact fun e => hi (e ▸ ha)⟩
  · exact h.filter _
theorem edit_right {g : HistD} {t : TxD} {b : Bool} {l : List TxD} (hR : RightH g) (hs : SmallO g.orders) (hr : Rise TxD.id l) (hl : l.length ≤ 4096) (hM : ∀ s, s ∈ l ↔ (s ∈ g.txs ∧ s.id ≠ t.id) ∨ (s = t ∧ b = true))
    (ht : b = true → rightT t = 0 ∧ needsH g t = true) (hb : b = false → t.done = false)
    (hu : ∀ x ∈ l, ∀ v ∈ needsT x, v.tx = t.id → hasH g v = true → ¬ (v.tx = 0 ∧ v.nth = 0) → b = true ∧ v.nth ≤ (wcnt t.ops v.key : Int)) : RightH ⟨l, settleO t g.orders⟩ := by
  obtain ⟨h1, h2, h3, h4, h5, h6⟩ := right_iff.1 hR
  obtain ⟨s1, s2⟩ := settle_rise (t := t) h4 hs
  have hhas : ∀ x ∈ l, ∀ v ∈ needsT x, hasH g v = true → hasH ⟨l, settleO t g.orders⟩ v = true := by
    intro x hx v hv hg
    by_cases hz : v.tx = 0 ∧ v.nth = 0
    · unfold hasH at hg ⊢
      rw [if_pos hz] at hg ⊢
      exact hg
    · have hu2 := hu x hx v hv
      unfold hasH at hg hu2 ⊢
      rw [if_neg hz] at hg hu2 ⊢
      by_cases e : v.tx = t.id
      · obtain ⟨b1, b2⟩ := hu2 e hg hz
        have hm : t ∈ l := (hM t).2 (.inr ⟨rfl, b1⟩)
        have hf := find_mem hr hm
        simp only [Bool.and_eq_true, decide_eq_true_eq] at hg ⊢
        show _ ∧ _
        rw [e, hf]
        exact ⟨rfl, hg.2.1, b2⟩
      · have hf : findT l v.tx = findT g.txs v.tx := by
          cases hc : findT g.txs v.tx with
          | none =>
            refine find_not fun s hsl es => ?_
            rcases (hM s).1 hsl with ⟨m1, m2⟩ | ⟨rfl, _⟩
            · have := find_mem h2 m1
              rw [es, hc] at this; cases this
            · exact e es.symm
          | some s =>
            obtain ⟨m1, m2⟩ := findT_mem hc
            have hm : s ∈ l := (hM s).2 (.inl ⟨m1, by rw [m2]; exact e⟩)
            have := find_mem hr hm
            rwa [m2] at this
        show (((findT l v.tx).isSome && _) : Bool) = true
        rw [hf]; exact hg
  refine right_iff.2 ⟨hl, hr, fun x hx => ?_, rise_iff.2 s1, s2, fun k => ?_⟩
  · have hx2 : rightT x = 0 ∧ needsH g x = true := by
      rcases (hM x).1 hx with ⟨m1, _⟩ | ⟨rfl, b1⟩
      · exact h3 x m1
      · exact ht b1
    refine ⟨hx2.1, ?_⟩
    have h7 := hx2.2
    unfold needsH at h7 ⊢
    rw [List.all_eq_true] at h7 ⊢
    exact fun v hv => hhas x hx v hv (h7 v hv)
  · rw [settle_get h4 k]
    have hn : (getO g.orders k).Nodup := (h6 k).symm.nodup (writers_nodup h2 k)
    refine (List.perm_ext_iff_of_nodup (listF_nodup hn k) (writers_nodup hr k)).2 fun x => ?_
    rw [listF_mem, writers_mem, (h6 k).mem_iff, writers_mem]
    constructor
    · rintro (⟨⟨s, m1, m2, m3, m4⟩, m5⟩ | ⟨rfl, m3, m4⟩)
      · exact ⟨s, (hM s).2 (.inl ⟨m1, by rw [m2]; exact m5⟩), m2, m3, m4⟩
      · refine ⟨t, (hM t).2 (.inr ⟨rfl, ?_⟩), rfl, m3, m4⟩
        cases b with
        | true => rfl
        | false => rw [hb rfl] at m3; cases m3
    · rintro ⟨s, m1, m2, m3, m4⟩
      rcases (hM s).1 m1 with ⟨m5, m6⟩ | ⟨rfl, _⟩
      · exact .inl ⟨⟨s, m5, m2, m3, m4⟩, by rw [← m2]; exact m6⟩
      · exact .inr ⟨m2.symm, m3, m4⟩
theorem rise_new {l : List TxD} {t : TxD} (h : Rise TxD.id l) (hk : isK TxD.id t.id l = false) : Rise TxD.id (l.take (lowK TxD.id t.id l) ++ [t] ++ l.drop (lowK TxD.id t.id l)) ∧ ∀ s, s ∈ l.take (lowK TxD.id t.id l) ++ [t] ++ l.drop (lowK TxD.id t.id l) ↔ (s ∈ l ∧ s.id ≠ t.id) ∨ (s = t ∧ true = true) := by
  rw [← putGR_new (rise_iff.1 h) hk]
  refine ⟨rise_iff.2 (putGR_rise (rise_iff.1 h)), fun s => ?_⟩
  rw [putGR_new (rise_iff.1 h) hk, List.mem_append, List.mem_append, List.mem_singleton]
  have hne : ∀ s ∈ l, s.id ≠ t.id := fun s hs e => by
    have := List.any_eq_false.1 hk s hs
    simp at this; exact this e
  constructor
  · rintro ((h1 | h1) | h1)
    · exact .inl ⟨List.mem_of_mem_take h1, hne s (List.mem_of_mem_take h1)⟩
    · exact .inr ⟨h1, rfl⟩
    · exact .inl ⟨List.mem_of_mem_drop h1, hne s (List.mem_of_mem_drop h1)⟩
  · rintro (⟨h1, _⟩ | ⟨h1, _⟩)
    · rw [← List.take_append_drop (lowK TxD.id t.id l) l, List.mem_append] at h1
      rcases h1 with h1 | h1
      · exact .inl (.inl h1)
      · exact .inr h1
    · exact .inl (.inr h1)
theorem rise_old {l : List TxD} {t : TxD} (h : Rise TxD.id l) (hk : isK TxD.id t.id l = true) : Rise TxD.id (l.set (lowK TxD.id t.id l) t) ∧ ∀ s, s ∈ l.set (lowK TxD.id t.id l) t ↔ (s ∈ l ∧ s.id ≠ t.id) ∨ (s = t ∧ true = true) := by
  rw [← putGR_old (rise_iff.1 h) hk]
  refine ⟨rise_iff.2 (putGR_rise (rise_iff.1 h)), fun s => ?_⟩
  constructor
  · intro hs
    rcases putGR_mem hs with ⟨rfl, _⟩ | h1
    · exact .inr ⟨rfl, rfl⟩
    · exact .inl h1
  · have key : ∀ (l : List TxD) (d : Bool), ((s ∈ l ∧ s.id ≠ t.id) ∨ (s = t ∧ d = false)) → s ∈ putGR TxD.id t l d := by
      intro l
      induction l with
      | nil =>
        rintro d (⟨h1, _⟩ | ⟨rfl, h1⟩)
        · cases h1
        · subst h1; simp [putGR]
      | cons x l ih =>
        intro d hx
        rw [putGR, List.mem_append, List.mem_append]
        rcases hx with ⟨h1, h2⟩ | ⟨rfl, h1⟩
        · rcases List.mem_cons.1 h1 with rfl | h1
          · exact .inl (.inr (by rw [if_neg h2]; simp))
          · exact .inr (ih _ (.inl ⟨h1, h2⟩))
        · by_cases hA : s.id ≤ x.id
          · exact .inl (.inl (by rw [if_pos ⟨h1, hA⟩]; simp))
          · exact .inr (ih _ (.inr ⟨rfl, by rw [h1]; simp; omega⟩))
    rintro (h1 | ⟨h1, _⟩)
    · exact key l false (.inl h1)
    · exact key l false (.inr ⟨h1, rfl⟩)
theorem needs_tx {t : TxD} {v : VerD} (h : v ∈ needsT t) : v.tx ≠ t.id := by
  have key : ∀ (l : List OpD) (out : List VerD), (∀ v ∈ out, v.tx ≠ t.id) → ∀ v ∈ l.foldl (needStep t.id) out, v.tx ≠ t.id := by
    intro l
    induction l with
    | nil => intro out h; exact h
    | cons o l ih =>
      intro out h
      refine ih _ fun v hv => ?_
      unfold needStep at hv
      split at hv
      · rename_i hc
        rcases List.mem_append.1 hv with hv | hv
        · exact h v hv
        · have e : v = ofO o := by simpa using hv
          have hn := hc.1
          unfold needO at hn
          simp at hn
          rw [e]
          unfold ofO
          rw [if_pos hn.1.1]
          exact hn.2
      · exact h v hv
  exact key _ _ (fun v hv => by cases hv) v h
theorem has_find {g : HistD} {v : VerD} (h : hasH g v = true) (hz : ¬ (v.tx = 0 ∧ v.nth = 0)) : isK TxD.id v.tx g.txs = true ∧ 1 ≤ v.nth := by
  unfold hasH at h
  rw [if_neg hz, Bool.and_eq_true, Bool.and_eq_true, find_is] at h
  exact ⟨h.1, by simpa using h.2.1⟩
theorem unused {g : HistD} {t x : TxD} {v : VerD} (h : usedH g t = false) (hx : x ∈ g.txs) (hn : x.id ≠ t.id) (hv : v ∈ needsT x) (e : v.tx = t.id) : v.nth ≤ (wcnt t.ops v.key : Int) := by
  have h1 := List.any_eq_false.1 h x hx
  unfold usedX at h1
  rw [decide_eq_true hn, Bool.true_and] at h1
  have h2 := List.any_eq_false.1 (by simpa using h1) v hv
  unfold usedV at h2
  simp [e] at h2
  omega
theorem insert_right {g : HistD} {t : TxD} (hs : Small g) (h : (insertH g t).2 = 0) : RightH (insertH g t).1 := by
  unfold insertH at h ⊢
  split at h
  · rename_i h1; exact absurd h h1
  · rename_i h1
    split at h
    · simp at h
    · rename_i h2
      obtain ⟨hr, hrt, hik, hnd, _⟩ := may_ok (by decide) (Decidable.not_not.1 h1)
      rw [if_neg h1, if_neg h2]
      obtain ⟨m1, m2⟩ := rise_new (right_rise hr).1 hik
      refine edit_right (b := true) hr hs.2 m1 ?_ m2 (fun _ => ⟨hrt, hnd⟩) (fun h => by cases h) fun x _ v _ e hv hz => ?_
      · have := hr.1
        rw [List.length_append, List.length_append, List.length_take, List.length_drop]; simp; omega
      · have := (has_find hv hz).1
        rw [e, hik] at this; cases this
theorem amend_right {g : HistD} {t : TxD} (hs : Small g) (h : (amendH g t).2 = 0) : RightH (amendH g t).1 := by
  unfold amendH at h ⊢
  split at h
  · rename_i h1; exact absurd h h1
  · rename_i h1
    split at h
    · simp at h
    · rename_i h2
      obtain ⟨hr, hrt, hik, hnd, _⟩ := may_ok (by decide) (Decidable.not_not.1 h1)
      rw [if_neg h1, if_neg h2]
      obtain ⟨m1, m2⟩ := rise_old (right_rise hr).1 hik
      refine edit_right (b := true) hr hs.2 m1 (by rw [List.length_set]; exact hr.1) m2 (fun _ => ⟨hrt, hnd⟩) (fun h => by cases h) fun x hx v hv e _ _ => ⟨rfl, ?_⟩
      rcases (m2 x).1 hx with ⟨h3, h4⟩ | ⟨rfl, _⟩
      · exact unused (by simpa using h2) h3 h4 hv e
      · exact absurd e (needs_tx hv)
theorem delete_right {g : HistD} {id : Int} (hs : Small g) (h : (deleteH g id).2 = 0) : RightH (deleteH g id).1 := by
  unfold deleteH at h ⊢
  split at h
  · simp at h
  · rename_i h1
    split at h
    · simp at h
    · rename_i h2
      split at h
      · simp at h
      · rename_i h3
        have hr := Decidable.not_not.1 h1
        have hik : isK TxD.id id g.txs = true := by simpa using h2
        have hri := (right_rise hr).1
        rw [if_neg h1, if_neg h2, if_neg h3, ← filter_low (rise_iff.1 hri) hik]
        refine edit_right (b := false) hr hs.2 (rise_iff.2 ((rise_iff.1 hri).filter _)) (Nat.le_trans (List.length_filter_le _ _) hr.1) (fun s => ?_) (fun h => by cases h) (fun _ => rfl) fun x hx v hv e hg hz => ?_
        · rw [List.mem_filter]; simp [noneT]
        · rw [List.mem_filter] at hx
          have h5 := unused (t := noneT id) (by simpa using h3) hx.1 (by simpa [noneT] using hx.2) hv e
          have h6 := (has_find hg hz).2
          have h7 : wcnt (noneT id).ops v.key = 0 := rfl
          rw [h7] at h5
          omega
theorem turned_right {g : HistD} {key : Int} {rule : List Int → List Int × Int} (hp : ∀ l, (rule l).2 = 0 → (rule l).1.Perm l) (h : (turnedH g key rule).2 = 0) : RightH (turnedH g key rule).1 := by
  by_cases hr : RightH g
  · by_cases hg : getO g.orders key = []
    · rw [turn_2 hr hg] at h; simp at h
    · by_cases h3 : (rule (getO g.orders key)).2 = 0
      · have hpp := hp _ h3
        have hne : (rule (getO g.orders key)).1 ≠ [] := fun e => hg (by rw [e] at hpp; exact hpp.symm.eq_nil)
        rw [turn_4 hr hg h3 hne, decide_eq_false hne]
        obtain ⟨h1, h2, h4, h5, h6, h7⟩ := right_iff.1 hr
        refine right_iff.2 ⟨h1, h2, fun t ht => ?_, rise_iff.2 (putGR_rise (rise_iff.1 h5)), fun o ho => ?_, fun k => ?_⟩
        · obtain ⟨g1, g2⟩ := h4 t ht
          exact ⟨g1, g2⟩
        · rcases putGR_mem ho with ⟨rfl, _⟩ | ⟨g1, _⟩
          · exact hne
          · exact h6 o g1
        · show (getO (putGR OrdD.key _ g.orders false) k).Perm _
          rw [getO_put (rise_iff.1 h5)]
          by_cases e : k = key
          · subst e
            rw [if_pos rfl]
            exact hpp.trans (h7 k)
          · rw [if_neg e]; exact h7 k
      · rw [turn_3 hr hg h3] at h; exact absurd h h3
  · rw [turn_1 hr] at h; simp at h
theorem rule_perm {o : OrdD} (l : List Int) (h : (ruleR o l).2 = 0) : (ruleR o l).1.Perm l := by
  unfold ruleR at h ⊢
  split at h
  · rename_i hp; rw [if_pos hp]; exact hp.symm
  · simp at h
/-- Right stays right. -/
theorem do_right {g : HistD} {e : EdD} (hs : Small g) (h : (doH g e).2 = 0) : RightH (doH g e).1 := by
  unfold doH at h ⊢
  by_cases k0 : e.kind = 0
  · rw [if_pos k0] at h ⊢; exact insert_right hs h
  · rw [if_neg k0] at h ⊢
    by_cases k1 : e.kind = 1
    · rw [if_pos k1] at h ⊢; exact delete_right hs h
    · rw [if_neg k1] at h ⊢
      by_cases k2 : e.kind = 2
      · rw [if_pos k2] at h ⊢; exact amend_right hs h
      · rw [if_neg k2] at h ⊢
        by_cases k3 : e.kind = 3
        · rw [if_pos k3] at h ⊢; exact turned_right rule_perm h
        · rw [if_neg k3] at h ⊢
          by_cases k4 : e.kind = 4
          · rw [if_pos k4] at h ⊢; exact turned_right (rule := fun l => moveO l e.t.id e.place) (fun l h => move_perm h) h
          · rw [if_neg k4] at h; simp at h
theorem turned_zero {g : HistD} {key : Int} {rule : List Int → List Int × Int} (h : (turnedH g key rule).2 ≠ 0) : (turnedH g key rule).1 = zeroH := by
  unfold turnedH at h ⊢
  split
  · rfl
  · split
    · rfl
    · split
      · rfl
      · rename_i h1 h2 h3; rw [if_neg h1, if_neg h2, if_neg h3] at h; exact absurd rfl h
theorem do_zero {g : HistD} {e : EdD} (h : (doH g e).2 ≠ 0) : (doH g e).1 = zeroH := by
  unfold doH at h ⊢
  by_cases k0 : e.kind = 0
  · rw [if_pos k0] at h ⊢
    unfold insertH at h ⊢
    split
    · rfl
    · split
      · rfl
      · rename_i h1 h2; rw [if_neg h1, if_neg h2] at h; exact absurd rfl h
  · rw [if_neg k0] at h ⊢
    by_cases k1 : e.kind = 1
    · rw [if_pos k1] at h ⊢
      unfold deleteH at h ⊢
      split
      · rfl
      · split
        · rfl
        · split
          · rfl
          · rename_i h1 h2 h3; rw [if_neg h1, if_neg h2, if_neg h3] at h; exact absurd rfl h
    · rw [if_neg k1] at h ⊢
      by_cases k2 : e.kind = 2
      · rw [if_pos k2] at h ⊢
        unfold amendH at h ⊢
        split
        · rfl
        · split
          · rfl
          · rename_i h1 h2; rw [if_neg h1, if_neg h2] at h; exact absurd rfl h
      · rw [if_neg k2] at h ⊢
        by_cases k3 : e.kind = 3
        · rw [if_pos k3] at h ⊢; exact turned_zero h
        · rw [if_neg k3] at h ⊢
          by_cases k4 : e.kind = 4
          · rw [if_pos k4] at h ⊢; exact turned_zero h
          · rw [if_neg k4]
theorem historyRight_c (l : List EdD) : FnP Tryz.prog 5 [.sl rEd l] (.bool true) := by
  refine FnP.mk Tryz.func5 rfl Tryz.ntmps5 rfl ?_
  intro B a w F hB hfr hS
  refine wp_seq ?_
  refine region_q hS
    (cF rfl (oN .cb) trivial trivial
    Chain.nil)
    hB ?_
  clear hS; intro a w F hS
  obtain ⟨F, hS⟩ := hS.nm [2, 0] [0] rfl rfl
  try dsimp only [rHist, rTx, rOrd, rVer, rInt, rOp, rEd] at hS
  refine then_n (wp_seq (wp_seq ?_))
  refine region_q hS
    (cF rfl (oP (lives12_c) Tryz.func8 Args.nil) trivial trivial
    (cF rfl (o_not .t) r1 trivial
    Chain.nil))
    hB ?_
  clear hS; intro a w F hS
  obtain ⟨F, hS⟩ := hS.nm [9, 2, 0] [0] rfl rfl
  try dsimp only [rHist, rTx, rOrd, rVer, rInt, rOp, rEd] at hS
  refine then_n ?_
  refine cond_b hS rfl (fun hc0 => ?_) (fun hc0 => ?_)
  ·skip
   simp at hc0
  refine wp_skip (then_n (wp_seq (wp_seq ?_)))
  refine region_q hS
    (cF rfl (oM .t) r1 trivial
    (cF rfl (oP (lightL_c l) Tryz.func23 (Args.one .t)) r1 trivial
    (cF rfl (o_not .t) r1 trivial
    Chain.nil)))
    hB ?_
  clear hS; intro a w F hS
  obtain ⟨F, hS⟩ := hS.nm [12, 2, 0] [0] rfl rfl
  try dsimp only [rHist, rTx, rOrd, rVer, rInt, rOp, rEd] at hS
  refine then_n ?_
  refine cond_b hS rfl (fun hc1 => ?_) (fun hc1 => ?_)
  ·skip
   refine wp_seq ?_
   refine region_q hS
     (cF rfl (oN .cb) trivial trivial
     Chain.nil)
     hB ?_
   clear hS; intro a w F hS
   obtain ⟨F, hS⟩ := hS.nm [2, 0] [0] rfl rfl
   try dsimp only [rHist, rTx, rOrd, rVer, rInt, rOp, rEd] at hS
   refine then_n (wp_ret (then_r ?_))
   refine ret_P hfr hS rfl (.tmp rfl .nil) (.one .refl)
  have hl : lightL l := by simpa using hc1
  have hll := hl.1
  refine wp_skip (then_n (wp_seq ?_))
  refine region_q hS
    (cF rfl (oH [.slice none 0 0, .slice none 0 0] 101) trivial trivial
    Chain.nil)
    hB ?_
  clear hS; intro a w F hS
  replace hS := hS.sub
  obtain ⟨F, hS⟩ := hS.nm [3, 2, 0] [101, 0] rfl rfl
  try dsimp only [RS.sub, SF.sub, CF.sub, csub, Anc.sub, List.map, zCF, rHist, rTx, rOrd, rVer, rInt, rOp, rEd] at hS
  generalize Act.tau a 3 = v3 at hS
  refine then_n (wp_seq (wp_seq ?_))
  refine region_q hS
    (cF rfl (oM .t) r1 trivial
    (cF rfl (o_len_sl Tryz.underlying43 .t) r1 trivial
    (cF rfl (oM (.ci (by kernel_rfl))) trivial trivial
    Chain.nil)))
    hB ?_
  clear hS; intro a w F hS
  obtain ⟨F, hS⟩ := hS.nm [15, 14, 13, 3, 2] [101, 0] rfl rfl
  try dsimp only [rHist, rTx, rOrd, rVer, rInt, rOp, rEd] at hS
  refine then_n (wp_block ?_)
  replace hS := hS.turn 101 rfl (r' := .pt (.val v3) 25 [.pv (.sl rTx ([] : List TxD)), .pv (.sl rOrd ([] : List OrdD))]) (ptLe rfl rfl ⟨PVLe.nilSl, PVLe.nilSl, trivial⟩)
  refine loop_keep (σ := (Nat)) [2, 3, 13, 14] [0] (fun s => [(15, .pv (.int .i64 (s : Int)))]) (fun s => [(101, .pt (.val v3) 25 [.pv (.sl rTx ((l.take s).foldl playStep zeroH).txs), .pv (.sl rOrd ((l.take s).foldl playStep zeroH).orders)])]) (fun s => s ≤ l.length ∧ (True)) (fun s => l.length - s) (0) hS ⟨rfl, rfl, rfl, rfl, rfl, trivial⟩ ⟨rfl, rfl, trivial⟩ ⟨Nat.zero_le _, trivial⟩ ?_
  clear hS; intro i a w F hC hS
  try dsimp only at hC
  obtain ⟨F, hS⟩ := hS.nm [15, 14, 13, 3, 2] [101, 0] rfl rfl
  try dsimp only at hS
  obtain ⟨hi, hq⟩ := hC
  have hfit := fun h => (Fit.play hl.2 i h).small (by have := hl.1; omega)
  refine wp_seq ?_
  refine region_q hS
    (cF rfl (o_lss .t .t) r2 trivial
    Chain.nil)
    hB ?_
  clear hS; intro a w F hS
  obtain ⟨F, hS⟩ := hS.nm [16, 15, 14, 13, 3, 2] [101, 0] rfl rfl
  try dsimp only [rHist, rTx, rOrd, rVer, rInt, rOp, rEd] at hS
  refine then_n (wp_seq ?_)
  refine cond_b hS rfl (fun hc2 => ?_) (fun hc2 => ?_)
  ·skip
   have hil : i < l.length := by simp at hc2; omega
   have hio := hil
   refine wp_skip (then_n (wp_seq (wp_block (wp_seq ?_))))
   refine region_q hS
     (cF rfl (o_indexAddr_sl (sz := 7) (.mk Tryz.underlying43 (by kernel_rfl)) (by intro x; rfl) .t .t (by omega) (by omega)) r2 trivial
     (cF rfl (oR true 7 .t) r1 trivial
     (cF rfl (oH [.int .i64 0, .int .i64 0, .bool false, .slice none 0 0, .int .i64 0, .slice none 0 0, .int .i64 0] 102) trivial trivial
     (cF rfl (oA 7 102 .same .t) r2 r1
     Chain.nil))))
     hB ?_
   clear hS; intro a w F hS
   replace hS := hS.sub
   obtain ⟨F, hS⟩ := hS.nm [18, 17, 16, 15, 14, 13, 5, 3, 2] [102, 101, 0] rfl rfl
   try dsimp only [RS.sub, SF.sub, CF.sub, csub, Anc.sub, List.map, stCells, xL, xM, Nat.reduceAdd, xD, xE, xT, xU, xC, xN, zCF, ldSF, rHist, rTx, rOrd, rVer, rInt, rOp, rEd] at hS
   generalize Act.tau a 5 = v5 at hS
   try simp only [Int.toNat_natCast] at hS
   refine then_n (wp_seq ?_)
   refine region_q hS
     (cF rfl (oL true 2 101 .is) r1 r1
     (cF rfl (oL true 7 102 .is) r1 r1
     (cF rfl (oP (hDo_c ((l.take i).foldl playStep zeroH) (Go.Gm.nth l i) (hfit (by omega)) (light_at hl.2 hio)) Tryz.func24 (Args.two (.pagg .t) (.pagg .t))) r2 trivial
     (cF rfl (oM .t) r1 trivial
     (cF rfl (o_extract .t rfl) r1 trivial
     (cF rfl (o_extract .t rfl) r1 trivial
     (cF rfl (oH [.slice none 0 0, .slice none 0 0] 103) trivial trivial
     (cF rfl (oA 2 103 .same (.conv .t .agg)) r2 r1
     (cF rfl (oN .t) r1 trivial
     Chain.nil)))))))))
     hB ?_
   clear hS; intro a w F hS
   replace hS := hS.sub
   obtain ⟨F, hS⟩ := hS.nm [24, 23, 22, 21, 20, 19, 18, 17, 16, 15, 14, 13, 7, 6, 5, 3, 2] [103, 102, 101, 0] rfl rfl
   try dsimp only [RS.sub, SF.sub, CF.sub, csub, Anc.sub, List.map, stCells, xL, xM, Nat.reduceAdd, xD, xE, xT, xU, xC, xN, zCF, ldSF, rHist, rTx, rOrd, rVer, rInt, rOp, rEd] at hS
   generalize Act.tau a 6 = v6 at hS
   refine then_n (wp_seq ?_)
   refine region_q hS
     (cF rfl (oM .t) r1 trivial
     (cF rfl (o_eql .t (.ci (by kernel_rfl))) r1 trivial
     Chain.nil))
     hB ?_
   clear hS; intro a w F hS
   obtain ⟨F, hS⟩ := hS.nm [26, 25, 24, 23, 22, 21, 20, 19, 18, 17, 16, 15, 14, 13, 7, 6, 5, 3, 2] [103, 102, 101, 0] rfl rfl
   try dsimp only [rHist, rTx, rOrd, rVer, rInt, rOp, rEd] at hS
   refine then_n ?_
   refine cond_b hS rfl (fun hc3 => ?_) (fun hc3 => ?_)
   ·skip
    have hd0 : (doH ((l.take i).foldl playStep zeroH) (Go.Gm.nth l i)).2 = 0 := by simpa using hc3
    have hsx : Small (doH ((l.take i).foldl playStep zeroH) (Go.Gm.nth l i)).1 := ((Fit.play hl.2 i (by omega)).doH (light_at hl.2 hio)).small (by omega)
    have hrx := do_right (hfit (by omega)) hd0
    have hst9 : ((l.take (i + 1)).foldl playStep zeroH) = (doH ((l.take i).foldl playStep zeroH) (Go.Gm.nth l i)).1 := by rw [take_nth hio, List.foldl_append]; exact play_yes (by simpa using hc3)
    refine wp_seq (wp_seq ?_)
    refine region_q hS
      (cF rfl (oL true 2 103 .is) r1 r1
      (cF rfl (oP (rightH_c (doH ((l.take i).foldl playStep zeroH) (Go.Gm.nth l i)).1 hsx) Tryz.func12 (Args.one (.pagg .t))) r1 trivial
      (cF rfl (o_not .t) r1 trivial
      Chain.nil)))
      hB ?_
    clear hS; intro a w F hS
    obtain ⟨F, hS⟩ := hS.nm [29, 28, 27, 26, 25, 24, 23, 22, 21, 20, 19, 18, 17, 16, 15, 14, 13, 7, 6, 5, 3, 2] [103, 102, 101, 0] rfl rfl
    try dsimp only [List.map, xD, xE, xT, xU, ldSF, rHist, rTx, rOrd, rVer, rInt, rOp, rEd] at hS
    refine then_n ?_
    refine cond_b hS rfl (fun hc4 => ?_) (fun hc4 => ?_)
    ·skip
     exact absurd hrx (by simpa using hc4)
    refine wp_skip (then_n ?_)
    refine region_q hS
      (cF rfl (oL true 2 103 .is) r1 r1
      (cF rfl (oA 2 101 .is .t) r2 r1
      Chain.nil))
      hB ?_
    clear hS; intro a w F hS
    obtain ⟨F, hS⟩ := hS.nm [30, 29, 28, 27, 26, 25, 24, 23, 22, 21, 20, 19, 18, 17, 16, 15, 14, 13, 7, 6, 5, 3, 2] [103, 102, 101, 0] rfl rfl
    try dsimp only [List.map, stCells, xL, xM, Nat.reduceAdd, xD, xE, xT, xU, xC, xN, zCF, ldSF, rHist, rTx, rOrd, rVer, rInt, rOp, rEd] at hS
    refine block_n (then_n ?_)
    refine region_q hS
      (cF rfl (o_add .t (.ci (by kernel_rfl))) r1 trivial
      (cF rfl (oM .t) r1 trivial
      Chain.nil))
      hB ?_
    clear hS; intro a w F hS
    obtain ⟨F, hS⟩ := hS.nm [41, 30, 29, 28, 27, 26, 25, 24, 23, 22, 21, 20, 19, 18, 17, 16, 15, 14, 13, 7, 6, 5, 3, 2] [103, 102, 101, 0] rfl rfl
    try dsimp only [rHist, rTx, rOrd, rVer, rInt, rOp, rEd] at hS
    refine then_n ?_
    replace hS := hS.turn 101 rfl (r' := .pt (.val v3) 25 [.pv (.sl rTx ((l.take (i + 1)).foldl playStep zeroH).txs), .pv (.sl rOrd ((l.take (i + 1)).foldl playStep zeroH).orders)]) (fun _ _ _ _ h => by rw [hst9]; exact h)
    replace hS := hS.ent (i := 15) (s' := .pv (.int .i64 ((i + 1 : Nat) : Int))) rfl (.int (wrap_succ (by omega)))
    obtain ⟨F, hS⟩ := hS.nm [14, 13, 3, 2, 15] [0, 101] rfl rfl
    exact ⟨(i + 1), F, ⟨by omega, trivial⟩, hS, by omega⟩
   have hz := do_zero (show ¬ (doH ((l.take i).foldl playStep zeroH) (Go.Gm.nth l i)).2 = 0 by simpa using hc3)
   have hst9 : ((l.take (i + 1)).foldl playStep zeroH) = ((l.take i).foldl playStep zeroH) := by rw [take_nth hio, List.foldl_append]; exact play_no (by simpa using hc3)
   refine wp_seq ?_
   refine region_q hS
     (cF rfl (oF 0 103 .is) r1 r1
     (cF rfl (oL false 1 103 .adr) r1 r1
     (cF rfl (o_len_sl Tryz.underlying22 .t) r1 trivial
     (cF rfl (o_neq .t (.ci (by kernel_rfl))) r1 trivial
     (cF rfl (oM .t) r1 trivial
     (Chain.cons (Cert.cond rfl rfl (fun h => o_fieldAddr (off := 1) 103 .is (by kernel_rfl) (by rfl))) r2 r1
     (Chain.cons (Cert.cond rfl rfl (fun h => o_load (ag := false) (sz := 1) 103 (.w h .adr) (by kernel_rfl) (by kernel_rfl) (by kernel_rfl) (by rfl))) r2 r1
     (Chain.cons (Cert.cond rfl rfl (fun h => o_len_sl Tryz.underlying23 (.w h))) r2 trivial
     (Chain.cons (Cert.cond rfl rfl (fun h => o_neq (.w h) (.ci (by kernel_rfl)))) r2 trivial
     (cF rfl (o_or2 .t .t) r2 trivial
     Chain.nil))))))))))
     hB ?_
   clear hS; intro a w F hS
   obtain ⟨F, hS⟩ := hS.nm [40, 39, 38, 37, 36, 35, 34, 33, 32, 31, 26, 25, 24, 23, 22, 21, 20, 19, 18, 17, 16, 15, 14, 13, 7, 6, 5, 3, 2] [103, 102, 101, 0] rfl rfl
   try dsimp only [List.map, xD, xE, xT, xU, ldSF, rHist, rTx, rOrd, rVer, rInt, rOp, rEd] at hS
   refine then_n ?_
   refine cond_b hS rfl (fun hc5 => ?_) (fun hc5 => ?_)
   ·skip
    rw [hz] at hc5
    simp [zeroH] at hc5
   refine wp_skip (block_n (then_n ?_))
   refine region_q hS
     (cF rfl (o_add .t (.ci (by kernel_rfl))) r1 trivial
     (cF rfl (oM .t) r1 trivial
     Chain.nil))
     hB ?_
   clear hS; intro a w F hS
   obtain ⟨F, hS⟩ := hS.nm [41, 40, 39, 38, 37, 36, 35, 34, 33, 32, 31, 26, 25, 24, 23, 22, 21, 20, 19, 18, 17, 16, 15, 14, 13, 7, 6, 5, 3, 2] [103, 102, 101, 0] rfl rfl
   try dsimp only [rHist, rTx, rOrd, rVer, rInt, rOp, rEd] at hS
   refine then_n ?_
   replace hS := hS.turn 101 rfl (r' := .pt (.val v3) 25 [.pv (.sl rTx ((l.take (i + 1)).foldl playStep zeroH).txs), .pv (.sl rOrd ((l.take (i + 1)).foldl playStep zeroH).orders)]) (fun _ _ _ _ h => by rw [hst9]; exact h)
   replace hS := hS.ent (i := 15) (s' := .pv (.int .i64 ((i + 1 : Nat) : Int))) rfl (.int (wrap_succ (by omega)))
   obtain ⟨F, hS⟩ := hS.nm [14, 13, 3, 2, 15] [0, 101] rfl rfl
   exact ⟨(i + 1), F, ⟨by omega, trivial⟩, hS, by omega⟩
  have hil : i = l.length := by simp at hc2; omega
  refine wp_exit (then_x (then_x (block_x (then_n (wp_seq ?_)))))
  refine region_q hS
    (cF rfl (oN .cb) trivial trivial
    Chain.nil)
    hB ?_
  clear hS; intro a w F hS
  obtain ⟨F, hS⟩ := hS.nm [2] [101, 0] rfl rfl
  try dsimp only [rHist, rTx, rOrd, rVer, rInt, rOp, rEd] at hS
  refine then_n (wp_ret ?_)
  refine ret_P hfr hS rfl (.tmp rfl .nil) (.one .refl)

end Go.Proofs.YtpjjmolibanakaaGreat
