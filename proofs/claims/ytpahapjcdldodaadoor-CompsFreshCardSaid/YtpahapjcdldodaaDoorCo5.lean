/- Components: what is stale, the plain law. No condition beyond those that each theorem says. -/
import Derived.Test.YtpahapjcdldodaaDoorCo4
import Derived.Test.YtpahapjcdldodaaDoorLibG
namespace Go.Proofs.YtpahapjcdldodaaDoor
open Go Go.Gm
set_option linter.unusedVariables false
set_option linter.unusedSimpArgs false
set_option maxHeartbeats 4000000
set_option maxRecDepth 8000


def inQ (n : Nat) (q : List PairD) (u : Int) : List Int := (compQ n q u).filter fun y => decide ((⟨u, y⟩ : PairD) ∈ q)
theorem ofL_self {n : Nat} (hn : n ≤ 4096) {l : List Int} (h : Up n l) : ofL (n : Int) l = l := by
  have e : ofL (n : Int) l = orL [] n l := by unfold ofL orL; rw [rowN_nat (by omega)]
  rw [e]; exact orL_nil h
theorem innerL_comp {n : Nat} (hn : n ≤ 4096) {q : List PairD} (hq : InN n q) {u x : Int} (h : u ∈ compQ n q x) : innerL n q u (compQ n q x) = inQ n q u := by
  unfold innerL inQ
  rw [ofL_self hn (compQ_up n q x), compQ_same (mem_compQ.1 h).2]
  unfold andL
  refine List.filter_congr fun y _ => ?_
  rw [decide_eq_decide, mem_nextQ hq]; rfl
/-- A component is as it was. -/
def SameC (n : Nat) (q q0 : List PairD) (x : Int) : Prop := compQ n q x = compQ n q0 x ∧ ∀ y ∈ compQ n q x, inQ n q y = inQ n q0 y
instance (n : Nat) (q q0 : List PairD) (x : Int) : Decidable (SameC n q q0 x) := by unfold SameC; infer_instance
theorem SameC.refl (n : Nat) (q : List PairD) (x : Int) : SameC n q q x := ⟨rfl, fun _ _ => rfl⟩
theorem SameC.trans {n : Nat} {q q1 q0 : List PairD} {x : Int} (h : SameC n q q1 x) (k : SameC n q1 q0 x) : SameC n q q0 x := ⟨h.1.trans k.1, fun y hy => (h.2 y hy).trans (k.2 y (by rw [← h.1]; exact hy))⟩
/-- But for arcs from u. -/
def ButU (u : Int) (q q' : List PairD) : Prop := ∀ a b, a ≠ u → ((⟨a, b⟩ : PairD) ∈ q ↔ (⟨a, b⟩ : PairD) ∈ q')
theorem ButU.symm {u : Int} {q q' : List PairD} (h : ButU u q q') : ButU u q' q := fun a b hab => (h a b hab).symm
theorem cyc_step {q q' : List PairD} {u x : Int} (h : ButU u q q') (hx : ¬ MutQ q x u) {b : Int} (k : Rch (EQ_ q) x b) : Rch (EQ_ q) b x → Rch (EQ_ q') x b := by
  have key : ∀ c, Rch (EQ_ q) x c → Rch (EQ_ q) c x → c ≠ u := fun c h1 h2 e => by
    subst e
    exact hx (.inr ⟨((reachQ_spec q c).2 x).2 h2, ((reachQ_spec q x).2 c).2 h1⟩)
  induction k with
  | one k =>
    intro hb
    have hxu : x ≠ u := fun e => hx (.inl e)
    exact .one ((h _ _ hxu).1 k)
  | step h1 k ih =>
    intro hb
    have hc : Rch (EQ_ q) _ x := Rch.trans (.one k) hb
    exact .step (ih hc) ((h _ _ (key _ h1 hc)).1 k)
theorem mut_step {q q' : List PairD} {u x y : Int} (h : ButU u q q') (hx : ¬ MutQ q x u) (k : MutQ q y x) : MutQ q' y x := by
  by_cases e : y = x
  · exact .inl e
  · obtain ⟨h1, h2⟩ := k.resolve_left e
    have a1 := ((reachQ_spec q x).2 y).1 h1
    have a2 := ((reachQ_spec q y).2 x).1 h2
    have hy : ¬ MutQ q y u := fun h3 => hx ((MutQ.symm (.inr ⟨h1, h2⟩)).trans h3)
    exact .inr ⟨((reachQ_spec q' x).2 y).2 (cyc_step h hx a1 a2), ((reachQ_spec q' y).2 x).2 (cyc_step h hy a2 a1)⟩
theorem same_step {n : Nat} {q q' : List PairD} {u x : Int} (h : ButU u q q') (hx : ¬ MutQ q x u) (hx' : ¬ MutQ q' x u) : SameC n q' q x := by
  have hc : ∀ z, ¬ MutQ q z u → ¬ MutQ q' z u → compQ n q' z = compQ n q z := fun z h1 h2 => by
    unfold compQ
    refine List.filter_congr fun y _ => ?_
    rw [decide_eq_decide]
    exact ⟨mut_step h.symm h2, mut_step h h1⟩
  refine ⟨hc x hx hx', fun y hy => ?_⟩
  have hyx := (mem_compQ.1 hy).2
  have hyx2 := mut_step h.symm hx' hyx
  have hy1 : ¬ MutQ q y u := fun k => hx (hyx2.symm.trans k)
  have hy2 : ¬ MutQ q' y u := fun k => hx' (hyx.symm.trans k)
  unfold inQ
  rw [hc y hy1 hy2]
  refine List.filter_congr fun z _ => ?_
  rw [decide_eq_decide]
  exact (h y z fun e => hy1 (.inl e)).symm
/-- What is touched. -/
def touchD (n : Nat) (q : List PairD) (u : Int) (D : List Int) : List Int := orL (putL D n u true) n (memB n q u)
theorem touchD_up {n : Nat} {q : List PairD} {u : Int} {D : List Int} (h : Up n D) : Up n (touchD n q u D) := orL_up (putL_up h u true) _
theorem mem_touch {n : Nat} {q : List PairD} {u x : Int} {D : List Int} (h : Up n D) (hx : x ∉ touchD n q u D) (ht : There n x) : x ∉ D ∧ (There n u → ¬ MutQ q x u) := by
  unfold touchD at hx
  rw [mem_orL (putL_up h u true), mem_putL] at hx
  refine ⟨fun hd => hx (.inl ?_), fun hu hm => hx (.inr ⟨?_, ht⟩)⟩
  · by_cases e : x = u
    · subst e; exact .inr ⟨rfl, rfl, ht⟩
    · exact .inl ⟨e, hd⟩
  · unfold memB; rw [if_pos hu]; exact mem_compQ.2 ⟨ht, hm⟩
theorem touch_fold (n : Nat) (D : List Int) (l : List Int) (k : Nat) (h : k < l.length) : putL (orL D n (l.take k)) n (Go.Gm.nth l k) true = orL D n (l.take (k + 1)) := by
  unfold orL
  rw [take_nth h, List.foldl_append]; rfl
theorem butU_step {n : Nat} {q : List PairD} {d : Deed4} : ButU d.u q (stepQ n q d).1 := fun a b hab => by
  unfold stepQ
  split
  · split
    · rw [List.mem_append, List.mem_singleton, PairD.mk.injEq]
      exact ⟨.inl, fun h => h.resolve_right fun e => hab e.1⟩
    · split
      · exact Iff.rfl
      · exact (List.mem_erase_of_ne fun e => hab (PairD.mk.inj e).1).symm
  · exact Iff.rfl
/-- Marks. -/
def MkOk (n : Nat) (q0 : List PairD) (ms : List (Int × List Int)) : Prop := ∀ k, k < n → Go.Gm.nth ms k = (labQ n q0 (k : Int), inQ n q0 (k : Int))
def SzOk (es : List (GE Int Int)) (ms : List (Int × List Int)) : Prop := ∀ a : Int, (gGet a es).getD 0 = ((ms.countP fun m => decide (m.1 = a) : Nat) : Int)
def DtOk (n : Nat) (q q0 : List PairD) (D : List Int) : Prop := Up n D ∧ ∀ x, There n x → x ∉ D → SameC n q q0 x
theorem DtOk.touch {n : Nat} {q q0 : List PairD} {D : List Int} (h : DtOk n q q0 D) (u : Int) : DtOk n q q0 (touchD n q u D) := ⟨touchD_up h.1, fun x hx hd => h.2 x hx (mem_touch h.1 hd hx).1⟩
theorem DtOk.change {n : Nat} {q q0 q' : List PairD} {D : List Int} {u : Int} (h : DtOk n q q0 D) (hu : There n u) (hb : ButU u q q') : DtOk n q' q0 (touchD n q' u (touchD n q u D)) := ⟨touchD_up (touchD_up h.1), fun x hx hd => by
  have h1 := mem_touch (touchD_up h.1) hd hx
  have h2 := mem_touch h.1 h1.1 hx
  exact (same_step hb (h2.2 hu) (h1.2 hu)).trans (h.2 x hx h2.1)⟩
theorem membersP_count (L : List Int) (x : Int) : ∀ k, k ≤ L.length → (membersP L x k).length = (L.take k).countP fun y => decide (y = x)
  | 0, _ => by simp [membersP]
  | k + 1, h => by
    rw [membersP_next, List.length_append, membersP_count L x k (by omega), take_nth (by omega), List.countP_append]
    by_cases e : Go.Gm.nth L k = x <;> simp [e]
theorem mk_labs {n : Nat} {q0 : List PairD} {ms : List (Int × List Int)} (h : MkOk n q0 ms) (hl : ms.length = n) : ms.map (·.1) = labsQ n q0 := by
  apply List.ext_getElem (by rw [List.length_map, labsQ_len, hl])
  intro j h1 h2
  rw [List.length_map] at h1
  have := h j (by omega)
  rw [nth_eq h1] at this
  simp [labsQ, this]
theorem mk_count {n : Nat} {q0 : List PairD} {ms : List (Int × List Int)} (h : MkOk n q0 ms) (hl : ms.length = n) {i : Nat} (hi : i < n) (hlab : labQ n q0 (i : Int) = (i : Int)) : (ms.countP fun m => decide (m.1 = (i : Int))) = (compQ n q0 (i : Int)).length := by
  rw [← membersD_comp hi hlab]
  show _ = (membersP (labsQ n q0) (i : Int) (labsQ n q0).length).length
  rw [membersP_count _ _ _ (Nat.le_refl _), List.take_length, ← mk_labs h hl, List.countP_map]
  rfl
/-- Whether a component is fresh. -/
def freshQ (n : Nat) (q : List PairD) (es : List (GE Int Int)) (ms : List (Int × List Int)) (l : List Int) : Bool := decide ((gGet (Go.Gm.nth l 0) es).getD 0 = (l.length : Int)) && l.all fun y => decide ((Go.Gm.nth ms y.toNat).1 = Go.Gm.nth l 0) && decide ((Go.Gm.nth ms y.toNat).2 = innerL n q y l)
theorem inc_eq {a b : List Int} (ha : IncI a) (hb : IncI b) (hs : ∀ x ∈ a, x ∈ b) (hl : b.length ≤ a.length) : a = b := by
  refine up_ext ha hb fun x => ⟨hs x, fun hx => ?_⟩
  apply Decidable.byContradiction
  intro hn
  have h1 := nodup_sub_len (o := x :: a) (d := b) (List.nodup_cons.2 ⟨hn, ha.imp fun h => by omega⟩) (fun v hv => by
    rcases List.mem_cons.1 hv with rfl | hv
    · exact hx
    · exact hs v hv)
  rw [List.length_cons] at h1; omega
theorem fresh_iff {n : Nat} (hn : n ≤ 4096) {q q0 : List PairD} (hq : InN n q) {es : List (GE Int Int)} {ms : List (Int × List Int)} (hm : MkOk n q0 ms) (hl : ms.length = n) (hs : SzOk es ms) {x : Int} (hx : There n x) (hlab : labQ n q x = x) : freshQ n q es ms (compQ n q x) = decide (SameC n q q0 x) := by
  have h0 : Go.Gm.nth (compQ n q x) 0 = x := hlab
  have hat : ∀ y, There n y → Go.Gm.nth ms y.toNat = (labQ n q0 y, inQ n q0 y) := fun y hy => by
    have h1 := hm y.toNat (by have := hy.1; have := hy.2; omega)
    rwa [Int.toNat_of_nonneg hy.1] at h1
  unfold freshQ
  rw [h0, Bool.eq_iff_iff, decide_eq_true_iff, Bool.and_eq_true, decide_eq_true_iff, List.all_eq_true, hs x]
  constructor
  · rintro ⟨h1, h2⟩
    have h3 : ∀ y ∈ compQ n q x, labQ n q0 y = x ∧ inQ n q0 y = inQ n q y := fun y hy => by
      have hyt := (mem_compQ.1 hy).1
      have := h2 y hy
      rw [hat y hyt, innerL_comp hn hq hy] at this
      simpa using this
    have hlx := (h3 x (compQ_self hx)).1
    obtain ⟨X, rfl⟩ := Int.eq_ofNat_of_zero_le hx.1
    have hc := mk_count hm hl (by have := hx.2; omega) hlx
    have he : compQ n q (X : Int) = compQ n q0 (X : Int) := inc_eq (compQ_up n q _).1 (compQ_up n q0 _).1 (fun y hy => by
      have hyt := (mem_compQ.1 hy).1
      have h4 := labQ_mut (q := q0) hyt
      rw [(h3 y hy).1] at h4
      exact mem_compQ.2 ⟨hyt, h4.symm⟩) (by omega)
    exact ⟨he, fun y hy => (h3 y hy).2.symm⟩
  · rintro ⟨h1, h2⟩
    have hlx : labQ n q0 x = x := by unfold labQ; rw [← h1]; exact hlab
    refine ⟨?_, fun y hy => ?_⟩
    · obtain ⟨X, rfl⟩ := Int.eq_ofNat_of_zero_le hx.1
      rw [mk_count hm hl (by have := hx.2; omega) hlx, h1]
    · have hyt := (mem_compQ.1 hy).1
      rw [hat y hyt, innerL_comp hn hq hy]
      have hy0 : y ∈ compQ n q0 x := by rw [← h1]; exact hy
      have h5 : labQ n q0 y = x := by rw [(labQ_iff hx hyt).2 (mem_compQ.1 hy0).2, hlx]
      simp [h5, h2 y hy]
/-- What is stale. -/
def staleB (n : Nat) (q q0 : List PairD) (x : Int) : Bool := decide (labQ n q x = x) && !decide (SameC n q q0 x)
def staleQ (n : Nat) (q q0 : List PairD) : List Int := ((List.range n).map fun j : Nat => (j : Int)).filter (staleB n q q0)
theorem stale_dirty {n : Nat} {q q0 : List PairD} {D : List Int} (h : DtOk n q q0 D) : D.filter (staleB n q q0) = staleQ n q q0 := by
  refine up_ext (filter_up h.1 _).1 ((range_up n).1.filter _) fun x => ?_
  unfold staleQ
  rw [List.mem_filter, List.mem_filter, mem_range_up]
  constructor
  · rintro ⟨h1, h2⟩; exact ⟨h.1.2 x h1, h2⟩
  · rintro ⟨h1, h2⟩
    refine ⟨?_, h2⟩
    apply Decidable.byContradiction
    intro hn
    unfold staleB at h2
    simp [h.2 x h1 hn] at h2
theorem arc_in {n : Nat} {q : List PairD} {y z : Int} : arcP ⟨y, z⟩ ∈ arcsQ q ↔ (⟨y, z⟩ : PairD) ∈ q := by
  unfold arcsQ
  rw [(keysG_inc cmpA_sto _).2, List.mem_map]
  constructor
  · rintro ⟨p, hp, e⟩
    have e1 := congrArg ArcD.src e
    have e2 := congrArg ArcD.dst e
    have : p = ⟨y, z⟩ := by cases p; simp [arcP] at e1 e2; simp [e1, e2]
    rwa [← this]
  · intro h; exact ⟨_, h, rfl⟩
theorem arc_form {q : List PairD} {a : ArcD} (h : a ∈ arcsQ q) : a = arcP ⟨a.src, a.dst⟩ := by
  unfold arcsQ at h
  rw [(keysG_inc cmpA_sto _).2, List.mem_map] at h
  obtain ⟨p, hp, rfl⟩ := h
  rfl
theorem arcs_same {n : Nat} {q q0 : List PairD} (hq : InN n q) (hq0 : InN n q0) {x : Int} (hx : There n x) (h1 : labQ n q x = x) (hc : compQ n q x = compQ n q0 x) : arcsIn n q x = arcsIn n q0 x ↔ ∀ y ∈ compQ n q x, inQ n q y = inQ n q0 y := by
  have h0 : labQ n q0 x = x := by unfold labQ; rw [← hc]; exact h1
  have hm : ∀ {r : List PairD}, InN n r → labQ n r x = x → ∀ y z, arcP ⟨y, z⟩ ∈ arcsIn n r x ↔ (⟨y, z⟩ : PairD) ∈ r ∧ y ∈ compQ n r x ∧ z ∈ compQ n r x := fun {r} hr hl y z => by
    unfold arcsIn inArc
    rw [List.mem_filter, arc_in (n := n), Bool.and_eq_true, decide_eq_true_iff, decide_eq_true_iff]
    show _ ∧ labQ n r y = x ∧ labQ n r z = x ↔ _
    constructor
    · rintro ⟨h2, h3, h4⟩
      have hy := hr _ h2
      exact ⟨h2, mem_compQ.2 ⟨hy.1, (labQ_iff hx hy.1).1 (by rw [h3, hl])⟩, mem_compQ.2 ⟨hy.2, (labQ_iff hx hy.2).1 (by rw [h4, hl])⟩⟩
    · rintro ⟨h2, h3, h4⟩
      have hy := hr _ h2
      exact ⟨h2, by rw [(labQ_iff hx hy.1).2 (mem_compQ.1 h3).2, hl], by rw [(labQ_iff hx hy.2).2 (mem_compQ.1 h4).2, hl]⟩
  have hin : ∀ {r : List PairD}, ∀ y ∈ compQ n r x, ∀ z, z ∈ inQ n r y ↔ z ∈ compQ n r x ∧ (⟨y, z⟩ : PairD) ∈ r := fun {r} y hy z => by
    unfold inQ
    rw [List.mem_filter, compQ_same (mem_compQ.1 hy).2, decide_eq_true_iff]
  constructor
  · intro h y hy
    have hy0 : y ∈ compQ n q0 x := by rw [← hc]; exact hy
    refine up_ext ((compQ_up n q y).1.filter _) ((compQ_up n q0 y).1.filter _) fun z => ?_
    show z ∈ inQ n q y ↔ z ∈ inQ n q0 y
    rw [hin y hy, hin y hy0]
    have a1 := hm hq h1 y z
    have a2 := hm hq0 h0 y z
    rw [h] at a1
    rw [hc] at a1
    constructor
    · rintro ⟨b1, b2⟩
      have := (a2.1 (a1.2 ⟨b2, hy0, by rw [← hc]; exact b1⟩))
      exact ⟨this.2.2, this.1⟩
    · rintro ⟨b1, b2⟩
      have := (a1.1 (a2.2 ⟨b2, hy0, b1⟩))
      exact ⟨by rw [hc]; exact this.2.2, this.1⟩
  · intro h
    have hmem : ∀ a, a ∈ arcsIn n q x → a ∈ arcsIn n q0 x := fun a ha => by
      have hf := arc_form (List.mem_filter.1 ha).1
      rw [hf] at ha ⊢
      obtain ⟨b1, b2, b3⟩ := (hm hq h1 _ _).1 ha
      have := (hin _ b2 a.dst).2 ⟨b3, b1⟩
      rw [h _ b2] at this
      have hb0 : a.src ∈ compQ n q0 x := by rw [← hc]; exact b2
      have := (hin _ hb0 a.dst).1 this
      exact (hm hq0 h0 _ _).2 ⟨this.2, hb0, this.1⟩
    have hmem2 : ∀ a, a ∈ arcsIn n q0 x → a ∈ arcsIn n q x := fun a ha => by
      have hf := arc_form (List.mem_filter.1 ha).1
      rw [hf] at ha ⊢
      obtain ⟨b1, b2, b3⟩ := (hm hq0 h0 _ _).1 ha
      have := (hin _ b2 a.dst).2 ⟨b3, b1⟩
      have hb0 : a.src ∈ compQ n q x := by rw [hc]; exact b2
      rw [← h _ hb0] at this
      have := (hin _ hb0 a.dst).1 this
      exact (hm hq h1 _ _).2 ⟨this.2, hb0, this.1⟩
    exact incG_unique cmpA_sto ((keysG_inc cmpA_sto _).1.filter _) ((keysG_inc cmpA_sto _).1.filter _) fun a => ⟨hmem a, hmem2 a⟩
theorem stale_doc {n : Nat} {q q0 : List PairD} (hq : InN n q) (hq0 : InN n q0) : staleD (partsQ n q0) (partsQ n q) = staleQ n q q0 := by
  unfold staleD staleQ partsQ partsP
  rw [List.filter_map, List.map_map, List.filter_filter, List.filter_map]
  have e : ∀ i : Nat, i ∈ List.range n → (((fun p => !(((List.range n).filter fun i : Nat => decide (labQ n q0 (i : Int) = (i : Int))).map (partQ n q0)).any fun w => decide (p = w)) ∘ partQ n q) i && decide (labQ n q (i : Int) = (i : Int))) = (staleB n q q0 ∘ fun j : Nat => (j : Int)) i := fun i hi => by
    have hin := List.mem_range.1 hi
    have hti : There n (i : Int) := ⟨by omega, by omega⟩
    show (!(((List.range n).filter fun i : Nat => decide (labQ n q0 (i : Int) = (i : Int))).map (partQ n q0)).any (fun w => decide (partQ n q i = w)) && decide (labQ n q (i : Int) = (i : Int))) = staleB n q q0 (i : Int)
    unfold staleB
    by_cases hl : labQ n q (i : Int) = (i : Int)
    · rw [decide_eq_true hl, Bool.and_true, Bool.true_and]
      congr 1
      rw [Bool.eq_iff_iff, List.any_eq_true, decide_eq_true_iff]
      constructor
      · rintro ⟨w, hw, he⟩
        have he := of_decide_eq_true he
        obtain ⟨j, hj, hlj, rfl⟩ := mem_parts.1 hw
        have h1 : compQ n q (i : Int) = compQ n q0 (j : Int) := congrArg PartD.nodes he
        have hij : (i : Int) = (j : Int) := by rw [← hl, ← hlj]; unfold labQ; rw [h1]
        rw [← hij] at h1
        have h2 : arcsIn n q (i : Int) = arcsIn n q0 (i : Int) := by
          have h3 : arcsIn n q (i : Int) = arcsIn n q0 (j : Int) := congrArg PartD.arcs he
          rwa [← hij] at h3
        exact ⟨h1, (arcs_same hq hq0 hti hl h1).1 h2⟩
      · rintro ⟨h1, h2⟩
        have hl0 : labQ n q0 (i : Int) = (i : Int) := by unfold labQ; rw [← h1]; exact hl
        refine ⟨partQ n q0 i, mem_parts.2 ⟨i, hin, hl0, rfl⟩, decide_eq_true ?_⟩
        unfold partQ
        rw [h1, (arcs_same hq hq0 hti hl h1).2 h2]
    · rw [decide_eq_false hl, Bool.and_false, Bool.false_and]
  rw [List.filter_congr e]
  refine List.map_congr_left fun i hi => ?_
  have hs := (List.mem_filter.1 hi).2
  unfold staleB at hs
  simp only [Function.comp, Bool.and_eq_true, decide_eq_true_eq] at hs
  exact hs.1
theorem part_ne {n : Nat} {q : List PairD} {p : PartD} (h : p ∈ partsQ n q) : p.nodes ≠ [] := by
  obtain ⟨i, hi, _, rfl⟩ := mem_parts.1 h
  intro e
  have := compQ_pos (q := q) (show There n (i : Int) from ⟨by omega, by omega⟩)
  rw [show compQ n q (i : Int) = [] from e] at this
  simp at this
/-- All is marked anew. -/
def cleanM (n : Nat) (q : List PairD) (ms : List (Int × List Int)) (x : Int) : List (Int × List Int) := ms.set x.toNat (labQ n q x, inQ n q x)
def cleanMs (n : Nat) (q : List PairD) (ms : List (Int × List Int)) (D : List Int) (k : Nat) : List (Int × List Int) := (D.take k).foldl (cleanM n q) ms
theorem cleanMs_next {n : Nat} {q : List PairD} {ms : List (Int × List Int)} {D : List Int} {k : Nat} (h : k < D.length) : cleanMs n q ms D (k + 1) = cleanM n q (cleanMs n q ms D k) (Go.Gm.nth D k) := by
  unfold cleanMs
  rw [take_nth h, List.foldl_append]; rfl
theorem cleanMs_len (n : Nat) (q : List PairD) (ms : List (Int × List Int)) (D : List Int) : ∀ k, (cleanMs n q ms D k).length = ms.length := fun k => by
  unfold cleanMs
  generalize D.take k = l
  induction l generalizing ms with
  | nil => rfl
  | cons x l ih => rw [List.foldl_cons, ih]; exact List.length_set
theorem cleanMs_nth {n : Nat} {q : List PairD} {ms : List (Int × List Int)} (hl : ms.length = n) {D : List Int} (hD : Up n D) : ∀ k, k ≤ D.length → ∀ j, j < n → Go.Gm.nth (cleanMs n q ms D k) j = if (j : Int) ∈ D.take k then (labQ n q (j : Int), inQ n q (j : Int)) else Go.Gm.nth ms j
  | 0, _, j, hj => by simp [cleanMs]
  | k + 1, h, j, hj => by
    rw [cleanMs_next (by omega), cleanM, nth_set (by rw [cleanMs_len, hl]; exact hj), cleanMs_nth hl hD k (by omega) j hj, take_nth (by omega)]
    have hx := hD.2 _ (nth_mem (show k < D.length by omega))
    by_cases e : (Go.Gm.nth D k).toNat = j
    · have e2 : Go.Gm.nth D k = (j : Int) := by omega
      rw [if_pos e, e2, if_pos (by simp)]
    · have e2 : (j : Int) ≠ Go.Gm.nth D k := by omega
      rw [if_neg e]
      by_cases e3 : (j : Int) ∈ D.take k
      · rw [if_pos e3, if_pos (by simp [e3])]
      · rw [if_neg e3, if_neg (by simp [e3, e2])]
theorem clean_mk {n : Nat} {q q0 : List PairD} {ms : List (Int × List Int)} {D : List Int} (hl : ms.length = n) (hm : MkOk n q0 ms) (hD : DtOk n q q0 D) : MkOk n q (cleanMs n q ms D D.length) := fun j hj => by
  rw [cleanMs_nth hl hD.1 _ (Nat.le_refl _) j hj, List.take_length]
  split
  · rfl
  · rename_i h
    have hj' : There n (j : Int) := ⟨by omega, by omega⟩
    have hs := hD.2 _ hj' h
    rw [hm j hj]
    have h1 : labQ n q0 (j : Int) = labQ n q (j : Int) := by unfold labQ; rw [hs.1]
    rw [h1, hs.2 _ (compQ_self hj')]
theorem countP_set {α : Type} [Inhabited α] {p : α → Bool} : ∀ {l : List α} {i : Nat} {x : α}, i < l.length → ((l.set i x).countP p : Int) = (l.countP p : Int) - (if p (Go.Gm.nth l i) = true then 1 else 0) + (if p x = true then 1 else 0)
  | [], i, x, h => by simp at h
  | y :: l, 0, x, h => by
    rw [show Go.Gm.nth (y :: l) 0 = y from nth_eq (by simp), List.set_cons_zero, List.countP_cons, List.countP_cons]
    by_cases h1 : p y = true <;> by_cases h2 : p x = true <;> simp [h1, h2] <;> omega
  | y :: l, i + 1, x, h => by
    have ih := countP_set (p := p) (l := l) (i := i) (x := x) (by simpa using h)
    have e : Go.Gm.nth (y :: l) (i + 1) = Go.Gm.nth l i := by
      have h' : i < l.length := by simpa using h
      rw [nth_eq h, nth_eq h']; rfl
    rw [e, List.set_cons_succ, List.countP_cons, List.countP_cons]
    by_cases h1 : p y = true <;> simp [h1] <;> omega
theorem SzOk.move {es : List (GE Int Int)} {ck c2 : Nat} {ms : List (Int × List Int)} {i : Nat} {m : Int × List Int} (h : SzOk es ms) (hi : i < ms.length) {es1 : List (GE Int Int)} (h1 : es1 = (gPut (Go.Gm.nth ms i).1 ((gGet (Go.Gm.nth ms i).1 es).getD 0 - 1) (es, ck)).1) :
    SzOk (gPut m.1 ((gGet m.1 es1).getD 0 + 1) (es1, c2)).1 (ms.set i m) := fun a => by
  have hc := countP_set (p := fun m : Int × List Int => decide (m.1 = a)) (x := m) hi
  rw [hc, ← h a, gGet_put]
  have hg : (gGet a es1).getD 0 = (gGet a es).getD 0 - (if (Go.Gm.nth ms i).1 = a then 1 else 0) := by
    rw [h1, gGet_put]
    by_cases e : a = (Go.Gm.nth ms i).1
    · subst e; simp
    · have e' : ¬ (Go.Gm.nth ms i).1 = a := fun k => e k.symm
      simp [e, e']
  by_cases e : a = m.1
  · subst e
    simp [hg]
  · have e' : ¬ m.1 = a := fun k => e k.symm
    simp [e, e', hg]

end Go.Proofs.YtpahapjcdldodaaDoor
