/- Trees. No condition beyond those that each theorem says. -/
import Derived.Test.YtdfidiehkkbimaaPr1
namespace Go.Proofs.Ytdfidiehkkbimaa
open Go Go.Gm
set_option linter.unusedVariables false
set_option linter.unusedSimpArgs false
set_option maxHeartbeats 4000000
set_option maxRecDepth 8000


inductive Tree where
  | nil : Tree
  | node : Tree → PairD → Tree → Tree
  deriving Inhabited
def tSize : Tree → Int
  | .nil => 0
  | .node l _ r => tSize l + tSize r + 1
def tHigh : Tree → Int
  | .nil => 0
  | .node l _ r => max (tHigh l) (tHigh r) + 1
def tList : Tree → List PairD
  | .nil => []
  | .node l p r => tList l ++ p :: tList r
def Bal : Tree → Prop
  | .nil => True
  | .node l _ r => Bal l ∧ Bal r ∧ tHigh l ≤ tHigh r + 1 ∧ tHigh r ≤ tHigh l + 1
theorem tHigh_nn : ∀ t, 0 ≤ tHigh t
  | .nil => Int.le_refl _
  | .node l _ r => by have := tHigh_nn l; have := tHigh_nn r; unfold tHigh; omega
theorem tSize_nn : ∀ t, 0 ≤ tSize t
  | .nil => Int.le_refl _
  | .node l _ r => by have := tSize_nn l; have := tSize_nn r; unfold tSize; omega
theorem tHigh_le : ∀ t, tHigh t ≤ tSize t
  | .nil => Int.le_refl _
  | .node l _ r => by have := tHigh_le l; have := tHigh_le r; have := tSize_nn l; have := tSize_nn r; unfold tHigh tSize; omega
theorem tSize_list : ∀ t, tSize t = ((tList t).length : Int)
  | .nil => rfl
  | .node l _ r => by have := tSize_list l; have := tSize_list r; simp only [tSize, tList, List.length_append, List.length_cons]; omega
/-- A tree over two others, one of which may be too high by one. -/
def evenT (l : Tree) (p : PairD) (r : Tree) : Tree :=
  if tHigh r + 1 < tHigh l then
    match l with
    | .node ll lp lr => if tHigh lr ≤ tHigh ll then .node ll lp (.node lr p r) else
      match lr with
      | .node a z b => .node (.node ll lp a) z (.node b p r)
      | .nil => .node (.node ll lp .nil) p r
    | .nil => .node .nil p r
  else if tHigh l + 1 < tHigh r then
    match r with
    | .node rl rp rr => if tHigh rl ≤ tHigh rr then .node (.node l p rl) rp rr else
      match rl with
      | .node a z b => .node (.node l p a) z (.node b rp rr)
      | .nil => .node l p (.node .nil rp rr)
    | .nil => .node l p .nil
  else .node l p r
theorem evenT_list (l : Tree) (p : PairD) (r : Tree) : tList (evenT l p r) = tList l ++ p :: tList r := by
  unfold evenT
  split
  · split
    · split
      · simp [tList]
      · split <;> simp [tList]
    · simp [tList]
  · split
    · split
      · split
        · simp [tList]
        · split <;> simp [tList]
      · simp [tList]
    · simp [tList]
theorem evenT_bal {l r : Tree} (p : PairD) (hl : Bal l) (hr : Bal r) (h1 : tHigh l ≤ tHigh r + 2) (h2 : tHigh r ≤ tHigh l + 2) : Bal (evenT l p r) ∧ max (tHigh l) (tHigh r) ≤ tHigh (evenT l p r) ∧ tHigh (evenT l p r) ≤ max (tHigh l) (tHigh r) + 1 := by
  unfold evenT
  split
  · rename_i hh
    match l, hl with
    | .nil, hl => simp [tHigh] at hh; have := tHigh_nn r; omega
    | .node ll lp lr, hl =>
      obtain ⟨b1, b2, b3, b4⟩ := hl
      have e : tHigh (.node ll lp lr) = max (tHigh ll) (tHigh lr) + 1 := rfl
      simp only
      split
      · rename_i h3
        have g1 : tHigh (.node lr p r) = max (tHigh lr) (tHigh r) + 1 := rfl
        have g2 : tHigh (.node ll lp (.node lr p r)) = max (tHigh ll) (tHigh (.node lr p r)) + 1 := rfl
        refine ⟨⟨b1, ⟨b2, hr, by omega, by omega⟩, by omega, by omega⟩, by omega, by omega⟩
      · rename_i h3
        match lr, b2 with
        | .nil, b2 => simp [tHigh] at h3; have := tHigh_nn ll; omega
        | .node a z b, b2 =>
          obtain ⟨c1, c2, c3, c4⟩ := b2
          have e2 : tHigh (.node a z b) = max (tHigh a) (tHigh b) + 1 := rfl
          have g1 : tHigh (.node ll lp a) = max (tHigh ll) (tHigh a) + 1 := rfl
          have g2 : tHigh (.node b p r) = max (tHigh b) (tHigh r) + 1 := rfl
          have g3 : tHigh (.node (.node ll lp a) z (.node b p r)) = max (tHigh (.node ll lp a)) (tHigh (.node b p r)) + 1 := rfl
          show Bal (.node (.node ll lp a) z (.node b p r)) ∧ _ ≤ tHigh (.node (.node ll lp a) z (.node b p r)) ∧ tHigh (.node (.node ll lp a) z (.node b p r)) ≤ _
          refine ⟨⟨⟨b1, c1, by omega, by omega⟩, ⟨c2, hr, by omega, by omega⟩, by omega, by omega⟩, by omega, by omega⟩
  · rename_i hn
    split
    · rename_i hh
      match r, hr with
      | .nil, hr => simp [tHigh] at hh; have := tHigh_nn l; omega
      | .node rl rp rr, hr =>
        obtain ⟨b1, b2, b3, b4⟩ := hr
        have e : tHigh (.node rl rp rr) = max (tHigh rl) (tHigh rr) + 1 := rfl
        simp only
        split
        · rename_i h3
          have g1 : tHigh (.node l p rl) = max (tHigh l) (tHigh rl) + 1 := rfl
          have g2 : tHigh (.node (.node l p rl) rp rr) = max (tHigh (.node l p rl)) (tHigh rr) + 1 := rfl
          refine ⟨⟨⟨hl, b1, by omega, by omega⟩, b2, by omega, by omega⟩, by omega, by omega⟩
        · rename_i h3
          match rl, b1 with
          | .nil, b1 => simp [tHigh] at h3; have := tHigh_nn rr; omega
          | .node a z b, b1 =>
            obtain ⟨c1, c2, c3, c4⟩ := b1
            have e2 : tHigh (.node a z b) = max (tHigh a) (tHigh b) + 1 := rfl
            have g1 : tHigh (.node l p a) = max (tHigh l) (tHigh a) + 1 := rfl
            have g2 : tHigh (.node b rp rr) = max (tHigh b) (tHigh rr) + 1 := rfl
            have g3 : tHigh (.node (.node l p a) z (.node b rp rr)) = max (tHigh (.node l p a)) (tHigh (.node b rp rr)) + 1 := rfl
            show Bal (.node (.node l p a) z (.node b rp rr)) ∧ _ ≤ tHigh (.node (.node l p a) z (.node b rp rr)) ∧ tHigh (.node (.node l p a) z (.node b rp rr)) ≤ _
            refine ⟨⟨⟨hl, c1, by omega, by omega⟩, ⟨c2, b2, by omega, by omega⟩, by omega, by omega⟩, by omega, by omega⟩
    · have g : tHigh (.node l p r) = max (tHigh l) (tHigh r) + 1 := rfl
      exact ⟨⟨hl, hr, by omega, by omega⟩, by omega, by omega⟩
theorem evenT_size (l : Tree) (p : PairD) (r : Tree) : tSize (evenT l p r) = tSize l + tSize r + 1 := by
  rw [tSize_list, evenT_list, tSize_list, tSize_list]
  simp only [List.length_append, List.length_cons]
  omega
/-- Never too high. -/
theorem bal_two : ∀ {t : Tree}, Bal t → (2 : Int) ^ (tHigh t).toNat ≤ (tSize t + 1) * (tSize t + 1)
  | .nil, _ => by decide
  | .node l p r, h => by
    obtain ⟨h1, h2, h3, h4⟩ := h
    have il := bal_two h1
    have ir := bal_two h2
    have nl := tHigh_nn l
    have nr := tHigh_nn r
    have sl := tSize_nn l
    have sr := tSize_nn r
    have e1 : tHigh (.node l p r) = max (tHigh l) (tHigh r) + 1 := rfl
    have e2 : tSize (.node l p r) = tSize l + tSize r + 1 := rfl
    have mul : ∀ a b : Int, 0 ≤ a → 0 ≤ b → 2 ^ (min (tHigh l) (tHigh r)).toNat ≤ (a + 1) * (a + 1) → 2 ^ (min (tHigh l) (tHigh r)).toNat ≤ (b + 1) * (b + 1) → (2 : Int) ^ (min (tHigh l) (tHigh r) + 2).toNat ≤ (a + b + 1 + 1) * (a + b + 1 + 1) := by
      intro a b ha hb h5 h6
      have e : (min (tHigh l) (tHigh r) + 2).toNat = (min (tHigh l) (tHigh r)).toNat + 2 := by omega
      rw [e, Int.pow_add]
      generalize (2 : Int) ^ (min (tHigh l) (tHigh r)).toNat = w at h5 h6 ⊢
      have h7 : (2 : Int) ^ 2 = 4 := rfl
      rw [h7]
      have k1 : ∀ x y : Int, (x + y) * (x + y) = x * x + 2 * (y * x) + y * y := fun x y => by
        rw [Int.add_mul, Int.mul_add, Int.mul_add, Int.mul_comm x y]; omega
      rw [show a + b + 1 + 1 = (a + 1) + (b + 1) by omega, k1]
      rcases Int.le_total a b with hab | hab
      · have : (a + 1) * (a + 1) ≤ (b + 1) * (a + 1) := Int.mul_le_mul_of_nonneg_right (by omega) (by omega)
        omega
      · have : (b + 1) * (b + 1) ≤ (b + 1) * (a + 1) := Int.mul_le_mul_of_nonneg_left (by omega) (by omega)
        omega
    have pm : ∀ x y : Int, 0 ≤ x → x ≤ y → (2 : Int) ^ x.toNat ≤ 2 ^ y.toNat := fun x y hx hxy => by
      have := Nat.pow_le_pow_right (n := 2) (by decide) (show x.toNat ≤ y.toNat by omega)
      exact_mod_cast this
    have h5 := mul (tSize l) (tSize r) sl sr (Int.le_trans (pm _ _ (by omega) (by omega)) il) (Int.le_trans (pm _ _ (by omega) (by omega)) ir)
    rw [e1, e2]
    exact Int.le_trans (pm _ _ (by omega) (by omega)) h5
theorem high_bound {t : Tree} (h : Bal t) (hs : tSize t ≤ 1000000) : tHigh t ≤ 40 := by
  apply Classical.byContradiction
  intro hn
  have h1 := bal_two h
  have sn := tSize_nn t
  have h2 : (2 : Int) ^ 41 ≤ 2 ^ (tHigh t).toNat := by
    have := Nat.pow_le_pow_right (n := 2) (by decide) (show 41 ≤ (tHigh t).toNat by omega)
    exact_mod_cast this
  have h3 : (tSize t + 1) * (tSize t + 1) ≤ 1000001 * 1000001 := Int.mul_le_mul (by omega) (by omega) (by omega) (by omega)
  have h4 : (2 : Int) ^ 41 = 2199023255552 := by decide
  omega
/-- Maps: a pair put. -/
def putT (p : PairD) : Tree → Tree
  | .nil => .node .nil p .nil
  | .node l x r => if p.key < x.key then evenT (putT p l) x r else if x.key < p.key then evenT l x (putT p r) else .node l p r
theorem putT_bal (p : PairD) : ∀ {t : Tree}, Bal t → Bal (putT p t) ∧ tHigh t ≤ tHigh (putT p t) ∧ tHigh (putT p t) ≤ tHigh t + 1
  | .nil, _ => ⟨⟨trivial, trivial, by show (0 : Int) ≤ 0 + 1; omega, by show (0 : Int) ≤ 0 + 1; omega⟩, by show (0 : Int) ≤ max 0 0 + 1; omega, by show max (0 : Int) 0 + 1 ≤ 0 + 1; omega⟩
  | .node l x r, h => by
    obtain ⟨h1, h2, h3, h4⟩ := h
    have il := putT_bal p h1
    have ir := putT_bal p h2
    have e1 : tHigh (.node l x r) = max (tHigh l) (tHigh r) + 1 := rfl
    unfold putT
    split
    · have := evenT_bal x il.1 h2 (by omega) (by omega)
      refine ⟨this.1, ?_, by omega⟩
      by_cases e : tHigh (putT p l) = tHigh l
      · have : evenT (putT p l) x r = .node (putT p l) x r := by unfold evenT; rw [if_neg (by omega), if_neg (by omega)]
        rw [this]
        have : tHigh (.node (putT p l) x r) = max (tHigh (putT p l)) (tHigh r) + 1 := rfl
        omega
      · by_cases e2 : tHigh r + 1 < tHigh (putT p l)
        · omega
        · have : evenT (putT p l) x r = .node (putT p l) x r := by unfold evenT; rw [if_neg (by omega), if_neg (by omega)]
          rw [this]
          have : tHigh (.node (putT p l) x r) = max (tHigh (putT p l)) (tHigh r) + 1 := rfl
          omega
    · split
      · have := evenT_bal x h1 ir.1 (by omega) (by omega)
        refine ⟨this.1, ?_, by omega⟩
        by_cases e2 : tHigh l + 1 < tHigh (putT p r)
        · omega
        · have : evenT l x (putT p r) = .node l x (putT p r) := by unfold evenT; rw [if_neg (by omega), if_neg (by omega)]
          rw [this]
          have : tHigh (.node l x (putT p r)) = max (tHigh l) (tHigh (putT p r)) + 1 := rfl
          omega
      · exact ⟨⟨h1, h2, h3, h4⟩, by show _ ≤ max (tHigh l) (tHigh r) + 1; omega, by show max (tHigh l) (tHigh r) + 1 ≤ _; omega⟩
/-- By rising keys. -/
def Inc (l : List PairD) : Prop := l.Pairwise fun a b => a.key < b.key
theorem putPR_app_lo {k v : Int} : ∀ {l m : List PairD}, (∀ p ∈ l, p.key < k) → putPR k v (l ++ m) false = l ++ putPR k v m false
  | [], m, _ => rfl
  | p :: l, m, h => by
    have h1 := h p (by simp)
    rw [List.cons_append, putPR, if_neg (by omega), if_neg (by omega), show (false || decide (k ≤ p.key)) = false by simp; omega, putPR_app_lo fun x hx => h x (by simp [hx])]
    rfl
theorem putPR_app_hi {k v : Int} {m : List PairD} (hm : ∀ p ∈ m, k < p.key) : ∀ (l : List PairD) (d : Bool), (∃ p ∈ l, k ≤ p.key) ∨ d = true → putPR k v (l ++ m) d = putPR k v l d ++ m
  | [], d, h => by
    rcases h with ⟨p, hp, _⟩ | rfl
    · cases hp
    · rw [List.nil_append]
      have : ∀ m : List PairD, (∀ p ∈ m, k < p.key) → putPR k v m true = m := by
        intro m
        induction m with
        | nil => intro _; rfl
        | cons p m ih =>
          intro h
          have := h p (by simp)
          rw [putPR, Bool.true_or, ih fun x hx => h x (by simp [hx]), if_neg (by simp), if_neg (by omega)]
          rfl
      rw [this m hm]
      simp [putPR]
  | p :: l, d, h => by
    rw [List.cons_append, putPR, putPR, putPR_app_hi hm l (d || decide (k ≤ p.key)) (by
      by_cases hp : k ≤ p.key
      · exact .inr (by simp [hp])
      · rcases h with ⟨q, hq, hk⟩ | rfl
        · rcases List.mem_cons.1 hq with rfl | hq
          · exact absurd hk hp
          · exact .inl ⟨q, hq, hk⟩
        · exact .inr rfl)]
    simp [List.append_assoc]
theorem putPR_snoc {k v : Int} : ∀ (l : List PairD), (∀ p ∈ l, p.key < k) → putPR k v l false = l ++ [⟨k, v⟩] := by
  intro l h
  have := putPR_app_lo (k := k) (v := v) (l := l) (m := []) h
  rw [List.append_nil] at this
  rw [this]; rfl
theorem Inc.parts {l r : List PairD} {x : PairD} (h : Inc (l ++ x :: r)) : Inc l ∧ Inc r ∧ (∀ p ∈ l, p.key < x.key) ∧ (∀ p ∈ r, x.key < p.key) := by
  unfold Inc at *
  rw [List.pairwise_append, List.pairwise_cons] at h
  exact ⟨h.1, h.2.1.2, fun p hp => h.2.2 p hp x (by simp), fun p hp => h.2.1.1 p hp⟩
theorem putT_list (p : PairD) : ∀ {t : Tree}, Inc (tList t) → tList (putT p t) = putP (tList t) p.key p.val
  | .nil, _ => rfl
  | .node l x r, h => by
    obtain ⟨h1, h2, h3, h4⟩ := Inc.parts h
    have il := putT_list p h1
    have ir := putT_list p h2
    unfold putT
    unfold putP at *
    show _ = putPR p.key p.val (tList l ++ x :: tList r) false
    split
    · rename_i hk
      rw [evenT_list, il]
      by_cases hex : ∃ q ∈ tList l, p.key ≤ q.key
      · rw [putPR_app_hi (fun q hq => by
          rcases List.mem_cons.1 hq with rfl | hq
          · exact hk
          · have := h4 q hq; omega) _ _ (.inl hex)]
      · have hlt : ∀ q ∈ tList l, q.key < p.key := fun q hq => by
          apply Classical.byContradiction
          intro hn
          exact hex ⟨q, hq, by omega⟩
        rw [putPR_app_lo hlt, putPR_snoc _ hlt, putPR_low fun q hq => by
          rcases List.mem_cons.1 hq with rfl | hq
          · exact hk
          · have := h4 q hq; omega]
        simp
    · split
      · rename_i hk1 hk
        rw [evenT_list, ir, putPR_app_lo fun q hq => by have := h3 q hq; omega, putPR, if_neg (by omega), if_neg (by omega), show (false || decide (p.key ≤ x.key)) = false by simp; omega]
        rfl
      · rename_i hk1 hk2
        have e : x.key = p.key := by omega
        rw [putPR_app_lo fun q hq => by have := h3 q hq; omega, putPR, if_pos ⟨rfl, by omega⟩, if_pos e, show (false || decide (p.key ≤ x.key)) = true by simp; omega]
        have := putPR_app_hi (k := p.key) (v := p.val) (m := tList r) (fun q hq => by have := h4 q hq; omega) [] true (.inr rfl)
        rw [List.nil_append] at this
        rw [this]
        simp [tList, putPR]

end Go.Proofs.Ytdfidiehkkbimaa
