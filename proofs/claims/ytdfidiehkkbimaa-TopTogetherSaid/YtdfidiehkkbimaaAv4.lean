/- Put and taken out: the plain law. No condition beyond those that each theorem says. -/
import Derived.Test.YtdfidiehkkbimaaAv1
namespace Go.Proofs.Ytdfidiehkkbimaa
open Go Go.Gm
set_option linter.unusedVariables false
set_option linter.unusedSimpArgs false
set_option maxHeartbeats 4000000
set_option maxRecDepth 8000


theorem recT {P : Tree → Prop} (h : ∀ t, (∀ t', tSize t' < tSize t → P t') → P t) (t : Tree) : P t := by
  have h0 : ∀ (n : Nat) (t : Tree), tSize t < n → P t := by
    intro n
    induction n with
    | zero => intro t ht; have := tSize_nn t; omega
    | succ n ih => intro t ht; exact h t fun t' ht' => ih t' (by omega)
  have := tSize_nn t
  exact h0 ((tSize t).toNat + 1) t (by omega)
theorem tSize_l {l r : Tree} {p : PairD} : tSize l < tSize (.node l p r) := by have := tSize_nn r; show _ < tSize l + tSize r + 1; omega
theorem tSize_r {l r : Tree} {p : PairD} : tSize r < tSize (.node l p r) := by have := tSize_nn l; show _ < tSize l + tSize r + 1; omega
/-- A subtree changed by no more than one in height: even again. -/
theorem even_up_l {l l' r : Tree} {p : PairD} (h1 : Bal l') (h2 : Bal r) (h3 : tHigh l ≤ tHigh r + 1) (h4 : tHigh r ≤ tHigh l + 1) (a : tHigh l ≤ tHigh l') (b : tHigh l' ≤ tHigh l + 1) : Bal (evenT l' p r) ∧ max (tHigh l) (tHigh r) + 1 ≤ tHigh (evenT l' p r) ∧ tHigh (evenT l' p r) ≤ max (tHigh l) (tHigh r) + 1 + 1 := by
  have hb := evenT_bal p h1 h2 (by omega) (by omega)
  refine ⟨hb.1, ?_, by omega⟩
  by_cases e2 : tHigh r + 1 < tHigh l'
  · omega
  · have e : evenT l' p r = .node l' p r := by unfold evenT; rw [if_neg (by omega), if_neg (by omega)]
    rw [e]
    show _ ≤ max (tHigh l') (tHigh r) + 1
    omega
theorem even_up_r {l r r' : Tree} {p : PairD} (h1 : Bal l) (h2 : Bal r') (h3 : tHigh l ≤ tHigh r + 1) (h4 : tHigh r ≤ tHigh l + 1) (a : tHigh r ≤ tHigh r') (b : tHigh r' ≤ tHigh r + 1) : Bal (evenT l p r') ∧ max (tHigh l) (tHigh r) + 1 ≤ tHigh (evenT l p r') ∧ tHigh (evenT l p r') ≤ max (tHigh l) (tHigh r) + 1 + 1 := by
  have hb := evenT_bal p h1 h2 (by omega) (by omega)
  refine ⟨hb.1, ?_, by omega⟩
  by_cases e2 : tHigh l + 1 < tHigh r'
  · omega
  · have e : evenT l p r' = .node l p r' := by unfold evenT; rw [if_neg (by omega), if_neg (by omega)]
    rw [e]
    show _ ≤ max (tHigh l) (tHigh r') + 1
    omega
theorem even_dn_l {l l' r : Tree} {p : PairD} (h1 : Bal l') (h2 : Bal r) (h3 : tHigh l ≤ tHigh r + 1) (h4 : tHigh r ≤ tHigh l + 1) (a : tHigh l - 1 ≤ tHigh l') (b : tHigh l' ≤ tHigh l) : Bal (evenT l' p r) ∧ max (tHigh l) (tHigh r) ≤ tHigh (evenT l' p r) ∧ tHigh (evenT l' p r) ≤ max (tHigh l) (tHigh r) + 1 := by
  have hb := evenT_bal p h1 h2 (by omega) (by omega)
  refine ⟨hb.1, ?_, by omega⟩
  by_cases e2 : tHigh l' + 1 < tHigh r
  · omega
  · have e : evenT l' p r = .node l' p r := by unfold evenT; rw [if_neg (by omega), if_neg (by omega)]
    rw [e]
    show _ ≤ max (tHigh l') (tHigh r) + 1
    omega
theorem even_dn_r {l r r' : Tree} {p : PairD} (h1 : Bal l) (h2 : Bal r') (h3 : tHigh l ≤ tHigh r + 1) (h4 : tHigh r ≤ tHigh l + 1) (a : tHigh r - 1 ≤ tHigh r') (b : tHigh r' ≤ tHigh r) : Bal (evenT l p r') ∧ max (tHigh l) (tHigh r) ≤ tHigh (evenT l p r') ∧ tHigh (evenT l p r') ≤ max (tHigh l) (tHigh r) + 1 := by
  have hb := evenT_bal p h1 h2 (by omega) (by omega)
  refine ⟨hb.1, ?_, by omega⟩
  by_cases e2 : tHigh r' + 1 < tHigh l
  · omega
  · have e : evenT l p r' = .node l p r' := by unfold evenT; rw [if_neg (by omega), if_neg (by omega)]
    rw [e]
    show _ ≤ max (tHigh l) (tHigh r') + 1
    omega
theorem putT_size (p : PairD) : ∀ t : Tree, tSize t ≤ tSize (putT p t) ∧ tSize (putT p t) ≤ tSize t + 1
  | .nil => ⟨by show (0 : Int) ≤ 0 + 0 + 1; omega, by show (0 : Int) + 0 + 1 ≤ 0 + 1; omega⟩
  | .node l x r => by
    have hl := putT_size p l
    have hr := putT_size p r
    have e : tSize (.node l x r) = tSize l + tSize r + 1 := rfl
    unfold putT
    split
    · rw [evenT_size]; omega
    · split
      · rw [evenT_size]; omega
      · show _ ≤ tSize l + tSize r + 1 ∧ tSize l + tSize r + 1 ≤ _; omega
/-- What put makes. -/
def putS (kf : Int → Int) (room : Int) (q : List Cell) (why : Int) (p : PairD) : Tree → Int → St
  | .nil, _ => madeS room q why 0 0 p
  | .node l _ r, i =>
    if p.key < (getC q i).key then evenS kf room (putS kf room q why p l (getC q i).left).1 (putS kf room q why p l (getC q i).left).2.1 (putS kf room q why p l (getC q i).left).2.2 (getC q i).right (pairOf kf (getC q i))
    else if (getC q i).key < p.key then evenS kf room (putS kf room q why p r (getC q i).right).1 (putS kf room q why p r (getC q i).right).2.1 (getC q i).left (putS kf room q why p r (getC q i).right).2.2 (pairOf kf (getC q i))
    else madeS room q why (getC q i).left (getC q i).right p
theorem Good.lo {kf : Int → Int} {room : Int} {q : List Cell} {lo n : Int} {x : St} {t : Tree} (h : Good kf room q lo n x t) : 0 ≤ n := by
  obtain ⟨e, _, e2, _⟩ := h
  omega
theorem putS_good {kf : Int → Int} {room : Int} {q : List Cell} {p : PairD} (hp : kf p.key = p.key) : ∀ {t : Tree} {i : Int}, Rep kf q t i → tSize t < 1000000 → Good kf room q 1 (3 * (tHigh t + 1)) (putS kf room q 0 p t i) (putT p t)
  | .nil, i, h, hs => (madeS_good (l := .nil) (r := .nil) rfl rfl hp (by show (0 : Int) + 0 ≤ _; omega)).weak (by omega) (by show (1 : Int) ≤ 3 * (0 + 1); omega)
  | .node l x r, i, h, hs => by
    have hk := h.pair
    obtain ⟨h1, h2, h3, h4, h5, h6, _⟩ := h
    have e : tSize (.node l x r) = tSize l + tSize r + 1 := rfl
    have e2 : tHigh (.node l x r) = max (tHigh l) (tHigh r) + 1 := rfl
    have sl := tSize_nn l
    have sr := tSize_nn r
    have tl := putT_size p l
    have tr := putT_size p r
    have gl := tHigh_nn l
    have gr := tHigh_nn r
    have il := putS_good (room := room) hp h2 (by omega)
    have ir := putS_good (room := room) hp h3 (by omega)
    unfold putS putT
    rw [h4, hk]
    split
    · refine (Good.bind (lo' := 1) (m := 3) il (by omega) (fun e' e1 e3 e4 => ?_) fun hw => evenS_bad hw).weak (by omega) (by omega)
      rw [e3]
      exact evenS_good e4 (by rw [e1]; exact h3.app e') h5 (by omega)
    · split
      · refine (Good.bind (lo' := 1) (m := 3) ir (by omega) (fun e' e1 e3 e4 => ?_) fun hw => evenS_bad hw).weak (by omega) (by omega)
        rw [e3]
        exact evenS_good (by rw [e1]; exact h2.app e') e4 h5 (by omega)
      · exact (madeS_good h2 h3 hp (by omega)).weak (by omega) (by omega)
/-- The first pair taken out. -/
def firstT : Tree → PairD × Tree
  | .nil => (default, .nil)
  | .node .nil p r => (p, r)
  | .node (.node a b c) p r => ((firstT (.node a b c)).1, evenT (firstT (.node a b c)).2 p r)
theorem firstT_list : ∀ {t : Tree}, t ≠ .nil → tList t = (firstT t).1 :: tList (firstT t).2
  | .nil, h => absurd rfl h
  | .node .nil p r, _ => rfl
  | .node (.node a b c) p r, _ => by
    have := firstT_list (t := .node a b c) (by simp)
    unfold firstT
    simp only
    rw [evenT_list]
    show tList (.node a b c) ++ p :: tList r = _
    rw [this]
    rfl
theorem firstT_size {t : Tree} (h : t ≠ .nil) : tSize (firstT t).2 = tSize t - 1 := by
  rw [tSize_list, tSize_list, firstT_list h]
  simp only [List.length_cons]
  omega
theorem firstT_bal : ∀ {t : Tree}, Bal t → Bal (firstT t).2 ∧ tHigh t - 1 ≤ tHigh (firstT t).2 ∧ tHigh (firstT t).2 ≤ tHigh t
  | .nil, _ => ⟨trivial, by show (0 : Int) - 1 ≤ 0; omega, Int.le_refl _⟩
  | .node .nil p r, h => by
    have := tHigh_nn r
    have h4 := h.2.2.2
    have e : tHigh (.node .nil p r) = max 0 (tHigh r) + 1 := rfl
    have e1 : tHigh Tree.nil = 0 := rfl
    exact ⟨h.2.1, by show _ ≤ tHigh r; omega, by show tHigh r ≤ _; omega⟩
  | .node (.node a b c) p r, h => by
    obtain ⟨h1, h2, h3, h4⟩ := h
    have il := firstT_bal h1
    have e : tHigh (.node (.node a b c) p r) = max (tHigh (.node a b c)) (tHigh r) + 1 := rfl
    have := even_dn_l (p := p) il.1 h2 h3 h4 il.2.1 il.2.2
    unfold firstT
    simp only
    exact ⟨this.1, by omega, by omega⟩
def firstS (kf : Int → Int) (room : Int) (q : List Cell) (why : Int) : Tree → Int → PairD × St
  | .nil, i => (pairOf kf (getC q i), q, why, (getC q i).right)
  | .node l _ _, i =>
    if (getC q i).left = 0 then (pairOf kf (getC q i), q, why, (getC q i).right)
    else ((firstS kf room q why l (getC q i).left).1, evenS kf room (firstS kf room q why l (getC q i).left).2.1 (firstS kf room q why l (getC q i).left).2.2.1 (firstS kf room q why l (getC q i).left).2.2.2 (getC q i).right (pairOf kf (getC q i)))
theorem firstS_good {kf : Int → Int} {room : Int} {q : List Cell} : ∀ {t : Tree} {i : Int}, Rep kf q t i → t ≠ .nil → tSize t ≤ 1000000 → (firstS kf room q 0 t i).1 = (firstT t).1 ∧ Good kf room q 0 (3 * tHigh t) (firstS kf room q 0 t i).2 (firstT t).2
  | .nil, i, h, hn, hs => absurd rfl hn
  | .node .nil x r, i, h, hn, hs => by
    have hk := h.pair
    have h2 : (getC q i).left = 0 := h.2.1
    have e2 : tHigh (.node .nil x r) = max 0 (tHigh r) + 1 := rfl
    unfold firstS firstT
    rw [if_pos h2]
    exact ⟨hk, [], (List.append_nil q).symm, by simp only [List.length_nil]; omega, .inl ⟨rfl, h.2.2.1, by simp⟩⟩
  | .node (.node a b c) x r, i, h, hn, hs => by
    have hk := h.pair
    obtain ⟨h1, h2, h3, h4, h5, h6, _⟩ := h
    have hz : (getC q i).left ≠ 0 := fun hz => by rw [hz] at h2; exact absurd h2.zero (by simp)
    have e : tSize (.node (.node a b c) x r) = tSize (.node a b c) + tSize r + 1 := rfl
    have e2 : tHigh (.node (.node a b c) x r) = max (tHigh (.node a b c)) (tHigh r) + 1 := rfl
    have sr := tSize_nn r
    have gr := tHigh_nn r
    have gl := tHigh_nn (.node a b c)
    have il := firstS_good (room := room) h2 (by simp) (by omega)
    have ts := firstT_size (t := .node a b c) (by simp)
    unfold firstS firstT
    rw [if_neg hz, hk]
    refine ⟨il.1, (Good.bind (lo' := 1) (m := 3) il.2 (by omega) (fun e' e1 e3 e4 => ?_) fun hw => evenS_bad hw).weak (by omega) (by omega)⟩
    rw [e3]
    exact evenS_good e4 (by rw [e1]; exact h3.app e') h5 (by omega)
def delT (k : Int) : Tree → Tree
  | .nil => .nil
  | .node l p r => if k < p.key then evenT (delT k l) p r else if p.key < k then evenT l p (delT k r) else
    match l with
    | .nil => r
    | .node _ _ _ => match r with
      | .nil => l
      | .node _ _ _ => evenT l (firstT r).1 (firstT r).2
def HasT (k : Int) : Tree → Prop
  | .nil => False
  | .node l p r => if k < p.key then HasT k l else if p.key < k then HasT k r else True
theorem delT_bal (k : Int) : ∀ {t : Tree}, Bal t → Bal (delT k t) ∧ tHigh t - 1 ≤ tHigh (delT k t) ∧ tHigh (delT k t) ≤ tHigh t
  | .nil, _ => ⟨trivial, by show (0 : Int) - 1 ≤ 0; omega, Int.le_refl _⟩
  | .node l p r, h => by
    obtain ⟨h1, h2, h3, h4⟩ := h
    have il := delT_bal k h1
    have ir := delT_bal k h2
    have e : tHigh (.node l p r) = max (tHigh l) (tHigh r) + 1 := rfl
    have gl := tHigh_nn l
    have gr := tHigh_nn r
    unfold delT
    split
    · have := even_dn_l (p := p) il.1 h2 h3 h4 il.2.1 il.2.2
      exact ⟨this.1, by omega, by omega⟩
    · split
      · have := even_dn_r (p := p) h1 ir.1 h3 h4 ir.2.1 ir.2.2
        exact ⟨this.1, by omega, by omega⟩
      · have e1 : tHigh Tree.nil = 0 := rfl
        split
        · exact ⟨h2, by omega, by omega⟩
        · split
          · exact ⟨h1, by omega, by omega⟩
          · rename_i ra rb rc
            have fb := firstT_bal h2
            have := even_dn_r (p := (firstT (.node ra rb rc)).1) h1 fb.1 h3 h4 fb.2.1 fb.2.2
            exact ⟨this.1, by omega, by omega⟩
theorem delP_app (k : Int) (l m : List PairD) : delP (l ++ m) k = delP l k ++ delP m k := by unfold delP; rw [List.filter_append]
theorem delP_none {k : Int} {l : List PairD} (h : ∀ p ∈ l, p.key ≠ k) : delP l k = l := by
  unfold delP
  rw [List.filter_eq_self]
  intro p hp
  simpa using h p hp
theorem delP_cons_ne {k : Int} {x : PairD} {l : List PairD} (h : x.key ≠ k) : delP (x :: l) k = x :: delP l k := by
  unfold delP
  rw [List.filter_cons_of_pos (by simpa using h)]
theorem delP_cons_eq {k : Int} {x : PairD} {l : List PairD} (h : x.key = k) : delP (x :: l) k = delP l k := by
  unfold delP
  rw [List.filter_cons_of_neg (by simpa using h)]
theorem delT_list (k : Int) : ∀ {t : Tree}, Inc (tList t) → tList (delT k t) = delP (tList t) k
  | .nil, _ => rfl
  | .node l p r, h => by
    obtain ⟨h1, h2, h3, h4⟩ := Inc.parts h
    have il := delT_list k h1
    have ir := delT_list k h2
    show _ = delP (tList l ++ p :: tList r) k
    rw [delP_app]
    unfold delT
    split
    · rename_i hk
      rw [evenT_list, il, delP_cons_ne (by omega), delP_none (l := tList r) fun x hx => by have := h4 x hx; omega]
    · split
      · rename_i hk
        rw [evenT_list, ir, delP_cons_ne (by omega), delP_none (l := tList l) fun x hx => by have := h3 x hx; omega]
      · have e : p.key = k := by omega
        rw [delP_cons_eq e, delP_none (l := tList l) fun x hx => by have := h3 x hx; omega, delP_none (l := tList r) fun x hx => by have := h4 x hx; omega]
        split
        · rfl
        · split
          · simp [tList]
          · rename_i a b c
            rw [evenT_list, ← firstT_list (t := .node _ _ _) (by simp)]
def delS (kf : Int → Int) (room : Int) (q : List Cell) (why k : Int) : Tree → Int → St
  | .nil, _ => (q, why, 0)
  | .node l _ r, i =>
    if k < (getC q i).key then evenS kf room (delS kf room q why k l (getC q i).left).1 (delS kf room q why k l (getC q i).left).2.1 (delS kf room q why k l (getC q i).left).2.2 (getC q i).right (pairOf kf (getC q i))
    else if (getC q i).key < k then evenS kf room (delS kf room q why k r (getC q i).right).1 (delS kf room q why k r (getC q i).right).2.1 (getC q i).left (delS kf room q why k r (getC q i).right).2.2 (pairOf kf (getC q i))
    else if (getC q i).left = 0 then (q, why, (getC q i).right)
    else if (getC q i).right = 0 then (q, why, (getC q i).left)
    else evenS kf room (firstS kf room q why r (getC q i).right).2.1 (firstS kf room q why r (getC q i).right).2.2.1 (getC q i).left (firstS kf room q why r (getC q i).right).2.2.2 (firstS kf room q why r (getC q i).right).1
theorem HasT_size {k : Int} : ∀ {t : Tree}, HasT k t → tSize (delT k t) = tSize t - 1
  | .nil, h => h.elim
  | .node l p r, h => by
    have e : tSize (.node l p r) = tSize l + tSize r + 1 := rfl
    unfold HasT at h
    unfold delT
    split
    · rename_i hk
      rw [if_pos hk] at h
      rw [evenT_size, HasT_size h]; omega
    · rename_i hk
      rw [if_neg hk] at h
      split
      · rename_i hk2
        rw [if_pos hk2] at h
        rw [evenT_size, HasT_size h]; omega
      · split
        · have : tSize Tree.nil = 0 := rfl
          omega
        · split
          · have : tSize Tree.nil = 0 := rfl
            omega
          · rw [evenT_size, firstT_size (by simp)]; omega
theorem delS_good {kf : Int → Int} {room : Int} {q : List Cell} {k : Int} : ∀ {t : Tree} {i : Int}, Rep kf q t i → HasT k t → tSize t ≤ 1000000 → (∀ p ∈ tList t, kf p.key = p.key) → Good kf room q 0 (3 * (tHigh t + 1)) (delS kf room q 0 k t i) (delT k t)
  | .nil, i, h, hn, hs, _ => hn.elim
  | .node l x r, i, h, hn, hs, hkf => by
    have hk := h.pair
    obtain ⟨h1, h2, h3, h4, h5, h6, _⟩ := h
    have e : tSize (.node l x r) = tSize l + tSize r + 1 := rfl
    have e2 : tHigh (.node l x r) = max (tHigh l) (tHigh r) + 1 := rfl
    have sl := tSize_nn l
    have sr := tSize_nn r
    have gl := tHigh_nn l
    have gr := tHigh_nn r
    have kl : ∀ p ∈ tList l, kf p.key = p.key := fun p hp => hkf p (by simp [tList, hp])
    have kr : ∀ p ∈ tList r, kf p.key = p.key := fun p hp => hkf p (by simp [tList, hp])
    unfold HasT at hn
    unfold delS delT
    rw [h4, hk]
    split
    · rename_i hc
      rw [if_pos hc] at hn
      have := HasT_size hn
      refine (Good.bind (lo' := 1) (m := 3) (delS_good h2 hn (by omega) kl) (by omega) (fun e' e1 e3 e4 => ?_) fun hw => evenS_bad hw).weak (by omega) (by omega)
      rw [e3]
      exact evenS_good e4 (by rw [e1]; exact h3.app e') h5 (by omega)
    · rename_i hc
      rw [if_neg hc] at hn
      split
      · rename_i hc2
        rw [if_pos hc2] at hn
        have := HasT_size hn
        refine (Good.bind (lo' := 1) (m := 3) (delS_good h3 hn (by omega) kr) (by omega) (fun e' e1 e3 e4 => ?_) fun hw => evenS_bad hw).weak (by omega) (by omega)
        rw [e3]
        exact evenS_good (by rw [e1]; exact h2.app e') e4 h5 (by omega)
      · match l, h2 with
        | .nil, h2 =>
          rw [if_pos (show (getC q i).left = 0 from h2)]
          exact ⟨[], (List.append_nil q).symm, by simp only [List.length_nil]; omega, .inl ⟨rfl, h3, by simp⟩⟩
        | .node la lb lc, h2 =>
          have hz : (getC q i).left ≠ 0 := fun hz => by rw [hz] at h2; exact absurd h2.zero (by simp)
          rw [if_neg hz]
          match r, h3 with
          | .nil, h3 =>
            rw [if_pos (show (getC q i).right = 0 from h3)]
            exact ⟨[], (List.append_nil q).symm, by simp only [List.length_nil]; omega, .inl ⟨rfl, h2, by simp⟩⟩
          | .node ra rb rc, h3 =>
            have hz : (getC q i).right ≠ 0 := fun hz => by rw [hz] at h3; exact absurd h3.zero (by simp)
            rw [if_neg hz]
            have fg := firstS_good (room := room) h3 (by simp) (by omega)
            have fs := firstT_size (t := .node ra rb rc) (by simp)
            have fl := firstT_list (t := .node ra rb rc) (by simp)
            refine (Good.bind (lo' := 1) (m := 3) fg.2 (by omega) (fun e' e1 e3 e4 => ?_) fun hw => evenS_bad hw).weak (by omega) (by omega)
            rw [e3, fg.1]
            exact evenS_good (by rw [e1]; exact h2.app e') e4 (kr _ (by rw [fl]; simp)) (by omega)

end Go.Proofs.Ytdfidiehkkbimaa
