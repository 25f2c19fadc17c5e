/- Sequences: the plain law. No condition beyond those that each theorem says. -/
import Derived.Test.YtdfidiehkkbimaaAv9
namespace Go.Proofs.Ytdfidiehkkbimaa
open Go Go.Gm
set_option linter.unusedVariables false
set_option linter.unusedSimpArgs false
set_option maxHeartbeats 4000000
set_option maxRecDepth 8000


abbrev kz : Int → Int := fun _ => 0
theorem tSize_nil {t : Tree} (h : tSize t = 0) : t = .nil := by
  cases t with
  | nil => rfl
  | node l p r =>
    have := tSize_nn l
    have := tSize_nn r
    have e : tSize (.node l p r) = tSize l + tSize r + 1 := rfl
    omega
/-- Sequences: a number put in at a place. -/
def insT (x : Int) : Tree → Int → Tree
  | .nil, _ => .node .nil ⟨0, x⟩ .nil
  | .node l p r, i => if i ≤ tSize l then evenT (insT x l i) p r else evenT l p (insT x r (i - tSize l - 1))
theorem insT_size (x : Int) : ∀ (t : Tree) (i : Int), tSize (insT x t i) = tSize t + 1
  | .nil, i => rfl
  | .node l p r, i => by
    have hl := insT_size x l i
    have hr := insT_size x r (i - tSize l - 1)
    have e : tSize (.node l p r) = tSize l + tSize r + 1 := rfl
    unfold insT
    split
    · rw [evenT_size]; omega
    · rw [evenT_size]; omega
theorem insT_bal (x : Int) : ∀ {t : Tree} (i : Int), Bal t → Bal (insT x t i) ∧ tHigh t ≤ tHigh (insT x t i) ∧ tHigh (insT x t i) ≤ tHigh t + 1
  | .nil, i, _ => ⟨⟨trivial, trivial, by show (0 : Int) ≤ 0 + 1; omega, by show (0 : Int) ≤ 0 + 1; omega⟩, by show (0 : Int) ≤ max 0 0 + 1; omega, by show max (0 : Int) 0 + 1 ≤ 0 + 1; omega⟩
  | .node l p r, i, h => by
    obtain ⟨h1, h2, h3, h4⟩ := h
    have il := insT_bal x i h1
    have ir := insT_bal x (i - tSize l - 1) h2
    have e1 : tHigh (.node l p r) = max (tHigh l) (tHigh r) + 1 := rfl
    unfold insT
    split
    · have := even_up_l (p := p) il.1 h2 h3 h4 il.2.1 il.2.2
      exact ⟨this.1, by omega, by omega⟩
    · have := even_up_r (p := p) h1 ir.1 h3 h4 ir.2.1 ir.2.2
      exact ⟨this.1, by omega, by omega⟩
theorem insT_list (x : Int) : ∀ {t : Tree} {i : Int}, 0 ≤ i → i ≤ tSize t → tList (insT x t i) = (tList t).take i.toNat ++ ⟨0, x⟩ :: (tList t).drop i.toNat
  | .nil, i, h0, h1 => by
    have e : tSize Tree.nil = 0 := rfl
    have : i = 0 := by omega
    subst this; rfl
  | .node l p r, i, h0, h1 => by
    have e : tSize (.node l p r) = tSize l + tSize r + 1 := rfl
    have sl := tSize_list l
    unfold insT
    show _ = (tList l ++ p :: tList r).take i.toNat ++ ⟨0, x⟩ :: (tList l ++ p :: tList r).drop i.toNat
    split
    · rename_i hi
      rw [evenT_list, insT_list x h0 hi, List.take_append_of_le_length (by omega), List.drop_append_of_le_length (by omega)]
      simp
    · rename_i hi
      have e2 : i.toNat = (tList l).length + (1 + (i - tSize l - 1).toNat) := by omega
      rw [evenT_list, insT_list x (i := i - tSize l - 1) (by omega) (by omega), e2, List.take_length_add_append, List.drop_length_add_append, Nat.add_comm 1, List.take_succ_cons, List.drop_succ_cons]
      simp
def insS (room : Int) (q : List Cell) (why x : Int) : Tree → Int → Int → St
  | .nil, _, _ => madeS room q why 0 0 ⟨0, x⟩
  | .node l _ r, k, i =>
    if i ≤ tSize l then evenS kz room (insS room q why x l (getC q k).left i).1 (insS room q why x l (getC q k).left i).2.1 (insS room q why x l (getC q k).left i).2.2 (getC q k).right ⟨0, (getC q k).val⟩
    else evenS kz room (insS room q why x r (getC q k).right (i - tSize l - 1)).1 (insS room q why x r (getC q k).right (i - tSize l - 1)).2.1 (getC q k).left (insS room q why x r (getC q k).right (i - tSize l - 1)).2.2 ⟨0, (getC q k).val⟩
theorem insS_good {room x : Int} {q : List Cell} : ∀ {t : Tree} {k : Int} (i : Int), Rep kz q t k → tSize t < 1000000 → Good kz room q 1 (3 * (tHigh t + 1)) (insS room q 0 x t k i) (insT x t i)
  | .nil, k, i, h, hs => (madeS_good (l := .nil) (r := .nil) rfl rfl rfl (by show (0 : Int) + 0 ≤ _; omega)).weak (by omega) (by show (1 : Int) ≤ 3 * (0 + 1); omega)
  | .node l p r, k, i, h, hs => by
    have hk : (⟨0, (getC q k).val⟩ : PairD) = p := h.pair
    obtain ⟨h1, h2, h3, h4, h5, h6, _⟩ := h
    have e : tSize (.node l p r) = tSize l + tSize r + 1 := rfl
    have e2 : tHigh (.node l p r) = max (tHigh l) (tHigh r) + 1 := rfl
    have sl := tSize_nn l
    have sr := tSize_nn r
    have tl := insT_size x l i
    have tr := insT_size x r (i - tSize l - 1)
    have gl := tHigh_nn l
    have gr := tHigh_nn r
    have il := insS_good (room := room) (x := x) i h2 (by omega)
    have ir := insS_good (room := room) (x := x) (i - tSize l - 1) h3 (by omega)
    unfold insS insT
    rw [hk]
    split
    · refine (Good.bind (lo' := 1) (m := 3) il (by omega) (fun e' e1 e3 e4 => ?_) fun hw => evenS_bad hw).weak (by omega) (by omega)
      rw [e3]
      exact evenS_good e4 (by rw [e1]; exact h3.app e') h5 (by omega)
    · refine (Good.bind (lo' := 1) (m := 3) ir (by omega) (fun e' e1 e3 e4 => ?_) fun hw => evenS_bad hw).weak (by omega) (by omega)
      rw [e3]
      exact evenS_good (by rw [e1]; exact h2.app e') e4 h5 (by omega)
/-- .. another number at a place. -/
def setT (x : Int) : Tree → Int → Tree
  | .nil, _ => .nil
  | .node l p r, i => if i < tSize l then .node (setT x l i) p r else if tSize l < i then .node l p (setT x r (i - tSize l - 1)) else .node l ⟨0, x⟩ r
theorem setT_size (x : Int) : ∀ (t : Tree) (i : Int), tSize (setT x t i) = tSize t ∧ tHigh (setT x t i) = tHigh t
  | .nil, i => ⟨rfl, rfl⟩
  | .node l p r, i => by
    have hl := setT_size x l i
    have hr := setT_size x r (i - tSize l - 1)
    unfold setT
    split
    · exact ⟨by show tSize (setT x l i) + _ + 1 = tSize l + _ + 1; rw [hl.1], by show max (tHigh (setT x l i)) _ + 1 = max (tHigh l) _ + 1; rw [hl.2]⟩
    · split
      · exact ⟨by show _ + tSize (setT x r _) + 1 = _ + tSize r + 1; rw [hr.1], by show max _ (tHigh (setT x r _)) + 1 = max _ (tHigh r) + 1; rw [hr.2]⟩
      · exact ⟨rfl, rfl⟩
theorem setT_bal (x : Int) : ∀ {t : Tree} (i : Int), Bal t → Bal (setT x t i)
  | .nil, i, h => trivial
  | .node l p r, i, h => by
    obtain ⟨h1, h2, h3, h4⟩ := h
    have hl := setT_size x l i
    have hr := setT_size x r (i - tSize l - 1)
    unfold setT
    split
    · exact ⟨setT_bal x i h1, h2, by rw [hl.2]; exact h3, by rw [hl.2]; exact h4⟩
    · split
      · exact ⟨h1, setT_bal x _ h2, by rw [hr.2]; exact h3, by rw [hr.2]; exact h4⟩
      · exact ⟨h1, h2, h3, h4⟩
theorem setT_list (x : Int) : ∀ {t : Tree} {i : Int}, 0 ≤ i → i < tSize t → tList (setT x t i) = (tList t).set i.toNat ⟨0, x⟩
  | .nil, i, h0, h1 => by have e : tSize Tree.nil = 0 := rfl; omega
  | .node l p r, i, h0, h1 => by
    have e : tSize (.node l p r) = tSize l + tSize r + 1 := rfl
    have sl := tSize_list l
    unfold setT
    show _ = (tList l ++ p :: tList r).set i.toNat ⟨0, x⟩
    split
    · rename_i hi
      show tList (setT x l i) ++ p :: tList r = _
      rw [setT_list x h0 hi, List.set_append_left _ _ (by omega)]
    · split
      · rename_i hi hi2
        show tList l ++ p :: tList (setT x r _) = _
        rw [setT_list x (i := i - tSize l - 1) (by omega) (by omega), List.set_append_right _ _ (by omega), show i.toNat - (tList l).length = (i - tSize l - 1).toNat + 1 by omega, List.set_cons_succ]
      · rename_i hi hi2
        show tList l ++ ⟨0, x⟩ :: tList r = _
        rw [List.set_append_right _ _ (by omega), show i.toNat - (tList l).length = 0 by omega, List.set_cons_zero]
def setS (room : Int) (q : List Cell) (why x : Int) : Tree → Int → Int → St
  | .nil, _, _ => (q, why, 0)
  | .node l _ r, k, i =>
    if i < tSize l then madeS room (setS room q why x l (getC q k).left i).1 (setS room q why x l (getC q k).left i).2.1 (setS room q why x l (getC q k).left i).2.2 (getC q k).right ⟨0, (getC q k).val⟩
    else if tSize l < i then madeS room (setS room q why x r (getC q k).right (i - tSize l - 1)).1 (setS room q why x r (getC q k).right (i - tSize l - 1)).2.1 (getC q k).left (setS room q why x r (getC q k).right (i - tSize l - 1)).2.2 ⟨0, (getC q k).val⟩
    else madeS room q why (getC q k).left (getC q k).right ⟨0, x⟩
theorem setS_good {room x : Int} {q : List Cell} : ∀ {t : Tree} {k i : Int}, Rep kz q t k → 0 ≤ i → i < tSize t → tSize t ≤ 1000000 → Good kz room q 1 (tHigh t) (setS room q 0 x t k i) (setT x t i)
  | .nil, k, i, h, h0, h1, hs => by have e : tSize Tree.nil = 0 := rfl; omega
  | .node l p r, k, i, h, h0, hi1, hs => by
    have hk : (⟨0, (getC q k).val⟩ : PairD) = p := h.pair
    obtain ⟨h1, h2, h3, h4, h5, h6, _⟩ := h
    have e : tSize (.node l p r) = tSize l + tSize r + 1 := rfl
    have e2 : tHigh (.node l p r) = max (tHigh l) (tHigh r) + 1 := rfl
    have sl := tSize_nn l
    have sr := tSize_nn r
    have tl := setT_size x l i
    have tr := setT_size x r (i - tSize l - 1)
    have gl := tHigh_nn l
    have gr := tHigh_nn r
    unfold setS setT
    rw [hk]
    split
    · refine (Good.bind (lo' := 1) (m := 1) (setS_good h2 h0 (by omega) (by omega)) (by omega) (fun e' e1 e3 e4 => ?_) fun hw => madeS_bad hw).weak (by omega) (by omega)
      rw [e3]
      exact madeS_good e4 (by rw [e1]; exact h3.app e') h5 (by omega)
    · split
      · refine (Good.bind (lo' := 1) (m := 1) (setS_good h3 (by omega) (by omega) (by omega)) (by omega) (fun e' e1 e3 e4 => ?_) fun hw => madeS_bad hw).weak (by omega) (by omega)
        rw [e3]
        exact madeS_good (by rw [e1]; exact h2.app e') e4 h5 (by omega)
      · exact (madeS_good h2 h3 rfl (by omega)).weak (by omega) (by omega)
/-- .. one less. -/
def sdelT : Tree → Int → Tree
  | .nil, _ => .nil
  | .node l p r, i => if i < tSize l then evenT (sdelT l i) p r else if tSize l < i then evenT l p (sdelT r (i - tSize l - 1)) else if tSize l = 0 then r else if tSize r = 0 then l else evenT l (Go.Gm.nth (tList r) 0) (sdelT r 0)
theorem sdelT_size : ∀ {t : Tree} {i : Int}, 0 ≤ i → i < tSize t → tSize (sdelT t i) = tSize t - 1
  | .nil, i, h0, h1 => by have e : tSize Tree.nil = 0 := rfl; omega
  | .node l p r, i, h0, h1 => by
    have e : tSize (.node l p r) = tSize l + tSize r + 1 := rfl
    have sr := tSize_nn r
    have sl := tSize_nn l
    unfold sdelT
    split
    · rw [evenT_size, sdelT_size h0 (by omega)]; omega
    · split
      · rw [evenT_size, sdelT_size (by omega) (by omega)]; omega
      · split
        · omega
        · split
          · omega
          · rw [evenT_size, sdelT_size (Int.le_refl 0) (by omega)]; omega
theorem sdelT_bal : ∀ {t : Tree} (i : Int), Bal t → Bal (sdelT t i) ∧ tHigh t - 1 ≤ tHigh (sdelT t i) ∧ tHigh (sdelT t i) ≤ tHigh t
  | .nil, i, _ => ⟨trivial, by show (0 : Int) - 1 ≤ 0; omega, Int.le_refl _⟩
  | .node l p r, i, h => by
    obtain ⟨h1, h2, h3, h4⟩ := h
    have il := sdelT_bal i h1
    have ir := sdelT_bal (i - tSize l - 1) h2
    have i0 := sdelT_bal 0 h2
    have e : tHigh (.node l p r) = max (tHigh l) (tHigh r) + 1 := rfl
    have gl := tHigh_nn l
    have gr := tHigh_nn r
    have e1 : tHigh Tree.nil = 0 := rfl
    unfold sdelT
    split
    · have := even_dn_l (p := p) il.1 h2 h3 h4 il.2.1 il.2.2
      exact ⟨this.1, by omega, by omega⟩
    · split
      · have := even_dn_r (p := p) h1 ir.1 h3 h4 ir.2.1 ir.2.2
        exact ⟨this.1, by omega, by omega⟩
      · split
        · rename_i hz
          have := tSize_nil hz
          subst this
          exact ⟨h2, by omega, by omega⟩
        · split
          · rename_i hz
            have := tSize_nil hz
            subst this
            exact ⟨h1, by omega, by omega⟩
          · have := even_dn_r (p := Go.Gm.nth (tList r) 0) h1 i0.1 h3 h4 i0.2.1 i0.2.2
            exact ⟨this.1, by omega, by omega⟩
theorem cons_nth0 {l : List PairD} (h : 0 < l.length) : l = Go.Gm.nth l 0 :: l.eraseIdx 0 := by
  cases l with
  | nil => simp at h
  | cons x l => rfl
theorem sdelT_list : ∀ {t : Tree} {i : Int}, 0 ≤ i → i < tSize t → tList (sdelT t i) = (tList t).eraseIdx i.toNat
  | .nil, i, h0, h1 => by have e : tSize Tree.nil = 0 := rfl; omega
  | .node l p r, i, h0, h1 => by
    have e : tSize (.node l p r) = tSize l + tSize r + 1 := rfl
    have sl := tSize_list l
    have sr := tSize_list r
    have nr := tSize_nn r
    unfold sdelT
    show _ = (tList l ++ p :: tList r).eraseIdx i.toNat
    split
    · rename_i hi
      rw [evenT_list, sdelT_list h0 hi, List.eraseIdx_append_of_lt_length (by omega)]
    · split
      · rename_i hi hi2
        rw [evenT_list, sdelT_list (i := i - tSize l - 1) (by omega) (by omega), List.eraseIdx_append_of_length_le (by omega), show i.toNat - (tList l).length = (i - tSize l - 1).toNat + 1 by omega, List.eraseIdx_cons_succ]
      · rename_i hi hi2
        have hi3 : i.toNat = (tList l).length := by omega
        rw [List.eraseIdx_append_of_length_le (by omega), show i.toNat - (tList l).length = 0 by omega, List.eraseIdx_cons_zero]
        split
        · rename_i hz
          have := tSize_nil hz
          subst this; rfl
        · split
          · rename_i hz
            have := tSize_nil hz
            subst this
            show tList l = tList l ++ []
            rw [List.append_nil]
          · rw [evenT_list, sdelT_list (t := r) (i := 0) (Int.le_refl 0) (by omega)]
            conv => rhs; rw [cons_nth0 (l := tList r) (by omega)]
            rfl
def sdelS (room : Int) (q : List Cell) (why : Int) : Tree → Int → Int → Int × St
  | .nil, _, _ => (0, q, why, 0)
  | .node l _ r, k, i =>
    if i < tSize l then ((sdelS room q why l (getC q k).left i).1, evenS kz room (sdelS room q why l (getC q k).left i).2.1 (sdelS room q why l (getC q k).left i).2.2.1 (sdelS room q why l (getC q k).left i).2.2.2 (getC q k).right ⟨0, (getC q k).val⟩)
    else if tSize l < i then ((sdelS room q why r (getC q k).right (i - tSize l - 1)).1, evenS kz room (sdelS room q why r (getC q k).right (i - tSize l - 1)).2.1 (sdelS room q why r (getC q k).right (i - tSize l - 1)).2.2.1 (getC q k).left (sdelS room q why r (getC q k).right (i - tSize l - 1)).2.2.2 ⟨0, (getC q k).val⟩)
    else if (getC q k).left = 0 then ((getC q k).val, q, why, (getC q k).right)
    else if (getC q k).right = 0 then ((getC q k).val, q, why, (getC q k).left)
    else ((getC q k).val, evenS kz room (sdelS room q why r (getC q k).right 0).2.1 (sdelS room q why r (getC q k).right 0).2.2.1 (getC q k).left (sdelS room q why r (getC q k).right 0).2.2.2 ⟨0, (sdelS room q why r (getC q k).right 0).1⟩)
theorem Rep.zero_iff {kf : Int → Int} {q : List Cell} {t : Tree} {i : Int} (h : Rep kf q t i) : i = 0 ↔ tSize t = 0 := by
  constructor
  · intro e; rw [e] at h; rw [h.zero]; rfl
  · intro e
    have := tSize_nil e
    subst this; exact h
theorem Rep.key0 {q : List Cell} : ∀ {t : Tree} {i : Int}, Rep kz q t i → ∀ p ∈ tList t, p.key = 0
  | .nil, i, h, p, hp => by simp [tList] at hp
  | .node l x r, i, h, p, hp => by
    obtain ⟨h1, h2, h3, h4, h5, h6, _⟩ := h
    rcases List.mem_append.1 hp with hp | hp
    · exact h2.key0 p hp
    · rcases List.mem_cons.1 hp with rfl | hp
      · exact h5.symm
      · exact h3.key0 p hp
theorem sdelS_good {room : Int} {q : List Cell} : ∀ {t : Tree} {k i : Int}, Rep kz q t k → 0 ≤ i → i < tSize t → tSize t ≤ 1000000 → (sdelS room q 0 t k i).1 = (Go.Gm.nth (tList t) i.toNat).val ∧ Good kz room q 0 (3 * tHigh t) (sdelS room q 0 t k i).2 (sdelT t i)
  | .nil, k, i, h, h0, h1, hs => by have e : tSize Tree.nil = 0 := rfl; omega
  | .node l p r, k, i, h, h0, hi1, hs => by
    have hk : (⟨0, (getC q k).val⟩ : PairD) = p := h.pair
    have hkey := h.key0
    obtain ⟨h1, h2, h3, h4, h5, h6, _⟩ := h
    have e : tSize (.node l p r) = tSize l + tSize r + 1 := rfl
    have e2 : tHigh (.node l p r) = max (tHigh l) (tHigh r) + 1 := rfl
    have sl := tSize_list l
    have sr := tSize_list r
    have nl := tSize_nn l
    have nr := tSize_nn r
    have gl := tHigh_nn l
    have gr := tHigh_nn r
    have hgt : ∀ j, j < (tList (.node l p r)).length → Go.Gm.nth (tList (.node l p r)) j = if j < (tList l).length then Go.Gm.nth (tList l) j else if j = (tList l).length then p else Go.Gm.nth (tList r) (j - (tList l).length - 1) := fun j hj => by
      have hj2 : j < (tList l ++ p :: tList r).length := hj
      have hjl : j < (tList l).length + (tList r).length + 1 := by simp only [List.length_append, List.length_cons] at hj2; omega
      show Go.Gm.nth (tList l ++ p :: tList r) j = _
      rw [nth_eq hj2]
      split
      · rename_i h; rw [List.getElem_append_left h, nth_eq h]
      · rename_i h
        rw [List.getElem_append_right (by omega)]
        split
        · rename_i h'; subst h'; simp
        · rename_i h'
          rw [nth_eq (by omega)]
          simp [List.getElem_cons, show j - (tList l).length ≠ 0 by omega]
    have hlen : (tList (.node l p r)).length = (tList l).length + (tList r).length + 1 := by show (tList l ++ p :: tList r).length = _; simp; omega
    rw [hgt i.toNat (by rw [hlen]; omega)]
    unfold sdelS sdelT
    rw [hk]
    split
    · rename_i hi
      have il := sdelS_good (room := room) h2 h0 hi (by omega)
      have ts := sdelT_size h0 hi
      refine ⟨by rw [if_pos (by omega)]; exact il.1, (Good.bind (lo' := 1) (m := 3) il.2 (by omega) (fun e' e1 e3 e4 => ?_) fun hw => evenS_bad hw).weak (by omega) (by omega)⟩
      rw [e3]
      exact evenS_good e4 (by rw [e1]; exact h3.app e') h5 (by omega)
    · split
      · rename_i hi hi2
        have ir := sdelS_good (room := room) (i := i - tSize l - 1) h3 (by omega) (by omega) (by omega)
        have ts := sdelT_size (t := r) (i := i - tSize l - 1) (by omega) (by omega)
        refine ⟨by rw [if_neg (by omega), if_neg (by omega), show i.toNat - (tList l).length - 1 = (i - tSize l - 1).toNat by omega]; exact ir.1, (Good.bind (lo' := 1) (m := 3) ir.2 (by omega) (fun e' e1 e3 e4 => ?_) fun hw => evenS_bad hw).weak (by omega) (by omega)⟩
        rw [e3]
        exact evenS_good (by rw [e1]; exact h2.app e') e4 h5 (by omega)
      · rename_i hi hi2
        have hv : (getC q k).val = (if i.toNat < (tList l).length then Go.Gm.nth (tList l) i.toNat else if i.toNat = (tList l).length then p else Go.Gm.nth (tList r) (i.toNat - (tList l).length - 1)).val := by rw [if_neg (by omega), if_pos (by omega), ← hk]
        by_cases hz : (getC q k).left = 0
        · rw [if_pos hz, if_pos (h2.zero_iff.1 hz)]
          exact ⟨hv, [], (List.append_nil q).symm, by simp only [List.length_nil]; omega, .inl ⟨rfl, h3, by simp⟩⟩
        · rw [if_neg hz, if_neg (fun h => hz (h2.zero_iff.2 h))]
          by_cases hz2 : (getC q k).right = 0
          · rw [if_pos hz2, if_pos (h3.zero_iff.1 hz2)]
            exact ⟨hv, [], (List.append_nil q).symm, by simp only [List.length_nil]; omega, .inl ⟨rfl, h2, by simp⟩⟩
          · have hr0 : tSize r ≠ 0 := fun h => hz2 (h3.zero_iff.2 h)
            rw [if_neg hz2, if_neg hr0]
            have ir := sdelS_good (room := room) (i := 0) h3 (Int.le_refl 0) (by omega) (by omega)
            have ts := sdelT_size (t := r) (i := 0) (by omega) (by omega)
            have hp0 : (⟨0, (sdelS room q 0 r (getC q k).right 0).1⟩ : PairD) = Go.Gm.nth (tList r) 0 := by
              have h1 := ir.1
              have h2 := h3.key0 (Go.Gm.nth (tList r) 0) (nth_mem (by omega))
              rw [h1]
              show (⟨0, (Go.Gm.nth (tList r) 0).val⟩ : PairD) = _
              rw [← h2]
            refine ⟨hv, (Good.bind (lo' := 1) (m := 3) ir.2 (by omega) (fun e' e1 e3 e4 => ?_) fun hw => evenS_bad hw).weak (by omega) (by omega)⟩
            rw [e3, hp0]
            exact evenS_good (by rw [e1]; exact h2.app e') e4 (h3.key0 _ (nth_mem (by omega))).symm (by omega)

end Go.Proofs.Ytdfidiehkkbimaa
