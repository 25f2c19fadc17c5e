/- Trees of cells; what even and made make. No condition beyond those that each theorem says. -/
import Derived.Test.YtdfidiehkkbimaaAv0
import Derived.Test.YtdfidiehkkbimaaAr2
namespace Go.Proofs.Ytdfidiehkkbimaa
open Go Go.Gm
set_option linter.unusedVariables false
set_option linter.unusedSimpArgs false
set_option maxHeartbeats 4000000
set_option maxRecDepth 8000


def getC (q : List Cell) (i : Int) : Cell := (getP q i).1
theorem getC_zero (q : List Cell) : getC q 0 = default := by unfold getC getP; rw [if_neg (by omega)]
theorem getC_in {q : List Cell} {i : Int} (h : 1 ≤ i ∧ i ≤ q.length) : getC q i = nth q (i - 1).toNat := by unfold getC getP; rw [if_pos h]
theorem getC_app {q : List Cell} {i : Int} (h : 1 ≤ i ∧ i ≤ q.length) (e : List Cell) : getC (q ++ e) i = getC q i := by
  rw [getC_in h, getC_in (by simp only [List.length_append]; omega), nth_eq (show (i - 1).toNat < q.length by omega), nth_eq (show (i - 1).toNat < (q ++ e).length by simp only [List.length_append]; omega), List.getElem_append_left (show (i - 1).toNat < q.length by omega)]
theorem getC_last (q : List Cell) (c : Cell) : getC (q ++ [c]) ((q.length : Int) + 1) = c := by
  rw [getC_in (by simp only [List.length_append, List.length_cons, List.length_nil]; omega), show ((q.length : Int) + 1 - 1).toNat = q.length by omega, nth_eq (by simp)]
  simp
/-- The cells of an arena at a place are a tree. -/
def Rep (kf : Int → Int) (q : List Cell) : Tree → Int → Prop
  | .nil, i => i = 0
  | .node l p r, i => (1 ≤ i ∧ i ≤ q.length) ∧ Rep kf q l (getC q i).left ∧ Rep kf q r (getC q i).right ∧ (getC q i).key = p.key ∧ kf p.key = p.key ∧ (getC q i).val = p.val ∧ (getC q i).size = tSize l + tSize r + 1 ∧ (getC q i).high = max (tHigh l) (tHigh r) + 1
theorem Rep.high {kf : Int → Int} {q : List Cell} : ∀ {t : Tree} {i : Int}, Rep kf q t i → (getC q i).high = tHigh t
  | .nil, i, h => by rw [show i = 0 from h, getC_zero]; rfl
  | .node l p r, i, h => h.2.2.2.2.2.2.2
theorem Rep.size {kf : Int → Int} {q : List Cell} : ∀ {t : Tree} {i : Int}, Rep kf q t i → (getC q i).size = tSize t
  | .nil, i, h => by rw [show i = 0 from h, getC_zero]; rfl
  | .node l p r, i, h => h.2.2.2.2.2.2.1
theorem Rep.range {kf : Int → Int} {q : List Cell} : ∀ {t : Tree} {i : Int}, Rep kf q t i → 0 ≤ i ∧ i ≤ q.length
  | .nil, i, h => by rw [show i = 0 from h]; omega
  | .node l p r, i, h => by have := h.1; omega
theorem Rep.app {kf : Int → Int} {q : List Cell} (e : List Cell) : ∀ {t : Tree} {i : Int}, Rep kf q t i → Rep kf (q ++ e) t i
  | .nil, i, h => h
  | .node l p r, i, h => by
    obtain ⟨h1, h2, h3, h4⟩ := h
    have hl := h2.app e
    have hr := h3.app e
    unfold Rep
    rw [getC_app h1]
    exact ⟨⟨h1.1, by simp only [List.length_append]; omega⟩, hl, hr, h4⟩
theorem Rep.zero {kf : Int → Int} {q : List Cell} {t : Tree} (h : Rep kf q t 0) : t = .nil := by
  match t, h with
  | .nil, _ => rfl
  | .node l p r, h => have := h.1; omega
theorem Rep.node {kf : Int → Int} {q : List Cell} {t : Tree} {i : Int} (h : Rep kf q t i) (hi : i ≠ 0) : ∃ l p r, t = .node l p r := by
  match t, h with
  | .nil, h => exact absurd h hi
  | .node l p r, h => exact ⟨l, p, r, rfl⟩
def pairOf (kf : Int → Int) (c : Cell) : PairD := ⟨kf c.key, c.val⟩
theorem Rep.pair {kf : Int → Int} {q : List Cell} {l r : Tree} {p : PairD} {i : Int} (h : Rep kf q (.node l p r) i) : pairOf kf (getC q i) = p := by
  obtain ⟨_, _, _, h4, h5, h6, _⟩ := h
  unfold pairOf
  rw [h4, h5, h6]
/-- What the builder's functions make of the cells, the error there is, and a place. -/
abbrev St := List Cell × Int × Int
def mCell (q : List Cell) (l r : Int) (p : PairD) : Cell := ⟨l, r, p.key, p.val, IntKind.wrap .i64 (IntKind.wrap .i64 ((getC q l).size + (getC q r).size) + 1), IntKind.wrap .i64 ((if (getC q l).high < (getC q r).high then (getC q r).high else (getC q l).high) + 1)⟩
def madeS (room : Int) (q : List Cell) (why l r : Int) (p : PairD) : St :=
  if why ≠ 0 then (q, why, 0) else ((arPut room q (mCell q l r p)).1, (arPut room q (mCell q l r p)).2.2, (arPut room q (mCell q l r p)).2.1)
def evenS (kf : Int → Int) (room : Int) (q : List Cell) (why l r : Int) (p : PairD) : St :=
  if IntKind.wrap .i64 ((getC q r).high + 1) < (getC q l).high then
    if (getC q (getC q l).right).high ≤ (getC q (getC q l).left).high then
      let m := madeS room q why (getC q l).right r p
      madeS room m.1 m.2.1 (getC q l).left m.2.2 (pairOf kf (getC q l))
    else
      let z := getC q (getC q l).right
      let m := madeS room q why (getC q l).left z.left (pairOf kf (getC q l))
      let n := madeS room m.1 m.2.1 z.right r p
      madeS room n.1 n.2.1 m.2.2 n.2.2 (pairOf kf z)
  else if IntKind.wrap .i64 ((getC q l).high + 1) < (getC q r).high then
    if (getC q (getC q r).left).high ≤ (getC q (getC q r).right).high then
      let m := madeS room q why l (getC q r).left p
      madeS room m.1 m.2.1 m.2.2 (getC q r).right (pairOf kf (getC q r))
    else
      let z := getC q (getC q r).left
      let m := madeS room q why l z.left p
      let n := madeS room m.1 m.2.1 z.right (getC q r).right (pairOf kf (getC q r))
      madeS room n.1 n.2.1 m.2.2 n.2.2 (pairOf kf z)
  else madeS room q why l r p
theorem madeS_bad {room : Int} {q : List Cell} {why l r : Int} {p : PairD} (h : why ≠ 0) : madeS room q why l r p = (q, why, 0) := if_pos h
theorem evenS_bad {kf : Int → Int} {room : Int} {q : List Cell} {why l r : Int} {p : PairD} (h : why ≠ 0) : evenS kf room q why l r p = (q, why, 0) := by
  unfold evenS
  split
  · split
    · simp only [madeS_bad h]
    · simp only [madeS_bad h]
  · split
    · split
      · simp only [madeS_bad h]
      · simp only [madeS_bad h]
    · exact madeS_bad h
/-- The tree is there, of no more than n cells more; or the room is too small for n more. -/
def Good (kf : Int → Int) (room : Int) (q : List Cell) (lo n : Int) (x : St) (t : Tree) : Prop :=
  ∃ e : List Cell, x.1 = q ++ e ∧ (e.length : Int) ≤ n ∧ ((x.2.1 = 0 ∧ Rep kf x.1 t x.2.2 ∧ lo ≤ e.length) ∨ (x.2.1 = 2 ∧ room < q.length + n))
theorem Good.bind {kf : Int → Int} {room : Int} {q : List Cell} {lo n lo' m : Int} {x y : St} {t t' : Tree} (h : Good kf room q lo n x t) (hm : 0 ≤ m) (h0 : ∀ e, x.1 = q ++ e → x.2.1 = 0 → Rep kf x.1 t x.2.2 → Good kf room x.1 lo' m y t') (h1 : x.2.1 ≠ 0 → y = (x.1, x.2.1, 0)) : Good kf room q (lo + lo') (n + m) y t' := by
  obtain ⟨e, e1, e2, ⟨e3, e4, e5⟩ | ⟨e3, e4⟩⟩ := h
  · obtain ⟨f, f1, f2, f3⟩ := h0 e e1 e3 e4
    refine ⟨e ++ f, by rw [f1, e1, List.append_assoc], by simp only [List.length_append]; omega, ?_⟩
    rw [e1] at f3
    simp only [List.length_append] at f3 ⊢
    rcases f3 with ⟨f3, f4, f5⟩ | ⟨f3, f4⟩
    · exact .inl ⟨f3, f4, by omega⟩
    · exact .inr ⟨f3, by omega⟩
  · rw [h1 (by omega)]
    exact ⟨e, e1, by omega, .inr ⟨e3, by omega⟩⟩
theorem Good.weak {kf : Int → Int} {room : Int} {q : List Cell} {lo n lo' n' : Int} {x : St} {t : Tree} (h : Good kf room q lo n x t) (h1 : lo' ≤ lo) (h2 : n ≤ n') : Good kf room q lo' n' x t := by
  obtain ⟨e, e1, e2, ⟨e3, e4, e5⟩ | ⟨e3, e4⟩⟩ := h
  · exact ⟨e, e1, by omega, .inl ⟨e3, e4, by omega⟩⟩
  · exact ⟨e, e1, by omega, .inr ⟨e3, by omega⟩⟩
theorem madeS_good {kf : Int → Int} {room : Int} {q : List Cell} {li ri : Int} {l r : Tree} {p : PairD} (hl : Rep kf q l li) (hr : Rep kf q r ri) (hp : kf p.key = p.key) (hs : tSize l + tSize r ≤ 1000000) : Good kf room q 1 1 (madeS room q 0 li ri p) (.node l p r) := by
  have bl := hl.range
  have br := hr.range
  have sl := tSize_nn l
  have sr := tSize_nn r
  have gl := tHigh_nn l
  have gr := tHigh_nn r
  have kl := tHigh_le l
  have kr := tHigh_le r
  unfold madeS
  rw [if_neg (by omega)]
  unfold arPut
  rw [if_neg (by unfold arBad mCell; simp only; omega)]
  split
  · exact ⟨[], (List.append_nil q).symm, by simp, .inr ⟨rfl, by omega⟩⟩
  · refine ⟨[mCell q li ri p], rfl, by simp, .inl ⟨rfl, ?_, by simp⟩⟩
    unfold Rep
    simp only
    rw [getC_last]
    refine ⟨⟨by omega, by simp only [List.length_append, List.length_cons, List.length_nil]; omega⟩, hl.app _, hr.app _, rfl, hp, rfl, ?_, ?_⟩
    · unfold mCell
      simp only
      rw [hl.size, hr.size, wrap_i64 (x := tSize l + tSize r) (by omega), wrap_i64 (by omega)]
    · unfold mCell
      simp only
      rw [hl.high, hr.high, show (if tHigh l < tHigh r then tHigh r else tHigh l) = max (tHigh l) (tHigh r) by split <;> omega, wrap_i64 (by omega)]
theorem evenS_good {kf : Int → Int} {room : Int} {q : List Cell} {li ri : Int} {l r : Tree} {p : PairD} (hl : Rep kf q l li) (hr : Rep kf q r ri) (hp : kf p.key = p.key) (hs : tSize l + tSize r ≤ 1000000) : Good kf room q 1 3 (evenS kf room q 0 li ri p) (evenT l p r) := by
  have sl := tSize_nn l
  have sr := tSize_nn r
  have gl := tHigh_nn l
  have gr := tHigh_nn r
  have kl := tHigh_le l
  have kr := tHigh_le r
  unfold evenS evenT
  rw [hl.high, hr.high, wrap_i64 (by omega), wrap_i64 (by omega)]
  split
  · rename_i hh
    match l, hl with
    | .nil, hl => simp [tHigh] at hh; omega
    | .node ll lp lr, hl =>
      have hk := hl
      obtain ⟨h1, h2, h3, h4, h5, h6, _⟩ := hl
      have s1 : tSize (.node ll lp lr) = tSize ll + tSize lr + 1 := rfl
      have s2 := tSize_nn ll
      have s3 := tSize_nn lr
      rw [h3.high, h2.high, hk.pair]
      show Good kf room q 1 3 _ (if tHigh lr ≤ tHigh ll then _ else _)
      split
      · refine (Good.bind (lo := 1) (n := 1) (lo' := 1) (m := 1) (madeS_good h3 hr hp (by omega)) (by omega) (fun e e1 e3 e4 => ?_) fun h => madeS_bad h).weak (by omega) (by omega)
        rw [e3]
        refine madeS_good (by rw [e1]; exact h2.app e) e4 h5 ?_
        show tSize ll + (tSize lr + tSize r + 1) ≤ _
        omega
      · rename_i h9
        match lr, h3 with
        | .nil, h3 => simp [tHigh] at h9; have := tHigh_nn ll; omega
        | .node a z b, h3 =>
          have hz := h3
          obtain ⟨j1, j2, j3, j4, j5, j6, _⟩ := h3
          have s4 : tSize (.node a z b) = tSize a + tSize b + 1 := rfl
          have s5 := tSize_nn a
          have s6 := tSize_nn b
          show Good kf room q 1 3 _ (.node (.node ll lp a) z (.node b p r))
          refine (Good.bind (lo := 1) (n := 1) (lo' := 2) (m := 2) (madeS_good h2 j2 h5 (by omega)) (by omega) (fun e e1 e3 e4 => ?_) fun h => ?_).weak (by omega) (by omega)
          · simp only
            rw [e3]
            generalize madeS room q 0 (getC q li).left (getC q (getC q li).right).left lp = mm at e1 e3 e4 ⊢
            refine (Good.bind (lo := 1) (n := 1) (lo' := 1) (m := 1) (madeS_good (l := b) (r := r) (by rw [e1]; exact j3.app e) (by rw [e1]; exact hr.app e) hp (by omega)) (by omega) (fun f f1 f3 f4 => ?_) fun h => madeS_bad h).weak (by omega) (by omega)
            rw [f3, hz.pair]
            refine madeS_good (by rw [f1]; exact e4.app f) f4 j5 ?_
            show (tSize ll + tSize a + 1) + (tSize b + tSize r + 1) ≤ _
            omega
          · simp only [madeS_bad h]
  · split
    · rename_i hn hh
      match r, hr with
      | .nil, hr => simp [tHigh] at hh; omega
      | .node rl rp rr, hr =>
        have hk := hr
        obtain ⟨h1, h2, h3, h4, h5, h6, _⟩ := hr
        have s1 : tSize (.node rl rp rr) = tSize rl + tSize rr + 1 := rfl
        have s2 := tSize_nn rl
        have s3 := tSize_nn rr
        rw [h3.high, h2.high, hk.pair]
        show Good kf room q 1 3 _ (if tHigh rl ≤ tHigh rr then _ else _)
        split
        · refine (Good.bind (lo := 1) (n := 1) (lo' := 1) (m := 1) (madeS_good hl h2 hp (by omega)) (by omega) (fun e e1 e3 e4 => ?_) fun h => madeS_bad h).weak (by omega) (by omega)
          rw [e3]
          refine madeS_good e4 (by rw [e1]; exact h3.app e) h5 ?_
          show (tSize l + tSize rl + 1) + tSize rr ≤ _
          omega
        · rename_i h9
          match rl, h2 with
          | .nil, h2 => simp [tHigh] at h9; have := tHigh_nn rr; omega
          | .node a z b, h2 =>
            have hz := h2
            obtain ⟨j1, j2, j3, j4, j5, j6, _⟩ := h2
            have s4 : tSize (.node a z b) = tSize a + tSize b + 1 := rfl
            have s5 := tSize_nn a
            have s6 := tSize_nn b
            show Good kf room q 1 3 _ (.node (.node l p a) z (.node b rp rr))
            refine (Good.bind (lo := 1) (n := 1) (lo' := 2) (m := 2) (madeS_good hl j2 hp (by omega)) (by omega) (fun e e1 e3 e4 => ?_) fun h => ?_).weak (by omega) (by omega)
            · simp only
              rw [e3]
              generalize madeS room q 0 li (getC q (getC q ri).left).left p = mm at e1 e3 e4 ⊢
              refine (Good.bind (lo := 1) (n := 1) (lo' := 1) (m := 1) (madeS_good (l := b) (r := rr) (by rw [e1]; exact j3.app e) (by rw [e1]; exact h3.app e) h5 (by omega)) (by omega) (fun f f1 f3 f4 => ?_) fun h => madeS_bad h).weak (by omega) (by omega)
              rw [f3, hz.pair]
              refine madeS_good (by rw [f1]; exact e4.app f) f4 j5 ?_
              show (tSize l + tSize a + 1) + (tSize b + tSize rr + 1) ≤ _
              omega
            · simp only [madeS_bad h]
    · exact (madeS_good hl hr hp hs).weak (by omega) (by omega)

end Go.Proofs.Ytdfidiehkkbimaa
