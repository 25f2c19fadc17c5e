/- Plain law of layer 9. No condition beyond those that each theorem says. -/
import Derived.Test.YtpjjmolibanakaaDoorLxX
import Derived.Test.YtpjjmolibanakaaDoorNu1
import Derived.Test.YtpjjmolibanakaaDoorNu7
import Derived.Test.YtpjjmolibanakaaDoorDa1
import Derived.Test.YtpjjmolibanakaaDoorPk2
import Derived.Test.YtpjjmolibanakaaDoorLibX
namespace Go.Proofs.YtpjjmolibanakaaDoor
open Go Go.Gm
set_option linter.unusedVariables false
set_option linter.unusedSimpArgs false
set_option maxHeartbeats 4000000
set_option maxRecDepth 8000

def noOp : OpD := ⟨false, 0, 0, 0⟩
def cutL (c : UInt8) (s : List UInt8) : List UInt8 × List UInt8 × Bool := if Lib.indexByte s c < 0 then (s, [], false) else (s.take (Lib.indexByte s c).toNat, s.drop ((Lib.indexByte s c).toNat + 1), true)
def figs (s : List UInt8) : Bool := decide (s ≠ []) && s.all digit
def partsL (r : List UInt8) : List (List UInt8) := if (cutL 64 r).2.2 = true then (if (cutL 46 (cutL 64 r).2.1).2.2 = true then [(cutL 64 r).1, (cutL 46 (cutL 64 r).2.1).1, (cutL 46 (cutL 64 r).2.1).2.1] else [(cutL 64 r).1, (cutL 46 (cutL 64 r).2.1).1]) else [(cutL 64 r).1]
def opCut (s : List UInt8) : List (List UInt8) × Bool := if (partsL (s.drop 1)).all figs = true then (partsL (s.drop 1), (cutL 64 (s.drop 1)).2.2 == decide (((nth s 0).toNat : Int) = 114)) else ([], false)
def opForm (b : UInt8) (r : List UInt8) : Option (List (List UInt8)) :=
  match r.dropWhile digit with
  | [] => if r.takeWhile digit ≠ [] ∧ b ≠ 114 then some [r.takeWhile digit] else none
  | x :: e => if x = 64 ∧ b = 114 ∧ r.takeWhile digit ≠ [] then
      match e.dropWhile digit with
      | [] => if e.takeWhile digit ≠ [] then some [r.takeWhile digit, e.takeWhile digit] else none
      | y :: e2 => if y = 46 ∧ e.takeWhile digit ≠ [] ∧ figs e2 = true then some [r.takeWhile digit, e.takeWhile digit, e2] else none
      else none
theorem cutL_cons (c b : UInt8) (l : List UInt8) : cutL c (b :: l) = if b = c then ([], l, true) else (b :: (cutL c l).1, (cutL c l).2.1, (cutL c l).2.2) := by
  have hb := indexByte_lt c l
  unfold cutL
  by_cases h : b = c
  · rw [if_pos h, show Lib.indexByte (b :: l) c = 0 by unfold Lib.indexByte; rw [if_pos (by simpa using h)]]
    rfl
  · rw [if_neg h]
    by_cases h1 : Lib.indexByte l c = -1
    · rw [show Lib.indexByte (b :: l) c = -1 by unfold Lib.indexByte; rw [if_neg (by simpa using h), if_pos (by simpa using h1)], h1]
      rfl
    · rw [show Lib.indexByte (b :: l) c = Lib.indexByte l c + 1 by conv => lhs; unfold Lib.indexByte; rw [if_neg (by simpa using h), if_neg (by simpa using h1)]]
      rw [if_neg (by omega), if_neg (by omega), show (Lib.indexByte l c + 1).toNat = (Lib.indexByte l c).toNat + 1 by omega]
      rfl
theorem span_cut {c : UInt8} (hc : digit c = false) : ∀ r : List UInt8, (r.dropWhile digit = [] → cutL c r = (r, [], false) ∧ r.takeWhile digit = r) ∧ (∀ e, r.dropWhile digit = c :: e → cutL c r = (r.takeWhile digit, e, true)) ∧ (∀ x e, r.dropWhile digit = x :: e → x ≠ c → (cutL c r).1.all digit = false)
  | [] => ⟨fun _ => ⟨rfl, rfl⟩, fun e h => (by cases h), fun x e h => (by cases h)⟩
  | b :: l => by
    obtain ⟨h1, h2, h3⟩ := span_cut hc l
    rw [cutL_cons]
    by_cases hb : digit b = true
    · have hbc : b ≠ c := by intro e; rw [e, hc] at hb; cases hb
      rw [if_neg hbc, List.dropWhile_cons_of_pos hb, List.takeWhile_cons_of_pos hb]
      refine ⟨fun h => ?_, fun e h => ?_, fun x e h hx => ?_⟩
      · rw [(h1 h).1, (h1 h).2]; exact ⟨rfl, rfl⟩
      · rw [h2 e h]
      · rw [List.all_cons, h3 x e h hx, Bool.and_false]
    · rw [List.dropWhile_cons_of_neg hb, List.takeWhile_cons_of_neg hb]
      refine ⟨fun h => (by cases h), fun e h => ?_, fun x e h hx => ?_⟩
      · rw [List.cons.injEq] at h
        rw [if_pos h.1, h.2]
      · rw [List.cons.injEq] at h
        rw [if_neg (by rw [h.1]; exact hx), List.all_cons]
        simp [hb]
theorem span_all (r : List UInt8) : (r.takeWhile digit).all digit = true := by simp
theorem figs_span (r : List UInt8) : figs (r.takeWhile digit) = decide (r.takeWhile digit ≠ []) := by unfold figs; rw [span_all, Bool.and_true]
theorem figs_not {s : List UInt8} (h : s.all digit = false) : figs s = false := by unfold figs; rw [h, Bool.and_false]
theorem byte_r (b : UInt8) : decide ((b.toNat : Int) = 114) = decide (b = 114) := by
  refine decide_eq_decide.2 ⟨fun h => ?_, fun h => by rw [h]; rfl⟩
  exact is_byte (d := 114) (by rw [h]; rfl)
theorem cut_form (b : UInt8) (r : List UInt8) : (opCut (b :: r)).2 = (opForm b r).isSome ∧ ∀ l, opForm b r = some l → (opCut (b :: r)).1 = l := by
  have e0 : (b :: r).drop 1 = r := rfl
  have e1 : nth (b :: r) 0 = b := rfl
  unfold opCut
  rw [e0, e1, byte_r]
  obtain ⟨h1, h2, h3⟩ := span_cut (c := 64) (by decide) r
  unfold opForm
  match hE : r.dropWhile digit with
  | [] =>
    obtain ⟨g1, g2⟩ := h1 hE
    unfold partsL
    rw [g1]
    simp only [Bool.false_eq_true, if_false]
    have hall : r.all digit = true := by have := span_all r; rwa [g2] at this
    rw [g2]
    by_cases hr : r = []
    · subst hr; simp [figs]
    · by_cases hb : b = 114
      · simp [figs, hr, hall, hb]
      · simp [figs, hr, hall, hb]
  | x :: e =>
    by_cases hx : x = 64
    · subst hx
      have g1 := h2 e hE
      obtain ⟨k1, k2, k3⟩ := span_cut (c := 46) (by decide) e
      unfold partsL
      rw [g1]
      simp only [if_true, true_and]
      by_cases hD : r.takeWhile digit = []
      · have hf : figs (r.takeWhile digit) = false := by rw [hD]; rfl
        rw [if_neg (c := b = 114 ∧ _) (by simp [hD])]
        split <;> simp [hf]
      · have hf : figs (r.takeWhile digit) = true := by rw [figs_span]; simpa using hD
        by_cases hb : b = 114
        · subst hb
          rw [if_pos (c := (114 : UInt8) = 114 ∧ _) ⟨rfl, hD⟩]
          match hE2 : e.dropWhile digit with
          | [] =>
            obtain ⟨q1, q2⟩ := k1 hE2
            have hall : e.all digit = true := by have := span_all e; rwa [q2] at this
            rw [q1]
            simp only [Bool.false_eq_true, if_false]
            rw [q2]
            by_cases he : e = []
            · subst he; simp [figs]
            · have hfe : figs e = true := by simp [figs, he, hall]
              simp [hf, hfe, he]
          | y :: e2 =>
            by_cases hy : y = 46
            · subst hy
              rw [k2 e2 hE2]
              simp only [if_true, true_and]
              by_cases hD2 : e.takeWhile digit = []
              · have hf2 : figs (e.takeWhile digit) = false := by rw [hD2]; rfl
                rw [if_neg (c := e.takeWhile digit ≠ [] ∧ _) (by simp [hD2])]
                simp only [List.all_cons, hf2, Bool.false_and, Bool.and_false, Bool.false_eq_true, if_false]
                exact ⟨rfl, fun l h => by cases h⟩
              · have hf2 : figs (e.takeWhile digit) = true := by rw [figs_span]; simpa using hD2
                by_cases hf3 : figs e2 = true
                · simp [hf, hf2, hf3, hD2]
                · simp [hf3]
            · have hf2 : figs (cutL 46 e).1 = false := figs_not (k3 y e2 hE2 hy)
              dsimp only
              rw [if_neg (c := y = 46 ∧ _) (by simp [hy])]
              split <;> simp [hf2]
        · rw [if_neg (c := b = 114 ∧ _) (by simp [hb])]
          have : decide (b = 114) = false := decide_eq_false hb
          split <;> (split <;> simp [this])
    · dsimp only
      rw [if_neg (c := x = 64 ∧ _) (by simp [hx])]
      have hf : figs (cutL 64 r).1 = false := figs_not (h3 x e hE hx)
      have hp : (partsL r).all figs = false := by unfold partsL; split <;> (try split) <;> simp [hf]
      rw [hp, if_neg (by simp)]
      exact ⟨rfl, fun l h => by cases h⟩
def rightO (o : OpD) : Bool := if o.read = true then rightV ⟨o.tx, o.key, o.nth⟩ else (idB o.key && decide (o.tx = 0)) && decide (o.nth = 0)
def ofO (o : OpD) : VerD := if o.read = true then ⟨o.tx, o.key, o.nth⟩ else noV
def textO (o : OpD) : List UInt8 := if rightO o = false then [] else if o.read = false then 119 :: textL o.key else if o.tx = 0 then (114 :: textL o.key) ++ [64, 48] else (((114 :: textL o.key) ++ [64] ++ textL o.tx) ++ [46]) ++ textL o.nth
def badR : List (List UInt8) → Int
  | [] => 0
  | x :: r => if (readR x).2 ≠ 0 then (readR x).2 else badR r
def valsR (l : List (List UInt8)) : List Int := l.map fun x => (readR x).1
def opMk (rd : Bool) (l : List Int) : OpD := ⟨rd, nth l 0, nth l 1, nth l 2⟩
def opNums (rd : Bool) (ps : List (List UInt8)) : OpD × Int :=
  if badR ps ≠ 0 then (noOp, badR ps) else if rd = true ∧ decide ((opMk rd (valsR ps)).tx = 0) ≠ decide (ps.length = 2) then (noOp, 5) else if rightO (opMk rd (valsR ps)) = true then (opMk rd (valsR ps), 0) else (noOp, 1)
def opR (s : List UInt8) : OpD × Int :=
  if s = [] ∨ (nth s 0 ≠ 119 ∧ nth s 0 ≠ 114) then (noOp, 5) else match opForm (nth s 0) (s.drop 1) with
  | none => (noOp, 5)
  | some l => opNums (decide (nth s 0 = 114)) l
theorem bad_at : ∀ {l : List (List UInt8)} {i : Nat}, i < l.length → (∀ j, j < i → (readR (nth l j)).2 = 0) → (readR (nth l i)).2 ≠ 0 → badR l = (readR (nth l i)).2
  | [], i, h, _, _ => by simp at h
  | x :: r, 0, _, _, h => by rw [badR, show nth (x :: r) 0 = x from rfl, if_pos (show (readR x).2 ≠ 0 from h)]
  | x :: r, i + 1, h, k, hb => by
    have h0 := k 0 (by omega)
    rw [badR, if_neg (by rw [show nth (x :: r) 0 = x from rfl] at h0; simp [h0])]
    exact bad_at (l := r) (i := i) (by simpa using h) (fun j hj => k (j + 1) (by omega)) hb
theorem bad_none : ∀ {l : List (List UInt8)}, (∀ j, j < l.length → (readR (nth l j)).2 = 0) → badR l = 0
  | [], _ => rfl
  | x :: r, k => by
    have h0 := k 0 (by simp)
    rw [badR, if_neg (by rw [show nth (x :: r) 0 = x from rfl] at h0; simp [h0])]
    exact bad_none (l := r) fun j hj => k (j + 1) (by simpa using hj)
theorem nth_map {α β : Type} [Inhabited α] [Inhabited β] {f : α → β} {l : List α} {i : Nat} (h : i < l.length) : nth (l.map f) i = f (nth l i) := by
  rw [nth_eq (by simpa using h), nth_eq h]
  simp
theorem nth_set {q : List Int} {i j : Nat} {v : Int} (h : i < q.length) : nth (q.set i v) j = if j = i then v else nth q j := by
  unfold nth
  rw [List.getD_eq_getElem?_getD, List.getD_eq_getElem?_getD, List.getElem?_set]
  by_cases e : i = j
  · subst e; simp [h]
  · rw [if_neg e, if_neg (fun h => e h.symm)]
theorem set_step {q : List Int} {i : Nat} {v : Int} {f : Nat → Int} (h : i < q.length) (k : ∀ j, j < i → nth q j = f j) (hv : v = f i) : ∀ j, j < i + 1 → nth (q.set i v) j = f j := by
  intro j hj
  rw [nth_set h]
  by_cases he : j = i
  · rw [if_pos he, he, hv]
  · rw [if_neg he]
    exact k j (by omega)
theorem nth_out {α : Type} [Inhabited α] {l : List α} {i : Nat} (h : l.length ≤ i) : nth l i = default := by unfold nth; rw [List.getD_eq_getElem?_getD, List.getElem?_eq_none h]; rfl
theorem three {l : List Int} (h : l.length = 3) : ∃ x0 x1 x2, l = [x0, x1, x2] := by
  match l, h with
  | [x0, x1, x2], _ => exact ⟨x0, x1, x2, rfl⟩
theorem opR_head {s : List UInt8} (h : s = [] ∨ (nth s 0 ≠ 119 ∧ nth s 0 ≠ 114)) : opR s = (noOp, 5) := by unfold opR; rw [if_pos h]
theorem opR_form {s : List UInt8} (h : ¬ (s = [] ∨ (nth s 0 ≠ 119 ∧ nth s 0 ≠ 114))) {l : List (List UInt8)} (k : opForm (nth s 0) (s.drop 1) = some l) : opR s = opNums (decide (nth s 0 = 114)) l := by unfold opR; rw [if_neg h, k]
theorem opR_none {s : List UInt8} (k : opForm (nth s 0) (s.drop 1) = none) : opR s = (noOp, 5) := by
  unfold opR
  split
  · rfl
  · rw [k]
theorem cons_eq {s : List UInt8} (h : s ≠ []) : s = nth s 0 :: s.drop 1 := by
  match s, h with
  | b :: r, _ => rfl
theorem opR_cut {s : List UInt8} (h : s ≠ []) (k : (opCut s).2 = false) : opR s = (noOp, 5) := by
  refine opR_none ?_
  have := (cut_form (nth s 0) (s.drop 1)).1
  rw [← cons_eq h, k] at this
  cases hf : opForm (nth s 0) (s.drop 1) with
  | none => rfl
  | some l => rw [hf] at this; cases this
theorem opR_ok {s : List UInt8} (h : ¬ (s = [] ∨ (nth s 0 ≠ 119 ∧ nth s 0 ≠ 114))) (k : (opCut s).2 = true) : opR s = opNums (decide (nth s 0 = 114)) (opCut s).1 := by
  have h0 : s ≠ [] := fun e => h (.inl e)
  obtain ⟨h1, h2⟩ := cut_form (nth s 0) (s.drop 1)
  rw [← cons_eq h0] at h1 h2
  cases hf : opForm (nth s 0) (s.drop 1) with
  | none => rw [hf, k] at h1; cases h1
  | some l => rw [h2 l hf, opR_form h hf]
theorem parts_len (r : List UInt8) : 1 ≤ (partsL r).length ∧ (partsL r).length ≤ 3 := by
  unfold partsL
  split
  · split <;> simp
  · simp
theorem cut_len {s : List UInt8} (h : (opCut s).2 = true) : 1 ≤ (opCut s).1.length ∧ (opCut s).1.length ≤ 3 := by
  unfold opCut at h ⊢
  split at h
  · rw [if_pos (by assumption)]; exact parts_len _
  · cases h
theorem cutL_len (c : UInt8) (s : List UInt8) : (cutL c s).1.length ≤ s.length ∧ (cutL c s).2.1.length ≤ s.length := by
  unfold cutL
  split
  · exact ⟨Nat.le_refl _, Nat.zero_le _⟩
  · exact ⟨by rw [List.length_take]; omega, by rw [List.length_drop]; omega⟩
theorem parts_small (r : List UInt8) : ∀ x ∈ partsL r, x.length ≤ r.length := by
  have h1 := cutL_len 64 r
  have h2 := cutL_len 46 (cutL 64 r).2.1
  unfold partsL
  intro x hx
  split at hx
  · split at hx
    · simp only [List.mem_cons, List.not_mem_nil, or_false] at hx
      rcases hx with rfl | rfl | rfl <;> omega
    · simp only [List.mem_cons, List.not_mem_nil, or_false] at hx
      rcases hx with rfl | rfl <;> omega
  · simp only [List.mem_cons, List.not_mem_nil, or_false] at hx
    subst hx; omega
theorem cut_small (s : List UInt8) : ∀ x ∈ (opCut s).1, x.length ≤ s.length := by
  unfold opCut
  intro x hx
  split at hx
  · have := parts_small (s.drop 1) x hx
    rw [List.length_drop] at this
    omega
  · simp at hx
section
variable {b : UInt8} {r e e2 : List UInt8}
theorem fW (h : r.dropWhile digit = []) (hD : r.takeWhile digit ≠ []) (hb : b ≠ 114) : opForm b r = some [r.takeWhile digit] := by unfold opForm; rw [h]; exact if_pos ⟨hD, hb⟩
theorem fR3 (hb : b = 114) (hD : r.takeWhile digit ≠ []) (h : r.dropWhile digit = 64 :: e) (h2 : e.takeWhile digit ≠ []) (h3 : e.dropWhile digit = []) : opForm b r = some [r.takeWhile digit, e.takeWhile digit] := by
  unfold opForm
  rw [h]
  dsimp only
  rw [if_pos ⟨rfl, hb, hD⟩, h3]
  exact if_pos h2
theorem fR6 (hb : b = 114) (hD : r.takeWhile digit ≠ []) (h : r.dropWhile digit = 64 :: e) (h2 : e.takeWhile digit ≠ []) (h3 : e.dropWhile digit = 46 :: e2) (h4 : figs e2 = true) : opForm b r = some [r.takeWhile digit, e.takeWhile digit, e2] := by
  unfold opForm
  rw [h]
  dsimp only
  rw [if_pos ⟨rfl, hb, hD⟩, h3]
  exact if_pos ⟨rfl, h2, h4⟩
end
end Go.Proofs.YtpjjmolibanakaaDoor
