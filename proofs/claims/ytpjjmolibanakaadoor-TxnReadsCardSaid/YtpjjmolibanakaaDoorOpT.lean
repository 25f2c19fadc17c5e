/- Texts of operations read back. No condition beyond those that each theorem says. -/
import Derived.Test.YtpjjmolibanakaaDoorOp5
import Derived.Test.YtpjjmolibanakaaDoorNuT
namespace Go.Proofs.YtpjjmolibanakaaDoor
open Go Go.Gm
set_option linter.unusedVariables false
set_option linter.unusedSimpArgs false
set_option maxHeartbeats 4000000
set_option maxRecDepth 8000

theorem text_digits {n : Int} (h : 0 ≤ n) : (textL n).all digit = true := by
  have e : textL n = (digL n.natAbs).map toB := by unfold textL; rw [if_neg (by omega)]
  rw [e]
  exact (digL_read n.natAbs).2.1
theorem span_app {x e : List UInt8} {c : UInt8} (h : x.all digit = true) (hc : digit c = false) : (x ++ c :: e).takeWhile digit = x ∧ (x ++ c :: e).dropWhile digit = c :: e := by
  induction x with
  | nil =>
    rw [List.nil_append, List.takeWhile_cons_of_neg (by rw [hc]; decide), List.dropWhile_cons_of_neg (by rw [hc]; decide)]
    exact ⟨rfl, rfl⟩
  | cons b l ih =>
    rw [List.all_cons, Bool.and_eq_true] at h
    obtain ⟨h1, h2⟩ := ih h.2
    rw [List.cons_append, List.takeWhile_cons_of_pos h.1, List.dropWhile_cons_of_pos h.1, h1, h2]
    exact ⟨rfl, rfl⟩
theorem span_whole {x : List UInt8} (h : x.all digit = true) : x.takeWhile digit = x ∧ x.dropWhile digit = [] := by
  have h1 := (all_dropW x).2 h
  have h2 := List.takeWhile_append_dropWhile (p := digit) (l := x)
  rw [h1, List.append_nil] at h2
  exact ⟨h2, h1⟩
theorem read_ok {n : Int} (h : 0 ≤ n ∧ n ≤ 1048575) : readR (textL n) = (n, 0) := by rw [read_text h.1, if_neg (by omega)]
theorem textO_write {o : OpD} (hk : rightO o = true) (hr : o.read = false) : textO o = 119 :: textL o.key := by unfold textO; rw [if_neg (by rw [hk]; decide), if_pos hr]
theorem textO_first {o : OpD} (hk : rightO o = true) (hr : o.read = true) (h : o.tx = 0) : textO o = 114 :: (textL o.key ++ 64 :: textL 0) := by
  unfold textO
  rw [if_neg (by rw [hk]; decide), if_neg (by rw [hr]; decide), if_pos h, text_zero]
  simp
theorem textO_read {o : OpD} (hk : rightO o = true) (hr : o.read = true) (h : o.tx ≠ 0) : textO o = 114 :: (textL o.key ++ 64 :: (textL o.tx ++ 46 :: textL o.nth)) := by
  unfold textO
  rw [if_neg (by rw [hk]; decide), if_neg (by rw [hr]; decide), if_neg h]
  simp
theorem textO_len {o : OpD} (hk : rightO o = true) : (textO o).length ≤ 100 := by
  have hb := right_rng hk
  have l1 := textL_len (n := o.key) (by omega)
  have l2 := textL_len (n := o.tx) (by omega)
  have l3 := textL_len (n := o.nth) (by omega)
  have l4 := textL_len (n := 0) (by omega)
  by_cases hr : o.read = true
  · by_cases h : o.tx = 0
    · rw [textO_first hk hr h]
      simp only [List.length_cons, List.length_append]
      omega
    · rw [textO_read hk hr h]
      simp only [List.length_cons, List.length_append]
      omega
  · rw [textO_write hk (by simpa using hr)]
    simp only [List.length_cons]
    omega
theorem opR_text {o : OpD} (hk : rightO o = true) : opR (textO o) = (o, 0) := by
  have hb := right_rng hk
  have d1 := text_digits (n := o.key) (by omega)
  have d2 := text_digits (n := o.tx) (by omega)
  have d3 := text_digits (n := o.nth) (by omega)
  have d0 := text_digits (n := 0) (by omega)
  have r1 := read_ok (n := o.key) (by omega)
  have r2 := read_ok (n := o.tx) (by omega)
  have r3 := read_ok (n := o.nth) (by omega)
  have r0 := read_ok (n := 0) (by omega)
  have n1 := textL_ne o.key
  have n2 := textL_ne o.tx
  have n3 := textL_ne o.nth
  have n0 := textL_ne 0
  by_cases hr : o.read = true
  · by_cases h : o.tx = 0
    · rw [textO_first hk hr h]
      obtain ⟨s1, s2⟩ := span_app (e := textL 0) (c := 64) d1 (by decide)
      obtain ⟨s3, s4⟩ := span_whole d0
      have hf : opForm (nth (114 :: (textL o.key ++ 64 :: textL 0)) 0) ((114 :: (textL o.key ++ 64 :: textL 0)).drop 1) = some [textL o.key, textL 0] := by
        have := fR3 (b := 114) (r := textL o.key ++ 64 :: textL 0) (e := textL 0) rfl (by rw [s1]; exact n1) s2 (by rw [s3]; exact n0) s4
        rw [s1, s3] at this
        exact this
      rw [opR_nums (opR_form (by rintro (hx | ⟨_, hx⟩); cases hx; exact hx rfl) hf) (o := o) (by simp [badR, r1, r0]) ?_, if_neg, if_pos hk]
      · simp [h]
      · unfold opMk valsR
        cases o
        simp only at h hr r1
        subst h; subst hr
        simp only [List.map_cons, List.map_nil, r1, r0]
        have hn : rightV ⟨0, _, _⟩ = true := hk
        simp [rightV] at hn
        simp [nth, hn]
    · rw [textO_read hk hr h]
      obtain ⟨s1, s2⟩ := span_app (e := textL o.tx ++ 46 :: textL o.nth) (c := 64) d1 (by decide)
      obtain ⟨s3, s4⟩ := span_app (e := textL o.nth) (c := 46) d2 (by decide)
      have hg : figs (textL o.nth) = true := by unfold figs; rw [d3]; simp [n3]
      have hf : opForm (nth (114 :: (textL o.key ++ 64 :: (textL o.tx ++ 46 :: textL o.nth))) 0) ((114 :: (textL o.key ++ 64 :: (textL o.tx ++ 46 :: textL o.nth))).drop 1) = some [textL o.key, textL o.tx, textL o.nth] := by
        have := fR6 (b := 114) (r := textL o.key ++ 64 :: (textL o.tx ++ 46 :: textL o.nth)) rfl (by rw [s1]; exact n1) s2 (by rw [s3]; exact n2) s4 hg
        rw [s1, s3] at this
        exact this
      rw [opR_nums (opR_form (by rintro (hx | ⟨_, hx⟩); cases hx; exact hx rfl) hf) (o := o) (by simp [badR, r1, r2, r3]) ?_, if_neg, if_pos hk]
      · simp [h]
      · unfold opMk valsR
        cases o
        simp only at hr r1 r2 r3
        subst hr
        simp only [List.map_cons, List.map_nil, r1, r2, r3]
        rfl
  · have hr' : o.read = false := by simpa using hr
    rw [textO_write hk hr']
    obtain ⟨s1, s2⟩ := span_whole d1
    have hf : opForm (nth (119 :: textL o.key) 0) ((119 :: textL o.key).drop 1) = some [textL o.key] := by
      have := fW (b := 119) (r := textL o.key) s2 (by rw [s1]; exact n1) (by decide)
      rw [s1] at this
      exact this
    rw [opR_nums (opR_form (by rintro (hx | ⟨hx, _⟩); cases hx; exact hx rfl) hf) (o := o) (by simp [badR, r1]) ?_, if_neg, if_pos hk]
    · rintro ⟨hx, _⟩; cases hx
    · have hw := hk
      rw [right_write hr'] at hw
      simp only [Bool.and_eq_true, decide_eq_true_eq] at hw
      unfold opMk valsR
      cases o
      simp only at hr' r1 hw
      subst hr'
      simp only [List.map_cons, List.map_nil, r1, hw.1.2, hw.2]
      rfl
end Go.Proofs.YtpjjmolibanakaaDoor
