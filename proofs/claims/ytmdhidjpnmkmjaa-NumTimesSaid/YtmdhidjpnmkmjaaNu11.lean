/- NumTimes. No condition beyond those that each theorem says. -/
import Derived.Test.YtmdhidjpnmkmjaaNu8
namespace Go.Proofs.Ytmdhidjpnmkmjaa
open Go Go.Gm
set_option linter.unusedVariables false
set_option linter.unusedSimpArgs false
set_option maxHeartbeats 4000000
set_option maxRecDepth 8000

def inI (x : Int) : Prop := -9223372036854775808 ≤ x ∧ x ≤ 9223372036854775807
theorem addR_in {a b : Int} (h : inI (a + b)) : addR a b = (a + b, true) := if_pos h
theorem addR_out {a b : Int} (h : ¬ inI (a + b)) : addR a b = (0, false) := if_neg h
theorem mulR_in {a b : Int} (h : inI (a * b)) : mulR a b = (a * b, true) := if_pos h
theorem mulR_out {a b : Int} (h : ¬ inI (a * b)) : mulR a b = (0, false) := if_neg h
/-- So many times a, or that there is no such number. -/
structure TimesOk (a : Int) (i : Nat) (sum : Int) (fine : Bool) : Prop where
  yes : fine = true → sum = i * a ∧ inI (i * a)
  no : fine = false → sum = 0 ∧ 1 ≤ i ∧ ¬ inI (i * a)
theorem TimesOk.start (a : Int) : TimesOk a 0 0 true := ⟨fun _ => ⟨by simp, by simp [inI]⟩, fun h => by cases h⟩
theorem TimesOk.next {a : Int} {i : Nat} {sum : Int} (h : TimesOk a i sum true) : TimesOk a (i + 1) (addR sum a).1 (addR sum a).2 := by
  obtain ⟨h1, h2⟩ := h.yes rfl
  have e : ((i + 1 : Nat) : Int) * a = sum + a := by rw [h1, Int.natCast_add, Int.add_mul]; simp
  by_cases hi : inI (sum + a)
  · rw [addR_in hi]
    exact ⟨fun _ => ⟨e.symm, by rw [e]; exact hi⟩, fun h => by cases h⟩
  · rw [addR_out hi]
    exact ⟨fun h => by (cases h), fun _ => ⟨rfl, by omega, by rw [e]; exact hi⟩⟩
theorem inI_mono {a : Int} {i n : Nat} (h1 : i ≤ n) (h : inI (n * a)) : inI (i * a) := by
  have hn : (i : Int) ≤ n := by omega
  unfold inI at *
  rcases Int.le_total 0 a with h0 | h0
  · have := Int.mul_le_mul_of_nonneg_right hn h0
    have h2 : 0 ≤ (i : Int) * a := Int.mul_nonneg (by omega) h0
    omega
  · have := Int.mul_le_mul_of_nonpos_right hn h0
    have h2 : (i : Int) * a ≤ 0 := Int.mul_nonpos_of_nonneg_of_nonpos (by omega) h0
    omega
theorem TimesOk.done {a : Int} {i n : Nat} {sum : Int} {fine : Bool} (h : TimesOk a i sum fine) (hin : i ≤ n) (hx : i = n ∨ fine = false) : mulR a n = (sum, fine) ∧ mulR n a = (sum, fine) := by
  have e : a * (n : Int) = n * a := Int.mul_comm _ _
  cases fine with
  | true =>
    obtain ⟨h1, h2⟩ := h.yes rfl
    have : i = n := by rcases hx with hx | hx; exact hx; cases hx
    subst this
    exact ⟨by rw [mulR_in (by rw [e]; exact h2), e, h1], by rw [mulR_in h2, h1]⟩
  | false =>
    obtain ⟨h1, _, h2⟩ := h.no rfl
    have h3 : ¬ inI ((n : Int) * a) := fun hh => h2 (inI_mono hin hh)
    exact ⟨by rw [mulR_out (by rw [e]; exact h3), h1], by rw [mulR_out h3, h1]⟩

theorem numTimes_c (m n : Int) : FnP Try.prog 9 [.int .i64 m, .int .i64 n] (.bool true) := by
  refine FnP.mk Try.func9 rfl Try.ntmps9 rfl ?_
  intro B a w F hB hfr hS
  refine wp_seq ?_
  refine region_seq hS (by kernel_rfl)
      (Chain.cons (Cert.free rfl (o_assign .cb (by rfl))) trivial trivial
      Chain.nil)
      (by kernel_rfl) (by rw [hB]; kernel_rfl) ?_
  clear hS; intro a w F hS
  replace hS := hS.norm [(0, _), (1, _), (4, _)] [(0, _)] ⟨rfl, rfl, rfl, trivial⟩ ⟨rfl, trivial⟩
  obtain ⟨F, hS⟩ := hS
  try dsimp only [RS.sub, SF.sub, CF.sub, csub, Anc.sub, stCells, List.map, List.length_cons, List.length_nil, Nat.reduceAdd, List.drop_succ_cons, List.drop_zero, List.drop_nil, List.take_succ_cons, List.take_zero, List.take_nil, List.cons_append, List.nil_append, zCF, ldSF] at hS
  refine then_n ?_
  refine wp_seq ?_
  refine wp_seq ?_
  refine region_seq hS (by kernel_rfl)
      (Chain.cons (Cert.free rfl (o_callP (lives_c) Try.func31 rfl (by kernel_rfl) Args.nil)) trivial trivial
      (Chain.cons (Cert.free rfl (o_not .t)) ⟨rfl, trivial⟩ trivial
      Chain.nil))
      (by kernel_rfl) (by rw [hB]; kernel_rfl) ?_
  clear hS; intro a w F hS
  replace hS := hS.norm [(0, _), (1, _), (4, _), (13, _)] [(0, _)] ⟨rfl, rfl, rfl, rfl, trivial⟩ ⟨rfl, trivial⟩
  obtain ⟨F, hS⟩ := hS
  try dsimp only [RS.sub, SF.sub, CF.sub, csub, Anc.sub, stCells, List.map, List.length_cons, List.length_nil, Nat.reduceAdd, List.drop_succ_cons, List.drop_zero, List.drop_nil, List.take_succ_cons, List.take_zero, List.take_nil, List.cons_append, List.nil_append, zCF, ldSF] at hS
  refine then_n ?_
  refine cond_b hS rfl (fun hc0 => ?_) (fun hc0 => ?_)
  · skip
    simp at hc0
  · skip
    refine wp_skip ?_
    refine then_n ?_
    refine wp_seq ?_
    refine wp_seq ?_
    refine region_seq hS (by kernel_rfl)
        (Chain.cons (Cert.free rfl (o_move .t (by rfl))) ⟨rfl, trivial⟩ trivial
        (Chain.cons (Cert.free rfl (o_lss .t (.ci (by kernel_rfl)))) ⟨rfl, trivial⟩ trivial
        (Chain.cons (Cert.free rfl (o_move .t (by rfl))) ⟨rfl, trivial⟩ trivial
        (Chain.cons (Cert.cond rfl rfl (fun h => o_move .t (by rfl))) ⟨rfl, rfl, trivial⟩ trivial
        (Chain.cons (Cert.cond rfl rfl (fun h => o_gtr (.w h) (.ci (by kernel_rfl)))) ⟨rfl, rfl, trivial⟩ trivial
        (Chain.cons (Cert.free rfl (o_or2 .t .t)) ⟨rfl, rfl, trivial⟩ trivial
        Chain.nil))))))
        (by kernel_rfl) (by rw [hB]; kernel_rfl) ?_
    clear hS; intro a w F hS
    replace hS := hS.norm [(0, _), (1, _), (4, _), (19, _)] [(0, _)] ⟨rfl, rfl, rfl, rfl, trivial⟩ ⟨rfl, trivial⟩
    obtain ⟨F, hS⟩ := hS
    try dsimp only [RS.sub, SF.sub, CF.sub, csub, Anc.sub, stCells, List.map, List.length_cons, List.length_nil, Nat.reduceAdd, List.drop_succ_cons, List.drop_zero, List.drop_nil, List.take_succ_cons, List.take_zero, List.take_nil, List.cons_append, List.nil_append, zCF, ldSF] at hS
    refine then_n ?_
    refine cond_b hS rfl (fun hc1 => ?_) (fun hc1 => ?_)
    · skip
      refine wp_seq ?_
      refine region_seq hS (by kernel_rfl)
          (Chain.cons (Cert.free rfl (o_assign .cb (by rfl))) trivial trivial
          Chain.nil)
          (by kernel_rfl) (by rw [hB]; kernel_rfl) ?_
      clear hS; intro a w F hS
      replace hS := hS.norm [(0, _), (1, _), (4, _)] [(0, _)] ⟨rfl, rfl, rfl, trivial⟩ ⟨rfl, trivial⟩
      obtain ⟨F, hS⟩ := hS
      try dsimp only [RS.sub, SF.sub, CF.sub, csub, Anc.sub, stCells, List.map, List.length_cons, List.length_nil, Nat.reduceAdd, List.drop_succ_cons, List.drop_zero, List.drop_nil, List.take_succ_cons, List.take_zero, List.take_nil, List.cons_append, List.nil_append, zCF, ldSF] at hS
      refine then_n ?_
      refine wp_ret ?_
      refine then_r ?_
      refine ret_P hfr hS rfl (.tmp rfl .nil) (.one (.bool (by first | rfl | (rw [hm1, hm2]; revert hs0; clear hT hm1 hm2 hx; cases fine <;> simp) | (simp; done))))
    · skip
      have hb : 0 ≤ n ∧ n ≤ 60 := by simp at hc1; omega
      refine wp_skip ?_
      refine then_n ?_
      refine wp_seq ?_
      refine region_seq hS (by kernel_rfl)
          (Chain.cons (Cert.free rfl (o_assign (.ci (by kernel_rfl)) (by rfl))) trivial trivial
          (Chain.cons (Cert.free rfl (o_assign .cb (by rfl))) trivial trivial
          Chain.nil))
          (by kernel_rfl) (by rw [hB]; kernel_rfl) ?_
      clear hS; intro a w F hS
      replace hS := hS.norm [(0, _), (1, _), (4, _), (5, _), (6, _)] [(0, _)] ⟨rfl, rfl, rfl, rfl, rfl, trivial⟩ ⟨rfl, trivial⟩
      obtain ⟨F, hS⟩ := hS
      try dsimp only [RS.sub, SF.sub, CF.sub, csub, Anc.sub, stCells, List.map, List.length_cons, List.length_nil, Nat.reduceAdd, List.drop_succ_cons, List.drop_zero, List.drop_nil, List.take_succ_cons, List.take_zero, List.take_nil, List.cons_append, List.nil_append, zCF, ldSF] at hS
      refine then_n ?_
      refine wp_seq ?_
      refine wp_seq ?_
      refine region_seq hS (by kernel_rfl)
          (Chain.cons (Cert.free rfl (o_assign (.ci (by kernel_rfl)) (by rfl))) trivial trivial
          Chain.nil)
          (by kernel_rfl) (by rw [hB]; kernel_rfl) ?_
      clear hS; intro a w F hS
      replace hS := hS.norm [(0, _), (1, _), (4, _), (5, _), (6, _), (7, _)] [(0, _)] ⟨rfl, rfl, rfl, rfl, rfl, rfl, trivial⟩ ⟨rfl, trivial⟩
      obtain ⟨F, hS⟩ := hS
      try dsimp only [RS.sub, SF.sub, CF.sub, csub, Anc.sub, stCells, List.map, List.length_cons, List.length_nil, Nat.reduceAdd, List.drop_succ_cons, List.drop_zero, List.drop_nil, List.take_succ_cons, List.take_zero, List.take_nil, List.cons_append, List.nil_append, zCF, ldSF] at hS
      refine then_n ?_
      refine wp_block ?_
      replace hS := hS.norm [(0, _), (1, _), (5, _), (6, _), (7, _)] [(0, _)] ⟨rfl, rfl, rfl, rfl, rfl, trivial⟩ ⟨rfl, trivial⟩
      obtain ⟨F, hS⟩ := hS
      refine loop_inv (σ := (Nat × Int × Bool)) (fun s => (⟨[(0, .pv (.int .i64 m)), (1, .pv (.int .i64 n)), (5, .pv (.int .i64 s.2.1)), (6, .pv (.bool s.2.2)), (7, .pv (.int .i64 s.1))], [(0, frame B)]⟩ : En)) (fun s => (s.1 : Int) ≤ n ∧ TimesOk m s.1 s.2.1 s.2.2) (fun s => n.toNat - s.1) (0, 0, true) hS ⟨by simp; omega, TimesOk.start m⟩ ?_
      clear hS; intro s a w F hC hS
      obtain ⟨i, sum, fine⟩ := s
      try dsimp only at hC
      try dsimp only at hS
      obtain ⟨hi, hT⟩ := hC
      try dsimp only at hi hT
      refine wp_seq ?_
      refine wp_seq ?_
      refine region_seq hS (by kernel_rfl)
          (Chain.cons (Cert.free rfl (o_move .t (by rfl))) ⟨rfl, trivial⟩ trivial
          (Chain.cons (Cert.free rfl (o_move .t (by rfl))) ⟨rfl, trivial⟩ trivial
          (Chain.cons (Cert.free rfl (o_lss .t .t)) ⟨rfl, rfl, trivial⟩ trivial
          (Chain.cons (Cert.free rfl (o_move .t (by rfl))) ⟨rfl, trivial⟩ trivial
          (Chain.cons (Cert.cond rfl rfl (fun h => o_move .t (by rfl))) ⟨rfl, rfl, trivial⟩ trivial
          (Chain.cons (Cert.free rfl (o_and2 .t .t)) ⟨rfl, rfl, trivial⟩ trivial
          Chain.nil))))))
          (by kernel_rfl) (by rw [hB]; kernel_rfl) ?_
      clear hS; intro a w F hS
      replace hS := hS.norm [(0, _), (1, _), (5, _), (6, _), (7, _), (20, _), (21, _), (22, _), (23, _), (24, _), (25, _)] [(0, _)] ⟨rfl, rfl, rfl, rfl, rfl, rfl, rfl, rfl, rfl, rfl, rfl, trivial⟩ ⟨rfl, trivial⟩
      obtain ⟨F, hS⟩ := hS
      try dsimp only [RS.sub, SF.sub, CF.sub, csub, Anc.sub, stCells, List.map, List.length_cons, List.length_nil, Nat.reduceAdd, List.drop_succ_cons, List.drop_zero, List.drop_nil, List.take_succ_cons, List.take_zero, List.take_nil, List.cons_append, List.nil_append, zCF, ldSF] at hS
      refine then_n ?_
      refine cond_b hS rfl (fun hc2 => ?_) (fun hc2 => ?_)
      · skip
        have hc : (i : Int) < n ∧ fine = true := by simpa using hc2
        have hf := hc.2
        subst hf
        have hin := hc.1
        refine wp_skip ?_
        refine then_n ?_
        refine wp_seq ?_
        refine wp_block ?_
        refine region_seq hS (by kernel_rfl)
            (Chain.cons (Cert.free rfl (o_move .t (by rfl))) ⟨rfl, trivial⟩ trivial
            (Chain.cons (Cert.free rfl (o_move .t (by rfl))) ⟨rfl, trivial⟩ trivial
            (Chain.cons (Cert.free rfl (o_callP (add_c sum m) Try.func38 rfl (by kernel_rfl) (Args.two .t .t))) ⟨rfl, rfl, trivial⟩ trivial
            (Chain.cons (Cert.free rfl (o_move .t (by rfl))) ⟨rfl, trivial⟩ trivial
            (Chain.cons (Cert.free rfl (o_extract .t rfl)) ⟨rfl, trivial⟩ trivial
            (Chain.cons (Cert.free rfl (o_extract .t rfl)) ⟨rfl, trivial⟩ trivial
            (Chain.cons (Cert.free rfl (o_assign .t (by rfl))) ⟨rfl, trivial⟩ trivial
            (Chain.cons (Cert.free rfl (o_assign .t (by rfl))) ⟨rfl, trivial⟩ trivial
            Chain.nil))))))))
            (by kernel_rfl) (by rw [hB]; kernel_rfl) ?_
        clear hS; intro a w F hS
        replace hS := hS.norm [(0, _), (1, _), (5, _), (6, _), (7, _), (20, _), (21, _), (22, _), (23, _), (24, _), (25, _), (28, _), (29, _), (30, _), (31, _), (32, _), (33, _)] [(0, _)] ⟨rfl, rfl, rfl, rfl, rfl, rfl, rfl, rfl, rfl, rfl, rfl, rfl, rfl, rfl, rfl, rfl, rfl, trivial⟩ ⟨rfl, trivial⟩
        obtain ⟨F, hS⟩ := hS
        try dsimp only [RS.sub, SF.sub, CF.sub, csub, Anc.sub, stCells, List.map, List.length_cons, List.length_nil, Nat.reduceAdd, List.drop_succ_cons, List.drop_zero, List.drop_nil, List.take_succ_cons, List.take_zero, List.take_nil, List.cons_append, List.nil_append, zCF, ldSF] at hS
        refine block_n ?_
        refine then_n ?_
        refine region_seq hS (by kernel_rfl)
            (Chain.cons (Cert.free rfl (o_move .t (by rfl))) ⟨rfl, trivial⟩ trivial
            (Chain.cons (Cert.free rfl (o_add .t (.ci (by kernel_rfl)))) ⟨rfl, trivial⟩ trivial
            (Chain.cons (Cert.free rfl (o_assign .t (by rfl))) ⟨rfl, trivial⟩ trivial
            Chain.nil)))
            (by kernel_rfl) (by rw [hB]; kernel_rfl) ?_
        clear hS; intro a w F hS
        replace hS := hS.norm [(0, _), (1, _), (5, _), (6, _), (7, _), (20, _), (21, _), (22, _), (23, _), (24, _), (25, _), (26, _), (27, _), (28, _), (29, _), (30, _), (31, _), (32, _), (33, _)] [(0, _)] ⟨rfl, rfl, rfl, rfl, rfl, rfl, rfl, rfl, rfl, rfl, rfl, rfl, rfl, rfl, rfl, rfl, rfl, rfl, rfl, trivial⟩ ⟨rfl, trivial⟩
        obtain ⟨F, hS⟩ := hS
        try dsimp only [RS.sub, SF.sub, CF.sub, csub, Anc.sub, stCells, List.map, List.length_cons, List.length_nil, Nat.reduceAdd, List.drop_succ_cons, List.drop_zero, List.drop_nil, List.take_succ_cons, List.take_zero, List.take_nil, List.cons_append, List.nil_append, zCF, ldSF] at hS
        refine then_n ?_
        replace hS := hS.ent (i := 7) (s' := .pv (.int .i64 ((i + 1 : Nat) : Int))) rfl (.int (wrap_succ (by omega)))
        replace hS := hS.norm [(0, _), (1, _), (5, _), (6, _), (7, _)] [(0, _)] ⟨rfl, rfl, rfl, rfl, rfl, trivial⟩ ⟨rfl, trivial⟩
        obtain ⟨F, hS⟩ := hS
        exact ⟨(i + 1, (addR sum m).1, (addR sum m).2), F, ⟨by dsimp only; omega, hT.next⟩, hS, by dsimp only; omega⟩
      · skip
        have hx : i = n.toNat ∨ fine = false := by
          simp only [Bool.and_eq_false_iff, decide_eq_false_iff_not] at hc2
          rcases hc2 with hh | hh
          · left; omega
          · exact .inr hh
        obtain ⟨hm1, hm2⟩ := hT.done (n := n.toNat) (by omega) hx
        rw [Int.toNat_of_nonneg hb.1] at hm1 hm2
        have hs0 : fine = false → sum = 0 := fun hh => (hT.no hh).1
        refine wp_exit ?_
        refine then_x ?_
        refine then_x ?_
        refine block_x ?_
        refine then_n ?_
        refine wp_seq ?_
        refine region_seq hS (by kernel_rfl)
            (Chain.cons (Cert.free rfl (o_move .t (by rfl))) ⟨rfl, trivial⟩ trivial
            (Chain.cons (Cert.free rfl (o_move .t (by rfl))) ⟨rfl, trivial⟩ trivial
            (Chain.cons (Cert.free rfl (o_callP (mul_c m n) Try.func40 rfl (by kernel_rfl) (Args.two .t .t))) ⟨rfl, rfl, trivial⟩ trivial
            (Chain.cons (Cert.free rfl (o_move .t (by rfl))) ⟨rfl, trivial⟩ trivial
            (Chain.cons (Cert.free rfl (o_extract .t rfl)) ⟨rfl, trivial⟩ trivial
            (Chain.cons (Cert.free rfl (o_extract .t rfl)) ⟨rfl, trivial⟩ trivial
            (Chain.cons (Cert.free rfl (o_assign .t (by rfl))) ⟨rfl, trivial⟩ trivial
            (Chain.cons (Cert.free rfl (o_assign .t (by rfl))) ⟨rfl, trivial⟩ trivial
            Chain.nil))))))))
            (by kernel_rfl) (by rw [hB]; kernel_rfl) ?_
        clear hS; intro a w F hS
        replace hS := hS.norm [(0, _), (1, _), (5, _), (6, _), (8, _), (9, _)] [(0, _)] ⟨rfl, rfl, rfl, rfl, rfl, rfl, trivial⟩ ⟨rfl, trivial⟩
        obtain ⟨F, hS⟩ := hS
        try dsimp only [RS.sub, SF.sub, CF.sub, csub, Anc.sub, stCells, List.map, List.length_cons, List.length_nil, Nat.reduceAdd, List.drop_succ_cons, List.drop_zero, List.drop_nil, List.take_succ_cons, List.take_zero, List.take_nil, List.cons_append, List.nil_append, zCF, ldSF] at hS
        refine then_n ?_
        refine wp_seq ?_
        refine region_seq hS (by kernel_rfl)
            (Chain.cons (Cert.free rfl (o_move .t (by rfl))) ⟨rfl, trivial⟩ trivial
            (Chain.cons (Cert.free rfl (o_move .t (by rfl))) ⟨rfl, trivial⟩ trivial
            (Chain.cons (Cert.free rfl (o_callP (mul_c n m) Try.func40 rfl (by kernel_rfl) (Args.two .t .t))) ⟨rfl, rfl, trivial⟩ trivial
            (Chain.cons (Cert.free rfl (o_move .t (by rfl))) ⟨rfl, trivial⟩ trivial
            (Chain.cons (Cert.free rfl (o_extract .t rfl)) ⟨rfl, trivial⟩ trivial
            (Chain.cons (Cert.free rfl (o_extract .t rfl)) ⟨rfl, trivial⟩ trivial
            (Chain.cons (Cert.free rfl (o_assign .t (by rfl))) ⟨rfl, trivial⟩ trivial
            (Chain.cons (Cert.free rfl (o_assign .t (by rfl))) ⟨rfl, trivial⟩ trivial
            Chain.nil))))))))
            (by kernel_rfl) (by rw [hB]; kernel_rfl) ?_
        clear hS; intro a w F hS
        replace hS := hS.norm [(5, _), (6, _), (8, _), (9, _), (10, _), (11, _)] [(0, _)] ⟨rfl, rfl, rfl, rfl, rfl, rfl, trivial⟩ ⟨rfl, trivial⟩
        obtain ⟨F, hS⟩ := hS
        try dsimp only [RS.sub, SF.sub, CF.sub, csub, Anc.sub, stCells, List.map, List.length_cons, List.length_nil, Nat.reduceAdd, List.drop_succ_cons, List.drop_zero, List.drop_nil, List.take_succ_cons, List.take_zero, List.take_nil, List.cons_append, List.nil_append, zCF, ldSF] at hS
        refine then_n ?_
        refine wp_seq ?_
        refine region_seq hS (by kernel_rfl)
            (Chain.cons (Cert.free rfl (o_move .t (by rfl))) ⟨rfl, trivial⟩ trivial
            (Chain.cons (Cert.free rfl (o_move .t (by rfl))) ⟨rfl, trivial⟩ trivial
            (Chain.cons (Cert.free rfl (o_eqlB Try.underlying4 .t .t)) ⟨rfl, rfl, trivial⟩ trivial
            (Chain.cons (Cert.free rfl (o_move .t (by rfl))) ⟨rfl, trivial⟩ trivial
            (Chain.cons (Cert.cond rfl rfl (fun h => o_move .t (by rfl))) ⟨rfl, rfl, trivial⟩ trivial
            (Chain.cons (Cert.cond rfl rfl (fun h => o_move .t (by rfl))) ⟨rfl, rfl, trivial⟩ trivial
            (Chain.cons (Cert.cond rfl rfl (fun h => o_eqlB Try.underlying4 (.w h) (.w h))) ⟨rfl, rfl, rfl, trivial⟩ trivial
            (Chain.cons (Cert.free rfl (o_and2 .t .t)) ⟨rfl, rfl, trivial⟩ trivial
            (Chain.cons (Cert.free rfl (o_move .t (by rfl))) ⟨rfl, trivial⟩ trivial
            (Chain.cons (Cert.cond rfl rfl (fun h => o_move .t (by rfl))) ⟨rfl, rfl, trivial⟩ trivial
            (Chain.cons (Cert.cond rfl rfl (fun h => o_not (.w h))) ⟨rfl, rfl, trivial⟩ trivial
            (Chain.cons (Cert.cond rfl rfl (fun h => o_move (.w h) (by rfl))) ⟨rfl, rfl, trivial⟩ trivial
            (Chain.cons (Cert.cond2 rfl rfl (fun h => o_move .t (by rfl))) ⟨rfl, rfl, trivial⟩ trivial
            (Chain.cons (Cert.cond2 rfl rfl (fun h => o_eql (.w h) (.ci (by kernel_rfl)))) ⟨rfl, rfl, trivial⟩ trivial
            (Chain.cons (Cert.cond rfl rfl (fun h => o_and2 (.w h) (.wc h))) ⟨rfl, rfl, rfl, trivial⟩ trivial
            (Chain.cons (Cert.cond rfl rfl (fun h => o_move (.w h) (by rfl))) ⟨rfl, rfl, trivial⟩ trivial
            (Chain.cons (Cert.cond2 rfl rfl (fun h => o_move .t (by rfl))) ⟨rfl, rfl, trivial⟩ trivial
            (Chain.cons (Cert.cond2 rfl rfl (fun h => o_eql (.w h) (.ci (by kernel_rfl)))) ⟨rfl, rfl, trivial⟩ trivial
            (Chain.cons (Cert.cond rfl rfl (fun h => o_and2 (.w h) (.wc h))) ⟨rfl, rfl, rfl, trivial⟩ trivial
            (Chain.cons (Cert.cond rfl rfl (fun h => o_move (.w h) (by rfl))) ⟨rfl, rfl, trivial⟩ trivial
            (Chain.cons (Cert.cond2 rfl rfl (fun h => o_move .t (by rfl))) ⟨rfl, rfl, trivial⟩ trivial
            (Chain.cons (Cert.cond2 rfl rfl (fun h => o_move (.w h) (by rfl))) ⟨rfl, rfl, trivial⟩ trivial
            (Chain.cons (Cert.cond2 rfl rfl (fun h => o_move .t (by rfl))) ⟨rfl, rfl, trivial⟩ trivial
            (Chain.cons (Cert.cond2 rfl rfl (fun h => o_move .t (by rfl))) ⟨rfl, rfl, trivial⟩ trivial
            (Chain.cons (Cert.cond2 rfl rfl (fun h => o_eql (.w h) (.w h))) ⟨rfl, rfl, rfl, trivial⟩ trivial
            (Chain.cons (Cert.cond2 rfl rfl (fun h => o_and2 (.w h) (.wc h))) ⟨rfl, rfl, rfl, trivial⟩ trivial
            (Chain.cons (Cert.cond2 rfl rfl (fun h => o_move (.w h) (by rfl))) ⟨rfl, rfl, trivial⟩ trivial
            (Chain.cons (Cert.cond2 rfl rfl (fun h => o_move .t (by rfl))) ⟨rfl, rfl, trivial⟩ trivial
            (Chain.cons (Cert.cond2 rfl rfl (fun h => o_move .t (by rfl))) ⟨rfl, rfl, trivial⟩ trivial
            (Chain.cons (Cert.cond2 rfl rfl (fun h => o_eql (.w h) (.w h))) ⟨rfl, rfl, rfl, trivial⟩ trivial
            (Chain.cons (Cert.cond2 rfl rfl (fun h => o_and2 (.w h) (.wc h))) ⟨rfl, rfl, rfl, trivial⟩ trivial
            (Chain.cons (Cert.cond rfl rfl (fun h => o_or2 (.w h) (.wc h))) ⟨rfl, rfl, rfl, trivial⟩ trivial
            (Chain.cons (Cert.free rfl (o_and2 .t .t)) ⟨rfl, rfl, trivial⟩ trivial
            (Chain.cons (Cert.free rfl (o_assign .t (by rfl))) ⟨rfl, trivial⟩ trivial
            Chain.nil))))))))))))))))))))))))))))))))))
            (by kernel_rfl) (by rw [hB]; kernel_rfl) ?_
        clear hS; intro a w F hS
        replace hS := hS.norm [(4, _)] [(0, _)] ⟨rfl, trivial⟩ ⟨rfl, trivial⟩
        obtain ⟨F, hS⟩ := hS
        try dsimp only [RS.sub, SF.sub, CF.sub, csub, Anc.sub, stCells, List.map, List.length_cons, List.length_nil, Nat.reduceAdd, List.drop_succ_cons, List.drop_zero, List.drop_nil, List.take_succ_cons, List.take_zero, List.take_nil, List.cons_append, List.nil_append, zCF, ldSF] at hS
        refine then_n ?_
        refine wp_ret ?_
        refine ret_P hfr hS rfl (.tmp rfl .nil) (.one (.bool (by first | rfl | (rw [hm1, hm2]; revert hs0; clear hT hm1 hm2 hx; cases fine <;> simp) | (simp; done))))

end Go.Proofs.Ytmdhidjpnmkmjaa
