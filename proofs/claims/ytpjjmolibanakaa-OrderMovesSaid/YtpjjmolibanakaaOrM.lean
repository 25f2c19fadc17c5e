/- OrderMoves. No condition beyond those that each theorem says. -/
import Derived.Test.YtpjjmolibanakaaOr8
namespace Go.Proofs.Ytpjjmolibanakaa
open Go Go.Gm
set_option linter.unusedVariables false
set_option linter.unusedSimpArgs false
set_option maxHeartbeats 4000000
set_option maxRecDepth 8000


theorem doMoves_snoc : ∀ (s : List PairD) (l : List Int) (p : PairD), doMoves l (s ++ [p]) = (moveO (doMoves l s) p.key p.val).1
  | [], l, p => rfl
  | q :: s, l, p => doMoves_snoc s _ p
theorem stepsR_vals : ∀ (to now : List Int) (i : Int), ∀ p ∈ stepsR now i to, p.key ∈ to ∧ i ≤ p.val ∧ p.val < i + to.length
  | [], now, i, p, h => by cases h
  | x :: to, now, i, p, h => by
    have key : ∀ now', p ∈ stepsR now' (i + 1) to → p.key ∈ x :: to ∧ i ≤ p.val ∧ p.val < i + (x :: to).length := fun now' h => by
      obtain ⟨h1, h2, h3⟩ := stepsR_vals to now' (i + 1) p h
      refine ⟨List.mem_cons_of_mem _ h1, by omega, ?_⟩
      rw [List.length_cons]; omega
    unfold stepsR at h
    split at h
    · exact key _ h
    · rcases List.mem_cons.1 h with rfl | h
      · refine ⟨List.mem_cons_self, Int.le_refl _, ?_⟩
        rw [List.length_cons]
        show i < _
        omega
      · exact key _ h
theorem doMoves_perm : ∀ (s : List PairD) (l : List Int), (∀ p ∈ s, p.key ∈ l ∧ 0 ≤ p.val ∧ p.val < l.length) → (doMoves l s).Perm l
  | [], l, _ => .refl _
  | p :: s, l, h => by
    obtain ⟨h1, h2, h3⟩ := h p (by simp)
    have hp := moveO_perm h1 ⟨h2, h3⟩
    refine (doMoves_perm s _ fun q hq => ?_).trans hp
    obtain ⟨k1, k2, k3⟩ := h q (by simp [hq])
    exact ⟨hp.mem_iff.2 k1, k2, by rw [hp.length_eq]; exact k3⟩
theorem stepsR_self : ∀ (to now : List Int) (i : Nat), now.drop i = to → stepsR now i to = []
  | [], now, i, _ => rfl
  | x :: to, now, i, h => by
    have hi : i < now.length := by
      rcases Nat.lt_or_ge i now.length with h1 | h1
      · exact h1
      · rw [List.drop_eq_nil_of_le h1] at h; cases h
    rw [drop_nth hi] at h
    injection h with h1 h2
    rw [stepsR_hit h1]
    exact stepsR_self to now (i + 1) h2
structure MovesOk (x y : List Int) (s : List PairD) : Prop where
  keys : (s.map PairD.key).Nodup
  done : doMoves x s = y
  each : ∀ i, i < s.length → moveO (doMoves x (s.take i)) (Go.Gm.nth s i).key (Go.Gm.nth s i).val = (doMoves x (s.take (i + 1)), 0)
  none : (s.length : Int) = 0 ↔ x = y
  len : ∀ i, (doMoves x (s.take i)).length = x.length
  short : s.length ≤ y.length
theorem steps_facts {x y : List Int} {s : List PairD} (h : OkSteps x y) (hs : s = stepsR x 0 y) : MovesOk x y s := by
  have hv : ∀ p ∈ s, p.key ∈ x ∧ 0 ≤ p.val ∧ p.val < x.length := fun p hp => by
    rw [hs] at hp
    obtain ⟨h1, h2, h3⟩ := stepsR_vals y x 0 p hp
    exact ⟨h.2.2.mem_iff.2 h1, h2, by rw [h.2.2.length_eq]; omega⟩
  have hvt : ∀ i, ∀ p ∈ s.take i, p.key ∈ x ∧ 0 ≤ p.val ∧ p.val < x.length := fun i p hp => hv p (List.mem_of_mem_take hp)
  have hd : doMoves x s = y := by
    have := stepsR_make y x [] h.2.2 rfl h.1.2
    rw [hs]; exact this
  obtain ⟨ks, k1, k2⟩ := stepsR_keys y x 0
  refine ⟨by rw [hs, k2]; exact h.2.1.2.sublist k1, hd, fun i hi => ?_, ⟨fun h0 => ?_, fun e => ?_⟩, fun i => (doMoves_perm _ _ (hvt i)).length_eq, ?_⟩
  · obtain ⟨h1, h2, h3⟩ := hv _ (nth_mem hi)
    have hp := doMoves_perm _ _ (hvt i)
    rw [take_nth hi, doMoves_snoc, moveO_ok (hp.mem_iff.2 h1) ⟨h2, by rw [hp.length_eq]; exact h3⟩]
  · have : s = [] := List.eq_nil_of_length_eq_zero (by omega)
    rw [this] at hd; exact hd
  · subst e
    rw [hs, show stepsR x 0 x = [] from stepsR_self x x 0 rfl]; rfl
  · have := k1.length_le
    rw [← k2, List.length_map] at this
    rw [hs]; exact this
theorem keys_apart {s : List PairD} (h : (s.map PairD.key).Nodup) {i j : Nat} (hi : i < s.length) (hj : j < i) : (Go.Gm.nth (s.take i) j).key ≠ (Go.Gm.nth s i).key := by
  have hjs : j < s.length := by omega
  have := List.pairwise_iff_getElem.1 h j i (by simpa using hjs) (by simpa using hi) hj
  rw [List.getElem_map, List.getElem_map] at this
  rw [nth_eq (by rw [List.length_take]; omega), nth_eq hi, List.getElem_take]
  exact this

theorem orderMoves_c (x y : List Int) : FnP Try.prog 5 [.sl rInt x, .sl rInt y] (.bool true) := by
  refine FnP.mk Try.func5 rfl Try.ntmps5 rfl ?_
  intro B a w F hB hfr hS
  have hxl := Sat.lenSl hS (i := 0) rfl
  have hyl := Sat.lenSl hS (i := 1) rfl
  refine wp_seq ?_
  refine region_seq hS (by kernel_rfl)
    (cF rfl (o_assign .cb (by rfl)) trivial trivial
    Chain.nil)
    (by kernel_rfl) (by rw [hB]; kernel_rfl) ?_
  clear hS; intro a w F hS
  obtain ⟨F, hS⟩ := hS.norm [(0, _), (1, _), (4, _)] [(0, _)] r3 r1
  try dsimp only [rInt, rPair] at hS
  refine then_n ?_
  refine wp_seq ?_
  refine wp_seq ?_
  refine region_seq hS (by kernel_rfl)
    (cF rfl (o_callP (lives11_c) Try.func16 rfl (by kernel_rfl) Args.nil) trivial trivial
    (cF rfl (o_not .t) r1 trivial
    Chain.nil))
    (by kernel_rfl) (by rw [hB]; kernel_rfl) ?_
  clear hS; intro a w F hS
  obtain ⟨F, hS⟩ := hS.norm [(0, _), (1, _), (4, _), (15, _)] [(0, _)] r4 r1
  try dsimp only [rInt, rPair] at hS
  refine then_n ?_
  refine cond_b hS rfl (fun hc0 => ?_) (fun hc0 => ?_)
  ·skip
   simp at hc0
  ·skip
   refine wp_skip ?_
   refine then_n ?_
   refine wp_seq ?_
   refine wp_seq ?_
   refine region_seq hS (by kernel_rfl)
     (cF rfl (o_move .t (by rfl)) r1 trivial
     (cF rfl (o_len_sl Try.underlying30 .t) r1 trivial
     (cF rfl (o_gtr .t (.ci (by kernel_rfl))) r1 trivial
     (cF rfl (o_move .t (by rfl)) r1 trivial
     (Chain.cons (Cert.cond rfl rfl (fun h => o_move .t (by rfl))) r2 trivial
     (Chain.cons (Cert.cond rfl rfl (fun h => o_len_sl Try.underlying30 (.w h))) r2 trivial
     (Chain.cons (Cert.cond rfl rfl (fun h => o_gtr (.w h) (.ci (by kernel_rfl)))) r2 trivial
     (cF rfl (o_or2 .t .t) r2 trivial
     Chain.nil))))))))
     (by kernel_rfl) (by rw [hB]; kernel_rfl) ?_
   clear hS; intro a w F hS
   obtain ⟨F, hS⟩ := hS.norm [(0, _), (1, _), (4, _), (23, _)] [(0, _)] r4 r1
   try dsimp only [rInt, rPair] at hS
   refine then_n ?_
   refine cond_b hS rfl (fun hc1 => ?_) (fun hc1 => ?_)
   ·skip
    refine wp_seq ?_
    refine region_seq hS (by kernel_rfl)
      (cF rfl (o_assign .cb (by rfl)) trivial trivial
      Chain.nil)
      (by kernel_rfl) (by rw [hB]; kernel_rfl) ?_
    clear hS; intro a w F hS
    obtain ⟨F, hS⟩ := hS.norm [(0, _), (1, _), (4, _)] [(0, _)] r3 r1
    try dsimp only [rInt, rPair] at hS
    refine then_n ?_
    refine wp_ret ?_
    refine then_r ?_
    refine ret_P hfr hS rfl (.tmp rfl .nil) (.one (.bool (by first | rfl | (simp; exact hbad) | (simp [hfin, hse]; done) | simp)))
   ·skip
    have hl60 : x.length ≤ 60 ∧ y.length ≤ 60 := by simp at hc1; omega
    refine wp_skip ?_
    refine then_n ?_
    refine wp_seq ?_
    refine region_seq hS (by kernel_rfl)
      (cF rfl (o_move .t (by rfl)) r1 trivial
      (cF rfl (o_move .t (by rfl)) r1 trivial
      (cF rfl (o_callP (osteps_c x y (by omega) (by omega)) Try.func23 rfl (by kernel_rfl) (Args.two .t .t)) r2 trivial
      (cF rfl (o_move .t (by rfl)) r1 trivial
      (cF rfl (o_extract .t rfl) r1 trivial
      (cF rfl (o_extract .t rfl) r1 trivial
      (cF rfl (o_assign .t (by rfl)) r1 trivial
      (cF rfl (o_assign .t (by rfl)) r1 trivial
      Chain.nil))))))))
      (by kernel_rfl) (by rw [hB]; kernel_rfl) ?_
    clear hS; intro a w F hS
    obtain ⟨F, hS⟩ := hS.norm [(0, _), (1, _), (4, _), (5, _), (6, _)] [(0, _)] r5 r1
    try dsimp only [rInt, rPair] at hS
    refine then_n ?_
    refine wp_seq ?_
    refine wp_seq ?_
    refine region_seq hS (by kernel_rfl)
      (cF rfl (o_move .t (by rfl)) r1 trivial
      (cF rfl (o_neq .t (.ci (by kernel_rfl))) r1 trivial
      Chain.nil))
      (by kernel_rfl) (by rw [hB]; kernel_rfl) ?_
    clear hS; intro a w F hS
    obtain ⟨F, hS⟩ := hS.norm [(0, _), (1, _), (4, _), (5, _), (6, _), (31, _)] [(0, _)] r6 r1
    try dsimp only [rInt, rPair] at hS
    refine then_n ?_
    refine cond_b hS rfl (fun hc2 => ?_) (fun hc2 => ?_)
    ·skip
     have hno : ¬ OkSteps x y := fun hk => by rw [show stepsO x y = (stepsR x 0 y, 0) from if_pos hk] at hc2; simp at hc2
     have hm : stepsO x y = ([], 8) := if_neg hno
     have hbad : (¬ RightO x ∨ ¬ RightO y) ∨ ¬ x.Perm y := by
       by_cases k1 : RightO x
       · by_cases k2 : RightO y
         · exact .inr fun k3 => hno ⟨k1, k2, k3⟩
         · exact .inl (.inr k2)
       · exact .inl (.inl k1)
     rw [hm] at hS
     dsimp only at hS
     refine wp_seq ?_
     refine region_seq hS (by kernel_rfl)
       (cF rfl (o_move .t (by rfl)) r1 trivial
       (cF rfl (o_eql .t (.ci (by kernel_rfl))) r1 trivial
       (cF rfl (o_move .t (by rfl)) r1 trivial
       (Chain.cons (Cert.cond rfl rfl (fun h => o_move .t (by rfl))) r2 trivial
       (Chain.cons (Cert.cond rfl rfl (fun h => o_len_sl Try.underlying36 (.w h))) r2 trivial
       (Chain.cons (Cert.cond rfl rfl (fun h => o_eql (.w h) (.ci (by kernel_rfl)))) r2 trivial
       (cF rfl (o_and2 .t .t) r2 trivial
       (cF rfl (o_move .t (by rfl)) r1 trivial
       (Chain.cons (Cert.cond rfl rfl (fun h => o_move .t (by rfl))) r2 trivial
       (Chain.cons (Cert.cond rfl rfl (fun h => o_callP (oright_c x) Try.func27 rfl (by kernel_rfl) (Args.one (.w h)))) r2 trivial
       (Chain.cons (Cert.cond rfl rfl (fun h => o_not (.w h))) r2 trivial
       (Chain.cons (Cert.cond rfl rfl (fun h => o_move (.w h) (by rfl))) r2 trivial
       (Chain.cons (Cert.cond2 rfl rfl (fun h => o_move .t (by rfl))) r2 trivial
       (Chain.cons (Cert.cond2 rfl rfl (fun h => o_callP (oright_c y) Try.func27 rfl (by kernel_rfl) (Args.one (.w h)))) r2 trivial
       (Chain.cons (Cert.cond2 rfl rfl (fun h => o_not (.w h))) r2 trivial
       (Chain.cons (Cert.cond rfl rfl (fun h => o_or2 (.w h) (.wc h))) r3 trivial
       (Chain.cons (Cert.cond rfl rfl (fun h => o_move (.w h) (by rfl))) r2 trivial
       (Chain.cons (Cert.cond2 rfl rfl (fun h => o_move .t (by rfl))) r2 trivial
       (Chain.cons (Cert.cond2 rfl rfl (fun h => o_move .t (by rfl))) r2 trivial
       (Chain.cons (Cert.cond2 rfl rfl (fun h => o_callP (perm_c x y (by omega) (by omega)) Try.func29 rfl (by kernel_rfl) (Args.two (.w h) (.w h)))) r3 trivial
       (Chain.cons (Cert.cond2 rfl rfl (fun h => o_not (.w h))) r2 trivial
       (Chain.cons (Cert.cond rfl rfl (fun h => o_or2 (.w h) (.wc h))) r3 trivial
       (cF rfl (o_and2 .t .t) r2 trivial
       (cF rfl (o_assign .t (by rfl)) r1 trivial
       Chain.nil))))))))))))))))))))))))
       (by kernel_rfl) (by rw [hB]; kernel_rfl) ?_
     clear hS; intro a w F hS
     obtain ⟨F, hS⟩ := hS.norm [(0, _), (1, _), (4, _), (5, _)] [(0, _)] r4 r1
     try dsimp only [rInt, rPair] at hS
     refine then_n ?_
     refine wp_ret ?_
     refine then_r ?_
     refine ret_P hfr hS rfl (.tmp rfl .nil) (.one (.bool (by first | rfl | (simp; exact hbad) | (simp [hfin, hse]; done) | simp)))
    ·skip
     have hok : OkSteps x y := by
       refine Decidable.byContradiction fun hk => ?_
       rw [show stepsO x y = ([], 8) from if_neg hk] at hc2
       simp at hc2
     have hm : stepsO x y = (stepsR x 0 y, 0) := if_pos hok
     obtain ⟨mvs, hs⟩ : ∃ z, z = stepsR x 0 y := ⟨_, rfl⟩
     rw [hm, ← hs] at hS
     dsimp only at hS
     have hF := steps_facts hok hs
     have hsh := hF.short
     refine wp_skip ?_
     refine then_n ?_
     refine wp_seq ?_
     refine region_seq hS (by kernel_rfl)
       (cF rfl (o_move .t (by rfl)) r1 trivial
       (cF rfl (o_assign .t (by rfl)) r1 trivial
       Chain.nil))
       (by kernel_rfl) (by rw [hB]; kernel_rfl) ?_
     clear hS; intro a w F hS
     obtain ⟨F, hS⟩ := hS.norm [(0, _), (1, _), (4, _), (5, _), (7, _)] [(0, _)] r5 r1
     try dsimp only [rInt, rPair] at hS
     refine then_n ?_
     refine wp_seq ?_
     refine wp_seq ?_
     refine region_seq hS (by kernel_rfl)
       (cF rfl (o_move .t (by rfl)) r1 trivial
       (cF rfl (o_len_sl Try.underlying36 .t) r1 trivial
       (cF rfl (o_move (.ci (by kernel_rfl)) (by rfl)) trivial trivial
       Chain.nil)))
       (by kernel_rfl) (by rw [hB]; kernel_rfl) ?_
     clear hS; intro a w F hS
     obtain ⟨F, hS⟩ := hS.norm [(0, _), (1, _), (4, _), (5, _), (7, _), (56, _), (57, _), (58, _)] [(0, _)] r8 r1
     try dsimp only [rInt, rPair] at hS
     refine then_n ?_
     refine wp_block ?_
     refine loop_keep (σ := (Nat)) [0, 1, 4, 5, 56, 57] [0] (fun s => [(58, .pv (.int .i64 (s : Int))), (7, .pv (.sl rInt (doMoves x (mvs.take s))))]) (fun s => []) (fun s => s ≤ mvs.length ∧ (True)) (fun s => mvs.length - s) (0) hS ⟨rfl, rfl, rfl, rfl, rfl, rfl, rfl, rfl, trivial⟩ ⟨rfl, trivial⟩ ⟨Nat.zero_le _, trivial⟩ ?_
     clear hS; intro i a w F hC hS
     try dsimp only at hC
     obtain ⟨F, hS⟩ := hS.norm [(0, _), (1, _), (4, _), (5, _), (7, _), (56, _), (57, _), (58, _)] [(0, _)] r8 r1
     try dsimp only at hS
     obtain ⟨hi, hq⟩ := hC
     have hoi := hi
     have hms := hF.each i
     have hml := hF.len i
     have hka := fun h j => keys_apart hF.keys (i := i) (j := j) h
     refine wp_seq ?_
     refine region_seq hS (by kernel_rfl)
       (cF rfl (o_lss .t .t) r2 trivial
       Chain.nil)
       (by kernel_rfl) (by rw [hB]; kernel_rfl) ?_
     clear hS; intro a w F hS
     obtain ⟨F, hS⟩ := hS.norm [(0, _), (1, _), (4, _), (5, _), (7, _), (56, _), (57, _), (58, _), (59, _)] [(0, _)] ⟨rfl, rfl, rfl, rfl, rfl, rfl, rfl, rfl, rfl, trivial⟩ r1
     try dsimp only [rInt, rPair] at hS
     refine then_n ?_
     refine wp_seq ?_
     refine cond_b hS rfl (fun hc3 => ?_) (fun hc3 => ?_)
     ·skip
      have hil : i < mvs.length := by simp at hc3; omega
      have hio := hil
      refine wp_skip ?_
      refine then_n ?_
      refine wp_seq ?_
      refine wp_block ?_
      refine wp_seq ?_
      refine region_seq hS (by kernel_rfl)
        (cF rfl (o_move .t (by rfl)) r1 trivial
        (cF rfl (o_indexAddr_sl (sz := 2) (.mk Try.underlying36 (by kernel_rfl)) (by intro x; rfl) .t .t (by omega) (by omega)) r2 trivial
        (cF rfl (o_load_ref (ag := true) (sz := 2) .t (by kernel_rfl) (by kernel_rfl) (by kernel_rfl)) r1 trivial
        (cF rfl (o_alloc (zs := [.int .i64 0, .int .i64 0]) 101 (by kernel_rfl)) trivial trivial
        (cF rfl (o_assign .t (by rfl)) r1 trivial
        (cF rfl (o_storeA (sz := 2) 101 .same .t (by kernel_rfl) (by kernel_rfl) (by kernel_rfl)) r2 r1
        Chain.nil))))))
        (by kernel_rfl) (by rw [hB]; kernel_rfl) ?_
      clear hS; intro a w F hS
      replace hS := hS.sub
      obtain ⟨F, hS⟩ := hS.norm [(0, _), (1, _), (4, _), (5, _), (7, _), (8, _), (9, _), (56, _), (57, _), (58, _), (59, _), (60, _), (61, _), (62, _)] [(0, _), (101, _)] ⟨rfl, rfl, rfl, rfl, rfl, rfl, rfl, rfl, rfl, rfl, rfl, rfl, rfl, rfl, trivial⟩ r2
      try dsimp only [RS.sub, SF.sub, CF.sub, csub, Anc.sub, List.map, stCells, List.length_cons, List.length_nil, Nat.reduceAdd, List.drop_succ_cons, List.drop_zero, List.drop_nil, List.take_succ_cons, List.take_zero, List.take_nil, List.cons_append, List.nil_append, zCF, ldSF, rInt, rPair] at hS
      generalize Act.tau a 9 = v9 at hS
      try simp only [Int.toNat_natCast] at hS
      refine then_n ?_
      refine wp_seq ?_
      refine wp_seq ?_
      refine region_seq hS (by kernel_rfl)
        (cF rfl (o_move .t (by rfl)) r1 trivial
        (cF rfl (o_move .t (by rfl)) r1 trivial
        (cF rfl (o_slice_hi (sz := 2) (.mk Try.underlying36 (by kernel_rfl)) (by intro x; rfl) .t .t (by omega) (by omega)) r2 trivial
        (cF rfl (o_len_sl Try.underlying36 .t) r1 trivial
        (cF rfl (o_move (.ci (by kernel_rfl)) (by rfl)) trivial trivial
        Chain.nil)))))
        (by kernel_rfl) (by rw [hB]; kernel_rfl) ?_
      clear hS; intro a w F hS
      obtain ⟨F, hS⟩ := hS.norm [(0, _), (1, _), (4, _), (5, _), (7, _), (8, _), (9, _), (56, _), (57, _), (58, _), (59, _), (60, _), (61, _), (62, _), (63, _), (64, _), (65, _), (66, _), (67, _)] [(0, _), (101, _)] ⟨rfl, rfl, rfl, rfl, rfl, rfl, rfl, rfl, rfl, rfl, rfl, rfl, rfl, rfl, rfl, rfl, rfl, rfl, rfl, trivial⟩ r2
      try dsimp only [rInt, rPair] at hS
      simp only [Int.toNat_natCast] at hS
      refine then_n ?_
      refine wp_block ?_
      refine loop_keep (σ := (Nat)) [0, 1, 4, 5, 7, 8, 9, 56, 57, 58, 59, 60, 61, 62, 63, 64, 65, 66] [0, 101] (fun s => [(67, .pv (.int .i64 (s : Int)))]) (fun s => []) (fun s => s ≤ (mvs.take i).length ∧ (True)) (fun s => (mvs.take i).length - s) (0) hS ⟨rfl, rfl, rfl, rfl, rfl, rfl, rfl, rfl, rfl, rfl, rfl, rfl, rfl, rfl, rfl, rfl, rfl, rfl, rfl, trivial⟩ ⟨rfl, rfl, trivial⟩ ⟨Nat.zero_le _, trivial⟩ ?_
      clear hS; intro j a w F hC hS
      try dsimp only at hC
      obtain ⟨F, hS⟩ := hS.norm [(0, _), (1, _), (4, _), (5, _), (7, _), (8, _), (9, _), (56, _), (57, _), (58, _), (59, _), (60, _), (61, _), (62, _), (63, _), (64, _), (65, _), (66, _), (67, _)] [(0, _), (101, _)] ⟨rfl, rfl, rfl, rfl, rfl, rfl, rfl, rfl, rfl, rfl, rfl, rfl, rfl, rfl, rfl, rfl, rfl, rfl, rfl, trivial⟩ r2
      try dsimp only at hS
      obtain ⟨hi, hq⟩ := hC
      have htl : (mvs.take i).length = i := by rw [List.length_take]; omega
      refine wp_seq ?_
      refine region_seq hS (by kernel_rfl)
        (cF rfl (o_lss .t .t) r2 trivial
        Chain.nil)
        (by kernel_rfl) (by rw [hB]; kernel_rfl) ?_
      clear hS; intro a w F hS
      obtain ⟨F, hS⟩ := hS.norm [(0, _), (1, _), (4, _), (5, _), (7, _), (8, _), (9, _), (56, _), (57, _), (58, _), (59, _), (60, _), (61, _), (62, _), (63, _), (64, _), (65, _), (66, _), (67, _), (68, _)] [(0, _), (101, _)] ⟨rfl, rfl, rfl, rfl, rfl, rfl, rfl, rfl, rfl, rfl, rfl, rfl, rfl, rfl, rfl, rfl, rfl, rfl, rfl, rfl, trivial⟩ r2
      try dsimp only [rInt, rPair] at hS
      refine then_n ?_
      refine wp_seq ?_
      refine cond_b hS rfl (fun hc4 => ?_) (fun hc4 => ?_)
      ·skip
       have hil : j < (mvs.take i).length := by simp at hc4; omega
       refine wp_skip ?_
       refine then_n ?_
       refine wp_seq ?_
       refine wp_block ?_
       refine wp_seq ?_
       refine region_seq hS (by kernel_rfl)
         (cF rfl (o_indexAddr_sl (sz := 2) (.mk Try.underlying36 (by kernel_rfl)) (by intro x; rfl) .t .t (by omega) (by omega)) r2 trivial
         (cF rfl (o_load_ref (ag := true) (sz := 2) .t (by kernel_rfl) (by kernel_rfl) (by kernel_rfl)) r1 trivial
         (cF rfl (o_alloc (zs := [.int .i64 0, .int .i64 0]) 102 (by kernel_rfl)) trivial trivial
         (cF rfl (o_storeA (sz := 2) 102 .same .t (by kernel_rfl) (by kernel_rfl) (by kernel_rfl)) r2 r1
         Chain.nil))))
         (by kernel_rfl) (by rw [hB]; kernel_rfl) ?_
       clear hS; intro a w F hS
       replace hS := hS.sub
       obtain ⟨F, hS⟩ := hS.norm [(0, _), (1, _), (4, _), (5, _), (7, _), (8, _), (9, _), (11, _), (56, _), (57, _), (58, _), (59, _), (60, _), (61, _), (62, _), (63, _), (64, _), (65, _), (66, _), (67, _), (68, _), (69, _), (70, _)] [(0, _), (101, _), (102, _)] ⟨rfl, rfl, rfl, rfl, rfl, rfl, rfl, rfl, rfl, rfl, rfl, rfl, rfl, rfl, rfl, rfl, rfl, rfl, rfl, rfl, rfl, rfl, rfl, trivial⟩ r3
       try dsimp only [RS.sub, SF.sub, CF.sub, csub, Anc.sub, List.map, stCells, List.length_cons, List.length_nil, Nat.reduceAdd, List.drop_succ_cons, List.drop_zero, List.drop_nil, List.take_succ_cons, List.take_zero, List.take_nil, List.cons_append, List.nil_append, zCF, ldSF, rInt, rPair] at hS
       generalize Act.tau a 11 = v11 at hS
       try simp only [Int.toNat_natCast] at hS
       refine then_n ?_
       refine wp_seq ?_
       refine region_seq hS (by kernel_rfl)
         (cF rfl (o_fieldAddr (off := 0) 102 .is (by kernel_rfl) (by rfl)) r1 r1
         (cF rfl (o_load (ag := false) (sz := 1) 102 .adr (by kernel_rfl) (by kernel_rfl) (by kernel_rfl) (by rfl)) r1 r1
         (cF rfl (o_fieldAddr (off := 0) 101 .is (by kernel_rfl) (by rfl)) r1 r1
         (cF rfl (o_load (ag := false) (sz := 1) 101 .adr (by kernel_rfl) (by kernel_rfl) (by kernel_rfl) (by rfl)) r1 r1
         (cF rfl (o_eql .t .t) r2 trivial
         Chain.nil)))))
         (by kernel_rfl) (by rw [hB]; kernel_rfl) ?_
       clear hS; intro a w F hS
       obtain ⟨F, hS⟩ := hS.norm [(0, _), (1, _), (4, _), (5, _), (7, _), (8, _), (9, _), (11, _), (56, _), (57, _), (58, _), (59, _), (60, _), (61, _), (62, _), (63, _), (64, _), (65, _), (66, _), (67, _), (68, _), (69, _), (70, _), (71, _), (72, _), (73, _), (74, _), (75, _)] [(0, _), (101, _), (102, _)] ⟨rfl, rfl, rfl, rfl, rfl, rfl, rfl, rfl, rfl, rfl, rfl, rfl, rfl, rfl, rfl, rfl, rfl, rfl, rfl, rfl, rfl, rfl, rfl, rfl, rfl, rfl, rfl, rfl, trivial⟩ r3
       try dsimp only [List.map, List.drop_succ_cons, List.drop_zero, List.drop_nil, List.take_succ_cons, List.take_zero, List.take_nil, ldSF, rInt, rPair] at hS
       refine then_n ?_
       refine cond_b hS rfl (fun hc5 => ?_) (fun hc5 => ?_)
       ·skip
        exact absurd (by simpa using hc5) (hka hio j (by omega))
       ·skip
        refine wp_skip ?_
        refine block_n ?_
        refine then_n ?_
        refine region_seq hS (by kernel_rfl)
          (cF rfl (o_add .t (.ci (by kernel_rfl))) r1 trivial
          (cF rfl (o_move .t (by rfl)) r1 trivial
          Chain.nil))
          (by kernel_rfl) (by rw [hB]; kernel_rfl) ?_
        clear hS; intro a w F hS
        obtain ⟨F, hS⟩ := hS.norm [(0, _), (1, _), (4, _), (5, _), (7, _), (8, _), (9, _), (11, _), (56, _), (57, _), (58, _), (59, _), (60, _), (61, _), (62, _), (63, _), (64, _), (65, _), (66, _), (67, _), (68, _), (69, _), (70, _), (71, _), (72, _), (73, _), (74, _), (75, _), (76, _)] [(0, _), (101, _), (102, _)] ⟨rfl, rfl, rfl, rfl, rfl, rfl, rfl, rfl, rfl, rfl, rfl, rfl, rfl, rfl, rfl, rfl, rfl, rfl, rfl, rfl, rfl, rfl, rfl, rfl, rfl, rfl, rfl, rfl, rfl, trivial⟩ r3
        try dsimp only [rInt, rPair] at hS
        refine then_n ?_
        replace hS := hS.ent (i := 67) (s' := .pv (.int .i64 ((j + 1 : Nat) : Int))) rfl (.int (wrap_succ (by omega)))
        obtain ⟨F, hS⟩ := hS.norm [(67, _), (0, _), (1, _), (4, _), (5, _), (7, _), (8, _), (9, _), (56, _), (57, _), (58, _), (59, _), (60, _), (61, _), (62, _), (63, _), (64, _), (65, _), (66, _)] [(0, _), (101, _)] ⟨rfl, rfl, rfl, rfl, rfl, rfl, rfl, rfl, rfl, rfl, rfl, rfl, rfl, rfl, rfl, rfl, rfl, rfl, rfl, trivial⟩ ⟨rfl, rfl, trivial⟩
        exact ⟨(j + 1), F, ⟨by omega, trivial⟩, hS, by omega⟩
      ·skip
       have hil : j = (mvs.take i).length := by simp at hc4; omega
       refine wp_exit ?_
       refine then_x ?_
       refine then_x ?_
       refine block_x ?_
       refine then_n ?_
       refine wp_seq ?_
       refine region_seq hS (by kernel_rfl)
         (cF rfl (o_move .t (by rfl)) r1 trivial
         (cF rfl (o_fieldAddr (off := 0) 101 .is (by kernel_rfl) (by rfl)) r1 r1
         (cF rfl (o_load (ag := false) (sz := 1) 101 .adr (by kernel_rfl) (by kernel_rfl) (by kernel_rfl) (by rfl)) r1 r1
         (cF rfl (o_fieldAddr (off := 1) 101 .is (by kernel_rfl) (by rfl)) r1 r1
         (cF rfl (o_load (ag := false) (sz := 1) 101 .adr (by kernel_rfl) (by kernel_rfl) (by kernel_rfl) (by rfl)) r1 r1
         (cF rfl (o_callP (omove_c (doMoves x (mvs.take i)) (Go.Gm.nth mvs i).key (Go.Gm.nth mvs i).val (by omega)) Try.func21 rfl (by kernel_rfl) (Args.three .t .t .t)) r3 trivial
         (cF rfl (o_move .t (by rfl)) r1 trivial
         (cF rfl (o_extract .t rfl) r1 trivial
         (cF rfl (o_extract .t rfl) r1 trivial
         (cF rfl (o_assign .t (by rfl)) r1 trivial
         (cF rfl (o_assign .t (by rfl)) r1 trivial
         Chain.nil)))))))))))
         (by kernel_rfl) (by rw [hB]; kernel_rfl) ?_
       clear hS; intro a w F hS
       obtain ⟨F, hS⟩ := hS.norm [(0, _), (1, _), (4, _), (5, _), (7, _), (8, _), (9, _), (12, _), (13, _), (56, _), (57, _), (58, _), (59, _), (60, _), (61, _), (62, _), (63, _), (64, _), (65, _), (66, _), (67, _), (68, _), (77, _), (78, _), (79, _), (80, _), (81, _), (82, _), (83, _), (84, _), (85, _)] [(0, _), (101, _)] ⟨rfl, rfl, rfl, rfl, rfl, rfl, rfl, rfl, rfl, rfl, rfl, rfl, rfl, rfl, rfl, rfl, rfl, rfl, rfl, rfl, rfl, rfl, rfl, rfl, rfl, rfl, rfl, rfl, rfl, rfl, rfl, trivial⟩ r2
       try dsimp only [List.map, List.drop_succ_cons, List.drop_zero, List.drop_nil, List.take_succ_cons, List.take_zero, List.take_nil, ldSF, rInt, rPair] at hS
       rw [hms hio] at hS
       dsimp only at hS
       refine then_n ?_
       refine wp_seq ?_
       refine wp_seq ?_
       refine region_seq hS (by kernel_rfl)
         (cF rfl (o_move .t (by rfl)) r1 trivial
         (cF rfl (o_neq .t (.ci (by kernel_rfl))) r1 trivial
         Chain.nil))
         (by kernel_rfl) (by rw [hB]; kernel_rfl) ?_
       clear hS; intro a w F hS
       obtain ⟨F, hS⟩ := hS.norm [(0, _), (1, _), (4, _), (5, _), (7, _), (8, _), (9, _), (12, _), (13, _), (56, _), (57, _), (58, _), (59, _), (60, _), (61, _), (62, _), (63, _), (64, _), (65, _), (66, _), (67, _), (68, _), (77, _), (78, _), (79, _), (80, _), (81, _), (82, _), (83, _), (84, _), (85, _), (86, _), (87, _)] [(0, _), (101, _)] ⟨rfl, rfl, rfl, rfl, rfl, rfl, rfl, rfl, rfl, rfl, rfl, rfl, rfl, rfl, rfl, rfl, rfl, rfl, rfl, rfl, rfl, rfl, rfl, rfl, rfl, rfl, rfl, rfl, rfl, rfl, rfl, rfl, rfl, trivial⟩ r2
       try dsimp only [rInt, rPair] at hS
       refine then_n ?_
       refine cond_b hS rfl (fun hc6 => ?_) (fun hc6 => ?_)
       ·skip
        simp at hc6
       ·skip
        refine wp_skip ?_
        refine then_n ?_
        refine region_seq hS (by kernel_rfl)
          (cF rfl (o_move .t (by rfl)) r1 trivial
          (cF rfl (o_assign .t (by rfl)) r1 trivial
          Chain.nil))
          (by kernel_rfl) (by rw [hB]; kernel_rfl) ?_
        clear hS; intro a w F hS
        obtain ⟨F, hS⟩ := hS.norm [(0, _), (1, _), (4, _), (5, _), (7, _), (8, _), (9, _), (12, _), (13, _), (56, _), (57, _), (58, _), (59, _), (60, _), (61, _), (62, _), (63, _), (64, _), (65, _), (66, _), (67, _), (68, _), (77, _), (78, _), (79, _), (80, _), (81, _), (82, _), (83, _), (84, _), (85, _), (86, _), (87, _), (88, _)] [(0, _), (101, _)] ⟨rfl, rfl, rfl, rfl, rfl, rfl, rfl, rfl, rfl, rfl, rfl, rfl, rfl, rfl, rfl, rfl, rfl, rfl, rfl, rfl, rfl, rfl, rfl, rfl, rfl, rfl, rfl, rfl, rfl, rfl, rfl, rfl, rfl, rfl, trivial⟩ r2
        try dsimp only [rInt, rPair] at hS
        refine block_n ?_
        refine then_n ?_
        refine region_seq hS (by kernel_rfl)
          (cF rfl (o_add .t (.ci (by kernel_rfl))) r1 trivial
          (cF rfl (o_move .t (by rfl)) r1 trivial
          Chain.nil))
          (by kernel_rfl) (by rw [hB]; kernel_rfl) ?_
        clear hS; intro a w F hS
        obtain ⟨F, hS⟩ := hS.norm [(0, _), (1, _), (4, _), (5, _), (7, _), (8, _), (9, _), (12, _), (13, _), (56, _), (57, _), (58, _), (59, _), (60, _), (61, _), (62, _), (63, _), (64, _), (65, _), (66, _), (67, _), (68, _), (77, _), (78, _), (79, _), (80, _), (81, _), (82, _), (83, _), (84, _), (85, _), (86, _), (87, _), (88, _), (89, _)] [(0, _), (101, _)] ⟨rfl, rfl, rfl, rfl, rfl, rfl, rfl, rfl, rfl, rfl, rfl, rfl, rfl, rfl, rfl, rfl, rfl, rfl, rfl, rfl, rfl, rfl, rfl, rfl, rfl, rfl, rfl, rfl, rfl, rfl, rfl, rfl, rfl, rfl, rfl, trivial⟩ r2
        try dsimp only [rInt, rPair] at hS
        refine then_n ?_
        replace hS := hS.ent (i := 58) (s' := .pv (.int .i64 ((i + 1 : Nat) : Int))) rfl (.int (wrap_succ (by omega)))
        obtain ⟨F, hS⟩ := hS.norm [(58, _), (7, _), (0, _), (1, _), (4, _), (5, _), (56, _), (57, _)] [(0, _)] ⟨rfl, rfl, rfl, rfl, rfl, rfl, rfl, rfl, trivial⟩ ⟨rfl, trivial⟩
        exact ⟨(i + 1), F, ⟨by omega, trivial⟩, hS, by omega⟩
     ·skip
      have hil : i = mvs.length := by simp at hc3; omega
      have hfin : doMoves x (mvs.take i) = y := by rw [hil, List.take_length]; exact hF.done
      have hse : mvs = [] ↔ x = y := by rw [← hF.none]; simp
      refine wp_exit ?_
      refine then_x ?_
      refine then_x ?_
      refine block_x ?_
      refine then_n ?_
      refine wp_seq ?_
      refine region_seq hS (by kernel_rfl)
        (cF rfl (o_move .t (by rfl)) r1 trivial
        (cF rfl (o_move .t (by rfl)) r1 trivial
        (cF rfl (o_callP (osame_c _ y) Try.func31 rfl (by kernel_rfl) (Args.two .t .t)) r2 trivial
        (cF rfl (o_move .t (by rfl)) r1 trivial
        (Chain.cons (Cert.cond rfl rfl (fun h => o_move .t (by rfl))) r2 trivial
        (Chain.cons (Cert.cond rfl rfl (fun h => o_len_sl Try.underlying36 (.w h))) r2 trivial
        (Chain.cons (Cert.cond rfl rfl (fun h => o_eql (.w h) (.ci (by kernel_rfl)))) r2 trivial
        (Chain.cons (Cert.cond rfl rfl (fun h => o_move .t (by rfl))) r2 trivial
        (Chain.cons (Cert.cond rfl rfl (fun h => o_move .t (by rfl))) r2 trivial
        (Chain.cons (Cert.cond rfl rfl (fun h => o_callP (osame_c x y) Try.func31 rfl (by kernel_rfl) (Args.two (.w h) (.w h)))) r3 trivial
        (Chain.cons (Cert.cond rfl rfl (fun h => o_eqlB Try.underlying4 (.w h) (.w h))) r3 trivial
        (cF rfl (o_and2 .t .t) r2 trivial
        (cF rfl (o_assign .t (by rfl)) r1 trivial
        Chain.nil)))))))))))))
        (by kernel_rfl) (by rw [hB]; kernel_rfl) ?_
      clear hS; intro a w F hS
      obtain ⟨F, hS⟩ := hS.norm [(4, _)] [(0, _)] r1 r1
      try dsimp only [rInt, rPair] at hS
      refine then_n ?_
      refine wp_ret ?_
      refine ret_P hfr hS rfl (.tmp rfl .nil) (.one (.bool (by first | rfl | (simp; exact hbad) | (simp [hfin, hse]; done) | simp)))

end Go.Proofs.Ytpjjmolibanakaa
