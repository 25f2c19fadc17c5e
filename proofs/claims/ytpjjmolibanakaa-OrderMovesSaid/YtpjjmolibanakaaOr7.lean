/- Steps. No condition beyond those that each theorem says. -/
import Derived.Test.YtpjjmolibanakaaOr6
namespace Go.Proofs.Ytpjjmolibanakaa
open Go Go.Gm
set_option linter.unusedVariables false
set_option linter.unusedSimpArgs false
set_option maxHeartbeats 4000000
set_option maxRecDepth 8000


theorem osteps_c (x y : List Int) (hx : x.length ≤ 1000000) (hy : y.length ≤ 1000000) : FnP Try.prog 23 [.sl rInt x, .sl rInt y] (.tup [.sl rPair (stepsO x y).1, .int .i64 (stepsO x y).2]) := by
  refine FnP.mk Try.func23 rfl Try.ntmps23 rfl ?_
  intro B a w F hB hfr hS
  refine wp_seq ?_
  refine region_seq hS (by kernel_rfl)
    (cF rfl (o_assign (.c rfl) (by rfl)) trivial trivial
    (cF rfl (o_assign (.ci (by kernel_rfl)) (by rfl)) trivial trivial
    Chain.nil))
    (by kernel_rfl) (by rw [hB]; kernel_rfl) ?_
  clear hS; intro a w F hS
  obtain ⟨F, hS⟩ := hS.norm [(0, _), (1, _), (4, _), (5, _)] [(0, _)] r4 r1
  try dsimp only [rInt, rPair] at hS
  refine then_n ?_
  refine wp_seq ?_
  refine wp_seq ?_
  refine region_seq hS (by kernel_rfl)
    (cF rfl (o_move .t (by rfl)) r1 trivial
    (cF rfl (o_callP (oright_c x) Try.func27 rfl (by kernel_rfl) (Args.one .t)) r1 trivial
    (cF rfl (o_not .t) r1 trivial
    (cF rfl (o_move .t (by rfl)) r1 trivial
    (Chain.cons (Cert.cond rfl rfl (fun h => o_move .t (by rfl))) r2 trivial
    (Chain.cons (Cert.cond rfl rfl (fun h => o_callP (oright_c y) Try.func27 rfl (by kernel_rfl) (Args.one (.w h)))) r2 trivial
    (Chain.cons (Cert.cond rfl rfl (fun h => o_not (.w h))) r2 trivial
    (cF rfl (o_or2 .t .t) r2 trivial
    (cF rfl (o_move .t (by rfl)) r1 trivial
    (Chain.cons (Cert.cond rfl rfl (fun h => o_move .t (by rfl))) r2 trivial
    (Chain.cons (Cert.cond rfl rfl (fun h => o_move .t (by rfl))) r2 trivial
    (Chain.cons (Cert.cond rfl rfl (fun h => o_callP (perm_c x y hx hy) Try.func29 rfl (by kernel_rfl) (Args.two (.w h) (.w h)))) r3 trivial
    (Chain.cons (Cert.cond rfl rfl (fun h => o_not (.w h))) r2 trivial
    (cF rfl (o_or2 .t .t) r2 trivial
    Chain.nil))))))))))))))
    (by kernel_rfl) (by rw [hB]; kernel_rfl) ?_
  clear hS; intro a w F hS
  obtain ⟨F, hS⟩ := hS.norm [(0, _), (1, _), (4, _), (5, _), (23, _)] [(0, _)] r5 r1
  try dsimp only [rInt, rPair] at hS
  refine then_n ?_
  refine cond_b hS rfl (fun hc0 => ?_) (fun hc0 => ?_)
  ·skip
   have hno : ¬ OkSteps x y := by unfold OkSteps; rintro ⟨k1, k2, k3⟩; simp [k1, k2, k3] at hc0
   have hm : stepsO x y = ([], 8) := if_neg hno
   refine wp_seq ?_
   refine region_seq hS (by kernel_rfl)
     (cF rfl (o_assign (.c rfl) (by rfl)) trivial trivial
     (cF rfl (o_assign (.ci (by kernel_rfl)) (by rfl)) trivial trivial
     Chain.nil))
     (by kernel_rfl) (by rw [hB]; kernel_rfl) ?_
   clear hS; intro a w F hS
   obtain ⟨F, hS⟩ := hS.norm [(0, _), (1, _), (4, _), (5, _)] [(0, _)] r4 r1
   try dsimp only [rInt, rPair] at hS
   refine then_n ?_
   refine wp_ret ?_
   refine then_r ?_
   refine ret_P hfr hS rfl (.tmp rfl (.tmp rfl .nil)) (.two (.trans .nilSl (.sl (by rw [hm]))) (.int (by rw [hm])))
  ·skip
   have hok : OkSteps x y := by unfold OkSteps; simp at hc0; simpa [and_assoc] using hc0
   have hxyl := hok.2.2.length_eq
   refine wp_skip ?_
   refine then_n ?_
   refine wp_seq ?_
   refine region_seq hS (by kernel_rfl)
     (cF rfl (o_assign (.c rfl) (by rfl)) trivial trivial
     Chain.nil)
     (by kernel_rfl) (by rw [hB]; kernel_rfl) ?_
   clear hS; intro a w F hS
   obtain ⟨F, hS⟩ := hS.norm [(0, _), (1, _), (4, _), (5, _), (6, _)] [(0, _)] r5 r1
   try dsimp only [rInt, rPair] at hS
   refine then_n ?_
   refine wp_seq ?_
   replace hS := hS.fresh 101 rfl
   refine region_seq hS (by kernel_rfl)
     (cF rfl (o_move .t (by rfl)) r1 trivial
     (cF rfl (o_callN 101 (cloneI_c x hx) Try.func77 rfl (by kernel_rfl) (Args.one .t) pvOne1) r1 r1
     (cF rfl (o_assign .t (by rfl)) r1 trivial
     Chain.nil)))
     (by kernel_rfl) (by rw [hB]; kernel_rfl) ?_
   clear hS; intro a w F hS
   replace hS := hS.sub
   obtain ⟨F, hS⟩ := hS.norm [(1, _), (4, _), (5, _), (6, _), (7, _)] [(0, _), (101, _)] r5 r2
   try dsimp only [RS.sub, SF.sub, CF.sub, csub, Anc.sub, List.map, rInt, rPair] at hS
   generalize Act.tau a 25 = v25 at hS
   obtain ⟨F, hS⟩ := hS.give 101 7 rfl rfl
   obtain ⟨F, hS⟩ := hS.norm [(1, _), (4, _), (5, _), (6, _), (7, _)] [(0, _)] r5 r1
   refine then_n ?_
   refine wp_seq ?_
   refine wp_seq ?_
   refine region_seq hS (by kernel_rfl)
     (cF rfl (o_move .t (by rfl)) r1 trivial
     (cF rfl (o_len_sl Try.underlying30 .t) r1 trivial
     (cF rfl (o_move (.ci (by kernel_rfl)) (by rfl)) trivial trivial
     Chain.nil)))
     (by kernel_rfl) (by rw [hB]; kernel_rfl) ?_
   clear hS; intro a w F hS
   obtain ⟨F, hS⟩ := hS.norm [(4, _), (5, _), (6, _), (7, _), (26, _), (27, _), (28, _)] [(0, _)] r7 r1
   try dsimp only [rInt, rPair] at hS
   refine then_n ?_
   refine wp_block ?_
   replace hS := hS.fresh 50 rfl
   replace hS := hS.turn 50 rfl (nilRow (T := 45) (sz := 2) (R := rPair))
   refine loop_keep (σ := (Nat) × (List Int) × (Value) × (List PairD)) [4, 5, 26, 27] [0] (fun s => [(28, .pv (.int .i64 (s.1 : Int))), (7, .pv (.sl rInt s.2.1)), (6, .pv (.is s.2.2.1))]) (fun s => [(50, .ob (.val s.2.2.1) (rowH 45 2 rPair s.2.2.2))]) (fun s => s.1 ≤ y.length ∧ (stepsR x 0 y = s.2.2.2 ++ stepsR s.2.1 s.1 (y.drop s.1) ∧ (s.2.1).Perm x ∧ (s.2.2.2).length ≤ s.1)) (fun s => y.length - s.1) ((0), (x), (.slice none 0 0), ([])) hS ⟨rfl, rfl, rfl, rfl, rfl, rfl, rfl, trivial⟩ ⟨rfl, rfl, trivial⟩ ⟨Nat.zero_le _, ⟨rfl, .refl _, Nat.zero_le _⟩⟩ ?_
   clear hS; intro s a w F hC hS
   obtain ⟨i, now, v, out⟩ := s
   try dsimp only at hC
   obtain ⟨F, hS⟩ := hS.norm [(4, _), (5, _), (6, _), (7, _), (26, _), (27, _), (28, _)] [(0, _), (50, _)] r7 r2
   try dsimp only at hS
   obtain ⟨hi, hq⟩ := hC
   obtain ⟨hst, hpm, hol⟩ := hq
   have hnl : now.length = x.length := hpm.length_eq
   have hdn := @drop_nth _ _ y i
   refine wp_seq ?_
   refine region_seq hS (by kernel_rfl)
     (cF rfl (o_lss .t .t) r2 trivial
     Chain.nil)
     (by kernel_rfl) (by rw [hB]; kernel_rfl) ?_
   clear hS; intro a w F hS
   obtain ⟨F, hS⟩ := hS.norm [(4, _), (5, _), (6, _), (7, _), (26, _), (27, _), (28, _), (29, _)] [(0, _), (50, _)] r8 r2
   try dsimp only [rInt, rPair] at hS
   refine then_n ?_
   refine wp_seq ?_
   refine cond_b hS rfl (fun hc1 => ?_) (fun hc1 => ?_)
   ·skip
    have hil : i < y.length := by simp at hc1; omega
    refine wp_skip ?_
    refine then_n ?_
    refine wp_seq ?_
    refine wp_block ?_
    refine wp_seq ?_
    refine region_seq hS (by kernel_rfl)
      (cF rfl (o_move .t (by rfl)) r1 trivial
      (cF rfl (o_indexAddr_sl (sz := 1) (.mk Try.underlying30 (by kernel_rfl)) (by intro x; rfl) .t .t (by omega) (by omega)) r2 trivial
      (cF rfl (o_load_ref (ag := false) (sz := 1) .t (by kernel_rfl) (by kernel_rfl) (by kernel_rfl)) r1 trivial
      (cF rfl (o_assign .t (by rfl)) r1 trivial
      (cF rfl (o_assign .t (by rfl)) r1 trivial
      Chain.nil)))))
      (by kernel_rfl) (by rw [hB]; kernel_rfl) ?_
    clear hS; intro a w F hS
    obtain ⟨F, hS⟩ := hS.norm [(4, _), (5, _), (6, _), (7, _), (8, _), (9, _), (26, _), (27, _), (28, _), (29, _), (30, _), (31, _), (32, _)] [(0, _), (50, _)] ⟨rfl, rfl, rfl, rfl, rfl, rfl, rfl, rfl, rfl, rfl, rfl, rfl, rfl, trivial⟩ r2
    try dsimp only [List.map, List.drop_succ_cons, List.drop_zero, List.drop_nil, List.take_succ_cons, List.take_zero, List.take_nil, ldSF, rInt, rPair] at hS
    try simp only [Int.toNat_natCast] at hS
    refine then_n ?_
    refine wp_seq ?_
    refine wp_seq ?_
    refine region_seq hS (by kernel_rfl)
      (cF rfl (o_move .t (by rfl)) r1 trivial
      (cF rfl (o_move .t (by rfl)) r1 trivial
      (cF rfl (o_indexAddr_sl (sz := 1) (.mk Try.underlying30 (by kernel_rfl)) (by intro x; rfl) .t .t (by omega) (by omega)) r2 trivial
      (cF rfl (o_load_ref (ag := false) (sz := 1) .t (by kernel_rfl) (by kernel_rfl) (by kernel_rfl)) r1 trivial
      (cF rfl (o_move .t (by rfl)) r1 trivial
      (cF rfl (o_eql .t .t) r2 trivial
      Chain.nil))))))
      (by kernel_rfl) (by rw [hB]; kernel_rfl) ?_
    clear hS; intro a w F hS
    obtain ⟨F, hS⟩ := hS.norm [(4, _), (5, _), (6, _), (7, _), (8, _), (9, _), (26, _), (27, _), (28, _), (29, _), (30, _), (31, _), (32, _), (33, _), (34, _), (35, _), (36, _), (37, _), (38, _)] [(0, _), (50, _)] ⟨rfl, rfl, rfl, rfl, rfl, rfl, rfl, rfl, rfl, rfl, rfl, rfl, rfl, rfl, rfl, rfl, rfl, rfl, rfl, trivial⟩ r2
    try dsimp only [List.map, List.drop_succ_cons, List.drop_zero, List.drop_nil, List.take_succ_cons, List.take_zero, List.take_nil, ldSF, rInt, rPair] at hS
    try simp only [Int.toNat_natCast] at hS
    refine then_n ?_
    refine cond_b hS rfl (fun hc2 => ?_) (fun hc2 => ?_)
    ·skip
     have hne : Go.Gm.nth now i = Go.Gm.nth y i := by simpa using hc2
     have hst2 := stepsR_hit (to := y.drop (i + 1)) hne
     rw [← drop_nth hil] at hst2
     have hpm2 := hpm
     obtain ⟨now2, hn2⟩ : ∃ z, z = now := ⟨_, rfl⟩
     rw [← hn2] at hS hst hst2 hpm2
     refine wp_exit ?_
     refine then_x ?_
     refine block_x ?_
     refine then_n ?_
     refine region_seq hS (by kernel_rfl)
       (cF rfl (o_add .t (.ci (by kernel_rfl))) r1 trivial
       (cF rfl (o_move .t (by rfl)) r1 trivial
       Chain.nil))
       (by kernel_rfl) (by rw [hB]; kernel_rfl) ?_
     clear hS; intro a w F hS
     obtain ⟨F, hS⟩ := hS.norm [(4, _), (5, _), (6, _), (7, _), (8, _), (9, _), (26, _), (27, _), (28, _), (29, _), (30, _), (31, _), (32, _), (33, _), (34, _), (35, _), (36, _), (37, _), (38, _), (52, _)] [(0, _), (50, _)] ⟨rfl, rfl, rfl, rfl, rfl, rfl, rfl, rfl, rfl, rfl, rfl, rfl, rfl, rfl, rfl, rfl, rfl, rfl, rfl, rfl, trivial⟩ r2
     try dsimp only [rInt, rPair] at hS
     refine then_n ?_
     replace hS := hS.ent (i := 28) (s' := .pv (.int .i64 ((i + 1 : Nat) : Int))) rfl (.int (wrap_succ (by omega)))
     obtain ⟨F, hS⟩ := hS.norm [(28, _), (7, _), (6, _), (4, _), (5, _), (26, _), (27, _)] [(50, _), (0, _)] ⟨rfl, rfl, rfl, rfl, rfl, rfl, rfl, trivial⟩ ⟨rfl, rfl, trivial⟩
     exact ⟨((i + 1), (now2), _, _), F, ⟨by omega, ⟨by first | (rw [hst, hst2]; done) | (rw [hst, hst2]; simp), hpm2, by first | omega | (simp only [List.length_append, List.length_cons, List.length_nil]; omega)⟩⟩, hS, by omega⟩
    ·skip
     have hne : ¬ Go.Gm.nth now i = Go.Gm.nth y i := by simpa using hc2
     have hst2 := stepsR_miss (to := y.drop (i + 1)) hne
     rw [← drop_nth hil] at hst2
     have hpm2 := (moveO_perm (place := (i : Int)) (hpm.mem_iff.2 (hok.2.2.mem_iff.2 (nth_mem hil))) (by omega)).trans hpm
     obtain ⟨now2, hn2⟩ : ∃ z, z = (moveO now (Go.Gm.nth y i) i).1 := ⟨_, rfl⟩
     rw [← hn2] at hst2 hpm2
     refine wp_skip ?_
     refine then_n ?_
     refine wp_seq ?_
     refine region_seq hS (by kernel_rfl)
       (cF rfl (o_move .t (by rfl)) r1 trivial
       (cF rfl (o_move .t (by rfl)) r1 trivial
       (cF rfl (o_move .t (by rfl)) r1 trivial
       (cF rfl (o_callP (omove_c now (Go.Gm.nth y i) i (by omega)) Try.func21 rfl (by kernel_rfl) (Args.three .t .t .t)) r3 trivial
       (cF rfl (o_move .t (by rfl)) r1 trivial
       (cF rfl (o_extract .t rfl) r1 trivial
       (cF rfl (o_extract .t rfl) r1 trivial
       (cF rfl (o_assign .t (by rfl)) r1 trivial
       Chain.nil))))))))
       (by kernel_rfl) (by rw [hB]; kernel_rfl) ?_
     clear hS; intro a w F hS
     obtain ⟨F, hS⟩ := hS.norm [(4, _), (5, _), (6, _), (7, _), (8, _), (9, _), (26, _), (27, _), (28, _), (29, _), (30, _), (31, _), (32, _), (33, _), (34, _), (35, _), (36, _), (37, _), (38, _), (39, _), (40, _), (41, _), (42, _), (43, _), (44, _)] [(0, _), (50, _)] ⟨rfl, rfl, rfl, rfl, rfl, rfl, rfl, rfl, rfl, rfl, rfl, rfl, rfl, rfl, rfl, rfl, rfl, rfl, rfl, rfl, rfl, rfl, rfl, rfl, rfl, trivial⟩ r2
     try dsimp only [rInt, rPair] at hS
     rw [← hn2] at hS
     refine then_n ?_
     refine region_seq hS (by kernel_rfl)
       (cF rfl (o_move .t (by rfl)) r1 trivial
       (cF rfl (o_move .t (by rfl)) r1 trivial
       (cF rfl (o_move .t (by rfl)) r1 trivial
       (cF rfl (o_build (r := [(0, .tmp 47), (1, .tmp 48)]) (zs := [.int .i64 0, .int .i64 0]) (pl := [(0, 1), (1, 1)]) (by kernel_rfl) (by kernel_rfl) (.one rfl .t one_int (by kernel_rfl) (.one rfl .t one_int (by kernel_rfl) .nil)) (by rfl)) r2 trivial
       (cF rfl (o_buildSliceE (sz := 2) (zs := [.int .i64 0, .int .i64 0]) (r := [(0, .tmp 49)]) (l := [_, _]) Try.underlying36 (by kernel_rfl) (by kernel_rfl) (by kernel_rfl) (by kernel_rfl) rfl rfl (.agg rfl .t (by kernel_rfl) (by kernel_rfl) .nil) rfl) r1 trivial
       (cF rfl (o_append (sz := 2) (bs := 16) 50 (.mk' Try.underlying36 (by kernel_rfl) (by kernel_rfl)) (by intro x; rfl) .is (.arr (l' := [(⟨Go.Gm.nth y i, i⟩ : PairD)]) .t) (by simp only [List.length_append, List.length_cons, List.length_nil]; omega) (by decide)) ⟨rfl, rfl, trivial⟩ ⟨rfl, trivial⟩
       (cF rfl (o_assign .t (by rfl)) r1 trivial
       Chain.nil)))))))
       (by kernel_rfl) (by rw [hB]; kernel_rfl) ?_
     clear hS; intro a w F hS
     replace hS := hS.sub
     obtain ⟨F, hS⟩ := hS.norm [(4, _), (5, _), (6, _), (7, _), (8, _), (9, _), (26, _), (27, _), (28, _), (29, _), (30, _), (31, _), (32, _), (33, _), (34, _), (35, _), (36, _), (37, _), (38, _), (39, _), (40, _), (41, _), (42, _), (43, _), (44, _), (46, _), (47, _), (48, _), (49, _), (50, _), (51, _)] [(0, _), (50, _)] ⟨rfl, rfl, rfl, rfl, rfl, rfl, rfl, rfl, rfl, rfl, rfl, rfl, rfl, rfl, rfl, rfl, rfl, rfl, rfl, rfl, rfl, rfl, rfl, rfl, rfl, rfl, rfl, rfl, rfl, rfl, rfl, trivial⟩ r2
     try dsimp only [RS.sub, SF.sub, CF.sub, csub, Anc.sub, List.map, stCells, List.length_cons, List.length_nil, Nat.reduceAdd, List.drop_succ_cons, List.drop_zero, List.drop_nil, List.take_succ_cons, List.take_zero, List.take_nil, List.cons_append, List.nil_append, zCF, rInt, rPair] at hS
     generalize Act.tau a 51 = v51 at hS
     refine block_n ?_
     refine then_n ?_
     refine region_seq hS (by kernel_rfl)
       (cF rfl (o_add .t (.ci (by kernel_rfl))) r1 trivial
       (cF rfl (o_move .t (by rfl)) r1 trivial
       Chain.nil))
       (by kernel_rfl) (by rw [hB]; kernel_rfl) ?_
     clear hS; intro a w F hS
     obtain ⟨F, hS⟩ := hS.norm [(4, _), (5, _), (6, _), (7, _), (8, _), (9, _), (26, _), (27, _), (28, _), (29, _), (30, _), (31, _), (32, _), (33, _), (34, _), (35, _), (36, _), (37, _), (38, _), (39, _), (40, _), (41, _), (42, _), (43, _), (44, _), (46, _), (47, _), (48, _), (49, _), (50, _), (51, _), (52, _)] [(0, _), (50, _)] ⟨rfl, rfl, rfl, rfl, rfl, rfl, rfl, rfl, rfl, rfl, rfl, rfl, rfl, rfl, rfl, rfl, rfl, rfl, rfl, rfl, rfl, rfl, rfl, rfl, rfl, rfl, rfl, rfl, rfl, rfl, rfl, rfl, trivial⟩ r2
     try dsimp only [rInt, rPair] at hS
     refine then_n ?_
     replace hS := hS.ent (i := 28) (s' := .pv (.int .i64 ((i + 1 : Nat) : Int))) rfl (.int (wrap_succ (by omega)))
     obtain ⟨F, hS⟩ := hS.norm [(28, _), (7, _), (6, _), (4, _), (5, _), (26, _), (27, _)] [(50, _), (0, _)] ⟨rfl, rfl, rfl, rfl, rfl, rfl, rfl, trivial⟩ ⟨rfl, rfl, trivial⟩
     exact ⟨((i + 1), (now2), _, _), F, ⟨by omega, ⟨by first | (rw [hst, hst2]; done) | (rw [hst, hst2]; simp), hpm2, by first | omega | (simp only [List.length_append, List.length_cons, List.length_nil]; omega)⟩⟩, hS, by omega⟩
   ·skip
    have hil : i = y.length := by simp at hc1; omega
    rw [hil, List.drop_length, stepsR, List.append_nil] at hst
    have hm : stepsO x y = (out, 0) := by unfold stepsO; rw [if_pos hok, hst]
    refine wp_exit ?_
    refine then_x ?_
    refine then_x ?_
    refine block_x ?_
    refine then_n ?_
    refine wp_seq ?_
    refine region_seq hS (by kernel_rfl)
      (cF rfl (o_move .t (by rfl)) r1 trivial
      (cF rfl (o_assign .t (by rfl)) r1 trivial
      (cF rfl (o_assign (.ci (by kernel_rfl)) (by rfl)) trivial trivial
      Chain.nil)))
      (by kernel_rfl) (by rw [hB]; kernel_rfl) ?_
    clear hS; intro a w F hS
    obtain ⟨F, hS⟩ := hS.norm [(4, _), (5, _)] [(0, _), (50, _)] r2 r2
    try dsimp only [rInt, rPair] at hS
    refine then_n ?_
    refine wp_ret ?_
    obtain ⟨F, hS⟩ := hS.give 50 4 rfl rfl
    refine ret_P hfr hS rfl (.tmp rfl (.tmp rfl .nil)) (.two (.sl (by rw [hm])) (.int (by rw [hm])))

theorem steps11_c (x y : List Int) (hx : x.length ≤ 1000000) (hy : y.length ≤ 1000000) : FnP Try.prog 24 [.sl rInt x, .sl rInt y] (.tup [.sl rPair (stepsO x y).1, .int .i64 (stepsO x y).2]) := by
  refine FnP.mk Try.func24 rfl Try.ntmps24 rfl ?_
  intro B a w F hB hfr hS
  refine wp_seq ?_
  refine region_seq hS (by kernel_rfl)
    (cF rfl (o_assign (.c rfl) (by rfl)) trivial trivial
    (cF rfl (o_assign (.ci (by kernel_rfl)) (by rfl)) trivial trivial
    Chain.nil))
    (by kernel_rfl) (by rw [hB]; kernel_rfl) ?_
  clear hS; intro a w F hS
  obtain ⟨F, hS⟩ := hS.norm [(0, _), (1, _), (4, _), (5, _)] [(0, _)] r4 r1
  try dsimp only [rInt, rPair] at hS
  refine then_n ?_
  refine wp_seq ?_
  refine wp_seq ?_
  refine region_seq hS (by kernel_rfl)
    (cF rfl (o_move .t (by rfl)) r1 trivial
    (cF rfl (o_callP (right11_c x) Try.func28 rfl (by kernel_rfl) (Args.one .t)) r1 trivial
    (cF rfl (o_not .t) r1 trivial
    (cF rfl (o_move .t (by rfl)) r1 trivial
    (Chain.cons (Cert.cond rfl rfl (fun h => o_move .t (by rfl))) r2 trivial
    (Chain.cons (Cert.cond rfl rfl (fun h => o_callP (right11_c y) Try.func28 rfl (by kernel_rfl) (Args.one (.w h)))) r2 trivial
    (Chain.cons (Cert.cond rfl rfl (fun h => o_not (.w h))) r2 trivial
    (cF rfl (o_or2 .t .t) r2 trivial
    (cF rfl (o_move .t (by rfl)) r1 trivial
    (Chain.cons (Cert.cond rfl rfl (fun h => o_move .t (by rfl))) r2 trivial
    (Chain.cons (Cert.cond rfl rfl (fun h => o_move .t (by rfl))) r2 trivial
    (Chain.cons (Cert.cond rfl rfl (fun h => o_callP (perm11_c x y) Try.func30 rfl (by kernel_rfl) (Args.two (.w h) (.w h)))) r3 trivial
    (Chain.cons (Cert.cond rfl rfl (fun h => o_not (.w h))) r2 trivial
    (cF rfl (o_or2 .t .t) r2 trivial
    Chain.nil))))))))))))))
    (by kernel_rfl) (by rw [hB]; kernel_rfl) ?_
  clear hS; intro a w F hS
  obtain ⟨F, hS⟩ := hS.norm [(0, _), (1, _), (4, _), (5, _), (24, _)] [(0, _)] r5 r1
  try dsimp only [rInt, rPair] at hS
  refine then_n ?_
  refine cond_b hS rfl (fun hc0 => ?_) (fun hc0 => ?_)
  ·skip
   have hno : ¬ OkSteps x y := by unfold OkSteps; rintro ⟨k1, k2, k3⟩; simp [k1, k2, k3] at hc0
   have hm : stepsO x y = ([], 8) := if_neg hno
   refine wp_seq ?_
   refine region_seq hS (by kernel_rfl)
     (cF rfl (o_assign (.c rfl) (by rfl)) trivial trivial
     (cF rfl (o_assign (.ci (by kernel_rfl)) (by rfl)) trivial trivial
     Chain.nil))
     (by kernel_rfl) (by rw [hB]; kernel_rfl) ?_
   clear hS; intro a w F hS
   obtain ⟨F, hS⟩ := hS.norm [(0, _), (1, _), (4, _), (5, _)] [(0, _)] r4 r1
   try dsimp only [rInt, rPair] at hS
   refine then_n ?_
   refine wp_ret ?_
   refine then_r ?_
   refine ret_P hfr hS rfl (.tmp rfl (.tmp rfl .nil)) (.two (.trans .nilSl (.sl (by rw [hm]))) (.int (by rw [hm])))
  ·skip
   have hok : OkSteps x y := by unfold OkSteps; simp at hc0; simpa [and_assoc] using hc0
   have hxyl := hok.2.2.length_eq
   refine wp_skip ?_
   refine then_n ?_
   refine wp_seq ?_
   refine region_seq hS (by kernel_rfl)
     (cF rfl (o_assign (.c rfl) (by rfl)) trivial trivial
     Chain.nil)
     (by kernel_rfl) (by rw [hB]; kernel_rfl) ?_
   clear hS; intro a w F hS
   obtain ⟨F, hS⟩ := hS.norm [(0, _), (1, _), (4, _), (5, _), (6, _)] [(0, _)] r5 r1
   try dsimp only [rInt, rPair] at hS
   refine then_n ?_
   refine wp_seq ?_
   refine wp_seq ?_
   refine region_seq hS (by kernel_rfl)
     (cF rfl (o_move .t (by rfl)) r1 trivial
     (cF rfl (o_len_sl Try.underlying30 .t) r1 trivial
     (cF rfl (o_move (.ci (by kernel_rfl)) (by rfl)) trivial trivial
     Chain.nil)))
     (by kernel_rfl) (by rw [hB]; kernel_rfl) ?_
   clear hS; intro a w F hS
   obtain ⟨F, hS⟩ := hS.norm [(0, _), (4, _), (5, _), (6, _), (25, _), (26, _), (27, _)] [(0, _)] r7 r1
   try dsimp only [rInt, rPair] at hS
   refine then_n ?_
   refine wp_block ?_
   replace hS := hS.fresh 50 rfl
   replace hS := hS.turn 50 rfl (nilRow (T := 45) (sz := 2) (R := rPair))
   refine loop_keep (σ := (Nat) × (List Int) × (Value) × (List PairD)) [4, 5, 25, 26] [0] (fun s => [(27, .pv (.int .i64 (s.1 : Int))), (0, .pv (.sl rInt s.2.1)), (6, .pv (.is s.2.2.1))]) (fun s => [(50, .ob (.val s.2.2.1) (rowH 45 2 rPair s.2.2.2))]) (fun s => s.1 ≤ y.length ∧ (stepsR x 0 y = s.2.2.2 ++ stepsR s.2.1 s.1 (y.drop s.1) ∧ (s.2.1).Perm x ∧ (s.2.2.2).length ≤ s.1)) (fun s => y.length - s.1) ((0), (x), (.slice none 0 0), ([])) hS ⟨rfl, rfl, rfl, rfl, rfl, rfl, rfl, trivial⟩ ⟨rfl, rfl, trivial⟩ ⟨Nat.zero_le _, ⟨rfl, .refl _, Nat.zero_le _⟩⟩ ?_
   clear hS; intro s a w F hC hS
   obtain ⟨i, now, v, out⟩ := s
   try dsimp only at hC
   obtain ⟨F, hS⟩ := hS.norm [(0, _), (4, _), (5, _), (6, _), (25, _), (26, _), (27, _)] [(0, _), (50, _)] r7 r2
   try dsimp only at hS
   obtain ⟨hi, hq⟩ := hC
   obtain ⟨hst, hpm, hol⟩ := hq
   have hnl : now.length = x.length := hpm.length_eq
   have hdn := @drop_nth _ _ y i
   refine wp_seq ?_
   refine region_seq hS (by kernel_rfl)
     (cF rfl (o_lss .t .t) r2 trivial
     Chain.nil)
     (by kernel_rfl) (by rw [hB]; kernel_rfl) ?_
   clear hS; intro a w F hS
   obtain ⟨F, hS⟩ := hS.norm [(0, _), (4, _), (5, _), (6, _), (25, _), (26, _), (27, _), (28, _)] [(0, _), (50, _)] r8 r2
   try dsimp only [rInt, rPair] at hS
   refine then_n ?_
   refine wp_seq ?_
   refine cond_b hS rfl (fun hc1 => ?_) (fun hc1 => ?_)
   ·skip
    have hil : i < y.length := by simp at hc1; omega
    refine wp_skip ?_
    refine then_n ?_
    refine wp_seq ?_
    refine wp_block ?_
    refine wp_seq ?_
    refine region_seq hS (by kernel_rfl)
      (cF rfl (o_move .t (by rfl)) r1 trivial
      (cF rfl (o_indexAddr_sl (sz := 1) (.mk Try.underlying30 (by kernel_rfl)) (by intro x; rfl) .t .t (by omega) (by omega)) r2 trivial
      (cF rfl (o_load_ref (ag := false) (sz := 1) .t (by kernel_rfl) (by kernel_rfl) (by kernel_rfl)) r1 trivial
      (cF rfl (o_assign .t (by rfl)) r1 trivial
      (cF rfl (o_assign .t (by rfl)) r1 trivial
      Chain.nil)))))
      (by kernel_rfl) (by rw [hB]; kernel_rfl) ?_
    clear hS; intro a w F hS
    obtain ⟨F, hS⟩ := hS.norm [(0, _), (4, _), (5, _), (6, _), (7, _), (8, _), (25, _), (26, _), (27, _), (28, _), (29, _), (30, _), (31, _)] [(0, _), (50, _)] ⟨rfl, rfl, rfl, rfl, rfl, rfl, rfl, rfl, rfl, rfl, rfl, rfl, rfl, trivial⟩ r2
    try dsimp only [List.map, List.drop_succ_cons, List.drop_zero, List.drop_nil, List.take_succ_cons, List.take_zero, List.take_nil, ldSF, rInt, rPair] at hS
    try simp only [Int.toNat_natCast] at hS
    refine then_n ?_
    refine wp_seq ?_
    refine region_seq hS (by kernel_rfl)
      (cF rfl (o_move .t (by rfl)) r1 trivial
      (cF rfl (o_move .t (by rfl)) r1 trivial
      (cF rfl (o_indexAddr_sl (sz := 1) (.mk Try.underlying30 (by kernel_rfl)) (by intro x; rfl) .t .t (by omega) (by omega)) r2 trivial
      (cF rfl (o_load_ref (ag := false) (sz := 1) .t (by kernel_rfl) (by kernel_rfl) (by kernel_rfl)) r1 trivial
      (cF rfl (o_move .t (by rfl)) r1 trivial
      (cF rfl (o_neq .t .t) r2 trivial
      Chain.nil))))))
      (by kernel_rfl) (by rw [hB]; kernel_rfl) ?_
    clear hS; intro a w F hS
    obtain ⟨F, hS⟩ := hS.norm [(0, _), (4, _), (5, _), (6, _), (7, _), (8, _), (25, _), (26, _), (27, _), (28, _), (29, _), (30, _), (31, _), (32, _), (33, _), (34, _), (35, _), (36, _), (37, _)] [(0, _), (50, _)] ⟨rfl, rfl, rfl, rfl, rfl, rfl, rfl, rfl, rfl, rfl, rfl, rfl, rfl, rfl, rfl, rfl, rfl, rfl, rfl, trivial⟩ r2
    try dsimp only [List.map, List.drop_succ_cons, List.drop_zero, List.drop_nil, List.take_succ_cons, List.take_zero, List.take_nil, ldSF, rInt, rPair] at hS
    try simp only [Int.toNat_natCast] at hS
    refine then_n ?_
    refine cond_b hS rfl (fun hc2 => ?_) (fun hc2 => ?_)
    ·skip
     have hne : ¬ Go.Gm.nth now i = Go.Gm.nth y i := by simpa using hc2
     have hst2 := stepsR_miss (to := y.drop (i + 1)) hne
     rw [← drop_nth hil] at hst2
     have hpm2 := (moveO_perm (place := (i : Int)) (hpm.mem_iff.2 (hok.2.2.mem_iff.2 (nth_mem hil))) (by omega)).trans hpm
     obtain ⟨now2, hn2⟩ : ∃ z, z = (moveO now (Go.Gm.nth y i) i).1 := ⟨_, rfl⟩
     rw [← hn2] at hst2 hpm2
     refine wp_seq ?_
     refine region_seq hS (by kernel_rfl)
       (cF rfl (o_move .t (by rfl)) r1 trivial
       (cF rfl (o_move .t (by rfl)) r1 trivial
       (cF rfl (o_move .t (by rfl)) r1 trivial
       (cF rfl (o_callP (move11_c now (Go.Gm.nth y i) i (by omega)) Try.func22 rfl (by kernel_rfl) (Args.three .t .t .t)) r3 trivial
       (cF rfl (o_move .t (by rfl)) r1 trivial
       (cF rfl (o_extract .t rfl) r1 trivial
       (cF rfl (o_extract .t rfl) r1 trivial
       (cF rfl (o_assign .t (by rfl)) r1 trivial
       (cF rfl (o_assign .t (by rfl)) r1 trivial
       Chain.nil)))))))))
       (by kernel_rfl) (by rw [hB]; kernel_rfl) ?_
     clear hS; intro a w F hS
     obtain ⟨F, hS⟩ := hS.norm [(0, _), (4, _), (5, _), (6, _), (7, _), (8, _), (9, _), (25, _), (26, _), (27, _), (28, _), (29, _), (30, _), (31, _), (32, _), (33, _), (34, _), (35, _), (36, _), (37, _), (38, _), (39, _), (40, _), (41, _), (42, _), (43, _), (44, _)] [(0, _), (50, _)] ⟨rfl, rfl, rfl, rfl, rfl, rfl, rfl, rfl, rfl, rfl, rfl, rfl, rfl, rfl, rfl, rfl, rfl, rfl, rfl, rfl, rfl, rfl, rfl, rfl, rfl, rfl, rfl, trivial⟩ r2
     try dsimp only [rInt, rPair] at hS
     rw [← hn2] at hS
     refine then_n ?_
     refine wp_seq ?_
     refine region_seq hS (by kernel_rfl)
       (cF rfl (o_move .t (by rfl)) r1 trivial
       (cF rfl (o_assign .t (by rfl)) r1 trivial
       Chain.nil))
       (by kernel_rfl) (by rw [hB]; kernel_rfl) ?_
     clear hS; intro a w F hS
     obtain ⟨F, hS⟩ := hS.norm [(0, _), (4, _), (5, _), (6, _), (7, _), (8, _), (9, _), (25, _), (26, _), (27, _), (28, _), (29, _), (30, _), (31, _), (32, _), (33, _), (34, _), (35, _), (36, _), (37, _), (38, _), (39, _), (40, _), (41, _), (42, _), (43, _), (44, _), (45, _)] [(0, _), (50, _)] ⟨rfl, rfl, rfl, rfl, rfl, rfl, rfl, rfl, rfl, rfl, rfl, rfl, rfl, rfl, rfl, rfl, rfl, rfl, rfl, rfl, rfl, rfl, rfl, rfl, rfl, rfl, rfl, rfl, trivial⟩ r2
     try dsimp only [rInt, rPair] at hS
     refine then_n ?_
     refine region_seq hS (by kernel_rfl)
       (cF rfl (o_move .t (by rfl)) r1 trivial
       (cF rfl (o_move .t (by rfl)) r1 trivial
       (cF rfl (o_move .t (by rfl)) r1 trivial
       (cF rfl (o_build (r := [(0, .tmp 47), (1, .tmp 48)]) (zs := [.int .i64 0, .int .i64 0]) (pl := [(0, 1), (1, 1)]) (by kernel_rfl) (by kernel_rfl) (.one rfl .t one_int (by kernel_rfl) (.one rfl .t one_int (by kernel_rfl) .nil)) (by rfl)) r2 trivial
       (cF rfl (o_buildSliceE (sz := 2) (zs := [.int .i64 0, .int .i64 0]) (r := [(0, .tmp 49)]) (l := [_, _]) Try.underlying36 (by kernel_rfl) (by kernel_rfl) (by kernel_rfl) (by kernel_rfl) rfl rfl (.agg rfl .t (by kernel_rfl) (by kernel_rfl) .nil) rfl) r1 trivial
       (cF rfl (o_append (sz := 2) (bs := 16) 50 (.mk' Try.underlying36 (by kernel_rfl) (by kernel_rfl)) (by intro x; rfl) .is (.arr (l' := [(⟨Go.Gm.nth y i, i⟩ : PairD)]) .t) (by simp only [List.length_append, List.length_cons, List.length_nil]; omega) (by decide)) ⟨rfl, rfl, trivial⟩ ⟨rfl, trivial⟩
       (cF rfl (o_assign .t (by rfl)) r1 trivial
       Chain.nil)))))))
       (by kernel_rfl) (by rw [hB]; kernel_rfl) ?_
     clear hS; intro a w F hS
     replace hS := hS.sub
     obtain ⟨F, hS⟩ := hS.norm [(0, _), (4, _), (5, _), (6, _), (7, _), (8, _), (9, _), (25, _), (26, _), (27, _), (28, _), (29, _), (30, _), (31, _), (32, _), (33, _), (34, _), (35, _), (36, _), (37, _), (38, _), (39, _), (40, _), (41, _), (42, _), (43, _), (44, _), (45, _), (46, _), (47, _), (48, _), (49, _), (50, _), (51, _)] [(0, _), (50, _)] ⟨rfl, rfl, rfl, rfl, rfl, rfl, rfl, rfl, rfl, rfl, rfl, rfl, rfl, rfl, rfl, rfl, rfl, rfl, rfl, rfl, rfl, rfl, rfl, rfl, rfl, rfl, rfl, rfl, rfl, rfl, rfl, rfl, rfl, rfl, trivial⟩ r2
     try dsimp only [RS.sub, SF.sub, CF.sub, csub, Anc.sub, List.map, stCells, List.length_cons, List.length_nil, Nat.reduceAdd, List.drop_succ_cons, List.drop_zero, List.drop_nil, List.take_succ_cons, List.take_zero, List.take_nil, List.cons_append, List.nil_append, zCF, rInt, rPair] at hS
     generalize Act.tau a 51 = v51 at hS
     refine block_n ?_
     refine then_n ?_
     refine region_seq hS (by kernel_rfl)
       (cF rfl (o_add .t (.ci (by kernel_rfl))) r1 trivial
       (cF rfl (o_move .t (by rfl)) r1 trivial
       Chain.nil))
       (by kernel_rfl) (by rw [hB]; kernel_rfl) ?_
     clear hS; intro a w F hS
     obtain ⟨F, hS⟩ := hS.norm [(0, _), (4, _), (5, _), (6, _), (7, _), (8, _), (9, _), (25, _), (26, _), (27, _), (28, _), (29, _), (30, _), (31, _), (32, _), (33, _), (34, _), (35, _), (36, _), (37, _), (38, _), (39, _), (40, _), (41, _), (42, _), (43, _), (44, _), (45, _), (46, _), (47, _), (48, _), (49, _), (50, _), (51, _), (52, _)] [(0, _), (50, _)] ⟨rfl, rfl, rfl, rfl, rfl, rfl, rfl, rfl, rfl, rfl, rfl, rfl, rfl, rfl, rfl, rfl, rfl, rfl, rfl, rfl, rfl, rfl, rfl, rfl, rfl, rfl, rfl, rfl, rfl, rfl, rfl, rfl, rfl, rfl, rfl, trivial⟩ r2
     try dsimp only [rInt, rPair] at hS
     refine then_n ?_
     replace hS := hS.ent (i := 27) (s' := .pv (.int .i64 ((i + 1 : Nat) : Int))) rfl (.int (wrap_succ (by omega)))
     obtain ⟨F, hS⟩ := hS.norm [(27, _), (0, _), (6, _), (4, _), (5, _), (25, _), (26, _)] [(50, _), (0, _)] ⟨rfl, rfl, rfl, rfl, rfl, rfl, rfl, trivial⟩ ⟨rfl, rfl, trivial⟩
     exact ⟨((i + 1), (now2), _, _), F, ⟨by omega, ⟨by first | (rw [hst, hst2]; done) | (rw [hst, hst2]; simp), hpm2, by first | omega | (simp only [List.length_append, List.length_cons, List.length_nil]; omega)⟩⟩, hS, by omega⟩
    ·skip
     have hne : Go.Gm.nth now i = Go.Gm.nth y i := by simpa using hc2
     have hst2 := stepsR_hit (to := y.drop (i + 1)) hne
     rw [← drop_nth hil] at hst2
     have hpm2 := hpm
     obtain ⟨now2, hn2⟩ : ∃ z, z = now := ⟨_, rfl⟩
     rw [← hn2] at hS hst hst2 hpm2
     refine wp_skip ?_
     refine block_n ?_
     refine then_n ?_
     refine region_seq hS (by kernel_rfl)
       (cF rfl (o_add .t (.ci (by kernel_rfl))) r1 trivial
       (cF rfl (o_move .t (by rfl)) r1 trivial
       Chain.nil))
       (by kernel_rfl) (by rw [hB]; kernel_rfl) ?_
     clear hS; intro a w F hS
     obtain ⟨F, hS⟩ := hS.norm [(0, _), (4, _), (5, _), (6, _), (7, _), (8, _), (25, _), (26, _), (27, _), (28, _), (29, _), (30, _), (31, _), (32, _), (33, _), (34, _), (35, _), (36, _), (37, _), (52, _)] [(0, _), (50, _)] ⟨rfl, rfl, rfl, rfl, rfl, rfl, rfl, rfl, rfl, rfl, rfl, rfl, rfl, rfl, rfl, rfl, rfl, rfl, rfl, rfl, trivial⟩ r2
     try dsimp only [rInt, rPair] at hS
     refine then_n ?_
     replace hS := hS.ent (i := 27) (s' := .pv (.int .i64 ((i + 1 : Nat) : Int))) rfl (.int (wrap_succ (by omega)))
     obtain ⟨F, hS⟩ := hS.norm [(27, _), (0, _), (6, _), (4, _), (5, _), (25, _), (26, _)] [(50, _), (0, _)] ⟨rfl, rfl, rfl, rfl, rfl, rfl, rfl, trivial⟩ ⟨rfl, rfl, trivial⟩
     exact ⟨((i + 1), (now2), _, _), F, ⟨by omega, ⟨by first | (rw [hst, hst2]; done) | (rw [hst, hst2]; simp), hpm2, by first | omega | (simp only [List.length_append, List.length_cons, List.length_nil]; omega)⟩⟩, hS, by omega⟩
   ·skip
    have hil : i = y.length := by simp at hc1; omega
    rw [hil, List.drop_length, stepsR, List.append_nil] at hst
    have hm : stepsO x y = (out, 0) := by unfold stepsO; rw [if_pos hok, hst]
    refine wp_exit ?_
    refine then_x ?_
    refine then_x ?_
    refine block_x ?_
    refine then_n ?_
    refine wp_seq ?_
    refine region_seq hS (by kernel_rfl)
      (cF rfl (o_move .t (by rfl)) r1 trivial
      (cF rfl (o_assign .t (by rfl)) r1 trivial
      (cF rfl (o_assign (.ci (by kernel_rfl)) (by rfl)) trivial trivial
      Chain.nil)))
      (by kernel_rfl) (by rw [hB]; kernel_rfl) ?_
    clear hS; intro a w F hS
    obtain ⟨F, hS⟩ := hS.norm [(4, _), (5, _)] [(0, _), (50, _)] r2 r2
    try dsimp only [rInt, rPair] at hS
    refine then_n ?_
    refine wp_ret ?_
    obtain ⟨F, hS⟩ := hS.give 50 4 rfl rfl
    refine ret_P hfr hS rfl (.tmp rfl (.tmp rfl .nil)) (.two (.sl (by rw [hm])) (.int (by rw [hm])))

end Go.Proofs.Ytpjjmolibanakaa
