/- The document's right commands. No condition beyond those that each theorem says. -/
import Derived.Test.YtjdcnjemhjldoaaGreatDoorCr1
namespace Go.Proofs.YtjdcnjemhjldoaaGreatDoor
open Go Go.Gm
set_option linter.unusedVariables false
set_option linter.unusedSimpArgs false
set_option maxHeartbeats 4000000
set_option maxRecDepth 8000


theorem right_parts (c : CmdD) : rightC c = true ↔ ((1 ≤ c.kind ∧ c.kind ≤ 12) ∧ c = usedR c) ∧ (c.tx.ops.length ≤ 4095 ∧ numB c.tx.id = true ∧ numB c.id = true ∧ numB c.order.key = true ∧ numB c.key = true ∧ numB c.place = true) ∧ c.tx.ops.all rightO = true ∧ c.order.txs.all numB = true ∧ ¬ (c.kind = 9 ∧ codeR c.phen = []) := by
  constructor
  · intro h
    obtain ⟨h1, h2, h3, h4⟩ := rightC_head h
    unfold rightC numsC at h
    simp only [Bool.and_eq_true, List.all_append, List.all_cons, List.all_nil] at h
    obtain ⟨_, ⟨⟨h5, h6, h7, h8, h9, _⟩, ha⟩, hb⟩ := h
    exact ⟨⟨said_kind h1, h2⟩, ⟨h3, h5, h6, h7, h8, h9⟩, hb, ha, h4⟩
  · rintro ⟨⟨h1, h2⟩, ⟨h3, h5, h6, h7, h8, h9⟩, hb, ha, h4⟩
    unfold rightC numsC
    rw [decide_eq_true (show headC c from ⟨(said_fine h1).1, h2, h3, h4⟩)]
    simp only [Bool.and_eq_true, List.all_append, List.all_cons, List.all_nil]
    exact ⟨trivial, ⟨⟨h5, h6, h7, h8, h9, trivial⟩, ha⟩, hb⟩
theorem not_right {c : CmdD} (h : ¬ rightC c = true) : false = rightC c := by simpa using h

theorem refCmdRight_c (c : CmdD) (hc : c.order.txs.length ≤ 998) : FnP Tryz.prog 9 [.agg (rCmd c)] (.bool (rightC c)) := by
  refine FnP.mk Tryz.func9 rfl Tryz.ntmps9 rfl ?_
  intro B a w F hB hfr hS
  refine wp_seq ?_
  refine region_seq hS (by kernel_rfl)
    (cF rfl (o_boxA 101 (.conv .t .agg) (by kernel_rfl)) r1 trivial
    (cF rfl (o_assign .cb (by rfl)) trivial trivial
    Chain.nil))
    (by kernel_rfl) (by rw [hB]; kernel_rfl) ?_
  clear hS; intro a w F hS
  replace hS := hS.sub
  obtain ⟨F, hS⟩ := hS.norm [(1, _), (2, _)] [(0, _), (101, _)] r2 r2
  try dsimp only [RS.sub, SF.sub, CF.sub, csub, Anc.sub, List.map, zCF, rCmd] at hS
  generalize Act.tau a 1 = v1 at hS
  refine then_n ?_
  refine wp_seq ?_
  refine wp_seq ?_
  refine region_any (by kernel_rfl) hS (by kernel_rfl)
    (cF rfl (o_fieldAddr (off := 0) 101 .is (by kernel_rfl) (by rfl)) r1 r1
    (cF rfl (o_load (ag := false) (sz := 1) 101 .adr (by kernel_rfl) (by kernel_rfl) (by kernel_rfl) (by rfl)) r1 r1
    (cF rfl (o_lss .t (.ci (by kernel_rfl))) r1 trivial
    (cF rfl (o_move .t (by rfl)) r1 trivial
    (Chain.cons (Cert.cond rfl rfl (fun h => o_fieldAddr (off := 0) 101 .is (by kernel_rfl) (by rfl))) r2 r1
    (Chain.cons (Cert.cond rfl rfl (fun h => o_load (ag := false) (sz := 1) 101 (.w h .adr) (by kernel_rfl) (by kernel_rfl) (by kernel_rfl) (by rfl))) r2 r1
    (Chain.cons (Cert.cond rfl rfl (fun h => o_gtr (.w h) (.ci (by kernel_rfl)))) r2 trivial
    (cF rfl (o_or2 .t .t) r2 trivial
    (cF rfl (o_move .t (by rfl)) r1 trivial
    (Chain.cons (Cert.cond rfl rfl (fun h => o_load (ag := true) (sz := 10) 101 .is (by kernel_rfl) (by kernel_rfl) (by kernel_rfl) (by rfl))) r2 r1
    (Chain.cons (Cert.cond rfl rfl (fun h => o_load (ag := true) (sz := 10) 101 .is (by kernel_rfl) (by kernel_rfl) (by kernel_rfl) (by rfl))) r2 r1
    (Chain.cons (Cert.cond rfl rfl (fun h => o_callP (bare_c c) Tryz.func31 rfl (by kernel_rfl) (Args.one (.pagg (.w h))))) r2 trivial
    (Chain.cons (Cert.cond rfl rfl (fun h => o_callP (refCmdSame_c c (usedR c)) Tryz.func7 rfl (by kernel_rfl) (Args.two (.pagg (.w h)) (.w h)))) r3 trivial
    (Chain.cons (Cert.cond rfl rfl (fun h => o_not (.w h))) r2 trivial
    (cF rfl (o_or2 .t .t) r2 trivial
    Chain.nil)))))))))))))))
    (by kernel_rfl) (by rw [hB]; kernel_rfl) ?_
  clear hS; intro a w F hS
  obtain ⟨F, hS⟩ := hS.norm [(1, _), (2, _), (21, _)] [(0, _), (101, _)] r3 r2
  try dsimp only [List.map, List.drop_succ_cons, List.drop_zero, List.drop_nil, List.take_succ_cons, List.take_zero, List.take_nil, ldSF, rCmd] at hS
  refine then_n ?_
  refine cond_b hS rfl (fun hc0 => ?_) (fun hc0 => ?_)
  ·skip
   have hg : false = rightC c := not_right fun h => by
     obtain ⟨⟨g1, g2⟩, _⟩ := (right_parts c).1 h
     simp only [Bool.or_eq_true, decide_eq_true_eq, Bool.not_eq_true', Bool.not_eq_false, decide_eq_false_iff_not] at hc0
     rcases hc0 with (hx | hx) | hx
     · omega
     · omega
     · exact hx g2
   refine wp_seq ?_
   refine region_seq hS (by kernel_rfl)
     (cF rfl (o_assign .cb (by rfl)) trivial trivial
     Chain.nil)
     (by kernel_rfl) (by rw [hB]; kernel_rfl) ?_
   clear hS; intro a w F hS
   obtain ⟨F, hS⟩ := hS.norm [(1, _), (2, _)] [(0, _), (101, _)] r2 r2
   try dsimp only [rCmd] at hS
   refine then_n ?_
   refine wp_ret ?_
   refine then_r ?_
   refine ret_P hfr hS rfl (.tmp rfl .nil) (.one (.bool (by first | exact hg | (rw [Bool.eq_iff_iff, right_parts]; exact ⟨fun h => ⟨hA, hB5, hallo, halln, fun g => by simp [g.1, g.2] at h⟩, fun h => (Classical.em (c.kind = 9)).elim (fun g => by have g2 : codeR c.phen ≠ [] := fun e => h.2.2.2.2 ⟨g, e⟩; simp [g2]) (fun g => by simp [g])⟩))))
  ·skip
   have hA : (1 ≤ c.kind ∧ c.kind ≤ 12) ∧ c = usedR c := by
     rw [Bool.eq_false_iff] at hc0
     refine Classical.byContradiction fun g => hc0 ?_
     simp only [Bool.or_eq_true, decide_eq_true_eq, Bool.not_eq_true', Bool.not_eq_false, decide_eq_false_iff_not]
     by_cases g2 : c = usedR c
     · left; exact Classical.byContradiction fun g3 => g ⟨by omega, g2⟩
     · exact .inr g2
   refine wp_skip ?_
   refine then_n ?_
   refine wp_seq ?_
   refine wp_seq ?_
   refine region_seqN hS (by kernel_rfl)
     (cG rfl (o_fieldAddr (off := 1) 101 .is (by kernel_rfl) (by rfl)) r1 r1
     (cG rfl (o_fieldAddr (off := 2) 101 .adr (by kernel_rfl) (by rfl)) r1 r1
     (cG rfl (o_load (ag := false) (sz := 1) 101 .adr (by kernel_rfl) (by kernel_rfl) (by kernel_rfl) (by rfl)) r1 r1
     (cG rfl (o_len_sl Tryz.underlying22 .t) r1 trivial
     (cG rfl (o_gtr .t (.ci (by kernel_rfl))) r1 trivial
     (cG rfl (o_move .t (by rfl)) r1 trivial
     (ChainN.cons (Cert.cond rfl rfl (fun h => o_fieldAddr (off := 1) 101 .is (by kernel_rfl) (by rfl))) r2 r1
     (ChainN.cons (Cert.cond rfl rfl (fun h => o_fieldAddr (off := 0) 101 (.w h .adr) (by kernel_rfl) (by rfl))) r2 r1
     (ChainN.cons (Cert.cond rfl rfl (fun h => o_load (ag := false) (sz := 1) 101 (.w h .adr) (by kernel_rfl) (by kernel_rfl) (by kernel_rfl) (by rfl))) r2 r1
     (ChainN.cons (Cert.cond rfl rfl (fun h => o_callP (refNumber_c c.tx.id) Tryz.func32 rfl (by kernel_rfl) (Args.one (.w h)))) r2 trivial
     (ChainN.cons (Cert.cond rfl rfl (fun h => o_not (.w h))) r2 trivial
     (cG rfl (o_or2 .t .t) r2 trivial
     (cG rfl (o_move .t (by rfl)) r1 trivial
     (ChainN.cons (Cert.cond rfl rfl (fun h => o_fieldAddr (off := 7) 101 .is (by kernel_rfl) (by rfl))) r2 r1
     (ChainN.cons (Cert.cond rfl rfl (fun h => o_load (ag := false) (sz := 1) 101 (.w h .adr) (by kernel_rfl) (by kernel_rfl) (by kernel_rfl) (by rfl))) r2 r1
     (ChainN.cons (Cert.cond rfl rfl (fun h => o_callP (refNumber_c c.id) Tryz.func32 rfl (by kernel_rfl) (Args.one (.w h)))) r2 trivial
     (ChainN.cons (Cert.cond rfl rfl (fun h => o_not (.w h))) r2 trivial
     (cG rfl (o_or2 .t .t) r2 trivial
     (cG rfl (o_move .t (by rfl)) r1 trivial
     (ChainN.cons (Cert.cond rfl rfl (fun h => o_fieldAddr (off := 4) 101 .is (by kernel_rfl) (by rfl))) r2 r1
     (ChainN.cons (Cert.cond rfl rfl (fun h => o_fieldAddr (off := 0) 101 (.w h .adr) (by kernel_rfl) (by rfl))) r2 r1
     (ChainN.cons (Cert.cond rfl rfl (fun h => o_load (ag := false) (sz := 1) 101 (.w h .adr) (by kernel_rfl) (by kernel_rfl) (by kernel_rfl) (by rfl))) r2 r1
     (ChainN.cons (Cert.cond rfl rfl (fun h => o_callP (refNumber_c c.order.key) Tryz.func32 rfl (by kernel_rfl) (Args.one (.w h)))) r2 trivial
     (ChainN.cons (Cert.cond rfl rfl (fun h => o_not (.w h))) r2 trivial
     (ChainN.norm [(1, _), (2, _), (40, _), (45, _)] [(0, _), (101, _)] r4 r2
     (cG rfl (o_or2 .t .t) r2 trivial
     (cG rfl (o_move .t (by rfl)) r1 trivial
     (ChainN.cons (Cert.cond rfl rfl (fun h => o_fieldAddr (off := 6) 101 .is (by kernel_rfl) (by rfl))) r2 r1
     (ChainN.cons (Cert.cond rfl rfl (fun h => o_load (ag := false) (sz := 1) 101 (.w h .adr) (by kernel_rfl) (by kernel_rfl) (by kernel_rfl) (by rfl))) r2 r1
     (ChainN.cons (Cert.cond rfl rfl (fun h => o_callP (refNumber_c c.key) Tryz.func32 rfl (by kernel_rfl) (Args.one (.w h)))) r2 trivial
     (ChainN.cons (Cert.cond rfl rfl (fun h => o_not (.w h))) r2 trivial
     (cG rfl (o_or2 .t .t) r2 trivial
     (cG rfl (o_move .t (by rfl)) r1 trivial
     (ChainN.cons (Cert.cond rfl rfl (fun h => o_fieldAddr (off := 8) 101 .is (by kernel_rfl) (by rfl))) r2 r1
     (ChainN.cons (Cert.cond rfl rfl (fun h => o_load (ag := false) (sz := 1) 101 (.w h .adr) (by kernel_rfl) (by kernel_rfl) (by kernel_rfl) (by rfl))) r2 r1
     (ChainN.cons (Cert.cond rfl rfl (fun h => o_callP (refNumber_c c.place) Tryz.func32 rfl (by kernel_rfl) (Args.one (.w h)))) r2 trivial
     (ChainN.cons (Cert.cond rfl rfl (fun h => o_not (.w h))) r2 trivial
     (cG rfl (o_or2 .t .t) r2 trivial
     ChainN.nil))))))))))))))))))))))))))))))))))))))
     (by kernel_rfl) (by rw [hB]; kernel_rfl) ?_
   clear hS; intro a w F hS
   obtain ⟨F, hS⟩ := hS.norm [(1, _), (2, _), (58, _)] [(0, _), (101, _)] r3 r2
   try dsimp only [List.map, List.drop_succ_cons, List.drop_zero, List.drop_nil, List.take_succ_cons, List.take_zero, List.take_nil, ldSF, rCmd] at hS
   refine then_n ?_
   refine cond_b hS rfl (fun hc1 => ?_) (fun hc1 => ?_)
   ·skip
    have hg : false = rightC c := not_right fun h => by
      obtain ⟨_, ⟨g1, g2, g3, g4, g5, g6⟩, _⟩ := (right_parts c).1 h
      rw [g2, g3, g4, g5, g6] at hc1
      simp at hc1
      omega
    refine wp_seq ?_
    refine region_seq hS (by kernel_rfl)
      (cF rfl (o_assign .cb (by rfl)) trivial trivial
      Chain.nil)
      (by kernel_rfl) (by rw [hB]; kernel_rfl) ?_
    clear hS; intro a w F hS
    obtain ⟨F, hS⟩ := hS.norm [(1, _), (2, _)] [(0, _), (101, _)] r2 r2
    try dsimp only [rCmd] at hS
    refine then_n ?_
    refine wp_ret ?_
    refine then_r ?_
    refine ret_P hfr hS rfl (.tmp rfl .nil) (.one (.bool (by first | exact hg | (rw [Bool.eq_iff_iff, right_parts]; exact ⟨fun h => ⟨hA, hB5, hallo, halln, fun g => by simp [g.1, g.2] at h⟩, fun h => (Classical.em (c.kind = 9)).elim (fun g => by have g2 : codeR c.phen ≠ [] := fun e => h.2.2.2.2 ⟨g, e⟩; simp [g2]) (fun g => by simp [g])⟩))))
   ·skip
    have hB5 : (c.tx.ops.length ≤ 4095 ∧ numB c.tx.id = true ∧ numB c.id = true ∧ numB c.order.key = true ∧ numB c.key = true ∧ numB c.place = true) := by
      simp only [Bool.or_eq_false_iff, decide_eq_false_iff_not, Bool.not_eq_false'] at hc1
      obtain ⟨⟨⟨⟨⟨g1, g2⟩, g3⟩, g4⟩, g5⟩, g6⟩ := hc1
      exact ⟨by omega, g2, g3, g4, g5, g6⟩
    have hol := hB5.1
    refine wp_skip ?_
    refine then_n ?_
    refine wp_seq ?_
    refine wp_seq ?_
    refine region_seq hS (by kernel_rfl)
      (cF rfl (o_fieldAddr (off := 1) 101 .is (by kernel_rfl) (by rfl)) r1 r1
      (cF rfl (o_fieldAddr (off := 2) 101 .adr (by kernel_rfl) (by rfl)) r1 r1
      (cF rfl (o_load (ag := false) (sz := 1) 101 .adr (by kernel_rfl) (by kernel_rfl) (by kernel_rfl) (by rfl)) r1 r1
      (cF rfl (o_len_sl Tryz.underlying22 .t) r1 trivial
      (cF rfl (o_move (.ci (by kernel_rfl)) (by rfl)) trivial trivial
      Chain.nil)))))
      (by kernel_rfl) (by rw [hB]; kernel_rfl) ?_
    clear hS; intro a w F hS
    obtain ⟨F, hS⟩ := hS.norm [(1, _), (2, _), (61, _), (62, _), (63, _)] [(0, _), (101, _)] r5 r2
    try dsimp only [List.map, List.drop_succ_cons, List.drop_zero, List.drop_nil, List.take_succ_cons, List.take_zero, List.take_nil, ldSF, rCmd] at hS
    refine then_n ?_
    refine wp_block ?_
    obtain ⟨F, hS⟩ := hS.norm [(1, _), (61, _), (62, _), (63, _)] [(0, _), (101, _)] r4 r2
    refine loop_inv (σ := Nat) (fun s => (⟨[(1, .pv (.is v1)), (61, .pv (.sl rOp c.tx.ops)), (62, .pv (.int .i64 (c.tx.ops.length : Nat))), (63, .pv (.int .i64 (s : Nat)))], [(0, frame B), (101, .pt (.val v1) 29 [.pv (.int .i64 c.kind), .pv (.int .i64 c.tx.id), .pv (.bool c.tx.done), .pv (.sl rOp c.tx.ops), .pv (.int .i64 c.order.key), .pv (.sl rInt c.order.txs), .pv (.int .i64 c.key), .pv (.int .i64 c.id), .pv (.int .i64 c.place), .pv (.int .i64 c.phen)])]⟩ : En)) (fun s => s ≤ c.tx.ops.length ∧ ∀ j, j < s → rightO (nth c.tx.ops j) = true) (fun s => c.tx.ops.length - s) 0 hS ⟨Nat.zero_le _, fun j hj => absurd hj (Nat.not_lt_zero _)⟩ ?_
    clear hS; intro k a w F hC hS
    try dsimp only at hC
    try dsimp only at hS
    obtain ⟨hk0, hqk⟩ := hC
    refine wp_seq ?_
    refine region_seq hS (by kernel_rfl)
      (cF rfl (o_lss .t .t) r2 trivial
      Chain.nil)
      (by kernel_rfl) (by rw [hB]; kernel_rfl) ?_
    clear hS; intro a w F hS
    obtain ⟨F, hS⟩ := hS.norm [(1, _), (61, _), (62, _), (63, _), (64, _)] [(0, _), (101, _)] r5 r2
    try dsimp only [rCmd] at hS
    refine then_n ?_
    refine wp_seq ?_
    refine cond_b hS rfl (fun hc2 => ?_) (fun hc2 => ?_)
    ·skip
     have hkl : k < c.tx.ops.length := by have h9 := of_decide_eq_true hc2; omega
     refine wp_skip ?_
     refine then_n ?_
     refine wp_seq ?_
     refine wp_block ?_
     refine wp_seq ?_
     refine region_seq hS (by kernel_rfl)
       (cF rfl (o_indexAddr_sl (sz := 4) (.mk Tryz.underlying22 (by kernel_rfl)) (by intro x; rfl) .t .t (by omega) (by omega)) r2 trivial
       (cF rfl (o_load_ref (ag := true) (sz := 4) .t (by kernel_rfl) (by kernel_rfl) (by kernel_rfl)) r1 trivial
       (cF rfl (o_alloc (zs := [.bool false, .int .i64 0, .int .i64 0, .int .i64 0]) 102 (by kernel_rfl)) trivial trivial
       (cF rfl (o_storeA (sz := 4) 102 .same .t (by kernel_rfl) (by kernel_rfl) (by kernel_rfl)) r2 r1
       Chain.nil))))
       (by kernel_rfl) (by rw [hB]; kernel_rfl) ?_
     clear hS; intro a w F hS
     replace hS := hS.sub
     obtain ⟨F, hS⟩ := hS.norm [(1, _), (4, _), (61, _), (62, _), (63, _), (64, _), (65, _), (66, _)] [(0, _), (101, _), (102, _)] r8 r3
     try dsimp only [RS.sub, SF.sub, CF.sub, csub, Anc.sub, List.map, stCells, List.length_cons, List.length_nil, Nat.reduceAdd, List.drop_succ_cons, List.drop_zero, List.drop_nil, List.take_succ_cons, List.take_zero, List.take_nil, List.cons_append, List.nil_append, zCF, ldSF, rCmd] at hS
     generalize Act.tau a 4 = v4 at hS
     rw [Int.toNat_natCast] at hS
     refine then_n ?_
     refine wp_seq ?_
     refine region_seq hS (by kernel_rfl)
       (cF rfl (o_load (ag := true) (sz := 4) 102 .is (by kernel_rfl) (by kernel_rfl) (by kernel_rfl) (by rfl)) r1 r1
       (cF rfl (o_callP (refOpRight_c (nth c.tx.ops k)) Tryz.func33 rfl (by kernel_rfl) (Args.one (.pagg .t))) r1 trivial
       (cF rfl (o_not .t) r1 trivial
       Chain.nil)))
       (by kernel_rfl) (by rw [hB]; kernel_rfl) ?_
     clear hS; intro a w F hS
     obtain ⟨F, hS⟩ := hS.norm [(1, _), (4, _), (61, _), (62, _), (63, _), (64, _), (65, _), (66, _), (67, _), (68, _), (69, _)] [(0, _), (101, _), (102, _)] ⟨rfl, rfl, rfl, rfl, rfl, rfl, rfl, rfl, rfl, rfl, rfl, trivial⟩ r3
     try dsimp only [List.map, List.drop_succ_cons, List.drop_zero, List.drop_nil, List.take_succ_cons, List.take_zero, List.take_nil, ldSF, rCmd] at hS
     refine then_n ?_
     refine cond_b hS rfl (fun hc3 => ?_) (fun hc3 => ?_)
     ·skip
      have h8 : rightO (nth c.tx.ops k) = false := by simpa using hc3
      have hg : false = rightC c := not_right fun h => by rw [List.all_eq_true.1 ((right_parts c).1 h).2.2.1 _ (nth_mem hkl)] at h8; cases h8
      refine wp_seq ?_
      refine region_seq hS (by kernel_rfl)
        (cF rfl (o_assign .cb (by rfl)) trivial trivial
        Chain.nil)
        (by kernel_rfl) (by rw [hB]; kernel_rfl) ?_
      clear hS; intro a w F hS
      obtain ⟨F, hS⟩ := hS.norm [(1, _), (2, _), (4, _), (61, _), (62, _), (63, _), (64, _), (65, _), (66, _), (67, _), (68, _), (69, _)] [(0, _), (101, _), (102, _)] ⟨rfl, rfl, rfl, rfl, rfl, rfl, rfl, rfl, rfl, rfl, rfl, rfl, trivial⟩ r3
      try dsimp only [rCmd] at hS
      refine then_n ?_
      refine wp_ret ?_
      refine block_r ?_
      refine then_r ?_
      refine then_r ?_
      refine block_r ?_
      refine then_r ?_
      refine ret_P hfr hS rfl (.tmp rfl .nil) (.one (.bool (by first | exact hg | (rw [Bool.eq_iff_iff, right_parts]; exact ⟨fun h => ⟨hA, hB5, hallo, halln, fun g => by simp [g.1, g.2] at h⟩, fun h => (Classical.em (c.kind = 9)).elim (fun g => by have g2 : codeR c.phen ≠ [] := fun e => h.2.2.2.2 ⟨g, e⟩; simp [g2]) (fun g => by simp [g])⟩))))
     ·skip
      have hqe : rightO (nth c.tx.ops k) = true := by simpa using hc3
      refine wp_skip ?_
      refine block_n ?_
      refine then_n ?_
      refine region_seq hS (by kernel_rfl)
        (cF rfl (o_add .t (.ci (by kernel_rfl))) r1 trivial
        (cF rfl (o_move .t (by rfl)) r1 trivial
        Chain.nil))
        (by kernel_rfl) (by rw [hB]; kernel_rfl) ?_
      clear hS; intro a w F hS
      obtain ⟨F, hS⟩ := hS.norm [(1, _), (4, _), (61, _), (62, _), (63, _), (64, _), (65, _), (66, _), (67, _), (68, _), (69, _), (70, _)] [(0, _), (101, _), (102, _)] ⟨rfl, rfl, rfl, rfl, rfl, rfl, rfl, rfl, rfl, rfl, rfl, rfl, trivial⟩ r3
      try dsimp only [rCmd] at hS
      refine then_n ?_
      replace hS := hS.ent (i := 63) (s' := .pv (.int .i64 ((k + 1 : Nat) : Int))) rfl (.int (wrap_succ (by omega)))
      obtain ⟨F, hS⟩ := hS.norm [(1, _), (61, _), (62, _), (63, _)] [(0, _), (101, _)] r4 r2
      exact ⟨k + 1, F, ⟨by omega, fun j hj => (Nat.lt_or_ge j k).elim (hqk j) (fun h1 => (show k = j by omega) ▸ hqe)⟩, hS, by omega⟩
    ·skip
     have hallo : c.tx.ops.all rightO = true := by
       rw [List.all_eq_true]
       intro x hx
       obtain ⟨j, hj, rfl⟩ := List.getElem_of_mem hx
       rw [← nth_eq hj]
       exact hqk j (by have h9 := of_decide_eq_false hc2; omega)
     refine wp_exit ?_
     refine then_x ?_
     refine then_x ?_
     refine block_x ?_
     refine then_n ?_
     refine wp_seq ?_
     refine wp_seq ?_
     refine region_seq hS (by kernel_rfl)
       (cF rfl (o_fieldAddr (off := 4) 101 .is (by kernel_rfl) (by rfl)) r1 r1
       (cF rfl (o_fieldAddr (off := 1) 101 .adr (by kernel_rfl) (by rfl)) r1 r1
       (cF rfl (o_load (ag := false) (sz := 1) 101 .adr (by kernel_rfl) (by kernel_rfl) (by kernel_rfl) (by rfl)) r1 r1
       (cF rfl (o_len_sl Tryz.underlying25 .t) r1 trivial
       (cF rfl (o_move (.ci (by kernel_rfl)) (by rfl)) trivial trivial
       Chain.nil)))))
       (by kernel_rfl) (by rw [hB]; kernel_rfl) ?_
     clear hS; intro a w F hS
     obtain ⟨F, hS⟩ := hS.norm [(1, _), (73, _), (74, _), (75, _)] [(0, _), (101, _)] r4 r2
     try dsimp only [List.map, List.drop_succ_cons, List.drop_zero, List.drop_nil, List.take_succ_cons, List.take_zero, List.take_nil, ldSF, rCmd] at hS
     refine then_n ?_
     refine wp_block ?_
     obtain ⟨F, hS⟩ := hS.norm [(1, _), (73, _), (74, _), (75, _)] [(0, _), (101, _)] r4 r2
     refine loop_inv (σ := Nat) (fun s => (⟨[(1, .pv (.is v1)), (73, .pv (.sl rInt c.order.txs)), (74, .pv (.int .i64 (c.order.txs.length : Nat))), (75, .pv (.int .i64 (s : Nat)))], [(0, frame B), (101, .pt (.val v1) 29 [.pv (.int .i64 c.kind), .pv (.int .i64 c.tx.id), .pv (.bool c.tx.done), .pv (.sl rOp c.tx.ops), .pv (.int .i64 c.order.key), .pv (.sl rInt c.order.txs), .pv (.int .i64 c.key), .pv (.int .i64 c.id), .pv (.int .i64 c.place), .pv (.int .i64 c.phen)])]⟩ : En)) (fun s => s ≤ c.order.txs.length ∧ ∀ j, j < s → numB (nth c.order.txs j) = true) (fun s => c.order.txs.length - s) 0 hS ⟨Nat.zero_le _, fun j hj => absurd hj (Nat.not_lt_zero _)⟩ ?_
     clear hS; intro i a w F hC hS
     try dsimp only at hC
     try dsimp only at hS
     obtain ⟨hi0, hqi⟩ := hC
     refine wp_seq ?_
     refine region_seq hS (by kernel_rfl)
       (cF rfl (o_lss .t .t) r2 trivial
       Chain.nil)
       (by kernel_rfl) (by rw [hB]; kernel_rfl) ?_
     clear hS; intro a w F hS
     obtain ⟨F, hS⟩ := hS.norm [(1, _), (73, _), (74, _), (75, _), (76, _)] [(0, _), (101, _)] r5 r2
     try dsimp only [rCmd] at hS
     refine then_n ?_
     refine wp_seq ?_
     refine cond_b hS rfl (fun hc4 => ?_) (fun hc4 => ?_)
     ·skip
      have hil : i < c.order.txs.length := by have h9 := of_decide_eq_true hc4; omega
      refine wp_skip ?_
      refine then_n ?_
      refine wp_seq ?_
      refine wp_block ?_
      refine wp_seq ?_
      refine region_seq hS (by kernel_rfl)
        (cF rfl (o_indexAddr_sl (sz := 1) (.mk Tryz.underlying25 (by kernel_rfl)) (by intro x; rfl) .t .t (by omega) (by omega)) r2 trivial
        (cF rfl (o_load_ref (ag := false) (sz := 1) .t (by kernel_rfl) (by kernel_rfl) (by kernel_rfl)) r1 trivial
        (cF rfl (o_assign .t (by rfl)) r1 trivial
        Chain.nil)))
        (by kernel_rfl) (by rw [hB]; kernel_rfl) ?_
      clear hS; intro a w F hS
      obtain ⟨F, hS⟩ := hS.norm [(1, _), (6, _), (73, _), (74, _), (75, _), (76, _), (77, _), (78, _)] [(0, _), (101, _)] r8 r2
      try dsimp only [List.map, List.drop_succ_cons, List.drop_zero, List.drop_nil, List.take_succ_cons, List.take_zero, List.take_nil, ldSF, rCmd] at hS
      rw [Int.toNat_natCast] at hS
      refine then_n ?_
      refine wp_seq ?_
      refine region_seq hS (by kernel_rfl)
        (cF rfl (o_move .t (by rfl)) r1 trivial
        (cF rfl (o_callP (refNumber_c (nth c.order.txs i)) Tryz.func32 rfl (by kernel_rfl) (Args.one .t)) r1 trivial
        (cF rfl (o_not .t) r1 trivial
        Chain.nil)))
        (by kernel_rfl) (by rw [hB]; kernel_rfl) ?_
      clear hS; intro a w F hS
      obtain ⟨F, hS⟩ := hS.norm [(1, _), (6, _), (73, _), (74, _), (75, _), (76, _), (77, _), (78, _), (79, _), (80, _), (81, _)] [(0, _), (101, _)] ⟨rfl, rfl, rfl, rfl, rfl, rfl, rfl, rfl, rfl, rfl, rfl, trivial⟩ r2
      try dsimp only [rCmd] at hS
      refine then_n ?_
      refine cond_b hS rfl (fun hc5 => ?_) (fun hc5 => ?_)
      ·skip
       have h8 : numB (nth c.order.txs i) = false := by simpa using hc5
       have hg : false = rightC c := not_right fun h => by rw [List.all_eq_true.1 ((right_parts c).1 h).2.2.2.1 _ (nth_mem hil)] at h8; cases h8
       refine wp_seq ?_
       refine region_seq hS (by kernel_rfl)
         (cF rfl (o_assign .cb (by rfl)) trivial trivial
         Chain.nil)
         (by kernel_rfl) (by rw [hB]; kernel_rfl) ?_
       clear hS; intro a w F hS
       obtain ⟨F, hS⟩ := hS.norm [(1, _), (2, _), (6, _), (73, _), (74, _), (75, _), (76, _), (77, _), (78, _), (79, _), (80, _), (81, _)] [(0, _), (101, _)] ⟨rfl, rfl, rfl, rfl, rfl, rfl, rfl, rfl, rfl, rfl, rfl, rfl, trivial⟩ r2
       try dsimp only [rCmd] at hS
       refine then_n ?_
       refine wp_ret ?_
       refine block_r ?_
       refine then_r ?_
       refine then_r ?_
       refine block_r ?_
       refine then_r ?_
       refine ret_P hfr hS rfl (.tmp rfl .nil) (.one (.bool (by first | exact hg | (rw [Bool.eq_iff_iff, right_parts]; exact ⟨fun h => ⟨hA, hB5, hallo, halln, fun g => by simp [g.1, g.2] at h⟩, fun h => (Classical.em (c.kind = 9)).elim (fun g => by have g2 : codeR c.phen ≠ [] := fun e => h.2.2.2.2 ⟨g, e⟩; simp [g2]) (fun g => by simp [g])⟩))))
      ·skip
       have hqe : numB (nth c.order.txs i) = true := by simpa using hc5
       refine wp_skip ?_
       refine block_n ?_
       refine then_n ?_
       refine region_seq hS (by kernel_rfl)
         (cF rfl (o_add .t (.ci (by kernel_rfl))) r1 trivial
         (cF rfl (o_move .t (by rfl)) r1 trivial
         Chain.nil))
         (by kernel_rfl) (by rw [hB]; kernel_rfl) ?_
       clear hS; intro a w F hS
       obtain ⟨F, hS⟩ := hS.norm [(1, _), (6, _), (73, _), (74, _), (75, _), (76, _), (77, _), (78, _), (79, _), (80, _), (81, _), (82, _)] [(0, _), (101, _)] ⟨rfl, rfl, rfl, rfl, rfl, rfl, rfl, rfl, rfl, rfl, rfl, rfl, trivial⟩ r2
       try dsimp only [rCmd] at hS
       refine then_n ?_
       replace hS := hS.ent (i := 75) (s' := .pv (.int .i64 ((i + 1 : Nat) : Int))) rfl (.int (wrap_succ (by omega)))
       obtain ⟨F, hS⟩ := hS.norm [(1, _), (73, _), (74, _), (75, _)] [(0, _), (101, _)] r4 r2
       exact ⟨i + 1, F, ⟨by omega, fun j hj => (Nat.lt_or_ge j i).elim (hqi j) (fun h1 => (show i = j by omega) ▸ hqe)⟩, hS, by omega⟩
     ·skip
      have halln : c.order.txs.all numB = true := by
        rw [List.all_eq_true]
        intro x hx
        obtain ⟨j, hj, rfl⟩ := List.getElem_of_mem hx
        rw [← nth_eq hj]
        exact hqi j (by have h9 := of_decide_eq_false hc4; omega)
      refine wp_exit ?_
      refine then_x ?_
      refine then_x ?_
      refine block_x ?_
      refine then_n ?_
      refine wp_seq ?_
      refine region_seq hS (by kernel_rfl)
        (cF rfl (o_fieldAddr (off := 0) 101 .is (by kernel_rfl) (by rfl)) r1 r1
        (cF rfl (o_load (ag := false) (sz := 1) 101 .adr (by kernel_rfl) (by kernel_rfl) (by kernel_rfl) (by rfl)) r1 r1
        (cF rfl (o_neq .t (.ci (by kernel_rfl))) r1 trivial
        (cF rfl (o_move .t (by rfl)) r1 trivial
        (Chain.cons (Cert.cond rfl rfl (fun h => o_fieldAddr (off := 9) 101 .is (by kernel_rfl) (by rfl))) r2 r1
        (Chain.cons (Cert.cond rfl rfl (fun h => o_load (ag := false) (sz := 1) 101 (.w h .adr) (by kernel_rfl) (by kernel_rfl) (by kernel_rfl) (by rfl))) r2 r1
        (Chain.cons (Cert.cond rfl rfl (fun h => o_callP (refCode_c c.phen) Tryz.func34 rfl (by kernel_rfl) (Args.one (.w h)))) r2 trivial
        (Chain.cons (Cert.cond rfl rfl (fun h => o_neq_bs Tryz.underlying9 (.w h) (.cs (by kernel_rfl)))) r2 trivial
        (cF rfl (o_or2 .t .t) r2 trivial
        (cF rfl (o_assign .t (by rfl)) r1 trivial
        Chain.nil))))))))))
        (by kernel_rfl) (by rw [hB]; kernel_rfl) ?_
      clear hS; intro a w F hS
      obtain ⟨F, hS⟩ := hS.norm [(2, _)] [(0, _), (101, _)] r1 r2
      try dsimp only [List.map, List.drop_succ_cons, List.drop_zero, List.drop_nil, List.take_succ_cons, List.take_zero, List.take_nil, ldSF, rCmd] at hS
      refine then_n ?_
      refine wp_ret ?_
      refine ret_P hfr hS rfl (.tmp rfl .nil) (.one (.bool (by first | exact hg | (rw [Bool.eq_iff_iff, right_parts]; exact ⟨fun h => ⟨hA, hB5, hallo, halln, fun g => by simp [g.1, g.2] at h⟩, fun h => (Classical.em (c.kind = 9)).elim (fun g => by have g2 : codeR c.phen ≠ [] := fun e => h.2.2.2.2 ⟨g, e⟩; simp [g2]) (fun g => by simp [g])⟩))))

end Go.Proofs.YtjdcnjemhjldoaaGreatDoor
