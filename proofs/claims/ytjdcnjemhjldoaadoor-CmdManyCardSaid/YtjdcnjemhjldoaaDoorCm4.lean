/- Right commands, their lines. No condition beyond those that each theorem says. -/
import Derived.Test.YtjdcnjemhjldoaaDoorCm3
import Derived.Test.YtjdcnjemhjldoaaDoorNu7
import Derived.Test.YtjdcnjemhjldoaaDoorLx5
namespace Go.Proofs.YtjdcnjemhjldoaaDoor
open Go Go.Gm
set_option linter.unusedVariables false
set_option linter.unusedSimpArgs false
set_option maxHeartbeats 4000000
set_option maxRecDepth 8000


theorem cmdRight_c (c : CmdD) (hc : c.order.txs.length ≤ 998) : FnP Tryd.prog 20 [.agg (rCmd c)] (.bool (rightC c)) := by
  refine FnP.mk Tryd.func20 rfl Tryd.ntmps20 rfl ?_
  intro B a w F hB hfr hS
  have hnl : (numsC c).length = c.order.txs.length + 5 := by unfold numsC; rw [List.length_append]; simp only [List.length_cons, List.length_nil]; omega
  refine wp_seq ?_
  refine region_seq hS (by kernel_rfl)
    (cF rfl (o_boxA 101 (.conv .t .agg) (by kernel_rfl)) r1 trivial
    (cF rfl (o_assign .cb (by rfl)) trivial trivial
    Chain.nil))
    (by kernel_rfl) (by rw [hB]; kernel_rfl) ?_
  clear hS; intro a w F hS
  replace hS := hS.sub
  obtain ⟨F, hS⟩ := hS.norm [(1, _), (2, _)] [(0, _), (101, _)] r2 r2
  try dsimp only [RS.sub, SF.sub, CF.sub, csub, Anc.sub, List.map, zCF] at hS
  generalize Act.tau a 1 = v1 at hS
  refine then_n ?_
  refine wp_seq ?_
  refine wp_seq ?_
  refine region_any (by kernel_rfl) hS (by kernel_rfl)
    (cF rfl (o_fieldAddr (off := 0) 101 .is (by kernel_rfl) (by rfl)) r1 r1
    (cF rfl (o_load (ag := false) (sz := 1) 101 .adr (by kernel_rfl) (by kernel_rfl) (by kernel_rfl) (by rfl)) r1 r1
    (cF rfl (o_callP (said_c c.kind) Tryd.func35 rfl (by kernel_rfl) (Args.one .t)) r1 trivial
    (cF rfl (o_field1 (ft := 9) (off := 0) (by kernel_rfl) (by kernel_rfl) .t rfl) r1 trivial
    (cF rfl (o_eql_bs Tryd.underlying9 .t (.cs (by kernel_rfl))) r1 trivial
    (cF rfl (o_move .t (by rfl)) r1 trivial
    (Chain.cons (Cert.cond rfl rfl (fun h => o_load (ag := true) (sz := 10) 101 .is (by kernel_rfl) (by kernel_rfl) (by kernel_rfl) (by rfl))) r2 r1
    (Chain.cons (Cert.cond rfl rfl (fun h => o_load (ag := true) (sz := 10) 101 .is (by kernel_rfl) (by kernel_rfl) (by kernel_rfl) (by rfl))) r2 r1
    (Chain.cons (Cert.cond rfl rfl (fun h => o_callP (used_c c) Tryd.func40 rfl (by kernel_rfl) (Args.one (.pagg (.w h))))) r2 trivial
    (Chain.cons (Cert.cond rfl rfl (fun h => o_callP (cmdSame_c c (usedR c)) Tryd.func22 rfl (by kernel_rfl) (Args.two (.pagg (.w h)) (.w h)))) r3 trivial
    (Chain.cons (Cert.cond rfl rfl (fun h => o_not (.w h))) r2 trivial
    (cF rfl (o_or2 .t .t) r2 trivial
    (cF rfl (o_move .t (by rfl)) r1 trivial
    (Chain.cons (Cert.cond rfl rfl (fun h => o_fieldAddr (off := 1) 101 .is (by kernel_rfl) (by rfl))) r2 r1
    (Chain.cons (Cert.cond rfl rfl (fun h => o_fieldAddr (off := 2) 101 (.w h .adr) (by kernel_rfl) (by rfl))) r2 r1
    (Chain.cons (Cert.cond rfl rfl (fun h => o_load (ag := false) (sz := 1) 101 (.w h .adr) (by kernel_rfl) (by kernel_rfl) (by kernel_rfl) (by rfl))) r2 r1
    (Chain.cons (Cert.cond rfl rfl (fun h => o_len_sl Tryd.underlying24 (.w h))) r2 trivial
    (Chain.cons (Cert.cond rfl rfl (fun h => o_gtr (.w h) (.ci (by kernel_rfl)))) r2 trivial
    (cF rfl (o_or2 .t .t) r2 trivial
    (cF rfl (o_move .t (by rfl)) r1 trivial
    (Chain.cons (Cert.cond rfl rfl (fun h => o_fieldAddr (off := 0) 101 .is (by kernel_rfl) (by rfl))) r2 r1
    (Chain.cons (Cert.cond rfl rfl (fun h => o_load (ag := false) (sz := 1) 101 (.w h .adr) (by kernel_rfl) (by kernel_rfl) (by kernel_rfl) (by rfl))) r2 r1
    (Chain.cons (Cert.cond rfl rfl (fun h => o_eql (.w h) (.ci (by kernel_rfl)))) r2 trivial
    (Chain.cons (Cert.cond rfl rfl (fun h => o_move (.w h) (by rfl))) r2 trivial
    (Chain.cons (Cert.cond2 rfl rfl (fun h => o_fieldAddr (off := 9) 101 .is (by kernel_rfl) (by rfl))) r2 r1
    (Chain.cons (Cert.cond2 rfl rfl (fun h => o_load (ag := false) (sz := 1) 101 (.w h .adr) (by kernel_rfl) (by kernel_rfl) (by kernel_rfl) (by rfl))) r2 r1
    (Chain.cons (Cert.cond2 rfl rfl (fun h => o_callP (code_c c.phen) Tryd.func38 rfl (by kernel_rfl) (Args.one (.w h)))) r2 trivial
    (Chain.cons (Cert.cond2 rfl rfl (fun h => o_eql_bs Tryd.underlying9 (.w h) (.cs (by kernel_rfl)))) r2 trivial
    (Chain.cons (Cert.cond rfl rfl (fun h => o_and2 (.w h) (.wc h))) r3 trivial
    (cF rfl (o_or2 .t .t) r2 trivial
    Chain.nil))))))))))))))))))))))))))))))
    (by kernel_rfl) (by rw [hB]; kernel_rfl) ?_
  clear hS; intro a w F hS
  obtain ⟨F, hS⟩ := hS.norm [(1, _), (2, _), (37, _)] [(0, _), (101, _)] r3 r2
  try dsimp only [List.map, List.drop_succ_cons, List.drop_zero, List.drop_nil, List.take_succ_cons, List.take_zero, List.take_nil, ldSF] at hS
  refine then_n ?_
  refine cond_b hS rfl (fun hc0 => ?_) (fun hc0 => ?_)
  ·skip
   have hg : false = rightC c := by
     unfold rightC
     have hx : ¬ headC c := by
       rintro ⟨g1, g2, g3, g4⟩
       simp only [Bool.or_eq_true, Bool.and_eq_true, decide_eq_true_eq, Bool.not_eq_true', decide_eq_false_iff_not] at hc0
       rcases hc0 with ((hx | hx) | hx) | hx
       · exact g1 hx
       · exact hx g2
       · omega
       · exact g4 hx
     rw [decide_eq_false hx]
     rfl
   refine wp_seq ?_
   refine region_seq hS (by kernel_rfl)
     (cF rfl (o_assign .cb (by rfl)) trivial trivial
     Chain.nil)
     (by kernel_rfl) (by rw [hB]; kernel_rfl) ?_
   clear hS; intro a w F hS
   obtain ⟨F, hS⟩ := hS.norm [(1, _), (2, _)] [(0, _), (101, _)] r2 r2
   refine then_n ?_
   refine wp_ret ?_
   refine then_r ?_
   refine ret_P hfr hS rfl (.tmp rfl .nil) (.one (.bool hg))
  ·skip
   have hhd : headC c := by
     rw [Bool.eq_false_iff] at hc0
     refine ⟨fun g => hc0 ?_, Classical.byContradiction fun g => hc0 ?_, Nat.le_of_not_lt fun g => hc0 ?_, fun g => hc0 ?_⟩
     · simp only [Bool.or_eq_true, Bool.and_eq_true, decide_eq_true_eq, Bool.not_eq_true', decide_eq_false_iff_not]; exact .inl (.inl (.inl g))
     · simp only [Bool.or_eq_true, Bool.and_eq_true, decide_eq_true_eq, Bool.not_eq_true', decide_eq_false_iff_not]; exact .inl (.inl (.inr g))
     · simp only [Bool.or_eq_true, Bool.and_eq_true, decide_eq_true_eq, Bool.not_eq_true', decide_eq_false_iff_not]; exact .inl (.inr (by omega))
     · simp only [Bool.or_eq_true, Bool.and_eq_true, decide_eq_true_eq, Bool.not_eq_true', decide_eq_false_iff_not]; exact .inr g
   have hol := hhd.2.2.1
   refine wp_skip ?_
   refine then_n ?_
   refine wp_seq ?_
   refine region_seq hS (by kernel_rfl)
     (cF rfl (o_fieldAddr (off := 1) 101 .is (by kernel_rfl) (by rfl)) r1 r1
     (cF rfl (o_fieldAddr (off := 0) 101 .adr (by kernel_rfl) (by rfl)) r1 r1
     (cF rfl (o_load (ag := false) (sz := 1) 101 .adr (by kernel_rfl) (by kernel_rfl) (by kernel_rfl) (by rfl)) r1 r1
     (cF rfl (o_fieldAddr (off := 7) 101 .is (by kernel_rfl) (by rfl)) r1 r1
     (cF rfl (o_load (ag := false) (sz := 1) 101 .adr (by kernel_rfl) (by kernel_rfl) (by kernel_rfl) (by rfl)) r1 r1
     (cF rfl (o_fieldAddr (off := 4) 101 .is (by kernel_rfl) (by rfl)) r1 r1
     (cF rfl (o_fieldAddr (off := 0) 101 .adr (by kernel_rfl) (by rfl)) r1 r1
     (cF rfl (o_load (ag := false) (sz := 1) 101 .adr (by kernel_rfl) (by kernel_rfl) (by kernel_rfl) (by rfl)) r1 r1
     (cF rfl (o_fieldAddr (off := 6) 101 .is (by kernel_rfl) (by rfl)) r1 r1
     (cF rfl (o_load (ag := false) (sz := 1) 101 .adr (by kernel_rfl) (by kernel_rfl) (by kernel_rfl) (by rfl)) r1 r1
     (cF rfl (o_fieldAddr (off := 8) 101 .is (by kernel_rfl) (by rfl)) r1 r1
     (cF rfl (o_load (ag := false) (sz := 1) 101 .adr (by kernel_rfl) (by kernel_rfl) (by kernel_rfl) (by rfl)) r1 r1
     (cF rfl (o_buildRow (R := rInt) (l := [c.tx.id, c.id, c.order.key, c.key, c.place]) (sz := 1) (zs := [.int .i64 0]) (r := [(0, .tmp 40), (1, .tmp 42), (2, .tmp 45), (3, .tmp 47), (4, .tmp 49)]) 102 Tryd.underlying40 (by kernel_rfl) (by kernel_rfl) (by kernel_rfl) (by kernel_rfl) rfl rfl (.one rfl .t one_int (by kernel_rfl) (.one rfl .t one_int (by kernel_rfl) (.one rfl .t one_int (by kernel_rfl) (.one rfl .t one_int (by kernel_rfl) (.one rfl .t one_int (by kernel_rfl) .nil))))) rfl rfl (by intro x; rfl)) r5 trivial
     (cF rfl (o_fieldAddr (off := 4) 101 .is (by kernel_rfl) (by rfl)) r1 r1
     (cF rfl (o_fieldAddr (off := 1) 101 .adr (by kernel_rfl) (by rfl)) r1 r1
     (cF rfl (o_load (ag := false) (sz := 1) 101 .adr (by kernel_rfl) (by kernel_rfl) (by kernel_rfl) (by rfl)) r1 r1
     (cF rfl (o_append (sz := 1) (bs := 8) 102 (.mk' Tryd.underlying40 (by kernel_rfl) (by kernel_rfl)) (by intro x; rfl) .same (.sl .t) (by simp only [List.length_cons, List.length_nil]; omega) (by decide)) ⟨rfl, rfl, trivial⟩ ⟨rfl, trivial⟩
     (cF rfl (o_assign .t (by rfl)) r1 trivial
     Chain.nil))))))))))))))))))
     (by kernel_rfl) (by rw [hB]; kernel_rfl) ?_
   clear hS; intro a w F hS
   replace hS := hS.sub
   obtain ⟨F, hS⟩ := hS.norm [(1, _), (2, _), (3, _)] [(0, _), (101, _), (102, _)] r3 r3
   try dsimp only [RS.sub, SF.sub, CF.sub, csub, Anc.sub, List.map, stCells, List.length_cons, List.length_nil, Nat.reduceAdd, List.drop_succ_cons, List.drop_zero, List.drop_nil, List.take_succ_cons, List.take_zero, List.take_nil, List.cons_append, List.nil_append, zCF, ldSF] at hS
   generalize Act.tau a 54 = v54 at hS
   refine then_n ?_
   refine wp_seq ?_
   refine wp_seq ?_
   obtain ⟨F, hS⟩ := hS.give 102 3 rfl rfl
   obtain ⟨F, hS⟩ := hS.norm [(1, _), (2, _), (3, _)] [(0, _), (101, _)] r3 r2
   refine region_seq hS (by kernel_rfl)
     (cF rfl (o_move .t (by rfl)) r1 trivial
     (cF rfl (o_len_sl Tryd.underlying40 .t) r1 trivial
     (cF rfl (o_move (.ci (by kernel_rfl)) (by rfl)) trivial trivial
     Chain.nil)))
     (by kernel_rfl) (by rw [hB]; kernel_rfl) ?_
   clear hS; intro a w F hS
   obtain ⟨F, hS⟩ := hS.norm [(1, _), (2, _), (55, _), (56, _), (57, _)] [(0, _), (101, _)] r5 r2
   refine then_n ?_
   refine wp_block ?_
   obtain ⟨F, hS⟩ := hS.norm [(1, _), (55, _), (56, _), (57, _)] [(0, _), (101, _)] r4 r2
   refine loop_inv (σ := Nat) (fun s => (⟨[(1, .pv (.is v1)), (55, .pv (.sl rInt (numsC c))), (56, .pv (.int .i64 ((numsC c).length : Nat))), (57, .pv (.int .i64 (s : Nat)))], [(0, frame B), (101, .pt (.val v1) 44 [.pv (.int .i64 c.kind), .pv (.int .i64 c.tx.id), .pv (.bool c.tx.done), .pv (.sl rOp c.tx.ops), .pv (.int .i64 c.order.key), .pv (.sl rInt c.order.txs), .pv (.int .i64 c.key), .pv (.int .i64 c.id), .pv (.int .i64 c.place), .pv (.int .i64 c.phen)])]⟩ : En)) (fun s => s ≤ (numsC c).length ∧ ∀ j, j < s → numB (nth (numsC c) j) = true) (fun s => (numsC c).length - s) 0 hS ⟨Nat.zero_le _, fun j hj => absurd hj (Nat.not_lt_zero _)⟩ ?_
   clear hS; intro i a w F hC hS
   try dsimp only at hC
   try dsimp only at hS
   obtain ⟨hi0, hq⟩ := hC
   refine wp_seq ?_
   refine region_seq hS (by kernel_rfl)
     (cF rfl (o_lss .t .t) r2 trivial
     Chain.nil)
     (by kernel_rfl) (by rw [hB]; kernel_rfl) ?_
   clear hS; intro a w F hS
   obtain ⟨F, hS⟩ := hS.norm [(1, _), (55, _), (56, _), (57, _), (58, _)] [(0, _), (101, _)] r5 r2
   refine then_n ?_
   refine wp_seq ?_
   refine cond_b hS rfl (fun hc1 => ?_) (fun hc1 => ?_)
   ·skip
    have hi : i < (numsC c).length := by have h9 := of_decide_eq_true hc1; omega
    refine wp_skip ?_
    refine then_n ?_
    refine wp_seq ?_
    refine wp_block ?_
    refine wp_seq ?_
    refine region_seq hS (by kernel_rfl)
      (cF rfl (o_indexAddr_sl (sz := 1) (.mk Tryd.underlying40 (by kernel_rfl)) (by intro x; rfl) .t .t (by omega) (by omega)) r2 trivial
      (cF rfl (o_load_ref (ag := false) (sz := 1) .t (by kernel_rfl) (by kernel_rfl) (by kernel_rfl)) r1 trivial
      (cF rfl (o_assign .t (by rfl)) r1 trivial
      Chain.nil)))
      (by kernel_rfl) (by rw [hB]; kernel_rfl) ?_
    clear hS; intro a w F hS
    obtain ⟨F, hS⟩ := hS.norm [(1, _), (5, _), (55, _), (56, _), (57, _), (58, _), (59, _), (60, _)] [(0, _), (101, _)] r8 r2
    try dsimp only [List.map, List.drop_succ_cons, List.drop_zero, List.drop_nil, List.take_succ_cons, List.take_zero, List.take_nil, ldSF] at hS
    refine then_n ?_
    refine wp_seq ?_
    refine region_seq hS (by kernel_rfl)
      (cF rfl (o_move .t (by rfl)) r1 trivial
      (cF rfl (o_lss .t (.ci (by kernel_rfl))) r1 trivial
      (cF rfl (o_move .t (by rfl)) r1 trivial
      (Chain.cons (Cert.cond rfl rfl (fun h => o_move .t (by rfl))) r2 trivial
      (Chain.cons (Cert.cond rfl rfl (fun h => o_gtr (.w h) (.ci (by kernel_rfl)))) r2 trivial
      (cF rfl (o_or2 .t .t) r2 trivial
      Chain.nil))))))
      (by kernel_rfl) (by rw [hB]; kernel_rfl) ?_
    clear hS; intro a w F hS
    obtain ⟨F, hS⟩ := hS.norm [(1, _), (5, _), (55, _), (56, _), (57, _), (58, _), (59, _), (60, _), (61, _), (62, _), (63, _), (64, _), (65, _), (66, _)] [(0, _), (101, _)] ⟨rfl, rfl, rfl, rfl, rfl, rfl, rfl, rfl, rfl, rfl, rfl, rfl, rfl, rfl, trivial⟩ r2
    refine then_n ?_
    refine cond_b hS rfl (fun hc2 => ?_) (fun hc2 => ?_)
    ·skip
     have hg : false = rightC c := by
       unfold rightC
       have hx : ¬ (numsC c).all numB = true := by
         intro h
         rw [List.all_eq_true] at h
         have h9 := h _ (nth_mem hi)
         rw [numB_iff] at h9
         rw [Int.toNat_natCast] at hc2
         simp only [Bool.or_eq_true, decide_eq_true_eq] at hc2
         omega
       rw [Bool.eq_false_iff.2 hx]
       simp
     refine wp_seq ?_
     refine region_seq hS (by kernel_rfl)
       (cF rfl (o_assign .cb (by rfl)) trivial trivial
       Chain.nil)
       (by kernel_rfl) (by rw [hB]; kernel_rfl) ?_
     clear hS; intro a w F hS
     obtain ⟨F, hS⟩ := hS.norm [(1, _), (2, _), (5, _), (55, _), (56, _), (57, _), (58, _), (59, _), (60, _), (61, _), (62, _), (63, _), (64, _), (65, _), (66, _)] [(0, _), (101, _)] ⟨rfl, rfl, rfl, rfl, rfl, rfl, rfl, rfl, rfl, rfl, rfl, rfl, rfl, rfl, rfl, trivial⟩ r2
     refine then_n ?_
     refine wp_ret ?_
     refine block_r ?_
     refine then_r ?_
     refine then_r ?_
     refine block_r ?_
     refine then_r ?_
     refine ret_P hfr hS rfl (.tmp rfl .nil) (.one (.bool hg))
    ·skip
     have hqi : numB (nth (numsC c) i) = true := by
       rw [Int.toNat_natCast] at hc2
       rw [numB_iff]
       simp only [Bool.or_eq_false_iff, decide_eq_false_iff_not] at hc2
       omega
     refine wp_skip ?_
     refine block_n ?_
     refine then_n ?_
     refine region_seq hS (by kernel_rfl)
       (cF rfl (o_add .t (.ci (by kernel_rfl))) r1 trivial
       (cF rfl (o_move .t (by rfl)) r1 trivial
       Chain.nil))
       (by kernel_rfl) (by rw [hB]; kernel_rfl) ?_
     clear hS; intro a w F hS
     obtain ⟨F, hS⟩ := hS.norm [(1, _), (5, _), (55, _), (56, _), (57, _), (58, _), (59, _), (60, _), (61, _), (62, _), (63, _), (64, _), (65, _), (66, _), (67, _)] [(0, _), (101, _)] ⟨rfl, rfl, rfl, rfl, rfl, rfl, rfl, rfl, rfl, rfl, rfl, rfl, rfl, rfl, rfl, trivial⟩ r2
     refine then_n ?_
     replace hS := hS.ent (i := 57) (s' := .pv (.int .i64 ((i + 1 : Nat) : Int))) rfl (.int (wrap_succ (by omega)))
     obtain ⟨F, hS⟩ := hS.norm [(1, _), (55, _), (56, _), (57, _)] [(0, _), (101, _)] r4 r2
     exact ⟨i + 1, F, ⟨by omega, fun j hj => (Nat.lt_or_ge j i).elim (hq j) (fun h1 => (show i = j by omega) ▸ hqi)⟩, hS, by omega⟩
   ·skip
    have halln : (numsC c).all numB = true := by
      rw [List.all_eq_true]
      intro x hx
      obtain ⟨j, hj, rfl⟩ := List.getElem_of_mem hx
      rw [← nth_eq hj]
      exact hq j (by have h9 := of_decide_eq_false hc1; omega)
    refine wp_exit ?_
    refine then_x ?_
    refine then_x ?_
    refine block_x ?_
    refine then_n ?_
    refine wp_seq ?_
    refine wp_seq ?_
    refine region_seq hS (by kernel_rfl)
      (cF rfl (o_fieldAddr (off := 1) 101 .is (by kernel_rfl) (by rfl)) r1 r1
      (cF rfl (o_fieldAddr (off := 2) 101 .adr (by kernel_rfl) (by rfl)) r1 r1
      (cF rfl (o_load (ag := false) (sz := 1) 101 .adr (by kernel_rfl) (by kernel_rfl) (by kernel_rfl) (by rfl)) r1 r1
      (cF rfl (o_len_sl Tryd.underlying24 .t) r1 trivial
      (cF rfl (o_move (.ci (by kernel_rfl)) (by rfl)) trivial trivial
      Chain.nil)))))
      (by kernel_rfl) (by rw [hB]; kernel_rfl) ?_
    clear hS; intro a w F hS
    obtain ⟨F, hS⟩ := hS.norm [(70, _), (71, _), (72, _)] [(0, _), (101, _)] r3 r2
    try dsimp only [List.map, List.drop_succ_cons, List.drop_zero, List.drop_nil, List.take_succ_cons, List.take_zero, List.take_nil, ldSF] at hS
    refine then_n ?_
    refine wp_block ?_
    obtain ⟨F, hS⟩ := hS.norm [(70, _), (71, _), (72, _)] [(0, _)] r3 r1
    refine loop_inv (σ := Nat) (fun s => (⟨[(70, .pv (.sl rOp c.tx.ops)), (71, .pv (.int .i64 (c.tx.ops.length : Nat))), (72, .pv (.int .i64 (s : Nat)))], [(0, frame B)]⟩ : En)) (fun s => s ≤ c.tx.ops.length ∧ ∀ j, j < s → rightO (nth c.tx.ops j) = true) (fun s => c.tx.ops.length - s) 0 hS ⟨Nat.zero_le _, fun j hj => absurd hj (Nat.not_lt_zero _)⟩ ?_
    clear hS; intro k a w F hC hS
    try dsimp only at hC
    try dsimp only at hS
    obtain ⟨hk0, hqo⟩ := hC
    refine wp_seq ?_
    refine region_seq hS (by kernel_rfl)
      (cF rfl (o_lss .t .t) r2 trivial
      Chain.nil)
      (by kernel_rfl) (by rw [hB]; kernel_rfl) ?_
    clear hS; intro a w F hS
    obtain ⟨F, hS⟩ := hS.norm [(70, _), (71, _), (72, _), (73, _)] [(0, _)] r4 r1
    refine then_n ?_
    refine wp_seq ?_
    refine cond_b hS rfl (fun hc3 => ?_) (fun hc3 => ?_)
    ·skip
     have hi : k < c.tx.ops.length := by have h9 := of_decide_eq_true hc3; omega
     refine wp_skip ?_
     refine then_n ?_
     refine wp_seq ?_
     refine wp_block ?_
     refine wp_seq ?_
     refine region_seq hS (by kernel_rfl)
       (cF rfl (o_indexAddr_sl (sz := 4) (.mk Tryd.underlying24 (by kernel_rfl)) (by intro x; rfl) .t .t (by omega) (by omega)) r2 trivial
       (cF rfl (o_load_ref (ag := true) (sz := 4) .t (by kernel_rfl) (by kernel_rfl) (by kernel_rfl)) r1 trivial
       (cF rfl (o_alloc (zs := [.bool false, .int .i64 0, .int .i64 0, .int .i64 0]) 103 (by kernel_rfl)) trivial trivial
       (cF rfl (o_storeA (sz := 4) 103 .same .t (by kernel_rfl) (by kernel_rfl) (by kernel_rfl)) r2 r1
       Chain.nil))))
       (by kernel_rfl) (by rw [hB]; kernel_rfl) ?_
     clear hS; intro a w F hS
     replace hS := hS.sub
     obtain ⟨F, hS⟩ := hS.norm [(7, _), (70, _), (71, _), (72, _), (73, _), (74, _), (75, _)] [(0, _), (103, _)] r7 r2
     try dsimp only [RS.sub, SF.sub, CF.sub, csub, Anc.sub, List.map, stCells, List.length_cons, List.length_nil, Nat.reduceAdd, List.drop_succ_cons, List.drop_zero, List.drop_nil, List.take_succ_cons, List.take_zero, List.take_nil, List.cons_append, List.nil_append, zCF, ldSF] at hS
     generalize Act.tau a 7 = v7 at hS
     rw [Int.toNat_natCast] at hS
     refine then_n ?_
     refine wp_seq ?_
     refine region_seq hS (by kernel_rfl)
       (cF rfl (o_load (ag := true) (sz := 4) 103 .is (by kernel_rfl) (by kernel_rfl) (by kernel_rfl) (by rfl)) r1 r1
       (cF rfl (o_callP (opRight_c (nth c.tx.ops k)) Tryd.func11 rfl (by kernel_rfl) (Args.one (.pagg .t))) r1 trivial
       (cF rfl (o_neq .t (.ci (by kernel_rfl))) r1 trivial
       Chain.nil)))
       (by kernel_rfl) (by rw [hB]; kernel_rfl) ?_
     clear hS; intro a w F hS
     obtain ⟨F, hS⟩ := hS.norm [(7, _), (70, _), (71, _), (72, _), (73, _), (74, _), (75, _), (76, _), (77, _), (78, _)] [(0, _), (103, _)] ⟨rfl, rfl, rfl, rfl, rfl, rfl, rfl, rfl, rfl, rfl, trivial⟩ r2
     try dsimp only [List.map, List.drop_succ_cons, List.drop_zero, List.drop_nil, List.take_succ_cons, List.take_zero, List.take_nil, ldSF] at hS
     refine then_n ?_
     refine cond_b hS rfl (fun hc4 => ?_) (fun hc4 => ?_)
     ·skip
      have hg : false = rightC c := by
        unfold rightC
        have hx : ¬ c.tx.ops.all rightO = true := by
          intro h
          rw [List.all_eq_true] at h
          have h9 := h _ (nth_mem hi)
          rw [right_ok.2 h9] at hc4
          simp at hc4
        rw [Bool.eq_false_iff.2 hx]
        simp
      refine wp_seq ?_
      refine region_seq hS (by kernel_rfl)
        (cF rfl (o_assign .cb (by rfl)) trivial trivial
        Chain.nil)
        (by kernel_rfl) (by rw [hB]; kernel_rfl) ?_
      clear hS; intro a w F hS
      obtain ⟨F, hS⟩ := hS.norm [(2, _), (7, _), (70, _), (71, _), (72, _), (73, _), (74, _), (75, _), (76, _), (77, _), (78, _)] [(0, _), (103, _)] ⟨rfl, rfl, rfl, rfl, rfl, rfl, rfl, rfl, rfl, rfl, rfl, trivial⟩ r2
      refine then_n ?_
      refine wp_ret ?_
      refine block_r ?_
      refine then_r ?_
      refine then_r ?_
      refine block_r ?_
      refine then_r ?_
      refine ret_P hfr hS rfl (.tmp rfl .nil) (.one (.bool hg))
     ·skip
      have hqi : rightO (nth c.tx.ops k) = true := right_ok.1 (by simpa using hc4)
      refine wp_skip ?_
      refine block_n ?_
      refine then_n ?_
      refine region_seq hS (by kernel_rfl)
        (cF rfl (o_add .t (.ci (by kernel_rfl))) r1 trivial
        (cF rfl (o_move .t (by rfl)) r1 trivial
        Chain.nil))
        (by kernel_rfl) (by rw [hB]; kernel_rfl) ?_
      clear hS; intro a w F hS
      obtain ⟨F, hS⟩ := hS.norm [(7, _), (70, _), (71, _), (72, _), (73, _), (74, _), (75, _), (76, _), (77, _), (78, _), (79, _)] [(0, _), (103, _)] ⟨rfl, rfl, rfl, rfl, rfl, rfl, rfl, rfl, rfl, rfl, rfl, trivial⟩ r2
      refine then_n ?_
      replace hS := hS.ent (i := 72) (s' := .pv (.int .i64 ((k + 1 : Nat) : Int))) rfl (.int (wrap_succ (by omega)))
      obtain ⟨F, hS⟩ := hS.norm [(70, _), (71, _), (72, _)] [(0, _)] r3 r1
      exact ⟨k + 1, F, ⟨by omega, fun j hj => (Nat.lt_or_ge j k).elim (hqo j) (fun h1 => (show k = j by omega) ▸ hqi)⟩, hS, by omega⟩
    ·skip
     have hallo : c.tx.ops.all rightO = true := by
       rw [List.all_eq_true]
       intro x hx
       obtain ⟨j, hj, rfl⟩ := List.getElem_of_mem hx
       rw [← nth_eq hj]
       exact hqo j (by have h9 := of_decide_eq_false hc3; omega)
     have hg : true = rightC c := by unfold rightC; rw [decide_eq_true hhd, halln, hallo]; rfl
     refine wp_exit ?_
     refine then_x ?_
     refine then_x ?_
     refine block_x ?_
     refine then_n ?_
     refine wp_seq ?_
     refine region_seq hS (by kernel_rfl)
       (cF rfl (o_assign .cb (by rfl)) trivial trivial
       Chain.nil)
       (by kernel_rfl) (by rw [hB]; kernel_rfl) ?_
     clear hS; intro a w F hS
     obtain ⟨F, hS⟩ := hS.norm [(2, _)] [(0, _)] r1 r1
     refine then_n ?_
     refine wp_ret ?_
     refine ret_P hfr hS rfl (.tmp rfl .nil) (.one (.bool hg))

theorem said_len (k : Int) : (saidR k).s.length ≤ 4 := by
  rcases Classical.em (1 ≤ k ∧ k ≤ 12) with h | h
  · rcases kinds h with rfl | rfl | rfl | rfl | rfl | rfl | rfl | rfl | rfl | rfl | rfl | rfl <;> decide +kernel
  · have : (saidR k).s = [] := Classical.byContradiction fun hx => h (said_kind hx)
    rw [this]; simp
theorem code_len (p : Int) : (codeR p).length ≤ 3 := by
  rcases Classical.em (codeR p = []) with h | h
  · rw [h]; simp
  · have := (code_phen h).1
    have : p = 1 ∨ p = 2 ∨ p = 3 ∨ p = 4 ∨ p = 5 := by omega
    rcases this with rfl | rfl | rfl | rfl | rfl <;> decide +kernel
theorem wordsTo_len (l : List Int) (h : ∀ n ∈ l, -9223372036854775808 ≤ n ∧ n ≤ 9223372036854775807) : ∀ i, i ≤ l.length → (wordsTo l i).length ≤ 22 * i
  | 0, _ => by simp [wordsTo]
  | i + 1, hi => by
    have h1 := wordsTo_len l h i (by omega)
    have h2 := textL_len (h _ (nth_mem (show i < l.length by omega)))
    rw [wordsTo, List.length_append, List.length_append]
    split <;> simp only [List.length_cons, List.length_nil] <;> omega
theorem nums_mem {c : CmdD} (h : rightC c = true) : ∀ n ∈ numsC c, 0 ≤ n ∧ n ≤ 2147483647 := by
  unfold rightC at h
  simp only [Bool.and_eq_true] at h
  intro n hn
  exact numB_iff.1 (List.all_eq_true.1 h.2.1 n hn)
theorem rightC_head {c : CmdD} (h : rightC c = true) : headC c := by
  unfold rightC at h
  simp only [Bool.and_eq_true] at h
  exact of_decide_eq_true h.1
theorem textT_len (t : TxD) (h : 0 ≤ t.id ∧ t.id ≤ 2147483647) (h2 : t.ops.length ≤ 4095) : (textT t).length ≤ 500000 := by
  have h1 := textL_len (n := t.id) (by omega)
  have h3 := opsT_len t.ops
  unfold textT headT
  rw [List.length_append, List.length_append]
  split <;> simp only [List.length_cons, List.length_nil] <;> omega
theorem restC_sum {c : CmdD} (h : rightC c = true) (hc : c.order.txs.length ≤ 998) : (restC c).length ≤ 1 ∧ sumL (restC c) ≤ 500000 := by
  have hr := nums_mem h
  have hh := (rightC_head h).2.2.1
  have m1 : c.tx.id ∈ numsC c := by unfold numsC; simp
  have m2 : c.id ∈ numsC c := by unfold numsC; simp
  unfold restC
  split
  · have := textT_len c.tx (hr _ m1) hh
    exact ⟨Nat.le_refl _, by simpa [sumL] using this⟩
  · split
    · have := textL_len (n := c.id) (by have := hr _ m2; omega)
      exact ⟨Nat.le_refl _, by simp [sumL]; omega⟩
    · split
      · have := wordsTo_len (c.order.key :: c.order.txs) (fun n hn => by have := hr n (by unfold numsC; simp at hn ⊢; rcases hn with rfl | hn; exact .inr (.inr (.inl rfl)); exact .inr (.inr (.inr (.inr (.inr hn))))); omega) _ (Nat.le_refl _)
        refine ⟨Nat.le_refl _, ?_⟩
        have e : (c.order.key :: c.order.txs).length = c.order.txs.length + 1 := by simp
        simp only [sumL, wordsL, List.map_cons, List.map_nil, List.sum_cons, List.sum_nil]
        omega
      · split
        · have := wordsTo_len [c.key, c.id, c.place] (fun n hn => by have := hr n (by unfold numsC; simp at hn ⊢; rcases hn with rfl | rfl | rfl; exact .inr (.inr (.inr (.inl rfl))); exact .inr (.inl rfl); exact .inr (.inr (.inr (.inr (.inl rfl))))); omega) _ (Nat.le_refl _)
          have h66 : (wordsL [c.key, c.id, c.place]).length ≤ 66 := this
          refine ⟨Nat.le_refl _, ?_⟩
          simp only [sumL, List.map_cons, List.map_nil, List.sum_cons, List.sum_nil]
          omega
        · split
          · have := code_len c.phen
            exact ⟨Nat.le_refl _, by simp [sumL]; omega⟩
          · simp [sumL]

theorem cmdText_c (c : CmdD) (hc : c.order.txs.length ≤ 998) : FnP Tryd.prog 19 [.agg (rCmd c)] (.bs (textC c)) := by
  refine FnP.mk Tryd.func19 rfl Tryd.ntmps19 rfl ?_
  intro B a w F hB hfr hS
  refine wp_seq ?_
  refine region_seq hS (by kernel_rfl)
    (cF rfl (o_boxA 101 (.conv .t .agg) (by kernel_rfl)) r1 trivial
    (cF rfl (o_assign (.cs (by kernel_rfl)) (by rfl)) trivial trivial
    Chain.nil))
    (by kernel_rfl) (by rw [hB]; kernel_rfl) ?_
  clear hS; intro a w F hS
  replace hS := hS.sub
  obtain ⟨F, hS⟩ := hS.norm [(1, _), (2, _)] [(0, _), (101, _)] r2 r2
  try dsimp only [RS.sub, SF.sub, CF.sub, csub, Anc.sub, List.map, zCF] at hS
  generalize Act.tau a 1 = v1 at hS
  refine then_n ?_
  refine wp_seq ?_
  refine wp_seq ?_
  refine region_seq hS (by kernel_rfl)
    (cF rfl (o_load (ag := true) (sz := 10) 101 .is (by kernel_rfl) (by kernel_rfl) (by kernel_rfl) (by rfl)) r1 r1
    (cF rfl (o_callP (cmdRight_c c hc) Tryd.func20 rfl (by kernel_rfl) (Args.one (.pagg .t))) r1 trivial
    (cF rfl (o_not .t) r1 trivial
    Chain.nil)))
    (by kernel_rfl) (by rw [hB]; kernel_rfl) ?_
  clear hS; intro a w F hS
  obtain ⟨F, hS⟩ := hS.norm [(1, _), (2, _), (6, _)] [(0, _), (101, _)] r3 r2
  try dsimp only [List.map, List.drop_succ_cons, List.drop_zero, List.drop_nil, List.take_succ_cons, List.take_zero, List.take_nil, ldSF] at hS
  refine then_n ?_
  refine cond_b hS rfl (fun hc0 => ?_) (fun hc0 => ?_)
  ·skip
   have hg : ([] : List UInt8) = textC c := by unfold textC; rw [if_pos (by simpa using hc0)]
   refine wp_seq ?_
   refine region_seq hS (by kernel_rfl)
     (cF rfl (o_assign (.cs (by kernel_rfl)) (by rfl)) trivial trivial
     Chain.nil)
     (by kernel_rfl) (by rw [hB]; kernel_rfl) ?_
   clear hS; intro a w F hS
   obtain ⟨F, hS⟩ := hS.norm [(1, _), (2, _)] [(0, _), (101, _)] r2 r2
   refine then_n ?_
   refine wp_ret ?_
   refine then_r ?_
   refine ret_P hfr hS rfl (.tmp rfl .nil) (.one (.bs (by first | exact hg | (unfold textC; rw [if_neg (by rw [hrc]; decide)]))))
  ·skip
   have hrc : rightC c = true := by simpa using hc0
   refine wp_skip ?_
   refine then_n ?_
   refine wp_seq ?_
   refine region_seq hS (by kernel_rfl)
     (cF rfl (o_fieldAddr (off := 0) 101 .is (by kernel_rfl) (by rfl)) r1 r1
     (cF rfl (o_load (ag := false) (sz := 1) 101 .adr (by kernel_rfl) (by kernel_rfl) (by kernel_rfl) (by rfl)) r1 r1
     (cF rfl (o_callP (said_c c.kind) Tryd.func35 rfl (by kernel_rfl) (Args.one .t)) r1 trivial
     (cF rfl (o_field1 (ft := 9) (off := 0) (by kernel_rfl) (by kernel_rfl) .t rfl) r1 trivial
     (cF rfl (o_buildRow (R := rS) (l := [(saidR c.kind).s]) (sz := 1) (zs := [.string ⟨#[]⟩]) (r := [(0, .tmp 10)]) 102 Tryd.underlying53 (by kernel_rfl) (by kernel_rfl) (by kernel_rfl) (by kernel_rfl) rfl rfl (.one rfl .t one_str (by kernel_rfl) .nil) rfl rfl (by intro x; rfl)) r1 trivial
     (cF rfl (o_assign .t (by rfl)) r1 trivial
     Chain.nil))))))
     (by kernel_rfl) (by rw [hB]; kernel_rfl) ?_
   clear hS; intro a w F hS
   replace hS := hS.sub
   obtain ⟨F, hS⟩ := hS.norm [(1, _), (2, _), (3, _)] [(0, _), (101, _), (102, _)] r3 r3
   try dsimp only [RS.sub, SF.sub, CF.sub, csub, Anc.sub, List.map, stCells, List.length_cons, List.length_nil, Nat.reduceAdd, List.drop_succ_cons, List.drop_zero, List.drop_nil, List.take_succ_cons, List.take_zero, List.take_nil, List.cons_append, List.nil_append, zCF, ldSF] at hS
   generalize Act.tau a 11 = v11 at hS
   refine then_n ?_
   refine wp_seq ?_
   refine wp_seq ?_
   refine region_seq hS (by kernel_rfl)
     (cF rfl (o_fieldAddr (off := 0) 101 .is (by kernel_rfl) (by rfl)) r1 r1
     (cF rfl (o_load (ag := false) (sz := 1) 101 .adr (by kernel_rfl) (by kernel_rfl) (by kernel_rfl) (by rfl)) r1 r1
     Chain.nil))
     (by kernel_rfl) (by rw [hB]; kernel_rfl) ?_
   clear hS; intro a w F hS
   obtain ⟨F, hS⟩ := hS.norm [(1, _), (2, _), (3, _), (13, _)] [(0, _), (101, _), (102, _)] r4 r3
   try dsimp only [List.map, List.drop_succ_cons, List.drop_zero, List.drop_nil, List.take_succ_cons, List.take_zero, List.take_nil, ldSF] at hS
   refine then_n ?_
   refine wp_block ?_
   refine wp_seq ?_
   refine wp_seq ?_
   refine region_seq hS (by kernel_rfl)
     (cF rfl (o_eql .t (.ci (by kernel_rfl))) r1 trivial
     (cF rfl (o_assign .t (by rfl)) r1 trivial
     Chain.nil))
     (by kernel_rfl) (by rw [hB]; kernel_rfl) ?_
   clear hS; intro a w F hS
   obtain ⟨F, hS⟩ := hS.norm [(1, _), (2, _), (3, _), (13, _), (14, _)] [(0, _), (101, _), (102, _)] r5 r3
   refine then_n ?_
   refine cond_b hS rfl (fun hc1 => ?_) (fun hc1 => ?_)
   ·skip
    have hk : c.kind = 1 ∨ c.kind = 2 := by first | exact .inl (of_decide_eq_true hc1) | exact .inr (of_decide_eq_true hc1)
    have hlist : [(saidR c.kind).s, textT c.tx] = (saidR c.kind).s :: restC c := by unfold restC; rw [if_pos hk]
    refine wp_skip ?_
    refine then_n ?_
    refine cond_b hS rfl (fun hc2 => ?_) (fun hc2 => ?_)
    ·skip
     have hk : c.kind = 1 ∨ c.kind = 2 := by first | exact .inl (of_decide_eq_true hc2) | exact .inr (of_decide_eq_true hc2)
     have hlist : [(saidR c.kind).s, textT c.tx] = (saidR c.kind).s :: restC c := by unfold restC; rw [if_pos hk]
     refine region_seq hS (by kernel_rfl)
       (cF rfl (o_move .t (by rfl)) r1 trivial
       (cF rfl (o_fieldAddr (off := 1) 101 .is (by kernel_rfl) (by rfl)) r1 r1
       (cF rfl (o_load (ag := true) (sz := 3) 101 .adr (by kernel_rfl) (by kernel_rfl) (by kernel_rfl) (by rfl)) r1 r1
       (cF rfl (o_callP (txText_c c.tx (by have := (rightC_head hrc).2.2.1; omega)) Tryd.func36 rfl (by kernel_rfl) (Args.one (.pagg .t))) r1 trivial
       (cF rfl (o_buildSliceE (sz := 1) (zs := [.string ⟨#[]⟩]) (r := [(0, .tmp 20)]) (l := [_]) Tryd.underlying53 (by kernel_rfl) (by kernel_rfl) (by kernel_rfl) (by kernel_rfl) rfl rfl (.one rfl .t one_str (by kernel_rfl) .nil) rfl) r1 trivial
       (cF rfl (o_append (sz := 1) (bs := 16) 102 (.mk' Tryd.underlying53 (by kernel_rfl) (by kernel_rfl)) (by intro x; rfl) .is (.arr (l' := [textT c.tx]) .t) (by simp only [List.length_cons, List.length_nil]; omega) (by decide)) ⟨rfl, rfl, trivial⟩ ⟨rfl, trivial⟩
       (cF rfl (o_assign .t (by rfl)) r1 trivial
       Chain.nil)))))))
       (by kernel_rfl) (by rw [hB]; kernel_rfl) ?_
     clear hS; intro a w F hS
     replace hS := hS.sub
     obtain ⟨F, hS⟩ := hS.norm [(2, _), (3, _)] [(0, _), (101, _), (102, _)] r2 r3
     try dsimp only [RS.sub, SF.sub, CF.sub, csub, Anc.sub, List.map, stCells, List.length_cons, List.length_nil, Nat.reduceAdd, List.drop_succ_cons, List.drop_zero, List.drop_nil, List.take_succ_cons, List.take_zero, List.take_nil, List.cons_append, List.nil_append, zCF, ldSF] at hS
     generalize Act.tau a 22 = v22 at hS
     refine block_n ?_
     refine then_n ?_
     refine wp_seq ?_
     rw [hlist] at hS
     obtain ⟨F, hS⟩ := hS.give 102 3 rfl rfl
     obtain ⟨F, hS⟩ := hS.norm [(2, _), (3, _)] [(0, _), (101, _)] r2 r2
     refine region_seq hS (by kernel_rfl)
       (cF rfl (o_move .t (by rfl)) r1 trivial
       (cF rfl (o_callP (join_c ((saidR c.kind).s :: restC c) (by have := (restC_sum hrc hc).1; simp only [List.length_cons]; omega) (by have h8 := (restC_sum hrc hc).2; have h9 := said_len c.kind; unfold sumL at h8 ⊢; rw [List.map_cons, List.sum_cons]; omega)) Tryd.func39 rfl (by kernel_rfl) (Args.one .t)) r1 trivial
       (cF rfl (o_assign .t (by rfl)) r1 trivial
       Chain.nil)))
       (by kernel_rfl) (by rw [hB]; kernel_rfl) ?_
     clear hS; intro a w F hS
     obtain ⟨F, hS⟩ := hS.norm [(2, _)] [(0, _), (101, _)] r1 r2
     refine then_n ?_
     refine wp_ret ?_
     refine ret_P hfr hS rfl (.tmp rfl .nil) (.one (.bs (by first | exact hg | (unfold textC; rw [if_neg (by rw [hrc]; decide)]))))
    ·exact Bool.noConfusion (hc1.symm.trans hc2)
   ·skip
    have hn := of_decide_eq_false hc1
    refine region_seq hS (by kernel_rfl)
      (cF rfl (o_eql .t (.ci (by kernel_rfl))) r1 trivial
      (cF rfl (o_assign .t (by rfl)) r1 trivial
      Chain.nil))
      (by kernel_rfl) (by rw [hB]; kernel_rfl) ?_
    clear hS; intro a w F hS
    obtain ⟨F, hS⟩ := hS.norm [(1, _), (2, _), (3, _), (13, _), (14, _)] [(0, _), (101, _), (102, _)] r5 r3
    refine then_n ?_
    refine cond_b hS rfl (fun hc3 => ?_) (fun hc3 => ?_)
    ·skip
     have hk : c.kind = 1 ∨ c.kind = 2 := by first | exact .inl (of_decide_eq_true hc3) | exact .inr (of_decide_eq_true hc3)
     have hlist : [(saidR c.kind).s, textT c.tx] = (saidR c.kind).s :: restC c := by unfold restC; rw [if_pos hk]
     refine region_seq hS (by kernel_rfl)
       (cF rfl (o_move .t (by rfl)) r1 trivial
       (cF rfl (o_fieldAddr (off := 1) 101 .is (by kernel_rfl) (by rfl)) r1 r1
       (cF rfl (o_load (ag := true) (sz := 3) 101 .adr (by kernel_rfl) (by kernel_rfl) (by kernel_rfl) (by rfl)) r1 r1
       (cF rfl (o_callP (txText_c c.tx (by have := (rightC_head hrc).2.2.1; omega)) Tryd.func36 rfl (by kernel_rfl) (Args.one (.pagg .t))) r1 trivial
       (cF rfl (o_buildSliceE (sz := 1) (zs := [.string ⟨#[]⟩]) (r := [(0, .tmp 20)]) (l := [_]) Tryd.underlying53 (by kernel_rfl) (by kernel_rfl) (by kernel_rfl) (by kernel_rfl) rfl rfl (.one rfl .t one_str (by kernel_rfl) .nil) rfl) r1 trivial
       (cF rfl (o_append (sz := 1) (bs := 16) 102 (.mk' Tryd.underlying53 (by kernel_rfl) (by kernel_rfl)) (by intro x; rfl) .is (.arr (l' := [textT c.tx]) .t) (by simp only [List.length_cons, List.length_nil]; omega) (by decide)) ⟨rfl, rfl, trivial⟩ ⟨rfl, trivial⟩
       (cF rfl (o_assign .t (by rfl)) r1 trivial
       Chain.nil)))))))
       (by kernel_rfl) (by rw [hB]; kernel_rfl) ?_
     clear hS; intro a w F hS
     replace hS := hS.sub
     obtain ⟨F, hS⟩ := hS.norm [(2, _), (3, _)] [(0, _), (101, _), (102, _)] r2 r3
     try dsimp only [RS.sub, SF.sub, CF.sub, csub, Anc.sub, List.map, stCells, List.length_cons, List.length_nil, Nat.reduceAdd, List.drop_succ_cons, List.drop_zero, List.drop_nil, List.take_succ_cons, List.take_zero, List.take_nil, List.cons_append, List.nil_append, zCF, ldSF] at hS
     generalize Act.tau a 22 = v22 at hS
     refine block_n ?_
     refine then_n ?_
     refine wp_seq ?_
     rw [hlist] at hS
     obtain ⟨F, hS⟩ := hS.give 102 3 rfl rfl
     obtain ⟨F, hS⟩ := hS.norm [(2, _), (3, _)] [(0, _), (101, _)] r2 r2
     refine region_seq hS (by kernel_rfl)
       (cF rfl (o_move .t (by rfl)) r1 trivial
       (cF rfl (o_callP (join_c ((saidR c.kind).s :: restC c) (by have := (restC_sum hrc hc).1; simp only [List.length_cons]; omega) (by have h8 := (restC_sum hrc hc).2; have h9 := said_len c.kind; unfold sumL at h8 ⊢; rw [List.map_cons, List.sum_cons]; omega)) Tryd.func39 rfl (by kernel_rfl) (Args.one .t)) r1 trivial
       (cF rfl (o_assign .t (by rfl)) r1 trivial
       Chain.nil)))
       (by kernel_rfl) (by rw [hB]; kernel_rfl) ?_
     clear hS; intro a w F hS
     obtain ⟨F, hS⟩ := hS.norm [(2, _)] [(0, _), (101, _)] r1 r2
     refine then_n ?_
     refine wp_ret ?_
     refine ret_P hfr hS rfl (.tmp rfl .nil) (.one (.bs (by first | exact hg | (unfold textC; rw [if_neg (by rw [hrc]; decide)]))))
    ·skip
     have hn := of_decide_eq_false hc3
     refine wp_seq ?_
     refine wp_seq ?_
     refine region_seq hS (by kernel_rfl)
       (cF rfl (o_eql .t (.ci (by kernel_rfl))) r1 trivial
       (cF rfl (o_assign .t (by rfl)) r1 trivial
       Chain.nil))
       (by kernel_rfl) (by rw [hB]; kernel_rfl) ?_
     clear hS; intro a w F hS
     obtain ⟨F, hS⟩ := hS.norm [(1, _), (2, _), (3, _), (13, _), (23, _)] [(0, _), (101, _), (102, _)] r5 r3
     refine then_n ?_
     refine cond_b hS rfl (fun hc4 => ?_) (fun hc4 => ?_)
     ·skip
      have hk : c.kind = 3 ∨ c.kind = 10 := by first | exact .inl (of_decide_eq_true hc4) | exact .inr (of_decide_eq_true hc4)
      have hlist : [(saidR c.kind).s, textL c.id] = (saidR c.kind).s :: restC c := by unfold restC; rw [if_neg (by omega), if_pos hk]
      refine wp_skip ?_
      refine then_n ?_
      refine cond_b hS rfl (fun hc5 => ?_) (fun hc5 => ?_)
      ·skip
       have hk : c.kind = 3 ∨ c.kind = 10 := by first | exact .inl (of_decide_eq_true hc5) | exact .inr (of_decide_eq_true hc5)
       have hlist : [(saidR c.kind).s, textL c.id] = (saidR c.kind).s :: restC c := by unfold restC; rw [if_neg (by omega), if_pos hk]
       refine region_seq hS (by kernel_rfl)
         (cF rfl (o_move .t (by rfl)) r1 trivial
         (cF rfl (o_fieldAddr (off := 7) 101 .is (by kernel_rfl) (by rfl)) r1 r1
         (cF rfl (o_load (ag := false) (sz := 1) 101 .adr (by kernel_rfl) (by kernel_rfl) (by kernel_rfl) (by rfl)) r1 r1
         (cF rfl (o_callP (text_c c.id) Tryd.func30 rfl (by kernel_rfl) (Args.one .t)) r1 trivial
         (cF rfl (o_buildSliceE (sz := 1) (zs := [.string ⟨#[]⟩]) (r := [(0, .tmp 29)]) (l := [_]) Tryd.underlying53 (by kernel_rfl) (by kernel_rfl) (by kernel_rfl) (by kernel_rfl) rfl rfl (.one rfl .t one_str (by kernel_rfl) .nil) rfl) r1 trivial
         (cF rfl (o_append (sz := 1) (bs := 16) 102 (.mk' Tryd.underlying53 (by kernel_rfl) (by kernel_rfl)) (by intro x; rfl) .is (.arr (l' := [textL c.id]) .t) (by simp only [List.length_cons, List.length_nil]; omega) (by decide)) ⟨rfl, rfl, trivial⟩ ⟨rfl, trivial⟩
         (cF rfl (o_assign .t (by rfl)) r1 trivial
         Chain.nil)))))))
         (by kernel_rfl) (by rw [hB]; kernel_rfl) ?_
       clear hS; intro a w F hS
       replace hS := hS.sub
       obtain ⟨F, hS⟩ := hS.norm [(2, _), (3, _)] [(0, _), (101, _), (102, _)] r2 r3
       try dsimp only [RS.sub, SF.sub, CF.sub, csub, Anc.sub, List.map, stCells, List.length_cons, List.length_nil, Nat.reduceAdd, List.drop_succ_cons, List.drop_zero, List.drop_nil, List.take_succ_cons, List.take_zero, List.take_nil, List.cons_append, List.nil_append, zCF, ldSF] at hS
       generalize Act.tau a 31 = v31 at hS
       refine block_n ?_
       refine then_n ?_
       refine wp_seq ?_
       rw [hlist] at hS
       obtain ⟨F, hS⟩ := hS.give 102 3 rfl rfl
       obtain ⟨F, hS⟩ := hS.norm [(2, _), (3, _)] [(0, _), (101, _)] r2 r2
       refine region_seq hS (by kernel_rfl)
         (cF rfl (o_move .t (by rfl)) r1 trivial
         (cF rfl (o_callP (join_c ((saidR c.kind).s :: restC c) (by have := (restC_sum hrc hc).1; simp only [List.length_cons]; omega) (by have h8 := (restC_sum hrc hc).2; have h9 := said_len c.kind; unfold sumL at h8 ⊢; rw [List.map_cons, List.sum_cons]; omega)) Tryd.func39 rfl (by kernel_rfl) (Args.one .t)) r1 trivial
         (cF rfl (o_assign .t (by rfl)) r1 trivial
         Chain.nil)))
         (by kernel_rfl) (by rw [hB]; kernel_rfl) ?_
       clear hS; intro a w F hS
       obtain ⟨F, hS⟩ := hS.norm [(2, _)] [(0, _), (101, _)] r1 r2
       refine then_n ?_
       refine wp_ret ?_
       refine ret_P hfr hS rfl (.tmp rfl .nil) (.one (.bs (by first | exact hg | (unfold textC; rw [if_neg (by rw [hrc]; decide)]))))
      ·exact Bool.noConfusion (hc4.symm.trans hc5)
     ·skip
      have hn := of_decide_eq_false hc4
      refine region_seq hS (by kernel_rfl)
        (cF rfl (o_eql .t (.ci (by kernel_rfl))) r1 trivial
        (cF rfl (o_assign .t (by rfl)) r1 trivial
        Chain.nil))
        (by kernel_rfl) (by rw [hB]; kernel_rfl) ?_
      clear hS; intro a w F hS
      obtain ⟨F, hS⟩ := hS.norm [(1, _), (2, _), (3, _), (13, _), (23, _)] [(0, _), (101, _), (102, _)] r5 r3
      refine then_n ?_
      refine cond_b hS rfl (fun hc6 => ?_) (fun hc6 => ?_)
      ·skip
       have hk : c.kind = 3 ∨ c.kind = 10 := by first | exact .inl (of_decide_eq_true hc6) | exact .inr (of_decide_eq_true hc6)
       have hlist : [(saidR c.kind).s, textL c.id] = (saidR c.kind).s :: restC c := by unfold restC; rw [if_neg (by omega), if_pos hk]
       refine region_seq hS (by kernel_rfl)
         (cF rfl (o_move .t (by rfl)) r1 trivial
         (cF rfl (o_fieldAddr (off := 7) 101 .is (by kernel_rfl) (by rfl)) r1 r1
         (cF rfl (o_load (ag := false) (sz := 1) 101 .adr (by kernel_rfl) (by kernel_rfl) (by kernel_rfl) (by rfl)) r1 r1
         (cF rfl (o_callP (text_c c.id) Tryd.func30 rfl (by kernel_rfl) (Args.one .t)) r1 trivial
         (cF rfl (o_buildSliceE (sz := 1) (zs := [.string ⟨#[]⟩]) (r := [(0, .tmp 29)]) (l := [_]) Tryd.underlying53 (by kernel_rfl) (by kernel_rfl) (by kernel_rfl) (by kernel_rfl) rfl rfl (.one rfl .t one_str (by kernel_rfl) .nil) rfl) r1 trivial
         (cF rfl (o_append (sz := 1) (bs := 16) 102 (.mk' Tryd.underlying53 (by kernel_rfl) (by kernel_rfl)) (by intro x; rfl) .is (.arr (l' := [textL c.id]) .t) (by simp only [List.length_cons, List.length_nil]; omega) (by decide)) ⟨rfl, rfl, trivial⟩ ⟨rfl, trivial⟩
         (cF rfl (o_assign .t (by rfl)) r1 trivial
         Chain.nil)))))))
         (by kernel_rfl) (by rw [hB]; kernel_rfl) ?_
       clear hS; intro a w F hS
       replace hS := hS.sub
       obtain ⟨F, hS⟩ := hS.norm [(2, _), (3, _)] [(0, _), (101, _), (102, _)] r2 r3
       try dsimp only [RS.sub, SF.sub, CF.sub, csub, Anc.sub, List.map, stCells, List.length_cons, List.length_nil, Nat.reduceAdd, List.drop_succ_cons, List.drop_zero, List.drop_nil, List.take_succ_cons, List.take_zero, List.take_nil, List.cons_append, List.nil_append, zCF, ldSF] at hS
       generalize Act.tau a 31 = v31 at hS
       refine block_n ?_
       refine then_n ?_
       refine wp_seq ?_
       rw [hlist] at hS
       obtain ⟨F, hS⟩ := hS.give 102 3 rfl rfl
       obtain ⟨F, hS⟩ := hS.norm [(2, _), (3, _)] [(0, _), (101, _)] r2 r2
       refine region_seq hS (by kernel_rfl)
         (cF rfl (o_move .t (by rfl)) r1 trivial
         (cF rfl (o_callP (join_c ((saidR c.kind).s :: restC c) (by have := (restC_sum hrc hc).1; simp only [List.length_cons]; omega) (by have h8 := (restC_sum hrc hc).2; have h9 := said_len c.kind; unfold sumL at h8 ⊢; rw [List.map_cons, List.sum_cons]; omega)) Tryd.func39 rfl (by kernel_rfl) (Args.one .t)) r1 trivial
         (cF rfl (o_assign .t (by rfl)) r1 trivial
         Chain.nil)))
         (by kernel_rfl) (by rw [hB]; kernel_rfl) ?_
       clear hS; intro a w F hS
       obtain ⟨F, hS⟩ := hS.norm [(2, _)] [(0, _), (101, _)] r1 r2
       refine then_n ?_
       refine wp_ret ?_
       refine ret_P hfr hS rfl (.tmp rfl .nil) (.one (.bs (by first | exact hg | (unfold textC; rw [if_neg (by rw [hrc]; decide)]))))
      ·skip
       have hn := of_decide_eq_false hc6
       refine wp_seq ?_
       refine region_seq hS (by kernel_rfl)
         (cF rfl (o_eql .t (.ci (by kernel_rfl))) r1 trivial
         (cF rfl (o_assign .t (by rfl)) r1 trivial
         Chain.nil))
         (by kernel_rfl) (by rw [hB]; kernel_rfl) ?_
       clear hS; intro a w F hS
       obtain ⟨F, hS⟩ := hS.norm [(1, _), (2, _), (3, _), (13, _), (32, _)] [(0, _), (101, _), (102, _)] r5 r3
       refine then_n ?_
       refine cond_b hS rfl (fun hc7 => ?_) (fun hc7 => ?_)
       ·skip
        have hk := of_decide_eq_true hc7
        have hlist : [(saidR c.kind).s, wordsL (c.order.key :: c.order.txs)] = (saidR c.kind).s :: restC c := by unfold restC; rw [if_neg (by omega), if_neg (by omega), if_pos hk]
        refine region_seq hS (by kernel_rfl)
          (cF rfl (o_move .t (by rfl)) r1 trivial
          (cF rfl (o_fieldAddr (off := 4) 101 .is (by kernel_rfl) (by rfl)) r1 r1
          (cF rfl (o_fieldAddr (off := 0) 101 .adr (by kernel_rfl) (by rfl)) r1 r1
          (cF rfl (o_load (ag := false) (sz := 1) 101 .adr (by kernel_rfl) (by kernel_rfl) (by kernel_rfl) (by rfl)) r1 r1
          (cF rfl (o_buildRow (R := rInt) (l := [c.order.key]) (sz := 1) (zs := [.int .i64 0]) (r := [(0, .tmp 37)]) 103 Tryd.underlying40 (by kernel_rfl) (by kernel_rfl) (by kernel_rfl) (by kernel_rfl) rfl rfl (.one rfl .t one_int (by kernel_rfl) .nil) rfl rfl (by intro x; rfl)) r1 trivial
          (cF rfl (o_fieldAddr (off := 4) 101 .is (by kernel_rfl) (by rfl)) r1 r1
          (cF rfl (o_fieldAddr (off := 1) 101 .adr (by kernel_rfl) (by rfl)) r1 r1
          (cF rfl (o_load (ag := false) (sz := 1) 101 .adr (by kernel_rfl) (by kernel_rfl) (by kernel_rfl) (by rfl)) r1 r1
          (cF rfl (o_append (sz := 1) (bs := 8) 103 (.mk' Tryd.underlying40 (by kernel_rfl) (by kernel_rfl)) (by intro x; rfl) .same (.sl .t) (by simp only [List.length_cons, List.length_nil]; omega) (by decide)) ⟨rfl, rfl, trivial⟩ ⟨rfl, trivial⟩
          (cF rfl (o_lendRow 103 (words_c (c.order.key :: c.order.txs) (by simp; omega)) (fun _ _ _ _ _ h => h) Tryd.func37 rfl (by kernel_rfl) .same) r1 r1
          (cF rfl (o_buildSliceE (sz := 1) (zs := [.string ⟨#[]⟩]) (r := [(0, .tmp 43)]) (l := [_]) Tryd.underlying53 (by kernel_rfl) (by kernel_rfl) (by kernel_rfl) (by kernel_rfl) rfl rfl (.one rfl .t one_str (by kernel_rfl) .nil) rfl) r1 trivial
          (cF rfl (o_append (sz := 1) (bs := 16) 102 (.mk' Tryd.underlying53 (by kernel_rfl) (by kernel_rfl)) (by intro x; rfl) .is (.arr (l' := [wordsL (c.order.key :: c.order.txs)]) .t) (by simp only [List.length_cons, List.length_nil]; omega) (by decide)) ⟨rfl, rfl, trivial⟩ ⟨rfl, trivial⟩
          (cF rfl (o_assign .t (by rfl)) r1 trivial
          Chain.nil)))))))))))))
          (by kernel_rfl) (by rw [hB]; kernel_rfl) ?_
        clear hS; intro a w F hS
        replace hS := hS.sub
        obtain ⟨F, hS⟩ := hS.norm [(2, _), (3, _)] [(0, _), (101, _), (102, _), (103, _)] r2 r4
        try dsimp only [RS.sub, SF.sub, CF.sub, csub, Anc.sub, List.map, stCells, List.length_cons, List.length_nil, Nat.reduceAdd, List.drop_succ_cons, List.drop_zero, List.drop_nil, List.take_succ_cons, List.take_zero, List.take_nil, List.cons_append, List.nil_append, zCF, ldSF] at hS
        generalize Act.tau a 45 = v45 at hS
        generalize Act.tau a 42 = v42 at hS
        refine block_n ?_
        refine then_n ?_
        refine wp_seq ?_
        rw [hlist] at hS
        obtain ⟨F, hS⟩ := hS.give 102 3 rfl rfl
        obtain ⟨F, hS⟩ := hS.norm [(2, _), (3, _)] [(0, _), (101, _), (103, _)] r2 r3
        refine region_seq hS (by kernel_rfl)
          (cF rfl (o_move .t (by rfl)) r1 trivial
          (cF rfl (o_callP (join_c ((saidR c.kind).s :: restC c) (by have := (restC_sum hrc hc).1; simp only [List.length_cons]; omega) (by have h8 := (restC_sum hrc hc).2; have h9 := said_len c.kind; unfold sumL at h8 ⊢; rw [List.map_cons, List.sum_cons]; omega)) Tryd.func39 rfl (by kernel_rfl) (Args.one .t)) r1 trivial
          (cF rfl (o_assign .t (by rfl)) r1 trivial
          Chain.nil)))
          (by kernel_rfl) (by rw [hB]; kernel_rfl) ?_
        clear hS; intro a w F hS
        obtain ⟨F, hS⟩ := hS.norm [(2, _)] [(0, _), (101, _), (103, _)] r1 r3
        refine then_n ?_
        refine wp_ret ?_
        refine ret_P hfr hS rfl (.tmp rfl .nil) (.one (.bs (by first | exact hg | (unfold textC; rw [if_neg (by rw [hrc]; decide)]))))
       ·skip
        have hn := of_decide_eq_false hc7
        refine wp_seq ?_
        refine region_seq hS (by kernel_rfl)
          (cF rfl (o_eql .t (.ci (by kernel_rfl))) r1 trivial
          (cF rfl (o_assign .t (by rfl)) r1 trivial
          Chain.nil))
          (by kernel_rfl) (by rw [hB]; kernel_rfl) ?_
        clear hS; intro a w F hS
        obtain ⟨F, hS⟩ := hS.norm [(1, _), (2, _), (3, _), (13, _), (46, _)] [(0, _), (101, _), (102, _)] r5 r3
        refine then_n ?_
        refine cond_b hS rfl (fun hc8 => ?_) (fun hc8 => ?_)
        ·skip
         have hk := of_decide_eq_true hc8
         have hlist : [(saidR c.kind).s, wordsL [c.key, c.id, c.place]] = (saidR c.kind).s :: restC c := by unfold restC; rw [if_neg (by omega), if_neg (by omega), if_neg (by omega), if_pos hk]
         refine region_seq hS (by kernel_rfl)
           (cF rfl (o_move .t (by rfl)) r1 trivial
           (cF rfl (o_fieldAddr (off := 6) 101 .is (by kernel_rfl) (by rfl)) r1 r1
           (cF rfl (o_load (ag := false) (sz := 1) 101 .adr (by kernel_rfl) (by kernel_rfl) (by kernel_rfl) (by rfl)) r1 r1
           (cF rfl (o_fieldAddr (off := 7) 101 .is (by kernel_rfl) (by rfl)) r1 r1
           (cF rfl (o_load (ag := false) (sz := 1) 101 .adr (by kernel_rfl) (by kernel_rfl) (by kernel_rfl) (by rfl)) r1 r1
           (cF rfl (o_fieldAddr (off := 8) 101 .is (by kernel_rfl) (by rfl)) r1 r1
           (cF rfl (o_load (ag := false) (sz := 1) 101 .adr (by kernel_rfl) (by kernel_rfl) (by kernel_rfl) (by rfl)) r1 r1
           (cF rfl (o_buildSliceE (sz := 1) (zs := [.int .i64 0]) (r := [(0, .tmp 50), (1, .tmp 52), (2, .tmp 54)]) (l := [_, _, _]) Tryd.underlying40 (by kernel_rfl) (by kernel_rfl) (by kernel_rfl) (by kernel_rfl) rfl rfl (.one rfl .t one_int (by kernel_rfl) (.one rfl .t one_int (by kernel_rfl) (.one rfl .t one_int (by kernel_rfl) .nil))) rfl) r3 trivial
           (cF rfl (o_callP (words_c [c.key, c.id, c.place] (by simp)) Tryd.func37 rfl (by kernel_rfl) (Args.one (.conv .t (Ent.arrSl (R := rInt) (l := [c.key, c.id, c.place]) rfl)))) r1 trivial
           (cF rfl (o_buildSliceE (sz := 1) (zs := [.string ⟨#[]⟩]) (r := [(0, .tmp 56)]) (l := [_]) Tryd.underlying53 (by kernel_rfl) (by kernel_rfl) (by kernel_rfl) (by kernel_rfl) rfl rfl (.one rfl .t one_str (by kernel_rfl) .nil) rfl) r1 trivial
           (cF rfl (o_append (sz := 1) (bs := 16) 102 (.mk' Tryd.underlying53 (by kernel_rfl) (by kernel_rfl)) (by intro x; rfl) .is (.arr (l' := [wordsL [c.key, c.id, c.place]]) .t) (by simp only [List.length_cons, List.length_nil]; omega) (by decide)) ⟨rfl, rfl, trivial⟩ ⟨rfl, trivial⟩
           (cF rfl (o_assign .t (by rfl)) r1 trivial
           Chain.nil))))))))))))
           (by kernel_rfl) (by rw [hB]; kernel_rfl) ?_
         clear hS; intro a w F hS
         replace hS := hS.sub
         obtain ⟨F, hS⟩ := hS.norm [(2, _), (3, _)] [(0, _), (101, _), (102, _)] r2 r3
         try dsimp only [RS.sub, SF.sub, CF.sub, csub, Anc.sub, List.map, stCells, List.length_cons, List.length_nil, Nat.reduceAdd, List.drop_succ_cons, List.drop_zero, List.drop_nil, List.take_succ_cons, List.take_zero, List.take_nil, List.cons_append, List.nil_append, zCF, ldSF] at hS
         generalize Act.tau a 58 = v58 at hS
         refine block_n ?_
         refine then_n ?_
         refine wp_seq ?_
         rw [hlist] at hS
         obtain ⟨F, hS⟩ := hS.give 102 3 rfl rfl
         obtain ⟨F, hS⟩ := hS.norm [(2, _), (3, _)] [(0, _), (101, _)] r2 r2
         refine region_seq hS (by kernel_rfl)
           (cF rfl (o_move .t (by rfl)) r1 trivial
           (cF rfl (o_callP (join_c ((saidR c.kind).s :: restC c) (by have := (restC_sum hrc hc).1; simp only [List.length_cons]; omega) (by have h8 := (restC_sum hrc hc).2; have h9 := said_len c.kind; unfold sumL at h8 ⊢; rw [List.map_cons, List.sum_cons]; omega)) Tryd.func39 rfl (by kernel_rfl) (Args.one .t)) r1 trivial
           (cF rfl (o_assign .t (by rfl)) r1 trivial
           Chain.nil)))
           (by kernel_rfl) (by rw [hB]; kernel_rfl) ?_
         clear hS; intro a w F hS
         obtain ⟨F, hS⟩ := hS.norm [(2, _)] [(0, _), (101, _)] r1 r2
         refine then_n ?_
         refine wp_ret ?_
         refine ret_P hfr hS rfl (.tmp rfl .nil) (.one (.bs (by first | exact hg | (unfold textC; rw [if_neg (by rw [hrc]; decide)]))))
        ·skip
         have hn := of_decide_eq_false hc8
         refine wp_seq ?_
         refine region_seq hS (by kernel_rfl)
           (cF rfl (o_eql .t (.ci (by kernel_rfl))) r1 trivial
           (cF rfl (o_assign .t (by rfl)) r1 trivial
           Chain.nil))
           (by kernel_rfl) (by rw [hB]; kernel_rfl) ?_
         clear hS; intro a w F hS
         obtain ⟨F, hS⟩ := hS.norm [(1, _), (2, _), (3, _), (59, _)] [(0, _), (101, _), (102, _)] r4 r3
         refine then_n ?_
         refine cond_b hS rfl (fun hc9 => ?_) (fun hc9 => ?_)
         ·skip
          have hk := of_decide_eq_true hc9
          have hlist : [(saidR c.kind).s, codeR c.phen] = (saidR c.kind).s :: restC c := by unfold restC; rw [if_neg (by omega), if_neg (by omega), if_neg (by omega), if_neg (by omega), if_pos hk]
          refine region_seq hS (by kernel_rfl)
            (cF rfl (o_move .t (by rfl)) r1 trivial
            (cF rfl (o_fieldAddr (off := 9) 101 .is (by kernel_rfl) (by rfl)) r1 r1
            (cF rfl (o_load (ag := false) (sz := 1) 101 .adr (by kernel_rfl) (by kernel_rfl) (by kernel_rfl) (by rfl)) r1 r1
            (cF rfl (o_callP (code_c c.phen) Tryd.func38 rfl (by kernel_rfl) (Args.one .t)) r1 trivial
            (cF rfl (o_buildSliceE (sz := 1) (zs := [.string ⟨#[]⟩]) (r := [(0, .tmp 64)]) (l := [_]) Tryd.underlying53 (by kernel_rfl) (by kernel_rfl) (by kernel_rfl) (by kernel_rfl) rfl rfl (.one rfl .t one_str (by kernel_rfl) .nil) rfl) r1 trivial
            (cF rfl (o_append (sz := 1) (bs := 16) 102 (.mk' Tryd.underlying53 (by kernel_rfl) (by kernel_rfl)) (by intro x; rfl) .is (.arr (l' := [codeR c.phen]) .t) (by simp only [List.length_cons, List.length_nil]; omega) (by decide)) ⟨rfl, rfl, trivial⟩ ⟨rfl, trivial⟩
            (cF rfl (o_assign .t (by rfl)) r1 trivial
            Chain.nil)))))))
            (by kernel_rfl) (by rw [hB]; kernel_rfl) ?_
          clear hS; intro a w F hS
          replace hS := hS.sub
          obtain ⟨F, hS⟩ := hS.norm [(2, _), (3, _)] [(0, _), (101, _), (102, _)] r2 r3
          try dsimp only [RS.sub, SF.sub, CF.sub, csub, Anc.sub, List.map, stCells, List.length_cons, List.length_nil, Nat.reduceAdd, List.drop_succ_cons, List.drop_zero, List.drop_nil, List.take_succ_cons, List.take_zero, List.take_nil, List.cons_append, List.nil_append, zCF, ldSF] at hS
          generalize Act.tau a 66 = v66 at hS
          refine block_n ?_
          refine then_n ?_
          refine wp_seq ?_
          rw [hlist] at hS
          obtain ⟨F, hS⟩ := hS.give 102 3 rfl rfl
          obtain ⟨F, hS⟩ := hS.norm [(2, _), (3, _)] [(0, _), (101, _)] r2 r2
          refine region_seq hS (by kernel_rfl)
            (cF rfl (o_move .t (by rfl)) r1 trivial
            (cF rfl (o_callP (join_c ((saidR c.kind).s :: restC c) (by have := (restC_sum hrc hc).1; simp only [List.length_cons]; omega) (by have h8 := (restC_sum hrc hc).2; have h9 := said_len c.kind; unfold sumL at h8 ⊢; rw [List.map_cons, List.sum_cons]; omega)) Tryd.func39 rfl (by kernel_rfl) (Args.one .t)) r1 trivial
            (cF rfl (o_assign .t (by rfl)) r1 trivial
            Chain.nil)))
            (by kernel_rfl) (by rw [hB]; kernel_rfl) ?_
          clear hS; intro a w F hS
          obtain ⟨F, hS⟩ := hS.norm [(2, _)] [(0, _), (101, _)] r1 r2
          refine then_n ?_
          refine wp_ret ?_
          refine ret_P hfr hS rfl (.tmp rfl .nil) (.one (.bs (by first | exact hg | (unfold textC; rw [if_neg (by rw [hrc]; decide)]))))
         ·skip
          have hn := of_decide_eq_false hc9
          have hlist : [(saidR c.kind).s] = (saidR c.kind).s :: restC c := by unfold restC; rw [if_neg (by omega), if_neg (by omega), if_neg (by omega), if_neg (by omega), if_neg (by omega)]
          refine wp_skip ?_
          refine block_n ?_
          refine then_n ?_
          refine wp_seq ?_
          rw [hlist] at hS
          obtain ⟨F, hS⟩ := hS.give 102 3 rfl rfl
          obtain ⟨F, hS⟩ := hS.norm [(1, _), (2, _), (3, _), (59, _)] [(0, _), (101, _)] r4 r2
          refine region_seq hS (by kernel_rfl)
            (cF rfl (o_move .t (by rfl)) r1 trivial
            (cF rfl (o_callP (join_c ((saidR c.kind).s :: restC c) (by have := (restC_sum hrc hc).1; simp only [List.length_cons]; omega) (by have h8 := (restC_sum hrc hc).2; have h9 := said_len c.kind; unfold sumL at h8 ⊢; rw [List.map_cons, List.sum_cons]; omega)) Tryd.func39 rfl (by kernel_rfl) (Args.one .t)) r1 trivial
            (cF rfl (o_assign .t (by rfl)) r1 trivial
            Chain.nil)))
            (by kernel_rfl) (by rw [hB]; kernel_rfl) ?_
          clear hS; intro a w F hS
          obtain ⟨F, hS⟩ := hS.norm [(2, _)] [(0, _), (101, _)] r1 r2
          refine then_n ?_
          refine wp_ret ?_
          refine ret_P hfr hS rfl (.tmp rfl .nil) (.one (.bs (by first | exact hg | (unfold textC; rw [if_neg (by rw [hrc]; decide)]))))

end Go.Proofs.YtjdcnjemhjldoaaDoor
