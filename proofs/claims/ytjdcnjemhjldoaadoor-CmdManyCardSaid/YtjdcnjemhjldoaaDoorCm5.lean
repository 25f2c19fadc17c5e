/- Commands of lines. No condition beyond those that each theorem says. -/
import Derived.Test.YtjdcnjemhjldoaaDoorCm2
import Derived.Test.YtjdcnjemhjldoaaDoorCm3
import Derived.Test.YtjdcnjemhjldoaaDoorLxW
namespace Go.Proofs.YtjdcnjemhjldoaaDoor
open Go Go.Gm
set_option linter.unusedVariables false
set_option linter.unusedSimpArgs false
set_option maxHeartbeats 4000000
set_option maxRecDepth 8000


theorem fill_c (b : Nat) (k : Int) (l : List (List UInt8)) (hs : ∀ x ∈ l, x.length ≤ 1000000) (hn : l.length ≤ 1000000) (hl : (saidR k).least ≤ (l.length : Int) + 1) : FnG Tryd.prog 43 1 [.is (.pointer (some ⟨b, 0, none⟩)), .sl rS l] [blkH 44 ((rCmd (zeroC k)).map CF.pv) (.pointer (some ⟨b, 0, none⟩))] (.int .i64 (fillR k l).2) (fun _ => [blkH 44 ((rCmd (fillR k l).1).map CF.pv) (.pointer (some ⟨b, 0, none⟩))]) := by
  refine FnG.mk Tryd.func43 rfl Tryd.ntmps43 rfl (by kernel_rfl) ?_
  intro B F0 a w F hB hG hS
  replace hS := hS.turn 1 rfl (r' := .pt (.val (.pointer (some ⟨b, 0, none⟩))) 44 [.pv (.int .i64 k), .pv (.int .i64 0), .pv (.bool false), .pv (.sl rOp []), .pv (.int .i64 0), .pv (.sl rInt []), .pv (.int .i64 0), .pv (.int .i64 0), .pv (.int .i64 0), .pv (.int .i64 0)]) (fun τ w f y h => blk_pt rfl τ w f y h)
  replace hS := hS.norm [(0, _), (1, _)] [(0, _), (1, _)] ⟨rfl, rfl, trivial⟩ ⟨rfl, rfl, trivial⟩
  obtain ⟨F, hS⟩ := hS
  refine wp_seq ?_
  refine region_seq hS (by kernel_rfl)
    (cF rfl (o_assign (.ci (by kernel_rfl)) (by rfl)) trivial trivial
    Chain.nil)
    (by kernel_rfl) (by rw [hB]; kernel_rfl) ?_
  clear hS; intro a w F hS
  obtain ⟨F, hS⟩ := hS.norm [(0, _), (1, _), (4, _)] [(0, _), (1, _)] r3 r2
  refine then_n ?_
  refine wp_seq ?_
  refine region_seq hS (by kernel_rfl)
    (cF rfl (o_assign (.ci (by kernel_rfl)) (by rfl)) trivial trivial
    Chain.nil)
    (by kernel_rfl) (by rw [hB]; kernel_rfl) ?_
  clear hS; intro a w F hS
  obtain ⟨F, hS⟩ := hS.norm [(0, _), (1, _), (4, _), (5, _)] [(0, _), (1, _)] r4 r2
  refine then_n ?_
  refine wp_seq ?_
  refine region_seq hS (by kernel_rfl)
    (cF rfl (o_assign (.c rfl) (by rfl)) trivial trivial
    Chain.nil)
    (by kernel_rfl) (by rw [hB]; kernel_rfl) ?_
  clear hS; intro a w F hS
  obtain ⟨F, hS⟩ := hS.norm [(0, _), (1, _), (4, _), (5, _), (6, _)] [(0, _), (1, _)] r5 r2
  refine then_n ?_
  refine wp_seq ?_
  refine wp_seq ?_
  refine region_seq hS (by kernel_rfl)
    (cF rfl (o_move .t (by rfl)) r1 trivial
    (cF rfl (o_nilCheck 1 .is (by rfl)) r1 r1
    (cF rfl (o_fieldAddr (off := 0) 1 .adr (by kernel_rfl) (by rfl)) r1 r1
    (cF rfl (o_load (ag := false) (sz := 1) 1 .adr (by kernel_rfl) (by kernel_rfl) (by kernel_rfl) (by rfl)) r1 r1
    Chain.nil))))
    (by kernel_rfl) (by rw [hB]; kernel_rfl) ?_
  clear hS; intro a w F hS
  obtain ⟨F, hS⟩ := hS.norm [(0, _), (1, _), (4, _), (5, _), (6, _), (10, _)] [(0, _), (1, _)] r6 r2
  try dsimp only [List.map, List.drop_succ_cons, List.drop_zero, List.drop_nil, List.take_succ_cons, List.take_zero, List.take_nil, ldSF] at hS
  refine then_n ?_
  refine wp_block ?_
  refine wp_seq ?_
  refine wp_seq ?_
  refine region_seq hS (by kernel_rfl)
    (cF rfl (o_eql .t (.ci (by kernel_rfl))) r1 trivial
    (cF rfl (o_assign .t (by rfl)) r1 trivial
    Chain.nil))
    (by kernel_rfl) (by rw [hB]; kernel_rfl) ?_
  clear hS; intro a w F hS
  obtain ⟨F, hS⟩ := hS.norm [(0, _), (1, _), (4, _), (5, _), (6, _), (10, _), (11, _)] [(0, _), (1, _)] r7 r2
  refine then_n ?_
  refine cond_b hS rfl (fun hc0 => ?_) (fun hc0 => ?_)
  ·skip
   have hk : k = 1 ∨ k = 2 := by first | exact .inl (of_decide_eq_true hc0) | exact .inr (of_decide_eq_true hc0)
   have hr : fillR k l = ({zeroC k with tx := (txR l).1}, (txR l).2) := by unfold fillR; rw [if_pos hk]
   have hlm : 2 ≤ l.length := by
     rcases hk with hk | hk
     · subst hk; have h9 : (3 : Int) ≤ (l.length : Int) + 1 := hl; omega
     · subst hk; have h9 : (3 : Int) ≤ (l.length : Int) + 1 := hl; omega
   refine wp_skip ?_
   refine then_n ?_
   refine cond_b hS rfl (fun hc1 => ?_) (fun hc1 => ?_)
   ·skip
    have hk : k = 1 ∨ k = 2 := by first | exact .inl (of_decide_eq_true hc1) | exact .inr (of_decide_eq_true hc1)
    have hr : fillR k l = ({zeroC k with tx := (txR l).1}, (txR l).2) := by unfold fillR; rw [if_pos hk]
    have hlm : 2 ≤ l.length := by
      rcases hk with hk | hk
      · subst hk; have h9 : (3 : Int) ≤ (l.length : Int) + 1 := hl; omega
      · subst hk; have h9 : (3 : Int) ≤ (l.length : Int) + 1 := hl; omega
    refine wp_seq ?_
    refine region_seq hS (by kernel_rfl)
      (cF rfl (o_move .t (by rfl)) r1 trivial
      (cF rfl (o_move .t (by rfl)) r1 trivial
      (cF rfl (o_callP (transaction_c l hs hn hlm) Tryd.func56 rfl (by kernel_rfl) (Args.one .t)) r1 trivial
      (cF rfl (o_move .t (by rfl)) r1 trivial
      (cF rfl (o_extract .t rfl) r1 trivial
      (cF rfl (o_extract .t rfl) r1 trivial
      (cF rfl (o_nilCheck 1 .is (by rfl)) r1 r1
      (cF rfl (o_fieldAddr (off := 1) 1 .adr (by kernel_rfl) (by rfl)) r1 r1
      (cF rfl (o_storeA (sz := 3) 1 .adr (.conv .t .agg) (by kernel_rfl) (by kernel_rfl) (by kernel_rfl)) r2 r1
      (cF rfl (o_assign .t (by rfl)) r1 trivial
      Chain.nil))))))))))
      (by kernel_rfl) (by rw [hB]; kernel_rfl) ?_
    clear hS; intro a w F hS
    obtain ⟨F, hS⟩ := hS.norm [(0, _), (1, _), (4, _), (5, _), (6, _)] [(0, _), (1, _)] r5 r2
    try dsimp only [List.map, stCells, List.length_cons, List.length_nil, Nat.reduceAdd, List.drop_succ_cons, List.drop_zero, List.drop_nil, List.take_succ_cons, List.take_zero, List.take_nil, List.cons_append, List.nil_append, zCF] at hS
    refine then_n ?_
    refine wp_seq ?_
    refine region_seq hS (by kernel_rfl)
      (cF rfl (o_move .t (by rfl)) r1 trivial
      (cF rfl (o_assign .t (by rfl)) r1 trivial
      Chain.nil))
      (by kernel_rfl) (by rw [hB]; kernel_rfl) ?_
    clear hS; intro a w F hS
    obtain ⟨F, hS⟩ := hS.norm [(0, _), (1, _), (4, _), (5, _), (6, _)] [(0, _), (1, _)] r5 r2
    refine then_n ?_
    refine wp_ret ?_
    refine block_r ?_
    refine then_r ?_
    replace hS := hS.turn 1 rfl (r' := RS.hp (blkH 44 ((rCmd (fillR k l).1).map CF.pv) (.pointer (some ⟨b, 0, none⟩)))) (fun τ w f y h => pt_blk rfl τ w f y (by rw [hr]; exact h))
    refine ret_G1 hG hS rfl (.tmp rfl .nil) (.one (.int (by rw [hr]))) rfl
   ·exact Bool.noConfusion (hc0.symm.trans hc1)
  ·skip
   have hnk := of_decide_eq_false hc0
   refine region_seq hS (by kernel_rfl)
     (cF rfl (o_eql .t (.ci (by kernel_rfl))) r1 trivial
     (cF rfl (o_assign .t (by rfl)) r1 trivial
     Chain.nil))
     (by kernel_rfl) (by rw [hB]; kernel_rfl) ?_
   clear hS; intro a w F hS
   obtain ⟨F, hS⟩ := hS.norm [(0, _), (1, _), (4, _), (5, _), (6, _), (10, _), (11, _)] [(0, _), (1, _)] r7 r2
   refine then_n ?_
   refine cond_b hS rfl (fun hc2 => ?_) (fun hc2 => ?_)
   ·skip
    have hk : k = 1 ∨ k = 2 := by first | exact .inl (of_decide_eq_true hc2) | exact .inr (of_decide_eq_true hc2)
    have hr : fillR k l = ({zeroC k with tx := (txR l).1}, (txR l).2) := by unfold fillR; rw [if_pos hk]
    have hlm : 2 ≤ l.length := by
      rcases hk with hk | hk
      · subst hk; have h9 : (3 : Int) ≤ (l.length : Int) + 1 := hl; omega
      · subst hk; have h9 : (3 : Int) ≤ (l.length : Int) + 1 := hl; omega
    refine wp_seq ?_
    refine region_seq hS (by kernel_rfl)
      (cF rfl (o_move .t (by rfl)) r1 trivial
      (cF rfl (o_move .t (by rfl)) r1 trivial
      (cF rfl (o_callP (transaction_c l hs hn hlm) Tryd.func56 rfl (by kernel_rfl) (Args.one .t)) r1 trivial
      (cF rfl (o_move .t (by rfl)) r1 trivial
      (cF rfl (o_extract .t rfl) r1 trivial
      (cF rfl (o_extract .t rfl) r1 trivial
      (cF rfl (o_nilCheck 1 .is (by rfl)) r1 r1
      (cF rfl (o_fieldAddr (off := 1) 1 .adr (by kernel_rfl) (by rfl)) r1 r1
      (cF rfl (o_storeA (sz := 3) 1 .adr (.conv .t .agg) (by kernel_rfl) (by kernel_rfl) (by kernel_rfl)) r2 r1
      (cF rfl (o_assign .t (by rfl)) r1 trivial
      Chain.nil))))))))))
      (by kernel_rfl) (by rw [hB]; kernel_rfl) ?_
    clear hS; intro a w F hS
    obtain ⟨F, hS⟩ := hS.norm [(0, _), (1, _), (4, _), (5, _), (6, _)] [(0, _), (1, _)] r5 r2
    try dsimp only [List.map, stCells, List.length_cons, List.length_nil, Nat.reduceAdd, List.drop_succ_cons, List.drop_zero, List.drop_nil, List.take_succ_cons, List.take_zero, List.take_nil, List.cons_append, List.nil_append, zCF] at hS
    refine then_n ?_
    refine wp_seq ?_
    refine region_seq hS (by kernel_rfl)
      (cF rfl (o_move .t (by rfl)) r1 trivial
      (cF rfl (o_assign .t (by rfl)) r1 trivial
      Chain.nil))
      (by kernel_rfl) (by rw [hB]; kernel_rfl) ?_
    clear hS; intro a w F hS
    obtain ⟨F, hS⟩ := hS.norm [(0, _), (1, _), (4, _), (5, _), (6, _)] [(0, _), (1, _)] r5 r2
    refine then_n ?_
    refine wp_ret ?_
    refine block_r ?_
    refine then_r ?_
    replace hS := hS.turn 1 rfl (r' := RS.hp (blkH 44 ((rCmd (fillR k l).1).map CF.pv) (.pointer (some ⟨b, 0, none⟩)))) (fun τ w f y h => pt_blk rfl τ w f y (by rw [hr]; exact h))
    refine ret_G1 hG hS rfl (.tmp rfl .nil) (.one (.int (by rw [hr]))) rfl
   ·skip
    have hnk := of_decide_eq_false hc2
    refine wp_seq ?_
    refine region_seq hS (by kernel_rfl)
      (cF rfl (o_eql .t (.ci (by kernel_rfl))) r1 trivial
      (cF rfl (o_assign .t (by rfl)) r1 trivial
      Chain.nil))
      (by kernel_rfl) (by rw [hB]; kernel_rfl) ?_
    clear hS; intro a w F hS
    obtain ⟨F, hS⟩ := hS.norm [(0, _), (1, _), (4, _), (5, _), (6, _), (23, _)] [(0, _), (1, _)] r6 r2
    refine then_n ?_
    refine cond_b hS rfl (fun hc3 => ?_) (fun hc3 => ?_)
    ·skip
     have hk := of_decide_eq_true hc3
     have hlm : 1 ≤ l.length := by subst hk; have h9 : (2 : Int) ≤ (l.length : Int) + 1 := hl; omega
     refine wp_seq ?_
     refine region_seq hS (by kernel_rfl)
       (cF rfl (o_move .t (by rfl)) r1 trivial
       (cF rfl (o_move .t (by rfl)) r1 trivial
       (cF rfl (o_indexAddr_sl (sz := 1) (.mk Tryd.underlying53 (by kernel_rfl)) (by intro x; rfl) .t (.ci (by kernel_rfl)) (by decide) (by omega)) r1 trivial
       (cF rfl (o_load_ref (ag := false) (sz := 1) .t (by kernel_rfl) (by kernel_rfl) (by kernel_rfl)) r1 trivial
       (cF rfl (o_callP (phen_c (nth l 0)) Tryd.func57 rfl (by kernel_rfl) (Args.one .t)) r1 trivial
       (cF rfl (o_nilCheck 1 .is (by rfl)) r1 r1
       (cF rfl (o_fieldAddr (off := 9) 1 .adr (by kernel_rfl) (by rfl)) r1 r1
       (cF rfl (o_store1 1 .adr .t one_int (by kernel_rfl) (by kernel_rfl)) r2 r1
       Chain.nil))))))))
       (by kernel_rfl) (by rw [hB]; kernel_rfl) ?_
     clear hS; intro a w F hS
     obtain ⟨F, hS⟩ := hS.norm [(0, _), (1, _), (4, _), (5, _), (6, _)] [(0, _), (1, _)] r5 r2
     try dsimp only [List.map, stCells, List.length_cons, List.length_nil, Nat.reduceAdd, List.drop_succ_cons, List.drop_zero, List.drop_nil, List.take_succ_cons, List.take_zero, List.take_nil, List.cons_append, List.nil_append, zCF, ldSF] at hS
     refine then_n ?_
     refine wp_seq ?_
     refine wp_seq ?_
     refine region_seq hS (by kernel_rfl)
       (cF rfl (o_move .t (by rfl)) r1 trivial
       (cF rfl (o_nilCheck 1 .is (by rfl)) r1 r1
       (cF rfl (o_fieldAddr (off := 9) 1 .adr (by kernel_rfl) (by rfl)) r1 r1
       (cF rfl (o_load (ag := false) (sz := 1) 1 .adr (by kernel_rfl) (by kernel_rfl) (by kernel_rfl) (by rfl)) r1 r1
       (cF rfl (o_eql .t (.ci (by kernel_rfl))) r1 trivial
       Chain.nil)))))
       (by kernel_rfl) (by rw [hB]; kernel_rfl) ?_
     clear hS; intro a w F hS
     obtain ⟨F, hS⟩ := hS.norm [(0, _), (1, _), (4, _), (5, _), (6, _), (36, _)] [(0, _), (1, _)] r6 r2
     try dsimp only [List.map, List.drop_succ_cons, List.drop_zero, List.drop_nil, List.take_succ_cons, List.take_zero, List.take_nil, ldSF] at hS
     refine then_n ?_
     refine cond_b hS rfl (fun hc4 => ?_) (fun hc4 => ?_)
     ·skip
      have hp : phenR (nth l 0) = 0 := by simpa using hc4
      have hr : fillR k l = ({zeroC k with phen := phenR (nth l 0)}, 11) := by unfold fillR; rw [if_neg (by omega), if_pos hk, if_pos hp]
      refine wp_seq ?_
      refine region_seq hS (by kernel_rfl)
        (cF rfl (o_assign (.ci (by kernel_rfl)) (by rfl)) trivial trivial
        Chain.nil)
        (by kernel_rfl) (by rw [hB]; kernel_rfl) ?_
      clear hS; intro a w F hS
      obtain ⟨F, hS⟩ := hS.norm [(0, _), (1, _), (4, _), (5, _), (6, _)] [(0, _), (1, _)] r5 r2
      refine then_n ?_
      refine wp_ret ?_
      refine then_r ?_
      refine block_r ?_
      refine then_r ?_
      replace hS := hS.turn 1 rfl (r' := RS.hp (blkH 44 ((rCmd (fillR k l).1).map CF.pv) (.pointer (some ⟨b, 0, none⟩)))) (fun τ w f y h => pt_blk rfl τ w f y (by rw [hr]; exact h))
      refine ret_G1 hG hS rfl (.tmp rfl .nil) (.one (.int (by rw [hr]))) rfl
     ·skip
      have hp : ¬ phenR (nth l 0) = 0 := by simpa using hc4
      have hr : fillR k l = ({zeroC k with phen := phenR (nth l 0)}, 0) := by unfold fillR; rw [if_neg (by omega), if_pos hk, if_neg hp]
      refine wp_skip ?_
      refine then_n ?_
      refine wp_seq ?_
      refine region_seq hS (by kernel_rfl)
        (cF rfl (o_assign (.ci (by kernel_rfl)) (by rfl)) trivial trivial
        Chain.nil)
        (by kernel_rfl) (by rw [hB]; kernel_rfl) ?_
      clear hS; intro a w F hS
      obtain ⟨F, hS⟩ := hS.norm [(0, _), (1, _), (4, _), (5, _), (6, _)] [(0, _), (1, _)] r5 r2
      refine then_n ?_
      refine wp_ret ?_
      refine block_r ?_
      refine then_r ?_
      replace hS := hS.turn 1 rfl (r' := RS.hp (blkH 44 ((rCmd (fillR k l).1).map CF.pv) (.pointer (some ⟨b, 0, none⟩)))) (fun τ w f y h => pt_blk rfl τ w f y (by rw [hr]; exact h))
      refine ret_G1 hG hS rfl (.tmp rfl .nil) (.one (.int (by rw [hr]))) rfl
    ·skip
     have hnk := of_decide_eq_false hc3
     refine wp_skip ?_
     refine block_n ?_
     refine then_n ?_
     refine wp_seq ?_
     refine region_seq hS (by kernel_rfl)
       (cF rfl (o_move .t (by rfl)) r1 trivial
       (cF rfl (o_callP (numbers_c l hs hn) Tryd.func58 rfl (by kernel_rfl) (Args.one .t)) r1 trivial
       (cF rfl (o_move .t (by rfl)) r1 trivial
       (cF rfl (o_extract .t rfl) r1 trivial
       (cF rfl (o_extract .t rfl) r1 trivial
       (cF rfl (o_assign .t (by rfl)) r1 trivial
       (cF rfl (o_assign .t (by rfl)) r1 trivial
       Chain.nil)))))))
       (by kernel_rfl) (by rw [hB]; kernel_rfl) ?_
     clear hS; intro a w F hS
     obtain ⟨F, hS⟩ := hS.norm [(0, _), (4, _), (5, _), (6, _)] [(0, _), (1, _)] r4 r2
     refine then_n ?_
     refine wp_seq ?_
     refine wp_seq ?_
     refine region_seq hS (by kernel_rfl)
       (cF rfl (o_move .t (by rfl)) r1 trivial
       (cF rfl (o_neq .t (.ci (by kernel_rfl))) r1 trivial
       Chain.nil))
       (by kernel_rfl) (by rw [hB]; kernel_rfl) ?_
     clear hS; intro a w F hS
     obtain ⟨F, hS⟩ := hS.norm [(0, _), (4, _), (5, _), (6, _), (43, _)] [(0, _), (1, _)] r5 r2
     refine then_n ?_
     refine cond_b hS rfl (fun hc5 => ?_) (fun hc5 => ?_)
     ·skip
      have hw : (numsR l).2 ≠ 0 := by simpa using hc5
      have hr : fillR k l = (zeroC k, (numsR l).2) := by unfold fillR; rw [if_neg (by omega), if_neg (by omega), if_pos hw]
      refine wp_seq ?_
      refine region_seq hS (by kernel_rfl)
        (cF rfl (o_move .t (by rfl)) r1 trivial
        (cF rfl (o_assign .t (by rfl)) r1 trivial
        Chain.nil))
        (by kernel_rfl) (by rw [hB]; kernel_rfl) ?_
      clear hS; intro a w F hS
      obtain ⟨F, hS⟩ := hS.norm [(0, _), (4, _), (6, _)] [(0, _), (1, _)] r3 r2
      refine then_n ?_
      refine wp_ret ?_
      refine then_r ?_
      replace hS := hS.turn 1 rfl (r' := RS.hp (blkH 44 ((rCmd (fillR k l).1).map CF.pv) (.pointer (some ⟨b, 0, none⟩)))) (fun τ w f y h => pt_blk rfl τ w f y (by rw [hr]; exact h))
      refine ret_G1 hG hS rfl (.tmp rfl .nil) (.one (.int (by rw [hr]))) rfl
     ·skip
      have hw : ¬ (numsR l).2 ≠ 0 := by simpa using hc5
      have hnl : (numsR l).1.length = l.length := by rw [(nums_len (Classical.not_not.1 hw)).1, vals_len]
      refine wp_skip ?_
      refine then_n ?_
      refine wp_seq ?_
      refine wp_seq ?_
      refine region_seq hS (by kernel_rfl)
        (cF rfl (o_move .t (by rfl)) r1 trivial
        (cF rfl (o_nilCheck 1 .is (by rfl)) r1 r1
        (cF rfl (o_fieldAddr (off := 0) 1 .adr (by kernel_rfl) (by rfl)) r1 r1
        (cF rfl (o_load (ag := false) (sz := 1) 1 .adr (by kernel_rfl) (by kernel_rfl) (by kernel_rfl) (by rfl)) r1 r1
        Chain.nil))))
        (by kernel_rfl) (by rw [hB]; kernel_rfl) ?_
      clear hS; intro a w F hS
      obtain ⟨F, hS⟩ := hS.norm [(0, _), (4, _), (6, _), (48, _)] [(0, _), (1, _)] r4 r2
      try dsimp only [List.map, List.drop_succ_cons, List.drop_zero, List.drop_nil, List.take_succ_cons, List.take_zero, List.take_nil, ldSF] at hS
      refine then_n ?_
      refine wp_block ?_
      refine wp_seq ?_
      refine wp_seq ?_
      refine region_seq hS (by kernel_rfl)
        (cF rfl (o_eql .t (.ci (by kernel_rfl))) r1 trivial
        (cF rfl (o_assign .t (by rfl)) r1 trivial
        Chain.nil))
        (by kernel_rfl) (by rw [hB]; kernel_rfl) ?_
      clear hS; intro a w F hS
      obtain ⟨F, hS⟩ := hS.norm [(0, _), (4, _), (6, _), (48, _), (49, _)] [(0, _), (1, _)] r5 r2
      refine then_n ?_
      refine cond_b hS rfl (fun hc6 => ?_) (fun hc6 => ?_)
      ·skip
       have hk : k = 3 ∨ k = 10 := by first | exact .inl (of_decide_eq_true hc6) | exact .inr (of_decide_eq_true hc6)
       have hlm : 1 ≤ l.length := by
         rcases hk with hk | hk
         · subst hk; have h9 : (2 : Int) ≤ (l.length : Int) + 1 := hl; omega
         · subst hk; have h9 : (2 : Int) ≤ (l.length : Int) + 1 := hl; omega
       have hr : fillR k l = ({zeroC k with id := nth (numsR l).1 0}, 0) := by unfold fillR; rw [if_neg (by omega), if_neg (by omega), if_neg hw, if_pos hk]
       refine wp_skip ?_
       refine then_n ?_
       refine cond_b hS rfl (fun hc7 => ?_) (fun hc7 => ?_)
       ·skip
        have hk : k = 3 ∨ k = 10 := by first | exact .inl (of_decide_eq_true hc7) | exact .inr (of_decide_eq_true hc7)
        have hlm : 1 ≤ l.length := by
          rcases hk with hk | hk
          · subst hk; have h9 : (2 : Int) ≤ (l.length : Int) + 1 := hl; omega
          · subst hk; have h9 : (2 : Int) ≤ (l.length : Int) + 1 := hl; omega
        have hr : fillR k l = ({zeroC k with id := nth (numsR l).1 0}, 0) := by unfold fillR; rw [if_neg (by omega), if_neg (by omega), if_neg hw, if_pos hk]
        refine region_seq hS (by kernel_rfl)
          (cF rfl (o_move .t (by rfl)) r1 trivial
          (cF rfl (o_move .t (by rfl)) r1 trivial
          (cF rfl (o_indexAddr_sl (sz := 1) (.mk Tryd.underlying40 (by kernel_rfl)) (by intro x; rfl) .t (.ci (by kernel_rfl)) (by decide) (by omega)) r1 trivial
          (cF rfl (o_load_ref (ag := false) (sz := 1) .t (by kernel_rfl) (by kernel_rfl) (by kernel_rfl)) r1 trivial
          (cF rfl (o_nilCheck 1 .is (by rfl)) r1 r1
          (cF rfl (o_fieldAddr (off := 7) 1 .adr (by kernel_rfl) (by rfl)) r1 r1
          (cF rfl (o_store1 1 .adr .t one_int (by kernel_rfl) (by kernel_rfl)) r2 r1
          Chain.nil)))))))
          (by kernel_rfl) (by rw [hB]; kernel_rfl) ?_
        clear hS; intro a w F hS
        obtain ⟨F, hS⟩ := hS.norm [(4, _)] [(0, _), (1, _)] r1 r2
        try dsimp only [List.map, stCells, List.length_cons, List.length_nil, Nat.reduceAdd, List.drop_succ_cons, List.drop_zero, List.drop_nil, List.take_succ_cons, List.take_zero, List.take_nil, List.cons_append, List.nil_append, zCF, ldSF] at hS
        refine block_n ?_
        refine then_n ?_
        refine wp_seq ?_
        refine region_seq hS (by kernel_rfl)
          (cF rfl (o_assign (.ci (by kernel_rfl)) (by rfl)) trivial trivial
          Chain.nil)
          (by kernel_rfl) (by rw [hB]; kernel_rfl) ?_
        clear hS; intro a w F hS
        obtain ⟨F, hS⟩ := hS.norm [(4, _)] [(0, _), (1, _)] r1 r2
        refine then_n ?_
        refine wp_ret ?_
        replace hS := hS.turn 1 rfl (r' := RS.hp (blkH 44 ((rCmd (fillR k l).1).map CF.pv) (.pointer (some ⟨b, 0, none⟩)))) (fun τ w f y h => pt_blk rfl τ w f y (by rw [hr]; exact h))
        refine ret_G1 hG hS rfl (.tmp rfl .nil) (.one (.int (by rw [hr]))) rfl
       ·exact Bool.noConfusion (hc6.symm.trans hc7)
      ·skip
       have hnk := of_decide_eq_false hc6
       refine region_seq hS (by kernel_rfl)
         (cF rfl (o_eql .t (.ci (by kernel_rfl))) r1 trivial
         (cF rfl (o_assign .t (by rfl)) r1 trivial
         Chain.nil))
         (by kernel_rfl) (by rw [hB]; kernel_rfl) ?_
       clear hS; intro a w F hS
       obtain ⟨F, hS⟩ := hS.norm [(0, _), (4, _), (6, _), (48, _), (49, _)] [(0, _), (1, _)] r5 r2
       refine then_n ?_
       refine cond_b hS rfl (fun hc8 => ?_) (fun hc8 => ?_)
       ·skip
        have hk : k = 3 ∨ k = 10 := by first | exact .inl (of_decide_eq_true hc8) | exact .inr (of_decide_eq_true hc8)
        have hlm : 1 ≤ l.length := by
          rcases hk with hk | hk
          · subst hk; have h9 : (2 : Int) ≤ (l.length : Int) + 1 := hl; omega
          · subst hk; have h9 : (2 : Int) ≤ (l.length : Int) + 1 := hl; omega
        have hr : fillR k l = ({zeroC k with id := nth (numsR l).1 0}, 0) := by unfold fillR; rw [if_neg (by omega), if_neg (by omega), if_neg hw, if_pos hk]
        refine region_seq hS (by kernel_rfl)
          (cF rfl (o_move .t (by rfl)) r1 trivial
          (cF rfl (o_move .t (by rfl)) r1 trivial
          (cF rfl (o_indexAddr_sl (sz := 1) (.mk Tryd.underlying40 (by kernel_rfl)) (by intro x; rfl) .t (.ci (by kernel_rfl)) (by decide) (by omega)) r1 trivial
          (cF rfl (o_load_ref (ag := false) (sz := 1) .t (by kernel_rfl) (by kernel_rfl) (by kernel_rfl)) r1 trivial
          (cF rfl (o_nilCheck 1 .is (by rfl)) r1 r1
          (cF rfl (o_fieldAddr (off := 7) 1 .adr (by kernel_rfl) (by rfl)) r1 r1
          (cF rfl (o_store1 1 .adr .t one_int (by kernel_rfl) (by kernel_rfl)) r2 r1
          Chain.nil)))))))
          (by kernel_rfl) (by rw [hB]; kernel_rfl) ?_
        clear hS; intro a w F hS
        obtain ⟨F, hS⟩ := hS.norm [(4, _)] [(0, _), (1, _)] r1 r2
        try dsimp only [List.map, stCells, List.length_cons, List.length_nil, Nat.reduceAdd, List.drop_succ_cons, List.drop_zero, List.drop_nil, List.take_succ_cons, List.take_zero, List.take_nil, List.cons_append, List.nil_append, zCF, ldSF] at hS
        refine block_n ?_
        refine then_n ?_
        refine wp_seq ?_
        refine region_seq hS (by kernel_rfl)
          (cF rfl (o_assign (.ci (by kernel_rfl)) (by rfl)) trivial trivial
          Chain.nil)
          (by kernel_rfl) (by rw [hB]; kernel_rfl) ?_
        clear hS; intro a w F hS
        obtain ⟨F, hS⟩ := hS.norm [(4, _)] [(0, _), (1, _)] r1 r2
        refine then_n ?_
        refine wp_ret ?_
        replace hS := hS.turn 1 rfl (r' := RS.hp (blkH 44 ((rCmd (fillR k l).1).map CF.pv) (.pointer (some ⟨b, 0, none⟩)))) (fun τ w f y h => pt_blk rfl τ w f y (by rw [hr]; exact h))
        refine ret_G1 hG hS rfl (.tmp rfl .nil) (.one (.int (by rw [hr]))) rfl
       ·skip
        have hnk := of_decide_eq_false hc8
        refine wp_seq ?_
        refine region_seq hS (by kernel_rfl)
          (cF rfl (o_eql .t (.ci (by kernel_rfl))) r1 trivial
          (cF rfl (o_assign .t (by rfl)) r1 trivial
          Chain.nil))
          (by kernel_rfl) (by rw [hB]; kernel_rfl) ?_
        clear hS; intro a w F hS
        obtain ⟨F, hS⟩ := hS.norm [(0, _), (4, _), (6, _), (48, _), (58, _)] [(0, _), (1, _)] r5 r2
        refine then_n ?_
        refine cond_b hS rfl (fun hc9 => ?_) (fun hc9 => ?_)
        ·skip
         have hk := of_decide_eq_true hc9
         have hlm : 1 ≤ l.length := by subst hk; have h9 : (2 : Int) ≤ (l.length : Int) + 1 := hl; omega
         have hr : fillR k l = ({zeroC k with order := ⟨nth (numsR l).1 0, (numsR l).1.drop 1⟩}, 0) := by unfold fillR; rw [if_neg (by omega), if_neg (by omega), if_neg hw, if_neg (by omega), if_pos hk]
         refine region_any (by kernel_rfl) hS (by kernel_rfl)
           (cF rfl (o_move .t (by rfl)) r1 trivial
           (cF rfl (o_move .t (by rfl)) r1 trivial
           (cF rfl (o_indexAddr_sl (sz := 1) (.mk Tryd.underlying40 (by kernel_rfl)) (by intro x; rfl) .t (.ci (by kernel_rfl)) (by decide) (by omega)) r1 trivial
           (cF rfl (o_load_ref (ag := false) (sz := 1) .t (by kernel_rfl) (by kernel_rfl) (by kernel_rfl)) r1 trivial
           (cF rfl (o_move .t (by rfl)) r1 trivial
           (cF rfl (o_slice_lo (sz := 1) (.mk Tryd.underlying40 (by kernel_rfl)) (by intro x; rfl) .t (.ci (by kernel_rfl)) (by decide) (by omega)) r1 trivial
           (cF rfl (o_build (r := [(0, .tmp 63), (1, .tmp 65)]) (zs := [.int .i64 0, .slice none 0 0]) (pl := [(0, 1), (1, 1)]) (by kernel_rfl) (by kernel_rfl) (.one rfl .t one_int (by kernel_rfl) (.one rfl .t one_sl (by kernel_rfl) .nil)) (by rfl)) r2 trivial
           (cF rfl (o_nilCheck 1 .is (by rfl)) r1 r1
           (cF rfl (o_fieldAddr (off := 4) 1 .adr (by kernel_rfl) (by rfl)) r1 r1
           (cF rfl (o_storeA (sz := 2) 1 .adr .t (by kernel_rfl) (by kernel_rfl) (by kernel_rfl)) r2 r1
           Chain.nil))))))))))
           (by kernel_rfl) (by rw [hB]; kernel_rfl) ?_
         clear hS; intro a w F hS
         obtain ⟨F, hS⟩ := hS.norm [(4, _)] [(0, _), (1, _)] r1 r2
         try dsimp only [List.map, stCells, List.length_cons, List.length_nil, Nat.reduceAdd, List.drop_succ_cons, List.drop_zero, List.drop_nil, List.take_succ_cons, List.take_zero, List.take_nil, List.cons_append, List.nil_append, zCF, ldSF] at hS
         refine block_n ?_
         refine then_n ?_
         refine wp_seq ?_
         refine region_seq hS (by kernel_rfl)
           (cF rfl (o_assign (.ci (by kernel_rfl)) (by rfl)) trivial trivial
           Chain.nil)
           (by kernel_rfl) (by rw [hB]; kernel_rfl) ?_
         clear hS; intro a w F hS
         obtain ⟨F, hS⟩ := hS.norm [(4, _)] [(0, _), (1, _)] r1 r2
         refine then_n ?_
         refine wp_ret ?_
         replace hS := hS.turn 1 rfl (r' := RS.hp (blkH 44 ((rCmd (fillR k l).1).map CF.pv) (.pointer (some ⟨b, 0, none⟩)))) (fun τ w f y h => pt_blk rfl τ w f y (by rw [hr]; exact h))
         refine ret_G1 hG hS rfl (.tmp rfl .nil) (.one (.int (by rw [hr]))) rfl
        ·skip
         have hnk := of_decide_eq_false hc9
         refine wp_seq ?_
         refine region_seq hS (by kernel_rfl)
           (cF rfl (o_eql .t (.ci (by kernel_rfl))) r1 trivial
           (cF rfl (o_assign .t (by rfl)) r1 trivial
           Chain.nil))
           (by kernel_rfl) (by rw [hB]; kernel_rfl) ?_
         clear hS; intro a w F hS
         obtain ⟨F, hS⟩ := hS.norm [(0, _), (4, _), (6, _), (69, _)] [(0, _), (1, _)] r4 r2
         refine then_n ?_
         refine cond_b hS rfl (fun hc10 => ?_) (fun hc10 => ?_)
         ·skip
          have hk := of_decide_eq_true hc10
          have hlm : 3 ≤ l.length := by subst hk; have h9 : (4 : Int) ≤ (l.length : Int) + 1 := hl; omega
          have hr : fillR k l = ({zeroC k with key := nth (numsR l).1 0, id := nth (numsR l).1 1, place := nth (numsR l).1 2}, 0) := by unfold fillR; rw [if_neg (by omega), if_neg (by omega), if_neg hw, if_neg (by omega), if_neg (by omega), if_pos hk]
          refine region_any (by kernel_rfl) hS (by kernel_rfl)
            (cF rfl (o_move .t (by rfl)) r1 trivial
            (cF rfl (o_move .t (by rfl)) r1 trivial
            (cF rfl (o_move .t (by rfl)) r1 trivial
            (cF rfl (o_move .t (by rfl)) r1 trivial
            (cF rfl (o_indexAddr_sl (sz := 1) (.mk Tryd.underlying40 (by kernel_rfl)) (by intro x; rfl) .t (.ci (by kernel_rfl)) (by decide) (by omega)) r1 trivial
            (cF rfl (o_load_ref (ag := false) (sz := 1) .t (by kernel_rfl) (by kernel_rfl) (by kernel_rfl)) r1 trivial
            (cF rfl (o_move .t (by rfl)) r1 trivial
            (cF rfl (o_indexAddr_sl (sz := 1) (.mk Tryd.underlying40 (by kernel_rfl)) (by intro x; rfl) .t (.ci (by kernel_rfl)) (by decide) (by omega)) r1 trivial
            (cF rfl (o_load_ref (ag := false) (sz := 1) .t (by kernel_rfl) (by kernel_rfl) (by kernel_rfl)) r1 trivial
            (cF rfl (o_move .t (by rfl)) r1 trivial
            (cF rfl (o_indexAddr_sl (sz := 1) (.mk Tryd.underlying40 (by kernel_rfl)) (by intro x; rfl) .t (.ci (by kernel_rfl)) (by decide) (by omega)) r1 trivial
            (cF rfl (o_load_ref (ag := false) (sz := 1) .t (by kernel_rfl) (by kernel_rfl) (by kernel_rfl)) r1 trivial
            (cF rfl (o_nilCheck 1 .is (by rfl)) r1 r1
            (cF rfl (o_fieldAddr (off := 6) 1 .adr (by kernel_rfl) (by rfl)) r1 r1
            (cF rfl (o_store1 1 .adr .t one_int (by kernel_rfl) (by kernel_rfl)) r2 r1
            (cF rfl (o_nilCheck 1 .is (by rfl)) r1 r1
            (cF rfl (o_fieldAddr (off := 7) 1 .adr (by kernel_rfl) (by rfl)) r1 r1
            (cF rfl (o_store1 1 .adr .t one_int (by kernel_rfl) (by kernel_rfl)) r2 r1
            (cF rfl (o_nilCheck 1 .is (by rfl)) r1 r1
            (cF rfl (o_fieldAddr (off := 8) 1 .adr (by kernel_rfl) (by rfl)) r1 r1
            (cF rfl (o_store1 1 .adr .t one_int (by kernel_rfl) (by kernel_rfl)) r2 r1
            Chain.nil)))))))))))))))))))))
            (by kernel_rfl) (by rw [hB]; kernel_rfl) ?_
          clear hS; intro a w F hS
          obtain ⟨F, hS⟩ := hS.norm [(4, _)] [(0, _), (1, _)] r1 r2
          try dsimp only [List.map, stCells, List.length_cons, List.length_nil, Nat.reduceAdd, List.drop_succ_cons, List.drop_zero, List.drop_nil, List.take_succ_cons, List.take_zero, List.take_nil, List.cons_append, List.nil_append, zCF, ldSF] at hS
          refine block_n ?_
          refine then_n ?_
          refine wp_seq ?_
          refine region_seq hS (by kernel_rfl)
            (cF rfl (o_assign (.ci (by kernel_rfl)) (by rfl)) trivial trivial
            Chain.nil)
            (by kernel_rfl) (by rw [hB]; kernel_rfl) ?_
          clear hS; intro a w F hS
          obtain ⟨F, hS⟩ := hS.norm [(4, _)] [(0, _), (1, _)] r1 r2
          refine then_n ?_
          refine wp_ret ?_
          replace hS := hS.turn 1 rfl (r' := RS.hp (blkH 44 ((rCmd (fillR k l).1).map CF.pv) (.pointer (some ⟨b, 0, none⟩)))) (fun τ w f y h => pt_blk rfl τ w f y (by rw [hr]; exact h))
          refine ret_G1 hG hS rfl (.tmp rfl .nil) (.one (.int (by rw [hr]))) rfl
         ·skip
          have hnk := of_decide_eq_false hc10
          have hr : fillR k l = (zeroC k, 0) := by unfold fillR; rw [if_neg (by omega), if_neg (by omega), if_neg hw, if_neg (by omega), if_neg (by omega), if_neg (by omega)]
          refine wp_skip ?_
          refine block_n ?_
          refine then_n ?_
          refine wp_seq ?_
          refine region_seq hS (by kernel_rfl)
            (cF rfl (o_assign (.ci (by kernel_rfl)) (by rfl)) trivial trivial
            Chain.nil)
            (by kernel_rfl) (by rw [hB]; kernel_rfl) ?_
          clear hS; intro a w F hS
          obtain ⟨F, hS⟩ := hS.norm [(4, _)] [(0, _), (1, _)] r1 r2
          refine then_n ?_
          refine wp_ret ?_
          replace hS := hS.turn 1 rfl (r' := RS.hp (blkH 44 ((rCmd (fillR k l).1).map CF.pv) (.pointer (some ⟨b, 0, none⟩)))) (fun τ w f y h => pt_blk rfl τ w f y (by rw [hr]; exact h))
          refine ret_G1 hG hS rfl (.tmp rfl .nil) (.one (.int (by rw [hr]))) rfl

theorem mem_len {l : List (List UInt8)} {x : List UInt8} (h : x ∈ l) : x.length ≤ sumL l := by
  unfold sumL
  induction l with
  | nil => simp at h
  | cons y r ih =>
    rw [List.map_cons, List.sum_cons]
    rcases List.mem_cons.1 h with rfl | h
    · omega
    · have := ih h; omega

theorem parse_c (s0 : List UInt8) (hs : s0.length ≤ 1000000) : FnP Tryd.prog 21 [.bs s0] (.tup [.agg (rCmd (parseR s0).1), .int .i64 (parseR s0).2]) := by
  refine FnP.mk Tryd.func21 rfl Tryd.ntmps21 rfl ?_
  intro B a w F hB hfr hS
  have hws := words_small s0
  refine wp_seq ?_
  refine region_seq hS (by kernel_rfl)
    (cF rfl (o_alloc (zs := [.int .i64 0, .int .i64 0, .bool false, .slice none 0 0, .int .i64 0, .slice none 0 0, .int .i64 0, .int .i64 0, .int .i64 0, .int .i64 0]) 101 (by kernel_rfl)) trivial trivial
    (cF rfl (o_assign (.ci (by kernel_rfl)) (by rfl)) trivial trivial
    Chain.nil))
    (by kernel_rfl) (by rw [hB]; kernel_rfl) ?_
  clear hS; intro a w F hS
  replace hS := hS.sub
  obtain ⟨F, hS⟩ := hS.norm [(0, _), (2, _), (3, _)] [(0, _), (101, _)] r3 r2
  try dsimp only [RS.sub, SF.sub, CF.sub, csub, Anc.sub, List.map, zCF] at hS
  generalize Act.tau a 2 = v2 at hS
  refine then_n ?_
  refine wp_seq ?_
  refine region_seq hS (by kernel_rfl)
    (cF rfl (o_move .t (by rfl)) r1 trivial
    (cF rfl (o_callP (lwords_c s0 hs) Tryd.func41 rfl (by kernel_rfl) (Args.one .t)) r1 trivial
    (cF rfl (o_move .t (by rfl)) r1 trivial
    (cF rfl (o_extract .t rfl) r1 trivial
    (cF rfl (o_extract .t rfl) r1 trivial
    (cF rfl (o_assign .t (by rfl)) r1 trivial
    (cF rfl (o_assign .t (by rfl)) r1 trivial
    Chain.nil)))))))
    (by kernel_rfl) (by rw [hB]; kernel_rfl) ?_
  clear hS; intro a w F hS
  obtain ⟨F, hS⟩ := hS.norm [(2, _), (3, _), (4, _), (5, _)] [(0, _), (101, _)] r4 r2
  refine then_n ?_
  refine wp_seq ?_
  refine wp_block ?_
  refine wp_seq ?_
  refine region_seq hS (by kernel_rfl)
    (cF rfl (o_move .t (by rfl)) r1 trivial
    (cF rfl (o_neq .t (.ci (by kernel_rfl))) r1 trivial
    (cF rfl (o_assign .t (by rfl)) r1 trivial
    Chain.nil)))
    (by kernel_rfl) (by rw [hB]; kernel_rfl) ?_
  clear hS; intro a w F hS
  obtain ⟨F, hS⟩ := hS.norm [(2, _), (3, _), (4, _), (5, _), (14, _)] [(0, _), (101, _)] r5 r2
  refine then_n ?_
  refine cond_b hS rfl (fun hc0 => ?_) (fun hc0 => ?_)
  ·skip
   have hw : (wordsR s0).2 ≠ 0 := by simpa using hc0
   have hr : parseR s0 = (zeroC 0, (wordsR s0).2) := by unfold parseR; rw [if_pos hw]
   refine wp_seq ?_
   refine region_seq hS (by kernel_rfl)
     (cF rfl (o_build (r := []) (zs := [.int .i64 0, .int .i64 0, .bool false, .slice none 0 0, .int .i64 0, .slice none 0 0, .int .i64 0, .int .i64 0, .int .i64 0, .int .i64 0]) (pl := [(0, 1), (1, 3), (4, 2), (6, 1), (7, 1), (8, 1), (9, 1)]) (by kernel_rfl) (by kernel_rfl) .nil (by rfl)) trivial trivial
     (cF rfl (o_move .t (by rfl)) r1 trivial
     (cF rfl (o_storeA (sz := 10) 101 .is .t (by kernel_rfl) (by kernel_rfl) (by kernel_rfl)) r2 r1
     (cF rfl (o_assign .t (by rfl)) r1 trivial
     Chain.nil))))
     (by kernel_rfl) (by rw [hB]; kernel_rfl) ?_
   clear hS; intro a w F hS
   obtain ⟨F, hS⟩ := hS.norm [(2, _), (3, _), (4, _)] [(0, _), (101, _)] r3 r2
   try dsimp only [List.map, stCells, List.length_cons, List.length_nil, Nat.reduceAdd, List.drop_succ_cons, List.drop_zero, List.drop_nil, List.take_succ_cons, List.take_zero, List.take_nil, List.cons_append, List.nil_append, zCF] at hS
   refine then_n ?_
   refine wp_ret ?_
   refine block_r ?_
   refine then_r ?_
   refine ret_P hfr hS rfl (.cell (n := 101) (ag := true) (sz := 10) rfl .is rfl (by kernel_rfl) (by kernel_rfl) (by kernel_rfl) (.tmp rfl .nil)) (.two (.aggLe rfl (by rw [hr]; exact (by refine ⟨?_, ?_, ?_, ?_, ?_, ?_, ?_, ?_, ?_, ?_, trivial⟩ <;> first | exact PVLe.refl | exact PVLe.nilSl))) (.int (by rw [hr])))
  ·skip
   have hw : ¬ (wordsR s0).2 ≠ 0 := by simpa using hc0
   have hp : parseR s0 = parseW (wordsR s0).1 := by unfold parseR; rw [if_neg hw]
   refine wp_seq ?_
   refine region_seq hS (by kernel_rfl)
     (cF rfl (o_move .t (by rfl)) r1 trivial
     (cF rfl (o_len_sl Tryd.underlying53 .t) r1 trivial
     (cF rfl (o_eql .t (.ci (by kernel_rfl))) r1 trivial
     (cF rfl (o_assign .t (by rfl)) r1 trivial
     Chain.nil))))
     (by kernel_rfl) (by rw [hB]; kernel_rfl) ?_
   clear hS; intro a w F hS
   obtain ⟨F, hS⟩ := hS.norm [(2, _), (3, _), (4, _), (19, _)] [(0, _), (101, _)] r4 r2
   refine then_n ?_
   refine cond_b hS rfl (fun hc1 => ?_) (fun hc1 => ?_)
   ·skip
    have he : (wordsR s0).1 = [] := List.eq_nil_of_length_eq_zero (by have h9 := of_decide_eq_true hc1; omega)
    have hr : parseR s0 = (zeroC 0, 12) := by rw [hp]; unfold parseW; rw [if_pos he]
    refine wp_seq ?_
    refine region_seq hS (by kernel_rfl)
      (cF rfl (o_build (r := []) (zs := [.int .i64 0, .int .i64 0, .bool false, .slice none 0 0, .int .i64 0, .slice none 0 0, .int .i64 0, .int .i64 0, .int .i64 0, .int .i64 0]) (pl := [(0, 1), (1, 3), (4, 2), (6, 1), (7, 1), (8, 1), (9, 1)]) (by kernel_rfl) (by kernel_rfl) .nil (by rfl)) trivial trivial
      (cF rfl (o_storeA (sz := 10) 101 .is .t (by kernel_rfl) (by kernel_rfl) (by kernel_rfl)) r2 r1
      (cF rfl (o_assign (.ci (by kernel_rfl)) (by rfl)) trivial trivial
      Chain.nil)))
      (by kernel_rfl) (by rw [hB]; kernel_rfl) ?_
    clear hS; intro a w F hS
    obtain ⟨F, hS⟩ := hS.norm [(2, _), (3, _), (4, _)] [(0, _), (101, _)] r3 r2
    try dsimp only [List.map, stCells, List.length_cons, List.length_nil, Nat.reduceAdd, List.drop_succ_cons, List.drop_zero, List.drop_nil, List.take_succ_cons, List.take_zero, List.take_nil, List.cons_append, List.nil_append, zCF] at hS
    refine then_n ?_
    refine wp_ret ?_
    refine block_r ?_
    refine then_r ?_
    refine ret_P hfr hS rfl (.cell (n := 101) (ag := true) (sz := 10) rfl .is rfl (by kernel_rfl) (by kernel_rfl) (by kernel_rfl) (.tmp rfl .nil)) (.two (.aggLe rfl (by rw [hr]; exact (by refine ⟨?_, ?_, ?_, ?_, ?_, ?_, ?_, ?_, ?_, ?_, trivial⟩ <;> first | exact PVLe.refl | exact PVLe.nilSl))) (.int (by rw [hr])))
   ·skip
    have hlp : 0 < (wordsR s0).1.length := by have h9 := of_decide_eq_false hc1; omega
    have he : ¬ (wordsR s0).1 = [] := by intro h; rw [h] at hlp; simp at hlp
    refine wp_skip ?_
    refine block_n ?_
    refine then_n ?_
    refine wp_seq ?_
    refine region_seq hS (by kernel_rfl)
      (cF rfl (o_move .t (by rfl)) r1 trivial
      (cF rfl (o_indexAddr_sl (sz := 1) (.mk Tryd.underlying53 (by kernel_rfl)) (by intro x; rfl) .t (.ci (by kernel_rfl)) (by decide) (by omega)) r1 trivial
      (cF rfl (o_load_ref (ag := false) (sz := 1) .t (by kernel_rfl) (by kernel_rfl) (by kernel_rfl)) r1 trivial
      (cF rfl (o_callP (find_c (nth (wordsR s0).1 0)) Tryd.func42 rfl (by kernel_rfl) (Args.one .t)) r1 trivial
      (cF rfl (o_build (r := [(0, .tmp 27)]) (zs := [.int .i64 0, .int .i64 0, .bool false, .slice none 0 0, .int .i64 0, .slice none 0 0, .int .i64 0, .int .i64 0, .int .i64 0, .int .i64 0]) (pl := [(0, 1), (1, 3), (4, 2), (6, 1), (7, 1), (8, 1), (9, 1)]) (by kernel_rfl) (by kernel_rfl) (.one rfl .t one_int (by kernel_rfl) .nil) (by rfl)) r1 trivial
      (cF rfl (o_alloc (zs := [.int .i64 0, .int .i64 0, .bool false, .slice none 0 0, .int .i64 0, .slice none 0 0, .int .i64 0, .int .i64 0, .int .i64 0, .int .i64 0]) 102 (by kernel_rfl)) trivial trivial
      (cF rfl (o_storeA (sz := 10) 102 .same .t (by kernel_rfl) (by kernel_rfl) (by kernel_rfl)) r2 r1
      Chain.nil)))))))
      (by kernel_rfl) (by rw [hB]; kernel_rfl) ?_
    clear hS; intro a w F hS
    replace hS := hS.sub
    obtain ⟨F, hS⟩ := hS.norm [(2, _), (3, _), (4, _), (6, _)] [(0, _), (101, _), (102, _)] r4 r3
    try dsimp only [RS.sub, SF.sub, CF.sub, csub, Anc.sub, List.map, stCells, List.length_cons, List.length_nil, Nat.reduceAdd, List.drop_succ_cons, List.drop_zero, List.drop_nil, List.take_succ_cons, List.take_zero, List.take_nil, List.cons_append, List.nil_append, zCF, ldSF] at hS
    generalize Act.tau a 6 = v6 at hS
    obtain ⟨b, rfl⟩ := hS.shape 102 rfl
    replace hS := hS.turn 102 rfl (r' := .pt (.val (.pointer (some ⟨b, 0, none⟩))) 44 [.pv (.int .i64 (findK (nth (wordsR s0).1 0))), .pv (.int .i64 0), .pv (.bool false), .pv (.sl rOp []), .pv (.int .i64 0), .pv (.sl rInt []), .pv (.int .i64 0), .pv (.int .i64 0), .pv (.int .i64 0), .pv (.int .i64 0)]) (ptLe rfl rfl (by refine ⟨?_, ?_, ?_, ?_, ?_, ?_, ?_, ?_, ?_, ?_, trivial⟩ <;> first | exact PVLe.refl | exact PVLe.nilSl))
    obtain ⟨F, hS⟩ := hS.norm [(2, _), (3, _), (4, _), (6, _)] [(0, _), (101, _), (102, _)] r4 r3
    refine then_n ?_
    refine wp_seq ?_
    refine region_seq hS (by kernel_rfl)
      (cF rfl (o_fieldAddr (off := 0) 102 .is (by kernel_rfl) (by rfl)) r1 r1
      (cF rfl (o_load (ag := false) (sz := 1) 102 .adr (by kernel_rfl) (by kernel_rfl) (by kernel_rfl) (by rfl)) r1 r1
      (cF rfl (o_callP (said_c (findK (nth (wordsR s0).1 0))) Tryd.func35 rfl (by kernel_rfl) (Args.one .t)) r1 trivial
      (cF rfl (o_alloc (zs := [.string ⟨#[]⟩, .int .i64 0, .int .i64 0]) 103 (by kernel_rfl)) trivial trivial
      (cF rfl (o_storeA (sz := 3) 103 .same (.conv .t .agg) (by kernel_rfl) (by kernel_rfl) (by kernel_rfl)) r2 r1
      Chain.nil)))))
      (by kernel_rfl) (by rw [hB]; kernel_rfl) ?_
    clear hS; intro a w F hS
    replace hS := hS.sub
    obtain ⟨F, hS⟩ := hS.norm [(2, _), (3, _), (4, _), (6, _), (7, _)] [(0, _), (101, _), (102, _), (103, _)] r5 r4
    try dsimp only [RS.sub, SF.sub, CF.sub, csub, Anc.sub, List.map, stCells, List.length_cons, List.length_nil, Nat.reduceAdd, List.drop_succ_cons, List.drop_zero, List.drop_nil, List.take_succ_cons, List.take_zero, List.take_nil, List.cons_append, List.nil_append, zCF, ldSF] at hS
    generalize Act.tau a 7 = v7 at hS
    refine then_n ?_
    refine wp_seq ?_
    refine wp_block ?_
    refine wp_seq ?_
    refine region_seq hS (by kernel_rfl)
      (cF rfl (o_fieldAddr (off := 0) 102 .is (by kernel_rfl) (by rfl)) r1 r1
      (cF rfl (o_load (ag := false) (sz := 1) 102 .adr (by kernel_rfl) (by kernel_rfl) (by kernel_rfl) (by rfl)) r1 r1
      (cF rfl (o_eql .t (.ci (by kernel_rfl))) r1 trivial
      (cF rfl (o_assign .t (by rfl)) r1 trivial
      Chain.nil))))
      (by kernel_rfl) (by rw [hB]; kernel_rfl) ?_
    clear hS; intro a w F hS
    obtain ⟨F, hS⟩ := hS.norm [(2, _), (3, _), (4, _), (6, _), (7, _), (32, _)] [(0, _), (101, _), (102, _), (103, _)] r6 r4
    try dsimp only [List.map, List.drop_succ_cons, List.drop_zero, List.drop_nil, List.take_succ_cons, List.take_zero, List.take_nil, ldSF] at hS
    refine then_n ?_
    refine cond_b hS rfl (fun hc2 => ?_) (fun hc2 => ?_)
    ·skip
     have hk0 : (findK (nth (wordsR s0).1 0)) = 0 := of_decide_eq_true hc2
     have hr : parseR s0 = (zeroC 0, 11) := by rw [hp]; unfold parseW; rw [if_neg he, if_pos hk0]
     refine wp_seq ?_
     refine region_seq hS (by kernel_rfl)
       (cF rfl (o_build (r := []) (zs := [.int .i64 0, .int .i64 0, .bool false, .slice none 0 0, .int .i64 0, .slice none 0 0, .int .i64 0, .int .i64 0, .int .i64 0, .int .i64 0]) (pl := [(0, 1), (1, 3), (4, 2), (6, 1), (7, 1), (8, 1), (9, 1)]) (by kernel_rfl) (by kernel_rfl) .nil (by rfl)) trivial trivial
       (cF rfl (o_storeA (sz := 10) 101 .is .t (by kernel_rfl) (by kernel_rfl) (by kernel_rfl)) r2 r1
       (cF rfl (o_assign (.ci (by kernel_rfl)) (by rfl)) trivial trivial
       Chain.nil)))
       (by kernel_rfl) (by rw [hB]; kernel_rfl) ?_
     clear hS; intro a w F hS
     obtain ⟨F, hS⟩ := hS.norm [(2, _), (3, _), (4, _), (6, _)] [(0, _), (101, _), (102, _), (103, _)] r4 r4
     try dsimp only [List.map, stCells, List.length_cons, List.length_nil, Nat.reduceAdd, List.drop_succ_cons, List.drop_zero, List.drop_nil, List.take_succ_cons, List.take_zero, List.take_nil, List.cons_append, List.nil_append, zCF] at hS
     refine then_n ?_
     refine wp_ret ?_
     refine block_r ?_
     refine then_r ?_
     refine ret_P hfr hS rfl (.cell (n := 101) (ag := true) (sz := 10) rfl .is rfl (by kernel_rfl) (by kernel_rfl) (by kernel_rfl) (.tmp rfl .nil)) (.two (.aggLe rfl (by rw [hr]; exact (by refine ⟨?_, ?_, ?_, ?_, ?_, ?_, ?_, ?_, ?_, ?_, trivial⟩ <;> first | exact PVLe.refl | exact PVLe.nilSl))) (.int (by rw [hr])))
    ·skip
     have hk0 : ¬ (findK (nth (wordsR s0).1 0)) = 0 := of_decide_eq_false hc2
     refine wp_seq ?_
     refine region_seq hS (by kernel_rfl)
       (cF rfl (o_move .t (by rfl)) r1 trivial
       (cF rfl (o_len_sl Tryd.underlying53 .t) r1 trivial
       (cF rfl (o_fieldAddr (off := 1) 103 .is (by kernel_rfl) (by rfl)) r1 r1
       (cF rfl (o_load (ag := false) (sz := 1) 103 .adr (by kernel_rfl) (by kernel_rfl) (by kernel_rfl) (by rfl)) r1 r1
       (cF rfl (o_lss .t .t) r2 trivial
       (cF rfl (o_assign .t (by rfl)) r1 trivial
       Chain.nil))))))
       (by kernel_rfl) (by rw [hB]; kernel_rfl) ?_
     clear hS; intro a w F hS
     obtain ⟨F, hS⟩ := hS.norm [(2, _), (3, _), (4, _), (6, _), (7, _), (37, _)] [(0, _), (101, _), (102, _), (103, _)] r6 r4
     try dsimp only [List.map, List.drop_succ_cons, List.drop_zero, List.drop_nil, List.take_succ_cons, List.take_zero, List.take_nil, ldSF] at hS
     refine then_n ?_
     refine cond_b hS rfl (fun hc3 => ?_) (fun hc3 => ?_)
     ·skip
      have hk1 := of_decide_eq_true hc3
      have hr : parseR s0 = (zeroC 0, 12) := by rw [hp]; unfold parseW; rw [if_neg he, if_neg hk0, if_pos hk1]
      refine wp_seq ?_
      refine region_seq hS (by kernel_rfl)
        (cF rfl (o_build (r := []) (zs := [.int .i64 0, .int .i64 0, .bool false, .slice none 0 0, .int .i64 0, .slice none 0 0, .int .i64 0, .int .i64 0, .int .i64 0, .int .i64 0]) (pl := [(0, 1), (1, 3), (4, 2), (6, 1), (7, 1), (8, 1), (9, 1)]) (by kernel_rfl) (by kernel_rfl) .nil (by rfl)) trivial trivial
        (cF rfl (o_storeA (sz := 10) 101 .is .t (by kernel_rfl) (by kernel_rfl) (by kernel_rfl)) r2 r1
        (cF rfl (o_assign (.ci (by kernel_rfl)) (by rfl)) trivial trivial
        Chain.nil)))
        (by kernel_rfl) (by rw [hB]; kernel_rfl) ?_
      clear hS; intro a w F hS
      obtain ⟨F, hS⟩ := hS.norm [(2, _), (3, _), (4, _), (6, _)] [(0, _), (101, _), (102, _), (103, _)] r4 r4
      try dsimp only [List.map, stCells, List.length_cons, List.length_nil, Nat.reduceAdd, List.drop_succ_cons, List.drop_zero, List.drop_nil, List.take_succ_cons, List.take_zero, List.take_nil, List.cons_append, List.nil_append, zCF] at hS
      refine then_n ?_
      refine wp_ret ?_
      refine block_r ?_
      refine then_r ?_
      refine ret_P hfr hS rfl (.cell (n := 101) (ag := true) (sz := 10) rfl .is rfl (by kernel_rfl) (by kernel_rfl) (by kernel_rfl) (.tmp rfl .nil)) (.two (.aggLe rfl (by rw [hr]; exact (by refine ⟨?_, ?_, ?_, ?_, ?_, ?_, ?_, ?_, ?_, ?_, trivial⟩ <;> first | exact PVLe.refl | exact PVLe.nilSl))) (.int (by rw [hr])))
     ·skip
      have hk1 := of_decide_eq_false hc3
      refine wp_seq ?_
      refine region_seq hS (by kernel_rfl)
        (cF rfl (o_move .t (by rfl)) r1 trivial
        (cF rfl (o_len_sl Tryd.underlying53 .t) r1 trivial
        (cF rfl (o_fieldAddr (off := 2) 103 .is (by kernel_rfl) (by rfl)) r1 r1
        (cF rfl (o_load (ag := false) (sz := 1) 103 .adr (by kernel_rfl) (by kernel_rfl) (by kernel_rfl) (by rfl)) r1 r1
        (cF rfl (o_gtr .t .t) r2 trivial
        (cF rfl (o_assign .t (by rfl)) r1 trivial
        Chain.nil))))))
        (by kernel_rfl) (by rw [hB]; kernel_rfl) ?_
      clear hS; intro a w F hS
      obtain ⟨F, hS⟩ := hS.norm [(2, _), (3, _), (4, _), (6, _), (44, _)] [(0, _), (101, _), (102, _), (103, _)] r5 r4
      try dsimp only [List.map, List.drop_succ_cons, List.drop_zero, List.drop_nil, List.take_succ_cons, List.take_zero, List.take_nil, ldSF] at hS
      refine then_n ?_
      refine cond_b hS rfl (fun hc4 => ?_) (fun hc4 => ?_)
      ·skip
       have hk2 := of_decide_eq_true hc4
       have hr : parseR s0 = (zeroC 0, 13) := by rw [hp]; unfold parseW; rw [if_neg he, if_neg hk0, if_neg hk1, if_pos hk2]
       refine wp_seq ?_
       refine region_seq hS (by kernel_rfl)
         (cF rfl (o_build (r := []) (zs := [.int .i64 0, .int .i64 0, .bool false, .slice none 0 0, .int .i64 0, .slice none 0 0, .int .i64 0, .int .i64 0, .int .i64 0, .int .i64 0]) (pl := [(0, 1), (1, 3), (4, 2), (6, 1), (7, 1), (8, 1), (9, 1)]) (by kernel_rfl) (by kernel_rfl) .nil (by rfl)) trivial trivial
         (cF rfl (o_storeA (sz := 10) 101 .is .t (by kernel_rfl) (by kernel_rfl) (by kernel_rfl)) r2 r1
         (cF rfl (o_assign (.ci (by kernel_rfl)) (by rfl)) trivial trivial
         Chain.nil)))
         (by kernel_rfl) (by rw [hB]; kernel_rfl) ?_
       clear hS; intro a w F hS
       obtain ⟨F, hS⟩ := hS.norm [(2, _), (3, _), (4, _), (6, _)] [(0, _), (101, _), (102, _), (103, _)] r4 r4
       try dsimp only [List.map, stCells, List.length_cons, List.length_nil, Nat.reduceAdd, List.drop_succ_cons, List.drop_zero, List.drop_nil, List.take_succ_cons, List.take_zero, List.take_nil, List.cons_append, List.nil_append, zCF] at hS
       refine then_n ?_
       refine wp_ret ?_
       refine block_r ?_
       refine then_r ?_
       refine ret_P hfr hS rfl (.cell (n := 101) (ag := true) (sz := 10) rfl .is rfl (by kernel_rfl) (by kernel_rfl) (by kernel_rfl) (.tmp rfl .nil)) (.two (.aggLe rfl (by rw [hr]; exact (by refine ⟨?_, ?_, ?_, ?_, ?_, ?_, ?_, ?_, ?_, ?_, trivial⟩ <;> first | exact PVLe.refl | exact PVLe.nilSl))) (.int (by rw [hr])))
      ·skip
       have hk2 := of_decide_eq_false hc4
       have hdl : ((wordsR s0).1.drop 1).length = (wordsR s0).1.length - 1 := by rw [List.length_drop]
       refine wp_skip ?_
       refine block_n ?_
       refine then_n ?_
       refine wp_seq ?_
       refine wp_seq ?_
       refine region_seq hS (by kernel_rfl)
         (cF rfl (o_move .t (by rfl)) r1 trivial
         (cF rfl (o_slice_lo (sz := 1) (.mk Tryd.underlying53 (by kernel_rfl)) (by intro x; rfl) .t (.ci (by kernel_rfl)) (by decide) (by omega)) r1 trivial
         (cF rfl (o_callB (cells := [.pv _, .pv _, .pv _, .pv _, .pv _, .pv _, .pv _, .pv _, .pv _, .pv _]) (cells' := [.pv _, .pv _, .pv _, .pv _, .pv _, .pv _, .pv _, .pv _, .pv _, .pv _]) 102 rfl rfl (fill_c b (findK (nth (wordsR s0).1 0)) ((wordsR s0).1.drop 1) (fun x hx => by have := mem_len (List.mem_of_mem_drop hx); omega) (by omega) (by omega)) Tryd.func43 rfl (by kernel_rfl) (Args.two .t .t)) r2 r1
         (cF rfl (o_assign .t (by rfl)) r1 trivial
         Chain.nil))))
         (by kernel_rfl) (by rw [hB]; kernel_rfl) ?_
       clear hS; intro a w F hS
       obtain ⟨F, hS⟩ := hS.norm [(2, _), (3, _), (6, _), (8, _)] [(0, _), (101, _), (102, _), (103, _)] r4 r4
       refine then_n ?_
       refine wp_seq ?_
       refine region_seq hS (by kernel_rfl)
         (cF rfl (o_move .t (by rfl)) r1 trivial
         (cF rfl (o_neq .t (.ci (by kernel_rfl))) r1 trivial
         Chain.nil))
         (by kernel_rfl) (by rw [hB]; kernel_rfl) ?_
       clear hS; intro a w F hS
       obtain ⟨F, hS⟩ := hS.norm [(2, _), (3, _), (6, _), (8, _), (55, _)] [(0, _), (101, _), (102, _), (103, _)] r5 r4
       refine then_n ?_
       refine cond_b hS rfl (fun hc5 => ?_) (fun hc5 => ?_)
       ·skip
        have hk3 : (fillR (findK (nth (wordsR s0).1 0)) ((wordsR s0).1.drop 1)).2 ≠ 0 := by simpa using hc5
        have hr : parseR s0 = (zeroC 0, (fillR (findK (nth (wordsR s0).1 0)) ((wordsR s0).1.drop 1)).2) := by rw [hp]; unfold parseW; rw [if_neg he, if_neg hk0, if_neg hk1, if_neg hk2, if_pos hk3]
        refine wp_seq ?_
        refine region_seq hS (by kernel_rfl)
          (cF rfl (o_build (r := []) (zs := [.int .i64 0, .int .i64 0, .bool false, .slice none 0 0, .int .i64 0, .slice none 0 0, .int .i64 0, .int .i64 0, .int .i64 0, .int .i64 0]) (pl := [(0, 1), (1, 3), (4, 2), (6, 1), (7, 1), (8, 1), (9, 1)]) (by kernel_rfl) (by kernel_rfl) .nil (by rfl)) trivial trivial
          (cF rfl (o_move .t (by rfl)) r1 trivial
          (cF rfl (o_storeA (sz := 10) 101 .is .t (by kernel_rfl) (by kernel_rfl) (by kernel_rfl)) r2 r1
          (cF rfl (o_assign .t (by rfl)) r1 trivial
          Chain.nil))))
          (by kernel_rfl) (by rw [hB]; kernel_rfl) ?_
        clear hS; intro a w F hS
        obtain ⟨F, hS⟩ := hS.norm [(2, _), (3, _), (6, _)] [(0, _), (101, _), (102, _), (103, _)] r3 r4
        try dsimp only [List.map, stCells, List.length_cons, List.length_nil, Nat.reduceAdd, List.drop_succ_cons, List.drop_zero, List.drop_nil, List.take_succ_cons, List.take_zero, List.take_nil, List.cons_append, List.nil_append, zCF] at hS
        refine then_n ?_
        refine wp_ret ?_
        refine then_r ?_
        refine ret_P hfr hS rfl (.cell (n := 101) (ag := true) (sz := 10) rfl .is rfl (by kernel_rfl) (by kernel_rfl) (by kernel_rfl) (.tmp rfl .nil)) (.two (.aggLe rfl (by rw [hr]; exact (by refine ⟨?_, ?_, ?_, ?_, ?_, ?_, ?_, ?_, ?_, ?_, trivial⟩ <;> first | exact PVLe.refl | exact PVLe.nilSl))) (.int (by rw [hr])))
       ·skip
        have hk3 : ¬ (fillR (findK (nth (wordsR s0).1 0)) ((wordsR s0).1.drop 1)).2 ≠ 0 := by simpa using hc5
        have hr : parseR s0 = ((fillR (findK (nth (wordsR s0).1 0)) ((wordsR s0).1.drop 1)).1, 0) := by rw [hp]; unfold parseW; rw [if_neg he, if_neg hk0, if_neg hk1, if_neg hk2, if_neg hk3]
        refine wp_skip ?_
        refine then_n ?_
        refine wp_seq ?_
        refine region_seq hS (by kernel_rfl)
          (cF rfl (o_load (ag := true) (sz := 10) 102 .is (by kernel_rfl) (by kernel_rfl) (by kernel_rfl) (by rfl)) r1 r1
          (cF rfl (o_storeA (sz := 10) 101 .is .t (by kernel_rfl) (by kernel_rfl) (by kernel_rfl)) r2 r1
          (cF rfl (o_assign (.ci (by kernel_rfl)) (by rfl)) trivial trivial
          Chain.nil)))
          (by kernel_rfl) (by rw [hB]; kernel_rfl) ?_
        clear hS; intro a w F hS
        obtain ⟨F, hS⟩ := hS.norm [(2, _), (3, _)] [(0, _), (101, _), (102, _), (103, _)] r2 r4
        try dsimp only [List.map, stCells, List.length_cons, List.length_nil, Nat.reduceAdd, List.drop_succ_cons, List.drop_zero, List.drop_nil, List.take_succ_cons, List.take_zero, List.take_nil, List.cons_append, List.nil_append, zCF, ldSF] at hS
        refine then_n ?_
        refine wp_ret ?_
        refine ret_P hfr hS rfl (.cell (n := 101) (ag := true) (sz := 10) rfl .is rfl (by kernel_rfl) (by kernel_rfl) (by kernel_rfl) (.tmp rfl .nil)) (.two (.aggU rfl (by rw [hr] <;> rfl)) (.int (by rw [hr])))

end Go.Proofs.YtjdcnjemhjldoaaDoor
