/- The document's lines. No condition beyond those that each theorem says. -/
import Derived.Test.YtjdcnjemhjldoaaGreatDoorCr2
import Derived.Test.YtjdcnjemhjldoaaGreatDoorCm7
namespace Go.Proofs.YtjdcnjemhjldoaaGreatDoor
open Go Go.Gm
set_option linter.unusedVariables false
set_option linter.unusedSimpArgs false
set_option maxHeartbeats 4000000
set_option maxRecDepth 8000


def ordT (w : List UInt8) (k : Int) (l : List Int) : List UInt8 := w ++ ((k :: l).map textL).flatMap fun y => 32 :: y
theorem ordT_nil (w : List UInt8) (k : Int) : w ++ ([32] ++ textL k) = ordT w k [] := by simp [ordT]
theorem flat_next (w : List UInt8) (k : Int) {l : List Int} {i : Nat} (h : i < l.length) : ordT w k (l.take (i + 1)) = ordT w k (l.take i) ++ ([32] ++ textL (nth l i)) := by
  unfold ordT
  rw [List.take_succ_eq_append_getElem h, nth_eq h]
  simp only [List.map_cons, List.map_append, List.map_nil, List.flatMap_cons, List.flatMap_append, List.flatMap_nil, List.append_nil, List.append_assoc, List.cons_append, List.nil_append]
theorem flat_len2 : ∀ l : List Int, (∀ n ∈ l, 0 ≤ n ∧ n ≤ 2147483647) → ((l.map textL).flatMap fun y => 32 :: y).length ≤ 22 * l.length
  | [], _ => by simp
  | n :: l, h => by
    have h1 := flat_len2 l fun x hx => h x (List.mem_cons_of_mem _ hx)
    have h2 := textL_len (n := n) (by have := h n (by simp); omega)
    rw [List.map_cons, List.flatMap_cons, List.length_append, List.length_cons, List.length_cons]
    omega
theorem ordT_len {w : List UInt8} {k : Int} {l : List Int} (h : 0 ≤ k ∧ k ≤ 2147483647) (hl : ∀ n ∈ l, 0 ≤ n ∧ n ≤ 2147483647) : (ordT w k l).length ≤ w.length + 22 * (l.length + 1) := by
  have := flat_len2 (k :: l) fun n hn => by rcases List.mem_cons.1 hn with rfl | hn; exact h; exact hl n hn
  unfold ordT
  rw [List.length_append]
  rw [List.length_cons] at this
  omega

theorem refCmdText_c (c : CmdD) (hc : c.order.txs.length ≤ 998) : FnP Tryz.prog 11 [.agg (rCmd c)] (.bs (textC c)) := by
  refine FnP.mk Tryz.func11 rfl Tryz.ntmps11 rfl ?_
  intro B a w F hB hfr hS
  refine wp_seq ?_
  refine region_seq hS (by kernel_rfl)
    (cF rfl (o_boxA 101 (.conv .t .agg) (by kernel_rfl)) r1 trivial
    (cF rfl (o_assign (.cs (by kernel_rfl)) (by rfl)) trivial trivial
    Chain.nil))
    (by kernel_rfl) (by rw [hB]; kernel_rfl) ?_
  clear hS; intro a w F hS
  replace hS := hS.sub
  obtain ⟨F, hS⟩ := hS.norm [(1, _), (2, _)] [(0, _), (101, _)] r2 r2
  try dsimp only [RS.sub, SF.sub, CF.sub, csub, Anc.sub, List.map, zCF, rCmd] at hS
  generalize Act.tau a 1 = v1 at hS
  refine then_n ?_
  refine wp_seq ?_
  refine wp_seq ?_
  refine region_seq hS (by kernel_rfl)
    (cF rfl (o_load (ag := true) (sz := 10) 101 .is (by kernel_rfl) (by kernel_rfl) (by kernel_rfl) (by rfl)) r1 r1
    (cF rfl (o_callP (refCmdRight_c c hc) Tryz.func9 rfl (by kernel_rfl) (Args.one (.pagg .t))) r1 trivial
    (cF rfl (o_not .t) r1 trivial
    Chain.nil)))
    (by kernel_rfl) (by rw [hB]; kernel_rfl) ?_
  clear hS; intro a w F hS
  obtain ⟨F, hS⟩ := hS.norm [(1, _), (2, _), (8, _)] [(0, _), (101, _)] r3 r2
  try dsimp only [List.map, List.drop_succ_cons, List.drop_zero, List.drop_nil, List.take_succ_cons, List.take_zero, List.take_nil, ldSF, rCmd] at hS
  refine then_n ?_
  refine cond_b hS rfl (fun hc0 => ?_) (fun hc0 => ?_)
  ·skip
   have hg : ([] : List UInt8) = textC c := by unfold textC; rw [if_pos (by simpa using hc0)]
   refine wp_seq ?_
   refine region_seq hS (by kernel_rfl)
     (cF rfl (o_assign (.cs (by kernel_rfl)) (by rfl)) trivial trivial
     Chain.nil)
     (by kernel_rfl) (by rw [hB]; kernel_rfl) ?_
   clear hS; intro a w F hS
   obtain ⟨F, hS⟩ := hS.norm [(1, _), (2, _)] [(0, _), (101, _)] r2 r2
   try dsimp only [rCmd] at hS
   refine then_n ?_
   refine wp_ret ?_
   refine then_r ?_
   refine ret_P hfr hS rfl (.tmp rfl .nil) (.one (.bs (by first | exact hg | exact hg2)))
  ·skip
   have hrc : rightC c = true := by simpa using hc0
   have hr := nums_mem hrc
   have hop := (rightC_head hrc).2.2.1
   have hsl := said_len c.kind
   have hcl := code_len c.phen
   have m1 := hr c.tx.id (by unfold numsC; simp)
   have m2 := hr c.id (by unfold numsC; simp)
   have m3 := hr c.order.key (by unfold numsC; simp)
   have m6 : ∀ n ∈ c.order.txs, 0 ≤ n ∧ n ≤ 2147483647 := fun n hn => hr n (by unfold numsC; simp [hn])
   have t1 := textT_len c.tx m1 hop
   have t2 := textL_len (n := c.id) (by omega)
   have t3 := textL_len (n := c.order.key) (by omega)
   have m4 := hr c.key (by unfold numsC; simp)
   have m5 := hr c.place (by unfold numsC; simp)
   have t4 : (wordsL [c.key, c.id, c.place]).length ≤ 66 := wordsTo_len [c.key, c.id, c.place] (fun n hn => by simp at hn; rcases hn with rfl | rfl | rfl <;> omega) _ (Nat.le_refl _)
   refine wp_skip ?_
   refine then_n ?_
   refine wp_seq ?_
   refine region_seq hS (by kernel_rfl)
     (cF rfl (o_fieldAddr (off := 0) 101 .is (by kernel_rfl) (by rfl)) r1 r1
     (cF rfl (o_load (ag := false) (sz := 1) 101 .adr (by kernel_rfl) (by kernel_rfl) (by kernel_rfl) (by rfl)) r1 r1
     (cF rfl (o_callP (refWord_c c.kind) Tryz.func39 rfl (by kernel_rfl) (Args.one .t)) r1 trivial
     (cF rfl (o_assign .t (by rfl)) r1 trivial
     Chain.nil))))
     (by kernel_rfl) (by rw [hB]; kernel_rfl) ?_
   clear hS; intro a w F hS
   obtain ⟨F, hS⟩ := hS.norm [(1, _), (2, _), (3, _)] [(0, _), (101, _)] r3 r2
   try dsimp only [List.map, List.drop_succ_cons, List.drop_zero, List.drop_nil, List.take_succ_cons, List.take_zero, List.take_nil, ldSF, rCmd] at hS
   refine then_n ?_
   refine wp_seq ?_
   refine wp_seq ?_
   refine region_seq hS (by kernel_rfl)
     (cF rfl (o_fieldAddr (off := 0) 101 .is (by kernel_rfl) (by rfl)) r1 r1
     (cF rfl (o_load (ag := false) (sz := 1) 101 .adr (by kernel_rfl) (by kernel_rfl) (by kernel_rfl) (by rfl)) r1 r1
     Chain.nil))
     (by kernel_rfl) (by rw [hB]; kernel_rfl) ?_
   clear hS; intro a w F hS
   obtain ⟨F, hS⟩ := hS.norm [(1, _), (2, _), (3, _), (13, _)] [(0, _), (101, _)] r4 r2
   try dsimp only [List.map, List.drop_succ_cons, List.drop_zero, List.drop_nil, List.take_succ_cons, List.take_zero, List.take_nil, ldSF, rCmd] at hS
   refine then_n ?_
   refine wp_block ?_
   refine wp_seq ?_
   refine wp_seq ?_
   refine region_seq hS (by kernel_rfl)
     (cF rfl (o_eql .t (.ci (by kernel_rfl))) r1 trivial
     (cF rfl (o_assign .t (by rfl)) r1 trivial
     Chain.nil))
     (by kernel_rfl) (by rw [hB]; kernel_rfl) ?_
   clear hS; intro a w F hS
   obtain ⟨F, hS⟩ := hS.norm [(1, _), (2, _), (3, _), (13, _), (14, _)] [(0, _), (101, _)] r5 r2
   try dsimp only [rCmd] at hS
   refine then_n ?_
   refine cond_b hS rfl (fun hc1 => ?_) (fun hc1 => ?_)
   ·skip
    have hk : c.kind = 1 ∨ c.kind = 2 := by first | exact .inl (of_decide_eq_true hc1) | exact .inr (of_decide_eq_true hc1)
    have hg : ((saidR c.kind).s ++ [32]) ++ textT c.tx = textC c := by rw [restC_flat hrc]; unfold restC; rw [if_pos hk]; simp
    refine wp_skip ?_
    refine then_n ?_
    refine cond_b hS rfl (fun hc2 => ?_) (fun hc2 => ?_)
    ·skip
     have hk : c.kind = 1 ∨ c.kind = 2 := by first | exact .inl (of_decide_eq_true hc2) | exact .inr (of_decide_eq_true hc2)
     have hg : ((saidR c.kind).s ++ [32]) ++ textT c.tx = textC c := by rw [restC_flat hrc]; unfold restC; rw [if_pos hk]; simp
     refine wp_seq ?_
     refine region_seq hS (by kernel_rfl)
       (cF rfl (o_move .t (by rfl)) r1 trivial
       (cF rfl (o_add_bs .t (.cs (by kernel_rfl)) (by simp only [List.length_append, List.length_cons, List.length_nil]; omega)) r1 trivial
       (cF rfl (o_fieldAddr (off := 1) 101 .is (by kernel_rfl) (by rfl)) r1 r1
       (cF rfl (o_load (ag := true) (sz := 3) 101 .adr (by kernel_rfl) (by kernel_rfl) (by kernel_rfl) (by rfl)) r1 r1
       (cF rfl (o_callP (refTxText_c c.tx (by omega)) Tryz.func13 rfl (by kernel_rfl) (Args.one (.pagg .t))) r1 trivial
       (cF rfl (o_add_bs .t .t (by simp only [List.length_append, List.length_cons, List.length_nil]; omega)) r2 trivial
       (cF rfl (o_assign .t (by rfl)) r1 trivial
       Chain.nil)))))))
       (by kernel_rfl) (by rw [hB]; kernel_rfl) ?_
     clear hS; intro a w F hS
     obtain ⟨F, hS⟩ := hS.norm [(2, _), (3, _)] [(0, _), (101, _)] r2 r2
     try dsimp only [List.map, List.drop_succ_cons, List.drop_zero, List.drop_nil, List.take_succ_cons, List.take_zero, List.take_nil, ldSF, rCmd] at hS
     refine then_n ?_
     refine wp_ret ?_
     refine block_r ?_
     refine then_r ?_
     refine ret_P hfr hS rfl (.tmp rfl .nil) (.one (.bs (by first | exact hg | exact hg2)))
    ·exact Bool.noConfusion (hc1.symm.trans hc2)
   ·skip
    have hn := of_decide_eq_false hc1
    refine region_seq hS (by kernel_rfl)
      (cF rfl (o_eql .t (.ci (by kernel_rfl))) r1 trivial
      (cF rfl (o_assign .t (by rfl)) r1 trivial
      Chain.nil))
      (by kernel_rfl) (by rw [hB]; kernel_rfl) ?_
    clear hS; intro a w F hS
    obtain ⟨F, hS⟩ := hS.norm [(1, _), (2, _), (3, _), (13, _), (14, _)] [(0, _), (101, _)] r5 r2
    try dsimp only [rCmd] at hS
    refine then_n ?_
    refine cond_b hS rfl (fun hc3 => ?_) (fun hc3 => ?_)
    ·skip
     have hk : c.kind = 1 ∨ c.kind = 2 := by first | exact .inl (of_decide_eq_true hc3) | exact .inr (of_decide_eq_true hc3)
     have hg : ((saidR c.kind).s ++ [32]) ++ textT c.tx = textC c := by rw [restC_flat hrc]; unfold restC; rw [if_pos hk]; simp
     refine wp_seq ?_
     refine region_seq hS (by kernel_rfl)
       (cF rfl (o_move .t (by rfl)) r1 trivial
       (cF rfl (o_add_bs .t (.cs (by kernel_rfl)) (by simp only [List.length_append, List.length_cons, List.length_nil]; omega)) r1 trivial
       (cF rfl (o_fieldAddr (off := 1) 101 .is (by kernel_rfl) (by rfl)) r1 r1
       (cF rfl (o_load (ag := true) (sz := 3) 101 .adr (by kernel_rfl) (by kernel_rfl) (by kernel_rfl) (by rfl)) r1 r1
       (cF rfl (o_callP (refTxText_c c.tx (by omega)) Tryz.func13 rfl (by kernel_rfl) (Args.one (.pagg .t))) r1 trivial
       (cF rfl (o_add_bs .t .t (by simp only [List.length_append, List.length_cons, List.length_nil]; omega)) r2 trivial
       (cF rfl (o_assign .t (by rfl)) r1 trivial
       Chain.nil)))))))
       (by kernel_rfl) (by rw [hB]; kernel_rfl) ?_
     clear hS; intro a w F hS
     obtain ⟨F, hS⟩ := hS.norm [(2, _), (3, _)] [(0, _), (101, _)] r2 r2
     try dsimp only [List.map, List.drop_succ_cons, List.drop_zero, List.drop_nil, List.take_succ_cons, List.take_zero, List.take_nil, ldSF, rCmd] at hS
     refine then_n ?_
     refine wp_ret ?_
     refine block_r ?_
     refine then_r ?_
     refine ret_P hfr hS rfl (.tmp rfl .nil) (.one (.bs (by first | exact hg | exact hg2)))
    ·skip
     have hn := of_decide_eq_false hc3
     refine wp_seq ?_
     refine wp_seq ?_
     refine region_seq hS (by kernel_rfl)
       (cF rfl (o_eql .t (.ci (by kernel_rfl))) r1 trivial
       (cF rfl (o_assign .t (by rfl)) r1 trivial
       Chain.nil))
       (by kernel_rfl) (by rw [hB]; kernel_rfl) ?_
     clear hS; intro a w F hS
     obtain ⟨F, hS⟩ := hS.norm [(1, _), (2, _), (3, _), (13, _), (23, _)] [(0, _), (101, _)] r5 r2
     try dsimp only [rCmd] at hS
     refine then_n ?_
     refine cond_b hS rfl (fun hc4 => ?_) (fun hc4 => ?_)
     ·skip
      have hk : c.kind = 3 ∨ c.kind = 10 := by first | exact .inl (of_decide_eq_true hc4) | exact .inr (of_decide_eq_true hc4)
      have hg : ((saidR c.kind).s ++ [32]) ++ textL c.id = textC c := by rw [restC_flat hrc]; unfold restC; rw [if_neg (by omega), if_pos hk]; simp
      refine wp_skip ?_
      refine then_n ?_
      refine cond_b hS rfl (fun hc5 => ?_) (fun hc5 => ?_)
      ·skip
       have hk : c.kind = 3 ∨ c.kind = 10 := by first | exact .inl (of_decide_eq_true hc5) | exact .inr (of_decide_eq_true hc5)
       have hg : ((saidR c.kind).s ++ [32]) ++ textL c.id = textC c := by rw [restC_flat hrc]; unfold restC; rw [if_neg (by omega), if_pos hk]; simp
       refine wp_seq ?_
       refine region_seq hS (by kernel_rfl)
         (cF rfl (o_move .t (by rfl)) r1 trivial
         (cF rfl (o_add_bs .t (.cs (by kernel_rfl)) (by simp only [List.length_append, List.length_cons, List.length_nil]; omega)) r1 trivial
         (cF rfl (o_fieldAddr (off := 7) 101 .is (by kernel_rfl) (by rfl)) r1 r1
         (cF rfl (o_load (ag := false) (sz := 1) 101 .adr (by kernel_rfl) (by kernel_rfl) (by kernel_rfl) (by rfl)) r1 r1
         (cF rfl (o_callP (refText_c c.id) Tryz.func40 rfl (by kernel_rfl) (Args.one .t)) r1 trivial
         (cF rfl (o_add_bs .t .t (by simp only [List.length_append, List.length_cons, List.length_nil]; omega)) r2 trivial
         (cF rfl (o_assign .t (by rfl)) r1 trivial
         Chain.nil)))))))
         (by kernel_rfl) (by rw [hB]; kernel_rfl) ?_
       clear hS; intro a w F hS
       obtain ⟨F, hS⟩ := hS.norm [(2, _), (3, _)] [(0, _), (101, _)] r2 r2
       try dsimp only [List.map, List.drop_succ_cons, List.drop_zero, List.drop_nil, List.take_succ_cons, List.take_zero, List.take_nil, ldSF, rCmd] at hS
       refine then_n ?_
       refine wp_ret ?_
       refine block_r ?_
       refine then_r ?_
       refine ret_P hfr hS rfl (.tmp rfl .nil) (.one (.bs (by first | exact hg | exact hg2)))
      ·exact Bool.noConfusion (hc4.symm.trans hc5)
     ·skip
      have hn := of_decide_eq_false hc4
      refine region_seq hS (by kernel_rfl)
        (cF rfl (o_eql .t (.ci (by kernel_rfl))) r1 trivial
        (cF rfl (o_assign .t (by rfl)) r1 trivial
        Chain.nil))
        (by kernel_rfl) (by rw [hB]; kernel_rfl) ?_
      clear hS; intro a w F hS
      obtain ⟨F, hS⟩ := hS.norm [(1, _), (2, _), (3, _), (13, _), (23, _)] [(0, _), (101, _)] r5 r2
      try dsimp only [rCmd] at hS
      refine then_n ?_
      refine cond_b hS rfl (fun hc6 => ?_) (fun hc6 => ?_)
      ·skip
       have hk : c.kind = 3 ∨ c.kind = 10 := by first | exact .inl (of_decide_eq_true hc6) | exact .inr (of_decide_eq_true hc6)
       have hg : ((saidR c.kind).s ++ [32]) ++ textL c.id = textC c := by rw [restC_flat hrc]; unfold restC; rw [if_neg (by omega), if_pos hk]; simp
       refine wp_seq ?_
       refine region_seq hS (by kernel_rfl)
         (cF rfl (o_move .t (by rfl)) r1 trivial
         (cF rfl (o_add_bs .t (.cs (by kernel_rfl)) (by simp only [List.length_append, List.length_cons, List.length_nil]; omega)) r1 trivial
         (cF rfl (o_fieldAddr (off := 7) 101 .is (by kernel_rfl) (by rfl)) r1 r1
         (cF rfl (o_load (ag := false) (sz := 1) 101 .adr (by kernel_rfl) (by kernel_rfl) (by kernel_rfl) (by rfl)) r1 r1
         (cF rfl (o_callP (refText_c c.id) Tryz.func40 rfl (by kernel_rfl) (Args.one .t)) r1 trivial
         (cF rfl (o_add_bs .t .t (by simp only [List.length_append, List.length_cons, List.length_nil]; omega)) r2 trivial
         (cF rfl (o_assign .t (by rfl)) r1 trivial
         Chain.nil)))))))
         (by kernel_rfl) (by rw [hB]; kernel_rfl) ?_
       clear hS; intro a w F hS
       obtain ⟨F, hS⟩ := hS.norm [(2, _), (3, _)] [(0, _), (101, _)] r2 r2
       try dsimp only [List.map, List.drop_succ_cons, List.drop_zero, List.drop_nil, List.take_succ_cons, List.take_zero, List.take_nil, ldSF, rCmd] at hS
       refine then_n ?_
       refine wp_ret ?_
       refine block_r ?_
       refine then_r ?_
       refine ret_P hfr hS rfl (.tmp rfl .nil) (.one (.bs (by first | exact hg | exact hg2)))
      ·skip
       have hn := of_decide_eq_false hc6
       refine wp_seq ?_
       refine region_seq hS (by kernel_rfl)
         (cF rfl (o_eql .t (.ci (by kernel_rfl))) r1 trivial
         (cF rfl (o_assign .t (by rfl)) r1 trivial
         Chain.nil))
         (by kernel_rfl) (by rw [hB]; kernel_rfl) ?_
       clear hS; intro a w F hS
       obtain ⟨F, hS⟩ := hS.norm [(1, _), (2, _), (3, _), (13, _), (32, _)] [(0, _), (101, _)] r5 r2
       try dsimp only [rCmd] at hS
       refine then_n ?_
       refine cond_b hS rfl (fun hc7 => ?_) (fun hc7 => ?_)
       ·skip
        have hk := of_decide_eq_true hc7
        refine wp_seq ?_
        refine region_seq hS (by kernel_rfl)
          (cF rfl (o_move .t (by rfl)) r1 trivial
          (cF rfl (o_fieldAddr (off := 4) 101 .is (by kernel_rfl) (by rfl)) r1 r1
          (cF rfl (o_fieldAddr (off := 0) 101 .adr (by kernel_rfl) (by rfl)) r1 r1
          (cF rfl (o_load (ag := false) (sz := 1) 101 .adr (by kernel_rfl) (by kernel_rfl) (by kernel_rfl) (by rfl)) r1 r1
          (cF rfl (o_callP (refText_c c.order.key) Tryz.func40 rfl (by kernel_rfl) (Args.one .t)) r1 trivial
          (cF rfl (o_add_bs (.cs (by kernel_rfl)) .t (by simp only [List.length_append, List.length_cons, List.length_nil]; omega)) r1 trivial
          (cF rfl (o_add_bs .t .t (by simp only [List.length_append, List.length_cons, List.length_nil]; omega)) r2 trivial
          (cF rfl (o_assign .t (by rfl)) r1 trivial
          Chain.nil))))))))
          (by kernel_rfl) (by rw [hB]; kernel_rfl) ?_
        clear hS; intro a w F hS
        obtain ⟨F, hS⟩ := hS.norm [(1, _), (2, _), (3, _)] [(0, _), (101, _)] r3 r2
        try dsimp only [List.map, List.drop_succ_cons, List.drop_zero, List.drop_nil, List.take_succ_cons, List.take_zero, List.take_nil, ldSF, rCmd] at hS
        refine then_n ?_
        refine wp_seq ?_
        refine wp_seq ?_
        refine region_seq hS (by kernel_rfl)
          (cF rfl (o_fieldAddr (off := 4) 101 .is (by kernel_rfl) (by rfl)) r1 r1
          (cF rfl (o_fieldAddr (off := 1) 101 .adr (by kernel_rfl) (by rfl)) r1 r1
          (cF rfl (o_load (ag := false) (sz := 1) 101 .adr (by kernel_rfl) (by kernel_rfl) (by kernel_rfl) (by rfl)) r1 r1
          (cF rfl (o_len_sl Tryz.underlying25 .t) r1 trivial
          (cF rfl (o_move (.ci (by kernel_rfl)) (by rfl)) trivial trivial
          Chain.nil)))))
          (by kernel_rfl) (by rw [hB]; kernel_rfl) ?_
        clear hS; intro a w F hS
        obtain ⟨F, hS⟩ := hS.norm [(2, _), (3, _), (43, _), (44, _), (45, _)] [(0, _), (101, _)] r5 r2
        try dsimp only [List.map, List.drop_succ_cons, List.drop_zero, List.drop_nil, List.take_succ_cons, List.take_zero, List.take_nil, ldSF, rCmd] at hS
        refine then_n ?_
        refine wp_block ?_
        replace hS := hS.ent (i := 3) (s' := .pv (.bs (ordT (saidR c.kind).s c.order.key (c.order.txs.take 0)))) rfl (.bs (ordT_nil _ _))
        obtain ⟨F, hS⟩ := hS.norm [(3, _), (43, _), (44, _), (45, _)] [(0, _)] r4 r1
        refine loop_inv (σ := Nat) (fun s => (⟨[(3, .pv (.bs (ordT (saidR c.kind).s c.order.key (c.order.txs.take s)))), (43, .pv (.sl rInt c.order.txs)), (44, .pv (.int .i64 (c.order.txs.length : Nat))), (45, .pv (.int .i64 (s : Nat)))], [(0, frame B)]⟩ : En)) (fun s => s ≤ c.order.txs.length) (fun s => c.order.txs.length - s) 0 hS (Nat.zero_le _) ?_
        clear hS; intro i a w F hC hS
        try dsimp only at hC
        try dsimp only at hS
        have hi0 := hC
        have hcl : (ordT (saidR c.kind).s c.order.key (c.order.txs.take i)).length ≤ 22004 := Nat.le_trans (ordT_len m3 fun n hn => m6 n (List.mem_of_mem_take hn)) (by rw [List.length_take]; omega)
        refine wp_seq ?_
        refine region_seq hS (by kernel_rfl)
          (cF rfl (o_lss .t .t) r2 trivial
          Chain.nil)
          (by kernel_rfl) (by rw [hB]; kernel_rfl) ?_
        clear hS; intro a w F hS
        obtain ⟨F, hS⟩ := hS.norm [(3, _), (43, _), (44, _), (45, _), (46, _)] [(0, _)] r5 r1
        try dsimp only [rCmd] at hS
        refine then_n ?_
        refine wp_seq ?_
        refine cond_b hS rfl (fun hc8 => ?_) (fun hc8 => ?_)
        ·skip
         have hi : i < c.order.txs.length := by have h9 := of_decide_eq_true hc8; omega
         refine wp_skip ?_
         refine then_n ?_
         refine wp_seq ?_
         refine wp_block ?_
         refine wp_seq ?_
         refine region_seq hS (by kernel_rfl)
           (cF rfl (o_indexAddr_sl (sz := 1) (.mk Tryz.underlying25 (by kernel_rfl)) (by intro x; rfl) .t .t (by omega) (by omega)) r2 trivial
           (cF rfl (o_load_ref (ag := false) (sz := 1) .t (by kernel_rfl) (by kernel_rfl) (by kernel_rfl)) r1 trivial
           (cF rfl (o_assign .t (by rfl)) r1 trivial
           Chain.nil)))
           (by kernel_rfl) (by rw [hB]; kernel_rfl) ?_
         clear hS; intro a w F hS
         obtain ⟨F, hS⟩ := hS.norm [(3, _), (5, _), (43, _), (44, _), (45, _), (46, _), (47, _), (48, _)] [(0, _)] r8 r1
         try dsimp only [List.map, List.drop_succ_cons, List.drop_zero, List.drop_nil, List.take_succ_cons, List.take_zero, List.take_nil, ldSF, rCmd] at hS
         rw [Int.toNat_natCast] at hS
         refine then_n ?_
         refine region_seq hS (by kernel_rfl)
           (cF rfl (o_move .t (by rfl)) r1 trivial
           (cF rfl (o_move .t (by rfl)) r1 trivial
           (cF rfl (o_callP (refText_c (nth c.order.txs i)) Tryz.func40 rfl (by kernel_rfl) (Args.one .t)) r1 trivial
           (cF rfl (o_add_bs (.cs (by kernel_rfl)) .t (by have := textL_len (n := nth c.order.txs i) (by have := m6 _ (nth_mem hi); omega); simp only [List.length_append, List.length_cons, List.length_nil]; omega)) r1 trivial
           (cF rfl (o_add_bs .t .t (by have := textL_len (n := nth c.order.txs i) (by have := m6 _ (nth_mem hi); omega); simp only [List.length_append, List.length_cons, List.length_nil]; omega)) r2 trivial
           (cF rfl (o_assign .t (by rfl)) r1 trivial
           Chain.nil))))))
           (by kernel_rfl) (by rw [hB]; kernel_rfl) ?_
         clear hS; intro a w F hS
         obtain ⟨F, hS⟩ := hS.norm [(3, _), (5, _), (43, _), (44, _), (45, _), (46, _), (47, _), (48, _), (49, _), (50, _), (51, _), (52, _), (53, _)] [(0, _)] ⟨rfl, rfl, rfl, rfl, rfl, rfl, rfl, rfl, rfl, rfl, rfl, rfl, rfl, trivial⟩ r1
         try dsimp only [rCmd] at hS
         refine block_n ?_
         refine then_n ?_
         refine region_seq hS (by kernel_rfl)
           (cF rfl (o_add .t (.ci (by kernel_rfl))) r1 trivial
           (cF rfl (o_move .t (by rfl)) r1 trivial
           Chain.nil))
           (by kernel_rfl) (by rw [hB]; kernel_rfl) ?_
         clear hS; intro a w F hS
         obtain ⟨F, hS⟩ := hS.norm [(3, _), (5, _), (43, _), (44, _), (45, _), (46, _), (47, _), (48, _), (49, _), (50, _), (51, _), (52, _), (53, _), (54, _)] [(0, _)] ⟨rfl, rfl, rfl, rfl, rfl, rfl, rfl, rfl, rfl, rfl, rfl, rfl, rfl, rfl, trivial⟩ r1
         try dsimp only [rCmd] at hS
         refine then_n ?_
         replace hS := hS.ent (i := 45) (s' := .pv (.int .i64 ((i + 1 : Nat) : Int))) rfl (.int (wrap_succ (by omega)))
         replace hS := hS.ent (i := 3) (s' := .pv (.bs (ordT (saidR c.kind).s c.order.key (c.order.txs.take (i + 1))))) rfl (.bs (flat_next _ _ hi).symm)
         obtain ⟨F, hS⟩ := hS.norm [(3, _), (43, _), (44, _), (45, _)] [(0, _)] r4 r1
         exact ⟨i + 1, F, (by omega), hS, by omega⟩
        ·skip
         have hil : i = c.order.txs.length := by have h9 := of_decide_eq_false hc8; omega
         rw [hil, List.take_length] at hS
         have hg : ordT (saidR c.kind).s c.order.key c.order.txs = textC c := by rw [restC_flat hrc]; unfold restC ordT; rw [if_neg (by omega), if_neg (by omega), if_pos hk, wordsL_join, List.map_cons, joinL_flat]; simp
         refine wp_exit ?_
         refine then_x ?_
         refine then_x ?_
         refine block_x ?_
         refine then_n ?_
         refine wp_seq ?_
         refine region_seq hS (by kernel_rfl)
           (cF rfl (o_move .t (by rfl)) r1 trivial
           (cF rfl (o_assign .t (by rfl)) r1 trivial
           Chain.nil))
           (by kernel_rfl) (by rw [hB]; kernel_rfl) ?_
         clear hS; intro a w F hS
         obtain ⟨F, hS⟩ := hS.norm [(2, _), (3, _)] [(0, _)] r2 r1
         try dsimp only [rCmd] at hS
         refine then_n ?_
         refine wp_ret ?_
         refine block_r ?_
         refine then_r ?_
         refine ret_P hfr hS rfl (.tmp rfl .nil) (.one (.bs (by first | exact hg | exact hg2)))
       ·skip
        have hn := of_decide_eq_false hc7
        refine wp_seq ?_
        refine region_seq hS (by kernel_rfl)
          (cF rfl (o_eql .t (.ci (by kernel_rfl))) r1 trivial
          (cF rfl (o_assign .t (by rfl)) r1 trivial
          Chain.nil))
          (by kernel_rfl) (by rw [hB]; kernel_rfl) ?_
        clear hS; intro a w F hS
        obtain ⟨F, hS⟩ := hS.norm [(1, _), (2, _), (3, _), (13, _), (56, _)] [(0, _), (101, _)] r5 r2
        try dsimp only [rCmd] at hS
        refine then_n ?_
        refine cond_b hS rfl (fun hc9 => ?_) (fun hc9 => ?_)
        ·skip
         have hk := of_decide_eq_true hc9
         have hg : ((saidR c.kind).s ++ [32]) ++ wordsL [c.key, c.id, c.place] = textC c := by rw [restC_flat hrc]; unfold restC; rw [if_neg (by omega), if_neg (by omega), if_neg (by omega), if_pos hk]; simp
         refine wp_seq ?_
         refine region_seq hS (by kernel_rfl)
           (cF rfl (o_move .t (by rfl)) r1 trivial
           (cF rfl (o_add_bs .t (.cs (by kernel_rfl)) (by simp only [List.length_append, List.length_cons, List.length_nil]; omega)) r1 trivial
           (cF rfl (o_fieldAddr (off := 6) 101 .is (by kernel_rfl) (by rfl)) r1 r1
           (cF rfl (o_load (ag := false) (sz := 1) 101 .adr (by kernel_rfl) (by kernel_rfl) (by kernel_rfl) (by rfl)) r1 r1
           (cF rfl (o_fieldAddr (off := 7) 101 .is (by kernel_rfl) (by rfl)) r1 r1
           (cF rfl (o_load (ag := false) (sz := 1) 101 .adr (by kernel_rfl) (by kernel_rfl) (by kernel_rfl) (by rfl)) r1 r1
           (cF rfl (o_fieldAddr (off := 8) 101 .is (by kernel_rfl) (by rfl)) r1 r1
           (cF rfl (o_load (ag := false) (sz := 1) 101 .adr (by kernel_rfl) (by kernel_rfl) (by kernel_rfl) (by rfl)) r1 r1
           (cF rfl (o_buildSliceE (sz := 1) (zs := [.int .i64 0]) (r := [(0, .tmp 61), (1, .tmp 63), (2, .tmp 65)]) (l := [_, _, _]) Tryz.underlying25 (by kernel_rfl) (by kernel_rfl) (by kernel_rfl) (by kernel_rfl) rfl rfl (.one rfl .t one_int (by kernel_rfl) (.one rfl .t one_int (by kernel_rfl) (.one rfl .t one_int (by kernel_rfl) .nil))) rfl) r3 trivial
           (cF rfl (o_callP (refWords_c [c.key, c.id, c.place] (by simp)) Tryz.func41 rfl (by kernel_rfl) (Args.one (.conv .t (Ent.arrSl (R := rInt) (l := [c.key, c.id, c.place]) rfl)))) r1 trivial
           (cF rfl (o_add_bs .t .t (by simp only [List.length_append, List.length_cons, List.length_nil]; omega)) r2 trivial
           (cF rfl (o_assign .t (by rfl)) r1 trivial
           Chain.nil))))))))))))
           (by kernel_rfl) (by rw [hB]; kernel_rfl) ?_
         clear hS; intro a w F hS
         obtain ⟨F, hS⟩ := hS.norm [(2, _), (3, _)] [(0, _), (101, _)] r2 r2
         try dsimp only [List.map, stCells, List.length_cons, List.length_nil, Nat.reduceAdd, List.drop_succ_cons, List.drop_zero, List.drop_nil, List.take_succ_cons, List.take_zero, List.take_nil, List.cons_append, List.nil_append, zCF, ldSF, rCmd] at hS
         refine then_n ?_
         refine wp_ret ?_
         refine block_r ?_
         refine then_r ?_
         refine ret_P hfr hS rfl (.tmp rfl .nil) (.one (.bs (by first | exact hg | exact hg2)))
        ·skip
         have hn := of_decide_eq_false hc9
         refine wp_seq ?_
         refine region_seq hS (by kernel_rfl)
           (cF rfl (o_eql .t (.ci (by kernel_rfl))) r1 trivial
           (cF rfl (o_assign .t (by rfl)) r1 trivial
           Chain.nil))
           (by kernel_rfl) (by rw [hB]; kernel_rfl) ?_
         clear hS; intro a w F hS
         obtain ⟨F, hS⟩ := hS.norm [(1, _), (2, _), (3, _), (69, _)] [(0, _), (101, _)] r4 r2
         try dsimp only [rCmd] at hS
         refine then_n ?_
         refine cond_b hS rfl (fun hc10 => ?_) (fun hc10 => ?_)
         ·skip
          have hk := of_decide_eq_true hc10
          have hg : ((saidR c.kind).s ++ [32]) ++ codeR c.phen = textC c := by rw [restC_flat hrc]; unfold restC; rw [if_neg (by omega), if_neg (by omega), if_neg (by omega), if_neg (by omega), if_pos hk]; simp
          refine wp_seq ?_
          refine region_seq hS (by kernel_rfl)
            (cF rfl (o_move .t (by rfl)) r1 trivial
            (cF rfl (o_add_bs .t (.cs (by kernel_rfl)) (by simp only [List.length_append, List.length_cons, List.length_nil]; omega)) r1 trivial
            (cF rfl (o_fieldAddr (off := 9) 101 .is (by kernel_rfl) (by rfl)) r1 r1
            (cF rfl (o_load (ag := false) (sz := 1) 101 .adr (by kernel_rfl) (by kernel_rfl) (by kernel_rfl) (by rfl)) r1 r1
            (cF rfl (o_callP (refCode_c c.phen) Tryz.func34 rfl (by kernel_rfl) (Args.one .t)) r1 trivial
            (cF rfl (o_add_bs .t .t (by simp only [List.length_append, List.length_cons, List.length_nil]; omega)) r2 trivial
            (cF rfl (o_assign .t (by rfl)) r1 trivial
            Chain.nil)))))))
            (by kernel_rfl) (by rw [hB]; kernel_rfl) ?_
          clear hS; intro a w F hS
          obtain ⟨F, hS⟩ := hS.norm [(2, _), (3, _)] [(0, _), (101, _)] r2 r2
          try dsimp only [List.map, List.drop_succ_cons, List.drop_zero, List.drop_nil, List.take_succ_cons, List.take_zero, List.take_nil, ldSF, rCmd] at hS
          refine then_n ?_
          refine wp_ret ?_
          refine block_r ?_
          refine then_r ?_
          refine ret_P hfr hS rfl (.tmp rfl .nil) (.one (.bs (by first | exact hg | exact hg2)))
         ·skip
          have hn := of_decide_eq_false hc10
          have hg : (saidR c.kind).s = textC c := by rw [restC_flat hrc]; unfold restC; rw [if_neg (by omega), if_neg (by omega), if_neg (by omega), if_neg (by omega), if_neg (by omega)]; simp
          refine wp_skip ?_
          refine block_n ?_
          refine then_n ?_
          refine wp_seq ?_
          refine region_seq hS (by kernel_rfl)
            (cF rfl (o_move .t (by rfl)) r1 trivial
            (cF rfl (o_assign .t (by rfl)) r1 trivial
            Chain.nil))
            (by kernel_rfl) (by rw [hB]; kernel_rfl) ?_
          clear hS; intro a w F hS
          obtain ⟨F, hS⟩ := hS.norm [(2, _)] [(0, _), (101, _)] r1 r2
          try dsimp only [rCmd] at hS
          refine then_n ?_
          refine wp_ret ?_
          refine ret_P hfr hS rfl (.tmp rfl .nil) (.one (.bs (by first | exact hg | exact hg2)))

end Go.Proofs.YtjdcnjemhjldoaaGreatDoor
