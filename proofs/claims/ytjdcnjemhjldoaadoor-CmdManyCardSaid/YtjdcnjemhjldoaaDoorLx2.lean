/- Split. No condition beyond those that each theorem says. -/
import Derived.Test.YtjdcnjemhjldoaaDoorLx1
namespace Go.Proofs.YtjdcnjemhjldoaaDoor
open Go Go.Gm
set_option linter.unusedVariables false
set_option linter.unusedSimpArgs false
set_option maxHeartbeats 4000000
set_option maxRecDepth 8000


theorem empty_pvs (w : World) (yy : Ys) : PVs (rS []) [.string ⟨#[]⟩] w yy := ⟨⟨rfl, rfl, by unfold maxLen; simp [ByteArray.size]⟩, trivial⟩
theorem split_one {c : UInt8} {s : List UInt8} (h : (splitL c s).length = 1) : splitL c s = [s] := by
  by_cases h1 : Lib.indexByte s c < 0
  · exact split_none h1
  · rw [split_cut (by omega)] at h
    have := split_ne c (s.drop ((Lib.indexByte s c).toNat + 1))
    have h2 : (splitL c (s.drop ((Lib.indexByte s c).toNat + 1))).length ≠ 0 := fun e => this (List.length_eq_zero_iff.1 e)
    rw [List.length_cons] at h
    omega
theorem take_set {α : Type} {q : List α} {i : Nat} {v : α} (h : i < q.length) : (q.set i v).take (i + 1) = q.take i ++ [v] := by
  rw [List.take_succ_eq_append_getElem (by simpa using h), List.getElem_set_self, List.take_set_of_le (Nat.le_refl _)]

theorem genSplit_c (s0 : List UInt8) (c : UInt8) (hs : s0.length ≤ 1000000) : FnP Tryd.prog 64 [.bs s0, .bs [c], .int .i64 0, .int .i64 (-1)] (.sl rS (splitL c s0)) := by
  refine FnP.mk Tryd.func64 rfl Tryd.ntmps64 rfl ?_
  intro B a w F hB hfr hS
  have hcnt := List.count_le_length (a := c) (l := s0)
  refine wp_seq ?_
  refine region_seq hS (by kernel_rfl)
    (cF rfl (o_assign (.c rfl) (by rfl)) trivial trivial
    Chain.nil)
    (by kernel_rfl) (by rw [hB]; kernel_rfl) ?_
  clear hS; intro a w F hS
  obtain ⟨F, hS⟩ := hS.norm [(0, _), (1, _), (2, _), (3, _), (8, _)] [(0, _)] r5 r1
  refine then_n ?_
  refine wp_seq ?_
  refine wp_seq ?_
  refine region_seq hS (by kernel_rfl)
    (cF rfl (o_move .t (by rfl)) r1 trivial
    (cF rfl (o_eql .t (.ci (by kernel_rfl))) r1 trivial
    Chain.nil))
    (by kernel_rfl) (by rw [hB]; kernel_rfl) ?_
  clear hS; intro a w F hS
  obtain ⟨F, hS⟩ := hS.norm [(0, _), (1, _), (2, _), (3, _), (8, _), (13, _)] [(0, _)] r6 r1
  refine then_n ?_
  refine cond_b hS rfl (fun hc0 => ?_) (fun hc0 => ?_)
  ·skip
   simp at hc0
  ·skip
   refine wp_skip ?_
   refine then_n ?_
   refine wp_seq ?_
   refine wp_seq ?_
   refine region_seq hS (by kernel_rfl)
     (cF rfl (o_move .t (by rfl)) r1 trivial
     (cF rfl (o_eql_bs Tryd.underlying9 .t (.cs (by kernel_rfl))) r1 trivial
     Chain.nil))
     (by kernel_rfl) (by rw [hB]; kernel_rfl) ?_
   clear hS; intro a w F hS
   obtain ⟨F, hS⟩ := hS.norm [(0, _), (1, _), (2, _), (3, _), (8, _), (15, _)] [(0, _)] r6 r1
   refine then_n ?_
   refine cond_b hS rfl (fun hc1 => ?_) (fun hc1 => ?_)
   ·skip
    simp at hc1
   ·skip
    refine wp_skip ?_
    refine then_n ?_
    refine wp_seq ?_
    refine wp_seq ?_
    refine region_seq hS (by kernel_rfl)
      (cF rfl (o_move .t (by rfl)) r1 trivial
      (cF rfl (o_lss .t (.ci (by kernel_rfl))) r1 trivial
      Chain.nil))
      (by kernel_rfl) (by rw [hB]; kernel_rfl) ?_
    clear hS; intro a w F hS
    obtain ⟨F, hS⟩ := hS.norm [(0, _), (1, _), (2, _), (3, _), (8, _), (20, _)] [(0, _)] r6 r1
    refine then_n ?_
    refine cond_b hS rfl (fun hc2 => ?_) (fun hc2 => ?_)
    ·skip
     refine region_seq hS (by kernel_rfl)
       (cF rfl (o_move .t (by rfl)) r1 trivial
       (cF rfl (o_move .t (by rfl)) r1 trivial
       (cF rfl (o_callP (countB_c s0 c) Tryd.func76 rfl (by kernel_rfl) (Args.two .t .t)) r2 trivial
       (cF rfl (o_add .t (.ci (by kernel_rfl))) r1 trivial
       (cF rfl (o_assign .t (by rfl)) r1 trivial
       Chain.nil)))))
       (by kernel_rfl) (by rw [hB]; kernel_rfl) ?_
     clear hS; intro a w F hS
     obtain ⟨F, hS⟩ := hS.norm [(0, _), (1, _), (2, _), (3, _), (8, _)] [(0, _)] r5 r1
     refine then_n ?_
     refine wp_seq ?_
     refine region_seq hS (by kernel_rfl)
       (cF rfl (o_move .t (by rfl)) r1 trivial
       (cF rfl (o_move .t (by rfl)) r1 trivial
       (cF rfl (o_len_bs Tryd.underlying9 .t) r1 trivial
       (cF rfl (o_add .t (.ci (by kernel_rfl))) r1 trivial
       (cF rfl (o_min .t .t) r2 trivial
       (cF rfl (o_assign .t (by rfl)) r1 trivial
       Chain.nil))))))
       (by kernel_rfl) (by rw [hB]; kernel_rfl) ?_
     clear hS; intro a w F hS
     obtain ⟨F, hS⟩ := hS.norm [(0, _), (1, _), (2, _), (3, _), (8, _)] [(0, _)] r5 r1
     have hmin : (if IntKind.wrap .i64 ((s0.length : Int) + 1) < IntKind.wrap .i64 (((s0.count c : Nat) : Int) + 1) then IntKind.wrap .i64 ((s0.length : Int) + 1) else IntKind.wrap .i64 (((s0.count c : Nat) : Int) + 1)) = ((s0.count c + 1 : Nat) : Int) := by
       rw [wrap_succ (by omega), wrap_succ (by omega)]
       split <;> omega
     rw [hmin] at hS
     refine then_n ?_
     refine wp_seq ?_
     refine region_seq hS (by kernel_rfl)
       (cF rfl (o_move .t (by rfl)) r1 trivial
       (cF rfl (o_makeSlice (R := rS) (v := []) (c := ((s0.count c + 1 : Nat) : Int)) (sz := 1) (bs := 16) (zs := [.string ⟨#[]⟩]) 101 Tryd.underlying53 (by kernel_rfl) (by kernel_rfl) (by kernel_rfl) empty_pvs .t .t (Int.natCast_nonneg _) (by omega) (by omega)) r2 trivial
       (cF rfl (o_assign .t (by rfl)) r1 trivial
       Chain.nil)))
       (by kernel_rfl) (by rw [hB]; kernel_rfl) ?_
     clear hS; intro a w F hS
     replace hS := hS.sub
     obtain ⟨F, hS⟩ := hS.norm [(0, _), (1, _), (2, _), (3, _), (8, _), (9, _)] [(0, _), (101, _)] r6 r2
     try dsimp only [RS.sub, SF.sub, CF.sub, csub, Anc.sub, List.map, stCells, List.length_cons, List.length_nil, Nat.reduceAdd, List.drop_succ_cons, List.drop_zero, List.drop_nil, List.take_succ_cons, List.take_zero, List.take_nil, List.cons_append, List.nil_append, zCF] at hS
     generalize Act.tau a 31 = v31 at hS
     rw [Int.toNat_natCast] at hS
     refine then_n ?_
     refine wp_seq ?_
     refine region_seq hS (by kernel_rfl)
       (cF rfl (o_move .t (by rfl)) r1 trivial
       (cF rfl (o_sub .t (.ci (by kernel_rfl))) r1 trivial
       (cF rfl (o_assign .t (by rfl)) r1 trivial
       Chain.nil)))
       (by kernel_rfl) (by rw [hB]; kernel_rfl) ?_
     clear hS; intro a w F hS
     obtain ⟨F, hS⟩ := hS.norm [(0, _), (1, _), (2, _), (3, _), (8, _), (9, _)] [(0, _), (101, _)] r6 r2
     rw [show IntKind.wrap .i64 (((s0.count c + 1 : Nat) : Int) - 1) = ((s0.count c : Nat) : Int) by rw [wrap_i64 (by omega)]; omega] at hS
     refine then_n ?_
     refine wp_seq ?_
     refine region_seq hS (by kernel_rfl)
       (cF rfl (o_assign (.ci (by kernel_rfl)) (by rfl)) trivial trivial
       Chain.nil)
       (by kernel_rfl) (by rw [hB]; kernel_rfl) ?_
     clear hS; intro a w F hS
     obtain ⟨F, hS⟩ := hS.norm [(0, _), (1, _), (2, _), (3, _), (8, _), (9, _), (10, _)] [(0, _), (101, _)] r7 r2
     refine then_n ?_
     refine wp_seq ?_
     refine wp_block ?_
     obtain ⟨F, hS⟩ := hS.norm [(0, _), (1, _), (2, _), (3, _), (9, _), (10, _)] [(0, _), (101, _)] r6 r2
     refine loop_inv (σ := (Nat × List UInt8 × List (List UInt8))) (fun s => (⟨[(0, .pv (.bs s.2.1)), (1, .pv (.bs [c])), (2, .pv (.int .i64 0)), (3, .pv (.int .i64 ((s0.count c : Nat) : Int))), (9, .pv (.is v31)), (10, .pv (.int .i64 s.1))], [(0, frame B), (101, .ob (.val v31) (rowH 9 1 rS s.2.2))]⟩ : En)) (fun s => splitL c s0 = s.2.2.take s.1 ++ splitL c s.2.1 ∧ s.1 ≤ s0.count c ∧ s.2.2.length = s0.count c + 1 ∧ s.2.1.length ≤ 1000000) (fun s => s0.count c - s.1) (0, s0, List.replicate (s0.count c + 1) []) hS ⟨by simp, Nat.zero_le _, by simp, hs⟩ ?_
     clear hS; intro s a w F hC hS
     obtain ⟨i, rest, q⟩ := s
     try dsimp only at hC
     try dsimp only at hS
     obtain ⟨hq, hi, hl, hr⟩ := hC
     try dsimp only at hq hi hl hr
     have hlen := congrArg List.length hq
     rw [List.length_append, List.length_take, split_len] at hlen
     refine wp_seq ?_
     refine wp_seq ?_
     refine region_seq hS (by kernel_rfl)
       (cF rfl (o_move .t (by rfl)) r1 trivial
       (cF rfl (o_move .t (by rfl)) r1 trivial
       (cF rfl (o_lss .t .t) r2 trivial
       Chain.nil)))
       (by kernel_rfl) (by rw [hB]; kernel_rfl) ?_
     clear hS; intro a w F hS
     obtain ⟨F, hS⟩ := hS.norm [(0, _), (1, _), (2, _), (3, _), (9, _), (10, _), (34, _), (35, _), (36, _)] [(0, _), (101, _)] ⟨rfl, rfl, rfl, rfl, rfl, rfl, rfl, rfl, rfl, trivial⟩ r2
     refine then_n ?_
     refine cond_b hS rfl (fun hc3 => ?_) (fun hc3 => ?_)
     ·skip
      have hic : i < s0.count c := by simp at hc3; omega
      refine wp_skip ?_
      refine then_n ?_
      refine wp_block ?_
      refine wp_seq ?_
      refine region_seq hS (by kernel_rfl)
        (cF rfl (o_move .t (by rfl)) r1 trivial
        (cF rfl (o_move .t (by rfl)) r1 trivial
        (cF rfl (o_callP (index_c rest c) Tryd.func77 rfl (by kernel_rfl) (Args.two .t .t)) r2 trivial
        (cF rfl (o_assign .t (by rfl)) r1 trivial
        Chain.nil))))
        (by kernel_rfl) (by rw [hB]; kernel_rfl) ?_
      clear hS; intro a w F hS
      obtain ⟨F, hS⟩ := hS.norm [(0, _), (1, _), (2, _), (3, _), (9, _), (10, _), (11, _), (34, _), (35, _), (36, _), (37, _), (38, _), (39, _)] [(0, _), (101, _)] ⟨rfl, rfl, rfl, rfl, rfl, rfl, rfl, rfl, rfl, rfl, rfl, rfl, rfl, trivial⟩ r2
      refine then_n ?_
      refine wp_seq ?_
      refine wp_seq ?_
      refine region_seq hS (by kernel_rfl)
        (cF rfl (o_move .t (by rfl)) r1 trivial
        (cF rfl (o_lss .t (.ci (by kernel_rfl))) r1 trivial
        Chain.nil))
        (by kernel_rfl) (by rw [hB]; kernel_rfl) ?_
      clear hS; intro a w F hS
      obtain ⟨F, hS⟩ := hS.norm [(0, _), (1, _), (2, _), (3, _), (9, _), (10, _), (11, _), (34, _), (35, _), (36, _), (37, _), (38, _), (39, _), (40, _), (41, _)] [(0, _), (101, _)] ⟨rfl, rfl, rfl, rfl, rfl, rfl, rfl, rfl, rfl, rfl, rfl, rfl, rfl, rfl, rfl, trivial⟩ r2
      refine then_n ?_
      refine cond_b hS rfl (fun hc4 => ?_) (fun hc4 => ?_)
      ·skip
       have h1 := split_none (of_decide_eq_true hc4)
       rw [h1] at hlen
       simp at hlen
       omega
      ·skip
       have hm0 : 0 ≤ Lib.indexByte rest c := by simp at hc4; omega
       have hmb := indexByte_lt c rest
       have hm1 : IntKind.wrap .i64 (Lib.indexByte rest c + 0) = Lib.indexByte rest c := by rw [Int.add_zero]; exact wrap_i64 (by omega)
       have hm2 : IntKind.wrap .i64 (Lib.indexByte rest c + ((1 : Nat) : Int)) = Lib.indexByte rest c + 1 := wrap_i64 (by omega)
       have hm3 : IntKind.wrap .i64 (Lib.indexByte rest c + (([c] : List UInt8).length : Int)) = Lib.indexByte rest c + 1 := by rw [List.length_singleton]; exact wrap_i64 (by omega)
       refine wp_skip ?_
       refine then_n ?_
       refine wp_seq ?_
       refine region_seq hS (by kernel_rfl)
         (cF rfl (o_move .t (by rfl)) r1 trivial
         (cF rfl (o_move .t (by rfl)) r1 trivial
         (cF rfl (o_move .t (by rfl)) r1 trivial
         (cF rfl (o_move .t (by rfl)) r1 trivial
         (cF rfl (o_move .t (by rfl)) r1 trivial
         (cF rfl (o_add .t .t) r2 trivial
         (cF rfl (o_slice_bs_hi Tryd.underlying9 .t .t (by rw [hm1]; exact hm0) (by rw [hm1]; omega)) r2 trivial
         (cF rfl (o_indexAddr_row (sz := 1) 101 (.mk Tryd.underlying53 (by kernel_rfl)) .is .t (by omega) (by omega) (by rfl)) r2 r1
         (cF rfl (o_store_row1 (R := rS) (sz := 1) (v := _) 101 .t (by intro x; rfl) (by omega) .t rfl one_str (by kernel_rfl)) r2 r1
         Chain.nil)))))))))
         (by kernel_rfl) (by rw [hB]; kernel_rfl) ?_
       clear hS; intro a w F hS
       obtain ⟨F, hS⟩ := hS.norm [(0, _), (1, _), (2, _), (3, _), (9, _), (10, _), (11, _), (34, _), (35, _), (36, _), (37, _), (38, _), (39, _), (40, _), (41, _), (42, _), (43, _), (44, _), (45, _), (46, _), (47, _), (48, _), (49, _)] [(0, _), (101, _)] ⟨rfl, rfl, rfl, rfl, rfl, rfl, rfl, rfl, rfl, rfl, rfl, rfl, rfl, rfl, rfl, rfl, rfl, rfl, rfl, rfl, rfl, rfl, rfl, trivial⟩ r2
       try dsimp only [List.map, stCells, List.length_cons, List.length_nil, Nat.reduceAdd, List.drop_succ_cons, List.drop_zero, List.drop_nil, List.take_succ_cons, List.take_zero, List.take_nil, List.cons_append, List.nil_append, zCF] at hS
       rw [hm1, Int.toNat_natCast] at hS
       refine then_n ?_
       refine wp_seq ?_
       refine region_seq hS (by kernel_rfl)
         (cF rfl (o_move .t (by rfl)) r1 trivial
         (cF rfl (o_move .t (by rfl)) r1 trivial
         (cF rfl (o_move .t (by rfl)) r1 trivial
         (cF rfl (o_len_bs Tryd.underlying9 .t) r1 trivial
         (cF rfl (o_add .t .t) r2 trivial
         (cF rfl (o_slice_bs_lo Tryd.underlying9 .t .t (by first | (rw [hm2]; omega) | (rw [hm3]; omega)) (by first | (rw [hm2]; omega) | (rw [hm3]; omega))) r2 trivial
         (cF rfl (o_assign .t (by rfl)) r1 trivial
         Chain.nil)))))))
         (by kernel_rfl) (by rw [hB]; kernel_rfl) ?_
       clear hS; intro a w F hS
       obtain ⟨F, hS⟩ := hS.norm [(0, _), (1, _), (2, _), (3, _), (9, _), (10, _), (11, _), (34, _), (35, _), (36, _), (37, _), (38, _), (39, _), (40, _), (41, _), (42, _), (43, _), (44, _), (45, _), (46, _), (47, _), (48, _), (49, _), (50, _), (51, _), (52, _), (53, _), (54, _), (55, _)] [(0, _), (101, _)] ⟨rfl, rfl, rfl, rfl, rfl, rfl, rfl, rfl, rfl, rfl, rfl, rfl, rfl, rfl, rfl, rfl, rfl, rfl, rfl, rfl, rfl, rfl, rfl, rfl, rfl, rfl, rfl, rfl, rfl, trivial⟩ r2
       first | rw [hm2] at hS | rw [hm3] at hS
       rw [show (Lib.indexByte rest c + 1).toNat = (Lib.indexByte rest c).toNat + 1 by omega] at hS
       refine then_n ?_
       refine region_seq hS (by kernel_rfl)
         (cF rfl (o_move .t (by rfl)) r1 trivial
         (cF rfl (o_add .t (.ci (by kernel_rfl))) r1 trivial
         (cF rfl (o_assign .t (by rfl)) r1 trivial
         Chain.nil)))
         (by kernel_rfl) (by rw [hB]; kernel_rfl) ?_
       clear hS; intro a w F hS
       obtain ⟨F, hS⟩ := hS.norm [(0, _), (1, _), (2, _), (3, _), (9, _), (10, _), (11, _), (34, _), (35, _), (36, _), (37, _), (38, _), (39, _), (40, _), (41, _), (42, _), (43, _), (44, _), (45, _), (46, _), (47, _), (48, _), (49, _), (50, _), (51, _), (52, _), (53, _), (54, _), (55, _), (56, _), (57, _)] [(0, _), (101, _)] ⟨rfl, rfl, rfl, rfl, rfl, rfl, rfl, rfl, rfl, rfl, rfl, rfl, rfl, rfl, rfl, rfl, rfl, rfl, rfl, rfl, rfl, rfl, rfl, rfl, rfl, rfl, rfl, rfl, rfl, rfl, rfl, trivial⟩ r2
       refine block_n ?_
       refine then_n ?_
       replace hS := hS.ent (i := 10) (s' := .pv (.int .i64 ((i + 1 : Nat) : Int))) rfl (.int (wrap_succ (by omega)))
       obtain ⟨F, hS⟩ := hS.norm [(0, _), (1, _), (2, _), (3, _), (9, _), (10, _)] [(0, _), (101, _)] r6 r2
       exact ⟨(i + 1, rest.drop ((Lib.indexByte rest c).toNat + 1), q.set i (rest.take (Lib.indexByte rest c).toNat)), F, ⟨by dsimp only; rw [take_set (by omega), hq, split_cut hm0]; simp, by dsimp only; omega, by dsimp only; rw [List.length_set]; exact hl, by dsimp only; rw [List.length_drop]; omega⟩, hS, by dsimp only; omega⟩
     ·skip
      have hic : i = s0.count c := by simp at hc3; omega
      have hrest : splitL c rest = [rest] := split_one (by omega)
      refine wp_exit ?_
      refine then_x ?_
      refine then_x ?_
      refine block_x ?_
      refine then_n ?_
      refine wp_seq ?_
      refine region_seq hS (by kernel_rfl)
        (cF rfl (o_move .t (by rfl)) r1 trivial
        (cF rfl (o_move .t (by rfl)) r1 trivial
        (cF rfl (o_move .t (by rfl)) r1 trivial
        (cF rfl (o_indexAddr_row (sz := 1) 101 (.mk Tryd.underlying53 (by kernel_rfl)) .is .t (by omega) (by omega) (by rfl)) r2 r1
        (cF rfl (o_store_row1 (R := rS) (sz := 1) (v := _) 101 .t (by intro x; rfl) (by omega) .t rfl one_str (by kernel_rfl)) r2 r1
        Chain.nil)))))
        (by kernel_rfl) (by rw [hB]; kernel_rfl) ?_
      clear hS; intro a w F hS
      obtain ⟨F, hS⟩ := hS.norm [(9, _), (10, _)] [(0, _), (101, _)] r2 r2
      try dsimp only [List.map, stCells, List.length_cons, List.length_nil, Nat.reduceAdd, List.drop_succ_cons, List.drop_zero, List.drop_nil, List.take_succ_cons, List.take_zero, List.take_nil, List.cons_append, List.nil_append, zCF] at hS
      rw [Int.toNat_natCast] at hS
      refine then_n ?_
      refine wp_seq ?_
      refine region_seq hS (by kernel_rfl)
        (cF rfl (o_move .t (by rfl)) r1 trivial
        (cF rfl (o_move .t (by rfl)) r1 trivial
        (cF rfl (o_add .t (.ci (by kernel_rfl))) r1 trivial
        (cF rfl (o_cut_row (sz := 1) 101 (.mk Tryd.underlying53 (by kernel_rfl)) (by intro x; rfl) .is .t (by rw [wrap_succ (by omega)]; omega) (by rw [wrap_succ (by omega), List.length_set]; omega)) r2 r1
        (cF rfl (o_assign .t (by rfl)) r1 trivial
        Chain.nil)))))
        (by kernel_rfl) (by rw [hB]; kernel_rfl) ?_
      clear hS; intro a w F hS
      replace hS := hS.sub
      obtain ⟨F, hS⟩ := hS.norm [(8, _)] [(0, _), (101, _)] r1 r2
      try dsimp only [RS.sub, SF.sub, CF.sub, csub, Anc.sub, List.map] at hS
      generalize Act.tau a 65 = v65 at hS
      have hfin : (q.set i rest).take (IntKind.wrap .i64 ((i : Int) + 1)).toNat = splitL c s0 := by
        rw [wrap_succ (by omega), Int.toNat_natCast, take_set (by omega), hq, hrest]
      refine then_n ?_
      refine wp_ret ?_
      obtain ⟨F, hS⟩ := hS.give 101 8 rfl rfl
      refine ret_P hfr hS rfl (.tmp rfl .nil) (.one (.sl hfin))
    ·skip
     simp at hc2

theorem split_c (s0 : List UInt8) (c : UInt8) (hs : s0.length ≤ 1000000) : FnP Tryd.prog 55 [.bs s0, .bs [c]] (.sl rS (splitL c s0)) := by
  refine FnP.mk Tryd.func55 rfl Tryd.ntmps55 rfl ?_
  intro B a w F hB hfr hS
  refine wp_seq ?_
  refine region_seq hS (by kernel_rfl)
    (cF rfl (o_assign (.c rfl) (by rfl)) trivial trivial
    Chain.nil)
    (by kernel_rfl) (by rw [hB]; kernel_rfl) ?_
  clear hS; intro a w F hS
  obtain ⟨F, hS⟩ := hS.norm [(0, _), (1, _), (4, _)] [(0, _)] r3 r1
  refine then_n ?_
  refine wp_seq ?_
  refine region_seq hS (by kernel_rfl)
    (cF rfl (o_move .t (by rfl)) r1 trivial
    (cF rfl (o_move .t (by rfl)) r1 trivial
    (cF rfl (o_callP (genSplit_c s0 c hs) Tryd.func64 rfl (by kernel_rfl) (Args.four .t .t (.ci (by kernel_rfl)) (.ci (by kernel_rfl)))) r2 trivial
    (cF rfl (o_assign .t (by rfl)) r1 trivial
    Chain.nil))))
    (by kernel_rfl) (by rw [hB]; kernel_rfl) ?_
  clear hS; intro a w F hS
  obtain ⟨F, hS⟩ := hS.norm [(4, _)] [(0, _)] r1 r1
  refine then_n ?_
  refine wp_ret ?_
  refine ret_P hfr hS rfl (.tmp rfl .nil) (.one .refl)

end Go.Proofs.YtjdcnjemhjldoaaDoor
