/- Forms of operations cut. No condition beyond those that each theorem says. -/
import Derived.Test.YtjdcnjemhjldoaaDoorOp2
import Derived.Test.YtjdcnjemhjldoaaDoorLx1
namespace Go.Proofs.YtjdcnjemhjldoaaDoor
open Go Go.Gm
set_option linter.unusedVariables false
set_option linter.unusedSimpArgs false
set_option maxHeartbeats 4000000
set_option maxRecDepth 8000


theorem cut0_c (s : List UInt8) (c : UInt8) : FnP Tryd.prog 60 [.bs s, .bs [c]] (.tup [.bs (cutL c s).1, .bs (cutL c s).2.1, .bool (cutL c s).2.2]) := by
  refine FnP.mk Tryd.func60 rfl Tryd.ntmps60 rfl ?_
  intro B a w F hB hfr hS
  have hlen := Sat.lenBs hS (i := 0) rfl
  refine wp_seq ?_
  refine region_seq hS (by kernel_rfl)
    (cF rfl (o_assign (.cs (by kernel_rfl)) (by rfl)) trivial trivial
    (cF rfl (o_assign (.cs (by kernel_rfl)) (by rfl)) trivial trivial
    (cF rfl (o_assign .cb (by rfl)) trivial trivial
    Chain.nil)))
    (by kernel_rfl) (by rw [hB]; kernel_rfl) ?_
  clear hS; intro a w F hS
  obtain ⟨F, hS⟩ := hS.norm [(0, _), (1, _), (4, _), (5, _), (6, _)] [(0, _)] r5 r1
  refine then_n ?_
  refine wp_seq ?_
  refine wp_seq ?_
  refine region_seq hS (by kernel_rfl)
    (cF rfl (o_move .t (by rfl)) r1 trivial
    (cF rfl (o_move .t (by rfl)) r1 trivial
    (cF rfl (o_callP (index0_c s c) Tryd.func65 rfl (by kernel_rfl) (Args.two .t .t)) r2 trivial
    (cF rfl (o_assign .t (by rfl)) r1 trivial
    Chain.nil))))
    (by kernel_rfl) (by rw [hB]; kernel_rfl) ?_
  clear hS; intro a w F hS
  obtain ⟨F, hS⟩ := hS.norm [(0, _), (1, _), (4, _), (5, _), (6, _), (7, _)] [(0, _)] r6 r1
  refine then_n ?_
  refine wp_seq ?_
  refine region_seq hS (by kernel_rfl)
    (cF rfl (o_move .t (by rfl)) r1 trivial
    (cF rfl (o_geq .t (.ci (by kernel_rfl))) r1 trivial
    Chain.nil))
    (by kernel_rfl) (by rw [hB]; kernel_rfl) ?_
  clear hS; intro a w F hS
  obtain ⟨F, hS⟩ := hS.norm [(0, _), (1, _), (4, _), (5, _), (6, _), (7, _), (12, _)] [(0, _)] r7 r1
  refine then_n ?_
  refine cond_b hS rfl (fun hc0 => ?_) (fun hc0 => ?_)
  ·skip
   have h0 : 0 ≤ Lib.indexByte s c := by simpa using hc0
   have hb := indexByte_lt c s
   have hw : IntKind.wrap .i64 (Lib.indexByte s c + (([c].length : Nat) : Int)) = (((Lib.indexByte s c).toNat + 1 : Nat) : Int) := by rw [List.length_singleton, wrap_i64 (by omega)]; omega
   have hcut : cutL c s = (s.take (Lib.indexByte s c).toNat, s.drop ((Lib.indexByte s c).toNat + 1), true) := by unfold cutL; rw [if_neg (by omega)]
   refine wp_seq ?_
   refine region_any (by kernel_rfl) hS (by kernel_rfl)
     (cF rfl (o_move .t (by rfl)) r1 trivial
     (cF rfl (o_move .t (by rfl)) r1 trivial
     (cF rfl (o_slice_bs_hi Tryd.underlying9 .t .t (by omega) (by omega)) r2 trivial
     (cF rfl (o_move .t (by rfl)) r1 trivial
     (cF rfl (o_move .t (by rfl)) r1 trivial
     (cF rfl (o_move .t (by rfl)) r1 trivial
     (cF rfl (o_len_bs Tryd.underlying9 .t) r1 trivial
     (cF rfl (o_add .t .t) r2 trivial
     (cF rfl (o_slice_bs_lo Tryd.underlying9 .t .t (by rw [hw]; omega) (by rw [hw]; omega)) r2 trivial
     (cF rfl (o_assign .t (by rfl)) r1 trivial
     (cF rfl (o_assign .t (by rfl)) r1 trivial
     (cF rfl (o_assign .cb (by rfl)) trivial trivial
     Chain.nil))))))))))))
     (by kernel_rfl) (by rw [hB]; kernel_rfl) ?_
   clear hS; intro a w F hS
   obtain ⟨F, hS⟩ := hS.norm [(0, _), (4, _), (5, _), (6, _)] [(0, _)] r4 r1
   refine then_n ?_
   refine wp_ret ?_
   refine then_r ?_
   refine ret_P hfr hS rfl (.tmp rfl (.tmp rfl (.tmp rfl .nil))) (.three (.bs (by rw [hcut])) (.bs (by first | rw [hcut]; done | (rw [hcut]; show List.drop (IntKind.wrap .i64 (Lib.indexByte s c + (([c].length : Nat) : Int))).toNat s = _; rw [hw]; rfl))) (.bool (by rw [hcut])))
  ·skip
   have hcut : cutL c s = (s, [], false) := by unfold cutL; rw [if_pos (by simpa using hc0)]
   refine wp_skip ?_
   refine then_n ?_
   refine wp_seq ?_
   refine region_seq hS (by kernel_rfl)
     (cF rfl (o_move .t (by rfl)) r1 trivial
     (cF rfl (o_assign .t (by rfl)) r1 trivial
     (cF rfl (o_assign (.cs (by kernel_rfl)) (by rfl)) trivial trivial
     (cF rfl (o_assign .cb (by rfl)) trivial trivial
     Chain.nil))))
     (by kernel_rfl) (by rw [hB]; kernel_rfl) ?_
   clear hS; intro a w F hS
   obtain ⟨F, hS⟩ := hS.norm [(4, _), (5, _), (6, _)] [(0, _)] r3 r1
   refine then_n ?_
   refine wp_ret ?_
   refine ret_P hfr hS rfl (.tmp rfl (.tmp rfl (.tmp rfl .nil))) (.three (.bs (by rw [hcut])) (.bs (by first | rw [hcut]; done | (rw [hcut]; show List.drop (IntKind.wrap .i64 (Lib.indexByte s c + (([c].length : Nat) : Int))).toNat s = _; rw [hw]; rfl))) (.bool (by rw [hcut])))

theorem cutS_c (s : List UInt8) (c : UInt8) : FnP Tryd.prog 46 [.bs s, .bs [c]] (.tup [.bs (cutL c s).1, .bs (cutL c s).2.1, .bool (cutL c s).2.2]) := by
  refine FnP.mk Tryd.func46 rfl Tryd.ntmps46 rfl ?_
  intro B a w F hB hfr hS
  refine wp_seq ?_
  refine region_seq hS (by kernel_rfl)
    (cF rfl (o_assign (.cs (by kernel_rfl)) (by rfl)) trivial trivial
    (cF rfl (o_assign (.cs (by kernel_rfl)) (by rfl)) trivial trivial
    (cF rfl (o_assign .cb (by rfl)) trivial trivial
    Chain.nil)))
    (by kernel_rfl) (by rw [hB]; kernel_rfl) ?_
  clear hS; intro a w F hS
  obtain ⟨F, hS⟩ := hS.norm [(0, _), (1, _), (4, _), (5, _), (6, _)] [(0, _)] r5 r1
  refine then_n ?_
  refine wp_seq ?_
  refine region_seq hS (by kernel_rfl)
    (cF rfl (o_move .t (by rfl)) r1 trivial
    (cF rfl (o_move .t (by rfl)) r1 trivial
    (cF rfl (o_callP (cut0_c s c) Tryd.func60 rfl (by kernel_rfl) (Args.two .t .t)) r2 trivial
    (cF rfl (o_extract .t rfl) r1 trivial
    (cF rfl (o_extract .t rfl) r1 trivial
    (cF rfl (o_extract .t rfl) r1 trivial
    (cF rfl (o_assign .t (by rfl)) r1 trivial
    (cF rfl (o_assign .t (by rfl)) r1 trivial
    (cF rfl (o_assign .t (by rfl)) r1 trivial
    Chain.nil)))))))))
    (by kernel_rfl) (by rw [hB]; kernel_rfl) ?_
  clear hS; intro a w F hS
  obtain ⟨F, hS⟩ := hS.norm [(4, _), (5, _), (6, _)] [(0, _)] r3 r1
  refine then_n ?_
  refine wp_ret ?_
  refine ret_P hfr hS rfl (.tmp rfl (.tmp rfl (.tmp rfl .nil))) (.three .refl .refl .refl)

theorem opCut_c (s0 : List UInt8) (hne : s0 ≠ []) (hs : s0.length ≤ 9223372036854775807) : FnP Tryd.prog 23 [.bs s0] (.tup [.sl rS (opCut s0).1, .bool (opCut s0).2]) := by
  refine FnP.mk Tryd.func23 rfl Tryd.ntmps23 rfl ?_
  intro B a w F hB hfr hS
  have hlp := List.length_pos_iff.2 hne
  have hpl := parts_len (s0.drop 1)
  refine wp_seq ?_
  refine region_seq hS (by kernel_rfl)
    (cF rfl (o_assign (.c rfl) (by rfl)) trivial trivial
    (cF rfl (o_assign .cb (by rfl)) trivial trivial
    Chain.nil))
    (by kernel_rfl) (by rw [hB]; kernel_rfl) ?_
  clear hS; intro a w F hS
  obtain ⟨F, hS⟩ := hS.norm [(0, _), (2, _), (3, _)] [(0, _)] r3 r1
  refine then_n ?_
  refine wp_seq ?_
  refine region_seq hS (by kernel_rfl)
    (cF rfl (o_move .t (by rfl)) r1 trivial
    (cF rfl (o_slice_bs_lo Tryd.underlying9 .t (.ci (by kernel_rfl)) (by decide) (by omega)) r1 trivial
    (cF rfl (o_callP (cutS_c (s0.drop 1) 64) Tryd.func46 rfl (by kernel_rfl) (Args.two .t (.cs (by kernel_rfl)))) r1 trivial
    (cF rfl (o_move .t (by rfl)) r1 trivial
    (cF rfl (o_extract .t rfl) r1 trivial
    (cF rfl (o_extract .t rfl) r1 trivial
    (cF rfl (o_extract .t rfl) r1 trivial
    (cF rfl (o_assign .t (by rfl)) r1 trivial
    (cF rfl (o_assign .t (by rfl)) r1 trivial
    (cF rfl (o_assign .t (by rfl)) r1 trivial
    Chain.nil))))))))))
    (by kernel_rfl) (by rw [hB]; kernel_rfl) ?_
  clear hS; intro a w F hS
  obtain ⟨F, hS⟩ := hS.norm [(0, _), (2, _), (3, _), (4, _), (5, _), (6, _)] [(0, _)] r6 r1
  refine then_n ?_
  refine wp_seq ?_
  refine region_seq hS (by kernel_rfl)
    (cF rfl (o_move .t (by rfl)) r1 trivial
    (cF rfl (o_buildRow (R := rS) (l := [(cutL 64 (s0.drop 1)).1]) (sz := 1) (zs := [.string ⟨#[]⟩]) (r := [(0, .tmp 19)]) 101 Tryd.underlying53 (by kernel_rfl) (by kernel_rfl) (by kernel_rfl) (by kernel_rfl) rfl rfl (.one rfl .t one_str (by kernel_rfl) .nil) rfl rfl (by intro x; rfl)) r1 trivial
    (cF rfl (o_assign .t (by rfl)) r1 trivial
    Chain.nil)))
    (by kernel_rfl) (by rw [hB]; kernel_rfl) ?_
  clear hS; intro a w F hS
  replace hS := hS.sub
  obtain ⟨F, hS⟩ := hS.norm [(0, _), (2, _), (3, _), (5, _), (6, _)] [(0, _), (101, _)] r5 r2
  try dsimp only [RS.sub, SF.sub, CF.sub, csub, Anc.sub, List.map, stCells, List.length_cons, List.length_nil, Nat.reduceAdd, List.drop_succ_cons, List.drop_zero, List.drop_nil, List.take_succ_cons, List.take_zero, List.take_nil, List.cons_append, List.nil_append, zCF] at hS
  generalize Act.tau a 20 = v20 at hS
  refine then_n ?_
  refine wp_seq ?_
  refine wp_seq ?_
  refine region_seq hS (by kernel_rfl)
    (cF rfl (o_move .t (by rfl)) r1 trivial
    Chain.nil)
    (by kernel_rfl) (by rw [hB]; kernel_rfl) ?_
  clear hS; intro a w F hS
  obtain ⟨F, hS⟩ := hS.norm [(0, _), (2, _), (3, _), (5, _), (6, _), (21, _)] [(0, _), (101, _)] r6 r2
  refine then_n ?_
  refine cond_b hS rfl (fun hc0 => ?_) (fun hc0 => ?_)
  ·skip
   have hk : (cutL 64 (s0.drop 1)).2.2 = true := hc0
   refine wp_seq ?_
   refine region_seq hS (by kernel_rfl)
     (cF rfl (o_move .t (by rfl)) r1 trivial
     (cF rfl (o_callP (cutS_c (cutL 64 (s0.drop 1)).2.1 46) Tryd.func46 rfl (by kernel_rfl) (Args.two .t (.cs (by kernel_rfl)))) r1 trivial
     (cF rfl (o_move .t (by rfl)) r1 trivial
     (cF rfl (o_extract .t rfl) r1 trivial
     (cF rfl (o_extract .t rfl) r1 trivial
     (cF rfl (o_extract .t rfl) r1 trivial
     (cF rfl (o_assign .t (by rfl)) r1 trivial
     (cF rfl (o_assign .t (by rfl)) r1 trivial
     (cF rfl (o_assign .t (by rfl)) r1 trivial
     Chain.nil)))))))))
     (by kernel_rfl) (by rw [hB]; kernel_rfl) ?_
   clear hS; intro a w F hS
   obtain ⟨F, hS⟩ := hS.norm [(0, _), (2, _), (3, _), (6, _), (7, _), (8, _), (9, _)] [(0, _), (101, _)] r7 r2
   refine then_n ?_
   refine wp_seq ?_
   refine region_seq hS (by kernel_rfl)
     (cF rfl (o_move .t (by rfl)) r1 trivial
     (cF rfl (o_move .t (by rfl)) r1 trivial
     (cF rfl (o_buildSliceE (sz := 1) (zs := [.string ⟨#[]⟩]) (r := [(0, .tmp 29)]) (l := [_]) Tryd.underlying53 (by kernel_rfl) (by kernel_rfl) (by kernel_rfl) (by kernel_rfl) rfl rfl (.one rfl .t one_str (by kernel_rfl) .nil) rfl) r1 trivial
     (cF rfl (o_append (sz := 1) (bs := 16) 101 (.mk' Tryd.underlying53 (by kernel_rfl) (by kernel_rfl)) (by intro x; rfl) .is (.arr (l' := [(cutL 46 (cutL 64 (s0.drop 1)).2.1).1]) .t) (by simp) (by decide)) ⟨rfl, rfl, trivial⟩ ⟨rfl, trivial⟩
     (cF rfl (o_assign .t (by rfl)) r1 trivial
     Chain.nil)))))
     (by kernel_rfl) (by rw [hB]; kernel_rfl) ?_
   clear hS; intro a w F hS
   replace hS := hS.sub
   obtain ⟨F, hS⟩ := hS.norm [(0, _), (2, _), (3, _), (6, _), (8, _), (9, _)] [(0, _), (101, _)] r6 r2
   try dsimp only [RS.sub, SF.sub, CF.sub, csub, Anc.sub, List.map, stCells, List.length_cons, List.length_nil, Nat.reduceAdd, List.drop_succ_cons, List.drop_zero, List.drop_nil, List.take_succ_cons, List.take_zero, List.take_nil, List.cons_append, List.nil_append, zCF] at hS
   generalize Act.tau a 31 = v31 at hS
   refine then_n ?_
   refine wp_seq ?_
   refine region_seq hS (by kernel_rfl)
     (cF rfl (o_move .t (by rfl)) r1 trivial
     Chain.nil)
     (by kernel_rfl) (by rw [hB]; kernel_rfl) ?_
   clear hS; intro a w F hS
   obtain ⟨F, hS⟩ := hS.norm [(0, _), (2, _), (3, _), (6, _), (8, _), (32, _)] [(0, _), (101, _)] r6 r2
   refine then_n ?_
   refine cond_b hS rfl (fun hc1 => ?_) (fun hc1 => ?_)
   ·skip
    have hP : [(cutL 64 (s0.drop 1)).1, (cutL 46 (cutL 64 (s0.drop 1)).2.1).1, (cutL 46 (cutL 64 (s0.drop 1)).2.1).2.1] = (partsL (s0.drop 1)) := by unfold partsL; rw [if_pos hk, if_pos hc1]
    refine region_seq hS (by kernel_rfl)
      (cF rfl (o_move .t (by rfl)) r1 trivial
      (cF rfl (o_move .t (by rfl)) r1 trivial
      (cF rfl (o_buildSliceE (sz := 1) (zs := [.string ⟨#[]⟩]) (r := [(0, .tmp 34)]) (l := [_]) Tryd.underlying53 (by kernel_rfl) (by kernel_rfl) (by kernel_rfl) (by kernel_rfl) rfl rfl (.one rfl .t one_str (by kernel_rfl) .nil) rfl) r1 trivial
      (cF rfl (o_append (sz := 1) (bs := 16) 101 (.mk' Tryd.underlying53 (by kernel_rfl) (by kernel_rfl)) (by intro x; rfl) .is (.arr (l' := [(cutL 46 (cutL 64 (s0.drop 1)).2.1).2.1]) .t) (by simp) (by decide)) ⟨rfl, rfl, trivial⟩ ⟨rfl, trivial⟩
      (cF rfl (o_assign .t (by rfl)) r1 trivial
      Chain.nil)))))
      (by kernel_rfl) (by rw [hB]; kernel_rfl) ?_
    clear hS; intro a w F hS
    replace hS := hS.sub
    obtain ⟨F, hS⟩ := hS.norm [(0, _), (2, _), (3, _), (6, _)] [(0, _), (101, _)] r4 r2
    try dsimp only [RS.sub, SF.sub, CF.sub, csub, Anc.sub, List.map, stCells, List.length_cons, List.length_nil, Nat.reduceAdd, List.drop_succ_cons, List.drop_zero, List.drop_nil, List.take_succ_cons, List.take_zero, List.take_nil, List.cons_append, List.nil_append, zCF] at hS
    generalize Act.tau a 36 = v36 at hS
    refine then_n ?_
    refine wp_seq ?_
    refine wp_seq ?_
    rw [hP] at hS
    obtain ⟨F, hS⟩ := hS.give 101 2 rfl rfl
    obtain ⟨F, hS⟩ := hS.norm [(0, _), (2, _), (3, _), (6, _)] [(0, _)] r4 r1
    refine region_seq hS (by kernel_rfl)
      (cF rfl (o_move .t (by rfl)) r1 trivial
      (cF rfl (o_len_sl Tryd.underlying53 .t) r1 trivial
      (cF rfl (o_move (.ci (by kernel_rfl)) (by rfl)) trivial trivial
      Chain.nil)))
      (by kernel_rfl) (by rw [hB]; kernel_rfl) ?_
    clear hS; intro a w F hS
    obtain ⟨F, hS⟩ := hS.norm [(0, _), (2, _), (3, _), (6, _), (37, _), (38, _), (39, _)] [(0, _)] r7 r1
    refine then_n ?_
    refine wp_block ?_
    obtain ⟨F, hS⟩ := hS.norm [(0, _), (2, _), (6, _), (37, _), (38, _), (39, _)] [(0, _)] r6 r1
    refine loop_inv (σ := Nat) (fun s => (⟨[(0, .pv (.bs s0)), (2, .pv (.sl rS (partsL (s0.drop 1)))), (6, .pv (.bool (cutL 64 (s0.drop 1)).2.2)), (37, .pv (.sl rS (partsL (s0.drop 1)))), (38, .pv (.int .i64 ((partsL (s0.drop 1)).length : Nat))), (39, .pv (.int .i64 (s : Nat)))], [(0, frame B)]⟩ : En)) (fun s => s ≤ (partsL (s0.drop 1)).length ∧ ∀ j, j < s → figs (nth (partsL (s0.drop 1)) j) = true) (fun s => (partsL (s0.drop 1)).length - s) 0 hS ⟨Nat.zero_le _, fun j hj => absurd hj (Nat.not_lt_zero _)⟩ ?_
    clear hS; intro i a w F hC hS
    try dsimp only at hC
    try dsimp only at hS
    obtain ⟨hi0, hq⟩ := hC
    refine wp_seq ?_
    refine region_seq hS (by kernel_rfl)
      (cF rfl (o_lss .t .t) r2 trivial
      Chain.nil)
      (by kernel_rfl) (by rw [hB]; kernel_rfl) ?_
    clear hS; intro a w F hS
    obtain ⟨F, hS⟩ := hS.norm [(0, _), (2, _), (6, _), (37, _), (38, _), (39, _), (40, _)] [(0, _)] r7 r1
    refine then_n ?_
    refine wp_seq ?_
    refine cond_b hS rfl (fun hc2 => ?_) (fun hc2 => ?_)
    ·skip
     have hi : i < (partsL (s0.drop 1)).length := by have h9 := of_decide_eq_true hc2; omega
     refine wp_skip ?_
     refine then_n ?_
     refine wp_seq ?_
     refine wp_block ?_
     refine wp_seq ?_
     refine region_seq hS (by kernel_rfl)
       (cF rfl (o_indexAddr_sl (sz := 1) (.mk Tryd.underlying53 (by kernel_rfl)) (by intro x; rfl) .t .t (by omega) (by omega)) r2 trivial
       (cF rfl (o_load_ref (ag := false) (sz := 1) .t (by kernel_rfl) (by kernel_rfl) (by kernel_rfl)) r1 trivial
       (cF rfl (o_assign .t (by rfl)) r1 trivial
       Chain.nil)))
       (by kernel_rfl) (by rw [hB]; kernel_rfl) ?_
     clear hS; intro a w F hS
     obtain ⟨F, hS⟩ := hS.norm [(0, _), (2, _), (6, _), (11, _), (37, _), (38, _), (39, _), (40, _), (41, _), (42, _)] [(0, _)] ⟨rfl, rfl, rfl, rfl, rfl, rfl, rfl, rfl, rfl, rfl, trivial⟩ r1
     try dsimp only [List.map, List.drop_succ_cons, List.drop_zero, List.drop_nil, List.take_succ_cons, List.take_zero, List.take_nil, ldSF] at hS
     rw [Int.toNat_natCast] at hS
     refine then_n ?_
     refine wp_seq ?_
     refine region_seq hS (by kernel_rfl)
       (cF rfl (o_move .t (by rfl)) r1 trivial
       (cF rfl (o_callP (figures_c (nth (partsL (s0.drop 1)) i) (by have h9 := parts_small _ _ (nth_mem hi); rw [List.length_drop] at h9; omega)) Tryd.func47 rfl (by kernel_rfl) (Args.one .t)) r1 trivial
       (cF rfl (o_not .t) r1 trivial
       Chain.nil)))
       (by kernel_rfl) (by rw [hB]; kernel_rfl) ?_
     clear hS; intro a w F hS
     obtain ⟨F, hS⟩ := hS.norm [(0, _), (2, _), (6, _), (11, _), (37, _), (38, _), (39, _), (40, _), (41, _), (42, _), (43, _), (44, _), (45, _)] [(0, _)] ⟨rfl, rfl, rfl, rfl, rfl, rfl, rfl, rfl, rfl, rfl, rfl, rfl, rfl, trivial⟩ r1
     refine then_n ?_
     refine cond_b hS rfl (fun hc3 => ?_) (fun hc3 => ?_)
     ·skip
      have hbad : ¬ (partsL (s0.drop 1)).all figs = true := by
        intro h
        rw [List.all_eq_true] at h
        have h9 := h _ (nth_mem hi)
        rw [h9] at hc3
        cases hc3
      refine wp_seq ?_
      refine region_seq hS (by kernel_rfl)
        (cF rfl (o_assign (.c rfl) (by rfl)) trivial trivial
        (cF rfl (o_assign .cb (by rfl)) trivial trivial
        Chain.nil))
        (by kernel_rfl) (by rw [hB]; kernel_rfl) ?_
      clear hS; intro a w F hS
      obtain ⟨F, hS⟩ := hS.norm [(0, _), (2, _), (3, _), (6, _), (11, _), (37, _), (38, _), (39, _), (40, _), (41, _), (42, _), (43, _), (44, _), (45, _)] [(0, _)] ⟨rfl, rfl, rfl, rfl, rfl, rfl, rfl, rfl, rfl, rfl, rfl, rfl, rfl, rfl, trivial⟩ r1
      refine then_n ?_
      refine wp_ret ?_
      refine block_r ?_
      refine then_r ?_
      refine then_r ?_
      refine block_r ?_
      refine then_r ?_
      refine ret_P hfr hS rfl (.tmp rfl (.tmp rfl .nil)) (.two (.trans .nilSl (.sl (by unfold opCut; rw [if_neg hbad]))) (.bool (by unfold opCut; rw [if_neg hbad])))
     ·skip
      have hqi : figs (nth (partsL (s0.drop 1)) i) = true := by simpa using hc3
      refine wp_skip ?_
      refine block_n ?_
      refine then_n ?_
      refine region_seq hS (by kernel_rfl)
        (cF rfl (o_add .t (.ci (by kernel_rfl))) r1 trivial
        (cF rfl (o_move .t (by rfl)) r1 trivial
        Chain.nil))
        (by kernel_rfl) (by rw [hB]; kernel_rfl) ?_
      clear hS; intro a w F hS
      obtain ⟨F, hS⟩ := hS.norm [(0, _), (2, _), (6, _), (11, _), (37, _), (38, _), (39, _), (40, _), (41, _), (42, _), (43, _), (44, _), (45, _), (46, _)] [(0, _)] ⟨rfl, rfl, rfl, rfl, rfl, rfl, rfl, rfl, rfl, rfl, rfl, rfl, rfl, rfl, trivial⟩ r1
      refine then_n ?_
      replace hS := hS.ent (i := 39) (s' := .pv (.int .i64 ((i + 1 : Nat) : Int))) rfl (.int (wrap_succ (by omega)))
      obtain ⟨F, hS⟩ := hS.norm [(0, _), (2, _), (6, _), (37, _), (38, _), (39, _)] [(0, _)] r6 r1
      exact ⟨i + 1, F, ⟨by omega, fun j hj => (Nat.lt_or_ge j i).elim (hq j) (fun h1 => (show i = j by omega) ▸ hqi)⟩, hS, by omega⟩
    ·skip
     have hall : (partsL (s0.drop 1)).all figs = true := by
       rw [List.all_eq_true]
       intro x hx
       obtain ⟨j, hj, rfl⟩ := List.getElem_of_mem hx
       rw [← nth_eq hj]
       exact hq j (by have h9 := of_decide_eq_false hc2; omega)
     refine wp_exit ?_
     refine then_x ?_
     refine then_x ?_
     refine block_x ?_
     refine then_n ?_
     refine wp_seq ?_
     refine region_any (by kernel_rfl) hS (by kernel_rfl)
       (cF rfl (o_move .t (by rfl)) r1 trivial
       (cF rfl (o_move .t (by rfl)) r1 trivial
       (cF rfl (o_move .t (by rfl)) r1 trivial
       (cF rfl (o_index_bs Tryd.underlying9 .t (.ci (by kernel_rfl)) (by decide) (by omega)) r1 trivial
       (cF rfl (o_eql .t (.ci (by kernel_rfl))) r1 trivial
       (cF rfl (o_eqlB Tryd.underlying4 .t .t) r2 trivial
       (cF rfl (o_assign .t (by rfl)) r1 trivial
       (cF rfl (o_assign .t (by rfl)) r1 trivial
       Chain.nil))))))))
       (by kernel_rfl) (by rw [hB]; kernel_rfl) ?_
     clear hS; intro a w F hS
     obtain ⟨F, hS⟩ := hS.norm [(2, _), (3, _)] [(0, _)] r2 r1
     refine then_n ?_
     refine wp_ret ?_
     refine ret_P hfr hS rfl (.tmp rfl (.tmp rfl .nil)) (.two (.sl (by unfold opCut; rw [if_pos hall])) (.bool (by unfold opCut; rw [if_pos hall]; rfl)))
   ·skip
    have hP : [(cutL 64 (s0.drop 1)).1, (cutL 46 (cutL 64 (s0.drop 1)).2.1).1] = (partsL (s0.drop 1)) := by unfold partsL; rw [if_pos hk, if_neg (by rw [hc1]; decide)]
    refine wp_skip ?_
    refine then_n ?_
    refine wp_seq ?_
    refine wp_seq ?_
    rw [hP] at hS
    obtain ⟨F, hS⟩ := hS.give 101 2 rfl rfl
    obtain ⟨F, hS⟩ := hS.norm [(0, _), (2, _), (3, _), (6, _), (8, _), (32, _)] [(0, _)] r6 r1
    refine region_seq hS (by kernel_rfl)
      (cF rfl (o_move .t (by rfl)) r1 trivial
      (cF rfl (o_len_sl Tryd.underlying53 .t) r1 trivial
      (cF rfl (o_move (.ci (by kernel_rfl)) (by rfl)) trivial trivial
      Chain.nil)))
      (by kernel_rfl) (by rw [hB]; kernel_rfl) ?_
    clear hS; intro a w F hS
    obtain ⟨F, hS⟩ := hS.norm [(0, _), (2, _), (3, _), (6, _), (37, _), (38, _), (39, _)] [(0, _)] r7 r1
    refine then_n ?_
    refine wp_block ?_
    obtain ⟨F, hS⟩ := hS.norm [(0, _), (2, _), (6, _), (37, _), (38, _), (39, _)] [(0, _)] r6 r1
    refine loop_inv (σ := Nat) (fun s => (⟨[(0, .pv (.bs s0)), (2, .pv (.sl rS (partsL (s0.drop 1)))), (6, .pv (.bool (cutL 64 (s0.drop 1)).2.2)), (37, .pv (.sl rS (partsL (s0.drop 1)))), (38, .pv (.int .i64 ((partsL (s0.drop 1)).length : Nat))), (39, .pv (.int .i64 (s : Nat)))], [(0, frame B)]⟩ : En)) (fun s => s ≤ (partsL (s0.drop 1)).length ∧ ∀ j, j < s → figs (nth (partsL (s0.drop 1)) j) = true) (fun s => (partsL (s0.drop 1)).length - s) 0 hS ⟨Nat.zero_le _, fun j hj => absurd hj (Nat.not_lt_zero _)⟩ ?_
    clear hS; intro i a w F hC hS
    try dsimp only at hC
    try dsimp only at hS
    obtain ⟨hi0, hq⟩ := hC
    refine wp_seq ?_
    refine region_seq hS (by kernel_rfl)
      (cF rfl (o_lss .t .t) r2 trivial
      Chain.nil)
      (by kernel_rfl) (by rw [hB]; kernel_rfl) ?_
    clear hS; intro a w F hS
    obtain ⟨F, hS⟩ := hS.norm [(0, _), (2, _), (6, _), (37, _), (38, _), (39, _), (40, _)] [(0, _)] r7 r1
    refine then_n ?_
    refine wp_seq ?_
    refine cond_b hS rfl (fun hc4 => ?_) (fun hc4 => ?_)
    ·skip
     have hi : i < (partsL (s0.drop 1)).length := by have h9 := of_decide_eq_true hc4; omega
     refine wp_skip ?_
     refine then_n ?_
     refine wp_seq ?_
     refine wp_block ?_
     refine wp_seq ?_
     refine region_seq hS (by kernel_rfl)
       (cF rfl (o_indexAddr_sl (sz := 1) (.mk Tryd.underlying53 (by kernel_rfl)) (by intro x; rfl) .t .t (by omega) (by omega)) r2 trivial
       (cF rfl (o_load_ref (ag := false) (sz := 1) .t (by kernel_rfl) (by kernel_rfl) (by kernel_rfl)) r1 trivial
       (cF rfl (o_assign .t (by rfl)) r1 trivial
       Chain.nil)))
       (by kernel_rfl) (by rw [hB]; kernel_rfl) ?_
     clear hS; intro a w F hS
     obtain ⟨F, hS⟩ := hS.norm [(0, _), (2, _), (6, _), (11, _), (37, _), (38, _), (39, _), (40, _), (41, _), (42, _)] [(0, _)] ⟨rfl, rfl, rfl, rfl, rfl, rfl, rfl, rfl, rfl, rfl, trivial⟩ r1
     try dsimp only [List.map, List.drop_succ_cons, List.drop_zero, List.drop_nil, List.take_succ_cons, List.take_zero, List.take_nil, ldSF] at hS
     rw [Int.toNat_natCast] at hS
     refine then_n ?_
     refine wp_seq ?_
     refine region_seq hS (by kernel_rfl)
       (cF rfl (o_move .t (by rfl)) r1 trivial
       (cF rfl (o_callP (figures_c (nth (partsL (s0.drop 1)) i) (by have h9 := parts_small _ _ (nth_mem hi); rw [List.length_drop] at h9; omega)) Tryd.func47 rfl (by kernel_rfl) (Args.one .t)) r1 trivial
       (cF rfl (o_not .t) r1 trivial
       Chain.nil)))
       (by kernel_rfl) (by rw [hB]; kernel_rfl) ?_
     clear hS; intro a w F hS
     obtain ⟨F, hS⟩ := hS.norm [(0, _), (2, _), (6, _), (11, _), (37, _), (38, _), (39, _), (40, _), (41, _), (42, _), (43, _), (44, _), (45, _)] [(0, _)] ⟨rfl, rfl, rfl, rfl, rfl, rfl, rfl, rfl, rfl, rfl, rfl, rfl, rfl, trivial⟩ r1
     refine then_n ?_
     refine cond_b hS rfl (fun hc5 => ?_) (fun hc5 => ?_)
     ·skip
      have hbad : ¬ (partsL (s0.drop 1)).all figs = true := by
        intro h
        rw [List.all_eq_true] at h
        have h9 := h _ (nth_mem hi)
        rw [h9] at hc5
        cases hc5
      refine wp_seq ?_
      refine region_seq hS (by kernel_rfl)
        (cF rfl (o_assign (.c rfl) (by rfl)) trivial trivial
        (cF rfl (o_assign .cb (by rfl)) trivial trivial
        Chain.nil))
        (by kernel_rfl) (by rw [hB]; kernel_rfl) ?_
      clear hS; intro a w F hS
      obtain ⟨F, hS⟩ := hS.norm [(0, _), (2, _), (3, _), (6, _), (11, _), (37, _), (38, _), (39, _), (40, _), (41, _), (42, _), (43, _), (44, _), (45, _)] [(0, _)] ⟨rfl, rfl, rfl, rfl, rfl, rfl, rfl, rfl, rfl, rfl, rfl, rfl, rfl, rfl, trivial⟩ r1
      refine then_n ?_
      refine wp_ret ?_
      refine block_r ?_
      refine then_r ?_
      refine then_r ?_
      refine block_r ?_
      refine then_r ?_
      refine ret_P hfr hS rfl (.tmp rfl (.tmp rfl .nil)) (.two (.trans .nilSl (.sl (by unfold opCut; rw [if_neg hbad]))) (.bool (by unfold opCut; rw [if_neg hbad])))
     ·skip
      have hqi : figs (nth (partsL (s0.drop 1)) i) = true := by simpa using hc5
      refine wp_skip ?_
      refine block_n ?_
      refine then_n ?_
      refine region_seq hS (by kernel_rfl)
        (cF rfl (o_add .t (.ci (by kernel_rfl))) r1 trivial
        (cF rfl (o_move .t (by rfl)) r1 trivial
        Chain.nil))
        (by kernel_rfl) (by rw [hB]; kernel_rfl) ?_
      clear hS; intro a w F hS
      obtain ⟨F, hS⟩ := hS.norm [(0, _), (2, _), (6, _), (11, _), (37, _), (38, _), (39, _), (40, _), (41, _), (42, _), (43, _), (44, _), (45, _), (46, _)] [(0, _)] ⟨rfl, rfl, rfl, rfl, rfl, rfl, rfl, rfl, rfl, rfl, rfl, rfl, rfl, rfl, trivial⟩ r1
      refine then_n ?_
      replace hS := hS.ent (i := 39) (s' := .pv (.int .i64 ((i + 1 : Nat) : Int))) rfl (.int (wrap_succ (by omega)))
      obtain ⟨F, hS⟩ := hS.norm [(0, _), (2, _), (6, _), (37, _), (38, _), (39, _)] [(0, _)] r6 r1
      exact ⟨i + 1, F, ⟨by omega, fun j hj => (Nat.lt_or_ge j i).elim (hq j) (fun h1 => (show i = j by omega) ▸ hqi)⟩, hS, by omega⟩
    ·skip
     have hall : (partsL (s0.drop 1)).all figs = true := by
       rw [List.all_eq_true]
       intro x hx
       obtain ⟨j, hj, rfl⟩ := List.getElem_of_mem hx
       rw [← nth_eq hj]
       exact hq j (by have h9 := of_decide_eq_false hc4; omega)
     refine wp_exit ?_
     refine then_x ?_
     refine then_x ?_
     refine block_x ?_
     refine then_n ?_
     refine wp_seq ?_
     refine region_any (by kernel_rfl) hS (by kernel_rfl)
       (cF rfl (o_move .t (by rfl)) r1 trivial
       (cF rfl (o_move .t (by rfl)) r1 trivial
       (cF rfl (o_move .t (by rfl)) r1 trivial
       (cF rfl (o_index_bs Tryd.underlying9 .t (.ci (by kernel_rfl)) (by decide) (by omega)) r1 trivial
       (cF rfl (o_eql .t (.ci (by kernel_rfl))) r1 trivial
       (cF rfl (o_eqlB Tryd.underlying4 .t .t) r2 trivial
       (cF rfl (o_assign .t (by rfl)) r1 trivial
       (cF rfl (o_assign .t (by rfl)) r1 trivial
       Chain.nil))))))))
       (by kernel_rfl) (by rw [hB]; kernel_rfl) ?_
     clear hS; intro a w F hS
     obtain ⟨F, hS⟩ := hS.norm [(2, _), (3, _)] [(0, _)] r2 r1
     refine then_n ?_
     refine wp_ret ?_
     refine ret_P hfr hS rfl (.tmp rfl (.tmp rfl .nil)) (.two (.sl (by unfold opCut; rw [if_pos hall])) (.bool (by unfold opCut; rw [if_pos hall]; rfl)))
  ·skip
   have hP : [(cutL 64 (s0.drop 1)).1] = (partsL (s0.drop 1)) := by unfold partsL; rw [if_neg (by rw [hc0]; decide)]
   refine wp_skip ?_
   refine then_n ?_
   refine wp_seq ?_
   refine wp_seq ?_
   rw [hP] at hS
   obtain ⟨F, hS⟩ := hS.give 101 2 rfl rfl
   obtain ⟨F, hS⟩ := hS.norm [(0, _), (2, _), (3, _), (5, _), (6, _), (21, _)] [(0, _)] r6 r1
   refine region_seq hS (by kernel_rfl)
     (cF rfl (o_move .t (by rfl)) r1 trivial
     (cF rfl (o_len_sl Tryd.underlying53 .t) r1 trivial
     (cF rfl (o_move (.ci (by kernel_rfl)) (by rfl)) trivial trivial
     Chain.nil)))
     (by kernel_rfl) (by rw [hB]; kernel_rfl) ?_
   clear hS; intro a w F hS
   obtain ⟨F, hS⟩ := hS.norm [(0, _), (2, _), (3, _), (6, _), (37, _), (38, _), (39, _)] [(0, _)] r7 r1
   refine then_n ?_
   refine wp_block ?_
   obtain ⟨F, hS⟩ := hS.norm [(0, _), (2, _), (6, _), (37, _), (38, _), (39, _)] [(0, _)] r6 r1
   refine loop_inv (σ := Nat) (fun s => (⟨[(0, .pv (.bs s0)), (2, .pv (.sl rS (partsL (s0.drop 1)))), (6, .pv (.bool (cutL 64 (s0.drop 1)).2.2)), (37, .pv (.sl rS (partsL (s0.drop 1)))), (38, .pv (.int .i64 ((partsL (s0.drop 1)).length : Nat))), (39, .pv (.int .i64 (s : Nat)))], [(0, frame B)]⟩ : En)) (fun s => s ≤ (partsL (s0.drop 1)).length ∧ ∀ j, j < s → figs (nth (partsL (s0.drop 1)) j) = true) (fun s => (partsL (s0.drop 1)).length - s) 0 hS ⟨Nat.zero_le _, fun j hj => absurd hj (Nat.not_lt_zero _)⟩ ?_
   clear hS; intro i a w F hC hS
   try dsimp only at hC
   try dsimp only at hS
   obtain ⟨hi0, hq⟩ := hC
   refine wp_seq ?_
   refine region_seq hS (by kernel_rfl)
     (cF rfl (o_lss .t .t) r2 trivial
     Chain.nil)
     (by kernel_rfl) (by rw [hB]; kernel_rfl) ?_
   clear hS; intro a w F hS
   obtain ⟨F, hS⟩ := hS.norm [(0, _), (2, _), (6, _), (37, _), (38, _), (39, _), (40, _)] [(0, _)] r7 r1
   refine then_n ?_
   refine wp_seq ?_
   refine cond_b hS rfl (fun hc6 => ?_) (fun hc6 => ?_)
   ·skip
    have hi : i < (partsL (s0.drop 1)).length := by have h9 := of_decide_eq_true hc6; omega
    refine wp_skip ?_
    refine then_n ?_
    refine wp_seq ?_
    refine wp_block ?_
    refine wp_seq ?_
    refine region_seq hS (by kernel_rfl)
      (cF rfl (o_indexAddr_sl (sz := 1) (.mk Tryd.underlying53 (by kernel_rfl)) (by intro x; rfl) .t .t (by omega) (by omega)) r2 trivial
      (cF rfl (o_load_ref (ag := false) (sz := 1) .t (by kernel_rfl) (by kernel_rfl) (by kernel_rfl)) r1 trivial
      (cF rfl (o_assign .t (by rfl)) r1 trivial
      Chain.nil)))
      (by kernel_rfl) (by rw [hB]; kernel_rfl) ?_
    clear hS; intro a w F hS
    obtain ⟨F, hS⟩ := hS.norm [(0, _), (2, _), (6, _), (11, _), (37, _), (38, _), (39, _), (40, _), (41, _), (42, _)] [(0, _)] ⟨rfl, rfl, rfl, rfl, rfl, rfl, rfl, rfl, rfl, rfl, trivial⟩ r1
    try dsimp only [List.map, List.drop_succ_cons, List.drop_zero, List.drop_nil, List.take_succ_cons, List.take_zero, List.take_nil, ldSF] at hS
    rw [Int.toNat_natCast] at hS
    refine then_n ?_
    refine wp_seq ?_
    refine region_seq hS (by kernel_rfl)
      (cF rfl (o_move .t (by rfl)) r1 trivial
      (cF rfl (o_callP (figures_c (nth (partsL (s0.drop 1)) i) (by have h9 := parts_small _ _ (nth_mem hi); rw [List.length_drop] at h9; omega)) Tryd.func47 rfl (by kernel_rfl) (Args.one .t)) r1 trivial
      (cF rfl (o_not .t) r1 trivial
      Chain.nil)))
      (by kernel_rfl) (by rw [hB]; kernel_rfl) ?_
    clear hS; intro a w F hS
    obtain ⟨F, hS⟩ := hS.norm [(0, _), (2, _), (6, _), (11, _), (37, _), (38, _), (39, _), (40, _), (41, _), (42, _), (43, _), (44, _), (45, _)] [(0, _)] ⟨rfl, rfl, rfl, rfl, rfl, rfl, rfl, rfl, rfl, rfl, rfl, rfl, rfl, trivial⟩ r1
    refine then_n ?_
    refine cond_b hS rfl (fun hc7 => ?_) (fun hc7 => ?_)
    ·skip
     have hbad : ¬ (partsL (s0.drop 1)).all figs = true := by
       intro h
       rw [List.all_eq_true] at h
       have h9 := h _ (nth_mem hi)
       rw [h9] at hc7
       cases hc7
     refine wp_seq ?_
     refine region_seq hS (by kernel_rfl)
       (cF rfl (o_assign (.c rfl) (by rfl)) trivial trivial
       (cF rfl (o_assign .cb (by rfl)) trivial trivial
       Chain.nil))
       (by kernel_rfl) (by rw [hB]; kernel_rfl) ?_
     clear hS; intro a w F hS
     obtain ⟨F, hS⟩ := hS.norm [(0, _), (2, _), (3, _), (6, _), (11, _), (37, _), (38, _), (39, _), (40, _), (41, _), (42, _), (43, _), (44, _), (45, _)] [(0, _)] ⟨rfl, rfl, rfl, rfl, rfl, rfl, rfl, rfl, rfl, rfl, rfl, rfl, rfl, rfl, trivial⟩ r1
     refine then_n ?_
     refine wp_ret ?_
     refine block_r ?_
     refine then_r ?_
     refine then_r ?_
     refine block_r ?_
     refine then_r ?_
     refine ret_P hfr hS rfl (.tmp rfl (.tmp rfl .nil)) (.two (.trans .nilSl (.sl (by unfold opCut; rw [if_neg hbad]))) (.bool (by unfold opCut; rw [if_neg hbad])))
    ·skip
     have hqi : figs (nth (partsL (s0.drop 1)) i) = true := by simpa using hc7
     refine wp_skip ?_
     refine block_n ?_
     refine then_n ?_
     refine region_seq hS (by kernel_rfl)
       (cF rfl (o_add .t (.ci (by kernel_rfl))) r1 trivial
       (cF rfl (o_move .t (by rfl)) r1 trivial
       Chain.nil))
       (by kernel_rfl) (by rw [hB]; kernel_rfl) ?_
     clear hS; intro a w F hS
     obtain ⟨F, hS⟩ := hS.norm [(0, _), (2, _), (6, _), (11, _), (37, _), (38, _), (39, _), (40, _), (41, _), (42, _), (43, _), (44, _), (45, _), (46, _)] [(0, _)] ⟨rfl, rfl, rfl, rfl, rfl, rfl, rfl, rfl, rfl, rfl, rfl, rfl, rfl, rfl, trivial⟩ r1
     refine then_n ?_
     replace hS := hS.ent (i := 39) (s' := .pv (.int .i64 ((i + 1 : Nat) : Int))) rfl (.int (wrap_succ (by omega)))
     obtain ⟨F, hS⟩ := hS.norm [(0, _), (2, _), (6, _), (37, _), (38, _), (39, _)] [(0, _)] r6 r1
     exact ⟨i + 1, F, ⟨by omega, fun j hj => (Nat.lt_or_ge j i).elim (hq j) (fun h1 => (show i = j by omega) ▸ hqi)⟩, hS, by omega⟩
   ·skip
    have hall : (partsL (s0.drop 1)).all figs = true := by
      rw [List.all_eq_true]
      intro x hx
      obtain ⟨j, hj, rfl⟩ := List.getElem_of_mem hx
      rw [← nth_eq hj]
      exact hq j (by have h9 := of_decide_eq_false hc6; omega)
    refine wp_exit ?_
    refine then_x ?_
    refine then_x ?_
    refine block_x ?_
    refine then_n ?_
    refine wp_seq ?_
    refine region_any (by kernel_rfl) hS (by kernel_rfl)
      (cF rfl (o_move .t (by rfl)) r1 trivial
      (cF rfl (o_move .t (by rfl)) r1 trivial
      (cF rfl (o_move .t (by rfl)) r1 trivial
      (cF rfl (o_index_bs Tryd.underlying9 .t (.ci (by kernel_rfl)) (by decide) (by omega)) r1 trivial
      (cF rfl (o_eql .t (.ci (by kernel_rfl))) r1 trivial
      (cF rfl (o_eqlB Tryd.underlying4 .t .t) r2 trivial
      (cF rfl (o_assign .t (by rfl)) r1 trivial
      (cF rfl (o_assign .t (by rfl)) r1 trivial
      Chain.nil))))))))
      (by kernel_rfl) (by rw [hB]; kernel_rfl) ?_
    clear hS; intro a w F hS
    obtain ⟨F, hS⟩ := hS.norm [(2, _), (3, _)] [(0, _)] r2 r1
    refine then_n ?_
    refine wp_ret ?_
    refine ret_P hfr hS rfl (.tmp rfl (.tmp rfl .nil)) (.two (.sl (by unfold opCut; rw [if_pos hall])) (.bool (by unfold opCut; rw [if_pos hall]; rfl)))

end Go.Proofs.YtjdcnjemhjldoaaDoor
