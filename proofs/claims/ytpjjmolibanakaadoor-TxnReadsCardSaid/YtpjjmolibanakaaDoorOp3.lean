/- Forms of operations cut. No condition beyond those that each theorem says. -/
import Derived.Test.YtpjjmolibanakaaDoorOp2
import Derived.Test.YtpjjmolibanakaaDoorLxX
namespace Go.Proofs.YtpjjmolibanakaaDoor
open Go Go.Gm
set_option linter.unusedVariables false
set_option linter.unusedSimpArgs false
set_option maxHeartbeats 4000000
set_option maxRecDepth 8000

theorem cut0_c (s : List UInt8) (c : UInt8) : FnP Tryd.prog 43 [.bs s, .bs [c]] (.tup [.bs (cutL c s).1, .bs (cutL c s).2.1, .bool (cutL c s).2.2]) := by
  refine FnP.mk Tryd.func43 rfl Tryd.ntmps43 rfl ?_
  intro B a w F hB hfr hS
  have hlen := Sat.lenBs hS (i := 0) rfl
  refine wp_seq ?_
  refine region_q hS
    (cF rfl (oN (.cs (by kernel_rfl))) trivial trivial
    (cF rfl (oN (.cs (by kernel_rfl))) trivial trivial
    (cF rfl (oN .cb) trivial trivial
    Chain.nil)))
    hB ?_
  clear hS; intro a w F hS
  obtain ⟨F, hS⟩ := hS.nm [6, 5, 4, 1, 0] [0] rfl rfl
  refine then_n (wp_seq (wp_seq ?_))
  refine region_q hS
    (cF rfl (oM .t) r1 trivial
    (cF rfl (oM .t) r1 trivial
    (cF rfl (oP (index0_c s c) Tryd.func47 (Args.two .t .t)) r2 trivial
    (cF rfl (oN .t) r1 trivial
    Chain.nil))))
    hB ?_
  clear hS; intro a w F hS
  obtain ⟨F, hS⟩ := hS.nm [7, 6, 5, 4, 1, 0] [0] rfl rfl
  refine then_n (wp_seq ?_)
  refine region_q hS
    (cF rfl (oM .t) r1 trivial
    (cF rfl (o_geq .t (.ci (by kernel_rfl))) r1 trivial
    Chain.nil))
    hB ?_
  clear hS; intro a w F hS
  obtain ⟨F, hS⟩ := hS.nm [12, 7, 6, 5, 4, 1, 0] [0] rfl rfl
  refine then_n ?_
  refine cond_b hS rfl (fun hc0 => ?_) (fun hc0 => ?_)
  ·skip
   have h0 : 0 ≤ Lib.indexByte s c := by simpa using hc0
   have hb := indexByte_lt c s
   have hw : IntKind.wrap .i64 (Lib.indexByte s c + (([c].length : Nat) : Int)) = (((Lib.indexByte s c).toNat + 1 : Nat) : Int) := by rw [List.length_singleton, wrap_i64 (by omega)]; omega
   have hcut : cutL c s = (s.take (Lib.indexByte s c).toNat, s.drop ((Lib.indexByte s c).toNat + 1), true) := by unfold cutL; rw [if_neg (by omega)]
   refine wp_seq ?_
   refine region_any (by kernel_rfl) hS (by kernel_rfl)
     (cF rfl (oM .t) r1 trivial
     (cF rfl (oM .t) r1 trivial
     (cF rfl (o_slice_bs_hi Tryd.underlying9 .t .t (by omega) (by omega)) r2 trivial
     (cF rfl (oM .t) r1 trivial
     (cF rfl (oM .t) r1 trivial
     (cF rfl (oM .t) r1 trivial
     (cF rfl (o_len_bs Tryd.underlying9 .t) r1 trivial
     (cF rfl (o_add .t .t) r2 trivial
     (cF rfl (o_slice_bs_lo Tryd.underlying9 .t .t (by rw [hw]; omega) (by rw [hw]; omega)) r2 trivial
     (cF rfl (oN .t) r1 trivial
     (cF rfl (oN .t) r1 trivial
     (cF rfl (oN .cb) trivial trivial
     Chain.nil))))))))))))
     (by kernel_rfl) (by rw [hB]; kernel_rfl) ?_
   clear hS; intro a w F hS
   obtain ⟨F, hS⟩ := hS.nm [6, 5, 4, 0] [0] rfl rfl
   refine then_n (wp_ret (then_r ?_))
   refine ret_P hfr hS rfl (.tmp rfl (.tmp rfl (.tmp rfl .nil))) (.three (.bs (by rw [hcut])) (.bs (by first | rw [hcut]; done | (rw [hcut]; show List.drop (IntKind.wrap .i64 (Lib.indexByte s c + (([c].length : Nat) : Int))).toNat s = _; rw [hw]; rfl))) (.bool (by rw [hcut])))
  have hcut : cutL c s = (s, [], false) := by unfold cutL; rw [if_pos (by simpa using hc0)]
  refine wp_skip (then_n (wp_seq ?_))
  refine region_q hS
    (cF rfl (oM .t) r1 trivial
    (cF rfl (oN .t) r1 trivial
    (cF rfl (oN (.cs (by kernel_rfl))) trivial trivial
    (cF rfl (oN .cb) trivial trivial
    Chain.nil))))
    hB ?_
  clear hS; intro a w F hS
  obtain ⟨F, hS⟩ := hS.nm [6, 5, 4] [0] rfl rfl
  refine then_n (wp_ret ?_)
  refine ret_P hfr hS rfl (.tmp rfl (.tmp rfl (.tmp rfl .nil))) (.three (.bs (by rw [hcut])) (.bs (by first | rw [hcut]; done | (rw [hcut]; show List.drop (IntKind.wrap .i64 (Lib.indexByte s c + (([c].length : Nat) : Int))).toNat s = _; rw [hw]; rfl))) (.bool (by rw [hcut])))

theorem cutS_c (s : List UInt8) (c : UInt8) : FnP Tryd.prog 35 [.bs s, .bs [c]] (.tup [.bs (cutL c s).1, .bs (cutL c s).2.1, .bool (cutL c s).2.2]) := by
  refine FnP.mk Tryd.func35 rfl Tryd.ntmps35 rfl ?_
  intro B a w F hB hfr hS
  refine wp_seq ?_
  refine region_q hS
    (cF rfl (oN (.cs (by kernel_rfl))) trivial trivial
    (cF rfl (oN (.cs (by kernel_rfl))) trivial trivial
    (cF rfl (oN .cb) trivial trivial
    Chain.nil)))
    hB ?_
  clear hS; intro a w F hS
  obtain ⟨F, hS⟩ := hS.nm [6, 5, 4, 1, 0] [0] rfl rfl
  refine then_n (wp_seq ?_)
  refine region_q hS
    (cF rfl (oM .t) r1 trivial
    (cF rfl (oM .t) r1 trivial
    (cF rfl (oP (cut0_c s c) Tryd.func43 (Args.two .t .t)) r2 trivial
    (cF rfl (o_extract .t rfl) r1 trivial
    (cF rfl (o_extract .t rfl) r1 trivial
    (cF rfl (o_extract .t rfl) r1 trivial
    (cF rfl (oN .t) r1 trivial
    (cF rfl (oN .t) r1 trivial
    (cF rfl (oN .t) r1 trivial
    Chain.nil)))))))))
    hB ?_
  clear hS; intro a w F hS
  obtain ⟨F, hS⟩ := hS.nm [6, 5, 4] [0] rfl rfl
  refine then_n (wp_ret ?_)
  refine ret_P hfr hS rfl (.tmp rfl (.tmp rfl (.tmp rfl .nil))) (.three .refl .refl .refl)

theorem opCut_c (s0 : List UInt8) (hne : s0 ≠ []) (hs : s0.length ≤ 9223372036854775807) : FnP Tryd.prog 22 [.bs s0] (.tup [.sl rS (opCut s0).1, .bool (opCut s0).2]) := by
  refine FnP.mk Tryd.func22 rfl Tryd.ntmps22 rfl ?_
  intro B a w F hB hfr hS
  have hlp := List.length_pos_iff.2 hne
  have hpl := parts_len (s0.drop 1)
  refine wp_seq ?_
  refine region_q hS
    (cF rfl (oN (.c rfl)) trivial trivial
    (cF rfl (oN .cb) trivial trivial
    Chain.nil))
    hB ?_
  clear hS; intro a w F hS
  obtain ⟨F, hS⟩ := hS.nm [3, 2, 0] [0] rfl rfl
  refine then_n (wp_seq ?_)
  refine region_q hS
    (cF rfl (oM .t) r1 trivial
    (cF rfl (o_slice_bs_lo Tryd.underlying9 .t (.ci (by kernel_rfl)) (by decide) (by omega)) r1 trivial
    (cF rfl (oP (cutS_c (s0.drop 1) 64) Tryd.func35 (Args.two .t (.cs (by kernel_rfl)))) r1 trivial
    (cF rfl (oM .t) r1 trivial
    (cF rfl (o_extract .t rfl) r1 trivial
    (cF rfl (o_extract .t rfl) r1 trivial
    (cF rfl (o_extract .t rfl) r1 trivial
    (cF rfl (oN .t) r1 trivial
    (cF rfl (oN .t) r1 trivial
    (cF rfl (oN .t) r1 trivial
    Chain.nil))))))))))
    hB ?_
  clear hS; intro a w F hS
  obtain ⟨F, hS⟩ := hS.nm [6, 5, 4, 3, 2, 0] [0] rfl rfl
  refine then_n (wp_seq ?_)
  refine region_q hS
    (cF rfl (oM .t) r1 trivial
    (cF rfl (o_buildRow (R := rS) (l := [(cutL 64 (s0.drop 1)).1]) (sz := 1) (zs := [.string ⟨#[]⟩]) (r := [(0, .tmp 19)]) 101 Tryd.underlying60 (by kernel_rfl) (by kernel_rfl) (by kernel_rfl) (by kernel_rfl) rfl rfl (.one rfl .t one_str (by kernel_rfl) .nil) rfl rfl (by intro x; rfl)) r1 trivial
    (cF rfl (oN .t) r1 trivial
    Chain.nil)))
    hB ?_
  clear hS; intro a w F hS
  replace hS := hS.sub
  obtain ⟨F, hS⟩ := hS.nm [6, 5, 3, 2, 0] [101, 0] rfl rfl
  try dsimp only [RS.sub, SF.sub, CF.sub, csub, Anc.sub, List.map, stCells, xL, xM, Nat.reduceAdd, xD, xE, xT, xU, xC, xN, zCF] at hS
  generalize Act.tau a 20 = v20 at hS
  refine then_n (wp_seq (wp_seq ?_))
  refine region_q hS
    (cF rfl (oM .t) r1 trivial
    Chain.nil)
    hB ?_
  clear hS; intro a w F hS
  obtain ⟨F, hS⟩ := hS.nm [21, 6, 5, 3, 2, 0] [101, 0] rfl rfl
  refine then_n ?_
  refine cond_b hS rfl (fun hc0 => ?_) (fun hc0 => ?_)
  ·skip
   have hk : (cutL 64 (s0.drop 1)).2.2 = true := hc0
   refine wp_seq ?_
   refine region_q hS
     (cF rfl (oM .t) r1 trivial
     (cF rfl (oP (cutS_c (cutL 64 (s0.drop 1)).2.1 46) Tryd.func35 (Args.two .t (.cs (by kernel_rfl)))) r1 trivial
     (cF rfl (oM .t) r1 trivial
     (cF rfl (o_extract .t rfl) r1 trivial
     (cF rfl (o_extract .t rfl) r1 trivial
     (cF rfl (o_extract .t rfl) r1 trivial
     (cF rfl (oN .t) r1 trivial
     (cF rfl (oN .t) r1 trivial
     (cF rfl (oN .t) r1 trivial
     Chain.nil)))))))))
     hB ?_
   clear hS; intro a w F hS
   obtain ⟨F, hS⟩ := hS.nm [9, 8, 7, 6, 3, 2, 0] [101, 0] rfl rfl
   refine then_n (wp_seq ?_)
   refine region_q hS
     (cF rfl (oM .t) r1 trivial
     (cF rfl (oM .t) r1 trivial
     (cF rfl (o_buildSliceE (sz := 1) (zs := [.string ⟨#[]⟩]) (r := [(0, .tmp 29)]) (l := [_]) Tryd.underlying60 (by kernel_rfl) (by kernel_rfl) (by kernel_rfl) (by kernel_rfl) rfl rfl (.one rfl .t one_str (by kernel_rfl) .nil) rfl) r1 trivial
     (cF rfl (o_append (sz := 1) (bs := 16) 101 (.mk' Tryd.underlying60 (by kernel_rfl) (by kernel_rfl)) (by intro x; rfl) .is (.arr (l' := [(cutL 46 (cutL 64 (s0.drop 1)).2.1).1]) .t) (by simp) (by decide)) ⟨rfl, rfl, trivial⟩ ⟨rfl, trivial⟩
     (cF rfl (oN .t) r1 trivial
     Chain.nil)))))
     hB ?_
   clear hS; intro a w F hS
   replace hS := hS.sub
   obtain ⟨F, hS⟩ := hS.nm [9, 8, 6, 3, 2, 0] [101, 0] rfl rfl
   try dsimp only [RS.sub, SF.sub, CF.sub, csub, Anc.sub, List.map, stCells, xL, xM, Nat.reduceAdd, xD, xE, xT, xU, xC, xN, zCF] at hS
   generalize Act.tau a 31 = v31 at hS
   refine then_n (wp_seq ?_)
   refine region_q hS
     (cF rfl (oM .t) r1 trivial
     Chain.nil)
     hB ?_
   clear hS; intro a w F hS
   obtain ⟨F, hS⟩ := hS.nm [32, 8, 6, 3, 2, 0] [101, 0] rfl rfl
   refine then_n ?_
   refine cond_b hS rfl (fun hc1 => ?_) (fun hc1 => ?_)
   ·skip
    have hP : [(cutL 64 (s0.drop 1)).1, (cutL 46 (cutL 64 (s0.drop 1)).2.1).1, (cutL 46 (cutL 64 (s0.drop 1)).2.1).2.1] = (partsL (s0.drop 1)) := by unfold partsL; rw [if_pos hk, if_pos hc1]
    refine region_q hS
      (cF rfl (oM .t) r1 trivial
      (cF rfl (oM .t) r1 trivial
      (cF rfl (o_buildSliceE (sz := 1) (zs := [.string ⟨#[]⟩]) (r := [(0, .tmp 34)]) (l := [_]) Tryd.underlying60 (by kernel_rfl) (by kernel_rfl) (by kernel_rfl) (by kernel_rfl) rfl rfl (.one rfl .t one_str (by kernel_rfl) .nil) rfl) r1 trivial
      (cF rfl (o_append (sz := 1) (bs := 16) 101 (.mk' Tryd.underlying60 (by kernel_rfl) (by kernel_rfl)) (by intro x; rfl) .is (.arr (l' := [(cutL 46 (cutL 64 (s0.drop 1)).2.1).2.1]) .t) (by simp) (by decide)) ⟨rfl, rfl, trivial⟩ ⟨rfl, trivial⟩
      (cF rfl (oN .t) r1 trivial
      Chain.nil)))))
      hB ?_
    clear hS; intro a w F hS
    replace hS := hS.sub
    obtain ⟨F, hS⟩ := hS.nm [6, 3, 2, 0] [101, 0] rfl rfl
    try dsimp only [RS.sub, SF.sub, CF.sub, csub, Anc.sub, List.map, stCells, xL, xM, Nat.reduceAdd, xD, xE, xT, xU, xC, xN, zCF] at hS
    generalize Act.tau a 36 = v36 at hS
    refine then_n (wp_seq (wp_seq ?_))
    rw [hP] at hS
    obtain ⟨F, hS⟩ := hS.give 101 2 rfl rfl
    obtain ⟨F, hS⟩ := hS.nm [6, 3, 2, 0] [0] rfl rfl
    refine region_q hS
      (cF rfl (oM .t) r1 trivial
      (cF rfl (o_len_sl Tryd.underlying60 .t) r1 trivial
      (cF rfl (oM (.ci (by kernel_rfl))) trivial trivial
      Chain.nil)))
      hB ?_
    clear hS; intro a w F hS
    obtain ⟨F, hS⟩ := hS.nm [39, 38, 37, 6, 3, 2, 0] [0] rfl rfl
    refine then_n (wp_block ?_)
    obtain ⟨F, hS⟩ := hS.nm [39, 38, 37, 6, 2, 0] [0] rfl rfl
    refine loop_inv (σ := Nat) (fun s => (⟨[(0, .pv (.bs s0)), (2, .pv (.sl rS (partsL (s0.drop 1)))), (6, .pv (.bool (cutL 64 (s0.drop 1)).2.2)), (37, .pv (.sl rS (partsL (s0.drop 1)))), (38, .pv (.int .i64 ((partsL (s0.drop 1)).length : Nat))), (39, .pv (.int .i64 (s : Nat)))], [(0, frame B)]⟩ : En)) (fun s => s ≤ (partsL (s0.drop 1)).length ∧ ∀ j, j < s → figs (nth (partsL (s0.drop 1)) j) = true) (fun s => (partsL (s0.drop 1)).length - s) 0 hS ⟨Nat.zero_le _, fun j hj => absurd hj (Nat.not_lt_zero _)⟩ ?_
    clear hS; intro i a w F hC hS
    try dsimp only at hC
    try dsimp only at hS
    obtain ⟨hi0, hq⟩ := hC
    refine wp_seq ?_
    refine region_q hS
      (cF rfl (o_lss .t .t) r2 trivial
      Chain.nil)
      hB ?_
    clear hS; intro a w F hS
    obtain ⟨F, hS⟩ := hS.nm [40, 39, 38, 37, 6, 2, 0] [0] rfl rfl
    refine then_n (wp_seq ?_)
    refine cond_b hS rfl (fun hc2 => ?_) (fun hc2 => ?_)
    ·skip
     have hi : i < (partsL (s0.drop 1)).length := by have h9 := of_decide_eq_true hc2; omega
     refine wp_skip (then_n (wp_seq (wp_block (wp_seq ?_))))
     refine region_q hS
       (cF rfl (o_indexAddr_sl (sz := 1) (.mk Tryd.underlying60 (by kernel_rfl)) (by intro x; rfl) .t .t (by omega) (by omega)) r2 trivial
       (cF rfl (oR false 1 .t) r1 trivial
       (cF rfl (oN .t) r1 trivial
       Chain.nil)))
       hB ?_
     clear hS; intro a w F hS
     obtain ⟨F, hS⟩ := hS.nm [42, 41, 40, 39, 38, 37, 11, 6, 2, 0] [0] rfl rfl
     try dsimp only [List.map, xD, xE, xT, xU, ldSF] at hS
     rw [Int.toNat_natCast] at hS
     refine then_n (wp_seq ?_)
     refine region_q hS
       (cF rfl (oM .t) r1 trivial
       (cF rfl (oP (figures_c (nth (partsL (s0.drop 1)) i) (by have h9 := parts_small _ _ (nth_mem hi); rw [List.length_drop] at h9; omega)) Tryd.func36 (Args.one .t)) r1 trivial
       (cF rfl (o_not .t) r1 trivial
       Chain.nil)))
       hB ?_
     clear hS; intro a w F hS
     obtain ⟨F, hS⟩ := hS.nm [45, 44, 43, 42, 41, 40, 39, 38, 37, 11, 6, 2, 0] [0] rfl rfl
     refine then_n ?_
     refine cond_b hS rfl (fun hc3 => ?_) (fun hc3 => ?_)
     ·skip
      have hbad : ¬ (partsL (s0.drop 1)).all figs = true := by
        intro h
        rw [List.all_eq_true] at h
        have h9 := h _ (nth_mem hi)
        rw [h9] at hc3
        cases hc3
      refine wp_seq ?_
      refine region_q hS
        (cF rfl (oN (.c rfl)) trivial trivial
        (cF rfl (oN .cb) trivial trivial
        Chain.nil))
        hB ?_
      clear hS; intro a w F hS
      obtain ⟨F, hS⟩ := hS.nm [45, 44, 43, 42, 41, 40, 39, 38, 37, 11, 6, 3, 2, 0] [0] rfl rfl
      refine then_n (wp_ret (block_r (then_r (then_r (block_r (then_r ?_))))))
      refine ret_P hfr hS rfl (.tmp rfl (.tmp rfl .nil)) (.two (.trans .nilSl (.sl (by unfold opCut; rw [if_neg hbad]))) (.bool (by unfold opCut; rw [if_neg hbad])))
     have hqi : figs (nth (partsL (s0.drop 1)) i) = true := by simpa using hc3
     refine wp_skip (block_n (then_n ?_))
     refine region_q hS
       (cF rfl (o_add .t (.ci (by kernel_rfl))) r1 trivial
       (cF rfl (oM .t) r1 trivial
       Chain.nil))
       hB ?_
     clear hS; intro a w F hS
     obtain ⟨F, hS⟩ := hS.nm [46, 45, 44, 43, 42, 41, 40, 39, 38, 37, 11, 6, 2, 0] [0] rfl rfl
     refine then_n ?_
     replace hS := hS.ent (i := 39) (s' := .pv (.int .i64 ((i + 1 : Nat) : Int))) rfl (.int (wrap_succ (by omega)))
     obtain ⟨F, hS⟩ := hS.nm [39, 38, 37, 6, 2, 0] [0] rfl rfl
     exact ⟨i + 1, F, ⟨by omega, fun j hj => (Nat.lt_or_ge j i).elim (hq j) (fun h1 => (show i = j by omega) ▸ hqi)⟩, hS, by omega⟩
    have hall : (partsL (s0.drop 1)).all figs = true := by
      rw [List.all_eq_true]
      intro x hx
      obtain ⟨j, hj, rfl⟩ := List.getElem_of_mem hx
      rw [← nth_eq hj]
      exact hq j (by have h9 := of_decide_eq_false hc2; omega)
    refine wp_exit (then_x (then_x (block_x (then_n (wp_seq ?_)))))
    refine region_any (by kernel_rfl) hS (by kernel_rfl)
      (cF rfl (oM .t) r1 trivial
      (cF rfl (oM .t) r1 trivial
      (cF rfl (oM .t) r1 trivial
      (cF rfl (o_index_bs Tryd.underlying9 .t (.ci (by kernel_rfl)) (by decide) (by omega)) r1 trivial
      (cF rfl (o_eql .t (.ci (by kernel_rfl))) r1 trivial
      (cF rfl (o_eqlB Tryd.underlying4 .t .t) r2 trivial
      (cF rfl (oN .t) r1 trivial
      (cF rfl (oN .t) r1 trivial
      Chain.nil))))))))
      (by kernel_rfl) (by rw [hB]; kernel_rfl) ?_
    clear hS; intro a w F hS
    obtain ⟨F, hS⟩ := hS.nm [3, 2] [0] rfl rfl
    refine then_n (wp_ret ?_)
    refine ret_P hfr hS rfl (.tmp rfl (.tmp rfl .nil)) (.two (.sl (by unfold opCut; rw [if_pos hall])) (.bool (by unfold opCut; rw [if_pos hall]; rfl)))
   have hP : [(cutL 64 (s0.drop 1)).1, (cutL 46 (cutL 64 (s0.drop 1)).2.1).1] = (partsL (s0.drop 1)) := by unfold partsL; rw [if_pos hk, if_neg (by rw [hc1]; decide)]
   refine wp_skip (then_n (wp_seq (wp_seq ?_)))
   rw [hP] at hS
   obtain ⟨F, hS⟩ := hS.give 101 2 rfl rfl
   obtain ⟨F, hS⟩ := hS.nm [32, 8, 6, 3, 2, 0] [0] rfl rfl
   refine region_q hS
     (cF rfl (oM .t) r1 trivial
     (cF rfl (o_len_sl Tryd.underlying60 .t) r1 trivial
     (cF rfl (oM (.ci (by kernel_rfl))) trivial trivial
     Chain.nil)))
     hB ?_
   clear hS; intro a w F hS
   obtain ⟨F, hS⟩ := hS.nm [39, 38, 37, 6, 3, 2, 0] [0] rfl rfl
   refine then_n (wp_block ?_)
   obtain ⟨F, hS⟩ := hS.nm [39, 38, 37, 6, 2, 0] [0] rfl rfl
   refine loop_inv (σ := Nat) (fun s => (⟨[(0, .pv (.bs s0)), (2, .pv (.sl rS (partsL (s0.drop 1)))), (6, .pv (.bool (cutL 64 (s0.drop 1)).2.2)), (37, .pv (.sl rS (partsL (s0.drop 1)))), (38, .pv (.int .i64 ((partsL (s0.drop 1)).length : Nat))), (39, .pv (.int .i64 (s : Nat)))], [(0, frame B)]⟩ : En)) (fun s => s ≤ (partsL (s0.drop 1)).length ∧ ∀ j, j < s → figs (nth (partsL (s0.drop 1)) j) = true) (fun s => (partsL (s0.drop 1)).length - s) 0 hS ⟨Nat.zero_le _, fun j hj => absurd hj (Nat.not_lt_zero _)⟩ ?_
   clear hS; intro i a w F hC hS
   try dsimp only at hC
   try dsimp only at hS
   obtain ⟨hi0, hq⟩ := hC
   refine wp_seq ?_
   refine region_q hS
     (cF rfl (o_lss .t .t) r2 trivial
     Chain.nil)
     hB ?_
   clear hS; intro a w F hS
   obtain ⟨F, hS⟩ := hS.nm [40, 39, 38, 37, 6, 2, 0] [0] rfl rfl
   refine then_n (wp_seq ?_)
   refine cond_b hS rfl (fun hc4 => ?_) (fun hc4 => ?_)
   ·skip
    have hi : i < (partsL (s0.drop 1)).length := by have h9 := of_decide_eq_true hc4; omega
    refine wp_skip (then_n (wp_seq (wp_block (wp_seq ?_))))
    refine region_q hS
      (cF rfl (o_indexAddr_sl (sz := 1) (.mk Tryd.underlying60 (by kernel_rfl)) (by intro x; rfl) .t .t (by omega) (by omega)) r2 trivial
      (cF rfl (oR false 1 .t) r1 trivial
      (cF rfl (oN .t) r1 trivial
      Chain.nil)))
      hB ?_
    clear hS; intro a w F hS
    obtain ⟨F, hS⟩ := hS.nm [42, 41, 40, 39, 38, 37, 11, 6, 2, 0] [0] rfl rfl
    try dsimp only [List.map, xD, xE, xT, xU, ldSF] at hS
    rw [Int.toNat_natCast] at hS
    refine then_n (wp_seq ?_)
    refine region_q hS
      (cF rfl (oM .t) r1 trivial
      (cF rfl (oP (figures_c (nth (partsL (s0.drop 1)) i) (by have h9 := parts_small _ _ (nth_mem hi); rw [List.length_drop] at h9; omega)) Tryd.func36 (Args.one .t)) r1 trivial
      (cF rfl (o_not .t) r1 trivial
      Chain.nil)))
      hB ?_
    clear hS; intro a w F hS
    obtain ⟨F, hS⟩ := hS.nm [45, 44, 43, 42, 41, 40, 39, 38, 37, 11, 6, 2, 0] [0] rfl rfl
    refine then_n ?_
    refine cond_b hS rfl (fun hc5 => ?_) (fun hc5 => ?_)
    ·skip
     have hbad : ¬ (partsL (s0.drop 1)).all figs = true := by
       intro h
       rw [List.all_eq_true] at h
       have h9 := h _ (nth_mem hi)
       rw [h9] at hc5
       cases hc5
     refine wp_seq ?_
     refine region_q hS
       (cF rfl (oN (.c rfl)) trivial trivial
       (cF rfl (oN .cb) trivial trivial
       Chain.nil))
       hB ?_
     clear hS; intro a w F hS
     obtain ⟨F, hS⟩ := hS.nm [45, 44, 43, 42, 41, 40, 39, 38, 37, 11, 6, 3, 2, 0] [0] rfl rfl
     refine then_n (wp_ret (block_r (then_r (then_r (block_r (then_r ?_))))))
     refine ret_P hfr hS rfl (.tmp rfl (.tmp rfl .nil)) (.two (.trans .nilSl (.sl (by unfold opCut; rw [if_neg hbad]))) (.bool (by unfold opCut; rw [if_neg hbad])))
    have hqi : figs (nth (partsL (s0.drop 1)) i) = true := by simpa using hc5
    refine wp_skip (block_n (then_n ?_))
    refine region_q hS
      (cF rfl (o_add .t (.ci (by kernel_rfl))) r1 trivial
      (cF rfl (oM .t) r1 trivial
      Chain.nil))
      hB ?_
    clear hS; intro a w F hS
    obtain ⟨F, hS⟩ := hS.nm [46, 45, 44, 43, 42, 41, 40, 39, 38, 37, 11, 6, 2, 0] [0] rfl rfl
    refine then_n ?_
    replace hS := hS.ent (i := 39) (s' := .pv (.int .i64 ((i + 1 : Nat) : Int))) rfl (.int (wrap_succ (by omega)))
    obtain ⟨F, hS⟩ := hS.nm [39, 38, 37, 6, 2, 0] [0] rfl rfl
    exact ⟨i + 1, F, ⟨by omega, fun j hj => (Nat.lt_or_ge j i).elim (hq j) (fun h1 => (show i = j by omega) ▸ hqi)⟩, hS, by omega⟩
   have hall : (partsL (s0.drop 1)).all figs = true := by
     rw [List.all_eq_true]
     intro x hx
     obtain ⟨j, hj, rfl⟩ := List.getElem_of_mem hx
     rw [← nth_eq hj]
     exact hq j (by have h9 := of_decide_eq_false hc4; omega)
   refine wp_exit (then_x (then_x (block_x (then_n (wp_seq ?_)))))
   refine region_any (by kernel_rfl) hS (by kernel_rfl)
     (cF rfl (oM .t) r1 trivial
     (cF rfl (oM .t) r1 trivial
     (cF rfl (oM .t) r1 trivial
     (cF rfl (o_index_bs Tryd.underlying9 .t (.ci (by kernel_rfl)) (by decide) (by omega)) r1 trivial
     (cF rfl (o_eql .t (.ci (by kernel_rfl))) r1 trivial
     (cF rfl (o_eqlB Tryd.underlying4 .t .t) r2 trivial
     (cF rfl (oN .t) r1 trivial
     (cF rfl (oN .t) r1 trivial
     Chain.nil))))))))
     (by kernel_rfl) (by rw [hB]; kernel_rfl) ?_
   clear hS; intro a w F hS
   obtain ⟨F, hS⟩ := hS.nm [3, 2] [0] rfl rfl
   refine then_n (wp_ret ?_)
   refine ret_P hfr hS rfl (.tmp rfl (.tmp rfl .nil)) (.two (.sl (by unfold opCut; rw [if_pos hall])) (.bool (by unfold opCut; rw [if_pos hall]; rfl)))
  have hP : [(cutL 64 (s0.drop 1)).1] = (partsL (s0.drop 1)) := by unfold partsL; rw [if_neg (by rw [hc0]; decide)]
  refine wp_skip (then_n (wp_seq (wp_seq ?_)))
  rw [hP] at hS
  obtain ⟨F, hS⟩ := hS.give 101 2 rfl rfl
  obtain ⟨F, hS⟩ := hS.nm [21, 6, 5, 3, 2, 0] [0] rfl rfl
  refine region_q hS
    (cF rfl (oM .t) r1 trivial
    (cF rfl (o_len_sl Tryd.underlying60 .t) r1 trivial
    (cF rfl (oM (.ci (by kernel_rfl))) trivial trivial
    Chain.nil)))
    hB ?_
  clear hS; intro a w F hS
  obtain ⟨F, hS⟩ := hS.nm [39, 38, 37, 6, 3, 2, 0] [0] rfl rfl
  refine then_n (wp_block ?_)
  obtain ⟨F, hS⟩ := hS.nm [39, 38, 37, 6, 2, 0] [0] rfl rfl
  refine loop_inv (σ := Nat) (fun s => (⟨[(0, .pv (.bs s0)), (2, .pv (.sl rS (partsL (s0.drop 1)))), (6, .pv (.bool (cutL 64 (s0.drop 1)).2.2)), (37, .pv (.sl rS (partsL (s0.drop 1)))), (38, .pv (.int .i64 ((partsL (s0.drop 1)).length : Nat))), (39, .pv (.int .i64 (s : Nat)))], [(0, frame B)]⟩ : En)) (fun s => s ≤ (partsL (s0.drop 1)).length ∧ ∀ j, j < s → figs (nth (partsL (s0.drop 1)) j) = true) (fun s => (partsL (s0.drop 1)).length - s) 0 hS ⟨Nat.zero_le _, fun j hj => absurd hj (Nat.not_lt_zero _)⟩ ?_
  clear hS; intro i a w F hC hS
  try dsimp only at hC
  try dsimp only at hS
  obtain ⟨hi0, hq⟩ := hC
  refine wp_seq ?_
  refine region_q hS
    (cF rfl (o_lss .t .t) r2 trivial
    Chain.nil)
    hB ?_
  clear hS; intro a w F hS
  obtain ⟨F, hS⟩ := hS.nm [40, 39, 38, 37, 6, 2, 0] [0] rfl rfl
  refine then_n (wp_seq ?_)
  refine cond_b hS rfl (fun hc6 => ?_) (fun hc6 => ?_)
  ·skip
   have hi : i < (partsL (s0.drop 1)).length := by have h9 := of_decide_eq_true hc6; omega
   refine wp_skip (then_n (wp_seq (wp_block (wp_seq ?_))))
   refine region_q hS
     (cF rfl (o_indexAddr_sl (sz := 1) (.mk Tryd.underlying60 (by kernel_rfl)) (by intro x; rfl) .t .t (by omega) (by omega)) r2 trivial
     (cF rfl (oR false 1 .t) r1 trivial
     (cF rfl (oN .t) r1 trivial
     Chain.nil)))
     hB ?_
   clear hS; intro a w F hS
   obtain ⟨F, hS⟩ := hS.nm [42, 41, 40, 39, 38, 37, 11, 6, 2, 0] [0] rfl rfl
   try dsimp only [List.map, xD, xE, xT, xU, ldSF] at hS
   rw [Int.toNat_natCast] at hS
   refine then_n (wp_seq ?_)
   refine region_q hS
     (cF rfl (oM .t) r1 trivial
     (cF rfl (oP (figures_c (nth (partsL (s0.drop 1)) i) (by have h9 := parts_small _ _ (nth_mem hi); rw [List.length_drop] at h9; omega)) Tryd.func36 (Args.one .t)) r1 trivial
     (cF rfl (o_not .t) r1 trivial
     Chain.nil)))
     hB ?_
   clear hS; intro a w F hS
   obtain ⟨F, hS⟩ := hS.nm [45, 44, 43, 42, 41, 40, 39, 38, 37, 11, 6, 2, 0] [0] rfl rfl
   refine then_n ?_
   refine cond_b hS rfl (fun hc7 => ?_) (fun hc7 => ?_)
   ·skip
    have hbad : ¬ (partsL (s0.drop 1)).all figs = true := by
      intro h
      rw [List.all_eq_true] at h
      have h9 := h _ (nth_mem hi)
      rw [h9] at hc7
      cases hc7
    refine wp_seq ?_
    refine region_q hS
      (cF rfl (oN (.c rfl)) trivial trivial
      (cF rfl (oN .cb) trivial trivial
      Chain.nil))
      hB ?_
    clear hS; intro a w F hS
    obtain ⟨F, hS⟩ := hS.nm [45, 44, 43, 42, 41, 40, 39, 38, 37, 11, 6, 3, 2, 0] [0] rfl rfl
    refine then_n (wp_ret (block_r (then_r (then_r (block_r (then_r ?_))))))
    refine ret_P hfr hS rfl (.tmp rfl (.tmp rfl .nil)) (.two (.trans .nilSl (.sl (by unfold opCut; rw [if_neg hbad]))) (.bool (by unfold opCut; rw [if_neg hbad])))
   have hqi : figs (nth (partsL (s0.drop 1)) i) = true := by simpa using hc7
   refine wp_skip (block_n (then_n ?_))
   refine region_q hS
     (cF rfl (o_add .t (.ci (by kernel_rfl))) r1 trivial
     (cF rfl (oM .t) r1 trivial
     Chain.nil))
     hB ?_
   clear hS; intro a w F hS
   obtain ⟨F, hS⟩ := hS.nm [46, 45, 44, 43, 42, 41, 40, 39, 38, 37, 11, 6, 2, 0] [0] rfl rfl
   refine then_n ?_
   replace hS := hS.ent (i := 39) (s' := .pv (.int .i64 ((i + 1 : Nat) : Int))) rfl (.int (wrap_succ (by omega)))
   obtain ⟨F, hS⟩ := hS.nm [39, 38, 37, 6, 2, 0] [0] rfl rfl
   exact ⟨i + 1, F, ⟨by omega, fun j hj => (Nat.lt_or_ge j i).elim (hq j) (fun h1 => (show i = j by omega) ▸ hqi)⟩, hS, by omega⟩
  have hall : (partsL (s0.drop 1)).all figs = true := by
    rw [List.all_eq_true]
    intro x hx
    obtain ⟨j, hj, rfl⟩ := List.getElem_of_mem hx
    rw [← nth_eq hj]
    exact hq j (by have h9 := of_decide_eq_false hc6; omega)
  refine wp_exit (then_x (then_x (block_x (then_n (wp_seq ?_)))))
  refine region_any (by kernel_rfl) hS (by kernel_rfl)
    (cF rfl (oM .t) r1 trivial
    (cF rfl (oM .t) r1 trivial
    (cF rfl (oM .t) r1 trivial
    (cF rfl (o_index_bs Tryd.underlying9 .t (.ci (by kernel_rfl)) (by decide) (by omega)) r1 trivial
    (cF rfl (o_eql .t (.ci (by kernel_rfl))) r1 trivial
    (cF rfl (o_eqlB Tryd.underlying4 .t .t) r2 trivial
    (cF rfl (oN .t) r1 trivial
    (cF rfl (oN .t) r1 trivial
    Chain.nil))))))))
    (by kernel_rfl) (by rw [hB]; kernel_rfl) ?_
  clear hS; intro a w F hS
  obtain ⟨F, hS⟩ := hS.nm [3, 2] [0] rfl rfl
  refine then_n (wp_ret ?_)
  refine ret_P hfr hS rfl (.tmp rfl (.tmp rfl .nil)) (.two (.sl (by unfold opCut; rw [if_pos hall])) (.bool (by unfold opCut; rw [if_pos hall]; rfl)))

end Go.Proofs.YtpjjmolibanakaaDoor
