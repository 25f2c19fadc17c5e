/- The place of a letter; how often it stands. No condition beyond those that each theorem says. -/
import Derived.Test.YtjdcnjemhjldoaaDoorLx0
namespace Go.Proofs.YtjdcnjemhjldoaaDoor
open Go Go.Gm
set_option linter.unusedVariables false
set_option linter.unusedSimpArgs false
set_option maxHeartbeats 4000000
set_option maxRecDepth 8000


theorem toB_nat (c : UInt8) : toB ((c.toNat : Nat) : Int) = c := by
  unfold toB
  rw [Int.toNat_natCast]
  simp
theorem index_self (c : UInt8) : Lib.indexByte [c] c = 0 := by simp [Lib.indexByte]

theorem indexB_c (s : List UInt8) (x : Int) : FnP Tryd.prog 78 [.bs s, .int .u8 x] (.int .i64 (Lib.indexByte s (toB x))) := by
  refine FnP.mk Tryd.func78 rfl Tryd.ntmps78 rfl ?_
  intro B a w F hB hfr hS
  refine wp_seq ?_
  refine region_seq hS (by kernel_rfl)
    (cF rfl (o_assign (.ci (by kernel_rfl)) (by rfl)) trivial trivial
    Chain.nil)
    (by kernel_rfl) (by rw [hB]; kernel_rfl) ?_
  clear hS; intro a w F hS
  obtain ⟨F, hS⟩ := hS.norm [(0, _), (1, _), (4, _)] [(0, _)] r3 r1
  refine then_n ?_
  refine wp_seq ?_
  refine region_seq hS (by kernel_rfl)
    (cF rfl (o_move .t (by rfl)) r1 trivial
    (cF rfl (o_move .t (by rfl)) r1 trivial
    (cF rfl (o_indexByte Tryd.func89 (by kernel_rfl) (by kernel_rfl) (by kernel_rfl) rfl .t .t) r2 trivial
    (cF rfl (o_assign .t (by rfl)) r1 trivial
    Chain.nil))))
    (by kernel_rfl) (by rw [hB]; kernel_rfl) ?_
  clear hS; intro a w F hS
  obtain ⟨F, hS⟩ := hS.norm [(4, _)] [(0, _)] r1 r1
  refine then_n ?_
  refine wp_ret ?_
  refine ret_P hfr hS rfl (.tmp rfl .nil) (.one .refl)

theorem index0_c (s : List UInt8) (c : UInt8) : FnP Tryd.prog 65 [.bs s, .bs [c]] (.int .i64 (Lib.indexByte s c)) := by
  refine FnP.mk Tryd.func65 rfl Tryd.ntmps65 rfl ?_
  intro B a w F hB hfr hS
  refine wp_seq ?_
  refine region_seq hS (by kernel_rfl)
    (cF rfl (o_assign (.ci (by kernel_rfl)) (by rfl)) trivial trivial
    Chain.nil)
    (by kernel_rfl) (by rw [hB]; kernel_rfl) ?_
  clear hS; intro a w F hS
  obtain ⟨F, hS⟩ := hS.norm [(0, _), (1, _), (4, _)] [(0, _)] r3 r1
  refine then_n ?_
  refine wp_seq ?_
  refine region_seq hS (by kernel_rfl)
    (cF rfl (o_move .t (by rfl)) r1 trivial
    (cF rfl (o_len_bs Tryd.underlying9 .t) r1 trivial
    (cF rfl (o_assign .t (by rfl)) r1 trivial
    Chain.nil)))
    (by kernel_rfl) (by rw [hB]; kernel_rfl) ?_
  clear hS; intro a w F hS
  obtain ⟨F, hS⟩ := hS.norm [(0, _), (1, _), (4, _), (5, _)] [(0, _)] r4 r1
  refine then_n ?_
  refine wp_seq ?_
  refine wp_block ?_
  refine wp_seq ?_
  refine region_seq hS (by kernel_rfl)
    (cF rfl (o_move .t (by rfl)) r1 trivial
    (cF rfl (o_eql .t (.ci (by kernel_rfl))) r1 trivial
    (cF rfl (o_move .t (by rfl)) r1 trivial
    (Chain.cons (Cert.cond rfl rfl (fun h => o_move .t (by rfl))) r2 trivial
    (Chain.cons (Cert.cond rfl rfl (fun h => o_move .t (by rfl))) r2 trivial
    (Chain.cons (Cert.cond rfl rfl (fun h => o_eql_bs Tryd.underlying9 (.w h) (.w h))) r3 trivial
    (cF rfl (o_or2 .t .t) r2 trivial
    (cF rfl (o_assign .t (by rfl)) r1 trivial
    Chain.nil))))))))
    (by kernel_rfl) (by rw [hB]; kernel_rfl) ?_
  clear hS; intro a w F hS
  obtain ⟨F, hS⟩ := hS.norm [(0, _), (1, _), (4, _), (5, _), (16, _)] [(0, _)] r5 r1
  refine then_n ?_
  refine cond_b hS rfl (fun hc0 => ?_) (fun hc0 => ?_)
  ·skip
   have hs : s = [c] := by
     simp at hc0
     exact hc0.symm
   have hg : (0 : Int) = Lib.indexByte s c := by rw [hs]; exact (index_self c).symm
   refine wp_seq ?_
   refine region_seq hS (by kernel_rfl)
     (cF rfl (o_assign (.ci (by kernel_rfl)) (by rfl)) trivial trivial
     Chain.nil)
     (by kernel_rfl) (by rw [hB]; kernel_rfl) ?_
   clear hS; intro a w F hS
   obtain ⟨F, hS⟩ := hS.norm [(0, _), (1, _), (4, _), (5, _)] [(0, _)] r4 r1
   refine then_n ?_
   refine wp_ret ?_
   refine block_r ?_
   refine then_r ?_
   refine ret_P hfr hS rfl (.tmp rfl .nil) (.one (.int (by first | exact hg | (rw [show Go.Gm.nth [c] (Int.toNat 0) = c from rfl, toB_nat]))))
  ·skip
   refine wp_seq ?_
   refine region_seq hS (by kernel_rfl)
     (cF rfl (o_move .t (by rfl)) r1 trivial
     (cF rfl (o_eql .t (.ci (by kernel_rfl))) r1 trivial
     (cF rfl (o_assign .t (by rfl)) r1 trivial
     Chain.nil)))
     (by kernel_rfl) (by rw [hB]; kernel_rfl) ?_
   clear hS; intro a w F hS
   obtain ⟨F, hS⟩ := hS.norm [(0, _), (1, _), (4, _), (5, _), (24, _)] [(0, _)] r5 r1
   refine then_n ?_
   refine cond_b hS rfl (fun hc1 => ?_) (fun hc1 => ?_)
   ·skip
    refine wp_seq ?_
    refine region_seq hS (by kernel_rfl)
      (cF rfl (o_move .t (by rfl)) r1 trivial
      (cF rfl (o_move .t (by rfl)) r1 trivial
      (cF rfl (o_index_bs Tryd.underlying9 .t (.ci (by kernel_rfl)) (by decide) (by simp)) r1 trivial
      (cF rfl (o_callP (indexB_c s _) Tryd.func78 rfl (by kernel_rfl) (Args.two .t .t)) r2 trivial
      (cF rfl (o_assign .t (by rfl)) r1 trivial
      Chain.nil)))))
      (by kernel_rfl) (by rw [hB]; kernel_rfl) ?_
    clear hS; intro a w F hS
    obtain ⟨F, hS⟩ := hS.norm [(0, _), (1, _), (4, _), (5, _)] [(0, _)] r4 r1
    refine then_n ?_
    refine wp_ret ?_
    refine block_r ?_
    refine then_r ?_
    refine ret_P hfr hS rfl (.tmp rfl .nil) (.one (.int (by first | exact hg | (rw [show Go.Gm.nth [c] (Int.toNat 0) = c from rfl, toB_nat]))))
   ·skip
    simp at hc1

theorem index_c (s : List UInt8) (c : UInt8) : FnP Tryd.prog 77 [.bs s, .bs [c]] (.int .i64 (Lib.indexByte s c)) := by
  refine FnP.mk Tryd.func77 rfl Tryd.ntmps77 rfl ?_
  intro B a w F hB hfr hS
  refine wp_seq ?_
  refine region_seq hS (by kernel_rfl)
    (cF rfl (o_assign (.ci (by kernel_rfl)) (by rfl)) trivial trivial
    Chain.nil)
    (by kernel_rfl) (by rw [hB]; kernel_rfl) ?_
  clear hS; intro a w F hS
  obtain ⟨F, hS⟩ := hS.norm [(0, _), (1, _), (4, _)] [(0, _)] r3 r1
  refine then_n ?_
  refine wp_seq ?_
  refine region_seq hS (by kernel_rfl)
    (cF rfl (o_move .t (by rfl)) r1 trivial
    (cF rfl (o_move .t (by rfl)) r1 trivial
    (cF rfl (o_callP (index0_c s c) Tryd.func65 rfl (by kernel_rfl) (Args.two .t .t)) r2 trivial
    (cF rfl (o_assign .t (by rfl)) r1 trivial
    Chain.nil))))
    (by kernel_rfl) (by rw [hB]; kernel_rfl) ?_
  clear hS; intro a w F hS
  obtain ⟨F, hS⟩ := hS.norm [(4, _)] [(0, _)] r1 r1
  refine then_n ?_
  refine wp_ret ?_
  refine ret_P hfr hS rfl (.tmp rfl .nil) (.one .refl)

theorem countB_c (s : List UInt8) (c : UInt8) : FnP Tryd.prog 76 [.bs s, .bs [c]] (.int .i64 ((s.count c : Nat) : Int)) := by
  refine FnP.mk Tryd.func76 rfl Tryd.ntmps76 rfl ?_
  intro B a w F hB hfr hS
  refine wp_seq ?_
  refine region_seq hS (by kernel_rfl)
    (cF rfl (o_assign (.ci (by kernel_rfl)) (by rfl)) trivial trivial
    Chain.nil)
    (by kernel_rfl) (by rw [hB]; kernel_rfl) ?_
  clear hS; intro a w F hS
  obtain ⟨F, hS⟩ := hS.norm [(0, _), (1, _), (4, _)] [(0, _)] r3 r1
  refine then_n ?_
  refine wp_seq ?_
  refine wp_seq ?_
  refine region_seq hS (by kernel_rfl)
    (cF rfl (o_move .t (by rfl)) r1 trivial
    (cF rfl (o_len_bs Tryd.underlying9 .t) r1 trivial
    (cF rfl (o_eql .t (.ci (by kernel_rfl))) r1 trivial
    Chain.nil)))
    (by kernel_rfl) (by rw [hB]; kernel_rfl) ?_
  clear hS; intro a w F hS
  obtain ⟨F, hS⟩ := hS.norm [(0, _), (1, _), (4, _), (9, _)] [(0, _)] r4 r1
  refine then_n ?_
  refine cond_b hS rfl (fun hc0 => ?_) (fun hc0 => ?_)
  ·skip
   simp at hc0
  ·skip
   refine wp_skip ?_
   refine then_n ?_
   refine wp_seq ?_
   refine wp_seq ?_
   refine region_seq hS (by kernel_rfl)
     (cF rfl (o_move .t (by rfl)) r1 trivial
     (cF rfl (o_len_bs Tryd.underlying9 .t) r1 trivial
     (cF rfl (o_eql .t (.ci (by kernel_rfl))) r1 trivial
     Chain.nil)))
     (by kernel_rfl) (by rw [hB]; kernel_rfl) ?_
   clear hS; intro a w F hS
   obtain ⟨F, hS⟩ := hS.norm [(0, _), (1, _), (4, _), (15, _)] [(0, _)] r4 r1
   refine then_n ?_
   refine cond_b hS rfl (fun hc1 => ?_) (fun hc1 => ?_)
   ·skip
    refine wp_seq ?_
    refine region_seq hS (by kernel_rfl)
      (cF rfl (o_move .t (by rfl)) r1 trivial
      (cF rfl (o_move .t (by rfl)) r1 trivial
      (cF rfl (o_index_bs Tryd.underlying9 .t (.ci (by kernel_rfl)) (by decide) (by simp)) r1 trivial
      (cF rfl (o_countByte Tryd.func88 (by kernel_rfl) (by kernel_rfl) (by kernel_rfl) rfl .t .t) r2 trivial
      (cF rfl (o_assign .t (by rfl)) r1 trivial
      Chain.nil)))))
      (by kernel_rfl) (by rw [hB]; kernel_rfl) ?_
    clear hS; intro a w F hS
    obtain ⟨F, hS⟩ := hS.norm [(0, _), (1, _), (4, _)] [(0, _)] r3 r1
    refine then_n ?_
    refine wp_ret ?_
    refine then_r ?_
    refine ret_P hfr hS rfl (.tmp rfl .nil) (.one (.int (by rw [show Go.Gm.nth [c] (Int.toNat 0) = c from rfl, toB_nat])))
   ·skip
    simp at hc1

end Go.Proofs.YtjdcnjemhjldoaaDoor
