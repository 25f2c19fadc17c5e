/- Lx0, Lx1, Lx2, Lx3, Lx4, Lx5, Lx6, in one text. -/
import Derived.Test.YtpjjmolibanakaaDoorLibX
import Derived.Test.YtpjjmolibanakaaDoorBa0
namespace Go.Proofs.YtpjjmolibanakaaDoor
open Go Go.Gm
set_option linter.unusedVariables false
set_option linter.unusedSimpArgs false
set_option maxHeartbeats 4000000
set_option maxRecDepth 8000

end Go.Proofs.YtpjjmolibanakaaDoor
namespace Go.Proofs.YtpjjmolibanakaaDoor
open Go Go.Gm
set_option linter.unusedVariables false
set_option linter.unusedSimpArgs false
set_option maxHeartbeats 4000000
set_option maxRecDepth 8000

theorem toB_nat (c : UInt8) : toB ((c.toNat : Nat) : Int) = c := by
  unfold toB
  rw [Int.toNat_natCast]
  simp
theorem index_self (c : UInt8) : Lib.indexByte [c] c = 0 := by simp [Lib.indexByte]

theorem indexB_c (s : List UInt8) (x : Int) : FnP Tryd.prog 66 [.bs s, .int .u8 x] (.int .i64 (Lib.indexByte s (toB x))) := by
  refine FnP.mk Tryd.func66 rfl Tryd.ntmps66 rfl ?_
  intro B a w F hB hfr hS
  refine wp_seq ?_
  refine region_q hS
    (cF rfl (oN (.ci (by kernel_rfl))) trivial trivial
    Chain.nil)
    hB ?_
  clear hS; intro a w F hS
  obtain ⟨F, hS⟩ := hS.nm [4, 1, 0] [0] rfl rfl
  refine then_n (wp_seq ?_)
  refine region_q hS
    (cF rfl (oM .t) r1 trivial
    (cF rfl (oM .t) r1 trivial
    (cF rfl (o_indexByte Tryd.func80 (by kernel_rfl) (by kernel_rfl) (by kernel_rfl) rfl .t .t) r2 trivial
    (cF rfl (oN .t) r1 trivial
    Chain.nil))))
    hB ?_
  clear hS; intro a w F hS
  obtain ⟨F, hS⟩ := hS.nm [4] [0] rfl rfl
  refine then_n (wp_ret ?_)
  refine ret_P hfr hS rfl (.tmp rfl .nil) (.one .refl)

theorem index0_c (s : List UInt8) (c : UInt8) : FnP Tryd.prog 47 [.bs s, .bs [c]] (.int .i64 (Lib.indexByte s c)) := by
  refine FnP.mk Tryd.func47 rfl Tryd.ntmps47 rfl ?_
  intro B a w F hB hfr hS
  refine wp_seq ?_
  refine region_q hS
    (cF rfl (oN (.ci (by kernel_rfl))) trivial trivial
    Chain.nil)
    hB ?_
  clear hS; intro a w F hS
  obtain ⟨F, hS⟩ := hS.nm [4, 1, 0] [0] rfl rfl
  refine then_n (wp_seq ?_)
  refine region_q hS
    (cF rfl (oM .t) r1 trivial
    (cF rfl (o_len_bs Tryd.underlying9 .t) r1 trivial
    (cF rfl (oN .t) r1 trivial
    Chain.nil)))
    hB ?_
  clear hS; intro a w F hS
  obtain ⟨F, hS⟩ := hS.nm [5, 4, 1, 0] [0] rfl rfl
  refine then_n (wp_seq (wp_block (wp_seq ?_)))
  refine region_q hS
    (cF rfl (oM .t) r1 trivial
    (cF rfl (o_eql .t (.ci (by kernel_rfl))) r1 trivial
    (cF rfl (oM .t) r1 trivial
    (Chain.cons (Cert.cond rfl rfl (fun h => o_move .t (by rfl))) r2 trivial
    (Chain.cons (Cert.cond rfl rfl (fun h => o_move .t (by rfl))) r2 trivial
    (Chain.cons (Cert.cond rfl rfl (fun h => o_eql_bs Tryd.underlying9 (.w h) (.w h))) r3 trivial
    (cF rfl (o_or2 .t .t) r2 trivial
    (cF rfl (oN .t) r1 trivial
    Chain.nil))))))))
    hB ?_
  clear hS; intro a w F hS
  obtain ⟨F, hS⟩ := hS.nm [16, 5, 4, 1, 0] [0] rfl rfl
  refine then_n ?_
  refine cond_b hS rfl (fun hc0 => ?_) (fun hc0 => ?_)
  ·skip
   have hs : s = [c] := by
     simp at hc0
     exact hc0.symm
   have hg : (0 : Int) = Lib.indexByte s c := by rw [hs]; exact (index_self c).symm
   refine wp_seq ?_
   refine region_q hS
     (cF rfl (oN (.ci (by kernel_rfl))) trivial trivial
     Chain.nil)
     hB ?_
   clear hS; intro a w F hS
   obtain ⟨F, hS⟩ := hS.nm [5, 4, 1, 0] [0] rfl rfl
   refine then_n (wp_ret (block_r (then_r ?_)))
   refine ret_P hfr hS rfl (.tmp rfl .nil) (.one (.int (by first | exact hg | (rw [show Go.Gm.nth [c] (Int.toNat 0) = c from rfl, toB_nat]))))
  refine wp_seq ?_
  refine region_q hS
    (cF rfl (oM .t) r1 trivial
    (cF rfl (o_eql .t (.ci (by kernel_rfl))) r1 trivial
    (cF rfl (oN .t) r1 trivial
    Chain.nil)))
    hB ?_
  clear hS; intro a w F hS
  obtain ⟨F, hS⟩ := hS.nm [24, 5, 4, 1, 0] [0] rfl rfl
  refine then_n ?_
  refine cond_b hS rfl (fun hc1 => ?_) (fun hc1 => ?_)
  ·skip
   refine wp_seq ?_
   refine region_q hS
     (cF rfl (oM .t) r1 trivial
     (cF rfl (oM .t) r1 trivial
     (cF rfl (o_index_bs Tryd.underlying9 .t (.ci (by kernel_rfl)) (by decide) (by simp)) r1 trivial
     (cF rfl (oP (indexB_c s _) Tryd.func66 (Args.two .t .t)) r2 trivial
     (cF rfl (oN .t) r1 trivial
     Chain.nil)))))
     hB ?_
   clear hS; intro a w F hS
   obtain ⟨F, hS⟩ := hS.nm [5, 4, 1, 0] [0] rfl rfl
   refine then_n (wp_ret (block_r (then_r ?_)))
   refine ret_P hfr hS rfl (.tmp rfl .nil) (.one (.int (by first | exact hg | (rw [show Go.Gm.nth [c] (Int.toNat 0) = c from rfl, toB_nat]))))
  simp at hc1

end Go.Proofs.YtpjjmolibanakaaDoor
namespace Go.Proofs.YtpjjmolibanakaaDoor
open Go Go.Gm
set_option linter.unusedVariables false
set_option linter.unusedSimpArgs false
set_option maxHeartbeats 4000000
set_option maxRecDepth 8000

end Go.Proofs.YtpjjmolibanakaaDoor
namespace Go.Proofs.YtpjjmolibanakaaDoor
open Go Go.Gm
set_option linter.unusedVariables false
set_option linter.unusedSimpArgs false
set_option maxHeartbeats 4000000
set_option maxRecDepth 8000

end Go.Proofs.YtpjjmolibanakaaDoor
namespace Go.Proofs.YtpjjmolibanakaaDoor
open Go Go.Gm
set_option linter.unusedVariables false
set_option linter.unusedSimpArgs false
set_option maxHeartbeats 4000000
set_option maxRecDepth 8000

end Go.Proofs.YtpjjmolibanakaaDoor
namespace Go.Proofs.YtpjjmolibanakaaDoor
open Go Go.Gm
set_option linter.unusedVariables false
set_option linter.unusedSimpArgs false
set_option maxHeartbeats 4000000
set_option maxRecDepth 8000

end Go.Proofs.YtpjjmolibanakaaDoor
namespace Go.Proofs.YtpjjmolibanakaaDoor
open Go Go.Gm
set_option linter.unusedVariables false
set_option linter.unusedSimpArgs false
set_option maxHeartbeats 4000000
set_option maxRecDepth 8000

theorem is_byte {c d : UInt8} (h : ((c.toNat : Nat) : Int) = ((d.toNat : Nat) : Int)) : c = d := by apply UInt8.toNat_inj.1; omega

end Go.Proofs.YtpjjmolibanakaaDoor
