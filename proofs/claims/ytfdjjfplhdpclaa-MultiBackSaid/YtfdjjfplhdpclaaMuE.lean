/- Bags: tells. No condition beyond those that each theorem says. -/
import Derived.Test.YtfdjjfplhdpclaaMuD
import Derived.Test.YtfdjjfplhdpclaaMuB
namespace Go.Proofs.Ytfdjjfplhdpclaa
open Go Go.Gm
set_option linter.unusedVariables false
set_option linter.unusedSimpArgs false
set_option maxHeartbeats 4000000
set_option maxRecDepth 8000


theorem tells_c (b : Nat) (bg : List HvD) (e : EdgeD) : FnG Try.prog 8 1 [.is (.pointer (some ⟨b, 0, none⟩)), .sl rHv bg, .agg (rEdge e)] [mulH (.pointer (some ⟨b, 0, none⟩)) bg] (.bool true) (fun _ => [mulH (.pointer (some ⟨b, 0, none⟩)) bg]) := by
  refine FnG.mk Try.func8 rfl Try.ntmps8 rfl (by kernel_rfl) ?_
  intro B F0 a w F hB hG hS
  obtain ⟨hB0, hl0⟩ := mulH_ok (show (mulH (.pointer (some ⟨b, 0, none⟩)) bg).p _ _ _ from hS.r 1 _ rfl)
  refine wp_seq ?_
  refine region_q hS
    (cF rfl (oX 101 (.conv .t .agg)) r1 trivial
    (cF rfl (oN .cb) trivial trivial
    Chain.nil))
    hB ?_
  clear hS; intro a w F hS
  replace hS := hS.sub
  obtain ⟨F, hS⟩ := hS.nm [6, 5, 1, 0] [101, 1, 0] rfl rfl
  try dsimp only [RS.sub, SF.sub, CF.sub, csub, Anc.sub, List.map, zCF, rEdge, rHv] at hS
  generalize Act.tau a 5 = v5 at hS
  refine then_n (wp_seq ?_)
  refine region_any (by kernel_rfl) hS (by kernel_rfl)
    (cF rfl (oM .t) r1 trivial
    (cF rfl (oL true 4 101 .is) r1 r1
    (cF rfl (o_callG1 1 (mcount_c b bg e) Try.func14 rfl (by kernel_rfl) (Args.two .t (.pagg .t))) r2 r1
    (cF rfl (oM .t) r1 trivial
    (cF rfl (oL true 4 101 .is) r1 r1
    (cF rfl (oP (count17_c bg e (by omega)) Try.func19 (Args.two .t (.pagg .t))) r2 trivial
    (cF rfl (o_eql .t .t) r2 trivial
    (cF rfl (oM .t) r1 trivial
    (Chain.cons (Cert.cond rfl rfl (fun h => o_move .t (by rfl))) r2 trivial
    (Chain.cons (Cert.condR rfl rfl (by rfl) (fun h => o_callG1 1 (mlen_c b bg) Try.func15 rfl (by kernel_rfl) (Args.one (.w h)))) r2 r1
    (Chain.cons (Cert.cond rfl rfl (fun h => o_move .t (by rfl))) r2 trivial
    (Chain.cons (Cert.cond rfl rfl (fun h => o_len_sl Try.underlying22 (.w h))) r2 trivial
    (Chain.cons (Cert.cond rfl rfl (fun h => o_eql (.w h) (.w h))) r3 trivial
    (cF rfl (o_and2 .t .t) r2 trivial
    (cF rfl (oM .t) r1 trivial
    (Chain.cons (Cert.cond rfl rfl (fun h => o_move .t (by rfl))) r2 trivial
    (Chain.cons (Cert.condR rfl rfl (by rfl) (fun h => o_callG1 1 (medges_c b bg) Try.func11 rfl (by kernel_rfl) (Args.one (.w h)))) r2 r1
    (Chain.cons (Cert.cond rfl rfl (fun h => o_move .t (by rfl))) r2 trivial
    (Chain.cons (Cert.cond rfl rfl (fun h => o_callP (sameHv_c bg bg) Try.func12 rfl (by kernel_rfl) (Args.two (.w h) (.w h)))) r3 trivial
    (cF rfl (o_and2 .t .t) r2 trivial
    (cF rfl (oM .t) r1 trivial
    (Chain.cons (Cert.cond rfl rfl (fun h => o_move .t (by rfl))) r2 trivial
    (Chain.cons (Cert.cond rfl rfl (fun h => o_fieldAddr (off := 0) 101 .is (by kernel_rfl) (by rfl))) r2 r1
    (Chain.cons (Cert.cond rfl rfl (fun h => o_load (ag := false) (sz := 1) 101 (.w h .adr) (by kernel_rfl) (by kernel_rfl) (by kernel_rfl) (by rfl))) r2 r1
    (Chain.cons (Cert.condR rfl rfl (by rfl) (fun h => o_callG1 1 (mout_c b bg e.src) Try.func17 rfl (by kernel_rfl) (Args.two (.w h) (.w h)))) r3 r1
    (Chain.cons (Cert.cond rfl rfl (fun h => o_move .t (by rfl))) r2 trivial
    (Chain.cons (Cert.cond rfl rfl (fun h => o_fieldAddr (off := 0) 101 .is (by kernel_rfl) (by rfl))) r2 r1
    (Chain.cons (Cert.cond rfl rfl (fun h => o_load (ag := false) (sz := 1) 101 (.w h .adr) (by kernel_rfl) (by kernel_rfl) (by kernel_rfl) (by rfl))) r2 r1
    (Chain.cons (Cert.cond rfl rfl (fun h => o_callP (out17_c bg e.src (by omega)) Try.func20 rfl (by kernel_rfl) (Args.three (.w h) (.w h) .cb))) r3 trivial
    (Chain.cons (Cert.cond rfl rfl (fun h => o_callP (sameHv_c (outB bg e.src) (outB bg e.src)) Try.func12 rfl (by kernel_rfl) (Args.two (.w h) (.w h)))) r3 trivial
    (cF rfl (o_and2 .t .t) r2 trivial
    (cF rfl (oM .t) r1 trivial
    (Chain.cons (Cert.cond rfl rfl (fun h => o_move .t (by rfl))) r2 trivial
    (Chain.cons (Cert.cond rfl rfl (fun h => o_fieldAddr (off := 1) 101 .is (by kernel_rfl) (by rfl))) r2 r1
    (Chain.cons (Cert.cond rfl rfl (fun h => o_load (ag := false) (sz := 1) 101 (.w h .adr) (by kernel_rfl) (by kernel_rfl) (by kernel_rfl) (by rfl))) r2 r1
    (Chain.cons (Cert.condR rfl rfl (by rfl) (fun h => o_callG1 1 (min_c b bg e.dst) Try.func18 rfl (by kernel_rfl) (Args.two (.w h) (.w h)))) r3 r1
    (Chain.cons (Cert.cond rfl rfl (fun h => o_move .t (by rfl))) r2 trivial
    (Chain.cons (Cert.cond rfl rfl (fun h => o_fieldAddr (off := 1) 101 .is (by kernel_rfl) (by rfl))) r2 r1
    (Chain.cons (Cert.cond rfl rfl (fun h => o_load (ag := false) (sz := 1) 101 (.w h .adr) (by kernel_rfl) (by kernel_rfl) (by kernel_rfl) (by rfl))) r2 r1
    (Chain.cons (Cert.cond rfl rfl (fun h => o_callP (in17_c bg e.dst (by omega)) Try.func20 rfl (by kernel_rfl) (Args.three (.w h) (.w h) .cb))) r3 trivial
    (Chain.cons (Cert.cond rfl rfl (fun h => o_callP (sameHv_c (inB bg e.dst) (inB bg e.dst)) Try.func12 rfl (by kernel_rfl) (Args.two (.w h) (.w h)))) r3 trivial
    (cF rfl (o_and2 .t .t) r2 trivial
    (cF rfl (oM .t) r1 trivial
    (Chain.cons (Cert.cond rfl rfl (fun h => o_move .t (by rfl))) r2 trivial
    (Chain.cons (Cert.cond rfl rfl (fun h => o_fieldAddr (off := 0) 101 .is (by kernel_rfl) (by rfl))) r2 r1
    (Chain.cons (Cert.cond rfl rfl (fun h => o_load (ag := false) (sz := 1) 101 (.w h .adr) (by kernel_rfl) (by kernel_rfl) (by kernel_rfl) (by rfl))) r2 r1
    (Chain.cons (Cert.cond rfl rfl (fun h => o_fieldAddr (off := 1) 101 .is (by kernel_rfl) (by rfl))) r2 r1
    (Chain.cons (Cert.cond rfl rfl (fun h => o_load (ag := false) (sz := 1) 101 (.w h .adr) (by kernel_rfl) (by kernel_rfl) (by kernel_rfl) (by rfl))) r2 r1
    (Chain.cons (Cert.condR rfl rfl (by rfl) (fun h => o_callG1 1 (mkinds_c b bg e.src e.dst) Try.func16 rfl (by kernel_rfl) (Args.three (.w h) (.w h) (.w h)))) r4 r1
    (Chain.cons (Cert.cond rfl rfl (fun h => o_move .t (by rfl))) r2 trivial
    (Chain.cons (Cert.cond rfl rfl (fun h => o_fieldAddr (off := 0) 101 .is (by kernel_rfl) (by rfl))) r2 r1
    (Chain.cons (Cert.cond rfl rfl (fun h => o_load (ag := false) (sz := 1) 101 (.w h .adr) (by kernel_rfl) (by kernel_rfl) (by kernel_rfl) (by rfl))) r2 r1
    (Chain.cons (Cert.cond rfl rfl (fun h => o_fieldAddr (off := 1) 101 .is (by kernel_rfl) (by rfl))) r2 r1
    (Chain.cons (Cert.cond rfl rfl (fun h => o_load (ag := false) (sz := 1) 101 (.w h .adr) (by kernel_rfl) (by kernel_rfl) (by kernel_rfl) (by rfl))) r2 r1
    (Chain.cons (Cert.cond rfl rfl (fun h => o_callP (kinds17_c bg e.src e.dst (by omega)) Try.func21 rfl (by kernel_rfl) (Args.three (.w h) (.w h) (.w h)))) r4 trivial
    (Chain.cons (Cert.cond rfl rfl (fun h => o_eql (.w h) (.w h))) r3 trivial
    (cF rfl (o_and2 .t .t) r2 trivial
    (cF rfl (oN .t) r1 trivial
    Chain.nil))))))))))))))))))))))))))))))))))))))))))))))))))))))))))
    (by kernel_rfl) (by rw [hB]; kernel_rfl) ?_
  clear hS; intro a w F hS
  obtain ⟨F, hS⟩ := hS.nm [6] [1, 0] rfl rfl
  try dsimp only [List.map, xD, xE, xT, xU, ldSF, rEdge, rHv] at hS
  refine then_n (wp_ret ?_)
  refine ret_G1 hG hS rfl (.tmp rfl .nil) (.one (.bool (by simp))) rfl

end Go.Proofs.Ytfdjjfplhdpclaa
