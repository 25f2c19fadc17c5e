/- Versions as numbers. No condition beyond those that each theorem says. -/
import Derived.Test.YtpjjmolibanakaaPk1
namespace Go.Proofs.Ytpjjmolibanakaa
open Go Go.Gm
set_option linter.unusedVariables false
set_option linter.unusedSimpArgs false
set_option maxHeartbeats 4000000
set_option maxRecDepth 8000


theorem bad_rightV (v : VerD) : ((!(decide (v.tx = 0) && decide (v.nth = 0)) && ((!idB v.tx || decide (v.nth < 1)) || decide (4095 < v.nth))) || !idB v.key) = !rightV v := by
  unfold rightV
  by_cases h : v.tx = 0
  · rw [if_pos h, decide_eq_true h]
    have hi : idB v.tx = false := by rw [h]; rfl
    rw [hi]
    cases decide (v.nth = 0) <;> cases idB v.key <;> simp
  · rw [if_neg h, decide_eq_false h, not_lt_one, not_le_lt 4095]
    cases idB v.tx <;> cases idB v.key <;> cases decide (1 ≤ v.nth) <;> cases decide (v.nth ≤ 4095) <;> rfl

theorem version_c (v : VerD) : FnP Try.prog 68 [.agg (rVer v)] (.tup [.int .u64 (verR v).1, .int .i64 (verR v).2]) := by
  refine FnP.mk Try.func68 rfl Try.ntmps68 rfl ?_
  intro B a w F hB hfr hS
  refine wp_seq ?_
  refine region_q hS
    (cF rfl (oX 101 (.conv .t .agg)) r1 trivial
    (cF rfl (oN (.ci (by kernel_rfl))) trivial trivial
    (cF rfl (oN (.ci (by kernel_rfl))) trivial trivial
    Chain.nil)))
    hB ?_
  clear hS; intro a w F hS
  replace hS := hS.sub
  obtain ⟨F, hS⟩ := hS.nm [3, 2, 1] [101, 0] rfl rfl
  try dsimp only [RS.sub, SF.sub, CF.sub, csub, Anc.sub, List.map, zCF] at hS
  generalize Act.tau a 1 = v1 at hS
  refine then_n (wp_seq ?_)
  refine region_q hS
    (cF rfl (oF 0 101 .is) r1 r1
    (cF rfl (oL false 1 101 .adr) r1 r1
    (cF rfl (o_eql .t (.ci (by kernel_rfl))) r1 trivial
    (cF rfl (oM .t) r1 trivial
    (Chain.cons (Cert.cond rfl rfl (fun h => o_fieldAddr (off := 2) 101 .is (by kernel_rfl) (by rfl))) r2 r1
    (Chain.cons (Cert.cond rfl rfl (fun h => o_load (ag := false) (sz := 1) 101 (.w h .adr) (by kernel_rfl) (by kernel_rfl) (by kernel_rfl) (by rfl))) r2 r1
    (Chain.cons (Cert.cond rfl rfl (fun h => o_eql (.w h) (.ci (by kernel_rfl)))) r2 trivial
    (cF rfl (o_and2 .t .t) r2 trivial
    (cF rfl (oN .t) r1 trivial
    Chain.nil)))))))))
    hB ?_
  clear hS; intro a w F hS
  obtain ⟨F, hS⟩ := hS.nm [4, 3, 2, 1] [101, 0] rfl rfl
  try dsimp only [List.map, xD, xE, xT, xU, ldSF] at hS
  refine then_n (wp_seq (wp_seq ?_))
  refine region_q hS
    (cF rfl (oM .t) r1 trivial
    (cF rfl (o_not .t) r1 trivial
    (cF rfl (oM .t) r1 trivial
    (Chain.cons (Cert.cond rfl rfl (fun h => o_fieldAddr (off := 0) 101 .is (by kernel_rfl) (by rfl))) r2 r1
    (Chain.cons (Cert.cond rfl rfl (fun h => o_load (ag := false) (sz := 1) 101 (.w h .adr) (by kernel_rfl) (by kernel_rfl) (by kernel_rfl) (by rfl))) r2 r1
    (Chain.cons (Cert.cond rfl rfl (fun h => o_callP (id_c _) Try.func116 rfl (by kernel_rfl) (Args.one (.w h)))) r2 trivial
    (Chain.cons (Cert.cond rfl rfl (fun h => o_not (.w h))) r2 trivial
    (Chain.cons (Cert.cond rfl rfl (fun h => o_move (.w h) (by rfl))) r2 trivial
    (Chain.cons (Cert.cond2 rfl rfl (fun h => o_fieldAddr (off := 2) 101 .is (by kernel_rfl) (by rfl))) r2 r1
    (Chain.cons (Cert.cond2 rfl rfl (fun h => o_load (ag := false) (sz := 1) 101 (.w h .adr) (by kernel_rfl) (by kernel_rfl) (by kernel_rfl) (by rfl))) r2 r1
    (Chain.cons (Cert.cond2 rfl rfl (fun h => o_lss (.w h) (.ci (by kernel_rfl)))) r2 trivial
    (Chain.cons (Cert.cond rfl rfl (fun h => o_or2 (.w h) (.wc h))) r3 trivial
    (Chain.cons (Cert.cond rfl rfl (fun h => o_move (.w h) (by rfl))) r2 trivial
    (Chain.cons (Cert.cond2 rfl rfl (fun h => o_fieldAddr (off := 2) 101 .is (by kernel_rfl) (by rfl))) r2 r1
    (Chain.cons (Cert.cond2 rfl rfl (fun h => o_load (ag := false) (sz := 1) 101 (.w h .adr) (by kernel_rfl) (by kernel_rfl) (by kernel_rfl) (by rfl))) r2 r1
    (Chain.cons (Cert.cond2 rfl rfl (fun h => o_gtr (.w h) (.ci (by kernel_rfl)))) r2 trivial
    (Chain.cons (Cert.cond rfl rfl (fun h => o_or2 (.w h) (.wc h))) r3 trivial
    (cF rfl (o_and2 .t .t) r2 trivial
    (cF rfl (oM .t) r1 trivial
    (Chain.cons (Cert.cond rfl rfl (fun h => o_fieldAddr (off := 1) 101 .is (by kernel_rfl) (by rfl))) r2 r1
    (Chain.cons (Cert.cond rfl rfl (fun h => o_load (ag := false) (sz := 1) 101 (.w h .adr) (by kernel_rfl) (by kernel_rfl) (by kernel_rfl) (by rfl))) r2 r1
    (Chain.cons (Cert.cond rfl rfl (fun h => o_callP (id_c _) Try.func116 rfl (by kernel_rfl) (Args.one (.w h)))) r2 trivial
    (Chain.cons (Cert.cond rfl rfl (fun h => o_not (.w h))) r2 trivial
    (cF rfl (o_or2 .t .t) r2 trivial
    Chain.nil))))))))))))))))))))))))
    hB ?_
  clear hS; intro a w F hS
  obtain ⟨F, hS⟩ := hS.nm [36, 3, 2, 1] [101, 0] rfl rfl
  try dsimp only [List.map, xD, xE, xT, xU, ldSF] at hS
  refine then_n ?_
  refine cond_b hS rfl (fun hc0 => ?_) (fun hc0 => ?_)
  ·skip
   rw [bad_rightV] at hc0
   have hr : rightV v = false := by simpa using hc0
   have hg : verR v = (0, 1) := by unfold verR; rw [hr]; rfl
   refine wp_seq ?_
   refine region_q hS
     (cF rfl (oN (.ci (by kernel_rfl))) trivial trivial
     (cF rfl (oN (.ci (by kernel_rfl))) trivial trivial
     Chain.nil))
     hB ?_
   clear hS; intro a w F hS
   obtain ⟨F, hS⟩ := hS.nm [3, 2, 1] [101, 0] rfl rfl
   refine then_n (wp_ret (then_r ?_))
   refine ret_P hfr hS rfl (.tmp rfl (.tmp rfl .nil)) (.two (.int (by rw [hg]; try exact ver_word hr)) (.int (by rw [hg])))
  rw [bad_rightV] at hc0
  have hr : rightV v = true := by simpa using hc0
  have hg : verR v = (verN v, 0) := if_pos hr
  refine wp_skip (then_n (wp_seq ?_))
  refine region_q hS
    (cF rfl (oF 0 101 .is) r1 r1
    (cF rfl (oL false 1 101 .adr) r1 r1
    (cF rfl (o_conv Try.underlying81 (by kernel_rfl) .t) r1 trivial
    (cF rfl (o_shl .t (.ci (by kernel_rfl)) (by decide)) r1 trivial
    (cF rfl (oF 1 101 .is) r1 r1
    (cF rfl (oL false 1 101 .adr) r1 r1
    (cF rfl (o_conv Try.underlying81 (by kernel_rfl) .t) r1 trivial
    (cF rfl (o_or .t .t) r2 trivial
    (cF rfl (o_shl .t (.ci (by kernel_rfl)) (by decide)) r1 trivial
    (cF rfl (oF 2 101 .is) r1 r1
    (cF rfl (oL false 1 101 .adr) r1 r1
    (cF rfl (o_conv Try.underlying81 (by kernel_rfl) .t) r1 trivial
    (cF rfl (o_or .t .t) r2 trivial
    (cF rfl (oN .t) r1 trivial
    (cF rfl (oN (.ci (by kernel_rfl))) trivial trivial
    Chain.nil)))))))))))))))
    hB ?_
  clear hS; intro a w F hS
  obtain ⟨F, hS⟩ := hS.nm [3, 2] [0] rfl rfl
  try dsimp only [List.map, xD, xE, xT, xU, ldSF] at hS
  refine then_n (wp_ret ?_)
  refine ret_P hfr hS rfl (.tmp rfl (.tmp rfl .nil)) (.two (.int (by rw [hg]; try exact ver_word hr)) (.int (by rw [hg])))

theorem rightV_c (v : VerD) : FnP Try.prog 123 [.agg (rVer v)] (.bool (rightV v)) := by
  refine FnP.mk Try.func123 rfl Try.ntmps123 rfl ?_
  intro B a w F hB hfr hS
  refine wp_seq ?_
  refine region_q hS
    (cF rfl (oX 101 (.conv .t .agg)) r1 trivial
    (cF rfl (oN .cb) trivial trivial
    Chain.nil))
    hB ?_
  clear hS; intro a w F hS
  replace hS := hS.sub
  obtain ⟨F, hS⟩ := hS.nm [2, 1] [101, 0] rfl rfl
  try dsimp only [RS.sub, SF.sub, CF.sub, csub, Anc.sub, List.map, zCF] at hS
  generalize Act.tau a 1 = v1 at hS
  refine then_n (wp_seq (wp_seq ?_))
  refine region_q hS
    (cF rfl (oF 0 101 .is) r1 r1
    (cF rfl (oL false 1 101 .adr) r1 r1
    (cF rfl (o_eql .t (.ci (by kernel_rfl))) r1 trivial
    Chain.nil)))
    hB ?_
  clear hS; intro a w F hS
  obtain ⟨F, hS⟩ := hS.nm [5, 2, 1] [101, 0] rfl rfl
  try dsimp only [List.map, xD, xE, xT, xU, ldSF] at hS
  refine then_n ?_
  refine cond_b hS rfl (fun hc0 => ?_) (fun hc0 => ?_)
  ·skip
   have h0 : v.tx = 0 := of_decide_eq_true hc0
   refine wp_seq ?_
   refine region_q hS
     (cF rfl (oF 1 101 .is) r1 r1
     (cF rfl (oL false 1 101 .adr) r1 r1
     (cF rfl (oP (refId_c _) Try.func81 (Args.one .t)) r1 trivial
     (cF rfl (oM .t) r1 trivial
     (Chain.cons (Cert.cond rfl rfl (fun h => o_fieldAddr (off := 2) 101 .is (by kernel_rfl) (by rfl))) r2 r1
     (Chain.cons (Cert.cond rfl rfl (fun h => o_load (ag := false) (sz := 1) 101 (.w h .adr) (by kernel_rfl) (by kernel_rfl) (by kernel_rfl) (by rfl))) r2 r1
     (Chain.cons (Cert.cond rfl rfl (fun h => o_eql (.w h) (.ci (by kernel_rfl)))) r2 trivial
     (cF rfl (o_and2 .t .t) r2 trivial
     (cF rfl (oN .t) r1 trivial
     Chain.nil)))))))))
     hB ?_
   clear hS; intro a w F hS
   obtain ⟨F, hS⟩ := hS.nm [2, 1] [101, 0] rfl rfl
   try dsimp only [List.map, xD, xE, xT, xU, ldSF] at hS
   refine then_n (wp_ret (then_r ?_))
   refine ret_P hfr hS rfl (.tmp rfl .nil) (.one (.bool (by unfold rightV; first | rw [if_pos h0] | rw [if_neg h0])))
  have h0 : ¬ v.tx = 0 := of_decide_eq_false hc0
  refine wp_skip (then_n (wp_seq ?_))
  refine region_q hS
    (cF rfl (oF 0 101 .is) r1 r1
    (cF rfl (oL false 1 101 .adr) r1 r1
    (cF rfl (oP (refId_c _) Try.func81 (Args.one .t)) r1 trivial
    (cF rfl (oM .t) r1 trivial
    (Chain.cons (Cert.cond rfl rfl (fun h => o_fieldAddr (off := 1) 101 .is (by kernel_rfl) (by rfl))) r2 r1
    (Chain.cons (Cert.cond rfl rfl (fun h => o_load (ag := false) (sz := 1) 101 (.w h .adr) (by kernel_rfl) (by kernel_rfl) (by kernel_rfl) (by rfl))) r2 r1
    (Chain.cons (Cert.cond rfl rfl (fun h => o_callP (refId_c _) Try.func81 rfl (by kernel_rfl) (Args.one (.w h)))) r2 trivial
    (cF rfl (o_and2 .t .t) r2 trivial
    (cF rfl (oM .t) r1 trivial
    (Chain.cons (Cert.cond rfl rfl (fun h => o_fieldAddr (off := 2) 101 .is (by kernel_rfl) (by rfl))) r2 r1
    (Chain.cons (Cert.cond rfl rfl (fun h => o_load (ag := false) (sz := 1) 101 (.w h .adr) (by kernel_rfl) (by kernel_rfl) (by kernel_rfl) (by rfl))) r2 r1
    (Chain.cons (Cert.cond rfl rfl (fun h => o_geq (.w h) (.ci (by kernel_rfl)))) r2 trivial
    (cF rfl (o_and2 .t .t) r2 trivial
    (cF rfl (oM .t) r1 trivial
    (Chain.cons (Cert.cond rfl rfl (fun h => o_fieldAddr (off := 2) 101 .is (by kernel_rfl) (by rfl))) r2 r1
    (Chain.cons (Cert.cond rfl rfl (fun h => o_load (ag := false) (sz := 1) 101 (.w h .adr) (by kernel_rfl) (by kernel_rfl) (by kernel_rfl) (by rfl))) r2 r1
    (Chain.cons (Cert.cond rfl rfl (fun h => o_leq (.w h) (.ci (by kernel_rfl)))) r2 trivial
    (cF rfl (o_and2 .t .t) r2 trivial
    (cF rfl (oN .t) r1 trivial
    Chain.nil)))))))))))))))))))
    hB ?_
  clear hS; intro a w F hS
  obtain ⟨F, hS⟩ := hS.nm [2] [0] rfl rfl
  try dsimp only [List.map, xD, xE, xT, xU, ldSF] at hS
  refine then_n (wp_ret ?_)
  refine ret_P hfr hS rfl (.tmp rfl .nil) (.one (.bool (by unfold rightV; first | rw [if_pos h0] | rw [if_neg h0])))

theorem unversion_c (x : Int) : FnP Try.prog 69 [.int .u64 x] (.tup [.agg (rVer (unverR x).1), .int .i64 (unverR x).2]) := by
  refine FnP.mk Try.func69 rfl Try.ntmps69 rfl ?_
  intro B a w F hB hfr hS
  have hx := range_u64 (hS.range (i := 0) rfl)
  refine wp_seq ?_
  refine region_q hS
    (cF rfl (oH [.int .i64 0, .int .i64 0, .int .i64 0] 101) trivial trivial
    (cF rfl (oN (.ci (by kernel_rfl))) trivial trivial
    Chain.nil))
    hB ?_
  clear hS; intro a w F hS
  replace hS := hS.sub
  obtain ⟨F, hS⟩ := hS.nm [3, 2, 0] [101, 0] rfl rfl
  try dsimp only [RS.sub, SF.sub, CF.sub, csub, Anc.sub, List.map, zCF] at hS
  generalize Act.tau a 2 = v2 at hS
  refine then_n (wp_seq ?_)
  refine region_q hS
    (cF rfl (oM .t) r1 trivial
    (cF rfl (oP (take_c (x) 12 4096 12 (by omega) (by decide) rfl (by decide) rfl (by decide)) Try.func117 (Args.two .t (.ci (by kernel_rfl)))) r1 trivial
    (cF rfl (oM .t) r1 trivial
    (cF rfl (o_extract .t rfl) r1 trivial
    (cF rfl (o_extract .t rfl) r1 trivial
    (cF rfl (oN .t) r1 trivial
    (cF rfl (oN .t) r1 trivial
    Chain.nil)))))))
    hB ?_
  clear hS; intro a w F hS
  obtain ⟨F, hS⟩ := hS.nm [5, 4, 3, 2] [101, 0] rfl rfl
  refine then_n (wp_seq ?_)
  refine region_q hS
    (cF rfl (oM .t) r1 trivial
    (cF rfl (oP (take_c (x / 4096) 20 1048576 20 (by omega) (by decide) rfl (by decide) rfl (by decide)) Try.func117 (Args.two .t (.ci (by kernel_rfl)))) r1 trivial
    (cF rfl (oM .t) r1 trivial
    (cF rfl (o_extract .t rfl) r1 trivial
    (cF rfl (o_extract .t rfl) r1 trivial
    (cF rfl (oN .t) r1 trivial
    (cF rfl (oN .t) r1 trivial
    Chain.nil)))))))
    hB ?_
  clear hS; intro a w F hS
  obtain ⟨F, hS⟩ := hS.nm [6, 5, 4, 3, 2] [101, 0] rfl rfl
  rw [show x / 4096 / 1048576 = x / 4294967296 by omega] at hS
  refine then_n (wp_seq (wp_seq ?_))
  refine region_q hS
    (cF rfl (oM .t) r1 trivial
    (cF rfl (o_gtr .t (.ci (by kernel_rfl))) r1 trivial
    Chain.nil))
    hB ?_
  clear hS; intro a w F hS
  obtain ⟨F, hS⟩ := hS.nm [21, 6, 5, 4, 3, 2] [101, 0] rfl rfl
  refine then_n ?_
  refine cond_b hS rfl (fun hc0 => ?_) (fun hc0 => ?_)
  ·skip
   have hg : unverR x = (noV, 5) := if_pos (of_decide_eq_true hc0)
   refine wp_seq ?_
   refine region_q hS
     (cF rfl (oB [] [.int .i64 0, .int .i64 0, .int .i64 0] [(0, 1), (1, 1), (2, 1)] .nil) trivial trivial
     (cF rfl (oA 3 101 .is .t) r2 r1
     (cF rfl (oN (.ci (by kernel_rfl))) trivial trivial
     Chain.nil)))
     hB ?_
   clear hS; intro a w F hS
   obtain ⟨F, hS⟩ := hS.nm [6, 5, 4, 3, 2] [101, 0] rfl rfl
   try dsimp only [List.map, stCells, xL, xM, Nat.reduceAdd, xD, xE, xT, xU, xC, xN, zCF] at hS
   refine then_n (wp_ret (then_r ?_))
   refine ret_P hfr hS rfl (.cell (n := 101) (ag := true) (sz := 3) rfl .is rfl (by kernel_rfl) (by kernel_rfl) (by kernel_rfl) (.tmp rfl .nil)) (.two (by rw [hg]; exact .aggU rfl rfl) (.int (by rw [hg])))
  have hlt : ¬ 1048575 < x / 4294967296 := of_decide_eq_false hc0
  refine wp_skip (then_n (wp_seq ?_))
  refine region_q hS
    (cF rfl (oM .t) r1 trivial
    (cF rfl (o_conv Try.underlying3 (by kernel_rfl) .t) r1 trivial
    (cF rfl (oM .t) r1 trivial
    (cF rfl (oM .t) r1 trivial
    (cF rfl (oB [(0, .tmp 24), (1, .tmp 25), (2, .tmp 26)] [.int .i64 0, .int .i64 0, .int .i64 0] [(0, 1), (1, 1), (2, 1)] (.one rfl .t one_int (by kernel_rfl) (.one rfl .t one_int (by kernel_rfl) (.one rfl .t one_int (by kernel_rfl) .nil)))) r3 trivial
    (cF rfl (oH [.int .i64 0, .int .i64 0, .int .i64 0] 102) trivial trivial
    (cF rfl (oA 3 102 .same .t) r2 r1
    Chain.nil)))))))
    hB ?_
  clear hS; intro a w F hS
  replace hS := hS.sub
  obtain ⟨F, hS⟩ := hS.nm [7, 3, 2] [102, 101, 0] rfl rfl
  try dsimp only [RS.sub, SF.sub, CF.sub, csub, Anc.sub, List.map, stCells, xL, xM, Nat.reduceAdd, xD, xE, xT, xU, xC, xN, zCF] at hS
  generalize Act.tau a 7 = v7 at hS
  rw [wrap_i64 (x := x / 4294967296) (by omega)] at hS
  refine then_n (wp_seq (wp_seq ?_))
  refine region_q hS
    (cF rfl (oL true 3 102 .is) r1 r1
    (cF rfl (oP (version_c (verOf x)) Try.func68 (Args.one (.pagg .t))) r1 trivial
    (cF rfl (oM .t) r1 trivial
    (cF rfl (o_extract .t rfl) r1 trivial
    (cF rfl (o_extract .t rfl) r1 trivial
    (cF rfl (oN .t) r1 trivial
    (cF rfl (oN .t) r1 trivial
    Chain.nil)))))))
    hB ?_
  clear hS; intro a w F hS
  obtain ⟨F, hS⟩ := hS.nm [9, 7, 3, 2] [102, 101, 0] rfl rfl
  try dsimp only [List.map, xD, xE, xT, xU, ldSF] at hS
  refine then_n (wp_seq ?_)
  refine region_q hS
    (cF rfl (oM .t) r1 trivial
    (cF rfl (o_neq .t (.ci (by kernel_rfl))) r1 trivial
    Chain.nil))
    hB ?_
  clear hS; intro a w F hS
  obtain ⟨F, hS⟩ := hS.nm [34, 7, 3, 2] [102, 101, 0] rfl rfl
  refine then_n ?_
  refine cond_b hS rfl (fun hc1 => ?_) (fun hc1 => ?_)
  ·skip
   have hr : rightV (verOf x) = false := by
     cases hh : rightV (verOf x)
     · rfl
     · unfold verR at hc1; rw [hh] at hc1; simp at hc1
   have hg : unverR x = (noV, 5) := by unfold unverR; rw [if_neg hlt, hr]; rfl
   refine wp_seq ?_
   refine region_q hS
     (cF rfl (oB [] [.int .i64 0, .int .i64 0, .int .i64 0] [(0, 1), (1, 1), (2, 1)] .nil) trivial trivial
     (cF rfl (oA 3 101 .is .t) r2 r1
     (cF rfl (oN (.ci (by kernel_rfl))) trivial trivial
     Chain.nil)))
     hB ?_
   clear hS; intro a w F hS
   obtain ⟨F, hS⟩ := hS.nm [7, 3, 2] [102, 101, 0] rfl rfl
   try dsimp only [List.map, stCells, xL, xM, Nat.reduceAdd, xD, xE, xT, xU, xC, xN, zCF] at hS
   refine then_n (wp_ret (then_r ?_))
   refine ret_P hfr hS rfl (.cell (n := 101) (ag := true) (sz := 3) rfl .is rfl (by kernel_rfl) (by kernel_rfl) (by kernel_rfl) (.tmp rfl .nil)) (.two (by rw [hg]; exact .aggU rfl rfl) (.int (by rw [hg])))
  have hr : rightV (verOf x) = true := by
    cases hh : rightV (verOf x)
    · unfold verR at hc1; rw [hh] at hc1; simp at hc1
    · rfl
  have hg : unverR x = (verOf x, 0) := by unfold unverR; rw [if_neg hlt, hr]; rfl
  refine wp_skip (then_n (wp_seq ?_))
  refine region_q hS
    (cF rfl (oL true 3 102 .is) r1 r1
    (cF rfl (oA 3 101 .is .t) r2 r1
    (cF rfl (oN (.ci (by kernel_rfl))) trivial trivial
    Chain.nil)))
    hB ?_
  clear hS; intro a w F hS
  obtain ⟨F, hS⟩ := hS.nm [3, 2] [101, 0] rfl rfl
  try dsimp only [List.map, stCells, xL, xM, Nat.reduceAdd, xD, xE, xT, xU, xC, xN, zCF, ldSF] at hS
  refine then_n (wp_ret ?_)
  refine ret_P hfr hS rfl (.cell (n := 101) (ag := true) (sz := 3) rfl .is rfl (by kernel_rfl) (by kernel_rfl) (by kernel_rfl) (.tmp rfl .nil)) (.two (by rw [hg]; exact .aggU rfl rfl) (.int (by rw [hg])))

end Go.Proofs.Ytpjjmolibanakaa
