/- Len, there, Has. No condition beyond those that each theorem says. -/
import Derived.Test.YtpahapjcdldodaaDoorBr0
namespace Go.Proofs.YtpahapjcdldodaaDoor
open Go Go.Gm
set_option linter.unusedVariables false
set_option linter.unusedSimpArgs false
set_option maxHeartbeats 4000000
set_option maxRecDepth 8000


theorem RowOk.at {n : Nat} {ws : List Int} (h : RowOk n ws) (i : Int) (h0 : 0 ≤ i) (h1 : i < n) : 0 ≤ i / 64 ∧ i / 64 < ws.length := by have := h.len; omega
theorem u64_nonneg (x : Int) : 0 ≤ IntKind.wrap .u64 x := by rw [u64_wrap]; omega
theorem and_iff {a b : Prop} [Decidable a] [Decidable b] (h : (decide a && decide b) = true) : a ∧ b := by simpa using h

theorem rlen_c (n : Nat) (p : PV) : FnP Tryd.prog 68 [.ref [.int .i64 n, p]] (.int .i64 n) := by
  refine FnP.mk Tryd.func68 rfl Tryd.ntmps68 rfl ?_
  intro B a w F hB hfr hS
  refine wp_seq ?_
  refine region_q hS
    (cF rfl (oN (.ci (by kernel_rfl))) trivial trivial
    Chain.nil)
    hB ?_
  clear hS; intro a w F hS
  obtain ⟨F, hS⟩ := hS.nm [2, 0] [0] rfl rfl
  refine then_n (wp_seq (wp_seq ?_))
  refine region_q hS
    (cF rfl (oM .t) r1 trivial
    (cF rfl (o_ref_eql Tryd.underlying72 .t) r1 trivial
    Chain.nil))
    hB ?_
  clear hS; intro a w F hS
  obtain ⟨F, hS⟩ := hS.nm [4, 2, 0] [0] rfl rfl
  refine then_n ?_
  refine cond_b hS rfl (fun hc0 => ?_) (fun hc0 => ?_)
  ·skip
   simp at hc0
  refine wp_skip (then_n (wp_seq ?_))
  refine region_q hS
    (cF rfl (oM .t) r1 trivial
    (cF rfl (o_nilCheck_ref .t) r1 trivial
    (cF rfl (oG 0 .t) r1 trivial
    (cF rfl (oR false 1 .t) r1 trivial
    (cF rfl (oN .t) r1 trivial
    Chain.nil)))))
    hB ?_
  clear hS; intro a w F hS
  obtain ⟨F, hS⟩ := hS.nm [2] [0] rfl rfl
  try dsimp only [List.map, xD, xE, xT, xU, ldSF] at hS
  refine then_n (wp_ret ?_)
  refine ret_P hfr hS rfl (.tmp rfl .nil) (.one .refl)

theorem rlen_nil  : FnP Tryd.prog 68 [.is (.pointer none)] (.int .i64 0) := by
  refine FnP.mk Tryd.func68 rfl Tryd.ntmps68 rfl ?_
  intro B a w F hB hfr hS
  refine wp_seq ?_
  refine region_q hS
    (cF rfl (oN (.ci (by kernel_rfl))) trivial trivial
    Chain.nil)
    hB ?_
  clear hS; intro a w F hS
  obtain ⟨F, hS⟩ := hS.nm [2, 0] [0] rfl rfl
  refine then_n (wp_seq (wp_seq ?_))
  refine region_q hS
    (cF rfl (oM .t) r1 trivial
    (cF rfl (o_nil_eql _ Tryd.underlying72 rfl .t) r1 trivial
    Chain.nil))
    hB ?_
  clear hS; intro a w F hS
  obtain ⟨F, hS⟩ := hS.nm [4, 2, 0] [0] rfl rfl
  refine then_n ?_
  refine cond_b hS rfl (fun hc0 => ?_) (fun hc0 => ?_)
  ·skip
   refine wp_seq ?_
   refine region_q hS
     (cF rfl (oN (.ci (by kernel_rfl))) trivial trivial
     Chain.nil)
     hB ?_
   clear hS; intro a w F hS
   obtain ⟨F, hS⟩ := hS.nm [2, 0] [0] rfl rfl
   refine then_n (wp_ret (then_r ?_))
   refine ret_P hfr hS rfl (.tmp rfl .nil) (.one .refl)
  simp at hc0

theorem there_c (n : Nat) (p : PV) (i : Int) : FnP Tryd.prog 67 [.ref [.int .i64 n, p], .int .i64 i] (.bool (decide (0 ≤ i) && decide (i < n))) := by
  refine FnP.mk Tryd.func67 rfl Tryd.ntmps67 rfl ?_
  intro B a w F hB hfr hS
  refine wp_seq ?_
  refine region_q hS
    (cF rfl (oN .cb) trivial trivial
    Chain.nil)
    hB ?_
  clear hS; intro a w F hS
  obtain ⟨F, hS⟩ := hS.nm [4, 1, 0] [0] rfl rfl
  refine then_n (wp_seq ?_)
  refine region_q hS
    (cF rfl (oM .t) r1 trivial
    (cF rfl (o_geq .t (.ci (by kernel_rfl))) r1 trivial
    (cF rfl (oM .t) r1 trivial
    (Chain.cons (Cert.cond rfl rfl (fun h => o_move .t (by rfl))) r2 trivial
    (Chain.cons (Cert.cond rfl rfl (fun h => o_move .t (by rfl))) r2 trivial
    (Chain.cons (Cert.cond rfl rfl (fun h => o_callP (rlen_c n p) Tryd.func68 rfl (by kernel_rfl) (Args.one (.w h)))) r2 trivial
    (Chain.cons (Cert.cond rfl rfl (fun h => o_lss (.w h) (.w h))) r3 trivial
    (cF rfl (o_and2 .t .t) r2 trivial
    (cF rfl (oN .t) r1 trivial
    Chain.nil)))))))))
    hB ?_
  clear hS; intro a w F hS
  obtain ⟨F, hS⟩ := hS.nm [4] [0] rfl rfl
  refine then_n (wp_ret ?_)
  refine ret_P hfr hS rfl (.tmp rfl .nil) (.one .refl)

theorem Int.toNat_ediv_64 {i : Int} (h : 0 ≤ i) : (i / 64).toNat = i.toNat / 64 := by omega
theorem not_and_yes {a b : Prop} [Decidable a] [Decidable b] (h : ¬ (a ∧ b)) : (decide a && decide b) = false := by rw [← Bool.decide_and]; exact decide_eq_false h

theorem has_c (n : Nat) (ws : List Int) (hI : RowOk n ws) (i : Int) : FnP Tryd.prog 47 [.ref [.int .i64 n, .sl rU64 ws], .int .i64 i] (.bool (hasW n ws i)) := by
  refine FnP.mk Tryd.func47 rfl Tryd.ntmps47 rfl ?_
  intro B a w F hB hfr hS
  refine wp_seq ?_
  refine region_q hS
    (cF rfl (oN .cb) trivial trivial
    Chain.nil)
    hB ?_
  clear hS; intro a w F hS
  obtain ⟨F, hS⟩ := hS.nm [4, 1, 0] [0] rfl rfl
  refine then_n (wp_seq ?_)
  refine region_q hS
    (cF rfl (oM .t) r1 trivial
    (cF rfl (oM .t) r1 trivial
    (cF rfl (oP (there_c n _ i) Tryd.func67 (Args.two .t .t)) r2 trivial
    (cF rfl (oM .t) r1 trivial
    (Chain.cons (Cert.cond rfl rfl (fun h => o_move .t (by rfl))) r2 trivial
    (Chain.cons (Cert.cond rfl rfl (fun h => o_nilCheck_ref (.w h))) r2 trivial
    (Chain.cons (Cert.cond rfl rfl (fun h => o_fieldAddr_ref (off := 1) (.w h) (by kernel_rfl))) r2 trivial
    (Chain.cons (Cert.cond rfl rfl (fun h => o_load_ref (ag := false) (sz := 1) (.w h) (by kernel_rfl) (by kernel_rfl) (by kernel_rfl))) r2 trivial
    (Chain.cons (Cert.cond rfl rfl (fun h => o_move .t (by rfl))) r2 trivial
    (Chain.cons (Cert.cond rfl rfl (fun h => o_shr (.w h) (.ci (by kernel_rfl)) (by decide))) r2 trivial
    (Chain.cons (Cert.cond rfl rfl (fun h => o_indexAddr_sl (sz := 1) (.mk Tryd.underlying102 (by kernel_rfl)) (by intro x; rfl) (.w h) (.w h) (by rw [shr6]; exact (hI.at i (and_iff h).1 (and_iff h).2).1) (by rw [shr6]; exact (hI.at i (and_iff h).1 (and_iff h).2).2))) r3 trivial
    (Chain.cons (Cert.cond rfl rfl (fun h => o_load_ref (ag := false) (sz := 1) (.w h) (by kernel_rfl) (by kernel_rfl) (by kernel_rfl))) r2 trivial
    (Chain.cons (Cert.cond rfl rfl (fun h => o_move .t (by rfl))) r2 trivial
    (Chain.cons (Cert.cond rfl rfl (fun h => o_and (.w h) (.ci (by kernel_rfl)))) r2 trivial
    (Chain.cons (Cert.cond rfl rfl (fun h => o_conv Tryd.underlying103 (by kernel_rfl) (.w h))) r2 trivial
    (Chain.cons (Cert.cond rfl rfl (fun h => o_shr (.w h) (.w h) (u64_nonneg _))) r3 trivial
    (Chain.cons (Cert.cond rfl rfl (fun h => o_and (.w h) (.ci (by kernel_rfl)))) r2 trivial
    (Chain.cons (Cert.cond rfl rfl (fun h => o_eql (.w h) (.ci (by kernel_rfl)))) r2 trivial
    (cF rfl (o_and2 .t .t) r2 trivial
    (cF rfl (oN .t) r1 trivial
    Chain.nil))))))))))))))))))))
    hB ?_
  clear hS; intro a w F hS
  obtain ⟨F, hS⟩ := hS.nm [4] [0] rfl rfl
  try dsimp only [List.map, xD, xE, xT, xU, ldSF] at hS
  refine then_n (wp_ret ?_)
  refine ret_P hfr hS rfl (.tmp rfl .nil) (.one (.bool (by unfold hasW bitAt; by_cases hb : 0 ≤ i ∧ i < n; (rw [shr6, ask_bit (hI.wd _) i (by have := hI.hi; omega), Int.toNat_ediv_64 hb.1]); (simp only [not_and_yes hb, Bool.false_and]))))

end Go.Proofs.YtpahapjcdldodaaDoor
