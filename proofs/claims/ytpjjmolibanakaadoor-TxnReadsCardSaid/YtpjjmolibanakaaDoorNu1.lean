/- Read. No condition beyond those that each theorem says. -/
import Derived.Test.YtpjjmolibanakaaDoorNu0
namespace Go.Proofs.YtpjjmolibanakaaDoor
open Go Go.Gm
set_option linter.unusedVariables false
set_option linter.unusedSimpArgs false
set_option maxHeartbeats 4000000
set_option maxRecDepth 8000

theorem nth0 {c : UInt8} : ((c.toNat : Int) = 48) ↔ c = 48 := by
  constructor
  · intro h; apply UInt8.toNat_inj.1; simp; omega
  · intro h; subst h; rfl

theorem read_c (tx : List UInt8) (hlen : tx.length ≤ 9223372036854775807) : FnP Tryd.prog 23 [.bs tx] (.tup [.int .i64 (readR tx).1, .int .i64 (readR tx).2]) := by
  refine FnP.mk Tryd.func23 rfl Tryd.ntmps23 rfl ?_
  intro B a w F hB hfr hS
  refine wp_seq ?_
  refine region_q hS
    (cF rfl (oN (.ci (by kernel_rfl))) trivial trivial
    (cF rfl (oN (.ci (by kernel_rfl))) trivial trivial
    Chain.nil))
    hB ?_
  clear hS; intro a w F hS
  obtain ⟨F, hS⟩ := hS.nm [3, 2, 0] [0] rfl rfl
  refine then_n (wp_seq (wp_seq ?_))
  refine region_q hS
    (cF rfl (oM .t) r1 trivial
    (cF rfl (o_eql_bs Tryd.underlying9 .t (.cs (by kernel_rfl))) r1 trivial
    (cF rfl (oM .t) r1 trivial
    (Chain.cons (Cert.cond rfl rfl (fun h => o_move .t (by rfl))) r2 trivial
    (Chain.cons (Cert.cond rfl rfl (fun h => o_len_bs Tryd.underlying9 (.w h))) r2 trivial
    (Chain.cons (Cert.cond rfl rfl (fun h => o_gtr (.w h) (.ci (by kernel_rfl)))) r2 trivial
    (Chain.cons (Cert.cond rfl rfl (fun h => o_move (.w h) (by rfl))) r2 trivial
    (Chain.cons (Cert.cond2 rfl rfl (fun h => o_move .t (by rfl))) r2 trivial
    (Chain.cons (Cert.cond2 rfl rfl (fun h => o_index_bs Tryd.underlying9 (.w h) (.ci (by kernel_rfl)) (by decide) (by have := h.2; simp at this; omega))) r2 trivial
    (Chain.cons (Cert.cond2 rfl rfl (fun h => o_eql (.w h) (.ci (by kernel_rfl)))) r2 trivial
    (Chain.cons (Cert.cond rfl rfl (fun h => o_and2 (.w h) (.wc h))) r3 trivial
    (cF rfl (o_or2 .t .t) r2 trivial
    Chain.nil))))))))))))
    hB ?_
  clear hS; intro a w F hS
  obtain ⟨F, hS⟩ := hS.nm [18, 3, 2, 0] [0] rfl rfl
  refine then_n ?_
  refine cond_b hS rfl (fun hc0 => ?_) (fun hc0 => ?_)
  ·skip
   have hb : tx = [] ∨ (1 < tx.length ∧ nth tx 0 = 48) := by
     simp only [Bool.or_eq_true, Bool.and_eq_true, decide_eq_true_eq, nth0, Int.toNat_zero] at hc0
     rcases hc0 with hc0 | hc0
     · exact .inl hc0
     · exact .inr ⟨by omega, hc0.2⟩
   have hg : readR tx = (0, 10) := if_pos hb
   refine wp_seq ?_
   refine region_q hS
     (cF rfl (oN (.ci (by kernel_rfl))) trivial trivial
     (cF rfl (oN (.ci (by kernel_rfl))) trivial trivial
     Chain.nil))
     hB ?_
   clear hS; intro a w F hS
   obtain ⟨F, hS⟩ := hS.nm [3, 2, 0] [0] rfl rfl
   refine then_n (wp_ret (then_r ?_))
   refine ret_P hfr hS rfl (.tmp rfl (.tmp rfl .nil)) (.two (.int (by rw [hg]; try exact hv)) (.int (by rw [hg])))
  have hb : ¬ (tx = [] ∨ (1 < tx.length ∧ nth tx 0 = 48)) := by
    simp only [Bool.or_eq_false_iff, Bool.and_eq_false_iff, decide_eq_false_iff_not, nth0, Int.toNat_zero] at hc0
    rintro (hh | ⟨hh1, hh2⟩)
    · exact hc0.1 hh
    · rcases hc0.2 with hx | hx
      · exact hx (by omega)
      · exact hx hh2
  refine wp_skip (then_n (wp_seq ?_))
  refine region_q hS
    (cF rfl (oN (.ci (by kernel_rfl))) trivial trivial
    Chain.nil)
    hB ?_
  clear hS; intro a w F hS
  obtain ⟨F, hS⟩ := hS.nm [4, 3, 2, 0] [0] rfl rfl
  refine then_n (wp_seq (wp_seq ?_))
  refine region_q hS
    (cF rfl (oM .t) r1 trivial
    (cF rfl (o_len_bs Tryd.underlying9 .t) r1 trivial
    (cF rfl (oM (.ci (by kernel_rfl))) trivial trivial
    Chain.nil)))
    hB ?_
  clear hS; intro a w F hS
  obtain ⟨F, hS⟩ := hS.nm [21, 20, 4, 3, 2, 0] [0] rfl rfl
  refine then_n (wp_block ?_)
  obtain ⟨F, hS⟩ := hS.nm [21, 20, 4, 0] [0] rfl rfl
  refine loop_inv (σ := (Nat × Int)) (fun s => (⟨[(0, .pv (.bs tx)), (4, .pv (.int .u64 s.2)), (20, .pv (.int .i64 tx.length)), (21, .pv (.int .i64 s.1))], [(0, frame B)]⟩ : En)) (fun s => s.1 ≤ tx.length ∧ (tx.take s.1).all digit = true ∧ s.2 = (min (valOf (tx.take s.1)) 2147483648 : Nat)) (fun s => tx.length - s.1) (0, 0) hS ⟨Nat.zero_le _, rfl, rfl⟩ ?_
  clear hS; intro s a w F hC hS
  obtain ⟨i, n⟩ := s
  try dsimp only at hC
  try dsimp only at hS
  obtain ⟨hi, hd, hn⟩ := hC
  try dsimp only at hi hd hn
  refine wp_seq ?_
  refine region_q hS
    (cF rfl (o_lss .t .t) r2 trivial
    Chain.nil)
    hB ?_
  clear hS; intro a w F hS
  obtain ⟨F, hS⟩ := hS.nm [22, 21, 20, 4, 0] [0] rfl rfl
  refine then_n (wp_seq ?_)
  refine cond_b hS rfl (fun hc1 => ?_) (fun hc1 => ?_)
  ·skip
   have hil : i < tx.length := by simp at hc1; omega
   refine wp_skip (then_n (wp_seq (wp_block (wp_seq ?_))))
   refine region_q hS
     (cF rfl (oM .t) r1 trivial
     (cF rfl (oN .t) r1 trivial
     Chain.nil))
     hB ?_
   clear hS; intro a w F hS
   obtain ⟨F, hS⟩ := hS.nm [23, 22, 21, 20, 5, 4, 0] [0] rfl rfl
   refine then_n (wp_seq ?_)
   refine region_q hS
     (cF rfl (oM .t) r1 trivial
     (cF rfl (oM .t) r1 trivial
     (cF rfl (o_index_bs Tryd.underlying9 .t .t (by omega) (by omega)) r2 trivial
     (cF rfl (o_sub .t (.ci (by kernel_rfl))) r1 trivial
     (cF rfl (oN .t) r1 trivial
     Chain.nil)))))
     hB ?_
   clear hS; intro a w F hS
   obtain ⟨F, hS⟩ := hS.nm [27, 26, 25, 24, 23, 22, 21, 20, 6, 5, 4, 0] [0] rfl rfl
   refine then_n (wp_seq (wp_seq ?_))
   refine region_q hS
     (cF rfl (oM .t) r1 trivial
     (cF rfl (o_geq .t (.ci (by kernel_rfl))) r1 trivial
     Chain.nil))
     hB ?_
   clear hS; intro a w F hS
   obtain ⟨F, hS⟩ := hS.nm [29, 28, 27, 26, 25, 24, 23, 22, 21, 20, 6, 5, 4, 0] [0] rfl rfl
   refine then_n ?_
   refine cond_b hS rfl (fun hc2 => ?_) (fun hc2 => ?_)
   ·skip
    have hc := (nth tx (i : Int).toNat).toNat_lt
    have hnd : digit (nth tx i) = false := by
      rw [Int.toNat_natCast] at hc2 hc
      simp only [decide_eq_true_eq, u8_wrap] at hc2
      unfold digit
      rw [Bool.and_eq_false_iff, decide_eq_false_iff_not, decide_eq_false_iff_not]
      omega
    have hg : readR tx = (0, 10) := by unfold readR; rw [if_neg hb, if_pos (all_not hil hnd)]
    refine wp_seq ?_
    refine region_q hS
      (cF rfl (oN (.ci (by kernel_rfl))) trivial trivial
      (cF rfl (oN (.ci (by kernel_rfl))) trivial trivial
      Chain.nil))
      hB ?_
    clear hS; intro a w F hS
    obtain ⟨F, hS⟩ := hS.nm [29, 28, 27, 26, 25, 24, 23, 22, 21, 20, 6, 5, 4, 3, 2, 0] [0] rfl rfl
    refine then_n (wp_ret (then_r (block_r (then_r (then_r (block_r (then_r ?_)))))))
    refine ret_P hfr hS rfl (.tmp rfl (.tmp rfl .nil)) (.two (.int (by rw [hg]; try exact hv)) (.int (by rw [hg])))
   have hc := (nth tx (i : Int).toNat).toNat_lt
   rw [Int.toNat_natCast] at hc2 hc
   simp only [decide_eq_false_iff_not, u8_wrap] at hc2
   have hdi : digit (nth tx i) = true := by
     unfold digit
     rw [Bool.and_eq_true, decide_eq_true_eq, decide_eq_true_eq]
     omega
   have hd2 : (tx.take (i + 1)).all digit = true := by rw [all_next hil, hd, hdi]; rfl
   have hcd : 48 ≤ (nth tx i).toNat ∧ (nth tx i).toNat ≤ 57 := by
     unfold digit at hdi
     rw [Bool.and_eq_true, decide_eq_true_eq, decide_eq_true_eq] at hdi
     exact hdi
   have hacc : (if (2147483648 : Int) < IntKind.wrap .u64 (IntKind.wrap .u64 (n * 10) + IntKind.wrap .u64 (IntKind.wrap .u8 (((nth tx (i : Int).toNat).toNat : Int) - 48))) then 2147483648 else IntKind.wrap .u64 (IntKind.wrap .u64 (n * 10) + IntKind.wrap .u64 (IntKind.wrap .u8 (((nth tx (i : Int).toNat).toNat : Int) - 48)))) = ((min (valOf (tx.take (i + 1))) 2147483648 : Nat) : Int) := by
     rw [Int.toNat_natCast, val_next hil, hn]
     have e1 : IntKind.wrap .u8 (((nth tx i).toNat : Int) - 48) = ((nth tx i).toNat : Int) - 48 := wrap_u8 (by omega)
     have e2 : IntKind.wrap .u64 (((nth tx i).toNat : Int) - 48) = ((nth tx i).toNat : Int) - 48 := wrap_u64 (by omega)
     simp only [e1, e2, u64_wrap]
     split <;> omega
   refine wp_skip (then_n ?_)
   refine region_q hS
     (cF rfl (oM .t) r1 trivial
     (cF rfl (o_mul .t (.ci (by kernel_rfl))) r1 trivial
     (cF rfl (oM .t) r1 trivial
     (cF rfl (o_conv Tryd.underlying73 (by kernel_rfl) .t) r1 trivial
     (cF rfl (o_add .t .t) r2 trivial
     (cF rfl (o_min .t (.ci (by kernel_rfl))) r1 trivial
     (cF rfl (oN .t) r1 trivial
     Chain.nil)))))))
     hB ?_
   clear hS; intro a w F hS
   obtain ⟨F, hS⟩ := hS.nm [35, 34, 33, 32, 31, 30, 29, 28, 27, 26, 25, 24, 23, 22, 21, 20, 6, 5, 4, 0] [0] rfl rfl
   refine block_n (then_n ?_)
   refine region_q hS
     (cF rfl (o_add .t (.ci (by kernel_rfl))) r1 trivial
     (cF rfl (oM .t) r1 trivial
     Chain.nil))
     hB ?_
   clear hS; intro a w F hS
   obtain ⟨F, hS⟩ := hS.nm [36, 35, 34, 33, 32, 31, 30, 29, 28, 27, 26, 25, 24, 23, 22, 21, 20, 6, 5, 4, 0] [0] rfl rfl
   refine then_n ?_
   replace hS := hS.ent (i := 21) (s' := .pv (.int .i64 ((i + 1 : Nat) : Int))) rfl (.int (wrap_succ (by omega)))
   replace hS := hS.ent (i := 4) (s' := .pv (.int .u64 ((min (valOf (tx.take (i + 1))) 2147483648 : Nat) : Int))) rfl (.int hacc)
   obtain ⟨F, hS⟩ := hS.nm [21, 20, 4, 0] [0] rfl rfl
   exact ⟨(i + 1, (min (valOf (tx.take (i + 1))) 2147483648 : Nat)), F, ⟨by dsimp only; omega, hd2, rfl⟩, hS, by dsimp only; omega⟩
  have hil : i = tx.length := by simp at hc1; omega
  rw [hil, List.take_length] at hd hn
  refine wp_exit (then_x (then_x (block_x (then_n (wp_seq (wp_seq ?_))))))
  refine region_q hS
    (cF rfl (oM .t) r1 trivial
    (cF rfl (o_gtr .t (.ci (by kernel_rfl))) r1 trivial
    Chain.nil))
    hB ?_
  clear hS; intro a w F hS
  obtain ⟨F, hS⟩ := hS.nm [38, 4] [0] rfl rfl
  refine then_n ?_
  refine cond_b hS rfl (fun hc3 => ?_) (fun hc3 => ?_)
  ·skip
   have hg : readR tx = (0, 1) := by
     unfold readR
     rw [if_neg hb, if_neg (by rw [hd]; decide), if_pos (by simp at hc3; omega)]
   refine wp_seq ?_
   refine region_q hS
     (cF rfl (oN (.ci (by kernel_rfl))) trivial trivial
     (cF rfl (oN (.ci (by kernel_rfl))) trivial trivial
     Chain.nil))
     hB ?_
   clear hS; intro a w F hS
   obtain ⟨F, hS⟩ := hS.nm [4, 3, 2] [0] rfl rfl
   refine then_n (wp_ret (then_r ?_))
   refine ret_P hfr hS rfl (.tmp rfl (.tmp rfl .nil)) (.two (.int (by rw [hg]; try exact hv)) (.int (by rw [hg])))
  have hle : ¬ 2147483647 < valOf tx := by simp at hc3; omega
  have hg : readR tx = ((valOf tx : Int), 0) := by
    unfold readR
    rw [if_neg hb, if_neg (by rw [hd]; decide), if_neg hle]
  have hv : IntKind.wrap .i64 n = (valOf tx : Int) := by rw [wrap_i64 (by omega)]; omega
  refine wp_skip (then_n (wp_seq ?_))
  refine region_q hS
    (cF rfl (oM .t) r1 trivial
    (cF rfl (o_conv Tryd.underlying3 (by kernel_rfl) .t) r1 trivial
    (cF rfl (oN .t) r1 trivial
    (cF rfl (oN (.ci (by kernel_rfl))) trivial trivial
    Chain.nil))))
    hB ?_
  clear hS; intro a w F hS
  obtain ⟨F, hS⟩ := hS.nm [3, 2] [0] rfl rfl
  refine then_n (wp_ret ?_)
  refine ret_P hfr hS rfl (.tmp rfl (.tmp rfl .nil)) (.two (.int (by rw [hg]; try exact hv)) (.int (by rw [hg])))

/-- The reference's sum so far: the number itself, or one that is too great. -/
def RdB (n : Int) (v : Nat) : Prop := 0 ≤ n ∧ n ≤ 21474836479 ∧ (v ≤ 2147483647 → n = v) ∧ (2147483647 < v → 2147483647 < n)
theorem RdB.range {n : Int} {v : Nat} (h : RdB n v) : 0 ≤ n ∧ n ≤ 21474836479 := ⟨h.1, h.2.1⟩
theorem RdB.next {n : Int} {v c : Nat} (h : RdB n v) (hn : n ≤ 2147483647) (hc : 48 ≤ c ∧ c ≤ 57) : RdB (10 * n + c - 48) (v * 10 + (c - 48)) := by
  obtain ⟨h1, h2, h3, h4⟩ := h
  have hv : v ≤ 2147483647 := by
    rcases Nat.lt_or_ge 2147483647 v with hh | hh
    · have := h4 hh; omega
    · exact hh
  have := h3 hv
  refine ⟨by omega, by omega, fun _ => by omega, fun _ => by omega⟩
theorem RdB.val {n : Int} {v : Nat} (h : RdB n v) (hn : n ≤ 2147483647) : n = v := by
  rcases Nat.lt_or_ge 2147483647 v with hh | hh
  · have := h.2.2.2 hh; omega
  · exact h.2.2.1 hh

end Go.Proofs.YtpjjmolibanakaaDoor
