/- Read. No condition beyond those that each theorem says. -/
import Derived.Test.YtjdcnjemhjldoaaDoorNu0
namespace Go.Proofs.YtjdcnjemhjldoaaDoor
open Go Go.Gm
set_option linter.unusedVariables false
set_option linter.unusedSimpArgs false
set_option maxHeartbeats 4000000
set_option maxRecDepth 8000


theorem nth0 {c : UInt8} : ((c.toNat : Int) = 48) ↔ c = 48 := by
  constructor
  · intro h; apply UInt8.toNat_inj.1; simp; omega
  · intro h; subst h; rfl

theorem read_c (tx : List UInt8) (hlen : tx.length ≤ 9223372036854775807) : FnP Tryd.prog 24 [.bs tx] (.tup [.int .i64 (readR tx).1, .int .i64 (readR tx).2]) := by
  refine FnP.mk Tryd.func24 rfl Tryd.ntmps24 rfl ?_
  intro B a w F hB hfr hS
  refine wp_seq ?_
  refine region_seq hS (by kernel_rfl)
    (cF rfl (o_assign (.ci (by kernel_rfl)) (by rfl)) trivial trivial
    (cF rfl (o_assign (.ci (by kernel_rfl)) (by rfl)) trivial trivial
    Chain.nil))
    (by kernel_rfl) (by rw [hB]; kernel_rfl) ?_
  clear hS; intro a w F hS
  obtain ⟨F, hS⟩ := hS.norm [(0, _), (2, _), (3, _)] [(0, _)] r3 r1
  refine then_n ?_
  refine wp_seq ?_
  refine wp_seq ?_
  refine region_seq hS (by kernel_rfl)
    (cF rfl (o_move .t (by rfl)) r1 trivial
    (cF rfl (o_eql_bs Tryd.underlying9 .t (.cs (by kernel_rfl))) r1 trivial
    (cF rfl (o_move .t (by rfl)) r1 trivial
    (Chain.cons (Cert.cond rfl rfl (fun h => o_move .t (by rfl))) r2 trivial
    (Chain.cons (Cert.cond rfl rfl (fun h => o_len_bs Tryd.underlying9 (.w h))) r2 trivial
    (Chain.cons (Cert.cond rfl rfl (fun h => o_gtr (.w h) (.ci (by kernel_rfl)))) r2 trivial
    (Chain.cons (Cert.cond rfl rfl (fun h => o_move (.w h) (by rfl))) r2 trivial
    (Chain.cons (Cert.cond2 rfl rfl (fun h => o_move .t (by rfl))) r2 trivial
    (Chain.cons (Cert.cond2 rfl rfl (fun h => o_index_bs Tryd.underlying9 (.w h) (.ci (by kernel_rfl)) (by decide) (by have := h.2; simp at this; omega))) r2 trivial
    (Chain.cons (Cert.cond2 rfl rfl (fun h => o_eql (.w h) (.ci (by kernel_rfl)))) r2 trivial
    (Chain.cons (Cert.cond rfl rfl (fun h => o_and2 (.w h) (.wc h))) r3 trivial
    (cF rfl (o_or2 .t .t) r2 trivial
    Chain.nil))))))))))))
    (by kernel_rfl) (by rw [hB]; kernel_rfl) ?_
  clear hS; intro a w F hS
  obtain ⟨F, hS⟩ := hS.norm [(0, _), (2, _), (3, _), (18, _)] [(0, _)] r4 r1
  refine then_n ?_
  refine cond_b hS rfl (fun hc0 => ?_) (fun hc0 => ?_)
  ·skip
   have hb : tx = [] ∨ (1 < tx.length ∧ nth tx 0 = 48) := by
     simp only [Bool.or_eq_true, Bool.and_eq_true, decide_eq_true_eq, nth0, Int.toNat_zero] at hc0
     rcases hc0 with hc0 | hc0
     · exact .inl hc0
     · exact .inr ⟨by omega, hc0.2⟩
   have hg : readR tx = (0, 10) := if_pos hb
   refine wp_seq ?_
   refine region_seq hS (by kernel_rfl)
     (cF rfl (o_assign (.ci (by kernel_rfl)) (by rfl)) trivial trivial
     (cF rfl (o_assign (.ci (by kernel_rfl)) (by rfl)) trivial trivial
     Chain.nil))
     (by kernel_rfl) (by rw [hB]; kernel_rfl) ?_
   clear hS; intro a w F hS
   obtain ⟨F, hS⟩ := hS.norm [(0, _), (2, _), (3, _)] [(0, _)] r3 r1
   refine then_n ?_
   refine wp_ret ?_
   refine then_r ?_
   refine ret_P hfr hS rfl (.tmp rfl (.tmp rfl .nil)) (.two (.int (by rw [hg]; try exact hv)) (.int (by rw [hg])))
  ·skip
   have hb : ¬ (tx = [] ∨ (1 < tx.length ∧ nth tx 0 = 48)) := by
     simp only [Bool.or_eq_false_iff, Bool.and_eq_false_iff, decide_eq_false_iff_not, nth0, Int.toNat_zero] at hc0
     rintro (hh | ⟨hh1, hh2⟩)
     · exact hc0.1 hh
     · rcases hc0.2 with hx | hx
       · exact hx (by omega)
       · exact hx hh2
   refine wp_skip ?_
   refine then_n ?_
   refine wp_seq ?_
   refine region_seq hS (by kernel_rfl)
     (cF rfl (o_assign (.ci (by kernel_rfl)) (by rfl)) trivial trivial
     Chain.nil)
     (by kernel_rfl) (by rw [hB]; kernel_rfl) ?_
   clear hS; intro a w F hS
   obtain ⟨F, hS⟩ := hS.norm [(0, _), (2, _), (3, _), (4, _)] [(0, _)] r4 r1
   refine then_n ?_
   refine wp_seq ?_
   refine wp_seq ?_
   refine region_seq hS (by kernel_rfl)
     (cF rfl (o_move .t (by rfl)) r1 trivial
     (cF rfl (o_len_bs Tryd.underlying9 .t) r1 trivial
     (cF rfl (o_move (.ci (by kernel_rfl)) (by rfl)) trivial trivial
     Chain.nil)))
     (by kernel_rfl) (by rw [hB]; kernel_rfl) ?_
   clear hS; intro a w F hS
   obtain ⟨F, hS⟩ := hS.norm [(0, _), (2, _), (3, _), (4, _), (20, _), (21, _)] [(0, _)] r6 r1
   refine then_n ?_
   refine wp_block ?_
   obtain ⟨F, hS⟩ := hS.norm [(0, _), (4, _), (20, _), (21, _)] [(0, _)] r4 r1
   refine loop_inv (σ := (Nat × Int)) (fun s => (⟨[(0, .pv (.bs tx)), (4, .pv (.int .u64 s.2)), (20, .pv (.int .i64 tx.length)), (21, .pv (.int .i64 s.1))], [(0, frame B)]⟩ : En)) (fun s => s.1 ≤ tx.length ∧ (tx.take s.1).all digit = true ∧ s.2 = (min (valOf (tx.take s.1)) 2147483648 : Nat)) (fun s => tx.length - s.1) (0, 0) hS ⟨Nat.zero_le _, rfl, rfl⟩ ?_
   clear hS; intro s a w F hC hS
   obtain ⟨i, n⟩ := s
   try dsimp only at hC
   try dsimp only at hS
   obtain ⟨hi, hd, hn⟩ := hC
   try dsimp only at hi hd hn
   refine wp_seq ?_
   refine region_seq hS (by kernel_rfl)
     (cF rfl (o_lss .t .t) r2 trivial
     Chain.nil)
     (by kernel_rfl) (by rw [hB]; kernel_rfl) ?_
   clear hS; intro a w F hS
   obtain ⟨F, hS⟩ := hS.norm [(0, _), (4, _), (20, _), (21, _), (22, _)] [(0, _)] r5 r1
   refine then_n ?_
   refine wp_seq ?_
   refine cond_b hS rfl (fun hc1 => ?_) (fun hc1 => ?_)
   ·skip
    have hil : i < tx.length := by simp at hc1; omega
    refine wp_skip ?_
    refine then_n ?_
    refine wp_seq ?_
    refine wp_block ?_
    refine wp_seq ?_
    refine region_seq hS (by kernel_rfl)
      (cF rfl (o_move .t (by rfl)) r1 trivial
      (cF rfl (o_assign .t (by rfl)) r1 trivial
      Chain.nil))
      (by kernel_rfl) (by rw [hB]; kernel_rfl) ?_
    clear hS; intro a w F hS
    obtain ⟨F, hS⟩ := hS.norm [(0, _), (4, _), (5, _), (20, _), (21, _), (22, _), (23, _)] [(0, _)] r7 r1
    refine then_n ?_
    refine wp_seq ?_
    refine region_seq hS (by kernel_rfl)
      (cF rfl (o_move .t (by rfl)) r1 trivial
      (cF rfl (o_move .t (by rfl)) r1 trivial
      (cF rfl (o_index_bs Tryd.underlying9 .t .t (by omega) (by omega)) r2 trivial
      (cF rfl (o_sub .t (.ci (by kernel_rfl))) r1 trivial
      (cF rfl (o_assign .t (by rfl)) r1 trivial
      Chain.nil)))))
      (by kernel_rfl) (by rw [hB]; kernel_rfl) ?_
    clear hS; intro a w F hS
    obtain ⟨F, hS⟩ := hS.norm [(0, _), (4, _), (5, _), (6, _), (20, _), (21, _), (22, _), (23, _), (24, _), (25, _), (26, _), (27, _)] [(0, _)] ⟨rfl, rfl, rfl, rfl, rfl, rfl, rfl, rfl, rfl, rfl, rfl, rfl, trivial⟩ r1
    refine then_n ?_
    refine wp_seq ?_
    refine wp_seq ?_
    refine region_seq hS (by kernel_rfl)
      (cF rfl (o_move .t (by rfl)) r1 trivial
      (cF rfl (o_geq .t (.ci (by kernel_rfl))) r1 trivial
      Chain.nil))
      (by kernel_rfl) (by rw [hB]; kernel_rfl) ?_
    clear hS; intro a w F hS
    obtain ⟨F, hS⟩ := hS.norm [(0, _), (4, _), (5, _), (6, _), (20, _), (21, _), (22, _), (23, _), (24, _), (25, _), (26, _), (27, _), (28, _), (29, _)] [(0, _)] ⟨rfl, rfl, rfl, rfl, rfl, rfl, rfl, rfl, rfl, rfl, rfl, rfl, rfl, rfl, trivial⟩ r1
    refine then_n ?_
    refine cond_b hS rfl (fun hc2 => ?_) (fun hc2 => ?_)
    ·skip
     have hc := (nth tx (i : Int).toNat).toNat_lt
     have hnd : digit (nth tx i) = false := by
       rw [Int.toNat_natCast] at hc2 hc
       simp only [decide_eq_true_eq, u8_wrap] at hc2
       unfold digit
       rw [Bool.and_eq_false_iff, decide_eq_false_iff_not, decide_eq_false_iff_not]
       omega
     have hg : readR tx = (0, 10) := by unfold readR; rw [if_neg hb, if_pos (all_not hil hnd)]
     refine wp_seq ?_
     refine region_seq hS (by kernel_rfl)
       (cF rfl (o_assign (.ci (by kernel_rfl)) (by rfl)) trivial trivial
       (cF rfl (o_assign (.ci (by kernel_rfl)) (by rfl)) trivial trivial
       Chain.nil))
       (by kernel_rfl) (by rw [hB]; kernel_rfl) ?_
     clear hS; intro a w F hS
     obtain ⟨F, hS⟩ := hS.norm [(0, _), (2, _), (3, _), (4, _), (5, _), (6, _), (20, _), (21, _), (22, _), (23, _), (24, _), (25, _), (26, _), (27, _), (28, _), (29, _)] [(0, _)] ⟨rfl, rfl, rfl, rfl, rfl, rfl, rfl, rfl, rfl, rfl, rfl, rfl, rfl, rfl, rfl, rfl, trivial⟩ r1
     refine then_n ?_
     refine wp_ret ?_
     refine then_r ?_
     refine block_r ?_
     refine then_r ?_
     refine then_r ?_
     refine block_r ?_
     refine then_r ?_
     refine ret_P hfr hS rfl (.tmp rfl (.tmp rfl .nil)) (.two (.int (by rw [hg]; try exact hv)) (.int (by rw [hg])))
    ·skip
     have hc := (nth tx (i : Int).toNat).toNat_lt
     rw [Int.toNat_natCast] at hc2 hc
     simp only [decide_eq_false_iff_not, u8_wrap] at hc2
     have hdi : digit (nth tx i) = true := by
       unfold digit
       rw [Bool.and_eq_true, decide_eq_true_eq, decide_eq_true_eq]
       omega
     have hd2 : (tx.take (i + 1)).all digit = true := by rw [all_next hil, hd, hdi]; rfl
     have hcd : 48 ≤ (nth tx i).toNat ∧ (nth tx i).toNat ≤ 57 := by
       unfold digit at hdi
       rw [Bool.and_eq_true, decide_eq_true_eq, decide_eq_true_eq] at hdi
       exact hdi
     have hacc : (if (2147483648 : Int) < IntKind.wrap .u64 (IntKind.wrap .u64 (n * 10) + IntKind.wrap .u64 (IntKind.wrap .u8 (((nth tx (i : Int).toNat).toNat : Int) - 48))) then 2147483648 else IntKind.wrap .u64 (IntKind.wrap .u64 (n * 10) + IntKind.wrap .u64 (IntKind.wrap .u8 (((nth tx (i : Int).toNat).toNat : Int) - 48)))) = ((min (valOf (tx.take (i + 1))) 2147483648 : Nat) : Int) := by
       rw [Int.toNat_natCast, val_next hil, hn]
       have e1 : IntKind.wrap .u8 (((nth tx i).toNat : Int) - 48) = ((nth tx i).toNat : Int) - 48 := wrap_u8 (by omega)
       have e2 : IntKind.wrap .u64 (((nth tx i).toNat : Int) - 48) = ((nth tx i).toNat : Int) - 48 := wrap_u64 (by omega)
       simp only [e1, e2, u64_wrap]
       split <;> omega
     refine wp_skip ?_
     refine then_n ?_
     refine region_seq hS (by kernel_rfl)
       (cF rfl (o_move .t (by rfl)) r1 trivial
       (cF rfl (o_mul .t (.ci (by kernel_rfl))) r1 trivial
       (cF rfl (o_move .t (by rfl)) r1 trivial
       (cF rfl (o_conv Tryd.underlying62 (by kernel_rfl) .t) r1 trivial
       (cF rfl (o_add .t .t) r2 trivial
       (cF rfl (o_min .t (.ci (by kernel_rfl))) r1 trivial
       (cF rfl (o_assign .t (by rfl)) r1 trivial
       Chain.nil)))))))
       (by kernel_rfl) (by rw [hB]; kernel_rfl) ?_
     clear hS; intro a w F hS
     obtain ⟨F, hS⟩ := hS.norm [(0, _), (4, _), (5, _), (6, _), (20, _), (21, _), (22, _), (23, _), (24, _), (25, _), (26, _), (27, _), (28, _), (29, _), (30, _), (31, _), (32, _), (33, _), (34, _), (35, _)] [(0, _)] ⟨rfl, rfl, rfl, rfl, rfl, rfl, rfl, rfl, rfl, rfl, rfl, rfl, rfl, rfl, rfl, rfl, rfl, rfl, rfl, rfl, trivial⟩ r1
     refine block_n ?_
     refine then_n ?_
     refine region_seq hS (by kernel_rfl)
       (cF rfl (o_add .t (.ci (by kernel_rfl))) r1 trivial
       (cF rfl (o_move .t (by rfl)) r1 trivial
       Chain.nil))
       (by kernel_rfl) (by rw [hB]; kernel_rfl) ?_
     clear hS; intro a w F hS
     obtain ⟨F, hS⟩ := hS.norm [(0, _), (4, _), (5, _), (6, _), (20, _), (21, _), (22, _), (23, _), (24, _), (25, _), (26, _), (27, _), (28, _), (29, _), (30, _), (31, _), (32, _), (33, _), (34, _), (35, _), (36, _)] [(0, _)] ⟨rfl, rfl, rfl, rfl, rfl, rfl, rfl, rfl, rfl, rfl, rfl, rfl, rfl, rfl, rfl, rfl, rfl, rfl, rfl, rfl, rfl, trivial⟩ r1
     refine then_n ?_
     replace hS := hS.ent (i := 21) (s' := .pv (.int .i64 ((i + 1 : Nat) : Int))) rfl (.int (wrap_succ (by omega)))
     replace hS := hS.ent (i := 4) (s' := .pv (.int .u64 ((min (valOf (tx.take (i + 1))) 2147483648 : Nat) : Int))) rfl (.int hacc)
     obtain ⟨F, hS⟩ := hS.norm [(0, _), (4, _), (20, _), (21, _)] [(0, _)] r4 r1
     exact ⟨(i + 1, (min (valOf (tx.take (i + 1))) 2147483648 : Nat)), F, ⟨by dsimp only; omega, hd2, rfl⟩, hS, by dsimp only; omega⟩
   ·skip
    have hil : i = tx.length := by simp at hc1; omega
    rw [hil, List.take_length] at hd hn
    refine wp_exit ?_
    refine then_x ?_
    refine then_x ?_
    refine block_x ?_
    refine then_n ?_
    refine wp_seq ?_
    refine wp_seq ?_
    refine region_seq hS (by kernel_rfl)
      (cF rfl (o_move .t (by rfl)) r1 trivial
      (cF rfl (o_gtr .t (.ci (by kernel_rfl))) r1 trivial
      Chain.nil))
      (by kernel_rfl) (by rw [hB]; kernel_rfl) ?_
    clear hS; intro a w F hS
    obtain ⟨F, hS⟩ := hS.norm [(4, _), (38, _)] [(0, _)] r2 r1
    refine then_n ?_
    refine cond_b hS rfl (fun hc3 => ?_) (fun hc3 => ?_)
    ·skip
     have hg : readR tx = (0, 1) := by
       unfold readR
       rw [if_neg hb, if_neg (by rw [hd]; decide), if_pos (by simp at hc3; omega)]
     refine wp_seq ?_
     refine region_seq hS (by kernel_rfl)
       (cF rfl (o_assign (.ci (by kernel_rfl)) (by rfl)) trivial trivial
       (cF rfl (o_assign (.ci (by kernel_rfl)) (by rfl)) trivial trivial
       Chain.nil))
       (by kernel_rfl) (by rw [hB]; kernel_rfl) ?_
     clear hS; intro a w F hS
     obtain ⟨F, hS⟩ := hS.norm [(2, _), (3, _), (4, _)] [(0, _)] r3 r1
     refine then_n ?_
     refine wp_ret ?_
     refine then_r ?_
     refine ret_P hfr hS rfl (.tmp rfl (.tmp rfl .nil)) (.two (.int (by rw [hg]; try exact hv)) (.int (by rw [hg])))
    ·skip
     have hle : ¬ 2147483647 < valOf tx := by simp at hc3; omega
     have hg : readR tx = ((valOf tx : Int), 0) := by
       unfold readR
       rw [if_neg hb, if_neg (by rw [hd]; decide), if_neg hle]
     have hv : IntKind.wrap .i64 n = (valOf tx : Int) := by rw [wrap_i64 (by omega)]; omega
     refine wp_skip ?_
     refine then_n ?_
     refine wp_seq ?_
     refine region_seq hS (by kernel_rfl)
       (cF rfl (o_move .t (by rfl)) r1 trivial
       (cF rfl (o_conv Tryd.underlying3 (by kernel_rfl) .t) r1 trivial
       (cF rfl (o_assign .t (by rfl)) r1 trivial
       (cF rfl (o_assign (.ci (by kernel_rfl)) (by rfl)) trivial trivial
       Chain.nil))))
       (by kernel_rfl) (by rw [hB]; kernel_rfl) ?_
     clear hS; intro a w F hS
     obtain ⟨F, hS⟩ := hS.norm [(2, _), (3, _)] [(0, _)] r2 r1
     refine then_n ?_
     refine wp_ret ?_
     refine ret_P hfr hS rfl (.tmp rfl (.tmp rfl .nil)) (.two (.int (by rw [hg]; try exact hv)) (.int (by rw [hg])))

/-- The reference's sum so far: the number itself, or one that is too great. -/
def RdB (n : Int) (v : Nat) : Prop := 0 ≤ n ∧ n ≤ 21474836479 ∧ (v ≤ 2147483647 → n = v) ∧ (2147483647 < v → 2147483647 < n)
theorem rdB_0 : RdB 0 0 := ⟨by decide, by decide, fun _ => rfl, fun h => absurd h (by decide)⟩
theorem RdB.range {n : Int} {v : Nat} (h : RdB n v) : 0 ≤ n ∧ n ≤ 21474836479 := ⟨h.1, h.2.1⟩
theorem RdB.next {n : Int} {v c : Nat} (h : RdB n v) (hn : n ≤ 2147483647) (hc : 48 ≤ c ∧ c ≤ 57) : RdB (10 * n + c - 48) (v * 10 + (c - 48)) := by
  obtain ⟨h1, h2, h3, h4⟩ := h
  have hv : v ≤ 2147483647 := by
    rcases Nat.lt_or_ge 2147483647 v with hh | hh
    · have := h4 hh; omega
    · exact hh
  have := h3 hv
  refine ⟨by omega, by omega, fun _ => by omega, fun _ => by omega⟩
theorem RdB.stay {n : Int} {v c : Nat} (h : RdB n v) (hn : 2147483647 < n) : RdB n (v * 10 + c) := by
  obtain ⟨h1, h2, h3, h4⟩ := h
  have hv : 2147483647 < v := by
    rcases Nat.lt_or_ge 2147483647 v with hh | hh
    · exact hh
    · have := h3 hh; omega
  exact ⟨h1, h2, fun _ => by omega, fun _ => hn⟩
theorem RdB.big {n : Int} {v : Nat} (h : RdB n v) (hn : 2147483647 < n) : 2147483647 < v := by
  rcases Nat.lt_or_ge 2147483647 v with hh | hh
  · exact hh
  · have := h.2.2.1 hh; omega
theorem RdB.val {n : Int} {v : Nat} (h : RdB n v) (hn : n ≤ 2147483647) : n = v := by
  rcases Nat.lt_or_ge 2147483647 v with hh | hh
  · have := h.2.2.2 hh; omega
  · exact h.2.2.1 hh

theorem refRead_c (tx : List UInt8) (hlen : tx.length ≤ 9223372036854775807) : FnP Tryd.prog 26 [.bs tx] (.tup [.int .i64 (readR tx).1, .int .i64 (readR tx).2]) := by
  refine FnP.mk Tryd.func26 rfl Tryd.ntmps26 rfl ?_
  intro B a w F hB hfr hS
  refine wp_seq ?_
  refine region_seq hS (by kernel_rfl)
    (cF rfl (o_assign (.ci (by kernel_rfl)) (by rfl)) trivial trivial
    (cF rfl (o_assign (.ci (by kernel_rfl)) (by rfl)) trivial trivial
    Chain.nil))
    (by kernel_rfl) (by rw [hB]; kernel_rfl) ?_
  clear hS; intro a w F hS
  obtain ⟨F, hS⟩ := hS.norm [(0, _), (2, _), (3, _)] [(0, _)] r3 r1
  refine then_n ?_
  refine wp_seq ?_
  refine wp_seq ?_
  refine region_seq hS (by kernel_rfl)
    (cF rfl (o_move .t (by rfl)) r1 trivial
    (cF rfl (o_eql_bs Tryd.underlying9 .t (.cs (by kernel_rfl))) r1 trivial
    (cF rfl (o_move .t (by rfl)) r1 trivial
    (Chain.cons (Cert.cond rfl rfl (fun h => o_move .t (by rfl))) r2 trivial
    (Chain.cons (Cert.cond rfl rfl (fun h => o_len_bs Tryd.underlying9 (.w h))) r2 trivial
    (Chain.cons (Cert.cond rfl rfl (fun h => o_gtr (.w h) (.ci (by kernel_rfl)))) r2 trivial
    (Chain.cons (Cert.cond rfl rfl (fun h => o_move (.w h) (by rfl))) r2 trivial
    (Chain.cons (Cert.cond2 rfl rfl (fun h => o_move .t (by rfl))) r2 trivial
    (Chain.cons (Cert.cond2 rfl rfl (fun h => o_index_bs Tryd.underlying9 (.w h) (.ci (by kernel_rfl)) (by decide) (by have := h.2; simp at this; omega))) r2 trivial
    (Chain.cons (Cert.cond2 rfl rfl (fun h => o_eql (.w h) (.ci (by kernel_rfl)))) r2 trivial
    (Chain.cons (Cert.cond rfl rfl (fun h => o_and2 (.w h) (.wc h))) r3 trivial
    (cF rfl (o_or2 .t .t) r2 trivial
    Chain.nil))))))))))))
    (by kernel_rfl) (by rw [hB]; kernel_rfl) ?_
  clear hS; intro a w F hS
  obtain ⟨F, hS⟩ := hS.norm [(0, _), (2, _), (3, _), (17, _)] [(0, _)] r4 r1
  refine then_n ?_
  refine cond_b hS rfl (fun hc0 => ?_) (fun hc0 => ?_)
  ·skip
   have hb : tx = [] ∨ (1 < tx.length ∧ nth tx 0 = 48) := by
     simp only [Bool.or_eq_true, Bool.and_eq_true, decide_eq_true_eq, nth0, Int.toNat_zero] at hc0
     rcases hc0 with hc0 | hc0
     · exact .inl hc0
     · exact .inr ⟨by omega, hc0.2⟩
   have hg : readR tx = (0, 10) := if_pos hb
   refine wp_seq ?_
   refine region_seq hS (by kernel_rfl)
     (cF rfl (o_assign (.ci (by kernel_rfl)) (by rfl)) trivial trivial
     (cF rfl (o_assign (.ci (by kernel_rfl)) (by rfl)) trivial trivial
     Chain.nil))
     (by kernel_rfl) (by rw [hB]; kernel_rfl) ?_
   clear hS; intro a w F hS
   obtain ⟨F, hS⟩ := hS.norm [(0, _), (2, _), (3, _)] [(0, _)] r3 r1
   refine then_n ?_
   refine wp_ret ?_
   refine then_r ?_
   refine ret_P hfr hS rfl (.tmp rfl (.tmp rfl .nil)) (.two (.int (by rw [hg]; try exact hv)) (.int (by rw [hg])))
  ·skip
   have hb : ¬ (tx = [] ∨ (1 < tx.length ∧ nth tx 0 = 48)) := by
     simp only [Bool.or_eq_false_iff, Bool.and_eq_false_iff, decide_eq_false_iff_not, nth0, Int.toNat_zero] at hc0
     rintro (hh | ⟨hh1, hh2⟩)
     · exact hc0.1 hh
     · rcases hc0.2 with hx | hx
       · exact hx (by omega)
       · exact hx hh2
   refine wp_skip ?_
   refine then_n ?_
   refine wp_seq ?_
   refine region_seq hS (by kernel_rfl)
     (cF rfl (o_assign (.ci (by kernel_rfl)) (by rfl)) trivial trivial
     Chain.nil)
     (by kernel_rfl) (by rw [hB]; kernel_rfl) ?_
   clear hS; intro a w F hS
   obtain ⟨F, hS⟩ := hS.norm [(0, _), (2, _), (3, _), (4, _)] [(0, _)] r4 r1
   refine then_n ?_
   refine wp_seq ?_
   refine wp_seq ?_
   refine region_seq hS (by kernel_rfl)
     (cF rfl (o_assign (.ci (by kernel_rfl)) (by rfl)) trivial trivial
     Chain.nil)
     (by kernel_rfl) (by rw [hB]; kernel_rfl) ?_
   clear hS; intro a w F hS
   obtain ⟨F, hS⟩ := hS.norm [(0, _), (2, _), (3, _), (4, _), (5, _)] [(0, _)] r5 r1
   refine then_n ?_
   refine wp_block ?_
   obtain ⟨F, hS⟩ := hS.norm [(0, _), (4, _), (5, _)] [(0, _)] r3 r1
   refine loop_inv (σ := (Nat × Int)) (fun s => (⟨[(0, .pv (.bs tx)), (4, .pv (.int .i64 s.2)), (5, .pv (.int .i64 s.1))], [(0, frame B)]⟩ : En)) (fun s => s.1 ≤ tx.length ∧ (tx.take s.1).all digit = true ∧ RdB s.2 (valOf (tx.take s.1))) (fun s => tx.length - s.1) (0, 0) hS ⟨Nat.zero_le _, rfl, rdB_0⟩ ?_
   clear hS; intro s a w F hC hS
   obtain ⟨i, n⟩ := s
   try dsimp only at hC
   try dsimp only at hS
   obtain ⟨hi, hd, hn⟩ := hC
   try dsimp only at hi hd hn
   refine wp_seq ?_
   refine wp_seq ?_
   refine region_seq hS (by kernel_rfl)
     (cF rfl (o_move .t (by rfl)) r1 trivial
     (cF rfl (o_move .t (by rfl)) r1 trivial
     (cF rfl (o_len_bs Tryd.underlying9 .t) r1 trivial
     (cF rfl (o_lss .t .t) r2 trivial
     Chain.nil))))
     (by kernel_rfl) (by rw [hB]; kernel_rfl) ?_
   clear hS; intro a w F hS
   obtain ⟨F, hS⟩ := hS.norm [(0, _), (4, _), (5, _), (18, _), (19, _), (20, _), (21, _)] [(0, _)] r7 r1
   refine then_n ?_
   refine cond_b hS rfl (fun hc1 => ?_) (fun hc1 => ?_)
   ·skip
    have hil : i < tx.length := by simp at hc1; omega
    refine wp_skip ?_
    refine then_n ?_
    refine wp_seq ?_
    refine wp_block ?_
    refine wp_seq ?_
    refine wp_seq ?_
    refine region_seq hS (by kernel_rfl)
      (cF rfl (o_move .t (by rfl)) r1 trivial
      (cF rfl (o_move .t (by rfl)) r1 trivial
      (cF rfl (o_index_bs Tryd.underlying9 .t .t (by omega) (by omega)) r2 trivial
      (cF rfl (o_lss .t (.ci (by kernel_rfl))) r1 trivial
      (cF rfl (o_move .t (by rfl)) r1 trivial
      (Chain.cons (Cert.cond rfl rfl (fun h => o_move .t (by rfl))) r2 trivial
      (Chain.cons (Cert.cond rfl rfl (fun h => o_move .t (by rfl))) r2 trivial
      (Chain.cons (Cert.cond rfl rfl (fun h => o_index_bs Tryd.underlying9 (.w h) (.w h) (by omega) (by omega))) r3 trivial
      (Chain.cons (Cert.cond rfl rfl (fun h => o_gtr (.w h) (.ci (by kernel_rfl)))) r2 trivial
      (cF rfl (o_or2 .t .t) r2 trivial
      Chain.nil))))))))))
      (by kernel_rfl) (by rw [hB]; kernel_rfl) ?_
    clear hS; intro a w F hS
    obtain ⟨F, hS⟩ := hS.norm [(0, _), (4, _), (5, _), (18, _), (19, _), (20, _), (21, _), (24, _), (25, _), (26, _), (27, _), (28, _), (29, _), (30, _), (31, _), (32, _), (33, _)] [(0, _)] ⟨rfl, rfl, rfl, rfl, rfl, rfl, rfl, rfl, rfl, rfl, rfl, rfl, rfl, rfl, rfl, rfl, rfl, trivial⟩ r1
    refine then_n ?_
    refine cond_b hS rfl (fun hc2 => ?_) (fun hc2 => ?_)
    ·skip
     have hnd : digit (nth tx i) = false := by
       rw [Int.toNat_natCast] at hc2
       simp only [Bool.or_eq_true, decide_eq_true_eq] at hc2
       unfold digit
       rw [Bool.and_eq_false_iff, decide_eq_false_iff_not, decide_eq_false_iff_not]
       omega
     have hg : readR tx = (0, 10) := by unfold readR; rw [if_neg hb, if_pos (all_not hil hnd)]
     refine wp_seq ?_
     refine region_seq hS (by kernel_rfl)
       (cF rfl (o_assign (.ci (by kernel_rfl)) (by rfl)) trivial trivial
       (cF rfl (o_assign (.ci (by kernel_rfl)) (by rfl)) trivial trivial
       Chain.nil))
       (by kernel_rfl) (by rw [hB]; kernel_rfl) ?_
     clear hS; intro a w F hS
     obtain ⟨F, hS⟩ := hS.norm [(0, _), (2, _), (3, _), (4, _), (5, _), (18, _), (19, _), (20, _), (21, _), (24, _), (25, _), (26, _), (27, _), (28, _), (29, _), (30, _), (31, _), (32, _), (33, _)] [(0, _)] ⟨rfl, rfl, rfl, rfl, rfl, rfl, rfl, rfl, rfl, rfl, rfl, rfl, rfl, rfl, rfl, rfl, rfl, rfl, rfl, trivial⟩ r1
     refine then_n ?_
     refine wp_ret ?_
     refine then_r ?_
     refine block_r ?_
     refine then_r ?_
     refine then_r ?_
     refine block_r ?_
     refine then_r ?_
     refine ret_P hfr hS rfl (.tmp rfl (.tmp rfl .nil)) (.two (.int (by rw [hg]; try exact hv)) (.int (by rw [hg])))
    ·skip
     rw [Int.toNat_natCast] at hc2
     simp only [Bool.or_eq_false_iff, decide_eq_false_iff_not] at hc2
     have hdi : digit (nth tx i) = true := by
       unfold digit
       rw [Bool.and_eq_true, decide_eq_true_eq, decide_eq_true_eq]
       omega
     have hd2 : (tx.take (i + 1)).all digit = true := by rw [all_next hil, hd, hdi]; rfl
     have hcd : 48 ≤ (nth tx i).toNat ∧ (nth tx i).toNat ≤ 57 := by
       unfold digit at hdi
       rw [Bool.and_eq_true, decide_eq_true_eq, decide_eq_true_eq] at hdi
       exact hdi
     refine wp_skip ?_
     refine then_n ?_
     refine wp_seq ?_
     refine region_seq hS (by kernel_rfl)
       (cF rfl (o_move .t (by rfl)) r1 trivial
       (cF rfl (o_leq .t (.ci (by kernel_rfl))) r1 trivial
       Chain.nil))
       (by kernel_rfl) (by rw [hB]; kernel_rfl) ?_
     clear hS; intro a w F hS
     obtain ⟨F, hS⟩ := hS.norm [(0, _), (4, _), (5, _), (18, _), (19, _), (20, _), (21, _), (24, _), (25, _), (26, _), (27, _), (28, _), (29, _), (30, _), (31, _), (32, _), (33, _), (34, _), (35, _)] [(0, _)] ⟨rfl, rfl, rfl, rfl, rfl, rfl, rfl, rfl, rfl, rfl, rfl, rfl, rfl, rfl, rfl, rfl, rfl, rfl, rfl, trivial⟩ r1
     refine then_n ?_
     refine cond_b hS rfl (fun hc3 => ?_) (fun hc3 => ?_)
     ·skip
      have hle : n ≤ 2147483647 := by simp at hc3; omega
      obtain ⟨n2, hn2e⟩ : ∃ n2 : Int, n2 = 10 * n + (nth tx i).toNat - 48 := ⟨_, rfl⟩
      have hn2 : RdB n2 (valOf (tx.take (i + 1))) := by rw [hn2e, val_next hil]; exact hn.next hle hcd
      have hr := hn.range
      refine region_seq hS (by kernel_rfl)
        (cF rfl (o_move .t (by rfl)) r1 trivial
        (cF rfl (o_mul (.ci (by kernel_rfl)) .t) r1 trivial
        (cF rfl (o_move .t (by rfl)) r1 trivial
        (cF rfl (o_move .t (by rfl)) r1 trivial
        (cF rfl (o_index_bs Tryd.underlying9 .t .t (by omega) (by omega)) r2 trivial
        (cF rfl (o_conv Tryd.underlying3 (by kernel_rfl) .t) r1 trivial
        (cF rfl (o_add .t .t) r2 trivial
        (cF rfl (o_sub .t (.ci (by kernel_rfl))) r1 trivial
        (cF rfl (o_assign .t (by rfl)) r1 trivial
        Chain.nil)))))))))
        (by kernel_rfl) (by rw [hB]; kernel_rfl) ?_
      clear hS; intro a w F hS
      obtain ⟨F, hS⟩ := hS.norm [(0, _), (4, _), (5, _), (18, _), (19, _), (20, _), (21, _), (24, _), (25, _), (26, _), (27, _), (28, _), (29, _), (30, _), (31, _), (32, _), (33, _), (34, _), (35, _), (36, _), (37, _), (38, _), (39, _), (40, _), (41, _), (42, _), (43, _)] [(0, _)] ⟨rfl, rfl, rfl, rfl, rfl, rfl, rfl, rfl, rfl, rfl, rfl, rfl, rfl, rfl, rfl, rfl, rfl, rfl, rfl, rfl, rfl, rfl, rfl, rfl, rfl, rfl, rfl, trivial⟩ r1
      have hq2 : IntKind.wrap .i64 (IntKind.wrap .i64 (IntKind.wrap .i64 (10 * n) + IntKind.wrap .i64 ((nth tx (i : Int).toNat).toNat : Int)) - 48) = n2 := by
        rw [Int.toNat_natCast]
        have e1 : IntKind.wrap .i64 (((nth tx i).toNat : Int)) = ((nth tx i).toNat : Int) := wrap_i64 (by omega)
        have e2 : IntKind.wrap .i64 (10 * n) = 10 * n := wrap_i64 (by omega)
        rw [e1, e2, IntKind.wrap_i64, IntKind.wrap_i64]
        omega
      refine block_n ?_
      refine then_n ?_
      refine region_seq hS (by kernel_rfl)
        (cF rfl (o_move .t (by rfl)) r1 trivial
        (cF rfl (o_add .t (.ci (by kernel_rfl))) r1 trivial
        (cF rfl (o_assign .t (by rfl)) r1 trivial
        Chain.nil)))
        (by kernel_rfl) (by rw [hB]; kernel_rfl) ?_
      clear hS; intro a w F hS
      obtain ⟨F, hS⟩ := hS.norm [(0, _), (4, _), (5, _), (18, _), (19, _), (20, _), (21, _), (22, _), (23, _), (24, _), (25, _), (26, _), (27, _), (28, _), (29, _), (30, _), (31, _), (32, _), (33, _), (34, _), (35, _), (36, _), (37, _), (38, _), (39, _), (40, _), (41, _), (42, _), (43, _)] [(0, _)] ⟨rfl, rfl, rfl, rfl, rfl, rfl, rfl, rfl, rfl, rfl, rfl, rfl, rfl, rfl, rfl, rfl, rfl, rfl, rfl, rfl, rfl, rfl, rfl, rfl, rfl, rfl, rfl, rfl, rfl, trivial⟩ r1
      refine then_n ?_
      replace hS := hS.ent (i := 5) (s' := .pv (.int .i64 ((i + 1 : Nat) : Int))) rfl (.int (wrap_succ (by omega)))
      replace hS := hS.ent (i := 4) (s' := .pv (.int .i64 n2)) rfl (.int hq2)
      obtain ⟨F, hS⟩ := hS.norm [(0, _), (4, _), (5, _)] [(0, _)] r3 r1
      exact ⟨(i + 1, n2), F, ⟨by dsimp only; omega, hd2, hn2⟩, hS, by dsimp only; omega⟩
     ·skip
      have hle : 2147483647 < n := by simp at hc3; omega
      obtain ⟨n2, hn2e⟩ : ∃ n2 : Int, n2 = n := ⟨_, rfl⟩
      have hn2 : RdB n2 (valOf (tx.take (i + 1))) := by rw [hn2e, val_next hil]; exact hn.stay hle
      have hq2 : n = n2 := hn2e.symm
      refine wp_skip ?_
      refine block_n ?_
      refine then_n ?_
      refine region_seq hS (by kernel_rfl)
        (cF rfl (o_move .t (by rfl)) r1 trivial
        (cF rfl (o_add .t (.ci (by kernel_rfl))) r1 trivial
        (cF rfl (o_assign .t (by rfl)) r1 trivial
        Chain.nil)))
        (by kernel_rfl) (by rw [hB]; kernel_rfl) ?_
      clear hS; intro a w F hS
      obtain ⟨F, hS⟩ := hS.norm [(0, _), (4, _), (5, _), (18, _), (19, _), (20, _), (21, _), (22, _), (23, _), (24, _), (25, _), (26, _), (27, _), (28, _), (29, _), (30, _), (31, _), (32, _), (33, _), (34, _), (35, _)] [(0, _)] ⟨rfl, rfl, rfl, rfl, rfl, rfl, rfl, rfl, rfl, rfl, rfl, rfl, rfl, rfl, rfl, rfl, rfl, rfl, rfl, rfl, rfl, trivial⟩ r1
      refine then_n ?_
      replace hS := hS.ent (i := 5) (s' := .pv (.int .i64 ((i + 1 : Nat) : Int))) rfl (.int (wrap_succ (by omega)))
      replace hS := hS.ent (i := 4) (s' := .pv (.int .i64 n2)) rfl (.int hq2)
      obtain ⟨F, hS⟩ := hS.norm [(0, _), (4, _), (5, _)] [(0, _)] r3 r1
      exact ⟨(i + 1, n2), F, ⟨by dsimp only; omega, hd2, hn2⟩, hS, by dsimp only; omega⟩
   ·skip
    have hil : i = tx.length := by simp at hc1; omega
    rw [hil, List.take_length] at hd hn
    refine wp_exit ?_
    refine then_x ?_
    refine then_x ?_
    refine block_x ?_
    refine then_n ?_
    refine wp_seq ?_
    refine wp_seq ?_
    refine region_seq hS (by kernel_rfl)
      (cF rfl (o_move .t (by rfl)) r1 trivial
      (cF rfl (o_gtr .t (.ci (by kernel_rfl))) r1 trivial
      Chain.nil))
      (by kernel_rfl) (by rw [hB]; kernel_rfl) ?_
    clear hS; intro a w F hS
    obtain ⟨F, hS⟩ := hS.norm [(4, _), (45, _)] [(0, _)] r2 r1
    refine then_n ?_
    refine cond_b hS rfl (fun hc4 => ?_) (fun hc4 => ?_)
    ·skip
     have hg : readR tx = (0, 1) := by
       unfold readR
       rw [if_neg hb, if_neg (by rw [hd]; decide), if_pos (hn.big (by simp at hc4; omega))]
     refine wp_seq ?_
     refine region_seq hS (by kernel_rfl)
       (cF rfl (o_assign (.ci (by kernel_rfl)) (by rfl)) trivial trivial
       (cF rfl (o_assign (.ci (by kernel_rfl)) (by rfl)) trivial trivial
       Chain.nil))
       (by kernel_rfl) (by rw [hB]; kernel_rfl) ?_
     clear hS; intro a w F hS
     obtain ⟨F, hS⟩ := hS.norm [(2, _), (3, _), (4, _)] [(0, _)] r3 r1
     refine then_n ?_
     refine wp_ret ?_
     refine then_r ?_
     refine ret_P hfr hS rfl (.tmp rfl (.tmp rfl .nil)) (.two (.int (by rw [hg]; try exact hv)) (.int (by rw [hg])))
    ·skip
     have hle : n ≤ 2147483647 := by simp at hc4; omega
     have hv := hn.val hle
     have hg : readR tx = ((valOf tx : Int), 0) := by
       unfold readR
       rw [if_neg hb, if_neg (by rw [hd]; decide), if_neg (by omega)]
     refine wp_skip ?_
     refine then_n ?_
     refine wp_seq ?_
     refine region_seq hS (by kernel_rfl)
       (cF rfl (o_move .t (by rfl)) r1 trivial
       (cF rfl (o_assign .t (by rfl)) r1 trivial
       (cF rfl (o_assign (.ci (by kernel_rfl)) (by rfl)) trivial trivial
       Chain.nil)))
       (by kernel_rfl) (by rw [hB]; kernel_rfl) ?_
     clear hS; intro a w F hS
     obtain ⟨F, hS⟩ := hS.norm [(2, _), (3, _)] [(0, _)] r2 r1
     refine then_n ?_
     refine wp_ret ?_
     refine ret_P hfr hS rfl (.tmp rfl (.tmp rfl .nil)) (.two (.int (by rw [hg]; try exact hv)) (.int (by rw [hg])))

end Go.Proofs.YtjdcnjemhjldoaaDoor
