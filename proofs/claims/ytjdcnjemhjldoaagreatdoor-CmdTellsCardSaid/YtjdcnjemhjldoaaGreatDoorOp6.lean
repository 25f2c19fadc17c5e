/- The document's operations read. No condition beyond those that each theorem says. -/
import Derived.Test.YtjdcnjemhjldoaaGreatDoorOp5
namespace Go.Proofs.YtjdcnjemhjldoaaGreatDoor
open Go Go.Gm
set_option linter.unusedVariables false
set_option linter.unusedSimpArgs false
set_option maxHeartbeats 4000000
set_option maxRecDepth 8000


theorem opDigits_c (s0 : List UInt8) (i : Nat) (x : Int) (hx : x = (i : Int)) (hi : i ≤ 4000000) (hs : s0.length ≤ 1000000) : FnP Tryz.prog 69 [.bs s0, .int .i64 x] (.int .i64 (digN s0 i : Nat)) := by
  refine FnP.mk Tryz.func69 rfl Tryz.ntmps69 rfl ?_
  intro B a w F hB hfr hS
  subst hx
  refine wp_seq ?_
  refine region_seq hS (by kernel_rfl)
    (cF rfl (o_assign (.ci (by kernel_rfl)) (by rfl)) trivial trivial
    Chain.nil)
    (by kernel_rfl) (by rw [hB]; kernel_rfl) ?_
  clear hS; intro a w F hS
  obtain ⟨F, hS⟩ := hS.norm [(0, _), (1, _), (4, _)] [(0, _)] r3 r1
  refine then_n ?_
  refine wp_seq ?_
  refine region_seq hS (by kernel_rfl)
    (cF rfl (o_assign (.ci (by kernel_rfl)) (by rfl)) trivial trivial
    Chain.nil)
    (by kernel_rfl) (by rw [hB]; kernel_rfl) ?_
  clear hS; intro a w F hS
  obtain ⟨F, hS⟩ := hS.norm [(0, _), (1, _), (4, _), (5, _)] [(0, _)] r4 r1
  refine then_n ?_
  refine wp_seq ?_
  refine wp_block ?_
  obtain ⟨F, hS⟩ := hS.norm [(0, _), (1, _), (5, _)] [(0, _)] r3 r1
  refine loop_inv (σ := Nat) (fun s => (⟨[(0, .pv (.bs s0)), (1, .pv (.int .i64 (i : Nat))), (5, .pv (.int .i64 (s : Nat)))], [(0, frame B)]⟩ : En)) (fun s => s ≤ s0.length ∧ ∀ j, j < s → i + j < s0.length ∧ digit (nth s0 (i + j)) = true) (fun s => s0.length - s) 0 hS ⟨Nat.zero_le _, fun j hj => absurd hj (Nat.not_lt_zero _)⟩ ?_
  clear hS; intro n a w F hC hS
  try dsimp only at hC
  try dsimp only at hS
  obtain ⟨hn, hq⟩ := hC
  have hw : IntKind.wrap .i64 ((i : Int) + (n : Int)) = ((i + n : Nat) : Int) := by rw [wrap_i64 (by omega)]; omega
  refine wp_seq ?_
  refine wp_seq ?_
  refine region_seq hS (by kernel_rfl)
    (cF rfl (o_move .t (by rfl)) r1 trivial
    (cF rfl (o_move .t (by rfl)) r1 trivial
    (cF rfl (o_add .t .t) r2 trivial
    (cF rfl (o_move .t (by rfl)) r1 trivial
    (cF rfl (o_len_bs Tryz.underlying9 .t) r1 trivial
    (cF rfl (o_lss .t .t) r2 trivial
    (cF rfl (o_move .t (by rfl)) r1 trivial
    (Chain.cons (Cert.cond rfl rfl (fun h => o_move .t (by rfl))) r2 trivial
    (Chain.cons (Cert.cond rfl rfl (fun h => o_move .t (by rfl))) r2 trivial
    (Chain.cons (Cert.cond rfl rfl (fun h => o_move .t (by rfl))) r2 trivial
    (Chain.cons (Cert.cond rfl rfl (fun h => o_add (.w h) (.w h))) r3 trivial
    (Chain.cons (Cert.cond rfl rfl (fun h => o_index_bs Tryz.underlying9 (.w h) (.w h) (by rw [hw]; omega) (by have h9 := of_decide_eq_true h; exact h9))) r3 trivial
    (Chain.cons (Cert.cond rfl rfl (fun h => o_geq (.w h) (.ci (by kernel_rfl)))) r2 trivial
    (cF rfl (o_and2 .t .t) r2 trivial
    (cF rfl (o_move .t (by rfl)) r1 trivial
    (Chain.cons (Cert.cond rfl rfl (fun h => o_move .t (by rfl))) r2 trivial
    (Chain.cons (Cert.cond rfl rfl (fun h => o_move .t (by rfl))) r2 trivial
    (Chain.cons (Cert.cond rfl rfl (fun h => o_move .t (by rfl))) r2 trivial
    (Chain.cons (Cert.cond rfl rfl (fun h => o_add (.w h) (.w h))) r3 trivial
    (Chain.cons (Cert.cond rfl rfl (fun h => o_index_bs Tryz.underlying9 (.w h) (.w h) (by rw [hw]; omega) (by have h9 := h; rw [Bool.and_eq_true] at h9; exact of_decide_eq_true h9.1))) r3 trivial
    (Chain.cons (Cert.cond rfl rfl (fun h => o_leq (.w h) (.ci (by kernel_rfl)))) r2 trivial
    (cF rfl (o_and2 .t .t) r2 trivial
    Chain.nil))))))))))))))))))))))
    (by kernel_rfl) (by rw [hB]; kernel_rfl) ?_
  clear hS; intro a w F hS
  obtain ⟨F, hS⟩ := hS.norm [(0, _), (1, _), (5, _), (6, _), (7, _), (8, _), (9, _), (10, _), (11, _), (12, _), (13, _), (14, _), (15, _), (16, _), (17, _), (18, _), (19, _), (20, _), (21, _), (22, _), (23, _), (24, _), (25, _), (26, _), (27, _)] [(0, _)] ⟨rfl, rfl, rfl, rfl, rfl, rfl, rfl, rfl, rfl, rfl, rfl, rfl, rfl, rfl, rfl, rfl, rfl, rfl, rfl, rfl, rfl, rfl, rfl, rfl, rfl, trivial⟩ r1
  refine then_n ?_
  refine cond_b hS rfl (fun hc0 => ?_) (fun hc0 => ?_)
  ·skip
   rw [hw, Int.toNat_natCast] at hc0
   have hqn : i + n < s0.length ∧ digit (nth s0 (i + n)) = true := by
     simp only [Bool.and_eq_true, decide_eq_true_eq] at hc0
     refine ⟨by omega, ?_⟩
     unfold digit
     rw [Bool.and_eq_true, decide_eq_true_eq, decide_eq_true_eq]
     omega
   refine wp_skip ?_
   refine then_n ?_
   refine wp_block ?_
   refine region_seq hS (by kernel_rfl)
     (cF rfl (o_move .t (by rfl)) r1 trivial
     (cF rfl (o_add .t (.ci (by kernel_rfl))) r1 trivial
     (cF rfl (o_assign .t (by rfl)) r1 trivial
     Chain.nil)))
     (by kernel_rfl) (by rw [hB]; kernel_rfl) ?_
   clear hS; intro a w F hS
   obtain ⟨F, hS⟩ := hS.norm [(0, _), (1, _), (5, _), (6, _), (7, _), (8, _), (9, _), (10, _), (11, _), (12, _), (13, _), (14, _), (15, _), (16, _), (17, _), (18, _), (19, _), (20, _), (21, _), (22, _), (23, _), (24, _), (25, _), (26, _), (27, _), (28, _), (29, _)] [(0, _)] ⟨rfl, rfl, rfl, rfl, rfl, rfl, rfl, rfl, rfl, rfl, rfl, rfl, rfl, rfl, rfl, rfl, rfl, rfl, rfl, rfl, rfl, rfl, rfl, rfl, rfl, rfl, rfl, trivial⟩ r1
   refine block_n ?_
   refine then_n ?_
   replace hS := hS.ent (i := 5) (s' := .pv (.int .i64 ((n + 1 : Nat) : Int))) rfl (.int (wrap_succ (by omega)))
   obtain ⟨F, hS⟩ := hS.norm [(0, _), (1, _), (5, _)] [(0, _)] r3 r1
   exact ⟨n + 1, F, ⟨by omega, fun j hj => (Nat.lt_or_ge j n).elim (hq j) (fun h1 => (show n = j by omega) ▸ hqn)⟩, hS, by omega⟩
  ·skip
   rw [hw, Int.toNat_natCast] at hc0
   have hend : ¬ (i + n < s0.length ∧ digit (nth s0 (i + n)) = true) := by
     rintro ⟨hx, hy⟩
     unfold digit at hy
     rw [Bool.and_eq_true, decide_eq_true_eq, decide_eq_true_eq] at hy
     rw [Bool.eq_false_iff] at hc0
     refine hc0 ?_
     simp only [Bool.and_eq_true, decide_eq_true_eq]
     omega
   refine wp_exit ?_
   refine then_x ?_
   refine then_x ?_
   refine block_x ?_
   refine then_n ?_
   refine wp_seq ?_
   refine region_seq hS (by kernel_rfl)
     (cF rfl (o_move .t (by rfl)) r1 trivial
     (cF rfl (o_assign .t (by rfl)) r1 trivial
     Chain.nil))
     (by kernel_rfl) (by rw [hB]; kernel_rfl) ?_
   clear hS; intro a w F hS
   obtain ⟨F, hS⟩ := hS.norm [(4, _)] [(0, _)] r1 r1
   refine then_n ?_
   refine wp_ret ?_
   refine ret_P hfr hS rfl (.tmp rfl .nil) (.one (.int (by rw [digN_is hq hend])))

theorem digN_zero {s : List UInt8} {i : Nat} : digN s i = 0 ↔ (s.drop i).takeWhile digit = [] := List.length_eq_zero_iff
theorem drop_nil {s : List UInt8} {i : Nat} : s.drop i = [] ↔ s.length ≤ i := List.drop_eq_nil_iff
theorem is_b {b d : UInt8} {n : Int} (hd : (d.toNat : Int) = n) : ((b.toNat : Int) = n) ↔ b = d := ⟨fun h => is_byte (d := d) (by omega), fun h => by rw [h]; exact hd⟩
theorem form_ok {s : List UInt8} {l : List (List UInt8)} (h : ∃ A B C : List UInt8, (l = [A] ∨ l = [A, B] ∨ l = [A, B, C]) ∧ (A.length ≤ s.length ∧ B.length ≤ s.length ∧ C.length ≤ s.length)) : ∀ x ∈ l, x.length ≤ s.length := by
  obtain ⟨A, B, C, hl, h1, h2, h3⟩ := h
  intro x hx
  rcases hl with rfl | rfl | rfl
  · simp only [List.mem_cons, List.not_mem_nil, or_false] at hx
    subst hx; exact h1
  · simp only [List.mem_cons, List.not_mem_nil, or_false] at hx
    rcases hx with rfl | rfl
    · exact h1
    · exact h2
  · simp only [List.mem_cons, List.not_mem_nil, or_false] at hx
    rcases hx with rfl | rfl | rfl
    · exact h1
    · exact h2
    · exact h3
theorem tw_len {s : List UInt8} {i : Nat} : ((s.drop i).takeWhile digit).length ≤ s.length := by
  have := List.takeWhile_append_dropWhile (p := digit) (l := s.drop i)
  have := congrArg List.length this
  rw [List.length_append, List.length_drop] at this
  omega

theorem refOpRead_c (s0 : List UInt8) (hs : s0.length ≤ 1000000) : FnP Tryz.prog 50 [.bs s0] (.tup [.agg (rOp (opR s0).1), .int .i64 (opR s0).2]) := by
  refine FnP.mk Tryz.func50 rfl Tryz.ntmps50 rfl ?_
  intro B a w F hB hfr hS
  refine wp_seq ?_
  refine region_seq hS (by kernel_rfl)
    (cF rfl (o_alloc (zs := [.bool false, .int .i64 0, .int .i64 0, .int .i64 0]) 101 (by kernel_rfl)) trivial trivial
    (cF rfl (o_assign (.ci (by kernel_rfl)) (by rfl)) trivial trivial
    Chain.nil))
    (by kernel_rfl) (by rw [hB]; kernel_rfl) ?_
  clear hS; intro a w F hS
  replace hS := hS.sub
  obtain ⟨F, hS⟩ := hS.norm [(0, _), (2, _), (3, _)] [(0, _), (101, _)] r3 r2
  try dsimp only [RS.sub, SF.sub, CF.sub, csub, Anc.sub, List.map, zCF] at hS
  generalize Act.tau a 2 = v2 at hS
  refine then_n ?_
  refine wp_seq ?_
  refine wp_seq ?_
  refine region_seq hS (by kernel_rfl)
    (cF rfl (o_move .t (by rfl)) r1 trivial
    (cF rfl (o_eql_bs Tryz.underlying9 .t (.cs (by kernel_rfl))) r1 trivial
    (cF rfl (o_move .t (by rfl)) r1 trivial
    (Chain.cons (Cert.cond rfl rfl (fun h => o_move .t (by rfl))) r2 trivial
    (Chain.cons (Cert.cond rfl rfl (fun h => o_index_bs Tryz.underlying9 (.w h) (.ci (by kernel_rfl)) (by decide) (by have h9 := List.length_pos_iff.2 (of_decide_eq_false h); omega))) r2 trivial
    (Chain.cons (Cert.cond rfl rfl (fun h => o_neq (.w h) (.ci (by kernel_rfl)))) r2 trivial
    (Chain.cons (Cert.cond rfl rfl (fun h => o_move (.w h) (by rfl))) r2 trivial
    (Chain.cons (Cert.cond2 rfl rfl (fun h => o_move .t (by rfl))) r2 trivial
    (Chain.cons (Cert.cond2 rfl rfl (fun h => o_index_bs Tryz.underlying9 (.w h) (.ci (by kernel_rfl)) (by decide) (by have h9 := List.length_pos_iff.2 (of_decide_eq_false h.1); omega))) r2 trivial
    (Chain.cons (Cert.cond2 rfl rfl (fun h => o_neq (.w h) (.ci (by kernel_rfl)))) r2 trivial
    (Chain.cons (Cert.cond rfl rfl (fun h => o_and2 (.w h) (.wc h))) r3 trivial
    (cF rfl (o_or2 .t .t) r2 trivial
    (cF rfl (o_move .t (by rfl)) r1 trivial
    (Chain.cons (Cert.cond rfl rfl (fun h => o_move .t (by rfl))) r2 trivial
    (Chain.cons (Cert.cond rfl rfl (fun h => o_callP (opDigits_c s0 1 1 rfl (by decide) hs) Tryz.func69 rfl (by kernel_rfl) (Args.two (.w h) (.ci (by kernel_rfl))))) r2 trivial
    (Chain.cons (Cert.cond rfl rfl (fun h => o_eql (.w h) (.ci (by kernel_rfl)))) r2 trivial
    (cF rfl (o_or2 .t .t) r2 trivial
    Chain.nil)))))))))))))))))
    (by kernel_rfl) (by rw [hB]; kernel_rfl) ?_
  clear hS; intro a w F hS
  obtain ⟨F, hS⟩ := hS.norm [(0, _), (2, _), (3, _), (29, _)] [(0, _), (101, _)] r4 r2
  refine then_n ?_
  refine cond_b hS rfl (fun hc0 => ?_) (fun hc0 => ?_)
  ·skip
   have hr : opR s0 = (noOp, 5) := by
     simp only [Bool.or_eq_true, Bool.and_eq_true, Bool.not_eq_true', decide_eq_true_eq, decide_eq_false_iff_not, is_w, is_r, Int.toNat_zero, ne_eq] at hc0
     rcases hc0 with hx | hx
     · exact opR_head hx
     · exact opR_none (fD0 (digN_zero.1 (by omega)))
   refine wp_seq ?_
   refine region_seq hS (by kernel_rfl)
     (cF rfl (o_build (r := []) (zs := [.bool false, .int .i64 0, .int .i64 0, .int .i64 0]) (pl := [(0, 1), (1, 1), (2, 1), (3, 1)]) (by kernel_rfl) (by kernel_rfl) .nil (by rfl)) trivial trivial
     (cF rfl (o_storeA (sz := 4) 101 .is .t (by kernel_rfl) (by kernel_rfl) (by kernel_rfl)) r2 r1
     (cF rfl (o_assign (.ci (by kernel_rfl)) (by rfl)) trivial trivial
     Chain.nil)))
     (by kernel_rfl) (by rw [hB]; kernel_rfl) ?_
   clear hS; intro a w F hS
   obtain ⟨F, hS⟩ := hS.norm [(0, _), (2, _), (3, _)] [(0, _), (101, _)] r3 r2
   try dsimp only [List.map, stCells, List.length_cons, List.length_nil, Nat.reduceAdd, List.drop_succ_cons, List.drop_zero, List.drop_nil, List.take_succ_cons, List.take_zero, List.take_nil, List.cons_append, List.nil_append, zCF] at hS
   refine then_n ?_
   refine wp_ret ?_
   refine then_r ?_
   refine ret_P hfr hS rfl (.cell (n := 101) (ag := true) (sz := 4) rfl .is rfl (by kernel_rfl) (by kernel_rfl) (by kernel_rfl) (.tmp rfl .nil)) (.two (.aggU rfl (by rw [hr] <;> rfl)) (.int (by rw [hr])))
  ·skip
   have hh0 : ¬ ((s0 = [] ∨ (nth s0 0 ≠ 119 ∧ nth s0 0 ≠ 114)) ∨ ((digN s0 1 : Nat) : Int) = 0) := by
     intro hx
     rw [Bool.eq_false_iff] at hc0
     refine hc0 ?_
     simp only [Bool.or_eq_true, Bool.and_eq_true, Bool.not_eq_true', decide_eq_true_eq, decide_eq_false_iff_not, is_w, is_r, Int.toNat_zero, ne_eq]
     exact hx
   have hh : ¬ (s0 = [] ∨ (nth s0 0 ≠ 119 ∧ nth s0 0 ≠ 114)) := fun hx => hh0 (.inl hx)
   have hne : s0 ≠ [] := fun e => hh (.inl e)
   have hlp := List.length_pos_iff.2 hne
   have hd0 : ¬ digN s0 1 = 0 := fun hx => hh0 (.inr (by omega))
   have ht0 : ((s0.drop 1).takeWhile digit) ≠ [] := fun hx => hd0 (digN_zero.2 hx)
   obtain ⟨q1, q2, q3⟩ := scan s0 1
   have hw33 : IntKind.wrap .i64 (1 + ((digN s0 1 : Nat) : Int)) = (((1 + digN s0 1) : Nat) : Int) := by rw [wrap_i64 (by omega)]; omega
   have hw42 : IntKind.wrap .i64 ((((1 + digN s0 1) : Nat) : Int) + 1) = ((((1 + digN s0 1) + 1) : Nat) : Int) := by rw [wrap_i64 (by omega)]; omega
   refine wp_skip ?_
   refine then_n ?_
   refine wp_seq ?_
   refine region_seq hS (by kernel_rfl)
     (cF rfl (o_move .t (by rfl)) r1 trivial
     (cF rfl (o_callP (opDigits_c s0 1 1 rfl (by decide) hs) Tryz.func69 rfl (by kernel_rfl) (Args.two .t (.ci (by kernel_rfl)))) r1 trivial
     (cF rfl (o_add (.ci (by kernel_rfl)) .t) r1 trivial
     (cF rfl (o_assign .t (by rfl)) r1 trivial
     Chain.nil))))
     (by kernel_rfl) (by rw [hB]; kernel_rfl) ?_
   clear hS; intro a w F hS
   obtain ⟨F, hS⟩ := hS.norm [(0, _), (2, _), (3, _), (4, _)] [(0, _), (101, _)] r4 r2
   rw [hw33] at hS
   refine then_n ?_
   refine wp_seq ?_
   refine region_seq hS (by kernel_rfl)
     (cF rfl (o_move .t (by rfl)) r1 trivial
     (cF rfl (o_move .t (by rfl)) r1 trivial
     (cF rfl (o_slice_bs_lh Tryz.underlying9 .t (.ci (by kernel_rfl)) .t (by decide) (by omega) (by omega)) r2 trivial
     (cF rfl (o_buildRow (R := rS) (l := [_]) (sz := 1) (zs := [.string ⟨#[]⟩]) (r := [(0, .tmp 36)]) 102 Tryz.underlying40 (by kernel_rfl) (by kernel_rfl) (by kernel_rfl) (by kernel_rfl) rfl rfl (.one rfl .t one_str (by kernel_rfl) .nil) rfl rfl (by intro x; rfl)) r1 trivial
     (cF rfl (o_assign .t (by rfl)) r1 trivial
     Chain.nil)))))
     (by kernel_rfl) (by rw [hB]; kernel_rfl) ?_
   clear hS; intro a w F hS
   replace hS := hS.sub
   obtain ⟨F, hS⟩ := hS.norm [(0, _), (2, _), (3, _), (4, _), (5, _)] [(0, _), (101, _), (102, _)] r5 r3
   try dsimp only [RS.sub, SF.sub, CF.sub, csub, Anc.sub, List.map, stCells, List.length_cons, List.length_nil, Nat.reduceAdd, List.drop_succ_cons, List.drop_zero, List.drop_nil, List.take_succ_cons, List.take_zero, List.take_nil, List.cons_append, List.nil_append, zCF] at hS
   generalize Act.tau a 37 = v37 at hS
   simp only [Int.toNat_natCast] at hS
   rw [show (Int.toNat 1) = 1 from rfl, q2] at hS
   refine then_n ?_
   refine wp_seq ?_
   refine wp_seq ?_
   refine region_seq hS (by kernel_rfl)
     (cF rfl (o_move .t (by rfl)) r1 trivial
     (cF rfl (o_index_bs Tryz.underlying9 .t (.ci (by kernel_rfl)) (by decide) (by omega)) r1 trivial
     (cF rfl (o_eql .t (.ci (by kernel_rfl))) r1 trivial
     Chain.nil)))
     (by kernel_rfl) (by rw [hB]; kernel_rfl) ?_
   clear hS; intro a w F hS
   obtain ⟨F, hS⟩ := hS.norm [(0, _), (2, _), (3, _), (4, _), (5, _), (40, _)] [(0, _), (101, _), (102, _)] r6 r3
   refine then_n ?_
   refine cond_b hS rfl (fun hc1 => ?_) (fun hc1 => ?_)
   ·skip
    have hrn : decide (nth s0 0 = 114) = true := by rw [← byte_r]; exact hc1
    have hb : nth s0 0 = 114 := of_decide_eq_true hrn
    obtain ⟨p1, p2, p3⟩ := scan s0 ((1 + digN s0 1) + 1)
    have hw47 : IntKind.wrap .i64 (((((1 + digN s0 1) + 1) : Nat) : Int) + ((digN s0 ((1 + digN s0 1) + 1) : Nat) : Int)) = (((((1 + digN s0 1) + 1) + digN s0 ((1 + digN s0 1) + 1)) : Nat) : Int) := by rw [wrap_i64 (by omega)]; omega
    have hw79 : IntKind.wrap .i64 ((((((1 + digN s0 1) + 1) + digN s0 ((1 + digN s0 1) + 1)) : Nat) : Int) + 1) = ((((((1 + digN s0 1) + 1) + digN s0 ((1 + digN s0 1) + 1)) + 1) : Nat) : Int) := by rw [wrap_i64 (by omega)]; omega
    refine wp_seq ?_
    refine region_seq hS (by kernel_rfl)
      (cF rfl (o_move .t (by rfl)) r1 trivial
      (cF rfl (o_add .t (.ci (by kernel_rfl))) r1 trivial
      (cF rfl (o_move .t (by rfl)) r1 trivial
      (cF rfl (o_move .t (by rfl)) r1 trivial
      (cF rfl (o_add .t (.ci (by kernel_rfl))) r1 trivial
      (cF rfl (o_callP (opDigits_c s0 ((1 + digN s0 1) + 1) _ hw42 (by omega) hs) Tryz.func69 rfl (by kernel_rfl) (Args.two .t .t)) r2 trivial
      (cF rfl (o_add .t .t) r2 trivial
      (cF rfl (o_assign .t (by rfl)) r1 trivial
      Chain.nil))))))))
      (by kernel_rfl) (by rw [hB]; kernel_rfl) ?_
    clear hS; intro a w F hS
    obtain ⟨F, hS⟩ := hS.norm [(0, _), (2, _), (3, _), (4, _), (5, _), (6, _)] [(0, _), (101, _), (102, _)] r6 r3
    rw [hw42, hw47] at hS
    refine then_n ?_
    refine wp_seq ?_
    refine wp_seq ?_
    refine region_seq hS (by kernel_rfl)
      (cF rfl (o_move .t (by rfl)) r1 trivial
      (cF rfl (o_move .t (by rfl)) r1 trivial
      (cF rfl (o_len_bs Tryz.underlying9 .t) r1 trivial
      (cF rfl (o_geq .t .t) r2 trivial
      (cF rfl (o_move .t (by rfl)) r1 trivial
      (Chain.cons (Cert.cond rfl rfl (fun h => o_move .t (by rfl))) r2 trivial
      (Chain.cons (Cert.cond rfl rfl (fun h => o_move .t (by rfl))) r2 trivial
      (Chain.cons (Cert.cond rfl rfl (fun h => o_index_bs Tryz.underlying9 (.w h) (.w h) (by omega) (by have h9 := of_decide_eq_false h; omega))) r3 trivial
      (Chain.cons (Cert.cond rfl rfl (fun h => o_neq (.w h) (.ci (by kernel_rfl)))) r2 trivial
      (cF rfl (o_or2 .t .t) r2 trivial
      (cF rfl (o_move .t (by rfl)) r1 trivial
      (Chain.cons (Cert.cond rfl rfl (fun h => o_move .t (by rfl))) r2 trivial
      (Chain.cons (Cert.cond rfl rfl (fun h => o_move .t (by rfl))) r2 trivial
      (Chain.cons (Cert.cond rfl rfl (fun h => o_add (.w h) (.ci (by kernel_rfl)))) r2 trivial
      (Chain.cons (Cert.cond rfl rfl (fun h => o_eql (.w h) (.w h))) r3 trivial
      (cF rfl (o_or2 .t .t) r2 trivial
      Chain.nil))))))))))))))))
      (by kernel_rfl) (by rw [hB]; kernel_rfl) ?_
    clear hS; intro a w F hS
    obtain ⟨F, hS⟩ := hS.norm [(0, _), (2, _), (3, _), (4, _), (5, _), (6, _), (63, _)] [(0, _), (101, _), (102, _)] r7 r3
    refine then_n ?_
    refine cond_b hS rfl (fun hc2 => ?_) (fun hc2 => ?_)
    ·skip
     have hr : opR s0 = (noOp, 5) := by
       simp only [Bool.or_eq_true, Bool.and_eq_true, Bool.not_eq_true', decide_eq_true_eq, decide_eq_false_iff_not, (is_b (d := 64) (n := 64) rfl), Int.toNat_natCast, ne_eq] at hc2
       refine opR_none ?_
       rcases (show s0.length ≤ (1 + digN s0 1) ∨ ¬ s0.length ≤ (1 + digN s0 1) by omega) with hx | hx
       · exact fR0 (by rw [← q1]; exact drop_nil.2 hx) hb
       · have q4 := drop_at (s := s0) (a := (1 + digN s0 1)) (by omega)
         rw [q1] at q4
         by_cases hy : nth s0 (1 + digN s0 1) = 64
         · rw [hy] at q4
           refine fR2 q4 (digN_zero.1 ?_)
           rcases hc2 with (hz | hz) | hz
           · omega
           · exact absurd hy hz
           · omega
         · exact fR1 q4 hy
     refine wp_seq ?_
     refine region_seq hS (by kernel_rfl)
       (cF rfl (o_build (r := []) (zs := [.bool false, .int .i64 0, .int .i64 0, .int .i64 0]) (pl := [(0, 1), (1, 1), (2, 1), (3, 1)]) (by kernel_rfl) (by kernel_rfl) .nil (by rfl)) trivial trivial
       (cF rfl (o_storeA (sz := 4) 101 .is .t (by kernel_rfl) (by kernel_rfl) (by kernel_rfl)) r2 r1
       (cF rfl (o_assign (.ci (by kernel_rfl)) (by rfl)) trivial trivial
       Chain.nil)))
       (by kernel_rfl) (by rw [hB]; kernel_rfl) ?_
     clear hS; intro a w F hS
     obtain ⟨F, hS⟩ := hS.norm [(0, _), (2, _), (3, _), (4, _), (5, _), (6, _)] [(0, _), (101, _), (102, _)] r6 r3
     try dsimp only [List.map, stCells, List.length_cons, List.length_nil, Nat.reduceAdd, List.drop_succ_cons, List.drop_zero, List.drop_nil, List.take_succ_cons, List.take_zero, List.take_nil, List.cons_append, List.nil_append, zCF] at hS
     refine then_n ?_
     refine wp_ret ?_
     refine then_r ?_
     refine then_r ?_
     refine ret_P hfr hS rfl (.cell (n := 101) (ag := true) (sz := 4) rfl .is rfl (by kernel_rfl) (by kernel_rfl) (by kernel_rfl) (.tmp rfl .nil)) (.two (.aggU rfl (by rw [hr] <;> rfl)) (.int (by rw [hr])))
    ·skip
     have h63 : ¬ ((s0.length ≤ (1 + digN s0 1) ∨ ¬ nth s0 (1 + digN s0 1) = 64) ∨ (((1 + digN s0 1) + 1) + digN s0 ((1 + digN s0 1) + 1)) = ((1 + digN s0 1) + 1)) := by
       intro hx
       rw [Bool.eq_false_iff] at hc2
       refine hc2 ?_
       simp only [Bool.or_eq_true, Bool.and_eq_true, Bool.not_eq_true', decide_eq_true_eq, decide_eq_false_iff_not, (is_b (d := 64) (n := 64) rfl), Int.toNat_natCast, ne_eq]
       rcases hx with (hx | hx) | hx
       · exact .inl (.inl (by omega))
       · exact .inl (.inr hx)
       · exact .inr (by omega)
     have ha : (1 + digN s0 1) < s0.length := by omega
     have h64 : nth s0 (1 + digN s0 1) = 64 := Classical.byContradiction fun hx => h63 (.inl (.inr hx))
     have q4 := drop_at ha
     rw [q1, h64] at q4
     have ht1 : ((s0.drop ((1 + digN s0 1) + 1)).takeWhile digit) ≠ [] := fun hx => h63 (.inr (by have := digN_zero.2 hx; omega))
     refine wp_skip ?_
     refine then_n ?_
     refine wp_seq ?_
     refine region_seq hS (by kernel_rfl)
       (cF rfl (o_move .t (by rfl)) r1 trivial
       (cF rfl (o_move .t (by rfl)) r1 trivial
       (cF rfl (o_move .t (by rfl)) r1 trivial
       (cF rfl (o_add .t (.ci (by kernel_rfl))) r1 trivial
       (cF rfl (o_move .t (by rfl)) r1 trivial
       (cF rfl (o_slice_bs_lh Tryz.underlying9 .t .t .t (by rw [hw42]; omega) (by rw [hw42]; omega) (by omega)) r3 trivial
       (cF rfl (o_buildSliceE (sz := 1) (zs := [.string ⟨#[]⟩]) (r := [(0, .tmp 70)]) (l := [_]) Tryz.underlying40 (by kernel_rfl) (by kernel_rfl) (by kernel_rfl) (by kernel_rfl) rfl rfl (.one rfl .t one_str (by kernel_rfl) .nil) rfl) r1 trivial
       (cF rfl (o_append (sz := 1) (bs := 16) 102 (.mk' Tryz.underlying40 (by kernel_rfl) (by kernel_rfl)) (by intro x; rfl) .is (.arr (l' := [_]) .t) (by simp) (by decide)) ⟨rfl, rfl, trivial⟩ ⟨rfl, trivial⟩
       (cF rfl (o_assign .t (by rfl)) r1 trivial
       Chain.nil)))))))))
       (by kernel_rfl) (by rw [hB]; kernel_rfl) ?_
     clear hS; intro a w F hS
     replace hS := hS.sub
     obtain ⟨F, hS⟩ := hS.norm [(0, _), (2, _), (3, _), (4, _), (5, _), (6, _)] [(0, _), (101, _), (102, _)] r6 r3
     try dsimp only [RS.sub, SF.sub, CF.sub, csub, Anc.sub, List.map, stCells, List.length_cons, List.length_nil, Nat.reduceAdd, List.drop_succ_cons, List.drop_zero, List.drop_nil, List.take_succ_cons, List.take_zero, List.take_nil, List.cons_append, List.nil_append, zCF] at hS
     generalize Act.tau a 72 = v72 at hS
     rw [hw42] at hS
     simp only [Int.toNat_natCast] at hS
     rw [p2] at hS
     refine then_n ?_
     refine wp_seq ?_
     refine region_seq hS (by kernel_rfl)
       (cF rfl (o_move .t (by rfl)) r1 trivial
       (cF rfl (o_assign .t (by rfl)) r1 trivial
       Chain.nil))
       (by kernel_rfl) (by rw [hB]; kernel_rfl) ?_
     clear hS; intro a w F hS
     obtain ⟨F, hS⟩ := hS.norm [(0, _), (2, _), (3, _), (4, _), (5, _), (6, _)] [(0, _), (101, _), (102, _)] r6 r3
     refine then_n ?_
     refine wp_seq ?_
     refine region_seq hS (by kernel_rfl)
       (cF rfl (o_move .t (by rfl)) r1 trivial
       (cF rfl (o_move .t (by rfl)) r1 trivial
       (cF rfl (o_len_bs Tryz.underlying9 .t) r1 trivial
       (cF rfl (o_lss .t .t) r2 trivial
       Chain.nil))))
       (by kernel_rfl) (by rw [hB]; kernel_rfl) ?_
     clear hS; intro a w F hS
     obtain ⟨F, hS⟩ := hS.norm [(0, _), (2, _), (3, _), (4, _), (5, _), (6, _), (77, _)] [(0, _), (101, _), (102, _)] r7 r3
     refine then_n ?_
     refine cond_b hS rfl (fun hc3 => ?_) (fun hc3 => ?_)
     ·skip
      have hc1 : (((1 + digN s0 1) + 1) + digN s0 ((1 + digN s0 1) + 1)) < s0.length := by have h9 := of_decide_eq_true hc3; omega
      obtain ⟨g1, g2, g3⟩ := scan s0 ((((1 + digN s0 1) + 1) + digN s0 ((1 + digN s0 1) + 1)) + 1)
      have p4 := drop_at hc1
      rw [p1] at p4
      have hw84 : IntKind.wrap .i64 (((((((1 + digN s0 1) + 1) + digN s0 ((1 + digN s0 1) + 1)) + 1) : Nat) : Int) + ((digN s0 ((((1 + digN s0 1) + 1) + digN s0 ((1 + digN s0 1) + 1)) + 1) : Nat) : Int)) = (((((((1 + digN s0 1) + 1) + digN s0 ((1 + digN s0 1) + 1)) + 1) + digN s0 ((((1 + digN s0 1) + 1) + digN s0 ((1 + digN s0 1) + 1)) + 1)) : Nat) : Int) := by rw [wrap_i64 (by omega)]; omega
      refine wp_seq ?_
      refine region_seq hS (by kernel_rfl)
        (cF rfl (o_move .t (by rfl)) r1 trivial
        (cF rfl (o_add .t (.ci (by kernel_rfl))) r1 trivial
        (cF rfl (o_move .t (by rfl)) r1 trivial
        (cF rfl (o_move .t (by rfl)) r1 trivial
        (cF rfl (o_add .t (.ci (by kernel_rfl))) r1 trivial
        (cF rfl (o_callP (opDigits_c s0 ((((1 + digN s0 1) + 1) + digN s0 ((1 + digN s0 1) + 1)) + 1) _ hw79 (by omega) hs) Tryz.func69 rfl (by kernel_rfl) (Args.two .t .t)) r2 trivial
        (cF rfl (o_add .t .t) r2 trivial
        (cF rfl (o_assign .t (by rfl)) r1 trivial
        Chain.nil))))))))
        (by kernel_rfl) (by rw [hB]; kernel_rfl) ?_
      clear hS; intro a w F hS
      obtain ⟨F, hS⟩ := hS.norm [(0, _), (2, _), (3, _), (4, _), (5, _), (6, _)] [(0, _), (101, _), (102, _)] r6 r3
      rw [hw79, hw84] at hS
      refine then_n ?_
      refine wp_seq ?_
      refine wp_seq ?_
      refine region_seq hS (by kernel_rfl)
        (cF rfl (o_move .t (by rfl)) r1 trivial
        (cF rfl (o_move .t (by rfl)) r1 trivial
        (cF rfl (o_index_bs Tryz.underlying9 .t .t (by omega) (by omega)) r2 trivial
        (cF rfl (o_neq .t (.ci (by kernel_rfl))) r1 trivial
        (cF rfl (o_move .t (by rfl)) r1 trivial
        (Chain.cons (Cert.cond rfl rfl (fun h => o_move .t (by rfl))) r2 trivial
        (Chain.cons (Cert.cond rfl rfl (fun h => o_move .t (by rfl))) r2 trivial
        (Chain.cons (Cert.cond rfl rfl (fun h => o_add (.w h) (.ci (by kernel_rfl)))) r2 trivial
        (Chain.cons (Cert.cond rfl rfl (fun h => o_eql (.w h) (.w h))) r3 trivial
        (cF rfl (o_or2 .t .t) r2 trivial
        Chain.nil))))))))))
        (by kernel_rfl) (by rw [hB]; kernel_rfl) ?_
      clear hS; intro a w F hS
      obtain ⟨F, hS⟩ := hS.norm [(0, _), (2, _), (3, _), (4, _), (5, _), (6, _), (94, _)] [(0, _), (101, _), (102, _)] r7 r3
      refine then_n ?_
      refine cond_b hS rfl (fun hc4 => ?_) (fun hc4 => ?_)
      ·skip
       have hr : opR s0 = (noOp, 5) := by
         simp only [Bool.or_eq_true, Bool.and_eq_true, Bool.not_eq_true', decide_eq_true_eq, decide_eq_false_iff_not, (is_b (d := 46) (n := 46) rfl), Int.toNat_natCast, ne_eq] at hc4
         refine opR_none ?_
         by_cases hy : nth s0 (((1 + digN s0 1) + 1) + digN s0 ((1 + digN s0 1) + 1)) = 46
         · rw [hy] at p4
           refine fR5 q4 p4 (figs_no (digN_zero.1 ?_))
           rcases hc4 with hz | hz
           · exact absurd hy hz
           · omega
         · exact fR4 q4 p4 hy
       refine wp_seq ?_
       refine region_seq hS (by kernel_rfl)
         (cF rfl (o_build (r := []) (zs := [.bool false, .int .i64 0, .int .i64 0, .int .i64 0]) (pl := [(0, 1), (1, 1), (2, 1), (3, 1)]) (by kernel_rfl) (by kernel_rfl) .nil (by rfl)) trivial trivial
         (cF rfl (o_storeA (sz := 4) 101 .is .t (by kernel_rfl) (by kernel_rfl) (by kernel_rfl)) r2 r1
         (cF rfl (o_assign (.ci (by kernel_rfl)) (by rfl)) trivial trivial
         Chain.nil)))
         (by kernel_rfl) (by rw [hB]; kernel_rfl) ?_
       clear hS; intro a w F hS
       obtain ⟨F, hS⟩ := hS.norm [(0, _), (2, _), (3, _), (4, _), (5, _), (6, _)] [(0, _), (101, _), (102, _)] r6 r3
       try dsimp only [List.map, stCells, List.length_cons, List.length_nil, Nat.reduceAdd, List.drop_succ_cons, List.drop_zero, List.drop_nil, List.take_succ_cons, List.take_zero, List.take_nil, List.cons_append, List.nil_append, zCF] at hS
       refine then_n ?_
       refine wp_ret ?_
       refine then_r ?_
       refine then_r ?_
       refine ret_P hfr hS rfl (.cell (n := 101) (ag := true) (sz := 4) rfl .is rfl (by kernel_rfl) (by kernel_rfl) (by kernel_rfl) (.tmp rfl .nil)) (.two (.aggU rfl (by rw [hr] <;> rfl)) (.int (by rw [hr])))
      ·skip
       have h94 : ¬ (¬ nth s0 (((1 + digN s0 1) + 1) + digN s0 ((1 + digN s0 1) + 1)) = 46 ∨ (((((1 + digN s0 1) + 1) + digN s0 ((1 + digN s0 1) + 1)) + 1) + digN s0 ((((1 + digN s0 1) + 1) + digN s0 ((1 + digN s0 1) + 1)) + 1)) = ((((1 + digN s0 1) + 1) + digN s0 ((1 + digN s0 1) + 1)) + 1)) := by
         intro hx
         rw [Bool.eq_false_iff] at hc4
         refine hc4 ?_
         simp only [Bool.or_eq_true, Bool.and_eq_true, Bool.not_eq_true', decide_eq_true_eq, decide_eq_false_iff_not, (is_b (d := 46) (n := 46) rfl), Int.toNat_natCast, ne_eq]
         rcases hx with hx | hx
         · exact .inl hx
         · exact .inr (by omega)
       have h46 : nth s0 (((1 + digN s0 1) + 1) + digN s0 ((1 + digN s0 1) + 1)) = 46 := Classical.byContradiction fun hx => h94 (.inl hx)
       rw [h46] at p4
       have ht2 : ((s0.drop ((((1 + digN s0 1) + 1) + digN s0 ((1 + digN s0 1) + 1)) + 1)).takeWhile digit) ≠ [] := fun hx => h94 (.inr (by have := digN_zero.2 hx; omega))
       refine wp_skip ?_
       refine then_n ?_
       refine wp_seq ?_
       refine region_seq hS (by kernel_rfl)
         (cF rfl (o_move .t (by rfl)) r1 trivial
         (cF rfl (o_move .t (by rfl)) r1 trivial
         (cF rfl (o_move .t (by rfl)) r1 trivial
         (cF rfl (o_add .t (.ci (by kernel_rfl))) r1 trivial
         (cF rfl (o_move .t (by rfl)) r1 trivial
         (cF rfl (o_slice_bs_lh Tryz.underlying9 .t .t .t (by rw [hw79]; omega) (by rw [hw79]; omega) (by omega)) r3 trivial
         (cF rfl (o_buildSliceE (sz := 1) (zs := [.string ⟨#[]⟩]) (r := [(0, .tmp 101)]) (l := [_]) Tryz.underlying40 (by kernel_rfl) (by kernel_rfl) (by kernel_rfl) (by kernel_rfl) rfl rfl (.one rfl .t one_str (by kernel_rfl) .nil) rfl) r1 trivial
         (cF rfl (o_append (sz := 1) (bs := 16) 102 (.mk' Tryz.underlying40 (by kernel_rfl) (by kernel_rfl)) (by intro x; rfl) .is (.arr (l' := [_]) .t) (by simp) (by decide)) ⟨rfl, rfl, trivial⟩ ⟨rfl, trivial⟩
         (cF rfl (o_assign .t (by rfl)) r1 trivial
         Chain.nil)))))))))
         (by kernel_rfl) (by rw [hB]; kernel_rfl) ?_
       clear hS; intro a w F hS
       replace hS := hS.sub
       obtain ⟨F, hS⟩ := hS.norm [(0, _), (2, _), (3, _), (4, _), (5, _), (6, _)] [(0, _), (101, _), (102, _)] r6 r3
       try dsimp only [RS.sub, SF.sub, CF.sub, csub, Anc.sub, List.map, stCells, List.length_cons, List.length_nil, Nat.reduceAdd, List.drop_succ_cons, List.drop_zero, List.drop_nil, List.take_succ_cons, List.take_zero, List.take_nil, List.cons_append, List.nil_append, zCF] at hS
       generalize Act.tau a 103 = v103 at hS
       rw [hw79] at hS
       simp only [Int.toNat_natCast] at hS
       rw [g2] at hS
       refine then_n ?_
       refine region_seq hS (by kernel_rfl)
         (cF rfl (o_move .t (by rfl)) r1 trivial
         (cF rfl (o_assign .t (by rfl)) r1 trivial
         Chain.nil))
         (by kernel_rfl) (by rw [hB]; kernel_rfl) ?_
       clear hS; intro a w F hS
       obtain ⟨F, hS⟩ := hS.norm [(0, _), (2, _), (3, _), (4, _), (5, _)] [(0, _), (101, _), (102, _)] r5 r3
       refine then_n ?_
       refine wp_seq ?_
       refine wp_seq ?_
       refine region_seq hS (by kernel_rfl)
         (cF rfl (o_move .t (by rfl)) r1 trivial
         (cF rfl (o_move .t (by rfl)) r1 trivial
         (cF rfl (o_len_bs Tryz.underlying9 .t) r1 trivial
         (cF rfl (o_lss .t .t) r2 trivial
         Chain.nil))))
         (by kernel_rfl) (by rw [hB]; kernel_rfl) ?_
       clear hS; intro a w F hS
       obtain ⟨F, hS⟩ := hS.norm [(0, _), (2, _), (3, _), (5, _), (108, _)] [(0, _), (101, _), (102, _)] r5 r3
       refine then_n ?_
       refine cond_b hS rfl (fun hc5 => ?_) (fun hc5 => ?_)
       ·skip
        have h9 := of_decide_eq_true hc5
        have hr : opR s0 = (noOp, 5) := opR_none (fR5 q4 p4 (figs_more (fun hx => by rw [← g1, drop_nil] at hx; omega)))
        refine wp_seq ?_
        refine region_seq hS (by kernel_rfl)
          (cF rfl (o_build (r := []) (zs := [.bool false, .int .i64 0, .int .i64 0, .int .i64 0]) (pl := [(0, 1), (1, 1), (2, 1), (3, 1)]) (by kernel_rfl) (by kernel_rfl) .nil (by rfl)) trivial trivial
          (cF rfl (o_storeA (sz := 4) 101 .is .t (by kernel_rfl) (by kernel_rfl) (by kernel_rfl)) r2 r1
          (cF rfl (o_assign (.ci (by kernel_rfl)) (by rfl)) trivial trivial
          Chain.nil)))
          (by kernel_rfl) (by rw [hB]; kernel_rfl) ?_
        clear hS; intro a w F hS
        obtain ⟨F, hS⟩ := hS.norm [(0, _), (2, _), (3, _), (5, _)] [(0, _), (101, _), (102, _)] r4 r3
        try dsimp only [List.map, stCells, List.length_cons, List.length_nil, Nat.reduceAdd, List.drop_succ_cons, List.drop_zero, List.drop_nil, List.take_succ_cons, List.take_zero, List.take_nil, List.cons_append, List.nil_append, zCF] at hS
        refine then_n ?_
        refine wp_ret ?_
        refine then_r ?_
        refine ret_P hfr hS rfl (.cell (n := 101) (ag := true) (sz := 4) rfl .is rfl (by kernel_rfl) (by kernel_rfl) (by kernel_rfl) (.tmp rfl .nil)) (.two (.aggU rfl (by rw [hr] <;> rfl)) (.int (by rw [hr])))
       ·skip
        have h9 := of_decide_eq_false hc5
        have hfm : opForm (nth s0 0) (s0.drop 1) = some [((s0.drop 1).takeWhile digit), ((s0.drop ((1 + digN s0 1) + 1)).takeWhile digit), ((s0.drop ((((1 + digN s0 1) + 1) + digN s0 ((1 + digN s0 1) + 1)) + 1)).takeWhile digit)] := by have hg := figs_whole (by rw [← g1]; exact drop_nil.2 (by omega)) ht2; rw [hg.2]; exact fR6 hb ht0 q4 ht1 p4 hg.1
        refine wp_skip ?_
        refine then_n ?_
        refine wp_seq ?_
        refine region_seq hS (by kernel_rfl)
          (cF rfl (o_assign (.c rfl) (by rfl)) trivial trivial
          Chain.nil)
          (by kernel_rfl) (by rw [hB]; kernel_rfl) ?_
        clear hS; intro a w F hS
        obtain ⟨F, hS⟩ := hS.norm [(0, _), (2, _), (3, _), (5, _), (7, _)] [(0, _), (101, _), (102, _)] r5 r3
        refine then_n ?_
        refine wp_seq ?_
        refine wp_seq ?_
        obtain ⟨P, hP, hform, hPl, hPs⟩ : ∃ P, [((s0.drop 1).takeWhile digit), ((s0.drop ((1 + digN s0 1) + 1)).takeWhile digit), ((s0.drop ((((1 + digN s0 1) + 1) + digN s0 ((1 + digN s0 1) + 1)) + 1)).takeWhile digit)] = P ∧ opForm (nth s0 0) (s0.drop 1) = some P ∧ (1 ≤ P.length ∧ P.length ≤ 3 ∧ 2 ≤ P.length) ∧ ∀ x ∈ P, x.length ≤ s0.length := ⟨_, rfl, hfm, ⟨by simp, by simp, by simp⟩, form_ok ⟨_, _, _, .inr (.inr rfl), tw_len, tw_len, tw_len⟩⟩
        have hN := opR_form hh hform
        rw [hP] at hS
        obtain ⟨F, hS⟩ := hS.give 102 5 rfl rfl
        obtain ⟨F, hS⟩ := hS.norm [(0, _), (2, _), (3, _), (5, _), (7, _)] [(0, _), (101, _)] r5 r2
        refine region_seq hS (by kernel_rfl)
          (cF rfl (o_move .t (by rfl)) r1 trivial
          (cF rfl (o_len_sl Tryz.underlying40 .t) r1 trivial
          (cF rfl (o_move (.ci (by kernel_rfl)) (by rfl)) trivial trivial
          Chain.nil)))
          (by kernel_rfl) (by rw [hB]; kernel_rfl) ?_
        clear hS; intro a w F hS
        obtain ⟨F, hS⟩ := hS.norm [(0, _), (2, _), (3, _), (7, _), (110, _), (111, _), (112, _)] [(0, _), (101, _)] r7 r2
        refine then_n ?_
        refine wp_block ?_
        replace hS := hS.fresh 50 rfl
        replace hS := hS.turn 50 rfl (nilRow (T := 3) (sz := 1) (R := rInt))
        obtain ⟨F, hS⟩ := hS.norm [(0, _), (2, _), (7, _), (110, _), (111, _), (112, _)] [(0, _), (50, _), (101, _)] r6 r3
        refine loop_inv (σ := (Nat × Value)) (fun s => (⟨[(0, .pv (.bs s0)), (2, .pv (.is v2)), (7, .pv (.is s.2)), (110, .pv (.sl rS P)), (111, .pv (.int .i64 (P.length : Nat))), (112, .pv (.int .i64 (s.1 : Nat)))], [(0, frame B), (50, .ob (.val s.2) (rowH 3 1 rInt ((valsR P).take s.1))), (101, .pt (.val v2) 59 [.pv (.bool false), .pv (.int .i64 0), .pv (.int .i64 0), .pv (.int .i64 0)])]⟩ : En)) (fun s => s.1 ≤ P.length ∧ ∀ j, j < s.1 → (readR (nth P j)).2 = 0) (fun s => P.length - s.1) (0, .slice none 0 0) hS ⟨Nat.zero_le _, fun j hj => absurd hj (Nat.not_lt_zero _)⟩ ?_
        clear hS; intro s a w F hC hS
        obtain ⟨i, v⟩ := s
        try dsimp only at hC
        try dsimp only at hS
        obtain ⟨hi0, hz⟩ := hC
        try dsimp only at hi0 hz
        refine wp_seq ?_
        refine region_seq hS (by kernel_rfl)
          (cF rfl (o_lss .t .t) r2 trivial
          Chain.nil)
          (by kernel_rfl) (by rw [hB]; kernel_rfl) ?_
        clear hS; intro a w F hS
        obtain ⟨F, hS⟩ := hS.norm [(0, _), (2, _), (7, _), (110, _), (111, _), (112, _), (113, _)] [(0, _), (50, _), (101, _)] r7 r3
        refine then_n ?_
        refine wp_seq ?_
        refine cond_b hS rfl (fun hc6 => ?_) (fun hc6 => ?_)
        ·skip
         have hi : i < P.length := by have h9 := of_decide_eq_true hc6; omega
         refine wp_skip ?_
         refine then_n ?_
         refine wp_seq ?_
         refine wp_block ?_
         refine wp_seq ?_
         refine region_seq hS (by kernel_rfl)
           (cF rfl (o_indexAddr_sl (sz := 1) (.mk Tryz.underlying40 (by kernel_rfl)) (by intro x; rfl) .t .t (by omega) (by omega)) r2 trivial
           (cF rfl (o_load_ref (ag := false) (sz := 1) .t (by kernel_rfl) (by kernel_rfl) (by kernel_rfl)) r1 trivial
           (cF rfl (o_assign .t (by rfl)) r1 trivial
           Chain.nil)))
           (by kernel_rfl) (by rw [hB]; kernel_rfl) ?_
         clear hS; intro a w F hS
         obtain ⟨F, hS⟩ := hS.norm [(0, _), (2, _), (7, _), (9, _), (110, _), (111, _), (112, _), (113, _), (114, _), (115, _)] [(0, _), (50, _), (101, _)] ⟨rfl, rfl, rfl, rfl, rfl, rfl, rfl, rfl, rfl, rfl, trivial⟩ r3
         try dsimp only [List.map, List.drop_succ_cons, List.drop_zero, List.drop_nil, List.take_succ_cons, List.take_zero, List.take_nil, ldSF] at hS
         rw [Int.toNat_natCast] at hS
         refine then_n ?_
         refine wp_seq ?_
         refine region_seq hS (by kernel_rfl)
           (cF rfl (o_move .t (by rfl)) r1 trivial
           (cF rfl (o_callP (refRead_c (nth P i) (by have h9 := hPs _ (nth_mem hi); omega)) Tryz.func49 rfl (by kernel_rfl) (Args.one .t)) r1 trivial
           (cF rfl (o_move .t (by rfl)) r1 trivial
           (cF rfl (o_extract .t rfl) r1 trivial
           (cF rfl (o_extract .t rfl) r1 trivial
           (cF rfl (o_assign .t (by rfl)) r1 trivial
           (cF rfl (o_assign .t (by rfl)) r1 trivial
           Chain.nil)))))))
           (by kernel_rfl) (by rw [hB]; kernel_rfl) ?_
         clear hS; intro a w F hS
         obtain ⟨F, hS⟩ := hS.norm [(0, _), (2, _), (7, _), (9, _), (10, _), (11, _), (110, _), (111, _), (112, _), (113, _), (114, _), (115, _), (116, _), (117, _), (118, _), (119, _), (120, _)] [(0, _), (50, _), (101, _)] ⟨rfl, rfl, rfl, rfl, rfl, rfl, rfl, rfl, rfl, rfl, rfl, rfl, rfl, rfl, rfl, rfl, rfl, trivial⟩ r3
         refine then_n ?_
         refine wp_seq ?_
         refine wp_seq ?_
         refine region_seq hS (by kernel_rfl)
           (cF rfl (o_move .t (by rfl)) r1 trivial
           (cF rfl (o_neq .t (.ci (by kernel_rfl))) r1 trivial
           Chain.nil))
           (by kernel_rfl) (by rw [hB]; kernel_rfl) ?_
         clear hS; intro a w F hS
         obtain ⟨F, hS⟩ := hS.norm [(0, _), (2, _), (7, _), (9, _), (10, _), (11, _), (110, _), (111, _), (112, _), (113, _), (114, _), (115, _), (116, _), (117, _), (118, _), (119, _), (120, _), (121, _), (122, _)] [(0, _), (50, _), (101, _)] ⟨rfl, rfl, rfl, rfl, rfl, rfl, rfl, rfl, rfl, rfl, rfl, rfl, rfl, rfl, rfl, rfl, rfl, rfl, rfl, trivial⟩ r3
         refine then_n ?_
         refine cond_b hS rfl (fun hc7 => ?_) (fun hc7 => ?_)
         ·skip
          have hr := opR_badn hN hi hz (by simpa using hc7)
          refine wp_seq ?_
          refine region_seq hS (by kernel_rfl)
            (cF rfl (o_build (r := []) (zs := [.bool false, .int .i64 0, .int .i64 0, .int .i64 0]) (pl := [(0, 1), (1, 1), (2, 1), (3, 1)]) (by kernel_rfl) (by kernel_rfl) .nil (by rfl)) trivial trivial
            (cF rfl (o_move .t (by rfl)) r1 trivial
            (cF rfl (o_storeA (sz := 4) 101 .is .t (by kernel_rfl) (by kernel_rfl) (by kernel_rfl)) r2 r1
            (cF rfl (o_assign .t (by rfl)) r1 trivial
            Chain.nil))))
            (by kernel_rfl) (by rw [hB]; kernel_rfl) ?_
          clear hS; intro a w F hS
          obtain ⟨F, hS⟩ := hS.norm [(0, _), (2, _), (3, _), (7, _), (9, _), (10, _), (11, _), (110, _), (111, _), (112, _), (113, _), (114, _), (115, _), (116, _), (117, _), (118, _), (119, _), (120, _), (121, _), (122, _), (123, _), (124, _)] [(0, _), (50, _), (101, _)] ⟨rfl, rfl, rfl, rfl, rfl, rfl, rfl, rfl, rfl, rfl, rfl, rfl, rfl, rfl, rfl, rfl, rfl, rfl, rfl, rfl, rfl, rfl, trivial⟩ r3
          try dsimp only [List.map, stCells, List.length_cons, List.length_nil, Nat.reduceAdd, List.drop_succ_cons, List.drop_zero, List.drop_nil, List.take_succ_cons, List.take_zero, List.take_nil, List.cons_append, List.nil_append, zCF] at hS
          refine then_n ?_
          refine wp_ret ?_
          refine then_r ?_
          refine block_r ?_
          refine then_r ?_
          refine then_r ?_
          refine block_r ?_
          refine then_r ?_
          refine ret_P hfr hS rfl (.cell (n := 101) (ag := true) (sz := 4) rfl .is rfl (by kernel_rfl) (by kernel_rfl) (by kernel_rfl) (.tmp rfl .nil)) (.two (.aggU rfl (by rw [hr] <;> rfl)) (.int (by rw [hr])))
         ·skip
          have hzi : (readR (nth P i)).2 = 0 := by simpa using hc7
          refine wp_skip ?_
          refine then_n ?_
          refine region_seq hS (by kernel_rfl)
            (cF rfl (o_move .t (by rfl)) r1 trivial
            (cF rfl (o_move .t (by rfl)) r1 trivial
            (cF rfl (o_buildSliceE (sz := 1) (zs := [.int .i64 0]) (r := [(0, .tmp 126)]) (l := [_]) Tryz.underlying25 (by kernel_rfl) (by kernel_rfl) (by kernel_rfl) (by kernel_rfl) rfl rfl (.one rfl .t one_int (by kernel_rfl) .nil) rfl) r1 trivial
            (cF rfl (o_append (sz := 1) (bs := 8) 50 (.mk' Tryz.underlying25 (by kernel_rfl) (by kernel_rfl)) (by intro x; rfl) .is (.arr (l' := [(readR (nth P i)).1]) .t) (by simp only [List.length_cons, List.length_nil, List.length_take]; unfold valsR; rw [List.length_map]; omega) (by decide)) ⟨rfl, rfl, trivial⟩ ⟨rfl, trivial⟩
            (cF rfl (o_assign .t (by rfl)) r1 trivial
            Chain.nil)))))
            (by kernel_rfl) (by rw [hB]; kernel_rfl) ?_
          clear hS; intro a w F hS
          replace hS := hS.sub
          obtain ⟨F, hS⟩ := hS.norm [(0, _), (2, _), (7, _), (9, _), (10, _), (11, _), (110, _), (111, _), (112, _), (113, _), (114, _), (115, _), (116, _), (117, _), (118, _), (119, _), (120, _), (121, _), (122, _), (125, _), (126, _), (127, _), (128, _)] [(0, _), (50, _), (101, _)] ⟨rfl, rfl, rfl, rfl, rfl, rfl, rfl, rfl, rfl, rfl, rfl, rfl, rfl, rfl, rfl, rfl, rfl, rfl, rfl, rfl, rfl, rfl, rfl, trivial⟩ r3
          try dsimp only [RS.sub, SF.sub, CF.sub, csub, Anc.sub, List.map, stCells, List.length_cons, List.length_nil, Nat.reduceAdd, List.drop_succ_cons, List.drop_zero, List.drop_nil, List.take_succ_cons, List.take_zero, List.take_nil, List.cons_append, List.nil_append, zCF] at hS
          generalize Act.tau a 128 = v128 at hS
          refine block_n ?_
          refine then_n ?_
          refine region_seq hS (by kernel_rfl)
            (cF rfl (o_add .t (.ci (by kernel_rfl))) r1 trivial
            (cF rfl (o_move .t (by rfl)) r1 trivial
            Chain.nil))
            (by kernel_rfl) (by rw [hB]; kernel_rfl) ?_
          clear hS; intro a w F hS
          obtain ⟨F, hS⟩ := hS.norm [(0, _), (2, _), (7, _), (9, _), (10, _), (11, _), (110, _), (111, _), (112, _), (113, _), (114, _), (115, _), (116, _), (117, _), (118, _), (119, _), (120, _), (121, _), (122, _), (125, _), (126, _), (127, _), (128, _), (129, _)] [(0, _), (50, _), (101, _)] ⟨rfl, rfl, rfl, rfl, rfl, rfl, rfl, rfl, rfl, rfl, rfl, rfl, rfl, rfl, rfl, rfl, rfl, rfl, rfl, rfl, rfl, rfl, rfl, rfl, trivial⟩ r3
          refine then_n ?_
          rw [show (valsR P).take i ++ [(readR (nth P i)).1] = (valsR P).take (i + 1) from map_take_next (f := fun x => (readR x).1) (by omega)] at hS
          replace hS := hS.ent (i := 112) (s' := .pv (.int .i64 ((i + 1 : Nat) : Int))) rfl (.int (wrap_succ (by omega)))
          obtain ⟨F, hS⟩ := hS.norm [(0, _), (2, _), (7, _), (110, _), (111, _), (112, _)] [(0, _), (50, _), (101, _)] r6 r3
          exact ⟨(i + 1, v128), F, ⟨by dsimp only; omega, fun j hj => (Nat.lt_or_ge j i).elim (hz j) (fun h1 => (show i = j by dsimp only at hj; omega) ▸ hzi)⟩, hS, by dsimp only; omega⟩
        ·skip
         have hiP : i = P.length := by have h9 := of_decide_eq_false hc6; omega
         have hbz := bad_none (l := P) (fun j hj => hz j (by omega))
         rw [show (valsR P).take i = valsR P from List.take_of_length_le (by unfold valsR; rw [List.length_map]; omega)] at hS
         refine wp_exit ?_
         refine then_x ?_
         refine then_x ?_
         refine block_x ?_
         refine then_n ?_
         refine wp_seq ?_
         refine region_any (by kernel_rfl) hS (by kernel_rfl)
           (cF rfl (o_move .t (by rfl)) r1 trivial
           (cF rfl (o_index_bs Tryz.underlying9 .t (.ci (by kernel_rfl)) (by decide) (by omega)) r1 trivial
           (cF rfl (o_eql .t (.ci (by kernel_rfl))) r1 trivial
           (cF rfl (o_move .t (by rfl)) r1 trivial
           (cF rfl (o_indexAddr_row (sz := 1) 50 (.mk Tryz.underlying25 (by kernel_rfl)) .is (.ci (by kernel_rfl)) (by decide) (by unfold valsR; rw [List.length_map]; omega) (by rfl)) r1 r1
           (cF rfl (o_load_row0 (ag := false) (sz' := 1) (sz := 1) 50 .t (by intro x; rfl) (by unfold valsR; rw [List.length_map]; omega) (by kernel_rfl) (by kernel_rfl) (by kernel_rfl)) r1 r1
           (cF rfl (o_build (r := [(0, .tmp 132), (1, .tmp 135)]) (zs := [.bool false, .int .i64 0, .int .i64 0, .int .i64 0]) (pl := [(0, 1), (1, 1), (2, 1), (3, 1)]) (by kernel_rfl) (by kernel_rfl) (.one rfl .t one_bool (by kernel_rfl) (.one rfl .t one_int (by kernel_rfl) .nil)) (by rfl)) r2 trivial
           (cF rfl (o_alloc (zs := [.bool false, .int .i64 0, .int .i64 0, .int .i64 0]) 103 (by kernel_rfl)) trivial trivial
           (cF rfl (o_storeA (sz := 4) 103 .same .t (by kernel_rfl) (by kernel_rfl) (by kernel_rfl)) r2 r1
           Chain.nil)))))))))
           (by kernel_rfl) (by rw [hB]; kernel_rfl) ?_
         clear hS; intro a w F hS
         replace hS := hS.sub
         obtain ⟨F, hS⟩ := hS.norm [(2, _), (7, _), (12, _)] [(0, _), (50, _), (101, _), (103, _)] r3 r4
         try dsimp only [RS.sub, SF.sub, CF.sub, csub, Anc.sub, List.map, stCells, List.length_cons, List.length_nil, Nat.reduceAdd, List.drop_succ_cons, List.drop_zero, List.drop_nil, List.take_succ_cons, List.take_zero, List.take_nil, List.cons_append, List.nil_append, zCF, ldSF] at hS
         generalize Act.tau a 12 = v12 at hS
         rw [show decide ((((nth s0 (Int.toNat 0)).toNat : Nat) : Int) = 114) = decide (nth s0 0 = 114) from byte_r _, hrn] at hS
         refine then_n ?_
         refine wp_seq ?_
         refine wp_seq ?_
         refine region_seq hS (by kernel_rfl)
           (cF rfl (o_fieldAddr (off := 0) 103 .is (by kernel_rfl) (by rfl)) r1 r1
           (cF rfl (o_load (ag := false) (sz := 1) 103 .adr (by kernel_rfl) (by kernel_rfl) (by kernel_rfl) (by rfl)) r1 r1
           Chain.nil))
           (by kernel_rfl) (by rw [hB]; kernel_rfl) ?_
         clear hS; intro a w F hS
         obtain ⟨F, hS⟩ := hS.norm [(2, _), (7, _), (12, _), (138, _)] [(0, _), (50, _), (101, _), (103, _)] r4 r4
         try dsimp only [List.map, List.drop_succ_cons, List.drop_zero, List.drop_nil, List.take_succ_cons, List.take_zero, List.take_nil, ldSF] at hS
         refine then_n ?_
         refine cond_b hS rfl (fun hc8 => ?_) (fun hc8 => ?_)
         ·skip
          refine wp_seq ?_
          refine region_seq hS (by kernel_rfl)
            (cF rfl (o_move .t (by rfl)) r1 trivial
            (cF rfl (o_indexAddr_row (sz := 1) 50 (.mk Tryz.underlying25 (by kernel_rfl)) .is (.ci (by kernel_rfl)) (by decide) (by unfold valsR; rw [List.length_map]; omega) (by rfl)) r1 r1
            (cF rfl (o_load_row0 (ag := false) (sz' := 1) (sz := 1) 50 .t (by intro x; rfl) (by unfold valsR; rw [List.length_map]; omega) (by kernel_rfl) (by kernel_rfl) (by kernel_rfl)) r1 r1
            (cF rfl (o_fieldAddr (off := 2) 103 .is (by kernel_rfl) (by rfl)) r1 r1
            (cF rfl (o_store1 103 .adr .t one_int (by kernel_rfl) (by kernel_rfl)) r2 r1
            Chain.nil)))))
            (by kernel_rfl) (by rw [hB]; kernel_rfl) ?_
          clear hS; intro a w F hS
          obtain ⟨F, hS⟩ := hS.norm [(2, _), (7, _), (12, _)] [(0, _), (50, _), (101, _), (103, _)] r3 r4
          try dsimp only [List.map, stCells, List.length_cons, List.length_nil, Nat.reduceAdd, List.drop_succ_cons, List.drop_zero, List.drop_nil, List.take_succ_cons, List.take_zero, List.take_nil, List.cons_append, List.nil_append, zCF, ldSF] at hS
          refine then_n ?_
          refine wp_seq ?_
          refine wp_seq ?_
          refine region_seq hS (by kernel_rfl)
            (cF rfl (o_move .t (by rfl)) r1 trivial
            (cF rfl (o_len_row 50 Tryz.underlying25 .is) r1 r1
            (cF rfl (o_eql .t (.ci (by kernel_rfl))) r1 trivial
            Chain.nil)))
            (by kernel_rfl) (by rw [hB]; kernel_rfl) ?_
          clear hS; intro a w F hS
          obtain ⟨F, hS⟩ := hS.norm [(2, _), (7, _), (12, _), (145, _)] [(0, _), (50, _), (101, _), (103, _)] r4 r4
          refine then_n ?_
          refine cond_b hS rfl (fun hc9 => ?_) (fun hc9 => ?_)
          ·skip
           have h3 : P.length = 3 := by have h9 := of_decide_eq_true hc9; unfold valsR at h9; rw [List.length_map] at h9; omega
           have hN2 := hN
           rw [hrn] at hN2
           have hdn := opR_nums hN2 hbz (o := ⟨true, nth (valsR P) 0, nth (valsR P) 1, nth (valsR P) 2⟩) (by unfold opMk; rfl)
           try dsimp only at hdn
           refine region_seq hS (by kernel_rfl)
             (cF rfl (o_move .t (by rfl)) r1 trivial
             (cF rfl (o_indexAddr_row (sz := 1) 50 (.mk Tryz.underlying25 (by kernel_rfl)) .is (.ci (by kernel_rfl)) (by decide) (by unfold valsR; rw [List.length_map]; omega) (by rfl)) r1 r1
             (cF rfl (o_load_row0 (ag := false) (sz' := 1) (sz := 1) 50 .t (by intro x; rfl) (by unfold valsR; rw [List.length_map]; omega) (by kernel_rfl) (by kernel_rfl) (by kernel_rfl)) r1 r1
             (cF rfl (o_fieldAddr (off := 3) 103 .is (by kernel_rfl) (by rfl)) r1 r1
             (cF rfl (o_store1 103 .adr .t one_int (by kernel_rfl) (by kernel_rfl)) r2 r1
             Chain.nil)))))
             (by kernel_rfl) (by rw [hB]; kernel_rfl) ?_
           clear hS; intro a w F hS
           obtain ⟨F, hS⟩ := hS.norm [(2, _), (7, _), (12, _)] [(0, _), (50, _), (101, _), (103, _)] r3 r4
           try dsimp only [List.map, stCells, List.length_cons, List.length_nil, Nat.reduceAdd, List.drop_succ_cons, List.drop_zero, List.drop_nil, List.take_succ_cons, List.take_zero, List.take_nil, List.cons_append, List.nil_append, zCF, ldSF] at hS
           refine then_n ?_
           refine wp_seq ?_
           refine region_seq hS (by kernel_rfl)
             (cF rfl (o_fieldAddr (off := 2) 103 .is (by kernel_rfl) (by rfl)) r1 r1
             (cF rfl (o_load (ag := false) (sz := 1) 103 .adr (by kernel_rfl) (by kernel_rfl) (by kernel_rfl) (by rfl)) r1 r1
             (cF rfl (o_eql .t (.ci (by kernel_rfl))) r1 trivial
             (cF rfl (o_move .t (by rfl)) r1 trivial
             (cF rfl (o_len_row 50 Tryz.underlying25 .is) r1 r1
             (cF rfl (o_eql .t (.ci (by kernel_rfl))) r1 trivial
             (cF rfl (o_neqB Tryz.underlying4 .t .t) r2 trivial
             Chain.nil)))))))
             (by kernel_rfl) (by rw [hB]; kernel_rfl) ?_
           clear hS; intro a w F hS
           obtain ⟨F, hS⟩ := hS.norm [(2, _), (12, _), (156, _)] [(0, _), (50, _), (101, _), (103, _)] r3 r4
           try dsimp only [List.map, List.drop_succ_cons, List.drop_zero, List.drop_nil, List.take_succ_cons, List.take_zero, List.take_nil, ldSF] at hS
           refine then_n ?_
           refine cond_b hS rfl (fun hc10 => ?_) (fun hc10 => ?_)
           ·skip
            have hlv : (valsR P).length = P.length := by unfold valsR; rw [List.length_map]
            rw [hlv, len_two, bne_iff_ne] at hc10
            have hr : opR s0 = (noOp, 5) := by rw [hdn, if_pos ⟨rfl, hc10⟩]
            refine wp_seq ?_
            refine region_seq hS (by kernel_rfl)
              (cF rfl (o_build (r := []) (zs := [.bool false, .int .i64 0, .int .i64 0, .int .i64 0]) (pl := [(0, 1), (1, 1), (2, 1), (3, 1)]) (by kernel_rfl) (by kernel_rfl) .nil (by rfl)) trivial trivial
              (cF rfl (o_storeA (sz := 4) 101 .is .t (by kernel_rfl) (by kernel_rfl) (by kernel_rfl)) r2 r1
              (cF rfl (o_assign (.ci (by kernel_rfl)) (by rfl)) trivial trivial
              Chain.nil)))
              (by kernel_rfl) (by rw [hB]; kernel_rfl) ?_
            clear hS; intro a w F hS
            obtain ⟨F, hS⟩ := hS.norm [(2, _), (3, _), (12, _)] [(0, _), (50, _), (101, _), (103, _)] r3 r4
            try dsimp only [List.map, stCells, List.length_cons, List.length_nil, Nat.reduceAdd, List.drop_succ_cons, List.drop_zero, List.drop_nil, List.take_succ_cons, List.take_zero, List.take_nil, List.cons_append, List.nil_append, zCF] at hS
            refine then_n ?_
            refine wp_ret ?_
            refine then_r ?_
            refine ret_P hfr hS rfl (.cell (n := 101) (ag := true) (sz := 4) rfl .is rfl (by kernel_rfl) (by kernel_rfl) (by kernel_rfl) (.tmp rfl .nil)) (.two (.aggU rfl (by rw [hr] <;> rfl)) (.int (by rw [hr])))
           ·skip
            have hlv : (valsR P).length = P.length := by unfold valsR; rw [List.length_map]
            rw [hlv, len_two] at hc10
            rw [if_neg (fun hx => by exact Bool.noConfusion ((bne_iff_ne.2 hx.2).symm.trans hc10))] at hdn
            refine wp_skip ?_
            refine then_n ?_
            refine wp_seq ?_
            refine wp_seq ?_
            refine region_seq hS (by kernel_rfl)
              (cF rfl (o_load (ag := true) (sz := 4) 103 .is (by kernel_rfl) (by kernel_rfl) (by kernel_rfl) (by rfl)) r1 r1
              (cF rfl (o_callP (refOpRight_c ⟨true, nth (valsR P) 0, nth (valsR P) 1, nth (valsR P) 2⟩) Tryz.func33 rfl (by kernel_rfl) (Args.one (.pagg .t))) r1 trivial
              (cF rfl (o_not .t) r1 trivial
              Chain.nil)))
              (by kernel_rfl) (by rw [hB]; kernel_rfl) ?_
            clear hS; intro a w F hS
            obtain ⟨F, hS⟩ := hS.norm [(2, _), (12, _), (160, _)] [(0, _), (50, _), (101, _), (103, _)] r3 r4
            try dsimp only [List.map, List.drop_succ_cons, List.drop_zero, List.drop_nil, List.take_succ_cons, List.take_zero, List.take_nil, ldSF] at hS
            refine then_n ?_
            refine cond_b hS rfl (fun hc11 => ?_) (fun hc11 => ?_)
            ·skip
             have hr : opR s0 = (noOp, 1) := by rw [hdn]; exact if_neg (by simpa using hc11)
             refine wp_seq ?_
             refine region_seq hS (by kernel_rfl)
               (cF rfl (o_build (r := []) (zs := [.bool false, .int .i64 0, .int .i64 0, .int .i64 0]) (pl := [(0, 1), (1, 1), (2, 1), (3, 1)]) (by kernel_rfl) (by kernel_rfl) .nil (by rfl)) trivial trivial
               (cF rfl (o_storeA (sz := 4) 101 .is .t (by kernel_rfl) (by kernel_rfl) (by kernel_rfl)) r2 r1
               (cF rfl (o_assign (.ci (by kernel_rfl)) (by rfl)) trivial trivial
               Chain.nil)))
               (by kernel_rfl) (by rw [hB]; kernel_rfl) ?_
             clear hS; intro a w F hS
             obtain ⟨F, hS⟩ := hS.norm [(2, _), (3, _), (12, _)] [(0, _), (50, _), (101, _), (103, _)] r3 r4
             try dsimp only [List.map, stCells, List.length_cons, List.length_nil, Nat.reduceAdd, List.drop_succ_cons, List.drop_zero, List.drop_nil, List.take_succ_cons, List.take_zero, List.take_nil, List.cons_append, List.nil_append, zCF] at hS
             refine then_n ?_
             refine wp_ret ?_
             refine then_r ?_
             refine ret_P hfr hS rfl (.cell (n := 101) (ag := true) (sz := 4) rfl .is rfl (by kernel_rfl) (by kernel_rfl) (by kernel_rfl) (.tmp rfl .nil)) (.two (.aggU rfl (by rw [hr] <;> rfl)) (.int (by rw [hr])))
            ·skip
             have hr : opR s0 = (⟨true, nth (valsR P) 0, nth (valsR P) 1, nth (valsR P) 2⟩, 0) := by rw [hdn]; exact if_pos (by simpa using hc11)
             refine wp_skip ?_
             refine then_n ?_
             refine wp_seq ?_
             refine region_seq hS (by kernel_rfl)
               (cF rfl (o_load (ag := true) (sz := 4) 103 .is (by kernel_rfl) (by kernel_rfl) (by kernel_rfl) (by rfl)) r1 r1
               (cF rfl (o_storeA (sz := 4) 101 .is .t (by kernel_rfl) (by kernel_rfl) (by kernel_rfl)) r2 r1
               (cF rfl (o_assign (.ci (by kernel_rfl)) (by rfl)) trivial trivial
               Chain.nil)))
               (by kernel_rfl) (by rw [hB]; kernel_rfl) ?_
             clear hS; intro a w F hS
             obtain ⟨F, hS⟩ := hS.norm [(2, _), (3, _)] [(0, _), (50, _), (101, _), (103, _)] r2 r4
             try dsimp only [List.map, stCells, List.length_cons, List.length_nil, Nat.reduceAdd, List.drop_succ_cons, List.drop_zero, List.drop_nil, List.take_succ_cons, List.take_zero, List.take_nil, List.cons_append, List.nil_append, zCF, ldSF] at hS
             refine then_n ?_
             refine wp_ret ?_
             refine ret_P hfr hS rfl (.cell (n := 101) (ag := true) (sz := 4) rfl .is rfl (by kernel_rfl) (by kernel_rfl) (by kernel_rfl) (.tmp rfl .nil)) (.two (.aggU rfl (by rw [hr] <;> rfl)) (.int (by rw [hr])))
          ·skip
           have h3 : P.length = 2 := by have h9 := of_decide_eq_false hc9; unfold valsR at h9; rw [List.length_map] at h9; omega
           have z2 : nth (valsR P) 2 = 0 := by rw [vals_nth, if_neg (by omega)]
           have hN2 := hN
           rw [hrn] at hN2
           have hdn := opR_nums hN2 hbz (o := ⟨true, nth (valsR P) 0, nth (valsR P) 1, 0⟩) (by unfold opMk; rw [z2])
           try dsimp only at hdn
           refine wp_skip ?_
           refine then_n ?_
           refine wp_seq ?_
           refine region_seq hS (by kernel_rfl)
             (cF rfl (o_fieldAddr (off := 2) 103 .is (by kernel_rfl) (by rfl)) r1 r1
             (cF rfl (o_load (ag := false) (sz := 1) 103 .adr (by kernel_rfl) (by kernel_rfl) (by kernel_rfl) (by rfl)) r1 r1
             (cF rfl (o_eql .t (.ci (by kernel_rfl))) r1 trivial
             (cF rfl (o_move .t (by rfl)) r1 trivial
             (cF rfl (o_len_row 50 Tryz.underlying25 .is) r1 r1
             (cF rfl (o_eql .t (.ci (by kernel_rfl))) r1 trivial
             (cF rfl (o_neqB Tryz.underlying4 .t .t) r2 trivial
             Chain.nil)))))))
             (by kernel_rfl) (by rw [hB]; kernel_rfl) ?_
           clear hS; intro a w F hS
           obtain ⟨F, hS⟩ := hS.norm [(2, _), (12, _), (156, _)] [(0, _), (50, _), (101, _), (103, _)] r3 r4
           try dsimp only [List.map, List.drop_succ_cons, List.drop_zero, List.drop_nil, List.take_succ_cons, List.take_zero, List.take_nil, ldSF] at hS
           refine then_n ?_
           refine cond_b hS rfl (fun hc12 => ?_) (fun hc12 => ?_)
           ·skip
            have hlv : (valsR P).length = P.length := by unfold valsR; rw [List.length_map]
            rw [hlv, len_two, bne_iff_ne] at hc12
            have hr : opR s0 = (noOp, 5) := by rw [hdn, if_pos ⟨rfl, hc12⟩]
            refine wp_seq ?_
            refine region_seq hS (by kernel_rfl)
              (cF rfl (o_build (r := []) (zs := [.bool false, .int .i64 0, .int .i64 0, .int .i64 0]) (pl := [(0, 1), (1, 1), (2, 1), (3, 1)]) (by kernel_rfl) (by kernel_rfl) .nil (by rfl)) trivial trivial
              (cF rfl (o_storeA (sz := 4) 101 .is .t (by kernel_rfl) (by kernel_rfl) (by kernel_rfl)) r2 r1
              (cF rfl (o_assign (.ci (by kernel_rfl)) (by rfl)) trivial trivial
              Chain.nil)))
              (by kernel_rfl) (by rw [hB]; kernel_rfl) ?_
            clear hS; intro a w F hS
            obtain ⟨F, hS⟩ := hS.norm [(2, _), (3, _), (12, _)] [(0, _), (50, _), (101, _), (103, _)] r3 r4
            try dsimp only [List.map, stCells, List.length_cons, List.length_nil, Nat.reduceAdd, List.drop_succ_cons, List.drop_zero, List.drop_nil, List.take_succ_cons, List.take_zero, List.take_nil, List.cons_append, List.nil_append, zCF] at hS
            refine then_n ?_
            refine wp_ret ?_
            refine then_r ?_
            refine ret_P hfr hS rfl (.cell (n := 101) (ag := true) (sz := 4) rfl .is rfl (by kernel_rfl) (by kernel_rfl) (by kernel_rfl) (.tmp rfl .nil)) (.two (.aggU rfl (by rw [hr] <;> rfl)) (.int (by rw [hr])))
           ·skip
            have hlv : (valsR P).length = P.length := by unfold valsR; rw [List.length_map]
            rw [hlv, len_two] at hc12
            rw [if_neg (fun hx => by exact Bool.noConfusion ((bne_iff_ne.2 hx.2).symm.trans hc12))] at hdn
            refine wp_skip ?_
            refine then_n ?_
            refine wp_seq ?_
            refine wp_seq ?_
            refine region_seq hS (by kernel_rfl)
              (cF rfl (o_load (ag := true) (sz := 4) 103 .is (by kernel_rfl) (by kernel_rfl) (by kernel_rfl) (by rfl)) r1 r1
              (cF rfl (o_callP (refOpRight_c ⟨true, nth (valsR P) 0, nth (valsR P) 1, 0⟩) Tryz.func33 rfl (by kernel_rfl) (Args.one (.pagg .t))) r1 trivial
              (cF rfl (o_not .t) r1 trivial
              Chain.nil)))
              (by kernel_rfl) (by rw [hB]; kernel_rfl) ?_
            clear hS; intro a w F hS
            obtain ⟨F, hS⟩ := hS.norm [(2, _), (12, _), (160, _)] [(0, _), (50, _), (101, _), (103, _)] r3 r4
            try dsimp only [List.map, List.drop_succ_cons, List.drop_zero, List.drop_nil, List.take_succ_cons, List.take_zero, List.take_nil, ldSF] at hS
            refine then_n ?_
            refine cond_b hS rfl (fun hc13 => ?_) (fun hc13 => ?_)
            ·skip
             have hr : opR s0 = (noOp, 1) := by rw [hdn]; exact if_neg (by simpa using hc13)
             refine wp_seq ?_
             refine region_seq hS (by kernel_rfl)
               (cF rfl (o_build (r := []) (zs := [.bool false, .int .i64 0, .int .i64 0, .int .i64 0]) (pl := [(0, 1), (1, 1), (2, 1), (3, 1)]) (by kernel_rfl) (by kernel_rfl) .nil (by rfl)) trivial trivial
               (cF rfl (o_storeA (sz := 4) 101 .is .t (by kernel_rfl) (by kernel_rfl) (by kernel_rfl)) r2 r1
               (cF rfl (o_assign (.ci (by kernel_rfl)) (by rfl)) trivial trivial
               Chain.nil)))
               (by kernel_rfl) (by rw [hB]; kernel_rfl) ?_
             clear hS; intro a w F hS
             obtain ⟨F, hS⟩ := hS.norm [(2, _), (3, _), (12, _)] [(0, _), (50, _), (101, _), (103, _)] r3 r4
             try dsimp only [List.map, stCells, List.length_cons, List.length_nil, Nat.reduceAdd, List.drop_succ_cons, List.drop_zero, List.drop_nil, List.take_succ_cons, List.take_zero, List.take_nil, List.cons_append, List.nil_append, zCF] at hS
             refine then_n ?_
             refine wp_ret ?_
             refine then_r ?_
             refine ret_P hfr hS rfl (.cell (n := 101) (ag := true) (sz := 4) rfl .is rfl (by kernel_rfl) (by kernel_rfl) (by kernel_rfl) (.tmp rfl .nil)) (.two (.aggU rfl (by rw [hr] <;> rfl)) (.int (by rw [hr])))
            ·skip
             have hr : opR s0 = (⟨true, nth (valsR P) 0, nth (valsR P) 1, 0⟩, 0) := by rw [hdn]; exact if_pos (by simpa using hc13)
             refine wp_skip ?_
             refine then_n ?_
             refine wp_seq ?_
             refine region_seq hS (by kernel_rfl)
               (cF rfl (o_load (ag := true) (sz := 4) 103 .is (by kernel_rfl) (by kernel_rfl) (by kernel_rfl) (by rfl)) r1 r1
               (cF rfl (o_storeA (sz := 4) 101 .is .t (by kernel_rfl) (by kernel_rfl) (by kernel_rfl)) r2 r1
               (cF rfl (o_assign (.ci (by kernel_rfl)) (by rfl)) trivial trivial
               Chain.nil)))
               (by kernel_rfl) (by rw [hB]; kernel_rfl) ?_
             clear hS; intro a w F hS
             obtain ⟨F, hS⟩ := hS.norm [(2, _), (3, _)] [(0, _), (50, _), (101, _), (103, _)] r2 r4
             try dsimp only [List.map, stCells, List.length_cons, List.length_nil, Nat.reduceAdd, List.drop_succ_cons, List.drop_zero, List.drop_nil, List.take_succ_cons, List.take_zero, List.take_nil, List.cons_append, List.nil_append, zCF, ldSF] at hS
             refine then_n ?_
             refine wp_ret ?_
             refine ret_P hfr hS rfl (.cell (n := 101) (ag := true) (sz := 4) rfl .is rfl (by kernel_rfl) (by kernel_rfl) (by kernel_rfl) (.tmp rfl .nil)) (.two (.aggU rfl (by rw [hr] <;> rfl)) (.int (by rw [hr])))
         ·skip
          exact absurd hc8 (by decide)
     ·skip
      have hc1 : s0.length ≤ (((1 + digN s0 1) + 1) + digN s0 ((1 + digN s0 1) + 1)) := by have h9 := of_decide_eq_false hc3; omega
      refine wp_skip ?_
      refine then_n ?_
      refine wp_seq ?_
      refine wp_seq ?_
      refine region_seq hS (by kernel_rfl)
        (cF rfl (o_move .t (by rfl)) r1 trivial
        (cF rfl (o_move .t (by rfl)) r1 trivial
        (cF rfl (o_len_bs Tryz.underlying9 .t) r1 trivial
        (cF rfl (o_lss .t .t) r2 trivial
        Chain.nil))))
        (by kernel_rfl) (by rw [hB]; kernel_rfl) ?_
      clear hS; intro a w F hS
      obtain ⟨F, hS⟩ := hS.norm [(0, _), (2, _), (3, _), (5, _), (108, _)] [(0, _), (101, _), (102, _)] r5 r3
      refine then_n ?_
      refine cond_b hS rfl (fun hc14 => ?_) (fun hc14 => ?_)
      ·skip
       have h9 := of_decide_eq_true hc14
       have hr : opR s0 = (noOp, 5) := by omega
       refine wp_seq ?_
       refine region_seq hS (by kernel_rfl)
         (cF rfl (o_build (r := []) (zs := [.bool false, .int .i64 0, .int .i64 0, .int .i64 0]) (pl := [(0, 1), (1, 1), (2, 1), (3, 1)]) (by kernel_rfl) (by kernel_rfl) .nil (by rfl)) trivial trivial
         (cF rfl (o_storeA (sz := 4) 101 .is .t (by kernel_rfl) (by kernel_rfl) (by kernel_rfl)) r2 r1
         (cF rfl (o_assign (.ci (by kernel_rfl)) (by rfl)) trivial trivial
         Chain.nil)))
         (by kernel_rfl) (by rw [hB]; kernel_rfl) ?_
       clear hS; intro a w F hS
       obtain ⟨F, hS⟩ := hS.norm [(0, _), (2, _), (3, _), (5, _)] [(0, _), (101, _), (102, _)] r4 r3
       try dsimp only [List.map, stCells, List.length_cons, List.length_nil, Nat.reduceAdd, List.drop_succ_cons, List.drop_zero, List.drop_nil, List.take_succ_cons, List.take_zero, List.take_nil, List.cons_append, List.nil_append, zCF] at hS
       refine then_n ?_
       refine wp_ret ?_
       refine then_r ?_
       refine ret_P hfr hS rfl (.cell (n := 101) (ag := true) (sz := 4) rfl .is rfl (by kernel_rfl) (by kernel_rfl) (by kernel_rfl) (.tmp rfl .nil)) (.two (.aggU rfl (by rw [hr] <;> rfl)) (.int (by rw [hr])))
      ·skip
       have h9 := of_decide_eq_false hc14
       have hfm : opForm (nth s0 0) (s0.drop 1) = some [((s0.drop 1).takeWhile digit), ((s0.drop ((1 + digN s0 1) + 1)).takeWhile digit)] := fR3 hb ht0 q4 ht1 (by rw [← p1]; exact drop_nil.2 (by omega))
       refine wp_skip ?_
       refine then_n ?_
       refine wp_seq ?_
       refine region_seq hS (by kernel_rfl)
         (cF rfl (o_assign (.c rfl) (by rfl)) trivial trivial
         Chain.nil)
         (by kernel_rfl) (by rw [hB]; kernel_rfl) ?_
       clear hS; intro a w F hS
       obtain ⟨F, hS⟩ := hS.norm [(0, _), (2, _), (3, _), (5, _), (7, _)] [(0, _), (101, _), (102, _)] r5 r3
       refine then_n ?_
       refine wp_seq ?_
       refine wp_seq ?_
       obtain ⟨P, hP, hform, hPl, hPs⟩ : ∃ P, [((s0.drop 1).takeWhile digit), ((s0.drop ((1 + digN s0 1) + 1)).takeWhile digit)] = P ∧ opForm (nth s0 0) (s0.drop 1) = some P ∧ (1 ≤ P.length ∧ P.length ≤ 3 ∧ 2 ≤ P.length) ∧ ∀ x ∈ P, x.length ≤ s0.length := ⟨_, rfl, hfm, ⟨by simp, by simp, by simp⟩, form_ok ⟨_, _, [], .inr (.inl rfl), tw_len, tw_len, Nat.zero_le _⟩⟩
       have hN := opR_form hh hform
       rw [hP] at hS
       obtain ⟨F, hS⟩ := hS.give 102 5 rfl rfl
       obtain ⟨F, hS⟩ := hS.norm [(0, _), (2, _), (3, _), (5, _), (7, _)] [(0, _), (101, _)] r5 r2
       refine region_seq hS (by kernel_rfl)
         (cF rfl (o_move .t (by rfl)) r1 trivial
         (cF rfl (o_len_sl Tryz.underlying40 .t) r1 trivial
         (cF rfl (o_move (.ci (by kernel_rfl)) (by rfl)) trivial trivial
         Chain.nil)))
         (by kernel_rfl) (by rw [hB]; kernel_rfl) ?_
       clear hS; intro a w F hS
       obtain ⟨F, hS⟩ := hS.norm [(0, _), (2, _), (3, _), (7, _), (110, _), (111, _), (112, _)] [(0, _), (101, _)] r7 r2
       refine then_n ?_
       refine wp_block ?_
       replace hS := hS.fresh 50 rfl
       replace hS := hS.turn 50 rfl (nilRow (T := 3) (sz := 1) (R := rInt))
       obtain ⟨F, hS⟩ := hS.norm [(0, _), (2, _), (7, _), (110, _), (111, _), (112, _)] [(0, _), (50, _), (101, _)] r6 r3
       refine loop_inv (σ := (Nat × Value)) (fun s => (⟨[(0, .pv (.bs s0)), (2, .pv (.is v2)), (7, .pv (.is s.2)), (110, .pv (.sl rS P)), (111, .pv (.int .i64 (P.length : Nat))), (112, .pv (.int .i64 (s.1 : Nat)))], [(0, frame B), (50, .ob (.val s.2) (rowH 3 1 rInt ((valsR P).take s.1))), (101, .pt (.val v2) 59 [.pv (.bool false), .pv (.int .i64 0), .pv (.int .i64 0), .pv (.int .i64 0)])]⟩ : En)) (fun s => s.1 ≤ P.length ∧ ∀ j, j < s.1 → (readR (nth P j)).2 = 0) (fun s => P.length - s.1) (0, .slice none 0 0) hS ⟨Nat.zero_le _, fun j hj => absurd hj (Nat.not_lt_zero _)⟩ ?_
       clear hS; intro s a w F hC hS
       obtain ⟨i, v⟩ := s
       try dsimp only at hC
       try dsimp only at hS
       obtain ⟨hi0, hz⟩ := hC
       try dsimp only at hi0 hz
       refine wp_seq ?_
       refine region_seq hS (by kernel_rfl)
         (cF rfl (o_lss .t .t) r2 trivial
         Chain.nil)
         (by kernel_rfl) (by rw [hB]; kernel_rfl) ?_
       clear hS; intro a w F hS
       obtain ⟨F, hS⟩ := hS.norm [(0, _), (2, _), (7, _), (110, _), (111, _), (112, _), (113, _)] [(0, _), (50, _), (101, _)] r7 r3
       refine then_n ?_
       refine wp_seq ?_
       refine cond_b hS rfl (fun hc15 => ?_) (fun hc15 => ?_)
       ·skip
        have hi : i < P.length := by have h9 := of_decide_eq_true hc15; omega
        refine wp_skip ?_
        refine then_n ?_
        refine wp_seq ?_
        refine wp_block ?_
        refine wp_seq ?_
        refine region_seq hS (by kernel_rfl)
          (cF rfl (o_indexAddr_sl (sz := 1) (.mk Tryz.underlying40 (by kernel_rfl)) (by intro x; rfl) .t .t (by omega) (by omega)) r2 trivial
          (cF rfl (o_load_ref (ag := false) (sz := 1) .t (by kernel_rfl) (by kernel_rfl) (by kernel_rfl)) r1 trivial
          (cF rfl (o_assign .t (by rfl)) r1 trivial
          Chain.nil)))
          (by kernel_rfl) (by rw [hB]; kernel_rfl) ?_
        clear hS; intro a w F hS
        obtain ⟨F, hS⟩ := hS.norm [(0, _), (2, _), (7, _), (9, _), (110, _), (111, _), (112, _), (113, _), (114, _), (115, _)] [(0, _), (50, _), (101, _)] ⟨rfl, rfl, rfl, rfl, rfl, rfl, rfl, rfl, rfl, rfl, trivial⟩ r3
        try dsimp only [List.map, List.drop_succ_cons, List.drop_zero, List.drop_nil, List.take_succ_cons, List.take_zero, List.take_nil, ldSF] at hS
        rw [Int.toNat_natCast] at hS
        refine then_n ?_
        refine wp_seq ?_
        refine region_seq hS (by kernel_rfl)
          (cF rfl (o_move .t (by rfl)) r1 trivial
          (cF rfl (o_callP (refRead_c (nth P i) (by have h9 := hPs _ (nth_mem hi); omega)) Tryz.func49 rfl (by kernel_rfl) (Args.one .t)) r1 trivial
          (cF rfl (o_move .t (by rfl)) r1 trivial
          (cF rfl (o_extract .t rfl) r1 trivial
          (cF rfl (o_extract .t rfl) r1 trivial
          (cF rfl (o_assign .t (by rfl)) r1 trivial
          (cF rfl (o_assign .t (by rfl)) r1 trivial
          Chain.nil)))))))
          (by kernel_rfl) (by rw [hB]; kernel_rfl) ?_
        clear hS; intro a w F hS
        obtain ⟨F, hS⟩ := hS.norm [(0, _), (2, _), (7, _), (9, _), (10, _), (11, _), (110, _), (111, _), (112, _), (113, _), (114, _), (115, _), (116, _), (117, _), (118, _), (119, _), (120, _)] [(0, _), (50, _), (101, _)] ⟨rfl, rfl, rfl, rfl, rfl, rfl, rfl, rfl, rfl, rfl, rfl, rfl, rfl, rfl, rfl, rfl, rfl, trivial⟩ r3
        refine then_n ?_
        refine wp_seq ?_
        refine wp_seq ?_
        refine region_seq hS (by kernel_rfl)
          (cF rfl (o_move .t (by rfl)) r1 trivial
          (cF rfl (o_neq .t (.ci (by kernel_rfl))) r1 trivial
          Chain.nil))
          (by kernel_rfl) (by rw [hB]; kernel_rfl) ?_
        clear hS; intro a w F hS
        obtain ⟨F, hS⟩ := hS.norm [(0, _), (2, _), (7, _), (9, _), (10, _), (11, _), (110, _), (111, _), (112, _), (113, _), (114, _), (115, _), (116, _), (117, _), (118, _), (119, _), (120, _), (121, _), (122, _)] [(0, _), (50, _), (101, _)] ⟨rfl, rfl, rfl, rfl, rfl, rfl, rfl, rfl, rfl, rfl, rfl, rfl, rfl, rfl, rfl, rfl, rfl, rfl, rfl, trivial⟩ r3
        refine then_n ?_
        refine cond_b hS rfl (fun hc16 => ?_) (fun hc16 => ?_)
        ·skip
         have hr := opR_badn hN hi hz (by simpa using hc16)
         refine wp_seq ?_
         refine region_seq hS (by kernel_rfl)
           (cF rfl (o_build (r := []) (zs := [.bool false, .int .i64 0, .int .i64 0, .int .i64 0]) (pl := [(0, 1), (1, 1), (2, 1), (3, 1)]) (by kernel_rfl) (by kernel_rfl) .nil (by rfl)) trivial trivial
           (cF rfl (o_move .t (by rfl)) r1 trivial
           (cF rfl (o_storeA (sz := 4) 101 .is .t (by kernel_rfl) (by kernel_rfl) (by kernel_rfl)) r2 r1
           (cF rfl (o_assign .t (by rfl)) r1 trivial
           Chain.nil))))
           (by kernel_rfl) (by rw [hB]; kernel_rfl) ?_
         clear hS; intro a w F hS
         obtain ⟨F, hS⟩ := hS.norm [(0, _), (2, _), (3, _), (7, _), (9, _), (10, _), (11, _), (110, _), (111, _), (112, _), (113, _), (114, _), (115, _), (116, _), (117, _), (118, _), (119, _), (120, _), (121, _), (122, _), (123, _), (124, _)] [(0, _), (50, _), (101, _)] ⟨rfl, rfl, rfl, rfl, rfl, rfl, rfl, rfl, rfl, rfl, rfl, rfl, rfl, rfl, rfl, rfl, rfl, rfl, rfl, rfl, rfl, rfl, trivial⟩ r3
         try dsimp only [List.map, stCells, List.length_cons, List.length_nil, Nat.reduceAdd, List.drop_succ_cons, List.drop_zero, List.drop_nil, List.take_succ_cons, List.take_zero, List.take_nil, List.cons_append, List.nil_append, zCF] at hS
         refine then_n ?_
         refine wp_ret ?_
         refine then_r ?_
         refine block_r ?_
         refine then_r ?_
         refine then_r ?_
         refine block_r ?_
         refine then_r ?_
         refine ret_P hfr hS rfl (.cell (n := 101) (ag := true) (sz := 4) rfl .is rfl (by kernel_rfl) (by kernel_rfl) (by kernel_rfl) (.tmp rfl .nil)) (.two (.aggU rfl (by rw [hr] <;> rfl)) (.int (by rw [hr])))
        ·skip
         have hzi : (readR (nth P i)).2 = 0 := by simpa using hc16
         refine wp_skip ?_
         refine then_n ?_
         refine region_seq hS (by kernel_rfl)
           (cF rfl (o_move .t (by rfl)) r1 trivial
           (cF rfl (o_move .t (by rfl)) r1 trivial
           (cF rfl (o_buildSliceE (sz := 1) (zs := [.int .i64 0]) (r := [(0, .tmp 126)]) (l := [_]) Tryz.underlying25 (by kernel_rfl) (by kernel_rfl) (by kernel_rfl) (by kernel_rfl) rfl rfl (.one rfl .t one_int (by kernel_rfl) .nil) rfl) r1 trivial
           (cF rfl (o_append (sz := 1) (bs := 8) 50 (.mk' Tryz.underlying25 (by kernel_rfl) (by kernel_rfl)) (by intro x; rfl) .is (.arr (l' := [(readR (nth P i)).1]) .t) (by simp only [List.length_cons, List.length_nil, List.length_take]; unfold valsR; rw [List.length_map]; omega) (by decide)) ⟨rfl, rfl, trivial⟩ ⟨rfl, trivial⟩
           (cF rfl (o_assign .t (by rfl)) r1 trivial
           Chain.nil)))))
           (by kernel_rfl) (by rw [hB]; kernel_rfl) ?_
         clear hS; intro a w F hS
         replace hS := hS.sub
         obtain ⟨F, hS⟩ := hS.norm [(0, _), (2, _), (7, _), (9, _), (10, _), (11, _), (110, _), (111, _), (112, _), (113, _), (114, _), (115, _), (116, _), (117, _), (118, _), (119, _), (120, _), (121, _), (122, _), (125, _), (126, _), (127, _), (128, _)] [(0, _), (50, _), (101, _)] ⟨rfl, rfl, rfl, rfl, rfl, rfl, rfl, rfl, rfl, rfl, rfl, rfl, rfl, rfl, rfl, rfl, rfl, rfl, rfl, rfl, rfl, rfl, rfl, trivial⟩ r3
         try dsimp only [RS.sub, SF.sub, CF.sub, csub, Anc.sub, List.map, stCells, List.length_cons, List.length_nil, Nat.reduceAdd, List.drop_succ_cons, List.drop_zero, List.drop_nil, List.take_succ_cons, List.take_zero, List.take_nil, List.cons_append, List.nil_append, zCF] at hS
         generalize Act.tau a 128 = v128 at hS
         refine block_n ?_
         refine then_n ?_
         refine region_seq hS (by kernel_rfl)
           (cF rfl (o_add .t (.ci (by kernel_rfl))) r1 trivial
           (cF rfl (o_move .t (by rfl)) r1 trivial
           Chain.nil))
           (by kernel_rfl) (by rw [hB]; kernel_rfl) ?_
         clear hS; intro a w F hS
         obtain ⟨F, hS⟩ := hS.norm [(0, _), (2, _), (7, _), (9, _), (10, _), (11, _), (110, _), (111, _), (112, _), (113, _), (114, _), (115, _), (116, _), (117, _), (118, _), (119, _), (120, _), (121, _), (122, _), (125, _), (126, _), (127, _), (128, _), (129, _)] [(0, _), (50, _), (101, _)] ⟨rfl, rfl, rfl, rfl, rfl, rfl, rfl, rfl, rfl, rfl, rfl, rfl, rfl, rfl, rfl, rfl, rfl, rfl, rfl, rfl, rfl, rfl, rfl, rfl, trivial⟩ r3
         refine then_n ?_
         rw [show (valsR P).take i ++ [(readR (nth P i)).1] = (valsR P).take (i + 1) from map_take_next (f := fun x => (readR x).1) (by omega)] at hS
         replace hS := hS.ent (i := 112) (s' := .pv (.int .i64 ((i + 1 : Nat) : Int))) rfl (.int (wrap_succ (by omega)))
         obtain ⟨F, hS⟩ := hS.norm [(0, _), (2, _), (7, _), (110, _), (111, _), (112, _)] [(0, _), (50, _), (101, _)] r6 r3
         exact ⟨(i + 1, v128), F, ⟨by dsimp only; omega, fun j hj => (Nat.lt_or_ge j i).elim (hz j) (fun h1 => (show i = j by dsimp only at hj; omega) ▸ hzi)⟩, hS, by dsimp only; omega⟩
       ·skip
        have hiP : i = P.length := by have h9 := of_decide_eq_false hc15; omega
        have hbz := bad_none (l := P) (fun j hj => hz j (by omega))
        rw [show (valsR P).take i = valsR P from List.take_of_length_le (by unfold valsR; rw [List.length_map]; omega)] at hS
        refine wp_exit ?_
        refine then_x ?_
        refine then_x ?_
        refine block_x ?_
        refine then_n ?_
        refine wp_seq ?_
        refine region_any (by kernel_rfl) hS (by kernel_rfl)
          (cF rfl (o_move .t (by rfl)) r1 trivial
          (cF rfl (o_index_bs Tryz.underlying9 .t (.ci (by kernel_rfl)) (by decide) (by omega)) r1 trivial
          (cF rfl (o_eql .t (.ci (by kernel_rfl))) r1 trivial
          (cF rfl (o_move .t (by rfl)) r1 trivial
          (cF rfl (o_indexAddr_row (sz := 1) 50 (.mk Tryz.underlying25 (by kernel_rfl)) .is (.ci (by kernel_rfl)) (by decide) (by unfold valsR; rw [List.length_map]; omega) (by rfl)) r1 r1
          (cF rfl (o_load_row0 (ag := false) (sz' := 1) (sz := 1) 50 .t (by intro x; rfl) (by unfold valsR; rw [List.length_map]; omega) (by kernel_rfl) (by kernel_rfl) (by kernel_rfl)) r1 r1
          (cF rfl (o_build (r := [(0, .tmp 132), (1, .tmp 135)]) (zs := [.bool false, .int .i64 0, .int .i64 0, .int .i64 0]) (pl := [(0, 1), (1, 1), (2, 1), (3, 1)]) (by kernel_rfl) (by kernel_rfl) (.one rfl .t one_bool (by kernel_rfl) (.one rfl .t one_int (by kernel_rfl) .nil)) (by rfl)) r2 trivial
          (cF rfl (o_alloc (zs := [.bool false, .int .i64 0, .int .i64 0, .int .i64 0]) 104 (by kernel_rfl)) trivial trivial
          (cF rfl (o_storeA (sz := 4) 104 .same .t (by kernel_rfl) (by kernel_rfl) (by kernel_rfl)) r2 r1
          Chain.nil)))))))))
          (by kernel_rfl) (by rw [hB]; kernel_rfl) ?_
        clear hS; intro a w F hS
        replace hS := hS.sub
        obtain ⟨F, hS⟩ := hS.norm [(2, _), (7, _), (12, _)] [(0, _), (50, _), (101, _), (104, _)] r3 r4
        try dsimp only [RS.sub, SF.sub, CF.sub, csub, Anc.sub, List.map, stCells, List.length_cons, List.length_nil, Nat.reduceAdd, List.drop_succ_cons, List.drop_zero, List.drop_nil, List.take_succ_cons, List.take_zero, List.take_nil, List.cons_append, List.nil_append, zCF, ldSF] at hS
        generalize Act.tau a 12 = v12 at hS
        rw [show decide ((((nth s0 (Int.toNat 0)).toNat : Nat) : Int) = 114) = decide (nth s0 0 = 114) from byte_r _, hrn] at hS
        refine then_n ?_
        refine wp_seq ?_
        refine wp_seq ?_
        refine region_seq hS (by kernel_rfl)
          (cF rfl (o_fieldAddr (off := 0) 104 .is (by kernel_rfl) (by rfl)) r1 r1
          (cF rfl (o_load (ag := false) (sz := 1) 104 .adr (by kernel_rfl) (by kernel_rfl) (by kernel_rfl) (by rfl)) r1 r1
          Chain.nil))
          (by kernel_rfl) (by rw [hB]; kernel_rfl) ?_
        clear hS; intro a w F hS
        obtain ⟨F, hS⟩ := hS.norm [(2, _), (7, _), (12, _), (138, _)] [(0, _), (50, _), (101, _), (104, _)] r4 r4
        try dsimp only [List.map, List.drop_succ_cons, List.drop_zero, List.drop_nil, List.take_succ_cons, List.take_zero, List.take_nil, ldSF] at hS
        refine then_n ?_
        refine cond_b hS rfl (fun hc17 => ?_) (fun hc17 => ?_)
        ·skip
         refine wp_seq ?_
         refine region_seq hS (by kernel_rfl)
           (cF rfl (o_move .t (by rfl)) r1 trivial
           (cF rfl (o_indexAddr_row (sz := 1) 50 (.mk Tryz.underlying25 (by kernel_rfl)) .is (.ci (by kernel_rfl)) (by decide) (by unfold valsR; rw [List.length_map]; omega) (by rfl)) r1 r1
           (cF rfl (o_load_row0 (ag := false) (sz' := 1) (sz := 1) 50 .t (by intro x; rfl) (by unfold valsR; rw [List.length_map]; omega) (by kernel_rfl) (by kernel_rfl) (by kernel_rfl)) r1 r1
           (cF rfl (o_fieldAddr (off := 2) 104 .is (by kernel_rfl) (by rfl)) r1 r1
           (cF rfl (o_store1 104 .adr .t one_int (by kernel_rfl) (by kernel_rfl)) r2 r1
           Chain.nil)))))
           (by kernel_rfl) (by rw [hB]; kernel_rfl) ?_
         clear hS; intro a w F hS
         obtain ⟨F, hS⟩ := hS.norm [(2, _), (7, _), (12, _)] [(0, _), (50, _), (101, _), (104, _)] r3 r4
         try dsimp only [List.map, stCells, List.length_cons, List.length_nil, Nat.reduceAdd, List.drop_succ_cons, List.drop_zero, List.drop_nil, List.take_succ_cons, List.take_zero, List.take_nil, List.cons_append, List.nil_append, zCF, ldSF] at hS
         refine then_n ?_
         refine wp_seq ?_
         refine wp_seq ?_
         refine region_seq hS (by kernel_rfl)
           (cF rfl (o_move .t (by rfl)) r1 trivial
           (cF rfl (o_len_row 50 Tryz.underlying25 .is) r1 r1
           (cF rfl (o_eql .t (.ci (by kernel_rfl))) r1 trivial
           Chain.nil)))
           (by kernel_rfl) (by rw [hB]; kernel_rfl) ?_
         clear hS; intro a w F hS
         obtain ⟨F, hS⟩ := hS.norm [(2, _), (7, _), (12, _), (145, _)] [(0, _), (50, _), (101, _), (104, _)] r4 r4
         refine then_n ?_
         refine cond_b hS rfl (fun hc18 => ?_) (fun hc18 => ?_)
         ·skip
          have h3 : P.length = 3 := by have h9 := of_decide_eq_true hc18; unfold valsR at h9; rw [List.length_map] at h9; omega
          have hN2 := hN
          rw [hrn] at hN2
          have hdn := opR_nums hN2 hbz (o := ⟨true, nth (valsR P) 0, nth (valsR P) 1, nth (valsR P) 2⟩) (by unfold opMk; rfl)
          try dsimp only at hdn
          refine region_seq hS (by kernel_rfl)
            (cF rfl (o_move .t (by rfl)) r1 trivial
            (cF rfl (o_indexAddr_row (sz := 1) 50 (.mk Tryz.underlying25 (by kernel_rfl)) .is (.ci (by kernel_rfl)) (by decide) (by unfold valsR; rw [List.length_map]; omega) (by rfl)) r1 r1
            (cF rfl (o_load_row0 (ag := false) (sz' := 1) (sz := 1) 50 .t (by intro x; rfl) (by unfold valsR; rw [List.length_map]; omega) (by kernel_rfl) (by kernel_rfl) (by kernel_rfl)) r1 r1
            (cF rfl (o_fieldAddr (off := 3) 104 .is (by kernel_rfl) (by rfl)) r1 r1
            (cF rfl (o_store1 104 .adr .t one_int (by kernel_rfl) (by kernel_rfl)) r2 r1
            Chain.nil)))))
            (by kernel_rfl) (by rw [hB]; kernel_rfl) ?_
          clear hS; intro a w F hS
          obtain ⟨F, hS⟩ := hS.norm [(2, _), (7, _), (12, _)] [(0, _), (50, _), (101, _), (104, _)] r3 r4
          try dsimp only [List.map, stCells, List.length_cons, List.length_nil, Nat.reduceAdd, List.drop_succ_cons, List.drop_zero, List.drop_nil, List.take_succ_cons, List.take_zero, List.take_nil, List.cons_append, List.nil_append, zCF, ldSF] at hS
          refine then_n ?_
          refine wp_seq ?_
          refine region_seq hS (by kernel_rfl)
            (cF rfl (o_fieldAddr (off := 2) 104 .is (by kernel_rfl) (by rfl)) r1 r1
            (cF rfl (o_load (ag := false) (sz := 1) 104 .adr (by kernel_rfl) (by kernel_rfl) (by kernel_rfl) (by rfl)) r1 r1
            (cF rfl (o_eql .t (.ci (by kernel_rfl))) r1 trivial
            (cF rfl (o_move .t (by rfl)) r1 trivial
            (cF rfl (o_len_row 50 Tryz.underlying25 .is) r1 r1
            (cF rfl (o_eql .t (.ci (by kernel_rfl))) r1 trivial
            (cF rfl (o_neqB Tryz.underlying4 .t .t) r2 trivial
            Chain.nil)))))))
            (by kernel_rfl) (by rw [hB]; kernel_rfl) ?_
          clear hS; intro a w F hS
          obtain ⟨F, hS⟩ := hS.norm [(2, _), (12, _), (156, _)] [(0, _), (50, _), (101, _), (104, _)] r3 r4
          try dsimp only [List.map, List.drop_succ_cons, List.drop_zero, List.drop_nil, List.take_succ_cons, List.take_zero, List.take_nil, ldSF] at hS
          refine then_n ?_
          refine cond_b hS rfl (fun hc19 => ?_) (fun hc19 => ?_)
          ·skip
           have hlv : (valsR P).length = P.length := by unfold valsR; rw [List.length_map]
           rw [hlv, len_two, bne_iff_ne] at hc19
           have hr : opR s0 = (noOp, 5) := by rw [hdn, if_pos ⟨rfl, hc19⟩]
           refine wp_seq ?_
           refine region_seq hS (by kernel_rfl)
             (cF rfl (o_build (r := []) (zs := [.bool false, .int .i64 0, .int .i64 0, .int .i64 0]) (pl := [(0, 1), (1, 1), (2, 1), (3, 1)]) (by kernel_rfl) (by kernel_rfl) .nil (by rfl)) trivial trivial
             (cF rfl (o_storeA (sz := 4) 101 .is .t (by kernel_rfl) (by kernel_rfl) (by kernel_rfl)) r2 r1
             (cF rfl (o_assign (.ci (by kernel_rfl)) (by rfl)) trivial trivial
             Chain.nil)))
             (by kernel_rfl) (by rw [hB]; kernel_rfl) ?_
           clear hS; intro a w F hS
           obtain ⟨F, hS⟩ := hS.norm [(2, _), (3, _), (12, _)] [(0, _), (50, _), (101, _), (104, _)] r3 r4
           try dsimp only [List.map, stCells, List.length_cons, List.length_nil, Nat.reduceAdd, List.drop_succ_cons, List.drop_zero, List.drop_nil, List.take_succ_cons, List.take_zero, List.take_nil, List.cons_append, List.nil_append, zCF] at hS
           refine then_n ?_
           refine wp_ret ?_
           refine then_r ?_
           refine ret_P hfr hS rfl (.cell (n := 101) (ag := true) (sz := 4) rfl .is rfl (by kernel_rfl) (by kernel_rfl) (by kernel_rfl) (.tmp rfl .nil)) (.two (.aggU rfl (by rw [hr] <;> rfl)) (.int (by rw [hr])))
          ·skip
           have hlv : (valsR P).length = P.length := by unfold valsR; rw [List.length_map]
           rw [hlv, len_two] at hc19
           rw [if_neg (fun hx => by exact Bool.noConfusion ((bne_iff_ne.2 hx.2).symm.trans hc19))] at hdn
           refine wp_skip ?_
           refine then_n ?_
           refine wp_seq ?_
           refine wp_seq ?_
           refine region_seq hS (by kernel_rfl)
             (cF rfl (o_load (ag := true) (sz := 4) 104 .is (by kernel_rfl) (by kernel_rfl) (by kernel_rfl) (by rfl)) r1 r1
             (cF rfl (o_callP (refOpRight_c ⟨true, nth (valsR P) 0, nth (valsR P) 1, nth (valsR P) 2⟩) Tryz.func33 rfl (by kernel_rfl) (Args.one (.pagg .t))) r1 trivial
             (cF rfl (o_not .t) r1 trivial
             Chain.nil)))
             (by kernel_rfl) (by rw [hB]; kernel_rfl) ?_
           clear hS; intro a w F hS
           obtain ⟨F, hS⟩ := hS.norm [(2, _), (12, _), (160, _)] [(0, _), (50, _), (101, _), (104, _)] r3 r4
           try dsimp only [List.map, List.drop_succ_cons, List.drop_zero, List.drop_nil, List.take_succ_cons, List.take_zero, List.take_nil, ldSF] at hS
           refine then_n ?_
           refine cond_b hS rfl (fun hc20 => ?_) (fun hc20 => ?_)
           ·skip
            have hr : opR s0 = (noOp, 1) := by rw [hdn]; exact if_neg (by simpa using hc20)
            refine wp_seq ?_
            refine region_seq hS (by kernel_rfl)
              (cF rfl (o_build (r := []) (zs := [.bool false, .int .i64 0, .int .i64 0, .int .i64 0]) (pl := [(0, 1), (1, 1), (2, 1), (3, 1)]) (by kernel_rfl) (by kernel_rfl) .nil (by rfl)) trivial trivial
              (cF rfl (o_storeA (sz := 4) 101 .is .t (by kernel_rfl) (by kernel_rfl) (by kernel_rfl)) r2 r1
              (cF rfl (o_assign (.ci (by kernel_rfl)) (by rfl)) trivial trivial
              Chain.nil)))
              (by kernel_rfl) (by rw [hB]; kernel_rfl) ?_
            clear hS; intro a w F hS
            obtain ⟨F, hS⟩ := hS.norm [(2, _), (3, _), (12, _)] [(0, _), (50, _), (101, _), (104, _)] r3 r4
            try dsimp only [List.map, stCells, List.length_cons, List.length_nil, Nat.reduceAdd, List.drop_succ_cons, List.drop_zero, List.drop_nil, List.take_succ_cons, List.take_zero, List.take_nil, List.cons_append, List.nil_append, zCF] at hS
            refine then_n ?_
            refine wp_ret ?_
            refine then_r ?_
            refine ret_P hfr hS rfl (.cell (n := 101) (ag := true) (sz := 4) rfl .is rfl (by kernel_rfl) (by kernel_rfl) (by kernel_rfl) (.tmp rfl .nil)) (.two (.aggU rfl (by rw [hr] <;> rfl)) (.int (by rw [hr])))
           ·skip
            have hr : opR s0 = (⟨true, nth (valsR P) 0, nth (valsR P) 1, nth (valsR P) 2⟩, 0) := by rw [hdn]; exact if_pos (by simpa using hc20)
            refine wp_skip ?_
            refine then_n ?_
            refine wp_seq ?_
            refine region_seq hS (by kernel_rfl)
              (cF rfl (o_load (ag := true) (sz := 4) 104 .is (by kernel_rfl) (by kernel_rfl) (by kernel_rfl) (by rfl)) r1 r1
              (cF rfl (o_storeA (sz := 4) 101 .is .t (by kernel_rfl) (by kernel_rfl) (by kernel_rfl)) r2 r1
              (cF rfl (o_assign (.ci (by kernel_rfl)) (by rfl)) trivial trivial
              Chain.nil)))
              (by kernel_rfl) (by rw [hB]; kernel_rfl) ?_
            clear hS; intro a w F hS
            obtain ⟨F, hS⟩ := hS.norm [(2, _), (3, _)] [(0, _), (50, _), (101, _)] r2 r3
            try dsimp only [List.map, stCells, List.length_cons, List.length_nil, Nat.reduceAdd, List.drop_succ_cons, List.drop_zero, List.drop_nil, List.take_succ_cons, List.take_zero, List.take_nil, List.cons_append, List.nil_append, zCF, ldSF] at hS
            refine then_n ?_
            refine wp_ret ?_
            refine ret_P hfr hS rfl (.cell (n := 101) (ag := true) (sz := 4) rfl .is rfl (by kernel_rfl) (by kernel_rfl) (by kernel_rfl) (.tmp rfl .nil)) (.two (.aggU rfl (by rw [hr] <;> rfl)) (.int (by rw [hr])))
         ·skip
          have h3 : P.length = 2 := by have h9 := of_decide_eq_false hc18; unfold valsR at h9; rw [List.length_map] at h9; omega
          have z2 : nth (valsR P) 2 = 0 := by rw [vals_nth, if_neg (by omega)]
          have hN2 := hN
          rw [hrn] at hN2
          have hdn := opR_nums hN2 hbz (o := ⟨true, nth (valsR P) 0, nth (valsR P) 1, 0⟩) (by unfold opMk; rw [z2])
          try dsimp only at hdn
          refine wp_skip ?_
          refine then_n ?_
          refine wp_seq ?_
          refine region_seq hS (by kernel_rfl)
            (cF rfl (o_fieldAddr (off := 2) 104 .is (by kernel_rfl) (by rfl)) r1 r1
            (cF rfl (o_load (ag := false) (sz := 1) 104 .adr (by kernel_rfl) (by kernel_rfl) (by kernel_rfl) (by rfl)) r1 r1
            (cF rfl (o_eql .t (.ci (by kernel_rfl))) r1 trivial
            (cF rfl (o_move .t (by rfl)) r1 trivial
            (cF rfl (o_len_row 50 Tryz.underlying25 .is) r1 r1
            (cF rfl (o_eql .t (.ci (by kernel_rfl))) r1 trivial
            (cF rfl (o_neqB Tryz.underlying4 .t .t) r2 trivial
            Chain.nil)))))))
            (by kernel_rfl) (by rw [hB]; kernel_rfl) ?_
          clear hS; intro a w F hS
          obtain ⟨F, hS⟩ := hS.norm [(2, _), (12, _), (156, _)] [(0, _), (50, _), (101, _), (104, _)] r3 r4
          try dsimp only [List.map, List.drop_succ_cons, List.drop_zero, List.drop_nil, List.take_succ_cons, List.take_zero, List.take_nil, ldSF] at hS
          refine then_n ?_
          refine cond_b hS rfl (fun hc21 => ?_) (fun hc21 => ?_)
          ·skip
           have hlv : (valsR P).length = P.length := by unfold valsR; rw [List.length_map]
           rw [hlv, len_two, bne_iff_ne] at hc21
           have hr : opR s0 = (noOp, 5) := by rw [hdn, if_pos ⟨rfl, hc21⟩]
           refine wp_seq ?_
           refine region_seq hS (by kernel_rfl)
             (cF rfl (o_build (r := []) (zs := [.bool false, .int .i64 0, .int .i64 0, .int .i64 0]) (pl := [(0, 1), (1, 1), (2, 1), (3, 1)]) (by kernel_rfl) (by kernel_rfl) .nil (by rfl)) trivial trivial
             (cF rfl (o_storeA (sz := 4) 101 .is .t (by kernel_rfl) (by kernel_rfl) (by kernel_rfl)) r2 r1
             (cF rfl (o_assign (.ci (by kernel_rfl)) (by rfl)) trivial trivial
             Chain.nil)))
             (by kernel_rfl) (by rw [hB]; kernel_rfl) ?_
           clear hS; intro a w F hS
           obtain ⟨F, hS⟩ := hS.norm [(2, _), (3, _), (12, _)] [(0, _), (50, _), (101, _), (104, _)] r3 r4
           try dsimp only [List.map, stCells, List.length_cons, List.length_nil, Nat.reduceAdd, List.drop_succ_cons, List.drop_zero, List.drop_nil, List.take_succ_cons, List.take_zero, List.take_nil, List.cons_append, List.nil_append, zCF] at hS
           refine then_n ?_
           refine wp_ret ?_
           refine then_r ?_
           refine ret_P hfr hS rfl (.cell (n := 101) (ag := true) (sz := 4) rfl .is rfl (by kernel_rfl) (by kernel_rfl) (by kernel_rfl) (.tmp rfl .nil)) (.two (.aggU rfl (by rw [hr] <;> rfl)) (.int (by rw [hr])))
          ·skip
           have hlv : (valsR P).length = P.length := by unfold valsR; rw [List.length_map]
           rw [hlv, len_two] at hc21
           rw [if_neg (fun hx => by exact Bool.noConfusion ((bne_iff_ne.2 hx.2).symm.trans hc21))] at hdn
           refine wp_skip ?_
           refine then_n ?_
           refine wp_seq ?_
           refine wp_seq ?_
           refine region_seq hS (by kernel_rfl)
             (cF rfl (o_load (ag := true) (sz := 4) 104 .is (by kernel_rfl) (by kernel_rfl) (by kernel_rfl) (by rfl)) r1 r1
             (cF rfl (o_callP (refOpRight_c ⟨true, nth (valsR P) 0, nth (valsR P) 1, 0⟩) Tryz.func33 rfl (by kernel_rfl) (Args.one (.pagg .t))) r1 trivial
             (cF rfl (o_not .t) r1 trivial
             Chain.nil)))
             (by kernel_rfl) (by rw [hB]; kernel_rfl) ?_
           clear hS; intro a w F hS
           obtain ⟨F, hS⟩ := hS.norm [(2, _), (12, _), (160, _)] [(0, _), (50, _), (101, _), (104, _)] r3 r4
           try dsimp only [List.map, List.drop_succ_cons, List.drop_zero, List.drop_nil, List.take_succ_cons, List.take_zero, List.take_nil, ldSF] at hS
           refine then_n ?_
           refine cond_b hS rfl (fun hc22 => ?_) (fun hc22 => ?_)
           ·skip
            have hr : opR s0 = (noOp, 1) := by rw [hdn]; exact if_neg (by simpa using hc22)
            refine wp_seq ?_
            refine region_seq hS (by kernel_rfl)
              (cF rfl (o_build (r := []) (zs := [.bool false, .int .i64 0, .int .i64 0, .int .i64 0]) (pl := [(0, 1), (1, 1), (2, 1), (3, 1)]) (by kernel_rfl) (by kernel_rfl) .nil (by rfl)) trivial trivial
              (cF rfl (o_storeA (sz := 4) 101 .is .t (by kernel_rfl) (by kernel_rfl) (by kernel_rfl)) r2 r1
              (cF rfl (o_assign (.ci (by kernel_rfl)) (by rfl)) trivial trivial
              Chain.nil)))
              (by kernel_rfl) (by rw [hB]; kernel_rfl) ?_
            clear hS; intro a w F hS
            obtain ⟨F, hS⟩ := hS.norm [(2, _), (3, _), (12, _)] [(0, _), (50, _), (101, _), (104, _)] r3 r4
            try dsimp only [List.map, stCells, List.length_cons, List.length_nil, Nat.reduceAdd, List.drop_succ_cons, List.drop_zero, List.drop_nil, List.take_succ_cons, List.take_zero, List.take_nil, List.cons_append, List.nil_append, zCF] at hS
            refine then_n ?_
            refine wp_ret ?_
            refine then_r ?_
            refine ret_P hfr hS rfl (.cell (n := 101) (ag := true) (sz := 4) rfl .is rfl (by kernel_rfl) (by kernel_rfl) (by kernel_rfl) (.tmp rfl .nil)) (.two (.aggU rfl (by rw [hr] <;> rfl)) (.int (by rw [hr])))
           ·skip
            have hr : opR s0 = (⟨true, nth (valsR P) 0, nth (valsR P) 1, 0⟩, 0) := by rw [hdn]; exact if_pos (by simpa using hc22)
            refine wp_skip ?_
            refine then_n ?_
            refine wp_seq ?_
            refine region_seq hS (by kernel_rfl)
              (cF rfl (o_load (ag := true) (sz := 4) 104 .is (by kernel_rfl) (by kernel_rfl) (by kernel_rfl) (by rfl)) r1 r1
              (cF rfl (o_storeA (sz := 4) 101 .is .t (by kernel_rfl) (by kernel_rfl) (by kernel_rfl)) r2 r1
              (cF rfl (o_assign (.ci (by kernel_rfl)) (by rfl)) trivial trivial
              Chain.nil)))
              (by kernel_rfl) (by rw [hB]; kernel_rfl) ?_
            clear hS; intro a w F hS
            obtain ⟨F, hS⟩ := hS.norm [(2, _), (3, _)] [(0, _), (50, _), (101, _)] r2 r3
            try dsimp only [List.map, stCells, List.length_cons, List.length_nil, Nat.reduceAdd, List.drop_succ_cons, List.drop_zero, List.drop_nil, List.take_succ_cons, List.take_zero, List.take_nil, List.cons_append, List.nil_append, zCF, ldSF] at hS
            refine then_n ?_
            refine wp_ret ?_
            refine ret_P hfr hS rfl (.cell (n := 101) (ag := true) (sz := 4) rfl .is rfl (by kernel_rfl) (by kernel_rfl) (by kernel_rfl) (.tmp rfl .nil)) (.two (.aggU rfl (by rw [hr] <;> rfl)) (.int (by rw [hr])))
        ·skip
         exact absurd hc17 (by decide)
   ·skip
    have hrn : decide (nth s0 0 = 114) = false := by rw [← byte_r]; exact hc1
    have hb : nth s0 0 ≠ 114 := of_decide_eq_false hrn
    refine wp_skip ?_
    refine then_n ?_
    refine wp_seq ?_
    refine wp_seq ?_
    refine region_seq hS (by kernel_rfl)
      (cF rfl (o_move .t (by rfl)) r1 trivial
      (cF rfl (o_move .t (by rfl)) r1 trivial
      (cF rfl (o_len_bs Tryz.underlying9 .t) r1 trivial
      (cF rfl (o_lss .t .t) r2 trivial
      Chain.nil))))
      (by kernel_rfl) (by rw [hB]; kernel_rfl) ?_
    clear hS; intro a w F hS
    obtain ⟨F, hS⟩ := hS.norm [(0, _), (2, _), (3, _), (5, _), (108, _)] [(0, _), (101, _), (102, _)] r5 r3
    refine then_n ?_
    refine cond_b hS rfl (fun hc23 => ?_) (fun hc23 => ?_)
    ·skip
     have h9 := of_decide_eq_true hc23
     have hr : opR s0 = (noOp, 5) := opR_none (fW' (fun hx => by rw [← q1, drop_nil] at hx; omega) hb)
     refine wp_seq ?_
     refine region_seq hS (by kernel_rfl)
       (cF rfl (o_build (r := []) (zs := [.bool false, .int .i64 0, .int .i64 0, .int .i64 0]) (pl := [(0, 1), (1, 1), (2, 1), (3, 1)]) (by kernel_rfl) (by kernel_rfl) .nil (by rfl)) trivial trivial
       (cF rfl (o_storeA (sz := 4) 101 .is .t (by kernel_rfl) (by kernel_rfl) (by kernel_rfl)) r2 r1
       (cF rfl (o_assign (.ci (by kernel_rfl)) (by rfl)) trivial trivial
       Chain.nil)))
       (by kernel_rfl) (by rw [hB]; kernel_rfl) ?_
     clear hS; intro a w F hS
     obtain ⟨F, hS⟩ := hS.norm [(0, _), (2, _), (3, _), (5, _)] [(0, _), (101, _), (102, _)] r4 r3
     try dsimp only [List.map, stCells, List.length_cons, List.length_nil, Nat.reduceAdd, List.drop_succ_cons, List.drop_zero, List.drop_nil, List.take_succ_cons, List.take_zero, List.take_nil, List.cons_append, List.nil_append, zCF] at hS
     refine then_n ?_
     refine wp_ret ?_
     refine then_r ?_
     refine ret_P hfr hS rfl (.cell (n := 101) (ag := true) (sz := 4) rfl .is rfl (by kernel_rfl) (by kernel_rfl) (by kernel_rfl) (.tmp rfl .nil)) (.two (.aggU rfl (by rw [hr] <;> rfl)) (.int (by rw [hr])))
    ·skip
     have h9 := of_decide_eq_false hc23
     have hfm : opForm (nth s0 0) (s0.drop 1) = some [((s0.drop 1).takeWhile digit)] := fW (by rw [← q1]; exact drop_nil.2 (by omega)) ht0 hb
     refine wp_skip ?_
     refine then_n ?_
     refine wp_seq ?_
     refine region_seq hS (by kernel_rfl)
       (cF rfl (o_assign (.c rfl) (by rfl)) trivial trivial
       Chain.nil)
       (by kernel_rfl) (by rw [hB]; kernel_rfl) ?_
     clear hS; intro a w F hS
     obtain ⟨F, hS⟩ := hS.norm [(0, _), (2, _), (3, _), (5, _), (7, _)] [(0, _), (101, _), (102, _)] r5 r3
     refine then_n ?_
     refine wp_seq ?_
     refine wp_seq ?_
     obtain ⟨P, hP, hform, hPl, hPs⟩ : ∃ P, [((s0.drop 1).takeWhile digit)] = P ∧ opForm (nth s0 0) (s0.drop 1) = some P ∧ (1 ≤ P.length ∧ P.length ≤ 3 ∧ P.length = 1) ∧ ∀ x ∈ P, x.length ≤ s0.length := ⟨_, rfl, hfm, ⟨by simp, by simp, by rfl⟩, form_ok ⟨_, [], [], .inl rfl, tw_len, Nat.zero_le _, Nat.zero_le _⟩⟩
     have hN := opR_form hh hform
     rw [hP] at hS
     obtain ⟨F, hS⟩ := hS.give 102 5 rfl rfl
     obtain ⟨F, hS⟩ := hS.norm [(0, _), (2, _), (3, _), (5, _), (7, _)] [(0, _), (101, _)] r5 r2
     refine region_seq hS (by kernel_rfl)
       (cF rfl (o_move .t (by rfl)) r1 trivial
       (cF rfl (o_len_sl Tryz.underlying40 .t) r1 trivial
       (cF rfl (o_move (.ci (by kernel_rfl)) (by rfl)) trivial trivial
       Chain.nil)))
       (by kernel_rfl) (by rw [hB]; kernel_rfl) ?_
     clear hS; intro a w F hS
     obtain ⟨F, hS⟩ := hS.norm [(0, _), (2, _), (3, _), (7, _), (110, _), (111, _), (112, _)] [(0, _), (101, _)] r7 r2
     refine then_n ?_
     refine wp_block ?_
     replace hS := hS.fresh 50 rfl
     replace hS := hS.turn 50 rfl (nilRow (T := 3) (sz := 1) (R := rInt))
     obtain ⟨F, hS⟩ := hS.norm [(0, _), (2, _), (7, _), (110, _), (111, _), (112, _)] [(0, _), (50, _), (101, _)] r6 r3
     refine loop_inv (σ := (Nat × Value)) (fun s => (⟨[(0, .pv (.bs s0)), (2, .pv (.is v2)), (7, .pv (.is s.2)), (110, .pv (.sl rS P)), (111, .pv (.int .i64 (P.length : Nat))), (112, .pv (.int .i64 (s.1 : Nat)))], [(0, frame B), (50, .ob (.val s.2) (rowH 3 1 rInt ((valsR P).take s.1))), (101, .pt (.val v2) 59 [.pv (.bool false), .pv (.int .i64 0), .pv (.int .i64 0), .pv (.int .i64 0)])]⟩ : En)) (fun s => s.1 ≤ P.length ∧ ∀ j, j < s.1 → (readR (nth P j)).2 = 0) (fun s => P.length - s.1) (0, .slice none 0 0) hS ⟨Nat.zero_le _, fun j hj => absurd hj (Nat.not_lt_zero _)⟩ ?_
     clear hS; intro s a w F hC hS
     obtain ⟨i, v⟩ := s
     try dsimp only at hC
     try dsimp only at hS
     obtain ⟨hi0, hz⟩ := hC
     try dsimp only at hi0 hz
     refine wp_seq ?_
     refine region_seq hS (by kernel_rfl)
       (cF rfl (o_lss .t .t) r2 trivial
       Chain.nil)
       (by kernel_rfl) (by rw [hB]; kernel_rfl) ?_
     clear hS; intro a w F hS
     obtain ⟨F, hS⟩ := hS.norm [(0, _), (2, _), (7, _), (110, _), (111, _), (112, _), (113, _)] [(0, _), (50, _), (101, _)] r7 r3
     refine then_n ?_
     refine wp_seq ?_
     refine cond_b hS rfl (fun hc24 => ?_) (fun hc24 => ?_)
     ·skip
      have hi : i < P.length := by have h9 := of_decide_eq_true hc24; omega
      refine wp_skip ?_
      refine then_n ?_
      refine wp_seq ?_
      refine wp_block ?_
      refine wp_seq ?_
      refine region_seq hS (by kernel_rfl)
        (cF rfl (o_indexAddr_sl (sz := 1) (.mk Tryz.underlying40 (by kernel_rfl)) (by intro x; rfl) .t .t (by omega) (by omega)) r2 trivial
        (cF rfl (o_load_ref (ag := false) (sz := 1) .t (by kernel_rfl) (by kernel_rfl) (by kernel_rfl)) r1 trivial
        (cF rfl (o_assign .t (by rfl)) r1 trivial
        Chain.nil)))
        (by kernel_rfl) (by rw [hB]; kernel_rfl) ?_
      clear hS; intro a w F hS
      obtain ⟨F, hS⟩ := hS.norm [(0, _), (2, _), (7, _), (9, _), (110, _), (111, _), (112, _), (113, _), (114, _), (115, _)] [(0, _), (50, _), (101, _)] ⟨rfl, rfl, rfl, rfl, rfl, rfl, rfl, rfl, rfl, rfl, trivial⟩ r3
      try dsimp only [List.map, List.drop_succ_cons, List.drop_zero, List.drop_nil, List.take_succ_cons, List.take_zero, List.take_nil, ldSF] at hS
      rw [Int.toNat_natCast] at hS
      refine then_n ?_
      refine wp_seq ?_
      refine region_seq hS (by kernel_rfl)
        (cF rfl (o_move .t (by rfl)) r1 trivial
        (cF rfl (o_callP (refRead_c (nth P i) (by have h9 := hPs _ (nth_mem hi); omega)) Tryz.func49 rfl (by kernel_rfl) (Args.one .t)) r1 trivial
        (cF rfl (o_move .t (by rfl)) r1 trivial
        (cF rfl (o_extract .t rfl) r1 trivial
        (cF rfl (o_extract .t rfl) r1 trivial
        (cF rfl (o_assign .t (by rfl)) r1 trivial
        (cF rfl (o_assign .t (by rfl)) r1 trivial
        Chain.nil)))))))
        (by kernel_rfl) (by rw [hB]; kernel_rfl) ?_
      clear hS; intro a w F hS
      obtain ⟨F, hS⟩ := hS.norm [(0, _), (2, _), (7, _), (9, _), (10, _), (11, _), (110, _), (111, _), (112, _), (113, _), (114, _), (115, _), (116, _), (117, _), (118, _), (119, _), (120, _)] [(0, _), (50, _), (101, _)] ⟨rfl, rfl, rfl, rfl, rfl, rfl, rfl, rfl, rfl, rfl, rfl, rfl, rfl, rfl, rfl, rfl, rfl, trivial⟩ r3
      refine then_n ?_
      refine wp_seq ?_
      refine wp_seq ?_
      refine region_seq hS (by kernel_rfl)
        (cF rfl (o_move .t (by rfl)) r1 trivial
        (cF rfl (o_neq .t (.ci (by kernel_rfl))) r1 trivial
        Chain.nil))
        (by kernel_rfl) (by rw [hB]; kernel_rfl) ?_
      clear hS; intro a w F hS
      obtain ⟨F, hS⟩ := hS.norm [(0, _), (2, _), (7, _), (9, _), (10, _), (11, _), (110, _), (111, _), (112, _), (113, _), (114, _), (115, _), (116, _), (117, _), (118, _), (119, _), (120, _), (121, _), (122, _)] [(0, _), (50, _), (101, _)] ⟨rfl, rfl, rfl, rfl, rfl, rfl, rfl, rfl, rfl, rfl, rfl, rfl, rfl, rfl, rfl, rfl, rfl, rfl, rfl, trivial⟩ r3
      refine then_n ?_
      refine cond_b hS rfl (fun hc25 => ?_) (fun hc25 => ?_)
      ·skip
       have hr := opR_badn hN hi hz (by simpa using hc25)
       refine wp_seq ?_
       refine region_seq hS (by kernel_rfl)
         (cF rfl (o_build (r := []) (zs := [.bool false, .int .i64 0, .int .i64 0, .int .i64 0]) (pl := [(0, 1), (1, 1), (2, 1), (3, 1)]) (by kernel_rfl) (by kernel_rfl) .nil (by rfl)) trivial trivial
         (cF rfl (o_move .t (by rfl)) r1 trivial
         (cF rfl (o_storeA (sz := 4) 101 .is .t (by kernel_rfl) (by kernel_rfl) (by kernel_rfl)) r2 r1
         (cF rfl (o_assign .t (by rfl)) r1 trivial
         Chain.nil))))
         (by kernel_rfl) (by rw [hB]; kernel_rfl) ?_
       clear hS; intro a w F hS
       obtain ⟨F, hS⟩ := hS.norm [(0, _), (2, _), (3, _), (7, _), (9, _), (10, _), (11, _), (110, _), (111, _), (112, _), (113, _), (114, _), (115, _), (116, _), (117, _), (118, _), (119, _), (120, _), (121, _), (122, _), (123, _), (124, _)] [(0, _), (50, _), (101, _)] ⟨rfl, rfl, rfl, rfl, rfl, rfl, rfl, rfl, rfl, rfl, rfl, rfl, rfl, rfl, rfl, rfl, rfl, rfl, rfl, rfl, rfl, rfl, trivial⟩ r3
       try dsimp only [List.map, stCells, List.length_cons, List.length_nil, Nat.reduceAdd, List.drop_succ_cons, List.drop_zero, List.drop_nil, List.take_succ_cons, List.take_zero, List.take_nil, List.cons_append, List.nil_append, zCF] at hS
       refine then_n ?_
       refine wp_ret ?_
       refine then_r ?_
       refine block_r ?_
       refine then_r ?_
       refine then_r ?_
       refine block_r ?_
       refine then_r ?_
       refine ret_P hfr hS rfl (.cell (n := 101) (ag := true) (sz := 4) rfl .is rfl (by kernel_rfl) (by kernel_rfl) (by kernel_rfl) (.tmp rfl .nil)) (.two (.aggU rfl (by rw [hr] <;> rfl)) (.int (by rw [hr])))
      ·skip
       have hzi : (readR (nth P i)).2 = 0 := by simpa using hc25
       refine wp_skip ?_
       refine then_n ?_
       refine region_seq hS (by kernel_rfl)
         (cF rfl (o_move .t (by rfl)) r1 trivial
         (cF rfl (o_move .t (by rfl)) r1 trivial
         (cF rfl (o_buildSliceE (sz := 1) (zs := [.int .i64 0]) (r := [(0, .tmp 126)]) (l := [_]) Tryz.underlying25 (by kernel_rfl) (by kernel_rfl) (by kernel_rfl) (by kernel_rfl) rfl rfl (.one rfl .t one_int (by kernel_rfl) .nil) rfl) r1 trivial
         (cF rfl (o_append (sz := 1) (bs := 8) 50 (.mk' Tryz.underlying25 (by kernel_rfl) (by kernel_rfl)) (by intro x; rfl) .is (.arr (l' := [(readR (nth P i)).1]) .t) (by simp only [List.length_cons, List.length_nil, List.length_take]; unfold valsR; rw [List.length_map]; omega) (by decide)) ⟨rfl, rfl, trivial⟩ ⟨rfl, trivial⟩
         (cF rfl (o_assign .t (by rfl)) r1 trivial
         Chain.nil)))))
         (by kernel_rfl) (by rw [hB]; kernel_rfl) ?_
       clear hS; intro a w F hS
       replace hS := hS.sub
       obtain ⟨F, hS⟩ := hS.norm [(0, _), (2, _), (7, _), (9, _), (10, _), (11, _), (110, _), (111, _), (112, _), (113, _), (114, _), (115, _), (116, _), (117, _), (118, _), (119, _), (120, _), (121, _), (122, _), (125, _), (126, _), (127, _), (128, _)] [(0, _), (50, _), (101, _)] ⟨rfl, rfl, rfl, rfl, rfl, rfl, rfl, rfl, rfl, rfl, rfl, rfl, rfl, rfl, rfl, rfl, rfl, rfl, rfl, rfl, rfl, rfl, rfl, trivial⟩ r3
       try dsimp only [RS.sub, SF.sub, CF.sub, csub, Anc.sub, List.map, stCells, List.length_cons, List.length_nil, Nat.reduceAdd, List.drop_succ_cons, List.drop_zero, List.drop_nil, List.take_succ_cons, List.take_zero, List.take_nil, List.cons_append, List.nil_append, zCF] at hS
       generalize Act.tau a 128 = v128 at hS
       refine block_n ?_
       refine then_n ?_
       refine region_seq hS (by kernel_rfl)
         (cF rfl (o_add .t (.ci (by kernel_rfl))) r1 trivial
         (cF rfl (o_move .t (by rfl)) r1 trivial
         Chain.nil))
         (by kernel_rfl) (by rw [hB]; kernel_rfl) ?_
       clear hS; intro a w F hS
       obtain ⟨F, hS⟩ := hS.norm [(0, _), (2, _), (7, _), (9, _), (10, _), (11, _), (110, _), (111, _), (112, _), (113, _), (114, _), (115, _), (116, _), (117, _), (118, _), (119, _), (120, _), (121, _), (122, _), (125, _), (126, _), (127, _), (128, _), (129, _)] [(0, _), (50, _), (101, _)] ⟨rfl, rfl, rfl, rfl, rfl, rfl, rfl, rfl, rfl, rfl, rfl, rfl, rfl, rfl, rfl, rfl, rfl, rfl, rfl, rfl, rfl, rfl, rfl, rfl, trivial⟩ r3
       refine then_n ?_
       rw [show (valsR P).take i ++ [(readR (nth P i)).1] = (valsR P).take (i + 1) from map_take_next (f := fun x => (readR x).1) (by omega)] at hS
       replace hS := hS.ent (i := 112) (s' := .pv (.int .i64 ((i + 1 : Nat) : Int))) rfl (.int (wrap_succ (by omega)))
       obtain ⟨F, hS⟩ := hS.norm [(0, _), (2, _), (7, _), (110, _), (111, _), (112, _)] [(0, _), (50, _), (101, _)] r6 r3
       exact ⟨(i + 1, v128), F, ⟨by dsimp only; omega, fun j hj => (Nat.lt_or_ge j i).elim (hz j) (fun h1 => (show i = j by dsimp only at hj; omega) ▸ hzi)⟩, hS, by dsimp only; omega⟩
     ·skip
      have hiP : i = P.length := by have h9 := of_decide_eq_false hc24; omega
      have hbz := bad_none (l := P) (fun j hj => hz j (by omega))
      rw [show (valsR P).take i = valsR P from List.take_of_length_le (by unfold valsR; rw [List.length_map]; omega)] at hS
      refine wp_exit ?_
      refine then_x ?_
      refine then_x ?_
      refine block_x ?_
      refine then_n ?_
      refine wp_seq ?_
      refine region_any (by kernel_rfl) hS (by kernel_rfl)
        (cF rfl (o_move .t (by rfl)) r1 trivial
        (cF rfl (o_index_bs Tryz.underlying9 .t (.ci (by kernel_rfl)) (by decide) (by omega)) r1 trivial
        (cF rfl (o_eql .t (.ci (by kernel_rfl))) r1 trivial
        (cF rfl (o_move .t (by rfl)) r1 trivial
        (cF rfl (o_indexAddr_row (sz := 1) 50 (.mk Tryz.underlying25 (by kernel_rfl)) .is (.ci (by kernel_rfl)) (by decide) (by unfold valsR; rw [List.length_map]; omega) (by rfl)) r1 r1
        (cF rfl (o_load_row0 (ag := false) (sz' := 1) (sz := 1) 50 .t (by intro x; rfl) (by unfold valsR; rw [List.length_map]; omega) (by kernel_rfl) (by kernel_rfl) (by kernel_rfl)) r1 r1
        (cF rfl (o_build (r := [(0, .tmp 132), (1, .tmp 135)]) (zs := [.bool false, .int .i64 0, .int .i64 0, .int .i64 0]) (pl := [(0, 1), (1, 1), (2, 1), (3, 1)]) (by kernel_rfl) (by kernel_rfl) (.one rfl .t one_bool (by kernel_rfl) (.one rfl .t one_int (by kernel_rfl) .nil)) (by rfl)) r2 trivial
        (cF rfl (o_alloc (zs := [.bool false, .int .i64 0, .int .i64 0, .int .i64 0]) 105 (by kernel_rfl)) trivial trivial
        (cF rfl (o_storeA (sz := 4) 105 .same .t (by kernel_rfl) (by kernel_rfl) (by kernel_rfl)) r2 r1
        Chain.nil)))))))))
        (by kernel_rfl) (by rw [hB]; kernel_rfl) ?_
      clear hS; intro a w F hS
      replace hS := hS.sub
      obtain ⟨F, hS⟩ := hS.norm [(2, _), (7, _), (12, _)] [(0, _), (50, _), (101, _), (105, _)] r3 r4
      try dsimp only [RS.sub, SF.sub, CF.sub, csub, Anc.sub, List.map, stCells, List.length_cons, List.length_nil, Nat.reduceAdd, List.drop_succ_cons, List.drop_zero, List.drop_nil, List.take_succ_cons, List.take_zero, List.take_nil, List.cons_append, List.nil_append, zCF, ldSF] at hS
      generalize Act.tau a 12 = v12 at hS
      rw [show decide ((((nth s0 (Int.toNat 0)).toNat : Nat) : Int) = 114) = decide (nth s0 0 = 114) from byte_r _, hrn] at hS
      refine then_n ?_
      refine wp_seq ?_
      refine wp_seq ?_
      refine region_seq hS (by kernel_rfl)
        (cF rfl (o_fieldAddr (off := 0) 105 .is (by kernel_rfl) (by rfl)) r1 r1
        (cF rfl (o_load (ag := false) (sz := 1) 105 .adr (by kernel_rfl) (by kernel_rfl) (by kernel_rfl) (by rfl)) r1 r1
        Chain.nil))
        (by kernel_rfl) (by rw [hB]; kernel_rfl) ?_
      clear hS; intro a w F hS
      obtain ⟨F, hS⟩ := hS.norm [(2, _), (7, _), (12, _), (138, _)] [(0, _), (50, _), (101, _), (105, _)] r4 r4
      try dsimp only [List.map, List.drop_succ_cons, List.drop_zero, List.drop_nil, List.take_succ_cons, List.take_zero, List.take_nil, ldSF] at hS
      refine then_n ?_
      refine cond_b hS rfl (fun hc26 => ?_) (fun hc26 => ?_)
      ·skip
       exact absurd hc26 (by decide)
      ·skip
       have z1 : nth (valsR P) 1 = 0 := by rw [vals_nth, if_neg (by omega)]
       have z2 : nth (valsR P) 2 = 0 := by rw [vals_nth, if_neg (by omega)]
       have hN2 := hN
       rw [hrn] at hN2
       have hdn := opR_nums hN2 hbz (o := ⟨false, nth (valsR P) 0, 0, 0⟩) (by unfold opMk; rw [z1, z2])
       try dsimp only at hdn
       refine wp_skip ?_
       refine then_n ?_
       refine wp_seq ?_
       refine wp_seq ?_
       refine region_seq hS (by kernel_rfl)
         (cF rfl (o_load (ag := true) (sz := 4) 105 .is (by kernel_rfl) (by kernel_rfl) (by kernel_rfl) (by rfl)) r1 r1
         (cF rfl (o_callP (refOpRight_c ⟨false, nth (valsR P) 0, 0, 0⟩) Tryz.func33 rfl (by kernel_rfl) (Args.one (.pagg .t))) r1 trivial
         (cF rfl (o_not .t) r1 trivial
         Chain.nil)))
         (by kernel_rfl) (by rw [hB]; kernel_rfl) ?_
       clear hS; intro a w F hS
       obtain ⟨F, hS⟩ := hS.norm [(2, _), (12, _), (160, _)] [(0, _), (50, _), (101, _), (105, _)] r3 r4
       try dsimp only [List.map, List.drop_succ_cons, List.drop_zero, List.drop_nil, List.take_succ_cons, List.take_zero, List.take_nil, ldSF] at hS
       refine then_n ?_
       refine cond_b hS rfl (fun hc27 => ?_) (fun hc27 => ?_)
       ·skip
        have hr : opR s0 = (noOp, 1) := by rw [hdn]; rw [if_neg (by rintro ⟨hx, _⟩; cases hx)]; exact if_neg (by simpa using hc27)
        refine wp_seq ?_
        refine region_seq hS (by kernel_rfl)
          (cF rfl (o_build (r := []) (zs := [.bool false, .int .i64 0, .int .i64 0, .int .i64 0]) (pl := [(0, 1), (1, 1), (2, 1), (3, 1)]) (by kernel_rfl) (by kernel_rfl) .nil (by rfl)) trivial trivial
          (cF rfl (o_storeA (sz := 4) 101 .is .t (by kernel_rfl) (by kernel_rfl) (by kernel_rfl)) r2 r1
          (cF rfl (o_assign (.ci (by kernel_rfl)) (by rfl)) trivial trivial
          Chain.nil)))
          (by kernel_rfl) (by rw [hB]; kernel_rfl) ?_
        clear hS; intro a w F hS
        obtain ⟨F, hS⟩ := hS.norm [(2, _), (3, _), (12, _)] [(0, _), (50, _), (101, _), (105, _)] r3 r4
        try dsimp only [List.map, stCells, List.length_cons, List.length_nil, Nat.reduceAdd, List.drop_succ_cons, List.drop_zero, List.drop_nil, List.take_succ_cons, List.take_zero, List.take_nil, List.cons_append, List.nil_append, zCF] at hS
        refine then_n ?_
        refine wp_ret ?_
        refine then_r ?_
        refine ret_P hfr hS rfl (.cell (n := 101) (ag := true) (sz := 4) rfl .is rfl (by kernel_rfl) (by kernel_rfl) (by kernel_rfl) (.tmp rfl .nil)) (.two (.aggU rfl (by rw [hr] <;> rfl)) (.int (by rw [hr])))
       ·skip
        have hr : opR s0 = (⟨false, nth (valsR P) 0, 0, 0⟩, 0) := by rw [hdn]; rw [if_neg (by rintro ⟨hx, _⟩; cases hx)]; exact if_pos (by simpa using hc27)
        refine wp_skip ?_
        refine then_n ?_
        refine wp_seq ?_
        refine region_seq hS (by kernel_rfl)
          (cF rfl (o_load (ag := true) (sz := 4) 105 .is (by kernel_rfl) (by kernel_rfl) (by kernel_rfl) (by rfl)) r1 r1
          (cF rfl (o_storeA (sz := 4) 101 .is .t (by kernel_rfl) (by kernel_rfl) (by kernel_rfl)) r2 r1
          (cF rfl (o_assign (.ci (by kernel_rfl)) (by rfl)) trivial trivial
          Chain.nil)))
          (by kernel_rfl) (by rw [hB]; kernel_rfl) ?_
        clear hS; intro a w F hS
        obtain ⟨F, hS⟩ := hS.norm [(2, _), (3, _)] [(0, _), (50, _), (101, _)] r2 r3
        try dsimp only [List.map, stCells, List.length_cons, List.length_nil, Nat.reduceAdd, List.drop_succ_cons, List.drop_zero, List.drop_nil, List.take_succ_cons, List.take_zero, List.take_nil, List.cons_append, List.nil_append, zCF, ldSF] at hS
        refine then_n ?_
        refine wp_ret ?_
        refine ret_P hfr hS rfl (.cell (n := 101) (ag := true) (sz := 4) rfl .is rfl (by kernel_rfl) (by kernel_rfl) (by kernel_rfl) (.tmp rfl .nil)) (.two (.aggU rfl (by rw [hr] <;> rfl)) (.int (by rw [hr])))

end Go.Proofs.YtjdcnjemhjldoaaGreatDoor
