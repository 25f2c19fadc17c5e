/- Text. No condition beyond those that each theorem says. -/
import Derived.Test.YtpjjmolibanakaaNu4
namespace Go.Proofs.Ytpjjmolibanakaa
open Go Go.Gm
set_option linter.unusedVariables false
set_option linter.unusedSimpArgs false
set_option maxHeartbeats 4000000
set_option maxRecDepth 8000


theorem digZ_len : ∀ (k u : Nat), u < 10 ^ k → (digZ u).length ≤ k
  | 0, u, h => by
    have : u = 0 := by simpa using h
    rw [this, digZ_0]; simp
  | k + 1, u, h => by
    by_cases h0 : u = 0
    · rw [h0, digZ_0]; simp
    · rw [digZ_pos h0]
      unfold digL
      have := digZ_len k (u / 10) (by rw [Nat.pow_succ] at h; omega)
      rw [List.length_append]
      simp only [List.length_cons, List.length_nil]
      omega
theorem digL_len {u : Nat} (h : u ≤ 18446744073709551615) : (digL u).length ≤ 20 := by
  have := digZ_len 19 (u / 10) (by omega)
  unfold digL
  rw [List.length_append]
  simp only [List.length_cons, List.length_nil]
  omega
theorem abs_u64 {n : Int} (h : -9223372036854775808 ≤ n ∧ n ≤ 9223372036854775807) : n.natAbs ≤ 18446744073709551615 := by omega
structure RefOk (u0 i x : Nat) (l : List UInt8) : Prop where
  hl : l.length = i
  hi : i ≤ 20
  hx : x < 10 ^ (20 - i)
  hb : x ≤ 18446744073709551615
  ok : (i = 0 ∧ x = u0 ∧ l = []) ∨ (0 < i ∧ (digZ x).map toB ++ l = (digL u0).map toB)
theorem RefOk.start {u0 : Nat} (h : u0 ≤ 18446744073709551615) : RefOk u0 0 u0 [] := ⟨rfl, by decide, by omega, h, .inl ⟨rfl, rfl, rfl⟩⟩
theorem RefOk.next {u0 i x : Nat} {l : List UInt8} (h : RefOk u0 i x l) (hc : i = 0 ∨ 0 < x) : RefOk u0 (i + 1) (x / 10) (toB ((48 + x % 10 : Nat) : Int) :: l) := by
  have hi := h.hi
  have hlt : i < 20 := by
    rcases hc with hc | hc
    · omega
    · rcases Nat.lt_or_ge i 20 with h1 | h1
      · exact h1
      · have := h.hx; rw [show 20 - i = 0 by omega] at this; omega
  refine ⟨by rw [List.length_cons, h.hl], by omega, ?_, by have := h.hb; omega, .inr ⟨by omega, ?_⟩⟩
  · have := h.hx
    rw [show 20 - i = (20 - (i + 1)) + 1 by omega, Nat.pow_succ] at this
    omega
  · have e : (digZ (x / 10)).map toB ++ toB ((48 + x % 10 : Nat) : Int) :: l = (digL x).map toB ++ l := by unfold digL; simp
    rw [e]
    rcases h.ok with ⟨_, h3, h4⟩ | ⟨h2, h3⟩
    · rw [h3, h4]; simp
    · rw [← digZ_pos (by omega)]; exact h3
theorem RefOk.done {u0 i x : Nat} {l : List UInt8} (h : RefOk u0 i x l) (h1 : i ≠ 0) (h2 : x = 0) : l = (digL u0).map toB := by
  rcases h.ok with ⟨h3, _⟩ | ⟨_, h3⟩
  · exact absurd h3 h1
  · rw [h2, digZ_0] at h3; simpa using h3

theorem text_c (n : Int) : FnP Try.prog 99 [.int .i64 n] (.bs (textL n)) := by
  refine FnP.mk Try.func99 rfl Try.ntmps99 rfl ?_
  intro B a w F hB hfr hS
  have hn := range_i64 (hS.range (i := 0) rfl)
  have hz := digL_len (abs_u64 hn)
  refine wp_seq ?_
  refine region_seq hS (by kernel_rfl)
    (cF rfl (o_assign (.cs (by kernel_rfl)) (by rfl)) trivial trivial
    Chain.nil)
    (by kernel_rfl) (by rw [hB]; kernel_rfl) ?_
  clear hS; intro a w F hS
  obtain ⟨F, hS⟩ := hS.norm [(0, _), (2, _)] [(0, _)] r2 r1
  refine then_n ?_
  refine wp_seq ?_
  refine wp_seq ?_
  refine region_seq hS (by kernel_rfl)
    (cF rfl (o_move .t (by rfl)) r1 trivial
    (cF rfl (o_lss .t (.ci (by kernel_rfl))) r1 trivial
    Chain.nil))
    (by kernel_rfl) (by rw [hB]; kernel_rfl) ?_
  clear hS; intro a w F hS
  obtain ⟨F, hS⟩ := hS.norm [(0, _), (2, _), (4, _)] [(0, _)] r3 r1
  refine then_n ?_
  refine cond_b hS rfl (fun hc0 => ?_) (fun hc0 => ?_)
  ·skip
   have hb : n < 0 := of_decide_eq_true hc0
   have hu : IntKind.wrap .u64 (0 - IntKind.wrap .u64 n) = (n.natAbs : Int) := by rw [u64_wrap, u64_wrap]; omega
   have hg : textL n = 45 :: (digL n.natAbs).map toB := if_pos hb
   refine wp_seq ?_
   refine region_seq hS (by kernel_rfl)
     (cF rfl (o_move .t (by rfl)) r1 trivial
     (cF rfl (o_conv Try.underlying81 (by kernel_rfl) .t) r1 trivial
     (cF rfl (o_neg .t) r1 trivial
     (cF rfl (o_callP (digits_c n.natAbs (abs_u64 hn)) Try.func126 rfl (by kernel_rfl) (Args.one (.conv .t (.int hu)))) r1 trivial
     (cF rfl (o_add_bs (.cs (by kernel_rfl)) .t (by simp only [List.length_cons, List.length_nil, List.length_map]; omega)) r1 trivial
     (cF rfl (o_assign .t (by rfl)) r1 trivial
     Chain.nil))))))
     (by kernel_rfl) (by rw [hB]; kernel_rfl) ?_
   clear hS; intro a w F hS
   obtain ⟨F, hS⟩ := hS.norm [(0, _), (2, _)] [(0, _)] r2 r1
   refine then_n ?_
   refine wp_ret ?_
   refine then_r ?_
   refine ret_P hfr hS rfl (.tmp rfl .nil) (.one (.bs (by rw [hg]; try rfl)))
  ·skip
   have hb : ¬ n < 0 := of_decide_eq_false hc0
   have hu : IntKind.wrap .u64 n = (n.natAbs : Int) := by rw [u64_wrap]; omega
   have hg : textL n = (digL n.natAbs).map toB := if_neg hb
   refine wp_skip ?_
   refine then_n ?_
   refine wp_seq ?_
   refine region_seq hS (by kernel_rfl)
     (cF rfl (o_move .t (by rfl)) r1 trivial
     (cF rfl (o_conv Try.underlying81 (by kernel_rfl) .t) r1 trivial
     (cF rfl (o_callP (digits_c n.natAbs (abs_u64 hn)) Try.func126 rfl (by kernel_rfl) (Args.one (.conv .t (.int hu)))) r1 trivial
     (cF rfl (o_assign .t (by rfl)) r1 trivial
     Chain.nil))))
     (by kernel_rfl) (by rw [hB]; kernel_rfl) ?_
   clear hS; intro a w F hS
   obtain ⟨F, hS⟩ := hS.norm [(2, _)] [(0, _)] r1 r1
   refine then_n ?_
   refine wp_ret ?_
   refine ret_P hfr hS rfl (.tmp rfl .nil) (.one (.bs (by rw [hg]; try rfl)))

theorem refText_c (n : Int) : FnP Try.prog 102 [.int .i64 n] (.bs (textL n)) := by
  refine FnP.mk Try.func102 rfl Try.ntmps102 rfl ?_
  intro B a w F hB hfr hS
  have hn := range_i64 (hS.range (i := 0) rfl)
  have hz := digL_len (abs_u64 hn)
  refine wp_seq ?_
  refine region_seq hS (by kernel_rfl)
    (cF rfl (o_assign (.cs (by kernel_rfl)) (by rfl)) trivial trivial
    Chain.nil)
    (by kernel_rfl) (by rw [hB]; kernel_rfl) ?_
  clear hS; intro a w F hS
  obtain ⟨F, hS⟩ := hS.norm [(0, _), (2, _)] [(0, _)] r2 r1
  refine then_n ?_
  refine wp_seq ?_
  refine region_seq hS (by kernel_rfl)
    (cF rfl (o_move .t (by rfl)) r1 trivial
    (cF rfl (o_conv Try.underlying81 (by kernel_rfl) .t) r1 trivial
    (cF rfl (o_assign .t (by rfl)) r1 trivial
    Chain.nil)))
    (by kernel_rfl) (by rw [hB]; kernel_rfl) ?_
  clear hS; intro a w F hS
  obtain ⟨F, hS⟩ := hS.norm [(0, _), (2, _), (3, _)] [(0, _)] r3 r1
  refine then_n ?_
  refine wp_seq ?_
  refine wp_seq ?_
  refine region_seq hS (by kernel_rfl)
    (cF rfl (o_move .t (by rfl)) r1 trivial
    (cF rfl (o_lss .t (.ci (by kernel_rfl))) r1 trivial
    Chain.nil))
    (by kernel_rfl) (by rw [hB]; kernel_rfl) ?_
  clear hS; intro a w F hS
  obtain ⟨F, hS⟩ := hS.norm [(0, _), (2, _), (3, _), (9, _)] [(0, _)] r4 r1
  refine then_n ?_
  refine cond_b hS rfl (fun hc0 => ?_) (fun hc0 => ?_)
  ·skip
   have hb : n < 0 := of_decide_eq_true hc0
   have hu : IntKind.wrap .u64 (0 - IntKind.wrap .u64 n) = (n.natAbs : Int) := by rw [u64_wrap, u64_wrap]; omega
   refine region_seq hS (by kernel_rfl)
     (cF rfl (o_move .t (by rfl)) r1 trivial
     (cF rfl (o_sub (.ci (by kernel_rfl)) .t) r1 trivial
     (cF rfl (o_assign .t (by rfl)) r1 trivial
     Chain.nil)))
     (by kernel_rfl) (by rw [hB]; kernel_rfl) ?_
   clear hS; intro a w F hS
   obtain ⟨F, hS⟩ := hS.norm [(0, _), (2, _), (3, _)] [(0, _)] r3 r1
   refine then_n ?_
   refine wp_seq ?_
   refine region_seq hS (by kernel_rfl)
     (cF rfl (o_assign (.cs (by kernel_rfl)) (by rfl)) trivial trivial
     Chain.nil)
     (by kernel_rfl) (by rw [hB]; kernel_rfl) ?_
   clear hS; intro a w F hS
   obtain ⟨F, hS⟩ := hS.norm [(0, _), (2, _), (3, _), (4, _)] [(0, _)] r4 r1
   refine then_n ?_
   refine wp_seq ?_
   refine wp_seq ?_
   refine region_seq hS (by kernel_rfl)
     (cF rfl (o_assign (.ci (by kernel_rfl)) (by rfl)) trivial trivial
     Chain.nil)
     (by kernel_rfl) (by rw [hB]; kernel_rfl) ?_
   clear hS; intro a w F hS
   obtain ⟨F, hS⟩ := hS.norm [(0, _), (2, _), (3, _), (4, _), (5, _)] [(0, _)] r5 r1
   refine then_n ?_
   refine wp_block ?_
   replace hS := hS.ent (i := 3) (s' := .pv (.int .u64 (n.natAbs : Int))) rfl (.int hu)
   obtain ⟨F, hS⟩ := hS.norm [(0, _), (3, _), (4, _), (5, _)] [(0, _)] r4 r1
   refine loop_inv (σ := (Nat × Nat × List UInt8)) (fun s => (⟨[(0, .pv (.int .i64 n)), (3, .pv (.int .u64 s.2.1)), (4, .pv (.bs s.2.2)), (5, .pv (.int .i64 s.1))], [(0, frame B)]⟩ : En)) (fun s => RefOk n.natAbs s.1 s.2.1 s.2.2) (fun s => s.2.1 + (if s.1 = 0 then 1 else 0)) (0, n.natAbs, []) hS (RefOk.start (abs_u64 hn)) ?_
   clear hS; intro s a w F hC hS
   obtain ⟨i, x, l⟩ := s
   try dsimp only at hC
   try dsimp only at hS
   have hl := hC.hl
   have hi := hC.hi
   have hbx := hC.hb
   try dsimp only at hl hi hbx
   refine wp_seq ?_
   refine wp_seq ?_
   refine region_seq hS (by kernel_rfl)
     (cF rfl (o_move .t (by rfl)) r1 trivial
     (cF rfl (o_eql .t (.ci (by kernel_rfl))) r1 trivial
     (cF rfl (o_move .t (by rfl)) r1 trivial
     (Chain.cons (Cert.cond rfl rfl (fun h => o_move .t (by rfl))) r2 trivial
     (Chain.cons (Cert.cond rfl rfl (fun h => o_gtr (.w h) (.ci (by kernel_rfl)))) r2 trivial
     (cF rfl (o_or2 .t .t) r2 trivial
     Chain.nil))))))
     (by kernel_rfl) (by rw [hB]; kernel_rfl) ?_
   clear hS; intro a w F hS
   obtain ⟨F, hS⟩ := hS.norm [(0, _), (3, _), (4, _), (5, _), (12, _), (13, _), (14, _), (15, _), (16, _), (17, _)] [(0, _)] ⟨rfl, rfl, rfl, rfl, rfl, rfl, rfl, rfl, rfl, rfl, trivial⟩ r1
   refine then_n ?_
   refine cond_b hS rfl (fun hc1 => ?_) (fun hc1 => ?_)
   ·skip
    have hcc : i = 0 ∨ 0 < x := by simp only [Bool.or_eq_true, decide_eq_true_eq] at hc1; omega
    have hbyte : IntKind.wrap .u8 (IntKind.wrap .u64 (48 + (x : Int).tmod 10)) = ((48 + x % 10 : Nat) : Int) := by rw [u8_wrap, u64_wrap, Int.tmod_eq_emod_of_nonneg (by omega)]; omega
    refine wp_skip ?_
    refine then_n ?_
    refine wp_seq ?_
    refine wp_block ?_
    refine wp_seq ?_
    refine region_seq hS (by kernel_rfl)
      (cF rfl (o_move .t (by rfl)) r1 trivial
      (cF rfl (o_rem .t (.ci (by kernel_rfl)) (by decide)) r1 trivial
      (cF rfl (o_add (.ci (by kernel_rfl)) .t) r1 trivial
      (cF rfl (o_conv Try.underlying5 (by kernel_rfl) .t) r1 trivial
      (cF rfl (o_buildSliceE (sz := 1) (zs := [.int .u8 0]) (r := [(0, .tmp 23)]) (l := [_]) Try.underlying113 (by kernel_rfl) (by kernel_rfl) (by kernel_rfl) (by kernel_rfl) rfl rfl (.one rfl .t one_int (by kernel_rfl) .nil) rfl) r1 trivial
      (cF rfl (o_conv_arr_bs (l := [IntKind.wrap .u8 (IntKind.wrap .u64 (48 + (x : Int).tmod 10))]) Try.underlying113 Try.underlying5 Try.underlying9 (by kernel_rfl) .t) r1 trivial
      (cF rfl (o_move .t (by rfl)) r1 trivial
      (cF rfl (o_add_bs .t .t (by simp only [List.length_cons, List.length_nil, List.length_map]; omega)) r2 trivial
      (cF rfl (o_assign .t (by rfl)) r1 trivial
      Chain.nil)))))))))
      (by kernel_rfl) (by rw [hB]; kernel_rfl) ?_
    clear hS; intro a w F hS
    obtain ⟨F, hS⟩ := hS.norm [(0, _), (3, _), (4, _), (5, _), (12, _), (13, _), (14, _), (15, _), (16, _), (17, _), (20, _), (21, _), (22, _), (23, _), (24, _), (25, _), (26, _), (27, _)] [(0, _)] ⟨rfl, rfl, rfl, rfl, rfl, rfl, rfl, rfl, rfl, rfl, rfl, rfl, rfl, rfl, rfl, rfl, rfl, rfl, trivial⟩ r1
    try dsimp only [List.map, stCells, List.length_cons, List.length_nil, Nat.reduceAdd, List.drop_succ_cons, List.drop_zero, List.drop_nil, List.take_succ_cons, List.take_zero, List.take_nil, List.cons_append, List.nil_append, zCF] at hS
    refine then_n ?_
    refine region_seq hS (by kernel_rfl)
      (cF rfl (o_move .t (by rfl)) r1 trivial
      (cF rfl (o_quo .t (.ci (by kernel_rfl)) (by decide)) r1 trivial
      (cF rfl (o_assign .t (by rfl)) r1 trivial
      Chain.nil)))
      (by kernel_rfl) (by rw [hB]; kernel_rfl) ?_
    clear hS; intro a w F hS
    obtain ⟨F, hS⟩ := hS.norm [(0, _), (3, _), (4, _), (5, _), (12, _), (13, _), (14, _), (15, _), (16, _), (17, _), (20, _), (21, _), (22, _), (23, _), (24, _), (25, _), (26, _), (27, _), (28, _), (29, _)] [(0, _)] ⟨rfl, rfl, rfl, rfl, rfl, rfl, rfl, rfl, rfl, rfl, rfl, rfl, rfl, rfl, rfl, rfl, rfl, rfl, rfl, rfl, trivial⟩ r1
    refine block_n ?_
    refine then_n ?_
    refine region_seq hS (by kernel_rfl)
      (cF rfl (o_move .t (by rfl)) r1 trivial
      (cF rfl (o_add .t (.ci (by kernel_rfl))) r1 trivial
      (cF rfl (o_assign .t (by rfl)) r1 trivial
      Chain.nil)))
      (by kernel_rfl) (by rw [hB]; kernel_rfl) ?_
    clear hS; intro a w F hS
    obtain ⟨F, hS⟩ := hS.norm [(0, _), (3, _), (4, _), (5, _), (12, _), (13, _), (14, _), (15, _), (16, _), (17, _), (18, _), (19, _), (20, _), (21, _), (22, _), (23, _), (24, _), (25, _), (26, _), (27, _), (28, _), (29, _)] [(0, _)] ⟨rfl, rfl, rfl, rfl, rfl, rfl, rfl, rfl, rfl, rfl, rfl, rfl, rfl, rfl, rfl, rfl, rfl, rfl, rfl, rfl, rfl, rfl, trivial⟩ r1
    refine then_n ?_
    replace hS := hS.ent (i := 3) (s' := .pv (.int .u64 ((x / 10 : Nat) : Int))) rfl (.int (by rw [u64_wrap, Int.tdiv_eq_ediv_of_nonneg (by omega)]; omega))
    replace hS := hS.ent (i := 4) (s' := .pv (.bs (toB ((48 + x % 10 : Nat) : Int) :: l))) rfl (.bs (by rw [← hbyte]; try rfl))
    replace hS := hS.ent (i := 5) (s' := .pv (.int .i64 ((i + 1 : Nat) : Int))) rfl (.int (wrap_succ (by omega)))
    obtain ⟨F, hS⟩ := hS.norm [(0, _), (3, _), (4, _), (5, _)] [(0, _)] r4 r1
    exact ⟨(i + 1, x / 10, toB ((48 + x % 10 : Nat) : Int) :: l), F, (hC.next hcc), hS, by dsimp only; split <;> split <;> omega⟩
   ·skip
    have hcc : i ≠ 0 ∧ x = 0 := by simp only [Bool.or_eq_false_iff, decide_eq_false_iff_not] at hc1; omega
    have hdd := hC.done hcc.1 hcc.2
    try dsimp only at hdd
    refine wp_exit ?_
    refine then_x ?_
    refine then_x ?_
    refine block_x ?_
    refine then_n ?_
    refine wp_seq ?_
    refine wp_seq ?_
    refine region_seq hS (by kernel_rfl)
      (cF rfl (o_move .t (by rfl)) r1 trivial
      (cF rfl (o_lss .t (.ci (by kernel_rfl))) r1 trivial
      Chain.nil))
      (by kernel_rfl) (by rw [hB]; kernel_rfl) ?_
    clear hS; intro a w F hS
    obtain ⟨F, hS⟩ := hS.norm [(4, _), (31, _)] [(0, _)] r2 r1
    refine then_n ?_
    refine cond_b hS rfl (fun hc2 => ?_) (fun hc2 => ?_)
    ·skip
     have hg : textL n = 45 :: (digL n.natAbs).map toB := if_pos (of_decide_eq_true hc2)
     refine wp_seq ?_
     refine region_seq hS (by kernel_rfl)
       (cF rfl (o_move .t (by rfl)) r1 trivial
       (cF rfl (o_add_bs (.cs (by kernel_rfl)) .t (by simp only [List.length_cons, List.length_nil]; omega)) r1 trivial
       (cF rfl (o_assign .t (by rfl)) r1 trivial
       Chain.nil)))
       (by kernel_rfl) (by rw [hB]; kernel_rfl) ?_
     clear hS; intro a w F hS
     obtain ⟨F, hS⟩ := hS.norm [(2, _), (4, _)] [(0, _)] r2 r1
     refine then_n ?_
     refine wp_ret ?_
     refine then_r ?_
     refine ret_P hfr hS rfl (.tmp rfl .nil) (.one (.bs (by rw [hg, ← hdd]; try rfl)))
    ·skip
     have hg : textL n = (digL n.natAbs).map toB := if_neg (of_decide_eq_false hc2)
     refine wp_skip ?_
     refine then_n ?_
     refine wp_seq ?_
     refine region_seq hS (by kernel_rfl)
       (cF rfl (o_move .t (by rfl)) r1 trivial
       (cF rfl (o_assign .t (by rfl)) r1 trivial
       Chain.nil))
       (by kernel_rfl) (by rw [hB]; kernel_rfl) ?_
     clear hS; intro a w F hS
     obtain ⟨F, hS⟩ := hS.norm [(2, _)] [(0, _)] r1 r1
     refine then_n ?_
     refine wp_ret ?_
     refine ret_P hfr hS rfl (.tmp rfl .nil) (.one (.bs (by rw [hg, ← hdd]; try rfl)))
  ·skip
   have hb : ¬ n < 0 := of_decide_eq_false hc0
   have hu : IntKind.wrap .u64 n = (n.natAbs : Int) := by rw [u64_wrap]; omega
   refine wp_skip ?_
   refine then_n ?_
   refine wp_seq ?_
   refine region_seq hS (by kernel_rfl)
     (cF rfl (o_assign (.cs (by kernel_rfl)) (by rfl)) trivial trivial
     Chain.nil)
     (by kernel_rfl) (by rw [hB]; kernel_rfl) ?_
   clear hS; intro a w F hS
   obtain ⟨F, hS⟩ := hS.norm [(0, _), (2, _), (3, _), (4, _)] [(0, _)] r4 r1
   refine then_n ?_
   refine wp_seq ?_
   refine wp_seq ?_
   refine region_seq hS (by kernel_rfl)
     (cF rfl (o_assign (.ci (by kernel_rfl)) (by rfl)) trivial trivial
     Chain.nil)
     (by kernel_rfl) (by rw [hB]; kernel_rfl) ?_
   clear hS; intro a w F hS
   obtain ⟨F, hS⟩ := hS.norm [(0, _), (2, _), (3, _), (4, _), (5, _)] [(0, _)] r5 r1
   refine then_n ?_
   refine wp_block ?_
   replace hS := hS.ent (i := 3) (s' := .pv (.int .u64 (n.natAbs : Int))) rfl (.int hu)
   obtain ⟨F, hS⟩ := hS.norm [(0, _), (3, _), (4, _), (5, _)] [(0, _)] r4 r1
   refine loop_inv (σ := (Nat × Nat × List UInt8)) (fun s => (⟨[(0, .pv (.int .i64 n)), (3, .pv (.int .u64 s.2.1)), (4, .pv (.bs s.2.2)), (5, .pv (.int .i64 s.1))], [(0, frame B)]⟩ : En)) (fun s => RefOk n.natAbs s.1 s.2.1 s.2.2) (fun s => s.2.1 + (if s.1 = 0 then 1 else 0)) (0, n.natAbs, []) hS (RefOk.start (abs_u64 hn)) ?_
   clear hS; intro s a w F hC hS
   obtain ⟨i, x, l⟩ := s
   try dsimp only at hC
   try dsimp only at hS
   have hl := hC.hl
   have hi := hC.hi
   have hbx := hC.hb
   try dsimp only at hl hi hbx
   refine wp_seq ?_
   refine wp_seq ?_
   refine region_seq hS (by kernel_rfl)
     (cF rfl (o_move .t (by rfl)) r1 trivial
     (cF rfl (o_eql .t (.ci (by kernel_rfl))) r1 trivial
     (cF rfl (o_move .t (by rfl)) r1 trivial
     (Chain.cons (Cert.cond rfl rfl (fun h => o_move .t (by rfl))) r2 trivial
     (Chain.cons (Cert.cond rfl rfl (fun h => o_gtr (.w h) (.ci (by kernel_rfl)))) r2 trivial
     (cF rfl (o_or2 .t .t) r2 trivial
     Chain.nil))))))
     (by kernel_rfl) (by rw [hB]; kernel_rfl) ?_
   clear hS; intro a w F hS
   obtain ⟨F, hS⟩ := hS.norm [(0, _), (3, _), (4, _), (5, _), (12, _), (13, _), (14, _), (15, _), (16, _), (17, _)] [(0, _)] ⟨rfl, rfl, rfl, rfl, rfl, rfl, rfl, rfl, rfl, rfl, trivial⟩ r1
   refine then_n ?_
   refine cond_b hS rfl (fun hc3 => ?_) (fun hc3 => ?_)
   ·skip
    have hcc : i = 0 ∨ 0 < x := by simp only [Bool.or_eq_true, decide_eq_true_eq] at hc3; omega
    have hbyte : IntKind.wrap .u8 (IntKind.wrap .u64 (48 + (x : Int).tmod 10)) = ((48 + x % 10 : Nat) : Int) := by rw [u8_wrap, u64_wrap, Int.tmod_eq_emod_of_nonneg (by omega)]; omega
    refine wp_skip ?_
    refine then_n ?_
    refine wp_seq ?_
    refine wp_block ?_
    refine wp_seq ?_
    refine region_seq hS (by kernel_rfl)
      (cF rfl (o_move .t (by rfl)) r1 trivial
      (cF rfl (o_rem .t (.ci (by kernel_rfl)) (by decide)) r1 trivial
      (cF rfl (o_add (.ci (by kernel_rfl)) .t) r1 trivial
      (cF rfl (o_conv Try.underlying5 (by kernel_rfl) .t) r1 trivial
      (cF rfl (o_buildSliceE (sz := 1) (zs := [.int .u8 0]) (r := [(0, .tmp 23)]) (l := [_]) Try.underlying113 (by kernel_rfl) (by kernel_rfl) (by kernel_rfl) (by kernel_rfl) rfl rfl (.one rfl .t one_int (by kernel_rfl) .nil) rfl) r1 trivial
      (cF rfl (o_conv_arr_bs (l := [IntKind.wrap .u8 (IntKind.wrap .u64 (48 + (x : Int).tmod 10))]) Try.underlying113 Try.underlying5 Try.underlying9 (by kernel_rfl) .t) r1 trivial
      (cF rfl (o_move .t (by rfl)) r1 trivial
      (cF rfl (o_add_bs .t .t (by simp only [List.length_cons, List.length_nil, List.length_map]; omega)) r2 trivial
      (cF rfl (o_assign .t (by rfl)) r1 trivial
      Chain.nil)))))))))
      (by kernel_rfl) (by rw [hB]; kernel_rfl) ?_
    clear hS; intro a w F hS
    obtain ⟨F, hS⟩ := hS.norm [(0, _), (3, _), (4, _), (5, _), (12, _), (13, _), (14, _), (15, _), (16, _), (17, _), (20, _), (21, _), (22, _), (23, _), (24, _), (25, _), (26, _), (27, _)] [(0, _)] ⟨rfl, rfl, rfl, rfl, rfl, rfl, rfl, rfl, rfl, rfl, rfl, rfl, rfl, rfl, rfl, rfl, rfl, rfl, trivial⟩ r1
    try dsimp only [List.map, stCells, List.length_cons, List.length_nil, Nat.reduceAdd, List.drop_succ_cons, List.drop_zero, List.drop_nil, List.take_succ_cons, List.take_zero, List.take_nil, List.cons_append, List.nil_append, zCF] at hS
    refine then_n ?_
    refine region_seq hS (by kernel_rfl)
      (cF rfl (o_move .t (by rfl)) r1 trivial
      (cF rfl (o_quo .t (.ci (by kernel_rfl)) (by decide)) r1 trivial
      (cF rfl (o_assign .t (by rfl)) r1 trivial
      Chain.nil)))
      (by kernel_rfl) (by rw [hB]; kernel_rfl) ?_
    clear hS; intro a w F hS
    obtain ⟨F, hS⟩ := hS.norm [(0, _), (3, _), (4, _), (5, _), (12, _), (13, _), (14, _), (15, _), (16, _), (17, _), (20, _), (21, _), (22, _), (23, _), (24, _), (25, _), (26, _), (27, _), (28, _), (29, _)] [(0, _)] ⟨rfl, rfl, rfl, rfl, rfl, rfl, rfl, rfl, rfl, rfl, rfl, rfl, rfl, rfl, rfl, rfl, rfl, rfl, rfl, rfl, trivial⟩ r1
    refine block_n ?_
    refine then_n ?_
    refine region_seq hS (by kernel_rfl)
      (cF rfl (o_move .t (by rfl)) r1 trivial
      (cF rfl (o_add .t (.ci (by kernel_rfl))) r1 trivial
      (cF rfl (o_assign .t (by rfl)) r1 trivial
      Chain.nil)))
      (by kernel_rfl) (by rw [hB]; kernel_rfl) ?_
    clear hS; intro a w F hS
    obtain ⟨F, hS⟩ := hS.norm [(0, _), (3, _), (4, _), (5, _), (12, _), (13, _), (14, _), (15, _), (16, _), (17, _), (18, _), (19, _), (20, _), (21, _), (22, _), (23, _), (24, _), (25, _), (26, _), (27, _), (28, _), (29, _)] [(0, _)] ⟨rfl, rfl, rfl, rfl, rfl, rfl, rfl, rfl, rfl, rfl, rfl, rfl, rfl, rfl, rfl, rfl, rfl, rfl, rfl, rfl, rfl, rfl, trivial⟩ r1
    refine then_n ?_
    replace hS := hS.ent (i := 3) (s' := .pv (.int .u64 ((x / 10 : Nat) : Int))) rfl (.int (by rw [u64_wrap, Int.tdiv_eq_ediv_of_nonneg (by omega)]; omega))
    replace hS := hS.ent (i := 4) (s' := .pv (.bs (toB ((48 + x % 10 : Nat) : Int) :: l))) rfl (.bs (by rw [← hbyte]; try rfl))
    replace hS := hS.ent (i := 5) (s' := .pv (.int .i64 ((i + 1 : Nat) : Int))) rfl (.int (wrap_succ (by omega)))
    obtain ⟨F, hS⟩ := hS.norm [(0, _), (3, _), (4, _), (5, _)] [(0, _)] r4 r1
    exact ⟨(i + 1, x / 10, toB ((48 + x % 10 : Nat) : Int) :: l), F, (hC.next hcc), hS, by dsimp only; split <;> split <;> omega⟩
   ·skip
    have hcc : i ≠ 0 ∧ x = 0 := by simp only [Bool.or_eq_false_iff, decide_eq_false_iff_not] at hc3; omega
    have hdd := hC.done hcc.1 hcc.2
    try dsimp only at hdd
    refine wp_exit ?_
    refine then_x ?_
    refine then_x ?_
    refine block_x ?_
    refine then_n ?_
    refine wp_seq ?_
    refine wp_seq ?_
    refine region_seq hS (by kernel_rfl)
      (cF rfl (o_move .t (by rfl)) r1 trivial
      (cF rfl (o_lss .t (.ci (by kernel_rfl))) r1 trivial
      Chain.nil))
      (by kernel_rfl) (by rw [hB]; kernel_rfl) ?_
    clear hS; intro a w F hS
    obtain ⟨F, hS⟩ := hS.norm [(4, _), (31, _)] [(0, _)] r2 r1
    refine then_n ?_
    refine cond_b hS rfl (fun hc4 => ?_) (fun hc4 => ?_)
    ·skip
     have hg : textL n = 45 :: (digL n.natAbs).map toB := if_pos (of_decide_eq_true hc4)
     refine wp_seq ?_
     refine region_seq hS (by kernel_rfl)
       (cF rfl (o_move .t (by rfl)) r1 trivial
       (cF rfl (o_add_bs (.cs (by kernel_rfl)) .t (by simp only [List.length_cons, List.length_nil]; omega)) r1 trivial
       (cF rfl (o_assign .t (by rfl)) r1 trivial
       Chain.nil)))
       (by kernel_rfl) (by rw [hB]; kernel_rfl) ?_
     clear hS; intro a w F hS
     obtain ⟨F, hS⟩ := hS.norm [(2, _), (4, _)] [(0, _)] r2 r1
     refine then_n ?_
     refine wp_ret ?_
     refine then_r ?_
     refine ret_P hfr hS rfl (.tmp rfl .nil) (.one (.bs (by rw [hg, ← hdd]; try rfl)))
    ·skip
     have hg : textL n = (digL n.natAbs).map toB := if_neg (of_decide_eq_false hc4)
     refine wp_skip ?_
     refine then_n ?_
     refine wp_seq ?_
     refine region_seq hS (by kernel_rfl)
       (cF rfl (o_move .t (by rfl)) r1 trivial
       (cF rfl (o_assign .t (by rfl)) r1 trivial
       Chain.nil))
       (by kernel_rfl) (by rw [hB]; kernel_rfl) ?_
     clear hS; intro a w F hS
     obtain ⟨F, hS⟩ := hS.norm [(2, _)] [(0, _)] r1 r1
     refine then_n ?_
     refine wp_ret ?_
     refine ret_P hfr hS rfl (.tmp rfl .nil) (.one (.bs (by rw [hg, ← hdd]; try rfl)))

end Go.Proofs.Ytpjjmolibanakaa
