/- With, without; the document on orders. No condition beyond those that each theorem says. -/
import Derived.Test.YtpjjmolibanakaaOr3
namespace Go.Proofs.Ytpjjmolibanakaa
open Go Go.Gm
set_option linter.unusedVariables false
set_option linter.unusedSimpArgs false
set_option maxHeartbeats 4000000
set_option maxRecDepth 8000


theorem count11_c (l : List Int) (v : Int) : FnP Try.prog 85 [.sl rInt l, .int .i64 v] (.int .i64 ((l.count v : Nat) : Int)) := by
  refine FnP.mk Try.func85 rfl Try.ntmps85 rfl ?_
  intro B a w F hB hfr hS
  have hll := Sat.lenSl hS (i := 0) rfl
  refine wp_seq ?_
  refine region_seq hS (by kernel_rfl)
    (cF rfl (o_assign (.ci (by kernel_rfl)) (by rfl)) trivial trivial
    Chain.nil)
    (by kernel_rfl) (by rw [hB]; kernel_rfl) ?_
  clear hS; intro a w F hS
  obtain ⟨F, hS⟩ := hS.norm [(0, _), (1, _), (4, _)] [(0, _)] r3 r1
  try dsimp only [rInt] at hS
  refine then_n ?_
  refine wp_seq ?_
  refine region_seq hS (by kernel_rfl)
    (cF rfl (o_assign (.ci (by kernel_rfl)) (by rfl)) trivial trivial
    Chain.nil)
    (by kernel_rfl) (by rw [hB]; kernel_rfl) ?_
  clear hS; intro a w F hS
  obtain ⟨F, hS⟩ := hS.norm [(0, _), (1, _), (4, _), (5, _)] [(0, _)] r4 r1
  try dsimp only [rInt] at hS
  refine then_n ?_
  refine wp_seq ?_
  refine wp_seq ?_
  refine region_seq hS (by kernel_rfl)
    (cF rfl (o_move .t (by rfl)) r1 trivial
    (cF rfl (o_len_sl Try.underlying30 .t) r1 trivial
    (cF rfl (o_move (.ci (by kernel_rfl)) (by rfl)) trivial trivial
    Chain.nil)))
    (by kernel_rfl) (by rw [hB]; kernel_rfl) ?_
  clear hS; intro a w F hS
  obtain ⟨F, hS⟩ := hS.norm [(1, _), (4, _), (5, _), (8, _), (9, _), (10, _)] [(0, _)] r6 r1
  try dsimp only [rInt] at hS
  refine then_n ?_
  refine wp_block ?_
  refine loop_keep (σ := (Nat)) [1, 4, 8, 9] [0] (fun s => [(10, .pv (.int .i64 (s : Int))), (5, .pv (.int .i64 (((l.take s).count v : Nat) : Int)))]) (fun s => []) (fun s => s ≤ l.length ∧ (True)) (fun s => l.length - s) (0) hS ⟨rfl, rfl, rfl, rfl, rfl, rfl, trivial⟩ ⟨rfl, trivial⟩ ⟨Nat.zero_le _, trivial⟩ ?_
  clear hS; intro i a w F hC hS
  try dsimp only at hC
  obtain ⟨F, hS⟩ := hS.norm [(1, _), (4, _), (5, _), (8, _), (9, _), (10, _)] [(0, _)] r6 r1
  try dsimp only at hS
  obtain ⟨hi, hq⟩ := hC
  refine wp_seq ?_
  refine region_seq hS (by kernel_rfl)
    (cF rfl (o_lss .t .t) r2 trivial
    Chain.nil)
    (by kernel_rfl) (by rw [hB]; kernel_rfl) ?_
  clear hS; intro a w F hS
  obtain ⟨F, hS⟩ := hS.norm [(1, _), (4, _), (5, _), (8, _), (9, _), (10, _), (11, _)] [(0, _)] r7 r1
  try dsimp only [rInt] at hS
  refine then_n ?_
  refine wp_seq ?_
  refine cond_b hS rfl (fun hc0 => ?_) (fun hc0 => ?_)
  ·skip
   have hil : i < l.length := by simp at hc0; omega
   refine wp_skip ?_
   refine then_n ?_
   refine wp_seq ?_
   refine wp_block ?_
   refine wp_seq ?_
   refine region_seq hS (by kernel_rfl)
     (cF rfl (o_indexAddr_sl (sz := 1) (.mk Try.underlying30 (by kernel_rfl)) (by intro x; rfl) .t .t (by omega) (by omega)) r2 trivial
     (cF rfl (o_load_ref (ag := false) (sz := 1) .t (by kernel_rfl) (by kernel_rfl) (by kernel_rfl)) r1 trivial
     (cF rfl (o_assign .t (by rfl)) r1 trivial
     Chain.nil)))
     (by kernel_rfl) (by rw [hB]; kernel_rfl) ?_
   clear hS; intro a w F hS
   obtain ⟨F, hS⟩ := hS.norm [(1, _), (4, _), (5, _), (7, _), (8, _), (9, _), (10, _), (11, _), (12, _), (13, _)] [(0, _)] ⟨rfl, rfl, rfl, rfl, rfl, rfl, rfl, rfl, rfl, rfl, trivial⟩ r1
   try dsimp only [List.map, List.drop_succ_cons, List.drop_zero, List.drop_nil, List.take_succ_cons, List.take_zero, List.take_nil, ldSF, rInt] at hS
   try simp only [Int.toNat_natCast] at hS
   refine then_n ?_
   refine wp_seq ?_
   refine region_seq hS (by kernel_rfl)
     (cF rfl (o_move .t (by rfl)) r1 trivial
     (cF rfl (o_move .t (by rfl)) r1 trivial
     (cF rfl (o_eql .t .t) r2 trivial
     Chain.nil)))
     (by kernel_rfl) (by rw [hB]; kernel_rfl) ?_
   clear hS; intro a w F hS
   obtain ⟨F, hS⟩ := hS.norm [(1, _), (4, _), (5, _), (7, _), (8, _), (9, _), (10, _), (11, _), (12, _), (13, _), (14, _), (15, _), (16, _)] [(0, _)] ⟨rfl, rfl, rfl, rfl, rfl, rfl, rfl, rfl, rfl, rfl, rfl, rfl, rfl, trivial⟩ r1
   try dsimp only [rInt] at hS
   refine then_n ?_
   refine cond_b hS rfl (fun hc1 => ?_) (fun hc1 => ?_)
   ·skip
    have hcl : (l.take i).count v ≤ (l.take i).length := List.count_le_length
    have hcl2 : (l.take i).length ≤ i := by rw [List.length_take]; omega
    have hcc : IntKind.wrap .i64 ((((l.take i).count v : Nat) : Int) + 1) = (((l.take (i + 1)).count v : Nat) : Int) := by
      have e : v = Go.Gm.nth l i := by simpa using hc1
      rw [wrap_i64 (by omega), take_nth hil, List.count_append, ← e]; simp
    refine region_seq hS (by kernel_rfl)
      (cF rfl (o_move .t (by rfl)) r1 trivial
      (cF rfl (o_add .t (.ci (by kernel_rfl))) r1 trivial
      (cF rfl (o_assign .t (by rfl)) r1 trivial
      Chain.nil)))
      (by kernel_rfl) (by rw [hB]; kernel_rfl) ?_
    clear hS; intro a w F hS
    obtain ⟨F, hS⟩ := hS.norm [(1, _), (4, _), (5, _), (7, _), (8, _), (9, _), (10, _), (11, _), (12, _), (13, _), (14, _), (15, _), (16, _), (17, _), (18, _)] [(0, _)] ⟨rfl, rfl, rfl, rfl, rfl, rfl, rfl, rfl, rfl, rfl, rfl, rfl, rfl, rfl, rfl, trivial⟩ r1
    try dsimp only [rInt] at hS
    refine block_n ?_
    refine then_n ?_
    refine region_seq hS (by kernel_rfl)
      (cF rfl (o_add .t (.ci (by kernel_rfl))) r1 trivial
      (cF rfl (o_move .t (by rfl)) r1 trivial
      Chain.nil))
      (by kernel_rfl) (by rw [hB]; kernel_rfl) ?_
    clear hS; intro a w F hS
    obtain ⟨F, hS⟩ := hS.norm [(1, _), (4, _), (5, _), (7, _), (8, _), (9, _), (10, _), (11, _), (12, _), (13, _), (14, _), (15, _), (16, _), (17, _), (18, _), (19, _)] [(0, _)] ⟨rfl, rfl, rfl, rfl, rfl, rfl, rfl, rfl, rfl, rfl, rfl, rfl, rfl, rfl, rfl, rfl, trivial⟩ r1
    try dsimp only [rInt] at hS
    refine then_n ?_
    replace hS := hS.ent (i := 10) (s' := .pv (.int .i64 ((i + 1 : Nat) : Int))) rfl (.int (wrap_succ (by omega)))
    replace hS := hS.ent (i := 5) (s' := .pv (.int .i64 (((l.take (i + 1)).count v : Nat) : Int))) rfl (.int hcc)
    obtain ⟨F, hS⟩ := hS.norm [(10, _), (5, _), (1, _), (4, _), (8, _), (9, _)] [(0, _)] ⟨rfl, rfl, rfl, rfl, rfl, rfl, trivial⟩ ⟨rfl, trivial⟩
    exact ⟨(i + 1), F, ⟨by omega, trivial⟩, hS, by omega⟩
   ·skip
    have hcc : (((l.take i).count v : Nat) : Int) = (((l.take (i + 1)).count v : Nat) : Int) := by
      have e : ¬ v = Go.Gm.nth l i := by simpa using hc1
      have e2 : ¬ Go.Gm.nth l i = v := fun h => e h.symm
      rw [take_nth hil, List.count_append, List.count_singleton]; simp [e2]
    refine wp_skip ?_
    refine block_n ?_
    refine then_n ?_
    refine region_seq hS (by kernel_rfl)
      (cF rfl (o_add .t (.ci (by kernel_rfl))) r1 trivial
      (cF rfl (o_move .t (by rfl)) r1 trivial
      Chain.nil))
      (by kernel_rfl) (by rw [hB]; kernel_rfl) ?_
    clear hS; intro a w F hS
    obtain ⟨F, hS⟩ := hS.norm [(1, _), (4, _), (5, _), (7, _), (8, _), (9, _), (10, _), (11, _), (12, _), (13, _), (14, _), (15, _), (16, _), (19, _)] [(0, _)] ⟨rfl, rfl, rfl, rfl, rfl, rfl, rfl, rfl, rfl, rfl, rfl, rfl, rfl, rfl, trivial⟩ r1
    try dsimp only [rInt] at hS
    refine then_n ?_
    replace hS := hS.ent (i := 10) (s' := .pv (.int .i64 ((i + 1 : Nat) : Int))) rfl (.int (wrap_succ (by omega)))
    replace hS := hS.ent (i := 5) (s' := .pv (.int .i64 (((l.take (i + 1)).count v : Nat) : Int))) rfl (.int hcc)
    obtain ⟨F, hS⟩ := hS.norm [(10, _), (5, _), (1, _), (4, _), (8, _), (9, _)] [(0, _)] ⟨rfl, rfl, rfl, rfl, rfl, rfl, trivial⟩ ⟨rfl, trivial⟩
    exact ⟨(i + 1), F, ⟨by omega, trivial⟩, hS, by omega⟩
  ·skip
   have hil : i = l.length := by simp at hc0; omega
   refine wp_exit ?_
   refine then_x ?_
   refine then_x ?_
   refine block_x ?_
   refine then_n ?_
   refine wp_seq ?_
   refine region_seq hS (by kernel_rfl)
     (cF rfl (o_move .t (by rfl)) r1 trivial
     (cF rfl (o_assign .t (by rfl)) r1 trivial
     Chain.nil))
     (by kernel_rfl) (by rw [hB]; kernel_rfl) ?_
   clear hS; intro a w F hS
   obtain ⟨F, hS⟩ := hS.norm [(4, _)] [(0, _)] r1 r1
   try dsimp only [rInt] at hS
   refine then_n ?_
   refine wp_ret ?_
   refine ret_P hfr hS rfl (.tmp rfl .nil) (.one (.int (by rw [hil, List.take_length])))

theorem perm11_c (x y : List Int) : FnP Try.prog 30 [.sl rInt x, .sl rInt y] (.bool (decide (x.Perm y))) := by
  refine FnP.mk Try.func30 rfl Try.ntmps30 rfl ?_
  intro B a w F hB hfr hS
  have hxl := Sat.lenSl hS (i := 0) rfl
  have hyl := Sat.lenSl hS (i := 1) rfl
  refine wp_seq ?_
  refine region_seq hS (by kernel_rfl)
    (cF rfl (o_assign .cb (by rfl)) trivial trivial
    Chain.nil)
    (by kernel_rfl) (by rw [hB]; kernel_rfl) ?_
  clear hS; intro a w F hS
  obtain ⟨F, hS⟩ := hS.norm [(0, _), (1, _), (4, _)] [(0, _)] r3 r1
  try dsimp only [rInt] at hS
  refine then_n ?_
  refine wp_seq ?_
  refine wp_seq ?_
  refine region_seq hS (by kernel_rfl)
    (cF rfl (o_move .t (by rfl)) r1 trivial
    (cF rfl (o_len_sl Try.underlying30 .t) r1 trivial
    (cF rfl (o_move .t (by rfl)) r1 trivial
    (cF rfl (o_len_sl Try.underlying30 .t) r1 trivial
    (cF rfl (o_neq .t .t) r2 trivial
    Chain.nil)))))
    (by kernel_rfl) (by rw [hB]; kernel_rfl) ?_
  clear hS; intro a w F hS
  obtain ⟨F, hS⟩ := hS.norm [(0, _), (1, _), (4, _), (11, _)] [(0, _)] r4 r1
  try dsimp only [rInt] at hS
  refine then_n ?_
  refine cond_b hS rfl (fun hc0 => ?_) (fun hc0 => ?_)
  ·skip
   have hg : false = decide (x.Perm y) := (decide_eq_false fun hp => by have := hp.length_eq; simp at hc0; omega).symm
   refine wp_seq ?_
   refine region_seq hS (by kernel_rfl)
     (cF rfl (o_assign .cb (by rfl)) trivial trivial
     Chain.nil)
     (by kernel_rfl) (by rw [hB]; kernel_rfl) ?_
   clear hS; intro a w F hS
   obtain ⟨F, hS⟩ := hS.norm [(0, _), (1, _), (4, _)] [(0, _)] r3 r1
   try dsimp only [rInt] at hS
   refine then_n ?_
   refine wp_ret ?_
   refine then_r ?_
   refine ret_P hfr hS rfl (.tmp rfl .nil) (.one (.bool hg))
  ·skip
   have hxy : x.length = y.length := by simp at hc0; omega
   refine wp_skip ?_
   refine then_n ?_
   refine wp_seq ?_
   refine wp_seq ?_
   refine region_seq hS (by kernel_rfl)
     (cF rfl (o_move .t (by rfl)) r1 trivial
     (cF rfl (o_len_sl Try.underlying30 .t) r1 trivial
     (cF rfl (o_move (.ci (by kernel_rfl)) (by rfl)) trivial trivial
     Chain.nil)))
     (by kernel_rfl) (by rw [hB]; kernel_rfl) ?_
   clear hS; intro a w F hS
   obtain ⟨F, hS⟩ := hS.norm [(0, _), (1, _), (4, _), (12, _), (13, _), (14, _)] [(0, _)] r6 r1
   try dsimp only [rInt] at hS
   refine then_n ?_
   refine wp_block ?_
   refine loop_keep (σ := (Nat)) [0, 1, 4, 12, 13] [0] (fun s => [(14, .pv (.int .i64 (s : Int)))]) (fun s => []) (fun s => s ≤ x.length ∧ (∀ k, k < s → x.count (Go.Gm.nth x k) = y.count (Go.Gm.nth x k))) (fun s => x.length - s) (0) hS ⟨rfl, rfl, rfl, rfl, rfl, rfl, trivial⟩ ⟨rfl, trivial⟩ ⟨Nat.zero_le _, fun k hk => absurd hk (Nat.not_lt_zero k)⟩ ?_
   clear hS; intro i a w F hC hS
   try dsimp only at hC
   obtain ⟨F, hS⟩ := hS.norm [(0, _), (1, _), (4, _), (12, _), (13, _), (14, _)] [(0, _)] r6 r1
   try dsimp only at hS
   obtain ⟨hi, hq⟩ := hC
   refine wp_seq ?_
   refine region_seq hS (by kernel_rfl)
     (cF rfl (o_lss .t .t) r2 trivial
     Chain.nil)
     (by kernel_rfl) (by rw [hB]; kernel_rfl) ?_
   clear hS; intro a w F hS
   obtain ⟨F, hS⟩ := hS.norm [(0, _), (1, _), (4, _), (12, _), (13, _), (14, _), (15, _)] [(0, _)] r7 r1
   try dsimp only [rInt] at hS
   refine then_n ?_
   refine wp_seq ?_
   refine cond_b hS rfl (fun hc1 => ?_) (fun hc1 => ?_)
   ·skip
    have hil : i < x.length := by simp at hc1; omega
    refine wp_skip ?_
    refine then_n ?_
    refine wp_seq ?_
    refine wp_block ?_
    refine wp_seq ?_
    refine region_seq hS (by kernel_rfl)
      (cF rfl (o_indexAddr_sl (sz := 1) (.mk Try.underlying30 (by kernel_rfl)) (by intro x; rfl) .t .t (by omega) (by omega)) r2 trivial
      (cF rfl (o_load_ref (ag := false) (sz := 1) .t (by kernel_rfl) (by kernel_rfl) (by kernel_rfl)) r1 trivial
      (cF rfl (o_assign .t (by rfl)) r1 trivial
      Chain.nil)))
      (by kernel_rfl) (by rw [hB]; kernel_rfl) ?_
    clear hS; intro a w F hS
    obtain ⟨F, hS⟩ := hS.norm [(0, _), (1, _), (4, _), (6, _), (12, _), (13, _), (14, _), (15, _), (16, _), (17, _)] [(0, _)] ⟨rfl, rfl, rfl, rfl, rfl, rfl, rfl, rfl, rfl, rfl, trivial⟩ r1
    try dsimp only [List.map, List.drop_succ_cons, List.drop_zero, List.drop_nil, List.take_succ_cons, List.take_zero, List.take_nil, ldSF, rInt] at hS
    try simp only [Int.toNat_natCast] at hS
    refine then_n ?_
    refine wp_seq ?_
    refine region_seq hS (by kernel_rfl)
      (cF rfl (o_move .t (by rfl)) r1 trivial
      (cF rfl (o_move .t (by rfl)) r1 trivial
      (cF rfl (o_callP (count11_c x (Go.Gm.nth x i)) Try.func85 rfl (by kernel_rfl) (Args.two .t .t)) r2 trivial
      (cF rfl (o_move .t (by rfl)) r1 trivial
      (cF rfl (o_move .t (by rfl)) r1 trivial
      (cF rfl (o_callP (count11_c y (Go.Gm.nth x i)) Try.func85 rfl (by kernel_rfl) (Args.two .t .t)) r2 trivial
      (cF rfl (o_neq .t .t) r2 trivial
      Chain.nil)))))))
      (by kernel_rfl) (by rw [hB]; kernel_rfl) ?_
    clear hS; intro a w F hS
    obtain ⟨F, hS⟩ := hS.norm [(0, _), (1, _), (4, _), (6, _), (12, _), (13, _), (14, _), (15, _), (16, _), (17, _), (18, _), (19, _), (20, _), (21, _), (22, _), (23, _), (24, _)] [(0, _)] ⟨rfl, rfl, rfl, rfl, rfl, rfl, rfl, rfl, rfl, rfl, rfl, rfl, rfl, rfl, rfl, rfl, rfl, trivial⟩ r1
    try dsimp only [rInt] at hS
    refine then_n ?_
    refine cond_b hS rfl (fun hc2 => ?_) (fun hc2 => ?_)
    ·skip
     have hg : false = decide (x.Perm y) := (decide_eq_false fun hp => by have := hp.count_eq (Go.Gm.nth x i); simp at hc2; omega).symm
     refine wp_seq ?_
     refine region_seq hS (by kernel_rfl)
       (cF rfl (o_assign .cb (by rfl)) trivial trivial
       Chain.nil)
       (by kernel_rfl) (by rw [hB]; kernel_rfl) ?_
     clear hS; intro a w F hS
     obtain ⟨F, hS⟩ := hS.norm [(0, _), (1, _), (4, _), (6, _), (12, _), (13, _), (14, _), (15, _), (16, _), (17, _), (18, _), (19, _), (20, _), (21, _), (22, _), (23, _), (24, _)] [(0, _)] ⟨rfl, rfl, rfl, rfl, rfl, rfl, rfl, rfl, rfl, rfl, rfl, rfl, rfl, rfl, rfl, rfl, rfl, trivial⟩ r1
     try dsimp only [rInt] at hS
     refine then_n ?_
     refine wp_ret ?_
     refine block_r ?_
     refine then_r ?_
     refine then_r ?_
     refine block_r ?_
     refine then_r ?_
     refine ret_P hfr hS rfl (.tmp rfl .nil) (.one (.bool hg))
    ·skip
     have hne : x.count (Go.Gm.nth x i) = y.count (Go.Gm.nth x i) := by simp at hc2; omega
     refine wp_skip ?_
     refine block_n ?_
     refine then_n ?_
     refine region_seq hS (by kernel_rfl)
       (cF rfl (o_add .t (.ci (by kernel_rfl))) r1 trivial
       (cF rfl (o_move .t (by rfl)) r1 trivial
       Chain.nil))
       (by kernel_rfl) (by rw [hB]; kernel_rfl) ?_
     clear hS; intro a w F hS
     obtain ⟨F, hS⟩ := hS.norm [(0, _), (1, _), (4, _), (6, _), (12, _), (13, _), (14, _), (15, _), (16, _), (17, _), (18, _), (19, _), (20, _), (21, _), (22, _), (23, _), (24, _), (25, _)] [(0, _)] ⟨rfl, rfl, rfl, rfl, rfl, rfl, rfl, rfl, rfl, rfl, rfl, rfl, rfl, rfl, rfl, rfl, rfl, rfl, trivial⟩ r1
     try dsimp only [rInt] at hS
     refine then_n ?_
     replace hS := hS.ent (i := 14) (s' := .pv (.int .i64 ((i + 1 : Nat) : Int))) rfl (.int (wrap_succ (by omega)))
     obtain ⟨F, hS⟩ := hS.norm [(14, _), (0, _), (1, _), (4, _), (12, _), (13, _)] [(0, _)] ⟨rfl, rfl, rfl, rfl, rfl, rfl, trivial⟩ ⟨rfl, trivial⟩
     exact ⟨(i + 1), F, ⟨by omega, (fun k hk => by rcases Nat.lt_or_eq_of_le (Nat.le_of_lt_succ hk) with h | h; exact hq k h; rw [h]; exact hne)⟩, hS, by omega⟩
   ·skip
    have hil : i = x.length := by simp at hc1; omega
    have hg : true = decide (x.Perm y) := (decide_eq_true (perm_counts.1 ⟨hxy, fun v hv => by obtain ⟨k, hk, rfl⟩ := List.getElem_of_mem hv; rw [← nth_eq hk]; exact hq k (by simp at hc1; omega)⟩)).symm
    refine wp_exit ?_
    refine then_x ?_
    refine then_x ?_
    refine block_x ?_
    refine then_n ?_
    refine wp_seq ?_
    refine region_seq hS (by kernel_rfl)
      (cF rfl (o_assign .cb (by rfl)) trivial trivial
      Chain.nil)
      (by kernel_rfl) (by rw [hB]; kernel_rfl) ?_
    clear hS; intro a w F hS
    obtain ⟨F, hS⟩ := hS.norm [(4, _)] [(0, _)] r1 r1
    try dsimp only [rInt] at hS
    refine then_n ?_
    refine wp_ret ?_
    refine ret_P hfr hS rfl (.tmp rfl .nil) (.one (.bool hg))

end Go.Proofs.Ytpjjmolibanakaa
