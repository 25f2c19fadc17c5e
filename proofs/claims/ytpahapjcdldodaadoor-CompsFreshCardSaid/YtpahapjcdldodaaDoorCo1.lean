/- Components: the document. No condition beyond those that each theorem says. -/
import Derived.Test.YtpahapjcdldodaaDoorCo0
namespace Go.Proofs.YtpahapjcdldodaaDoor
open Go Go.Gm
set_option linter.unusedVariables false
set_option linter.unusedSimpArgs false
set_option maxHeartbeats 4000000
set_option maxRecDepth 8000


theorem labels23_c (n : Nat) (q : List PairD) (hn : n ≤ 4096) (hl : q.length ≤ 900000) : FnP Tryd.prog 56 [.int .i64 (n : Int), .sl rArc (arcsQ q)] (.sl rInt (labsQ n q)) := by
  refine FnP.mk Tryd.func56 rfl Tryd.ntmps56 rfl ?_
  intro B a w F hB hfr hS
  refine wp_seq ?_
  refine region_q hS
    (cF rfl (oN (.c rfl)) trivial trivial
    Chain.nil)
    hB ?_
  clear hS; intro a w F hS
  obtain ⟨F, hS⟩ := hS.nm [4, 1, 0] [0] rfl rfl
  try dsimp only [rArc, rInt, rPair, rRow, rPart] at hS
  refine then_n (wp_seq ?_)
  refine region_q hS
    (cF rfl (oN (.c rfl)) trivial trivial
    Chain.nil)
    hB ?_
  clear hS; intro a w F hS
  obtain ⟨F, hS⟩ := hS.nm [5, 4, 1, 0] [0] rfl rfl
  try dsimp only [rArc, rInt, rPair, rRow, rPart] at hS
  refine then_n (wp_seq (wp_seq ?_))
  refine region_q hS
    (cF rfl (oN (.ci (by kernel_rfl))) trivial trivial
    Chain.nil)
    hB ?_
  clear hS; intro a w F hS
  obtain ⟨F, hS⟩ := hS.nm [6, 5, 4, 1, 0] [0] rfl rfl
  try dsimp only [rArc, rInt, rPair, rRow, rPart] at hS
  refine then_n (wp_block ?_)
  replace hS := hS.fresh 50 rfl
  replace hS := hS.turn 50 rfl (nilRow (T := 30) (sz := 1) (R := rRow))
  refine loop_keep (σ := Nat × Value × List (List Int)) [0, 1, 4] [0] (fun s => [(6, .pv (.int .i64 (s.1 : Int))), (5, .pv (.is s.2.1))]) (fun s => [(50, .ob (.val s.2.1) (rowH 30 1 rRow s.2.2))]) (fun s => s.1 ≤ n ∧ s.2.2 = ((List.range s.1).map fun i : Nat => reachQ q (i : Int))) (fun s => n - s.1) ((0), (.slice none 0 0), ([])) hS ⟨rfl, rfl, rfl, rfl, rfl, trivial⟩ ⟨rfl, rfl, trivial⟩ ⟨Nat.zero_le _, rfl⟩ ?_
  clear hS; intro s a w F hC hS
  obtain ⟨k, v, out⟩ := s
  try dsimp only at hC
  obtain ⟨F, hS⟩ := hS.nm [6, 5, 4, 1, 0] [50, 0] rfl rfl
  try dsimp only at hS
  obtain ⟨hk, hq⟩ := hC
  have hol : out.length = k := by rw [hq, List.length_map, List.length_range]
  refine wp_seq (wp_seq ?_)
  refine region_q hS
    (cF rfl (oM .t) r1 trivial
    (cF rfl (oM .t) r1 trivial
    (cF rfl (o_lss .t .t) r2 trivial
    Chain.nil)))
    hB ?_
  clear hS; intro a w F hS
  obtain ⟨F, hS⟩ := hS.nm [13, 6, 5, 4, 1, 0] [50, 0] rfl rfl
  try dsimp only [rArc, rInt, rPair, rRow, rPart] at hS
  refine then_n ?_
  refine cond_b hS rfl (fun hc0 => ?_) (fun hc0 => ?_)
  ·skip
   have hkn : k < n := by simp at hc0; omega
   refine wp_skip (then_n (wp_seq (wp_block ?_)))
   refine region_q hS
     (cF rfl (oM .t) r1 trivial
     (cF rfl (oM .t) r1 trivial
     (cF rfl (oM .t) r1 trivial
     (cF rfl (oP (reach23_c (arcsQ q) (k : Int) (by have := arcsQ_len q; omega)) Tryd.func42 (Args.two .t .t)) r2 trivial
     (cF rfl (o_buildSliceE (sz := 1) (zs := [.slice none 0 0]) (r := [(0, .tmp 19)]) (l := [_]) Tryd.underlying28 (by kernel_rfl) (by kernel_rfl) (by kernel_rfl) (by kernel_rfl) rfl rfl (.one rfl .t one_sl (by kernel_rfl) .nil) rfl) r1 trivial
     (cF rfl (o_append (sz := 1) (bs := 24) 50 (.mk' Tryd.underlying28 (by kernel_rfl) (by kernel_rfl)) (by intro x; rfl) .is (.arr (l' := [(reachA (arcsQ q) (k : Int))]) .t) (by simp only [List.length_append, List.length_cons, List.length_nil]; omega) (by decide)) ⟨rfl, rfl, trivial⟩ ⟨rfl, trivial⟩
     (cF rfl (oN .t) r1 trivial
     Chain.nil)))))))
     hB ?_
   clear hS; intro a w F hS
   replace hS := hS.sub
   obtain ⟨F, hS⟩ := hS.nm [6, 5, 4, 1, 0] [50, 0] rfl rfl
   try dsimp only [RS.sub, SF.sub, CF.sub, csub, Anc.sub, List.map, stCells, xL, xM, Nat.reduceAdd, xD, xE, xT, xU, xC, xN, zCF, rArc, rInt, rPair, rRow, rPart] at hS
   generalize Act.tau a 21 = v21 at hS
   refine block_n (then_n ?_)
   refine region_q hS
     (cF rfl (oM .t) r1 trivial
     (cF rfl (o_add .t (.ci (by kernel_rfl))) r1 trivial
     (cF rfl (oN .t) r1 trivial
     Chain.nil)))
     hB ?_
   clear hS; intro a w F hS
   obtain ⟨F, hS⟩ := hS.nm [6, 5, 4, 1, 0] [50, 0] rfl rfl
   try dsimp only [rArc, rInt, rPair, rRow, rPart] at hS
   refine then_n ?_
   replace hS := hS.ent (i := 6) (s' := .pv (.int .i64 ((k + 1 : Nat) : Int))) rfl (.int (wrap_succ (by omega)))
   obtain ⟨F, hS⟩ := hS.nm [4, 1, 0, 5, 6] [0, 50] rfl rfl
   exact ⟨((k + 1), _, _), F, ⟨by omega, by rw [hq, List.range_succ, List.map_append]; rfl⟩, hS, (by show _ - (k + 1) < _ - k; omega)⟩
  have hk9 : k = n := by simp at hc0; omega
  rw [hk9] at hq
  have hout : out = (rowsQ q n) := hq
  rw [hout] at hS
  obtain ⟨F, hS⟩ := hS.give 50 5 rfl rfl
  obtain ⟨F, hS⟩ := hS.nm [13, 6, 5, 4, 1, 0] [0] rfl rfl
  refine wp_exit (then_x (then_x (block_x (then_n (wp_seq ?_)))))
  refine region_q hS
    (cF rfl (oN (.c rfl)) trivial trivial
    Chain.nil)
    hB ?_
  clear hS; intro a w F hS
  obtain ⟨F, hS⟩ := hS.nm [7, 5, 4, 0] [0] rfl rfl
  try dsimp only [rArc, rInt, rPair, rRow, rPart] at hS
  refine then_n (wp_seq (wp_seq ?_))
  refine region_q hS
    (cF rfl (oN (.ci (by kernel_rfl))) trivial trivial
    Chain.nil)
    hB ?_
  clear hS; intro a w F hS
  obtain ⟨F, hS⟩ := hS.nm [8, 7, 5, 4, 0] [0] rfl rfl
  try dsimp only [rArc, rInt, rPair, rRow, rPart] at hS
  refine then_n (wp_block ?_)
  replace hS := hS.fresh 51 rfl
  replace hS := hS.turn 51 rfl (nilRow (T := 3) (sz := 1) (R := rInt))
  refine loop_keep (σ := Nat × Value × List Int) [0, 4, 5] [0] (fun s => [(8, .pv (.int .i64 (s.1 : Int))), (7, .pv (.is s.2.1))]) (fun s => [(51, .ob (.val s.2.1) (rowH 3 1 rInt s.2.2))]) (fun s => s.1 ≤ n ∧ s.2.2 = ((List.range s.1).map fun i : Nat => labQ n q (i : Int))) (fun s => n - s.1) ((0), (.slice none 0 0), ([])) hS ⟨rfl, rfl, rfl, rfl, rfl, trivial⟩ ⟨rfl, rfl, trivial⟩ ⟨Nat.zero_le _, rfl⟩ ?_
  clear hS; intro s a w F hC hS
  obtain ⟨i, v2, o2⟩ := s
  try dsimp only at hC
  obtain ⟨F, hS⟩ := hS.nm [8, 7, 5, 4, 0] [51, 0] rfl rfl
  try dsimp only at hS
  obtain ⟨hi, hq⟩ := hC
  have hol : o2.length = i := by rw [hq, List.length_map, List.length_range]
  refine wp_seq (wp_seq ?_)
  refine region_q hS
    (cF rfl (oM .t) r1 trivial
    (cF rfl (oM .t) r1 trivial
    (cF rfl (o_lss .t .t) r2 trivial
    Chain.nil)))
    hB ?_
  clear hS; intro a w F hS
  obtain ⟨F, hS⟩ := hS.nm [24, 8, 7, 5, 4, 0] [51, 0] rfl rfl
  try dsimp only [rArc, rInt, rPair, rRow, rPart] at hS
  refine then_n ?_
  refine cond_b hS rfl (fun hc1 => ?_) (fun hc1 => ?_)
  ·skip
   have hin : i < n := by simp at hc1; omega
   refine wp_skip (then_n (wp_seq (wp_block (wp_seq ?_))))
   refine region_q hS
     (cF rfl (oM .t) r1 trivial
     (cF rfl (oN .t) r1 trivial
     Chain.nil))
     hB ?_
   clear hS; intro a w F hS
   obtain ⟨F, hS⟩ := hS.nm [9, 8, 7, 5, 4, 0] [51, 0] rfl rfl
   try dsimp only [rArc, rInt, rPair, rRow, rPart] at hS
   refine then_n (wp_seq (wp_seq ?_))
   refine region_q hS
     (cF rfl (oM .t) r1 trivial
     (cF rfl (o_sub .t (.ci (by kernel_rfl))) r1 trivial
     (cF rfl (oN .t) r1 trivial
     Chain.nil)))
     hB ?_
   clear hS; intro a w F hS
   obtain ⟨F, hS⟩ := hS.nm [10, 9, 8, 7, 5, 4, 0] [51, 0] rfl rfl
   try dsimp only [rArc, rInt, rPair, rRow, rPart] at hS
   refine then_n (wp_block ?_)
   replace hS := hS.ent (i := 9) (s' := .pv (.int .i64 (labP q i i))) rfl (.int (labP_start q i).symm)
   replace hS := hS.ent (i := 10) (s' := .pv (.int .i64 ((i : Int) - 1))) rfl (.int (by rw [wrap_i64 (by omega)]))
   refine loop_keep (σ := Nat) [0, 4, 5, 7, 8] [0, 51] (fun s => [(9, .pv (.int .i64 (labP q i s))), (10, .pv (.int .i64 ((s : Int) - 1)))]) (fun s => []) (fun s => s ≤ i) (fun s => s) (i) hS ⟨rfl, rfl, rfl, rfl, rfl, rfl, rfl, trivial⟩ ⟨rfl, rfl, trivial⟩ (Nat.le_refl _) ?_
   clear hS; intro m a w F hC hS
   try dsimp only at hC
   obtain ⟨F, hS⟩ := hS.nm [10, 9, 8, 7, 5, 4, 0] [51, 0] rfl rfl
   try dsimp only at hS
   have hm : m ≤ i := hC
   refine wp_seq (wp_seq ?_)
   refine region_q hS
     (cF rfl (oM .t) r1 trivial
     (cF rfl (o_geq .t (.ci (by kernel_rfl))) r1 trivial
     Chain.nil))
     hB ?_
   clear hS; intro a w F hS
   obtain ⟨F, hS⟩ := hS.nm [31, 10, 9, 8, 7, 5, 4, 0] [51, 0] rfl rfl
   try dsimp only [rArc, rInt, rPair, rRow, rPart] at hS
   refine then_n ?_
   refine cond_b hS rfl (fun hc2 => ?_) (fun hc2 => ?_)
   ·skip
    have hm0 : 0 < m := by simp at hc2; omega
    obtain ⟨k, rfl⟩ : ∃ k, m = k + 1 := ⟨m - 1, by omega⟩
    have hk1 : (((k + 1 : Nat) : Int) - 1) = (k : Int) := by omega
    rw [hk1] at hS
    refine wp_skip (then_n (wp_seq (wp_block (wp_seq ?_))))
    refine region_q hS
      (cF rfl (oM .t) r1 trivial
      (cF rfl (oM .t) r1 trivial
      (cF rfl (o_indexAddr_sl (sz := 1) (.mk Tryd.underlying28 (by kernel_rfl)) (by intro x; rfl) .t .t (by omega) (by rw [rowsQ_len]; omega)) r2 trivial
      (cF rfl (oR false 1 .t) r1 trivial
      (cF rfl (oM .t) r1 trivial
      (cF rfl (oP (in_c (Go.Gm.nth (rowsQ q n) i) (k : Int) (by rw [rowsQ_nth hin]; have := reachQ_len q (i : Int); omega)) Tryd.func22 (Args.two .t .t)) r2 trivial
      (cF rfl (oM .t) r1 trivial
      (Chain.cons (Cert.cond rfl rfl (fun h => o_move .t (by rfl))) r2 trivial
      (Chain.cons (Cert.cond rfl rfl (fun h => o_move .t (by rfl))) r2 trivial
      (Chain.cons (Cert.cond rfl rfl (fun h => o_indexAddr_sl (sz := 1) (.mk Tryd.underlying28 (by kernel_rfl)) (by intro x; rfl) (.w h) (.w h) (by omega) (by rw [rowsQ_len]; omega))) r3 trivial
      (Chain.cons (Cert.cond rfl rfl (fun h => o_load_ref (ag := false) (sz := 1) (.w h) (by kernel_rfl) (by kernel_rfl) (by kernel_rfl))) r2 trivial
      (Chain.cons (Cert.cond rfl rfl (fun h => o_move .t (by rfl))) r2 trivial
      (Chain.cons (Cert.cond rfl rfl (fun h => o_callP (in_c (Go.Gm.nth (rowsQ q n) k) (i : Int) (by rw [rowsQ_nth (by omega)]; have := reachQ_len q (k : Int); omega)) Tryd.func22 rfl (by kernel_rfl) (Args.two (.w h) (.w h)))) r3 trivial
      (cF rfl (o_and2 .t .t) r2 trivial
      Chain.nil))))))))))))))
      hB ?_
    clear hS; intro a w F hS
    obtain ⟨F, hS⟩ := hS.nm [47, 10, 9, 8, 7, 5, 4, 0] [51, 0] rfl rfl
    try dsimp only [List.map, xD, xE, xT, xU, ldSF, rArc, rInt, rPair, rRow, rPart] at hS
    try simp only [Int.toNat_natCast] at hS
    refine then_n ?_
    refine cond_b hS rfl (fun hc3 => ?_) (fun hc3 => ?_)
    ·skip
     have hlb : (k : Int) = labP q i k := by
       rw [labP_step (by omega), if_pos]
       rw [rowsQ_nth hin, rowsQ_nth (show k < n by omega)] at hc3
       exact .inr (by simpa using hc3)
     refine region_q hS
       (cF rfl (oM .t) r1 trivial
       (cF rfl (oN .t) r1 trivial
       Chain.nil))
       hB ?_
     clear hS; intro a w F hS
     obtain ⟨F, hS⟩ := hS.nm [10, 9, 8, 7, 5, 4, 0] [51, 0] rfl rfl
     try dsimp only [rArc, rInt, rPair, rRow, rPart] at hS
     refine block_n (then_n ?_)
     refine region_q hS
       (cF rfl (oM .t) r1 trivial
       (cF rfl (o_sub .t (.ci (by kernel_rfl))) r1 trivial
       (cF rfl (oN .t) r1 trivial
       Chain.nil)))
       hB ?_
     clear hS; intro a w F hS
     obtain ⟨F, hS⟩ := hS.nm [10, 9, 8, 7, 5, 4, 0] [51, 0] rfl rfl
     try dsimp only [rArc, rInt, rPair, rRow, rPart] at hS
     refine then_n ?_
     replace hS := hS.ent (i := 9) (s' := .pv (.int .i64 (labP q i k))) rfl (.int hlb)
     replace hS := hS.ent (i := 10) (s' := .pv (.int .i64 ((k : Int) - 1))) rfl (.int (by rw [wrap_i64 (by omega)]))
     obtain ⟨F, hS⟩ := hS.nm [8, 7, 5, 4, 0, 10, 9] [51, 0] rfl rfl
     exact ⟨(k), F, (by show k ≤ i; omega), hS, (by show k < k + 1; omega)⟩
    have hlb : labP q i (k + 1) = labP q i k := by
      rw [labP_step (m := k) (by omega), if_neg]
      rw [rowsQ_nth hin, rowsQ_nth (show k < n by omega)] at hc3
      rintro (h9 | h9)
      · omega
      · simp [h9] at hc3
    refine wp_skip (block_n (then_n ?_))
    refine region_q hS
      (cF rfl (oM .t) r1 trivial
      (cF rfl (o_sub .t (.ci (by kernel_rfl))) r1 trivial
      (cF rfl (oN .t) r1 trivial
      Chain.nil)))
      hB ?_
    clear hS; intro a w F hS
    obtain ⟨F, hS⟩ := hS.nm [10, 9, 8, 7, 5, 4, 0] [51, 0] rfl rfl
    try dsimp only [rArc, rInt, rPair, rRow, rPart] at hS
    refine then_n ?_
    replace hS := hS.ent (i := 9) (s' := .pv (.int .i64 (labP q i k))) rfl (.int hlb)
    replace hS := hS.ent (i := 10) (s' := .pv (.int .i64 ((k : Int) - 1))) rfl (.int (by rw [wrap_i64 (by omega)]))
    obtain ⟨F, hS⟩ := hS.nm [8, 7, 5, 4, 0, 10, 9] [51, 0] rfl rfl
    exact ⟨(k), F, (by show k ≤ i; omega), hS, (by show k < k + 1; omega)⟩
   have hm0 : m = 0 := by simp at hc2; omega
   rw [hm0] at hS
   refine wp_exit (then_x (then_x (block_x (then_n ?_))))
   refine region_q hS
     (cF rfl (oM .t) r1 trivial
     (cF rfl (oM .t) r1 trivial
     (cF rfl (o_buildSliceE (sz := 1) (zs := [.int .i64 0]) (r := [(0, .tmp 50)]) (l := [_]) Tryd.underlying30 (by kernel_rfl) (by kernel_rfl) (by kernel_rfl) (by kernel_rfl) rfl rfl (.one rfl .t one_int (by kernel_rfl) .nil) rfl) r1 trivial
     (cF rfl (o_append (sz := 1) (bs := 8) 51 (.mk' Tryd.underlying30 (by kernel_rfl) (by kernel_rfl)) (by intro x; rfl) .is (.arr (l' := [(labP q i 0)]) .t) (by simp only [List.length_append, List.length_cons, List.length_nil]; omega) (by decide)) ⟨rfl, rfl, trivial⟩ ⟨rfl, trivial⟩
     (cF rfl (oN .t) r1 trivial
     Chain.nil)))))
     hB ?_
   clear hS; intro a w F hS
   replace hS := hS.sub
   obtain ⟨F, hS⟩ := hS.nm [8, 7, 5, 4, 0] [51, 0] rfl rfl
   try dsimp only [RS.sub, SF.sub, CF.sub, csub, Anc.sub, List.map, stCells, xL, xM, Nat.reduceAdd, xD, xE, xT, xU, xC, xN, zCF, rArc, rInt, rPair, rRow, rPart] at hS
   generalize Act.tau a 52 = v52 at hS
   refine block_n (then_n ?_)
   refine region_q hS
     (cF rfl (oM .t) r1 trivial
     (cF rfl (o_add .t (.ci (by kernel_rfl))) r1 trivial
     (cF rfl (oN .t) r1 trivial
     Chain.nil)))
     hB ?_
   clear hS; intro a w F hS
   obtain ⟨F, hS⟩ := hS.nm [8, 7, 5, 4, 0] [51, 0] rfl rfl
   try dsimp only [rArc, rInt, rPair, rRow, rPart] at hS
   refine then_n ?_
   replace hS := hS.ent (i := 8) (s' := .pv (.int .i64 ((i + 1 : Nat) : Int))) rfl (.int (wrap_succ (by omega)))
   obtain ⟨F, hS⟩ := hS.nm [5, 4, 0, 7, 8] [0, 51] rfl rfl
   exact ⟨((i + 1), _, _), F, ⟨by omega, by rw [hq, List.range_succ, List.map_append, labP_end hin]; rfl⟩, hS, (by show _ - (i + 1) < _ - i; omega)⟩
  have hi9 : i = n := by simp at hc1; omega
  refine wp_exit (then_x (then_x (block_x (then_n (wp_seq ?_)))))
  refine region_q hS
    (cF rfl (oM .t) r1 trivial
    (cF rfl (oN .t) r1 trivial
    Chain.nil))
    hB ?_
  clear hS; intro a w F hS
  obtain ⟨F, hS⟩ := hS.nm [4] [51, 0] rfl rfl
  try dsimp only [rArc, rInt, rPair, rRow, rPart] at hS
  refine then_n (wp_ret ?_)
  obtain ⟨F, hS⟩ := hS.give 51 4 rfl rfl
  refine ret_P hfr hS rfl (.tmp rfl .nil) (.one (.sl (by rw [hq, hi9]; rfl)))

theorem members23_c (ll : List Int) (x : Int) (hl : ll.length ≤ 900000) : FnP Tryd.prog 57 [.sl rInt ll, .int .i64 x] (.sl rInt (membersD ll x)) := by
  refine FnP.mk Tryd.func57 rfl Tryd.ntmps57 rfl ?_
  intro B a w F hB hfr hS
  have hll := Sat.lenSl hS (i := 0) rfl
  refine wp_seq ?_
  refine region_q hS
    (cF rfl (oN (.c rfl)) trivial trivial
    Chain.nil)
    hB ?_
  clear hS; intro a w F hS
  obtain ⟨F, hS⟩ := hS.nm [4, 1, 0] [0] rfl rfl
  try dsimp only [rArc, rInt, rPair, rRow, rPart] at hS
  refine then_n (wp_seq ?_)
  refine region_q hS
    (cF rfl (oN (.c rfl)) trivial trivial
    Chain.nil)
    hB ?_
  clear hS; intro a w F hS
  obtain ⟨F, hS⟩ := hS.nm [5, 4, 1, 0] [0] rfl rfl
  try dsimp only [rArc, rInt, rPair, rRow, rPart] at hS
  refine then_n (wp_seq (wp_seq ?_))
  refine region_q hS
    (cF rfl (oM .t) r1 trivial
    (cF rfl (o_len_sl Tryd.underlying30 .t) r1 trivial
    (cF rfl (oM (.ci (by kernel_rfl))) trivial trivial
    Chain.nil)))
    hB ?_
  clear hS; intro a w F hS
  obtain ⟨F, hS⟩ := hS.nm [10, 9, 8, 5, 4, 1] [0] rfl rfl
  try dsimp only [rArc, rInt, rPair, rRow, rPart] at hS
  refine then_n (wp_block ?_)
  replace hS := hS.fresh 50 rfl
  replace hS := hS.turn 50 rfl (nilRow (T := 3) (sz := 1) (R := rInt))
  refine loop_keep (σ := (Nat) × (Value) × (List Int)) [1, 4, 8, 9] [0] (fun s => [(10, .pv (.int .i64 (s.1 : Int))), (5, .pv (.is s.2.1))]) (fun s => [(50, .ob (.val s.2.1) (rowH 3 1 rInt s.2.2))]) (fun s => s.1 ≤ ll.length ∧ (s.2.2 = membersP ll x s.1)) (fun s => ll.length - s.1) ((0), (.slice none 0 0), ([])) hS ⟨rfl, rfl, rfl, rfl, rfl, rfl, trivial⟩ ⟨rfl, rfl, trivial⟩ ⟨Nat.zero_le _, rfl⟩ ?_
  clear hS; intro s a w F hC hS
  obtain ⟨i, v, out⟩ := s
  try dsimp only at hC
  obtain ⟨F, hS⟩ := hS.nm [10, 9, 8, 5, 4, 1] [50, 0] rfl rfl
  try dsimp only at hS
  obtain ⟨hi, hq⟩ := hC
  have hol : out.length ≤ i := by rw [hq]; exact membersP_len _ _ _
  refine wp_seq ?_
  refine region_q hS
    (cF rfl (o_lss .t .t) r2 trivial
    Chain.nil)
    hB ?_
  clear hS; intro a w F hS
  obtain ⟨F, hS⟩ := hS.nm [11, 10, 9, 8, 5, 4, 1] [50, 0] rfl rfl
  try dsimp only [rArc, rInt, rPair, rRow, rPart] at hS
  refine then_n (wp_seq ?_)
  refine cond_b hS rfl (fun hc0 => ?_) (fun hc0 => ?_)
  ·skip
   have hil : i < ll.length := by simp at hc0; omega
   refine wp_skip (then_n (wp_seq (wp_block (wp_seq ?_))))
   refine region_q hS
     (cF rfl (oM .t) r1 trivial
     (cF rfl (o_indexAddr_sl (sz := 1) (.mk Tryd.underlying30 (by kernel_rfl)) (by intro x; rfl) .t .t (by omega) (by omega)) r2 trivial
     (cF rfl (oR false 1 .t) r1 trivial
     (cF rfl (oN .t) r1 trivial
     (cF rfl (oN .t) r1 trivial
     Chain.nil)))))
     hB ?_
   clear hS; intro a w F hS
   obtain ⟨F, hS⟩ := hS.nm [10, 9, 8, 7, 6, 5, 4, 1] [50, 0] rfl rfl
   try dsimp only [List.map, xD, xE, xT, xU, ldSF, rArc, rInt, rPair, rRow, rPart] at hS
   try simp only [Int.toNat_natCast] at hS
   refine then_n (wp_seq ?_)
   refine region_q hS
     (cF rfl (oM .t) r1 trivial
     (cF rfl (oM .t) r1 trivial
     (cF rfl (o_eql .t .t) r2 trivial
     Chain.nil)))
     hB ?_
   clear hS; intro a w F hS
   obtain ⟨F, hS⟩ := hS.nm [17, 10, 9, 8, 6, 5, 4, 1] [50, 0] rfl rfl
   try dsimp only [rArc, rInt, rPair, rRow, rPart] at hS
   refine then_n ?_
   refine cond_b hS rfl (fun hc1 => ?_) (fun hc1 => ?_)
   ·skip
    have hBq : Go.Gm.nth ll i = x := by simpa using hc1
    refine region_q hS
      (cF rfl (oM .t) r1 trivial
      (cF rfl (oM .t) r1 trivial
      (cF rfl (o_buildSliceE (sz := 1) (zs := [.int .i64 0]) (r := [(0, .tmp 19)]) (l := [_]) Tryd.underlying30 (by kernel_rfl) (by kernel_rfl) (by kernel_rfl) (by kernel_rfl) rfl rfl (.one rfl .t one_int (by kernel_rfl) .nil) rfl) r1 trivial
      (cF rfl (o_append (sz := 1) (bs := 8) 50 (.mk' Tryd.underlying30 (by kernel_rfl) (by kernel_rfl)) (by intro x; rfl) .is (.arr (l' := [(i : Int)]) .t) (by simp only [List.length_append, List.length_cons, List.length_nil]; omega) (by decide)) ⟨rfl, rfl, trivial⟩ ⟨rfl, trivial⟩
      (cF rfl (oN .t) r1 trivial
      Chain.nil)))))
      hB ?_
    clear hS; intro a w F hS
    replace hS := hS.sub
    obtain ⟨F, hS⟩ := hS.nm [10, 9, 8, 5, 4, 1] [50, 0] rfl rfl
    try dsimp only [RS.sub, SF.sub, CF.sub, csub, Anc.sub, List.map, stCells, xL, xM, Nat.reduceAdd, xD, xE, xT, xU, xC, xN, zCF, rArc, rInt, rPair, rRow, rPart] at hS
    generalize Act.tau a 21 = v21 at hS
    refine block_n (then_n ?_)
    refine region_q hS
      (cF rfl (o_add .t (.ci (by kernel_rfl))) r1 trivial
      (cF rfl (oM .t) r1 trivial
      Chain.nil))
      hB ?_
    clear hS; intro a w F hS
    obtain ⟨F, hS⟩ := hS.nm [10, 9, 8, 5, 4, 1] [50, 0] rfl rfl
    try dsimp only [rArc, rInt, rPair, rRow, rPart] at hS
    refine then_n ?_
    replace hS := hS.ent (i := 10) (s' := .pv (.int .i64 ((i + 1 : Nat) : Int))) rfl (.int (wrap_succ (by omega)))
    obtain ⟨F, hS⟩ := hS.nm [9, 8, 4, 1, 5, 10] [0, 50] rfl rfl
    exact ⟨((i + 1), _, _), F, ⟨by omega, (by rw [membersP_next, ← hq]; simp [hBq])⟩, hS, by omega⟩
   have hBq : ¬ Go.Gm.nth ll i = x := by simpa using hc1
   refine wp_skip (block_n (then_n ?_))
   refine region_q hS
     (cF rfl (o_add .t (.ci (by kernel_rfl))) r1 trivial
     (cF rfl (oM .t) r1 trivial
     Chain.nil))
     hB ?_
   clear hS; intro a w F hS
   obtain ⟨F, hS⟩ := hS.nm [10, 9, 8, 5, 4, 1] [50, 0] rfl rfl
   try dsimp only [rArc, rInt, rPair, rRow, rPart] at hS
   refine then_n ?_
   replace hS := hS.ent (i := 10) (s' := .pv (.int .i64 ((i + 1 : Nat) : Int))) rfl (.int (wrap_succ (by omega)))
   obtain ⟨F, hS⟩ := hS.nm [9, 8, 4, 1, 5, 10] [0, 50] rfl rfl
   exact ⟨((i + 1), _, _), F, ⟨by omega, (by rw [membersP_next, ← hq]; simp [hBq])⟩, hS, by omega⟩
  have hil : i = ll.length := by simp at hc0; omega
  refine wp_exit (then_x (then_x (block_x (then_n (wp_seq ?_)))))
  refine region_q hS
    (cF rfl (oM .t) r1 trivial
    (cF rfl (oN .t) r1 trivial
    Chain.nil))
    hB ?_
  clear hS; intro a w F hS
  obtain ⟨F, hS⟩ := hS.nm [4] [50, 0] rfl rfl
  try dsimp only [rArc, rInt, rPair, rRow, rPart] at hS
  refine then_n (wp_ret ?_)
  obtain ⟨F, hS⟩ := hS.give 50 4 rfl rfl
  refine ret_P hfr hS rfl (.tmp rfl .nil) (.one (.sl (by rw [hq, hil]; rfl)))

theorem round23_c (n : Nat) (q : List PairD) (hn : n ≤ 4096) (hl : q.length ≤ 900000) : FnP Tryd.prog 32 [.int .i64 (n : Int), .sl rArc (arcsQ q)] (.sl rInt (roundP q n)) := by
  refine FnP.mk Tryd.func32 rfl Tryd.ntmps32 rfl ?_
  intro B a w F hB hfr hS
  refine wp_seq ?_
  refine region_q hS
    (cF rfl (oN (.c rfl)) trivial trivial
    Chain.nil)
    hB ?_
  clear hS; intro a w F hS
  obtain ⟨F, hS⟩ := hS.nm [4, 1, 0] [0] rfl rfl
  try dsimp only [rArc, rInt, rPair, rRow, rPart] at hS
  refine then_n (wp_seq ?_)
  refine region_q hS
    (cF rfl (oN (.c rfl)) trivial trivial
    Chain.nil)
    hB ?_
  clear hS; intro a w F hS
  obtain ⟨F, hS⟩ := hS.nm [5, 4, 1, 0] [0] rfl rfl
  try dsimp only [rArc, rInt, rPair, rRow, rPart] at hS
  refine then_n (wp_seq (wp_seq ?_))
  refine region_q hS
    (cF rfl (oN (.ci (by kernel_rfl))) trivial trivial
    Chain.nil)
    hB ?_
  clear hS; intro a w F hS
  obtain ⟨F, hS⟩ := hS.nm [6, 5, 4, 1, 0] [0] rfl rfl
  try dsimp only [rArc, rInt, rPair, rRow, rPart] at hS
  refine then_n (wp_block ?_)
  replace hS := hS.fresh 50 rfl
  replace hS := hS.turn 50 rfl (nilRow (T := 3) (sz := 1) (R := rInt))
  refine loop_keep (σ := Nat × Value × List Int) [0, 1, 4] [0] (fun s => [(6, .pv (.int .i64 (s.1 : Int))), (5, .pv (.is s.2.1))]) (fun s => [(50, .ob (.val s.2.1) (rowH 3 1 rInt s.2.2))]) (fun s => s.1 ≤ n ∧ s.2.2 = roundP q s.1) (fun s => n - s.1) ((0), (.slice none 0 0), ([])) hS ⟨rfl, rfl, rfl, rfl, rfl, trivial⟩ ⟨rfl, rfl, trivial⟩ ⟨Nat.zero_le _, rfl⟩ ?_
  clear hS; intro s a w F hC hS
  obtain ⟨k, v, out⟩ := s
  try dsimp only at hC
  obtain ⟨F, hS⟩ := hS.nm [6, 5, 4, 1, 0] [50, 0] rfl rfl
  try dsimp only at hS
  obtain ⟨hk, hq⟩ := hC
  have hol : out.length ≤ k := by rw [hq]; exact roundP_len _ _
  refine wp_seq (wp_seq ?_)
  refine region_q hS
    (cF rfl (oM .t) r1 trivial
    (cF rfl (oM .t) r1 trivial
    (cF rfl (o_lss .t .t) r2 trivial
    Chain.nil)))
    hB ?_
  clear hS; intro a w F hS
  obtain ⟨F, hS⟩ := hS.nm [9, 6, 5, 4, 1, 0] [50, 0] rfl rfl
  try dsimp only [rArc, rInt, rPair, rRow, rPart] at hS
  refine then_n ?_
  refine cond_b hS rfl (fun hc0 => ?_) (fun hc0 => ?_)
  ·skip
   have hkn : k < n := by simp at hc0; omega
   refine wp_skip (then_n (wp_seq (wp_block (wp_seq ?_))))
   refine region_q hS
     (cF rfl (oM .t) r1 trivial
     (cF rfl (oM .t) r1 trivial
     (cF rfl (oP (reach23_c (arcsQ q) (k : Int) (by have := arcsQ_len q; omega)) Tryd.func42 (Args.two .t .t)) r2 trivial
     (cF rfl (oM .t) r1 trivial
     (cF rfl (oP (in_c (reachA (arcsQ q) (k : Int)) (k : Int) (by have := reachQ_len q (k : Int); show (reachQ q (k : Int)).length ≤ _; omega)) Tryd.func22 (Args.two .t .t)) r2 trivial
     Chain.nil)))))
     hB ?_
   clear hS; intro a w F hS
   obtain ⟨F, hS⟩ := hS.nm [16, 6, 5, 4, 1, 0] [50, 0] rfl rfl
   try dsimp only [rArc, rInt, rPair, rRow, rPart] at hS
   refine then_n ?_
   refine cond_b hS rfl (fun hc1 => ?_) (fun hc1 => ?_)
   ·skip
    have hBq : (k : Int) ∈ reachQ q (k : Int) := (by simpa using hc1 : (k : Int) ∈ reachA (arcsQ q) (k : Int))
    refine region_q hS
      (cF rfl (oM .t) r1 trivial
      (cF rfl (oM .t) r1 trivial
      (cF rfl (o_buildSliceE (sz := 1) (zs := [.int .i64 0]) (r := [(0, .tmp 18)]) (l := [_]) Tryd.underlying30 (by kernel_rfl) (by kernel_rfl) (by kernel_rfl) (by kernel_rfl) rfl rfl (.one rfl .t one_int (by kernel_rfl) .nil) rfl) r1 trivial
      (cF rfl (o_append (sz := 1) (bs := 8) 50 (.mk' Tryd.underlying30 (by kernel_rfl) (by kernel_rfl)) (by intro x; rfl) .is (.arr (l' := [(k : Int)]) .t) (by simp only [List.length_append, List.length_cons, List.length_nil]; omega) (by decide)) ⟨rfl, rfl, trivial⟩ ⟨rfl, trivial⟩
      (cF rfl (oN .t) r1 trivial
      Chain.nil)))))
      hB ?_
    clear hS; intro a w F hS
    replace hS := hS.sub
    obtain ⟨F, hS⟩ := hS.nm [6, 5, 4, 1, 0] [50, 0] rfl rfl
    try dsimp only [RS.sub, SF.sub, CF.sub, csub, Anc.sub, List.map, stCells, xL, xM, Nat.reduceAdd, xD, xE, xT, xU, xC, xN, zCF, rArc, rInt, rPair, rRow, rPart] at hS
    generalize Act.tau a 20 = v20 at hS
    refine block_n (then_n ?_)
    refine region_q hS
      (cF rfl (oM .t) r1 trivial
      (cF rfl (o_add .t (.ci (by kernel_rfl))) r1 trivial
      (cF rfl (oN .t) r1 trivial
      Chain.nil)))
      hB ?_
    clear hS; intro a w F hS
    obtain ⟨F, hS⟩ := hS.nm [6, 5, 4, 1, 0] [50, 0] rfl rfl
    try dsimp only [rArc, rInt, rPair, rRow, rPart] at hS
    refine then_n ?_
    replace hS := hS.ent (i := 6) (s' := .pv (.int .i64 ((k + 1 : Nat) : Int))) rfl (.int (wrap_succ (by omega)))
    obtain ⟨F, hS⟩ := hS.nm [4, 1, 0, 5, 6] [0, 50] rfl rfl
    exact ⟨((k + 1), _, _), F, ⟨by omega, by rw [roundP_next, ← hq]; simp [hBq]⟩, hS, (by show _ - (k + 1) < _ - k; omega)⟩
   have hBq : ¬ (k : Int) ∈ reachQ q (k : Int) := (by simpa using hc1 : ¬ (k : Int) ∈ reachA (arcsQ q) (k : Int))
   refine wp_skip (block_n (then_n ?_))
   refine region_q hS
     (cF rfl (oM .t) r1 trivial
     (cF rfl (o_add .t (.ci (by kernel_rfl))) r1 trivial
     (cF rfl (oN .t) r1 trivial
     Chain.nil)))
     hB ?_
   clear hS; intro a w F hS
   obtain ⟨F, hS⟩ := hS.nm [6, 5, 4, 1, 0] [50, 0] rfl rfl
   try dsimp only [rArc, rInt, rPair, rRow, rPart] at hS
   refine then_n ?_
   replace hS := hS.ent (i := 6) (s' := .pv (.int .i64 ((k + 1 : Nat) : Int))) rfl (.int (wrap_succ (by omega)))
   obtain ⟨F, hS⟩ := hS.nm [4, 1, 0, 5, 6] [0, 50] rfl rfl
   exact ⟨((k + 1), _, _), F, ⟨by omega, by rw [roundP_next, ← hq]; simp [hBq]⟩, hS, (by show _ - (k + 1) < _ - k; omega)⟩
  have hk9 : k = n := by simp at hc0; omega
  refine wp_exit (then_x (then_x (block_x (then_n (wp_seq ?_)))))
  refine region_q hS
    (cF rfl (oM .t) r1 trivial
    (cF rfl (oN .t) r1 trivial
    Chain.nil))
    hB ?_
  clear hS; intro a w F hS
  obtain ⟨F, hS⟩ := hS.nm [4] [50, 0] rfl rfl
  try dsimp only [rArc, rInt, rPair, rRow, rPart] at hS
  refine then_n (wp_ret ?_)
  obtain ⟨F, hS⟩ := hS.give 50 4 rfl rfl
  refine ret_P hfr hS rfl (.tmp rfl .nil) (.one (.sl (by rw [hq, hk9])))

end Go.Proofs.YtpahapjcdldodaaDoor
