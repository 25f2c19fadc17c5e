/- CmdMany. No condition beyond those that each theorem says. -/
import Derived.Test.YtjdcnjemhjldoaaDoorCm7
namespace Go.Proofs.YtjdcnjemhjldoaaDoor
open Go Go.Gm
set_option linter.unusedVariables false
set_option linter.unusedSimpArgs false
set_option maxHeartbeats 4000000
set_option maxRecDepth 8000


def w7 : List UInt8 := [119, 55]
def lineT (N : Nat) : List UInt8 := wAdd ++ ([49] :: [99] :: List.replicate N w7).flatMap fun y => 32 :: y
def manyL (N : Nat) (bad : Bool) : List (List UInt8) := [49] :: [99] :: (List.replicate N w7 ++ if bad = true then [[120]] else [])
theorem lineT_next (N : Nat) : lineT N ++ [32, 119, 55] = lineT (N + 1) := by
  unfold lineT
  rw [List.replicate_succ', List.append_assoc]
  simp only [List.flatMap_cons, List.flatMap_append, List.flatMap_nil, List.append_nil, List.append_assoc, List.cons_append]
  rfl
theorem lineT_len (N : Nat) : (lineT N).length = 7 + 3 * N := by
  induction N with
  | zero => rfl
  | succ N ih => rw [← lineT_next, List.length_append, ih]; simp only [List.length_cons, List.length_nil]; omega
theorem line_join (N : Nat) (bad : Bool) : lineT N ++ (if bad = true then [32, 120] else []) = joinL (wAdd :: manyL N bad) := by
  rw [joinL_flat]
  unfold lineT manyL
  cases bad <;> simp
theorem op_w7 : opR w7 = (⟨false, 7, 0, 0⟩, 0) := by decide +kernel
theorem op_x : opR [120] = (noOp, 5) := by decide +kernel
theorem read_1 : readR [49] = (1, 0) := by decide +kernel
theorem badO_rep (N : Nat) (r : List (List UInt8)) : badO (List.replicate N w7 ++ r) = badO r := by
  induction N with
  | zero => rfl
  | succ N ih => rw [List.replicate_succ, List.cons_append, badO, if_neg (by rw [op_w7]; simp), ih]
theorem tx_many (N : Nat) (bad : Bool) : txR (manyL N bad) = if 4095 < N + (if bad = true then 1 else 0) then (zeroT, 9) else if bad = true then (zeroT, 5) else (⟨1, true, List.replicate N ⟨false, 7, 0, 0⟩⟩, 0) := by
  have hl : (manyL N bad).length = N + (if bad = true then 1 else 0) + 2 := by unfold manyL; cases bad <;> simp
  have e0 : nth (manyL N bad) 0 = [49] := rfl
  have e1 : nth (manyL N bad) 1 = [99] := rfl
  have e2 : (manyL N bad).drop 2 = List.replicate N w7 ++ if bad = true then [[120]] else [] := rfl
  unfold txR
  rw [hl, e0, e1, e2, read_1, badO_rep]
  by_cases h : 4095 < N + (if bad = true then 1 else 0)
  · rw [if_pos (by omega), if_pos h]
  · rw [if_neg (by omega), if_neg h, if_neg (by simp), if_neg (by simp)]
    cases bad with
    | true =>
      have : badO [[120]] = 5 := by rw [badO, op_x]; rfl
      simp only [if_true, this]
      rfl
    | false =>
      simp only [Bool.false_eq_true, if_false, badO]
      rw [if_neg (by simp), List.append_nil]
      unfold opsR
      rw [List.map_replicate, op_w7]
      rfl
theorem many_fine (N : Nat) (bad : Bool) : ∀ j, j < (wAdd :: manyL N bad).length → FineW (nth (wAdd :: manyL N bad) j) := by
  intro j hj
  have hm := nth_mem hj
  generalize nth (wAdd :: manyL N bad) j = x at hm
  unfold manyL at hm
  simp only [List.mem_cons, List.mem_append] at hm
  rcases hm with rfl | rfl | rfl | hm | hm
  · exact fine_of (by decide) (by decide)
  · exact fine_of (by decide) (by decide)
  · exact fine_of (by decide) (by decide)
  · rw [(List.mem_replicate.1 hm).2]; exact fine_of (by decide) (by decide)
  · cases bad with
    | true => simp at hm; subst hm; exact fine_of (by decide) (by decide)
    | false => simp at hm
theorem parse_many (N : Nat) (hN : N ≤ 5000) (bad : Bool) : parseR (lineT N ++ if bad = true then [32, 120] else []) = if 4095 < N + (if bad = true then 1 else 0) then (zeroC 0, 9) else if bad = true then (zeroC 0, 5) else ({zeroC 1 with tx := ⟨1, true, List.replicate N ⟨false, 7, 0, 0⟩⟩}, 0) := by
  rw [line_join]
  have hl : (manyL N bad).length = N + (if bad = true then 1 else 0) + 2 := by unfold manyL; cases bad <;> simp
  have hb : (if bad = true then 1 else 0) ≤ 1 := by cases bad <;> simp
  unfold parseR
  rw [words_join (many_fine N bad), if_neg (by simp)]
  dsimp only
  unfold parseW
  have e0 : nth (wAdd :: manyL N bad) 0 = wAdd := rfl
  have e1 : (wAdd :: manyL N bad).drop 1 = manyL N bad := rfl
  have e2 : findK wAdd = 1 := findK_said (k := 1) (by decide)
  have e3 : (saidR 1).least = 3 := rfl
  have e4 : (saidR 1).most = 1073741824 := rfl
  rw [e0, e1, e2, e3, e4, if_neg (by simp), if_neg (by decide), if_neg (by rw [List.length_cons, hl]; omega), if_neg (by rw [List.length_cons, hl]; omega)]
  have e5 : fillR 1 (manyL N bad) = ({zeroC 1 with tx := (txR (manyL N bad)).1}, (txR (manyL N bad)).2) := by unfold fillR; rw [if_pos (.inl rfl)]
  rw [e5, tx_many]
  by_cases h : 4095 < N + (if bad = true then 1 else 0)
  · rw [if_pos h, if_pos h]; rfl
  · rw [if_neg h, if_neg h]
    cases bad <;> rfl

theorem cmdMany_c (n : Int) (bad : Bool) : FnP Tryd.prog 6 [.int .i64 n, .bool bad] (.bool true) := by
  refine FnP.mk Tryd.func6 rfl Tryd.ntmps6 rfl ?_
  intro B a w F hB hfr hS
  refine wp_seq ?_
  refine region_seq hS (by kernel_rfl)
    (cF rfl (o_assign .cb (by rfl)) trivial trivial
    Chain.nil)
    (by kernel_rfl) (by rw [hB]; kernel_rfl) ?_
  clear hS; intro a w F hS
  obtain ⟨F, hS⟩ := hS.norm [(0, _), (1, _), (4, _)] [(0, _)] r3 r1
  try dsimp only [rCmd] at hS
  refine then_n ?_
  refine wp_seq ?_
  refine wp_seq ?_
  refine region_seq hS (by kernel_rfl)
    (cF rfl (o_callP (cmdLives_c) Tryd.func18 rfl (by kernel_rfl) Args.nil) trivial trivial
    (cF rfl (o_not .t) r1 trivial
    Chain.nil))
    (by kernel_rfl) (by rw [hB]; kernel_rfl) ?_
  clear hS; intro a w F hS
  obtain ⟨F, hS⟩ := hS.norm [(0, _), (1, _), (4, _), (10, _)] [(0, _)] r4 r1
  try dsimp only [rCmd] at hS
  refine then_n ?_
  refine cond_b hS rfl (fun hc0 => ?_) (fun hc0 => ?_)
  ·skip
   simp at hc0
  ·skip
   refine wp_skip ?_
   refine then_n ?_
   refine wp_seq ?_
   refine wp_seq ?_
   refine region_seq hS (by kernel_rfl)
     (cF rfl (o_move .t (by rfl)) r1 trivial
     (cF rfl (o_lss .t (.ci (by kernel_rfl))) r1 trivial
     (cF rfl (o_move .t (by rfl)) r1 trivial
     (Chain.cons (Cert.cond rfl rfl (fun h => o_move .t (by rfl))) r2 trivial
     (Chain.cons (Cert.cond rfl rfl (fun h => o_gtr (.w h) (.ci (by kernel_rfl)))) r2 trivial
     (cF rfl (o_or2 .t .t) r2 trivial
     Chain.nil))))))
     (by kernel_rfl) (by rw [hB]; kernel_rfl) ?_
   clear hS; intro a w F hS
   obtain ⟨F, hS⟩ := hS.norm [(0, _), (1, _), (4, _), (16, _)] [(0, _)] r4 r1
   try dsimp only [rCmd] at hS
   refine then_n ?_
   refine cond_b hS rfl (fun hc1 => ?_) (fun hc1 => ?_)
   ·skip
    refine wp_seq ?_
    refine region_seq hS (by kernel_rfl)
      (cF rfl (o_assign .cb (by rfl)) trivial trivial
      Chain.nil)
      (by kernel_rfl) (by rw [hB]; kernel_rfl) ?_
    clear hS; intro a w F hS
    obtain ⟨F, hS⟩ := hS.norm [(0, _), (1, _), (4, _)] [(0, _)] r3 r1
    try dsimp only [rCmd] at hS
    refine then_n ?_
    refine wp_ret ?_
    refine then_r ?_
    refine ret_P hfr hS rfl (.tmp rfl .nil) (.one (.bool (by first | rfl | (rw [hpm]; rfl) | (rw [hpm]; simp; done) | (rw [hpm]; simp; omega))))
   ·skip
    have hn : 0 ≤ n ∧ n ≤ 4200 := by simp at hc1; omega
    refine wp_skip ?_
    refine then_n ?_
    refine wp_seq ?_
    refine region_seq hS (by kernel_rfl)
      (cF rfl (o_buildLit (l := [97, 100, 100, 32, 49, 32, 99]) (sz := 1) (zs := [.int .u8 0]) (r := [(0, _), (1, _), (2, _), (3, _), (4, _), (5, _), (6, _)]) 101 Tryd.underlying51 (by kernel_rfl) (by kernel_rfl) (by kernel_rfl) (by kernel_rfl) rfl rfl (.one rfl (.ci (by kernel_rfl)) one_int (by kernel_rfl) (.one rfl (.ci (by kernel_rfl)) one_int (by kernel_rfl) (.one rfl (.ci (by kernel_rfl)) one_int (by kernel_rfl) (.one rfl (.ci (by kernel_rfl)) one_int (by kernel_rfl) (.one rfl (.ci (by kernel_rfl)) one_int (by kernel_rfl) (.one rfl (.ci (by kernel_rfl)) one_int (by kernel_rfl) (.one rfl (.ci (by kernel_rfl)) one_int (by kernel_rfl) .nil))))))) rfl rfl) trivial trivial
      (cF rfl (o_mark 101 Tryd.underlying51 Tryd.underlying5 .same) r1 r1
      (cF rfl (o_assign .t (by rfl)) r1 trivial
      Chain.nil)))
      (by kernel_rfl) (by rw [hB]; kernel_rfl) ?_
    clear hS; intro a w F hS
    replace hS := hS.sub
    obtain ⟨F, hS⟩ := hS.norm [(0, _), (1, _), (4, _), (5, _)] [(0, _), (101, _)] r4 r2
    try dsimp only [RS.sub, SF.sub, CF.sub, csub, Anc.sub, List.map, stCells, List.length_cons, List.length_nil, Nat.reduceAdd, List.drop_succ_cons, List.drop_zero, List.drop_nil, List.take_succ_cons, List.take_zero, List.take_nil, List.cons_append, List.nil_append, zCF, rCmd] at hS
    generalize Act.tau a 18 = v18 at hS
    refine then_n ?_
    refine wp_seq ?_
    refine wp_seq ?_
    refine region_seq hS (by kernel_rfl)
      (cF rfl (o_assign (.ci (by kernel_rfl)) (by rfl)) trivial trivial
      Chain.nil)
      (by kernel_rfl) (by rw [hB]; kernel_rfl) ?_
    clear hS; intro a w F hS
    obtain ⟨F, hS⟩ := hS.norm [(0, _), (1, _), (4, _), (5, _), (6, _)] [(0, _), (101, _)] r5 r2
    try dsimp only [rCmd] at hS
    refine then_n ?_
    refine wp_block ?_
    obtain ⟨F, hS⟩ := hS.norm [(0, _), (1, _), (5, _), (6, _)] [(0, _), (101, _)] r4 r2
    refine loop_inv (σ := (Nat × Value)) (fun s => (⟨[(0, .pv (.int .i64 n)), (1, .pv (.bool bad)), (5, .pv (.is s.2)), (6, .pv (.int .i64 (s.1 : Nat)))], [(0, frame B), (101, .ob (.val s.2) (rowX 5 (lineT s.1)))]⟩ : En)) (fun s => (s.1 : Int) ≤ n) (fun s => n.toNat - s.1) (0, v18) hS (by show ((0 : Nat) : Int) ≤ n; omega) ?_
    clear hS; intro s a w F hC hS
    obtain ⟨i, v⟩ := s
    try dsimp only at hC
    try dsimp only at hS
    have hi0 : (i : Int) ≤ n := hC
    have hil := lineT_len i
    refine wp_seq ?_
    refine wp_seq ?_
    refine region_seq hS (by kernel_rfl)
      (cF rfl (o_move .t (by rfl)) r1 trivial
      (cF rfl (o_move .t (by rfl)) r1 trivial
      (cF rfl (o_lss .t .t) r2 trivial
      Chain.nil)))
      (by kernel_rfl) (by rw [hB]; kernel_rfl) ?_
    clear hS; intro a w F hS
    obtain ⟨F, hS⟩ := hS.norm [(0, _), (1, _), (5, _), (6, _), (19, _), (20, _), (21, _)] [(0, _), (101, _)] r7 r2
    try dsimp only [rCmd] at hS
    refine then_n ?_
    refine cond_b hS rfl (fun hc2 => ?_) (fun hc2 => ?_)
    ·skip
     have hi : (i : Int) < n := of_decide_eq_true hc2
     refine wp_skip ?_
     refine then_n ?_
     refine wp_seq ?_
     refine wp_block ?_
     refine region_seq hS (by kernel_rfl)
       (cF rfl (o_move .t (by rfl)) r1 trivial
       (cF rfl (o_append_x 101 Tryd.underlying51 Tryd.underlying9 (by kernel_rfl) .is (.cs (by kernel_rfl)) (by decide) (by simp only [List.length_cons, List.length_nil]; omega)) ⟨rfl, trivial⟩ ⟨rfl, trivial⟩
       (cF rfl (o_assign .t (by rfl)) r1 trivial
       Chain.nil)))
       (by kernel_rfl) (by rw [hB]; kernel_rfl) ?_
     clear hS; intro a w F hS
     replace hS := hS.sub
     obtain ⟨F, hS⟩ := hS.norm [(0, _), (1, _), (5, _), (6, _), (19, _), (20, _), (21, _), (24, _), (25, _)] [(0, _), (101, _)] ⟨rfl, rfl, rfl, rfl, rfl, rfl, rfl, rfl, rfl, trivial⟩ r2
     try dsimp only [RS.sub, SF.sub, CF.sub, csub, Anc.sub, List.map, List.cons_append, List.nil_append, rCmd] at hS
     generalize Act.tau a 25 = v25 at hS
     refine block_n ?_
     refine then_n ?_
     refine region_seq hS (by kernel_rfl)
       (cF rfl (o_move .t (by rfl)) r1 trivial
       (cF rfl (o_add .t (.ci (by kernel_rfl))) r1 trivial
       (cF rfl (o_assign .t (by rfl)) r1 trivial
       Chain.nil)))
       (by kernel_rfl) (by rw [hB]; kernel_rfl) ?_
     clear hS; intro a w F hS
     obtain ⟨F, hS⟩ := hS.norm [(0, _), (1, _), (5, _), (6, _), (19, _), (20, _), (21, _), (22, _), (23, _), (24, _), (25, _)] [(0, _), (101, _)] ⟨rfl, rfl, rfl, rfl, rfl, rfl, rfl, rfl, rfl, rfl, rfl, trivial⟩ r2
     try dsimp only [rCmd] at hS
     refine then_n ?_
     rw [lineT_next] at hS
     replace hS := hS.ent (i := 6) (s' := .pv (.int .i64 ((i + 1 : Nat) : Int))) rfl (.int (wrap_succ (by omega)))
     obtain ⟨F, hS⟩ := hS.norm [(0, _), (1, _), (5, _), (6, _)] [(0, _), (101, _)] r4 r2
     exact ⟨(i + 1, v25), F, (by show ((i + 1 : Nat) : Int) ≤ n; omega), hS, by dsimp only; omega⟩
    ·skip
     have hin : (i : Int) = n := by have h9 := of_decide_eq_false hc2; omega
     refine wp_exit ?_
     refine then_x ?_
     refine then_x ?_
     refine block_x ?_
     refine then_n ?_
     refine wp_seq ?_
     refine wp_seq ?_
     refine region_seq hS (by kernel_rfl)
       (cF rfl (o_move .t (by rfl)) r1 trivial
       Chain.nil)
       (by kernel_rfl) (by rw [hB]; kernel_rfl) ?_
     clear hS; intro a w F hS
     obtain ⟨F, hS⟩ := hS.norm [(0, _), (1, _), (5, _), (26, _)] [(0, _), (101, _)] r4 r2
     try dsimp only [rCmd] at hS
     refine then_n ?_
     refine cond_b hS rfl (fun hc3 => ?_) (fun hc3 => ?_)
     ·skip
      have hbad : bad = true := hc3
      have hwn : IntKind.wrap .i64 (n + 1) = n + 1 := wrap_i64 (by omega)
      have hpl := parse_many i (by omega) true
      rw [if_pos rfl, if_pos rfl, if_pos rfl] at hpl
      refine wp_seq ?_
      refine region_seq hS (by kernel_rfl)
        (cF rfl (o_move .t (by rfl)) r1 trivial
        (cF rfl (o_append_x 101 Tryd.underlying51 Tryd.underlying9 (by kernel_rfl) .is (.cs (by kernel_rfl)) (by decide) (by simp only [List.length_cons, List.length_nil]; omega)) ⟨rfl, trivial⟩ ⟨rfl, trivial⟩
        (cF rfl (o_assign .t (by rfl)) r1 trivial
        Chain.nil)))
        (by kernel_rfl) (by rw [hB]; kernel_rfl) ?_
      clear hS; intro a w F hS
      replace hS := hS.sub
      obtain ⟨F, hS⟩ := hS.norm [(0, _), (1, _), (5, _)] [(0, _), (101, _)] r3 r2
      try dsimp only [RS.sub, SF.sub, CF.sub, csub, Anc.sub, List.map, List.cons_append, List.nil_append, rCmd] at hS
      generalize Act.tau a 28 = v28 at hS
      refine then_n ?_
      refine region_seq hS (by kernel_rfl)
        (cF rfl (o_move .t (by rfl)) r1 trivial
        (cF rfl (o_add .t (.ci (by kernel_rfl))) r1 trivial
        (cF rfl (o_assign .t (by rfl)) r1 trivial
        Chain.nil)))
        (by kernel_rfl) (by rw [hB]; kernel_rfl) ?_
      clear hS; intro a w F hS
      obtain ⟨F, hS⟩ := hS.norm [(0, _), (1, _), (5, _)] [(0, _), (101, _)] r3 r2
      try dsimp only [rCmd] at hS
      refine then_n ?_
      refine wp_seq ?_
      refine region_seq hS (by kernel_rfl)
        (cF rfl (o_move .t (by rfl)) r1 trivial
        (cF rfl (o_conv_x 101 Tryd.underlying51 Tryd.underlying5 Tryd.underlying9 .is (by first | omega | (simp only [List.length_append, List.length_cons, List.length_nil]; omega))) r1 r1
        (cF rfl (o_callP (parse_c (lineT i ++ [32, 120]) (by first | omega | (simp only [List.length_append, List.length_cons, List.length_nil]; omega))) Tryd.func21 rfl (by kernel_rfl) (Args.one .t)) r1 trivial
        (cF rfl (o_move .t (by rfl)) r1 trivial
        (cF rfl (o_extract .t rfl) r1 trivial
        (cF rfl (o_extract .t rfl) r1 trivial
        (cF rfl (o_alloc (zs := [.int .i64 0, .int .i64 0, .bool false, .slice none 0 0, .int .i64 0, .slice none 0 0, .int .i64 0, .int .i64 0, .int .i64 0, .int .i64 0]) 102 (by kernel_rfl)) trivial trivial
        (cF rfl (o_storeA (sz := 10) 102 .same (.conv .t .agg) (by kernel_rfl) (by kernel_rfl) (by kernel_rfl)) r2 r1
        (cF rfl (o_assign .t (by rfl)) r1 trivial
        Chain.nil)))))))))
        (by kernel_rfl) (by rw [hB]; kernel_rfl) ?_
      clear hS; intro a w F hS
      replace hS := hS.sub
      obtain ⟨F, hS⟩ := hS.norm [(0, _), (1, _), (7, _), (8, _)] [(0, _), (101, _), (102, _)] r4 r3
      try dsimp only [RS.sub, SF.sub, CF.sub, csub, Anc.sub, List.map, stCells, List.length_cons, List.length_nil, Nat.reduceAdd, List.drop_succ_cons, List.drop_zero, List.drop_nil, List.take_succ_cons, List.take_zero, List.take_nil, List.cons_append, List.nil_append, zCF, rCmd] at hS
      generalize Act.tau a 7 = v7 at hS
      refine then_n ?_
      refine wp_seq ?_
      refine wp_seq ?_
      refine region_seq hS (by kernel_rfl)
        (cF rfl (o_move .t (by rfl)) r1 trivial
        (cF rfl (o_gtr .t (.ci (by kernel_rfl))) r1 trivial
        Chain.nil))
        (by kernel_rfl) (by rw [hB]; kernel_rfl) ?_
      clear hS; intro a w F hS
      obtain ⟨F, hS⟩ := hS.norm [(0, _), (1, _), (7, _), (8, _), (38, _)] [(0, _), (101, _), (102, _)] r5 r3
      try dsimp only [rCmd] at hS
      refine then_n ?_
      refine cond_b hS rfl (fun hc4 => ?_) (fun hc4 => ?_)
      ·skip
       have h9 := of_decide_eq_true hc4
       try rw [hwn] at h9
       have hpm := hpl
       rw [if_pos (by omega)] at hpm
       refine wp_seq ?_
       refine region_seq hS (by kernel_rfl)
         (cF rfl (o_move .t (by rfl)) r1 trivial
         (cF rfl (o_eql .t (.ci (by kernel_rfl))) r1 trivial
         (cF rfl (o_move .t (by rfl)) r1 trivial
         (Chain.cons (Cert.cond rfl rfl (fun h => o_fieldAddr (off := 1) 102 .is (by kernel_rfl) (by rfl))) r2 r1
         (Chain.cons (Cert.cond rfl rfl (fun h => o_fieldAddr (off := 2) 102 (.w h .adr) (by kernel_rfl) (by rfl))) r2 r1
         (Chain.cons (Cert.cond rfl rfl (fun h => o_load (ag := false) (sz := 1) 102 (.w h .adr) (by kernel_rfl) (by kernel_rfl) (by kernel_rfl) (by rfl))) r2 r1
         (Chain.cons (Cert.cond rfl rfl (fun h => o_len_sl Tryd.underlying24 (.w h))) r2 trivial
         (Chain.cons (Cert.cond rfl rfl (fun h => o_eql (.w h) (.ci (by kernel_rfl)))) r2 trivial
         (cF rfl (o_and2 .t .t) r2 trivial
         (cF rfl (o_assign .t (by rfl)) r1 trivial
         Chain.nil))))))))))
         (by kernel_rfl) (by rw [hB]; kernel_rfl) ?_
       clear hS; intro a w F hS
       obtain ⟨F, hS⟩ := hS.norm [(0, _), (1, _), (4, _), (7, _), (8, _)] [(0, _), (101, _), (102, _)] r5 r3
       try dsimp only [List.map, List.drop_succ_cons, List.drop_zero, List.drop_nil, List.take_succ_cons, List.take_zero, List.take_nil, ldSF, rCmd] at hS
       refine then_n ?_
       refine wp_ret ?_
       refine then_r ?_
       refine ret_P hfr hS rfl (.tmp rfl .nil) (.one (.bool (by first | rfl | (rw [hpm]; rfl) | (rw [hpm]; simp; done) | (rw [hpm]; simp; omega))))
      ·skip
       have h9 := of_decide_eq_false hc4
       try rw [hwn] at h9
       have hpm := hpl
       rw [if_neg (by omega)] at hpm
       refine wp_skip ?_
       refine then_n ?_
       refine wp_seq ?_
       refine wp_seq ?_
       refine region_seq hS (by kernel_rfl)
         (cF rfl (o_move .t (by rfl)) r1 trivial
         Chain.nil)
         (by kernel_rfl) (by rw [hB]; kernel_rfl) ?_
       clear hS; intro a w F hS
       obtain ⟨F, hS⟩ := hS.norm [(0, _), (7, _), (8, _), (48, _)] [(0, _), (101, _), (102, _)] r4 r3
       try dsimp only [rCmd] at hS
       refine then_n ?_
       refine cond_b hS rfl (fun hc5 => ?_) (fun hc5 => ?_)
       ·skip
        refine wp_seq ?_
        refine region_seq hS (by kernel_rfl)
          (cF rfl (o_move .t (by rfl)) r1 trivial
          (cF rfl (o_eql .t (.ci (by kernel_rfl))) r1 trivial
          (cF rfl (o_assign .t (by rfl)) r1 trivial
          Chain.nil)))
          (by kernel_rfl) (by rw [hB]; kernel_rfl) ?_
        clear hS; intro a w F hS
        obtain ⟨F, hS⟩ := hS.norm [(0, _), (4, _), (7, _), (8, _)] [(0, _), (101, _), (102, _)] r4 r3
        try dsimp only [rCmd] at hS
        refine then_n ?_
        refine wp_ret ?_
        refine then_r ?_
        refine ret_P hfr hS rfl (.tmp rfl .nil) (.one (.bool (by first | rfl | (rw [hpm]; rfl) | (rw [hpm]; simp; done) | (rw [hpm]; simp; omega))))
       ·skip
        rw [hbad] at hc5
        cases hc5
     ·skip
      have hbad : bad = false := hc3
      have hpl := parse_many i (by omega) false
      simp only [Bool.false_eq_true, if_false, List.append_nil, Nat.add_zero] at hpl
      refine wp_skip ?_
      refine then_n ?_
      refine wp_seq ?_
      refine region_seq hS (by kernel_rfl)
        (cF rfl (o_move .t (by rfl)) r1 trivial
        (cF rfl (o_conv_x 101 Tryd.underlying51 Tryd.underlying5 Tryd.underlying9 .is (by first | omega | (simp only [List.length_append, List.length_cons, List.length_nil]; omega))) r1 r1
        (cF rfl (o_callP (parse_c (lineT i) (by first | omega | (simp only [List.length_append, List.length_cons, List.length_nil]; omega))) Tryd.func21 rfl (by kernel_rfl) (Args.one .t)) r1 trivial
        (cF rfl (o_move .t (by rfl)) r1 trivial
        (cF rfl (o_extract .t rfl) r1 trivial
        (cF rfl (o_extract .t rfl) r1 trivial
        (cF rfl (o_alloc (zs := [.int .i64 0, .int .i64 0, .bool false, .slice none 0 0, .int .i64 0, .slice none 0 0, .int .i64 0, .int .i64 0, .int .i64 0, .int .i64 0]) 103 (by kernel_rfl)) trivial trivial
        (cF rfl (o_storeA (sz := 10) 103 .same (.conv .t .agg) (by kernel_rfl) (by kernel_rfl) (by kernel_rfl)) r2 r1
        (cF rfl (o_assign .t (by rfl)) r1 trivial
        Chain.nil)))))))))
        (by kernel_rfl) (by rw [hB]; kernel_rfl) ?_
      clear hS; intro a w F hS
      replace hS := hS.sub
      obtain ⟨F, hS⟩ := hS.norm [(0, _), (1, _), (7, _), (8, _)] [(0, _), (101, _), (103, _)] r4 r3
      try dsimp only [RS.sub, SF.sub, CF.sub, csub, Anc.sub, List.map, stCells, List.length_cons, List.length_nil, Nat.reduceAdd, List.drop_succ_cons, List.drop_zero, List.drop_nil, List.take_succ_cons, List.take_zero, List.take_nil, List.cons_append, List.nil_append, zCF, rCmd] at hS
      generalize Act.tau a 7 = v7 at hS
      refine then_n ?_
      refine wp_seq ?_
      refine wp_seq ?_
      refine region_seq hS (by kernel_rfl)
        (cF rfl (o_move .t (by rfl)) r1 trivial
        (cF rfl (o_gtr .t (.ci (by kernel_rfl))) r1 trivial
        Chain.nil))
        (by kernel_rfl) (by rw [hB]; kernel_rfl) ?_
      clear hS; intro a w F hS
      obtain ⟨F, hS⟩ := hS.norm [(0, _), (1, _), (7, _), (8, _), (38, _)] [(0, _), (101, _), (103, _)] r5 r3
      try dsimp only [rCmd] at hS
      refine then_n ?_
      refine cond_b hS rfl (fun hc6 => ?_) (fun hc6 => ?_)
      ·skip
       have h9 := of_decide_eq_true hc6
       try rw [hwn] at h9
       have hpm := hpl
       rw [if_pos (by omega)] at hpm
       refine wp_seq ?_
       refine region_seq hS (by kernel_rfl)
         (cF rfl (o_move .t (by rfl)) r1 trivial
         (cF rfl (o_eql .t (.ci (by kernel_rfl))) r1 trivial
         (cF rfl (o_move .t (by rfl)) r1 trivial
         (Chain.cons (Cert.cond rfl rfl (fun h => o_fieldAddr (off := 1) 103 .is (by kernel_rfl) (by rfl))) r2 r1
         (Chain.cons (Cert.cond rfl rfl (fun h => o_fieldAddr (off := 2) 103 (.w h .adr) (by kernel_rfl) (by rfl))) r2 r1
         (Chain.cons (Cert.cond rfl rfl (fun h => o_load (ag := false) (sz := 1) 103 (.w h .adr) (by kernel_rfl) (by kernel_rfl) (by kernel_rfl) (by rfl))) r2 r1
         (Chain.cons (Cert.cond rfl rfl (fun h => o_len_sl Tryd.underlying24 (.w h))) r2 trivial
         (Chain.cons (Cert.cond rfl rfl (fun h => o_eql (.w h) (.ci (by kernel_rfl)))) r2 trivial
         (cF rfl (o_and2 .t .t) r2 trivial
         (cF rfl (o_assign .t (by rfl)) r1 trivial
         Chain.nil))))))))))
         (by kernel_rfl) (by rw [hB]; kernel_rfl) ?_
       clear hS; intro a w F hS
       obtain ⟨F, hS⟩ := hS.norm [(0, _), (1, _), (4, _), (7, _), (8, _)] [(0, _), (101, _), (103, _)] r5 r3
       try dsimp only [List.map, List.drop_succ_cons, List.drop_zero, List.drop_nil, List.take_succ_cons, List.take_zero, List.take_nil, ldSF, rCmd] at hS
       refine then_n ?_
       refine wp_ret ?_
       refine then_r ?_
       refine ret_P hfr hS rfl (.tmp rfl .nil) (.one (.bool (by first | rfl | (rw [hpm]; rfl) | (rw [hpm]; simp; done) | (rw [hpm]; simp; omega))))
      ·skip
       have h9 := of_decide_eq_false hc6
       try rw [hwn] at h9
       have hpm := hpl
       rw [if_neg (by omega)] at hpm
       refine wp_skip ?_
       refine then_n ?_
       refine wp_seq ?_
       refine wp_seq ?_
       refine region_seq hS (by kernel_rfl)
         (cF rfl (o_move .t (by rfl)) r1 trivial
         Chain.nil)
         (by kernel_rfl) (by rw [hB]; kernel_rfl) ?_
       clear hS; intro a w F hS
       obtain ⟨F, hS⟩ := hS.norm [(0, _), (7, _), (8, _), (48, _)] [(0, _), (101, _), (103, _)] r4 r3
       try dsimp only [rCmd] at hS
       refine then_n ?_
       refine cond_b hS rfl (fun hc7 => ?_) (fun hc7 => ?_)
       ·skip
        rw [hbad] at hc7
        cases hc7
       ·skip
        refine wp_skip ?_
        refine then_n ?_
        refine wp_seq ?_
        refine region_seq hS (by kernel_rfl)
          (cF rfl (o_move .t (by rfl)) r1 trivial
          (cF rfl (o_eql .t (.ci (by kernel_rfl))) r1 trivial
          (cF rfl (o_move .t (by rfl)) r1 trivial
          (Chain.cons (Cert.cond rfl rfl (fun h => o_fieldAddr (off := 1) 103 .is (by kernel_rfl) (by rfl))) r2 r1
          (Chain.cons (Cert.cond rfl rfl (fun h => o_fieldAddr (off := 2) 103 (.w h .adr) (by kernel_rfl) (by rfl))) r2 r1
          (Chain.cons (Cert.cond rfl rfl (fun h => o_load (ag := false) (sz := 1) 103 (.w h .adr) (by kernel_rfl) (by kernel_rfl) (by kernel_rfl) (by rfl))) r2 r1
          (Chain.cons (Cert.cond rfl rfl (fun h => o_len_sl Tryd.underlying24 (.w h))) r2 trivial
          (Chain.cons (Cert.cond rfl rfl (fun h => o_move .t (by rfl))) r2 trivial
          (Chain.cons (Cert.cond rfl rfl (fun h => o_eql (.w h) (.w h))) r3 trivial
          (cF rfl (o_and2 .t .t) r2 trivial
          (cF rfl (o_assign .t (by rfl)) r1 trivial
          Chain.nil)))))))))))
          (by kernel_rfl) (by rw [hB]; kernel_rfl) ?_
        clear hS; intro a w F hS
        obtain ⟨F, hS⟩ := hS.norm [(4, _)] [(0, _), (101, _)] r1 r2
        try dsimp only [List.map, List.drop_succ_cons, List.drop_zero, List.drop_nil, List.take_succ_cons, List.take_zero, List.take_nil, ldSF, rCmd] at hS
        refine then_n ?_
        refine wp_ret ?_
        refine ret_P hfr hS rfl (.tmp rfl .nil) (.one (.bool (by first | rfl | (rw [hpm]; rfl) | (rw [hpm]; simp; done) | (rw [hpm]; simp; omega))))

end Go.Proofs.YtjdcnjemhjldoaaDoor
