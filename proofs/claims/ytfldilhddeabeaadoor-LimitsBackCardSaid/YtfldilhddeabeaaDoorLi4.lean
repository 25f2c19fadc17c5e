/- Lines of limits read. No condition beyond those that each theorem says. -/
import Derived.Test.YtfldilhddeabeaaDoorLi3
import Derived.Test.YtfldilhddeabeaaDoorNu1
import Derived.Test.YtfldilhddeabeaaDoorLxW
namespace Go.Proofs.YtfldilhddeabeaaDoor
open Go Go.Gm
set_option linter.unusedVariables false
set_option linter.unusedSimpArgs false
set_option maxHeartbeats 4000000
set_option maxRecDepth 8000


theorem nth_drop1 {l : List (List UInt8)} {i : Nat} (h : i + 1 < l.length) : nth (l.drop 1) i = nth l (i + 1) := by
  rw [nth_eq (by simp; omega), nth_eq h]
  simp [Nat.add_comm]
theorem nth_map {α β : Type} [Inhabited α] [Inhabited β] {f : α → β} {l : List α} {i : Nat} (h : i < l.length) : nth (l.map f) i = f (nth l i) := by
  rw [nth_eq (by simpa using h), nth_eq h]
  simp
theorem map_take_next {α β : Type} [Inhabited α] {f : α → β} {l : List α} {i : Nat} (h : i < l.length) : (l.map f).take i ++ [f (nth l i)] = (l.map f).take (i + 1) := by
  rw [List.take_succ_eq_append_getElem (by simpa using h), nth_eq h]
  simp
theorem limR_why {s : List UInt8} (h : (wordsR s).2 ≠ 0) : limR s = (zeroL, (wordsR s).2) := by unfold limR; rw [if_pos h]
theorem limR_none {s : List UInt8} (h0 : (wordsR s).2 = 0) (h1 : (wordsR s).1 = []) : limR s = (zeroL, 12) := by unfold limR; rw [if_neg (by simp [h0]), if_pos h1]
theorem limR_word {s : List UInt8} (h0 : (wordsR s).2 = 0) (h1 : (wordsR s).1 ≠ []) (h2 : nth (wordsR s).1 0 ≠ [108, 105, 109, 105, 116, 115]) : limR s = (zeroL, 11) := by unfold limR; rw [if_neg (by simp [h0]), if_neg h1, if_pos h2]
theorem limR_short {s : List UInt8} (h0 : (wordsR s).2 = 0) (h1 : (wordsR s).1 ≠ []) (h2 : nth (wordsR s).1 0 = [108, 105, 109, 105, 116, 115]) (h3 : (wordsR s).1.length < 6) : limR s = (zeroL, 12) := by unfold limR; rw [if_neg (by simp [h0]), if_neg h1, if_neg (by simp [h2]), if_pos h3]
theorem limR_more {s : List UInt8} (h0 : (wordsR s).2 = 0) (h1 : (wordsR s).1 ≠ []) (h2 : nth (wordsR s).1 0 = [108, 105, 109, 105, 116, 115]) (h4 : 6 < (wordsR s).1.length) : limR s = (zeroL, 13) := by unfold limR; rw [if_neg (by simp [h0]), if_neg h1, if_neg (by simp [h2]), if_neg (by omega), if_pos h4]
theorem limR_bad {s : List UInt8} {i : Nat} (h0 : (wordsR s).2 = 0) (h2 : nth (wordsR s).1 0 = [108, 105, 109, 105, 116, 115]) (h3 : (wordsR s).1.length = 6) (hi : i < 5) (hz : ∀ j, j < i → (readR (nth ((wordsR s).1.drop 1) j)).2 = 0) (hb : (readR (nth ((wordsR s).1.drop 1) i)).2 ≠ 0) : limR s = (zeroL, (readR (nth ((wordsR s).1.drop 1) i)).2) := by
  have hbad := bad_at (l := (wordsR s).1.drop 1) (i := i) (by simp; omega) hz hb
  have h1 : (wordsR s).1 ≠ [] := by intro e; rw [e] at h3; simp at h3
  unfold limR
  rw [if_neg (by simp [h0]), if_neg h1, if_neg (by simp [h2]), if_neg (by omega), if_neg (by omega), if_pos (by rw [hbad]; exact hb), hbad]
theorem limR_done {s : List UInt8} (h0 : (wordsR s).2 = 0) (h2 : nth (wordsR s).1 0 = [108, 105, 109, 105, 116, 115]) (h3 : (wordsR s).1.length = 6) (hz : ∀ j, j < 5 → (readR (nth ((wordsR s).1.drop 1) j)).2 = 0) : limR s = if RightQ (ofL (((wordsR s).1.drop 1).map fun x => (readR x).1)) then (ofL (((wordsR s).1.drop 1).map fun x => (readR x).1), 0) else (zeroL, 1) := by
  have h1 : (wordsR s).1 ≠ [] := by intro e; rw [e] at h3; simp at h3
  have hbad := bad_none (l := (wordsR s).1.drop 1) (fun j hj => hz j (by simp at hj; omega))
  unfold limR
  rw [if_neg (by simp [h0]), if_neg h1, if_neg (by simp [h2]), if_neg (by omega), if_neg (by omega), if_neg (by rw [hbad]; simp)]
theorem ofL_map {l : List (List UInt8)} (h : l.length = 5) : ofL (l.map fun x => (readR x).1) = ⟨(readR (nth l 0)).1, (readR (nth l 1)).1, (readR (nth l 2)).1, (readR (nth l 3)).1, (readR (nth l 4)).1⟩ := by
  unfold ofL
  rw [nth_map (by omega), nth_map (by omega), nth_map (by omega), nth_map (by omega), nth_map (by omega)]

theorem limRead_c (s0 : List UInt8) (hs : s0.length ≤ 1000000) : FnP Tryd.prog 19 [.bs s0] (.tup [.agg (rLim (limR s0).1), .int .i64 (limR s0).2]) := by
  refine FnP.mk Tryd.func19 rfl Tryd.ntmps19 rfl ?_
  intro B a w F hB hfr hS
  have hws := words_small s0
  refine wp_seq ?_
  refine region_seq hS (by kernel_rfl)
      (Chain.cons (Cert.free rfl (o_alloc (zs := [.int .i64 0, .int .i64 0, .int .i64 0, .int .i64 0, .int .i64 0]) 101 (by kernel_rfl))) trivial trivial
      (Chain.cons (Cert.free rfl (o_assign (.ci (by kernel_rfl)) (by rfl))) trivial trivial
      Chain.nil))
      (by kernel_rfl) (by rw [hB]; kernel_rfl) ?_
  clear hS; intro a w F hS
  replace hS := hS.sub
  replace hS := hS.norm [(0, _), (2, _), (3, _)] [(0, _), (101, _)] ⟨rfl, rfl, rfl, trivial⟩ ⟨rfl, rfl, trivial⟩
  obtain ⟨F, hS⟩ := hS
  try dsimp only [RS.sub, SF.sub, CF.sub, csub, Anc.sub, stCells, List.map, List.length_cons, List.length_nil, Nat.reduceAdd, List.drop_succ_cons, List.drop_zero, List.drop_nil, List.take_succ_cons, List.take_zero, List.take_nil, List.cons_append, List.nil_append, zCF, ldSF] at hS
  generalize Act.tau a 2 = v2 at hS
  refine then_n ?_
  refine wp_seq ?_
  refine region_seq hS (by kernel_rfl)
      (Chain.cons (Cert.free rfl (o_move .t (by rfl))) ⟨rfl, trivial⟩ trivial
      (Chain.cons (Cert.free rfl (o_callP (words_c s0 hs) Tryd.func8 rfl (by kernel_rfl) (Args.one .t))) ⟨rfl, trivial⟩ trivial
      (Chain.cons (Cert.free rfl (o_move .t (by rfl))) ⟨rfl, trivial⟩ trivial
      (Chain.cons (Cert.free rfl (o_extract .t rfl)) ⟨rfl, trivial⟩ trivial
      (Chain.cons (Cert.free rfl (o_extract .t rfl)) ⟨rfl, trivial⟩ trivial
      (Chain.cons (Cert.free rfl (o_assign .t (by rfl))) ⟨rfl, trivial⟩ trivial
      (Chain.cons (Cert.free rfl (o_assign .t (by rfl))) ⟨rfl, trivial⟩ trivial
      Chain.nil)))))))
      (by kernel_rfl) (by rw [hB]; kernel_rfl) ?_
  clear hS; intro a w F hS
  replace hS := hS.norm [(2, _), (3, _), (4, _), (5, _)] [(0, _), (101, _)] ⟨rfl, rfl, rfl, rfl, trivial⟩ ⟨rfl, rfl, trivial⟩
  obtain ⟨F, hS⟩ := hS
  try dsimp only [RS.sub, SF.sub, CF.sub, csub, Anc.sub, stCells, List.map, List.length_cons, List.length_nil, Nat.reduceAdd, List.drop_succ_cons, List.drop_zero, List.drop_nil, List.take_succ_cons, List.take_zero, List.take_nil, List.cons_append, List.nil_append, zCF, ldSF] at hS
  skip
  refine then_n ?_
  refine wp_seq ?_
  refine region_seq hS (by kernel_rfl)
      (Chain.cons (Cert.free rfl (o_alloc (zs := [.int .i64 0, .int .i64 0, .int .i64 0, .int .i64 0, .int .i64 0]) 102 (by kernel_rfl))) trivial trivial
      Chain.nil)
      (by kernel_rfl) (by rw [hB]; kernel_rfl) ?_
  clear hS; intro a w F hS
  replace hS := hS.sub
  replace hS := hS.norm [(2, _), (3, _), (4, _), (5, _), (6, _)] [(0, _), (101, _), (102, _)] ⟨rfl, rfl, rfl, rfl, rfl, trivial⟩ ⟨rfl, rfl, rfl, trivial⟩
  obtain ⟨F, hS⟩ := hS
  try dsimp only [RS.sub, SF.sub, CF.sub, csub, Anc.sub, stCells, List.map, List.length_cons, List.length_nil, Nat.reduceAdd, List.drop_succ_cons, List.drop_zero, List.drop_nil, List.take_succ_cons, List.take_zero, List.take_nil, List.cons_append, List.nil_append, zCF, ldSF] at hS
  generalize Act.tau a 6 = v6 at hS
  refine then_n ?_
  refine wp_seq ?_
  refine wp_block ?_
  refine wp_seq ?_
  refine region_seq hS (by kernel_rfl)
      (Chain.cons (Cert.free rfl (o_move .t (by rfl))) ⟨rfl, trivial⟩ trivial
      (Chain.cons (Cert.free rfl (o_neq .t (.ci (by kernel_rfl)))) ⟨rfl, trivial⟩ trivial
      (Chain.cons (Cert.free rfl (o_assign .t (by rfl))) ⟨rfl, trivial⟩ trivial
      Chain.nil)))
      (by kernel_rfl) (by rw [hB]; kernel_rfl) ?_
  clear hS; intro a w F hS
  replace hS := hS.norm [(2, _), (3, _), (4, _), (5, _), (6, _), (15, _)] [(0, _), (101, _), (102, _)] ⟨rfl, rfl, rfl, rfl, rfl, rfl, trivial⟩ ⟨rfl, rfl, rfl, trivial⟩
  obtain ⟨F, hS⟩ := hS
  try dsimp only [RS.sub, SF.sub, CF.sub, csub, Anc.sub, stCells, List.map, List.length_cons, List.length_nil, Nat.reduceAdd, List.drop_succ_cons, List.drop_zero, List.drop_nil, List.take_succ_cons, List.take_zero, List.take_nil, List.cons_append, List.nil_append, zCF, ldSF] at hS
  refine then_n ?_
  refine cond_b hS rfl (fun hc0 => ?_) (fun hc0 => ?_)
  · skip
    have hr := limR_why (by simpa using hc0 : (wordsR s0).2 ≠ 0)
    refine wp_seq ?_
    refine region_seq hS (by kernel_rfl)
        (Chain.cons (Cert.free rfl (o_build (r := []) (zs := [.int .i64 0, .int .i64 0, .int .i64 0, .int .i64 0, .int .i64 0]) (pl := [(0, 1), (1, 1), (2, 1), (3, 1), (4, 1)]) (by kernel_rfl) (by kernel_rfl) .nil (by rfl))) trivial trivial
        (Chain.cons (Cert.free rfl (o_move .t (by rfl))) ⟨rfl, trivial⟩ trivial
        (Chain.cons (Cert.free rfl (o_storeA (sz := 5) 101 .is .t (by kernel_rfl) (by kernel_rfl) (by kernel_rfl))) ⟨rfl, rfl, trivial⟩ ⟨rfl, trivial⟩
        (Chain.cons (Cert.free rfl (o_assign .t (by rfl))) ⟨rfl, trivial⟩ trivial
        Chain.nil))))
        (by kernel_rfl) (by rw [hB]; kernel_rfl) ?_
    clear hS; intro a w F hS
    replace hS := hS.norm [(2, _), (3, _), (4, _), (6, _)] [(0, _), (101, _), (102, _)] ⟨rfl, rfl, rfl, rfl, trivial⟩ ⟨rfl, rfl, rfl, trivial⟩
    obtain ⟨F, hS⟩ := hS
    try dsimp only [RS.sub, SF.sub, CF.sub, csub, Anc.sub, stCells, List.map, List.length_cons, List.length_nil, Nat.reduceAdd, List.drop_succ_cons, List.drop_zero, List.drop_nil, List.take_succ_cons, List.take_zero, List.take_nil, List.cons_append, List.nil_append, zCF, ldSF] at hS
    refine then_n ?_
    refine wp_ret ?_
    refine block_r ?_
    refine then_r ?_
    refine ret_P hfr hS rfl (.cell (n := 101) (ag := true) (sz := 5) rfl .is rfl (by kernel_rfl) (by kernel_rfl) (by kernel_rfl) (.tmp rfl .nil)) (.two (.aggU rfl (by rw [hr] <;> rfl)) (.int (by rw [hr])))
  · skip
    have h0 : (wordsR s0).2 = 0 := by simpa using hc0
    refine wp_seq ?_
    refine region_seq hS (by kernel_rfl)
        (Chain.cons (Cert.free rfl (o_move .t (by rfl))) ⟨rfl, trivial⟩ trivial
        (Chain.cons (Cert.free rfl (o_len_sl Tryd.underlying22 .t)) ⟨rfl, trivial⟩ trivial
        (Chain.cons (Cert.free rfl (o_eql .t (.ci (by kernel_rfl)))) ⟨rfl, trivial⟩ trivial
        (Chain.cons (Cert.free rfl (o_assign .t (by rfl))) ⟨rfl, trivial⟩ trivial
        Chain.nil))))
        (by kernel_rfl) (by rw [hB]; kernel_rfl) ?_
    clear hS; intro a w F hS
    replace hS := hS.norm [(2, _), (3, _), (4, _), (6, _), (20, _)] [(0, _), (101, _), (102, _)] ⟨rfl, rfl, rfl, rfl, rfl, trivial⟩ ⟨rfl, rfl, rfl, trivial⟩
    obtain ⟨F, hS⟩ := hS
    try dsimp only [RS.sub, SF.sub, CF.sub, csub, Anc.sub, stCells, List.map, List.length_cons, List.length_nil, Nat.reduceAdd, List.drop_succ_cons, List.drop_zero, List.drop_nil, List.take_succ_cons, List.take_zero, List.take_nil, List.cons_append, List.nil_append, zCF, ldSF] at hS
    refine then_n ?_
    refine cond_b hS rfl (fun hc1 => ?_) (fun hc1 => ?_)
    · skip
      have hr := limR_none h0 (by simpa using hc1)
      refine wp_seq ?_
      refine region_seq hS (by kernel_rfl)
          (Chain.cons (Cert.free rfl (o_build (r := []) (zs := [.int .i64 0, .int .i64 0, .int .i64 0, .int .i64 0, .int .i64 0]) (pl := [(0, 1), (1, 1), (2, 1), (3, 1), (4, 1)]) (by kernel_rfl) (by kernel_rfl) .nil (by rfl))) trivial trivial
          (Chain.cons (Cert.free rfl (o_storeA (sz := 5) 101 .is .t (by kernel_rfl) (by kernel_rfl) (by kernel_rfl))) ⟨rfl, rfl, trivial⟩ ⟨rfl, trivial⟩
          (Chain.cons (Cert.free rfl (o_assign (.ci (by kernel_rfl)) (by rfl))) trivial trivial
          Chain.nil)))
          (by kernel_rfl) (by rw [hB]; kernel_rfl) ?_
      clear hS; intro a w F hS
      replace hS := hS.norm [(2, _), (3, _), (4, _), (6, _)] [(0, _), (101, _), (102, _)] ⟨rfl, rfl, rfl, rfl, trivial⟩ ⟨rfl, rfl, rfl, trivial⟩
      obtain ⟨F, hS⟩ := hS
      try dsimp only [RS.sub, SF.sub, CF.sub, csub, Anc.sub, stCells, List.map, List.length_cons, List.length_nil, Nat.reduceAdd, List.drop_succ_cons, List.drop_zero, List.drop_nil, List.take_succ_cons, List.take_zero, List.take_nil, List.cons_append, List.nil_append, zCF, ldSF] at hS
      refine then_n ?_
      refine wp_ret ?_
      refine block_r ?_
      refine then_r ?_
      refine ret_P hfr hS rfl (.cell (n := 101) (ag := true) (sz := 5) rfl .is rfl (by kernel_rfl) (by kernel_rfl) (by kernel_rfl) (.tmp rfl .nil)) (.two (.aggU rfl (by rw [hr] <;> rfl)) (.int (by rw [hr])))
    · skip
      have h1 : (wordsR s0).1 ≠ [] := by intro e; rw [e] at hc1; simp at hc1
      have hlp := List.length_pos_iff.2 h1
      refine wp_seq ?_
      refine region_seq hS (by kernel_rfl)
          (Chain.cons (Cert.free rfl (o_move .t (by rfl))) ⟨rfl, trivial⟩ trivial
          (Chain.cons (Cert.free rfl (o_indexAddr_sl (sz := 1) (.mk Tryd.underlying22 (by kernel_rfl)) (by intro x; rfl) .t (.ci (by kernel_rfl)) (by decide) (by omega))) ⟨rfl, trivial⟩ trivial
          (Chain.cons (Cert.free rfl (o_load_ref (ag := false) (sz := 1) .t (by kernel_rfl) (by kernel_rfl) (by kernel_rfl))) ⟨rfl, trivial⟩ trivial
          (Chain.cons (Cert.free rfl (o_neq_bs Tryd.underlying9 .t (.cs (by kernel_rfl)))) ⟨rfl, trivial⟩ trivial
          (Chain.cons (Cert.free rfl (o_assign .t (by rfl))) ⟨rfl, trivial⟩ trivial
          Chain.nil)))))
          (by kernel_rfl) (by rw [hB]; kernel_rfl) ?_
      clear hS; intro a w F hS
      replace hS := hS.norm [(2, _), (3, _), (4, _), (6, _), (25, _)] [(0, _), (101, _), (102, _)] ⟨rfl, rfl, rfl, rfl, rfl, trivial⟩ ⟨rfl, rfl, rfl, trivial⟩
      obtain ⟨F, hS⟩ := hS
      try dsimp only [RS.sub, SF.sub, CF.sub, csub, Anc.sub, stCells, List.map, List.length_cons, List.length_nil, Nat.reduceAdd, List.drop_succ_cons, List.drop_zero, List.drop_nil, List.take_succ_cons, List.take_zero, List.take_nil, List.cons_append, List.nil_append, zCF, ldSF] at hS
      refine then_n ?_
      refine cond_b hS rfl (fun hc2 => ?_) (fun hc2 => ?_)
      · skip
        have hr := limR_word h0 h1 (by simpa using hc2)
        refine wp_seq ?_
        refine region_seq hS (by kernel_rfl)
            (Chain.cons (Cert.free rfl (o_build (r := []) (zs := [.int .i64 0, .int .i64 0, .int .i64 0, .int .i64 0, .int .i64 0]) (pl := [(0, 1), (1, 1), (2, 1), (3, 1), (4, 1)]) (by kernel_rfl) (by kernel_rfl) .nil (by rfl))) trivial trivial
            (Chain.cons (Cert.free rfl (o_storeA (sz := 5) 101 .is .t (by kernel_rfl) (by kernel_rfl) (by kernel_rfl))) ⟨rfl, rfl, trivial⟩ ⟨rfl, trivial⟩
            (Chain.cons (Cert.free rfl (o_assign (.ci (by kernel_rfl)) (by rfl))) trivial trivial
            Chain.nil)))
            (by kernel_rfl) (by rw [hB]; kernel_rfl) ?_
        clear hS; intro a w F hS
        replace hS := hS.norm [(2, _), (3, _), (4, _), (6, _)] [(0, _), (101, _), (102, _)] ⟨rfl, rfl, rfl, rfl, trivial⟩ ⟨rfl, rfl, rfl, trivial⟩
        obtain ⟨F, hS⟩ := hS
        try dsimp only [RS.sub, SF.sub, CF.sub, csub, Anc.sub, stCells, List.map, List.length_cons, List.length_nil, Nat.reduceAdd, List.drop_succ_cons, List.drop_zero, List.drop_nil, List.take_succ_cons, List.take_zero, List.take_nil, List.cons_append, List.nil_append, zCF, ldSF] at hS
        refine then_n ?_
        refine wp_ret ?_
        refine block_r ?_
        refine then_r ?_
        refine ret_P hfr hS rfl (.cell (n := 101) (ag := true) (sz := 5) rfl .is rfl (by kernel_rfl) (by kernel_rfl) (by kernel_rfl) (.tmp rfl .nil)) (.two (.aggU rfl (by rw [hr] <;> rfl)) (.int (by rw [hr])))
      · skip
        have h2 : nth (wordsR s0).1 0 = [108, 105, 109, 105, 116, 115] := by simpa using hc2
        refine wp_seq ?_
        refine region_seq hS (by kernel_rfl)
            (Chain.cons (Cert.free rfl (o_move .t (by rfl))) ⟨rfl, trivial⟩ trivial
            (Chain.cons (Cert.free rfl (o_len_sl Tryd.underlying22 .t)) ⟨rfl, trivial⟩ trivial
            (Chain.cons (Cert.free rfl (o_leq .t (.ci (by kernel_rfl)))) ⟨rfl, trivial⟩ trivial
            (Chain.cons (Cert.free rfl (o_assign .t (by rfl))) ⟨rfl, trivial⟩ trivial
            Chain.nil))))
            (by kernel_rfl) (by rw [hB]; kernel_rfl) ?_
        clear hS; intro a w F hS
        replace hS := hS.norm [(2, _), (3, _), (4, _), (6, _), (31, _)] [(0, _), (101, _), (102, _)] ⟨rfl, rfl, rfl, rfl, rfl, trivial⟩ ⟨rfl, rfl, rfl, trivial⟩
        obtain ⟨F, hS⟩ := hS
        try dsimp only [RS.sub, SF.sub, CF.sub, csub, Anc.sub, stCells, List.map, List.length_cons, List.length_nil, Nat.reduceAdd, List.drop_succ_cons, List.drop_zero, List.drop_nil, List.take_succ_cons, List.take_zero, List.take_nil, List.cons_append, List.nil_append, zCF, ldSF] at hS
        refine then_n ?_
        refine cond_b hS rfl (fun hc3 => ?_) (fun hc3 => ?_)
        · skip
          have hr := limR_short h0 h1 h2 (by simp at hc3; omega)
          refine wp_seq ?_
          refine region_seq hS (by kernel_rfl)
              (Chain.cons (Cert.free rfl (o_build (r := []) (zs := [.int .i64 0, .int .i64 0, .int .i64 0, .int .i64 0, .int .i64 0]) (pl := [(0, 1), (1, 1), (2, 1), (3, 1), (4, 1)]) (by kernel_rfl) (by kernel_rfl) .nil (by rfl))) trivial trivial
              (Chain.cons (Cert.free rfl (o_storeA (sz := 5) 101 .is .t (by kernel_rfl) (by kernel_rfl) (by kernel_rfl))) ⟨rfl, rfl, trivial⟩ ⟨rfl, trivial⟩
              (Chain.cons (Cert.free rfl (o_assign (.ci (by kernel_rfl)) (by rfl))) trivial trivial
              Chain.nil)))
              (by kernel_rfl) (by rw [hB]; kernel_rfl) ?_
          clear hS; intro a w F hS
          replace hS := hS.norm [(2, _), (3, _), (4, _), (6, _)] [(0, _), (101, _), (102, _)] ⟨rfl, rfl, rfl, rfl, trivial⟩ ⟨rfl, rfl, rfl, trivial⟩
          obtain ⟨F, hS⟩ := hS
          try dsimp only [RS.sub, SF.sub, CF.sub, csub, Anc.sub, stCells, List.map, List.length_cons, List.length_nil, Nat.reduceAdd, List.drop_succ_cons, List.drop_zero, List.drop_nil, List.take_succ_cons, List.take_zero, List.take_nil, List.cons_append, List.nil_append, zCF, ldSF] at hS
          refine then_n ?_
          refine wp_ret ?_
          refine block_r ?_
          refine then_r ?_
          refine ret_P hfr hS rfl (.cell (n := 101) (ag := true) (sz := 5) rfl .is rfl (by kernel_rfl) (by kernel_rfl) (by kernel_rfl) (.tmp rfl .nil)) (.two (.aggU rfl (by rw [hr] <;> rfl)) (.int (by rw [hr])))
        · skip
          have h3 : 6 ≤ (wordsR s0).1.length := by simp at hc3; omega
          refine wp_seq ?_
          refine region_seq hS (by kernel_rfl)
              (Chain.cons (Cert.free rfl (o_move .t (by rfl))) ⟨rfl, trivial⟩ trivial
              (Chain.cons (Cert.free rfl (o_len_sl Tryd.underlying22 .t)) ⟨rfl, trivial⟩ trivial
              (Chain.cons (Cert.free rfl (o_gtr .t (.ci (by kernel_rfl)))) ⟨rfl, trivial⟩ trivial
              (Chain.cons (Cert.free rfl (o_assign .t (by rfl))) ⟨rfl, trivial⟩ trivial
              Chain.nil))))
              (by kernel_rfl) (by rw [hB]; kernel_rfl) ?_
          clear hS; intro a w F hS
          replace hS := hS.norm [(2, _), (3, _), (4, _), (6, _), (36, _)] [(0, _), (101, _), (102, _)] ⟨rfl, rfl, rfl, rfl, rfl, trivial⟩ ⟨rfl, rfl, rfl, trivial⟩
          obtain ⟨F, hS⟩ := hS
          try dsimp only [RS.sub, SF.sub, CF.sub, csub, Anc.sub, stCells, List.map, List.length_cons, List.length_nil, Nat.reduceAdd, List.drop_succ_cons, List.drop_zero, List.drop_nil, List.take_succ_cons, List.take_zero, List.take_nil, List.cons_append, List.nil_append, zCF, ldSF] at hS
          refine then_n ?_
          refine cond_b hS rfl (fun hc4 => ?_) (fun hc4 => ?_)
          · skip
            have hr := limR_more h0 h1 h2 (by simp at hc4; omega)
            refine wp_seq ?_
            refine region_seq hS (by kernel_rfl)
                (Chain.cons (Cert.free rfl (o_build (r := []) (zs := [.int .i64 0, .int .i64 0, .int .i64 0, .int .i64 0, .int .i64 0]) (pl := [(0, 1), (1, 1), (2, 1), (3, 1), (4, 1)]) (by kernel_rfl) (by kernel_rfl) .nil (by rfl))) trivial trivial
                (Chain.cons (Cert.free rfl (o_storeA (sz := 5) 101 .is .t (by kernel_rfl) (by kernel_rfl) (by kernel_rfl))) ⟨rfl, rfl, trivial⟩ ⟨rfl, trivial⟩
                (Chain.cons (Cert.free rfl (o_assign (.ci (by kernel_rfl)) (by rfl))) trivial trivial
                Chain.nil)))
                (by kernel_rfl) (by rw [hB]; kernel_rfl) ?_
            clear hS; intro a w F hS
            replace hS := hS.norm [(2, _), (3, _), (4, _), (6, _)] [(0, _), (101, _), (102, _)] ⟨rfl, rfl, rfl, rfl, trivial⟩ ⟨rfl, rfl, rfl, trivial⟩
            obtain ⟨F, hS⟩ := hS
            try dsimp only [RS.sub, SF.sub, CF.sub, csub, Anc.sub, stCells, List.map, List.length_cons, List.length_nil, Nat.reduceAdd, List.drop_succ_cons, List.drop_zero, List.drop_nil, List.take_succ_cons, List.take_zero, List.take_nil, List.cons_append, List.nil_append, zCF, ldSF] at hS
            refine then_n ?_
            refine wp_ret ?_
            refine block_r ?_
            refine then_r ?_
            refine ret_P hfr hS rfl (.cell (n := 101) (ag := true) (sz := 5) rfl .is rfl (by kernel_rfl) (by kernel_rfl) (by kernel_rfl) (.tmp rfl .nil)) (.two (.aggU rfl (by rw [hr] <;> rfl)) (.int (by rw [hr])))
          · skip
            have h6 : (wordsR s0).1.length = 6 := by simp at hc4; omega
            have hd5 : ((wordsR s0).1.drop 1).length = 5 := by simp; omega
            refine wp_skip ?_
            refine block_n ?_
            refine then_n ?_
            refine wp_seq ?_
            refine wp_seq ?_
            refine region_seq hS (by kernel_rfl)
                (Chain.cons (Cert.free rfl (o_move (.ci (by kernel_rfl)) (by rfl))) trivial trivial
                Chain.nil)
                (by kernel_rfl) (by rw [hB]; kernel_rfl) ?_
            clear hS; intro a w F hS
            replace hS := hS.norm [(2, _), (3, _), (4, _), (6, _), (41, _)] [(0, _), (101, _), (102, _)] ⟨rfl, rfl, rfl, rfl, rfl, trivial⟩ ⟨rfl, rfl, rfl, trivial⟩
            obtain ⟨F, hS⟩ := hS
            try dsimp only [RS.sub, SF.sub, CF.sub, csub, Anc.sub, stCells, List.map, List.length_cons, List.length_nil, Nat.reduceAdd, List.drop_succ_cons, List.drop_zero, List.drop_nil, List.take_succ_cons, List.take_zero, List.take_nil, List.cons_append, List.nil_append, zCF, ldSF] at hS
            refine then_n ?_
            refine wp_block ?_
            replace hS := hS.turn 102 rfl (r' := .ob (.val v6) (arrB 56 (fun n => PV.int .i64 n) [0, 0, 0, 0, 0])) (fun τ w f y h => pt_arrB (f := (fun n => PV.int .i64 n)) (l := [0, 0, 0, 0, 0]) τ w f y h)
            replace hS := hS.norm [(2, _), (4, _), (6, _), (41, _)] [(0, _), (101, _), (102, _)] ⟨rfl, rfl, rfl, rfl, trivial⟩ ⟨rfl, rfl, rfl, trivial⟩
            obtain ⟨F, hS⟩ := hS
            refine loop_inv (σ := (Nat × List Int)) (fun s => (⟨[(2, .pv (.is v2)), (4, .pv (.sl rS (wordsR s0).1)), (6, .pv (.is v6)), (41, .pv (.int .i64 (s.1 : Nat)))], [(0, frame B), (101, .pt (.val v2) 33 [.pv (.int .i64 0), .pv (.int .i64 0), .pv (.int .i64 0), .pv (.int .i64 0), .pv (.int .i64 0)]), (102, .ob (.val v6) (arrB 56 (fun n => PV.int .i64 n) s.2))]⟩ : En)) (fun s => s.1 ≤ 5 ∧ s.2.length = 5 ∧ (∀ j, j < s.1 → (readR (nth ((wordsR s0).1.drop 1) j)).2 = 0) ∧ ∀ j, j < s.1 → nth s.2 j = (readR (nth ((wordsR s0).1.drop 1) j)).1) (fun s => 5 - s.1) (0, [0, 0, 0, 0, 0]) hS ⟨Nat.zero_le _, rfl, fun j hj => absurd hj (Nat.not_lt_zero _), fun j hj => absurd hj (Nat.not_lt_zero _)⟩ ?_
            clear hS; intro s a w F hC hS
            obtain ⟨i, q⟩ := s
            try dsimp only at hC
            try dsimp only at hS
            obtain ⟨hi0, hl5, hz, hq⟩ := hC
            try dsimp only at hi0 hl5 hq
            refine wp_seq ?_
            refine region_seq hS (by kernel_rfl)
                (Chain.cons (Cert.free rfl (o_lss .t (.ci (by kernel_rfl)))) ⟨rfl, trivial⟩ trivial
                Chain.nil)
                (by kernel_rfl) (by rw [hB]; kernel_rfl) ?_
            clear hS; intro a w F hS
            replace hS := hS.norm [(2, _), (4, _), (6, _), (41, _), (42, _)] [(0, _), (101, _), (102, _)] ⟨rfl, rfl, rfl, rfl, rfl, trivial⟩ ⟨rfl, rfl, rfl, trivial⟩
            obtain ⟨F, hS⟩ := hS
            try dsimp only [RS.sub, SF.sub, CF.sub, csub, Anc.sub, stCells, List.map, List.length_cons, List.length_nil, Nat.reduceAdd, List.drop_succ_cons, List.drop_zero, List.drop_nil, List.take_succ_cons, List.take_zero, List.take_nil, List.cons_append, List.nil_append, zCF, ldSF] at hS
            refine then_n ?_
            refine wp_seq ?_
            refine cond_b hS rfl (fun hc5 => ?_) (fun hc5 => ?_)
            · skip
              have hi : i < 5 := by simp at hc5; omega
              have hwi : nth (wordsR s0).1 (IntKind.wrap .i64 ((i : Int) + 1)).toNat = nth ((wordsR s0).1.drop 1) i := by rw [wrap_succ (by omega), Int.toNat_natCast, nth_drop1 (by omega)]
              have hwl : (nth ((wordsR s0).1.drop 1) i).length ≤ 1000000 := by rw [nth_drop1 (by omega)]; have := len_le (l := (wordsR s0).1) (i := i + 1) (by omega); omega
              refine wp_skip ?_
              refine then_n ?_
              refine wp_seq ?_
              refine wp_block ?_
              refine wp_seq ?_
              refine region_seq hS (by kernel_rfl)
                  (Chain.cons (Cert.free rfl (o_move .t (by rfl))) ⟨rfl, trivial⟩ trivial
                  (Chain.cons (Cert.free rfl (o_assign .t (by rfl))) ⟨rfl, trivial⟩ trivial
                  Chain.nil))
                  (by kernel_rfl) (by rw [hB]; kernel_rfl) ?_
              clear hS; intro a w F hS
              replace hS := hS.norm [(2, _), (4, _), (6, _), (7, _), (41, _), (42, _), (43, _)] [(0, _), (101, _), (102, _)] ⟨rfl, rfl, rfl, rfl, rfl, rfl, rfl, trivial⟩ ⟨rfl, rfl, rfl, trivial⟩
              obtain ⟨F, hS⟩ := hS
              try dsimp only [RS.sub, SF.sub, CF.sub, csub, Anc.sub, stCells, List.map, List.length_cons, List.length_nil, Nat.reduceAdd, List.drop_succ_cons, List.drop_zero, List.drop_nil, List.take_succ_cons, List.take_zero, List.take_nil, List.cons_append, List.nil_append, zCF, ldSF] at hS
              refine then_n ?_
              refine wp_seq ?_
              refine region_seq hS (by kernel_rfl)
                  (Chain.cons (Cert.free rfl (o_move .t (by rfl))) ⟨rfl, trivial⟩ trivial
                  (Chain.cons (Cert.free rfl (o_move .t (by rfl))) ⟨rfl, trivial⟩ trivial
                  (Chain.cons (Cert.free rfl (o_add .t (.ci (by kernel_rfl)))) ⟨rfl, trivial⟩ trivial
                  (Chain.cons (Cert.free rfl (o_indexAddr_sl (sz := 1) (.mk Tryd.underlying22 (by kernel_rfl)) (by intro x; rfl) .t .t (by rw [wrap_succ (by omega)]; omega) (by rw [wrap_succ (by omega)]; omega))) ⟨rfl, rfl, trivial⟩ trivial
                  (Chain.cons (Cert.free rfl (o_load_ref (ag := false) (sz := 1) .t (by kernel_rfl) (by kernel_rfl) (by kernel_rfl))) ⟨rfl, trivial⟩ trivial
                  (Chain.cons (Cert.free rfl (o_callP (read_c (nth (wordsR s0).1 (IntKind.wrap .i64 ((i : Int) + 1)).toNat) (by rw [hwi]; omega)) Tryd.func32 rfl (by kernel_rfl) (Args.one .t))) ⟨rfl, trivial⟩ trivial
                  (Chain.cons (Cert.free rfl (o_move .t (by rfl))) ⟨rfl, trivial⟩ trivial
                  (Chain.cons (Cert.free rfl (o_extract .t rfl)) ⟨rfl, trivial⟩ trivial
                  (Chain.cons (Cert.free rfl (o_extract .t rfl)) ⟨rfl, trivial⟩ trivial
                  (Chain.cons (Cert.free rfl (o_assign .t (by rfl))) ⟨rfl, trivial⟩ trivial
                  (Chain.cons (Cert.free rfl (o_assign .t (by rfl))) ⟨rfl, trivial⟩ trivial
                  Chain.nil)))))))))))
                  (by kernel_rfl) (by rw [hB]; kernel_rfl) ?_
              clear hS; intro a w F hS
              replace hS := hS.norm [(2, _), (4, _), (6, _), (7, _), (8, _), (9, _), (41, _), (42, _), (43, _), (44, _), (45, _), (46, _), (47, _), (48, _), (49, _), (50, _), (51, _), (52, _)] [(0, _), (101, _), (102, _)] ⟨rfl, rfl, rfl, rfl, rfl, rfl, rfl, rfl, rfl, rfl, rfl, rfl, rfl, rfl, rfl, rfl, rfl, rfl, trivial⟩ ⟨rfl, rfl, rfl, trivial⟩
              obtain ⟨F, hS⟩ := hS
              try dsimp only [RS.sub, SF.sub, CF.sub, csub, Anc.sub, stCells, List.map, List.length_cons, List.length_nil, Nat.reduceAdd, List.drop_succ_cons, List.drop_zero, List.drop_nil, List.take_succ_cons, List.take_zero, List.take_nil, List.cons_append, List.nil_append, zCF, ldSF] at hS
              rw [hwi] at hS
              refine then_n ?_
              refine wp_seq ?_
              refine wp_seq ?_
              refine region_seq hS (by kernel_rfl)
                  (Chain.cons (Cert.free rfl (o_move .t (by rfl))) ⟨rfl, trivial⟩ trivial
                  (Chain.cons (Cert.free rfl (o_neq .t (.ci (by kernel_rfl)))) ⟨rfl, trivial⟩ trivial
                  Chain.nil))
                  (by kernel_rfl) (by rw [hB]; kernel_rfl) ?_
              clear hS; intro a w F hS
              replace hS := hS.norm [(2, _), (4, _), (6, _), (7, _), (8, _), (9, _), (41, _), (42, _), (43, _), (44, _), (45, _), (46, _), (47, _), (48, _), (49, _), (50, _), (51, _), (52, _), (53, _), (54, _)] [(0, _), (101, _), (102, _)] ⟨rfl, rfl, rfl, rfl, rfl, rfl, rfl, rfl, rfl, rfl, rfl, rfl, rfl, rfl, rfl, rfl, rfl, rfl, rfl, rfl, trivial⟩ ⟨rfl, rfl, rfl, trivial⟩
              obtain ⟨F, hS⟩ := hS
              try dsimp only [RS.sub, SF.sub, CF.sub, csub, Anc.sub, stCells, List.map, List.length_cons, List.length_nil, Nat.reduceAdd, List.drop_succ_cons, List.drop_zero, List.drop_nil, List.take_succ_cons, List.take_zero, List.take_nil, List.cons_append, List.nil_append, zCF, ldSF] at hS
              refine then_n ?_
              refine cond_b hS rfl (fun hc6 => ?_) (fun hc6 => ?_)
              · skip
                have hr := limR_bad h0 h2 h6 hi hz (by simpa using hc6)
                refine wp_seq ?_
                refine region_seq hS (by kernel_rfl)
                    (Chain.cons (Cert.free rfl (o_build (r := []) (zs := [.int .i64 0, .int .i64 0, .int .i64 0, .int .i64 0, .int .i64 0]) (pl := [(0, 1), (1, 1), (2, 1), (3, 1), (4, 1)]) (by kernel_rfl) (by kernel_rfl) .nil (by rfl))) trivial trivial
                    (Chain.cons (Cert.free rfl (o_move .t (by rfl))) ⟨rfl, trivial⟩ trivial
                    (Chain.cons (Cert.free rfl (o_storeA (sz := 5) 101 .is .t (by kernel_rfl) (by kernel_rfl) (by kernel_rfl))) ⟨rfl, rfl, trivial⟩ ⟨rfl, trivial⟩
                    (Chain.cons (Cert.free rfl (o_assign .t (by rfl))) ⟨rfl, trivial⟩ trivial
                    Chain.nil))))
                    (by kernel_rfl) (by rw [hB]; kernel_rfl) ?_
                clear hS; intro a w F hS
                replace hS := hS.norm [(2, _), (3, _), (4, _), (6, _), (7, _), (8, _), (9, _), (41, _), (42, _), (43, _), (44, _), (45, _), (46, _), (47, _), (48, _), (49, _), (50, _), (51, _), (52, _), (53, _), (54, _), (55, _), (56, _)] [(0, _), (101, _), (102, _)] ⟨rfl, rfl, rfl, rfl, rfl, rfl, rfl, rfl, rfl, rfl, rfl, rfl, rfl, rfl, rfl, rfl, rfl, rfl, rfl, rfl, rfl, rfl, rfl, trivial⟩ ⟨rfl, rfl, rfl, trivial⟩
                obtain ⟨F, hS⟩ := hS
                try dsimp only [RS.sub, SF.sub, CF.sub, csub, Anc.sub, stCells, List.map, List.length_cons, List.length_nil, Nat.reduceAdd, List.drop_succ_cons, List.drop_zero, List.drop_nil, List.take_succ_cons, List.take_zero, List.take_nil, List.cons_append, List.nil_append, zCF, ldSF] at hS
                refine then_n ?_
                refine wp_ret ?_
                refine then_r ?_
                refine block_r ?_
                refine then_r ?_
                refine then_r ?_
                refine block_r ?_
                refine then_r ?_
                refine ret_P hfr hS rfl (.cell (n := 101) (ag := true) (sz := 5) rfl .is rfl (by kernel_rfl) (by kernel_rfl) (by kernel_rfl) (.tmp rfl .nil)) (.two (.aggU rfl (by rw [hr] <;> rfl)) (.int (by rw [hr])))
              · skip
                have hzi : (readR (nth ((wordsR s0).1.drop 1) i)).2 = 0 := by simpa using hc6
                refine wp_skip ?_
                refine then_n ?_
                refine region_seq hS (by kernel_rfl)
                    (Chain.cons (Cert.free rfl (o_move .t (by rfl))) ⟨rfl, trivial⟩ trivial
                    (Chain.cons (Cert.free rfl (o_move .t (by rfl))) ⟨rfl, trivial⟩ trivial
                    (Chain.cons (Cert.free rfl (o_indexAddr_ab (sz := 1) 102 Tryd.underlying56 (by kernel_rfl) .is .t (by omega) (by omega))) ⟨rfl, rfl, trivial⟩ ⟨rfl, trivial⟩
                    (Chain.cons (Cert.free rfl (o_store_ab 102 .adr .t one_int (by kernel_rfl) (by simp; omega))) ⟨rfl, rfl, trivial⟩ ⟨rfl, trivial⟩
                    Chain.nil))))
                    (by kernel_rfl) (by rw [hB]; kernel_rfl) ?_
                clear hS; intro a w F hS
                replace hS := hS.norm [(2, _), (4, _), (6, _), (7, _), (8, _), (9, _), (41, _), (42, _), (43, _), (44, _), (45, _), (46, _), (47, _), (48, _), (49, _), (50, _), (51, _), (52, _), (53, _), (54, _), (57, _), (58, _), (59, _)] [(0, _), (101, _), (102, _)] ⟨rfl, rfl, rfl, rfl, rfl, rfl, rfl, rfl, rfl, rfl, rfl, rfl, rfl, rfl, rfl, rfl, rfl, rfl, rfl, rfl, rfl, rfl, rfl, trivial⟩ ⟨rfl, rfl, rfl, trivial⟩
                obtain ⟨F, hS⟩ := hS
                try dsimp only [RS.sub, SF.sub, CF.sub, csub, Anc.sub, stCells, List.map, List.length_cons, List.length_nil, Nat.reduceAdd, List.drop_succ_cons, List.drop_zero, List.drop_nil, List.take_succ_cons, List.take_zero, List.take_nil, List.cons_append, List.nil_append, zCF, ldSF] at hS
                refine block_n ?_
                refine then_n ?_
                refine region_seq hS (by kernel_rfl)
                    (Chain.cons (Cert.free rfl (o_add .t (.ci (by kernel_rfl)))) ⟨rfl, trivial⟩ trivial
                    (Chain.cons (Cert.free rfl (o_move .t (by rfl))) ⟨rfl, trivial⟩ trivial
                    Chain.nil))
                    (by kernel_rfl) (by rw [hB]; kernel_rfl) ?_
                clear hS; intro a w F hS
                replace hS := hS.norm [(2, _), (4, _), (6, _), (7, _), (8, _), (9, _), (41, _), (42, _), (43, _), (44, _), (45, _), (46, _), (47, _), (48, _), (49, _), (50, _), (51, _), (52, _), (53, _), (54, _), (57, _), (58, _), (59, _), (60, _)] [(0, _), (101, _), (102, _)] ⟨rfl, rfl, rfl, rfl, rfl, rfl, rfl, rfl, rfl, rfl, rfl, rfl, rfl, rfl, rfl, rfl, rfl, rfl, rfl, rfl, rfl, rfl, rfl, rfl, trivial⟩ ⟨rfl, rfl, rfl, trivial⟩
                obtain ⟨F, hS⟩ := hS
                try dsimp only [RS.sub, SF.sub, CF.sub, csub, Anc.sub, stCells, List.map, List.length_cons, List.length_nil, Nat.reduceAdd, List.drop_succ_cons, List.drop_zero, List.drop_nil, List.take_succ_cons, List.take_zero, List.take_nil, List.cons_append, List.nil_append, zCF, ldSF] at hS
                refine then_n ?_
                simp only [Int.toNat_natCast, Nat.zero_add, Nat.mul_one] at hS
                replace hS := hS.ent (i := 41) (s' := .pv (.int .i64 ((i + 1 : Nat) : Int))) rfl (.int (wrap_succ (by omega)))
                replace hS := hS.norm [(2, _), (4, _), (6, _), (41, _)] [(0, _), (101, _), (102, _)] ⟨rfl, rfl, rfl, rfl, trivial⟩ ⟨rfl, rfl, rfl, trivial⟩
                obtain ⟨F, hS⟩ := hS
                exact ⟨(i + 1, q.set i (readR (nth ((wordsR s0).1.drop 1) i)).1), F, ⟨by dsimp only; omega, by dsimp only; rw [List.length_set]; exact hl5, fun j hj => (Nat.lt_or_ge j i).elim (hz j) (fun h1 => (show i = j by dsimp only at hj; omega) ▸ hzi), set_step (f := fun j => (readR (nth ((wordsR s0).1.drop 1) j)).1) (by omega) hq rfl⟩, hS, by dsimp only; omega⟩
            · skip
              have hi5 : i = 5 := by simp at hc5; omega
              obtain ⟨x0, x1, x2, x3, x4, rfl⟩ := five hl5
              have e0 : x0 = (readR (nth ((wordsR s0).1.drop 1) 0)).1 := hq 0 (by omega)
              have e1 : x1 = (readR (nth ((wordsR s0).1.drop 1) 1)).1 := hq 1 (by omega)
              have e2 : x2 = (readR (nth ((wordsR s0).1.drop 1) 2)).1 := hq 2 (by omega)
              have e3 : x3 = (readR (nth ((wordsR s0).1.drop 1) 3)).1 := hq 3 (by omega)
              have e4 : x4 = (readR (nth ((wordsR s0).1.drop 1) 4)).1 := hq 4 (by omega)
              replace hS := hS.turn 102 rfl (r' := .pt (.val v6) 56 [.pv (.int .i64 x0), .pv (.int .i64 x1), .pv (.int .i64 x2), .pv (.int .i64 x3), .pv (.int .i64 x4)]) (fun τ w f y h => arrB_pt (f := (fun n => PV.int .i64 n)) (l := [x0, x1, x2, x3, x4]) τ w f y h)
              have hdn := limR_done h0 h2 h6 (fun j hj => hz j (by omega))
              rw [ofL_map hd5] at hdn
              rw [← e0, ← e1, ← e2, ← e3, ← e4] at hdn
              refine wp_exit ?_
              refine then_x ?_
              refine then_x ?_
              refine block_x ?_
              refine then_n ?_
              refine wp_seq ?_
              refine wp_seq ?_
              refine region_seq hS (by kernel_rfl)
                  (Chain.cons (Cert.free rfl (o_load (ag := true) (sz := 5) 102 .is (by kernel_rfl) (by kernel_rfl) (by kernel_rfl) (by rfl))) ⟨rfl, trivial⟩ ⟨rfl, trivial⟩
                  (Chain.cons (Cert.free rfl (o_callP (of_c _ _ _ _ _) Tryd.func33 rfl (by kernel_rfl) (Args.one (.pagg .t)))) ⟨rfl, trivial⟩ trivial
                  (Chain.cons (Cert.free rfl (o_callP (right_c ⟨x0, x1, x2, x3, x4⟩) Tryd.func21 rfl (by kernel_rfl) (Args.one .t))) ⟨rfl, trivial⟩ trivial
                  (Chain.cons (Cert.free rfl (o_not .t)) ⟨rfl, trivial⟩ trivial
                  Chain.nil))))
                  (by kernel_rfl) (by rw [hB]; kernel_rfl) ?_
              clear hS; intro a w F hS
              replace hS := hS.norm [(2, _), (6, _), (64, _)] [(0, _), (101, _), (102, _)] ⟨rfl, rfl, rfl, trivial⟩ ⟨rfl, rfl, rfl, trivial⟩
              obtain ⟨F, hS⟩ := hS
              try dsimp only [RS.sub, SF.sub, CF.sub, csub, Anc.sub, stCells, List.map, List.length_cons, List.length_nil, Nat.reduceAdd, List.drop_succ_cons, List.drop_zero, List.drop_nil, List.take_succ_cons, List.take_zero, List.take_nil, List.cons_append, List.nil_append, zCF, ldSF] at hS
              refine then_n ?_
              refine cond_b hS rfl (fun hc7 => ?_) (fun hc7 => ?_)
              · skip
                have hr : limR s0 = (zeroL, 1) := by rw [hdn, if_neg (by simpa using hc7)]
                refine wp_seq ?_
                refine region_seq hS (by kernel_rfl)
                    (Chain.cons (Cert.free rfl (o_build (r := []) (zs := [.int .i64 0, .int .i64 0, .int .i64 0, .int .i64 0, .int .i64 0]) (pl := [(0, 1), (1, 1), (2, 1), (3, 1), (4, 1)]) (by kernel_rfl) (by kernel_rfl) .nil (by rfl))) trivial trivial
                    (Chain.cons (Cert.free rfl (o_storeA (sz := 5) 101 .is .t (by kernel_rfl) (by kernel_rfl) (by kernel_rfl))) ⟨rfl, rfl, trivial⟩ ⟨rfl, trivial⟩
                    (Chain.cons (Cert.free rfl (o_assign (.ci (by kernel_rfl)) (by rfl))) trivial trivial
                    Chain.nil)))
                    (by kernel_rfl) (by rw [hB]; kernel_rfl) ?_
                clear hS; intro a w F hS
                replace hS := hS.norm [(2, _), (3, _), (6, _)] [(0, _), (101, _), (102, _)] ⟨rfl, rfl, rfl, trivial⟩ ⟨rfl, rfl, rfl, trivial⟩
                obtain ⟨F, hS⟩ := hS
                try dsimp only [RS.sub, SF.sub, CF.sub, csub, Anc.sub, stCells, List.map, List.length_cons, List.length_nil, Nat.reduceAdd, List.drop_succ_cons, List.drop_zero, List.drop_nil, List.take_succ_cons, List.take_zero, List.take_nil, List.cons_append, List.nil_append, zCF, ldSF] at hS
                refine then_n ?_
                refine wp_ret ?_
                refine then_r ?_
                refine ret_P hfr hS rfl (.cell (n := 101) (ag := true) (sz := 5) rfl .is rfl (by kernel_rfl) (by kernel_rfl) (by kernel_rfl) (.tmp rfl .nil)) (.two (.aggU rfl (by rw [hr] <;> rfl)) (.int (by rw [hr])))
              · skip
                have hr : limR s0 = (⟨x0, x1, x2, x3, x4⟩, 0) := by rw [hdn, if_pos (by simpa using hc7)]
                refine wp_skip ?_
                refine then_n ?_
                refine wp_seq ?_
                refine region_seq hS (by kernel_rfl)
                    (Chain.cons (Cert.free rfl (o_load (ag := true) (sz := 5) 102 .is (by kernel_rfl) (by kernel_rfl) (by kernel_rfl) (by rfl))) ⟨rfl, trivial⟩ ⟨rfl, trivial⟩
                    (Chain.cons (Cert.free rfl (o_callP (of_c _ _ _ _ _) Tryd.func33 rfl (by kernel_rfl) (Args.one (.pagg .t)))) ⟨rfl, trivial⟩ trivial
                    (Chain.cons (Cert.free rfl (o_storeA (sz := 5) 101 .is (.conv .t .agg) (by kernel_rfl) (by kernel_rfl) (by kernel_rfl))) ⟨rfl, rfl, trivial⟩ ⟨rfl, trivial⟩
                    (Chain.cons (Cert.free rfl (o_assign (.ci (by kernel_rfl)) (by rfl))) trivial trivial
                    Chain.nil))))
                    (by kernel_rfl) (by rw [hB]; kernel_rfl) ?_
                clear hS; intro a w F hS
                replace hS := hS.norm [(2, _), (3, _)] [(0, _), (101, _), (102, _)] ⟨rfl, rfl, trivial⟩ ⟨rfl, rfl, rfl, trivial⟩
                obtain ⟨F, hS⟩ := hS
                try dsimp only [RS.sub, SF.sub, CF.sub, csub, Anc.sub, stCells, List.map, List.length_cons, List.length_nil, Nat.reduceAdd, List.drop_succ_cons, List.drop_zero, List.drop_nil, List.take_succ_cons, List.take_zero, List.take_nil, List.cons_append, List.nil_append, zCF, ldSF] at hS
                refine then_n ?_
                refine wp_ret ?_
                refine ret_P hfr hS rfl (.cell (n := 101) (ag := true) (sz := 5) rfl .is rfl (by kernel_rfl) (by kernel_rfl) (by kernel_rfl) (.tmp rfl .nil)) (.two (.aggU rfl (by rw [hr] <;> rfl)) (.int (by rw [hr])))

end Go.Proofs.YtfldilhddeabeaaDoor
