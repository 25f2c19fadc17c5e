/- The document's writers and keys. No condition beyond those that each theorem says. -/
import Derived.Test.YtpjjmolibanakaaHi2
import Derived.Test.YtpjjmolibanakaaTx4
namespace Go.Proofs.Ytpjjmolibanakaa
open Go Go.Gm
set_option linter.unusedVariables false
set_option linter.unusedSimpArgs false
set_option maxHeartbeats 4000000
set_option maxRecDepth 8000


theorem refWriters_c (g : HistD) (k : Int) (hs : SmallT g.txs) : FnP Try.prog 131 [.agg (rHist g), .int .i64 k] (.sl rInt (writersH g.txs k)) := by
  refine FnP.mk Try.func131 rfl Try.ntmps131 rfl ?_
  intro B a w F hB hfr hS
  have hsl := hs.1
  refine wp_seq ?_
  refine region_seq hS (by kernel_rfl)
    (cF rfl (o_boxA 101 (.conv .t .agg) (by kernel_rfl)) r1 trivial
    (cF rfl (o_assign (.c rfl) (by rfl)) trivial trivial
    Chain.nil))
    (by kernel_rfl) (by rw [hB]; kernel_rfl) ?_
  clear hS; intro a w F hS
  replace hS := hS.sub
  obtain ⟨F, hS⟩ := hS.norm [(1, _), (2, _), (4, _)] [(0, _), (101, _)] r3 r2
  try dsimp only [RS.sub, SF.sub, CF.sub, csub, Anc.sub, List.map, zCF, rHist, rTx, rOrd, rVer, rInt, rOp] at hS
  generalize Act.tau a 2 = v2 at hS
  refine then_n ?_
  refine wp_seq ?_
  refine region_seq hS (by kernel_rfl)
    (cF rfl (o_assign (.c rfl) (by rfl)) trivial trivial
    Chain.nil)
    (by kernel_rfl) (by rw [hB]; kernel_rfl) ?_
  clear hS; intro a w F hS
  obtain ⟨F, hS⟩ := hS.norm [(1, _), (2, _), (4, _), (5, _)] [(0, _), (101, _)] r4 r2
  try dsimp only [rHist, rTx, rOrd, rVer, rInt, rOp] at hS
  refine then_n ?_
  refine wp_seq ?_
  refine wp_seq ?_
  refine region_seq hS (by kernel_rfl)
    (cF rfl (o_fieldAddr (off := 0) 101 .is (by kernel_rfl) (by rfl)) r1 r1
    (cF rfl (o_load (ag := false) (sz := 1) 101 .adr (by kernel_rfl) (by kernel_rfl) (by kernel_rfl) (by rfl)) r1 r1
    (cF rfl (o_len_sl Try.underlying63 .t) r1 trivial
    (cF rfl (o_move (.ci (by kernel_rfl)) (by rfl)) trivial trivial
    Chain.nil))))
    (by kernel_rfl) (by rw [hB]; kernel_rfl) ?_
  clear hS; intro a w F hS
  obtain ⟨F, hS⟩ := hS.norm [(1, _), (4, _), (5, _), (9, _), (10, _), (11, _)] [(0, _), (101, _)] r6 r2
  try dsimp only [List.map, List.drop_succ_cons, List.drop_zero, List.drop_nil, List.take_succ_cons, List.take_zero, List.take_nil, ldSF, rHist, rTx, rOrd, rVer, rInt, rOp] at hS
  refine then_n ?_
  refine wp_block ?_
  replace hS := hS.fresh 50 rfl
  replace hS := hS.turn 50 rfl (nilRow (T := 3) (sz := 1) (R := rInt))
  refine loop_keep (σ := (Nat) × (Value) × (List Int)) [1, 4, 9, 10] [0, 101] (fun s => [(11, .pv (.int .i64 (s.1 : Int))), (5, .pv (.is s.2.1))]) (fun s => [(50, .ob (.val s.2.1) (rowH 3 1 rInt s.2.2))]) (fun s => s.1 ≤ g.txs.length ∧ (s.2.2 = writersH (g.txs.take s.1) k)) (fun s => g.txs.length - s.1) ((0), (.slice none 0 0), ([])) hS ⟨rfl, rfl, rfl, rfl, rfl, rfl, trivial⟩ ⟨rfl, rfl, rfl, trivial⟩ ⟨Nat.zero_le _, rfl⟩ ?_
  clear hS; intro s a w F hC hS
  obtain ⟨i, v, out⟩ := s
  try dsimp only at hC
  obtain ⟨F, hS⟩ := hS.norm [(1, _), (4, _), (5, _), (9, _), (10, _), (11, _)] [(0, _), (50, _), (101, _)] r6 r3
  try dsimp only at hS
  obtain ⟨hi, hq⟩ := hC
  have hol : out.length ≤ i := by rw [hq]; exact Nat.le_trans (writersH_len _ _) (by rw [List.length_take]; omega)
  have hxl := fun hil : i < g.txs.length => hs.at hil
  refine wp_seq ?_
  refine region_seq hS (by kernel_rfl)
    (cF rfl (o_lss .t .t) r2 trivial
    Chain.nil)
    (by kernel_rfl) (by rw [hB]; kernel_rfl) ?_
  clear hS; intro a w F hS
  obtain ⟨F, hS⟩ := hS.norm [(1, _), (4, _), (5, _), (9, _), (10, _), (11, _), (12, _)] [(0, _), (50, _), (101, _)] r7 r3
  try dsimp only [rHist, rTx, rOrd, rVer, rInt, rOp] at hS
  refine then_n ?_
  refine wp_seq ?_
  refine cond_b hS rfl (fun hc0 => ?_) (fun hc0 => ?_)
  ·skip
   have hil : i < g.txs.length := by simp at hc0; omega
   refine wp_skip ?_
   refine then_n ?_
   refine wp_seq ?_
   refine wp_block ?_
   refine wp_seq ?_
   refine region_seq hS (by kernel_rfl)
     (cF rfl (o_indexAddr_sl (sz := 3) (.mk Try.underlying63 (by kernel_rfl)) (by intro x; rfl) .t .t (by omega) (by omega)) r2 trivial
     (cF rfl (o_load_ref (ag := true) (sz := 3) .t (by kernel_rfl) (by kernel_rfl) (by kernel_rfl)) r1 trivial
     (cF rfl (o_alloc (zs := [.int .i64 0, .bool false, .slice none 0 0]) 102 (by kernel_rfl)) trivial trivial
     (cF rfl (o_storeA (sz := 3) 102 .same .t (by kernel_rfl) (by kernel_rfl) (by kernel_rfl)) r2 r1
     Chain.nil))))
     (by kernel_rfl) (by rw [hB]; kernel_rfl) ?_
   clear hS; intro a w F hS
   replace hS := hS.sub
   obtain ⟨F, hS⟩ := hS.norm [(1, _), (4, _), (5, _), (7, _), (9, _), (10, _), (11, _), (12, _), (13, _), (14, _)] [(0, _), (50, _), (101, _), (102, _)] ⟨rfl, rfl, rfl, rfl, rfl, rfl, rfl, rfl, rfl, rfl, trivial⟩ r4
   try dsimp only [RS.sub, SF.sub, CF.sub, csub, Anc.sub, List.map, stCells, List.length_cons, List.length_nil, Nat.reduceAdd, List.drop_succ_cons, List.drop_zero, List.drop_nil, List.take_succ_cons, List.take_zero, List.take_nil, List.cons_append, List.nil_append, zCF, ldSF, rHist, rTx, rOrd, rVer, rInt, rOp] at hS
   generalize Act.tau a 7 = v7 at hS
   try simp only [Int.toNat_natCast] at hS
   refine then_n ?_
   refine wp_seq ?_
   refine region_seq hS (by kernel_rfl)
     (cF rfl (o_fieldAddr (off := 1) 102 .is (by kernel_rfl) (by rfl)) r1 r1
     (cF rfl (o_load (ag := false) (sz := 1) 102 .adr (by kernel_rfl) (by kernel_rfl) (by kernel_rfl) (by rfl)) r1 r1
     (cF rfl (o_move .t (by rfl)) r1 trivial
     (Chain.cons (Cert.cond rfl rfl (fun h => o_fieldAddr (off := 2) 102 .is (by kernel_rfl) (by rfl))) r2 r1
     (Chain.cons (Cert.cond rfl rfl (fun h => o_load (ag := false) (sz := 1) 102 (.w h .adr) (by kernel_rfl) (by kernel_rfl) (by kernel_rfl) (by rfl))) r2 r1
     (Chain.cons (Cert.cond rfl rfl (fun h => o_move .t (by rfl))) r2 trivial
     (Chain.cons (Cert.cond rfl rfl (fun h => o_callP (rwrites_c (Go.Gm.nth g.txs i).ops k (by have := hxl hil; omega)) Try.func40 rfl (by kernel_rfl) (Args.two (.w h) (.w h)))) r3 trivial
     (Chain.cons (Cert.cond rfl rfl (fun h => o_gtr (.w h) (.ci (by kernel_rfl)))) r2 trivial
     (cF rfl (o_and2 .t .t) r2 trivial
     Chain.nil)))))))))
     (by kernel_rfl) (by rw [hB]; kernel_rfl) ?_
   clear hS; intro a w F hS
   obtain ⟨F, hS⟩ := hS.norm [(1, _), (4, _), (5, _), (7, _), (9, _), (10, _), (11, _), (12, _), (13, _), (14, _), (15, _), (16, _), (17, _), (18, _), (19, _), (20, _), (21, _), (22, _), (23, _)] [(0, _), (50, _), (101, _), (102, _)] ⟨rfl, rfl, rfl, rfl, rfl, rfl, rfl, rfl, rfl, rfl, rfl, rfl, rfl, rfl, rfl, rfl, rfl, rfl, rfl, trivial⟩ r4
   try dsimp only [List.map, List.drop_succ_cons, List.drop_zero, List.drop_nil, List.take_succ_cons, List.take_zero, List.take_nil, ldSF, rHist, rTx, rOrd, rVer, rInt, rOp] at hS
   refine then_n ?_
   refine cond_b hS rfl (fun hc1 => ?_) (fun hc1 => ?_)
   ·skip
    have hBq : ((Go.Gm.nth g.txs i).done = true ∧ 0 < wcnt (Go.Gm.nth g.txs i).ops k) := by
      have h8 := hc1
      rw [Bool.and_eq_true, decide_eq_true_eq] at h8
      exact ⟨h8.1, by unfold wcnt; exact_mod_cast h8.2⟩
    refine region_seq hS (by kernel_rfl)
      (cF rfl (o_move .t (by rfl)) r1 trivial
      (cF rfl (o_fieldAddr (off := 0) 102 .is (by kernel_rfl) (by rfl)) r1 r1
      (cF rfl (o_load (ag := false) (sz := 1) 102 .adr (by kernel_rfl) (by kernel_rfl) (by kernel_rfl) (by rfl)) r1 r1
      (cF rfl (o_buildSliceE (sz := 1) (zs := [.int .i64 0]) (r := [(0, .tmp 26)]) (l := [_]) Try.underlying30 (by kernel_rfl) (by kernel_rfl) (by kernel_rfl) (by kernel_rfl) rfl rfl (.one rfl .t one_int (by kernel_rfl) .nil) rfl) r1 trivial
      (cF rfl (o_append (sz := 1) (bs := 8) 50 (.mk' Try.underlying30 (by kernel_rfl) (by kernel_rfl)) (by intro x; rfl) .is (.arr (l' := [_]) .t) (by simp only [List.length_append, List.length_cons, List.length_nil, List.length_take, List.length_drop]; omega) (by decide)) ⟨rfl, rfl, trivial⟩ ⟨rfl, trivial⟩
      (cF rfl (o_assign .t (by rfl)) r1 trivial
      Chain.nil))))))
      (by kernel_rfl) (by rw [hB]; kernel_rfl) ?_
    clear hS; intro a w F hS
    replace hS := hS.sub
    obtain ⟨F, hS⟩ := hS.norm [(1, _), (4, _), (5, _), (7, _), (9, _), (10, _), (11, _), (12, _), (13, _), (14, _), (15, _), (16, _), (17, _), (18, _), (19, _), (20, _), (21, _), (22, _), (23, _), (24, _), (25, _), (26, _), (27, _), (28, _)] [(0, _), (50, _), (101, _), (102, _)] ⟨rfl, rfl, rfl, rfl, rfl, rfl, rfl, rfl, rfl, rfl, rfl, rfl, rfl, rfl, rfl, rfl, rfl, rfl, rfl, rfl, rfl, rfl, rfl, rfl, trivial⟩ r4
    try dsimp only [RS.sub, SF.sub, CF.sub, csub, Anc.sub, List.map, stCells, List.length_cons, List.length_nil, Nat.reduceAdd, List.drop_succ_cons, List.drop_zero, List.drop_nil, List.take_succ_cons, List.take_zero, List.take_nil, List.cons_append, List.nil_append, zCF, ldSF, rHist, rTx, rOrd, rVer, rInt, rOp] at hS
    generalize Act.tau a 28 = v28 at hS
    refine block_n ?_
    refine then_n ?_
    refine region_seq hS (by kernel_rfl)
      (cF rfl (o_add .t (.ci (by kernel_rfl))) r1 trivial
      (cF rfl (o_move .t (by rfl)) r1 trivial
      Chain.nil))
      (by kernel_rfl) (by rw [hB]; kernel_rfl) ?_
    clear hS; intro a w F hS
    obtain ⟨F, hS⟩ := hS.norm [(1, _), (4, _), (5, _), (7, _), (9, _), (10, _), (11, _), (12, _), (13, _), (14, _), (15, _), (16, _), (17, _), (18, _), (19, _), (20, _), (21, _), (22, _), (23, _), (24, _), (25, _), (26, _), (27, _), (28, _), (29, _)] [(0, _), (50, _), (101, _), (102, _)] ⟨rfl, rfl, rfl, rfl, rfl, rfl, rfl, rfl, rfl, rfl, rfl, rfl, rfl, rfl, rfl, rfl, rfl, rfl, rfl, rfl, rfl, rfl, rfl, rfl, rfl, trivial⟩ r4
    try dsimp only [rHist, rTx, rOrd, rVer, rInt, rOp] at hS
    refine then_n ?_
    replace hS := hS.ent (i := 11) (s' := .pv (.int .i64 ((i + 1 : Nat) : Int))) rfl (.int (wrap_succ (by omega)))
    obtain ⟨F, hS⟩ := hS.norm [(11, _), (5, _), (1, _), (4, _), (9, _), (10, _)] [(50, _), (0, _), (101, _)] ⟨rfl, rfl, rfl, rfl, rfl, rfl, trivial⟩ ⟨rfl, rfl, rfl, trivial⟩
    exact ⟨((i + 1), _, _), F, ⟨by omega, (by rw [writersH_step hil, ← hq]; first | (rw [if_pos hBq]; done) | (rw [if_neg hBq, List.append_nil]))⟩, hS, by omega⟩
   ·skip
    have hBq : ¬ ((Go.Gm.nth g.txs i).done = true ∧ 0 < wcnt (Go.Gm.nth g.txs i).ops k) := by
      rintro ⟨g1, g2⟩
      have h8 := hc1
      rw [g1, Bool.true_and, decide_eq_false_iff_not] at h8
      exact h8 (by unfold wcnt at g2; exact_mod_cast g2)
    refine wp_skip ?_
    refine block_n ?_
    refine then_n ?_
    refine region_seq hS (by kernel_rfl)
      (cF rfl (o_add .t (.ci (by kernel_rfl))) r1 trivial
      (cF rfl (o_move .t (by rfl)) r1 trivial
      Chain.nil))
      (by kernel_rfl) (by rw [hB]; kernel_rfl) ?_
    clear hS; intro a w F hS
    obtain ⟨F, hS⟩ := hS.norm [(1, _), (4, _), (5, _), (7, _), (9, _), (10, _), (11, _), (12, _), (13, _), (14, _), (15, _), (16, _), (17, _), (18, _), (19, _), (20, _), (21, _), (22, _), (23, _), (29, _)] [(0, _), (50, _), (101, _), (102, _)] ⟨rfl, rfl, rfl, rfl, rfl, rfl, rfl, rfl, rfl, rfl, rfl, rfl, rfl, rfl, rfl, rfl, rfl, rfl, rfl, rfl, trivial⟩ r4
    try dsimp only [rHist, rTx, rOrd, rVer, rInt, rOp] at hS
    refine then_n ?_
    replace hS := hS.ent (i := 11) (s' := .pv (.int .i64 ((i + 1 : Nat) : Int))) rfl (.int (wrap_succ (by omega)))
    obtain ⟨F, hS⟩ := hS.norm [(11, _), (5, _), (1, _), (4, _), (9, _), (10, _)] [(50, _), (0, _), (101, _)] ⟨rfl, rfl, rfl, rfl, rfl, rfl, trivial⟩ ⟨rfl, rfl, rfl, trivial⟩
    exact ⟨((i + 1), _, _), F, ⟨by omega, (by rw [writersH_step hil, ← hq]; first | (rw [if_pos hBq]; done) | (rw [if_neg hBq, List.append_nil]))⟩, hS, by omega⟩
  ·skip
   have hil : i = g.txs.length := by simp at hc0; omega
   refine wp_exit ?_
   refine then_x ?_
   refine then_x ?_
   refine block_x ?_
   refine then_n ?_
   refine wp_seq ?_
   refine region_seq hS (by kernel_rfl)
     (cF rfl (o_move .t (by rfl)) r1 trivial
     (cF rfl (o_assign .t (by rfl)) r1 trivial
     Chain.nil))
     (by kernel_rfl) (by rw [hB]; kernel_rfl) ?_
   clear hS; intro a w F hS
   obtain ⟨F, hS⟩ := hS.norm [(4, _)] [(0, _), (50, _), (101, _)] r1 r3
   try dsimp only [rHist, rTx, rOrd, rVer, rInt, rOp] at hS
   refine then_n ?_
   refine wp_ret ?_
   obtain ⟨F, hS⟩ := hS.give 50 4 rfl rfl
   refine ret_P hfr hS rfl (.tmp rfl .nil) (.one (.sl (by rw [hq, hil, List.take_length])))

theorem refPut_c (l : List Int) (n : Int) (hl : l.length ≤ 1000000) : FnP Try.prog 158 [.sl rInt l, .int .i64 n] (.sl rInt (putI l n)) := by
  refine FnP.mk Try.func158 rfl Try.ntmps158 rfl ?_
  intro B a w F hB hfr hS
  refine wp_seq ?_
  refine region_seq hS (by kernel_rfl)
    (cF rfl (o_assign (.c rfl) (by rfl)) trivial trivial
    Chain.nil)
    (by kernel_rfl) (by rw [hB]; kernel_rfl) ?_
  clear hS; intro a w F hS
  obtain ⟨F, hS⟩ := hS.norm [(0, _), (1, _), (4, _)] [(0, _)] r3 r1
  try dsimp only [rInt] at hS
  refine then_n ?_
  refine wp_seq ?_
  refine region_seq hS (by kernel_rfl)
    (cF rfl (o_move .t (by rfl)) r1 trivial
    (cF rfl (o_move .t (by rfl)) r1 trivial
    (cF rfl (o_callP (put10_c l n hl) Try.func93 rfl (by kernel_rfl) (Args.two .t .t)) r2 trivial
    (cF rfl (o_assign .t (by rfl)) r1 trivial
    Chain.nil))))
    (by kernel_rfl) (by rw [hB]; kernel_rfl) ?_
  clear hS; intro a w F hS
  obtain ⟨F, hS⟩ := hS.norm [(4, _)] [(0, _)] r1 r1
  try dsimp only [rInt] at hS
  refine then_n ?_
  refine wp_ret ?_
  refine ret_P hfr hS rfl (.tmp rfl .nil) (.one .refl)

theorem refKeysH_c (g : HistD) (hs : SmallT g.txs) : FnP Try.prog 130 [.agg (rHist g)] (.sl rInt (keysH g.txs)) := by
  refine FnP.mk Try.func130 rfl Try.ntmps130 rfl ?_
  intro B a w F hB hfr hS
  have hsl := hs.1
  refine wp_seq ?_
  refine region_seq hS (by kernel_rfl)
    (cF rfl (o_boxA 101 (.conv .t .agg) (by kernel_rfl)) r1 trivial
    (cF rfl (o_assign (.c rfl) (by rfl)) trivial trivial
    Chain.nil))
    (by kernel_rfl) (by rw [hB]; kernel_rfl) ?_
  clear hS; intro a w F hS
  replace hS := hS.sub
  obtain ⟨F, hS⟩ := hS.norm [(1, _), (2, _)] [(0, _), (101, _)] r2 r2
  try dsimp only [RS.sub, SF.sub, CF.sub, csub, Anc.sub, List.map, zCF, rHist, rTx, rOrd, rVer, rInt, rOp] at hS
  generalize Act.tau a 1 = v1 at hS
  refine then_n ?_
  refine wp_seq ?_
  refine region_seq hS (by kernel_rfl)
    (cF rfl (o_assign (.c rfl) (by rfl)) trivial trivial
    Chain.nil)
    (by kernel_rfl) (by rw [hB]; kernel_rfl) ?_
  clear hS; intro a w F hS
  obtain ⟨F, hS⟩ := hS.norm [(1, _), (2, _), (3, _)] [(0, _), (101, _)] r3 r2
  try dsimp only [rHist, rTx, rOrd, rVer, rInt, rOp] at hS
  refine then_n ?_
  refine wp_seq ?_
  refine wp_seq ?_
  refine region_seq hS (by kernel_rfl)
    (cF rfl (o_fieldAddr (off := 0) 101 .is (by kernel_rfl) (by rfl)) r1 r1
    (cF rfl (o_load (ag := false) (sz := 1) 101 .adr (by kernel_rfl) (by kernel_rfl) (by kernel_rfl) (by rfl)) r1 r1
    (cF rfl (o_len_sl Try.underlying63 .t) r1 trivial
    (cF rfl (o_move (.ci (by kernel_rfl)) (by rfl)) trivial trivial
    Chain.nil))))
    (by kernel_rfl) (by rw [hB]; kernel_rfl) ?_
  clear hS; intro a w F hS
  obtain ⟨F, hS⟩ := hS.norm [(2, _), (3, _), (9, _), (10, _), (11, _)] [(0, _), (101, _)] r5 r2
  try dsimp only [List.map, List.drop_succ_cons, List.drop_zero, List.drop_nil, List.take_succ_cons, List.take_zero, List.take_nil, ldSF, rHist, rTx, rOrd, rVer, rInt, rOp] at hS
  refine then_n ?_
  refine wp_block ?_
  replace hS := hS.ent (i := 3) (s' := .pv (.sl rInt (keysH (g.txs.take 0)))) rfl (.nilSl)
  refine loop_keep (σ := (Nat)) [2, 9, 10] [0, 101] (fun s => [(11, .pv (.int .i64 (s : Int))), (3, .pv (.sl rInt (keysH (g.txs.take s))))]) (fun s => []) (fun s => s ≤ g.txs.length ∧ (True)) (fun s => g.txs.length - s) (0) hS ⟨rfl, rfl, rfl, rfl, rfl, trivial⟩ ⟨rfl, rfl, trivial⟩ ⟨Nat.zero_le _, trivial⟩ ?_
  clear hS; intro i a w F hC hS
  try dsimp only at hC
  obtain ⟨F, hS⟩ := hS.norm [(2, _), (3, _), (9, _), (10, _), (11, _)] [(0, _), (101, _)] r5 r2
  try dsimp only at hS
  obtain ⟨hi, hq⟩ := hC
  have hxl := fun hil : i < g.txs.length => hs.at hil
  have hkl : (keysH (g.txs.take i)).length ≤ 1000 * i := keysH_le hs i
  refine wp_seq ?_
  refine region_seq hS (by kernel_rfl)
    (cF rfl (o_lss .t .t) r2 trivial
    Chain.nil)
    (by kernel_rfl) (by rw [hB]; kernel_rfl) ?_
  clear hS; intro a w F hS
  obtain ⟨F, hS⟩ := hS.norm [(2, _), (3, _), (9, _), (10, _), (11, _), (12, _)] [(0, _), (101, _)] r6 r2
  try dsimp only [rHist, rTx, rOrd, rVer, rInt, rOp] at hS
  refine then_n ?_
  refine wp_seq ?_
  refine cond_b hS rfl (fun hc0 => ?_) (fun hc0 => ?_)
  ·skip
   have hil : i < g.txs.length := by simp at hc0; omega
   have hio := hil
   have htl := hxl hil
   have hkt := keysT_len (Go.Gm.nth g.txs i)
   have hsl := hs.1
   refine wp_skip ?_
   refine then_n ?_
   refine wp_seq ?_
   refine wp_block ?_
   refine wp_seq ?_
   refine region_seq hS (by kernel_rfl)
     (cF rfl (o_indexAddr_sl (sz := 3) (.mk Try.underlying63 (by kernel_rfl)) (by intro x; rfl) .t .t (by omega) (by omega)) r2 trivial
     (cF rfl (o_load_ref (ag := true) (sz := 3) .t (by kernel_rfl) (by kernel_rfl) (by kernel_rfl)) r1 trivial
     (cF rfl (o_alloc (zs := [.int .i64 0, .bool false, .slice none 0 0]) 102 (by kernel_rfl)) trivial trivial
     (cF rfl (o_storeA (sz := 3) 102 .same .t (by kernel_rfl) (by kernel_rfl) (by kernel_rfl)) r2 r1
     Chain.nil))))
     (by kernel_rfl) (by rw [hB]; kernel_rfl) ?_
   clear hS; intro a w F hS
   replace hS := hS.sub
   obtain ⟨F, hS⟩ := hS.norm [(2, _), (3, _), (5, _), (9, _), (10, _), (11, _), (12, _), (13, _), (14, _)] [(0, _), (101, _), (102, _)] ⟨rfl, rfl, rfl, rfl, rfl, rfl, rfl, rfl, rfl, trivial⟩ r3
   try dsimp only [RS.sub, SF.sub, CF.sub, csub, Anc.sub, List.map, stCells, List.length_cons, List.length_nil, Nat.reduceAdd, List.drop_succ_cons, List.drop_zero, List.drop_nil, List.take_succ_cons, List.take_zero, List.take_nil, List.cons_append, List.nil_append, zCF, ldSF, rHist, rTx, rOrd, rVer, rInt, rOp] at hS
   generalize Act.tau a 5 = v5 at hS
   try simp only [Int.toNat_natCast] at hS
   refine then_n ?_
   refine wp_seq ?_
   refine region_seq hS (by kernel_rfl)
     (cF rfl (o_fieldAddr (off := 1) 102 .is (by kernel_rfl) (by rfl)) r1 r1
     (cF rfl (o_load (ag := false) (sz := 1) 102 .adr (by kernel_rfl) (by kernel_rfl) (by kernel_rfl) (by rfl)) r1 r1
     Chain.nil))
     (by kernel_rfl) (by rw [hB]; kernel_rfl) ?_
   clear hS; intro a w F hS
   obtain ⟨F, hS⟩ := hS.norm [(2, _), (3, _), (5, _), (9, _), (10, _), (11, _), (12, _), (13, _), (14, _), (15, _), (16, _)] [(0, _), (101, _), (102, _)] ⟨rfl, rfl, rfl, rfl, rfl, rfl, rfl, rfl, rfl, rfl, rfl, trivial⟩ r3
   try dsimp only [List.map, List.drop_succ_cons, List.drop_zero, List.drop_nil, List.take_succ_cons, List.take_zero, List.take_nil, ldSF, rHist, rTx, rOrd, rVer, rInt, rOp] at hS
   refine then_n ?_
   refine cond_b hS rfl (fun hc1 => ?_) (fun hc1 => ?_)
   ·skip
    have hdn : (Go.Gm.nth g.txs i).done = true := hc1
    refine wp_seq ?_
    refine region_seq hS (by kernel_rfl)
      (cF rfl (o_load (ag := true) (sz := 3) 102 .is (by kernel_rfl) (by kernel_rfl) (by kernel_rfl) (by rfl)) r1 r1
      (cF rfl (o_callP (rkeys_c (Go.Gm.nth g.txs i) false (by have := hxl hil; omega)) Try.func42 rfl (by kernel_rfl) (Args.two (.pagg .t) .cb)) r1 trivial
      (cF rfl (o_len_sl Try.underlying30 .t) r1 trivial
      (cF rfl (o_move (.ci (by kernel_rfl)) (by rfl)) trivial trivial
      Chain.nil))))
      (by kernel_rfl) (by rw [hB]; kernel_rfl) ?_
    clear hS; intro a w F hS
    obtain ⟨F, hS⟩ := hS.norm [(2, _), (3, _), (5, _), (9, _), (10, _), (11, _), (12, _), (13, _), (14, _), (15, _), (16, _), (17, _), (18, _), (19, _), (20, _)] [(0, _), (101, _), (102, _)] ⟨rfl, rfl, rfl, rfl, rfl, rfl, rfl, rfl, rfl, rfl, rfl, rfl, rfl, rfl, rfl, trivial⟩ r3
    try dsimp only [List.map, List.drop_succ_cons, List.drop_zero, List.drop_nil, List.take_succ_cons, List.take_zero, List.take_nil, ldSF, rHist, rTx, rOrd, rVer, rInt, rOp] at hS
    rw [show keysL (((Go.Gm.nth g.txs i).ops.filter fun o => false || !o.read).map OpD.key) = keysT (Go.Gm.nth g.txs i) from rfl] at hS
    refine then_n ?_
    refine wp_block ?_
    replace hS := hS.ent (i := 3) (s' := .pv (.sl rInt (((keysT (Go.Gm.nth g.txs i)).take 0).foldl putI (keysH (g.txs.take i))))) rfl (.refl)
    refine loop_keep (σ := (Nat)) [2, 5, 9, 10, 11, 12, 13, 14, 15, 16, 17, 18, 19] [0, 101, 102] (fun s => [(20, .pv (.int .i64 (s : Int))), (3, .pv (.sl rInt (((keysT (Go.Gm.nth g.txs i)).take s).foldl putI (keysH (g.txs.take i)))))]) (fun s => []) (fun s => s ≤ (keysT (Go.Gm.nth g.txs i)).length ∧ (True)) (fun s => (keysT (Go.Gm.nth g.txs i)).length - s) (0) hS ⟨rfl, rfl, rfl, rfl, rfl, rfl, rfl, rfl, rfl, rfl, rfl, rfl, rfl, rfl, rfl, trivial⟩ ⟨rfl, rfl, rfl, trivial⟩ ⟨Nat.zero_le _, trivial⟩ ?_
    clear hS; intro j a w F hC hS
    try dsimp only at hC
    obtain ⟨F, hS⟩ := hS.norm [(2, _), (3, _), (5, _), (9, _), (10, _), (11, _), (12, _), (13, _), (14, _), (15, _), (16, _), (17, _), (18, _), (19, _), (20, _)] [(0, _), (101, _), (102, _)] ⟨rfl, rfl, rfl, rfl, rfl, rfl, rfl, rfl, rfl, rfl, rfl, rfl, rfl, rfl, rfl, trivial⟩ r3
    try dsimp only at hS
    obtain ⟨hi, hq⟩ := hC
    have hjb := keysF_len (keysH (g.txs.take i)) ((keysT (Go.Gm.nth g.txs i)).take j)
    rw [List.length_take] at hjb
    refine wp_seq ?_
    refine region_seq hS (by kernel_rfl)
      (cF rfl (o_lss .t .t) r2 trivial
      Chain.nil)
      (by kernel_rfl) (by rw [hB]; kernel_rfl) ?_
    clear hS; intro a w F hS
    obtain ⟨F, hS⟩ := hS.norm [(2, _), (3, _), (5, _), (9, _), (10, _), (11, _), (12, _), (13, _), (14, _), (15, _), (16, _), (17, _), (18, _), (19, _), (20, _), (21, _)] [(0, _), (101, _), (102, _)] ⟨rfl, rfl, rfl, rfl, rfl, rfl, rfl, rfl, rfl, rfl, rfl, rfl, rfl, rfl, rfl, rfl, trivial⟩ r3
    try dsimp only [rHist, rTx, rOrd, rVer, rInt, rOp] at hS
    refine then_n ?_
    refine wp_seq ?_
    refine cond_b hS rfl (fun hc2 => ?_) (fun hc2 => ?_)
    ·skip
     have hil : j < (keysT (Go.Gm.nth g.txs i)).length := by simp at hc2; omega
     refine wp_skip ?_
     refine then_n ?_
     refine wp_seq ?_
     refine wp_block ?_
     refine wp_seq ?_
     refine region_seq hS (by kernel_rfl)
       (cF rfl (o_indexAddr_sl (sz := 1) (.mk Try.underlying30 (by kernel_rfl)) (by intro x; rfl) .t .t (by omega) (by omega)) r2 trivial
       (cF rfl (o_load_ref (ag := false) (sz := 1) .t (by kernel_rfl) (by kernel_rfl) (by kernel_rfl)) r1 trivial
       (cF rfl (o_assign .t (by rfl)) r1 trivial
       Chain.nil)))
       (by kernel_rfl) (by rw [hB]; kernel_rfl) ?_
     clear hS; intro a w F hS
     obtain ⟨F, hS⟩ := hS.norm [(2, _), (3, _), (5, _), (7, _), (9, _), (10, _), (11, _), (12, _), (13, _), (14, _), (15, _), (16, _), (17, _), (18, _), (19, _), (20, _), (21, _), (22, _), (23, _)] [(0, _), (101, _), (102, _)] ⟨rfl, rfl, rfl, rfl, rfl, rfl, rfl, rfl, rfl, rfl, rfl, rfl, rfl, rfl, rfl, rfl, rfl, rfl, rfl, trivial⟩ r3
     try dsimp only [List.map, List.drop_succ_cons, List.drop_zero, List.drop_nil, List.take_succ_cons, List.take_zero, List.take_nil, ldSF, rHist, rTx, rOrd, rVer, rInt, rOp] at hS
     try simp only [Int.toNat_natCast] at hS
     refine then_n ?_
     refine region_seq hS (by kernel_rfl)
       (cF rfl (o_move .t (by rfl)) r1 trivial
       (cF rfl (o_move .t (by rfl)) r1 trivial
       (cF rfl (o_callP (refPut_c (((keysT (Go.Gm.nth g.txs i)).take j).foldl putI (keysH (g.txs.take i))) _ (by omega)) Try.func158 rfl (by kernel_rfl) (Args.two .t .t)) r2 trivial
       (cF rfl (o_assign .t (by rfl)) r1 trivial
       Chain.nil))))
       (by kernel_rfl) (by rw [hB]; kernel_rfl) ?_
     clear hS; intro a w F hS
     obtain ⟨F, hS⟩ := hS.norm [(2, _), (3, _), (5, _), (7, _), (9, _), (10, _), (11, _), (12, _), (13, _), (14, _), (15, _), (16, _), (17, _), (18, _), (19, _), (20, _), (21, _), (22, _), (23, _), (24, _), (25, _), (26, _)] [(0, _), (101, _), (102, _)] ⟨rfl, rfl, rfl, rfl, rfl, rfl, rfl, rfl, rfl, rfl, rfl, rfl, rfl, rfl, rfl, rfl, rfl, rfl, rfl, rfl, rfl, rfl, trivial⟩ r3
     try dsimp only [rHist, rTx, rOrd, rVer, rInt, rOp] at hS
     refine block_n ?_
     refine then_n ?_
     refine region_seq hS (by kernel_rfl)
       (cF rfl (o_add .t (.ci (by kernel_rfl))) r1 trivial
       (cF rfl (o_move .t (by rfl)) r1 trivial
       Chain.nil))
       (by kernel_rfl) (by rw [hB]; kernel_rfl) ?_
     clear hS; intro a w F hS
     obtain ⟨F, hS⟩ := hS.norm [(2, _), (3, _), (5, _), (7, _), (9, _), (10, _), (11, _), (12, _), (13, _), (14, _), (15, _), (16, _), (17, _), (18, _), (19, _), (20, _), (21, _), (22, _), (23, _), (24, _), (25, _), (26, _), (27, _)] [(0, _), (101, _), (102, _)] ⟨rfl, rfl, rfl, rfl, rfl, rfl, rfl, rfl, rfl, rfl, rfl, rfl, rfl, rfl, rfl, rfl, rfl, rfl, rfl, rfl, rfl, rfl, rfl, trivial⟩ r3
     try dsimp only [rHist, rTx, rOrd, rVer, rInt, rOp] at hS
     refine then_n ?_
     replace hS := hS.ent (i := 20) (s' := .pv (.int .i64 ((j + 1 : Nat) : Int))) rfl (.int (wrap_succ (by omega)))
     replace hS := hS.ent (i := 3) (s' := .pv (.sl rInt (((keysT (Go.Gm.nth g.txs i)).take (j + 1)).foldl putI (keysH (g.txs.take i))))) rfl ((.sl (by rw [take_nth hil, List.foldl_append]; rfl)))
     obtain ⟨F, hS⟩ := hS.norm [(20, _), (3, _), (2, _), (5, _), (9, _), (10, _), (11, _), (12, _), (13, _), (14, _), (15, _), (16, _), (17, _), (18, _), (19, _)] [(0, _), (101, _), (102, _)] ⟨rfl, rfl, rfl, rfl, rfl, rfl, rfl, rfl, rfl, rfl, rfl, rfl, rfl, rfl, rfl, trivial⟩ ⟨rfl, rfl, rfl, trivial⟩
     exact ⟨(j + 1), F, ⟨by omega, trivial⟩, hS, by omega⟩
    ·skip
     have hil : j = (keysT (Go.Gm.nth g.txs i)).length := by simp at hc2; omega
     replace hS := hS.ent (i := 3) (s' := .pv (.sl rInt (keysH (g.txs.take (i + 1))))) rfl (.sl (by rw [keysH_step hio, if_pos hdn, hil, List.take_length]))
     refine wp_exit ?_
     refine then_x ?_
     refine then_x ?_
     refine block_x ?_
     refine block_n ?_
     refine then_n ?_
     refine region_seq hS (by kernel_rfl)
       (cF rfl (o_add .t (.ci (by kernel_rfl))) r1 trivial
       (cF rfl (o_move .t (by rfl)) r1 trivial
       Chain.nil))
       (by kernel_rfl) (by rw [hB]; kernel_rfl) ?_
     clear hS; intro a w F hS
     obtain ⟨F, hS⟩ := hS.norm [(2, _), (3, _), (5, _), (9, _), (10, _), (11, _), (12, _), (13, _), (14, _), (15, _), (16, _), (17, _), (18, _), (19, _), (20, _), (21, _), (28, _)] [(0, _), (101, _), (102, _)] ⟨rfl, rfl, rfl, rfl, rfl, rfl, rfl, rfl, rfl, rfl, rfl, rfl, rfl, rfl, rfl, rfl, rfl, trivial⟩ r3
     try dsimp only [rHist, rTx, rOrd, rVer, rInt, rOp] at hS
     refine then_n ?_
     replace hS := hS.ent (i := 11) (s' := .pv (.int .i64 ((i + 1 : Nat) : Int))) rfl (.int (wrap_succ (by omega)))
     obtain ⟨F, hS⟩ := hS.norm [(11, _), (3, _), (2, _), (9, _), (10, _)] [(0, _), (101, _)] ⟨rfl, rfl, rfl, rfl, rfl, trivial⟩ ⟨rfl, rfl, trivial⟩
     exact ⟨(i + 1), F, ⟨by omega, trivial⟩, hS, by omega⟩
   ·skip
    have hdn : ¬ (Go.Gm.nth g.txs i).done = true := by rw [hc1]; simp
    replace hS := hS.ent (i := 3) (s' := .pv (.sl rInt (keysH (g.txs.take (i + 1))))) rfl (.sl (by rw [keysH_step hio, if_neg hdn]))
    refine wp_skip ?_
    refine block_n ?_
    refine then_n ?_
    refine region_seq hS (by kernel_rfl)
      (cF rfl (o_add .t (.ci (by kernel_rfl))) r1 trivial
      (cF rfl (o_move .t (by rfl)) r1 trivial
      Chain.nil))
      (by kernel_rfl) (by rw [hB]; kernel_rfl) ?_
    clear hS; intro a w F hS
    obtain ⟨F, hS⟩ := hS.norm [(2, _), (3, _), (5, _), (9, _), (10, _), (11, _), (12, _), (13, _), (14, _), (15, _), (16, _), (28, _)] [(0, _), (101, _), (102, _)] ⟨rfl, rfl, rfl, rfl, rfl, rfl, rfl, rfl, rfl, rfl, rfl, rfl, trivial⟩ r3
    try dsimp only [rHist, rTx, rOrd, rVer, rInt, rOp] at hS
    refine then_n ?_
    replace hS := hS.ent (i := 11) (s' := .pv (.int .i64 ((i + 1 : Nat) : Int))) rfl (.int (wrap_succ (by omega)))
    obtain ⟨F, hS⟩ := hS.norm [(11, _), (3, _), (2, _), (9, _), (10, _)] [(0, _), (101, _)] ⟨rfl, rfl, rfl, rfl, rfl, trivial⟩ ⟨rfl, rfl, trivial⟩
    exact ⟨(i + 1), F, ⟨by omega, trivial⟩, hS, by omega⟩
  ·skip
   have hil : i = g.txs.length := by simp at hc0; omega
   refine wp_exit ?_
   refine then_x ?_
   refine then_x ?_
   refine block_x ?_
   refine then_n ?_
   refine wp_seq ?_
   refine region_seq hS (by kernel_rfl)
     (cF rfl (o_move .t (by rfl)) r1 trivial
     (cF rfl (o_assign .t (by rfl)) r1 trivial
     Chain.nil))
     (by kernel_rfl) (by rw [hB]; kernel_rfl) ?_
   clear hS; intro a w F hS
   obtain ⟨F, hS⟩ := hS.norm [(2, _)] [(0, _), (101, _)] r1 r2
   try dsimp only [rHist, rTx, rOrd, rVer, rInt, rOp] at hS
   refine then_n ?_
   refine wp_ret ?_
   refine ret_P hfr hS rfl (.tmp rfl .nil) (.one (.sl (by rw [hil, List.take_length])))

end Go.Proofs.Ytpjjmolibanakaa
