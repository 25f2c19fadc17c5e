/- The code's writers. No condition beyond those that each theorem says. -/
import Derived.Test.YtpjjmolibanakaaHi3
import Derived.Test.YtpjjmolibanakaaTx5
import Derived.Test.YtpjjmolibanakaaLibG
namespace Go.Proofs.Ytpjjmolibanakaa
open Go Go.Gm
set_option linter.unusedVariables false
set_option linter.unusedSimpArgs false
set_option maxHeartbeats 4000000
set_option maxRecDepth 8000


theorem writers_c (g : HistD) (hs : SmallT g.txs) : FnG Try.prog 160 1 [.agg (rHist g)] [.star []] (PV.one) (fun v => [HP.ex fun s : List (GE Int (List Int)) × Nat => HP.and (WrL s.1 g.txs) (mapG (fun l : List Int => PV.sl rInt l) (fun _ => True) (fun n : Int => Value.int .i64 n) s.1 s.2 v)]) := by
  refine FnG.mk Try.func160 rfl Try.ntmps160 rfl (by kernel_rfl) ?_
  intro B F0 a w F hB hG hS
  have hsl := hs.1
  obtain ⟨F, hS⟩ := hS.norm [(0, _)] [(0, _)] r1 r1
  refine wp_seq ?_
  refine region_seq hS (by kernel_rfl)
    (cF rfl (o_boxA 101 (.conv .t .agg) (by kernel_rfl)) r1 trivial
    (cF rfl (o_assign (.c rfl) (by rfl)) trivial trivial
    Chain.nil))
    (by kernel_rfl) (by rw [hB]; kernel_rfl) ?_
  clear hS; intro a w F hS
  replace hS := hS.sub
  obtain ⟨F, hS⟩ := hS.norm [(1, _), (2, _)] [(0, _), (101, _)] r2 r2
  try dsimp only [RS.sub, SF.sub, CF.sub, csub, Anc.sub, List.map, zCF, rHist, rTx, rOrd, rVer, rInt, rOp] at hS
  generalize Act.tau a 1 = v1 at hS
  refine then_n ?_
  refine wp_seq ?_
  refine region_seq hS (by kernel_rfl)
    (cF rfl (o_makeMapG (ek := (fun p : Value × List Int => PV.is p.1)) (ok := (fun _ => True)) (kv := (fun n : Int => Value.int .i64 n)) 102) trivial trivial
    (cF rfl (o_assign .t (by rfl)) r1 trivial
    Chain.nil))
    (by kernel_rfl) (by rw [hB]; kernel_rfl) ?_
  clear hS; intro a w F hS
  replace hS := hS.sub
  obtain ⟨F, hS⟩ := hS.norm [(1, _), (2, _), (3, _)] [(0, _), (101, _), (102, _)] r3 r3
  try dsimp only [RS.sub, SF.sub, CF.sub, csub, Anc.sub, List.map, stCells, List.length_cons, List.length_nil, Nat.reduceAdd, List.drop_succ_cons, List.drop_zero, List.drop_nil, List.take_succ_cons, List.take_zero, List.take_nil, List.cons_append, List.nil_append, zCF, rHist, rTx, rOrd, rVer, rInt, rOp] at hS
  generalize Act.tau a 8 = v8 at hS
  replace hS := hS.fresh 60 rfl
  replace hS := hS.turn 60 rfl (r' := famG 3 1 rInt ([] : List (GE Int (Value × List Int)))) (fun _ _ _ _ h => h)
  obtain ⟨F, hS⟩ := hS.norm [(1, _), (2, _), (3, _)] [(0, _), (60, _), (101, _), (102, _)] r3 r4
  refine then_n ?_
  refine wp_seq ?_
  refine wp_seq ?_
  refine region_seq hS (by kernel_rfl)
    (cF rfl (o_fieldAddr (off := 0) 101 .is (by kernel_rfl) (by rfl)) r1 r1
    (cF rfl (o_load (ag := false) (sz := 1) 101 .adr (by kernel_rfl) (by kernel_rfl) (by kernel_rfl) (by rfl)) r1 r1
    (cF rfl (o_len_sl Try.underlying63 .t) r1 trivial
    (cF rfl (o_move (.ci (by kernel_rfl)) (by rfl)) trivial trivial
    Chain.nil))))
    (by kernel_rfl) (by rw [hB]; kernel_rfl) ?_
  clear hS; intro a w F hS
  obtain ⟨F, hS⟩ := hS.norm [(2, _), (3, _), (10, _), (11, _), (12, _)] [(0, _), (60, _), (101, _), (102, _)] r5 r4
  try dsimp only [List.map, List.drop_succ_cons, List.drop_zero, List.drop_nil, List.take_succ_cons, List.take_zero, List.take_nil, ldSF, rHist, rTx, rOrd, rVer, rInt, rOp] at hS
  refine then_n ?_
  refine wp_block ?_
  refine loop_keep (σ := (Nat) × (List (GE Int (Value × List Int))) × (Nat)) [2, 3, 10, 11] [0, 101] (fun s => [(12, .pv (.int .i64 (s.1 : Int)))]) (fun s => [(102, .ob (.val v8) (mapG (fun p : Value × List Int => PV.is p.1) (fun _ => True) (fun n : Int => Value.int .i64 n) s.2.1 s.2.2)), (60, famG 3 1 rInt s.2.1)]) (fun s => s.1 ≤ g.txs.length ∧ (WrV s.2.1 (g.txs.take s.1) 0 [])) (fun s => g.txs.length - s.1) ((0), ([]), (0)) hS ⟨rfl, rfl, rfl, rfl, rfl, trivial⟩ ⟨rfl, rfl, rfl, rfl, trivial⟩ ⟨Nat.zero_le _, wr_zero⟩ ?_
  clear hS; intro s a w F hC hS
  obtain ⟨i, es, ck⟩ := s
  try dsimp only at hC
  obtain ⟨F, hS⟩ := hS.norm [(2, _), (3, _), (10, _), (11, _), (12, _)] [(0, _), (60, _), (101, _), (102, _)] r5 r4
  try dsimp only at hS
  obtain ⟨hi, hq⟩ := hC
  have hxl := fun hil : i < g.txs.length => hs.at hil
  refine wp_seq ?_
  refine region_seq hS (by kernel_rfl)
    (cF rfl (o_lss .t .t) r2 trivial
    Chain.nil)
    (by kernel_rfl) (by rw [hB]; kernel_rfl) ?_
  clear hS; intro a w F hS
  obtain ⟨F, hS⟩ := hS.norm [(2, _), (3, _), (10, _), (11, _), (12, _), (13, _)] [(0, _), (60, _), (101, _), (102, _)] r6 r4
  try dsimp only [rHist, rTx, rOrd, rVer, rInt, rOp] at hS
  refine then_n ?_
  refine wp_seq ?_
  refine cond_b hS rfl (fun hc0 => ?_) (fun hc0 => ?_)
  ·skip
   have hil : i < g.txs.length := by simp at hc0; omega
   have hio := hil
   have hw0 := hq
   have htl := hxl hil
   have hkt := keysT_len (Go.Gm.nth g.txs i)
   have hsl := hs.1
   refine wp_skip ?_
   refine then_n ?_
   refine wp_seq ?_
   refine wp_block ?_
   refine wp_seq ?_
   refine region_seq hS (by kernel_rfl)
     (cF rfl (o_indexAddr_sl (sz := 3) (.mk Try.underlying63 (by kernel_rfl)) (by intro x; rfl) .t .t (by omega) (by omega)) r2 trivial
     (cF rfl (o_load_ref (ag := true) (sz := 3) .t (by kernel_rfl) (by kernel_rfl) (by kernel_rfl)) r1 trivial
     (cF rfl (o_alloc (zs := [.int .i64 0, .bool false, .slice none 0 0]) 103 (by kernel_rfl)) trivial trivial
     (cF rfl (o_storeA (sz := 3) 103 .same .t (by kernel_rfl) (by kernel_rfl) (by kernel_rfl)) r2 r1
     Chain.nil))))
     (by kernel_rfl) (by rw [hB]; kernel_rfl) ?_
   clear hS; intro a w F hS
   replace hS := hS.sub
   obtain ⟨F, hS⟩ := hS.norm [(2, _), (3, _), (5, _), (10, _), (11, _), (12, _), (13, _), (14, _), (15, _)] [(0, _), (60, _), (101, _), (102, _), (103, _)] ⟨rfl, rfl, rfl, rfl, rfl, rfl, rfl, rfl, rfl, trivial⟩ r5
   try dsimp only [RS.sub, SF.sub, CF.sub, csub, Anc.sub, List.map, stCells, List.length_cons, List.length_nil, Nat.reduceAdd, List.drop_succ_cons, List.drop_zero, List.drop_nil, List.take_succ_cons, List.take_zero, List.take_nil, List.cons_append, List.nil_append, zCF, ldSF, rHist, rTx, rOrd, rVer, rInt, rOp] at hS
   generalize Act.tau a 5 = v5 at hS
   try simp only [Int.toNat_natCast] at hS
   refine then_n ?_
   refine wp_seq ?_
   refine wp_seq ?_
   refine region_seq hS (by kernel_rfl)
     (cF rfl (o_fieldAddr (off := 1) 103 .is (by kernel_rfl) (by rfl)) r1 r1
     (cF rfl (o_load (ag := false) (sz := 1) 103 .adr (by kernel_rfl) (by kernel_rfl) (by kernel_rfl) (by rfl)) r1 r1
     (cF rfl (o_not .t) r1 trivial
     Chain.nil)))
     (by kernel_rfl) (by rw [hB]; kernel_rfl) ?_
   clear hS; intro a w F hS
   obtain ⟨F, hS⟩ := hS.norm [(2, _), (3, _), (5, _), (10, _), (11, _), (12, _), (13, _), (14, _), (15, _), (16, _), (17, _), (18, _)] [(0, _), (60, _), (101, _), (102, _), (103, _)] ⟨rfl, rfl, rfl, rfl, rfl, rfl, rfl, rfl, rfl, rfl, rfl, rfl, trivial⟩ r5
   try dsimp only [List.map, List.drop_succ_cons, List.drop_zero, List.drop_nil, List.take_succ_cons, List.take_zero, List.take_nil, ldSF, rHist, rTx, rOrd, rVer, rInt, rOp] at hS
   refine then_n ?_
   refine cond_b hS rfl (fun hc1 => ?_) (fun hc1 => ?_)
   ·skip
    have hdn : (Go.Gm.nth g.txs i).done = false := by simpa using hc1
    obtain ⟨es2, he2⟩ : ∃ z, z = es := ⟨_, rfl⟩
    obtain ⟨ck2, hc2⟩ : ∃ z, z = ck := ⟨_, rfl⟩
    have hR2 : WrV es2 (g.txs.take (i + 1)) 0 [] := by rw [he2]; exact wr_skip hw0 hio hdn
    rw [← he2, ← hc2] at hS
    refine wp_exit ?_
    refine then_x ?_
    refine block_x ?_
    refine then_n ?_
    refine region_seq hS (by kernel_rfl)
      (cF rfl (o_add .t (.ci (by kernel_rfl))) r1 trivial
      (cF rfl (o_move .t (by rfl)) r1 trivial
      Chain.nil))
      (by kernel_rfl) (by rw [hB]; kernel_rfl) ?_
    clear hS; intro a w F hS
    obtain ⟨F, hS⟩ := hS.norm [(2, _), (3, _), (5, _), (10, _), (11, _), (12, _), (13, _), (14, _), (15, _), (16, _), (17, _), (18, _), (36, _)] [(0, _), (60, _), (101, _), (102, _), (103, _)] ⟨rfl, rfl, rfl, rfl, rfl, rfl, rfl, rfl, rfl, rfl, rfl, rfl, rfl, trivial⟩ r5
    try dsimp only [rHist, rTx, rOrd, rVer, rInt, rOp] at hS
    refine then_n ?_
    replace hS := hS.ent (i := 12) (s' := .pv (.int .i64 ((i + 1 : Nat) : Int))) rfl (.int (wrap_succ (by omega)))
    obtain ⟨F, hS⟩ := hS.norm [(12, _), (2, _), (3, _), (10, _), (11, _)] [(102, _), (60, _), (0, _), (101, _)] ⟨rfl, rfl, rfl, rfl, rfl, trivial⟩ ⟨rfl, rfl, rfl, rfl, trivial⟩
    exact ⟨((i + 1), (es2), (ck2)), F, ⟨by omega, hR2⟩, hS, by omega⟩
   ·skip
    have hdn : (Go.Gm.nth g.txs i).done = true := by simpa using hc1
    refine wp_skip ?_
    refine then_n ?_
    refine wp_seq ?_
    refine region_seq hS (by kernel_rfl)
      (cF rfl (o_load (ag := true) (sz := 3) 103 .is (by kernel_rfl) (by kernel_rfl) (by kernel_rfl) (by rfl)) r1 r1
      (cF rfl (o_callP (tKeys_c (Go.Gm.nth g.txs i) (by have := hxl hio; omega)) Try.func41 rfl (by kernel_rfl) (Args.one (.pagg .t))) r1 trivial
      (cF rfl (o_len_sl Try.underlying30 .t) r1 trivial
      (cF rfl (o_move (.ci (by kernel_rfl)) (by rfl)) trivial trivial
      Chain.nil))))
      (by kernel_rfl) (by rw [hB]; kernel_rfl) ?_
    clear hS; intro a w F hS
    obtain ⟨F, hS⟩ := hS.norm [(2, _), (3, _), (5, _), (10, _), (11, _), (12, _), (13, _), (14, _), (15, _), (16, _), (17, _), (18, _), (19, _), (20, _), (21, _), (22, _)] [(0, _), (60, _), (101, _), (102, _), (103, _)] ⟨rfl, rfl, rfl, rfl, rfl, rfl, rfl, rfl, rfl, rfl, rfl, rfl, rfl, rfl, rfl, rfl, trivial⟩ r5
    try dsimp only [List.map, List.drop_succ_cons, List.drop_zero, List.drop_nil, List.take_succ_cons, List.take_zero, List.take_nil, ldSF, rHist, rTx, rOrd, rVer, rInt, rOp] at hS
    rw [show keysL (((Go.Gm.nth g.txs i).ops.filter fun o => !o.read).map OpD.key) = keysT (Go.Gm.nth g.txs i) from rfl] at hS
    refine then_n ?_
    refine wp_block ?_
    refine loop_keep (σ := (Nat) × (List (GE Int (Value × List Int))) × (Nat)) [2, 3, 5, 10, 11, 12, 13, 14, 15, 16, 17, 18, 19, 20, 21] [0, 101, 103] (fun s => [(22, .pv (.int .i64 (s.1 : Int)))]) (fun s => [(102, .ob (.val v8) (mapG (fun p : Value × List Int => PV.is p.1) (fun _ => True) (fun n : Int => Value.int .i64 n) s.2.1 s.2.2)), (60, famG 3 1 rInt s.2.1)]) (fun s => s.1 ≤ (keysT (Go.Gm.nth g.txs i)).length ∧ (WrV s.2.1 (g.txs.take i) (Go.Gm.nth g.txs i).id ((keysT (Go.Gm.nth g.txs i)).take s.1))) (fun s => (keysT (Go.Gm.nth g.txs i)).length - s.1) ((0), (es), (ck)) hS ⟨rfl, rfl, rfl, rfl, rfl, rfl, rfl, rfl, rfl, rfl, rfl, rfl, rfl, rfl, rfl, rfl, trivial⟩ ⟨rfl, rfl, rfl, rfl, rfl, trivial⟩ ⟨Nat.zero_le _, (by simpa using wr_other hw0)⟩ ?_
    clear hS; intro s a w F hC hS
    obtain ⟨j, es, ck⟩ := s
    try dsimp only at hC
    obtain ⟨F, hS⟩ := hS.norm [(2, _), (3, _), (5, _), (10, _), (11, _), (12, _), (13, _), (14, _), (15, _), (16, _), (17, _), (18, _), (19, _), (20, _), (21, _), (22, _)] [(0, _), (60, _), (101, _), (102, _), (103, _)] ⟨rfl, rfl, rfl, rfl, rfl, rfl, rfl, rfl, rfl, rfl, rfl, rfl, rfl, rfl, rfl, rfl, trivial⟩ r5
    try dsimp only at hS
    obtain ⟨hi, hq⟩ := hC
    refine wp_seq ?_
    refine region_seq hS (by kernel_rfl)
      (cF rfl (o_lss .t .t) r2 trivial
      Chain.nil)
      (by kernel_rfl) (by rw [hB]; kernel_rfl) ?_
    clear hS; intro a w F hS
    obtain ⟨F, hS⟩ := hS.norm [(2, _), (3, _), (5, _), (10, _), (11, _), (12, _), (13, _), (14, _), (15, _), (16, _), (17, _), (18, _), (19, _), (20, _), (21, _), (22, _), (23, _)] [(0, _), (60, _), (101, _), (102, _), (103, _)] ⟨rfl, rfl, rfl, rfl, rfl, rfl, rfl, rfl, rfl, rfl, rfl, rfl, rfl, rfl, rfl, rfl, rfl, trivial⟩ r5
    try dsimp only [rHist, rTx, rOrd, rVer, rInt, rOp] at hS
    refine then_n ?_
    refine wp_seq ?_
    refine cond_b hS rfl (fun hc2 => ?_) (fun hc2 => ?_)
    ·skip
     have hil : j < (keysT (Go.Gm.nth g.txs i)).length := by simp at hc2; omega
     have hwo := wr_old hq (keysT_nodup _) hil
     have hwn := writersH_len (g.txs.take i) (Go.Gm.nth (keysT (Go.Gm.nth g.txs i)) j)
     rw [List.length_take] at hwn
     rw [← hwo] at hwn
     refine wp_skip ?_
     refine then_n ?_
     refine wp_seq ?_
     refine wp_block ?_
     refine wp_seq ?_
     refine region_seq hS (by kernel_rfl)
       (cF rfl (o_indexAddr_sl (sz := 1) (.mk Try.underlying30 (by kernel_rfl)) (by intro x; rfl) .t .t (by omega) (by omega)) r2 trivial
       (cF rfl (o_load_ref (ag := false) (sz := 1) .t (by kernel_rfl) (by kernel_rfl) (by kernel_rfl)) r1 trivial
       (cF rfl (o_assign .t (by rfl)) r1 trivial
       Chain.nil)))
       (by kernel_rfl) (by rw [hB]; kernel_rfl) ?_
     clear hS; intro a w F hS
     obtain ⟨F, hS⟩ := hS.norm [(2, _), (3, _), (5, _), (7, _), (10, _), (11, _), (12, _), (13, _), (14, _), (15, _), (16, _), (17, _), (18, _), (19, _), (20, _), (21, _), (22, _), (23, _), (24, _), (25, _)] [(0, _), (60, _), (101, _), (102, _), (103, _)] ⟨rfl, rfl, rfl, rfl, rfl, rfl, rfl, rfl, rfl, rfl, rfl, rfl, rfl, rfl, rfl, rfl, rfl, rfl, rfl, rfl, trivial⟩ r5
     try dsimp only [List.map, List.drop_succ_cons, List.drop_zero, List.drop_nil, List.take_succ_cons, List.take_zero, List.take_nil, ldSF, rHist, rTx, rOrd, rVer, rInt, rOp] at hS
     try simp only [Int.toNat_natCast] at hS
     refine then_n ?_
     refine part_first 5 hS (by kernel_rfl)
       (cG rfl (o_move .t (by rfl)) r1 trivial
       (cG rfl (o_move .t (by rfl)) r1 trivial
       (cG rfl (o_move .t (by rfl)) r1 trivial
       (cG rfl (o_move .t (by rfl)) r1 trivial
       (cG rfl (o_lookupG (ek := (fun p : Value × List Int => PV.is p.1)) (z0 := noRow) 102 Try.underlying173 (key_intG Try.underlying3) (by kernel_rfl) (fun _ _ => ⟨rfl, rfl⟩) .is (IsKeyOf.int .t rfl)) r2 r1
       ChainN.nil)))))
       (by kernel_rfl) (by rw [hB]; kernel_rfl) ?_
     clear hS; intro a w F hS
     obtain ⟨F, hS⟩ := hS.norm [(2, _), (3, _), (5, _), (7, _), (10, _), (11, _), (12, _), (13, _), (14, _), (15, _), (16, _), (17, _), (18, _), (19, _), (20, _), (21, _), (22, _), (23, _), (24, _), (25, _), (26, _), (27, _), (28, _), (29, _), (30, _)] [(0, _), (60, _), (101, _), (102, _), (103, _)] ⟨rfl, rfl, rfl, rfl, rfl, rfl, rfl, rfl, rfl, rfl, rfl, rfl, rfl, rfl, rfl, rfl, rfl, rfl, rfl, rfl, rfl, rfl, rfl, rfl, rfl, trivial⟩ r5
     try dsimp only [rHist, rTx, rOrd, rVer, rInt, rOp] at hS
     obtain ⟨F, hS⟩ := hS.takeKey (T := 3) (sz := 1) (R := rInt) 60 61 (Go.Gm.nth (keysT (Go.Gm.nth g.txs i)) j) rfl rfl
     obtain ⟨F, hS⟩ := hS.norm [(2, _), (3, _), (5, _), (7, _), (10, _), (11, _), (12, _), (13, _), (14, _), (15, _), (16, _), (17, _), (18, _), (19, _), (20, _), (21, _), (22, _), (23, _), (24, _), (25, _), (26, _), (27, _), (28, _), (29, _), (30, _)] [(0, _), (60, _), (61, _), (101, _), (102, _), (103, _)] ⟨rfl, rfl, rfl, rfl, rfl, rfl, rfl, rfl, rfl, rfl, rfl, rfl, rfl, rfl, rfl, rfl, rfl, rfl, rfl, rfl, rfl, rfl, rfl, rfl, rfl, trivial⟩ r6
     refine part_next 4 hS (by kernel_rfl)
       (cG rfl (o_fieldAddr (off := 0) 103 .is (by kernel_rfl) (by rfl)) r1 r1
       (cG rfl (o_load (ag := false) (sz := 1) 103 .adr (by kernel_rfl) (by kernel_rfl) (by kernel_rfl) (by rfl)) r1 r1
       (cG rfl (o_buildSliceE (sz := 1) (zs := [.int .i64 0]) (r := [(0, .tmp 32)]) (l := [_]) Try.underlying30 (by kernel_rfl) (by kernel_rfl) (by kernel_rfl) (by kernel_rfl) rfl rfl (.one rfl .t one_int (by kernel_rfl) .nil) rfl) r1 trivial
       (cG rfl (o_append (sz := 1) (bs := 8) 61 (.mk' Try.underlying30 (by kernel_rfl) (by kernel_rfl)) (by intro x; rfl) .is (.arr (l' := [_]) .t) (by simp only [List.length_append, List.length_cons, List.length_nil]; omega) (by decide)) ⟨rfl, rfl, trivial⟩ ⟨rfl, trivial⟩
       ChainN.nil))))
       (by kernel_rfl) (by rw [hB]; kernel_rfl) ?_
     clear hS; intro a w F hS
     replace hS := hS.sub
     obtain ⟨F, hS⟩ := hS.norm [(2, _), (3, _), (5, _), (7, _), (10, _), (11, _), (12, _), (13, _), (14, _), (15, _), (16, _), (17, _), (18, _), (19, _), (20, _), (21, _), (22, _), (23, _), (24, _), (25, _), (26, _), (27, _), (28, _), (29, _), (30, _), (31, _), (32, _), (33, _), (34, _)] [(0, _), (60, _), (61, _), (101, _), (102, _), (103, _)] ⟨rfl, rfl, rfl, rfl, rfl, rfl, rfl, rfl, rfl, rfl, rfl, rfl, rfl, rfl, rfl, rfl, rfl, rfl, rfl, rfl, rfl, rfl, rfl, rfl, rfl, rfl, rfl, rfl, rfl, trivial⟩ r6
     try dsimp only [RS.sub, SF.sub, CF.sub, csub, Anc.sub, List.map, stCells, List.length_cons, List.length_nil, Nat.reduceAdd, List.drop_succ_cons, List.drop_zero, List.drop_nil, List.take_succ_cons, List.take_zero, List.take_nil, List.cons_append, List.nil_append, zCF, ldSF, rHist, rTx, rOrd, rVer, rInt, rOp] at hS
     generalize Act.tau a 34 = v34 at hS
     refine part_last hS (by kernel_rfl)
       (cG rfl (o_mapUpdateG (ek := (fun p : Value × List Int => PV.is p.1)) (v := ((v34, ((gGet (Go.Gm.nth (keysT (Go.Gm.nth g.txs i)) j) es).getD noRow).2 ++ [(Go.Gm.nth g.txs i).id]) : Value × List Int)) 102 Try.underlying173 (key_intG Try.underlying3) .is (IsKeyOf.int .t rfl) .t) r3 r1
       ChainN.nil)
       (by kernel_rfl) (by rw [hB]; kernel_rfl) ?_
     clear hS; intro a w F hS
     obtain ⟨F, hS⟩ := hS.norm [(2, _), (3, _), (5, _), (7, _), (10, _), (11, _), (12, _), (13, _), (14, _), (15, _), (16, _), (17, _), (18, _), (19, _), (20, _), (21, _), (22, _), (23, _), (24, _), (25, _), (26, _), (27, _), (28, _), (29, _), (30, _), (31, _), (32, _), (33, _), (34, _)] [(0, _), (60, _), (61, _), (101, _), (102, _), (103, _)] ⟨rfl, rfl, rfl, rfl, rfl, rfl, rfl, rfl, rfl, rfl, rfl, rfl, rfl, rfl, rfl, rfl, rfl, rfl, rfl, rfl, rfl, rfl, rfl, rfl, rfl, rfl, rfl, rfl, rfl, trivial⟩ r6
     try dsimp only [rHist, rTx, rOrd, rVer, rInt, rOp] at hS
     refine block_n ?_
     refine then_n ?_
     refine region_seq hS (by kernel_rfl)
       (cF rfl (o_add .t (.ci (by kernel_rfl))) r1 trivial
       (cF rfl (o_move .t (by rfl)) r1 trivial
       Chain.nil))
       (by kernel_rfl) (by rw [hB]; kernel_rfl) ?_
     clear hS; intro a w F hS
     obtain ⟨F, hS⟩ := hS.norm [(2, _), (3, _), (5, _), (7, _), (10, _), (11, _), (12, _), (13, _), (14, _), (15, _), (16, _), (17, _), (18, _), (19, _), (20, _), (21, _), (22, _), (23, _), (24, _), (25, _), (26, _), (27, _), (28, _), (29, _), (30, _), (31, _), (32, _), (33, _), (34, _), (35, _)] [(0, _), (60, _), (61, _), (101, _), (102, _), (103, _)] ⟨rfl, rfl, rfl, rfl, rfl, rfl, rfl, rfl, rfl, rfl, rfl, rfl, rfl, rfl, rfl, rfl, rfl, rfl, rfl, rfl, rfl, rfl, rfl, rfl, rfl, rfl, rfl, rfl, rfl, rfl, trivial⟩ r6
     try dsimp only [rHist, rTx, rOrd, rVer, rInt, rOp] at hS
     refine then_n ?_
     obtain ⟨F, hS⟩ := hS.putKey (T := 3) (sz := 1) (R := rInt) 60 61 (Go.Gm.nth (keysT (Go.Gm.nth g.txs i)) j) ck rfl rfl rfl
     replace hS := hS.ent (i := 22) (s' := .pv (.int .i64 ((j + 1 : Nat) : Int))) rfl (.int (wrap_succ (by omega)))
     obtain ⟨F, hS⟩ := hS.norm [(22, _), (2, _), (3, _), (5, _), (10, _), (11, _), (12, _), (13, _), (14, _), (15, _), (16, _), (17, _), (18, _), (19, _), (20, _), (21, _)] [(102, _), (60, _), (0, _), (101, _), (103, _)] ⟨rfl, rfl, rfl, rfl, rfl, rfl, rfl, rfl, rfl, rfl, rfl, rfl, rfl, rfl, rfl, rfl, trivial⟩ ⟨rfl, rfl, rfl, rfl, rfl, trivial⟩
     exact ⟨((j + 1), ((gPut (Go.Gm.nth (keysT (Go.Gm.nth g.txs i)) j) (v34, ((gGet (Go.Gm.nth (keysT (Go.Gm.nth g.txs i)) j) es).getD noRow).2 ++ [(Go.Gm.nth g.txs i).id]) (es, ck)).1), ((gPut (Go.Gm.nth (keysT (Go.Gm.nth g.txs i)) j) (v34, ((gGet (Go.Gm.nth (keysT (Go.Gm.nth g.txs i)) j) es).getD noRow).2 ++ [(Go.Gm.nth g.txs i).id]) (es, ck)).2)), F, ⟨by omega, wr_step hq (keysT_nodup _) hil⟩, hS, by omega⟩
    ·skip
     have hil : j = (keysT (Go.Gm.nth g.txs i)).length := by simp at hc2; omega
     obtain ⟨es2, he2⟩ : ∃ z, z = es := ⟨_, rfl⟩
     obtain ⟨ck2, hc2⟩ : ∃ z, z = ck := ⟨_, rfl⟩
     rw [hil, List.take_length] at hq
     have hR2 : WrV es2 (g.txs.take (i + 1)) 0 [] := by rw [he2]; exact wr_done hq hio hdn
     rw [← he2, ← hc2] at hS
     refine wp_exit ?_
     refine then_x ?_
     refine then_x ?_
     refine block_x ?_
     refine block_n ?_
     refine then_n ?_
     refine region_seq hS (by kernel_rfl)
       (cF rfl (o_add .t (.ci (by kernel_rfl))) r1 trivial
       (cF rfl (o_move .t (by rfl)) r1 trivial
       Chain.nil))
       (by kernel_rfl) (by rw [hB]; kernel_rfl) ?_
     clear hS; intro a w F hS
     obtain ⟨F, hS⟩ := hS.norm [(2, _), (3, _), (5, _), (10, _), (11, _), (12, _), (13, _), (14, _), (15, _), (16, _), (17, _), (18, _), (19, _), (20, _), (21, _), (22, _), (23, _), (36, _)] [(0, _), (60, _), (101, _), (102, _), (103, _)] ⟨rfl, rfl, rfl, rfl, rfl, rfl, rfl, rfl, rfl, rfl, rfl, rfl, rfl, rfl, rfl, rfl, rfl, rfl, trivial⟩ r5
     try dsimp only [rHist, rTx, rOrd, rVer, rInt, rOp] at hS
     refine then_n ?_
     replace hS := hS.ent (i := 12) (s' := .pv (.int .i64 ((i + 1 : Nat) : Int))) rfl (.int (wrap_succ (by omega)))
     obtain ⟨F, hS⟩ := hS.norm [(12, _), (2, _), (3, _), (10, _), (11, _)] [(102, _), (60, _), (0, _), (101, _)] ⟨rfl, rfl, rfl, rfl, rfl, trivial⟩ ⟨rfl, rfl, rfl, rfl, trivial⟩
     exact ⟨((i + 1), (es2), (ck2)), F, ⟨by omega, hR2⟩, hS, by omega⟩
  ·skip
   have hil : i = g.txs.length := by simp at hc0; omega
   have hwl := wr_lists hq
   rw [hil, List.take_length] at hwl
   refine wp_exit ?_
   refine then_x ?_
   refine then_x ?_
   refine block_x ?_
   refine then_n ?_
   refine wp_seq ?_
   refine region_seq hS (by kernel_rfl)
     (cF rfl (o_move .t (by rfl)) r1 trivial
     (cF rfl (o_assign .t (by rfl)) r1 trivial
     Chain.nil))
     (by kernel_rfl) (by rw [hB]; kernel_rfl) ?_
   clear hS; intro a w F hS
   obtain ⟨F, hS⟩ := hS.norm [(2, _)] [(0, _), (60, _), (101, _), (102, _)] r1 r4
   try dsimp only [rHist, rTx, rOrd, rVer, rInt, rOp] at hS
   refine then_n ?_
   refine wp_ret ?_
   obtain ⟨F, hS⟩ := hS.giveMap 102 60 rfl rfl rfl
   obtain ⟨F, hS⟩ := hS.rename 102 1 rfl rfl
   have hS := hS.turn 1 rfl (r' := RS.hp (HP.ex fun s : List (GE Int (List Int)) × Nat => HP.and (WrL s.1 g.txs) (mapG (fun l : List Int => PV.sl rInt l) (fun _ => True) (fun n : Int => Value.int .i64 n) s.1 s.2 v8))) (fun _ _ _ _ h => ⟨(gLists es, ck), hwl, h⟩)
   refine ret_N1 (h' := fun v => HP.ex fun s : List (GE Int (List Int)) × Nat => HP.and (WrL s.1 g.txs) (mapG (fun l : List Int => PV.sl rInt l) (fun _ => True) (fun n : Int => Value.int .i64 n) s.1 s.2 v)) hG hS rfl (.tmp rfl .nil) (.one .one) rfl

end Go.Proofs.Ytpjjmolibanakaa
