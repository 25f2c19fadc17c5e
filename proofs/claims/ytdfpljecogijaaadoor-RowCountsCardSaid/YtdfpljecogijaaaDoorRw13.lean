/- RowPlays. No condition beyond those that each theorem says. -/
import Derived.Test.YtdfpljecogijaaaDoorRw12
namespace Go.Proofs.YtdfpljecogijaaaDoor
open Go Go.Gm
set_option linter.unusedVariables false
set_option linter.unusedSimpArgs false
set_option maxHeartbeats 4000000
set_option maxRecDepth 8000


theorem plays_c (n m : Int) (l : List DeedR) : FnPg Tryd.prog tabP tabV 6 [.int .i64 n, .int .i64 m, .sl rDeedR l] (.bool true) := by
  refine FnPg.mk Tryd.func6 rfl Tryd.ntmps6 rfl ?_
  intro B a w F hB hfr hS
  have hll := Sat.lenSl hS (i := 2) rfl
  refine wp_seq ?_
  refine region_seq hS (by kernel_rfl)
    (cF rfl (o_assign .cb (by rfl)) trivial trivial
    Chain.nil)
    (by kernel_rfl) (by rw [hB]; kernel_rfl) ?_
  clear hS; intro a w F hS
  obtain ⟨F, hS⟩ := hS.norm [(0, _), (1, _), (2, _), (6, _)] [(0, _), (9, _)] r4 r2
  try dsimp only [rDeedR] at hS
  refine then_n ?_
  refine wp_seq ?_
  refine wp_seq ?_
  refine region_seq hS (by kernel_rfl)
    (cF rfl (o_move .t (by rfl)) r1 trivial
    (cF rfl (o_len_sl Tryd.underlying52 .t) r1 trivial
    (cF rfl (o_gtr .t (.ci (by kernel_rfl))) r1 trivial
    Chain.nil)))
    (by kernel_rfl) (by rw [hB]; kernel_rfl) ?_
  clear hS; intro a w F hS
  obtain ⟨F, hS⟩ := hS.norm [(0, _), (1, _), (2, _), (6, _), (23, _)] [(0, _), (9, _)] r5 r2
  try dsimp only [rDeedR] at hS
  refine then_n ?_
  refine cond_b hS rfl (fun hc0 => ?_) (fun hc0 => ?_)
  ·skip
   refine wp_seq ?_
   refine region_seq hS (by kernel_rfl)
     (cF rfl (o_callPg 9 (lives_c) Tryd.func25 rfl (by kernel_rfl) Args.nil) trivial r1
     (cF rfl (o_assign .t (by rfl)) r1 trivial
     Chain.nil))
     (by kernel_rfl) (by rw [hB]; kernel_rfl) ?_
   clear hS; intro a w F hS
   obtain ⟨F, hS⟩ := hS.norm [(0, _), (1, _), (2, _), (6, _)] [(0, _), (9, _)] r4 r2
   try dsimp only [rDeedR] at hS
   refine then_n ?_
   refine wp_ret ?_
   refine then_r ?_
   refine ret_P hfr hS rfl (.tmp rfl .nil) (.one (.bool rfl))
  ·skip
   refine wp_skip ?_
   refine then_n ?_
   refine wp_seq ?_
   replace hS := hS.dupG 9 61 rfl rfl
   replace hS := hS.dupG 9 62 rfl rfl
   refine region_seq hS (by kernel_rfl)
     (cF rfl (o_move .t (by rfl)) r1 trivial
     (cF rfl (o_callNg 61 (newS_c n) Tryd.func32 rfl (by kernel_rfl) (Args.one .t) PV.ptr_one) r1 r1
     (cF rfl (o_move .t (by rfl)) r1 trivial
     (cF rfl (o_callNg 62 (newS_c m) Tryd.func32 rfl (by kernel_rfl) (Args.one .t) PV.ptr_one) r1 r1
     (cF rfl (o_assign .t (by rfl)) r1 trivial
     (cF rfl (o_assign .t (by rfl)) r1 trivial
     Chain.nil))))))
     (by kernel_rfl) (by rw [hB]; kernel_rfl) ?_
   clear hS; intro a w F hS
   replace hS := hS.sub
   obtain ⟨F, hS⟩ := hS.norm [(0, _), (1, _), (2, _), (6, _), (7, _), (8, _)] [(0, _), (9, _), (61, _), (62, _)] r6 r4
   try dsimp only [RS.sub, SF.sub, CF.sub, csub, Anc.sub, List.map, rDeedR] at hS
   generalize Act.tau a 26 = v26 at hS
   generalize Act.tau a 28 = v28 at hS
   obtain ⟨_, _, _, ho⟩ := hS.obGet 61 rfl
   obtain ⟨b1, rfl⟩ := setH_ptr ho
   clear ho
   replace hS := hS.turn 61 rfl (r' := RS.hp (setH (.pointer (some ⟨b1, 0, none⟩)) (rowN n) [])) (fun _ _ _ _ h => h)
   obtain ⟨F, hS⟩ := hS.norm [(0, _), (1, _), (2, _), (6, _), (7, _), (8, _)] [(0, _), (9, _), (61, _), (62, _)] r6 r4
   obtain ⟨_, _, _, ho⟩ := hS.obGet 62 rfl
   obtain ⟨b2, rfl⟩ := setH_ptr ho
   clear ho
   replace hS := hS.turn 62 rfl (r' := RS.hp (setH (.pointer (some ⟨b2, 0, none⟩)) (rowN m) [])) (fun _ _ _ _ h => h)
   obtain ⟨F, hS⟩ := hS.norm [(0, _), (1, _), (2, _), (6, _), (7, _), (8, _)] [(0, _), (9, _), (61, _), (62, _)] r6 r4
   refine then_n ?_
   refine wp_seq ?_
   refine wp_seq ?_
   refine region_seq hS (by kernel_rfl)
     (cF rfl (o_move .t (by rfl)) r1 trivial
     (cF rfl (o_nil_eql _ Tryd.underlying46 rfl .t) r1 trivial
     (cF rfl (o_move .t (by rfl)) r1 trivial
     (Chain.cons (Cert.cond rfl rfl (fun h => o_move .t (by rfl))) r2 trivial
     (Chain.cons (Cert.cond rfl rfl (fun h => o_nil_eql _ Tryd.underlying46 rfl (.w h))) r2 trivial
     (cF rfl (o_or2 .t .t) r2 trivial
     Chain.nil))))))
     (by kernel_rfl) (by rw [hB]; kernel_rfl) ?_
   clear hS; intro a w F hS
   obtain ⟨F, hS⟩ := hS.norm [(0, _), (1, _), (2, _), (6, _), (7, _), (8, _), (34, _)] [(0, _), (9, _), (61, _), (62, _)] r7 r4
   try dsimp only [rDeedR] at hS
   refine then_n ?_
   refine cond_b hS rfl (fun hc1 => ?_) (fun hc1 => ?_)
   ·skip
    simp at hc1
   ·skip
    refine wp_skip ?_
    refine then_n ?_
    refine wp_seq ?_
    refine region_seq hS (by kernel_rfl)
      (cF rfl (o_assign (.c rfl) (by rfl)) trivial trivial
      (cF rfl (o_assign (.c rfl) (by rfl)) trivial trivial
      Chain.nil))
      (by kernel_rfl) (by rw [hB]; kernel_rfl) ?_
    clear hS; intro a w F hS
    obtain ⟨F, hS⟩ := hS.norm [(0, _), (1, _), (2, _), (6, _), (7, _), (8, _), (9, _), (10, _)] [(0, _), (9, _), (61, _), (62, _)] r8 r4
    try dsimp only [rDeedR] at hS
    refine then_n ?_
    refine wp_seq ?_
    refine wp_seq ?_
    refine region_seq hS (by kernel_rfl)
      (cF rfl (o_move .t (by rfl)) r1 trivial
      (cF rfl (o_len_sl Tryd.underlying52 .t) r1 trivial
      (cF rfl (o_move (.ci (by kernel_rfl)) (by rfl)) trivial trivial
      Chain.nil)))
      (by kernel_rfl) (by rw [hB]; kernel_rfl) ?_
    clear hS; intro a w F hS
    obtain ⟨F, hS⟩ := hS.norm [(0, _), (1, _), (6, _), (7, _), (8, _), (9, _), (10, _), (35, _), (36, _), (37, _)] [(0, _), (9, _), (61, _), (62, _)] ⟨rfl, rfl, rfl, rfl, rfl, rfl, rfl, rfl, rfl, rfl, trivial⟩ r4
    try dsimp only [rDeedR] at hS
    refine then_n ?_
    refine wp_block ?_
    replace hS := hS.ent (i := 9) (s' := .pv (.sl rInt [])) rfl .nilSl
    replace hS := hS.ent (i := 10) (s' := .pv (.sl rInt [])) rfl .nilSl
    refine loop_keep (σ := (Nat) × (Nat) × (Nat) × (List Int) × (List Int)) [0, 1, 6, 35, 36] [0, 9] (fun s => [(37, .pv (.int .i64 (s.1 : Int))), (7, .pv (.is (.pointer (some ⟨s.2.1, 0, none⟩)))), (8, .pv (.is (.pointer (some ⟨s.2.2.1, 0, none⟩)))), (9, .pv (.sl rInt s.2.2.2.1)), (10, .pv (.sl rInt s.2.2.2.2))]) (fun s => [(61, RS.hp (setH (.pointer (some ⟨s.2.1, 0, none⟩)) (rowN n) s.2.2.2.1)), (62, RS.hp (setH (.pointer (some ⟨s.2.2.1, 0, none⟩)) (rowN m) s.2.2.2.2))]) (fun s => s.1 ≤ l.length ∧ (True)) (fun s => l.length - s.1) ((0), (b1), (b2), ([]), ([])) hS ⟨rfl, rfl, rfl, rfl, rfl, rfl, rfl, rfl, rfl, rfl, trivial⟩ ⟨rfl, rfl, rfl, rfl, trivial⟩ ⟨Nat.zero_le _, trivial⟩ ?_
    clear hS; intro s a w F hC hS
    obtain ⟨i, ba, bb, x, z⟩ := s
    try dsimp only at hC
    obtain ⟨F, hS⟩ := hS.norm [(0, _), (1, _), (6, _), (7, _), (8, _), (9, _), (10, _), (35, _), (36, _), (37, _)] [(0, _), (9, _), (61, _), (62, _)] ⟨rfl, rfl, rfl, rfl, rfl, rfl, rfl, rfl, rfl, rfl, trivial⟩ r4
    try dsimp only at hS
    obtain ⟨hi, hq⟩ := hC
    refine wp_seq ?_
    refine region_seq hS (by kernel_rfl)
      (cF rfl (o_lss .t .t) r2 trivial
      Chain.nil)
      (by kernel_rfl) (by rw [hB]; kernel_rfl) ?_
    clear hS; intro a w F hS
    obtain ⟨F, hS⟩ := hS.norm [(0, _), (1, _), (6, _), (7, _), (8, _), (9, _), (10, _), (35, _), (36, _), (37, _), (38, _)] [(0, _), (9, _), (61, _), (62, _)] ⟨rfl, rfl, rfl, rfl, rfl, rfl, rfl, rfl, rfl, rfl, rfl, trivial⟩ r4
    try dsimp only [rDeedR] at hS
    refine then_n ?_
    refine wp_seq ?_
    refine cond_b hS rfl (fun hc2 => ?_) (fun hc2 => ?_)
    ·skip
     have hil : i < l.length := by simp at hc2; omega
     refine wp_skip ?_
     refine then_n ?_
     refine wp_seq ?_
     refine wp_block ?_
     refine wp_seq ?_
     refine region_seq hS (by kernel_rfl)
       (cF rfl (o_indexAddr_sl (sz := 4) (.mk Tryd.underlying52 (by kernel_rfl)) (by intro x; rfl) .t .t (by omega) (by omega)) r2 trivial
       (cF rfl (o_load_ref (ag := true) (sz := 4) .t (by kernel_rfl) (by kernel_rfl) (by kernel_rfl)) r1 trivial
       (cF rfl (o_alloc (zs := [.int .i64 0, .bool false, .int .i64 0, .bool false]) 101 (by kernel_rfl)) trivial trivial
       (cF rfl (o_storeA (sz := 4) 101 .same .t (by kernel_rfl) (by kernel_rfl) (by kernel_rfl)) r2 r1
       Chain.nil))))
       (by kernel_rfl) (by rw [hB]; kernel_rfl) ?_
     clear hS; intro a w F hS
     replace hS := hS.sub
     obtain ⟨F, hS⟩ := hS.norm [(0, _), (1, _), (6, _), (7, _), (8, _), (9, _), (10, _), (12, _), (35, _), (36, _), (37, _), (38, _), (39, _), (40, _)] [(0, _), (9, _), (61, _), (62, _), (101, _)] ⟨rfl, rfl, rfl, rfl, rfl, rfl, rfl, rfl, rfl, rfl, rfl, rfl, rfl, rfl, trivial⟩ r5
     try dsimp only [RS.sub, SF.sub, CF.sub, csub, Anc.sub, List.map, stCells, List.length_cons, List.length_nil, Nat.reduceAdd, List.drop_succ_cons, List.drop_zero, List.drop_nil, List.take_succ_cons, List.take_zero, List.take_nil, List.cons_append, List.nil_append, zCF, ldSF, rDeedR] at hS
     generalize Act.tau a 12 = v12 at hS
     try simp only [Int.toNat_natCast] at hS
     obtain ⟨d, hd⟩ : ∃ d, d = Go.Gm.nth l i := ⟨_, rfl⟩
     rw [← hd] at hS
     refine then_n ?_
     refine wp_seq ?_
     refine wp_seq ?_
     refine region_seq hS (by kernel_rfl)
       (cF rfl (o_fieldAddr (off := 1) 101 .is (by kernel_rfl) (by rfl)) r1 r1
       (cF rfl (o_load (ag := false) (sz := 1) 101 .adr (by kernel_rfl) (by kernel_rfl) (by kernel_rfl) (by rfl)) r1 r1
       Chain.nil))
       (by kernel_rfl) (by rw [hB]; kernel_rfl) ?_
     clear hS; intro a w F hS
     obtain ⟨F, hS⟩ := hS.norm [(0, _), (1, _), (6, _), (7, _), (8, _), (9, _), (10, _), (12, _), (35, _), (36, _), (37, _), (38, _), (39, _), (40, _), (41, _), (42, _)] [(0, _), (9, _), (61, _), (62, _), (101, _)] ⟨rfl, rfl, rfl, rfl, rfl, rfl, rfl, rfl, rfl, rfl, rfl, rfl, rfl, rfl, rfl, rfl, trivial⟩ r5
     try dsimp only [List.map, List.drop_succ_cons, List.drop_zero, List.drop_nil, List.take_succ_cons, List.take_zero, List.take_nil, ldSF, rDeedR] at hS
     refine then_n ?_
     refine cond_b hS rfl (fun hc3 => ?_) (fun hc3 => ?_)
     ·skip
      refine wp_seq ?_
      refine region_seq hS (by kernel_rfl)
        (cF rfl (o_move .t (by rfl)) r1 trivial
        (cF rfl (o_move .t (by rfl)) r1 trivial
        (cF rfl (o_move .t (by rfl)) r1 trivial
        (cF rfl (o_move .t (by rfl)) r1 trivial
        (cF rfl (o_load (ag := true) (sz := 4) 101 .is (by kernel_rfl) (by kernel_rfl) (by kernel_rfl) (by rfl)) r1 r1
        (cF rfl (o_callG2 62 61 (does_c bb ba (rowN m) (rowN n) z x d) Tryd.func33 rfl (by kernel_rfl) rfl (Args.five .t .t .t .t (.pagg .t))) r5 r2
        (cF rfl (o_moveT (by rfl)) r1 trivial
        (cF rfl (o_extractC (by kernel_rfl) (by kernel_rfl) (by rfl)) r2 trivial
        (cF rfl (o_extractB rfl) r2 trivial
        (cF rfl (o_extractB rfl) r2 trivial
        (cF rfl (o_extractB rfl) r2 trivial
        (cF rfl (o_assign .t (by rfl)) r1 trivial
        (cF rfl (o_assign .t (by rfl)) r1 trivial
        (cF rfl (o_assign .t (by rfl)) r1 trivial
        (cF rfl (o_assign .t (by rfl)) r1 trivial
        Chain.nil)))))))))))))))
        (by kernel_rfl) (by rw [hB]; kernel_rfl) ?_
      clear hS; intro a w F hS
      replace hS := hS.sub
      obtain ⟨F, hS⟩ := hS.norm [(0, _), (1, _), (6, _), (7, _), (8, _), (9, _), (10, _), (12, _), (13, _), (14, _), (15, _), (16, _), (35, _), (36, _), (37, _), (38, _), (39, _), (40, _), (41, _), (42, _), (43, _), (44, _), (45, _), (46, _), (47, _), (48, _), (49, _), (50, _), (51, _), (52, _), (53, _)] [(0, _), (9, _), (61, _), (62, _), (101, _)] ⟨rfl, rfl, rfl, rfl, rfl, rfl, rfl, rfl, rfl, rfl, rfl, rfl, rfl, rfl, rfl, rfl, rfl, rfl, rfl, rfl, rfl, rfl, rfl, rfl, rfl, rfl, rfl, rfl, rfl, rfl, rfl, trivial⟩ r5
      try dsimp only [RS.sub, SF.sub, CF.sub, csub, Anc.sub, List.map, List.drop_succ_cons, List.drop_zero, List.drop_nil, List.take_succ_cons, List.take_zero, List.take_nil, ldSF, rDeedR] at hS
      generalize Act.tau a 49 = v49 at hS
      obtain ⟨_, _, _, ho⟩ := hS.obGet 62 rfl
      obtain ⟨bn, hb⟩ := setH_ptr ho
      clear ho
      replace hS := hS.turn 62 rfl (r' := RS.hp (setH (.pointer (some ⟨bn, 0, none⟩)) (rowN m) (newL (rowN m : Nat) z x d))) (by rw [← hb]; exact fun _ _ _ _ h => h)
      replace hS := hS.turn 61 rfl (r' := RS.hp (setH (.pointer (some ⟨ba, 0, none⟩)) (rowN n) x)) (fun _ _ _ _ h => h)
      replace hS := hS.ent (i := 13) (s' := .pv (.is (.pointer (some ⟨bn, 0, none⟩)))) rfl (.part hb rfl)
      obtain ⟨F, hS⟩ := hS.norm [(0, _), (1, _), (6, _), (7, _), (8, _), (9, _), (10, _), (12, _), (13, _), (14, _), (15, _), (16, _), (35, _), (36, _), (37, _), (38, _), (39, _), (40, _), (42, _), (44, _), (45, _), (46, _), (47, _), (48, _), (49, _), (51, _), (52, _), (53, _)] [(0, _), (9, _), (61, _), (62, _), (101, _)] ⟨rfl, rfl, rfl, rfl, rfl, rfl, rfl, rfl, rfl, rfl, rfl, rfl, rfl, rfl, rfl, rfl, rfl, rfl, rfl, rfl, rfl, rfl, rfl, rfl, rfl, rfl, rfl, rfl, trivial⟩ r5
      refine then_n ?_
      refine wp_seq ?_
      refine region_seq hS (by kernel_rfl)
        (cF rfl (o_move .t (by rfl)) r1 trivial
        (cF rfl (o_move .t (by rfl)) r1 trivial
        (cF rfl (o_assign .t (by rfl)) r1 trivial
        (cF rfl (o_assign .t (by rfl)) r1 trivial
        Chain.nil))))
        (by kernel_rfl) (by rw [hB]; kernel_rfl) ?_
      clear hS; intro a w F hS
      obtain ⟨F, hS⟩ := hS.norm [(0, _), (1, _), (6, _), (7, _), (8, _), (9, _), (10, _), (12, _), (13, _), (14, _), (15, _), (16, _), (35, _), (36, _), (37, _), (38, _), (39, _), (40, _), (42, _), (44, _), (45, _), (46, _), (47, _), (48, _), (49, _), (51, _), (52, _), (53, _), (54, _), (55, _)] [(0, _), (9, _), (61, _), (62, _), (101, _)] ⟨rfl, rfl, rfl, rfl, rfl, rfl, rfl, rfl, rfl, rfl, rfl, rfl, rfl, rfl, rfl, rfl, rfl, rfl, rfl, rfl, rfl, rfl, rfl, rfl, rfl, rfl, rfl, rfl, rfl, rfl, trivial⟩ r5
      try dsimp only [rDeedR] at hS
      refine then_n ?_
      refine wp_seq ?_
      refine region_seq hS (by kernel_rfl)
        (cF rfl (o_move .t (by rfl)) r1 trivial
        (cF rfl (o_move .t (by rfl)) r1 trivial
        (cF rfl (o_neqB Tryd.underlying4 .t .t) r2 trivial
        Chain.nil)))
        (by kernel_rfl) (by rw [hB]; kernel_rfl) ?_
      clear hS; intro a w F hS
      obtain ⟨F, hS⟩ := hS.norm [(0, _), (1, _), (6, _), (7, _), (8, _), (9, _), (10, _), (12, _), (13, _), (14, _), (15, _), (16, _), (35, _), (36, _), (37, _), (38, _), (39, _), (40, _), (42, _), (44, _), (45, _), (46, _), (47, _), (48, _), (49, _), (51, _), (52, _), (53, _), (54, _), (55, _), (56, _), (57, _), (58, _)] [(0, _), (9, _), (61, _), (62, _), (101, _)] ⟨rfl, rfl, rfl, rfl, rfl, rfl, rfl, rfl, rfl, rfl, rfl, rfl, rfl, rfl, rfl, rfl, rfl, rfl, rfl, rfl, rfl, rfl, rfl, rfl, rfl, rfl, rfl, rfl, rfl, rfl, rfl, rfl, rfl, trivial⟩ r5
      try dsimp only [rDeedR] at hS
      refine then_n ?_
      refine cond_b hS rfl (fun hc4 => ?_) (fun hc4 => ?_)
      ·skip
       simp at hc4
      ·skip
       refine wp_skip ?_
       refine then_n ?_
       refine wp_seq ?_
       refine region_any (by kernel_rfl) hS (by kernel_rfl)
         (cF rfl (o_move .t (by rfl)) r1 trivial
         (cF rfl (o_move .t (by rfl)) r1 trivial
         (cF rfl (o_callP (size_c _) Tryd.func35 rfl (by kernel_rfl) (Args.one .t)) r1 trivial
         (cF rfl (o_move .t (by rfl)) r1 trivial
         (cF rfl (o_fieldAddr (off := 2) 101 .is (by kernel_rfl) (by rfl)) r1 r1
         (cF rfl (o_load (ag := false) (sz := 1) 101 .adr (by kernel_rfl) (by kernel_rfl) (by kernel_rfl) (by rfl)) r1 r1
         (cF rfl (OpC.lend 61 [75] setH_lend (o_callP (tells_c (rowN n) x d.i) Tryd.func34 rfl (by kernel_rfl) (Args.four .t .t .t .t)) ⟨rfl, trivial, trivial, trivial, trivial⟩ (.pv (fun _ _ _ _ h => h)) trivial (by rfl)) r4 r1
         (cF rfl (o_not .t) r1 trivial
         (cF rfl (o_move .t (by rfl)) r1 trivial
         (Chain.cons (Cert.cond rfl rfl (fun h => o_move .t (by rfl))) r2 trivial
         (Chain.cons (Cert.cond rfl rfl (fun h => o_move .t (by rfl))) r2 trivial
         (Chain.cons (Cert.cond rfl rfl (fun h => o_callP (size_c _) Tryd.func35 rfl (by kernel_rfl) (Args.one (.w h)))) r2 trivial
         (Chain.cons (Cert.cond rfl rfl (fun h => o_move .t (by rfl))) r2 trivial
         (Chain.cons (Cert.cond rfl rfl (fun h => o_fieldAddr (off := 2) 101 .is (by kernel_rfl) (by rfl))) r2 r1
         (Chain.cons (Cert.cond rfl rfl (fun h => o_load (ag := false) (sz := 1) 101 (.w h .adr) (by kernel_rfl) (by kernel_rfl) (by kernel_rfl) (by rfl))) r2 r1
         (Chain.cons (Cert.cond rfl rfl (fun h => OpC.lend 62 [84] setH_lend (o_callP (tells_c (rowN m) (newL (rowN m : Nat) z x d) d.i) Tryd.func34 rfl (by kernel_rfl) (Args.four (.w h) (.w h) (.w h) (.w h))) ⟨rfl, trivial, trivial, trivial, trivial⟩ (.pv (fun _ _ _ _ h => h)) trivial (by rfl))) r5 r1
         (Chain.cons (Cert.cond rfl rfl (fun h => o_not (.w h))) r2 trivial
         (cF rfl (o_or2 .t .t) r2 trivial
         (cF rfl (o_move .t (by rfl)) r1 trivial
         (Chain.cons (Cert.cond rfl rfl (fun h => o_move .t (by rfl))) r2 trivial
         (Chain.cons (Cert.cond rfl rfl (fun h => o_move .t (by rfl))) r2 trivial
         (Chain.cons (Cert.cond rfl rfl (fun h => OpC.lend 62 [95] setH_lend (OpC.lend 61 [94] setH_lend (o_callP (sameS_c (rowN n) (rowN m) x (newL (rowN m : Nat) z x d)) Tryd.func36 rfl (by kernel_rfl) (Args.two (.w h) (.w h))) ⟨rfl, trivial, trivial⟩ (.pv (fun _ _ _ _ h => h)) trivial (by rfl)) ⟨trivial, rfl, trivial⟩ (.pv (fun _ _ _ _ h => h)) trivial (by rfl))) r3 r2
         (Chain.cons (Cert.cond rfl rfl (fun h => o_move .t (by rfl))) r2 trivial
         (Chain.cons (Cert.cond rfl rfl (fun h => OpC.lend 61 [97] setH_lend (o_callP (len_c (rowN n) x) Tryd.func30 rfl (by kernel_rfl) (Args.one (.w h))) ⟨rfl, trivial⟩ (.pv (fun _ _ _ _ h => h)) trivial (by rfl))) r2 r1
         (Chain.cons (Cert.cond rfl rfl (fun h => o_move .t (by rfl))) r2 trivial
         (Chain.cons (Cert.cond rfl rfl (fun h => OpC.lend 62 [99] setH_lend (o_callP (len_c (rowN m) (newL (rowN m : Nat) z x d)) Tryd.func30 rfl (by kernel_rfl) (Args.one (.w h))) ⟨rfl, trivial⟩ (.pv (fun _ _ _ _ h => h)) trivial (by rfl))) r2 r1
         (Chain.cons (Cert.cond rfl rfl (fun h => o_eql (.w h) (.w h))) r3 trivial
         (Chain.cons (Cert.cond rfl rfl (fun h => o_move (.w h) (by rfl))) r2 trivial
         (Chain.cons (Cert.cond2 rfl rfl (fun h => o_move .t (by rfl))) r2 trivial
         (Chain.cons (Cert.cond2 rfl rfl (fun h => o_move .t (by rfl))) r2 trivial
         (Chain.cons (Cert.cond2 rfl rfl (fun h => o_callP (sameInts_c x (newL (rowN m : Nat) z x d)) Tryd.func37 rfl (by kernel_rfl) (Args.two (.w h) (.w h)))) r3 trivial
         (Chain.cons (Cert.cond rfl rfl (fun h => o_and2 (.w h) (.wc h))) r3 trivial
         (Chain.cons (Cert.cond rfl rfl (fun h => o_neqB Tryd.underlying4 (.w h) (.w h))) r3 trivial
         (cF rfl (o_or2 .t .t) r2 trivial
         Chain.nil))))))))))))))))))))))))))))))))))
         (by kernel_rfl) (by rw [hB]; kernel_rfl) ?_
       clear hS; intro a w F hS
       obtain ⟨F, hS⟩ := hS.norm [(0, _), (1, _), (6, _), (7, _), (8, _), (9, _), (10, _), (12, _), (13, _), (14, _), (15, _), (16, _), (35, _), (36, _), (37, _), (38, _), (39, _), (40, _), (42, _), (44, _), (45, _), (46, _), (47, _), (48, _), (49, _), (51, _), (52, _), (53, _), (54, _), (55, _), (56, _), (57, _), (58, _), (75, _), (76, _), (77, _), (78, _), (79, _), (80, _), (81, _), (82, _), (83, _), (84, _), (85, _), (86, _), (87, _), (88, _), (89, _), (90, _), (91, _), (92, _), (93, _), (94, _), (95, _), (96, _), (97, _), (98, _), (99, _), (100, _), (101, _), (102, _), (103, _), (104, _), (105, _), (106, _), (107, _), (108, _)] [(0, _), (9, _), (61, _), (62, _), (101, _)] ⟨rfl, rfl, rfl, rfl, rfl, rfl, rfl, rfl, rfl, rfl, rfl, rfl, rfl, rfl, rfl, rfl, rfl, rfl, rfl, rfl, rfl, rfl, rfl, rfl, rfl, rfl, rfl, rfl, rfl, rfl, rfl, rfl, rfl, rfl, rfl, rfl, rfl, rfl, rfl, rfl, rfl, rfl, rfl, rfl, rfl, rfl, rfl, rfl, rfl, rfl, rfl, rfl, rfl, rfl, rfl, rfl, rfl, rfl, rfl, rfl, rfl, rfl, rfl, rfl, rfl, rfl, rfl, trivial⟩ r5
       try dsimp only [List.map, List.drop_succ_cons, List.drop_zero, List.drop_nil, List.take_succ_cons, List.take_zero, List.take_nil, ldSF, rDeedR] at hS
       refine then_n ?_
       refine cond_b hS rfl (fun hc5 => ?_) (fun hc5 => ?_)
       ·skip
        have hsame : decide (rowN n = rowN m ∧ x = (newL (rowN m : Nat) z x d)) = (decide ((rowN n : Int) = (rowN m : Int)) && decide (x = (newL (rowN m : Nat) z x d))) := by rw [Bool.decide_and]; congr 1; exact decide_eq_decide.2 (by omega)
        rw [hsame] at hc5
        simp at hc5
       ·skip
        refine wp_skip ?_
        refine block_n ?_
        refine then_n ?_
        refine region_seq hS (by kernel_rfl)
          (cF rfl (o_add .t (.ci (by kernel_rfl))) r1 trivial
          (cF rfl (o_move .t (by rfl)) r1 trivial
          Chain.nil))
          (by kernel_rfl) (by rw [hB]; kernel_rfl) ?_
        clear hS; intro a w F hS
        obtain ⟨F, hS⟩ := hS.norm [(0, _), (1, _), (6, _), (7, _), (8, _), (9, _), (10, _), (12, _), (13, _), (14, _), (15, _), (16, _), (35, _), (36, _), (37, _), (38, _), (39, _), (40, _), (42, _), (44, _), (45, _), (46, _), (47, _), (48, _), (49, _), (51, _), (52, _), (53, _), (54, _), (55, _), (56, _), (57, _), (58, _), (75, _), (76, _), (77, _), (78, _), (79, _), (80, _), (81, _), (82, _), (83, _), (84, _), (85, _), (86, _), (87, _), (88, _), (89, _), (90, _), (91, _), (92, _), (93, _), (94, _), (95, _), (96, _), (97, _), (98, _), (99, _), (100, _), (101, _), (102, _), (103, _), (104, _), (105, _), (106, _), (107, _), (108, _), (109, _)] [(0, _), (9, _), (61, _), (62, _), (101, _)] ⟨rfl, rfl, rfl, rfl, rfl, rfl, rfl, rfl, rfl, rfl, rfl, rfl, rfl, rfl, rfl, rfl, rfl, rfl, rfl, rfl, rfl, rfl, rfl, rfl, rfl, rfl, rfl, rfl, rfl, rfl, rfl, rfl, rfl, rfl, rfl, rfl, rfl, rfl, rfl, rfl, rfl, rfl, rfl, rfl, rfl, rfl, rfl, rfl, rfl, rfl, rfl, rfl, rfl, rfl, rfl, rfl, rfl, rfl, rfl, rfl, rfl, rfl, rfl, rfl, rfl, rfl, rfl, rfl, trivial⟩ r5
        try dsimp only [rDeedR] at hS
        refine then_n ?_
        replace hS := hS.ent (i := 37) (s' := .pv (.int .i64 ((i + 1 : Nat) : Int))) rfl (.int (wrap_succ (by omega)))
        obtain ⟨F, hS⟩ := hS.norm [(37, _), (7, _), (8, _), (9, _), (10, _), (0, _), (1, _), (6, _), (35, _), (36, _)] [(61, _), (62, _), (0, _), (9, _)] ⟨rfl, rfl, rfl, rfl, rfl, rfl, rfl, rfl, rfl, rfl, trivial⟩ ⟨rfl, rfl, rfl, rfl, trivial⟩
        exact ⟨((i + 1), _, _, _, _), F, ⟨by omega, trivial⟩, hS, by omega⟩
     ·skip
      refine wp_seq ?_
      refine region_seq hS (by kernel_rfl)
        (cF rfl (o_move .t (by rfl)) r1 trivial
        (cF rfl (o_move .t (by rfl)) r1 trivial
        (cF rfl (o_move .t (by rfl)) r1 trivial
        (cF rfl (o_move .t (by rfl)) r1 trivial
        (cF rfl (o_load (ag := true) (sz := 4) 101 .is (by kernel_rfl) (by kernel_rfl) (by kernel_rfl) (by rfl)) r1 r1
        (cF rfl (o_callG2 61 62 (does_c ba bb (rowN n) (rowN m) x z d) Tryd.func33 rfl (by kernel_rfl) rfl (Args.five .t .t .t .t (.pagg .t))) r5 r2
        (cF rfl (o_moveT (by rfl)) r1 trivial
        (cF rfl (o_extractC (by kernel_rfl) (by kernel_rfl) (by rfl)) r2 trivial
        (cF rfl (o_extractB rfl) r2 trivial
        (cF rfl (o_extractB rfl) r2 trivial
        (cF rfl (o_extractB rfl) r2 trivial
        (cF rfl (o_assign .t (by rfl)) r1 trivial
        (cF rfl (o_assign .t (by rfl)) r1 trivial
        (cF rfl (o_assign .t (by rfl)) r1 trivial
        (cF rfl (o_assign .t (by rfl)) r1 trivial
        Chain.nil)))))))))))))))
        (by kernel_rfl) (by rw [hB]; kernel_rfl) ?_
      clear hS; intro a w F hS
      replace hS := hS.sub
      obtain ⟨F, hS⟩ := hS.norm [(0, _), (1, _), (6, _), (7, _), (8, _), (9, _), (10, _), (12, _), (17, _), (18, _), (19, _), (20, _), (35, _), (36, _), (37, _), (38, _), (39, _), (40, _), (41, _), (42, _), (59, _), (60, _), (61, _), (62, _), (63, _), (64, _), (65, _), (66, _), (67, _), (68, _), (69, _)] [(0, _), (9, _), (61, _), (62, _), (101, _)] ⟨rfl, rfl, rfl, rfl, rfl, rfl, rfl, rfl, rfl, rfl, rfl, rfl, rfl, rfl, rfl, rfl, rfl, rfl, rfl, rfl, rfl, rfl, rfl, rfl, rfl, rfl, rfl, rfl, rfl, rfl, rfl, trivial⟩ r5
      try dsimp only [RS.sub, SF.sub, CF.sub, csub, Anc.sub, List.map, List.drop_succ_cons, List.drop_zero, List.drop_nil, List.take_succ_cons, List.take_zero, List.take_nil, ldSF, rDeedR] at hS
      generalize Act.tau a 65 = v65 at hS
      obtain ⟨_, _, _, ho⟩ := hS.obGet 61 rfl
      obtain ⟨bn, hb⟩ := setH_ptr ho
      clear ho
      replace hS := hS.turn 61 rfl (r' := RS.hp (setH (.pointer (some ⟨bn, 0, none⟩)) (rowN n) (newL (rowN n : Nat) x z d))) (by rw [← hb]; exact fun _ _ _ _ h => h)
      replace hS := hS.turn 62 rfl (r' := RS.hp (setH (.pointer (some ⟨bb, 0, none⟩)) (rowN m) z)) (fun _ _ _ _ h => h)
      replace hS := hS.ent (i := 17) (s' := .pv (.is (.pointer (some ⟨bn, 0, none⟩)))) rfl (.part hb rfl)
      obtain ⟨F, hS⟩ := hS.norm [(0, _), (1, _), (6, _), (7, _), (8, _), (9, _), (10, _), (12, _), (17, _), (18, _), (19, _), (20, _), (35, _), (36, _), (37, _), (38, _), (39, _), (40, _), (42, _), (60, _), (61, _), (62, _), (63, _), (64, _), (65, _), (67, _), (68, _), (69, _)] [(0, _), (9, _), (61, _), (62, _), (101, _)] ⟨rfl, rfl, rfl, rfl, rfl, rfl, rfl, rfl, rfl, rfl, rfl, rfl, rfl, rfl, rfl, rfl, rfl, rfl, rfl, rfl, rfl, rfl, rfl, rfl, rfl, rfl, rfl, rfl, trivial⟩ r5
      refine then_n ?_
      refine wp_seq ?_
      refine region_seq hS (by kernel_rfl)
        (cF rfl (o_move .t (by rfl)) r1 trivial
        (cF rfl (o_move .t (by rfl)) r1 trivial
        (cF rfl (o_assign .t (by rfl)) r1 trivial
        (cF rfl (o_assign .t (by rfl)) r1 trivial
        Chain.nil))))
        (by kernel_rfl) (by rw [hB]; kernel_rfl) ?_
      clear hS; intro a w F hS
      obtain ⟨F, hS⟩ := hS.norm [(0, _), (1, _), (6, _), (7, _), (8, _), (9, _), (10, _), (12, _), (17, _), (18, _), (19, _), (20, _), (35, _), (36, _), (37, _), (38, _), (39, _), (40, _), (42, _), (60, _), (61, _), (62, _), (63, _), (64, _), (65, _), (67, _), (68, _), (69, _), (70, _), (71, _)] [(0, _), (9, _), (61, _), (62, _), (101, _)] ⟨rfl, rfl, rfl, rfl, rfl, rfl, rfl, rfl, rfl, rfl, rfl, rfl, rfl, rfl, rfl, rfl, rfl, rfl, rfl, rfl, rfl, rfl, rfl, rfl, rfl, rfl, rfl, rfl, rfl, rfl, trivial⟩ r5
      try dsimp only [rDeedR] at hS
      refine then_n ?_
      refine wp_seq ?_
      refine region_seq hS (by kernel_rfl)
        (cF rfl (o_move .t (by rfl)) r1 trivial
        (cF rfl (o_move .t (by rfl)) r1 trivial
        (cF rfl (o_neqB Tryd.underlying4 .t .t) r2 trivial
        Chain.nil)))
        (by kernel_rfl) (by rw [hB]; kernel_rfl) ?_
      clear hS; intro a w F hS
      obtain ⟨F, hS⟩ := hS.norm [(0, _), (1, _), (6, _), (7, _), (8, _), (9, _), (10, _), (12, _), (17, _), (18, _), (19, _), (20, _), (35, _), (36, _), (37, _), (38, _), (39, _), (40, _), (42, _), (60, _), (61, _), (62, _), (63, _), (64, _), (65, _), (67, _), (68, _), (69, _), (70, _), (71, _), (72, _), (73, _), (74, _)] [(0, _), (9, _), (61, _), (62, _), (101, _)] ⟨rfl, rfl, rfl, rfl, rfl, rfl, rfl, rfl, rfl, rfl, rfl, rfl, rfl, rfl, rfl, rfl, rfl, rfl, rfl, rfl, rfl, rfl, rfl, rfl, rfl, rfl, rfl, rfl, rfl, rfl, rfl, rfl, rfl, trivial⟩ r5
      try dsimp only [rDeedR] at hS
      refine then_n ?_
      refine cond_b hS rfl (fun hc6 => ?_) (fun hc6 => ?_)
      ·skip
       simp at hc6
      ·skip
       refine wp_skip ?_
       refine then_n ?_
       refine wp_seq ?_
       refine region_any (by kernel_rfl) hS (by kernel_rfl)
         (cF rfl (o_move .t (by rfl)) r1 trivial
         (cF rfl (o_move .t (by rfl)) r1 trivial
         (cF rfl (o_callP (size_c _) Tryd.func35 rfl (by kernel_rfl) (Args.one .t)) r1 trivial
         (cF rfl (o_move .t (by rfl)) r1 trivial
         (cF rfl (o_fieldAddr (off := 2) 101 .is (by kernel_rfl) (by rfl)) r1 r1
         (cF rfl (o_load (ag := false) (sz := 1) 101 .adr (by kernel_rfl) (by kernel_rfl) (by kernel_rfl) (by rfl)) r1 r1
         (cF rfl (OpC.lend 61 [75] setH_lend (o_callP (tells_c (rowN n) (newL (rowN n : Nat) x z d) d.i) Tryd.func34 rfl (by kernel_rfl) (Args.four .t .t .t .t)) ⟨rfl, trivial, trivial, trivial, trivial⟩ (.pv (fun _ _ _ _ h => h)) trivial (by rfl)) r4 r1
         (cF rfl (o_not .t) r1 trivial
         (cF rfl (o_move .t (by rfl)) r1 trivial
         (Chain.cons (Cert.cond rfl rfl (fun h => o_move .t (by rfl))) r2 trivial
         (Chain.cons (Cert.cond rfl rfl (fun h => o_move .t (by rfl))) r2 trivial
         (Chain.cons (Cert.cond rfl rfl (fun h => o_callP (size_c _) Tryd.func35 rfl (by kernel_rfl) (Args.one (.w h)))) r2 trivial
         (Chain.cons (Cert.cond rfl rfl (fun h => o_move .t (by rfl))) r2 trivial
         (Chain.cons (Cert.cond rfl rfl (fun h => o_fieldAddr (off := 2) 101 .is (by kernel_rfl) (by rfl))) r2 r1
         (Chain.cons (Cert.cond rfl rfl (fun h => o_load (ag := false) (sz := 1) 101 (.w h .adr) (by kernel_rfl) (by kernel_rfl) (by kernel_rfl) (by rfl))) r2 r1
         (Chain.cons (Cert.cond rfl rfl (fun h => OpC.lend 62 [84] setH_lend (o_callP (tells_c (rowN m) z d.i) Tryd.func34 rfl (by kernel_rfl) (Args.four (.w h) (.w h) (.w h) (.w h))) ⟨rfl, trivial, trivial, trivial, trivial⟩ (.pv (fun _ _ _ _ h => h)) trivial (by rfl))) r5 r1
         (Chain.cons (Cert.cond rfl rfl (fun h => o_not (.w h))) r2 trivial
         (cF rfl (o_or2 .t .t) r2 trivial
         (cF rfl (o_move .t (by rfl)) r1 trivial
         (Chain.cons (Cert.cond rfl rfl (fun h => o_move .t (by rfl))) r2 trivial
         (Chain.cons (Cert.cond rfl rfl (fun h => o_move .t (by rfl))) r2 trivial
         (Chain.cons (Cert.cond rfl rfl (fun h => OpC.lend 62 [95] setH_lend (OpC.lend 61 [94] setH_lend (o_callP (sameS_c (rowN n) (rowN m) (newL (rowN n : Nat) x z d) z) Tryd.func36 rfl (by kernel_rfl) (Args.two (.w h) (.w h))) ⟨rfl, trivial, trivial⟩ (.pv (fun _ _ _ _ h => h)) trivial (by rfl)) ⟨trivial, rfl, trivial⟩ (.pv (fun _ _ _ _ h => h)) trivial (by rfl))) r3 r2
         (Chain.cons (Cert.cond rfl rfl (fun h => o_move .t (by rfl))) r2 trivial
         (Chain.cons (Cert.cond rfl rfl (fun h => OpC.lend 61 [97] setH_lend (o_callP (len_c (rowN n) (newL (rowN n : Nat) x z d)) Tryd.func30 rfl (by kernel_rfl) (Args.one (.w h))) ⟨rfl, trivial⟩ (.pv (fun _ _ _ _ h => h)) trivial (by rfl))) r2 r1
         (Chain.cons (Cert.cond rfl rfl (fun h => o_move .t (by rfl))) r2 trivial
         (Chain.cons (Cert.cond rfl rfl (fun h => OpC.lend 62 [99] setH_lend (o_callP (len_c (rowN m) z) Tryd.func30 rfl (by kernel_rfl) (Args.one (.w h))) ⟨rfl, trivial⟩ (.pv (fun _ _ _ _ h => h)) trivial (by rfl))) r2 r1
         (Chain.cons (Cert.cond rfl rfl (fun h => o_eql (.w h) (.w h))) r3 trivial
         (Chain.cons (Cert.cond rfl rfl (fun h => o_move (.w h) (by rfl))) r2 trivial
         (Chain.cons (Cert.cond2 rfl rfl (fun h => o_move .t (by rfl))) r2 trivial
         (Chain.cons (Cert.cond2 rfl rfl (fun h => o_move .t (by rfl))) r2 trivial
         (Chain.cons (Cert.cond2 rfl rfl (fun h => o_callP (sameInts_c (newL (rowN n : Nat) x z d) z) Tryd.func37 rfl (by kernel_rfl) (Args.two (.w h) (.w h)))) r3 trivial
         (Chain.cons (Cert.cond rfl rfl (fun h => o_and2 (.w h) (.wc h))) r3 trivial
         (Chain.cons (Cert.cond rfl rfl (fun h => o_neqB Tryd.underlying4 (.w h) (.w h))) r3 trivial
         (cF rfl (o_or2 .t .t) r2 trivial
         Chain.nil))))))))))))))))))))))))))))))))))
         (by kernel_rfl) (by rw [hB]; kernel_rfl) ?_
       clear hS; intro a w F hS
       obtain ⟨F, hS⟩ := hS.norm [(0, _), (1, _), (6, _), (7, _), (8, _), (9, _), (10, _), (12, _), (17, _), (18, _), (19, _), (20, _), (35, _), (36, _), (37, _), (38, _), (39, _), (40, _), (42, _), (60, _), (61, _), (62, _), (63, _), (64, _), (65, _), (67, _), (68, _), (69, _), (70, _), (71, _), (72, _), (73, _), (74, _), (75, _), (76, _), (77, _), (78, _), (79, _), (80, _), (81, _), (82, _), (83, _), (84, _), (85, _), (86, _), (87, _), (88, _), (89, _), (90, _), (91, _), (92, _), (93, _), (94, _), (95, _), (96, _), (97, _), (98, _), (99, _), (100, _), (101, _), (102, _), (103, _), (104, _), (105, _), (106, _), (107, _), (108, _)] [(0, _), (9, _), (61, _), (62, _), (101, _)] ⟨rfl, rfl, rfl, rfl, rfl, rfl, rfl, rfl, rfl, rfl, rfl, rfl, rfl, rfl, rfl, rfl, rfl, rfl, rfl, rfl, rfl, rfl, rfl, rfl, rfl, rfl, rfl, rfl, rfl, rfl, rfl, rfl, rfl, rfl, rfl, rfl, rfl, rfl, rfl, rfl, rfl, rfl, rfl, rfl, rfl, rfl, rfl, rfl, rfl, rfl, rfl, rfl, rfl, rfl, rfl, rfl, rfl, rfl, rfl, rfl, rfl, rfl, rfl, rfl, rfl, rfl, rfl, trivial⟩ r5
       try dsimp only [List.map, List.drop_succ_cons, List.drop_zero, List.drop_nil, List.take_succ_cons, List.take_zero, List.take_nil, ldSF, rDeedR] at hS
       refine then_n ?_
       refine cond_b hS rfl (fun hc7 => ?_) (fun hc7 => ?_)
       ·skip
        have hsame : decide (rowN n = rowN m ∧ (newL (rowN n : Nat) x z d) = z) = (decide ((rowN n : Int) = (rowN m : Int)) && decide ((newL (rowN n : Nat) x z d) = z)) := by rw [Bool.decide_and]; congr 1; exact decide_eq_decide.2 (by omega)
        rw [hsame] at hc7
        simp at hc7
       ·skip
        refine wp_skip ?_
        refine block_n ?_
        refine then_n ?_
        refine region_seq hS (by kernel_rfl)
          (cF rfl (o_add .t (.ci (by kernel_rfl))) r1 trivial
          (cF rfl (o_move .t (by rfl)) r1 trivial
          Chain.nil))
          (by kernel_rfl) (by rw [hB]; kernel_rfl) ?_
        clear hS; intro a w F hS
        obtain ⟨F, hS⟩ := hS.norm [(0, _), (1, _), (6, _), (7, _), (8, _), (9, _), (10, _), (12, _), (17, _), (18, _), (19, _), (20, _), (35, _), (36, _), (37, _), (38, _), (39, _), (40, _), (42, _), (60, _), (61, _), (62, _), (63, _), (64, _), (65, _), (67, _), (68, _), (69, _), (70, _), (71, _), (72, _), (73, _), (74, _), (75, _), (76, _), (77, _), (78, _), (79, _), (80, _), (81, _), (82, _), (83, _), (84, _), (85, _), (86, _), (87, _), (88, _), (89, _), (90, _), (91, _), (92, _), (93, _), (94, _), (95, _), (96, _), (97, _), (98, _), (99, _), (100, _), (101, _), (102, _), (103, _), (104, _), (105, _), (106, _), (107, _), (108, _), (109, _)] [(0, _), (9, _), (61, _), (62, _), (101, _)] ⟨rfl, rfl, rfl, rfl, rfl, rfl, rfl, rfl, rfl, rfl, rfl, rfl, rfl, rfl, rfl, rfl, rfl, rfl, rfl, rfl, rfl, rfl, rfl, rfl, rfl, rfl, rfl, rfl, rfl, rfl, rfl, rfl, rfl, rfl, rfl, rfl, rfl, rfl, rfl, rfl, rfl, rfl, rfl, rfl, rfl, rfl, rfl, rfl, rfl, rfl, rfl, rfl, rfl, rfl, rfl, rfl, rfl, rfl, rfl, rfl, rfl, rfl, rfl, rfl, rfl, rfl, rfl, rfl, trivial⟩ r5
        try dsimp only [rDeedR] at hS
        refine then_n ?_
        replace hS := hS.ent (i := 37) (s' := .pv (.int .i64 ((i + 1 : Nat) : Int))) rfl (.int (wrap_succ (by omega)))
        obtain ⟨F, hS⟩ := hS.norm [(37, _), (7, _), (8, _), (9, _), (10, _), (0, _), (1, _), (6, _), (35, _), (36, _)] [(61, _), (62, _), (0, _), (9, _)] ⟨rfl, rfl, rfl, rfl, rfl, rfl, rfl, rfl, rfl, rfl, trivial⟩ ⟨rfl, rfl, rfl, rfl, trivial⟩
        exact ⟨((i + 1), _, _, _, _), F, ⟨by omega, trivial⟩, hS, by omega⟩
    ·skip
     have hil : i = l.length := by simp at hc2; omega
     refine wp_exit ?_
     refine then_x ?_
     refine then_x ?_
     refine block_x ?_
     refine then_n ?_
     refine wp_seq ?_
     refine region_seq hS (by kernel_rfl)
       (cF rfl (o_callPg 9 (lives_c) Tryd.func25 rfl (by kernel_rfl) Args.nil) trivial r1
       (cF rfl (o_assign .t (by rfl)) r1 trivial
       Chain.nil))
       (by kernel_rfl) (by rw [hB]; kernel_rfl) ?_
     clear hS; intro a w F hS
     obtain ⟨F, hS⟩ := hS.norm [(6, _)] [(0, _), (9, _), (61, _), (62, _)] r1 r4
     try dsimp only [rDeedR] at hS
     refine then_n ?_
     refine wp_ret ?_
     refine ret_P hfr hS rfl (.tmp rfl .nil) (.one (.bool rfl))

end Go.Proofs.YtdfpljecogijaaaDoor
