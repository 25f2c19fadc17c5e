/- The document on pairs. No condition beyond those that each theorem says. -/
import Derived.Test.YtdfpljecogijaaaPr0
namespace Go.Proofs.Ytdfpljecogijaaa
open Go Go.Gm
set_option linter.unusedVariables false
set_option linter.unusedSimpArgs false
set_option maxHeartbeats 4000000
set_option maxRecDepth 8000


theorem put06_c (l : List PairD) (k x : Int) (hl : l.length ≤ 1000000) : FnP Try.prog 55 [.sl rPair l, .int .i64 k, .int .i64 x] (.sl rPair (putP l k x)) := by
  refine FnP.mk Try.func55 rfl Try.ntmps55 rfl ?_
  intro B a w F hB hfr hS
  refine wp_seq ?_
  refine region_seq hS (by kernel_rfl)
    (cF rfl (o_assign (.c rfl) (by rfl)) trivial trivial
    Chain.nil)
    (by kernel_rfl) (by rw [hB]; kernel_rfl) ?_
  clear hS; intro a w F hS
  obtain ⟨F, hS⟩ := hS.norm [(0, _), (1, _), (2, _), (6, _)] [(0, _)] r4 r1
  try dsimp only [rPair] at hS
  refine then_n ?_
  refine wp_seq ?_
  refine region_seq hS (by kernel_rfl)
    (cF rfl (o_assign (.c rfl) (by rfl)) trivial trivial
    Chain.nil)
    (by kernel_rfl) (by rw [hB]; kernel_rfl) ?_
  clear hS; intro a w F hS
  obtain ⟨F, hS⟩ := hS.norm [(0, _), (1, _), (2, _), (6, _), (7, _)] [(0, _)] r5 r1
  try dsimp only [rPair] at hS
  refine then_n ?_
  refine wp_seq ?_
  refine region_seq hS (by kernel_rfl)
    (cF rfl (o_assign .cb (by rfl)) trivial trivial
    Chain.nil)
    (by kernel_rfl) (by rw [hB]; kernel_rfl) ?_
  clear hS; intro a w F hS
  obtain ⟨F, hS⟩ := hS.norm [(0, _), (1, _), (2, _), (6, _), (7, _), (8, _)] [(0, _)] r6 r1
  try dsimp only [rPair] at hS
  refine then_n ?_
  refine wp_seq ?_
  refine wp_seq ?_
  refine region_seq hS (by kernel_rfl)
    (cF rfl (o_move .t (by rfl)) r1 trivial
    (cF rfl (o_len_sl Try.underlying55 .t) r1 trivial
    (cF rfl (o_move (.ci (by kernel_rfl)) (by rfl)) trivial trivial
    Chain.nil)))
    (by kernel_rfl) (by rw [hB]; kernel_rfl) ?_
  clear hS; intro a w F hS
  obtain ⟨F, hS⟩ := hS.norm [(1, _), (2, _), (6, _), (7, _), (8, _), (11, _), (12, _), (13, _)] [(0, _)] r8 r1
  try dsimp only [rPair] at hS
  refine then_n ?_
  refine wp_block ?_
  replace hS := hS.fresh 50 rfl
  replace hS := hS.turn 50 rfl (nilRow (T := 74) (sz := 2) (R := rPair))
  refine loop_keep (σ := (Nat) × (Bool) × (Value) × (List PairD)) [1, 2, 6, 11, 12] [0] (fun s => [(13, .pv (.int .i64 (s.1 : Int))), (8, .pv (.bool s.2.1)), (7, .pv (.is s.2.2.1))]) (fun s => [(50, .ob (.val s.2.2.1) (rowH 74 2 rPair s.2.2.2))]) (fun s => s.1 ≤ l.length ∧ (s.2.2.2 ++ putPR k x (l.drop s.1) s.2.1 = putP l k x)) (fun s => l.length - s.1) ((0), _, (.slice none 0 0), ([])) hS ⟨rfl, rfl, rfl, rfl, rfl, rfl, rfl, rfl, trivial⟩ ⟨rfl, rfl, trivial⟩ ⟨Nat.zero_le _, rfl⟩ ?_
  clear hS; intro s a w F hC hS
  obtain ⟨i, d, v, out⟩ := s
  try dsimp only at hC
  obtain ⟨F, hS⟩ := hS.norm [(1, _), (2, _), (6, _), (7, _), (8, _), (11, _), (12, _), (13, _)] [(0, _), (50, _)] r8 r2
  try dsimp only at hS
  obtain ⟨hi, hq⟩ := hC
  have hol := congrArg List.length hq
  rw [List.length_append] at hol
  have htl := putP_len l k x
  refine wp_seq ?_
  refine region_seq hS (by kernel_rfl)
    (cF rfl (o_lss .t .t) r2 trivial
    Chain.nil)
    (by kernel_rfl) (by rw [hB]; kernel_rfl) ?_
  clear hS; intro a w F hS
  obtain ⟨F, hS⟩ := hS.norm [(1, _), (2, _), (6, _), (7, _), (8, _), (11, _), (12, _), (13, _), (14, _)] [(0, _), (50, _)] ⟨rfl, rfl, rfl, rfl, rfl, rfl, rfl, rfl, rfl, trivial⟩ r2
  try dsimp only [rPair] at hS
  refine then_n ?_
  refine wp_seq ?_
  refine cond_b hS rfl (fun hc0 => ?_) (fun hc0 => ?_)
  ·skip
   have hil : i < l.length := by simp at hc0; omega
   refine wp_skip ?_
   refine then_n ?_
   refine wp_seq ?_
   refine wp_block ?_
   refine wp_seq ?_
   refine region_seq hS (by kernel_rfl)
     (cF rfl (o_indexAddr_sl (sz := 2) (.mk Try.underlying55 (by kernel_rfl)) (by intro x; rfl) .t .t (by first | assumption | omega) (by first | assumption | omega)) r2 trivial
     (cF rfl (o_load_ref (ag := true) (sz := 2) .t (by kernel_rfl) (by kernel_rfl) (by kernel_rfl)) r1 trivial
     (cF rfl (o_alloc (zs := [.int .i64 0, .int .i64 0]) 101 (by kernel_rfl)) trivial trivial
     (cF rfl (o_storeA (sz := 2) 101 .same .t (by kernel_rfl) (by kernel_rfl) (by kernel_rfl)) r2 r1
     Chain.nil))))
     (by kernel_rfl) (by rw [hB]; kernel_rfl) ?_
   clear hS; intro a w F hS
   replace hS := hS.sub
   obtain ⟨F, hS⟩ := hS.norm [(1, _), (2, _), (6, _), (7, _), (8, _), (10, _), (11, _), (12, _), (13, _), (14, _), (15, _), (16, _)] [(0, _), (50, _), (101, _)] ⟨rfl, rfl, rfl, rfl, rfl, rfl, rfl, rfl, rfl, rfl, rfl, rfl, trivial⟩ r3
   try dsimp only [RS.sub, SF.sub, CF.sub, csub, Anc.sub, List.map, stCells, List.length_cons, List.length_nil, Nat.reduceAdd, List.drop_succ_cons, List.drop_zero, List.drop_nil, List.take_succ_cons, List.take_zero, List.take_nil, List.cons_append, List.nil_append, zCF, ldSF, rPair] at hS
   generalize Act.tau a 10 = v10 at hS
   try simp only [Int.toNat_natCast] at hS
   refine then_n ?_
   refine wp_seq ?_
   refine wp_seq ?_
   refine region_seq hS (by kernel_rfl)
     (cF rfl (o_move .t (by rfl)) r1 trivial
     (cF rfl (o_not .t) r1 trivial
     (cF rfl (o_move .t (by rfl)) r1 trivial
     (Chain.cons (Cert.cond rfl rfl (fun h => o_fieldAddr (off := 0) 101 .is (by kernel_rfl) (by rfl))) r2 r1
     (Chain.cons (Cert.cond rfl rfl (fun h => o_load (ag := false) (sz := 1) 101 (.w h .adr) (by kernel_rfl) (by kernel_rfl) (by kernel_rfl) (by rfl))) r2 r1
     (Chain.cons (Cert.cond rfl rfl (fun h => o_move .t (by rfl))) r2 trivial
     (Chain.cons (Cert.cond rfl rfl (fun h => o_geq (.w h) (.w h))) r3 trivial
     (cF rfl (o_and2 .t .t) r2 trivial
     Chain.nil))))))))
     (by kernel_rfl) (by rw [hB]; kernel_rfl) ?_
   clear hS; intro a w F hS
   obtain ⟨F, hS⟩ := hS.norm [(1, _), (2, _), (6, _), (7, _), (8, _), (10, _), (11, _), (12, _), (13, _), (14, _), (15, _), (16, _), (17, _), (18, _), (19, _), (20, _), (21, _), (22, _), (23, _), (24, _)] [(0, _), (50, _), (101, _)] ⟨rfl, rfl, rfl, rfl, rfl, rfl, rfl, rfl, rfl, rfl, rfl, rfl, rfl, rfl, rfl, rfl, rfl, rfl, rfl, rfl, trivial⟩ r3
   try dsimp only [List.map, List.drop_succ_cons, List.drop_zero, List.drop_nil, List.take_succ_cons, List.take_zero, List.take_nil, ldSF, rPair] at hS
   refine then_n ?_
   refine cond_b hS rfl (fun hc1 => ?_) (fun hc1 => ?_)
   ·skip
    have hA : d = false ∧ k ≤ (Go.Gm.nth l i).key := by simpa using hc1
    refine wp_seq ?_
    refine region_seq hS (by kernel_rfl)
      (cF rfl (o_move .t (by rfl)) r1 trivial
      (cF rfl (o_move .t (by rfl)) r1 trivial
      (cF rfl (o_move .t (by rfl)) r1 trivial
      (cF rfl (o_build (r := [(0, .tmp 26), (1, .tmp 27)]) (zs := [.int .i64 0, .int .i64 0]) (pl := [(0, 1), (1, 1)]) (by kernel_rfl) (by kernel_rfl) (.one rfl .t one_int (by kernel_rfl) (.one rfl .t one_int (by kernel_rfl) .nil)) (by rfl)) r2 trivial
      (cF rfl (o_buildSliceE (sz := 2) (zs := [.int .i64 0, .int .i64 0]) (r := [(0, .tmp 28)]) (l := [_, _]) Try.underlying55 (by kernel_rfl) (by kernel_rfl) (by kernel_rfl) (by kernel_rfl) rfl rfl (.agg rfl .t (by kernel_rfl) (by kernel_rfl) .nil) rfl) r1 trivial
      (cF rfl (o_append (sz := 2) (bs := 16) 50 (.mk' Try.underlying55 (by kernel_rfl) (by kernel_rfl)) (by intro x; rfl) .is (.arr (l' := [(⟨k, x⟩ : PairD)]) .t) (by simp only [List.length_append, List.length_cons, List.length_nil]; omega) (by decide)) ⟨rfl, rfl, trivial⟩ ⟨rfl, trivial⟩
      (cF rfl (o_assign .t (by rfl)) r1 trivial
      Chain.nil)))))))
      (by kernel_rfl) (by rw [hB]; kernel_rfl) ?_
    clear hS; intro a w F hS
    replace hS := hS.sub
    obtain ⟨F, hS⟩ := hS.norm [(1, _), (2, _), (6, _), (7, _), (8, _), (10, _), (11, _), (12, _), (13, _), (14, _), (15, _), (16, _), (17, _), (18, _), (19, _), (20, _), (21, _), (22, _), (23, _), (24, _), (25, _), (26, _), (27, _), (28, _), (29, _), (30, _)] [(0, _), (50, _), (101, _)] ⟨rfl, rfl, rfl, rfl, rfl, rfl, rfl, rfl, rfl, rfl, rfl, rfl, rfl, rfl, rfl, rfl, rfl, rfl, rfl, rfl, rfl, rfl, rfl, rfl, rfl, rfl, trivial⟩ r3
    try dsimp only [RS.sub, SF.sub, CF.sub, csub, Anc.sub, List.map, stCells, List.length_cons, List.length_nil, Nat.reduceAdd, List.drop_succ_cons, List.drop_zero, List.drop_nil, List.take_succ_cons, List.take_zero, List.take_nil, List.cons_append, List.nil_append, zCF, rPair] at hS
    generalize Act.tau a 30 = v30 at hS
    refine then_n ?_
    refine region_seq hS (by kernel_rfl)
      (cF rfl (o_assign .cb (by rfl)) trivial trivial
      Chain.nil)
      (by kernel_rfl) (by rw [hB]; kernel_rfl) ?_
    clear hS; intro a w F hS
    obtain ⟨F, hS⟩ := hS.norm [(1, _), (2, _), (6, _), (7, _), (8, _), (10, _), (11, _), (12, _), (13, _), (14, _), (15, _), (16, _), (17, _), (18, _), (19, _), (20, _), (21, _), (22, _), (23, _), (24, _), (25, _), (26, _), (27, _), (28, _), (29, _), (30, _)] [(0, _), (50, _), (101, _)] ⟨rfl, rfl, rfl, rfl, rfl, rfl, rfl, rfl, rfl, rfl, rfl, rfl, rfl, rfl, rfl, rfl, rfl, rfl, rfl, rfl, rfl, rfl, rfl, rfl, rfl, rfl, trivial⟩ r3
    try dsimp only [rPair] at hS
    refine then_n ?_
    refine wp_seq ?_
    refine region_seq hS (by kernel_rfl)
      (cF rfl (o_fieldAddr (off := 0) 101 .is (by kernel_rfl) (by rfl)) r1 r1
      (cF rfl (o_load (ag := false) (sz := 1) 101 .adr (by kernel_rfl) (by kernel_rfl) (by kernel_rfl) (by rfl)) r1 r1
      (cF rfl (o_move .t (by rfl)) r1 trivial
      (cF rfl (o_neq .t .t) r2 trivial
      Chain.nil))))
      (by kernel_rfl) (by rw [hB]; kernel_rfl) ?_
    clear hS; intro a w F hS
    obtain ⟨F, hS⟩ := hS.norm [(1, _), (2, _), (6, _), (7, _), (8, _), (10, _), (11, _), (12, _), (13, _), (14, _), (15, _), (16, _), (17, _), (18, _), (19, _), (20, _), (21, _), (22, _), (23, _), (24, _), (25, _), (26, _), (27, _), (28, _), (29, _), (30, _), (31, _), (32, _), (33, _), (34, _)] [(0, _), (50, _), (101, _)] ⟨rfl, rfl, rfl, rfl, rfl, rfl, rfl, rfl, rfl, rfl, rfl, rfl, rfl, rfl, rfl, rfl, rfl, rfl, rfl, rfl, rfl, rfl, rfl, rfl, rfl, rfl, rfl, rfl, rfl, rfl, trivial⟩ r3
    try dsimp only [List.map, List.drop_succ_cons, List.drop_zero, List.drop_nil, List.take_succ_cons, List.take_zero, List.take_nil, ldSF, rPair] at hS
    refine then_n ?_
    refine cond_b hS rfl (fun hc2 => ?_) (fun hc2 => ?_)
    ·skip
     have hBq : ¬ (Go.Gm.nth l i).key = k := by simpa using hc2
     refine region_seq hS (by kernel_rfl)
       (cF rfl (o_move .t (by rfl)) r1 trivial
       (cF rfl (o_load (ag := true) (sz := 2) 101 .is (by kernel_rfl) (by kernel_rfl) (by kernel_rfl) (by rfl)) r1 r1
       (cF rfl (o_buildSliceE (sz := 2) (zs := [.int .i64 0, .int .i64 0]) (r := [(0, .tmp 36)]) (l := [_, _]) Try.underlying55 (by kernel_rfl) (by kernel_rfl) (by kernel_rfl) (by kernel_rfl) rfl rfl (.agg rfl .t (by kernel_rfl) (by kernel_rfl) .nil) rfl) r1 trivial
       (cF rfl (o_append (sz := 2) (bs := 16) 50 (.mk' Try.underlying55 (by kernel_rfl) (by kernel_rfl)) (by intro x; rfl) .is (.arr (l' := [Go.Gm.nth l i]) .t) (by simp only [List.length_append, List.length_cons, List.length_nil]; omega) (by decide)) ⟨rfl, rfl, trivial⟩ ⟨rfl, trivial⟩
       (cF rfl (o_assign .t (by rfl)) r1 trivial
       Chain.nil)))))
       (by kernel_rfl) (by rw [hB]; kernel_rfl) ?_
     clear hS; intro a w F hS
     replace hS := hS.sub
     obtain ⟨F, hS⟩ := hS.norm [(1, _), (2, _), (6, _), (7, _), (8, _), (10, _), (11, _), (12, _), (13, _), (14, _), (15, _), (16, _), (17, _), (18, _), (19, _), (20, _), (21, _), (22, _), (23, _), (24, _), (25, _), (26, _), (27, _), (28, _), (29, _), (30, _), (31, _), (32, _), (33, _), (34, _), (35, _), (36, _), (37, _), (38, _)] [(0, _), (50, _), (101, _)] ⟨rfl, rfl, rfl, rfl, rfl, rfl, rfl, rfl, rfl, rfl, rfl, rfl, rfl, rfl, rfl, rfl, rfl, rfl, rfl, rfl, rfl, rfl, rfl, rfl, rfl, rfl, rfl, rfl, rfl, rfl, rfl, rfl, rfl, rfl, trivial⟩ r3
     try dsimp only [RS.sub, SF.sub, CF.sub, csub, Anc.sub, List.map, stCells, List.length_cons, List.length_nil, Nat.reduceAdd, List.drop_succ_cons, List.drop_zero, List.drop_nil, List.take_succ_cons, List.take_zero, List.take_nil, List.cons_append, List.nil_append, zCF, ldSF, rPair] at hS
     generalize Act.tau a 38 = v38 at hS
     refine block_n ?_
     refine then_n ?_
     refine region_seq hS (by kernel_rfl)
       (cF rfl (o_add .t (.ci (by kernel_rfl))) r1 trivial
       (cF rfl (o_move .t (by rfl)) r1 trivial
       Chain.nil))
       (by kernel_rfl) (by rw [hB]; kernel_rfl) ?_
     clear hS; intro a w F hS
     obtain ⟨F, hS⟩ := hS.norm [(1, _), (2, _), (6, _), (7, _), (8, _), (10, _), (11, _), (12, _), (13, _), (14, _), (15, _), (16, _), (17, _), (18, _), (19, _), (20, _), (21, _), (22, _), (23, _), (24, _), (25, _), (26, _), (27, _), (28, _), (29, _), (30, _), (31, _), (32, _), (33, _), (34, _), (35, _), (36, _), (37, _), (38, _), (39, _)] [(0, _), (50, _), (101, _)] ⟨rfl, rfl, rfl, rfl, rfl, rfl, rfl, rfl, rfl, rfl, rfl, rfl, rfl, rfl, rfl, rfl, rfl, rfl, rfl, rfl, rfl, rfl, rfl, rfl, rfl, rfl, rfl, rfl, rfl, rfl, rfl, rfl, rfl, rfl, rfl, trivial⟩ r3
     try dsimp only [rPair] at hS
     refine then_n ?_
     replace hS := hS.ent (i := 13) (s' := .pv (.int .i64 ((i + 1 : Nat) : Int))) rfl (.int (wrap_succ (by omega)))
     obtain ⟨F, hS⟩ := hS.norm [(13, _), (8, _), (7, _), (1, _), (2, _), (6, _), (11, _), (12, _)] [(50, _), (0, _)] ⟨rfl, rfl, rfl, rfl, rfl, rfl, rfl, rfl, trivial⟩ ⟨rfl, rfl, trivial⟩
     exact ⟨((i + 1), _, _, _), F, ⟨by omega, (by rw [drop_nth hil] at hq; first | exact pp_TT hq hA hBq | exact pp_TF hq hA hBq | exact pp_FT hq hA hBq | exact pp_FF hq hA hBq)⟩, hS, by omega⟩
    ·skip
     have hBq : (Go.Gm.nth l i).key = k := by simpa using hc2
     refine wp_skip ?_
     refine block_n ?_
     refine then_n ?_
     refine region_seq hS (by kernel_rfl)
       (cF rfl (o_add .t (.ci (by kernel_rfl))) r1 trivial
       (cF rfl (o_move .t (by rfl)) r1 trivial
       Chain.nil))
       (by kernel_rfl) (by rw [hB]; kernel_rfl) ?_
     clear hS; intro a w F hS
     obtain ⟨F, hS⟩ := hS.norm [(1, _), (2, _), (6, _), (7, _), (8, _), (10, _), (11, _), (12, _), (13, _), (14, _), (15, _), (16, _), (17, _), (18, _), (19, _), (20, _), (21, _), (22, _), (23, _), (24, _), (25, _), (26, _), (27, _), (28, _), (29, _), (30, _), (31, _), (32, _), (33, _), (34, _), (39, _)] [(0, _), (50, _), (101, _)] ⟨rfl, rfl, rfl, rfl, rfl, rfl, rfl, rfl, rfl, rfl, rfl, rfl, rfl, rfl, rfl, rfl, rfl, rfl, rfl, rfl, rfl, rfl, rfl, rfl, rfl, rfl, rfl, rfl, rfl, rfl, rfl, trivial⟩ r3
     try dsimp only [rPair] at hS
     refine then_n ?_
     replace hS := hS.ent (i := 13) (s' := .pv (.int .i64 ((i + 1 : Nat) : Int))) rfl (.int (wrap_succ (by omega)))
     obtain ⟨F, hS⟩ := hS.norm [(13, _), (8, _), (7, _), (1, _), (2, _), (6, _), (11, _), (12, _)] [(50, _), (0, _)] ⟨rfl, rfl, rfl, rfl, rfl, rfl, rfl, rfl, trivial⟩ ⟨rfl, rfl, trivial⟩
     exact ⟨((i + 1), _, _, _), F, ⟨by omega, (by rw [drop_nth hil] at hq; first | exact pp_TT hq hA hBq | exact pp_TF hq hA hBq | exact pp_FT hq hA hBq | exact pp_FF hq hA hBq)⟩, hS, by omega⟩
   ·skip
    have hA : ¬ (d = false ∧ k ≤ (Go.Gm.nth l i).key) := by rintro ⟨h1, h2⟩; subst h1; simp at hc1; omega
    refine wp_skip ?_
    refine then_n ?_
    refine wp_seq ?_
    refine region_seq hS (by kernel_rfl)
      (cF rfl (o_fieldAddr (off := 0) 101 .is (by kernel_rfl) (by rfl)) r1 r1
      (cF rfl (o_load (ag := false) (sz := 1) 101 .adr (by kernel_rfl) (by kernel_rfl) (by kernel_rfl) (by rfl)) r1 r1
      (cF rfl (o_move .t (by rfl)) r1 trivial
      (cF rfl (o_neq .t .t) r2 trivial
      Chain.nil))))
      (by kernel_rfl) (by rw [hB]; kernel_rfl) ?_
    clear hS; intro a w F hS
    obtain ⟨F, hS⟩ := hS.norm [(1, _), (2, _), (6, _), (7, _), (8, _), (10, _), (11, _), (12, _), (13, _), (14, _), (15, _), (16, _), (17, _), (18, _), (19, _), (20, _), (21, _), (22, _), (23, _), (24, _), (31, _), (32, _), (33, _), (34, _)] [(0, _), (50, _), (101, _)] ⟨rfl, rfl, rfl, rfl, rfl, rfl, rfl, rfl, rfl, rfl, rfl, rfl, rfl, rfl, rfl, rfl, rfl, rfl, rfl, rfl, rfl, rfl, rfl, rfl, trivial⟩ r3
    try dsimp only [List.map, List.drop_succ_cons, List.drop_zero, List.drop_nil, List.take_succ_cons, List.take_zero, List.take_nil, ldSF, rPair] at hS
    refine then_n ?_
    refine cond_b hS rfl (fun hc3 => ?_) (fun hc3 => ?_)
    ·skip
     have hBq : ¬ (Go.Gm.nth l i).key = k := by simpa using hc3
     refine region_seq hS (by kernel_rfl)
       (cF rfl (o_move .t (by rfl)) r1 trivial
       (cF rfl (o_load (ag := true) (sz := 2) 101 .is (by kernel_rfl) (by kernel_rfl) (by kernel_rfl) (by rfl)) r1 r1
       (cF rfl (o_buildSliceE (sz := 2) (zs := [.int .i64 0, .int .i64 0]) (r := [(0, .tmp 36)]) (l := [_, _]) Try.underlying55 (by kernel_rfl) (by kernel_rfl) (by kernel_rfl) (by kernel_rfl) rfl rfl (.agg rfl .t (by kernel_rfl) (by kernel_rfl) .nil) rfl) r1 trivial
       (cF rfl (o_append (sz := 2) (bs := 16) 50 (.mk' Try.underlying55 (by kernel_rfl) (by kernel_rfl)) (by intro x; rfl) .is (.arr (l' := [Go.Gm.nth l i]) .t) (by simp only [List.length_append, List.length_cons, List.length_nil]; omega) (by decide)) ⟨rfl, rfl, trivial⟩ ⟨rfl, trivial⟩
       (cF rfl (o_assign .t (by rfl)) r1 trivial
       Chain.nil)))))
       (by kernel_rfl) (by rw [hB]; kernel_rfl) ?_
     clear hS; intro a w F hS
     replace hS := hS.sub
     obtain ⟨F, hS⟩ := hS.norm [(1, _), (2, _), (6, _), (7, _), (8, _), (10, _), (11, _), (12, _), (13, _), (14, _), (15, _), (16, _), (17, _), (18, _), (19, _), (20, _), (21, _), (22, _), (23, _), (24, _), (31, _), (32, _), (33, _), (34, _), (35, _), (36, _), (37, _), (38, _)] [(0, _), (50, _), (101, _)] ⟨rfl, rfl, rfl, rfl, rfl, rfl, rfl, rfl, rfl, rfl, rfl, rfl, rfl, rfl, rfl, rfl, rfl, rfl, rfl, rfl, rfl, rfl, rfl, rfl, rfl, rfl, rfl, rfl, trivial⟩ r3
     try dsimp only [RS.sub, SF.sub, CF.sub, csub, Anc.sub, List.map, stCells, List.length_cons, List.length_nil, Nat.reduceAdd, List.drop_succ_cons, List.drop_zero, List.drop_nil, List.take_succ_cons, List.take_zero, List.take_nil, List.cons_append, List.nil_append, zCF, ldSF, rPair] at hS
     generalize Act.tau a 38 = v38 at hS
     refine block_n ?_
     refine then_n ?_
     refine region_seq hS (by kernel_rfl)
       (cF rfl (o_add .t (.ci (by kernel_rfl))) r1 trivial
       (cF rfl (o_move .t (by rfl)) r1 trivial
       Chain.nil))
       (by kernel_rfl) (by rw [hB]; kernel_rfl) ?_
     clear hS; intro a w F hS
     obtain ⟨F, hS⟩ := hS.norm [(1, _), (2, _), (6, _), (7, _), (8, _), (10, _), (11, _), (12, _), (13, _), (14, _), (15, _), (16, _), (17, _), (18, _), (19, _), (20, _), (21, _), (22, _), (23, _), (24, _), (31, _), (32, _), (33, _), (34, _), (35, _), (36, _), (37, _), (38, _), (39, _)] [(0, _), (50, _), (101, _)] ⟨rfl, rfl, rfl, rfl, rfl, rfl, rfl, rfl, rfl, rfl, rfl, rfl, rfl, rfl, rfl, rfl, rfl, rfl, rfl, rfl, rfl, rfl, rfl, rfl, rfl, rfl, rfl, rfl, rfl, trivial⟩ r3
     try dsimp only [rPair] at hS
     refine then_n ?_
     replace hS := hS.ent (i := 13) (s' := .pv (.int .i64 ((i + 1 : Nat) : Int))) rfl (.int (wrap_succ (by omega)))
     obtain ⟨F, hS⟩ := hS.norm [(13, _), (8, _), (7, _), (1, _), (2, _), (6, _), (11, _), (12, _)] [(50, _), (0, _)] ⟨rfl, rfl, rfl, rfl, rfl, rfl, rfl, rfl, trivial⟩ ⟨rfl, rfl, trivial⟩
     exact ⟨((i + 1), _, _, _), F, ⟨by omega, (by rw [drop_nth hil] at hq; first | exact pp_TT hq hA hBq | exact pp_TF hq hA hBq | exact pp_FT hq hA hBq | exact pp_FF hq hA hBq)⟩, hS, by omega⟩
    ·skip
     have hBq : (Go.Gm.nth l i).key = k := by simpa using hc3
     refine wp_skip ?_
     refine block_n ?_
     refine then_n ?_
     refine region_seq hS (by kernel_rfl)
       (cF rfl (o_add .t (.ci (by kernel_rfl))) r1 trivial
       (cF rfl (o_move .t (by rfl)) r1 trivial
       Chain.nil))
       (by kernel_rfl) (by rw [hB]; kernel_rfl) ?_
     clear hS; intro a w F hS
     obtain ⟨F, hS⟩ := hS.norm [(1, _), (2, _), (6, _), (7, _), (8, _), (10, _), (11, _), (12, _), (13, _), (14, _), (15, _), (16, _), (17, _), (18, _), (19, _), (20, _), (21, _), (22, _), (23, _), (24, _), (31, _), (32, _), (33, _), (34, _), (39, _)] [(0, _), (50, _), (101, _)] ⟨rfl, rfl, rfl, rfl, rfl, rfl, rfl, rfl, rfl, rfl, rfl, rfl, rfl, rfl, rfl, rfl, rfl, rfl, rfl, rfl, rfl, rfl, rfl, rfl, rfl, trivial⟩ r3
     try dsimp only [rPair] at hS
     refine then_n ?_
     replace hS := hS.ent (i := 13) (s' := .pv (.int .i64 ((i + 1 : Nat) : Int))) rfl (.int (wrap_succ (by omega)))
     obtain ⟨F, hS⟩ := hS.norm [(13, _), (8, _), (7, _), (1, _), (2, _), (6, _), (11, _), (12, _)] [(50, _), (0, _)] ⟨rfl, rfl, rfl, rfl, rfl, rfl, rfl, rfl, trivial⟩ ⟨rfl, rfl, trivial⟩
     exact ⟨((i + 1), _, _, _), F, ⟨by omega, (by rw [drop_nth hil] at hq; first | exact pp_TT hq hA hBq | exact pp_TF hq hA hBq | exact pp_FT hq hA hBq | exact pp_FF hq hA hBq)⟩, hS, by omega⟩
  ·skip
   have hil : i = l.length := by simp at hc0; omega
   refine wp_exit ?_
   refine then_x ?_
   refine then_x ?_
   refine block_x ?_
   refine then_n ?_
   refine wp_seq ?_
   refine wp_seq ?_
   refine region_seq hS (by kernel_rfl)
     (cF rfl (o_move .t (by rfl)) r1 trivial
     (cF rfl (o_not .t) r1 trivial
     Chain.nil))
     (by kernel_rfl) (by rw [hB]; kernel_rfl) ?_
   clear hS; intro a w F hS
   obtain ⟨F, hS⟩ := hS.norm [(1, _), (2, _), (6, _), (7, _), (41, _)] [(0, _), (50, _)] r5 r2
   try dsimp only [rPair] at hS
   refine then_n ?_
   refine cond_b hS rfl (fun hc4 => ?_) (fun hc4 => ?_)
   ·skip
    have hfin : out ++ [⟨k, x⟩] = putP l k x := by rw [hil, List.drop_length] at hq; cases d with | true => simp at hc4 | false => exact hq
    refine region_seq hS (by kernel_rfl)
      (cF rfl (o_move .t (by rfl)) r1 trivial
      (cF rfl (o_move .t (by rfl)) r1 trivial
      (cF rfl (o_move .t (by rfl)) r1 trivial
      (cF rfl (o_build (r := [(0, .tmp 43), (1, .tmp 44)]) (zs := [.int .i64 0, .int .i64 0]) (pl := [(0, 1), (1, 1)]) (by kernel_rfl) (by kernel_rfl) (.one rfl .t one_int (by kernel_rfl) (.one rfl .t one_int (by kernel_rfl) .nil)) (by rfl)) r2 trivial
      (cF rfl (o_buildSliceE (sz := 2) (zs := [.int .i64 0, .int .i64 0]) (r := [(0, .tmp 45)]) (l := [_, _]) Try.underlying55 (by kernel_rfl) (by kernel_rfl) (by kernel_rfl) (by kernel_rfl) rfl rfl (.agg rfl .t (by kernel_rfl) (by kernel_rfl) .nil) rfl) r1 trivial
      (cF rfl (o_append (sz := 2) (bs := 16) 50 (.mk' Try.underlying55 (by kernel_rfl) (by kernel_rfl)) (by intro x; rfl) .is (.arr (l' := [(⟨k, x⟩ : PairD)]) .t) (by simp only [List.length_append, List.length_cons, List.length_nil]; omega) (by decide)) ⟨rfl, rfl, trivial⟩ ⟨rfl, trivial⟩
      (cF rfl (o_assign .t (by rfl)) r1 trivial
      Chain.nil)))))))
      (by kernel_rfl) (by rw [hB]; kernel_rfl) ?_
    clear hS; intro a w F hS
    replace hS := hS.sub
    obtain ⟨F, hS⟩ := hS.norm [(6, _), (7, _)] [(0, _), (50, _)] r2 r2
    try dsimp only [RS.sub, SF.sub, CF.sub, csub, Anc.sub, List.map, stCells, List.length_cons, List.length_nil, Nat.reduceAdd, List.drop_succ_cons, List.drop_zero, List.drop_nil, List.take_succ_cons, List.take_zero, List.take_nil, List.cons_append, List.nil_append, zCF, rPair] at hS
    generalize Act.tau a 47 = v47 at hS
    refine then_n ?_
    refine wp_seq ?_
    refine region_seq hS (by kernel_rfl)
      (cF rfl (o_move .t (by rfl)) r1 trivial
      (cF rfl (o_assign .t (by rfl)) r1 trivial
      Chain.nil))
      (by kernel_rfl) (by rw [hB]; kernel_rfl) ?_
    clear hS; intro a w F hS
    obtain ⟨F, hS⟩ := hS.norm [(6, _)] [(0, _), (50, _)] r1 r2
    try dsimp only [rPair] at hS
    refine then_n ?_
    refine wp_ret ?_
    obtain ⟨F, hS⟩ := hS.give 50 6 rfl rfl
    refine ret_P hfr hS rfl (.tmp rfl .nil) (.one (.sl hfin))
   ·skip
    have hfin : out = putP l k x := by rw [hil, List.drop_length] at hq; cases d with | false => simp at hc4 | true => simpa [putPR] using hq
    refine wp_skip ?_
    refine then_n ?_
    refine wp_seq ?_
    refine region_seq hS (by kernel_rfl)
      (cF rfl (o_move .t (by rfl)) r1 trivial
      (cF rfl (o_assign .t (by rfl)) r1 trivial
      Chain.nil))
      (by kernel_rfl) (by rw [hB]; kernel_rfl) ?_
    clear hS; intro a w F hS
    obtain ⟨F, hS⟩ := hS.norm [(6, _)] [(0, _), (50, _)] r1 r2
    try dsimp only [rPair] at hS
    refine then_n ?_
    refine wp_ret ?_
    obtain ⟨F, hS⟩ := hS.give 50 6 rfl rfl
    refine ret_P hfr hS rfl (.tmp rfl .nil) (.one (.sl hfin))

theorem del06_c (l : List PairD) (k : Int) (hl : l.length ≤ 1000000) : FnP Try.prog 56 [.sl rPair l, .int .i64 k] (.tup [.sl rPair (delP l k), .bool (hasP l k)]) := by
  refine FnP.mk Try.func56 rfl Try.ntmps56 rfl ?_
  intro B a w F hB hfr hS
  refine wp_seq ?_
  refine region_seq hS (by kernel_rfl)
    (cF rfl (o_assign (.c rfl) (by rfl)) trivial trivial
    (cF rfl (o_assign .cb (by rfl)) trivial trivial
    Chain.nil))
    (by kernel_rfl) (by rw [hB]; kernel_rfl) ?_
  clear hS; intro a w F hS
  obtain ⟨F, hS⟩ := hS.norm [(0, _), (1, _), (4, _), (5, _)] [(0, _)] r4 r1
  try dsimp only [rPair] at hS
  refine then_n ?_
  refine wp_seq ?_
  refine region_seq hS (by kernel_rfl)
    (cF rfl (o_assign (.c rfl) (by rfl)) trivial trivial
    Chain.nil)
    (by kernel_rfl) (by rw [hB]; kernel_rfl) ?_
  clear hS; intro a w F hS
  obtain ⟨F, hS⟩ := hS.norm [(0, _), (1, _), (4, _), (5, _), (6, _)] [(0, _)] r5 r1
  try dsimp only [rPair] at hS
  refine then_n ?_
  refine wp_seq ?_
  refine region_seq hS (by kernel_rfl)
    (cF rfl (o_assign .cb (by rfl)) trivial trivial
    Chain.nil)
    (by kernel_rfl) (by rw [hB]; kernel_rfl) ?_
  clear hS; intro a w F hS
  obtain ⟨F, hS⟩ := hS.norm [(0, _), (1, _), (4, _), (5, _), (6, _), (7, _)] [(0, _)] r6 r1
  try dsimp only [rPair] at hS
  refine then_n ?_
  refine wp_seq ?_
  refine wp_seq ?_
  refine region_seq hS (by kernel_rfl)
    (cF rfl (o_move .t (by rfl)) r1 trivial
    (cF rfl (o_len_sl Try.underlying55 .t) r1 trivial
    (cF rfl (o_move (.ci (by kernel_rfl)) (by rfl)) trivial trivial
    Chain.nil)))
    (by kernel_rfl) (by rw [hB]; kernel_rfl) ?_
  clear hS; intro a w F hS
  obtain ⟨F, hS⟩ := hS.norm [(1, _), (4, _), (5, _), (6, _), (7, _), (10, _), (11, _), (12, _)] [(0, _)] r8 r1
  try dsimp only [rPair] at hS
  refine then_n ?_
  refine wp_block ?_
  replace hS := hS.fresh 50 rfl
  replace hS := hS.turn 50 rfl (nilRow (T := 74) (sz := 2) (R := rPair))
  refine loop_keep (σ := (Nat) × (Value) × (List PairD)) [1, 4, 5, 10, 11] [0] (fun s => [(12, .pv (.int .i64 (s.1 : Int))), (7, .pv (.bool (hasP (l.take s.1) k))), (6, .pv (.is s.2.1))]) (fun s => [(50, .ob (.val s.2.1) (rowH 74 2 rPair s.2.2))]) (fun s => s.1 ≤ l.length ∧ (s.2.2 = delP (l.take s.1) k)) (fun s => l.length - s.1) ((0), (.slice none 0 0), ([])) hS ⟨rfl, rfl, rfl, rfl, rfl, rfl, rfl, rfl, trivial⟩ ⟨rfl, rfl, trivial⟩ ⟨Nat.zero_le _, rfl⟩ ?_
  clear hS; intro s a w F hC hS
  obtain ⟨i, v, out⟩ := s
  try dsimp only at hC
  obtain ⟨F, hS⟩ := hS.norm [(1, _), (4, _), (5, _), (6, _), (7, _), (10, _), (11, _), (12, _)] [(0, _), (50, _)] r8 r2
  try dsimp only at hS
  obtain ⟨hi, hq⟩ := hC
  have hol : out.length ≤ i := by rw [hq]; exact Nat.le_trans (List.length_filter_le _ _) (by rw [List.length_take]; omega)
  refine wp_seq ?_
  refine region_seq hS (by kernel_rfl)
    (cF rfl (o_lss .t .t) r2 trivial
    Chain.nil)
    (by kernel_rfl) (by rw [hB]; kernel_rfl) ?_
  clear hS; intro a w F hS
  obtain ⟨F, hS⟩ := hS.norm [(1, _), (4, _), (5, _), (6, _), (7, _), (10, _), (11, _), (12, _), (13, _)] [(0, _), (50, _)] ⟨rfl, rfl, rfl, rfl, rfl, rfl, rfl, rfl, rfl, trivial⟩ r2
  try dsimp only [rPair] at hS
  refine then_n ?_
  refine wp_seq ?_
  refine cond_b hS rfl (fun hc0 => ?_) (fun hc0 => ?_)
  ·skip
   have hil : i < l.length := by simp at hc0; omega
   refine wp_skip ?_
   refine then_n ?_
   refine wp_seq ?_
   refine wp_block ?_
   refine wp_seq ?_
   refine region_seq hS (by kernel_rfl)
     (cF rfl (o_indexAddr_sl (sz := 2) (.mk Try.underlying55 (by kernel_rfl)) (by intro x; rfl) .t .t (by first | assumption | omega) (by first | assumption | omega)) r2 trivial
     (cF rfl (o_load_ref (ag := true) (sz := 2) .t (by kernel_rfl) (by kernel_rfl) (by kernel_rfl)) r1 trivial
     (cF rfl (o_alloc (zs := [.int .i64 0, .int .i64 0]) 101 (by kernel_rfl)) trivial trivial
     (cF rfl (o_storeA (sz := 2) 101 .same .t (by kernel_rfl) (by kernel_rfl) (by kernel_rfl)) r2 r1
     Chain.nil))))
     (by kernel_rfl) (by rw [hB]; kernel_rfl) ?_
   clear hS; intro a w F hS
   replace hS := hS.sub
   obtain ⟨F, hS⟩ := hS.norm [(1, _), (4, _), (5, _), (6, _), (7, _), (9, _), (10, _), (11, _), (12, _), (13, _), (14, _), (15, _)] [(0, _), (50, _), (101, _)] ⟨rfl, rfl, rfl, rfl, rfl, rfl, rfl, rfl, rfl, rfl, rfl, rfl, trivial⟩ r3
   try dsimp only [RS.sub, SF.sub, CF.sub, csub, Anc.sub, List.map, stCells, List.length_cons, List.length_nil, Nat.reduceAdd, List.drop_succ_cons, List.drop_zero, List.drop_nil, List.take_succ_cons, List.take_zero, List.take_nil, List.cons_append, List.nil_append, zCF, ldSF, rPair] at hS
   generalize Act.tau a 9 = v9 at hS
   try simp only [Int.toNat_natCast] at hS
   refine then_n ?_
   refine wp_seq ?_
   refine region_seq hS (by kernel_rfl)
     (cF rfl (o_fieldAddr (off := 0) 101 .is (by kernel_rfl) (by rfl)) r1 r1
     (cF rfl (o_load (ag := false) (sz := 1) 101 .adr (by kernel_rfl) (by kernel_rfl) (by kernel_rfl) (by rfl)) r1 r1
     (cF rfl (o_move .t (by rfl)) r1 trivial
     (cF rfl (o_eql .t .t) r2 trivial
     Chain.nil))))
     (by kernel_rfl) (by rw [hB]; kernel_rfl) ?_
   clear hS; intro a w F hS
   obtain ⟨F, hS⟩ := hS.norm [(1, _), (4, _), (5, _), (6, _), (7, _), (9, _), (10, _), (11, _), (12, _), (13, _), (14, _), (15, _), (16, _), (17, _), (18, _), (19, _)] [(0, _), (50, _), (101, _)] ⟨rfl, rfl, rfl, rfl, rfl, rfl, rfl, rfl, rfl, rfl, rfl, rfl, rfl, rfl, rfl, rfl, trivial⟩ r3
   try dsimp only [List.map, List.drop_succ_cons, List.drop_zero, List.drop_nil, List.take_succ_cons, List.take_zero, List.take_nil, ldSF, rPair] at hS
   refine then_n ?_
   refine cond_b hS rfl (fun hc1 => ?_) (fun hc1 => ?_)
   ·skip
    have hBq : (Go.Gm.nth l i).key = k := by simpa using hc1
    refine region_seq hS (by kernel_rfl)
      (cF rfl (o_assign .cb (by rfl)) trivial trivial
      Chain.nil)
      (by kernel_rfl) (by rw [hB]; kernel_rfl) ?_
    clear hS; intro a w F hS
    obtain ⟨F, hS⟩ := hS.norm [(1, _), (4, _), (5, _), (6, _), (7, _), (9, _), (10, _), (11, _), (12, _), (13, _), (14, _), (15, _), (16, _), (17, _), (18, _), (19, _)] [(0, _), (50, _), (101, _)] ⟨rfl, rfl, rfl, rfl, rfl, rfl, rfl, rfl, rfl, rfl, rfl, rfl, rfl, rfl, rfl, rfl, trivial⟩ r3
    try dsimp only [rPair] at hS
    refine block_n ?_
    refine then_n ?_
    refine region_seq hS (by kernel_rfl)
      (cF rfl (o_add .t (.ci (by kernel_rfl))) r1 trivial
      (cF rfl (o_move .t (by rfl)) r1 trivial
      Chain.nil))
      (by kernel_rfl) (by rw [hB]; kernel_rfl) ?_
    clear hS; intro a w F hS
    obtain ⟨F, hS⟩ := hS.norm [(1, _), (4, _), (5, _), (6, _), (7, _), (9, _), (10, _), (11, _), (12, _), (13, _), (14, _), (15, _), (16, _), (17, _), (18, _), (19, _), (24, _)] [(0, _), (50, _), (101, _)] ⟨rfl, rfl, rfl, rfl, rfl, rfl, rfl, rfl, rfl, rfl, rfl, rfl, rfl, rfl, rfl, rfl, rfl, trivial⟩ r3
    try dsimp only [rPair] at hS
    refine then_n ?_
    replace hS := hS.ent (i := 12) (s' := .pv (.int .i64 ((i + 1 : Nat) : Int))) rfl (.int (wrap_succ (by omega)))
    replace hS := hS.ent (i := 7) (s' := .pv (.bool (hasP (l.take (i + 1)) k))) rfl (.bool (by unfold hasP; rw [take_nth hil, List.any_append]; simp [hBq]))
    obtain ⟨F, hS⟩ := hS.norm [(12, _), (7, _), (6, _), (1, _), (4, _), (5, _), (10, _), (11, _)] [(50, _), (0, _)] ⟨rfl, rfl, rfl, rfl, rfl, rfl, rfl, rfl, trivial⟩ ⟨rfl, rfl, trivial⟩
    exact ⟨((i + 1), _, _), F, ⟨by omega, (by unfold delP at hq ⊢; rw [take_nth hil, List.filter_append, ← hq]; simp [hBq])⟩, hS, by omega⟩
   ·skip
    have hBq : ¬ (Go.Gm.nth l i).key = k := by simpa using hc1
    refine region_seq hS (by kernel_rfl)
      (cF rfl (o_move .t (by rfl)) r1 trivial
      (cF rfl (o_load (ag := true) (sz := 2) 101 .is (by kernel_rfl) (by kernel_rfl) (by kernel_rfl) (by rfl)) r1 r1
      (cF rfl (o_buildSliceE (sz := 2) (zs := [.int .i64 0, .int .i64 0]) (r := [(0, .tmp 21)]) (l := [_, _]) Try.underlying55 (by kernel_rfl) (by kernel_rfl) (by kernel_rfl) (by kernel_rfl) rfl rfl (.agg rfl .t (by kernel_rfl) (by kernel_rfl) .nil) rfl) r1 trivial
      (cF rfl (o_append (sz := 2) (bs := 16) 50 (.mk' Try.underlying55 (by kernel_rfl) (by kernel_rfl)) (by intro x; rfl) .is (.arr (l' := [_]) .t) (by simp only [List.length_append, List.length_cons, List.length_nil]; omega) (by decide)) ⟨rfl, rfl, trivial⟩ ⟨rfl, trivial⟩
      (cF rfl (o_assign .t (by rfl)) r1 trivial
      Chain.nil)))))
      (by kernel_rfl) (by rw [hB]; kernel_rfl) ?_
    clear hS; intro a w F hS
    replace hS := hS.sub
    obtain ⟨F, hS⟩ := hS.norm [(1, _), (4, _), (5, _), (6, _), (7, _), (9, _), (10, _), (11, _), (12, _), (13, _), (14, _), (15, _), (16, _), (17, _), (18, _), (19, _), (20, _), (21, _), (22, _), (23, _)] [(0, _), (50, _), (101, _)] ⟨rfl, rfl, rfl, rfl, rfl, rfl, rfl, rfl, rfl, rfl, rfl, rfl, rfl, rfl, rfl, rfl, rfl, rfl, rfl, rfl, trivial⟩ r3
    try dsimp only [RS.sub, SF.sub, CF.sub, csub, Anc.sub, List.map, stCells, List.length_cons, List.length_nil, Nat.reduceAdd, List.drop_succ_cons, List.drop_zero, List.drop_nil, List.take_succ_cons, List.take_zero, List.take_nil, List.cons_append, List.nil_append, zCF, ldSF, rPair] at hS
    generalize Act.tau a 23 = v23 at hS
    refine block_n ?_
    refine then_n ?_
    refine region_seq hS (by kernel_rfl)
      (cF rfl (o_add .t (.ci (by kernel_rfl))) r1 trivial
      (cF rfl (o_move .t (by rfl)) r1 trivial
      Chain.nil))
      (by kernel_rfl) (by rw [hB]; kernel_rfl) ?_
    clear hS; intro a w F hS
    obtain ⟨F, hS⟩ := hS.norm [(1, _), (4, _), (5, _), (6, _), (7, _), (9, _), (10, _), (11, _), (12, _), (13, _), (14, _), (15, _), (16, _), (17, _), (18, _), (19, _), (20, _), (21, _), (22, _), (23, _), (24, _)] [(0, _), (50, _), (101, _)] ⟨rfl, rfl, rfl, rfl, rfl, rfl, rfl, rfl, rfl, rfl, rfl, rfl, rfl, rfl, rfl, rfl, rfl, rfl, rfl, rfl, rfl, trivial⟩ r3
    try dsimp only [rPair] at hS
    refine then_n ?_
    replace hS := hS.ent (i := 12) (s' := .pv (.int .i64 ((i + 1 : Nat) : Int))) rfl (.int (wrap_succ (by omega)))
    replace hS := hS.ent (i := 7) (s' := .pv (.bool (hasP (l.take (i + 1)) k))) rfl (.bool (by unfold hasP; rw [take_nth hil, List.any_append]; simp [hBq]))
    obtain ⟨F, hS⟩ := hS.norm [(12, _), (7, _), (6, _), (1, _), (4, _), (5, _), (10, _), (11, _)] [(50, _), (0, _)] ⟨rfl, rfl, rfl, rfl, rfl, rfl, rfl, rfl, trivial⟩ ⟨rfl, rfl, trivial⟩
    exact ⟨((i + 1), _, _), F, ⟨by omega, (by unfold delP at hq ⊢; rw [take_nth hil, List.filter_append, ← hq]; simp [hBq])⟩, hS, by omega⟩
  ·skip
   have hil : i = l.length := by simp at hc0; omega
   refine wp_exit ?_
   refine then_x ?_
   refine then_x ?_
   refine block_x ?_
   refine then_n ?_
   refine wp_seq ?_
   refine region_seq hS (by kernel_rfl)
     (cF rfl (o_move .t (by rfl)) r1 trivial
     (cF rfl (o_move .t (by rfl)) r1 trivial
     (cF rfl (o_assign .t (by rfl)) r1 trivial
     (cF rfl (o_assign .t (by rfl)) r1 trivial
     Chain.nil))))
     (by kernel_rfl) (by rw [hB]; kernel_rfl) ?_
   clear hS; intro a w F hS
   obtain ⟨F, hS⟩ := hS.norm [(4, _), (5, _)] [(0, _), (50, _)] r2 r2
   try dsimp only [rPair] at hS
   refine then_n ?_
   refine wp_ret ?_
   obtain ⟨F, hS⟩ := hS.give 50 4 rfl rfl
   refine ret_P hfr hS rfl (.tmp rfl (.tmp rfl .nil)) (.two (.sl (by rw [hq, hil, List.take_length])) (.bool (by rw [hil, List.take_length])))

theorem same06_c (x y : List PairD) : FnP Try.prog 28 [.sl rPair x, .sl rPair y] (.bool (decide (x = y))) := by
  refine FnP.mk Try.func28 rfl Try.ntmps28 rfl ?_
  intro B a w F hB hfr hS
  have hxl := Sat.lenSl hS (i := 0) rfl
  refine wp_seq ?_
  refine region_seq hS (by kernel_rfl)
    (cF rfl (o_assign .cb (by rfl)) trivial trivial
    Chain.nil)
    (by kernel_rfl) (by rw [hB]; kernel_rfl) ?_
  clear hS; intro a w F hS
  obtain ⟨F, hS⟩ := hS.norm [(0, _), (1, _), (4, _)] [(0, _)] r3 r1
  refine then_n ?_
  refine wp_seq ?_
  refine wp_seq ?_
  refine region_seq hS (by kernel_rfl)
    (cF rfl (o_move .t (by rfl)) r1 trivial
    (cF rfl (o_len_sl Try.underlying55 .t) r1 trivial
    (cF rfl (o_move .t (by rfl)) r1 trivial
    (cF rfl (o_len_sl Try.underlying55 .t) r1 trivial
    (cF rfl (o_neq .t .t) r2 trivial
    Chain.nil)))))
    (by kernel_rfl) (by rw [hB]; kernel_rfl) ?_
  clear hS; intro a w F hS
  obtain ⟨F, hS⟩ := hS.norm [(0, _), (1, _), (4, _), (10, _)] [(0, _)] r4 r1
  refine then_n ?_
  refine cond_b hS rfl (fun hc0 => ?_) (fun hc0 => ?_)
  ·skip
   have hg : false = decide (x = y) := by
     rw [eq_comm, decide_eq_false_iff_not]
     intro h
     subst h
     simp at hc0
   refine wp_seq ?_
   refine region_seq hS (by kernel_rfl)
     (cF rfl (o_assign .cb (by rfl)) trivial trivial
     Chain.nil)
     (by kernel_rfl) (by rw [hB]; kernel_rfl) ?_
   clear hS; intro a w F hS
   obtain ⟨F, hS⟩ := hS.norm [(0, _), (1, _), (4, _)] [(0, _)] r3 r1
   refine then_n ?_
   refine wp_ret ?_
   refine then_r ?_
   refine ret_P hfr hS rfl (.tmp rfl .nil) (.one (.bool hg))
  ·skip
   have hl : x.length = y.length := by simp at hc0; omega
   refine wp_skip ?_
   refine then_n ?_
   refine wp_seq ?_
   refine wp_seq ?_
   refine region_seq hS (by kernel_rfl)
     (cF rfl (o_move .t (by rfl)) r1 trivial
     (cF rfl (o_len_sl Try.underlying55 .t) r1 trivial
     (cF rfl (o_move (.ci (by kernel_rfl)) (by rfl)) trivial trivial
     Chain.nil)))
     (by kernel_rfl) (by rw [hB]; kernel_rfl) ?_
   clear hS; intro a w F hS
   obtain ⟨F, hS⟩ := hS.norm [(0, _), (1, _), (4, _), (12, _), (13, _)] [(0, _)] r5 r1
   refine then_n ?_
   refine wp_block ?_
   obtain ⟨F, hS⟩ := hS.norm [(0, _), (1, _), (12, _), (13, _)] [(0, _)] r4 r1
   refine loop_inv (σ := Nat) (fun s => (⟨[(0, .pv (.sl rPair x)), (1, .pv (.sl rPair y)), (12, .pv (.int .i64 x.length)), (13, .pv (.int .i64 s))], [(0, frame B)]⟩ : En)) (fun s => s ≤ x.length ∧ ∀ j, j < s → Go.Gm.nth x j = Go.Gm.nth y j) (fun s => x.length - s) 0 hS ⟨Nat.zero_le _, fun j hj => absurd hj (Nat.not_lt_zero j)⟩ ?_
   clear hS; intro i a w F hC hS
   try dsimp only at hC
   try dsimp only at hS
   obtain ⟨hi, hq⟩ := hC
   refine wp_seq ?_
   refine region_seq hS (by kernel_rfl)
     (cF rfl (o_lss .t .t) r2 trivial
     Chain.nil)
     (by kernel_rfl) (by rw [hB]; kernel_rfl) ?_
   clear hS; intro a w F hS
   obtain ⟨F, hS⟩ := hS.norm [(0, _), (1, _), (12, _), (13, _), (14, _)] [(0, _)] r5 r1
   refine then_n ?_
   refine wp_seq ?_
   refine cond_b hS rfl (fun hc1 => ?_) (fun hc1 => ?_)
   ·skip
    have hil : i < x.length := by simp at hc1; omega
    refine wp_skip ?_
    refine then_n ?_
    refine wp_seq ?_
    refine wp_block ?_
    refine wp_seq ?_
    refine region_seq hS (by kernel_rfl)
      (cF rfl (o_move .t (by rfl)) r1 trivial
      (cF rfl (o_assign .t (by rfl)) r1 trivial
      Chain.nil))
      (by kernel_rfl) (by rw [hB]; kernel_rfl) ?_
    clear hS; intro a w F hS
    obtain ⟨F, hS⟩ := hS.norm [(0, _), (1, _), (5, _), (12, _), (13, _), (14, _), (15, _)] [(0, _)] r7 r1
    refine then_n ?_
    refine wp_seq ?_
    refine region_any (by kernel_rfl) hS (by kernel_rfl)
      (cF rfl (o_move .t (by rfl)) r1 trivial
      (cF rfl (o_move .t (by rfl)) r1 trivial
      (cF rfl (o_indexAddr_sl (sz := 2) (.mk Try.underlying55 (by kernel_rfl)) (by intro x; rfl) .t .t (by omega) (by omega)) r2 trivial
      (cF rfl (o_load_ref (ag := true) (sz := 2) .t (by kernel_rfl) (by kernel_rfl) (by kernel_rfl)) r1 trivial
      (cF rfl (o_move .t (by rfl)) r1 trivial
      (cF rfl (o_move .t (by rfl)) r1 trivial
      (cF rfl (o_indexAddr_sl (sz := 2) (.mk Try.underlying55 (by kernel_rfl)) (by intro x; rfl) .t .t (by omega) (by omega)) r2 trivial
      (cF rfl (o_load_ref (ag := true) (sz := 2) .t (by kernel_rfl) (by kernel_rfl) (by kernel_rfl)) r1 trivial
      (cF rfl (o_neqS (ks := [true, true]) (by kernel_rfl) .t .t (.int (.int .nil))) r2 trivial
      Chain.nil)))))))))
      (by kernel_rfl) (by rw [hB]; kernel_rfl) ?_
    clear hS; intro a w F hS
    obtain ⟨F, hS⟩ := hS.norm [(0, _), (1, _), (5, _), (12, _), (13, _), (14, _), (15, _), (16, _), (17, _), (18, _), (19, _), (20, _), (21, _), (22, _), (23, _), (24, _)] [(0, _)] ⟨rfl, rfl, rfl, rfl, rfl, rfl, rfl, rfl, rfl, rfl, rfl, rfl, rfl, rfl, rfl, rfl, trivial⟩ r1
    try dsimp only [List.map, List.drop_succ_cons, List.drop_zero, List.drop_nil, List.take_succ_cons, List.take_zero, List.take_nil, ldSF] at hS
    refine then_n ?_
    refine cond_b hS rfl (fun hc2 => ?_) (fun hc2 => ?_)
    ·skip
     have hg : false = decide (x = y) := by
       rw [eq_comm, decide_eq_false_iff_not]
       intro h
       subst h
       simp at hc2
     refine wp_seq ?_
     refine region_seq hS (by kernel_rfl)
       (cF rfl (o_assign .cb (by rfl)) trivial trivial
       Chain.nil)
       (by kernel_rfl) (by rw [hB]; kernel_rfl) ?_
     clear hS; intro a w F hS
     obtain ⟨F, hS⟩ := hS.norm [(0, _), (1, _), (4, _), (5, _), (12, _), (13, _), (14, _), (15, _), (16, _), (17, _), (18, _), (19, _), (20, _), (21, _), (22, _), (23, _), (24, _)] [(0, _)] ⟨rfl, rfl, rfl, rfl, rfl, rfl, rfl, rfl, rfl, rfl, rfl, rfl, rfl, rfl, rfl, rfl, rfl, trivial⟩ r1
     refine then_n ?_
     refine wp_ret ?_
     refine block_r ?_
     refine then_r ?_
     refine then_r ?_
     refine block_r ?_
     refine then_r ?_
     refine ret_P hfr hS rfl (.tmp rfl .nil) (.one (.bool hg))
    ·skip
     rw [Int.toNat_natCast] at hc2
     have hqi : Go.Gm.nth x i = Go.Gm.nth y i := pairD_eq hc2
     refine wp_skip ?_
     refine block_n ?_
     refine then_n ?_
     refine region_seq hS (by kernel_rfl)
       (cF rfl (o_add .t (.ci (by kernel_rfl))) r1 trivial
       (cF rfl (o_move .t (by rfl)) r1 trivial
       Chain.nil))
       (by kernel_rfl) (by rw [hB]; kernel_rfl) ?_
     clear hS; intro a w F hS
     obtain ⟨F, hS⟩ := hS.norm [(0, _), (1, _), (5, _), (12, _), (13, _), (14, _), (15, _), (16, _), (17, _), (18, _), (19, _), (20, _), (21, _), (22, _), (23, _), (24, _), (25, _)] [(0, _)] ⟨rfl, rfl, rfl, rfl, rfl, rfl, rfl, rfl, rfl, rfl, rfl, rfl, rfl, rfl, rfl, rfl, rfl, trivial⟩ r1
     refine then_n ?_
     replace hS := hS.ent (i := 13) (s' := .pv (.int .i64 ((i + 1 : Nat) : Int))) rfl (.int (wrap_succ (by omega)))
     obtain ⟨F, hS⟩ := hS.norm [(0, _), (1, _), (12, _), (13, _)] [(0, _)] r4 r1
     exact ⟨i + 1, F, ⟨by omega, fun j hj => by rcases Nat.lt_or_eq_of_le (Nat.le_of_lt_succ hj) with h | h; exact hq j h; rw [h]; exact hqi⟩, hS, by omega⟩
   ·skip
    have hg : true = decide (x = y) := by
      rw [eq_comm, decide_eq_true_eq]
      exact list_same hl fun j hj => hq j (by simp at hc1; omega)
    refine wp_exit ?_
    refine then_x ?_
    refine then_x ?_
    refine block_x ?_
    refine then_n ?_
    refine wp_seq ?_
    refine region_seq hS (by kernel_rfl)
      (cF rfl (o_assign .cb (by rfl)) trivial trivial
      Chain.nil)
      (by kernel_rfl) (by rw [hB]; kernel_rfl) ?_
    clear hS; intro a w F hS
    obtain ⟨F, hS⟩ := hS.norm [(4, _)] [(0, _)] r1 r1
    refine then_n ?_
    refine wp_ret ?_
    refine ret_P hfr hS rfl (.tmp rfl .nil) (.one (.bool hg))

end Go.Proofs.Ytdfpljecogijaaa
