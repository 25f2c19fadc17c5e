/- Answers that are told. No condition beyond those that each theorem says. -/
import Derived.Test.YtjdcnjemhjldoaaDoorCm6
import Derived.Test.YtjdcnjemhjldoaaDoorNuT
namespace Go.Proofs.YtjdcnjemhjldoaaDoor
open Go Go.Gm
set_option linter.unusedVariables false
set_option linter.unusedSimpArgs false
set_option maxHeartbeats 4000000
set_option maxRecDepth 8000


theorem refTxText_c (t : TxD) (ht : t.ops.length ≤ 1000000) : FnP Tryd.prog 33 [.agg (rTx t)] (.bs (textT t)) := by
  refine FnP.mk Tryd.func33 rfl Tryd.ntmps33 rfl ?_
  intro B a w F hB hfr hS
  have hid := range_i64 (Sat.aggInt hS (i := 0) (k := 0) rfl rfl)
  have htl := textL_len hid
  have hhl : (headT t).length ≤ 23 := by unfold headT; rw [List.length_append]; split <;> simp only [List.length_cons, List.length_nil] <;> omega
  refine wp_seq ?_
  refine region_seq hS (by kernel_rfl)
    (cF rfl (o_boxA 101 (.conv .t .agg) (by kernel_rfl)) r1 trivial
    (cF rfl (o_assign (.cs (by kernel_rfl)) (by rfl)) trivial trivial
    Chain.nil))
    (by kernel_rfl) (by rw [hB]; kernel_rfl) ?_
  clear hS; intro a w F hS
  replace hS := hS.sub
  obtain ⟨F, hS⟩ := hS.norm [(1, _), (2, _)] [(0, _), (101, _)] r2 r2
  try dsimp only [RS.sub, SF.sub, CF.sub, csub, Anc.sub, List.map, zCF] at hS
  generalize Act.tau a 1 = v1 at hS
  refine then_n ?_
  refine wp_seq ?_
  refine region_seq hS (by kernel_rfl)
    (cF rfl (o_fieldAddr (off := 0) 101 .is (by kernel_rfl) (by rfl)) r1 r1
    (cF rfl (o_load (ag := false) (sz := 1) 101 .adr (by kernel_rfl) (by kernel_rfl) (by kernel_rfl) (by rfl)) r1 r1
    (cF rfl (o_callP (refText_c t.id) Tryd.func31 rfl (by kernel_rfl) (Args.one .t)) r1 trivial
    (cF rfl (o_add_bs .t (.cs (by kernel_rfl)) (by simp only [List.length_cons, List.length_nil]; omega)) r1 trivial
    (cF rfl (o_assign .t (by rfl)) r1 trivial
    Chain.nil)))))
    (by kernel_rfl) (by rw [hB]; kernel_rfl) ?_
  clear hS; intro a w F hS
  obtain ⟨F, hS⟩ := hS.norm [(1, _), (2, _), (3, _)] [(0, _), (101, _)] r3 r2
  try dsimp only [List.map, List.drop_succ_cons, List.drop_zero, List.drop_nil, List.take_succ_cons, List.take_zero, List.take_nil, ldSF] at hS
  refine then_n ?_
  refine wp_seq ?_
  refine wp_seq ?_
  refine region_seq hS (by kernel_rfl)
    (cF rfl (o_fieldAddr (off := 1) 101 .is (by kernel_rfl) (by rfl)) r1 r1
    (cF rfl (o_load (ag := false) (sz := 1) 101 .adr (by kernel_rfl) (by kernel_rfl) (by kernel_rfl) (by rfl)) r1 r1
    Chain.nil))
    (by kernel_rfl) (by rw [hB]; kernel_rfl) ?_
  clear hS; intro a w F hS
  obtain ⟨F, hS⟩ := hS.norm [(1, _), (2, _), (3, _), (11, _)] [(0, _), (101, _)] r4 r2
  try dsimp only [List.map, List.drop_succ_cons, List.drop_zero, List.drop_nil, List.take_succ_cons, List.take_zero, List.take_nil, ldSF] at hS
  refine then_n ?_
  refine cond_b hS rfl (fun hc0 => ?_) (fun hc0 => ?_)
  ·skip
   have hdn : t.done = true := hc0
   refine region_seq hS (by kernel_rfl)
     (cF rfl (o_fieldAddr (off := 0) 101 .is (by kernel_rfl) (by rfl)) r1 r1
     (cF rfl (o_load (ag := false) (sz := 1) 101 .adr (by kernel_rfl) (by kernel_rfl) (by kernel_rfl) (by rfl)) r1 r1
     (cF rfl (o_callP (refText_c t.id) Tryd.func31 rfl (by kernel_rfl) (Args.one .t)) r1 trivial
     (cF rfl (o_add_bs .t (.cs (by kernel_rfl)) (by simp only [List.length_cons, List.length_nil]; omega)) r1 trivial
     (cF rfl (o_assign .t (by rfl)) r1 trivial
     Chain.nil)))))
     (by kernel_rfl) (by rw [hB]; kernel_rfl) ?_
   clear hS; intro a w F hS
   obtain ⟨F, hS⟩ := hS.norm [(1, _), (2, _), (3, _)] [(0, _), (101, _)] r3 r2
   try dsimp only [List.map, List.drop_succ_cons, List.drop_zero, List.drop_nil, List.take_succ_cons, List.take_zero, List.take_nil, ldSF] at hS
   refine then_n ?_
   refine wp_seq ?_
   refine wp_seq ?_
   refine region_seq hS (by kernel_rfl)
     (cF rfl (o_fieldAddr (off := 2) 101 .is (by kernel_rfl) (by rfl)) r1 r1
     (cF rfl (o_load (ag := false) (sz := 1) 101 .adr (by kernel_rfl) (by kernel_rfl) (by kernel_rfl) (by rfl)) r1 r1
     (cF rfl (o_len_sl Tryd.underlying24 .t) r1 trivial
     (cF rfl (o_move (.ci (by kernel_rfl)) (by rfl)) trivial trivial
     Chain.nil))))
     (by kernel_rfl) (by rw [hB]; kernel_rfl) ?_
   clear hS; intro a w F hS
   obtain ⟨F, hS⟩ := hS.norm [(2, _), (3, _), (17, _), (18, _), (19, _)] [(0, _), (101, _)] r5 r2
   try dsimp only [List.map, List.drop_succ_cons, List.drop_zero, List.drop_nil, List.take_succ_cons, List.take_zero, List.take_nil, ldSF] at hS
   refine then_n ?_
   refine wp_block ?_
   replace hS := hS.ent (i := 3) (s' := .pv (.bs (headT t ++ opsT (t.ops.take 0)))) rfl (.bs (by unfold headT opsT; rw [hdn]; simp))
   obtain ⟨F, hS⟩ := hS.norm [(3, _), (17, _), (18, _), (19, _)] [(0, _)] r4 r1
   refine loop_inv (σ := Nat) (fun s => (⟨[(3, .pv (.bs (headT t ++ opsT (t.ops.take s)))), (17, .pv (.sl rOp t.ops)), (18, .pv (.int .i64 (t.ops.length : Nat))), (19, .pv (.int .i64 (s : Nat)))], [(0, frame B)]⟩ : En)) (fun s => s ≤ t.ops.length) (fun s => t.ops.length - s) 0 hS (Nat.zero_le _) ?_
   clear hS; intro i a w F hC hS
   try dsimp only at hC
   try dsimp only at hS
   have hi0 := hC
   have hct : (opsT (t.ops.take i)).length ≤ 101 * i := Nat.le_trans (opsT_len _) (by rw [List.length_take]; omega)
   refine wp_seq ?_
   refine region_seq hS (by kernel_rfl)
     (cF rfl (o_lss .t .t) r2 trivial
     Chain.nil)
     (by kernel_rfl) (by rw [hB]; kernel_rfl) ?_
   clear hS; intro a w F hS
   obtain ⟨F, hS⟩ := hS.norm [(3, _), (17, _), (18, _), (19, _), (20, _)] [(0, _)] r5 r1
   refine then_n ?_
   refine wp_seq ?_
   refine cond_b hS rfl (fun hc1 => ?_) (fun hc1 => ?_)
   ·skip
    have hi : i < t.ops.length := by have h9 := of_decide_eq_true hc1; omega
    have hto : (textO (nth t.ops i)).length ≤ 100 := textO_small _
    refine wp_skip ?_
    refine then_n ?_
    refine wp_seq ?_
    refine wp_block ?_
    refine wp_seq ?_
    refine region_seq hS (by kernel_rfl)
      (cF rfl (o_indexAddr_sl (sz := 4) (.mk Tryd.underlying24 (by kernel_rfl)) (by intro x; rfl) .t .t (by omega) (by omega)) r2 trivial
      (cF rfl (o_load_ref (ag := true) (sz := 4) .t (by kernel_rfl) (by kernel_rfl) (by kernel_rfl)) r1 trivial
      (cF rfl (o_alloc (zs := [.bool false, .int .i64 0, .int .i64 0, .int .i64 0]) 102 (by kernel_rfl)) trivial trivial
      (cF rfl (o_storeA (sz := 4) 102 .same .t (by kernel_rfl) (by kernel_rfl) (by kernel_rfl)) r2 r1
      Chain.nil))))
      (by kernel_rfl) (by rw [hB]; kernel_rfl) ?_
    clear hS; intro a w F hS
    replace hS := hS.sub
    obtain ⟨F, hS⟩ := hS.norm [(3, _), (5, _), (17, _), (18, _), (19, _), (20, _), (21, _), (22, _)] [(0, _), (102, _)] r8 r2
    try dsimp only [RS.sub, SF.sub, CF.sub, csub, Anc.sub, List.map, stCells, List.length_cons, List.length_nil, Nat.reduceAdd, List.drop_succ_cons, List.drop_zero, List.drop_nil, List.take_succ_cons, List.take_zero, List.take_nil, List.cons_append, List.nil_append, zCF, ldSF] at hS
    generalize Act.tau a 5 = v5 at hS
    rw [Int.toNat_natCast] at hS
    refine then_n ?_
    refine region_seq hS (by kernel_rfl)
      (cF rfl (o_move .t (by rfl)) r1 trivial
      (cF rfl (o_load (ag := true) (sz := 4) 102 .is (by kernel_rfl) (by kernel_rfl) (by kernel_rfl) (by rfl)) r1 r1
      (cF rfl (o_callP (refOpText_c (nth t.ops i)) Tryd.func15 rfl (by kernel_rfl) (Args.one (.pagg .t))) r1 trivial
      (cF rfl (o_add_bs (.cs (by kernel_rfl)) .t (by simp only [List.length_cons, List.length_nil]; omega)) r1 trivial
      (cF rfl (o_add_bs .t .t (by rw [List.length_append]; simp only [List.length_append, List.length_cons, List.length_nil]; omega)) r2 trivial
      (cF rfl (o_assign .t (by rfl)) r1 trivial
      Chain.nil))))))
      (by kernel_rfl) (by rw [hB]; kernel_rfl) ?_
    clear hS; intro a w F hS
    obtain ⟨F, hS⟩ := hS.norm [(3, _), (5, _), (17, _), (18, _), (19, _), (20, _), (21, _), (22, _), (23, _), (24, _), (25, _), (26, _), (27, _)] [(0, _), (102, _)] ⟨rfl, rfl, rfl, rfl, rfl, rfl, rfl, rfl, rfl, rfl, rfl, rfl, rfl, trivial⟩ r2
    try dsimp only [List.map, List.drop_succ_cons, List.drop_zero, List.drop_nil, List.take_succ_cons, List.take_zero, List.take_nil, ldSF] at hS
    refine block_n ?_
    refine then_n ?_
    refine region_seq hS (by kernel_rfl)
      (cF rfl (o_add .t (.ci (by kernel_rfl))) r1 trivial
      (cF rfl (o_move .t (by rfl)) r1 trivial
      Chain.nil))
      (by kernel_rfl) (by rw [hB]; kernel_rfl) ?_
    clear hS; intro a w F hS
    obtain ⟨F, hS⟩ := hS.norm [(3, _), (5, _), (17, _), (18, _), (19, _), (20, _), (21, _), (22, _), (23, _), (24, _), (25, _), (26, _), (27, _), (28, _)] [(0, _), (102, _)] ⟨rfl, rfl, rfl, rfl, rfl, rfl, rfl, rfl, rfl, rfl, rfl, rfl, rfl, rfl, trivial⟩ r2
    refine then_n ?_
    replace hS := hS.ent (i := 19) (s' := .pv (.int .i64 ((i + 1 : Nat) : Int))) rfl (.int (wrap_succ (by omega)))
    replace hS := hS.ent (i := 3) (s' := .pv (.bs (headT t ++ opsT (t.ops.take (i + 1))))) rfl (.bs (by rw [opsT_next hi]; simp))
    obtain ⟨F, hS⟩ := hS.norm [(3, _), (17, _), (18, _), (19, _)] [(0, _)] r4 r1
    exact ⟨i + 1, F, (by omega), hS, by omega⟩
   ·skip
    have hil : i = t.ops.length := by have h9 := of_decide_eq_false hc1; omega
    rw [hil, List.take_length] at hS
    refine wp_exit ?_
    refine then_x ?_
    refine then_x ?_
    refine block_x ?_
    refine then_n ?_
    refine wp_seq ?_
    refine region_seq hS (by kernel_rfl)
      (cF rfl (o_move .t (by rfl)) r1 trivial
      (cF rfl (o_assign .t (by rfl)) r1 trivial
      Chain.nil))
      (by kernel_rfl) (by rw [hB]; kernel_rfl) ?_
    clear hS; intro a w F hS
    obtain ⟨F, hS⟩ := hS.norm [(2, _)] [(0, _)] r1 r1
    refine then_n ?_
    refine wp_ret ?_
    refine ret_P hfr hS rfl (.tmp rfl .nil) (.one (.bs (by unfold textT; rfl)))
  ·skip
   have hdn : t.done = false := hc0
   refine wp_skip ?_
   refine then_n ?_
   refine wp_seq ?_
   refine wp_seq ?_
   refine region_seq hS (by kernel_rfl)
     (cF rfl (o_fieldAddr (off := 2) 101 .is (by kernel_rfl) (by rfl)) r1 r1
     (cF rfl (o_load (ag := false) (sz := 1) 101 .adr (by kernel_rfl) (by kernel_rfl) (by kernel_rfl) (by rfl)) r1 r1
     (cF rfl (o_len_sl Tryd.underlying24 .t) r1 trivial
     (cF rfl (o_move (.ci (by kernel_rfl)) (by rfl)) trivial trivial
     Chain.nil))))
     (by kernel_rfl) (by rw [hB]; kernel_rfl) ?_
   clear hS; intro a w F hS
   obtain ⟨F, hS⟩ := hS.norm [(2, _), (3, _), (17, _), (18, _), (19, _)] [(0, _), (101, _)] r5 r2
   try dsimp only [List.map, List.drop_succ_cons, List.drop_zero, List.drop_nil, List.take_succ_cons, List.take_zero, List.take_nil, ldSF] at hS
   refine then_n ?_
   refine wp_block ?_
   replace hS := hS.ent (i := 3) (s' := .pv (.bs (headT t ++ opsT (t.ops.take 0)))) rfl (.bs (by unfold headT opsT; rw [hdn]; simp))
   obtain ⟨F, hS⟩ := hS.norm [(3, _), (17, _), (18, _), (19, _)] [(0, _)] r4 r1
   refine loop_inv (σ := Nat) (fun s => (⟨[(3, .pv (.bs (headT t ++ opsT (t.ops.take s)))), (17, .pv (.sl rOp t.ops)), (18, .pv (.int .i64 (t.ops.length : Nat))), (19, .pv (.int .i64 (s : Nat)))], [(0, frame B)]⟩ : En)) (fun s => s ≤ t.ops.length) (fun s => t.ops.length - s) 0 hS (Nat.zero_le _) ?_
   clear hS; intro i a w F hC hS
   try dsimp only at hC
   try dsimp only at hS
   have hi0 := hC
   have hct : (opsT (t.ops.take i)).length ≤ 101 * i := Nat.le_trans (opsT_len _) (by rw [List.length_take]; omega)
   refine wp_seq ?_
   refine region_seq hS (by kernel_rfl)
     (cF rfl (o_lss .t .t) r2 trivial
     Chain.nil)
     (by kernel_rfl) (by rw [hB]; kernel_rfl) ?_
   clear hS; intro a w F hS
   obtain ⟨F, hS⟩ := hS.norm [(3, _), (17, _), (18, _), (19, _), (20, _)] [(0, _)] r5 r1
   refine then_n ?_
   refine wp_seq ?_
   refine cond_b hS rfl (fun hc2 => ?_) (fun hc2 => ?_)
   ·skip
    have hi : i < t.ops.length := by have h9 := of_decide_eq_true hc2; omega
    have hto : (textO (nth t.ops i)).length ≤ 100 := textO_small _
    refine wp_skip ?_
    refine then_n ?_
    refine wp_seq ?_
    refine wp_block ?_
    refine wp_seq ?_
    refine region_seq hS (by kernel_rfl)
      (cF rfl (o_indexAddr_sl (sz := 4) (.mk Tryd.underlying24 (by kernel_rfl)) (by intro x; rfl) .t .t (by omega) (by omega)) r2 trivial
      (cF rfl (o_load_ref (ag := true) (sz := 4) .t (by kernel_rfl) (by kernel_rfl) (by kernel_rfl)) r1 trivial
      (cF rfl (o_alloc (zs := [.bool false, .int .i64 0, .int .i64 0, .int .i64 0]) 103 (by kernel_rfl)) trivial trivial
      (cF rfl (o_storeA (sz := 4) 103 .same .t (by kernel_rfl) (by kernel_rfl) (by kernel_rfl)) r2 r1
      Chain.nil))))
      (by kernel_rfl) (by rw [hB]; kernel_rfl) ?_
    clear hS; intro a w F hS
    replace hS := hS.sub
    obtain ⟨F, hS⟩ := hS.norm [(3, _), (5, _), (17, _), (18, _), (19, _), (20, _), (21, _), (22, _)] [(0, _), (103, _)] r8 r2
    try dsimp only [RS.sub, SF.sub, CF.sub, csub, Anc.sub, List.map, stCells, List.length_cons, List.length_nil, Nat.reduceAdd, List.drop_succ_cons, List.drop_zero, List.drop_nil, List.take_succ_cons, List.take_zero, List.take_nil, List.cons_append, List.nil_append, zCF, ldSF] at hS
    generalize Act.tau a 5 = v5 at hS
    rw [Int.toNat_natCast] at hS
    refine then_n ?_
    refine region_seq hS (by kernel_rfl)
      (cF rfl (o_move .t (by rfl)) r1 trivial
      (cF rfl (o_load (ag := true) (sz := 4) 103 .is (by kernel_rfl) (by kernel_rfl) (by kernel_rfl) (by rfl)) r1 r1
      (cF rfl (o_callP (refOpText_c (nth t.ops i)) Tryd.func15 rfl (by kernel_rfl) (Args.one (.pagg .t))) r1 trivial
      (cF rfl (o_add_bs (.cs (by kernel_rfl)) .t (by simp only [List.length_cons, List.length_nil]; omega)) r1 trivial
      (cF rfl (o_add_bs .t .t (by rw [List.length_append]; simp only [List.length_append, List.length_cons, List.length_nil]; omega)) r2 trivial
      (cF rfl (o_assign .t (by rfl)) r1 trivial
      Chain.nil))))))
      (by kernel_rfl) (by rw [hB]; kernel_rfl) ?_
    clear hS; intro a w F hS
    obtain ⟨F, hS⟩ := hS.norm [(3, _), (5, _), (17, _), (18, _), (19, _), (20, _), (21, _), (22, _), (23, _), (24, _), (25, _), (26, _), (27, _)] [(0, _), (103, _)] ⟨rfl, rfl, rfl, rfl, rfl, rfl, rfl, rfl, rfl, rfl, rfl, rfl, rfl, trivial⟩ r2
    try dsimp only [List.map, List.drop_succ_cons, List.drop_zero, List.drop_nil, List.take_succ_cons, List.take_zero, List.take_nil, ldSF] at hS
    refine block_n ?_
    refine then_n ?_
    refine region_seq hS (by kernel_rfl)
      (cF rfl (o_add .t (.ci (by kernel_rfl))) r1 trivial
      (cF rfl (o_move .t (by rfl)) r1 trivial
      Chain.nil))
      (by kernel_rfl) (by rw [hB]; kernel_rfl) ?_
    clear hS; intro a w F hS
    obtain ⟨F, hS⟩ := hS.norm [(3, _), (5, _), (17, _), (18, _), (19, _), (20, _), (21, _), (22, _), (23, _), (24, _), (25, _), (26, _), (27, _), (28, _)] [(0, _), (103, _)] ⟨rfl, rfl, rfl, rfl, rfl, rfl, rfl, rfl, rfl, rfl, rfl, rfl, rfl, rfl, trivial⟩ r2
    refine then_n ?_
    replace hS := hS.ent (i := 19) (s' := .pv (.int .i64 ((i + 1 : Nat) : Int))) rfl (.int (wrap_succ (by omega)))
    replace hS := hS.ent (i := 3) (s' := .pv (.bs (headT t ++ opsT (t.ops.take (i + 1))))) rfl (.bs (by rw [opsT_next hi]; simp))
    obtain ⟨F, hS⟩ := hS.norm [(3, _), (17, _), (18, _), (19, _)] [(0, _)] r4 r1
    exact ⟨i + 1, F, (by omega), hS, by omega⟩
   ·skip
    have hil : i = t.ops.length := by have h9 := of_decide_eq_false hc2; omega
    rw [hil, List.take_length] at hS
    refine wp_exit ?_
    refine then_x ?_
    refine then_x ?_
    refine block_x ?_
    refine then_n ?_
    refine wp_seq ?_
    refine region_seq hS (by kernel_rfl)
      (cF rfl (o_move .t (by rfl)) r1 trivial
      (cF rfl (o_assign .t (by rfl)) r1 trivial
      Chain.nil))
      (by kernel_rfl) (by rw [hB]; kernel_rfl) ?_
    clear hS; intro a w F hS
    obtain ⟨F, hS⟩ := hS.norm [(2, _)] [(0, _)] r1 r1
    refine then_n ?_
    refine wp_ret ?_
    refine ret_P hfr hS rfl (.tmp rfl .nil) (.one (.bs (by unfold textT; rfl)))

theorem zeroC_le (k i : Int) : PVsLe [.int .i64 k, .int .i64 0, .bool false, .is (.slice none 0 0), .int .i64 0, .is (.slice none 0 0), .int .i64 0, .int .i64 i, .int .i64 0, .int .i64 0] (rCmd {zeroC k with id := i}) := ⟨.refl, .refl, .refl, .nilSl, .refl, .nilSl, .refl, .refl, .refl, .refl, trivial⟩

set_option maxHeartbeats 40000000

theorem cmdLives_c  : FnP Tryd.prog 18 [] (.bool true) := by
  refine FnP.mk Tryd.func18 rfl Tryd.ntmps18 rfl ?_
  intro B a w F hB hfr hS
  refine wp_seq ?_
  refine region_seq hS (by kernel_rfl)
    (cF rfl (o_assign .cb (by rfl)) trivial trivial
    Chain.nil)
    (by kernel_rfl) (by rw [hB]; kernel_rfl) ?_
  clear hS; intro a w F hS
  obtain ⟨F, hS⟩ := hS.norm [(0, _)] [(0, _)] r1 r1
  try dsimp only [rCmd] at hS
  refine then_n ?_
  refine wp_seq ?_
  refine region_seq hS (by kernel_rfl)
    (cF rfl (o_callP (parse_c [97, 100, 100, 32, 51, 32, 99, 32, 119, 53, 32, 114, 49, 64, 50, 46, 49] (by decide)) Tryd.func21 rfl (by kernel_rfl) (Args.one (.cs (by kernel_rfl)))) trivial trivial
    (cF rfl (o_move .t (by rfl)) r1 trivial
    (cF rfl (o_extract .t rfl) r1 trivial
    (cF rfl (o_extract .t rfl) r1 trivial
    (cF rfl (o_alloc (zs := [.int .i64 0, .int .i64 0, .bool false, .slice none 0 0, .int .i64 0, .slice none 0 0, .int .i64 0, .int .i64 0, .int .i64 0, .int .i64 0]) 101 (by kernel_rfl)) trivial trivial
    (cF rfl (o_storeA (sz := 10) 101 .same (.conv .t .agg) (by kernel_rfl) (by kernel_rfl) (by kernel_rfl)) r2 r1
    (cF rfl (o_assign .t (by rfl)) r1 trivial
    Chain.nil)))))))
    (by kernel_rfl) (by rw [hB]; kernel_rfl) ?_
  clear hS; intro a w F hS
  replace hS := hS.sub
  obtain ⟨F, hS⟩ := hS.norm [(0, _), (1, _), (2, _)] [(0, _), (101, _)] r3 r2
  try dsimp only [RS.sub, SF.sub, CF.sub, csub, Anc.sub, List.map, stCells, List.length_cons, List.length_nil, Nat.reduceAdd, List.drop_succ_cons, List.drop_zero, List.drop_nil, List.take_succ_cons, List.take_zero, List.take_nil, List.cons_append, List.nil_append, zCF, rCmd] at hS
  generalize Act.tau a 1 = v1 at hS
  generalize e30 : parseR [97, 100, 100, 32, 51, 32, 99, 32, 119, 53, 32, 114, 49, 64, 50, 46, 49] = p30 at hS
  refine then_n ?_
  refine wp_seq ?_
  refine region_seq hS (by kernel_rfl)
    (cF rfl (o_callP (parse_c [111, 114, 100, 32, 53, 32, 50, 32, 49] (by decide)) Tryd.func21 rfl (by kernel_rfl) (Args.one (.cs (by kernel_rfl)))) trivial trivial
    (cF rfl (o_move .t (by rfl)) r1 trivial
    (cF rfl (o_extract .t rfl) r1 trivial
    (cF rfl (o_extract .t rfl) r1 trivial
    (cF rfl (o_alloc (zs := [.int .i64 0, .int .i64 0, .bool false, .slice none 0 0, .int .i64 0, .slice none 0 0, .int .i64 0, .int .i64 0, .int .i64 0, .int .i64 0]) 102 (by kernel_rfl)) trivial trivial
    (cF rfl (o_storeA (sz := 10) 102 .same (.conv .t .agg) (by kernel_rfl) (by kernel_rfl) (by kernel_rfl)) r2 r1
    (cF rfl (o_assign .t (by rfl)) r1 trivial
    Chain.nil)))))))
    (by kernel_rfl) (by rw [hB]; kernel_rfl) ?_
  clear hS; intro a w F hS
  replace hS := hS.sub
  obtain ⟨F, hS⟩ := hS.norm [(0, _), (1, _), (2, _), (3, _), (4, _)] [(0, _), (101, _), (102, _)] r5 r3
  try dsimp only [RS.sub, SF.sub, CF.sub, csub, Anc.sub, List.map, stCells, List.length_cons, List.length_nil, Nat.reduceAdd, List.drop_succ_cons, List.drop_zero, List.drop_nil, List.take_succ_cons, List.take_zero, List.take_nil, List.cons_append, List.nil_append, zCF, rCmd] at hS
  generalize Act.tau a 3 = v3 at hS
  generalize e34 : parseR [111, 114, 100, 32, 53, 32, 50, 32, 49] = p34 at hS
  refine then_n ?_
  refine wp_seq ?_
  refine region_seq hS (by kernel_rfl)
    (cF rfl (o_callP (parse_c [109, 111, 118, 32, 53, 32, 50, 32, 48] (by decide)) Tryd.func21 rfl (by kernel_rfl) (Args.one (.cs (by kernel_rfl)))) trivial trivial
    (cF rfl (o_move .t (by rfl)) r1 trivial
    (cF rfl (o_extract .t rfl) r1 trivial
    (cF rfl (o_extract .t rfl) r1 trivial
    (cF rfl (o_alloc (zs := [.int .i64 0, .int .i64 0, .bool false, .slice none 0 0, .int .i64 0, .slice none 0 0, .int .i64 0, .int .i64 0, .int .i64 0, .int .i64 0]) 103 (by kernel_rfl)) trivial trivial
    (cF rfl (o_storeA (sz := 10) 103 .same (.conv .t .agg) (by kernel_rfl) (by kernel_rfl) (by kernel_rfl)) r2 r1
    (cF rfl (o_assign .t (by rfl)) r1 trivial
    Chain.nil)))))))
    (by kernel_rfl) (by rw [hB]; kernel_rfl) ?_
  clear hS; intro a w F hS
  replace hS := hS.sub
  obtain ⟨F, hS⟩ := hS.norm [(0, _), (1, _), (2, _), (3, _), (4, _), (5, _), (6, _)] [(0, _), (101, _), (102, _), (103, _)] r7 r4
  try dsimp only [RS.sub, SF.sub, CF.sub, csub, Anc.sub, List.map, stCells, List.length_cons, List.length_nil, Nat.reduceAdd, List.drop_succ_cons, List.drop_zero, List.drop_nil, List.take_succ_cons, List.take_zero, List.take_nil, List.cons_append, List.nil_append, zCF, rCmd] at hS
  generalize Act.tau a 5 = v5 at hS
  generalize e38 : parseR [109, 111, 118, 32, 53, 32, 50, 32, 48] = p38 at hS
  refine then_n ?_
  refine wp_seq ?_
  refine region_seq hS (by kernel_rfl)
    (cF rfl (o_callP (parse_c [119, 104, 121, 32, 103, 50] (by decide)) Tryd.func21 rfl (by kernel_rfl) (Args.one (.cs (by kernel_rfl)))) trivial trivial
    (cF rfl (o_move .t (by rfl)) r1 trivial
    (cF rfl (o_extract .t rfl) r1 trivial
    (cF rfl (o_extract .t rfl) r1 trivial
    (cF rfl (o_alloc (zs := [.int .i64 0, .int .i64 0, .bool false, .slice none 0 0, .int .i64 0, .slice none 0 0, .int .i64 0, .int .i64 0, .int .i64 0, .int .i64 0]) 104 (by kernel_rfl)) trivial trivial
    (cF rfl (o_storeA (sz := 10) 104 .same (.conv .t .agg) (by kernel_rfl) (by kernel_rfl) (by kernel_rfl)) r2 r1
    (cF rfl (o_assign .t (by rfl)) r1 trivial
    Chain.nil)))))))
    (by kernel_rfl) (by rw [hB]; kernel_rfl) ?_
  clear hS; intro a w F hS
  replace hS := hS.sub
  obtain ⟨F, hS⟩ := hS.norm [(0, _), (1, _), (2, _), (3, _), (4, _), (5, _), (6, _), (7, _), (8, _)] [(0, _), (101, _), (102, _), (103, _), (104, _)] ⟨rfl, rfl, rfl, rfl, rfl, rfl, rfl, rfl, rfl, trivial⟩ r5
  try dsimp only [RS.sub, SF.sub, CF.sub, csub, Anc.sub, List.map, stCells, List.length_cons, List.length_nil, Nat.reduceAdd, List.drop_succ_cons, List.drop_zero, List.drop_nil, List.take_succ_cons, List.take_zero, List.take_nil, List.cons_append, List.nil_append, zCF, rCmd] at hS
  generalize Act.tau a 7 = v7 at hS
  generalize e42 : parseR [119, 104, 121, 32, 103, 50] = p42 at hS
  refine then_n ?_
  refine wp_seq ?_
  refine region_seq hS (by kernel_rfl)
    (cF rfl (o_callP (parse_c [97, 100, 100, 32, 51] (by decide)) Tryd.func21 rfl (by kernel_rfl) (Args.one (.cs (by kernel_rfl)))) trivial trivial
    (cF rfl (o_move .t (by rfl)) r1 trivial
    (cF rfl (o_extract .t rfl) r1 trivial
    (cF rfl (o_extract .t rfl) r1 trivial
    (cF rfl (o_alloc (zs := [.int .i64 0, .int .i64 0, .bool false, .slice none 0 0, .int .i64 0, .slice none 0 0, .int .i64 0, .int .i64 0, .int .i64 0, .int .i64 0]) 105 (by kernel_rfl)) trivial trivial
    (cF rfl (o_storeA (sz := 10) 105 .same (.conv .t .agg) (by kernel_rfl) (by kernel_rfl) (by kernel_rfl)) r2 r1
    (cF rfl (o_assign .t (by rfl)) r1 trivial
    Chain.nil)))))))
    (by kernel_rfl) (by rw [hB]; kernel_rfl) ?_
  clear hS; intro a w F hS
  replace hS := hS.sub
  obtain ⟨F, hS⟩ := hS.norm [(0, _), (1, _), (2, _), (3, _), (4, _), (5, _), (6, _), (7, _), (8, _), (10, _)] [(0, _), (101, _), (102, _), (103, _), (104, _)] ⟨rfl, rfl, rfl, rfl, rfl, rfl, rfl, rfl, rfl, rfl, trivial⟩ r5
  try dsimp only [RS.sub, SF.sub, CF.sub, csub, Anc.sub, List.map, stCells, List.length_cons, List.length_nil, Nat.reduceAdd, List.drop_succ_cons, List.drop_zero, List.drop_nil, List.take_succ_cons, List.take_zero, List.take_nil, List.cons_append, List.nil_append, zCF, rCmd] at hS
  generalize Act.tau a 9 = v9 at hS
  generalize e46 : parseR [97, 100, 100, 32, 51] = p46 at hS
  refine then_n ?_
  refine wp_seq ?_
  refine region_seq hS (by kernel_rfl)
    (cF rfl (o_callP (parse_c [100, 101, 108, 32, 51, 32, 52] (by decide)) Tryd.func21 rfl (by kernel_rfl) (Args.one (.cs (by kernel_rfl)))) trivial trivial
    (cF rfl (o_move .t (by rfl)) r1 trivial
    (cF rfl (o_extract .t rfl) r1 trivial
    (cF rfl (o_extract .t rfl) r1 trivial
    (cF rfl (o_alloc (zs := [.int .i64 0, .int .i64 0, .bool false, .slice none 0 0, .int .i64 0, .slice none 0 0, .int .i64 0, .int .i64 0, .int .i64 0, .int .i64 0]) 106 (by kernel_rfl)) trivial trivial
    (cF rfl (o_storeA (sz := 10) 106 .same (.conv .t .agg) (by kernel_rfl) (by kernel_rfl) (by kernel_rfl)) r2 r1
    (cF rfl (o_assign .t (by rfl)) r1 trivial
    Chain.nil)))))))
    (by kernel_rfl) (by rw [hB]; kernel_rfl) ?_
  clear hS; intro a w F hS
  replace hS := hS.sub
  obtain ⟨F, hS⟩ := hS.norm [(0, _), (1, _), (2, _), (3, _), (4, _), (5, _), (6, _), (7, _), (8, _), (10, _), (12, _)] [(0, _), (101, _), (102, _), (103, _), (104, _)] ⟨rfl, rfl, rfl, rfl, rfl, rfl, rfl, rfl, rfl, rfl, rfl, trivial⟩ r5
  try dsimp only [RS.sub, SF.sub, CF.sub, csub, Anc.sub, List.map, stCells, List.length_cons, List.length_nil, Nat.reduceAdd, List.drop_succ_cons, List.drop_zero, List.drop_nil, List.take_succ_cons, List.take_zero, List.take_nil, List.cons_append, List.nil_append, zCF, rCmd] at hS
  generalize Act.tau a 11 = v11 at hS
  generalize e50 : parseR [100, 101, 108, 32, 51, 32, 52] = p50 at hS
  refine then_n ?_
  refine wp_seq ?_
  refine region_seq hS (by kernel_rfl)
    (cF rfl (o_callP (parse_c [97, 100, 100, 32, 120, 32, 99] (by decide)) Tryd.func21 rfl (by kernel_rfl) (Args.one (.cs (by kernel_rfl)))) trivial trivial
    (cF rfl (o_move .t (by rfl)) r1 trivial
    (cF rfl (o_extract .t rfl) r1 trivial
    (cF rfl (o_extract .t rfl) r1 trivial
    (cF rfl (o_alloc (zs := [.int .i64 0, .int .i64 0, .bool false, .slice none 0 0, .int .i64 0, .slice none 0 0, .int .i64 0, .int .i64 0, .int .i64 0, .int .i64 0]) 107 (by kernel_rfl)) trivial trivial
    (cF rfl (o_storeA (sz := 10) 107 .same (.conv .t .agg) (by kernel_rfl) (by kernel_rfl) (by kernel_rfl)) r2 r1
    (cF rfl (o_assign .t (by rfl)) r1 trivial
    Chain.nil)))))))
    (by kernel_rfl) (by rw [hB]; kernel_rfl) ?_
  clear hS; intro a w F hS
  replace hS := hS.sub
  obtain ⟨F, hS⟩ := hS.norm [(0, _), (1, _), (2, _), (3, _), (4, _), (5, _), (6, _), (7, _), (8, _), (10, _), (12, _), (14, _)] [(0, _), (101, _), (102, _), (103, _), (104, _)] ⟨rfl, rfl, rfl, rfl, rfl, rfl, rfl, rfl, rfl, rfl, rfl, rfl, trivial⟩ r5
  try dsimp only [RS.sub, SF.sub, CF.sub, csub, Anc.sub, List.map, stCells, List.length_cons, List.length_nil, Nat.reduceAdd, List.drop_succ_cons, List.drop_zero, List.drop_nil, List.take_succ_cons, List.take_zero, List.take_nil, List.cons_append, List.nil_append, zCF, rCmd] at hS
  generalize Act.tau a 13 = v13 at hS
  generalize e54 : parseR [97, 100, 100, 32, 120, 32, 99] = p54 at hS
  refine then_n ?_
  refine wp_seq ?_
  refine region_seq hS (by kernel_rfl)
    (cF rfl (o_callP (parse_c [97, 100, 100, 32, 51, 32, 100] (by decide)) Tryd.func21 rfl (by kernel_rfl) (Args.one (.cs (by kernel_rfl)))) trivial trivial
    (cF rfl (o_move .t (by rfl)) r1 trivial
    (cF rfl (o_extract .t rfl) r1 trivial
    (cF rfl (o_extract .t rfl) r1 trivial
    (cF rfl (o_alloc (zs := [.int .i64 0, .int .i64 0, .bool false, .slice none 0 0, .int .i64 0, .slice none 0 0, .int .i64 0, .int .i64 0, .int .i64 0, .int .i64 0]) 108 (by kernel_rfl)) trivial trivial
    (cF rfl (o_storeA (sz := 10) 108 .same (.conv .t .agg) (by kernel_rfl) (by kernel_rfl) (by kernel_rfl)) r2 r1
    (cF rfl (o_assign .t (by rfl)) r1 trivial
    Chain.nil)))))))
    (by kernel_rfl) (by rw [hB]; kernel_rfl) ?_
  clear hS; intro a w F hS
  replace hS := hS.sub
  obtain ⟨F, hS⟩ := hS.norm [(0, _), (1, _), (2, _), (3, _), (4, _), (5, _), (6, _), (7, _), (8, _), (10, _), (12, _), (14, _), (16, _)] [(0, _), (101, _), (102, _), (103, _), (104, _)] ⟨rfl, rfl, rfl, rfl, rfl, rfl, rfl, rfl, rfl, rfl, rfl, rfl, rfl, trivial⟩ r5
  try dsimp only [RS.sub, SF.sub, CF.sub, csub, Anc.sub, List.map, stCells, List.length_cons, List.length_nil, Nat.reduceAdd, List.drop_succ_cons, List.drop_zero, List.drop_nil, List.take_succ_cons, List.take_zero, List.take_nil, List.cons_append, List.nil_append, zCF, rCmd] at hS
  generalize Act.tau a 15 = v15 at hS
  generalize e58 : parseR [97, 100, 100, 32, 51, 32, 100] = p58 at hS
  refine then_n ?_
  refine wp_seq ?_
  refine region_seq hS (by kernel_rfl)
    (cF rfl (o_callP (parse_c [97, 100, 100, 32, 51, 32, 99, 32, 119, 48] (by decide)) Tryd.func21 rfl (by kernel_rfl) (Args.one (.cs (by kernel_rfl)))) trivial trivial
    (cF rfl (o_move .t (by rfl)) r1 trivial
    (cF rfl (o_extract .t rfl) r1 trivial
    (cF rfl (o_extract .t rfl) r1 trivial
    (cF rfl (o_alloc (zs := [.int .i64 0, .int .i64 0, .bool false, .slice none 0 0, .int .i64 0, .slice none 0 0, .int .i64 0, .int .i64 0, .int .i64 0, .int .i64 0]) 109 (by kernel_rfl)) trivial trivial
    (cF rfl (o_storeA (sz := 10) 109 .same (.conv .t .agg) (by kernel_rfl) (by kernel_rfl) (by kernel_rfl)) r2 r1
    (cF rfl (o_assign .t (by rfl)) r1 trivial
    Chain.nil)))))))
    (by kernel_rfl) (by rw [hB]; kernel_rfl) ?_
  clear hS; intro a w F hS
  replace hS := hS.sub
  obtain ⟨F, hS⟩ := hS.norm [(0, _), (1, _), (2, _), (3, _), (4, _), (5, _), (6, _), (7, _), (8, _), (10, _), (12, _), (14, _), (16, _), (18, _)] [(0, _), (101, _), (102, _), (103, _), (104, _)] ⟨rfl, rfl, rfl, rfl, rfl, rfl, rfl, rfl, rfl, rfl, rfl, rfl, rfl, rfl, trivial⟩ r5
  try dsimp only [RS.sub, SF.sub, CF.sub, csub, Anc.sub, List.map, stCells, List.length_cons, List.length_nil, Nat.reduceAdd, List.drop_succ_cons, List.drop_zero, List.drop_nil, List.take_succ_cons, List.take_zero, List.take_nil, List.cons_append, List.nil_append, zCF, rCmd] at hS
  generalize Act.tau a 17 = v17 at hS
  generalize e62 : parseR [97, 100, 100, 32, 51, 32, 99, 32, 119, 48] = p62 at hS
  refine then_n ?_
  refine wp_seq ?_
  refine region_seq hS (by kernel_rfl)
    (cF rfl (o_callP (parse_c [] (by decide)) Tryd.func21 rfl (by kernel_rfl) (Args.one (.cs (by kernel_rfl)))) trivial trivial
    (cF rfl (o_move .t (by rfl)) r1 trivial
    (cF rfl (o_extract .t rfl) r1 trivial
    (cF rfl (o_extract .t rfl) r1 trivial
    (cF rfl (o_alloc (zs := [.int .i64 0, .int .i64 0, .bool false, .slice none 0 0, .int .i64 0, .slice none 0 0, .int .i64 0, .int .i64 0, .int .i64 0, .int .i64 0]) 110 (by kernel_rfl)) trivial trivial
    (cF rfl (o_storeA (sz := 10) 110 .same (.conv .t .agg) (by kernel_rfl) (by kernel_rfl) (by kernel_rfl)) r2 r1
    (cF rfl (o_assign .t (by rfl)) r1 trivial
    Chain.nil)))))))
    (by kernel_rfl) (by rw [hB]; kernel_rfl) ?_
  clear hS; intro a w F hS
  replace hS := hS.sub
  obtain ⟨F, hS⟩ := hS.norm [(0, _), (1, _), (2, _), (3, _), (4, _), (5, _), (6, _), (7, _), (8, _), (10, _), (12, _), (14, _), (16, _), (18, _), (20, _)] [(0, _), (101, _), (102, _), (103, _), (104, _)] ⟨rfl, rfl, rfl, rfl, rfl, rfl, rfl, rfl, rfl, rfl, rfl, rfl, rfl, rfl, rfl, trivial⟩ r5
  try dsimp only [RS.sub, SF.sub, CF.sub, csub, Anc.sub, List.map, stCells, List.length_cons, List.length_nil, Nat.reduceAdd, List.drop_succ_cons, List.drop_zero, List.drop_nil, List.take_succ_cons, List.take_zero, List.take_nil, List.cons_append, List.nil_append, zCF, rCmd] at hS
  generalize Act.tau a 19 = v19 at hS
  generalize e66 : parseR [] = p66 at hS
  refine then_n ?_
  refine wp_seq ?_
  refine region_seq hS (by kernel_rfl)
    (cF rfl (o_callP (parse_c [65, 68, 68, 32, 51, 32, 99] (by decide)) Tryd.func21 rfl (by kernel_rfl) (Args.one (.cs (by kernel_rfl)))) trivial trivial
    (cF rfl (o_move .t (by rfl)) r1 trivial
    (cF rfl (o_extract .t rfl) r1 trivial
    (cF rfl (o_extract .t rfl) r1 trivial
    (cF rfl (o_alloc (zs := [.int .i64 0, .int .i64 0, .bool false, .slice none 0 0, .int .i64 0, .slice none 0 0, .int .i64 0, .int .i64 0, .int .i64 0, .int .i64 0]) 111 (by kernel_rfl)) trivial trivial
    (cF rfl (o_storeA (sz := 10) 111 .same (.conv .t .agg) (by kernel_rfl) (by kernel_rfl) (by kernel_rfl)) r2 r1
    (cF rfl (o_assign .t (by rfl)) r1 trivial
    Chain.nil)))))))
    (by kernel_rfl) (by rw [hB]; kernel_rfl) ?_
  clear hS; intro a w F hS
  replace hS := hS.sub
  obtain ⟨F, hS⟩ := hS.norm [(0, _), (1, _), (2, _), (3, _), (4, _), (5, _), (6, _), (7, _), (8, _), (10, _), (12, _), (14, _), (16, _), (18, _), (20, _), (22, _)] [(0, _), (101, _), (102, _), (103, _), (104, _)] ⟨rfl, rfl, rfl, rfl, rfl, rfl, rfl, rfl, rfl, rfl, rfl, rfl, rfl, rfl, rfl, rfl, trivial⟩ r5
  try dsimp only [RS.sub, SF.sub, CF.sub, csub, Anc.sub, List.map, stCells, List.length_cons, List.length_nil, Nat.reduceAdd, List.drop_succ_cons, List.drop_zero, List.drop_nil, List.take_succ_cons, List.take_zero, List.take_nil, List.cons_append, List.nil_append, zCF, rCmd] at hS
  generalize Act.tau a 21 = v21 at hS
  generalize e70 : parseR [65, 68, 68, 32, 51, 32, 99] = p70 at hS
  refine then_n ?_
  refine wp_seq ?_
  refine region_seq hS (by kernel_rfl)
    (cF rfl (o_callP (parse_c [117, 110, 100, 111, 32, 32, 49] (by decide)) Tryd.func21 rfl (by kernel_rfl) (Args.one (.cs (by kernel_rfl)))) trivial trivial
    (cF rfl (o_move .t (by rfl)) r1 trivial
    (cF rfl (o_extract .t rfl) r1 trivial
    (cF rfl (o_extract .t rfl) r1 trivial
    (cF rfl (o_alloc (zs := [.int .i64 0, .int .i64 0, .bool false, .slice none 0 0, .int .i64 0, .slice none 0 0, .int .i64 0, .int .i64 0, .int .i64 0, .int .i64 0]) 112 (by kernel_rfl)) trivial trivial
    (cF rfl (o_storeA (sz := 10) 112 .same (.conv .t .agg) (by kernel_rfl) (by kernel_rfl) (by kernel_rfl)) r2 r1
    (cF rfl (o_assign .t (by rfl)) r1 trivial
    Chain.nil)))))))
    (by kernel_rfl) (by rw [hB]; kernel_rfl) ?_
  clear hS; intro a w F hS
  replace hS := hS.sub
  obtain ⟨F, hS⟩ := hS.norm [(0, _), (1, _), (2, _), (3, _), (4, _), (5, _), (6, _), (7, _), (8, _), (10, _), (12, _), (14, _), (16, _), (18, _), (20, _), (22, _), (24, _)] [(0, _), (101, _), (102, _), (103, _), (104, _)] ⟨rfl, rfl, rfl, rfl, rfl, rfl, rfl, rfl, rfl, rfl, rfl, rfl, rfl, rfl, rfl, rfl, rfl, trivial⟩ r5
  try dsimp only [RS.sub, SF.sub, CF.sub, csub, Anc.sub, List.map, stCells, List.length_cons, List.length_nil, Nat.reduceAdd, List.drop_succ_cons, List.drop_zero, List.drop_nil, List.take_succ_cons, List.take_zero, List.take_nil, List.cons_append, List.nil_append, zCF, rCmd] at hS
  generalize Act.tau a 23 = v23 at hS
  generalize e74 : parseR [117, 110, 100, 111, 32, 32, 49] = p74 at hS
  refine then_n ?_
  refine wp_seq ?_
  refine region_seq hS (by kernel_rfl)
    (cF rfl (o_callP (parse_c [119, 104, 121, 32, 103, 51] (by decide)) Tryd.func21 rfl (by kernel_rfl) (Args.one (.cs (by kernel_rfl)))) trivial trivial
    (cF rfl (o_move .t (by rfl)) r1 trivial
    (cF rfl (o_extract .t rfl) r1 trivial
    (cF rfl (o_extract .t rfl) r1 trivial
    (cF rfl (o_alloc (zs := [.int .i64 0, .int .i64 0, .bool false, .slice none 0 0, .int .i64 0, .slice none 0 0, .int .i64 0, .int .i64 0, .int .i64 0, .int .i64 0]) 113 (by kernel_rfl)) trivial trivial
    (cF rfl (o_storeA (sz := 10) 113 .same (.conv .t .agg) (by kernel_rfl) (by kernel_rfl) (by kernel_rfl)) r2 r1
    (cF rfl (o_assign .t (by rfl)) r1 trivial
    Chain.nil)))))))
    (by kernel_rfl) (by rw [hB]; kernel_rfl) ?_
  clear hS; intro a w F hS
  replace hS := hS.sub
  obtain ⟨F, hS⟩ := hS.norm [(0, _), (1, _), (2, _), (3, _), (4, _), (5, _), (6, _), (7, _), (8, _), (10, _), (12, _), (14, _), (16, _), (18, _), (20, _), (22, _), (24, _), (26, _)] [(0, _), (101, _), (102, _), (103, _), (104, _)] ⟨rfl, rfl, rfl, rfl, rfl, rfl, rfl, rfl, rfl, rfl, rfl, rfl, rfl, rfl, rfl, rfl, rfl, rfl, trivial⟩ r5
  try dsimp only [RS.sub, SF.sub, CF.sub, csub, Anc.sub, List.map, stCells, List.length_cons, List.length_nil, Nat.reduceAdd, List.drop_succ_cons, List.drop_zero, List.drop_nil, List.take_succ_cons, List.take_zero, List.take_nil, List.cons_append, List.nil_append, zCF, rCmd] at hS
  generalize Act.tau a 25 = v25 at hS
  generalize e78 : parseR [119, 104, 121, 32, 103, 51] = p78 at hS
  refine then_n ?_
  refine wp_seq ?_
  refine region_seq hS (by kernel_rfl)
    (cF rfl (o_callP (parse_c [100, 117, 109, 112] (by decide)) Tryd.func21 rfl (by kernel_rfl) (Args.one (.cs (by kernel_rfl)))) trivial trivial
    (cF rfl (o_move .t (by rfl)) r1 trivial
    (cF rfl (o_extract .t rfl) r1 trivial
    (cF rfl (o_extract .t rfl) r1 trivial
    (cF rfl (o_alloc (zs := [.int .i64 0, .int .i64 0, .bool false, .slice none 0 0, .int .i64 0, .slice none 0 0, .int .i64 0, .int .i64 0, .int .i64 0, .int .i64 0]) 114 (by kernel_rfl)) trivial trivial
    (cF rfl (o_storeA (sz := 10) 114 .same (.conv .t .agg) (by kernel_rfl) (by kernel_rfl) (by kernel_rfl)) r2 r1
    (cF rfl (o_assign .t (by rfl)) r1 trivial
    Chain.nil)))))))
    (by kernel_rfl) (by rw [hB]; kernel_rfl) ?_
  clear hS; intro a w F hS
  replace hS := hS.sub
  obtain ⟨F, hS⟩ := hS.norm [(0, _), (1, _), (2, _), (3, _), (4, _), (5, _), (6, _), (7, _), (8, _), (10, _), (12, _), (14, _), (16, _), (18, _), (20, _), (22, _), (24, _), (26, _), (27, _), (28, _)] [(0, _), (101, _), (102, _), (103, _), (104, _), (114, _)] ⟨rfl, rfl, rfl, rfl, rfl, rfl, rfl, rfl, rfl, rfl, rfl, rfl, rfl, rfl, rfl, rfl, rfl, rfl, rfl, rfl, trivial⟩ r6
  try dsimp only [RS.sub, SF.sub, CF.sub, csub, Anc.sub, List.map, stCells, List.length_cons, List.length_nil, Nat.reduceAdd, List.drop_succ_cons, List.drop_zero, List.drop_nil, List.take_succ_cons, List.take_zero, List.take_nil, List.cons_append, List.nil_append, zCF, rCmd] at hS
  generalize Act.tau a 27 = v27 at hS
  generalize e82 : parseR [100, 117, 109, 112] = p82 at hS
  refine then_n ?_
  refine wp_seq ?_
  refine region_seqN hS (by kernel_rfl)
    (cG rfl (o_move .t (by rfl)) r1 trivial
    (cG rfl (o_eql .t (.ci (by kernel_rfl))) r1 trivial
    (cG rfl (o_move .t (by rfl)) r1 trivial
    (ChainN.cons (Cert.cond rfl rfl (fun h => o_fieldAddr (off := 0) 101 .is (by kernel_rfl) (by rfl))) r2 r1
    (ChainN.cons (Cert.cond rfl rfl (fun h => o_load (ag := false) (sz := 1) 101 (.w h .adr) (by kernel_rfl) (by kernel_rfl) (by kernel_rfl) (by rfl))) r2 r1
    (ChainN.cons (Cert.cond rfl rfl (fun h => o_eql (.w h) (.ci (by kernel_rfl)))) r2 trivial
    (cG rfl (o_and2 .t .t) r2 trivial
    (cG rfl (o_move .t (by rfl)) r1 trivial
    (ChainN.cons (Cert.cond rfl rfl (fun h => o_fieldAddr (off := 1) 101 .is (by kernel_rfl) (by rfl))) r2 r1
    (ChainN.cons (Cert.cond rfl rfl (fun h => o_load (ag := true) (sz := 3) 101 (.w h .adr) (by kernel_rfl) (by kernel_rfl) (by kernel_rfl) (by rfl))) r2 r1
    (ChainN.cons (Cert.cond rfl rfl (fun h => o_callP (refTxText_c p30.1.tx (by rw [← e30]; decide +kernel)) Tryd.func33 rfl (by kernel_rfl) (Args.one (.pagg (.w h))))) r2 trivial
    (ChainN.cons (Cert.cond rfl rfl (fun h => o_eql_bs Tryd.underlying9 (.w h) (.cs (by kernel_rfl)))) r2 trivial
    (cG rfl (o_and2 .t .t) r2 trivial
    (cG rfl (o_move .t (by rfl)) r1 trivial
    (ChainN.cons (Cert.cond rfl rfl (fun h => o_move .t (by rfl))) r2 trivial
    (ChainN.cons (Cert.cond rfl rfl (fun h => o_eql (.w h) (.ci (by kernel_rfl)))) r2 trivial
    (cG rfl (o_and2 .t .t) r2 trivial
    (cG rfl (o_move .t (by rfl)) r1 trivial
    (ChainN.cons (Cert.cond rfl rfl (fun h => o_fieldAddr (off := 4) 102 .is (by kernel_rfl) (by rfl))) r2 r1
    (ChainN.cons (Cert.cond rfl rfl (fun h => o_fieldAddr (off := 0) 102 (.w h .adr) (by kernel_rfl) (by rfl))) r2 r1
    (ChainN.cons (Cert.cond rfl rfl (fun h => o_load (ag := false) (sz := 1) 102 (.w h .adr) (by kernel_rfl) (by kernel_rfl) (by kernel_rfl) (by rfl))) r2 r1
    (ChainN.cons (Cert.cond rfl rfl (fun h => o_eql (.w h) (.ci (by kernel_rfl)))) r2 trivial
    (cG rfl (o_and2 .t .t) r2 trivial
    (cG rfl (o_move .t (by rfl)) r1 trivial
    (ChainN.norm [(0, _), (1, _), (3, _), (5, _), (6, _), (7, _), (8, _), (10, _), (12, _), (14, _), (16, _), (18, _), (20, _), (22, _), (24, _), (26, _), (27, _), (28, _), (108, _)] [(0, _), (101, _), (102, _), (103, _), (104, _), (114, _)] ⟨rfl, rfl, rfl, rfl, rfl, rfl, rfl, rfl, rfl, rfl, rfl, rfl, rfl, rfl, rfl, rfl, rfl, rfl, rfl, trivial⟩ r6
    (ChainN.cons (Cert.cond rfl rfl (fun h => o_fieldAddr (off := 4) 102 .is (by kernel_rfl) (by rfl))) r2 r1
    (ChainN.cons (Cert.cond rfl rfl (fun h => o_fieldAddr (off := 1) 102 (.w h .adr) (by kernel_rfl) (by rfl))) r2 r1
    (ChainN.cons (Cert.cond rfl rfl (fun h => o_load (ag := false) (sz := 1) 102 (.w h .adr) (by kernel_rfl) (by kernel_rfl) (by kernel_rfl) (by rfl))) r2 r1
    (ChainN.cons (Cert.cond rfl rfl (fun h => o_buildSliceE (sz := 1) (zs := [.int .i64 0]) (r := [(0, _), (1, _)]) (l := [_, _]) Tryd.underlying40 (by kernel_rfl) (by kernel_rfl) (by kernel_rfl) (by kernel_rfl) rfl rfl (.one rfl (.ci (by kernel_rfl)) one_int (by kernel_rfl) (.one rfl (.ci (by kernel_rfl)) one_int (by kernel_rfl) .nil)) rfl)) r1 trivial
    (ChainN.cons (Cert.cond rfl rfl (fun h => o_callP (sameInts_c p34.1.order.txs [2, 1]) Tryd.func34 rfl (by kernel_rfl) (Args.two (.w h) (.conv (.w h) (Ent.arrSl (R := rInt) (l := [2, 1]) rfl))))) r3 trivial
    (cG rfl (o_and2 .t .t) r2 trivial
    (cG rfl (o_move .t (by rfl)) r1 trivial
    (ChainN.cons (Cert.cond rfl rfl (fun h => o_move .t (by rfl))) r2 trivial
    (ChainN.cons (Cert.cond rfl rfl (fun h => o_eql (.w h) (.ci (by kernel_rfl)))) r2 trivial
    (cG rfl (o_and2 .t .t) r2 trivial
    (cG rfl (o_move .t (by rfl)) r1 trivial
    (ChainN.cons (Cert.cond rfl rfl (fun h => o_fieldAddr (off := 6) 103 .is (by kernel_rfl) (by rfl))) r2 r1
    (ChainN.cons (Cert.cond rfl rfl (fun h => o_load (ag := false) (sz := 1) 103 (.w h .adr) (by kernel_rfl) (by kernel_rfl) (by kernel_rfl) (by rfl))) r2 r1
    (ChainN.cons (Cert.cond rfl rfl (fun h => o_eql (.w h) (.ci (by kernel_rfl)))) r2 trivial
    (cG rfl (o_and2 .t .t) r2 trivial
    (cG rfl (o_move .t (by rfl)) r1 trivial
    (ChainN.cons (Cert.cond rfl rfl (fun h => o_fieldAddr (off := 7) 103 .is (by kernel_rfl) (by rfl))) r2 r1
    (ChainN.cons (Cert.cond rfl rfl (fun h => o_load (ag := false) (sz := 1) 103 (.w h .adr) (by kernel_rfl) (by kernel_rfl) (by kernel_rfl) (by rfl))) r2 r1
    (ChainN.cons (Cert.cond rfl rfl (fun h => o_eql (.w h) (.ci (by kernel_rfl)))) r2 trivial
    (cG rfl (o_and2 .t .t) r2 trivial
    (cG rfl (o_move .t (by rfl)) r1 trivial
    (ChainN.cons (Cert.cond rfl rfl (fun h => o_fieldAddr (off := 8) 103 .is (by kernel_rfl) (by rfl))) r2 r1
    (ChainN.cons (Cert.cond rfl rfl (fun h => o_load (ag := false) (sz := 1) 103 (.w h .adr) (by kernel_rfl) (by kernel_rfl) (by kernel_rfl) (by rfl))) r2 r1
    (ChainN.cons (Cert.cond rfl rfl (fun h => o_eql (.w h) (.ci (by kernel_rfl)))) r2 trivial
    (ChainN.norm [(0, _), (1, _), (3, _), (5, _), (7, _), (8, _), (10, _), (12, _), (14, _), (16, _), (18, _), (20, _), (22, _), (24, _), (26, _), (27, _), (28, _), (129, _), (132, _)] [(0, _), (101, _), (102, _), (103, _), (104, _), (114, _)] ⟨rfl, rfl, rfl, rfl, rfl, rfl, rfl, rfl, rfl, rfl, rfl, rfl, rfl, rfl, rfl, rfl, rfl, rfl, rfl, trivial⟩ r6
    (cG rfl (o_and2 .t .t) r2 trivial
    (cG rfl (o_move .t (by rfl)) r1 trivial
    (ChainN.cons (Cert.cond rfl rfl (fun h => o_move .t (by rfl))) r2 trivial
    (ChainN.cons (Cert.cond rfl rfl (fun h => o_eql (.w h) (.ci (by kernel_rfl)))) r2 trivial
    (cG rfl (o_and2 .t .t) r2 trivial
    (cG rfl (o_move .t (by rfl)) r1 trivial
    (ChainN.cons (Cert.cond rfl rfl (fun h => o_fieldAddr (off := 9) 104 .is (by kernel_rfl) (by rfl))) r2 r1
    (ChainN.cons (Cert.cond rfl rfl (fun h => o_load (ag := false) (sz := 1) 104 (.w h .adr) (by kernel_rfl) (by kernel_rfl) (by kernel_rfl) (by rfl))) r2 r1
    (ChainN.cons (Cert.cond rfl rfl (fun h => o_eql (.w h) (.ci (by kernel_rfl)))) r2 trivial
    (cG rfl (o_and2 .t .t) r2 trivial
    (cG rfl (o_move .t (by rfl)) r1 trivial
    (ChainN.cons (Cert.cond rfl rfl (fun h => o_move .t (by rfl))) r2 trivial
    (ChainN.cons (Cert.cond rfl rfl (fun h => o_eql (.w h) (.ci (by kernel_rfl)))) r2 trivial
    (cG rfl (o_and2 .t .t) r2 trivial
    (cG rfl (o_move .t (by rfl)) r1 trivial
    (ChainN.cons (Cert.cond rfl rfl (fun h => o_move .t (by rfl))) r2 trivial
    (ChainN.cons (Cert.cond rfl rfl (fun h => o_eql (.w h) (.ci (by kernel_rfl)))) r2 trivial
    (cG rfl (o_and2 .t .t) r2 trivial
    (cG rfl (o_move .t (by rfl)) r1 trivial
    (ChainN.cons (Cert.cond rfl rfl (fun h => o_move .t (by rfl))) r2 trivial
    (ChainN.cons (Cert.cond rfl rfl (fun h => o_eql (.w h) (.ci (by kernel_rfl)))) r2 trivial
    (cG rfl (o_and2 .t .t) r2 trivial
    (cG rfl (o_move .t (by rfl)) r1 trivial
    (ChainN.cons (Cert.cond rfl rfl (fun h => o_move .t (by rfl))) r2 trivial
    (ChainN.norm [(0, _), (1, _), (3, _), (5, _), (18, _), (20, _), (22, _), (24, _), (26, _), (27, _), (28, _), (155, _), (156, _)] [(0, _), (101, _), (102, _), (103, _), (104, _), (114, _)] ⟨rfl, rfl, rfl, rfl, rfl, rfl, rfl, rfl, rfl, rfl, rfl, rfl, rfl, trivial⟩ r6
    (ChainN.cons (Cert.cond rfl rfl (fun h => o_eql (.w h) (.ci (by kernel_rfl)))) r2 trivial
    (cG rfl (o_and2 .t .t) r2 trivial
    (cG rfl (o_move .t (by rfl)) r1 trivial
    (ChainN.cons (Cert.cond rfl rfl (fun h => o_move .t (by rfl))) r2 trivial
    (ChainN.cons (Cert.cond rfl rfl (fun h => o_eql (.w h) (.ci (by kernel_rfl)))) r2 trivial
    (cG rfl (o_and2 .t .t) r2 trivial
    (cG rfl (o_move .t (by rfl)) r1 trivial
    (ChainN.cons (Cert.cond rfl rfl (fun h => o_move .t (by rfl))) r2 trivial
    (ChainN.cons (Cert.cond rfl rfl (fun h => o_eql (.w h) (.ci (by kernel_rfl)))) r2 trivial
    (cG rfl (o_and2 .t .t) r2 trivial
    (cG rfl (o_move .t (by rfl)) r1 trivial
    (ChainN.cons (Cert.cond rfl rfl (fun h => o_move .t (by rfl))) r2 trivial
    (ChainN.cons (Cert.cond rfl rfl (fun h => o_eql (.w h) (.ci (by kernel_rfl)))) r2 trivial
    (cG rfl (o_and2 .t .t) r2 trivial
    (cG rfl (o_move .t (by rfl)) r1 trivial
    (ChainN.cons (Cert.cond rfl rfl (fun h => o_move .t (by rfl))) r2 trivial
    (ChainN.cons (Cert.cond rfl rfl (fun h => o_eql (.w h) (.ci (by kernel_rfl)))) r2 trivial
    (cG rfl (o_and2 .t .t) r2 trivial
    (cG rfl (o_move .t (by rfl)) r1 trivial
    (ChainN.cons (Cert.cond rfl rfl (fun h => o_move .t (by rfl))) r2 trivial
    (ChainN.cons (Cert.cond rfl rfl (fun h => o_eql (.w h) (.ci (by kernel_rfl)))) r2 trivial
    (cG rfl (o_and2 .t .t) r2 trivial
    (cG rfl (o_move .t (by rfl)) r1 trivial
    (ChainN.cons (Cert.cond rfl rfl (fun h => o_move .t (by rfl))) r2 trivial
    (ChainN.norm [(0, _), (1, _), (3, _), (5, _), (27, _), (179, _), (180, _)] [(0, _), (101, _), (102, _), (103, _), (104, _), (114, _)] r7 r6
    (ChainN.cons (Cert.cond rfl rfl (fun h => o_eql (.w h) (.ci (by kernel_rfl)))) r2 trivial
    (cG rfl (o_and2 .t .t) r2 trivial
    (cG rfl (o_move .t (by rfl)) r1 trivial
    (ChainN.cons (Cert.cond rfl rfl (fun h => o_load (ag := true) (sz := 10) 114 .is (by kernel_rfl) (by kernel_rfl) (by kernel_rfl) (by rfl))) r2 r1
    (ChainN.cons (Cert.cond rfl rfl (fun h => o_build (r := [(0, _)]) (zs := [.int .i64 0, .int .i64 0, .bool false, .slice none 0 0, .int .i64 0, .slice none 0 0, .int .i64 0, .int .i64 0, .int .i64 0, .int .i64 0]) (pl := [(0, 1), (1, 3), (4, 2), (6, 1), (7, 1), (8, 1), (9, 1)]) (by kernel_rfl) (by kernel_rfl) (.one rfl (.ci (by kernel_rfl)) one_int (by kernel_rfl) .nil) (by rfl))) r1 trivial
    (ChainN.cons (Cert.cond rfl rfl (fun h => o_callP (cmdSame_c p82.1 (zeroC 12)) Tryd.func22 rfl (by kernel_rfl) (Args.two (.pagg (.w h)) (.conv (.pagg (.w h)) (Ent.paggLe (zeroC_le 12 0)))))) r3 trivial
    (cG rfl (o_and2 .t .t) r2 trivial
    (cG rfl (o_move .t (by rfl)) r1 trivial
    (ChainN.cons (Cert.cond rfl rfl (fun h => o_load (ag := true) (sz := 10) 101 .is (by kernel_rfl) (by kernel_rfl) (by kernel_rfl) (by rfl))) r2 r1
    (ChainN.cons (Cert.cond rfl rfl (fun h => o_callP (cmdText_c p30.1 (by rw [← e30]; decide +kernel)) Tryd.func19 rfl (by kernel_rfl) (Args.one (.pagg (.w h))))) r2 trivial
    (ChainN.cons (Cert.cond rfl rfl (fun h => o_eql_bs Tryd.underlying9 (.w h) (.cs (by kernel_rfl)))) r2 trivial
    (cG rfl (o_and2 .t .t) r2 trivial
    (cG rfl (o_move .t (by rfl)) r1 trivial
    (ChainN.cons (Cert.cond rfl rfl (fun h => o_load (ag := true) (sz := 10) 102 .is (by kernel_rfl) (by kernel_rfl) (by kernel_rfl) (by rfl))) r2 r1
    (ChainN.cons (Cert.cond rfl rfl (fun h => o_callP (cmdText_c p34.1 (by rw [← e34]; decide +kernel)) Tryd.func19 rfl (by kernel_rfl) (Args.one (.pagg (.w h))))) r2 trivial
    (ChainN.cons (Cert.cond rfl rfl (fun h => o_eql_bs Tryd.underlying9 (.w h) (.cs (by kernel_rfl)))) r2 trivial
    (cG rfl (o_and2 .t .t) r2 trivial
    (cG rfl (o_move .t (by rfl)) r1 trivial
    (ChainN.cons (Cert.cond rfl rfl (fun h => o_load (ag := true) (sz := 10) 103 .is (by kernel_rfl) (by kernel_rfl) (by kernel_rfl) (by rfl))) r2 r1
    (ChainN.cons (Cert.cond rfl rfl (fun h => o_callP (cmdText_c p38.1 (by rw [← e38]; decide +kernel)) Tryd.func19 rfl (by kernel_rfl) (Args.one (.pagg (.w h))))) r2 trivial
    (ChainN.cons (Cert.cond rfl rfl (fun h => o_eql_bs Tryd.underlying9 (.w h) (.cs (by kernel_rfl)))) r2 trivial
    (cG rfl (o_and2 .t .t) r2 trivial
    (cG rfl (o_move .t (by rfl)) r1 trivial
    (ChainN.cons (Cert.cond rfl rfl (fun h => o_build (r := []) (zs := [.int .i64 0, .int .i64 0, .bool false, .slice none 0 0, .int .i64 0, .slice none 0 0, .int .i64 0, .int .i64 0, .int .i64 0, .int .i64 0]) (pl := [(0, 1), (1, 3), (4, 2), (6, 1), (7, 1), (8, 1), (9, 1)]) (by kernel_rfl) (by kernel_rfl) .nil (by rfl))) r1 trivial
    (ChainN.norm [(0, _), (1, _), (3, _), (203, _), (204, _)] [(0, _), (101, _), (102, _), (103, _), (104, _), (114, _)] r5 r6
    (ChainN.cons (Cert.cond rfl rfl (fun h => o_callP (cmdText_c (zeroC 0) (by decide)) Tryd.func19 rfl (by kernel_rfl) (Args.one (.conv (.pagg (.w h)) (Ent.paggLe (zeroC_le 0 0)))))) r2 trivial
    (ChainN.cons (Cert.cond rfl rfl (fun h => o_eql_bs Tryd.underlying9 (.w h) (.cs (by kernel_rfl)))) r2 trivial
    (cG rfl (o_and2 .t .t) r2 trivial
    (cG rfl (o_move .t (by rfl)) r1 trivial
    (ChainN.cons (Cert.cond rfl rfl (fun h => o_load (ag := true) (sz := 10) 101 .is (by kernel_rfl) (by kernel_rfl) (by kernel_rfl) (by rfl))) r2 r1
    (ChainN.cons (Cert.cond rfl rfl (fun h => o_callP (cmdRight_c p30.1 (by rw [← e30]; decide +kernel)) Tryd.func20 rfl (by kernel_rfl) (Args.one (.pagg (.w h))))) r2 trivial
    (cG rfl (o_and2 .t .t) r2 trivial
    (cG rfl (o_move .t (by rfl)) r1 trivial
    (ChainN.cons (Cert.cond rfl rfl (fun h => o_build (r := [(0, _), (4, _)]) (zs := [.int .i64 0, .int .i64 0, .bool false, .slice none 0 0, .int .i64 0, .slice none 0 0, .int .i64 0, .int .i64 0, .int .i64 0, .int .i64 0]) (pl := [(0, 1), (1, 3), (4, 2), (6, 1), (7, 1), (8, 1), (9, 1)]) (by kernel_rfl) (by kernel_rfl) (.one rfl (.ci (by kernel_rfl)) one_int (by kernel_rfl) (.one rfl (.ci (by kernel_rfl)) one_int (by kernel_rfl) .nil)) (by rfl))) r1 trivial
    (ChainN.cons (Cert.cond rfl rfl (fun h => o_callP (cmdRight_c {zeroC 6 with id := 1} (by decide)) Tryd.func20 rfl (by kernel_rfl) (Args.one (.conv (.pagg (.w h)) (Ent.paggLe (zeroC_le 6 1)))))) r2 trivial
    (ChainN.cons (Cert.cond rfl rfl (fun h => o_not (.w h))) r2 trivial
    (cG rfl (o_and2 .t .t) r2 trivial
    (cG rfl (o_move .t (by rfl)) r1 trivial
    (ChainN.cons (Cert.cond rfl rfl (fun h => o_load (ag := true) (sz := 10) 101 .is (by kernel_rfl) (by kernel_rfl) (by kernel_rfl) (by rfl))) r2 r1
    (ChainN.cons (Cert.cond rfl rfl (fun h => o_load (ag := true) (sz := 10) 102 .is (by kernel_rfl) (by kernel_rfl) (by kernel_rfl) (by rfl))) r2 r1
    (ChainN.cons (Cert.cond rfl rfl (fun h => o_callP (cmdSame_c p30.1 p34.1) Tryd.func22 rfl (by kernel_rfl) (Args.two (.pagg (.w h)) (.pagg (.w h))))) r3 trivial
    (ChainN.cons (Cert.cond rfl rfl (fun h => o_not (.w h))) r2 trivial
    (cG rfl (o_and2 .t .t) r2 trivial
    (cG rfl (o_assign .t (by rfl)) r1 trivial
    ChainN.nil))))))))))))))))))))))))))))))))))))))))))))))))))))))))))))))))))))))))))))))))))))))))))))))))))))))))))))))))))))))))))))))))))))))))))))))))
    (by kernel_rfl) (by rw [hB]; kernel_rfl) ?_
  clear hS; intro a w F hS
  obtain ⟨F, hS⟩ := hS.norm [(0, _)] [(0, _)] r1 r1
  try dsimp only [List.map, stCells, List.length_cons, List.length_nil, Nat.reduceAdd, List.drop_succ_cons, List.drop_zero, List.drop_nil, List.take_succ_cons, List.take_zero, List.take_nil, List.cons_append, List.nil_append, zCF, ldSF, rCmd] at hS
  refine then_n ?_
  refine wp_ret ?_
  refine ret_P hfr hS rfl (.tmp rfl .nil) (.one (.bool (by subst e30; subst e34; subst e38; subst e42; subst e46; subst e50; subst e54; subst e58; subst e62; subst e66; subst e70; subst e74; subst e78; subst e82; decide +kernel)))

end Go.Proofs.YtjdcnjemhjldoaaDoor
