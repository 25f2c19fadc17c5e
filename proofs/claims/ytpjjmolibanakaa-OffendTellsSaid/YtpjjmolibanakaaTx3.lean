/- Keys. No condition beyond those that each theorem says. -/
import Derived.Test.YtpjjmolibanakaaTx1
import Derived.Test.YtpjjmolibanakaaSrt
namespace Go.Proofs.Ytpjjmolibanakaa
open Go Go.Gm
set_option linter.unusedVariables false
set_option linter.unusedSimpArgs false
set_option maxHeartbeats 4000000
set_option maxRecDepth 8000


theorem tkeys_c (t : TxD) (hl : t.ops.length ≤ 1000000) (p : OpD → Bool) (f : FuncId) (fn : Func) (cps : List PV) (hf : Try.prog.funcs[f]? = some fn) (hb : fn.body.isSome = true) (hnn : (fn.name == "runtime.NumGoroutine") = false) (hw : ∀ x, FnP Try.prog f (.agg (rOp x) :: cps) (.bool (p x))) : FnP Try.prog 91 [.agg (rTx t), .clos f cps] (.sl rInt (keysL ((t.ops.filter p).map OpD.key))) := by
  refine FnP.mk Try.func91 rfl Try.ntmps91 rfl ?_
  intro B a w F hB hfr hS
  refine wp_seq ?_
  refine region_seq hS (by kernel_rfl)
    (cF rfl (o_boxA 101 (.conv .t .agg) (by kernel_rfl)) r1 trivial
    (cF rfl (o_assign (.c rfl) (by rfl)) trivial trivial
    Chain.nil))
    (by kernel_rfl) (by rw [hB]; kernel_rfl) ?_
  clear hS; intro a w F hS
  replace hS := hS.sub
  obtain ⟨F, hS⟩ := hS.norm [(1, _), (2, _), (4, _)] [(0, _), (101, _)] r3 r2
  try dsimp only [RS.sub, SF.sub, CF.sub, csub, Anc.sub, List.map, zCF, rInt, rOp, rTx] at hS
  generalize Act.tau a 2 = v2 at hS
  refine then_n ?_
  refine wp_seq ?_
  refine region_seq hS (by kernel_rfl)
    (cF rfl (o_assign (.c rfl) (by rfl)) trivial trivial
    Chain.nil)
    (by kernel_rfl) (by rw [hB]; kernel_rfl) ?_
  clear hS; intro a w F hS
  obtain ⟨F, hS⟩ := hS.norm [(1, _), (2, _), (4, _), (5, _)] [(0, _), (101, _)] r4 r2
  try dsimp only [rInt, rOp, rTx] at hS
  refine then_n ?_
  refine wp_seq ?_
  refine wp_seq ?_
  refine region_seq hS (by kernel_rfl)
    (cF rfl (o_fieldAddr (off := 2) 101 .is (by kernel_rfl) (by rfl)) r1 r1
    (cF rfl (o_load (ag := false) (sz := 1) 101 .adr (by kernel_rfl) (by kernel_rfl) (by kernel_rfl) (by rfl)) r1 r1
    (cF rfl (o_len_sl Try.underlying46 .t) r1 trivial
    (cF rfl (o_move (.ci (by kernel_rfl)) (by rfl)) trivial trivial
    Chain.nil))))
    (by kernel_rfl) (by rw [hB]; kernel_rfl) ?_
  clear hS; intro a w F hS
  obtain ⟨F, hS⟩ := hS.norm [(1, _), (4, _), (5, _), (9, _), (10, _), (11, _)] [(0, _), (101, _)] r6 r2
  try dsimp only [List.map, List.drop_succ_cons, List.drop_zero, List.drop_nil, List.take_succ_cons, List.take_zero, List.take_nil, ldSF, rInt, rOp, rTx] at hS
  refine then_n ?_
  refine wp_block ?_
  replace hS := hS.fresh 50 rfl
  replace hS := hS.turn 50 rfl (nilRow (T := 3) (sz := 1) (R := rInt))
  refine loop_keep (σ := (Nat) × (Value) × (List Int)) [1, 4, 9, 10] [0, 101] (fun s => [(11, .pv (.int .i64 (s.1 : Int))), (5, .pv (.is s.2.1))]) (fun s => [(50, .ob (.val s.2.1) (rowH 3 1 rInt s.2.2))]) (fun s => s.1 ≤ t.ops.length ∧ (s.2.2 = (((t.ops.take s.1).filter p).map OpD.key))) (fun s => t.ops.length - s.1) ((0), (.slice none 0 0), ([])) hS ⟨rfl, rfl, rfl, rfl, rfl, rfl, trivial⟩ ⟨rfl, rfl, rfl, trivial⟩ ⟨Nat.zero_le _, rfl⟩ ?_
  clear hS; intro s a w F hC hS
  obtain ⟨i, v, out⟩ := s
  try dsimp only at hC
  obtain ⟨F, hS⟩ := hS.norm [(1, _), (4, _), (5, _), (9, _), (10, _), (11, _)] [(0, _), (50, _), (101, _)] r6 r3
  try dsimp only at hS
  obtain ⟨hi, hq⟩ := hC
  have hol : out.length ≤ i := by rw [hq, List.length_map]; exact Nat.le_trans (List.length_filter_le _ _) (by rw [List.length_take]; omega)
  refine wp_seq ?_
  refine region_seq hS (by kernel_rfl)
    (cF rfl (o_lss .t .t) r2 trivial
    Chain.nil)
    (by kernel_rfl) (by rw [hB]; kernel_rfl) ?_
  clear hS; intro a w F hS
  obtain ⟨F, hS⟩ := hS.norm [(1, _), (4, _), (5, _), (9, _), (10, _), (11, _), (12, _)] [(0, _), (50, _), (101, _)] r7 r3
  try dsimp only [rInt, rOp, rTx] at hS
  refine then_n ?_
  refine wp_seq ?_
  refine cond_b hS rfl (fun hc0 => ?_) (fun hc0 => ?_)
  ·skip
   have hil : i < t.ops.length := by simp at hc0; omega
   refine wp_skip ?_
   refine then_n ?_
   refine wp_seq ?_
   refine wp_block ?_
   refine wp_seq ?_
   refine region_seq hS (by kernel_rfl)
     (cF rfl (o_indexAddr_sl (sz := 4) (.mk Try.underlying46 (by kernel_rfl)) (by intro x; rfl) .t .t (by omega) (by omega)) r2 trivial
     (cF rfl (o_load_ref (ag := true) (sz := 4) .t (by kernel_rfl) (by kernel_rfl) (by kernel_rfl)) r1 trivial
     (cF rfl (o_alloc (zs := [.bool false, .int .i64 0, .int .i64 0, .int .i64 0]) 102 (by kernel_rfl)) trivial trivial
     (cF rfl (o_storeA (sz := 4) 102 .same .t (by kernel_rfl) (by kernel_rfl) (by kernel_rfl)) r2 r1
     Chain.nil))))
     (by kernel_rfl) (by rw [hB]; kernel_rfl) ?_
   clear hS; intro a w F hS
   replace hS := hS.sub
   obtain ⟨F, hS⟩ := hS.norm [(1, _), (4, _), (5, _), (7, _), (9, _), (10, _), (11, _), (12, _), (13, _), (14, _)] [(0, _), (50, _), (101, _), (102, _)] ⟨rfl, rfl, rfl, rfl, rfl, rfl, rfl, rfl, rfl, rfl, trivial⟩ r4
   try dsimp only [RS.sub, SF.sub, CF.sub, csub, Anc.sub, List.map, stCells, List.length_cons, List.length_nil, Nat.reduceAdd, List.drop_succ_cons, List.drop_zero, List.drop_nil, List.take_succ_cons, List.take_zero, List.take_nil, List.cons_append, List.nil_append, zCF, ldSF, rInt, rOp, rTx] at hS
   generalize Act.tau a 7 = v7 at hS
   try simp only [Int.toNat_natCast] at hS
   refine then_n ?_
   refine wp_seq ?_
   refine region_seq hS (by kernel_rfl)
     (cF rfl (o_move .t (by rfl)) r1 trivial
     (cF rfl (o_load (ag := true) (sz := 4) 102 .is (by kernel_rfl) (by kernel_rfl) (by kernel_rfl) (by rfl)) r1 r1
     (cF rfl (o_callClosP (avs := [.agg (rOp (Go.Gm.nth t.ops i))]) .t (hw (Go.Gm.nth t.ops i)) hf hb hnn (Args.one (.pagg .t))) r2 trivial
     Chain.nil)))
     (by kernel_rfl) (by rw [hB]; kernel_rfl) ?_
   clear hS; intro a w F hS
   obtain ⟨F, hS⟩ := hS.norm [(1, _), (4, _), (5, _), (7, _), (9, _), (10, _), (11, _), (12, _), (13, _), (14, _), (15, _), (16, _), (17, _)] [(0, _), (50, _), (101, _), (102, _)] ⟨rfl, rfl, rfl, rfl, rfl, rfl, rfl, rfl, rfl, rfl, rfl, rfl, rfl, trivial⟩ r4
   try dsimp only [List.map, List.drop_succ_cons, List.drop_zero, List.drop_nil, List.take_succ_cons, List.take_zero, List.take_nil, ldSF, rInt, rOp, rTx] at hS
   refine then_n ?_
   refine cond_b hS rfl (fun hc1 => ?_) (fun hc1 => ?_)
   ·skip
    have hBq : p (Go.Gm.nth t.ops i) = true := by simpa using hc1
    refine region_seq hS (by kernel_rfl)
      (cF rfl (o_move .t (by rfl)) r1 trivial
      (cF rfl (o_fieldAddr (off := 1) 102 .is (by kernel_rfl) (by rfl)) r1 r1
      (cF rfl (o_load (ag := false) (sz := 1) 102 .adr (by kernel_rfl) (by kernel_rfl) (by kernel_rfl) (by rfl)) r1 r1
      (cF rfl (o_buildSliceE (sz := 1) (zs := [.int .i64 0]) (r := [(0, .tmp 20)]) (l := [_]) Try.underlying30 (by kernel_rfl) (by kernel_rfl) (by kernel_rfl) (by kernel_rfl) rfl rfl (.one rfl .t one_int (by kernel_rfl) .nil) rfl) r1 trivial
      (cF rfl (o_append (sz := 1) (bs := 8) 50 (.mk' Try.underlying30 (by kernel_rfl) (by kernel_rfl)) (by intro x; rfl) .is (.arr (l' := [(Go.Gm.nth t.ops i).key]) .t) (by simp only [List.length_append, List.length_cons, List.length_nil, List.length_take, List.length_drop]; omega) (by decide)) ⟨rfl, rfl, trivial⟩ ⟨rfl, trivial⟩
      (cF rfl (o_assign .t (by rfl)) r1 trivial
      Chain.nil))))))
      (by kernel_rfl) (by rw [hB]; kernel_rfl) ?_
    clear hS; intro a w F hS
    replace hS := hS.sub
    obtain ⟨F, hS⟩ := hS.norm [(1, _), (4, _), (5, _), (7, _), (9, _), (10, _), (11, _), (12, _), (13, _), (14, _), (15, _), (16, _), (17, _), (18, _), (19, _), (20, _), (21, _), (22, _)] [(0, _), (50, _), (101, _), (102, _)] ⟨rfl, rfl, rfl, rfl, rfl, rfl, rfl, rfl, rfl, rfl, rfl, rfl, rfl, rfl, rfl, rfl, rfl, rfl, trivial⟩ r4
    try dsimp only [RS.sub, SF.sub, CF.sub, csub, Anc.sub, List.map, stCells, List.length_cons, List.length_nil, Nat.reduceAdd, List.drop_succ_cons, List.drop_zero, List.drop_nil, List.take_succ_cons, List.take_zero, List.take_nil, List.cons_append, List.nil_append, zCF, ldSF, rInt, rOp, rTx] at hS
    generalize Act.tau a 22 = v22 at hS
    refine block_n ?_
    refine then_n ?_
    refine region_seq hS (by kernel_rfl)
      (cF rfl (o_add .t (.ci (by kernel_rfl))) r1 trivial
      (cF rfl (o_move .t (by rfl)) r1 trivial
      Chain.nil))
      (by kernel_rfl) (by rw [hB]; kernel_rfl) ?_
    clear hS; intro a w F hS
    obtain ⟨F, hS⟩ := hS.norm [(1, _), (4, _), (5, _), (7, _), (9, _), (10, _), (11, _), (12, _), (13, _), (14, _), (15, _), (16, _), (17, _), (18, _), (19, _), (20, _), (21, _), (22, _), (23, _)] [(0, _), (50, _), (101, _), (102, _)] ⟨rfl, rfl, rfl, rfl, rfl, rfl, rfl, rfl, rfl, rfl, rfl, rfl, rfl, rfl, rfl, rfl, rfl, rfl, rfl, trivial⟩ r4
    try dsimp only [rInt, rOp, rTx] at hS
    refine then_n ?_
    replace hS := hS.ent (i := 11) (s' := .pv (.int .i64 ((i + 1 : Nat) : Int))) rfl (.int (wrap_succ (by omega)))
    obtain ⟨F, hS⟩ := hS.norm [(11, _), (5, _), (1, _), (4, _), (9, _), (10, _)] [(50, _), (0, _), (101, _)] ⟨rfl, rfl, rfl, rfl, rfl, rfl, trivial⟩ ⟨rfl, rfl, rfl, trivial⟩
    exact ⟨((i + 1), _, _), F, ⟨by omega, (by rw [take_nth hil, List.filter_append, List.map_append, ← hq]; simp [hBq])⟩, hS, by omega⟩
   ·skip
    have hBq : p (Go.Gm.nth t.ops i) = false := by simpa using hc1
    refine wp_skip ?_
    refine block_n ?_
    refine then_n ?_
    refine region_seq hS (by kernel_rfl)
      (cF rfl (o_add .t (.ci (by kernel_rfl))) r1 trivial
      (cF rfl (o_move .t (by rfl)) r1 trivial
      Chain.nil))
      (by kernel_rfl) (by rw [hB]; kernel_rfl) ?_
    clear hS; intro a w F hS
    obtain ⟨F, hS⟩ := hS.norm [(1, _), (4, _), (5, _), (7, _), (9, _), (10, _), (11, _), (12, _), (13, _), (14, _), (15, _), (16, _), (17, _), (23, _)] [(0, _), (50, _), (101, _), (102, _)] ⟨rfl, rfl, rfl, rfl, rfl, rfl, rfl, rfl, rfl, rfl, rfl, rfl, rfl, rfl, trivial⟩ r4
    try dsimp only [rInt, rOp, rTx] at hS
    refine then_n ?_
    replace hS := hS.ent (i := 11) (s' := .pv (.int .i64 ((i + 1 : Nat) : Int))) rfl (.int (wrap_succ (by omega)))
    obtain ⟨F, hS⟩ := hS.norm [(11, _), (5, _), (1, _), (4, _), (9, _), (10, _)] [(50, _), (0, _), (101, _)] ⟨rfl, rfl, rfl, rfl, rfl, rfl, trivial⟩ ⟨rfl, rfl, rfl, trivial⟩
    exact ⟨((i + 1), _, _), F, ⟨by omega, (by rw [take_nth hil, List.filter_append, List.map_append, ← hq]; simp [hBq])⟩, hS, by omega⟩
  ·skip
   have hil : i = t.ops.length := by simp at hc0; omega
   refine wp_exit ?_
   refine then_x ?_
   refine then_x ?_
   refine block_x ?_
   refine then_n ?_
   refine wp_seq ?_
   refine region_seq hS (by kernel_rfl)
     (cF rfl (o_move .t (by rfl)) r1 trivial
     (cF rfl (o_callRow 50 (sort_c _ out (by omega)) Try.func83 rfl (by kernel_rfl) (Args.one .t)) r1 r1
     Chain.nil))
     (by kernel_rfl) (by rw [hB]; kernel_rfl) ?_
   clear hS; intro a w F hS
   obtain ⟨F, hS⟩ := hS.norm [(4, _), (5, _)] [(0, _), (50, _), (101, _)] r2 r3
   try dsimp only [rInt, rOp, rTx] at hS
   refine then_n ?_
   refine wp_seq ?_
   refine region_seq hS (by kernel_rfl)
     (cF rfl (o_move .t (by rfl)) r1 trivial
     (cF rfl (o_callRowN 50 (compI_c _ _ (by rw [List.length_mergeSort]; omega)) Try.func124 rfl (by kernel_rfl) (Args.one .t) pvOne1) r1 r1
     (cF rfl (o_assign .t (by rfl)) r1 trivial
     Chain.nil)))
     (by kernel_rfl) (by rw [hB]; kernel_rfl) ?_
   clear hS; intro a w F hS
   replace hS := hS.sub
   obtain ⟨F, hS⟩ := hS.norm [(4, _)] [(0, _), (50, _), (101, _)] r1 r3
   try dsimp only [RS.sub, SF.sub, CF.sub, csub, Anc.sub, List.map, rInt, rOp, rTx] at hS
   generalize Act.tau a 27 = v27 at hS
   refine then_n ?_
   refine wp_ret ?_
   obtain ⟨F, hS⟩ := hS.give 50 4 rfl rfl
   refine ret_P hfr hS rfl (.tmp rfl .nil) (.one (.sl (by rw [compactG_L, keys_sorted, hq, hil, List.take_length])))

end Go.Proofs.Ytpjjmolibanakaa
