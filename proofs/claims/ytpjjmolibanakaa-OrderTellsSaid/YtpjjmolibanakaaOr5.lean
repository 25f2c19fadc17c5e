/- Right orders. No condition beyond those that each theorem says. -/
import Derived.Test.YtpjjmolibanakaaOr4
import Derived.Test.YtpjjmolibanakaaLibP
namespace Go.Proofs.Ytpjjmolibanakaa
open Go Go.Gm
set_option linter.unusedVariables false
set_option linter.unusedSimpArgs false
set_option maxHeartbeats 4000000
set_option maxRecDepth 8000


theorem there07_c (l : List Int) (j : Int) : FnP Try.prog 78 [.sl rInt l, .int .i64 j] (.bool (decide (0 ≤ j ∧ j < l.length))) := by
  refine FnP.mk Try.func78 rfl Try.ntmps78 rfl ?_
  intro B a w F hB hfr hS
  refine wp_seq ?_
  refine region_seq hS (by kernel_rfl)
    (cF rfl (o_assign .cb (by rfl)) trivial trivial
    Chain.nil)
    (by kernel_rfl) (by rw [hB]; kernel_rfl) ?_
  clear hS; intro a w F hS
  obtain ⟨F, hS⟩ := hS.norm [(0, _), (1, _), (4, _)] [(0, _)] r3 r1
  try dsimp only [rInt] at hS
  refine then_n ?_
  refine wp_seq ?_
  refine region_seq hS (by kernel_rfl)
    (cF rfl (o_move .t (by rfl)) r1 trivial
    (cF rfl (o_geq .t (.ci (by kernel_rfl))) r1 trivial
    (cF rfl (o_move .t (by rfl)) r1 trivial
    (Chain.cons (Cert.cond rfl rfl (fun h => o_move .t (by rfl))) r2 trivial
    (Chain.cons (Cert.cond rfl rfl (fun h => o_move .t (by rfl))) r2 trivial
    (Chain.cons (Cert.cond rfl rfl (fun h => o_len_sl Try.underlying30 (.w h))) r2 trivial
    (Chain.cons (Cert.cond rfl rfl (fun h => o_lss (.w h) (.w h))) r3 trivial
    (cF rfl (o_and2 .t .t) r2 trivial
    (cF rfl (o_assign .t (by rfl)) r1 trivial
    Chain.nil)))))))))
    (by kernel_rfl) (by rw [hB]; kernel_rfl) ?_
  clear hS; intro a w F hS
  obtain ⟨F, hS⟩ := hS.norm [(4, _)] [(0, _)] r1 r1
  try dsimp only [rInt] at hS
  refine then_n ?_
  refine wp_ret ?_
  refine ret_P hfr hS rfl (.tmp rfl .nil) (.one (.bool (by simp)))

theorem ins07_c (l : List Int) (j x : Int) (hl : l.length ≤ 1000000) : FnP Try.prog 79 [.sl rInt l, .int .i64 j, .int .i64 x] (.tup [.sl rInt (insL l j x), .bool (decide (0 ≤ j ∧ j ≤ l.length))]) := by
  refine FnP.mk Try.func79 rfl Try.ntmps79 rfl ?_
  intro B a w F hB hfr hS
  refine wp_seq ?_
  refine region_seq hS (by kernel_rfl)
    (cF rfl (o_assign (.c rfl) (by rfl)) trivial trivial
    (cF rfl (o_assign .cb (by rfl)) trivial trivial
    Chain.nil))
    (by kernel_rfl) (by rw [hB]; kernel_rfl) ?_
  clear hS; intro a w F hS
  obtain ⟨F, hS⟩ := hS.norm [(0, _), (1, _), (2, _), (6, _), (7, _)] [(0, _)] r5 r1
  try dsimp only [rInt] at hS
  refine then_n ?_
  refine wp_seq ?_
  refine wp_seq ?_
  refine region_seq hS (by kernel_rfl)
    (cF rfl (o_move .t (by rfl)) r1 trivial
    (cF rfl (o_lss .t (.ci (by kernel_rfl))) r1 trivial
    (cF rfl (o_move .t (by rfl)) r1 trivial
    (Chain.cons (Cert.cond rfl rfl (fun h => o_move .t (by rfl))) r2 trivial
    (Chain.cons (Cert.cond rfl rfl (fun h => o_move .t (by rfl))) r2 trivial
    (Chain.cons (Cert.cond rfl rfl (fun h => o_len_sl Try.underlying30 (.w h))) r2 trivial
    (Chain.cons (Cert.cond rfl rfl (fun h => o_gtr (.w h) (.w h))) r3 trivial
    (cF rfl (o_or2 .t .t) r2 trivial
    Chain.nil))))))))
    (by kernel_rfl) (by rw [hB]; kernel_rfl) ?_
  clear hS; intro a w F hS
  obtain ⟨F, hS⟩ := hS.norm [(0, _), (1, _), (2, _), (6, _), (7, _), (16, _)] [(0, _)] r6 r1
  try dsimp only [rInt] at hS
  refine then_n ?_
  refine cond_b hS rfl (fun hc0 => ?_) (fun hc0 => ?_)
  ·skip
   have hj : ¬ (0 ≤ j ∧ j ≤ l.length) := by simp at hc0; omega
   have hfin : l = insL l j x := (if_neg hj).symm
   have hfin2 : false = decide (0 ≤ j ∧ j ≤ l.length) := (decide_eq_false hj).symm
   refine wp_seq ?_
   refine region_seq hS (by kernel_rfl)
     (cF rfl (o_move .t (by rfl)) r1 trivial
     (cF rfl (o_assign .t (by rfl)) r1 trivial
     (cF rfl (o_assign .cb (by rfl)) trivial trivial
     Chain.nil)))
     (by kernel_rfl) (by rw [hB]; kernel_rfl) ?_
   clear hS; intro a w F hS
   obtain ⟨F, hS⟩ := hS.norm [(0, _), (1, _), (2, _), (6, _), (7, _)] [(0, _)] r5 r1
   try dsimp only [rInt] at hS
   refine then_n ?_
   refine wp_ret ?_
   refine then_r ?_
   refine ret_P hfr hS rfl (.tmp rfl (.tmp rfl .nil)) (.two (.sl hfin) (.bool hfin2))
  ·skip
   have hj : 0 ≤ j ∧ j ≤ l.length := by simp at hc0; omega
   have hfin : [] ++ l.take j.toNat ++ [x] ++ l.drop j.toNat = insL l j x := by unfold insL; rw [if_pos hj]; simp
   have hfin2 : true = decide (0 ≤ j ∧ j ≤ l.length) := (decide_eq_true hj).symm
   refine wp_skip ?_
   refine then_n ?_
   refine wp_seq ?_
   refine region_seq hS (by kernel_rfl)
     (cF rfl (o_buildSlice0 (R := rInt) (sz := 1) 101 Try.underlying30 (by kernel_rfl)) trivial trivial
     (cF rfl (o_move .t (by rfl)) r1 trivial
     (cF rfl (o_move .t (by rfl)) r1 trivial
     (cF rfl (o_slice_hi (sz := 1) (.mk Try.underlying30 (by kernel_rfl)) (by intro x; rfl) .t .t (by omega) (by omega)) r2 trivial
     (cF rfl (o_append (sz := 1) (bs := 8) 101 (.mk' Try.underlying30 (by kernel_rfl) (by kernel_rfl)) (by intro x; rfl) .same (.sl .t) (by simp only [List.length_append, List.length_cons, List.length_nil, List.length_take, List.length_drop]; omega) (by decide)) ⟨rfl, rfl, trivial⟩ ⟨rfl, trivial⟩
     (cF rfl (o_assign .t (by rfl)) r1 trivial
     Chain.nil))))))
     (by kernel_rfl) (by rw [hB]; kernel_rfl) ?_
   clear hS; intro a w F hS
   replace hS := hS.sub
   obtain ⟨F, hS⟩ := hS.norm [(0, _), (1, _), (2, _), (6, _), (7, _), (8, _)] [(0, _), (101, _)] r6 r2
   try dsimp only [RS.sub, SF.sub, CF.sub, csub, Anc.sub, List.map, stCells, List.length_cons, List.length_nil, Nat.reduceAdd, List.drop_succ_cons, List.drop_zero, List.drop_nil, List.take_succ_cons, List.take_zero, List.take_nil, List.cons_append, List.nil_append, zCF, rInt] at hS
   generalize Act.tau a 22 = v22 at hS
   refine then_n ?_
   refine wp_seq ?_
   refine region_seq hS (by kernel_rfl)
     (cF rfl (o_move .t (by rfl)) r1 trivial
     (cF rfl (o_move .t (by rfl)) r1 trivial
     (cF rfl (o_buildSliceE (sz := 1) (zs := [.int .i64 0]) (r := [(0, .tmp 24)]) (l := [_]) Try.underlying30 (by kernel_rfl) (by kernel_rfl) (by kernel_rfl) (by kernel_rfl) rfl rfl (.one rfl .t one_int (by kernel_rfl) .nil) rfl) r1 trivial
     (cF rfl (o_append (sz := 1) (bs := 8) 101 (.mk' Try.underlying30 (by kernel_rfl) (by kernel_rfl)) (by intro x; rfl) .is (.arr (l' := [x]) .t) (by simp only [List.length_append, List.length_cons, List.length_nil, List.length_take, List.length_drop]; omega) (by decide)) ⟨rfl, rfl, trivial⟩ ⟨rfl, trivial⟩
     (cF rfl (o_assign .t (by rfl)) r1 trivial
     Chain.nil)))))
     (by kernel_rfl) (by rw [hB]; kernel_rfl) ?_
   clear hS; intro a w F hS
   replace hS := hS.sub
   obtain ⟨F, hS⟩ := hS.norm [(0, _), (1, _), (6, _), (7, _), (8, _)] [(0, _), (101, _)] r5 r2
   try dsimp only [RS.sub, SF.sub, CF.sub, csub, Anc.sub, List.map, stCells, List.length_cons, List.length_nil, Nat.reduceAdd, List.drop_succ_cons, List.drop_zero, List.drop_nil, List.take_succ_cons, List.take_zero, List.take_nil, List.cons_append, List.nil_append, zCF, rInt] at hS
   generalize Act.tau a 26 = v26 at hS
   refine then_n ?_
   refine wp_seq ?_
   refine region_seq hS (by kernel_rfl)
     (cF rfl (o_move .t (by rfl)) r1 trivial
     (cF rfl (o_move .t (by rfl)) r1 trivial
     (cF rfl (o_move .t (by rfl)) r1 trivial
     (cF rfl (o_slice_lo (sz := 1) (.mk Try.underlying30 (by kernel_rfl)) (by intro x; rfl) .t .t (by omega) (by omega)) r2 trivial
     (cF rfl (o_append (sz := 1) (bs := 8) 101 (.mk' Try.underlying30 (by kernel_rfl) (by kernel_rfl)) (by intro x; rfl) .is (.sl .t) (by simp only [List.length_append, List.length_cons, List.length_nil, List.length_take, List.length_drop]; omega) (by decide)) ⟨rfl, rfl, trivial⟩ ⟨rfl, trivial⟩
     (cF rfl (o_assign .t (by rfl)) r1 trivial
     Chain.nil))))))
     (by kernel_rfl) (by rw [hB]; kernel_rfl) ?_
   clear hS; intro a w F hS
   replace hS := hS.sub
   obtain ⟨F, hS⟩ := hS.norm [(6, _), (7, _), (8, _)] [(0, _), (101, _)] r3 r2
   try dsimp only [RS.sub, SF.sub, CF.sub, csub, Anc.sub, List.map, List.cons_append, List.nil_append, rInt] at hS
   generalize Act.tau a 31 = v31 at hS
   refine then_n ?_
   refine wp_seq ?_
   refine region_seq hS (by kernel_rfl)
     (cF rfl (o_move .t (by rfl)) r1 trivial
     (cF rfl (o_assign .t (by rfl)) r1 trivial
     (cF rfl (o_assign .cb (by rfl)) trivial trivial
     Chain.nil)))
     (by kernel_rfl) (by rw [hB]; kernel_rfl) ?_
   clear hS; intro a w F hS
   obtain ⟨F, hS⟩ := hS.norm [(6, _), (7, _)] [(0, _), (101, _)] r2 r2
   try dsimp only [rInt] at hS
   refine then_n ?_
   refine wp_ret ?_
   obtain ⟨F, hS⟩ := hS.give 101 6 rfl rfl
   refine ret_P hfr hS rfl (.tmp rfl (.tmp rfl .nil)) (.two (.sl hfin) (.bool hfin2))

theorem del07_c (l : List Int) (j : Int) (hl : l.length ≤ 1000000) (hj : 0 ≤ j ∧ j < l.length) : FnP Try.prog 80 [.sl rInt l, .int .i64 j] (.sl rInt (l.eraseIdx j.toNat)) := by
  refine FnP.mk Try.func80 rfl Try.ntmps80 rfl ?_
  intro B a w F hB hfr hS
  have hw : IntKind.wrap .i64 (j + 1) = j + 1 := wrap_i64 (by omega)
  have hfin : [] ++ l.take j.toNat ++ l.drop (IntKind.wrap .i64 (j + 1)).toNat = l.eraseIdx j.toNat := by rw [hw, List.eraseIdx_eq_take_drop_succ, List.nil_append, show (j + 1).toNat = j.toNat + 1 by omega]
  refine wp_seq ?_
  refine region_seq hS (by kernel_rfl)
    (cF rfl (o_assign (.c rfl) (by rfl)) trivial trivial
    Chain.nil)
    (by kernel_rfl) (by rw [hB]; kernel_rfl) ?_
  clear hS; intro a w F hS
  obtain ⟨F, hS⟩ := hS.norm [(0, _), (1, _), (4, _)] [(0, _)] r3 r1
  try dsimp only [rInt] at hS
  refine then_n ?_
  refine wp_seq ?_
  refine region_seq hS (by kernel_rfl)
    (cF rfl (o_buildSlice0 (R := rInt) (sz := 1) 101 Try.underlying30 (by kernel_rfl)) trivial trivial
    (cF rfl (o_move .t (by rfl)) r1 trivial
    (cF rfl (o_move .t (by rfl)) r1 trivial
    (cF rfl (o_slice_hi (sz := 1) (.mk Try.underlying30 (by kernel_rfl)) (by intro x; rfl) .t .t (by omega) (by omega)) r2 trivial
    (cF rfl (o_append (sz := 1) (bs := 8) 101 (.mk' Try.underlying30 (by kernel_rfl) (by kernel_rfl)) (by intro x; rfl) .same (.sl .t) (by simp only [List.length_append, List.length_cons, List.length_nil, List.length_take, List.length_drop]; omega) (by decide)) ⟨rfl, rfl, trivial⟩ ⟨rfl, trivial⟩
    (cF rfl (o_assign .t (by rfl)) r1 trivial
    Chain.nil))))))
    (by kernel_rfl) (by rw [hB]; kernel_rfl) ?_
  clear hS; intro a w F hS
  replace hS := hS.sub
  obtain ⟨F, hS⟩ := hS.norm [(0, _), (1, _), (4, _), (5, _)] [(0, _), (101, _)] r4 r2
  try dsimp only [RS.sub, SF.sub, CF.sub, csub, Anc.sub, List.map, stCells, List.length_cons, List.length_nil, Nat.reduceAdd, List.drop_succ_cons, List.drop_zero, List.drop_nil, List.take_succ_cons, List.take_zero, List.take_nil, List.cons_append, List.nil_append, zCF, rInt] at hS
  generalize Act.tau a 10 = v10 at hS
  refine then_n ?_
  refine wp_seq ?_
  refine region_seq hS (by kernel_rfl)
    (cF rfl (o_move .t (by rfl)) r1 trivial
    (cF rfl (o_move .t (by rfl)) r1 trivial
    (cF rfl (o_move .t (by rfl)) r1 trivial
    (cF rfl (o_add .t (.ci (by kernel_rfl))) r1 trivial
    (cF rfl (o_slice_lo (sz := 1) (.mk Try.underlying30 (by kernel_rfl)) (by intro x; rfl) .t .t (by rw [hw]; omega) (by rw [hw]; omega)) r2 trivial
    (cF rfl (o_append (sz := 1) (bs := 8) 101 (.mk' Try.underlying30 (by kernel_rfl) (by kernel_rfl)) (by intro x; rfl) .is (.sl .t) (by simp only [List.length_append, List.length_cons, List.length_nil, List.length_take, List.length_drop]; omega) (by decide)) ⟨rfl, rfl, trivial⟩ ⟨rfl, trivial⟩
    (cF rfl (o_assign .t (by rfl)) r1 trivial
    Chain.nil)))))))
    (by kernel_rfl) (by rw [hB]; kernel_rfl) ?_
  clear hS; intro a w F hS
  replace hS := hS.sub
  obtain ⟨F, hS⟩ := hS.norm [(4, _)] [(0, _), (101, _)] r1 r2
  try dsimp only [RS.sub, SF.sub, CF.sub, csub, Anc.sub, List.map, List.cons_append, List.nil_append, rInt] at hS
  generalize Act.tau a 16 = v16 at hS
  refine then_n ?_
  refine wp_ret ?_
  obtain ⟨F, hS⟩ := hS.give 101 4 rfl rfl
  refine ret_P hfr hS rfl (.tmp rfl .nil) (.one (.sl hfin))

theorem oright_c (l : List Int) : FnP Try.prog 27 [.sl rInt l] (.bool (decide (RightO l))) := by
  refine FnP.mk Try.func27 rfl Try.ntmps27 rfl ?_
  intro B a w F hB hfr hS
  have hll := Sat.lenSl hS (i := 0) rfl
  refine wp_seq ?_
  refine region_seq hS (by kernel_rfl)
    (cF rfl (o_assign .cb (by rfl)) trivial trivial
    Chain.nil)
    (by kernel_rfl) (by rw [hB]; kernel_rfl) ?_
  clear hS; intro a w F hS
  obtain ⟨F, hS⟩ := hS.norm [(0, _), (2, _)] [(0, _)] r2 r1
  try dsimp only [rInt] at hS
  refine then_n ?_
  refine wp_seq ?_
  refine region_seq hS (by kernel_rfl)
    (cF rfl (o_makeMap (vk := .i64) (ok := (fun _ => True)) (kv := (fun n : Int => Value.int .i64 n)) 101) trivial trivial
    (cF rfl (o_assign .t (by rfl)) r1 trivial
    Chain.nil))
    (by kernel_rfl) (by rw [hB]; kernel_rfl) ?_
  clear hS; intro a w F hS
  replace hS := hS.sub
  obtain ⟨F, hS⟩ := hS.norm [(0, _), (2, _), (3, _)] [(0, _), (101, _)] r3 r2
  try dsimp only [RS.sub, SF.sub, CF.sub, csub, Anc.sub, List.map, stCells, List.length_cons, List.length_nil, Nat.reduceAdd, List.drop_succ_cons, List.drop_zero, List.drop_nil, List.take_succ_cons, List.take_zero, List.take_nil, List.cons_append, List.nil_append, zCF, rInt] at hS
  generalize Act.tau a 6 = v6 at hS
  refine then_n ?_
  refine wp_seq ?_
  refine wp_seq ?_
  refine region_seq hS (by kernel_rfl)
    (cF rfl (o_move .t (by rfl)) r1 trivial
    (cF rfl (o_len_sl Try.underlying30 .t) r1 trivial
    (cF rfl (o_move (.ci (by kernel_rfl)) (by rfl)) trivial trivial
    Chain.nil)))
    (by kernel_rfl) (by rw [hB]; kernel_rfl) ?_
  clear hS; intro a w F hS
  obtain ⟨F, hS⟩ := hS.norm [(2, _), (3, _), (7, _), (8, _), (9, _)] [(0, _), (101, _)] r5 r2
  try dsimp only [rInt] at hS
  refine then_n ?_
  refine wp_block ?_
  refine loop_keep (σ := (Nat) × (List (MapE Int)) × (Nat)) [2, 3, 7, 8] [0] (fun s => [(9, .pv (.int .i64 (s.1 : Int)))]) (fun s => [(101, .ob (.val v6) (mapH .i64 (fun _ => True) (fun n : Int => Value.int .i64 n) s.2.1 s.2.2))]) (fun s => s.1 ≤ l.length ∧ (RightO (l.take s.1) ∧ ∀ x, mVal x s.2.1 = if x ∈ l.take s.1 then 1 else 0)) (fun s => l.length - s.1) ((0), ([]), (0)) hS ⟨rfl, rfl, rfl, rfl, rfl, trivial⟩ ⟨rfl, rfl, trivial⟩ ⟨Nat.zero_le _, ⟨⟨by simp, by simp⟩, fun x => by simp [mVal]⟩⟩ ?_
  clear hS; intro s a w F hC hS
  obtain ⟨i, es, ck⟩ := s
  try dsimp only at hC
  obtain ⟨F, hS⟩ := hS.norm [(2, _), (3, _), (7, _), (8, _), (9, _)] [(0, _), (101, _)] r5 r2
  try dsimp only at hS
  obtain ⟨hi, hq⟩ := hC
  obtain ⟨hro, hmv⟩ := hq
  have htk : ∀ hil : i < l.length, l.take (i + 1) = l.take i ++ [Go.Gm.nth l i] := fun hil => take_nth hil
  have hv1 : ∀ x, 0 ≤ mVal x es ∧ mVal x es ≤ 1 := fun x => by rw [hmv]; split <;> omega
  have hv2 : mVal (Go.Gm.nth l i) es = if Go.Gm.nth l i ∈ l.take i then 1 else 0 := hmv _
  refine wp_seq ?_
  refine region_seq hS (by kernel_rfl)
    (cF rfl (o_lss .t .t) r2 trivial
    Chain.nil)
    (by kernel_rfl) (by rw [hB]; kernel_rfl) ?_
  clear hS; intro a w F hS
  obtain ⟨F, hS⟩ := hS.norm [(2, _), (3, _), (7, _), (8, _), (9, _), (10, _)] [(0, _), (101, _)] r6 r2
  try dsimp only [rInt] at hS
  refine then_n ?_
  refine wp_seq ?_
  refine cond_b hS rfl (fun hc0 => ?_) (fun hc0 => ?_)
  ·skip
   have hil : i < l.length := by simp at hc0; omega
   refine wp_skip ?_
   refine then_n ?_
   refine wp_seq ?_
   refine wp_block ?_
   refine wp_seq ?_
   refine region_seq hS (by kernel_rfl)
     (cF rfl (o_indexAddr_sl (sz := 1) (.mk Try.underlying30 (by kernel_rfl)) (by intro x; rfl) .t .t (by omega) (by omega)) r2 trivial
     (cF rfl (o_load_ref (ag := false) (sz := 1) .t (by kernel_rfl) (by kernel_rfl) (by kernel_rfl)) r1 trivial
     (cF rfl (o_assign .t (by rfl)) r1 trivial
     Chain.nil)))
     (by kernel_rfl) (by rw [hB]; kernel_rfl) ?_
   clear hS; intro a w F hS
   obtain ⟨F, hS⟩ := hS.norm [(2, _), (3, _), (5, _), (7, _), (8, _), (9, _), (10, _), (11, _), (12, _)] [(0, _), (101, _)] ⟨rfl, rfl, rfl, rfl, rfl, rfl, rfl, rfl, rfl, trivial⟩ r2
   try dsimp only [List.map, List.drop_succ_cons, List.drop_zero, List.drop_nil, List.take_succ_cons, List.take_zero, List.take_nil, ldSF, rInt] at hS
   try simp only [Int.toNat_natCast] at hS
   refine then_n ?_
   refine wp_seq ?_
   refine region_seq hS (by kernel_rfl)
     (cF rfl (o_move .t (by rfl)) r1 trivial
     (cF rfl (o_move .t (by rfl)) r1 trivial
     (cF rfl (o_lookup 101 Try.underlying97 (key_int Try.underlying3) (by kernel_rfl) .is (IsKeyOf.int .t rfl)) r2 r1
     (cF rfl (o_add .t (.ci (by kernel_rfl))) r1 trivial
     (cF rfl (o_mapUpdate 101 Try.underlying97 (key_int Try.underlying3) .is (IsKeyOf.int .t rfl) .t) r3 r1
     Chain.nil)))))
     (by kernel_rfl) (by rw [hB]; kernel_rfl) ?_
   clear hS; intro a w F hS
   obtain ⟨F, hS⟩ := hS.norm [(2, _), (3, _), (5, _), (7, _), (8, _), (9, _), (10, _), (11, _), (12, _), (13, _), (14, _), (15, _), (16, _)] [(0, _), (101, _)] ⟨rfl, rfl, rfl, rfl, rfl, rfl, rfl, rfl, rfl, rfl, rfl, rfl, rfl, trivial⟩ r2
   try dsimp only [rInt] at hS
   refine then_n ?_
   refine wp_seq ?_
   refine region_seq hS (by kernel_rfl)
     (cF rfl (o_move .t (by rfl)) r1 trivial
     (cF rfl (o_lss .t (.ci (by kernel_rfl))) r1 trivial
     (cF rfl (o_move .t (by rfl)) r1 trivial
     (Chain.cons (Cert.cond rfl rfl (fun h => o_move .t (by rfl))) r2 trivial
     (Chain.cons (Cert.cond rfl rfl (fun h => o_gtr (.w h) (.ci (by kernel_rfl)))) r2 trivial
     (cF rfl (o_or2 .t .t) r2 trivial
     (cF rfl (o_move .t (by rfl)) r1 trivial
     (Chain.cons (Cert.cond rfl rfl (fun h => o_move .t (by rfl))) r2 trivial
     (Chain.cons (Cert.cond rfl rfl (fun h => o_move .t (by rfl))) r2 trivial
     (Chain.cons (Cert.cond rfl rfl (fun h => o_lookup 101 Try.underlying97 (key_int Try.underlying3) (by kernel_rfl) (.w h .is) (IsKeyOf.int (.w h) rfl))) r3 r1
     (Chain.cons (Cert.cond rfl rfl (fun h => o_gtr (.w h) (.ci (by kernel_rfl)))) r2 trivial
     (cF rfl (o_or2 .t .t) r2 trivial
     Chain.nil))))))))))))
     (by kernel_rfl) (by rw [hB]; kernel_rfl) ?_
   clear hS; intro a w F hS
   obtain ⟨F, hS⟩ := hS.norm [(2, _), (3, _), (5, _), (7, _), (8, _), (9, _), (10, _), (11, _), (12, _), (13, _), (14, _), (15, _), (16, _), (17, _), (18, _), (19, _), (20, _), (21, _), (22, _), (23, _), (24, _), (25, _), (26, _), (27, _), (28, _)] [(0, _), (101, _)] ⟨rfl, rfl, rfl, rfl, rfl, rfl, rfl, rfl, rfl, rfl, rfl, rfl, rfl, rfl, rfl, rfl, rfl, rfl, rfl, rfl, rfl, rfl, rfl, rfl, rfl, trivial⟩ r2
   try dsimp only [rInt] at hS
   refine then_n ?_
   refine cond_b hS rfl (fun hc1 => ?_) (fun hc1 => ?_)
   ·skip
    have hg : false = decide (RightO l) := (decide_eq_false fun hr => by have h2 := hr.take (i + 1); rw [htk hil] at h2; have h3 := RightO.snoc.1 h2; have h4 := h3.2.1; have h5 := h3.2.2; rw [if_neg h5] at hv2; simp [mVal_put, hv2] at hc1; first | omega | (rw [show IntKind.wrap .i64 1 = 1 by decide] at hc1; omega)).symm
    refine wp_seq ?_
    refine region_seq hS (by kernel_rfl)
      (cF rfl (o_assign .cb (by rfl)) trivial trivial
      Chain.nil)
      (by kernel_rfl) (by rw [hB]; kernel_rfl) ?_
    clear hS; intro a w F hS
    obtain ⟨F, hS⟩ := hS.norm [(2, _), (3, _), (5, _), (7, _), (8, _), (9, _), (10, _), (11, _), (12, _), (13, _), (14, _), (15, _), (16, _), (17, _), (18, _), (19, _), (20, _), (21, _), (22, _), (23, _), (24, _), (25, _), (26, _), (27, _), (28, _)] [(0, _), (101, _)] ⟨rfl, rfl, rfl, rfl, rfl, rfl, rfl, rfl, rfl, rfl, rfl, rfl, rfl, rfl, rfl, rfl, rfl, rfl, rfl, rfl, rfl, rfl, rfl, rfl, rfl, trivial⟩ r2
    try dsimp only [rInt] at hS
    refine then_n ?_
    refine wp_ret ?_
    refine block_r ?_
    refine then_r ?_
    refine then_r ?_
    refine block_r ?_
    refine then_r ?_
    refine ret_P hfr hS rfl (.tmp rfl .nil) (.one (.bool hg))
   ·skip
    have hw1 : IntKind.wrap .i64 (mVal (Go.Gm.nth l i) es + 1) = mVal (Go.Gm.nth l i) es + 1 := wrap_i64 (by have := hv1 (Go.Gm.nth l i); omega)
    have hR2 : RightO (l.take (i + 1)) ∧ ∀ x, mVal x (mPut (Go.Gm.nth l i) (IntKind.wrap .i64 (mVal (Go.Gm.nth l i) es + 1)) (es, ck)).1 = if x ∈ l.take (i + 1) then 1 else 0 := by
      have hh := hc1
      simp [mVal_put, hw1] at hh
      have hni : Go.Gm.nth l i ∉ l.take i := fun hm => by rw [if_pos hm] at hv2; omega
      rw [if_neg hni] at hv2
      refine ⟨by rw [htk hil]; exact RightO.snoc.2 ⟨hro, by omega, hni⟩, fun x => ?_⟩
      rw [mVal_put, hw1, hv2, hmv, htk hil]
      by_cases hx : x = Go.Gm.nth l i
      · subst hx; simp
      · simp [hx]
    generalize (mPut (Go.Gm.nth l i) (IntKind.wrap .i64 (mVal (Go.Gm.nth l i) es + 1)) (es, ck)) = ms at hS hR2
    obtain ⟨es2, ck2⟩ := ms
    dsimp only at hS hR2
    refine wp_skip ?_
    refine block_n ?_
    refine then_n ?_
    refine region_seq hS (by kernel_rfl)
      (cF rfl (o_add .t (.ci (by kernel_rfl))) r1 trivial
      (cF rfl (o_move .t (by rfl)) r1 trivial
      Chain.nil))
      (by kernel_rfl) (by rw [hB]; kernel_rfl) ?_
    clear hS; intro a w F hS
    obtain ⟨F, hS⟩ := hS.norm [(2, _), (3, _), (5, _), (7, _), (8, _), (9, _), (10, _), (11, _), (12, _), (13, _), (14, _), (15, _), (16, _), (17, _), (18, _), (19, _), (20, _), (21, _), (22, _), (23, _), (24, _), (25, _), (26, _), (27, _), (28, _), (29, _)] [(0, _), (101, _)] ⟨rfl, rfl, rfl, rfl, rfl, rfl, rfl, rfl, rfl, rfl, rfl, rfl, rfl, rfl, rfl, rfl, rfl, rfl, rfl, rfl, rfl, rfl, rfl, rfl, rfl, rfl, trivial⟩ r2
    try dsimp only [rInt] at hS
    refine then_n ?_
    replace hS := hS.ent (i := 9) (s' := .pv (.int .i64 ((i + 1 : Nat) : Int))) rfl (.int (wrap_succ (by omega)))
    obtain ⟨F, hS⟩ := hS.norm [(9, _), (2, _), (3, _), (7, _), (8, _)] [(101, _), (0, _)] ⟨rfl, rfl, rfl, rfl, rfl, trivial⟩ ⟨rfl, rfl, trivial⟩
    exact ⟨((i + 1), (es2), (ck2)), F, ⟨by omega, hR2⟩, hS, by omega⟩
  ·skip
   have hil : i = l.length := by simp at hc0; omega
   have hg : true = decide (RightO l) := (decide_eq_true (by rw [hil, List.take_length] at hro; exact hro)).symm
   refine wp_exit ?_
   refine then_x ?_
   refine then_x ?_
   refine block_x ?_
   refine then_n ?_
   refine wp_seq ?_
   refine region_seq hS (by kernel_rfl)
     (cF rfl (o_assign .cb (by rfl)) trivial trivial
     Chain.nil)
     (by kernel_rfl) (by rw [hB]; kernel_rfl) ?_
   clear hS; intro a w F hS
   obtain ⟨F, hS⟩ := hS.norm [(2, _)] [(0, _), (101, _)] r1 r2
   try dsimp only [rInt] at hS
   refine then_n ?_
   refine wp_ret ?_
   refine ret_P hfr hS rfl (.tmp rfl .nil) (.one (.bool hg))

end Go.Proofs.Ytpjjmolibanakaa
