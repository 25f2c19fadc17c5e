/- Bags: Of, heavy. No condition beyond those that each theorem says. -/
import Derived.Test.YtfdjjfplhdpclaaMu6
namespace Go.Proofs.Ytfdjjfplhdpclaa
open Go Go.Gm
set_option linter.unusedVariables false
set_option linter.unusedSimpArgs false
set_option maxHeartbeats 4000000
set_option maxRecDepth 8000


theorem mof_c (l : List HvD) (hl9 : l.length ≤ 90000) : FnG Try.prog 6 1 [.sl rHv l] [HP.star []] (PV.ptr) (fun v => [mulH v (ofB l)]) := by
  refine FnG.mk Try.func6 rfl Try.ntmps6 rfl (by kernel_rfl) ?_
  intro B F0 a w F hB hG hS
  obtain ⟨F, hS⟩ := hS.nm [0] [0] rfl rfl
  refine wp_seq ?_
  refine region_q hS
    (cF rfl (oN (.c rfl)) trivial trivial
    Chain.nil)
    hB ?_
  clear hS; intro a w F hS
  obtain ⟨F, hS⟩ := hS.nm [2, 0] [0] rfl rfl
  try dsimp only [rEdge, rHv] at hS
  refine then_n (wp_seq ?_)
  replace hS := hS.fresh 1 rfl
  refine region_q hS
    (cF rfl (o_callN 1 (mnew_c) Try.func13 rfl (by kernel_rfl) Args.nil PV.ptr_one) trivial r1
    (cF rfl (oN .t) r1 trivial
    Chain.nil))
    hB ?_
  clear hS; intro a w F hS
  replace hS := hS.sub
  obtain ⟨F, hS⟩ := hS.nm [3, 2, 0] [1, 0] rfl rfl
  try dsimp only [RS.sub, SF.sub, CF.sub, csub, Anc.sub, List.map, rEdge, rHv] at hS
  generalize Act.tau a 6 = v6 at hS
  obtain ⟨_, _, _, ho⟩ := hS.obGet 1 rfl
  obtain ⟨b1, rfl⟩ := mulH_ptr ho
  clear ho
  replace hS := hS.turn 1 rfl (r' := RS.hp (mulH (.pointer (some ⟨b1, 0, none⟩)) [])) (fun _ _ _ _ h => h)
  obtain ⟨F, hS⟩ := hS.nm [3, 2, 0] [1, 0] rfl rfl
  refine then_n (wp_seq (wp_seq ?_))
  refine region_q hS
    (cF rfl (oM .t) r1 trivial
    (cF rfl (o_len_sl Try.underlying22 .t) r1 trivial
    (cF rfl (oM (.ci (by kernel_rfl))) trivial trivial
    Chain.nil)))
    hB ?_
  clear hS; intro a w F hS
  obtain ⟨F, hS⟩ := hS.nm [9, 8, 7, 3, 2] [1, 0] rfl rfl
  try dsimp only [rEdge, rHv] at hS
  refine then_n (wp_block ?_)
  refine loop_keep (σ := (Nat) × (List HvD)) [2, 3, 7, 8] [0] (fun s => [(9, .pv (.int .i64 (s.1 : Int)))]) (fun s => [(1, RS.hp (mulH (.pointer (some ⟨b1, 0, none⟩)) s.2))]) (fun s => s.1 ≤ l.length ∧ (s.2 = ofB (l.take s.1))) (fun s => l.length - s.1) ((0), ([])) hS ⟨rfl, rfl, rfl, rfl, rfl, trivial⟩ ⟨rfl, rfl, trivial⟩ ⟨Nat.zero_le _, rfl⟩ ?_
  clear hS; intro s a w F hC hS
  obtain ⟨i, bg⟩ := s
  try dsimp only at hC
  obtain ⟨F, hS⟩ := hS.nm [9, 8, 7, 3, 2] [1, 0] rfl rfl
  try dsimp only at hS
  obtain ⟨hi, hq⟩ := hC
  have hbl : bg.length ≤ i := by rw [hq]; exact Nat.le_trans (ofB_len _) (by rw [List.length_take]; omega)
  refine wp_seq ?_
  refine region_q hS
    (cF rfl (o_lss .t .t) r2 trivial
    Chain.nil)
    hB ?_
  clear hS; intro a w F hS
  obtain ⟨F, hS⟩ := hS.nm [10, 9, 8, 7, 3, 2] [1, 0] rfl rfl
  try dsimp only [rEdge, rHv] at hS
  refine then_n (wp_seq ?_)
  refine cond_b hS rfl (fun hc0 => ?_) (fun hc0 => ?_)
  ·skip
   have hil : i < l.length := by simp at hc0; omega
   refine wp_skip (then_n (wp_seq (wp_block (wp_seq ?_))))
   refine region_q hS
     (cF rfl (o_indexAddr_sl (sz := 5) (.mk Try.underlying22 (by kernel_rfl)) (by intro x; rfl) .t .t (by omega) (by omega)) r2 trivial
     (cF rfl (oR true 5 .t) r1 trivial
     (cF rfl (oH [.int .i64 0, .int .i64 0, .int .i64 0, .int .i64 0, .int .i64 0] 101) trivial trivial
     (cF rfl (oA 5 101 .same .t) r2 r1
     Chain.nil))))
     hB ?_
   clear hS; intro a w F hS
   replace hS := hS.sub
   obtain ⟨F, hS⟩ := hS.nm [9, 8, 7, 5, 3, 2] [101, 1, 0] rfl rfl
   try dsimp only [RS.sub, SF.sub, CF.sub, csub, Anc.sub, List.map, stCells, xL, xM, Nat.reduceAdd, xD, xE, xT, xU, xC, xN, zCF, ldSF, rEdge, rHv] at hS
   generalize Act.tau a 5 = v5 at hS
   try simp only [Int.toNat_natCast] at hS
   refine then_n ?_
   refine region_q hS
     (cF rfl (oM .t) r1 trivial
     (cF rfl (oF 0 101 .is) r1 r1
     (cF rfl (oL true 4 101 .adr) r1 r1
     (cF rfl (oF 4 101 .is) r1 r1
     (cF rfl (oL false 1 101 .adr) r1 r1
     (cF rfl (o_callG1 1 (madd_c b1 bg (Go.Gm.nth l i).edge (Go.Gm.nth l i).cnt (by omega)) Try.func10 rfl (by kernel_rfl) (Args.three .t (.pagg .t) .t)) r3 r1
     Chain.nil))))))
     hB ?_
   clear hS; intro a w F hS
   obtain ⟨F, hS⟩ := hS.nm [9, 8, 7, 3, 2] [1, 0] rfl rfl
   try dsimp only [List.map, xD, xE, xT, xU, ldSF, rEdge, rHv] at hS
   refine block_n (then_n ?_)
   refine region_q hS
     (cF rfl (o_add .t (.ci (by kernel_rfl))) r1 trivial
     (cF rfl (oM .t) r1 trivial
     Chain.nil))
     hB ?_
   clear hS; intro a w F hS
   obtain ⟨F, hS⟩ := hS.nm [9, 8, 7, 3, 2] [1, 0] rfl rfl
   try dsimp only [rEdge, rHv] at hS
   refine then_n ?_
   replace hS := hS.ent (i := 9) (s' := .pv (.int .i64 ((i + 1 : Nat) : Int))) rfl (.int (wrap_succ (by omega)))
   obtain ⟨F, hS⟩ := hS.nm [8, 7, 3, 2, 9] [0, 1] rfl rfl
   exact ⟨((i + 1), ((addB bg (Go.Gm.nth l i).edge (Go.Gm.nth l i).cnt).1)), F, ⟨by omega, (by rw [ofB_next hil, ← hq])⟩, hS, by omega⟩
  have hil : i = l.length := by simp at hc0; omega
  refine wp_exit (then_x (then_x (block_x (then_n (wp_seq ?_)))))
  refine region_q hS
    (cF rfl (oM .t) r1 trivial
    (cF rfl (oN .t) r1 trivial
    Chain.nil))
    hB ?_
  clear hS; intro a w F hS
  obtain ⟨F, hS⟩ := hS.nm [2] [1, 0] rfl rfl
  try dsimp only [rEdge, rHv] at hS
  refine then_n (wp_ret ?_)
  rw [hq, hil, List.take_length] at hS
  refine ret_N1 (h' := fun v => mulH v (ofB l)) hG hS rfl (.tmp rfl .nil) (.one .ptr) rfl

theorem ret_G2c {P : Program} {B : Base} {F0 : Fp} (hG : BaseG B F0 2) {E : En} {a : Act} {w : World} {F : Fp} {fn : Func} {q : PV} {k1 k2 : HP} {ss : List SF} (hS : Sat B E a w F) (h0 : Go.Gm.look E.r 0 = some (frame B)) (hr : ROk P E fn.results.toList ss) (hq : Tells ss q)
    (h1 : Go.Gm.look E.r 1 = some (RS.hp k1)) (h2 : Go.Gm.look E.r 2 = some (RS.hp k2)) : bodyPost P fn (RG B F0 2 q (fun _ => [k1, k2])) .ret a w :=
  ret_G hG hS h0 hr hq fun v τ y hv i h hi => by
    match i, hi with
    | 0, hi => simp at hi; subst hi; exact ⟨_, h1, by omega, fun _ _ _ h => h⟩
    | 1, hi => simp at hi; subst hi; exact ⟨_, h2, by omega, fun _ _ _ h => h⟩

theorem heavy_c (b : Nat) (cv ov iv u : Value) (es : List (GE Int Int)) (ck : Nat) (l : List Int) (hll : l.length ≤ 200000) (hv : ∀ x ∈ l, 0 ≤ (gGet x es).getD 0 ∧ (gGet x es).getD 0 ≤ 2147483647) : FnG Try.prog 26 2 [.is (.pointer (some ⟨b, 0, none⟩)), .is u] [hvH (.pointer (some ⟨b, 0, none⟩)) cv ov iv es ck, rowH 49 1 rU64 l u] (.sl rHv (heavyL l es)) (fun _ => [hvH (.pointer (some ⟨b, 0, none⟩)) cv ov iv es ck, rowH 49 1 rU64 l u]) := by
  refine FnG.mk Try.func26 rfl Try.ntmps26 rfl (by kernel_rfl) ?_
  intro B F0 a w F hB hG hS
  obtain ⟨F, hS⟩ := hS.peel 1 3 rfl rfl
  obtain ⟨F, hS⟩ := hS.peel 1 4 rfl rfl
  replace hS := hS.turn 2 rfl (r' := .ob (.val u) (rowH 49 1 rU64 l)) (fun _ _ _ _ h => h)
  obtain ⟨F, hS⟩ := hS.nm [1, 0] [4, 3, 2, 0] rfl rfl
  refine wp_seq ?_
  refine region_q hS
    (cF rfl (oN (.c rfl)) trivial trivial
    Chain.nil)
    hB ?_
  clear hS; intro a w F hS
  obtain ⟨F, hS⟩ := hS.nm [4, 1, 0] [4, 3, 2, 0] rfl rfl
  try dsimp only [rEdge, rHv, rU64] at hS
  refine then_n (wp_seq ?_)
  refine region_q hS
    (cF rfl (oN (.c rfl)) trivial trivial
    Chain.nil)
    hB ?_
  clear hS; intro a w F hS
  obtain ⟨F, hS⟩ := hS.nm [5, 4, 1, 0] [4, 3, 2, 0] rfl rfl
  try dsimp only [rEdge, rHv, rU64] at hS
  refine then_n (wp_seq (wp_seq ?_))
  refine region_q hS
    (cF rfl (oM .t) r1 trivial
    (cF rfl (o_len_row 2 Try.underlying58 .is) r1 r1
    (cF rfl (oM (.ci (by kernel_rfl))) trivial trivial
    Chain.nil)))
    hB ?_
  clear hS; intro a w F hS
  obtain ⟨F, hS⟩ := hS.nm [12, 11, 10, 5, 4, 0] [4, 3, 2, 0] rfl rfl
  try dsimp only [rEdge, rHv, rU64] at hS
  refine then_n (wp_block ?_)
  replace hS := hS.fresh 50 rfl
  replace hS := hS.turn 50 rfl (nilRow (T := 31) (sz := 5) (R := rHv))
  refine loop_keep (σ := (Nat) × (Value) × (List HvD)) [0, 4, 10, 11] [0, 2, 3, 4] (fun s => [(12, .pv (.int .i64 (s.1 : Int))), (5, .pv (.is s.2.1))]) (fun s => [(50, .ob (.val s.2.1) (rowH 31 5 rHv s.2.2))]) (fun s => s.1 ≤ l.length ∧ (s.2.2 = heavyL (l.take s.1) es)) (fun s => l.length - s.1) ((0), (.slice none 0 0), ([])) hS ⟨rfl, rfl, rfl, rfl, rfl, rfl, trivial⟩ ⟨rfl, rfl, rfl, rfl, rfl, trivial⟩ ⟨Nat.zero_le _, rfl⟩ ?_
  clear hS; intro s a w F hC hS
  obtain ⟨i, v, out⟩ := s
  try dsimp only at hC
  obtain ⟨F, hS⟩ := hS.nm [12, 11, 10, 5, 4, 0] [50, 4, 3, 2, 0] rfl rfl
  try dsimp only at hS
  obtain ⟨hi, hq⟩ := hC
  have hol : out.length ≤ i := by rw [hq]; unfold heavyL; rw [List.length_map, List.length_take]; omega
  skip
  refine wp_seq ?_
  refine region_q hS
    (cF rfl (o_lss .t .t) r2 trivial
    Chain.nil)
    hB ?_
  clear hS; intro a w F hS
  obtain ⟨F, hS⟩ := hS.nm [13, 12, 11, 10, 5, 4, 0] [50, 4, 3, 2, 0] rfl rfl
  try dsimp only [rEdge, rHv, rU64] at hS
  refine then_n (wp_seq ?_)
  refine cond_b hS rfl (fun hc0 => ?_) (fun hc0 => ?_)
  ·skip
   have hil : i < l.length := by simp at hc0; omega
   have hvr := hv _ (nth_mem hil)
   have hwv : IntKind.wrap .i64 ((gGet (Go.Gm.nth l i) es).getD 0) = (gGet (Go.Gm.nth l i) es).getD 0 := wrap_i64 (by omega)
   refine wp_skip (then_n (wp_seq (wp_block (wp_seq ?_))))
   refine region_q hS
     (cF rfl (o_indexAddr_row (sz := 1) 2 (.mk Try.underlying58 (by kernel_rfl)) .is .t (by omega) (by omega) (by rfl)) r2 r1
     (cF rfl (o_load_row0 (ag := false) (sz' := 1) (sz := 1) 2 .t (by intro x; rfl) (by rw [Int.toNat_natCast]; omega) (by kernel_rfl) (by kernel_rfl) (by kernel_rfl)) r1 r1
     (cF rfl (oN .t) r1 trivial
     Chain.nil)))
     hB ?_
   clear hS; intro a w F hS
   obtain ⟨F, hS⟩ := hS.nm [12, 11, 10, 7, 5, 4, 0] [50, 4, 3, 2, 0] rfl rfl
   try dsimp only [List.map, xD, xE, xT, xU, ldSF, rEdge, rHv, rU64] at hS
   try simp only [Int.toNat_natCast] at hS
   refine then_n (wp_seq ?_)
   refine region_q hS
     (cF rfl (oM .t) r1 trivial
     (cF rfl (oP (unedge_c (Go.Gm.nth l i)) Try.func35 (Args.one .t)) r1 trivial
     (cF rfl (oM .t) r1 trivial
     (cF rfl (o_extract .t rfl) r1 trivial
     (cF rfl (o_extract .t rfl) r1 trivial
     (cF rfl (oH [.int .i64 0, .int .i64 0, .int .i64 0, .int .i64 0] 101) trivial trivial
     (cF rfl (oA 4 101 .same (.conv .t .agg)) r2 r1
     (cF rfl (oN .t) r1 trivial
     Chain.nil))))))))
     hB ?_
   clear hS; intro a w F hS
   replace hS := hS.sub
   obtain ⟨F, hS⟩ := hS.nm [12, 11, 10, 8, 7, 5, 4, 0] [101, 50, 4, 3, 2, 0] rfl rfl
   try dsimp only [RS.sub, SF.sub, CF.sub, csub, Anc.sub, List.map, stCells, xL, xM, Nat.reduceAdd, xD, xE, xT, xU, xC, xN, zCF, rEdge, rHv, rU64] at hS
   generalize Act.tau a 8 = v8 at hS
   refine then_n ?_
   refine region_any (by kernel_rfl) hS (by kernel_rfl)
     (cF rfl (oM .t) r1 trivial
     (cF rfl (oL true 4 101 .is) r1 r1
     (cF rfl (oM .t) r1 trivial
     (cF rfl (o_nilCheck 3 .is (by rfl)) r1 r1
     (cF rfl (oF 0 3 .adr) r1 r1
     (cF rfl (oL false 1 3 .adr) r1 r1
     (cF rfl (oM .t) r1 trivial
     (cF rfl (o_lookupG (ek := (fun c : Int => PV.int .i32 c)) (z0 := (0 : Int)) 4 Try.underlying52 (key_intG Try.underlying49) (by kernel_rfl) (fun _ _ => ⟨rfl, inR0i⟩) .is (IsKeyOf.intU .t rfl)) r2 r1
     (cF rfl (o_conv Try.underlying3 (by kernel_rfl) .t) r1 trivial
     (cF rfl (oB [(0, .tmp 22), (1, .tmp 29)] [.int .i64 0, .int .i64 0, .int .i64 0, .int .i64 0, .int .i64 0] [(0, 4), (4, 1)] (.agg rfl .t (by kernel_rfl) (by kernel_rfl) (.one rfl .t one_int (by kernel_rfl) .nil))) r2 trivial
     (cF rfl (o_buildSliceE (sz := 5) (zs := [.int .i64 0, .int .i64 0, .int .i64 0, .int .i64 0, .int .i64 0]) (r := [(0, .tmp 30)]) (l := [_, _, _, _, _]) Try.underlying22 (by kernel_rfl) (by kernel_rfl) (by kernel_rfl) (by kernel_rfl) rfl rfl (.agg rfl .t (by kernel_rfl) (by kernel_rfl) .nil) rfl) r1 trivial
     (cF rfl (o_append (sz := 5) (bs := 40) 50 (.mk' Try.underlying22 (by kernel_rfl) (by kernel_rfl)) (by intro x; rfl) .is (.arr (l' := [(⟨(unedgeR (Go.Gm.nth l i)).1, IntKind.wrap .i64 ((gGet (Go.Gm.nth l i) es).getD 0)⟩ : HvD)]) .t) (by simp only [List.length_append, List.length_cons, List.length_nil]; omega) (by decide)) ⟨rfl, rfl, trivial⟩ ⟨rfl, trivial⟩
     (cF rfl (oN .t) r1 trivial
     Chain.nil)))))))))))))
     (by kernel_rfl) (by rw [hB]; kernel_rfl) ?_
   clear hS; intro a w F hS
   replace hS := hS.sub
   obtain ⟨F, hS⟩ := hS.nm [12, 11, 10, 5, 4, 0] [50, 4, 3, 2, 0] rfl rfl
   try dsimp only [RS.sub, SF.sub, CF.sub, csub, Anc.sub, List.map, stCells, xL, xM, Nat.reduceAdd, xD, xE, xT, xU, xC, xN, zCF, ldSF, rEdge, rHv, rU64] at hS
   generalize Act.tau a 32 = v32 at hS
   rw [hwv] at hS
   refine block_n (then_n ?_)
   refine region_q hS
     (cF rfl (o_add .t (.ci (by kernel_rfl))) r1 trivial
     (cF rfl (oM .t) r1 trivial
     Chain.nil))
     hB ?_
   clear hS; intro a w F hS
   obtain ⟨F, hS⟩ := hS.nm [12, 11, 10, 5, 4, 0] [50, 4, 3, 2, 0] rfl rfl
   try dsimp only [rEdge, rHv, rU64] at hS
   refine then_n ?_
   replace hS := hS.ent (i := 12) (s' := .pv (.int .i64 ((i + 1 : Nat) : Int))) rfl (.int (wrap_succ (by omega)))
   obtain ⟨F, hS⟩ := hS.nm [11, 10, 4, 0, 5, 12] [4, 3, 2, 0, 50] rfl rfl
   exact ⟨((i + 1), _, _), F, ⟨by omega, (by rw [heavy_next hil, ← hq])⟩, hS, by omega⟩
  have hil : i = l.length := by simp at hc0; omega
  refine wp_exit (then_x (then_x (block_x (then_n (wp_seq ?_)))))
  refine region_q hS
    (cF rfl (oM .t) r1 trivial
    (cF rfl (oN .t) r1 trivial
    Chain.nil))
    hB ?_
  clear hS; intro a w F hS
  obtain ⟨F, hS⟩ := hS.nm [4] [50, 4, 3, 2, 0] rfl rfl
  try dsimp only [rEdge, rHv, rU64] at hS
  refine then_n (wp_ret ?_)
  obtain ⟨F, hS⟩ := hS.give 50 4 rfl rfl
  have hS := hS.fresh 1 rfl
  obtain ⟨F, hS⟩ := hS.push 1 4 rfl rfl rfl (by kernel_rfl)
  obtain ⟨F, hS⟩ := hS.push 1 3 rfl rfl rfl (by kernel_rfl)
  have hS := hS.turn 1 rfl (r' := RS.hp (hvH (.pointer (some ⟨b, 0, none⟩)) cv ov iv es ck)) (fun _ _ _ _ h => h)
  have hS := hS.turn 2 rfl (r' := RS.hp (rowH 49 1 rU64 l u)) (fun _ _ _ _ h => h)
  refine ret_G2c hG hS rfl (.tmp rfl .nil) (.one (.sl (by rw [hq, hil, List.take_length]))) rfl rfl

end Go.Proofs.Ytfdjjfplhdpclaa
