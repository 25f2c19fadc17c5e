/- Numbers among rising ones. No condition beyond those that each theorem says. -/
import Derived.Test.YtfdjjfplhdpclaaMu2
namespace Go.Proofs.Ytfdjjfplhdpclaa
open Go Go.Gm
set_option linter.unusedVariables false
set_option linter.unusedSimpArgs false
set_option maxHeartbeats 4000000
set_option maxRecDepth 8000


theorem inR0i : inR .i32 0 := by show IntKind.min .i32 ≤ 0 ∧ 0 ≤ IntKind.max .i32; decide

theorem set_c (v : Value) (f : Int → List Int) (id x : Int) (on : Bool) (hinc : IncI (f id)) (hll : (f id).length ≤ 1000000) : FnG Try.prog 25 1 [.is v, .int .i64 id, .int .u64 x, .bool on] [rowsH v f] (.tup []) (fun _ => [rowsH v (setF f id x on)]) := by
  refine FnG.mk Try.func25 rfl Try.ntmps25 rfl (by kernel_rfl) ?_
  intro B F0 a w F hB hG hS
  obtain ⟨⟨es, ck⟩, hS⟩ := hS.open_ex 1 rfl
  obtain ⟨hf, hS⟩ := hS.open_and 1 rfl
  obtain ⟨F, hS⟩ := hS.peel 1 2 rfl rfl
  obtain ⟨F, hS⟩ := hS.peel 1 60 rfl rfl
  try dsimp only at hf hS
  obtain ⟨F, hS⟩ := hS.nm [3, 2, 1, 0] [60, 2, 0] rfl rfl
  refine wp_seq ?_
  refine part_first 3 hS (by kernel_rfl)
    (cG rfl (oM .t) r1 trivial
    (cG rfl (oM .t) r1 trivial
    (cG rfl (o_lookupG (ek := (fun p : Value × List Int => PV.is p.1)) (z0 := noRow) 2 Try.underlying53 (key_intG Try.underlying3) (by kernel_rfl) (fun _ _ => ⟨rfl, rfl⟩) .is (IsKeyOf.int .t rfl)) r2 r1
    ChainN.nil)))
    (by kernel_rfl) (by rw [hB]; kernel_rfl) ?_
  clear hS; intro a w F hS
  obtain ⟨F, hS⟩ := hS.nm [13, 3, 2, 1, 0] [60, 2, 0] rfl rfl
  try dsimp only [rU64] at hS
  obtain ⟨F, hS⟩ := hS.takeKey (T := 49) (sz := 1) (R := rU64) 60 61 id rfl rfl
  rw [hf id] at hS
  obtain ⟨u, hu⟩ : ∃ z, z = ((gGet id es).getD noRow).1 := ⟨_, rfl⟩
  rw [← hu] at hS
  obtain ⟨F, hS⟩ := hS.nm [13, 3, 2, 1, 0] [61, 60, 2, 0] rfl rfl
  refine part_last hS (by kernel_rfl)
    (cG rfl (oN .t) r1 trivial
    ChainN.nil)
    (by kernel_rfl) (by rw [hB]; kernel_rfl) ?_
  clear hS; intro a w F hS
  obtain ⟨F, hS⟩ := hS.nm [8, 3, 2, 1, 0] [61, 60, 2, 0] rfl rfl
  try dsimp only [rU64] at hS
  refine then_n (wp_seq ?_)
  refine region_q hS
    (cF rfl (oM .t) r1 trivial
    (cF rfl (oM .t) r1 trivial
    (cF rfl (OpC.lendRow 61 [15] (oP (bsU_c (f id) x hll (rise_inc hinc)) Try.func32 (Args.two .t .t)) ⟨rfl, trivial, trivial⟩ free_ib trivial (by rfl)) r2 r1
    (cF rfl (oM .t) r1 trivial
    (cF rfl (o_extract .t rfl) r1 trivial
    (cF rfl (o_extract .t rfl) r1 trivial
    (cF rfl (oN .t) r1 trivial
    (cF rfl (oN .t) r1 trivial
    Chain.nil))))))))
    hB ?_
  clear hS; intro a w F hS
  obtain ⟨F, hS⟩ := hS.nm [10, 9, 8, 3, 2, 1, 0] [61, 60, 2, 0] rfl rfl
  try dsimp only [rU64] at hS
  refine then_n (wp_block (wp_seq ?_))
  refine region_q hS
    (cF rfl (oM .t) r1 trivial
    (cF rfl (oM .t) r1 trivial
    (Chain.cons (Cert.cond rfl rfl (fun h => o_move .t (by rfl))) r2 trivial
    (Chain.cons (Cert.cond rfl rfl (fun h => o_not (.w h))) r2 trivial
    (cF rfl (o_and2 .t .t) r2 trivial
    (cF rfl (oN .t) r1 trivial
    Chain.nil))))))
    hB ?_
  clear hS; intro a w F hS
  obtain ⟨F, hS⟩ := hS.nm [20, 10, 9, 8, 3, 2, 1, 0] [61, 60, 2, 0] rfl rfl
  try dsimp only [rU64] at hS
  refine then_n ?_
  refine cond_b hS rfl (fun hc0 => ?_) (fun hc0 => ?_)
  ·skip
   have hb := hc0
   rw [Bool.and_eq_true] at hb
   have hon : on = true := hb.1
   have hx : x ∉ f id := by have := hb.2; rw [isI_mem] at this; simpa using this
   refine part_first 7 hS (by kernel_rfl)
     (cG rfl (oM .t) r1 trivial
     (cG rfl (oM .t) r1 trivial
     (cG rfl (oM .t) r1 trivial
     (cG rfl (oM .t) r1 trivial
     (cG rfl (oM .t) r1 trivial
     (cG rfl (o_buildSliceE (sz := 1) (zs := [.int .u64 0]) (r := [(0, .tmp 30)]) (l := [_]) Try.underlying58 (by kernel_rfl) (by kernel_rfl) (by kernel_rfl) (by kernel_rfl) rfl rfl (.one rfl .t one_int (by kernel_rfl) .nil) rfl) r1 trivial
     (cG rfl (o_callRowN 61 (insU_c u (f id) (lowI x (f id)) x hll low_le) Try.func33 rfl (by kernel_rfl) (Args.three .t .t (.conv .t (Ent.arrSl (R := rU64) (l := [x]) rfl))) pvOne1) r3 r1
     ChainN.nil)))))))
     (by kernel_rfl) (by rw [hB]; kernel_rfl) ?_
   clear hS; intro a w F hS
   replace hS := hS.sub
   obtain ⟨F, hS⟩ := hS.nm [32, 27, 26] [61, 60, 2, 0] rfl rfl
   try dsimp only [RS.sub, SF.sub, CF.sub, csub, Anc.sub, List.map, stCells, xL, xM, Nat.reduceAdd, xD, xE, xT, xU, xC, xN, zCF, rU64] at hS
   generalize Act.tau a 32 = v32 at hS
   rw [ins_set hinc hx] at hS
   refine part_last hS (by kernel_rfl)
     (cG rfl (o_mapUpdateG (ek := (fun p : Value × List Int => PV.is p.1)) (v := ((v32, setN (f id) x true) : Value × List Int)) 2 Try.underlying53 (key_intG Try.underlying3) .is (IsKeyOf.int .t rfl) .t) r3 r1
     ChainN.nil)
     (by kernel_rfl) (by rw [hB]; kernel_rfl) ?_
   clear hS; intro a w F hS
   obtain ⟨F, hS⟩ := hS.nm [] [61, 60, 2, 0] rfl rfl
   try dsimp only [rU64] at hS
   refine block_n ?_
   obtain ⟨F, hS⟩ := hS.putKey (T := 49) (sz := 1) (R := rU64) 60 61 id ck rfl rfl rfl
   obtain ⟨F, hS⟩ := hS.nm [] [60, 2, 0] rfl rfl
   have hS := hS.fresh 1 rfl
   obtain ⟨F, hS⟩ := hS.push 1 60 rfl rfl rfl (by kernel_rfl)
   obtain ⟨F, hS⟩ := hS.push 1 2 rfl rfl rfl (by kernel_rfl)
   have hS := hS.turn 1 rfl (r' := RS.hp (rowsH v (setF f id x on))) (fun _ _ _ _ h => ⟨((gPut id (v32, setN (f id) x true) (es, ck)).1, (gPut id (v32, setN (f id) x true) (es, ck)).2), (by rw [hon]; exact setF_put hf id x true v32), h⟩)
   refine ret_G1 hG hS rfl .nil .none rfl
  refine wp_seq ?_
  refine region_q hS
    (cF rfl (oM .t) r1 trivial
    (cF rfl (o_not .t) r1 trivial
    (cF rfl (oM .t) r1 trivial
    (Chain.cons (Cert.cond rfl rfl (fun h => o_move .t (by rfl))) r2 trivial
    (cF rfl (o_and2 .t .t) r2 trivial
    (cF rfl (oN .t) r1 trivial
    Chain.nil))))))
    hB ?_
  clear hS; intro a w F hS
  obtain ⟨F, hS⟩ := hS.nm [33, 9, 8, 1, 0] [61, 60, 2, 0] rfl rfl
  try dsimp only [rU64] at hS
  refine then_n ?_
  refine cond_b hS rfl (fun hc1 => ?_) (fun hc1 => ?_)
  ·skip
   have hb := hc1
   rw [Bool.and_eq_true] at hb
   have hon : on = false := by simpa using hb.1
   have hx : x ∈ f id := by have := hb.2; rw [isI_mem] at this; simpa using this
   refine part_first 7 hS (by kernel_rfl)
     (cG rfl (oM .t) r1 trivial
     (cG rfl (oM .t) r1 trivial
     (cG rfl (oM .t) r1 trivial
     (cG rfl (oM .t) r1 trivial
     (cG rfl (oM .t) r1 trivial
     (cG rfl (o_add .t (.ci (by kernel_rfl))) r1 trivial
     (cG rfl (o_callRowN 61 (delU_c u (f id) (lowI x (f id)) hll (low_in hinc hx).1) Try.func34 rfl (by kernel_rfl) (Args.three .t .t (.conv .t (Ent.int (wrap_succ (by have := @low_le x (f id); omega))))) pvOne1) r3 r1
     ChainN.nil)))))))
     (by kernel_rfl) (by rw [hB]; kernel_rfl) ?_
   clear hS; intro a w F hS
   replace hS := hS.sub
   obtain ⟨F, hS⟩ := hS.nm [45, 40, 39] [61, 60, 2, 0] rfl rfl
   try dsimp only [RS.sub, SF.sub, CF.sub, csub, Anc.sub, List.map, rU64] at hS
   generalize Act.tau a 45 = v45 at hS
   rw [(low_in hinc hx).2] at hS
   refine part_last hS (by kernel_rfl)
     (cG rfl (o_mapUpdateG (ek := (fun p : Value × List Int => PV.is p.1)) (v := ((v45, setN (f id) x false) : Value × List Int)) 2 Try.underlying53 (key_intG Try.underlying3) .is (IsKeyOf.int .t rfl) .t) r3 r1
     ChainN.nil)
     (by kernel_rfl) (by rw [hB]; kernel_rfl) ?_
   clear hS; intro a w F hS
   obtain ⟨F, hS⟩ := hS.nm [] [61, 60, 2, 0] rfl rfl
   try dsimp only [rU64] at hS
   refine block_n ?_
   obtain ⟨F, hS⟩ := hS.putKey (T := 49) (sz := 1) (R := rU64) 60 61 id ck rfl rfl rfl
   obtain ⟨F, hS⟩ := hS.nm [] [60, 2, 0] rfl rfl
   have hS := hS.fresh 1 rfl
   obtain ⟨F, hS⟩ := hS.push 1 60 rfl rfl rfl (by kernel_rfl)
   obtain ⟨F, hS⟩ := hS.push 1 2 rfl rfl rfl (by kernel_rfl)
   have hS := hS.turn 1 rfl (r' := RS.hp (rowsH v (setF f id x on))) (fun _ _ _ _ h => ⟨((gPut id (v45, setN (f id) x false) (es, ck)).1, (gPut id (v45, setN (f id) x false) (es, ck)).2), (by rw [hon]; exact setF_put hf id x false v45), h⟩)
   refine ret_G1 hG hS rfl .nil .none rfl
  have h1 := hc1
  have hon : on = decide (x ∈ f id) := by
    have h2 : (on && !decide (x ∈ f id)) = false := by rw [← isI_mem]; assumption
    have h3 : (!on && decide (x ∈ f id)) = false := by rw [← isI_mem]; exact h1
    cases on <;> cases hd : decide (x ∈ f id) <;> simp_all
  refine wp_skip (block_n ?_)
  rw [hu, ← hf id] at hS
  obtain ⟨F, hS⟩ := Sat.backKey (T := 49) (sz := 1) (R := rU64) hS 60 61 id rfl rfl rfl
  obtain ⟨F, hS⟩ := hS.nm [] [60, 2, 0] rfl rfl
  have hS := hS.fresh 1 rfl
  obtain ⟨F, hS⟩ := hS.push 1 60 rfl rfl rfl (by kernel_rfl)
  obtain ⟨F, hS⟩ := hS.push 1 2 rfl rfl rfl (by kernel_rfl)
  have hS := hS.turn 1 rfl (r' := RS.hp (rowsH v (setF f id x on))) (fun _ _ _ _ h => ⟨(es, ck), (by rw [setF_same (setN_same hinc hon)]; exact hf), h⟩)
  refine ret_G1 hG hS rfl .nil .none rfl

end Go.Proofs.Ytfdjjfplhdpclaa
