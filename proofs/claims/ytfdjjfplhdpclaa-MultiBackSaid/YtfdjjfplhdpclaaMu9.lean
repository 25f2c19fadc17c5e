/- Bags: Edges, Out, In. No condition beyond those that each theorem says. -/
import Derived.Test.YtfdjjfplhdpclaaMu8
namespace Go.Proofs.Ytfdjjfplhdpclaa
open Go Go.Gm
set_option linter.unusedVariables false
set_option linter.unusedSimpArgs false
set_option maxHeartbeats 4000000
set_option maxRecDepth 8000


theorem medges_c (b : Nat) (bg : List HvD) : FnG Try.prog 11 1 [.is (.pointer (some ⟨b, 0, none⟩))] [mulH (.pointer (some ⟨b, 0, none⟩)) bg] (.sl rHv bg) (fun _ => [mulH (.pointer (some ⟨b, 0, none⟩)) bg]) := by
  refine FnG.mk Try.func11 rfl Try.ntmps11 rfl (by kernel_rfl) ?_
  intro B F0 a w F hB hG hS
  obtain ⟨s, hS⟩ := hS.open_ex 1 rfl
  obtain ⟨hk, hS⟩ := hS.open_and 1 rfl
  obtain ⟨F, hS⟩ := hS.peel 1 2 rfl rfl
  obtain ⟨F, hS⟩ := hS.peel 1 3 rfl rfl
  obtain ⟨F, hS⟩ := hS.peel 1 4 rfl rfl
  obtain ⟨F, hS⟩ := hS.peel 1 5 rfl rfl
  have hB9 := hk.bag
  have hlB := hk.len
  have hcl := hk.cnt.len hk.bag
  obtain ⟨F, hS⟩ := hS.nm [0] [5, 4, 3, 2, 0] rfl rfl
  refine wp_seq ?_
  refine region_q hS
    (cF rfl (oN (.c rfl)) trivial trivial
    Chain.nil)
    hB ?_
  clear hS; intro a w F hS
  obtain ⟨F, hS⟩ := hS.nm [2, 0] [5, 4, 3, 2, 0] rfl rfl
  try dsimp only [rEdge, rHv] at hS
  refine then_n (wp_seq (wp_seq ?_))
  refine region_q hS
    (cF rfl (oM .t) r1 trivial
    (cF rfl (o_nil_eql _ Try.underlying26 rfl .t) r1 trivial
    Chain.nil))
    hB ?_
  clear hS; intro a w F hS
  obtain ⟨F, hS⟩ := hS.nm [4, 2, 0] [5, 4, 3, 2, 0] rfl rfl
  try dsimp only [rEdge, rHv] at hS
  refine then_n ?_
  refine cond_b hS rfl (fun hc0 => ?_) (fun hc0 => ?_)
  ·skip
   simp at hc0
  refine wp_skip (then_n (wp_seq ?_))
  replace hS := hS.fresh 60 rfl
  replace hS := hS.turn 3 rfl (r' := RS.hp (MP1 s.es s.ck s.cv)) (fun _ _ _ _ h => h)
  obtain ⟨F, hS⟩ := hS.nm [4, 2, 0] [60, 5, 4, 3, 2, 0] rfl rfl
  refine part_first 7 hS (by kernel_rfl)
    (cG rfl (oM .t) r1 trivial
    (cG rfl (oM .t) r1 trivial
    (cG rfl (o_nilCheck 2 .is (by rfl)) r1 r1
    (cG rfl (oF 0 2 .adr) r1 r1
    (cG rfl (oL false 1 2 .adr) r1 r1
    (cG rfl (oP (mkeys_c s.cv) Try.func28 (Args.one .t)) r1 trivial
    (cG rfl (o_callG2N 3 60 (sorted_c s.cv s.es s.ck bg hB9 hk.cnt hlB) Try.func27 rfl (by kernel_rfl) rfl (Args.one .t) pvOne1) r1 r2
    ChainN.nil)))))))
    (by kernel_rfl) (by rw [hB]; kernel_rfl) ?_
  clear hS; intro a w F hS
  replace hS := hS.sub
  obtain ⟨F, hS⟩ := hS.nm [11, 5, 2] [60, 5, 4, 3, 2, 0] rfl rfl
  try dsimp only [RS.sub, SF.sub, CF.sub, csub, Anc.sub, List.map, xD, xE, xT, xU, ldSF, rEdge, rHv] at hS
  generalize Act.tau a 11 = v11 at hS
  replace hS := hS.turn 3 rfl (r' := .ob (.val s.cv) (MP1 s.es s.ck)) (fun _ _ _ _ h => h)
  replace hS := hS.fresh 70 rfl
  obtain ⟨F, hS⟩ := hS.push 70 3 rfl rfl rfl (by kernel_rfl)
  obtain ⟨F, hS⟩ := hS.push 70 2 rfl rfl rfl (by kernel_rfl)
  replace hS := hS.turn 70 rfl (r' := RS.hp (hvH (.pointer (some ⟨b, 0, none⟩)) s.cv s.ov s.iv s.es s.ck)) (fun _ _ _ _ h => h)
  replace hS := hS.turn 60 rfl (r' := RS.hp (rowH 49 1 rU64 (numsOf (fun _ => true) bg) v11)) (fun _ _ _ _ h => h)
  obtain ⟨F, hS⟩ := hS.nm [11, 5, 2] [70, 60, 5, 4, 0] rfl rfl
  refine part_next 1 hS (by kernel_rfl)
    (cG rfl (o_callG2 70 60 (heavy_c b s.cv s.ov s.iv v11 s.es s.ck (numsOf (fun _ => true) bg) (Nat.le_trans (nums_len _ _) (by omega)) (nums_val hB9 hk.cnt)) Try.func26 rfl (by kernel_rfl) rfl (Args.two .t .t)) r2 r2
    ChainN.nil)
    (by kernel_rfl) (by rw [hB]; kernel_rfl) ?_
  clear hS; intro a w F hS
  replace hS := hS.sub
  obtain ⟨F, hS⟩ := hS.nm [12, 2] [70, 60, 5, 4, 0] rfl rfl
  try dsimp only [RS.sub, SF.sub, CF.sub, csub, Anc.sub, List.map, rEdge, rHv] at hS
  generalize Act.tau a 12 = v12 at hS
  replace hS := hS.turn 70 rfl (r' := RS.hp (hvH (.pointer (some ⟨b, 0, none⟩)) s.cv s.ov s.iv s.es s.ck)) (fun _ _ _ _ h => h)
  obtain ⟨F, hS⟩ := hS.peel 70 2 rfl rfl
  obtain ⟨F, hS⟩ := hS.peel 70 3 rfl rfl
  obtain ⟨F, hS⟩ := hS.nm [12, 2] [60, 5, 4, 3, 2, 0] rfl rfl
  rw [heavy_all hB9 hk.cnt] at hS
  refine part_last hS (by kernel_rfl)
    (cG rfl (oN .t) r1 trivial
    ChainN.nil)
    (by kernel_rfl) (by rw [hB]; kernel_rfl) ?_
  clear hS; intro a w F hS
  obtain ⟨F, hS⟩ := hS.nm [2] [60, 5, 4, 3, 2, 0] rfl rfl
  try dsimp only [rEdge, rHv] at hS
  refine then_n (wp_ret ?_)
  have hS := hS.fresh 1 rfl
  obtain ⟨F, hS⟩ := hS.push 1 5 rfl rfl rfl (by kernel_rfl)
  obtain ⟨F, hS⟩ := hS.push 1 4 rfl rfl rfl (by kernel_rfl)
  obtain ⟨F, hS⟩ := hS.push 1 3 rfl rfl rfl (by kernel_rfl)
  obtain ⟨F, hS⟩ := hS.push 1 2 rfl rfl rfl (by kernel_rfl)
  have hS := hS.turn 1 rfl (r' := RS.hp (mulH (.pointer (some ⟨b, 0, none⟩)) bg)) (fun _ _ _ _ h => ⟨s, hk, h⟩)
  refine ret_G1 hG hS rfl (.tmp rfl .nil) (.one .refl) rfl

theorem medges_nil  : FnP Try.prog 11 [.is (.pointer none)] (.sl rHv []) := by
  refine FnP.mk Try.func11 rfl Try.ntmps11 rfl ?_
  intro B a w F hB hfr hS
  refine wp_seq ?_
  refine region_q hS
    (cF rfl (oN (.c rfl)) trivial trivial
    Chain.nil)
    hB ?_
  clear hS; intro a w F hS
  obtain ⟨F, hS⟩ := hS.nm [2, 0] [0] rfl rfl
  refine then_n (wp_seq (wp_seq ?_))
  refine region_q hS
    (cF rfl (oM .t) r1 trivial
    (cF rfl (o_nil_eql _ Try.underlying26 rfl .t) r1 trivial
    Chain.nil))
    hB ?_
  clear hS; intro a w F hS
  obtain ⟨F, hS⟩ := hS.nm [4, 2, 0] [0] rfl rfl
  refine then_n ?_
  refine cond_b hS rfl (fun hc0 => ?_) (fun hc0 => ?_)
  ·skip
   refine wp_seq ?_
   refine region_q hS
     (cF rfl (oN (.c rfl)) trivial trivial
     Chain.nil)
     hB ?_
   clear hS; intro a w F hS
   obtain ⟨F, hS⟩ := hS.nm [2, 0] [0] rfl rfl
   refine then_n (wp_ret (then_r ?_))
   refine ret_P hfr hS rfl (.tmp rfl .nil) (.one (.trans .nilSl (.sl rfl)))
  simp at hc0

theorem mout_c (b : Nat) (bg : List HvD) (id : Int) : FnG Try.prog 17 1 [.is (.pointer (some ⟨b, 0, none⟩)), .int .i64 id] [mulH (.pointer (some ⟨b, 0, none⟩)) bg] (.sl rHv (outB bg id)) (fun _ => [mulH (.pointer (some ⟨b, 0, none⟩)) bg]) := by
  refine FnG.mk Try.func17 rfl Try.ntmps17 rfl (by kernel_rfl) ?_
  intro B F0 a w F hB hG hS
  obtain ⟨s, hS⟩ := hS.open_ex 1 rfl
  obtain ⟨hk, hS⟩ := hS.open_and 1 rfl
  obtain ⟨F, hS⟩ := hS.peel 1 2 rfl rfl
  obtain ⟨F, hS⟩ := hS.peel 1 3 rfl rfl
  obtain ⟨F, hS⟩ := hS.peel 1 4 rfl rfl
  obtain ⟨F, hS⟩ := hS.peel 1 5 rfl rfl
  have hB9 := hk.bag
  have hlB := hk.len
  have hcl := hk.cnt.len hk.bag
  obtain ⟨F, hS⟩ := hS.nm [1, 0] [5, 4, 3, 2, 0] rfl rfl
  refine wp_seq ?_
  refine region_q hS
    (cF rfl (oN (.c rfl)) trivial trivial
    Chain.nil)
    hB ?_
  clear hS; intro a w F hS
  obtain ⟨F, hS⟩ := hS.nm [4, 1, 0] [5, 4, 3, 2, 0] rfl rfl
  try dsimp only [rEdge, rHv] at hS
  refine then_n (wp_seq (wp_seq ?_))
  refine region_q hS
    (cF rfl (oM .t) r1 trivial
    (cF rfl (o_nil_eql _ Try.underlying26 rfl .t) r1 trivial
    Chain.nil))
    hB ?_
  clear hS; intro a w F hS
  obtain ⟨F, hS⟩ := hS.nm [6, 4, 1, 0] [5, 4, 3, 2, 0] rfl rfl
  try dsimp only [rEdge, rHv] at hS
  refine then_n ?_
  refine cond_b hS rfl (fun hc0 => ?_) (fun hc0 => ?_)
  ·skip
   simp at hc0
  refine wp_skip (then_n (wp_seq ?_))
  obtain ⟨⟨es2, ck2⟩, hS⟩ := hS.open_ex 4 rfl
  obtain ⟨hf, hS⟩ := hS.open_and 4 rfl
  obtain ⟨F, hS⟩ := hS.peel 4 6 rfl rfl
  obtain ⟨F, hS⟩ := hS.peel 4 60 rfl rfl
  try dsimp only at hf hS
  obtain ⟨F, hS⟩ := hS.nm [6, 4, 1, 0] [60, 6, 5, 3, 2, 0] rfl rfl
  refine part_first 7 hS (by kernel_rfl)
    (cG rfl (oM .t) r1 trivial
    (cG rfl (oM .t) r1 trivial
    (cG rfl (o_nilCheck 2 .is (by rfl)) r1 r1
    (cG rfl (oF 1 2 .adr) r1 r1
    (cG rfl (oL false 1 2 .adr) r1 r1
    (cG rfl (oM .t) r1 trivial
    (cG rfl (o_lookupG (ek := (fun p : Value × List Int => PV.is p.1)) (z0 := noRow) 6 Try.underlying53 (key_intG Try.underlying3) (by kernel_rfl) (fun _ _ => ⟨rfl, rfl⟩) .is (IsKeyOf.int .t rfl)) r2 r1
    ChainN.nil)))))))
    (by kernel_rfl) (by rw [hB]; kernel_rfl) ?_
  clear hS; intro a w F hS
  obtain ⟨F, hS⟩ := hS.nm [13, 7, 4] [60, 6, 5, 3, 2, 0] rfl rfl
  try dsimp only [List.map, xD, xE, xT, xU, ldSF, rEdge, rHv] at hS
  obtain ⟨F, hS⟩ := hS.takeKey (T := 49) (sz := 1) (R := rU64) 60 61 id rfl rfl
  rw [hf id] at hS
  obtain ⟨u, hu⟩ : ∃ z, z = ((gGet id es2).getD noRow).1 := ⟨_, rfl⟩
  rw [← hu] at hS
  obtain ⟨F, hS⟩ := hS.nm [13, 7, 4] [61, 60, 6, 5, 3, 2, 0] rfl rfl
  replace hS := hS.turn 3 rfl (r' := .ob (.val s.cv) (MP1 s.es s.ck)) (fun _ _ _ _ h => h)
  replace hS := hS.fresh 70 rfl
  obtain ⟨F, hS⟩ := hS.push 70 3 rfl rfl rfl (by kernel_rfl)
  obtain ⟨F, hS⟩ := hS.push 70 2 rfl rfl rfl (by kernel_rfl)
  replace hS := hS.turn 70 rfl (r' := RS.hp (hvH (.pointer (some ⟨b, 0, none⟩)) s.cv s.ov s.iv s.es s.ck)) (fun _ _ _ _ h => h)
  replace hS := hS.turn 61 rfl (r' := RS.hp (rowH 49 1 rU64 (outF bg id) u)) (fun _ _ _ _ h => h)
  obtain ⟨F, hS⟩ := hS.nm [13, 7, 4] [70, 61, 60, 6, 5, 0] rfl rfl
  refine part_next 1 hS (by kernel_rfl)
    (cG rfl (o_callG2 70 61 (heavy_c b s.cv s.ov s.iv u s.es s.ck (outF bg id) (Nat.le_trans (nums_len _ _) (by omega)) (nums_val hB9 hk.cnt)) Try.func26 rfl (by kernel_rfl) rfl (Args.two .t .t)) r2 r2
    ChainN.nil)
    (by kernel_rfl) (by rw [hB]; kernel_rfl) ?_
  clear hS; intro a w F hS
  replace hS := hS.sub
  obtain ⟨F, hS⟩ := hS.nm [14, 4] [70, 61, 60, 6, 5, 0] rfl rfl
  try dsimp only [RS.sub, SF.sub, CF.sub, csub, Anc.sub, List.map, rEdge, rHv] at hS
  generalize Act.tau a 14 = v14 at hS
  replace hS := hS.turn 70 rfl (r' := RS.hp (hvH (.pointer (some ⟨b, 0, none⟩)) s.cv s.ov s.iv s.es s.ck)) (fun _ _ _ _ h => h)
  obtain ⟨F, hS⟩ := hS.peel 70 2 rfl rfl
  obtain ⟨F, hS⟩ := hS.peel 70 3 rfl rfl
  obtain ⟨F, hS⟩ := hS.nm [14, 4] [61, 60, 6, 5, 3, 2, 0] rfl rfl
  replace hS := hS.turn 61 rfl (r' := .ob (.val ((gGet id es2).getD noRow).1) (rowH 49 1 rU64 ((gGet id es2).getD noRow).2)) (by rw [hf id, ← hu]; exact fun _ _ _ _ h => h)
  obtain ⟨F, hS⟩ := Sat.backKey (T := 49) (sz := 1) (R := rU64) hS 60 61 id rfl rfl rfl
  replace hS := hS.fresh 4 rfl
  obtain ⟨F, hS⟩ := hS.push 4 60 rfl rfl rfl (by kernel_rfl)
  obtain ⟨F, hS⟩ := hS.push 4 6 rfl rfl rfl (by kernel_rfl)
  replace hS := hS.turn 4 rfl (r' := RS.hp (rowsH s.ov (outF bg))) (fun _ _ _ _ h => ⟨(es2, ck2), hf, h⟩)
  obtain ⟨F, hS⟩ := hS.nm [14, 4] [5, 4, 3, 2, 0] rfl rfl
  rw [heavy_nums hB9 hk.cnt] at hS
  refine part_last hS (by kernel_rfl)
    (cG rfl (oN .t) r1 trivial
    ChainN.nil)
    (by kernel_rfl) (by rw [hB]; kernel_rfl) ?_
  clear hS; intro a w F hS
  obtain ⟨F, hS⟩ := hS.nm [4] [5, 4, 3, 2, 0] rfl rfl
  try dsimp only [rEdge, rHv] at hS
  refine then_n (wp_ret ?_)
  have hS := hS.fresh 1 rfl
  obtain ⟨F, hS⟩ := hS.push 1 5 rfl rfl rfl (by kernel_rfl)
  obtain ⟨F, hS⟩ := hS.push 1 4 rfl rfl rfl (by kernel_rfl)
  obtain ⟨F, hS⟩ := hS.push 1 3 rfl rfl rfl (by kernel_rfl)
  obtain ⟨F, hS⟩ := hS.push 1 2 rfl rfl rfl (by kernel_rfl)
  have hS := hS.turn 1 rfl (r' := RS.hp (mulH (.pointer (some ⟨b, 0, none⟩)) bg)) (fun _ _ _ _ h => ⟨s, hk, h⟩)
  refine ret_G1 hG hS rfl (.tmp rfl .nil) (.one .refl) rfl

theorem mout_nil (id : Int) : FnP Try.prog 17 [.is (.pointer none), .int .i64 id] (.sl rHv []) := by
  refine FnP.mk Try.func17 rfl Try.ntmps17 rfl ?_
  intro B a w F hB hfr hS
  refine wp_seq ?_
  refine region_q hS
    (cF rfl (oN (.c rfl)) trivial trivial
    Chain.nil)
    hB ?_
  clear hS; intro a w F hS
  obtain ⟨F, hS⟩ := hS.nm [4, 1, 0] [0] rfl rfl
  refine then_n (wp_seq (wp_seq ?_))
  refine region_q hS
    (cF rfl (oM .t) r1 trivial
    (cF rfl (o_nil_eql _ Try.underlying26 rfl .t) r1 trivial
    Chain.nil))
    hB ?_
  clear hS; intro a w F hS
  obtain ⟨F, hS⟩ := hS.nm [6, 4, 1, 0] [0] rfl rfl
  refine then_n ?_
  refine cond_b hS rfl (fun hc0 => ?_) (fun hc0 => ?_)
  ·skip
   refine wp_seq ?_
   refine region_q hS
     (cF rfl (oN (.c rfl)) trivial trivial
     Chain.nil)
     hB ?_
   clear hS; intro a w F hS
   obtain ⟨F, hS⟩ := hS.nm [4, 1, 0] [0] rfl rfl
   refine then_n (wp_ret (then_r ?_))
   refine ret_P hfr hS rfl (.tmp rfl .nil) (.one (.trans .nilSl (.sl rfl)))
  simp at hc0

theorem min_c (b : Nat) (bg : List HvD) (id : Int) : FnG Try.prog 18 1 [.is (.pointer (some ⟨b, 0, none⟩)), .int .i64 id] [mulH (.pointer (some ⟨b, 0, none⟩)) bg] (.sl rHv (inB bg id)) (fun _ => [mulH (.pointer (some ⟨b, 0, none⟩)) bg]) := by
  refine FnG.mk Try.func18 rfl Try.ntmps18 rfl (by kernel_rfl) ?_
  intro B F0 a w F hB hG hS
  obtain ⟨s, hS⟩ := hS.open_ex 1 rfl
  obtain ⟨hk, hS⟩ := hS.open_and 1 rfl
  obtain ⟨F, hS⟩ := hS.peel 1 2 rfl rfl
  obtain ⟨F, hS⟩ := hS.peel 1 3 rfl rfl
  obtain ⟨F, hS⟩ := hS.peel 1 4 rfl rfl
  obtain ⟨F, hS⟩ := hS.peel 1 5 rfl rfl
  have hB9 := hk.bag
  have hlB := hk.len
  have hcl := hk.cnt.len hk.bag
  obtain ⟨F, hS⟩ := hS.nm [1, 0] [5, 4, 3, 2, 0] rfl rfl
  refine wp_seq ?_
  refine region_q hS
    (cF rfl (oN (.c rfl)) trivial trivial
    Chain.nil)
    hB ?_
  clear hS; intro a w F hS
  obtain ⟨F, hS⟩ := hS.nm [4, 1, 0] [5, 4, 3, 2, 0] rfl rfl
  try dsimp only [rEdge, rHv] at hS
  refine then_n (wp_seq (wp_seq ?_))
  refine region_q hS
    (cF rfl (oM .t) r1 trivial
    (cF rfl (o_nil_eql _ Try.underlying26 rfl .t) r1 trivial
    Chain.nil))
    hB ?_
  clear hS; intro a w F hS
  obtain ⟨F, hS⟩ := hS.nm [6, 4, 1, 0] [5, 4, 3, 2, 0] rfl rfl
  try dsimp only [rEdge, rHv] at hS
  refine then_n ?_
  refine cond_b hS rfl (fun hc0 => ?_) (fun hc0 => ?_)
  ·skip
   simp at hc0
  refine wp_skip (then_n (wp_seq ?_))
  obtain ⟨⟨es2, ck2⟩, hS⟩ := hS.open_ex 5 rfl
  obtain ⟨hf, hS⟩ := hS.open_and 5 rfl
  obtain ⟨F, hS⟩ := hS.peel 5 6 rfl rfl
  obtain ⟨F, hS⟩ := hS.peel 5 60 rfl rfl
  try dsimp only at hf hS
  obtain ⟨F, hS⟩ := hS.nm [6, 4, 1, 0] [60, 6, 4, 3, 2, 0] rfl rfl
  refine part_first 7 hS (by kernel_rfl)
    (cG rfl (oM .t) r1 trivial
    (cG rfl (oM .t) r1 trivial
    (cG rfl (o_nilCheck 2 .is (by rfl)) r1 r1
    (cG rfl (oF 2 2 .adr) r1 r1
    (cG rfl (oL false 1 2 .adr) r1 r1
    (cG rfl (oM .t) r1 trivial
    (cG rfl (o_lookupG (ek := (fun p : Value × List Int => PV.is p.1)) (z0 := noRow) 6 Try.underlying53 (key_intG Try.underlying3) (by kernel_rfl) (fun _ _ => ⟨rfl, rfl⟩) .is (IsKeyOf.int .t rfl)) r2 r1
    ChainN.nil)))))))
    (by kernel_rfl) (by rw [hB]; kernel_rfl) ?_
  clear hS; intro a w F hS
  obtain ⟨F, hS⟩ := hS.nm [13, 7, 4] [60, 6, 4, 3, 2, 0] rfl rfl
  try dsimp only [List.map, xD, xE, xT, xU, ldSF, rEdge, rHv] at hS
  obtain ⟨F, hS⟩ := hS.takeKey (T := 49) (sz := 1) (R := rU64) 60 61 id rfl rfl
  rw [hf id] at hS
  obtain ⟨u, hu⟩ : ∃ z, z = ((gGet id es2).getD noRow).1 := ⟨_, rfl⟩
  rw [← hu] at hS
  obtain ⟨F, hS⟩ := hS.nm [13, 7, 4] [61, 60, 6, 4, 3, 2, 0] rfl rfl
  replace hS := hS.turn 3 rfl (r' := .ob (.val s.cv) (MP1 s.es s.ck)) (fun _ _ _ _ h => h)
  replace hS := hS.fresh 70 rfl
  obtain ⟨F, hS⟩ := hS.push 70 3 rfl rfl rfl (by kernel_rfl)
  obtain ⟨F, hS⟩ := hS.push 70 2 rfl rfl rfl (by kernel_rfl)
  replace hS := hS.turn 70 rfl (r' := RS.hp (hvH (.pointer (some ⟨b, 0, none⟩)) s.cv s.ov s.iv s.es s.ck)) (fun _ _ _ _ h => h)
  replace hS := hS.turn 61 rfl (r' := RS.hp (rowH 49 1 rU64 (inF bg id) u)) (fun _ _ _ _ h => h)
  obtain ⟨F, hS⟩ := hS.nm [13, 7, 4] [70, 61, 60, 6, 4, 0] rfl rfl
  refine part_next 1 hS (by kernel_rfl)
    (cG rfl (o_callG2 70 61 (heavy_c b s.cv s.ov s.iv u s.es s.ck (inF bg id) (Nat.le_trans (nums_len _ _) (by omega)) (nums_val hB9 hk.cnt)) Try.func26 rfl (by kernel_rfl) rfl (Args.two .t .t)) r2 r2
    ChainN.nil)
    (by kernel_rfl) (by rw [hB]; kernel_rfl) ?_
  clear hS; intro a w F hS
  replace hS := hS.sub
  obtain ⟨F, hS⟩ := hS.nm [14, 4] [70, 61, 60, 6, 4, 0] rfl rfl
  try dsimp only [RS.sub, SF.sub, CF.sub, csub, Anc.sub, List.map, rEdge, rHv] at hS
  generalize Act.tau a 14 = v14 at hS
  replace hS := hS.turn 70 rfl (r' := RS.hp (hvH (.pointer (some ⟨b, 0, none⟩)) s.cv s.ov s.iv s.es s.ck)) (fun _ _ _ _ h => h)
  obtain ⟨F, hS⟩ := hS.peel 70 2 rfl rfl
  obtain ⟨F, hS⟩ := hS.peel 70 3 rfl rfl
  obtain ⟨F, hS⟩ := hS.nm [14, 4] [61, 60, 6, 4, 3, 2, 0] rfl rfl
  replace hS := hS.turn 61 rfl (r' := .ob (.val ((gGet id es2).getD noRow).1) (rowH 49 1 rU64 ((gGet id es2).getD noRow).2)) (by rw [hf id, ← hu]; exact fun _ _ _ _ h => h)
  obtain ⟨F, hS⟩ := Sat.backKey (T := 49) (sz := 1) (R := rU64) hS 60 61 id rfl rfl rfl
  replace hS := hS.fresh 5 rfl
  obtain ⟨F, hS⟩ := hS.push 5 60 rfl rfl rfl (by kernel_rfl)
  obtain ⟨F, hS⟩ := hS.push 5 6 rfl rfl rfl (by kernel_rfl)
  replace hS := hS.turn 5 rfl (r' := RS.hp (rowsH s.iv (inF bg))) (fun _ _ _ _ h => ⟨(es2, ck2), hf, h⟩)
  obtain ⟨F, hS⟩ := hS.nm [14, 4] [5, 4, 3, 2, 0] rfl rfl
  rw [heavy_nums hB9 hk.cnt] at hS
  refine part_last hS (by kernel_rfl)
    (cG rfl (oN .t) r1 trivial
    ChainN.nil)
    (by kernel_rfl) (by rw [hB]; kernel_rfl) ?_
  clear hS; intro a w F hS
  obtain ⟨F, hS⟩ := hS.nm [4] [5, 4, 3, 2, 0] rfl rfl
  try dsimp only [rEdge, rHv] at hS
  refine then_n (wp_ret ?_)
  have hS := hS.fresh 1 rfl
  obtain ⟨F, hS⟩ := hS.push 1 5 rfl rfl rfl (by kernel_rfl)
  obtain ⟨F, hS⟩ := hS.push 1 4 rfl rfl rfl (by kernel_rfl)
  obtain ⟨F, hS⟩ := hS.push 1 3 rfl rfl rfl (by kernel_rfl)
  obtain ⟨F, hS⟩ := hS.push 1 2 rfl rfl rfl (by kernel_rfl)
  have hS := hS.turn 1 rfl (r' := RS.hp (mulH (.pointer (some ⟨b, 0, none⟩)) bg)) (fun _ _ _ _ h => ⟨s, hk, h⟩)
  refine ret_G1 hG hS rfl (.tmp rfl .nil) (.one .refl) rfl

theorem min_nil (id : Int) : FnP Try.prog 18 [.is (.pointer none), .int .i64 id] (.sl rHv []) := by
  refine FnP.mk Try.func18 rfl Try.ntmps18 rfl ?_
  intro B a w F hB hfr hS
  refine wp_seq ?_
  refine region_q hS
    (cF rfl (oN (.c rfl)) trivial trivial
    Chain.nil)
    hB ?_
  clear hS; intro a w F hS
  obtain ⟨F, hS⟩ := hS.nm [4, 1, 0] [0] rfl rfl
  refine then_n (wp_seq (wp_seq ?_))
  refine region_q hS
    (cF rfl (oM .t) r1 trivial
    (cF rfl (o_nil_eql _ Try.underlying26 rfl .t) r1 trivial
    Chain.nil))
    hB ?_
  clear hS; intro a w F hS
  obtain ⟨F, hS⟩ := hS.nm [6, 4, 1, 0] [0] rfl rfl
  refine then_n ?_
  refine cond_b hS rfl (fun hc0 => ?_) (fun hc0 => ?_)
  ·skip
   refine wp_seq ?_
   refine region_q hS
     (cF rfl (oN (.c rfl)) trivial trivial
     Chain.nil)
     hB ?_
   clear hS; intro a w F hS
   obtain ⟨F, hS⟩ := hS.nm [4, 1, 0] [0] rfl rfl
   refine then_n (wp_ret (then_r ?_))
   refine ret_P hfr hS rfl (.tmp rfl .nil) (.one (.trans .nilSl (.sl rfl)))
  simp at hc0

end Go.Proofs.Ytfdjjfplhdpclaa
