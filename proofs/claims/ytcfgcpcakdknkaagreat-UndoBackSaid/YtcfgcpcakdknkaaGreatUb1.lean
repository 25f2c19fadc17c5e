/- UndoBack. No condition beyond those that each theorem says. -/
import Derived.Test.YtcfgcpcakdknkaaGreatUb0
import Derived.Test.YtcfgcpcakdknkaaGreatUnX
import Derived.Test.YtcfgcpcakdknkaaGreatEdY
import Derived.Test.YtcfgcpcakdknkaaGreatLibE
namespace Go.Proofs.YtcfgcpcakdknkaaGreat
open Go Go.Gm
set_option linter.unusedVariables false
set_option linter.unusedSimpArgs false
set_option maxHeartbeats 4000000
set_option maxRecDepth 8000

theorem undoBack_c (m : Int) (l : List EdD) : FnP Tryz.prog 3 [.int .i64 m, .sl rEd l] (.bool true) := by
  refine FnP.mk Tryz.func3 rfl Tryz.ntmps3 rfl ?_
  intro B a w F hB hfr hS
  refine wp_seq ?_
  refine region_z hS (qf (oN .cb) trivial qz qZ) hB [4, 1, 0] [0] rfl rfl ?_
  clear hS; intro a w F hS
  refine then_n (wp_seq (wp_seq ?_))
  refine region_z hS (qf (oP (livesU_c) Tryz.func7 Args.nil) trivial qz (qf (o_not .t) r1 qz qZ)) hB [30, 4, 1, 0] [0] rfl rfl ?_
  clear hS; intro a w F hS
  refine then_n ?_
  refine cond_b hS rfl (fun hc0 => ?_) (fun hc0 => ?_)
  ·skip
   simp at hc0
  refine wp_skip (then_n (wp_seq ?_))
  replace hS := hS.fresh 101 rfl
  refine region_q hS (qM rfl rfl (qf (o_callN 101 (unew_c m) Tryz.func8 rfl (by kernel_rfl) (Args.one .t) PV.ptr_one) r1 r1 (qN rfl rfl qZ))) hB ?_
  clear hS; intro a w F hS
  replace hS := hS.sub
  obtain ⟨F, hS⟩ := hS.nm [5, 4, 1, 0] [101, 0] rfl rfl
  try dsimp only [RS.sub, SF.sub, CF.sub, csub, Anc.sub, List.map, rHist, rTx, rOrd, rVer, rInt, rOp, rEd, rDelta] at hS
  generalize Act.tau a 32 = v32 at hS
  obtain ⟨_, _, _, ho⟩ := hS.obGet 101 rfl
  obtain ⟨b, rfl⟩ := logH_ptr ho
  clear ho
  replace hS := hS.turn 101 rfl (r' := RS.hp (logH (.pointer (some ⟨b, 0, none⟩)) (refRoomU m) [] [])) (fun _ _ _ _ h => h)
  obtain ⟨F, hS⟩ := hS.nm [5, 4, 1, 0] [101, 0] rfl rfl
  refine then_n (wp_seq (wp_seq ?_))
  refine region_z hS (qM rfl rfl (qf (o_nil_eql _ Tryz.underlying24 rfl .t) r1 qz (qM rfl rfl (qm rfl rfl rfl rfl (qk rfl (fun h => oP (lightL_c l) Tryz.func9 (Args.one (.w h))) r2 qz (qk rfl (fun h => o_not (.w h)) r2 qz (qf (o_or2 .t .t) r2 qz qZ))))))) hB [39, 5, 4, 1, 0] [101, 0] rfl rfl ?_
  clear hS; intro a w F hS
  refine then_n ?_
  refine cond_b hS rfl (fun hc1 => ?_) (fun hc1 => ?_)
  ·skip
   refine wp_seq ?_
   refine region_z hS (qM rfl rfl (qf (o_nil_neq _ Tryz.underlying24 rfl .t) r1 qz (qN rfl rfl qZ))) hB [5, 4, 1, 0] [101, 0] rfl rfl ?_
   clear hS; intro a w F hS
   refine then_n (wp_ret (then_r ?_))
   refine ret_P hfr hS rfl (.tmp rfl .nil) (.one (.bool (by first | rfl | simp | exact hfin)))
  have hl : lightL l := by simpa using hc1
  have hll := hl.1
  refine wp_skip (then_n (wp_seq ?_))
  refine part_first 1 hS (by kernel_rfl) (cG rfl (oB [] [.slice none 0 0, .slice none 0 0] [(0, 1), (1, 1)] .nil) trivial trivial ChainN.nil) (by kernel_rfl) (by rw [hB]; kernel_rfl) ?_
  clear hS; intro a w F hS
  obtain ⟨F, hS⟩ := hS.nm [42, 5, 4, 1, 0] [101, 0] rfl rfl
  try dsimp only [List.map, stCells, xL, xM, Nat.reduceAdd, xD, xE, xT, xU, xC, xN, zCF, rHist, rTx, rOrd, rVer, rInt, rOp, rEd, rDelta] at hS
  replace hS := hS.ent (i := 42) (s' := .pv (.agg (rHist zeroH))) rfl (.aggLe rfl ⟨PVLe.nilSl, PVLe.nilSl, trivial⟩)
  obtain ⟨F, hS⟩ := hS.nm [42, 5, 4, 1, 0] [101, 0] rfl rfl
  refine part_last hS (by kernel_rfl) (cG rfl (o_buildRow (R := rHist) (l := [zeroH]) (sz := 2) (zs := [.slice none 0 0, .slice none 0 0]) (r := [(0, .tmp 42)]) 102 Tryz.underlying31 (by kernel_rfl) (by kernel_rfl) (by kernel_rfl) (by kernel_rfl) rfl rfl (.agg rfl (.conv .t .agg) (by kernel_rfl) (by kernel_rfl) .nil) rfl rfl (by intro x; rfl)) r1 trivial (cG rfl (oN .t) r1 trivial ChainN.nil)) (by kernel_rfl) (by rw [hB]; kernel_rfl) ?_
  clear hS; intro a w F hS
  replace hS := hS.sub
  obtain ⟨F, hS⟩ := hS.nm [6, 5, 4, 1, 0] [102, 101, 0] rfl rfl
  try dsimp only [RS.sub, SF.sub, CF.sub, csub, Anc.sub, List.map, stCells, xL, xM, Nat.reduceAdd, xD, xE, xT, xU, xC, xN, zCF, rHist, rTx, rOrd, rVer, rInt, rOp, rEd, rDelta] at hS
  generalize Act.tau a 43 = v43 at hS
  skip
  refine then_n (wp_seq (wp_seq ?_))
  refine region_z hS (qM rfl rfl (qf (o_len_sl Tryz.underlying22 .t) r1 qz (qf (oM qi) trivial qz qZ))) hB [46, 45, 44, 6, 5, 4, 0] [102, 101, 0] rfl rfl ?_
  clear hS; intro a w F hS
  refine then_n (wp_block ?_)
  refine loop_keep (σ := (Nat) × (List DeltaD) × (Value) × (List HistD)) [0, 4, 5, 44, 45] [0] (fun s => [(46, .pv (.int .i64 (s.1 : Int))), (6, .pv (.is s.2.2.1))]) (fun s => [(101, RS.hp (logH (.pointer (some ⟨b, 0, none⟩)) (refRoomU m) s.2.1 [])), (102, .ob (.val s.2.2.1) (rowH 30 2 rHist s.2.2.2))]) (fun s => s.1 ≤ l.length ∧ (UB (refRoomU m) s.1 s.2.2.2 s.2.1)) (fun s => l.length - s.1) ((0), ([]), (v43), ([zeroH])) hS ⟨rfl, rfl, rfl, rfl, rfl, rfl, rfl, trivial⟩ ⟨rfl, rfl, rfl, trivial⟩ ⟨Nat.zero_le _, UB.zero⟩ ?_
  clear hS; intro s a w F hC hS
  obtain ⟨i, D, v, L⟩ := s
  try dsimp only at hC
  obtain ⟨F, hS⟩ := hS.nm [46, 45, 44, 6, 5, 4, 0] [102, 101, 0] rfl rfl
  try dsimp only at hS
  obtain ⟨hi, hq⟩ := hC
  have hU0 := hq.ne
  have hUl := hq.le
  have hwl : IntKind.wrap .i64 ((L.length : Int) - 1) = ((L.length - 1 : Nat) : Int) := by rw [wrap_i64 (by omega)]; omega
  refine wp_seq ?_
  refine region_z hS (qf (o_lss .t .t) r2 qz qZ) hB [47, 46, 45, 44, 6, 5, 4, 0] [102, 101, 0] rfl rfl ?_
  clear hS; intro a w F hS
  refine then_n (wp_seq ?_)
  refine cond_b hS rfl (fun hc2 => ?_) (fun hc2 => ?_)
  ·skip
   have hil : i < l.length := by simp at hc2; omega
   refine wp_skip (then_n (wp_seq (wp_block (wp_seq ?_))))
   refine region_q hS (qf (o_indexAddr_sl (sz := 7) (.mk Tryz.underlying22 (by kernel_rfl)) (by intro x; rfl) .t .t (by omega) (by omega)) r2 qz (qf (oR true 7 .t) r1 qz (qf (oH [.int .i64 0, .int .i64 0, .bool false, .slice none 0 0, .int .i64 0, .slice none 0 0, .int .i64 0] 103) trivial qz (qf (oA 7 103 .same .t) r2 r1 qZ)))) hB ?_
   clear hS; intro a w F hS
   replace hS := hS.sub
   obtain ⟨F, hS⟩ := hS.nm [49, 48, 47, 46, 45, 44, 8, 6, 5, 4, 0] [103, 102, 101, 0] rfl rfl
   try dsimp only [RS.sub, SF.sub, CF.sub, csub, Anc.sub, List.map, stCells, xL, xM, Nat.reduceAdd, xD, xE, xT, xU, xC, xN, zCF, ldSF, rHist, rTx, rOrd, rVer, rInt, rOp, rEd, rDelta] at hS
   generalize Act.tau a 8 = v8 at hS
   try simp only [Int.toNat_natCast] at hS
   refine then_n (wp_seq ?_)
   refine region_q hS (qM rfl rfl (qM rfl rfl (qf (o_len_row 102 Tryz.underlying31 .is) r1 r1 (qf (o_sub .t qi) r1 qz (qf (o_indexAddr_row (sz := 2) 102 (.mk Tryz.underlying31 (by kernel_rfl)) .is .t (by rw [hwl]; omega) (by rw [hwl]; omega) (by rfl)) r2 r1 (qf (o_load_row0 (ag := true) (sz' := 2) (sz := 2) 102 .t (by intro x; rfl) (by rw [hwl]; omega) (by kernel_rfl) (by kernel_rfl) (by kernel_rfl)) r1 r1 (qf (oH [.slice none 0 0, .slice none 0 0] 104) trivial qz (qf (oA 2 104 .same .t) r2 r1 qZ)))))))) hB ?_
   clear hS; intro a w F hS
   replace hS := hS.sub
   obtain ⟨F, hS⟩ := hS.nm [55, 54, 53, 52, 51, 50, 49, 48, 47, 46, 45, 44, 9, 8, 6, 5, 4, 0] [104, 103, 102, 101, 0] rfl rfl
   try dsimp only [RS.sub, SF.sub, CF.sub, csub, Anc.sub, List.map, stCells, xL, xM, Nat.reduceAdd, xD, xE, xT, xU, xC, xN, zCF, ldSF, rHist, rTx, rOrd, rVer, rInt, rOp, rEd, rDelta] at hS
   generalize Act.tau a 9 = v9 at hS
   try simp only [Int.toNat_natCast] at hS
   skip
   rw [hwl] at hS
   simp only [Int.toNat_natCast] at hS
   refine then_n (wp_seq ?_)
   refine region_q hS (qf (oL true 2 104 .is) r1 r1 (qf (oL true 7 103 .is) r1 r1 (qf (oP (refDo_c (Go.Gm.nth L (L.length - 1)) (Go.Gm.nth l i) ((hq.fit _ (by omega)).small (by omega)) (light_at hl.2 hil)) Tryz.func10 (Args.two (.pagg .t) (.pagg .t))) r2 qz (qM rfl rfl (qf (o_extract .t rfl) r1 qz (qf (o_extract .t rfl) r1 qz (qf (oH [.slice none 0 0, .slice none 0 0] 105) trivial qz (qf (oA 2 105 .same (.conv .t .agg)) r2 r1 (qN rfl rfl qZ))))))))) hB ?_
   clear hS; intro a w F hS
   replace hS := hS.sub
   obtain ⟨F, hS⟩ := hS.nm [61, 60, 59, 58, 57, 56, 55, 54, 53, 52, 51, 50, 49, 48, 47, 46, 45, 44, 11, 10, 9, 8, 6, 5, 4, 0] [105, 104, 103, 102, 101, 0] rfl rfl
   try dsimp only [RS.sub, SF.sub, CF.sub, csub, Anc.sub, List.map, stCells, xL, xM, Nat.reduceAdd, xD, xE, xT, xU, xC, xN, zCF, ldSF, rHist, rTx, rOrd, rVer, rInt, rOp, rEd, rDelta] at hS
   generalize Act.tau a 10 = v10 at hS
   refine then_n (wp_seq ?_)
   refine region_z hS (qM rfl rfl (qf (o_eql .t qi) r1 qz qZ)) hB [63, 62, 61, 60, 59, 58, 57, 56, 55, 54, 53, 52, 51, 50, 49, 48, 47, 46, 45, 44, 11, 10, 9, 8, 6, 5, 4, 0] [105, 104, 103, 102, 101, 0] rfl rfl ?_
   clear hS; intro a w F hS
   refine then_n ?_
   refine cond_b hS rfl (fun hc3 => ?_) (fun hc3 => ?_)
   ·skip
    have hd0 : (doH (Go.Gm.nth L (L.length - 1)) (Go.Gm.nth l i)).2 = 0 := by simpa using hc3
    have hle : lightE (Go.Gm.nth l i) := light_at hl.2 hil
    have hst9 := hq.push hle (by omega) hd0
    have hr1 := hq.right (L.length - 1) (by omega)
    have hs1 := (hq.fit (L.length - 1) (by omega)).small (by omega)
    have hr2 := do_right hs1 hd0
    have hs2 := ((hq.fit (L.length - 1) (by omega)).doH hle).small (by omega)
    refine wp_seq ?_
    refine region_q hS (qf (oL true 2 104 .is) r1 r1 (qf (oL true 2 105 .is) r1 r1 (qf (oP (of14_c (Go.Gm.nth L (L.length - 1)) (doH (Go.Gm.nth L (L.length - 1)) (Go.Gm.nth l i)).1 hs1 hs2) Tryz.func11 (Args.two (.pagg .t) (.pagg .t))) r2 qz (qM rfl rfl (qf (o_extract .t rfl) r1 qz (qf (o_extract .t rfl) r1 qz (qf (oH [.slice none 0 0, .slice none 0 0, .slice none 0 0, .slice none 0 0] 106) trivial qz (qf (oA 4 106 .same (.conv .t .agg)) r2 r1 (qN rfl rfl qZ))))))))) hB ?_
    clear hS; intro a w F hS
    replace hS := hS.sub
    obtain ⟨F, hS⟩ := hS.nm [69, 68, 67, 66, 65, 64, 63, 62, 61, 60, 59, 58, 57, 56, 55, 54, 53, 52, 51, 50, 49, 48, 47, 46, 45, 44, 12, 11, 10, 9, 8, 6, 5, 4, 0] [106, 105, 104, 103, 102, 101, 0] rfl rfl
    try dsimp only [RS.sub, SF.sub, CF.sub, csub, Anc.sub, List.map, stCells, xL, xM, Nat.reduceAdd, xD, xE, xT, xU, xC, xN, zCF, ldSF, rHist, rTx, rOrd, rVer, rInt, rOp, rEd, rDelta] at hS
    generalize Act.tau a 12 = v12 at hS
    refine then_n (wp_seq ?_)
    refine region_z hS (qM rfl rfl (qf (oL true 4 106 .is) r1 r1 (qf (o_callG1 101 (push_c b (refRoomU m) D [] (ofD (Go.Gm.nth L (L.length - 1)) (doH (Go.Gm.nth L (L.length - 1)) (Go.Gm.nth l i)).1).1 (of_shd hr1 hr2 hs1 hs2).2.1.ok) Tryz.func12 rfl (by kernel_rfl) (Args.two .t (.pagg .t))) r2 r1 qZ))) hB [71, 70, 69, 68, 67, 66, 65, 64, 63, 62, 61, 60, 59, 58, 57, 56, 55, 54, 53, 52, 51, 50, 49, 48, 47, 46, 45, 44, 12, 11, 10, 9, 8, 6, 5, 4, 0] [106, 105, 104, 103, 102, 101, 0] rfl rfl ?_
    clear hS; intro a w F hS
    refine then_n ?_
    refine region_q hS (qM rfl rfl (qf (oL true 2 105 .is) r1 r1 (qf (o_buildSliceE (sz := 2) (zs := [.slice none 0 0, .slice none 0 0]) (r := [(0, .tmp 74)]) (l := [_, _]) Tryz.underlying31 (by kernel_rfl) (by kernel_rfl) (by kernel_rfl) (by kernel_rfl) rfl rfl (.agg rfl .t (by kernel_rfl) (by kernel_rfl) .nil) rfl) r1 qz (qf (o_append (sz := 2) (bs := 48) 102 (.mk' Tryz.underlying31 (by kernel_rfl) (by kernel_rfl)) (by intro x; rfl) .is (.arr (l' := [(doH (Go.Gm.nth L (L.length - 1)) (Go.Gm.nth l i)).1]) .t) (by simp only [List.length_append, List.length_cons, List.length_nil]; omega) (by decide)) ⟨rfl, rfl, trivial⟩ ⟨rfl, trivial⟩ (qN rfl rfl qZ))))) hB ?_
    clear hS; intro a w F hS
    replace hS := hS.sub
    obtain ⟨F, hS⟩ := hS.nm [76, 75, 74, 73, 71, 70, 69, 68, 67, 66, 65, 64, 63, 62, 61, 60, 59, 58, 57, 56, 55, 54, 53, 52, 51, 50, 49, 48, 47, 46, 45, 44, 12, 11, 10, 9, 8, 6, 5, 4, 0] [106, 105, 104, 103, 102, 101, 0] rfl rfl
    try dsimp only [RS.sub, SF.sub, CF.sub, csub, Anc.sub, List.map, stCells, xL, xM, Nat.reduceAdd, xD, xE, xT, xU, xC, xN, zCF, ldSF, rHist, rTx, rOrd, rVer, rInt, rOp, rEd, rDelta] at hS
    generalize Act.tau a 76 = v76 at hS
    skip
    refine block_n (then_n ?_)
    refine region_z hS (qf (o_add .t qi) r1 qz (qM rfl rfl qZ)) hB [77, 76, 75, 74, 73, 71, 70, 69, 68, 67, 66, 65, 64, 63, 62, 61, 60, 59, 58, 57, 56, 55, 54, 53, 52, 51, 50, 49, 48, 47, 46, 45, 44, 12, 11, 10, 9, 8, 6, 5, 4, 0] [106, 105, 104, 103, 102, 101, 0] rfl rfl ?_
    clear hS; intro a w F hS
    refine then_n ?_
    replace hS := hS.ent (i := 46) (s' := .pv (.int .i64 ((i + 1 : Nat) : Int))) rfl (.int (wrap_succ (by omega)))
    obtain ⟨F, hS⟩ := hS.nm [45, 44, 5, 4, 0, 6, 46] [0, 102, 101] rfl rfl
    exact ⟨((i + 1), _, _, _), F, ⟨by omega, hst9⟩, hS, by omega⟩
   have hst9 := hq.skip
   refine wp_skip (block_n (then_n ?_))
   refine region_z hS (qf (o_add .t qi) r1 qz (qM rfl rfl qZ)) hB [77, 63, 62, 61, 60, 59, 58, 57, 56, 55, 54, 53, 52, 51, 50, 49, 48, 47, 46, 45, 44, 11, 10, 9, 8, 6, 5, 4, 0] [105, 104, 103, 102, 101, 0] rfl rfl ?_
   clear hS; intro a w F hS
   refine then_n ?_
   replace hS := hS.ent (i := 46) (s' := .pv (.int .i64 ((i + 1 : Nat) : Int))) rfl (.int (wrap_succ (by omega)))
   obtain ⟨F, hS⟩ := hS.nm [45, 44, 5, 4, 0, 6, 46] [0, 102, 101] rfl rfl
   exact ⟨((i + 1), _, _, _), F, ⟨by omega, hst9⟩, hS, by omega⟩
  have hil : i = l.length := by simp at hc2; omega
  skip
  refine wp_exit (then_x (then_x (block_x (then_n (wp_seq ?_)))))
  refine region_z hS (qM rfl rfl (qf (o_len_row 102 Tryz.underlying31 .is) r1 r1 (qf (o_sub .t qi) r1 qz (qN rfl rfl qZ)))) hB [14, 6, 5, 4, 0] [102, 101, 0] rfl rfl ?_
  clear hS; intro a w F hS
  refine then_n (wp_seq ?_)
  refine region_z hS (qM rfl rfl (qf (o_callG1 101 (len_c b (refRoomU m) D []) Tryz.func13 rfl (by kernel_rfl) (Args.one .t)) r1 r1 (qN rfl rfl qZ))) hB [15, 14, 6, 5, 4, 0] [102, 101, 0] rfl rfl ?_
  clear hS; intro a w F hS
  refine then_n (wp_seq (wp_seq ?_))
  refine region_z hS (qM rfl rfl (qM rfl rfl (qf (oP (refRoomU_c m) Tryz.func14 (Args.one .t)) r1 qz (qM rfl rfl (qf (o_min .t .t) r2 qz (qf (o_neq .t .t) r2 qz qZ)))))) hB [88, 15, 14, 6, 5, 4] [102, 101, 0] rfl rfl ?_
  clear hS; intro a w F hS
  skip
  refine then_n ?_
  refine cond_b hS rfl (fun hc4 => ?_) (fun hc4 => ?_)
  ·skip
   have h9 := hc4
   have h8 := hq.len
   rw [hwl] at h9
   simp at h9
   omega
  have hDl := hq.len
  refine wp_skip (then_n (wp_seq ?_))
  refine region_q hS (qM rfl rfl (qM rfl rfl (qf (o_indexAddr_row (sz := 2) 102 (.mk Tryz.underlying31 (by kernel_rfl)) .is .t (by rw [hwl]; omega) (by rw [hwl]; omega) (by rfl)) r2 r1 (qf (o_load_row0 (ag := true) (sz' := 2) (sz := 2) 102 .t (by intro x; rfl) (by rw [hwl]; omega) (by kernel_rfl) (by kernel_rfl) (by kernel_rfl)) r1 r1 (qf (oH [.slice none 0 0, .slice none 0 0] 107) trivial qz (qf (oA 2 107 .same .t) r2 r1 qZ)))))) hB ?_
  clear hS; intro a w F hS
  replace hS := hS.sub
  obtain ⟨F, hS⟩ := hS.nm [16, 15, 14, 6, 5, 4] [107, 102, 101, 0] rfl rfl
  try dsimp only [RS.sub, SF.sub, CF.sub, csub, Anc.sub, List.map, stCells, xL, xM, Nat.reduceAdd, xD, xE, xT, xU, xC, xN, zCF, ldSF, rHist, rTx, rOrd, rVer, rInt, rOp, rEd, rDelta] at hS
  generalize Act.tau a 16 = v16 at hS
  try simp only [Int.toNat_natCast] at hS
  rw [hwl] at hS
  simp only [Int.toNat_natCast] at hS
  refine then_n (wp_seq (wp_seq ?_))
  refine region_z hS (qf (oN qi) trivial qz qZ) hB [17, 16, 15, 14, 6, 5, 4] [107, 102, 101, 0] rfl rfl ?_
  clear hS; intro a w F hS
  refine then_n (wp_block ?_)
  replace hS := hS.turn 101 rfl (r' := RS.hp (logH (.pointer (some ⟨b, 0, none⟩)) (refRoomU m) (D.take (D.length - 0)) (D.drop (D.length - 0)).reverse)) (fun _ _ _ _ h => by rw [Nat.sub_zero, List.take_length, List.drop_length]; exact h)
  refine loop_keep (σ := Nat) [4, 5, 6, 14, 15, 16] [0, 102] (fun s => [(17, .pv (.int .i64 (s : Int)))]) (fun s => [(101, RS.hp (logH (.pointer (some ⟨b, 0, none⟩)) (refRoomU m) (D.take (D.length - s)) (D.drop (D.length - s)).reverse)), (107, .pt (.val v16) 30 [.pv (.sl rTx (Go.Gm.nth L (L.length - 1 - s)).txs), .pv (.sl rOrd (Go.Gm.nth L (L.length - 1 - s)).orders)])]) (fun s => s ≤ D.length) (fun s => D.length - s) (0) hS ⟨rfl, rfl, rfl, rfl, rfl, rfl, rfl, trivial⟩ ⟨rfl, rfl, rfl, rfl, trivial⟩ (Nat.zero_le _) ?_
  clear hS; intro i a w F hC hS
  try dsimp only at hC
  obtain ⟨F, hS⟩ := hS.nm [17, 16, 15, 14, 6, 5, 4] [107, 102, 101, 0] rfl rfl
  try dsimp only at hS
  have hi := hC
  refine wp_seq (wp_seq ?_)
  refine region_z hS (qM rfl rfl (qM rfl rfl (qf (o_lss .t .t) r2 qz qZ))) hB [95, 94, 93, 17, 16, 15, 14, 6, 5, 4] [107, 102, 101, 0] rfl rfl ?_
  clear hS; intro a w F hS
  refine then_n ?_
  refine cond_b hS rfl (fun hc5 => ?_) (fun hc5 => ?_)
  ·skip
   have hil : i < D.length := by simp at hc5; omega
   obtain ⟨hbu, hsu, hbr, hsr⟩ := hq.back (by omega) (j := i) (by omega)
   have hw2 : IntKind.wrap .i64 (IntKind.wrap .i64 (((L.length - 1 : Nat) : Int) - (i : Int)) - 1) = ((L.length - 1 - i - 1 : Nat) : Int) := by rw [wrap_i64 (x := ((L.length - 1 : Nat) : Int) - (i : Int)) (by omega), wrap_i64 (by omega)]; omega
   have hC2 : i + 1 ≤ D.length := hil
   refine wp_skip (then_n (wp_seq (wp_block (wp_seq ?_))))
   refine region_q hS (qM rfl rfl (qf (o_callG1 101 (undo_c b (refRoomU m) (D.take (D.length - i)) (D.drop (D.length - i)).reverse) Tryz.func15 rfl (by kernel_rfl) (Args.one .t)) r1 r1 (qM rfl rfl (qf (o_extract .t rfl) r1 qz (qf (o_extract .t rfl) r1 qz (qf (oH [.slice none 0 0, .slice none 0 0, .slice none 0 0, .slice none 0 0] 108) trivial qz (qf (oA 4 108 .same (.conv .t .agg)) r2 r1 (qN rfl rfl qZ)))))))) hB ?_
   clear hS; intro a w F hS
   replace hS := hS.sub
   obtain ⟨F, hS⟩ := hS.nm [102, 101, 100, 99, 98, 95, 94, 93, 19, 18, 17, 16, 15, 14, 6, 5, 4] [108, 107, 102, 101, 0] rfl rfl
   try dsimp only [RS.sub, SF.sub, CF.sub, csub, Anc.sub, List.map, stCells, xL, xM, Nat.reduceAdd, xD, xE, xT, xU, xC, xN, zCF, rHist, rTx, rOrd, rVer, rInt, rOp, rEd, rDelta] at hS
   generalize Act.tau a 18 = v18 at hS
   obtain ⟨hu1, hu2, hu3⟩ := ubU hil
   rw [hu1, hu2, hu3] at hS
   dsimp only at hS
   refine then_n (wp_seq ?_)
   refine region_q hS (qf (oL true 2 107 .is) r1 r1 (qf (oL true 4 108 .is) r1 r1 (qf (oP (applyD_c (Go.Gm.nth L (L.length - 1 - i)) (inv (Go.Gm.nth D (D.length - 1 - i))) hsu) Tryz.func16 (Args.two (.pagg .t) (.pagg .t))) r2 qz (qM rfl rfl (qf (o_extract .t rfl) r1 qz (qf (o_extract .t rfl) r1 qz (qf (oH [.slice none 0 0, .slice none 0 0] 109) trivial qz (qf (oA 2 109 .same (.conv .t .agg)) r2 r1 (qN rfl rfl qZ))))))))) hB ?_
   clear hS; intro a w F hS
   replace hS := hS.sub
   obtain ⟨F, hS⟩ := hS.nm [108, 107, 106, 105, 104, 103, 102, 101, 100, 99, 98, 95, 94, 93, 21, 20, 19, 18, 17, 16, 15, 14, 6, 5, 4] [109, 108, 107, 102, 101, 0] rfl rfl
   try dsimp only [RS.sub, SF.sub, CF.sub, csub, Anc.sub, List.map, stCells, xL, xM, Nat.reduceAdd, xD, xE, xT, xU, xC, xN, zCF, ldSF, rHist, rTx, rOrd, rVer, rInt, rOp, rEd, rDelta] at hS
   generalize Act.tau a 20 = v20 at hS
   rw [hbu] at hS
   dsimp only at hS
   refine then_n (wp_seq (wp_seq ?_))
   refine region_any (by kernel_rfl) hS (by kernel_rfl) (qM rfl rfl (qf (o_neq .t qi) r1 qz (qM rfl rfl (qm rfl rfl rfl rfl (qk rfl (fun h => o_neq (.w h) qi) r2 qz (qf (o_or2 .t .t) r2 qz (qM rfl rfl (qk rfl (fun h => oL true 2 109 .is) r2 r1 (qm rfl rfl rfl rfl (qm rfl rfl rfl rfl (qm rfl rfl rfl rfl (qk rfl (fun h => o_sub (.w h) (.w h)) r3 qz (qk rfl (fun h => o_sub (.w h) qi) r2 qz (qk rfl (fun h => o_indexAddr_row (sz := 2) 102 (.mk Tryz.underlying31 (by kernel_rfl)) (.w h .is) (.w h) (by rw [hw2]; omega) (by rw [hw2]; omega) (by rfl)) r3 r1 (qk rfl (fun h => o_load_row0 (ag := true) (sz' := 2) (sz := 2) 102 (.w h) (by intro x; rfl) (by rw [hw2]; omega) (by kernel_rfl) (by kernel_rfl) (by kernel_rfl)) r2 r1 (qk rfl (fun h => oP (sameHist_c _ _) Tryz.func17 (Args.two (.pagg (.w h)) (.pagg (.w h)))) r3 qz (qk rfl (fun h => o_not (.w h)) r2 qz (qf (o_or2 .t .t) r2 qz qZ)))))))))))))))))) (by kernel_rfl) (by rw [hB]; kernel_rfl) ?_
   clear hS; intro a w F hS
   obtain ⟨F, hS⟩ := hS.nm [126, 125, 124, 123, 122, 121, 120, 119, 118, 117, 116, 115, 114, 113, 112, 111, 110, 109, 108, 107, 106, 105, 104, 103, 102, 101, 100, 99, 98, 95, 94, 93, 21, 20, 19, 18, 17, 16, 15, 14, 6, 5, 4] [109, 108, 107, 102, 101, 0] rfl rfl
   try dsimp only [List.map, xD, xE, xT, xU, ldSF, rHist, rTx, rOrd, rVer, rInt, rOp, rEd, rDelta] at hS
   try simp only [Int.toNat_natCast] at hS
   refine then_n ?_
   refine cond_b hS rfl (fun hc6 => ?_) (fun hc6 => ?_)
   ·skip
    have h9 := hc6
    rw [hw2] at h9
    simp at h9
   refine wp_skip (then_n ?_)
   refine region_z hS (qf (oL true 2 109 .is) r1 r1 (qf (oA 2 107 .is .t) r2 r1 qZ)) hB [127, 126, 125, 124, 123, 122, 121, 120, 119, 118, 117, 116, 115, 114, 113, 112, 111, 110, 109, 108, 107, 106, 105, 104, 103, 102, 101, 100, 99, 98, 95, 94, 93, 21, 20, 19, 18, 17, 16, 15, 14, 6, 5, 4] [109, 108, 107, 102, 101, 0] rfl rfl ?_
   clear hS; intro a w F hS
   refine block_n (then_n ?_)
   refine region_z hS (qM rfl rfl (qf (o_add .t qi) r1 qz (qN rfl rfl qZ))) hB [127, 126, 125, 124, 123, 122, 121, 120, 119, 118, 117, 116, 115, 114, 113, 112, 111, 110, 109, 108, 107, 106, 105, 104, 103, 102, 101, 100, 99, 98, 97, 96, 95, 94, 93, 21, 20, 19, 18, 17, 16, 15, 14, 6, 5, 4] [109, 108, 107, 102, 101, 0] rfl rfl ?_
   clear hS; intro a w F hS
   refine then_n ?_
   replace hS := hS.ent (i := 17) (s' := .pv (.int .i64 ((i + 1 : Nat) : Int))) rfl (.int (wrap_succ (by omega)))
   obtain ⟨F, hS⟩ := hS.nm [16, 15, 14, 6, 5, 4, 17] [102, 0, 107, 101] rfl rfl
   exact ⟨(i + 1), F, hC2, hS, by omega⟩
  have hiE : i = D.length := by simp at hc5; omega
  refine wp_exit (then_x (then_x (block_x (then_n (wp_seq (wp_seq ?_))))))
  refine region_z hS (qM rfl rfl (qN rfl rfl qZ)) hB [22, 16, 15, 14, 6, 5, 4] [107, 102, 101, 0] rfl rfl ?_
  clear hS; intro a w F hS
  refine then_n (wp_block ?_)
  rw [hiE] at hS
  refine loop_keep (σ := Nat) [4, 5, 6, 14, 15, 16] [0, 102] (fun s => [(22, .pv (.int .i64 (s : Int)))]) (fun s => [(101, RS.hp (logH (.pointer (some ⟨b, 0, none⟩)) (refRoomU m) (D.take (D.length - s)) (D.drop (D.length - s)).reverse)), (107, .pt (.val v16) 30 [.pv (.sl rTx (Go.Gm.nth L (L.length - 1 - s)).txs), .pv (.sl rOrd (Go.Gm.nth L (L.length - 1 - s)).orders)])]) (fun s => s ≤ D.length) (fun s => s) (D.length) hS ⟨rfl, rfl, rfl, rfl, rfl, rfl, rfl, trivial⟩ ⟨rfl, rfl, rfl, rfl, trivial⟩ (Nat.le_refl _) ?_
  clear hS; intro i a w F hC hS
  try dsimp only at hC
  obtain ⟨F, hS⟩ := hS.nm [22, 16, 15, 14, 6, 5, 4] [107, 102, 101, 0] rfl rfl
  try dsimp only at hS
  have hi := hC
  refine wp_seq (wp_seq ?_)
  refine region_z hS (qM rfl rfl (qf (o_gtr .t qi) r1 qz qZ)) hB [130, 129, 22, 16, 15, 14, 6, 5, 4] [107, 102, 101, 0] rfl rfl ?_
  clear hS; intro a w F hS
  refine then_n ?_
  refine cond_b hS rfl (fun hc7 => ?_) (fun hc7 => ?_)
  ·skip
   obtain ⟨j, hj⟩ : ∃ j, i = j + 1 := ⟨i - 1, by have h9 := hc7; simp at h9; omega⟩
   obtain ⟨hbu, hsu, hbr, hsr⟩ := hq.back (by omega) (j := j) (by omega)
   have hbr2 : applyD (Go.Gm.nth L (L.length - 1 - i)) (Go.Gm.nth D (D.length - 1 - j)) = (Go.Gm.nth L (L.length - 1 - j), 0) := by rw [hj]; exact hbr
   have hsr2 : SmallHD (Go.Gm.nth L (L.length - 1 - i)) (Go.Gm.nth D (D.length - 1 - j)) := by rw [hj]; exact hsr
   have hw3 : IntKind.wrap .i64 (IntKind.wrap .i64 (((L.length - 1 : Nat) : Int) - (i : Int)) + 1) = ((L.length - 1 - j : Nat) : Int) := by rw [wrap_i64 (x := ((L.length - 1 : Nat) : Int) - (i : Int)) (by omega), wrap_i64 (by omega)]; omega
   refine wp_skip (then_n (wp_seq (wp_block (wp_seq ?_))))
   refine region_q hS (qM rfl rfl (qf (o_callG1 101 (redo_c b (refRoomU m) (D.take (D.length - i)) (D.drop (D.length - i)).reverse) Tryz.func18 rfl (by kernel_rfl) (Args.one .t)) r1 r1 (qM rfl rfl (qf (o_extract .t rfl) r1 qz (qf (o_extract .t rfl) r1 qz (qf (oH [.slice none 0 0, .slice none 0 0, .slice none 0 0, .slice none 0 0] 110) trivial qz (qf (oA 4 110 .same (.conv .t .agg)) r2 r1 (qN rfl rfl qZ)))))))) hB ?_
   clear hS; intro a w F hS
   replace hS := hS.sub
   obtain ⟨F, hS⟩ := hS.nm [137, 136, 135, 134, 133, 130, 129, 24, 23, 22, 16, 15, 14, 6, 5, 4] [110, 107, 102, 101, 0] rfl rfl
   try dsimp only [RS.sub, SF.sub, CF.sub, csub, Anc.sub, List.map, stCells, xL, xM, Nat.reduceAdd, xD, xE, xT, xU, xC, xN, zCF, rHist, rTx, rOrd, rVer, rInt, rOp, rEd, rDelta] at hS
   generalize Act.tau a 23 = v23 at hS
   obtain ⟨hu1, hu2, hu3⟩ := ubR (D := D) (i := j) (by omega)
   rw [← hj] at hu1 hu2 hu3
   rw [hu1, hu2, hu3] at hS
   dsimp only at hS
   refine then_n (wp_seq ?_)
   refine region_q hS (qf (oL true 2 107 .is) r1 r1 (qf (oL true 4 110 .is) r1 r1 (qf (oP (applyD_c (Go.Gm.nth L (L.length - 1 - i)) (Go.Gm.nth D (D.length - 1 - j)) hsr2) Tryz.func16 (Args.two (.pagg .t) (.pagg .t))) r2 qz (qM rfl rfl (qf (o_extract .t rfl) r1 qz (qf (o_extract .t rfl) r1 qz (qf (oH [.slice none 0 0, .slice none 0 0] 111) trivial qz (qf (oA 2 111 .same (.conv .t .agg)) r2 r1 (qN rfl rfl qZ))))))))) hB ?_
   clear hS; intro a w F hS
   replace hS := hS.sub
   obtain ⟨F, hS⟩ := hS.nm [143, 142, 141, 140, 139, 138, 137, 136, 135, 134, 133, 130, 129, 26, 25, 24, 23, 22, 16, 15, 14, 6, 5, 4] [111, 110, 107, 102, 101, 0] rfl rfl
   try dsimp only [RS.sub, SF.sub, CF.sub, csub, Anc.sub, List.map, stCells, xL, xM, Nat.reduceAdd, xD, xE, xT, xU, xC, xN, zCF, ldSF, rHist, rTx, rOrd, rVer, rInt, rOp, rEd, rDelta] at hS
   generalize Act.tau a 25 = v25 at hS
   rw [hbr2] at hS
   dsimp only at hS
   refine then_n (wp_seq (wp_seq ?_))
   refine region_any (by kernel_rfl) hS (by kernel_rfl) (qM rfl rfl (qf (o_neq .t qi) r1 qz (qM rfl rfl (qm rfl rfl rfl rfl (qk rfl (fun h => o_neq (.w h) qi) r2 qz (qf (o_or2 .t .t) r2 qz (qM rfl rfl (qk rfl (fun h => oL true 2 111 .is) r2 r1 (qm rfl rfl rfl rfl (qm rfl rfl rfl rfl (qm rfl rfl rfl rfl (qk rfl (fun h => o_sub (.w h) (.w h)) r3 qz (qk rfl (fun h => o_add (.w h) qi) r2 qz (qk rfl (fun h => o_indexAddr_row (sz := 2) 102 (.mk Tryz.underlying31 (by kernel_rfl)) (.w h .is) (.w h) (by rw [hw3]; omega) (by rw [hw3]; omega) (by rfl)) r3 r1 (qk rfl (fun h => o_load_row0 (ag := true) (sz' := 2) (sz := 2) 102 (.w h) (by intro x; rfl) (by rw [hw3]; omega) (by kernel_rfl) (by kernel_rfl) (by kernel_rfl)) r2 r1 (qk rfl (fun h => oP (sameHist_c _ _) Tryz.func17 (Args.two (.pagg (.w h)) (.pagg (.w h)))) r3 qz (qk rfl (fun h => o_not (.w h)) r2 qz (qf (o_or2 .t .t) r2 qz qZ)))))))))))))))))) (by kernel_rfl) (by rw [hB]; kernel_rfl) ?_
   clear hS; intro a w F hS
   obtain ⟨F, hS⟩ := hS.nm [161, 160, 159, 158, 157, 156, 155, 154, 153, 152, 151, 150, 149, 148, 147, 146, 145, 144, 143, 142, 141, 140, 139, 138, 137, 136, 135, 134, 133, 130, 129, 26, 25, 24, 23, 22, 16, 15, 14, 6, 5, 4] [111, 110, 107, 102, 101, 0] rfl rfl
   try dsimp only [List.map, xD, xE, xT, xU, ldSF, rHist, rTx, rOrd, rVer, rInt, rOp, rEd, rDelta] at hS
   try simp only [Int.toNat_natCast] at hS
   refine then_n ?_
   refine cond_b hS rfl (fun hc8 => ?_) (fun hc8 => ?_)
   ·skip
    have h9 := hc8
    rw [hw3] at h9
    simp at h9
   refine wp_skip (then_n ?_)
   refine region_z hS (qf (oL true 2 111 .is) r1 r1 (qf (oA 2 107 .is .t) r2 r1 qZ)) hB [162, 161, 160, 159, 158, 157, 156, 155, 154, 153, 152, 151, 150, 149, 148, 147, 146, 145, 144, 143, 142, 141, 140, 139, 138, 137, 136, 135, 134, 133, 130, 129, 26, 25, 24, 23, 22, 16, 15, 14, 6, 5, 4] [111, 110, 107, 102, 101, 0] rfl rfl ?_
   clear hS; intro a w F hS
   refine block_n (then_n ?_)
   refine region_z hS (qM rfl rfl (qf (o_sub .t qi) r1 qz (qN rfl rfl qZ))) hB [162, 161, 160, 159, 158, 157, 156, 155, 154, 153, 152, 151, 150, 149, 148, 147, 146, 145, 144, 143, 142, 141, 140, 139, 138, 137, 136, 135, 134, 133, 132, 131, 130, 129, 26, 25, 24, 23, 22, 16, 15, 14, 6, 5, 4] [111, 110, 107, 102, 101, 0] rfl rfl ?_
   clear hS; intro a w F hS
   refine then_n ?_
   replace hS := hS.ent (i := 22) (s' := .pv (.int .i64 (j : Int))) rfl (.int (by rw [hj, wrap_i64 (by omega)]; omega))
   obtain ⟨F, hS⟩ := hS.nm [16, 15, 14, 6, 5, 4, 22] [102, 0, 107, 101] rfl rfl
   exact ⟨(j), F, (show j ≤ D.length by omega), hS, by omega⟩
  have hi0 : i = 0 := by simp at hc7; omega
  subst hi0
  replace hS := hS.turn 101 rfl (r' := RS.hp (logH (.pointer (some ⟨b, 0, none⟩)) (refRoomU m) D [])) (fun _ _ _ _ h => by rw [Nat.sub_zero, List.take_length, List.drop_length] at h; exact h)
  refine wp_exit (then_x (then_x (block_x (then_n (wp_seq ?_)))))
  refine region_q hS (qM rfl rfl (qf (o_callG1 101 (redo_c b (refRoomU m) D []) Tryz.func18 rfl (by kernel_rfl) (Args.one .t)) r1 r1 (qM rfl rfl (qf (o_extract .t rfl) r1 qz (qf (o_extract .t rfl) r1 qz (qf (oH [.slice none 0 0, .slice none 0 0, .slice none 0 0, .slice none 0 0] 112) trivial qz (qf (oA 4 112 .same (.conv .t .agg)) r2 r1 (qN rfl rfl qZ)))))))) hB ?_
  clear hS; intro a w F hS
  replace hS := hS.sub
  obtain ⟨F, hS⟩ := hS.nm [28, 15, 5, 4] [112, 107, 102, 101, 0] rfl rfl
  try dsimp only [RS.sub, SF.sub, CF.sub, csub, Anc.sub, List.map, stCells, xL, xM, Nat.reduceAdd, xD, xE, xT, xU, xC, xN, zCF, rHist, rTx, rOrd, rVer, rInt, rOp, rEd, rDelta] at hS
  generalize Act.tau a 27 = v27 at hS
  rw [show redoL (D, ([] : List DeltaD)) = (D, []) from rfl, show redoX [] = noD from rfl, show emptyE ([] : List DeltaD) = 15 from rfl] at hS
  dsimp only at hS
  refine then_n (wp_seq ?_)
  refine region_z hS (qM rfl rfl (qf (o_eql .t qi) r1 qz (qM rfl rfl (qm rfl rfl rfl rfl (Chain.cons (Cert.condR rfl rfl (by rfl) (fun h => o_callG1 101 (len_c b (refRoomU m) D []) Tryz.func13 rfl (by kernel_rfl) (Args.one (.w h)))) r2 r1 (qm rfl rfl rfl rfl (qk rfl (fun h => o_eql (.w h) (.w h)) r3 qz (qf (o_and2 .t .t) r2 qz (qM rfl rfl (qm rfl rfl rfl rfl (Chain.cons (Cert.condR rfl rfl (by rfl) (fun h => o_callG1 101 (ahead_c b (refRoomU m) D []) Tryz.func19 rfl (by kernel_rfl) (Args.one (.w h)))) r2 r1 (qk rfl (fun h => o_eql (.w h) qi) r2 qz (qf (o_and2 .t .t) r2 qz (qN rfl rfl qZ)))))))))))))) hB [4] [112, 107, 102, 101, 0] rfl rfl ?_
  clear hS; intro a w F hS
  try dsimp only [rHist, rTx, rOrd, rVer, rInt, rOp, rEd, rDelta] at hS
  refine then_n (wp_ret ?_)
  refine ret_P hfr hS rfl (.tmp rfl .nil) (.one (.bool (by first | rfl | simp | exact hfin)))

end Go.Proofs.YtcfgcpcakdknkaaGreat
