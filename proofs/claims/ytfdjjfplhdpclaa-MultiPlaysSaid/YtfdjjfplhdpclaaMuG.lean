/- MultiPlays. No condition beyond those that each theorem says. -/
import Derived.Test.YtfdjjfplhdpclaaMuF
namespace Go.Proofs.Ytfdjjfplhdpclaa
open Go Go.Gm
set_option linter.unusedVariables false
set_option linter.unusedSimpArgs false
set_option maxHeartbeats 4000000
set_option maxRecDepth 8000


theorem mplays_c (l first : List HvD) (e : EdgeD) : FnP Try.prog 3 [.sl rHv l, .sl rHv first, .agg (rEdge e)] (.bool true) := by
  refine FnP.mk Try.func3 rfl Try.ntmps3 rfl ?_
  intro B a w F hB hfr hS
  have hll := Sat.lenSl hS (i := 0) rfl
  have hfl := Sat.lenSl hS (i := 1) rfl
  refine wp_seq ?_
  refine region_q hS
    (cF rfl (oX 101 (.conv .t .agg)) r1 trivial
    (cF rfl (oN .cb) trivial trivial
    Chain.nil))
    hB ?_
  clear hS; intro a w F hS
  replace hS := hS.sub
  obtain ⟨F, hS⟩ := hS.nm [6, 5, 1, 0] [101, 0] rfl rfl
  try dsimp only [RS.sub, SF.sub, CF.sub, csub, Anc.sub, List.map, zCF, rEdge, rHv] at hS
  generalize Act.tau a 5 = v5 at hS
  refine then_n (wp_seq (wp_seq ?_))
  refine region_q hS
    (cF rfl (oM .t) r1 trivial
    (cF rfl (o_len_sl Try.underlying22 .t) r1 trivial
    (cF rfl (o_gtr .t (.ci (by kernel_rfl))) r1 trivial
    (cF rfl (oM .t) r1 trivial
    (Chain.cons (Cert.cond rfl rfl (fun h => o_move .t (by rfl))) r2 trivial
    (Chain.cons (Cert.cond rfl rfl (fun h => o_len_sl Try.underlying22 (.w h))) r2 trivial
    (Chain.cons (Cert.cond rfl rfl (fun h => o_gtr (.w h) (.ci (by kernel_rfl)))) r2 trivial
    (cF rfl (o_or2 .t .t) r2 trivial
    Chain.nil))))))))
    hB ?_
  clear hS; intro a w F hS
  obtain ⟨F, hS⟩ := hS.nm [20, 6, 5, 1, 0] [101, 0] rfl rfl
  try dsimp only [rEdge, rHv] at hS
  refine then_n ?_
  refine cond_b hS rfl (fun hc0 => ?_) (fun hc0 => ?_)
  ·skip
   refine wp_seq ?_
   refine region_q hS
     (cF rfl (oP (lives17_c) Try.func5 Args.nil) trivial trivial
     (cF rfl (oN .t) r1 trivial
     Chain.nil))
     hB ?_
   clear hS; intro a w F hS
   obtain ⟨F, hS⟩ := hS.nm [6, 5, 1, 0] [101, 0] rfl rfl
   try dsimp only [rEdge, rHv] at hS
   refine then_n (wp_ret (then_r ?_))
   refine ret_P hfr hS rfl (.tmp rfl .nil) (.one (.bool (by first | rfl | simp)))
  have hll2 : l.length ≤ 60 ∧ first.length ≤ 60 := by simp at hc0; omega
  refine wp_skip (then_n (wp_seq ?_))
  replace hS := hS.fresh 61 rfl
  refine region_q hS
    (cF rfl (oM .t) r1 trivial
    (cF rfl (o_callN 61 (mof_c first (by omega)) Try.func6 rfl (by kernel_rfl) (Args.one .t) PV.ptr_one) r1 r1
    (cF rfl (oM .t) r1 trivial
    (cF rfl (oP (of17_c first (by omega)) Try.func7 (Args.one .t)) r1 trivial
    (cF rfl (oN .t) r1 trivial
    (cF rfl (oN .t) r1 trivial
    Chain.nil))))))
    hB ?_
  clear hS; intro a w F hS
  replace hS := hS.sub
  obtain ⟨F, hS⟩ := hS.nm [8, 7, 6, 5, 0] [101, 61, 0] rfl rfl
  try dsimp only [RS.sub, SF.sub, CF.sub, csub, Anc.sub, List.map, rEdge, rHv] at hS
  generalize Act.tau a 23 = v23 at hS
  obtain ⟨_, _, _, ho⟩ := hS.obGet 61 rfl
  obtain ⟨b1, rfl⟩ := mulH_ptr ho
  clear ho
  replace hS := hS.turn 61 rfl (r' := RS.hp (mulH (.pointer (some ⟨b1, 0, none⟩)) (ofB first))) (fun _ _ _ _ h => h)
  obtain ⟨F, hS⟩ := hS.nm [8, 7, 6, 5, 0] [101, 61, 0] rfl rfl
  refine then_n (wp_seq (wp_seq ?_))
  refine region_q hS
    (cF rfl (oM .t) r1 trivial
    (cF rfl (o_nil_eql _ Try.underlying26 rfl .t) r1 trivial
    (cF rfl (oM .t) r1 trivial
    (Chain.cons (Cert.cond rfl rfl (fun h => o_move .t (by rfl))) r2 trivial
    (Chain.cons (Cert.cond rfl rfl (fun h => o_move .t (by rfl))) r2 trivial
    (Chain.cons (Cert.cond rfl rfl (fun h => o_load (ag := true) (sz := 4) 101 .is (by kernel_rfl) (by kernel_rfl) (by kernel_rfl) (by rfl))) r2 r1
    (Chain.cons (Cert.condR rfl rfl (by rfl) (fun h => o_callG1 61 (tells_c b1 (ofB first) e) Try.func8 rfl (by kernel_rfl) (Args.three (.w h) (.w h) (.pagg (.w h))))) r4 r1
    (Chain.cons (Cert.cond rfl rfl (fun h => o_not (.w h))) r2 trivial
    (cF rfl (o_or2 .t .t) r2 trivial
    Chain.nil)))))))))
    hB ?_
  clear hS; intro a w F hS
  obtain ⟨F, hS⟩ := hS.nm [34, 8, 7, 6, 5, 0] [101, 61, 0] rfl rfl
  try dsimp only [List.map, xD, xE, xT, xU, ldSF, rEdge, rHv] at hS
  refine then_n ?_
  refine cond_b hS rfl (fun hc1 => ?_) (fun hc1 => ?_)
  ·skip
   simp at hc1
  refine wp_skip (then_n (wp_seq (wp_seq ?_)))
  refine region_q hS
    (cF rfl (oM .t) r1 trivial
    (cF rfl (o_len_sl Try.underlying22 .t) r1 trivial
    (cF rfl (oM (.ci (by kernel_rfl))) trivial trivial
    Chain.nil)))
    hB ?_
  clear hS; intro a w F hS
  obtain ⟨F, hS⟩ := hS.nm [37, 36, 35, 8, 7, 6, 5] [101, 61, 0] rfl rfl
  try dsimp only [rEdge, rHv] at hS
  refine then_n (wp_block ?_)
  refine loop_keep (σ := (Nat) × (List HvD)) [5, 6, 7, 35, 36] [0, 101] (fun s => [(37, .pv (.int .i64 (s.1 : Int))), (8, .pv (.sl rHv s.2))]) (fun s => [(61, RS.hp (mulH (.pointer (some ⟨b1, 0, none⟩)) s.2))]) (fun s => s.1 ≤ l.length ∧ (s.2.length ≤ 60 + s.1 ∧ BagOk s.2)) (fun s => l.length - s.1) ((0), ((ofB first))) hS ⟨rfl, rfl, rfl, rfl, rfl, rfl, rfl, trivial⟩ ⟨rfl, rfl, rfl, trivial⟩ ⟨Nat.zero_le _, ⟨by show (ofB first).length ≤ 60 + 0; have := ofB_len first; omega, ofB_ok first⟩⟩ ?_
  clear hS; intro s a w F hC hS
  obtain ⟨i, bg⟩ := s
  try dsimp only at hC
  obtain ⟨F, hS⟩ := hS.nm [37, 36, 35, 8, 7, 6, 5] [101, 61, 0] rfl rfl
  try dsimp only at hS
  obtain ⟨hi, hq⟩ := hC
  obtain ⟨hbl, hbo⟩ := hq
  refine wp_seq ?_
  refine region_q hS
    (cF rfl (o_lss .t .t) r2 trivial
    Chain.nil)
    hB ?_
  clear hS; intro a w F hS
  obtain ⟨F, hS⟩ := hS.nm [38, 37, 36, 35, 8, 7, 6, 5] [101, 61, 0] rfl rfl
  try dsimp only [rEdge, rHv] at hS
  refine then_n (wp_seq ?_)
  refine cond_b hS rfl (fun hc2 => ?_) (fun hc2 => ?_)
  ·skip
   have hil : i < l.length := by simp at hc2; omega
   refine wp_skip (then_n (wp_seq (wp_block (wp_seq ?_))))
   refine region_q hS
     (cF rfl (o_indexAddr_sl (sz := 5) (.mk Try.underlying22 (by kernel_rfl)) (by intro x; rfl) .t .t (by omega) (by omega)) r2 trivial
     (cF rfl (oR true 5 .t) r1 trivial
     (cF rfl (oH [.int .i64 0, .int .i64 0, .int .i64 0, .int .i64 0, .int .i64 0] 102) trivial trivial
     (cF rfl (oA 5 102 .same .t) r2 r1
     Chain.nil))))
     hB ?_
   clear hS; intro a w F hS
   replace hS := hS.sub
   obtain ⟨F, hS⟩ := hS.nm [37, 36, 35, 10, 8, 7, 6, 5] [102, 101, 61, 0] rfl rfl
   try dsimp only [RS.sub, SF.sub, CF.sub, csub, Anc.sub, List.map, stCells, xL, xM, Nat.reduceAdd, xD, xE, xT, xU, xC, xN, zCF, ldSF, rEdge, rHv] at hS
   generalize Act.tau a 10 = v10 at hS
   try simp only [Int.toNat_natCast] at hS
   refine then_n (wp_seq ?_)
   refine region_q hS
     (cF rfl (oM .t) r1 trivial
     (cF rfl (oF 0 102 .is) r1 r1
     (cF rfl (oL true 4 102 .adr) r1 r1
     (cF rfl (oF 4 102 .is) r1 r1
     (cF rfl (oL false 1 102 .adr) r1 r1
     (cF rfl (oP (add17_c bg (Go.Gm.nth l i).edge (Go.Gm.nth l i).cnt hbo (by omega)) Try.func9 (Args.three .t (.pagg .t) .t)) r3 trivial
     (cF rfl (oM .t) r1 trivial
     (cF rfl (o_extract .t rfl) r1 trivial
     (cF rfl (o_extract .t rfl) r1 trivial
     (cF rfl (oN .t) r1 trivial
     (cF rfl (oN .t) r1 trivial
     Chain.nil)))))))))))
     hB ?_
   clear hS; intro a w F hS
   obtain ⟨F, hS⟩ := hS.nm [37, 36, 35, 12, 11, 10, 8, 7, 6, 5] [102, 101, 61, 0] rfl rfl
   try dsimp only [List.map, xD, xE, xT, xU, ldSF, rEdge, rHv] at hS
   obtain ⟨bg2, hbg2⟩ : ∃ z, z = (addB bg (Go.Gm.nth l i).edge (Go.Gm.nth l i).cnt).1 := ⟨_, rfl⟩
   rw [← hbg2] at hS
   have hbo2 : BagOk bg2 := by rw [hbg2]; exact addB_ok hbo _ _
   have hbl2 : bg2.length ≤ bg.length + 1 := by rw [hbg2]; exact addB_len hbo _ _
   refine then_n (wp_seq ?_)
   refine region_q hS
     (cF rfl (oM .t) r1 trivial
     (cF rfl (oN .t) r1 trivial
     Chain.nil))
     hB ?_
   clear hS; intro a w F hS
   obtain ⟨F, hS⟩ := hS.nm [37, 36, 35, 12, 10, 8, 7, 6, 5] [102, 101, 61, 0] rfl rfl
   try dsimp only [rEdge, rHv] at hS
   refine then_n (wp_seq ?_)
   refine part_first 6 hS (by kernel_rfl)
     (cG rfl (oM .t) r1 trivial
     (cG rfl (oF 0 102 .is) r1 r1
     (cG rfl (oL true 4 102 .adr) r1 r1
     (cG rfl (oF 4 102 .is) r1 r1
     (cG rfl (oL false 1 102 .adr) r1 r1
     (cG rfl (o_callG1 61 (madd_c b1 bg (Go.Gm.nth l i).edge (Go.Gm.nth l i).cnt (by omega)) Try.func10 rfl (by kernel_rfl) (Args.three .t (.pagg .t) .t)) r3 r1
     ChainN.nil))))))
     (by kernel_rfl) (by rw [hB]; kernel_rfl) ?_
   clear hS; intro a w F hS
   obtain ⟨F, hS⟩ := hS.nm [56, 37, 36, 35, 12, 10, 8, 7, 6, 5] [102, 101, 61, 0] rfl rfl
   try dsimp only [List.map, xD, xE, xT, xU, ldSF, rEdge, rHv] at hS
   rw [← hbg2] at hS
   refine part_last hS (by kernel_rfl)
     (cG rfl (oM .t) r1 trivial
     (cG rfl (o_neq .t .t) r2 trivial
     (cG rfl (oM .t) r1 trivial
     (ChainN.cons (Cert.cond rfl rfl (fun h => o_move .t (by rfl))) r2 trivial
     (ChainN.cons (Cert.cond rfl rfl (fun h => o_move .t (by rfl))) r2 trivial
     (ChainN.cons (Cert.cond rfl rfl (fun h => o_fieldAddr (off := 0) 102 .is (by kernel_rfl) (by rfl))) r2 r1
     (ChainN.cons (Cert.cond rfl rfl (fun h => o_load (ag := true) (sz := 4) 102 (.w h .adr) (by kernel_rfl) (by kernel_rfl) (by kernel_rfl) (by rfl))) r2 r1
     (ChainN.cons (Cert.condR rfl rfl (by rfl) (fun h => o_callG1 61 (tells_c b1 bg2 (Go.Gm.nth l i).edge) Try.func8 rfl (by kernel_rfl) (Args.three (.w h) (.w h) (.pagg (.w h))))) r4 r1
     (ChainN.cons (Cert.cond rfl rfl (fun h => o_not (.w h))) r2 trivial
     (cG rfl (o_or2 .t .t) r2 trivial
     (cG rfl (oM .t) r1 trivial
     (ChainN.cons (Cert.cond rfl rfl (fun h => o_move .t (by rfl))) r2 trivial
     (ChainN.cons (Cert.cond rfl rfl (fun h => o_move .t (by rfl))) r2 trivial
     (ChainN.cons (Cert.cond rfl rfl (fun h => o_load (ag := true) (sz := 4) 101 .is (by kernel_rfl) (by kernel_rfl) (by kernel_rfl) (by rfl))) r2 r1
     (ChainN.cons (Cert.condR rfl rfl (by rfl) (fun h => o_callG1 61 (tells_c b1 bg2 e) Try.func8 rfl (by kernel_rfl) (Args.three (.w h) (.w h) (.pagg (.w h))))) r4 r1
     (ChainN.cons (Cert.cond rfl rfl (fun h => o_not (.w h))) r2 trivial
     (cG rfl (o_or2 .t .t) r2 trivial
     ChainN.nil)))))))))))))))))
     (by kernel_rfl) (by rw [hB]; kernel_rfl) ?_
   clear hS; intro a w F hS
   obtain ⟨F, hS⟩ := hS.nm [73, 37, 36, 35, 8, 7, 6, 5] [101, 61, 0] rfl rfl
   try dsimp only [List.map, xD, xE, xT, xU, ldSF, rEdge, rHv] at hS
   refine then_n ?_
   refine cond_b hS rfl (fun hc3 => ?_) (fun hc3 => ?_)
   ·skip
    simp at hc3
   refine wp_skip (block_n (then_n ?_))
   refine region_q hS
     (cF rfl (o_add .t (.ci (by kernel_rfl))) r1 trivial
     (cF rfl (oM .t) r1 trivial
     Chain.nil))
     hB ?_
   clear hS; intro a w F hS
   obtain ⟨F, hS⟩ := hS.nm [37, 36, 35, 8, 7, 6, 5] [101, 61, 0] rfl rfl
   try dsimp only [rEdge, rHv] at hS
   refine then_n ?_
   replace hS := hS.ent (i := 37) (s' := .pv (.int .i64 ((i + 1 : Nat) : Int))) rfl (.int (wrap_succ (by omega)))
   obtain ⟨F, hS⟩ := hS.nm [36, 35, 7, 6, 5, 8, 37] [101, 0, 61] rfl rfl
   exact ⟨((i + 1), (bg2)), F, ⟨by omega, ⟨by show bg2.length ≤ 60 + (i + 1); omega, hbo2⟩⟩, hS, by omega⟩
  have hil : i = l.length := by simp at hc2; omega
  refine wp_exit (then_x (then_x (block_x (then_n (wp_seq ?_)))))
  refine region_q hS
    (cF rfl (oP (lives17_c) Try.func5 Args.nil) trivial trivial
    (cF rfl (oN .t) r1 trivial
    Chain.nil))
    hB ?_
  clear hS; intro a w F hS
  obtain ⟨F, hS⟩ := hS.nm [6] [61, 0] rfl rfl
  try dsimp only [rEdge, rHv] at hS
  refine then_n (wp_ret ?_)
  refine ret_P hfr hS rfl (.tmp rfl .nil) (.one (.bool (by first | rfl | simp)))

end Go.Proofs.Ytfdjjfplhdpclaa
